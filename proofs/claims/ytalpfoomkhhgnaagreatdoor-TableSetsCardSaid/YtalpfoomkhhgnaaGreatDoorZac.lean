/- Names for commits, over a file system: what each call does, in plain Lean. Conditions: as each theorem states. -/
import Derived.Test.YtalpfoomkhhgnaaGreatDoorZab
import Derived.Maps.AppendAt
import Derived.Laws.LoneSync
import Derived.Deep.DeepCutAuto
import Derived.Sort.OwnSorted
import Derived.Sort.KeysCollected
import Derived.Shelf.SlicesE.DeleteFunc
import Derived.Lib.SliceRun

set_option linter.unusedVariables false
set_option linter.unusedSimpArgs false

/-! Files asked: Used, dir, Paths, Peek. Conditions: as each theorem states. -/
namespace Go.Proofs.YtalpfoomkhhgnaaGreatDoor
open Go Go.RowKit

def leftF (left : Lit → Bool) (l : Files) : Files := l.filter fun e => left (.string e.1)
def strike (left : Lit → Bool) (p : B8) : Lit → Bool := fun z => left z && !z.sameKey (.string p)
theorem same_str (a b : B8) : (Lit.string a).sameKey (.string b) = (a == b) := rfl

theorem strike_perm {left : Lit → Bool} {p : B8} {f : Fi} (hl : left (.string p) = true) : ∀ {l : Files}, Rising l → look l p = some f → (leftF left l).Perm ((p, f) :: leftF (strike left p) l)
  | [], _, hk => by simp [look] at hk
  | e :: l, hr, hk => by
    obtain ⟨h1, h2⟩ := List.pairwise_cons.1 hr
    by_cases he : e.1 = p
    · have hef : e = (p, f) := by
        have : look (e :: l) p = some e.2 := by unfold look; rw [List.find?_cons]; simp [he]
        rw [this] at hk
        rw [← Option.some.inj hk, ← he]
      subst hef
      have hrest : leftF (strike left p) l = leftF left l := by
        unfold leftF
        refine List.filter_congr fun x hx => ?_
        have hne : x.1 ≠ p := fun h => ltB_ne (h1 x hx) h.symm
        unfold strike
        rw [same_str]
        simp [hne]
      unfold leftF at *
      rw [List.filter_cons, if_pos hl, List.filter_cons]
      have hs : strike left p (.string p) = false := by unfold strike; rw [same_str]; simp
      rw [if_neg (by simp [hs]), hrest]
    · have hk' : look l p = some f := by
        have : look (e :: l) p = look l p := by
          unfold look
          rw [List.find?_cons]
          have : (e.1 == p) = false := by simpa using he
          rw [this]
        rwa [this] at hk
      have ih := strike_perm hl h2 hk'
      have hs : strike left p (.string e.1) = left (.string e.1) := by
        unfold strike; rw [same_str]; simp [he]
      unfold leftF at *
      rw [List.filter_cons, List.filter_cons, hs]
      split
      · exact (List.Perm.cons e ih).trans (List.Perm.swap _ _ _)
      · exact ih

theorem leftF_none {left : Lit → Bool} {l : Files} (h : ∀ k, left k = false) : leftF left l = [] := by
  unfold leftF; rw [List.filter_eq_nil_iff]; intro e _; simp [h]
def lenSum (l : Files) : Nat := (l.map fun e => e.2.data.length).sum
def dirB (l : Files) (path but : B8) : Bool := l.any fun e => !(e.1 == but) && isUnder path e.1

end Go.Proofs.YtalpfoomkhhgnaaGreatDoor

/-! names.Split, names.Parents; may a file stand at a path; fsim.wrong. Conditions: paths of at most 10000000 signs. -/
namespace Go.Proofs.YtalpfoomkhhgnaaGreatDoor
open Go Go.RowKit

theorem join_any (v : Value) (L : List B8) (sep : B8) (w : World) (hv : IsStrs w v L) (hl : (Lib.join L sep).length ≤ 140737488355328) :
    Calls Tryz.prog 53 #[v, S8 sep] w fun e w' => e = .returned (S8 (Lib.join L sep)) ∧ Ext w w' := by
  obtain ⟨a, cap, rfl, h1, h2, h3, h4⟩ := hv
  cases L with
  | nil => exact (Tryz.strings_Join_none a cap ⟨sep.toArray⟩ w).mono fun e w' ⟨he, hw⟩ => ⟨he, by rw [hw]; exact Ext.refl _⟩
  | cons x L =>
    obtain ⟨b, o, rfl, hc⟩ := h4 (by simp)
    have hm : (((x :: L).map fun l => (⟨l.toArray⟩ : ByteArray)).map (·.data.toList)) = x :: L := by
      rw [List.map_map]
      exact List.map_id _
    have h := Tryz.strings_Join b o cap ((x :: L).map fun l => (⟨l.toArray⟩ : ByteArray)) ⟨sep.toArray⟩ w (fun j y hy => hc j _ (by
      rw [List.getElem?_map] at hy ⊢
      obtain ⟨z, hz, rfl⟩ := Option.map_eq_some_iff.1 hy
      rw [hz]; rfl)) (by
        have := hc 0 _ rfl
        exact World.block_lt_of_cell? _ _ this) (by simpa using h3) (by simpa using h1) (by rw [hm]; exact hl)
    rw [hm, List.length_map] at h
    exact h

theorem join_len (sep : B8) : ∀ L : List B8, (Lib.join L sep).length ≤ (L.map List.length).sum + L.length * sep.length
  | [] => by simp [Lib.join_nil]
  | x :: L => by
    rw [Lib.join_cons]
    have : ∀ M : List B8, (Lib.joinTail sep M).length = (M.map List.length).sum + M.length * sep.length := by
      intro M
      induction M with
      | nil => simp [Lib.joinTail]
      | cons y M ih =>
        unfold Lib.joinTail at *
        simp only [List.map_cons, List.flatten_cons, List.length_append, List.sum_cons, List.length_cons, ih, Nat.add_mul]
        omega
    simp only [List.length_append, this, List.map_cons, List.sum_cons, List.length_cons, Nat.add_mul]
    omega

theorem take_sum_le : ∀ (L : List Nat) (k : Nat), (L.take k).sum ≤ L.sum
  | [], k => by simp
  | x :: L, 0 => by simp
  | x :: L, k + 1 => by have := take_sum_le L k; simp; omega

theorem join_take_le (l : B8) (k : Nat) : (Lib.join ((cut 47 l).take k) [47]).length ≤ 2 * l.length + 2 := by
  have h1 := join_len [47] ((cut 47 l).take k)
  have h2 := cut_total 47 l
  have h3 := cut_length 47 l
  have h4 := take_sum_le ((cut 47 l).map List.length) k
  rw [← List.map_take] at h4
  have h5 := List.length_take_le k (cut 47 l)
  have h6 : ((cut 47 l).take k).length ≤ (cut 47 l).length := List.length_take_le' k (cut 47 l)
  simp only [List.length_cons, List.length_nil] at h1
  omega

theorem IsStrs.take {w : World} {a : Option Addr} {L : List B8} {cap n : Nat} (h : IsStrs w (.slice a L.length cap) L) (hn : n ≤ L.length) : IsStrs w (.slice a n cap) (L.take n) := by
  obtain ⟨a', cap', he, h1, h2, h3, h4⟩ := h
  simp only [Value.slice.injEq, true_and] at he
  obtain ⟨rfl, rfl⟩ := he
  have hl : (L.take n).length = n := by rw [List.length_take]; omega
  refine ⟨a, cap, by rw [hl], by omega, h2, by omega, fun hne => ?_⟩
  obtain ⟨b, o, rfl, hc⟩ := h4 (by
    intro h0
    have : L = [] := by simpa using h0
    subst this
    simp at hne)
  refine ⟨b, o, rfl, fun i u hu => hc i u ?_⟩
  rw [List.getElem?_map] at hu ⊢
  obtain ⟨x, hx, rfl⟩ := Option.map_eq_some_iff.1 hu
  rw [List.getElem?_take] at hx
  split at hx
  · rw [hx]; rfl
  · simp at hx

def splitL (l : B8) : List B8 := if pathB l then cut 47 l else []

set_option maxRecDepth 100000 in
set_option maxHeartbeats 400000 in
theorem nsplitF_any (l : B8) (w : World) (hE : Env w) (hl : l.length ≤ 10000000) :
    Calls Tryz.prog 52 #[S8 l] w fun e w' => (∃ v, e = .returned v ∧ IsStrs w' v (splitL l) ∧ ∀ b, v.ownBlock = some b → w.heap.size ≤ b) ∧ Ext w w' := by
  have HE : Hid _ := hE
  clear hE
  have hS : splitL l = if pathB l then cut 47 l else [] := rfl
  have HS : Hid _ := hS
  clear hS
  cases hp : pathB l with
  | true =>
    have HP : Hid _ := hp
    go_enter Tryz.func52, Tryz.ntmps52
    go_wp2_with (first
      | (go_at_call 19; go_must (refine (path_l l _ HE.out (by omega)).mono ?_; rintro e w2 ⟨rfl, hx2⟩))
      | (go_at_call 50; go_must (refine (split_any ⟨l.toArray⟩ 47 _ (HE.out.ext hx2) (Nat.lt_of_le_of_lt hl (by decide))).mono ?_; rintro e w3 ⟨v, rfl, hv, hfr, hx3⟩; have HFR : Hid _ := hfr.2; clear hfr; have HV : Hid _ := hv; obtain ⟨a, c, rfl, -⟩ := id hv; clear hv)))
    go_ret
    exact ⟨⟨_, rfl, by rw [HS.out, if_pos HP.out]; exact HV.out, fun b hb => Nat.le_trans hx2.size (HFR.out b hb)⟩, hx2.trans hx3⟩
  | false =>
    have HP : Hid _ := hp
    go_enter Tryz.func52, Tryz.ntmps52
    go_wp2_with (go_at_call 19; go_must (refine (path_l l _ HE.out (by omega)).mono ?_; rintro e w2 ⟨rfl, hx2⟩))
    go_ret
    exact ⟨⟨_, rfl, by rw [HS.out, if_neg (by simp [HP.out])]; exact IsStrs.nil _, fun b hb => by cases hb⟩, hx2⟩

theorem nsplit_any (l : B8) (w : World) (hE : Env w) (hl : l.length ≤ 10000000) :
    Calls Tryz.prog 52 #[S8 l] w fun e w' => (∃ v, e = .returned v ∧ IsStrs w' v (splitL l)) ∧ Ext w w' :=
  (nsplitF_any l w hE hl).mono (by rintro e w' ⟨⟨v, h1, h2, -⟩, hx⟩; exact ⟨⟨v, h1, h2⟩, hx⟩)

def parentsN (L : List B8) (k : Nat) : List B8 := (List.range k).map fun i => Lib.join (L.take (i + 1)) [47]
def parentsL (l : B8) : List B8 := parentsN (splitL l) ((splitL l).length - 1)
theorem parentsN_succ (L : List B8) (k : Nat) : parentsN L (k + 1) = parentsN L k ++ [Lib.join (L.take (k + 1)) [47]] := by
  unfold parentsN; rw [List.range_succ, List.map_append]; rfl
theorem parentsN_length (L : List B8) (k : Nat) : (parentsN L k).length = k := by simp [parentsN]

set_option maxRecDepth 100000 in
set_option maxHeartbeats 1000000 in
theorem parents_any (l : B8) (w : World) (hE : Env w) (hl : l.length ≤ 10000000) :
    Calls Tryz.prog 20 #[S8 l] w fun e w' => (∃ v, e = .returned v ∧ IsStrs w' v (parentsL l)) ∧ Ext w w' := by
  have HE : Hid _ := hE
  have hS : splitL l = [] ∨ splitL l = cut 47 l := by unfold splitL; split <;> simp
  have hlen : (splitL l).length ≤ 10000001 := by
    rcases hS with h | h
    · rw [h]; simp
    · rw [h]; have := (cut_length 47 l).2; omega
  have HJ : Hid (∀ k, (Lib.join ((splitL l).take k) [47]).length ≤ 140737488355328) := fun k => by
    rcases hS with h | h
    · rw [h, List.take_nil, Lib.join_nil]; simp
    · rw [h]; have := join_take_le l k; omega
  have HP : Hid (parentsL l = parentsN (splitL l) ((splitL l).length - 1)) := rfl
  generalize hL : splitL l = L at *
  have HL : Hid _ := hL
  clear hE hS hL
  go_enter Tryz.func20, Tryz.ntmps20
  go_wp2_with (go_at_call 52; go_must (refine (nsplit_any l _ HE.out hl).mono ?_; rw [HL.out]; rintro e w2 ⟨⟨v, rfl, hv⟩, hx2⟩; have HV : Hid _ := hv; obtain ⟨a, cap, rfl, h1, h2, h3, -⟩ := id hv; clear hv))
  go_loopw [4, 5] (fun v i wr => ∃ k : Nat, k ≤ L.length - 1 ∧ i = .int .i64 ((k + 1 : Nat) : Int) ∧ wr.ownsRow w2.heap.size 9 1 v k ((parentsN L k).map S8) ∧ Ext w2 wr) (fun _ i _ => L.length - (intOf i).toNat)
  case atStart => exact ⟨0, Nat.zero_le _, rfl, World.ownsRow_nil _ _ _ _, Ext.refl _⟩
  case round =>
    obtain ⟨k, hk, rfl, hown, hx⟩ := hrel
    have hsz := hx.size
    by_cases hlt : k + 1 < L.length
    · have i0 : (0 : Int) ≤ ((k + 1 : Nat) : Int) := by omega
      have i1 : ((k + 1 : Nat) : Int) ≤ (cap : Int) := by omega
      go_wp2_with (first
        | (go_at_call 53; go_must (refine (join_any _ (L.take (k + 1)) [47] _ (IsStrs.take (IsStrs.ext HV.out hx) (by omega)) (HJ.out _)).mono ?_; rintro e' w3 ⟨rfl, hx3⟩; have hown3 := owns_ext hown hx3; have hsz3 := hx3.size))
        | (at_builtin; go_must (refine app_str rfl _ _ rfl w2.heap.size _ k _ rfl (hown3.alloc _) w3.heap.size 1 1 [Lib.join (L.take (k + 1)) [47]] rfl rfl (alloc_at _ _) (by omega) (by simp; omega) ?_; intro v' w4 hown4 hg4)))
      go_roundw
      case rel => exact ⟨k + 1, by omega, by go_num, by rw [parentsN_succ]; exact hown4, owns_ext_app ((hx.trans hx3).alloc _) (hown3.alloc _) hg4⟩
      case measure => simp [intOf]; omega
    · have hkk : k = L.length - 1 := by omega
      have hres : IsStrs wr u4 (parentsL l) := by
        rw [HP.out, ← hkk]
        unfold IsStrs
        rw [parentsN_length]
        exact Row.of_owns hown (by omega)
      have HR : Hid _ := hres
      have hno : ¬ ((k + 1 : Nat) : Int) < (L.length : Int) := by omega
      clear hres hown hkk
      go_wp2
      go_ret
      exact ⟨⟨_, rfl, HR.out⟩, hx2.trans hx⟩

/-- May a file stand at a path, as the program asks? -/
def mayP (l : Files) (path but : B8) : Bool := !((parentsL path).any fun p => (look l p).isSome && !(p == but)) && !(dirB l path but)

end Go.Proofs.YtalpfoomkhhgnaaGreatDoor

/-! Patterns of paths, in plain Lean: the program's way and the document's say the same. No conditions. -/
namespace Go.Proofs.YtalpfoomkhhgnaaGreatDoor
open Go Go.RowKit

/-- A pattern without a sign for directories behind it. -/
def patS (p : B8) : B8 := Lib.trimSuffix p [47]
def patB (p : B8) : Bool := nameB (patS p) && (decide ((patS p).count 42 = 0) || (decide ((patS p).count 42 = 1) && (decide (1 < (patS p).length) && (decide ((patS p).head? = some 42) || decide ((patS p).getLast? = some 42)))))
def takesB (p s : B8) : Bool := if ([42] : B8).isPrefixOf p = true then (p.drop 1).isSuffixOf s else if ([42] : B8).isSuffixOf p = true then (p.take (p.length - 1)).isPrefixOf s else p == s
def patD (p : B8) : Bool := ([47] : B8).isSuffixOf p
/-- Does a pattern take one of a path's names? -/
def hitL (rest : B8) (dir : Bool) (l : List B8) : Bool := (l.zipIdx).any fun x => takesB rest x.1 && !(dir && decide (x.2 + 1 = l.length))
def ign1 (l : List B8) (p : B8) : Bool := patB p && hitL (patS p) (patD p) l
def ignB (pats : List B8) (s : B8) : Bool := pats.any (ign1 (splitL s))

/-! ### The document's way -/
def pat2 : List B8 → Option (B8 × Bool × B8)
  | [x] => some (x, false, [])
  | [a, b] => if (a ≠ [] ∧ b ≠ []) ∨ a ++ b = [] then none else some (a, true, b)
  | _ => none
def patR (p : B8) : Option (B8 × Bool × B8) := if nameB (patS p) = true then pat2 (cut 42 (patS p)) else none
def takesR (x : B8 × Bool × B8) (s : B8) : Bool := if x.2.1 = true then decide (x.1.length + x.2.2.length ≤ s.length) && ((s.take x.1.length == x.1) && (s.drop (s.length - x.2.2.length) == x.2.2)) else s == x.1
end Go.Proofs.YtalpfoomkhhgnaaGreatDoor

/-! fsim.FS: does: a change is done. Conditions: at most 10000000 files, changes, ticks. -/
namespace Go.Proofs.YtalpfoomkhhgnaaGreatDoor
open Go Go.RowKit

theorem size_int : (Tryz.prog.info? 3).map (·.size) = some 1 := by kernel_rfl
theorem size_bytes : (Tryz.prog.info? 45).map (·.size) = some 1 := by kernel_rfl
section
variable {ops : Array Oper} {rest : List Oper} {o : Oper} {a : Act} {Q : Exit → Act → World → Prop} {w : World}
end

end Go.Proofs.YtalpfoomkhhgnaaGreatDoor

/-! fsim.FS: puts, fits, removes. Conditions: at most 9000000 ticks; short paths and data. -/
namespace Go.Proofs.YtalpfoomkhhgnaaGreatDoor
open Go Go.RowKit

/-- What holds of a file system at all times. -/
def ChOk : Ch → Prop
  | .put p f => pathB p = true ∧ f.data.length ≤ 20000
  | .mv s d => pathB s = true ∧ pathB d = true ∧ s ≠ d
  | .del p => pathB p = true
structure OkM (m : Fs) : Prop where
  lnow : m.now.length ≤ m.time
  lsure : m.sure.length ≤ m.time
  lpend : m.pend.length ≤ m.time
  lsp : m.sure.length + m.pend.length ≤ m.time
  lusers : m.users.length ≤ m.time
  dnow : ∀ e ∈ m.now, pathB e.1 = true ∧ e.2.data.length ≤ 20000
  dsure : ∀ e ∈ m.sure, pathB e.1 = true ∧ e.2.data.length ≤ 20000
  dpend : ∀ c ∈ m.pend, ChOk c
  fold : m.pend.foldl ap m.sure = m.now
  mvs : ∀ k s d, m.pend[k]? = some (.mv s d) → (look ((m.pend.take k).foldl ap m.sure) s).isSome = true

theorem path_ne {p : B8} (h : pathB p = true) : p ≠ [] := by
  rintro rfl
  revert h; decide

def ptr (g : Nat) : Value := .pointer (some ⟨g, 0, none⟩)

end Go.Proofs.YtalpfoomkhhgnaaGreatDoor

/-! fsim.FS: Up, Reboot, Now, Pending, Calls, settle, removes, fits. Conditions: at most 9000000 ticks; short paths. -/
namespace Go.Proofs.YtalpfoomkhhgnaaGreatDoor
open Go Go.RowKit

end Go.Proofs.YtalpfoomkhhgnaaGreatDoor

/-! fsim.FS: UserWrite, UserRemove. Conditions: at most 9000000 ticks; short paths and data. -/
namespace Go.Proofs.YtalpfoomkhhgnaaGreatDoor
open Go Go.RowKit

section
variable {ops : Array Oper} {rest : List Oper} {o : Oper} {a : Act} {Q : Exit → Act → World → Prop} {w : World}
end

/-- A slice that no call on a file system writes. -/
def Out (O : Nat → Prop) (w : World) (v : Value) : Prop := ∀ a n c, v = .slice (some a) n c → n ≠ 0 → ¬ O a.block ∨ IsU8 w a.block
theorem IsBytes.fr {O : Nat → Prop} {w w' : World} {v : Value} {l : B8} (h : IsBytes w v l) (ho : Out O w v) (hf : Fr O w w') : IsBytes w' v l := by
  obtain ⟨a, cap, rfl, h1, h2, h3, h4⟩ := h
  refine ⟨a, cap, rfl, h1, h2, h3, fun hn => ?_⟩
  have hl : l.length ≠ 0 := fun h0 => hn (by rw [List.eq_nil_of_length_eq_zero h0]; rfl)
  obtain ⟨b, o, rfl, hc⟩ := h4 hn
  refine ⟨b, o, rfl, fun i u hu => ?_⟩
  have hcu := hc i u hu
  rw [World.cell?_of_block (w := w) (w' := w') (a := ⟨b, o + i, none⟩) (hf.block b (World.block_lt_of_cell? _ _ hcu) (ho _ _ _ rfl hl))]
  exact hcu
theorem IsData.out {O R : Nat → Prop} {w : World} {v : Value} {l : B8} (h : IsData R w v l) : Out O w v := fun a n c he _ => .inr (h.typed a n c he)
theorem Env.fr {O : Nat → Prop} {w w' : World} (h : Env w) (hf : Fr O w w') (ho : ∀ k, O k → k ≠ 2) : Env w' := by
  obtain ⟨m, hm⟩ := h
  exact ⟨m, by rw [World.cell?_of_block (w := w) (w' := w') (hf.block _ (World.block_lt_of_cell? _ _ hm) (.inl (fun hh => ho _ hh rfl)))]; exact hm⟩

end Go.Proofs.YtalpfoomkhhgnaaGreatDoor

/-! fsim.FS: Crash. Conditions: at most 9000000 ticks. -/
namespace Go.Proofs.YtalpfoomkhhgnaaGreatDoor
open Go Go.RowKit

theorem fold_length (l : Files) : ∀ cs : List Ch, (cs.foldl ap l).length ≤ l.length + cs.length := by
  intro cs
  induction cs generalizing l with
  | nil => simp
  | cons c cs ih =>
    have h1 := ih (ap l c)
    have h2 := ap_length l c
    simp only [List.foldl_cons, List.length_cons]
    omega
end Go.Proofs.YtalpfoomkhhgnaaGreatDoor

/-! What holds of a file system at all times, kept by all that is done: in plain Lean. Conditions: as each theorem states. -/
namespace Go.Proofs.YtalpfoomkhhgnaaGreatDoor
open Go Go.RowKit

/-! ### Paths above a path -/
theorem under_iff (d s : B8) : isUnder d s = true ↔ ∃ r, s = d ++ 47 :: r := by
  unfold isUnder
  rw [List.isPrefixOf_iff_prefix]
  constructor
  · rintro ⟨r, hr⟩; exact ⟨r, by rw [← hr]; simp⟩
  · rintro ⟨r, hr⟩; exact ⟨r, by rw [hr]; simp⟩
/-! ### What holds at all times -/
theorem files_ap {l : Files} {c : Ch} (h : ∀ e ∈ l, pathB e.1 = true ∧ e.2.data.length ≤ 20000) (hc : ChOk c) : ∀ e ∈ ap l c, pathB e.1 = true ∧ e.2.data.length ≤ 20000 := by
  intro e he
  cases c with
  | put p f =>
    rcases mem_putF he with rfl | ⟨h1, _⟩
    · exact hc
    · exact h e h1
  | mv s d =>
    unfold ap at he
    simp only at he
    split at he
    · rename_i x hx
      rcases mem_putF he with rfl | ⟨h1, _⟩
      · exact ⟨hc.2.1, (h _ (look_mem hx)).2⟩
      · exact h e (List.mem_filter.1 h1).1
    · exact h e he
  | del p => exact h e (List.mem_filter.1 he).1
theorem files_fold {cs : List Ch} : ∀ {l : Files}, (∀ e ∈ l, pathB e.1 = true ∧ e.2.data.length ≤ 20000) → (∀ c ∈ cs, ChOk c) → ∀ e ∈ cs.foldl ap l, pathB e.1 = true ∧ e.2.data.length ≤ 20000 := by
  induction cs with
  | nil => exact fun h _ => h
  | cons c cs ih => exact fun h hc => ih (files_ap h (hc c (by simp))) (fun d hd => hc d (by simp [hd]))
theorem ok_at {c : Ch} (t : Nat) (h : ChOk c) : ChOk (c.at t) := by
  cases c with
  | put p f => exact h
  | mv s d => exact h
  | del p => exact h
theorem ok_does {m : Fs} {c : Ch} (h : OkM m) (hc : ChOk c) (hmv : ∀ s d, c = .mv s d → (look m.now s).isSome = true) : OkM (does m c) := by
  have hl := ap_length m.now (c.at (m.time + 1))
  have h1 := h.lnow
  have h2 := h.lsure
  have h3 := h.lpend
  have h4 := h.lusers
  have h5 := h.lsp
  refine ⟨by simp only [does]; omega, by simp only [does]; omega, by simp only [does, List.length_append, List.length_cons, List.length_nil]; omega, by simp only [does, List.length_append, List.length_cons, List.length_nil]; omega, by simp only [does]; omega, files_ap h.dnow (ok_at _ hc), h.dsure, ?_, ?_, ?_⟩
  · intro d hd
    rcases List.mem_append.1 hd with hd | hd
    · exact h.dpend d hd
    · rw [List.mem_singleton.1 hd]; exact ok_at _ hc
  · show (m.pend ++ [c.at (m.time + 1)]).foldl ap m.sure = ap m.now (c.at (m.time + 1))
    rw [List.foldl_append, h.fold]
    rfl
  · intro k s d hk
    show (look (((m.pend ++ [c.at (m.time + 1)]).take k).foldl ap m.sure) s).isSome = true
    have hk' : (m.pend ++ [c.at (m.time + 1)])[k]? = some (.mv s d) := hk
    rw [List.getElem?_append] at hk'
    split at hk'
    · rename_i hlt
      rw [List.take_append_of_le_length (by omega)]
      exact h.mvs k s d hk'
    · rename_i hge
      have h9 := (List.getElem?_eq_some_iff.1 hk').1
      have hz : k - m.pend.length = 0 := by simp at h9; omega
      rw [hz] at hk'
      have e : c.at (m.time + 1) = .mv s d := by simpa using hk'
      have hke : k = m.pend.length := by omega
      subst hke
      rw [List.take_left, h.fold]
      cases c with
      | put p f => cases e
      | mv s' d' => exact hmv s d e
      | del p => cases e
theorem ok_puts {m : Fs} {path : B8} {mode : Int} {data : B8} {fits : Bool} (h : OkM m) (hp : pathB path = true) (hd : data.length ≤ 20000) : OkM (putsM m path mode data fits).1 := by
  unfold putsM
  split
  · exact h
  · split
    · exact h
    · exact ok_does h ⟨hp, hd⟩ (fun s d e => by cases e)
theorem ok_removes {m : Fs} {path : B8} (h : OkM m) : OkM (removesM m path).1 := by
  unfold removesM
  split
  · exact h
  · split
    · exact h
    · rename_i h1 _
      exact ok_does h (show pathB path = true by simpa using h1) (fun s d e => by cases e)
theorem ok_settle {m : Fs} (h : OkM m) : OkM (settle m) :=
  ⟨h.lnow, h.lnow, Nat.zero_le _, h.lnow, h.lusers, h.dnow, h.dnow, fun c hc => (by cases hc), rfl, fun k s d hk => by simp [settle] at hk⟩
theorem OkM.same {m m' : Fs} (h : OkM m) (h1 : m'.now = m.now) (h2 : m'.sure = m.sure) (h3 : m'.pend = m.pend) (h4 : m'.users.length ≤ m'.time) (h5 : m.time ≤ m'.time) : OkM m' := by
  refine ⟨by rw [h1]; exact Nat.le_trans h.lnow h5, by rw [h2]; exact Nat.le_trans h.lsure h5, by rw [h3]; exact Nat.le_trans h.lpend h5, by rw [h2, h3]; exact Nat.le_trans h.lsp h5, h4, by rw [h1]; exact h.dnow, by rw [h2]; exact h.dsure, by rw [h3]; exact h.dpend, by rw [h1, h2, h3]; exact h.fold, by rw [h2, h3]; exact h.mvs⟩
theorem wrong_zero {path : B8} {mode : Int} {data : B8} (h : wrongE path mode data = 0) : pathB path = true ∧ 1 ≤ mode ∧ mode ≤ 3 ∧ data.length ≤ 20000 := by
  unfold wrongE at h
  split at h
  · cases h
  · split at h
    · cases h
    · split at h
      · cases h
      · rename_i h1 h2 h3
        refine ⟨by simpa using h1, by omega, by omega, by omega⟩
theorem puts_zero {m : Fs} {path : B8} {mode : Int} {data : B8} {fits : Bool} (h : (putsM m path mode data fits).2 = 0) : putsM m path mode data fits = (does m (.put path ⟨mode, data, 0⟩), 0) := by
  unfold putsM at h ⊢
  by_cases h1 : (look m.now path).isNone = true ∧ mayF m.now path [] = false
  · rw [if_pos h1] at h; cases h
  · rw [if_neg h1] at h ⊢
    by_cases h2 : fits = false
    · rw [if_pos h2] at h; cases h
    · rw [if_neg h2]
theorem removes_zero {m : Fs} {path : B8} (h : (removesM m path).2 = 0) : removesM m path = (does m (.del path), 0) := by
  unfold removesM at h ⊢
  by_cases h1 : pathB path = false
  · rw [if_pos h1] at h; cases h
  · rw [if_neg h1] at h ⊢
    by_cases h2 : (look m.now path).isNone = true
    · rw [if_pos h2] at h; cases h
    · rw [if_neg h2]
theorem puts_time {m : Fs} {path : B8} {mode : Int} {data : B8} {fits : Bool} : m.time ≤ (putsM m path mode data fits).1.time ∧ (putsM m path mode data fits).1.time ≤ m.time + 1 := by
  unfold putsM
  split
  · exact ⟨Nat.le_refl _, Nat.le_succ _⟩
  · split
    · exact ⟨Nat.le_refl _, Nat.le_succ _⟩
    · exact ⟨Nat.le_succ _, Nat.le_refl _⟩
theorem removes_time {m : Fs} {path : B8} : m.time ≤ (removesM m path).1.time ∧ (removesM m path).1.time ≤ m.time + 1 := by
  unfold removesM
  split
  · exact ⟨Nat.le_refl _, Nat.le_succ _⟩
  · split
    · exact ⟨Nat.le_refl _, Nat.le_succ _⟩
    · exact ⟨Nat.le_succ _, Nat.le_refl _⟩
theorem ok_userWrite {m : Fs} {path : B8} {mode : Int} {data : B8} (h : OkM m) : OkM (userWrite m path mode data).1 := by
  unfold userWrite
  split
  · exact h
  · split
    · exact h
    · rename_i hw
      have hw0 := wrong_zero (by simpa using hw)
      split
      · exact ok_puts h hw0.1 hw0.2.2.2
      · rename_i hp
        have hp0 := puts_zero (by simpa using hp)
        have ho := ok_settle (ok_puts (mode := mode) (fits := true) h hw0.1 hw0.2.2.2)
        refine ho.same rfl rfl rfl ?_ (Nat.le_refl _)
        have := h.lusers
        rw [hp0]
        simp only [settle, does, List.length_append, List.length_cons, List.length_nil]
        omega
theorem ok_userRemove {m : Fs} {path : B8} (h : OkM m) : OkM (userRemove m path).1 := by
  unfold userRemove
  split
  · exact h
  · split
    · exact ok_removes h
    · rename_i hp
      have hp0 := removes_zero (by simpa using hp)
      have ho := ok_settle (ok_removes (path := path) h)
      refine ho.same rfl rfl rfl ?_ (Nat.le_refl _)
      have := h.lusers
      rw [hp0]
      simp only [settle, does, List.length_append, List.length_cons, List.length_nil]
      omega
theorem userWrite_time {m : Fs} {path : B8} {mode : Int} {data : B8} : m.time ≤ (userWrite m path mode data).1.time ∧ (userWrite m path mode data).1.time ≤ m.time + 1 := by
  unfold userWrite
  split
  · exact ⟨Nat.le_refl _, Nat.le_succ _⟩
  · split
    · exact ⟨Nat.le_refl _, Nat.le_succ _⟩
    · split
      · exact puts_time
      · exact puts_time (m := m) (path := path) (mode := mode) (data := data) (fits := true)
theorem userRemove_time {m : Fs} {path : B8} : m.time ≤ (userRemove m path).1.time ∧ (userRemove m path).1.time ≤ m.time + 1 := by
  unfold userRemove
  split
  · exact ⟨Nat.le_refl _, Nat.le_succ _⟩
  · split
    · exact removes_time
    · exact removes_time (m := m) (path := path)
theorem torn_length (l : Files) (t : Int) (c : Option Ch) : (torn1 l t c).length ≤ l.length + 1 ∧ (c = none → torn1 l t c = l) := by
  unfold torn1
  refine ⟨?_, fun h => by subst h; rfl⟩
  split
  · split
    · exact ap_length _ _
    · omega
  · omega
theorem fallen_length {m : Fs} (keep torn : Int) (h : OkM m) : (fallen m keep torn).length ≤ m.time := by
  unfold fallen
  have h1 := torn_length ((m.pend.take (keepN m keep)).foldl ap m.sure) torn m.pend[keepN m keep]?
  have h2 := fold_length m.sure (m.pend.take (keepN m keep))
  have h3 := h.lsp
  have h4 : (m.pend.take (keepN m keep)).length ≤ keepN m keep := List.length_take_le _ _
  by_cases hk : keepN m keep < m.pend.length
  · omega
  · have h5 := h1.2 (List.getElem?_eq_none (by omega))
    rw [h5]
    have : keepN m keep ≤ m.pend.length := by unfold keepN; omega
    omega
theorem fallen_files {m : Fs} (keep torn : Int) (h : OkM m) : ∀ e ∈ fallen m keep torn, pathB e.1 = true ∧ e.2.data.length ≤ 20000 := by
  have hf := files_fold (cs := m.pend.take (keepN m keep)) h.dsure (fun c hc => h.dpend c (List.mem_of_mem_take hc))
  unfold fallen torn1
  split
  · rename_i p f hk
    split
    · refine files_ap hf ?_
      have := h.dpend _ (List.mem_of_getElem? hk)
      refine ⟨this.1, ?_⟩
      simp only [List.length_take]
      have := this.2
      omega
    · exact hf
  · exact hf
theorem ok_crash {m : Fs} (keep torn : Int) (h : OkM m) : OkM (crash m keep torn) := by
  unfold crash
  split
  · exact h
  · have hl := fallen_length keep torn h
    have hf := fallen_files keep torn h
    exact ⟨hl, hl, Nat.zero_le _, hl, h.lusers, hf, hf, fun c hc => (by cases hc), rfl, fun k s d hk => by simp at hk⟩
theorem crash_time (m : Fs) (keep torn : Int) : (crash m keep torn).time = m.time := by
  unfold crash
  split <;> rfl

/-- An event that happens: to the files. -/
def hapM (m : Fs) (e : Ev) : Fs :=
  if e.kind = 1 then crash m e.keep e.torn else if e.kind = 4 then (userWrite m e.path e.mode e.data).1 else if e.kind = 5 then (userRemove m e.path).1 else m
def hapE (e : Ev) : Int := if e.kind = 2 then 10 else if e.kind = 3 then 11 else 0
theorem ok_hap {m : Fs} (h : OkM m) (e : Ev) : OkM (hapM m e) := by
  unfold hapM
  split
  · exact ok_crash _ _ h
  · split
    · exact ok_userWrite h
    · split
      · exact ok_userRemove h
      · exact h
theorem hap_time (m : Fs) (e : Ev) : m.time ≤ (hapM m e).time ∧ (hapM m e).time ≤ m.time + 1 := by
  unfold hapM
  split
  · rw [crash_time]; exact ⟨Nat.le_refl _, Nat.le_succ _⟩
  · split
    · exact userWrite_time
    · split
      · exact userRemove_time
      · exact ⟨Nat.le_refl _, Nat.le_succ _⟩
theorem happen_eq (n : Nat) (x : Fs × Bool × Bool) (e : Ev) : happen n x e = if e.t ≠ n then x else (hapM x.1 e, x.2.1 || hapE e == 10, x.2.2 || hapE e == 11) := by
  obtain ⟨m, f, b⟩ := x
  unfold happen hapM hapE
  simp only
  by_cases h0 : e.t ≠ n
  · rw [if_pos h0, if_pos h0]
  · rw [if_neg h0, if_neg h0]
    by_cases h1 : e.kind = 1
    · simp [h1]
    · by_cases h2 : e.kind = 2
      · simp [h2]
      · by_cases h3 : e.kind = 3
        · simp [h3]
        · by_cases h4 : e.kind = 4
          · simp [h4]
          · by_cases h5 : e.kind = 5
            · simp [h5]
            · simp [h1, h2, h3, h4, h5]

end Go.Proofs.YtalpfoomkhhgnaaGreatDoor

/-! fsim.FS: happens: an event. Conditions: at most 9000000 ticks; a short path. -/
namespace Go.Proofs.YtalpfoomkhhgnaaGreatDoor
open Go Go.RowKit

end Go.Proofs.YtalpfoomkhhgnaaGreatDoor

/-! fsim.FS: call: a call is counted, and its events happen. Conditions: at most 8000000 ticks, 1000 events; no block of the plan is written. -/
namespace Go.Proofs.YtalpfoomkhhgnaaGreatDoor
open Go Go.RowKit

structure PlanOk (m : Fs) : Prop where
  len : m.plan.length ≤ 1000
  ev : ∀ e ∈ m.plan, I64 e.keep ∧ I64 e.torn ∧ e.path.length ≤ 400
theorem hap_plan (m : Fs) (e : Ev) : (hapM m e).plan = m.plan ∧ (hapM m e).calls = m.calls ∧ (hapM m e).room = m.room := by
  unfold hapM
  split
  · unfold crash; split <;> exact ⟨rfl, rfl, rfl⟩
  · split
    · unfold userWrite
      split
      · exact ⟨rfl, rfl, rfl⟩
      · split
        · exact ⟨rfl, rfl, rfl⟩
        · split
          · unfold putsM; split
            · exact ⟨rfl, rfl, rfl⟩
            · split <;> exact ⟨rfl, rfl, rfl⟩
          · simp only [settle]; unfold putsM; split
            · exact ⟨rfl, rfl, rfl⟩
            · split <;> exact ⟨rfl, rfl, rfl⟩
    · split
      · unfold userRemove
        split
        · exact ⟨rfl, rfl, rfl⟩
        · split
          · unfold removesM; split
            · exact ⟨rfl, rfl, rfl⟩
            · split <;> exact ⟨rfl, rfl, rfl⟩
          · simp only [settle]; unfold removesM; split
            · exact ⟨rfl, rfl, rfl⟩
            · split <;> exact ⟨rfl, rfl, rfl⟩
      · exact ⟨rfl, rfl, rfl⟩
/-- What holds of a state in the midst of a call. -/
structure Mid (m : Fs) (n : Nat) (x : Fs × Bool × Bool) : Prop where
  ok : OkM x.1
  time : x.1.time ≤ m.time + n
  time0 : m.time ≤ x.1.time
  plan : x.1.plan = m.plan
  calls : x.1.calls = m.calls + 1
  room : x.1.room = m.room
theorem Mid.next {m : Fs} {n k : Nat} {x : Fs × Bool × Bool} (h : Mid m n x) (e : Ev) : Mid m (n + if e.t = (k : Int) then 1 else 0) (happen k x e) := by
  rw [happen_eq]
  by_cases ht : e.t ≠ (k : Int)
  · rw [if_pos ht, if_neg ht]
    exact h
  · rw [if_neg ht, if_pos (by simpa using ht)]
    have h1 := hap_time x.1 e
    have h2 := hap_plan x.1 e
    have := h.time
    have := h.time0
    exact ⟨ok_hap h.ok e, by simp only; omega, by simp only; omega, h2.1.trans h.plan, h2.2.1.trans h.calls, h2.2.2.trans h.room⟩
theorem Mid.fold {m : Fs} (k : Nat) : ∀ (l : List Ev) {n : Nat} {x : Fs × Bool × Bool}, Mid m n x → Mid m (n + l.length) (l.foldl (happen k) x)
  | [], n, x, h => h
  | e :: l, n, x, h => by
    have h1 := Mid.fold k l (h.next (k := k) e)
    refine ⟨h1.ok, ?_, h1.time0, h1.plan, h1.calls, h1.room⟩
    have := h1.time
    simp only [List.length_cons, List.foldl_cons]
    split at this <;> omega
def calledM (m : Fs) : Fs := { m with calls := m.calls + 1 }
theorem Mid.start {m : Fs} (h : OkM m) : Mid m 0 (calledM m, false, false) := ⟨h.same rfl rfl rfl h.lusers (Nat.le_refl _), Nat.le_refl _, Nat.le_refl _, rfl, rfl, rfl⟩
end Go.Proofs.YtalpfoomkhhgnaaGreatDoor

/-! fsim.FS: call: the walk. Conditions: at most 8000000 ticks, 1000 events; no block of the plan is written. -/
namespace Go.Proofs.YtalpfoomkhhgnaaGreatDoor
open Go Go.RowKit

/-- No block of the plan is written by a call. -/
def Apart (S O : Nat → Prop) (w : World) : Prop := ∀ k, S k → ¬ O k ∧ k < w.heap.size
theorem Apart.next {S O : Nat → Prop} {w w' : World} (h : Apart S O w) (hs : w.heap.size ≤ w'.heap.size) : Apart S (Nw O w w') w' := fun k hk => ⟨fun hn => by
  rcases hn with hn | hn
  · exact (h k hk).1 hn
  · have := (h k hk).2; omega, by have := (h k hk).2; omega⟩
def NoG (O : Nat → Prop) : Prop := ∀ k, O k → k ≠ 2

end Go.Proofs.YtalpfoomkhhgnaaGreatDoor

/-! fsim.FS: fits, Create, Write. Conditions: what holds of a file system at all times; short paths. -/
namespace Go.Proofs.YtalpfoomkhhgnaaGreatDoor
open Go Go.RowKit

end Go.Proofs.YtalpfoomkhhgnaaGreatDoor

/-! What each call on a file system does, in plain Lean; what holds behind it. Conditions: as each theorem states. -/
namespace Go.Proofs.YtalpfoomkhhgnaaGreatDoor
open Go Go.RowKit

def putM (r : Fs × Bool × Int) (path : B8) (mode : Int) (data : B8) (only : Bool) : Fs × Int :=
  if r.2.2 ≠ 0 then (r.1, r.2.2) else if wrongE path mode data ≠ 0 then (r.1, wrongE path mode data)
  else if only = true ∧ (look r.1.now path).isSome then (r.1, 8) else putsM r.1 path mode data (!r.2.1 && fitsM r.1 path data.length)
def createM (m : Fs) (path : B8) (mode : Int) (data : B8) : Fs × Int := putM (callM m) path mode data true
def writeM (m : Fs) (path : B8) (mode : Int) (data : B8) : Fs × Int := putM (callM m) path mode data false
def mvM (r : Fs × Bool × Int) (src dst : B8) (fresh : Bool) : Fs × Int :=
  if r.2.2 ≠ 0 then (r.1, r.2.2) else if pathB src = false ∨ pathB dst = false then (r.1, 6)
  else if (look r.1.now src).isNone then (r.1, 7) else if (look r.1.now dst).isSome ∧ fresh = true then (r.1, 8)
  else if src = dst then (r.1, 0) else if (look r.1.now dst).isNone ∧ mayF r.1.now dst src = false then (r.1, 9) else (does r.1 (.mv src dst), 0)
def moveM (m : Fs) (src dst : B8) (fresh : Bool) : Fs × Int := mvM (callM m) src dst fresh
def removeM (m : Fs) (path : B8) : Fs × Int := if (callM m).2.2 ≠ 0 then ((callM m).1, (callM m).2.2) else removesM (callM m).1 path
def syncM (m : Fs) : Fs × Int := if (callM m).2.2 = 0 then (settle (callM m).1, 0) else ((callM m).1, (callM m).2.2)
def zeroFi : Fi := ⟨0, [], 0⟩
def readM (m : Fs) (path : B8) : Fs × Fi × Int :=
  if (callM m).2.2 ≠ 0 then ((callM m).1, zeroFi, (callM m).2.2) else if pathB path = false then ((callM m).1, zeroFi, 6)
  else match look (callM m).1.now path with
    | some f => ((callM m).1, f, 0)
    | none => ((callM m).1, zeroFi, 7)
def pathsL (l : Files) : List B8 := l.map (·.1)
def listM (m : Fs) (dir : B8) : Fs × List B8 × Int :=
  if (callM m).2.2 ≠ 0 then ((callM m).1, [], (callM m).2.2) else if dir = [] then ((callM m).1, pathsL (callM m).1.now, 0)
  else if pathB dir = false then ((callM m).1, [], 6) else ((callM m).1, (pathsL (callM m).1.now).filter (isUnder dir), 0)
def peekM (m : Fs) (path : B8) : Fi × Bool := match look m.now path with
  | some f => (f, true)
  | none => (zeroFi, false)

/-- What a call leaves, in numbers. -/
structure Left (m m' : Fs) (n : Nat) : Prop where
  ok : OkM m'
  time : m'.time ≤ m.time + n
  time0 : m.time ≤ m'.time
  plan : m'.plan = m.plan
  room : m'.room = m.room
theorem Left.trans {a b c : Fs} {n k : Nat} (h : Left a b n) (k2 : Left b c k) : Left a c (n + k) :=
  ⟨k2.ok, by have := h.time; have := k2.time; omega, Nat.le_trans h.time0 k2.time0, k2.plan.trans h.plan, k2.room.trans h.room⟩
theorem Left.refl {m : Fs} (h : OkM m) : Left m m 0 := ⟨h, Nat.le_refl _, Nat.le_refl _, rfl, rfl⟩
theorem Left.mono {m m' : Fs} {n k : Nat} (h : Left m m' n) (hk : n ≤ k) : Left m m' k := ⟨h.ok, Nat.le_trans h.time (by omega), h.time0, h.plan, h.room⟩
end Go.Proofs.YtalpfoomkhhgnaaGreatDoor

/-! marlaw5: an operation of both file systems, in plain Lean. Conditions: as each theorem states. -/
namespace Go.Proofs.YtalpfoomkhhgnaaGreatDoor
open Go Go.RowKit

structure Opn where
  (kind mode keep torn : Int)
  (path dest data : B8)
  (plan : List Ev)
structure OpOk (o : Opn) : Prop where
  path : o.path.length ≤ 400
  dest : o.dest.length ≤ 400
  few : o.plan.length ≤ 60
  ev : ∀ e ∈ o.plan, I64 e.keep ∧ I64 e.torn ∧ e.path.length ≤ 400
  keep : I64 o.keep
  torn : I64 o.torn
def stepM (m : Fs) (o : Opn) : Fs :=
  if o.kind = 0 then (createM m o.path o.mode o.data).1
  else if o.kind = 1 then (writeM m o.path o.mode o.data).1
  else if o.kind = 2 then (moveM m o.path o.dest false).1
  else if o.kind = 3 then (moveM m o.path o.dest true).1
  else if o.kind = 4 then (removeM m o.path).1
  else if o.kind = 5 then (syncM m).1
  else if o.kind = 6 then (readM m o.path).1
  else if o.kind = 7 then (listM m o.path).1
  else if o.kind = 8 then (userWrite m o.path o.mode o.data).1
  else if o.kind = 9 then (userRemove m o.path).1
  else if o.kind = 10 then crash m o.keep o.torn
  else if o.kind = 11 then rebootM m
  else if o.kind = 12 then planM m o.plan
  else m

/-! ### What an operation leaves, in numbers -/
/-- What holds of a file system behind n operations. -/
structure Good (n : Nat) (m : Fs) : Prop where
  ok : OkM m
  plan : PlanOk m
  few : m.plan.length ≤ 60
  time : m.time ≤ 80 * n
  calls : m.calls ≤ 100 * n
  room0 : 0 ≤ m.room
  room1 : m.room ≤ 1073741824
theorem Good.left {n : Nat} {m m' : Fs} (h : Good n m) (hl : Left m m' 61) (hc : m'.calls ≤ m.calls + 1) : Good (n + 1) m' :=
  ⟨hl.ok, ⟨by rw [hl.plan]; exact h.plan.len, by rw [hl.plan]; exact h.plan.ev⟩, by rw [hl.plan]; exact h.few, by have := hl.time; have := h.time; omega, by have := h.calls; omega, by rw [hl.room]; exact h.room0, by rw [hl.room]; exact h.room1⟩

theorem Good.mono {n k : Nat} {m : Fs} (h : Good n m) (hk : n ≤ k) : Good k m := ⟨h.ok, h.plan, h.few, by have := h.time; omega, by have := h.calls; omega, h.room0, h.room1⟩
end Go.Proofs.YtalpfoomkhhgnaaGreatDoor

/-! fsim.FS: Create, Write. Conditions: what holds of a file system at all times; short paths. -/
namespace Go.Proofs.YtalpfoomkhhgnaaGreatDoor
open Go Go.RowKit

end Go.Proofs.YtalpfoomkhhgnaaGreatDoor

/-! fsim.FS: Remove, Sync, Move, MoveNew. Conditions: what holds of a file system at all times; short paths. -/
namespace Go.Proofs.YtalpfoomkhhgnaaGreatDoor
open Go Go.RowKit

end Go.Proofs.YtalpfoomkhhgnaaGreatDoor

/-! fsim.FS: move, Move, MoveNew. Conditions: what holds of a file system at all times; short paths. -/
namespace Go.Proofs.YtalpfoomkhhgnaaGreatDoor
open Go Go.RowKit

end Go.Proofs.YtalpfoomkhhgnaaGreatDoor

/-! fsim.FS: Peek, Paths. Conditions: a short path; at most 10000000 files. -/
namespace Go.Proofs.YtalpfoomkhhgnaaGreatDoor
open Go Go.RowKit

theorem Nu.mono {w0 w1 w w' : World} (h0 : w0.heap.size ≤ w.heap.size) (h1 : w'.heap.size ≤ w1.heap.size) {k : Nat} (h : Nu w w' k) : Nu w0 w1 k := ⟨Nat.le_trans h0 h.1, Nat.lt_of_lt_of_le h.2 h1⟩

/-! ### Paths -/
end Go.Proofs.YtalpfoomkhhgnaaGreatDoor

/-! fsim.FS: List, Read. Conditions: what holds of a file system at all times; short paths. -/
namespace Go.Proofs.YtalpfoomkhhgnaaGreatDoor
open Go Go.RowKit Go.Sort Go.Shelf

end Go.Proofs.YtalpfoomkhhgnaaGreatDoor

/-! fsim.FS: List, Read. Conditions: what holds of a file system at all times; short paths. -/
namespace Go.Proofs.YtalpfoomkhhgnaaGreatDoor
open Go Go.RowKit

theorem strs_owned {w : World} {base : Nat} {v : Value} {L : List B8} {n : Nat} (h : w.ownsRow base 9 1 v n (L.map S8)) (hn : n = L.length) (hl : n ≤ 10000000) : IsStrs w v L := by
  subst hn
  exact Row.of_owns h (by omega)

end Go.Proofs.YtalpfoomkhhgnaaGreatDoor

/-! slices.Clone at events and changes; fsim.copiedEvents; Plan, User. Conditions: at most 10000000 elements. -/
namespace Go.Proofs.YtalpfoomkhhgnaaGreatDoor
open Go Go.RowKit

end Go.Proofs.YtalpfoomkhhgnaaGreatDoor

/-! fsim.copiedEvents, Plan, User: events copied, with their data. Conditions: at most 100000 events. -/
namespace Go.Proofs.YtalpfoomkhhgnaaGreatDoor
open Go Go.RowKit

/-- An event that is read alone. -/
def IsEvB (w : World) (cs : List Value) (e : Ev) : Prop := ∃ vd, cs = [.int .i64 e.t, .int .i64 e.kind, .int .i64 e.mode, .int .i64 e.keep, .int .i64 e.torn, S8 e.path, vd] ∧ IsBytes w vd e.data ∧ e.path.length ≤ 10000000
theorem IsEvR.read {R : Nat → Prop} {w : World} {cs : List Value} {e : Ev} (h : IsEvR R w cs e) : IsEvB w cs e := by
  obtain ⟨v, h1, h2, h3⟩ := h
  exact ⟨v, h1, h2.bytes, h3⟩
theorem IsEvB.length {w : World} {cs : List Value} {e : Ev} (h : IsEvB w cs e) : cs.length = 7 ∧ cs.all (·.oneCell') = true := by
  obtain ⟨v, rfl, h2, _⟩ := h
  obtain ⟨_, _, rfl, _⟩ := h2
  exact ⟨rfl, by simp [Value.oneCell']⟩
theorem IsEvB.ext {w w' : World} {cs : List Value} {e : Ev} (h : IsEvB w cs e) (hx : Ext w w') : IsEvB w' cs e := by
  obtain ⟨v, h1, h2, h3⟩ := h
  exact ⟨v, h1, h2.ext hx, h3⟩
def ReadB (w : World) (v : Value) (L : List Ev) : Prop := ∃ css : List (List Value), Row w v L.length css.flatten ∧ Each (IsEvB w) css L
theorem ReadB.ext {w w' : World} {v : Value} {L : List Ev} (h : ReadB w v L) (hx : Ext w w') : ReadB w' v L := by
  obtain ⟨css, h1, h2⟩ := h
  exact ⟨css, h1.ext hx, h2.imp (fun c x hc => hc.ext hx)⟩
end Go.Proofs.YtalpfoomkhhgnaaGreatDoor

/-! fsim.New: a file system without files. No conditions. -/
namespace Go.Proofs.YtalpfoomkhhgnaaGreatDoor
open Go Go.RowKit

def newM (room : Int) : Fs := ⟨room, [], [], [], [], 0, [], 0, false⟩
end Go.Proofs.YtalpfoomkhhgnaaGreatDoor

/-! What holds of the files behind any operations, crashes among them: no file under another one, modes, times, the room: in plain Lean. Conditions: as each theorem states. -/
namespace Go.Proofs.YtalpfoomkhhgnaaGreatDoor
open Go Go.RowKit

/-! ### Bytes of files -/
theorem usedF_ins (x : B8 × Fi) : ∀ l : Files, usedF (insF x l) = x.2.data.length + usedF l
  | [] => by simp [insF, usedF]
  | y :: r => by
    unfold insF
    split
    · simp [usedF]
    · have := usedF_ins x r
      simp only [usedF, List.map_cons, List.sum_cons] at *
      omega
theorem delF_none {l : Files} {p : B8} (h : ∀ e ∈ l, e.1 ≠ p) : delF l p = l := List.filter_eq_self.2 (fun e he => by simpa using h e he)
theorem usedF_del {l : Files} (h : Rising l) (p : B8) : usedF (delF l p) + oldLen l p = usedF l := by
  induction l with
  | nil => rfl
  | cons y r ih =>
    obtain ⟨h1, h2⟩ := List.pairwise_cons.1 h
    have ih := ih h2
    by_cases hy : y.1 = p
    · have hr : delF r p = r := delF_none (fun e he => by rw [← hy]; exact (ltB_ne (h1 e he)).symm)
      have e1 : delF (y :: r) p = r := by
        unfold delF at *
        rw [List.filter_cons, hr]
        simp [hy]
      have e2 : oldLen (y :: r) p = y.2.data.length := by unfold oldLen look; simp [hy]
      rw [e1, e2]
      simp only [usedF, List.map_cons, List.sum_cons]
      omega
    · have e1 : delF (y :: r) p = y :: delF r p := by unfold delF; rw [List.filter_cons]; simp [hy]
      have e2 : oldLen (y :: r) p = oldLen r p := by unfold oldLen look; simp [hy]
      rw [e1, e2]
      simp only [usedF, List.map_cons, List.sum_cons] at *
      omega
theorem usedF_put {l : Files} (h : Rising l) (p : B8) (f : Fi) : usedF (putF l p f) + oldLen l p = usedF l + f.data.length := by
  have h1 := usedF_ins (p, f) (delF l p)
  have h2 := usedF_del h p
  unfold putF
  simp only at h1
  omega
theorem mem_put {l : Files} {p : B8} {f : Fi} {e : B8 × Fi} : e ∈ putF l p f ↔ e = (p, f) ∨ (e ∈ l ∧ e.1 ≠ p) := by
  unfold putF
  rw [mem_insF]
  simp [delF]
theorem mem_del {l : Files} {p : B8} {e : B8 × Fi} : e ∈ delF l p ↔ e ∈ l ∧ e.1 ≠ p := by simp [delF]

/-! ### Paths -/
theorem not_under_self (p : B8) : isUnder p p = false := by
  cases h : isUnder p p with
  | false => rfl
  | true =>
    obtain ⟨r, hr⟩ := (under_iff p p).1 h
    have := congrArg List.length hr
    simp at this
theorem may_spec {l : Files} {p but : B8} (h : mayF l p but = true) : ∀ e ∈ l, e.1 ≠ but → isUnder e.1 p = false ∧ isUnder p e.1 = false := by
  intro e he hb
  unfold mayF at h
  simp only [Bool.not_eq_true', List.any_eq_false] at h
  have := h e he
  simpa [hb] using this

/-- Files as they are to be: b: is the room to be kept? t: no file is younger. -/
structure Fine (r : Int) (b : Prop) (t : Nat) (l : Files) : Prop where
  rise : Rising l
  path : ∀ e ∈ l, pathB e.1 = true
  tree : ∀ x ∈ l, ∀ y ∈ l, isUnder x.1 y.1 = false
  mode : ∀ e ∈ l, 1 ≤ e.2.mode ∧ e.2.mode ≤ 3
  time : ∀ e ∈ l, 0 ≤ e.2.time ∧ e.2.time ≤ t
  used : b → (usedF l : Int) ≤ r
theorem Fine.mono {r : Int} {b b' : Prop} {t t' : Nat} {l : Files} (h : Fine r b t l) (hb : b' → b) (ht : t ≤ t') : Fine r b' t' l :=
  ⟨h.rise, h.path, h.tree, h.mode, fun e he => by have := h.time e he; omega, fun hb' => h.used (hb hb')⟩
theorem Fine.nil {r : Int} {b : Prop} {t : Nat} (hr : 0 ≤ r) : Fine r b t [] :=
  ⟨List.Pairwise.nil, fun e he => (by cases he), fun e he => (by cases he), fun e he => (by cases he), fun e he => (by cases he), fun _ => (by simpa [usedF] using hr)⟩
theorem Fine.put {r : Int} {b : Prop} {t : Nat} {l : Files} (h : Fine r b t l) {p : B8} {f : Fi} (hp : pathB p = true) (hm : 1 ≤ f.mode ∧ f.mode ≤ 3) (ht : 0 ≤ f.time ∧ f.time ≤ t) (hmay : look l p = none → mayF l p [] = true)
    (hu : b → (f.data.length : Int) ≤ r - usedF l + oldLen l p) : Fine r b t (putF l p f) := by
  have hmem : ∀ e ∈ putF l p f, e = (p, f) ∨ (e ∈ l ∧ e.1 ≠ p) := fun e he => mem_put.1 he
  have hno : ∀ e ∈ l, isUnder e.1 p = false ∧ isUnder p e.1 = false := by
    intro e he
    cases hl : look l p with
    | none => exact may_spec (hmay hl) e he (path_ne (h.path e he))
    | some f0 => exact ⟨h.tree e he _ (look_mem hl), h.tree _ (look_mem hl) e he⟩
  refine ⟨h.rise.put p f, fun e he => ?_, fun x hx y hy => ?_, fun e he => ?_, fun e he => ?_, fun hb => ?_⟩
  · rcases hmem e he with rfl | he
    · exact hp
    · exact h.path e he.1
  · rcases hmem x hx with rfl | hx <;> rcases hmem y hy with rfl | hy
    · exact not_under_self p
    · exact (hno y hy.1).2
    · exact (hno x hx.1).1
    · exact h.tree x hx.1 y hy.1
  · rcases hmem e he with rfl | he
    · exact hm
    · exact h.mode e he.1
  · rcases hmem e he with rfl | he
    · exact ht
    · exact h.time e he.1
  · have := usedF_put h.rise p f
    have := hu hb
    omega
theorem Fine.del {r : Int} {b : Prop} {t : Nat} {l : Files} (h : Fine r b t l) (p : B8) : Fine r b t (delF l p) := by
  have hmem : ∀ e ∈ delF l p, e ∈ l := fun e he => (mem_del.1 he).1
  refine ⟨h.rise.del p, fun e he => h.path e (hmem e he), fun x hx y hy => h.tree x (hmem x hx) y (hmem y hy), fun e he => h.mode e (hmem e he), fun e he => h.time e (hmem e he), fun hb => ?_⟩
  have := usedF_del h.rise p
  have := h.used hb
  omega
theorem Fine.mv {r : Int} {b : Prop} {t : Nat} {l : Files} (h : Fine r b t l) {s d : B8} {x : Fi} (hs : look l s = some x) (hd : pathB d = true) (hmay : look l d = none → mayF l d s = true) : Fine r b t (putF (delF l s) d x) := by
  have hmem : ∀ e ∈ putF (delF l s) d x, e = (d, x) ∨ (e ∈ l ∧ e.1 ≠ s) := fun e he => (mem_put.1 he).imp id (fun h => mem_del.1 h.1)
  have hx := look_mem hs
  have hno : ∀ e ∈ l, e.1 ≠ s → isUnder e.1 d = false ∧ isUnder d e.1 = false := by
    intro e he hne
    cases hl : look l d with
    | none => exact may_spec (hmay hl) e he hne
    | some f0 => exact ⟨h.tree e he _ (look_mem hl), h.tree _ (look_mem hl) e he⟩
  refine ⟨(h.rise.del s).put d x, fun e he => ?_, fun x hx y hy => ?_, fun e he => ?_, fun e he => ?_, fun hb => ?_⟩
  · rcases hmem e he with rfl | he
    · exact hd
    · exact h.path e he.1
  · rcases hmem x hx with rfl | hx <;> rcases hmem y hy with rfl | hy
    · exact not_under_self d
    · exact (hno y hy.1 hy.2).2
    · exact (hno x hx.1 hx.2).1
    · exact h.tree x hx.1 y hy.1
  · rcases hmem e he with rfl | he
    · exact h.mode (s, x) hx
    · exact h.mode e he.1
  · rcases hmem e he with rfl | he
    · exact h.time (s, x) hx
    · exact h.time e he.1
  · have h1 := usedF_put (h.rise.del s) d x
    have h2 := usedF_del h.rise s
    have h3 := h.used hb
    have h4 : oldLen l s = x.data.length := by unfold oldLen; rw [hs]
    omega

/-! ### At all times -/
def FineM (m : Fs) : Prop := ∀ k, Fine m.room (m.users = []) m.time ((m.pend.take k).foldl ap m.sure)
theorem FineM.now {m : Fs} (h : FineM m) (hok : OkM m) : Fine m.room (m.users = []) m.time m.now := by
  have := h m.pend.length
  rwa [List.take_length, hok.fold] at this
theorem FineM.same {m m' : Fs} (h : FineM m) (h1 : m'.sure = m.sure) (h2 : m'.pend = m.pend) (h3 : m'.room = m.room) (h4 : m'.users = m.users) (h5 : m'.time = m.time) : FineM m' := by
  intro k
  rw [h1, h2, h3, h4, h5]
  exact h k
/-- A file system behind operations. -/
def playM (room : Int) (l : List Opn) : Fs := l.foldl stepM (newM room)
end Go.Proofs.YtalpfoomkhhgnaaGreatDoor

/-! Calls without events, crashes, users: what each leaves; what a crash behind them leaves; moves, failing calls: in plain Lean. Conditions: as each theorem states. -/
namespace Go.Proofs.YtalpfoomkhhgnaaGreatDoor
open Go Go.RowKit

/-! ### Finds behind changes -/
/-- A change that does not touch a path. -/
def Away (p : B8) : Ch → Prop
  | .put q _ => q ≠ p
  | .mv s d => s ≠ p ∧ d ≠ p
  | .del q => q ≠ p
/-! ### Calls with nothing planned -/
theorem call_calm {m : Fs} (hp : m.plan = []) (hd : m.down = false) : callM m = ({ m with calls := m.calls + 1 }, false, 0) := by
  unfold callM
  rw [hp]
  simp [hd]
/-- A path that stays as it is. -/
structure Stays (p : B8) (v : Option Fi) (m : Fs) : Prop where
  plan : m.plan = []
  down : m.down = false
  all : ∀ k, look ((m.pend.take k).foldl ap m.sure) p = v
  away : ∀ c ∈ m.pend, Away p c
theorem Stays.now {p : B8} {v : Option Fi} {m : Fs} (hok : OkM m) (h : Stays p v m) : look m.now p = v := by
  have := h.all m.pend.length
  rwa [List.take_length, hok.fold] at this
/-- Calls but a sync: nothing new is durable. -/
structure Kept (F : Files) (m : Fs) : Prop where
  plan : m.plan = []
  down : m.down = false
  sure : m.sure = F
/-! ### A move -/
end Go.Proofs.YtalpfoomkhhgnaaGreatDoor

/-! The hash SHA-256 in plain Lean; its digits; which texts are hashes' texts. No program in sight. Conditions: as each theorem states. -/
namespace Go.Proofs.YtalpfoomkhhgnaaGreatDoor
open Go Go.RowKit

def shaK : List UInt32 := [
  0x428A2F98, 0x71374491, 0xB5C0FBCF, 0xE9B5DBA5, 0x3956C25B, 0x59F111F1, 0x923F82A4, 0xAB1C5ED5,
  0xD807AA98, 0x12835B01, 0x243185BE, 0x550C7DC3, 0x72BE5D74, 0x80DEB1FE, 0x9BDC06A7, 0xC19BF174,
  0xE49B69C1, 0xEFBE4786, 0x0FC19DC6, 0x240CA1CC, 0x2DE92C6F, 0x4A7484AA, 0x5CB0A9DC, 0x76F988DA,
  0x983E5152, 0xA831C66D, 0xB00327C8, 0xBF597FC7, 0xC6E00BF3, 0xD5A79147, 0x06CA6351, 0x14292967,
  0x27B70A85, 0x2E1B2138, 0x4D2C6DFC, 0x53380D13, 0x650A7354, 0x766A0ABB, 0x81C2C92E, 0x92722C85,
  0xA2BFE8A1, 0xA81A664B, 0xC24B8B70, 0xC76C51A3, 0xD192E819, 0xD6990624, 0xF40E3585, 0x106AA070,
  0x19A4C116, 0x1E376C08, 0x2748774C, 0x34B0BCB5, 0x391C0CB3, 0x4ED8AA4A, 0x5B9CCA4F, 0x682E6FF3,
  0x748F82EE, 0x78A5636F, 0x84C87814, 0x8CC70208, 0x90BEFFFA, 0xA4506CEB, 0xBEF9A3F7, 0xC67178F2]
def shaH : List UInt32 := [0x6A09E667, 0xBB67AE85, 0x3C6EF372, 0xA54FF53A, 0x510E527F, 0x9B05688C, 0x1F83D9AB, 0x5BE0CD19]
/-- Turned to the left, as math/bits turns: by n, of which the last five bits count. -/
def rotl (x : UInt32) (n : UInt32) : UInt32 := (x <<< n) ||| (x >>> (32 - n))
def be4 (b : B8) (i : Nat) : UInt32 :=
  ((((b.getD (4 * i) 0).toUInt32 <<< 24) ||| ((b.getD (4 * i + 1) 0).toUInt32 <<< 16)) ||| ((b.getD (4 * i + 2) 0).toUInt32 <<< 8)) ||| (b.getD (4 * i + 3) 0).toUInt32
def wNext (w : List UInt32) (i : Nat) : UInt32 :=
  ((w.getD (i - 16) 0 + ((rotl (w.getD (i - 15) 0) 25 ^^^ rotl (w.getD (i - 15) 0) 14) ^^^ (w.getD (i - 15) 0 >>> 3))) + w.getD (i - 7) 0)
    + ((rotl (w.getD (i - 2) 0) 15 ^^^ rotl (w.getD (i - 2) 0) 13) ^^^ (w.getD (i - 2) 0 >>> 10))
/-- The first n words of a block's schedule. -/
def wSched (b : B8) : Nat → List UInt32
  | 0 => []
  | n + 1 => wSched b n ++ [if n < 16 then be4 b n else wNext (wSched b n) n]
/-- A round: of eight words. -/
def rnd (s : List UInt32) (k w : UInt32) : List UInt32 :=
  let e := s.getD 4 0
  let a := s.getD 0 0
  let x := (rotl e 26 ^^^ rotl e 21) ^^^ rotl e 7
  let t := (((s.getD 7 0 + x) + ((e &&& s.getD 5 0) ^^^ (~~~e &&& s.getD 6 0))) + k) + w
  let y := (rotl a 30 ^^^ rotl a 19) ^^^ rotl a 10
  let u := y + (((a &&& s.getD 1 0) ^^^ (a &&& s.getD 2 0)) ^^^ (s.getD 1 0 &&& s.getD 2 0))
  [t + u, s.getD 0 0, s.getD 1 0, s.getD 2 0, s.getD 3 0 + t, s.getD 4 0, s.getD 5 0, s.getD 6 0]
def rnds (s w : List UInt32) : Nat → List UInt32
  | 0 => s
  | n + 1 => rnd (rnds s w n) (shaK.getD n 0) (w.getD n 0)
/-- A block is taken. -/
def mixM (h : List UInt32) (b : B8) : List UInt32 := List.zipWith (· + ·) h (rnds h (wSched b 64) 64)
/-- All whole blocks are taken; what is left. -/
def absorb (h : List UInt32) (l : B8) : List UInt32 × B8 :=
  if 64 ≤ l.length then absorb (mixM h (l.take 64)) (l.drop 64) else (h, l)
termination_by l.length
decreasing_by simp; omega
/-- How many zeros stand behind the byte 128. -/
def padZ (n : Nat) : Nat := (119 - n % 64) % 64
def be8 (n : Nat) : B8 := [56, 48, 40, 32, 24, 16, 8, 0].map fun k => UInt8.ofNat (n / 2 ^ k)
def padM (n : Nat) : B8 := 128 :: (List.replicate (padZ n) 0 ++ be8 (8 * n))
def outM (x : UInt32) : B8 := [UInt8.ofNat (x >>> 24).toNat, UInt8.ofNat (x >>> 16).toNat, UInt8.ofNat (x >>> 8).toNat, UInt8.ofNat x.toNat]
def sumM (l : B8) : B8 := (absorb (absorb shaH l).1 ((absorb shaH l).2 ++ padM l.length)).1.flatMap outM
def digitsB : B8 := [48, 49, 50, 51, 52, 53, 54, 55, 56, 57, 97, 98, 99, 100, 101, 102]
def hexM (l : B8) : B8 := l.flatMap fun x => [digitsB.getD (x.toNat / 16) 0, digitsB.getD (x.toNat % 16) 0]
def shaM (l : B8) : B8 := hexM (sumM l)
/-- Which digit: its place; 16: none. -/
def digM (c : UInt8) : Nat := digitsB.idxOf c
def unhexM : B8 → Option B8
  | [] => some []
  | [_] => none
  | a :: b :: l => if digM a < 16 ∧ digM b < 16 then (unhexM l).map (UInt8.ofNat (16 * digM a + digM b) :: ·) else none
def validB (s : B8) : Bool := match unhexM s with
  | some b => b.length == 32
  | none => false

/-! ### Lengths -/
theorem rnds_len {s w : List UInt32} (h : s.length = 8) : ∀ n, (rnds s w n).length = 8
  | 0 => h
  | _ + 1 => rfl
theorem mix_len {h : List UInt32} {b : B8} (hl : h.length = 8) : (mixM h b).length = 8 := by
  unfold mixM
  rw [List.length_zipWith, hl, rnds_len hl]
  rfl
theorem sched_len (b : B8) : ∀ n, (wSched b n).length = n
  | 0 => rfl
  | n + 1 => by unfold wSched; rw [List.length_append, sched_len b n]; rfl
theorem hex_len (l : B8) : (hexM l).length = 2 * l.length := by
  induction l with
  | nil => rfl
  | cons x l ih =>
    have : hexM (x :: l) = [digitsB.getD (x.toNat / 16) 0, digitsB.getD (x.toNat % 16) 0] ++ hexM l := by unfold hexM; rw [List.flatMap_cons]
    rw [this, List.length_append, ih]
    simp only [List.length_cons, List.length_nil]
    omega
/-! ### Back -/
/-- A hash's text: 64 signs, each a digit. -/
theorem unhex_len : ∀ (s : B8) {b : B8}, unhexM s = some b → s.length = 2 * b.length ∧ ∀ c ∈ s, digM c < 16
  | [], b, h => by
    have : b = [] := by simpa [unhexM] using h.symm
    subst this
    exact ⟨rfl, fun c hc => by cases hc⟩
  | [x], b, h => by simp [unhexM] at h
  | x :: y :: l, b, h => by
    unfold unhexM at h
    split at h
    · rename_i hd
      obtain ⟨r, hr, rfl⟩ := Option.map_eq_some_iff.1 h
      obtain ⟨h1, h2⟩ := unhex_len l hr
      refine ⟨by simp only [List.length_cons, h1]; omega, fun c hc => ?_⟩
      rcases List.mem_cons.1 hc with rfl | hc
      · exact hd.1
      · rcases List.mem_cons.1 hc with rfl | hc
        · exact hd.2
        · exact h2 c hc
    · cases h
end Go.Proofs.YtalpfoomkhhgnaaGreatDoor

/-! Names for commits, over a file system: what each call does, in plain Lean. Conditions: as each theorem states. -/
namespace Go.Proofs.YtalpfoomkhhgnaaGreatDoor
open Go Go.RowKit

def lockD : B8 := [115, 47, 108]
def placeD : B8 := [115, 47, 114]
def lockP (n : B8) : B8 := [115, 47, 108, 47] ++ n
def placeP (n : B8) : B8 := [115, 47, 114, 47] ++ n
def lineM (id : B8) : B8 := id ++ [10]
/-- A file is read: what the program makes of it. -/
def expectE (x : Fi × Int) (old : B8) : Int :=
  if x.2 = 7 then (if old = [] then 0 else 13) else if x.2 ≠ 0 then x.2 else if old = [] ∨ x.1.data ≠ lineM old then 13 else 0
def expectM (m : Fs) (name old : B8) : Fs × Int := ((readM m (placeP name)).1, expectE (readM m (placeP name)).2 old)
def setEnd (m : Fs) (name : B8) : Fs × Int :=
  if (moveM m (lockP name) (placeP name) false).2 ≠ 0 then moveM m (lockP name) (placeP name) false else syncM (moveM m (lockP name) (placeP name) false).1
def setMid (x : Fs × Int) (name : B8) : Fs × Int :=
  if (if x.2 = 0 then syncM x.1 else x).2 ≠ 0 then ((removeM (if x.2 = 0 then syncM x.1 else x).1 (lockP name)).1, (if x.2 = 0 then syncM x.1 else x).2)
  else setEnd (if x.2 = 0 then syncM x.1 else x).1 name
def setM (m : Fs) (name old next : B8) : Fs × Int :=
  if nameB name = false then (m, 6) else if validB next = false ∨ (old ≠ [] ∧ validB old = false) then (m, 1)
  else if (createM m (lockP name) 1 (lineM next)).2 ≠ 0 then ((createM m (lockP name) 1 (lineM next)).1, if (createM m (lockP name) 1 (lineM next)).2 = 8 then 13 else (createM m (lockP name) 1 (lineM next)).2)
  else setMid (expectM (createM m (lockP name) 1 (lineM next)).1 name old) name
def deleteM (m : Fs) (name old : B8) : Fs × Int :=
  if nameB name = false then (m, 6) else if validB old = false then (m, 1)
  else if (readM m (placeP name)).2.2 ≠ 0 then ((readM m (placeP name)).1, (readM m (placeP name)).2.2)
  else if (readM m (placeP name)).2.1.data ≠ lineM old then ((readM m (placeP name)).1, 13)
  else if (removeM (readM m (placeP name)).1 (placeP name)).2 ≠ 0 then removeM (readM m (placeP name)).1 (placeP name)
  else syncM (removeM (readM m (placeP name)).1 (placeP name)).1
def getE (x : Fi × Int) : B8 × Int :=
  if x.2 ≠ 0 then ([], x.2) else if validB (Lib.trimSuffix x.1.data [10]) = false ∨ lineM (Lib.trimSuffix x.1.data [10]) ≠ x.1.data then ([], 4) else (Lib.trimSuffix x.1.data [10], 0)
def getM (m : Fs) (name : B8) : Fs × B8 × Int := if nameB name = false then (m, [], 6) else ((readM m (placeP name)).1, getE (readM m (placeP name)).2)
def lastL (l : List B8) (dir : B8) : List B8 := (l.map fun p => Lib.trimPrefix p (dir ++ [47])).filter nameB
def refsM (m : Fs) : Fs × List B8 × Int := ((listM m placeD).1, lastL (listM m placeD).2.1 placeD, (listM m placeD).2.2)
def dropsM (m : Fs) : List B8 → Fs × Int
  | [] => (m, 0)
  | n :: l => if (removeM m (lockP n)).2 ≠ 0 then removeM m (lockP n) else dropsM (removeM m (lockP n)).1 l
def unlockM (m : Fs) : Fs × Int × Int :=
  if (listM m lockD).2.2 ≠ 0 then ((listM m lockD).1, 0, (listM m lockD).2.2)
  else if (dropsM (listM m lockD).1 (lastL (listM m lockD).2.1 lockD)).2 ≠ 0 then ((dropsM (listM m lockD).1 (lastL (listM m lockD).2.1 lockD)).1, 0, (dropsM (listM m lockD).1 (lastL (listM m lockD).2.1 lockD)).2)
  else ((dropsM (listM m lockD).1 (lastL (listM m lockD).2.1 lockD)).1, ((lastL (listM m lockD).2.1 lockD).length : Int), 0)

/-! ### What each leaves, in numbers -/
end Go.Proofs.YtalpfoomkhhgnaaGreatDoor
