/- Numbers as bytes: put and read back; in plain Lean. Conditions: as each theorem states. -/
import Derived.Test.YtalpfoomkhhgnaaGreatDoorZab
import Derived.Test.YtalpfoomkhhgnaaGreatDoorZaa

set_option linter.unusedVariables false
set_option linter.unusedSimpArgs false

/-! What holds of the files behind any operations, crashes among them: no file under another one, modes, times, the room: in plain Lean. Conditions: as each theorem states. -/
namespace Go.Proofs.YtalpfoomkhhgnaaGreatDoor
open Go Go.RowKit

/-! ### Bytes of files -/
theorem usedF_ins (x : B8 × Fi) : ∀ l : Files, usedF (insF x l) = x.2.data.length + usedF l
  | [] => by simp [insF, usedF]
  | y :: r => by
    unfold insF
    split
    · simp [usedF]
    · have := usedF_ins x r
      simp only [usedF, List.map_cons, List.sum_cons] at *
      omega
theorem delF_none {l : Files} {p : B8} (h : ∀ e ∈ l, e.1 ≠ p) : delF l p = l := List.filter_eq_self.2 (fun e he => by simpa using h e he)
theorem usedF_del {l : Files} (h : Rising l) (p : B8) : usedF (delF l p) + oldLen l p = usedF l := by
  induction l with
  | nil => rfl
  | cons y r ih =>
    obtain ⟨h1, h2⟩ := List.pairwise_cons.1 h
    have ih := ih h2
    by_cases hy : y.1 = p
    · have hr : delF r p = r := delF_none (fun e he => by rw [← hy]; exact (ltB_ne (h1 e he)).symm)
      have e1 : delF (y :: r) p = r := by
        unfold delF at *
        rw [List.filter_cons, hr]
        simp [hy]
      have e2 : oldLen (y :: r) p = y.2.data.length := by unfold oldLen look; simp [hy]
      rw [e1, e2]
      simp only [usedF, List.map_cons, List.sum_cons]
      omega
    · have e1 : delF (y :: r) p = y :: delF r p := by unfold delF; rw [List.filter_cons]; simp [hy]
      have e2 : oldLen (y :: r) p = oldLen r p := by unfold oldLen look; simp [hy]
      rw [e1, e2]
      simp only [usedF, List.map_cons, List.sum_cons] at *
      omega
theorem usedF_put {l : Files} (h : Rising l) (p : B8) (f : Fi) : usedF (putF l p f) + oldLen l p = usedF l + f.data.length := by
  have h1 := usedF_ins (p, f) (delF l p)
  have h2 := usedF_del h p
  unfold putF
  simp only at h1
  omega
theorem mem_put {l : Files} {p : B8} {f : Fi} {e : B8 × Fi} : e ∈ putF l p f ↔ e = (p, f) ∨ (e ∈ l ∧ e.1 ≠ p) := by
  unfold putF
  rw [mem_insF]
  simp [delF]
theorem mem_del {l : Files} {p : B8} {e : B8 × Fi} : e ∈ delF l p ↔ e ∈ l ∧ e.1 ≠ p := by simp [delF]

/-! ### Paths -/
theorem not_under_self (p : B8) : isUnder p p = false := by
  cases h : isUnder p p with
  | false => rfl
  | true =>
    obtain ⟨r, hr⟩ := (under_iff p p).1 h
    have := congrArg List.length hr
    simp at this
theorem may_spec {l : Files} {p but : B8} (h : mayF l p but = true) : ∀ e ∈ l, e.1 ≠ but → isUnder e.1 p = false ∧ isUnder p e.1 = false := by
  intro e he hb
  unfold mayF at h
  simp only [Bool.not_eq_true', List.any_eq_false] at h
  have := h e he
  simpa [hb] using this

/-- Files as they are to be: b: is the room to be kept? t: no file is younger. -/
structure Fine (r : Int) (b : Prop) (t : Nat) (l : Files) : Prop where
  rise : Rising l
  path : ∀ e ∈ l, pathB e.1 = true
  tree : ∀ x ∈ l, ∀ y ∈ l, isUnder x.1 y.1 = false
  mode : ∀ e ∈ l, 1 ≤ e.2.mode ∧ e.2.mode ≤ 3
  time : ∀ e ∈ l, 0 ≤ e.2.time ∧ e.2.time ≤ t
  used : b → (usedF l : Int) ≤ r
theorem Fine.mono {r : Int} {b b' : Prop} {t t' : Nat} {l : Files} (h : Fine r b t l) (hb : b' → b) (ht : t ≤ t') : Fine r b' t' l :=
  ⟨h.rise, h.path, h.tree, h.mode, fun e he => by have := h.time e he; omega, fun hb' => h.used (hb hb')⟩
theorem Fine.nil {r : Int} {b : Prop} {t : Nat} (hr : 0 ≤ r) : Fine r b t [] :=
  ⟨List.Pairwise.nil, fun e he => (by cases he), fun e he => (by cases he), fun e he => (by cases he), fun e he => (by cases he), fun _ => (by simpa [usedF] using hr)⟩
theorem Fine.put {r : Int} {b : Prop} {t : Nat} {l : Files} (h : Fine r b t l) {p : B8} {f : Fi} (hp : pathB p = true) (hm : 1 ≤ f.mode ∧ f.mode ≤ 3) (ht : 0 ≤ f.time ∧ f.time ≤ t) (hmay : look l p = none → mayF l p [] = true)
    (hu : b → (f.data.length : Int) ≤ r - usedF l + oldLen l p) : Fine r b t (putF l p f) := by
  have hmem : ∀ e ∈ putF l p f, e = (p, f) ∨ (e ∈ l ∧ e.1 ≠ p) := fun e he => mem_put.1 he
  have hno : ∀ e ∈ l, isUnder e.1 p = false ∧ isUnder p e.1 = false := by
    intro e he
    cases hl : look l p with
    | none => exact may_spec (hmay hl) e he (path_ne (h.path e he))
    | some f0 => exact ⟨h.tree e he _ (look_mem hl), h.tree _ (look_mem hl) e he⟩
  refine ⟨h.rise.put p f, fun e he => ?_, fun x hx y hy => ?_, fun e he => ?_, fun e he => ?_, fun hb => ?_⟩
  · rcases hmem e he with rfl | he
    · exact hp
    · exact h.path e he.1
  · rcases hmem x hx with rfl | hx <;> rcases hmem y hy with rfl | hy
    · exact not_under_self p
    · exact (hno y hy.1).2
    · exact (hno x hx.1).1
    · exact h.tree x hx.1 y hy.1
  · rcases hmem e he with rfl | he
    · exact hm
    · exact h.mode e he.1
  · rcases hmem e he with rfl | he
    · exact ht
    · exact h.time e he.1
  · have := usedF_put h.rise p f
    have := hu hb
    omega
theorem Fine.del {r : Int} {b : Prop} {t : Nat} {l : Files} (h : Fine r b t l) (p : B8) : Fine r b t (delF l p) := by
  have hmem : ∀ e ∈ delF l p, e ∈ l := fun e he => (mem_del.1 he).1
  refine ⟨h.rise.del p, fun e he => h.path e (hmem e he), fun x hx y hy => h.tree x (hmem x hx) y (hmem y hy), fun e he => h.mode e (hmem e he), fun e he => h.time e (hmem e he), fun hb => ?_⟩
  have := usedF_del h.rise p
  have := h.used hb
  omega
theorem Fine.mv {r : Int} {b : Prop} {t : Nat} {l : Files} (h : Fine r b t l) {s d : B8} {x : Fi} (hs : look l s = some x) (hd : pathB d = true) (hmay : look l d = none → mayF l d s = true) : Fine r b t (putF (delF l s) d x) := by
  have hmem : ∀ e ∈ putF (delF l s) d x, e = (d, x) ∨ (e ∈ l ∧ e.1 ≠ s) := fun e he => (mem_put.1 he).imp id (fun h => mem_del.1 h.1)
  have hx := look_mem hs
  have hno : ∀ e ∈ l, e.1 ≠ s → isUnder e.1 d = false ∧ isUnder d e.1 = false := by
    intro e he hne
    cases hl : look l d with
    | none => exact may_spec (hmay hl) e he hne
    | some f0 => exact ⟨h.tree e he _ (look_mem hl), h.tree _ (look_mem hl) e he⟩
  refine ⟨(h.rise.del s).put d x, fun e he => ?_, fun x hx y hy => ?_, fun e he => ?_, fun e he => ?_, fun hb => ?_⟩
  · rcases hmem e he with rfl | he
    · exact hd
    · exact h.path e he.1
  · rcases hmem x hx with rfl | hx <;> rcases hmem y hy with rfl | hy
    · exact not_under_self d
    · exact (hno y hy.1 hy.2).2
    · exact (hno x hx.1 hx.2).1
    · exact h.tree x hx.1 y hy.1
  · rcases hmem e he with rfl | he
    · exact h.mode (s, x) hx
    · exact h.mode e he.1
  · rcases hmem e he with rfl | he
    · exact h.time (s, x) hx
    · exact h.time e he.1
  · have h1 := usedF_put (h.rise.del s) d x
    have h2 := usedF_del h.rise s
    have h3 := h.used hb
    have h4 : oldLen l s = x.data.length := by unfold oldLen; rw [hs]
    omega

/-! ### At all times -/
def FineM (m : Fs) : Prop := ∀ k, Fine m.room (m.users = []) m.time ((m.pend.take k).foldl ap m.sure)
theorem FineM.now {m : Fs} (h : FineM m) (hok : OkM m) : Fine m.room (m.users = []) m.time m.now := by
  have := h m.pend.length
  rwa [List.take_length, hok.fold] at this
theorem FineM.same {m m' : Fs} (h : FineM m) (h1 : m'.sure = m.sure) (h2 : m'.pend = m.pend) (h3 : m'.room = m.room) (h4 : m'.users = m.users) (h5 : m'.time = m.time) : FineM m' := by
  intro k
  rw [h1, h2, h3, h4, h5]
  exact h k
/-- A file system behind operations. -/
def playM (room : Int) (l : List Opn) : Fs := l.foldl stepM (newM room)
end Go.Proofs.YtalpfoomkhhgnaaGreatDoor

/-! Calls without events, crashes, users: what each leaves; what a crash behind them leaves; moves, failing calls: in plain Lean. Conditions: as each theorem states. -/
namespace Go.Proofs.YtalpfoomkhhgnaaGreatDoor
open Go Go.RowKit

/-! ### Finds behind changes -/
theorem find_ins (p q : B8) (f : Fi) (hne : q ≠ p) : ∀ r : Files, (insF (q, f) r).find? (fun e => e.1 == p) = r.find? (fun e => e.1 == p)
  | [] => by simp [insF, hne]
  | y :: r => by
    unfold insF
    split
    · have hq : (q == p) = false := by simpa using hne
      rw [List.find?_cons]
      simp only [hq]
    · rw [List.find?_cons, List.find?_cons, find_ins p q f hne r]
theorem look_delF_ne {l : Files} {p q : B8} (hne : q ≠ p) : look (delF l q) p = look l p := by
  unfold look delF
  rw [List.find?_filter]
  congr 2
  funext e
  by_cases h : e.1 = p
  · simp [h, Ne.symm hne]
  · simp [h]
theorem look_putF_ne {l : Files} {p q : B8} {f : Fi} (hne : q ≠ p) : look (putF l q f) p = look l p := by
  have h1 := look_delF_ne (l := l) hne
  unfold putF
  rw [← h1]
  unfold look
  rw [find_ins p q f hne]
/-- A change that does not touch a path. -/
def Away (p : B8) : Ch → Prop
  | .put q _ => q ≠ p
  | .mv s d => s ≠ p ∧ d ≠ p
  | .del q => q ≠ p
/-! ### Calls with nothing planned -/
theorem call_calm {m : Fs} (hp : m.plan = []) (hd : m.down = false) : callM m = ({ m with calls := m.calls + 1 }, false, 0) := by
  unfold callM
  rw [hp]
  simp [hd]
/-- A path that stays as it is. -/
structure Stays (p : B8) (v : Option Fi) (m : Fs) : Prop where
  plan : m.plan = []
  down : m.down = false
  all : ∀ k, look ((m.pend.take k).foldl ap m.sure) p = v
  away : ∀ c ∈ m.pend, Away p c
theorem Stays.now {p : B8} {v : Option Fi} {m : Fs} (hok : OkM m) (h : Stays p v m) : look m.now p = v := by
  have := h.all m.pend.length
  rwa [List.take_length, hok.fold] at this
/-- Calls but a sync: nothing new is durable. -/
structure Kept (F : Files) (m : Fs) : Prop where
  plan : m.plan = []
  down : m.down = false
  sure : m.sure = F
/-! ### A move -/
end Go.Proofs.YtalpfoomkhhgnaaGreatDoor

/-! The hash SHA-256 in plain Lean; its digits; which texts are hashes' texts. No program in sight. Conditions: as each theorem states. -/
namespace Go.Proofs.YtalpfoomkhhgnaaGreatDoor
open Go Go.RowKit

def shaK : List UInt32 := [
  0x428A2F98, 0x71374491, 0xB5C0FBCF, 0xE9B5DBA5, 0x3956C25B, 0x59F111F1, 0x923F82A4, 0xAB1C5ED5,
  0xD807AA98, 0x12835B01, 0x243185BE, 0x550C7DC3, 0x72BE5D74, 0x80DEB1FE, 0x9BDC06A7, 0xC19BF174,
  0xE49B69C1, 0xEFBE4786, 0x0FC19DC6, 0x240CA1CC, 0x2DE92C6F, 0x4A7484AA, 0x5CB0A9DC, 0x76F988DA,
  0x983E5152, 0xA831C66D, 0xB00327C8, 0xBF597FC7, 0xC6E00BF3, 0xD5A79147, 0x06CA6351, 0x14292967,
  0x27B70A85, 0x2E1B2138, 0x4D2C6DFC, 0x53380D13, 0x650A7354, 0x766A0ABB, 0x81C2C92E, 0x92722C85,
  0xA2BFE8A1, 0xA81A664B, 0xC24B8B70, 0xC76C51A3, 0xD192E819, 0xD6990624, 0xF40E3585, 0x106AA070,
  0x19A4C116, 0x1E376C08, 0x2748774C, 0x34B0BCB5, 0x391C0CB3, 0x4ED8AA4A, 0x5B9CCA4F, 0x682E6FF3,
  0x748F82EE, 0x78A5636F, 0x84C87814, 0x8CC70208, 0x90BEFFFA, 0xA4506CEB, 0xBEF9A3F7, 0xC67178F2]
def shaH : List UInt32 := [0x6A09E667, 0xBB67AE85, 0x3C6EF372, 0xA54FF53A, 0x510E527F, 0x9B05688C, 0x1F83D9AB, 0x5BE0CD19]
/-- Turned to the left, as math/bits turns: by n, of which the last five bits count. -/
def rotl (x : UInt32) (n : UInt32) : UInt32 := (x <<< n) ||| (x >>> (32 - n))
def be4 (b : B8) (i : Nat) : UInt32 :=
  ((((b.getD (4 * i) 0).toUInt32 <<< 24) ||| ((b.getD (4 * i + 1) 0).toUInt32 <<< 16)) ||| ((b.getD (4 * i + 2) 0).toUInt32 <<< 8)) ||| (b.getD (4 * i + 3) 0).toUInt32
def wNext (w : List UInt32) (i : Nat) : UInt32 :=
  ((w.getD (i - 16) 0 + ((rotl (w.getD (i - 15) 0) 25 ^^^ rotl (w.getD (i - 15) 0) 14) ^^^ (w.getD (i - 15) 0 >>> 3))) + w.getD (i - 7) 0)
    + ((rotl (w.getD (i - 2) 0) 15 ^^^ rotl (w.getD (i - 2) 0) 13) ^^^ (w.getD (i - 2) 0 >>> 10))
/-- The first n words of a block's schedule. -/
def wSched (b : B8) : Nat → List UInt32
  | 0 => []
  | n + 1 => wSched b n ++ [if n < 16 then be4 b n else wNext (wSched b n) n]
/-- A round: of eight words. -/
def rnd (s : List UInt32) (k w : UInt32) : List UInt32 :=
  let e := s.getD 4 0
  let a := s.getD 0 0
  let x := (rotl e 26 ^^^ rotl e 21) ^^^ rotl e 7
  let t := (((s.getD 7 0 + x) + ((e &&& s.getD 5 0) ^^^ (~~~e &&& s.getD 6 0))) + k) + w
  let y := (rotl a 30 ^^^ rotl a 19) ^^^ rotl a 10
  let u := y + (((a &&& s.getD 1 0) ^^^ (a &&& s.getD 2 0)) ^^^ (s.getD 1 0 &&& s.getD 2 0))
  [t + u, s.getD 0 0, s.getD 1 0, s.getD 2 0, s.getD 3 0 + t, s.getD 4 0, s.getD 5 0, s.getD 6 0]
def rnds (s w : List UInt32) : Nat → List UInt32
  | 0 => s
  | n + 1 => rnd (rnds s w n) (shaK.getD n 0) (w.getD n 0)
/-- A block is taken. -/
def mixM (h : List UInt32) (b : B8) : List UInt32 := List.zipWith (· + ·) h (rnds h (wSched b 64) 64)
/-- All whole blocks are taken; what is left. -/
def absorb (h : List UInt32) (l : B8) : List UInt32 × B8 :=
  if 64 ≤ l.length then absorb (mixM h (l.take 64)) (l.drop 64) else (h, l)
termination_by l.length
decreasing_by simp; omega
/-- How many zeros stand behind the byte 128. -/
def padZ (n : Nat) : Nat := (119 - n % 64) % 64
def be8 (n : Nat) : B8 := [56, 48, 40, 32, 24, 16, 8, 0].map fun k => UInt8.ofNat (n / 2 ^ k)
def padM (n : Nat) : B8 := 128 :: (List.replicate (padZ n) 0 ++ be8 (8 * n))
def outM (x : UInt32) : B8 := [UInt8.ofNat (x >>> 24).toNat, UInt8.ofNat (x >>> 16).toNat, UInt8.ofNat (x >>> 8).toNat, UInt8.ofNat x.toNat]
def sumM (l : B8) : B8 := (absorb (absorb shaH l).1 ((absorb shaH l).2 ++ padM l.length)).1.flatMap outM
def digitsB : B8 := [48, 49, 50, 51, 52, 53, 54, 55, 56, 57, 97, 98, 99, 100, 101, 102]
def hexM (l : B8) : B8 := l.flatMap fun x => [digitsB.getD (x.toNat / 16) 0, digitsB.getD (x.toNat % 16) 0]
def shaM (l : B8) : B8 := hexM (sumM l)
/-- Which digit: its place; 16: none. -/
def digM (c : UInt8) : Nat := digitsB.idxOf c
def unhexM : B8 → Option B8
  | [] => some []
  | [_] => none
  | a :: b :: l => if digM a < 16 ∧ digM b < 16 then (unhexM l).map (UInt8.ofNat (16 * digM a + digM b) :: ·) else none
def validB (s : B8) : Bool := match unhexM s with
  | some b => b.length == 32
  | none => false

/-! ### Lengths -/
theorem rnds_len {s w : List UInt32} (h : s.length = 8) : ∀ n, (rnds s w n).length = 8
  | 0 => h
  | _ + 1 => rfl
theorem mix_len {h : List UInt32} {b : B8} (hl : h.length = 8) : (mixM h b).length = 8 := by
  unfold mixM
  rw [List.length_zipWith, hl, rnds_len hl]
  rfl
theorem sched_len (b : B8) : ∀ n, (wSched b n).length = n
  | 0 => rfl
  | n + 1 => by unfold wSched; rw [List.length_append, sched_len b n]; rfl
theorem absorb_len {h : List UInt32} {l : B8} (hl : h.length = 8) : (absorb h l).1.length = 8 ∧ (absorb h l).2.length < 64 := by
  fun_induction absorb h l with
  | case1 h l hc ih => exact ih (mix_len hl)
  | case2 h l hc => exact ⟨hl, by show l.length < 64; omega⟩
theorem flat_out (l : List UInt32) : (l.flatMap outM).length = 4 * l.length := by
  induction l with
  | nil => rfl
  | cons x l ih => rw [List.flatMap_cons, List.length_append, ih, List.length_cons]; show 4 + _ = _; omega
theorem sum_len (l : B8) : (sumM l).length = 32 := by
  unfold sumM
  rw [flat_out, (absorb_len (absorb_len (h := shaH) (l := l) rfl).1).1]
theorem hex_len (l : B8) : (hexM l).length = 2 * l.length := by
  induction l with
  | nil => rfl
  | cons x l ih =>
    have : hexM (x :: l) = [digitsB.getD (x.toNat / 16) 0, digitsB.getD (x.toNat % 16) 0] ++ hexM l := by unfold hexM; rw [List.flatMap_cons]
    rw [this, List.length_append, ih]
    simp only [List.length_cons, List.length_nil]
    omega
/-! ### Back -/
theorem sha_len (l : B8) : (shaM l).length = 64 := by
  unfold shaM
  rw [hex_len, sum_len]
/-- A hash's text: 64 signs, each a digit. -/
theorem unhex_len : ∀ (s : B8) {b : B8}, unhexM s = some b → s.length = 2 * b.length ∧ ∀ c ∈ s, digM c < 16
  | [], b, h => by
    have : b = [] := by simpa [unhexM] using h.symm
    subst this
    exact ⟨rfl, fun c hc => by cases hc⟩
  | [x], b, h => by simp [unhexM] at h
  | x :: y :: l, b, h => by
    unfold unhexM at h
    split at h
    · rename_i hd
      obtain ⟨r, hr, rfl⟩ := Option.map_eq_some_iff.1 h
      obtain ⟨h1, h2⟩ := unhex_len l hr
      refine ⟨by simp only [List.length_cons, h1]; omega, fun c hc => ?_⟩
      rcases List.mem_cons.1 hc with rfl | hc
      · exact hd.1
      · rcases List.mem_cons.1 hc with rfl | hc
        · exact hd.2
        · exact h2 c hc
    · cases h
end Go.Proofs.YtalpfoomkhhgnaaGreatDoor

/-! Names for commits, over a file system: what each call does, in plain Lean. Conditions: as each theorem states. -/
namespace Go.Proofs.YtalpfoomkhhgnaaGreatDoor
open Go Go.RowKit

def lockD : B8 := [115, 47, 108]
def placeD : B8 := [115, 47, 114]
def lockP (n : B8) : B8 := [115, 47, 108, 47] ++ n
def placeP (n : B8) : B8 := [115, 47, 114, 47] ++ n
def lineM (id : B8) : B8 := id ++ [10]
/-- A file is read: what the program makes of it. -/
def expectE (x : Fi × Int) (old : B8) : Int :=
  if x.2 = 7 then (if old = [] then 0 else 13) else if x.2 ≠ 0 then x.2 else if old = [] ∨ x.1.data ≠ lineM old then 13 else 0
def expectM (m : Fs) (name old : B8) : Fs × Int := ((readM m (placeP name)).1, expectE (readM m (placeP name)).2 old)
def setEnd (m : Fs) (name : B8) : Fs × Int :=
  if (moveM m (lockP name) (placeP name) false).2 ≠ 0 then moveM m (lockP name) (placeP name) false else syncM (moveM m (lockP name) (placeP name) false).1
def setMid (x : Fs × Int) (name : B8) : Fs × Int :=
  if (if x.2 = 0 then syncM x.1 else x).2 ≠ 0 then ((removeM (if x.2 = 0 then syncM x.1 else x).1 (lockP name)).1, (if x.2 = 0 then syncM x.1 else x).2)
  else setEnd (if x.2 = 0 then syncM x.1 else x).1 name
def setM (m : Fs) (name old next : B8) : Fs × Int :=
  if nameB name = false then (m, 6) else if validB next = false ∨ (old ≠ [] ∧ validB old = false) then (m, 1)
  else if (createM m (lockP name) 1 (lineM next)).2 ≠ 0 then ((createM m (lockP name) 1 (lineM next)).1, if (createM m (lockP name) 1 (lineM next)).2 = 8 then 13 else (createM m (lockP name) 1 (lineM next)).2)
  else setMid (expectM (createM m (lockP name) 1 (lineM next)).1 name old) name
def deleteM (m : Fs) (name old : B8) : Fs × Int :=
  if nameB name = false then (m, 6) else if validB old = false then (m, 1)
  else if (readM m (placeP name)).2.2 ≠ 0 then ((readM m (placeP name)).1, (readM m (placeP name)).2.2)
  else if (readM m (placeP name)).2.1.data ≠ lineM old then ((readM m (placeP name)).1, 13)
  else if (removeM (readM m (placeP name)).1 (placeP name)).2 ≠ 0 then removeM (readM m (placeP name)).1 (placeP name)
  else syncM (removeM (readM m (placeP name)).1 (placeP name)).1
def getE (x : Fi × Int) : B8 × Int :=
  if x.2 ≠ 0 then ([], x.2) else if validB (Lib.trimSuffix x.1.data [10]) = false ∨ lineM (Lib.trimSuffix x.1.data [10]) ≠ x.1.data then ([], 4) else (Lib.trimSuffix x.1.data [10], 0)
def getM (m : Fs) (name : B8) : Fs × B8 × Int := if nameB name = false then (m, [], 6) else ((readM m (placeP name)).1, getE (readM m (placeP name)).2)
def lastL (l : List B8) (dir : B8) : List B8 := (l.map fun p => Lib.trimPrefix p (dir ++ [47])).filter nameB
def refsM (m : Fs) : Fs × List B8 × Int := ((listM m placeD).1, lastL (listM m placeD).2.1 placeD, (listM m placeD).2.2)
def dropsM (m : Fs) : List B8 → Fs × Int
  | [] => (m, 0)
  | n :: l => if (removeM m (lockP n)).2 ≠ 0 then removeM m (lockP n) else dropsM (removeM m (lockP n)).1 l
def unlockM (m : Fs) : Fs × Int × Int :=
  if (listM m lockD).2.2 ≠ 0 then ((listM m lockD).1, 0, (listM m lockD).2.2)
  else if (dropsM (listM m lockD).1 (lastL (listM m lockD).2.1 lockD)).2 ≠ 0 then ((dropsM (listM m lockD).1 (lastL (listM m lockD).2.1 lockD)).1, 0, (dropsM (listM m lockD).1 (lastL (listM m lockD).2.1 lockD)).2)
  else ((dropsM (listM m lockD).1 (lastL (listM m lockD).2.1 lockD)).1, ((lastL (listM m lockD).2.1 lockD).length : Int), 0)

/-! ### What each leaves, in numbers -/
end Go.Proofs.YtalpfoomkhhgnaaGreatDoor

/-! What marlaw8.RefsExpect says, in plain Lean: one ref, set and deleted just from what it is. Conditions: as each theorem states. -/
namespace Go.Proofs.YtalpfoomkhhgnaaGreatDoor
open Go Go.RowKit

def headB : B8 := [104, 101, 97, 100]
def placeH : B8 := [115, 47, 114, 47, 104, 101, 97, 100]
def lockH : B8 := [115, 47, 108, 47, 104, 101, 97, 100]
/-- One ref, or none; nothing planned, up, room enough. -/
structure Ex (m : Fs) (cur : B8) : Prop where
  plan : m.plan = []
  down : m.down = false
  room : 1000 ≤ m.room
  now : (cur = [] ∧ m.now = []) ∨ (validB cur = true ∧ ∃ t, m.now = [(placeH, ⟨1, lineM cur, t⟩)])
end Go.Proofs.YtalpfoomkhhgnaaGreatDoor

/-! Refs of unlike names, in plain Lean: each stands for itself; a lock that stands keeps its own name alone. Conditions: as each theorem states. -/
namespace Go.Proofs.YtalpfoomkhhgnaaGreatDoor
open Go Go.RowKit

/-! ### Names and places -/
theorem name_no47 {k : B8} (h : nameB k = true) : (47 : UInt8) ∉ k := by
  intro hm
  unfold nameB at h
  simp only [Bool.and_eq_true, Bool.not_eq_true', List.any_eq_false] at h
  exact absurd (show badC 47 = true by decide) (by simpa using h.1 _ hm)
theorem under_name {d k : B8} {pre : B8} (hk : nameB k = true) (h : isUnder (pre ++ d) (pre ++ k) = true) : False := by
  obtain ⟨r, hr⟩ := (under_iff _ _).1 h
  rw [List.append_assoc] at hr
  have h9 := List.append_cancel_left hr
  exact name_no47 hk (by rw [h9]; simp)
theorem under_lp {a b : B8} : isUnder (lockP a) (placeP b) = false := by
  unfold isUnder lockP placeP
  simp [List.isPrefixOf]
theorem under_pl {a b : B8} : isUnder (placeP a) (lockP b) = false := by
  unfold isUnder lockP placeP
  simp [List.isPrefixOf]
theorem under_pp {a b : B8} (hb : nameB b = true) : isUnder (placeP a) (placeP b) = false := by
  cases h : isUnder (placeP a) (placeP b) with
  | false => rfl
  | true => exact (under_name hb h).elim
theorem under_ll {a b : B8} (hb : nameB b = true) : isUnder (lockP a) (lockP b) = false := by
  cases h : isUnder (lockP a) (lockP b) with
  | false => rfl
  | true => exact (under_name hb h).elim
/-! ### Finds -/
/-! ### Refs, and a lock -/
def updH (hv : B8 → Option B8) (k v : B8) : B8 → Option B8 := fun x => if x = k then some v else hv x
/-- .. in the files. -/
structure ApF (F : Files) (lk : Option B8) (hv : B8 → Option B8) (n : Nat) : Prop where
  used : usedF F ≤ 100 * n
  name : ∀ k v, hv k = some v → nameB k = true ∧ validB v = true
  lock : ∀ l, lk = some l → pathB (lockP l) = true ∧ (look F (lockP l)).isSome = true
  refs : ∀ k v, hv k = some v → ∃ t, look F (placeP k) = some ⟨1, lineM v, t⟩
  all : ∀ e ∈ F, (∃ k v, hv k = some v ∧ e.1 = placeP k) ∨ ∃ l, lk = some l ∧ e.1 = lockP l
  locks : (pathsL F).filter (isUnder lockD) = lk.toList.map lockP
structure Ap (m : Fs) (lk : Option B8) (hv : B8 → Option B8) (n : Nat) : Prop where
  plan : m.plan = []
  down : m.down = false
  room : 100000 ≤ m.room
  f : ApF m.now lk hv n
variable {m : Fs} {F : Files} {lk : Option B8} {hv : B8 → Option B8} {n : Nat}
theorem Ap.calls (h : Ap m lk hv n) (c : Nat) : Ap { m with calls := c } lk hv n := ⟨h.plan, h.down, h.room, h.f⟩
theorem ApF.may (h : ApF F lk hv n) {k : B8} (hk : nameB k = true) (hf : ∀ l, lk = some l → isUnder (lockP k) (lockP l) = false) (but : B8) : mayF F (lockP k) but = true := by
  unfold mayF
  rw [Bool.not_eq_true', List.any_eq_false]
  intro e he
  have : isUnder e.1 (lockP k) = false ∧ isUnder (lockP k) e.1 = false := by
    rcases h.all e he with ⟨k', v, h1, h2⟩ | ⟨l, h1, h2⟩
    · rw [h2]; exact ⟨under_pl, under_lp⟩
    · rw [h2]; exact ⟨under_ll hk, hf l h1⟩
  simp [this.1, this.2]
theorem ApF.mayP (h : ApF F lk hv n) {k : B8} (hk : nameB k = true) (but : B8) : mayF F (placeP k) but = true := by
  unfold mayF
  rw [Bool.not_eq_true', List.any_eq_false]
  intro e he
  have : isUnder e.1 (placeP k) = false ∧ isUnder (placeP k) e.1 = false := by
    rcases h.all e he with ⟨k', v, h1, h2⟩ | ⟨l, h1, h2⟩
    · rw [h2]; exact ⟨under_pp hk, under_pp (h.name _ _ h1).1⟩
    · rw [h2]; exact ⟨under_lp, under_pl⟩
  simp [this.1, this.2]
theorem ApF.mono (h : ApF F lk hv n) {k : Nat} (hk : n ≤ k) : ApF F lk hv k := ⟨by have := h.used; omega, h.name, h.lock, h.refs, h.all, h.locks⟩
/-- All locks are taken away. -/
def cntL : Option B8 → Int
  | some l => if nameB l = true then 1 else 0
  | none => 0
def restL : Option B8 → Option B8
  | some l => if nameB l = true then none else some l
  | none => none
end Go.Proofs.YtalpfoomkhhgnaaGreatDoor

/-! A ref that is set while all may fail and fall: it is what it was, or new; the others stay: in plain Lean. Conditions: as each theorem states. -/
namespace Go.Proofs.YtalpfoomkhhgnaaGreatDoor
open Go Go.RowKit

/-- No user does a thing. -/
def NoUser (l : List Ev) : Prop := ∀ e ∈ l, e.kind ≠ 4 ∧ e.kind ≠ 5
/-- What stands there, and whatever may stand there behind a crash. -/
structure Sf (X : Files → Prop) (m : Fs) : Prop where
  user : NoUser m.plan
  room : 100000 ≤ m.room
  now : X m.now
  dn : m.down = true → m.sure = m.now ∧ m.pend = []
  up : m.down = false → ∀ keep torn, X (fallen m keep torn)
variable {X Y : Files → Prop} {m : Fs}
theorem Sf.mono (h : Sf X m) (hxy : ∀ F, X F → Y F) : Sf Y m := ⟨h.user, h.room, hxy _ h.now, h.dn, fun hu k t => hxy _ (h.up hu k t)⟩
/-! ### What a call that answers well has done -/
/-! ### Files with a lock more -/
variable {F : Files} {hv : B8 → Option B8} {n : Nat}
def XA (hv : B8 → Option B8) (k : B8) (n : Nat) (F : Files) : Prop := ApF F none hv n ∨ ApF F (some k) hv n
def XB (hv : B8 → Option B8) (k b : B8) (n : Nat) (F : Files) : Prop := ApF F none (updH hv k b) n
def XAB (hv : B8 → Option B8) (k b : B8) (n : Nat) (F : Files) : Prop := XA hv k n F ∨ XB hv k b n F
/-- The lock stands, not durable. -/
structure Mid1 (F : Files) (k b : B8) (t : Int) (m : Fs) : Prop where
  now : m.now = putF F (lockP k) ⟨1, lineM b, t⟩
  sure : m.sure = F
  pend : m.pend = [.put (lockP k) ⟨1, lineM b, t⟩]
theorem Mid1.calls {k b : B8} {t : Int} (h : Mid1 F k b t m) (c : Nat) : Mid1 F k b t { m with calls := c } := ⟨h.now, h.sure, h.pend⟩
/-! ### What is told -/
def isF (F : Files) (k id : B8) : Bool := if id = [] then (look F (placeP k)).isNone else match look F (placeP k) with | some x => x.data == lineM id | none => false
end Go.Proofs.YtalpfoomkhhgnaaGreatDoor

/-! A store of objects over a file system: what Put does; whatever fails and falls, each place has bytes of its hash: in plain Lean. Conditions: as each theorem states. -/
namespace Go.Proofs.YtalpfoomkhhgnaaGreatDoor
open Go Go.RowKit

def tempP : B8 := [115, 47, 116]
def placeO (id : B8) : B8 := [115, 47, 111, 47] ++ id
def putEnd (x : Fs × Int) (id : B8) : Fs × B8 × Int :=
  if x.2 ≠ 0 then (x.1, [], x.2) else if (moveM x.1 tempP (placeO id) false).2 ≠ 0 then ((moveM x.1 tempP (placeO id) false).1, [], (moveM x.1 tempP (placeO id) false).2)
  else ((moveM x.1 tempP (placeO id) false).1, id, 0)
def putO (m : Fs) (b : B8) : Fs × B8 × Int :=
  if 20000 < b.length then (m, [], 3)
  else if (readM m (placeO (shaM b))).2.2 = 0 ∧ (readM m (placeO (shaM b))).2.1.data = b then ((readM m (placeO (shaM b))).1, shaM b, 0)
  else if (readM m (placeO (shaM b))).2.2 = 0 ∧ shaM (readM m (placeO (shaM b))).2.1.data = shaM b then ((readM m (placeO (shaM b))).1, [], 5)
  else if (readM m (placeO (shaM b))).2.2 ≠ 0 ∧ (readM m (placeO (shaM b))).2.2 ≠ 7 then ((readM m (placeO (shaM b))).1, [], (readM m (placeO (shaM b))).2.2)
  else putEnd (writeM (readM m (placeO (shaM b))).1 tempP 1 b) (shaM b)

/-- Each file is what was begun, or lies where its hash says. -/
def XO (F : Files) : Prop := ∀ e ∈ F, e.1 = tempP ∨ e.1 = placeO (shaM e.2.data)
/-- What is pending writes what is begun, or moves it. -/
def ChO : Ch → Prop
  | .put p _ => p = tempP
  | .mv s _ => s = tempP
  | .del _ => False
structure Wh (m : Fs) (told : List B8) : Prop where
  user : NoUser m.plan
  now : XO m.now
  dn : m.down = true → m.sure = m.now ∧ m.pend = []
  up : m.down = false → (∀ k, XO ((m.pend.take k).foldl ap m.sure)) ∧ (∀ c ∈ m.pend, ChO c) ∧ ∀ id ∈ told, (look m.now (placeO id)).isSome = true
end Go.Proofs.YtalpfoomkhhgnaaGreatDoor

/-! Numbers as bytes: put and read back; in plain Lean. Conditions: as each theorem states. -/
namespace Go.Proofs.YtalpfoomkhhgnaaGreatDoor
open Go Go.RowKit

/-- A number's bytes: seven bits each, the lowest first; all but the last have 128 besides. -/
def putN (n : Nat) : B8 := if 127 < n then UInt8.ofNat (n % 128 + 128) :: putN (n / 128) else [UInt8.ofNat n]
termination_by n
decreasing_by omega
def maxW : Nat := 72057594037927936
def putW (n : Int) : B8 × Int := if n < 0 ∨ (maxW : Int) < n then ([], 1) else (putN n.toNat, 0)
/-- How many bytes stand ahead that go on. -/
def moreW (l : B8) : Nat := (l.takeWhile fun c => decide (127 < c.toNat)).length
def valW : B8 → Nat
  | [] => 0
  | c :: l => c.toNat % 128 + 128 * valW l
/-- The number that stands first: itself, how long it is, an error. -/
def getW (l : B8) : Nat × Nat × Int :=
  if moreW l = l.length then (0, 0, 2)
  else if 9 < moreW l + 1 then (0, 0, 4)
  else if maxW < valW (l.take (moreW l + 1)) ∨ putN (valW (l.take (moreW l + 1))) ≠ l.take (moreW l + 1) then (0, 0, 4)
  else (valW (l.take (moreW l + 1)), moreW l + 1, 0)

end Go.Proofs.YtalpfoomkhhgnaaGreatDoor
