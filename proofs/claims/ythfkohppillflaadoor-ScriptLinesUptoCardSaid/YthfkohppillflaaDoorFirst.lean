/- marlaw26.first: what the chapter's examples fix. Conditions: the library's variables. -/
import Derived.Test.YthfkohppillflaaDoorCopy
namespace Go.Proofs.YthfkohppillflaaDoor
open Go Go.RowKit

def ex1 : B8 := [115, 97, 118, 101, 32, 49, 32, 48, 32, 48, 32, 45, 32, 45, 32, 45, 32, 45]
def ex2 : B8 := [115, 97, 118, 101]
def ex3 : B8 := [103, 111]
theorem ex1_says : (parseL ex1).2 = 0 ∧ (parseL ex1).1.kind = 3 ∧ (parseL ex1).1.a = 1 := by decide +kernel
theorem ex2_says : (parseL ex2).2 = 2 := by decide +kernel
theorem ex3_says : (parseL ex3).2 = 6 := by decide +kernel

set_option maxRecDepth 100000 in
set_option maxHeartbeats 1000000 in
theorem first_any (w : World) (hE : Env w) :
    Calls Tryd.prog 7 #[] w fun e w' => e = .returned (.bool true) ∧ Ext w w' := by
  have HE : Hid _ := hE
  clear hE
  go_enter Tryd.func7, Tryd.ntmps7
  go_wp2_with fail
  go_at_call 9
  refine (parse_any ex1 _ HE.out (by decide)).mono ?_
  rw [ex1_says.1]
  rintro e w2 ⟨⟨cs, rfl, hac⟩, hx2⟩
  obtain ⟨vd, vf, ve, rfl, ⟨⟨q1, q2, rfl, -⟩, -⟩, ⟨⟨q3, q4, rfl, -⟩, -⟩, ⟨q5, ⟨q6, q7, rfl, -⟩, -⟩⟩ := hac
  rw [ex1_says.2.1, ex1_says.2.2]
  generalize (parseL ex1).1 = X
  go_wp2_with fail
  go_at_call 9
  have hxa : Ext w (w2.alloc (.cells (acCells 3 1 X.b X.n X.path (.slice q1 X.data.length q2) (.slice q3 X.fates.length q4) (.slice q6 X.events.length q7)) 26)) := hx2.alloc _
  have hga := alloc_at w2 (.cells (acCells 3 1 X.b X.n X.path (.slice q1 X.data.length q2) (.slice q3 X.fates.length q4) (.slice q6 X.events.length q7)) 26)
  refine (parse_any ex2 _ (HE.out.ext hxa) (by decide)).mono ?_
  rw [ex2_says]
  rintro e w3 ⟨⟨cs, rfl, hac⟩, hx3⟩
  obtain ⟨vd, vf, ve, rfl, ⟨⟨p1, p2, rfl, -⟩, -⟩, ⟨⟨p3, p4, rfl, -⟩, -⟩, ⟨p5, ⟨p6, p7, rfl, -⟩, -⟩⟩ := hac
  generalize (parseL ex2).1 = Y
  have hga3 := hx3.row hga
  have hx03 := hxa.trans hx3
  have hs3 := hx3.size
  go_wp2_with fail
  go_at_call 9
  refine (parse_any ex3 _ (HE.out.ext (hx03.alloc _)) (by decide)).mono ?_
  rw [ex3_says]
  rintro e w4 ⟨⟨cs, rfl, hac⟩, hx4⟩
  obtain ⟨vd, vf, ve, rfl, ⟨⟨r1, r2, rfl, -⟩, -⟩, ⟨⟨r3, r4, rfl, -⟩, -⟩, ⟨r5, ⟨r6, r7, rfl, -⟩, -⟩⟩ := hac
  generalize (parseL ex3).1 = Z
  have hga4 := (((Ext.refl w3).alloc _).trans hx4).row hga3
  have hx04 := (hx03.alloc _).trans hx4
  have hga5 := ((Ext.refl w4).alloc (.cells (acCells Z.kind Z.a Z.b Z.n Z.path (.slice r1 Z.data.length r2) (.slice r3 Z.fates.length r4) (.slice r6 Z.events.length r7)) 26)).row hga4
  have k0 := (cell_of_row _ _ 0 _ _ _ hga5).trans rfl
  have k1 := (cell_of_row _ _ 1 _ _ _ hga5).trans rfl
  go_wp2
  go_ret
  exact ⟨rfl, hx04.alloc _⟩

end Go.Proofs.YthfkohppillflaaDoor
