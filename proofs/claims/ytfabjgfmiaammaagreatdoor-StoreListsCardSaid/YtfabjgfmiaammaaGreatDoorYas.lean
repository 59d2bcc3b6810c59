/- Contracts of the program's functions and plain laws behind the card. Conditions: as each theorem states. -/
import Derived.Test.YtfabjgfmiaammaaGreatDoorYan
import Derived.Test.YtfabjgfmiaammaaGreatDoorYae
set_option linter.unusedVariables false
set_option linter.unusedSimpArgs false
set_option linter.unusedSectionVars false
set_option maxRecDepth 100000
set_option maxHeartbeats 64000000
namespace Go.Proofs.YtfabjgfmiaammaaGreatDoor
section
open Go Go.RowKit
variable {m:Fs}
theorem jl {p:B8} (h:OkM m) (g:fH m):(aF m p).2.1.data.length<=20000:=by
 have a:=(ci h g).1.ok;have b:cE.data.length<=20000:=Nat.zero_le _;unfold aF;split
 .exact b
 .split
  .exact b
  .split
   .rename_i f d;obtain⟨e,c,rfl⟩:=Option.map_eq_some_iff.1 d;exact(a.Cl e (List.mem_of_find?_eq_some c)).2
   .exact b
variable {n:Nat}
theorem gA (h:Good n m) (path:B8) (mode:Int) (data:B8):Good (n+1) (bG m path mode data).1 :=
 h.left (ly h.ok h.Ck) (by have a:(bG m path mode data).1.calls=_:=lH m _ _ _ _;have b:=(db h.ok h.Ck).2;omega)
theorem vO (h:Good n m) (s d:B8) (a:Bool):Good (n+1) (aP m s d a).1 :=
 h.left (kA h.ok h.Ck) (by rw[kG];have b:=(db h.ok h.Ck).2;omega)
theorem mu (h:Good n m) (p:B8):Good (n+1) (bD m p).1 :=
 h.left (lz h.ok h.Ck) (by rw[lJ];have a:=(db h.ok h.Ck).2;omega)
theorem jz (h:Good n m):Good (n+1) (av m).1 :=
 h.left ((db h.ok h.Ck).1.mono (by omega)) (by have a:=(db h.ok h.Ck).2;omega)
theorem eM (h:Good n m) (p:B8):Good (n+1) (aF m p).1:=by rw[rF];exact jz h
end
section
open Go Go.RowKit
end
section
open Go Go.RowKit
variable {m:Fs} {F:ax} {lk:Option B8} {hv:B8->Option B8} {n:Nat}
end
end Go.Proofs.YtfabjgfmiaammaaGreatDoor
