/- Contracts of the program's functions and plain laws behind the card. Conditions: as each theorem states. -/
import Derived.Test.YtgfegpnmlkdjfaaGreatDoorZam
set_option linter.unusedVariables false
set_option linter.unusedSimpArgs false
set_option linter.unusedSectionVars false
set_option maxRecDepth 100000
set_option maxHeartbeats 64000000
namespace Go.Proofs.YtgfegpnmlkdjfaaGreatDoor
section
open Go Go.RowKit
def rwC (r:Rw):List Value:=[S8 r.path,.int .i64 r.mode,S8 r.id]
def IsRws (w:World) (v:Value) (l:List Rw):Prop:=Row w v l.length (l.flatMap rwC)
variable {w:World} {v:Value} {l:List Rw}
theorem IsRws.ext {w':World} (h:IsRws w v l) (a:Ext w w'):IsRws w' v l:=Row.ext h a
theorem IsRws.nil (w:World):IsRws w (.slice none 0 0) []:=Row.nil w
theorem qz:∀(l:List Rw) (k:Nat) (x:Rw),l[k]? = some x->(l.flatMap rwC)[3*k]? = some (S8 x.path)/\(l.flatMap rwC)[3*k+1]? = some (.int .i64 x.mode)/\(l.flatMap rwC)[3*k+2]? = some (S8 x.id)
 | [],k,x,h=>by simp at h
 | y::l,0,x,h=>by
  simp only[List.getElem?_cons_zero,Option.some.injEq]at h;subst h;exact⟨rfl,rfl,rfl⟩
 | y::l,k+1,x,h=>by
  have a:=qz l k x (by simpa using h);have e:(y::l).flatMap rwC=S8 y.path::.int .i64 y.mode::S8 y.id::l.flatMap rwC:=by rw[List.flatMap_cons];rfl
  rw[e,show 3*(k+1)=3*k+1+1+1 by omega];exact a
theorem IsRws.get (h:IsRws w v l):∃a c,v=.slice a l.length c/\l.length<=c/\l.length<=140737488355328/\c<=9223372036854775807 /\
  ∀(k:Nat) x,l[k]? = some x->∃b o,a=some ⟨b,o,none⟩/\w.cell? ⟨b,o+3*k,none⟩=some (S8 x.path)/\w.cell? ⟨b,o+3*k+1,none⟩=some (.int .i64 x.mode)/\w.cell? ⟨b,o+3*k+2,none⟩=some (S8 x.id):=by
 obtain⟨a,c,rfl,n,p,q,r⟩:=h;refine⟨a,c,rfl,n,q,p,fun k x u=>?_⟩;obtain⟨d,g,i⟩:=qz l k x u;obtain⟨b,o,t,e⟩:=r (fun j=>by rw[j]at d;simp at d);exact⟨b,o,t,e _ _ d,by have:=e _ _ g;rwa [<-Nat.add_assoc]at this,by have:=e _ _ i;rwa [<-Nat.add_assoc]at this⟩
end
end Go.Proofs.YtgfegpnmlkdjfaaGreatDoor
