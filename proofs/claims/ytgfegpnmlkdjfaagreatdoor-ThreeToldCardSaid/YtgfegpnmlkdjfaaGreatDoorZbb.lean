/- Contracts of the program's functions and plain laws behind the card. Conditions: as each theorem states. -/
import Derived.Test.YtgfegpnmlkdjfaaGreatDoorZaz
import Derived.Test.YtgfegpnmlkdjfaaGreatDoorZay
import Derived.Test.YtgfegpnmlkdjfaaGreatDoorZav
import Derived.Test.YtgfegpnmlkdjfaaGreatDoorZag
import Derived.Test.YtgfegpnmlkdjfaaGreatDoorZba
set_option linter.unusedVariables false
set_option linter.unusedSimpArgs false
set_option linter.unusedSectionVars false
set_option maxRecDepth 100000
set_option maxHeartbeats 64000000
namespace Go.Proofs.YtgfegpnmlkdjfaaGreatDoor
section
open Go Go.RowKit Go.Sort
theorem aZ {l:List Rw} (h:an l=true):cK l/\∀x∈l,x.mode≠0:=by
 have b:∀j x,j<l.length->l[j]? = some x->dl l j x=true:=fun j x _ e=>by
  have:=qM h e;unfold cO at this;exact((Bool.and_eq_true _ _).mp this).1
 refine⟨?_,fun x e=>?_⟩
 .unfold cK;rw[List.pairwise_iff_getElem];intro i j g a d;exact BQ b d a (List.getElem?_eq_getElem g) (List.getElem?_eq_getElem a)
 .obtain ⟨j,a,rfl⟩:=List.mem_iff_getElem.1 e;have c:=b j _ a (List.getElem?_eq_getElem a);unfold dl at c;simp only[Bool.and_eq_true,decide_eq_true_eq]at c;have:=c.2.1;omega
theorem Bf (l:List Rw) (p:B8) (e:Int×B8):(oE l p e).length<=l.length+1:=by
 unfold oE;have:=List.length_filter_le (fun r:Rw=>!(r.path==p)) l;rw[List.length_append];show(l.filter _).length+_<=_;split
 .simp;omega
 .simp;omega
end
section
open Go Go.RowKit Go.Sort
end
section
open Go Go.RowKit Go.Sort
def Ai (a b:List Rw) (e:Ending):Prop:=∃c:Bool,e=.returned (.bool c)/\(c=true↔a=b)
theorem qJ {a b:List Rw} {k:Nat} {x y:Rw} (c:a[k]? = some x) (d:b[k]? = some y) (h:x≠y):a≠b:=fun e=>by
 rw[e,d]at c;exact h (Option.some.inj c).symm
end
section
open Go Go.RowKit Go.Sort
def fu (a b:Int) (k:Nat):Nat:=(if 1<=k/\a=2 then 1 else 0)+(if 2<=k/\b=2 then 1 else 0)
theorem ze (d b a:Int) (F y z:B8) (w:World) :
  Calls Tryz.prog 41 #[.agg #[.int .i64 d,S8 F],.agg #[.int .i64 b,S8 y],.agg #[.int .i64 a,S8 z]] w fun e w'=>e=.returned (.int .i64 (dg (d,F) (b,y) (a,z)))/\Ext w w':=by
 have h:Hid (dg (d,F) (b,y) (a,z)=if(b=2/\a=2)\/((b=2\/a=2)/\d≠2)then 2 else 1):=rfl;obtain⟨M,hM⟩:∃M,dg (d,F) (b,y) (a,z)=M:=⟨_,rfl⟩;rw[hM]at h ⊢;clear hM;go_enter Tryz.func41,Tryz.ntmps41;go_upto_region 1 with fail;obtain⟨g,u⟩:∃g,g=((w.alloc (.cells #[.int .i64 d,S8 F] 41)).alloc (.cells #[.int .i64 b,S8 y] 41)).alloc (.cells #[.int .i64 a,S8 z] 41):=⟨_,rfl⟩;have Q:Ext w g:=by rw[u];exact(((Ext.refl _).alloc _).alloc _).alloc _
 have Y:g.heap[w.heap.size]? = some (.cells #[.int .i64 d,S8 F] 41 (0,0)):=by rw[u];exact Ext.row (((Ext.refl _).alloc _).alloc _) (ah w _)
 have K:g.heap[w.heap.size+1]? = some (.cells #[.int .i64 b,S8 y] 41 (0,0)):=by rw[u];exact Ext.row ((Ext.refl _).alloc _) (iG w _ _)
 have J:g.heap[w.heap.size+1+1]? = some (.cells #[.int .i64 a,S8 z] 41 (0,0)):=by
  rw[u];have h9:=iG (w.alloc (.cells #[.int .i64 d,S8 F] 41)) (.cells #[.int .i64 b,S8 y] 41) (.cells #[.int .i64 a,S8 z] 41)
  rwa [show(w.alloc (.cells #[.int .i64 d,S8 F] 41)).heap.size=w.heap.size+1 by simp]at h9
 rw[<-u];obtain⟨g5,L⟩:∃q,w.heap.size=q:=⟨_,rfl⟩;obtain⟨Z,N⟩:∃q,g5+1=q:=⟨_,rfl⟩;obtain⟨g7,O⟩:∃q,Z+1=q:=⟨_,rfl⟩;rw[L]at Y K J ⊢;rw[N]at K J ⊢;rw[O]at J ⊢;have y0:g.cell? ⟨g5,0,none⟩=some (.int .i64 d):=(cell_of_row _ _ 0 _ _ _ Y).trans rfl;have z0:g.cell? ⟨Z,0,none⟩=some (.int .i64 b):=(cell_of_row _ _ 0 _ _ _ K).trans rfl;have z1:g.cell? ⟨Z,1,none⟩=some (S8 y):=(cell_of_row _ _ 1 _ _ _ K).trans rfl;have u0:g.cell? ⟨g7,0,none⟩=some (.int .i64 a):=(cell_of_row _ _ 0 _ _ _ J).trans rfl;have u1:g.cell? ⟨g7,1,none⟩=some (S8 z):=(cell_of_row _ _ 1 _ _ _ J).trans rfl;have X:Hid (Ext w g):=Q;clear u Q Y K J L N O;go_upto_region 3 with fail;obtain⟨C,E⟩:∃C,C=g.alloc (.cells #[.int .i64 b,S8 y,.int .i64 a,S8 z] 41):=⟨_,rfl⟩;have I:Ext g C:=by rw[E];exact(Ext.refl _).alloc _
 have r:C.heap[g.heap.size]? = some (.cells #[.int .i64 b,S8 y,.int .i64 a,S8 z] 41 (0,0)):=by rw[E];exact ah _ _
 rw[<-E];obtain⟨R,P⟩:∃q,g.heap.size=q:=⟨_,rfl⟩;rw[P]at r ⊢;have d0:C.cell? ⟨R,0,none⟩=some (.int .i64 b):=(cell_of_row _ _ 0 _ _ _ r).trans rfl;have d1:C.cell? ⟨R,1,none⟩=some (S8 y):=(cell_of_row _ _ 1 _ _ _ r).trans rfl;have d2:C.cell? ⟨R,2,none⟩=some (.int .i64 a):=(cell_of_row _ _ 2 _ _ _ r).trans rfl;have d3:C.cell? ⟨R,3,none⟩=some (S8 z):=(cell_of_row _ _ 3 _ _ _ r).trans rfl;have y2:=I.cell y0;have p:Hid (Ext w C):=X.out.trans I;have HY:Hid _:=y2;have T:Hid _:=d0;have U:Hid _:=d1;have V:Hid _:=d2;have W:Hid _:=d3;clear E I r P y0 z0 z1 u0 u1 y2 d0 d1 d2 d3;go_loopw [7,14] (fun nv i wr=>∃k:Nat,k<=2/\i=.int .i64 k/\nv=.int .i64 (fu b a k:Nat)/\Hid (Ext C wr)) (fun _ i _=>2 - (intOf i).toNat)
 case atStart=>exact⟨0,Nat.zero_le _,rfl,rfl,Ext.refl _⟩
 case round =>
 obtain⟨k,hk,rfl,rfl,j⟩:=hrel
 by_cases ab:k=2
 case pos =>
  subst ab;have y3:=j.out.cell HY.out
  by_cases o:b=2
  .by_cases l:a=2
   .have G:fu b a 2=2:=by unfold fu;simp[o,l]
    rw[G];have A:M=2:=by rw[h.out,if_pos (.inl ⟨o,l⟩)]
    clear o l;go_wp2_with fail;go_ret;exact⟨by rw[A];rfl,p.out.trans j.out⟩
   .have G:fu b a 2=1:=by unfold fu;simp[o,l]
    rw[G]
    by_cases t:d=2
    .have H:(d != 2)=false:=by simpa using t
     have A:M=1:=by rw[h.out,if_neg (by simp[t,l])]
     clear o l t;go_wp2_with fail;go_ret;exact⟨by rw[A];rfl,p.out.trans j.out⟩
    .have H:(d != 2)=true:=by simpa using t
     have A:M=2:=by rw[h.out,if_pos (.inr ⟨.inl o,t⟩)]
     clear o l t;go_wp2_with fail;go_ret;exact⟨by rw[A];rfl,p.out.trans j.out⟩
  .by_cases l:a=2
   .have G:fu b a 2=1:=by unfold fu;simp[o,l]
    rw[G]
    by_cases t:d=2
    .have H:(d != 2)=false:=by simpa using t
     have A:M=1:=by rw[h.out,if_neg (by simp[t,o])]
     clear o l t;go_wp2_with fail;go_ret;exact⟨by rw[A];rfl,p.out.trans j.out⟩
    .have H:(d != 2)=true:=by simpa using t
     have A:M=2:=by rw[h.out,if_pos (.inr ⟨.inr l,t⟩)]
     clear o l t;go_wp2_with fail;go_ret;exact⟨by rw[A];rfl,p.out.trans j.out⟩
   .have G:fu b a 2=0:=by unfold fu;simp[o,l]
    rw[G];have A:M=1:=by rw[h.out,if_neg (by simp[o,l])]
    clear o l;go_wp2_with fail;go_ret;exact⟨by rw[A];rfl,p.out.trans j.out⟩
 by_cases aa:k=0
 case pos =>
  subst aa;have e0:=j.out.cell T.out;have e1:=j.out.cell U.out;obtain⟨c,hc⟩:∃c,(b==2)=c:=⟨_,rfl⟩;have B:fu b a 1=if c=true then 1 else 0:=by
   unfold fu;have:(b=2)↔c=true:=by rw[<-hc];simp
   simp[this]
  have x:Hid _:=B;have hz:fu b a 0=0:=by unfold fu;simp
  rw[hz];clear B hz
  cases c with
  | true =>
   go_wp2_with fail;go_roundw
   case rel=>exact⟨1,by omega,rfl,by rw[x.out];rfl,j.out.alloc _⟩
   case measure=>simp[intOf]
  | false =>
   go_wp2_with fail;go_roundw
   case rel=>exact⟨1,by omega,rfl,by rw[x.out];rfl,j.out.alloc _⟩
   case measure=>simp[intOf]
 obtain rfl:k=1:=by omega
 have e0:=j.out.cell V.out;have e1:=j.out.cell W.out;obtain⟨S,D⟩:∃n,fu b a 1=n:=⟨_,rfl⟩;have ad:S<=1:=by rw[<-D];unfold fu;simp;split <;> omega
 rw[D];obtain⟨c,hc⟩:∃c,(a==2)=c:=⟨_,rfl⟩;have B:fu b a 2=S+if c=true then 1 else 0:=by
  rw[<-D];unfold fu;have:(a=2)↔c=true:=by rw[<-hc];simp
  simp[this]
 have x:Hid _:=B;have hw:IntKind.i64.wrap ((S:Int)+1)=(S:Int)+1:=IntWalk.i64_in _ (by omega);clear B D
 cases c with
 | true =>
  go_wp2_with fail;go_roundw
  case rel=>exact⟨2,by omega,rfl,by rw[x.out];rfl,j.out.alloc _⟩
  case measure=>simp[intOf]
 | false =>
  go_wp2_with fail;go_roundw
  case rel=>exact⟨2,by omega,rfl,by rw[x.out];rfl,j.out.alloc _⟩
  case measure=>simp[intOf]
end
end Go.Proofs.YtgfegpnmlkdjfaaGreatDoor
