/- Contracts of the program's functions and plain laws behind the card. Conditions: as each theorem states. -/
import Derived.Test.YtfabjgfmiaammaaGreatDoorYam
import Derived.Test.YtfabjgfmiaammaaGreatDoorYat
import Derived.Test.YtfabjgfmiaammaaGreatDoorYac
import Derived.Test.YtfabjgfmiaammaaGreatDoorYan
import Derived.Test.YtfabjgfmiaammaaGreatDoorYah
import Derived.Test.YtfabjgfmiaammaaGreatDoorYap
import Derived.Deep.Upon
import Derived.Test.YtfabjgfmiaammaaGreatDoorYaw
import Derived.Test.YtfabjgfmiaammaaGreatDoorYal
set_option linter.unusedVariables false
set_option linter.unusedSimpArgs false
set_option linter.unusedSectionVars false
set_option maxRecDepth 100000
set_option maxHeartbeats 64000000
namespace Go.Proofs.YtfabjgfmiaammaaGreatDoor
section
open Go Go.RowKit
variable {a b:B8}
theorem lC {c:B8} (d:ltB a b=true) (e:ltB b c=true):ltB a c=true:=by
 unfold ltB at d e ⊢;rw[decide_eq_true_eq]at d e ⊢;exact List.lt_trans d e
theorem A3 (c:ltB a b=false) (d:a≠b):ltB b a=true:=by
 cases e:ltB b a with
 | true=>rfl
 | false=>exact(d (qZ (by unfold leT;rw[e];rfl) (by unfold leT;rw[c];rfl))).elim
end
section
open Go Go.RowKit
end
section
open Go Go.RowKit
variable {U:List B8} {j:Nat}
theorem o6 (h:cM U) {i:Nat} {x y:B8} (d:U[i]? = some x) (e:U[j]? = some y) (a:i<j):ltB x y=true:=by
 obtain⟨b,rfl⟩:=List.getElem?_eq_some_iff.1 d;obtain⟨c,rfl⟩:=List.getElem?_eq_some_iff.1 e;exact List.pairwise_iff_getElem.1 h i j b c a
variable {k:Nat} {s:B8}
theorem pV (h:cM U) (d:k=0\/∃p,U[k - 1]? = some p/\ltB p s=true):∀y∈U.take k,ltB y s=true:=by
 intro y i;obtain⟨j,g,rfl⟩:=List.mem_iff_getElem.1 i;rw[List.length_take]at g;rw[List.getElem_take];rcases d with d | ⟨p,e,b⟩
 .omega
 .have a:U[j]? = some U[j]:=List.getElem?_eq_getElem (by omega)
  by_cases c:j=k - 1
  .subst c;rw[e]at a;rw[<-Option.some.inj a];exact b
  .exact lC (o6 h a e (by omega)) b
theorem vI {p:B8} (d:U[j]? = some p) (a:ltB p s=false) (h:∀y∈U.drop (j+1),ltB y s=false):∀y∈U.drop j,ltB y s=false:=by
 obtain⟨c,rfl⟩:=List.getElem?_eq_some_iff.1 d;rw[List.drop_eq_getElem_cons c];intro y b;rcases List.mem_cons.1 b with rfl | b
 .exact a
 .exact h y b
theorem us (i:cM U) (h:∀y∈U.drop k,ltB y s=false) (g:∀q,U[k]? = some q->q≠s):∀y∈U.drop k,ltB s y=true:=by
 intro y l;obtain⟨j,e,rfl⟩:=List.mem_iff_getElem.1 l;rw[List.length_drop]at e;have a:k<U.length:=by omega
 have d:U[k]? = some U[k]:=List.getElem?_eq_getElem a;have c:ltB s U[k]=true:=A3 (h _ (by rw[List.drop_eq_getElem_cons a];exact List.mem_cons_self)) (g _ d);rw[List.getElem_drop]
 by_cases b:j=0
 .subst b;exact c
 .exact lC c (o6 i d (List.getElem?_eq_getElem (by omega)) (by omega))
end
section
open Go Go.RowKit Go.Sort
end
section
open Go Go.RowKit
theorem xy:cO []=[]:=rQ List.Pairwise.nil
structure UJ (w0:World) (s:B8) (D:List B8) (z7 z11:Option Value) (w:World):Prop where
 ext:Ext w0 w
 DK:z11≠none->z7≠none
 f7:z11=none->∀v,z7=some v->w.ownsRow w0.heap.size 9 1 v 1 [S8 s]
 f11:∀v,z11=some v->w.ownsRow w0.heap.size 9 1 v (1+D.length) ([S8 s]++D.map S8)
section
variable {w0 w w':World} {s:B8} {D:List B8} {z7 z11:Option Value}
theorem UJ.more (h:UJ w0 s D z7 z11 w) (b:Ext w w'):UJ w0 s D z7 z11 w' :=
 ⟨h.ext.trans b,h.DK,fun c v a=>am (h.f7 c v a) b,fun v a=>am (h.f11 v a) b⟩
theorem UJ.start (b:Ext w0 w):UJ w0 s D none none w:=⟨b,fun h=>absurd rfl h,fun _ v a=>(by cases a),fun v a=>(by cases a)⟩
theorem UJ.C6 (h:UJ w0 s D z7 z11 w):UJ w0 s D (some (.slice (some ⟨w.heap.size,0,none⟩) 1 1)) z11 (w.alloc (.cells #[S8 s] 9)):=by
 have k:=h.more ((Ext.refl w).alloc (.cells #[S8 s] 9));exact⟨k.ext,fun _=>by simp,fun _ v a=>by cases a;exact⟨rfl,.inr ⟨w.heap.size,1,#[S8 s],rfl,h.ext.size,ae _ _,Nat.le_refl _,by unfold maxLen;omega,rfl,rfl⟩⟩,k.f11⟩
theorem UJ.CT {e:Value} (h:UJ w0 s D z7 z11 w) (d:z7=some e) (b:z11=none) (x:Value) (k:Row w x D.length (D.map S8)) (p:D.length<=1000000) :
  ∃c w',(Builtin.append_ #[39,39] 39 #[e,x]).run Tryz.prog w=.ok c w'/\UJ w0 s D z7 (some c) w':=by
 subst d;subst b;have a:=h.f7 rfl _ rfl;obtain⟨c,w',l,n,o,q⟩:=gK 39 9 (S8 []) 1 16 Tryz.underlying39 jd rfl (by omega) w0.heap.size e 1 [S8 s] a x D.length (D.map S8) k (by simp) (fun u i=>by obtain⟨_,_,rfl⟩:=List.mem_map.1 i;rfl) (by omega) (by omega) h.ext.size;exact⟨c,w',l,⟨aj h.ext a o,fun _=>by simp,fun g=>(by cases g),fun v j=>(by cases j;exact n)⟩⟩
end
theorem Bh (s:B8) (D:List B8):∀u∈[S8 s]++D.map S8,u.oneCell'=true:=fun u a=>by
 rcases List.mem_append.1 a with a | a
 .rw [List.mem_singleton.1 a];rfl
 .obtain ⟨_,_,rfl⟩:=List.mem_map.1 a;rfl
variable {w:World}
theorem yH {b k n:Nat} {a:Option Addr} {c:Nat} {xs:List Value} (h:w.ownsRow b 9 1 (.slice a n c) n xs) (y:k<=n) (z:∀g,a=some ⟨g,0,none⟩->True) (t:a≠none):w.ownsRow b 9 1 (.slice a k c) k (xs.take k):=by
 obtain⟨r,⟨d,u⟩ | ⟨g,i,e,d,j,l,x,o,p,q⟩⟩:=h
 .simp only[Value.slice.injEq]at d;exact absurd d.1 t
 .simp only[Value.slice.injEq,true_and]at d;obtain⟨rfl,rfl⟩:=d;refine⟨by rw[List.length_take,r];omega,.inr ⟨g,c,e,rfl,j,l,by omega,o,p,?_⟩⟩;rw[<-q,List.take_take];congr 1;omega
theorem xd {v:Value} {l:List B8} (hv:IsStrs w v l) (hl:l.length<=1000000) :
  Calls Tryz.prog 92 #[v] w fun e w'=>(∃v',e=.returned v'/\w'.ownsRow w.heap.size 9 1 v' (cO l).length ((cO l).map S8))/\Ext w w':=by
 obtain⟨a,bx,rfl,l1,l2,l3,-⟩:=hv.get;have HV:Hid (IsStrs w (.slice a l.length bx) l):=hv;clear hv;go_enter Tryz.func92,Tryz.ntmps92;go_wp2;go_loopw [3,4] (fun v i wr=>∃k:Nat,k<=l.length/\i=.int .i64 k/\Hid (wr.ownsRow w.heap.size 9 1 v (cO (l.take k)).length ((cO (l.take k)).map S8))/\Hid (Ext w wr)) (fun _ i _=>l.length - (intOf i).toNat)
 case atStart =>
  refine⟨0,Nat.zero_le _,rfl,?_,Ext.refl _⟩;have h0:cO (l.take 0)=[]:=xy;unfold Hid;rw[h0];exact World.ownsRow_nil _ _ _ _
 case round =>
 obtain⟨i,hi,rfl,B,HX⟩:=hrel
 by_cases a0:i<l.length
 case neg =>
  have ad:i=l.length:=by omega
  subst ad;have HO:Hid (wr.ownsRow w.heap.size 9 1 u3 (cO l).length ((cO l).map S8)):=by have t:=B.out;rwa [List.take_length]at t
  go_wp2;go_ret;exact⟨⟨_,rfl,HO.out⟩,HX.out⟩
 obtain⟨s,a7⟩:∃s,l[i]? = some s:=⟨_,List.getElem?_eq_getElem a0⟩;obtain⟨_,_,Q,-,-,-,hg⟩:=(IsStrs.ext HV.out HX.out).get;cases Q;obtain⟨bb,oo,rfl,hc⟩:=hg i a0;have P:=hc i a0;rw[show l.getD i []=s by rw[List.getD_eq_getElem?_getD,a7];rfl]at P;have br:Hid _:=a7;have a8:=xx (l.take i);rw[List.length_take]at a8;have a9:=iQ (l.take i);obtain⟨U,hU⟩:∃U,cO (l.take i)=U:=⟨_,rfl⟩;have H:Hid (cO (l.take i)=U):=hU;rw[hU]at B a8 a9;have W:Hid (cM U):=a9;obtain⟨n,hn⟩:∃n,U.length=n:=⟨_,rfl⟩;have x:Hid (U.length=n):=hn;rw[hn]at B a8;have b0:IsStrs wr u3 U:=by
  have t:=Row.BV B.out (by omega);unfold IsStrs
  rwa [hn]
 obtain⟨oa,oc,b1,o1,o2,o3,og⟩:=b0.get;rw[hn]at b1 o1 og;subst b1;have ba:Hid _:=og;have bs:Hid ((oa=none/\n=0/\oc=0)\/∃g,oa=some ⟨g,0,none⟩):=by
  rcases B.out.2 with⟨Q,h0⟩ | ⟨g,bx,ce,Q,_⟩
  .simp only[Value.slice.injEq]at Q;exact .inl ⟨Q.1,h0,Q.2.2⟩
  .simp only[Value.slice.injEq]at Q;exact .inr ⟨g,Q.1⟩
 have bl:Hid (Row wr (.slice oa n oc) n (U.map S8)):=Row.BV B.out (by omega);clear hg hc a7 hU hn a9 b0 og;obtain⟨wo,rfl⟩:∃wo:World,wo=wr:=⟨_,rfl⟩;have Y1:Hid _:=P;clear P;go_wp2_with fail;go_loopw [5] (fun kk F=>∃k:Nat,k<=n/\kk=.int .i64 k/\Hid (Ext wo F)/\Hid (∀y∈U.drop k,ltB y s=false)) (fun kk _=>(intOf kk).toNat)
 case atStart=>exact⟨n,Nat.le_refl _,rfl,Ext.refl _,fun y hy=>by rw[List.drop_of_length_le (Nat.le_of_eq x.out)]at hy;cases hy⟩
 case round =>
 obtain⟨k,c,rfl,J,HD⟩:=hrel;have P:=J.out.cell Y1.out
 by_cases O:0<k
 case' neg =>
  have C:¬(0:Int)<(k:Int):=by omega
  have bt:Hid (∀y∈U.take k,ltB y s=true):=pV W.out (.inl (by omega));go_upto_region 6 with fail;apply ak 14 [_,_,_,_,_,_,_,_,_,_,_,_,_,.bool false] [none,none,none,none,none,none,none,none,none,none,none,none,none,none] [[],[0],[1],[2],[2],[2,4],[2,3,5],[2,6],[2],[2],[2,8,9],[2,10],[2,7,11],[2,12]] (by kernel_rfl) (by kernel_rfl) (by simp[aq])
  .trivial
  .simp (maxSteps:=1000000)only[List.take_succ_cons,List.take_zero,ay,aE,ab,Act.put,List.setIfInBounds_toArray,List.set_cons_zero,List.set_cons_succ,aN,aS,aq,List.getD_cons_zero,List.getD_cons_succ,and_true,true_and,forall_const];and_intros
   iterate 14 · intro h F G;intros;rename_i d;go_simp;exact d _ _ (Ext.refl _) rfl
  intro h w2 D c;simp only[aU,Nat.zero_add,Nat.reduceAdd,and_true]at c;simp(maxSteps:=1000000)only[List.take_succ_cons,List.take_zero,List.drop_succ_cons,List.drop_zero,ab,Act.put,List.setIfInBounds_toArray,List.set_cons_zero,List.set_cons_succ,Nat.zero_add,Nat.reduceAdd,c];clear c
 case' pos =>
  obtain⟨j,o⟩:∃j,k=j+1:=⟨k - 1,by omega⟩;have Z:j<n:=by omega
  obtain⟨ob,cn,a1,K⟩:=ba.out j Z;have r:=J.out.cell (K j Z);cases a1;obtain⟨p,a4⟩:∃p,U[j]? = some p:=⟨_,List.getElem?_eq_getElem (by rw[x.out];exact Z)⟩;rw[show U.getD j []=p by rw[List.getD_eq_getElem?_getD,a4];rfl]at r;have bh:Hid _:=a4;have cb:IntKind.i64.wrap ((k:Int) - 1)=(j:Int):=by rw[IntWalk.i64_in _ (by omega)];omega
  have C:(0:Int)<(k:Int):=by omega
  obtain⟨b,hb⟩:∃b,ltB p s=b:=⟨_,rfl⟩;have cm:Op.bytesLess p s=b:=by rw[kC];exact hb
  have HB:Hid _:=hb;clear K a4 hb;cases b
  case' false =>
   have b4:Hid (∀y∈U.drop j,ltB y s=false):=vI bh.out HB.out (by have t:=HD.out;rwa [o]at t);have HJ:Hid _:=o;clear o;go_upto_region 6 with fail;apply ak 14 [_,_,_,_,_,.int .i64 (j:Int),_,S8 p,_,_,_,_,.bool true,.bool true] [none,none,none,none,none,none,none,none,none,none,none,none,none,none] [[],[0],[1],[2],[2],[2,4],[2,3,5],[2,6],[2],[2],[2,8,9],[2,10],[2,7,11],[2,12]] (by kernel_rfl) (by kernel_rfl) (by simp[aq])
   .trivial
   .simp (maxSteps:=1000000)only[List.take_succ_cons,List.take_zero,ay,aE,ab,Act.put,List.setIfInBounds_toArray,List.set_cons_zero,List.set_cons_succ,aN,aS,aq,List.getD_cons_zero,List.getD_cons_succ,and_true,true_and,forall_const];and_intros
    iterate 14 · intro h F G;intros;rename_i d;have f1:=G.cell r;have f2:=G.cell P;go_simp;exact d _ _ (Ext.refl _) rfl
   intro h w2 D c;simp only[aU,Nat.zero_add,Nat.reduceAdd,and_true]at c;simp(maxSteps:=1000000)only[List.take_succ_cons,List.take_zero,List.drop_succ_cons,List.drop_zero,ab,Act.put,List.setIfInBounds_toArray,List.set_cons_zero,List.set_cons_succ,Nat.zero_add,Nat.reduceAdd,c];clear c;have I:Hid (Ext wo w2):=J.out.trans D;clear D P r;go_wp2_with fail;go_roundw
   case rel=>exact⟨j,by omega,rfl,I,b4⟩
   case measure=>have:=HJ.out;simp[intOf];omega
  case' true =>
   have bt:Hid (∀y∈U.take k,ltB y s=true):=pV W.out (.inr ⟨p,by rw[show k - 1=j by omega];exact bh.out,HB.out⟩);clear o;go_upto_region 6 with fail;apply ak 14 [_,_,_,_,_,.int .i64 (j:Int),_,S8 p,_,_,_,_,.bool false,.bool false] [none,none,none,none,none,none,none,none,none,none,none,none,none,none] [[],[0],[1],[2],[2],[2,4],[2,3,5],[2,6],[2],[2],[2,8,9],[2,10],[2,7,11],[2,12]] (by kernel_rfl) (by kernel_rfl) (by simp[aq])
   .trivial
   .simp (maxSteps:=1000000)only[List.take_succ_cons,List.take_zero,ay,aE,ab,Act.put,List.setIfInBounds_toArray,List.set_cons_zero,List.set_cons_succ,aN,aS,aq,List.getD_cons_zero,List.getD_cons_succ,and_true,true_and,forall_const];and_intros
    iterate 14 · intro h F G;intros;rename_i d;have f1:=G.cell r;have f2:=G.cell P;go_simp;exact d _ _ (Ext.refl _) rfl
   intro h w2 D c;simp only[aU,Nat.zero_add,Nat.reduceAdd,and_true]at c;simp(maxSteps:=1000000)only[List.take_succ_cons,List.take_zero,List.drop_succ_cons,List.drop_zero,ab,Act.put,List.setIfInBounds_toArray,List.set_cons_zero,List.set_cons_succ,Nat.zero_add,Nat.reduceAdd,c];clear c;clear r cb
 all_goals
  have I:Hid (Ext wo w2):=J.out.trans D;have y2:=D.cell P;clear D P J
  by_cases au:k<n
  case' neg =>
   have ad:¬(k:Int)<(n:Int):=by omega
   have T:Hid (∀y∈U.drop k,ltB s y=true):=fun y hy=>by rw[List.drop_of_length_le (by rw[x.out];omega)]at hy;cases hy
   go_upto_region 8 with fail;apply ak 15 [_,_,_,_,_,_,_,_,_,_,_,_,_,_,.bool false] [none,none,none,none,none,none,none,none,none,none,none,none,none,none,none] [[],[],[1],[0,2],[3],[4],[4],[4,5,6],[4,7],[4],[4],[4,9,10],[4,11],[4,8,12],[4,13]] (by kernel_rfl) (by kernel_rfl) (by simp[aq])
   .trivial
   .simp (maxSteps:=1000000)only[List.take_succ_cons,List.take_zero,ay,aE,ab,Act.put,List.setIfInBounds_toArray,List.set_cons_zero,List.set_cons_succ,aN,aS,aq,List.getD_cons_zero,List.getD_cons_succ,and_true,true_and,forall_const];and_intros
    iterate 15 · intro h F G;intros;rename_i d;go_simp;exact d _ _ (Ext.refl _) rfl
   intro h M E c;simp only[aU,Nat.zero_add,Nat.reduceAdd,and_true]at c;simp(maxSteps:=1000000)only[List.take_succ_cons,List.take_zero,List.drop_succ_cons,List.drop_zero,ab,Act.put,List.setIfInBounds_toArray,List.set_cons_zero,List.set_cons_succ,Nat.zero_add,Nat.reduceAdd,c];clear c
  case' pos =>
   obtain⟨qb,qo,a1,K⟩:=ba.out k au;have r:=I.out.cell (K k au);cases a1;obtain⟨q,a5⟩:∃q,U[k]? = some q:=⟨_,List.getElem?_eq_getElem (by rw[x.out];exact au)⟩;rw[show U.getD k []=q by rw[List.getD_eq_getElem?_getD,a5];rfl]at r;have bk:Hid _:=a5;have b':(⟨q.toArray⟩:ByteArray).toList=q:=Lib.toList_data _;have ca:(⟨s.toArray⟩:ByteArray).toList=s:=Lib.toList_data _;have ad:(k:Int)<(n:Int):=by omega
   clear K a5;obtain⟨bq,Y⟩:∃bq,(q==s)=bq:=⟨_,rfl⟩;cases bq
   case' true =>
    have V:Hid (cO (l.take (i+1))=U):=by
     have t:=qw br.out (by rw[H.out];have L:q=s:=(by simpa using Y);rw[<-L];exact List.mem_of_getElem? bk.out);rw[H.out]at t;exact t
    go_upto_region 8 with fail;apply ak 15 [_,_,_,_,_,_,_,_,_,_,_,_,_,_,.bool true] [none,none,none,none,none,none,none,none,none,none,none,none,none,none,none] [[],[],[1],[0,2],[3],[4],[4],[4,5,6],[4,7],[4],[4],[4,9,10],[4,11],[4,8,12],[4,13]] (by kernel_rfl) (by kernel_rfl) (by simp[aq])
    .trivial
    .simp (maxSteps:=1000000)only[List.take_succ_cons,List.take_zero,ay,aE,ab,Act.put,List.setIfInBounds_toArray,List.set_cons_zero,List.set_cons_succ,aN,aS,aq,List.getD_cons_zero,List.getD_cons_succ,and_true,true_and,forall_const];and_intros
     iterate 15 · intro h F G;intros;rename_i d;have f1:=G.cell r;have f2:=G.cell y2;go_simp;exact d _ _ (Ext.refl _) rfl
    intro h M E c;simp only[aU,Nat.zero_add,Nat.reduceAdd,and_true]at c;simp(maxSteps:=1000000)only[List.take_succ_cons,List.take_zero,List.drop_succ_cons,List.drop_zero,ab,Act.put,List.setIfInBounds_toArray,List.set_cons_zero,List.set_cons_succ,Nat.zero_add,Nat.reduceAdd,c];clear c;have S:Ext wo M:=I.out.trans E;have A:M.ownsRow w.heap.size 9 1 _ n (U.map S8):=am B.out S;clear E y2 r;go_wp2_with fail;go_roundw
    case rel=>exact⟨i+1,by omega,by go_num,(by unfold Hid;rw[V.out,x.out];exact A),HX.out.trans S⟩
    case measure=>simp[intOf];omega
   case' false =>
    have T:Hid (∀y∈U.drop k,ltB s y=true):=us W.out HD.out (fun q' b2=>by
     rw[bk.out]at b2;cases b2;simpa using Y)
    go_upto_region 8 with fail;apply ak 15 [_,_,_,_,_,_,_,_,_,_,_,_,_,_,.bool false] [none,none,none,none,none,none,none,none,none,none,none,none,none,none,none] [[],[],[1],[0,2],[3],[4],[4],[4,5,6],[4,7],[4],[4],[4,9,10],[4,11],[4,8,12],[4,13]] (by kernel_rfl) (by kernel_rfl) (by simp[aq])
    .trivial
    .simp (maxSteps:=1000000)only[List.take_succ_cons,List.take_zero,ay,aE,ab,Act.put,List.setIfInBounds_toArray,List.set_cons_zero,List.set_cons_succ,aN,aS,aq,List.getD_cons_zero,List.getD_cons_succ,and_true,true_and,forall_const];and_intros
     iterate 15 · intro h F G;intros;rename_i d;have f1:=G.cell r;have f2:=G.cell y2;go_simp;exact d _ _ (Ext.refl _) rfl
    intro h M E c;simp only[aU,Nat.zero_add,Nat.reduceAdd,and_true]at c;simp(maxSteps:=1000000)only[List.take_succ_cons,List.take_zero,List.drop_succ_cons,List.drop_zero,ab,Act.put,List.setIfInBounds_toArray,List.set_cons_zero,List.set_cons_succ,Nat.zero_add,Nat.reduceAdd,c];clear c;clear r b' ca Y
  all_goals
   have X:Hid (Ext wo M):=I.out.trans E;have y3:=E.cell y2;clear E y2;have b6:Hid _:=y3;have hA:(U.take k).length=k:=by rw[List.length_take,x.out];omega
   have hC:(U.drop k).length=n - k:=by rw[List.length_drop,x.out]
   have HA:Hid _:=hA;have HC:Hid _:=hC;have a':Hid (cO (l.take (i+1))=U.take k++s::U.drop k):=by
    have t:=qv (k:=k) br.out (by rw[H.out];exact bt.out) (by rw[H.out];exact T.out);rw[H.out]at t;exact t
   have bd:Hid (M.ownsRow w.heap.size 9 1 _ n (U.map S8)):=am B.out X.out;have bo:Hid (Row M _ n (U.map S8)):=Row.ext bl.out X.out;have cl:k<=oc:=by omega
   have bS:(U.map S8).length=n*1:=by rw[List.length_map,x.out];omega
   have b5:Hid _:=bS;clear hA hC y3 bS T HD;go_upto_region 9 with fail;apply aI 12 (fun z w'=>UJ M s (U.drop k) (z 7) (z 11) w') [false,false,false,false,false,false,false,true,false,false,false,true] [_,_,undef,_,_,_,S8 s,undef,_,_,undef,undef] [none,none,some (fun u=>M.ownsRow w.heap.size 9 1 u k ((U.take k).map S8)),none,none,none,none,none,none,none,some (fun u=>Row M u (U.drop k).length ((U.drop k).map S8)),none] [[],[],[0,1],[],[],[3,4],[5],[6],[],[],[8,9],[7,10]] (by kernel_rfl) (by kernel_rfl) rfl
   .exact UJ.start ⟨rfl,rfl,rfl,Nat.le_refl _,fun _ _=>rfl⟩
   .simp (maxSteps:=1000000)only[de,cN,bR,cG,cS,List.getD_cons_zero,List.getD_cons_succ,Bool.false_eq_true,if_false,if_true,and_true,true_and,forall_const,Nat.zero_add,Nat.reduceAdd,List.take_succ_cons,List.take_zero,ab,Act.put,List.setIfInBounds_toArray,List.set_cons_zero,List.set_cons_succ];and_intros
    iterate 2 · intro h z F o;intros;rename_i d;go_simp;exact d _ _ o rfl
    .intro h z F o c R d;obtain⟨O,aa⟩:=c;rcases bs.out with⟨t,h0,L⟩ | ⟨g9,t⟩
     .first | (exact absurd t (by simp)) | (cases t;subst L;have C:k=0:=(by omega);subst C;go_simp;exact d _ _ o (World.ownsRow_nil _ _ _ _))
     ·(cases t;go_simp;exact d _ _ o (by have L:=yH bd.out c (fun _ _=>trivial) (by simp);rwa [<-List.map_take]at L))
    iterate 3 · intro h z F o;intros;rename_i d;go_simp;exact d _ _ o rfl
    .intro h z F o c R d;have f1:=o.ext.cell b6.out;go_simp;exact d _ _ o rfl
    .intro h z F o hz c R d;go_simp;exact d _ _ o.C6
    iterate 2 · intro h z F o;intros;rename_i d;go_simp;exact d _ _ o rfl
    .intro h z F o c R d;obtain⟨O,aa⟩:=c;rcases bs.out with⟨t,h0,L⟩ | ⟨g9,t⟩
     .first | (exact absurd t (by simp)) | (cases t;subst L;have C:k=0:=(by omega);have b7:U=[]:=List.eq_nil_of_length_eq_zero (x.out.trans h0);subst C;subst b7;go_simp;exact d _ _ o (Row.nil _))
     ·(cases t;go_simp;exact d _ _ o (by have L:=Row.CW 1 bo.out c b5.out;rw[Nat.mul_one,<-List.map_drop]at L;rw[HC.out];exact L))
    .intro h z F o hz c R d;obtain⟨O,aa⟩:=c;obtain⟨v',w',hr,b9⟩:=o.CT O hz (h 10) (aa.ext o.ext) (by rw[HC.out];omega);apply cL (.tmp 52) (.tmp 55) 39 (v:=h 7) (xv:=h 10) (v':=v') (w':=w')
     iterate 4
      .rfl
     .exact hr
     .exact d _ _ b9
   intro h w4 N c;simp only[di,List.getD_cons_zero,List.getD_cons_succ,Bool.false_eq_true,if_false,if_true]at N;simp only[bV,Nat.zero_add,Nat.reduceAdd,and_true]at c;have q2:=c.2.2.1;have cc:=c.2.2.2.2.2.2.2.2.2;simp(maxSteps:=1000000)only[List.drop_succ_cons,List.drop_zero,Nat.zero_add,Nat.reduceAdd,List.take_succ_cons,List.take_zero,ab,Act.put,List.setIfInBounds_toArray,List.set_cons_zero,List.set_cons_succ,c];clear c;generalize h 2=x2 at *;generalize h 7=x7 at *;generalize h 10=co at *;generalize h 11=cp at *;have bv:Hid (Ext w w4):=(HX.out.trans X.out).trans N.ext;have A:=am q2 N.ext;have a3:=N.f11 _ rfl;have a6:=Row.BV a3 (by rw[HC.out];omega);have b3:=bv.out.size;clear cc q2
   go_wp2_with (at_builtin;go_must (refine tu 39 9 (S8 []) 1 16 Tryz.underlying39 jd rfl (by omega) rfl _ _ rfl rfl w.heap.size _ k _ rfl A _ (1+(U.drop k).length) _ rfl a6 (by simp;omega) (Bh s (U.drop k)) (by rw[HC.out];omega) (by rw[HC.out];omega) b3 ?_;intro v' w5 a2 b8))
   go_roundw
   case rel =>
    refine⟨i+1,by omega,by go_num,?_,aj bv.out A b8⟩;unfold Hid;rw[a'.out,List.length_append,List.length_cons,HA.out,List.map_append,List.map_cons,show k+((U.drop k).length+1)=k+(1+(U.drop k).length)by omega];exact a2
   case measure=>simp[intOf];omega
end
section
open Go Go.RowKit Go.Sort
end
end Go.Proofs.YtfabjgfmiaammaaGreatDoor
