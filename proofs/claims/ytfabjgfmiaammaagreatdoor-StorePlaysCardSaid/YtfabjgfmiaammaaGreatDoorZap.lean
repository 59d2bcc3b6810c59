/- Contracts of the program's functions and plain laws behind the card. Conditions: as each theorem states. -/
import Derived.Test.YtfabjgfmiaammaaGreatDoorZao
import Derived.Test.YtfabjgfmiaammaaGreatDoorZae
import Derived.Test.YtfabjgfmiaammaaGreatDoorZah
import Derived.Deep.Upon
import Derived.Test.YtfabjgfmiaammaaGreatDoorZab
import Derived.OwnWalk
import Derived.BigQuiet
import Derived.Deep.DeepCutAuto
import Derived.Test.YtfabjgfmiaammaaGreatDoorZad
import Derived.Test.YtfabjgfmiaammaaGreatDoorZaj
import Derived.Test.YtfabjgfmiaammaaGreatDoorZak
import Derived.Test.YtfabjgfmiaammaaGreatDoorZai
import Derived.Test.YtfabjgfmiaammaaGreatDoorZal
import Derived.Test.YtfabjgfmiaammaaGreatDoorZam
set_option linter.unusedVariables false
set_option linter.unusedSimpArgs false
set_option linter.unusedSectionVars false
set_option maxRecDepth 100000
set_option maxHeartbeats 64000000
namespace Go.Proofs.YtfabjgfmiaammaaGreatDoor
section
open Go Go.RowKit
theorem wQ:cJ []=[]:=rC List.Pairwise.nil
structure UJ (w0:World) (s:B8) (D:List B8) (z7 z11:Option Value) (w:World):Prop where
 ext:Ext w0 w
 DN:z11≠none->z7≠none
 f7:z11=none->∀v,z7=some v->w.ownsRow w0.heap.size 9 1 v 1 [S8 s]
 f11:∀v,z11=some v->w.ownsRow w0.heap.size 9 1 v (1+D.length) ([S8 s]++D.map S8)
section
variable {w0 w w':World} {s:B8} {D:List B8} {z7 z11:Option Value}
theorem UJ.more (h:UJ w0 s D z7 z11 w) (a:Ext w w'):UJ w0 s D z7 z11 w' :=
 ⟨h.ext.trans a,h.DN,fun c v b=>al (h.f7 c v b) a,fun v b=>al (h.f11 v b) a⟩
theorem UJ.start (b:Ext w0 w):UJ w0 s D none none w:=⟨b,fun h=>absurd rfl h,fun _ v a=>(by cases a),fun v a=>(by cases a)⟩
theorem UJ.CX (h:UJ w0 s D z7 z11 w):UJ w0 s D (some (.slice (some ⟨w.heap.size,0,none⟩) 1 1)) z11 (w.alloc (.cells #[S8 s] 9)):=by
 have k:=h.more ((Ext.refl w).alloc (.cells #[S8 s] 9));exact⟨k.ext,fun _=>by simp,fun _ v a=>by cases a;exact⟨rfl,.inr ⟨w.heap.size,1,#[S8 s],rfl,h.ext.size,ab _ _,Nat.le_refl _,by unfold maxLen;omega,rfl,rfl⟩⟩,k.f11⟩
theorem UJ.CL {d:Value} (h:UJ w0 s D z7 z11 w) (e:z7=some d) (b:z11=none) (x:Value) (g:Row w x D.length (D.map S8)) (p:D.length<=1000000) :
  ∃c w',(Builtin.append_ #[39,39] 39 #[d,x]).run Tryz.prog w=.ok c w'/\UJ w0 s D z7 (some c) w':=by
 subst e;subst b;have a:=h.f7 rfl _ rfl;obtain⟨c,w',i,j,k,q⟩:=gG 39 9 (S8 []) 1 16 Tryz.underlying39 iV rfl (by omega) w0.heap.size d 1 [S8 s] a x D.length (D.map S8) g (by simp) (fun u l=>by obtain⟨_,_,rfl⟩:=List.mem_map.1 l;rfl) (by omega) (by omega) h.ext.size;exact⟨c,w',i,⟨ai h.ext a k,fun _=>by simp,fun n=>(by cases n),fun v o=>(by cases o;exact j)⟩⟩
end
theorem A9 (s:B8) (D:List B8):∀u∈[S8 s]++D.map S8,u.oneCell'=true:=fun u a=>by
 rcases List.mem_append.1 a with a | a
 .rw [List.mem_singleton.1 a];rfl
 .obtain ⟨_,_,rfl⟩:=List.mem_map.1 a;rfl
variable {w:World}
theorem yZ {b k n:Nat} {a:Option Addr} {c:Nat} {xs:List Value} (h:w.ownsRow b 9 1 (.slice a n c) n xs) (u:k<=n) (x:∀g,a=some ⟨g,0,none⟩->True) (i:a≠none):w.ownsRow b 9 1 (.slice a k c) k (xs.take k):=by
 obtain⟨j,⟨d,y⟩ | ⟨g,l,e,d,o,p,z,q,r,t⟩⟩:=h
 .simp only[Value.slice.injEq]at d;exact absurd d.1 i
 .simp only[Value.slice.injEq,true_and]at d;obtain⟨rfl,rfl⟩:=d;refine⟨by rw[List.length_take,j];omega,.inr ⟨g,c,e,rfl,o,p,by omega,q,r,?_⟩⟩;rw[<-t,List.take_take];congr 1;omega
theorem wR {v:Value} {l:List B8} (hv:IsStrs w v l) (hl:l.length<=1000000) :
  Calls Tryz.prog 92 #[v] w fun e w'=>(∃v',e=.returned v'/\w'.ownsRow w.heap.size 9 1 v' (cJ l).length ((cJ l).map S8))/\Ext w w':=by
 obtain⟨a,bd,rfl,l1,l2,l3,-⟩:=hv.get;have HV:Hid (IsStrs w (.slice a l.length bd) l):=hv;clear hv;go_enter Tryz.func92,Tryz.ntmps92;go_wp2;go_loopw [3,4] (fun v i wr=>∃k:Nat,k<=l.length/\i=.int .i64 k/\Hid (wr.ownsRow w.heap.size 9 1 v (cJ (l.take k)).length ((cJ (l.take k)).map S8))/\Hid (Ext w wr)) (fun _ i _=>l.length - (intOf i).toNat)
 case atStart =>
  refine⟨0,Nat.zero_le _,rfl,?_,Ext.refl _⟩;have h0:cJ (l.take 0)=[]:=wQ;unfold Hid;rw[h0];exact World.ownsRow_nil _ _ _ _
 case round =>
 obtain⟨i,hi,rfl,B,HX⟩:=hrel
 by_cases T:i<l.length
 case neg =>
  have V:i=l.length:=by omega
  subst V;have HO:Hid (wr.ownsRow w.heap.size 9 1 u3 (cJ l).length ((cJ l).map S8)):=by have t:=B.out;rwa [List.take_length]at t
  go_wp2;go_ret;exact⟨⟨_,rfl,HO.out⟩,HX.out⟩
 obtain⟨s,W⟩:∃s,l[i]? = some s:=⟨_,List.getElem?_eq_getElem T⟩;obtain⟨_,_,Q,-,-,-,hg⟩:=(IsStrs.ext HV.out HX.out).get;cases Q;obtain⟨bb,oo,rfl,hc⟩:=hg i T;have N:=hc i T;rw[show l.getD i []=s by rw[List.getD_eq_getElem?_getD,W];rfl]at N;have bh:Hid _:=W;have X:=wO (l.take i);rw[List.length_take]at X;have Y:=iL (l.take i);obtain⟨U,hU⟩:∃U,cJ (l.take i)=U:=⟨_,rfl⟩;have H:Hid (cJ (l.take i)=U):=hU;rw[hU]at B X Y;have Z:Hid (cQ U):=Y;obtain⟨n,hn⟩:∃n,U.length=n:=⟨_,rfl⟩;have x:Hid (U.length=n):=hn;rw[hn]at B X;have bk:IsStrs wr u3 U:=by
  have t:=Row.BM B.out (by omega);unfold IsStrs
  rwa [hn]
 obtain⟨oa,oc,bl,o1,o2,o3,og⟩:=bk.get;rw[hn]at bl o1 og;subst bl;have bo:Hid _:=og;have br:Hid ((oa=none/\n=0/\oc=0)\/∃g,oa=some ⟨g,0,none⟩):=by
  rcases B.out.2 with⟨Q,h0⟩ | ⟨g,bd,co,Q,_⟩
  .simp only[Value.slice.injEq]at Q;exact .inl ⟨Q.1,h0,Q.2.2⟩
  .simp only[Value.slice.injEq]at Q;exact .inr ⟨g,Q.1⟩
 have bs:Hid (Row wr (.slice oa n oc) n (U.map S8)):=Row.BM B.out (by omega);clear hg hc W hU hn Y bk og;obtain⟨wo,rfl⟩:∃wo:World,wo=wr:=⟨_,rfl⟩;have Y1:Hid _:=N;clear N;go_wp2_with fail;go_loopw [5] (fun kk D=>∃k:Nat,k<=n/\kk=.int .i64 k/\Hid (Ext wo D)/\Hid (∀y∈U.drop k,ltB y s=false)) (fun kk _=>(intOf kk).toNat)
 case atStart=>exact⟨n,Nat.le_refl _,rfl,Ext.refl _,fun y hy=>by rw[List.drop_of_length_le (Nat.le_of_eq x.out)]at hy;cases hy⟩
 case round =>
 obtain⟨k,c,rfl,I,HD⟩:=hrel;have N:=I.out.cell Y1.out
 by_cases O:0<k
 case' neg =>
  have C:¬(0:Int)<(k:Int):=by omega
  have bt:Hid (∀y∈U.take k,ltB y s=true):=pN Z.out (.inl (by omega));go_upto_region 6 with fail;apply aj 14 [_,_,_,_,_,_,_,_,_,_,_,_,_,.bool false] [none,none,none,none,none,none,none,none,none,none,none,none,none,none] [[],[0],[1],[2],[2],[2,4],[2,3,5],[2,6],[2],[2],[2,8,9],[2,10],[2,7,11],[2,12]] (by kernel_rfl) (by kernel_rfl) (by simp[ak])
  .trivial
  .simp (maxSteps:=1000000)only[List.take_succ_cons,List.take_zero,aw,aA,aa,Act.put,List.setIfInBounds_toArray,List.set_cons_zero,List.set_cons_succ,aK,aO,ak,List.getD_cons_zero,List.getD_cons_succ,and_true,true_and,forall_const];and_intros
   iterate 14 · intro h D G;intros;rename_i d;go_simp;exact d _ _ (Ext.refl _) rfl
  intro h w2 E c;simp only[aP,Nat.zero_add,Nat.reduceAdd,and_true]at c;simp(maxSteps:=1000000)only[List.take_succ_cons,List.take_zero,List.drop_succ_cons,List.drop_zero,aa,Act.put,List.setIfInBounds_toArray,List.set_cons_zero,List.set_cons_succ,Nat.zero_add,Nat.reduceAdd,c];clear c
 case' pos =>
  obtain⟨j,o⟩:∃j,k=j+1:=⟨k - 1,by omega⟩;have ad:j<n:=by omega
  obtain⟨ob,cp,au,J⟩:=bo.out j ad;have r:=I.out.cell (J j ad);cases au;obtain⟨p,a0⟩:∃p,U[j]? = some p:=⟨_,List.getElem?_eq_getElem (by rw[x.out];exact ad)⟩;rw[show U.getD j []=p by rw[List.getD_eq_getElem?_getD,a0];rfl]at r;have bx:Hid _:=a0;have b7:IntKind.i64.wrap ((k:Int) - 1)=(j:Int):=by rw[IntWalk.i64_in _ (by omega)];omega
  have C:(0:Int)<(k:Int):=by omega
  obtain⟨b,hb⟩:∃b,ltB p s=b:=⟨_,rfl⟩;have cq:Op.bytesLess p s=b:=by rw[kC];exact hb
  have HB:Hid _:=hb;clear J a0 hb;cases b
  case' false =>
   have b8:Hid (∀y∈U.drop j,ltB y s=false):=wP bx.out HB.out (by have t:=HD.out;rwa [o]at t);have HJ:Hid _:=o;clear o;go_upto_region 6 with fail;apply aj 14 [_,_,_,_,_,.int .i64 (j:Int),_,S8 p,_,_,_,_,.bool true,.bool true] [none,none,none,none,none,none,none,none,none,none,none,none,none,none] [[],[0],[1],[2],[2],[2,4],[2,3,5],[2,6],[2],[2],[2,8,9],[2,10],[2,7,11],[2,12]] (by kernel_rfl) (by kernel_rfl) (by simp[ak])
   .trivial
   .simp (maxSteps:=1000000)only[List.take_succ_cons,List.take_zero,aw,aA,aa,Act.put,List.setIfInBounds_toArray,List.set_cons_zero,List.set_cons_succ,aK,aO,ak,List.getD_cons_zero,List.getD_cons_succ,and_true,true_and,forall_const];and_intros
    iterate 14 · intro h D G;intros;rename_i d;have f1:=G.cell r;have f2:=G.cell N;go_simp;exact d _ _ (Ext.refl _) rfl
   intro h w2 E c;simp only[aP,Nat.zero_add,Nat.reduceAdd,and_true]at c;simp(maxSteps:=1000000)only[List.take_succ_cons,List.take_zero,List.drop_succ_cons,List.drop_zero,aa,Act.put,List.setIfInBounds_toArray,List.set_cons_zero,List.set_cons_succ,Nat.zero_add,Nat.reduceAdd,c];clear c;have K:Hid (Ext wo w2):=I.out.trans E;clear E N r;go_wp2_with fail;go_roundw
   case rel=>exact⟨j,by omega,rfl,K,b8⟩
   case measure=>have:=HJ.out;simp[intOf];omega
  case' true =>
   have bt:Hid (∀y∈U.take k,ltB y s=true):=pN Z.out (.inr ⟨p,by rw[show k - 1=j by omega];exact bx.out,HB.out⟩);clear o;go_upto_region 6 with fail;apply aj 14 [_,_,_,_,_,.int .i64 (j:Int),_,S8 p,_,_,_,_,.bool false,.bool false] [none,none,none,none,none,none,none,none,none,none,none,none,none,none] [[],[0],[1],[2],[2],[2,4],[2,3,5],[2,6],[2],[2],[2,8,9],[2,10],[2,7,11],[2,12]] (by kernel_rfl) (by kernel_rfl) (by simp[ak])
   .trivial
   .simp (maxSteps:=1000000)only[List.take_succ_cons,List.take_zero,aw,aA,aa,Act.put,List.setIfInBounds_toArray,List.set_cons_zero,List.set_cons_succ,aK,aO,ak,List.getD_cons_zero,List.getD_cons_succ,and_true,true_and,forall_const];and_intros
    iterate 14 · intro h D G;intros;rename_i d;have f1:=G.cell r;have f2:=G.cell N;go_simp;exact d _ _ (Ext.refl _) rfl
   intro h w2 E c;simp only[aP,Nat.zero_add,Nat.reduceAdd,and_true]at c;simp(maxSteps:=1000000)only[List.take_succ_cons,List.take_zero,List.drop_succ_cons,List.drop_zero,aa,Act.put,List.setIfInBounds_toArray,List.set_cons_zero,List.set_cons_succ,Nat.zero_add,Nat.reduceAdd,c];clear c;clear r b7
 all_goals
  have K:Hid (Ext wo w2):=I.out.trans E;have y2:=E.cell N;clear E N I
  by_cases a1:k<n
  case' neg =>
   have V:¬(k:Int)<(n:Int):=by omega
   have a2:Hid (∀y∈U.drop k,ltB s y=true):=fun y hy=>by rw[List.drop_of_length_le (by rw[x.out];omega)]at hy;cases hy
   go_upto_region 8 with fail;apply aj 15 [_,_,_,_,_,_,_,_,_,_,_,_,_,_,.bool false] [none,none,none,none,none,none,none,none,none,none,none,none,none,none,none] [[],[],[1],[0,2],[3],[4],[4],[4,5,6],[4,7],[4],[4],[4,9,10],[4,11],[4,8,12],[4,13]] (by kernel_rfl) (by kernel_rfl) (by simp[ak])
   .trivial
   .simp (maxSteps:=1000000)only[List.take_succ_cons,List.take_zero,aw,aA,aa,Act.put,List.setIfInBounds_toArray,List.set_cons_zero,List.set_cons_succ,aK,aO,ak,List.getD_cons_zero,List.getD_cons_succ,and_true,true_and,forall_const];and_intros
    iterate 15 · intro h D G;intros;rename_i d;go_simp;exact d _ _ (Ext.refl _) rfl
   intro h L F c;simp only[aP,Nat.zero_add,Nat.reduceAdd,and_true]at c;simp(maxSteps:=1000000)only[List.take_succ_cons,List.take_zero,List.drop_succ_cons,List.drop_zero,aa,Act.put,List.setIfInBounds_toArray,List.set_cons_zero,List.set_cons_succ,Nat.zero_add,Nat.reduceAdd,c];clear c
  case' pos =>
   obtain⟨qb,qo,au,J⟩:=bo.out k a1;have r:=K.out.cell (J k a1);cases au;obtain⟨q,a3⟩:∃q,U[k]? = some q:=⟨_,List.getElem?_eq_getElem (by rw[x.out];exact a1)⟩;rw[show U.getD k []=q by rw[List.getD_eq_getElem?_getD,a3];rfl]at r;have bS:Hid _:=a3;have b':(⟨q.toArray⟩:ByteArray).toList=q:=Lib.toList_data _;have ca:(⟨s.toArray⟩:ByteArray).toList=s:=Lib.toList_data _;have V:(k:Int)<(n:Int):=by omega
   clear J a3;obtain⟨bq,a4⟩:∃bq,(q==s)=bq:=⟨_,rfl⟩;cases bq
   case' true =>
    have a5:Hid (cJ (l.take (i+1))=U):=by
     have t:=qg bh.out (by rw[H.out];have M:q=s:=(by simpa using a4);rw[<-M];exact List.mem_of_getElem? bS.out);rw[H.out]at t;exact t
    go_upto_region 8 with fail;apply aj 15 [_,_,_,_,_,_,_,_,_,_,_,_,_,_,.bool true] [none,none,none,none,none,none,none,none,none,none,none,none,none,none,none] [[],[],[1],[0,2],[3],[4],[4],[4,5,6],[4,7],[4],[4],[4,9,10],[4,11],[4,8,12],[4,13]] (by kernel_rfl) (by kernel_rfl) (by simp[ak])
    .trivial
    .simp (maxSteps:=1000000)only[List.take_succ_cons,List.take_zero,aw,aA,aa,Act.put,List.setIfInBounds_toArray,List.set_cons_zero,List.set_cons_succ,aK,aO,ak,List.getD_cons_zero,List.getD_cons_succ,and_true,true_and,forall_const];and_intros
     iterate 15 · intro h D G;intros;rename_i d;have f1:=G.cell r;have f2:=G.cell y2;go_simp;exact d _ _ (Ext.refl _) rfl
    intro h L F c;simp only[aP,Nat.zero_add,Nat.reduceAdd,and_true]at c;simp(maxSteps:=1000000)only[List.take_succ_cons,List.take_zero,List.drop_succ_cons,List.drop_zero,aa,Act.put,List.setIfInBounds_toArray,List.set_cons_zero,List.set_cons_succ,Nat.zero_add,Nat.reduceAdd,c];clear c;have S:Ext wo L:=K.out.trans F;have A:L.ownsRow w.heap.size 9 1 _ n (U.map S8):=al B.out S;clear F y2 r;go_wp2_with fail;go_roundw
    case rel=>exact⟨i+1,by omega,by go_num,(by unfold Hid;rw[a5.out,x.out];exact A),HX.out.trans S⟩
    case measure=>simp[intOf];omega
   case' false =>
    have a2:Hid (∀y∈U.drop k,ltB s y=true):=uH Z.out HD.out (fun q' b0=>by
     rw[bS.out]at b0;cases b0;simpa using a4)
    go_upto_region 8 with fail;apply aj 15 [_,_,_,_,_,_,_,_,_,_,_,_,_,_,.bool false] [none,none,none,none,none,none,none,none,none,none,none,none,none,none,none] [[],[],[1],[0,2],[3],[4],[4],[4,5,6],[4,7],[4],[4],[4,9,10],[4,11],[4,8,12],[4,13]] (by kernel_rfl) (by kernel_rfl) (by simp[ak])
    .trivial
    .simp (maxSteps:=1000000)only[List.take_succ_cons,List.take_zero,aw,aA,aa,Act.put,List.setIfInBounds_toArray,List.set_cons_zero,List.set_cons_succ,aK,aO,ak,List.getD_cons_zero,List.getD_cons_succ,and_true,true_and,forall_const];and_intros
     iterate 15 · intro h D G;intros;rename_i d;have f1:=G.cell r;have f2:=G.cell y2;go_simp;exact d _ _ (Ext.refl _) rfl
    intro h L F c;simp only[aP,Nat.zero_add,Nat.reduceAdd,and_true]at c;simp(maxSteps:=1000000)only[List.take_succ_cons,List.take_zero,List.drop_succ_cons,List.drop_zero,aa,Act.put,List.setIfInBounds_toArray,List.set_cons_zero,List.set_cons_succ,Nat.zero_add,Nat.reduceAdd,c];clear c;clear r b' ca a4
  all_goals
   have a6:Hid (Ext wo L):=K.out.trans F;have y3:=F.cell y2;clear F y2;have cb:Hid _:=y3;have hA:(U.take k).length=k:=by rw[List.length_take,x.out];omega
   have hC:(U.drop k).length=n - k:=by rw[List.length_drop,x.out]
   have HA:Hid _:=hA;have HC:Hid _:=hC;have b1:Hid (cJ (l.take (i+1))=U.take k++s::U.drop k):=by
    have t:=qf (k:=k) bh.out (by rw[H.out];exact bt.out) (by rw[H.out];exact a2.out);rw[H.out]at t;exact t
   have b2:Hid (L.ownsRow w.heap.size 9 1 _ n (U.map S8)):=al B.out a6.out;have b3:Hid (Row L _ n (U.map S8)):=Row.ext bs.out a6.out;have cs:k<=oc:=by omega
   have b4:(U.map S8).length=n*1:=by rw[List.length_map,x.out];omega
   have cc:Hid _:=b4;clear hA hC y3 b4 a2 HD;go_upto_region 9 with fail;apply aI 12 (fun z w'=>UJ L s (U.drop k) (z 7) (z 11) w') [false,false,false,false,false,false,false,true,false,false,false,true] [_,_,undef,_,_,_,S8 s,undef,_,_,undef,undef] [none,none,some (fun u=>L.ownsRow w.heap.size 9 1 u k ((U.take k).map S8)),none,none,none,none,none,none,none,some (fun u=>Row L u (U.drop k).length ((U.drop k).map S8)),none] [[],[],[0,1],[],[],[3,4],[5],[6],[],[],[8,9],[7,10]] (by kernel_rfl) (by kernel_rfl) rfl
   .exact UJ.start ⟨rfl,rfl,rfl,Nat.le_refl _,fun _ _=>rfl⟩
   .simp (maxSteps:=1000000)only[cY,cG,bP,cA,cN,List.getD_cons_zero,List.getD_cons_succ,Bool.false_eq_true,if_false,if_true,and_true,true_and,forall_const,Nat.zero_add,Nat.reduceAdd,List.take_succ_cons,List.take_zero,aa,Act.put,List.setIfInBounds_toArray,List.set_cons_zero,List.set_cons_succ];and_intros
    iterate 2 · intro h z D o;intros;rename_i d;go_simp;exact d _ _ o rfl
    .intro h z D o c R d;obtain⟨O,a7⟩:=c;rcases br.out with⟨t,h0,M⟩ | ⟨g9,t⟩
     .first | (exact absurd t (by simp)) | (cases t;subst M;have C:k=0:=(by omega);subst C;go_simp;exact d _ _ o (World.ownsRow_nil _ _ _ _))
     ·(cases t;go_simp;exact d _ _ o (by have M:=yZ b2.out c (fun _ _=>trivial) (by simp);rwa [<-List.map_take]at M))
    iterate 3 · intro h z D o;intros;rename_i d;go_simp;exact d _ _ o rfl
    .intro h z D o c R d;have f1:=o.ext.cell cb.out;go_simp;exact d _ _ o rfl
    .intro h z D o hz c R d;go_simp;exact d _ _ o.CX
    iterate 2 · intro h z D o;intros;rename_i d;go_simp;exact d _ _ o rfl
    .intro h z D o c R d;obtain⟨O,a7⟩:=c;rcases br.out with⟨t,h0,M⟩ | ⟨g9,t⟩
     .first | (exact absurd t (by simp)) | (cases t;subst M;have C:k=0:=(by omega);have ce:U=[]:=List.eq_nil_of_length_eq_zero (x.out.trans h0);subst C;subst ce;go_simp;exact d _ _ o (Row.nil _))
     ·(cases t;go_simp;exact d _ _ o (by have M:=Row.CU 1 b3.out c cc.out;rw[Nat.mul_one,<-List.map_drop]at M;rw[HC.out];exact M))
    .intro h z D o hz c R d;obtain⟨O,a7⟩:=c;obtain⟨v',w',hr,cl⟩:=o.CL O hz (h 10) (a7.ext o.ext) (by rw[HC.out];omega);apply cH (.tmp 52) (.tmp 55) 39 (v:=h 7) (xv:=h 10) (v':=v') (w':=w')
     iterate 4
      .rfl
     .exact hr
     .exact d _ _ cl
   intro h w4 P c;simp only[cX,List.getD_cons_zero,List.getD_cons_succ,Bool.false_eq_true,if_false,if_true]at P;simp only[bU,Nat.zero_add,Nat.reduceAdd,and_true]at c;have q2:=c.2.2.1;have cm:=c.2.2.2.2.2.2.2.2.2;simp(maxSteps:=1000000)only[List.drop_succ_cons,List.drop_zero,Nat.zero_add,Nat.reduceAdd,List.take_succ_cons,List.take_zero,aa,Act.put,List.setIfInBounds_toArray,List.set_cons_zero,List.set_cons_succ,c];clear c;generalize h 2=x2 at *;generalize h 7=x7 at *;generalize h 10=ct at *;generalize h 11=cu at *;have b5:Hid (Ext w w4):=(HX.out.trans a6.out).trans P.ext;have A:=al q2 P.ext;have a8:=P.f11 _ rfl;have a9:=Row.BM a8 (by rw[HC.out];omega);have b6:=b5.out.size;clear cm q2
   go_wp2_with (at_builtin;go_must (refine te 39 9 (S8 []) 1 16 Tryz.underlying39 iV rfl (by omega) rfl _ _ rfl rfl w.heap.size _ k _ rfl A _ (1+(U.drop k).length) _ rfl a9 (by simp;omega) (A9 s (U.drop k)) (by rw[HC.out];omega) (by rw[HC.out];omega) b6 ?_;intro v' w5 a' cn))
   go_roundw
   case rel =>
    refine⟨i+1,by omega,by go_num,?_,ai b5.out A cn⟩;unfold Hid;rw[b1.out,List.length_append,List.length_cons,HA.out,List.map_append,List.map_cons,show k+((U.drop k).length+1)=k+(1+(U.drop k).length)by omega];exact a'
   case measure=>simp[intOf];omega
end
section
open Go Go.RowKit
end
section
open Go Go.RowKit Go.Sort
end
section
open Go Go.RowKit
section
variable (V:Fi->Value)
end
section
variable {V:Fi->Value} {w w':World} {b:Nat} {l:aq}
end
section
variable {ops:Array Oper} {rest:List Oper} {o:Oper} {a:Act} {Q:Exit->Act->World->Prop} {w:World} {V:Fi->Value}
end
end
section
open Go Go.RowKit Go.Sort
end
section
open Go Go.RowKit Go.Sort
theorem uI {l:List B8} (h:∀k a b,l[k]? = some a->l[k+1]? = some b->ltB a b=true):cQ l:=by
 have g:∀(d i:Nat) (x y:B8),l[i]? = some x->l[i+1+d]? = some y->ltB x y=true:=by
  intro d
  induction d with
  | zero=>exact h
  | succ d n =>
   intro i x y o c;have t:=(List.getElem?_eq_some_iff.1 c).1;have e:l[i+1+d]? = some l[i+1+d]:=List.getElem?_eq_getElem (by omega);exact lN (n i x _ o e) (h (i+1+d) _ y e c)
 refine List.pairwise_iff_getElem.2 fun i j p q r=>?_
 exact g (j - i - 1) i _ _ (List.getElem?_eq_getElem p) (by rw[show i+1+(j - i - 1)=j by omega];exact List.getElem?_eq_getElem q)
def y8 (l:List B8) (e:Ending):Prop:=∃c:Bool,e=.returned (.bool c)/\(c=true↔cQ l)
theorem sj (v:Value) (l:List B8) (w:World) (D:IsStrs w v l) :
  Calls Tryz.prog 14 #[v] w fun e N=>y8 l e/\Ext w N:=by
 obtain⟨a,O,rfl,W,X,Y,E⟩:=D.get;have P:Hid _:=E;clear D E;go_enter Tryz.func14,Tryz.ntmps14;go_wp2_with fail;go_loopw [3] (fun i wr=>∃k:Nat,k<=l.length/\i=.int .i64 ((k:Int)+1)/\Hid (∀j a b,j<k->l[j]? = some a->l[j+1]? = some b->ltB a b=true)/\Hid (Ext w wr)) (fun i _=>l.length+1 - (intOf i).toNat)
 case atStart=>exact⟨0,Nat.zero_le _,rfl,fun j a b F=>absurd F (Nat.not_lt_zero _),Ext.refl _⟩
 case round =>
 obtain⟨k,Z,rfl,G,g⟩:=hrel
 by_cases o:k+1<l.length
 case neg =>
  have Q:Hid (cQ l):=uI (fun j a b p c=>G.out j a b (by have:=(List.getElem?_eq_some_iff.1 c).1;omega) p c);have hn:¬((k:Int)+1<(l.length:Int)):=by omega
  go_wp2;go_ret;exact⟨⟨true,rfl,fun _=>Q.out,fun _=>rfl⟩,g.out⟩
 obtain⟨x,t⟩:∃x,l[k]? = some x:=⟨_,List.getElem?_eq_getElem (by omega)⟩;obtain⟨y,u⟩:∃y,l[k+1]? = some y:=⟨_,List.getElem?_eq_getElem o⟩;obtain⟨bb,oo,rfl,z⟩:=P.out k (by omega);have H:=g.out.cell (z k (by omega));have I:=g.out.cell (z (k+1) o);rw[show l.getD k []=x by rw[List.getD_eq_getElem?_getD,t];rfl]at H;rw[show l.getD (k+1) []=y by rw[List.getD_eq_getElem?_getD,u];rfl]at I;have q:Hid _:=t;have r:Hid _:=u;have J:(k:Int)+1<(l.length:Int):=by omega
 have K:(k:Int)<(l.length:Int):=by omega
 have L:(0:Int)<=(k:Int)+1:=by omega
 have R:IntKind.i64.wrap (k:Int)=(k:Int):=IntWalk.i64_in _ (by omega);have S:((k:Int)+1).toNat=k+1:=by omega
 clear z t u;rcases jE y x with⟨d,M,T⟩ | ⟨d,M⟩ | ⟨d,M,T⟩
 .have A:Hid (∀j a b,j<k+1->l[j]? = some a->l[j+1]? = some b->ltB a b=true):=fun j a b F p c=>by
   by_cases B:j=k
   .subst B;rw[q.out]at p;rw[r.out]at c
    cases p;cases c
    exact d
   .exact G.out j a b (by omega) p c
  clear d;go_upto_region 4 with fail;go_quiet (fail);have C:=fun n=>g.out.trans (Ext.drawn wr n)
  clear H I;go_wp2_with fail;go_roundw
  case rel=>exact⟨k+1,by omega,by go_num,A,C _⟩
  case measure=>simp[intOf];omega
 iterate 2
  .have U:Hid (¬cQ l):=fun V=>by
    have:=oO V q.out r.out (Nat.lt_succ_self _);rw[d]at this;cases this
   clear d;go_upto_region 4 with fail;go_quiet (fail);go_wp2;go_ret;exact⟨⟨false,rfl,fun h=>(by cases h),fun h=>(U.out h).elim⟩,g.out.trans (Ext.drawn _ _)⟩
end
section
open Go Go.RowKit Go.Sort
theorem kO:∀l:List B8,bI l=true↔cQ l
 | []=>⟨fun _=>List.Pairwise.nil,fun _=>rfl⟩
 | [x]=>⟨fun _=>List.pairwise_singleton _ _,fun _=>rfl⟩
 | x::y::l=>by
  have b:=kO (y::l);constructor
  .intro h;have h:(ltB x y && bI (y::l))=true:=h;rw[Bool.and_eq_true]at h;have c:=b.1 h.2;refine List.Pairwise.cons (fun z a=>?_) c;rcases List.mem_cons.1 a with rfl | a
   .exact h.1
   .exact fR h.1 (List.rel_of_pairwise_cons c a)
  .intro h;show(ltB x y && bI (y::l))=true;rw[Bool.and_eq_true];exact⟨List.rel_of_pairwise_cons h (by simp),b.2 (List.Pairwise.of_cons h)⟩
theorem uJ (v:Value) (l:List B8) (w:World) (d:IsStrs w v l) :
  Calls Tryz.prog 14 #[v] w fun e a=>e=.returned (.bool (bI l))/\Ext w a :=
 (sj v l w d).mono fun e a ⟨⟨c,g,b⟩,h⟩=>⟨by
  have:c=bI l:=by
   cases c with
   | true=>exact((kO l).2 (b.1 rfl)).symm
   | false =>
    cases i:bI l with
    | false=>rfl
    | true=>have:=b.2 ((kO l).1 i);cases this
  rw[g,this],h⟩
theorem y9 (v:Value) (o:Ob) (w:World) (hv:IsOb w v o) (hs:dm o) :
  Calls Tryz.prog 145 #[v] w fun e x=>e=.returned (.bool (bN o))/\Ext w x:=by
 obtain⟨vd,vi,Z,rfl,hd,hi,hp⟩:=hv;obtain⟨wa,F⟩:∃wa,wa=w.alloc (.cells #[.int .i64 o.kind,vd,vi,S8 o.tree,Z,.int .i64 o.BL,.int .i64 o.I,S8 o.msg] 95):=⟨_,rfl⟩;have a0:Ext w wa:=by rw[F];exact(Ext.refl _).alloc _
 have G:wa.heap[w.heap.size]? = some (.cells #[.int .i64 o.kind,vd,vi,S8 o.tree,Z,.int .i64 o.BL,.int .i64 o.I,S8 o.msg] 95 (0,0)):=by rw[F];exact ab _ _
 obtain⟨gb,a1⟩:∃gb,w.heap.size=gb:=⟨_,rfl⟩;have O:Hid (∀x,Ext w x->Calls Tryz.prog 200 #[vi] x fun e H=>e=.returned (.bool (cC o.items))/\Ext x H):=fun x hx=>uF vi o.items x (hi.ext hx) hs.items
 have P:Hid (∀x,Ext w x->Calls Tryz.prog 201 #[Z] x fun e H=>e=.returned (.bool (o.parents.all av))/\Ext x H):=fun x hx=>si Z o.parents x (hp.ext hx) hs.C2
 have Q:Hid (∀x,Ext w x->Calls Tryz.prog 14 #[Z] x fun e H=>e=.returned (.bool (bI o.parents))/\Ext x H):=fun x hx=>uJ Z o.parents x (hp.ext hx)
 obtain⟨da,dc,rfl,-,-,-,-⟩:=hd.get;obtain⟨ia,ic,rfl,-,-,-,-⟩:=hi.get;obtain⟨pa,pc,rfl,-,-,-,-⟩:=hp.get;obtain⟨a7,a8⟩:o.tree.length<=10000000/\o.msg.length<=10000000:=⟨hs.tree,hs.msg⟩;have a9:=hd.len;have a':o.items.length<=140737488355328:=by obtain⟨_,_,_,-,h,-⟩:=hi.get;exact h
 obtain⟨k,i,d,n,a,g,b,t⟩:=o;obtain⟨r,hr⟩:∃r,bN ⟨k,i,d,n,a,g,b,t⟩=r:=⟨_,rfl⟩;rw[hr];have HR:Hid _:=hr;obtain⟨y,R⟩:∃c,gV ⟨k,i,d,n,a,g,b,t⟩ = !c:=⟨!gV ⟨k,i,d,n,a,g,b,t⟩,by simp⟩;have a2:Hid _:=R;have L:((n==[]) && ((a.length==0) && ((g==0) && ((b==0) && (t==[]))))) = !y:=R;have C:Hid _:=L;unfold obV;dsimp only at O P Q G F a7 a8 a9 a' ⊢;obtain⟨io,S⟩:∃c,cC d=c:=⟨_,rfl⟩;rw[S]at O;have bb:Hid _:=S;obtain⟨pv,T⟩:∃c,a.all av=c:=⟨_,rfl⟩;rw[T]at P;obtain⟨pr,U⟩:∃c,bI a=c:=⟨_,rfl⟩;rw[U]at Q;have bd:Hid (dC a=(pv && (pr && decide (a.length<=2)))):=by unfold Hid dC;rw[T,U]
 rw[a1]at G;obtain⟨c0,c1,c2,c3,c4,c5,c6,c7⟩:=ag G;have z:Hid (Ext w wa):=a0;have bh:Hid _:=F;have bk:Hid _:=G;clear hd hi hp hs hr R L S T U a0 F G;go_enter Tryz.func145,Tryz.ntmps145;go_upto_region 1 with fail;rw[<-bh.out]
 try rw[a1]
 go_cut [0,3] (fun _ c wx=>c=.bool y/\wx=wa)
 case first =>
  cases n with
  | cons x1 l1 =>
   have j:Hid (y=true):=by
    have I:=C.out
    cases y with
    | true=>rfl
    | false=>simp at I
   go_wp2_with fail;go_meet
   case rel=>exact⟨by rw[j.out],rfl⟩
  | nil =>
  cases a with
  | cons x2 l2 =>
   have bo:(0:Int)<((x2::l2:List B8).length:Int):=by rw[List.length_cons];omega
   have bq:(0:Int)<(l2.length:Int)+1:=by omega
   have j:Hid (y=true):=by
    have I:=C.out
    cases y with
    | true=>rfl
    | false=>simp at I
   go_wp2_with fail;go_meet
   case rel=>exact⟨by rw[j.out],rfl⟩
  | nil =>
  by_cases p:g=0
  case neg =>
   have a3:(g != 0)=true:=by simpa using p
   have a4:(g==0)=false:=by simpa using p
   have j:Hid (y=true):=by
    have I:=C.out
    cases y with
    | true=>rfl
    | false=>simp[p]at I
   go_wp2_with fail;go_meet
   case rel=>exact⟨by rw[j.out],rfl⟩
  subst p
  by_cases l:b=0
  case neg =>
   have ad:(b != 0)=true:=by simpa using l
   have au:(b==0)=false:=by simpa using l
   have j:Hid (y=true):=by
    have I:=C.out
    cases y with
    | true=>rfl
    | false=>simp[l]at I
   go_wp2_with fail;go_meet
   case rel=>exact⟨by rw[j.out],rfl⟩
  subst l
  cases t with
  | cons x5 l5 =>
   have j:Hid (y=true):=by
    have I:=C.out
    cases y with
    | true=>rfl
    | false=>simp at I
   go_wp2_with fail;go_meet
   case rel=>exact⟨by rw[j.out],rfl⟩
  | nil =>
   have j:Hid (y=false):=by
    have I:=C.out
    cases y with
    | false=>rfl
    | true=>simp at I
   go_wp2_with fail;go_meet
   case rel=>exact⟨by rw[j.out],rfl⟩
 case rest =>
 obtain⟨rfl,rfl⟩:=hcut
 by_cases K:k=1
 .have b1:(k==1)=true:=by simpa using K
  have A:Hid (r=(decide (i.length<=20000) && ((d.length==0) && !y))):=by rw[<-HR.out,<-a2.out];unfold Hid bN;rw[if_pos K]
  clear K
  by_cases J:(i.length:Int)<=20000
  .by_cases M:d.length=0
   .have b3:((d.length:Int)==0)=true:=by rw[beq_iff_eq];omega
    have j:Hid (r = !y):=by unfold Hid;rw[A.out,M,decide_eq_true (by omega:i.length<=20000)];rfl
    clear M;go_wp2;go_ret;exact⟨an j.out.symm,z.out⟩
   .have b3:((d.length:Int)==0)=false:=by rw[beq_eq_false_iff_ne];omega
    have j:Hid (r=false):=by unfold Hid;rw[A.out,show(d.length==0)=false by simpa using M];simp
    clear M;go_wp2;go_ret;exact⟨an j.out.symm,z.out⟩
  .have j:Hid (r=false):=by unfold Hid;rw[A.out,decide_eq_false (by omega:¬i.length<=20000)];rfl
   go_wp2;go_ret;exact⟨an j.out.symm,z.out⟩
 have b1:(k==1)=false:=by simpa using K
 by_cases N:k=2
 .have b2:(k==2)=true:=by simpa using N
  have A:Hid (r=((i.length==0) && (io && !y))):=by rw[<-HR.out,<-a2.out,<-bb.out];unfold Hid bN;rw[if_neg K,if_pos N]
  clear K N
  by_cases J:i.length=0
  .have b3:((i.length:Int)==0)=true:=by rw[beq_iff_eq];omega
   have u:Hid (r=(io && !y)):=by unfold Hid;rw[A.out,J];rfl
   clear J;go_wp2_with fail;go_at_call 200;refine(O.out _ z.out).mono ?_;rintro e w1 ⟨rfl,D⟩;have B:Hid (Ext w w1):=z.out.trans D;clear D
   cases io with
   | true =>
    have j:Hid (r = !y):=by unfold Hid;rw[u.out];rfl
    go_wp2;go_ret;exact⟨an j.out.symm,B.out⟩
   | false =>
    have j:Hid (r=false):=by unfold Hid;rw[u.out];rfl
    go_wp2;go_ret;exact⟨an j.out.symm,B.out⟩
  .have b3:((i.length:Int)==0)=false:=by rw[beq_eq_false_iff_ne];omega
   have j:Hid (r=false):=by unfold Hid;rw[A.out,show(i.length==0)=false by simpa using J];rfl
   clear J;go_wp2;go_ret;exact⟨an j.out.symm,z.out⟩
 have b2:(k==2)=false:=by simpa using N
 by_cases k3:k=3
 case neg =>
  have b3:(k==3)=false:=by simpa using k3
  have j:Hid (r=false):=by rw[<-HR.out];unfold Hid bN;rw[if_neg K,if_neg N,if_neg k3]
  clear K N k3;go_wp2;go_ret;exact⟨an j.out.symm,z.out⟩
 have b3:(k==3)=true:=by simpa using k3
 have A:Hid (r=((i.length==0) && ((d.length==0) && (av n && ((pv && (pr && decide (a.length<=2))) && ((decide (0<=g) && decide (g<=1099511627776)) && ((decide (0<=b) && decide (b<=255)) && dM t))))))):=by rw[<-HR.out,<-bd.out];unfold Hid bN;rw[if_neg K,if_neg N,if_pos k3]
 clear K N k3;have br:IntKind.i64.wrap ((i.length:Int)+(d.length:Int))=(i.length:Int)+(d.length:Int):=IntWalk.i64_in _ (by omega)
 by_cases J:i.length=0/\d.length=0
 case neg =>
  have b4:((i.length:Int)+(d.length:Int)==0)=false:=by rw[beq_eq_false_iff_ne];omega
  have j:Hid (r=false):=by
   unfold Hid;rw[A.out]
   by_cases M:i.length=0
   .rw [show(d.length==0)=false by simpa using fun e=>J ⟨M,e⟩];simp
   .rw [show(i.length==0)=false by simpa using M];rfl
  clear J;go_wp2;go_ret;exact⟨an j.out.symm,z.out⟩
 have b4:((i.length:Int)+(d.length:Int)==0)=true:=by rw[beq_iff_eq];omega
 obtain⟨vt,V⟩:∃vt,av n=vt:=⟨_,rfl⟩;have bl:Hid _:=V;have u:Hid (r=(vt && ((pv && (pr && decide (a.length<=2))) && ((decide (0<=g) && decide (g<=1099511627776)) && ((decide (0<=b) && decide (b<=255)) && dM t))))):=by unfold Hid;rw[A.out,J.1,J.2,V];rfl
 clear J V;go_wp2_with fail;go_at_call 87;refine(fo n _ (by omega)).mono ?_;rw[bl.out];rintro e w1 ⟨rfl,D⟩;have B:Hid (Ext w w1):=z.out.trans D;have a5:Hid _:=Ext.row D bk.out;obtain⟨d0,d1,d2,d3,d4,d5,d6,d7⟩:=ag a5.out;clear D
 cases vt with
 | false =>
  have j:Hid (r=false):=by unfold Hid;rw[u.out];rfl
  go_wp2;go_ret;exact⟨an j.out.symm,B.out⟩
 | true =>
 by_cases M:(a.length:Int)<=2
 case neg =>
  have j:Hid (r=false):=by unfold Hid;rw[u.out,decide_eq_false (by omega:¬a.length<=2)];simp
  go_wp2;go_ret;exact⟨an j.out.symm,B.out⟩
 have q:Hid (r=(pv && (pr && ((decide (0<=g) && decide (g<=1099511627776)) && ((decide (0<=b) && decide (b<=255)) && dM t))))):=by
  unfold Hid;rw[u.out,decide_eq_true (by omega:a.length<=2)]
  cases pv <;> cases pr <;> simp
 go_wp2_with fail;go_at_call 201;refine(P.out w1 B.out).mono ?_;rintro e w2 ⟨rfl,W⟩;have X:Hid (Ext w w2):=B.out.trans W;have a6:Hid _:=Ext.row W a5.out;obtain⟨e0,e1,e2,e3,e4,e5,e6,e7⟩:=ag a6.out;clear W
 cases pv with
 | false =>
  have j:Hid (r=false):=by unfold Hid;rw[q.out];rfl
  go_wp2;go_ret;exact⟨an j.out.symm,X.out⟩
 | true =>
 go_wp2_with fail;go_at_call 14;refine(Q.out w2 X.out).mono ?_;rintro e w3 ⟨rfl,Y⟩;have E:Hid (Ext w w3):=X.out.trans Y;obtain⟨f0,f1,f2,f3,f4,f5,f6,f7⟩:=ag (Ext.row Y a6.out);clear Y
 cases pr with
 | false =>
  have j:Hid (r=false):=by unfold Hid;rw[q.out];rfl
  go_wp2;go_ret;exact⟨an j.out.symm,E.out⟩
 | true =>
 by_cases g0:0<=g
 case neg =>
  have j:Hid (r=false):=by unfold Hid;rw[q.out,decide_eq_false g0];simp
  go_wp2;go_ret;exact⟨an j.out.symm,E.out⟩
 by_cases g1:g<=1099511627776
 case neg =>
  have j:Hid (r=false):=by unfold Hid;rw[q.out,decide_eq_false g1];simp
  go_wp2;go_ret;exact⟨an j.out.symm,E.out⟩
 by_cases g2:0<=b
 case neg =>
  have j:Hid (r=false):=by unfold Hid;rw[q.out,decide_eq_false g2];simp
  go_wp2;go_ret;exact⟨an j.out.symm,E.out⟩
 by_cases g3:b<=255
 case neg =>
  have j:Hid (r=false):=by unfold Hid;rw[q.out,decide_eq_false g3];simp
  go_wp2;go_ret;exact⟨an j.out.symm,E.out⟩
 have j:Hid (r=dM t):=by unfold Hid;rw[q.out,decide_eq_true g0,decide_eq_true g1,decide_eq_true g2,decide_eq_true g3];rfl
 go_wp2_with fail;go_at_call 202;refine(yX t w3 (by omega)).mono ?_;rintro e w4 ⟨rfl,rfl⟩;go_wp2;go_ret;exact⟨an j.out.symm,E.out⟩
end
section
open Go Go.RowKit
def AuxO (w:World) (a:Value) (n:Option Value) (r:B8):Prop:=∀u,n=some u->IsBytes w u r/\∀g,u.ownBlock=some g->g<w.heap.size/\a.ownBlock≠some g
structure ChN (w0:World) (base:Nat) (v0:Value) (l0 l1 l2 l3 r1 r2 r3:B8) (za zb zc n1 n2 n3:Option Value) (w:World):Prop where
 ext:w0.grownBy w v0.ownBlock
 cur:∃cv cl,((za=none/\zb=none/\zc=none/\cv=v0/\cl=l0)\/(za=some cv/\zb=none/\zc=none/\cl=l1)\/(za≠none/\zb=some cv/\zc=none/\cl=l2)\/(za≠none/\zb≠none/\zc=some cv/\cl=l3)) /\
  Ow base w cv cl/\Near w0 v0 cv/\AuxO w cv n2 r2/\AuxO w cv n3 r3
 one:∀u,n1=some u->za=none->IsBytes w u r1
section
variable {w0 w w':World} {base:Nat} {v0 v' cv:Value} {l0 l1 l2 l3 r r1 r2 r3:B8} {za zb zc n1 n2 n3 n:Option Value}
theorem AuxO.ext (h:AuxO w cv n r) (b:Ext w w'):AuxO w' cv n r:=fun u a=>⟨IsBytes.ext (h u a).1 b,fun g c=>⟨Nat.lt_of_lt_of_le ((h u a).2 g c).1 b.size,((h u a).2 g c).2⟩⟩
theorem AuxO.step (h:AuxO w cv n r) (c:w.grownBy w' cv.ownBlock) (j:Near w cv v'):AuxO w' v' n r:=fun u l=>by
 obtain⟨o,b⟩:=h u l;refine⟨Row.stay o (fun k d=>c.block k (b k d).1 (fun e=>(b k d).2 e.symm)),fun g a=>⟨Nat.lt_of_lt_of_le (b g a).1 c.size,fun e=>?_⟩⟩;rcases j g e with i | i
 .exact (b g a).2 i
 .have:=(b g a).1;omega
variable {u:Value}
theorem AuxO.new {n:Nat} {c:B8} (d:Ow base w cv c) (j:Ext w w') (b:w'.ownsRow w.heap.size 5 1 u r.length (U8s r)) (k:r.length<=1000000000):AuxO w' cv (some u) r:=fun x a=>by
 cases a;refine⟨by unfold IsBytes;exact Row.BM b (by omega),fun g h=>?_⟩
 have i:=b.lt g h;refine⟨i.2,fun e=>?_⟩;have l:=(d.lt g e).2;omega
theorem ChN.start (h:Ow base w0 v0 l0) (b:Ext w0 w):ChN w0 base v0 l0 l1 l2 l3 r1 r2 r3 none none none none none none w :=
 ⟨b.grown.but _,⟨v0,l0,.inl ⟨rfl,rfl,rfl,rfl,rfl⟩,al h b,fun k c=>.inl c,fun u a=>(by cases a),fun u a=>(by cases a)⟩,fun u a=>(by cases a)⟩
theorem ChN.size (h:ChN w0 base v0 l0 l1 l2 l3 r1 r2 r3 za zb zc n1 n2 n3 w):w0.heap.size<=w.heap.size:=h.ext.size
variable {x:Value}
theorem ChN.cell {a:Addr} (h:ChN w0 base v0 l0 l1 l2 l3 r1 r2 r3 za zb zc n1 n2 n3 w) (b:v0.ownBlock≠some a.block) (c:w0.cell? a=some x):w.cell? a=some x:=by
 rw[World.cell?_of_block (h.ext.block _ (World.block_lt_of_cell? _ _ c) (fun e=>b e.symm))];exact c
theorem ChN.C6 (h:ChN w0 base v0 l0 l1 l2 l3 r1 r2 r3 za zb zc none n2 n3 w) (a:Ext w w') (c:za=none->IsBytes w' u r1):ChN w0 base v0 l0 l1 l2 l3 r1 r2 r3 za zb zc (some u) n2 n3 w':=by
 obtain⟨cv,d,e,g,i,j,k⟩:=h.cur;exact⟨h.ext.trans (a.grown.but _),⟨cv,d,e,al g a,i,j.ext a,k.ext a⟩,fun x b l=>by cases b;exact c l⟩
theorem ChN.C3 (h:ChN w0 base v0 l0 l1 l2 l3 r1 r2 r3 za zb zc n1 none n3 w) (a:Ext w w') (d:w'.ownsRow w.heap.size 5 1 u r2.length (U8s r2)) (e:r2.length<=1000000000):ChN w0 base v0 l0 l1 l2 l3 r1 r2 r3 za zb zc n1 (some u) n3 w':=by
 obtain⟨cv,g,i,c,j,o,k⟩:=h.cur;exact⟨h.ext.trans (a.grown.but _),⟨cv,g,i,al c a,j,AuxO.new (n:=0) c a d e,k.ext a⟩,fun x b l=>IsBytes.ext (h.one x b l) a⟩
theorem ChN.DI (h:ChN w0 base v0 l0 l1 l2 l3 r1 r2 r3 za zb zc n1 n2 none w) (a:Ext w w') (d:w'.ownsRow w.heap.size 5 1 u r3.length (U8s r3)) (e:r3.length<=1000000000):ChN w0 base v0 l0 l1 l2 l3 r1 r2 r3 za zb zc n1 n2 (some u) w':=by
 obtain⟨cv,g,i,c,j,k,o⟩:=h.cur;exact⟨h.ext.trans (a.grown.but _),⟨cv,g,i,al c a,j,k.ext a,AuxO.new (n:=0) c a d e⟩,fun x b l=>IsBytes.ext (h.one x b l) a⟩
theorem ChN.CG (h:ChN w0 base v0 l0 (l0++r1) l2 l3 r1 r2 r3 none zb zc n1 n2 n3 w) (e:n1=some u) (i:base<=w0.heap.size) (D:l0.length<=100000000) (j:r1.length<=100000000) :
  ∃v' w',(Builtin.append_ #[37,37] 37 #[v0,u]).run Tryz.prog w=.ok v' w'/\ChN w0 base v0 l0 (l0++r1) l2 l3 r1 r2 r3 (some v') zb zc n1 n2 n3 w':=by
 obtain⟨cv,d,k,l,a,o,p⟩:=h.cur;rcases k with⟨-,q,t,rfl,rfl⟩ | ⟨h,-⟩ | ⟨h,-⟩ | ⟨h,-⟩
 .obtain ⟨v',w',y,z,b,c⟩:=gL base 37 cv d l u r1 (h.one u e rfl) (by omega) (Nat.le_trans i h.size);obtain⟨A,B,-⟩:=fL (g:=0) h.ext a b c;exact⟨v',w',y,⟨A,⟨v',d++r1,.inr (.inl ⟨rfl,q,t,rfl⟩),z,B,o.step b c,p.step b c⟩,fun x _ C=>by cases C⟩⟩
 .cases h
 iterate 2
  .exact absurd rfl h
theorem ChN.CH (h:ChN w0 base v0 l0 l1 (l1++r2) l3 r1 r2 r3 za none zc n1 n2 n3 w) (l:n2=some x) (b:za=some u) (o:base<=w0.heap.size) (E:l1.length<=100000000) (p:r2.length<=100000000) :
  ∃v' w',(Builtin.append_ #[37,37] 37 #[u,x]).run Tryz.prog w=.ok v' w'/\ChN w0 base v0 l0 l1 (l1++r2) l3 r1 r2 r3 za (some v') zc n1 n2 n3 w':=by
 obtain⟨cv,i,q,t,c,j,y⟩:=h.cur;rcases q with⟨a,-⟩ | ⟨a,-,z,rfl⟩ | ⟨-,a,-⟩ | ⟨-,a,-⟩
 .rw [b]at a;cases a
 .rw [b]at a;cases a;obtain⟨v',w',A,B,d,e⟩:=gL base 37 u i t x r2 (j x l).1 (by omega) (Nat.le_trans o h.size);obtain⟨C,D,-⟩:=fL (g:=0) h.ext c d e;exact⟨v',w',A,⟨C,⟨v',i++r2,.inr (.inr (.inl ⟨by rw[b];simp,rfl,z,rfl⟩)),B,D,j.step d e,y.step d e⟩,fun x _ k=>by rw[b]at k;cases k⟩⟩
 .cases a
 .exact absurd rfl a
theorem ChN.DF (h:ChN w0 base v0 l0 l1 l2 (l2++r3) r1 r2 r3 za zb none n1 n2 n3 w) (l:n3=some x) (b:zb=some u) (o:base<=w0.heap.size) (E:l2.length<=100000000) (p:r3.length<=100000000) :
  ∃v' w',(Builtin.append_ #[37,37] 37 #[u,x]).run Tryz.prog w=.ok v' w'/\ChN w0 base v0 l0 l1 l2 (l2++r3) r1 r2 r3 za zb (some v') n1 n2 n3 w':=by
 obtain⟨cv,i,q,t,c,y,j⟩:=h.cur;rcases q with⟨-,a,-⟩ | ⟨-,a,-⟩ | ⟨k,a,-,rfl⟩ | ⟨-,-,a,-⟩
 iterate 2
  .rw [b]at a;cases a
 .rw [b]at a;cases a;obtain⟨v',w',z,A,d,e⟩:=gL base 37 u i t x r3 (j x l).1 (by omega) (Nat.le_trans o h.size);obtain⟨B,C,-⟩:=fL (g:=0) h.ext c d e;exact⟨v',w',z,⟨B,⟨v',i++r3,.inr (.inr (.inr ⟨k,by rw[b];simp,rfl,rfl⟩)),A,C,y.step d e,j.step d e⟩,fun x _ D=>absurd D k⟩⟩
 .cases a
theorem ChN.C1 {s:B8} (h:ChN w0 base v0 l0 l1 l2 (l2++s) r1 r2 r3 za zb none n1 n2 n3 w) (b:zb=some u) (k:base<=w0.heap.size) (D:l2.length<=100000000) (l:s.length<=100000000) :
  ∃v' w',(Builtin.append_ #[37,9] 37 #[u,S8 s]).run Tryz.prog w=.ok v' w'/\ChN w0 base v0 l0 l1 l2 (l2++s) r1 r2 r3 za zb (some v') n1 n2 n3 w':=by
 obtain⟨cv,i,o,p,c,q,t⟩:=h.cur;rcases o with⟨-,a,-⟩ | ⟨-,a,-⟩ | ⟨j,a,-,rfl⟩ | ⟨-,-,a,-⟩
 iterate 2
  .rw [b]at a;cases a
 .rw [b]at a;cases a;obtain⟨v',w',y,z,d,e⟩:=mW base u i p s (by omega) (Nat.le_trans k h.size);obtain⟨A,B,-⟩:=fL (g:=0) h.ext c d e;exact⟨v',w',y,⟨A,⟨v',i++s,.inr (.inr (.inr ⟨j,by rw[b];simp,rfl,rfl⟩)),z,B,q.step d e,t.step d e⟩,fun x _ C=>absurd C j⟩⟩
 .cases a
theorem ChN.CD (h:ChN w0 base v0 l0 l1 l2 l3 r1 r2 r3 za zb none n1 n2 n3 w) (b:zb=some u):Ow base w u l2/\Near w0 v0 u:=by
 obtain⟨cv,g,c,d,e,-⟩:=h.cur;rcases c with⟨-,a,-⟩ | ⟨-,a,-⟩ | ⟨-,a,-,rfl⟩ | ⟨-,-,a,-⟩
 iterate 2
  .rw [b]at a;cases a
 .rw [b]at a;cases a;exact⟨d,e⟩
 .cases a
theorem ChN.CQ (h:ChN w0 base v0 l0 l1 l2 l3 r1 r2 r3 za zb zc n1 n2 n3 w) (b:zc=some u):Ow base w u l3/\Near w0 v0 u:=by
 obtain⟨cv,g,c,d,e,-⟩:=h.cur;rcases c with⟨-,-,a,-⟩ | ⟨-,-,a,-⟩ | ⟨-,-,a,-⟩ | ⟨-,-,a,rfl⟩
 iterate 3
  .rw [b]at a;cases a
 .rw [b]at a;cases a;exact⟨d,e⟩
end
end
section
open Go Go.RowKit
theorem rD (w:World) (c:UInt8):(w.alloc (.cells #[.int .u8 c.toNat] 5)).ownsRow w.heap.size 5 1 (.slice (some ⟨w.heap.size,0,none⟩) 1 1) 1 (U8s [c]):=World.ownsRow_lit w _ 1 (Nat.le_refl _) (by decide) rfl
theorem wS (w:World) (c:UInt8):IsBytes (w.alloc (.cells #[.int .u8 c.toNat] 5)) (.slice (some ⟨w.heap.size,0,none⟩) 1 1) [c]:=by
 unfold IsBytes;exact Row.BM (rD w c) (by simp)
theorem pO {w:World} {a:Nat} {v:Value} {l:B8} (h:w.ownsRow a 5 1 v l.length (U8s l)) (b:l.length<=1000000000):IsBytes w v l:=by
 unfold IsBytes;exact Row.BM h (by omega)
theorem jn (v:Value) (o:Ob) (w:World) (hv:IsOb w v o) (hs:dm o) :
  Calls Tryz.prog 86 #[v] w fun e B=>(∃u,e=.returned (.tuple #[u,.int .i64 (aT o).2])/\Ow w.heap.size B u (aT o).1)/\Ext w B:=by
 have ef:=hv;obtain⟨vd,vi,vp,rfl,hd,hi,hp⟩:=hv;obtain⟨wa,a'⟩:∃wa,wa=w.alloc (.cells #[.int .i64 o.kind,vd,vi,S8 o.tree,vp,.int .i64 o.BL,.int .i64 o.I,S8 o.msg] 95):=⟨_,rfl⟩;have b4:Ext w wa:=by rw[a'];exact(Ext.refl _).alloc _
 have bd:wa.heap[w.heap.size]? = some (.cells #[.int .i64 o.kind,vd,vi,S8 o.tree,vp,.int .i64 o.BL,.int .i64 o.I,S8 o.msg] 95 (0,0)):=by rw[a'];exact ab _ _
 obtain⟨gb,fr⟩:∃gb,w.heap.size=gb:=⟨_,rfl⟩;have bh:Hid (Calls Tryz.prog 145 #[obV o vd vi vp] wa fun e B=>e=.returned (.bool (bN o))/\Ext wa B):=y9 _ o wa (ef.ext b4) hs;have HD:Hid (IsBytes w vd o.data):=hd;have HI:Hid (IsItms w vi o.items):=hi;have HP:Hid (IsStrs w vp o.parents):=hp;obtain⟨da,dc,rfl,-,-,-,-⟩:=hd.get;obtain⟨ia,ic,rfl,i1,i2,i3,eg⟩:=hi.get;have eh:Hid _:=eg;obtain⟨pa,pc,rfl,p1,p2,p3,ek⟩:=hp.get;have eo:Hid _:=ek;obtain⟨m0,b5⟩:∃m,bN o=m:=⟨_,rfl⟩;rw[b5]at bh;have ad:Hid _:=b5;unfold obV at bh;rw[fr]at bd;have fs:Hid _:=bd;have ft:Hid (Ext w wa):=b4;have fu:Hid _:=a';obtain⟨c0,c1,c2,c3,c4,c5,c6,c7⟩:=ag bd;obtain⟨⟨qb,qe⟩,hq⟩:∃q,aT o=q:=⟨_,rfl⟩;rw[hq];have HQ:Hid _:=hq;clear ef hd hi hp eg ek hs b5 bd b4 a' hq;go_enter Tryz.func86,Tryz.ntmps86;go_upto_region 1 with fail;rw[<-fu.out];go_wp2_with fail;go_at_call 145;refine Calls.mono bh.out ?_;rintro e9 h ⟨rfl,b6⟩;have H:Hid (Ext w h):=ft.out.trans b6;have b7:Hid _:=Ext.row b6 fs.out;have gs:gb<h.heap.size:=(Array.getElem?_eq_some_iff.1 b7.out).1;obtain⟨d0,d1,d2,d3,d4,d5,d6,d7⟩:=ag b7.out;clear b6 bh
 cases m0 with
 | false =>
  obtain⟨rfl,rfl⟩:qb=[]/\qe=1:=by
   have A:=HQ.out;unfold aT at A;rw[ad.out]at A;exact⟨(Prod.mk.inj A).1.symm,(Prod.mk.inj A).2.symm⟩
  go_wp2;go_ret2;exact⟨⟨_,rfl,World.ownsRow_nil _ _ _ _⟩,H.out⟩
 | true =>
  obtain⟨er,rfl⟩:qb=ez o/\qe=0:=by
   have A:=HQ.out;unfold aT at A;rw[ad.out,if_pos rfl]at A;exact⟨(Prod.mk.inj A).1.symm,(Prod.mk.inj A).2.symm⟩
  have es:Hid _:=er;clear er HQ;clear c0 c1 c2 c3 c4 c5 c6 c7;obtain⟨ev,X,b,r,a,p,g,I⟩:=o;have t:=kG ad.out;have O:Hid (qb=ez ⟨ev,X,b,r,a,p,g,I⟩):=es.out;clear es;dsimp only at t d0 d1 d2 d3 d4 d5 d6 d7 i1 i2 p1 p2 eh eo HD HI HP b7;rcases t with rfl | rfl | rfl
  .skip;have g0:X.length<=20000:=by
    have A:=ad.out;unfold bN at A;rw[if_pos rfl]at A;simp only[Bool.and_eq_true,decide_eq_true_eq]at A;exact A.1
   have au:Hid (qb=[1]++X):=O.out;have P:Hid (Ow h.heap.size (h.alloc (.cells #[.int .u8 1] 5)) (.slice (some ⟨h.heap.size,0,none⟩) 1 1) [1]):=World.ownsRow_lit h _ 1 (Nat.le_refl _) (by decide) rfl
   go_wp2_with (at_builtin;go_must (refine jh rfl _ _ rfl rfl h.heap.size _ [1] rfl P.out _ X rfl (IsBytes.ext HD.out (H.out.alloc _)) (by simp;omega) (by simp) ?_;intro K w2 L bk ex))
   go_ret2;exact⟨⟨_,rfl,by rw[au.out];exact L.mono H.out.size⟩,H.out.trans (ai ((Ext.refl h).alloc _) P.out bk)⟩
  .skip;have b8:b.length<=256/\∀x∈b,bJ x=true:=by
    have A:=ad.out;unfold bN at A;rw[if_neg (show ¬(2:Int)=1 by decide),if_pos rfl]at A;simp only[Bool.and_eq_true,cC,List.all_eq_true,decide_eq_true_eq]at A;exact⟨A.2.1.2.2,A.2.1.1⟩
   obtain⟨g1,ey⟩:=b8;have eE:Hid _:=ey;have au:Hid (qb=[2]++am b.length++b.flatMap bp):=by
    unfold Hid;rw[O.out];show UInt8.ofNat 2::(am b.length++b.flatMap bp)=_;simp
   have fv:=bF (n:=b.length) (by unfold be;omega);have P:Hid (Ow h.heap.size (h.alloc (.cells #[.int .u8 2] 5)) (.slice (some ⟨h.heap.size,0,none⟩) 1 1) [2]):=World.ownsRow_lit h _ 1 (Nat.le_refl _) (by decide) rfl;have bl:Hid (Ext h (h.alloc (.cells #[.int .u8 2] 5))):=(Ext.refl h).alloc _;clear ey O;go_wp2_with fail;go_at_call 146;refine(jm b.length _).mono ?_;rintro e9 b' ⟨⟨vn,rfl,ca⟩,cb⟩;rw[iP _ (by unfold be;omega)]at ca;have eS:Hid (IsBytes b' vn (am b.length)):=pO ca (by omega);have a0:Hid (Ow h.heap.size b' (.slice (some ⟨h.heap.size,0,none⟩) 1 1) [2]):=al P.out cb;have cc:Hid (Ext h b'):=bl.out.trans cb;have e0:=cc.out.size;clear ca cb P bl
   go_wp2_with (at_builtin;go_must (refine jh rfl _ _ rfl rfl h.heap.size _ [2] rfl a0.out _ (am b.length) rfl eS.out (by simp;omega) e0 ?_;intro v2 w2 L bk ex))
   have e1:Hid (Ow h.heap.size w2 v2 ([2]++am b.length)):=L;have ce:Hid (Ext h w2):=ai cc.out a0.out bk;clear L bk ex a0 eS cc e0;go_loopw [4,5] (fun v i wr=>∃k:Nat,k<=b.length/\i=.int .i64 k/\Hid (Ow h.heap.size wr v ([2]++am b.length++(b.take k).flatMap bp))/\Hid (Ext h wr)) (fun _ i _=>b.length - (intOf i).toNat)
   case atStart=>exact⟨0,Nat.zero_le _,rfl,by unfold Hid;simpa using e1.out,ce⟩
   case round =>
   obtain⟨k,t,rfl,HO,Q⟩:=hrel;have e2:=Q.out.cell d2
   by_cases a1:k<b.length
   .obtain ⟨x,M⟩:∃x,b[k]? = some x:=⟨_,List.getElem?_eq_getElem a1⟩;have e3:=eE.out x (List.mem_of_getElem? M);have e4:=kI b k eE.out;have cl:Hid ((b.take (k+1)).flatMap bp=(b.take k).flatMap bp++bp x):=by
     unfold Hid;rw[List.take_add_one,M];simp
    obtain⟨bb,oo,fx,e5,e6,e7⟩:=eh.out k x M;subst fx;have y0:=Q.out.cell (H.out.cell e5);have y1:=Q.out.cell (H.out.cell e6);have y2:=Q.out.cell (H.out.cell e7);obtain⟨Y,S⟩:∃l,[2]++am b.length++(b.take k).flatMap bp=l:=⟨_,rfl⟩;have e8:Y.length<=60000:=by rw[<-S];simp only[List.length_append,List.length_cons,List.length_nil];omega
    have cn:Hid _:=S;rw[S]at HO;clear S e4;obtain⟨Z,name,id⟩:=x;have a2:=e3;unfold bJ at a2;simp only[Bool.and_eq_true,decide_eq_true_eq]at a2;obtain⟨fa,fb,fc,co⟩:=a2;have g2:=kF fc;have fe:=tJ fa fb;obtain⟨cm,cq⟩:∃c,UInt8.ofNat Z.toNat=c:=⟨_,rfl⟩;rw[cq]at fe;have gv:=(gp co).1;have cs:id.length<=30000000:=by have:=(kX co).1;omega
    have fz:Hid (bp ⟨Z,name,id⟩=[cm]++am name.length++(name++aQ id)):=by
     unfold Hid bp;rw[cq];simp
    have g4:=bF (n:=name.length) (by unfold be;omega);dsimp only at y0 y1 y2;clear e3 M e5 e6 e7 fa fb fc co cq;go_upto_region 13 with fail;obtain⟨w4,bo⟩:∃w4,w4=wr.alloc (.cells #[.int .i64 Z,S8 name,S8 id] 138):=⟨_,rfl⟩;have ct:Ext wr w4:=by rw[bo];exact(Ext.refl _).alloc _
    have bq:w4.heap[wr.heap.size]? = some (.cells #[.int .i64 Z,S8 name,S8 id] 138 (0,0)):=by rw[bo];exact ab _ _
    rw[<-bo];obtain⟨gi,ff⟩:∃gi,wr.heap.size=gi:=⟨_,rfl⟩;have cu:Hid (Ow h.heap.size w4 u4 Y):=al HO.out ct;have T:Hid (u4.ownBlock≠some gi):=fun e=>by have:=(HO.out.lt _ e).2;omega
    have f2:Hid (gi<w4.heap.size):=by
     have:=(Array.getElem?_eq_some_iff.1 bq).1;unfold Hid;omega
    rw[ff]at bq ⊢;obtain⟨z0,z1,z2⟩:=bE bq;have cv:Hid (Ext h w4):=Q.out.trans ct;have a3:=cv.out.size;clear bo ct bq ff y0 y1 y2 HO Q e2;apply aI 14 (fun z B=>ChN w4 h.heap.size u4 Y (Y++[cm]) (Y++[cm]++am name.length) (Y++[cm]++am name.length++name) [cm] (am name.length) [] (z 5) (z 10) (z 13) (z 4) (z 9) none B) [false,false,false,false,true,true,false,false,false,true,true,false,false,true] [_,_,_,.int .u8 cm.toNat,undef,undef,_,_,_,undef,undef,_,_,undef] [none,none,none,none,none,none,none,none,none,none,none,none,none,none] [[],[],[1],[2],[3],[0,4],[],[6],[7],[8],[5,9],[],[11],[10,12]] (by kernel_rfl) (by kernel_rfl) rfl
    .exact ChN.start cu.out ⟨rfl,rfl,rfl,Nat.le_refl _,fun _ _=>rfl⟩
    .simp (maxSteps:=1000000)only[cY,cG,bP,cA,cN,List.getD_cons_zero,List.getD_cons_succ,Bool.false_eq_true,if_false,if_true,and_true,true_and,forall_const,Nat.zero_add,Nat.reduceAdd,List.take_succ_cons,List.take_zero,aa,Act.put,List.setIfInBounds_toArray,List.set_cons_zero,List.set_cons_succ];and_intros
     iterate 4 · intro j z G d;intros;rename_i y;have f0:=d.cell T.out z0;have f1:=d.cell T.out z1;go_simp;exact y _ _ d rfl
     .intro j z G d F t R y;rw[F]at d;go_simp;exact y _ _ (d.C6 ((Ext.refl _).alloc _) fun _=>wS _ cm)
     .intro j z G d F t R y;obtain⟨C,D⟩:=t;rw[F]at d;obtain⟨K,B,U,E⟩:=d.CG D a3 (by omega) (by simp);apply cH (.tmp 43) (.tmp 47) 37 (v:=j 0) (xv:=j 4) (v':=K) (w':=B)
      iterate 4
       .rfl
      .rw [C];exact U
      .exact y _ _ E
     iterate 3 · intro j z G d;intros;rename_i y;have f0:=d.cell T.out z0;have f1:=d.cell T.out z1;go_simp;exact y _ _ d rfl
     .intro j z G d F t R y;rw[F]at d;go_simp;exact(jm name.length G).mono (by rintro e' B ⟨⟨K,rfl,h1⟩,M⟩;rw[iP _ (by unfold be;omega)]at h1;exact⟨_,rfl,y _ _ (d.C3 M h1 (by omega))⟩)
     .intro j z G d F t R y;obtain⟨C,D⟩:=t;rw[F]at d;obtain⟨K,B,U,E⟩:=d.CH D C a3 (by simp;omega) (by omega);apply cH (.tmp 48) (.tmp 52) 37 (v:=j 5) (xv:=j 9) (v':=K) (w':=B)
      iterate 4
       .rfl
      .exact U
      .exact y _ _ E
     iterate 2 · intro j z G d;intros;rename_i y;have f0:=d.cell T.out z0;have f1:=d.cell T.out z1;go_simp;exact y _ _ d rfl
     .intro j z G d F t R y;obtain⟨C,D⟩:=t;rw[F]at d;obtain⟨K,B,U,E⟩:=d.C1 C a3 (by simp only[List.length_append,List.length_cons,List.length_nil];omega) (by omega);apply et (.tmp 53) (.tmp 55) 37 9 (v:=j 10) (xv:=j 12) (v':=K) (w':=B)
      iterate 4
       .rfl
      .rw [D];exact U
      .exact y _ _ E
    intro j w5 a4 t;simp only[cX,List.getD_cons_zero,List.getD_cons_succ,Bool.false_eq_true,if_false,if_true]at a4;simp only[bU,Nat.zero_add,Nat.reduceAdd,and_true]at t;simp(maxSteps:=1000000)only[List.drop_succ_cons,List.drop_zero,Nat.zero_add,Nat.reduceAdd,List.take_succ_cons,List.take_zero,aa,Act.put,List.setIfInBounds_toArray,List.set_cons_zero,List.set_cons_succ,t];clear t;generalize j 4=x4 at *;generalize j 5=x5 at *;generalize j 9=x9 at *;generalize j 10=fi at *;generalize j 13=br at *;obtain⟨fj,f8⟩:=a4.CQ rfl;have cx:Hid (Ow h.heap.size w5 br (Y++[cm]++am name.length++name)):=fj;have t2:=a4.cell T.out z2;have c8:Hid (Ext h w5):=Below.grown cv.out a4.ext a3 (fun k t=>(cu.out.lt k t).1);have f9:=c8.out.size;obtain⟨L1,bs⟩:∃l,Y++[cm]++am name.length++name=l:=⟨_,rfl⟩;have gw:L1.length<=70000:=by
     rw[<-bs];simp only[List.length_append,List.length_cons,List.length_nil];omega
    have f':Hid _:=bs;rw[bs]at cx;clear bs a4 z0 z1 z2 cu cv T f2 a3 fj f8;go_wp2_with fail;go_at_call 147;refine(m6 id _ cs).mono ?_;rintro e9 w6 ⟨⟨v6,rfl,a5⟩,V⟩;have c9:Hid (IsBytes w6 v6 (aQ id)):=a5;have a6:Hid (Ow h.heap.size w6 br L1):=al cx.out V;have a7:Hid (Ext h w6):=c8.out.trans V;have c':=a7.out.size;clear a5 V cx c8 f9 t2
    go_wp2_with (at_builtin;go_must (refine jh rfl _ _ rfl rfl h.heap.size _ L1 rfl a6.out _ (aQ id) rfl c9.out (by omega) c' ?_;intro v7 w7 J a8 dk))
    have dl:Hid (Ext h w7):=ai a7.out a6.out a8;have dn:Hid (Ow h.heap.size w7 v7 ([2]++am b.length++(b.take (k+1)).flatMap bp)):=by
     unfold Hid;rw[cl.out,fz.out];have e:[2]++am b.length++((b.take k).flatMap bp++([cm]++am name.length++(name++aQ id)))=L1++aQ id:=by
      rw[<-f'.out,<-cn.out];simp
     rw[e];exact J
    clear J a8 dk;go_wp2_with fail;go_roundw
    case rel=>exact⟨k+1,by omega,by go_num,dn,dl⟩
    case measure=>simp[intOf];omega
   .have dq:k=b.length:=by omega
    have ga:Hid (Ow h.heap.size wr u4 qb):=by
     have A:=HO.out;rw[dq,List.take_length]at A;unfold Hid;rw[au.out];exact A
    clear t;go_wp2;go_ret2;exact⟨⟨_,rfl,ga.out.mono H.out.size⟩,H.out.trans Q.out⟩
  .skip;have b8:av r=true/\((a.all av=true/\a.length<=2)/\((0<=p/\p<=1099511627776)/\((0<=g/\g<=255)/\I.length<=200))):=by
    have A:=ad.out;unfold bN at A;rw[if_neg (show ¬(3:Int)=1 by decide),if_neg (show ¬(3:Int)=2 by decide),if_pos rfl]at A;simp only[Bool.and_eq_true,dC,dM,decide_eq_true_eq]at A;exact⟨A.2.2.1,⟨A.2.2.2.1.1,A.2.2.2.1.2.2⟩,A.2.2.2.2.1,A.2.2.2.2.2.1,A.2.2.2.2.2.2.2⟩
   obtain⟨ds,⟨fk,fv⟩,⟨g5,g6⟩,⟨g7,g8⟩,g9⟩:=b8;have fl:Hid _:=fk;obtain⟨cp,d8⟩:∃c,UInt8.ofNat a.length=c:=⟨_,rfl⟩;have g':IntKind.u8.wrap (a.length:Int)=(cp.toNat:Int):=by
    rw[<-d8,IntKind.wrap_u8,UInt8.toNat_ofNat'];omega
   have au:Hid (qb=[3]++aQ r++[cp]++a.flatMap aQ++am p.toNat++am g.toNat++am I.length++I):=by
    unfold Hid;rw[O.out,<-d8];show UInt8.ofNat 3::(aQ r++(UInt8.ofNat a.length::(a.flatMap aQ++(am p.toNat++(am g.toNat++(am I.length++I))))))=_;simp
   have gx:=(gp ds).1;have gc:r.length<=30000000:=by have:=(kX ds).1;omega
   clear ds fk d8 O;obtain⟨wL,bt⟩:∃wL,wL=h.alloc (.cells #[.int .u8 3] 5):=⟨_,rfl⟩;have a9:Ext h wL:=by rw[bt];exact(Ext.refl _).alloc _
   have P:Hid (Ow h.heap.size wL (.slice (some ⟨h.heap.size,0,none⟩) 1 1) [3]):=by rw[bt];exact World.ownsRow_lit h _ 1 (Nat.le_refl _) (by decide) rfl
   have bl:Hid (Ext h wL):=a9;have l3:=a9.cell d3;have l4:=a9.cell d4;have d9:=a9.size;have bx:Hid ((Value.slice (some ⟨h.heap.size,0,none⟩) 1 1).ownBlock≠some gb):=fun e=>by
    simp only[Value.ownBlock,Option.some.injEq]at e;omega
   have gd:Hid _:=bt;clear a9 bt;go_upto_region 16 with fail;rw[<-gd.out];have g3:=l3;apply aI 11 (fun z B=>ChN wL h.heap.size (.slice (some ⟨h.heap.size,0,none⟩) 1 1) [3] ([3]++aQ r) ([3]++aQ r++[cp]) [] (aQ r) [cp] [] (z 4) (z 10) none (z 3) (z 9) none B) [false,false,false,true,true,false,false,false,false,true,true] [_,_,_,undef,undef,_,_,_,.int .u8 cp.toNat,undef,undef] [none,none,none,none,none,none,none,none,none,none,none] [[],[],[1],[2],[0,3],[],[5],[6],[7],[8],[4,9]] (by kernel_rfl) (by kernel_rfl) rfl
   .exact ChN.start P.out ⟨rfl,rfl,rfl,Nat.le_refl _,fun _ _=>rfl⟩
   .simp (maxSteps:=1000000)only[cY,cG,bP,cA,cN,List.getD_cons_zero,List.getD_cons_succ,Bool.false_eq_true,if_false,if_true,and_true,true_and,forall_const,Nat.zero_add,Nat.reduceAdd,List.take_succ_cons,List.take_zero,aa,Act.put,List.setIfInBounds_toArray,List.set_cons_zero,List.set_cons_succ];and_intros
    iterate 3 · intro j z G d;intros;rename_i y;have f3:=d.cell bx.out l3;have f4:=d.cell bx.out l4;go_simp;exact y _ _ d rfl
    .intro j z G d F t R y;rw[F]at d;go_simp;exact(m6 r G gc).mono (by rintro e' B ⟨⟨K,rfl,h1⟩,M⟩;exact⟨_,rfl,y _ _ (d.C6 M fun _=>h1)⟩)
    .intro j z G d F t R y;obtain⟨C,D⟩:=t;rw[F]at d;obtain⟨K,B,U,E⟩:=d.CG D d9 (by simp) (by omega);apply cH (.tmp 64) (.tmp 67) 37 (v:=j 0) (xv:=j 3) (v':=K) (w':=B)
     iterate 4
      .rfl
     .rw [C];exact U
     .exact y _ _ E
    iterate 4 · intro j z G d;intros;rename_i y;have f3:=d.cell bx.out l3;have f4:=d.cell bx.out l4;go_simp;exact y _ _ d rfl
    .intro j z G d F t R y;rw[F]at d;go_simp;exact y _ _ (d.C3 ((Ext.refl _).alloc _) (rD _ cp) (by simp))
    .intro j z G d F t R y;obtain⟨C,D⟩:=t;rw[F]at d;obtain⟨K,B,U,E⟩:=d.CH D C d9 (by simp;omega) (by simp);apply cH (.tmp 68) (.tmp 73) 37 (v:=j 4) (xv:=j 9) (v':=K) (w':=B)
     iterate 4
      .rfl
     .exact U
     .exact y _ _ E
   intro j w2 bS t;simp only[cX,List.getD_cons_zero,List.getD_cons_succ,Bool.false_eq_true,if_false,if_true]at bS;simp only[bU,Nat.zero_add,Nat.reduceAdd,and_true]at t;simp(maxSteps:=1000000)only[List.drop_succ_cons,List.drop_zero,Nat.zero_add,Nat.reduceAdd,List.take_succ_cons,List.take_zero,aa,Act.put,List.setIfInBounds_toArray,List.set_cons_zero,List.set_cons_succ,t];clear t;generalize j 3=x3 at *;generalize j 4=x4 at *;generalize j 9=x9 at *;generalize j 10=fi at *;have ce:Hid (Ext h w2):=Below.grown bl.out bS.ext d9 (fun k t=>(P.out.lt k t).1);have gf:Hid (Ow h.heap.size w2 fi ([3]++aQ r++[cp])):=(bS.CD rfl).1;clear bS l3 l4 g3;go_wp2_with fail;go_loopw [4,7] (fun v i wr=>∃k:Nat,k<=a.length/\i=.int .i64 k/\Hid (Ow h.heap.size wr v ([3]++aQ r++[cp]++(a.take k).flatMap aQ))/\Hid (Ext h wr)) (fun _ i _=>a.length - (intOf i).toNat)
   case atStart=>exact⟨0,Nat.zero_le _,rfl,by unfold Hid;simpa using gf.out,ce⟩
   case round =>
   obtain⟨k,t,rfl,HO,Q⟩:=hrel;have m4:=Q.out.cell d4;have b0:Hid (([3]++aQ r++[cp]++(a.take k).flatMap aQ).length<=1000):=by
    unfold Hid;have A:=kJ a k fl.out;simp only[List.length_append,List.length_cons,List.length_nil];omega
   by_cases a1:k<a.length
   .obtain ⟨x,M⟩:∃x,a[k]? = some x:=⟨_,List.getElem?_eq_getElem a1⟩;obtain⟨bb,oo,gh,hc⟩:=eo.out k a1;subst gh;have y1:=Q.out.cell (H.out.cell (hc k a1));rw[show a.getD k []=x by rw[List.getD_eq_getElem?_getD,M];rfl]at y1;have d':av x=true:=List.all_eq_true.1 fl.out x (List.mem_of_getElem? M);have gl:x.length<=30000000:=by have:=(kX d').1;omega
    have gy:=(gp d').1;have cl:Hid ((a.take (k+1)).flatMap aQ=(a.take k).flatMap aQ++aQ x):=by
     unfold Hid;rw[List.take_add_one,M];simp
    clear M hc d';go_wp2_with fail;go_at_call 147;refine(m6 x _ gl).mono ?_;rintro e9 w6 ⟨⟨v6,rfl,a5⟩,V⟩;have c9:Hid (IsBytes w6 v6 (aQ x)):=a5;have a6:Hid (Ow h.heap.size w6 u4 ([3]++aQ r++[cp]++(a.take k).flatMap aQ)):=al HO.out V;have a7:Hid (Ext h w6):=Q.out.trans V;have c':=a7.out.size;clear a5 V HO Q
    go_wp2_with (at_builtin;go_must (refine jh rfl _ _ rfl rfl h.heap.size _ _ rfl a6.out _ (aQ x) rfl c9.out (by have:=b0.out;omega) c' ?_;intro v7 w7 J a8 dk))
    have dl:Hid (Ext h w7):=ai a7.out a6.out a8;have dn:Hid (Ow h.heap.size w7 v7 ([3]++aQ r++[cp]++(a.take (k+1)).flatMap aQ)):=by
     unfold Hid;rw[cl.out,<-List.append_assoc];exact J
    clear J a8 dk;go_wp2_with fail;go_roundw
    case rel=>exact⟨k+1,by omega,by go_num,dn,dl⟩
    case measure=>simp[intOf];omega
   .have dq:k=a.length:=by omega
    subst dq;rw[List.take_length]at HO b0;have n5:=Q.out.cell d5;have n6:=Q.out.cell d6;have n7:=Q.out.cell d7;obtain⟨Y,S⟩:∃l,[3]++aQ r++[cp]++a.flatMap aQ=l:=⟨_,rfl⟩;rw[S]at HO b0;have cn:Hid _:=S;have e8:=b0.out;have N:Hid (u4.ownBlock≠some gb):=fun e=>by have:=(HO.out.lt _ e).1;omega
    have b1:=Q.out.size;have ha:=bF (n:=p.toNat) (by unfold be;omega);have hb:=bF (n:=g.toNat) (by unfold be;omega);have he:=bF (n:=I.length) (by unfold be;omega);clear S t;go_upto_region 21 with fail;apply aI 14 (fun z B=>ChN wr h.heap.size u4 Y (Y++am p.toNat) (Y++am p.toNat++am g.toNat) (Y++am p.toNat++am g.toNat++am I.length) (am p.toNat) (am g.toNat) (am I.length) (z 4) (z 8) (z 13) (z 3) (z 7) (z 12) B) [false,false,false,true,true,false,false,true,true,false,false,false,true,true] [_,_,_,undef,undef,_,_,undef,undef,_,_,_,undef,undef] [none,none,none,none,none,none,none,none,none,none,none,none,none,none] [[],[],[1],[2],[0,3],[],[5],[6],[4,7],[],[9],[10],[11],[8,12]] (by kernel_rfl) (by kernel_rfl) rfl
    .exact ChN.start HO.out ⟨rfl,rfl,rfl,Nat.le_refl _,fun _ _=>rfl⟩
    .simp (maxSteps:=1000000)only[cY,cG,bP,cA,cN,List.getD_cons_zero,List.getD_cons_succ,Bool.false_eq_true,if_false,if_true,and_true,true_and,forall_const,Nat.zero_add,Nat.reduceAdd,List.take_succ_cons,List.take_zero,aa,Act.put,List.setIfInBounds_toArray,List.set_cons_zero,List.set_cons_succ];and_intros
     iterate 3 · intro j z G d;intros;rename_i y;have f5:=d.cell N.out n5;have f6:=d.cell N.out n6;have f7:=d.cell N.out n7;go_simp;exact y _ _ d rfl
     .intro j z G d F t R y;rw[F]at d;go_simp;exact(jm p G).mono (by rintro e' B ⟨⟨K,rfl,h1⟩,M⟩;rw[lY _ (by omega) (by unfold be;omega)]at h1;exact⟨_,rfl,y _ _ (d.C6 M fun _=>pO h1 (by omega))⟩)
     .intro j z G d F t R y;obtain⟨C,D⟩:=t;rw[F]at d;obtain⟨K,B,U,E⟩:=d.CG D b1 (by omega) (by omega);apply cH (.tmp 90) (.tmp 93) 37 (v:=j 0) (xv:=j 3) (v':=K) (w':=B)
      iterate 4
       .rfl
      .rw [C];exact U
      .exact y _ _ E
     iterate 2 · intro j z G d;intros;rename_i y;have f5:=d.cell N.out n5;have f6:=d.cell N.out n6;have f7:=d.cell N.out n7;go_simp;exact y _ _ d rfl
     .intro j z G d F t R y;rw[F]at d;go_simp;exact(jm g G).mono (by rintro e' B ⟨⟨K,rfl,h1⟩,M⟩;rw[lY _ (by omega) (by unfold be;omega)]at h1;exact⟨_,rfl,y _ _ (d.C3 M h1 (by omega))⟩)
     .intro j z G d F t R y;obtain⟨C,D⟩:=t;rw[F]at d;obtain⟨K,B,U,E⟩:=d.CH D C b1 (by simp only[List.length_append];omega) (by omega);apply cH (.tmp 94) (.tmp 97) 37 (v:=j 4) (xv:=j 7) (v':=K) (w':=B)
      iterate 4
       .rfl
      .exact U
      .exact y _ _ E
     iterate 3 · intro j z G d;intros;rename_i y;have f5:=d.cell N.out n5;have f6:=d.cell N.out n6;have f7:=d.cell N.out n7;go_simp;exact y _ _ d rfl
     .intro j z G d F t R y;rw[F]at d;go_simp;exact(jm I.length G).mono (by rintro e' B ⟨⟨K,rfl,h1⟩,M⟩;rw[iP _ (by unfold be;omega)]at h1;exact⟨_,rfl,y _ _ (d.DI M h1 (by omega))⟩)
     .intro j z G d F t R y;obtain⟨C,D⟩:=t;rw[F]at d;obtain⟨K,B,U,E⟩:=d.DF D C b1 (by simp only[List.length_append];omega) (by omega);apply cH (.tmp 98) (.tmp 102) 37 (v:=j 8) (xv:=j 12) (v':=K) (w':=B)
      iterate 4
       .rfl
      .exact U
      .exact y _ _ E
    intro j w3 b2 t;simp only[cX,List.getD_cons_zero,List.getD_cons_succ,Bool.false_eq_true,if_false,if_true]at b2;simp only[bU,Nat.zero_add,Nat.reduceAdd,and_true]at t;simp(maxSteps:=1000000)only[List.drop_succ_cons,List.drop_zero,Nat.zero_add,Nat.reduceAdd,List.take_succ_cons,List.take_zero,aa,Act.put,List.setIfInBounds_toArray,List.set_cons_zero,List.set_cons_succ,t];clear t;generalize j 3=x3 at *;generalize j 4=x4 at *;generalize j 7=x7 at *;generalize j 8=x8 at *;generalize j 12=hf at *;generalize j 13=br at *;have ea:Hid (Ext h w3):=Below.grown Q.out b2.ext b1 (fun k t=>(HO.out.lt k t).1);have W:=(b2.CQ rfl).1;obtain⟨L3,b3⟩:∃l,Y++am p.toNat++am g.toNat++am I.length=l:=⟨_,rfl⟩;have gz:L3.length<=1100:=by
     rw[<-b3];simp only[List.length_append];omega
    have gm:Hid _:=b3;rw[b3]at W;have fn:Hid (Ow h.heap.size w3 br L3):=W;have q7:=ea.out.cell d7;have go:=ea.out.size;clear b3 W b2 n5 n6 n7
    go_wp2_with (at_builtin;go_must (refine wy rfl _ _ rfl rfl h.heap.size _ L3 rfl fn.out I rfl (by omega) go ?_;intro K w4 ec gr hg))
    go_ret2;refine⟨⟨_,rfl,?_⟩,H.out.trans (ai ea.out fn.out gr)⟩;have A:=ec.mono H.out.size;rw[au.out,cn.out,gm.out];exact A
end
section
open Go Go.RowKit
theorem BK {b:Nat} (c:UInt8) (e:b<72057594037927936):bits BinOp.or IntKind.i64 (wrap64 ((b:Int)*128)) (((c.toNat%128:Nat):Int))=((c.toNat%128+128*b:Nat):Int):=by
 have g:=Nat.mod_lt c.toNat (show 128>0 by omega);have a:(2:Int) ^ 63=9223372036854775808:=by decide +kernel
 have d:(2:Int) ^ 7=128:=by decide +kernel
 rw[IntWalk.wrap64_in _ (by omega)];have h:=bits_join .i64 63 (by decide) pI 7 ((b:Int)*128) (((c.toNat%128:Nat):Int)) (by omega) (by rw[d];omega) (by rw[a];omega) (by omega) (by rw[d];omega) (by rw[a];omega);rw[h];omega
def kP (b:B8) (p:Nat):Nat×Nat×Int:=if(cO (b.drop p)).2.2=0 then((cO (b.drop p)).1,p+(cO (b.drop p)).2.1,0)else(0,0,(cO (b.drop p)).2.2)
theorem pP {w:World} {b c a:Nat} {l:B8} (p n:Nat) (h:IsBytes w (.slice (some ⟨b,c,none⟩) l.length a) l) (g:p+n<=l.length):IsBytes w (.slice (some ⟨b,c+p,none⟩) n (a - p)) ((l.drop p).take n):=by
 have d:=IsBytes.from p h (by omega) ⟨b,c+p,none⟩ (fun _=>rfl);have e:l.length - p=(l.drop p).length:=by rw[List.length_drop]
 rw[e]at d;exact IsBytes.take d (by rw[List.length_drop];omega)
theorem wT (v:Value) (b:B8) (p:Nat) (w:World) (F:IsBytes w v b) (hp:p<=b.length) :
  Calls Tryz.prog 209 #[v,.int .i64 p] w fun e w'=>e=.returned (.tuple #[.int .i64 (kP b p).1,.int .i64 (kP b p).2.1,.int .i64 (kP b p).2.2])/\Ext w w':=by
 have HV:Hid _:=F;obtain⟨a,c,rfl,l1,l2,l3,hg⟩:=F.get;have HG:Hid _:=hg;obtain⟨d,hd⟩:∃d,b.drop p=d:=⟨_,rfl⟩;have bs:d.length=b.length - p:=by rw[<-hd,List.length_drop]
 have bo:=rl d;obtain⟨q,hq⟩:∃q,kP b p=q:=⟨_,rfl⟩;rw[hq];have S:q=if(cO d).2.2=0 then((cO d).1,p+(cO d).2.1,0)else(0,0,(cO d).2.2):=by rw[<-hq,<-hd];rfl
 have HQ:Hid _:=S;have G:Hid _:=hd;have bt:¬(p:Int)<0:=by omega
 have bx:¬(b.length:Int)<(p:Int):=by omega
 clear F hg hq S hd;go_enter Tryz.func209,Tryz.ntmps209;go_wp2_with fail;go_loopw [7] (fun i wr=>∃k:Nat,k<=cI d/\i=.int .i64 ((p+k:Nat):Int)/\Hid (cI d=k+cI (d.drop k))/\Hid (Ext w wr)) (fun i _=>b.length - (intOf i).toNat)
 case atStart=>exact⟨0,Nat.zero_le _,rfl,(by unfold Hid;simp),Ext.refl _⟩
 case round =>
  obtain⟨k,hk,rfl,HM,r⟩:=hrel;obtain⟨s,hs⟩:∃s,p+k=s:=⟨_,rfl⟩;rw[hs];have bS:s - p=k:=by omega
  by_cases H:s<b.length
  .obtain ⟨x,hx⟩:∃x,b[s]? = some x:=⟨_,List.getElem?_eq_getElem H⟩;have A:d[k]? = some x:=by rw[<-G.out,List.getElem?_drop,hs,hx]
   have T:k<d.length:=by omega
   have I:d.drop k=x::d.drop (k+1):=by
    rw[List.drop_eq_getElem_cons T];rw[List.getElem?_eq_getElem T]at A;rw[Option.some.inj A]
   have l:=HM.out;rw[I,nN]at l;obtain⟨bb,oo,rfl,Q⟩:=HG.out s H;have y1:=r.out.cell (Q s H);rw[show b.getD s 0=x by rw[List.getD_eq_getElem?_getD,hx];rfl]at y1;have U:(s:Int)<(b.length:Int):=by omega
   by_cases h7:127<x.toNat
   .have a7:(127:Int)<(x.toNat:Int):=by omega
    rw[if_pos h7]at l;have u:Hid _:=l;clear l h7 I hx A Q;go_wp2_with fail;go_roundw
    case rel=>exact⟨k+1,by have:=u.out;omega,congrArg (Value.int .i64) (by omega),(by unfold Hid;have:=u.out;omega),r⟩
    case measure=>simp[intOf];omega
   .have a7:¬(127:Int)<(x.toNat:Int):=by omega
    rw[if_neg h7]at l;have u:Hid (cI d=k):=l;have a8:((s:Int)==(b.length:Int))=false:=by rw[beq_eq_false_iff_ne];omega
    have bq:wrap64 ((s:Int) - (p:Int))=(k:Int):=by rw[IntWalk.wrap64_in _ (by omega)];omega
    clear l h7 I hx A Q
    by_cases h9:8<k
    .have a9:(8:Int)<(k:Int):=by omega
     have B:Hid (q=(0,0,4)):=by
      have o:cO d=(0,0,4):=by
       have l:=u.out;unfold cO;rw[if_neg (by omega),if_pos (by omega)]
      unfold Hid;rw[HQ.out,o];rfl
     go_wp2;go_ret3;exact⟨by rw[B.out];rfl,r.out⟩
    have a9:¬(8:Int)<(k:Int):=by omega
    obtain⟨t,ht⟩:∃t,d.take (k+1)=t:=⟨_,rfl⟩;have a':t.length=k+1:=by rw[<-ht,List.length_take];omega
    have HT:Hid _:=ht;clear ht;go_wp2_with fail;go_loopw [8,9] (fun g iv wr=>∃j:Nat,j<=k+1/\iv=.int .i64 ((p:Int)+(j:Int) - 1)/\g=.int .i64 ((dJ (t.drop j):Nat):Int)/\Hid (Ext w wr)) (fun _ iv _=>(intOf iv+1 - (p:Int)).toNat)
    case atStart=>exact⟨k+1,Nat.le_refl _,congrArg (Value.int .i64) (by omega),by rw[List.drop_eq_nil_of_le (by omega)];rfl,r⟩
    case round =>
     obtain⟨j,hj,rfl,rfl,r⟩:=hrel
     cases j with
     | succ j =>
      obtain⟨C,bd⟩:∃C,p+j=C:=⟨_,rfl⟩;rw[show(p:Int)+((j+1:Nat):Int) - 1=(C:Int)by omega];have J:C<b.length:=by omega
      obtain⟨R,K⟩:∃x,b[C]? = some x:=⟨_,List.getElem?_eq_getElem J⟩;obtain⟨_,_,he,Q⟩:=HG.out C J;cases he;have y2:=r.out.cell (Q C J);rw[show b.getD C 0=R by rw[List.getD_eq_getElem?_getD,K];rfl]at y2;have br:=wk R;have V:t.drop j=R::t.drop (j+1):=by
       have W:j<t.length:=by omega
       rw[List.drop_eq_getElem_cons W];have L:t[j]? = some R:=by rw[<-HT.out,List.getElem?_take_of_lt (by omega),<-G.out,List.getElem?_drop,bd,K]
       rw[List.getElem?_eq_getElem W]at L;rw[Option.some.inj L]
      obtain⟨g,n⟩:∃g,dJ (t.drop (j+1))=g:=⟨_,rfl⟩;have X:dJ (t.drop j)=R.toNat%128+128*g:=by rw[V,<-n];rfl
      rw[n];have Y:g<72057594037927936:=by
       have L:=oF (t.drop (j+1));rw[n,List.length_drop,a']at L;have h2:128 ^ (k+1 - (j+1))<=128 ^ 8:=Nat.pow_le_pow_right (by omega) (by omega);have h3:(128:Nat) ^ 8=72057594037927936:=by decide +kernel
       omega
      have Z:=BK R Y;have o:(p:Int)<=(C:Int):=by omega
      have ad:Hid _:=X;have au:Hid _:=Z;clear X Y n V K Q Z;go_wp2_with fail;go_roundw
      case rel=>exact⟨j,by omega,congrArg (Value.int .i64) (by first | omega | (rw[IntWalk.wrap64_in _ (by omega)];omega)),by first | (rw[ad.out,<-au.out];done) | (rw[ad.out,<-au.out,Int.natCast_emod];rfl),r⟩
      case measure=>simp[intOf];omega
     | zero =>
      rw[List.drop_zero];have o:¬(p:Int)<=(p:Int)+((0:Nat):Int) - 1:=by omega
      obtain⟨g,n⟩:∃g,dJ t=g:=⟨_,rfl⟩;have b0:Hid _:=n;rw[n];have a0:q=if be<g\/am g≠t then(0,0,4)else(g,s+1,0):=by
       have o:cO d=if be<g\/am g≠t then(0,0,4)else(g,k+1,0):=by
        have l:=u.out;unfold cO;rw[l,if_neg (by omega),if_neg (by omega),HT.out,n]
       rw[HQ.out,o];split
       .rfl
       .simp only[if_pos];rw[show p+(k+1)=s+1 by omega]
      have M:Hid _:=a0;have a1:IsBytes wr (.slice (some ⟨bb,oo+p,none⟩) (k+1) (c - p)) t:=by
       have L:=pP p (k+1) (IsBytes.ext HV.out r.out) (by omega);rw[G.out,HT.out]at L;exact L
      have bh:Hid _:=a1;obtain⟨pe,N⟩:∃pe,(putW (g:Int))=pe:=⟨_,rfl⟩;have a2:Hid _:=N;have HC:Hid _:=rz (g:Int) wr;rw[N]at HC;obtain⟨pb,pc⟩:=pe;clear n a0 a1 N;go_wp2_with fail;go_at_call 203;refine Calls.mono HC.out ?_;rintro e w1 ⟨⟨v,rfl,F⟩,y⟩
      by_cases z:be<g
      .obtain ⟨rfl,rfl⟩:pb=[]/\pc=1:=by
        have D:=a2.out;unfold putW at D;rw[if_pos (by omega)]at D;exact⟨(Prod.mk.inj D).1.symm,(Prod.mk.inj D).2.symm⟩
       have B:Hid (q=(0,0,4)):=by unfold Hid;rw[M.out,if_pos (.inl z)]
       have E:Hid (Ext w w1):=r.out.trans y;clear z F y;go_wp2;go_ret3;exact⟨by rw[B.out];rfl,E.out⟩
      .obtain ⟨rfl,rfl⟩:pb=am g/\pc=0:=by
        have D:=a2.out;unfold putW at D;rw[if_neg (by omega)]at D;exact⟨(Prod.mk.inj D).1.symm,(Prod.mk.inj D).2.symm⟩
       have O:g<=be:=by omega
       have bk:Hid _:=O;have a3:IsBytes w1 v (am g):=by unfold IsBytes;exact Row.BM F (by have:=bF O;omega)
       have bl:Hid _:=a3;have a4:Hid _:=IsBytes.ext bh.out y;have E:Hid (Ext w w1):=r.out.trans y;obtain⟨eq,a5⟩:∃eq,(am g==t)=eq:=⟨_,rfl⟩;have P:Hid _:=a5;clear F a3 y z O a5;go_wp2_with fail;go_at_call 31
       try rw[show s+1 - p=k+1 by omega]
       refine(cD _ _ _ _ w1 bl.out a4.out).mono ?_;rw[P.out];rintro e w2 ⟨rfl,rfl⟩
       cases eq with
       | true =>
        have B:Hid (q=(g,s+1,0)):=by
         unfold Hid;rw[M.out,if_neg];intro h;rcases h with h | h
         .have:=bk.out;omega
         .exact h (by simpa using P.out)
        go_wp2;go_ret3;exact⟨by rw[B.out];rfl,E.out⟩
       | false =>
        have B:Hid (q=(0,0,4)):=by
         unfold Hid;rw[M.out,if_pos (.inr (by simpa using P.out))]
        go_wp2;go_ret3;exact⟨by rw[B.out];rfl,E.out⟩
  .have b1:s=b.length:=by omega
   have U:¬(s:Int)<(b.length:Int):=by omega
   have a6:cI d=d.length:=by omega
   have a8:((s:Int)==(b.length:Int))=true:=by rw[beq_iff_eq];omega
   have B:Hid (q=(0,0,2)):=by
    have o:cO d=(0,0,2):=by unfold cO;rw[if_pos a6]
    unfold Hid;rw[HQ.out,o];rfl
   clear a6;go_wp2;go_ret3;exact⟨by rw[B.out];rfl,r.out⟩
end
section
open Go Go.RowKit
def IsRd (w:World) (g:Nat) (f:B8) (s:Src):Prop:=∃a b c p,w.heap[g]? = some (.cells #[.slice (some ⟨a,b,none⟩) f.length c,.int .i64 ((p:Nat):Int),.bool s.bad] 192 (0,0)) /\
 IsBytes w (.slice (some ⟨a,b,none⟩) f.length c) f/\a<g/\p<=f.length/\s.b=f.drop p
variable {w w':World} {g:Nat} {f:B8} {s:Src}
theorem IsRd.ext (h:IsRd w g f s) (a:Ext w w'):IsRd w' g f s:=by
 obtain⟨b,d,c,p,e,i,j⟩:=h;exact⟨b,d,c,p,Ext.row a e,i.ext a,j⟩
theorem IsRd.B' {b:Option Nat} (h:IsRd w g f s) (d:w.grownBy w' b) (j:∀k,b=some k->g<k):IsRd w' g f s:=by
 obtain⟨l,r,c,p,o,q,t,u⟩:=h;have i:=(Array.getElem?_eq_some_iff.1 o).1;refine⟨l,r,c,p,(d.block g i (fun e=>by have:=j g e.symm;omega)).trans o,?_,t,u⟩
 cases b with
 | none=>exact IsBytes.ext q (Below.grown (Ext.refl w) d (Nat.le_refl _) (fun k x=>by cases x))
 | some k=>exact Row.but q d (fun a n c y=>by cases y;have:=j k rfl;show l≠k;omega)
theorem eF {b d n c o:Nat} {x:Value} {l:B8} (h:IsBytes w (.slice (some ⟨b,d,none⟩) n c) l) (e:b<g):IsBytes (w.setCell ⟨g,o,none⟩ x) (.slice (some ⟨b,d,none⟩) n c) l :=
 Row.but h (aH w g o x) (fun a n c i=>by cases i;show b≠g;omega)
theorem eY (g:Nat) (f:B8) (s:Src) (n:Nat) (w:World) (h:IsRd w g f s) :
  Calls Tryz.prog 150 #[.pointer (some ⟨g,0,none⟩),.int .i64 n] w fun e w'=>∃v,e=.returned v/\IsBytes w' v (az s n).2/\(∀a G H,v=.slice (some a) G H->w.heap.size<=a.block)/\IsRd w' g f (az s n).1/\w.grownBy w' (some g):=by
 obtain⟨K,L,c,p,X,Y,M,hp,Z⟩:=h;obtain⟨c0,V,W⟩:=bE X;have N:Hid _:=X;have O:Hid _:=Y;have k:Hid _:=M;obtain⟨a',a5,a6⟩:f.length<=c/\f.length<=140737488355328/\c<=9223372036854775807:=by
  obtain⟨_,_,P,h7,h8,u,-⟩:=Y.get;cases P;exact⟨h7,h8,u⟩
 obtain⟨b,Q⟩:=s;obtain rfl:b=f.drop p:=Z;dsimp only at c0 V W N;obtain⟨r,hr⟩:∃r,f.length - p=r:=⟨_,rfl⟩;have a7:wrap64 ((f.length:Int) - (p:Int))=(r:Int):=by rw[IntWalk.wrap64_in _ (by omega)];omega
 have R:(f.drop p).length=r:=by rw[List.length_drop,hr]
 have bd:¬(n:Int)<0:=by omega
 obtain⟨⟨s2,t⟩,hq⟩:∃q,az ⟨f.drop p,Q⟩ n=q:=⟨_,rfl⟩;rw[hq];have HQ:Hid _:=hq;have ad:Hid _:=R;clear X Y M hq R;go_enter Tryz.func150,Tryz.ntmps150
 cases Q with
 | true =>
  obtain⟨rfl,rfl⟩:(⟨f.drop p,true⟩:Src)=s2/\[]=t:=by
   have u:=HQ.out;unfold az at u;rw[if_pos (.inl rfl)]at u;exact⟨(Prod.mk.inj u).1,(Prod.mk.inj u).2⟩
  go_upto_region 1 with fail;go_quiet (fail);obtain⟨l,i⟩:∃l,l=w.drewN nq:=⟨_,rfl⟩;have d:Ext w l:=by rw[i];exact Ext.drawn _ _
  rw[<-i];have o:Hid _:=d;have B:Hid _:=Ext.row d N.out;have au:l.frozen? ⟨g,2,none⟩=false:=by simp[World.frozen?,B.out]
  have a0:=d.cell W;clear i d;go_wp2;go_ret;refine⟨_,rfl,IsBytes.nil _,fun a G H h=>(by cases h),⟨K,L,c,p,?_,eF (IsBytes.ext O.out o.out) k.out,k.out,hp,rfl⟩,((Ext.grown o.out).but _).trans (aH _ _ _ _)⟩;rw[heap_setCell_same l g 2 _ _ _ B.out];simp
 | false =>
  by_cases hl:r<n
  .have a2:(r:Int)<(n:Int):=by omega
   obtain⟨rfl,rfl⟩:(⟨f.drop p,true⟩:Src)=s2/\[]=t:=by
    have u:=HQ.out;unfold az at u;rw[if_pos (.inr (by rw[ad.out];exact hl))]at u;exact⟨(Prod.mk.inj u).1,(Prod.mk.inj u).2⟩
   go_upto_region 1 with fail;go_quiet (fail);obtain⟨l,i⟩:∃l,l=w.drewN nq:=⟨_,rfl⟩;have d:Ext w l:=by rw[i];exact Ext.drawn _ _
   rw[<-i];have o:Hid _:=d;have B:Hid _:=Ext.row d N.out;have au:l.frozen? ⟨g,2,none⟩=false:=by simp[World.frozen?,B.out]
   have a0:=d.cell W;clear i d;go_wp2;go_ret;refine⟨_,rfl,IsBytes.nil _,fun a G H h=>(by cases h),⟨K,L,c,p,?_,eF (IsBytes.ext O.out o.out) k.out,k.out,hp,rfl⟩,((Ext.grown o.out).but _).trans (aH _ _ _ _)⟩;rw[heap_setCell_same l g 2 _ _ _ B.out];simp
  .have a2:¬(r:Int)<(n:Int):=by omega
   obtain⟨rfl,rfl⟩:(⟨(f.drop p).drop n,false⟩:Src)=s2/\(f.drop p).take n=t:=by
    have u:=HQ.out;unfold az at u;rw[if_neg (by simp;omega)]at u;exact⟨(Prod.mk.inj u).1,(Prod.mk.inj u).2⟩
   obtain⟨F,S⟩:∃F,p+n=F:=⟨_,rfl⟩;have a8:wrap64 ((p:Int)+(n:Int))=(F:Int):=by rw[IntWalk.wrap64_in _ (by omega)];omega
   go_upto_region 1 with fail;go_quiet (fail);obtain⟨l,i⟩:∃l,l=w.drewN nq:=⟨_,rfl⟩;have d:Ext w l:=by rw[i];exact Ext.drawn _ _
   rw[<-i];have o:Hid (Ext w l):=d;have b0:=d.cell c0;have b1:=d.cell V;have b2:=d.cell W;have bh:p<=F:=by omega
   have bk:F<=c:=by omega
   clear i d;have bl:F - p=n:=by omega
   have a3:((F:Nat):Int)=(p:Int)+(n:Int):=by omega
   by_cases T:c=p
   .have U:n=0:=by omega
    subst T;go_upto_region 4 with fail;go_quiet (fail);obtain⟨y,z⟩:∃y,y=l.drewN nq:=⟨_,rfl⟩;have j:Ext w y:=o.out.trans (by rw[z];exact Ext.drawn _ _);rw[<-z];have A:Hid (Ext w y):=j;have C:Hid _:=Ext.row j N.out;have a4:y.frozen? ⟨g,1,none⟩=false:=by simp[World.frozen?,C.out]
    have a1:=j.cell V;have I:Hid (∀x,IsBytes (y.setCell ⟨g,1,none⟩ x) (.slice (some ⟨K,L,none⟩) 0 0) ((f.drop c).take n)):=fun x=>by rw[U,List.take_zero];exact⟨_,0,rfl,Nat.le_refl _,by simp,by simp,fun h=>absurd rfl h⟩
    clear z j b0 b1 b2;go_wp2_with fail;go_at_call 29;refine(ij _ _ _ (I.out _)).mono ?_;rintro e9 w2 ⟨⟨v,rfl,J⟩,D⟩;have HV:Hid (IsBytes w2 v ((f.drop c).take n)):=(by unfold IsBytes;exact Row.BM J (by rw[List.length_take];omega));have HA:Hid (∀a G H,v=.slice (some a) G H->w.heap.size<=a.block):=fun a G H P=>Nat.le_trans (Nat.le_trans A.out.size (aH _ _ _ _).size) (World.ownsRow.lt J a.block (by rw[P];rfl)).1
    have E:Hid _:=D;clear J D;go_wp2;go_ret;refine⟨_,rfl,HV.out,HA.out,IsRd.ext ⟨K,L,c,F,?_,eF (IsBytes.ext O.out A.out) k.out,k.out,by omega,by show(f.drop c).drop n=_;rw[List.drop_drop,S]⟩ E.out,(((Ext.grown A.out).but _).trans (aH _ _ _ _)).trans ((Ext.grown E.out).but _)⟩;rw[heap_setCell_same y g 1 _ _ _ C.out,show((F:Nat):Int)=(c:Int)by omega];simp
   .have a9:¬c=p:=T;go_upto_region 4 with fail;go_quiet (fail);obtain⟨y,z⟩:∃y,y=l.drewN nq:=⟨_,rfl⟩;have j:Ext w y:=o.out.trans (by rw[z];exact Ext.drawn _ _);rw[<-z];have A:Hid (Ext w y):=j;have C:Hid _:=Ext.row j N.out;have a4:y.frozen? ⟨g,1,none⟩=false:=by simp[World.frozen?,C.out]
    have a1:=j.cell V;have I:Hid (∀x,IsBytes (y.setCell ⟨g,1,none⟩ x) (.slice (some ⟨K,L+p,none⟩) n (c - p)) ((f.drop p).take n)):=fun x=>by exact eF (pP p n (IsBytes.ext O.out j) (by omega)) k.out
    clear z j b0 b1 b2;go_wp2_with fail;go_at_call 29;refine(ij _ _ _ (I.out _)).mono ?_;rintro e9 w2 ⟨⟨v,rfl,J⟩,D⟩;have HV:Hid (IsBytes w2 v ((f.drop p).take n)):=(by unfold IsBytes;exact Row.BM J (by rw[List.length_take];omega));have HA:Hid (∀a G H,v=.slice (some a) G H->w.heap.size<=a.block):=fun a G H P=>Nat.le_trans (Nat.le_trans A.out.size (aH _ _ _ _).size) (World.ownsRow.lt J a.block (by rw[P];rfl)).1
    have E:Hid _:=D;clear J D;go_wp2;go_ret;refine⟨_,rfl,HV.out,HA.out,IsRd.ext ⟨K,L,c,F,?_,eF (IsBytes.ext O.out A.out) k.out,k.out,by omega,by show(f.drop p).drop n=_;rw[List.drop_drop,S]⟩ E.out,(((Ext.grown A.out).but _).trans (aH _ _ _ _)).trans ((Ext.grown E.out).but _)⟩;rw[heap_setCell_same y g 1 _ _ _ C.out,a3];simp
theorem pQ (g:Nat) (f:B8) (s:Src) (w:World) (h:IsRd w g f s) :
  Calls Tryz.prog 152 #[.pointer (some ⟨g,0,none⟩)] w fun e w'=>e=.returned (.int .i64 ((bi s).2:Nat))/\IsRd w' g f (bi s).1/\w.grownBy w' (some g):=by
 have l:Hid _:=eY g f s 1 w h;obtain⟨⟨D,t⟩,d⟩:∃q,az s 1=q:=⟨_,rfl⟩;have o:(bi s).1=D:=by unfold bi;rw[d]
 have p:(bi s).2=(t.headD 0).toNat:=by unfold bi;rw[d]
 have i:t.length<=1:=by
  have b:=congrArg Prod.snd d;unfold az at b;split at b
  .dsimp only at b;rw[<-b];simp
  .dsimp only at b;rw[<-b,List.length_take];omega
 rw[d]at l;rw[o,p];clear d o p h;go_enter Tryz.func152,Tryz.ntmps152;go_wp2_with fail;go_at_call 150;refine Calls.mono l.out ?_;rintro I E ⟨v,rfl,u,-,z,A⟩;have j:Hid _:=z;have k:Hid _:=A;obtain⟨a,c,rfl,J,K,L,B⟩:=u.get;clear z A l u
 cases t with
 | nil =>
  go_wp2;go_ret;exact⟨rfl,j.out,k.out⟩
 | cons x r =>
  obtain⟨F,G,rfl,C⟩:=B 0 (by simp);have M:E.cell? ⟨F,G,none⟩=some (.int .u8 x.toNat):=C 0 (by simp);have H:r=[]:=by
   cases r with
   | nil=>rfl
   | cons y r=>simp at i
  subst H;have n:Hid (wrap64 (x.toNat:Int)=(x.toNat:Int)):=IntWalk.wrap64_in _ (by have:=x.toNat_lt;omega);clear B C i;go_wp2;go_ret;exact⟨iz n.out,j.out,k.out⟩
theorem im (g:Nat) (f:B8) (s:Src) (w:World) (h:IsRd w g f s) :
  Calls Tryz.prog 151 #[.pointer (some ⟨g,0,none⟩)] w fun e w'=>e=.returned (.int .i64 ((aJ true s).2:Nat))/\IsRd w' g f (aJ true s).1/\w.grownBy w' (some g):=by
 obtain⟨N,O,c,p,P,Q,F,hp,S⟩:=h;obtain⟨G,H,T⟩:=bE P;have HG:Hid _:=P;have U:Hid _:=Q;have i:Hid _:=F;obtain⟨b,u⟩:=s;obtain rfl:b=f.drop p:=S;dsimp only at G H T HG;have A:Hid (∀w',Ext w w'->Calls Tryz.prog 209 #[.slice (some ⟨N,O,none⟩) f.length c,.int .i64 ((p:Nat):Int)] w' fun e V=>e=.returned (.tuple #[.int .i64 (kP f p).1,.int .i64 (kP f p).2.1,.int .i64 (kP f p).2.2])/\Ext w' V):=fun w' W=>wT _ f p w' (Q.ext W) hp
 obtain⟨⟨n,j,y⟩,a⟩:∃q,kP f p=q:=⟨_,rfl⟩;rw[a]at A;obtain⟨⟨s2,r⟩,d⟩:∃q,aJ true ⟨f.drop p,u⟩=q:=⟨_,rfl⟩;have z:(y≠0\/u=true->s2=⟨f.drop p,true⟩/\r=0)/\(y=0->u=false->s2=⟨f.drop j,false⟩/\r=n/\j<=f.length):=by
  unfold kP at a;unfold aJ at d;obtain⟨⟨n1,e1,I⟩,X⟩:∃q,cO (f.drop p)=q:=⟨_,rfl⟩;have B:=ri (l:=f.drop p);rw[X]at a d B;dsimp only at a d B
  by_cases D:I=0
  .rw [if_pos D]at a;obtain⟨rfl,rfl,rfl⟩:n1=n/\p+e1=j/\0=y:=⟨(Prod.mk.inj a).1,(Prod.mk.inj (Prod.mk.inj a).2).1,(Prod.mk.inj (Prod.mk.inj a).2).2⟩;obtain⟨k1,k2,-⟩:=B D;rw[List.length_drop]at k2
   cases u with
   | true =>
    rw[if_pos (.inr ⟨rfl,rfl⟩)]at d;exact⟨fun _=>⟨(Prod.mk.inj d).1.symm,(Prod.mk.inj d).2.symm⟩,fun _ h=>by cases h⟩
   | false =>
    rw[if_neg (by simp[D])]at d;refine⟨fun h=>by simp at h,fun _ _=>⟨?_,(Prod.mk.inj d).2.symm,by omega⟩⟩;have Y:=(Prod.mk.inj d).1;unfold az at Y;rw[if_neg (by simp;omega)]at Y;rw[<-Y,List.drop_drop]
  .rw [if_neg D]at a;obtain⟨rfl,rfl,rfl⟩:0=n/\0=j/\I=y:=⟨(Prod.mk.inj a).1,(Prod.mk.inj (Prod.mk.inj a).2).1,(Prod.mk.inj (Prod.mk.inj a).2).2⟩;rw[if_pos (.inl D)]at d;exact⟨fun _=>⟨(Prod.mk.inj d).1.symm,(Prod.mk.inj d).2.symm⟩,fun h=>absurd h D⟩
 rw[d];have Z:Hid _:=z;have HP:Hid _:=hp;clear P Q F a d z;go_enter Tryz.func151,Tryz.ntmps151;go_upto_region 1 with fail;apply aj 16 [_,_,_,_,_,_,_,_,.tuple #[.int .i64 n,.int .i64 j,.int .i64 y],_,_,_,_,_,_,_] [none,none,none,none,none,none,none,none,none,none,none,none,none,none,none,none] [[],[0],[1],[2],[],[4],[5],[6],[3,7],[8],[9],[9],[9],[10],[11],[12]] (by kernel_rfl) (by kernel_rfl) (by simp[ak])
 .trivial
 .simp (maxSteps:=1000000)only[List.take_succ_cons,List.take_zero,aw,aA,aa,Act.put,List.setIfInBounds_toArray,List.set_cons_zero,List.set_cons_succ,aK,aO,ak,List.getD_cons_zero,List.getD_cons_succ,and_true,true_and,forall_const];and_intros
  iterate 8 · intro xs wq C;intros;rename_i J;have f0:=C.cell G;have f1:=C.cell H;go_simp;exact J _ _ (Ext.refl _) rfl
  .intro xs wq C K R J;obtain⟨au,a0⟩:=K;go_simp;exact(A.out wq C).mono (by rintro e' w' ⟨rfl,W⟩;exact⟨_,rfl,J _ _ W rfl⟩)
  iterate 7 · intro xs wq C;intros;rename_i J;have f0:=C.cell G;have f1:=C.cell H;go_simp;exact J _ _ (Ext.refl _) rfl
 intro xs E k K;simp only[aP,Nat.zero_add,Nat.reduceAdd,and_true]at K;simp(maxSteps:=1000000)only[List.take_succ_cons,List.take_zero,List.drop_succ_cons,List.drop_zero,aa,Act.put,List.setIfInBounds_toArray,List.set_cons_zero,List.set_cons_succ,Nat.zero_add,Nat.reduceAdd,K];clear K;have o:Hid (Ext w E):=k;have x:Hid _:=Ext.row k HG.out;have a1:E.frozen? ⟨g,1,none⟩=false:=by simp[World.frozen?,x.out]
 have a2:E.frozen? ⟨g,2,none⟩=false:=by simp[World.frozen?,x.out]
 have b0:=k.cell G;have b1:=k.cell H;have b2:=k.cell T;clear k G H T A
 cases u with
 | true =>
  obtain⟨rfl,rfl⟩:=Z.out.1 (.inr rfl);go_wp2;go_ret;refine⟨rfl,⟨N,O,c,p,?_,eF (IsBytes.ext U.out o.out) i.out,i.out,HP.out,rfl⟩,((Ext.grown o.out).but _).trans (aH _ _ _ _)⟩;rw[heap_setCell_same E g 2 _ _ _ x.out];simp
 | false =>
  by_cases t:y=0
  .have L:(y != 0)=false:=by simpa using t
   obtain⟨rfl,rfl,M⟩:=Z.out.2 t rfl;have ad:Hid _:=M;clear t M;go_wp2;go_ret;refine⟨rfl,⟨N,O,c,j,?_,eF (IsBytes.ext U.out o.out) i.out,i.out,ad.out,rfl⟩,((Ext.grown o.out).but _).trans (aH _ _ _ _)⟩;rw[heap_setCell_same E g 1 _ _ _ x.out];simp
  .have L:(y != 0)=true:=by simpa using t
   obtain⟨rfl,rfl⟩:=Z.out.1 (.inl t);clear t;go_wp2;go_ret;refine⟨rfl,⟨N,O,c,p,?_,eF (IsBytes.ext U.out o.out) i.out,i.out,HP.out,rfl⟩,((Ext.grown o.out).but _).trans (aH _ _ _ _)⟩;rw[heap_setCell_same E g 2 _ _ _ x.out];simp
end
end Go.Proofs.YtfabjgfmiaammaaGreatDoor
