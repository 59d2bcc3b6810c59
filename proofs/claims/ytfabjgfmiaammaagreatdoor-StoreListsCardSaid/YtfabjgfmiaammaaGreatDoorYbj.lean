/- Contracts of the program's functions and plain laws behind the card. Conditions: as each theorem states. -/
import Derived.Test.YtfabjgfmiaammaaGreatDoorYbe
import Derived.Test.YtfabjgfmiaammaaGreatDoorYbb
import Derived.Deep.DeepCutAuto
import Derived.Test.YtfabjgfmiaammaaGreatDoorYbg
import Derived.Test.YtfabjgfmiaammaaGreatDoorYbh
set_option linter.unusedVariables false
set_option linter.unusedSimpArgs false
set_option linter.unusedSectionVars false
set_option maxRecDepth 100000
set_option maxHeartbeats 64000000
namespace Go.Proofs.YtfabjgfmiaammaaGreatDoor
section
open Go Go.RowKit Go.Sort
theorem iK:∀l:List B8,bJ l=true↔cM l
 | []=>⟨fun _=>List.Pairwise.nil,fun _=>rfl⟩
 | [x]=>⟨fun _=>List.pairwise_singleton _ _,fun _=>rfl⟩
 | x::y::l=>by
  have c:=iK (y::l);constructor
  .intro h;have h:(ltB x y && bJ (y::l))=true:=h;rw[Bool.and_eq_true]at h;have b:=c.1 h.2;refine List.Pairwise.cons (fun z a=>?_) b;rcases List.mem_cons.1 a with rfl | a
   .exact h.1
   .exact gg h.1 (List.rel_of_pairwise_cons b a)
  .intro h;show(ltB x y && bJ (y::l))=true;rw[Bool.and_eq_true];exact⟨List.rel_of_pairwise_cons h (by simp),c.2 (List.Pairwise.of_cons h)⟩
theorem oz (v:Value) (l:List B8) (w:World) (h:IsStrs w v l) :
  Calls Tryz.prog 14 #[v] w fun e b=>e=.returned (.bool (bJ l))/\Ext w b :=
 (sT v l w h).mono fun e b ⟨⟨c,d,a⟩,i⟩=>⟨by
  have:c=bJ l:=by
   cases c with
   | true=>exact((iK l).2 (a.1 rfl)).symm
   | false =>
    cases g:bJ l with
    | false=>rfl
    | true=>have:=a.2 ((iK l).1 g);cases this
  rw[d,this],i⟩
theorem yU (v:Value) (o:Ob) (w:World) (hv:IsOb w v o) (hs:dv o) :
  Calls Tryz.prog 145 #[v] w fun e A=>e=.returned (.bool (bP o))/\Ext w A:=by
 obtain⟨vd,vi,vp,rfl,hd,hi,hp⟩:=hv;obtain⟨wa,I⟩:∃wa,wa=w.alloc (.cells #[.int .i64 o.kind,vd,vi,S8 o.tree,vp,.int .i64 o.BU,.int .i64 o.BS,S8 o.msg] 95):=⟨_,rfl⟩;have a4:Ext w wa:=by rw[I];exact(Ext.refl _).alloc _
 have H:wa.heap[w.heap.size]? = some (.cells #[.int .i64 o.kind,vd,vi,S8 o.tree,vp,.int .i64 o.BU,.int .i64 o.BS,S8 o.msg] 95 (0,0)):=by rw[I];exact ae _ _
 obtain⟨gb,a2⟩:∃gb,w.heap.size=gb:=⟨_,rfl⟩;have O:Hid (∀A,Ext w A->Calls Tryz.prog 200 #[vi] A fun e J=>e=.returned (.bool (cI o.items))/\Ext A J):=fun A hx=>uL vi o.items A (hi.ext hx) hs.items
 have Q:Hid (∀A,Ext w A->Calls Tryz.prog 201 #[vp] A fun e J=>e=.returned (.bool (o.parents.all al))/\Ext A J):=fun A hx=>sX vp o.parents A (hp.ext hx) hs.C1
 have P:Hid (∀A,Ext w A->Calls Tryz.prog 14 #[vp] A fun e J=>e=.returned (.bool (bJ o.parents))/\Ext A J):=fun A hx=>oz vp o.parents A (hp.ext hx)
 obtain⟨da,dc,rfl,-,-,-,-⟩:=hd.get;obtain⟨ia,ic,rfl,-,-,-,-⟩:=hi.get;obtain⟨pa,pc,rfl,-,-,-,-⟩:=hp.get;obtain⟨bd,bb⟩:o.tree.length<=10000000/\o.msg.length<=10000000:=⟨hs.tree,hs.msg⟩;have a':=hd.len;have ba:o.items.length<=140737488355328:=by obtain⟨_,_,_,-,h,-⟩:=hi.get;exact h
 obtain⟨k,i,d,n,a,g,b,t⟩:=o;obtain⟨r,hr⟩:∃r,bP ⟨k,i,d,n,a,g,b,t⟩=r:=⟨_,rfl⟩;rw[hr];have HR:Hid _:=hr;obtain⟨z,S⟩:∃c,gZ ⟨k,i,d,n,a,g,b,t⟩ = !c:=⟨!gZ ⟨k,i,d,n,a,g,b,t⟩,by simp⟩;have a0:Hid _:=S;have M:((n==[]) && ((a.length==0) && ((g==0) && ((b==0) && (t==[]))))) = !z:=S;have C:Hid _:=M;unfold obV;dsimp only at O Q P H I bd bb a' ba ⊢;obtain⟨io,T⟩:∃c,cI d=c:=⟨_,rfl⟩;rw[T]at O;have a6:Hid _:=T;obtain⟨pv,V⟩:∃c,a.all al=c:=⟨_,rfl⟩;rw[V]at Q;obtain⟨pr,U⟩:∃c,bJ a=c:=⟨_,rfl⟩;rw[U]at P;have a7:Hid (dJ a=(pv && (pr && decide (a.length<=2)))):=by unfold Hid dJ;rw[V,U]
 rw[a2]at H;obtain⟨c0,c1,c2,c3,c4,c5,c6,c7⟩:=ah H;have y:Hid (Ext w wa):=a4;have a9:Hid _:=I;have a5:Hid _:=H;clear hd hi hp hs hr S M T V U a4 I H;go_enter Tryz.func145,Tryz.ntmps145;go_upto_region 1 with fail;rw[<-a9.out]
 try rw[a2]
 go_cut [0,3] (fun _ c wx=>c=.bool z/\wx=wa)
 case first =>
  cases n with
  | cons x1 l1 =>
   have j:Hid (z=true):=by
    have G:=C.out
    cases z with
    | true=>rfl
    | false=>simp at G
   go_wp2_with fail;go_meet
   case rel=>exact⟨by rw[j.out],rfl⟩
  | nil =>
  cases a with
  | cons x2 l2 =>
   have bh:(0:Int)<((x2::l2:List B8).length:Int):=by rw[List.length_cons];omega
   have bk:(0:Int)<(l2.length:Int)+1:=by omega
   have j:Hid (z=true):=by
    have G:=C.out
    cases z with
    | true=>rfl
    | false=>simp at G
   go_wp2_with fail;go_meet
   case rel=>exact⟨by rw[j.out],rfl⟩
  | nil =>
  by_cases p:g=0
  case neg =>
   have a3:(g != 0)=true:=by simpa using p
   have a1:(g==0)=false:=by simpa using p
   have j:Hid (z=true):=by
    have G:=C.out
    cases z with
    | true=>rfl
    | false=>simp[p]at G
   go_wp2_with fail;go_meet
   case rel=>exact⟨by rw[j.out],rfl⟩
  subst p
  by_cases l:b=0
  case neg =>
   have aa:(b != 0)=true:=by simpa using l
   have Z:(b==0)=false:=by simpa using l
   have j:Hid (z=true):=by
    have G:=C.out
    cases z with
    | true=>rfl
    | false=>simp[l]at G
   go_wp2_with fail;go_meet
   case rel=>exact⟨by rw[j.out],rfl⟩
  subst l
  cases t with
  | cons x5 l5 =>
   have j:Hid (z=true):=by
    have G:=C.out
    cases z with
    | true=>rfl
    | false=>simp at G
   go_wp2_with fail;go_meet
   case rel=>exact⟨by rw[j.out],rfl⟩
  | nil =>
   have j:Hid (z=false):=by
    have G:=C.out
    cases z with
    | false=>rfl
    | true=>simp at G
   go_wp2_with fail;go_meet
   case rel=>exact⟨by rw[j.out],rfl⟩
 case rest =>
 obtain⟨rfl,rfl⟩:=hcut
 by_cases K:k=1
 .have b1:(k==1)=true:=by simpa using K
  have x:Hid (r=(decide (i.length<=20000) && ((d.length==0) && !z))):=by rw[<-HR.out,<-a0.out];unfold Hid bP;rw[if_pos K]
  clear K
  by_cases F:(i.length:Int)<=20000
  .by_cases L:d.length=0
   .have b3:((d.length:Int)==0)=true:=by rw[beq_iff_eq];omega
    have j:Hid (r = !z):=by unfold Hid;rw[x.out,L,decide_eq_true (by omega:i.length<=20000)];rfl
    clear L;go_wp2;go_ret;exact⟨an j.out.symm,y.out⟩
   .have b3:((d.length:Int)==0)=false:=by rw[beq_eq_false_iff_ne];omega
    have j:Hid (r=false):=by unfold Hid;rw[x.out,show(d.length==0)=false by simpa using L];simp
    clear L;go_wp2;go_ret;exact⟨an j.out.symm,y.out⟩
  .have j:Hid (r=false):=by unfold Hid;rw[x.out,decide_eq_false (by omega:¬i.length<=20000)];rfl
   go_wp2;go_ret;exact⟨an j.out.symm,y.out⟩
 have b1:(k==1)=false:=by simpa using K
 by_cases N:k=2
 .have b2:(k==2)=true:=by simpa using N
  have x:Hid (r=((i.length==0) && (io && !z))):=by rw[<-HR.out,<-a0.out,<-a6.out];unfold Hid bP;rw[if_neg K,if_pos N]
  clear K N
  by_cases F:i.length=0
  .have b3:((i.length:Int)==0)=true:=by rw[beq_iff_eq];omega
   have u:Hid (r=(io && !z)):=by unfold Hid;rw[x.out,F];rfl
   clear F;go_wp2_with fail;go_at_call 200;refine(O.out _ y.out).mono ?_;rintro e w1 ⟨rfl,E⟩;have B:Hid (Ext w w1):=y.out.trans E;clear E
   cases io with
   | true =>
    have j:Hid (r = !z):=by unfold Hid;rw[u.out];rfl
    go_wp2;go_ret;exact⟨an j.out.symm,B.out⟩
   | false =>
    have j:Hid (r=false):=by unfold Hid;rw[u.out];rfl
    go_wp2;go_ret;exact⟨an j.out.symm,B.out⟩
  .have b3:((i.length:Int)==0)=false:=by rw[beq_eq_false_iff_ne];omega
   have j:Hid (r=false):=by unfold Hid;rw[x.out,show(i.length==0)=false by simpa using F];rfl
   clear F;go_wp2;go_ret;exact⟨an j.out.symm,y.out⟩
 have b2:(k==2)=false:=by simpa using N
 by_cases k3:k=3
 case neg =>
  have b3:(k==3)=false:=by simpa using k3
  have j:Hid (r=false):=by rw[<-HR.out];unfold Hid bP;rw[if_neg K,if_neg N,if_neg k3]
  clear K N k3;go_wp2;go_ret;exact⟨an j.out.symm,y.out⟩
 have b3:(k==3)=true:=by simpa using k3
 have x:Hid (r=((i.length==0) && ((d.length==0) && (al n && ((pv && (pr && decide (a.length<=2))) && ((decide (0<=g) && decide (g<=1099511627776)) && ((decide (0<=b) && decide (b<=255)) && dS t))))))):=by rw[<-HR.out,<-a7.out];unfold Hid bP;rw[if_neg K,if_neg N,if_pos k3]
 clear K N k3;have bl:IntKind.i64.wrap ((i.length:Int)+(d.length:Int))=(i.length:Int)+(d.length:Int):=IntWalk.i64_in _ (by omega)
 by_cases F:i.length=0/\d.length=0
 case neg =>
  have b4:((i.length:Int)+(d.length:Int)==0)=false:=by rw[beq_eq_false_iff_ne];omega
  have j:Hid (r=false):=by
   unfold Hid;rw[x.out]
   by_cases L:i.length=0
   .rw [show(d.length==0)=false by simpa using fun e=>F ⟨L,e⟩];simp
   .rw [show(i.length==0)=false by simpa using L];rfl
  clear F;go_wp2;go_ret;exact⟨an j.out.symm,y.out⟩
 have b4:((i.length:Int)+(d.length:Int)==0)=true:=by rw[beq_iff_eq];omega
 obtain⟨vt,W⟩:∃vt,al n=vt:=⟨_,rfl⟩;have a8:Hid _:=W;have u:Hid (r=(vt && ((pv && (pr && decide (a.length<=2))) && ((decide (0<=g) && decide (g<=1099511627776)) && ((decide (0<=b) && decide (b<=255)) && dS t))))):=by unfold Hid;rw[x.out,F.1,F.2,W];rfl
 clear F W;go_wp2_with fail;go_at_call 87;refine(fC n _ (by omega)).mono ?_;rw[a8.out];rintro e w1 ⟨rfl,E⟩;have B:Hid (Ext w w1):=y.out.trans E;have ad:Hid _:=Ext.row E a5.out;obtain⟨d0,d1,d2,d3,d4,d5,d6,d7⟩:=ah ad.out;clear E
 cases vt with
 | false =>
  have j:Hid (r=false):=by unfold Hid;rw[u.out];rfl
  go_wp2;go_ret;exact⟨an j.out.symm,B.out⟩
 | true =>
 by_cases L:(a.length:Int)<=2
 case neg =>
  have j:Hid (r=false):=by unfold Hid;rw[u.out,decide_eq_false (by omega:¬a.length<=2)];simp
  go_wp2;go_ret;exact⟨an j.out.symm,B.out⟩
 have q:Hid (r=(pv && (pr && ((decide (0<=g) && decide (g<=1099511627776)) && ((decide (0<=b) && decide (b<=255)) && dS t))))):=by
  unfold Hid;rw[u.out,decide_eq_true (by omega:a.length<=2)]
  cases pv <;> cases pr <;> simp
 go_wp2_with fail;go_at_call 201;refine(Q.out w1 B.out).mono ?_;rintro e w2 ⟨rfl,X⟩;have R:Hid (Ext w w2):=B.out.trans X;have au:Hid _:=Ext.row X ad.out;obtain⟨e0,e1,e2,e3,e4,e5,e6,e7⟩:=ah au.out;clear X
 cases pv with
 | false =>
  have j:Hid (r=false):=by unfold Hid;rw[q.out];rfl
  go_wp2;go_ret;exact⟨an j.out.symm,R.out⟩
 | true =>
 go_wp2_with fail;go_at_call 14;refine(P.out w2 R.out).mono ?_;rintro e w3 ⟨rfl,Y⟩;have D:Hid (Ext w w3):=R.out.trans Y;obtain⟨f0,f1,f2,f3,f4,f5,f6,f7⟩:=ah (Ext.row Y au.out);clear Y
 cases pr with
 | false =>
  have j:Hid (r=false):=by unfold Hid;rw[q.out];rfl
  go_wp2;go_ret;exact⟨an j.out.symm,D.out⟩
 | true =>
 by_cases g0:0<=g
 case neg =>
  have j:Hid (r=false):=by unfold Hid;rw[q.out,decide_eq_false g0];simp
  go_wp2;go_ret;exact⟨an j.out.symm,D.out⟩
 by_cases g1:g<=1099511627776
 case neg =>
  have j:Hid (r=false):=by unfold Hid;rw[q.out,decide_eq_false g1];simp
  go_wp2;go_ret;exact⟨an j.out.symm,D.out⟩
 by_cases g2:0<=b
 case neg =>
  have j:Hid (r=false):=by unfold Hid;rw[q.out,decide_eq_false g2];simp
  go_wp2;go_ret;exact⟨an j.out.symm,D.out⟩
 by_cases g3:b<=255
 case neg =>
  have j:Hid (r=false):=by unfold Hid;rw[q.out,decide_eq_false g3];simp
  go_wp2;go_ret;exact⟨an j.out.symm,D.out⟩
 have j:Hid (r=dS t):=by unfold Hid;rw[q.out,decide_eq_true g0,decide_eq_true g1,decide_eq_true g2,decide_eq_true g3];rfl
 go_wp2_with fail;go_at_call 202;refine(yW t w3 (by omega)).mono ?_;rintro e w4 ⟨rfl,rfl⟩;go_wp2;go_ret;exact⟨an j.out.symm,D.out⟩
end
section
open Go Go.RowKit
def AuxO (w:World) (a:Value) (n:Option Value) (r:B8):Prop:=∀u,n=some u->IsBytes w u r/\∀g,u.ownBlock=some g->g<w.heap.size/\a.ownBlock≠some g
structure ChN (w0:World) (base:Nat) (v0:Value) (l0 l1 l2 l3 r1 r2 r3:B8) (za zb zc n1 n2 n3:Option Value) (w:World):Prop where
 ext:w0.grownBy w v0.ownBlock
 cur:∃cv cl,((za=none/\zb=none/\zc=none/\cv=v0/\cl=l0)\/(za=some cv/\zb=none/\zc=none/\cl=l1)\/(za≠none/\zb=some cv/\zc=none/\cl=l2)\/(za≠none/\zb≠none/\zc=some cv/\cl=l3)) /\
  Ow base w cv cl/\Near w0 v0 cv/\AuxO w cv n2 r2/\AuxO w cv n3 r3
 one:∀u,n1=some u->za=none->IsBytes w u r1
section
variable {w0 w w':World} {base:Nat} {v0 v' cv:Value} {l0 l1 l2 l3 r r1 r2 r3:B8} {za zb zc n1 n2 n3 n:Option Value}
theorem AuxO.ext (h:AuxO w cv n r) (c:Ext w w'):AuxO w' cv n r:=fun u a=>⟨IsBytes.ext (h u a).1 c,fun g b=>⟨Nat.lt_of_lt_of_le ((h u a).2 g b).1 c.size,((h u a).2 g b).2⟩⟩
theorem AuxO.step (h:AuxO w cv n r) (d:w.grownBy w' cv.ownBlock) (l:Near w cv v'):AuxO w' v' n r:=fun u o=>by
 obtain⟨j,b⟩:=h u o;refine⟨Row.stay j (fun k i=>d.block k (b k i).1 (fun e=>(b k i).2 e.symm)),fun g a=>⟨Nat.lt_of_lt_of_le (b g a).1 d.size,fun e=>?_⟩⟩;rcases l g e with c | c
 .exact (b g a).2 c
 .have:=(b g a).1;omega
variable {u:Value}
theorem AuxO.new {n:Nat} {c:B8} (i:Ow base w cv c) (l:Ext w w') (b:w'.ownsRow w.heap.size 5 1 u r.length (U8s r)) (k:r.length<=1000000000):AuxO w' cv (some u) r:=fun x a=>by
 cases a;refine⟨by unfold IsBytes;exact Row.BV b (by omega),fun g h=>?_⟩
 have d:=b.lt g h;refine⟨d.2,fun e=>?_⟩;have j:=(i.lt g e).2;omega
theorem ChN.start (h:Ow base w0 v0 l0) (b:Ext w0 w):ChN w0 base v0 l0 l1 l2 l3 r1 r2 r3 none none none none none none w :=
 ⟨b.grown.but _,⟨v0,l0,.inl ⟨rfl,rfl,rfl,rfl,rfl⟩,am h b,fun k c=>.inl c,fun u a=>(by cases a),fun u a=>(by cases a)⟩,fun u a=>(by cases a)⟩
theorem ChN.size (h:ChN w0 base v0 l0 l1 l2 l3 r1 r2 r3 za zb zc n1 n2 n3 w):w0.heap.size<=w.heap.size:=h.ext.size
variable {x:Value}
theorem ChN.cell {a:Addr} (h:ChN w0 base v0 l0 l1 l2 l3 r1 r2 r3 za zb zc n1 n2 n3 w) (b:v0.ownBlock≠some a.block) (c:w0.cell? a=some x):w.cell? a=some x:=by
 rw[World.cell?_of_block (h.ext.block _ (World.block_lt_of_cell? _ _ c) (fun e=>b e.symm))];exact c
theorem ChN.C4 (h:ChN w0 base v0 l0 l1 l2 l3 r1 r2 r3 za zb zc none n2 n3 w) (a:Ext w w') (g:za=none->IsBytes w' u r1):ChN w0 base v0 l0 l1 l2 l3 r1 r2 r3 za zb zc (some u) n2 n3 w':=by
 obtain⟨cv,c,k,j,i,d,e⟩:=h.cur;exact⟨h.ext.trans (a.grown.but _),⟨cv,c,k,am j a,i,d.ext a,e.ext a⟩,fun x b l=>by cases b;exact g l⟩
theorem ChN.C5 (h:ChN w0 base v0 l0 l1 l2 l3 r1 r2 r3 za zb zc n1 none n3 w) (a:Ext w w') (k:w'.ownsRow w.heap.size 5 1 u r2.length (U8s r2)) (g:r2.length<=1000000000):ChN w0 base v0 l0 l1 l2 l3 r1 r2 r3 za zb zc n1 (some u) n3 w':=by
 obtain⟨cv,d,j,c,i,o,e⟩:=h.cur;exact⟨h.ext.trans (a.grown.but _),⟨cv,d,j,am c a,i,AuxO.new (n:=0) c a k g,e.ext a⟩,fun x b l=>IsBytes.ext (h.one x b l) a⟩
theorem ChN.DC (h:ChN w0 base v0 l0 l1 l2 l3 r1 r2 r3 za zb zc n1 n2 none w) (a:Ext w w') (k:w'.ownsRow w.heap.size 5 1 u r3.length (U8s r3)) (g:r3.length<=1000000000):ChN w0 base v0 l0 l1 l2 l3 r1 r2 r3 za zb zc n1 n2 (some u) w':=by
 obtain⟨cv,d,j,c,i,e,o⟩:=h.cur;exact⟨h.ext.trans (a.grown.but _),⟨cv,d,j,am c a,i,e.ext a,AuxO.new (n:=0) c a k g⟩,fun x b l=>IsBytes.ext (h.one x b l) a⟩
theorem ChN.CI (h:ChN w0 base v0 l0 (l0++r1) l2 l3 r1 r2 r3 none zb zc n1 n2 n3 w) (p:n1=some u) (o:base<=w0.heap.size) (D:l0.length<=100000000) (q:r1.length<=100000000) :
  ∃v' w',(Builtin.append_ #[37,37] 37 #[v0,u]).run Tryz.prog w=.ok v' w'/\ChN w0 base v0 l0 (l0++r1) l2 l3 r1 r2 r3 (some v') zb zc n1 n2 n3 w':=by
 obtain⟨cv,d,z,t,c,k,l⟩:=h.cur;rcases z with⟨-,e,i,rfl,rfl⟩ | ⟨h,-⟩ | ⟨h,-⟩ | ⟨h,-⟩
 .obtain ⟨v',w',y,j,a,b⟩:=gJ base 37 cv d t u r1 (h.one u p rfl) (by omega) (Nat.le_trans o h.size);obtain⟨B,C,-⟩:=fM (g:=0) h.ext c a b;exact⟨v',w',y,⟨B,⟨v',d++r1,.inr (.inl ⟨rfl,e,i,rfl⟩),j,C,k.step a b,l.step a b⟩,fun x _ A=>by cases A⟩⟩
 .cases h
 iterate 2
  .exact absurd rfl h
theorem ChN.CJ (h:ChN w0 base v0 l0 l1 (l1++r2) l3 r1 r2 r3 za none zc n1 n2 n3 w) (t:n2=some x) (b:za=some u) (q:base<=w0.heap.size) (E:l1.length<=100000000) (y:r2.length<=100000000) :
  ∃v' w',(Builtin.append_ #[37,37] 37 #[u,x]).run Tryz.prog w=.ok v' w'/\ChN w0 base v0 l0 l1 (l1++r2) l3 r1 r2 r3 za (some v') zc n1 n2 n3 w':=by
 obtain⟨cv,i,B,z,e,j,p⟩:=h.cur;rcases B with⟨a,-⟩ | ⟨a,-,l,rfl⟩ | ⟨-,a,-⟩ | ⟨-,a,-⟩
 .rw [b]at a;cases a
 .rw [b]at a;cases a;obtain⟨v',w',A,o,c,d⟩:=gJ base 37 u i z x r2 (j x t).1 (by omega) (Nat.le_trans q h.size);obtain⟨C,D,-⟩:=fM (g:=0) h.ext e c d;exact⟨v',w',A,⟨C,⟨v',i++r2,.inr (.inr (.inl ⟨by rw[b];simp,rfl,l,rfl⟩)),o,D,j.step c d,p.step c d⟩,fun x _ k=>by rw[b]at k;cases k⟩⟩
 .cases a
 .exact absurd rfl a
theorem ChN.Dy (h:ChN w0 base v0 l0 l1 l2 (l2++r3) r1 r2 r3 za zb none n1 n2 n3 w) (q:n3=some x) (d:zb=some u) (p:base<=w0.heap.size) (E:l2.length<=100000000) (t:r3.length<=100000000) :
  ∃v' w',(Builtin.append_ #[37,37] 37 #[u,x]).run Tryz.prog w=.ok v' w'/\ChN w0 base v0 l0 l1 l2 (l2++r3) r1 r2 r3 za zb (some v') n1 n2 n3 w':=by
 obtain⟨cv,i,A,y,e,o,k⟩:=h.cur;rcases A with⟨-,a,-⟩ | ⟨-,a,-⟩ | ⟨j,a,-,rfl⟩ | ⟨-,-,a,-⟩
 iterate 2
  .rw [d]at a;cases a
 .rw [d]at a;cases a;obtain⟨v',w',z,l,b,c⟩:=gJ base 37 u i y x r3 (k x q).1 (by omega) (Nat.le_trans p h.size);obtain⟨C,D,-⟩:=fM (g:=0) h.ext e b c;exact⟨v',w',z,⟨C,⟨v',i++r3,.inr (.inr (.inr ⟨j,by rw[d];simp,rfl,rfl⟩)),l,D,o.step b c,k.step b c⟩,fun x _ B=>absurd B j⟩⟩
 .cases a
theorem ChN.CZ {s:B8} (h:ChN w0 base v0 l0 l1 l2 (l2++s) r1 r2 r3 za zb none n1 n2 n3 w) (d:zb=some u) (p:base<=w0.heap.size) (D:l2.length<=100000000) (q:s.length<=100000000) :
  ∃v' w',(Builtin.append_ #[37,9] 37 #[u,S8 s]).run Tryz.prog w=.ok v' w'/\ChN w0 base v0 l0 l1 l2 (l2++s) r1 r2 r3 za zb (some v') n1 n2 n3 w':=by
 obtain⟨cv,i,z,t,e,l,o⟩:=h.cur;rcases z with⟨-,a,-⟩ | ⟨-,a,-⟩ | ⟨j,a,-,rfl⟩ | ⟨-,-,a,-⟩
 iterate 2
  .rw [d]at a;cases a
 .rw [d]at a;cases a;obtain⟨v',w',y,k,b,c⟩:=mM base u i t s (by omega) (Nat.le_trans p h.size);obtain⟨B,C,-⟩:=fM (g:=0) h.ext e b c;exact⟨v',w',y,⟨B,⟨v',i++s,.inr (.inr (.inr ⟨j,by rw[d];simp,rfl,rfl⟩)),k,C,l.step b c,o.step b c⟩,fun x _ A=>absurd A j⟩⟩
 .cases a
theorem ChN.CF (h:ChN w0 base v0 l0 l1 l2 l3 r1 r2 r3 za zb none n1 n2 n3 w) (b:zb=some u):Ow base w u l2/\Near w0 v0 u:=by
 obtain⟨cv,g,e,d,c,-⟩:=h.cur;rcases e with⟨-,a,-⟩ | ⟨-,a,-⟩ | ⟨-,a,-,rfl⟩ | ⟨-,-,a,-⟩
 iterate 2
  .rw [b]at a;cases a
 .rw [b]at a;cases a;exact⟨d,c⟩
 .cases a
theorem ChN.CQ (h:ChN w0 base v0 l0 l1 l2 l3 r1 r2 r3 za zb zc n1 n2 n3 w) (b:zc=some u):Ow base w u l3/\Near w0 v0 u:=by
 obtain⟨cv,g,e,d,c,-⟩:=h.cur;rcases e with⟨-,-,a,-⟩ | ⟨-,-,a,-⟩ | ⟨-,-,a,-⟩ | ⟨-,-,a,rfl⟩
 iterate 3
  .rw [b]at a;cases a
 .rw [b]at a;cases a;exact⟨d,c⟩
end
end
section
open Go Go.RowKit
theorem rg (w:World) (c:UInt8):(w.alloc (.cells #[.int .u8 c.toNat] 5)).ownsRow w.heap.size 5 1 (.slice (some ⟨w.heap.size,0,none⟩) 1 1) 1 (U8s [c]):=World.ownsRow_lit w _ 1 (Nat.le_refl _) (by decide) rfl
theorem wA (w:World) (c:UInt8):IsBytes (w.alloc (.cells #[.int .u8 c.toNat] 5)) (.slice (some ⟨w.heap.size,0,none⟩) 1 1) [c]:=by
 unfold IsBytes;exact Row.BV (rg w c) (by simp)
theorem pM {w:World} {a:Nat} {v:Value} {l:B8} (h:w.ownsRow a 5 1 v l.length (U8s l)) (b:l.length<=1000000000):IsBytes w v l:=by
 unfold IsBytes;exact Row.BV h (by omega)
theorem jk (v:Value) (o:Ob) (w:World) (hv:IsOb w v o) (hs:dv o) :
  Calls Tryz.prog 86 #[v] w fun e E=>(∃u,e=.returned (.tuple #[u,.int .i64 (aW o).2])/\Ow w.heap.size E u (aW o).1)/\Ext w E:=by
 have fc:=hv;obtain⟨vd,vi,vp,rfl,hd,hi,hp⟩:=hv;obtain⟨wa,bS⟩:∃wa,wa=w.alloc (.cells #[.int .i64 o.kind,vd,vi,S8 o.tree,vp,.int .i64 o.BU,.int .i64 o.BS,S8 o.msg] 95):=⟨_,rfl⟩;have dn:Ext w wa:=by rw[bS];exact(Ext.refl _).alloc _
 have bo:wa.heap[w.heap.size]? = some (.cells #[.int .i64 o.kind,vd,vi,S8 o.tree,vp,.int .i64 o.BU,.int .i64 o.BS,S8 o.msg] 95 (0,0)):=by rw[bS];exact ae _ _
 obtain⟨gb,f2⟩:∃gb,w.heap.size=gb:=⟨_,rfl⟩;have ba:Hid (Calls Tryz.prog 145 #[obV o vd vi vp] wa fun e E=>e=.returned (.bool (bP o))/\Ext wa E):=yU _ o wa (fc.ext dn) hs;have HD:Hid (IsBytes w vd o.data):=hd;have HI:Hid (IsItms w vi o.items):=hi;have HP:Hid (IsStrs w vp o.parents):=hp;obtain⟨da,dc,rfl,-,-,-,-⟩:=hd.get;obtain⟨ia,ic,rfl,i1,i2,i3,eE⟩:=hi.get;have d9:Hid _:=eE;obtain⟨pa,pc,rfl,p1,p2,p3,e7⟩:=hp.get;have ef:Hid _:=e7;obtain⟨m0,cq⟩:∃m,bP o=m:=⟨_,rfl⟩;rw[cq]at ba;have aa:Hid _:=cq;unfold obV at ba;rw[f2]at bo;have fj:Hid _:=bo;have fx:Hid (Ext w wa):=dn;have fu:Hid _:=bS;obtain⟨c0,c1,c2,c3,c4,c5,c6,c7⟩:=ah bo;obtain⟨⟨qb,qe⟩,hq⟩:∃q,aW o=q:=⟨_,rfl⟩;rw[hq];have HQ:Hid _:=hq;clear fc hd hi hp eE e7 hs cq bo dn bS hq;go_enter Tryz.func86,Tryz.ntmps86;go_upto_region 1 with fail;rw[<-fu.out];go_wp2_with fail;go_at_call 145;refine Calls.mono ba.out ?_;rintro e9 h ⟨rfl,dk⟩;have H:Hid (Ext w h):=fx.out.trans dk;have b1:Hid _:=Ext.row dk fj.out;have go:gb<h.heap.size:=(Array.getElem?_eq_some_iff.1 b1.out).1;obtain⟨d0,d1,d2,d3,d4,d5,d6,d7⟩:=ah b1.out;clear dk ba
 cases m0 with
 | false =>
  obtain⟨rfl,rfl⟩:qb=[]/\qe=1:=by
   have A:=HQ.out;unfold aW at A;rw[aa.out]at A;exact⟨(Prod.mk.inj A).1.symm,(Prod.mk.inj A).2.symm⟩
  go_wp2;go_ret2;exact⟨⟨_,rfl,World.ownsRow_nil _ _ _ _⟩,H.out⟩
 | true =>
  obtain⟨fa,rfl⟩:qb=eI o/\qe=0:=by
   have A:=HQ.out;unfold aW at A;rw[aa.out,if_pos rfl]at A;exact⟨(Prod.mk.inj A).1.symm,(Prod.mk.inj A).2.symm⟩
  have eh:Hid _:=fa;clear fa HQ;clear c0 c1 c2 c3 c4 c5 c6 c7;obtain⟨ff,Y,b,t,a,p,g,I⟩:=o;have r:=kE aa.out;have Q:Hid (qb=eI ⟨ff,Y,b,t,a,p,g,I⟩):=eh.out;clear eh;dsimp only at r d0 d1 d2 d3 d4 d5 d6 d7 i1 i2 p1 p2 d9 ef HD HI HP b1;rcases r with rfl | rfl | rfl
  .skip;have gz:Y.length<=20000:=by
    have A:=aa.out;unfold bP at A;rw[if_pos rfl]at A;simp only[Bool.and_eq_true,decide_eq_true_eq]at A;exact A.1
   have ad:Hid (qb=[1]++Y):=Q.out;have P:Hid (Ow h.heap.size (h.alloc (.cells #[.int .u8 1] 5)) (.slice (some ⟨h.heap.size,0,none⟩) 1 1) [1]):=World.ownsRow_lit h _ 1 (Nat.le_refl _) (by decide) rfl
   go_wp2_with (at_builtin;go_must (refine iY rfl _ _ rfl rfl h.heap.size _ [1] rfl P.out _ Y rfl (IsBytes.ext HD.out (H.out.alloc _)) (by simp;omega) (by simp) ?_;intro K w2 M bq e4))
   go_ret2;exact⟨⟨_,rfl,by rw[ad.out];exact M.mono H.out.size⟩,H.out.trans (aj ((Ext.refl h).alloc _) P.out bq)⟩
  .skip;have cs:b.length<=256/\∀x∈b,bM x=true:=by
    have A:=aa.out;unfold bP at A;rw[if_neg (show ¬(2:Int)=1 by decide),if_pos rfl]at A;simp only[Bool.and_eq_true,cI,List.all_eq_true,decide_eq_true_eq]at A;exact⟨A.2.1.2.2,A.2.1.1⟩
   obtain⟨g0,eS⟩:=cs;have d':Hid _:=eS;have ad:Hid (qb=[2]++ar b.length++b.flatMap bz):=by
    unfold Hid;rw[Q.out];show UInt8.ofNat 2::(ar b.length++b.flatMap bz)=_;simp
   have ga:=bH (n:=b.length) (by unfold bi;omega);have P:Hid (Ow h.heap.size (h.alloc (.cells #[.int .u8 2] 5)) (.slice (some ⟨h.heap.size,0,none⟩) 1 1) [2]):=World.ownsRow_lit h _ 1 (Nat.le_refl _) (by decide) rfl;have bd:Hid (Ext h (h.alloc (.cells #[.int .u8 2] 5))):=(Ext.refl h).alloc _;clear eS Q;go_wp2_with fail;go_at_call 146;refine(jn b.length _).mono ?_;rintro e9 d8 ⟨⟨vn,rfl,c9⟩,dq⟩;rw[iU _ (by unfold bi;omega)]at c9;have ek:Hid (IsBytes d8 vn (ar b.length)):=pM c9 (by omega);have a0:Hid (Ow h.heap.size d8 (.slice (some ⟨h.heap.size,0,none⟩) 1 1) [2]):=am P.out dq;have cc:Hid (Ext h d8):=bd.out.trans dq;have fb:=cc.out.size;clear c9 dq P bd
   go_wp2_with (at_builtin;go_must (refine iY rfl _ _ rfl rfl h.heap.size _ [2] rfl a0.out _ (ar b.length) rfl ek.out (by simp;omega) fb ?_;intro v2 w2 M bq e4))
   have ec:Hid (Ow h.heap.size w2 v2 ([2]++ar b.length)):=M;have b8:Hid (Ext h w2):=aj cc.out a0.out bq;clear M bq e4 a0 ek cc fb;go_loopw [4,5] (fun v i wr=>∃k:Nat,k<=b.length/\i=.int .i64 k/\Hid (Ow h.heap.size wr v ([2]++ar b.length++(b.take k).flatMap bz))/\Hid (Ext h wr)) (fun _ i _=>b.length - (intOf i).toNat)
   case atStart=>exact⟨0,Nat.zero_le _,rfl,by unfold Hid;simpa using ec.out,b8⟩
   case round =>
   obtain⟨k,r,rfl,HO,S⟩:=hrel;have e2:=S.out.cell d2
   by_cases a5:k<b.length
   .obtain ⟨x,N⟩:∃x,b[k]? = some x:=⟨_,List.getElem?_eq_getElem a5⟩;have fe:=d'.out x (List.mem_of_getElem? N);have ex:=ku b k d'.out;have b7:Hid ((b.take (k+1)).flatMap bz=(b.take k).flatMap bz++bz x):=by
     unfold Hid;rw[List.take_add_one,N];simp
    obtain⟨bb,oo,f8,er,es,ev⟩:=d9.out k x N;subst f8;have y0:=S.out.cell (H.out.cell er);have y1:=S.out.cell (H.out.cell es);have y2:=S.out.cell (H.out.cell ev);obtain⟨X,T⟩:∃l,[2]++ar b.length++(b.take k).flatMap bz=l:=⟨_,rfl⟩;have eo:X.length<=60000:=by rw[<-T];simp only[List.length_append,List.length_cons,List.length_nil];omega
    have b3:Hid _:=T;rw[T]at HO;clear T ex;obtain⟨Z,name,id⟩:=x;have a8:=fe;unfold bM at a8;simp only[Bool.and_eq_true,decide_eq_true_eq]at a8;obtain⟨e0,e1,e5,c8⟩:=a8;have g4:=kH e5;have e3:=tL e0 e1;obtain⟨cm,ce⟩:∃c,UInt8.ofNat Z.toNat=c:=⟨_,rfl⟩;rw[ce]at e3;have gr:=(gF c8).1;have cn:id.length<=30000000:=by have:=(iy c8).1;omega
    have fk:Hid (bz ⟨Z,name,id⟩=[cm]++ar name.length++(name++aQ id)):=by
     unfold Hid bz;rw[ce];simp
    have g8:=bH (n:=name.length) (by unfold bi;omega);dsimp only at y0 y1 y2;clear fe N er es ev e0 e1 e5 c8 ce;go_upto_region 13 with fail;obtain⟨w4,bv⟩:∃w4,w4=wr.alloc (.cells #[.int .i64 Z,S8 name,S8 id] 138):=⟨_,rfl⟩;have dl:Ext wr w4:=by rw[bv];exact(Ext.refl _).alloc _
    have bl:w4.heap[wr.heap.size]? = some (.cells #[.int .i64 Z,S8 name,S8 id] 138 (0,0)):=by rw[bv];exact ae _ _
    rw[<-bv];obtain⟨gi,ey⟩:∃gi,wr.heap.size=gi:=⟨_,rfl⟩;have b4:Hid (Ow h.heap.size w4 u4 X):=am HO.out dl;have O:Hid (u4.ownBlock≠some gi):=fun e=>by have:=(HO.out.lt _ e).2;omega
    have fl:Hid (gi<w4.heap.size):=by
     have:=(Array.getElem?_eq_some_iff.1 bl).1;unfold Hid;omega
    rw[ey]at bl ⊢;obtain⟨z0,z1,z2⟩:=bL bl;have b':Hid (Ext h w4):=S.out.trans dl;have a6:=b'.out.size;clear bv dl bl ey y0 y1 y2 HO S e2;apply aI 14 (fun z E=>ChN w4 h.heap.size u4 X (X++[cm]) (X++[cm]++ar name.length) (X++[cm]++ar name.length++name) [cm] (ar name.length) [] (z 5) (z 10) (z 13) (z 4) (z 9) none E) [false,false,false,false,true,true,false,false,false,true,true,false,false,true] [_,_,_,.int .u8 cm.toNat,undef,undef,_,_,_,undef,undef,_,_,undef] [none,none,none,none,none,none,none,none,none,none,none,none,none,none] [[],[],[1],[2],[3],[0,4],[],[6],[7],[8],[5,9],[],[11],[10,12]] (by kernel_rfl) (by kernel_rfl) rfl
    .exact ChN.start b4.out ⟨rfl,rfl,rfl,Nat.le_refl _,fun _ _=>rfl⟩
    .simp (maxSteps:=1000000)only[de,cN,bR,cG,cS,List.getD_cons_zero,List.getD_cons_succ,Bool.false_eq_true,if_false,if_true,and_true,true_and,forall_const,Nat.zero_add,Nat.reduceAdd,List.take_succ_cons,List.take_zero,ab,Act.put,List.setIfInBounds_toArray,List.set_cons_zero,List.set_cons_succ];and_intros
     iterate 4 · intro j z G d;intros;rename_i y;have f0:=d.cell O.out z0;have f1:=d.cell O.out z1;go_simp;exact y _ _ d rfl
     .intro j z G d F r R y;rw[F]at d;go_simp;exact y _ _ (d.C4 ((Ext.refl _).alloc _) fun _=>wA _ cm)
     .intro j z G d F r R y;obtain⟨C,D⟩:=r;rw[F]at d;obtain⟨K,E,V,B⟩:=d.CI D a6 (by omega) (by simp);apply cL (.tmp 43) (.tmp 47) 37 (v:=j 0) (xv:=j 4) (v':=K) (w':=E)
      iterate 4
       .rfl
      .rw [C];exact V
      .exact y _ _ B
     iterate 3 · intro j z G d;intros;rename_i y;have f0:=d.cell O.out z0;have f1:=d.cell O.out z1;go_simp;exact y _ _ d rfl
     .intro j z G d F r R y;rw[F]at d;go_simp;exact(jn name.length G).mono (by rintro e' E ⟨⟨K,rfl,h1⟩,N⟩;rw[iU _ (by unfold bi;omega)]at h1;exact⟨_,rfl,y _ _ (d.C5 N h1 (by omega))⟩)
     .intro j z G d F r R y;obtain⟨C,D⟩:=r;rw[F]at d;obtain⟨K,E,V,B⟩:=d.CJ D C a6 (by simp;omega) (by omega);apply cL (.tmp 48) (.tmp 52) 37 (v:=j 5) (xv:=j 9) (v':=K) (w':=E)
      iterate 4
       .rfl
      .exact V
      .exact y _ _ B
     iterate 2 · intro j z G d;intros;rename_i y;have f0:=d.cell O.out z0;have f1:=d.cell O.out z1;go_simp;exact y _ _ d rfl
     .intro j z G d F r R y;obtain⟨C,D⟩:=r;rw[F]at d;obtain⟨K,E,V,B⟩:=d.CZ C a6 (by simp only[List.length_append,List.length_cons,List.length_nil];omega) (by omega);apply eB (.tmp 53) (.tmp 55) 37 9 (v:=j 10) (xv:=j 12) (v':=K) (w':=E)
      iterate 4
       .rfl
      .rw [D];exact V
      .exact y _ _ B
    intro j w5 a4 r;simp only[di,List.getD_cons_zero,List.getD_cons_succ,Bool.false_eq_true,if_false,if_true]at a4;simp only[bV,Nat.zero_add,Nat.reduceAdd,and_true]at r;simp(maxSteps:=1000000)only[List.drop_succ_cons,List.drop_zero,Nat.zero_add,Nat.reduceAdd,List.take_succ_cons,List.take_zero,ab,Act.put,List.setIfInBounds_toArray,List.set_cons_zero,List.set_cons_succ,r];clear r;generalize j 4=x4 at *;generalize j 5=x5 at *;generalize j 9=x9 at *;generalize j 10=fi at *;generalize j 13=b0 at *;obtain⟨e6,f9⟩:=a4.CQ rfl;have b5:Hid (Ow h.heap.size w5 b0 (X++[cm]++ar name.length++name)):=e6;have t2:=a4.cell O.out z2;have ca:Hid (Ext h w5):=Below.grown b'.out a4.ext a6 (fun k r=>(b4.out.lt k r).1);have gd:=ca.out.size;obtain⟨L1,bh⟩:∃l,X++[cm]++ar name.length++name=l:=⟨_,rfl⟩;have gl:L1.length<=70000:=by
     rw[<-bh];simp only[List.length_append,List.length_cons,List.length_nil];omega
    have fn:Hid _:=bh;rw[bh]at b5;clear bh a4 z0 z1 z2 b4 b' O fl a6 e6 f9;go_wp2_with fail;go_at_call 147;refine(nr id _ cn).mono ?_;rintro e9 w6 ⟨⟨v6,rfl,a2⟩,W⟩;have b2:Hid (IsBytes w6 v6 (aQ id)):=a2;have au:Hid (Ow h.heap.size w6 b0 L1):=am b5.out W;have a1:Hid (Ext h w6):=ca.out.trans W;have cv:=a1.out.size;clear a2 W b5 ca gd t2
    go_wp2_with (at_builtin;go_must (refine iY rfl _ _ rfl rfl h.heap.size _ L1 rfl au.out _ (aQ id) rfl b2.out (by omega) cv ?_;intro v7 w7 J a3 ct))
    have cb:Hid (Ext h w7):=aj a1.out au.out a3;have b6:Hid (Ow h.heap.size w7 v7 ([2]++ar b.length++(b.take (k+1)).flatMap bz)):=by
     unfold Hid;rw[b7.out,fk.out];have e:[2]++ar b.length++((b.take k).flatMap bz++([cm]++ar name.length++(name++aQ id)))=L1++aQ id:=by
      rw[<-fn.out,<-b3.out];simp
     rw[e];exact J
    clear J a3 ct;go_wp2_with fail;go_roundw
    case rel=>exact⟨k+1,by omega,by go_num,b6,cb⟩
    case measure=>simp[intOf];omega
   .have co:k=b.length:=by omega
    have ft:Hid (Ow h.heap.size wr u4 qb):=by
     have A:=HO.out;rw[co,List.take_length]at A;unfold Hid;rw[ad.out];exact A
    clear r;go_wp2;go_ret2;exact⟨⟨_,rfl,ft.out.mono H.out.size⟩,H.out.trans S.out⟩
  .skip;have cs:al t=true/\((a.all al=true/\a.length<=2)/\((0<=p/\p<=1099511627776)/\((0<=g/\g<=255)/\I.length<=200))):=by
    have A:=aa.out;unfold bP at A;rw[if_neg (show ¬(3:Int)=1 by decide),if_neg (show ¬(3:Int)=2 by decide),if_pos rfl]at A;simp only[Bool.and_eq_true,dJ,dS,decide_eq_true_eq]at A;exact⟨A.2.2.1,⟨A.2.2.2.1.1,A.2.2.2.1.2.2⟩,A.2.2.2.2.1,A.2.2.2.2.2.1,A.2.2.2.2.2.2.2⟩
   obtain⟨c',⟨e8,ga⟩,⟨g9,g'⟩,⟨gw,gx⟩,g1⟩:=cs;have eg:Hid _:=e8;obtain⟨cp,cl⟩:∃c,UInt8.ofNat a.length=c:=⟨_,rfl⟩;have gy:IntKind.u8.wrap (a.length:Int)=(cp.toNat:Int):=by
    rw[<-cl,IntKind.wrap_u8,UInt8.toNat_ofNat'];omega
   have ad:Hid (qb=[3]++aQ t++[cp]++a.flatMap aQ++ar p.toNat++ar g.toNat++ar I.length++I):=by
    unfold Hid;rw[Q.out,<-cl];show UInt8.ofNat 3::(aQ t++(UInt8.ofNat a.length::(a.flatMap aQ++(ar p.toNat++(ar g.toNat++(ar I.length++I))))))=_;simp
   have gs:=(gF c').1;have gf:t.length<=30000000:=by have:=(iy c').1;omega
   clear c' e8 cl Q;obtain⟨wL,bx⟩:∃wL,wL=h.alloc (.cells #[.int .u8 3] 5):=⟨_,rfl⟩;have a7:Ext h wL:=by rw[bx];exact(Ext.refl _).alloc _
   have P:Hid (Ow h.heap.size wL (.slice (some ⟨h.heap.size,0,none⟩) 1 1) [3]):=by rw[bx];exact World.ownsRow_lit h _ 1 (Nat.le_refl _) (by decide) rfl
   have bd:Hid (Ext h wL):=a7;have l3:=a7.cell d3;have l4:=a7.cell d4;have cx:=a7.size;have a9:Hid ((Value.slice (some ⟨h.heap.size,0,none⟩) 1 1).ownBlock≠some gb):=fun e=>by
    simp only[Value.ownBlock,Option.some.injEq]at e;omega
   have fv:Hid _:=bx;clear a7 bx;go_upto_region 16 with fail;rw[<-fv.out];have g3:=l3;apply aI 11 (fun z E=>ChN wL h.heap.size (.slice (some ⟨h.heap.size,0,none⟩) 1 1) [3] ([3]++aQ t) ([3]++aQ t++[cp]) [] (aQ t) [cp] [] (z 4) (z 10) none (z 3) (z 9) none E) [false,false,false,true,true,false,false,false,false,true,true] [_,_,_,undef,undef,_,_,_,.int .u8 cp.toNat,undef,undef] [none,none,none,none,none,none,none,none,none,none,none] [[],[],[1],[2],[0,3],[],[5],[6],[7],[8],[4,9]] (by kernel_rfl) (by kernel_rfl) rfl
   .exact ChN.start P.out ⟨rfl,rfl,rfl,Nat.le_refl _,fun _ _=>rfl⟩
   .simp (maxSteps:=1000000)only[de,cN,bR,cG,cS,List.getD_cons_zero,List.getD_cons_succ,Bool.false_eq_true,if_false,if_true,and_true,true_and,forall_const,Nat.zero_add,Nat.reduceAdd,List.take_succ_cons,List.take_zero,ab,Act.put,List.setIfInBounds_toArray,List.set_cons_zero,List.set_cons_succ];and_intros
    iterate 3 · intro j z G d;intros;rename_i y;have f3:=d.cell a9.out l3;have f4:=d.cell a9.out l4;go_simp;exact y _ _ d rfl
    .intro j z G d F r R y;rw[F]at d;go_simp;exact(nr t G gf).mono (by rintro e' E ⟨⟨K,rfl,h1⟩,N⟩;exact⟨_,rfl,y _ _ (d.C4 N fun _=>h1)⟩)
    .intro j z G d F r R y;obtain⟨C,D⟩:=r;rw[F]at d;obtain⟨K,E,V,B⟩:=d.CI D cx (by simp) (by omega);apply cL (.tmp 64) (.tmp 67) 37 (v:=j 0) (xv:=j 3) (v':=K) (w':=E)
     iterate 4
      .rfl
     .rw [C];exact V
     .exact y _ _ B
    iterate 4 · intro j z G d;intros;rename_i y;have f3:=d.cell a9.out l3;have f4:=d.cell a9.out l4;go_simp;exact y _ _ d rfl
    .intro j z G d F r R y;rw[F]at d;go_simp;exact y _ _ (d.C5 ((Ext.refl _).alloc _) (rg _ cp) (by simp))
    .intro j z G d F r R y;obtain⟨C,D⟩:=r;rw[F]at d;obtain⟨K,E,V,B⟩:=d.CJ D C cx (by simp;omega) (by simp);apply cL (.tmp 68) (.tmp 73) 37 (v:=j 4) (xv:=j 9) (v':=K) (w':=E)
     iterate 4
      .rfl
     .exact V
     .exact y _ _ B
   intro j w2 br r;simp only[di,List.getD_cons_zero,List.getD_cons_succ,Bool.false_eq_true,if_false,if_true]at br;simp only[bV,Nat.zero_add,Nat.reduceAdd,and_true]at r;simp(maxSteps:=1000000)only[List.drop_succ_cons,List.drop_zero,Nat.zero_add,Nat.reduceAdd,List.take_succ_cons,List.take_zero,ab,Act.put,List.setIfInBounds_toArray,List.set_cons_zero,List.set_cons_succ,r];clear r;generalize j 3=x3 at *;generalize j 4=x4 at *;generalize j 9=x9 at *;generalize j 10=fi at *;have b8:Hid (Ext h w2):=Below.grown bd.out br.ext cx (fun k r=>(P.out.lt k r).1);have fs:Hid (Ow h.heap.size w2 fi ([3]++aQ t++[cp])):=(br.CF rfl).1;clear br l3 l4 g3;go_wp2_with fail;go_loopw [4,7] (fun v i wr=>∃k:Nat,k<=a.length/\i=.int .i64 k/\Hid (Ow h.heap.size wr v ([3]++aQ t++[cp]++(a.take k).flatMap aQ))/\Hid (Ext h wr)) (fun _ i _=>a.length - (intOf i).toNat)
   case atStart=>exact⟨0,Nat.zero_le _,rfl,by unfold Hid;simpa using fs.out,b8⟩
   case round =>
   obtain⟨k,r,rfl,HO,S⟩:=hrel;have m4:=S.out.cell d4;have a':Hid (([3]++aQ t++[cp]++(a.take k).flatMap aQ).length<=1000):=by
    unfold Hid;have A:=kM a k eg.out;simp only[List.length_append,List.length_cons,List.length_nil];omega
   by_cases a5:k<a.length
   .obtain ⟨x,N⟩:∃x,a[k]? = some x:=⟨_,List.getElem?_eq_getElem a5⟩;obtain⟨bb,oo,f',hc⟩:=ef.out k a5;subst f';have y1:=S.out.cell (H.out.cell (hc k a5));rw[show a.getD k []=x by rw[List.getD_eq_getElem?_getD,N];rfl]at y1;have ds:al x=true:=List.all_eq_true.1 eg.out x (List.mem_of_getElem? N);have gh:x.length<=30000000:=by have:=(iy ds).1;omega
    have gv:=(gF ds).1;have b7:Hid ((a.take (k+1)).flatMap aQ=(a.take k).flatMap aQ++aQ x):=by
     unfold Hid;rw[List.take_add_one,N];simp
    clear N hc ds;go_wp2_with fail;go_at_call 147;refine(nr x _ gh).mono ?_;rintro e9 w6 ⟨⟨v6,rfl,a2⟩,W⟩;have b2:Hid (IsBytes w6 v6 (aQ x)):=a2;have au:Hid (Ow h.heap.size w6 u4 ([3]++aQ t++[cp]++(a.take k).flatMap aQ)):=am HO.out W;have a1:Hid (Ext h w6):=S.out.trans W;have cv:=a1.out.size;clear a2 W HO S
    go_wp2_with (at_builtin;go_must (refine iY rfl _ _ rfl rfl h.heap.size _ _ rfl au.out _ (aQ x) rfl b2.out (by have:=a'.out;omega) cv ?_;intro v7 w7 J a3 ct))
    have cb:Hid (Ext h w7):=aj a1.out au.out a3;have b6:Hid (Ow h.heap.size w7 v7 ([3]++aQ t++[cp]++(a.take (k+1)).flatMap aQ)):=by
     unfold Hid;rw[b7.out,<-List.append_assoc];exact J
    clear J a3 ct;go_wp2_with fail;go_roundw
    case rel=>exact⟨k+1,by omega,by go_num,b6,cb⟩
    case measure=>simp[intOf];omega
   .have co:k=a.length:=by omega
    subst co;rw[List.take_length]at HO a';have n5:=S.out.cell d5;have n6:=S.out.cell d6;have n7:=S.out.cell d7;obtain⟨X,T⟩:∃l,[3]++aQ t++[cp]++a.flatMap aQ=l:=⟨_,rfl⟩;rw[T]at HO a';have b3:Hid _:=T;have eo:=a'.out;have L:Hid (u4.ownBlock≠some gb):=fun e=>by have:=(HO.out.lt _ e).1;omega
    have bt:=S.out.size;have g5:=bH (n:=p.toNat) (by unfold bi;omega);have g6:=bH (n:=g.toNat) (by unfold bi;omega);have g7:=bH (n:=I.length) (by unfold bi;omega);clear T r;go_upto_region 21 with fail;apply aI 14 (fun z E=>ChN wr h.heap.size u4 X (X++ar p.toNat) (X++ar p.toNat++ar g.toNat) (X++ar p.toNat++ar g.toNat++ar I.length) (ar p.toNat) (ar g.toNat) (ar I.length) (z 4) (z 8) (z 13) (z 3) (z 7) (z 12) E) [false,false,false,true,true,false,false,true,true,false,false,false,true,true] [_,_,_,undef,undef,_,_,undef,undef,_,_,_,undef,undef] [none,none,none,none,none,none,none,none,none,none,none,none,none,none] [[],[],[1],[2],[0,3],[],[5],[6],[4,7],[],[9],[10],[11],[8,12]] (by kernel_rfl) (by kernel_rfl) rfl
    .exact ChN.start HO.out ⟨rfl,rfl,rfl,Nat.le_refl _,fun _ _=>rfl⟩
    .simp (maxSteps:=1000000)only[de,cN,bR,cG,cS,List.getD_cons_zero,List.getD_cons_succ,Bool.false_eq_true,if_false,if_true,and_true,true_and,forall_const,Nat.zero_add,Nat.reduceAdd,List.take_succ_cons,List.take_zero,ab,Act.put,List.setIfInBounds_toArray,List.set_cons_zero,List.set_cons_succ];and_intros
     iterate 3 · intro j z G d;intros;rename_i y;have f5:=d.cell L.out n5;have f6:=d.cell L.out n6;have f7:=d.cell L.out n7;go_simp;exact y _ _ d rfl
     .intro j z G d F r R y;rw[F]at d;go_simp;exact(jn p G).mono (by rintro e' E ⟨⟨K,rfl,h1⟩,N⟩;rw[mi _ (by omega) (by unfold bi;omega)]at h1;exact⟨_,rfl,y _ _ (d.C4 N fun _=>pM h1 (by omega))⟩)
     .intro j z G d F r R y;obtain⟨C,D⟩:=r;rw[F]at d;obtain⟨K,E,V,B⟩:=d.CI D bt (by omega) (by omega);apply cL (.tmp 90) (.tmp 93) 37 (v:=j 0) (xv:=j 3) (v':=K) (w':=E)
      iterate 4
       .rfl
      .rw [C];exact V
      .exact y _ _ B
     iterate 2 · intro j z G d;intros;rename_i y;have f5:=d.cell L.out n5;have f6:=d.cell L.out n6;have f7:=d.cell L.out n7;go_simp;exact y _ _ d rfl
     .intro j z G d F r R y;rw[F]at d;go_simp;exact(jn g G).mono (by rintro e' E ⟨⟨K,rfl,h1⟩,N⟩;rw[mi _ (by omega) (by unfold bi;omega)]at h1;exact⟨_,rfl,y _ _ (d.C5 N h1 (by omega))⟩)
     .intro j z G d F r R y;obtain⟨C,D⟩:=r;rw[F]at d;obtain⟨K,E,V,B⟩:=d.CJ D C bt (by simp only[List.length_append];omega) (by omega);apply cL (.tmp 94) (.tmp 97) 37 (v:=j 4) (xv:=j 7) (v':=K) (w':=E)
      iterate 4
       .rfl
      .exact V
      .exact y _ _ B
     iterate 3 · intro j z G d;intros;rename_i y;have f5:=d.cell L.out n5;have f6:=d.cell L.out n6;have f7:=d.cell L.out n7;go_simp;exact y _ _ d rfl
     .intro j z G d F r R y;rw[F]at d;go_simp;exact(jn I.length G).mono (by rintro e' E ⟨⟨K,rfl,h1⟩,N⟩;rw[iU _ (by unfold bi;omega)]at h1;exact⟨_,rfl,y _ _ (d.DC N h1 (by omega))⟩)
     .intro j z G d F r R y;obtain⟨C,D⟩:=r;rw[F]at d;obtain⟨K,E,V,B⟩:=d.Dy D C bt (by simp only[List.length_append];omega) (by omega);apply cL (.tmp 98) (.tmp 102) 37 (v:=j 8) (xv:=j 12) (v':=K) (w':=E)
      iterate 4
       .rfl
      .exact V
      .exact y _ _ B
    intro j w3 bs r;simp only[di,List.getD_cons_zero,List.getD_cons_succ,Bool.false_eq_true,if_false,if_true]at bs;simp only[bV,Nat.zero_add,Nat.reduceAdd,and_true]at r;simp(maxSteps:=1000000)only[List.drop_succ_cons,List.drop_zero,Nat.zero_add,Nat.reduceAdd,List.take_succ_cons,List.take_zero,ab,Act.put,List.setIfInBounds_toArray,List.set_cons_zero,List.set_cons_succ,r];clear r;generalize j 3=x3 at *;generalize j 4=x4 at *;generalize j 7=x7 at *;generalize j 8=x8 at *;generalize j 12=ha at *;generalize j 13=b0 at *;have b9:Hid (Ext h w3):=Below.grown S.out bs.ext bt (fun k r=>(HO.out.lt k r).1);have U:=(bs.CQ rfl).1;obtain⟨L3,bk⟩:∃l,X++ar p.toNat++ar g.toNat++ar I.length=l:=⟨_,rfl⟩;have gm:L3.length<=1100:=by
     rw[<-bk];simp only[List.length_append];omega
    have fr:Hid _:=bk;rw[bk]at U;have ea:Hid (Ow h.heap.size w3 b0 L3):=U;have q7:=b9.out.cell d7;have gc:=b9.out.size;clear bk U bs n5 n6 n7
    go_wp2_with (at_builtin;go_must (refine vj rfl _ _ rfl rfl h.heap.size _ L3 rfl ea.out I rfl (by omega) gc ?_;intro K w4 cu fz g2))
    go_ret2;refine⟨⟨_,rfl,?_⟩,H.out.trans (aj b9.out ea.out fz)⟩;have A:=cu.mono H.out.size;rw[ad.out,b3.out,fr.out];exact A
end
end Go.Proofs.YtfabjgfmiaammaaGreatDoor
