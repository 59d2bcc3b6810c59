/- Contracts of the program's functions and plain laws behind the card. Conditions: as each theorem states. -/
import Derived.Test.YtfabjgfmiaammaaGreatDoorYbi
import Derived.Test.YtfabjgfmiaammaaGreatDoorYbh
import Derived.Test.YtfabjgfmiaammaaGreatDoorYat
import Derived.Test.YtfabjgfmiaammaaGreatDoorYbe
import Derived.Test.YtfabjgfmiaammaaGreatDoorYbc
import Derived.Deep.DeepCutAuto
import Derived.Test.YtfabjgfmiaammaaGreatDoorYau
set_option linter.unusedVariables false
set_option linter.unusedSimpArgs false
set_option linter.unusedSectionVars false
set_option maxRecDepth 100000
set_option maxHeartbeats 64000000
namespace Go.Proofs.YtfabjgfmiaammaaGreatDoor
section
open Go Go.RowKit
def fN (n:Int) (o:Ob):Int:=if(aW o).2=0 then fF n (aW o).1 else n
theorem ik (o:Ob):(aW o).1.length<=100000:=by
 unfold aW;split
 .rename_i c;obtain⟨k,i,b,l,a,e,d,h⟩:=o;have j:=kE c;unfold bP at c;dsimp only at j c ⊢;unfold eI l7;dsimp only;rcases j with rfl | rfl | rfl
  .rw [if_pos rfl]at c;simp only[Bool.and_eq_true,decide_eq_true_eq]at c;rw[if_pos rfl,List.length_cons];omega
  .rw [if_neg (show ¬(2:Int)=1 by decide),if_pos rfl]at c;simp only[Bool.and_eq_true,cI,List.all_eq_true,decide_eq_true_eq]at c;have g:=ku b b.length c.2.1.1;have p:=bH (n:=b.length) (by unfold bi;omega);rw[List.take_length]at g;rw[if_neg (show ¬(2:Int)=1 by decide),if_pos rfl,List.length_cons,List.length_append];omega
  .rw [if_neg (show ¬(3:Int)=1 by decide),if_neg (show ¬(3:Int)=2 by decide),if_pos rfl]at c;simp only[Bool.and_eq_true,dJ,dS,decide_eq_true_eq]at c;have g:=kM a a.length c.2.2.2.1.1;have p:=(gF c.2.2.1).1;have q:=bH (n:=e.toNat) (by unfold bi;omega);have r:=bH (n:=d.toNat) (by unfold bi;omega);have t:=bH (n:=h.length) (by unfold bi;omega);rw[List.take_length]at g;rw[if_neg (show ¬(3:Int)=1 by decide),if_neg (show ¬(3:Int)=2 by decide)];simp only[List.length_cons,List.length_append];omega
 .simp
theorem mU (o:Ob):(aW o).1.length<=140737488355328:=Nat.le_trans (ik o) (by decide)
variable [Inhabited bf] [KW:Inhabited cZ]
variable {w0 w:World} {f:Value} {gs gc k:Nat} {m:Fs} {n:Int}
theorem nu {S O:Nat->Prop} (v:Value) (o:Ob) (h:St w0 S O w f gs gc m n) (hE:Env w0) (hS:EnvS w0) (hg:Good k m) (hk:k<=79800) (U:0<=n) (V:n<=100000) (hv:IsOb w v o) (hs:dv o) :
  Calls Tryz.prog 32 #[.pointer (some ⟨gs,0,none⟩),v] w fun e w'=>∃(O':Nat->Prop) (n':Int),e=.returned (.tuple #[S8 (dj m o).2.1,.int .i64 (dj m o).2.2])/\n'=fN n o/\St w0 S O' w' f gs gc (dj m o).1 n':=by
 have H:Hid (St w0 S O w f gs gc m n):=h;have HE:Hid (Env w0):=hE;have HS:Hid (EnvS w0):=hS;have HG:Hid (Good k m):=hg;obtain⟨J,K,L,rfl,hd,hi,hp⟩:=hv;obtain⟨x,g⟩:∃x,x=w.alloc (.cells #[.int .i64 o.kind,J,K,S8 o.tree,L,.int .i64 o.BU,.int .i64 o.BS,S8 o.msg] 41):=⟨_,rfl⟩;have d:Ext w x:=by rw[g];exact(Ext.refl _).alloc _
 have l:x.heap[w.heap.size]? = some (.cells #[.int .i64 o.kind,J,K,S8 o.tree,L,.int .i64 o.BU,.int .i64 o.BS,S8 o.msg] 41 (0,0)):=by rw[g];exact ae _ _
 have c:Hid _:=nk (obV o J K L) o x ⟨J,K,L,rfl,hd.ext d,hi.ext d,hp.ext d⟩ hs;obtain⟨gb,T⟩:∃gb,w.heap.size=gb:=⟨_,rfl⟩;rw[T]at l;obtain⟨c0,c1,c2,c3,c4,c5,c6,c7⟩:=ah l;have Q:Hid (Ext w x):=d;have P:Hid _:=g;obtain⟨⟨b,j⟩,t⟩:∃q,aW o=q:=⟨_,rfl⟩;have E:dj m o=if j≠0 then(m,[],j)else bQ m b:=by unfold dj;rw[t]
 have A:Hid _:=E;obtain⟨X,r⟩:∃q,fN n o=q:=⟨_,rfl⟩;have D:X=if j=0 then fF n b else n:=by rw[<-r];unfold fN;rw[t]
 have z:Hid _:=D;obtain⟨⟨m2,id,e2⟩,p⟩:∃q,dj m o=q:=⟨_,rfl⟩;have y:Hid _:=p;have B:b.length<=140737488355328:=by
  have I:=c.out;rw[t]at I
  by_cases h0:b.length<=140737488355328
  .exact h0
  .exfalso;have hb:(aW o).1.length<=140737488355328:=mU o;rw[t]at hb;exact h0 hb
 rw[t]at c;rw[p,r];unfold obV at c ⊢;clear h hE hS hg hd hi hp g d l E p t hs r D;go_enter Tryz.func32,Tryz.ntmps32;go_upto_region 1 with fail;rw[<-P.out];go_wp2_with fail;go_at_call 85;refine Calls.mono c.out ?_;rintro e9 w1 ⟨⟨u,rfl,W⟩,G⟩;have Y:Hid (St w0 S O w1 f gs gc m n):=H.out.more (Q.out.trans G);have HU:Hid (Arg w0 w1 u b):=.inr ⟨by unfold IsBytes;exact Row.BV W B,TypB.BV W⟩;clear G W c
 try dsimp only
 by_cases a:j=0
 .have C:(j==0)=true:=by simpa using a
  have M:Hid (bQ m b=(m2,id,e2)):=by
   unfold Hid;rw[<-y.out,A.out,if_neg (by simpa using a)]
  have i:Hid (X=fF n b):=by unfold Hid;rw[z.out,if_pos a]
  have R:=iD u b Y.out HE.out HS.out HG.out hk U V HU.out B;rw[M.out]at R;have Z:Hid _:=R;clear R a;go_wp2_with fail;go_at_call 24;refine Calls.mono Z.out ?_;rintro e9 w2 ⟨O2,n2,rfl,hn,F⟩;have N:Hid _:=F;clear F Z;go_wp2;go_ret2;exact⟨O2,n2,rfl,hn.trans i.out.symm,N.out⟩
 .have C:(j==0)=false:=by simpa using a
  have i:Hid (X=n):=by unfold Hid;rw[z.out,if_neg a]
  obtain⟨rfl,rfl,rfl⟩:m=m2/\[]=id/\j=e2:=by
   have I:=A.out;rw[if_pos a,y.out]at I;have h8:=Prod.mk.inj I;have h7:=Prod.mk.inj h8.2;exact⟨h8.1.symm,h7.1.symm,h7.2.symm⟩
  clear a;go_wp2;go_ret2;exact⟨O,n,rfl,i.out.symm,Y.out⟩
theorem jr {S O:Nat->Prop} (id:B8) (h:St w0 S O w f gs gc m n) (hE:Env w0) (hS:EnvS w0) (hg:Good k m) (hk:k<=79800) (a1:0<=n) (a2:n<=100000) (hid:id.length<=10000000) :
  Calls Tryz.prog 35 #[.pointer (some ⟨gs,0,none⟩),S8 id] w fun e w'=>∃(v:Value) (O':Nat->Prop) (n':Int),e=.returned (.tuple #[v,.int .i64 (bj m id).2.2])/\(IsBytes w' v (bj m id).2.1/\TypB w' v)/\KeepB w w'/\n'=ck n id/\St w0 S O' w' f gs gc (bj m id).1 n':=by
 have H:Hid (St w0 S O w f gs gc m n):=h;have HE:Hid (Env w0):=hE;have HS:Hid (EnvS w0):=hS;have HG:Hid (Good k m):=hg;obtain⟨vb,aa⟩:∃c,al id=c:=⟨_,rfl⟩;have g:Hid _:=aa;obtain⟨⟨m2,T,U⟩,A⟩:∃q,bj m id=q:=⟨_,rfl⟩;have u:Hid _:=A;rw[A];obtain⟨n2,B⟩:∃x,ck n id=x:=⟨_,rfl⟩;have N:Hid _:=B;rw[B];clear h hE hS hg A aa B;go_enter Tryz.func35,Tryz.ntmps35;go_wp2_with fail;go_at_call 17;refine(fp id w (by omega)).mono ?_;rw[g.out];rintro e9 w1 ⟨rfl,E⟩;have H1:Hid (St w0 S O w1 f gs gc m n):=H.out.more E;have K:Hid (KeepB w w1):=KeepB.BX E;clear E
 cases vb with
 | false =>
  obtain⟨rfl,rfl,rfl⟩:m=m2/\[]=T/\6=U:=by
   have a:=u.out;unfold bj at a;rw[if_pos g.out]at a;have d:=Prod.mk.inj a;exact⟨d.1,(Prod.mk.inj d.2).1,(Prod.mk.inj d.2).2⟩
  have hn:n2=n:=by rw[<-N.out];unfold ck;rw[g.out];rfl
  go_wp2;go_ret2;exact⟨_,O,n,rfl,⟨IsBytes.nil _,TypB.nil _ _ _⟩,K.out,hn.symm,H1.out⟩
 | true =>
  have a5:id.length=64:=by
   have a:=g.out;unfold al at a
   cases hu:aY id with
   | none=>rw[hu]at a;cases a
   | some b =>
    rw[hu]at a;have d:=(dN id hu).1;have:b.length=32:=by simpa using a
    omega
  have hn:n2=n+1:=by rw[<-N.out];unfold ck;rw[g.out];rfl
  have HN:Hid _:=hn;obtain⟨⟨r,l,F⟩,hr⟩:∃q,aF m (ai id)=q:=⟨_,rfl⟩;have HR:Hid _:=hr;have Y:bj m id=if F≠0 then(r,[],F)else if aR l.data≠id then(r,[],5)else(r,l.data,0):=by
   unfold bj;rw[if_neg (by rw[g.out];simp),hr]
  have J:Hid _:=Y;have C:=pU id H1.out HE.out HG.out (by omega) a1 a2 (by omega);have W:=jl (p:=ai id) HG.out.ok HG.out.plan;rw[hr]at C W;simp only at W;have P:Hid _:=C;clear hr C Y hn;go_wp2_with fail;go_at_call 75;refine Calls.mono P.out ?_;rintro e9 I ⟨v3,R,rfl,z,Z,h3⟩;have L:Hid (KeepB w I):=K.out.trans Z;have t:Hid _:=z;have H3:Hid (St w0 S R I f gs gc r (n+1)):=h3;have V:=z.1;obtain⟨s3,t3,rfl,-⟩:=V;clear Z z h3 P
  try dsimp only
  by_cases i:F=0
  case neg =>
   have X:(F==0)=false:=by simpa using i
   obtain⟨rfl,rfl,rfl⟩:r=m2/\[]=T/\F=U:=by
    have a:=J.out;rw[u.out,if_pos i]at a;have d:=Prod.mk.inj a;exact⟨d.1.symm,(Prod.mk.inj d.2).1.symm,(Prod.mk.inj d.2).2.symm⟩
   clear i;go_wp2;go_ret2;exact⟨_,R,n+1,rfl,⟨IsBytes.nil _,TypB.nil _ _ _⟩,L.out,HN.out.symm,H3.out⟩
  have X:(F==0)=true:=by simpa using i
  have j:Hid ((m2,T,U)=if aR l.data≠id then(r,[],5)else(r,l.data,0)):=by
   unfold Hid;rw[<-u.out,J.out,if_neg (by simpa using i)]
  clear i;go_wp2_with fail;go_at_call 73;refine(jS _ l.data I t.out.1 (by omega)).mono ?_;rintro e w4 ⟨⟨u1,rfl,au⟩,ad⟩;have Q:Hid _:=au;have y:Hid (Ext I w4):=ad;have a4:2<=I.heap.size:=by have:=H3.out.one.ext.size;have:=HS.out.two;omega
  clear au ad;go_wp2_with fail;go_at_call 74;refine(kz I w4 l.data u1 (EnvS.ext HS.out (H3.out.one.ext.trans y.out)) a4 y.out Q.out (by omega)).mono ?_;rintro e w5 ⟨rfl,o⟩;have H5:Hid (St w0 S R w5 f gs gc r (n+1)):=H3.out.more o;have M:Hid (KeepB w w5):=L.out.trans (KeepB.BX o);have a0:Hid (IsBytes w5 (.slice s3 l.data.length t3) l.data/\TypB w5 (.slice s3 l.data.length t3)):=⟨IsBytes.ext t.out.1 o,t.out.2.keep (KeepB.BX o)⟩;clear o y Q;obtain⟨sx,D⟩:∃s,aR l.data=s:=⟨_,rfl⟩;rw[D]at j ⊢
  by_cases G:sx=id
  .have a3:(sx==id)=true:=by simpa using G
   obtain⟨rfl,rfl,rfl⟩:r=m2/\l.data=T/\0=U:=by
    have a:=j.out;rw[if_neg (by simpa using G)]at a;have d:=Prod.mk.inj a;exact⟨d.1.symm,(Prod.mk.inj d.2).1.symm,(Prod.mk.inj d.2).2.symm⟩
   clear G D;go_wp2;go_ret2;exact⟨_,R,n+1,rfl,a0.out,M.out,HN.out.symm,H5.out⟩
  .have a3:(sx==id)=false:=by simpa using G
   obtain⟨rfl,rfl,rfl⟩:r=m2/\[]=T/\5=U:=by
    have a:=j.out;rw[if_pos G]at a;have d:=Prod.mk.inj a;exact⟨d.1.symm,(Prod.mk.inj d.2).1.symm,(Prod.mk.inj d.2).2.symm⟩
   clear G D;go_wp2;go_ret2;exact⟨_,R,n+1,rfl,⟨IsBytes.nil _,TypB.nil _ _ _⟩,M.out,HN.out.symm,H5.out⟩
theorem lQ {S O:Nat->Prop} (id:B8) (h:St w0 S O w f gs gc m n) (z:Env w0) (A:EnvS w0) (B:Good k m) (H:k<=79800) (u:0<=n) (y:n<=100000) (hid:id.length<=10000000) :
  Calls Tryz.prog 20 #[.pointer (some ⟨gs,0,none⟩),S8 id] w fun e E=>∃(O':Nat->Prop) (n':Int),e=.returned (.bool (gM m id))/\KeepB w E/\n'=ck n id/\St w0 S O' E f gs gc (bj m id).1 n':=by
 have j:Hid _:=jr id h z A B H u y hid;obtain⟨⟨L,J,r⟩,a⟩:∃q,bj m id=q:=⟨_,rfl⟩;have C:gM m id=decide (r=0):=by unfold gM;rw[a]
 rw[C];rw[a]at j ⊢;obtain⟨G,t⟩:∃b,(r==0)=b:=⟨_,rfl⟩;have d:decide (r=0)=G:=by rw[<-t];rfl
 obtain⟨M,c⟩:∃x,ck n id=x:=⟨_,rfl⟩;rw[d,c];rw[c]at j;clear C a h z A B d c;go_enter Tryz.func20,Tryz.ntmps20;go_wp2_with fail;go_at_call 35;refine Calls.mono j.out ?_;rintro K N ⟨v,F,I,rfl,-,g,D,i⟩;have p:Hid _:=i;have l:Hid _:=g;have o:Hid _:=D;clear i g D j;go_wp2;go_ret;exact⟨F,I,rfl,l.out,o.out,p.out⟩
theorem qt {S O:Nat->Prop} (id:B8) (h:St w0 S O w f gs gc m n) (E:Env w0) (F:Good k m) (l:k<=79800) (hid:id.length<=10000000) :
  Calls Tryz.prog 42 #[.pointer (some ⟨gs,0,none⟩),S8 id] w fun e V=>∃(O':Nat->Prop),e=.returned (.int .i64 (dB m id).2)/\St w0 S O' V f gs gc (dB m id).1 n:=by
 have H:Hid (St w0 S O w f gs gc m n):=h;have N:Hid (Env w0):=E;have P:Hid (Good k m):=F;obtain⟨g,rfl⟩:∃g,f=.pointer (some ⟨g,0,none⟩):=by
  obtain⟨g,gm,gd,vp,vl,vu,L,Y,z,-⟩:=h.one.fs;exact⟨g,z⟩
 obtain⟨U,p⟩:∃c,al id=c:=⟨_,rfl⟩;have d:Hid _:=p;obtain⟨⟨I,D⟩,i⟩:∃q,dB m id=q:=⟨_,rfl⟩;have j:Hid _:=i;rw[i];clear h E F i p;go_enter Tryz.func42,Tryz.ntmps42;go_wp2_with fail;go_at_call 17;refine(fp id w (by omega)).mono ?_;rw[d.out];rintro e9 J ⟨rfl,r⟩;have u:Hid (St w0 S O J (.pointer (some ⟨g,0,none⟩)) gs gc m n):=H.out.more r;clear r
 cases U with
 | false =>
  obtain⟨rfl,rfl⟩:m=I/\6=D:=by
   have a:=j.out;unfold dB at a;rw[if_pos d.out]at a;exact⟨(Prod.mk.inj a).1,(Prod.mk.inj a).2⟩
  go_wp2;go_ret;exact⟨O,rfl,u.out⟩
 | true =>
  have Q:id.length=64:=by
   have a:=d.out;unfold al at a
   cases A:aY id with
   | none=>rw[A]at a;cases a
   | some b =>
    rw[A]at a;have h8:=(dN id A).1;have:b.length=32:=by simpa using a
    omega
  have x:Hid (bD m (ai id)=(I,D)):=by
   have a:=j.out;unfold dB at a;rw[if_neg (by rw[d.out];simp)]at a;exact a
  have C:J.cell? ⟨gs,0,none⟩=some (.pointer (some ⟨g,0,none⟩)):=(cell_of_row _ _ 0 _ _ _ u.out.row).trans rfl;have T:(ai id).length<=400:=by unfold ai;simp;omega
  go_upto_region 3 with fail;apply ak 6 [_,_,_,.pointer (some ⟨g,0,none⟩),_,S8 (ai id)] [none,none,none,none,none,none] [[],[0],[1],[2],[],[4]] (by kernel_rfl) (by kernel_rfl) (by simp[aq])
  .trivial
  .simp (maxSteps:=1000000)only[List.take_succ_cons,List.take_zero,ay,aE,ab,Act.put,List.setIfInBounds_toArray,List.set_cons_zero,List.set_cons_succ,aN,aS,aq,List.getD_cons_zero,List.getD_cons_succ,and_true,true_and,forall_const];and_intros
   iterate 5 · intro K X G;intros;rename_i y;have f0:=G.cell C;go_simp;exact y _ _ (Ext.refl _) rfl
   .intro K X G l R y;go_simp;exact(iH id _ (by omega)).mono (by rintro Z w4 ⟨rfl,rfl⟩;exact⟨_,rfl,y _ _ (Ext.refl _) rfl⟩)
  intro K W t l;simp only[aU,Nat.zero_add,Nat.reduceAdd,and_true]at l;simp(maxSteps:=1000000)only[List.take_succ_cons,List.take_zero,List.drop_succ_cons,List.drop_zero,ab,Act.put,List.setIfInBounds_toArray,List.set_cons_zero,List.set_cons_succ,Nat.zero_add,Nat.reduceAdd,l];clear l;have B:Hid (St w0 S _ W (.pointer (some ⟨g,0,none⟩)) gs gc m n):=St.more u.out t;clear t C;go_wp2_with fail;go_at_call 93;refine(kN (ai id) (One.fin B.out.one N.out P.out (by omega)) (by omega)).mono ?_;rw[x.out];rintro e w6 ⟨rfl,o⟩;have M:Hid _:=St.post B.out o;clear o;go_wp2;go_ret;exact⟨_,rfl,M.out⟩
theorem pf {S O:Nat->Prop} (h:St w0 S O w f gs gc m n) (z:Env w0) (A:Good k m) (K:k<=79800) :
  Calls Tryz.prog 44 #[.pointer (some ⟨gs,0,none⟩)] w fun e E=>∃(O':Nat->Prop),e=.returned (.int .i64 (dW m).2)/\St w0 S O' E f gs gc (dW m).1 n:=by
 have H:Hid (St w0 S O w f gs gc m n):=h;have C:Hid (Env w0):=z;have D:Hid (Good k m):=A;obtain⟨g,rfl⟩:∃g,f=.pointer (some ⟨g,0,none⟩):=by
  obtain⟨g,J,I,N,M,P,L,F,x,-⟩:=h.one.fs;exact⟨g,x⟩
 have G:w.cell? ⟨gs,0,none⟩=some (.pointer (some ⟨g,0,none⟩)):=(cell_of_row _ _ 0 _ _ _ h.row).trans rfl;obtain⟨⟨p,d⟩,c⟩:∃q,bD m bO=q:=⟨_,rfl⟩;have t:Hid _:=c;have b:dW m=if d≠7 then(p,d)else(p,0):=by unfold dW;rw[c]
 obtain⟨⟨B,y⟩,l⟩:∃q,dW m=q:=⟨_,rfl⟩;rw[l]at b ⊢;have j:Hid _:=b;clear h z A c l b;go_enter Tryz.func44,Tryz.ntmps44;go_wp2_with fail;go_at_call 93;refine(kN bO (One.fin H.out.one C.out D.out (by omega)) (by decide)).mono ?_;rw[t.out];rintro e Q ⟨rfl,o⟩;have r:Hid _:=St.post H.out o;clear o
 try dsimp only at r ⊢
 by_cases i:d=7
 .have u:(d==7)=true:=by simpa using i
  obtain⟨rfl,rfl⟩:p=B/\0=y:=by
   have a:=j.out;rw[if_neg (by simpa using i)]at a;exact⟨(Prod.mk.inj a).1.symm,(Prod.mk.inj a).2.symm⟩
  clear i;go_wp2;go_ret;exact⟨_,rfl,r.out⟩
 .have u:(d==7)=false:=by simpa using i
  obtain⟨rfl,rfl⟩:p=B/\d=y:=by
   have a:=j.out;rw[if_pos i]at a;exact⟨(Prod.mk.inj a).1.symm,(Prod.mk.inj a).2.symm⟩
  clear i;go_wp2;go_ret;exact⟨_,rfl,r.out⟩
end
section
open Go Go.RowKit
theorem BO {b:Nat} (c:UInt8) (g:b<72057594037927936):bits BinOp.or IntKind.i64 (wrap64 ((b:Int)*128)) (((c.toNat%128:Nat):Int))=((c.toNat%128+128*b:Nat):Int):=by
 have e:=Nat.mod_lt c.toNat (show 128>0 by omega);have a:(2:Int) ^ 63=9223372036854775808:=by decide +kernel
 have d:(2:Int) ^ 7=128:=by decide +kernel
 rw[IntWalk.wrap64_in _ (by omega)];have h:=bits_join .i64 63 (by decide) qg 7 ((b:Int)*128) (((c.toNat%128:Nat):Int)) (by omega) (by rw[d];omega) (by rw[a];omega) (by omega) (by rw[d];omega) (by rw[a];omega);rw[h];omega
def kw (b:B8) (p:Nat):Nat×Nat×Int:=if(cR (b.drop p)).2.2=0 then((cR (b.drop p)).1,p+(cR (b.drop p)).2.1,0)else(0,0,(cR (b.drop p)).2.2)
theorem p5 {w:World} {b c a:Nat} {l:B8} (p n:Nat) (h:IsBytes w (.slice (some ⟨b,c,none⟩) l.length a) l) (g:p+n<=l.length):IsBytes w (.slice (some ⟨b,c+p,none⟩) n (a - p)) ((l.drop p).take n):=by
 have d:=IsBytes.from p h (by omega) ⟨b,c+p,none⟩ (fun _=>rfl);have e:l.length - p=(l.drop p).length:=by rw[List.length_drop]
 rw[e]at d;exact IsBytes.take d (by rw[List.length_drop];omega)
theorem xb (v:Value) (b:B8) (p:Nat) (w:World) (O:IsBytes w v b) (hp:p<=b.length) :
  Calls Tryz.prog 209 #[v,.int .i64 p] w fun e w'=>e=.returned (.tuple #[.int .i64 (kw b p).1,.int .i64 (kw b p).2.1,.int .i64 (kw b p).2.2])/\Ext w w':=by
 have HV:Hid _:=O;obtain⟨a,c,rfl,l1,l2,l3,hg⟩:=O.get;have HG:Hid _:=hg;obtain⟨d,hd⟩:∃d,b.drop p=d:=⟨_,rfl⟩;have br:d.length=b.length - p:=by rw[<-hd,List.length_drop]
 have bl:=rl d;obtain⟨q,hq⟩:∃q,kw b p=q:=⟨_,rfl⟩;rw[hq];have a1:q=if(cR d).2.2=0 then((cR d).1,p+(cR d).2.1,0)else(0,0,(cR d).2.2):=by rw[<-hq,<-hd];rfl
 have HQ:Hid _:=a1;have F:Hid _:=hd;have bt:¬(p:Int)<0:=by omega
 have bv:¬(b.length:Int)<(p:Int):=by omega
 clear O hg hq a1 hd;go_enter Tryz.func209,Tryz.ntmps209;go_wp2_with fail;go_loopw [7] (fun i wr=>∃k:Nat,k<=cK d/\i=.int .i64 ((p+k:Nat):Int)/\Hid (cK d=k+cK (d.drop k))/\Hid (Ext w wr)) (fun i _=>b.length - (intOf i).toNat)
 case atStart=>exact⟨0,Nat.zero_le _,rfl,(by unfold Hid;simp),Ext.refl _⟩
 case round =>
  obtain⟨k,hk,rfl,HM,u⟩:=hrel;obtain⟨s,hs⟩:∃s,p+k=s:=⟨_,rfl⟩;rw[hs];have bx:s - p=k:=by omega
  by_cases L:s<b.length
  .obtain ⟨x,hx⟩:∃x,b[s]? = some x:=⟨_,List.getElem?_eq_getElem L⟩;have D:d[k]? = some x:=by rw[<-F.out,List.getElem?_drop,hs,hx]
   have Z:k<d.length:=by omega
   have J:d.drop k=x::d.drop (k+1):=by
    rw[List.drop_eq_getElem_cons Z];rw[List.getElem?_eq_getElem Z]at D;rw[Option.some.inj D]
   have l:=HM.out;rw[J,nX]at l;obtain⟨bb,oo,rfl,Q⟩:=HG.out s L;have y1:=u.out.cell (Q s L);rw[show b.getD s 0=x by rw[List.getD_eq_getElem?_getD,hx];rfl]at y1;have aa:(s:Int)<(b.length:Int):=by omega
   by_cases h7:127<x.toNat
   .have a9:(127:Int)<(x.toNat:Int):=by omega
    rw[if_pos h7]at l;have r:Hid _:=l;clear l h7 J hx D Q;go_wp2_with fail;go_roundw
    case rel=>exact⟨k+1,by have:=r.out;omega,congrArg (Value.int .i64) (by omega),(by unfold Hid;have:=r.out;omega),u⟩
    case measure=>simp[intOf];omega
   .have a9:¬(127:Int)<(x.toNat:Int):=by omega
    rw[if_neg h7]at l;have r:Hid (cK d=k):=l;have ba:((s:Int)==(b.length:Int))=false:=by rw[beq_eq_false_iff_ne];omega
    have bo:wrap64 ((s:Int) - (p:Int))=(k:Int):=by rw[IntWalk.wrap64_in _ (by omega)];omega
    clear l h7 J hx D Q
    by_cases h9:8<k
    .have a':(8:Int)<(k:Int):=by omega
     have A:Hid (q=(0,0,4)):=by
      have o:cR d=(0,0,4):=by
       have l:=r.out;unfold cR;rw[if_neg (by omega),if_pos (by omega)]
      unfold Hid;rw[HQ.out,o];rfl
     go_wp2;go_ret3;exact⟨by rw[A.out];rfl,u.out⟩
    have a':¬(8:Int)<(k:Int):=by omega
    obtain⟨t,ht⟩:∃t,d.take (k+1)=t:=⟨_,rfl⟩;have bh:t.length=k+1:=by rw[<-ht,List.length_take];omega
    have HT:Hid _:=ht;clear ht;go_wp2_with fail;go_loopw [8,9] (fun g iv wr=>∃j:Nat,j<=k+1/\iv=.int .i64 ((p:Int)+(j:Int) - 1)/\g=.int .i64 ((dR (t.drop j):Nat):Int)/\Hid (Ext w wr)) (fun _ iv _=>(intOf iv+1 - (p:Int)).toNat)
    case atStart=>exact⟨k+1,Nat.le_refl _,congrArg (Value.int .i64) (by omega),by rw[List.drop_eq_nil_of_le (by omega)];rfl,u⟩
    case round =>
     obtain⟨j,hj,rfl,rfl,u⟩:=hrel
     cases j with
     | succ j =>
      obtain⟨E,bd⟩:∃E,p+j=E:=⟨_,rfl⟩;rw[show(p:Int)+((j+1:Nat):Int) - 1=(E:Int)by omega];have K:E<b.length:=by omega
      obtain⟨R,P⟩:∃x,b[E]? = some x:=⟨_,List.getElem?_eq_getElem K⟩;obtain⟨_,_,he,Q⟩:=HG.out E K;cases he;have y2:=u.out.cell (Q E K);rw[show b.getD E 0=R by rw[List.getD_eq_getElem?_getD,P];rfl]at y2;have bk:=vf R;have a3:t.drop j=R::t.drop (j+1):=by
       have Y:j<t.length:=by omega
       rw[List.drop_eq_getElem_cons Y];have I:t[j]? = some R:=by rw[<-HT.out,List.getElem?_take_of_lt (by omega),<-F.out,List.getElem?_drop,bd,P]
       rw[List.getElem?_eq_getElem Y]at I;rw[Option.some.inj I]
      obtain⟨g,n⟩:∃g,dR (t.drop (j+1))=g:=⟨_,rfl⟩;have a5:dR (t.drop j)=R.toNat%128+128*g:=by rw[a3,<-n];rfl
      rw[n];have au:g<72057594037927936:=by
       have I:=ph (t.drop (j+1));rw[n,List.length_drop,bh]at I;have h2:128 ^ (k+1 - (j+1))<=128 ^ 8:=Nat.pow_le_pow_right (by omega) (by omega);have h3:(128:Nat) ^ 8=72057594037927936:=by decide +kernel
       omega
      have a0:=BO R au;have o:(p:Int)<=(E:Int):=by omega
      have V:Hid _:=a5;have T:Hid _:=a0;clear a5 au n a3 P Q a0;go_wp2_with fail;go_roundw
      case rel=>exact⟨j,by omega,congrArg (Value.int .i64) (by first | omega | (rw[IntWalk.wrap64_in _ (by omega)];omega)),by first | (rw[V.out,<-T.out];done) | (rw[V.out,<-T.out,Int.natCast_emod];rfl),u⟩
      case measure=>simp[intOf];omega
     | zero =>
      rw[List.drop_zero];have o:¬(p:Int)<=(p:Int)+((0:Nat):Int) - 1:=by omega
      obtain⟨g,n⟩:∃g,dR t=g:=⟨_,rfl⟩;have bq:Hid _:=n;rw[n];have a2:q=if bi<g\/ar g≠t then(0,0,4)else(g,s+1,0):=by
       have o:cR d=if bi<g\/ar g≠t then(0,0,4)else(g,k+1,0):=by
        have l:=r.out;unfold cR;rw[l,if_neg (by omega),if_neg (by omega),HT.out,n]
       rw[HQ.out,o];split
       .rfl
       .simp only[if_pos];rw[show p+(k+1)=s+1 by omega]
      have H:Hid _:=a2;have W:IsBytes wr (.slice (some ⟨bb,oo+p,none⟩) (k+1) (c - p)) t:=by
       have I:=p5 p (k+1) (IsBytes.ext HV.out u.out) (by omega);rw[F.out,HT.out]at I;exact I
      have a6:Hid _:=W;obtain⟨pe,N⟩:∃pe,(putW (g:Int))=pe:=⟨_,rfl⟩;have U:Hid _:=N;have HC:Hid _:=rJ (g:Int) wr;rw[N]at HC;obtain⟨pb,pc⟩:=pe;clear n a2 W N;go_wp2_with fail;go_at_call 203;refine Calls.mono HC.out ?_;rintro e w1 ⟨⟨v,rfl,O⟩,z⟩
      by_cases y:bi<g
      .obtain ⟨rfl,rfl⟩:pb=[]/\pc=1:=by
        have C:=U.out;unfold putW at C;rw[if_pos (by omega)]at C;exact⟨(Prod.mk.inj C).1.symm,(Prod.mk.inj C).2.symm⟩
       have A:Hid (q=(0,0,4)):=by unfold Hid;rw[H.out,if_pos (.inl y)]
       have B:Hid (Ext w w1):=u.out.trans z;clear y O z;go_wp2;go_ret3;exact⟨by rw[A.out];rfl,B.out⟩
      .obtain ⟨rfl,rfl⟩:pb=ar g/\pc=0:=by
        have C:=U.out;unfold putW at C;rw[if_neg (by omega)]at C;exact⟨(Prod.mk.inj C).1.symm,(Prod.mk.inj C).2.symm⟩
       have M:g<=bi:=by omega
       have a7:Hid _:=M;have a4:IsBytes w1 v (ar g):=by unfold IsBytes;exact Row.BV O (by have:=bH M;omega)
       have a8:Hid _:=a4;have S:Hid _:=IsBytes.ext a6.out z;have B:Hid (Ext w w1):=u.out.trans z;obtain⟨eq,X⟩:∃eq,(ar g==t)=eq:=⟨_,rfl⟩;have G:Hid _:=X;clear O a4 z y M X;go_wp2_with fail;go_at_call 31
       try rw[show s+1 - p=k+1 by omega]
       refine(cY _ _ _ _ w1 a8.out S.out).mono ?_;rw[G.out];rintro e w2 ⟨rfl,rfl⟩
       cases eq with
       | true =>
        have A:Hid (q=(g,s+1,0)):=by
         unfold Hid;rw[H.out,if_neg];intro h;rcases h with h | h
         .have:=a7.out;omega
         .exact h (by simpa using G.out)
        go_wp2;go_ret3;exact⟨by rw[A.out];rfl,B.out⟩
       | false =>
        have A:Hid (q=(0,0,4)):=by
         unfold Hid;rw[H.out,if_pos (.inr (by simpa using G.out))]
        go_wp2;go_ret3;exact⟨by rw[A.out];rfl,B.out⟩
  .have bs:s=b.length:=by omega
   have aa:¬(s:Int)<(b.length:Int):=by omega
   have ad:cK d=d.length:=by omega
   have ba:((s:Int)==(b.length:Int))=true:=by rw[beq_iff_eq];omega
   have A:Hid (q=(0,0,2)):=by
    have o:cR d=(0,0,2):=by unfold cR;rw[if_pos ad]
    unfold Hid;rw[HQ.out,o];rfl
   clear ad;go_wp2;go_ret3;exact⟨by rw[A.out];rfl,u.out⟩
end
section
open Go Go.RowKit
def IsRd (w:World) (g:Nat) (f:B8) (s:Src):Prop:=∃a b c p,w.heap[g]? = some (.cells #[.slice (some ⟨a,b,none⟩) f.length c,.int .i64 ((p:Nat):Int),.bool s.bad] 192 (0,0)) /\
 IsBytes w (.slice (some ⟨a,b,none⟩) f.length c) f/\a<g/\p<=f.length/\s.b=f.drop p
variable {w w':World} {g:Nat} {f:B8} {s:Src}
theorem IsRd.ext (h:IsRd w g f s) (a:Ext w w'):IsRd w' g f s:=by
 obtain⟨b,j,c,p,d,e,i⟩:=h;exact⟨b,j,c,p,Ext.row a d,e.ext a,i⟩
theorem IsRd.Cf {b:Option Nat} (h:IsRd w g f s) (d:w.grownBy w' b) (q:∀k,b=some k->g<k):IsRd w' g f s:=by
 obtain⟨j,y,c,p,l,o,r,t⟩:=h;have i:=(Array.getElem?_eq_some_iff.1 l).1;refine⟨j,y,c,p,(d.block g i (fun e=>by have:=q g e.symm;omega)).trans l,?_,r,t⟩
 cases b with
 | none=>exact IsBytes.ext o (Below.grown (Ext.refl w) d (Nat.le_refl _) (fun k x=>by cases x))
 | some k=>exact Row.but o d (fun a n c u=>by cases u;have:=q k rfl;show j≠k;omega)
theorem eK {b d n c o:Nat} {x:Value} {l:B8} (h:IsBytes w (.slice (some ⟨b,d,none⟩) n c) l) (i:b<g):IsBytes (w.setCell ⟨g,o,none⟩ x) (.slice (some ⟨b,d,none⟩) n c) l :=
 Row.but h (aH w g o x) (fun a n c e=>by cases e;show b≠g;omega)
theorem fg (g:Nat) (f:B8) (s:Src) (n:Nat) (w:World) (h:IsRd w g f s) :
  Calls Tryz.prog 150 #[.pointer (some ⟨g,0,none⟩),.int .i64 n] w fun e w'=>∃v,e=.returned v/\IsBytes w' v (aD s n).2/\(∀a H G,v=.slice (some a) H G->w.heap.size<=a.block)/\IsRd w' g f (aD s n).1/\w.grownBy w' (some g):=by
 obtain⟨K,L,c,p,hg,hb,T,hp,a3⟩:=h;obtain⟨c0,V,W⟩:=bL hg;have N:Hid _:=hg;have M:Hid _:=hb;have k:Hid _:=T;obtain⟨a9,a7,a5⟩:f.length<=c/\f.length<=140737488355328/\c<=9223372036854775807:=by
  obtain⟨_,_,R,h7,h8,u,-⟩:=hb.get;cases R;exact⟨h7,h8,u⟩
 obtain⟨b,O⟩:=s;obtain rfl:b=f.drop p:=a3;dsimp only at c0 V W N;obtain⟨r,hr⟩:∃r,f.length - p=r:=⟨_,rfl⟩;have a8:wrap64 ((f.length:Int) - (p:Int))=(r:Int):=by rw[IntWalk.wrap64_in _ (by omega)];omega
 have P:(f.drop p).length=r:=by rw[List.length_drop,hr]
 have a':¬(n:Int)<0:=by omega
 obtain⟨⟨s2,t⟩,hq⟩:∃q,aD ⟨f.drop p,O⟩ n=q:=⟨_,rfl⟩;rw[hq];have Z:Hid _:=hq;have Y:Hid _:=P;clear hg hb T hq P;go_enter Tryz.func150,Tryz.ntmps150
 cases O with
 | true =>
  obtain⟨rfl,rfl⟩:(⟨f.drop p,true⟩:Src)=s2/\[]=t:=by
   have u:=Z.out;unfold aD at u;rw[if_pos (.inl rfl)]at u;exact⟨(Prod.mk.inj u).1,(Prod.mk.inj u).2⟩
  go_upto_region 1 with fail;go_quiet (fail);obtain⟨l,i⟩:∃l,l=w.drewN nq:=⟨_,rfl⟩;have d:Ext w l:=by rw[i];exact Ext.drawn _ _
  rw[<-i];have o:Hid _:=d;have B:Hid _:=Ext.row d N.out;have au:l.frozen? ⟨g,2,none⟩=false:=by simp[World.frozen?,B.out]
  have aa:=d.cell W;clear i d;go_wp2;go_ret;refine⟨_,rfl,IsBytes.nil _,fun a H G h=>(by cases h),⟨K,L,c,p,?_,eK (IsBytes.ext M.out o.out) k.out,k.out,hp,rfl⟩,((Ext.grown o.out).but _).trans (aH _ _ _ _)⟩;rw[heap_setCell_same l g 2 _ _ _ B.out];simp
 | false =>
  by_cases hl:r<n
  .have a0:(r:Int)<(n:Int):=by omega
   obtain⟨rfl,rfl⟩:(⟨f.drop p,true⟩:Src)=s2/\[]=t:=by
    have u:=Z.out;unfold aD at u;rw[if_pos (.inr (by rw[Y.out];exact hl))]at u;exact⟨(Prod.mk.inj u).1,(Prod.mk.inj u).2⟩
   go_upto_region 1 with fail;go_quiet (fail);obtain⟨l,i⟩:∃l,l=w.drewN nq:=⟨_,rfl⟩;have d:Ext w l:=by rw[i];exact Ext.drawn _ _
   rw[<-i];have o:Hid _:=d;have B:Hid _:=Ext.row d N.out;have au:l.frozen? ⟨g,2,none⟩=false:=by simp[World.frozen?,B.out]
   have aa:=d.cell W;clear i d;go_wp2;go_ret;refine⟨_,rfl,IsBytes.nil _,fun a H G h=>(by cases h),⟨K,L,c,p,?_,eK (IsBytes.ext M.out o.out) k.out,k.out,hp,rfl⟩,((Ext.grown o.out).but _).trans (aH _ _ _ _)⟩;rw[heap_setCell_same l g 2 _ _ _ B.out];simp
  .have a0:¬(r:Int)<(n:Int):=by omega
   obtain⟨rfl,rfl⟩:(⟨(f.drop p).drop n,false⟩:Src)=s2/\(f.drop p).take n=t:=by
    have u:=Z.out;unfold aD at u;rw[if_neg (by simp;omega)]at u;exact⟨(Prod.mk.inj u).1,(Prod.mk.inj u).2⟩
   obtain⟨F,U⟩:∃F,p+n=F:=⟨_,rfl⟩;have a4:wrap64 ((p:Int)+(n:Int))=(F:Int):=by rw[IntWalk.wrap64_in _ (by omega)];omega
   go_upto_region 1 with fail;go_quiet (fail);obtain⟨l,i⟩:∃l,l=w.drewN nq:=⟨_,rfl⟩;have d:Ext w l:=by rw[i];exact Ext.drawn _ _
   rw[<-i];have o:Hid (Ext w l):=d;have b0:=d.cell c0;have b1:=d.cell V;have b2:=d.cell W;have bh:p<=F:=by omega
   have bd:F<=c:=by omega
   clear i d;have ba:F - p=n:=by omega
   have a2:((F:Nat):Int)=(p:Int)+(n:Int):=by omega
   by_cases Q:c=p
   .have S:n=0:=by omega
    subst Q;go_upto_region 4 with fail;go_quiet (fail);obtain⟨A,z⟩:∃A,A=l.drewN nq:=⟨_,rfl⟩;have j:Ext w A:=o.out.trans (by rw[z];exact Ext.drawn _ _);rw[<-z];have y:Hid (Ext w A):=j;have C:Hid _:=Ext.row j N.out;have ad:A.frozen? ⟨g,1,none⟩=false:=by simp[World.frozen?,C.out]
    have a1:=j.cell V;have I:Hid (∀x,IsBytes (A.setCell ⟨g,1,none⟩ x) (.slice (some ⟨K,L,none⟩) 0 0) ((f.drop c).take n)):=fun x=>by rw[S,List.take_zero];exact⟨_,0,rfl,Nat.le_refl _,by simp,by simp,fun h=>absurd rfl h⟩
    clear z j b0 b1 b2;go_wp2_with fail;go_at_call 29;refine(ij _ _ _ (I.out _)).mono ?_;rintro e9 w2 ⟨⟨v,rfl,J⟩,E⟩;have HV:Hid (IsBytes w2 v ((f.drop c).take n)):=(by unfold IsBytes;exact Row.BV J (by rw[List.length_take];omega));have X:Hid (∀a H G,v=.slice (some a) H G->w.heap.size<=a.block):=fun a H G R=>Nat.le_trans (Nat.le_trans y.out.size (aH _ _ _ _).size) (World.ownsRow.lt J a.block (by rw[R];rfl)).1
    have D:Hid _:=E;clear J E;go_wp2;go_ret;refine⟨_,rfl,HV.out,X.out,IsRd.ext ⟨K,L,c,F,?_,eK (IsBytes.ext M.out y.out) k.out,k.out,by omega,by show(f.drop c).drop n=_;rw[List.drop_drop,U]⟩ D.out,(((Ext.grown y.out).but _).trans (aH _ _ _ _)).trans ((Ext.grown D.out).but _)⟩;rw[heap_setCell_same A g 1 _ _ _ C.out,show((F:Nat):Int)=(c:Int)by omega];simp
   .have a6:¬c=p:=Q;go_upto_region 4 with fail;go_quiet (fail);obtain⟨A,z⟩:∃A,A=l.drewN nq:=⟨_,rfl⟩;have j:Ext w A:=o.out.trans (by rw[z];exact Ext.drawn _ _);rw[<-z];have y:Hid (Ext w A):=j;have C:Hid _:=Ext.row j N.out;have ad:A.frozen? ⟨g,1,none⟩=false:=by simp[World.frozen?,C.out]
    have a1:=j.cell V;have I:Hid (∀x,IsBytes (A.setCell ⟨g,1,none⟩ x) (.slice (some ⟨K,L+p,none⟩) n (c - p)) ((f.drop p).take n)):=fun x=>by exact eK (p5 p n (IsBytes.ext M.out j) (by omega)) k.out
    clear z j b0 b1 b2;go_wp2_with fail;go_at_call 29;refine(ij _ _ _ (I.out _)).mono ?_;rintro e9 w2 ⟨⟨v,rfl,J⟩,E⟩;have HV:Hid (IsBytes w2 v ((f.drop p).take n)):=(by unfold IsBytes;exact Row.BV J (by rw[List.length_take];omega));have X:Hid (∀a H G,v=.slice (some a) H G->w.heap.size<=a.block):=fun a H G R=>Nat.le_trans (Nat.le_trans y.out.size (aH _ _ _ _).size) (World.ownsRow.lt J a.block (by rw[R];rfl)).1
    have D:Hid _:=E;clear J E;go_wp2;go_ret;refine⟨_,rfl,HV.out,X.out,IsRd.ext ⟨K,L,c,F,?_,eK (IsBytes.ext M.out y.out) k.out,k.out,by omega,by show(f.drop p).drop n=_;rw[List.drop_drop,U]⟩ D.out,(((Ext.grown y.out).but _).trans (aH _ _ _ _)).trans ((Ext.grown D.out).but _)⟩;rw[heap_setCell_same A g 1 _ _ _ C.out,a2];simp
theorem pS (g:Nat) (f:B8) (s:Src) (w:World) (h:IsRd w g f s) :
  Calls Tryz.prog 152 #[.pointer (some ⟨g,0,none⟩)] w fun e w'=>e=.returned (.int .i64 ((bp s).2:Nat))/\IsRd w' g f (bp s).1/\w.grownBy w' (some g):=by
 have l:Hid _:=fg g f s 1 w h;obtain⟨⟨G,t⟩,j⟩:∃q,aD s 1=q:=⟨_,rfl⟩;have o:(bp s).1=G:=by unfold bp;rw[j]
 have p:(bp s).2=(t.headD 0).toNat:=by unfold bp;rw[j]
 have k:t.length<=1:=by
  have b:=congrArg Prod.snd j;unfold aD at b;split at b
  .dsimp only at b;rw[<-b];simp
  .dsimp only at b;rw[<-b,List.length_take];omega
 rw[j]at l;rw[o,p];clear j o p h;go_enter Tryz.func152,Tryz.ntmps152;go_wp2_with fail;go_at_call 150;refine Calls.mono l.out ?_;rintro I H ⟨v,rfl,C,-,B,A⟩;have i:Hid _:=B;have d:Hid _:=A;obtain⟨a,c,rfl,J,K,L,u⟩:=C.get;clear B A l C
 cases t with
 | nil =>
  go_wp2;go_ret;exact⟨rfl,i.out,d.out⟩
 | cons x r =>
  obtain⟨D,F,rfl,z⟩:=u 0 (by simp);have M:H.cell? ⟨D,F,none⟩=some (.int .u8 x.toNat):=z 0 (by simp);have E:r=[]:=by
   cases r with
   | nil=>rfl
   | cons y r=>simp at k
  subst E;have n:Hid (wrap64 (x.toNat:Int)=(x.toNat:Int)):=IntWalk.wrap64_in _ (by have:=x.toNat_lt;omega);clear u z k;go_wp2;go_ret;exact⟨iJ n.out,i.out,d.out⟩
theorem iw (g:Nat) (f:B8) (s:Src) (w:World) (h:IsRd w g f s) :
  Calls Tryz.prog 151 #[.pointer (some ⟨g,0,none⟩)] w fun e w'=>e=.returned (.int .i64 ((aJ true s).2:Nat))/\IsRd w' g f (aJ true s).1/\w.grownBy w' (some g):=by
 obtain⟨N,O,c,p,W,V,M,hp,Y⟩:=h;obtain⟨F,G,T⟩:=bL W;have HG:Hid _:=W;have Q:Hid _:=V;have i:Hid _:=M;obtain⟨b,x⟩:=s;obtain rfl:b=f.drop p:=Y;dsimp only at F G T HG;have A:Hid (∀w',Ext w w'->Calls Tryz.prog 209 #[.slice (some ⟨N,O,none⟩) f.length c,.int .i64 ((p:Nat):Int)] w' fun e aa=>e=.returned (.tuple #[.int .i64 (kw f p).1,.int .i64 (kw f p).2.1,.int .i64 (kw f p).2.2])/\Ext w' aa):=fun w' Z=>xb _ f p w' (V.ext Z) hp
 obtain⟨⟨n,k,y⟩,a⟩:∃q,kw f p=q:=⟨_,rfl⟩;rw[a]at A;obtain⟨⟨s2,r⟩,d⟩:∃q,aJ true ⟨f.drop p,x⟩=q:=⟨_,rfl⟩;have z:(y≠0\/x=true->s2=⟨f.drop p,true⟩/\r=0)/\(y=0->x=false->s2=⟨f.drop k,false⟩/\r=n/\k<=f.length):=by
  unfold kw at a;unfold aJ at d;obtain⟨⟨n1,e1,H⟩,X⟩:∃q,cR (f.drop p)=q:=⟨_,rfl⟩;have B:=qQ (l:=f.drop p);rw[X]at a d B;dsimp only at a d B
  by_cases D:H=0
  .rw [if_pos D]at a;obtain⟨rfl,rfl,rfl⟩:n1=n/\p+e1=k/\0=y:=⟨(Prod.mk.inj a).1,(Prod.mk.inj (Prod.mk.inj a).2).1,(Prod.mk.inj (Prod.mk.inj a).2).2⟩;obtain⟨k1,k2,-⟩:=B D;rw[List.length_drop]at k2
   cases x with
   | true =>
    rw[if_pos (.inr ⟨rfl,rfl⟩)]at d;exact⟨fun _=>⟨(Prod.mk.inj d).1.symm,(Prod.mk.inj d).2.symm⟩,fun _ h=>by cases h⟩
   | false =>
    rw[if_neg (by simp[D])]at d;refine⟨fun h=>by simp at h,fun _ _=>⟨?_,(Prod.mk.inj d).2.symm,by omega⟩⟩;have U:=(Prod.mk.inj d).1;unfold aD at U;rw[if_neg (by simp;omega)]at U;rw[<-U,List.drop_drop]
  .rw [if_neg D]at a;obtain⟨rfl,rfl,rfl⟩:0=n/\0=k/\H=y:=⟨(Prod.mk.inj a).1,(Prod.mk.inj (Prod.mk.inj a).2).1,(Prod.mk.inj (Prod.mk.inj a).2).2⟩;rw[if_pos (.inl D)]at d;exact⟨fun _=>⟨(Prod.mk.inj d).1.symm,(Prod.mk.inj d).2.symm⟩,fun h=>absurd h D⟩
 rw[d];have S:Hid _:=z;have HP:Hid _:=hp;clear W V M a d z;go_enter Tryz.func151,Tryz.ntmps151;go_upto_region 1 with fail;apply ak 16 [_,_,_,_,_,_,_,_,.tuple #[.int .i64 n,.int .i64 k,.int .i64 y],_,_,_,_,_,_,_] [none,none,none,none,none,none,none,none,none,none,none,none,none,none,none,none] [[],[0],[1],[2],[],[4],[5],[6],[3,7],[8],[9],[9],[9],[10],[11],[12]] (by kernel_rfl) (by kernel_rfl) (by simp[aq])
 .trivial
 .simp (maxSteps:=1000000)only[List.take_succ_cons,List.take_zero,ay,aE,ab,Act.put,List.setIfInBounds_toArray,List.set_cons_zero,List.set_cons_succ,aN,aS,aq,List.getD_cons_zero,List.getD_cons_succ,and_true,true_and,forall_const];and_intros
  iterate 8 · intro xs wq C;intros;rename_i I;have f0:=C.cell F;have f1:=C.cell G;go_simp;exact I _ _ (Ext.refl _) rfl
  .intro xs wq C L R I;obtain⟨a0,a1⟩:=L;go_simp;exact(A.out wq C).mono (by rintro e' w' ⟨rfl,Z⟩;exact⟨_,rfl,I _ _ Z rfl⟩)
  iterate 7 · intro xs wq C;intros;rename_i I;have f0:=C.cell F;have f1:=C.cell G;go_simp;exact I _ _ (Ext.refl _) rfl
 intro xs E t L;simp only[aU,Nat.zero_add,Nat.reduceAdd,and_true]at L;simp(maxSteps:=1000000)only[List.take_succ_cons,List.take_zero,List.drop_succ_cons,List.drop_zero,ab,Act.put,List.setIfInBounds_toArray,List.set_cons_zero,List.set_cons_succ,Nat.zero_add,Nat.reduceAdd,L];clear L;have j:Hid (Ext w E):=t;have u:Hid _:=Ext.row t HG.out;have ad:E.frozen? ⟨g,1,none⟩=false:=by simp[World.frozen?,u.out]
 have au:E.frozen? ⟨g,2,none⟩=false:=by simp[World.frozen?,u.out]
 have b0:=t.cell F;have b1:=t.cell G;have b2:=t.cell T;clear t F G T A
 cases x with
 | true =>
  obtain⟨rfl,rfl⟩:=S.out.1 (.inr rfl);go_wp2;go_ret;refine⟨rfl,⟨N,O,c,p,?_,eK (IsBytes.ext Q.out j.out) i.out,i.out,HP.out,rfl⟩,((Ext.grown j.out).but _).trans (aH _ _ _ _)⟩;rw[heap_setCell_same E g 2 _ _ _ u.out];simp
 | false =>
  by_cases o:y=0
  .have K:(y != 0)=false:=by simpa using o
   obtain⟨rfl,rfl,J⟩:=S.out.2 o rfl;have P:Hid _:=J;clear o J;go_wp2;go_ret;refine⟨rfl,⟨N,O,c,k,?_,eK (IsBytes.ext Q.out j.out) i.out,i.out,P.out,rfl⟩,((Ext.grown j.out).but _).trans (aH _ _ _ _)⟩;rw[heap_setCell_same E g 1 _ _ _ u.out];simp
  .have K:(y != 0)=true:=by simpa using o
   obtain⟨rfl,rfl⟩:=S.out.1 (.inl o);clear o;go_wp2;go_ret;refine⟨rfl,⟨N,O,c,p,?_,eK (IsBytes.ext Q.out j.out) i.out,i.out,HP.out,rfl⟩,((Ext.grown j.out).but _).trans (aH _ _ _ _)⟩;rw[heap_setCell_same E g 2 _ _ _ u.out];simp
end
end Go.Proofs.YtfabjgfmiaammaaGreatDoor
