/- Contracts of the program's functions and plain laws behind the card. Conditions: as each theorem states. -/
import Derived.Test.YtfabjgfmiaammaaGreatDoorYap
import Derived.Test.YtfabjgfmiaammaaGreatDoorYaq
set_option linter.unusedVariables false
set_option linter.unusedSimpArgs false
set_option linter.unusedSectionVars false
set_option maxRecDepth 100000
set_option maxHeartbeats 64000000
namespace Go.Proofs.YtfabjgfmiaammaaGreatDoor
section
open Go Go.RowKit
def NewOr (w:World) (v v':Value):Prop:=∀k,v'.ownBlock=some k->v.ownBlock=some k\/w.heap.size<=k
def ApplyPost (R:Nat->Prop) (w:World) (v:Value) (l:ax) (e:Ending) (w':World):Prop:=(∃a,e=.returned a/\bI R w' a l/\NewOr w v a)/\Ext w w'
variable {base:Nat} {w:World} {v:Value} {l:ax}
theorem OwnRows.low {base':Nat} {R:Nat->Prop} (h:OwnRows base R w v l) (d:base'<=base):OwnRows base' R w v l:=by
 obtain⟨a,b,c⟩:=h;exact⟨a,jj b d,c⟩
variable {w':World}
theorem OwnRows.ext {R:Nat->Prop} (h:OwnRows base R w v l) (b:Ext w w'):OwnRows base R w' v l:=by
 obtain⟨a,d,e⟩:=h;exact⟨a,am d b,Each.imp e (fun c x g=>IsRowR.BZ g (KeepR.B2 (KeepB.BX b)))⟩
theorem ApplyPost.own {R:Nat->Prop} {a:World} {v':Value} (h:OwnRows a.heap.size R w' v' l) (e:w.heap.size<=a.heap.size) (c:l.length<=100000000) (d:Ext w w'):ApplyPost R w v l (.returned v') w' :=
 ⟨⟨_,rfl,h.rows c,fun k b=>.inr (Nat.le_trans e (h.lt b).1)⟩,d⟩
theorem vm {R:Nat->Prop} (p:B8) (f:Fi) (h:Value) (g:bI R w v l) (k:l.length<=10000000) (n:p.length<=10000000) (b:IsData R w h f.data) :
  Calls Tryz.prog 162 #[v,.agg #[.int .i64 1,S8 [],S8 p,.int .i64 f.mode,h,.int .i64 f.time]] w (ApplyPost R w v (eA l p f)):=by
 obtain⟨q,r,rfl,-⟩:=id b.bytes;have a:Hid (Ext w (w.alloc (.cells #[.int .i64 1,S8 [],S8 p,.int .i64 f.mode,.slice q f.data.length r,.int .i64 f.time] 199))):=(Ext.refl _).alloc _;have j:Hid _:=g;have i:Hid _:=b;have o:=hI l p f;clear g b;go_enter Tryz.func162,Tryz.ntmps162
 go_wp2_with (go_at_call 211;go_must (refine(rU p f _ (ReadL.B4 j.out a.out) k n (IsData.ext i.out a.out)).mono ?_;rintro e u ⟨⟨t,rfl,c⟩,d⟩))
 go_ret;exact ApplyPost.own c (Below.size a.out) (by omega) (Ext.trans a.out d)
theorem vk {R:Nat->Prop} (p:B8) (d:bI R w v l) (h:l.length<=10000000) :
  Calls Tryz.prog 162 #[v,.agg #[.int .i64 3,S8 p,S8 [],.int .i64 0,.slice none 0 0,.int .i64 0]] w (ApplyPost R w v (ch l p)):=by
 have a:Hid (Ext w (w.alloc (.cells #[.int .i64 3,S8 p,S8 [],.int .i64 0,.slice none 0 0,.int .i64 0] 199))):=(Ext.refl _).alloc _;have g:Hid _:=d;have i:=dL l p;clear d;go_enter Tryz.func162,Tryz.ntmps162
 go_wp2_with (go_at_call 194;go_must (refine(ib p (ReadL.B4 g.out a.out) h).mono ?_;rintro e k ⟨⟨j,rfl,b⟩,c⟩))
 go_ret;exact ApplyPost.own b (Below.size a.out) (by omega) (Ext.trans a.out c)
theorem xM {R:Nat->Prop} (s d:B8) (J:bI R w v l) (hl:l.length<=10000000) (hd:d.length<=10000000) :
  Calls Tryz.prog 162 #[v,.agg #[.int .i64 2,S8 s,S8 d,.int .i64 0,.slice none 0 0,.int .i64 0]] w (ApplyPost R w v (ap l (.mv s d))):=by
 have r:Hid (Ext w (w.alloc (.cells #[.int .i64 2,S8 s,S8 d,.int .i64 0,.slice none 0 0,.int .i64 0] 199))):=(Ext.refl _).alloc _;have HB:Hid _:=cA (ae w (.cells #[.int .i64 2,S8 s,S8 d,.int .i64 0,.slice none 0 0,.int .i64 0] 199));have D:Hid (ap l (.mv s d)=match aA l s with | some x=>eA (ch l s) d x | none=>l):=rfl;have N:Hid _:=J;have G:=J.lt;obtain⟨a,aa,rfl,H,h2,I,h4⟩:=cg J;have M:Hid _:=G;have H4:Hid _:=h4;have au:=dL l s;clear J h4 G;go_enter Tryz.func162,Tryz.ntmps162;go_wp2_with fail;go_at_call 128;refine(fP s (ReadL.B4 N.out r.out)).mono ?_;rintro e U ⟨⟨i,rfl,Q⟩,q⟩;rcases Q with⟨p,rfl⟩ | ⟨k,f,rfl,g,p⟩
 .have t:Hid (ap l (.mv s d)=l):=by unfold Hid;rw[D.out,p]
  clear p;go_wp2;go_ret;rw[t.out];exact⟨⟨_,rfl,ReadL.B4 N.out (Ext.trans r.out q),fun k g=>.inl g⟩,Ext.trans r.out q⟩
 .have t:Hid (ap l (.mv s d)=eA (ch l s) d f):=by unfold Hid;rw[D.out,p]
  obtain⟨b,o,v1,K,rfl,a3,E,c0,W,X,Y⟩:=H4.out k s f g;have n:=Ext.trans r.out q;replace W:=n.cell W;replace X:=n.cell X;replace Y:=n.cell Y;have a1:=(List.getElem?_eq_some_iff.1 g).1;have ad:=Nat.lt_of_lt_of_le (M.out b rfl) (Below.size n);have L:Hid _:=E;have O:Hid _:=n;have a2:=hI (ch l s) d f;obtain⟨b0,A,B,b3,b4,b5⟩:=HB.out;replace A:=q.cell A;replace B:=q.cell B;clear p g E n c0 b0 b3 b4 b5;go_wp2_with fail;have y:Hid (Ext U (U.alloc (.cells #[.int .i64 f.mode,.slice v1 f.data.length K,.int .i64 f.time] 114))):=(Ext.refl _).alloc _;obtain⟨Z,e1,e2⟩:=bL (ae U (.cells #[.int .i64 f.mode,.slice v1 f.data.length K,.int .i64 f.time] 114));have j:Hid _:=Ext.trans O.out y.out;replace A:=y.out.cell A;replace B:=y.out.cell B;have a4:=Below.size j.out;apply ak 8 [_,_,_,undef,_,_,_,undef] [none,none,none,some (fun u T=>OwnRows w.heap.size R T u (ch l s)),none,none,none,some (fun u T=>OwnRows w.heap.size R T u (eA (ch l s) d f))] [[],[],[1],[0,2],[],[4],[],[3,5,6]] (by kernel_rfl) (by kernel_rfl) (by simp[aq])
  .refine ⟨?_,?_,trivial⟩
   iterate 2
    .exact fun _ _ _ he h=>OwnRows.ext h he
  .simp (maxSteps:=1000000)only[List.take_succ_cons,List.take_zero,ay,aE,ab,Act.put,List.setIfInBounds_toArray,List.set_cons_zero,List.set_cons_succ,aN,aS,aq,List.getD_cons_zero,List.getD_cons_succ,and_true,true_and,forall_const];and_intros
   iterate 3 · intro C V c;intros;rename_i z;have f1:=c.cell A;have f2:=c.cell B;have f3:=c.cell Z;have f4:=c.cell e1;have f5:=c.cell e2;go_simp;exact z _ _ (Ext.refl _) rfl
   .intro C V c g R z;obtain⟨F,P⟩:=g;go_simp;exact(ib s (ReadL.B4 N.out (Ext.trans j.out c)) hl).mono (by rintro e' w4 ⟨⟨K,rfl,H⟩,I⟩;exact⟨_,rfl,z _ _ I (OwnRows.low H (Below.size (Ext.trans j.out c)))⟩)
   iterate 3 · intro C V c;intros;rename_i z;have f1:=c.cell A;have f2:=c.cell B;have f3:=c.cell Z;have f4:=c.cell e1;have f5:=c.cell e2;go_simp;exact z _ _ (Ext.refl _) rfl
   .intro C V c g R z;obtain⟨F,P,a0⟩:=g;go_simp;exact(rU d f _ (OwnRows.rows F (by omega)) (by omega) hd (IsData.ext L.out (Ext.trans j.out c))).mono (by rintro e' w4 ⟨⟨K,rfl,H⟩,I⟩;exact⟨_,rfl,z _ _ I (OwnRows.low H (Below.size (Ext.trans j.out c)))⟩)
  intro C w3 S g;simp only[aU,Nat.zero_add,Nat.reduceAdd,and_true]at g;have q3:=g.2.2.2.1;have q7:=g.2.2.2.2.2.2.2;simp(maxSteps:=1000000)only[List.take_succ_cons,List.take_zero,List.drop_succ_cons,List.drop_zero,ab,Act.put,List.setIfInBounds_toArray,List.set_cons_zero,List.set_cons_succ,Nat.zero_add,Nat.reduceAdd,g];clear g;generalize C 3=x3 at *;generalize C 7=x7 at *;go_wp2;go_ret;rw[t.out];exact ApplyPost.own q7 (Nat.le_refl _) (by omega) (Ext.trans j.out S)
theorem ld {R:Nat->Prop} {cs:List Value} {c:Ch} (h:bI R w v l) (g:l.length<=10000000) (e:IsOp R w cs c) :
  Calls Tryz.prog 162 #[v,.agg cs.toArray] w (ApplyPost R w v (ap l c)):=by
 cases c with
 | put p f =>
  obtain⟨a,i,rfl,b⟩:=e;exact vm p f i h g a b
 | mv s d =>
  obtain⟨a,b,rfl⟩:=e;exact xM s d h g b
 | del p =>
  obtain⟨a,rfl⟩:=e;exact vk p h g
end
section
open Go Go.RowKit
variable [Inhabited bf]
theorem Ak:(Tryz.prog.info? 199).map (fun i=>(i.zero,i.size,i.bytes))=some (some (.agg #[.int .i64 0,S8 [],S8 [],.int .i64 0,.slice none 0 0,.int .i64 0]),6,80):=by kernel_rfl
theorem lP:(Tryz.prog.info? 80).map (·.size)=some 1:=by kernel_rfl
theorem rL:(Tryz.prog.info? 81).map (·.size)=some 1:=by kernel_rfl
theorem jG:(Tryz.prog.info? 82).map (·.size)=some 1:=by kernel_rfl
section
variable {ops:Array Oper} {rest:List Oper} {o:Oper} {a:Act} {Q:Exit->Act->World->Prop} {w:World}
theorem AS (r:o.guard=none) (s x:Operand) (F:o.op=.call { callee:=.builtin .append,args:=#[s,x],argTypes:=#[81,81] })
  (d:Nat) (v:Value) (n:Nat) (xs:List Value) (G:a.eval s=v) (j:w.ownsRow d 199 6 v n xs)
  (g c:Nat) (b:List Value) (I:a.eval x=.slice (some ⟨g,0,none⟩) 1 c) (E:b.length=6) {fr:Nat×Nat} (C:w.heap[g]? = some (.cells b.toArray 199 fr)) (q:b.all (·.oneCell')=true)
  (K:n<=100000000) (e:d<=w.heap.size)
  (h:∀l p,p.ownsRow d 199 6 l (n+1) (xs++b)->w.grownBy p v.ownBlock->(∀k,l.ownBlock=some k->v.ownBlock=some k\/w.heap.size<=k)->wpList Tryz.prog ops Q rest (a.put o.dst l) p):wpList Tryz.prog ops Q (o::rest) a w:=by
 obtain⟨J,D,y,z,A⟩:=info_parts Ak;exact wpList_append_own_at w r s x _ F d _ J _ 6 80 Tryz.underlying81 D y z A rfl (by omega) v n xs G j ⟨g,0,none⟩ 1 c b I (by simpa using E) (by simpa using cU C) (fun u H=>List.all_eq_true.1 q u H) (by unfold maxLen;omega) (by omega) e
  (fun l p q B _ i=>h l p q B (fun k t=>by
   rcases i with i | i
   .exact .inl (i.symm.trans t)
   .rw [i]at t;simp only[Option.some.injEq]at t;exact .inr (by omega)))
end
variable {w:World} {cs:List Value} {c:Ch}
theorem IsOp.shape {R:Nat->Prop} (h:IsOp R w cs c):∃(b:Int) (p q:B8) (mode time:Int) (a:Option Addr) (n e:Nat),cs=[.int .i64 b,S8 p,S8 q,.int .i64 mode,.slice a n e,.int .i64 time]/\((b=1/\∃f,c=.put q f/\p=[]/\f.mode=mode/\f.data.length=n/\f.time=time)\/(b≠1/\∀t,c.at t=c)):=by
 cases c with
 | put p f =>
  obtain⟨_,v,rfl,g⟩:=h;obtain⟨a,e,rfl,_⟩:=g.bytes;exact⟨_,_,_,_,_,_,_,_,rfl,.inl ⟨rfl,f,rfl,rfl,rfl,rfl,rfl⟩⟩
 | mv s d=>obtain⟨_,_,rfl⟩:=h;exact⟨_,_,_,_,_,_,_,_,rfl,.inr ⟨by omega,fun _=>rfl⟩⟩
 | del p=>obtain⟨_,rfl⟩:=h;exact⟨_,_,_,_,_,_,_,_,rfl,.inr ⟨by omega,fun _=>rfl⟩⟩
theorem IsOp.ext {R:Nat->Prop} {w':World} (h:IsOp R w cs c) (a:Ext w w'):IsOp R w' cs c:=h.BZ (KeepR.B2 (KeepB.BX a))
theorem IsOp.BU {R:Nat->Prop} {b:Int} {p q:B8} {mode time k:Int} {a:Option Addr} {n d:Nat} {t:Nat} (h:IsOp R w [.int .i64 b,S8 p,S8 q,.int .i64 mode,.slice a n d,.int .i64 time] c)
  (i:(b=1/\∃f,c=.put q f/\p=[]/\f.mode=mode/\f.data.length=n/\f.time=time)\/(b≠1/\∀t,c.at t=c)) (e:k=if b=1 then(t:Int)else time) :
  IsOp R w [.int .i64 b,S8 p,S8 q,.int .i64 mode,.slice a n d,.int .i64 k] (c.at t):=by
 rcases i with⟨rfl,f,rfl,rfl,rfl,rfl,rfl⟩ | ⟨i,g⟩
 .obtain ⟨l,v,j,o⟩:=h;rw[if_pos rfl]at e;subst e;simp only[List.cons.injEq,true_and,and_true]at j;exact⟨l,_,rfl,j▸o⟩
 .rw [if_neg i]at e;rw[g,e];exact h
theorem iF {O R:Nat->Prop} {p:Value} {m:Fs} (c:Ch) (h:IsRef O R w p m) (hc:IsOp R w cs c) (hl:m.now.length<=9000000) (ea:m.pend.length<=10000000) (ht:m.time<=10000000) :
  Calls Tryz.prog 193 #[p,.agg cs.toArray] w fun e w'=>e=.returned (.tuple #[])/\RefPost O R w p (does m c) w':=by
 obtain⟨g,vn,vs,vp,vl,vu,rfl,hg,hO,hP⟩:=h;obtain⟨na,nc,rfl,-⟩:=cg hP.now;have HC:Hid _:=hc;obtain⟨i,p,q,z,time,a,n,J,rfl,P⟩:=hc.shape;have bh:Ext w (w.alloc (.cells #[.int .i64 i,S8 p,S8 q,.int .i64 z,.slice a n J,.int .i64 time] 199)):=(Ext.refl w).alloc _;have a':=Ext.row bh hg;have b7:=ae w (.cells #[.int .i64 i,S8 p,S8 q,.int .i64 z,.slice a n J,.int .i64 time] 199);have d9:=(Array.getElem?_eq_some_iff.1 hg).1;obtain⟨d0,d1,d2,d3,d4,d5,d6,d7,d8⟩:=ao a';have B:w.heap.size≠g:=by omega
 have bt:Hid _:=bh;have HP:Hid _:=hP;have HG:Hid _:=hg;have bo:Hid _:=a';have bk:Hid _:=b7;have HK:Hid _:=P;clear hc bh hP hg a' b7 P;obtain⟨t2,U⟩:∃t2:Int,t2=if i=1 then((m.time+1:Nat):Int)else time:=⟨_,rfl⟩
 have cp:Hid _:=U
 by_cases r:i=1
 case' pos =>
  have W:t2=((m.time+1:Nat):Int):=by rw[U,if_pos r]
  have cq:Hid _:=W;have cl:Hid _:=r;have dl:(i==1)=true:=by simpa using r
  clear U W r;go_enter Tryz.func193,Tryz.ntmps193
  go_wp2_with (first
   | (refine ag rfl 3 (.tmp 10) (.tmp 8) rfl g 6 rfl (.int .i64 ((m.time:Int)+1)) rfl rfl _ _ bo.out (Nat.le_of_ble_eq_true rfl) fh (cr m.room (.slice na m.now.length nc) vs vp vl m.calls (m.time+1) m.down vu) (by simp) ?_;intro w2 ba l;obtain⟨a0,a1,a2,a3,a4,a5,a6,a7,a8⟩:=ao ba;have au:=aV l bk.out B;obtain⟨b0,b1,b2,b3,b4,b5⟩:=cA au;clear d0 d1 d2 d3 d4 d5 d6 d7 d8)
   | (refine ag rfl 3 (.tmp 19) (.tmp 17) rfl w.heap.size 5 rfl (.int .i64 t2) (by rw[cq.out];rfl) rfl _ _ au (Nat.le_of_ble_eq_true rfl) fh #[.int .i64 i,S8 p,S8 q,.int .i64 z,.slice a n J,.int .i64 t2] (by simp) ?_;intro w3 V N;have K:=aV N ba (Ne.symm B)))
  have F:=(dZ bt.out l).andThen N (fun j hj=>.inl (by cases hj;exact Nat.le_refl _));clear au l N ba a0 a1 a2 a3 a4 a5 a6 a7 a8 b0 b1 b2 b3 b4 b5
 case' neg =>
  have W:t2=time:=by rw[U,if_neg r]
  have cl:Hid _:=r;have dl:(i==1)=false:=by simpa using r
  subst W;clear U r;go_enter Tryz.func193,Tryz.ntmps193
  go_wp2_with ((refine ag rfl 3 (.tmp 10) (.tmp 8) rfl g 6 rfl (.int .i64 ((m.time:Int)+1)) rfl rfl _ _ bo.out (Nat.le_of_ble_eq_true rfl) fh (cr m.room (.slice na m.now.length nc) vs vp vl m.calls (m.time+1) m.down vu) (by simp) ?_;intro w3 K l;obtain⟨a0,a1,a2,a3,a4,a5,a6,a7,a8⟩:=ao K;have V:=aV l bk.out B;obtain⟨b0,b1,b2,b3,b4,b5⟩:=cA V;clear d0 d1 d2 d3 d4 d5 d6 d7 d8))
  have F:=dZ bt.out l;clear l a0 a1 a2 a3 a4 a5 a6 a7 a8 b0 b1 b2 b3 b4 b5
 all_goals
  have bx:=HP.out.own HG.out F;have S:IsOp R w3 _ (c.at (m.time+1)):=IsOp.BU (IsOp.BZ HC.out (cw F (by rintro k d;simp at d;subst d;exact aw HG.out (by kernel_rfl)))) HK.out cp.out;obtain⟨E,a9⟩:∃E,c.at (m.time+1)=E:=⟨_,rfl⟩;rw[a9]at S;have br:Hid _:=bx;have Y:Hid _:=S;have cc:Hid _:=a9;have ct:Hid _:=F;have ec:=F.size;have dq:=dV m.now E;obtain⟨e0,e1,e2,e3,e4,e5,e6,e7,e8⟩:=ao K;obtain⟨f0,f1,f2,f3,f4,f5⟩:=cA V;clear bx S a9 F;apply cP 7 0 (.pointer (some ⟨g,0,none⟩)) [.pointer (some ⟨g,0,none⟩),_,_,_,_,_,undef] [none,none,none,none,none,none,some (fun u w'=>bI R w' u (ap m.now E)/\NewOr w (.slice na m.now.length nc) u)] [[],[],[1],[2],[3],[],[4,5]] (by kernel_rfl) (by kernel_rfl) (by simp[aq])
  .refine ⟨?_,trivial⟩
   .exact fun _ _ _ he h=>⟨ReadL.B4 h.1 he,h.2⟩
  .exact ⟨_,rfl,rfl,fun w=>by go_simp⟩
  .exact fun _=>rfl
  .simp (maxSteps:=1000000)only[List.take_succ_cons,List.take_zero,ay,aE,ab,Act.put,List.setIfInBounds_toArray,List.set_cons_zero,List.set_cons_succ,aN,aS,aq,List.getD_cons_zero,List.getD_cons_succ,and_true,true_and,forall_const];and_intros
   iterate 6 · intro xs wq o;intros;rename_i hR;have c1:=o.cell e1;have c2:=o.cell f0;have c3:=o.cell f1;have c4:=o.cell f2;have c5:=o.cell f3;have c6:=o.cell f4;have c7:=o.cell f5;go_simp;exact hR _ _ (Ext.refl _) rfl
   .intro xs wq o d R hR;obtain⟨d',r⟩:=d;go_simp;exact(ld (ReadL.B4 br.out.now o) (by omega) (IsOp.ext Y.out o)).mono (by rintro e' w5 ⟨⟨v2,rfl,h1,h2⟩,h3⟩;exact⟨_,rfl,hR _ _ h3 ⟨h1,fun k d=>(h2 k d).imp id (fun h=>by have:=Below.size o;omega)⟩⟩)
  intro xs w4 G d;simp only[aU,Nat.zero_add,Nat.reduceAdd,and_true]at d;have q6:=d.2.2.2.2.2.2;simp(maxSteps:=1000000)only[List.take_succ_cons,List.take_zero,List.drop_succ_cons,List.drop_zero,ab,Act.put,List.setIfInBounds_toArray,List.set_cons_zero,List.set_cons_succ,Nat.zero_add,Nat.reduceAdd,d];clear d;generalize xs 6=x6 at *;obtain⟨t,Q⟩:=q6;obtain⟨ya,yc,rfl,-⟩:=cg t;have co:Hid _:=t;have cm:Hid _:=Q;have bb:=Ext.row G K;have c0:=Ext.row G V;have bv:Hid _:=G;have cn:Hid _:=br.out.ext G;have ef:=G.size;clear t Q e0 e1 e2 e3 e4 e5 e6 e7 e8 f0 f1 f2 f3 f4 f5 G
  go_wp2_with (refine ag rfl 80 (.tmp 28) (.tmp 26) rfl g 1 rfl (.slice ya (ap m.now E).length yc) rfl rfl _ _ bb (Nat.le_of_ble_eq_true rfl) lP (cr m.room (.slice ya (ap m.now E).length yc) vs vp vl m.calls (m.time+1) m.down vu) (by simp) ?_;intro w5 b8 y)
  refine NoP.intro ?_;have b9:bI (On R w.heap.size) w4 (.slice ya (ap m.now E).length yc) (ap m.now E):=ReadL.Ce co.out (fun k d=>.inl d);have bS:=(((cn.out.mono (O':=On O w.heap.size) (R':=On R w.heap.size) (fun k d=>.inl d) (fun k d=>.inl d)).CY b9 (fun k d=>(cm.out k d).imp (HP.out.on k) id)).own bb y);have c8:=aV y c0 B;have b6:w3.grownBy w5 (some g):=dZ bv.out y;have bs:Hid _:=bS;have ad:IsOp R w5 _ E:=IsOp.BZ Y.out (cw b6 (by rintro k d;simp at d;subst d;exact aw K (by kernel_rfl)));have bq:Hid _:=ad;obtain⟨ds,A,C⟩:=bs.out.pend;obtain⟨pa,pc,rfl,-⟩:=Row.BV A (by omega);have ce:Hid _:=C;have Z:Fr O w w5:=(((Fr.refl O w).step ct.out (fun k d=>by cases d;exact .inl hO) (by rintro k d;cases d;exact aw HG.out (by kernel_rfl))).ext bv.out).step y (fun k d=>by cases d;exact .inl hO) (by rintro k d;cases d;exact aw bb (by kernel_rfl));have bl:Hid _:=Z;have eg:=y.size;obtain⟨e0,e1,e2,e3,e4,e5,e6,e7,e8⟩:=ao b8;obtain⟨f0,f1,f2,f3,f4,f5⟩:=cA c8;clear bS ad C Z b9 b6;go_wp2_with fail;apply cP 7 0 (.pointer (some ⟨g,0,none⟩)) [.pointer (some ⟨g,0,none⟩),_,_,_,_,.agg #[.int .i64 i,S8 p,S8 q,.int .i64 z,.slice a n J,.int .i64 t2],undef] [none,none,none,none,none,none,some (fun u w'=>∃k,u=.slice (some ⟨k,0,none⟩) 1 1/\w'.heap[k]? = some (.cells #[.int .i64 i,S8 p,S8 q,.int .i64 z,.slice a n J,.int .i64 t2] 199 (0,0)))] [[],[],[1],[2],[3],[],[5]] (by kernel_rfl) (by kernel_rfl) (by simp[aq])
  .refine ⟨?_,trivial⟩
   .exact fun _ _ _ he ⟨k,h1,h3⟩=>⟨k,h1,he.row h3⟩
  .exact ⟨_,rfl,rfl,fun w=>by go_simp⟩
  .exact fun _=>rfl
  .simp (maxSteps:=1000000)only[List.take_succ_cons,List.take_zero,ay,aE,ab,Act.put,List.setIfInBounds_toArray,List.set_cons_zero,List.set_cons_succ,aN,aS,aq,List.getD_cons_zero,List.getD_cons_succ,and_true,true_and,forall_const];and_intros
   iterate 6 · intro xs wq o;intros;rename_i hR;have c1:=o.cell e3;have c2:=o.cell f0;have c3:=o.cell f1;have c4:=o.cell f2;have c5:=o.cell f3;have c6:=o.cell f4;have c7:=o.cell f5;go_simp;exact hR _ _ (Ext.refl _) rfl
   .intro xs wq o d R hR;go_simp;exact hR _ _ ((Ext.refl _).alloc _) ⟨_,rfl,ae _ _⟩
  intro xs w6 H d;simp only[aU,Nat.zero_add,Nat.reduceAdd,and_true]at d;have q6:=d.2.2.2.2.2.2;simp(maxSteps:=1000000)only[List.take_succ_cons,List.take_zero,List.drop_succ_cons,List.drop_zero,ab,Act.put,List.setIfInBounds_toArray,List.set_cons_zero,List.set_cons_succ,Nat.zero_add,Nat.reduceAdd,d];clear d;generalize xs 6=x6 at *;obtain⟨k6,rfl,dk⟩:=q6;have bd:=am A H;have L:=Ext.row H b8;have I:Hid _:=bs.out.ext H;have eh:=H.size;clear A e0 e1 e2 e3 e4 e5 e6 e7 e8 f0 f1 f2 f3 f4 f5
  go_wp2_with (first
   | (at_builtin;go_must (refine AS rfl _ _ rfl 0 _ m.pend.length _ rfl bd k6 1 _ rfl rfl dk (by simp[Value.oneCell']) (by omega) (Nat.zero_le _) ?_;intro v7 w7 T D ca;obtain⟨va,vc,rfl⟩:=dD T (by omega);have M:w7.heap[g]? = _:=(D.block g (Array.getElem?_eq_some_iff.1 L).1 (fun da=>by obtain⟨cu,cv,X⟩:=I.out.pend.typed g da.symm;rw[L]at X;simp at X)).trans L))
   | (refine ag rfl 81 (.tmp 38) (.tmp 36) rfl g 3 rfl (.slice (some ⟨va,0,none⟩) (m.pend.length+1) vc) rfl rfl _ _ M (Nat.le_of_ble_eq_true rfl) rL (cr m.room (.slice ya (ap m.now E).length yc) vs (.slice (some ⟨va,0,none⟩) (m.pend.length+1) vc) vl m.calls (m.time+1) m.down vu) (by simp) ?_;intro w8 dc aa))
  refine NoP.intro ?_
  go_end0
  have b':∀k,Value.ownBlock (.slice pa m.pend.length pc)=some k->¬IsU8 w6 k:=fun k d=>by
   obtain⟨cu,cv,X⟩:=I.out.pend.typed k d;exact aw X (by kernel_rfl)
  have cb:∀(R:Nat->Prop),KeepR R w5 w7:=fun R=>by
   have a:=KeepR.B2 (R:=R) (KeepB.BX H);have b:KeepR R w6 w7:=cw D b';exact KeepR.trans a b
  have dn:OwnL w7 199 6 (IsOp (On R w.heap.size) w7) (.slice (some ⟨va,0,none⟩) (m.pend.length+1) vc) (m.pend++[E]) :=
   OwnL.app ce.out T (fun c x hx=>hx.BZ (cb _)) ((IsOp.BZ bq.out (cb _)).mono (fun k d=>.inl d))
  have cx:=I.out.Cz D dn (fun k d=>by
   rcases ca k d with h1 | h1
   .exact I.out.op k h1
   .exact .inr (by omega))
  have c9:does m c={ m with time:=m.time+1,now:=ap m.now E,pend:=m.pend++[E] }:=by
   unfold does;rw[cc.out]
  rw[c9];refine⟨rfl,IsRef.fit ⟨g,_,vs,_,vl,vu,rfl,dc,.inl hO,cx.own M aa⟩,?_⟩;exact((Fr.ext bl.out H).step D (fun k d=>by rcases I.out.op k d with h | h;exact .inl h;exact .inr h) b').step aa (fun k d=>by cases d;exact .inl hO) (by rintro k d;cases d;exact aw M (by kernel_rfl))
end
section
open Go Go.RowKit
variable [Inhabited bf]
section
variable {ops:Array Oper} {rest:List Oper} {o:Oper} {a:Act} {Q:Exit->Act->World->Prop} {w:World}
theorem r8 (k:o.guard=none) (s x:Operand) (A:o.op=.call { callee:=.builtin .append,args:=#[s,x],argTypes:=#[80,80] }) (l:o.type=80)
  (c:Nat) (v:Value) (n:Nat) (xs:List Value) (C:a.eval s=v) (e:w.ownsRow c 164 4 v n xs)
  (xv:Value) (m:Nat) (b:List Value) (D:a.eval x=xv) (g:Row w xv m b) (z:b.length=m*4) (p:∀u∈b,u.oneCell'=true) (y:n+m<=1000000000) (d:c<=w.heap.size)
  (h:∀j i,i.ownsRow c 164 4 j (n+m) (xs++b)->w.grownBy i v.ownBlock->wpList Tryz.prog ops Q rest (a.put o.dst j) i):wpList Tryz.prog ops Q (o::rest) a w:=by
 refine wpList_plain k fun K t=>?_
 obtain⟨j,i,B,q,r,E⟩:=gq c v n xs e xv m b g z p y d;unfold Oper.wp execOp;simp only[A,l,resolve,invoke,builtin,Sem.run_bind,Sem.run_pure,Result.andThen_ok,List.map_toArray,List.map_cons,List.map_nil,C,D,B];exact t _ _ (h j i q r)
end
variable {w:World}
theorem uM {R:Nat->Prop} {v:Value} {l:ax} (h:bI R w v l):∃a:List (List Value),Row w v l.length a.flatten/\Each (IsRowR R w) a l/\a.flatten.length=l.length*4/\(∀u∈a.flatten,u.oneCell'=true):=by
 obtain⟨a,e,g,b⟩:=h;exact⟨a,e,b,by rw[qN (Each.len b (fun c x d=>d.length.1)),b.1],Each.one b (fun c x d=>d.length.2)⟩
variable {p:Value} {m:Fs}
theorem kP {O R:Nat->Prop} (h:IsRef O R w p m) (hl:m.now.length<=10000000) :
  Calls Tryz.prog 159 #[p] w fun e w'=>e=.returned (.tuple #[])/\RefPost O R w p (settle m) w':=by
 obtain⟨g,vn,vs,vp,T,U,rfl,H,N,G⟩:=h;obtain⟨V,W,rfl,-⟩:=cg G.now;obtain⟨D,u,i,E,r⟩:=uM G.now;have l:Ext w (w.alloc (.cells #[] 164)):=(Ext.refl _).alloc _;have j:(w.alloc (.cells #[] 164)).ownsRow w.heap.size 164 4 (.slice (some ⟨w.heap.size,0,none⟩) 0 0) 0 []:=⟨rfl,.inr ⟨w.heap.size,0,#[],rfl,Nat.le_refl _,ae _ _,Nat.le_refl _,by unfold maxLen;omega,rfl,rfl⟩⟩;have y:=Ext.row l H;obtain⟨d0,d1,d2,d3,d4,d5,d6,d7,d8⟩:=ao y;have aa:=(Array.getElem?_eq_some_iff.1 H).1;have M:Hid _:=l;have Y:Hid _:=H;have Z:Hid _:=y;have HP:Hid _:=G;have C:Hid _:=u.ext l;have K:Hid _:=i;have L:Hid _:=E;have B:Hid _:=r;have d:Hid _:=j;clear H G u i E r j l y;go_enter Tryz.func159,Tryz.ntmps159
 go_wp2_with (first
  | (at_builtin;go_must (refine r8 rfl _ _ rfl rfl w.heap.size _ 0 [] rfl d.out _ m.now.length D.flatten rfl C.out L.out B.out (by omega) (by simp) ?_;intro v2 X b F;rw[Nat.zero_add,List.nil_append]at b;have n:Ext w X:=aj M.out d.out F;have z:=Ext.row n Y.out;obtain⟨I,J,rfl,-⟩:=Row.BV b (by omega)))
  | (refine ag rfl 80 (.tmp 10) (.tmp 8) rfl g 2 rfl (.slice I m.now.length J) rfl rfl _ _ z (Nat.le_of_ble_eq_true rfl) lP (cr m.room (.slice V m.now.length W) (.slice I m.now.length J) vp T m.calls m.time m.down U) (by simp) ?_;intro w3 A o)
  | (refine ag rfl 81 (.tmp 13) _ rfl g 3 rfl (.slice none 0 0) rfl rfl _ _ A (Nat.le_of_ble_eq_true rfl) rL (cr m.room (.slice V m.now.length W) (.slice I m.now.length J) (.slice none 0 0) T m.calls m.time m.down U) (by simp) ?_;intro w4 S q))
 go_end0
 have t:OwnRows w.heap.size R X (.slice I m.now.length J) m.now:=⟨D,b,Each.imp K.out (fun c x hc=>IsRowR.BZ hc (KeepR.B2 (KeepB.BX n)))⟩;have P:=((HP.out.ext n).mono (O':=On O w.heap.size) (R':=On R w.heap.size) (fun k a=>.inl a) (fun k a=>.inl a)).Db (ReadL.Ce (t.rows (by omega)) (fun k a=>.inl a)) (fun k a=>.inr (t.lt a).1);have Q:=((P.own z o).own A q).Df;refine⟨rfl,IsRef.fit ⟨g,_,_,_,T,U,rfl,S,.inl N,Q⟩,?_⟩;exact(((Fr.refl O w).ext n).step o (fun k a=>by cases a;exact .inl N) (by rintro k a;cases a;exact aw z (by kernel_rfl))).step q (fun k a=>by cases a;exact .inl N) (by rintro k a;cases a;exact aw A (by kernel_rfl))
theorem mT {O R:Nat->Prop} (path:B8) (h:IsRef O R w p m) (d:OkM m) (T:m.time<=8000000) (S:path.length<=400) :
  Calls Tryz.prog 157 #[p,S8 path] w fun e E=>e=.returned (.int .i64 (aG m path).2)/\RefPost O R w p (aG m path).1 E:=by
 have q:Hid (IsRef O R w p m):=h;have Q:=d.B7;have D:=d.Cn;have a:Hid (aG m path=if az path=false then(m,6)else if(aA m.now path).isNone then(m,7)else(does m (.del path),0)):=rfl;obtain⟨g,X,Z,Y,W,vu,rfl,x,P,t⟩:=h;obtain⟨U,V,rfl,-⟩:=cg t.now;have y:Hid _:=x;have z:Hid _:=t;clear x t d;obtain⟨u,j⟩:∃u,az path=u:=⟨_,rfl⟩;have r:Hid _:=j;rw[j]at a;clear j;go_enter Tryz.func157,Tryz.ntmps157;go_wp2_with fail;go_at_call 153;refine(dE path _ (by omega)).mono ?_;rw[r.out];rintro e w2 ⟨rfl,b⟩
 cases u with
 | false =>
  go_wp2;go_ret;rw[a.out];exact⟨rfl,RefPost.same q.out b⟩
 | true =>
  obtain⟨F,G,H,I,J,K,L,M,N⟩:=ao (Ext.row b y.out);go_wp2_with fail;go_at_call 128;refine(fP path (ReadL.B4 z.out.now b)).mono ?_;rintro e w3 ⟨⟨i,rfl,n⟩,l⟩;rcases n with⟨c,rfl⟩ | ⟨k,f,rfl,B,c⟩
  .have o:Hid (aG m path=(m,7)):=by unfold Hid;rw[a.out,c];rfl
   clear c a;go_wp2;go_ret;rw[o.out];exact⟨rfl,RefPost.same q.out (b.trans l)⟩
  .have o:Hid (aG m path=(does m (.del path),0)):=by unfold Hid;rw[a.out,c];rfl
   clear c B a;have C:¬(k:Int)<0:=by omega
   go_wp2_with (go_at_call 193;go_must (refine(iF (.del path) (cs:=[.int .i64 3,S8 path,S8 [],.int .i64 0,.slice none 0 0,.int .i64 0]) (IsRef.ext q.out (b.trans l)) ⟨by omega,rfl⟩ (by omega) (by omega) (by omega)).mono ?_;rintro e w4 ⟨rfl,A⟩))
   go_ret;rw[o.out];exact⟨rfl,RefPost.pre (b.trans l) A⟩
end
section
open Go Go.RowKit
variable [Inhabited bf]
theorem ii (v:Value) (l:B8) (w:World) (q:IsBytes w v l) :
  Calls Tryz.prog 29 #[v] w fun e F=>(∃r,e=.returned r/\IsData (Nu w F) F r l)/\Ext w F:=by
 have T:=q.len;obtain⟨a,y,rfl,Q,R,S,z⟩:=id q;have I:Ext w (w.alloc (.cells #[] 5)):=(Ext.refl w).alloc _
 cases l with
 | nil =>
  have n:IsData (Nu w (w.alloc (.cells #[] 5))) (w.alloc (.cells #[] 5)) (.slice (some ⟨w.heap.size,0,none⟩) 0 0) [] :=
   ⟨⟨_,0,rfl,Nat.le_refl _,by omega,by simp,fun h=>absurd rfl h⟩,TypB.at (ae _ _),fun k C=>by
    have:w.heap.size=k:=by simpa [Value.ownBlock]using C
    subst this;exact⟨Nat.le_refl _,by simp⟩⟩
  have g:Hid _:=n;clear q z n;go_enter Tryz.func29,Tryz.ntmps29
  cases a with
  | none =>
   go_wp2;go_ret;exact⟨⟨_,rfl,g.out⟩,(Ext.refl _).alloc _⟩
  | some O =>
   go_wp2;go_ret;exact⟨⟨_,rfl,g.out⟩,(Ext.refl _).alloc _⟩
 | cons x t =>
  obtain⟨b,o,rfl,H⟩:=z (by simp);generalize M:x::t=L at *;have i:(w.alloc (.cells #[] 5)).ownsRow w.heap.size 5 1 (.slice (some ⟨w.heap.size,0,none⟩) 0 0) 0 []:=⟨rfl,.inr ⟨w.heap.size,0,#[],rfl,Nat.le_refl _,ae _ _,Nat.le_refl _,by unfold maxLen;omega,rfl,rfl⟩⟩;have d:∀(j:Nat) u,(L.map fun x=>Value.int .u8 x.toNat)[j]? = some u->(w.alloc (.cells #[] 5)).cell? ((⟨b,o,none⟩:Addr).add j)=some u:=by
   intro j u D;have p:(⟨b,o,none⟩:Addr).add j=⟨b,o+j,none⟩:=by unfold Addr.add;split <;> simp_all
   rw[p];exact I.cell (H j u D)
  have K:Hid _:=d;clear H d z q M;go_enter Tryz.func29,Tryz.ntmps29
  go_wp2_with (at_builtin;(refine gL _ _ _ 1 1 Tryz.underlying37 gO rfl (by omega) rfl _ _ rfl w.heap.size _ 0 _ rfl i ⟨b,o,none⟩ L.length y (L.map fun x=>Value.int .u8 x.toNat) rfl (by simp) K.out (by intro u D;obtain⟨_,_,rfl⟩:=List.mem_map.1 D;rfl) (by omega) (by omega) (by simp) ?_);intro r G c B _;have A:IsData (Nu w G) G r L:=⟨Row.BV (by simpa using c) (by omega),TypB.BV c,fun k C=>c.lt k C⟩;obtain⟨N,P,rfl,-⟩:=id A.bytes;have J:Hid _:=A;have E:Ext w G:=aj I i B;clear A c)
  go_ret;exact⟨⟨_,rfl,J.out⟩,E⟩
def bC (m:Fs) (path:B8) (mode:Int) (data:B8) (only a:Bool) (b:Int):Fs×Int :=
 if bE path mode data≠0 then(m,bE path mode data)else if only=true/\(aA m.now path).isSome then(m,8)
 else bu m path mode data (!a && decide ((data.length:Int)<=b - cV m.now+gE m.now path))
variable {w:World} {p:Value} {m:Fs}
theorem oh {O R:Nat->Prop} {n c:World} (path:B8) (mode:Int) (a:Option Addr) (data:B8) (b:Nat) (h:IsRef O R w p m) (g:Ext w n) (l:Ext n c) (u:IsData (Nu n c) c (.slice a data.length b) data) (z:path.length<=400) (x:m.now.length<=9000000) (j:m.pend.length<=10000000) (y:m.time<=10000000) :
  Calls Tryz.prog 193 #[p,.agg #[.int .i64 1,S8 [],S8 path,.int .i64 mode,.slice a data.length b,.int .i64 0]] c fun e r=>e=.returned (.tuple #[])/\RefPost O R w p (does m (.put path ⟨mode,data,0⟩)) r:=by
 have q:=g.trans l;have t:IsRef O (Nw R w c) c p m:=(h.ext q).mono (fun k d=>d) (fun k d=>.inl d);have i:IsData (Nw R w c) c (.slice a data.length b) data:=u.mono (fun k d=>.inr ⟨Nat.le_trans g.size d.1,d.2⟩);exact(iF (.put path ⟨mode,data,0⟩) (cs:=[.int .i64 1,S8 [],S8 path,.int .i64 mode,.slice a data.length b,.int .i64 0]) t ⟨by omega,_,rfl,i⟩ x j y).mono (fun e r o=>⟨o.1,RefPost.BX q o.2⟩)
theorem yQ {O R:Nat->Prop} (path:B8) (mode:Int) (v:Value) (data:B8) (only b:Bool) (a:Int) (h:IsRef O R w p m) (o:OkM m) (ht:m.time<=8000000) (hp:path.length<=400) (M:IsBytes w v data) (au:0<=a) (a0:a<=1152921504606846976) (C:aA m.now path=none) :
  Calls Tryz.prog 140 #[p,S8 path,.int .i64 mode,v,.bool only,.bool b,.int .i64 a] w fun e w'=>e=.returned (.int .i64 (bC m path mode data only b a).2)/\RefPost O R w p (bC m path mode data only b a).1 w':=by
 have r:Hid (IsRef O R w p m):=h;have hl:=o.B7;have ad:=o.Cn;have G:Hid _:=o.Cl;have hu:=iR o (by omega);obtain⟨U,L⟩:∃U:Nat,cV m.now=U:=⟨_,rfl⟩;have HU:Hid _:=L;rw[L]at hu;have t:bC m path mode data only b a=if bE path mode data≠0 then(m,bE path mode data)else if et m.now path []=false then(m,9)else if(!b && decide ((data.length:Int)<=a - U))=false then(m,10)else(does m (.put path ⟨mode,data,0⟩),0):=by
  unfold bC bu gE;rw[C,L];simp
 have c:Hid _:=t;have HV:Hid _:=M;have aa:=M.len;obtain⟨va,vc,rfl,-⟩:=id M;obtain⟨g,vn,vs,vp,vl,vu,rfl,W,hO,T⟩:=h;obtain⟨na,nc,rfl,-⟩:=cg T.now;obtain⟨d0,d1,d2,d3,d4,d5,d6,d7,d8⟩:=ao W;have HG:Hid _:=W;have S:Hid _:=T;have P:Hid _:=C;obtain⟨Z,H⟩:∃Z,az path=Z:=⟨_,rfl⟩;have j:Hid _:=H;clear W T o H L M t C;go_enter Tryz.func140,Tryz.ntmps140;go_wp2_with fail;go_at_call 128;refine(fP path S.out.now).mono ?_;rintro e w2 ⟨⟨i,rfl,y⟩,I⟩;obtain rfl:i = -1:=by
  rcases y with⟨_,h⟩ | ⟨k,f,_,_,h⟩
  .exact h
  .rw [P.out]at h;cases h
 clear y;go_wp2_with fail;go_at_call 153;refine(dE path _ (by omega)).mono ?_;rw[j.out];rintro e w3 ⟨rfl,J⟩;have d:Hid _:=I.trans J;clear I J
 cases Z with
 | false =>
  have l:Hid (bC m path mode data only b a=(m,6)):=by unfold Hid;rw[c.out];simp[bE,j.out]
  go_wp2;go_ret;rw[l.out];exact⟨rfl,RefPost.same r.out d.out⟩
 | true =>
  by_cases D:mode<1
  .have l:Hid (bC m path mode data only b a=(m,1)):=by unfold Hid;rw[c.out];simp[bE,j.out,D]
   go_wp2;go_ret;rw[l.out];exact⟨rfl,RefPost.same r.out d.out⟩
  by_cases E:3<mode
  .have l:Hid (bC m path mode data only b a=(m,1)):=by unfold Hid;rw[c.out];simp[bE,j.out,E]
   go_wp2;go_ret;rw[l.out];exact⟨rfl,RefPost.same r.out d.out⟩
  by_cases u:20000<data.length
  .have l:Hid (bC m path mode data only b a=(m,3)):=by unfold Hid;rw[c.out];simp[bE,j.out,D,E,u]
   have hi:(20000:Int)<(data.length:Int):=by omega
   go_wp2;go_ret;rw[l.out];exact⟨rfl,RefPost.same r.out d.out⟩
  have hi:¬(20000:Int)<(data.length:Int):=by omega
  have n:Hid (bC m path mode data only b a=if et m.now path []=false then(m,9)else if(!b && decide ((data.length:Int)<=a - U))=false then(m,10)else(does m (.put path ⟨mode,data,0⟩),0)):=by
   unfold Hid;rw[c.out];simp[bE,j.out,D,E,u]
  clear c;have x:et m.now path []=fG m.now path:=yx (fun e V=>oY (G.out e V).1);rw[x]at n;obtain⟨Y,F⟩:∃Y,fG m.now path=Y:=⟨_,rfl⟩;have Q:Hid _:=F;rw[F]at n;obtain⟨z0,z1,z2,z3,z4,z5,z6,z7,z8⟩:=ao (Ext.row d.out HG.out);clear F x d0 d1 d2 d3 d4 d5 d6 d7 d8;go_wp2_with fail;go_at_call 192;refine(rk path (ReadL.B4 S.out.now d.out) j.out (fun e V=>(G.out e V).1)).mono ?_;rw[Q.out];rintro e w4 ⟨rfl,q⟩
  cases Y with
  | false =>
   have l:Hid (bC m path mode data only b a=(m,9)):=by unfold Hid;rw[n.out];simp
   go_wp2;go_ret;rw[l.out];exact⟨rfl,RefPost.same r.out (Ext.trans d.out q)⟩
  | true =>
   have z:Hid _:=Ext.trans d.out q
   cases b with
   | true =>
    have l:Hid (bC m path mode data only true a=(m,10)):=by unfold Hid;rw[n.out];simp
    go_wp2;go_ret;rw[l.out];exact⟨rfl,RefPost.same r.out z.out⟩
   | false =>
    replace z1:=q.cell z1;clear q;go_wp2_with fail;go_at_call 127;refine(qd (ReadL.B4 S.out.now z.out) (by have:=HU.out;omega)).mono ?_;rw[HU.out];rintro e w5 ⟨rfl,K⟩;have A:Hid _:=Ext.trans z.out K;clear K;have a1:IntKind.i64.wrap ((U:Int) - 0)=(U:Int) - 0:=IntWalk.i64_in _ (by omega);have a2:IntKind.i64.wrap ((U:Int)+(data.length:Int))=(U:Int)+(data.length:Int):=IntWalk.i64_in _ (by omega)
    by_cases hf:a<(U:Int)+(data.length:Int)
    .have l:Hid (bC m path mode data only false a=(m,10)):=by unfold Hid;rw[n.out];simp;omega
     go_wp2;go_ret;rw[l.out];exact⟨rfl,RefPost.same r.out A.out⟩
    .have l:Hid (bC m path mode data only false a=(does m (.put path ⟨mode,data,0⟩),0)):=by unfold Hid;rw[n.out];simp;omega
     go_wp2_with fail;go_at_call 29;refine(ii _ data _ (IsBytes.ext HV.out A.out)).mono ?_;rintro e w6 ⟨⟨v6,rfl,B⟩,X⟩;obtain⟨c1,c2,rfl,-⟩:=id B.bytes;have N:Hid _:=B;clear B
     go_wp2_with (go_at_call 193;go_must (refine(oh path mode c1 data c2 r.out A.out X N.out hp (by omega) (by omega) (by omega)).mono ?_;rintro e w7 ⟨rfl,h7⟩))
     go_ret;rw[l.out];exact⟨rfl,h7⟩
theorem yS {O R:Nat->Prop} (path:B8) (mode:Int) (v:Value) (data:B8) (only c:Bool) (a:Int) (h:IsRef O R w p m) (q:OkM m) (ht:m.time<=8000000) (hp:path.length<=400) (N:IsBytes w v data) (a4:0<=a) (a5:a<=1152921504606846976) (f:Fi) (t:aA m.now path=some f) :
  Calls Tryz.prog 140 #[p,S8 path,.int .i64 mode,v,.bool only,.bool c,.int .i64 a] w fun e w'=>e=.returned (.int .i64 (bC m path mode data only c a).2)/\RefPost O R w p (bC m path mode data only c a).1 w':=by
 have x:Hid (IsRef O R w p m):=h;have hl:=q.B7;have a3:=q.Cn;have aa:Hid _:=q.Cl;have hu:=iR q (by omega);obtain⟨U,M⟩:∃U:Nat,cV m.now=U:=⟨_,rfl⟩;have Z:Hid _:=M;rw[M]at hu;have y:bC m path mode data only c a=if bE path mode data≠0 then(m,bE path mode data)else if only=true then(m,8)else if(!c && decide ((data.length:Int)<=a - U+f.data.length))=false then(m,10)else(does m (.put path ⟨mode,data,0⟩),0):=by
  unfold bC bu gE;rw[t,M];simp
 have d:Hid _:=y;have HV:Hid _:=N;have ad:=N.len;obtain⟨va,vc,rfl,-⟩:=id N;obtain⟨g,vn,vs,vp,vl,vu,rfl,T,hO,S⟩:=h;obtain⟨na,nc,rfl,n1,n2,n3,A⟩:=cg S.now;have G:Hid _:=A;have au:f.data.length<=20000:=(q.Cl _ (fd t)).2;clear A;obtain⟨d0,Q,d2,d3,d4,d5,d6,d7,d8⟩:=ao T;have HG:Hid _:=T;have Y:Hid _:=S;have H:Hid _:=t;obtain⟨X,I⟩:∃X,az path=X:=⟨_,rfl⟩;have n:Hid _:=I;clear T S q I M N y t;go_enter Tryz.func140,Tryz.ntmps140;go_wp2_with fail;go_at_call 128;refine(fP path Y.out.now).mono ?_;rintro e w2 ⟨⟨i,rfl,B⟩,u⟩;obtain⟨k,rfl,V⟩:∃k:Nat,i=k/\m.now[k]? = some (path,f):=by
  rcases B with⟨h,_⟩ | ⟨k,f',h,h2,h3⟩
  .rw [H.out]at h;cases h
  .rw [H.out]at h3;cases h3;exact⟨k,h,h2⟩
 obtain⟨b,o,s1,s2,rfl,-,-,-,-,L,-⟩:=G.out k path f V;have a2:=(List.getElem?_eq_some_iff.1 V).1;replace L:=u.cell L;replace Q:=u.cell Q;have a0:¬(k:Int)<0:=by omega
 have a1:(0:Int)<=(k:Int):=by omega
 clear B V;go_wp2_with fail;go_at_call 153;refine(dE path _ (by omega)).mono ?_;rw[n.out];rintro e w3 ⟨rfl,J⟩;have j:Hid _:=u.trans J;clear u J
 cases X with
 | false =>
  have l:Hid (bC m path mode data only c a=(m,6)):=by unfold Hid;rw[d.out];simp[bE,n.out]
  go_wp2;go_ret;rw[l.out];exact⟨rfl,RefPost.same x.out j.out⟩
 | true =>
  by_cases E:mode<1
  .have l:Hid (bC m path mode data only c a=(m,1)):=by unfold Hid;rw[d.out];simp[bE,n.out,E]
   go_wp2;go_ret;rw[l.out];exact⟨rfl,RefPost.same x.out j.out⟩
  by_cases F:3<mode
  .have l:Hid (bC m path mode data only c a=(m,1)):=by unfold Hid;rw[d.out];simp[bE,n.out,F]
   go_wp2;go_ret;rw[l.out];exact⟨rfl,RefPost.same x.out j.out⟩
  by_cases z:20000<data.length
  .have l:Hid (bC m path mode data only c a=(m,3)):=by unfold Hid;rw[d.out];simp[bE,n.out,E,F,z]
   have hi:(20000:Int)<(data.length:Int):=by omega
   go_wp2;go_ret;rw[l.out];exact⟨rfl,RefPost.same x.out j.out⟩
  have hi:¬(20000:Int)<(data.length:Int):=by omega
  have r:Hid (bC m path mode data only c a=if only=true then(m,8)else if(!c && decide ((data.length:Int)<=a - U+f.data.length))=false then(m,10)else(does m (.put path ⟨mode,data,0⟩),0)):=by
   unfold Hid;rw[d.out];simp[bE,n.out,E,F,z]
  clear d;obtain⟨z0,z1,z2,z3,z4,z5,z6,z7,z8⟩:=ao (Ext.row j.out HG.out);clear d0 Q d2 d3 d4 d5 d6 d7 d8
  cases only with
  | true =>
   have l:Hid (bC m path mode data true c a=(m,8)):=by unfold Hid;rw[r.out];simp
   go_wp2;go_ret;rw[l.out];exact⟨rfl,RefPost.same x.out j.out⟩
  | false =>
   cases c with
   | true =>
    have l:Hid (bC m path mode data false true a=(m,10)):=by unfold Hid;rw[r.out];simp
    go_wp2;go_ret;rw[l.out];exact⟨rfl,RefPost.same x.out j.out⟩
   | false =>
    go_wp2_with fail;go_at_call 127;refine(qd (ReadL.B4 Y.out.now j.out) (by have:=Z.out;omega)).mono ?_;rw[Z.out];rintro e w5 ⟨rfl,K⟩;have C:Hid _:=Ext.trans j.out K;clear K;have a6:IntKind.i64.wrap ((U:Int) - (f.data.length:Int))=(U:Int) - (f.data.length:Int):=IntWalk.i64_in _ (by omega);have a7:IntKind.i64.wrap ((U:Int) - (f.data.length:Int)+(data.length:Int))=(U:Int) - (f.data.length:Int)+(data.length:Int):=IntWalk.i64_in _ (by omega)
    by_cases hf:a<(U:Int) - (f.data.length:Int)+(data.length:Int)
    .have l:Hid (bC m path mode data false false a=(m,10)):=by unfold Hid;rw[r.out];simp;omega
     go_wp2;go_ret;rw[l.out];exact⟨rfl,RefPost.same x.out C.out⟩
    .have l:Hid (bC m path mode data false false a=(does m (.put path ⟨mode,data,0⟩),0)):=by unfold Hid;rw[r.out];simp;omega
     go_wp2_with fail;go_at_call 29;refine(ii _ data _ (IsBytes.ext HV.out C.out)).mono ?_;rintro e w6 ⟨⟨v6,rfl,D⟩,W⟩;obtain⟨c1,L,rfl,-⟩:=id D.bytes;have P:Hid _:=D;clear D
     go_wp2_with (go_at_call 193;go_must (refine(oh path mode c1 data L x.out C.out W P.out hp (by omega) (by omega) (by omega)).mono ?_;rintro e w7 ⟨rfl,h7⟩))
     go_ret;rw[l.out];exact⟨rfl,h7⟩
theorem mh {O R:Nat->Prop} (path:B8) (mode:Int) (v:Value) (data:B8) (only b:Bool) (a:Int) (h:IsRef O R w p m) (d:OkM m) (k:m.time<=8000000) (j:path.length<=400) (l:IsBytes w v data) (g:0<=a) (i:a<=1152921504606846976) :
  Calls Tryz.prog 140 #[p,S8 path,.int .i64 mode,v,.bool only,.bool b,.int .i64 a] w fun e n=>e=.returned (.int .i64 (bC m path mode data only b a).2)/\RefPost O R w p (bC m path mode data only b a).1 n:=by
 cases c:aA m.now path with
 | none=>exact yQ path mode v data only b a h d k j l g i c
 | some f=>exact yS path mode v data only b a h d k j l g i f c
end
end Go.Proofs.YtfabjgfmiaammaaGreatDoor
