/- Contracts of the program's functions and plain laws behind the card. Conditions: as each theorem states. -/
import Derived.Test.YtfabjgfmiaammaaGreatDoorYav
set_option linter.unusedVariables false
set_option linter.unusedSimpArgs false
set_option linter.unusedSectionVars false
set_option maxRecDepth 100000
set_option maxHeartbeats 64000000
namespace Go.Proofs.YtfabjgfmiaammaaGreatDoor
section
open Go Go.RowKit
variable [Inhabited bf]
structure RefIn (O R:Nat->Prop) (w:World) (p:Value) (m:Fs):Prop where
 fs:IsRef O R w p m
 ok:OkM m
 plan:fH m
 time:m.time<=5000000
 calls:m.calls<=9000000
 low:∀k,O k->k<w.heap.size
 base:Ext cy w
 high:∀k,O k->cy.heap.size<=k
 Cc:0<=m.room
 Cd:m.room<=1073741824
variable {w:World} {p:Value} {m:Fs}
theorem RefIn.ext {O R:Nat->Prop} {b:World} (h:RefIn O R w p m) (a:Ext w b):RefIn O R b p m :=
 ⟨h.fs.ext a,h.ok,h.plan,h.time,h.calls,fun k c=>Nat.lt_of_lt_of_le (h.low k c) a.size,h.base.trans a,h.high,h.Cc,h.Cd⟩
theorem IsRef.ptr {O R:Nat->Prop} (h:IsRef O R w p m):∃g,p=.pointer (some ⟨g,0,none⟩):=by
 obtain⟨g,_,_,_,_,_,a,_⟩:=h;exact⟨g,a⟩
theorem IsRef.room {O R:Nat->Prop} {g:Nat} (h:IsRef O R w (.pointer (some ⟨g,0,none⟩)) m):w.cell? ⟨g,0,none⟩=some (.int .i64 m.room):=by
 obtain⟨c,e,j,i,d,k,a,b,_⟩:=h;cases a;exact(ao b).1
theorem sd {O R:Nat->Prop} (path:B8) (mode:Int) (v:Value) (data:B8) (h:RefIn O R w p m) (Q:path.length<=400) (D:IsBytes w v data) (q:Out O w v) :
  Calls Tryz.prog 96 #[p,S8 path,.int .i64 mode,v] w fun e V=>e=.returned (.int .i64 (bZ m path mode data).2)/\RefPost O R w p (bZ m path mode data).1 V:=by
 obtain⟨d,b,o,n⟩:∃d b o,av m=(d,b,o):=⟨_,_,_,rfl⟩;have j:=(ci h.ok h.plan).1;rw[n]at j;have G:d.time<=m.time+1000:=j.time;have u:Hid (d.room=m.room):=j.room;have y:Hid (OkM d):=j.ok;have i:Hid (bZ m path mode data=if o≠0 then(d,o)else bC d path mode data true b d.room):=by
  unfold Hid bZ jU;rw[n];rfl
 have x:Hid _:=n;have l:Hid _:=h;have K:Hid _:=D;have I:Hid _:=q;have U:=h.time;have P:=h.calls;have S:=h.Cc;have T:=h.Cd;obtain⟨a,c,rfl,-⟩:=D.get;obtain⟨g,rfl⟩:=h.fs.ptr;clear n j h D q
 by_cases k:o=0
 .subst k;go_enter Tryz.func96,Tryz.ntmps96;go_wp2_with fail;go_at_call 139;refine(dC l.out.fs l.out.base l.out.high l.out.ok l.out.plan (by omega) (by omega)).mono ?_;rw[x.out];rintro e H ⟨rfl,z⟩;have B:Hid (RefPost O R w (.pointer (some ⟨g,0,none⟩)) d H):=z;have L:=z.fs.room;obtain⟨r,A⟩:∃r,d.room=r:=⟨_,rfl⟩;have J:Hid _:=A;rw[A]at L;have C:r=m.room:=A.symm.trans u.out;have E:0<=r:=by omega
  have F:r<=1073741824:=by omega
  clear z A C;have t:Hid (bZ m path mode data=bC d path mode data true b r):=by unfold Hid;rw[i.out,J.out];rfl
  go_wp2_with (go_at_call 140;go_must (refine(mh path mode _ data true b r B.out.fs y.out (by omega) Q (IsBytes.fr K.out I.out B.out.fr) (by omega) (by omega)).mono ?_;rintro e X ⟨rfl,M⟩))
  go_ret;rw[t.out];exact⟨rfl,RefPost.trans B.out M⟩
 .have W:(o==0)=false:=by simpa using k
  have N:(o != 0)=true:=by simpa using k
  have t:Hid (bZ m path mode data=(d,o)):=by unfold Hid;rw[i.out];simp[k]
  clear k i;go_enter Tryz.func96,Tryz.ntmps96
  go_wp2_with (go_at_call 139;go_must (refine(dC l.out.fs l.out.base l.out.high l.out.ok l.out.plan (by omega) (by omega)).mono ?_;rw[x.out];rintro e H ⟨rfl,z⟩))
  go_ret;rw[t.out];exact⟨rfl,z⟩
theorem kX {O R:Nat->Prop} (path:B8) (mode:Int) (v:Value) (data:B8) (h:RefIn O R w p m) (Q:path.length<=400) (D:IsBytes w v data) (q:Out O w v) :
  Calls Tryz.prog 83 #[p,S8 path,.int .i64 mode,v] w fun e V=>e=.returned (.int .i64 (bG m path mode data).2)/\RefPost O R w p (bG m path mode data).1 V:=by
 obtain⟨d,b,o,n⟩:∃d b o,av m=(d,b,o):=⟨_,_,_,rfl⟩;have j:=(ci h.ok h.plan).1;rw[n]at j;have G:d.time<=m.time+1000:=j.time;have u:Hid (d.room=m.room):=j.room;have y:Hid (OkM d):=j.ok;have i:Hid (bG m path mode data=if o≠0 then(d,o)else bC d path mode data false b d.room):=by
  unfold Hid bG jU;rw[n];rfl
 have x:Hid _:=n;have l:Hid _:=h;have K:Hid _:=D;have I:Hid _:=q;have U:=h.time;have P:=h.calls;have S:=h.Cc;have T:=h.Cd;obtain⟨a,c,rfl,-⟩:=D.get;obtain⟨g,rfl⟩:=h.fs.ptr;clear n j h D q
 by_cases k:o=0
 .subst k;go_enter Tryz.func83,Tryz.ntmps83;go_wp2_with fail;go_at_call 139;refine(dC l.out.fs l.out.base l.out.high l.out.ok l.out.plan (by omega) (by omega)).mono ?_;rw[x.out];rintro e H ⟨rfl,z⟩;have B:Hid (RefPost O R w (.pointer (some ⟨g,0,none⟩)) d H):=z;have L:=z.fs.room;obtain⟨r,A⟩:∃r,d.room=r:=⟨_,rfl⟩;have J:Hid _:=A;rw[A]at L;have C:r=m.room:=A.symm.trans u.out;have E:0<=r:=by omega
  have F:r<=1073741824:=by omega
  clear z A C;have t:Hid (bG m path mode data=bC d path mode data false b r):=by unfold Hid;rw[i.out,J.out];rfl
  go_wp2_with (go_at_call 140;go_must (refine(mh path mode _ data false b r B.out.fs y.out (by omega) Q (IsBytes.fr K.out I.out B.out.fr) (by omega) (by omega)).mono ?_;rintro e X ⟨rfl,M⟩))
  go_ret;rw[t.out];exact⟨rfl,RefPost.trans B.out M⟩
 .have W:(o==0)=false:=by simpa using k
  have N:(o != 0)=true:=by simpa using k
  have t:Hid (bG m path mode data=(d,o)):=by unfold Hid;rw[i.out];simp[k]
  clear k i;go_enter Tryz.func83,Tryz.ntmps83
  go_wp2_with (go_at_call 139;go_must (refine(dC l.out.fs l.out.base l.out.high l.out.ok l.out.plan (by omega) (by omega)).mono ?_;rw[x.out];rintro e H ⟨rfl,z⟩))
  go_ret;rw[t.out];exact⟨rfl,z⟩
theorem jW {O R:Nat->Prop} (path:B8) (h:RefIn O R w p m) (A:path.length<=400) :
  Calls Tryz.prog 94 #[p,S8 path] w fun e C=>e=.returned (.int .i64 (bD m path).2)/\RefPost O R w p (bD m path).1 C:=by
 obtain⟨i,k,j,g⟩:∃i k j,av m=(i,k,j):=⟨_,_,_,rfl⟩;have d:=(ci h.ok h.plan).1;rw[g]at d;have t:i.time<=m.time+1000:=d.time;have o:Hid (OkM i):=d.ok;have a:Hid (bD m path=if j≠0 then(i,j)else aG i path):=by
  unfold Hid bD;rw[g]
 have n:Hid _:=g;have c:Hid _:=h;have B:=h.time;have z:=h.calls;clear g d h
 by_cases b:j=0
 .subst b;have l:Hid (bD m path=aG i path):=by unfold Hid;rw[a.out];rfl
  go_enter Tryz.func94,Tryz.ntmps94
  go_wp2_with (first
   | (go_at_call 139;go_must (refine(dC c.out.fs c.out.base c.out.high c.out.ok c.out.plan (by omega) (by omega)).mono ?_;rw[n.out];rintro e u ⟨rfl,q⟩;have r:Hid (RefPost O R w p i u):=q;clear q))
   | (go_at_call 157;go_must (refine(mT path r.out.fs o.out (by omega) A).mono ?_;rintro e E ⟨rfl,x⟩)))
  go_ret;rw[l.out];exact⟨rfl,RefPost.trans r.out x⟩
 .have D:(j==0)=false:=by simpa using b
  have y:(j != 0)=true:=by simpa using b
  have l:Hid (bD m path=(i,j)):=by unfold Hid;rw[a.out];simp[b]
  clear b a;go_enter Tryz.func94,Tryz.ntmps94
  go_wp2_with (go_at_call 139;go_must (refine(dC c.out.fs c.out.base c.out.high c.out.ok c.out.plan (by omega) (by omega)).mono ?_;rw[n.out];rintro e u ⟨rfl,q⟩))
  go_ret;rw[l.out];exact⟨rfl,q⟩
theorem xq {O R:Nat->Prop} (h:RefIn O R w p m) :
  Calls Tryz.prog 100 #[p] w fun e B=>e=.returned (.int .i64 (dt m).2)/\RefPost O R w p (dt m).1 B:=by
 obtain⟨d,k,j,i⟩:∃d k j,av m=(d,k,j):=⟨_,_,_,rfl⟩;have g:=(ci h.ok h.plan).1;rw[i]at g;have r:d.time<=m.time+1000:=g.time;have z:d.now.length<=d.time:=g.ok.B7;have a:Hid (dt m=if j=0 then(settle d,0)else(d,j)):=by
  unfold Hid dt;rw[i]
 have n:Hid _:=i;have c:Hid _:=h;have A:=h.time;have y:=h.calls;clear i g h
 by_cases b:j=0
 .subst b;have l:Hid (dt m=(settle d,0)):=by unfold Hid;rw[a.out];rfl
  go_enter Tryz.func100,Tryz.ntmps100
  go_wp2_with (first
   | (go_at_call 139;go_must (refine(dC c.out.fs c.out.base c.out.high c.out.ok c.out.plan (by omega) (by omega)).mono ?_;rw[n.out];rintro e t ⟨rfl,o⟩;have q:Hid (RefPost O R w p d t):=o;clear o))
   | (go_at_call 159;go_must (refine(kP q.out.fs (by omega)).mono ?_;rintro e D ⟨rfl,u⟩)))
  go_ret;rw[l.out];exact⟨rfl,RefPost.trans q.out u⟩
 .have C:(j==0)=false:=by simpa using b
  have x:(j != 0)=true:=by simpa using b
  have l:Hid (dt m=(d,j)):=by unfold Hid;rw[a.out,if_neg b]
  clear b a;go_enter Tryz.func100,Tryz.ntmps100
  go_wp2_with (go_at_call 139;go_must (refine(dC c.out.fs c.out.base c.out.high c.out.ok c.out.plan (by omega) (by omega)).mono ?_;rw[n.out];rintro e t ⟨rfl,o⟩))
  go_ret;rw[l.out];exact⟨rfl,o⟩
end
section
open Go Go.RowKit
variable [Inhabited bf]
variable {w:World} {p:Value} {m:Fs}
theorem tM {O R:Nat->Prop} (src dst:B8) (a:Bool) (h:RefIn O R w p m) (hs:src.length<=400) (hd:dst.length<=400) :
  Calls Tryz.prog 141 #[p,S8 src,S8 dst,.bool a] w fun e w'=>e=.returned (.int .i64 (aP m src dst a).2)/\RefPost O R w p (aP m src dst a).1 w':=by
 obtain⟨b,D,C,z⟩:∃b D C,av m=(b,D,C):=⟨_,_,_,rfl⟩;have l:=(ci h.ok h.plan).1;rw[z]at l;have bb:b.time<=m.time+1000:=l.time;have bl:b.now.length<=b.time:=l.ok.B7;have bo:b.pend.length<=b.time:=l.ok.Cn;have ad:Hid _:=l.ok.Cl;have c:Hid (aP m src dst a=if C≠0 then(b,C)else if az src=false\/az dst=false then(b,6)
   else if(aA b.now src).isNone then(b,7)else if(aA b.now dst).isSome/\a=true then(b,8)
   else if src=dst then(b,0)else if(aA b.now dst).isNone/\et b.now dst src=false then(b,9)else(does b (.mv src dst),0)):=by unfold Hid aP mvM;rw[z]
 have aa:Hid _:=z;have N:Hid _:=h;have bs:=h.time;have bh:=h.calls;have bt:=tl src;have br:=tl dst;obtain⟨g,rfl⟩:=h.fs.ptr;obtain⟨ps,K⟩:∃ps,az src=ps:=⟨_,rfl⟩;obtain⟨pd,J⟩:∃pd,az dst=pd:=⟨_,rfl⟩;have S:Hid _:=K;have Q:Hid _:=J;rw[K,J]at c;clear z l h K J;go_enter Tryz.func141,Tryz.ntmps141;go_wp2_with fail;go_at_call 139;refine(dC N.out.fs N.out.base N.out.high N.out.ok N.out.plan (by omega) (by omega)).mono ?_;rw[aa.out];rintro e w1 ⟨rfl,G⟩;have H1:Hid (RefPost O R w (.pointer (some ⟨g,0,none⟩)) b w1):=G;obtain⟨g',vn,vs,vp,vl,vu,a8,hg,hO,hP⟩:=G.fs;cases a8;obtain⟨na,nc,rfl,-⟩:=cg hP.now;have HP:Hid _:=hP.now;have HG:Hid _:=hg;obtain⟨d0,Z,d2,d3,d4,d5,d6,d7,d8⟩:=ao hg;clear G hP hg d0 d2 d3 d4 d5 d6 d7 d8;go_wp2_with fail;apply ak 12 [_,_,_,_,_,undef,_,_,_,_,_,undef] [none,none,none,none,none,some (fun u _=>∃i,u=.int .i64 i/\oL b.now src i),none,none,none,none,none,some (fun u _=>∃i,u=.int .i64 i/\oL b.now dst i)] [[],[0],[1],[2],[],[3,4],[],[6],[7],[8],[],[9,10]] (by kernel_rfl) (by kernel_rfl) (by simp[aq])
 .refine ⟨?_,?_,trivial⟩
  iterate 2
   .exact fun _ _ _ _ h=>h
 .simp (maxSteps:=1000000)only[List.take_succ_cons,List.take_zero,ay,aE,ab,Act.put,List.setIfInBounds_toArray,List.set_cons_zero,List.set_cons_succ,aN,aS,aq,List.getD_cons_zero,List.getD_cons_succ,and_true,true_and,forall_const];and_intros
  iterate 5 · intro M wq L;intros;rename_i H;have f1:=L.cell Z;go_simp;exact H _ _ (Ext.refl _) rfl
  .intro M wq L t R H;obtain⟨V,a4⟩:=t;go_simp;exact(fP src (ReadL.B4 HP.out L)).mono (by rintro e' w4 ⟨⟨i,rfl,G⟩,h3⟩;exact⟨_,rfl,H _ _ h3 ⟨i,rfl,G⟩⟩)
  iterate 5 · intro M wq L;intros;rename_i H;have f1:=L.cell Z;go_simp;exact H _ _ (Ext.refl _) rfl
  .intro M wq L t R H;obtain⟨V,a4⟩:=t;go_simp;exact(fP dst (ReadL.B4 HP.out L)).mono (by rintro e' w4 ⟨⟨i,rfl,G⟩,h3⟩;exact⟨_,rfl,H _ _ h3 ⟨i,rfl,G⟩⟩)
 intro M w2 A t;simp only[aU,Nat.zero_add,Nat.reduceAdd,and_true]at t;have q5:=t.2.2.2.2.2.1;have a9:=t.2.2.2.2.2.2.2.2.2.2.2;simp(maxSteps:=1000000)only[List.take_succ_cons,List.take_zero,List.drop_succ_cons,List.drop_zero,ab,Act.put,List.setIfInBounds_toArray,List.set_cons_zero,List.set_cons_succ,Nat.zero_add,Nat.reduceAdd,t];clear t;generalize M 5=x5 at *;generalize M 11=bv at *;obtain⟨i1,rfl,E⟩:=q5;obtain⟨i2,rfl,x⟩:=a9;have H2:Hid (RefPost O R w (.pointer (some ⟨g,0,none⟩)) b w2):=RefPost.ext H1.out A;have T:=A.cell Z;have a2:Hid _:=A;clear A Z
 by_cases r:C=0
 .subst r
  cases ps with
  | false =>
   have q:Hid (aP m src dst a=(b,6)):=by unfold Hid;rw[c.out];simp
   go_wp2_with (go_at_call 153;go_must (refine(dE src _ (by omega)).mono ?_;rw[S.out];rintro e w3 ⟨rfl,o⟩))
   go_ret;rw[q.out];exact⟨rfl,RefPost.ext H2.out o⟩
  | true =>
   go_wp2_with fail;go_at_call 153;refine(dE src _ (by omega)).mono ?_;rw[S.out];rintro e w3 ⟨rfl,o⟩;go_wp2_with fail;go_at_call 153;refine(dE dst _ (by omega)).mono ?_;rw[Q.out];rintro e w4 ⟨rfl,B⟩;have F:Hid (RefPost O R w (.pointer (some ⟨g,0,none⟩)) b w4):=RefPost.ext H2.out (o.trans B);have z1:=(o.trans B).cell T;have a3:Hid _:=Ext.trans a2.out (o.trans B);clear o B T
   cases pd with
   | false =>
    have q:Hid (aP m src dst a=(b,6)):=by unfold Hid;rw[c.out];simp
    go_wp2;go_ret;rw[q.out];exact⟨rfl,F.out⟩
   | true =>
    rcases E with⟨n,rfl⟩ | ⟨k,f,rfl,t,n⟩
    .have q:Hid (aP m src dst a=(b,7)):=by unfold Hid;rw[c.out,n];simp
     clear n x;go_wp2;go_ret;rw[q.out];exact⟨rfl,F.out⟩
    .have V:¬(k:Int)<0:=by omega
     have j:Hid (aP m src dst a=if(aA b.now dst).isSome/\a=true then(b,8)
       else if src=dst then(b,0)else if(aA b.now dst).isNone/\et b.now dst src=false then(b,9)else(does b (.mv src dst),0)):=by unfold Hid;rw[c.out,n];simp
     have au:Hid _:=n;clear n t c;rcases x with⟨d,rfl⟩ | ⟨k2,f2,rfl,a6,d⟩
     .have a7:(src==dst)=false:=by
       rw[beq_eq_false_iff_ne];intro e;have:=au.out;rw[e,d]at this;cases this
      have a1:Hid (src≠dst):=beq_eq_false_iff_ne.1 a7;rw[d]at j;obtain⟨my,I⟩:∃my,fG (ch b.now src) dst=my:=⟨_,rfl⟩;have a0:Hid _:=I;have bk:=dL b.now src;have y:Hid (aP m src dst a=if my=false then(b,9)else(does b (.mv src dst),0)):=by
       unfold Hid;rw[j.out,if_neg (by simp),if_neg a1.out,yw,I];simp
      clear d I j;cases a
      all_goals
       go_wp2_with fail;go_at_call 194;refine(ib src (ReadL.B4 HP.out a3.out) (by omega)).mono ?_;rintro e w5 ⟨⟨v5,rfl,W⟩,X⟩;have P:Hid _:=OwnRows.rows W (by omega);obtain⟨a5,c5,rfl,-⟩:=cg P.out;clear W;go_wp2_with fail;go_at_call 192;refine(rk dst P.out Q.out (fun e he=>(ad.out e (List.mem_filter.1 he).1).1)).mono ?_;rw[a0.out];rintro e w6 ⟨rfl,Y⟩;have H6:Hid (RefPost O R w (.pointer (some ⟨g,0,none⟩)) b w6):=RefPost.ext F.out (X.trans Y);clear X Y
       cases my with
       | false =>
        go_wp2;go_ret;rw[y.out];exact⟨rfl,H6.out⟩
       | true =>
        go_wp2_with (go_at_call 193;go_must (refine(iF (.mv src dst) (cs:=[.int .i64 2,S8 src,S8 dst,.int .i64 0,.slice none 0 0,.int .i64 0]) H6.out.fs ⟨by omega,by omega,rfl⟩ (by omega) (by omega) (by omega)).mono ?_;rintro e w7 ⟨rfl,h7⟩))
        go_ret;rw[y.out];exact⟨rfl,RefPost.trans H6.out h7⟩
     .have a':¬(k2:Int)<0:=by omega
      have ba:(0:Int)<=(k2:Int):=by omega
      rw[d]at j;clear d a6
      cases a with
      | true =>
       have q:Hid (aP m src dst true=(b,8)):=by unfold Hid;rw[j.out];simp
       go_wp2;go_ret;rw[q.out];exact⟨rfl,F.out⟩
      | false =>
       obtain⟨bq,U⟩:∃bq,(src==dst)=bq:=⟨_,rfl⟩
       cases bq with
       | true =>
        have q:Hid (aP m src dst false=(b,0)):=by unfold Hid;rw[j.out,if_neg (by simp),if_pos (by simpa using U)]
        clear j;go_wp2;go_ret;rw[q.out];exact⟨rfl,F.out⟩
       | false =>
        have q:Hid (aP m src dst false=(does b (.mv src dst),0)):=by unfold Hid;rw[j.out,if_neg (by simp),if_neg (by simpa using U),if_neg (by simp)]
        clear j
        go_wp2_with (go_at_call 193;go_must (refine(iF (.mv src dst) (cs:=[.int .i64 2,S8 src,S8 dst,.int .i64 0,.slice none 0 0,.int .i64 0]) F.out.fs ⟨by omega,by omega,rfl⟩ (by omega) (by omega) (by omega)).mono ?_;rintro e w7 ⟨rfl,h7⟩))
        go_ret;rw[q.out];exact⟨rfl,RefPost.trans F.out h7⟩
 .have hb:(C==0)=false:=by simpa using r
  have bd:(C != 0)=true:=by simpa using r
  have y:Hid (aP m src dst a=(b,C)):=by unfold Hid;rw[c.out];simp[r]
  clear r c E x;go_wp2;go_ret;rw[y.out];exact⟨rfl,H2.out⟩
theorem lD {O R:Nat->Prop} (src dst:B8) (h:RefIn O R w p m) (d:src.length<=400) (c:dst.length<=400) :
  Calls Tryz.prog 84 #[p,S8 src,S8 dst] w fun e g=>e=.returned (.int .i64 (aP m src dst false).2)/\RefPost O R w p (aP m src dst false).1 g:=by
 have a:Hid _:=tM src dst false h d c;clear h;go_enter Tryz.func84,Tryz.ntmps84
 go_wp2_with (go_at_call 141;go_must (refine Calls.mono a.out ?_;rintro e i ⟨rfl,b⟩))
 go_ret;exact⟨rfl,b⟩
theorem rn {O R:Nat->Prop} (src dst:B8) (h:RefIn O R w p m) (d:src.length<=400) (c:dst.length<=400) :
  Calls Tryz.prog 98 #[p,S8 src,S8 dst] w fun e g=>e=.returned (.int .i64 (aP m src dst true).2)/\RefPost O R w p (aP m src dst true).1 g:=by
 have a:Hid _:=tM src dst true h d c;clear h;go_enter Tryz.func98,Tryz.ntmps98
 go_wp2_with (go_at_call 141;go_must (refine Calls.mono a.out ?_;rintro e i ⟨rfl,b⟩))
 go_ret;exact⟨rfl,b⟩
end
section
open Go Go.RowKit
variable [Inhabited bf]
theorem cB:(Tryz.prog.info? 114).map (·.size)=some 3:=by kernel_rfl
theorem sM {l:ax} {k:Nat} {e:B8×Fi} (h:l[k]? = some e):aM (l.take (k+1))=aM (l.take k)++[e.1]:=by
 unfold aM;rw[List.take_add_one,h,Option.toList_some,List.map_append];rfl
variable {w:World} {p:Value}
theorem iI {O R:Nat->Prop} {b:World} {m1:Fs} {cs cur:Array Value} (h:RefPost O R w p m1 b) (r:b.heap[w.heap.size]? = some (.cells cur 114 (0,0))):RefPost O R w p m1 (b.setRow w.heap.size cs):=by
 have d:=af b w.heap.size cs;obtain⟨g,C,E,D,B,F,rfl,u,z,i⟩:=h.fs;have j:∀k,(∃x,b.heap[k]? = some x/\∀cs y,x≠Obj.cells cs 114 y)->(b.setRow w.heap.size cs).heap[k]? = b.heap[k]?:=fun k ⟨x,a,A⟩=>d.block k (Array.getElem?_eq_some_iff.1 a).1 (fun l=>by
  simp only[Option.some.injEq]at l;subst l;rw[r]at a;exact A cur (0,0) (Option.some.inj a).symm)
 have q:=i.stay (fun k c=>by obtain⟨o,f,a⟩:=i.now.typed k c;exact j k ⟨_,a,by simp⟩) (fun k c=>by obtain⟨o,f,a⟩:=i.sure.typed k c;exact j k ⟨_,a,by simp⟩) (fun k c=>by obtain⟨o,f,a⟩:=i.pend.typed k c;exact j k ⟨_,a,by simp⟩) (fun k c=>by obtain⟨o,f,a⟩:=i.plan.typed k c;exact j k ⟨_,a,by simp⟩) (fun k c=>by obtain⟨o,f,a⟩:=i.users.typed k c;exact j k ⟨_,a,by simp⟩) (cw d (by rintro k e;cases e;exact aw r (by kernel_rfl)));have t:(b.setRow w.heap.size cs).heap.size=b.heap.size:=by simp[World.setRow]
 have n:∀(Q:Nat->Prop) k,Nw Q w b k->Nw Q w (b.setRow w.heap.size cs) k:=fun Q k e=>e.imp id (fun h=>⟨h.1,by rw[t];exact h.2⟩)
 refine⟨IsRef.mono ⟨g,C,E,D,B,F,rfl,(j g ⟨_,u,by simp⟩).trans u,z,q⟩ (n O) (n R),h.fr.step d (fun k e=>by cases e;exact .inr (Nat.le_refl _)) (by rintro k e;cases e;exact aw r (by kernel_rfl))⟩
variable {m:Fs}
theorem wS {O R:Nat->Prop} (path:B8) (h:IsRef O R w p m) :
  Calls Tryz.prog 69 #[p,S8 path] w fun e w'=>(∃v,e=.returned (.tuple #[fiV (cz m path).1 v,.bool (cz m path).2])/\IsData (Nu w w') w' v (cz m path).1.data)/\Ext w w':=by
 obtain⟨g,vn,vs,vp,vl,vu,rfl,hg,-,S⟩:=h;obtain⟨a,au,rfl,h1,h2,h3,h4⟩:=cg S.now;have H4:Hid _:=h4;obtain⟨E,q⟩:∃E,E=w.alloc (.cells #[.int .i64 0,.slice none 0 0,.int .i64 0] 114):=⟨_,rfl⟩;have t:Ext w E:=by rw[q];exact(Ext.refl _).alloc _
 have X:E.heap[w.heap.size]? = some (.cells #[.int .i64 0,.slice none 0 0,.int .i64 0] 114 (0,0)):=by rw[q];exact ae w _
 have a4:w.heap.size<E.heap.size:=by rw[q];simp
 obtain⟨d0,d1,d2,d3,d4,d5,d6,d7,d8⟩:=ao (Ext.row t hg);have V:Hid _:=q;have F:Hid _:=t;have HN:Hid _:=ReadL.B4 S.now t;have Z:=S.now.lt;clear q hg S h4 t d0 d2 d3 d4 d5 d6 d7 d8;go_enter Tryz.func69,Tryz.ntmps69;go_upto_region 1 with fail;rw[show w.alloc (.cells #[.int .i64 0,.slice none 0 0,.int .i64 0] 114)=E from V.out.symm];go_wp2_with fail;go_at_call 128;refine(fP path HN.out).mono ?_;rintro e x ⟨⟨i,rfl,aa⟩,c⟩;have A:=c.row X;rcases aa with⟨n,rfl⟩ | ⟨k,f,rfl,L,n⟩
 .have z:Hid (cz m path=(cE,false)):=by unfold Hid cz;rw[n]
  clear n
  go_wp2_with (refine wpList_store_row rfl 114 (.tmp 4) (.tmp 16) rfl w.heap.size #[.int .i64 0,.slice none 0 0,.int .i64 0] rfl rfl 114 _ A cB rfl (by simp[Value.oneCell']) ?_)
  refine bodyPost_ret (bN rfl _ _ w.heap.size 114 #[.int .i64 0,.slice none 0 0,.int .i64 0] (0,0) _ (.bool false) rfl rfl (setRow_heap _ _ _ _ _ _ A) Tryz.underlying114 cB) rfl ?_;rw[z.out];exact⟨⟨_,rfl,IsData.nil _ _⟩,(Ext.trans F.out c).setRow _ _ (Nat.le_refl _)⟩
 .have z:Hid (cz m path=(f,true)):=by unfold Hid cz;rw[n]
  obtain⟨b,o,s1,s2,rfl,-,hd,c0,c1,c2,c3⟩:=H4.out k path f L;have a2:=(List.getElem?_eq_some_iff.1 L).1;have d:=Ext.trans F.out c;replace c1:=d.cell c1;replace c2:=d.cell c2;replace c3:=d.cell c3;replace d1:=c.cell d1;have a0:b<x.heap.size:=Nat.lt_of_lt_of_le (Z b rfl) d.size;obtain⟨Q,r⟩:∃Q,Q=x.alloc (.cells #[.int .i64 f.mode,.slice s1 f.data.length s2,.int .i64 f.time] 114):=⟨_,rfl⟩;have u:Ext x Q:=by rw[r];exact(Ext.refl _).alloc _
  have C:Q.heap[x.heap.size]? = some (.cells #[.int .i64 f.mode,.slice s1 f.data.length s2,.int .i64 f.time] 114 (0,0)):=by rw[r];exact ae _ _
  have W:Hid _:=r;obtain⟨y0,y1,y2⟩:=bL C;have J:=u.row A;have HD:Hid _:=IsData.ext hd (Ext.trans d u);have a1:¬(k:Int)<0:=by omega
  have G:Hid _:=Ext.trans d u;have P:w.heap.size≠x.heap.size:=by have:=c.size;omega
  have a3:E.heap.size<=x.heap.size:=c.size;clear hd r L n d u c0 c;go_upto_region 5 with fail;rw[show x.alloc (.cells #[.int .i64 f.mode,.slice s1 f.data.length s2,.int .i64 f.time] 114)=Q from W.out.symm];go_wp2_with fail;go_at_call 29;refine(ii _ f.data _ HD.out.bytes).mono ?_;rintro e w3 ⟨⟨v3,rfl,B⟩,D⟩;obtain⟨H,I,rfl,-⟩:=id B.bytes;have U:Hid _:=B;have y:=D.row C;have K:=D.row J;clear B C J y0 y1 y2
  go_wp2_with (first
   | (refine ag rfl 37 (.tmp 28) (.tmp 27) rfl x.heap.size 1 rfl (.slice H f.data.length I) rfl rfl _ _ y (Nat.le_of_ble_eq_true rfl) fD #[.int .i64 f.mode,.slice H f.data.length I,.int .i64 f.time] (by simp) ?_;intro T Y l;have j:=aV l K P)
   | (refine wpList_load_row rfl 114 (.tmp 7) rfl x.heap.size rfl 114 _ (0,0) _ Y Tryz.underlying114 rfl cB ?_)
   | (refine wpList_store_row rfl 114 (.tmp 4) (.tmp 29) rfl w.heap.size #[.int .i64 f.mode,.slice H f.data.length I,.int .i64 f.time] rfl rfl 114 _ j cB rfl (by simp[Value.oneCell']) ?_))
  refine bodyPost_ret (bN rfl _ _ w.heap.size 114 #[.int .i64 f.mode,.slice H f.data.length I,.int .i64 f.time] (0,0) _ (.bool true) rfl rfl (setRow_heap _ _ _ _ _ _ j) Tryz.underlying114 cB) rfl ?_;have M:KeepB w3 T:=KeepB.B1 l y (by kernel_rfl);have N:KeepB T (T.setRow w.heap.size #[.int .i64 f.mode,.slice H f.data.length I,.int .i64 f.time]):=KeepB.B1 (af _ _ _) j (by kernel_rfl);have ad:Ext w T:=Ext.but (Ext.trans G.out D) l (by omega);rw[z.out];refine⟨⟨_,rfl,(U.out.keep (M.trans N)).mono (fun k L=>Nu.mono (Below.size G.out) (Nat.le_trans M.1 N.1) L)⟩,ad.setRow _ _ (Nat.le_refl _)⟩
theorem pT {O R:Nat->Prop} (path:B8) (h:RefIn O R w p m) (hp:path.length<=400) :
  Calls Tryz.prog 102 #[p,S8 path] w fun e w'=>(∃v,e=.returned (.tuple #[fiV (aF m path).2.1 v,.int .i64 (aF m path).2.2])/\IsData (Nu w w') w' v (aF m path).2.1.data)/\RefPost O R w p (aF m path).1 w':=by
 obtain⟨b,x,o,A⟩:∃b x o,av m=(b,x,o):=⟨_,_,_,rfl⟩;have y:aF m path=if o≠0 then(b,cE,o)else if az path=false then(b,cE,6)else match aA b.now path with | some f=>(b,f,0) | none=>(b,cE,7):=by
  unfold aF;rw[A];dsimp only
  cases aA b.now path <;> rfl
 have a:Hid _:=y;have Q:Hid _:=A;have a4:=h.time;have au:=h.calls;obtain⟨z,n⟩:∃z,z=w.alloc (.cells #[.int .i64 0,.slice none 0 0,.int .i64 0] 114):=⟨_,rfl⟩;have D:Ext w z:=by rw[n];exact(Ext.refl _).alloc _
 have K:z.heap[w.heap.size]? = some (.cells #[.int .i64 0,.slice none 0 0,.int .i64 0] 114 (0,0)):=by rw[n];exact ae w _
 have a3:w.heap.size<z.heap.size:=by rw[n];simp
 have S:Hid (¬O w.heap.size):=fun ho=>by have:=h.low _ ho;omega
 have G:Hid _:=h.ext D;have V:Hid _:=n;have X:Hid _:=D;clear y A h n D;go_enter Tryz.func102,Tryz.ntmps102;go_wp2_with fail;rw[show w.alloc (.cells #[.int .i64 0,.slice none 0 0,.int .i64 0] 114)=z from V.out.symm];go_at_call 139;refine(dC G.out.fs G.out.base G.out.high G.out.ok G.out.plan (by omega) (by omega)).mono ?_;rw[Q.out];rintro e w1 ⟨rfl,J⟩;have H1:Hid (RefPost O R z p b w1):=J;have H0:Hid (RefPost O R w p b w1):=RefPost.pre X.out J;have q:=J.fr.row K S.out;have a0:z.heap.size<=w1.heap.size:=J.fr.size;clear J K
 by_cases l:o=0
 .subst l;obtain⟨pd,B⟩:∃pd,az path=pd:=⟨_,rfl⟩;have T:Hid _:=B;rw[B,if_neg (by simp)]at a;clear B;go_wp2_with fail;go_at_call 153;refine(dE path _ (by omega)).mono ?_;rw[T.out];rintro e w2 ⟨rfl,i⟩;have r:=i.row q;have H2:Hid _:=RefPost.ext H1.out i;have E:Hid _:=RefPost.ext H0.out i;have a1:=i.size
  cases pd with
  | false =>
   have d:Hid (aF m path=(b,cE,6)):=a.out;clear a i
   go_wp2_with (refine wpList_store_row rfl 114 (.tmp 4) (.tmp 22) rfl w.heap.size #[.int .i64 0,.slice none 0 0,.int .i64 0] rfl rfl 114 _ r cB rfl (by simp[Value.oneCell']) ?_)
   refine bodyPost_ret (bN rfl _ _ w.heap.size 114 #[.int .i64 0,.slice none 0 0,.int .i64 0] (0,0) _ (.int .i64 6) rfl rfl (setRow_heap _ _ _ _ _ _ r) Tryz.underlying114 cB) rfl ?_;rw[d.out];exact⟨⟨_,rfl,IsData.nil _ _⟩,iI E.out r⟩
  | true =>
   have j:Hid (aF m path=(b,(cz b path).1,if(cz b path).2 then 0 else 7)):=by
    unfold Hid cz;rw[a.out,if_neg (by simp)]
    cases aA b.now path <;> rfl
   have N:Hid ((cz b path).2=false->(cz b path).1=cE):=by
    unfold Hid cz
    cases aA b.now path <;> simp
   obtain⟨c,ok,C⟩:∃c ok,cz b path=(c,ok):=⟨_,_,rfl⟩;have U:Hid _:=C;rw[C]at j N;clear a i C;go_wp2_with fail;go_at_call 69;refine(wS path H2.out.fs).mono ?_;rw[U.out];rintro e M ⟨⟨v,rfl,hv⟩,t⟩;obtain⟨H,I,rfl,-⟩:=id hv.bytes;have Y:=t.row r;have HV:Hid _:=hv;have P:Hid _:=RefPost.ext E.out t;have a2:=t.size;have u:Ext M (M.alloc (.cells #[.int .i64 c.mode,.slice H c.data.length I,.int .i64 c.time] 114)):=(Ext.refl _).alloc _;have g:=u.row Y;have Z:=ae M (.cells #[.int .i64 c.mode,.slice H c.data.length I,.int .i64 c.time] 114);have F:Hid _:=RefPost.ext P.out u;have W:Hid _:=u;clear hv t u
   cases ok with
   | false =>
    have aa:c=cE:=N.out rfl;subst aa;have d:Hid (aF m path=(b,cE,7)):=j.out;clear j N
    go_wp2_with (refine wpList_store_row rfl 114 (.tmp 4) (.tmp 31) rfl w.heap.size #[.int .i64 0,.slice none 0 0,.int .i64 0] rfl rfl 114 _ g cB rfl (by simp[Value.oneCell']) ?_)
    refine bodyPost_ret (bN rfl _ _ w.heap.size 114 #[.int .i64 0,.slice none 0 0,.int .i64 0] (0,0) _ (.int .i64 7) rfl rfl (setRow_heap _ _ _ _ _ _ g) Tryz.underlying114 cB) rfl ?_;rw[d.out];exact⟨⟨_,rfl,IsData.nil _ _⟩,iI F.out g⟩
   | true =>
    have d:Hid (aF m path=(b,c,0)):=j.out;clear j N
    go_wp2_with (first
     | (refine wpList_load_row rfl 114 (.tmp 8) rfl M.heap.size rfl 114 _ (0,0) _ Z Tryz.underlying114 rfl cB ?_)
     | (refine wpList_store_row rfl 114 (.tmp 4) (.tmp 32) rfl w.heap.size #[.int .i64 c.mode,.slice H c.data.length I,.int .i64 c.time] rfl rfl 114 _ g cB rfl (by simp[Value.oneCell']) ?_))
    refine bodyPost_ret (bN rfl _ _ w.heap.size 114 #[.int .i64 c.mode,.slice H c.data.length I,.int .i64 c.time] (0,0) _ (.int .i64 0) rfl rfl (setRow_heap _ _ _ _ _ _ g) Tryz.underlying114 cB) rfl ?_;rw[d.out];have L:KeepB M _:=(KeepB.BX W.out).trans (KeepB.B1 (af _ w.heap.size #[.int .i64 c.mode,.slice H c.data.length I,.int .i64 c.time]) g (by kernel_rfl));exact⟨⟨_,rfl,(HV.out.keep L).mono (fun k hk=>Nu.mono (by omega) L.1 hk)⟩,iI F.out g⟩
 .have hb:(o==0)=false:=by simpa using l
  have ad:(o != 0)=true:=by simpa using l
  have d:Hid (aF m path=(b,cE,o)):=by unfold Hid;rw[a.out];simp[l]
  clear l a
  go_wp2_with (refine wpList_store_row rfl 114 (.tmp 4) (.tmp 17) rfl w.heap.size #[.int .i64 0,.slice none 0 0,.int .i64 0] rfl rfl 114 _ q cB rfl (by simp[Value.oneCell']) ?_)
  refine bodyPost_ret (bN rfl _ _ w.heap.size 114 #[.int .i64 0,.slice none 0 0,.int .i64 0] (0,0) _ (.int .i64 o) rfl rfl (setRow_heap _ _ _ _ _ _ q) Tryz.underlying114 cB) rfl ?_;rw[d.out];exact⟨⟨_,rfl,IsData.nil _ _⟩,iI H0.out q⟩
end
section
open Go Go.RowKit
variable [Inhabited bf]
def fK (dir q:B8):Bool:=dir==[] || aB dir q
theorem vL {l:ax} {k:Nat} {q:B8} {f:Fi} {g:B8->Bool} (h:l[k]? = some (q,f)):(aM (l.take (k+1))).filter g=(aM (l.take k)).filter g++(if g q then[q]else[]):=by
 rw[sM h,List.filter_append];congr 1
 by_cases a:g q=true
 .rw [if_pos a,List.filter_cons_of_pos a];rfl
 .rw [if_neg a,List.filter_cons_of_neg a];rfl
theorem pI {O R:Nat->Prop} {w:World} {p:Value} {m:Fs} (dir:B8) (h:RefIn O R w p m) (hp:dir.length<=400) :
  Calls Tryz.prog 90 #[p,S8 dir] w fun e w'=>(∃v,e=.returned (.tuple #[v,.int .i64 (bg m dir).2.2])/\IsStrs w' v (bg m dir).2.1)/\RefPost O R w p (bg m dir).1 w':=by
 obtain⟨d,M,L,H⟩:∃d M L,av m=(d,M,L):=⟨_,_,_,rfl⟩;have A:=(ci h.ok h.plan).1;rw[H]at A;have a':d.now.length<=d.time:=A.ok.B7;have a6:d.time<=m.time+1000:=A.time;have a1:Hid _:=A.ok.Cl;have N:bg m dir=if L≠0 then(d,[],L)else if dir=[]then(d,aM d.now,0)else if az dir=false then(d,[],6)else(d,(aM d.now).filter (aB dir),0):=by unfold bg;rw[H]
 have r:Hid _:=N;have a0:Hid _:=H;have W:Hid _:=h;have bo:=h.time;have a9:=h.calls;have bl:=tl dir;obtain⟨g,rfl⟩:=h.fs.ptr;clear N H A h;go_enter Tryz.func90,Tryz.ntmps90;go_wp2_with fail;go_at_call 139;refine(dC W.out.fs W.out.base W.out.high W.out.ok W.out.plan (by omega) (by omega)).mono ?_;rw[a0.out];rintro e w1 ⟨rfl,h1⟩;have H1:Hid (RefPost O R w (.pointer (some ⟨g,0,none⟩)) d w1):=h1;clear h1
 by_cases B:L=0
 .subst B;obtain⟨Q,t⟩:∃Q,(dir==[])=Q:=⟨_,rfl⟩;obtain⟨pd,aa⟩:∃pd,az dir=pd:=⟨_,rfl⟩;have au:Hid _:=t;have G:Hid _:=aa;clear aa
  by_cases Z:Q=false/\pd=false
  .obtain ⟨rfl,rfl⟩:=Z;have S:dir≠[]:=by simpa using t
   have z:Hid (bg m dir=(d,[],6)):=by unfold Hid;rw[r.out,if_neg (by simp),if_neg S,if_pos G.out]
   have Y:(dir != [])=true:=by simpa using S
   clear S
   go_wp2_with (go_at_call 153;go_must (refine(dE dir _ (by omega)).mono ?_;rw[G.out];rintro e F ⟨rfl,D⟩))
   go_ret2;rw[z.out];exact⟨⟨_,rfl,IsStrs.nil _⟩,RefPost.ext H1.out D⟩
  .have K:Hid (Q=true\/pd=true):=by
    cases Q <;> cases pd <;> simp_all [Hid]
   have z:Hid (bg m dir=(d,(aM d.now).filter (fK dir),0)):=by
    unfold Hid;rw[r.out,if_neg (by simp)]
    by_cases j:dir=[]
    .rw [if_pos j];congr 2;refine(List.filter_eq_self.2 fun q _=>?_).symm;unfold fK;rw[j];rfl
    .have hb:Q=false:=by rw[<-t];simpa using j
     rcases K.out with h | h
     .rw [hb]at h;cases h
     .rw [if_neg j,if_neg (by rw[G.out,h];simp)];congr 2;refine List.filter_congr fun q _=>?_
      unfold fK;rw[au.out,hb];rfl
   clear Z r;cases Q
   case' true =>
    have Y:(dir != [])=false:=by simpa using t
    go_upto_region 6 with fail;obtain⟨F,T⟩:∃F,F=w1:=⟨_,rfl⟩;have D:Ext w1 F:=by rw[T];exact Ext.refl _
    rw[show w1=F from T.symm];clear T
   case' false =>
    have Y:(dir != [])=true:=by simpa using t
    have X:Hid (az dir=true):=by
     rcases K.out with h | h
     .cases h
     .rw [G.out,h];rfl
    go_wp2_with fail;go_at_call 153;refine(dE dir _ (by omega)).mono ?_;rw[X.out];rintro e F ⟨rfl,D⟩;go_upto_region 6 with fail
   all_goals
    have H2:Hid (RefPost O R w (.pointer (some ⟨g,0,none⟩)) d F):=RefPost.ext H1.out D;obtain⟨g',vn,vs,vp,vl,vu,a4,hg,hO,hP⟩:=H2.out.fs;cases a4;obtain⟨a,a7,rfl,h1,h2,h3,h4⟩:=cg hP.now;obtain⟨d0,d1,d2,d3,d4,d5,d6,d7,d8⟩:=ao hg;have H4:Hid _:=h4;clear hg hP h4 d0 d2 d3 d4 d5 d6 d7 d8 D hO;go_wp2_with fail;go_loopw [8,9] (fun a5 i wr=>∃k n:Nat,k<=d.now.length/\i=.int .i64 k/\((aM (d.now.take k)).filter (fK dir)).length=n/\n<=k/\wr.ownsRow F.heap.size 9 1 a5 n (((aM (d.now.take k)).filter (fK dir)).map S8)/\Ext F wr) (fun _ i _=>d.now.length - (intOf i).toNat)
    case atStart=>exact⟨0,0,Nat.zero_le _,rfl,rfl,Nat.le_refl _,World.ownsRow_nil _ _ _ _,Ext.refl _⟩
    case round =>
     obtain⟨k,n,hk,rfl,U,ba,l,V⟩:=hrel;replace d1:=V.cell d1;have bk:=V.size;have HN:Hid _:=U;clear U
     by_cases a3:k<d.now.length
     .obtain ⟨⟨q,f⟩,I⟩:∃e,d.now[k]? = some e:=⟨_,List.getElem?_eq_getElem a3⟩;obtain⟨b,o,s,c,rfl,bb,hd,c0,-,-,-⟩:=H4.out k q f I;replace c0:=V.cell c0;have J:Hid _:=vL (g:=fK dir) I;have HQ:Hid (az q=true):=(a1.out _ (List.mem_of_getElem? I)).1;clear hd I
      by_cases j:dir=[]
      .first
        | exact absurd j (by simpa using t)
        | (
          have P:Hid (fK dir q=true):=by unfold Hid fK;rw[j];rfl
          clear j;rw[P.out,if_pos rfl]at J
          go_wp2_with (at_builtin;go_must (refine fq rfl _ _ rfl F.heap.size _ n ((aM (d.now.take k)).filter (fK dir)) rfl (l.alloc _) wr.heap.size 1 1 [q] rfl rfl (ae _ _) (by omega) (by simp;omega) ?_);intro v' w4 y C)
          go_roundw
          case rel=>exact⟨k+1,n+1,by omega,by go_num,by rw[J.out,List.length_append,HN.out];rfl,by omega,by rw[J.out];exact y,aj (V.alloc _) (l.alloc _) C⟩
          case measure=>simp[intOf];omega)
      .first
        | exact absurd (by simpa using t) j
        | (
          have P:Hid (fK dir q=aB dir q):=by unfold Hid fK;rw[t];rfl
          clear j;obtain⟨u,hu⟩:∃u,aB dir q=u:=⟨_,rfl⟩;have HU:Hid _:=hu;rw[P.out,hu]at J;clear hu;go_wp2_with fail;go_at_call 154;refine(iL dir q _ (by omega) (by omega)).mono ?_;rw[X.out,HQ.out,HU.out];rintro e w3 ⟨rfl,E⟩;replace d1:=E.cell d1;replace c0:=E.cell c0;have x:=am l E;have ad:=V.trans E;have bh:=E.size
          cases u with
          | true =>
           go_wp2_with (at_builtin;go_must (refine fq rfl _ _ rfl F.heap.size _ n ((aM (d.now.take k)).filter (fK dir)) rfl (x.alloc _) w3.heap.size 1 1 [q] rfl rfl (ae _ _) (by omega) (by simp;omega) ?_);intro v' w4 y C)
           go_roundw
           case rel=>exact⟨k+1,n+1,by omega,by go_num,by rw[J.out,if_pos (by simp),List.length_append,HN.out];rfl,by omega,by rw[J.out,if_pos (by simp)];exact y,aj (ad.alloc _) (x.alloc _) C⟩
           case measure=>simp[intOf];omega
          | false =>
           go_wp2;go_roundw
           case rel=>exact⟨k+1,n,by omega,by go_num,by rw[J.out,if_neg (by simp),List.append_nil];exact HN.out,by omega,by rw[J.out,if_neg (by simp),List.append_nil];exact x,ad⟩
           case measure=>simp[intOf];omega)
     .have a2:k=d.now.length:=by omega
      subst a2;have U:=HN.out;rw[List.take_length]at l U;have HO:Hid _:=oF l U.symm (by omega);clear l U;go_wp2;go_ret2;rw[z.out];exact⟨⟨_,rfl,HO.out⟩,RefPost.ext H2.out V⟩
 .have hb:(L==0)=false:=by simpa using B
  have a8:(L != 0)=true:=by simpa using B
  have z:Hid (bg m dir=(d,[],L)):=by unfold Hid;rw[r.out];simp[B]
  clear B r;go_wp2;go_ret2;rw[z.out];exact⟨⟨_,rfl,IsStrs.nil _⟩,H1.out⟩
end
end Go.Proofs.YtfabjgfmiaammaaGreatDoor
