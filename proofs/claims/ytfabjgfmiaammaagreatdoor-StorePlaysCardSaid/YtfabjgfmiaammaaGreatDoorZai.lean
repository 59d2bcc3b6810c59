/- Contracts of the program's functions and plain laws behind the card. Conditions: as each theorem states. -/
import Derived.Test.YtfabjgfmiaammaaGreatDoorZah
import Derived.Test.YtfabjgfmiaammaaGreatDoorZag
set_option linter.unusedVariables false
set_option linter.unusedSimpArgs false
set_option linter.unusedSectionVars false
set_option maxRecDepth 100000
set_option maxHeartbeats 64000000
namespace Go.Proofs.YtfabjgfmiaammaaGreatDoor
section
open Go Go.RowKit
variable [Inhabited bc]
variable {w:World}
theorem qZ {g:Nat} {a b c d e i j:Value} {t:TypeId} {fr:Nat×Nat} (h:w.heap[g]? = some (.cells #[a,b,c,d,e,i,j] t fr)) :
  w.cell? ⟨g,0,none⟩=some a/\w.cell? ⟨g,1,none⟩=some b/\w.cell? ⟨g,2,none⟩=some c/\w.cell? ⟨g,3,none⟩=some d/\w.cell? ⟨g,4,none⟩=some e/\w.cell? ⟨g,5,none⟩=some i/\w.cell? ⟨g,6,none⟩=some j:=by
 simp[World.cell?,h]
theorem dx {O R:Nat->Prop} {p:Value} {m:Fs} (h:IsRef O R w p m) (a4:Ext ci w) (a5:∀k,O k->ci.heap.size<=k) (a6:OkM m) (X:fy m) (ht:m.time<=6000000) (cx:m.calls<=10000000) :
  Calls Tryz.prog 139 #[p] w fun e w'=>e=.returned (.tuple #[.bool (aB m).2.1,.int .i64 (aB m).2.2])/\RefPost O R w p (aB m).1 w':=by
 obtain⟨g,vn,vs,vp,vl,vu,rfl,hg,hO,hP⟩:=h;obtain⟨d0,d1,d2,d3,d4,d5,d6,d7,d8⟩:=ah hg;have HG:Hid _:=hg;have HP:Hid _:=hP;have ca:Hid _:=X;have cb:Hid _:=a6;have c0:=X.len;have a7:Hid _:=a4;have a8:Hid _:=a5;have cc:Hid (aB m=((m.plan.foldl (bC (m.calls+1)) (cB m,false,false)).1,(m.plan.foldl (bC (m.calls+1)) (cB m,false,false)).2.1,if(m.plan.foldl (bC (m.calls+1)) (cB m,false,false)).1.down then 12 else if(m.plan.foldl (bC (m.calls+1)) (cB m,false,false)).2.2 then 11 else 0)):=rfl;clear hg hP a6 X a4 a5;go_enter Tryz.func139,Tryz.ntmps139
 go_wp2_with (refine af rfl 3 (.tmp 14) (.tmp 12) rfl g 5 rfl (.int .i64 ((m.calls:Int)+1)) rfl rfl _ _ HG.out (Nat.le_of_ble_eq_true rfl) eT (cf m.room vn vs vp vl (m.calls+1) m.time m.down vu) (by simp) ?_;intro w1 a9 S;have ce:Hid (RefPost O R w (.pointer (some ⟨g,0,none⟩)) (cB m) w1):=RefPost.store (m':=cB m) (Fr.refl O w) (.inl hO) HG.out (HP.out.mono (fun k H=>.inl H) (fun k H=>.inl H)) S a9)
 clear a9 S d0 d1 d2 d3 d4 d5 d6 d7 d8;go_loopw [4,5,6] (fun fu br i wr=>∃(k:Nat) (x:Fs×Bool×Bool),k<=m.plan.length/\i=.int .i64 k/\fu=.bool x.2.1/\br=.bool x.2.2/\x=(m.plan.take k).foldl (bC (m.calls+1)) (cB m,false,false)/\RefPost O R w (.pointer (some ⟨g,0,none⟩)) x.1 wr/\Mid m k x) (fun _ _ i _=>m.plan.length - (intOf i).toNat)
 case atStart=>exact⟨0,(cB m,false,false),Nat.zero_le _,rfl,rfl,rfl,rfl,ce.out,Mid.start cb.out⟩
 case round =>
  obtain⟨k,⟨u,A,z⟩,H,rfl,rfl,rfl,hx,hf,C⟩:=hrel;have a':Hid _:=hx;have HF:Hid (RefPost O R w (.pointer (some ⟨g,0,none⟩)) u wr):=hf;have T:Hid _:=C;have cl:u.plan=m.plan:=C.plan;have cm:u.calls=m.calls+1:=C.calls;have c1:u.time<=m.time+k:=C.time;obtain⟨g',c2,c3,c4,c5,c6,J,bb,c7,bd⟩:=hf.fs;cases J;have E:=bd.plan;rw[cl]at E;obtain⟨a,c8,rfl,l1,l2,l3,U⟩:=lw 7 (fun c x hx=>hx.length.1) (by omega) (OwnL.Cv E (by omega));have bh:Hid _:=U;obtain⟨z0,z1,z2,z3,z4,z5,z6,z7,z8⟩:=ah bb;have c9:Hid _:=bb;rw[cm]at z5;clear hx hf C E U bd z0 z1 z2 z3 z6 z8
  by_cases cn:k<m.plan.length
  .obtain ⟨e,K⟩:∃e,m.plan[k]? = some e:=⟨_,List.getElem?_eq_getElem cn⟩;obtain⟨b,o,cs,rfl,co,y⟩:=bh.out k e K;obtain⟨vd,rfl,hd,-⟩:=co;obtain⟨Y,Z,rfl,-⟩:=id hd.bytes;have y0:=y 0 _ rfl;have y1:=y 1 _ rfl;have y2:=y 2 _ rfl;have y3:=y 3 _ rfl;have y4:=y 4 _ rfl;have y5:=y 5 _ rfl;have y6:=y 6 _ rfl;simp only[Nat.add_zero]at y0;have c':Hid _:=K;have L:(m.plan.take (k+1)).foldl (bC (m.calls+1)) (cB m,false,false)=bC (m.calls+1) (u,A,z) e:=by
    rw[List.take_add_one,K,Option.toList_some,List.foldl_append,<-a'.out];rfl
   have F:Hid _:=L;have J:=ca.out.ev e (List.mem_of_getElem? K);have bk:Hid _:=J;have G:Hid (Mid m (k+1) (bC (m.calls+1) (u,A,z) e)):=by
    have h1:=T.out.next (k:=m.calls+1) e
    refine⟨h1.ok,?_,h1.Ci,h1.plan,h1.calls,h1.room⟩;have:=h1.time;split at this <;> omega
   have V:Hid (bC (m.calls+1) (u,A,z) e=if e.t≠((m.calls+1:Nat):Int)then(u,A,z)else(em u e,A || fI e==10,z || fI e==11)):=hI _ _ _;obtain⟨t,d,n,q,r,j,l⟩:=e;simp only at J y0 y1 y2 y3 y4 y5 y6 hd;have bl:Ext wr (wr.alloc (.cells #[.int .i64 t,.int .i64 d,.int .i64 n,.int .i64 q,.int .i64 r,S8 j,.slice Y l.length Z] 122)):=(Ext.refl _).alloc _;have da:Hid _:=bl;have HD:Hid _:=hd;obtain⟨bt,bo⟩:∃bt,(t != (m.calls:Int)+1)=bt:=⟨_,rfl⟩;have bq:Hid _:=bo;clear y hd L bl K J;go_wp2_with fail;obtain⟨wx,P⟩:∃wx,wx=wr.alloc (.cells #[.int .i64 t,.int .i64 d,.int .i64 n,.int .i64 q,.int .i64 r,S8 j,.slice Y l.length Z] 122):=⟨_,rfl⟩;have ad:Ext wr wx:=by rw[P];exact(Ext.refl _).alloc _
   have au:wx.heap[wr.heap.size]? = some (.cells #[.int .i64 t,.int .i64 d,.int .i64 n,.int .i64 q,.int .i64 r,S8 j,.slice Y l.length Z] 122 (0,0)):=by rw[P];exact ab _ _
   have a0:=ad.cell z5;rw[show((m.calls+1:Nat):Int)=(m.calls:Int)+1 by omega]at a0;obtain⟨e0,-⟩:=qZ au;have cp:Hid _:=P;clear P y0 y1 y2 y3 y4 y5 y6 z4 z7;rw[show wr.alloc (.cells #[.int .i64 t,.int .i64 d,.int .i64 n,.int .i64 q,.int .i64 r,S8 j,.slice Y l.length Z] 122)=wx from cp.out.symm];apply aj 7 [_,_,_,_,_,_,.bool bt] [none,none,none,none,none,none,none] [[],[0],[],[2],[3],[4],[1,5]] (by kernel_rfl) (by kernel_rfl) (by simp[ak])
   .trivial
   .simp (maxSteps:=1000000)only[List.take_succ_cons,List.take_zero,aw,aA,aa,Act.put,List.setIfInBounds_toArray,List.set_cons_zero,List.set_cons_succ,aK,aO,ak,List.getD_cons_zero,List.getD_cons_succ,and_true,true_and,forall_const];and_intros
    iterate 7 · intro xs wq hq;intros;rename_i hR;have f0:=hq.cell e0;have f5:=hq.cell a0;go_simp;exact hR _ _ (Ext.refl _) rfl
   intro xs w2 a1 H;simp only[aP,Nat.zero_add,Nat.reduceAdd,and_true]at H;simp(maxSteps:=1000000)only[List.take_succ_cons,List.take_zero,List.drop_succ_cons,List.drop_zero,aa,Act.put,List.setIfInBounds_toArray,List.set_cons_zero,List.set_cons_succ,Nat.zero_add,Nat.reduceAdd,H];clear H;have bs:=a1.row au;obtain⟨f0,f1,f2,f3,f4,f5,f6⟩:=qZ bs;have bS:Ext wr w2:=ad.trans a1;have B:Hid (RefPost O R w (.pointer (some ⟨g,0,none⟩)) u w2):=RefPost.ext HF.out bS;have cq:Hid (IsBytes w2 (.slice Y l.length Z) l):=OldB.at HD.out ((Ext.B5 a7.out HF.out.fr a8.out).trans bS);have ct:Hid (Out (Nw O w w2) w2 (.slice Y l.length Z)):=OldB.out HD.out (fun k H=>by
    rcases H with H | H
    .exact a8.out k H
    .have:=Below.size a7.out;omega)
   have dc:=HD.out.bytes.len;clear ad au a0 e0 a1 bs bo z5
   cases bt with
   | true =>
    have cu:Hid (¬t=((m.calls+1:Nat):Int)):=by
     have:=bq.out;intro h9;rw[h9]at this;simp at this
    clear f0 f1 f2 f3 f4 f5 f6;go_wp2;go_roundw
    case rel =>
     have D:bC (m.calls+1) (u,A,z) ⟨t,d,n,q,r,j,l⟩=(u,A,z):=by rw[V.out,if_pos cu.out]
     exact⟨k+1,(u,A,z),by omega,by go_num,rfl,rfl,(F.out.trans D).symm,B.out,by rw[<-D];exact G.out⟩
    case measure=>simp[intOf];omega
   | false =>
    have I:Hid (bC (m.calls+1) (u,A,z) ⟨t,d,n,q,r,j,l⟩=(if d=1 then cS u q r else if d=4 then(aM u j n l).1 else if d=5 then(aL u j).1 else u,A || (if d=2 then 10 else if d=3 then 11 else(0:Int))==10,z || (if d=2 then 10 else if d=3 then 11 else(0:Int))==11)):=by
     have h9:t=((m.calls+1:Nat):Int):=by
      have:=bq.out;simp at this;omega
     unfold Hid;rw[V.out,if_neg (by simp only[ne_eq,Decidable.not_not];exact h9)];rfl
    obtain⟨b0,b6,b7⟩:=bk.out;have M:Hid (OkM u):=T.out.ok;clear f0
    by_cases k1:d=1
    .subst k1
     go_wp2_with (go_at_call 108;go_must (refine(nK q r B.out.fs M.out (by omega) b0 b6).mono ?_;rintro e3 w3 ⟨rfl,W⟩;have N:Hid _:=RefPost.trans B.out W;clear W))
     go_roundw
     case rel =>
      have D:bC (m.calls+1) (u,A,z) ⟨t,1,n,q,r,j,l⟩=(cS u q r,A,z):=by rw[I.out];simp
      exact⟨k+1,(cS u q r,A,z),by omega,by go_num,rfl,rfl,(F.out.trans D).symm,N.out,by rw[<-D];exact G.out⟩
     case measure=>simp[intOf];omega
    have b1:(d==1)=false:=by simpa using k1
    by_cases k2:d=2
    .subst k2;go_wp2;go_roundw
     case rel =>
      have D:bC (m.calls+1) (u,A,z) ⟨t,2,n,q,r,j,l⟩=(u,true,z):=by rw[I.out];simp
      exact⟨k+1,(u,true,z),by omega,by go_num,rfl,rfl,(F.out.trans D).symm,B.out,by rw[<-D];exact G.out⟩
     case measure=>simp[intOf];omega
    have b2:(d==2)=false:=by simpa using k2
    by_cases k3:d=3
    .subst k3;go_wp2;go_roundw
     case rel =>
      have D:bC (m.calls+1) (u,A,z) ⟨t,3,n,q,r,j,l⟩=(u,A,true):=by rw[I.out];simp
      exact⟨k+1,(u,A,true),by omega,by go_num,rfl,rfl,(F.out.trans D).symm,B.out,by rw[<-D];exact G.out⟩
     case measure=>simp[intOf];omega
    have b3:(d==3)=false:=by simpa using k3
    by_cases k4:d=4
    .subst k4
     go_wp2_with (go_at_call 104;go_must (refine(j8 j n (.slice Y l.length Z) l B.out.fs M.out (by omega) b7 cq.out ct.out).mono ?_;rintro e3 w3 ⟨rfl,W⟩;have N:Hid _:=RefPost.trans B.out W;clear W))
     go_roundw
     case rel =>
      have D:bC (m.calls+1) (u,A,z) ⟨t,4,n,q,r,j,l⟩=((aM u j n l).1,A,z):=by rw[I.out];simp
      exact⟨k+1,((aM u j n l).1,A,z),by omega,by go_num,rfl,rfl,(F.out.trans D).symm,N.out,by rw[<-D];exact G.out⟩
     case measure=>simp[intOf];omega
    have b4:(d==4)=false:=by simpa using k4
    by_cases k5:d=5
    .subst k5
     go_wp2_with (go_at_call 106;go_must (refine(jD j B.out.fs M.out (by omega) b7).mono ?_;rintro e3 w3 ⟨rfl,W⟩;have N:Hid _:=RefPost.trans B.out W;clear W))
     go_roundw
     case rel =>
      have D:bC (m.calls+1) (u,A,z) ⟨t,5,n,q,r,j,l⟩=((aL u j).1,A,z):=by rw[I.out];simp
      exact⟨k+1,((aL u j).1,A,z),by omega,by go_num,rfl,rfl,(F.out.trans D).symm,N.out,by rw[<-D];exact G.out⟩
     case measure=>simp[intOf];omega
    have b5:(d==5)=false:=by simpa using k5
    have b8:Hid (bC (m.calls+1) (u,A,z) ⟨t,d,n,q,r,j,l⟩=(u,A,z)):=by unfold Hid;rw[I.out,if_neg k1,if_neg k4,if_neg k5,if_neg k2,if_neg k3];simp
    clear k1 k2 k3 k4 k5;go_wp2;go_roundw
    case rel=>exact⟨k+1,(u,A,z),by omega,by go_num,rfl,rfl,(F.out.trans b8.out).symm,B.out,by rw[<-b8.out];exact G.out⟩
    case measure=>simp[intOf];omega
  .have cv:k=m.plan.length:=by omega
   subst cv;have a2:=a'.out;rw[List.take_length]at a2;have Q:Hid (aB m=(u,A,if u.down then 12 else if z then 11 else 0)):=by
    unfold Hid;rw[cc.out,<-a2]
   have a3:Hid (RefPost O R w (.pointer (some ⟨g,0,none⟩)) u wr):=HF.out;obtain⟨dn,b'⟩:∃dn,u.down=dn:=⟨_,rfl⟩;rw[b']at z7 Q;clear a2 b'
   cases dn with
   | true =>
    go_wp2;go_ret2;rw[Q.out];exact⟨rfl,a3.out⟩
   | false =>
    cases z with
    | true =>
     go_wp2;go_ret2;rw[Q.out];exact⟨rfl,a3.out⟩
    | false =>
     go_wp2;go_ret2;rw[Q.out];exact⟨rfl,a3.out⟩
end
section
open Go Go.RowKit
variable [Inhabited bc]
structure RefIn (O R:Nat->Prop) (w:World) (p:Value) (m:Fs):Prop where
 fs:IsRef O R w p m
 ok:OkM m
 plan:fy m
 time:m.time<=5000000
 calls:m.calls<=9000000
 low:∀k,O k->k<w.heap.size
 base:Ext ci w
 high:∀k,O k->ci.heap.size<=k
 B4:0<=m.room
 B3:m.room<=1073741824
variable {w:World} {p:Value} {m:Fs}
theorem RefIn.ext {O R:Nat->Prop} {b:World} (h:RefIn O R w p m) (a:Ext w b):RefIn O R b p m :=
 ⟨h.fs.ext a,h.ok,h.plan,h.time,h.calls,fun k c=>Nat.lt_of_lt_of_le (h.low k c) a.size,h.base.trans a,h.high,h.B4,h.B3⟩
theorem IsRef.ptr {O R:Nat->Prop} (h:IsRef O R w p m):∃g,p=.pointer (some ⟨g,0,none⟩):=by
 obtain⟨g,_,_,_,_,_,a,_⟩:=h;exact⟨g,a⟩
theorem IsRef.room {O R:Nat->Prop} {g:Nat} (h:IsRef O R w (.pointer (some ⟨g,0,none⟩)) m):w.cell? ⟨g,0,none⟩=some (.int .i64 m.room):=by
 obtain⟨c,d,e,i,j,k,a,b,_⟩:=h;cases a;exact(ah b).1
theorem r7 {O R:Nat->Prop} (path:B8) (mode:Int) (v:Value) (data:B8) (h:RefIn O R w p m) (I:path.length<=400) (B:IsBytes w v data) (o:Out O w v) :
  Calls Tryz.prog 96 #[p,S8 path,.int .i64 mode,v] w fun e J=>e=.returned (.int .i64 (bY m path mode data).2)/\RefPost O R w p (bY m path mode data).1 J:=by
 obtain⟨d,b,q,n⟩:∃d b q,aB m=(d,b,q):=⟨_,_,_,rfl⟩;have i:=(cd h.ok h.plan).1;rw[n]at i;have E:d.time<=m.time+1000:=i.time;have t:Hid (d.room=m.room):=i.room;have x:Hid (OkM d):=i.ok;have j:Hid (bY m path mode data=if q≠0 then(d,q)else bw d path mode data true b d.room):=by
  unfold Hid bY jP;rw[n];rfl
 have y:Hid _:=n;have l:Hid _:=h;have K:Hid _:=B;have L:Hid _:=o;have M:=h.time;have N:=h.calls;have P:=h.B4;have Q:=h.B3;obtain⟨a,c,rfl,-⟩:=B.get;obtain⟨g,rfl⟩:=h.fs.ptr;clear n i h B o
 by_cases k:q=0
 .subst k;go_enter Tryz.func96,Tryz.ntmps96;go_wp2_with fail;go_at_call 139;refine(dx l.out.fs l.out.base l.out.high l.out.ok l.out.plan (by omega) (by omega)).mono ?_;rw[y.out];rintro e F ⟨rfl,z⟩;have C:Hid (RefPost O R w (.pointer (some ⟨g,0,none⟩)) d F):=z;have S:=z.fs.room;obtain⟨r,A⟩:∃r,d.room=r:=⟨_,rfl⟩;have T:Hid _:=A;rw[A]at S;have D:r=m.room:=A.symm.trans t.out;have G:0<=r:=by omega
  have H:r<=1073741824:=by omega
  clear z A D;have u:Hid (bY m path mode data=bw d path mode data true b r):=by unfold Hid;rw[j.out,T.out];rfl
  go_wp2_with (go_at_call 140;go_must (refine(lV path mode _ data true b r C.out.fs x.out (by omega) I (IsBytes.fr K.out L.out C.out.fr) (by omega) (by omega)).mono ?_;rintro e W ⟨rfl,U⟩))
  go_ret;rw[u.out];exact⟨rfl,RefPost.trans C.out U⟩
 .have X:(q==0)=false:=by simpa using k
  have V:(q != 0)=true:=by simpa using k
  have u:Hid (bY m path mode data=(d,q)):=by unfold Hid;rw[j.out];simp[k]
  clear k j;go_enter Tryz.func96,Tryz.ntmps96
  go_wp2_with (go_at_call 139;go_must (refine(dx l.out.fs l.out.base l.out.high l.out.ok l.out.plan (by omega) (by omega)).mono ?_;rw[y.out];rintro e F ⟨rfl,z⟩))
  go_ret;rw[u.out];exact⟨rfl,z⟩
theorem kE {O R:Nat->Prop} (path:B8) (mode:Int) (v:Value) (data:B8) (h:RefIn O R w p m) (I:path.length<=400) (B:IsBytes w v data) (o:Out O w v) :
  Calls Tryz.prog 83 #[p,S8 path,.int .i64 mode,v] w fun e J=>e=.returned (.int .i64 (bD m path mode data).2)/\RefPost O R w p (bD m path mode data).1 J:=by
 obtain⟨d,b,q,n⟩:∃d b q,aB m=(d,b,q):=⟨_,_,_,rfl⟩;have i:=(cd h.ok h.plan).1;rw[n]at i;have E:d.time<=m.time+1000:=i.time;have t:Hid (d.room=m.room):=i.room;have x:Hid (OkM d):=i.ok;have j:Hid (bD m path mode data=if q≠0 then(d,q)else bw d path mode data false b d.room):=by
  unfold Hid bD jP;rw[n];rfl
 have y:Hid _:=n;have l:Hid _:=h;have K:Hid _:=B;have L:Hid _:=o;have M:=h.time;have N:=h.calls;have P:=h.B4;have Q:=h.B3;obtain⟨a,c,rfl,-⟩:=B.get;obtain⟨g,rfl⟩:=h.fs.ptr;clear n i h B o
 by_cases k:q=0
 .subst k;go_enter Tryz.func83,Tryz.ntmps83;go_wp2_with fail;go_at_call 139;refine(dx l.out.fs l.out.base l.out.high l.out.ok l.out.plan (by omega) (by omega)).mono ?_;rw[y.out];rintro e F ⟨rfl,z⟩;have C:Hid (RefPost O R w (.pointer (some ⟨g,0,none⟩)) d F):=z;have S:=z.fs.room;obtain⟨r,A⟩:∃r,d.room=r:=⟨_,rfl⟩;have T:Hid _:=A;rw[A]at S;have D:r=m.room:=A.symm.trans t.out;have G:0<=r:=by omega
  have H:r<=1073741824:=by omega
  clear z A D;have u:Hid (bD m path mode data=bw d path mode data false b r):=by unfold Hid;rw[j.out,T.out];rfl
  go_wp2_with (go_at_call 140;go_must (refine(lV path mode _ data false b r C.out.fs x.out (by omega) I (IsBytes.fr K.out L.out C.out.fr) (by omega) (by omega)).mono ?_;rintro e W ⟨rfl,U⟩))
  go_ret;rw[u.out];exact⟨rfl,RefPost.trans C.out U⟩
 .have X:(q==0)=false:=by simpa using k
  have V:(q != 0)=true:=by simpa using k
  have u:Hid (bD m path mode data=(d,q)):=by unfold Hid;rw[j.out];simp[k]
  clear k j;go_enter Tryz.func83,Tryz.ntmps83
  go_wp2_with (go_at_call 139;go_must (refine(dx l.out.fs l.out.base l.out.high l.out.ok l.out.plan (by omega) (by omega)).mono ?_;rw[y.out];rintro e F ⟨rfl,z⟩))
  go_ret;rw[u.out];exact⟨rfl,z⟩
theorem jS {O R:Nat->Prop} (path:B8) (h:RefIn O R w p m) (x:path.length<=400) :
  Calls Tryz.prog 94 #[p,S8 path] w fun e y=>e=.returned (.int .i64 (bz m path).2)/\RefPost O R w p (bz m path).1 y:=by
 obtain⟨d,j,k,g⟩:∃d j k,aB m=(d,j,k):=⟨_,_,_,rfl⟩;have i:=(cd h.ok h.plan).1;rw[g]at i;have r:d.time<=m.time+1000:=i.time;have n:Hid (OkM d):=i.ok;have a:Hid (bz m path=if k≠0 then(d,k)else aD d path):=by
  unfold Hid bz;rw[g]
 have o:Hid _:=g;have c:Hid _:=h;have z:=h.time;have A:=h.calls;clear g i h
 by_cases b:k=0
 .subst b;have l:Hid (bz m path=aD d path):=by unfold Hid;rw[a.out];rfl
  go_enter Tryz.func94,Tryz.ntmps94
  go_wp2_with (first
   | (go_at_call 139;go_must (refine(dx c.out.fs c.out.base c.out.high c.out.ok c.out.plan (by omega) (by omega)).mono ?_;rw[o.out];rintro e t ⟨rfl,q⟩;have u:Hid (RefPost O R w p d t):=q;clear q))
   | (go_at_call 157;go_must (refine(mU path u.out.fs n.out (by omega) x).mono ?_;rintro e D ⟨rfl,B⟩)))
  go_ret;rw[l.out];exact⟨rfl,RefPost.trans u.out B⟩
 .have E:(k==0)=false:=by simpa using b
  have C:(k != 0)=true:=by simpa using b
  have l:Hid (bz m path=(d,k)):=by unfold Hid;rw[a.out];simp[b]
  clear b a;go_enter Tryz.func94,Tryz.ntmps94
  go_wp2_with (go_at_call 139;go_must (refine(dx c.out.fs c.out.base c.out.high c.out.ok c.out.plan (by omega) (by omega)).mono ?_;rw[o.out];rintro e t ⟨rfl,q⟩))
  go_ret;rw[l.out];exact⟨rfl,q⟩
theorem vT {O R:Nat->Prop} (h:RefIn O R w p m) :
  Calls Tryz.prog 100 #[p] w fun e u=>e=.returned (.int .i64 (dg m).2)/\RefPost O R w p (dg m).1 u:=by
 obtain⟨c,j,k,g⟩:∃c j k,aB m=(c,j,k):=⟨_,_,_,rfl⟩;have i:=(cd h.ok h.plan).1;rw[g]at i;have q:c.time<=m.time+1000:=i.time;have x:c.now.length<=c.time:=i.ok.BY;have a:Hid (dg m=if k=0 then(settle c,0)else(c,k)):=by
  unfold Hid dg;rw[g]
 have n:Hid _:=g;have d:Hid _:=h;have y:=h.time;have z:=h.calls;clear g i h
 by_cases b:k=0
 .subst b;have l:Hid (dg m=(settle c,0)):=by unfold Hid;rw[a.out];rfl
  go_enter Tryz.func100,Tryz.ntmps100
  go_wp2_with (first
   | (go_at_call 139;go_must (refine(dx d.out.fs d.out.base d.out.high d.out.ok d.out.plan (by omega) (by omega)).mono ?_;rw[n.out];rintro e r ⟨rfl,o⟩;have t:Hid (RefPost O R w p c r):=o;clear o))
   | (go_at_call 159;go_must (refine(kD t.out.fs (by omega)).mono ?_;rintro e C ⟨rfl,A⟩)))
  go_ret;rw[l.out];exact⟨rfl,RefPost.trans t.out A⟩
 .have D:(k==0)=false:=by simpa using b
  have B:(k != 0)=true:=by simpa using b
  have l:Hid (dg m=(c,k)):=by unfold Hid;rw[a.out,if_neg b]
  clear b a;go_enter Tryz.func100,Tryz.ntmps100
  go_wp2_with (go_at_call 139;go_must (refine(dx d.out.fs d.out.base d.out.high d.out.ok d.out.plan (by omega) (by omega)).mono ?_;rw[n.out];rintro e r ⟨rfl,o⟩))
  go_ret;rw[l.out];exact⟨rfl,o⟩
end
section
open Go Go.RowKit
variable [Inhabited bc]
variable {w:World} {p:Value} {m:Fs}
theorem tC {O R:Nat->Prop} (src dst:B8) (a:Bool) (h:RefIn O R w p m) (hs:src.length<=400) (hd:dst.length<=400) :
  Calls Tryz.prog 141 #[p,S8 src,S8 dst,.bool a] w fun e w'=>e=.returned (.int .i64 (aN m src dst a).2)/\RefPost O R w p (aN m src dst a).1 w':=by
 obtain⟨b,C,D,y⟩:∃b C D,aB m=(b,C,D):=⟨_,_,_,rfl⟩;have l:=(cd h.ok h.plan).1;rw[y]at l;have bb:b.time<=m.time+1000:=l.time;have bk:b.now.length<=b.time:=l.ok.BY;have bl:b.pend.length<=b.time:=l.ok.Ca;have ad:Hid _:=l.ok.Cg;have c:Hid (aN m src dst a=if D≠0 then(b,D)else if aC src=false\/aC dst=false then(b,6)
   else if(ax b.now src).isNone then(b,7)else if(ax b.now dst).isSome/\a=true then(b,8)
   else if src=dst then(b,0)else if(ax b.now dst).isNone/\ei b.now dst src=false then(b,9)else(does b (.mv src dst),0)):=by unfold Hid aN mvM;rw[y]
 have au:Hid _:=y;have N:Hid _:=h;have bo:=h.time;have br:=h.calls;have bs:=tl src;have bt:=tl dst;obtain⟨g,rfl⟩:=h.fs.ptr;obtain⟨ps,F⟩:∃ps,aC src=ps:=⟨_,rfl⟩;obtain⟨pd,G⟩:∃pd,aC dst=pd:=⟨_,rfl⟩;have P:Hid _:=F;have Q:Hid _:=G;rw[F,G]at c;clear y l h F G;go_enter Tryz.func141,Tryz.ntmps141;go_wp2_with fail;go_at_call 139;refine(dx N.out.fs N.out.base N.out.high N.out.ok N.out.plan (by omega) (by omega)).mono ?_;rw[au.out];rintro e w1 ⟨rfl,H⟩;have H1:Hid (RefPost O R w (.pointer (some ⟨g,0,none⟩)) b w1):=H;obtain⟨g',vn,vs,vp,vl,vu,a0,hg,hO,hP⟩:=H.fs;cases a0;obtain⟨na,nc,rfl,-⟩:=bQ hP.now;have HP:Hid _:=hP.now;have HG:Hid _:=hg;obtain⟨d0,Z,d2,d3,d4,d5,d6,d7,d8⟩:=ah hg;clear H hP hg d0 d2 d3 d4 d5 d6 d7 d8;go_wp2_with fail;apply aj 12 [_,_,_,_,_,undef,_,_,_,_,_,undef] [none,none,none,none,none,some (fun u _=>∃i,u=.int .i64 i/\oE b.now src i),none,none,none,none,none,some (fun u _=>∃i,u=.int .i64 i/\oE b.now dst i)] [[],[0],[1],[2],[],[3,4],[],[6],[7],[8],[],[9,10]] (by kernel_rfl) (by kernel_rfl) (by simp[ak])
 .refine ⟨?_,?_,trivial⟩
  iterate 2
   .exact fun _ _ _ _ h=>h
 .simp (maxSteps:=1000000)only[List.take_succ_cons,List.take_zero,aw,aA,aa,Act.put,List.setIfInBounds_toArray,List.set_cons_zero,List.set_cons_succ,aK,aO,ak,List.getD_cons_zero,List.getD_cons_succ,and_true,true_and,forall_const];and_intros
  iterate 5 · intro M wq I;intros;rename_i J;have f1:=I.cell Z;go_simp;exact J _ _ (Ext.refl _) rfl
  .intro M wq I q R J;obtain⟨S,a1⟩:=q;go_simp;exact(fK src (ReadL.BV HP.out I)).mono (by rintro e' w4 ⟨⟨i,rfl,H⟩,h3⟩;exact⟨_,rfl,J _ _ h3 ⟨i,rfl,H⟩⟩)
  iterate 5 · intro M wq I;intros;rename_i J;have f1:=I.cell Z;go_simp;exact J _ _ (Ext.refl _) rfl
  .intro M wq I q R J;obtain⟨S,a1⟩:=q;go_simp;exact(fK dst (ReadL.BV HP.out I)).mono (by rintro e' w4 ⟨⟨i,rfl,H⟩,h3⟩;exact⟨_,rfl,J _ _ h3 ⟨i,rfl,H⟩⟩)
 intro M w2 z q;simp only[aP,Nat.zero_add,Nat.reduceAdd,and_true]at q;have q5:=q.2.2.2.2.2.1;have a2:=q.2.2.2.2.2.2.2.2.2.2.2;simp(maxSteps:=1000000)only[List.take_succ_cons,List.take_zero,List.drop_succ_cons,List.drop_zero,aa,Act.put,List.setIfInBounds_toArray,List.set_cons_zero,List.set_cons_succ,Nat.zero_add,Nat.reduceAdd,q];clear q;generalize M 5=x5 at *;generalize M 11=bx at *;obtain⟨i1,rfl,E⟩:=q5;obtain⟨i2,rfl,r⟩:=a2;have H2:Hid (RefPost O R w (.pointer (some ⟨g,0,none⟩)) b w2):=RefPost.ext H1.out z;have T:=z.cell Z;have a3:Hid _:=z;clear z Z
 by_cases t:D=0
 .subst t
  cases ps with
  | false =>
   have x:Hid (aN m src dst a=(b,6)):=by unfold Hid;rw[c.out];simp
   go_wp2_with (go_at_call 153;go_must (refine(dv src _ (by omega)).mono ?_;rw[P.out];rintro e w3 ⟨rfl,n⟩))
   go_ret;rw[x.out];exact⟨rfl,RefPost.ext H2.out n⟩
  | true =>
   go_wp2_with fail;go_at_call 153;refine(dv src _ (by omega)).mono ?_;rw[P.out];rintro e w3 ⟨rfl,n⟩;go_wp2_with fail;go_at_call 153;refine(dv dst _ (by omega)).mono ?_;rw[Q.out];rintro e w4 ⟨rfl,A⟩;have K:Hid (RefPost O R w (.pointer (some ⟨g,0,none⟩)) b w4):=RefPost.ext H2.out (n.trans A);have z1:=(n.trans A).cell T;have a4:Hid _:=Ext.trans a3.out (n.trans A);clear n A T
   cases pd with
   | false =>
    have x:Hid (aN m src dst a=(b,6)):=by unfold Hid;rw[c.out];simp
    go_wp2;go_ret;rw[x.out];exact⟨rfl,K.out⟩
   | true =>
    rcases E with⟨o,rfl⟩ | ⟨k,f,rfl,q,o⟩
    .have x:Hid (aN m src dst a=(b,7)):=by unfold Hid;rw[c.out,o];simp
     clear o r;go_wp2;go_ret;rw[x.out];exact⟨rfl,K.out⟩
    .have S:¬(k:Int)<0:=by omega
     have j:Hid (aN m src dst a=if(ax b.now dst).isSome/\a=true then(b,8)
       else if src=dst then(b,0)else if(ax b.now dst).isNone/\ei b.now dst src=false then(b,9)else(does b (.mv src dst),0)):=by unfold Hid;rw[c.out,o];simp
     have a6:Hid _:=o;clear o q c;rcases r with⟨d,rfl⟩ | ⟨k2,f2,rfl,a7,d⟩
     .have a8:(src==dst)=false:=by
       rw[beq_eq_false_iff_ne];intro e;have:=a6.out;rw[e,d]at this;cases this
      have a9:Hid (src≠dst):=beq_eq_false_iff_ne.1 a8;rw[d]at j;obtain⟨my,L⟩:∃my,fq (b9 b.now src) dst=my:=⟨_,rfl⟩;have a':Hid _:=L;have bS:=dF b.now src;have B:Hid (aN m src dst a=if my=false then(b,9)else(does b (.mv src dst),0)):=by
       unfold Hid;rw[j.out,if_neg (by simp),if_neg a9.out,yg,L];simp
      clear d L j;cases a
      all_goals
       go_wp2_with fail;go_at_call 194;refine(gU src (ReadL.BV HP.out a4.out) (by omega)).mono ?_;rintro e w5 ⟨⟨v5,rfl,U⟩,V⟩;have W:Hid _:=OwnRows.rows U (by omega);obtain⟨a5,c5,rfl,-⟩:=bQ W.out;clear U;go_wp2_with fail;go_at_call 192;refine(qY dst W.out Q.out (fun e he=>(ad.out e (List.mem_filter.1 he).1).1)).mono ?_;rw[a'.out];rintro e w6 ⟨rfl,X⟩;have H6:Hid (RefPost O R w (.pointer (some ⟨g,0,none⟩)) b w6):=RefPost.ext K.out (V.trans X);clear V X
       cases my with
       | false =>
        go_wp2;go_ret;rw[B.out];exact⟨rfl,H6.out⟩
       | true =>
        go_wp2_with (go_at_call 193;go_must (refine(iF (.mv src dst) (cs:=[.int .i64 2,S8 src,S8 dst,.int .i64 0,.slice none 0 0,.int .i64 0]) H6.out.fs ⟨by omega,by omega,rfl⟩ (by omega) (by omega) (by omega)).mono ?_;rintro e w7 ⟨rfl,h7⟩))
        go_ret;rw[B.out];exact⟨rfl,RefPost.trans H6.out h7⟩
     .have bd:¬(k2:Int)<0:=by omega
      have bh:(0:Int)<=(k2:Int):=by omega
      rw[d]at j;clear d a7
      cases a with
      | true =>
       have x:Hid (aN m src dst true=(b,8)):=by unfold Hid;rw[j.out];simp
       go_wp2;go_ret;rw[x.out];exact⟨rfl,K.out⟩
      | false =>
       obtain⟨bq,Y⟩:∃bq,(src==dst)=bq:=⟨_,rfl⟩
       cases bq with
       | true =>
        have x:Hid (aN m src dst false=(b,0)):=by unfold Hid;rw[j.out,if_neg (by simp),if_pos (by simpa using Y)]
        clear j;go_wp2;go_ret;rw[x.out];exact⟨rfl,K.out⟩
       | false =>
        have x:Hid (aN m src dst false=(does b (.mv src dst),0)):=by unfold Hid;rw[j.out,if_neg (by simp),if_neg (by simpa using Y),if_neg (by simp)]
        clear j
        go_wp2_with (go_at_call 193;go_must (refine(iF (.mv src dst) (cs:=[.int .i64 2,S8 src,S8 dst,.int .i64 0,.slice none 0 0,.int .i64 0]) K.out.fs ⟨by omega,by omega,rfl⟩ (by omega) (by omega) (by omega)).mono ?_;rintro e w7 ⟨rfl,h7⟩))
        go_ret;rw[x.out];exact⟨rfl,RefPost.trans K.out h7⟩
 .have hb:(D==0)=false:=by simpa using t
  have b0:(D != 0)=true:=by simpa using t
  have B:Hid (aN m src dst a=(b,D)):=by unfold Hid;rw[c.out];simp[t]
  clear t c E r;go_wp2;go_ret;rw[B.out];exact⟨rfl,H2.out⟩
theorem lB {O R:Nat->Prop} (src dst:B8) (h:RefIn O R w p m) (a:src.length<=400) (b:dst.length<=400) :
  Calls Tryz.prog 84 #[p,S8 src,S8 dst] w fun e c=>e=.returned (.int .i64 (aN m src dst false).2)/\RefPost O R w p (aN m src dst false).1 c:=by
 have d:Hid _:=tC src dst false h a b;clear h;go_enter Tryz.func84,Tryz.ntmps84
 go_wp2_with (go_at_call 141;go_must (refine Calls.mono d.out ?_;rintro e i ⟨rfl,g⟩))
 go_ret;exact⟨rfl,g⟩
theorem re {O R:Nat->Prop} (src dst:B8) (h:RefIn O R w p m) (a:src.length<=400) (b:dst.length<=400) :
  Calls Tryz.prog 98 #[p,S8 src,S8 dst] w fun e c=>e=.returned (.int .i64 (aN m src dst true).2)/\RefPost O R w p (aN m src dst true).1 c:=by
 have d:Hid _:=tC src dst true h a b;clear h;go_enter Tryz.func98,Tryz.ntmps98
 go_wp2_with (go_at_call 141;go_must (refine Calls.mono d.out ?_;rintro e i ⟨rfl,g⟩))
 go_ret;exact⟨rfl,g⟩
end
section
open Go Go.RowKit
variable [Inhabited bc]
theorem ck:(Tryz.prog.info? 114).map (·.size)=some 3:=by kernel_rfl
theorem mu {l:aq} {k:Nat} {e:B8×Fi} (h:l[k]? = some e):aG (l.take (k+1))=aG (l.take k)++[e.1]:=by
 unfold aG;rw[List.take_add_one,h,Option.toList_some,List.map_append];rfl
theorem uk (l:aq):(aG l).length=l.length:=by simp[aG]
variable {w:World} {p:Value} {m:Fs}
theorem ul {O R:Nat->Prop} (h:IsRef O R w p m) (E:m.now.length<=10000000) :
  Calls Tryz.prog 68 #[p] w fun e y=>(∃v,e=.returned v/\IsStrs y v (aG m.now))/\Ext w y:=by
 obtain⟨g,W,X,Y,Z,vu,rfl,z,-,A⟩:=h;obtain⟨a,F,rfl,h1,h2,h3,B⟩:=bQ A.now;obtain⟨G,C,H,I,J,K,L,M,N⟩:=ah z;have P:Hid _:=B;clear z A B G H I J K L M N;go_enter Tryz.func68,Tryz.ntmps68;go_wp2;go_loopw [3,4] (fun t i wr=>∃k:Nat,k<=m.now.length/\i=.int .i64 k/\wr.ownsRow w.heap.size 9 1 t k ((aG (m.now.take k)).map S8)/\Ext w wr) (fun _ i _=>m.now.length - (intOf i).toNat)
 case atStart=>exact⟨0,Nat.zero_le _,rfl,World.ownsRow_nil _ _ _ _,Ext.refl _⟩
 case round =>
  obtain⟨k,hk,rfl,d,n⟩:=hrel;replace C:=n.cell C;have Q:=n.size
  by_cases u:k<m.now.length
  .obtain ⟨⟨q,f⟩,j⟩:∃e,m.now[k]? = some e:=⟨_,List.getElem?_eq_getElem u⟩;obtain⟨b,o,s,c,rfl,S,T,D,-,-,-⟩:=P.out k q f j;replace D:=n.cell D;have U:Hid _:=mu j;clear T j
   go_wp2_with (at_builtin;go_must (refine eO rfl _ _ rfl w.heap.size _ k (aG (m.now.take k)) rfl (d.alloc _) wr.heap.size 1 1 [q] rfl rfl (ab _ _) (by omega) (by simp;omega) ?_);intro v' w3 l r)
   go_roundw
   case rel=>exact⟨k+1,by omega,by go_num,by rw[U.out];exact l,ai (n.alloc _) (d.alloc _) r⟩
   case measure=>simp[intOf];omega
  .have x:k=m.now.length:=by omega
   subst x;rw[List.take_length]at d;have V:Hid _:=d;clear d;go_wp2;go_ret;exact⟨⟨_,rfl,ky V.out (uk _).symm E⟩,n⟩
theorem iH {O R:Nat->Prop} {b:World} {m1:Fs} {cs cur:Array Value} (h:RefPost O R w p m1 b) (q:b.heap[w.heap.size]? = some (.cells cur 114 (0,0))):RefPost O R w p m1 (b.setRow w.heap.size cs):=by
 have d:=ae b w.heap.size cs;obtain⟨g,y,z,A,B,C,rfl,u,D,i⟩:=h.fs;have j:∀k,(∃x,b.heap[k]? = some x/\∀cs E,x≠Obj.cells cs 114 E)->(b.setRow w.heap.size cs).heap[k]? = b.heap[k]?:=fun k ⟨x,a,F⟩=>d.block k (Array.getElem?_eq_some_iff.1 a).1 (fun l=>by
  simp only[Option.some.injEq]at l;subst l;rw[q]at a;exact F cur (0,0) (Option.some.inj a).symm)
 have r:=i.stay (fun k c=>by obtain⟨o,f,a⟩:=i.now.typed k c;exact j k ⟨_,a,by simp⟩) (fun k c=>by obtain⟨o,f,a⟩:=i.sure.typed k c;exact j k ⟨_,a,by simp⟩) (fun k c=>by obtain⟨o,f,a⟩:=i.pend.typed k c;exact j k ⟨_,a,by simp⟩) (fun k c=>by obtain⟨o,f,a⟩:=i.plan.typed k c;exact j k ⟨_,a,by simp⟩) (fun k c=>by obtain⟨o,f,a⟩:=i.users.typed k c;exact j k ⟨_,a,by simp⟩) (cg d (by rintro k e;cases e;exact ao q (by kernel_rfl)));have t:(b.setRow w.heap.size cs).heap.size=b.heap.size:=by simp[World.setRow]
 have n:∀(Q:Nat->Prop) k,Nw Q w b k->Nw Q w (b.setRow w.heap.size cs) k:=fun Q k e=>e.imp id (fun h=>⟨h.1,by rw[t];exact h.2⟩)
 refine⟨IsRef.mono ⟨g,y,z,A,B,C,rfl,(j g ⟨_,u,by simp⟩).trans u,D,r⟩ (n O) (n R),h.fr.step d (fun k e=>by cases e;exact .inr (Nat.le_refl _)) (by rintro k e;cases e;exact ao q (by kernel_rfl))⟩
theorem pD {O R:Nat->Prop} (path:B8) (h:IsRef O R w p m) :
  Calls Tryz.prog 69 #[p,S8 path] w fun e U=>(∃v,e=.returned (.tuple #[fiV (cF m path).1 v,.bool (cF m path).2])/\IsData (Nu w U) U v (cF m path).1.data)/\Ext w U:=by
 obtain⟨g,vn,vs,vp,vl,vu,rfl,hg,-,S⟩:=h;obtain⟨a,a2,rfl,h1,h2,h3,h4⟩:=bQ S.now;have H4:Hid _:=h4;obtain⟨z,j⟩:∃z,z=w.alloc (.cells #[.int .i64 0,.slice none 0 0,.int .i64 0] 114):=⟨_,rfl⟩;have r:Ext w z:=by rw[j];exact(Ext.refl _).alloc _
 have V:z.heap[w.heap.size]? = some (.cells #[.int .i64 0,.slice none 0 0,.int .i64 0] 114 (0,0)):=by rw[j];exact ab w _
 have a3:w.heap.size<z.heap.size:=by rw[j];simp
 obtain⟨d0,d1,d2,d3,d4,d5,d6,d7,d8⟩:=ah (Ext.row r hg);have W:Hid _:=j;have F:Hid _:=r;have HN:Hid _:=ReadL.BV S.now r;have X:=S.now.lt;clear j hg S h4 r d0 d2 d3 d4 d5 d6 d7 d8;go_enter Tryz.func69,Tryz.ntmps69;go_upto_region 1 with fail;rw[show w.alloc (.cells #[.int .i64 0,.slice none 0 0,.int .i64 0] 114)=z from W.out.symm];go_wp2_with fail;go_at_call 128;refine(fK path HN.out).mono ?_;rintro e t ⟨⟨i,rfl,Y⟩,c⟩;have A:=c.row V;rcases Y with⟨l,rfl⟩ | ⟨k,f,rfl,G,l⟩
 .have B:Hid (cF m path=(cz,false)):=by unfold Hid cF;rw[l]
  clear l
  go_wp2_with (refine wpList_store_row rfl 114 (.tmp 4) (.tmp 16) rfl w.heap.size #[.int .i64 0,.slice none 0 0,.int .i64 0] rfl rfl 114 _ A ck rfl (by simp[Value.oneCell']) ?_)
  refine bodyPost_ret (bK rfl _ _ w.heap.size 114 #[.int .i64 0,.slice none 0 0,.int .i64 0] (0,0) _ (.bool false) rfl rfl (setRow_heap _ _ _ _ _ _ A) Tryz.underlying114 ck) rfl ?_;rw[B.out];exact⟨⟨_,rfl,IsData.nil _ _⟩,(Ext.trans F.out c).setRow _ _ (Nat.le_refl _)⟩
 .have B:Hid (cF m path=(f,true)):=by unfold Hid cF;rw[l]
  obtain⟨b,o,Z,s2,rfl,-,hd,c0,c1,c2,c3⟩:=H4.out k path f G;have a4:=(List.getElem?_eq_some_iff.1 G).1;have d:=Ext.trans F.out c;replace c1:=d.cell c1;replace c2:=d.cell c2;replace c3:=d.cell c3;replace d1:=c.cell d1;have a5:b<t.heap.size:=Nat.lt_of_lt_of_le (X b rfl) d.size;obtain⟨H,u⟩:∃H,H=t.alloc (.cells #[.int .i64 f.mode,.slice Z f.data.length s2,.int .i64 f.time] 114):=⟨_,rfl⟩;have x:Ext t H:=by rw[u];exact(Ext.refl _).alloc _
  have C:H.heap[t.heap.size]? = some (.cells #[.int .i64 f.mode,.slice Z f.data.length s2,.int .i64 f.time] 114 (0,0)):=by rw[u];exact ab _ _
  have ad:Hid _:=u;obtain⟨y0,y1,y2⟩:=bE C;have I:=x.row A;have HD:Hid _:=IsData.ext hd (Ext.trans d x);have a6:¬(k:Int)<0:=by omega
  have J:Hid _:=Ext.trans d x;have K:w.heap.size≠t.heap.size:=by have:=c.size;omega
  have a7:z.heap.size<=t.heap.size:=c.size;clear hd u G l d x c0 c;go_upto_region 5 with fail;rw[show t.alloc (.cells #[.int .i64 f.mode,.slice Z f.data.length s2,.int .i64 f.time] 114)=H from ad.out.symm];go_wp2_with fail;go_at_call 29;refine(hZ _ f.data _ HD.out.bytes).mono ?_;rintro e w3 ⟨⟨v3,rfl,D⟩,E⟩;obtain⟨L,M,rfl,-⟩:=id D.bytes;have au:Hid _:=D;have y:=E.row C;have N:=E.row I;clear D C I y0 y1 y2
  go_wp2_with (first
   | (refine af rfl 37 (.tmp 28) (.tmp 27) rfl t.heap.size 1 rfl (.slice L f.data.length M) rfl rfl _ _ y (Nat.le_of_ble_eq_true rfl) fg #[.int .i64 f.mode,.slice L f.data.length M,.int .i64 f.time] (by simp) ?_;intro T a0 n;have q:=aS n N K)
   | (refine wpList_load_row rfl 114 (.tmp 7) rfl t.heap.size rfl 114 _ (0,0) _ a0 Tryz.underlying114 rfl ck ?_)
   | (refine wpList_store_row rfl 114 (.tmp 4) (.tmp 29) rfl w.heap.size #[.int .i64 f.mode,.slice L f.data.length M,.int .i64 f.time] rfl rfl 114 _ q ck rfl (by simp[Value.oneCell']) ?_))
  refine bodyPost_ret (bK rfl _ _ w.heap.size 114 #[.int .i64 f.mode,.slice L f.data.length M,.int .i64 f.time] (0,0) _ (.bool true) rfl rfl (setRow_heap _ _ _ _ _ _ q) Tryz.underlying114 ck) rfl ?_;have P:KeepB w3 T:=KeepB.BR n y (by kernel_rfl);have Q:KeepB T (T.setRow w.heap.size #[.int .i64 f.mode,.slice L f.data.length M,.int .i64 f.time]):=KeepB.BR (ae _ _ _) q (by kernel_rfl);have a1:Ext w T:=Ext.but (Ext.trans J.out E) n (by omega);rw[B.out];refine⟨⟨_,rfl,(au.out.keep (P.trans Q)).mono (fun k G=>Nu.mono (Below.size J.out) (Nat.le_trans P.1 Q.1) G)⟩,a1.setRow _ _ (Nat.le_refl _)⟩
theorem pE {O R:Nat->Prop} (path:B8) (h:RefIn O R w p m) (hp:path.length<=400) :
  Calls Tryz.prog 102 #[p,S8 path] w fun e P=>(∃v,e=.returned (.tuple #[fiV (aE m path).2.1 v,.int .i64 (aE m path).2.2])/\IsData (Nu w P) P v (aE m path).2.1.data)/\RefPost O R w p (aE m path).1 P:=by
 obtain⟨b,x,o,A⟩:∃b x o,aB m=(b,x,o):=⟨_,_,_,rfl⟩;have y:aE m path=if o≠0 then(b,cz,o)else if aC path=false then(b,cz,6)else match ax b.now path with | some f=>(b,f,0) | none=>(b,cz,7):=by
  unfold aE;rw[A];dsimp only
  cases ax b.now path <;> rfl
 have a:Hid _:=y;have Q:Hid _:=A;have a3:=h.time;have a4:=h.calls;obtain⟨z,j⟩:∃z,z=w.alloc (.cells #[.int .i64 0,.slice none 0 0,.int .i64 0] 114):=⟨_,rfl⟩;have B:Ext w z:=by rw[j];exact(Ext.refl _).alloc _
 have E:z.heap[w.heap.size]? = some (.cells #[.int .i64 0,.slice none 0 0,.int .i64 0] 114 (0,0)):=by rw[j];exact ab w _
 have a5:w.heap.size<z.heap.size:=by rw[j];simp
 have S:Hid (¬O w.heap.size):=fun ho=>by have:=h.low _ ho;omega
 have F:Hid _:=h.ext B;have T:Hid _:=j;have U:Hid _:=B;clear y A h j B;go_enter Tryz.func102,Tryz.ntmps102;go_wp2_with fail;rw[show w.alloc (.cells #[.int .i64 0,.slice none 0 0,.int .i64 0] 114)=z from T.out.symm];go_at_call 139;refine(dx F.out.fs F.out.base F.out.high F.out.ok F.out.plan (by omega) (by omega)).mono ?_;rw[Q.out];rintro e V ⟨rfl,G⟩;have H1:Hid (RefPost O R z p b V):=G;have H0:Hid (RefPost O R w p b V):=RefPost.pre U.out G;have q:=G.fr.row E S.out;have a6:z.heap.size<=V.heap.size:=G.fr.size;clear G E
 by_cases l:o=0
 .subst l;obtain⟨W,C⟩:∃W,aC path=W:=⟨_,rfl⟩;have X:Hid _:=C;rw[C,if_neg (by simp)]at a;clear C;go_wp2_with fail;go_at_call 153;refine(dv path _ (by omega)).mono ?_;rw[X.out];rintro e w2 ⟨rfl,i⟩;have r:=i.row q;have H2:Hid _:=RefPost.ext H1.out i;have H:Hid _:=RefPost.ext H0.out i;have a7:=i.size
  cases W with
  | false =>
   have d:Hid (aE m path=(b,cz,6)):=a.out;clear a i
   go_wp2_with (refine wpList_store_row rfl 114 (.tmp 4) (.tmp 22) rfl w.heap.size #[.int .i64 0,.slice none 0 0,.int .i64 0] rfl rfl 114 _ r ck rfl (by simp[Value.oneCell']) ?_)
   refine bodyPost_ret (bK rfl _ _ w.heap.size 114 #[.int .i64 0,.slice none 0 0,.int .i64 0] (0,0) _ (.int .i64 6) rfl rfl (setRow_heap _ _ _ _ _ _ r) Tryz.underlying114 ck) rfl ?_;rw[d.out];exact⟨⟨_,rfl,IsData.nil _ _⟩,iH H.out r⟩
  | true =>
   have n:Hid (aE m path=(b,(cF b path).1,if(cF b path).2 then 0 else 7)):=by
    unfold Hid cF;rw[a.out,if_neg (by simp)]
    cases ax b.now path <;> rfl
   have N:Hid ((cF b path).2=false->(cF b path).1=cz):=by
    unfold Hid cF
    cases ax b.now path <;> simp
   obtain⟨c,Y,D⟩:∃c Y,cF b path=(c,Y):=⟨_,_,rfl⟩;have Z:Hid _:=D;rw[D]at n N;clear a i D;go_wp2_with fail;go_at_call 69;refine(pD path H2.out.fs).mono ?_;rw[Z.out];rintro e I ⟨⟨v,rfl,hv⟩,t⟩;obtain⟨J,K,rfl,-⟩:=id hv.bytes;have ad:=t.row r;have HV:Hid _:=hv;have au:Hid _:=RefPost.ext H.out t;have a8:=t.size;have u:Ext I (I.alloc (.cells #[.int .i64 c.mode,.slice J c.data.length K,.int .i64 c.time] 114)):=(Ext.refl _).alloc _;have g:=u.row ad;have a0:=ab I (.cells #[.int .i64 c.mode,.slice J c.data.length K,.int .i64 c.time] 114);have L:Hid _:=RefPost.ext au.out u;have a1:Hid _:=u;clear hv t u
   cases Y with
   | false =>
    have a2:c=cz:=N.out rfl;subst a2;have d:Hid (aE m path=(b,cz,7)):=n.out;clear n N
    go_wp2_with (refine wpList_store_row rfl 114 (.tmp 4) (.tmp 31) rfl w.heap.size #[.int .i64 0,.slice none 0 0,.int .i64 0] rfl rfl 114 _ g ck rfl (by simp[Value.oneCell']) ?_)
    refine bodyPost_ret (bK rfl _ _ w.heap.size 114 #[.int .i64 0,.slice none 0 0,.int .i64 0] (0,0) _ (.int .i64 7) rfl rfl (setRow_heap _ _ _ _ _ _ g) Tryz.underlying114 ck) rfl ?_;rw[d.out];exact⟨⟨_,rfl,IsData.nil _ _⟩,iH L.out g⟩
   | true =>
    have d:Hid (aE m path=(b,c,0)):=n.out;clear n N
    go_wp2_with (first
     | (refine wpList_load_row rfl 114 (.tmp 8) rfl I.heap.size rfl 114 _ (0,0) _ a0 Tryz.underlying114 rfl ck ?_)
     | (refine wpList_store_row rfl 114 (.tmp 4) (.tmp 32) rfl w.heap.size #[.int .i64 c.mode,.slice J c.data.length K,.int .i64 c.time] rfl rfl 114 _ g ck rfl (by simp[Value.oneCell']) ?_))
    refine bodyPost_ret (bK rfl _ _ w.heap.size 114 #[.int .i64 c.mode,.slice J c.data.length K,.int .i64 c.time] (0,0) _ (.int .i64 0) rfl rfl (setRow_heap _ _ _ _ _ _ g) Tryz.underlying114 ck) rfl ?_;rw[d.out];have M:KeepB I _:=(KeepB.BO a1.out).trans (KeepB.BR (ae _ w.heap.size #[.int .i64 c.mode,.slice J c.data.length K,.int .i64 c.time]) g (by kernel_rfl));exact⟨⟨_,rfl,(HV.out.keep M).mono (fun k hk=>Nu.mono (by omega) M.1 hk)⟩,iH L.out g⟩
 .have hb:(o==0)=false:=by simpa using l
  have a9:(o != 0)=true:=by simpa using l
  have d:Hid (aE m path=(b,cz,o)):=by unfold Hid;rw[a.out];simp[l]
  clear l a
  go_wp2_with (refine wpList_store_row rfl 114 (.tmp 4) (.tmp 17) rfl w.heap.size #[.int .i64 0,.slice none 0 0,.int .i64 0] rfl rfl 114 _ q ck rfl (by simp[Value.oneCell']) ?_)
  refine bodyPost_ret (bK rfl _ _ w.heap.size 114 #[.int .i64 0,.slice none 0 0,.int .i64 0] (0,0) _ (.int .i64 o) rfl rfl (setRow_heap _ _ _ _ _ _ q) Tryz.underlying114 ck) rfl ?_;rw[d.out];exact⟨⟨_,rfl,IsData.nil _ _⟩,iH H0.out q⟩
end
section
open Go Go.RowKit
variable [Inhabited bc]
def fD (dir q:B8):Bool:=dir==[] || aF dir q
theorem vU {l:aq} {k:Nat} {q:B8} {f:Fi} {g:B8->Bool} (h:l[k]? = some (q,f)):(aG (l.take (k+1))).filter g=(aG (l.take k)).filter g++(if g q then[q]else[]):=by
 rw[mu h,List.filter_append];congr 1
 by_cases a:g q=true
 .rw [if_pos a,List.filter_cons_of_pos a];rfl
 .rw [if_neg a,List.filter_cons_of_neg a];rfl
theorem pF {O R:Nat->Prop} {w:World} {p:Value} {m:Fs} (dir:B8) (h:RefIn O R w p m) (hp:dir.length<=400) :
  Calls Tryz.prog 90 #[p,S8 dir] w fun e w'=>(∃v,e=.returned (.tuple #[v,.int .i64 (bm m dir).2.2])/\IsStrs w' v (bm m dir).2.1)/\RefPost O R w p (bm m dir).1 w':=by
 obtain⟨d,J,K,G⟩:∃d J K,aB m=(d,J,K):=⟨_,_,_,rfl⟩;have z:=(cd h.ok h.plan).1;rw[G]at z;have a9:d.now.length<=d.time:=z.ok.BY;have a8:d.time<=m.time+1000:=z.time;have a1:Hid _:=z.ok.Cg;have L:bm m dir=if K≠0 then(d,[],K)else if dir=[]then(d,aG d.now,0)else if aC dir=false then(d,[],6)else(d,(aG d.now).filter (aF dir),0):=by unfold bm;rw[G]
 have r:Hid _:=L;have a2:Hid _:=G;have W:Hid _:=h;have a':=h.time;have bb:=h.calls;have bh:=tl dir;obtain⟨g,rfl⟩:=h.fs.ptr;clear L G z h;go_enter Tryz.func90,Tryz.ntmps90;go_wp2_with fail;go_at_call 139;refine(dx W.out.fs W.out.base W.out.high W.out.ok W.out.plan (by omega) (by omega)).mono ?_;rw[a2.out];rintro e w1 ⟨rfl,h1⟩;have H1:Hid (RefPost O R w (.pointer (some ⟨g,0,none⟩)) d w1):=h1;clear h1
 by_cases A:K=0
 .subst A;obtain⟨P,t⟩:∃P,(dir==[])=P:=⟨_,rfl⟩;obtain⟨X,Y⟩:∃X,aC dir=X:=⟨_,rfl⟩;have a3:Hid _:=t;have H:Hid _:=Y;clear Y
  by_cases Z:P=false/\X=false
  .obtain ⟨rfl,rfl⟩:=Z;have Q:dir≠[]:=by simpa using t
   have B:Hid (bm m dir=(d,[],6)):=by unfold Hid;rw[r.out,if_neg (by simp),if_neg Q,if_pos H.out]
   have ad:(dir != [])=true:=by simpa using Q
   clear Q
   go_wp2_with (go_at_call 153;go_must (refine(dv dir _ (by omega)).mono ?_;rw[H.out];rintro e C ⟨rfl,D⟩))
   go_ret2;rw[B.out];exact⟨⟨_,rfl,IsStrs.nil _⟩,RefPost.ext H1.out D⟩
  .have M:Hid (P=true\/X=true):=by
    cases P <;> cases X <;> simp_all [Hid]
   have B:Hid (bm m dir=(d,(aG d.now).filter (fD dir),0)):=by
    unfold Hid;rw[r.out,if_neg (by simp)]
    by_cases j:dir=[]
    .rw [if_pos j];congr 2;refine(List.filter_eq_self.2 fun q _=>?_).symm;unfold fD;rw[j];rfl
    .have hb:P=false:=by rw[<-t];simpa using j
     rcases M.out with h | h
     .rw [hb]at h;cases h
     .rw [if_neg j,if_neg (by rw[H.out,h];simp)];congr 2;refine List.filter_congr fun q _=>?_
      unfold fD;rw[a3.out,hb];rfl
   clear Z r;cases P
   case' true =>
    have ad:(dir != [])=false:=by simpa using t
    go_upto_region 6 with fail;obtain⟨C,S⟩:∃C,C=w1:=⟨_,rfl⟩;have D:Ext w1 C:=by rw[S];exact Ext.refl _
    rw[show w1=C from S.symm];clear S
   case' false =>
    have ad:(dir != [])=true:=by simpa using t
    have au:Hid (aC dir=true):=by
     rcases M.out with h | h
     .cases h
     .rw [H.out,h];rfl
    go_wp2_with fail;go_at_call 153;refine(dv dir _ (by omega)).mono ?_;rw[au.out];rintro e C ⟨rfl,D⟩;go_upto_region 6 with fail
   all_goals
    have H2:Hid (RefPost O R w (.pointer (some ⟨g,0,none⟩)) d C):=RefPost.ext H1.out D;obtain⟨g',vn,vs,vp,vl,vu,a4,hg,hO,hP⟩:=H2.out.fs;cases a4;obtain⟨a,bk,rfl,h1,h2,h3,h4⟩:=bQ hP.now;obtain⟨d0,d1,d2,d3,d4,d5,d6,d7,d8⟩:=ah hg;have H4:Hid _:=h4;clear hg hP h4 d0 d2 d3 d4 d5 d6 d7 d8 D hO;go_wp2_with fail;go_loopw [8,9] (fun a5 i wr=>∃k n:Nat,k<=d.now.length/\i=.int .i64 k/\((aG (d.now.take k)).filter (fD dir)).length=n/\n<=k/\wr.ownsRow C.heap.size 9 1 a5 n (((aG (d.now.take k)).filter (fD dir)).map S8)/\Ext C wr) (fun _ i _=>d.now.length - (intOf i).toNat)
    case atStart=>exact⟨0,0,Nat.zero_le _,rfl,rfl,Nat.le_refl _,World.ownsRow_nil _ _ _ _,Ext.refl _⟩
    case round =>
     obtain⟨k,n,hk,rfl,U,bl,l,V⟩:=hrel;replace d1:=V.cell d1;have bo:=V.size;have HN:Hid _:=U;clear U
     by_cases a6:k<d.now.length
     .obtain ⟨⟨q,f⟩,I⟩:∃e,d.now[k]? = some e:=⟨_,List.getElem?_eq_getElem a6⟩;obtain⟨b,o,s,c,rfl,bq,hd,c0,-,-,-⟩:=H4.out k q f I;replace c0:=V.cell c0;have N:Hid _:=vU (g:=fD dir) I;have HQ:Hid (aC q=true):=(a1.out _ (List.mem_of_getElem? I)).1;clear hd I
      by_cases j:dir=[]
      .first
        | exact absurd j (by simpa using t)
        | (
          have T:Hid (fD dir q=true):=by unfold Hid fD;rw[j];rfl
          clear j;rw[T.out,if_pos rfl]at N
          go_wp2_with (at_builtin;go_must (refine eO rfl _ _ rfl C.heap.size _ n ((aG (d.now.take k)).filter (fD dir)) rfl (l.alloc _) wr.heap.size 1 1 [q] rfl rfl (ab _ _) (by omega) (by simp;omega) ?_);intro v' w4 x E)
          go_roundw
          case rel=>exact⟨k+1,n+1,by omega,by go_num,by rw[N.out,List.length_append,HN.out];rfl,by omega,by rw[N.out];exact x,ai (V.alloc _) (l.alloc _) E⟩
          case measure=>simp[intOf];omega)
      .first
        | exact absurd (by simpa using t) j
        | (
          have T:Hid (fD dir q=aF dir q):=by unfold Hid fD;rw[t];rfl
          clear j;obtain⟨u,hu⟩:∃u,aF dir q=u:=⟨_,rfl⟩;have HU:Hid _:=hu;rw[T.out,hu]at N;clear hu;go_wp2_with fail;go_at_call 154;refine(iG dir q _ (by omega) (by omega)).mono ?_;rw[au.out,HQ.out,HU.out];rintro e w3 ⟨rfl,F⟩;replace d1:=F.cell d1;replace c0:=F.cell c0;have y:=al l F;have a0:=V.trans F;have br:=F.size
          cases u with
          | true =>
           go_wp2_with (at_builtin;go_must (refine eO rfl _ _ rfl C.heap.size _ n ((aG (d.now.take k)).filter (fD dir)) rfl (y.alloc _) w3.heap.size 1 1 [q] rfl rfl (ab _ _) (by omega) (by simp;omega) ?_);intro v' w4 x E)
           go_roundw
           case rel=>exact⟨k+1,n+1,by omega,by go_num,by rw[N.out,if_pos (by simp),List.length_append,HN.out];rfl,by omega,by rw[N.out,if_pos (by simp)];exact x,ai (a0.alloc _) (y.alloc _) E⟩
           case measure=>simp[intOf];omega
          | false =>
           go_wp2;go_roundw
           case rel=>exact⟨k+1,n,by omega,by go_num,by rw[N.out,if_neg (by simp),List.append_nil];exact HN.out,by omega,by rw[N.out,if_neg (by simp),List.append_nil];exact y,a0⟩
           case measure=>simp[intOf];omega)
     .have a7:k=d.now.length:=by omega
      subst a7;have U:=HN.out;rw[List.take_length]at l U;have HO:Hid _:=ky l U.symm (by omega);clear l U;go_wp2;go_ret2;rw[B.out];exact⟨⟨_,rfl,HO.out⟩,RefPost.ext H2.out V⟩
 .have hb:(K==0)=false:=by simpa using A
  have bs:(K != 0)=true:=by simpa using A
  have B:Hid (bm m dir=(d,[],K)):=by unfold Hid;rw[r.out];simp[A]
  clear A r;go_wp2;go_ret2;rw[B.out];exact⟨⟨_,rfl,IsStrs.nil _⟩,H1.out⟩
end
section
open Go Go.RowKit
variable [Inhabited bc]
section
variable {O R:Nat->Prop} {w:World} {p:Value} {m:Fs}
theorem Af (h:IsRef O R w p m):Calls Tryz.prog 67 #[p] w fun e b=>e=.returned (.bool (!m.down))/\b=w:=by
 obtain⟨g,c,d,i,j,k,rfl,a,-,-⟩:=h;obtain⟨l,n,o,q,r,t,u,x,y⟩:=ah a;clear a;go_enter Tryz.func67,Tryz.ntmps67;go_wp2;go_ret;exact⟨rfl,rfl⟩
theorem yp (h:IsRef O R w p m):Calls Tryz.prog 61 #[p] w fun e b=>e=.returned (.int .i64 m.time)/\b=w:=by
 obtain⟨g,c,d,i,j,k,rfl,a,-,-⟩:=h;obtain⟨l,n,o,q,r,t,u,x,y⟩:=ah a;clear a;go_enter Tryz.func61,Tryz.ntmps61;go_wp2;go_ret;exact⟨rfl,rfl⟩
theorem um (h:IsRef O R w p m):Calls Tryz.prog 59 #[p] w fun e b=>e=.returned (.int .i64 m.calls)/\b=w:=by
 obtain⟨g,c,d,i,j,k,rfl,a,-,-⟩:=h;obtain⟨l,n,o,q,r,t,u,x,y⟩:=ah a;clear a;go_enter Tryz.func59,Tryz.ntmps59;go_wp2;go_ret;exact⟨rfl,rfl⟩
theorem rf (h:IsRef O R w p m) (c:m.pend.length<=10000000):Calls Tryz.prog 65 #[p] w fun e d=>e=.returned (.int .i64 m.pend.length)/\d=w:=by
 obtain⟨g,i,j,k,l,n,rfl,a,-,b⟩:=h;obtain⟨o,q,rfl,-⟩:=tA b.pend c;obtain⟨r,t,u,x,y,z,A,B,C⟩:=ah a;clear a b;go_enter Tryz.func65,Tryz.ntmps65;go_wp2;go_ret;exact⟨rfl,rfl⟩
theorem un (h:IsRef O R w p m) (j:cw m.now<=1000000000000):Calls Tryz.prog 63 #[p] w fun e b=>e=.returned (.int .i64 (cw m.now))/\Ext w b:=by
 obtain⟨g,l,n,o,q,r,rfl,c,-,a⟩:=h;have d:Hid _:=ly a.now j;obtain⟨t,u,rfl,-⟩:=bQ a.now;obtain⟨x,y,z,A,B,C,D,E,F⟩:=ah c;obtain⟨U,i⟩:∃U,cw m.now=U:=⟨_,rfl⟩;rw[i]at d ⊢;clear c a i;go_enter Tryz.func63,Tryz.ntmps63
 go_wp2_with (go_at_call 127;go_must (refine Calls.mono d.out ?_;rintro e b ⟨rfl,k⟩))
 go_ret;exact⟨rfl,k⟩
theorem r8 (h:IsRef O R w p m):Calls Tryz.prog 109 #[p] w fun e l=>e=.returned (.tuple #[])/\RefPost O R w p (fd m) l:=by
 obtain⟨g,n,o,q,r,t,rfl,d,u,i⟩:=h;have j:Hid _:=d;have x:Hid _:=i;clear d i;go_enter Tryz.func109,Tryz.ntmps109
 go_wp2_with (refine af rfl 4 (.tmp 4) _ rfl g 7 rfl (.bool false) rfl rfl _ _ j.out (Nat.le_of_ble_eq_true rfl) dW (cf m.room n o q r m.calls m.time false t) (by simp) ?_;intro y b a)
 go_end0
 exact⟨rfl,RefPost.store (m':=fd m) (Fr.refl O w) (.inl u) j.out (x.out.mono (fun k c=>.inl c) (fun k c=>.inl c)) a b⟩
end
theorem Ag (a:Int) (w:World) (h:a<0\/1073741824<a) :
  Calls Tryz.prog 8 #[.int .i64 a] w fun e b=>e=.returned (.tuple #[.pointer none,.int .i64 1])/\b=w:=by
 rcases h with h | h
 .go_enter Tryz.func8,Tryz.ntmps8;go_wp2;go_ret2;exact⟨rfl,rfl⟩
 .have c:¬a<0:=by omega
  go_enter Tryz.func8,Tryz.ntmps8;go_wp2;go_ret2;exact⟨rfl,rfl⟩
def yq (a:Int) (w:World) (e:Ending) (w':World):Prop:=(∃p,e=.returned (.tuple #[p,.int .i64 0])/\IsRef (Nu w w') (fun _=>False) w' p (eV a))/\Ext w w'
theorem yr (a:Int) (w:World) (e:0<=a) (g:a<=1073741824) :
  Calls Tryz.prog 8 #[.int .i64 a] w (yq a w):=by
 have b:¬a<0:=by omega
 have c:¬1073741824<a:=by omega
 go_enter Tryz.func8,Tryz.ntmps8;go_wp2;go_ret2;refine⟨⟨_,rfl,w.heap.size,.slice none 0 0,.slice none 0 0,.slice none 0 0,.slice none 0 0,.slice none 0 0,rfl,ab w (.cells (cf a (.slice none 0 0) (.slice none 0 0) (.slice none 0 0) (.slice none 0 0) 0 0 false (.slice none 0 0)) 84),⟨Nat.le_refl _,by simp⟩,?_⟩,(Ext.refl _).alloc _⟩;exact⟨ReadL.nil _ _ _,Inn.nil _ _ _,ReadL.nil _ _ _,Inn.nil _ _ _,OwnL.nil _ _ _ _,Inn.nil _ _ _,OwnL.nil _ _ _ _,Inn.nil _ _ _,OwnL.nil _ _ _ _,Inn.nil _ _ _,fun k d=>by simp[Value.ownBlock]at d⟩
theorem vV {O R:Nat->Prop} {w:World} {p v:Value} {m:Fs} {L:List Ev} {C:List (List Value)} (h:IsRef O R w p m) (hv:Row w v L.length C.flatten) (he:Each IsEvD C L) (S:∀k,v.ownBlock=some k->k<w.heap.size/\¬O k) (hl:L.length<=1000) :
  Calls Tryz.prog 110 #[p,v] w fun e w'=>e=.returned (.tuple #[])/\RefPost O R w p (gP m L) w':=by
 obtain⟨g,vn,vs,vp,vl,vu,rfl,hg,hO,hP⟩:=h;have cl:=(Array.getElem?_eq_some_iff.1 hg).1;have HP:Hid _:=hP;have HG:Hid _:=hg;have HE:Hid _:=he;have cm:C.length=L.length:=he.1;have h7:=Each.len he (fun c x hx=>hx.length.1);have HL:Hid _:=S;obtain⟨a,cn,rfl,l1,l2,l3,D⟩:=id hv;have HC:Hid _:=D;have H7:Hid _:=h7;clear hg hP he h7 S D hv;go_enter Tryz.func110,Tryz.ntmps110
 go_wp2_with (refine af rfl 82 (.tmp 7) _ rfl g 4 rfl (.slice none 0 0) rfl rfl _ _ HG.out (Nat.le_of_ble_eq_true rfl) jC (cf m.room vn vs vp (.slice none 0 0) m.calls m.time m.down vu) (by simp) ?_;intro w1 bs a8)
 go_loopw [4] (fun i wr=>∃(k:Nat) (A:Value),k<=L.length/\i=.int .i64 k/\wr.heap[g]? = some (.cells (cf m.room vn vs vp A m.calls m.time m.down vu) 84 (0,0))/\OwnL wr 122 7 IsEvD A ((L.take k).filter fun e=>decide ((m.calls:Int)<e.t))/\(∀j,A.ownBlock=some j->w.heap.size<=j)/\w.grownBy wr (some g)) (fun i _=>L.length - (intOf i).toNat)
 case atStart=>exact⟨0,_,Nat.zero_le _,rfl,bs,OwnL.nil _ _ _ _,fun j t=>by simp[Value.ownBlock]at t,a8⟩
 case round =>
  obtain⟨k,A,n,rfl,M,T,U,au⟩:=hrel;have a0:Hid _:=T;have l:Hid _:=U;have N:Hid _:=au;have bx:Hid _:=M;have co:=au.size;clear T U au
  by_cases bS:k<L.length
  .obtain ⟨e,a1⟩:∃e,L[k]? = some e:=⟨_,List.getElem?_eq_getElem bS⟩;obtain⟨c,a2⟩:∃c,C[k]? = some c:=⟨_,List.getElem?_eq_getElem (by omega)⟩;have P:=HE.out.2 k c e a2 a1;have a3:=fun j u hu=>eU 7 C k j c u H7.out a2 hu
   obtain⟨b,o,b0,a9⟩:=HC.out (by
    intro a';have h0:c[0]? = some (c[0]'(by rw[P.length.1];omega)):=List.getElem?_eq_getElem _;have:=a3 0 _ h0;rw[a']at this;simp at this)
   subst b0;have bb:=HL.out b rfl;have b1:b≠g:=fun e=>bb.2 (e▸hO)
   have q:∀j u,c[j]? = some u->wr.cell? ⟨b,o+k*7+j,none⟩=some u:=fun j u hu=>by
    rw[World.cell?_of_block (w:=w) (w':=wr) (a:=⟨b,o+k*7+j,none⟩) (N.out.block b bb.1 (by simpa using b1))];have:=a9 _ _ (a3 j u hu)
    rwa [Nat.mul_comm 7 k,<-Nat.add_assoc]at this
   have b2:Hid _:=P;obtain⟨vd,rfl,hd,-⟩:=id P;obtain⟨q1,q2,rfl,-⟩:=id hd.bytes;have y0:=q 0 _ rfl;have y1:=q 1 _ rfl;have y2:=q 2 _ rfl;have y3:=q 3 _ rfl;have y4:=q 4 _ rfl;have y5:=q 5 _ rfl;have y6:=q 6 _ rfl;simp only[Nat.add_zero]at y0;obtain⟨z0,z1,z2,z3,z4,z5,z6,z7,z8⟩:=ah M;have bd:Hid ((L.take (k+1)).filter (fun e=>decide ((m.calls:Int)<e.t))=(L.take k).filter (fun e=>decide ((m.calls:Int)<e.t))++(if(m.calls:Int)<e.t then[e]else[])):=by
    unfold Hid;rw[List.take_add_one,a1,Option.toList_some,List.filter_append];congr 1
    by_cases h0:(m.calls:Int)<e.t
    .rw [if_pos h0,List.filter_cons_of_pos (by simpa using h0)];rfl
    .rw [if_neg h0,List.filter_cons_of_neg (by simpa using h0)];rfl
   have b3:((L.take k).filter (fun e=>decide ((m.calls:Int)<e.t))).length<=1000:=Nat.le_trans (List.length_filter_le _ _) (Nat.le_trans (List.length_take_le _ _) (by omega));have ce:(k:Int)<(L.length:Int):=by omega
   clear P a3 a9 q hd a1 a2;obtain⟨bt,bh⟩:∃bt,decide ((m.calls:Int)<e.t)=bt:=⟨_,rfl⟩;have bk:Hid _:=bh;go_wp2_with fail;apply aj 10 [_,_,_,_,_,_,_,_,_,.bool bt] [none,none,none,none,none,none,none,none,none,none] [[],[],[0,1],[2],[3],[],[5],[6],[7],[4,8]] (by kernel_rfl) (by kernel_rfl) (by simp[ak])
   .trivial
   .simp (maxSteps:=1000000)only[List.take_succ_cons,List.take_zero,aw,aA,aa,Act.put,List.setIfInBounds_toArray,List.set_cons_zero,List.set_cons_succ,aK,aO,ak,List.getD_cons_zero,List.getD_cons_succ,and_true,true_and,forall_const];and_intros
    iterate 10 · intro xs wq B;intros;rename_i hR;have f0:=B.cell y0;have f5:=B.cell z5;go_simp;exact hR _ _ (Ext.refl _) rfl
   intro xs w2 d n;simp only[aP,Nat.zero_add,Nat.reduceAdd,and_true]at n;simp(maxSteps:=1000000)only[List.take_succ_cons,List.take_zero,List.drop_succ_cons,List.drop_zero,aa,Act.put,List.setIfInBounds_toArray,List.set_cons_zero,List.set_cons_succ,Nat.zero_add,Nat.reduceAdd,n];clear n;have cp:Hid _:=d;have E:Hid (OwnL w2 122 7 IsEvD A ((L.take k).filter fun e=>decide ((m.calls:Int)<e.t))):=OwnL.stay a0.out (fun j t=>d.block j (OwnL.lt a0.out j t));have bl:=d.row M;have V:Hid (w.grownBy w2 (some g)):=dU N.out d;replace y0:=d.cell y0;replace y1:=d.cell y1;replace y2:=d.cell y2;replace y3:=d.cell y3;replace y4:=d.cell y4;replace y5:=d.cell y5;replace y6:=d.cell y6;replace z4:=d.cell z4;have cq:=d.size;clear bh d M z0 z1 z2 z3 z5 z6 z7 z8
   cases bt with
   | false =>
    have hn:¬(m.calls:Int)<e.t:=by simpa using bk.out
    have Q:Hid _:=bd.out.trans (by rw[if_neg hn,List.append_nil]);clear hn y0 y1 y2 y3 y4 y5 y6 z4;go_wp2;go_roundw
    case rel=>exact⟨k+1,A,by omega,by go_num,bl,by rw[Q.out];exact E.out,l.out,V.out⟩
    case measure=>simp[intOf];omega
   | true =>
    have hn:(m.calls:Int)<e.t:=by simpa using bk.out
    have Q:Hid _:=bd.out.trans (by rw[if_pos hn]);have W:IsEvD [.int .i64 e.t,.int .i64 e.kind,.int .i64 e.mode,.int .i64 e.keep,.int .i64 e.BN,S8 e.path,.slice q1 e.data.length q2] e:=b2.out;have bo:Hid _:=W;obtain⟨F,hF⟩:∃F,(L.take k).filter (fun e=>decide ((m.calls:Int)<e.t))=F:=⟨_,rfl⟩;rw[hF]at E Q b3;obtain⟨ds,y,z⟩:=E.out;obtain⟨pa,pc,rfl,-⟩:=Row.BM y (by omega);have X:Hid _:=z;clear hn W z hF;go_wp2_with fail;apply cE 10 0 (.pointer (some ⟨g,0,none⟩)) [.pointer (some ⟨g,0,none⟩),_,_,_,_,_,_,_,.agg #[.int .i64 e.t,.int .i64 e.kind,.int .i64 e.mode,.int .i64 e.keep,.int .i64 e.BN,S8 e.path,.slice q1 e.data.length q2],undef] [none,none,none,none,none,none,none,none,none,some (fun u w'=>∃k,u=.slice (some ⟨k,0,none⟩) 1 1/\w'.heap[k]? = some (.cells #[.int .i64 e.t,.int .i64 e.kind,.int .i64 e.mode,.int .i64 e.keep,.int .i64 e.BN,S8 e.path,.slice q1 e.data.length q2] 122 (0,0)))] [[],[],[1],[2],[3],[],[],[5,6],[7],[8]] (by kernel_rfl) (by kernel_rfl) (by simp[ak])
    .refine ⟨?_,trivial⟩
     .exact fun _ _ _ he ⟨k,Y,h3⟩=>⟨k,Y,he.row h3⟩
    .exact ⟨_,rfl,rfl,fun w=>by go_simp⟩
    .exact fun _=>rfl
    .simp (maxSteps:=1000000)only[List.take_succ_cons,List.take_zero,aw,aA,aa,Act.put,List.setIfInBounds_toArray,List.set_cons_zero,List.set_cons_succ,aK,aO,ak,List.getD_cons_zero,List.getD_cons_succ,and_true,true_and,forall_const];and_intros
     iterate 9 · intro xs wq B;intros;rename_i hR;have f4:=B.cell z4;have c0:=B.cell y0;have c1:=B.cell y1;have c2:=B.cell y2;have c3:=B.cell y3;have c4:=B.cell y4;have c5:=B.cell y5;have c6:=B.cell y6;go_simp;exact hR _ _ (Ext.refl _) rfl
     .intro xs wq B n R hR;go_simp;exact hR _ _ ((Ext.refl _).alloc _) ⟨_,rfl,ab _ _⟩
    intro xs w6 G n;simp only[aP,Nat.zero_add,Nat.reduceAdd,and_true]at n;have q9:=n.2.2.2.2.2.2.2.2.2;simp(maxSteps:=1000000)only[List.take_succ_cons,List.take_zero,List.drop_succ_cons,List.drop_zero,aa,Act.put,List.setIfInBounds_toArray,List.set_cons_zero,List.set_cons_succ,Nat.zero_add,Nat.reduceAdd,n];clear n;generalize xs 9=x9 at *;obtain⟨k6,rfl,b4⟩:=q9;have a4:=al y G;have Z:=Ext.row G bl;have bq:Hid (w.grownBy w6 (some g)):=dU V.out G;have cs:=G.size;clear y y0 y1 y2 y3 y4 y5 y6 z4
    go_wp2_with (first
     | (at_builtin;go_must (refine nL rfl _ _ rfl 0 _ F.length _ rfl a4 k6 1 _ rfl rfl b4 (by simp[Value.oneCell']) (by omega) (Nat.zero_le _) ?_;intro v7 w7 H I ad;obtain⟨J,a5,rfl⟩:=dw H (by omega);have br:w7.heap[g]? = _:=(I.block g (Array.getElem?_eq_some_iff.1 Z).1 (fun b5=>by have:=l.out g b5.symm;omega)).trans Z))
     | (refine af rfl 82 (.tmp 36) (.tmp 34) rfl g 4 rfl (.slice (some ⟨J,0,none⟩) (F.length+1) a5) rfl rfl _ _ br (Nat.le_of_ble_eq_true rfl) jC (cf m.room vn vs vp (.slice (some ⟨J,0,none⟩) (F.length+1) a5) m.calls m.time m.down vu) (by simp) ?_;intro w8 b6 K))
    refine NoP.intro ?_;go_wp2;go_roundw
    case rel =>
     have b7:∀j,Value.ownBlock (.slice pa F.length pc)=some j->¬IsU8 w6 j:=fun j t=>by
      obtain⟨ct,cu,b8⟩:=(OwnL.stay (p:=IsEvD) ⟨ds,jd (by assumption:w6.ownsRow 0 122 7 (.slice pa F.length pc) F.length ds.flatten) (Nat.le_refl _),X.out⟩ (fun _ _=>rfl):OwnL w6 122 7 IsEvD (.slice pa F.length pc) F).typed j t;exact ao b8 (by kernel_rfl)
     have cv:KeepR R w2 w8:=by
      have a:=KeepR.BS (R:=R) (KeepB.BO G);have b:KeepR R w6 w7:=cg I b7;have c:KeepR R w7 w8:=cg K (by rintro j t;cases t;exact ao br (by kernel_rfl));exact KeepR.trans a (KeepR.trans b c)
     have b':J≠g:=fun e=>by
      rcases ad J rfl with Y | Y
      .have:=l.out _ Y;omega
      .omega
     refine⟨k+1,_,by omega,by go_num,b6,?_,fun j t=>?_,?_⟩
     .rw [Q.out];have a6:w8.ownsRow 0 122 7 (.slice (some ⟨J,0,none⟩) (F.length+1) a5) (F.length+1) _:=H.kept K (.inr (by simpa [Value.ownBlock]using b'));exact OwnL.app X.out a6 (fun c x hc=>hc) bo.out
     .rcases ad j t with Y | Y
      .exact l.out j Y
      .omega
     .refine (bq.out.andThen I (fun j t=>?_)).trans K;exact .inl (l.out j t)
    case measure=>simp[intOf];omega
  .have ca:k=L.length:=by omega
   subst ca;have a7:=a0.out;rw[List.take_length]at a7;have cb:Hid _:=a7;clear a7;go_wp2
   go_end0
   have r:=(HP.out.own HG.out N.out).mono (O':=On O w.heap.size) (R':=On R w.heap.size) (fun k n=>.inl n) (fun k n=>.inl n);refine⟨rfl,IsRef.fit ⟨g,vn,vs,vp,_,vu,rfl,bx.out,.inl hO,⟨r.now,r.on,r.sure,r.os,r.pend,r.op,cb.out,fun j t=>.inr (l.out j t),r.users,r.ou,fun j t cc=>?_⟩⟩,(Fr.refl O w).step N.out (fun k n=>by cases n;exact .inl hO) (by rintro k n;cases n;exact ao HG.out (by kernel_rfl))⟩;have Y:=HP.out.users.lt j t;have h2:=l.out j cc;omega
end
section
open Go Go.RowKit
variable [Inhabited bc]
variable {w:World}
theorem r9 (T e:TypeId) (z:Value) (d bytes:Nat) (H:Tryz.prog.underlying T=some (.slice e)) (r:(Tryz.prog.info? e).map (fun i=>(i.zero,i.size,i.bytes))=some (some z,d,bytes)) (I:z.cells.size=d) (J:0<d)
 (p:Nat) (v:Value) (n:Nat) (xs:List Value) (q:w.ownsRow p e d v n xs) (x:Value) (m:Nat) (k:List Value) (hx:Row w x m k) (S:k.length=m*d) (h1:∀u∈k,u.oneCell'=true) (hb:(n+m)*bytes<=140737488355328) (au:n+m<=1000000000) (t:p<=w.heap.size) :
  ∃B C,(Builtin.append_ #[T,T] T #[v,x]).run Tryz.prog w=.ok B C/\C.ownsRow p e d B (n+m) (xs++k)/\w.grownBy C v.ownBlock/\(B.ownBlock=v.ownBlock\/B.ownBlock=some w.heap.size):=by
 obtain⟨U,V,K,D,L⟩:=info_parts r;obtain⟨a,E,rfl,k1,k2,k3,W⟩:=hx
 cases a with
 | none =>
  have hn:k=[]:=by
   cases k with
   | nil=>rfl
   | cons y l=>obtain⟨b,o,M,_⟩:=W (by simp);cases M
  subst hn;have hm:m=0:=by
   have N:m*d=0:=by simpa using S.symm
   rcases Nat.mul_eq_zero.1 N with h | h
   .exact h
   .omega
  subst hm;obtain⟨O,X,G,rfl,Q⟩:∃O X G,v=.slice O n G/\n<=G/\X=n:=by
   rcases q.2 with⟨rfl,N⟩ | ⟨g,c,a0,rfl,_,_,R,_⟩
   .exact ⟨none,n,0,by rw[N],by omega,rfl⟩
   .exact ⟨_,n,c,rfl,R,rfl⟩
  refine⟨_,w,run_append_nothing w _ _ _ _ U H V O n G Q.1 _ (by rw[D];exact Src.ofNil w H E),by simpa using q,⟨rfl,rfl,rfl,Nat.le_refl _,fun _ _ _=>rfl⟩,.inl rfl⟩
 | some Y =>
  have A:∀j u,k[j]? = some u->w.cell? (Y.add j)=some u:=fun j u Z=>by
   obtain⟨b,o,M,R⟩:=W (by rintro rfl;simp at Z);cases M;have F:(⟨b,o,none⟩:Addr).add j=⟨b,o+j,none⟩:=by unfold Addr.add;split <;> simp_all
   rw[F];exact R j u Z
  obtain⟨B,C,h2,h3,h4,_,h5⟩:=run_append_own_at (P:=Tryz.prog) w p T T e U _ d bytes H V K D L I J v n xs q Y m E k S A h1 (by unfold maxLen;omega) hb t;exact⟨B,C,h2,h3,h4,h5⟩
section
variable {ops:Array Oper} {rest:List Oper} {o:Oper} {a:Act} {Q:Exit->Act->World->Prop} {w:World}
theorem uo (T e:TypeId) (z:Value) (b bytes:Nat) (C:Tryz.prog.underlying T=some (.slice e)) (g:(Tryz.prog.info? e).map (fun i=>(i.zero,i.size,i.bytes))=some (some z,b,bytes)) (r:z.cells.size=b) (t:0<b)
  (y:o.guard=none) (s x:Operand) (D:o.op=.call { callee:=.builtin .append,args:=#[s,x],argTypes:=#[T,T] }) (A:o.type=T)
  (d:Nat) (v:Value) (n:Nat) (xs:List Value) (E:a.eval s=v) (k:w.ownsRow d e b v n xs)
  (xv:Value) (m:Nat) (c:List Value) (F:a.eval x=xv) (l:Row w xv m c) (G:c.length=m*b) (H:∀u∈c,u.oneCell'=true) (I:(n+m)*bytes<=140737488355328) (B:n+m<=1000000000) (j:d<=w.heap.size)
  (h:∀q p,p.ownsRow d e b q (n+m) (xs++c)->w.grownBy p v.ownBlock->wpList Tryz.prog ops Q rest (a.put o.dst q) p):wpList Tryz.prog ops Q (o::rest) a w:=by
 refine wpList_plain y fun K J=>?_
 obtain⟨q,p,L,M,N,O⟩:=r9 T e z b bytes C g r t d v n xs k xv m c l G H I B j;unfold Oper.wp execOp;simp only[D,A,resolve,invoke,builtin,Sem.run_bind,Sem.run_pure,Result.andThen_ok,List.map_toArray,List.map_cons,List.map_nil,E,F,L];exact J _ _ (h q p M N)
end
theorem vW {O R:Nat->Prop} {p:Value} {m:Fs} (h:IsRef O R w p m) (H:m.users.length<=10000000) :
  Calls Tryz.prog 72 #[p] w fun e D=>(∃E,e=.returned E/\ReadB D E m.users)/\Ext w D:=by
 obtain⟨g,K,L,M,N,P,rfl,F,Q,G⟩:=h;obtain⟨k,b,-,a⟩:=OwnL.Cv G.users H;obtain⟨S,T,rfl,-⟩:=id b;have l:Ext w (w.alloc (.cells #[] 122)):=(Ext.refl _).alloc _;have d:(w.alloc (.cells #[] 122)).ownsRow w.heap.size 122 7 (.slice (some ⟨w.heap.size,0,none⟩) 0 0) 0 []:=⟨rfl,.inr ⟨w.heap.size,0,#[],rfl,Nat.le_refl _,ab _ _,Nat.le_refl _,by unfold maxLen;omega,rfl,rfl⟩⟩;obtain⟨U,V,W,X,Y,Z,d6,d7,d8⟩:=ah (Ext.row l F);have o:k.flatten.length=m.users.length*7:=by rw[mT (Each.len a (fun c x z=>z.length.1)),a.1]
 have n:∀u∈k.flatten,u.oneCell'=true:=Each.one a (fun c x z=>z.length.2);have A:Hid _:=l;have q:Hid _:=b.ext l;have B:Hid _:=a;have C:Hid _:=o;have r:Hid _:=n;have i:Hid _:=d;clear F G b a o n d l;go_enter Tryz.func72,Tryz.ntmps72
 go_wp2_with (at_builtin;go_must (refine uo _ _ _ 7 80 Tryz.underlying82 tB rfl (by omega) rfl _ _ rfl rfl w.heap.size _ 0 [] rfl i.out _ m.users.length k.flatten rfl q.out C.out r.out (by omega) (by omega) (by simp) ?_;intro v2 I j t;rw[Nat.zero_add,List.nil_append]at j;have y:Ext w I:=ai A.out i.out t))
 go_ret;exact⟨⟨_,rfl,k,Row.BM j (by omega),Each.imp B.out (fun c x J=>J.read.ext y)⟩,y⟩
end
section
open Go Go.RowKit
theorem cD (a b:Value) (c d:B8) (w:World) (h:IsBytes w a c) (i:IsBytes w b d) :
  Calls Tryz.prog 31 #[a,b] w fun e k=>e=.returned (.bool (c==d))/\k=w:=by
 have l:=dr h;have n:=dr i;have o:=tl c;have p:=tl d;obtain⟨q,r,rfl,-⟩:=h;obtain⟨t,u,rfl,-⟩:=i;obtain⟨j,g⟩:∃j,(c==d)=j:=⟨_,rfl⟩;rw[g];go_enter Tryz.func31,Tryz.ntmps31;go_wp2;go_ret;exact⟨by first | rfl | exact an (by assumption),rfl⟩
theorem ib (a b:Value) (c g:List B8) (w:World) (O:IsStrs w a c) (P:IsStrs w b g) :
  Calls Tryz.prog 25 #[a,b] w fun e X=>e=.returned (.bool (c==g))/\Ext w X:=by
 obtain⟨a1,c1,rfl,l1,l2,l3,r⟩:=O.get;obtain⟨Y,c2,rfl,Z,k2,k3,t⟩:=P.get;have H1:Hid _:=r;have H2:Hid _:=t;clear O P r t
 by_cases l:c.length=g.length
 .have u:((c.length:Int)==(g.length:Int))=true:=by rw[beq_iff_eq];omega
  have Q:Hid _:=l;rw[<-l]at Z k2;have HB:Hid (∀k,k<c.length->∃b o,Y=some ⟨b,o,none⟩/\(∀i,i<c.length->w.cell? ⟨b,o+i,none⟩=some (S8 (g.getD i [])))):=by
   unfold Hid;rw[l];exact H2.out
  obtain⟨L,x⟩:∃L,g.length=L:=⟨_,rfl⟩;have j:L=c.length:=by omega
  rw[x,j];clear x u l j;go_enter Tryz.func25,Tryz.ntmps25;go_wp2;go_loopw [5] (fun i wr=>∃k:Nat,k<=c.length/\i=.int .i64 k/\c.take k=g.take k/\Ext w wr) (fun i _=>c.length - (intOf i).toNat)
  case atStart=>exact⟨0,Nat.zero_le _,rfl,by simp,Ext.refl _⟩
  case round =>
   obtain⟨k,I,rfl,y,J⟩:=hrel;have R:Hid _:=y;clear y
   by_cases d:k<c.length
   .obtain ⟨b1,o1,rfl,z⟩:=H1.out k d;obtain⟨b2,o2,rfl,A⟩:=HB.out k d;have S:=J.cell (z k d);have T:=J.cell (A k d);obtain⟨p,M⟩:∃p,c.getD k []=p:=⟨_,rfl⟩;obtain⟨q,n⟩:∃q,g.getD k []=q:=⟨_,rfl⟩;rw[M]at S;rw[n]at T;have U:Hid (c[k]? = some p):=by
     unfold Hid;rw[List.getElem?_eq_getElem d,<-M];simp[d]
    have h:k<g.length:=by rw[<-Q.out];exact d
    have V:Hid (g[k]? = some q):=by
     unfold Hid;rw[List.getElem?_eq_getElem h,<-n];simp[h]
    have tp:=tl p;have tq:=tl q;obtain⟨K,B⟩:∃K,(p==q)=K:=⟨_,rfl⟩;have C:Hid _:=B;clear z A M n h;go_wp2_with fail;apply aj 9 [_,_,_,_,_,_,_,_,.bool (!K)] [none,none,none,none,none,none,none,none,none] [[],[],[0,1],[2],[],[],[4,5],[6],[3,7]] (by kernel_rfl) (by kernel_rfl) (by simp[ak])
    .trivial
    .simp (maxSteps:=1000000)only[List.take_succ_cons,List.take_zero,aw,aA,aa,Act.put,List.setIfInBounds_toArray,List.set_cons_zero,List.set_cons_succ,aK,aO,ak,List.getD_cons_zero,List.getD_cons_succ,and_true,true_and,forall_const];and_intros
     iterate 9 · intro xs wq n;intros;rename_i hR;have f1:=n.cell S;have f2:=n.cell T;go_simp;exact hR _ _ (Ext.refl _) rfl
    intro xs w2 N I;simp only[aP,Nat.zero_add,Nat.reduceAdd,and_true]at I;simp(maxSteps:=1000000)only[List.take_succ_cons,List.take_zero,List.drop_succ_cons,List.drop_zero,aa,Act.put,List.setIfInBounds_toArray,List.set_cons_zero,List.set_cons_succ,Nat.zero_add,Nat.reduceAdd,I];clear I;have D:=J.trans N;clear B
    cases K with
    | false =>
     have E:p≠q:=by simpa using C.out
     have F:Hid ((c==g)=false):=by
      unfold Hid;rw[beq_eq_false_iff_ne];intro e;have W:=U.out;rw[e,V.out]at W;exact E (Option.some.inj W).symm
     clear E;go_wp2;go_ret;exact⟨an F.out.symm,D⟩
    | true =>
     have G:p=q:=by simpa using C.out
     have HE:Hid _:=G;clear G;go_wp2;go_roundw
     case rel=>exact⟨k+1,by omega,by go_num,by rw[List.take_add_one,List.take_add_one,U.out,V.out,HE.out,R.out],D⟩
     case measure=>simp[intOf];omega
   .have H:c.length<=k:=by omega
    have F:Hid ((c==g)=true):=by
     have:=R.out;rw[List.take_of_length_le H,List.take_of_length_le (by rw[<-Q.out];exact H)]at this;unfold Hid;simpa using this
    go_wp2;go_ret;exact⟨an F.out.symm,J⟩
 .have u:((c.length:Int)==(g.length:Int))=false:=by rw[beq_eq_false_iff_ne];omega
  have F:Hid ((c==g)=false):=by
   unfold Hid;rw[beq_eq_false_iff_ne];intro e;exact l (by rw[e])
  clear l;go_enter Tryz.func25,Tryz.ntmps25;go_wp2;go_ret;exact⟨an F.out.symm,Ext.refl _⟩
theorem vX (f:Fi) (u v:Value) (w:World) (b:IsBytes w u f.data) (c:IsBytes w v f.data) :
  Calls Tryz.prog 70 #[fiV f u,fiV f v] w fun e d=>e=.returned (.bool true)/\Ext w d:=by
 obtain⟨g,h,rfl,-⟩:=id b;obtain⟨i,j,rfl,-⟩:=id c;have a:Ext w ((w.alloc (.cells #[.int .i64 f.mode,.slice g f.data.length h,.int .i64 f.time] 56)).alloc (.cells #[.int .i64 f.mode,.slice i f.data.length j,.int .i64 f.time] 114)):=((Ext.refl _).alloc _).alloc _;have k:Hid _:=IsBytes.ext b a;have l:Hid _:=IsBytes.ext c a;have n:Hid _:=a;clear b c a;go_enter Tryz.func70,Tryz.ntmps70
 go_wp2_with (go_at_call 31;go_must (refine(cD _ _ _ _ _ k.out l.out).mono ?_;rw[beq_self_eq_true];rintro e o ⟨rfl,rfl⟩))
 go_ret;exact⟨rfl,n.out⟩
def yt (f g:Fi) (w:World) (e:Ending) (w':World):Prop:=(∃r:Bool,e=.returned (.bool r)/\(f=g->r=true))/\Ext w w'
theorem yu (f g:Fi) (u v:Value) (w:World) (d:IsBytes w u f.data) (i:IsBytes w v g.data) :
  Calls Tryz.prog 70 #[fiV f u,fiV g v] w fun e r=>yt f g w e r:=by
 obtain⟨t,x,rfl,-⟩:=id d;obtain⟨y,z,rfl,-⟩:=id i;have c:Ext w ((w.alloc (.cells #[.int .i64 f.mode,.slice t f.data.length x,.int .i64 f.time] 56)).alloc (.cells #[.int .i64 g.mode,.slice y g.data.length z,.int .i64 g.time] 114)):=((Ext.refl _).alloc _).alloc _;have A:Hid _:=IsBytes.ext d c;have B:Hid _:=IsBytes.ext i c;have j:Hid _:=c;clear d i c;obtain⟨p,k⟩:∃b,(f.mode==g.mode)=b:=⟨_,rfl⟩;obtain⟨q,l⟩:∃b,(f.time==g.time)=b:=⟨_,rfl⟩;obtain⟨C,a⟩:∃b,(f.data==g.data)=b:=⟨_,rfl⟩;have n:Hid (f=g->p=true/\q=true/\C=true):=fun h=>by rw[<-k,<-l,<-a,h];simp
 have o:Hid _:=a;clear a;go_enter Tryz.func70,Tryz.ntmps70
 cases p with
 | false =>
  go_wp2;go_ret;exact⟨⟨_,rfl,fun h=>(n.out h).1⟩,j.out⟩
 | true =>
  cases q with
  | false =>
   go_wp2;go_ret;exact⟨⟨_,rfl,fun h=>(n.out h).2.1⟩,j.out⟩
  | true =>
   go_wp2_with (go_at_call 31;go_must (refine(cD _ _ _ _ _ A.out B.out).mono ?_;rw[o.out];rintro e D ⟨rfl,rfl⟩))
   go_ret;exact⟨⟨_,rfl,fun h=>(n.out h).2.2⟩,j.out⟩
end
section
open Go Go.RowKit
def fw (n:Int) (b:B8):Int:=if 20000<b.length then n else n+1
theorem fm (a b:Value) (c d:B8) (w:World) (h:IsBytes w a c) (i:IsBytes w b d) :
  Calls Tryz.prog 76 #[a,b] w fun e k=>e=.returned (.bool (c==d))/\k=w:=by
 have l:=dr h;have n:=dr i;have o:=tl c;have p:=tl d;obtain⟨q,r,rfl,-⟩:=h;obtain⟨t,u,rfl,-⟩:=i;obtain⟨j,g⟩:∃j,(c==d)=j:=⟨_,rfl⟩;rw[g];go_enter Tryz.func76,Tryz.ntmps76;go_wp2;go_ret;exact⟨by first | rfl | exact an (by assumption),rfl⟩
variable {w0 w:World} {v:Value}
theorem Ah {O:Nat->Prop} {l:B8} (h:IsBytes w0 v l) (i:∀k,O k->w0.heap.size<=k):Out O w v:=by
 obtain⟨a,j,rfl,z,A,B,p⟩:=h;intro C n c q g;cases q;refine .inl fun t=>?_
 cases d:l with
 | nil=>rw[d]at g;exact g rfl
 | cons x r =>
  obtain⟨b,o,e,u⟩:=p (by rw[d];simp);cases e;have:=World.block_lt_of_cell? _ _ (u 0 (.int .u8 x.toNat) (by rw[d];rfl));have y:=i _ t;simp only at this y;omega
def Arg (w0 w:World) (v:Value) (b:B8):Prop:=IsBytes w0 v b\/IsBytes w v b/\TypB w v
variable {b:B8}
theorem Arg.keep {w':World} (h:Arg w0 w v b) (a:KeepB w w'):Arg w0 w' v b:=by
 rcases h with h | ⟨d,c⟩
 .exact .inl h
 .exact .inr ⟨Row.B2 d c a,c.keep a⟩
theorem Arg.bytes (h:Arg w0 w v b) (a:Ext w0 w):IsBytes w v b:=by
 rcases h with h | h
 .exact IsBytes.ext h a
 .exact h.1
theorem Arg.out {O:Nat->Prop} (h:Arg w0 w v b) (d:∀k,O k->w0.heap.size<=k):Out O w v:=by
 rcases h with h | h
 .exact Ah h d
 .exact fun a n c e _=>.inr (h.2 a n c e)
variable [Inhabited bc] [KW:Inhabited cT]
variable {f:Value} {gs gc k:Nat} {m:Fs} {n:Int}
theorem iu {S O:Nat->Prop} (v:Value) (b:B8) (h:St w0 S O w f gs gc m n) (hE:Env w0) (hS:EnvS w0) (hg:Good k m) (t:k<=79800) (bd:0<=n) (bh:n<=100000) (hv:Arg w0 w v b) (hb:b.length<=140737488355328) :
  Calls Tryz.prog 24 #[.pointer (some ⟨gs,0,none⟩),v] w fun e w'=>∃(O':Nat->Prop) (n':Int),e=.returned (.tuple #[S8 (bM m b).2.1,.int .i64 (bM m b).2.2])/\n'=fw n b/\St w0 S O' w' f gs gc (bM m b).1 n':=by
 have H:Hid (St w0 S O w f gs gc m n):=h;have HE:Hid (Env w0):=hE;have HS:Hid (EnvS w0):=hS;have HG:Hid (Good k m):=hg;have HA:Hid (Arg w0 w v b):=hv;have bk:(aV b).length<=100:=by rw[oy];omega
 have b0:(ar (aV b)).length<=400:=by unfold ar;simp;omega
 obtain⟨g,rfl⟩:∃g,f=.pointer (some ⟨g,0,none⟩):=by
  obtain⟨g,gm,gd,vp,vl,vu,L,c0,bl,-⟩:=h.one.fs;exact⟨g,bl⟩
 obtain⟨s0,t0,rfl,-⟩:=id (hv.bytes h.one.ext);clear h hE hS hg hv;go_enter Tryz.func24,Tryz.ntmps24
 by_cases P:20000<b.length
 case pos =>
  have bo:decide ((20000:Int)<(b.length:Int))=true:=decide_eq_true (by omega);have q:bM m b=(m,[],3):=by unfold bM;rw[if_pos P]
  have Q:Hid _:=q;clear q;go_wp2;go_ret2;rw[Q.out];exact⟨_,_,rfl,(by unfold fw;rw[if_pos P]),H.out⟩
 have bo:decide ((20000:Int)<(b.length:Int))=false:=decide_eq_false (by omega);go_wp2_with fail;go_at_call 73;refine(jQ _ b w (HA.out.bytes H.out.one.ext) (by omega)).mono ?_;rintro e w1 ⟨⟨u1,rfl,a2⟩,a3⟩;have a4:Hid _:=a2;have U:Hid _:=a3;have bq:2<=w.heap.size:=by have:=H.out.one.ext.size;have:=HS.out.two;omega
 clear a2 a3;go_wp2_with fail;go_at_call 74;refine(kz w w1 b u1 (EnvS.ext HS.out (H.out.one.ext.trans U.out)) bq U.out a4.out (by omega)).mono ?_;rintro e w2 ⟨rfl,V⟩;have H2:Hid (St w0 S O w2 (.pointer (some ⟨g,0,none⟩)) gs gc m n):=St.more H.out V;have br:Hid (Arg w0 w2 (.slice s0 b.length t0) b):=Arg.keep HA.out (KeepB.BO V);clear V a4 U H;go_wp2_with fail;go_at_call 75;obtain⟨⟨y,z,W⟩,hr⟩:∃q,aE m (ar (aV b))=q:=⟨_,rfl⟩;have F:Hid _:=hr;have X:=vP (aV b) H2.out HE.out HG.out (by omega) bd bh bk;rw[hr]at X;refine X.mono ?_;rintro e w3 ⟨v3,O3,rfl,a5,a6,h3⟩;have j:Hid (Arg w0 w3 (.slice s0 b.length t0) b):=Arg.keep br.out a6;clear a6;obtain⟨n',a7⟩:∃n',n+1=n':=⟨_,rfl⟩;have G:Hid (n'=fw n b):=by unfold Hid fw;rw[if_neg P];exact a7.symm
 rw[a7]at h3;have i:Hid (St w0 S O3 w3 (.pointer (some ⟨g,0,none⟩)) gs gc y n'):=h3;have I:Hid (IsBytes w3 v3 z.data):=a5;clear hr X a5 h3 H2
 try dsimp only
 by_cases l:W=0
 case pos =>
  subst l
  by_cases u:z.data=b
  case pos =>
   have Y:(z.data==b)=true:=by simpa using u
   have q:bM m b=(y,aV b,0):=by
    unfold bM;rw[if_neg P,F.out,if_pos ⟨rfl,u⟩]
   have Q:Hid _:=q;clear q u;go_wp2_with fail;go_at_call 76;refine(fm _ _ _ _ _ I.out (j.out.bytes i.out.one.ext)).mono ?_;rintro e T ⟨rfl,rfl⟩;rw[Y];go_wp2;go_ret2;rw[Q.out];exact⟨_,_,rfl,G.out,i.out⟩
  have Y:(z.data==b)=false:=by simpa using u
  go_wp2_with fail;go_at_call 76;refine(fm _ _ _ _ _ I.out (j.out.bytes i.out.one.ext)).mono ?_;rintro e T ⟨rfl,rfl⟩;rw[Y];go_wp2_with fail;have a8:z.data.length<=10000000:=by have:=je (p:=ar (aV b)) HG.out.ok HG.out.plan;rw[F.out]at this;simp only at this;omega
  go_at_call 73;refine(jQ _ z.data T I.out a8).mono ?_;rintro e w5 ⟨⟨u5,rfl,a9⟩,o⟩;have a':Hid _:=a9;have Z:Hid _:=o;have bs:2<=T.heap.size:=by have:=i.out.one.ext.size;have:=tu HE.out;have:=HS.out.two;omega
  clear a9 o;go_wp2_with fail;go_at_call 74;refine(kz T w5 z.data u5 (EnvS.ext HS.out (i.out.one.ext.trans Z.out)) bs Z.out a'.out a8).mono ?_;rintro e w6 ⟨rfl,ad⟩;have J:Hid (St w0 S O3 w6 (.pointer (some ⟨g,0,none⟩)) gs gc y n'):=St.more i.out ad;have bb:Hid (Arg w0 w6 (.slice s0 b.length t0) b):=Arg.keep j.out (KeepB.BO ad);clear ad a' Z i I j;have j:Hid (Arg w0 w6 (.slice s0 b.length t0) b):=bb.out;clear bb;have t1:=tl (aV b);have t2:=tl (aV z.data)
  by_cases x:aV z.data=aV b
  case pos =>
   have bt:(aV z.data==aV b)=true:=by simpa using x
   have q:bM m b=(y,[],5):=by
    unfold bM;rw[if_neg P,F.out,if_neg (fun h=>u h.2),if_pos ⟨rfl,x⟩]
   have Q:Hid _:=q;clear q x u;go_wp2;go_ret2;rw[Q.out];exact⟨_,_,rfl,G.out,J.out⟩
  have bt:(aV z.data==aV b)=false:=by simpa using x
  have c:Hid (bM m b=cW (bD y bL 1 b) (aV b)):=by
   unfold Hid bM;rw[if_neg P,F.out,if_neg (fun h=>u h.2),if_neg (fun h=>x h.2),if_neg (fun h=>h.1 rfl)]
  have i:Hid (St w0 S O3 w6 (.pointer (some ⟨g,0,none⟩)) gs gc y n'):=J;clear J u x;have A:Hid (Good (k+1) y):=by have:=eC HG.out (ar (aV b));rw[F.out]at this;exact this
  clear F;have d1:w6.cell? ⟨gs,0,none⟩=some (.pointer (some ⟨g,0,none⟩)):=(cell_of_row _ _ 0 _ _ _ i.out.row).trans rfl;go_wp2_with fail;go_at_call 77;refine(lj bL 1 _ b (One.fin i.out.one HE.out A.out (by omega)) (by decide) (j.out.bytes i.out.one.ext) (j.out.out (fun k t=>(i.out.one.lo k t).1))).mono ?_;rintro e w7 ⟨rfl,B⟩;have h4:=St.post i.out B;obtain⟨⟨C,K⟩,r⟩:∃q,bD y bL 1 b=q:=⟨_,rfl⟩;have a:=c.out;rw[r]at h4 a ⊢;have au:Hid (Good (k+2) C):=by have:=gj A.out bL 1 b;rw[r]at this;exact this
  have M:Hid (St w0 S _ w7 (.pointer (some ⟨g,0,none⟩)) gs gc C n'):=h4;clear B r h4 c i
  try dsimp only
  by_cases d:K=0
  case neg =>
   have a0:(K==0)=false:=by simpa using d
   have a1:(K != 0)=true:=by simpa using d
   have q:bM m b=(C,[],K):=a.trans (by unfold cW;rw[if_pos d]);have Q:Hid _:=q;clear q a d;go_wp2;go_ret2;rw[Q.out];exact⟨_,_,rfl,G.out,M.out⟩
  subst d;have d0:w7.cell? ⟨gs,0,none⟩=some (.pointer (some ⟨g,0,none⟩)):=(cell_of_row _ _ 0 _ _ _ M.out.row).trans rfl;have c:Hid _:=a;clear a;go_upto_region 14 with fail;apply aj 6 [_,_,_,.pointer (some ⟨g,0,none⟩),_,S8 (ar (aV b))] [none,none,none,none,none,none] [[],[0],[1],[2],[],[4]] (by kernel_rfl) (by kernel_rfl) (by simp[ak])
  .trivial
  .simp (maxSteps:=1000000)only[List.take_succ_cons,List.take_zero,aw,aA,aa,Act.put,List.setIfInBounds_toArray,List.set_cons_zero,List.set_cons_succ,aK,aO,ak,List.getD_cons_zero,List.getD_cons_succ,and_true,true_and,forall_const];and_intros
   iterate 5 · intro xs wq u;intros;rename_i hR;have f0:=u.cell d0;go_simp;exact hR _ _ (Ext.refl _) rfl
   .intro xs wq u t R hR;go_simp;exact(iD (aV b) _ (by omega)).mono (by rintro e' w7 ⟨rfl,rfl⟩;exact⟨_,rfl,hR _ _ (Ext.refl _) rfl⟩)
  intro xs w8 o t;simp only[aP,Nat.zero_add,Nat.reduceAdd,and_true]at t;simp(maxSteps:=1000000)only[List.take_succ_cons,List.take_zero,List.drop_succ_cons,List.drop_zero,aa,Act.put,List.setIfInBounds_toArray,List.set_cons_zero,List.set_cons_succ,Nat.zero_add,Nat.reduceAdd,t];clear t;have H5:Hid (St w0 S _ w8 (.pointer (some ⟨g,0,none⟩)) gs gc C n'):=St.more M.out o;clear o d0 M;go_wp2_with fail;go_at_call 78;refine(mN bL (ar (aV b)) (One.fin H5.out.one HE.out au.out (by omega)) (by decide) (by omega)).mono ?_;rintro e w9 ⟨rfl,D⟩;have h6:=St.post H5.out D;obtain⟨⟨m3,N⟩,E⟩:∃q,aN C bL (ar (aV b)) false=q:=⟨_,rfl⟩;have a:=c.out;unfold cW at a;rw[if_neg (by simp)]at a;simp only[]at a;rw[E]at h6 a ⊢;have J:Hid (St w0 S _ w9 (.pointer (some ⟨g,0,none⟩)) gs gc m3 n'):=h6;clear D E h6 c H5
  try dsimp only
  by_cases d:N=0
  case neg =>
   have a0:(N==0)=false:=by simpa using d
   have a1:(N != 0)=true:=by simpa using d
   have q:bM m b=(m3,[],N):=a.trans (by rw[if_pos d]);have Q:Hid _:=q;clear q a d;go_wp2;go_ret2;rw[Q.out];exact⟨_,_,rfl,G.out,J.out⟩
  subst d;have q:bM m b=(m3,aV b,0):=a.trans (by rw[if_neg (by simp)]);have Q:Hid _:=q;clear q a;go_wp2;go_ret2;rw[Q.out];exact⟨_,_,rfl,G.out,J.out⟩
 have bx:(W==0)=false:=by simpa using l
 have bS:(W != 0)=true:=by simpa using l
 by_cases h7:W=7
 case neg =>
  have b1:(W != 7)=true:=by simpa using h7
  have b2:(W==7)=false:=by simpa using h7
  have q:bM m b=(y,[],W):=by
   unfold bM;rw[if_neg P,F.out,if_neg (fun h=>l h.1),if_neg (fun h=>l h.1),if_pos ⟨l,h7⟩]
  have Q:Hid _:=q;clear q;go_wp2;go_ret2;rw[Q.out];exact⟨_,_,rfl,G.out,i.out⟩
 subst h7;have c:Hid (bM m b=cW (bD y bL 1 b) (aV b)):=by
  unfold Hid bM;rw[if_neg P,F.out,if_neg (fun h=>l h.1),if_neg (fun h=>l h.1),if_neg (fun h=>h.2 rfl)]
 have A:Hid (Good (k+1) y):=by have:=eC HG.out (ar (aV b));rw[F.out]at this;exact this
 clear F;have d1:w3.cell? ⟨gs,0,none⟩=some (.pointer (some ⟨g,0,none⟩)):=(cell_of_row _ _ 0 _ _ _ i.out.row).trans rfl;go_wp2_with fail;go_at_call 77;refine(lj bL 1 _ b (One.fin i.out.one HE.out A.out (by omega)) (by decide) (j.out.bytes i.out.one.ext) (j.out.out (fun k t=>(i.out.one.lo k t).1))).mono ?_;rintro e T ⟨rfl,B⟩;have h4:=St.post i.out B;obtain⟨⟨C,K⟩,r⟩:∃q,bD y bL 1 b=q:=⟨_,rfl⟩;have a:=c.out;rw[r]at h4 a ⊢;have au:Hid (Good (k+2) C):=by have:=gj A.out bL 1 b;rw[r]at this;exact this
 have M:Hid (St w0 S _ T (.pointer (some ⟨g,0,none⟩)) gs gc C n'):=h4;clear B r h4 c i
 try dsimp only
 by_cases d:K=0
 case neg =>
  have a0:(K==0)=false:=by simpa using d
  have a1:(K != 0)=true:=by simpa using d
  have q:bM m b=(C,[],K):=a.trans (by unfold cW;rw[if_pos d]);have Q:Hid _:=q;clear q a d;go_wp2;go_ret2;rw[Q.out];exact⟨_,_,rfl,G.out,M.out⟩
 subst d;have d0:T.cell? ⟨gs,0,none⟩=some (.pointer (some ⟨g,0,none⟩)):=(cell_of_row _ _ 0 _ _ _ M.out.row).trans rfl;have c:Hid _:=a;clear a;go_upto_region 14 with fail;apply aj 6 [_,_,_,.pointer (some ⟨g,0,none⟩),_,S8 (ar (aV b))] [none,none,none,none,none,none] [[],[0],[1],[2],[],[4]] (by kernel_rfl) (by kernel_rfl) (by simp[ak])
 .trivial
 .simp (maxSteps:=1000000)only[List.take_succ_cons,List.take_zero,aw,aA,aa,Act.put,List.setIfInBounds_toArray,List.set_cons_zero,List.set_cons_succ,aK,aO,ak,List.getD_cons_zero,List.getD_cons_succ,and_true,true_and,forall_const];and_intros
  iterate 5 · intro xs wq u;intros;rename_i hR;have f0:=u.cell d0;go_simp;exact hR _ _ (Ext.refl _) rfl
  .intro xs wq u t R hR;go_simp;exact(iD (aV b) _ (by omega)).mono (by rintro e' T ⟨rfl,rfl⟩;exact⟨_,rfl,hR _ _ (Ext.refl _) rfl⟩)
 intro xs w5 o t;simp only[aP,Nat.zero_add,Nat.reduceAdd,and_true]at t;simp(maxSteps:=1000000)only[List.take_succ_cons,List.take_zero,List.drop_succ_cons,List.drop_zero,aa,Act.put,List.setIfInBounds_toArray,List.set_cons_zero,List.set_cons_succ,Nat.zero_add,Nat.reduceAdd,t];clear t;have H5:Hid (St w0 S _ w5 (.pointer (some ⟨g,0,none⟩)) gs gc C n'):=St.more M.out o;clear o d0 M;go_wp2_with fail;go_at_call 78;refine(mN bL (ar (aV b)) (One.fin H5.out.one HE.out au.out (by omega)) (by decide) (by omega)).mono ?_;rintro e w6 ⟨rfl,D⟩;have h6:=St.post H5.out D;obtain⟨⟨m3,N⟩,E⟩:∃q,aN C bL (ar (aV b)) false=q:=⟨_,rfl⟩;have a:=c.out;unfold cW at a;rw[if_neg (by simp)]at a;simp only[]at a;rw[E]at h6 a ⊢;have J:Hid (St w0 S _ w6 (.pointer (some ⟨g,0,none⟩)) gs gc m3 n'):=h6;clear D E h6 c H5
 try dsimp only
 by_cases d:N=0
 case neg =>
  have a0:(N==0)=false:=by simpa using d
  have a1:(N != 0)=true:=by simpa using d
  have q:bM m b=(m3,[],N):=a.trans (by rw[if_pos d]);have Q:Hid _:=q;clear q a d;go_wp2;go_ret2;rw[Q.out];exact⟨_,_,rfl,G.out,J.out⟩
 subst d;have q:bM m b=(m3,aV b,0):=a.trans (by rw[if_neg (by simp)]);have Q:Hid _:=q;clear q a;go_wp2;go_ret2;rw[Q.out];exact⟨_,_,rfl,G.out,J.out⟩
theorem lC {S O:Nat->Prop} (v:Value) (b:B8) (h:St w0 S O w f gs gc m n) (i:Env w0) (j:EnvS w0) (l:Good k m) (o:k<=79800) (a:0<=n) (c:n<=100000) (p:Arg w0 w v b) (q:b.length<=140737488355328) :
  Calls Tryz.prog 24 #[.pointer (some ⟨gs,0,none⟩),v] w fun e g=>∃(O':Nat->Prop) (n':Int),e=.returned (.tuple #[S8 (bM m b).2.1,.int .i64 (bM m b).2.2])/\(n<=n'/\n'<=n+1)/\St w0 S O' g f gs gc (bM m b).1 n' :=
 (iu v b h i j l o a c p q).mono fun e g ⟨O',n',r,t,d⟩=>⟨O',n',r,by subst t;unfold fw;split <;> omega,d⟩
end
section
open Go Go.RowKit
def dB:B8:=[115,47,111]
def gI:B8:=[115,47,111,47]
def eL (l:List B8):List B8:=(l.map fun p=>Lib.trimPrefix p gI).filter av
def aY (m:Fs):Fs×List B8×Int:=if(bm m dB).2.2≠0 then((bm m dB).1,[],(bm m dB).2.2)else((bm m dB).1,eL (bm m dB).2.1,0)
theorem vY (s:B8) (w:World):Calls Tryz.prog 49 #[S8 s,S8 gI] w fun e a=>e=.returned (S8 (Lib.trimPrefix s gI))/\a=w :=
 Tryz.strings_TrimPrefix ⟨s.toArray⟩ ⟨gI.toArray⟩ w
variable {k:Nat}
theorem yv {a:List B8} {s:B8} (h:a[k]? = some s):eL (a.take (k+1))=eL (a.take k)++(if av (Lib.trimPrefix s gI)=true then[Lib.trimPrefix s gI]else[]):=by
 obtain⟨c,rfl⟩:=(List.getElem?_eq_some_iff.1 h);unfold eL;rw[List.take_succ_eq_append_getElem c,List.map_append,List.filter_append]
 by_cases b:av (Lib.trimPrefix a[k] gI)=true
 .rw [if_pos b,List.map_cons,List.map_nil,List.filter_cons_of_pos b,List.filter_nil]
 .rw [if_neg b,List.map_cons,List.map_nil,List.filter_cons_of_neg b,List.filter_nil]
theorem Ai (a:List B8):(eL a).length<=a.length:=by
 unfold eL;exact Nat.le_trans (List.length_filter_le _ _) (by simp)
variable [Inhabited bc] [KW:Inhabited cT]
variable {w0 w:World} {f:Value} {gs gc:Nat} {m:Fs} {n:Int}
theorem j9 {S O:Nat->Prop} (h:St w0 S O w f gs gc m n) (hE:Env w0) (p:Good k m) (hk:k<=79800) :
  Calls Tryz.prog 13 #[.pointer (some ⟨gs,0,none⟩)] w fun e M=>∃(O':Nat->Prop) (v:Value),e=.returned (.tuple #[v,.int .i64 (aY m).2.2])/\IsStrs M v (aY m).2.1/\St w0 S O' M f gs gc (aY m).1 n/\Typed 9 M v:=by
 have H:Hid (St w0 S O w f gs gc m n):=h;obtain⟨g,rfl⟩:∃g,f=.pointer (some ⟨g,0,none⟩):=by
  obtain⟨g,gm,gd,vp,vl,vu,L,c0,N,-⟩:=h.one.fs;exact⟨g,N⟩
 have j:=One.fin h.one hE p (by omega);have y:Hid _:=nI (dir:=dB) p.ok p.plan;have l:=ye (dir:=dB) p.ok p.plan j.time;have P:Hid _:=qG dB j (by decide);have d0:w.cell? ⟨gs,0,none⟩=some (.pointer (some ⟨g,0,none⟩)):=(cell_of_row _ _ 0 _ _ _ h.row).trans rfl;obtain⟨⟨R,d,I⟩,T⟩:∃q,bm m dB=q:=⟨_,rfl⟩;rw[T]at P y l;have HR:Hid _:=T;have U:Hid (∀s∈d,s.length<=200):=y;have V:d.length<=7001000:=l;clear h hE p j T l y
 try dsimp only
 go_enter Tryz.func13,Tryz.ntmps13;go_wp2_with fail;go_at_call 48;refine Calls.mono P.out ?_;rintro e D ⟨⟨v,rfl,W,-⟩,E⟩;have H1:Hid (St w0 S _ D (.pointer (some ⟨g,0,none⟩)) gs gc R n):=St.post H.out E;have HV:Hid (IsStrs D v d):=W;obtain⟨a,a2,rfl,l1,l2,l3,-⟩:=W.get;clear E W H P d0
 try dsimp only
 by_cases r:I=0
 case neg =>
  have a3:(I==0)=false:=by simpa using r
  have a4:(I != 0)=true:=by simpa using r
  have q:aY m=(R,[],I):=by unfold aY;rw[HR.out];exact if_pos r
  have Q:Hid _:=q;clear q;go_wp2;go_ret2;rw[Q.out];exact⟨_,_,rfl,Row.nil _,H1.out,Typed.nil _ _ _ _⟩
 subst r;have q:aY m=(R,eL d,0):=by unfold aY;rw[HR.out];exact if_neg (by simp)
 have Q:Hid _:=q;clear q;go_wp2;go_loopw [6,23] (fun v i wr=>∃(k n:Nat),k<=d.length/\i=.int .i64 k/\Hid ((eL (d.take k)).length=n)/\wr.ownsRow D.heap.size 9 1 v n ((eL (d.take k)).map S8)/\Ext D wr) (fun _ i _=>d.length - (intOf i).toNat)
 case atStart=>exact⟨0,0,Nat.zero_le _,rfl,rfl,World.ownsRow_nil _ _ _ _,Ext.refl _⟩
 case round =>
  obtain⟨k,J,a5,rfl,K,b,X⟩:=hrel;have a6:J<=d.length:=by rw[<-K.out];exact Nat.le_trans (Ai _) (List.length_take_le' _ _)
  by_cases z:k<d.length
  .obtain ⟨s,u⟩:∃s,d[k]? = some s:=⟨_,List.getElem?_eq_getElem z⟩;have a7:=U.out s (List.mem_of_getElem? u);obtain⟨_,_,he,-,-,-,p⟩:=(IsStrs.ext HV.out X).get;cases he;obtain⟨bb,oo,rfl,hc⟩:=p k z;have y1:=hc k z;rw[show d.getD k []=s by rw[List.getD_eq_getElem?_getD,u];rfl]at y1;obtain⟨t,Y⟩:∃t,Lib.trimPrefix s gI=t:=⟨_,rfl⟩;have A:=yv u;have Z:=yd s gI;rw[Y]at A Z;have x:Hid _:=A;have HT:Hid _:=Y;obtain⟨nb,F⟩:∃nb,av t=nb:=⟨_,rfl⟩;have o:Hid _:=F;clear A Y F u p hc;go_wp2_with fail;go_at_call 49;refine Calls.mono (vY s wr) ?_;rw[HT.out];rintro e w3 ⟨rfl,rfl⟩;go_wp2_with fail;go_at_call 17;refine(fQ t _ (by omega)).mono ?_;rw[o.out];rintro e w4 ⟨rfl,G⟩;have c:=al b G;have B:=X.trans G;have a8:=B.size
   cases nb with
   | true =>
    go_wp2_with (at_builtin;go_must (refine eO rfl _ _ rfl D.heap.size _ J _ rfl (c.alloc _) w4.heap.size 1 1 [t] rfl rfl (ab _ _) (by omega) (by simp;omega) ?_;intro v' w3 C ad))
    go_roundw
    case rel =>
     refine⟨k+1,J+1,by omega,by go_num,?_,?_,ai (B.alloc _) (c.alloc _) ad⟩
     .unfold Hid;rw[x.out,o.out,if_pos rfl,List.length_append,K.out];rfl
     .rw [x.out,o.out,if_pos rfl];exact C
    case measure=>simp[intOf];omega
   | false =>
    go_wp2;go_roundw
    case rel=>exact⟨k+1,J,by omega,by go_num,by unfold Hid;rw[x.out,o.out,if_neg (by simp),List.append_nil];exact K.out,by rw[x.out,o.out,if_neg (by simp),List.append_nil];exact c,B⟩
    case measure=>simp[intOf];omega
  .have au:k=d.length:=by omega
   subst au;have hn:=K.out;rw[List.take_length]at b hn;subst hn;have a0:Hid (IsStrs wr _ (eL d)):=Row.BM b (by omega);have H2:Hid _:=St.more H1.out X;have a1:Hid (Typed 9 wr _):=Typed.BM b;clear b;go_wp2;go_ret2;rw[Q.out];exact⟨_,_,rfl,a0.out,H2.out,a1.out⟩
theorem p6 {S O:Nat->Prop} (h:St w0 S O w f gs gc m n) (b:Env w0) (c:Good k m) (d:k<=79800) :
  Calls Tryz.prog 13 #[.pointer (some ⟨gs,0,none⟩)] w fun e a=>∃(O':Nat->Prop) (v:Value),e=.returned (.tuple #[v,.int .i64 (aY m).2.2])/\IsStrs a v (aY m).2.1/\St w0 S O' a f gs gc (aY m).1 n :=
 (j9 h b c d).mono (by rintro e a ⟨O',v,g,i,j,-⟩;exact⟨O',v,g,i,j⟩)
end
section
open Go Go.RowKit
def xB:B8:=aV [120]
def sm0:Fs:=eV 1000
def sm1:Fs:=(bM sm0 [120]).1
def sm2:Fs:=(bM sm1 [120]).1
theorem Aj:(bM sm0 [120]).2=(xB,0)/\(bM sm1 [120]).2=(xB,0)/\(aY sm2).2=([xB],0):=by decide +kernel
variable {n:Nat}
theorem sd {x:Fs×Int} {id:B8} (h:Good n x.1):Good (n+1) (cW x id).1:=by
 unfold cW;split
 .exact h.mono (by omega)
 .split
  iterate 2
   .exact vM h _ _ _
theorem ie {m:Fs} (h:Good n m) (b:B8):Good (n+3) (bM m b).1:=by
 unfold bM;split
 .exact h.mono (by omega)
 .split
  .exact (eC h _).mono (by omega)
  .split
   .exact (eC h _).mono (by omega)
   .split
    .exact (eC h _).mono (by omega)
    .exact sd (gj (eC h _) _ _ _)
theorem AR:Good 0 sm0/\Good 3 sm1/\Good 6 sm2:=by
 have a:Good 0 sm0:=qN (by omega) (by omega);exact⟨a,ie a _,ie (ie a _) _⟩
section
variable [Inhabited bc] [KW:Inhabited cT]
theorem se (w:World) (V:Env w) (W:EnvS w) (z:∀k,cL k=none) :
  Calls Tryz.prog 5 #[] w fun e w'=>e=.returned (.bool true)/\Ext w w':=by
 obtain⟨g0,g1,g2⟩:=AR;obtain⟨X,Y,Z⟩:=Aj;have H:Hid (∀k,cL k=none):=z;clear z;have I:Hid (Env w):=V;have HS:Hid (EnvS w):=W;have F0:Hid _:=X;have F1:Hid _:=Y;have F2:Hid _:=Z;have xl:xB.length=64:=oy _;clear V W X Y Z;have kc:=fun(w:World) (C:Array Value) (n c:Nat)=>Lib.run_convert_bytes_const (P:=Tryz.prog) w 37 5 C n c Tryz.underlying37 Tryz.underlying5
 go_enter Tryz.func5,Tryz.ntmps5;go_wp2_with fail;go_at_call 7;refine(tb 1000 _ (by omega) (by omega)).mono ?_;rintro e w1 ⟨⟨p,rfl,J⟩,A⟩;have H1:Hid (One w (fun _=>False) (Nu w w1) w1 p sm0):=One.new J A;obtain⟨g,rfl⟩:∃g,p=.pointer (some ⟨g,0,none⟩):=by
  obtain⟨g,gm,gd,vp,vl,vu,L,c0,K,-⟩:=J;exact⟨g,K⟩
 clear J A;go_wp2_with fail;go_at_call 9;refine(yi H1.out H.out).mono ?_;rintro e o ⟨q,r,rfl,h2,-⟩;have H2:Hid (St w _ _ o (.pointer (some ⟨g,0,none⟩)) q r sm0 0):=h2;clear h2;have j:Hid (St w _ _ o (.pointer (some ⟨g,0,none⟩)) q r sm0 0):=H2.out;clear H2 H1;go_upto_region 7 with fail;go_wp2_with fail;obtain⟨t,d⟩:∃t,t=o.alloc (.cells #[.int .u8 120] 5 (1,2)):=⟨_,rfl⟩;have h:Ext o t:=by rw[d];exact(Ext.refl _).alloc _
 have b:t.heap[o.heap.size]? = some (.cells #[.int .u8 120] 5 (1,2)):=by rw[d];exact ab _ _
 have B:Hid (Arg w t (.slice (some ⟨o.heap.size,0,none⟩) 1 1) [120]):=.inr ⟨qO (x:=120) (fr:=(1,2)) b,fun a n c M=>(by cases M;exact⟨_,_,_,b,by kernel_rfl⟩)⟩;have D:Hid (St w _ _ t (.pointer (some ⟨g,0,none⟩)) q r sm0 _):=St.more j.out h;rw[<-d];clear d h b j;go_at_call 24;refine(lC _ [120] D.out I.out HS.out g0 (by omega) (by omega) (by omega) B.out (by decide)).mono ?_;rw[show bM sm0 [120]=(sm1,xB,0)from Prod.ext rfl F0.out];rintro e E ⟨O3,n3,rfl,N,F⟩;obtain⟨O,Q⟩:=N;have j:Hid (St w _ _ E (.pointer (some ⟨g,0,none⟩)) q r sm1 n3):=F;clear F D B
 try dsimp only
 go_upto_region 8 with fail;go_wp2_with fail;obtain⟨u,d⟩:∃u,u=E.alloc (.cells #[.int .u8 120] 5 (1,2)):=⟨_,rfl⟩;have h:Ext E u:=by rw[d];exact(Ext.refl _).alloc _
 have b:u.heap[E.heap.size]? = some (.cells #[.int .u8 120] 5 (1,2)):=by rw[d];exact ab _ _
 have B:Hid (Arg w u (.slice (some ⟨E.heap.size,0,none⟩) 1 1) [120]):=.inr ⟨qO (x:=120) (fr:=(1,2)) b,fun a n c M=>(by cases M;exact⟨_,_,_,b,by kernel_rfl⟩)⟩;have D:Hid (St w _ _ u (.pointer (some ⟨g,0,none⟩)) q r sm1 _):=St.more j.out h;rw[<-d];clear d h b j;go_at_call 24;refine(lC _ [120] D.out I.out HS.out g1 (by omega) (by omega) (by omega) B.out (by decide)).mono ?_;rw[show bM sm1 [120]=(sm2,xB,0)from Prod.ext rfl F1.out];rintro e w4 ⟨O3,n4,rfl,N,F⟩;obtain⟨O,Q⟩:=N;have j:Hid (St w _ _ w4 (.pointer (some ⟨g,0,none⟩)) q r sm2 n4):=F;clear F D B
 try dsimp only
 go_wp2_with fail;go_at_call 13;refine(p6 j.out I.out g2 (by omega)).mono ?_;rw[show aY sm2=((aY sm2).1,[xB],0)from Prod.ext rfl F2.out];rintro e y ⟨O5,v5,rfl,G,h5⟩;have R:Hid (IsStrs y v5 [xB]):=G;have H5:Hid (Ext w y):=h5.one.ext;clear G h5 j
 try dsimp only
 have t1:=tl xB;have ad:(xB==xB)=true:=by simp
 go_wp2_with fail;obtain⟨wc,i⟩:∃wc,wc=y.alloc (.cells #[S8 xB] 9):=⟨_,rfl⟩;have l:Ext y wc:=by rw[i];exact(Ext.refl _).alloc _
 have b:wc.heap[y.heap.size]? = some (.cells #[S8 xB] 9 (0,0)):=by rw[i];exact ab _ _
 have HC:Hid (IsStrs wc (.slice (some ⟨y.heap.size,0,none⟩) 1 1) [xB]):=Row.new b (by decide) _ rfl;have S:Hid (Ext w wc):=H5.out.trans l;have T:Hid (IsStrs wc v5 [xB]):=IsStrs.ext R.out l;rw[<-i];clear i l b;go_at_call 25;refine(ib _ _ [xB] [xB] wc T.out HC.out).mono ?_;rw[show([xB]==[xB])=true by simp];rintro e w6 ⟨rfl,U⟩;go_wp2;go_ret;exact⟨rfl,S.out.trans U⟩
end
theorem iI [Inhabited bc] (w:World) (a:Env w) (b:EnvS w) :
  Calls Tryz.prog 5 #[] w fun e c=>e=.returned (.bool true)/\Ext w c :=
 se (KW:=⟨⟨fun _=>none,0⟩⟩) w a b (fun _=>rfl)
end
end Go.Proofs.YtfabjgfmiaammaaGreatDoor
