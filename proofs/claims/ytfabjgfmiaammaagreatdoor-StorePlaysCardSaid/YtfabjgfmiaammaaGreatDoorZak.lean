/- Contracts of the program's functions and plain laws behind the card. Conditions: as each theorem states. -/
import Derived.Test.YtfabjgfmiaammaaGreatDoorZaj
import Derived.Deep.DeepCutAuto
import Derived.Test.YtfabjgfmiaammaaGreatDoorZag
import Derived.Test.YtfabjgfmiaammaaGreatDoorZaf
import Derived.Test.YtfabjgfmiaammaaGreatDoorZai
import Derived.Test.YtfabjgfmiaammaaGreatDoorZad
set_option linter.unusedVariables false
set_option linter.unusedSimpArgs false
set_option linter.unusedSectionVars false
set_option maxRecDepth 100000
set_option maxHeartbeats 64000000
namespace Go.Proofs.YtfabjgfmiaammaaGreatDoor
section
open Go Go.RowKit
theorem An {x:Itm} (h:bJ x=true):(bp x).length<=200:=by
 unfold bJ at h;simp only[Bool.and_eq_true,decide_eq_true_eq]at h;have a:=kF h.2.2.1;have b:=(gp h.2.2.2).1;have c:=bF (n:=x.name.length) (by unfold be;omega);unfold bp;simp only[List.length_cons,List.length_append];omega
theorem kI:∀(l:List Itm) (k:Nat),(∀x∈l,bJ x=true)->((l.take k).flatMap bp).length<=200*k
 | l,0,_=>by simp
 | [],k+1,_=>by simp
 | x::l,k+1,h=>by
  have b:=An (h x (by simp));have c:=kI l k (fun y a=>h y (by simp[a]));rw[List.take_succ_cons,List.flatMap_cons,List.length_append];omega
theorem tJ {m:Int} (a:1<=m) (b:m<=4):IntKind.u8.wrap m=(((UInt8.ofNat m.toNat).toNat:Nat):Int):=by
 rw[IntKind.wrap_u8,UInt8.toNat_ofNat'];omega
theorem lY (n:Int) (a:0<=n) (h:n<=be):(putW n).1=am n.toNat:=by
 unfold putW;rw[if_neg (by omega)]
theorem kJ:∀(l:List B8) (k:Nat),l.all av=true->((l.take k).flatMap aQ).length<=32*k
 | l,0,_=>by simp
 | [],k+1,_=>by simp
 | x::l,k+1,h=>by
  simp only[List.all_cons,Bool.and_eq_true]at h;have a:=(gp h.1).1;have b:=kJ l k h.2;rw[List.take_succ_cons,List.flatMap_cons,List.length_append];omega
theorem iP (n:Nat) (h:n<=be):(putW (n:Int)).1=am n:=by
 unfold putW;rw[if_neg (by omega)];rfl
theorem mX (v:Value) (o:Ob) (w:World) (hv:IsOb w v o) (hs:dm o) :
  Calls Tryz.prog 85 #[v] w fun e G=>(∃u,e=.returned (.tuple #[u,.int .i64 (aT o).2])/\Ow w.heap.size G u (aT o).1)/\Ext w G:=by
 have cs:=hv;obtain⟨vd,vi,vp,rfl,hd,hi,hp⟩:=hv;obtain⟨wa,a6⟩:∃wa,wa=w.alloc (.cells #[.int .i64 o.kind,vd,vi,S8 o.tree,vp,.int .i64 o.BL,.int .i64 o.I,S8 o.msg] 41):=⟨_,rfl⟩;have b0:Ext w wa:=by rw[a6];exact(Ext.refl _).alloc _
 have a7:wa.heap[w.heap.size]? = some (.cells #[.int .i64 o.kind,vd,vi,S8 o.tree,vp,.int .i64 o.BL,.int .i64 o.I,S8 o.msg] 41 (0,0)):=by rw[a6];exact ab _ _
 obtain⟨gb,eS⟩:∃gb,w.heap.size=gb:=⟨_,rfl⟩;have a8:Hid (Calls Tryz.prog 142 #[obV o vd vi vp] wa fun e G=>e=.returned (.bool (bN o))/\Ext wa G):=yD _ o wa (cs.ext b0) hs;have HD:Hid (IsBytes w vd o.data):=hd;have HI:Hid (IsItms w vi o.items):=hi;have HP:Hid (IsStrs w vp o.parents):=hp;obtain⟨da,dc,rfl,-,-,-,-⟩:=hd.get;obtain⟨ia,ic,rfl,i1,i2,i3,ct⟩:=hi.get;have cu:Hid _:=ct;obtain⟨pa,pc,rfl,p1,p2,p3,cv⟩:=hp.get;have cx:Hid _:=cv;obtain⟨m0,b1⟩:∃m,bN o=m:=⟨_,rfl⟩;rw[b1]at a8;have Y:Hid _:=b1;unfold obV at a8;rw[eS]at a7;have e0:Hid _:=a7;have e1:Hid (Ext w wa):=b0;have e3:Hid _:=a6;obtain⟨c0,c1,c2,c3,c4,c5,c6,c7⟩:=ag a7;obtain⟨⟨qb,qe⟩,hq⟩:∃q,aT o=q:=⟨_,rfl⟩;rw[hq];have HQ:Hid _:=hq;clear cs hd hi hp ct cv hs b1 a7 b0 a6 hq;go_enter Tryz.func85,Tryz.ntmps85;go_upto_region 1 with fail;rw[<-e3.out];go_wp2_with fail;go_at_call 142;refine Calls.mono a8.out ?_;rintro e9 p ⟨rfl,b2⟩;have E:Hid (Ext w p):=e1.out.trans b2;have b3:Hid _:=Ext.row b2 e0.out;have fv:gb<p.heap.size:=(Array.getElem?_eq_some_iff.1 b3.out).1;obtain⟨d0,d1,d2,d3,d4,d5,d6,d7⟩:=ag b3.out;clear b2 a8
 cases m0 with
 | false =>
  obtain⟨rfl,rfl⟩:qb=[]/\qe=1:=by
   have y:=HQ.out;unfold aT at y;rw[Y.out]at y;exact⟨(Prod.mk.inj y).1.symm,(Prod.mk.inj y).2.symm⟩
  go_wp2;go_ret2;exact⟨⟨_,rfl,World.ownsRow_nil _ _ _ _⟩,E.out⟩
 | true =>
  obtain⟨c8,rfl⟩:qb=ez o/\qe=0:=by
   have y:=HQ.out;unfold aT at y;rw[Y.out,if_pos rfl]at y;exact⟨(Prod.mk.inj y).1.symm,(Prod.mk.inj y).2.symm⟩
  have c9:Hid _:=c8;clear c8 HQ;clear c0 c1 c2 c3 c4 c5 c6 c7;obtain⟨c',V,b,C,a,j,g,H⟩:=o;have r:=kG Y.out;have N:Hid (qb=ez ⟨c',V,b,C,a,j,g,H⟩):=c9.out;clear c9;dsimp only at r d0 d1 d2 d3 d4 d5 d6 d7 i1 i2 p1 p2 cu cx HD HI HP b3;rcases r with rfl | rfl | rfl
  .have f9:V.length<=20000:=by
    have y:=Y.out;unfold bN at y;rw[if_pos rfl]at y;simp only[Bool.and_eq_true,decide_eq_true_eq]at y;exact y.1
   have au:Hid (qb=[1]++V):=N.out;have L:Hid (Ow p.heap.size (p.alloc (.cells #[.int .u8 1] 5)) (.slice (some ⟨p.heap.size,0,none⟩) 1 1) [1]):=World.ownsRow_lit p _ 1 (Nat.le_refl _) (by decide) rfl
   go_wp2_with (at_builtin;go_must (refine jh rfl _ _ rfl rfl p.heap.size _ [1] rfl L.out _ V rfl (IsBytes.ext HD.out (E.out.alloc _)) (by simp;omega) (by simp) ?_;intro Z w2 I a9 dk))
   go_ret2;exact⟨⟨_,rfl,by rw[au.out];exact I.mono E.out.size⟩,E.out.trans (ai ((Ext.refl p).alloc _) L.out a9)⟩
  .have b4:b.length<=256/\∀x∈b,bJ x=true:=by
    have y:=Y.out;unfold bN at y;rw[if_neg (show ¬(2:Int)=1 by decide),if_pos rfl]at y;simp only[Bool.and_eq_true,cC,List.all_eq_true,decide_eq_true_eq]at y;exact⟨y.2.1.2.2,y.2.1.1⟩
   obtain⟨f',dl⟩:=b4;have dn:Hid _:=dl;have au:Hid (qb=[2]++am b.length++b.flatMap bp):=by
    unfold Hid;rw[N.out];show UInt8.ofNat 2::(am b.length++b.flatMap bp)=_;simp
   have e4:=bF (n:=b.length) (by unfold be;omega);have L:Hid (Ow p.heap.size (p.alloc (.cells #[.int .u8 2] 5)) (.slice (some ⟨p.heap.size,0,none⟩) 1 1) [2]):=World.ownsRow_lit p _ 1 (Nat.le_refl _) (by decide) rfl;clear dl N;go_wp2_with fail;go_at_call 143;refine(gq _ [2] b.length p.heap.size _ L.out (by simp) (by simp)).mono ?_;rintro e9 w2 ⟨v2,rfl,I,a9,dk⟩;rw[iP _ (by unfold be;omega)]at I;have dq:Hid (Ow p.heap.size w2 v2 ([2]++am b.length)):=I;have a0:Hid (Ext p w2):=ai ((Ext.refl p).alloc _) L.out a9;have e2:=a0.out.cell d2;clear I a9 dk L;go_wp2_with fail;go_loopw [4,34] (fun v i wr=>∃k:Nat,k<=b.length/\i=.int .i64 k/\Hid (Ow p.heap.size wr v ([2]++am b.length++(b.take k).flatMap bp))/\Hid (Ext p wr)) (fun _ i _=>b.length - (intOf i).toNat)
   case atStart=>exact⟨0,Nat.zero_le _,rfl,by unfold Hid;simpa using dq.out,a0⟩
   case round =>
   obtain⟨k,r,rfl,HO,S⟩:=hrel
   by_cases a1:k<b.length
   .obtain ⟨x,hx⟩:∃x,b[k]? = some x:=⟨_,List.getElem?_eq_getElem a1⟩;have ds:=dn.out x (List.mem_of_getElem? hx);have d8:=kI b k dn.out;have b5:Hid ((b.take (k+1)).flatMap bp=(b.take k).flatMap bp++bp x):=by
     unfold Hid;rw[List.take_add_one,hx];simp
    obtain⟨bb,oo,e5,d9,d',ea⟩:=cu.out k x hx;subst e5;have y0:=S.out.cell (E.out.cell d9);have y1:=S.out.cell (E.out.cell d');have y2:=S.out.cell (E.out.cell ea);obtain⟨O,P⟩:∃l,[2]++am b.length++(b.take k).flatMap bp=l:=⟨_,rfl⟩;have ec:O.length<=60000:=by rw[<-P];simp only[List.length_append,List.length_cons,List.length_nil];omega
    have b6:Hid _:=P;rw[P]at HO;clear P d8;obtain⟨W,name,id⟩:=x;have a2:=ds;unfold bJ at a2;simp only[Bool.and_eq_true,decide_eq_true_eq]at a2;obtain⟨ef,eg,eh,ek⟩:=a2;have ga:=kF eh;have eo:=tJ ef eg;obtain⟨cm,b7⟩:∃c,UInt8.ofNat W.toNat=c:=⟨_,rfl⟩;rw[b7]at eo;have e6:Hid _:=ek;have e7:Hid (bp ⟨W,name,id⟩=[cm]++am name.length++(name++aQ id)):=by
     unfold Hid bp;rw[b7];simp
    dsimp only at y0 y1 y2;clear ds hx d9 d' ea ef eg eh ek b7;go_upto_region 12 with fail;obtain⟨w4,a'⟩:∃w4,w4=wr.alloc (.cells #[.int .i64 W,S8 name,S8 id] 130):=⟨_,rfl⟩;have b8:Ext wr w4:=by rw[a'];exact(Ext.refl _).alloc _
    have bd:w4.heap[wr.heap.size]? = some (.cells #[.int .i64 W,S8 name,S8 id] 130 (0,0)):=by rw[a'];exact ab _ _
    rw[<-a'];obtain⟨gi,er⟩:∃gi,wr.heap.size=gi:=⟨_,rfl⟩;have b':Hid (Ow p.heap.size w4 u4 O):=al HO.out b8;have Q:Hid (u4.ownBlock≠some gi):=fun e=>by have:=(HO.out.lt _ e).2;omega
    have es:Hid (gi<w4.heap.size):=by
     have:=(Array.getElem?_eq_some_iff.1 bd).1;unfold Hid;omega
    rw[er]at bd ⊢;obtain⟨z0,z1,z2⟩:=bE bd;have ca:Hid (Ext p w4):=S.out.trans b8;have bh:=ca.out.size;clear a' b8 bd er y0 y1 y2 HO S;apply aI 10 (fun z G=>ChJ w4 p.heap.size u4 cm O (O++[cm]) (O++[cm]++am name.length) [] (z 4) (z 5) (z 9) none G) [false,false,false,false,true,true,false,false,false,true] [_,_,_,.int .u8 cm.toNat,undef,undef,_,_,_,undef] [none,none,none,none,none,none,none,none,none,none] [[],[],[1],[2],[3],[0,4],[],[6],[7],[5,8]] (by kernel_rfl) (by kernel_rfl) rfl
    .exact ChJ.start b'.out ⟨rfl,rfl,rfl,Nat.le_refl _,fun _ _=>rfl⟩
    .simp (maxSteps:=1000000)only[cY,cG,bP,cA,cN,List.getD_cons_zero,List.getD_cons_succ,Bool.false_eq_true,if_false,if_true,and_true,true_and,forall_const,Nat.zero_add,Nat.reduceAdd,List.take_succ_cons,List.take_zero,aa,Act.put,List.setIfInBounds_toArray,List.set_cons_zero,List.set_cons_succ];and_intros
     iterate 4 · intro t z F d;intros;rename_i A;have f0:=d.cell Q.out z0;have f1:=d.cell Q.out z1;go_simp;exact A _ _ d rfl
     .intro t z F d K r R A;rw[K]at d;go_simp;exact A _ _ d.Cp
     .intro t z F d K r R A;obtain⟨B,J⟩:=r;rw[K]at d;obtain⟨Z,G,hr,a3⟩:=d.CG J bh (by omega);apply cH (.tmp 38) (.tmp 42) 37 (v:=t 0) (xv:=t 4) (v':=Z) (w':=G)
      iterate 4
       .rfl
      .rw [B];exact hr
      .exact A _ _ a3
     iterate 3 · intro t z F d;intros;rename_i A;have f0:=d.cell Q.out z0;have f1:=d.cell Q.out z1;go_simp;exact A _ _ d rfl
     .intro t z F d K r R A;obtain⟨B,J⟩:=r;rw[K]at d;go_simp;exact(gq (t 5) (O++[cm]) name.length p.heap.size F (d.CO B) (Nat.le_trans bh d.size) (by simp;omega)).mono (by rintro e' G ⟨Z,rfl,T,h2,h3⟩;rw[iP _ (by unfold be;omega)]at T;exact⟨_,rfl,A _ _ (d.CM B T h2 h3)⟩)
    intro t w5 U r;simp only[cX,List.getD_cons_zero,List.getD_cons_succ,Bool.false_eq_true,if_false,if_true]at U;simp only[bU,Nat.zero_add,Nat.reduceAdd,and_true]at r;simp(maxSteps:=1000000)only[List.drop_succ_cons,List.drop_zero,Nat.zero_add,Nat.reduceAdd,List.take_succ_cons,List.take_zero,aa,Act.put,List.setIfInBounds_toArray,List.set_cons_zero,List.set_cons_succ,r];clear r;generalize t 4=x4 at *;generalize t 5=x5 at *;generalize t 9=x9 at *;have cb:Hid (Ow p.heap.size w5 x9 (O++[cm]++am name.length)):=U.CD rfl;have X:Hid (x9.ownBlock≠some gi):=fun e=>by
     rcases U.Dm rfl gi e with h | h
     .exact Q.out h
     .have:=es.out;omega
    have t1:=U.cell Q.out z1;have t2:=U.cell Q.out z2;have ev:Hid (Ext p w5):=Below.grown ca.out U.ext bh (fun k r=>(b'.out.lt k r).1);have cc:=ev.out.size;obtain⟨L1,bk⟩:∃l,O++[cm]++am name.length=l:=⟨_,rfl⟩;have fx:L1.length<=70000:=by
     have y:=bF (n:=name.length) (by unfold be;omega);rw[<-bk];simp only[List.length_append,List.length_cons,List.length_nil];omega
    have e8:Hid _:=bk;rw[bk]at cb;clear bk U z0 z1 z2 b' ca Q es bh;go_upto_region 13 with fail;apply aI 7 (fun z G=>ChJ w5 p.heap.size x9 0 L1 (L1++name) (L1++name++aQ id) [] none (z 3) (z 6) none G) [false,false,false,true,false,false,true] [_,_,_,undef,_,_,undef] [none,none,none,none,none,none,none] [[],[],[1],[0,2],[],[4],[3,5]] (by kernel_rfl) (by kernel_rfl) rfl
    .exact ChJ.start cb.out ⟨rfl,rfl,rfl,Nat.le_refl _,fun _ _=>rfl⟩
    .simp (maxSteps:=1000000)only[cY,cG,bP,cA,cN,List.getD_cons_zero,List.getD_cons_succ,Bool.false_eq_true,if_false,if_true,and_true,true_and,forall_const,Nat.zero_add,Nat.reduceAdd,List.take_succ_cons,List.take_zero,aa,Act.put,List.setIfInBounds_toArray,List.set_cons_zero,List.set_cons_succ];and_intros
     iterate 3 · intro t z F d;intros;rename_i A;have f1:=d.cell X.out t1;have f2:=d.cell X.out t2;go_simp;exact A _ _ d rfl
     .intro t z F d K r R A;obtain⟨B,J⟩:=r;rw[K]at d;obtain⟨Z,G,hr,a3⟩:=d.C1 cc (by omega) (by omega);apply et (.tmp 48) (.tmp 50) 37 9 (v:=t 0) (xv:=t 2) (v':=Z) (w':=G)
      iterate 4
       .rfl
      .rw [B,J];exact hr
      .exact A _ _ a3
     iterate 2 · intro t z F d;intros;rename_i A;have f1:=d.cell X.out t1;have f2:=d.cell X.out t2;go_simp;exact A _ _ d rfl
     .intro t z F d K r R A;obtain⟨B,J⟩:=r;rw[K]at d;go_simp;exact(lF (t 3) (L1++name) id p.heap.size F (d.CO B) (Nat.le_trans cc d.size) (by simp;omega) e6.out).mono (by rintro e' G ⟨Z,rfl,T,h2,h3⟩;exact⟨_,rfl,A _ _ (d.CM B T h2 h3)⟩)
    intro t w6 bl r;simp only[cX,List.getD_cons_zero,List.getD_cons_succ,Bool.false_eq_true,if_false,if_true]at bl;simp only[bU,Nat.zero_add,Nat.reduceAdd,and_true]at r;simp(maxSteps:=1000000)only[List.drop_succ_cons,List.drop_zero,Nat.zero_add,Nat.reduceAdd,List.take_succ_cons,List.take_zero,aa,Act.put,List.setIfInBounds_toArray,List.set_cons_zero,List.set_cons_succ,r];clear r;generalize t 3=x3 at *;generalize t 6=x6 at *;have fa:Hid (Ext p w6):=Below.grown ev.out bl.ext cc (fun k r=>(cb.out.lt k r).1);have fb:Hid (Ow p.heap.size w6 x6 ([2]++am b.length++(b.take (k+1)).flatMap bp)):=by
     have y:=bl.CD rfl;unfold Hid;rw[b5.out,e7.out];have e:[2]++am b.length++((b.take k).flatMap bp++([cm]++am name.length++(name++aQ id)))=L1++name++aQ id:=by
      rw[<-e8.out,<-b6.out];simp
     rw[e];exact y
    clear bl;go_wp2_with fail;go_roundw
    case rel=>exact⟨k+1,by omega,by go_num,fb,fa⟩
    case measure=>simp[intOf];omega
   .have ce:k=b.length:=by omega
    have fc:Hid (Ow p.heap.size wr u4 qb):=by
     have y:=HO.out;rw[ce,List.take_length]at y;unfold Hid;rw[au.out];exact y
    clear r;go_wp2;go_ret2;exact⟨⟨_,rfl,fc.out.mono E.out.size⟩,E.out.trans S.out⟩
  .have b4:av C=true/\((a.all av=true/\a.length<=2)/\((0<=j/\j<=1099511627776)/\((0<=g/\g<=255)/\H.length<=200))):=by
    have y:=Y.out;unfold bN at y;rw[if_neg (show ¬(3:Int)=1 by decide),if_neg (show ¬(3:Int)=2 by decide),if_pos rfl]at y;simp only[Bool.and_eq_true,dC,dM,decide_eq_true_eq]at y;exact⟨y.2.2.1,⟨y.2.2.2.1.1,y.2.2.2.1.2.2⟩,y.2.2.2.2.1,y.2.2.2.2.2.1,y.2.2.2.2.2.2.2⟩
   obtain⟨cl,⟨ex,e4⟩,⟨gc,gd⟩,⟨gf,gh⟩,gl⟩:=b4;have fe:Hid _:=cl;have ey:Hid _:=ex;obtain⟨cp,cn⟩:∃c,UInt8.ofNat a.length=c:=⟨_,rfl⟩;have gm:IntKind.u8.wrap (a.length:Int)=(cp.toNat:Int):=by
    rw[<-cn,IntKind.wrap_u8,UInt8.toNat_ofNat'];omega
   have au:Hid (qb=[3]++aQ C++[cp]++a.flatMap aQ++am j.toNat++am g.toNat++am H.length++H):=by
    unfold Hid;rw[N.out,<-cn];show UInt8.ofNat 3::(aQ C++(UInt8.ofNat a.length::(a.flatMap aQ++(am j.toNat++(am g.toNat++(am H.length++H))))))=_;simp
   have fz:=(gp cl).1;clear cl ex cn N;obtain⟨wL,bo⟩:∃wL,wL=p.alloc (.cells #[.int .u8 3] 5):=⟨_,rfl⟩;have a4:Ext p wL:=by rw[bo];exact(Ext.refl _).alloc _
   have L:Hid (Ow p.heap.size wL (.slice (some ⟨p.heap.size,0,none⟩) 1 1) [3]):=by rw[bo];exact World.ownsRow_lit p _ 1 (Nat.le_refl _) (by decide) rfl
   have ff:Hid (Ext p wL):=a4;have l3:=a4.cell d3;have l4:=a4.cell d4;have co:=a4.size;have bq:Hid ((Value.slice (some ⟨p.heap.size,0,none⟩) 1 1).ownBlock≠some gb):=fun e=>by
    simp only[Value.ownBlock,Option.some.injEq]at e;omega
   have fi:Hid _:=bo;clear a4 bo;go_upto_region 16 with fail;rw[<-fi.out];apply aI 10 (fun z G=>ChJ wL p.heap.size (.slice (some ⟨p.heap.size,0,none⟩) 1 1) cp [3] ([3]++aQ C) ([3]++aQ C++[cp]) [] (z 8) (z 3) (z 9) none G) [false,false,false,true,false,false,false,false,true,true] [_,_,_,undef,_,_,_,.int .u8 cp.toNat,undef,undef] [none,none,none,none,none,none,none,none,none,none] [[],[],[1],[0,2],[],[4],[5],[6],[7],[3,8]] (by kernel_rfl) (by kernel_rfl) rfl
   .exact ChJ.start L.out ⟨rfl,rfl,rfl,Nat.le_refl _,fun _ _=>rfl⟩
   .simp (maxSteps:=1000000)only[cY,cG,bP,cA,cN,List.getD_cons_zero,List.getD_cons_succ,Bool.false_eq_true,if_false,if_true,and_true,true_and,forall_const,Nat.zero_add,Nat.reduceAdd,List.take_succ_cons,List.take_zero,aa,Act.put,List.setIfInBounds_toArray,List.set_cons_zero,List.set_cons_succ];and_intros
    iterate 3 · intro t z F d;intros;rename_i A;have f3:=d.cell bq.out l3;have f4:=d.cell bq.out l4;go_simp;exact A _ _ d rfl
    .intro t z F d K r R A;obtain⟨B,J⟩:=r;rw[K]at d;go_simp;exact(lF _ [3] C p.heap.size F d.CN (Nat.le_trans co d.size) (by simp) fe.out).mono (by rintro e' G ⟨Z,rfl,T,h2,h3⟩;exact⟨_,rfl,A _ _ (d.CS T h2 h3)⟩)
    iterate 4 · intro t z F d;intros;rename_i A;have f3:=d.cell bq.out l3;have f4:=d.cell bq.out l4;go_simp;exact A _ _ d rfl
    .intro t z F d K r R A;rw[K]at d;go_simp;exact A _ _ d.Cp
    .intro t z F d K r R A;obtain⟨B,J⟩:=r;rw[K]at d;obtain⟨Z,G,hr,a3⟩:=d.CH J B co (by simp;omega);apply cH (.tmp 60) (.tmp 65) 37 (v:=t 3) (xv:=t 8) (v':=Z) (w':=G)
     iterate 4
      .rfl
     .exact hr
     .exact A _ _ a3
   intro t w2 br r;simp only[cX,List.getD_cons_zero,List.getD_cons_succ,Bool.false_eq_true,if_false,if_true]at br;simp only[bU,Nat.zero_add,Nat.reduceAdd,and_true]at r;simp(maxSteps:=1000000)only[List.drop_succ_cons,List.drop_zero,Nat.zero_add,Nat.reduceAdd,List.take_succ_cons,List.take_zero,aa,Act.put,List.setIfInBounds_toArray,List.set_cons_zero,List.set_cons_succ,r];clear r;generalize t 3=x3 at *;generalize t 8=x8 at *;generalize t 9=x9 at *;have a0:Hid (Ext p w2):=Below.grown ff.out br.ext co (fun k r=>(L.out.lt k r).1);have fj:Hid (Ow p.heap.size w2 x9 ([3]++aQ C++[cp])):=br.CD rfl;have m4:=a0.out.cell d4;clear br l3 l4;go_wp2_with fail;go_loopw [4,70] (fun v i wr=>∃k:Nat,k<=a.length/\i=.int .i64 k/\Hid (Ow p.heap.size wr v ([3]++aQ C++[cp]++(a.take k).flatMap aQ))/\Hid (Ext p wr)) (fun _ i _=>a.length - (intOf i).toNat)
   case atStart=>exact⟨0,Nat.zero_le _,rfl,by unfold Hid;simpa using fj.out,a0⟩
   case round =>
   obtain⟨k,r,rfl,HO,S⟩:=hrel;have bs:Hid (([3]++aQ C++[cp]++(a.take k).flatMap aQ).length<=1000):=by
    unfold Hid;have y:=kJ a k ey.out;simp only[List.length_append,List.length_cons,List.length_nil];omega
   by_cases a1:k<a.length
   .obtain ⟨x,hx⟩:∃x,a[k]? = some x:=⟨_,List.getElem?_eq_getElem a1⟩;obtain⟨bb,oo,fk,hc⟩:=cx.out k a1;subst fk;have y1:=S.out.cell (E.out.cell (hc k a1));rw[show a.getD k []=x by rw[List.getD_eq_getElem?_getD,hx];rfl]at y1;have fl:Hid (av x=true):=List.all_eq_true.1 ey.out x (List.mem_of_getElem? hx);have b5:Hid ((a.take (k+1)).flatMap aQ=(a.take k).flatMap aQ++aQ x):=by
     unfold Hid;rw[List.take_add_one,hx];simp
    have ad:=S.out.size;clear hx hc;go_wp2_with fail;go_at_call 144;refine(lF _ _ x p.heap.size wr HO.out ad (by have:=bs.out;omega) fl.out).mono ?_;rintro e9 w3 ⟨v3,rfl,D,eE,fn⟩;have a5:Hid (Ext p w3):=ai S.out HO.out eE;have bt:Hid (Ow p.heap.size w3 v3 ([3]++aQ C++[cp]++(a.take (k+1)).flatMap aQ)):=by
     unfold Hid;rw[b5.out,<-List.append_assoc];exact D
    clear D eE fn;go_wp2_with fail;go_roundw
    case rel=>exact⟨k+1,by omega,by go_num,bt,a5⟩
    case measure=>simp[intOf];omega
   .have ce:k=a.length:=by omega
    subst ce;rw[List.take_length]at HO bs;have n5:=S.out.cell d5;have n6:=S.out.cell d6;have n7:=S.out.cell d7;obtain⟨O,P⟩:∃l,[3]++aQ C++[cp]++a.flatMap aQ=l:=⟨_,rfl⟩;rw[P]at HO bs;have b6:Hid _:=P;have ec:=bs.out;have M:Hid (u4.ownBlock≠some gb):=fun e=>by have:=(HO.out.lt _ e).1;omega
    have ad:=S.out.size;have go:=bF (n:=j.toNat) (by unfold be;omega);have gr:=bF (n:=g.toNat) (by unfold be;omega);have gs:=bF (n:=H.length) (by unfold be;omega);clear P r;go_upto_region 22 with fail;apply aI 11 (fun z G=>ChJ wr p.heap.size u4 0 O (O++am j.toNat) (O++am j.toNat++am g.toNat) (O++am j.toNat++am g.toNat++am H.length) none (z 3) (z 6) (z 10) G) [false,false,false,true,false,false,true,false,false,false,true] [_,_,_,undef,_,_,undef,_,_,_,undef] [none,none,none,none,none,none,none,none,none,none,none] [[],[],[1],[0,2],[],[4],[3,5],[],[7],[8],[6,9]] (by kernel_rfl) (by kernel_rfl) rfl
    .exact ChJ.start HO.out ⟨rfl,rfl,rfl,Nat.le_refl _,fun _ _=>rfl⟩
    .simp (maxSteps:=1000000)only[cY,cG,bP,cA,cN,List.getD_cons_zero,List.getD_cons_succ,Bool.false_eq_true,if_false,if_true,and_true,true_and,forall_const,Nat.zero_add,Nat.reduceAdd,List.take_succ_cons,List.take_zero,aa,Act.put,List.setIfInBounds_toArray,List.set_cons_zero,List.set_cons_succ];and_intros
     iterate 3 · intro t z F d;intros;rename_i A;have f5:=d.cell M.out n5;have f6:=d.cell M.out n6;have f7:=d.cell M.out n7;go_simp;exact A _ _ d rfl
     .intro t z F d K r R A;obtain⟨B,J⟩:=r;rw[K]at d;go_simp;exact(gq _ O j p.heap.size F d.CN (Nat.le_trans ad d.size) (by omega)).mono (by rintro e' G ⟨Z,rfl,T,h2,h3⟩;rw[lY _ (by omega) (by unfold be;omega)]at T;exact⟨_,rfl,A _ _ (d.CS T h2 h3)⟩)
     iterate 2 · intro t z F d;intros;rename_i A;have f5:=d.cell M.out n5;have f6:=d.cell M.out n6;have f7:=d.cell M.out n7;go_simp;exact A _ _ d rfl
     .intro t z F d K r R A;obtain⟨B,J⟩:=r;rw[K]at d;go_simp;exact(gq _ (O++am j.toNat) g p.heap.size F (d.CO B) (Nat.le_trans ad d.size) (by simp only[List.length_append];omega)).mono (by rintro e' G ⟨Z,rfl,T,h2,h3⟩;rw[lY _ (by omega) (by unfold be;omega)]at T;exact⟨_,rfl,A _ _ (d.CM B T h2 h3)⟩)
     iterate 3 · intro t z F d;intros;rename_i A;have f5:=d.cell M.out n5;have f6:=d.cell M.out n6;have f7:=d.cell M.out n7;go_simp;exact A _ _ d rfl
     .intro t z F d K r R A;obtain⟨B,J⟩:=r;rw[K]at d;go_simp;exact(gq _ (O++am j.toNat++am g.toNat) H.length p.heap.size F (d.CD B) (Nat.le_trans ad d.size) (by simp only[List.length_append];omega)).mono (by rintro e' G ⟨Z,rfl,T,h2,h3⟩;rw[iP _ (by unfold be;omega)]at T;exact⟨_,rfl,A _ _ (d.DD B T h2 h3)⟩)
    intro t w3 bx r;simp only[cX,List.getD_cons_zero,List.getD_cons_succ,Bool.false_eq_true,if_false,if_true]at bx;simp only[bU,Nat.zero_add,Nat.reduceAdd,and_true]at r;simp(maxSteps:=1000000)only[List.drop_succ_cons,List.drop_zero,Nat.zero_add,Nat.reduceAdd,List.take_succ_cons,List.take_zero,aa,Act.put,List.setIfInBounds_toArray,List.set_cons_zero,List.set_cons_succ,r];clear r;generalize t 3=x3 at *;generalize t 6=x6 at *;generalize t 10=fr at *;have a5:Hid (Ext p w3):=Below.grown S.out bx.ext ad (fun k r=>(HO.out.lt k r).1);have D:=bx.CQ rfl;obtain⟨L3,bS⟩:∃l,O++am j.toNat++am g.toNat++am H.length=l:=⟨_,rfl⟩;have f8:L3.length<=1100:=by
     rw[<-bS];simp only[List.length_append];omega
    have fs:Hid _:=bS;rw[bS]at D;have bt:Hid (Ow p.heap.size w3 fr L3):=D;have q7:=a5.out.cell d7;have ft:=a5.out.size;clear bS D bx n5 n6 n7
    go_wp2_with (at_builtin;go_must (refine wy rfl _ _ rfl rfl p.heap.size _ L3 rfl bt.out H rfl (by omega) ft ?_;intro Z w4 cq fu gv))
    go_ret2;refine⟨⟨_,rfl,?_⟩,E.out.trans (ai a5.out bt.out fu)⟩;have y:=cq.mono E.out.size;rw[au.out,b6.out,fs.out];exact y
end
section
open Go Go.RowKit
def dd (m:Fs) (o:Ob):Fs×B8×Int:=if(aT o).2≠0 then(m,[],(aT o).2)else bM m (aT o).1
def bB (m:Fs) (id:B8):Fs×B8×Int :=
 if av id=false then(m,[],6)
 else if(aE m (ar id)).2.2≠0 then((aE m (ar id)).1,[],(aE m (ar id)).2.2)
 else if aV (aE m (ar id)).2.1.data≠id then((aE m (ar id)).1,[],5)
 else((aE m (ar id)).1,(aE m (ar id)).2.1.data,0)
def ch (n:Int) (id:B8):Int:=if av id=true then n+1 else n
def du (m:Fs) (id:B8):Fs×Int:=if av id=false then(m,6)else bz m (ar id)
def dZ (m:Fs):Fs×Int:=if(bz m bL).2≠7 then bz m bL else((bz m bL).1,0)
def kK (m:Fs) (id:B8):Bool:=decide ((bB m id).2.2=0)
end
section
open Go Go.RowKit
def fM (n:Int) (o:Ob):Int:=if(aT o).2=0 then fw n (aT o).1 else n
theorem ig (o:Ob):(aT o).1.length<=100000:=by
 unfold aT;split
 .rename_i c;obtain⟨i,j,b,k,a,e,d,g⟩:=o;have l:=kG c;unfold bN at c;dsimp only at l c ⊢;unfold ez lW;dsimp only;rcases l with rfl | rfl | rfl
  .rw [if_pos rfl]at c;simp only[Bool.and_eq_true,decide_eq_true_eq]at c;rw[if_pos rfl,List.length_cons];omega
  .rw [if_neg (show ¬(2:Int)=1 by decide),if_pos rfl]at c;simp only[Bool.and_eq_true,cC,List.all_eq_true,decide_eq_true_eq]at c;have h:=kI b b.length c.2.1.1;have p:=bF (n:=b.length) (by unfold be;omega);rw[List.take_length]at h;rw[if_neg (show ¬(2:Int)=1 by decide),if_pos rfl,List.length_cons,List.length_append];omega
  .rw [if_neg (show ¬(3:Int)=1 by decide),if_neg (show ¬(3:Int)=2 by decide),if_pos rfl]at c;simp only[Bool.and_eq_true,dC,dM,decide_eq_true_eq]at c;have h:=kJ a a.length c.2.2.2.1.1;have p:=(gp c.2.2.1).1;have q:=bF (n:=e.toNat) (by unfold be;omega);have r:=bF (n:=d.toNat) (by unfold be;omega);have t:=bF (n:=g.length) (by unfold be;omega);rw[List.take_length]at h;rw[if_neg (show ¬(3:Int)=1 by decide),if_neg (show ¬(3:Int)=2 by decide)];simp only[List.length_cons,List.length_append];omega
 .simp
theorem mY (o:Ob):(aT o).1.length<=140737488355328:=Nat.le_trans (ig o) (by decide)
variable [Inhabited bc] [KW:Inhabited cT]
variable {w0 w:World} {f:Value} {gs gc k:Nat} {m:Fs} {n:Int}
theorem mZ {S O:Nat->Prop} (v:Value) (o:Ob) (h:St w0 S O w f gs gc m n) (Y:Env w0) (Z:EnvS w0) (hg:Good k m) (hk:k<=79800) (M:0<=n) (N:n<=100000) (hv:IsOb w v o) (hs:dm o) :
  Calls Tryz.prog 32 #[.pointer (some ⟨gs,0,none⟩),v] w fun e w'=>∃(O':Nat->Prop) (n':Int),e=.returned (.tuple #[S8 (dd m o).2.1,.int .i64 (dd m o).2.2])/\n'=fM n o/\St w0 S O' w' f gs gc (dd m o).1 n':=by
 have H:Hid (St w0 S O w f gs gc m n):=h;have HE:Hid (Env w0):=Y;have HS:Hid (EnvS w0):=Z;have HG:Hid (Good k m):=hg;obtain⟨I,J,K,rfl,hd,hi,hp⟩:=hv;obtain⟨t,g⟩:∃t,t=w.alloc (.cells #[.int .i64 o.kind,I,J,S8 o.tree,K,.int .i64 o.BL,.int .i64 o.I,S8 o.msg] 41):=⟨_,rfl⟩;have c:Ext w t:=by rw[g];exact(Ext.refl _).alloc _
 have i:t.heap[w.heap.size]? = some (.cells #[.int .i64 o.kind,I,J,S8 o.tree,K,.int .i64 o.BL,.int .i64 o.I,S8 o.msg] 41 (0,0)):=by rw[g];exact ab _ _
 have d:Hid _:=mX (obV o I J K) o t ⟨I,J,K,rfl,hd.ext c,hi.ext c,hp.ext c⟩ hs;obtain⟨gb,P⟩:∃gb,w.heap.size=gb:=⟨_,rfl⟩;rw[P]at i;obtain⟨c0,c1,c2,c3,c4,c5,c6,c7⟩:=ag i;have Q:Hid (Ext w t):=c;have R:Hid _:=g;obtain⟨⟨b,j⟩,x⟩:∃q,aT o=q:=⟨_,rfl⟩;have y:dd m o=if j≠0 then(m,[],j)else bM m b:=by unfold dd;rw[x]
 have z:Hid _:=y;obtain⟨T,l⟩:∃q,fM n o=q:=⟨_,rfl⟩;have A:T=if j=0 then fw n b else n:=by rw[<-l];unfold fM;rw[x]
 have B:Hid _:=A;obtain⟨⟨m2,id,e2⟩,p⟩:∃q,dd m o=q:=⟨_,rfl⟩;have C:Hid _:=p;have D:b.length<=140737488355328:=by
  have L:=d.out;rw[x]at L
  by_cases h0:b.length<=140737488355328
  .exact h0
  .exfalso;have hb:(aT o).1.length<=140737488355328:=mY o;rw[x]at hb;exact h0 hb
 rw[x]at d;rw[p,l];unfold obV at d ⊢;clear h Y Z hg hd hi hp g c i y p x hs l A;go_enter Tryz.func32,Tryz.ntmps32;go_upto_region 1 with fail;rw[<-R.out];go_wp2_with fail;go_at_call 85;refine Calls.mono d.out ?_;rintro e9 w1 ⟨⟨u,rfl,U⟩,E⟩;have H1:Hid (St w0 S O w1 f gs gc m n):=H.out.more (Q.out.trans E);have HU:Hid (Arg w0 w1 u b):=.inr ⟨by unfold IsBytes;exact Row.BM U D,TypB.BM U⟩;clear E U d
 try dsimp only
 by_cases a:j=0
 .have F:(j==0)=true:=by simpa using a
  have V:Hid (bM m b=(m2,id,e2)):=by
   unfold Hid;rw[<-C.out,z.out,if_neg (by simpa using a)]
  have r:Hid (T=fw n b):=by unfold Hid;rw[B.out,if_pos a]
  have W:=iu u b H1.out HE.out HS.out HG.out hk M N HU.out D;rw[V.out]at W;have HC:Hid _:=W;clear W a;go_wp2_with fail;go_at_call 24;refine Calls.mono HC.out ?_;rintro e9 w2 ⟨O2,n2,rfl,hn,G⟩;have X:Hid _:=G;clear G HC;go_wp2;go_ret2;exact⟨O2,n2,rfl,hn.trans r.out.symm,X.out⟩
 .have F:(j==0)=false:=by simpa using a
  have r:Hid (T=n):=by unfold Hid;rw[B.out,if_neg a]
  obtain⟨rfl,rfl,rfl⟩:m=m2/\[]=id/\j=e2:=by
   have L:=z.out;rw[if_pos a,C.out]at L;have h8:=Prod.mk.inj L;have h7:=Prod.mk.inj h8.2;exact⟨h8.1.symm,h7.1.symm,h7.2.symm⟩
  clear a;go_wp2;go_ret2;exact⟨O,n,rfl,r.out.symm,H1.out⟩
theorem ji {S O:Nat->Prop} (id:B8) (h:St w0 S O w f gs gc m n) (hE:Env w0) (hS:EnvS w0) (hg:Good k m) (hk:k<=79800) (a2:0<=n) (a3:n<=100000) (hid:id.length<=10000000) :
  Calls Tryz.prog 35 #[.pointer (some ⟨gs,0,none⟩),S8 id] w fun e w'=>∃(v:Value) (O':Nat->Prop) (n':Int),e=.returned (.tuple #[v,.int .i64 (bB m id).2.2])/\(IsBytes w' v (bB m id).2.1/\TypB w' v)/\KeepB w w'/\n'=ch n id/\St w0 S O' w' f gs gc (bB m id).1 n':=by
 have H:Hid (St w0 S O w f gs gc m n):=h;have HE:Hid (Env w0):=hE;have HS:Hid (EnvS w0):=hS;have HG:Hid (Good k m):=hg;obtain⟨vb,J⟩:∃c,av id=c:=⟨_,rfl⟩;have g:Hid _:=J;obtain⟨⟨K,L,M⟩,t⟩:∃q,bB m id=q:=⟨_,rfl⟩;have u:Hid _:=t;rw[t];obtain⟨n2,y⟩:∃x,ch n id=x:=⟨_,rfl⟩;have N:Hid _:=y;rw[y];clear h hE hS hg t J y;go_enter Tryz.func35,Tryz.ntmps35;go_wp2_with fail;go_at_call 17;refine(fQ id w (by omega)).mono ?_;rw[g.out];rintro e9 w1 ⟨rfl,z⟩;have H1:Hid (St w0 S O w1 f gs gc m n):=H.out.more z;have P:Hid (KeepB w w1):=KeepB.BO z;clear z
 cases vb with
 | false =>
  obtain⟨rfl,rfl,rfl⟩:m=K/\[]=L/\6=M:=by
   have a:=u.out;unfold bB at a;rw[if_pos g.out]at a;have d:=Prod.mk.inj a;exact⟨d.1,(Prod.mk.inj d.2).1,(Prod.mk.inj d.2).2⟩
  have hn:n2=n:=by rw[<-N.out];unfold ch;rw[g.out];rfl
  go_wp2;go_ret2;exact⟨_,O,n,rfl,⟨IsBytes.nil _,TypB.nil _ _ _⟩,P.out,hn.symm,H1.out⟩
 | true =>
  have a7:id.length=64:=by
   have a:=g.out;unfold av at a
   cases hu:aW id with
   | none=>rw[hu]at a;cases a
   | some b =>
    rw[hu]at a;have d:=(dE id hu).1;have:b.length=32:=by simpa using a
    omega
  have hn:n2=n+1:=by rw[<-N.out];unfold ch;rw[g.out];rfl
  have HN:Hid _:=hn;obtain⟨⟨r,j,F⟩,hr⟩:∃q,aE m (ar id)=q:=⟨_,rfl⟩;have HR:Hid _:=hr;have Q:bB m id=if F≠0 then(r,[],F)else if aV j.data≠id then(r,[],5)else(r,j.data,0):=by
   unfold bB;rw[if_neg (by rw[g.out];simp),hr]
  have R:Hid _:=Q;have A:=pA id H1.out HE.out HG.out (by omega) a2 a3 (by omega);have T:=je (p:=ar id) HG.out.ok HG.out.plan;rw[hr]at A T;simp only at T;have U:Hid _:=A;clear hr A Q hn;go_wp2_with fail;go_at_call 75;refine Calls.mono U.out ?_;rintro e9 G ⟨v3,V,rfl,B,W,h3⟩;have X:Hid (KeepB w G):=P.out.trans W;have C:Hid _:=B;have H3:Hid (St w0 S V G f gs gc r (n+1)):=h3;have Y:=B.1;obtain⟨s3,t3,rfl,-⟩:=Y;clear W B h3 U
  try dsimp only
  by_cases i:F=0
  case neg =>
   have Z:(F==0)=false:=by simpa using i
   obtain⟨rfl,rfl,rfl⟩:r=K/\[]=L/\F=M:=by
    have a:=R.out;rw[u.out,if_pos i]at a;have d:=Prod.mk.inj a;exact⟨d.1.symm,(Prod.mk.inj d.2).1.symm,(Prod.mk.inj d.2).2.symm⟩
   clear i;go_wp2;go_ret2;exact⟨_,V,n+1,rfl,⟨IsBytes.nil _,TypB.nil _ _ _⟩,X.out,HN.out.symm,H3.out⟩
  have Z:(F==0)=true:=by simpa using i
  have l:Hid ((K,L,M)=if aV j.data≠id then(r,[],5)else(r,j.data,0)):=by
   unfold Hid;rw[<-u.out,R.out,if_neg (by simpa using i)]
  clear i;go_wp2_with fail;go_at_call 73;refine(jQ _ j.data G C.out.1 (by omega)).mono ?_;rintro e w4 ⟨⟨u1,rfl,ad⟩,au⟩;have a0:Hid _:=ad;have D:Hid (Ext G w4):=au;have a4:2<=G.heap.size:=by have:=H3.out.one.ext.size;have:=HS.out.two;omega
  clear ad au;go_wp2_with fail;go_at_call 74;refine(kz G w4 j.data u1 (EnvS.ext HS.out (H3.out.one.ext.trans D.out)) a4 D.out a0.out (by omega)).mono ?_;rintro e w5 ⟨rfl,o⟩;have H5:Hid (St w0 S V w5 f gs gc r (n+1)):=H3.out.more o;have a1:Hid (KeepB w w5):=X.out.trans (KeepB.BO o);have a5:Hid (IsBytes w5 (.slice s3 j.data.length t3) j.data/\TypB w5 (.slice s3 j.data.length t3)):=⟨IsBytes.ext C.out.1 o,C.out.2.keep (KeepB.BO o)⟩;clear o D a0;obtain⟨sx,E⟩:∃s,aV j.data=s:=⟨_,rfl⟩;rw[E]at l ⊢
  by_cases I:sx=id
  .have a6:(sx==id)=true:=by simpa using I
   obtain⟨rfl,rfl,rfl⟩:r=K/\j.data=L/\0=M:=by
    have a:=l.out;rw[if_neg (by simpa using I)]at a;have d:=Prod.mk.inj a;exact⟨d.1.symm,(Prod.mk.inj d.2).1.symm,(Prod.mk.inj d.2).2.symm⟩
   clear I E;go_wp2;go_ret2;exact⟨_,V,n+1,rfl,a5.out,a1.out,HN.out.symm,H5.out⟩
  .have a6:(sx==id)=false:=by simpa using I
   obtain⟨rfl,rfl,rfl⟩:r=K/\[]=L/\5=M:=by
    have a:=l.out;rw[if_pos I]at a;have d:=Prod.mk.inj a;exact⟨d.1.symm,(Prod.mk.inj d.2).1.symm,(Prod.mk.inj d.2).2.symm⟩
   clear I E;go_wp2;go_ret2;exact⟨_,V,n+1,rfl,⟨IsBytes.nil _,TypB.nil _ _ _⟩,a1.out,HN.out.symm,H5.out⟩
theorem rr {S O:Nat->Prop} (id:B8) (h:St w0 S O w f gs gc m n) (z:Env w0) (A:EnvS w0) (B:Good k m) (F:k<=79800) (l:0<=n) (o:n<=100000) (hid:id.length<=10000000) :
  Calls Tryz.prog 20 #[.pointer (some ⟨gs,0,none⟩),S8 id] w fun e C=>∃(O':Nat->Prop) (n':Int),e=.returned (.bool (kK m id))/\KeepB w C/\n'=ch n id/\St w0 S O' C f gs gc (bB m id).1 n':=by
 have j:Hid _:=ji id h z A B F l o hid;obtain⟨⟨J,K,p⟩,a⟩:∃q,bB m id=q:=⟨_,rfl⟩;have D:kK m id=decide (p=0):=by unfold kK;rw[a]
 rw[D];rw[a]at j ⊢;obtain⟨G,r⟩:∃b,(p==0)=b:=⟨_,rfl⟩;have d:decide (p=0)=G:=by rw[<-r];rfl
 obtain⟨L,c⟩:∃x,ch n id=x:=⟨_,rfl⟩;rw[d,c];rw[c]at j;clear D a h z A B d c;go_enter Tryz.func20,Tryz.ntmps20;go_wp2_with fail;go_at_call 35;refine Calls.mono j.out ?_;rintro M N ⟨v,H,I,rfl,-,g,E,i⟩;have t:Hid _:=i;have u:Hid _:=g;have y:Hid _:=E;clear i g E j;go_wp2;go_ret;exact⟨H,I,rfl,u.out,y.out,t.out⟩
theorem p8 {S O:Nat->Prop} (id:B8) (h:St w0 S O w f gs gc m n) (B:Env w0) (C:Good k m) (j:k<=79800) (hid:id.length<=10000000) :
  Calls Tryz.prog 42 #[.pointer (some ⟨gs,0,none⟩),S8 id] w fun e M=>∃(O':Nat->Prop),e=.returned (.int .i64 (du m id).2)/\St w0 S O' M f gs gc (du m id).1 n:=by
 have H:Hid (St w0 S O w f gs gc m n):=h;have N:Hid (Env w0):=B;have P:Hid (Good k m):=C;obtain⟨g,rfl⟩:∃g,f=.pointer (some ⟨g,0,none⟩):=by
  obtain⟨g,Y,Z,vp,vl,vu,L,c0,u,-⟩:=h.one.fs;exact⟨g,u⟩
 obtain⟨Q,l⟩:∃c,av id=c:=⟨_,rfl⟩;have d:Hid _:=l;obtain⟨⟨D,E⟩,i⟩:∃q,du m id=q:=⟨_,rfl⟩;have o:Hid _:=i;rw[i];clear h B C i l;go_enter Tryz.func42,Tryz.ntmps42;go_wp2_with fail;go_at_call 17;refine(fQ id w (by omega)).mono ?_;rw[d.out];rintro e9 F ⟨rfl,p⟩;have x:Hid (St w0 S O F (.pointer (some ⟨g,0,none⟩)) gs gc m n):=H.out.more p;clear p
 cases Q with
 | false =>
  obtain⟨rfl,rfl⟩:m=D/\6=E:=by
   have a:=o.out;unfold du at a;rw[if_pos d.out]at a;exact⟨(Prod.mk.inj a).1,(Prod.mk.inj a).2⟩
  go_wp2;go_ret;exact⟨O,rfl,x.out⟩
 | true =>
  have T:id.length=64:=by
   have a:=d.out;unfold av at a
   cases y:aW id with
   | none=>rw[y]at a;cases a
   | some b =>
    rw[y]at a;have h8:=(dE id y).1;have:b.length=32:=by simpa using a
    omega
  have z:Hid (bz m (ar id)=(D,E)):=by
   have a:=o.out;unfold du at a;rw[if_neg (by rw[d.out];simp)]at a;exact a
  have G:F.cell? ⟨gs,0,none⟩=some (.pointer (some ⟨g,0,none⟩)):=(cell_of_row _ _ 0 _ _ _ x.out.row).trans rfl;have U:(ar id).length<=400:=by unfold ar;simp;omega
  go_upto_region 3 with fail;apply aj 6 [_,_,_,.pointer (some ⟨g,0,none⟩),_,S8 (ar id)] [none,none,none,none,none,none] [[],[0],[1],[2],[],[4]] (by kernel_rfl) (by kernel_rfl) (by simp[ak])
  .trivial
  .simp (maxSteps:=1000000)only[List.take_succ_cons,List.take_zero,aw,aA,aa,Act.put,List.setIfInBounds_toArray,List.set_cons_zero,List.set_cons_succ,aK,aO,ak,List.getD_cons_zero,List.getD_cons_succ,and_true,true_and,forall_const];and_intros
   iterate 5 · intro I V J;intros;rename_i A;have f0:=J.cell G;go_simp;exact A _ _ (Ext.refl _) rfl
   .intro I V J j R A;go_simp;exact(iD id _ (by omega)).mono (by rintro e' w4 ⟨rfl,rfl⟩;exact⟨_,rfl,A _ _ (Ext.refl _) rfl⟩)
  intro I W r j;simp only[aP,Nat.zero_add,Nat.reduceAdd,and_true]at j;simp(maxSteps:=1000000)only[List.take_succ_cons,List.take_zero,List.drop_succ_cons,List.drop_zero,aa,Act.put,List.setIfInBounds_toArray,List.set_cons_zero,List.set_cons_succ,Nat.zero_add,Nat.reduceAdd,j];clear j;have K:Hid (St w0 S _ W (.pointer (some ⟨g,0,none⟩)) gs gc m n):=St.more x.out r;clear r G;go_wp2_with fail;go_at_call 93;refine(kx (ar id) (One.fin K.out.one N.out P.out (by omega)) (by omega)).mono ?_;rw[z.out];rintro e w6 ⟨rfl,t⟩;have X:Hid _:=St.post K.out t;clear t;go_wp2;go_ret;exact⟨_,rfl,X.out⟩
theorem oH {S O:Nat->Prop} (h:St w0 S O w f gs gc m n) (y:Env w0) (z:Good k m) (F:k<=79800) :
  Calls Tryz.prog 44 #[.pointer (some ⟨gs,0,none⟩)] w fun e C=>∃(O':Nat->Prop),e=.returned (.int .i64 (dZ m).2)/\St w0 S O' C f gs gc (dZ m).1 n:=by
 have H:Hid (St w0 S O w f gs gc m n):=h;have D:Hid (Env w0):=y;have E:Hid (Good k m):=z;obtain⟨g,rfl⟩:∃g,f=.pointer (some ⟨g,0,none⟩):=by
  obtain⟨g,G,I,J,K,M,L,N,r,-⟩:=h.one.fs;exact⟨g,r⟩
 have P:w.cell? ⟨gs,0,none⟩=some (.pointer (some ⟨g,0,none⟩)):=(cell_of_row _ _ 0 _ _ _ h.row).trans rfl;obtain⟨⟨p,d⟩,a⟩:∃q,bz m bL=q:=⟨_,rfl⟩;have t:Hid _:=a;have b:dZ m=if d≠7 then(p,d)else(p,0):=by unfold dZ;rw[a]
 obtain⟨⟨A,B⟩,j⟩:∃q,dZ m=q:=⟨_,rfl⟩;rw[j]at b ⊢;have l:Hid _:=b;clear h y z a j b;go_enter Tryz.func44,Tryz.ntmps44;go_wp2_with fail;go_at_call 93;refine(kx bL (One.fin H.out.one D.out E.out (by omega)) (by decide)).mono ?_;rw[t.out];rintro e Q ⟨rfl,o⟩;have u:Hid _:=St.post H.out o;clear o
 try dsimp only at u ⊢
 by_cases i:d=7
 .have x:(d==7)=true:=by simpa using i
  obtain⟨rfl,rfl⟩:p=A/\0=B:=by
   have c:=l.out;rw[if_neg (by simpa using i)]at c;exact⟨(Prod.mk.inj c).1.symm,(Prod.mk.inj c).2.symm⟩
  clear i;go_wp2;go_ret;exact⟨_,rfl,u.out⟩
 .have x:(d==7)=false:=by simpa using i
  obtain⟨rfl,rfl⟩:p=A/\d=B:=by
   have c:=l.out;rw[if_pos i]at c;exact⟨(Prod.mk.inj c).1.symm,(Prod.mk.inj c).2.symm⟩
  clear i;go_wp2;go_ret;exact⟨_,rfl,u.out⟩
end
section
open Go Go.RowKit
open Classical in
noncomputable abbrev ix (w:World) (O:Nat->Prop) (a b:Nat):Inhabited cT:=⟨⟨fun k=>if ¬O k/\k≠a/\k≠b then w.heap[k]? else none,w.heap.size⟩⟩
def FrS (O O':Nat->Prop) (a b:Nat) (w w':World):Prop:=∀k,k<w.heap.size->¬O k->k≠a->k≠b->w'.heap[k]? = w.heap[k]?/\¬O' k
section
variable {w0 w w':World} {S O O':Nat->Prop} {f:Value} {gs gc:Nat} {m m':Fs} {n n':Int}
end
section
variable [Inhabited bc] [KW:Inhabited cT] {w0 w w':World} {S O O':Nat->Prop} {f:Value} {gs gc:Nat} {m m':Fs} {n n':Int}
open Classical in
theorem St.DK (h:St w0 S O w f gs gc m n):St (KW:=ix w O gs gc) w0 S O w f gs gc m n :=
 St.mk (KW:=ix w O gs gc) h.one h.row h.BZ h.lo h.out (fun k o a=>by
  have a:(if ¬O k/\k≠gs/\k≠gc then w.heap[k]? else none)=some o:=a;split at a
  .rename_i b;exact⟨a,b⟩
  .cases a) (by
  unfold qT;split
  .exact Nat.zero_le _
  .exact Nat.le_refl _)
open Classical in
theorem St.low {c:World} {b:Nat} (e:b<w.heap.size) (g:¬O b/\b≠gs/\b≠gc) (h:St (KW:=ix w O gs gc) w0 S O' c f gs gc m' n'):w.heap.size<=c.heap.size:=by
 have a:=St.sz (KW:=ix w O gs gc) h;unfold qT at a;rw[if_neg (fun i=>by
  have d:(if ¬O b/\b≠gs/\b≠gc then w.heap[b]? else none)=none:=i b;rw[if_pos g,Array.getElem?_eq_getElem e]at d
  cases d)]at a
 exact a
open Classical in
theorem St.DO (b:∀k,cL k=none) (h:St (KW:=ix w O gs gc) w0 S O' w' f gs gc m' n'):FrS O O' gs gc w w'/\St w0 S O' w' f gs gc m' n':=by
 refine⟨fun k a d e g=>?_,St.mk (KW:=KW) (St.one (KW:=ix w O gs gc) h) (St.row (KW:=ix w O gs gc) h) (St.BZ (KW:=ix w O gs gc) h) (St.lo (KW:=ix w O gs gc) h) (St.out (KW:=ix w O gs gc) h) (fun k o a=>by rw[b]at a;cases a) (jA b _)⟩;have c:w.heap[k]? = some (w.heap[k]'a):=Array.getElem?_eq_getElem a;obtain⟨i,j,-⟩:=St.kp (KW:=ix w O gs gc) h k (w.heap[k]'a) (by
  show(if ¬O k/\k≠gs/\k≠gc then w.heap[k]? else none)=_;rw[if_pos ⟨d,e,g⟩,c])
 exact⟨i.trans c.symm,j⟩
end
end
section
open Go Go.RowKit
variable [Inhabited bc]
structure Sr (w0:World) (O:Nat->Prop) (w:World) (x:Value) (gy:Nat) (m:Fs) (n:Int):Prop where
 base:Ext ci w0
 ext:Ext w0 w
 ref:IsRef O (fun k=>k<w.heap.size) w x m
 lo:∀k,O k->w0.heap.size<=k/\k<w.heap.size
 row:w.heap[gy]? = some (.cells #[x,.int .i64 n] 36 (0,0))
 gl:w0.heap.size<=gy
 out:¬O gy
def SrPost (c:World) (O:Nat->Prop) (x:Value) (a:Nat) (m':Fs) (n':Int) (w w':World):Prop :=
 ∃b:Nat->Prop,Sr c b w' x a m' n'/\Fr (fun k=>O k\/k=a) w w'/\∀k,b k->O k\/w.heap.size<=k
section
variable {w0 w w1 w':World} {O:Nat->Prop} {x:Value} {gy:Nat} {m m' m1:Fs} {n n' n1:Int} {k:Nat}
theorem Sr.lt (h:Sr w0 O w x gy m n):gy<w.heap.size:=(Array.getElem?_eq_some_iff.1 h.row).1
theorem Sr.more (h:Sr w0 O w x gy m n) (a:Ext w w'):Sr w0 O w' x gy m n :=
 have c:=a.size
 ⟨h.base,h.ext.trans a,(h.ref.ext a).mono (fun _ h=>h) (fun k b=>Nat.lt_of_lt_of_le b c),fun k b=>⟨(h.lo k b).1,Nat.lt_of_lt_of_le (h.lo k b).2 c⟩,Ext.row a h.row,h.gl,h.out⟩
theorem Sr.BW (h:Sr w0 O w x gy m n) (a:Good k m) (b:k<=60000):RefIn O (fun k=>k<w.heap.size) w x m:=by
 have c:=a.time;have d:=a.calls;have e:=h.base.size;exact⟨h.ref,a.ok,a.plan,by omega,by omega,fun k b=>(h.lo k b).2,h.base.trans h.ext,fun k b=>by have:=(h.lo k b).1;omega,a.B4,a.B3⟩
theorem Sr.at (h:Sr w0 O w x gy m n) (b:RefPost O (fun k=>k<w.heap.size) w x m' w'):Sr w0 (Nw O w w') w' x gy m' n:=by
 have e:=b.fr.size;have d:=h.ext.size;have g:=h.lt;refine⟨h.base,Ext.B5 h.ext b.fr (fun k a=>(h.lo k a).1),b.fs.mono (fun _ h=>h) (fun k a=>by rcases a with a | a <;> omega),fun k a=>?_,b.fr.row h.row h.out,h.gl,fun c=>?_⟩
 .rcases a with a | a
  .have:=h.lo k a;omega
  .exact ⟨by omega,a.2⟩
 .rcases c with c | c
  .exact h.out c
  .omega
theorem Sr.but {b:Nat} (h:Sr w0 O w x gy m n) (g:w.grownBy w' (some b)) (j:w0.heap.size<=b) (l:¬O b) (o:¬IsU8 w b) (c:gy≠b):Sr w0 O w' x gy m n:=by
 have d:Fr (fun k=>k=b) w w':=Fr.BR g rfl o;have i:=d.size;exact⟨h.base,Ext.B5 h.ext d (fun k a=>by rw[a];exact j),(h.ref.other d (fun k a e=>l (e▸a))).mono (fun _ h=>h) (fun k a=>Nat.lt_of_lt_of_le a i),fun k a=>⟨(h.lo k a).1,Nat.lt_of_lt_of_le (h.lo k a).2 i⟩,aS g h.row c,h.gl,h.out⟩
theorem Sr.post (h:Sr w0 O w x gy m n) (b:RefPost O (fun k=>k<w.heap.size) w x m' w'):SrPost w0 O x gy m' n w w':=by
 have e:=b.fr.size;have d:=h.ext.size;have g:=h.lt;refine⟨Nw O w w',⟨h.base,Ext.B5 h.ext b.fr (fun k a=>(h.lo k a).1),b.fs.mono (fun _ h=>h) (fun k a=>by rcases a with a | a <;> omega),fun k a=>?_,b.fr.row h.row h.out,h.gl,fun c=>?_⟩,b.fr.mono (fun k a=>.inl a),fun k a=>?_⟩
 .rcases a with a | a
  .have:=h.lo k a;omega
  .exact ⟨by omega,a.2⟩
 .rcases c with c | c
  .exact h.out c
  .omega
 .rcases a with a | a
  .exact .inl a
  .exact .inr a.1
theorem SrPost.refl (h:Sr w0 O w x gy m n) (a:Ext w w'):SrPost w0 O x gy m n w w':=⟨O,h.more a,Fr.BO a,fun _ h=>.inl h⟩
theorem SrPost.trans {b:Nat->Prop} (c:Fr (fun k=>O k\/k=gy) w w1) (d:∀k,b k->O k\/w.heap.size<=k) (e:∀k,b k->k<w1.heap.size) (h:SrPost w0 b x gy m' n' w1 w'):SrPost w0 O x gy m' n' w w':=by
 obtain⟨g,i,j,l⟩:=h;have o:=c.size;refine⟨g,i,c.trans (j.mono (fun k a=>?_)),fun k a=>?_⟩
 .rcases a with a | a
  .rcases d k a with h | h
   .exact .inl (.inl h)
   .exact .inr ⟨h,e k a⟩
  .exact .inl (.inr a)
 .rcases l k a with h | h
  .exact d k h
  .exact .inr (by omega)
theorem SrPost.then (c:SrPost w0 O x gy m1 n1 w w1) (h:∀a,Sr w0 a w1 x gy m1 n1->SrPost w0 a x gy m' n' w1 w'):SrPost w0 O x gy m' n' w w':=by
 obtain⟨a,b,d,e⟩:=c;exact SrPost.trans d e (fun k g=>(b.lo k g).2) (h a b)
theorem SrPost.ext (a:SrPost w0 O x gy m1 n1 w w1) (b:Ext w1 w'):SrPost w0 O x gy m1 n1 w w':=a.then fun d c=>SrPost.refl c b
theorem SrPost.pre (b:Sr w0 O w x gy m n) (a:Ext w w1) (h:SrPost w0 O x gy m' n' w1 w'):SrPost w0 O x gy m' n' w w':=SrPost.trans (Fr.BO a) (fun k h=>.inl h) (fun k c=>Nat.lt_of_lt_of_le (b.lo k c).2 a.size) h
theorem SrPost.keep (h:SrPost w0 O x gy m' n' w w'):KeepB w w':=h.choose_spec.2.1.keep
theorem Sr.count (h:Sr w0 O w x gy m n) (d:w'.heap[gy]? = some (.cells #[x,.int .i64 n'] 36 (0,0))) (g:w.grownBy w' (some gy)):Sr w0 O w' x gy m n'/\Fr (fun k=>O k\/k=gy) w w':=by
 have i:¬IsU8 w gy:=ao h.row (by kernel_rfl);have b:Fr (fun k=>k=gy) w w':=Fr.BR g rfl i;have c:=b.size;exact⟨⟨h.base,Ext.B5 h.ext b (fun k a=>by rw[a];exact h.gl),(h.ref.other b (fun k a e=>h.out (e▸a))).mono (fun _ h=>h) (fun k a=>Nat.lt_of_lt_of_le a c),fun k a=>⟨(h.lo k a).1,Nat.lt_of_lt_of_le (h.lo k a).2 c⟩,d,h.gl,h.out⟩,b.mono (fun k a=>.inr a)⟩
end
theorem pK {u w:World} {O:Nat->Prop} {x:Value} {d:Nat} {m:Fs} {n:Int} {k:Nat} (path:B8) (h:Sr u O w x d m n) (hg:Good k m) (i:k<=60000) (hp:path.length<=400) (ad:0<=n) (au:n<=100000) :
  Calls Tryz.prog 82 #[.pointer (some ⟨d,0,none⟩),S8 path] w fun e T=>(∃v,e=.returned (.tuple #[fiV (aE m path).2.1 v,.int .i64 (aE m path).2.2])/\IsBytes T v (aE m path).2.1.data/\TypB T v)/\SrPost u O x d (aE m path).1 (n+1) w T:=by
 have H:Hid (Sr u O w x d m n):=h;have HG:Hid (Good k m):=hg;obtain⟨g,rfl⟩:∃g,x=.pointer (some ⟨g,0,none⟩):=h.ref.ptr;obtain⟨⟨m1,y,er⟩,U⟩:∃q,aE m path=q:=⟨_,rfl⟩;have HR:Hid _:=U;rw[U];have a0:IntKind.i64.wrap (n+1)=n+1:=IntWalk.i64_in _ (by omega);obtain⟨z,p⟩:∃z,z=w.alloc (.cells #[.int .i64 0,.slice none 0 0,.int .i64 0] 114):=⟨_,rfl⟩;have A:Ext w z:=by rw[p];exact(Ext.refl _).alloc _
 have B:z.heap[w.heap.size]? = some (.cells #[.int .i64 0,.slice none 0 0,.int .i64 0] 114 (0,0)):=by rw[p];exact ab _ _
 have S:Hid (Sr u O z (.pointer (some ⟨g,0,none⟩)) d m n):=h.more A;have G:Hid (Ext w z):=A;have I:Hid _:=B;have a1:=h.lt;have d1:z.cell? ⟨d,1,none⟩=some (.int .i64 n):=(cell_of_row _ _ 1 _ _ _ S.out.row).trans rfl;have r:=S.out.row;clear h hg U A B;go_enter Tryz.func82,Tryz.ntmps82;go_upto_region 1 with fail;rw[<-p];clear p;go_upto_region 2 with(refine af rfl 3 (.tmp 12) (.tmp 10) rfl d 1 rfl (.int .i64 (n+1)) rfl rfl 36 _ r (by simp) (by kernel_rfl) #[.pointer (some ⟨g,0,none⟩),.int .i64 (n+1)] (by simp) ?_;intro F J j);obtain⟨C,K⟩:=Sr.count S.out J j;have V:Hid (Sr u O F (.pointer (some ⟨g,0,none⟩)) d m (n+1)):=C;have L:Hid _:=K;have M:F.heap[w.heap.size]? = some (.cells #[.int .i64 0,.slice none 0 0,.int .i64 0] 114 (0,0)):=aS j I.out (by omega);have W:Hid _:=M;have d0:F.cell? ⟨d,0,none⟩=some (.pointer (some ⟨g,0,none⟩)):=(cell_of_row _ _ 0 _ _ _ V.out.row).trans rfl;clear d1 r J j C K M;go_wp2_with fail;go_at_call 102;refine(pE path (Sr.BW V.out HG.out i) hp).mono ?_;rw[HR.out];dsimp only;rintro e b ⟨⟨v,rfl,N⟩,l⟩;have C:=L.out.size;have a2:=G.out.size;have a3:=l.fr.size;have B:=(Array.getElem?_eq_some_iff.1 I.out).1;have D:¬Nw O F b w.heap.size:=fun E=>by
  rcases E with E | E
  .have:=(S.out.lo _ E).2;have:=(H.out.lo _ E).2;omega
  .omega
 have a:b.heap[w.heap.size]? = some (.cells #[.int .i64 0,.slice none 0 0,.int .i64 0] 114 (0,0)):=l.fr.row W.out (fun E=>D (.inl E));have P:Sr u (Nw O F b) b (.pointer (some ⟨g,0,none⟩)) d m1 (n+1):=Sr.at V.out l;have Q:¬IsU8 b w.heap.size:=ao a (by kernel_rfl);have a4:=H.out.lt;have a5:=H.out.ext.size;have X:Hid (∀t,SrPost u O (.pointer (some ⟨g,0,none⟩)) d m1 (n+1) w (b.setRow w.heap.size t)):=fun t=>by
  have c:=ae b w.heap.size t;refine⟨Nw O F b,P.but c (by omega) D Q (by omega),?_,fun k i=>?_⟩
  .have o:Fr (fun k=>O k\/k=d) w b:=((Fr.BO G.out).trans (L.out.mono (fun k i=>.inl i))).trans (l.fr.mono (fun k i=>.inl (.inl i)));refine⟨c.os.trans o.os,c.tape.trans o.tape,c.output.trans o.output,Nat.le_trans o.size c.size,fun k i hh=>?_⟩;rw[c.block k (by omega) (by simp;omega)];exact o.block k i hh
  .rcases i with i | i
   .exact .inl i
   .exact .inr (by omega)
 have Y:Hid (∀t,IsBytes (b.setRow w.heap.size t) v y.data/\TypB (b.setRow w.heap.size t) v):=fun t=>by
  have R:KeepB b (b.setRow w.heap.size t):=KeepB.BR (ae _ _ _) a (by kernel_rfl);exact⟨Row.B2 N.bytes N.typed R,N.typed.keep R⟩
 obtain⟨va,vc,rfl,-⟩:=id N.bytes;have Z:Hid _:=a;clear P Q D N l a d0;have a:=Z.out
 go_wp2_with (refine wpList_store_row rfl 114 (.tmp 4) (.tmp 19) rfl w.heap.size #[.int .i64 y.mode,.slice va y.data.length vc,.int .i64 y.time] rfl rfl 114 _ a ck rfl (by simp[Value.oneCell']) ?_)
 refine bodyPost_ret (bK rfl _ _ w.heap.size 114 #[.int .i64 y.mode,.slice va y.data.length vc,.int .i64 y.time] (0,0) _ (.int .i64 er) rfl rfl (setRow_heap _ _ _ _ _ _ a) Tryz.underlying114 ck) rfl ?_;exact⟨⟨_,rfl,Y.out _⟩,X.out _⟩
end
section
open Go Go.RowKit
variable [Inhabited bc]
structure lG (S O O' R:Nat->Prop) (w1:World) (f x:Value) (m m2:Fs):Prop where
 fin:FsIn S O R w1 f m
 BW:RefIn O' R w1 x m2
 B9:∀k,O k->¬O' k
 BU:∀k,S k->¬O' k
 high:∀k,O k->ci.heap.size<=k
structure Both (S O O' R:Nat->Prop) (w1:World) (f x:Value) (m' m2':Fs) (w:World):Prop where
 two:∃S1 O1 O1':Nat->Prop,IsFs S1 O1 (Nw R w1 w) w f m'/\IsRef O1' (Nw R w1 w) w x m2'/\(∀k,S1 k->(S k\/w1.heap.size<=k)/\k<w.heap.size/\¬O1 k/\¬O1' k)/\(∀k,O1 k->(O k\/w1.heap.size<=k)/\k<w.heap.size)/\(∀k,O1' k->(O' k\/w1.heap.size<=k)/\k<w.heap.size)/\(∀k,O1 k->¬O1' k)
 fr:Fr (fun k=>O k\/O' k) w1 w
def DJ (S O O' R:Nat->Prop) (b:World) (f x:Value) (m' a:Fs) (c d:Value->Prop):Option Value->Option Value->World->Prop
 | none,none,w=>Ext b w
 | some u,none,w=>c u/\FsPost S O R b f m' w
 | none,some v,w=>d v/\RefPost O' R b x a w
 | some u,some v,w=>c u/\d v/\Both S O O' R b f x m' a w
section
variable {S O O' R:Nat->Prop} {w1 w w':World} {f x:Value} {m m2 m' m2':Fs} {ef er:Value->Prop} {z1 z2:Option Value} {u v:Value}
theorem DJ.fr (h:DJ S O O' R w1 f x m' m2' ef er z1 z2 w):Fr (fun k=>O k\/O' k) w1 w:=by
 cases z1 <;> cases z2
 .exact Fr.BO h
 .exact h.2.fr.mono (fun k a=>.inr a)
 .exact h.2.fr.mono (fun k a=>.inl a)
 .exact h.2.2.fr
theorem DJ.row (h:DJ S O O' R w1 f x m' m2' ef er z1 z2 w) {k:Nat} {o:Obj} (a:w1.heap[k]? = some o) (b:¬O k) (c:¬O' k):w.heap[k]? = some o :=
 h.fr.row a (fun d=>d.elim b c)
variable {b:Value}
theorem DJ.bytes (h:DJ S O O' R w1 f x m' m2' ef er z1 z2 w) {l:B8} (a:IsBytes w1 b l) (c:TypB w1 b):IsBytes w b l:=Row.B2 a c h.fr.keep
theorem DJ.typed (h:DJ S O O' R w1 f x m' m2' ef er z1 z2 w) (a:TypB w1 b):TypB w b:=a.keep h.fr.keep
theorem lH {Q:Nat->Prop} (d:TypB w b) (_:∃a n c,b=.slice a n c):Out Q w b:=fun a n c e _=>.inr (d a n c e)
variable {p:Value}
theorem FsIn.other {S O R:Nat->Prop} (h:FsIn S O R w p m) {Q:Nat->Prop} (a:Fr Q w w') (c:∀k,O k->¬Q k) (d:∀k,S k->¬Q k) (e:NoG Q):FsIn S O R w' p m :=
 ⟨h.env.fr a e,h.fs.other a c d,h.ok,h.plan,h.time,h.calls,h.Ce,fun k b=>⟨(h.apart k b).1,Nat.lt_of_lt_of_le (h.apart k b).2 a.size⟩,fun k b=>Nat.lt_of_lt_of_le (h.low k b) a.size,h.B4,h.B3⟩
theorem RefIn.other {O R:Nat->Prop} (h:RefIn O R w p m) {Q:Nat->Prop} (a:Fr Q w w') (b:∀k,O k->¬Q k) (c:∀k,Q k->ci.heap.size<=k):RefIn O R w' p m :=
 ⟨h.fs.other a b,h.ok,h.plan,h.time,h.calls,fun k d=>Nat.lt_of_lt_of_le (h.low k d) a.size,Ext.B5 h.base a c,h.high,h.B4,h.B3⟩
theorem DJ.base (a:lG S O O' R w1 f x m m2) (b:Ext ci w1) (h:DJ S O O' R w1 f x m' m2' ef er z1 z2 w):Ext ci w:=Ext.B5 b h.fr (fun k c=>c.elim (a.high k) (a.BW.high k))
theorem DJ.fin (a:lG S O O' R w1 f x m m2) (b:NoG O') (h:DJ S O O' R w1 f x m' m2' ef er none z2 w):FsIn S O R w f m:=by
 cases z2
 .exact a.fin.ext h
 .exact a.fin.other h.2.fr a.B9 a.BU b
theorem DJ.BW (a:lG S O O' R w1 f x m m2) (h:DJ S O O' R w1 f x m' m2' ef er z1 none w):RefIn O' R w x m2:=by
 cases z1
 .exact a.BW.ext h
 .exact a.BW.other h.2.fr (fun k b c=>a.B9 k c b) a.high
theorem DJ.Ck (b:lG S O O' R w1 f x m m2) (h:DJ S O O' R w1 f x m' m2' ef er none z2 w) (g:ef u) (k:FsPost S O R w f m' w'):DJ S O O' R w1 f x m' m2' ef er (some u) z2 w':=by
 cases z2
 .exact ⟨g,FsPost.pre h k⟩
 .obtain ⟨n,h⟩:=h;have p:=h.fr.size;have o:=k.fr.size;refine⟨g,n,⟨S,Nw O w w',Nw O' w1 w,k.fs.mono (fun _ h=>h) (fun j a=>?_),(h.fs.other k.fr (fun j a i=>?_)).mono (fun _ h=>h) (fun j a=>?_),fun j a=>⟨.inl a,by have:=b.fin.apart j a;omega,fun c=>?_,fun c=>?_⟩,fun j a=>?_,fun j a=>?_,fun j e d=>?_⟩,?_⟩
  .rcases a with a | a
   .exact .inl a
   .exact .inr ⟨by omega,a.2⟩
  .rcases a with a | a
   .exact b.B9 j i a
   .have:=b.fin.low j i;omega
  .exact a.imp id (fun h=>⟨h.1,by omega⟩)
  .have l:=b.fin.apart j a;rcases c with c | c
   .exact l.1 c
   .omega
  .have l:=b.fin.apart j a;rcases c with c | c
   .exact b.BU j a c
   .omega
  .rcases a with a | a
   .have:=b.fin.low j a;exact⟨.inl a,by omega⟩
   .exact ⟨.inr (by omega),a.2⟩
  .rcases a with a | a
   .have:=b.BW.low j a;exact⟨.inl a,by omega⟩
   .exact ⟨.inr (by omega),by omega⟩
  .rcases e with e | e
   .rcases d with d | d
    .exact b.B9 j e d
    .have:=b.fin.low j e;omega
   .rcases d with d | d
    .have:=b.BW.low j d;omega
    .omega
  .exact (h.fr.mono (fun j a=>.inr a)).trans (k.fr.mono (fun j a=>.inl (.inl a)))
theorem DJ.Cm (b:lG S O O' R w1 f x m m2) (h:DJ S O O' R w1 f x m' m2' ef er z1 none w) (g:er v) (k:RefPost O' R w x m2' w'):DJ S O O' R w1 f x m' m2' ef er z1 (some v) w':=by
 cases z1
 .exact ⟨g,RefPost.pre h k⟩
 .obtain ⟨n,h⟩:=h;have p:=h.fr.size;have o:=k.fr.size;refine⟨n,g,⟨S,Nw O w1 w,Nw O' w w',(h.fs.other k.fr (fun j a i=>?_) b.BU).mono (fun _ h=>h) (fun j a=>?_),k.fs.mono (fun _ h=>h) (fun j a=>?_),fun j a=>⟨.inl a,by have:=b.fin.apart j a;omega,fun c=>?_,fun c=>?_⟩,fun j a=>?_,fun j a=>?_,fun j e d=>?_⟩,?_⟩
  .rcases a with a | a
   .exact b.B9 j a i
   .have:=b.BW.low j i;omega
  .exact a.imp id (fun h=>⟨h.1,by omega⟩)
  .rcases a with a | a
   .exact .inl a
   .exact .inr ⟨by omega,a.2⟩
  .have l:=b.fin.apart j a;rcases c with c | c
   .exact l.1 c
   .omega
  .have l:=b.fin.apart j a;rcases c with c | c
   .exact b.BU j a c
   .omega
  .rcases a with a | a
   .have:=b.fin.low j a;exact⟨.inl a,by omega⟩
   .exact ⟨.inr (by omega),by omega⟩
  .rcases a with a | a
   .have:=b.BW.low j a;exact⟨.inl a,by omega⟩
   .exact ⟨.inr (by omega),a.2⟩
  .rcases e with e | e
   .rcases d with d | d
    .exact b.B9 j e d
    .have:=b.fin.low j e;omega
   .rcases d with d | d
    .have:=b.BW.low j d;omega
    .omega
  .exact (h.fr.mono (fun j a=>.inl a)).trans (k.fr.mono (fun j a=>.inl (.inr a)))
theorem Both.same (b:lG S O O' R w1 f x m m2) (c:Ext w1 w):Both S O O' R w1 f x m m2 w :=
 ⟨⟨S,O,O',(b.fin.fs.ext c).mono (fun _ h=>h) (fun _ h=>.inl h),(b.BW.fs.ext c).mono (fun _ h=>h) (fun _ h=>.inl h),fun j a=>⟨.inl a,by have:=b.fin.apart j a;have:=c.size;omega,(b.fin.apart j a).1,b.BU j a⟩,fun j a=>⟨.inl a,by have:=b.fin.low j a;have:=c.size;omega⟩,fun j a=>⟨.inl a,by have:=b.BW.low j a;have:=c.size;omega⟩,b.B9⟩,Fr.BO c⟩
variable {w2 w3:World}
theorem Both.ext (h:Both S O O' R w1 f x m m2 w2) (b:Ext w2 w3):Both S O O' R w1 f x m m2 w3:=by
 obtain⟨⟨i,k,c,l,n,o,d,e,p⟩,q⟩:=h;have g:=b.size;exact⟨⟨i,k,c,(l.ext b).mono (fun _ h=>h) (fun _ h=>h.fst g),(n.ext b).mono (fun _ h=>h) (fun _ h=>h.fst g),fun j a=>by have:=o j a;exact⟨this.1,by omega,this.2.2⟩,fun j a=>⟨(d j a).1,by have:=(d j a).2;omega⟩,fun j a=>⟨(e j a).1,by have:=(e j a).2;omega⟩,p⟩,q.ext b⟩
theorem DJ.more (h:DJ S O O' R w1 f x m' m2' ef er z1 z2 w2) (a:Ext w2 w3):DJ S O O' R w1 f x m' m2' ef er z1 z2 w3:=by
 cases z1 <;> cases z2
 .exact Ext.trans h a
 .exact ⟨h.1,RefPost.ext h.2 a⟩
 .exact ⟨h.1,FsPost.ext h.2 a⟩
 .exact ⟨h.1,h.2.1,Both.ext h.2.2 a⟩
theorem DJ.start (h:Ext w1 w):DJ S O O' R w1 f x m' m2' ef er none none w:=h
end
end
section
open Go Go.RowKit
variable [Inhabited bc]
variable {w:World} {v:Value} {L:List Ev}
theorem ReadO.Di (h:ReadO w IsEvD v L) (b:Ext ci w):ReadB w v L:=by
 obtain⟨a,d,_,e⟩:=h;exact⟨a,d,e.imp (fun c x g=>g.read b)⟩
theorem ReadO.C5 {p:List Value->Ev->Prop} {w':World} (h:ReadO w p v L) (a:Ext w w'):ReadO w' p v L:=h.stay a.size (fun b k c=>a.block k (h.lt b k c))
theorem ReadO.DL (h:ReadO w IsEvI v L) (d:∀e∈L,e.path.length<=400):ReadO w IsEvD v L:=by
 obtain⟨a,g,j,k,l⟩:=h;exact⟨a,g,j,k,fun i c x n b=>(l i c x n b).up (d x (List.mem_of_getElem? b))⟩
def IsOpn (w:World) (cs:List Value) (o:Opn):Prop:=∃a b,cs=[.int .i64 o.kind,.int .i64 o.mode,.int .i64 o.keep,.int .i64 o.BN,S8 o.path,S8 o.dest,a,b]/\OldB a o.data/\ReadO w IsEvI b o.plan
def evW (n:Nat) (e:Ev):Nat:=min (n+min e.data.length 40000+min e.path.length 1000) 160000
def gW (a:List Ev):Bool:=decide (a.length<=60) && (a.all (fun e=>decide (e.path.length<=400)) && decide (a.foldl evW 0<=40000))
variable {k:Nat} {e:Ev}
theorem yE {l:List Ev} (h:l[k]? = some e):(l.take (k+1)).foldl evW 0=evW ((l.take k).foldl evW 0) e:=by
 have b:=(List.getElem?_eq_some_iff.1 h);obtain⟨a,rfl⟩:=b;rw[List.take_succ_eq_append_getElem a,List.foldl_append];rfl
theorem yF {l:List Ev} (h:l[k]? = some e) (b:(l.take k).all (fun e=>decide (e.path.length<=400))=true) (c:e.path.length<=400):(l.take (k+1)).all (fun e=>decide (e.path.length<=400))=true:=by
 obtain⟨a,rfl⟩:=(List.getElem?_eq_some_iff.1 h);rw[List.take_succ_eq_append_getElem a];simp only[List.all_append,b,List.all_cons,List.all_nil,Bool.and_true,Bool.true_and,decide_eq_true_eq];exact c
theorem AU {l:List Ev} (h:l[k]? = some e) (a:¬e.path.length<=400):gW l=false:=by
 have:l.all (fun e=>decide (e.path.length<=400))=false:=by
  rw[List.all_eq_false];exact⟨e,List.mem_of_getElem? h,by simpa using a⟩
 unfold gW;rw[this];simp
theorem p9 {l:List Ev} (X:ReadO w IsEvI v l) :
  Calls Tryz.prog 80 #[v] w fun e w'=>e=.returned (.bool (gW l))/\Ext w w':=by
 obtain⟨a,a0,rfl,h1,h2,h3,t⟩:=jz 7 (fun c x C=>C.length.1) (by omega) X;have H4:Hid _:=t;clear t X;go_enter Tryz.func80,Tryz.ntmps80;go_wp2;go_loopw [3,4] (fun n i wr=>∃k m:Nat,Ext w wr/\k<=l.length/\k<=60/\i=.int .i64 k/\n=.int .i64 m/\m<=160000/\(l.take k).foldl evW 0=m/\(l.take k).all (fun e=>decide (e.path.length<=400))=true) (fun _ i _=>l.length - (intOf i).toNat)
 case atStart=>exact⟨0,0,Ext.refl _,Nat.zero_le _,by omega,rfl,rfl,by omega,rfl,rfl⟩
 case round =>
  obtain⟨k,m,C,p,K,rfl,rfl,hm,g,h⟩:=hrel;have J:Hid _:=C;have Y:Hid _:=g;have Z:Hid _:=h;clear g h
  by_cases M:k<l.length
  .by_cases a1:k<60
   .obtain ⟨E,N⟩:∃e,l[k]? = some e:=⟨_,List.getElem?_eq_getElem M⟩;obtain⟨b,o,cs,rfl,O,P⟩:=H4.out k E N;obtain⟨vd,rfl,Q⟩:=O;obtain⟨s1,s2,rfl,-⟩:=id Q.bytes;have A:=C.cell (P 5 _ rfl);have B:=C.cell (P 6 _ rfl);have R:Hid _:=N;have a2:=Q.bytes.len;obtain⟨j,D⟩:∃j,min E.data.length 40000=j:=⟨_,rfl⟩;obtain⟨q,F⟩:∃q,min E.path.length 1000=q:=⟨_,rfl⟩;obtain⟨r,G⟩:∃r,min (m+j+q) 160000=r:=⟨_,rfl⟩;have a3:min (E.data.length:Int) 40000=(j:Int):=by omega
    have a4:min (E.path.length:Int) 1000=(q:Int):=by omega
    have a5:min ((m:Int)+j+q) 160000=(r:Int):=by omega
    have ad:j<=40000:=by omega
    have au:q<=1000:=by omega
    have S:r<=160000:=by omega
    have a6:IntKind.i64.wrap ((m:Int)+(j:Int))=(m:Int)+j:=IntWalk.i64_in _ (by omega);have a7:IntKind.i64.wrap ((m:Int)+(j:Int)+(q:Int))=(m:Int)+j+q:=IntWalk.i64_in _ (by omega);have HN:Hid (evW m E=r):=by unfold Hid evW;rw[D,F,G]
    clear Q N D F G P
    by_cases t:E.path.length<=400
    .have T:¬(400:Int)<(E.path.length:Int):=by omega
     have u:Hid _:=t;clear t;go_wp2_with fail;apply aj 18 [_,_,_,_,_,_,_,_,_,_,_,_,_,_,_,_,_,.int .i64 r] [none,none,none,none,none,none,none,none,none,none,none,none,none,none,none,none,none,none] [[],[],[],[1,2],[3],[4],[5],[6],[0,7],[],[],[9,10],[11],[12],[13],[14],[8,15],[16]] (by kernel_rfl) (by kernel_rfl) (by simp[ak])
     .trivial
     .simp (maxSteps:=1000000)only[List.take_succ_cons,List.take_zero,aw,aA,aa,Act.put,List.setIfInBounds_toArray,List.set_cons_zero,List.set_cons_succ,aK,aO,ak,List.getD_cons_zero,List.getD_cons_succ,and_true,true_and,forall_const];and_intros
      iterate 18 · intro U wq H;intros;rename_i V;have f5:=H.cell A;have f6:=H.cell B;go_simp;exact V _ _ (Ext.refl _) rfl
     intro U w2 d p;simp only[aP,Nat.zero_add,Nat.reduceAdd,and_true]at p;simp(maxSteps:=1000000)only[List.take_succ_cons,List.take_zero,List.drop_succ_cons,List.drop_zero,aa,Act.put,List.setIfInBounds_toArray,List.set_cons_zero,List.set_cons_succ,Nat.zero_add,Nat.reduceAdd,p];clear p;have y:=Ext.trans J.out d;replace A:=d.cell A;replace B:=d.cell B;go_wp2;go_roundw
     case rel=>exact⟨k+1,r,y,by omega,by omega,by go_num,rfl,S,by rw[yE R.out,Y.out,HN.out],yF R.out Z.out u.out⟩
     case measure=>simp[intOf];omega
    .have T:(400:Int)<(E.path.length:Int):=by omega
     have u:Hid _:=AU R.out t;clear t;go_wp2_with fail;apply aj 18 [_,_,_,_,_,_,_,_,_,_,_,_,_,_,_,_,_,.int .i64 r] [none,none,none,none,none,none,none,none,none,none,none,none,none,none,none,none,none,none] [[],[],[],[1,2],[3],[4],[5],[6],[0,7],[],[],[9,10],[11],[12],[13],[14],[8,15],[16]] (by kernel_rfl) (by kernel_rfl) (by simp[ak])
     .trivial
     .simp (maxSteps:=1000000)only[List.take_succ_cons,List.take_zero,aw,aA,aa,Act.put,List.setIfInBounds_toArray,List.set_cons_zero,List.set_cons_succ,aK,aO,ak,List.getD_cons_zero,List.getD_cons_succ,and_true,true_and,forall_const];and_intros
      iterate 18 · intro U wq H;intros;rename_i V;have f5:=H.cell A;have f6:=H.cell B;go_simp;exact V _ _ (Ext.refl _) rfl
     intro U w2 d p;simp only[aP,Nat.zero_add,Nat.reduceAdd,and_true]at p;simp(maxSteps:=1000000)only[List.take_succ_cons,List.take_zero,List.drop_succ_cons,List.drop_zero,aa,Act.put,List.setIfInBounds_toArray,List.set_cons_zero,List.set_cons_succ,Nat.zero_add,Nat.reduceAdd,p];clear p;have y:=Ext.trans J.out d;replace A:=d.cell A;replace B:=d.cell B;go_wp2;go_ret;exact⟨by rw[u.out];rfl,y⟩
   .have z:k=60:=by omega
    subst z;have I:¬(l.length:Int)<=60:=by omega
    have W:Hid (gW l=false):=by
     unfold Hid gW;rw[decide_eq_false (by omega)];rfl
    go_wp2;go_ret;exact⟨by rw[W.out];rfl,J.out⟩
  .have z:k=l.length:=by omega
   subst z;have g:=Y.out;have h:=Z.out;rw[List.take_length]at g h;have I:(l.length:Int)<=60:=by omega
   have W:Hid (gW l=decide ((m:Int)<=40000)):=by
    unfold Hid gW;rw[decide_eq_true K,h,g];simp only[Bool.true_and,decide_eq_decide];omega
   clear g h;go_wp2;go_ret;exact⟨by rw[W.out];rfl,J.out⟩
def opW (n:Nat) (o:Opn):Nat:=min (n+min o.data.length 40000) 160000
def gM (o:Opn):Bool:=gW o.plan && (decide (o.path.length<=400) && decide (o.dest.length<=400))
def eb (l:List Opn):Bool:=decide (l.length<=100) && (l.all gM && decide (l.foldl opW 0<=40000))
variable {l:List Opn}
theorem yG {e:Opn} (h:l[k]? = some e):(l.take (k+1)).foldl opW 0=opW ((l.take k).foldl opW 0) e:=by
 obtain⟨a,rfl⟩:=(List.getElem?_eq_some_iff.1 h);rw[List.take_succ_eq_append_getElem a,List.foldl_append];rfl
theorem wA {e:Opn} (h:l[k]? = some e) (b:(l.take k).all gM=true) (c:gM e=true):(l.take (k+1)).all gM=true:=by
 obtain⟨a,rfl⟩:=(List.getElem?_eq_some_iff.1 h);rw[List.take_succ_eq_append_getElem a];simp only[List.all_append,b,List.all_cons,List.all_nil,Bool.and_true,Bool.true_and,c]
theorem oI {e:Opn} (h:l[k]? = some e) (a:gM e=false):eb l=false:=by
 have:l.all gM=false:=by
  rw[List.all_eq_false];exact⟨e,List.mem_of_getElem? h,by simpa using a⟩
 unfold eb;rw[this];simp
theorem IsOpn.length {cs:List Value} {o:Opn} (h:IsOpn w cs o):cs.length=8/\cs.all (·.oneCell')=true:=by
 obtain⟨c,d,rfl,a,b⟩:=h;obtain⟨_,_,rfl,_⟩:=a.bytes;obtain⟨_,⟨_,_,rfl,_⟩,_⟩:=b;exact⟨rfl,by simp[Value.oneCell']⟩
abbrev uv (w:World) (v:Value) (l:List Opn):Prop:=ReadO w (IsOpn w) v l
theorem wC (h:uv w v l):∃a d,v=.slice a l.length d/\l.length<=d/\l.length<=140737488355328/\d<=9223372036854775807 /\
  ∀(k:Nat) x,l[k]? = some x->∃b o g,a=some ⟨b,o,none⟩/\IsOpn w g x/\∀j u,g[j]? = some u->w.cell? ⟨b,o+k*8+j,none⟩=some u :=
 jz 8 (fun c x i=>i.length.1) (by omega) h
theorem uw {U:World} (z:Ext U w) (V:uv U v l) :
  Calls Tryz.prog 27 #[v] w fun e w'=>e=.returned (.bool (eb l))/\Ext w w':=by
 obtain⟨a,au,rfl,h1,h2,h3,W⟩:=wC V;have H4:Hid _:=W;have I:Hid _:=z;clear W V z;go_enter Tryz.func27,Tryz.ntmps27;go_wp2;go_loopw [3,4] (fun n i wr=>∃k m:Nat,Ext w wr/\k<=l.length/\k<=100/\i=.int .i64 k/\n=.int .i64 m/\m<=160000/\(l.take k).foldl opW 0=m/\(l.take k).all gM=true) (fun _ i _=>l.length - (intOf i).toNat)
 case atStart=>exact⟨0,0,Ext.refl _,Nat.zero_le _,by omega,rfl,rfl,by omega,rfl,rfl⟩
 case round =>
  obtain⟨k,m,J,hk,K,rfl,rfl,hm,c,d⟩:=hrel;have X:Hid _:=J;have Y:Hid _:=c;have Z:Hid _:=d;clear c d
  by_cases M:k<l.length
  .by_cases a0:k<100
   .obtain ⟨E,N⟩:∃e,l[k]? = some e:=⟨_,List.getElem?_eq_getElem M⟩;obtain⟨b,o,cs,rfl,O,A⟩:=H4.out k E N;obtain⟨vd,vp,rfl,P,r⟩:=O;obtain⟨s1,s2,rfl,-⟩:=id P.bytes;obtain⟨_,⟨p1,p2,rfl,-⟩,-⟩:=id r;have g:=Ext.trans I.out J;have c4:=g.cell (A 4 _ rfl);have c5:=g.cell (A 5 _ rfl);have c6:=g.cell (A 6 _ rfl);have c7:=g.cell (A 7 _ rfl);have Q:Hid _:=ReadO.C5 r g;have B:Hid _:=N;have a1:=P.bytes.len;obtain⟨x,C⟩:∃x,min E.data.length 40000=x:=⟨_,rfl⟩;obtain⟨y,D⟩:∃y,min (m+x) 160000=y:=⟨_,rfl⟩;have a2:min (E.data.length:Int) 40000=(x:Int):=by omega
    have a3:min ((m:Int)+x) 160000=(y:Int):=by omega
    have ad:x<=40000:=by omega
    have R:y<=160000:=by omega
    have HN:Hid (opW m E=y):=by unfold Hid opW;rw[C,D]
    obtain⟨S,F⟩:∃S,gW E.plan=S:=⟨_,rfl⟩;have t:Hid _:=F;clear P N C D A r g F;go_wp2_with fail;go_at_call 80;refine(p9 Q.out).mono ?_;rw[t.out];rintro e w2 ⟨rfl,j⟩;replace c4:=j.cell c4;replace c5:=j.cell c5;replace c6:=j.cell c6;have q:=J.trans j
    cases S with
    | false =>
     have h:Hid (eb l=false):=oI B.out (by unfold gM;rw[t.out];rfl);go_wp2;go_ret;exact⟨an h.out.symm,q⟩
    | true =>
     by_cases hp:(400:Int)<(E.path.length:Int)
     .have h:Hid (eb l=false):=oI B.out (by unfold gM;rw[decide_eq_false (by omega)];simp);go_wp2;go_ret;exact⟨an h.out.symm,q⟩
     .by_cases hq:(400:Int)<(E.dest.length:Int)
      .have h:Hid (eb l=false):=oI B.out (by unfold gM;rw[decide_eq_false (p:=E.dest.length<=400) (by omega)];simp);go_wp2;go_ret;exact⟨an h.out.symm,q⟩
      .have G:Hid (gM E=true):=by unfold Hid gM;rw[t.out,decide_eq_true (by omega),decide_eq_true (by omega)];rfl
       go_wp2;go_roundw
       case rel=>exact⟨k+1,y,q,by omega,by omega,by go_num,rfl,R,by rw[yG B.out,Y.out,HN.out],wA B.out Z.out G.out⟩
       case measure=>simp[intOf];omega
   .have u:k=100:=by omega
    subst u;have H:¬(l.length:Int)<=100:=by omega
    have T:Hid (eb l=false):=by
     unfold Hid eb;rw[decide_eq_false (by omega)];rfl
    go_wp2;go_ret;exact⟨an T.out.symm,X.out⟩
  .have u:k=l.length:=by omega
   subst u;have c:=Y.out;have d:=Z.out;rw[List.take_length]at c d;have H:(l.length:Int)<=100:=by omega
   have T:Hid (eb l=decide ((m:Int)<=40000)):=by
    unfold Hid eb;rw[decide_eq_true K,d,c];simp only[Bool.true_and,decide_eq_decide];omega
   clear c d;go_wp2;go_ret;exact⟨an T.out.symm,X.out⟩
theorem Ao (h:eb l=true) (g:∀o∈l,I64 o.keep/\I64 o.BN/\∀e∈o.plan,I64 e.keep/\I64 e.BN):l.length<=100/\∀o∈l,jR o:=by
 unfold eb at h;simp only[Bool.and_eq_true,decide_eq_true_eq,List.all_eq_true]at h;refine⟨h.1,fun o d=>?_⟩;have a:=h.2.1 o d;unfold gM gW at a;simp only[Bool.and_eq_true,decide_eq_true_eq,List.all_eq_true]at a;have b:=g o d;exact⟨a.2.1,a.2.2,a.1.1,fun e c=>⟨(b.2.2 e c).1,(b.2.2 e c).2,a.1.2.1 e c⟩,b.1,b.2.1⟩
end
section
open Go Go.RowKit
theorem wD {a:World} (b:Env a):2<a.heap.size:=by
 obtain⟨m,c⟩:=b.Dd;exact World.block_lt_of_cell? _ _ c
variable [Inhabited bc]
structure Two2 (w0:World) (S O O':Nat->Prop) (w:World) (f x:Value) (m m2:Fs):Prop where
 base:Ext ci w0
 ext:Ext w0 w
 fs:IsFs S O (fun k=>k<w.heap.size) w f m
 ref:IsRef O' (fun k=>k<w.heap.size) w x m2
 lo:∀k,O k->w0.heap.size<=k/\k<w.heap.size
 Cn:∀k,O' k->w0.heap.size<=k/\k<w.heap.size
 Cc:∀k,S k->w0.heap.size<=k/\k<w.heap.size
 B9:∀k,O k->¬O' k
 BU:∀k,S k->¬O k/\¬O' k
abbrev Two (a:World) (S O O':Nat->Prop) (w:World) (f x:Value) (m:Fs):Prop:=Two2 a S O O' w f x m m
def oJ (e:World) (S O O':Nat->Prop) (f x:Value) (m' b:Fs) (w w':World):Prop:=∃c d a:Nat->Prop,Two2 e c d a w' f x m' b/\(∀k,c k\/d k\/a k->(S k\/O k\/O' k)\/w.heap.size<=k)/\Fr (fun k=>O k\/O' k) w w'
def wE (c:World) (S O O':Nat->Prop) (f x:Value) (m d m' a:Fs) (w:World) (e:Ending) (w':World):Prop:=(∃b:Bool,e=.returned (.bool b)/\(m=d->b=true))/\oJ c S O O' f x m' a w w'
def yH (a:World) (S O O':Nat->Prop) (f x:Value) (m':Fs) (w:World) (e:Ending) (w':World):Prop:=e=.returned (.bool true)/\oJ a S O O' f x m' m' w w'
section
variable {w0 w w1:World} {S O O':Nat->Prop} {f x:Value} {m m2:Fs} {n:Nat}
theorem Two2.Ce (h:Two2 w0 S O O' w f x m m2) (b:Env w0):NoG O/\NoG O':=by
 have:=wD b;exact⟨fun k a e=>by have:=h.lo k a;omega,fun k a e=>by have:=h.Cn k a;omega⟩
theorem Two2.pair (h:Two2 w0 S O O' w f x m m2) (e:Env w0) (d:Good n m) (a:Good n m2) (i:n<=60000) (c:Ext w w1):lG S O O' (fun k=>k<w.heap.size) w1 f x m m2:=by
 have j:=d.time;have l:=d.calls;have g:=h.Ce e;exact⟨⟨(e.ext h.ext).ext c,h.fs.ext c,d.ok,d.plan,by omega,by omega,g.1,fun k b=>⟨(h.BU k b).1,by have:=h.Cc k b;have:=c.size;omega⟩,fun k b=>by have:=h.lo k b;have:=c.size;omega,d.B4,d.B3⟩,
  ⟨h.ref.ext c,a.ok,a.plan,by have:=a.time;omega,by have:=a.calls;omega,fun k b=>by have:=h.Cn k b;have:=c.size;omega,(h.base.trans h.ext).trans c,fun k b=>by have:=h.Cn k b;have:=h.base.size;omega,a.B4,a.B3⟩,h.B9,fun k b=>(h.BU k b).2,fun k b=>by have:=h.lo k b;have:=h.base.size;omega⟩
theorem Two2.done {m' p:Fs} {i j:World} {q:Value} (h:Two2 w0 S O O' w f x m m2) (H:Ext w w1) (M:Both S O O' (fun k=>k<w.heap.size) w1 f x m' p i) (C:∀k,q.ownBlock=some k->w.heap.size<=k/\k<w1.heap.size) (r:i.grownBy j q.ownBlock) :
  oJ w0 S O O' f x m' p w j:=by
 obtain⟨⟨I,D,l,N,P,B,o,d,t⟩,u⟩:=M;have Q:=H.size;have R:=u.size;have y:=r.size;have z:∀k,k<i.heap.size->((k<w.heap.size)\/w1.heap.size<=k)->j.heap[k]? = i.heap[k]?:=fun k b J=>r.block k b (fun e=>by
  have:=C k e.symm;omega)
 have K:KeepR (Nw (fun k=>k<w.heap.size) w1 i) i j:=⟨y,fun k b J=>z k J.lt (b.imp id (fun h=>h.1))⟩;have T:∀k,D k->k<w.heap.size\/w1.heap.size<=k:=fun k b=>(o k b).1.imp (fun c=>(h.lo k c).2) id
 have E:∀k,l k->k<w.heap.size\/w1.heap.size<=k:=fun k b=>(d k b).1.imp (fun c=>(h.Cn k c).2) id
 have U:∀k,I k->k<w.heap.size\/w1.heap.size<=k:=fun k b=>(B k b).1.imp (fun c=>(h.Cc k c).2) id
 have F:=(N.stay (fun k b A=>z k A (T k b)) (fun k b A=>z k A (U k b)) K).mono (O':=D) (R':=fun k=>k<j.heap.size) (fun k b=>b) (fun k b=>by rcases b with b | b <;> omega);have G:=(P.stay (fun k b A=>z k A (E k b)) K).mono (O':=l) (R':=fun k=>k<j.heap.size) (fun k b=>b) (fun k b=>by rcases b with b | b <;> omega);have g:Fr (fun k=>O k\/O' k) w j:=by
  have a:Fr (fun k=>O k\/O' k) w i:=(Fr.BO H).trans (u.mono (fun k b=>.inl b));refine⟨r.os.trans a.os,r.tape.trans a.tape,r.output.trans a.output,Nat.le_trans a.size y,fun k b V=>?_⟩;exact(z k (by omega) (.inl b)).trans (a.block k b V)
 refine⟨I,D,l,⟨h.base,?_,F,G,fun k b=>?_,fun k b=>?_,fun k b=>?_,t,fun k b=>?_⟩,fun k b=>?_,g⟩
 .exact Ext.B5 h.ext g (fun k b=>b.elim (fun c=>(h.lo k c).1) (fun c=>(h.Cn k c).1))
 .have:=o k b;have L:=h.ext.size;exact⟨by rcases this.1 with c | c;exact(h.lo k c).1;omega,by omega⟩
 .have:=d k b;have L:=h.ext.size;exact⟨by rcases this.1 with c | c;exact(h.Cn k c).1;omega,by omega⟩
 .have:=B k b;have L:=h.ext.size;exact⟨by rcases this.1 with c | c;exact(h.Cc k c).1;omega,by omega⟩
 .exact (B k b).2.2
 .rcases b with b | b | b
  .exact (B k b).1.imp (fun h=>.inl h) (fun h=>by omega)
  .exact (o k b).1.imp (fun h=>.inr (.inl h)) (fun h=>by omega)
  .exact (d k b).1.imp (fun h=>.inr (.inr h)) (fun h=>by omega)
end
theorem wF (v:Value) (l:B8) (w:World) (k:IsBytes w v l) :
  Calls Tryz.prog 29 #[v] w fun e A=>(∃n,e=.returned n/\A.ownsRow w.heap.size 5 1 n l.length (l.map fun x=>.int .u8 x.toNat))/\Ext w A:=by
 have H:=k.len;obtain⟨a,p,rfl,I,J,K,q⟩:=id k;have B:Ext w (w.alloc (.cells #[] 5)):=(Ext.refl w).alloc _;have d:(w.alloc (.cells #[] 5)).ownsRow w.heap.size 5 1 (.slice (some ⟨w.heap.size,0,none⟩) 0 0) 0 []:=⟨rfl,.inr ⟨w.heap.size,0,#[],rfl,Nat.le_refl _,ab _ _,Nat.le_refl _,by unfold maxLen;omega,rfl,rfl⟩⟩
 cases l with
 | nil =>
  have h:Hid ((w.alloc (.cells #[] 5)).ownsRow w.heap.size 5 1 (.slice (some ⟨w.heap.size,0,none⟩) 0 0) ([]:B8).length (([]:B8).map fun x=>Value.int .u8 x.toNat)):=d;clear k q d;go_enter Tryz.func29,Tryz.ntmps29
  cases a with
  | none =>
   go_wp2;go_ret;exact⟨⟨_,rfl,h.out⟩,(Ext.refl _).alloc _⟩
  | some M =>
   go_wp2;go_ret;exact⟨⟨_,rfl,h.out⟩,(Ext.refl _).alloc _⟩
 | cons x t =>
  obtain⟨b,o,rfl,C⟩:=q (by simp);generalize D:x::t=L at *;have g:∀(j:Nat) u,(L.map fun x=>Value.int .u8 x.toNat)[j]? = some u->(w.alloc (.cells #[] 5)).cell? ((⟨b,o,none⟩:Addr).add j)=some u:=by
   intro j u r;have i:(⟨b,o,none⟩:Addr).add j=⟨b,o+j,none⟩:=by unfold Addr.add;split <;> simp_all
   rw[i];exact B.cell (C j u r)
  have E:Hid _:=g;clear C g q k D;go_enter Tryz.func29,Tryz.ntmps29
  go_wp2_with (at_builtin;(refine gB _ _ _ 1 1 Tryz.underlying37 gC rfl (by omega) rfl _ _ rfl w.heap.size _ 0 _ rfl d ⟨b,o,none⟩ L.length p (L.map fun x=>Value.int .u8 x.toNat) rfl (by simp) E.out (by intro u r;obtain⟨_,_,rfl⟩:=List.mem_map.1 r;rfl) (by omega) (by omega) (by simp) ?_);intro n F c y _;have z:Ext w F:=ai B d y;rw[Nat.zero_add,List.nil_append]at c;obtain⟨N,O,rfl,-⟩:=Row.BM c (by omega);have G:Hid _:=c;clear c)
  go_ret;exact⟨⟨_,rfl,G.out⟩,z⟩
theorem aX {w:World} {g:Nat} {a b c d e i j k:Value} {t:TypeId} {fr:Nat×Nat} (h:w.heap[g]? = some (.cells #[a,b,c,d,e,i,j,k] t fr)) :
  w.cell? ⟨g,0,none⟩=some a/\w.cell? ⟨g,1,none⟩=some b/\w.cell? ⟨g,2,none⟩=some c/\w.cell? ⟨g,3,none⟩=some d/\w.cell? ⟨g,4,none⟩=some e/\w.cell? ⟨g,5,none⟩=some i/\w.cell? ⟨g,6,none⟩=some j/\w.cell? ⟨g,7,none⟩=some k:=by
 simp[World.cell?,h]
def U8sL (xs:List Value):Prop:=∀(i:Nat) u,xs[i]? = some u->∃b:Nat,b<=255/\u=.int .u8 b
theorem U8sL.map (l:B8):U8sL (l.map fun x=>Value.int .u8 x.toNat):=fun i u a=>by
 rw[List.getElem?_map]at a;obtain⟨x,_,rfl⟩:=Option.map_eq_some_iff.1 a;exact⟨x.toNat,by have:=x.toNat_lt;omega,rfl⟩
theorem U8sL.set {xs:List Value} (h:U8sL xs) (k b:Nat) (c:b<=255):U8sL (xs.set k (.int .u8 b)):=fun i u a=>by
 rw[List.getElem?_set]at a;split at a
 .split at a
  .cases a;exact⟨b,c,rfl⟩
  .cases a
 .exact h i u a
end
section
open Go Go.RowKit
variable [Inhabited bc]
variable {w:World} {p:Value} {m:Fs}
theorem IsFs.Cw {S O R:Nat->Prop} (h:IsFs S O R w p m):IsFs S (fun k=>O k/\¬IsU8 w k) R w p m:=by
 obtain⟨g,i,j,l,n,o,L,q,e,d,r,a,t,u,x⟩:=h;refine⟨g,i,j,l,n,o,L,q,e,d,⟨r,ao d (by kernel_rfl)⟩,⟨a.ne,⟨a.om,a.now.Cb⟩,⟨a.od,a.sure.Cb⟩,a.now,a.sure,a.pend,fun k b=>⟨a.op k b,?_⟩,a.plan,a.ol,a.users,fun k b=>⟨a.ou k b,?_⟩,a.off⟩,t,u,x⟩
 .obtain ⟨y,z,c⟩:=a.pend.typed k b;exact ao c (by kernel_rfl)
 .obtain ⟨y,z,c⟩:=a.users.typed k b;exact ao c (by kernel_rfl)
section
variable [KW:Inhabited cT] {w0 w w':World} {S O O':Nat->Prop} {f:Value} {gs gc:Nat} {m m':Fs} {n n':Int}
theorem St.Cw (h:St w0 S O w f gs gc m n):St w0 S (fun k=>O k/\¬IsU8 w k) w f gs gc m n :=
 ⟨⟨h.one.ext,h.one.fs.Cw,fun k a=>h.one.lo k a.1,h.one.Cc,fun k a b=>h.one.BU k a b.1⟩,h.row,h.BZ,h.lo,⟨fun b=>h.out.1 b.1,fun b=>h.out.2.1 b.1,h.out.2.2⟩,fun k o a=>⟨(h.kp k o a).1,fun b=>(h.kp k o a).2.1 b.1,(h.kp k o a).2.2⟩,h.sz⟩
def StPost (w0:World) (S O:Nat->Prop) (f:Value) (gs gc:Nat) (m':Fs) (n':Int) (w w':World):Prop :=
 ∃O':Nat->Prop,St w0 S O' w' f gs gc m' n'/\Fr (fun k=>O k\/k=gs\/k=gc) w w'/\∀k,O' k->O k\/w.heap.size<=k
theorem St.lift (l:∀k,cL k=none) (x:Env w0) (h:St w0 S O w f gs gc m n) {F:Nat} {args:Array Value} {R:Ending->World->Prop}
  (y:∀(K:Inhabited cT) (o:Nat->Prop),St (KW:=K) w0 S o w f gs gc m n->Calls Tryz.prog F args w fun e w'=>∃O':Nat->Prop,R e w'/\St (KW:=K) w0 S O' w' f gs gc m' n') :
  Calls Tryz.prog F args w fun e w'=>R e w'/\StPost w0 S O f gs gc m' n' w w':=by
 refine(y (ix w (fun k=>O k/\¬IsU8 w k) gs gc) _ h.Cw.DK).mono ?_;rintro e w' ⟨o,z,g⟩;have A:=h.lt;have D:=wD x;have j:=h.one.ext;have B:=j.size;have q:w.heap.size<=w'.heap.size:=St.low (b:=2) (by omega) ⟨fun a=>by have:=h.one.lo _ a.1;omega,by have:=h.lo;omega,by have:=h.lo;omega⟩ g;obtain⟨r,c⟩:=St.DO l g;refine⟨z,o,c,⟨c.one.ext.os.trans j.os.symm,c.one.ext.tape.trans j.tape.symm,c.one.ext.output.trans j.output.symm,q,fun k d i=>?_⟩,fun k d=>?_⟩
 .rcases i with i | t
  .exact (r k d (fun a=>i (.inl a.1)) (fun e=>i (.inr (.inl e))) (fun e=>i (.inr (.inr e)))).1
  .exact (r k d (fun a=>a.2 t) (fun e=>by subst e;exact ao h.row (by kernel_rfl) t) (fun e=>by subst e;exact ao h.BZ (by kernel_rfl) t)).1
 .by_cases u:k<w.heap.size
  .by_cases a:O k
   .exact .inl a
   .exact absurd d (r k u (fun C=>a C.1) (fun e=>c.out.1 (e▸d)) (fun e=>c.out.2.1 (e▸d))).2
  .exact .inr (by omega)
variable {w1:World}
theorem StPost.ext (h:StPost w0 S O f gs gc m' n' w w1) (a:Ext w1 w'):StPost w0 S O f gs gc m' n' w w':=by
 obtain⟨b,c,d,e⟩:=h;exact⟨b,c.more a,d.ext a,e⟩
theorem StPost.row {k:Nat} {o:Obj} (h:StPost w0 S O f gs gc m' n' w w1) (b:w.heap[k]? = some o) (c:¬O k) (d:k≠gs) (e:k≠gc):w1.heap[k]? = some o:=by
 obtain⟨i,j,g,l⟩:=h;exact g.row b (fun a=>by rcases a with a | a | a;exact c a;exact d a;exact e a)
theorem StPost.fresh {l r:World} {g:Nat} (o:∀k,cL k=none) (j:St w0 S O w f gs gc m n) (t:Ext w l) (h:StPost w0 S O f gs gc m' n' l w1) (b:w1.grownBy r (some g)) (I:w.heap.size<=g) (y:g<l.heap.size) (z:¬IsU8 w1 g):StPost w0 S O f gs gc m' n' w r:=by
 obtain⟨u,A,B,x⟩:=h;have C:=j.lt;have D:=j.one.ext.size;have E:¬O g:=fun c=>by have:=(j.one.lo g c).2;omega
 have F:¬S g:=fun c=>by have:=(j.one.Cc g c).2;omega
 have q:¬u g:=fun c=>by
  rcases x g c with d | d
  .exact E d
  .omega
 refine⟨u,A.but b (by omega) q F z (by omega) (by omega) (o g),?_,fun k i=>?_⟩
 .have a:Fr (fun k=>O k\/k=gs\/k=gc) w w1:=(Fr.BO t).trans (B.mono (fun k i=>.inl i));have G:=a.size;exact⟨b.os.trans a.os,b.tape.trans a.tape,b.output.trans a.output,Nat.le_trans a.size b.size,fun k i H=>(b.block k (by omega) (fun e=>by cases e;omega)).trans (a.block k i H)⟩
 .have G:=t.size;rcases x k i with d | d
  .exact .inl d
  .exact .inr (by omega)
theorem St.other {Q:Nat->Prop} (b:∀k,cL k=none) (h:St w0 S O w f gs gc m n) (c:Fr Q w w') (d:∀k,Q k->w0.heap.size<=k) (e:∀k,O k->¬Q k) (g:∀k,S k->¬Q k) (i:¬Q gs) (j:¬Q gc):St w0 S O w' f gs gc m n:=by
 have l:=c.size;exact⟨⟨Ext.B5 h.one.ext c d,(h.one.fs.other c e g).mono (fun _ h=>h) (fun k a=>Nat.lt_of_lt_of_le a l),fun k a=>by have:=h.one.lo k a;omega,fun k a=>by have:=h.one.Cc k a;omega,h.one.BU⟩,c.row h.row i,c.row h.BZ j,h.lo,h.out,fun k o a=>(by rw[b]at a;cases a),jA b _⟩
end
variable {w0:World} {x:Value} {gy:Nat} {n:Int}
theorem Sr.other {w':World} {O Q:Nat->Prop} (h:Sr w0 O w x gy m n) (a:Fr Q w w') (c:∀k,Q k->w0.heap.size<=k) (d:∀k,O k->¬Q k) (e:¬Q gy):Sr w0 O w' x gy m n:=by
 have g:=a.size;exact⟨h.base,Ext.B5 h.ext a c,(h.ref.other a d).mono (fun _ h=>h) (fun k b=>Nat.lt_of_lt_of_le b g),fun k b=>by have:=h.lo k b;omega,a.row h.row e,h.gl,h.out⟩
def lZ (w:World) (k:Nat):Prop:=∃a t b,w.heap[k]? = some (.cells a t b)/\(t=130\/t=9)
variable {k:Nat}
theorem ii {cs:Array Value} {t:TypeId} {fr:Nat×Nat} (h:w.heap[k]? = some (.cells cs t fr)) (c:t≠130) (d:t≠9):¬lZ w k:=by
 rintro⟨g,i,j,b,a⟩;rw[h]at b;have e:t=i:=by
  have l:=Option.some.inj b;injection l
 rcases a with a | a
 .exact c (e.trans a)
 .exact d (e.trans a)
theorem IsRef.Cw {O R:Nat->Prop} (h:IsRef O R w p m):IsRef (fun k=>O k/\¬lZ w k) R w p m:=by
 obtain⟨g,j,l,n,o,q,e,i,r,a⟩:=h;refine⟨g,j,l,n,o,q,e,i,⟨r,ii i (by decide) (by decide)⟩,⟨a.now,fun k b=>⟨a.on k b,?_⟩,a.sure,fun k b=>⟨a.os k b,?_⟩,a.pend,fun k b=>⟨a.op k b,?_⟩,a.plan,fun k b=>⟨a.ol k b,?_⟩,a.users,fun k b=>⟨a.ou k b,?_⟩,a.off⟩⟩
 .obtain ⟨d,f,c⟩:=a.now.typed k b;exact ii c (by decide) (by decide)
 .obtain ⟨d,f,c⟩:=a.sure.typed k b;exact ii c (by decide) (by decide)
 .obtain ⟨d,f,c⟩:=a.pend.typed k b;exact ii c (by decide) (by decide)
 .obtain ⟨d,f,c⟩:=a.plan.typed k b;exact ii c (by decide) (by decide)
 .obtain ⟨d,f,c⟩:=a.users.typed k b;exact ii c (by decide) (by decide)
theorem Sr.Cw {O:Nat->Prop} (h:Sr w0 O w x gy m n):Sr w0 (fun k=>O k/\¬lZ w k) w x gy m n :=
 ⟨h.base,h.ext,h.ref.Cw,fun k a=>h.lo k a.1,h.row,h.gl,fun b=>h.out b.1⟩
variable {w1:World} {m':Fs} {n':Int} {o:Obj}
theorem SrPost.row {O:Nat->Prop} (h:SrPost w0 O x gy m' n' w w1) (b:w.heap[k]? = some o) (c:¬O k) (d:k≠gy):w1.heap[k]? = some o:=by
 obtain⟨g,i,e,j⟩:=h;exact e.row b (fun a=>by rcases a with a | a;exact c a;exact d a)
theorem SrPost.fresh {i r:World} {O:Nat->Prop} {g:Nat} (j:Sr w0 O w x gy m n) (t:Ext w i) (h:SrPost w0 O x gy m' n' i w1) (b:w1.grownBy r (some g)) (I:w.heap.size<=g) (z:g<i.heap.size) (A:¬IsU8 w1 g):SrPost w0 O x gy m' n' w r:=by
 obtain⟨u,B,C,y⟩:=h;have D:=j.lt;have E:=j.ext.size;have F:¬O g:=fun l=>by have:=(j.lo g l).2;omega
 have q:¬u g:=fun l=>by
  rcases y g l with c | c
  .exact F c
  .omega
 refine⟨u,B.but b (by omega) q A (by omega),?_,fun k d=>?_⟩
 .have a:Fr (fun k=>O k\/k=gy) w w1:=(Fr.BO t).trans (C.mono (fun k d=>.inl d));have G:=a.size;exact⟨b.os.trans a.os,b.tape.trans a.tape,b.output.trans a.output,Nat.le_trans a.size b.size,fun k d H=>(b.block k (by omega) (fun e=>by cases e;omega)).trans (a.block k d H)⟩
 .have G:=t.size;rcases y k d with c | c
  .exact .inl c
  .exact .inr (by omega)
section
variable [KW:Inhabited cT]
structure TwS (w0:World) (K:List (Nat×Obj)) (S O O':Nat->Prop) (w:World) (f x:Value) (gs gc gy:Nat) (m m2:Fs) (n n2:Int):Prop where
 st:St w0 S O w f gs gc m n
 sr:Sr w0 O' w x gy m2 n2
 B9:∀k,O k->¬O' k
 BU:∀k,S k->¬O' k
 out:¬O gy/\¬S gy/\¬O' gs/\¬O' gc/\gy≠gs/\gy≠gc
 keep:∀k o,(k,o)∈K->w.heap[k]? = some o/\¬O k/\¬O' k/\k≠gs/\k≠gc/\k≠gy
def Tw (w0:World) (K:List (Nat×Obj)) (w:World) (f x:Value) (a b gy:Nat) (m c:Fs) (n d:Int):Prop:=∃S O e:Nat->Prop,TwS w0 K S O e w f x a b gy m c n d
variable {w0 w w':World} {K:List (Nat×Obj)} {S O O':Nat->Prop} {f x:Value} {gs gc gy:Nat} {m m2 m':Fs} {n n2 n':Int}
theorem TwS.C8 (z:∀k,cL k=none) (h:TwS w0 K S O O' w f x gs gc gy m m2 n n2) (A:StPost w0 S O f gs gc m' n' w w'):Tw w0 K w' f x gs gc gy m' m2 n' n2/\KeepB w w':=by
 obtain⟨B,C,d,e⟩:=A;have D:=h.st.lt;have E:=h.sr.lt;obtain⟨g,F,i,j,l,q⟩:=h.out;refine⟨⟨S,B,O',C,h.sr.other d (fun k b=>?_) (fun k b a=>?_) (fun a=>?_),fun k b a=>?_,h.BU,⟨fun a=>?_,F,i,j,l,q⟩,fun k o b=>?_⟩,d.keep⟩
 .rcases b with b | rfl | rfl
  .exact (h.st.one.lo k b).1
  .exact h.st.lo.1
  .exact h.st.lo.2.1
 .rcases a with a | rfl | rfl
  .exact h.B9 k a b
  .exact i b
  .exact j b
 .rcases a with a | rfl | rfl
  .exact g a
  .exact l rfl
  .exact q rfl
 .rcases e k b with c | c
  .exact h.B9 k c a
  .have:=(h.sr.lo k a).2;omega
 .rcases e gy a with c | c
  .exact g c
  .omega
 .obtain ⟨r,t,G,u,y,H⟩:=h.keep k o b;have I:=(Array.getElem?_eq_some_iff.1 r).1;refine⟨d.row r (fun a=>?_),fun a=>?_,G,u,y,H⟩
  .rcases a with a | a | a
   .exact t a
   .exact u a
   .exact y a
  .rcases e k a with c | c
   .exact t c
   .omega
theorem TwS.DC (g:∀k,cL k=none) (h:TwS w0 K S O O' w f x gs gc gy m m2 n n2) (A:SrPost w0 O' x gy m' n' w w'):Tw w0 K w' f x gs gc gy m m' n n'/\KeepB w w'/\Fr (fun k=>O' k\/k=gy) w w':=by
 obtain⟨B,C,e,d⟩:=A;have D:=h.st.lt;have E:=h.sr.lt;obtain⟨i,j,l,q,r,t⟩:=h.out;refine⟨⟨S,O,B,h.st.other g e (fun k b=>?_) (fun k b a=>?_) (fun k b a=>?_) (fun a=>?_) (fun a=>?_),C,fun k b a=>?_,fun k b a=>?_,⟨i,j,fun a=>?_,fun a=>?_,r,t⟩,fun k o b=>?_⟩,e.keep,e⟩
 .rcases b with b | rfl
  .exact (h.sr.lo k b).1
  .exact h.sr.gl
 .rcases a with a | rfl
  .exact h.B9 k b a
  .exact i b
 .rcases a with a | rfl
  .exact h.BU k b a
  .exact j b
 .rcases a with a | rfl
  .exact l a
  .exact r rfl
 .rcases a with a | rfl
  .exact q a
  .exact t rfl
 .rcases d k a with c | c
  .exact h.B9 k b c
  .have:=(h.st.one.lo k b).2;omega
 .rcases d k a with c | c
  .exact h.BU k b c
  .have:=(h.st.one.Cc k b).2;omega
 .rcases d gs a with c | c
  .exact l c
  .omega
 .rcases d gc a with c | c
  .exact q c
  .omega
 .obtain ⟨u,F,y,G,H,z⟩:=h.keep k o b;have I:=(Array.getElem?_eq_some_iff.1 u).1;refine⟨e.row u (fun a=>?_),F,fun a=>?_,G,H,z⟩
  .rcases a with a | a
   .exact y a
   .exact z a
  .rcases d k a with c | c
   .exact y c
   .omega
theorem Tw.more (h:Tw w0 K w f x gs gc gy m m2 n n2) (a:Ext w w'):Tw w0 K w' f x gs gc gy m m2 n n2:=by
 obtain⟨S,O,O',h⟩:=h;exact⟨S,O,O',h.st.more a,h.sr.more a,h.B9,h.BU,h.out,fun k o b=>⟨Ext.row a (h.keep k o b).1,(h.keep k o b).2⟩⟩
theorem Tw.new (h:Tw w0 K w f x gs gc gy m m2 n n2) (b:Ext w w') (l:w.heap.size<=k) (e:w'.heap[k]? = some o):Tw w0 ((k,o)::K) w' f x gs gc gy m m2 n n2:=by
 obtain⟨S,O,O',h⟩:=h;have g:=h.st.lt;have i:=h.sr.lt;refine⟨S,O,O',h.st.more b,h.sr.more b,h.B9,h.BU,h.out,fun j d a=>?_⟩;rcases List.mem_cons.1 a with a | a
 .cases a;exact⟨e,fun c=>by have:=(h.st.one.lo k c).2;omega,fun c=>by have:=(h.sr.lo k c).2;omega,by omega,by omega,by omega⟩
 .exact ⟨Ext.row b (h.keep j d a).1,(h.keep j d a).2⟩
theorem Tw.row (h:Tw w0 ((k,o)::K) w f x gs gc gy m m2 n n2):w.heap[k]? = some o:=by
 obtain⟨S,O,O',h⟩:=h;exact(h.keep k o (by simp)).1
theorem Tw.drop {e:Nat×Obj} (h:Tw w0 (e::K) w f x gs gc gy m m2 n n2):Tw w0 K w f x gs gc gy m m2 n n2:=by
 obtain⟨S,O,O',h⟩:=h;exact⟨S,O,O',h.st,h.sr,h.B9,h.BU,h.out,fun k o a=>h.keep k o (List.mem_cons_of_mem _ a)⟩
theorem Tw.ext (h:Tw w0 K w f x gs gc gy m m2 n n2):Ext w0 w:=by
 obtain⟨S,O,O',h⟩:=h;exact h.st.one.ext
variable {F:Nat} {args:Array Value}
theorem Tw.prog (a:∀k,cL k=none) (c:Env w0) (h:Tw w0 K w f x gs gc gy m m2 n n2) {R:Ending->World->Prop}
  (d:∀(K:Inhabited cT) (S b:Nat->Prop),St (KW:=K) w0 S b w f gs gc m n->Calls Tryz.prog F args w fun e w'=>∃O':Nat->Prop,R e w'/\St (KW:=K) w0 S O' w' f gs gc m' n') :
  Calls Tryz.prog F args w fun e w'=>R e w'/\Tw w0 K w' f x gs gc gy m' m2 n' n2/\KeepB w w':=by
 obtain⟨S,O,O',h⟩:=h;refine(St.lift a c h.st (fun K b g=>d K S b g)).mono ?_;rintro e w' ⟨i,j⟩;exact⟨i,h.C8 a j⟩
theorem Tw.doc (d:∀k,cL k=none) (h:Tw w0 K w f x gs gc gy m m2 n n2) {R:Ending->World->Prop}
  (i:∀O':Nat->Prop,Sr w0 O' w x gy m2 n2->Calls Tryz.prog F args w fun e w'=>R e w'/\SrPost w0 O' x gy m' n' w w') :
  Calls Tryz.prog F args w fun e w'=>R e w'/\Tw w0 K w' f x gs gc gy m m' n n'/\KeepB w w'/\Keep 130 w w'/\Keep 9 w w':=by
 obtain⟨S,O,O',h⟩:=h;have g:TwS w0 K S O (fun k=>O' k/\¬lZ w k) w f x gs gc gy m m2 n n2 :=
  ⟨h.st,h.sr.Cw,fun k b a=>h.B9 k b a.1,fun k b a=>h.BU k b a.1,⟨h.out.1,h.out.2.1,fun a=>h.out.2.2.1 a.1,fun a=>h.out.2.2.2.1 a.1,h.out.2.2.2.2⟩,fun k o b=>⟨(h.keep k o b).1,(h.keep k o b).2.1,fun a=>(h.keep k o b).2.2.1 a.1,(h.keep k o b).2.2.2⟩⟩
 refine(i _ g.sr).mono ?_;rintro e w' ⟨j,l⟩;obtain⟨q,r,c⟩:=g.DC d l;refine⟨j,q,r,⟨c.size,fun k t u b=>c.row b (fun a=>?_)⟩,⟨c.size,fun k t u b=>c.row b (fun a=>?_)⟩⟩
 .rcases a with a | rfl
  .exact a.2 ⟨_,_,_,b,.inl rfl⟩
  .exact ii h.sr.row (by decide) (by decide) ⟨_,_,_,b,.inl rfl⟩
 .rcases a with a | rfl
  .exact a.2 ⟨_,_,_,b,.inr rfl⟩
  .exact ii h.sr.row (by decide) (by decide) ⟨_,_,_,b,.inr rfl⟩
end
end
section
open Go Go.RowKit
variable [Inhabited bc]
theorem yI:(Tryz.prog.info? 44).map (fun i=>(i.zero,i.size,i.bytes))=some (some (.agg #[.int .i64 0,.int .i64 0,.int .i64 0,.int .i64 0,S8 [],S8 [],.slice none 0 0,.slice none 0 0]),8,112):=by kernel_rfl
section
variable {ops:Array Oper} {rest:List Oper} {o:Oper} {a:Act} {Q:Exit->Act->World->Prop} {w:World}
theorem Ap (l:o.guard=none) (s x:Operand) (y:o.op=.call { callee:=.builtin .append,args:=#[s,x],argTypes:=#[67,67] })
  (d:Nat) (v:Value) (n:Nat) (xs:List Value) (z:a.eval s=v) (i:w.ownsRow d 44 8 v n xs)
  (g c:Nat) (b:List Value) (A:a.eval x=.slice (some ⟨g,0,none⟩) 1 c) (B:b.length=8) {fr:Nat×Nat} (C:w.heap[g]? = some (.cells b.toArray 44 fr)) (p:b.all (·.oneCell')=true)
  (H:n<=10000000) (e:d<=w.heap.size)
  (h:∀k j,j.ownsRow d 44 8 k (n+1) (xs++b)->w.grownBy j v.ownBlock->wpList Tryz.prog ops Q rest (a.put o.dst k) j):wpList Tryz.prog ops Q (o::rest) a w:=by
 obtain⟨D,E,q,r,t⟩:=info_parts yI;exact wpList_append_own_at w l s x _ y d _ D _ 8 112 Tryz.underlying67 E q r t rfl (by omega) v n xs z i ⟨g,0,none⟩ 1 c b A (by simpa using B) (by simpa using cP C) (fun u F=>List.all_eq_true.1 p u F) (by unfold maxLen;omega) (by omega) e
  (fun k j p G _ I=>h k j p G)
end
variable {w:World}
theorem yJ {c:World} {b:Nat} {v:Value} {L:List Opn} {a:List (List Value)} (h:w.ownsRow b 44 8 v L.length a.flatten) (d:Each (IsOpn c) a L) (g:L.length<=1000000):ReadO w (IsOpn c) v L :=
 ⟨a,Row.BM h (by omega),fun _ k e=>(h.lt k e).2,d⟩
theorem IsOpn.ext {w':World} {cs:List Value} {o:Opn} (h:IsOpn w cs o) (a:Ext w w'):IsOpn w' cs o:=by
 obtain⟨b,c,rfl,d,e⟩:=h;exact⟨b,c,rfl,d,e.C5 a⟩
theorem nS {α:Type} {l:List α} {k:Nat} {e:α} (h:l[k]? = some e):l.take (k+1)=l.take k++[e]:=by rw[List.take_add_one,h];rfl
end
end Go.Proofs.YtfabjgfmiaammaaGreatDoor
