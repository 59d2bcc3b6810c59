/- Contracts of the program's functions and plain laws behind the card. Conditions: as each theorem states. -/
import Derived.Test.YtfabjgfmiaammaaGreatDoorYbg
import Derived.Deep.DeepCutAuto
set_option linter.unusedVariables false
set_option linter.unusedSimpArgs false
set_option linter.unusedSectionVars false
set_option maxRecDepth 100000
set_option maxHeartbeats 64000000
namespace Go.Proofs.YtfabjgfmiaammaaGreatDoor
section
open Go Go.RowKit
theorem Aa {x:Itm} (h:bM x=true):(bz x).length<=200:=by
 unfold bM at h;simp only[Bool.and_eq_true,decide_eq_true_eq]at h;have a:=kH h.2.2.1;have b:=(gF h.2.2.2).1;have c:=bH (n:=x.name.length) (by unfold bi;omega);unfold bz;simp only[List.length_cons,List.length_append];omega
theorem ku:∀(l:List Itm) (k:Nat),(∀x∈l,bM x=true)->((l.take k).flatMap bz).length<=200*k
 | l,0,_=>by simp
 | [],k+1,_=>by simp
 | x::l,k+1,h=>by
  have b:=Aa (h x (by simp));have c:=ku l k (fun y a=>h y (by simp[a]));rw[List.take_succ_cons,List.flatMap_cons,List.length_append];omega
theorem tL {m:Int} (a:1<=m) (b:m<=4):IntKind.u8.wrap m=(((UInt8.ofNat m.toNat).toNat:Nat):Int):=by
 rw[IntKind.wrap_u8,UInt8.toNat_ofNat'];omega
theorem mi (n:Int) (a:0<=n) (h:n<=bi):(putW n).1=ar n.toNat:=by
 unfold putW;rw[if_neg (by omega)]
theorem kM:∀(l:List B8) (k:Nat),l.all al=true->((l.take k).flatMap aQ).length<=32*k
 | l,0,_=>by simp
 | [],k+1,_=>by simp
 | x::l,k+1,h=>by
  simp only[List.all_cons,Bool.and_eq_true]at h;have a:=(gF h.1).1;have b:=kM l k h.2;rw[List.take_succ_cons,List.flatMap_cons,List.length_append];omega
theorem iU (n:Nat) (h:n<=bi):(putW (n:Int)).1=ar n:=by
 unfold putW;rw[if_neg (by omega)];rfl
theorem nk (v:Value) (o:Ob) (w:World) (hv:IsOb w v o) (hs:dv o) :
  Calls Tryz.prog 85 #[v] w fun e G=>(∃u,e=.returned (.tuple #[u,.int .i64 (aW o).2])/\Ow w.heap.size G u (aW o).1)/\Ext w G:=by
 have ek:=hv;obtain⟨vd,vi,vp,rfl,hd,hi,hp⟩:=hv;obtain⟨wa,bt⟩:∃wa,wa=w.alloc (.cells #[.int .i64 o.kind,vd,vi,S8 o.tree,vp,.int .i64 o.BU,.int .i64 o.BS,S8 o.msg] 41):=⟨_,rfl⟩;have ce:Ext w wa:=by rw[bt];exact(Ext.refl _).alloc _
 have bd:wa.heap[w.heap.size]? = some (.cells #[.int .i64 o.kind,vd,vi,S8 o.tree,vp,.int .i64 o.BU,.int .i64 o.BS,S8 o.msg] 41 (0,0)):=by rw[bt];exact ae _ _
 obtain⟨gb,fe⟩:∃gb,w.heap.size=gb:=⟨_,rfl⟩;have a7:Hid (Calls Tryz.prog 142 #[obV o vd vi vp] wa fun e G=>e=.returned (.bool (bP o))/\Ext wa G):=yC _ o wa (ek.ext ce) hs;have HD:Hid (IsBytes w vd o.data):=hd;have HI:Hid (IsItms w vi o.items):=hi;have HP:Hid (IsStrs w vp o.parents):=hp;obtain⟨da,dc,rfl,-,-,-,-⟩:=hd.get;obtain⟨ia,ic,rfl,i1,i2,i3,dq⟩:=hi.get;have cn:Hid _:=dq;obtain⟨pa,pc,rfl,p1,p2,p3,ef⟩:=hp.get;have cs:Hid _:=ef;obtain⟨m0,b6⟩:∃m,bP o=m:=⟨_,rfl⟩;rw[b6]at a7;have Y:Hid _:=b6;unfold obV at a7;rw[fe]at bd;have ev:Hid _:=bd;have e8:Hid (Ext w wa):=ce;have e5:Hid _:=bt;obtain⟨c0,c1,c2,c3,c4,c5,c6,c7⟩:=ah bd;obtain⟨⟨qb,qe⟩,hq⟩:∃q,aW o=q:=⟨_,rfl⟩;rw[hq];have HQ:Hid _:=hq;clear ek hd hi hp dq ef hs b6 bd ce bt hq;go_enter Tryz.func85,Tryz.ntmps85;go_upto_region 1 with fail;rw[<-e5.out];go_wp2_with fail;go_at_call 142;refine Calls.mono a7.out ?_;rintro e9 p ⟨rfl,cb⟩;have E:Hid (Ext w p):=e8.out.trans cb;have bv:Hid _:=Ext.row cb ev.out;have ft:gb<p.heap.size:=(Array.getElem?_eq_some_iff.1 bv.out).1;obtain⟨d0,d1,d2,d3,d4,d5,d6,d7⟩:=ah bv.out;clear cb a7
 cases m0 with
 | false =>
  obtain⟨rfl,rfl⟩:qb=[]/\qe=1:=by
   have y:=HQ.out;unfold aW at y;rw[Y.out]at y;exact⟨(Prod.mk.inj y).1.symm,(Prod.mk.inj y).2.symm⟩
  go_wp2;go_ret2;exact⟨⟨_,rfl,World.ownsRow_nil _ _ _ _⟩,E.out⟩
 | true =>
  obtain⟨eh,rfl⟩:qb=eI o/\qe=0:=by
   have y:=HQ.out;unfold aW at y;rw[Y.out,if_pos rfl]at y;exact⟨(Prod.mk.inj y).1.symm,(Prod.mk.inj y).2.symm⟩
  have cu:Hid _:=eh;clear eh HQ;clear c0 c1 c2 c3 c4 c5 c6 c7;obtain⟨es,W,b,C,a,j,g,J⟩:=o;have r:=kE Y.out;have O:Hid (qb=eI ⟨es,W,b,C,a,j,g,J⟩):=cu.out;clear cu;dsimp only at r d0 d1 d2 d3 d4 d5 d6 d7 i1 i2 p1 p2 cn cs HD HI HP bv;rcases r with rfl | rfl | rfl
  .have f8:W.length<=20000:=by
    have y:=Y.out;unfold bP at y;rw[if_pos rfl]at y;simp only[Bool.and_eq_true,decide_eq_true_eq]at y;exact y.1
   have ad:Hid (qb=[1]++W):=O.out;have M:Hid (Ow p.heap.size (p.alloc (.cells #[.int .u8 1] 5)) (.slice (some ⟨p.heap.size,0,none⟩) 1 1) [1]):=World.ownsRow_lit p _ 1 (Nat.le_refl _) (by decide) rfl
   go_wp2_with (at_builtin;go_must (refine iY rfl _ _ rfl rfl p.heap.size _ [1] rfl M.out _ W rfl (IsBytes.ext HD.out (E.out.alloc _)) (by simp;omega) (by simp) ?_;intro v' w2 I bh ea))
   go_ret2;exact⟨⟨_,rfl,by rw[ad.out];exact I.mono E.out.size⟩,E.out.trans (aj ((Ext.refl p).alloc _) M.out bh)⟩
  .have b7:b.length<=256/\∀x∈b,bM x=true:=by
    have y:=Y.out;unfold bP at y;rw[if_neg (show ¬(2:Int)=1 by decide),if_pos rfl]at y;simp only[Bool.and_eq_true,cI,List.all_eq_true,decide_eq_true_eq]at y;exact⟨y.2.1.2.2,y.2.1.1⟩
   obtain⟨f9,ds⟩:=b7;have co:Hid _:=ds;have ad:Hid (qb=[2]++ar b.length++b.flatMap bz):=by
    unfold Hid;rw[O.out];show UInt8.ofNat 2::(ar b.length++b.flatMap bz)=_;simp
   have fk:=bH (n:=b.length) (by unfold bi;omega);have M:Hid (Ow p.heap.size (p.alloc (.cells #[.int .u8 2] 5)) (.slice (some ⟨p.heap.size,0,none⟩) 1 1) [2]):=World.ownsRow_lit p _ 1 (Nat.le_refl _) (by decide) rfl;clear ds O;go_wp2_with fail;go_at_call 143;refine(gD _ [2] b.length p.heap.size _ M.out (by simp) (by simp)).mono ?_;rintro e9 w2 ⟨v2,rfl,I,bh,ea⟩;rw[iU _ (by unfold bi;omega)]at I;have cq:Hid (Ow p.heap.size w2 v2 ([2]++ar b.length)):=I;have au:Hid (Ext p w2):=aj ((Ext.refl p).alloc _) M.out bh;have e2:=au.out.cell d2;clear I bh ea M;go_wp2_with fail;go_loopw [4,34] (fun v i wr=>∃k:Nat,k<=b.length/\i=.int .i64 k/\Hid (Ow p.heap.size wr v ([2]++ar b.length++(b.take k).flatMap bz))/\Hid (Ext p wr)) (fun _ i _=>b.length - (intOf i).toNat)
   case atStart=>exact⟨0,Nat.zero_le _,rfl,by unfold Hid;simpa using cq.out,au⟩
   case round =>
   obtain⟨k,r,rfl,Z,S⟩:=hrel
   by_cases a2:k<b.length
   .obtain ⟨x,hx⟩:∃x,b[k]? = some x:=⟨_,List.getElem?_eq_getElem a2⟩;have er:=co.out x (List.mem_of_getElem? hx);have dk:=ku b k co.out;have b1:Hid ((b.take (k+1)).flatMap bz=(b.take k).flatMap bz++bz x):=by
     unfold Hid;rw[List.take_add_one,hx];simp
    obtain⟨bb,oo,ff,c8,c9,c'⟩:=cn.out k x hx;subst ff;have y0:=S.out.cell (E.out.cell c8);have y1:=S.out.cell (E.out.cell c9);have y2:=S.out.cell (E.out.cell c');obtain⟨P,Q⟩:∃l,[2]++ar b.length++(b.take k).flatMap bz=l:=⟨_,rfl⟩;have cx:P.length<=60000:=by rw[<-Q];simp only[List.length_append,List.length_cons,List.length_nil];omega
    have bx:Hid _:=Q;rw[Q]at Z;clear Q dk;obtain⟨X,name,id⟩:=x;have a4:=er;unfold bM at a4;simp only[Bool.and_eq_true,decide_eq_true_eq]at a4;obtain⟨d8,d9,ec,eo⟩:=a4;have gc:=kH ec;have d':=tL d8 d9;obtain⟨cm,b3⟩:∃c,UInt8.ofNat X.toNat=c:=⟨_,rfl⟩;rw[b3]at d';have e3:Hid _:=eo;have ex:Hid (bz ⟨X,name,id⟩=[cm]++ar name.length++(name++aQ id)):=by
     unfold Hid bz;rw[b3];simp
    dsimp only at y0 y1 y2;clear er hx c8 c9 c' d8 d9 ec eo b3;go_upto_region 12 with fail;obtain⟨w4,br⟩:∃w4,w4=wr.alloc (.cells #[.int .i64 X,S8 name,S8 id] 130):=⟨_,rfl⟩;have cc:Ext wr w4:=by rw[br];exact(Ext.refl _).alloc _
    have ba:w4.heap[wr.heap.size]? = some (.cells #[.int .i64 X,S8 name,S8 id] 130 (0,0)):=by rw[br];exact ae _ _
    rw[<-br];obtain⟨gi,dn⟩:∃gi,wr.heap.size=gi:=⟨_,rfl⟩;have bS:Hid (Ow p.heap.size w4 u4 P):=am Z.out cc;have N:Hid (u4.ownBlock≠some gi):=fun e=>by have:=(Z.out.lt _ e).2;omega
    have cl:Hid (gi<w4.heap.size):=by
     have:=(Array.getElem?_eq_some_iff.1 ba).1;unfold Hid;omega
    rw[dn]at ba ⊢;obtain⟨z0,z1,z2⟩:=bL ba;have b2:Hid (Ext p w4):=S.out.trans cc;have bq:=b2.out.size;clear br cc ba dn y0 y1 y2 Z S;apply aI 10 (fun z G=>ChJ w4 p.heap.size u4 cm P (P++[cm]) (P++[cm]++ar name.length) [] (z 4) (z 5) (z 9) none G) [false,false,false,false,true,true,false,false,false,true] [_,_,_,.int .u8 cm.toNat,undef,undef,_,_,_,undef] [none,none,none,none,none,none,none,none,none,none] [[],[],[1],[2],[3],[0,4],[],[6],[7],[5,8]] (by kernel_rfl) (by kernel_rfl) rfl
    .exact ChJ.start bS.out ⟨rfl,rfl,rfl,Nat.le_refl _,fun _ _=>rfl⟩
    .simp (maxSteps:=1000000)only[de,cN,bR,cG,cS,List.getD_cons_zero,List.getD_cons_succ,Bool.false_eq_true,if_false,if_true,and_true,true_and,forall_const,Nat.zero_add,Nat.reduceAdd,List.take_succ_cons,List.take_zero,ab,Act.put,List.setIfInBounds_toArray,List.set_cons_zero,List.set_cons_succ];and_intros
     iterate 4 · intro t z F d;intros;rename_i A;have f0:=d.cell N.out z0;have f1:=d.cell N.out z1;go_simp;exact A _ _ d rfl
     .intro t z F d K r R A;rw[K]at d;go_simp;exact A _ _ d.Cx
     .intro t z F d K r R A;obtain⟨B,H⟩:=r;rw[K]at d;obtain⟨v',G,hr,a1⟩:=d.CI H bq (by omega);apply cL (.tmp 38) (.tmp 42) 37 (v:=t 0) (xv:=t 4) (v':=v') (w':=G)
      iterate 4
       .rfl
      .rw [B];exact hr
      .exact A _ _ a1
     iterate 3 · intro t z F d;intros;rename_i A;have f0:=d.cell N.out z0;have f1:=d.cell N.out z1;go_simp;exact A _ _ d rfl
     .intro t z F d K r R A;obtain⟨B,H⟩:=r;rw[K]at d;go_simp;exact(gD (t 5) (P++[cm]) name.length p.heap.size F (d.CP B) (Nat.le_trans bq d.size) (by simp;omega)).mono (by rintro e' G ⟨v',rfl,T,h2,h3⟩;rw[iU _ (by unfold bi;omega)]at T;exact⟨_,rfl,A _ _ (d.CV B T h2 h3)⟩)
    intro t w5 U r;simp only[di,List.getD_cons_zero,List.getD_cons_succ,Bool.false_eq_true,if_false,if_true]at U;simp only[bV,Nat.zero_add,Nat.reduceAdd,and_true]at r;simp(maxSteps:=1000000)only[List.drop_succ_cons,List.drop_zero,Nat.zero_add,Nat.reduceAdd,List.take_succ_cons,List.take_zero,ab,Act.put,List.setIfInBounds_toArray,List.set_cons_zero,List.set_cons_succ,r];clear r;generalize t 4=x4 at *;generalize t 5=x5 at *;generalize t 9=x9 at *;have b0:Hid (Ow p.heap.size w5 x9 (P++[cm]++ar name.length)):=U.CF rfl;have V:Hid (x9.ownBlock≠some gi):=fun e=>by
     rcases U.Dm rfl gi e with h | h
     .exact N.out h
     .have:=cl.out;omega
    have t1:=U.cell N.out z1;have t2:=U.cell N.out z2;have cv:Hid (Ext p w5):=Below.grown b2.out U.ext bq (fun k r=>(bS.out.lt k r).1);have b9:=cv.out.size;obtain⟨L1,a9⟩:∃l,P++[cm]++ar name.length=l:=⟨_,rfl⟩;have fr:L1.length<=70000:=by
     have y:=bH (n:=name.length) (by unfold bi;omega);rw[<-a9];simp only[List.length_append,List.length_cons,List.length_nil];omega
    have ey:Hid _:=a9;rw[a9]at b0;clear a9 U z0 z1 z2 bS b2 N cl bq;go_upto_region 13 with fail;apply aI 7 (fun z G=>ChJ w5 p.heap.size x9 0 L1 (L1++name) (L1++name++aQ id) [] none (z 3) (z 6) none G) [false,false,false,true,false,false,true] [_,_,_,undef,_,_,undef] [none,none,none,none,none,none,none] [[],[],[1],[0,2],[],[4],[3,5]] (by kernel_rfl) (by kernel_rfl) rfl
    .exact ChJ.start b0.out ⟨rfl,rfl,rfl,Nat.le_refl _,fun _ _=>rfl⟩
    .simp (maxSteps:=1000000)only[de,cN,bR,cG,cS,List.getD_cons_zero,List.getD_cons_succ,Bool.false_eq_true,if_false,if_true,and_true,true_and,forall_const,Nat.zero_add,Nat.reduceAdd,List.take_succ_cons,List.take_zero,ab,Act.put,List.setIfInBounds_toArray,List.set_cons_zero,List.set_cons_succ];and_intros
     iterate 3 · intro t z F d;intros;rename_i A;have f1:=d.cell V.out t1;have f2:=d.cell V.out t2;go_simp;exact A _ _ d rfl
     .intro t z F d K r R A;obtain⟨B,H⟩:=r;rw[K]at d;obtain⟨v',G,hr,a1⟩:=d.CZ b9 (by omega) (by omega);apply eB (.tmp 48) (.tmp 50) 37 9 (v:=t 0) (xv:=t 2) (v':=v') (w':=G)
      iterate 4
       .rfl
      .rw [B,H];exact hr
      .exact A _ _ a1
     iterate 2 · intro t z F d;intros;rename_i A;have f1:=d.cell V.out t1;have f2:=d.cell V.out t2;go_simp;exact A _ _ d rfl
     .intro t z F d K r R A;obtain⟨B,H⟩:=r;rw[K]at d;go_simp;exact(ln (t 3) (L1++name) id p.heap.size F (d.CP B) (Nat.le_trans b9 d.size) (by simp;omega) e3.out).mono (by rintro e' G ⟨v',rfl,T,h2,h3⟩;exact⟨_,rfl,A _ _ (d.CV B T h2 h3)⟩)
    intro t w6 bo r;simp only[di,List.getD_cons_zero,List.getD_cons_succ,Bool.false_eq_true,if_false,if_true]at bo;simp only[bV,Nat.zero_add,Nat.reduceAdd,and_true]at r;simp(maxSteps:=1000000)only[List.drop_succ_cons,List.drop_zero,Nat.zero_add,Nat.reduceAdd,List.take_succ_cons,List.take_zero,ab,Act.put,List.setIfInBounds_toArray,List.set_cons_zero,List.set_cons_succ,r];clear r;generalize t 3=x3 at *;generalize t 6=x6 at *;have e7:Hid (Ext p w6):=Below.grown cv.out bo.ext b9 (fun k r=>(b0.out.lt k r).1);have e0:Hid (Ow p.heap.size w6 x6 ([2]++ar b.length++(b.take (k+1)).flatMap bz)):=by
     have y:=bo.CF rfl;unfold Hid;rw[b1.out,ex.out];have e:[2]++ar b.length++((b.take k).flatMap bz++([cm]++ar name.length++(name++aQ id)))=L1++name++aQ id:=by
      rw[<-ey.out,<-bx.out];simp
     rw[e];exact y
    clear bo;go_wp2_with fail;go_roundw
    case rel=>exact⟨k+1,by omega,by go_num,e0,e7⟩
    case measure=>simp[intOf];omega
   .have b5:k=b.length:=by omega
    have e1:Hid (Ow p.heap.size wr u4 qb):=by
     have y:=Z.out;rw[b5,List.take_length]at y;unfold Hid;rw[ad.out];exact y
    clear r;go_wp2;go_ret2;exact⟨⟨_,rfl,e1.out.mono E.out.size⟩,E.out.trans S.out⟩
  .have b7:al C=true/\((a.all al=true/\a.length<=2)/\((0<=j/\j<=1099511627776)/\((0<=g/\g<=255)/\J.length<=200))):=by
    have y:=Y.out;unfold bP at y;rw[if_neg (show ¬(3:Int)=1 by decide),if_neg (show ¬(3:Int)=2 by decide),if_pos rfl]at y;simp only[Bool.and_eq_true,dJ,dS,decide_eq_true_eq]at y;exact⟨y.2.2.1,⟨y.2.2.2.1.1,y.2.2.2.1.2.2⟩,y.2.2.2.2.1,y.2.2.2.2.2.1,y.2.2.2.2.2.2.2⟩
   obtain⟨ca,⟨eg,fk⟩,⟨gl,gm⟩,⟨fv,fx⟩,f'⟩:=b7;have e4:Hid _:=ca;have ct:Hid _:=eg;obtain⟨cp,b4⟩:∃c,UInt8.ofNat a.length=c:=⟨_,rfl⟩;have fz:IntKind.u8.wrap (a.length:Int)=(cp.toNat:Int):=by
    rw[<-b4,IntKind.wrap_u8,UInt8.toNat_ofNat'];omega
   have ad:Hid (qb=[3]++aQ C++[cp]++a.flatMap aQ++ar j.toNat++ar g.toNat++ar J.length++J):=by
    unfold Hid;rw[O.out,<-b4];show UInt8.ofNat 3::(aQ C++(UInt8.ofNat a.length::(a.flatMap aQ++(ar j.toNat++(ar g.toNat++(ar J.length++J))))))=_;simp
   have fu:=(gF ca).1;clear ca eg b4 O;obtain⟨wL,bs⟩:∃wL,wL=p.alloc (.cells #[.int .u8 3] 5):=⟨_,rfl⟩;have a3:Ext p wL:=by rw[bs];exact(Ext.refl _).alloc _
   have M:Hid (Ow p.heap.size wL (.slice (some ⟨p.heap.size,0,none⟩) 1 1) [3]):=by rw[bs];exact World.ownsRow_lit p _ 1 (Nat.le_refl _) (by decide) rfl
   have fa:Hid (Ext p wL):=a3;have l3:=a3.cell d3;have l4:=a3.cell d4;have b':=a3.size;have a5:Hid ((Value.slice (some ⟨p.heap.size,0,none⟩) 1 1).ownBlock≠some gb):=fun e=>by
    simp only[Value.ownBlock,Option.some.injEq]at e;omega
   have e6:Hid _:=bs;clear a3 bs;go_upto_region 16 with fail;rw[<-e6.out];apply aI 10 (fun z G=>ChJ wL p.heap.size (.slice (some ⟨p.heap.size,0,none⟩) 1 1) cp [3] ([3]++aQ C) ([3]++aQ C++[cp]) [] (z 8) (z 3) (z 9) none G) [false,false,false,true,false,false,false,false,true,true] [_,_,_,undef,_,_,_,.int .u8 cp.toNat,undef,undef] [none,none,none,none,none,none,none,none,none,none] [[],[],[1],[0,2],[],[4],[5],[6],[7],[3,8]] (by kernel_rfl) (by kernel_rfl) rfl
   .exact ChJ.start M.out ⟨rfl,rfl,rfl,Nat.le_refl _,fun _ _=>rfl⟩
   .simp (maxSteps:=1000000)only[de,cN,bR,cG,cS,List.getD_cons_zero,List.getD_cons_succ,Bool.false_eq_true,if_false,if_true,and_true,true_and,forall_const,Nat.zero_add,Nat.reduceAdd,List.take_succ_cons,List.take_zero,ab,Act.put,List.setIfInBounds_toArray,List.set_cons_zero,List.set_cons_succ];and_intros
    iterate 3 · intro t z F d;intros;rename_i A;have f3:=d.cell a5.out l3;have f4:=d.cell a5.out l4;go_simp;exact A _ _ d rfl
    .intro t z F d K r R A;obtain⟨B,H⟩:=r;rw[K]at d;go_simp;exact(ln _ [3] C p.heap.size F d.CR (Nat.le_trans b' d.size) (by simp) e4.out).mono (by rintro e' G ⟨v',rfl,T,h2,h3⟩;exact⟨_,rfl,A _ _ (d.CU T h2 h3)⟩)
    iterate 4 · intro t z F d;intros;rename_i A;have f3:=d.cell a5.out l3;have f4:=d.cell a5.out l4;go_simp;exact A _ _ d rfl
    .intro t z F d K r R A;rw[K]at d;go_simp;exact A _ _ d.Cx
    .intro t z F d K r R A;obtain⟨B,H⟩:=r;rw[K]at d;obtain⟨v',G,hr,a1⟩:=d.CJ H B b' (by simp;omega);apply cL (.tmp 60) (.tmp 65) 37 (v:=t 3) (xv:=t 8) (v':=v') (w':=G)
     iterate 4
      .rfl
     .exact hr
     .exact A _ _ a1
   intro t w2 bk r;simp only[di,List.getD_cons_zero,List.getD_cons_succ,Bool.false_eq_true,if_false,if_true]at bk;simp only[bV,Nat.zero_add,Nat.reduceAdd,and_true]at r;simp(maxSteps:=1000000)only[List.drop_succ_cons,List.drop_zero,Nat.zero_add,Nat.reduceAdd,List.take_succ_cons,List.take_zero,ab,Act.put,List.setIfInBounds_toArray,List.set_cons_zero,List.set_cons_succ,r];clear r;generalize t 3=x3 at *;generalize t 8=x8 at *;generalize t 9=x9 at *;have au:Hid (Ext p w2):=Below.grown fa.out bk.ext b' (fun k r=>(M.out.lt k r).1);have eS:Hid (Ow p.heap.size w2 x9 ([3]++aQ C++[cp])):=bk.CF rfl;have m4:=au.out.cell d4;clear bk l3 l4;go_wp2_with fail;go_loopw [4,70] (fun v i wr=>∃k:Nat,k<=a.length/\i=.int .i64 k/\Hid (Ow p.heap.size wr v ([3]++aQ C++[cp]++(a.take k).flatMap aQ))/\Hid (Ext p wr)) (fun _ i _=>a.length - (intOf i).toNat)
   case atStart=>exact⟨0,Nat.zero_le _,rfl,by unfold Hid;simpa using eS.out,au⟩
   case round =>
   obtain⟨k,r,rfl,Z,S⟩:=hrel;have a6:Hid (([3]++aQ C++[cp]++(a.take k).flatMap aQ).length<=1000):=by
    unfold Hid;have y:=kM a k ct.out;simp only[List.length_append,List.length_cons,List.length_nil];omega
   by_cases a2:k<a.length
   .obtain ⟨x,hx⟩:∃x,a[k]? = some x:=⟨_,List.getElem?_eq_getElem a2⟩;obtain⟨bb,oo,fj,hc⟩:=cs.out k a2;subst fj;have y1:=S.out.cell (E.out.cell (hc k a2));rw[show a.getD k []=x by rw[List.getD_eq_getElem?_getD,hx];rfl]at y1;have fb:Hid (al x=true):=List.all_eq_true.1 ct.out x (List.mem_of_getElem? hx);have b1:Hid ((a.take (k+1)).flatMap aQ=(a.take k).flatMap aQ++aQ x):=by
     unfold Hid;rw[List.take_add_one,hx];simp
    have aa:=S.out.size;clear hx hc;go_wp2_with fail;go_at_call 144;refine(ln _ _ x p.heap.size wr Z.out aa (by have:=a6.out;omega) fb.out).mono ?_;rintro e9 w3 ⟨v3,rfl,D,dl,fi⟩;have a0:Hid (Ext p w3):=aj S.out Z.out dl;have a8:Hid (Ow p.heap.size w3 v3 ([3]++aQ C++[cp]++(a.take (k+1)).flatMap aQ)):=by
     unfold Hid;rw[b1.out,<-List.append_assoc];exact D
    clear D dl fi;go_wp2_with fail;go_roundw
    case rel=>exact⟨k+1,by omega,by go_num,a8,a0⟩
    case measure=>simp[intOf];omega
   .have b5:k=a.length:=by omega
    subst b5;rw[List.take_length]at Z a6;have n5:=S.out.cell d5;have n6:=S.out.cell d6;have n7:=S.out.cell d7;obtain⟨P,Q⟩:∃l,[3]++aQ C++[cp]++a.flatMap aQ=l:=⟨_,rfl⟩;rw[Q]at Z a6;have bx:Hid _:=Q;have cx:=a6.out;have L:Hid (u4.ownBlock≠some gb):=fun e=>by have:=(Z.out.lt _ e).1;omega
    have aa:=S.out.size;have gd:=bH (n:=j.toNat) (by unfold bi;omega);have gf:=bH (n:=g.toNat) (by unfold bi;omega);have gh:=bH (n:=J.length) (by unfold bi;omega);clear Q r;go_upto_region 22 with fail;apply aI 11 (fun z G=>ChJ wr p.heap.size u4 0 P (P++ar j.toNat) (P++ar j.toNat++ar g.toNat) (P++ar j.toNat++ar g.toNat++ar J.length) none (z 3) (z 6) (z 10) G) [false,false,false,true,false,false,true,false,false,false,true] [_,_,_,undef,_,_,undef,_,_,_,undef] [none,none,none,none,none,none,none,none,none,none,none] [[],[],[1],[0,2],[],[4],[3,5],[],[7],[8],[6,9]] (by kernel_rfl) (by kernel_rfl) rfl
    .exact ChJ.start Z.out ⟨rfl,rfl,rfl,Nat.le_refl _,fun _ _=>rfl⟩
    .simp (maxSteps:=1000000)only[de,cN,bR,cG,cS,List.getD_cons_zero,List.getD_cons_succ,Bool.false_eq_true,if_false,if_true,and_true,true_and,forall_const,Nat.zero_add,Nat.reduceAdd,List.take_succ_cons,List.take_zero,ab,Act.put,List.setIfInBounds_toArray,List.set_cons_zero,List.set_cons_succ];and_intros
     iterate 3 · intro t z F d;intros;rename_i A;have f5:=d.cell L.out n5;have f6:=d.cell L.out n6;have f7:=d.cell L.out n7;go_simp;exact A _ _ d rfl
     .intro t z F d K r R A;obtain⟨B,H⟩:=r;rw[K]at d;go_simp;exact(gD _ P j p.heap.size F d.CR (Nat.le_trans aa d.size) (by omega)).mono (by rintro e' G ⟨v',rfl,T,h2,h3⟩;rw[mi _ (by omega) (by unfold bi;omega)]at T;exact⟨_,rfl,A _ _ (d.CU T h2 h3)⟩)
     iterate 2 · intro t z F d;intros;rename_i A;have f5:=d.cell L.out n5;have f6:=d.cell L.out n6;have f7:=d.cell L.out n7;go_simp;exact A _ _ d rfl
     .intro t z F d K r R A;obtain⟨B,H⟩:=r;rw[K]at d;go_simp;exact(gD _ (P++ar j.toNat) g p.heap.size F (d.CP B) (Nat.le_trans aa d.size) (by simp only[List.length_append];omega)).mono (by rintro e' G ⟨v',rfl,T,h2,h3⟩;rw[mi _ (by omega) (by unfold bi;omega)]at T;exact⟨_,rfl,A _ _ (d.CV B T h2 h3)⟩)
     iterate 3 · intro t z F d;intros;rename_i A;have f5:=d.cell L.out n5;have f6:=d.cell L.out n6;have f7:=d.cell L.out n7;go_simp;exact A _ _ d rfl
     .intro t z F d K r R A;obtain⟨B,H⟩:=r;rw[K]at d;go_simp;exact(gD _ (P++ar j.toNat++ar g.toNat) J.length p.heap.size F (d.CF B) (Nat.le_trans aa d.size) (by simp only[List.length_append];omega)).mono (by rintro e' G ⟨v',rfl,T,h2,h3⟩;rw[iU _ (by unfold bi;omega)]at T;exact⟨_,rfl,A _ _ (d.DG B T h2 h3)⟩)
    intro t w3 bl r;simp only[di,List.getD_cons_zero,List.getD_cons_succ,Bool.false_eq_true,if_false,if_true]at bl;simp only[bV,Nat.zero_add,Nat.reduceAdd,and_true]at r;simp(maxSteps:=1000000)only[List.drop_succ_cons,List.drop_zero,Nat.zero_add,Nat.reduceAdd,List.take_succ_cons,List.take_zero,ab,Act.put,List.setIfInBounds_toArray,List.set_cons_zero,List.set_cons_succ,r];clear r;generalize t 3=x3 at *;generalize t 6=x6 at *;generalize t 10=fn at *;have a0:Hid (Ext p w3):=Below.grown S.out bl.ext aa (fun k r=>(Z.out.lt k r).1);have D:=bl.CQ rfl;obtain⟨L3,a'⟩:∃l,P++ar j.toNat++ar g.toNat++ar J.length=l:=⟨_,rfl⟩;have fs:L3.length<=1100:=by
     rw[<-a'];simp only[List.length_append];omega
    have eE:Hid _:=a';rw[a']at D;have a8:Hid (Ow p.heap.size w3 fn L3):=D;have q7:=a0.out.cell d7;have fl:=a0.out.size;clear a' D bl n5 n6 n7
    go_wp2_with (at_builtin;go_must (refine vj rfl _ _ rfl rfl p.heap.size _ L3 rfl a8.out J rfl (by omega) fl ?_;intro v' w4 b8 fc ga))
    go_ret2;refine⟨⟨_,rfl,?_⟩,E.out.trans (aj a0.out a8.out fc)⟩;have y:=b8.mono E.out.size;rw[ad.out,bx.out,eE.out];exact y
end
section
open Go Go.RowKit
variable {w:World} {bb oo:Nat} {l:B8}
theorem IsBytes.from {a:Nat} (k:Nat) (h:IsBytes w (.slice (some ⟨bb,oo,none⟩) l.length a) l) (C:k<=l.length) (j:Addr) (t:k<l.length->j=⟨bb,oo+k,none⟩):IsBytes w (.slice (some j) (l.length - k) (a - k)) (l.drop k):=by
 obtain⟨y,n,g,z,A,B,r⟩:=h;simp only[Value.slice.injEq,true_and]at g;obtain⟨rfl,rfl⟩:=g;have c:(l.drop k).length=l.length - k:=List.length_drop;unfold IsBytes;rw[c];refine⟨_,a - k,rfl,by omega,by omega,by omega,fun e=>?_⟩;have d:k<l.length:=by
  rcases Nat.lt_or_ge k l.length with h | h
  .exact h
  .rw [List.drop_eq_nil_of_le h]at e;simp at e
 obtain⟨b,o,g,x⟩:=r (by intro p;rw[List.map_eq_nil_iff]at p;subst p;simp at d);cases g;refine⟨bb,oo+k,by rw[t d],fun i u q=>?_⟩;rw[List.getElem?_map,List.getElem?_drop]at q;have:=x (k+i) u (by rw[List.getElem?_map];exact q)
 rwa [<-Nat.add_assoc]at this
def IsSrc (w:World) (g:Nat) (s:Src):Prop:=∃bb oo c,w.heap[g]? = some (.cells #[.slice (some ⟨bb,oo,none⟩) s.b.length c,.bool s.bad] 239 (0,0))/\IsBytes w (.slice (some ⟨bb,oo,none⟩) s.b.length c) s.b/\bb+2<g
variable {w':World} {g:Nat} {s:Src}
theorem IsSrc.ext (h:IsSrc w g s) (a:Ext w w'):IsSrc w' g s:=by
 obtain⟨bb,oo,c,b,d,e⟩:=h;exact⟨bb,oo,c,Ext.row a b,d.ext a,e⟩
theorem IsSrc.Cf {b:Option Nat} (h:IsSrc w g s) (d:w.grownBy w' b) (p:∀k,b=some k->g<k):IsSrc w' g s:=by
 obtain⟨bb,oo,c,j,o,q⟩:=h;have i:=(Array.getElem?_eq_some_iff.1 j).1;refine⟨bb,oo,c,(d.block g i (fun e=>by have:=p g e.symm;omega)).trans j,?_,q⟩
 cases b with
 | none=>exact IsBytes.ext o (Below.grown (Ext.refl w) d (Nat.le_refl _) (fun k t=>by cases t))
 | some k=>exact Row.but o d (fun a n c r=>by cases r;have:=p k rfl;show bb≠k;omega)
theorem ko {a b:Value} {t:TypeId} {fr:Nat×Nat} (h:w.heap[g]? = some (.cells #[a,b] t fr)):w.cell? ⟨g,0,none⟩=some a/\w.cell? ⟨g,1,none⟩=some b:=by
 simp[World.cell?,h]
theorem IsBytes.set {n c o:Nat} {x:Value} (h:IsBytes w (.slice (some ⟨bb,oo,none⟩) n c) l) (d:bb+2<g):IsBytes (w.setCell ⟨g,o,none⟩ x) (.slice (some ⟨bb,oo,none⟩) n c) l :=
 Row.but h (aH w g o x) (fun a n c b=>by cases b;show bb≠g;omega)
theorem js (g:Nat) (s:Src) (n:Nat) (w:World) (h:IsSrc w g s) :
  Calls Tryz.prog 207 #[.pointer (some ⟨g,0,none⟩),.int .i64 n] w fun e w'=>∃v,e=.returned v/\IsBytes w' v (aD s n).2/\IsSrc w' g (aD s n).1/\w.grownBy w' (some g):=by
 obtain⟨bb,oo,c,r,y,u⟩:=h;obtain⟨I,J⟩:=ko r;have K:w.frozen? ⟨g,0,none⟩=false:=by simp[World.frozen?,r]
 have L:w.frozen? ⟨g,1,none⟩=false:=by simp[World.frozen?,r]
 have j:Hid _:=r;have i:Hid _:=y;have d:Hid _:=u;have A:s.b.length<=c:=by
  obtain⟨_,_,C,a,-⟩:=y;cases C;exact a
 have G:c<=9223372036854775807:=by
  obtain⟨_,_,C,-,a,-⟩:=y;cases C;exact a
 obtain⟨b,k⟩:=s;have i:Hid (IsBytes w (.slice (some ⟨bb,oo,none⟩) b.length c) b):=i.out;dsimp only at I J j A;obtain⟨⟨F,t⟩,E⟩:∃q,aD ⟨b,k⟩ n=q:=⟨_,rfl⟩;rw[E];have z:Hid _:=E;clear r y u E;go_enter Tryz.func207,Tryz.ntmps207
 cases k with
 | true =>
  obtain⟨rfl,rfl⟩:(⟨b,true⟩:Src)=F/\[]=t:=by
   have a:=z.out;unfold aD at a;rw[if_pos (.inl rfl)]at a;exact⟨(Prod.mk.inj a).1,(Prod.mk.inj a).2⟩
  go_wp2;go_ret;refine⟨_,rfl,IsBytes.nil _,⟨bb,oo,c,?_,IsBytes.set i.out d.out,d.out⟩,aH _ _ _ _⟩;rw[heap_setCell_same w g 1 _ _ _ j.out];simp
 | false =>
  by_cases M:b.length<n
  .have D:(b.length:Int)<(n:Int):=by omega
   obtain⟨rfl,rfl⟩:(⟨b,true⟩:Src)=F/\[]=t:=by
    have a:=z.out;unfold aD at a;rw[if_pos (.inr M)]at a;exact⟨(Prod.mk.inj a).1,(Prod.mk.inj a).2⟩
   go_wp2;go_ret;refine⟨_,rfl,IsBytes.nil _,⟨bb,oo,c,?_,IsBytes.set i.out d.out,d.out⟩,aH _ _ _ _⟩;rw[heap_setCell_same w g 1 _ _ _ j.out];simp
  .have D:¬(b.length:Int)<(n:Int):=by omega
   obtain⟨rfl,rfl⟩:(⟨b.drop n,false⟩:Src)=F/\b.take n=t:=by
    have a:=z.out;unfold aD at a;rw[if_neg (by simp;omega)]at a;exact⟨(Prod.mk.inj a).1,(Prod.mk.inj a).2⟩
   have N:n<=c:=by omega
   by_cases p:c=n
   .subst p;have B:b.length=c:=by omega
    go_wp2;go_ret;refine⟨_,rfl,?_,⟨bb,oo,0,?_,?_,d.out⟩,aH _ _ _ _⟩
    .exact (IsBytes.take i.out (by omega)).set d.out
    .rw [heap_setCell_same w g 0 _ _ _ j.out];simp[B]
    .rw [List.drop_eq_nil_of_le (by omega)];exact⟨_,0,rfl,Nat.le_refl _,by omega,by simp,fun h=>absurd rfl h⟩
   .have H:¬c=n:=p;go_wp2;go_ret;refine⟨_,rfl,?_,⟨bb,oo+n,c - n,?_,?_,d.out⟩,aH _ _ _ _⟩
    .exact (IsBytes.take i.out (by omega)).set d.out
    .rw [heap_setCell_same w g 0 _ _ _ j.out];simp
    .have a:=(IsBytes.from n i.out (by omega) ⟨bb,oo+n,none⟩ (fun _=>rfl)).set (g:=g) (o:=0) (x:=.slice (some ⟨bb,oo+n,none⟩) (b.length - n) (c - n)) d.out;rw[List.length_drop];exact a
theorem tP (g:Nat) (s:Src) (w:World) (h:IsSrc w g s) :
  Calls Tryz.prog 206 #[.pointer (some ⟨g,0,none⟩)] w fun e w'=>e=.returned (.int .i64 ((bp s).2:Nat))/\IsSrc w' g (bp s).1/\w.grownBy w' (some g):=by
 have n:Hid _:=js g s 1 w h;obtain⟨⟨F,t⟩,j⟩:∃q,aD s 1=q:=⟨_,rfl⟩;have p:(bp s).1=F:=by unfold bp;rw[j]
 have u:(bp s).2=(t.headD 0).toNat:=by unfold bp;rw[j]
 have k:t.length<=1:=by
  have b:=congrArg Prod.snd j;unfold aD at b;split at b
  .dsimp only at b;rw[<-b];simp
  .dsimp only at b;rw[<-b,List.length_take];omega
 rw[j]at n;rw[p,u];clear j p u h;go_enter Tryz.func206,Tryz.ntmps206;go_wp2_with fail;go_at_call 207;refine Calls.mono n.out ?_;rintro H G ⟨v,rfl,D,C,B⟩;have i:Hid _:=C;have d:Hid _:=B;obtain⟨a,c,rfl,I,J,K,z⟩:=D.get;clear C B n D
 cases t with
 | nil =>
  go_wp2;go_ret;exact⟨rfl,i.out,d.out⟩
 | cons x r =>
  obtain⟨bb,oo,rfl,A⟩:=z 0 (by simp);have L:G.cell? ⟨bb,oo,none⟩=some (.int .u8 x.toNat):=A 0 (by simp);have E:r=[]:=by
   cases r with
   | nil=>rfl
   | cons y r=>simp at k
  subst E;have o:Hid (wrap64 (x.toNat:Int)=(x.toNat:Int)):=IntWalk.wrap64_in _ (by have:=x.toNat_lt;omega);clear z A k;go_wp2;go_ret;exact⟨iJ o.out,i.out,d.out⟩
theorem lO (g:Nat) (s:Src) (w:World) (h:IsSrc w g s) :
  Calls Tryz.prog 208 #[.pointer (some ⟨g,0,none⟩)] w fun e w'=>e=.returned (S8 (bn s).2)/\IsSrc w' g (bn s).1/\w.grownBy w' (some g):=by
 have i:Hid _:=js g s 32 w h;obtain⟨⟨A,t⟩,c⟩:∃q,aD s 32=q:=⟨_,rfl⟩;have n:(bn s).1=A:=by unfold bn;rw[c]
 have o:(bn s).2=cd t:=by unfold bn;rw[c]
 have z:t.length<=32:=by
  have a:=congrArg Prod.snd c;unfold aD at a;split at a
  .dsimp only at a;rw[<-a];simp
  .dsimp only at a;rw[<-a,List.length_take];omega
 rw[c]at i;rw[n,o];clear c n o h;go_enter Tryz.func208,Tryz.ntmps208;go_wp2_with fail;go_at_call 207;refine Calls.mono i.out ?_;rintro y B ⟨v,rfl,u,r,p⟩;have k:Hid _:=r;have j:Hid _:=p;have x:Hid _:=u;clear r p i u;go_wp2_with fail;go_at_call 55;refine(tB v t B x.out (by omega)).mono ?_;rintro y C ⟨rfl,d⟩;have b:Hid _:=d;clear d;go_wp2;go_ret;exact⟨rfl,IsSrc.ext k.out b.out,j.out.trans ((Ext.grown b.out).but _)⟩
theorem jq (g:Nat) (s:Src) (w:World) (h:IsSrc w g s) :
  Calls Tryz.prog 205 #[.pointer (some ⟨g,0,none⟩)] w fun e w'=>e=.returned (.int .i64 ((aJ false s).2:Nat))/\IsSrc w' g (aJ false s).1/\w.grownBy w' (some g):=by
 obtain⟨bb,oo,c,o,E,y⟩:=id h;have M:Hid (IsSrc w g s):=h;obtain⟨S,O⟩:=ko o;have F:=zv _ s.b w E;obtain⟨⟨n,en,A⟩,i⟩:∃q,cR s.b=q:=⟨_,rfl⟩;have j:aJ false s=if A≠0 then(⟨s.b,true⟩,0)else((aD s en).1,n):=by
  unfold aJ;rw[i];simp
 rw[i]at F;obtain⟨⟨J,r⟩,H⟩:∃q,aJ false s=q:=⟨_,rfl⟩;rw[H]at j ⊢;have u:Hid _:=j;have G:Hid _:=F;have L:Hid _:=o;have K:Hid _:=E;have t:Hid _:=y;clear o E y F i j H h;go_enter Tryz.func205,Tryz.ntmps205;go_wp2_with fail;go_at_call 232;refine Calls.mono G.out ?_;rintro Q B ⟨rfl,k⟩;have b:Hid (Ext w B):=k;have p:Hid _:=Ext.row k L.out;have R:B.frozen? ⟨g,1,none⟩=false:=by simp[World.frozen?,p.out]
 have P:=b.out.cell O;clear k G
 try dsimp only
 by_cases a:A=0
 .have x:(A==0)=true:=by simpa using a
  obtain⟨z,rfl⟩:J=(aD s en).1/\r=n:=by
   have d:=u.out;rw[if_neg (by simpa using a)]at d;exact⟨(Prod.mk.inj d).1,(Prod.mk.inj d).2⟩
  have D:Hid _:=z;clear a z;go_wp2_with fail;go_at_call 207;refine(js g s en B (IsSrc.ext M.out b.out)).mono ?_;rintro Q T ⟨v,rfl,-,I,o⟩;have N:Hid _:=I;have C:Hid _:=o;clear I o;go_wp2;go_ret;exact⟨rfl,by rw[D.out];exact N.out,((Ext.grown b.out).but _).trans C.out⟩
 .have x:(A==0)=false:=by simpa using a
  obtain⟨rfl,rfl⟩:J=⟨s.b,true⟩/\r=0:=by
   have d:=u.out;rw[if_pos a]at d;exact⟨(Prod.mk.inj d).1,(Prod.mk.inj d).2⟩
  clear a;go_wp2;go_ret;refine⟨rfl,⟨bb,oo,c,?_,IsBytes.set (IsBytes.ext K.out b.out) t.out,t.out⟩,((Ext.grown b.out).but _).trans (aH _ _ _ _)⟩;rw[heap_setCell_same B g 1 _ _ _ p.out];simp
end
end Go.Proofs.YtfabjgfmiaammaaGreatDoor
