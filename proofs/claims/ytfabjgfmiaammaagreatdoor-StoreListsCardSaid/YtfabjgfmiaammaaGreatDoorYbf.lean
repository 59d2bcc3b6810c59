/- Contracts of the program's functions and plain laws behind the card. Conditions: as each theorem states. -/
import Derived.Test.YtfabjgfmiaammaaGreatDoorYbd
import Derived.Test.YtfabjgfmiaammaaGreatDoorYag
import Derived.Deep.DeepCutAuto
import Derived.Deep.CutBlock
set_option linter.unusedVariables false
set_option linter.unusedSimpArgs false
set_option linter.unusedSectionVars false
set_option maxRecDepth 100000
set_option maxHeartbeats 64000000
namespace Go.Proofs.YtfabjgfmiaammaaGreatDoor
section
open Go Go.RowKit
variable [Inhabited bf]
variable {w0 w:World} {fv xv:Value} {m:Fs} {n:Nat} {cs:List Value} {o:Opn}
theorem ur {S O O':Nat->Prop} {Z:Fs} (hT:Two2 w0 S O O' w fv xv m Z) (hE:Env w0) (hg:Good n m) (fc:Good n Z) (hn:n<=60000) (ho:IsOpn w0 cs o) (bk:jP o) :
  Calls Tryz.prog 46 #[fv,xv,.agg cs.toArray] w (uX w0 S O O' fv xv m Z (fL m o) (fL Z o) w):=by
 obtain⟨y,F,a5,a6,d,X,l,M⟩:=o;obtain⟨m',d9⟩:∃m',fL m ⟨y,F,a5,a6,d,X,l,M⟩=m':=⟨_,rfl⟩;have a3:Hid _:=d9;obtain⟨D,cb⟩:∃m',fL Z ⟨y,F,a5,a6,d,X,l,M⟩=m':=⟨_,rfl⟩;have aa:Hid _:=cb;rw[d9,cb];clear d9 cb;obtain⟨vd,vp,rfl,hd,cv⟩:=ho;obtain⟨da,dc,rfl,-⟩:=id hd.bytes;obtain⟨_,⟨pa,pc,rfl,-⟩,-⟩:=id cv;simp only at hd cv;have hp:=bk.path;have hq:=bk.dest;have d7:=bk.keep;have d':=bk.BW;have g5:=bk.Ck;simp only at hp hq d7 d' g5;have ea:=hT.ext;have d3:=hT.base;obtain⟨gf,g7⟩:∃g,fv=.pointer (some ⟨g,0,none⟩):=by
  obtain⟨g,gm,gd,vp,vl,vu,L,c0,hf,-⟩:=hT.fs;exact⟨g,hf⟩
 subst g7;obtain⟨gx,rfl⟩:=hT.ref.ptr;obtain⟨wb,cc⟩:∃wb,wb=w.alloc (.cells #[.int .i64 y,.int .i64 F,.int .i64 a5,.int .i64 a6,S8 d,S8 X,.slice da l.length dc,.slice pa M.length pc] 44):=⟨_,rfl⟩;have ec:Ext w wb:=by rw[cc];exact(Ext.refl _).alloc _
 have d4:wb.heap[w.heap.size]? = some (.cells #[.int .i64 y,.int .i64 F,.int .i64 a5,.int .i64 a6,S8 d,S8 X,.slice da l.length dc,.slice pa M.length pc] 44 (0,0)):=by rw[cc];exact ae _ _
 obtain⟨b0,b1,b2,b3,b4,b5,b6,b7⟩:=aZ d4;have hJ:w.heap.size<wb.heap.size:=by rw[cc];simp
 have HT:Hid _:=hT;have HE:Hid _:=hE;have HG:Hid _:=hg;have bv:Hid _:=fc;have gv:Hid _:=cc;have gz:Hid _:=ec;have ft:Hid _:=d4;have a8:Hid (OldB (.slice da l.length dc) l):=hd;have fr:Hid _:=d3;have d1:Hid _:=ea;have eo:Hid (ReadO w0 IsEvI (.slice pa M.length pc) M):=cv;have f1:Hid _:=OldB.at hd ((d3.trans ea).trans ec);have eh:Hid _:=bk;clear hT hE hg fc cc ec d4 hd ea d3 cv bk;go_enter Tryz.func46,Tryz.ntmps46;go_upto_region 1 with fail;rw[show w.alloc (.cells #[.int .i64 y,.int .i64 F,.int .i64 a5,.int .i64 a6,S8 d,S8 X,.slice da l.length dc,.slice pa M.length pc] 44)=wb from gv.out.symm];go_wp2_with fail;go_at_call 29;refine(vC _ l _ f1.out).mono ?_;rintro e w1 ⟨⟨hQ,rfl,b9⟩,ce⟩;obtain⟨ia,ic,g8,-⟩:=Row.BV b9 a8.out.bytes.len;subst g8;have cn:Hid (IsBytes w1 (.slice ia l.length ic) l):=Row.BV b9 a8.out.bytes.len;have bh:Hid (TypB w1 (.slice ia l.length ic)):=TypB.BV b9;have ds:Hid _:=b9;have bs:Ext w w1:=Ext.trans gz.out ce;have K:Hid (lc S O O' (fun k=>k<w.heap.size) w1 (.pointer (some ⟨gf,0,none⟩)) (.pointer (some ⟨gx,0,none⟩)) m Z):=Two2.pair HT.out HE.out HG.out bv.out hn bs;have a4:Hid _:=(Two2.Co HT.out HE.out).2;have V:Hid _:=ce.row ft.out;have B:Hid (¬O w.heap.size/\¬O' w.heap.size):=⟨fun h=>by have:=HT.out.lo _ h;omega,fun h=>by have:=HT.out.Cu _ h;omega⟩;have bt:Hid (Ext cy w1):=Ext.trans (Ext.trans fr.out d1.out) bs;have f0:Hid (IsBytes w1 (.slice da l.length dc) l):=OldB.at a8.out bt.out;have bS:Hid _:=bs;have hM:=HG.out.time;have hB:=HG.out.calls;have ht:=bv.out.time;have hm:=bv.out.calls;replace b0:=ce.cell b0;have hs:=ce.size;clear b9 ce bs b1 b2 b3 b4 b5 b6 b7;obtain⟨kb,U⟩:∃b,(y==0)=b:=⟨_,rfl⟩
 go_upto_block 0 with fail
 have a2:Hid _:=U;clear U;go_cut [8] (fun c wx=>∃r:Bool,c=.bool r/\(m=Z->r=true)/\Both S O O' (fun k=>k<w.heap.size) w1 (.pointer (some ⟨gf,0,none⟩)) (.pointer (some ⟨gx,0,none⟩)) m' D wx)
 case first =>
  by_cases h0:y=0
  .as_aux_lemma =>
   subst h0;have U:kb=true:=by rw[<-a2.out];rfl
   subst U;have HM:Hid ((bZ m d F l).1=m'):=a3.out;have W:Hid ((bZ Z d F l).1=D):=aa.out;obtain⟨J,E⟩:∃J,(bZ m d F l).2=J:=⟨_,rfl⟩;have au:Hid _:=E;obtain⟨Y,q⟩:∃J,(bZ Z d F l).2=J:=⟨_,rfl⟩;have N:Hid _:=q;obtain⟨A,Q⟩:∃A,(J==Y)=A:=⟨_,rfl⟩;have P:Hid (m=Z->A=true):=fun h=>by rw[<-Q,<-E,<-q,h];simp
   clear E q;go_upto_region 5 with fail;apply aI 16 (fun z w'=>DJ S O O' (fun k=>k<w.heap.size) w1 (.pointer (some ⟨gf,0,none⟩)) (.pointer (some ⟨gx,0,none⟩)) m' D (fun u=>u=.int .i64 J) (fun u=>u=.int .i64 Y) (z 6) (z 14) w') [false,false,false,false,false,false,true,false,false,false,false,false,false,false,true,false] [_,_,_,_,_,_,undef,_,_,_,_,_,_,_,undef,.bool A] [none,none,none,none,none,none,none,none,none,none,none,none,none,none,none,none] [[],[],[1],[],[3],[],[0,2,4,5],[],[],[8],[],[10],[],[12],[7,9,11,13],[6,14]] (by kernel_rfl) (by kernel_rfl) rfl
   .exact DJ.start ⟨rfl,rfl,rfl,Nat.le_refl _,fun _ _=>rfl⟩
   .simp (maxSteps:=1000000)only[de,cN,bR,cG,cS,List.getD_cons_zero,List.getD_cons_succ,Bool.false_eq_true,if_false,if_true,and_true,true_and,forall_const,Nat.zero_add,Nat.reduceAdd,List.take_succ_cons,List.take_zero,ab,Act.put,List.setIfInBounds_toArray,List.set_cons_zero,List.set_cons_succ];and_intros
    iterate 6 · intro T z wq p;intros;rename_i G;obtain⟨c0,c1,c2,c3,c4,c5,c6,c7⟩:=aZ (p.row V.out B.out.1 B.out.2);go_simp;exact G _ _ p rfl
    .intro T z wq p hz t R G;obtain⟨H,I,bd,ca⟩:=t;rw[hz]at p;go_simp;exact(um d F _ l (DJ.fin K.out a4.out p) hp (p.bytes cn.out bh.out) (lU (p.typed bh.out) ⟨_,_,_,rfl⟩)).mono (by rintro e' w4 ⟨rfl,C⟩;rw[HM.out]at C;exact⟨_,rfl,G _ _ (DJ.Cr K.out p (by rw[au.out]) C)⟩)
    iterate 7 · intro T z wq p;intros;rename_i G;obtain⟨c0,c1,c2,c3,c4,c5,c6,c7⟩:=aZ (p.row V.out B.out.1 B.out.2);go_simp;exact G _ _ p rfl
    .intro T z wq p hz t R G;obtain⟨H,I,bd,ca⟩:=t;rw[hz]at p;go_simp;exact(sd d F _ l (DJ.B5 K.out p) hp (OldB.at a8.out (DJ.base K.out bt.out p)) (OldB.out a8.out K.out.B5.high)).mono (by rintro e' w4 ⟨rfl,C⟩;rw[W.out]at C;exact⟨_,rfl,G _ _ (DJ.Cs K.out p (by rw[N.out]) C)⟩)
    .intro T z wq p t R G;obtain⟨H,I⟩:=t;rw[H,I]at p;obtain⟨e1,e2,-⟩:=id p;go_simp;exact G _ _ (by rw[H,I];exact p) rfl
   intro T w2 ad t;simp only[di,List.getD_cons_zero,List.getD_cons_succ,Bool.false_eq_true,if_false,if_true]at ad;simp only[bV,Nat.zero_add,Nat.reduceAdd,and_true]at t;simp(maxSteps:=1000000)only[List.drop_succ_cons,List.drop_zero,Nat.zero_add,Nat.reduceAdd,List.take_succ_cons,List.take_zero,ab,Act.put,List.setIfInBounds_toArray,List.set_cons_zero,List.set_cons_succ,t];clear t;generalize T 6=x6 at *;generalize T 14=fn at *;obtain⟨rfl,rfl,j⟩:=ad;go_wp2_with fail;go_meet
   case rel=>exact⟨_,rfl,P.out,j⟩
  by_cases h1:y=1
  .as_aux_lemma =>
   subst h1;have U:kb=false:=by rw[<-a2.out];rfl
   subst U;have HM:Hid ((bG m d F l).1=m'):=a3.out;have W:Hid ((bG Z d F l).1=D):=aa.out;obtain⟨J,E⟩:∃J,(bG m d F l).2=J:=⟨_,rfl⟩;have au:Hid _:=E;obtain⟨Y,q⟩:∃J,(bG Z d F l).2=J:=⟨_,rfl⟩;have N:Hid _:=q;obtain⟨A,Q⟩:∃A,(J==Y)=A:=⟨_,rfl⟩;have P:Hid (m=Z->A=true):=fun h=>by rw[<-Q,<-E,<-q,h];simp
   clear E q;go_upto_region 7 with fail;apply aI 16 (fun z w'=>DJ S O O' (fun k=>k<w.heap.size) w1 (.pointer (some ⟨gf,0,none⟩)) (.pointer (some ⟨gx,0,none⟩)) m' D (fun u=>u=.int .i64 J) (fun u=>u=.int .i64 Y) (z 6) (z 14) w') [false,false,false,false,false,false,true,false,false,false,false,false,false,false,true,false] [_,_,_,_,_,_,undef,_,_,_,_,_,_,_,undef,.bool A] [none,none,none,none,none,none,none,none,none,none,none,none,none,none,none,none] [[],[],[1],[],[3],[],[0,2,4,5],[],[],[8],[],[10],[],[12],[7,9,11,13],[6,14]] (by kernel_rfl) (by kernel_rfl) rfl
   .exact DJ.start ⟨rfl,rfl,rfl,Nat.le_refl _,fun _ _=>rfl⟩
   .simp (maxSteps:=1000000)only[de,cN,bR,cG,cS,List.getD_cons_zero,List.getD_cons_succ,Bool.false_eq_true,if_false,if_true,and_true,true_and,forall_const,Nat.zero_add,Nat.reduceAdd,List.take_succ_cons,List.take_zero,ab,Act.put,List.setIfInBounds_toArray,List.set_cons_zero,List.set_cons_succ];and_intros
    iterate 6 · intro T z wq p;intros;rename_i G;obtain⟨c0,c1,c2,c3,c4,c5,c6,c7⟩:=aZ (p.row V.out B.out.1 B.out.2);go_simp;exact G _ _ p rfl
    .intro T z wq p hz t R G;obtain⟨H,I,bd,ca⟩:=t;rw[hz]at p;go_simp;exact(lW d F _ l (DJ.fin K.out a4.out p) hp (p.bytes cn.out bh.out) (lU (p.typed bh.out) ⟨_,_,_,rfl⟩)).mono (by rintro e' w4 ⟨rfl,C⟩;rw[HM.out]at C;exact⟨_,rfl,G _ _ (DJ.Cr K.out p (by rw[au.out]) C)⟩)
    iterate 7 · intro T z wq p;intros;rename_i G;obtain⟨c0,c1,c2,c3,c4,c5,c6,c7⟩:=aZ (p.row V.out B.out.1 B.out.2);go_simp;exact G _ _ p rfl
    .intro T z wq p hz t R G;obtain⟨H,I,bd,ca⟩:=t;rw[hz]at p;go_simp;exact(kX d F _ l (DJ.B5 K.out p) hp (OldB.at a8.out (DJ.base K.out bt.out p)) (OldB.out a8.out K.out.B5.high)).mono (by rintro e' w4 ⟨rfl,C⟩;rw[W.out]at C;exact⟨_,rfl,G _ _ (DJ.Cs K.out p (by rw[N.out]) C)⟩)
    .intro T z wq p t R G;obtain⟨H,I⟩:=t;rw[H,I]at p;obtain⟨e1,e2,-⟩:=id p;go_simp;exact G _ _ (by rw[H,I];exact p) rfl
   intro T w2 ad t;simp only[di,List.getD_cons_zero,List.getD_cons_succ,Bool.false_eq_true,if_false,if_true]at ad;simp only[bV,Nat.zero_add,Nat.reduceAdd,and_true]at t;simp(maxSteps:=1000000)only[List.drop_succ_cons,List.drop_zero,Nat.zero_add,Nat.reduceAdd,List.take_succ_cons,List.take_zero,ab,Act.put,List.setIfInBounds_toArray,List.set_cons_zero,List.set_cons_succ,t];clear t;generalize T 6=x6 at *;generalize T 14=fn at *;obtain⟨rfl,rfl,j⟩:=ad;go_wp2_with fail;go_meet
   case rel=>exact⟨_,rfl,P.out,j⟩
  by_cases h2:y=2
  .as_aux_lemma =>
   subst h2;have U:kb=false:=by rw[<-a2.out];rfl
   subst U;have HM:Hid ((aP m d X false).1=m'):=a3.out;have W:Hid ((aP Z d X false).1=D):=aa.out;obtain⟨J,E⟩:∃J,(aP m d X false).2=J:=⟨_,rfl⟩;have au:Hid _:=E;obtain⟨Y,q⟩:∃J,(aP Z d X false).2=J:=⟨_,rfl⟩;have N:Hid _:=q;obtain⟨A,Q⟩:∃A,(J==Y)=A:=⟨_,rfl⟩;have P:Hid (m=Z->A=true):=fun h=>by rw[<-Q,<-E,<-q,h];simp
   clear E q;go_upto_region 9 with fail;apply aI 13 (fun z w'=>DJ S O O' (fun k=>k<w.heap.size) w1 (.pointer (some ⟨gf,0,none⟩)) (.pointer (some ⟨gx,0,none⟩)) m' D (fun u=>u=.int .i64 J) (fun u=>u=.int .i64 Y) (z 5) (z 11) w') [false,false,false,false,false,true,false,false,false,false,false,true,false] [_,_,_,_,_,undef,_,_,_,_,_,undef,.bool A] [none,none,none,none,none,none,none,none,none,none,none,none,none] [[],[],[1],[],[3],[0,2,4],[],[],[7],[],[9],[6,8,10],[5,11]] (by kernel_rfl) (by kernel_rfl) rfl
   .exact DJ.start ⟨rfl,rfl,rfl,Nat.le_refl _,fun _ _=>rfl⟩
   .simp (maxSteps:=1000000)only[de,cN,bR,cG,cS,List.getD_cons_zero,List.getD_cons_succ,Bool.false_eq_true,if_false,if_true,and_true,true_and,forall_const,Nat.zero_add,Nat.reduceAdd,List.take_succ_cons,List.take_zero,ab,Act.put,List.setIfInBounds_toArray,List.set_cons_zero,List.set_cons_succ];and_intros
    iterate 5 · intro T z wq p;intros;rename_i G;obtain⟨c0,c1,c2,c3,c4,c5,c6,c7⟩:=aZ (p.row V.out B.out.1 B.out.2);go_simp;exact G _ _ p rfl
    .intro T z wq p hz t R G;obtain⟨H,I,bd⟩:=t;rw[hz]at p;go_simp;exact(nh d X (DJ.fin K.out a4.out p) hp hq).mono (by rintro e' w4 ⟨rfl,C⟩;rw[HM.out]at C;exact⟨_,rfl,G _ _ (DJ.Cr K.out p (by rw[au.out]) C)⟩)
    iterate 5 · intro T z wq p;intros;rename_i G;obtain⟨c0,c1,c2,c3,c4,c5,c6,c7⟩:=aZ (p.row V.out B.out.1 B.out.2);go_simp;exact G _ _ p rfl
    .intro T z wq p hz t R G;obtain⟨H,I,bd⟩:=t;rw[hz]at p;go_simp;exact(lD d X (DJ.B5 K.out p) hp hq).mono (by rintro e' w4 ⟨rfl,C⟩;rw[W.out]at C;exact⟨_,rfl,G _ _ (DJ.Cs K.out p (by rw[N.out]) C)⟩)
    .intro T z wq p t R G;obtain⟨H,I⟩:=t;rw[H,I]at p;obtain⟨e1,e2,-⟩:=id p;go_simp;exact G _ _ (by rw[H,I];exact p) rfl
   intro T w2 ad t;simp only[di,List.getD_cons_zero,List.getD_cons_succ,Bool.false_eq_true,if_false,if_true]at ad;simp only[bV,Nat.zero_add,Nat.reduceAdd,and_true]at t;simp(maxSteps:=1000000)only[List.drop_succ_cons,List.drop_zero,Nat.zero_add,Nat.reduceAdd,List.take_succ_cons,List.take_zero,ab,Act.put,List.setIfInBounds_toArray,List.set_cons_zero,List.set_cons_succ,t];clear t;generalize T 5=x5 at *;generalize T 11=hi at *;obtain⟨rfl,rfl,j⟩:=ad;go_wp2_with fail;go_meet
   case rel=>exact⟨_,rfl,P.out,j⟩
  by_cases h3:y=3
  .as_aux_lemma =>
   subst h3;have U:kb=false:=by rw[<-a2.out];rfl
   subst U;have HM:Hid ((aP m d X true).1=m'):=a3.out;have W:Hid ((aP Z d X true).1=D):=aa.out;obtain⟨J,E⟩:∃J,(aP m d X true).2=J:=⟨_,rfl⟩;have au:Hid _:=E;obtain⟨Y,q⟩:∃J,(aP Z d X true).2=J:=⟨_,rfl⟩;have N:Hid _:=q;obtain⟨A,Q⟩:∃A,(J==Y)=A:=⟨_,rfl⟩;have P:Hid (m=Z->A=true):=fun h=>by rw[<-Q,<-E,<-q,h];simp
   clear E q;go_upto_region 11 with fail;apply aI 13 (fun z w'=>DJ S O O' (fun k=>k<w.heap.size) w1 (.pointer (some ⟨gf,0,none⟩)) (.pointer (some ⟨gx,0,none⟩)) m' D (fun u=>u=.int .i64 J) (fun u=>u=.int .i64 Y) (z 5) (z 11) w') [false,false,false,false,false,true,false,false,false,false,false,true,false] [_,_,_,_,_,undef,_,_,_,_,_,undef,.bool A] [none,none,none,none,none,none,none,none,none,none,none,none,none] [[],[],[1],[],[3],[0,2,4],[],[],[7],[],[9],[6,8,10],[5,11]] (by kernel_rfl) (by kernel_rfl) rfl
   .exact DJ.start ⟨rfl,rfl,rfl,Nat.le_refl _,fun _ _=>rfl⟩
   .simp (maxSteps:=1000000)only[de,cN,bR,cG,cS,List.getD_cons_zero,List.getD_cons_succ,Bool.false_eq_true,if_false,if_true,and_true,true_and,forall_const,Nat.zero_add,Nat.reduceAdd,List.take_succ_cons,List.take_zero,ab,Act.put,List.setIfInBounds_toArray,List.set_cons_zero,List.set_cons_succ];and_intros
    iterate 5 · intro T z wq p;intros;rename_i G;obtain⟨c0,c1,c2,c3,c4,c5,c6,c7⟩:=aZ (p.row V.out B.out.1 B.out.2);go_simp;exact G _ _ p rfl
    .intro T z wq p hz t R G;obtain⟨H,I,bd⟩:=t;rw[hz]at p;go_simp;exact(sK d X (DJ.fin K.out a4.out p) hp hq).mono (by rintro e' w4 ⟨rfl,C⟩;rw[HM.out]at C;exact⟨_,rfl,G _ _ (DJ.Cr K.out p (by rw[au.out]) C)⟩)
    iterate 5 · intro T z wq p;intros;rename_i G;obtain⟨c0,c1,c2,c3,c4,c5,c6,c7⟩:=aZ (p.row V.out B.out.1 B.out.2);go_simp;exact G _ _ p rfl
    .intro T z wq p hz t R G;obtain⟨H,I,bd⟩:=t;rw[hz]at p;go_simp;exact(rn d X (DJ.B5 K.out p) hp hq).mono (by rintro e' w4 ⟨rfl,C⟩;rw[W.out]at C;exact⟨_,rfl,G _ _ (DJ.Cs K.out p (by rw[N.out]) C)⟩)
    .intro T z wq p t R G;obtain⟨H,I⟩:=t;rw[H,I]at p;obtain⟨e1,e2,-⟩:=id p;go_simp;exact G _ _ (by rw[H,I];exact p) rfl
   intro T w2 ad t;simp only[di,List.getD_cons_zero,List.getD_cons_succ,Bool.false_eq_true,if_false,if_true]at ad;simp only[bV,Nat.zero_add,Nat.reduceAdd,and_true]at t;simp(maxSteps:=1000000)only[List.drop_succ_cons,List.drop_zero,Nat.zero_add,Nat.reduceAdd,List.take_succ_cons,List.take_zero,ab,Act.put,List.setIfInBounds_toArray,List.set_cons_zero,List.set_cons_succ,t];clear t;generalize T 5=x5 at *;generalize T 11=hi at *;obtain⟨rfl,rfl,j⟩:=ad;go_wp2_with fail;go_meet
   case rel=>exact⟨_,rfl,P.out,j⟩
  by_cases C:y=4
  .as_aux_lemma =>
   subst C;have U:kb=false:=by rw[<-a2.out];rfl
   subst U;have HM:Hid ((bD m d).1=m'):=a3.out;have W:Hid ((bD Z d).1=D):=aa.out;obtain⟨J,E⟩:∃J,(bD m d).2=J:=⟨_,rfl⟩;have au:Hid _:=E;obtain⟨Y,q⟩:∃J,(bD Z d).2=J:=⟨_,rfl⟩;have N:Hid _:=q;obtain⟨A,Q⟩:∃A,(J==Y)=A:=⟨_,rfl⟩;have P:Hid (m=Z->A=true):=fun h=>by rw[<-Q,<-E,<-q,h];simp
   clear E q;go_upto_region 13 with fail;apply aI 9 (fun z w'=>DJ S O O' (fun k=>k<w.heap.size) w1 (.pointer (some ⟨gf,0,none⟩)) (.pointer (some ⟨gx,0,none⟩)) m' D (fun u=>u=.int .i64 J) (fun u=>u=.int .i64 Y) (z 3) (z 7) w') [false,false,false,true,false,false,false,true,false] [_,_,_,undef,_,_,_,undef,.bool A] [none,none,none,none,none,none,none,none,none] [[],[],[1],[0,2],[],[],[5],[4,6],[3,7]] (by kernel_rfl) (by kernel_rfl) rfl
   .exact DJ.start ⟨rfl,rfl,rfl,Nat.le_refl _,fun _ _=>rfl⟩
   .simp (maxSteps:=1000000)only[de,cN,bR,cG,cS,List.getD_cons_zero,List.getD_cons_succ,Bool.false_eq_true,if_false,if_true,and_true,true_and,forall_const,Nat.zero_add,Nat.reduceAdd,List.take_succ_cons,List.take_zero,ab,Act.put,List.setIfInBounds_toArray,List.set_cons_zero,List.set_cons_succ];and_intros
    iterate 3 · intro T z wq p;intros;rename_i G;obtain⟨c0,c1,c2,c3,c4,c5,c6,c7⟩:=aZ (p.row V.out B.out.1 B.out.2);go_simp;exact G _ _ p rfl
    .intro T z wq p hz t R G;obtain⟨H,I⟩:=t;rw[hz]at p;go_simp;exact(kN d (DJ.fin K.out a4.out p) hp).mono (by rintro e' w4 ⟨rfl,C⟩;rw[HM.out]at C;exact⟨_,rfl,G _ _ (DJ.Cr K.out p (by rw[au.out]) C)⟩)
    iterate 3 · intro T z wq p;intros;rename_i G;obtain⟨c0,c1,c2,c3,c4,c5,c6,c7⟩:=aZ (p.row V.out B.out.1 B.out.2);go_simp;exact G _ _ p rfl
    .intro T z wq p hz t R G;obtain⟨H,I⟩:=t;rw[hz]at p;go_simp;exact(jW d (DJ.B5 K.out p) hp).mono (by rintro e' w4 ⟨rfl,C⟩;rw[W.out]at C;exact⟨_,rfl,G _ _ (DJ.Cs K.out p (by rw[N.out]) C)⟩)
    .intro T z wq p t R G;obtain⟨H,I⟩:=t;rw[H,I]at p;obtain⟨e1,e2,-⟩:=id p;go_simp;exact G _ _ (by rw[H,I];exact p) rfl
   intro T w2 ad t;simp only[di,List.getD_cons_zero,List.getD_cons_succ,Bool.false_eq_true,if_false,if_true]at ad;simp only[bV,Nat.zero_add,Nat.reduceAdd,and_true]at t;simp(maxSteps:=1000000)only[List.drop_succ_cons,List.drop_zero,Nat.zero_add,Nat.reduceAdd,List.take_succ_cons,List.take_zero,ab,Act.put,List.setIfInBounds_toArray,List.set_cons_zero,List.set_cons_succ,t];clear t;generalize T 3=x3 at *;generalize T 7=x7 at *;obtain⟨rfl,rfl,j⟩:=ad;go_wp2_with fail;go_meet
   case rel=>exact⟨_,rfl,P.out,j⟩
  by_cases h5:y=5
  .as_aux_lemma =>
   subst h5;have U:kb=false:=by rw[<-a2.out];rfl
   subst U;have HM:Hid ((dt m).1=m'):=a3.out;have W:Hid ((dt Z).1=D):=aa.out;obtain⟨J,E⟩:∃J,(dt m).2=J:=⟨_,rfl⟩;have au:Hid _:=E;obtain⟨Y,q⟩:∃J,(dt Z).2=J:=⟨_,rfl⟩;have N:Hid _:=q;obtain⟨A,Q⟩:∃A,(J==Y)=A:=⟨_,rfl⟩;have P:Hid (m=Z->A=true):=fun h=>by rw[<-Q,<-E,<-q,h];simp
   clear E q;go_upto_region 15 with fail;have a1:Hid (DJ S O O' (fun k=>k<w.heap.size) w1 (.pointer (some ⟨gf,0,none⟩)) (.pointer (some ⟨gx,0,none⟩)) m' D (fun _=>True) (fun _=>True) none none w1):=DJ.start (Ext.refl _);obtain⟨c0,c1,c2,c3,c4,c5,c6,c7⟩:=aZ V.out;go_wp2_with fail;go_at_call 99;refine(zg (DJ.fin K.out a4.out a1.out)).mono ?_;rw[au.out];rintro e wf ⟨rfl,C⟩;rw[HM.out]at C;have a0:Hid (DJ S O O' (fun k=>k<w.heap.size) w1 (.pointer (some ⟨gf,0,none⟩)) (.pointer (some ⟨gx,0,none⟩)) m' D (fun _=>True) (fun _=>True) (some (.bool true)) none wf):=DJ.Cr K.out a1.out (by trivial) C;obtain⟨c0,c1,c2,c3,c4,c5,c6,c7⟩:=aZ (DJ.row a0.out V.out B.out.1 B.out.2);clear C;go_wp2_with fail;go_at_call 100;refine(xq (DJ.B5 K.out a0.out)).mono ?_;rw[N.out];rintro e w2 ⟨rfl,C⟩;rw[W.out]at C;have b':DJ S O O' (fun k=>k<w.heap.size) w1 (.pointer (some ⟨gf,0,none⟩)) (.pointer (some ⟨gx,0,none⟩)) m' D (fun _=>True) (fun _=>True) (some (.bool true)) (some (.bool true)) w2:=DJ.Cs K.out a0.out (by trivial) C;obtain⟨-,-,j⟩:=b';clear C c0 c1 c2 c3 c4 c5 c6 c7;go_wp2_with fail;go_meet
   case rel=>exact⟨_,rfl,P.out,j⟩
  by_cases h6:y=6
  .as_aux_lemma =>
   subst h6;have U:kb=false:=by rw[<-a2.out];rfl
   subst U;have HM:Hid ((aF m d).1=m'):=a3.out;have W:Hid ((aF Z d).1=D):=aa.out;obtain⟨J,E⟩:∃J,(aF m d).2.2=J:=⟨_,rfl⟩;have au:Hid _:=E;obtain⟨Y,q⟩:∃J,(aF Z d).2.2=J:=⟨_,rfl⟩;have N:Hid _:=q;obtain⟨A,Q⟩:∃A,(J==Y)=A:=⟨_,rfl⟩;have P:Hid (m=Z->A=true):=fun h=>by rw[<-Q,<-E,<-q,h];simp
   clear E q;obtain⟨fi,d5⟩:∃fi,(aF m d).2.1=fi:=⟨_,rfl⟩;have f6:Hid _:=d5;obtain⟨fj,d6⟩:∃fi,(aF Z d).2.1=fi:=⟨_,rfl⟩;have f7:Hid _:=d6;have f5:Hid (m=Z->fi=fj):=fun h=>by rw[<-d5,<-d6,h]
   clear d5 d6;go_upto_region 17 with fail;have a1:Hid (DJ S O O' (fun k=>k<w.heap.size) w1 (.pointer (some ⟨gf,0,none⟩)) (.pointer (some ⟨gx,0,none⟩)) m' D (fun _=>True) (fun _=>True) none none w1):=DJ.start (Ext.refl _);obtain⟨c0,c1,c2,c3,c4,c5,c6,c7⟩:=aZ V.out;go_wp2_with fail;go_at_call 101;refine(rE d (DJ.fin K.out a4.out a1.out) hp).mono ?_;rw[f6.out,au.out];rintro e wf ⟨⟨v,rfl,hv⟩,C⟩;rw[HM.out]at C;obtain⟨va,vc,rfl,-⟩:=id hv.bytes;have a0:Hid (DJ S O O' (fun k=>k<w.heap.size) w1 (.pointer (some ⟨gf,0,none⟩)) (.pointer (some ⟨gx,0,none⟩)) m' D (fun _=>True) (fun _=>True) (some (.bool true)) none wf):=DJ.Cr K.out a1.out trivial C;have hK:=C.fr.size;obtain⟨wg,cx⟩:∃wg,wg=wf.alloc (.cells #[.int .i64 fi.mode,.slice va fi.data.length vc,.int .i64 fi.time] 56):=⟨_,rfl⟩;have bo:Ext wf wg:=by rw[cx];exact(Ext.refl _).alloc _
   have ey:wg.heap[wf.heap.size]? = some (.cells #[.int .i64 fi.mode,.slice va fi.data.length vc,.int .i64 fi.time] 56 (0,0)):=by rw[cx];exact ae _ _
   have dl:Hid (DJ S O O' (fun k=>k<w.heap.size) w1 (.pointer (some ⟨gf,0,none⟩)) (.pointer (some ⟨gx,0,none⟩)) m' D (fun _=>True) (fun _=>True) (some (.bool true)) none wg):=DJ.more a0.out bo;have gw:Hid _:=cx;have ev:Hid _:=IsData.ext hv bo;obtain⟨c0,c1,c2,c3,c4,c5,c6,c7⟩:=aZ (DJ.row dl.out V.out B.out.1 B.out.2);clear C cx hv bo;go_upto_region 18 with fail;rw[show wf.alloc (.cells #[.int .i64 fi.mode,.slice va fi.data.length vc,.int .i64 fi.time] 56)=wg from gw.out.symm];go_wp2_with fail;go_at_call 102;refine(pT d (DJ.B5 K.out dl.out) hp).mono ?_;rw[f7.out,N.out];rintro e ba ⟨⟨v2,rfl,bl⟩,h5⟩;rw[W.out]at h5;obtain⟨ua,uc,rfl,-⟩:=id bl.bytes;have dk:=h5.fr.row ey (fun ho=>by have:=K.out.B5.low _ ho;omega);have gl:Hid (IsBytes ba (.slice va fi.data.length vc) fi.data):=Row.B' ev.out.bytes ev.out.typed h5.fr.keep;have dn:Hid (DJ S O O' (fun k=>k<w.heap.size) w1 (.pointer (some ⟨gf,0,none⟩)) (.pointer (some ⟨gx,0,none⟩)) m' D (fun _=>True) (fun _=>True) (some (.bool true)) (some (.bool true)) ba):=DJ.Cs K.out dl.out trivial h5;obtain⟨wh,c8⟩:∃wh,wh=ba.alloc (.cells #[.int .i64 fj.mode,.slice ua fj.data.length uc,.int .i64 fj.time] 114):=⟨_,rfl⟩;have cm:Ext ba wh:=by rw[c8];exact(Ext.refl _).alloc _
   have eE:wh.heap[ba.heap.size]? = some (.cells #[.int .i64 fj.mode,.slice ua fj.data.length uc,.int .i64 fj.time] 114 (0,0)):=by rw[c8];exact ae _ _
   obtain⟨y0,y1,y2⟩:=bL eE;obtain⟨q0,q1,q2⟩:=bL (cm.row dk);have gy:Hid _:=c8;have g0:Hid _:=cm;have go:Hid _:=IsBytes.ext gl.out cm;have gh:Hid _:=IsBytes.ext bl.bytes cm;clear h5 c8 bl cm ey dk eE c0 c1 c2 c3 c4 c5 c6 c7;go_upto_region 19 with fail;rw[show ba.alloc (.cells #[.int .i64 fj.mode,.slice ua fj.data.length uc,.int .i64 fj.time] 114)=wh from gy.out.symm];go_wp2_with fail;go_at_call 70;refine(x' fi fj _ _ _ go.out gh.out).mono ?_;rintro e w2 ⟨⟨r,rfl,hr⟩,cl⟩;have d0:Hid (m=Z->r=true):=fun h=>hr (f5.out h)
   obtain⟨-,-,j⟩:=DJ.more dn.out (Ext.trans g0.out cl);clear cl y0 y1 y2 q0 q1 q2
   cases r with
   | false =>
    go_wp2_with fail;go_meet
    case rel=>exact⟨_,rfl,d0.out,j⟩
   | true =>
    go_wp2_with fail;go_meet
    case rel=>exact⟨_,rfl,P.out,j⟩
  by_cases h7:y=7
  .as_aux_lemma =>
   subst h7;have U:kb=false:=by rw[<-a2.out];rfl
   subst U;have HM:Hid ((bg m d).1=m'):=a3.out;have W:Hid ((bg Z d).1=D):=aa.out;obtain⟨J,E⟩:∃J,(bg m d).2.2=J:=⟨_,rfl⟩;have au:Hid _:=E;obtain⟨Y,q⟩:∃J,(bg Z d).2.2=J:=⟨_,rfl⟩;have N:Hid _:=q;obtain⟨A,Q⟩:∃A,(J==Y)=A:=⟨_,rfl⟩;have P:Hid (m=Z->A=true):=fun h=>by rw[<-Q,<-E,<-q,h];simp
   clear E q;obtain⟨ls,d8⟩:∃ls,(bg m d).2.1=ls:=⟨_,rfl⟩;have f':Hid _:=d8;obtain⟨lt,cu⟩:∃ls,(bg Z d).2.1=ls:=⟨_,rfl⟩;have dq:Hid _:=cu;have f9:Hid (m=Z->ls=lt):=fun h=>by rw[<-d8,<-cu,h]
   clear d8 cu;go_upto_region 21 with fail;have a1:Hid (DJ S O O' (fun k=>k<w.heap.size) w1 (.pointer (some ⟨gf,0,none⟩)) (.pointer (some ⟨gx,0,none⟩)) m' D (fun _=>True) (fun _=>True) none none w1):=DJ.start (Ext.refl _);obtain⟨c0,c1,c2,c3,c4,c5,c6,c7⟩:=aZ V.out;go_wp2_with fail;go_at_call 48;refine(rf d (DJ.fin K.out a4.out a1.out) hp).mono ?_;rw[f'.out,au.out];rintro e wf ⟨⟨v,rfl,hv,fl⟩,C⟩;rw[HM.out]at C;obtain⟨va,vc,rfl,-⟩:=id hv;have a0:Hid (DJ S O O' (fun k=>k<w.heap.size) w1 (.pointer (some ⟨gf,0,none⟩)) (.pointer (some ⟨gx,0,none⟩)) m' D (fun _=>True) (fun _=>True) (some (.bool true)) none wf):=DJ.Cr K.out a1.out trivial C;have HV:Hid _:=hv;have gr:Hid _:=fl;obtain⟨c0,c1,c2,c3,c4,c5,c6,c7⟩:=aZ (DJ.row a0.out V.out B.out.1 B.out.2);clear C hv fl;go_wp2_with fail;go_at_call 90;refine(pI d (DJ.B5 K.out a0.out) hp).mono ?_;rw[dq.out,N.out];rintro e ba ⟨⟨v2,rfl,bl⟩,h5⟩;rw[W.out]at h5;obtain⟨ua,uc,rfl,-⟩:=id bl;have gs:Hid (IsStrs ba (.slice va ls.length vc) ls):=by
    obtain⟨a9,c9,fa,k1,k2,k3,k4⟩:=HV.out;refine⟨a9,c9,fa,k1,k2,k3,fun g'=>?_⟩;obtain⟨b,o,rfl,hc⟩:=k4 g';refine⟨b,o,rfl,fun i u hu=>?_⟩;have eS:=hc i u hu;have hA:=gr.out b (by rw[fa];rfl);rw[World.cell?_of_block (w:=wf) (w':=ba) (a:=⟨b,o+i,none⟩) (h5.fr.block b (World.block_lt_of_cell? _ _ eS) (.inl (fun ho=>by have:=K.out.B5.low _ ho;omega)))];exact eS
   have gi:Hid _:=bl;have dn:Hid (DJ S O O' (fun k=>k<w.heap.size) w1 (.pointer (some ⟨gf,0,none⟩)) (.pointer (some ⟨gx,0,none⟩)) m' D (fun _=>True) (fun _=>True) (some (.bool true)) (some (.bool true)) ba):=DJ.Cs K.out a0.out trivial h5;clear h5 bl c0 c1 c2 c3 c4 c5 c6 c7;go_wp2_with fail;go_at_call 25;refine(jJ _ _ _ _ _ gs.out gi.out).mono ?_;obtain⟨r,hr⟩:∃r,(ls==lt)=r:=⟨_,rfl⟩;rw[hr];have d0:Hid (m=Z->r=true):=fun h=>by rw[<-hr,f9.out h];simp
   clear hr;rintro e w2 ⟨rfl,cl⟩;obtain⟨-,-,j⟩:=DJ.more dn.out cl;clear cl
   cases r with
   | false =>
    go_wp2_with fail;go_meet
    case rel=>exact⟨_,rfl,d0.out,j⟩
   | true =>
    go_wp2_with fail;go_meet
    case rel=>exact⟨_,rfl,P.out,j⟩
  by_cases h8:y=8
  .as_aux_lemma =>
   subst h8;have U:kb=false:=by rw[<-a2.out];rfl
   subst U;have HM:Hid ((aO m d F l).1=m'):=a3.out;have W:Hid ((aO Z d F l).1=D):=aa.out;obtain⟨J,E⟩:∃J,(aO m d F l).2=J:=⟨_,rfl⟩;have au:Hid _:=E;obtain⟨Y,q⟩:∃J,(aO Z d F l).2=J:=⟨_,rfl⟩;have N:Hid _:=q;obtain⟨A,Q⟩:∃A,(J==Y)=A:=⟨_,rfl⟩;have P:Hid (m=Z->A=true):=fun h=>by rw[<-Q,<-E,<-q,h];simp
   clear E q;go_upto_region 25 with fail;apply aI 16 (fun z w'=>DJ S O O' (fun k=>k<w.heap.size) w1 (.pointer (some ⟨gf,0,none⟩)) (.pointer (some ⟨gx,0,none⟩)) m' D (fun u=>u=.int .i64 J) (fun u=>u=.int .i64 Y) (z 6) (z 14) w') [false,false,false,false,false,false,true,false,false,false,false,false,false,false,true,false] [_,_,_,_,_,_,undef,_,_,_,_,_,_,_,undef,.bool A] [none,none,none,none,none,none,none,none,none,none,none,none,none,none,none,none] [[],[],[1],[],[3],[],[0,2,4,5],[],[],[8],[],[10],[],[12],[7,9,11,13],[6,14]] (by kernel_rfl) (by kernel_rfl) rfl
   .exact DJ.start ⟨rfl,rfl,rfl,Nat.le_refl _,fun _ _=>rfl⟩
   .simp (maxSteps:=1000000)only[de,cN,bR,cG,cS,List.getD_cons_zero,List.getD_cons_succ,Bool.false_eq_true,if_false,if_true,and_true,true_and,forall_const,Nat.zero_add,Nat.reduceAdd,List.take_succ_cons,List.take_zero,ab,Act.put,List.setIfInBounds_toArray,List.set_cons_zero,List.set_cons_succ];and_intros
    iterate 6 · intro T z wq p;intros;rename_i G;obtain⟨c0,c1,c2,c3,c4,c5,c6,c7⟩:=aZ (p.row V.out B.out.1 B.out.2);go_simp;exact G _ _ p rfl
    .intro T z wq p hz t R G;obtain⟨H,I,bd,ca⟩:=t;rw[hz]at p;go_simp;exact(k7 d F _ l (DJ.fin K.out a4.out p).env (DJ.fin K.out a4.out p).fs HG.out.ok (by omega) (by omega) (p.bytes cn.out bh.out) a8.out.bytes.len (fun hh=>ji _ hh) (lU (p.typed bh.out) ⟨_,_,_,rfl⟩)).mono (by rintro e' w4 ⟨rfl,C⟩;rw[HM.out]at C;exact⟨_,rfl,G _ _ (DJ.Cr K.out p (by rw[au.out]) C)⟩)
    iterate 7 · intro T z wq p;intros;rename_i G;obtain⟨c0,c1,c2,c3,c4,c5,c6,c7⟩:=aZ (p.row V.out B.out.1 B.out.2);go_simp;exact G _ _ p rfl
    .intro T z wq p hz t R G;obtain⟨H,I,bd,ca⟩:=t;rw[hz]at p;go_simp;exact(ki d F _ l (DJ.B5 K.out p).fs bv.out.ok (by omega) hp (OldB.at a8.out (DJ.base K.out bt.out p)) (OldB.out a8.out K.out.B5.high)).mono (by rintro e' w4 ⟨rfl,C⟩;rw[W.out]at C;exact⟨_,rfl,G _ _ (DJ.Cs K.out p (by rw[N.out]) C)⟩)
    .intro T z wq p t R G;obtain⟨H,I⟩:=t;rw[H,I]at p;obtain⟨e1,e2,-⟩:=id p;go_simp;exact G _ _ (by rw[H,I];exact p) rfl
   intro T w2 ad t;simp only[di,List.getD_cons_zero,List.getD_cons_succ,Bool.false_eq_true,if_false,if_true]at ad;simp only[bV,Nat.zero_add,Nat.reduceAdd,and_true]at t;simp(maxSteps:=1000000)only[List.drop_succ_cons,List.drop_zero,Nat.zero_add,Nat.reduceAdd,List.take_succ_cons,List.take_zero,ab,Act.put,List.setIfInBounds_toArray,List.set_cons_zero,List.set_cons_succ,t];clear t;generalize T 6=x6 at *;generalize T 14=fn at *;obtain⟨rfl,rfl,j⟩:=ad;go_wp2_with fail;go_meet
   case rel=>exact⟨_,rfl,P.out,j⟩
  by_cases ct:y=9
  .as_aux_lemma =>
   subst ct;have U:kb=false:=by rw[<-a2.out];rfl
   subst U;have HM:Hid ((aL m d).1=m'):=a3.out;have W:Hid ((aL Z d).1=D):=aa.out;obtain⟨J,E⟩:∃J,(aL m d).2=J:=⟨_,rfl⟩;have au:Hid _:=E;obtain⟨Y,q⟩:∃J,(aL Z d).2=J:=⟨_,rfl⟩;have N:Hid _:=q;obtain⟨A,Q⟩:∃A,(J==Y)=A:=⟨_,rfl⟩;have P:Hid (m=Z->A=true):=fun h=>by rw[<-Q,<-E,<-q,h];simp
   clear E q;go_upto_region 27 with fail;apply aI 9 (fun z w'=>DJ S O O' (fun k=>k<w.heap.size) w1 (.pointer (some ⟨gf,0,none⟩)) (.pointer (some ⟨gx,0,none⟩)) m' D (fun u=>u=.int .i64 J) (fun u=>u=.int .i64 Y) (z 3) (z 7) w') [false,false,false,true,false,false,false,true,false] [_,_,_,undef,_,_,_,undef,.bool A] [none,none,none,none,none,none,none,none,none] [[],[],[1],[0,2],[],[],[5],[4,6],[3,7]] (by kernel_rfl) (by kernel_rfl) rfl
   .exact DJ.start ⟨rfl,rfl,rfl,Nat.le_refl _,fun _ _=>rfl⟩
   .simp (maxSteps:=1000000)only[de,cN,bR,cG,cS,List.getD_cons_zero,List.getD_cons_succ,Bool.false_eq_true,if_false,if_true,and_true,true_and,forall_const,Nat.zero_add,Nat.reduceAdd,List.take_succ_cons,List.take_zero,ab,Act.put,List.setIfInBounds_toArray,List.set_cons_zero,List.set_cons_succ];and_intros
    iterate 3 · intro T z wq p;intros;rename_i G;obtain⟨c0,c1,c2,c3,c4,c5,c6,c7⟩:=aZ (p.row V.out B.out.1 B.out.2);go_simp;exact G _ _ p rfl
    .intro T z wq p hz t R G;obtain⟨H,I⟩:=t;rw[hz]at p;go_simp;exact(kh d (DJ.fin K.out a4.out p).env (DJ.fin K.out a4.out p).fs HG.out.ok (by omega) (by omega)).mono (by rintro e' w4 ⟨rfl,C⟩;rw[HM.out]at C;exact⟨_,rfl,G _ _ (DJ.Cr K.out p (by rw[au.out]) C)⟩)
    iterate 3 · intro T z wq p;intros;rename_i G;obtain⟨c0,c1,c2,c3,c4,c5,c6,c7⟩:=aZ (p.row V.out B.out.1 B.out.2);go_simp;exact G _ _ p rfl
    .intro T z wq p hz t R G;obtain⟨H,I⟩:=t;rw[hz]at p;go_simp;exact(jM d (DJ.B5 K.out p).fs bv.out.ok (by omega) hp).mono (by rintro e' w4 ⟨rfl,C⟩;rw[W.out]at C;exact⟨_,rfl,G _ _ (DJ.Cs K.out p (by rw[N.out]) C)⟩)
    .intro T z wq p t R G;obtain⟨H,I⟩:=t;rw[H,I]at p;obtain⟨e1,e2,-⟩:=id p;go_simp;exact G _ _ (by rw[H,I];exact p) rfl
   intro T w2 ad t;simp only[di,List.getD_cons_zero,List.getD_cons_succ,Bool.false_eq_true,if_false,if_true]at ad;simp only[bV,Nat.zero_add,Nat.reduceAdd,and_true]at t;simp(maxSteps:=1000000)only[List.drop_succ_cons,List.drop_zero,Nat.zero_add,Nat.reduceAdd,List.take_succ_cons,List.take_zero,ab,Act.put,List.setIfInBounds_toArray,List.set_cons_zero,List.set_cons_succ,t];clear t;generalize T 3=x3 at *;generalize T 7=x7 at *;obtain⟨rfl,rfl,j⟩:=ad;go_wp2_with fail;go_meet
   case rel=>exact⟨_,rfl,P.out,j⟩
  by_cases co:y=10
  .as_aux_lemma =>
   subst co;have U:kb=false:=by rw[<-a2.out];rfl
   subst U;have HM:Hid ((cX m a5 a6)=m'):=a3.out;have W:Hid ((cX Z a5 a6)=D):=aa.out;go_upto_region 29 with fail;have a1:Hid (DJ S O O' (fun k=>k<w.heap.size) w1 (.pointer (some ⟨gf,0,none⟩)) (.pointer (some ⟨gx,0,none⟩)) m' D (fun _=>True) (fun _=>True) none none w1):=DJ.start (Ext.refl _);obtain⟨c0,c1,c2,c3,c4,c5,c6,c7⟩:=aZ V.out;go_wp2_with fail;go_at_call 107;refine(pm a5 a6 (DJ.fin K.out a4.out a1.out).fs HG.out.ok (by omega) d7 d').mono ?_;rintro e wf ⟨rfl,C⟩;rw[HM.out]at C;have a0:Hid (DJ S O O' (fun k=>k<w.heap.size) w1 (.pointer (some ⟨gf,0,none⟩)) (.pointer (some ⟨gx,0,none⟩)) m' D (fun _=>True) (fun _=>True) (some (.bool true)) none wf):=DJ.Cr K.out a1.out (by trivial) C;obtain⟨c0,c1,c2,c3,c4,c5,c6,c7⟩:=aZ (DJ.row a0.out V.out B.out.1 B.out.2);clear C;go_wp2_with fail;go_at_call 108;refine(nK a5 a6 (DJ.B5 K.out a0.out).fs bv.out.ok (by omega) d7 d').mono ?_;rintro e w2 ⟨rfl,C⟩;rw[W.out]at C;have b':DJ S O O' (fun k=>k<w.heap.size) w1 (.pointer (some ⟨gf,0,none⟩)) (.pointer (some ⟨gx,0,none⟩)) m' D (fun _=>True) (fun _=>True) (some (.bool true)) (some (.bool true)) w2:=DJ.Cs K.out a0.out (by trivial) C;obtain⟨-,-,j⟩:=b';clear C c0 c1 c2 c3 c4 c5 c6 c7;go_wp2_with fail;go_meet
   case rel=>exact⟨_,rfl,fun _=>rfl,j⟩
  by_cases cp:y=11
  .as_aux_lemma =>
   subst cp;have U:kb=false:=by rw[<-a2.out];rfl
   subst U;have HM:Hid ((dH m)=m'):=a3.out;have W:Hid ((dH Z)=D):=aa.out;go_upto_region 32 with fail;have a1:Hid (DJ S O O' (fun k=>k<w.heap.size) w1 (.pointer (some ⟨gf,0,none⟩)) (.pointer (some ⟨gx,0,none⟩)) m' D (fun _=>True) (fun _=>True) none none w1):=DJ.start (Ext.refl _);obtain⟨c0,c1,c2,c3,c4,c5,c6,c7⟩:=aZ V.out;go_wp2_with fail;go_at_call 12;refine(ow (DJ.fin K.out a4.out a1.out).fs).mono ?_;rintro e wf ⟨rfl,C⟩;rw[HM.out]at C;have a0:Hid (DJ S O O' (fun k=>k<w.heap.size) w1 (.pointer (some ⟨gf,0,none⟩)) (.pointer (some ⟨gx,0,none⟩)) m' D (fun _=>True) (fun _=>True) (some (.bool true)) none wf):=DJ.Cr K.out a1.out (by trivial) C;obtain⟨c0,c1,c2,c3,c4,c5,c6,c7⟩:=aZ (DJ.row a0.out V.out B.out.1 B.out.2);clear C;go_wp2_with fail;go_at_call 109;refine(sQ (DJ.B5 K.out a0.out).fs).mono ?_;rintro e w2 ⟨rfl,C⟩;rw[W.out]at C;have b':DJ S O O' (fun k=>k<w.heap.size) w1 (.pointer (some ⟨gf,0,none⟩)) (.pointer (some ⟨gx,0,none⟩)) m' D (fun _=>True) (fun _=>True) (some (.bool true)) (some (.bool true)) w2:=DJ.Cs K.out a0.out (by trivial) C;obtain⟨-,-,j⟩:=b';clear C c0 c1 c2 c3 c4 c5 c6 c7;go_wp2_with fail;go_meet
   case rel=>exact⟨_,rfl,fun _=>rfl,j⟩
  by_cases cq:y=12
  .as_aux_lemma =>
   subst cq;have U:kb=false:=by rw[<-a2.out];rfl
   subst U;have HM:Hid ((eG m M)=m'):=a3.out;have W:Hid ((eG Z M)=D):=aa.out;have ek:Hid (ReadO w1 IsEvD (.slice pa M.length pc) M):=ReadO.C0 (ReadO.DI eo.out (fun e he=>(eh.out.ev e he).2.2)) (Ext.trans d1.out bS.out);have gc:Hid (km w1 (.slice pa M.length pc) M):=ReadO.Dk ek.out bt.out;have c':Hid (M≠[]->∀k,(Value.slice pa M.length pc).ownBlock=some k->k<w0.heap.size):=fun hn k t=>eo.out.lt hn k t
   have hN:w0.heap.size<=w.heap.size:=Below.size d1.out;have hO:w.heap.size<=w1.heap.size:=Below.size bS.out;have bq:Hid (∀k,O k->w0.heap.size<=k/\k<w.heap.size):=HT.out.lo;have bb:Hid (∀k,O' k->w0.heap.size<=k/\k<w.heap.size):=HT.out.Cu;have bx:Hid (∀k,O k->¬O' k):=HT.out.Ci;go_upto_region 35 with fail;obtain⟨c0,c1,c2,c3,c4,c5,c6,c7⟩:=aZ V.out;go_wp2_with fail;go_at_call 11;refine(rB K.out.fin.fs K.out.fin.low gc.out (by omega)).mono ?_;rintro e wf ⟨rfl,fb,a'⟩;have f4:Hid (IsFs (Nu w1 wf) O (Nw (fun k=>k<w.heap.size) w1 wf) wf (.pointer (some ⟨gf,0,none⟩)) (eG m M)):=fb;have ef:Hid (Fr O w1 wf):=a';have hG:=a'.size;obtain⟨c0,c1,c2,c3,c4,c5,c6,c7⟩:=aZ (a'.row V.out B.out.1);have f3:Hid (ReadO wf IsEvD (.slice pa M.length pc) M):=ReadO.stay ek.out a'.size (fun hn k t=>a'.block k (by have:=c'.out hn k t;omega) (.inl (fun ho=>by have:=bq.out k ho;have:=c'.out hn k t;omega)));have gb:Hid (RefIn O' (fun k=>k<w.heap.size) wf (.pointer (some ⟨gx,0,none⟩)) Z):=RefIn.other K.out.B5 a' (fun k h1 h2=>bx.out k h2 h1) K.out.high;clear fb a';go_wp2_with fail;go_at_call 111;refine(rA f3.out (by omega)).mono ?_;rintro e wg ⟨⟨vq,rfl,g2,a7,b8⟩,bo⟩;obtain⟨qa,qc,rfl,-⟩:=Row.BV a7 (by omega);have es:Hid (Row wg (.slice qa M.length qc) M.length g2.flatten):=Row.BV a7 (by omega);have f2:Hid _:=b8;have dq:Hid (∀k,(Value.slice qa M.length qc).ownBlock=some k->k<wg.heap.size/\¬O' k):=fun k t=>by
    have h9:=World.ownsRow.lt a7 k t;exact⟨h9.2,fun ho=>by have:=bb.out k ho;omega⟩
   have d2:Hid _:=bo;have hL:=bo.size;clear a7 b8 bo c0 c1 c2 c3 c4 c5 c6 c7;go_wp2_with fail;go_at_call 110;refine(wT (IsRef.ext gb.out.fs d2.out) es.out f2.out dq.out (by omega)).mono ?_;rintro e w2 ⟨rfl,h5⟩;have hH:=h5.fr.size;have j:Both S O O' (fun k=>k<w.heap.size) w1 (.pointer (some ⟨gf,0,none⟩)) (.pointer (some ⟨gx,0,none⟩)) m' D w2:=by
    rw[<-HM.out,<-W.out];refine⟨⟨Nu w1 wf,O,Nw O' wg w2,?_,?_,fun k t=>⟨.inr t.1,by have:=t.2;omega,fun ho=>by have:=bq.out k ho;have:=t.1;omega,fun ho=>?_⟩,fun k t=>⟨.inl t,by have:=bq.out k t;omega⟩,fun k t=>⟨t.imp id (fun h=>by omega),?_⟩,fun k t ho=>?_⟩,?_⟩
    .exact ((f4.out.ext d2.out).other h5.fr bx.out (fun k t ho=>by have:=bb.out k ho;have:=t.1;omega)).mono (fun _ h=>h) (fun k t=>t.fst (by omega))
    .exact h5.fs.mono (fun _ h=>h) (fun k t=>t.imp id (fun h=>⟨by omega,h.2⟩))
    .rcases ho with ho | ho
     .have:=bb.out k ho;have:=t.1;omega
     .have:=t.2;omega
    .rcases t with t | t
     .have:=bb.out k t;omega
     .exact t.2
    .rcases ho with ho | ho
     .exact bx.out k t ho
     .have:=bq.out k t;omega
    .exact ((ef.out.ext d2.out).mono (fun k t=>.inl t)).trans (h5.fr.mono (fun k t=>.inl (.inr t)))
   clear h5;go_wp2_with fail;go_meet
   case rel=>exact⟨_,rfl,fun _=>rfl,j⟩
  have HM:Hid (m=m'):=by
   have h9:=a3.out;unfold fL at h9;rw[if_neg h0,if_neg h1,if_neg h2,if_neg h3,if_neg C,if_neg h5,if_neg h6,if_neg h7,if_neg h8,if_neg ct,if_neg co,if_neg cp,if_neg cq]at h9;exact h9
  have W:Hid (Z=D):=by
   have h9:=aa.out;unfold fL at h9;rw[if_neg h0,if_neg h1,if_neg h2,if_neg h3,if_neg C,if_neg h5,if_neg h6,if_neg h7,if_neg h8,if_neg ct,if_neg co,if_neg cp,if_neg cq]at h9;exact h9
  have j:Both S O O' (fun k=>k<w.heap.size) w1 (.pointer (some ⟨gf,0,none⟩)) (.pointer (some ⟨gx,0,none⟩)) m' D w1:=by
   rw[<-HM.out,<-W.out];exact Both.same K.out (Ext.refl _)
  have e0:kb=false:=by rw[<-a2.out];exact beq_eq_false_iff_ne.2 h0
  subst e0;have e1:(y==1)=false:=beq_eq_false_iff_ne.2 h1;have e2:(y==2)=false:=beq_eq_false_iff_ne.2 h2;have e3:(y==3)=false:=beq_eq_false_iff_ne.2 h3;have e4:(y==4)=false:=beq_eq_false_iff_ne.2 C;have e5:(y==5)=false:=beq_eq_false_iff_ne.2 h5;have e6:(y==6)=false:=beq_eq_false_iff_ne.2 h6;have e7:(y==7)=false:=beq_eq_false_iff_ne.2 h7;have e8:(y==8)=false:=beq_eq_false_iff_ne.2 h8;have e9:(y==9)=false:=beq_eq_false_iff_ne.2 ct;have hw:(y==10)=false:=beq_eq_false_iff_ne.2 co;have hx:(y==11)=false:=beq_eq_false_iff_ne.2 cp;have hy:(y==12)=false:=beq_eq_false_iff_ne.2 cq;go_wp2_with fail;go_meet
  case rel=>exact⟨_,rfl,fun _=>rfl,j⟩
 case rest =>
  obtain⟨r,rfl,hr,j⟩:=hcut;have HR:Hid (m=Z->r=true):=hr;clear hr;have fz:Hid _:=j;have ex:=j.fr.row V.out (fun h=>h.elim B.out.1 B.out.2);obtain⟨-,-,-,-,-,-,c6,-⟩:=aZ ex;have fx:Hid (IsBytes wc (.slice ia l.length ic) l):=Row.B' cn.out bh.out j.fr.keep;have fu:Hid (IsBytes wc (.slice da l.length dc) l):=OldB.at a8.out (Ext.Cb bt.out j.fr (fun k t=>t.elim (K.out.high k) (K.out.B5.high k)));have ga:Hid (wc.ownsRow wb.heap.size 5 1 (.slice ia l.length ic) l.length (l.map fun x=>.int .u8 x.toNat)):=by
   refine⟨ds.out.1,ds.out.2.imp id ?_⟩;rintro⟨g,g1,g3,h1,h2,h3,C⟩;exact⟨g,g1,g3,h1,h2,(j.fr.keep.2 _ ⟨_,_,_,h3,vo⟩).trans h3,C⟩
  have hC:=f0.out.len;have f8:Hid (∀k,(Value.slice ia l.length ic).ownBlock=some k->w.heap.size<=k/\k<w1.heap.size):=fun k t=>by
   have:=World.ownsRow.lt ds.out k t;omega
  clear ex j;go_upto_region 37 with fail;go_wp2_with fail;go_at_call 31;refine(cY _ _ _ _ _ fx.out fu.out).mono ?_;rw[beq_self_eq_true];rintro e w3 ⟨rfl,rfl⟩;clear c6;go_wp2_with fail;go_loopw [17] (fun i wr=>∃(k:Nat) (T:List Value),k<=l.length/\i=.int .i64 k/\wr.ownsRow wb.heap.size 5 1 (.slice ia l.length ic) l.length T/\U8sL T/\w3.grownBy wr (Value.slice ia l.length ic).ownBlock) (fun i _=>l.length - (intOf i).toNat)
  case atStart=>exact⟨0,_,Nat.zero_le _,rfl,ga.out,U8sL.map _,⟨rfl,rfl,rfl,Nat.le_refl _,fun _ _ _=>rfl⟩⟩
  case round =>
   obtain⟨k,ys,t,rfl,a7,fk,ff⟩:=hrel;have br:Hid _:=a7;have HU:Hid _:=fk;have eg:Hid _:=ff;have hP:ys.length=l.length:=by have:=a7.1;omega
   clear a7 fk ff
   by_cases cu:k<l.length
   .obtain ⟨g,hl,fe⟩:=dD br.out (by omega);simp only[Value.slice.injEq,true_and]at fe;obtain⟨rfl,rfl⟩:=fe;obtain⟨u,hu⟩:∃u,ys[k]? = some u:=⟨_,List.getElem?_eq_getElem (by omega)⟩;obtain⟨b,hb,rfl⟩:=HU.out k u hu;have g4:wr.cell? ⟨g,k,none⟩=some (.int .u8 b):=by
     rw[World.ownsRow.cellAt br.out k (by omega)];exact hu
    have hD:=World.ownsRow.frozenAt br.out k;clear hu;go_wp2;go_roundw
    case rel =>
     obtain⟨ha,g6⟩:=World.ownsRow.stored br.out k (.int .u8 (((b:Int)+1)%256));refine⟨k+1,ys.set k (.int .u8 (((b:Int)+1)%256)),by omega,by go_num,ha,?_,eg.out.trans g6⟩;have he:((b:Int)+1)%256=(((b+1)%256:Nat):Int):=by omega
     rw[he];exact U8sL.set HU.out k _ (by omega)
    case measure=>simp[intOf];omega
   .have g9:k=l.length:=by omega
    subst g9;go_wp2;go_ret;exact⟨⟨_,rfl,HR.out⟩,Two2.done HT.out bS.out fz.out f8.out eg.out⟩
theorem uq {S O O':Nat->Prop} (g:Two w0 S O O' w fv xv m) (d:Env w0) (c:Good n m) (j:n<=60000) (k:IsOpn w0 cs o) (a:jP o) :
  Calls Tryz.prog 46 #[fv,xv,.agg cs.toArray] w (xD w0 S O O' fv xv (fL m o) w) :=
 (ur g d c c j k a).mono (by rintro e l ⟨⟨b,rfl,i⟩,h⟩;rw[i rfl];exact⟨rfl,h⟩)
end
end Go.Proofs.YtfabjgfmiaammaaGreatDoor
