/- Contracts of the program's functions and plain laws behind the card. Conditions: as each theorem states. -/
import Derived.Test.YtfabjgfmiaammaaGreatDoorZak
import Derived.Test.YtfabjgfmiaammaaGreatDoorZal
import Derived.Test.YtfabjgfmiaammaaGreatDoorZag
import Derived.Deep.DeepCutAuto
import Derived.Deep.CutBlock
import Derived.Test.YtfabjgfmiaammaaGreatDoorZai
import Derived.Test.YtfabjgfmiaammaaGreatDoorZae
import Derived.Laws.CopyOwn
import Derived.Deep.Onto
set_option linter.unusedVariables false
set_option linter.unusedSimpArgs false
set_option linter.unusedSectionVars false
set_option maxRecDepth 100000
set_option maxHeartbeats 64000000
namespace Go.Proofs.YtfabjgfmiaammaaGreatDoor
section
open Go Go.RowKit
variable [Inhabited bc]
variable {w0 w:World} {fv xv:Value} {m:Fs} {n:Nat} {cs:List Value} {o:Opn}
theorem ux {S O O':Nat->Prop} {Z:Fs} (hT:Two2 w0 S O O' w fv xv m Z) (hE:Env w0) (hg:Good n m) (eo:Good n Z) (hn:n<=60000) (ho:IsOpn w0 cs o) (bl:jR o) :
  Calls Tryz.prog 46 #[fv,xv,.agg cs.toArray] w (wE w0 S O O' fv xv m Z (fC m o) (fC Z o) w):=by
 obtain⟨y,F,a2,a3,d,X,l,K⟩:=o;obtain⟨m',d0⟩:∃m',fC m ⟨y,F,a2,a3,d,X,l,K⟩=m':=⟨_,rfl⟩;have a4:Hid _:=d0;obtain⟨C,b'⟩:∃m',fC Z ⟨y,F,a2,a3,d,X,l,K⟩=m':=⟨_,rfl⟩;have ad:Hid _:=b';rw[d0,b'];clear d0 b';obtain⟨vd,vp,rfl,hd,ct⟩:=ho;obtain⟨da,dc,rfl,-⟩:=id hd.bytes;obtain⟨_,⟨pa,pc,rfl,-⟩,-⟩:=id ct;simp only at hd ct;have hp:=bl.path;have hq:=bl.dest;have d1:=bl.keep;have d2:=bl.BN;have fz:=bl.Cd;simp only at hp hq d1 d2 fz;have d3:=hT.ext;have d4:=hT.base;obtain⟨gf,f0⟩:∃g,fv=.pointer (some ⟨g,0,none⟩):=by
  obtain⟨g,gm,gd,vp,vl,vu,L,c0,f1,-⟩:=hT.fs;exact⟨g,f1⟩
 subst f0;obtain⟨gx,rfl⟩:=hT.ref.ptr;obtain⟨wb,ca⟩:∃wb,wb=w.alloc (.cells #[.int .i64 y,.int .i64 F,.int .i64 a2,.int .i64 a3,S8 d,S8 X,.slice da l.length dc,.slice pa K.length pc] 44):=⟨_,rfl⟩;have d5:Ext w wb:=by rw[ca];exact(Ext.refl _).alloc _
 have d6:wb.heap[w.heap.size]? = some (.cells #[.int .i64 y,.int .i64 F,.int .i64 a2,.int .i64 a3,S8 d,S8 X,.slice da l.length dc,.slice pa K.length pc] 44 (0,0)):=by rw[ca];exact ab _ _
 obtain⟨b0,b1,b2,b3,b4,b5,b6,b7⟩:=aX d6;have hB:w.heap.size<wb.heap.size:=by rw[ca];simp
 have HT:Hid _:=hT;have HE:Hid _:=hE;have HG:Hid _:=hg;have bS:Hid _:=eo;have f2:Hid _:=ca;have f3:Hid _:=d5;have f4:Hid _:=d6;have a':Hid (OldB (.slice da l.length dc) l):=hd;have f5:Hid _:=d4;have d7:Hid _:=d3;have es:Hid (ReadO w0 IsEvI (.slice pa K.length pc) K):=ct;have f6:Hid _:=OldB.at hd ((d4.trans d3).trans d5);have ev:Hid _:=bl;clear hT hE hg eo ca d5 d6 hd d3 d4 ct bl;go_enter Tryz.func46,Tryz.ntmps46;go_upto_region 1 with fail;rw[show w.alloc (.cells #[.int .i64 y,.int .i64 F,.int .i64 a2,.int .i64 a3,S8 d,S8 X,.slice da l.length dc,.slice pa K.length pc] 44)=wb from f2.out.symm];go_wp2_with fail;go_at_call 29;refine(wF _ l _ f6.out).mono ?_;rintro e w1 ⟨⟨hC,rfl,cb⟩,cc⟩;obtain⟨ia,ic,f7,-⟩:=Row.BM cb a'.out.bytes.len;subst f7;have cu:Hid (IsBytes w1 (.slice ia l.length ic) l):=Row.BM cb a'.out.bytes.len;have bo:Hid (TypB w1 (.slice ia l.length ic)):=TypB.BM cb;have d8:Hid _:=cb;have bs:Ext w w1:=Ext.trans f3.out cc;have M:Hid (lG S O O' (fun k=>k<w.heap.size) w1 (.pointer (some ⟨gf,0,none⟩)) (.pointer (some ⟨gx,0,none⟩)) m Z):=Two2.pair HT.out HE.out HG.out bS.out hn bs;have a5:Hid _:=(Two2.Ce HT.out HE.out).2;have V:Hid _:=cc.row f4.out;have B:Hid (¬O w.heap.size/\¬O' w.heap.size):=⟨fun h=>by have:=HT.out.lo _ h;omega,fun h=>by have:=HT.out.Cn _ h;omega⟩;have b8:Hid (Ext ci w1):=Ext.trans (Ext.trans f5.out d7.out) bs;have f8:Hid (IsBytes w1 (.slice da l.length dc) l):=OldB.at a'.out b8.out;have ce:Hid _:=bs;have hD:=HG.out.time;have hG:=HG.out.calls;have hw:=bS.out.time;have hx:=bS.out.calls;replace b0:=cc.cell b0;have hy:=cc.size;clear cb cc bs b1 b2 b3 b4 b5 b6 b7;obtain⟨kb,U⟩:∃b,(y==0)=b:=⟨_,rfl⟩
 go_upto_block 0 with fail
 have a6:Hid _:=U;clear U;go_cut [8] (fun c wx=>∃r:Bool,c=.bool r/\(m=Z->r=true)/\Both S O O' (fun k=>k<w.heap.size) w1 (.pointer (some ⟨gf,0,none⟩)) (.pointer (some ⟨gx,0,none⟩)) m' C wx)
 case first =>
  by_cases h0:y=0
  .as_aux_lemma =>
   subst h0;have U:kb=true:=by rw[<-a6.out];rfl
   subst U;have HM:Hid ((bY m d F l).1=m'):=a4.out;have W:Hid ((bY Z d F l).1=C):=ad.out;obtain⟨J,E⟩:∃J,(bY m d F l).2=J:=⟨_,rfl⟩;have a0:Hid _:=E;obtain⟨Y,q⟩:∃J,(bY Z d F l).2=J:=⟨_,rfl⟩;have N:Hid _:=q;obtain⟨A,P⟩:∃A,(J==Y)=A:=⟨_,rfl⟩;have Q:Hid (m=Z->A=true):=fun h=>by rw[<-P,<-E,<-q,h];simp
   clear E q;go_upto_region 5 with fail;apply aI 16 (fun z w'=>DJ S O O' (fun k=>k<w.heap.size) w1 (.pointer (some ⟨gf,0,none⟩)) (.pointer (some ⟨gx,0,none⟩)) m' C (fun u=>u=.int .i64 J) (fun u=>u=.int .i64 Y) (z 6) (z 14) w') [false,false,false,false,false,false,true,false,false,false,false,false,false,false,true,false] [_,_,_,_,_,_,undef,_,_,_,_,_,_,_,undef,.bool A] [none,none,none,none,none,none,none,none,none,none,none,none,none,none,none,none] [[],[],[1],[],[3],[],[0,2,4,5],[],[],[8],[],[10],[],[12],[7,9,11,13],[6,14]] (by kernel_rfl) (by kernel_rfl) rfl
   .exact DJ.start ⟨rfl,rfl,rfl,Nat.le_refl _,fun _ _=>rfl⟩
   .simp (maxSteps:=1000000)only[cY,cG,bP,cA,cN,List.getD_cons_zero,List.getD_cons_succ,Bool.false_eq_true,if_false,if_true,and_true,true_and,forall_const,Nat.zero_add,Nat.reduceAdd,List.take_succ_cons,List.take_zero,aa,Act.put,List.setIfInBounds_toArray,List.set_cons_zero,List.set_cons_succ];and_intros
    iterate 6 · intro T z wq p;intros;rename_i G;obtain⟨c0,c1,c2,c3,c4,c5,c6,c7⟩:=aX (p.row V.out B.out.1 B.out.2);go_simp;exact G _ _ p rfl
    .intro T z wq p hz t R G;obtain⟨H,I,bh,cl⟩:=t;rw[hz]at p;go_simp;exact(tW d F _ l (DJ.fin M.out a5.out p) hp (p.bytes cu.out bo.out) (lH (p.typed bo.out) ⟨_,_,_,rfl⟩)).mono (by rintro e' w4 ⟨rfl,D⟩;rw[HM.out]at D;exact⟨_,rfl,G _ _ (DJ.Ck M.out p (by rw[a0.out]) D)⟩)
    iterate 7 · intro T z wq p;intros;rename_i G;obtain⟨c0,c1,c2,c3,c4,c5,c6,c7⟩:=aX (p.row V.out B.out.1 B.out.2);go_simp;exact G _ _ p rfl
    .intro T z wq p hz t R G;obtain⟨H,I,bh,cl⟩:=t;rw[hz]at p;go_simp;exact(r7 d F _ l (DJ.BW M.out p) hp (OldB.at a'.out (DJ.base M.out b8.out p)) (OldB.out a'.out M.out.BW.high)).mono (by rintro e' w4 ⟨rfl,D⟩;rw[W.out]at D;exact⟨_,rfl,G _ _ (DJ.Cm M.out p (by rw[N.out]) D)⟩)
    .intro T z wq p t R G;obtain⟨H,I⟩:=t;rw[H,I]at p;obtain⟨e1,e2,-⟩:=id p;go_simp;exact G _ _ (by rw[H,I];exact p) rfl
   intro T w2 au t;simp only[cX,List.getD_cons_zero,List.getD_cons_succ,Bool.false_eq_true,if_false,if_true]at au;simp only[bU,Nat.zero_add,Nat.reduceAdd,and_true]at t;simp(maxSteps:=1000000)only[List.drop_succ_cons,List.drop_zero,Nat.zero_add,Nat.reduceAdd,List.take_succ_cons,List.take_zero,aa,Act.put,List.setIfInBounds_toArray,List.set_cons_zero,List.set_cons_succ,t];clear t;generalize T 6=x6 at *;generalize T 14=ex at *;obtain⟨rfl,rfl,j⟩:=au;go_wp2_with fail;go_meet
   case rel=>exact⟨_,rfl,Q.out,j⟩
  by_cases h1:y=1
  .as_aux_lemma =>
   subst h1;have U:kb=false:=by rw[<-a6.out];rfl
   subst U;have HM:Hid ((bD m d F l).1=m'):=a4.out;have W:Hid ((bD Z d F l).1=C):=ad.out;obtain⟨J,E⟩:∃J,(bD m d F l).2=J:=⟨_,rfl⟩;have a0:Hid _:=E;obtain⟨Y,q⟩:∃J,(bD Z d F l).2=J:=⟨_,rfl⟩;have N:Hid _:=q;obtain⟨A,P⟩:∃A,(J==Y)=A:=⟨_,rfl⟩;have Q:Hid (m=Z->A=true):=fun h=>by rw[<-P,<-E,<-q,h];simp
   clear E q;go_upto_region 7 with fail;apply aI 16 (fun z w'=>DJ S O O' (fun k=>k<w.heap.size) w1 (.pointer (some ⟨gf,0,none⟩)) (.pointer (some ⟨gx,0,none⟩)) m' C (fun u=>u=.int .i64 J) (fun u=>u=.int .i64 Y) (z 6) (z 14) w') [false,false,false,false,false,false,true,false,false,false,false,false,false,false,true,false] [_,_,_,_,_,_,undef,_,_,_,_,_,_,_,undef,.bool A] [none,none,none,none,none,none,none,none,none,none,none,none,none,none,none,none] [[],[],[1],[],[3],[],[0,2,4,5],[],[],[8],[],[10],[],[12],[7,9,11,13],[6,14]] (by kernel_rfl) (by kernel_rfl) rfl
   .exact DJ.start ⟨rfl,rfl,rfl,Nat.le_refl _,fun _ _=>rfl⟩
   .simp (maxSteps:=1000000)only[cY,cG,bP,cA,cN,List.getD_cons_zero,List.getD_cons_succ,Bool.false_eq_true,if_false,if_true,and_true,true_and,forall_const,Nat.zero_add,Nat.reduceAdd,List.take_succ_cons,List.take_zero,aa,Act.put,List.setIfInBounds_toArray,List.set_cons_zero,List.set_cons_succ];and_intros
    iterate 6 · intro T z wq p;intros;rename_i G;obtain⟨c0,c1,c2,c3,c4,c5,c6,c7⟩:=aX (p.row V.out B.out.1 B.out.2);go_simp;exact G _ _ p rfl
    .intro T z wq p hz t R G;obtain⟨H,I,bh,cl⟩:=t;rw[hz]at p;go_simp;exact(lj d F _ l (DJ.fin M.out a5.out p) hp (p.bytes cu.out bo.out) (lH (p.typed bo.out) ⟨_,_,_,rfl⟩)).mono (by rintro e' w4 ⟨rfl,D⟩;rw[HM.out]at D;exact⟨_,rfl,G _ _ (DJ.Ck M.out p (by rw[a0.out]) D)⟩)
    iterate 7 · intro T z wq p;intros;rename_i G;obtain⟨c0,c1,c2,c3,c4,c5,c6,c7⟩:=aX (p.row V.out B.out.1 B.out.2);go_simp;exact G _ _ p rfl
    .intro T z wq p hz t R G;obtain⟨H,I,bh,cl⟩:=t;rw[hz]at p;go_simp;exact(kE d F _ l (DJ.BW M.out p) hp (OldB.at a'.out (DJ.base M.out b8.out p)) (OldB.out a'.out M.out.BW.high)).mono (by rintro e' w4 ⟨rfl,D⟩;rw[W.out]at D;exact⟨_,rfl,G _ _ (DJ.Cm M.out p (by rw[N.out]) D)⟩)
    .intro T z wq p t R G;obtain⟨H,I⟩:=t;rw[H,I]at p;obtain⟨e1,e2,-⟩:=id p;go_simp;exact G _ _ (by rw[H,I];exact p) rfl
   intro T w2 au t;simp only[cX,List.getD_cons_zero,List.getD_cons_succ,Bool.false_eq_true,if_false,if_true]at au;simp only[bU,Nat.zero_add,Nat.reduceAdd,and_true]at t;simp(maxSteps:=1000000)only[List.drop_succ_cons,List.drop_zero,Nat.zero_add,Nat.reduceAdd,List.take_succ_cons,List.take_zero,aa,Act.put,List.setIfInBounds_toArray,List.set_cons_zero,List.set_cons_succ,t];clear t;generalize T 6=x6 at *;generalize T 14=ex at *;obtain⟨rfl,rfl,j⟩:=au;go_wp2_with fail;go_meet
   case rel=>exact⟨_,rfl,Q.out,j⟩
  by_cases h2:y=2
  .as_aux_lemma =>
   subst h2;have U:kb=false:=by rw[<-a6.out];rfl
   subst U;have HM:Hid ((aN m d X false).1=m'):=a4.out;have W:Hid ((aN Z d X false).1=C):=ad.out;obtain⟨J,E⟩:∃J,(aN m d X false).2=J:=⟨_,rfl⟩;have a0:Hid _:=E;obtain⟨Y,q⟩:∃J,(aN Z d X false).2=J:=⟨_,rfl⟩;have N:Hid _:=q;obtain⟨A,P⟩:∃A,(J==Y)=A:=⟨_,rfl⟩;have Q:Hid (m=Z->A=true):=fun h=>by rw[<-P,<-E,<-q,h];simp
   clear E q;go_upto_region 9 with fail;apply aI 13 (fun z w'=>DJ S O O' (fun k=>k<w.heap.size) w1 (.pointer (some ⟨gf,0,none⟩)) (.pointer (some ⟨gx,0,none⟩)) m' C (fun u=>u=.int .i64 J) (fun u=>u=.int .i64 Y) (z 5) (z 11) w') [false,false,false,false,false,true,false,false,false,false,false,true,false] [_,_,_,_,_,undef,_,_,_,_,_,undef,.bool A] [none,none,none,none,none,none,none,none,none,none,none,none,none] [[],[],[1],[],[3],[0,2,4],[],[],[7],[],[9],[6,8,10],[5,11]] (by kernel_rfl) (by kernel_rfl) rfl
   .exact DJ.start ⟨rfl,rfl,rfl,Nat.le_refl _,fun _ _=>rfl⟩
   .simp (maxSteps:=1000000)only[cY,cG,bP,cA,cN,List.getD_cons_zero,List.getD_cons_succ,Bool.false_eq_true,if_false,if_true,and_true,true_and,forall_const,Nat.zero_add,Nat.reduceAdd,List.take_succ_cons,List.take_zero,aa,Act.put,List.setIfInBounds_toArray,List.set_cons_zero,List.set_cons_succ];and_intros
    iterate 5 · intro T z wq p;intros;rename_i G;obtain⟨c0,c1,c2,c3,c4,c5,c6,c7⟩:=aX (p.row V.out B.out.1 B.out.2);go_simp;exact G _ _ p rfl
    .intro T z wq p hz t R G;obtain⟨H,I,bh⟩:=t;rw[hz]at p;go_simp;exact(mN d X (DJ.fin M.out a5.out p) hp hq).mono (by rintro e' w4 ⟨rfl,D⟩;rw[HM.out]at D;exact⟨_,rfl,G _ _ (DJ.Ck M.out p (by rw[a0.out]) D)⟩)
    iterate 5 · intro T z wq p;intros;rename_i G;obtain⟨c0,c1,c2,c3,c4,c5,c6,c7⟩:=aX (p.row V.out B.out.1 B.out.2);go_simp;exact G _ _ p rfl
    .intro T z wq p hz t R G;obtain⟨H,I,bh⟩:=t;rw[hz]at p;go_simp;exact(lB d X (DJ.BW M.out p) hp hq).mono (by rintro e' w4 ⟨rfl,D⟩;rw[W.out]at D;exact⟨_,rfl,G _ _ (DJ.Cm M.out p (by rw[N.out]) D)⟩)
    .intro T z wq p t R G;obtain⟨H,I⟩:=t;rw[H,I]at p;obtain⟨e1,e2,-⟩:=id p;go_simp;exact G _ _ (by rw[H,I];exact p) rfl
   intro T w2 au t;simp only[cX,List.getD_cons_zero,List.getD_cons_succ,Bool.false_eq_true,if_false,if_true]at au;simp only[bU,Nat.zero_add,Nat.reduceAdd,and_true]at t;simp(maxSteps:=1000000)only[List.drop_succ_cons,List.drop_zero,Nat.zero_add,Nat.reduceAdd,List.take_succ_cons,List.take_zero,aa,Act.put,List.setIfInBounds_toArray,List.set_cons_zero,List.set_cons_succ,t];clear t;generalize T 5=x5 at *;generalize T 11=f9 at *;obtain⟨rfl,rfl,j⟩:=au;go_wp2_with fail;go_meet
   case rel=>exact⟨_,rfl,Q.out,j⟩
  by_cases h3:y=3
  .as_aux_lemma =>
   subst h3;have U:kb=false:=by rw[<-a6.out];rfl
   subst U;have HM:Hid ((aN m d X true).1=m'):=a4.out;have W:Hid ((aN Z d X true).1=C):=ad.out;obtain⟨J,E⟩:∃J,(aN m d X true).2=J:=⟨_,rfl⟩;have a0:Hid _:=E;obtain⟨Y,q⟩:∃J,(aN Z d X true).2=J:=⟨_,rfl⟩;have N:Hid _:=q;obtain⟨A,P⟩:∃A,(J==Y)=A:=⟨_,rfl⟩;have Q:Hid (m=Z->A=true):=fun h=>by rw[<-P,<-E,<-q,h];simp
   clear E q;go_upto_region 11 with fail;apply aI 13 (fun z w'=>DJ S O O' (fun k=>k<w.heap.size) w1 (.pointer (some ⟨gf,0,none⟩)) (.pointer (some ⟨gx,0,none⟩)) m' C (fun u=>u=.int .i64 J) (fun u=>u=.int .i64 Y) (z 5) (z 11) w') [false,false,false,false,false,true,false,false,false,false,false,true,false] [_,_,_,_,_,undef,_,_,_,_,_,undef,.bool A] [none,none,none,none,none,none,none,none,none,none,none,none,none] [[],[],[1],[],[3],[0,2,4],[],[],[7],[],[9],[6,8,10],[5,11]] (by kernel_rfl) (by kernel_rfl) rfl
   .exact DJ.start ⟨rfl,rfl,rfl,Nat.le_refl _,fun _ _=>rfl⟩
   .simp (maxSteps:=1000000)only[cY,cG,bP,cA,cN,List.getD_cons_zero,List.getD_cons_succ,Bool.false_eq_true,if_false,if_true,and_true,true_and,forall_const,Nat.zero_add,Nat.reduceAdd,List.take_succ_cons,List.take_zero,aa,Act.put,List.setIfInBounds_toArray,List.set_cons_zero,List.set_cons_succ];and_intros
    iterate 5 · intro T z wq p;intros;rename_i G;obtain⟨c0,c1,c2,c3,c4,c5,c6,c7⟩:=aX (p.row V.out B.out.1 B.out.2);go_simp;exact G _ _ p rfl
    .intro T z wq p hz t R G;obtain⟨H,I,bh⟩:=t;rw[hz]at p;go_simp;exact(rR d X (DJ.fin M.out a5.out p) hp hq).mono (by rintro e' w4 ⟨rfl,D⟩;rw[HM.out]at D;exact⟨_,rfl,G _ _ (DJ.Ck M.out p (by rw[a0.out]) D)⟩)
    iterate 5 · intro T z wq p;intros;rename_i G;obtain⟨c0,c1,c2,c3,c4,c5,c6,c7⟩:=aX (p.row V.out B.out.1 B.out.2);go_simp;exact G _ _ p rfl
    .intro T z wq p hz t R G;obtain⟨H,I,bh⟩:=t;rw[hz]at p;go_simp;exact(re d X (DJ.BW M.out p) hp hq).mono (by rintro e' w4 ⟨rfl,D⟩;rw[W.out]at D;exact⟨_,rfl,G _ _ (DJ.Cm M.out p (by rw[N.out]) D)⟩)
    .intro T z wq p t R G;obtain⟨H,I⟩:=t;rw[H,I]at p;obtain⟨e1,e2,-⟩:=id p;go_simp;exact G _ _ (by rw[H,I];exact p) rfl
   intro T w2 au t;simp only[cX,List.getD_cons_zero,List.getD_cons_succ,Bool.false_eq_true,if_false,if_true]at au;simp only[bU,Nat.zero_add,Nat.reduceAdd,and_true]at t;simp(maxSteps:=1000000)only[List.drop_succ_cons,List.drop_zero,Nat.zero_add,Nat.reduceAdd,List.take_succ_cons,List.take_zero,aa,Act.put,List.setIfInBounds_toArray,List.set_cons_zero,List.set_cons_succ,t];clear t;generalize T 5=x5 at *;generalize T 11=f9 at *;obtain⟨rfl,rfl,j⟩:=au;go_wp2_with fail;go_meet
   case rel=>exact⟨_,rfl,Q.out,j⟩
  by_cases D:y=4
  .as_aux_lemma =>
   subst D;have U:kb=false:=by rw[<-a6.out];rfl
   subst U;have HM:Hid ((bz m d).1=m'):=a4.out;have W:Hid ((bz Z d).1=C):=ad.out;obtain⟨J,E⟩:∃J,(bz m d).2=J:=⟨_,rfl⟩;have a0:Hid _:=E;obtain⟨Y,q⟩:∃J,(bz Z d).2=J:=⟨_,rfl⟩;have N:Hid _:=q;obtain⟨A,P⟩:∃A,(J==Y)=A:=⟨_,rfl⟩;have Q:Hid (m=Z->A=true):=fun h=>by rw[<-P,<-E,<-q,h];simp
   clear E q;go_upto_region 13 with fail;apply aI 9 (fun z w'=>DJ S O O' (fun k=>k<w.heap.size) w1 (.pointer (some ⟨gf,0,none⟩)) (.pointer (some ⟨gx,0,none⟩)) m' C (fun u=>u=.int .i64 J) (fun u=>u=.int .i64 Y) (z 3) (z 7) w') [false,false,false,true,false,false,false,true,false] [_,_,_,undef,_,_,_,undef,.bool A] [none,none,none,none,none,none,none,none,none] [[],[],[1],[0,2],[],[],[5],[4,6],[3,7]] (by kernel_rfl) (by kernel_rfl) rfl
   .exact DJ.start ⟨rfl,rfl,rfl,Nat.le_refl _,fun _ _=>rfl⟩
   .simp (maxSteps:=1000000)only[cY,cG,bP,cA,cN,List.getD_cons_zero,List.getD_cons_succ,Bool.false_eq_true,if_false,if_true,and_true,true_and,forall_const,Nat.zero_add,Nat.reduceAdd,List.take_succ_cons,List.take_zero,aa,Act.put,List.setIfInBounds_toArray,List.set_cons_zero,List.set_cons_succ];and_intros
    iterate 3 · intro T z wq p;intros;rename_i G;obtain⟨c0,c1,c2,c3,c4,c5,c6,c7⟩:=aX (p.row V.out B.out.1 B.out.2);go_simp;exact G _ _ p rfl
    .intro T z wq p hz t R G;obtain⟨H,I⟩:=t;rw[hz]at p;go_simp;exact(kx d (DJ.fin M.out a5.out p) hp).mono (by rintro e' w4 ⟨rfl,D⟩;rw[HM.out]at D;exact⟨_,rfl,G _ _ (DJ.Ck M.out p (by rw[a0.out]) D)⟩)
    iterate 3 · intro T z wq p;intros;rename_i G;obtain⟨c0,c1,c2,c3,c4,c5,c6,c7⟩:=aX (p.row V.out B.out.1 B.out.2);go_simp;exact G _ _ p rfl
    .intro T z wq p hz t R G;obtain⟨H,I⟩:=t;rw[hz]at p;go_simp;exact(jS d (DJ.BW M.out p) hp).mono (by rintro e' w4 ⟨rfl,D⟩;rw[W.out]at D;exact⟨_,rfl,G _ _ (DJ.Cm M.out p (by rw[N.out]) D)⟩)
    .intro T z wq p t R G;obtain⟨H,I⟩:=t;rw[H,I]at p;obtain⟨e1,e2,-⟩:=id p;go_simp;exact G _ _ (by rw[H,I];exact p) rfl
   intro T w2 au t;simp only[cX,List.getD_cons_zero,List.getD_cons_succ,Bool.false_eq_true,if_false,if_true]at au;simp only[bU,Nat.zero_add,Nat.reduceAdd,and_true]at t;simp(maxSteps:=1000000)only[List.drop_succ_cons,List.drop_zero,Nat.zero_add,Nat.reduceAdd,List.take_succ_cons,List.take_zero,aa,Act.put,List.setIfInBounds_toArray,List.set_cons_zero,List.set_cons_succ,t];clear t;generalize T 3=x3 at *;generalize T 7=x7 at *;obtain⟨rfl,rfl,j⟩:=au;go_wp2_with fail;go_meet
   case rel=>exact⟨_,rfl,Q.out,j⟩
  by_cases h5:y=5
  .as_aux_lemma =>
   subst h5;have U:kb=false:=by rw[<-a6.out];rfl
   subst U;have HM:Hid ((dg m).1=m'):=a4.out;have W:Hid ((dg Z).1=C):=ad.out;obtain⟨J,E⟩:∃J,(dg m).2=J:=⟨_,rfl⟩;have a0:Hid _:=E;obtain⟨Y,q⟩:∃J,(dg Z).2=J:=⟨_,rfl⟩;have N:Hid _:=q;obtain⟨A,P⟩:∃A,(J==Y)=A:=⟨_,rfl⟩;have Q:Hid (m=Z->A=true):=fun h=>by rw[<-P,<-E,<-q,h];simp
   clear E q;go_upto_region 15 with fail;have a7:Hid (DJ S O O' (fun k=>k<w.heap.size) w1 (.pointer (some ⟨gf,0,none⟩)) (.pointer (some ⟨gx,0,none⟩)) m' C (fun _=>True) (fun _=>True) none none w1):=DJ.start (Ext.refl _);obtain⟨c0,c1,c2,c3,c4,c5,c6,c7⟩:=aX V.out;go_wp2_with fail;go_at_call 99;refine(xQ (DJ.fin M.out a5.out a7.out)).mono ?_;rw[a0.out];rintro e wf ⟨rfl,D⟩;rw[HM.out]at D;have a1:Hid (DJ S O O' (fun k=>k<w.heap.size) w1 (.pointer (some ⟨gf,0,none⟩)) (.pointer (some ⟨gx,0,none⟩)) m' C (fun _=>True) (fun _=>True) (some (.bool true)) none wf):=DJ.Ck M.out a7.out (by trivial) D;obtain⟨c0,c1,c2,c3,c4,c5,c6,c7⟩:=aX (DJ.row a1.out V.out B.out.1 B.out.2);clear D;go_wp2_with fail;go_at_call 100;refine(vT (DJ.BW M.out a1.out)).mono ?_;rw[N.out];rintro e w2 ⟨rfl,D⟩;rw[W.out]at D;have cm:DJ S O O' (fun k=>k<w.heap.size) w1 (.pointer (some ⟨gf,0,none⟩)) (.pointer (some ⟨gx,0,none⟩)) m' C (fun _=>True) (fun _=>True) (some (.bool true)) (some (.bool true)) w2:=DJ.Cm M.out a1.out (by trivial) D;obtain⟨-,-,j⟩:=cm;clear D c0 c1 c2 c3 c4 c5 c6 c7;go_wp2_with fail;go_meet
   case rel=>exact⟨_,rfl,Q.out,j⟩
  by_cases h6:y=6
  .as_aux_lemma =>
   subst h6;have U:kb=false:=by rw[<-a6.out];rfl
   subst U;have HM:Hid ((aE m d).1=m'):=a4.out;have W:Hid ((aE Z d).1=C):=ad.out;obtain⟨J,E⟩:∃J,(aE m d).2.2=J:=⟨_,rfl⟩;have a0:Hid _:=E;obtain⟨Y,q⟩:∃J,(aE Z d).2.2=J:=⟨_,rfl⟩;have N:Hid _:=q;obtain⟨A,P⟩:∃A,(J==Y)=A:=⟨_,rfl⟩;have Q:Hid (m=Z->A=true):=fun h=>by rw[<-P,<-E,<-q,h];simp
   clear E q;obtain⟨fi,d9⟩:∃fi,(aE m d).2.1=fi:=⟨_,rfl⟩;have f':Hid _:=d9;obtain⟨fj,d'⟩:∃fi,(aE Z d).2.1=fi:=⟨_,rfl⟩;have ga:Hid _:=d';have gb:Hid (m=Z->fi=fj):=fun h=>by rw[<-d9,<-d',h]
   clear d9 d';go_upto_region 17 with fail;have a7:Hid (DJ S O O' (fun k=>k<w.heap.size) w1 (.pointer (some ⟨gf,0,none⟩)) (.pointer (some ⟨gx,0,none⟩)) m' C (fun _=>True) (fun _=>True) none none w1):=DJ.start (Ext.refl _);obtain⟨c0,c1,c2,c3,c4,c5,c6,c7⟩:=aX V.out;go_wp2_with fail;go_at_call 101;refine(qH d (DJ.fin M.out a5.out a7.out) hp).mono ?_;rw[f'.out,a0.out];rintro e wf ⟨⟨v,rfl,hv⟩,D⟩;rw[HM.out]at D;obtain⟨va,vc,rfl,-⟩:=id hv.bytes;have a1:Hid (DJ S O O' (fun k=>k<w.heap.size) w1 (.pointer (some ⟨gf,0,none⟩)) (.pointer (some ⟨gx,0,none⟩)) m' C (fun _=>True) (fun _=>True) (some (.bool true)) none wf):=DJ.Ck M.out a7.out trivial D;have hH:=D.fr.size;obtain⟨wg,cv⟩:∃wg,wg=wf.alloc (.cells #[.int .i64 fi.mode,.slice va fi.data.length vc,.int .i64 fi.time] 56):=⟨_,rfl⟩;have bq:Ext wf wg:=by rw[cv];exact(Ext.refl _).alloc _
   have ey:wg.heap[wf.heap.size]? = some (.cells #[.int .i64 fi.mode,.slice va fi.data.length vc,.int .i64 fi.time] 56 (0,0)):=by rw[cv];exact ab _ _
   have ea:Hid (DJ S O O' (fun k=>k<w.heap.size) w1 (.pointer (some ⟨gf,0,none⟩)) (.pointer (some ⟨gx,0,none⟩)) m' C (fun _=>True) (fun _=>True) (some (.bool true)) none wg):=DJ.more a1.out bq;have gc:Hid _:=cv;have eE:Hid _:=IsData.ext hv bq;obtain⟨c0,c1,c2,c3,c4,c5,c6,c7⟩:=aX (DJ.row ea.out V.out B.out.1 B.out.2);clear D cv hv bq;go_upto_region 18 with fail;rw[show wf.alloc (.cells #[.int .i64 fi.mode,.slice va fi.data.length vc,.int .i64 fi.time] 56)=wg from gc.out.symm];go_wp2_with fail;go_at_call 102;refine(pE d (DJ.BW M.out ea.out) hp).mono ?_;rw[ga.out,N.out];rintro e bd ⟨⟨v2,rfl,br⟩,h5⟩;rw[W.out]at h5;obtain⟨ua,uc,rfl,-⟩:=id br.bytes;have dq:=h5.fr.row ey (fun ho=>by have:=M.out.BW.low _ ho;omega);have gh:Hid (IsBytes bd (.slice va fi.data.length vc) fi.data):=Row.B2 eE.out.bytes eE.out.typed h5.fr.keep;have ec:Hid (DJ S O O' (fun k=>k<w.heap.size) w1 (.pointer (some ⟨gf,0,none⟩)) (.pointer (some ⟨gx,0,none⟩)) m' C (fun _=>True) (fun _=>True) (some (.bool true)) (some (.bool true)) bd):=DJ.Cm M.out ea.out trivial h5;obtain⟨wh,cx⟩:∃wh,wh=bd.alloc (.cells #[.int .i64 fj.mode,.slice ua fj.data.length uc,.int .i64 fj.time] 114):=⟨_,rfl⟩;have cn:Ext bd wh:=by rw[cx];exact(Ext.refl _).alloc _
   have eS:wh.heap[bd.heap.size]? = some (.cells #[.int .i64 fj.mode,.slice ua fj.data.length uc,.int .i64 fj.time] 114 (0,0)):=by rw[cx];exact ab _ _
   obtain⟨y0,y1,y2⟩:=bE eS;obtain⟨q0,q1,q2⟩:=bE (cn.row dq);have gi:Hid _:=cx;have gl:Hid _:=cn;have go:Hid _:=IsBytes.ext gh.out cn;have gr:Hid _:=IsBytes.ext br.bytes cn;clear h5 cx br cn ey dq eS c0 c1 c2 c3 c4 c5 c6 c7;go_upto_region 19 with fail;rw[show bd.alloc (.cells #[.int .i64 fj.mode,.slice ua fj.data.length uc,.int .i64 fj.time] 114)=wh from gi.out.symm];go_wp2_with fail;go_at_call 70;refine(yu fi fj _ _ _ go.out gr.out).mono ?_;rintro e w2 ⟨⟨r,rfl,hr⟩,co⟩;have ef:Hid (m=Z->r=true):=fun h=>hr (gb.out h)
   obtain⟨-,-,j⟩:=DJ.more ec.out (Ext.trans gl.out co);clear co y0 y1 y2 q0 q1 q2
   cases r with
   | false =>
    go_wp2_with fail;go_meet
    case rel=>exact⟨_,rfl,ef.out,j⟩
   | true =>
    go_wp2_with fail;go_meet
    case rel=>exact⟨_,rfl,Q.out,j⟩
  by_cases h7:y=7
  .as_aux_lemma =>
   subst h7;have U:kb=false:=by rw[<-a6.out];rfl
   subst U;have HM:Hid ((bm m d).1=m'):=a4.out;have W:Hid ((bm Z d).1=C):=ad.out;obtain⟨J,E⟩:∃J,(bm m d).2.2=J:=⟨_,rfl⟩;have a0:Hid _:=E;obtain⟨Y,q⟩:∃J,(bm Z d).2.2=J:=⟨_,rfl⟩;have N:Hid _:=q;obtain⟨A,P⟩:∃A,(J==Y)=A:=⟨_,rfl⟩;have Q:Hid (m=Z->A=true):=fun h=>by rw[<-P,<-E,<-q,h];simp
   clear E q;obtain⟨ls,eg⟩:∃ls,(bm m d).2.1=ls:=⟨_,rfl⟩;have gs:Hid _:=eg;obtain⟨lt,c8⟩:∃ls,(bm Z d).2.1=ls:=⟨_,rfl⟩;have eh:Hid _:=c8;have gv:Hid (m=Z->ls=lt):=fun h=>by rw[<-eg,<-c8,h]
   clear eg c8;go_upto_region 21 with fail;have a7:Hid (DJ S O O' (fun k=>k<w.heap.size) w1 (.pointer (some ⟨gf,0,none⟩)) (.pointer (some ⟨gx,0,none⟩)) m' C (fun _=>True) (fun _=>True) none none w1):=DJ.start (Ext.refl _);obtain⟨c0,c1,c2,c3,c4,c5,c6,c7⟩:=aX V.out;go_wp2_with fail;go_at_call 48;refine(qG d (DJ.fin M.out a5.out a7.out) hp).mono ?_;rw[gs.out,a0.out];rintro e wf ⟨⟨v,rfl,hv,fa⟩,D⟩;rw[HM.out]at D;obtain⟨va,vc,rfl,-⟩:=id hv;have a1:Hid (DJ S O O' (fun k=>k<w.heap.size) w1 (.pointer (some ⟨gf,0,none⟩)) (.pointer (some ⟨gx,0,none⟩)) m' C (fun _=>True) (fun _=>True) (some (.bool true)) none wf):=DJ.Ck M.out a7.out trivial D;have HV:Hid _:=hv;have gw:Hid _:=fa;obtain⟨c0,c1,c2,c3,c4,c5,c6,c7⟩:=aX (DJ.row a1.out V.out B.out.1 B.out.2);clear D hv fa;go_wp2_with fail;go_at_call 90;refine(pF d (DJ.BW M.out a1.out) hp).mono ?_;rw[eh.out,N.out];rintro e bd ⟨⟨v2,rfl,br⟩,h5⟩;rw[W.out]at h5;obtain⟨ua,uc,rfl,-⟩:=id br;have gy:Hid (IsStrs bd (.slice va ls.length vc) ls):=by
    obtain⟨a9,c9,fb,k1,k2,k3,k4⟩:=HV.out;refine⟨a9,c9,fb,k1,k2,k3,fun gz=>?_⟩;obtain⟨b,o,rfl,hc⟩:=k4 gz;refine⟨b,o,rfl,fun i u hu=>?_⟩;have fc:=hc i u hu;have hJ:=gw.out b (by rw[fb];rfl);rw[World.cell?_of_block (w:=wf) (w':=bd) (a:=⟨b,o+i,none⟩) (h5.fr.block b (World.block_lt_of_cell? _ _ fc) (.inl (fun ho=>by have:=M.out.BW.low _ ho;omega)))];exact fc
   have g0:Hid _:=br;have ec:Hid (DJ S O O' (fun k=>k<w.heap.size) w1 (.pointer (some ⟨gf,0,none⟩)) (.pointer (some ⟨gx,0,none⟩)) m' C (fun _=>True) (fun _=>True) (some (.bool true)) (some (.bool true)) bd):=DJ.Cm M.out a1.out trivial h5;clear h5 br c0 c1 c2 c3 c4 c5 c6 c7;go_wp2_with fail;go_at_call 25;refine(ib _ _ _ _ _ gy.out g0.out).mono ?_;obtain⟨r,hr⟩:∃r,(ls==lt)=r:=⟨_,rfl⟩;rw[hr];have ef:Hid (m=Z->r=true):=fun h=>by rw[<-hr,gv.out h];simp
   clear hr;rintro e w2 ⟨rfl,co⟩;obtain⟨-,-,j⟩:=DJ.more ec.out co;clear co
   cases r with
   | false =>
    go_wp2_with fail;go_meet
    case rel=>exact⟨_,rfl,ef.out,j⟩
   | true =>
    go_wp2_with fail;go_meet
    case rel=>exact⟨_,rfl,Q.out,j⟩
  by_cases h8:y=8
  .as_aux_lemma =>
   subst h8;have U:kb=false:=by rw[<-a6.out];rfl
   subst U;have HM:Hid ((aM m d F l).1=m'):=a4.out;have W:Hid ((aM Z d F l).1=C):=ad.out;obtain⟨J,E⟩:∃J,(aM m d F l).2=J:=⟨_,rfl⟩;have a0:Hid _:=E;obtain⟨Y,q⟩:∃J,(aM Z d F l).2=J:=⟨_,rfl⟩;have N:Hid _:=q;obtain⟨A,P⟩:∃A,(J==Y)=A:=⟨_,rfl⟩;have Q:Hid (m=Z->A=true):=fun h=>by rw[<-P,<-E,<-q,h];simp
   clear E q;go_upto_region 25 with fail;apply aI 16 (fun z w'=>DJ S O O' (fun k=>k<w.heap.size) w1 (.pointer (some ⟨gf,0,none⟩)) (.pointer (some ⟨gx,0,none⟩)) m' C (fun u=>u=.int .i64 J) (fun u=>u=.int .i64 Y) (z 6) (z 14) w') [false,false,false,false,false,false,true,false,false,false,false,false,false,false,true,false] [_,_,_,_,_,_,undef,_,_,_,_,_,_,_,undef,.bool A] [none,none,none,none,none,none,none,none,none,none,none,none,none,none,none,none] [[],[],[1],[],[3],[],[0,2,4,5],[],[],[8],[],[10],[],[12],[7,9,11,13],[6,14]] (by kernel_rfl) (by kernel_rfl) rfl
   .exact DJ.start ⟨rfl,rfl,rfl,Nat.le_refl _,fun _ _=>rfl⟩
   .simp (maxSteps:=1000000)only[cY,cG,bP,cA,cN,List.getD_cons_zero,List.getD_cons_succ,Bool.false_eq_true,if_false,if_true,and_true,true_and,forall_const,Nat.zero_add,Nat.reduceAdd,List.take_succ_cons,List.take_zero,aa,Act.put,List.setIfInBounds_toArray,List.set_cons_zero,List.set_cons_succ];and_intros
    iterate 6 · intro T z wq p;intros;rename_i G;obtain⟨c0,c1,c2,c3,c4,c5,c6,c7⟩:=aX (p.row V.out B.out.1 B.out.2);go_simp;exact G _ _ p rfl
    .intro T z wq p hz t R G;obtain⟨H,I,bh,cl⟩:=t;rw[hz]at p;go_simp;exact(kQ d F _ l (DJ.fin M.out a5.out p).env (DJ.fin M.out a5.out p).fs HG.out.ok (by omega) (by omega) (p.bytes cu.out bo.out) a'.out.bytes.len (fun hh=>i' _ hh) (lH (p.typed bo.out) ⟨_,_,_,rfl⟩)).mono (by rintro e' w4 ⟨rfl,D⟩;rw[HM.out]at D;exact⟨_,rfl,G _ _ (DJ.Ck M.out p (by rw[a0.out]) D)⟩)
    iterate 7 · intro T z wq p;intros;rename_i G;obtain⟨c0,c1,c2,c3,c4,c5,c6,c7⟩:=aX (p.row V.out B.out.1 B.out.2);go_simp;exact G _ _ p rfl
    .intro T z wq p hz t R G;obtain⟨H,I,bh,cl⟩:=t;rw[hz]at p;go_simp;exact(j8 d F _ l (DJ.BW M.out p).fs bS.out.ok (by omega) hp (OldB.at a'.out (DJ.base M.out b8.out p)) (OldB.out a'.out M.out.BW.high)).mono (by rintro e' w4 ⟨rfl,D⟩;rw[W.out]at D;exact⟨_,rfl,G _ _ (DJ.Cm M.out p (by rw[N.out]) D)⟩)
    .intro T z wq p t R G;obtain⟨H,I⟩:=t;rw[H,I]at p;obtain⟨e1,e2,-⟩:=id p;go_simp;exact G _ _ (by rw[H,I];exact p) rfl
   intro T w2 au t;simp only[cX,List.getD_cons_zero,List.getD_cons_succ,Bool.false_eq_true,if_false,if_true]at au;simp only[bU,Nat.zero_add,Nat.reduceAdd,and_true]at t;simp(maxSteps:=1000000)only[List.drop_succ_cons,List.drop_zero,Nat.zero_add,Nat.reduceAdd,List.take_succ_cons,List.take_zero,aa,Act.put,List.setIfInBounds_toArray,List.set_cons_zero,List.set_cons_succ,t];clear t;generalize T 6=x6 at *;generalize T 14=ex at *;obtain⟨rfl,rfl,j⟩:=au;go_wp2_with fail;go_meet
   case rel=>exact⟨_,rfl,Q.out,j⟩
  by_cases c':y=9
  .as_aux_lemma =>
   subst c';have U:kb=false:=by rw[<-a6.out];rfl
   subst U;have HM:Hid ((aL m d).1=m'):=a4.out;have W:Hid ((aL Z d).1=C):=ad.out;obtain⟨J,E⟩:∃J,(aL m d).2=J:=⟨_,rfl⟩;have a0:Hid _:=E;obtain⟨Y,q⟩:∃J,(aL Z d).2=J:=⟨_,rfl⟩;have N:Hid _:=q;obtain⟨A,P⟩:∃A,(J==Y)=A:=⟨_,rfl⟩;have Q:Hid (m=Z->A=true):=fun h=>by rw[<-P,<-E,<-q,h];simp
   clear E q;go_upto_region 27 with fail;apply aI 9 (fun z w'=>DJ S O O' (fun k=>k<w.heap.size) w1 (.pointer (some ⟨gf,0,none⟩)) (.pointer (some ⟨gx,0,none⟩)) m' C (fun u=>u=.int .i64 J) (fun u=>u=.int .i64 Y) (z 3) (z 7) w') [false,false,false,true,false,false,false,true,false] [_,_,_,undef,_,_,_,undef,.bool A] [none,none,none,none,none,none,none,none,none] [[],[],[1],[0,2],[],[],[5],[4,6],[3,7]] (by kernel_rfl) (by kernel_rfl) rfl
   .exact DJ.start ⟨rfl,rfl,rfl,Nat.le_refl _,fun _ _=>rfl⟩
   .simp (maxSteps:=1000000)only[cY,cG,bP,cA,cN,List.getD_cons_zero,List.getD_cons_succ,Bool.false_eq_true,if_false,if_true,and_true,true_and,forall_const,Nat.zero_add,Nat.reduceAdd,List.take_succ_cons,List.take_zero,aa,Act.put,List.setIfInBounds_toArray,List.set_cons_zero,List.set_cons_succ];and_intros
    iterate 3 · intro T z wq p;intros;rename_i G;obtain⟨c0,c1,c2,c3,c4,c5,c6,c7⟩:=aX (p.row V.out B.out.1 B.out.2);go_simp;exact G _ _ p rfl
    .intro T z wq p hz t R G;obtain⟨H,I⟩:=t;rw[hz]at p;go_simp;exact(jY d (DJ.fin M.out a5.out p).env (DJ.fin M.out a5.out p).fs HG.out.ok (by omega) (by omega)).mono (by rintro e' w4 ⟨rfl,D⟩;rw[HM.out]at D;exact⟨_,rfl,G _ _ (DJ.Ck M.out p (by rw[a0.out]) D)⟩)
    iterate 3 · intro T z wq p;intros;rename_i G;obtain⟨c0,c1,c2,c3,c4,c5,c6,c7⟩:=aX (p.row V.out B.out.1 B.out.2);go_simp;exact G _ _ p rfl
    .intro T z wq p hz t R G;obtain⟨H,I⟩:=t;rw[hz]at p;go_simp;exact(jD d (DJ.BW M.out p).fs bS.out.ok (by omega) hp).mono (by rintro e' w4 ⟨rfl,D⟩;rw[W.out]at D;exact⟨_,rfl,G _ _ (DJ.Cm M.out p (by rw[N.out]) D)⟩)
    .intro T z wq p t R G;obtain⟨H,I⟩:=t;rw[H,I]at p;obtain⟨e1,e2,-⟩:=id p;go_simp;exact G _ _ (by rw[H,I];exact p) rfl
   intro T w2 au t;simp only[cX,List.getD_cons_zero,List.getD_cons_succ,Bool.false_eq_true,if_false,if_true]at au;simp only[bU,Nat.zero_add,Nat.reduceAdd,and_true]at t;simp(maxSteps:=1000000)only[List.drop_succ_cons,List.drop_zero,Nat.zero_add,Nat.reduceAdd,List.take_succ_cons,List.take_zero,aa,Act.put,List.setIfInBounds_toArray,List.set_cons_zero,List.set_cons_succ,t];clear t;generalize T 3=x3 at *;generalize T 7=x7 at *;obtain⟨rfl,rfl,j⟩:=au;go_wp2_with fail;go_meet
   case rel=>exact⟨_,rfl,Q.out,j⟩
  by_cases dk:y=10
  .as_aux_lemma =>
   subst dk;have U:kb=false:=by rw[<-a6.out];rfl
   subst U;have HM:Hid ((cS m a2 a3)=m'):=a4.out;have W:Hid ((cS Z a2 a3)=C):=ad.out;go_upto_region 29 with fail;have a7:Hid (DJ S O O' (fun k=>k<w.heap.size) w1 (.pointer (some ⟨gf,0,none⟩)) (.pointer (some ⟨gx,0,none⟩)) m' C (fun _=>True) (fun _=>True) none none w1):=DJ.start (Ext.refl _);obtain⟨c0,c1,c2,c3,c4,c5,c6,c7⟩:=aX V.out;go_wp2_with fail;go_at_call 107;refine(o7 a2 a3 (DJ.fin M.out a5.out a7.out).fs HG.out.ok (by omega) d1 d2).mono ?_;rintro e wf ⟨rfl,D⟩;rw[HM.out]at D;have a1:Hid (DJ S O O' (fun k=>k<w.heap.size) w1 (.pointer (some ⟨gf,0,none⟩)) (.pointer (some ⟨gx,0,none⟩)) m' C (fun _=>True) (fun _=>True) (some (.bool true)) none wf):=DJ.Ck M.out a7.out (by trivial) D;obtain⟨c0,c1,c2,c3,c4,c5,c6,c7⟩:=aX (DJ.row a1.out V.out B.out.1 B.out.2);clear D;go_wp2_with fail;go_at_call 108;refine(nK a2 a3 (DJ.BW M.out a1.out).fs bS.out.ok (by omega) d1 d2).mono ?_;rintro e w2 ⟨rfl,D⟩;rw[W.out]at D;have cm:DJ S O O' (fun k=>k<w.heap.size) w1 (.pointer (some ⟨gf,0,none⟩)) (.pointer (some ⟨gx,0,none⟩)) m' C (fun _=>True) (fun _=>True) (some (.bool true)) (some (.bool true)) w2:=DJ.Cm M.out a1.out (by trivial) D;obtain⟨-,-,j⟩:=cm;clear D c0 c1 c2 c3 c4 c5 c6 c7;go_wp2_with fail;go_meet
   case rel=>exact⟨_,rfl,fun _=>rfl,j⟩
  by_cases dl:y=11
  .as_aux_lemma =>
   subst dl;have U:kb=false:=by rw[<-a6.out];rfl
   subst U;have HM:Hid ((fd m)=m'):=a4.out;have W:Hid ((fd Z)=C):=ad.out;go_upto_region 32 with fail;have a7:Hid (DJ S O O' (fun k=>k<w.heap.size) w1 (.pointer (some ⟨gf,0,none⟩)) (.pointer (some ⟨gx,0,none⟩)) m' C (fun _=>True) (fun _=>True) none none w1):=DJ.start (Ext.refl _);obtain⟨c0,c1,c2,c3,c4,c5,c6,c7⟩:=aX V.out;go_wp2_with fail;go_at_call 12;refine(tR (DJ.fin M.out a5.out a7.out).fs).mono ?_;rintro e wf ⟨rfl,D⟩;rw[HM.out]at D;have a1:Hid (DJ S O O' (fun k=>k<w.heap.size) w1 (.pointer (some ⟨gf,0,none⟩)) (.pointer (some ⟨gx,0,none⟩)) m' C (fun _=>True) (fun _=>True) (some (.bool true)) none wf):=DJ.Ck M.out a7.out (by trivial) D;obtain⟨c0,c1,c2,c3,c4,c5,c6,c7⟩:=aX (DJ.row a1.out V.out B.out.1 B.out.2);clear D;go_wp2_with fail;go_at_call 109;refine(r8 (DJ.BW M.out a1.out).fs).mono ?_;rintro e w2 ⟨rfl,D⟩;rw[W.out]at D;have cm:DJ S O O' (fun k=>k<w.heap.size) w1 (.pointer (some ⟨gf,0,none⟩)) (.pointer (some ⟨gx,0,none⟩)) m' C (fun _=>True) (fun _=>True) (some (.bool true)) (some (.bool true)) w2:=DJ.Cm M.out a1.out (by trivial) D;obtain⟨-,-,j⟩:=cm;clear D c0 c1 c2 c3 c4 c5 c6 c7;go_wp2_with fail;go_meet
   case rel=>exact⟨_,rfl,fun _=>rfl,j⟩
  by_cases dn:y=12
  .as_aux_lemma =>
   subst dn;have U:kb=false:=by rw[<-a6.out];rfl
   subst U;have HM:Hid ((gP m K)=m'):=a4.out;have W:Hid ((gP Z K)=C):=ad.out;have fe:Hid (ReadO w1 IsEvD (.slice pa K.length pc) K):=ReadO.C5 (ReadO.DL es.out (fun e he=>(ev.out.ev e he).2.2)) (Ext.trans d7.out ce.out);have g1:Hid (ReadB w1 (.slice pa K.length pc) K):=ReadO.Di fe.out b8.out;have ds:Hid (K≠[]->∀k,(Value.slice pa K.length pc).ownBlock=some k->k<w0.heap.size):=fun hn k t=>es.out.lt hn k t
   have hK:w0.heap.size<=w.heap.size:=Below.size d7.out;have hL:w.heap.size<=w1.heap.size:=Below.size ce.out;have bt:Hid (∀k,O k->w0.heap.size<=k/\k<w.heap.size):=HT.out.lo;have bk:Hid (∀k,O' k->w0.heap.size<=k/\k<w.heap.size):=HT.out.Cn;have cp:Hid (∀k,O k->¬O' k):=HT.out.B9;go_upto_region 35 with fail;obtain⟨c0,c1,c2,c3,c4,c5,c6,c7⟩:=aX V.out;go_wp2_with fail;go_at_call 11;refine(xS M.out.fin.fs M.out.fin.low g1.out (by omega)).mono ?_;rintro e wf ⟨rfl,ff,bb⟩;have g2:Hid (IsFs (Nu w1 wf) O (Nw (fun k=>k<w.heap.size) w1 wf) wf (.pointer (some ⟨gf,0,none⟩)) (gP m K)):=ff;have fk:Hid (Fr O w1 wf):=bb;have hM:=bb.size;obtain⟨c0,c1,c2,c3,c4,c5,c6,c7⟩:=aX (bb.row V.out B.out.1);have g3:Hid (ReadO wf IsEvD (.slice pa K.length pc) K):=ReadO.stay fe.out bb.size (fun hn k t=>bb.block k (by have:=ds.out hn k t;omega) (.inl (fun ho=>by have:=bt.out k ho;have:=ds.out hn k t;omega)));have g4:Hid (RefIn O' (fun k=>k<w.heap.size) wf (.pointer (some ⟨gx,0,none⟩)) Z):=RefIn.other M.out.BW bb (fun k h1 h2=>cp.out k h2 h1) M.out.high;clear ff bb;go_wp2_with fail;go_at_call 111;refine(rt g3.out (by omega)).mono ?_;rintro e wg ⟨⟨vq,rfl,g5,a8,cq⟩,bq⟩;obtain⟨qa,qc,rfl,-⟩:=Row.BM a8 (by omega);have fl:Hid (Row wg (.slice qa K.length qc) K.length g5.flatten):=Row.BM a8 (by omega);have g6:Hid _:=cq;have eh:Hid (∀k,(Value.slice qa K.length qc).ownBlock=some k->k<wg.heap.size/\¬O' k):=fun k t=>by
    have h9:=World.ownsRow.lt a8 k t;exact⟨h9.2,fun ho=>by have:=bk.out k ho;omega⟩
   have ek:Hid _:=bq;have hN:=bq.size;clear a8 cq bq c0 c1 c2 c3 c4 c5 c6 c7;go_wp2_with fail;go_at_call 110;refine(vV (IsRef.ext g4.out.fs ek.out) fl.out g6.out eh.out (by omega)).mono ?_;rintro e w2 ⟨rfl,h5⟩;have hO:=h5.fr.size;have j:Both S O O' (fun k=>k<w.heap.size) w1 (.pointer (some ⟨gf,0,none⟩)) (.pointer (some ⟨gx,0,none⟩)) m' C w2:=by
    rw[<-HM.out,<-W.out];refine⟨⟨Nu w1 wf,O,Nw O' wg w2,?_,?_,fun k t=>⟨.inr t.1,by have:=t.2;omega,fun ho=>by have:=bt.out k ho;have:=t.1;omega,fun ho=>?_⟩,fun k t=>⟨.inl t,by have:=bt.out k t;omega⟩,fun k t=>⟨t.imp id (fun h=>by omega),?_⟩,fun k t ho=>?_⟩,?_⟩
    .exact ((g2.out.ext ek.out).other h5.fr cp.out (fun k t ho=>by have:=bk.out k ho;have:=t.1;omega)).mono (fun _ h=>h) (fun k t=>t.fst (by omega))
    .exact h5.fs.mono (fun _ h=>h) (fun k t=>t.imp id (fun h=>⟨by omega,h.2⟩))
    .rcases ho with ho | ho
     .have:=bk.out k ho;have:=t.1;omega
     .have:=t.2;omega
    .rcases t with t | t
     .have:=bk.out k t;omega
     .exact t.2
    .rcases ho with ho | ho
     .exact cp.out k t ho
     .have:=bt.out k t;omega
    .exact ((fk.out.ext ek.out).mono (fun k t=>.inl t)).trans (h5.fr.mono (fun k t=>.inl (.inr t)))
   clear h5;go_wp2_with fail;go_meet
   case rel=>exact⟨_,rfl,fun _=>rfl,j⟩
  have HM:Hid (m=m'):=by
   have h9:=a4.out;unfold fC at h9;rw[if_neg h0,if_neg h1,if_neg h2,if_neg h3,if_neg D,if_neg h5,if_neg h6,if_neg h7,if_neg h8,if_neg c',if_neg dk,if_neg dl,if_neg dn]at h9;exact h9
  have W:Hid (Z=C):=by
   have h9:=ad.out;unfold fC at h9;rw[if_neg h0,if_neg h1,if_neg h2,if_neg h3,if_neg D,if_neg h5,if_neg h6,if_neg h7,if_neg h8,if_neg c',if_neg dk,if_neg dl,if_neg dn]at h9;exact h9
  have j:Both S O O' (fun k=>k<w.heap.size) w1 (.pointer (some ⟨gf,0,none⟩)) (.pointer (some ⟨gx,0,none⟩)) m' C w1:=by
   rw[<-HM.out,<-W.out];exact Both.same M.out (Ext.refl _)
  have e0:kb=false:=by rw[<-a6.out];exact beq_eq_false_iff_ne.2 h0
  subst e0;have e1:(y==1)=false:=beq_eq_false_iff_ne.2 h1;have e2:(y==2)=false:=beq_eq_false_iff_ne.2 h2;have e3:(y==3)=false:=beq_eq_false_iff_ne.2 h3;have e4:(y==4)=false:=beq_eq_false_iff_ne.2 D;have e5:(y==5)=false:=beq_eq_false_iff_ne.2 h5;have e6:(y==6)=false:=beq_eq_false_iff_ne.2 h6;have e7:(y==7)=false:=beq_eq_false_iff_ne.2 h7;have e8:(y==8)=false:=beq_eq_false_iff_ne.2 h8;have e9:(y==9)=false:=beq_eq_false_iff_ne.2 c';have hP:(y==10)=false:=beq_eq_false_iff_ne.2 dk;have hQ:(y==11)=false:=beq_eq_false_iff_ne.2 dl;have hS:(y==12)=false:=beq_eq_false_iff_ne.2 dn;go_wp2_with fail;go_meet
  case rel=>exact⟨_,rfl,fun _=>rfl,j⟩
 case rest =>
  obtain⟨r,rfl,hr,j⟩:=hcut;have HR:Hid (m=Z->r=true):=hr;clear hr;have g7:Hid _:=j;have fn:=j.fr.row V.out (fun h=>h.elim B.out.1 B.out.2);obtain⟨-,-,-,-,-,-,c6,-⟩:=aX fn;have g8:Hid (IsBytes wc (.slice ia l.length ic) l):=Row.B2 cu.out bo.out j.fr.keep;have g9:Hid (IsBytes wc (.slice da l.length dc) l):=OldB.at a'.out (Ext.B5 b8.out j.fr (fun k t=>t.elim (M.out.high k) (M.out.BW.high k)));have g':Hid (wc.ownsRow wb.heap.size 5 1 (.slice ia l.length ic) l.length (l.map fun x=>.int .u8 x.toNat)):=by
   refine⟨d8.out.1,d8.out.2.imp id ?_⟩;rintro⟨g,ha,hf,h1,h2,h3,D⟩;exact⟨g,ha,hf,h1,h2,(j.fr.keep.2 _ ⟨_,_,_,h3,uT⟩).trans h3,D⟩
  have hU:=f8.out.len;have hi:Hid (∀k,(Value.slice ia l.length ic).ownBlock=some k->w.heap.size<=k/\k<w1.heap.size):=fun k t=>by
   have:=World.ownsRow.lt d8.out k t;omega
  clear fn j;go_upto_region 37 with fail;go_wp2_with fail;go_at_call 31;refine(cD _ _ _ _ _ g8.out g9.out).mono ?_;rw[beq_self_eq_true];rintro e w3 ⟨rfl,rfl⟩;clear c6;go_wp2_with fail;go_loopw [17] (fun i wr=>∃(k:Nat) (T:List Value),k<=l.length/\i=.int .i64 k/\wr.ownsRow wb.heap.size 5 1 (.slice ia l.length ic) l.length T/\U8sL T/\w3.grownBy wr (Value.slice ia l.length ic).ownBlock) (fun i _=>l.length - (intOf i).toNat)
  case atStart=>exact⟨0,_,Nat.zero_le _,rfl,g'.out,U8sL.map _,⟨rfl,rfl,rfl,Nat.le_refl _,fun _ _ _=>rfl⟩⟩
  case round =>
   obtain⟨k,ys,t,rfl,a8,fr,ft⟩:=hrel;have bx:Hid _:=a8;have HU:Hid _:=fr;have fu:Hid _:=ft;have hV:ys.length=l.length:=by have:=a8.1;omega
   clear a8 fr ft
   by_cases c8:k<l.length
   .obtain ⟨g,hA,fx⟩:=dw bx.out (by omega);simp only[Value.slice.injEq,true_and]at fx;obtain⟨rfl,rfl⟩:=fx;obtain⟨u,hu⟩:∃u,ys[k]? = some u:=⟨_,List.getElem?_eq_getElem (by omega)⟩;obtain⟨b,hb,rfl⟩:=HU.out k u hu;have hl:wr.cell? ⟨g,k,none⟩=some (.int .u8 b):=by
     rw[World.ownsRow.cellAt bx.out k (by omega)];exact hu
    have hW:=World.ownsRow.frozenAt bx.out k;clear hu;go_wp2;go_roundw
    case rel =>
     obtain⟨hm,hs⟩:=World.ownsRow.stored bx.out k (.int .u8 (((b:Int)+1)%256));refine⟨k+1,ys.set k (.int .u8 (((b:Int)+1)%256)),by omega,by go_num,hm,?_,fu.out.trans hs⟩;have he:((b:Int)+1)%256=(((b+1)%256:Nat):Int):=by omega
     rw[he];exact U8sL.set HU.out k _ (by omega)
    case measure=>simp[intOf];omega
   .have ht:k=l.length:=by omega
    subst ht;go_wp2;go_ret;exact⟨⟨_,rfl,HR.out⟩,Two2.done HT.out ce.out g7.out hi.out fu.out⟩
theorem uy {S O O':Nat->Prop} (d:Two w0 S O O' w fv xv m) (g:Env w0) (c:Good n m) (i:n<=60000) (j:IsOpn w0 cs o) (a:jR o) :
  Calls Tryz.prog 46 #[fv,xv,.agg cs.toArray] w (yH w0 S O O' fv xv (fC m o) w) :=
 (ux d g c c i j a).mono (by rintro e l ⟨⟨b,rfl,k⟩,h⟩;rw[k rfl];exact⟨rfl,h⟩)
end
section
open Go Go.RowKit
variable [Inhabited bc] [KW:Inhabited cT]
variable {v:Value}
theorem IsObT.kept {w w':World} {o:Ob} (h:IsObT w v o) (a:KeepB w w') (b:Keep 130 w w') (c:Keep 9 w w'):IsOb w' v o:=by
 obtain⟨d,e,g,rfl,i,j,k,l,n,p⟩:=h;exact⟨d,e,g,rfl,Row.B2 i l a,Row.keep j n b,Row.keep k p c⟩
variable {k:Nat}
theorem ru {m:Fs} (h:Good k m) (id:B8):(bB m id).2.1.length<=10000000:=by
 have a:=je (p:=ar id) h.ok h.plan;unfold bB;split
 .exact Nat.zero_le _
 .split
  .exact Nat.zero_le _
  .split
   .exact Nat.zero_le _
   .dsimp only;omega
theorem uz (m:Fs):(aY m).1=(aB m).1:=by
 unfold aY;split <;> exact mQ ..
structure twJ (w0:World) (K:List (Nat×Obj)) (f x:Value) (gs gc gy:Nat) (m m1:Fs) (n n1:Int) (U:Value) (z3 z7:Option Value) (w:World):Prop where
 tw:Tw w0 K w f x gs gc gy (if z3=none then m else m1) (if z7=none then m else m1) (if z3=none then n else n1) (if z7=none then n else n1)
 v3:∀u,z3=some u->u=U
 v7:∀u,z7=some u->u=U
section
variable {w0 w:World} {K:List (Nat×Obj)} {f x:Value} {gs gc gy:Nat} {m m1:Fs} {n n1:Int} {U:Value} {z3 z7:Option Value}
theorem twJ.start (h:Tw w0 K w f x gs gc gy m m n n):twJ w0 K f x gs gc gy m m1 n n1 U none none w:=⟨by simpa using h,fun u a=>(by cases a),fun u a=>(by cases a)⟩
theorem twJ.row {o:Obj} (h:twJ w0 ((k,o)::K) f x gs gc gy m m1 n n1 U z3 z7 w):w.heap[k]? = some o:=h.tw.row
variable {u:Value}
theorem twJ.Dh (h:twJ w0 K f x gs gc gy m m1 n n1 U z3 z7 w) (a:z3=some u):u=U:=h.v3 u a
theorem twJ.Dg (h:twJ w0 K f x gs gc gy m m1 n n1 U z3 z7 w) (a:z7=some u):u=U:=h.v7 u a
theorem twJ.both (h:twJ w0 K f x gs gc gy m m1 n n1 U (some u) (some v) w):Tw w0 K w f x gs gc gy m1 m1 n1 n1:=by
 have a:=h.tw;rw[if_neg (by simp),if_neg (by simp),if_neg (by simp),if_neg (by simp)]at a;exact a
variable {F:Nat} {args:Array Value}
theorem twJ.prog (h:twJ w0 K f x gs gc gy m m1 n n1 U none z7 w) (b:∀k,cL k=none) (i:Env w0)
  (j:∀(KW:Inhabited cT) (S c:Nat->Prop) (d:World),St (KW:=KW) w0 S c d f gs gc m n->Calls Tryz.prog F args d fun e a=>∃l:Nat->Prop,e=.returned U/\St (KW:=KW) w0 S l a f gs gc m1 n1) :
  Calls Tryz.prog F args w fun e a=>e=.returned U/\twJ w0 K f x gs gc gy m m1 n n1 U (some U) z7 a:=by
 have g:=h.tw;rw[if_pos (show(none:Option Value)=none from rfl),if_pos (show(none:Option Value)=none from rfl)]at g;refine(Tw.prog b i g (fun KW S c o=>j KW S c w o)).mono ?_;rintro e a ⟨p,q,-⟩;exact⟨p,by rw[if_neg (show ¬some U=none by simp),if_neg (show ¬some U=none by simp)];exact q,fun u r=>(by cases r;rfl),h.v7⟩
theorem twJ.doc (h:twJ w0 K f x gs gc gy m m1 n n1 U z3 none w) (b:∀k,cL k=none)
  (g:∀(O':Nat->Prop) (c:World),Sr w0 O' c x gy m n->Calls Tryz.prog F args c fun e a=>e=.returned U/\SrPost w0 O' x gy m1 n1 c a) :
  Calls Tryz.prog F args w fun e a=>e=.returned U/\twJ w0 K f x gs gc gy m m1 n n1 U z3 (some U) a:=by
 have d:=h.tw;rw[if_pos (show(none:Option Value)=none from rfl),if_pos (show(none:Option Value)=none from rfl)]at d;refine(Tw.doc b d (fun O' i=>g O' w i)).mono ?_;rintro e a ⟨j,l,-⟩;exact⟨j,by rw[if_neg (show ¬some U=none by simp),if_neg (show ¬some U=none by simp)];exact l,h.v3,fun u o=>(by cases o;rfl)⟩
theorem Tw.does (j:∀k,cL k=none) {cs:List Value} {g:Opn} (h:Tw w0 K w f x gs gc gy m m n n) (A:Env w0) (B:Good k m) (d:k<=60000) (b:IsOpn w0 cs g) (r:jR g) :
  Calls Tryz.prog 46 #[f,x,.agg cs.toArray] w fun e z=>e=.returned (.bool true)/\Tw w0 [] z f x gs gc gy (fC m g) (fC m g) n n:=by
 obtain⟨S,O,C,h⟩:=h;obtain⟨l,t,p,q,D,E⟩:=h.out;have L:=h.st.lt;have F:=h.sr.lt;have G:Two w0 S O C w f x m:=⟨h.sr.base,h.st.one.ext,h.st.one.fs,h.sr.ref,h.st.one.lo,h.sr.lo,h.st.one.Cc,h.B9,fun k d=>⟨h.st.one.BU k d,h.BU k d⟩⟩;refine(uy G A B d b r).mono ?_;rintro e z ⟨H,I,J,u,i,c,y⟩;refine⟨H,I,J,u,⟨⟨i.ext,i.fs,i.lo,i.Cc,fun k d=>(i.BU k d).1⟩,y.row h.st.row (fun b=>by rcases b with b | b;exact h.st.out.1 b;exact p b),y.row h.st.BZ (fun b=>by rcases b with b | b;exact h.st.out.2.1 b;exact q b),h.st.lo,⟨fun b=>?_,fun b=>?_,fun b=>?_,fun b=>?_⟩,fun k o d=>(by rw[j]at d;cases d),jA j _⟩,⟨i.base,i.ext,i.ref,i.Cn,y.row h.sr.row (fun b=>by rcases b with b | b;exact l b;exact h.sr.out b),h.sr.gl,fun b=>?_⟩,i.B9,fun k d=>(i.BU k d).2,⟨fun b=>?_,fun b=>?_,fun b=>?_,fun b=>?_,D,E⟩,fun k o d=>(by cases d)⟩
 .rcases c gs (.inr (.inl b))with(a | a | a) | a
  .exact h.st.out.2.2.1 a
  .exact h.st.out.1 a
  .exact p a
  .omega
 .rcases c gc (.inr (.inl b))with(a | a | a) | a
  .exact h.st.out.2.2.2 a
  .exact h.st.out.2.1 a
  .exact q a
  .omega
 .rcases c gs (.inl b)with(a | a | a) | a
  .exact h.st.out.2.2.1 a
  .exact h.st.out.1 a
  .exact p a
  .omega
 .rcases c gc (.inl b)with(a | a | a) | a
  .exact h.st.out.2.2.2 a
  .exact h.st.out.2.1 a
  .exact q a
  .omega
 .rcases c gy (.inr (.inr b))with(a | a | a) | a
  .exact t a
  .exact l a
  .exact h.sr.out a
  .omega
 .rcases c gy (.inr (.inl b))with(a | a | a) | a
  .exact t a
  .exact l a
  .exact h.sr.out a
  .omega
 .rcases c gy (.inl b)with(a | a | a) | a
  .exact t a
  .exact l a
  .exact h.sr.out a
  .omega
 .rcases c gs (.inr (.inr b))with(a | a | a) | a
  .exact h.st.out.2.2.1 a
  .exact h.st.out.1 a
  .exact p a
  .omega
 .rcases c gc (.inr (.inr b))with(a | a | a) | a
  .exact h.st.out.2.2.2 a
  .exact h.st.out.2.1 a
  .exact q a
  .omega
end
end
section
open Go Go.RowKit
variable [Inhabited bc]
variable {w w1 w2:World} {p:Value}
theorem Two2.fresh {q:Value} {a:Int} (h:IsFs (fun _=>False) (Nu w w1) (fun _=>False) w1 p (eV a)) (e:Ext w w1) (d:IsRef (Nu w1 w2) (fun _=>False) w2 q (eV a)) (c:Ext w1 w2) (g:Ext ci w):Two w (fun _=>False) (Nu w w1) (Nu w1 w2) w2 p q (eV a):=by
 have l:=e.size;have i:=c.size;exact⟨g,e.trans c,(h.ext c).mono (fun _ h=>h) (fun _ h=>h.elim),d.mono (fun _ h=>h) (fun _ h=>h.elim),fun k b=>by have:=b.1;have:=b.2;omega,fun k b=>by have:=b.1;have:=b.2;omega,fun _ b=>b.elim,fun k j d=>by have:=j.2;have:=d.1;omega,fun _ b=>b.elim⟩
variable {w0:World} {f x:Value} {m:Fs}
theorem Two2.later {w':World} {S O O':Nat->Prop} (h:Two w0 S O O' w f x m) (b:Ext w w'):Two w0 S O O' w' f x m:=by
 have c:=b.size;exact⟨h.base,h.ext.trans b,(h.fs.ext b).mono (fun _ h=>h) (fun k a=>Nat.lt_of_lt_of_le a c),(h.ref.ext b).mono (fun _ h=>h) (fun k a=>Nat.lt_of_lt_of_le a c),fun k a=>by have:=h.lo k a;omega,fun k a=>by have:=h.Cn k a;omega,fun k a=>by have:=h.Cc k a;omega,h.B9,h.BU⟩
theorem Two2.CZ {S O O':Nat->Prop} (h:Two w0 S O O' w f x m):One w0 S O w f m:=⟨h.ext,h.fs,h.lo,h.Cc,fun k a=>(h.BU k a).1⟩
variable [KW:Inhabited cT]
variable {gs gc gy:Nat}
theorem Tw.two {K:List (Nat×Obj)} {n:Int} (h:Tw w0 K w f x gs gc gy m m n n):∃S O a:Nat->Prop,Two w0 S O a w f x m:=by
 obtain⟨S,O,a,h⟩:=h;exact⟨S,O,a,⟨h.sr.base,h.st.one.ext,h.st.one.fs,h.sr.ref,h.st.one.lo,h.sr.lo,h.st.one.Cc,h.B9,fun k b=>⟨h.st.one.BU k b,h.BU k b⟩⟩⟩
theorem oK {S O O':Nat->Prop} (h:Two w0 S O O' w f x m) (e:St w0 S O w1 f gs gc m 0) (g:Ext w w1) (j:w.heap.size<=gs) (l:w.heap.size<=gc) (b:Ext w1 w2) (n:w1.heap.size<=gy) (i:w2.heap[gy]? = some (.cells #[x,.int .i64 0] 36 (0,0))):Tw w0 [] w2 f x gs gc gy m m 0 0:=by
 have q:=e.lt;have r:=h.ext.size;have t:=g.size;have c:=(h.later g).later b;refine⟨S,O,O',e.more b,⟨c.base,c.ext,c.ref,c.Cn,i,by omega,fun a=>by have:=(h.Cn gy a).2;omega⟩,h.B9,fun k d=>(h.BU k d).2,⟨fun a=>by have:=(h.lo gy a).2;omega,fun a=>by have:=(h.Cc gy a).2;omega,fun a=>by have:=(h.Cn gs a).2;omega,fun a=>by have:=(h.Cn gc a).2;omega,by omega,by omega⟩,fun k o d=>(by cases d)⟩
theorem sf {c:Prop} [Decidable c] {a:Operand->Value} {R:Value->World->Prop} {o:Oper} (b:TypeId) (x:Operand) {u:Value} (d:c) (e:o.op=.load b x) (g:a x=p) (i:(Instr.loadAt b p).run Tryz.prog w=.ok u w) (h:R u w) :
  if c then eN Tryz.prog R ((execOp a o).run Tryz.prog w)else R undef w:=by
 rw[if_pos d];unfold execOp;simp only[e,g,Sem.run_bind,Sem.run_pure,Result.andThen_ok,i];exact h
structure PJ (A B:World->Prop) (z26 z27 z28 z29 z30 z38 z39:Option Value) (w:World):Prop where
 d0:z26=none->A w
 d1:∀u,z26=some u->u=.bool true/\B w
 CB:∀u,z27=some u->u=.bool false/\z26≠none
 CA:∀u,z28=some u->u=.bool false/\z26≠none
 Cz:∀u,z29=some u->u=.bool false/\z26≠none
 Cj:∀u,z30=some u->u=.bool false/\z26≠none
 Cy:∀u,z38=some u->u=.bool false/\z26≠none
 Cs:∀u,z39=some u->u=.bool false/\z26≠none
section
variable {A B:World->Prop} {z26 z27 z28 z29 z30 z38 z39:Option Value} {w w':World} {u:Value}
theorem PJ.start (h:A w):PJ A B none none none none none none none w:=⟨fun _=>h,fun u a=>(by cases a),fun u a=>(by cases a),fun u a=>(by cases a),fun u a=>(by cases a),fun u a=>(by cases a),fun u a=>(by cases a),fun u a=>(by cases a)⟩
theorem PJ.more (h:PJ A B z26 z27 z28 z29 z30 z38 z39 w) (c:∀w w',A w->Ext w w'->A w') (d:∀w w',B w->Ext w w'->B w') (a:Ext w w'):PJ A B z26 z27 z28 z29 z30 z38 z39 w' :=
 ⟨fun e=>c _ _ (h.d0 e) a,fun u b=>⟨(h.d1 u b).1,d _ _ (h.d1 u b).2 a⟩,h.CB,h.CA,h.Cz,h.Cj,h.Cy,h.Cs⟩
theorem PJ.ext (h:PJ A B z26 z27 z28 z29 z30 z38 z39 w) (b:∀w,A w->Ext w0 w) (c:∀w,B w->Ext w0 w):Ext w0 w:=by
 cases a:z26 with
 | none=>exact b _ (h.d0 a)
 | some u=>exact c _ (h.d1 u a).2
theorem PJ.after (h:PJ A B z26 z27 z28 z29 z30 z38 z39 w) (b:z26≠none):B w:=by
 cases a:z26 with
 | none=>exact absurd a b
 | some u=>exact(h.d1 u a).2
theorem PJ.Dl (h:PJ A B none z27 z28 z29 z30 z38 z39 w) (b:B w'):PJ A B (some (.bool true)) z27 z28 z29 z30 z38 z39 w' :=
 ⟨fun c=>(by cases c),fun u a=>(by cases a;exact⟨rfl,b⟩),fun u a=>absurd rfl (h.CB u a).2,fun u a=>absurd rfl (h.CA u a).2,fun u a=>absurd rfl (h.Cz u a).2,fun u a=>absurd rfl (h.Cj u a).2,fun u a=>absurd rfl (h.Cy u a).2,fun u a=>absurd rfl (h.Cs u a).2⟩
theorem PJ.Dv (h:PJ A B z26 none z28 z29 z30 z38 z39 w) (a:z26=some u):PJ A B z26 (some (.bool false)) z28 z29 z30 z38 z39 w :=
 ⟨h.d0,h.d1,fun u b=>(by cases b;exact⟨rfl,by rw[a];simp⟩),h.CA,h.Cz,h.Cj,h.Cy,h.Cs⟩
theorem PJ.Dn (h:PJ A B z26 z27 none z29 z30 z38 z39 w) (a:z27=some u):PJ A B z26 z27 (some (.bool false)) z29 z30 z38 z39 w :=
 ⟨h.d0,h.d1,h.CB,fun u b=>(by cases b;exact⟨rfl,(h.CB _ a).2⟩),h.Cz,h.Cj,h.Cy,h.Cs⟩
theorem PJ.Dj (h:PJ A B z26 z27 z28 none z30 z38 z39 w) (a:z28=some u):PJ A B z26 z27 z28 (some (.bool false)) z30 z38 z39 w :=
 ⟨h.d0,h.d1,h.CB,h.CA,fun u b=>(by cases b;exact⟨rfl,(h.CA _ a).2⟩),h.Cj,h.Cy,h.Cs⟩
theorem PJ.Dp (h:PJ A B z26 z27 z28 z29 none z38 z39 w) (a:z29=some u):PJ A B z26 z27 z28 z29 (some (.bool false)) z38 z39 w :=
 ⟨h.d0,h.d1,h.CB,h.CA,h.Cz,fun u b=>(by cases b;exact⟨rfl,(h.Cz _ a).2⟩),h.Cy,h.Cs⟩
theorem PJ.Dt (h:PJ A B z26 z27 z28 z29 z30 none z39 w) (a:z30=some u):PJ A B z26 z27 z28 z29 z30 (some (.bool false)) z39 w :=
 ⟨h.d0,h.d1,h.CB,h.CA,h.Cz,h.Cj,fun u b=>(by cases b;exact⟨rfl,(h.Cj _ a).2⟩),h.Cs⟩
theorem PJ.Ds (h:PJ A B z26 z27 z28 z29 z30 z38 none w) (a:z38=some u):PJ A B z26 z27 z28 z29 z30 z38 (some (.bool false)) w :=
 ⟨h.d0,h.d1,h.CB,h.CA,h.Cz,h.Cj,h.Cy,fun u b=>(by cases b;exact⟨rfl,(h.Cy _ a).2⟩)⟩
theorem PJ.end (h:PJ A B (some u) z27 z28 z29 z30 z38 z39 w):B w:=(h.d1 u rfl).2
end
end
section
open Go Go.RowKit
theorem uA (h:List UInt32) (l p:B8):ba h (l++p)=ba (ba h l).1 ((ba h l).2++p):=by
 fun_induction ba h l with
 | case1 h l a b =>
  rw[ba,if_pos (by rw[List.length_append];omega),List.take_append_of_le_length a,List.drop_append_of_le_length a];exact b
 | case2 h l a=>rfl
theorem Ar (l:B8):fE l=(ba df (l++ir l.length)).1.flatMap ed:=by
 exact congrArg (fun x=>x.1.flatMap ed) (uA df l _).symm
theorem As (n:Nat):(n+(ir n).length)%64=0:=by
 unfold ir;rw[List.length_cons,List.length_append,List.length_replicate,show(be8 (8*n)).length=8 from rfl];unfold cR;omega
variable {l:B8} {at':Nat}
theorem sg {h:List UInt32} (a:at'+64<=l.length):ba h (l.drop at')=ba (eP h ((l.drop at').take 64)) (l.drop (at'+64)):=by
 rw[ba,if_pos (by rw[List.length_drop];omega),List.drop_drop]
theorem uB (h:List UInt32) (a:l.length<=at'):ba h (l.drop at')=(h,[]):=by
 rw[List.drop_eq_nil_of_le a,ba,if_neg (by simp)]
def PreW (W c:List UInt32) (i:Nat):Prop:=c.length=64/\∀j,j<i->c.getD j 0=W.getD j 0
variable {W c:List UInt32}
theorem PreW.set {i:Nat} (h:PreW W c i) (b:i<64):PreW W (c.set i (W.getD i 0)) (i+1):=by
 refine⟨by rw[List.length_set];exact h.1,fun j d=>?_⟩;rw[List.getD_eq_getElem?_getD,List.getElem?_set]
 by_cases a:i=j
 .rw [if_pos a,if_pos (by rw[h.1];exact b),a];rfl
 .rw [if_neg a,<-List.getD_eq_getElem?_getD];exact h.2 j (by omega)
theorem PreW.all (h:PreW W c 64) (b:W.length=64):c=W:=by
 refine List.ext_getElem (by rw[h.1,b]) (fun j a d=>?_);have:=h.2 j (by rw[h.1]at a;exact a);rw[List.getD_eq_getElem?_getD,List.getD_eq_getElem?_getD,List.getElem?_eq_getElem a,List.getElem?_eq_getElem d]at this;exact this
variable {n j:Nat}
theorem jl {n j:Nat} (b:B8):∀(d:Nat),n=j+1+d->(aU b n).getD j 0=if j<16 then be4 b j else js (aU b j) j
 | 0,h=>by
  subst h;show(aU b j++[_]).getD j 0=_;rw[List.getD_eq_getElem?_getD,List.getElem?_append_right (by rw[dP];omega),dP];simp
 | d+1,h=>by
  subst h;have a:=jl b (n:=j+1+d) (j:=j) d rfl;show(aU b (j+1+d)++[_]).getD j 0=_;rw[List.getD_eq_getElem?_getD,List.getElem?_append_left (by rw[dP];omega),<-List.getD_eq_getElem?_getD];exact a
theorem iJ (b:B8) {m:Nat} (a:j<n) (c:j<m):(aU b n).getD j 0=(aU b m).getD j 0:=by
 rw[jl b (n:=n) (j:=j) (n - j - 1) (by omega),jl b (n:=m) (j:=j) (m - j - 1) (by omega)]
theorem yQ (b:B8) (h:j<16):(aU b 64).getD j 0=be4 b j:=by
 rw[jl b (n:=64) (j:=j) (64 - j - 1) (by omega),if_pos h]
theorem yR (b:B8) (h:16<=j) (a:j<64):(aU b 64).getD j 0=js (aU b 64) j:=by
 rw[jl b (n:=64) (j:=j) (64 - j - 1) (by omega),if_neg (by omega)];unfold js;rw[iJ b (n:=j) (m:=64) (j:=j - 16) (by omega) (by omega),iJ b (n:=j) (m:=64) (j:=j - 15) (by omega) (by omega),iJ b (n:=j) (m:=64) (j:=j - 7) (by omega) (by omega),iJ b (n:=j) (m:=64) (j:=j - 2) (by omega) (by omega)]
theorem eu (x:UInt32) (n s:Nat) (w:World) (b:0<s) (a:s<32) (h:n+s=32) :
  Calls Tryz.prog 191 #[U32 x,.int .i64 (n:Int)] w fun e c=>e=.returned (U32 (bv x (UInt32.ofNat s)))/\∃q,c=w.drewN q:=by
 obtain rfl:n=32 - s:=by omega
 have g:(0:Int)<=((32 - s:Nat):Int):=by omega
 have i:((32 - s:Nat):Int)<=32:=by omega
 have k:IntKind.i64.wrap (32 - ((32 - s:Nat):Int))=(s:Int):=by rw[IntWalk.i64_in _ (by omega)];omega
 have l:(0:Int)<=(s:Int):=by omega
 have o:(s:Int)<=32:=by omega
 have d:Hid (Value.int IntKind.u32 (bits BinOp.or IntKind.u32 (↑x.toNat / 2 ^ (32 - s)) (↑x.toNat*2 ^ s%4294967296))=U32 (bv x (UInt32.ofNat s))):=by
  unfold Hid bv;rw[nl x s a,gO x (32 - s) (by omega),kY,vC s a,UInt32.or_comm]
 clear h;go_enter Tryz.func191,Tryz.ntmps191;go_wp2_with fail;go_quiet (fail);go_wp2;go_ret;exact⟨congrArg Ending.returned d.out,_,rfl⟩
theorem Bo (x:UInt32) (w:World):Calls Tryz.prog 191 #[U32 x,.int .i64 7] w fun e a=>e=.returned (U32 (bv x 25))/\∃q,a=w.drewN q:=eu x 7 25 w (by decide) (by decide) rfl
theorem AX (x:UInt32) (w:World):Calls Tryz.prog 191 #[U32 x,.int .i64 18] w fun e a=>e=.returned (U32 (bv x 14))/\∃q,a=w.drewN q:=eu x 18 14 w (by decide) (by decide) rfl
theorem AY (x:UInt32) (w:World):Calls Tryz.prog 191 #[U32 x,.int .i64 17] w fun e a=>e=.returned (U32 (bv x 15))/\∃q,a=w.drewN q:=eu x 17 15 w (by decide) (by decide) rfl
theorem AZ (x:UInt32) (w:World):Calls Tryz.prog 191 #[U32 x,.int .i64 19] w fun e a=>e=.returned (U32 (bv x 13))/\∃q,a=w.drewN q:=eu x 19 13 w (by decide) (by decide) rfl
theorem Bp (x:UInt32) (w:World):Calls Tryz.prog 191 #[U32 x,.int .i64 6] w fun e a=>e=.returned (U32 (bv x 26))/\∃q,a=w.drewN q:=eu x 6 26 w (by decide) (by decide) rfl
theorem A1 (x:UInt32) (w:World):Calls Tryz.prog 191 #[U32 x,.int .i64 11] w fun e a=>e=.returned (U32 (bv x 21))/\∃q,a=w.drewN q:=eu x 11 21 w (by decide) (by decide) rfl
theorem A2 (x:UInt32) (w:World):Calls Tryz.prog 191 #[U32 x,.int .i64 25] w fun e a=>e=.returned (U32 (bv x 7))/\∃q,a=w.drewN q:=eu x 25 7 w (by decide) (by decide) rfl
theorem Bq (x:UInt32) (w:World):Calls Tryz.prog 191 #[U32 x,.int .i64 2] w fun e a=>e=.returned (U32 (bv x 30))/\∃q,a=w.drewN q:=eu x 2 30 w (by decide) (by decide) rfl
theorem A3 (x:UInt32) (w:World):Calls Tryz.prog 191 #[U32 x,.int .i64 13] w fun e a=>e=.returned (U32 (bv x 19))/\∃q,a=w.drewN q:=eu x 13 19 w (by decide) (by decide) rfl
theorem A4 (x:UInt32) (w:World):Calls Tryz.prog 191 #[U32 x,.int .i64 22] w fun e a=>e=.returned (U32 (bv x 10))/\∃q,a=w.drewN q:=eu x 22 10 w (by decide) (by decide) rfl
theorem qd (w:World) :
  Calls Tryz.prog 190 #[] w fun e a=>∃g,e=.returned (.slice (some ⟨g,0,none⟩) 64 64)/\a.heap[g]? = some (.cells (dI.map U32).toArray 167 (0,0))/\g=w.heap.size/\Ext w a/\a.heap.size=g+1:=by
 go_enter Tryz.func190,Tryz.ntmps190;go_wp2;go_ret;exact⟨_,rfl,ab _ _,rfl,(Ext.refl _).alloc _,Array.size_push ..⟩
end
section
open Go Go.RowKit
theorem ij (v:Value) (l:B8) (w:World) (i:IsBytes w v l) :
  Calls Tryz.prog 29 #[v] w fun e z=>(∃k,e=.returned k/\z.ownsRow w.heap.size 5 1 k l.length (l.map fun x=>.int .u8 x.toNat))/\Ext w z:=by
 have I:=i.len;obtain⟨a,n,rfl,J,K,M,p⟩:=id i;have A:Ext w (w.alloc (.cells #[] 5)):=(Ext.refl w).alloc _;have c:(w.alloc (.cells #[] 5)).ownsRow w.heap.size 5 1 (.slice (some ⟨w.heap.size,0,none⟩) 0 0) 0 []:=⟨rfl,.inr ⟨w.heap.size,0,#[],rfl,Nat.le_refl _,ab _ _,Nat.le_refl _,by unfold maxLen;omega,rfl,rfl⟩⟩
 cases l with
 | nil =>
  have B:Hid ((w.alloc (.cells #[] 5)).ownsRow w.heap.size 5 1 (.slice (some ⟨w.heap.size,0,none⟩) 0 0) 0 []):=c;clear i p c;go_enter Tryz.func29,Tryz.ntmps29
  cases a with
  | none =>
   go_wp2;go_ret;exact⟨⟨_,rfl,B.out⟩,(Ext.refl _).alloc _⟩
  | some N =>
   go_wp2;go_ret;exact⟨⟨_,rfl,B.out⟩,(Ext.refl _).alloc _⟩
 | cons x t =>
  obtain⟨b,o,rfl,C⟩:=p (by simp);generalize F:x::t=L at *;have d:∀(j:Nat) u,(L.map fun x=>Value.int .u8 x.toNat)[j]? = some u->(w.alloc (.cells #[] 5)).cell? ((⟨b,o,none⟩:Addr).add j)=some u:=by
   intro j u q;have h:(⟨b,o,none⟩:Addr).add j=⟨b,o+j,none⟩:=by unfold Addr.add;split <;> simp_all
   rw[h];exact A.cell (C j u q)
  have G:Hid _:=d;clear C d p i F;go_enter Tryz.func29,Tryz.ntmps29
  go_wp2_with (at_builtin;(refine gB _ _ _ 1 1 Tryz.underlying37 gC rfl (by omega) rfl _ _ rfl w.heap.size _ 0 _ rfl c ⟨b,o,none⟩ L.length n (L.map fun x=>Value.int .u8 x.toNat) rfl (by simp) G.out (by intro u q;obtain⟨_,_,rfl⟩:=List.mem_map.1 q;rfl) (by omega) (by omega) (by simp) ?_);intro k D g r _;obtain⟨O,P,rfl,-⟩:=Row.BM g (by omega);have H:Hid (D.ownsRow w.heap.size 5 1 _ L.length (L.map fun x=>.int .u8 x.toNat)):=(by have E:=g;rw[List.nil_append,Nat.zero_add]at E;exact E);have y:Ext w D:=ai A c r)
  go_ret;exact⟨⟨_,rfl,H.out⟩,y⟩
end
end Go.Proofs.YtfabjgfmiaammaaGreatDoor
