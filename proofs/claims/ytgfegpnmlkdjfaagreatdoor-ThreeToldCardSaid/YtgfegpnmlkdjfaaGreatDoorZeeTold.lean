/- Contracts of the program's functions and plain laws behind the card. Conditions: as each theorem states. -/
import Derived.Test.YtgfegpnmlkdjfaaGreatDoorZbt
import Derived.Test.YtgfegpnmlkdjfaaGreatDoorZbs
import Derived.Test.YtgfegpnmlkdjfaaGreatDoorZbn
import Derived.Test.YtgfegpnmlkdjfaaGreatDoorZbm
set_option linter.unusedVariables false
set_option linter.unusedSimpArgs false
set_option linter.unusedSectionVars false
set_option maxRecDepth 100000
set_option maxHeartbeats 64000000
namespace Go.Proofs.YtgfegpnmlkdjfaaGreatDoor
section
open Go Go.RowKit Go.Sort
variable {k:Nat}
theorem Dn {N:List (B8×Int)} (p:UpN N) (o:N.Nodup) {d x:B8×Int} (l:N[k]? = some d) (q:N[k+1]? = some x):ltB x.1 d.1=false/\(x.1=d.1->d.2<x.2):=by
 obtain⟨b,h⟩:=List.getElem?_eq_some_iff.1 l;obtain⟨c,i⟩:=List.getElem?_eq_some_iff.1 q;have a:=List.pairwise_iff_getElem.1 p k (k+1) b c (by omega);have g:=List.pairwise_iff_getElem.1 o k (k+1) b c (by omega);rw[h,i]at a g;unfold ltN at a;simp only[Bool.or_eq_false_iff,Bool.and_eq_false_iff,decide_eq_false_iff_not]at a;refine⟨a.1,fun e=>?_⟩;have r:=a.2.resolve_left (fun n=>n e)
 by_cases j:x.2=d.2
 .exact absurd (Prod.ext e j).symm g
 .omega
theorem ER (i b d:Int) (g a c:B8) (w:World):Calls Tryz.prog 19 #[.agg #[.int .i64 i,S8 g],.agg #[.int .i64 b,S8 a],.agg #[.int .i64 d,S8 c]] w fun e l=>(∃o n,e=.returned (.tuple #[.agg #[.int .i64 o,S8 n],.int .i64 (al (i,g) (b,a) (d,c)).2])/\((al (i,g) (b,a) (d,c)).2≠3->(o,n)=(al (i,g) (b,a) (d,c)).1))/\Ext w l:=by
 by_cases j:(al (i,g) (b,a) (d,c)).2=3
 .refine (lu i b d g a c w j).mono ?_;rintro e l ⟨rfl,k⟩;exact⟨⟨_,_,by rw[j];rfl,fun h=>absurd j h⟩,k⟩
 .refine (oG i b d g a c w j).mono ?_;rintro e l ⟨rfl,k⟩;exact⟨⟨_,_,rfl,fun _=>rfl⟩,k⟩
theorem AQ {md:ae} (l:Rising md) (h:∀e∈md,e.1=aC e.2.data) {x y:B8} (a:(fo md)[k]? = some x) (b:(fo md)[k+1]? = some y):ltB (aC x) (aC y)=true:=by
 unfold fo at a b;rw[List.getElem?_map]at a b
 cases c:md[k]? with
 | none=>rw[c]at a;cases a
 | some e =>
  cases d:md[k+1]? with
  | none=>rw[d]at b;cases b
  | some f =>
   rw[c]at a;rw[d]at b;cases a;cases b;obtain⟨n,i⟩:=List.getElem?_eq_some_iff.1 c;obtain⟨o,j⟩:=List.getElem?_eq_some_iff.1 d;have g:=List.pairwise_iff_getElem.1 l k (k+1) n o (by omega);rw[i,j,h e (List.mem_of_getElem? c),h f (List.mem_of_getElem? d)]at g;exact g
theorem uj [Inhabited br] (vl vo va vb:Value) (l:List B8) (o a b:List Rw) (w:World) (hE:Env w) (e9:EnvS w) (d3:IsBss w vl l) (d4:IsRws w vo o) (d1:IsRws w va a) (d2:IsRws w vb b) :
  Calls Tryz.prog 5 #[vl,vo,va,vb] w fun e w'=>e=.returned (.bool true)/\Ext w w':=by
 obtain⟨la,lc,rfl,-⟩:=d3.get;obtain⟨oa,oc,rfl,-⟩:=d4.get;obtain⟨aa,ac,rfl,-⟩:=d1.get;obtain⟨ba,bc,rfl,-⟩:=d2.get;have eo:Hid (IsBss w (.slice la l.length lc) l):=d3;have bq:Hid (IsRws w (.slice oa o.length oc) o):=d4;have bo:Hid (IsRws w (.slice aa a.length ac) a):=d1;have bp:Hid (IsRws w (.slice ba b.length bc) b):=d2;have HE:Hid (Env w):=hE;have gc:Hid (EnvS w):=e9;have HF:Hid (∀w',Ext w w'->Calls Tryz.prog 6 #[] w' fun e g7=>e=.returned (.bool true)/\Ext w' g7):=fun w' hx=>kx w' (hE.ext hx)
 clear d3 d4 d1 d2 hE e9;go_enter Tryz.func5,Tryz.ntmps5;go_wp2_with fail;go_at_call 6;refine(HF.out w (Ext.refl _)).mono ?_;rintro e w1 ⟨rfl,f5⟩;have Q:Hid (Ext w w1):=f5;clear f5;go_wp2_with fail;go_at_call 7;refine(lW _ l w1 (eo.out.ext Q.out)).mono ?_;rintro e w2 ⟨ul,rfl,rfl,fx⟩;have cv:Hid (ul=true->l.length<=40/\∀x∈l,x.length<=1500):=fx;clear fx;obtain⟨w1,rfl⟩:∃w1:World,w1=w2:=⟨_,rfl⟩
 cases ul with
 | false =>
  go_wp2_with fail;go_at_call 6;refine(HF.out _ Q.out).mono ?_;rintro e wz ⟨rfl,X⟩;go_wp2;go_ret;exact⟨rfl,Q.out.trans X⟩
 | true =>
 have bh:Hid (l.length<=100000/\∀x∈l,x.length<=10000000):=⟨Nat.le_trans (cv.out rfl).1 (by decide),fun x hx=>Nat.le_trans ((cv.out rfl).2 x hx) (by decide)⟩;clear cv;go_wp2_with fail;go_at_call 8;refine(dY _ o w1 (bq.out.ext Q.out)).mono ?_;rintro e w2 ⟨uo,rfl,rfl,f3⟩;have cx:Hid (uo=true->o.length<=100/\∀r∈o,r.path.length<=400/\r.id.length<=400):=f3;clear f3;obtain⟨w1,rfl⟩:∃w1:World,w1=w2:=⟨_,rfl⟩
 cases uo with
 | false =>
  go_wp2_with fail;go_at_call 6;refine(HF.out _ Q.out).mono ?_;rintro e wz ⟨rfl,X⟩;go_wp2;go_ret;exact⟨rfl,Q.out.trans X⟩
 | true =>
 have dc:=(cx.out rfl).1;have cm:Hid (bS o):=⟨Nat.le_trans dc (by omega),(cx.out rfl).2⟩;clear cx;go_wp2_with fail;go_at_call 8;refine(dY _ a w1 (bo.out.ext Q.out)).mono ?_;rintro e w2 ⟨ua,rfl,rfl,ft⟩;have cs:Hid (ua=true->a.length<=100/\∀r∈a,r.path.length<=400/\r.id.length<=400):=ft;clear ft;obtain⟨w1,rfl⟩:∃w1:World,w1=w2:=⟨_,rfl⟩
 cases ua with
 | false =>
  go_wp2_with fail;go_at_call 6;refine(HF.out _ Q.out).mono ?_;rintro e wz ⟨rfl,X⟩;go_wp2;go_ret;exact⟨rfl,Q.out.trans X⟩
 | true =>
 have c2:=(cs.out rfl).1;have ci:Hid (bS a):=⟨Nat.le_trans c2 (by omega),(cs.out rfl).2⟩;clear cs;go_wp2_with fail;go_at_call 8;refine(dY _ b w1 (bp.out.ext Q.out)).mono ?_;rintro e w2 ⟨ub,rfl,rfl,fv⟩;have cu:Hid (ub=true->b.length<=100/\∀r∈b,r.path.length<=400/\r.id.length<=400):=fv;clear fv;obtain⟨w1,rfl⟩:∃w1:World,w1=w2:=⟨_,rfl⟩
 cases ub with
 | false =>
  go_wp2_with fail;go_at_call 6;refine(HF.out _ Q.out).mono ?_;rintro e wz ⟨rfl,X⟩;go_wp2;go_ret;exact⟨rfl,Q.out.trans X⟩
 | true =>
 have c3:=(cu.out rfl).1;have cl:Hid (bS b):=⟨Nat.le_trans c3 (by omega),(cu.out rfl).2⟩;clear cu;obtain⟨M,hM⟩:∃M,bR l o a b=M:=⟨_,rfl⟩;have HM:Hid (bR l o a b=M):=hM;clear hM;go_wp2_with fail;go_at_call 9;refine(jf _ l false w1 (eo.out.ext Q.out) bh.out.1 bh.out.2).mono ?_;rintro e w3 ⟨⟨F,rfl,hF⟩,f6⟩;have fa:=hF;obtain⟨b1,b2,b3,sv,hT,rfl,-⟩:=hF.get;have gr:Hid (IsSrcF w3 (.func (.func 24) #[] #[.pointer (some ⟨b1,0,none⟩),.pointer (some ⟨b2,0,none⟩),.pointer (some ⟨b3,0,none⟩)]) l false):=fa;have au:Hid (Ext w w3):=Q.out.trans f6;clear hF fa f6;go_wp2_with fail;go_at_call 10;refine(fO _ _ _ _ _ _ l o a b w3 (HE.out.ext au.out) (gc.out.ext au.out) gr.out bh.out.1 bh.out.2 (bq.out.ext au.out) (bo.out.ext au.out) (bp.out.ext au.out) cm.out ci.out cl.out).mono ?_;rw[HM.out];rintro e w4 ⟨ff,d'⟩;obtain⟨N,b4⟩:=jq ff;obtain⟨ra,rc,xa,xc,na,nc,rfl,b0,bv,da⟩:=b4.get;obtain⟨K,hK⟩:∃K,lz M=K:=⟨_,rfl⟩;obtain⟨Rs,A⟩:∃Rs,jN M=Rs:=⟨_,rfl⟩;obtain⟨D,hD⟩:∃D,jM M=D:=⟨_,rfl⟩;rw[hK,A,hD];rw[A]at b0;rw[hD]at bv;have HK:Hid (lz M=K):=hK;have HR:Hid (jN M=Rs):=A;have HD:Hid (jM M=D):=hD;have HN:Hid (N.Perm (xH M)/\UpN N):=⟨b4.perm,b4.up⟩;have cp:Hid (IsRws w4 (.slice ra Rs.length rc) Rs):=b0;have ea:Hid (IsBss w4 (.slice xa D.length xc) D):=bv;have bk:Hid (Row w4 (.slice na N.length nc) N.length (N.flatMap ntC)):=da;have av:Hid (Ext w w4):=au.out.trans d';have ha:Hid (Ext w3 w4):=d';have ht:=Row.len da;have hv:=Row.len b0;have ho:=qs bv;clear ff d' b4 b0 bv da hK A hD
 cases M with
 | error k =>
  have G:¬k=0:=by have h9:=pm HM.out;omega
  have hL:(k != 0)=true:=by simpa using G
  obtain rfl:K=k:=HK.out.symm;obtain rfl:Rs=[]:=HR.out.symm;obtain rfl:D=[]:=HD.out.symm;obtain rfl:N=[]:=List.perm_nil.1 HN.out.1;clear HN bk ea cp;go_wp2_with fail;go_at_call 6;refine(HF.out _ av.out).mono ?_;rintro e wz ⟨rfl,X⟩;go_wp2;go_ret;exact⟨rfl,av.out.trans X⟩
 | ok y =>
 obtain⟨⟨e6,NN⟩,md⟩:=y;have ao:Hid (Ag o a b ((e6,NN),md)):=DM HM.out;obtain rfl:Rs=e6:=HR.out.symm;obtain rfl:K=0:=HK.out.symm;have co:Hid (fo md=D):=HD.out;have ec:Hid (∀x∈D,x.length<=10000000):=fun x hx=>by
  rw[<-co.out]at hx;obtain⟨e,he,rfl⟩:=List.mem_map.1 hx;exact Nat.le_trans (sQ HM.out e he) (by decide)
 have em:Hid (UpN N/\N.Nodup):=⟨HN.out.2,(HN.out.1.nodup_iff).2 ao.out.nodup⟩;have eg:Hid (∀x,x∈N↔x∈NN):=fun x=>HN.out.1.mem_iff
 clear HN HD HR HK;obtain⟨P,hP⟩:∃P,bj (ar [o,a,b])=P:=⟨_,rfl⟩;have gm:Hid (P.length<=900/\∀p∈P,p.length<=1000):=by
  obtain⟨q1,q2⟩:=eL cm.out ci.out cl.out;unfold Hid;rw[<-hP];exact⟨Nat.le_trans (kq _) q1,fun p hp=>q2 p (dd.1 hp)⟩
 have hO:=gm.out.1;have gj:Hid ((ar [o,a,b]).length<=1000000):=Nat.le_trans (eL cm.out ci.out cl.out).1 (by omega);have HP:Hid _:=hP;clear hP;go_wp2_with fail;go_at_call 14;refine(jg _ _ _ _ (xN (bq.out.ext av.out) (bo.out.ext av.out) (bp.out.ext av.out)) gj.out).mono ?_;rw[HP.out];rintro e w6 ⟨⟨vp,rfl,fg⟩,f7⟩;have b6:Hid (Ext w4 w6):=(Ext.alloc (Ext.refl _) _).trans f7;have gv:Hid (Ext w w6):=av.out.trans b6.out;have ds:IsStrs w6 vp P:=Row.GW fg (by omega);have a1:Hid (IsStrs w6 vp P):=ds;obtain⟨pa,pc,rfl,l1,l2,l3,fm⟩:=ds.get;have el:Hid (IsStrs w6 (.slice pa P.length pc) P):=a1.out;clear a1;clear fg f7 ds;have gl:Hid _:=fm;clear fm;obtain⟨hQ,hS,g5,-,-,-,fr⟩:=cp.out.cells;obtain⟨hW,hX,ab,-,-,-,fb⟩:=ea.out.get;cases g5;cases ab;have go:Hid _:=fr;have eb:Hid _:=fb;clear fr fb;go_wp2_with fail;go_loopw [14] (fun i wr=>∃k:Nat,k<=N.length/\i=.int .i64 k/\Hid (Ext w6 wr)) (fun i _=>N.length - (intOf i).toNat)
 case atStart=>exact⟨0,Nat.zero_le _,rfl,Ext.refl _⟩
 case round =>
 obtain⟨k,B,rfl,HX⟩:=hrel;have T:Hid (Ext w wr):=gv.out.trans HX.out;have n:Hid (Ext w4 wr):=b6.out.trans HX.out
 by_cases ag:k<N.length
 case pos =>
  obtain⟨⟨q,j⟩,hx⟩:∃x,N[k]? = some x:=⟨_,List.getElem?_eq_getElem ag⟩;obtain⟨nb,no,rfl,c0,c1⟩:=jP bk.out hx;replace c0:=n.out.cell c0;replace c1:=n.out.cell c1;dsimp only at c0 c1;obtain⟨fn,I⟩:=ao.out.notes (q,j) ((eg.out _).1 (List.mem_of_getElem? hx));have hB:1<=j/\j<=3:=by dsimp only at I;omega
  have hG:¬j<1:=by omega
  have hH:¬3<j:=by omega
  have fk:P.contains q=true:=by rw[List.contains_iff_mem,<-HP.out];exact dd.2 fn
  have a':Hid (∀d os,Calls Tryz.prog 18 #[.slice pa P.length pc,S8 q] (grow (redrawn wr d) os) fun e w'=>e=.returned (.bool true)/\∃z:Regrown,w'=grow (redrawn wr z.d) z.os):=fun d os=>Calls.regrown_of (by
   have h9:=Cr (.slice pa P.length pc) P q (grow (redrawn wr d) os) (Row.ext el.out (HX.out.trans (Ext.G4 _ _ _)));rw[fk]at h9;exact h9)
  have v0:=fun d os=>cell_regrown c0 d os
  have v1:=fun d os=>cell_regrown c1 d os
  have gx:Hid _:=hx;have hh:Hid _:=c0;have a0:Hid (∀i,k=i+1->∃d:B8×Int,ltB q d.1=false/\(q=d.1->d.2<j)/\wr.cell? ⟨nb,no+i*2,none⟩=some (S8 d.1)/\wr.cell? ⟨nb,no+i*2+1,none⟩=some (.int .i64 d.2)):=fun i U=>by
   subst U;obtain⟨d,hd⟩:∃d,N[i]? = some d:=⟨_,List.getElem?_eq_getElem (by omega)⟩;obtain⟨b2,o2,he,h8,h9⟩:=jP bk.out hd;cases he;obtain⟨u1,u2⟩:=Dn em.out.1 em.out.2 hd gx.out;exact⟨d,u1,u2,n.out.cell h8,n.out.cell h9⟩
  clear hx c0 c1 fn I fk;go_upto_region 12 with fail;go_cut [141] (fun c wx=>c=.bool false/\Ext wr wx)
  case first=>as_aux_lemma =>
   by_cases G:k=0
   case pos =>
    have b9:¬(0:Int)<(k:Int):=by omega
    have b':¬0<k:=by omega
    clear G;refine cr (by kernel_rfl) (by kernel_rfl) ?_
    repeat (refine db (fun K hK=>?_);go_simp;first | (refine hK _ ?_;clear hK K) | (apply Exists.intro;refine⟨fun _=>?_,hK _ ?_⟩;exact a'.out _ _;clear hK K))
    refine dz ?_;intro Y a7;obtain⟨⟨dq,osq⟩,V⟩:=a7;have E:Hid (Ext wr (grow (redrawn wr dq) osq)):=Ext.G4 _ _ _;rw[<-V]at E;clear V;go_wp2_with fail;go_meet
    case rel=>exact⟨rfl,E.out⟩
   case neg =>
    obtain⟨i,U⟩:∃i,k=i+1:=⟨k - 1,by omega⟩;obtain⟨⟨dp,dk⟩,hl,hs,c5,c6⟩:=a0.out i U;dsimp only at hl hs c5 c6;have v5:=fun e os=>cell_regrown c5 e os
    have v6:=fun e os=>cell_regrown c6 e os
    have g6:IntKind.i64.wrap ((k:Int) - 1)=(i:Int):=by rw[IntWalk.i64_in _ (by omega)];omega
    have b9:(0:Int)<(k:Int):=by omega
    have b':0<k:=by omega
    have g4:i<N.length:=by omega
    have hb:Op.bytesLess q dp=false:=by rw[gp];exact hl
    clear c5 c6 G U hl
    by_cases he:q=dp
    case pos =>
     have hf:=hs he;have g1:(q==dp)=true:=by simpa using he
     have hN:¬j<=dk:=by omega
     clear hs he;refine cr (by kernel_rfl) (by kernel_rfl) ?_
     repeat (refine db (fun K hK=>?_);go_simp;first | (refine hK _ ?_;clear hK K) | (apply Exists.intro;refine⟨fun _=>?_,hK _ ?_⟩;exact a'.out _ _;clear hK K))
     refine dz ?_;intro Y a7;obtain⟨⟨dq,osq⟩,V⟩:=a7;have E:Hid (Ext wr (grow (redrawn wr dq) osq)):=Ext.G4 _ _ _;rw[<-V]at E;clear V;go_wp2_with fail;go_meet
     case rel=>exact⟨rfl,E.out⟩
    case neg =>
     have g1:(q==dp)=false:=by simpa using he
     clear hs he;refine cr (by kernel_rfl) (by kernel_rfl) ?_
     repeat (refine db (fun K hK=>?_);go_simp;first | (refine hK _ ?_;clear hK K) | (apply Exists.intro;refine⟨fun _=>?_,hK _ ?_⟩;exact a'.out _ _;clear hK K))
     refine dz ?_;intro Y a7;obtain⟨⟨dq,osq⟩,V⟩:=a7;have E:Hid (Ext wr (grow (redrawn wr dq) osq)):=Ext.G4 _ _ _;rw[<-V]at E;clear V;go_wp2_with fail;go_meet
     case rel=>exact⟨rfl,E.out⟩
  case rest =>
  obtain⟨rfl,L⟩:=hcut;obtain⟨Y,rfl⟩:∃Y:World,Y=wc:=⟨_,rfl⟩;have E:Hid (Ext w6 Y):=HX.out.trans L;clear L v0 v1 a' a0;go_wp2_with fail;go_roundw
  case rel=>exact⟨k+1,by omega,by go_num,E⟩
  case measure=>simp[intOf];omega
 have c':k=N.length:=by omega
 subst c';go_wp2_with fail;obtain⟨w7,d5⟩:∃w7:World,w7=wr:=⟨_,rfl⟩;rw[<-d5]at HX T n;rw[<-d5];clear d5;have e2:Hid (Ext w6 w7):=HX.out;have gw:Hid (Ext w w7):=T.out;have b7:Hid (Ext w4 w7):=n.out;clear HX T n B ag;go_loopw [15] (fun i wr=>∃k:Nat,k<=P.length/\i=.int .i64 k/\Hid (Ext w7 wr)) (fun i _=>P.length - (intOf i).toNat)
 case atStart=>exact⟨0,Nat.zero_le _,rfl,Ext.refl _⟩
 case round =>
 obtain⟨k,B,rfl,HX⟩:=hrel;have T:Hid (Ext w wr):=gw.out.trans HX.out;have n:Hid (Ext w4 wr):=b7.out.trans HX.out;have a2:Hid (Ext w6 wr):=e2.out.trans HX.out
 by_cases ag:k<P.length
 case pos =>
  obtain⟨p,hp⟩:∃p,P[k]? = some p:=⟨_,List.getElem?_eq_getElem ag⟩;obtain⟨bb,oo,rfl,hc⟩:=gl.out k ag;have y1:=a2.out.cell (hc k ag);rw[show P.getD k []=p by rw[List.getD_eq_getElem?_getD,hp];rfl]at y1;have cq:Hid ((al (aj o p) (aj a p) (aj b p)).2=1\/(al (aj o p) (aj a p) (aj b p)).2=2->(p,(3:Int))∉NN->aj Rs p=(al (aj o p) (aj a p) (aj b p)).1):=ao.out.IX p (dd.1 (by rw[HP.out];exact List.mem_of_getElem? hp));obtain⟨⟨om,oi⟩,c9⟩:∃q,aj o p=q:=⟨_,rfl⟩;obtain⟨⟨am,ai⟩,c7⟩:∃q,aj a p=q:=⟨_,rfl⟩;obtain⟨⟨bm,bi⟩,c8⟩:∃q,aj b p=q:=⟨_,rfl⟩;rw[c9,c7,c8]at cq;have gb:Hid _:=c9;have f':Hid _:=c7;have ga:Hid _:=c8;have a4:Hid _:=y1;clear hc hp c9 c7 c8;have eh:Hid (∃hm U S,(S≠3->aj Rs p=(hm,U)\/(S≠1/\S≠2)\/(p,(3:Int))∈NN)/\∀W,Calls Tryz.prog 19 #[.agg #[.int .i64 om,S8 oi],.agg #[.int .i64 am,S8 ai],.agg #[.int .i64 bm,S8 bi]] W fun e w'=>e=.returned (.tuple #[.agg #[.int .i64 hm,S8 U],.int .i64 S])/\Ext W w'):=by
   by_cases h3:(al (om,oi) (am,ai) (bm,bi)).2=3
   .exact ⟨_,_,3,fun h=>absurd rfl h,fun W=>lu om am bm oi ai bi W h3⟩
   .refine ⟨_,_,_,fun _=>?_,fun W=>oG om am bm oi ai bi W h3⟩
    by_cases h1:(al (om,oi) (am,ai) (bm,bi)).2=1\/(al (om,oi) (am,ai) (bm,bi)).2=2
    .by_cases h2:(p,(3:Int))∈NN
     .exact .inr (.inr h2)
     .exact .inl (cq.out h1 h2)
    .exact .inr (.inl ⟨fun h=>h1 (.inl h),fun h=>h1 (.inr h)⟩)
  obtain⟨hm,U,S,ca,cb⟩:=eh.out;have gh:Hid _:=ca;have gi:Hid _:=cb;clear ca cb eh cq;go_upto_region 17 with fail;apply bJ 24 (fun z w'=>T3 wr (p3 #[.int .i64 hm,S8 U] #[] #[] #[]) (p3 (z 22) none none none) (p3 (z 23) none none none) w') [false,false,false,false,false,false,false,false,false,false,false,false,false,false,false,false,false,false,false,false,false,false,true,true] [_,_,_,_,S8 p,.agg #[.int .i64 om,S8 oi],_,_,_,_,S8 p,.agg #[.int .i64 am,S8 ai],_,_,_,_,S8 p,.agg #[.int .i64 bm,S8 bi],.tuple #[.agg #[.int .i64 hm,S8 U],.int .i64 S],.tuple #[.agg #[.int .i64 hm,S8 U],.int .i64 S],.agg #[.int .i64 hm,S8 U],.int .i64 S,undef,undef] [none,none,none,none,none,none,none,none,none,none,none,none,none,none,none,none,none,none,none,none,none,none,none,none] [[],[],[],[1,2],[3],[0,4],[],[],[],[7,8],[9],[6,10],[],[],[],[13,14],[15],[12,16],[5,11,17],[18],[19],[19],[],[20,22]] (by kernel_rfl) (by kernel_rfl) rfl
  .exact T3.start ⟨rfl,rfl,rfl,Nat.le_refl _,fun _ _=>rfl⟩ (fun i=>by match i with | 0=>rfl | 1=>rfl | 2=>rfl | _+3=>rfl) (fun i=>by match i with | 0=>rfl | 1=>rfl | 2=>rfl | _+3=>rfl)
  .simp (maxSteps:=1000000)only[fC,eR,dm,dM,eG,List.getD_cons_zero,List.getD_cons_succ,Bool.false_eq_true,if_false,if_true,and_true,true_and,forall_const,Nat.zero_add,Nat.reduceAdd,List.take_succ_cons,List.take_zero,af,Act.put,List.setIfInBounds_toArray,List.set_cons_zero,List.set_cons_succ];and_intros
   iterate 5 · intro O z Z I;intros;rename_i A;have f1:=I.ext.cell a4.out;go_simp;exact A _ _ I rfl
   .intro O z Z I B R A;obtain⟨G,ad⟩:=B;go_simp;exact(eB _ o p _ (bq.out.ext (T.out.trans I.ext))).mono (by rw[gb.out];rintro e' w8 ⟨rfl,J⟩;exact⟨_,rfl,A _ _ (I.more J) rfl⟩)
   iterate 5 · intro O z Z I;intros;rename_i A;have f1:=I.ext.cell a4.out;go_simp;exact A _ _ I rfl
   .intro O z Z I B R A;obtain⟨G,ad⟩:=B;go_simp;exact(eB _ a p _ (bo.out.ext (T.out.trans I.ext))).mono (by rw[f'.out];rintro e' w8 ⟨rfl,J⟩;exact⟨_,rfl,A _ _ (I.more J) rfl⟩)
   iterate 5 · intro O z Z I;intros;rename_i A;have f1:=I.ext.cell a4.out;go_simp;exact A _ _ I rfl
   .intro O z Z I B R A;obtain⟨G,ad⟩:=B;go_simp;exact(eB _ b p _ (bp.out.ext (T.out.trans I.ext))).mono (by rw[ga.out];rintro e' w8 ⟨rfl,J⟩;exact⟨_,rfl,A _ _ (I.more J) rfl⟩)
   .intro O z Z I B R A;obtain⟨G,ad,hJ⟩:=B;go_simp;exact(gi.out _).mono (by rintro e' w8 ⟨rfl,J⟩;exact⟨_,rfl,A _ _ (I.more J) rfl⟩)
   iterate 3 · intro O z Z I;intros;rename_i A;have f1:=I.ext.cell a4.out;go_simp;exact A _ _ I rfl
   .intro O z Z I hz R A;go_simp;exact A _ _ (I.G8 0 hz (gz _ _ _ _ _))
   .intro O z Z I hz B R A;obtain⟨G,ad⟩:=B;obtain⟨g,hg,c4,g2⟩:=I.G9 0 ad hz;apply bY 41 (.tmp 16) (.tmp 168) (g:=g) (cells:=#[.int .i64 hm,S8 U]) (old:=#[.int .i64 0,S8 []]) (t:=41)
    iterate 2
     .rfl
    .exact hg
    .exact G
    .exact c4
    .exact aJ
    .rfl
    .simp [Value.oneCell']
    .exact A _ _ (g2 _ _ (gz _ _ _ _ _))
  intro O w8 a6 B;simp only[fE,List.getD_cons_zero,List.getD_cons_succ,Bool.false_eq_true,if_false,if_true]at a6;simp only[df,Nat.zero_add,Nat.reduceAdd,and_true]at B;simp(maxSteps:=1000000)only[List.drop_succ_cons,List.drop_zero,Nat.zero_add,Nat.reduceAdd,List.take_succ_cons,List.take_zero,af,Act.put,List.setIfInBounds_toArray,List.set_cons_zero,List.set_cons_succ,B];clear B;generalize O 22=hU at *;generalize O 23=hV at *;obtain⟨g16,e16,e7,a5⟩:=a6.fit 0 _ rfl;subst e16;rw[if_neg (by simp[p3])]at a5;have a5:w8.heap[g16]? = some (.cells #[.int .i64 hm,S8 U] 41 (0,0)):=a5;have bs:Hid (Ext wr w8):=a6.ext;have f8:Hid _:=a5;have y8:=a6.ext.cell a4.out;have gy:Hid _:=y8;clear a6 a5 e7 y1;go_upto_region 18 with fail;go_cut [183] (fun c wx=>∃C:Bool,c=.bool C/\Hid (C=false->aj Rs p=(hm,U))/\Ext w8 wx)
  case first =>
   by_cases h1:S=1\/S=2
   case neg =>
    have n1:(S != 1)=true:=by simp;omega
    have n2:(S != 2)=true:=by simp;omega
    clear h1;go_wp2_with fail;go_meet
    case rel=>exact⟨true,rfl,(fun h=>by cases h),Ext.refl _⟩
   case pos =>
    have HH:Hid (S=1\/S=2):=h1;rcases h1 with rfl | rfl
    all_goals
     go_wp2_with fail;go_at_call 20;refine(uM _ N p w8 (bk.out.ext (n.out.trans bs.out))).mono ?_;obtain⟨C,hC⟩:∃C,N.contains (p,(3:Int))=C:=⟨_,rfl⟩;rw[hC];have HC:Hid _:=hC;clear hC;rintro e Y ⟨rfl,L⟩;have E:Hid (Ext w8 Y):=L;clear L;go_wp2_with fail;go_meet
     case rel =>
      refine⟨C,rfl,fun h=>?_,E.out⟩;subst h;rcases gh.out (by decide)with h9 | h9 | h9
      .exact h9
      .exact absurd rfl (by first | exact h9.1 | exact h9.2)
      .have h8:=HC.out;rw[List.contains_eq_mem]at h8;exact absurd ((eg.out _).2 h9) (by simpa using h8)
  case rest =>
  obtain⟨C,rfl,HC,L⟩:=hcut;obtain⟨Y,rfl⟩:∃Y:World,Y=wc:=⟨_,rfl⟩;have b8:Hid (Ext w8 Y):=L;have E:Hid (Ext w7 Y):=HX.out.trans (bs.out.trans L);clear L
  cases C with
  | true =>
   go_wp2_with fail;go_roundw
   case rel=>exact⟨k+1,by omega,by go_num,E⟩
   case measure=>simp[intOf];omega
  | false =>
  have HG:Hid (aj Rs p=(hm,U)):=HC.out rfl;have hn:∀w:World,(binOp .neq 41 (.agg #[.int .i64 hm,S8 U]) (.agg #[.int .i64 hm,S8 U])).run Tryz.prog w=.ok (.bool false) w:=fun w=>by
   have:=ng (hm,U) (hm,U) w
   rwa [bne_self_eq_false]at this
  have y9:=b8.out.cell gy.out;obtain⟨e0,e1⟩:=cZ (b8.out.row f8.out);clear y8 HC;go_upto_region 19 with fail;apply ak 8 [_,_,_,_,S8 p,.agg #[.int .i64 hm,S8 U],.agg #[.int .i64 hm,S8 U],.bool false] [none,none,none,none,none,none,none,none] [[],[],[],[1,2],[3],[0,4],[],[5,6]] (by kernel_rfl) (by kernel_rfl) (by simp[aq])
  .trivial
  .simp (maxSteps:=1000000)only[List.take_succ_cons,List.take_zero,ay,aB,af,Act.put,List.setIfInBounds_toArray,List.set_cons_zero,List.set_cons_succ,aE,aH,aq,List.getD_cons_zero,List.getD_cons_succ,and_true,true_and,forall_const];and_intros
   iterate 5 · intro O Z H;intros;rename_i A;have f0:=H.cell y9;have f1:=H.cell e0;have f2:=H.cell e1;go_simp;exact A _ _ (Ext.refl _) rfl
   .intro O Z H B R A;obtain⟨G,ad⟩:=B;go_simp;exact(eB _ Rs p _ (cp.out.ext (b7.out.trans (E.out.trans H)))).mono (by rw[HG.out];rintro e' w8 ⟨rfl,J⟩;exact⟨_,rfl,A _ _ J rfl⟩)
   iterate 2 · intro O Z H;intros;rename_i A;have f0:=H.cell y9;have f1:=H.cell e0;have f2:=H.cell e1;go_simp;exact A _ _ (Ext.refl _) rfl
  intro O g' cc B;simp only[aG,Nat.zero_add,Nat.reduceAdd,and_true]at B;simp(maxSteps:=1000000)only[List.take_succ_cons,List.take_zero,List.drop_succ_cons,List.drop_zero,af,Act.put,List.setIfInBounds_toArray,List.set_cons_zero,List.set_cons_succ,Nat.zero_add,Nat.reduceAdd,B];clear B;have es:Hid (Ext w7 g'):=E.out.trans cc;clear cc hn y9 e0 e1;go_wp2_with fail;go_roundw
  case rel=>exact⟨k+1,by omega,by go_num,es⟩
  case measure=>simp[intOf];omega
 have c':k=P.length:=by omega
 subst c';go_wp2_with fail;obtain⟨w8,d6⟩:∃w8:World,w8=wr:=⟨_,rfl⟩;rw[<-d6]at HX T n a2;rw[<-d6];clear d6;have bs:Hid (Ext w w8):=T.out;have ev:Hid (Ext w4 w8):=n.out;clear HX T n a2 B ag;go_loopw [18] (fun i wr=>∃k:Nat,k<=D.length/\i=.int .i64 k/\Hid (Ext w8 wr)) (fun i _=>D.length - (intOf i).toNat)
 case atStart=>exact⟨0,Nat.zero_le _,rfl,Ext.refl _⟩
 case round =>
 obtain⟨k,B,rfl,HX⟩:=hrel;obtain⟨wo,d9⟩:∃wo:World,wo=wr:=⟨_,rfl⟩;rw[<-d9]at HX;rw[<-d9];clear d9;have T:Hid (Ext w wo):=bs.out.trans HX.out;have n:Hid (Ext w4 wo):=ev.out.trans HX.out
 by_cases ag:k<D.length
 case neg =>
  go_wp2_with fail;go_at_call 6;refine(HF.out _ T.out).mono ?_;rintro e wz ⟨rfl,X⟩;go_wp2;go_ret;exact⟨rfl,T.out.trans X⟩
 obtain⟨x,hx⟩:∃x,D[k]? = some x:=⟨_,List.getElem?_eq_getElem ag⟩;obtain⟨xb,xo,u,rfl,c0,hu⟩:=eb.out k x hx;have x0:=n.out.cell c0;have HU:Hid (IsBytes wo u x):=hu.ext n.out;obtain⟨ua,uc,rfl,-⟩:=hu.get;have e3:Hid (x.length<=10000000):=ec.out x (List.mem_of_getElem? hx);obtain⟨s,hs⟩:∃s,aC x=s:=⟨_,rfl⟩;have HS:Hid (aC x=s):=hs;have gd:Hid (∃r∈Rs,r.id=s):=by
  have h9:=List.mem_of_getElem? hx;rw[<-co.out]at h9;obtain⟨e,he,h8⟩:=List.mem_map.1 h9;obtain⟨r,hr,h7⟩:=ao.out.IS e he;exact⟨r,hr,by rw[h7,ao.out.id e he,h8,hs]⟩
 have a0:Hid (∀i,k=i+1->∃(x' s':B8) (ya:Option Addr) (yc:Nat),aC x'=s'/\ltB s' s=true/\wo.cell? ⟨xb,xo+i,none⟩=some (.slice ya x'.length yc)/\IsBytes wo (.slice ya x'.length yc) x'/\x'.length<=10000000):=fun i U=>by
  subst U;obtain⟨x',b5⟩:∃x',D[i]? = some x':=⟨_,List.getElem?_eq_getElem (by omega)⟩;obtain⟨b2,o2,u',he,h8,h9⟩:=eb.out i x' b5;cases he;have g0:=h9;obtain⟨ya,yc,rfl,-⟩:=h9.get;refine⟨x',aC x',ya,yc,rfl,?_,n.out.cell h8,g0.ext n.out,ec.out x' (List.mem_of_getElem? b5)⟩;rw[<-co.out]at hx b5;rw[<-hs];exact AQ ao.out.up ao.out.id b5 hx
 have er:Hid _:=x0;clear hx c0 hu hs x0;go_wp2_with fail;go_loopw [19,20] (fun c i wx=>∃(j:Nat) (C:Bool),j<=Rs.length/\i=.int .i64 j/\c=.bool C/\Hid (C=true↔∃r∈Rs.take j,r.id=s)/\Hid (Ext wo wx)) (fun _ i _=>Rs.length - (intOf i).toNat)
 case atStart=>exact⟨0,false,Nat.zero_le _,rfl,rfl,⟨fun h=>(by cases h),fun⟨r,hr,_⟩=>(by simp at hr)⟩,Ext.refl _⟩
 case round =>
 obtain⟨j,C,I,rfl,rfl,HC,HY⟩:=hrel;have e5:Hid (Ext w4 wr):=n.out.trans HY.out
 by_cases fd:j<Rs.length
 case pos =>
  obtain⟨r,hr⟩:∃r,Rs[j]? = some r:=⟨_,List.getElem?_eq_getElem fd⟩;obtain⟨rb,ro,rfl,-,-,r2⟩:=go.out j r hr;have a9:=e5.out.cell r2;have ek:Hid _:=cC hr;obtain⟨ri,dn⟩:∃ri,r.id=ri:=⟨_,rfl⟩;have ei:Hid _:=dn;rw[dn]at a9;have x0:=HY.out.cell er.out;clear hr r2 dn
  cases C with
  | true =>
   have cf:Hid (true=true↔∃r∈Rs.take (j+1),r.id=s):=by
    refine⟨fun _=>?_,fun _=>rfl⟩;obtain⟨r',h1,h2⟩:=HC.out.1 rfl;exact⟨r',by rw[ek.out];exact List.mem_append_left _ h1,h2⟩
   go_upto_region 28 with fail;apply ak 15 [.bool true,.bool true,_,_,_,_,_,_,_,_,_,_,_,_,.bool true] [none,none,none,none,none,none,none,none,none,none,none,none,none,none,none] [[],[0],[1],[1],[1,2,3],[1,4],[1,5],[1,6],[1],[1],[1,8,9],[1,10],[1,11],[1,7,12],[1,13]] (by kernel_rfl) (by kernel_rfl) (by simp[aq])
   .trivial
   .simp (maxSteps:=1000000)only[List.take_succ_cons,List.take_zero,ay,aB,af,Act.put,List.setIfInBounds_toArray,List.set_cons_zero,List.set_cons_succ,aE,aH,aq,List.getD_cons_zero,List.getD_cons_succ,and_true,true_and,forall_const];and_intros
    iterate 15 · intro O Z H;intros;rename_i A;go_simp;exact A _ _ (Ext.refl _) rfl
   intro O Y L B;simp only[aG,Nat.zero_add,Nat.reduceAdd,and_true]at B;simp(maxSteps:=1000000)only[List.take_succ_cons,List.take_zero,List.drop_succ_cons,List.drop_zero,af,Act.put,List.setIfInBounds_toArray,List.set_cons_zero,List.set_cons_succ,Nat.zero_add,Nat.reduceAdd,B];clear B;have E:Hid (Ext wo Y):=HY.out.trans L;clear L x0 a9;go_wp2_with fail;go_roundw
   case rel=>exact⟨j+1,true,by omega,by go_num,rfl,cf,E⟩
   case measure=>simp[intOf];omega
  | false =>
   obtain⟨b,hb⟩:∃b,(ri==s)=b:=⟨_,rfl⟩;have cf:Hid (b=true↔∃r∈Rs.take (j+1),r.id=s):=by
    rw[ek.out];constructor
    .intro h;rw[h]at hb;exact⟨r,List.mem_append_right _ (List.mem_singleton.2 rfl),by rw[ei.out];simpa using hb⟩
    .rintro ⟨r',h1,h2⟩;rcases List.mem_append.1 h1 with h1 | h1
     .exact absurd (HC.out.2 ⟨r',h1,h2⟩) (by decide)
     .obtain rfl:=List.mem_singleton.1 h1;rw[ei.out]at h2;rw[<-hb,h2];simp
   have t1:=tl ri;have t2:=tl s;go_upto_region 28 with fail;apply ak 15 [.bool false,.bool false,_,_,_,_,_,S8 ri,_,_,_,.slice ua x.length uc,S8 s,.bool b,.bool b] [none,none,none,none,none,none,none,none,none,none,none,none,none,none,none] [[],[0],[1],[1],[1,2,3],[1,4],[1,5],[1,6],[1],[1],[1,8,9],[1,10],[1,11],[1,7,12],[1,13]] (by kernel_rfl) (by kernel_rfl) (by simp[aq])
   .trivial
   .simp (maxSteps:=1000000)only[List.take_succ_cons,List.take_zero,ay,aB,af,Act.put,List.setIfInBounds_toArray,List.set_cons_zero,List.set_cons_succ,aE,aH,aq,List.getD_cons_zero,List.getD_cons_succ,and_true,true_and,forall_const];and_intros
    iterate 12 · intro O Z H;intros;rename_i A;have f0:=H.cell a9;have f1:=H.cell x0;go_simp;exact A _ _ (Ext.refl _) rfl
    .intro O Z H B R A;obtain⟨G,ad⟩:=B;go_simp;exact(ii _ x _ (HU.out.ext (HY.out.trans H)) e3.out).mono (by rw[HS.out];rintro e' w8 ⟨rfl,J⟩;exact⟨_,rfl,A _ _ J rfl⟩)
    iterate 2 · intro O Z H;intros;rename_i A;have f0:=H.cell a9;have f1:=H.cell x0;go_simp;exact A _ _ (Ext.refl _) rfl
   intro O Y L B;simp only[aG,Nat.zero_add,Nat.reduceAdd,and_true]at B;simp(maxSteps:=1000000)only[List.take_succ_cons,List.take_zero,List.drop_succ_cons,List.drop_zero,af,Act.put,List.setIfInBounds_toArray,List.set_cons_zero,List.set_cons_succ,Nat.zero_add,Nat.reduceAdd,B];clear B;have E:Hid (Ext wo Y):=HY.out.trans L;clear L x0 a9 t1 t2 hb;go_wp2_with fail;go_roundw
   case rel=>exact⟨j+1,b,by omega,by go_num,rfl,cf,E⟩
   case measure=>simp[intOf];omega
 have g3:j=Rs.length:=by omega
 subst g3;obtain rfl:C=true:=by
  have h9:=HC.out;rw[List.take_length]at h9;exact h9.2 gd.out
 obtain⟨Y,d7⟩:∃Y:World,Y=wr:=⟨_,rfl⟩;rw[<-d7]at HY e5;rw[<-d7];clear d7 HC I fd;have x0:=HY.out.cell er.out;go_wp2_with fail;go_upto_region 29 with fail;go_cut [238] (fun c wx=>c=.bool false/\Ext Y wx)
 case first=>as_aux_lemma =>
  by_cases G:k=0
  case pos =>
   subst G;apply ak 20 [.bool true,.bool false,.bool false,_,.bool false,.bool false,_,_,_,_,_,_,_,_,_,_,_,_,.bool false,.bool false] [none,none,none,none,none,none,none,none,none,none,none,none,none,none,none,none,none,none,none,none] [[],[0],[1],[2],[2,3],[2,4],[5],[5],[5,6,7],[5,8],[5,9],[5],[5],[5,12],[5,11,13],[5,14],[5,15],[5,10,16],[2,5,17],[2,18]] (by kernel_rfl) (by kernel_rfl) (by simp[aq])
   .trivial
   .simp (maxSteps:=1000000)only[List.take_succ_cons,List.take_zero,ay,aB,af,Act.put,List.setIfInBounds_toArray,List.set_cons_zero,List.set_cons_succ,aE,aH,aq,List.getD_cons_zero,List.getD_cons_succ,and_true,true_and,forall_const];and_intros
    iterate 20 · intro O Z H;intros;rename_i A;go_simp;exact A _ _ (Ext.refl _) rfl
   intro O wa ab B;simp only[aG,Nat.zero_add,Nat.reduceAdd,and_true]at B;simp(maxSteps:=1000000)only[List.take_succ_cons,List.take_zero,List.drop_succ_cons,List.drop_zero,af,Act.put,List.setIfInBounds_toArray,List.set_cons_zero,List.set_cons_succ,Nat.zero_add,Nat.reduceAdd,B];clear B;have a3:Hid (Ext Y wa):=ab;clear ab;refine wpList_nil ?_;simp only[Exit.then,Exit.inBlock]
   go_step
   go_meet
   case rel=>exact⟨rfl,a3.out⟩
  case neg =>
   obtain⟨i,U⟩:∃i,k=i+1:=⟨k - 1,by omega⟩;obtain⟨x',s',ya,yc,fs,hl,fc,f4,ce⟩:=a0.out i U;have gs:Hid (IsBytes wo (.slice ya x'.length yc) x'):=f4;have gq:Hid (aC x'=s'):=fs;have e4:Hid (x'.length<=10000000):=ce;have d0:=HY.out.cell fc;have g6:IntKind.i64.wrap ((k:Int) - 1)=(i:Int):=by rw[IntWalk.i64_in _ (by omega)];omega
   have b9:(0:Int)<(k:Int):=by omega
   have b':0<k:=by omega
   have g4:i<D.length:=by omega
   have hw:Op.bytesLess s' s=true:=by rw[gp];exact hl
   have hy:Op.bytesLess s s'=false:=by rw[gp];exact kf hl
   have hA:(s==s')=false:=by rw[beq_eq_false_iff_ne];exact fun e=>fp hl e.symm
   have t1:=tl s;have t2:=tl s';clear G U hl fc f4 fs ce;apply ak 20 [.bool true,.bool false,.bool false,_,.bool true,.bool true,_,_,_,.slice ua x.length uc,S8 s,_,_,.int .i64 i,_,.slice ya x'.length yc,S8 s',.bool false,.bool false,.bool false] [none,none,none,none,none,none,none,none,none,none,none,none,none,none,none,none,none,none,none,none] [[],[0],[1],[2],[2,3],[2,4],[5],[5],[5,6,7],[5,8],[5,9],[5],[5],[5,12],[5,11,13],[5,14],[5,15],[5,10,16],[2,5,17],[2,18]] (by kernel_rfl) (by kernel_rfl) (by simp[aq])
   .trivial
   .simp (maxSteps:=1000000)only[List.take_succ_cons,List.take_zero,ay,aB,af,Act.put,List.setIfInBounds_toArray,List.set_cons_zero,List.set_cons_succ,aE,aH,aq,List.getD_cons_zero,List.getD_cons_succ,and_true,true_and,forall_const];and_intros
    iterate 10 · intro O Z H;intros;rename_i A;have f0:=H.cell x0;have f1:=H.cell d0;go_simp;exact A _ _ (Ext.refl _) rfl
    .intro O Z H B R A;obtain⟨G,ad⟩:=B;go_simp;exact(ii _ x _ (HU.out.ext (HY.out.trans H)) e3.out).mono (by rw[HS.out];rintro e' w8 ⟨rfl,J⟩;exact⟨_,rfl,A _ _ J rfl⟩)
    iterate 5 · intro O Z H;intros;rename_i A;have f0:=H.cell x0;have f1:=H.cell d0;go_simp;exact A _ _ (Ext.refl _) rfl
    .intro O Z H B R A;obtain⟨G,ad⟩:=B;go_simp;exact(ii _ x' _ (gs.out.ext (HY.out.trans H)) e4.out).mono (by rw[gq.out];rintro e' w8 ⟨rfl,J⟩;exact⟨_,rfl,A _ _ J rfl⟩)
    iterate 3 · intro O Z H;intros;rename_i A;have f0:=H.cell x0;have f1:=H.cell d0;go_simp;exact A _ _ (Ext.refl _) rfl
   intro O wa ab B;simp only[aG,Nat.zero_add,Nat.reduceAdd,and_true]at B;simp(maxSteps:=1000000)only[List.take_succ_cons,List.take_zero,List.drop_succ_cons,List.drop_zero,af,Act.put,List.setIfInBounds_toArray,List.set_cons_zero,List.set_cons_succ,Nat.zero_add,Nat.reduceAdd,B];clear B;have a3:Hid (Ext Y wa):=ab;clear ab;refine wpList_nil ?_;simp only[Exit.then,Exit.inBlock]
   go_step
   go_meet
   case rel=>exact⟨rfl,a3.out⟩
 case rest =>
 obtain⟨rfl,ab⟩:=hcut;obtain⟨wa,rfl⟩:∃wa:World,wa=wc:=⟨_,rfl⟩;have a3:Hid (Ext w8 wa):=HX.out.trans (HY.out.trans ab);clear ab x0 a0;go_wp2_with fail;go_roundw
 case rel=>exact⟨k+1,by omega,by go_num,a3⟩
 case measure=>simp[intOf];omega
end
namespace threeTold
open Go Go.ChangeShapes Go.WideShapes Go.ChangeAt Go.RowKit Go.Deep
theorem contract (H:Type) (enc:TypeId×Value->H) (W:World) (n:Nat) (args:Array Value) (y gs:List (DataW H)) (i:List MemPlace)
  (c:∀(j:Nat) t v,Tryz.f5.params[j]? = some t->args[j]? = some v->Value.okWide Tryz.prog W .any n t v)
  (hW:DataW.Whole enc Tryz.prog Tryz.f5.params.toList Rows.threeToldSpec.vars false W args.toList y gs i)
  (g:(DataW.weightsEach Tryz.prog (Tryz.f5.params.toList++(OpenSpec.ofChange Rows.threeToldSpec).bare.plain.varTypes Tryz.prog) (y++gs)).all (·<=reachBytes)=true)
  (hL:laidMetH Tryz.prog Rows.threeToldRow.laid W) (hS:W.ShapedOpen Tryz.prog) :
  Calls Tryz.prog 5 args W fun e W'=>∃v,e=.returned v/\Rows.threeToldSpec.post enc Tryz.prog Tryz.f5 false true false false W args v W':=by
 have k:=hW;obtain⟨p,q,r,hV,rfl,ao,a1⟩:=hW;have d:DataW.TrodAll enc Tryz.prog W 0 (fun _=>true) true Tryz.f5.params.toList args.toList y p:=r;obtain⟨rfl,rfl⟩:=trodVars_none hV;clear r;simp only[List.append_nil]at k;have hE:Env W:=tj hS;have z:EnvS W:=qx (by rw[MakeChecks.laidMetH_plain _ _ _ (by kernel_rfl)]at hL;exact hL) hS
 letI:Inhabited br:=⟨⟨W⟩⟩
 have am:gK=W:=rfl;have ai:Ext gK W:=Ext.refl W;have u:=d;have J:∀x∈p,x.block<W.heap.size:=fun x hx=>by simpa using k.lt x (by simpa using hx)
 rw[Tryz.params5]at d c g;obtain⟨V,a2,d0,aa,p0,q0,A,E,N,h0,d⟩:=trodAll_cons d;obtain⟨X,a3,d1,ab,p1,q1,B,F,O,h1,d⟩:=trodAll_cons d;obtain⟨Y,a4,d2,ad,p2,q2,C,G,P,h2,d⟩:=trodAll_cons d;obtain⟨Z,a5,d3,ag,p3,q3,D,I,Q,h3,d⟩:=trodAll_cons d;obtain⟨K,L,M⟩:=trodAll_nil d;subst K L M;subst Q I D;subst P G C;subst O F B;subst N E;obtain rfl:args=#[V,X,Y,Z]:=by cases args;simp_all
 clear A;have R:=c 0 22 V rfl rfl;obtain⟨l,hl⟩:=qo (j:=0) R h0 g rfl rfl;have S:=c 1 23 X rfl rfl;obtain⟨o,ho,a0⟩:=eN (j:=1) S h1 g rfl rfl;have T:=c 2 23 Y rfl rfl;obtain⟨a,ha,au⟩:=eN (j:=2) T h2 g rfl rfl;have U:=c 3 23 Z rfl rfl;obtain⟨b,hb,av⟩:=eN (j:=3) U h3 g rfl rfl;refine(uj V X Y Z l o a b W hE z hl ho ha hb).mono fun e W' ⟨he,hg⟩=>?_
 subst he;have w:=f9 jm hg u J (by rw[Tryz.params5];exact fun t ht=>by simp only[List.mem_cons,List.not_mem_nil,or_false]at ht;rcases ht with rfl | rfl | rfl | rfl <;> exact⟨by kernel_rfl,of_decide_eq_true (by kernel_rfl)⟩);exact⟨_,rfl,_,_,_,[],_,[],k,trodAll_mk1 (shut_bool Tryz.underlying4 _),w,rfl,hg.frame _,fun h=>by cases h⟩
theorem laid_met (os:Os):laidMetH Tryz.prog Rows.threeToldRow.laid ((World.laidAll Tryz.prog os Rows.threeToldRow.laid).forCall (fun _ _=>0) ⟨#[],#[.slice none 0 0,.slice none 0 0,.slice none 0 0,.slice none 0 0],[]⟩).memory:=by
 rw[MakeChecks.laidMetH_plain _ _ _ (by kernel_rfl)];exact laidMet_laidAll _ (by kernel_rfl) (by kernel_rfl)
theorem reads (os:Os) {H:Type} (enc:TypeId×Value->H):∃a,DataW.whole enc Tryz.prog ((World.laidAll Tryz.prog os Rows.threeToldRow.laid).forCall (fun _ _=>0) ⟨#[],#[.slice none 0 0,.slice none 0 0,.slice none 0 0,.slice none 0 0],[]⟩).memory Tryz.f5.params.toList Rows.threeToldSpec.vars false #[.slice none 0 0,.slice none 0 0,.slice none 0 0,.slice none 0 0].toList 8=some ([.nil,.nil,.nil,.nil],[],a) :=
 ⟨[],by kernel_rfl⟩
theorem lifted (os:Os) (a:os.Started) (H:Type) (enc:TypeId×Value->H) (F:Stop.Interp) :
  ReturnsInHanded {} Tryz.checked os 5 .any ((OpenSpec.ofChange Rows.threeToldSpec).preRow enc Tryz.prog Tryz.f5 Rows.threeToldRow.domain false Rows.threeToldRow.laid) (((OpenSpec.ofChange Rows.threeToldSpec).at F).post enc Tryz.prog Tryz.f5 false true false false):=by
 obtain⟨e,p⟩:=reads os enc;refine returnsInHanded_of_row (C:=Tryz.checked) (s:=OpenSpec.ofChange Rows.threeToldSpec) own a (by kernel_rfl) Tryz.func5
  (witness_row_at (enc:=enc) (C:=Tryz.checked) false (World.laidAll Tryz.prog os Rows.threeToldRow.laid) #[.slice none 0 0,.slice none 0 0,.slice none 0 0,.slice none 0 0] (World.laidAll_os _ _ _) (by kernel_rfl) (by kernel_rfl) (by kernel_rfl)
   (OpenSpec.preRow_of_cond 8 p (by kernel_rfl) (fun k o=>by cases o) (by kernel_rfl) (laid_met os))) ?_
 intro W c args h i b d n _ _ g j l _;exact contract H enc W c args h i b d n g j l
theorem k_wf:Rows.threeToldRow.wf (OpenSpec.ofChange Rows.threeToldSpec)=true:=by kernel_rfl
theorem k_mr:mapsRowed Tryz.prog=true:=by kernel_rfl
theorem k_rr:Tryz.f5.params.all (Tryz.prog.readableRec ·)=true:=by kernel_rfl
theorem k_ip:Tryz.prog.inPlace 5=Rows.threeToldRow.inPlace:=by kernel_rfl
theorem k_uf:Tryz.prog.unfollowed 5=Rows.threeToldRow.unfollowed:=by kernel_rfl
theorem k_rc:Tryz.prog.recurses 5=Rows.threeToldRow.recurses:=by kernel_rfl
theorem k_vn:Tryz.prog.varsNamed 5=Rows.threeToldRow.named:=by kernel_rfl
theorem k_pk:Tryz.prog.plainKeys=Rows.threeToldRow.plainKeys:=by kernel_rfl
theorem k_sh:Tryz.prog.stopsHeard=true:=by kernel_rfl
theorem k_me:Tryz.prog.mayEnter=true:=by kernel_rfl
theorem k_lf:Tryz.prog.liftsFinal=Rows.threeToldRow.lifted:=by kernel_rfl
theorem closed0:joinedFacts Tryz.prog 5 Tryz.f5 Rows.threeToldSpec Rows.threeToldRow=true:=by
 unfold joinedFacts;rw[k_wf,jm,k_mr,k_rr,k_ip,k_uf,k_rc,k_vn,k_pk,k_sh,k_me,k_lf];simp only[beq_self_eq_true,Bool.true_and,Bool.and_true]
 kernel_rfl
theorem closed:joinedFacts Tryz.pinned.checked.prog 5 Tryz.f5 (OpenSpec.ofChange Rows.threeToldSpec).bare Rows.threeToldRow=true:=closed0
theorem isInst:Tryz.f5.isInstance Tryz.pinned.checked.prog Rows.threeToldRow.origin Rows.threeToldRow.targs:=of_decide_eq_true (by kernel_rfl)
theorem isWrap:Tryz.f5.isWrapper Tryz.pinned.checked.prog Rows.threeToldRow.wrapper Rows.threeToldRow.mainSum:=by unfold Func.isWrapper;first | (rw[if_pos (by decide +kernel)];kernel_rfl) | (rw[if_neg (by decide +kernel)];exact⟨rfl,rfl⟩)
theorem said:Rows.ThreeToldSaid :=
 OpenClaim.holds_of_cond 5 Tryz.f5 rfl rfl rfl rfl rfl rfl rfl ⟨rfl,rfl,rfl,rfl,rfl⟩ rfl rfl rfl rfl rfl (by kernel_rfl) Tryz.func5 closed
  isInst isWrap
  (fun c a H b _ F=>by rw[OpenClaim.pre_eq_preRow];exact lifted c a H b F)
theorem plain (f : FuncId) (a : Func) (e : Tryz.pinned.checked.prog.funcNamed "marline/marlaw17.ThreeTold" = some f) (b : Tryz.pinned.checked.prog.funcs[f]? = some a) :
  false=Tryz.pinned.checked.prog.looks []/\∀(j:Nat) t,a.params[j]? = some t->Tryz.pinned.checked.prog.wantsStandIn t=false:=by
 obtain rfl : f = 5 := Option.some.inj ((show Tryz.prog.funcNamed "marline/marlaw17.ThreeTold" = some 5 by kernel_rfl).symm.trans e) |>.symm;obtain rfl:a=Tryz.f5:=(Option.some.inj (Tryz.func5.symm.trans b)).symm;refine⟨by kernel_rfl,fun j t d=>?_⟩;rw[Tryz.params5]at d;have c:t∈[22,23,23,23]:=by simpa using Array.mem_of_getElem? d
 simp only[List.mem_cons,List.not_mem_nil,or_false]at c;rcases c with rfl | rfl | rfl | rfl
 .exact (show Tryz.prog.wantsStandIn 22=false by kernel_rfl)
 iterate 2
  .exact (show Tryz.prog.wantsStandIn 23=false by kernel_rfl)
 .exact (show Tryz.prog.wantsStandIn 23=false by kernel_rfl)
theorem card:Rows.ThreeToldCardSaid :=
 Claim7.holds_tied_plain_at .later [] _ _ _ _ said (fun _ h=>by cases h) (by kernel_rfl) (fun _ h=>by cases h) threeTold_row_tie rfl ⟨rfl,rfl⟩ (by kernel_rfl) rfl plain (by kernel_rfl)
end threeTold
end Go.Proofs.YtgfegpnmlkdjfaaGreatDoor
