/- Contracts of the program's functions and plain laws behind the card. Conditions: as each theorem states. -/
import Derived.Test.YtgfegpnmlkdjfaaGreatDoorZbt
import Derived.Test.YtgfegpnmlkdjfaaGreatDoorZbs
import Derived.Test.YtgfegpnmlkdjfaaGreatDoorZbn
import Derived.Test.YtgfegpnmlkdjfaaGreatDoorZbm
set_option linter.unusedVariables false
set_option linter.unusedSimpArgs false
set_option linter.unusedSectionVars false
set_option maxRecDepth 100000
set_option maxHeartbeats 64000000
namespace Go.Proofs.YtgfegpnmlkdjfaaGreatDoor
section
open Go Go.RowKit Go.Sort
theorem vF {R:List Rw} (h:an R=true):R.length<=100000/\∀r∈R,r.path.length<=400/\r.id.length<=400:=by
 refine⟨Nat.le_trans (Dg h) (by decide),fun r d=>?_⟩;obtain⟨b,-,-,c⟩:=kM h d;have a:=pw b;unfold aR at a;simp only[Bool.and_eq_true,decide_eq_true_eq]at a;have e:=(Aa c).1;omega
def fG (x y z:En):Prop:=bU x=true/\bU y=true/\bU z=true/\y≠z/\x≠y/\x≠z
theorem qP (e:En):bU e=true↔(1<=e.1/\e.1<=2):=by
 unfold bU;rw[Bool.or_eq_true,decide_eq_true_eq,decide_eq_true_eq];omega
theorem vk {o:List Rw} (h:bS o) (p:B8):(aj o p).2.length<=400:=by
 unfold aj;split
 .rename_i r a;exact(h.2 r (List.mem_of_find?_eq_some a)).2
 .exact Nat.zero_le _
theorem se [Inhabited br] (vl vo va vb:Value) (l:List B8) (o a b:List Rw) (w:World) (hE:Env w) (fb:EnvS w) (d6:IsBss w vl l) (d7:IsRws w vo o) (d4:IsRws w va a) (d5:IsRws w vb b) :
  Calls Tryz.prog 4 #[vl,vo,va,vb] w fun e w'=>e=.returned (.bool true)/\Ext w w':=by
 obtain⟨la,lc,rfl,-⟩:=d6.get;obtain⟨oa,oc,rfl,-⟩:=d7.get;obtain⟨aa,ac,rfl,-⟩:=d4.get;obtain⟨ba,bc,rfl,-⟩:=d5.get;have e1:Hid (IsBss w (.slice la l.length lc) l):=d6;have b9:Hid (IsRws w (.slice oa o.length oc) o):=d7;have b7:Hid (IsRws w (.slice aa a.length ac) a):=d4;have b8:Hid (IsRws w (.slice ba b.length bc) b):=d5;have HE:Hid (Env w):=hE;have gl:Hid (EnvS w):=fb;have HF:Hid (∀w',Ext w w'->Calls Tryz.prog 6 #[] w' fun e g4=>e=.returned (.bool true)/\Ext w' g4):=fun w' hx=>kx w' (hE.ext hx)
 clear d6 d7 d4 d5 hE fb;go_enter Tryz.func4,Tryz.ntmps4;go_wp2_with fail;go_at_call 6;refine(HF.out w (Ext.refl _)).mono ?_;rintro e w1 ⟨rfl,fx⟩;have O:Hid (Ext w w1):=fx;clear fx;go_wp2_with fail;go_at_call 7;refine(lW _ l w1 (e1.out.ext O.out)).mono ?_;rintro e w2 ⟨ul,rfl,rfl,ft⟩;have c4:Hid (ul=true->l.length<=40/\∀x∈l,x.length<=1500):=ft;clear ft;obtain⟨w1,rfl⟩:∃w1:World,w1=w2:=⟨_,rfl⟩
 cases ul with
 | false =>
  go_wp2_with fail;go_at_call 6;refine(HF.out _ O.out).mono ?_;rintro e wz ⟨rfl,ab⟩;go_wp2;go_ret;exact⟨rfl,O.out.trans ab⟩
 | true =>
 have b6:Hid (l.length<=100000/\∀x∈l,x.length<=10000000):=⟨Nat.le_trans (c4.out rfl).1 (by decide),fun x hx=>Nat.le_trans ((c4.out rfl).2 x hx) (by decide)⟩;clear c4;go_wp2_with fail;go_at_call 8;refine(dY _ o w1 (b9.out.ext O.out)).mono ?_;rintro e w2 ⟨uo,rfl,rfl,fv⟩;have c5:Hid (uo=true->o.length<=100/\∀r∈o,r.path.length<=400/\r.id.length<=400):=fv;clear fv;obtain⟨w1,rfl⟩:∃w1:World,w1=w2:=⟨_,rfl⟩
 cases uo with
 | false =>
  go_wp2_with fail;go_at_call 6;refine(HF.out _ O.out).mono ?_;rintro e wz ⟨rfl,ab⟩;go_wp2;go_ret;exact⟨rfl,O.out.trans ab⟩
 | true =>
 have d3:=(c5.out rfl).1;have co:Hid (bS o):=⟨Nat.le_trans d3 (by omega),(c5.out rfl).2⟩;clear c5;go_wp2_with fail;go_at_call 8;refine(dY _ a w1 (b7.out.ext O.out)).mono ?_;rintro e w2 ⟨ua,rfl,rfl,fr⟩;have cx:Hid (ua=true->a.length<=100/\∀r∈a,r.path.length<=400/\r.id.length<=400):=fr;clear fr;obtain⟨w1,rfl⟩:∃w1:World,w1=w2:=⟨_,rfl⟩
 cases ua with
 | false =>
  go_wp2_with fail;go_at_call 6;refine(HF.out _ O.out).mono ?_;rintro e wz ⟨rfl,ab⟩;go_wp2;go_ret;exact⟨rfl,O.out.trans ab⟩
 | true =>
 have c8:=(cx.out rfl).1;have b4:Hid (bS a):=⟨Nat.le_trans c8 (by omega),(cx.out rfl).2⟩;clear cx;go_wp2_with fail;go_at_call 8;refine(dY _ b w1 (b8.out.ext O.out)).mono ?_;rintro e w2 ⟨ub,rfl,rfl,fs⟩;have c0:Hid (ub=true->b.length<=100/\∀r∈b,r.path.length<=400/\r.id.length<=400):=fs;clear fs;obtain⟨w1,rfl⟩:∃w1:World,w1=w2:=⟨_,rfl⟩
 cases ub with
 | false =>
  go_wp2_with fail;go_at_call 6;refine(HF.out _ O.out).mono ?_;rintro e wz ⟨rfl,ab⟩;go_wp2;go_ret;exact⟨rfl,O.out.trans ab⟩
 | true =>
 have c9:=(c0.out rfl).1;have b5:Hid (bS b):=⟨Nat.le_trans c9 (by omega),(c0.out rfl).2⟩;clear c0;obtain⟨M,hM⟩:∃M,bR l o a b=M:=⟨_,rfl⟩;have HM:Hid (bR l o a b=M):=hM;clear hM;go_wp2_with fail;go_at_call 9;refine(jf _ l false w1 (e1.out.ext O.out) b6.out.1 b6.out.2).mono ?_;rintro e w3 ⟨⟨F,rfl,hF⟩,f7⟩;have fc:=hF;obtain⟨b1,b2,b3,sv,hi,rfl,-⟩:=hF.get;have gv:Hid (IsSrcF w3 (.func (.func 24) #[] #[.pointer (some ⟨b1,0,none⟩),.pointer (some ⟨b2,0,none⟩),.pointer (some ⟨b3,0,none⟩)]) l false):=fc;have a5:Hid (Ext w w3):=O.out.trans f7;clear hF fc f7;go_wp2_with fail;go_at_call 10;refine(fO _ _ _ _ _ _ l o a b w3 (HE.out.ext a5.out) (gl.out.ext a5.out) gv.out b6.out.1 b6.out.2 (b9.out.ext a5.out) (b7.out.ext a5.out) (b8.out.ext a5.out) co.out b4.out b5.out).mono ?_;rw[HM.out];rintro e w4 ⟨fd,d9⟩;obtain⟨N,ce⟩:=jq fd;obtain⟨ra,rc,xa,xc,na,nc,rfl,cc,b',d2⟩:=ce.get;obtain⟨K,hK⟩:∃K,lz M=K:=⟨_,rfl⟩;obtain⟨Rs,j⟩:∃Rs,jN M=Rs:=⟨_,rfl⟩;obtain⟨D,hD⟩:∃D,jM M=D:=⟨_,rfl⟩;rw[hK,j,hD];rw[j]at cc;rw[hD]at b';have HK:Hid (lz M=K):=hK;have HR:Hid (jN M=Rs):=j;have HD:Hid (jM M=D):=hD;have HN:Hid (N.Perm (xH M)/\UpN N):=⟨ce.perm,ce.up⟩;have a9:Hid (IsRws w4 (.slice ra Rs.length rc) Rs):=cc;have eh:Hid (IsBss w4 (.slice xa D.length xc) D):=b';have es:Hid (Row w4 (.slice na N.length nc) N.length (N.flatMap ntC)):=d2;have a6:Hid (Ext w w4):=a5.out.trans d9;have g5:Hid (Ext w3 w4):=d9;have ha:=Row.len d2;have hb:=Row.len cc;have g':=qs b';clear fd d9 ce cc b' d2 hK j hD
 cases M with
 | error k =>
  have S:¬k=0:=by have h9:=pm HM.out;omega
  have hd:(k != 0)=true:=by simpa using S
  obtain rfl:K=k:=HK.out.symm;obtain rfl:Rs=[]:=HR.out.symm;obtain rfl:D=[]:=HD.out.symm;clear HN es eh a9;go_wp2_with fail;go_at_call 6;refine(HF.out _ a6.out).mono ?_;rintro e wz ⟨rfl,ab⟩;go_wp2;go_ret;exact⟨rfl,a6.out.trans ab⟩
 | ok y =>
 obtain⟨⟨e6,NN⟩,md⟩:=y;have a7:Hid (Ag o a b ((e6,NN),md)):=DM HM.out;obtain rfl:Rs=e6:=HR.out.symm;obtain rfl:K=0:=HK.out.symm;have em:Hid (fo md=D):=HD.out;have ga:Hid (∀x∈D,x.length<=10000000):=fun x hx=>by
  rw[<-em.out]at hx;obtain⟨e,he,rfl⟩:=List.mem_map.1 hx;exact Nat.le_trans (sQ HM.out e he) (by decide)
 clear HN es HD HR HK;obtain⟨P,hP⟩:∃P,bj (ar [o,a,b])=P:=⟨_,rfl⟩;have e0:Hid (P.length<=900/\∀p∈P,p.length<=1000):=by
  obtain⟨q1,q2⟩:=eL co.out b4.out b5.out;unfold Hid;rw[<-hP];exact⟨Nat.le_trans (kq _) q1,fun p hp=>q2 p (dd.1 hp)⟩
 have hh:=e0.out.1;have gq:Hid ((ar [o,a,b]).length<=1000000):=Nat.le_trans (eL co.out b4.out b5.out).1 (by omega);have HP:Hid _:=hP;clear hP;go_wp2_with fail;go_at_call 14;refine(jg _ _ _ _ (xN (b9.out.ext a6.out) (b7.out.ext a6.out) (b8.out.ext a6.out)) gq.out).mono ?_;rw[HP.out];rintro e w6 ⟨⟨vp,rfl,fk⟩,f8⟩;have cl:Hid (Ext w4 w6):=(Ext.alloc (Ext.refl _) _).trans f8;have gw:Hid (Ext w w6):=a6.out.trans cl.out;have fn:IsStrs w6 vp P:=Row.GW fk (by omega);obtain⟨pa,pc,rfl,l1,l2,l3,fm⟩:=fn.get;clear fk f8 fn;have gs:Hid _:=fm;clear fm;go_wp2_with fail;go_loopw [14] (fun i wr=>∃k:Nat,k<=P.length/\i=.int .i64 k/\Hid (Ext w6 wr)) (fun i _=>P.length - (intOf i).toNat)
 case atStart=>exact⟨0,Nat.zero_le _,rfl,Ext.refl _⟩
 case round =>
 obtain⟨k,A,rfl,HX⟩:=hrel;have bh:Hid (Ext w wr):=gw.out.trans HX.out;have av:Hid (Ext w4 wr):=cl.out.trans HX.out
 by_cases ds:k<P.length
 case neg =>
  have g2:k=P.length:=by omega
  subst g2;go_wp2_with fail;go_at_call 6;refine(HF.out _ bh.out).mono ?_;rintro e w9 ⟨rfl,d'⟩;have a':Hid (Ext w w9):=bh.out.trans d';have e2:Hid (Ext w4 w9):=av.out.trans d';clear d';go_wp2_with fail;go_at_call 13;refine(eS _ Rs w9 (HE.out.ext a'.out) (a9.out.ext e2.out) (vF a7.out.may).1 (vF a7.out.may).2).mono ?_;rw[show an Rs=true from a7.out.may];rintro e wz ⟨rfl,ab⟩;go_wp2;go_ret;exact⟨rfl,a'.out.trans ab⟩
 obtain⟨p,hp⟩:∃p,P[k]? = some p:=⟨_,List.getElem?_eq_getElem ds⟩;obtain⟨bb,oo,rfl,hc⟩:=gs.out k ds;have y1:=HX.out.cell (hc k ds);rw[show P.getD k []=p by rw[List.getD_eq_getElem?_getD,hp];rfl]at y1;have el:Hid (lJ Rs md (aj o p) (aj a p) (aj b p) p\/((aj o p≠aj a p->fT Rs p (aj a p))/\(aj o p≠aj b p->fT Rs p (aj b p)))):=a7.out.keep p (dd.1 (by rw[HP.out];exact List.mem_of_getElem? hp));have eg:Hid ((aj a p).2.length<=400):=vk b4.out p;have ci:Hid ((aj b p).2.length<=400):=vk b5.out p;have ev:Hid (p.length<=1000):=e0.out.2 p (List.mem_of_getElem? hp);obtain⟨⟨H,J⟩,dn⟩:∃q,aj o p=q:=⟨_,rfl⟩;obtain⟨⟨E,n⟩,ca⟩:∃q,aj a p=q:=⟨_,rfl⟩;obtain⟨⟨G,u⟩,cb⟩:∃q,aj b p=q:=⟨_,rfl⟩;rw[dn,ca,cb]at el;rw[ca]at eg;rw[cb]at ci;have gj:Hid _:=dn;have gc:Hid _:=ca;have gd:Hid _:=cb;have bk:Hid _:=y1;clear hc hp dn ca cb;go_upto_region 12 with fail;apply bJ 24 (fun z w'=>T3 wr (p3 #[.int .i64 H,S8 J] #[.int .i64 E,S8 n] #[.int .i64 G,S8 u] #[]) (p3 (z 18) (z 19) (z 20) none) (p3 (z 21) (z 22) (z 23) none) w') [false,false,false,false,false,false,false,false,false,false,false,false,false,false,false,false,false,false,true,true,true,true,true,true] [_,_,_,_,S8 p,.agg #[.int .i64 H,S8 J],_,_,_,_,S8 p,.agg #[.int .i64 E,S8 n],_,_,_,_,S8 p,.agg #[.int .i64 G,S8 u],undef,undef,undef,undef,undef,undef] [none,none,none,none,none,none,none,none,none,none,none,none,none,none,none,none,none,none,none,none,none,none,none,none] [[],[],[],[1,2],[3],[0,4],[],[],[],[7,8],[9],[6,10],[],[],[],[13,14],[15],[12,16],[],[],[],[5,18],[11,19],[17,20]] (by kernel_rfl) (by kernel_rfl) rfl
 .exact T3.start ⟨rfl,rfl,rfl,Nat.le_refl _,fun _ _=>rfl⟩ (fun i=>by match i with | 0=>rfl | 1=>rfl | 2=>rfl | _+3=>rfl) (fun i=>by match i with | 0=>rfl | 1=>rfl | 2=>rfl | _+3=>rfl)
 .simp (maxSteps:=1000000)only[fC,eR,dm,dM,eG,List.getD_cons_zero,List.getD_cons_succ,Bool.false_eq_true,if_false,if_true,and_true,true_and,forall_const,Nat.zero_add,Nat.reduceAdd,List.take_succ_cons,List.take_zero,af,Act.put,List.setIfInBounds_toArray,List.set_cons_zero,List.set_cons_succ];and_intros
  iterate 5 · intro L z wq Q;intros;rename_i j;have f1:=Q.ext.cell bk.out;go_simp;exact j _ _ Q rfl
  .intro L z wq Q A R j;obtain⟨S,X⟩:=A;go_simp;exact(eB _ o p _ (b9.out.ext (bh.out.trans Q.ext))).mono (by rw[gj.out];rintro e' w8 ⟨rfl,I⟩;exact⟨_,rfl,j _ _ (Q.more I) rfl⟩)
  iterate 5 · intro L z wq Q;intros;rename_i j;have f1:=Q.ext.cell bk.out;go_simp;exact j _ _ Q rfl
  .intro L z wq Q A R j;obtain⟨S,X⟩:=A;go_simp;exact(eB _ a p _ (b7.out.ext (bh.out.trans Q.ext))).mono (by rw[gc.out];rintro e' w8 ⟨rfl,I⟩;exact⟨_,rfl,j _ _ (Q.more I) rfl⟩)
  iterate 5 · intro L z wq Q;intros;rename_i j;have f1:=Q.ext.cell bk.out;go_simp;exact j _ _ Q rfl
  .intro L z wq Q A R j;obtain⟨S,X⟩:=A;go_simp;exact(eB _ b p _ (b8.out.ext (bh.out.trans Q.ext))).mono (by rw[gd.out];rintro e' w8 ⟨rfl,I⟩;exact⟨_,rfl,j _ _ (Q.more I) rfl⟩)
  .intro L z wq Q hz R j;go_simp;exact j _ _ (Q.G8 0 hz (gz _ _ _ _ _))
  .intro L z wq Q hz R j;go_simp;exact j _ _ (Q.G8 1 hz (ib _ _ _ _ _))
  .intro L z wq Q hz R j;go_simp;exact j _ _ (Q.G8 2 hz (ie _ _ _ _ _))
  .intro L z wq Q hz A R j;obtain⟨S,X⟩:=A;obtain⟨g,hg,Z,bv⟩:=Q.G9 0 X hz;apply bY 41 (.tmp 15) (.tmp 79) (g:=g) (cells:=#[.int .i64 H,S8 J]) (old:=#[.int .i64 0,S8 []]) (t:=41)
   iterate 2
    .rfl
   .exact hg
   .exact S
   .exact Z
   .exact aJ
   .rfl
   .simp [Value.oneCell']
   .exact j _ _ (bv _ _ (gz _ _ _ _ _))
  .intro L z wq Q hz A R j;obtain⟨S,X⟩:=A;obtain⟨g,hg,Z,bv⟩:=Q.G9 1 X hz;apply bY 41 (.tmp 16) (.tmp 85) (g:=g) (cells:=#[.int .i64 E,S8 n]) (old:=#[.int .i64 0,S8 []]) (t:=41)
   iterate 2
    .rfl
   .exact hg
   .exact S
   .exact Z
   .exact aJ
   .rfl
   .simp [Value.oneCell']
   .exact j _ _ (bv _ _ (ib _ _ _ _ _))
  .intro L z wq Q hz A R j;obtain⟨S,X⟩:=A;obtain⟨g,hg,Z,bv⟩:=Q.G9 2 X hz;apply bY 41 (.tmp 17) (.tmp 91) (g:=g) (cells:=#[.int .i64 G,S8 u]) (old:=#[.int .i64 0,S8 []]) (t:=41)
   iterate 2
    .rfl
   .exact hg
   .exact S
   .exact Z
   .exact aJ
   .rfl
   .simp [Value.oneCell']
   .exact j _ _ (bv _ _ (ie _ _ _ _ _))
 intro L w7 a4 A;simp only[fE,List.getD_cons_zero,List.getD_cons_succ,Bool.false_eq_true,if_false,if_true]at a4;simp only[df,Nat.zero_add,Nat.reduceAdd,and_true]at A;simp(maxSteps:=1000000)only[List.drop_succ_cons,List.drop_zero,Nat.zero_add,Nat.reduceAdd,List.take_succ_cons,List.take_zero,af,Act.put,List.setIfInBounds_toArray,List.set_cons_zero,List.set_cons_succ,A];clear A;generalize L 18=hl at *;generalize L 19=hm at *;generalize L 20=hn at *;generalize L 21=ho at *;generalize L 22=hr at *;generalize L 23=hs at *;obtain⟨g0,gx,e7,bo⟩:=a4.fit 0 _ rfl;obtain⟨g16,e16,e9,bp⟩:=a4.fit 1 _ rfl;obtain⟨g1,gy,fa,bq⟩:=a4.fit 2 _ rfl;subst gx e16 gy;rw[if_neg (by simp[p3])]at bo bp bq;have bo:w7.heap[g0]? = some (.cells #[.int .i64 H,S8 J] 41 (0,0)):=bo;have bp:w7.heap[g16]? = some (.cells #[.int .i64 E,S8 n] 41 (0,0)):=bp;have bq:w7.heap[g1]? = some (.cells #[.int .i64 G,S8 u] 41 (0,0)):=bq;have c6:Hid (Ext wr w7):=a4.ext;have ea:Hid _:=bo;have eb:Hid _:=bp;have ec:Hid _:=bq;have y7:=a4.ext.cell bk.out;clear a4 bo bp bq e7 e9 fa y1;go_wp2_with fail;go_at_call 15;refine(eB _ Rs p w7 (a9.out.ext (av.out.trans c6.out))).mono ?_;obtain⟨⟨gm,gi⟩,dk⟩:∃q,aj Rs p=q:=⟨_,rfl⟩;rw[dk];have gh:Hid _:=dk;unfold iR;dsimp only;rintro e w8 ⟨rfl,I⟩;have g6:Hid (Ext wr w8):=c6.out.trans I;have e4:Hid (Ext w7 w8):=I;clear I dk y7;go_upto_region 14 with fail;obtain⟨w9,cf⟩:∃w9,w9=w8.alloc (.cells #[.int .i64 gm,S8 gi] 41):=⟨_,rfl⟩;have c7:w9.heap[w8.heap.size]? = some (.cells #[.int .i64 gm,S8 gi] 41 (0,0)):=by rw[cf];exact ah _ _
 have e5:Hid (Ext w8 w9):=by rw[cf];exact(Ext.refl _).alloc _
 rw[<-cf];obtain⟨g7,bs⟩:∃g,w8.heap.size=g:=⟨_,rfl⟩;rw[bs]at c7;rw[bs];have f':Hid _:=c7;have a2:Hid (Ext w7 w9):=e4.out.trans e5.out;have a':Hid (Ext wr w9):=c6.out.trans a2.out;obtain⟨a0,a1⟩:=cZ (a2.out.row ea.out);obtain⟨b0,b1⟩:=cZ (a2.out.row eb.out);obtain⟨d0,d1⟩:=cZ (a2.out.row ec.out);clear cf bs c7;obtain⟨c1,c'⟩:∃c,((E,n) != (G,u))=c:=⟨_,rfl⟩;obtain⟨c2,da⟩:∃c,((H,J) != (E,n))=c:=⟨_,rfl⟩;obtain⟨c3,dc⟩:∃c,((H,J) != (G,u))=c:=⟨_,rfl⟩;have gr:Hid (∀w:World,(binOp .neq 41 (.agg #[.int .i64 E,S8 n]) (.agg #[.int .i64 G,S8 u])).run Tryz.prog w=.ok (.bool c1) w):=fun w=>by
  have:=ng (E,n) (G,u) w
  rwa [c']at this
 have eo:Hid (∀w:World,(binOp .neq 41 (.agg #[.int .i64 H,S8 J]) (.agg #[.int .i64 E,S8 n])).run Tryz.prog w=.ok (.bool c2) w):=fun w=>by
  have:=ng (H,J) (E,n) w
  rwa [da]at this
 have er:Hid (∀w:World,(binOp .neq 41 (.agg #[.int .i64 H,S8 J]) (.agg #[.int .i64 G,S8 u])).run Tryz.prog w=.ok (.bool c3) w):=fun w=>by
  have:=ng (H,J) (G,u) w
  rwa [dc]at this
 have gb:Hid (c1=true↔(E,n)≠(G,u)):=by unfold Hid;rw[<-c'];simp
 have ei:Hid (c2=true↔(H,J)≠(E,n)):=by unfold Hid;rw[<-da];simp
 have ek:Hid (c3=true↔(H,J)≠(G,u)):=by unfold Hid;rw[<-dc];simp
 clear c' da dc;go_cut [19] (fun t wx=>∃T:Bool,t=.bool T/\Hid (T=true↔fG (H,J) (E,n) (G,u))/\wx=w9)
 case first=>as_aux_lemma =>
  have hf:=gr.out;have ff:=eo.out;have fg:=er.out;have ad:Hid (fG (H,J) (E,n) (G,u)↔((1<=H/\H<=2)/\(1<=E/\E<=2)/\(1<=G/\G<=2)/\c1=true/\c2=true/\c3=true)):=by unfold Hid fG;rw[qP,qP,qP,gb.out,ei.out,ek.out]
  by_cases h1:(1:Int)<=H
  case neg =>
   have B:Hid (¬fG (H,J) (E,n) (G,u)):=by unfold Hid;rw[ad.out];intro h;omega
   go_wp2_with fail;go_meet
   case rel=>exact⟨false,rfl,⟨fun h=>(by cases h),fun h=>(B.out h).elim⟩,rfl⟩
  by_cases h2:H<=(2:Int)
  case neg =>
   have B:Hid (¬fG (H,J) (E,n) (G,u)):=by unfold Hid;rw[ad.out];intro h;omega
   go_wp2_with fail;go_meet
   case rel=>exact⟨false,rfl,⟨fun h=>(by cases h),fun h=>(B.out h).elim⟩,rfl⟩
  by_cases h3:(1:Int)<=E
  case neg =>
   have B:Hid (¬fG (H,J) (E,n) (G,u)):=by unfold Hid;rw[ad.out];intro h;omega
   go_wp2_with fail;go_meet
   case rel=>exact⟨false,rfl,⟨fun h=>(by cases h),fun h=>(B.out h).elim⟩,rfl⟩
  by_cases h4:E<=(2:Int)
  case neg =>
   have B:Hid (¬fG (H,J) (E,n) (G,u)):=by unfold Hid;rw[ad.out];intro h;omega
   go_wp2_with fail;go_meet
   case rel=>exact⟨false,rfl,⟨fun h=>(by cases h),fun h=>(B.out h).elim⟩,rfl⟩
  by_cases h5:(1:Int)<=G
  case neg =>
   have B:Hid (¬fG (H,J) (E,n) (G,u)):=by unfold Hid;rw[ad.out];intro h;omega
   go_wp2_with fail;go_meet
   case rel=>exact⟨false,rfl,⟨fun h=>(by cases h),fun h=>(B.out h).elim⟩,rfl⟩
  by_cases h6:G<=(2:Int)
  case neg =>
   have B:Hid (¬fG (H,J) (E,n) (G,u)):=by unfold Hid;rw[ad.out];intro h;omega
   go_wp2_with fail;go_meet
   case rel=>exact⟨false,rfl,⟨fun h=>(by cases h),fun h=>(B.out h).elim⟩,rfl⟩
  cases c1 with
  | false =>
   have B:Hid (¬fG (H,J) (E,n) (G,u)):=by unfold Hid;rw[ad.out];simp
   go_wp2_with fail;go_meet
   case rel=>exact⟨false,rfl,⟨fun h=>(by cases h),fun h=>(B.out h).elim⟩,rfl⟩
  | true =>
  cases c2 with
  | false =>
   have B:Hid (¬fG (H,J) (E,n) (G,u)):=by unfold Hid;rw[ad.out];simp
   go_wp2_with fail;go_meet
   case rel=>exact⟨false,rfl,⟨fun h=>(by cases h),fun h=>(B.out h).elim⟩,rfl⟩
  | true =>
  cases c3 with
  | false =>
   have B:Hid (¬fG (H,J) (E,n) (G,u)):=by unfold Hid;rw[ad.out];simp
   go_wp2_with fail;go_meet
   case rel=>exact⟨false,rfl,⟨fun h=>(by cases h),fun h=>(B.out h).elim⟩,rfl⟩
  | true =>
  have B:Hid (fG (H,J) (E,n) (G,u)):=by unfold Hid;rw[ad.out];exact⟨⟨h1,h2⟩,⟨h3,h4⟩,⟨h5,h6⟩,rfl,rfl,rfl⟩
  go_wp2_with fail;go_meet
  case rel=>exact⟨true,rfl,⟨fun _=>B.out,fun _=>rfl⟩,rfl⟩
 case rest =>
 obtain⟨T,rfl,HT,g3⟩:=hcut;obtain rfl:w9=wc:=g3.symm;clear a0 a1 b0 d0;obtain⟨m0,m1⟩:=cZ f'.out;clear m0;go_upto_region 15 with fail;go_cut [154] (fun c wx=>∃C:Bool,c=.bool C/\Hid (C=false->¬lJ Rs md (H,J) (E,n) (G,u) p)/\Ext w9 wx)
 case first=>as_aux_lemma =>
  cases T with
  | false =>
   have cp:Hid (¬lJ Rs md (H,J) (E,n) (G,u) p):=fun h=>absurd (HT.out.2 h.1) (by decide)
   go_wp2_with fail;go_meet
   case rel=>exact⟨false,rfl,fun _=>cp.out,Ext.refl _⟩
  | true =>
   have t1:=tl n;have t2:=tl u
   by_cases hid:n=u
   case pos =>
    have q1:(n==u)=true:=by simpa using hid
    clear hid;go_wp2_with fail;go_meet
    case rel=>exact⟨true,rfl,(fun h=>by cases h),Ext.refl _⟩
   case neg =>
    have q1:(n==u)=false:=by simpa using hid
    have go:Hid (n≠u):=hid;clear hid;go_wp2_with fail;go_at_call 16;refine(xg _ D gi w9 (eh.out.ext (av.out.trans a'.out)) ga.out).mono ?_;obtain⟨C,hC⟩:∃C,(D.map aC).contains gi=C:=⟨_,rfl⟩;rw[hC];have HC:Hid _:=hC;clear hC;rintro e V ⟨rfl,ag⟩;have Y:Hid (Ext w9 V):=ag;have cp:Hid (C=false->¬lJ Rs md (H,J) (E,n) (G,u) p):=fun h=>by
     subst h;rintro⟨-,h9 | ⟨e,he,h9⟩⟩
     .exact go.out h9
     .rw [gh.out]at h9;have h8:=HC.out;rw[List.contains_eq_mem]at h8;refine absurd (List.mem_map.2 ⟨e.2.data,?_,?_⟩) (by simpa using h8)
      .rw [<-em.out];exact List.mem_map.2 ⟨e,he,rfl⟩
      .rw [<-a7.out.id e he];exact h9
    clear ag;go_wp2_with fail;go_meet
    case rel=>exact⟨C,rfl,cp.out,Y.out⟩
 case rest =>
 obtain⟨C,rfl,HC,ag⟩:=hcut;obtain⟨V,rfl⟩:∃V:World,V=wc:=⟨_,rfl⟩;have Y:Hid (Ext wr V):=a'.out.trans ag;have a3:Hid (Ext w7 V):=a2.out.trans ag;clear ag b1 d1 m1
 cases C with
 | true =>
  have e3:Hid (Ext w6 V):=HX.out.trans Y.out;go_wp2_with fail;go_roundw
  case rel=>exact⟨k+1,by omega,by go_num,e3⟩
  case measure=>simp[intOf];omega
 | false =>
 have cm:Hid _:=el.out.resolve_left (HC.out rfl);have cu:Hid (c2=true->∀W,Ext V W->Calls Tryz.prog 17 #[.slice ra Rs.length rc,S8 p,.agg #[.int .i64 E,S8 n]] W fun e w'=>e=.returned (.bool true)/\Ext W w'):=fun h W hW=>by
  refine(mH _ Rs p (E,n) W (a9.out.ext (av.out.trans (Y.out.trans hW))) (Nat.le_trans ev.out (by decide)) (Nat.le_trans eg.out (by decide))).mono ?_;rintro e w' ⟨⟨c,rfl,hc⟩,hx⟩;exact⟨by rw[hc (cm.out.1 (ei.out.1 h))],hx⟩
 have cv:Hid (c3=true->∀W,Ext V W->Calls Tryz.prog 17 #[.slice ra Rs.length rc,S8 p,.agg #[.int .i64 G,S8 u]] W fun e w'=>e=.returned (.bool true)/\Ext W w'):=fun h W hW=>by
  refine(mH _ Rs p (G,u) W (a9.out.ext (av.out.trans (Y.out.trans hW))) (Nat.le_trans ev.out (by decide)) (Nat.le_trans ci.out (by decide))).mono ?_;rintro e w' ⟨⟨c,rfl,hc⟩,hx⟩;exact⟨by rw[hc (cm.out.2 (ek.out.1 h))],hx⟩
 have au:=Y.out.cell bk.out;obtain⟨a0,a1⟩:=cZ (a3.out.row ea.out);obtain⟨b0,b1⟩:=cZ (a3.out.row eb.out);obtain⟨d0,d1⟩:=cZ (a3.out.row ec.out);have ff:=eo.out;have fg:=er.out;clear HC cm;go_upto_region 16 with fail;go_cut [182] (fun c wx=>c=.bool false/\Ext V wx)
 case first=>as_aux_lemma =>
  cases c2 with
  | true =>
   cases c3 with
   | true =>
    have cq:Hid _:=cu.out rfl;have cs:Hid _:=cv.out rfl;apply ak 28 [.agg #[.int .i64 H,S8 J],.agg #[.int .i64 E,S8 n],.bool true,.bool true,_,_,_,_,S8 p,.agg #[.int .i64 E,S8 n],.bool true,.bool false,.bool false,.bool false,.agg #[.int .i64 H,S8 J],.agg #[.int .i64 G,S8 u],.bool true,.bool true,_,_,_,_,S8 p,.agg #[.int .i64 G,S8 u],.bool true,.bool false,.bool false,.bool false] [none,none,none,none,none,none,none,none,none,none,none,none,none,none,none,none,none,none,none,none,none,none,none,none,none,none,none,none] [[],[],[0,1],[2],[3],[3],[3],[3,5,6],[3,7],[3],[3,4,8,9],[3,10],[3,11],[12],[13],[13],[13,14,15],[13,16],[17],[17],[17],[17,19,20],[17,21],[17],[17,18,22,23],[17,24],[13,17,25],[13,26]] (by kernel_rfl) (by kernel_rfl) (by simp[aq])
    .trivial
    .simp (maxSteps:=1000000)only[List.take_succ_cons,List.take_zero,ay,aB,af,Act.put,List.setIfInBounds_toArray,List.set_cons_zero,List.set_cons_succ,aE,aH,aq,List.getD_cons_zero,List.getD_cons_succ,and_true,true_and,forall_const];and_intros
     iterate 10 · intro L wq d;intros;rename_i j;have f0:=d.cell au;have f1:=d.cell a0;have f2:=d.cell a1;have f3:=d.cell b0;have f4:=d.cell b1;have f5:=d.cell d0;have f6:=d.cell d1;go_simp;exact j _ _ (Ext.refl _) rfl
     .intro L wq d A R j;obtain⟨S,X,dp,dq⟩:=A;go_simp;exact(cq.out _ d).mono (by rintro e' w8 ⟨rfl,I⟩;exact⟨_,rfl,j _ _ I rfl⟩)
     iterate 13 · intro L wq d;intros;rename_i j;have f0:=d.cell au;have f1:=d.cell a0;have f2:=d.cell a1;have f3:=d.cell b0;have f4:=d.cell b1;have f5:=d.cell d0;have f6:=d.cell d1;go_simp;exact j _ _ (Ext.refl _) rfl
     .intro L wq d A R j;obtain⟨S,X,dp,dq⟩:=A;go_simp;exact(cs.out _ d).mono (by rintro e' w8 ⟨rfl,I⟩;exact⟨_,rfl,j _ _ I rfl⟩)
     iterate 3 · intro L wq d;intros;rename_i j;have f0:=d.cell au;have f1:=d.cell a0;have f2:=d.cell a1;have f3:=d.cell b0;have f4:=d.cell b1;have f5:=d.cell d0;have f6:=d.cell d1;go_simp;exact j _ _ (Ext.refl _) rfl
    intro L wa U A;simp only[aG,Nat.zero_add,Nat.reduceAdd,and_true]at A;simp(maxSteps:=1000000)only[List.take_succ_cons,List.take_zero,List.drop_succ_cons,List.drop_zero,af,Act.put,List.setIfInBounds_toArray,List.set_cons_zero,List.set_cons_succ,Nat.zero_add,Nat.reduceAdd,A];clear A;have ao:Hid (Ext V wa):=U;clear U;refine wpList_nil ?_;simp only[Exit.then,Exit.inBlock]
    go_step
    go_meet
    case rel=>exact⟨rfl,ao.out⟩
   | false =>
    have cq:Hid _:=cu.out rfl;apply ak 28 [.agg #[.int .i64 H,S8 J],.agg #[.int .i64 E,S8 n],.bool true,.bool true,_,_,_,_,S8 p,.agg #[.int .i64 E,S8 n],.bool true,.bool false,.bool false,.bool false,.agg #[.int .i64 H,S8 J],.agg #[.int .i64 G,S8 u],.bool false,.bool false,_,_,_,_,_,_,_,_,.bool false,.bool false] [none,none,none,none,none,none,none,none,none,none,none,none,none,none,none,none,none,none,none,none,none,none,none,none,none,none,none,none] [[],[],[0,1],[2],[3],[3],[3],[3,5,6],[3,7],[3],[3,4,8,9],[3,10],[3,11],[12],[13],[13],[13,14,15],[13,16],[17],[17],[17],[17,19,20],[17,21],[17],[17,18,22,23],[17,24],[13,17,25],[13,26]] (by kernel_rfl) (by kernel_rfl) (by simp[aq])
    .trivial
    .simp (maxSteps:=1000000)only[List.take_succ_cons,List.take_zero,ay,aB,af,Act.put,List.setIfInBounds_toArray,List.set_cons_zero,List.set_cons_succ,aE,aH,aq,List.getD_cons_zero,List.getD_cons_succ,and_true,true_and,forall_const];and_intros
     iterate 10 · intro L wq d;intros;rename_i j;have f0:=d.cell au;have f1:=d.cell a0;have f2:=d.cell a1;have f3:=d.cell b0;have f4:=d.cell b1;have f5:=d.cell d0;have f6:=d.cell d1;go_simp;exact j _ _ (Ext.refl _) rfl
     .intro L wq d A R j;obtain⟨S,X,dp,dq⟩:=A;go_simp;exact(cq.out _ d).mono (by rintro e' w8 ⟨rfl,I⟩;exact⟨_,rfl,j _ _ I rfl⟩)
     iterate 17 · intro L wq d;intros;rename_i j;have f0:=d.cell au;have f1:=d.cell a0;have f2:=d.cell a1;have f3:=d.cell b0;have f4:=d.cell b1;have f5:=d.cell d0;have f6:=d.cell d1;go_simp;exact j _ _ (Ext.refl _) rfl
    intro L wa U A;simp only[aG,Nat.zero_add,Nat.reduceAdd,and_true]at A;simp(maxSteps:=1000000)only[List.take_succ_cons,List.take_zero,List.drop_succ_cons,List.drop_zero,af,Act.put,List.setIfInBounds_toArray,List.set_cons_zero,List.set_cons_succ,Nat.zero_add,Nat.reduceAdd,A];clear A;have ao:Hid (Ext V wa):=U;clear U;refine wpList_nil ?_;simp only[Exit.then,Exit.inBlock]
    go_step
    go_meet
    case rel=>exact⟨rfl,ao.out⟩
  | false =>
   cases c3 with
   | true =>
    have cs:Hid _:=cv.out rfl;apply ak 28 [.agg #[.int .i64 H,S8 J],.agg #[.int .i64 E,S8 n],.bool false,.bool false,_,_,_,_,_,_,_,_,.bool false,.bool false,.agg #[.int .i64 H,S8 J],.agg #[.int .i64 G,S8 u],.bool true,.bool true,_,_,_,_,S8 p,.agg #[.int .i64 G,S8 u],.bool true,.bool false,.bool false,.bool false] [none,none,none,none,none,none,none,none,none,none,none,none,none,none,none,none,none,none,none,none,none,none,none,none,none,none,none,none] [[],[],[0,1],[2],[3],[3],[3],[3,5,6],[3,7],[3],[3,4,8,9],[3,10],[3,11],[12],[13],[13],[13,14,15],[13,16],[17],[17],[17],[17,19,20],[17,21],[17],[17,18,22,23],[17,24],[13,17,25],[13,26]] (by kernel_rfl) (by kernel_rfl) (by simp[aq])
    .trivial
    .simp (maxSteps:=1000000)only[List.take_succ_cons,List.take_zero,ay,aB,af,Act.put,List.setIfInBounds_toArray,List.set_cons_zero,List.set_cons_succ,aE,aH,aq,List.getD_cons_zero,List.getD_cons_succ,and_true,true_and,forall_const];and_intros
     iterate 24 · intro L wq d;intros;rename_i j;have f0:=d.cell au;have f1:=d.cell a0;have f2:=d.cell a1;have f3:=d.cell b0;have f4:=d.cell b1;have f5:=d.cell d0;have f6:=d.cell d1;go_simp;exact j _ _ (Ext.refl _) rfl
     .intro L wq d A R j;obtain⟨S,X,dp,dq⟩:=A;go_simp;exact(cs.out _ d).mono (by rintro e' w8 ⟨rfl,I⟩;exact⟨_,rfl,j _ _ I rfl⟩)
     iterate 3 · intro L wq d;intros;rename_i j;have f0:=d.cell au;have f1:=d.cell a0;have f2:=d.cell a1;have f3:=d.cell b0;have f4:=d.cell b1;have f5:=d.cell d0;have f6:=d.cell d1;go_simp;exact j _ _ (Ext.refl _) rfl
    intro L wa U A;simp only[aG,Nat.zero_add,Nat.reduceAdd,and_true]at A;simp(maxSteps:=1000000)only[List.take_succ_cons,List.take_zero,List.drop_succ_cons,List.drop_zero,af,Act.put,List.setIfInBounds_toArray,List.set_cons_zero,List.set_cons_succ,Nat.zero_add,Nat.reduceAdd,A];clear A;have ao:Hid (Ext V wa):=U;clear U;refine wpList_nil ?_;simp only[Exit.then,Exit.inBlock]
    go_step
    go_meet
    case rel=>exact⟨rfl,ao.out⟩
   | false =>
    apply ak 28 [.agg #[.int .i64 H,S8 J],.agg #[.int .i64 E,S8 n],.bool false,.bool false,_,_,_,_,_,_,_,_,.bool false,.bool false,.agg #[.int .i64 H,S8 J],.agg #[.int .i64 G,S8 u],.bool false,.bool false,_,_,_,_,_,_,_,_,.bool false,.bool false] [none,none,none,none,none,none,none,none,none,none,none,none,none,none,none,none,none,none,none,none,none,none,none,none,none,none,none,none] [[],[],[0,1],[2],[3],[3],[3],[3,5,6],[3,7],[3],[3,4,8,9],[3,10],[3,11],[12],[13],[13],[13,14,15],[13,16],[17],[17],[17],[17,19,20],[17,21],[17],[17,18,22,23],[17,24],[13,17,25],[13,26]] (by kernel_rfl) (by kernel_rfl) (by simp[aq])
    .trivial
    .simp (maxSteps:=1000000)only[List.take_succ_cons,List.take_zero,ay,aB,af,Act.put,List.setIfInBounds_toArray,List.set_cons_zero,List.set_cons_succ,aE,aH,aq,List.getD_cons_zero,List.getD_cons_succ,and_true,true_and,forall_const];and_intros
     iterate 28 · intro L wq d;intros;rename_i j;have f0:=d.cell au;have f1:=d.cell a0;have f2:=d.cell a1;have f3:=d.cell b0;have f4:=d.cell b1;have f5:=d.cell d0;have f6:=d.cell d1;go_simp;exact j _ _ (Ext.refl _) rfl
    intro L wa U A;simp only[aG,Nat.zero_add,Nat.reduceAdd,and_true]at A;simp(maxSteps:=1000000)only[List.take_succ_cons,List.take_zero,List.drop_succ_cons,List.drop_zero,af,Act.put,List.setIfInBounds_toArray,List.set_cons_zero,List.set_cons_succ,Nat.zero_add,Nat.reduceAdd,A];clear A;have ao:Hid (Ext V wa):=U;clear U;refine wpList_nil ?_;simp only[Exit.then,Exit.inBlock]
    go_step
    go_meet
    case rel=>exact⟨rfl,ao.out⟩
 case rest =>
 obtain⟨rfl,U⟩:=hcut;obtain⟨wa,rfl⟩:∃wa:World,wa=wc:=⟨_,rfl⟩;have ao:Hid (Ext w6 wa):=HX.out.trans (Y.out.trans U);clear U au a0 a1 b0 b1 d0 d1 ff fg cu cv;go_wp2_with fail;go_roundw
 case rel=>exact⟨k+1,by omega,by go_num,ao⟩
 case measure=>simp[intOf];omega
end
namespace threeKeeps
open Go Go.ChangeShapes Go.WideShapes Go.ChangeAt Go.RowKit Go.Deep
theorem contract (H:Type) (enc:TypeId×Value->H) (W:World) (n:Nat) (args:Array Value) (y gs:List (DataW H)) (i:List MemPlace)
  (c:∀(j:Nat) t v,Tryz.f4.params[j]? = some t->args[j]? = some v->Value.okWide Tryz.prog W .any n t v)
  (hW:DataW.Whole enc Tryz.prog Tryz.f4.params.toList Rows.threeKeepsSpec.vars false W args.toList y gs i)
  (g:(DataW.weightsEach Tryz.prog (Tryz.f4.params.toList++(OpenSpec.ofChange Rows.threeKeepsSpec).bare.plain.varTypes Tryz.prog) (y++gs)).all (·<=reachBytes)=true)
  (hL:laidMetH Tryz.prog Rows.threeKeepsRow.laid W) (hS:W.ShapedOpen Tryz.prog) :
  Calls Tryz.prog 4 args W fun e W'=>∃v,e=.returned v/\Rows.threeKeepsSpec.post enc Tryz.prog Tryz.f4 false true false false W args v W':=by
 have k:=hW;obtain⟨p,q,r,hV,rfl,ao,a1⟩:=hW;have d:DataW.TrodAll enc Tryz.prog W 0 (fun _=>true) true Tryz.f4.params.toList args.toList y p:=r;obtain⟨rfl,rfl⟩:=trodVars_none hV;clear r;simp only[List.append_nil]at k;have hE:Env W:=tj hS;have z:EnvS W:=qx (by rw[MakeChecks.laidMetH_plain _ _ _ (by kernel_rfl)]at hL;exact hL) hS
 letI:Inhabited br:=⟨⟨W⟩⟩
 have am:gK=W:=rfl;have ai:Ext gK W:=Ext.refl W;have u:=d;have J:∀x∈p,x.block<W.heap.size:=fun x hx=>by simpa using k.lt x (by simpa using hx)
 rw[Tryz.params4]at d c g;obtain⟨V,a2,d0,aa,p0,q0,A,E,N,h0,d⟩:=trodAll_cons d;obtain⟨X,a3,d1,ab,p1,q1,B,F,O,h1,d⟩:=trodAll_cons d;obtain⟨Y,a4,d2,ad,p2,q2,C,G,P,h2,d⟩:=trodAll_cons d;obtain⟨Z,a5,d3,ag,p3,q3,D,I,Q,h3,d⟩:=trodAll_cons d;obtain⟨K,L,M⟩:=trodAll_nil d;subst K L M;subst Q I D;subst P G C;subst O F B;subst N E;obtain rfl:args=#[V,X,Y,Z]:=by cases args;simp_all
 clear A;have R:=c 0 22 V rfl rfl;obtain⟨l,hl⟩:=qo (j:=0) R h0 g rfl rfl;have S:=c 1 23 X rfl rfl;obtain⟨o,ho,a0⟩:=eN (j:=1) S h1 g rfl rfl;have T:=c 2 23 Y rfl rfl;obtain⟨a,ha,au⟩:=eN (j:=2) T h2 g rfl rfl;have U:=c 3 23 Z rfl rfl;obtain⟨b,hb,av⟩:=eN (j:=3) U h3 g rfl rfl;refine(se V X Y Z l o a b W hE z hl ho ha hb).mono fun e W' ⟨he,hg⟩=>?_
 subst he;have w:=f9 jm hg u J (by rw[Tryz.params4];exact fun t ht=>by simp only[List.mem_cons,List.not_mem_nil,or_false]at ht;rcases ht with rfl | rfl | rfl | rfl <;> exact⟨by kernel_rfl,of_decide_eq_true (by kernel_rfl)⟩);exact⟨_,rfl,_,_,_,[],_,[],k,trodAll_mk1 (shut_bool Tryz.underlying4 _),w,rfl,hg.frame _,fun h=>by cases h⟩
theorem laid_met (os:Os):laidMetH Tryz.prog Rows.threeKeepsRow.laid ((World.laidAll Tryz.prog os Rows.threeKeepsRow.laid).forCall (fun _ _=>0) ⟨#[],#[.slice none 0 0,.slice none 0 0,.slice none 0 0,.slice none 0 0],[]⟩).memory:=by
 rw[MakeChecks.laidMetH_plain _ _ _ (by kernel_rfl)];exact laidMet_laidAll _ (by kernel_rfl) (by kernel_rfl)
theorem reads (os:Os) {H:Type} (enc:TypeId×Value->H):∃a,DataW.whole enc Tryz.prog ((World.laidAll Tryz.prog os Rows.threeKeepsRow.laid).forCall (fun _ _=>0) ⟨#[],#[.slice none 0 0,.slice none 0 0,.slice none 0 0,.slice none 0 0],[]⟩).memory Tryz.f4.params.toList Rows.threeKeepsSpec.vars false #[.slice none 0 0,.slice none 0 0,.slice none 0 0,.slice none 0 0].toList 8=some ([.nil,.nil,.nil,.nil],[],a) :=
 ⟨[],by kernel_rfl⟩
theorem lifted (os:Os) (a:os.Started) (H:Type) (enc:TypeId×Value->H) (F:Stop.Interp) :
  ReturnsInHanded {} Tryz.checked os 4 .any ((OpenSpec.ofChange Rows.threeKeepsSpec).preRow enc Tryz.prog Tryz.f4 Rows.threeKeepsRow.domain false Rows.threeKeepsRow.laid) (((OpenSpec.ofChange Rows.threeKeepsSpec).at F).post enc Tryz.prog Tryz.f4 false true false false):=by
 obtain⟨e,p⟩:=reads os enc;refine returnsInHanded_of_row (C:=Tryz.checked) (s:=OpenSpec.ofChange Rows.threeKeepsSpec) own a (by kernel_rfl) Tryz.func4
  (witness_row_at (enc:=enc) (C:=Tryz.checked) false (World.laidAll Tryz.prog os Rows.threeKeepsRow.laid) #[.slice none 0 0,.slice none 0 0,.slice none 0 0,.slice none 0 0] (World.laidAll_os _ _ _) (by kernel_rfl) (by kernel_rfl) (by kernel_rfl)
   (OpenSpec.preRow_of_cond 8 p (by kernel_rfl) (fun k o=>by cases o) (by kernel_rfl) (laid_met os))) ?_
 intro W c args h i b d n _ _ g j l _;exact contract H enc W c args h i b d n g j l
theorem k_wf:Rows.threeKeepsRow.wf (OpenSpec.ofChange Rows.threeKeepsSpec)=true:=by kernel_rfl
theorem k_mr:mapsRowed Tryz.prog=true:=by kernel_rfl
theorem k_rr:Tryz.f4.params.all (Tryz.prog.readableRec ·)=true:=by kernel_rfl
theorem k_ip:Tryz.prog.inPlace 4=Rows.threeKeepsRow.inPlace:=by kernel_rfl
theorem k_uf:Tryz.prog.unfollowed 4=Rows.threeKeepsRow.unfollowed:=by kernel_rfl
theorem k_rc:Tryz.prog.recurses 4=Rows.threeKeepsRow.recurses:=by kernel_rfl
theorem k_vn:Tryz.prog.varsNamed 4=Rows.threeKeepsRow.named:=by kernel_rfl
theorem k_pk:Tryz.prog.plainKeys=Rows.threeKeepsRow.plainKeys:=by kernel_rfl
theorem k_sh:Tryz.prog.stopsHeard=true:=by kernel_rfl
theorem k_me:Tryz.prog.mayEnter=true:=by kernel_rfl
theorem k_lf:Tryz.prog.liftsFinal=Rows.threeKeepsRow.lifted:=by kernel_rfl
theorem closed0:joinedFacts Tryz.prog 4 Tryz.f4 Rows.threeKeepsSpec Rows.threeKeepsRow=true:=by
 unfold joinedFacts;rw[k_wf,jm,k_mr,k_rr,k_ip,k_uf,k_rc,k_vn,k_pk,k_sh,k_me,k_lf];simp only[beq_self_eq_true,Bool.true_and,Bool.and_true]
 kernel_rfl
theorem closed:joinedFacts Tryz.pinned.checked.prog 4 Tryz.f4 (OpenSpec.ofChange Rows.threeKeepsSpec).bare Rows.threeKeepsRow=true:=closed0
theorem isInst:Tryz.f4.isInstance Tryz.pinned.checked.prog Rows.threeKeepsRow.origin Rows.threeKeepsRow.targs:=of_decide_eq_true (by kernel_rfl)
theorem isWrap:Tryz.f4.isWrapper Tryz.pinned.checked.prog Rows.threeKeepsRow.wrapper Rows.threeKeepsRow.mainSum:=by unfold Func.isWrapper;first | (rw[if_pos (by decide +kernel)];kernel_rfl) | (rw[if_neg (by decide +kernel)];exact⟨rfl,rfl⟩)
theorem said:Rows.ThreeKeepsSaid :=
 OpenClaim.holds_of_cond 4 Tryz.f4 rfl rfl rfl rfl rfl rfl rfl ⟨rfl,rfl,rfl,rfl,rfl⟩ rfl rfl rfl rfl rfl (by kernel_rfl) Tryz.func4 closed
  isInst isWrap
  (fun c a H b _ F=>by rw[OpenClaim.pre_eq_preRow];exact lifted c a H b F)
theorem plain (f : FuncId) (a : Func) (e : Tryz.pinned.checked.prog.funcNamed "marline/marlaw17.ThreeKeeps" = some f) (b : Tryz.pinned.checked.prog.funcs[f]? = some a) :
  false=Tryz.pinned.checked.prog.looks []/\∀(j:Nat) t,a.params[j]? = some t->Tryz.pinned.checked.prog.wantsStandIn t=false:=by
 obtain rfl : f = 4 := Option.some.inj ((show Tryz.prog.funcNamed "marline/marlaw17.ThreeKeeps" = some 4 by kernel_rfl).symm.trans e) |>.symm;obtain rfl:a=Tryz.f4:=(Option.some.inj (Tryz.func4.symm.trans b)).symm;refine⟨by kernel_rfl,fun j t d=>?_⟩;rw[Tryz.params4]at d;have c:t∈[22,23,23,23]:=by simpa using Array.mem_of_getElem? d
 simp only[List.mem_cons,List.not_mem_nil,or_false]at c;rcases c with rfl | rfl | rfl | rfl
 .exact (show Tryz.prog.wantsStandIn 22=false by kernel_rfl)
 iterate 2
  .exact (show Tryz.prog.wantsStandIn 23=false by kernel_rfl)
 .exact (show Tryz.prog.wantsStandIn 23=false by kernel_rfl)
theorem card:Rows.ThreeKeepsCardSaid :=
 Claim7.holds_tied_plain_at .later [] _ _ _ _ said (fun _ h=>by cases h) (by kernel_rfl) (fun _ h=>by cases h) threeKeeps_row_tie rfl ⟨rfl,rfl⟩ (by kernel_rfl) rfl plain (by kernel_rfl)
end threeKeeps
end Go.Proofs.YtgfegpnmlkdjfaaGreatDoor
