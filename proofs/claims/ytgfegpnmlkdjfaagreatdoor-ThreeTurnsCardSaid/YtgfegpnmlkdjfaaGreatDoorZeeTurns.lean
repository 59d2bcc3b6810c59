/- Contracts of the program's functions and plain laws behind the card. Conditions: as each theorem states. -/
import Derived.Test.YtgfegpnmlkdjfaaGreatDoorZbt
import Derived.Test.YtgfegpnmlkdjfaaGreatDoorZbn
import Derived.Test.YtgfegpnmlkdjfaaGreatDoorZbm
set_option linter.unusedVariables false
set_option linter.unusedSimpArgs false
set_option linter.unusedSectionVars false
set_option maxRecDepth 100000
set_option maxHeartbeats 64000000
namespace Go.Proofs.YtgfegpnmlkdjfaaGreatDoor
section
open Go Go.RowKit Go.Sort
theorem sf [Inhabited br] (vl vo va vb:Value) (l:List B8) (o a b:List Rw) (w:World) (hE:Env w) (c2:EnvS w) (ca:IsBss w vl l) (cb:IsRws w vo o) (b9:IsRws w va a) (b':IsRws w vb b) :
  Calls Tryz.prog 3 #[vl,vo,va,vb] w fun e w'=>e=.returned (.bool true)/\Ext w w':=by
 obtain⟨la,lc,rfl,-⟩:=ca.get;obtain⟨oa,oc,rfl,-⟩:=cb.get;obtain⟨aa,ac,rfl,-⟩:=b9.get;obtain⟨ba,bc,rfl,-⟩:=b'.get;have cq:Hid (IsBss w (.slice la l.length lc) l):=ca;have y:Hid (IsRws w (.slice oa o.length oc) o):=cb;have p:Hid (IsRws w (.slice aa a.length ac) a):=b9;have bo:Hid (IsRws w (.slice ba b.length bc) b):=b';have HE:Hid (Env w):=hE;have X:Hid (EnvS w):=c2;have HF:Hid (∀w',Ext w w'->Calls Tryz.prog 6 #[] w' fun e d'=>e=.returned (.bool true)/\Ext w' d'):=fun w' hx=>kx w' (hE.ext hx)
 clear ca cb b9 b' hE c2;go_enter Tryz.func3,Tryz.ntmps3;go_wp2_with fail;go_at_call 6;refine(HF.out w (Ext.refl _)).mono ?_;rintro e t ⟨rfl,da⟩;have d:Hid (Ext w t):=da;clear da;go_wp2_with fail;go_at_call 7;refine(lW _ l t (cq.out.ext d.out)).mono ?_;rintro e w2 ⟨ul,rfl,rfl,c8⟩;have bk:Hid (ul=true->l.length<=40/\∀x∈l,x.length<=1500):=c8;clear c8;obtain⟨t,rfl⟩:∃t:World,t=w2:=⟨_,rfl⟩
 cases ul with
 | false =>
  go_wp2_with fail;go_at_call 6;refine(HF.out _ d.out).mono ?_;rintro e wz ⟨rfl,g⟩;go_wp2;go_ret;exact⟨rfl,d.out.trans g⟩
 | true =>
 have h:Hid (l.length<=100000/\∀x∈l,x.length<=10000000):=⟨Nat.le_trans (bk.out rfl).1 (by decide),fun x hx=>Nat.le_trans ((bk.out rfl).2 x hx) (by decide)⟩;clear bk;go_wp2_with fail;go_at_call 8;refine(dY _ o t (y.out.ext d.out)).mono ?_;rintro e w2 ⟨uo,rfl,rfl,c9⟩;have bm:Hid (uo=true->o.length<=100/\∀r∈o,r.path.length<=400/\r.id.length<=400):=c9;clear c9;obtain⟨t,rfl⟩:∃t:World,t=w2:=⟨_,rfl⟩
 cases uo with
 | false =>
  go_wp2_with fail;go_at_call 6;refine(HF.out _ d.out).mono ?_;rintro e wz ⟨rfl,g⟩;go_wp2;go_ret;exact⟨rfl,d.out.trans g⟩
 | true =>
 have b7:=(bm.out rfl).1;have G:Hid (bS o):=⟨Nat.le_trans b7 (by omega),(bm.out rfl).2⟩;clear bm;go_wp2_with fail;go_at_call 8;refine(dY _ a t (p.out.ext d.out)).mono ?_;rintro e w2 ⟨ua,rfl,rfl,J⟩;have bh:Hid (ua=true->a.length<=100/\∀r∈a,r.path.length<=400/\r.id.length<=400):=J;clear J;obtain⟨t,rfl⟩:∃t:World,t=w2:=⟨_,rfl⟩
 cases ua with
 | false =>
  go_wp2_with fail;go_at_call 6;refine(HF.out _ d.out).mono ?_;rintro e wz ⟨rfl,g⟩;go_wp2;go_ret;exact⟨rfl,d.out.trans g⟩
 | true =>
 have bs:=(bh.out rfl).1;have E:Hid (bS a):=⟨Nat.le_trans bs (by omega),(bh.out rfl).2⟩;clear bh;go_wp2_with fail;go_at_call 8;refine(dY _ b t (bo.out.ext d.out)).mono ?_;rintro e w2 ⟨ub,rfl,rfl,c7⟩;have bi:Hid (ub=true->b.length<=100/\∀r∈b,r.path.length<=400/\r.id.length<=400):=c7;clear c7;obtain⟨t,rfl⟩:∃t:World,t=w2:=⟨_,rfl⟩
 cases ub with
 | false =>
  go_wp2_with fail;go_at_call 6;refine(HF.out _ d.out).mono ?_;rintro e wz ⟨rfl,g⟩;go_wp2;go_ret;exact⟨rfl,d.out.trans g⟩
 | true =>
 have b0:=(bi.out rfl).1;have cl:Hid (bS b):=⟨Nat.le_trans b0 (by omega),(bi.out rfl).2⟩;clear bi;obtain⟨M,hM⟩:∃M,bR l o a b=M:=⟨_,rfl⟩;have HM:Hid (bR l o a b=M):=hM;clear hM;go_wp2_with fail;go_at_call 9;refine(jf _ l false t (cq.out.ext d.out) h.out.1 h.out.2).mono ?_;rintro e w3 ⟨⟨F,rfl,hF⟩,dc⟩;have c3:=hF;obtain⟨b1,b2,b3,sv,em,rfl,-⟩:=hF.get;have Z:Hid (IsSrcF w3 (.func (.func 24) #[] #[.pointer (some ⟨b1,0,none⟩),.pointer (some ⟨b2,0,none⟩),.pointer (some ⟨b3,0,none⟩)]) l false):=c3;have H:Hid (Ext w w3):=d.out.trans dc;clear hF c3 dc;go_wp2_with fail;go_at_call 10;refine(fO _ _ _ _ _ _ l o a b w3 (HE.out.ext H.out) (X.out.ext H.out) Z.out h.out.1 h.out.2 (y.out.ext H.out) (p.out.ext H.out) (bo.out.ext H.out) G.out E.out cl.out).mono ?_;rw[HM.out];rintro e w4 ⟨c4,cc⟩;obtain⟨N,ai⟩:=jq c4;obtain⟨ra,rc,xa,xc,na,nc,rfl,ag,ad,b6⟩:=ai.get;obtain⟨K,hK⟩:∃K,lz M=K:=⟨_,rfl⟩;obtain⟨Rs,hR⟩:∃Rs,jN M=Rs:=⟨_,rfl⟩;obtain⟨D,hD⟩:∃D,jM M=D:=⟨_,rfl⟩;rw[hK,hR,hD];rw[hR]at ag;rw[hD]at ad;have HK:Hid (lz M=K):=hK;have HR:Hid (jN M=Rs):=hR;have HD:Hid (jM M=D):=hD;have HN:Hid (N.Perm (xH M)/\UpN N):=⟨ai.perm,ai.up⟩;have d4:Hid (IsRws w4 (.slice ra Rs.length rc) Rs):=ag;have dn:Hid (IsBss w4 (.slice xa D.length xc) D):=ad;have d3:Hid (Row w4 (.slice na N.length nc) N.length (N.flatMap ntC)):=b6;have I:Hid (Ext w w4):=H.out.trans cc;have a2:Hid (Ext w3 w4):=cc;have eh:=Row.len b6;have ei:=Row.len ag;have eg:=qs ad;clear c4 cc ai ag ad b6 hK hR hD;go_wp2_with fail;go_at_call 10;refine(fO _ _ _ _ _ _ l o b a w4 (HE.out.ext I.out) (X.out.ext I.out) (Z.out.ext a2.out) h.out.1 h.out.2 (y.out.ext I.out) (bo.out.ext I.out) (p.out.ext I.out) G.out cl.out E.out).mono ?_;rw[uL,HM.out];rintro e w5 ⟨c5,ce⟩;obtain⟨N',am⟩:=jq c5;obtain rfl:N=N':=(wj am.up HN.out.2 (am.perm.trans HN.out.1.symm)).symm;obtain⟨qa,qc,ya,yc,ma,mc,rfl,b8,b4,c6⟩:=am.get;rw[HK.out,HR.out,HD.out];rw[HR.out]at b8;rw[HD.out]at b4;have d5:Hid (IsRws w5 (.slice qa Rs.length qc) Rs):=b8;have dp:Hid (IsBss w5 (.slice ya D.length yc) D):=b4
 have d2:Hid (Row w5 (.slice ma N.length mc) N.length (N.flatMap ntC)):=c6;have d6:Hid (Ext w w5):=I.out.trans ce;have O:Hid (Ext w4 w5):=ce;clear c5 ce am b8 b4 c6;go_wp2_with fail;go_at_call 11;refine(jb _ _ _ _ w5 (d4.out.ext O.out) d5.out).mono ?_;rintro e w6 ⟨⟨c,rfl,hc⟩,m6,c'⟩;obtain rfl:c=true:=hc.2 rfl;have Q:Hid (Ext w5 w6):=by rw[c'];exact Ext.drawn _ _
 clear hc c';go_wp2_with fail;go_at_call 12;refine(yX _ _ _ _ w6 (dn.out.ext (O.out.trans Q.out)) (dp.out.ext Q.out) rfl).mono ?_;rintro e w7 ⟨rfl,dk⟩;have C:Hid (Ext w5 w7):=Q.out.trans dk;have P:Hid (Ext w4 w7):=O.out.trans C.out;have d7:Hid (Ext w w7):=d6.out.trans C.out;have cu:Hid (Ext w3 w7):=a2.out.trans P.out;clear dk;go_wp2_with fail;go_loopw [18] (fun i wr=>∃k:Nat,k<=N.length/\i=.int .i64 k/\Hid (Ext w7 wr)) (fun i _=>N.length - (intOf i).toNat)
 case atStart=>exact⟨0,Nat.zero_le _,rfl,Ext.refl _⟩
 case round =>
 obtain⟨k,hk,rfl,HX⟩:=hrel;have bq:Hid (Ext w wr):=d7.out.trans HX.out;have cx:Hid (Ext w3 wr):=cu.out.trans HX.out
 by_cases d9:k<N.length
 case pos =>
  obtain⟨⟨q,j⟩,hx⟩:∃x,N[k]? = some x:=⟨_,List.getElem?_eq_getElem d9⟩;obtain⟨bb,oo,rfl,c0,c1⟩:=jP d3.out hx;obtain⟨bv,ov,rfl,d0,d1⟩:=jP d2.out hx;have x0:=(P.out.trans HX.out).cell c0;have x1:=(P.out.trans HX.out).cell c1;have y0:=(C.out.trans HX.out).cell d0;have y1:=(C.out.trans HX.out).cell d1;dsimp only at x0 x1 y0 y1;have hn:∀w:World,(binOp .neq 36 (.agg #[S8 q,.int .i64 j]) (.agg #[S8 q,.int .i64 j])).run Tryz.prog w=.ok (.bool false) w:=fun w=>by
   have:=A3 (q,j) (q,j) w
   rwa [bne_self_eq_false]at this
  clear hx c0 c1 d0 d1;go_upto_region 13 with fail;apply ak 9 [_,_,_,.agg #[S8 q,.int .i64 j],_,_,_,.agg #[S8 q,.int .i64 j],.bool false] [none,none,none,none,none,none,none,none,none] [[],[],[0,1],[2],[],[],[4,5],[6],[3,7]] (by kernel_rfl) (by kernel_rfl) (by simp[aq])
  .trivial
  .simp (maxSteps:=1000000)only[List.take_succ_cons,List.take_zero,ay,aB,af,Act.put,List.setIfInBounds_toArray,List.set_cons_zero,List.set_cons_succ,aE,aH,aq,List.getD_cons_zero,List.getD_cons_succ,and_true,true_and,forall_const];and_intros
   iterate 9 · intro xs wq hq;intros;rename_i hR;have f0:=hq.cell x0;have f1:=hq.cell x1;have f2:=hq.cell y0;have f3:=hq.cell y1;go_simp;exact hR _ _ (Ext.refl _) rfl
  intro xs w8 L hk;simp only[aG,Nat.zero_add,Nat.reduceAdd,and_true]at hk;simp(maxSteps:=1000000)only[List.take_succ_cons,List.take_zero,List.drop_succ_cons,List.drop_zero,af,Act.put,List.setIfInBounds_toArray,List.set_cons_zero,List.set_cons_succ,Nat.zero_add,Nat.reduceAdd,hk];clear hk;have z:Hid (Ext w7 w8):=HX.out.trans L;clear hn x0 x1 y0 y1 L;go_wp2_with fail;go_roundw
  case rel=>exact⟨k+1,by omega,by go_num,z⟩
  case measure=>simp[intOf];omega
 go_wp2_with fail;go_at_call 13;refine(eS _ o wr (HE.out.ext bq.out) (y.out.ext bq.out) (by omega) G.out.2).mono ?_;rintro e w8 ⟨rfl,L⟩;have z:Hid (Ext w w8):=bq.out.trans L;have cv:Hid (Ext w3 w8):=cx.out.trans L;obtain⟨mo,b5⟩:∃c,an o=c:=⟨_,rfl⟩;rw[b5];have cm:Hid _:=b5;clear L b5
 cases mo with
 | false =>
  go_wp2_with fail;go_at_call 6;refine(HF.out _ z.out).mono ?_;rintro e wz ⟨rfl,g⟩;go_wp2;go_ret;exact⟨rfl,z.out.trans g⟩
 | true =>
 go_wp2_with fail;go_at_call 13;refine(eS _ a w8 (HE.out.ext z.out) (p.out.ext z.out) (by omega) E.out.2).mono ?_;rintro e w9 ⟨rfl,cf⟩;have u:Hid (Ext w w9):=z.out.trans cf;have a3:Hid (Ext w3 w9):=cv.out.trans cf;obtain⟨ta,J⟩:∃c,an a=c:=⟨_,rfl⟩;rw[J];have Y:Hid _:=J;clear cf J
 cases ta with
 | false =>
  go_wp2_with fail;go_at_call 6;refine(HF.out _ u.out).mono ?_;rintro e wz ⟨rfl,g⟩;go_wp2;go_ret;exact⟨rfl,u.out.trans g⟩
 | true =>
 have dq:Hid (bR l o a o=.ok ((a,[]),[])):=nK (sZ o a).Ic (nJ (by rw[cm.out,Y.out];rfl) Y.out (sZ o a));have ds:Hid (bR l o a a=.ok ((a,[]),[])):=nK (sY o a).Ic (nJ (by rw[cm.out,Y.out];rfl) Y.out (sY o a));go_wp2_with fail;go_at_call 10;refine(fO _ _ _ _ _ _ l o a o w9 (HE.out.ext u.out) (X.out.ext u.out) (Z.out.ext a3.out) h.out.1 h.out.2 (y.out.ext u.out) (p.out.ext u.out) (y.out.ext u.out) G.out E.out G.out).mono ?_;rw[dq.out];rintro e W ⟨a4,T⟩;obtain⟨N1,R⟩:=jq a4;obtain rfl:N1=[]:=List.perm_nil.1 R.perm;obtain⟨ea,ec,fa,fc,ga,gc,rfl,a6,-,-⟩:=R.get;have co:Hid (IsRws W (.slice ea a.length ec) a):=a6;have n:Hid (Ext w W):=u.out.trans T;have bp:Hid (Ext w3 W):=a3.out.trans T;clear a4 T R a6;unfold jN lz jM;go_wp2_with fail;go_at_call 10;refine(fO _ _ _ _ _ _ l o a a W (HE.out.ext n.out) (X.out.ext n.out) (Z.out.ext bp.out) h.out.1 h.out.2 (y.out.ext n.out) (p.out.ext n.out) (p.out.ext n.out) G.out E.out E.out).mono ?_;rw[ds.out];rintro e ao ⟨a5,U⟩;obtain⟨N2,S⟩:=jq a5;obtain rfl:N2=[]:=List.perm_nil.1 S.perm;obtain⟨ia,ic,ja,jc,ka,kc,rfl,a7,-,-⟩:=S.get;have cp:Hid (IsRws ao (.slice ia a.length ic) a):=a7;have av:Hid (Ext w ao):=n.out.trans U;have ab:Hid (Ext W ao):=U;clear a5 U S a7;unfold jN lz jM;go_wp2_with fail;go_at_call 6;refine(HF.out _ av.out).mono ?_;rintro e au ⟨rfl,V⟩;have a0:Hid (Ext w au):=av.out.trans V;have A:Hid (Ext ao au):=V;clear V;go_wp2_with fail;go_at_call 11;refine(jb _ _ a a au (co.out.ext (ab.out.trans A.out)) (p.out.ext a0.out)).mono ?_;rintro e ci ⟨⟨c,rfl,hc⟩,ek,a9⟩;obtain rfl:c=true:=hc.2 rfl;have B:Hid (Ext au ci):=by rw[a9];exact Ext.drawn _ _
 have a1:Hid (Ext w ci):=a0.out.trans B.out;clear hc a9;go_wp2_with fail;go_at_call 11;refine(jb _ _ a a ci (cp.out.ext (A.out.trans B.out)) (p.out.ext a1.out)).mono ?_;rintro e eb ⟨⟨c,rfl,hc⟩,el,a'⟩;obtain rfl:c=true:=hc.2 rfl;have cs:Hid (Ext w eb):=a1.out.trans (by rw[a'];exact Ext.drawn _ _);clear hc a';go_wp2_with fail;go_ret;exact⟨rfl,cs.out⟩
end
namespace threeTurns
open Go Go.ChangeShapes Go.WideShapes Go.ChangeAt Go.RowKit Go.Deep
theorem contract (H:Type) (enc:TypeId×Value->H) (W:World) (n:Nat) (args:Array Value) (y gs:List (DataW H)) (i:List MemPlace)
  (c:∀(j:Nat) t v,Tryz.f3.params[j]? = some t->args[j]? = some v->Value.okWide Tryz.prog W .any n t v)
  (hW:DataW.Whole enc Tryz.prog Tryz.f3.params.toList Rows.threeTurnsSpec.vars false W args.toList y gs i)
  (g:(DataW.weightsEach Tryz.prog (Tryz.f3.params.toList++(OpenSpec.ofChange Rows.threeTurnsSpec).bare.plain.varTypes Tryz.prog) (y++gs)).all (·<=reachBytes)=true)
  (hL:laidMetH Tryz.prog Rows.threeTurnsRow.laid W) (hS:W.ShapedOpen Tryz.prog) :
  Calls Tryz.prog 3 args W fun e W'=>∃v,e=.returned v/\Rows.threeTurnsSpec.post enc Tryz.prog Tryz.f3 false true false false W args v W':=by
 have k:=hW;obtain⟨p,q,r,hV,rfl,ao,a1⟩:=hW;have d:DataW.TrodAll enc Tryz.prog W 0 (fun _=>true) true Tryz.f3.params.toList args.toList y p:=r;obtain⟨rfl,rfl⟩:=trodVars_none hV;clear r;simp only[List.append_nil]at k;have hE:Env W:=tj hS;have z:EnvS W:=qx (by rw[MakeChecks.laidMetH_plain _ _ _ (by kernel_rfl)]at hL;exact hL) hS
 letI:Inhabited br:=⟨⟨W⟩⟩
 have am:gK=W:=rfl;have ai:Ext gK W:=Ext.refl W;have u:=d;have J:∀x∈p,x.block<W.heap.size:=fun x hx=>by simpa using k.lt x (by simpa using hx)
 rw[Tryz.params3]at d c g;obtain⟨V,a2,d0,aa,p0,q0,A,E,N,h0,d⟩:=trodAll_cons d;obtain⟨X,a3,d1,ab,p1,q1,B,F,O,h1,d⟩:=trodAll_cons d;obtain⟨Y,a4,d2,ad,p2,q2,C,G,P,h2,d⟩:=trodAll_cons d;obtain⟨Z,a5,d3,ag,p3,q3,D,I,Q,h3,d⟩:=trodAll_cons d;obtain⟨K,L,M⟩:=trodAll_nil d;subst K L M;subst Q I D;subst P G C;subst O F B;subst N E;obtain rfl:args=#[V,X,Y,Z]:=by cases args;simp_all
 clear A;have R:=c 0 22 V rfl rfl;obtain⟨l,hl⟩:=qo (j:=0) R h0 g rfl rfl;have S:=c 1 23 X rfl rfl;obtain⟨o,ho,a0⟩:=eN (j:=1) S h1 g rfl rfl;have T:=c 2 23 Y rfl rfl;obtain⟨a,ha,au⟩:=eN (j:=2) T h2 g rfl rfl;have U:=c 3 23 Z rfl rfl;obtain⟨b,hb,av⟩:=eN (j:=3) U h3 g rfl rfl;refine(sf V X Y Z l o a b W hE z hl ho ha hb).mono fun e W' ⟨he,hg⟩=>?_
 subst he;have w:=f9 jm hg u J (by rw[Tryz.params3];exact fun t ht=>by simp only[List.mem_cons,List.not_mem_nil,or_false]at ht;rcases ht with rfl | rfl | rfl | rfl <;> exact⟨by kernel_rfl,of_decide_eq_true (by kernel_rfl)⟩);exact⟨_,rfl,_,_,_,[],_,[],k,trodAll_mk1 (shut_bool Tryz.underlying4 _),w,rfl,hg.frame _,fun h=>by cases h⟩
theorem laid_met (os:Os):laidMetH Tryz.prog Rows.threeTurnsRow.laid ((World.laidAll Tryz.prog os Rows.threeTurnsRow.laid).forCall (fun _ _=>0) ⟨#[],#[.slice none 0 0,.slice none 0 0,.slice none 0 0,.slice none 0 0],[]⟩).memory:=by
 rw[MakeChecks.laidMetH_plain _ _ _ (by kernel_rfl)];exact laidMet_laidAll _ (by kernel_rfl) (by kernel_rfl)
theorem reads (os:Os) {H:Type} (enc:TypeId×Value->H):∃a,DataW.whole enc Tryz.prog ((World.laidAll Tryz.prog os Rows.threeTurnsRow.laid).forCall (fun _ _=>0) ⟨#[],#[.slice none 0 0,.slice none 0 0,.slice none 0 0,.slice none 0 0],[]⟩).memory Tryz.f3.params.toList Rows.threeTurnsSpec.vars false #[.slice none 0 0,.slice none 0 0,.slice none 0 0,.slice none 0 0].toList 8=some ([.nil,.nil,.nil,.nil],[],a) :=
 ⟨[],by kernel_rfl⟩
theorem lifted (os:Os) (a:os.Started) (H:Type) (enc:TypeId×Value->H) (F:Stop.Interp) :
  ReturnsInHanded {} Tryz.checked os 3 .any ((OpenSpec.ofChange Rows.threeTurnsSpec).preRow enc Tryz.prog Tryz.f3 Rows.threeTurnsRow.domain false Rows.threeTurnsRow.laid) (((OpenSpec.ofChange Rows.threeTurnsSpec).at F).post enc Tryz.prog Tryz.f3 false true false false):=by
 obtain⟨e,p⟩:=reads os enc;refine returnsInHanded_of_row (C:=Tryz.checked) (s:=OpenSpec.ofChange Rows.threeTurnsSpec) own a (by kernel_rfl) Tryz.func3
  (witness_row_at (enc:=enc) (C:=Tryz.checked) false (World.laidAll Tryz.prog os Rows.threeTurnsRow.laid) #[.slice none 0 0,.slice none 0 0,.slice none 0 0,.slice none 0 0] (World.laidAll_os _ _ _) (by kernel_rfl) (by kernel_rfl) (by kernel_rfl)
   (OpenSpec.preRow_of_cond 8 p (by kernel_rfl) (fun k o=>by cases o) (by kernel_rfl) (laid_met os))) ?_
 intro W c args h i b d n _ _ g j l _;exact contract H enc W c args h i b d n g j l
theorem k_wf:Rows.threeTurnsRow.wf (OpenSpec.ofChange Rows.threeTurnsSpec)=true:=by kernel_rfl
theorem k_mr:mapsRowed Tryz.prog=true:=by kernel_rfl
theorem k_rr:Tryz.f3.params.all (Tryz.prog.readableRec ·)=true:=by kernel_rfl
theorem k_ip:Tryz.prog.inPlace 3=Rows.threeTurnsRow.inPlace:=by kernel_rfl
theorem k_uf:Tryz.prog.unfollowed 3=Rows.threeTurnsRow.unfollowed:=by kernel_rfl
theorem k_rc:Tryz.prog.recurses 3=Rows.threeTurnsRow.recurses:=by kernel_rfl
theorem k_vn:Tryz.prog.varsNamed 3=Rows.threeTurnsRow.named:=by kernel_rfl
theorem k_pk:Tryz.prog.plainKeys=Rows.threeTurnsRow.plainKeys:=by kernel_rfl
theorem k_sh:Tryz.prog.stopsHeard=true:=by kernel_rfl
theorem k_me:Tryz.prog.mayEnter=true:=by kernel_rfl
theorem k_lf:Tryz.prog.liftsFinal=Rows.threeTurnsRow.lifted:=by kernel_rfl
theorem closed0:joinedFacts Tryz.prog 3 Tryz.f3 Rows.threeTurnsSpec Rows.threeTurnsRow=true:=by
 unfold joinedFacts;rw[k_wf,jm,k_mr,k_rr,k_ip,k_uf,k_rc,k_vn,k_pk,k_sh,k_me,k_lf];simp only[beq_self_eq_true,Bool.true_and,Bool.and_true]
 kernel_rfl
theorem closed:joinedFacts Tryz.pinned.checked.prog 3 Tryz.f3 (OpenSpec.ofChange Rows.threeTurnsSpec).bare Rows.threeTurnsRow=true:=closed0
theorem isInst:Tryz.f3.isInstance Tryz.pinned.checked.prog Rows.threeTurnsRow.origin Rows.threeTurnsRow.targs:=of_decide_eq_true (by kernel_rfl)
theorem isWrap:Tryz.f3.isWrapper Tryz.pinned.checked.prog Rows.threeTurnsRow.wrapper Rows.threeTurnsRow.mainSum:=by unfold Func.isWrapper;first | (rw[if_pos (by decide +kernel)];kernel_rfl) | (rw[if_neg (by decide +kernel)];exact⟨rfl,rfl⟩)
theorem said:Rows.ThreeTurnsSaid :=
 OpenClaim.holds_of_cond 3 Tryz.f3 rfl rfl rfl rfl rfl rfl rfl ⟨rfl,rfl,rfl,rfl,rfl⟩ rfl rfl rfl rfl rfl (by kernel_rfl) Tryz.func3 closed
  isInst isWrap
  (fun c a H b _ F=>by rw[OpenClaim.pre_eq_preRow];exact lifted c a H b F)
theorem plain (f : FuncId) (a : Func) (e : Tryz.pinned.checked.prog.funcNamed "marline/marlaw17.ThreeTurns" = some f) (b : Tryz.pinned.checked.prog.funcs[f]? = some a) :
  false=Tryz.pinned.checked.prog.looks []/\∀(j:Nat) t,a.params[j]? = some t->Tryz.pinned.checked.prog.wantsStandIn t=false:=by
 obtain rfl : f = 3 := Option.some.inj ((show Tryz.prog.funcNamed "marline/marlaw17.ThreeTurns" = some 3 by kernel_rfl).symm.trans e) |>.symm;obtain rfl:a=Tryz.f3:=(Option.some.inj (Tryz.func3.symm.trans b)).symm;refine⟨by kernel_rfl,fun j t d=>?_⟩;rw[Tryz.params3]at d;have c:t∈[22,23,23,23]:=by simpa using Array.mem_of_getElem? d
 simp only[List.mem_cons,List.not_mem_nil,or_false]at c;rcases c with rfl | rfl | rfl | rfl
 .exact (show Tryz.prog.wantsStandIn 22=false by kernel_rfl)
 iterate 2
  .exact (show Tryz.prog.wantsStandIn 23=false by kernel_rfl)
 .exact (show Tryz.prog.wantsStandIn 23=false by kernel_rfl)
theorem card:Rows.ThreeTurnsCardSaid :=
 Claim7.holds_tied_plain_at .later [] _ _ _ _ said (fun _ h=>by cases h) (by kernel_rfl) (fun _ h=>by cases h) threeTurns_row_tie rfl ⟨rfl,rfl⟩ (by kernel_rfl) rfl plain (by kernel_rfl)
end threeTurns
end Go.Proofs.YtgfegpnmlkdjfaaGreatDoor
