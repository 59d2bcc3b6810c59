/- Contracts of the program's functions and plain laws behind the card. Conditions: as each theorem states. -/
import Derived.Test.YtgfegpnmlkdjfaaGreatDoorZbk
import Derived.Test.YtgfegpnmlkdjfaaGreatDoorZbn
set_option linter.unusedVariables false
set_option linter.unusedSimpArgs false
set_option linter.unusedSectionVars false
set_option maxRecDepth 100000
set_option maxHeartbeats 64000000
namespace Go.Proofs.YtgfegpnmlkdjfaaGreatDoor
section
open Go Go.RowKit Go.Sort
theorem wM {w:World} {go ga gb Z Y cb:Nat} {o a b:List B8} (ho:IsHd w go Z o) (ha:IsHd w ga Y a) (hb:IsHd w gb cb b) :
  Calls Tryz.prog 119 #[slL go o.length Z,slL ga a.length Y,slL gb b.length cb] w fun e w'=>ChunksR w w' o a b e/\Ext w w':=by
 have HO:Hid _:=ho;have HA:Hid _:=ha;have HB:Hid _:=hb;clear ho ha hb;unfold slL;go_enter Tryz.func119,Tryz.ntmps119;go_wp2_with fail;go_at_call 141;refine(rn _ _ o a w HO.out.1 HA.out.1).mono ?_;rintro e w1 ⟨X,b4⟩;have ad:Hid (Ext w w1):=b4;unfold MatchR at X
 by_cases J:200<o.length\/200<a.length
 case pos =>
  rw[if_pos J]at X;subst X;have a2:Hid (200<o.length\/200<a.length\/200<b.length):=by unfold Hid;omega
  clear J;go_wp2_with fail;go_ret2;exact⟨.bad a2.out rfl,ad.out⟩
 rw[if_neg J]at X;obtain⟨v1,rfl,b2⟩:=X;have bk:Hid _:=b2;clear b2 b4;go_wp2_with fail;go_at_call 141;refine(rn _ _ o b w1 (HO.out.ext ad.out).1 (HB.out.ext ad.out).1).mono ?_;rintro e w2 ⟨X,bb⟩;have b0:Hid (Ext w w2):=ad.out.trans bb;unfold MatchR at X
 by_cases F:200<o.length\/200<b.length
 case pos =>
  rw[if_pos F]at X;subst X;have a2:Hid (200<o.length\/200<a.length\/200<b.length):=by unfold Hid;omega
  clear J F;go_wp2_with fail;go_ret2;exact⟨.bad a2.out rfl,b0.out⟩
 rw[if_neg F]at X;obtain⟨v2,rfl,b3⟩:=X;have b':Hid (¬(200<o.length\/200<a.length\/200<b.length)):=by unfold Hid;omega
 have c5:o.length<=200:=by omega
 have cx:a.length<=200:=by omega
 have c0:b.length<=200:=by omega
 have ci:=fL o a 0 0;have cl:=fL o b 0 0;have bp:Hid (Row w2 v1 (aL o a 0 0).length ((aL o a 0 0).flatMap prC)):=Row.GW (az bk.out bb) (by omega);have bq:Hid (Row w2 v2 (aL o b 0 0).length ((aL o b 0 0).flatMap prC)):=Row.GW b3 (by omega);have au:Hid (∀p∈aL o a 0 0,p.1<o.length):=fun p hp=>by have:=(fM o a 0 0).hi p hp;omega
 have av:Hid (∀p∈aL o b 0 0,p.1<o.length):=fun p hp=>by have:=(fM o b 0 0).hi p hp;omega
 clear b3 bb J F ci cl bk;go_wp2_with fail;go_at_call 142;refine(pB o.length _ _ w2 bp.out au.out (by omega)).mono ?_;rintro e w3 ⟨g1,rfl,ag⟩;have bi:Hid _:=ag;have b1:Hid (Ext w2 w3):=ag.ext;have a0:Hid (Row w3 v2 (aL o b 0 0).length ((aL o b 0 0).flatMap prC)):=Row.ext bq.out ag.ext;clear ag;go_wp2_with fail;go_at_call 142;refine(pB o.length _ _ w3 a0.out av.out (by omega)).mono ?_;rintro e O ⟨g2,rfl,ai⟩;have z:Hid (Ext w O):=b0.out.trans (b1.out.trans ai.ext);have T:Hid (RowJ w2 O g1 o.length (plF o.length (aL o a 0 0))):=bi.out.more ai.ext;have a5:Hid _:=ai;have R:Hid (∀n,n<=o.length->qi o a b (bE o.length (aL o a 0 0)) (bE o.length (aL o b 0 0)) n (ck o a b n)/\fR (1000+n) (ck o a b n).1.out):=kW o a b (by omega) (by omega) (by omega);have a3:Hid (∀n,ck o a b (n+1)=dV o a b (bE o.length (aL o a 0 0)) (bE o.length (aL o b 0 0)) (ck o a b n) n):=ju o a b;have bm:Hid (Plc o.length a.length (bE o.length (aL o a 0 0))):=i' o a;have bo:Hid (Plc o.length b.length (bE o.length (aL o b 0 0))):=i' o b;unfold plF at T a5;obtain⟨p,hp⟩:∃p,bE o.length (aL o a 0 0)=p:=⟨_,rfl⟩;obtain⟨q,j⟩:∃p,bE o.length (aL o b 0 0)=p:=⟨_,rfl⟩;rw[hp]at T R a3 bm;rw[j]at a5 R a3 bo;clear ai hp j bi bp bq a0 au av;go_upto_region 9 with fail;obtain⟨w5,am⟩:∃w5,w5=O.alloc (.cells #[.slice (some ⟨go,0,none⟩) o.length Z,.slice (some ⟨ga,0,none⟩) a.length Y,.slice (some ⟨gb,0,none⟩) b.length cb,.int .i64 0,.int .i64 0,.int .i64 0,.slice none 0 0] 196):=⟨_,rfl⟩;have b5:Ext O w5:=by rw[am];exact(Ext.refl _).alloc _
 have a':w5.heap[O.heap.size]? = some (.cells #[.slice (some ⟨go,0,none⟩) o.length Z,.slice (some ⟨ga,0,none⟩) a.length Y,.slice (some ⟨gb,0,none⟩) b.length cb,.int .i64 0,.int .i64 0,.int .i64 0,.slice none 0 0] 196 (0,0)):=by rw[am];exact ah _ _
 rw[<-am];obtain⟨g,hg⟩:∃g,O.heap.size=g:=⟨_,rfl⟩;rw[hg]at a' ⊢;have bs:Hid (IsWk O w5 g (slL go o.length Z) (slL ga a.length Y) (slL gb b.length cb) (.slice none 0 0) ⟨0,0,0,[]⟩ []):=⟨a',World.ownsRow_nil _ _ _ _,rfl,fun x hx=>(by cases hx),Nat.le_of_eq hg,b5⟩;clear am b5 a' hg;go_wp2_with fail;go_loopw [14,49] (fun gr i wr=>∃(n:Nat) (B:Bool) (l:Value) (s:Wk) (L:List Cv),n<=o.length/\i=.int .i64 n/\gr=.bool B/\Hid (ck o a b n=(s,B))/\Hid (IsWk O wr g (slL go o.length Z) (slL ga a.length Y) (slL gb b.length cb) l s L)/\Hid (B=true->∃ws N x,L=N++[x]/\Grow O ws wr N x)) (fun _ i _=>o.length - (intOf i).toNat)
 case atStart=>exact⟨0,false,_,_,_,Nat.zero_le _,rfl,rfl,rfl,bs.out,fun h=>by cases h⟩
 case round =>
 clear bs;obtain⟨n,B,l,s,L,hn,rfl,rfl,S,P,HG⟩:=hrel;have ao:Hid (L.length<=2*n):=by
  have Q:=(R.out n hn).1.len;rw[S.out]at Q;rw[Hid,P.out.len];exact Q
 by_cases c4:(n:Int)<(o.length:Int)
 case neg =>
  obtain rfl:n=o.length:=by omega
  have y:=(R.out _ hn).1;rw[S.out]at y;have k1:=y.i;have k2:=y.j;have k3:=y.k;have cf:=ao.out;have bh:Hid (dB o a b=(toW o a b s o.length a.length b.length).out):=by unfold Hid dB;rw[S.out]
  clear y;go_wp2_with fail;go_at_call 143;refine(zR o.length a.length b.length P.out (HO.out.ext z.out) (HA.out.ext z.out) (HB.out.ext z.out) ⟨k1,Nat.le_refl _⟩ ⟨k2,Nat.le_refl _⟩ ⟨k3,Nat.le_refl _⟩ (by omega) (by omega) (by omega) (by omega)).mono ?_;rintro e w9 ⟨rfl,r,N,H⟩;have I:Hid _:=H;have y6:w9.cell? ⟨g,6,none⟩=some r:=(cell_of_row _ _ 6 _ _ _ H.row).trans rfl;clear H;go_wp2_with fail;go_ret2;exact⟨.Ht b'.out rfl (World.ownsRow.mono I.out.out z.out.size) I.out.rd (by rw[bh.out];exact I.out.eq),z.out.trans I.out.ext⟩
 have C:n<o.length:=by omega
 have y:Hid (qi o a b p q n (s,B)/\fR (1000+n) s.out):=by
  have Q:=R.out n hn;rw[S.out]at Q;exact Q
 have M:Hid (ck o a b (n+1)=dV o a b p q (s,B) n):=by
  have Q:=a3.out n;rw[S.out]at Q;exact Q
 have y1:=P.out.ext.cell (T.out.cell C);have y2:=P.out.ext.cell (a5.out.cell C);obtain⟨pn,a7⟩:∃v,p.getD n (-1)=v:=⟨_,rfl⟩;obtain⟨qn,a9⟩:∃v,q.getD n (-1)=v:=⟨_,rfl⟩;have U:Hid _:=a7;have V:Hid _:=a9;rw[a7]at y1;rw[a9]at y2;clear a7 a9
 by_cases Q:pn<0
 case pos =>
  have K:Hid (ck o a b (n+1)=(s,B)):=by
   unfold Hid;rw[M.out];unfold dV;rw[if_pos (.inl (by rw[U.out];exact Q))]
  go_wp2_with fail;go_roundw
  case rel=>exact⟨n+1,B,l,s,L,by omega,by go_num,rfl,K.out,P.out,HG.out⟩
  case measure=>simp[intOf] <;> omega
 by_cases h2:qn<0
 case pos =>
  have K:Hid (ck o a b (n+1)=(s,B)):=by
   unfold Hid;rw[M.out];unfold dV;rw[if_pos (.inr (by rw[V.out];exact h2))]
  go_wp2_with fail;go_roundw
  case rel=>exact⟨n+1,B,l,s,L,by omega,by go_num,rfl,K.out,P.out,HG.out⟩
  case measure=>simp[intOf] <;> omega
 have cm:=bm.out.hi n C;have cp:=bo.out.hi n C;rw[U.out]at cm;rw[V.out]at cp;have kj:=y.out.1.pj n (Nat.le_refl _) C (by rw[U.out];omega);have kk:=y.out.1.qk n (Nat.le_refl _) C (by rw[V.out];omega);have ki:=y.out.1.i;rw[U.out]at kj;rw[V.out]at kk;obtain⟨t,rfl⟩:∃t:Nat,pn=(t:Int):=⟨pn.toNat,by omega⟩;obtain⟨D,rfl⟩:∃D:Nat,qn=(D:Int):=⟨qn.toNat,by omega⟩;have aa:Hid (ck o a b (n+1)=if s.i<n\/(s.j:Int)<(t:Int)\/(s.k:Int)<(D:Int)then(eQ o (toW o a b s n t D) false,true)else(eQ o s B,true)):=by
  unfold Hid;rw[M.out];unfold dV;dsimp only;rw[U.out,V.out,if_neg (by omega),Int.toNat_natCast,Int.toNat_natCast]
 obtain⟨k,u,E,d⟩:=s;dsimp only at kj kk ki aa;have y3:wr.cell? ⟨g,3,none⟩=some (.int .i64 k):=(cell_of_row _ _ 3 _ _ _ P.out.row).trans rfl;have y4:wr.cell? ⟨g,4,none⟩=some (.int .i64 u):=(cell_of_row _ _ 4 _ _ _ P.out.row).trans rfl;have y5:wr.cell? ⟨g,5,none⟩=some (.int .i64 E):=(cell_of_row _ _ 5 _ _ _ P.out.row).trans rfl;have cf:=ao.out;have a6:=y.out.2;have a1:∀c∈d,c.o.length<=5000/\c.a.length<=5000/\c.b.length<=5000:=fun c hc=>by
  have:=a6 c hc;omega
 have b8:Hid _:=a1;have bc:Hid (fR 1200 d):=fun c hc=>by
  have:=a6 c hc;omega
 have cs:u<=t:=by omega
 have cu:E<=D:=by omega
 have cq:k<=n:=ki;clear kj kk ki a6 a1;have h4:(k:Int)<(n:Int)\/(¬(k:Int)<(n:Int)/\(u:Int)<(t:Int))\/(¬(k:Int)<(n:Int)/\¬(u:Int)<(t:Int)/\(E:Int)<(D:Int))\/(¬(k:Int)<(n:Int)/\¬(u:Int)<(t:Int)/\¬(E:Int)<(D:Int)):=by omega
 rcases h4 with c1 | ⟨c1,c2⟩ | ⟨c1,c2,c3⟩ | ⟨c1,c2,c3⟩
 case inr.inr.inr =>
  have K:Hid (ck o a b (n+1)=(eQ o ⟨k,u,E,d⟩ B,true)):=by
   unfold Hid;rw[aa.out,if_neg (by omega)]
  go_upto_region 14 with fail;apply ak 28 [_,_,_,_,.int .i64 k,.bool false,_,_,_,_,.int .i64 t,_,_,_,.int .i64 u,.bool false,.bool false,.bool false,_,_,_,.int .i64 D,_,_,_,.int .i64 E,.bool false,.bool false] [none,none,none,none,none,none,none,none,none,none,none,none,none,none,none,none,none,none,none,none,none,none,none,none,none,none,none,none] [[],[],[1],[2],[3],[0,4],[5],[6],[6],[6,7,8],[6,9],[6],[6,11],[6,12],[6,13],[6,10,14],[6,15],[16],[17],[17],[17,18,19],[17,20],[17],[17,22],[17,23],[17,24],[17,21,25],[17,26]] (by kernel_rfl) (by kernel_rfl) (by simp[aq])
  .trivial
  .simp (maxSteps:=1000000)only[List.take_succ_cons,List.take_zero,ay,aB,af,Act.put,List.setIfInBounds_toArray,List.set_cons_zero,List.set_cons_succ,aE,aH,aq,List.getD_cons_zero,List.getD_cons_succ,and_true,true_and,forall_const];and_intros
   iterate 28 · intro xs wq j;intros;rename_i hR;have f1:=j.cell y1;have f2:=j.cell y2;have f3:=j.cell y3;have f4:=j.cell y4;have f5:=j.cell y5;go_simp;exact hR _ _ (Ext.refl _) rfl
  intro xs w6 A G;simp only[aG,Nat.zero_add,Nat.reduceAdd,and_true]at G;simp(maxSteps:=1000000)only[List.take_succ_cons,List.take_zero,List.drop_succ_cons,List.drop_zero,af,Act.put,List.setIfInBounds_toArray,List.set_cons_zero,List.set_cons_succ,Nat.zero_add,Nat.reduceAdd,G];clear G;have ab:Hid (IsWk O w6 g (slL go o.length Z) (slL ga a.length Y) (slL gb b.length cb) l ⟨k,u,E,d⟩ L):=P.out.more A;have b9:Hid (B=true->∃ws N x,L=N++[x]/\Grow O ws w6 N x):=fun e=>by
   obtain⟨ws,N,x,Q,h2⟩:=HG.out e;exact⟨ws,N,x,Q,h2.more A⟩
  clear y1 y2 y3 y4 y5 A;go_wp2_with fail;go_at_call 144;refine(ug B ab.out (HO.out.ext z.out) (by show k<_;omega) ⟨by show k<=_;omega,by show u<=_;omega,by show E<=_;omega⟩ (by omega) (by omega) b8.out b9.out).mono ?_;rintro e w9 ⟨rfl,r,ws,N,x,H,W⟩;have I:Hid _:=H;have a4:Hid _:=W;clear H W;go_wp2_with fail;go_roundw
  case rel =>
   refine⟨n+1,true,r,eQ o ⟨k,u,E,d⟩ B,N++[x],by omega,by go_num,rfl,?_,?_,?_⟩
   .exact K
   .exact I.out
   .exact fun _=>⟨ws,N,x,rfl,a4.out⟩
  case measure=>simp[intOf] <;> omega
 case' inl =>
  have hc:k<n\/(u:Int)<(t:Int)\/(E:Int)<(D:Int):=.inl (by omega);go_upto_region 14 with fail;apply ak 28 [_,_,_,_,.int .i64 k,.bool true,_,_,_,_,_,_,_,_,_,_,.bool true,_,_,_,_,_,_,_,_,_,_,.bool true] [none,none,none,none,none,none,none,none,none,none,none,none,none,none,none,none,none,none,none,none,none,none,none,none,none,none,none,none] [[],[],[1],[2],[3],[0,4],[5],[6],[6],[6,7,8],[6,9],[6],[6,11],[6,12],[6,13],[6,10,14],[6,15],[16],[17],[17],[17,18,19],[17,20],[17],[17,22],[17,23],[17,24],[17,21,25],[17,26]] (by kernel_rfl) (by kernel_rfl) (by simp[aq])
  .trivial
  .simp (maxSteps:=1000000)only[List.take_succ_cons,List.take_zero,ay,aB,af,Act.put,List.setIfInBounds_toArray,List.set_cons_zero,List.set_cons_succ,aE,aH,aq,List.getD_cons_zero,List.getD_cons_succ,and_true,true_and,forall_const];and_intros
   iterate 28 · intro xs wq j;intros;rename_i hR;have f1:=j.cell y1;have f2:=j.cell y2;have f3:=j.cell y3;have f4:=j.cell y4;have f5:=j.cell y5;go_simp;exact hR _ _ (Ext.refl _) rfl
  intro xs w6 A G;simp only[aG,Nat.zero_add,Nat.reduceAdd,and_true]at G;simp(maxSteps:=1000000)only[List.take_succ_cons,List.take_zero,List.drop_succ_cons,List.drop_zero,af,Act.put,List.setIfInBounds_toArray,List.set_cons_zero,List.set_cons_succ,Nat.zero_add,Nat.reduceAdd,G];clear G;clear c1
 case' inr.inl =>
  have hc:k<n\/(u:Int)<(t:Int)\/(E:Int)<(D:Int):=.inr (.inl c2);go_upto_region 14 with fail;apply ak 28 [_,_,_,_,.int .i64 k,.bool false,_,_,_,_,.int .i64 t,_,_,_,.int .i64 u,.bool true,.bool true,.bool true,_,_,_,_,_,_,_,_,_,.bool true] [none,none,none,none,none,none,none,none,none,none,none,none,none,none,none,none,none,none,none,none,none,none,none,none,none,none,none,none] [[],[],[1],[2],[3],[0,4],[5],[6],[6],[6,7,8],[6,9],[6],[6,11],[6,12],[6,13],[6,10,14],[6,15],[16],[17],[17],[17,18,19],[17,20],[17],[17,22],[17,23],[17,24],[17,21,25],[17,26]] (by kernel_rfl) (by kernel_rfl) (by simp[aq])
  .trivial
  .simp (maxSteps:=1000000)only[List.take_succ_cons,List.take_zero,ay,aB,af,Act.put,List.setIfInBounds_toArray,List.set_cons_zero,List.set_cons_succ,aE,aH,aq,List.getD_cons_zero,List.getD_cons_succ,and_true,true_and,forall_const];and_intros
   iterate 28 · intro xs wq j;intros;rename_i hR;have f1:=j.cell y1;have f2:=j.cell y2;have f3:=j.cell y3;have f4:=j.cell y4;have f5:=j.cell y5;go_simp;exact hR _ _ (Ext.refl _) rfl
  intro xs w6 A G;simp only[aG,Nat.zero_add,Nat.reduceAdd,and_true]at G;simp(maxSteps:=1000000)only[List.take_succ_cons,List.take_zero,List.drop_succ_cons,List.drop_zero,af,Act.put,List.setIfInBounds_toArray,List.set_cons_zero,List.set_cons_succ,Nat.zero_add,Nat.reduceAdd,G];clear G;clear c1 c2
 case' inr.inr.inl =>
  have hc:k<n\/(u:Int)<(t:Int)\/(E:Int)<(D:Int):=.inr (.inr c3);go_upto_region 14 with fail;apply ak 28 [_,_,_,_,.int .i64 k,.bool false,_,_,_,_,.int .i64 t,_,_,_,.int .i64 u,.bool false,.bool false,.bool false,_,_,_,.int .i64 D,_,_,_,.int .i64 E,.bool true,.bool true] [none,none,none,none,none,none,none,none,none,none,none,none,none,none,none,none,none,none,none,none,none,none,none,none,none,none,none,none] [[],[],[1],[2],[3],[0,4],[5],[6],[6],[6,7,8],[6,9],[6],[6,11],[6,12],[6,13],[6,10,14],[6,15],[16],[17],[17],[17,18,19],[17,20],[17],[17,22],[17,23],[17,24],[17,21,25],[17,26]] (by kernel_rfl) (by kernel_rfl) (by simp[aq])
  .trivial
  .simp (maxSteps:=1000000)only[List.take_succ_cons,List.take_zero,ay,aB,af,Act.put,List.setIfInBounds_toArray,List.set_cons_zero,List.set_cons_succ,aE,aH,aq,List.getD_cons_zero,List.getD_cons_succ,and_true,true_and,forall_const];and_intros
   iterate 28 · intro xs wq j;intros;rename_i hR;have f1:=j.cell y1;have f2:=j.cell y2;have f3:=j.cell y3;have f4:=j.cell y4;have f5:=j.cell y5;go_simp;exact hR _ _ (Ext.refl _) rfl
  intro xs w6 A G;simp only[aG,Nat.zero_add,Nat.reduceAdd,and_true]at G;simp(maxSteps:=1000000)only[List.take_succ_cons,List.take_zero,List.drop_succ_cons,List.drop_zero,af,Act.put,List.setIfInBounds_toArray,List.set_cons_zero,List.set_cons_succ,Nat.zero_add,Nat.reduceAdd,G];clear G;clear c1 c2 c3
 all_goals
  have K:Hid (ck o a b (n+1)=(eQ o (toW o a b ⟨k,u,E,d⟩ n t D) false,true)):=by
   unfold Hid;rw[aa.out,if_pos hc]
  have ab:Hid (IsWk O w6 g (slL go o.length Z) (slL ga a.length Y) (slL gb b.length cb) l ⟨k,u,E,d⟩ L):=P.out.more A;have z1:=A.cell y1;have z2:=A.cell y2;clear y1 y2 y3 y4 y5 A hc aa HG P;go_upto_region 15 with fail;apply ak 10 [_,_,_,_,_,.int .i64 t,_,_,_,.int .i64 D] [none,none,none,none,none,none,none,none,none,none] [[],[],[],[],[2,3],[4],[],[],[6,7],[8]] (by kernel_rfl) (by kernel_rfl) (by simp[aq])
  .trivial
  .simp (maxSteps:=1000000)only[List.take_succ_cons,List.take_zero,ay,aB,af,Act.put,List.setIfInBounds_toArray,List.set_cons_zero,List.set_cons_succ,aE,aH,aq,List.getD_cons_zero,List.getD_cons_succ,and_true,true_and,forall_const];and_intros
   iterate 10 · intro xs wq j;intros;rename_i hR;have f1:=j.cell z1;have f2:=j.cell z2;go_simp;exact hR _ _ (Ext.refl _) rfl
  intro xs w7 b6 G;simp only[aG,Nat.zero_add,Nat.reduceAdd,and_true]at G;simp(maxSteps:=1000000)only[List.take_succ_cons,List.take_zero,List.drop_succ_cons,List.drop_zero,af,Act.put,List.setIfInBounds_toArray,List.set_cons_zero,List.set_cons_succ,Nat.zero_add,Nat.reduceAdd,G];clear G;have bv:Hid (IsWk O w7 g (slL go o.length Z) (slL ga a.length Y) (slL gb b.length cb) l ⟨k,u,E,d⟩ L):=ab.out.more b6;clear z1 z2 b6 ab;go_wp2_with fail;go_at_call 143;refine(zR n t D bv.out (HO.out.ext z.out) (HA.out.ext z.out) (HB.out.ext z.out) ⟨cq,by omega⟩ ⟨cs,by omega⟩ ⟨cu,by omega⟩ (by omega) (by omega) (by omega) (by omega)).mono ?_;rintro e w8 ⟨rfl,cv,L8,ba⟩;have cc:Hid (IsWk O w8 g (slL go o.length Z) (slL ga a.length Y) (slL gb b.length cb) cv (toW o a b ⟨k,u,E,d⟩ n t D) L8):=ba;have b7:Hid (fR 1200 (toW o a b ⟨k,u,E,d⟩ n t D).out):=qr bc.out (by omega) (by omega) (by omega) _ _ _;have ce:L8.length<=10000:=by
   have e1:=ba.len;have e2:=qO o a b ⟨k,u,E,d⟩ n t D;have e3:=bv.out.len;dsimp only at e2 e3;omega
  clear ba;go_wp2_with fail;go_at_call 144;refine(ug false cc.out (HO.out.ext z.out) (by show n<_;omega) ⟨by show n<=_;omega,by show t<=_;omega,by show D<=_;omega⟩ (by omega) ce (fun c hc=>by have:=b7.out c hc;omega) (fun h=>by cases h)).mono ?_;rintro e w9 ⟨rfl,r,ws,N,x,H,W⟩;have I:Hid _:=H;have a4:Hid _:=W;clear H W;go_wp2_with fail;go_roundw
  case rel =>
   refine⟨n+1,true,r,eQ o (toW o a b ⟨k,u,E,d⟩ n t D) false,N++[x],by omega,by go_num,rfl,?_,?_,?_⟩
   .exact K
   .exact I.out
   .exact fun _=>⟨ws,N,x,rfl,a4.out⟩
  case measure=>simp[intOf] <;> omega
end
section
open Go Go.RowKit Go.Sort
variable {w:World} {L:List Cv}
theorem Cg {v:Value} (h:Row w v L.length (L.flatMap cvC)):∃a c,v=.slice a L.length c/\L.length<=c/\L.length<=140737488355328/\c<=9223372036854775807 /\
  ∀(k:Nat) x,L[k]? = some x->∃b o,a=some ⟨b,o,none⟩/\w.cell? ⟨b,o+k*4,none⟩=some (.int .i64 x.c.k)/\w.cell? ⟨b,o+k*4+1,none⟩=some x.o/\w.cell? ⟨b,o+k*4+2,none⟩=some x.a/\w.cell? ⟨b,o+k*4+3,none⟩=some x.b:=by
 obtain⟨a,c,rfl,p,q,r,t⟩:=h;refine⟨a,c,rfl,p,r,q,fun k x e=>?_⟩;have g:=iY cvC 4 (fun _=>rfl) L k 0 x e (by omega);have i:=iY cvC 4 (fun _=>rfl) L k 1 x e (by omega);have j:=iY cvC 4 (fun _=>rfl) L k 2 x e (by omega);have l:=iY cvC 4 (fun _=>rfl) L k 3 x e (by omega);obtain⟨b,o,u,d⟩:=t (fun n=>by rw[n]at g;simp[cvC]at g);exact⟨b,o,u,d _ _ g,by have:=d _ _ i;rwa [<-Nat.add_assoc]at this,by have:=d _ _ j;rwa [<-Nat.add_assoc]at this,by have:=d _ _ l;rwa [<-Nat.add_assoc]at this⟩
def dD (L:List Cv) (k:Nat):Option (List B8):=gP ((L.drop k).map Cv.c)
theorem yT (L:List Cv):dD L L.length=some []:=by unfold dD;rw[List.drop_length];rfl
variable {k:Nat} {x:Cv}
theorem o8 (h:L[k]? = some x):dD L k=(eI x.c).bind fun y=>(dD L (k+1)).map (y ++ ·):=by
 obtain⟨a,rfl⟩:=List.getElem?_eq_some_iff.1 h;unfold dD;rw[List.drop_eq_getElem_cons a];rfl
theorem pd {a y:List B8} {R:Option (List B8)} (h:L[k]? = some x) (b:eI x.c=some y) (c:R=(dD L k).map (a ++ ·)):R=(dD L (k+1)).map ((a++y) ++ ·):=by
 rw[c,o8 h,b]
 cases dD L (k+1)with
 | none=>rfl
 | some z=>simp
def u9 (w:World):Option B8->Ending->Prop
 | none,e=>∃k,e=.returned (.tuple #[.slice none 0 0,.bool false,.int .i64 k])
 | some d,e=>∃a c,e=.returned (.tuple #[.slice a d.length c,.bool true,.int .i64 0])/\IsBytes w (.slice a d.length c) d/\TypB w (.slice a d.length c)
theorem xr {vo va vb:Value} {o a b:B8} (hE:Env w) (ho:IsBytes w vo o) (ha:IsBytes w va a) (hb:IsBytes w vb b) (c7:o.length<=1000000) (cs:a.length<=1000000) (cv:b.length<=1000000) :
  Calls Tryz.prog 91 #[vo,va,vb] w fun e U=>u9 U (dH o a b) e/\Ext w U:=by
 have HE:Hid _:=hE;have HO:Hid _:=ho;have HA:Hid _:=ha;have HB:Hid _:=hb;obtain⟨R,hR⟩:∃R,dH o a b=R:=⟨_,rfl⟩;have HR:Hid _:=hR;rw[hR];clear hE ho ha hb hR;go_enter Tryz.func91,Tryz.ntmps91;go_wp2_with fail;go_at_call 118;refine(mK _ o w HO.out).mono ?_;obtain⟨c1,h1⟩:∃c,decide ((0:UInt8)∈o)=c:=⟨_,rfl⟩;rw[h1];have H1:Hid _:=h1;clear h1;rintro e N ⟨rfl,rfl⟩;obtain⟨w,rfl⟩:∃U:World,U=N:=⟨_,rfl⟩
 cases c1 with
 | true =>
  have j:Hid (R=none):=by
   unfold Hid;rw[<-HR.out];unfold dH;rw[if_pos (.inl (by simpa using H1.out))]
  go_wp2_with fail;go_ret3;exact⟨by rw[j.out];exact⟨_,rfl⟩,Ext.refl _⟩
 | false =>
 go_wp2_with fail;go_at_call 118;refine(mK _ a w HA.out).mono ?_;obtain⟨c2,h2⟩:∃c,decide ((0:UInt8)∈a)=c:=⟨_,rfl⟩;rw[h2];have H2:Hid _:=h2;clear h2;rintro e N ⟨rfl,rfl⟩;obtain⟨w,rfl⟩:∃U:World,U=N:=⟨_,rfl⟩
 cases c2 with
 | true =>
  have j:Hid (R=none):=by
   unfold Hid;rw[<-HR.out];unfold dH;rw[if_pos (.inr (.inl (by simpa using H2.out)))]
  go_wp2_with fail;go_ret3;exact⟨by rw[j.out];exact⟨_,rfl⟩,Ext.refl _⟩
 | false =>
 go_wp2_with fail;go_at_call 118;refine(mK _ b w HB.out).mono ?_;obtain⟨c3,S⟩:∃c,decide ((0:UInt8)∈b)=c:=⟨_,rfl⟩;rw[S];have H3:Hid _:=S;clear S;rintro e N ⟨rfl,rfl⟩;obtain⟨w,rfl⟩:∃U:World,U=N:=⟨_,rfl⟩
 cases c3 with
 | true =>
  have j:Hid (R=none):=by
   unfold Hid;rw[<-HR.out];unfold dH;rw[if_pos (.inr (.inr (by simpa using H3.out)))]
  go_wp2_with fail;go_ret3;exact⟨by rw[j.out];exact⟨_,rfl⟩,Ext.refl _⟩
 | false =>
 have z:Hid (R=if 200<(aS o).length\/200<(aS a).length\/200<(aS b).length then none else(gP (dB (aS o) (aS a) (aS b))).map List.flatten):=by
  unfold Hid;rw[<-HR.out];unfold dH;rw[if_neg (by
   have e1:=H1.out;have e2:=H2.out;have e3:=H3.out;simp at e1 e2 e3;simp[e1,e2,e3])]
 have X:Hid (eZ 1000000 (aS o)):=fun x p=>Nat.le_trans (lj o x p) c7
 have V:Hid (eZ 1000000 (aS a)):=fun x p=>Nat.le_trans (lj a x p) cs
 have W:Hid (eZ 1000000 (aS b)):=fun x p=>Nat.le_trans (lj b x p) cv
 go_wp2_with fail;go_at_call 120;refine(lD _ o w HE.out HO.out (by omega)).mono ?_;rintro e N ⟨⟨g1,k1,rfl,b3,b6⟩,b'⟩;have ag:Hid (Ext w N):=b';have bh:Hid (IsHd N g1 k1 (aS o)):=⟨b3,b6⟩;clear b3 b6 b';go_wp2_with fail;go_at_call 120;refine(lD _ a N (HE.out.ext ag.out) (Row.ext HA.out ag.out) (by omega)).mono ?_;rintro e w2 ⟨⟨g2,k2,rfl,b4,b7⟩,a6⟩;have ai:Hid (Ext w w2):=ag.out.trans a6;have O:Hid (IsHd w2 g1 k1 (aS o)):=bh.out.ext a6;have bi:Hid (IsHd w2 g2 k2 (aS a)):=⟨b4,b7⟩;clear b4 b7 a6 bh;go_wp2_with fail;go_at_call 120;refine(lD _ b w2 (HE.out.ext ai.out) (Row.ext HB.out ai.out) (by omega)).mono ?_;rintro e w3 ⟨⟨g3,k3,rfl,b5,b8⟩,K⟩;have cp:Hid (Ext w w3):=ai.out.trans K;have P:Hid (IsHd w3 g1 k1 (aS o)):=O.out.ext K;have Q:Hid (IsHd w3 g2 k2 (aS a)):=bi.out.ext K;have bk:Hid (IsHd w3 g3 k3 (aS b)):=⟨b5,b8⟩;clear b5 b8 K O bi;obtain⟨lo,a5⟩:∃l,aS o=l:=⟨_,rfl⟩;obtain⟨la,a0⟩:∃l,aS a=l:=⟨_,rfl⟩;obtain⟨lb,a4⟩:∃l,aS b=l:=⟨_,rfl⟩;rw[a5]at P z X;rw[a0]at Q z V;rw[a4]at bk z W;rw[a5,a0,a4];clear a5 a0 a4 HR;go_wp2_with fail;go_at_call 119;refine(wM P.out Q.out bk.out).mono ?_;rintro e u ⟨hc,ca⟩;have am:Hid (Ext w u):=cp.out.trans ca;unfold ChunksR at hc
 by_cases h:200<lo.length\/200<la.length\/200<lb.length
 case pos =>
  rw[if_pos h]at hc;subst hc;have j:Hid (R=none):=by unfold Hid;rw[z.out,if_pos h]
  clear h;go_wp2_with fail;go_ret3;exact⟨by rw[j.out];exact⟨_,rfl⟩,am.out⟩
 rw[if_neg h]at hc;obtain⟨vc,L,rfl,bv,b2,C⟩:=hc;have ba:Hid (R=(dD L 0).map List.flatten):=by
  unfold Hid dD;rw[z.out,if_neg h,List.drop_zero,C]
 obtain⟨cu,bm,au⟩:=oT X.out V.out W.out (by omega) (by omega) (by omega);have dc:L.length<=401:=by
  rw[<-C,List.length_map]at au;exact au
 have ce:Hid (∀x,dD L 0=some x->x.length<=1000000/\x.flatten.length<=1000000000000):=fun x p=>by
  unfold dD at p;rw[List.drop_zero,C]at p;exact xt X.out V.out W.out (by omega) (by omega) (by omega) p
 have a':Hid (∀x∈L,x.c.a.length<=1200/\x.c.b.length<=1200):=fun x p=>by
  have:=bm x.c (by rw[<-C];exact List.mem_map_of_mem p);omega
 have T:Row u vc L.length (L.flatMap cvC):=Row.GW bv (by omega);obtain⟨dp,da,rfl,l1,l2,l3,hg⟩:=Cg T;have HG:Hid _:=hg;have cl:Hid _:=b2;clear bv b2 C cu bm au T hg ca z h;go_wp2_with fail;go_loopw [11,42] (fun v i wr=>∃(k:Nat) (d:List B8),k<=L.length/\i=.int .i64 k/\Hid (wr.ownsRow u.heap.size 9 1 v d.length (d.map S8))/\Hid (dD L 0=(dD L k).map (d ++ ·))/\d.length<=1200*k/\Hid (Ext u wr)) (fun _ i _=>L.length - (intOf i).toNat)
 case atStart=>exact⟨0,[],Nat.zero_le _,rfl,World.ownsRow_nil _ _ _ _,by unfold Hid;cases dD L 0 <;> simp,Nat.zero_le _,Ext.refl _⟩
 case round =>
 obtain⟨k,d,hk,rfl,ab,H,c',t⟩:=hrel
 by_cases dk:(k:Int)<(L.length:Int)
 case neg =>
  obtain rfl:k=L.length:=by omega
  have hj:dD L 0=some d:=by rw[H.out,yT];simp
  have bc:Hid (R=some d.flatten):=by unfold Hid;rw[ba.out,hj];rfl
  obtain⟨dn,c8⟩:=ce.out d hj;have cm:Hid (IsStrs wr u11 d):=Row.GW ab.out (by omega);clear hj;go_wp2_with fail;go_at_call 121;refine(yS _ d wr cm.out (by omega) c8).mono ?_;obtain⟨F,hF⟩:∃F,d.flatten=F:=⟨_,rfl⟩;rw[hF]at bc ⊢;clear hF;rintro e w9 ⟨⟨a9,c9,rfl,bo,b9⟩,cb⟩;have cc:Hid _:=bo;have co:Hid _:=b9;have cq:Hid (Ext w w9):=am.out.trans (t.out.trans cb);clear bo b9 cb;go_wp2_with fail;go_ret3;exact⟨by rw[bc.out];exact⟨_,_,rfl,cc.out,co.out⟩,cq.out⟩
 have c5:k<L.length:=by omega
 obtain⟨x,p⟩:∃x,L[k]? = some x:=⟨_,List.getElem?_eq_getElem c5⟩;have HX:Hid _:=p;obtain⟨bb,oo,rfl,d0,d1,d2,d3⟩:=HG.out k x p;have A:=cl.out x (List.mem_of_getElem? p);obtain⟨a1,c1,e1,-⟩:=id A.o.1;obtain⟨a2,c2,e2,-⟩:=id A.a.1;obtain⟨a3,c3,e3,-⟩:=id A.b.1;have y0:=t.out.cell d0;have y1:=t.out.cell d1;have y2:=t.out.cell d2;have y3:=t.out.cell d3;rw[e1]at y1;rw[e2]at y2;rw[e3]at y3;have b0:IsStrs u (.slice a2 x.c.a.length c2) x.c.a:=by rw[<-e2];exact A.a.1
 have b1:IsStrs u (.slice a3 x.c.b.length c3) x.c.b:=by rw[<-e3];exact A.b.1
 obtain⟨M,av⟩:∃v,x.c.k=v:=⟨_,rfl⟩;have Z:Hid _:=av;rw[av]at y0;clear d0 d1 d2 d3 A e1 e2 e3 p av;obtain⟨n1,c6⟩:∃n,x.c.o.length=n:=⟨_,rfl⟩;obtain⟨n2,bq⟩:∃n,x.c.a.length=n:=⟨_,rfl⟩;obtain⟨n3,bs⟩:∃n,x.c.b.length=n:=⟨_,rfl⟩;rw[c6]at y1;rw[bq]at y2;rw[bs]at y3;go_upto_region 10 with fail;obtain⟨B,J⟩:∃B,B=wr.alloc (.cells #[.int .i64 M,.slice a1 n1 c1,.slice a2 n2 c2,.slice a3 n3 c3] 168):=⟨_,rfl⟩;have a7:Ext wr B:=by rw[J];exact(Ext.refl _).alloc _
 have D:B.heap[wr.heap.size]? = some (.cells #[.int .i64 M,.slice a1 n1 c1,.slice a2 n2 c2,.slice a3 n3 c3] 168 (0,0)):=by rw[J];exact ah _ _
 rw[<-J];obtain⟨gi,bp⟩:∃q,wr.heap.size=q:=⟨_,rfl⟩;rw[bp]at D ⊢;have z0:B.cell? ⟨gi,0,none⟩=some (.int .i64 M):=(cell_of_row _ _ 0 _ _ _ D).trans rfl;have z2:B.cell? ⟨gi,2,none⟩=some (.slice a2 n2 c2):=(cell_of_row _ _ 2 _ _ _ D).trans rfl;have z3:B.cell? ⟨gi,3,none⟩=some (.slice a3 n3 c3):=(cell_of_row _ _ 3 _ _ _ D).trans rfl;have r:Hid (Ext u B):=t.out.trans a7;have I:Hid _:=az ab.out a7;have cf:Hid (Row B (.slice a2 n2 c2) x.c.a.length (x.c.a.map S8)):=by rw[<-bq];exact Row.ext b0 r.out
 have ci:Hid (Row B (.slice a3 n3 c3) x.c.b.length (x.c.b.map S8)):=by rw[<-bs];exact Row.ext b1 r.out
 clear J a7 D bp y0 y1 y2 y3 b0 b1 ab t
 by_cases h5:M=5
 case pos =>
  have c4:(M==5)=true:=by rw[h5];rfl
  have j:Hid (R=none):=by
   unfold Hid;rw[ba.out,H.out,o8 HX.out];unfold eI;rw[Z.out,if_pos h5];rfl
  clear h5;go_wp2_with fail;go_ret3;exact⟨by rw[j.out];exact⟨_,rfl⟩,am.out.trans r.out⟩
 have c4:(M==5)=false:=by rw[beq_eq_false_iff_ne];exact h5
 by_cases S:M=3
 case pos =>
  have c0:(M==3)=true:=by rw[S];rfl
  have ad:Hid (eI x.c=some x.c.b):=by
   unfold Hid eI;rw[Z.out,if_neg h5,if_pos S]
  have Y:Hid (dD L 0=(dD L (k+1)).map ((d++x.c.b) ++ ·)):=pd HX.out ad.out H.out;have cx:x.c.b.length<=1200:=(a'.out x (List.mem_of_getElem? HX.out)).2;have E:u.heap.size<=B.heap.size:=r.out.size
  go_wp2_with (at_builtin;go_must (refine gV 38 9 _ 1 16 Tryz.underlying38 eu rfl (by omega) rfl _ _ rfl rfl u.heap.size _ d.length _ rfl I.out _ x.c.b.length (x.c.b.map S8) rfl ci.out (by simp) (fun y hy=>by obtain⟨_,_,rfl⟩:=List.mem_map.1 hy;rfl) (by omega) (by omega) E ?_;intro v' w8 g G))
  have ao:Hid (Ext u w8):=aA r.out I.out G;have aa:Hid (w8.ownsRow u.heap.size 9 1 v' (d++x.c.b).length ((d++x.c.b).map S8)):=by
   unfold Hid;rw[List.length_append,List.map_append];exact g
  clear g G E;go_roundw
  case rel=>exact⟨k+1,d++x.c.b,by omega,by go_num,aa.out,Y,by rw[List.length_append];omega,ao.out⟩
  case measure=>simp[intOf] <;> omega
 case neg =>
  have c0:(M==3)=false:=by rw[beq_eq_false_iff_ne];exact S
  have ad:Hid (eI x.c=some x.c.a):=by
   unfold Hid eI;rw[Z.out,if_neg h5,if_neg S]
  have Y:Hid (dD L 0=(dD L (k+1)).map ((d++x.c.a) ++ ·)):=pd HX.out ad.out H.out;have cx:x.c.a.length<=1200:=(a'.out x (List.mem_of_getElem? HX.out)).1;have E:u.heap.size<=B.heap.size:=r.out.size
  go_wp2_with (at_builtin;go_must (refine gV 38 9 _ 1 16 Tryz.underlying38 eu rfl (by omega) rfl _ _ rfl rfl u.heap.size _ d.length _ rfl I.out _ x.c.a.length (x.c.a.map S8) rfl cf.out (by simp) (fun y hy=>by obtain⟨_,_,rfl⟩:=List.mem_map.1 hy;rfl) (by omega) (by omega) E ?_;intro v' w8 g G))
  have ao:Hid (Ext u w8):=aA r.out I.out G;have aa:Hid (w8.ownsRow u.heap.size 9 1 v' (d++x.c.a).length ((d++x.c.a).map S8)):=by
   unfold Hid;rw[List.length_append,List.map_append];exact g
  clear g G E;go_roundw
  case rel=>exact⟨k+1,d++x.c.a,by omega,by go_num,aa.out,Y,by rw[List.length_append];omega,ao.out⟩
  case measure=>simp[intOf] <;> omega
end
end Go.Proofs.YtgfegpnmlkdjfaaGreatDoor
