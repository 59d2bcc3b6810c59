/- Contracts of the program's functions and plain laws behind the card. Conditions: as each theorem states. -/
import Derived.Test.YtfabjgfmiaammaaGreatDoorYai
import Derived.Deep.DeepCutAuto
set_option linter.unusedVariables false
set_option linter.unusedSimpArgs false
set_option linter.unusedSectionVars false
set_option maxRecDepth 100000
set_option maxHeartbeats 64000000
namespace Go.Proofs.YtfabjgfmiaammaaGreatDoor
section
open Go Go.RowKit
theorem fQ (m:Nat):∀(a:List (List Value)) (k j:Nat) (c:List Value) (u:Value),(∀c∈a,c.length=m)->a[k]? = some c->c[j]? = some u->a.flatten[m*k+j]? = some u
 | [],k,j,c,u,_,b,_=>by simp at b
 | d::a,0,j,c,u,g,b,e=>by
  have:d=c:=by simpa using b
  subst this;simp only[List.flatten_cons,Nat.mul_zero,Nat.zero_add];rw[List.getElem?_append_left (List.getElem?_eq_some_iff.1 e).1];exact e
 | d::a,k+1,j,c,u,g,b,e=>by
  have i:=g d (by simp);have l:=fQ m a k j c u (fun c h=>g c (by simp[h])) (by simpa using b) e;simp only[List.flatten_cons];rw[List.getElem?_append_right (by rw[i,Nat.mul_add];omega),i];rw[show m*(k+1)+j - m=m*k+j by rw[Nat.mul_add];omega];exact l
variable {w:World} {c:Ch}
theorem IsCh.shape {R:Nat->Prop} {cs:List Value} (h:IsCh R w cs c):∃(p q:B8) (b:Bool) (mode time:Int) (a:Option Addr) (n e:Nat),cs=[S8 p,S8 q,.bool b,.int .i64 mode,.slice a n e,.int .i64 time]:=by
 cases c with
 | put p f =>
  obtain⟨_,v,rfl,g⟩:=h;obtain⟨a,e,rfl,_⟩:=g.bytes;exact⟨_,_,_,_,_,_,_,_,rfl⟩
 | mv s d=>obtain⟨_,_,_,rfl⟩:=h;exact⟨_,_,_,_,_,_,_,_,rfl⟩
 | del p=>obtain⟨_,rfl⟩:=h;exact⟨_,_,_,_,_,_,_,_,rfl⟩
theorem yL {R:Nat->Prop} {v:Value} {l:List Ch} (h:OwnL w 194 6 (IsCh R w) v l) (J:l.length<=10000000):∃a d,v=.slice a l.length d/\l.length<=d/\d<=9223372036854775807 /\
  ∀(k:Nat) c,l[k]? = some c->∃b A,a=some ⟨b,0,none⟩/\IsCh R w A c/\∀j u,A[j]? = some u->w.cell? ⟨b,k*6+j,none⟩=some u:=by
 obtain⟨e,p,q⟩:=h;obtain⟨B,n⟩:=p;have E:∀c∈e,c.length=6:=fun c y=>by
  obtain⟨i,t,rfl⟩:=List.mem_iff_getElem.1 y;have z:i<l.length:=by rw[<-q.1];exact t
  exact(q.2 i e[i] l[i] (List.getElem?_eq_getElem t) (List.getElem?_eq_getElem z)).length.1
 rcases n with⟨rfl,D⟩ | ⟨g,d,C,rfl,_,F,y,G,K,I⟩
 .refine ⟨none,0,by rw[D],by omega,by omega,fun k c x=>?_⟩;have:=(List.getElem?_eq_some_iff.1 x).1;omega
 .refine ⟨_,d,rfl,y,by unfold maxLen at G;omega,fun k c x=>?_⟩;have o:k<e.length:=by rw[q.1];exact(List.getElem?_eq_some_iff.1 x).1
  refine⟨g,e[k],rfl,q.2 k _ c (List.getElem?_eq_getElem o) x,fun j u H=>?_⟩;have r:=fQ 6 e k j _ u E (List.getElem?_eq_getElem o) H;rw[<-I]at r;have t:=(List.getElem?_eq_some_iff.1 r).1;rw[List.getElem?_take_of_lt (by simp at t;omega)]at r;rw[Nat.mul_comm];simpa [World.cell?,F]using r
theorem jR (l:ax):∀a:List Ch,(a.foldl ap l).length<=l.length+a.length:=by
 intro a
 induction a generalizing l with
 | nil=>simp
 | cons c a b =>
  have d:=b (ap l c);have e:=dV l c;simp only[List.foldl_cons,List.length_cons];omega
variable {l:ax}
theorem pz {cs:List Ch} {k:Nat} (h:cs[k]? = some c):(cs.take (k+1)).foldl ap l=ap ((cs.take k).foldl ap l) c:=by
 rw[List.take_add_one,h];simp[List.foldl_append]
theorem IsData.takeN {R:Nat->Prop} {a:Option Addr} {l:B8} {d n:Nat} (h:IsData R w (.slice a l.length d) l) (D:n<=l.length):IsBytes w (.slice a n d) (l.take n):=by
 obtain⟨A,j,k,B,r,C,t⟩:=h.bytes;simp only[Value.slice.injEq,true_and]at k;obtain⟨rfl,rfl⟩:=k;have z:(l.take n).length=n:=by rw[List.length_take];omega
 refine⟨a,d,by rw[z],by omega,r,by omega,fun g=>?_⟩;obtain⟨b,o,rfl,y⟩:=t (by
  intro q;have:l=[]:=by simpa using q
  subst this;simp at g)
 refine⟨b,o,rfl,fun i u p=>y i u ?_⟩;rw[List.getElem?_map]at p ⊢;obtain⟨x,e,rfl⟩:=Option.map_eq_some_iff.1 p;rw[List.getElem?_take]at e;split at e
 .rw [e];rfl
 .simp at e
variable {m:Fs}
theorem fy {S O R:Nat->Prop} {B h K M N:World} {g P d i C:Nat} {Q x y:Value} {L:List Ev} (z:O g) (Z:w.heap[g]? = some (.cells (bc m.room P d Q x m.calls y m.time m.down) 79 (0,0)))
  (A:Parts S O R w P d Q x y m.now m.sure m.pend L m.users) (b:w.grownBy B (some d)) (F:IsFiles (On R w.heap.size) B d l) (u:Ext B h) (H:B.heap.size<=i) (G:IsFiles (On R w.heap.size) h i l)
  {U V:Array Value} (j:h.heap[g]? = some (.cells U 79 (0,0))) (n:h.grownBy K (some g)) (r:K.heap[g]? = some (.cells V 79 (0,0))) (o:K.grownBy M (some g)) {W:Array Value} (t:M.heap[g]? = some (.cells W 79 (0,0))) (p:M.grownBy N (some g))
  (I:N.heap[g]? = some (.cells (bc m.room i d (.slice none 0 0) x m.calls y m.time true) 79 (0,0))) (J:m.plan=L.filter (fun e=>decide ((C:Int)<e.t))) (E:C<=m.calls/\L.length<=1000) :
  FsPost S O R w (.pointer (some ⟨g,0,none⟩)) { m with now:=l,sure:=l,pend:=[],down:=true } N:=by
 have Y:=A.sure.lt;have D:=(A.mono (O':=On O w.heap.size) (R':=On R w.heap.size) (fun k a=>.inl a) (fun k a=>.inl a)).Da b F;have q:=D.ext u;have T:Parts S (On O w.heap.size) (On R w.heap.size) h i d (.slice none 0 0) x y l l [] L m.users :=
  ⟨by have:=b.size;omega,.inr (Nat.le_trans b.size H),q.od,G,q.sure,⟨[],World.ownsRow_nil _ _ _ _,Each.nil _⟩,Inn.nil _ _ _,q.plan,q.ol,q.users,q.ou,q.off⟩
 refine⟨IsFs.fit ⟨g,i,d,_,x,y,L,C,rfl,I,.inl z,((T.own j n).own r o).own t p,J,E⟩,?_⟩;have X:Fr O w h:=((Fr.refl O w).step b (fun k a=>by cases a;exact .inl A.od) (by rintro k a;cases a;exact A.sure.Cj)).ext u;exact((X.step n (fun k a=>by cases a;exact .inl z) (by rintro k a;cases a;exact aw j (by kernel_rfl))).step o (fun k a=>by cases a;exact .inl z) (by rintro k a;cases a;exact aw r (by kernel_rfl))).step p (fun k a=>by cases a;exact .inl z) (by rintro k a;cases a;exact aw t (by kernel_rfl))
theorem pm {S O R:Nat->Prop} {p:Value} (t o:Int) (h:IsFs S O R w p m) (a4:OkM m) (ht:m.time<=9000000) (ce:I64 t) (co:I64 o) :
  Calls Tryz.prog 107 #[p,.int .i64 t,.int .i64 o] w fun e w'=>e=.returned (.tuple #[])/\FsPost S O R w p (cX m t o) w':=by
 have HH:Hid (IsFs S O R w p m):=h;obtain⟨g,gm,G,vp,V,W,L,c0,rfl,hg,hO,hP,a8,a3⟩:=h;obtain⟨d0,d1,d2,d3,d4,d5,d6,d7,d8⟩:=ao hg;have fe:=a4.Cn;have ff:=a4.CO;obtain⟨pa,pc,rfl,e6,e7,a6⟩:=yL hP.pend (by omega);have HG:Hid _:=hg;have HP:Hid _:=hP;have bh:Hid _:=a6;have ds:Hid _:=a4.De;have dn:Hid _:=a4.CA;have a2:Hid _:=a8;have aa:cX m t o=if m.down then m else { m with now:=du m t o,sure:=du m t o,pend:=[],down:=true }:=rfl
 have b2:Hid _:=aa;have es:=(Array.getElem?_eq_some_iff.1 hg).1;have e4:g≠w.heap.size:=by omega
 have ek:=hP.sure.lt;unfold I64 at ce co
 cases au:m.down with
 | true =>
  have a5:cX m t o=m:=by rw[aa,au];rfl
  have Y:Hid _:=a5;rw[au]at d8;clear hg hP a6 a4 a8 aa au a5;go_enter Tryz.func107,Tryz.ntmps107;go_wp2;refine bodyPost_ret (results_none rfl _ _ _) rfl ?_;rw[Y.out];exact⟨rfl,FsPost.same HH.out (Ext.refl _)⟩
 | false =>
  obtain⟨N,hN⟩:∃N,ed m t=N:=⟨_,rfl⟩;have fb:N<=m.pend.length:=by rw[<-hN];unfold ed;omega
  have e5:min (max t 0) (m.pend.length:Int)=(N:Int):=by rw[<-hN];unfold ed;omega
  have a5:cX m t o={ m with now:=du m t o,sure:=du m t o,pend:=[],down:=true }:=by rw[aa,au];rfl
  have Y:Hid _:=a5;have b8:du m t o=dT ((m.pend.take N).foldl ap m.sure) o m.pend[N]?:=by unfold du;rw[hN]
  have a1:Hid _:=b8;rw[au]at d8;have dl:Hid _:=au;clear hg hP a6 a4 a8 aa au a5 b8 hN b2;go_enter Tryz.func107,Tryz.ntmps107;go_wp2;go_loopw [29] (fun i wr=>∃k:Nat,k<=N/\i=.int .i64 k/\IsFiles R wr G ((m.pend.take k).foldl ap m.sure)/\w.grownBy wr (some G)) (fun i _=>N - (intOf i).toNat)
  case atStart=>exact⟨0,Nat.zero_le _,rfl,HP.out.sure,⟨rfl,rfl,rfl,Nat.le_refl _,fun _ _ _=>rfl⟩⟩
  case round =>
   obtain⟨k,H,rfl,b9,bd⟩:=hrel;have ad:Hid _:=b9;have J:Hid _:=bd;have bb:wr.heap[g]? = _:=(bd.block g es (by
    have:=cD HG.out (by exact(HP.out.sure.kind).choose_spec.choose_spec) (by simp);simpa using this)).trans HG.out
   rw[dl.out]at bb;have I:Hid _:=bb;have er:=jR m.sure (m.pend.take k);have cv:(m.pend.take k).length<=k:=List.length_take_le _ _;have fl:=bd.size;clear b9 bd
   by_cases fi:k<N
   .
    obtain⟨c,hc⟩:∃c,m.pend[k]? = some c:=⟨_,List.getElem?_eq_getElem (by omega)⟩;obtain⟨b,cs,rfl,U,l⟩:=bh.out k c hc;obtain⟨cp,cq,cb,cm,ct,ca,cn,Z,rfl⟩:=U.shape;have T:∀j u,w.cell? ⟨b,k*6+j,none⟩=some u->wr.cell? ⟨b,k*6+j,none⟩=some u:=fun j u hu=>by
     obtain⟨e0,ef,bv⟩:=HP.out.pend.typed b rfl;rw[World.cell?_of_block (w:=w) (w':=wr) (a:=⟨b,k*6+j,none⟩) (J.out.block b (World.block_lt_of_cell? _ _ hu) (by
      have:=cD bv (by exact(HP.out.sure.kind).choose_spec.choose_spec) (by simp);simpa using this))]
     exact hu
    have x0:=T 0 _ (l 0 _ rfl);have x1:=T 1 _ (l 1 _ rfl);have x2:=T 2 _ (l 2 _ rfl);have x3:=T 3 _ (l 3 _ rfl);have x4:=T 4 _ (l 4 _ rfl);have x5:=T 5 _ (l 5 _ rfl);simp only[Nat.add_zero]at x0;have K:IsCh R wr [S8 cp,S8 cq,.bool cb,.int .i64 cm,.slice ca cn Z,.int .i64 ct] c:=U.BZ (cw J.out (by rintro k H;cases H;exact HP.out.sure.Cj));have da:Hid _:=K;have HC:Hid _:=hc;have bq:∀s d,c=.mv s d->(aA ((m.pend.take k).foldl ap m.sure) s).isSome=true:=fun s d hh=>ds.out k s d (by rw[hc,hh])
    have dq:Hid _:=bq;have bx:Ext wr (wr.alloc (.cells #[S8 cp,S8 cq,.bool cb,.int .i64 cm,.slice ca cn Z,.int .i64 ct] 194)):=(Ext.refl wr).alloc _;obtain⟨y0,y1,y2,y3,y4,y5⟩:=cA (ae wr (.cells #[S8 cp,S8 cq,.bool cb,.int .i64 cm,.slice ca cn Z,.int .i64 ct] 194));obtain⟨z0,z1,z2,z3,z4,z5,z6,z7,z8⟩:=ao (Ext.row bx I.out);have ec:Hid _:=bx;clear T l U K bq hc bx bb z0 z1 z3 z4 z5 z6 z7 z8;go_wp2;apply ak 5 [_,_,_,_,.agg #[S8 cp,S8 cq,.bool cb,.int .i64 cm,.slice ca cn Z,.int .i64 ct]] [none,none,none,none,none] [[],[0],[1],[2],[]] (by kernel_rfl) (by kernel_rfl) (by simp[aq])
    .trivial
    .simp (maxSteps:=1000000)only[List.take_succ_cons,List.take_zero,ay,aE,ab,Act.put,List.setIfInBounds_toArray,List.set_cons_zero,List.set_cons_succ,aN,aS,aq,List.getD_cons_zero,List.getD_cons_succ,and_true,true_and,forall_const];and_intros
     iterate 5 · intro xs wq hq;intros;rename_i hR;have c1:=hq.cell z2;have c2:=hq.cell y0;have c3:=hq.cell y1;have c4:=hq.cell y2;have c5:=hq.cell y3;have c6:=hq.cell y4;have c7:=hq.cell y5;go_simp;exact hR _ _ (Ext.refl _) rfl
    intro xs w4 r H;simp only[aU,Nat.zero_add,Nat.reduceAdd,and_true]at H;simp(maxSteps:=1000000)only[List.take_succ_cons,List.take_zero,List.drop_succ_cons,List.drop_zero,ab,Act.put,List.setIfInBounds_toArray,List.set_cons_zero,List.set_cons_succ,Nat.zero_add,Nat.reduceAdd,H];clear H;have bS:=Ext.trans ec.out r
    go_wp2_with (go_at_call 160;go_must (refine(nf c [S8 cp,S8 cq,.bool cb,.int .i64 cm,.slice ca cn Z,.int .i64 ct] (ad.out.ext bS) (IsCh.BZ da.out (KeepR.B2 (KeepB.BX bS))) dq.out (by omega)).mono ?_;rintro e w5 ⟨rfl,eo,x⟩))
    go_roundw
    case rel=>exact⟨k+1,by omega,by go_num,by rw[pz HC.out];exact eo,(dX J.out bS).trans x⟩
    case measure=>simp[intOf];omega
   .have ev:k=N:=by omega
    subst ev;obtain⟨z0,z1,z2,z3,z4,z5,z6,z7,z8⟩:=ao I.out;clear bb
    by_cases eg:k<m.pend.length
    .have e1:(k:Int)<(m.pend.length:Int):=by omega
     obtain⟨c,hc⟩:∃c,m.pend[k]? = some c:=⟨_,List.getElem?_eq_getElem eg⟩;obtain⟨b,cs,rfl,U,l⟩:=bh.out k c hc;have T:∀j u,w.cell? ⟨b,k*6+j,none⟩=some u->wr.cell? ⟨b,k*6+j,none⟩=some u:=fun j u hu=>by
      obtain⟨e0,ef,bv⟩:=HP.out.pend.typed b rfl;rw[World.cell?_of_block (w:=w) (w':=wr) (a:=⟨b,k*6+j,none⟩) (J.out.block b (World.block_lt_of_cell? _ _ hu) (by
       have:=cD bv (by exact(HP.out.sure.kind).choose_spec.choose_spec) (by simp);simpa using this))]
      exact hu
     have z:Hid _:=T;have HC:Hid _:=hc;have K:IsCh R wr cs c:=U.BZ (cw J.out (by rintro k H;cases H;exact HP.out.sure.Cj));clear T hc
     by_cases fn:o<0
     .have eE:¬(0:Int)<=o:=by omega
      have X:Hid (IsFiles (On R w.heap.size) wr G ((m.pend.take k).foldl ap m.sure)):=ad.out.mono (fun k H=>.inl H);have FW:Hid _:=J.out;have FG:Hid _:=I.out;have FL:Hid (((m.pend.take k).foldl ap m.sure).length<=100000000):=by unfold Hid;omega
      have FA:Hid (dT ((m.pend.take k).foldl ap m.sure) o m.pend[k]? = ((m.pend.take k).foldl ap m.sure)):=by
       unfold Hid;rw[HC.out]
       cases c with
       | put q f=>exact if_neg (by omega)
       | mv s d=>rfl
       | del q=>rfl
      clear l U K eE
      go_wp2_with (first
       | (go_at_call 161;go_must (refine(eO X.out (by have:=FL.out;omega)).mono ?_;rintro e w4 ⟨⟨F,rfl,Q,M⟩,r⟩;have A:=Ext.row r FG.out))
       | (refine ag rfl 71 (.tmp 89) (.tmp 87) rfl g 1 rfl (.map (some F)) rfl rfl _ _ A (Nat.le_of_ble_eq_true rfl) fV (bc m.room F G (.slice (some ⟨b,0,none⟩) m.pend.length pc) V m.calls W m.time false) (by simp) ?_;intro w5 x C)
       | (refine ag rfl 72 (.tmp 92) _ rfl g 3 rfl (.slice none 0 0) rfl rfl _ _ x (Nat.le_of_ble_eq_true rfl) eT (bc m.room F G (.slice none 0 0) V m.calls W m.time false) (by simp) ?_;intro w6 B D)
       | (refine ag rfl 4 (.tmp 95) _ rfl g 8 rfl (.bool true) rfl rfl _ _ B (Nat.le_of_ble_eq_true rfl) em (bc m.room F G (.slice none 0 0) V m.calls W m.time true) (by simp) ?_;intro w7 P E))
      go_end0
      rw[Y.out,a1.out,FA.out];exact⟨rfl,fy hO HG.out HP.out FW.out X.out r Q M A C x D B E P a2.out a3⟩
     .have eS:(0:Int)<=o:=by omega
      cases c with
      | put q f =>
       obtain⟨ey,v,rfl,hd⟩:=K;obtain⟨fa,fc,rfl,-⟩:=id hd.bytes;have x0:=z.out 0 _ (l 0 _ rfl);have x1:=z.out 1 _ (l 1 _ rfl);have x2:=z.out 2 _ (l 2 _ rfl);have x3:=z.out 3 _ (l 3 _ rfl);have x4:=z.out 4 _ (l 4 _ rfl);have x5:=z.out 5 _ (l 5 _ rfl);simp only[Nat.add_zero]at x0;have HD:Hid _:=hd;have y:Ext wr (wr.alloc (.cells #[S8 q,S8 [],.bool true,.int .i64 f.mode,.slice fa f.data.length fc,.int .i64 f.time] 194)):=(Ext.refl wr).alloc _;obtain⟨y0,y1,y2,y3,y4,y5⟩:=cA (ae wr (.cells #[S8 q,S8 [],.bool true,.int .i64 f.mode,.slice fa f.data.length fc,.int .i64 f.time] 194));obtain⟨q0,q1,q2,q3,q4,q5,q6,q7,q8⟩:=ao (Ext.row y I.out);clear l U hd
       by_cases cv:o<(f.data.length:Int)
       .obtain ⟨n,rfl⟩:∃n:Nat,o=n:=⟨o.toNat,by omega⟩;have fk:n<f.data.length:=by omega
        have ex:((n:Int)).toNat=n:=by omega
        have ba:=HD.out.takeN (n:=n) (by omega);obtain⟨e9,e',b6,e2,-⟩:=id HD.out.bytes;simp only[Value.slice.injEq,true_and]at b6;obtain⟨rfl,rfl⟩:=b6;have fj:(n:Int)<=(fc:Int):=by omega
        have a0:(f.data.take n).length=n:=by rw[List.length_take];omega
        have bs:dT ((m.pend.take k).foldl ap m.sure) n m.pend[k]? = ap ((m.pend.take k).foldl ap m.sure) (.put q { f with data:=f.data.take n }):=by
         rw[HC.out];exact(if_pos ⟨eS,cv⟩).trans (by rw[ex])
        obtain⟨td,cu⟩:∃td,f.data.take n=td:=⟨_,rfl⟩;rw[cu]at ba a0 bs;rw[show Value.slice fa n fc=.slice fa td.length fc by rw[a0]]at ba;have ek:td.length<=f.data.length:=by omega
        have c9:Hid _:=ba;have FA:Hid _:=bs;have d9:Hid _:=a0;have e8:Hid _:=y;clear ba a0 bs cu y;have e3:f.data.length<=20000:=(dn.out _ (List.mem_of_getElem? HC.out)).2;go_upto_region 10 with fail;obtain⟨wx,a9⟩:∃wx,wx=wr.alloc (.cells #[S8 q,S8 [],.bool true,.int .i64 f.mode,.slice fa f.data.length fc,.int .i64 f.time] 194):=⟨_,rfl⟩;have ea:Hid _:=a9;rw[<-a9]at y0 y1 y2 y3 y4 y5 q0 q1 q2 q3 q4 q5 q6 q7 q8;have b0:Ext wr wx:=by rw[a9];exact(Ext.refl _).alloc _
        have b4:wx.heap[wr.heap.size]? = some (.cells #[S8 q,S8 [],.bool true,.int .i64 f.mode,.slice fa f.data.length fc,.int .i64 f.time] 194 (0,0)):=by rw[a9];exact ae _ _
        have bk:IsBytes wx (.slice fa n fc) td:=by
         have:=IsBytes.ext c9.out b0
         rwa [d9.out]at this
        have c':Hid _:=bk;clear a9 bk;rw[show wr.alloc (.cells #[S8 q,S8 [],.bool true,.int .i64 f.mode,.slice fa f.data.length fc,.int .i64 f.time] 194)=wx from ea.out.symm];go_wp2_with fail;go_at_call 54;refine(eL _ td _ c'.out (by omega)).mono ?_;rintro e w2 ⟨⟨v2,rfl,bt⟩,cx⟩;obtain⟨ca,cc,rfl,-⟩:=id bt.bytes;have dc:Hid _:=bt;have bl:=cx.row b4;have c8:=b0.trans cx;clear bt y0 y1 y2 y3 y4 y5 q0 q1 q2 q3 q4 q5 q6 q7 q8 b4
        go_wp2_with (refine ag rfl 37 (.tmp 75) (.tmp 73) rfl wr.heap.size 4 rfl (.slice ca td.length cc) rfl rfl _ _ bl (Nat.le_of_ble_eq_true rfl) fD #[S8 q,S8 [],.bool true,.int .i64 f.mode,.slice ca td.length cc,.int .i64 f.time] (by simp) ?_;intro w3 eh bo)
        have br:Ext wr w3:=Ext.but c8 bo (Nat.le_refl _);obtain⟨q0,q1,q2,q3,q4,q5,q6,q7,q8⟩:=ao (Ext.row br I.out);obtain⟨y0,y1,y2,y3,y4,y5⟩:=cA eh;apply ak 5 [_,_,_,_,.agg #[S8 q,S8 [],.bool true,.int .i64 f.mode,.slice ca td.length cc,.int .i64 f.time]] [none,none,none,none,none] [[],[0],[1],[2],[]] (by kernel_rfl) (by kernel_rfl) (by simp[aq])
        .trivial
        .simp (maxSteps:=1000000)only[List.take_succ_cons,List.take_zero,ay,aE,ab,Act.put,List.setIfInBounds_toArray,List.set_cons_zero,List.set_cons_succ,aN,aS,aq,List.getD_cons_zero,List.getD_cons_succ,and_true,true_and,forall_const];and_intros
         iterate 5 · intro xs wq hq;intros;rename_i hR;have c1:=hq.cell q2;have c2:=hq.cell y0;have c3:=hq.cell y1;have c4:=hq.cell y2;have c5:=hq.cell y3;have c6:=hq.cell y4;have c7:=hq.cell y5;go_simp;exact hR _ _ (Ext.refl _) rfl
        intro xs w4 r H;simp only[aU,Nat.zero_add,Nat.reduceAdd,and_true]at H;simp(maxSteps:=1000000)only[List.take_succ_cons,List.take_zero,List.drop_succ_cons,List.drop_zero,ab,Act.put,List.setIfInBounds_toArray,List.set_cons_zero,List.set_cons_succ,Nat.zero_add,Nat.reduceAdd,H];clear H;have a':=br.trans r;have b5:IsData (On R w.heap.size) w4 (.slice ca td.length cc) td:=by
         have hu:¬IsU8 w2 wr.heap.size:=aw bl (by kernel_rfl);have h9:IsData (On R w.heap.size) w2 (.slice ca td.length cc) td:=dc.out.mono (fun k H=>.inr (by have:=H.1;have:=b0.size;omega));exact(h9.BZ (dM bo hu)).ext r
        have dk:Hid _:=b5;have b1:Hid _:=Ext.row a' I.out;have d':Hid _:=dX J.out a';have b3:Hid (IsFiles (On R w.heap.size) w4 G ((m.pend.take k).foldl ap m.sure)):=(ad.out.ext a').mono (fun k H=>.inl H);clear b5 q0 q1 q2 q3 q4 q5 q6 q7 q8 y0 y1 y2 y3 y4 y5
        go_wp2_with (go_at_call 160;go_must (refine(nf (.put q { f with data:=td }) [S8 q,S8 [],.bool true,.int .i64 f.mode,.slice ca td.length cc,.int .i64 f.time] b3.out ⟨ey,_,rfl,dk.out⟩ (fun s d h=>by cases h) (by omega)).mono ?_;rintro e w9 ⟨rfl,b7,b'⟩;have cl:=cD b1.out (by exact(b3.out.kind).choose_spec.choose_spec) (by simp);have a7:=aV b' b1.out cl;obtain⟨q0,q1,q2,q3,q4,q5,q6,q7,q8⟩:=ao a7;have X:Hid _:=b7;have FG:Hid _:=a7;have FW:Hid _:=d'.out.trans b';have FL:Hid ((ap ((m.pend.take k).foldl ap m.sure) (.put q { f with data:=td })).length<=100000000):=by have:=dV ((m.pend.take k).foldl ap m.sure) (.put q { f with data:=td });unfold Hid;omega))
        clear a7 b7
        go_wp2_with (first
         | (go_at_call 161;go_must (refine(eO X.out (by have:=FL.out;omega)).mono ?_;rintro e w4 ⟨⟨F,rfl,Q,M⟩,r⟩;have A:=Ext.row r FG.out))
         | (refine ag rfl 71 (.tmp 89) (.tmp 87) rfl g 1 rfl (.map (some F)) rfl rfl _ _ A (Nat.le_of_ble_eq_true rfl) fV (bc m.room F G (.slice (some ⟨b,0,none⟩) m.pend.length pc) V m.calls W m.time false) (by simp) ?_;intro w5 x C)
         | (refine ag rfl 72 (.tmp 92) _ rfl g 3 rfl (.slice none 0 0) rfl rfl _ _ x (Nat.le_of_ble_eq_true rfl) eT (bc m.room F G (.slice none 0 0) V m.calls W m.time false) (by simp) ?_;intro w6 B D)
         | (refine ag rfl 4 (.tmp 95) _ rfl g 8 rfl (.bool true) rfl rfl _ _ B (Nat.le_of_ble_eq_true rfl) em (bc m.room F G (.slice none 0 0) V m.calls W m.time true) (by simp) ?_;intro w7 P E))
        go_end0
        rw[Y.out,a1.out,FA.out];exact⟨rfl,fy hO HG.out HP.out FW.out X.out r Q M A C x D B E P a2.out a3⟩
       .have FA:Hid (dT ((m.pend.take k).foldl ap m.sure) o m.pend[k]? = ((m.pend.take k).foldl ap m.sure)):=by
         unfold Hid;rw[HC.out];exact if_neg (by omega)
        have X:Hid (IsFiles (On R w.heap.size) (wr.alloc (.cells #[S8 q,S8 [],.bool true,.int .i64 f.mode,.slice fa f.data.length fc,.int .i64 f.time] 194)) G ((m.pend.take k).foldl ap m.sure)):=(ad.out.ext y).mono (fun k H=>.inl H);have FW:Hid (w.grownBy (wr.alloc (.cells #[S8 q,S8 [],.bool true,.int .i64 f.mode,.slice fa f.data.length fc,.int .i64 f.time] 194)) (some G)):=dX J.out y;have FG:Hid _:=Ext.row y I.out;have FL:Hid (((m.pend.take k).foldl ap m.sure).length<=100000000):=by unfold Hid;omega
        clear y
        go_wp2_with (first
         | (go_at_call 161;go_must (refine(eO X.out (by have:=FL.out;omega)).mono ?_;rintro e w4 ⟨⟨F,rfl,Q,M⟩,r⟩;have A:=Ext.row r FG.out))
         | (refine ag rfl 71 (.tmp 89) (.tmp 87) rfl g 1 rfl (.map (some F)) rfl rfl _ _ A (Nat.le_of_ble_eq_true rfl) fV (bc m.room F G (.slice (some ⟨b,0,none⟩) m.pend.length pc) V m.calls W m.time false) (by simp) ?_;intro w5 x C)
         | (refine ag rfl 72 (.tmp 92) _ rfl g 3 rfl (.slice none 0 0) rfl rfl _ _ x (Nat.le_of_ble_eq_true rfl) eT (bc m.room F G (.slice none 0 0) V m.calls W m.time false) (by simp) ?_;intro w6 B D)
         | (refine ag rfl 4 (.tmp 95) _ rfl g 8 rfl (.bool true) rfl rfl _ _ B (Nat.le_of_ble_eq_true rfl) em (bc m.room F G (.slice none 0 0) V m.calls W m.time true) (by simp) ?_;intro w7 P E))
        go_end0
        rw[Y.out,a1.out,FA.out];exact⟨rfl,fy hO HG.out HP.out FW.out X.out r Q M A C x D B E P a2.out a3⟩
      | mv s d =>
       obtain⟨h1,h2,h3,rfl⟩:=K;have x0:=z.out 0 _ (l 0 _ rfl);have x1:=z.out 1 _ (l 1 _ rfl);have x2:=z.out 2 _ (l 2 _ rfl);have x3:=z.out 3 _ (l 3 _ rfl);have x4:=z.out 4 _ (l 4 _ rfl);have x5:=z.out 5 _ (l 5 _ rfl);simp only[Nat.add_zero]at x0;have y:Ext wr (wr.alloc (.cells #[S8 d,S8 s,.bool false,.int .i64 0,.slice none 0 0,.int .i64 0] 194)):=(Ext.refl wr).alloc _;obtain⟨y0,y1,y2,y3,y4,y5⟩:=cA (ae wr (.cells #[S8 d,S8 s,.bool false,.int .i64 0,.slice none 0 0,.int .i64 0] 194));obtain⟨q0,q1,q2,q3,q4,q5,q6,q7,q8⟩:=ao (Ext.row y I.out);have FA:Hid (dT ((m.pend.take k).foldl ap m.sure) o m.pend[k]? = ((m.pend.take k).foldl ap m.sure)):=by unfold Hid;rw[HC.out];rfl
       have X:Hid (IsFiles (On R w.heap.size) (wr.alloc (.cells #[S8 d,S8 s,.bool false,.int .i64 0,.slice none 0 0,.int .i64 0] 194)) G ((m.pend.take k).foldl ap m.sure)):=(ad.out.ext y).mono (fun k H=>.inl H);have FW:Hid (w.grownBy (wr.alloc (.cells #[S8 d,S8 s,.bool false,.int .i64 0,.slice none 0 0,.int .i64 0] 194)) (some G)):=dX J.out y;have FG:Hid _:=Ext.row y I.out;have FL:Hid (((m.pend.take k).foldl ap m.sure).length<=100000000):=by unfold Hid;omega
       clear y;clear l U
       go_wp2_with (first
        | (go_at_call 161;go_must (refine(eO X.out (by have:=FL.out;omega)).mono ?_;rintro e w4 ⟨⟨F,rfl,Q,M⟩,r⟩;have A:=Ext.row r FG.out))
        | (refine ag rfl 71 (.tmp 89) (.tmp 87) rfl g 1 rfl (.map (some F)) rfl rfl _ _ A (Nat.le_of_ble_eq_true rfl) fV (bc m.room F G (.slice (some ⟨b,0,none⟩) m.pend.length pc) V m.calls W m.time false) (by simp) ?_;intro w5 x C)
        | (refine ag rfl 72 (.tmp 92) _ rfl g 3 rfl (.slice none 0 0) rfl rfl _ _ x (Nat.le_of_ble_eq_true rfl) eT (bc m.room F G (.slice none 0 0) V m.calls W m.time false) (by simp) ?_;intro w6 B D)
        | (refine ag rfl 4 (.tmp 95) _ rfl g 8 rfl (.bool true) rfl rfl _ _ B (Nat.le_of_ble_eq_true rfl) em (bc m.room F G (.slice none 0 0) V m.calls W m.time true) (by simp) ?_;intro w7 P E))
       go_end0
       rw[Y.out,a1.out,FA.out];exact⟨rfl,fy hO HG.out HP.out FW.out X.out r Q M A C x D B E P a2.out a3⟩
      | del q =>
       obtain⟨h1,rfl⟩:=K;have x0:=z.out 0 _ (l 0 _ rfl);have x1:=z.out 1 _ (l 1 _ rfl);have x2:=z.out 2 _ (l 2 _ rfl);have x3:=z.out 3 _ (l 3 _ rfl);have x4:=z.out 4 _ (l 4 _ rfl);have x5:=z.out 5 _ (l 5 _ rfl);simp only[Nat.add_zero]at x0;have y:Ext wr (wr.alloc (.cells #[S8 q,S8 [],.bool false,.int .i64 0,.slice none 0 0,.int .i64 0] 194)):=(Ext.refl wr).alloc _;obtain⟨y0,y1,y2,y3,y4,y5⟩:=cA (ae wr (.cells #[S8 q,S8 [],.bool false,.int .i64 0,.slice none 0 0,.int .i64 0] 194));obtain⟨q0,q1,q2,q3,q4,q5,q6,q7,q8⟩:=ao (Ext.row y I.out);have FA:Hid (dT ((m.pend.take k).foldl ap m.sure) o m.pend[k]? = ((m.pend.take k).foldl ap m.sure)):=by unfold Hid;rw[HC.out];rfl
       have X:Hid (IsFiles (On R w.heap.size) (wr.alloc (.cells #[S8 q,S8 [],.bool false,.int .i64 0,.slice none 0 0,.int .i64 0] 194)) G ((m.pend.take k).foldl ap m.sure)):=(ad.out.ext y).mono (fun k H=>.inl H);have FW:Hid (w.grownBy (wr.alloc (.cells #[S8 q,S8 [],.bool false,.int .i64 0,.slice none 0 0,.int .i64 0] 194)) (some G)):=dX J.out y;have FG:Hid _:=Ext.row y I.out;have FL:Hid (((m.pend.take k).foldl ap m.sure).length<=100000000):=by unfold Hid;omega
       clear y;clear l U
       go_wp2_with (first
        | (go_at_call 161;go_must (refine(eO X.out (by have:=FL.out;omega)).mono ?_;rintro e w4 ⟨⟨F,rfl,Q,M⟩,r⟩;have A:=Ext.row r FG.out))
        | (refine ag rfl 71 (.tmp 89) (.tmp 87) rfl g 1 rfl (.map (some F)) rfl rfl _ _ A (Nat.le_of_ble_eq_true rfl) fV (bc m.room F G (.slice (some ⟨b,0,none⟩) m.pend.length pc) V m.calls W m.time false) (by simp) ?_;intro w5 x C)
        | (refine ag rfl 72 (.tmp 92) _ rfl g 3 rfl (.slice none 0 0) rfl rfl _ _ x (Nat.le_of_ble_eq_true rfl) eT (bc m.room F G (.slice none 0 0) V m.calls W m.time false) (by simp) ?_;intro w6 B D)
        | (refine ag rfl 4 (.tmp 95) _ rfl g 8 rfl (.bool true) rfl rfl _ _ B (Nat.le_of_ble_eq_true rfl) em (bc m.room F G (.slice none 0 0) V m.calls W m.time true) (by simp) ?_;intro w7 P E))
       go_end0
       rw[Y.out,a1.out,FA.out];exact⟨rfl,fy hO HG.out HP.out FW.out X.out r Q M A C x D B E P a2.out a3⟩
    .have X:Hid (IsFiles (On R w.heap.size) wr G ((m.pend.take k).foldl ap m.sure)):=ad.out.mono (fun k H=>.inl H);have FW:Hid _:=J.out;have FG:Hid _:=I.out;have FL:Hid (((m.pend.take k).foldl ap m.sure).length<=100000000):=by unfold Hid;omega
     have FA:Hid (dT ((m.pend.take k).foldl ap m.sure) o m.pend[k]? = ((m.pend.take k).foldl ap m.sure)):=by
      have:m.pend[k]? = none:=List.getElem?_eq_none (by omega);unfold Hid;rw[this];rfl
     go_wp2_with (first
      | (go_at_call 161;go_must (refine(eO X.out (by have:=FL.out;omega)).mono ?_;rintro e w4 ⟨⟨F,rfl,Q,M⟩,r⟩;have A:=Ext.row r FG.out))
      | (refine ag rfl 71 (.tmp 89) (.tmp 87) rfl g 1 rfl (.map (some F)) rfl rfl _ _ A (Nat.le_of_ble_eq_true rfl) fV (bc m.room F G (.slice pa m.pend.length pc) V m.calls W m.time false) (by simp) ?_;intro w5 x C)
      | (refine ag rfl 72 (.tmp 92) _ rfl g 3 rfl (.slice none 0 0) rfl rfl _ _ x (Nat.le_of_ble_eq_true rfl) eT (bc m.room F G (.slice none 0 0) V m.calls W m.time false) (by simp) ?_;intro w6 B D)
      | (refine ag rfl 4 (.tmp 95) _ rfl g 8 rfl (.bool true) rfl rfl _ _ B (Nat.le_of_ble_eq_true rfl) em (bc m.room F G (.slice none 0 0) V m.calls W m.time true) (by simp) ?_;intro w7 P E))
     go_end0
     rw[Y.out,a1.out,FA.out];exact⟨rfl,fy hO HG.out HP.out FW.out X.out r Q M A C x D B E P a2.out a3⟩
end
section
open Go Go.RowKit
theorem kq (c:UInt8):∀(l r:B8),cut c (l++c::r)=cut c l++cut c r
 | [],r=>by simp[cut]
 | x::l,r=>by
  have d:=kq c l r;show cut c (x::(l++c::r))=cut c (x::l)++cut c r
  by_cases b:(x==c)=true
  .rw [cut,cut,if_pos b,if_pos b,d];rfl
  .rw [cut,cut,if_neg b,if_neg b,d]
   cases e:cut c l with
   | nil=>exact(gu c l e).elim
   | cons a t=>rfl
theorem m6 (x:B8) (c:UInt8):Lib.join [x] [c]=x:=by simp[Lib.join,List.intercalate,List.intersperse]
theorem je (x y:B8) (L:List B8) (c:UInt8):Lib.join (x::y::L) [c]=x++c::Lib.join (y::L) [c]:=by
 simp[Lib.join,List.intercalate,List.intersperse]
theorem ky (c:UInt8):∀l:B8,Lib.join (cut c l) [c]=l
 | []=>by simp[cut,m6]
 | x::l=>by
  have d:=ky c l;rw[cut]
  by_cases h:(x==c)=true
  .rw [if_pos h];have e:x=c:=by simpa using h
   subst e
   cases g:cut x l with
   | nil=>exact(gu x l g).elim
   | cons a t=>rw[g]at d;rw[je,d];rfl
  .rw [if_neg h]
   cases g:cut c l with
   | nil=>exact(gu c l g).elim
   | cons a t =>
    rw[g]at d
    cases t with
    | nil=>rw[m6]at d ⊢;rw[d]
    | cons b t=>rw[je]at d ⊢;simp[d]
theorem mB (c:UInt8):∀(A B:List B8),A≠[]->B≠[]->Lib.join (A++B) [c]=Lib.join A [c]++c::Lib.join B [c]
 | [],_,h,_=>(h rfl).elim
 | [x],[],_,h=>(h rfl).elim
 | [x],y::B,_,_=>by rw[m6];exact je x y B c
 | x::y::A,B,_,a=>by
  have b:=mB c (y::A) B (by simp) a;show Lib.join (x::y::(A++B)) [c]=_;rw[je,je,show y::(A++B)=(y::A)++B from rfl,b];simp
theorem fo (d s:B8):aB d s=true↔∃r,s=d++47::r:=by
 unfold aB;rw[List.isPrefixOf_iff_prefix];constructor
 .rintro ⟨r,a⟩;exact⟨r,by rw[<-a];simp⟩
 .rintro ⟨r,a⟩;exact⟨r,by rw[a];simp⟩
variable {path p:B8}
theorem mC (e:az path=true):p∈ew path↔aB p path=true:=by
 unfold ew ez cj;rw[if_pos e,fo];constructor
 .intro h;obtain⟨i,d,rfl⟩:=List.mem_map.1 h;have a:=List.mem_range.1 d;refine⟨Lib.join ((cut 47 path).drop (i+1)) [47],?_⟩;rw[<-mB 47 _ _ (by intro b;have:=congrArg List.length b;simp at this;rw[this]at a;simp at a) (by intro b;have:=congrArg List.length b;simp at this;omega),List.take_append_drop,ky]
 .rintro ⟨r,rfl⟩;refine List.mem_map.2 ⟨(cut 47 p).length - 1,List.mem_range.2 ?_,?_⟩
  .have c:0<(cut 47 p).length:=List.length_pos_iff.2 (gu 47 p);have g:0<(cut 47 r).length:=List.length_pos_iff.2 (gu 47 r);rw[kq,List.length_append];omega
  .have c:0<(cut 47 p).length:=List.length_pos_iff.2 (gu 47 p);rw[kq,show(cut 47 p).length - 1+1=(cut 47 p).length by omega,List.take_left,ky]
variable {l:ax}
theorem lB:(aA l p).isSome=true↔∃e∈l,e.1=p:=by
 unfold aA;rw[Option.isSome_map,List.find?_isSome];simp
theorem ji (d:B8) (g:az path=true):kD l path d=et l path d:=by
 unfold kD et lh;rw[<-Bool.not_or];congr 1;rw[Bool.eq_iff_iff];simp only[Bool.or_eq_true,List.any_eq_true,Bool.and_eq_true,Bool.not_eq_true',beq_eq_false_iff_ne];constructor
 .rintro (⟨p,b,c,a⟩ | ⟨e,b,c,a⟩)
  .obtain ⟨e,h,rfl⟩:=lB.1 c;exact⟨e,h,a,.inl ((mC g).1 b)⟩
  .exact ⟨e,b,c,.inr a⟩
 .rintro ⟨e,b,c,a | a⟩
  .exact .inl ⟨e.1,(mC g).2 a,lB.2 ⟨e,b,rfl⟩,c⟩
  .exact .inr ⟨e,b,c,a⟩
variable {c:Ch}
theorem mV (h:∀e∈l,az e.1=true/\e.2.data.length<=20000) (g:mL c):∀e∈ap l c,az e.1=true/\e.2.data.length<=20000:=by
 intro e a
 cases c with
 | put p f =>
  rcases kF a with rfl | ⟨b,_⟩
  .exact g
  .exact h e b
 | mv s d =>
  unfold ap at a;simp only at a;split at a
  .rename_i x i;rcases kF a with rfl | ⟨b,_⟩
   .exact ⟨g.2.1,(h _ (fd i)).2⟩
   .exact h e (List.mem_filter.1 b).1
  .exact h e a
 | del p=>exact h e (List.mem_filter.1 a).1
theorem ux {cs:List Ch}:∀ {l:ax},(∀e∈l,az e.1=true/\e.2.data.length<=20000)->(∀c∈cs,mL c)->∀e∈cs.foldl ap l,az e.1=true/\e.2.data.length<=20000:=by
 induction cs with
 | nil=>exact fun h _=>h
 | cons c cs g=>exact fun h a=>g (mV h (a c (by simp))) (fun d b=>a d (by simp[b]))
theorem zE (t:Nat) (h:mL c):mL (c.at t):=by
 cases c with
 | put p f=>exact h
 | mv s d=>exact h
 | del p=>exact h
variable {m:Fs}
theorem oW (h:OkM m) (j:mL c) (i:∀s d,c=.mv s d->(aA m.now s).isSome=true):OkM (does m c):=by
 have A:=dV m.now (c.at (m.time+1));have u:=h.B7;have w:=h.CO;have x:=h.Cn;have y:=h.Cg;have z:=h.C8;refine⟨by simp only[does];omega,by simp only[does];omega,by simp only[does,List.length_append,List.length_cons,List.length_nil];omega,by simp only[does,List.length_append,List.length_cons,List.length_nil];omega,by simp only[does];omega,mV h.Cl (zE _ j),h.CN,?_,?_,?_⟩
 .intro d b;rcases List.mem_append.1 b with b | b
  .exact h.CA d b
  .rw [List.mem_singleton.1 b];exact zE _ j
 .show (m.pend++[c.at (m.time+1)]).foldl ap m.sure=ap m.now (c.at (m.time+1));rw[List.foldl_append,h.fold];rfl
 .intro k s d o;show(aA (((m.pend++[c.at (m.time+1)]).take k).foldl ap m.sure) s).isSome=true;have a:(m.pend++[c.at (m.time+1)])[k]? = some (.mv s d):=o;rw[List.getElem?_append]at a;split at a
  .rename_i q;rw[List.take_append_of_le_length (by omega)];exact h.De k s d a
  .rename_i n;have l:=(List.getElem?_eq_some_iff.1 a).1;have r:k - m.pend.length=0:=by simp at l;omega
   rw[r]at a;have e:c.at (m.time+1)=.mv s d:=by simpa using a
   have g:k=m.pend.length:=by omega
   subst g;rw[List.take_left,h.fold]
   cases c with
   | put p f=>cases e
   | mv B t=>exact i s d e
   | del p=>cases e
variable {mode:Int} {data:B8} {fits:Bool}
theorem tO (h:OkM m) (b:az path=true) (a:data.length<=20000):OkM (bu m path mode data fits).1:=by
 unfold bu;split
 .exact h
 .split
  .exact h
  .exact oW h ⟨b,a⟩ (fun s d e=>by cases e)
theorem nZ (h:OkM m):OkM (aG m path).1:=by
 unfold aG;split
 .exact h
 .split
  .exact h
  .rename_i a _;exact oW h (show az path=true by simpa using a) (fun s d e=>by cases e)
theorem lE (h:OkM m):OkM (settle m) :=
 ⟨h.B7,h.B7,Nat.zero_le _,h.B7,h.Cg,h.Cl,h.Cl,fun c a=>(by cases a),rfl,fun k s d b=>by simp[settle]at b⟩
theorem OkM.same {m':Fs} (h:OkM m) (d:m'.now=m.now) (a:m'.sure=m.sure) (b:m'.pend=m.pend) (e:m'.users.length<=m'.time) (c:m.time<=m'.time):OkM m':=by
 refine⟨by rw[d];exact Nat.le_trans h.B7 c,by rw[a];exact Nat.le_trans h.CO c,by rw[b];exact Nat.le_trans h.Cn c,by rw[a,b];exact Nat.le_trans h.C8 c,e,by rw[d];exact h.Cl,by rw[a];exact h.CN,by rw[b];exact h.CA,by rw[d,a,b];exact h.fold,by rw[a,b];exact h.De⟩
theorem gG (h:bE path mode data=0):az path=true/\1<=mode/\mode<=3/\data.length<=20000:=by
 unfold bE at h;split at h
 .cases h
 .split at h
  .cases h
  .split at h
   .cases h
   .rename_i a b c;refine⟨by simpa using a,by omega,by omega,by omega⟩
theorem wV (h:(bu m path mode data fits).2=0):bu m path mode data fits=(does m (.put path ⟨mode,data,0⟩),0):=by
 unfold bu at h ⊢
 by_cases a:(aA m.now path).isNone=true/\et m.now path []=false
 .rw [if_pos a]at h;cases h
 .rw [if_neg a]at h ⊢
  by_cases b:fits=false
  .rw [if_pos b]at h;cases h
  .rw [if_neg b]
theorem rH (h:(aG m path).2=0):aG m path=(does m (.del path),0):=by
 unfold aG at h ⊢
 by_cases a:az path=false
 .rw [if_pos a]at h;cases h
 .rw [if_neg a]at h ⊢
  by_cases b:(aA m.now path).isNone=true
  .rw [if_pos b]at h;cases h
  .rw [if_neg b]
theorem pR:m.time<=(bu m path mode data fits).1.time/\(bu m path mode data fits).1.time<=m.time+1:=by
 unfold bu;split
 .exact ⟨Nat.le_refl _,Nat.le_succ _⟩
 .split
  .exact ⟨Nat.le_refl _,Nat.le_succ _⟩
  .exact ⟨Nat.le_succ _,Nat.le_refl _⟩
theorem lL:m.time<=(aG m path).1.time/\(aG m path).1.time<=m.time+1:=by
 unfold aG;split
 .exact ⟨Nat.le_refl _,Nat.le_succ _⟩
 .split
  .exact ⟨Nat.le_refl _,Nat.le_succ _⟩
  .exact ⟨Nat.le_succ _,Nat.le_refl _⟩
theorem rr (h:OkM m):OkM (aO m path mode data).1:=by
 unfold aO;split
 .exact h
 .split
  .exact h
  .rename_i e;have a:=gG (by simpa using e);split
   .exact tO h a.1 a.2.2.2
   .rename_i d;have b:=wV (by simpa using d);have c:=lE (tO (mode:=mode) (fits:=true) h a.1 a.2.2.2);refine c.same rfl rfl rfl ?_ (Nat.le_refl _);have:=h.Cg;rw[b];simp only[settle,does,List.length_append,List.length_cons,List.length_nil];omega
theorem qn (h:OkM m):OkM (aL m path).1:=by
 unfold aL;split
 .exact h
 .split
  .exact nZ h
  .rename_i c;have a:=rH (by simpa using c);have b:=lE (nZ (path:=path) h);refine b.same rfl rfl rfl ?_ (Nat.le_refl _);have:=h.Cg;rw[a];simp only[settle,does,List.length_append,List.length_cons,List.length_nil];omega
theorem pg:m.time<=(aO m path mode data).1.time/\(aO m path mode data).1.time<=m.time+1:=by
 unfold aO;split
 .exact ⟨Nat.le_refl _,Nat.le_succ _⟩
 .split
  .exact ⟨Nat.le_refl _,Nat.le_succ _⟩
  .split
   .exact pR
   .exact pR (m:=m) (path:=path) (mode:=mode) (data:=data) (fits:=true)
theorem oH:m.time<=(aL m path).1.time/\(aL m path).1.time<=m.time+1:=by
 unfold aL;split
 .exact ⟨Nat.le_refl _,Nat.le_succ _⟩
 .split
  .exact lL
  .exact lL (m:=m) (path:=path)
theorem tb (l:ax) (t:Int) (c:Option Ch):(dT l t c).length<=l.length+1/\(c=none->dT l t c=l):=by
 unfold dT;refine⟨?_,fun h=>by subst h;rfl⟩;split
 .split
  .exact dV _ _
  .omega
 .omega
theorem qk (a b:Int) (h:OkM m):(du m a b).length<=m.time:=by
 unfold du;have c:=tb ((m.pend.take (ed m a)).foldl ap m.sure) b m.pend[ed m a]?;have e:=jR m.sure (m.pend.take (ed m a));have g:=h.C8;have i:(m.pend.take (ed m a)).length<=ed m a:=List.length_take_le _ _
 by_cases j:ed m a<m.pend.length
 .omega
 .have d:=c.2 (List.getElem?_eq_none (by omega));rw[d];have:ed m a<=m.pend.length:=by unfold ed;omega
  omega
theorem qK (a b:Int) (h:OkM m):∀e∈du m a b,az e.1=true/\e.2.data.length<=20000:=by
 have d:=ux (cs:=m.pend.take (ed m a)) h.CN (fun c g=>h.CA c (List.mem_of_mem_take g));unfold du dT;split
 .rename_i p f i;split
  .refine mV d ?_;have:=h.CA _ (List.mem_of_getElem? i);refine⟨this.1,?_⟩;simp only[List.length_take];have:=this.2;omega
  .exact d
 .exact d
theorem yD (a b:Int) (h:OkM m):OkM (cX m a b):=by
 unfold cX;split
 .exact h
 .have e:=qk a b h;have g:=qK a b h;exact⟨e,e,Nat.zero_le _,e,h.Cg,g,g,fun c i=>(by cases i),rfl,fun k s d j=>by simp at j⟩
theorem ul (m:Fs) (a b:Int):(cX m a b).time=m.time:=by
 unfold cX;split <;> rfl
def ep (m:Fs) (e:Ev):Fs :=
 if e.kind=1 then cX m e.keep e.BW else if e.kind=4 then(aO m e.path e.mode e.data).1 else if e.kind=5 then(aL m e.path).1 else m
def fS (e:Ev):Int:=if e.kind=2 then 10 else if e.kind=3 then 11 else 0
theorem wN (h:OkM m) (e:Ev):OkM (ep m e):=by
 unfold ep;split
 .exact yD _ _ h
 .split
  .exact rr h
  .split
   .exact qn h
   .exact h
theorem mX (m:Fs) (e:Ev):m.time<=(ep m e).time/\(ep m e).time<=m.time+1:=by
 unfold ep;split
 .rw [ul];exact⟨Nat.le_refl _,Nat.le_succ _⟩
 .split
  .exact pg
  .split
   .exact oH
   .exact ⟨Nat.le_refl _,Nat.le_succ _⟩
theorem ip (n:Nat) (x:Fs×Bool×Bool) (e:Ev):bF n x e=if e.t≠n then x else(ep x.1 e,x.2.1 || fS e==10,x.2.2 || fS e==11):=by
 obtain⟨m,f,b⟩:=x;unfold bF ep fS;simp only
 by_cases a:e.t≠n
 .rw [if_pos a,if_pos a]
 .rw [if_neg a,if_neg a]
  by_cases c:e.kind=1
  .simp [c]
  .by_cases d:e.kind=2
   .simp [d]
   .by_cases g:e.kind=3
    .simp [g]
    .by_cases h:e.kind=4
     .simp [h]
     .by_cases i:e.kind=5
      .simp [i]
      .simp [c,d,g,h,i]
end
section
open Go Go.RowKit
theorem so {S O R:Nat->Prop} {w:World} {p:Value} {m:Fs} (e:Ev) (cs:List Value) (W:Env w) (h:IsFs S O R w p m) (B:OkM m) (K:m.time<=9000000) (he:IsEvR R w cs e) (l:I64 e.keep) (n:I64 e.BW) (J:e.path.length<=400) :
  Calls Tryz.prog 163 #[p,.agg cs.toArray] w fun x w'=>x=.returned (.int .i64 (fS e))/\FsPost S O R w p (ep m e) w':=by
 obtain⟨vd,rfl,A,-⟩:=he;obtain⟨t,a,g,d,i,b,c⟩:=e;obtain⟨T,U,rfl,-⟩:=id A.bytes;simp only at A l n J ⊢;have I:=A.bytes.len;have D:Ext w (w.alloc (.cells #[.int .i64 t,.int .i64 a,.int .i64 g,.int .i64 d,.int .i64 i,S8 b,.slice T c.length U] 121)):=(Ext.refl _).alloc _;have r:Hid _:=h.ext D;have N:Hid _:=A.ext D;have P:Hid _:=W.ext D;have u:Hid _:=D;have o:Hid _:=B;have k:Hid (ep m ⟨t,a,g,d,i,b,c⟩=if a=1 then cX m d i else if a=4 then(aO m b g c).1 else if a=5 then(aL m b).1 else m):=rfl;have j:Hid (fS ⟨t,a,g,d,i,b,c⟩=if a=2 then 10 else if a=3 then 11 else 0):=rfl;obtain⟨M,X⟩:∃M,ep m ⟨t,a,g,d,i,b,c⟩=M:=⟨_,rfl⟩;obtain⟨C,V⟩:∃C,fS ⟨t,a,g,d,i,b,c⟩=C:=⟨_,rfl⟩;rw[X]at k ⊢;rw[V]at j ⊢;clear X V h A W D B
 by_cases q:a=1
 .subst q;obtain rfl:cX m d i=M:=k.out.symm;obtain rfl:(0:Int)=C:=j.out.symm;clear k j;go_enter Tryz.func163,Tryz.ntmps163
  go_wp2_with (go_at_call 107;go_must (refine(pm d i r.out o.out K l n).mono ?_;rintro e Y ⟨rfl,z⟩))
  go_ret;exact⟨rfl,FsPost.pre u.out z⟩
 .have F:(a==1)=false:=by simpa using q
  by_cases y:a=2
  .subst y;obtain rfl:m=M:=k.out.symm;obtain rfl:(10:Int)=C:=j.out.symm;clear k j q F;go_enter Tryz.func163,Tryz.ntmps163;go_wp2;go_ret;exact⟨rfl,FsPost.pre u.out (FsPost.same r.out (Ext.refl _))⟩
  .have H:(a==2)=false:=by simpa using y
   by_cases E:a=3
   .subst E;obtain rfl:m=M:=k.out.symm;obtain rfl:(11:Int)=C:=j.out.symm;clear k j q F y H;go_enter Tryz.func163,Tryz.ntmps163;go_wp2;go_ret;exact⟨rfl,FsPost.pre u.out (FsPost.same r.out (Ext.refl _))⟩
   .have Q:(a==3)=false:=by simpa using E
    by_cases G:a=4
    .subst G;obtain rfl:(aO m b g c).1=M:=k.out.symm;obtain rfl:(0:Int)=C:=j.out.symm;clear k j q F y H E Q;go_enter Tryz.func163,Tryz.ntmps163
     go_wp2_with (go_at_call 103;go_must (refine(k7 b g (.slice T c.length U) c P.out r.out o.out K (by omega) N.out.bytes I (fun hp=>ji _ hp) N.out.out).mono ?_;rintro e Y ⟨rfl,z⟩))
     go_ret;exact⟨rfl,FsPost.pre u.out z⟩
    .have Z:(a==4)=false:=by simpa using G
     by_cases L:a=5
     .subst L;obtain rfl:(aL m b).1=M:=k.out.symm;obtain rfl:(0:Int)=C:=j.out.symm;clear k j q F y H E Q G Z;go_enter Tryz.func163,Tryz.ntmps163
      go_wp2_with (go_at_call 105;go_must (refine(kh b P.out r.out o.out K (by omega)).mono ?_;rintro e Y ⟨rfl,z⟩))
      go_ret;exact⟨rfl,FsPost.pre u.out z⟩
     .have b5:(a==5)=false:=by simpa using L
      obtain rfl:m=M:=(k.out.trans (by rw[if_neg q,if_neg G,if_neg L])).symm;obtain rfl:(0:Int)=C:=(j.out.trans (by rw[if_neg y,if_neg E])).symm;clear k j;go_enter Tryz.func163,Tryz.ntmps163;go_wp2;go_ret;exact⟨rfl,FsPost.pre u.out (FsPost.same r.out (Ext.refl _))⟩
end
section
open Go Go.RowKit
structure fH (m:Fs):Prop where
 len:m.plan.length<=1000
 ev:∀e∈m.plan,I64 e.keep/\I64 e.BW/\e.path.length<=400
theorem kx (m:Fs) (e:Ev):(ep m e).plan=m.plan/\(ep m e).calls=m.calls/\(ep m e).room=m.room:=by
 unfold ep;split
 .unfold cX;split <;> exact⟨rfl,rfl,rfl⟩
 .split
  .unfold aO;split
   .exact ⟨rfl,rfl,rfl⟩
   .split
    .exact ⟨rfl,rfl,rfl⟩
    .split
     .unfold bu;split
      .exact ⟨rfl,rfl,rfl⟩
      .split <;> exact⟨rfl,rfl,rfl⟩
     .simp only[settle];unfold bu;split
      .exact ⟨rfl,rfl,rfl⟩
      .split <;> exact⟨rfl,rfl,rfl⟩
  .split
   .unfold aL;split
    .exact ⟨rfl,rfl,rfl⟩
    .split
     .unfold aG;split
      .exact ⟨rfl,rfl,rfl⟩
      .split <;> exact⟨rfl,rfl,rfl⟩
     .simp only[settle];unfold aG;split
      .exact ⟨rfl,rfl,rfl⟩
      .split <;> exact⟨rfl,rfl,rfl⟩
   .exact ⟨rfl,rfl,rfl⟩
theorem jQ {α β:Type} (f:β->α->β) (p:α->Bool):∀(l:List α) (x:β),(∀y e,p e=false->f y e=y)->(l.filter p).foldl f x=l.foldl f x
 | [],_,_=>rfl
 | e::l,x,h=>by
  by_cases a:p e=true
  .rw [List.filter_cons_of_pos a,List.foldl_cons,List.foldl_cons,jQ f p l _ h]
  .rw [List.filter_cons_of_neg a,List.foldl_cons,h x e (by simpa using a),jQ f p l _ h]
theorem uA (e:Ev):fS e=0\/fS e=10\/fS e=11:=by
 unfold fS;split
 .exact .inr (.inl rfl)
 .split
  .exact .inr (.inr rfl)
  .exact .inl rfl
structure Mid (m:Fs) (n:Nat) (x:Fs×Bool×Bool):Prop where
 ok:OkM x.1
 time:x.1.time<=m.time+n
 Cq:m.time<=x.1.time
 plan:x.1.plan=m.plan
 calls:x.1.calls=m.calls+1
 room:x.1.room=m.room
variable {m:Fs}
theorem Mid.next {n k:Nat} {x:Fs×Bool×Bool} (h:Mid m n x) (e:Ev):Mid m (n+if e.t=(k:Int)then 1 else 0) (bF k x e):=by
 rw[ip]
 by_cases a:e.t≠(k:Int)
 .rw [if_pos a,if_neg a];exact h
 .rw [if_neg a,if_pos (by simpa using a)];have c:=mX x.1 e;have b:=kx x.1 e;have:=h.time;have:=h.Cq;exact⟨wN h.ok e,by simp only;omega,by simp only;omega,b.1.trans h.plan,b.2.1.trans h.calls,b.2.2.trans h.room⟩
theorem Mid.fold {m:Fs} (k:Nat):∀(l:List Ev) {n:Nat} {x:Fs×Bool×Bool},Mid m n x->Mid m (n+l.length) (l.foldl (bF k) x)
 | [],n,x,h=>h
 | e::l,n,x,h=>by
  have a:=Mid.fold k l (h.next (k:=k) e);refine⟨a.ok,?_,a.Cq,a.plan,a.calls,a.room⟩;have:=a.time;simp only[List.length_cons,List.foldl_cons];split at this <;> omega
def cH (m:Fs):Fs:={ m with calls:=m.calls+1 }
theorem Mid.start (h:OkM m):Mid m 0 (cH m,false,false):=⟨h.same rfl rfl rfl h.Cg (Nat.le_refl _),Nat.le_refl _,Nat.le_refl _,rfl,rfl,rfl⟩
theorem qE (h:OkM m):∃x:Fs×Bool×Bool,Mid m m.plan.length x/\(av m).1=x.1:=by
 have:=Mid.fold (m.calls+1) m.plan (Mid.start h);rw[Nat.zero_add]at this;exact⟨_,this,rfl⟩
variable {w:World}
theorem yN {R:Nat->Prop} {v:Value} {l:List Ev} (h:ReadL w 121 (IsEvR R w) v l):∃a g,v=.slice a l.length g/\l.length<=g/\l.length<=140737488355328/\g<=9223372036854775807 /\
  ∀(k:Nat) e,l[k]? = some e->∃b o y,a=some ⟨b,o,none⟩/\IsEvR R w y e/\∀j u,y[j]? = some u->w.cell? ⟨b,o+k*7+j,none⟩=some u:=by
 obtain⟨d,⟨a,g,rfl,D,E,F,G⟩,J,q⟩:=h;refine⟨a,g,rfl,D,F,E,fun k e B=>?_⟩;have H:∀c∈d,c.length=7:=fun c r=>by
  obtain⟨i,A,rfl⟩:=List.mem_iff_getElem.1 r;have t:i<l.length:=by rw[<-q.1];exact A
  exact(q.2 i d[i] l[i] (List.getElem?_eq_getElem A) (List.getElem?_eq_getElem t)).length.1
 have p:k<d.length:=by rw[q.1];exact(List.getElem?_eq_some_iff.1 B).1
 have n:=q.2 k _ e (List.getElem?_eq_getElem p) B;have z:=fun j u x=>fQ 7 d k j _ u H (List.getElem?_eq_getElem p) x
 obtain⟨b,o,rfl,r⟩:=G (by
  intro I;have C:(d[k])[0]? = some ((d[k])[0]'(by rw[n.length.1];omega)):=List.getElem?_eq_getElem _;have:=z 0 _ C;rw[I]at this;simp at this)
 refine⟨b,o,d[k],rfl,n,fun j u x=>?_⟩;have:=r _ _ (z j u x)
 rwa [Nat.add_assoc,Nat.mul_comm k 7]
variable {g:Nat} {c:Int}
theorem zJ (a:w.cell? ⟨g,5,none⟩=some (.int .i64 c)) (b:w.frozen? ⟨g,5,none⟩=false) (d:0<=c) (e:c<=1000000000) :
  (callFunc 187 #[.pointer (some ⟨g,5,none⟩),.int .i64 1]).run Tryz.prog w=.ok (.value (.int .i64 (c+1))) (w.setCell ⟨g,5,none⟩ (.int .i64 (c+1))) :=
 run_call_add (P:=Tryz.prog) Tryz.func187 (by kernel_rfl) (by kernel_rfl) (by kernel_rfl) .i64 (by kernel_rfl) (y:=1) (s:=c+1) a b (by
  have:=IntWalk.i64_in (c+1) (by omega);simp[go_sem,this])
theorem tj (d:w.cell? ⟨g,5,none⟩=some (.int .i64 c)) (h:w.frozen? ⟨g,5,none⟩=false) (a:0<=c) (b:c<=1000000000) :
  Calls Tryz.prog 131 #[.pointer (some ⟨g,5,none⟩),.int .i64 1] w fun e i=>e=.returned (.int .i64 (c+1))/\i=w.setCell ⟨g,5,none⟩ (.int .i64 (c+1)):=by
 have j:=zJ d h a b;go_enter Tryz.func131,Tryz.ntmps131;go_wp2;go_ret;exact⟨rfl,rfl⟩
end
end Go.Proofs.YtfabjgfmiaammaaGreatDoor
