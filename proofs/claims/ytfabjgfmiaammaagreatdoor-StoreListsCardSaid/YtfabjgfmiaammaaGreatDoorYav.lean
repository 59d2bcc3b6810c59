/- Contracts of the program's functions and plain laws behind the card. Conditions: as each theorem states. -/
import Derived.Test.YtfabjgfmiaammaaGreatDoorYar
set_option linter.unusedVariables false
set_option linter.unusedSimpArgs false
set_option linter.unusedSectionVars false
set_option maxRecDepth 100000
set_option maxHeartbeats 64000000
namespace Go.Proofs.YtfabjgfmiaammaaGreatDoor
section
open Go Go.RowKit
variable [Inhabited bf]
variable {w:World}
theorem RefPost.store {O R:Nat->Prop} {c o:World} {m':Fs} {g:Nat} {j vs l i n:Value} {cur:Array Value} (d:Fr O w c) (p:Nw O w c g) (q:c.heap[g]? = some (.cells cur 84 (0,0)))
  (r:RParts (Nw O w c) (Nw R w c) c j vs l i n m'.now m'.sure m'.pend m'.plan m'.users) (a:c.grownBy o (some g)) (e:o.heap[g]? = some (.cells (cr m'.room j vs l i m'.calls m'.time m'.down n) 84 (0,0))) :
  RefPost O R w (.pointer (some ⟨g,0,none⟩)) m' o :=
 ⟨⟨g,j,vs,l,i,n,rfl,e,p.fst a.size,(r.own q a).mono (fun k b=>b.fst a.size) (fun k b=>b.fst a.size)⟩,
  d.step a (fun k b=>by cases b;exact p.imp id (fun h=>h.1)) (by rintro k b;cases b;exact aw q (by kernel_rfl))⟩
variable {v:Value}
theorem NewOr.CM {O:Nat->Prop} {w':World} {v':Value} (h:NewOr w v v') (c:Inn O v) (d:∀k,v'.ownBlock=some k->k<w'.heap.size):Inn (Nw O w w') v':=fun k a=>(h k a).imp (c k) (fun b=>⟨b,d k a⟩)
theorem OwnL.CH {α:Type} {t:TypeId} {a:Nat} {p:List Value->α->Prop} {xs:List α} (h:OwnL w t a p v xs) (e:xs.length<=10000000):ReadL w t p v xs:=by
 obtain⟨b,c,d⟩:=h;exact⟨b,Row.BV c (by omega),Typed.BV c,d⟩
theorem Ax {R:Nat->Prop} {l:List Ch} (h:OwnL w 199 6 (IsOp R w) v l) (q:l.length<=10000000):∃a d,v=.slice a l.length d/\l.length<=d/\d<=9223372036854775807 /\
  ∀(k:Nat) c,l[k]? = some c->∃b o e,a=some ⟨b,o,none⟩/\IsOp R w e c/\∀j u,e[j]? = some u->w.cell? ⟨b,o+k*6+j,none⟩=some u:=by
 obtain⟨a,d,g,i,t,n,p⟩:=lI 6 (fun c x r=>r.length.1) (by omega) (OwnL.CH h q);exact⟨a,d,g,i,n,p⟩
variable {m:Fs}
theorem yf (a:OkM m) (k:Nat):((m.pend.take k).foldl ap m.sure).length<=m.time:=by
 have b:=jR m.sure (m.pend.take k);have c:=a.C8;have d:(m.pend.take k).length<=m.pend.length:=by simp;omega
 omega
theorem nK {O R:Nat->Prop} {p:Value} (r l:Int) (h:IsRef O R w p m) (J:OkM m) (ht:m.time<=8000000) (bl:I64 r) (bo:I64 l) :
  Calls Tryz.prog 108 #[p,.int .i64 r,.int .i64 l] w fun e w'=>e=.returned (.tuple #[])/\RefPost O R w p (cX m r l) w':=by
 have HH:Hid (IsRef O R w p m):=h;obtain⟨g,vn,vs,vp,vl,vu,rfl,hg,hO,hP⟩:=h;have dn:=J.Cn;obtain⟨sa,sc,rfl,-⟩:=cg hP.sure;obtain⟨pa,pc,rfl,c8,c9,I⟩:=Ax hP.pend (by omega);obtain⟨d0,d1,d2,d3,d4,d5,d6,d7,d8⟩:=ao hg;have HG:Hid _:=hg;have HP:Hid _:=hP;have X:Hid _:=I;have b0:Hid _:=J.CA;have b1:Hid _:=yf J;have B:cX m r l=if m.down then m else { m with now:=du m r l,sure:=du m r l,pend:=[],down:=true }:=rfl
 unfold I64 at bl bo
 cases A:m.down with
 | true =>
  have H:cX m r l=m:=by rw[B,A];rfl
  have a0:Hid _:=H;rw[A]at d7;clear hg hP I J B A H;go_enter Tryz.func108,Tryz.ntmps108;go_wp2;refine bodyPost_ret (results_none rfl _ _ _) rfl ?_;rw[a0.out];exact⟨rfl,RefPost.same HH.out (Ext.refl _)⟩
 | false =>
  obtain⟨N,hN⟩:∃N,ed m r=N:=⟨_,rfl⟩;have dl:N<=m.pend.length:=by rw[<-hN];unfold ed;omega
  have c7:min (max r 0) (m.pend.length:Int)=(N:Int):=by rw[<-hN];unfold ed;omega
  have H:cX m r l={ m with now:=du m r l,sure:=du m r l,pend:=[],down:=true }:=by rw[B,A];rfl
  have a0:Hid _:=H;have bb:du m r l=dT ((m.pend.take N).foldl ap m.sure) l m.pend[N]?:=by unfold du;rw[hN]
  have a7:Hid _:=bb;rw[A]at d7;have c':Hid _:=A;clear hg hP I J B A H bb hN;go_enter Tryz.func108,Tryz.ntmps108;go_wp2;go_loopw [6,8] (fun lv i wr=>∃k:Nat,k<=N/\i=.int .i64 k/\bI R wr lv ((m.pend.take k).foldl ap m.sure)/\NewOr w (.slice sa m.sure.length sc) lv/\Ext w wr) (fun _ i _=>N - (intOf i).toNat)
  case atStart=>exact⟨0,Nat.zero_le _,rfl,HP.out.sure,fun k y=>.inl y,Ext.refl _⟩
  case round =>
   obtain⟨k,y,rfl,K,aa,x⟩:=hrel;have S:Hid _:=K;have HN:Hid _:=aa;have HX:Hid _:=x;have b9:=b1.out k;replace d3:=x.cell d3;clear K aa
   by_cases dq:k<N
   .obtain ⟨c,hc⟩:∃c,m.pend[k]? = some c:=⟨_,List.getElem?_eq_getElem (by omega)⟩;obtain⟨b,o,cs,rfl,z,a⟩:=X.out k c hc;obtain⟨kd,cp,cq,cm,ct,ca,cn,c4,rfl,-⟩:=z.shape;have x0:=x.cell (a 0 _ rfl);have x1:=x.cell (a 1 _ rfl);have x2:=x.cell (a 2 _ rfl);have x3:=x.cell (a 3 _ rfl);have x4:=x.cell (a 4 _ rfl);have x5:=x.cell (a 5 _ rfl);simp only[Nat.add_zero]at x0;have bv:Hid _:=z;have HC:Hid _:=hc;obtain⟨ra,rc,rfl,-⟩:=cg S.out;clear a z hc d0 d1 d2 d4 d5 d6 d7 d8
    go_wp2_with (go_at_call 162;go_must (refine(ld S.out (by omega) (IsOp.ext bv.out HX.out)).mono ?_;rintro e w4 ⟨⟨v4,rfl,E,T⟩,V⟩))
    go_roundw
    case rel =>
     refine⟨k+1,by omega,by go_num,by rw[pz HC.out];exact E,fun j hj=>?_,x.trans V⟩;rcases T j hj with Y | Y
     .exact HN.out j Y
     .exact .inr (Nat.le_trans x.size Y)
    case measure=>simp[intOf];omega
   .have ce:k=N:=by omega
    subst ce;obtain⟨ra,rc,rfl,-⟩:=cg S.out;obtain⟨L,hL⟩:∃L,(m.pend.take k).foldl ap m.sure=L:=⟨_,rfl⟩;rw[hL]at S HN a7 b9 ⊢;clear hL
    by_cases b5:k<m.pend.length
    case' neg =>
     have b4:¬(k:Int)<(m.pend.length:Int):=by omega
     have FA:Hid (dT L l m.pend[k]? = L):=by
      have:m.pend[k]? = none:=List.getElem?_eq_none (by omega);unfold Hid;rw[this];rfl
     obtain⟨F,rfl⟩:∃F,F=L:=⟨_,rfl⟩;obtain⟨t,rfl⟩:∃t,t=ra:=⟨_,rfl⟩;obtain⟨u,rfl⟩:∃u,u=rc:=⟨_,rfl⟩;have FR:Hid (bI (Nw R w wr) wr (.slice t F.length u) F):=ReadL.Ce S.out (fun k y=>.inl y);have FN:Hid (NewOr w (.slice sa m.sure.length sc) (.slice t F.length u)):=HN.out;have FX:Hid (Ext w wr):=HX.out;have FL:Hid (F.length<=9000000):=by unfold Hid;omega
     clear x d0 d1 d2 d4 d5 d6 d7 d8
    case' pos =>
     have b4:(k:Int)<(m.pend.length:Int):=by omega
     obtain⟨c,hc⟩:∃c,m.pend[k]? = some c:=⟨_,List.getElem?_eq_getElem b5⟩;obtain⟨b,o,cs,co,z,a⟩:=X.out k c hc;rw[co]at d3;have HC:Hid _:=hc;cases c
     case' mv s d =>
      obtain⟨Y,h2,rfl⟩:=z;have x0:=x.cell (a 0 _ rfl);simp only[Nat.add_zero]at x0;have FA:Hid (dT L l m.pend[k]? = L):=by unfold Hid;rw[HC.out];rfl
      obtain⟨F,rfl⟩:∃F,F=L:=⟨_,rfl⟩;obtain⟨t,rfl⟩:∃t,t=ra:=⟨_,rfl⟩;obtain⟨u,rfl⟩:∃u,u=rc:=⟨_,rfl⟩;have FR:Hid (bI (Nw R w wr) wr (.slice t F.length u) F):=ReadL.Ce S.out (fun k y=>.inl y);have FN:Hid (NewOr w (.slice sa m.sure.length sc) (.slice t F.length u)):=HN.out;have FX:Hid (Ext w wr):=HX.out;have FL:Hid (F.length<=9000000):=by unfold Hid;omega
      clear x a d0 d1 d2 d4 d5 d6 d7 d8
     case' del q =>
      obtain⟨Y,rfl⟩:=z;have x0:=x.cell (a 0 _ rfl);simp only[Nat.add_zero]at x0;have FA:Hid (dT L l m.pend[k]? = L):=by unfold Hid;rw[HC.out];rfl
      obtain⟨F,rfl⟩:∃F,F=L:=⟨_,rfl⟩;obtain⟨t,rfl⟩:∃t,t=ra:=⟨_,rfl⟩;obtain⟨u,rfl⟩:∃u,u=rc:=⟨_,rfl⟩;have FR:Hid (bI (Nw R w wr) wr (.slice t F.length u) F):=ReadL.Ce S.out (fun k y=>.inl y);have FN:Hid (NewOr w (.slice sa m.sure.length sc) (.slice t F.length u)):=HN.out;have FX:Hid (Ext w wr):=HX.out;have FL:Hid (F.length<=9000000):=by unfold Hid;omega
      clear x a d0 d1 d2 d4 d5 d6 d7 d8
     case' put q f =>
      obtain⟨cv,v,rfl,hd⟩:=z;obtain⟨ca,cc,rfl,-⟩:=id hd.bytes;have x0:=x.cell (a 0 _ rfl);have x1:=x.cell (a 1 _ rfl);have x2:=x.cell (a 2 _ rfl);have x3:=x.cell (a 3 _ rfl);have x4:=x.cell (a 4 _ rfl);have x5:=x.cell (a 5 _ rfl);simp only[Nat.add_zero]at x0;have HD:Hid _:=IsData.ext hd x;have c6:f.data.length<=20000:=(b0.out _ (List.mem_of_getElem? HC.out)).2;clear a hd hc
      by_cases P:0<=l/\l<(f.data.length:Int)
      case' pos =>
       obtain⟨a5,br⟩:=P;obtain⟨n,rfl⟩:∃n:Nat,l=n:=⟨l.toNat,by omega⟩;have d9:n<f.data.length:=by omega
       have cl:((n:Int)).toNat=n:=by omega
       have a1:=HD.out.takeN (n:=n) (by omega);obtain⟨dc,dk,ba,c5,-⟩:=id HD.out.bytes;simp only[Value.slice.injEq,true_and]at ba;obtain⟨rfl,rfl⟩:=ba;have ds:(n:Int)<=(cc:Int):=by omega
       have M:(f.data.take n).length=n:=by rw[List.length_take];omega
       have au:dT L n m.pend[k]? = ap L (.put q { f with data:=f.data.take n }):=by
        rw[HC.out];exact(if_pos ⟨a5,br⟩).trans (by rw[cl])
       obtain⟨D,bq⟩:∃D,f.data.take n=D:=⟨_,rfl⟩;rw[bq]at a1 M au;have bs:Hid _:=a1;have FA:Hid _:=au;have da:Hid _:=M;have b8:=dV L (.put q { f with data:=D });clear a1 M au bq x;go_upto_region 9 with fail;obtain⟨wx,U⟩:∃wx,wx=wr.alloc (.cells #[.int .i64 1,S8 [],S8 q,.int .i64 f.mode,.slice ca f.data.length cc,.int .i64 f.time] 199):=⟨_,rfl⟩;have b3:Hid _:=U;have W:Ext wr wx:=by rw[U];exact(Ext.refl _).alloc _
       have a2:wx.heap[wr.heap.size]? = some (.cells #[.int .i64 1,S8 [],S8 q,.int .i64 f.mode,.slice ca f.data.length cc,.int .i64 f.time] 199 (0,0)):=by rw[U];exact ae _ _
       have Z:IsBytes wx (.slice ca n cc) D:=IsBytes.ext bs.out W;have bt:Hid _:=Z;obtain⟨y0,y1,y2,y3,y4,y5⟩:=cA a2;clear U Z x0 x1 x2 x3 x4 x5;rw[show wr.alloc (.cells #[.int .i64 1,S8 [],S8 q,.int .i64 f.mode,.slice ca f.data.length cc,.int .i64 f.time] 199)=wx from b3.out.symm];go_wp2_with fail;go_at_call 29;refine(ii _ D _ bt.out).mono ?_;rintro e w2 ⟨⟨v2,rfl,a3⟩,a6⟩;obtain⟨ea,ec,rfl,-⟩:=id a3.bytes;have bx:Hid _:=a3;have G:=a6.row a2;have ad:=W.trans a6;clear a3 y0 y1 y2 y3 y4 y5 a2
       go_wp2_with (refine ag rfl 37 (.tmp 90) (.tmp 88) rfl wr.heap.size 4 rfl (.slice ea D.length ec) rfl rfl _ _ G (Nat.le_of_ble_eq_true rfl) fD #[.int .i64 1,S8 [],S8 q,.int .i64 f.mode,.slice ea D.length ec,.int .i64 f.time] (by simp) ?_;intro w3 a9 C;have Q:Ext wr w3:=Ext.but ad C (Nat.le_refl _);obtain⟨y0,y1,y2,y3,y4,y5⟩:=cA a9)
       have a':IsData (Nw R w w3) w3 (.slice ea D.length ec) D:=by
        have hu:¬IsU8 w2 wr.heap.size:=aw G (by kernel_rfl);have h9:IsData (Nw R w w3) w2 (.slice ea D.length ec) D:=bx.out.mono (fun k y=>.inr ⟨by have:=y.1;have:=W.size;have:=Below.size HX.out;omega,by have:=y.2;have:=C.size;omega⟩);exact h9.BZ (dM C hu)
       have bS:Hid _:=a';have b2:Hid (bI (Nw R w w3) w3 (.slice ra L.length rc) L):=ReadL.Ce (ReadL.B4 S.out Q) (fun k y=>.inl y);have a8:Hid _:=Ext.trans HX.out Q;clear a' G W a6 ad;go_wp2_with fail;go_at_call 162;refine(ld (cs:=[.int .i64 1,S8 [],S8 q,.int .i64 f.mode,.slice ea D.length ec,.int .i64 f.time]) (c:=.put q { f with data:=D }) b2.out (by omega) ⟨cv,_,rfl,bS.out⟩).mono ?_;rintro e wf ⟨⟨v4,rfl,E,T⟩,V⟩;obtain⟨F,hF⟩:∃F,ap L (.put q { f with data:=D })=F:=⟨_,rfl⟩;rw[hF]at E FA b8;obtain⟨t,u,rfl,-⟩:=cg E;have FR:Hid (bI (Nw R w wf) wf (.slice t F.length u) F):=ReadL.Ce E (fun k y=>y.fst V.size);have FN:Hid (NewOr w (.slice sa m.sure.length sc) (.slice t F.length u)):=fun j hj=>by
        rcases T j hj with Y | Y
        .exact HN.out j Y
        .exact .inr (by have:=Below.size a8.out;omega)
       have FX:Hid (Ext w wf):=Ext.trans a8.out V;have FL:Hid (F.length<=9000000):=by unfold Hid;omega
       clear E T hF Q a9 C y0 y1 y2 y3 y4 y5
      case' neg =>
       have FA:Hid (dT L l m.pend[k]? = L):=by unfold Hid;rw[HC.out];exact if_neg P
       obtain⟨F,rfl⟩:∃F,F=L:=⟨_,rfl⟩;obtain⟨t,rfl⟩:∃t,t=ra:=⟨_,rfl⟩;obtain⟨u,rfl⟩:∃u,u=rc:=⟨_,rfl⟩;have FR:Hid (bI (Nw R w wr) wr (.slice t F.length u) F):=ReadL.Ce S.out (fun k y=>.inl y);have FN:Hid (NewOr w (.slice sa m.sure.length sc) (.slice t F.length u)):=HN.out;have FX:Hid (Ext w wr):=HX.out;have FL:Hid (F.length<=9000000):=by unfold Hid;omega
       clear x d0 d1 d2 d4 d5 d6 d7 d8
       by_cases a5:0<=l
       case' pos =>
        have br:¬l<(f.data.length:Int):=fun h=>P ⟨a5,h⟩
        clear P
       case' neg=>clear P
    all_goals
     have a4:=Ext.row FX.out HG.out;obtain⟨z0,z1,z2,z3,z4,z5,z6,z7,z8⟩:=ao a4
     go_wp2_with (first
      | (refine ag rfl 80 (.tmp 97) (.tmp 95) rfl g 1 rfl (.slice t F.length u) rfl rfl _ _ a4 (Nat.le_of_ble_eq_true rfl) lP (cr m.room (.slice t F.length u) (.slice sa m.sure.length sc) (.slice pa m.pend.length pc) vl m.calls m.time m.down vu) (by simp) ?_;intro w5 b' bh;have P5:RefPost O R w (.pointer (some ⟨g,0,none⟩)) { m with now:=F } w5:=RefPost.store (m':={ m with now:=F }) (Fr.BX FX.out) (.inl hO) a4 (((HP.out.ext FX.out).mono (fun k y=>.inl y) (fun k y=>.inl y)).CY FR.out (FN.out.CM HP.out.os FR.out.lt)) bh b')
      | (go_at_call 159;go_must (refine(kP P5.fs (by have:=FL.out;simp only;omega)).mono ?_;rintro e w6 ⟨rfl,h6⟩;have P6:=P5.trans h6;obtain⟨g',c0,c2,c1,cx,c3,cu,bd,b6,b7⟩:=P6.fs;cases cu))
      | (refine ag rfl 4 (.tmp 102) _ rfl g 7 rfl (.bool true) rfl rfl _ _ bd (Nat.le_of_ble_eq_true rfl) em (cr m.room c0 c2 c1 cx m.calls m.time true c3) (by simp[settle]) ?_;intro w7 cb bk))
     go_end0
     rw[a0.out,a7.out,FA.out];exact⟨rfl,RefPost.store (m':={ m with now:=F,sure:=F,pend:=[],down:=true }) P6.fr b6 bd b7 bk cb⟩
end
section
open Go Go.RowKit
variable [Inhabited bf]
theorem Al:(Tryz.prog.info? 122).map (fun i=>(i.zero,i.size,i.bytes))=some (some (.agg #[.int .i64 0,.int .i64 0,.int .i64 0,.int .i64 0,.int .i64 0,S8 [],.slice none 0 0]),7,80):=by kernel_rfl
section
variable {ops:Array Oper} {rest:List Oper} {o:Oper} {a:Act} {Q:Exit->Act->World->Prop} {w:World}
theorem nH (r:o.guard=none) (s x:Operand) (F:o.op=.call { callee:=.builtin .append,args:=#[s,x],argTypes:=#[82,82] })
  (d:Nat) (v:Value) (n:Nat) (xs:List Value) (G:a.eval s=v) (j:w.ownsRow d 122 7 v n xs)
  (g c:Nat) (b:List Value) (I:a.eval x=.slice (some ⟨g,0,none⟩) 1 c) (E:b.length=7) {fr:Nat×Nat} (C:w.heap[g]? = some (.cells b.toArray 122 fr)) (q:b.all (·.oneCell')=true)
  (K:n<=100000000) (e:d<=w.heap.size)
  (h:∀l p,p.ownsRow d 122 7 l (n+1) (xs++b)->w.grownBy p v.ownBlock->(∀k,l.ownBlock=some k->v.ownBlock=some k\/w.heap.size<=k)->wpList Tryz.prog ops Q rest (a.put o.dst l) p):wpList Tryz.prog ops Q (o::rest) a w:=by
 obtain⟨J,D,y,z,A⟩:=info_parts Al;exact wpList_append_own_at w r s x _ F d _ J _ 7 80 Tryz.underlying82 D y z A rfl (by omega) v n xs G j ⟨g,0,none⟩ 1 c b I (by simpa using E) (by simpa using cU C) (fun u H=>List.all_eq_true.1 q u H) (by unfold maxLen;omega) (by omega) e
  (fun l p q B _ i=>h l p q B (fun k t=>by
   rcases i with i | i
   .exact .inl (i.symm.trans t)
   .rw [i]at t;simp only[Option.some.injEq]at t;exact .inr (by omega)))
end
variable {w:World}
theorem mG {O R:Nat->Prop} {p y j Q:World} {m1:Fs} {g:Nat} {U vs V T E o:Value} {A:Array Value} {z:List (List Value)} {c:List Value} {e:Ev} (C:Fr O w p) (F:Nw O w p g)
  (G:RParts (Nw O w p) (Nw R w p) p U vs V T E m1.now m1.sure m1.pend m1.plan m1.users) (q:Ext p y) (n:j.ownsRow 0 122 7 o (m1.users.length+1) (z.flatten++c)) (t:Each (IsEvR (Nw R w p) p) z m1.users)
  (d:y.grownBy j E.ownBlock) (r:∀k,o.ownBlock=some k->E.ownBlock=some k\/y.heap.size<=k) (hc:IsEvR (fun k=>p.heap.size<=k) y c e) (J:j.heap[g]? = some (.cells A 84 (0,0))) (D:j.grownBy Q (some g))
  (K:Q.heap[g]? = some (.cells (cr m1.room U vs V T m1.calls m1.time m1.down o) 84 (0,0))):RefPost O R w (.pointer (some ⟨g,0,none⟩)) { m1 with users:=m1.users++[e] } Q:=by
 have l:=G.ext q;have Y:=q.size;have Z:=d.size;have aa:=C.size;have u:∀k,E.ownBlock=some k->¬IsU8 y k:=fun k i=>by
  obtain⟨W,X,N⟩:=l.users.typed k i;exact aw N (by kernel_rfl)
 have P:∀(R:Nat->Prop),KeepR R p j:=fun R=>by
  have a:=KeepR.B2 (R:=R) (KeepB.BX q);have b:KeepR R y j:=cw d u;exact KeepR.trans a b
 have M:∀k,o.ownBlock=some k->k<j.heap.size:=fun k i=>(n.lt k i).2
 have I:IsEvR (Nw R w j) j c e:=((hc.bound).mono (R':=Nw R w j) (fun k i=>.inr ⟨by omega,by omega⟩)).BZ (cw d u);have L:OwnL j 122 7 (IsEvR (Nw R w j) j) o (m1.users++[e]) :=
  OwnL.app t n (fun c x hx=>(hx.BZ (P _)).mono (fun k i=>i.fst (by omega))) I
 have H:=(l.mono (O':=Nw O w j) (R':=Nw R w j) (fun k i=>i.fst (by omega)) (fun k i=>i.fst (by omega))).CB d L (fun k i=>by
  rcases r k i with B | B
  .exact (l.ou k B).fst (by omega)
  .exact .inr ⟨by omega,M k i⟩) (fun k i S=>by
  rcases r k i with B | B
  .exact l.off k B S
  .have:=l.plan.lt k S;omega)
 refine RefPost.store (m':={ m1 with users:=m1.users++[e] }) ((C.ext q).step d (fun k i=>by rcases l.ou k i with h | h;exact .inl h;exact .inr h.1) u) (F.fst (by omega)) J H D K
theorem uH {m:Fs} {path:B8} {mode:Int} {data:B8} {only a:Bool} {b:Int}:(bC m path mode data only a b).1.now.length<=m.now.length+1/\(bC m path mode data only a b).1.users=m.users/\(bC m path mode data only a b).1.calls=m.calls:=by
 unfold bC bu;split
 .exact ⟨Nat.le_succ _,rfl,rfl⟩
 .split
  .exact ⟨Nat.le_succ _,rfl,rfl⟩
  .split
   .exact ⟨Nat.le_succ _,rfl,rfl⟩
   .split
    .exact ⟨Nat.le_succ _,rfl,rfl⟩
    .exact ⟨show(ap m.now ((Ch.put path ⟨mode,data,0⟩).at (m.time+1))).length<=m.now.length+1 from dV _ _,rfl,rfl⟩
variable {m:Fs}
theorem te (c:OkM m) (g:m.time<=9000000) (path:B8) (mode:Int) (data:B8):aO m path mode data=if m.down then(m,12)else if(bC m path mode data false false 1152921504606846976).2≠0 then bC m path mode data false false 1152921504606846976
  else({ settle (bC m path mode data false false 1152921504606846976).1 with users:=m.users++[⟨m.calls,4,mode,0,0,path,data⟩] },0):=by
 have h:=iR c g;unfold aO
 by_cases b:m.down=true
 .rw [if_pos b,if_pos b]
 .rw [if_neg b,if_neg b]
  by_cases a:bE path mode data≠0
  .have e:bC m path mode data false false 1152921504606846976=(m,bE path mode data):=by unfold bC;rw[if_pos a]
   rw[if_pos a,e,if_pos a]
  .have d:data.length<=20000:=by
    simp only[ne_eq,Decidable.not_not]at a;exact(gG a).2.2.2
   have e:bC m path mode data false false 1152921504606846976=bu m path mode data true:=by
    unfold bC;rw[if_neg a,if_neg (by simp),decide_eq_true (by omega)];rfl
   rw[if_neg a,e]
variable {p:Value}
theorem ki {O R:Nat->Prop} (path:B8) (mode:Int) (v:Value) (data:B8) (h:IsRef O R w p m) (y:OkM m) (ht:m.time<=7000000) (hp:path.length<=400) (hv:IsBytes w v data) (a2:Out O w v) :
  Calls Tryz.prog 104 #[p,S8 path,.int .i64 mode,v] w fun e J=>e=.returned (.int .i64 (aO m path mode data).2)/\RefPost O R w p (aO m path mode data).1 J:=by
 have HH:Hid (IsRef O R w p m):=h;have HV:Hid _:=hv;have W:Hid _:=y;have hl:=y.B7;have cp:=y.Cg;have G:=te y (by omega) path mode data;have t:Hid _:=G;obtain⟨a,c,rfl,-⟩:=hv.get;obtain⟨g,vn,vs,vp,vl,vu,rfl,hg,hO,hP⟩:=h;obtain⟨d0,d1,d2,d3,d4,d5,d6,d7,d8⟩:=ao hg;clear hg hP G y hv
 cases n:m.down with
 | true =>
  have b:aO m path mode data=(m,12):=by rw[t.out,n];rfl
  have r:Hid _:=b;rw[n]at d7;clear b n;go_enter Tryz.func104,Tryz.ntmps104;go_wp2;go_ret;rw[r.out];exact⟨rfl,RefPost.same HH.out (Ext.refl _)⟩
 | false =>
  rw[n]at d7;have U:Hid _:=n;clear n;obtain⟨j,Y,q⟩:∃j Y,bC m path mode data false false 1152921504606846976=(j,Y):=⟨_,_,rfl⟩;have V:Hid _:=q;have i:=@uH _ m path mode data false false 1152921504606846976;rw[q]at i;simp only at i;have bd:Hid _:=i.2.1;have bb:Hid _:=i.2.2;have cq:=i.1
  by_cases F:Y=0
  .subst F;have b:aO m path mode data=({ settle j with users:=m.users++[⟨m.calls,4,mode,0,0,path,data⟩] },0):=by rw[t.out,U.out,q];simp
   have r:Hid _:=b;clear b q i;go_enter Tryz.func104,Tryz.ntmps104
   go_wp2_with (first
    | (go_at_call 140;go_must (refine(mh path mode _ data false false 1152921504606846976 HH.out W.out (by omega) hp HV.out (by omega) (by omega)).mono ?_;rw[V.out];rintro e w3 ⟨rfl,x⟩;have C:Hid _:=x;clear x))
    | (go_at_call 159;go_must (refine(kP C.out.fs (by omega)).mono ?_;rintro e w4 ⟨rfl,ad⟩;have a9:Hid _:=ad;clear ad)))
   have P4:=RefPost.trans C.out a9.out;have ba:Hid _:=P4;have bl:Hid _:=IsBytes.fr HV.out a2 P4.fr;obtain⟨g4,b',cb,ca,b9,c0,bv,M,bo,K⟩:=P4.fs;cases bv;obtain⟨b0,b1,b2,b3,b4,b5,b6,b7,b8⟩:=ao M;have D:(settle j).users=m.users:=bd.out;have Z:(settle j).calls=m.calls:=bb.out;rw[Z]at b5;obtain⟨ce,d,l⟩:=K.users;obtain⟨ua,uc,rfl,-⟩:=Row.BV d (by rw[D];omega);have X:Hid _:=K;have a8:Hid _:=l;have a':Hid _:=M;have cs:(settle j).users.length<=10000000:=by rw[D];omega
   have bk:Hid _:=D;clear P4 K l M D Z d0 d1 d2 d3 d4 d5 d6 d7 d8 b0 b1 b2 b3 b4 b6 b7;apply cP 15 0 (.pointer (some ⟨g,0,none⟩)) [.pointer (some ⟨g,0,none⟩),_,_,_,_,_,_,_,_,_,_,_,undef,undef,undef] [none,none,none,none,none,none,none,none,none,none,none,none,some (fun u J=>IsData (fun k=>w4.heap.size<=k) J u data),some (fun u J=>∃A B,u=.agg #[.int .i64 m.calls,.int .i64 4,.int .i64 mode,.int .i64 0,.int .i64 0,S8 path,.slice A data.length B]/\IsData (fun k=>w4.heap.size<=k) J (.slice A data.length B) data),some (fun u J=>∃k A B,u=.slice (some ⟨k,0,none⟩) 1 1/\J.heap[k]? = some (.cells #[.int .i64 m.calls,.int .i64 4,.int .i64 mode,.int .i64 0,.int .i64 0,S8 path,.slice A data.length B] 122 (0,0))/\IsData (fun k=>w4.heap.size<=k) J (.slice A data.length B) data)] [[],[],[1],[2],[3],[],[5],[6],[7],[],[],[],[11],[8,9,10,12],[13]] (by kernel_rfl) (by kernel_rfl) (by simp[aq])
   .refine ⟨?_,?_,?_,trivial⟩
    .exact fun _ _ _ T hu=>hu.ext T
    .exact fun _ _ _ T ⟨A,B,h1,h2⟩=>⟨A,B,h1,h2.ext T⟩
    .exact fun _ _ _ T ⟨k,A,B,h1,h3,h4⟩=>⟨k,A,B,h1,T.row h3,h4.ext T⟩
   .exact ⟨_,rfl,rfl,fun w=>by go_simp⟩
   .exact fun _=>rfl
   .simp (maxSteps:=1000000)only[List.take_succ_cons,List.take_zero,ay,aE,ab,Act.put,List.setIfInBounds_toArray,List.set_cons_zero,List.set_cons_succ,aN,aS,aq,List.getD_cons_zero,List.getD_cons_succ,and_true,true_and,forall_const];and_intros
    iterate 12 · intro S wq Q;intros;rename_i L;have f8:=Q.cell b8;have f5:=Q.cell b5;go_simp;exact L _ _ (Ext.refl _) rfl
    .intro S wq Q o R L;go_simp;exact(ii _ data _ (IsBytes.ext bl.out Q)).mono (by rintro e' w7 ⟨⟨u,rfl,hu⟩,h2⟩;exact⟨_,rfl,L _ _ h2 (hu.mono (fun k o=>Nat.le_trans Q.size o.1))⟩)
    .intro S wq Q o R L;obtain⟨cm,cn,co,a1⟩:=o;obtain⟨qa,qc,bx,-⟩:=id a1.bytes;go_simp;exact L _ _ (Ext.refl _) ⟨_,_,rfl,bx▸a1⟩
    .intro S wq Q o R L;obtain⟨A,B,ct,bq⟩:=o;go_simp;exact L _ _ ((Ext.refl _).alloc _) ⟨_,_,_,rfl,ae _ _,bq.ext ((Ext.refl _).alloc _)⟩
   intro S w6 E o;simp only[aU,Nat.zero_add,Nat.reduceAdd,and_true]at o;have cv:=o.2.2.2.2.2.2.2.2.2.2.2.2.1;have cx:=o.2.2.2.2.2.2.2.2.2.2.2.2.2.1;have bS:=o.2.2.2.2.2.2.2.2.2.2.2.2.2.2;simp(maxSteps:=1000000)only[List.take_succ_cons,List.take_zero,List.drop_succ_cons,List.drop_zero,ab,Act.put,List.setIfInBounds_toArray,List.set_cons_zero,List.set_cons_succ,Nat.zero_add,Nat.reduceAdd,o];clear o;generalize S 12=c1 at *;generalize S 13=c2 at *;generalize S 14=c3 at *;obtain⟨k6,da,dc,rfl,bt,aa⟩:=bS;have P:=am d E;have N:=Ext.row E a'.out;have bh:Hid _:=X.out.ext E;have a7:Hid _:=aa;clear d aa b5 b8
   go_wp2_with (first
    | (at_builtin;go_must (refine nH rfl _ _ rfl 0 _ (settle j).users.length _ rfl P k6 1 _ rfl rfl bt (by simp[Value.oneCell']) (by omega) (Nat.zero_le _) ?_;intro v7 w7 z I a3;obtain⟨a5,a6,rfl⟩:=dD z (by omega);have au:w7.heap[g]? = _:=(I.block g (Array.getElem?_eq_some_iff.1 N).1 (fun br=>by obtain⟨cc,cl,a4⟩:=bh.out.users.typed g br.symm;rw[N]at a4;simp at a4)).trans N))
    | (refine ag rfl 82 (.tmp 40) (.tmp 38) rfl g 8 rfl (.slice (some ⟨a5,0,none⟩) ((settle j).users.length+1) a6) rfl rfl _ _ au (Nat.le_of_ble_eq_true rfl) jG (cr (settle j).room b' cb ca b9 (settle j).calls (settle j).time (settle j).down (.slice (some ⟨a5,0,none⟩) ((settle j).users.length+1) a6)) (by simp) ?_;intro w8 bs a0))
   refine NoP.intro ?_;go_wp2;go_ret;rw[r.out];refine⟨rfl,?_⟩;have H:=mG (m1:=settle j) (e:=⟨m.calls,4,mode,0,0,path,data⟩) ba.out.fr bo X.out E z a8.out I a3 ⟨_,rfl,a7.out,show path.length<=10000000 by omega⟩ au a0 bs;rw[bk.out]at H;exact H
  .have b:aO m path mode data=(j,Y):=by rw[t.out,U.out,q];simp[F]
   have r:Hid _:=b;have cu:(Y==0)=false:=by simpa using F
   clear b q i F;go_enter Tryz.func104,Tryz.ntmps104
   go_wp2_with (go_at_call 140;go_must (refine(mh path mode _ data false false 1152921504606846976 HH.out W.out (by omega) hp HV.out (by omega) (by omega)).mono ?_;rw[V.out];rintro e w3 ⟨rfl,x⟩;have C:Hid _:=x;clear x))
   go_ret;rw[r.out];exact⟨rfl,C.out⟩
theorem jM {O R:Nat->Prop} (path:B8) (h:IsRef O R w p m) (x:OkM m) (ht:m.time<=7000000) (hp:path.length<=400) :
  Calls Tryz.prog 106 #[p,S8 path] w fun e w'=>e=.returned (.int .i64 (aL m path).2)/\RefPost O R w p (aL m path).1 w':=by
 have HH:Hid (IsRef O R w p m):=h;have K:Hid _:=x;have hl:=x.B7;have bl:=x.Cg;have B:aL m path=if m.down then(m,12)else if(aG m path).2≠0 then aG m path
  else({ settle (aG m path).1 with users:=m.users++[⟨m.calls,5,0,0,0,path,[]⟩] },0):=rfl
 have o:Hid _:=B;obtain⟨g,vn,vs,vp,vl,vu,rfl,hg,hO,hP⟩:=h;obtain⟨d0,d1,d2,d3,d4,d5,d6,d7,d8⟩:=ao hg;clear hg hP B x
 cases j:m.down with
 | true =>
  have a:aL m path=(m,12):=by rw[o.out,j];rfl
  have n:Hid _:=a;rw[j]at d7;clear a j;go_enter Tryz.func106,Tryz.ntmps106;go_wp2;go_ret;rw[n.out];exact⟨rfl,RefPost.same HH.out (Ext.refl _)⟩
 | false =>
  rw[j]at d7;have I:Hid _:=j;clear j;obtain⟨d,M,l⟩:∃d M,aG m path=(d,M):=⟨_,_,rfl⟩;have J:Hid _:=l;have c:=@lK m path;rw[l]at c;simp only at c;have a0:Hid _:=c.2.1;have au:Hid _:=c.2.2;have bo:=c.1
  by_cases A:M=0
  .subst A;have a:aL m path=({ settle d with users:=m.users++[⟨m.calls,5,0,0,0,path,[]⟩] },0):=by rw[o.out,I.out,l];simp
   have n:Hid _:=a;clear a l c;go_enter Tryz.func106,Tryz.ntmps106
   go_wp2_with (first
    | (go_at_call 157;go_must (refine(mT path HH.out K.out (by omega) hp).mono ?_;rw[J.out];rintro e w3 ⟨rfl,q⟩;have t:Hid _:=q;clear q))
    | (go_at_call 159;go_must (refine(kP t.out.fs (by omega)).mono ?_;rintro e w4 ⟨rfl,P⟩;have Z:Hid _:=P;clear P)))
   have P4:=RefPost.trans t.out Z.out;have ad:Hid _:=P4;obtain⟨g4,a',bb,ba,a9,bs,a7,F,a3,E⟩:=P4.fs;cases a7;obtain⟨b0,b1,b2,b3,b4,b5,b6,b7,b8⟩:=ao F;have y:(settle d).users=m.users:=a0.out;have N:(settle d).calls=m.calls:=au.out;rw[N]at b5;obtain⟨bh,b,i⟩:=E.users;obtain⟨ua,uc,rfl,-⟩:=Row.BV b (by rw[y];omega);have L:Hid _:=E;have Y:Hid _:=i;have aa:Hid _:=F;have bq:(settle d).users.length<=10000000:=by rw[y];omega
   have a2:Hid _:=y;clear P4 E i F y N d0 d1 d2 d3 d4 d5 d6 d7 d8 b0 b1 b2 b3 b4 b6 b7;apply cP 12 0 (.pointer (some ⟨g,0,none⟩)) [.pointer (some ⟨g,0,none⟩),_,_,_,_,_,_,_,_,_,.agg #[.int .i64 m.calls,.int .i64 5,.int .i64 0,.int .i64 0,.int .i64 0,S8 path,.slice none 0 0],undef] [none,none,none,none,none,none,none,none,none,none,none,some (fun u w'=>∃k,u=.slice (some ⟨k,0,none⟩) 1 1/\w'.heap[k]? = some (.cells #[.int .i64 m.calls,.int .i64 5,.int .i64 0,.int .i64 0,.int .i64 0,S8 path,.slice none 0 0] 122 (0,0)))] [[],[],[1],[2],[3],[],[5],[6],[7],[],[8,9],[10]] (by kernel_rfl) (by kernel_rfl) (by simp[aq])
   .refine ⟨?_,trivial⟩
    .exact fun _ _ _ he ⟨k,h1,h3⟩=>⟨k,h1,he.row h3⟩
   .exact ⟨_,rfl,rfl,fun w=>by go_simp⟩
   .exact fun _=>rfl
   .simp (maxSteps:=1000000)only[List.take_succ_cons,List.take_zero,ay,aE,ab,Act.put,List.setIfInBounds_toArray,List.set_cons_zero,List.set_cons_succ,aN,aS,aq,List.getD_cons_zero,List.getD_cons_succ,and_true,true_and,forall_const];and_intros
    iterate 11 · intro xs wq hq;intros;rename_i hR;have f8:=hq.cell b8;have f5:=hq.cell b5;go_simp;exact hR _ _ (Ext.refl _) rfl
    .intro xs wq hq T R hR;go_simp;exact hR _ _ ((Ext.refl _).alloc _) ⟨_,rfl,ae _ _⟩
   intro xs w6 z T;simp only[aU,Nat.zero_add,Nat.reduceAdd,and_true]at T;have a8:=T.2.2.2.2.2.2.2.2.2.2.2;simp(maxSteps:=1000000)only[List.take_succ_cons,List.take_zero,List.drop_succ_cons,List.drop_zero,ab,Act.put,List.setIfInBounds_toArray,List.set_cons_zero,List.set_cons_succ,Nat.zero_add,Nat.reduceAdd,T];clear T;generalize xs 11=bt at *;obtain⟨k6,rfl,a6⟩:=a8;have H:=am b z;have G:=Ext.row z aa.out;have a1:Hid _:=L.out.ext z;clear b b5 b8
   go_wp2_with (first
    | (at_builtin;go_must (refine nH rfl _ _ rfl 0 _ (settle d).users.length _ rfl H k6 1 _ rfl rfl a6 (by simp[Value.oneCell']) (by omega) (Nat.zero_le _) ?_;intro v7 w7 r D U;obtain⟨W,X,rfl⟩:=dD r (by omega);have Q:w7.heap[g]? = _:=(D.block g (Array.getElem?_eq_some_iff.1 G).1 (fun a4=>by obtain⟨bd,bk,V⟩:=a1.out.users.typed g a4.symm;rw[G]at V;simp at V)).trans G))
    | (refine ag rfl 82 (.tmp 31) (.tmp 29) rfl g 8 rfl (.slice (some ⟨W,0,none⟩) ((settle d).users.length+1) X) rfl rfl _ _ Q (Nat.le_of_ble_eq_true rfl) jG (cr (settle d).room a' bb ba a9 (settle d).calls (settle d).time (settle d).down (.slice (some ⟨W,0,none⟩) ((settle d).users.length+1) X)) (by simp) ?_;intro w8 a5 S))
   refine NoP.intro ?_;go_wp2;go_ret;rw[n.out];refine⟨rfl,?_⟩;have C:=mG (m1:=settle d) (e:=⟨m.calls,5,0,0,0,path,[]⟩) ad.out.fr a3 L.out z r Y.out D U ⟨_,rfl,IsData.nil _ _,show path.length<=10000000 by omega⟩ Q S a5;rw[a2.out]at C;exact C
  .have a:aL m path=(d,M):=by rw[o.out,I.out,l];simp[A]
   have n:Hid _:=a;have br:(M==0)=false:=by simpa using A
   clear a l c A;go_enter Tryz.func106,Tryz.ntmps106
   go_wp2_with (go_at_call 157;go_must (refine(mT path HH.out K.out (by omega) hp).mono ?_;rw[J.out];rintro e w3 ⟨rfl,q⟩;have t:Hid _:=q;clear q))
   go_ret;rw[n.out];exact⟨rfl,t.out⟩
end
section
open Go Go.RowKit
variable [Inhabited bf]
variable {w:World}
theorem qF {g:Nat} {a b c d e i j:Value} {t:TypeId} {fr:Nat×Nat} (h:w.heap[g]? = some (.cells #[a,b,c,d,e,i,j] t fr)) :
  w.cell? ⟨g,0,none⟩=some a/\w.cell? ⟨g,1,none⟩=some b/\w.cell? ⟨g,2,none⟩=some c/\w.cell? ⟨g,3,none⟩=some d/\w.cell? ⟨g,4,none⟩=some e/\w.cell? ⟨g,5,none⟩=some i/\w.cell? ⟨g,6,none⟩=some j:=by
 simp[World.cell?,h]
theorem dC {O R:Nat->Prop} {p:Value} {m:Fs} (h:IsRef O R w p m) (a':Ext cy w) (bk:∀k,O k->cy.heap.size<=k) (bo:OkM m) (Z:fH m) (ht:m.time<=6000000) (cv:m.calls<=10000000) :
  Calls Tryz.prog 139 #[p] w fun e w'=>e=.returned (.tuple #[.bool (av m).2.1,.int .i64 (av m).2.2])/\RefPost O R w p (av m).1 w':=by
 obtain⟨g,vn,vs,vp,vl,vu,rfl,hg,hO,hP⟩:=h;obtain⟨d0,d1,d2,d3,d4,d5,d6,d7,d8⟩:=ao hg;have HG:Hid _:=hg;have HP:Hid _:=hP;have b':Hid _:=Z;have b8:Hid _:=bo;have c0:=Z.len;have a1:Hid _:=a';have a4:Hid _:=bk;have b9:Hid (av m=((m.plan.foldl (bF (m.calls+1)) (cH m,false,false)).1,(m.plan.foldl (bF (m.calls+1)) (cH m,false,false)).2.1,if(m.plan.foldl (bF (m.calls+1)) (cH m,false,false)).1.down then 12 else if(m.plan.foldl (bF (m.calls+1)) (cH m,false,false)).2.2 then 11 else 0)):=rfl;clear hg hP bo Z a' bk;go_enter Tryz.func139,Tryz.ntmps139
 go_wp2_with (refine ag rfl 3 (.tmp 14) (.tmp 12) rfl g 5 rfl (.int .i64 ((m.calls:Int)+1)) rfl rfl _ _ HG.out (Nat.le_of_ble_eq_true rfl) fh (cr m.room vn vs vp vl (m.calls+1) m.time m.down vu) (by simp) ?_;intro w1 bh W;have b6:Hid (RefPost O R w (.pointer (some ⟨g,0,none⟩)) (cH m) w1):=RefPost.store (m':=cH m) (Fr.refl O w) (.inl hO) HG.out (HP.out.mono (fun k I=>.inl I) (fun k I=>.inl I)) W bh)
 clear bh W d0 d1 d2 d3 d4 d5 d6 d7 d8;go_loopw [4,5,6] (fun fu br i wr=>∃(k:Nat) (x:Fs×Bool×Bool),k<=m.plan.length/\i=.int .i64 k/\fu=.bool x.2.1/\br=.bool x.2.2/\x=(m.plan.take k).foldl (bF (m.calls+1)) (cH m,false,false)/\RefPost O R w (.pointer (some ⟨g,0,none⟩)) x.1 wr/\Mid m k x) (fun _ _ i _=>m.plan.length - (intOf i).toNat)
 case atStart=>exact⟨0,(cH m,false,false),Nat.zero_le _,rfl,rfl,rfl,rfl,b6.out,Mid.start b8.out⟩
 case round =>
  obtain⟨k,⟨u,A,z⟩,I,rfl,rfl,rfl,hx,hf,C⟩:=hrel;have a7:Hid _:=hx;have HF:Hid (RefPost O R w (.pointer (some ⟨g,0,none⟩)) u wr):=hf;have S:Hid _:=C;have cn:u.plan=m.plan:=C.plan;have cc:u.calls=m.calls+1:=C.calls;have c1:u.time<=m.time+k:=C.time;obtain⟨g',c3,c5,c4,c2,c6,M,bd,cu,a8⟩:=hf.fs;cases M;have G:=a8.plan;rw[cn]at G;obtain⟨a,ct,rfl,l1,l2,l3,V⟩:=lI 7 (fun c x hx=>hx.length.1) (by omega) (OwnL.CH G (by omega));have a3:Hid _:=V;obtain⟨z0,z1,z2,z3,z4,z5,z6,z7,z8⟩:=ao bd;have co:Hid _:=bd;rw[cc]at z5;clear hx hf C G V a8 z0 z1 z2 z3 z6 z8
  by_cases cm:k<m.plan.length
  .obtain ⟨e,K⟩:∃e,m.plan[k]? = some e:=⟨_,List.getElem?_eq_getElem cm⟩;obtain⟨b,o,cs,rfl,ce,y⟩:=a3.out k e K;obtain⟨vd,rfl,hd,-⟩:=ce;obtain⟨q1,q2,rfl,-⟩:=id hd.bytes;have y0:=y 0 _ rfl;have y1:=y 1 _ rfl;have y2:=y 2 _ rfl;have y3:=y 3 _ rfl;have y4:=y 4 _ rfl;have y5:=y 5 _ rfl;have y6:=y 6 _ rfl;simp only[Nat.add_zero]at y0;have cp:Hid _:=K;have N:(m.plan.take (k+1)).foldl (bF (m.calls+1)) (cH m,false,false)=bF (m.calls+1) (u,A,z) e:=by
    rw[List.take_add_one,K,Option.toList_some,List.foldl_append,<-a7.out];rfl
   have F:Hid _:=N;have M:=b'.out.ev e (List.mem_of_getElem? K);have a5:Hid _:=M;have E:Hid (Mid m (k+1) (bF (m.calls+1) (u,A,z) e)):=by
    have h1:=S.out.next (k:=m.calls+1) e
    refine⟨h1.ok,?_,h1.Cq,h1.plan,h1.calls,h1.room⟩;have:=h1.time;split at this <;> omega
   have T:Hid (bF (m.calls+1) (u,A,z) e=if e.t≠((m.calls+1:Nat):Int)then(u,A,z)else(ep u e,A || fS e==10,z || fS e==11)):=ip _ _ _;obtain⟨t,d,q,n,r,l,j⟩:=e;simp only at M y0 y1 y2 y3 y4 y5 y6 hd;have bv:Ext wr (wr.alloc (.cells #[.int .i64 t,.int .i64 d,.int .i64 q,.int .i64 n,.int .i64 r,S8 l,.slice q1 j.length q2] 122)):=(Ext.refl _).alloc _;have cq:Hid _:=bv;have HD:Hid _:=hd;obtain⟨bt,ba⟩:∃bt,(t != (m.calls:Int)+1)=bt:=⟨_,rfl⟩;have a2:Hid _:=ba;clear y hd N bv K M;go_wp2_with fail;obtain⟨wx,Q⟩:∃wx,wx=wr.alloc (.cells #[.int .i64 t,.int .i64 d,.int .i64 q,.int .i64 n,.int .i64 r,S8 l,.slice q1 j.length q2] 122):=⟨_,rfl⟩;have au:Ext wr wx:=by rw[Q];exact(Ext.refl _).alloc _
   have Y:wx.heap[wr.heap.size]? = some (.cells #[.int .i64 t,.int .i64 d,.int .i64 q,.int .i64 n,.int .i64 r,S8 l,.slice q1 j.length q2] 122 (0,0)):=by rw[Q];exact ae _ _
   have a0:=au.cell z5;rw[show((m.calls+1:Nat):Int)=(m.calls:Int)+1 by omega]at a0;obtain⟨e0,-⟩:=qF Y;have cb:Hid _:=Q;clear Q y0 y1 y2 y3 y4 y5 y6 z4 z7;rw[show wr.alloc (.cells #[.int .i64 t,.int .i64 d,.int .i64 q,.int .i64 n,.int .i64 r,S8 l,.slice q1 j.length q2] 122)=wx from cb.out.symm];apply ak 7 [_,_,_,_,_,_,.bool bt] [none,none,none,none,none,none,none] [[],[0],[],[2],[3],[4],[1,5]] (by kernel_rfl) (by kernel_rfl) (by simp[aq])
   .trivial
   .simp (maxSteps:=1000000)only[List.take_succ_cons,List.take_zero,ay,aE,ab,Act.put,List.setIfInBounds_toArray,List.set_cons_zero,List.set_cons_succ,aN,aS,aq,List.getD_cons_zero,List.getD_cons_succ,and_true,true_and,forall_const];and_intros
    iterate 7 · intro xs wq hq;intros;rename_i hR;have f0:=hq.cell e0;have f5:=hq.cell a0;go_simp;exact hR _ _ (Ext.refl _) rfl
   intro xs w2 aa I;simp only[aU,Nat.zero_add,Nat.reduceAdd,and_true]at I;simp(maxSteps:=1000000)only[List.take_succ_cons,List.take_zero,List.drop_succ_cons,List.drop_zero,ab,Act.put,List.setIfInBounds_toArray,List.set_cons_zero,List.set_cons_succ,Nat.zero_add,Nat.reduceAdd,I];clear I;have a9:=aa.row Y;obtain⟨f0,f1,f2,f3,f4,f5,f6⟩:=qF a9;have bS:Ext wr w2:=au.trans aa;have B:Hid (RefPost O R w (.pointer (some ⟨g,0,none⟩)) u w2):=RefPost.ext HF.out bS;have b0:Hid (IsBytes w2 (.slice q1 j.length q2) j):=OldB.at HD.out ((Ext.Cb a1.out HF.out.fr a4.out).trans bS);have b7:Hid (Out (Nw O w w2) w2 (.slice q1 j.length q2)):=OldB.out HD.out (fun k I=>by
    rcases I with I | I
    .exact a4.out k I
    .have:=Below.size a1.out;omega)
   have cx:=HD.out.bytes.len;clear au Y a0 e0 aa a9 ba z5
   cases bt with
   | true =>
    have ca:Hid (¬t=((m.calls+1:Nat):Int)):=by
     have:=a2.out;intro h9;rw[h9]at this;simp at this
    clear f0 f1 f2 f3 f4 f5 f6;go_wp2;go_roundw
    case rel =>
     have D:bF (m.calls+1) (u,A,z) ⟨t,d,q,n,r,l,j⟩=(u,A,z):=by rw[T.out,if_pos ca.out]
     exact⟨k+1,(u,A,z),by omega,by go_num,rfl,rfl,(F.out.trans D).symm,B.out,by rw[<-D];exact E.out⟩
    case measure=>simp[intOf];omega
   | false =>
    have H:Hid (bF (m.calls+1) (u,A,z) ⟨t,d,q,n,r,l,j⟩=(if d=1 then cX u n r else if d=4 then(aO u l q j).1 else if d=5 then(aL u l).1 else u,A || (if d=2 then 10 else if d=3 then 11 else(0:Int))==10,z || (if d=2 then 10 else if d=3 then 11 else(0:Int))==11)):=by
     have h9:t=((m.calls+1:Nat):Int):=by
      have:=a2.out;simp at this;omega
     unfold Hid;rw[T.out,if_neg (by simp only[ne_eq,Decidable.not_not];exact h9)];rfl
    obtain⟨bl,bs,bq⟩:=a5.out;have L:Hid (OkM u):=S.out.ok;clear f0
    by_cases k1:d=1
    .subst k1
     go_wp2_with (go_at_call 108;go_must (refine(nK n r B.out.fs L.out (by omega) bl bs).mono ?_;rintro e3 w3 ⟨rfl,U⟩;have J:Hid _:=RefPost.trans B.out U;clear U))
     go_roundw
     case rel =>
      have D:bF (m.calls+1) (u,A,z) ⟨t,1,q,n,r,l,j⟩=(cX u n r,A,z):=by rw[H.out];simp
      exact⟨k+1,(cX u n r,A,z),by omega,by go_num,rfl,rfl,(F.out.trans D).symm,J.out,by rw[<-D];exact E.out⟩
     case measure=>simp[intOf];omega
    have b1:(d==1)=false:=by simpa using k1
    by_cases k2:d=2
    .subst k2;go_wp2;go_roundw
     case rel =>
      have D:bF (m.calls+1) (u,A,z) ⟨t,2,q,n,r,l,j⟩=(u,true,z):=by rw[H.out];simp
      exact⟨k+1,(u,true,z),by omega,by go_num,rfl,rfl,(F.out.trans D).symm,B.out,by rw[<-D];exact E.out⟩
     case measure=>simp[intOf];omega
    have b2:(d==2)=false:=by simpa using k2
    by_cases k3:d=3
    .subst k3;go_wp2;go_roundw
     case rel =>
      have D:bF (m.calls+1) (u,A,z) ⟨t,3,q,n,r,l,j⟩=(u,A,true):=by rw[H.out];simp
      exact⟨k+1,(u,A,true),by omega,by go_num,rfl,rfl,(F.out.trans D).symm,B.out,by rw[<-D];exact E.out⟩
     case measure=>simp[intOf];omega
    have b3:(d==3)=false:=by simpa using k3
    by_cases k4:d=4
    .subst k4
     go_wp2_with (go_at_call 104;go_must (refine(ki l q (.slice q1 j.length q2) j B.out.fs L.out (by omega) bq b0.out b7.out).mono ?_;rintro e3 w3 ⟨rfl,U⟩;have J:Hid _:=RefPost.trans B.out U;clear U))
     go_roundw
     case rel =>
      have D:bF (m.calls+1) (u,A,z) ⟨t,4,q,n,r,l,j⟩=((aO u l q j).1,A,z):=by rw[H.out];simp
      exact⟨k+1,((aO u l q j).1,A,z),by omega,by go_num,rfl,rfl,(F.out.trans D).symm,J.out,by rw[<-D];exact E.out⟩
     case measure=>simp[intOf];omega
    have b4:(d==4)=false:=by simpa using k4
    by_cases k5:d=5
    .subst k5
     go_wp2_with (go_at_call 106;go_must (refine(jM l B.out.fs L.out (by omega) bq).mono ?_;rintro e3 w3 ⟨rfl,U⟩;have J:Hid _:=RefPost.trans B.out U;clear U))
     go_roundw
     case rel =>
      have D:bF (m.calls+1) (u,A,z) ⟨t,5,q,n,r,l,j⟩=((aL u l).1,A,z):=by rw[H.out];simp
      exact⟨k+1,((aL u l).1,A,z),by omega,by go_num,rfl,rfl,(F.out.trans D).symm,J.out,by rw[<-D];exact E.out⟩
     case measure=>simp[intOf];omega
    have b5:(d==5)=false:=by simpa using k5
    have a6:Hid (bF (m.calls+1) (u,A,z) ⟨t,d,q,n,r,l,j⟩=(u,A,z)):=by unfold Hid;rw[H.out,if_neg k1,if_neg k4,if_neg k5,if_neg k2,if_neg k3];simp
    clear k1 k2 k3 k4 k5;go_wp2;go_roundw
    case rel=>exact⟨k+1,(u,A,z),by omega,by go_num,rfl,rfl,(F.out.trans a6.out).symm,B.out,by rw[<-a6.out];exact E.out⟩
    case measure=>simp[intOf];omega
  .have cl:k=m.plan.length:=by omega
   subst cl;have ad:=a7.out;rw[List.take_length]at ad;have P:Hid (av m=(u,A,if u.down then 12 else if z then 11 else 0)):=by
    unfold Hid;rw[b9.out,<-ad]
   have X:Hid (RefPost O R w (.pointer (some ⟨g,0,none⟩)) u wr):=HF.out;obtain⟨dn,bb⟩:∃dn,u.down=dn:=⟨_,rfl⟩;rw[bb]at z7 P;clear ad bb
   cases dn with
   | true =>
    go_wp2;go_ret2;rw[P.out];exact⟨rfl,X.out⟩
   | false =>
    cases z with
    | true =>
     go_wp2;go_ret2;rw[P.out];exact⟨rfl,X.out⟩
    | false =>
     go_wp2;go_ret2;rw[P.out];exact⟨rfl,X.out⟩
end
end Go.Proofs.YtfabjgfmiaammaaGreatDoor
