/- Contracts of the program's functions and plain laws behind the card. Conditions: as each theorem states. -/
import Derived.Test.YtfabjgfmiaammaaGreatDoorYba
set_option linter.unusedVariables false
set_option linter.unusedSimpArgs false
set_option linter.unusedSectionVars false
set_option maxRecDepth 100000
set_option maxHeartbeats 64000000
namespace Go.Proofs.YtfabjgfmiaammaaGreatDoor
section
open Go Go.RowKit
variable [Inhabited bf]
section
variable {O R:Nat->Prop} {w:World} {p:Value} {m:Fs}
theorem sQ (h:IsRef O R w p m):Calls Tryz.prog 109 #[p] w fun e x=>e=.returned (.tuple #[])/\RefPost O R w p (dH m) x:=by
 obtain⟨g,q,t,r,o,u,rfl,j,n,i⟩:=h;have d:Hid _:=j;have l:Hid _:=i;clear j i;go_enter Tryz.func109,Tryz.ntmps109
 go_wp2_with (refine ag rfl 4 (.tmp 4) _ rfl g 7 rfl (.bool false) rfl rfl _ _ d.out (Nat.le_of_ble_eq_true rfl) em (cr m.room q t r o m.calls m.time false u) (by simp) ?_;intro y b a)
 go_end0
 exact⟨rfl,RefPost.store (m':=dH m) (Fr.refl O w) (.inl n) d.out (l.out.mono (fun k c=>.inl c) (fun k c=>.inl c)) a b⟩
end
def xH (a:Int) (w:World) (e:Ending) (w':World):Prop:=(∃p,e=.returned (.tuple #[p,.int .i64 0])/\IsRef (Nu w w') (fun _=>False) w' p (fU a))/\Ext w w'
theorem yy (a:Int) (w:World) (e:0<=a) (g:a<=1073741824) :
  Calls Tryz.prog 8 #[.int .i64 a] w (xH a w):=by
 have b:¬a<0:=by omega
 have c:¬1073741824<a:=by omega
 go_enter Tryz.func8,Tryz.ntmps8;go_wp2;go_ret2;refine⟨⟨_,rfl,w.heap.size,.slice none 0 0,.slice none 0 0,.slice none 0 0,.slice none 0 0,.slice none 0 0,rfl,ae w (.cells (cr a (.slice none 0 0) (.slice none 0 0) (.slice none 0 0) (.slice none 0 0) 0 0 false (.slice none 0 0)) 84),⟨Nat.le_refl _,by simp⟩,?_⟩,(Ext.refl _).alloc _⟩;exact⟨ReadL.nil _ _ _,Inn.nil _ _ _,ReadL.nil _ _ _,Inn.nil _ _ _,OwnL.nil _ _ _ _,Inn.nil _ _ _,OwnL.nil _ _ _ _,Inn.nil _ _ _,OwnL.nil _ _ _ _,Inn.nil _ _ _,fun k d=>by simp[Value.ownBlock]at d⟩
theorem wT {O R:Nat->Prop} {w:World} {p v:Value} {m:Fs} {L:List Ev} {D:List (List Value)} (h:IsRef O R w p m) (hv:Row w v L.length D.flatten) (he:Each IsEvD D L) (X:∀k,v.ownBlock=some k->k<w.heap.size/\¬O k) (hl:L.length<=1000) :
  Calls Tryz.prog 110 #[p,v] w fun e w'=>e=.returned (.tuple #[])/\RefPost O R w p (eG m L) w':=by
 obtain⟨g,vn,vs,vp,vl,vu,rfl,hg,hO,hP⟩:=h;have cl:=(Array.getElem?_eq_some_iff.1 hg).1;have HP:Hid _:=hP;have HG:Hid _:=hg;have HE:Hid _:=he;have ce:D.length=L.length:=he.1;have h7:=Each.len he (fun c x hx=>hx.length.1);have HL:Hid _:=X;obtain⟨a,cb,rfl,l1,l2,l3,E⟩:=id hv;have HC:Hid _:=E;have H7:Hid _:=h7;clear hg hP he h7 X E hv;go_enter Tryz.func110,Tryz.ntmps110
 go_wp2_with (refine ag rfl 82 (.tmp 7) _ rfl g 4 rfl (.slice none 0 0) rfl rfl _ _ HG.out (Nat.le_of_ble_eq_true rfl) jG (cr m.room vn vs vp (.slice none 0 0) m.calls m.time m.down vu) (by simp) ?_;intro w1 b1 bl)
 go_loopw [4] (fun i wr=>∃(k:Nat) (A:Value),k<=L.length/\i=.int .i64 k/\wr.heap[g]? = some (.cells (cr m.room vn vs vp A m.calls m.time m.down vu) 84 (0,0))/\OwnL wr 122 7 IsEvD A ((L.take k).filter fun e=>decide ((m.calls:Int)<e.t))/\(∀j,A.ownBlock=some j->w.heap.size<=j)/\w.grownBy wr (some g)) (fun i _=>L.length - (intOf i).toNat)
 case atStart=>exact⟨0,_,Nat.zero_le _,rfl,b1,OwnL.nil _ _ _ _,fun j t=>by simp[Value.ownBlock]at t,bl⟩
 case round =>
  obtain⟨k,A,n,rfl,Q,Z,Y,a0⟩:=hrel;have ad:Hid _:=Z;have l:Hid _:=Y;have M:Hid _:=a0;have br:Hid _:=Q;have co:=a0.size;clear Z Y a0
  by_cases b6:k<L.length
  .obtain ⟨e,a2⟩:∃e,L[k]? = some e:=⟨_,List.getElem?_eq_getElem b6⟩;obtain⟨c,a1⟩:∃c,D[k]? = some c:=⟨_,List.getElem?_eq_getElem (by omega)⟩;have P:=HE.out.2 k c e a1 a2;have au:=fun j u hu=>fQ 7 D k j c u H7.out a1 hu
   obtain⟨b,o,bv,bd⟩:=HC.out (by
    intro bo;have h0:c[0]? = some (c[0]'(by rw[P.length.1];omega)):=List.getElem?_eq_getElem _;have:=au 0 _ h0;rw[bo]at this;simp at this)
   subst bv;have ba:=HL.out b rfl;have bx:b≠g:=fun e=>ba.2 (e▸hO)
   have r:∀j u,c[j]? = some u->wr.cell? ⟨b,o+k*7+j,none⟩=some u:=fun j u hu=>by
    rw[World.cell?_of_block (w:=w) (w':=wr) (a:=⟨b,o+k*7+j,none⟩) (M.out.block b ba.1 (by simpa using bx))];have:=bd _ _ (au j u hu)
    rwa [Nat.mul_comm 7 k,<-Nat.add_assoc]at this
   have bq:Hid _:=P;obtain⟨vd,rfl,hd,-⟩:=id P;obtain⟨q1,q2,rfl,-⟩:=id hd.bytes;have y0:=r 0 _ rfl;have y1:=r 1 _ rfl;have y2:=r 2 _ rfl;have y3:=r 3 _ rfl;have y4:=r 4 _ rfl;have y5:=r 5 _ rfl;have y6:=r 6 _ rfl;simp only[Nat.add_zero]at y0;obtain⟨z0,z1,z2,z3,z4,z5,z6,z7,z8⟩:=ao Q;have a':Hid ((L.take (k+1)).filter (fun e=>decide ((m.calls:Int)<e.t))=(L.take k).filter (fun e=>decide ((m.calls:Int)<e.t))++(if(m.calls:Int)<e.t then[e]else[])):=by
    unfold Hid;rw[List.take_add_one,a2,Option.toList_some,List.filter_append];congr 1
    by_cases h0:(m.calls:Int)<e.t
    .rw [if_pos h0,List.filter_cons_of_pos (by simpa using h0)];rfl
    .rw [if_neg h0,List.filter_cons_of_neg (by simpa using h0)];rfl
   have b0:((L.take k).filter (fun e=>decide ((m.calls:Int)<e.t))).length<=1000:=Nat.le_trans (List.length_filter_le _ _) (Nat.le_trans (List.length_take_le _ _) (by omega));have b':(k:Int)<(L.length:Int):=by omega
   clear P au bd r hd a2 a1;obtain⟨bt,bb⟩:∃bt,decide ((m.calls:Int)<e.t)=bt:=⟨_,rfl⟩;have a7:Hid _:=bb;go_wp2_with fail;apply ak 10 [_,_,_,_,_,_,_,_,_,.bool bt] [none,none,none,none,none,none,none,none,none,none] [[],[],[0,1],[2],[3],[],[5],[6],[7],[4,8]] (by kernel_rfl) (by kernel_rfl) (by simp[aq])
   .trivial
   .simp (maxSteps:=1000000)only[List.take_succ_cons,List.take_zero,ay,aE,ab,Act.put,List.setIfInBounds_toArray,List.set_cons_zero,List.set_cons_succ,aN,aS,aq,List.getD_cons_zero,List.getD_cons_succ,and_true,true_and,forall_const];and_intros
    iterate 10 · intro xs wq B;intros;rename_i hR;have f0:=B.cell y0;have f5:=B.cell z5;go_simp;exact hR _ _ (Ext.refl _) rfl
   intro xs w2 d n;simp only[aU,Nat.zero_add,Nat.reduceAdd,and_true]at n;simp(maxSteps:=1000000)only[List.take_succ_cons,List.take_zero,List.drop_succ_cons,List.drop_zero,ab,Act.put,List.setIfInBounds_toArray,List.set_cons_zero,List.set_cons_succ,Nat.zero_add,Nat.reduceAdd,n];clear n;have ca:Hid _:=d;have C:Hid (OwnL w2 122 7 IsEvD A ((L.take k).filter fun e=>decide ((m.calls:Int)<e.t))):=OwnL.stay ad.out (fun j t=>d.block j (OwnL.lt ad.out j t));have bh:=d.row Q;have T:Hid (w.grownBy w2 (some g)):=dX M.out d;replace y0:=d.cell y0;replace y1:=d.cell y1;replace y2:=d.cell y2;replace y3:=d.cell y3;replace y4:=d.cell y4;replace y5:=d.cell y5;replace y6:=d.cell y6;replace z4:=d.cell z4;have cm:=d.size;clear bb d Q z0 z1 z2 z3 z5 z6 z7 z8
   cases bt with
   | false =>
    have hn:¬(m.calls:Int)<e.t:=by simpa using a7.out
    have N:Hid _:=a'.out.trans (by rw[if_neg hn,List.append_nil]);clear hn y0 y1 y2 y3 y4 y5 y6 z4;go_wp2;go_roundw
    case rel=>exact⟨k+1,A,by omega,by go_num,bh,by rw[N.out];exact C.out,l.out,T.out⟩
    case measure=>simp[intOf];omega
   | true =>
    have hn:(m.calls:Int)<e.t:=by simpa using a7.out
    have N:Hid _:=a'.out.trans (by rw[if_pos hn]);have V:IsEvD [.int .i64 e.t,.int .i64 e.kind,.int .i64 e.mode,.int .i64 e.keep,.int .i64 e.BW,S8 e.path,.slice q1 e.data.length q2] e:=bq.out;have a8:Hid _:=V;obtain⟨F,hF⟩:∃F,(L.take k).filter (fun e=>decide ((m.calls:Int)<e.t))=F:=⟨_,rfl⟩;rw[hF]at C N b0;obtain⟨ds,y,z⟩:=C.out;obtain⟨pa,pc,rfl,-⟩:=Row.BV y (by omega);have S:Hid _:=z;clear hn V z hF;go_wp2_with fail;apply cP 10 0 (.pointer (some ⟨g,0,none⟩)) [.pointer (some ⟨g,0,none⟩),_,_,_,_,_,_,_,.agg #[.int .i64 e.t,.int .i64 e.kind,.int .i64 e.mode,.int .i64 e.keep,.int .i64 e.BW,S8 e.path,.slice q1 e.data.length q2],undef] [none,none,none,none,none,none,none,none,none,some (fun u w'=>∃k,u=.slice (some ⟨k,0,none⟩) 1 1/\w'.heap[k]? = some (.cells #[.int .i64 e.t,.int .i64 e.kind,.int .i64 e.mode,.int .i64 e.keep,.int .i64 e.BW,S8 e.path,.slice q1 e.data.length q2] 122 (0,0)))] [[],[],[1],[2],[3],[],[],[5,6],[7],[8]] (by kernel_rfl) (by kernel_rfl) (by simp[aq])
    .refine ⟨?_,trivial⟩
     .exact fun _ _ _ he ⟨k,U,h3⟩=>⟨k,U,he.row h3⟩
    .exact ⟨_,rfl,rfl,fun w=>by go_simp⟩
    .exact fun _=>rfl
    .simp (maxSteps:=1000000)only[List.take_succ_cons,List.take_zero,ay,aE,ab,Act.put,List.setIfInBounds_toArray,List.set_cons_zero,List.set_cons_succ,aN,aS,aq,List.getD_cons_zero,List.getD_cons_succ,and_true,true_and,forall_const];and_intros
     iterate 9 · intro xs wq B;intros;rename_i hR;have f4:=B.cell z4;have c0:=B.cell y0;have c1:=B.cell y1;have c2:=B.cell y2;have c3:=B.cell y3;have c4:=B.cell y4;have c5:=B.cell y5;have c6:=B.cell y6;go_simp;exact hR _ _ (Ext.refl _) rfl
     .intro xs wq B n R hR;go_simp;exact hR _ _ ((Ext.refl _).alloc _) ⟨_,rfl,ae _ _⟩
    intro xs w6 J n;simp only[aU,Nat.zero_add,Nat.reduceAdd,and_true]at n;have q9:=n.2.2.2.2.2.2.2.2.2;simp(maxSteps:=1000000)only[List.take_succ_cons,List.take_zero,List.drop_succ_cons,List.drop_zero,ab,Act.put,List.setIfInBounds_toArray,List.set_cons_zero,List.set_cons_succ,Nat.zero_add,Nat.reduceAdd,n];clear n;generalize xs 9=x9 at *;obtain⟨k6,rfl,b4⟩:=q9;have a4:=am y J;have W:=Ext.row J bh;have a9:Hid (w.grownBy w6 (some g)):=dX T.out J;have cn:=J.size;clear y y0 y1 y2 y3 y4 y5 y6 z4
    go_wp2_with (first
     | (at_builtin;go_must (refine nH rfl _ _ rfl 0 _ F.length _ rfl a4 k6 1 _ rfl rfl b4 (by simp[Value.oneCell']) (by omega) (Nat.zero_le _) ?_;intro v7 w7 I G aa;obtain⟨K,a6,rfl⟩:=dD I (by omega);have bk:w7.heap[g]? = _:=(G.block g (Array.getElem?_eq_some_iff.1 W).1 (fun bS=>by have:=l.out g bS.symm;omega)).trans W))
     | (refine ag rfl 82 (.tmp 36) (.tmp 34) rfl g 4 rfl (.slice (some ⟨K,0,none⟩) (F.length+1) a6) rfl rfl _ _ bk (Nat.le_of_ble_eq_true rfl) jG (cr m.room vn vs vp (.slice (some ⟨K,0,none⟩) (F.length+1) a6) m.calls m.time m.down vu) (by simp) ?_;intro w8 b2 H))
    refine NoP.intro ?_;go_wp2;go_roundw
    case rel =>
     have b7:∀j,Value.ownBlock (.slice pa F.length pc)=some j->¬IsU8 w6 j:=fun j t=>by
      obtain⟨cq,cc,b9⟩:=(OwnL.stay (p:=IsEvD) ⟨ds,jj (by assumption:w6.ownsRow 0 122 7 (.slice pa F.length pc) F.length ds.flatten) (Nat.le_refl _),S.out⟩ (fun _ _=>rfl):OwnL w6 122 7 IsEvD (.slice pa F.length pc) F).typed j t;exact aw b9 (by kernel_rfl)
     have cp:KeepR R w2 w8:=by
      have a:=KeepR.B2 (R:=R) (KeepB.BX J);have b:KeepR R w6 w7:=cw G b7;have c:KeepR R w7 w8:=cw H (by rintro j t;cases t;exact aw bk (by kernel_rfl));exact KeepR.trans a (KeepR.trans b c)
     have b8:K≠g:=fun e=>by
      rcases aa K rfl with U | U
      .have:=l.out _ U;omega
      .omega
     refine⟨k+1,_,by omega,by go_num,b2,?_,fun j t=>?_,?_⟩
     .rw [N.out];have a5:w8.ownsRow 0 122 7 (.slice (some ⟨K,0,none⟩) (F.length+1) a6) (F.length+1) _:=I.kept H (.inr (by simpa [Value.ownBlock]using b8));exact OwnL.app S.out a5 (fun c x hc=>hc) a8.out
     .rcases aa j t with U | U
      .exact l.out j U
      .omega
     .refine (a9.out.andThen G (fun j t=>?_)).trans H;exact .inl (l.out j t)
    case measure=>simp[intOf];omega
  .have b5:k=L.length:=by omega
   subst b5;have a3:=ad.out;rw[List.take_length]at a3;have bs:Hid _:=a3;clear a3;go_wp2
   go_end0
   have q:=(HP.out.own HG.out M.out).mono (O':=On O w.heap.size) (R':=On R w.heap.size) (fun k n=>.inl n) (fun k n=>.inl n);refine⟨rfl,IsRef.fit ⟨g,vn,vs,vp,_,vu,rfl,br.out,.inl hO,⟨q.now,q.on,q.sure,q.os,q.pend,q.op,bs.out,fun j t=>.inr (l.out j t),q.users,q.ou,fun j t b3=>?_⟩⟩,(Fr.refl O w).step M.out (fun k n=>by cases n;exact .inl hO) (by rintro k n;cases n;exact aw HG.out (by kernel_rfl))⟩;have U:=HP.out.users.lt j t;have h2:=l.out j b3;omega
end
section
open Go Go.RowKit
variable [Inhabited bf]
section
variable {ops:Array Oper} {rest:List Oper} {o:Oper} {a:Act} {Q:Exit->Act->World->Prop} {w:World}
end
end
section
open Go Go.RowKit
theorem cY (a b:Value) (c d:B8) (w:World) (i:IsBytes w a c) (j:IsBytes w b d) :
  Calls Tryz.prog 31 #[a,b] w fun e k=>e=.returned (.bool (c==d))/\k=w:=by
 have q:=dA i;have r:=dA j;have t:=tl c;have u:=tl d;obtain⟨l,o,rfl,-⟩:=i;obtain⟨n,p,rfl,-⟩:=j;obtain⟨h,g⟩:∃h,(c==d)=h:=⟨_,rfl⟩;rw[g];go_enter Tryz.func31,Tryz.ntmps31;go_wp2;go_ret;exact⟨by first | rfl | exact an (by assumption),rfl⟩
theorem jJ (a b:Value) (c g:List B8) (w:World) (T:IsStrs w a c) (U:IsStrs w b g) :
  Calls Tryz.prog 25 #[a,b] w fun e w'=>e=.returned (.bool (c==g))/\Ext w w':=by
 obtain⟨a1,c1,rfl,l1,l2,l3,A⟩:=T.get;obtain⟨a2,c2,rfl,k1,k2,k3,B⟩:=U.get;have X:Hid _:=A;have Y:Hid _:=B;clear T U A B
 by_cases l:c.length=g.length
 .have D:((c.length:Int)==(g.length:Int))=true:=by rw[beq_iff_eq];omega
  have O:Hid _:=l;rw[<-l]at k1 k2;have Z:Hid (∀k,k<c.length->∃b o,a2=some ⟨b,o,none⟩/\(∀i,i<c.length->w.cell? ⟨b,o+i,none⟩=some (S8 (g.getD i [])))):=by
   unfold Hid;rw[l];exact Y.out
  obtain⟨N,E⟩:∃N,g.length=N:=⟨_,rfl⟩;have j:N=c.length:=by omega
  rw[E,j];clear E D l j;go_enter Tryz.func25,Tryz.ntmps25;go_wp2;go_loopw [5] (fun i wr=>∃k:Nat,k<=c.length/\i=.int .i64 k/\c.take k=g.take k/\Ext w wr) (fun i _=>c.length - (intOf i).toNat)
  case atStart=>exact⟨0,Nat.zero_le _,rfl,by simp,Ext.refl _⟩
  case round =>
   obtain⟨k,J,rfl,G,K⟩:=hrel;have R:Hid _:=G;clear G
   by_cases d:k<c.length
   .obtain ⟨b1,o1,rfl,x⟩:=X.out k d;obtain⟨b2,o2,rfl,y⟩:=Z.out k d;have V:=K.cell (x k d);have W:=K.cell (y k d);obtain⟨p,L⟩:∃p,c.getD k []=p:=⟨_,rfl⟩;obtain⟨q,n⟩:∃q,g.getD k []=q:=⟨_,rfl⟩;rw[L]at V;rw[n]at W;have P:Hid (c[k]? = some p):=by
     unfold Hid;rw[List.getElem?_eq_getElem d,<-L];simp[d]
    have h:k<g.length:=by rw[<-O.out];exact d
    have Q:Hid (g[k]? = some q):=by
     unfold Hid;rw[List.getElem?_eq_getElem h,<-n];simp[h]
    have tp:=tl p;have tq:=tl q;obtain⟨I,u⟩:∃I,(p==q)=I:=⟨_,rfl⟩;have r:Hid _:=u;clear x y L n h;go_wp2_with fail;apply ak 9 [_,_,_,_,_,_,_,_,.bool (!I)] [none,none,none,none,none,none,none,none,none] [[],[],[0,1],[2],[],[],[4,5],[6],[3,7]] (by kernel_rfl) (by kernel_rfl) (by simp[aq])
    .trivial
    .simp (maxSteps:=1000000)only[List.take_succ_cons,List.take_zero,ay,aE,ab,Act.put,List.setIfInBounds_toArray,List.set_cons_zero,List.set_cons_succ,aN,aS,aq,List.getD_cons_zero,List.getD_cons_succ,and_true,true_and,forall_const];and_intros
     iterate 9 · intro xs wq n;intros;rename_i hR;have f1:=n.cell V;have f2:=n.cell W;go_simp;exact hR _ _ (Ext.refl _) rfl
    intro xs w2 M J;simp only[aU,Nat.zero_add,Nat.reduceAdd,and_true]at J;simp(maxSteps:=1000000)only[List.take_succ_cons,List.take_zero,List.drop_succ_cons,List.drop_zero,ab,Act.put,List.setIfInBounds_toArray,List.set_cons_zero,List.set_cons_succ,Nat.zero_add,Nat.reduceAdd,J];clear J;have H:=K.trans M;clear u
    cases I with
    | false =>
     have F:p≠q:=by simpa using r.out
     have t:Hid ((c==g)=false):=by
      unfold Hid;rw[beq_eq_false_iff_ne];intro e;have S:=P.out;rw[e,Q.out]at S;exact F (Option.some.inj S).symm
     clear F;go_wp2;go_ret;exact⟨an t.out.symm,H⟩
    | true =>
     have z:p=q:=by simpa using r.out
     have HE:Hid _:=z;clear z;go_wp2;go_roundw
     case rel=>exact⟨k+1,by omega,by go_num,by rw[List.take_add_one,List.take_add_one,P.out,Q.out,HE.out,R.out],H⟩
     case measure=>simp[intOf];omega
   .have C:c.length<=k:=by omega
    have t:Hid ((c==g)=true):=by
     have:=R.out;rw[List.take_of_length_le C,List.take_of_length_le (by rw[<-O.out];exact C)]at this;unfold Hid;simpa using this
    go_wp2;go_ret;exact⟨an t.out.symm,K⟩
 .have D:((c.length:Int)==(g.length:Int))=false:=by rw[beq_eq_false_iff_ne];omega
  have t:Hid ((c==g)=false):=by
   unfold Hid;rw[beq_eq_false_iff_ne];intro e;exact l (by rw[e])
  clear l;go_enter Tryz.func25,Tryz.ntmps25;go_wp2;go_ret;exact⟨an t.out.symm,Ext.refl _⟩
theorem Af (a:Value) (b:List B8) (s:B8) (w:World) (A:IsStrs w a b) :
  Calls Tryz.prog 19 #[a,S8 s] w fun e D=>e=.returned (.bool (b.contains s))/\Ext w D:=by
 obtain⟨F,H,rfl,J,K,L,j⟩:=A.get;have B:Hid _:=j;have O:=tl s;clear A j;go_enter Tryz.func19,Tryz.ntmps19;go_wp2;go_loopw [5] (fun i wr=>∃k:Nat,k<=b.length/\i=.int .i64 k/\s∉b.take k/\Ext w wr) (fun i _=>b.length - (intOf i).toNat)
 case atStart=>exact⟨0,Nat.zero_le _,rfl,by simp,Ext.refl _⟩
 case round =>
  obtain⟨k,I,rfl,l,n⟩:=hrel;have y:Hid _:=l;clear l
  by_cases c:k<b.length
  .obtain ⟨G,M,rfl,h⟩:=B.out k c;have E:=n.cell (h k c);obtain⟨p,u⟩:∃p,b.getD k []=p:=⟨_,rfl⟩;rw[u]at E;have x:Hid (b[k]? = some p):=by
    unfold Hid;rw[List.getElem?_eq_getElem c,<-u];simp[c]
   have N:=tl p;obtain⟨q,r⟩:∃q,(p==s)=q:=⟨_,rfl⟩;have g:Hid _:=r;clear h u
   cases q with
   | true =>
    have o:Hid (b.contains s=true):=by
     have:p=s:=by simpa using g.out
     unfold Hid;rw[List.contains_iff_mem,<-this];exact List.mem_of_getElem? x.out
    go_wp2;go_ret;exact⟨an o.out.symm,n⟩
   | false =>
    go_wp2;go_roundw
    case rel =>
     refine⟨k+1,by omega,by go_num,fun d=>?_,n⟩;rw[List.take_add_one,x.out,Option.toList_some]at d;rcases List.mem_append.1 d with d | d
     .exact y.out d
     .have:s=p:=by simpa using d
      have z:=g.out;rw[this]at z;simp at z
    case measure=>simp[intOf];omega
  .have t:b.length<=k:=by omega
   have o:Hid (b.contains s=false):=by
    have:=y.out;rw[List.take_of_length_le t]at this;unfold Hid
    cases C:b.contains s with
    | false=>rfl
    | true=>exact absurd (List.contains_iff_mem.1 C) this
   go_wp2;go_ret;exact⟨an o.out.symm,n⟩
def xE (f g:Fi) (w:World) (e:Ending) (w':World):Prop:=(∃r:Bool,e=.returned (.bool r)/\(f=g->r=true))/\Ext w w'
theorem x' (f g:Fi) (u v:Value) (w:World) (n:IsBytes w u f.data) (o:IsBytes w v g.data) :
  Calls Tryz.prog 70 #[fiV f u,fiV g v] w fun e C=>xE f g w e C:=by
 obtain⟨x,A,rfl,-⟩:=id n;obtain⟨y,B,rfl,-⟩:=id o;have c:Ext w ((w.alloc (.cells #[.int .i64 f.mode,.slice x f.data.length A,.int .i64 f.time] 56)).alloc (.cells #[.int .i64 g.mode,.slice y g.data.length B,.int .i64 g.time] 114)):=((Ext.refl _).alloc _).alloc _;have r:Hid _:=IsBytes.ext n c;have t:Hid _:=IsBytes.ext o c;have j:Hid _:=c;clear n o c;obtain⟨p,k⟩:∃b,(f.mode==g.mode)=b:=⟨_,rfl⟩;obtain⟨q,l⟩:∃b,(f.time==g.time)=b:=⟨_,rfl⟩;obtain⟨z,a⟩:∃b,(f.data==g.data)=b:=⟨_,rfl⟩;have d:Hid (f=g->p=true/\q=true/\z=true):=fun h=>by rw[<-k,<-l,<-a,h];simp
 have i:Hid _:=a;clear a;go_enter Tryz.func70,Tryz.ntmps70
 cases p with
 | false =>
  go_wp2;go_ret;exact⟨⟨_,rfl,fun h=>(d.out h).1⟩,j.out⟩
 | true =>
  cases q with
  | false =>
   go_wp2;go_ret;exact⟨⟨_,rfl,fun h=>(d.out h).2.1⟩,j.out⟩
  | true =>
   go_wp2_with (go_at_call 31;go_must (refine(cY _ _ _ _ _ r.out t.out).mono ?_;rw[i.out];rintro e D ⟨rfl,rfl⟩))
   go_ret;exact⟨⟨_,rfl,fun h=>(d.out h).2.2⟩,j.out⟩
end
end Go.Proofs.YtfabjgfmiaammaaGreatDoor
