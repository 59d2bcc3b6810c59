/- Contracts of the program's functions and plain laws behind the card. Conditions: as each theorem states. -/
import Derived.Test.YtfabjgfmiaammaaGreatDoorYaj
set_option linter.unusedVariables false
set_option linter.unusedSimpArgs false
set_option linter.unusedSectionVars false
set_option maxRecDepth 100000
set_option maxHeartbeats 64000000
namespace Go.Proofs.YtfabjgfmiaammaaGreatDoor
section
open Go Go.RowKit
def zy (S O:Nat->Prop) (w:World):Prop:=∀k,S k->¬O k/\k<w.heap.size
def NoG (O:Nat->Prop):Prop:=∀k,O k->k≠2
theorem vM {n a:Nat} {L:List Ev} {k:Nat} {e:Ev} (h:L[k]? = some e) (c:a<n):((L.take (k+1)).filter fun e=>decide ((a:Int)<e.t)).length=((L.take k).filter fun e=>decide ((a:Int)<e.t)).length+(if(a:Int)<e.t then 1 else 0):=by
 rw[List.take_add_one,h,Option.toList_some,List.filter_append,List.length_append];congr 1
 by_cases b:(a:Int)<e.t
 .rw [if_pos b,List.filter_cons_of_pos (by simpa using b)];rfl
 .rw [if_neg b,List.filter_cons_of_neg (by simpa using b)];rfl
theorem dI {S O R:Nat->Prop} {w:World} {p:Value} {m:Fs} (hE:Env w) (h:IsFs S O R w p m) (bd:OkM m) (bk:fH m) (ht:m.time<=8000000) (cv:m.calls<=10000000) (hG:NoG O) (hA:zy S O w) :
  Calls Tryz.prog 113 #[p] w fun e w'=>e=.returned (.tuple #[.bool (av m).2.1,.int .i64 (av m).2.2])/\FsPost S O R w p (av m).1 w':=by
 have HH:Hid _:=h;obtain⟨g,gm,gd,vp,vl,vu,L,c0,rfl,Y,hO,hP,J,b',b6⟩:=h;obtain⟨d0,d1,d2,d3,d4,d5,d6,d7,d8⟩:=ao Y;have cc:w.frozen? ⟨g,5,none⟩=false:=by simp[World.frozen?,Y]
 have HG:Hid _:=Y;have HP:Hid _:=hP;have HE:Hid _:=hE;have HA:Hid _:=hA;have b0:Hid _:=hG;have a2:Hid _:=bk;have b1:Hid _:=bd;have a1:Hid _:=J;obtain⟨a,b5,rfl,l1,l2,l3,Q⟩:=yN hP.plan;have a0:Hid _:=Q;have bl:∀b o,a=some ⟨b,o,none⟩->S b:=fun b o hh=>hP.ol b (by rw[hh];rfl)
 have b3:Hid _:=bl;obtain⟨w1,K⟩:∃w1,w1=w.setCell ⟨g,5,none⟩ (.int .i64 ((m.calls:Int)+1)):=⟨_,rfl⟩;have Z:w1.heap[g]? = some (.cells (bc m.room gm gd vp (.slice a L.length b5) (m.calls+1) vu m.time m.down) 79 (0,0)):=by
  rw[K,heap_setCell_same w g 5 _ _ _ Y];simp
 have T:w.grownBy w1 (some g):=by rw[K];exact aH _ _ _ _
 have a':FsPost S O R w (.pointer (some ⟨g,0,none⟩)) (cH m) w1:=by
  refine⟨⟨g,gm,gd,vp,_,vu,L,c0,rfl,Z,.inl hO,(hP.own Y T).mono (fun k A=>.inl A) (fun k A=>.inl A),J,Nat.le_succ_of_le b',b6⟩,(Fr.refl O w).step T (fun k A=>by cases A;exact .inl hO) (by rintro k A;cases A;exact aw Y (by kernel_rfl))⟩
 have b4:Hid _:=K;have bt:Hid _:=a';obtain⟨x0,x1,x2,x3,x4,x5,x6,x7,x8⟩:=ao Z;have W:Hid (av m=((L.foldl (bF (m.calls+1)) (cH m,false,false)).1,(L.foldl (bF (m.calls+1)) (cH m,false,false)).2.1,if(L.foldl (bF (m.calls+1)) (cH m,false,false)).1.down then 12 else if(L.foldl (bF (m.calls+1)) (cH m,false,false)).2.2 then 11 else 0)):=by
  have ca:m.plan.foldl (bF (m.calls+1)) (cH m,false,false)=L.foldl (bF (m.calls+1)) (cH m,false,false):=by
   rw[J,jQ (bF (m.calls+1)) _ L _ (fun y e he=>by
    rw[ip,if_pos];intro h0;simp only[decide_eq_false_iff_not]at he;omega)]
  rw[<-ca];rfl
 clear Y hP hE hA hG bk bd J Q bl K a' Z;go_enter Tryz.func113,Tryz.ntmps113
 go_wp2_with (go_at_call 131;go_must (refine(tj d5 cc (by omega) (by omega)).mono ?_;rintro e w' ⟨rfl,rfl⟩;rw[show w.setCell ⟨g,5,none⟩ (.int .i64 ((m.calls:Int)+1))=w1 from b4.out.symm]))
 go_loopw [5,6,18] (fun fu br i wr=>∃(k:Nat) (x:Fs×Bool×Bool),k<=L.length/\i=.int .i64 k/\fu=.bool x.2.1/\br=.bool x.2.2/\x=(L.take k).foldl (bF (m.calls+1)) (cH m,false,false)/\FsPost S O R w (.pointer (some ⟨g,0,none⟩)) x.1 wr/\Mid m ((L.take k).filter fun e=>decide ((c0:Int)<e.t)).length x) (fun _ _ i _=>L.length - (intOf i).toNat)
 case atStart=>exact⟨0,(cH m,false,false),Nat.zero_le _,rfl,rfl,rfl,rfl,bt.out,Mid.start b1.out⟩
 case round =>
  obtain⟨k,⟨t,X,N⟩,A,rfl,rfl,rfl,hx,hf,U⟩:=hrel;have a5:Hid _:=hx;have HF:Hid _:=hf;have q:Hid _:=U;clear hx hf U
  by_cases cl:k<L.length
  .
   obtain⟨e,E⟩:∃e,L[k]? = some e:=⟨_,List.getElem?_eq_getElem cl⟩;obtain⟨b,o,cs,rfl,a9,B⟩:=a0.out k e E;have cm:=b3.out b o rfl;have c:∀j u,cs[j]? = some u->wr.cell? ⟨b,o+k*7+j,none⟩=some u:=fun j u hu=>by
    have a7:=B j u hu;rw[World.cell?_of_block (w:=w) (w':=wr) (a:=⟨b,o+k*7+j,none⟩) (HF.out.fr.block b (World.block_lt_of_cell? _ _ a7) (.inl (HA.out b cm).1))];exact a7
   have D:IsEvR (Nw R w wr) wr cs e:=(a9.BZ (KeepR.B2 HF.out.fr.keep)).mono (fun k A=>.inl A);have bs:Hid _:=D;have bv:Hid _:=E;obtain⟨vd,rfl,hd,-⟩:=id D;obtain⟨q1,q2,rfl,-⟩:=id hd.bytes;have y0:=c 0 _ rfl;have y1:=c 1 _ rfl;have y2:=c 2 _ rfl;have y3:=c 3 _ rfl;have y4:=c 4 _ rfl;have y5:=c 5 _ rfl;have y6:=c 6 _ rfl;simp only[Nat.add_zero]at y0;have P:=vM (n:=m.calls+1) E (show c0<m.calls+1 by omega);have M:Hid _:=P;have G:(L.take (k+1)).foldl (bF (m.calls+1)) (cH m,false,false)=bF (m.calls+1) (t,X,N) e:=by
    rw[List.take_add_one,E,Option.toList_some,List.foldl_append,<-a5.out];rfl
   have a3:Hid _:=G;have bo:Ext wr (wr.alloc (.cells #[.int .i64 e.t,.int .i64 e.kind,.int .i64 e.mode,.int .i64 e.keep,.int .i64 e.BW,S8 e.path,.slice q1 e.data.length q2] 121)):=(Ext.refl _).alloc _;have I:Hid _:=bo;clear a9 B c D hd P G bo E
   by_cases d:e.t=(m.calls:Int)+1
   .have b8:(e.t==(m.calls:Int)+1)=true:=by simpa using d
    have b9:(e.t != (m.calls:Int)+1)=false:=by simpa using d
    have a4:Hid _:=d;have bb:e∈m.plan:=by
     rw[a1.out];exact List.mem_filter.2 ⟨List.mem_of_getElem? bv.out,by simp only[decide_eq_true_eq];omega⟩
    have F:=a2.out.ev e bb;have a6:((L.take k).filter fun e=>decide ((c0:Int)<e.t)).length<=1000:=by
     have z:=a2.out.len;rw[a1.out]at z;exact Nat.le_trans ((List.take_sublist k L).filter _).length_le z
    have cn:t.time<=9000000:=by
     have h9:t.time<=m.time+_:=q.out.time;omega
    have l:Hid (FsPost S O R w (.pointer (some ⟨g,0,none⟩)) t (wr.alloc (.cells #[.int .i64 e.t,.int .i64 e.kind,.int .i64 e.mode,.int .i64 e.keep,.int .i64 e.BW,S8 e.path,.slice q1 e.data.length q2] 121))):=HF.out.ext I.out;have au:Hid (IsEvR (Nw R w (wr.alloc (.cells #[.int .i64 e.t,.int .i64 e.kind,.int .i64 e.mode,.int .i64 e.keep,.int .i64 e.BW,S8 e.path,.slice q1 e.data.length q2] 121))) (wr.alloc (.cells #[.int .i64 e.t,.int .i64 e.kind,.int .i64 e.mode,.int .i64 e.keep,.int .i64 e.BW,S8 e.path,.slice q1 e.data.length q2] 121)) [.int .i64 e.t,.int .i64 e.kind,.int .i64 e.mode,.int .i64 e.keep,.int .i64 e.BW,S8 e.path,.slice q1 e.data.length q2] e):=(IsEvR.BZ bs.out (KeepR.B2 (KeepB.BX I.out))).mono (fun k A=>A.fst I.out.size);have r:Hid (bF (m.calls+1) (t,X,N) e=(ep t e,X || fS e==10,N || fS e==11)):=by
     unfold Hid;rw[ip,if_neg (by simp;omega)]
    have bS:Hid (Mid m ((L.take (k+1)).filter fun e=>decide ((c0:Int)<e.t)).length (bF (m.calls+1) (t,X,N) e)):=by
     have z:=q.out.next (k:=m.calls+1) e
     rw[if_pos (by omega)]at z;rw[M.out,if_pos (by omega)];exact z
    have ad:Hid _:=uA e;obtain⟨C,hC⟩:∃C,fS e=C:=⟨_,rfl⟩;rw[hC]at ad r;clear d bb a6;have bq:Hid _:=hC;clear hC;rcases ad.out with rfl | rfl | rfl
    iterate 3
     .go_wp2_with (go_at_call 163;go_must (refine(so e [.int .i64 e.t,.int .i64 e.kind,.int .i64 e.mode,.int .i64 e.keep,.int .i64 e.BW,S8 e.path,.slice q1 e.data.length q2] (HE.out.fr l.out.fr b0.out) l.out.fs q.out.ok cn au.out F.1 F.2.1 F.2.2).mono ?_;rw[bq.out];rintro x2 w2 ⟨rfl,h2⟩;have b2:Hid _:=FsPost.trans l.out h2;clear h2))
      go_roundw
      case rel=>exact⟨k+1,bF (m.calls+1) (t,X,N) e,by omega,by go_num,by rw[r.out];simp,by rw[r.out];simp,a3.out.symm,by rw[r.out];exact b2.out,bS.out⟩
      case measure=>simp[intOf];omega
   .have b8:(e.t==(m.calls:Int)+1)=false:=by simpa using d
    have b9:(e.t != (m.calls:Int)+1)=true:=by simpa using d
    have a4:Hid _:=d;clear d;go_wp2;go_roundw
    case rel =>
     refine⟨k+1,(t,X,N),by omega,by go_num,rfl,rfl,?_,HF.out.ext I.out,?_⟩
     .rw [a3.out,ip,if_pos (by have:=a4.out;simp;omega)]
     .have z:=q.out;refine⟨z.ok,?_,z.Cq,z.plan,z.calls,z.room⟩;rw[M.out];have:=z.time;omega
    case measure=>simp[intOf];omega
  .have ce:k=L.length:=by omega
   subst ce;have aa:=a5.out;rw[List.take_length]at aa;rw[<-aa]at W;have H:Hid (av m=(t,X,if t.down then 12 else if N then 11 else 0)):=W.out;have cb:IsFs S (Nw O w wr) (Nw R w wr) wr (.pointer (some ⟨g,0,none⟩)) t:=HF.out.fs;have V:Hid (FsPost S O R w (.pointer (some ⟨g,0,none⟩)) t wr):=HF.out;obtain⟨g',ct,cq,c1,cx,c2,L',cp,F,ba,cu,b7,bh,co⟩:=cb;cases F;obtain⟨z0,z1,z2,z3,z4,z5,z6,z7,z8⟩:=ao ba;obtain⟨dn,a8⟩:∃dn,t.down=dn:=⟨_,rfl⟩;rw[a8]at z8 H;clear aa b7 ba bh a8 W
   cases dn with
   | true =>
    go_wp2;go_ret2;rw[H.out];exact⟨rfl,V.out⟩
   | false =>
    cases N with
    | true =>
     go_wp2;go_ret2;rw[H.out];exact⟨rfl,V.out⟩
    | false =>
     go_wp2;go_ret2;rw[H.out];exact⟨rfl,V.out⟩
end
section
open Go Go.RowKit
structure FsIn (S O R:Nat->Prop) (w:World) (p:Value) (m:Fs):Prop where
 env:Env w
 fs:IsFs S O R w p m
 ok:OkM m
 plan:fH m
 time:m.time<=7000000
 calls:m.calls<=9000000
 Co:NoG O
 apart:zy S O w
 low:∀k,O k->k<w.heap.size
 Cc:0<=m.room
 Cd:m.room<=1073741824
variable {m:Fs}
theorem iR (h:OkM m) (b:m.time<=9000000):cV m.now<=180000000000:=by
 have:=AM h.B7 (fun e a=>(h.Cl e a).2);omega
theorem wO (h:OkM m) (path:B8):gE m.now path<=20000:=by
 unfold gE;split
 .rename_i f a;exact(h.Cl _ (fd a)).2
 .omega
variable {w:World}
theorem uD {R:Nat->Prop} {l:ax} {path:B8} {v:Value} {D:Nat} (b:gE l path=D) (g:∀f,aA l path=some f->∃e,v=fiV f e/\IsData R w e f.data) (h:aA l path=none->v=.agg #[.int .i64 0,.slice none 0 0,.int .i64 0]) :
  ∃j a c k,v=.agg #[.int .i64 j,.slice a D c,.int .i64 k]:=by
 unfold gE at b
 cases d:aA l path with
 | some f =>
  rw[d]at b;obtain⟨e,rfl,i⟩:=g f d;obtain⟨a,c,rfl,-⟩:=i.bytes;exact⟨f.mode,a,c,f.time,by rw[<-b]⟩
 | none =>
  rw[d]at b;subst b;exact⟨0,none,0,0,h d⟩
theorem qM {S O R:Nat->Prop} {p:Value} (path:B8) (n:Nat) (h:IsFs S O R w p m) (l:OkM m) (ht:m.time<=9000000) (C:0<=m.room) (E:m.room<=1073741824) (hp:path.length<=10000000) :
  Calls Tryz.prog 135 #[p,S8 path,.int .i64 n] w fun e w'=>e=.returned (.bool (fJ m path n))/\Ext w w':=by
 have X:Hid _:=h;obtain⟨g,gm,gd,vp,vl,vu,L,c0,rfl,N,hO,M,-,-⟩:=h;obtain⟨t,z,Y,Z,d4,d5,d6,d7,d8⟩:=ao N;have W:Hid _:=M.now;have hu:=iR l ht;have A:=wO l path;obtain⟨U,y⟩:∃U:Nat,cV m.now=U:=⟨_,rfl⟩;obtain⟨D,x⟩:∃D:Nat,gE m.now path=D:=⟨_,rfl⟩;have I:Hid _:=y;have V:Hid _:=x;rw[y]at hu;rw[x]at A;obtain⟨r,B⟩:∃r:Int,m.room=r:=⟨_,rfl⟩;rw[B]at t C E;have k:fJ m path n=decide ((n:Int)<=r - U+D):=by unfold fJ;rw[y,x,B]
 have q:Hid _:=k;clear N M l y x B k Z d4 d5 d6 d7 d8 Y;go_enter Tryz.func135,Tryz.ntmps135;go_wp2_with fail;have au:IntKind.i64.wrap (r - (U:Int))=r - (U:Int):=IntWalk.i64_in _ (by omega);have a0:IntKind.i64.wrap (r - (U:Int)+(D:Int))=r - (U:Int)+(D:Int):=IntWalk.i64_in _ (by omega);apply ak 18 [_,_,_,_,_,_,.int .i64 U,.int .i64 (r - U),_,_,_,_,_,undef,undef,.int .i64 D,.int .i64 (r - U+D),.bool (decide ((n:Int)<=r - U+D))] [none,none,none,none,none,none,none,none,none,none,none,none,none,some (fun u _=>∃Q a c T,u=.agg #[.int .i64 Q,.slice a D c,.int .i64 T]),some (fun u _=>∃a c,u=.slice a D c),none,none,none] [[],[],[1],[2],[3],[],[5],[4,6],[],[8],[9],[10],[],[11,12],[13],[14],[7,15],[0,16]] (by kernel_rfl) (by kernel_rfl) (by simp[aq])
 .refine ⟨?_,?_,trivial⟩
  iterate 2
   .exact fun _ _ _ _ h=>h
 .simp (maxSteps:=1000000)only[List.take_succ_cons,List.take_zero,ay,aE,ab,Act.put,List.setIfInBounds_toArray,List.set_cons_zero,List.set_cons_succ,aN,aS,aq,List.getD_cons_zero,List.getD_cons_succ,and_true,true_and,forall_const];and_intros
  iterate 6 · intro j o d;intros;rename_i i;have J:=d.cell t;have K:=d.cell z;go_simp;exact i _ _ (Ext.refl _) rfl
  .intro j o d b R i;go_simp;exact(zu (IsFs.ext X.out d) (by have:=I.out;omega)).mono (by rw[I.out];rintro e' w4 ⟨rfl,h2⟩;exact⟨_,rfl,i _ _ h2 rfl⟩)
  iterate 6 · intro j o d;intros;rename_i i;have J:=d.cell t;have K:=d.cell z;go_simp;exact i _ _ (Ext.refl _) rfl
  .intro j o d b R i;obtain⟨aa,ad⟩:=b;obtain⟨v,-,P,F,G⟩:=(IsFiles.ext W.out d).Ca path hp;have hz:=uD V.out F G;go_simp;exact i _ _ (Ext.refl _) hz
  .intro j o d b R i;obtain⟨Q,a,c,T,b⟩:=b;go_simp;exact i _ _ (Ext.refl _) ⟨_,_,rfl⟩
  .intro j o d b R i;obtain⟨a,c,b⟩:=b;go_simp;exact i _ _ (Ext.refl _) rfl
  iterate 2 · intro j o d;intros;rename_i i;have J:=d.cell t;have K:=d.cell z;go_simp;exact i _ _ (Ext.refl _) rfl
 intro j w2 H b;simp only[aU,Nat.zero_add,Nat.reduceAdd,and_true]at b;have a1:=b.2.2.2.2.2.2.2.2.2.2.2.2.2.1;have a2:=b.2.2.2.2.2.2.2.2.2.2.2.2.2.2.1;simp(maxSteps:=1000000)only[List.take_succ_cons,List.take_zero,List.drop_succ_cons,List.drop_zero,ab,Act.put,List.setIfInBounds_toArray,List.set_cons_zero,List.set_cons_succ,Nat.zero_add,Nat.reduceAdd,b];clear b;generalize j 13=a3 at *;generalize j 14=a4 at *;go_wp2;go_ret;rw[q.out];exact⟨rfl,H⟩
end
section
open Go Go.RowKit
def jU (r:Fs×Bool×Int) (path:B8) (mode:Int) (data:B8) (only:Bool):Fs×Int :=
 if r.2.2≠0 then(r.1,r.2.2)else if bE path mode data≠0 then(r.1,bE path mode data)
 else if only=true/\(aA r.1.now path).isSome then(r.1,8)else bu r.1 path mode data (!r.2.1 && fJ r.1 path data.length)
def bZ (m:Fs) (path:B8) (mode:Int) (data:B8):Fs×Int:=jU (av m) path mode data true
def bG (m:Fs) (path:B8) (mode:Int) (data:B8):Fs×Int:=jU (av m) path mode data false
def mvM (r:Fs×Bool×Int) (src dst:B8) (a:Bool):Fs×Int :=
 if r.2.2≠0 then(r.1,r.2.2)else if az src=false\/az dst=false then(r.1,6)
 else if(aA r.1.now src).isNone then(r.1,7)else if(aA r.1.now dst).isSome/\a=true then(r.1,8)
 else if src=dst then(r.1,0)else if(aA r.1.now dst).isNone/\et r.1.now dst src=false then(r.1,9)else(does r.1 (.mv src dst),0)
def aP (m:Fs) (src dst:B8) (a:Bool):Fs×Int:=mvM (av m) src dst a
def bD (m:Fs) (path:B8):Fs×Int:=if(av m).2.2≠0 then((av m).1,(av m).2.2)else aG (av m).1 path
def dt (m:Fs):Fs×Int:=if(av m).2.2=0 then(settle (av m).1,0)else((av m).1,(av m).2.2)
def cE:Fi:=⟨0,[],0⟩
def aF (m:Fs) (path:B8):Fs×Fi×Int :=
 if(av m).2.2≠0 then((av m).1,cE,(av m).2.2)else if az path=false then((av m).1,cE,6)
 else match aA (av m).1.now path with
  | some f=>((av m).1,f,0)
  | none=>((av m).1,cE,7)
def aM (l:ax):List B8:=l.map (·.1)
def bg (m:Fs) (dir:B8):Fs×List B8×Int :=
 if(av m).2.2≠0 then((av m).1,[],(av m).2.2)else if dir=[]then((av m).1,aM (av m).1.now,0)
 else if az dir=false then((av m).1,[],6)else((av m).1,(aM (av m).1.now).filter (aB dir),0)
def cz (m:Fs) (path:B8):Fi×Bool:=match aA m.now path with
 | some f=>(f,true)
 | none=>(cE,false)
structure Left (m m':Fs) (n:Nat):Prop where
 ok:OkM m'
 time:m'.time<=m.time+n
 Cq:m.time<=m'.time
 plan:m'.plan=m.plan
 room:m'.room=m.room
variable {n k:Nat}
theorem Left.trans {a b c:Fs} (h:Left a b n) (d:Left b c k):Left a c (n+k) :=
 ⟨d.ok,by have:=h.time;have:=d.time;omega,Nat.le_trans h.Cq d.Cq,d.plan.trans h.plan,d.room.trans h.room⟩
variable {m:Fs}
theorem Left.refl (h:OkM m):Left m m 0:=⟨h,Nat.le_refl _,Nat.le_refl _,rfl,rfl⟩
theorem Left.mono {m':Fs} (h:Left m m' n) (a:n<=k):Left m m' k:=⟨h.ok,Nat.le_trans h.time (by omega),h.Cq,h.plan,h.room⟩
theorem ci (h:OkM m) (c:fH m):Left m (av m).1 1000/\(av m).1.calls=m.calls+1:=by
 obtain⟨x,a,b⟩:=qE h;rw[b];have:=c.len;exact⟨⟨a.ok,by have:=a.time;omega,a.Cq,a.plan,a.room⟩,a.calls⟩
theorem lw {c:Ch} (h:OkM m) (b:mL c) (a:∀s d,c=.mv s d->(aA m.now s).isSome=true):Left m (does m c) 1:=⟨oW h b a,Nat.le_refl _,Nat.le_succ _,rfl,rfl⟩
variable {path:B8}
theorem ws {mode:Int} {data:B8} {fits:Bool} (h:OkM m) (b:az path=true) (a:data.length<=20000):Left m (bu m path mode data fits).1 1:=by
 unfold bu;split
 .exact (Left.refl h).mono (by omega)
 .split
  .exact (Left.refl h).mono (by omega)
  .exact lw h ⟨b,a⟩ (fun s d e=>by cases e)
theorem re (h:OkM m):Left m (aG m path).1 1:=by
 unfold aG;split
 .exact (Left.refl h).mono (by omega)
 .split
  .exact (Left.refl h).mono (by omega)
  .rename_i a _;exact lw h (show az path=true by simpa using a) (fun s d e=>by cases e)
theorem sF (h:OkM m):Left m (settle m) 0:=⟨lE h,Nat.le_refl _,Nat.le_refl _,rfl,rfl⟩
end
section
open Go Go.RowKit
variable {w:World} {p:Value} {m:Fs}
theorem FsIn.Cw {S O R:Nat->Prop} {a:World} {m1:Fs} (h:FsIn S O R w p m) (b:FsPost S O R w p m1 a):Env a:=h.env.fr b.fr h.Co
theorem um {S O R:Nat->Prop} (path:B8) (mode:Int) (v:Value) (data:B8) (h:FsIn S O R w p m) (hp:path.length<=400) (hv:IsBytes w v data) (D:Out O w v) :
  Calls Tryz.prog 95 #[p,S8 path,.int .i64 mode,v] w fun e w'=>e=.returned (.int .i64 (bZ m path mode data).2)/\FsPost S O R w p (bZ m path mode data).1 w':=by
 obtain⟨d,j,B,z⟩:∃d j B,av m=(d,j,B):=⟨_,_,_,rfl⟩;have G:=ci h.ok h.plan;rw[z]at G;have C:bZ m path mode data=if B≠0 then(d,B)else if bE path mode data≠0 then(d,bE path mode data)else if true=true/\(aA d.now path).isSome then(d,8)else bu d path mode data (!j && fJ d path data.length):=by unfold bZ jU;rw[z]
 have b:Hid _:=C;have P:Hid _:=z;have E:Hid _:=G;have l:Hid _:=h;have HV:Hid _:=hv;have HO:Hid _:=D;have a6:=h.time;have a5:=h.calls;obtain⟨a,c,rfl,-⟩:=hv.get;obtain⟨g,ad⟩:∃g,p=.pointer (some ⟨g,0,none⟩):=by
  obtain⟨g,gm,gd,vp,vl,vu,L,c0,H,-⟩:=h.fs;exact⟨g,H⟩
 subst ad;clear C z G h hv D
 by_cases r:B=0
 .subst r;obtain⟨M,q⟩:∃M,bE path mode data=M:=⟨_,rfl⟩;have HW:Hid _:=q;rw[q]at b;go_enter Tryz.func95,Tryz.ntmps95;go_wp2_with fail;go_at_call 113;refine(dI l.out.env l.out.fs l.out.ok l.out.plan (by omega) (by omega) l.out.Co l.out.apart).mono ?_;rw[P.out];rintro e w1 ⟨rfl,Z⟩;have N:Hid (FsPost S O R w (.pointer (some ⟨g,0,none⟩)) d w1):=Z;have o:Hid (OkM d):=E.out.1.ok;have a0:d.time<=m.time+1000:=E.out.1.time;have t:d.room=m.room:=E.out.1.room;have T:Hid _:=t;clear Z t;go_wp2_with fail;go_at_call 133;refine(iz path mode (.slice a data.length c) data _ (l.out.Cw N.out) (IsBytes.fr HV.out HO.out N.out.fr) (by omega)).mono ?_;rw[HW.out];rintro e w2 ⟨rfl,K⟩
  by_cases u:M=0
  .subst u;have Y:=gG q;have x:Hid _:=Y;obtain⟨g',a3,a2,a9,a8,a',L',a1,H,W,a4,V,-,-⟩:=(FsPost.ext N.out K).fs;cases H;obtain⟨z0,z1,z2,z3,z4,z5,z6,z7,z8⟩:=ao W;obtain⟨a7,n,-,I,J⟩:=V.now.Ca path (by omega);have A:Hid (FsPost S O R w (.pointer (some ⟨g,0,none⟩)) d w2):=FsPost.ext N.out K;have Q:Hid _:=l.out.Cw A.out;have U:Hid _:=IsBytes.fr HV.out HO.out A.out.fr;clear W V q Y
   cases k:aA d.now path with
   | some f =>
    rw[k]at n;obtain⟨sv,rfl,X⟩:=I f k;obtain⟨s1,s2,rfl,-⟩:=X.bytes;simp only[Option.isSome_some]at n;have i:Hid (bZ m path mode data=(d,8)):=by unfold Hid;rw[b.out,k];simp
    clear I J X k b;go_wp2;go_ret;rw[i.out];exact⟨rfl,A.out.ext ((Ext.refl _).alloc _)⟩
   | none =>
    rw[k]at n;obtain rfl:=J k;simp only[Option.isSome_none]at n;have i:Hid (bZ m path mode data=bu d path mode data (!j && fJ d path data.length)):=by unfold Hid;rw[b.out,k];simp
    clear I J k b
    cases j with
    | true =>
     have F:Hid (bZ m path mode data=bu d path mode data false):=i.out;go_wp2_with fail;go_at_call 134;refine(gT path mode (.slice a data.length c) data false (Q.out.ext ((Ext.refl _).alloc _)) (IsFs.ext A.out.fs ((Ext.refl _).alloc _)) o.out (by omega) (by omega) (IsBytes.ext U.out ((Ext.refl _).alloc _)) x.out.2.2.2 (ji _ x.out.1)).mono ?_;rintro e w4 ⟨rfl,h4⟩;go_wp2;go_ret;rw[F.out];exact⟨rfl,A.out.trans (FsPost.pre ((Ext.refl _).alloc _) h4)⟩
    | false =>
     have F:Hid (bZ m path mode data=bu d path mode data (fJ d path data.length)):=i.out;go_wp2_with fail;go_at_call 135;refine(qM path data.length (IsFs.ext A.out.fs ((Ext.refl _).alloc _)) o.out (by omega) (by rw[T.out];exact l.out.Cc) (by rw[T.out];exact l.out.Cd) (by omega)).mono ?_;rintro e w3 ⟨rfl,au⟩;generalize fJ d path data.length=ft at *;have y:Hid _:=((Ext.refl w2).alloc _).trans au;go_wp2_with fail;go_at_call 134;refine(gT path mode (.slice a data.length c) data ft (Q.out.ext y.out) (IsFs.ext A.out.fs y.out) o.out (by omega) (by omega) (IsBytes.ext U.out y.out) x.out.2.2.2 (ji _ x.out.1)).mono ?_;rintro e w4 ⟨rfl,h4⟩;go_wp2;go_ret;rw[F.out];exact⟨rfl,A.out.trans (FsPost.pre y.out h4)⟩
  .have hb:(M==0)=false:=by simpa using u
   have aa:(M != 0)=true:=by simpa using u
   have i:Hid (bZ m path mode data=(d,M)):=by unfold Hid;rw[b.out];simp[u]
   clear u q b;go_wp2;go_ret;rw[i.out];exact⟨rfl,FsPost.ext N.out K⟩
 .have hb:(B==0)=false:=by simpa using r
  have aa:(B != 0)=true:=by simpa using r
  have i:Hid (bZ m path mode data=(d,B)):=by unfold Hid;rw[b.out];simp[r]
  clear r b;go_enter Tryz.func95,Tryz.ntmps95
  go_wp2_with (go_at_call 113;go_must (refine(dI l.out.env l.out.fs l.out.ok l.out.plan (by omega) (by omega) l.out.Co l.out.apart).mono ?_;rw[P.out];rintro e w1 ⟨rfl,Z⟩))
  go_ret;rw[i.out];exact⟨rfl,Z⟩
theorem lW {S O R:Nat->Prop} (path:B8) (mode:Int) (v:Value) (data:B8) (h:FsIn S O R w p m) (hp:path.length<=400) (W:IsBytes w v data) (A:Out O w v) :
  Calls Tryz.prog 77 #[p,S8 path,.int .i64 mode,v] w fun e w'=>e=.returned (.int .i64 (bG m path mode data).2)/\FsPost S O R w p (bG m path mode data).1 w':=by
 obtain⟨d,i,y,x⟩:∃d i y,av m=(d,i,y):=⟨_,_,_,rfl⟩;have E:=ci h.ok h.plan;rw[x]at E;have z:bG m path mode data=if y≠0 then(d,y)else if bE path mode data≠0 then(d,bE path mode data)else bu d path mode data (!i && fJ d path data.length):=by unfold bG jU;rw[x];simp only[Bool.false_eq_true,false_and,if_false]
 have b:Hid _:=z;have G:Hid _:=x;have C:Hid _:=E;have j:Hid _:=h;have Z:Hid _:=W;have Y:Hid _:=A;have au:=h.time;have ad:=h.calls;obtain⟨a,c,rfl,-⟩:=W.get;obtain⟨g,V⟩:∃g,p=.pointer (some ⟨g,0,none⟩):=by
  obtain⟨g,gm,gd,vp,vl,vu,L,c0,U,-⟩:=h.fs;exact⟨g,U⟩
 subst V;clear z x E h W A
 by_cases o:y=0
 .subst o;obtain⟨F,n⟩:∃F,bE path mode data=F:=⟨_,rfl⟩;have HW:Hid _:=n;rw[n]at b;go_enter Tryz.func77,Tryz.ntmps77;go_wp2_with fail;go_at_call 113;refine(dI j.out.env j.out.fs j.out.ok j.out.plan (by omega) (by omega) j.out.Co j.out.apart).mono ?_;rw[G.out];rintro e w1 ⟨rfl,P⟩;have N:Hid (FsPost S O R w (.pointer (some ⟨g,0,none⟩)) d w1):=P;have l:Hid (OkM d):=C.out.1.ok;have aa:d.time<=m.time+1000:=C.out.1.time;have q:d.room=m.room:=C.out.1.room;have I:Hid _:=q;clear P q;go_wp2_with fail;go_at_call 133;refine(iz path mode (.slice a data.length c) data _ (j.out.Cw N.out) (IsBytes.fr Z.out Y.out N.out.fr) (by omega)).mono ?_;rw[HW.out];rintro e w2 ⟨rfl,M⟩
  by_cases r:F=0
  .subst r;have K:=gG n;have t:Hid _:=K;have B:Hid (FsPost S O R w (.pointer (some ⟨g,0,none⟩)) d w2):=FsPost.ext N.out M;have H:Hid _:=j.out.Cw B.out;have J:Hid _:=IsBytes.fr Z.out Y.out B.out.fr;clear n K;have k:Hid (bG m path mode data=bu d path mode data (!i && fJ d path data.length)):=by unfold Hid;rw[b.out];simp
   clear b
   cases i with
   | true =>
    have D:Hid (bG m path mode data=bu d path mode data false):=k.out;go_wp2_with fail;go_at_call 134;refine(gT path mode (.slice a data.length c) data false H.out B.out.fs l.out (by omega) (by omega) J.out t.out.2.2.2 (ji _ t.out.1)).mono ?_;rintro e w4 ⟨rfl,Q⟩;go_wp2;go_ret;rw[D.out];exact⟨rfl,B.out.trans Q⟩
   | false =>
    have D:Hid (bG m path mode data=bu d path mode data (fJ d path data.length)):=k.out;go_wp2_with fail;go_at_call 135;refine(qM path data.length B.out.fs l.out (by omega) (by rw[I.out];exact j.out.Cc) (by rw[I.out];exact j.out.Cd) (by omega)).mono ?_;rintro e w3 ⟨rfl,X⟩;generalize fJ d path data.length=ft at *;have u:Hid _:=X;go_wp2_with fail;go_at_call 134;refine(gT path mode (.slice a data.length c) data ft (H.out.ext u.out) (IsFs.ext B.out.fs u.out) l.out (by omega) (by omega) (IsBytes.ext J.out u.out) t.out.2.2.2 (ji _ t.out.1)).mono ?_;rintro e w4 ⟨rfl,Q⟩;go_wp2;go_ret;rw[D.out];exact⟨rfl,B.out.trans (FsPost.pre u.out Q)⟩
  .have hb:(F==0)=false:=by simpa using r
   have T:(F != 0)=true:=by simpa using r
   have k:Hid (bG m path mode data=(d,F)):=by unfold Hid;rw[b.out];simp[r]
   clear r n b;go_wp2;go_ret;rw[k.out];exact⟨rfl,FsPost.ext N.out M⟩
 .have hb:(y==0)=false:=by simpa using o
  have T:(y != 0)=true:=by simpa using o
  have k:Hid (bG m path mode data=(d,y)):=by unfold Hid;rw[b.out];simp[o]
  clear o b;go_enter Tryz.func77,Tryz.ntmps77
  go_wp2_with (go_at_call 113;go_must (refine(dI j.out.env j.out.fs j.out.ok j.out.plan (by omega) (by omega) j.out.Co j.out.apart).mono ?_;rw[G.out];rintro e w1 ⟨rfl,P⟩))
  go_ret;rw[k.out];exact⟨rfl,P⟩
end
section
open Go Go.RowKit
variable {w:World} {p:Value} {m:Fs}
theorem kN {S O R:Nat->Prop} (path:B8) (h:FsIn S O R w p m) (F:path.length<=400) :
  Calls Tryz.prog 93 #[p,S8 path] w fun e D=>e=.returned (.int .i64 (bD m path).2)/\FsPost S O R w p (bD m path).1 D:=by
 obtain⟨g,j,i,d⟩:∃g j i,av m=(g,j,i):=⟨_,_,_,rfl⟩;have n:=ci h.ok h.plan;rw[d]at n;have k:bD m path=if i≠0 then(g,i)else aG g path:=by unfold bD;rw[d]
 have b:Hid _:=k;have q:Hid _:=d;have o:Hid _:=n;have a:Hid _:=h;have C:=h.time;have B:=h.calls;clear k d n h
 by_cases c:i=0
 .subst c;have x:g.time<=m.time+1000:=o.out.1.time;have r:Hid (OkM g):=o.out.1.ok;have l:Hid (bD m path=aG g path):=b.out;go_enter Tryz.func93,Tryz.ntmps93
  go_wp2_with (first
   | (go_at_call 113;go_must (refine(dI a.out.env a.out.fs a.out.ok a.out.plan (by omega) (by omega) a.out.Co a.out.apart).mono ?_;rw[q.out];rintro e y ⟨rfl,t⟩;have u:Hid (FsPost S O R w p g y):=t;clear t))
   | (go_at_call 156;go_must (refine(jX path (a.out.Cw u.out) u.out.fs r.out (by omega) (by omega)).mono ?_;rintro e G ⟨rfl,z⟩)))
  go_ret;rw[l.out];exact⟨rfl,u.out.trans z⟩
 .have E:(i==0)=false:=by simpa using c
  have A:(i != 0)=true:=by simpa using c
  have l:Hid (bD m path=(g,i)):=by unfold Hid;rw[b.out];simp[c]
  clear c b;go_enter Tryz.func93,Tryz.ntmps93
  go_wp2_with (go_at_call 113;go_must (refine(dI a.out.env a.out.fs a.out.ok a.out.plan (by omega) (by omega) a.out.Co a.out.apart).mono ?_;rw[q.out];rintro e y ⟨rfl,t⟩))
  go_ret;rw[l.out];exact⟨rfl,t⟩
theorem zg {S O R:Nat->Prop} (h:FsIn S O R w p m) :
  Calls Tryz.prog 99 #[p] w fun e C=>e=.returned (.int .i64 (dt m).2)/\FsPost S O R w p (dt m).1 C:=by
 obtain⟨d,j,i,g⟩:∃d j i,av m=(d,j,i):=⟨_,_,_,rfl⟩;have n:=ci h.ok h.plan;rw[g]at n;have k:dt m=if i=0 then(settle d,0)else(d,i):=by unfold dt;rw[g]
 have b:Hid _:=k;have r:Hid _:=g;have q:Hid _:=n;have a:Hid _:=h;have B:=h.time;have A:=h.calls;clear k g n h
 by_cases c:i=0
 .subst c;have t:d.now.length<=10000000:=by
   have o:OkM d:=q.out.1.ok;have x:d.time<=m.time+1000:=q.out.1.time;have:=o.B7;omega
  have l:Hid (dt m=(settle d,0)):=b.out;go_enter Tryz.func99,Tryz.ntmps99
  go_wp2_with (first
   | (go_at_call 113;go_must (refine(dI a.out.env a.out.fs a.out.ok a.out.plan (by omega) (by omega) a.out.Co a.out.apart).mono ?_;rw[r.out];rintro e y ⟨rfl,o⟩;have u:Hid (FsPost S O R w p d y):=o;clear o))
   | (go_at_call 158;go_must (refine(kR u.out.fs t).mono ?_;rintro e E ⟨rfl,x⟩)))
  go_ret;rw[l.out];exact⟨rfl,u.out.trans x⟩
 .have D:(i==0)=false:=by simpa using c
  have z:(i != 0)=true:=by simpa using c
  have l:Hid (dt m=(d,i)):=by unfold Hid;rw[b.out];simp[c]
  clear c b;go_enter Tryz.func99,Tryz.ntmps99
  go_wp2_with (go_at_call 113;go_must (refine(dI a.out.env a.out.fs a.out.ok a.out.plan (by omega) (by omega) a.out.Co a.out.apart).mono ?_;rw[r.out];rintro e y ⟨rfl,o⟩))
  go_ret;rw[l.out];exact⟨rfl,o⟩
end
section
open Go Go.RowKit
variable {w:World} {p:Value} {m:Fs}
theorem wG {S O R:Nat->Prop} (src dst:B8) (a:Bool) (h:FsIn S O R w p m) (hs:src.length<=400) (hd:dst.length<=400) :
  Calls Tryz.prog 136 #[p,S8 src,S8 dst,.bool a] w fun e w'=>e=.returned (.int .i64 (aP m src dst a).2)/\FsPost S O R w p (aP m src dst a).1 w':=by
 obtain⟨c,F,E,B⟩:∃c F E,av m=(c,F,E):=⟨_,_,_,rfl⟩;have K:=ci h.ok h.plan;rw[B]at K;have G:aP m src dst a=if E≠0 then(c,E)else if az src=false\/az dst=false then(c,6)
   else if(aA c.now src).isNone then(c,7)else if(aA c.now dst).isSome/\a=true then(c,8)
   else if src=dst then(c,0)else if(aA c.now dst).isNone/\et c.now dst src=false then(c,9)else(does c (.mv src dst),0):=by unfold aP mvM;rw[B]
 have k:Hid _:=G;have Z:Hid _:=B;have Y:Hid _:=K;have t:Hid _:=h;have bt:=h.time;have br:=h.calls;obtain⟨g,a8⟩:∃g,p=.pointer (some ⟨g,0,none⟩):=by
  obtain⟨g,gm,gd,vp,vl,vu,L,c0,Q,-⟩:=h.fs;exact⟨g,Q⟩
 subst a8;have bv:(⟨src.toArray⟩:ByteArray).toList=src:=Lib.toList_data _;have bs:(⟨dst.toArray⟩:ByteArray).toList=dst:=Lib.toList_data _;clear G B K h
 by_cases A:E=0
 .subst A;have bb:c.time<=m.time+1000:=Y.out.1.time;have y:Hid (OkM c):=Y.out.1.ok;obtain⟨ps,T⟩:∃ps,az src=ps:=⟨_,rfl⟩;obtain⟨pd,P⟩:∃pd,az dst=pd:=⟨_,rfl⟩;have I:Hid _:=T;have ad:Hid _:=P;rw[T,P]at k;clear T P;go_enter Tryz.func136,Tryz.ntmps136;go_wp2_with fail;go_at_call 113;refine(dI t.out.env t.out.fs t.out.ok t.out.plan (by omega) (by omega) t.out.Co t.out.apart).mono ?_;rw[Z.out];rintro e w1 ⟨rfl,h1⟩;have H1:Hid (FsPost S O R w (.pointer (some ⟨g,0,none⟩)) c w1):=h1;clear h1;go_wp2_with fail;go_at_call 51;refine(ee src _ (t.out.Cw H1.out) (by omega)).mono ?_;rw[I.out];rintro e w2 ⟨rfl,a1⟩;have H2:Hid (FsPost S O R w (.pointer (some ⟨g,0,none⟩)) c w2):=FsPost.ext H1.out a1;clear a1
  cases ps with
  | false =>
   have j:Hid (aP m src dst a=(c,6)):=by unfold Hid;rw[k.out];simp
   clear k;go_wp2;go_ret;rw[j.out];exact⟨rfl,H2.out⟩
  | true =>
   go_wp2_with fail;go_at_call 51;refine(ee dst _ (t.out.Cw H2.out) (by omega)).mono ?_;rw[ad.out];rintro e w3 ⟨rfl,a2⟩;have C:Hid (FsPost S O R w (.pointer (some ⟨g,0,none⟩)) c w3):=FsPost.ext H2.out a2;clear a2
   cases pd with
   | false =>
    have j:Hid (aP m src dst a=(c,6)):=by unfold Hid;rw[k.out];simp
    clear k;go_wp2;go_ret;rw[j.out];exact⟨rfl,C.out⟩
   | true =>
    obtain⟨g',bk,bh,b0,bS,b1,L',bd,Q,M,bl,J,-,-⟩:=C.out.fs;cases Q;obtain⟨z0,z1,z2,z3,z4,z5,z6,z7,z8⟩:=ao M;obtain⟨bx,z,-,U,V⟩:=J.now.Ca src (by omega);have HN:Hid _:=J.now;have H:Hid _:=M;clear M J
    cases n:aA c.now src with
    | none =>
     rw[n]at z;obtain rfl:=V n;simp only[Option.isSome_none]at z;have j:Hid (aP m src dst a=(c,7)):=by unfold Hid;rw[k.out,n];simp
     have q:Ext w3 (w3.alloc (.cells #[.int .i64 0,.slice none 0 0,.int .i64 0] 56)):=(Ext.refl _).alloc _;obtain⟨q0,q1,q2,q3,q4,q5,q6,q7,q8⟩:=ao (Ext.row q H.out);obtain⟨a4,i,-,u,x⟩:=(HN.out.ext q).Ca dst (by omega);have o:Hid _:=q;clear U V n k q q0 q2 q3 q4 q5 q6 q7 q8
     cases b:aA c.now dst with
     | none =>
      rw[b]at i;obtain rfl:=x b;simp only[Option.isSome_none]at i;clear u x b;go_wp2;go_ret;rw[j.out];exact⟨rfl,FsPost.ext C.out (Ext.alloc o.out _)⟩
     | some W =>
      rw[b]at i;obtain⟨ba,rfl,r⟩:=u W b;obtain⟨r1,r2,rfl,-⟩:=r.bytes;simp only[Option.isSome_some]at i;clear u x b r;go_wp2;go_ret;rw[j.out];exact⟨rfl,FsPost.ext C.out (Ext.alloc o.out _)⟩
    | some f =>
     rw[n]at z;obtain⟨sv,rfl,a0⟩:=U f n;obtain⟨s1,s2,rfl,-⟩:=a0.bytes;simp only[Option.isSome_some]at z;have q:Ext w3 (w3.alloc (.cells #[.int .i64 f.mode,.slice s1 f.data.length s2,.int .i64 f.time] 56)):=(Ext.refl _).alloc _;obtain⟨q0,q1,q2,q3,q4,q5,q6,q7,q8⟩:=ao (Ext.row q H.out);obtain⟨a4,i,-,u,x⟩:=(HN.out.ext q).Ca dst (by omega);have o:Hid _:=q;have D:Hid ((aA c.now src).isSome=true):=by unfold Hid;rw[n];rfl
     have l:Hid (aP m src dst a=if(aA c.now dst).isSome/\a=true then(c,8)
       else if src=dst then(c,0)else if(aA c.now dst).isNone/\et c.now dst src=false then(c,9)else(does c (.mv src dst),0)):=by unfold Hid;rw[k.out,n];simp
     clear U V a0 k q q0 q2 q3 q4 q5 q6 q7 q8
     cases b:aA c.now dst with
     | some W =>
      rw[b]at i;obtain⟨ba,rfl,r⟩:=u W b;obtain⟨r1,r2,rfl,-⟩:=r.bytes;simp only[Option.isSome_some]at i;rw[b]at l;clear u x r n b
      cases a with
      | true =>
       have j:Hid (aP m src dst true=(c,8)):=by unfold Hid;rw[l.out];simp
       clear l;go_wp2;go_ret;rw[j.out];exact⟨rfl,FsPost.ext C.out (Ext.alloc o.out _)⟩
      | false =>
       obtain⟨bq,au⟩:∃bq,(src==dst)=bq:=⟨_,rfl⟩
       cases bq with
       | true =>
        have j:Hid (aP m src dst false=(c,0)):=by unfold Hid;rw[l.out,if_neg (by simp),if_pos (by simpa using au)]
        clear l;go_wp2;go_ret;rw[j.out];exact⟨rfl,FsPost.ext C.out (Ext.alloc o.out _)⟩
       | false =>
        have j:Hid (aP m src dst false=(does c (.mv src dst),0)):=by unfold Hid;rw[l.out,if_neg (by simp),if_neg (by simpa using au),if_neg (by simp)]
        clear l;have X:Hid _:=FsPost.ext C.out (Ext.alloc o.out (.cells #[.int .i64 W.mode,.slice r1 W.data.length r2,.int .i64 W.time] 56))
        go_wp2_with (go_at_call 189;go_must (refine(qJ (.mv src dst) [S8 dst,S8 src,.bool false,.int .i64 0,.slice none 0 0,.int .i64 0] (FsPost.fs X.out) ⟨by omega,by omega,oY I.out,rfl⟩ (fun s d e=>by cases e;exact D.out) (by have:=y.out.B7;omega) (by have:=y.out.Cn;omega) (by omega)).mono ?_;rintro e w5 ⟨rfl,h5,a9⟩))
        go_ret;rw[j.out];exact⟨rfl,FsPost.trans X.out ⟨h5,a9⟩⟩
     | none =>
      rw[b]at i;obtain rfl:=x b;simp only[Option.isSome_none]at i;rw[b]at l;have a7:(src==dst)=false:=by
       rw[beq_eq_false_iff_ne];intro e;rw[e,b]at n;cases n
      have aa:Hid (src≠dst):=beq_eq_false_iff_ne.1 a7;clear u x n b;have X:Hid _:=FsPost.ext C.out (Ext.alloc o.out (.cells #[.int .i64 0,.slice none 0 0,.int .i64 0] 56));have a6:Hid _:=IsFiles.ext HN.out (Ext.alloc o.out (.cells #[.int .i64 0,.slice none 0 0,.int .i64 0] 56));obtain⟨t0,t1,t2,t3,t4,t5,t6,t7,t8⟩:=ao (Ext.row (Ext.alloc o.out (.cells #[.int .i64 0,.slice none 0 0,.int .i64 0] 56)) H.out);obtain⟨my,N⟩:∃my,et c.now dst src=my:=⟨_,rfl⟩;have a5:Hid (kD c.now dst src=my):=(ji src ad.out).trans N;rw[N]at l;clear N t0 t2 t3 t4 t5 t6 t7 t8;go_wp2_with fail;go_at_call 188;refine(ma dst src (t.out.Cw X.out) a6.out (by omega)).mono ?_;rw[a5.out];rintro e w5 ⟨rfl,a3⟩;have H5:Hid (FsPost S O R w (.pointer (some ⟨g,0,none⟩)) c w5):=FsPost.ext X.out a3;clear a3
      cases my with
      | false =>
       have j:Hid (aP m src dst a=(c,9)):=by unfold Hid;rw[l.out,if_neg (by simp),if_neg aa.out];simp
       clear l;go_wp2;go_ret;rw[j.out];exact⟨rfl,H5.out⟩
      | true =>
       have j:Hid (aP m src dst a=(does c (.mv src dst),0)):=by unfold Hid;rw[l.out,if_neg (by simp),if_neg aa.out];simp
       clear l
       go_wp2_with (go_at_call 189;go_must (refine(qJ (.mv src dst) [S8 dst,S8 src,.bool false,.int .i64 0,.slice none 0 0,.int .i64 0] H5.out.fs ⟨by omega,by omega,oY I.out,rfl⟩ (fun s d e=>by cases e;exact D.out) (by have:=y.out.B7;omega) (by have:=y.out.Cn;omega) (by omega)).mono ?_;rintro e w6 ⟨rfl,h6,a'⟩))
       go_ret;rw[j.out];exact⟨rfl,FsPost.trans H5.out ⟨h6,a'⟩⟩
 .have hb:(E==0)=false:=by simpa using A
  have bo:(E != 0)=true:=by simpa using A
  have j:Hid (aP m src dst a=(c,E)):=by unfold Hid;rw[k.out];simp[A]
  clear A k;go_enter Tryz.func136,Tryz.ntmps136
  go_wp2_with (go_at_call 113;go_must (refine(dI t.out.env t.out.fs t.out.ok t.out.plan (by omega) (by omega) t.out.Co t.out.apart).mono ?_;rw[Z.out];rintro e w1 ⟨rfl,h1⟩))
  go_ret;rw[j.out];exact⟨rfl,h1⟩
theorem nh {S O R:Nat->Prop} (src dst:B8) (h:FsIn S O R w p m) (d:src.length<=400) (c:dst.length<=400) :
  Calls Tryz.prog 78 #[p,S8 src,S8 dst] w fun e g=>e=.returned (.int .i64 (aP m src dst false).2)/\FsPost S O R w p (aP m src dst false).1 g:=by
 have a:Hid _:=wG src dst false h d c;clear h;go_enter Tryz.func78,Tryz.ntmps78
 go_wp2_with (go_at_call 136;go_must (refine Calls.mono a.out ?_;rintro e i ⟨rfl,b⟩))
 go_ret;exact⟨rfl,b⟩
theorem sK {S O R:Nat->Prop} (src dst:B8) (h:FsIn S O R w p m) (d:src.length<=400) (c:dst.length<=400) :
  Calls Tryz.prog 97 #[p,S8 src,S8 dst] w fun e g=>e=.returned (.int .i64 (aP m src dst true).2)/\FsPost S O R w p (aP m src dst true).1 g:=by
 have a:Hid _:=wG src dst true h d c;clear h;go_enter Tryz.func97,Tryz.ntmps97
 go_wp2_with (go_at_call 136;go_must (refine Calls.mono a.out ?_;rintro e i ⟨rfl,b⟩))
 go_ret;exact⟨rfl,b⟩
end
end Go.Proofs.YtfabjgfmiaammaaGreatDoor
