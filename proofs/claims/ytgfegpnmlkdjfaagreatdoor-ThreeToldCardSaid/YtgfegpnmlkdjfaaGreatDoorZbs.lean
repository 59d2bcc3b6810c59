/- Contracts of the program's functions and plain laws behind the card. Conditions: as each theorem states. -/
import Derived.Test.YtgfegpnmlkdjfaaGreatDoorZbr
set_option linter.unusedVariables false
set_option linter.unusedSimpArgs false
set_option linter.unusedSectionVars false
set_option maxRecDepth 100000
set_option maxHeartbeats 64000000
namespace Go.Proofs.YtgfegpnmlkdjfaaGreatDoor
section
open Go Go.RowKit Go.Sort
variable {l:List B8} {p:B8}
theorem DL {o a b:ae} (h:e8 l o a b p=true):(enL a p).1≠0/\(enL b p).1≠0:=by
 unfold e8 at h;rw[Bool.or_eq_true]at h;rcases h with h | h
 .exact (mu (of_decide_eq_true h)).2
 .obtain ⟨-,-,-,-,c,d,-⟩:=fQ (of_decide_eq_true (Bool.and_eq_true_iff.1 h).1);exact⟨by rcases il c with h | h <;> rw[h] <;> decide,by rcases il d with h | h <;> rw[h] <;> decide⟩
def Pln (m:ae):Prop:=∀e∈m,e.2=fiE (e.2.mode,e.2.data)
theorem oW {o a b:ae}:∀(l:List Rw) (d c:ae),Pln d->a8 o a b l d=some c->Pln c
 | [],d,c,i,h=>by cases h;exact i
 | r::l,d,c,i,h=>by
  cases j:aV o a b d r 21 with
  | none=>rw[fy j]at h;cases h
  | some z =>
   rw[fz j]at h;obtain⟨n,-,-,rfl⟩:=i9 21 z (Nat.le_refl _) j;refine oW l _ c (fun e g=>?_) h;rcases cG g with rfl | ⟨g,-⟩
   .rfl
   .exact i e g
theorem mr {l:List B8} {o a b:ae}:∀(P:List B8) (s y:Mg×ae),bX l o a b P s=.ok y->∀p∈P,(al (enL o p) (enL a p) (enL b p)).2=3->cj l (enL o p).2 (enL a p).2 (enL b p).2=.no\/cj l (enL o p).2 (enL a p).2 (enL b p).2=.same\/∃x,cj l (enL o p).2 (enL a p).2 (enL b p).2=.made x
 | [],s,y,h,p,c,_=>by cases c
 | q::P,s,y,h,p,c,g=>by
  unfold bX at h
  cases e:cA l o a b s q with
  | error k=>rw[e]at h;cases h
  | ok z =>
   rw[e]at h;rcases List.mem_cons.1 c with rfl | c
   .rcases kB e with⟨i,-⟩ | ⟨-,⟨d,-⟩ | ⟨d,-⟩ | ⟨x,d,-⟩⟩
    .exact absurd g i
    .exact .inl d
    .exact .inr (.inl d)
    .exact .inr (.inr ⟨x,d⟩)
   .exact mr P z y h p c g
structure EC (l:List B8) (o a b:List Rw) (y:(List Rw×List (B8×Int))×ae) (mv:List Rw):Prop where
 ok:an o=true/\an a=true/\an b=true
 may:an y.1.1=true
 notes:y.1.2=(bj (ar [o,a,b])).flatMap (ntX l (byP o) (byP a) (byP b))++mv.map (fun r=>(r.path,(3:Int)))
 Ij:cK mv
 II:∀r∈mv,gJ (byP o) (byP a) (byP b) r.path/\∃q,gJ (byP o) (byP a) (byP b) q/\aD r.path q=true
 stay:∀p∈ar [o,a,b],(bx l (byP o) (byP a) (byP b) p).1≠0->(∀r∈mv,r.path≠p)->aj y.1.1 p=bx l (byP o) (byP a) (byP b) p
 all:∀p∈ar [o,a,b],(bx l (byP o) (byP a) (byP b) p).1≠0->aj y.1.1 p=bx l (byP o) (byP a) (byP b) p\/∃n,n<=20/\aj y.1.1 (ct p (bx l (byP o) (byP a) (byP b) p).2 n)=bx l (byP o) (byP a) (byP b) p
 none:∀p∈ar [o,a,b],(bx l (byP o) (byP a) (byP b) p).1=0->aj y.1.1 p=(0,[])
 copy:∀p∈ar [o,a,b],e8 l (byP o) (byP a) (byP b) p=true->∃n,n<=20/\aj y.1.1 (ct p (aN (aj a p) (aj b p)).2.2 n)=(aN (aj a p) (aj b p)).2
 I3:∀p∈ar [o,a,b],(al (aj o p) (aj a p) (aj b p)).2=3->cj l (aj o p).2 (aj a p).2 (aj b p).2=.no\/cj l (aj o p).2 (aj a p).2 (aj b p).2=.same\/∃x,cj l (aj o p).2 (aj a p).2 (aj b p).2=.made x
 md:y.2=(bj (ar [o,a,b])).foldl (mdX l (byP o) (byP a) (byP b)) []
 up:Rising y.2
 id:∀e∈y.2,e.1=aC e.2.data
variable {o a b:List Rw}
theorem jL:p∈ar [o,a,b]↔(∃x∈o,x.path=p)\/(∃x∈a,x.path=p)\/∃x∈b,x.path=p:=by
 unfold ar;simp only[List.flatMap_cons,List.flatMap_nil,List.append_nil,List.mem_append,List.mem_map]
variable {t:List Rw}
theorem mY (h:an t=true):cE (byP t) p=true↔∃x∈t,x.path=p:=by
 rw[Cs h];constructor
 .exact (jk h p).2
 .rintro ⟨x,a,rfl⟩;rw[g8 (aZ h).1 a];have:=(kM h a).2.1;show x.mode≠0;omega
theorem uh (e:an o=true) (c:an a=true) (d:an b=true):gJ (byP o) (byP a) (byP b) p↔p∈ar [o,a,b]:=by
 unfold gJ;rw[mY e,mY c,mY d,jL]
variable {y:(List Rw×List (B8×Int))×ae}
theorem nL (h:bR l o a b=.ok y):∃R,EC l o a b y R:=by
 obtain⟨hm,z,K,rfl⟩:=xx h;simp only[Bool.and_eq_true]at hm;obtain⟨ho,E,F⟩:=hm;have hE:=sJ K;obtain⟨S,d,y,h1,Q,Y,h4,C⟩:=sK K;have A:=mr _ _ _ h1;have aa:=nR _ _ _ h1;obtain⟨hS,I⟩:=Prod.mk.inj aa;dsimp only at hS I;subst hS;rw[List.nil_append]at Q Y;dsimp only at Q Y;have eo:∀p,enL (byP o) p=aj o p:=fun p=>cN (aZ ho).1 p
 have U:∀p,enL (byP a) p=aj a p:=fun p=>cN (aZ E).1 p
 have V:∀p,enL (byP b) p=aj b p:=fun p=>cN (aZ F).1 p
 have W:∀p,FitN (enL (byP a) p)/\((enL (byP a) p).1≠0->∃x∈a,x.path=p):=fun p=>by rw[U];exact jk E p
 have X:∀p,FitN (enL (byP b) p)/\((enL (byP b) p).1≠0->∃x∈b,x.path=p):=fun p=>by rw[V];exact jk F p
 have T:∀p,FitN (bx l (byP o) (byP a) (byP b) p)/\((bx l (byP o) (byP a) (byP b) p).1≠0->(enL (byP a) p).1≠0\/(enL (byP b) p).1≠0):=fun p=>vU (W p).1 (X p).1
 have Z:∀q,q∈bj (ar [o,a,b])↔q∈ar [o,a,b]:=fun q=>dd
 have tp:∀p,gJ (byP o) (byP a) (byP b) p↔p∈ar [o,a,b]:=fun p=>uh ho E F
 have tb:∀p,(enL (byP a) p).1≠0\/(enL (byP b) p).1≠0->gJ (byP o) (byP a) (byP b) p/\aR (et++p)=true:=by
  rintro p (k | k)
  .have u:=(W p).2 k;refine⟨(tp p).2 (jL.2 (.inr (.inl u))),?_⟩;obtain⟨x,u,rfl⟩:=u;exact(kM E u).1
  .have u:=(X p).2 k;refine⟨(tp p).2 (jL.2 (.inr (.inr u))),?_⟩;obtain⟨x,u,rfl⟩:=u;exact(kM F u).1
 obtain⟨r0,l0⟩:=tx (f:=bx l (byP o) (byP a) (byP b)) (bj (ar [o,a,b])) [] List.Pairwise.nil;have O:∀q,¬(q∈bj (ar [o,a,b])/\(bx l (byP o) (byP a) (byP b) q).1≠0)->ax ((bj (ar [o,a,b])).foldl (fun m p=>fS m p (bx l (byP o) (byP a) (byP b) p)) []) q=Option.none:=fun q hq=>by
  rw[l0 q,if_neg hq];rfl
 generalize(bj (ar [o,a,b])).foldl (fun m p=>fS m p (bx l (byP o) (byP a) (byP b) p)) []=t at *;have P:∀e∈t,(e.1∈bj (ar [o,a,b])/\(bx l (byP o) (byP a) (byP b) e.1).1≠0)/\e.2=fiE (bx l (byP o) (byP a) (byP b) e.1):=fun e i=>by
  have g:=jn r0 i
  by_cases H:e.1∈bj (ar [o,a,b])/\(bx l (byP o) (byP a) (byP b) e.1).1≠0
  .rw [l0,if_pos H]at g;exact⟨H,(Option.some.inj g).symm⟩
  .rw [O _ H]at g;cases g
 have I0:Inv (byP o) (byP a) (byP b) t:=⟨r0,fun e i f G _=>⟨(tb _ ((T _).2 (P e i).1.2)).1,(tb _ ((T _).2 (P f G).1.2)).1⟩,fun e i=>by
  obtain⟨⟨-,g⟩,D⟩:=P e i;rw[D];exact⟨(tb _ ((T _).2 g)).2,(T _).1.fit g⟩⟩
 have P0:Pln t:=fun e i=>by rw[(P e i).2];rfl
 have cm:∀r∈(bj (ar [o,a,b])).flatMap (cpX l (byP o) (byP a) (byP b)),sF r:=fun r c=>by
  obtain⟨p,j,c⟩:=List.mem_flatMap.1 c;unfold cpX at c;split at c
  .rename_i G;obtain rfl:=List.mem_singleton.1 c;obtain⟨z1,z2⟩:=DL G;unfold sF;dsimp only;rcases g9 (enL (byP a) p) (enL (byP b) p)with h | h <;> rw[h]
   .exact (X p).1.fit z2
   .exact (W p).1.fit z1
  .cases c
 obtain⟨L,i2,i3,i4⟩:=oV _ _ d I0 cm Q;have P1:Pln d:=oW _ _ _ P0 Q;have hL:∀r∈aI d,ax d r.path=some (fiE (r.mode,r.id))/\sF r:=fun r c=>by
  obtain⟨e,i,rfl⟩:=List.mem_map.1 c;have g:=jn L.G2 i;refine⟨?_,(L.ok e i).2⟩;rw[P1 e i]at g;exact g
 obtain⟨B,j2,R,j3,j4,j5,j6,j7⟩:=mi (aI d) d _ y L (gU L.G2) hL (fun e i A=>absurd rfl (A _ (List.mem_map.2 ⟨e,i,rfl⟩))) Y;have lk:∀p∈ar [o,a,b],(bx l (byP o) (byP a) (byP b) p).1≠0->ax d p=some (fiE (bx l (byP o) (byP a) (byP b) p)):=fun p j k=>i2 _ _ (by rw[l0,if_pos ⟨(Z p).2 j,k⟩])
 refine⟨R,⟨ho,E,F⟩,?_,?_,List.Pairwise.sublist j4 (gU L.G2),fun r c=>?_,fun p j k w=>?_,fun p j k=>?_,fun p j k=>?_,fun p j G=>?_,fun p j hk=>?_,I,hE.up,hE.id⟩
 .show an (aI z.1.1)=true;rw[C];exact El B.G2 B.ok j2 h4
 .show z.1.2=_;rw[C];exact j3
 .obtain ⟨M,⟨f,-,N,k3⟩,-,-⟩:=j5 r c;exact⟨M,f.1,N,k3⟩
 .show aj (aI z.1.1) p=_;rw[C,jv B.G2];exact kZ (j6 p _ w (lk p j k))
 .show aj (aI z.1.1) p=_\/∃n,n<=20/\aj (aI z.1.1) _=_;rw[C]
  by_cases w:∃r∈R,r.path=p
  .obtain ⟨r,c,J⟩:=w;obtain⟨-,-,-,n,w,hc⟩:=j5 r c;have g:=(hL r (j4.subset c)).1;rw[J,lk p j k]at g;have D:bx l (byP o) (byP a) (byP b) p=(r.mode,r.id):=by
    have D:=Option.some.inj g;unfold fiE at D;injection D with M N;exact Prod.ext M N
   right;refine⟨n,w,?_⟩;rw[jv B.G2,D,<-J];exact kZ hc
  .left;rw[jv B.G2];exact kZ (j6 p _ (fun r c e=>w ⟨r,c,e⟩) (lk p j k))
 .show aj (aI z.1.1) p=_;have ht:=(tp p).2 j;rw[C,jv B.G2];exact AD (j7 p ht (by rw[i3 p ht];exact O p (fun H=>H.2 k)))
 .show ∃n,n<=20/\aj (aI z.1.1) _=_;rw[C,<-U,<-V];obtain⟨n,w,M,N⟩:=i4 ⟨p,(aN (enL (byP a) p) (enL (byP b) p)).2.1,(aN (enL (byP a) p) (enL (byP b) p)).2.2⟩ (List.mem_flatMap.2 ⟨p,(Z p).2 j,by unfold cpX;rw[if_pos G];exact List.mem_singleton.2 rfl⟩);refine⟨n,w,?_⟩;rw[jv B.G2];exact kZ (j6 _ _ (fun r c e=>M (by rw[<-e];exact(j5 r c).1)) N)
 .have:=A p ((Z p).2 j);rw[eo,U,V]at this;exact this hk
theorem zv {o a b:En} (c:(al o a b).2≠3) (d:(al o a b).2≠5):(o≠a->a.1=0\/(al o a b).1=a)/\(o≠b->b.1=0\/(al o a b).1=b):=by
 unfold al at c d ⊢;split
 .rename_i h;exact⟨fun _=>.inr rfl,fun _=>.inr h⟩
 .rename_i g;rw[if_neg g]at c d;split
  .rename_i h;exact⟨fun e=>absurd h e,fun _=>.inr rfl⟩
  .rename_i i;rw[if_neg i]at c d;split
   .rename_i h;exact⟨fun _=>.inr rfl,fun e=>absurd h e⟩
   .rename_i j;rw[if_neg j]at c d;split
    .rename_i h;exact⟨fun _=>.inl h,fun _=>.inr rfl⟩
    .rename_i k;rw[if_neg k]at c d;split
     .rename_i h;exact⟨fun _=>.inr rfl,fun _=>.inl h⟩
     .rename_i l;rw[if_neg l]at c d;split
      .rename_i h;rw[if_pos h]at c;exact absurd rfl c
      .rename_i h;rw[if_neg h]at d;exact absurd rfl d
variable {q:B8}
theorem yD {R:List Rw} (h:cK R) (b:(aj R q).1≠0):∃x∈R,x.id=(aj R q).2:=by
 rcases gN h q with⟨x,c,-,a⟩ | ⟨-,a⟩
 .exact ⟨x,c,by rw[a]⟩
 .rw [a]at b;exact absurd rfl b
theorem tQ (h:an t=true) (e:(aj t p).1≠0) (b:cE (byP t) q=true) (a:aD p q=true):False:=by
 obtain⟨x,c,rfl⟩:=(jk h p).2 e;obtain⟨y,d,rfl⟩:=(mY h).1 b;rw[rL h c d]at a;cases a
variable {x:B8}
theorem tI {o a b:ae} (h:fK l o a b p=some x):(al (enL o p) (enL a p) (enL b p)).2=3/\bx l o a b p=(dg (enL o p) (enL a p) (enL b p),aC x):=by
 unfold fK at h;split at h
 .rename_i c;refine⟨c,?_⟩;have d:=(fQ c).2.2.2.2.2.2;split at h
  .rename_i z e;cases h;unfold bx;rw[if_pos c,e,d]
  .cases h
 .cases h
theorem zO {o a b:B8} (h:cj l o a b=.made x):x.length<=5000:=by
 unfold cj at h;split at h
 .cases h
 .split at h
  .cases h
  .split at h
   .cases h
   .split at h
    .cases h
    .cases h;exact tg _ (by omega)
theorem sQ (h:bR l o a b=.ok y):∀e∈y.2,e.2.data.length<=5000:=by
 obtain⟨k,c⟩:=nL h;intro e g;rw[c.md]at g;rcases(mW (bj (ar [o,a,b])) []).1 e g with i | ⟨p,-,d,-⟩
 .cases i
 .unfold fK at d;split at d
  .split at d
   .rename_i z j;cases d;exact zO j
   .cases d
  .cases d
theorem DM (h:bR l o a b=.ok y):Ag o a b y:=by
 obtain⟨mv,c⟩:=nL h;obtain⟨S,H,I⟩:=c.ok;have C:∀p,enL (byP o) p=aj o p:=fun p=>cN (aZ S).1 p
 have z:∀p,enL (byP a) p=aj a p:=fun p=>cN (aZ H).1 p
 have A:∀p,enL (byP b) p=aj b p:=fun p=>cN (aZ I).1 p
 have P:∀q,q∈bj (ar [o,a,b])↔q∈ar [o,a,b]:=fun q=>dd
 have R:(bj (ar [o,a,b])).Nodup:=(jh _).imp fun w=>fp w
 obtain⟨n1,W⟩:=tR (l:=l) (o:=byP o) (a:=byP a) (b:=byP b) R;have rz:∀p,(bx l (byP o) (byP a) (byP b) p).1=0->bx l (byP o) (byP a) (byP b) p=(0,[]):=fun p i=>(vU (by rw[z];exact(jk H p).1) (by rw[A];exact(jk I p).1)).1.I4 i
 have L:∀p,(al (aj o p) (aj a p) (aj b p)).2≠3->bx l (byP o) (byP a) (byP b) p=(al (aj o p) (aj a p) (aj b p)).1:=fun p Q=>by
  unfold bx;rw[C,z,A,if_neg Q]
 have Z:∀p∈ar [o,a,b],∀e:En,e.1=0\/bx l (byP o) (byP a) (byP b) p=e->fT y.1.1 p e:=fun p d e u=>by
  by_cases i:e.1=0
  .exact .inl i
  .rcases u with u | u
   .exact .inl u
   .subst u;exact .inr (c.all p d i)
 have fg:∀p∈ar [o,a,b],e8 l (byP o) (byP a) (byP b) p=true->bx l (byP o) (byP a) (byP b) p=(aN (aj a p) (aj b p)).1->(aj o p≠aj a p->fT y.1.1 p (aj a p))/\(aj o p≠aj b p->fT y.1.1 p (aj b p)):=fun p d hf g=>by
  have X:=Z p d _ (.inr g);have Y:fT y.1.1 p (aN (aj a p) (aj b p)).2:=.inr (.inr (c.copy p d hf));rcases g9 (aj a p) (aj b p)with h | h <;> rw[h]at X Y
  .exact ⟨fun _=>X,fun _=>Y⟩
  .exact ⟨fun _=>Y,fun _=>X⟩
 refine⟨c.may,?_,fun x j=>?_,fun p d hk Q=>?_,fun e u=>?_,c.up,c.id,fun p d=>?_⟩
 .rw [c.notes];refine List.nodup_append.2 ⟨n1,List.pairwise_map.2 (List.Pairwise.imp (fun {x y:Rw} (w:ltB x.path y.path=true) (e:(x.path,(3:Int))=(y.path,3))=>fp w (congrArg Prod.fst e)) c.Ij),fun x j y hy e=>?_⟩;subst e;obtain⟨r,-,rfl⟩:=List.mem_map.1 hy;rcases(W _ j).2 with h | h <;> cases h
 .rw [c.notes]at j;rcases List.mem_append.1 j with j | j
  .exact ⟨(P _).1 (W x j).1,(W x j).2.elim .inl (fun h=>.inr (.inl h))⟩
  .obtain ⟨r,g,rfl⟩:=List.mem_map.1 j;exact⟨(uh S H I).1 (c.II r g).1,.inr (.inr rfl)⟩
 .have k:(al (aj o p) (aj a p) (aj b p)).2≠3:=by rcases hk with h | h <;> rw[h] <;> decide
  rw[<-L p k]
  by_cases i:(bx l (byP o) (byP a) (byP b) p).1=0
  .rw [c.none p d i,rz p i]
  .exact c.stay p d i fun r g e=>Q (by rw[c.notes,<-e];exact List.mem_append_right _ (List.mem_map.2 ⟨r,g,rfl⟩))
 .have E:=u;rw[c.md]at E;rcases(mW (bj (ar [o,a,b])) []).1 e E with w | ⟨p,d,K,G⟩
  .cases w
  .obtain ⟨-,g⟩:=tI K;have i:(bx l (byP o) (byP a) (byP b) p).1≠0:=by
    rw[g];rcases ln (enL (byP o) p) (enL (byP a) p) (enL (byP b) p)with h | h <;> rw[h] <;> (dsimp only;decide)
   have t:=(aZ c.may).1;rcases c.all p ((P p).1 d) i with h | ⟨n,-,h⟩
   .obtain ⟨x,j,O⟩:=yD t (q:=p) (by rw[h];exact i);exact⟨x,j,by rw[O,h,g,G]⟩
   .obtain ⟨x,j,O⟩:=yD t (q:=ct p (bx l (byP o) (byP a) (byP b) p).2 n) (by rw[h];exact i);exact⟨x,j,by rw[O,h,g,G]⟩
 .by_cases k:(al (aj o p) (aj a p) (aj b p)).2=3
  .obtain ⟨K,G,k3,T,U,V,k7⟩:=fQ k;have M:(al (enL (byP o) p) (enL (byP a) p) (enL (byP b) p)).2=3:=by rw[C,z,A];exact k
   rcases c.I3 p d k with D | D | ⟨x,D⟩
   .right;refine fg p d ?_ ?_
    .unfold e8;rw[C,z,A,k,D];rfl
    .unfold bx;rw[C,z,A,if_pos k,D]
   .exact .inl ⟨⟨T,U,V,K,G,k3⟩,.inl (pV D)⟩
   .left;refine⟨⟨T,U,V,K,G,k3⟩,.inr ?_⟩;have F:fK l (byP o) (byP a) (byP b) p=some x:=by
     unfold fK;rw[if_pos M,C,z,A,D]
    obtain⟨-,g⟩:=tI F;have i:(bx l (byP o) (byP a) (byP b) p).1≠0:=by
     rw[g];rcases ln (enL (byP o) p) (enL (byP a) p) (enL (byP b) p)with h | h <;> rw[h] <;> (dsimp only;decide)
    have tz:∀e:En,bU e=true->e.1≠0:=fun e u=>by rcases il u with h | h <;> rw[h] <;> decide
    have hs:=c.stay p d i fun r g e=>by
     obtain⟨-,q,B,J⟩:=c.II r g;rw[e]at J;rcases B with B | B | B
     .exact tQ S (tz _ T) B J
     .exact tQ H (tz _ U) B J
     .exact tQ I (tz _ V) B J
    rw[hs,g,c.md];exact(mW _ _).2.1 p ((P p).2 d) x F
  .right
   by_cases N:(al (aj o p) (aj a p) (aj b p)).2=5
   .refine fg p d ?_ ?_
    .unfold e8;rw[C,z,A,N];rfl
    .rw [L p k];exact(mu N).1
   .obtain ⟨p1,p2⟩:=zv k N;exact⟨fun w=>Z p d _ ((p1 w).imp_right fun e=>(L p k).trans e),fun w=>Z p d _ ((p2 w).imp_right fun e=>(L p k).trans e)⟩
end
end Go.Proofs.YtgfegpnmlkdjfaaGreatDoor
