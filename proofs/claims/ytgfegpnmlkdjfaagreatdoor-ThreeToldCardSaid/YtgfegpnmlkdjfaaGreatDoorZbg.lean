/- Contracts of the program's functions and plain laws behind the card. Conditions: as each theorem states. -/
import Derived.Test.YtgfegpnmlkdjfaaGreatDoorZbd
import Derived.Test.YtgfegpnmlkdjfaaGreatDoorZbb
import Derived.Test.YtgfegpnmlkdjfaaGreatDoorZax
set_option linter.unusedVariables false
set_option linter.unusedSimpArgs false
set_option linter.unusedSectionVars false
set_option maxRecDepth 100000
set_option maxHeartbeats 64000000
namespace Go.Proofs.YtgfegpnmlkdjfaaGreatDoor
section
open Go Go.RowKit Go.Sort
def Ff (n:Nat) (l:List Rw):Prop:=∀r∈l,r.path.length<=n/\r.id.length<=1000
def BndF (n:Nat) (m:ae):Prop:=∀e∈m,e.1.length<=n/\e.2.data.length<=1000
def kQ (m:ae):Prop:=∀p,(enL m p).2.length<=1000
variable {p:B8}
theorem BndF.put {n:Nat} {m:ae} (h:BndF n m) {f:Fi} (c:p.length<=n) (b:f.data.length<=1000):BndF n (aF m p f):=fun e a=>by
 rcases cG a with rfl | ⟨a,-⟩
 .exact ⟨c,b⟩
 .exact h e a
theorem CQ {o a b:En} (c:a.2.length<=1000) (d:b.2.length<=1000):(al o a b).1.2.length<=1000:=by
 have e:(aN a b).1.2.length<=1000:=by unfold aN;split <;> assumption
 unfold al
 repeat' split
 all_goals first | exact c | exact d | exact e | exact Nat.zero_le _
theorem tn {a b:En} (c:a.2.length<=1000) (d:b.2.length<=1000):(aN a b).1.2.length<=1000/\(aN a b).2.2.length<=1000:=by
 unfold aN;split
 .exact ⟨c,d⟩
 .exact ⟨d,c⟩
structure BndM (k:Nat) (s:Mg):Prop where
 o:s.out.length<=k
 c:s.GV.length<=k
 n:s.notes.length<=k
 f:BndF 1000 s.out
 r:Ff 1000 s.GV
variable {k:Nat} {o a b:ae}
theorem BndM.path {s:Mg} (h:BndM k s) (d:p.length<=1000) (e:kQ a) (g:kQ b):BndM (k+1) (aU o a b s p):=by
 have j:=h.o;have l:=h.c;have n:=h.n;have i:=tn (e p) (g p);unfold aU;split
 .unfold dC;refine⟨?_,?_,?_,h.f.put d i.1,fun r c=>?_⟩
  .have:=bL s.out p (fiE (aN (enL a p) (enL b p)).1);show(aF s.out p _).length<=_;omega
  .show (s.GV++[_]).length<=_;rw[List.length_append,List.length_singleton];omega
  .show (s.notes++[_]).length<=_;rw[List.length_append,List.length_singleton];omega
  .rcases List.mem_append.1 c with c | c
   .exact h.r r c
   .obtain rfl:=List.mem_singleton.1 c;exact⟨d,i.2⟩
 .refine ⟨?_,?_,?_,?_,h.r⟩
  .have:=bL s.out p (fiE (al (enL o p) (enL a p) (enL b p)).1);show(if _ then _ else _:ae).length<=_;split <;> omega
  .show s.GV.length<=_;omega
  .show (if _ then _ else _:List (B8×Int)).length<=_;split
   .rw [List.length_append,List.length_singleton];omega
   .omega
  .show BndF 1000 (if _ then _ else _);split
   .exact h.f
   .exact h.f.put d (CQ (e p) (g p))
theorem lw {o a b:ae} {r:Rw} (i:r.path.length<=1000) (g:r.id.length<=1000):∀(k:Nat) (d c:ae),BndF 1100 d->aV o a b d r k=some c->BndF 1100 c
 | 0,d,c,_,h=>by cases h
 | k+1,d,c,e,h=>by
  unfold aV at h;split at h
  .cases h;refine e.put ?_ g
   have:=qT r.path r.id (20 - k);omega
  .exact lw i g k d c e h
theorem wX (o a b:ae) {P:List B8} (h:P[k]? = some p) (s:Mg):(P.take (k+1)).foldl (aU o a b) s=aU o a b ((P.take k).foldl (aU o a b) s) p:=by
 rw[cC h,List.foldl_append];rfl
def AG (m:Option (ae×List (B8×Int))):Int:=match m with | some _=>0 | none=>14
variable {r:Rw} {l:List Rw} {out:ae}
theorem fy (h:aV o a b out r 21=none):a8 o a b (r::l) out=none:=by
 unfold a8;rw[h]
theorem fz {c:ae} (h:aV o a b out r 21=some c):a8 o a b (r::l) out=a8 o a b l c:=by
 rw[a8,h]
theorem Aj {w:World} {g B:Nat} {x:MB} {vc vn:Value} (v:Value) (P:List B8) (hE:∀E,FrM B w E->Env E) (h:IsMer w g B x vc vn o a b ⟨[],[],[]⟩) (hB:B<=w.heap.size)
  (hv:IsStrs w v P) (ht:∀k,v.ownBlock=some k->∃cs fr,w.heap[k]? = some (.cells cs 9 fr)) (hP:P.length<=1000) (L:∀p∈P,p.length<=1000) (ha:kQ a) (hb:kQ b) (hk:∀p,(al (enL o p) (enL a p) (enL b p)).2≠3) :
  Calls Tryz.prog 27 #[.pointer (some ⟨g,0,none⟩),v] w fun e E=>e=.returned (.int .i64 (AG (dJ o a b P)))/\(∀y,dJ o a b P=some y->∃b6 b8 cs,IsMer E g B x b6 b8 o a b ⟨y.1,cs,y.2⟩)/\FrM B w E:=by
 have H:Hid (IsMer w g B x vc vn o a b ⟨[],[],[]⟩):=h;have HE:Hid (∀E,FrM B w E->Env E):=hE;have HV:Hid (IsStrs w v P):=hv;have HT:Hid _:=ht;have bm:Hid _:=L;have HK:Hid _:=hk;obtain⟨va,vb,rfl,v1,v2,v3,-⟩:=hv.get;clear h hE hv ht L hk;go_enter Tryz.func27,Tryz.ntmps27;go_wp2_with fail;go_loopw [14] (fun i wr=>∃(k:Nat) (vq vm:Value),k<=P.length/\i=.int .i64 k/\Hid (IsMer wr g B x vq vm o a b ((P.take k).foldl (aU o a b) ⟨[],[],[]⟩))/\Hid (BndM k ((P.take k).foldl (aU o a b) ⟨[],[],[]⟩))/\Hid (FrM B w wr)) (fun i _=>P.length - (intOf i).toNat)
 case atStart=>exact⟨0,vc,vn,Nat.zero_le _,rfl,H.out,⟨Nat.le_refl _,Nat.le_refl _,Nat.le_refl _,fun e D=>(by cases D),fun r M=>(by cases M)⟩,FrM.GX (Ext.refl w)⟩
 case round =>
 obtain⟨k,vq,vm,b0,rfl,t,l,C⟩:=hrel
 by_cases I:k<P.length
 case pos =>
  obtain⟨p,hp⟩:∃p,P[k]? = some p:=⟨_,List.getElem?_eq_getElem I⟩;have a7:IsStrs wr _ P:=C.out.strs HV.out HT.out;obtain⟨_,_,D,-,-,-,u⟩:=a7.get;cases D;obtain⟨bb,oo,rfl,hc⟩:=u k I;have y0:=hc k I;rw[show P.getD k []=p by rw[List.getD_eq_getElem?_getD,hp];rfl]at y0;have L:=bm.out p (List.mem_of_getElem? hp);obtain⟨S,hS⟩:∃S,(P.take k).foldl (aU o a b) ⟨[],[],[]⟩=S:=⟨_,rfl⟩;have W:Hid _:=wX o a b hp ⟨[],[],[]⟩;rw[hS]at t l W;have bo:B<=wr.heap.size:=Nat.le_trans hB C.out.size;have b1:=l.out.o;have b2:=l.out.c;have b3:=l.out.n;clear a7 u hc hp hS;go_wp2_with fail;go_at_call 45;refine(rA p t.out bo (by omega) (by omega) (by omega) (by omega) (HK.out p)).mono ?_;rintro e O ⟨rfl,J,am⟩;have G:Hid _:=J;have F:Hid (FrM B w O):=C.out.trans am;have a':Hid (BndM (k+1) (aU o a b S p)):=l.out.path L ha hb;clear J am y0;go_wp2_with fail;go_roundw
  case rel =>
   obtain⟨b9,b7,J⟩:=G.out;refine⟨k+1,b9,b7,by omega,by go_num,?_,?_,F.out⟩
   .unfold Hid;rw[W.out];exact J
   .unfold Hid;rw[W.out];exact a'.out
  case measure=>simp[intOf];omega
 have bv:k=P.length:=by omega
 subst bv;obtain⟨S,hS⟩:∃S,P.foldl (aU o a b) ⟨[],[],[]⟩=S:=⟨_,rfl⟩;rw[List.take_length,hS]at t l;have aa:Hid (dJ o a b P=iD o a b S.notes (a8 o a b S.GV S.out)):=by unfold Hid dJ eH;rw[hS]
 have b1:=l.out.o;have b2:=l.out.c;have b3:=l.out.n;have y5:=t.out.f5;have ai:IsRws wr vq S.GV:=Row.GW t.out.cp (by omega);obtain⟨ca,cc,rfl,-⟩:=ai.get;clear hS ai I b0;go_wp2_with fail;clear y5;go_loopw [30] (fun i wq=>∃(j:Nat) (c:ae),j<=S.GV.length/\i=.int .i64 j/\Hid (IsMer wq g B x (.slice ca S.GV.length cc) vm o a b ⟨c,S.GV,S.notes⟩)/\c.length<=P.length+j/\Hid (BndF 1100 c)/\Hid (FrM B w wq)/\Hid (a8 o a b S.GV S.out=a8 o a b (S.GV.drop j) c)) (fun i _=>S.GV.length - (intOf i).toNat)
 case atStart=>exact⟨0,S.out,Nat.zero_le _,rfl,t.out,by omega,fun e D=>⟨Nat.le_trans (l.out.f e D).1 (by omega),(l.out.f e D).2⟩,C.out,rfl⟩
 case round =>
 clear t C;obtain⟨j,c,hj,rfl,t,cb,ab,C,R⟩:=hrel
 by_cases a2:j<S.GV.length
 case pos =>
  obtain⟨r,M⟩:∃r,S.GV[j]? = some r:=⟨_,List.getElem?_eq_getElem a2⟩;have a6:IsRws wr (.slice ca S.GV.length cc) S.GV:=Row.GW t.out.cp (by omega);obtain⟨_,_,D,-,-,-,u⟩:=a6.get;cases D;obtain⟨rb,ro,rfl,c0,c1,c2⟩:=u j r M;have y0:wr.cell? ⟨rb,ro+j*3,none⟩=some (S8 r.path):=by rw[Nat.mul_comm j 3];exact c0
  have y1:wr.cell? ⟨rb,ro+j*3+1,none⟩=some (.int .i64 r.mode):=by rw[Nat.mul_comm j 3];exact c1
  have y2:wr.cell? ⟨rb,ro+j*3+2,none⟩=some (S8 r.id):=by rw[Nat.mul_comm j 3];exact c2
  obtain⟨a5,a1⟩:=l.out.r r (List.mem_of_getElem? M);have ad:Hid (S.GV.drop j=r::S.GV.drop (j+1)):=lS M;obtain⟨rp,rm,ri⟩:=r;dsimp only at y0 y1 y2 a5 a1;clear a6 u c0 c1 c2 M;go_upto_region 11 with fail;obtain⟨O,N⟩:∃O,O=wr.alloc (.cells #[S8 rp,.int .i64 rm,S8 ri] 50):=⟨_,rfl⟩;have Z:Ext wr O:=by rw[N];exact(Ext.refl _).alloc _
  have X:O.heap[wr.heap.size]? = some (.cells #[S8 rp,.int .i64 rm,S8 ri] 50 (0,0)):=by rw[N];exact ah _ _
  rw[<-N];obtain⟨gi,av⟩:∃q,wr.heap.size=q:=⟨_,rfl⟩;rw[av]at X ⊢;obtain⟨z0,z1,z2⟩:=cD X;have G:Hid (IsMer O g B x (.slice (some ⟨rb,ro,none⟩) S.GV.length cc) vm o a b ⟨c,S.GV,S.notes⟩):=t.out.ext Z;have F:Hid (FrM B w O):=C.out.trans (FrM.GX Z);clear N Z X av y0 y1 y2;go_wp2_with fail;go_at_call 46;refine(lv ⟨rp,rm,ri⟩ (HE.out _ F.out) G.out (by show rp.length<=_;omega) (by show ri.length<=_;omega) (by show c.length<=_;omega)).mono ?_;obtain⟨pe,K⟩:∃q,aV o a b c ⟨rp,rm,ri⟩ 21=q:=⟨_,rfl⟩;dsimp only;rw[K];have U:Hid _:=K;rintro e w6 ⟨rfl,a3,au⟩;have ag:Hid (FrM B w w6):=F.out.trans (G.out.Hf au);have n:∀d,pe=some d->d.length<=c.length+1:=fun d h=>gT o a b ⟨rp,rm,ri⟩ 21 _ _ (by rw[K];exact h)
  have bh:Hid _:=a3;clear a3 au K z0 z1 z2
  cases pe with
  | none =>
   have V:Hid (dJ o a b P=none):=by unfold Hid;rw[aa.out,R.out,ad.out,fy U.out];rfl
   go_wp2_with fail;go_ret;rw[V.out];exact⟨rfl,fun y hy=>(by cases hy),ag.out⟩
  | some d =>
   have b':=n d rfl;have ba:Hid (a8 o a b S.GV S.out=a8 o a b (S.GV.drop (j+1)) d):=by unfold Hid;rw[R.out,ad.out];exact fz U.out
   have a9:Hid (BndF 1100 d):=lw (r:=⟨rp,rm,ri⟩) a5 a1 21 c d ab.out U.out;go_wp2_with fail;go_roundw
   case rel=>exact⟨j+1,d,by omega,by go_num,bh.out,by omega,a9.out,ag.out,ba.out⟩
   case measure=>simp[intOf];omega
 have bs:j=S.GV.length:=by omega
 have bc:Hid (a8 o a b S.GV S.out=some c):=by unfold Hid;rw[R.out,bs,List.drop_length];rfl
 have bp:B<=wr.heap.size:=Nat.le_trans hB C.out.size;clear a2 hj;go_wp2_with fail;go_at_call 47;refine(pr (fun E b5=>HE.out E (C.out.trans b5)) t.out bp (by show c.length<=_;omega) (by show S.notes.length<=_;omega) (fun r M=>by
  unfold aI at M;obtain⟨e,D,rfl⟩:=List.mem_map.1 M;obtain⟨h1,h2⟩:=ab.out e D;exact⟨by show e.1.length<=_;omega,by show e.2.data.length<=_;omega⟩)).mono ?_
 dsimp only;obtain⟨me,Y⟩:∃q,be o a b (aI c) c S.notes=q:=⟨_,rfl⟩;rw[Y];have Q:Hid (dJ o a b P=ky me):=by unfold Hid;rw[aa.out,bc.out];show ky (be o a b (aI c) c S.notes)=_;rw[Y]
 rintro e w7 ⟨rfl,a4,ao⟩;have T:Hid (FrM B w w7):=C.out.trans ao;have bi:Hid _:=a4;clear a4 ao Y
 cases me with
 | none =>
  have V:Hid (dJ o a b P=none):=Q.out;go_wp2_with fail;go_ret;rw[V.out];exact⟨rfl,fun y hy=>(by cases hy),T.out⟩
 | some y =>
  obtain⟨ce,A⟩:=bi.out y rfl;have bk:Hid _:=A;have y4:=A.f4;have n:=fun ty=>A.G7.map.len Tryz.underlying59 ty
  rw[show Maps.size (cX bn y.1)=y.1.length by simp[cX,Maps.size]]at n;have b4:=n 3
  by_cases a0:y.1.length>256
  .have bq:(256:Int)<(y.1.length:Int):=by omega
   have V:Hid (dJ o a b P=none):=by unfold Hid;rw[Q.out];show(if y.1.length>256 then none else some y)=none;rw[if_pos a0]
   clear A;go_wp2_with fail;go_ret;rw[V.out];exact⟨rfl,fun y hy=>(by cases hy),T.out⟩
  .have bq:¬(256:Int)<(y.1.length:Int):=by omega
   have V:Hid (dJ o a b P=some y):=by unfold Hid;rw[Q.out];show(if y.1.length>256 then none else some y)=some y;rw[if_neg a0]
   clear A;go_wp2_with fail;go_ret;rw[V.out];exact⟨rfl,fun z hz=>by cases hz;exact⟨_,_,_,bk.out⟩,T.out⟩
end
section
open Go Go.Shelf Go.RowKit Go.Lib Go.Sort
structure Nt where
 p:B8
 k:Fin 4
instance:Inhabited Nt:=⟨⟨[],0⟩⟩
def Nt.n (x:Nt):B8×Int:=(x.p,(x.k.val:Int))
def ntD (x:Nt):List Value:=ntC x.n
def kY (x y:Nt):Int:=nZ x.n y.n
theorem CL (x:Nt):(ntD x).length=2:=rfl
theorem CM (x:Nt):∀v∈ntD x,v.oneCell'=true:=by intro v a;simp[ntD,ntC]at a;rcases a with rfl | rfl <;> rfl
theorem tv (l:List (B8×Int)):(l.flatMap ntC).length=l.length*2:=by
 induction l with
 | nil=>rfl
 | cons c l a=>rw[List.flatMap_cons,List.length_append,a,List.length_cons];show 2+_=_;omega
theorem qy:∀(l:List (B8×Int)) (k:Nat) (x:B8×Int),l[k]? = some x->(l.flatMap ntC)[2*k]? = some (S8 x.1)/\(l.flatMap ntC)[2*k+1]? = some (.int .i64 x.2)
 | [],k,x,h=>by simp at h
 | y::l,0,x,h=>by
  simp only[List.getElem?_cons_zero,Option.some.injEq]at h;subst h;exact⟨rfl,rfl⟩
 | y::l,k+1,x,h=>by
  have a:=qy l k x (by simpa using h);have e:(y::l).flatMap ntC=S8 y.1::.int .i64 y.2::l.flatMap ntC:=by rw[List.flatMap_cons];rfl
  rw[e,show 2*(k+1)=2*k+1+1 by omega];exact a
theorem tu (l:List Nt) (j:Nat) (n:j<l.length*2):((l.map Nt.n).flatMap ntC)[j]? = some (flatK ntD 2 l.toArray)[j]!:=by
 have a:j / 2<l.length:=by omega
 rw[get_flatK _ _ _ j (by simpa using n)];obtain⟨x,b⟩:∃x,l[j / 2]? = some x:=⟨_,List.getElem?_eq_getElem a⟩;have d:l.toArray[j / 2]! = x:=by
  rw[getElem!_pos l.toArray (j / 2) (by simpa using a)];rw[List.getElem?_eq_getElem a]at b;simpa using b
 rw[d];obtain⟨h,i⟩:=qy (l.map Nt.n) (j / 2) x.n (by rw[List.getElem?_map,b];rfl);have g:j%2<2:=Nat.mod_lt _ (by omega);have e:j=2*(j / 2)+j%2:=(Nat.div_add_mod j 2).symm;obtain⟨c,k⟩:∃c,j%2=c:=⟨_,rfl⟩;rw[k]at g e ⊢;rw[e]
 match c,g with
 | 0,_=>exact h
 | 1,_=>exact i
theorem s8 {a b:B8}:ep a b<0↔ltB a b=true:=by
 unfold ep;split
 .rename_i h;simp[h]
 .rename_i h;split
  iterate 2
   .simp [h]
theorem vg (x y:Nt):ltOf kY x y=(ltB x.p y.p || (decide (x.p=y.p) && decide (x.k.val<y.k.val))):=by
 unfold ltOf kY nZ Nt.n;dsimp only
 by_cases h:x.p=y.p
 .rw [if_pos h,h,fV];simp;omega
 .rw [if_neg h];have:decide (x.p=y.p)=false:=decide_eq_false h;rw[this,Bool.false_and,Bool.or_false]
  by_cases a:ltB x.p y.p=true
  .rw [a];exact decide_eq_true (s8.2 a)
  .have b:ltB x.p y.p=false:=by simpa using a
   rw[b];exact decide_eq_false (fun c=>a (s8.1 c))
theorem Av:SWO (ltOf kY):=by
 have i:∀x y:Nt,ltOf kY x y=true↔(ltB x.p y.p=true\/(x.p=y.p/\x.k.val<y.k.val)):=fun x y=>by rw[vg];simp
 have hF:∀x y:Nt,ltOf kY x y=false↔¬(ltB x.p y.p=true\/(x.p=y.p/\x.k.val<y.k.val)):=fun x y=>by rw[<-i];simp
 refine⟨fun x=>?_,fun x y z b a=>?_,fun x y z b a=>?_⟩
 .rw [hF];rintro(h | ⟨-,h⟩)
  .rw [fV]at h;cases h
  .omega
 .rw [i]at b a ⊢;rcases b with b | ⟨b,j⟩
  .rcases a with a | ⟨a,-⟩
   .exact .inl (ed b a)
   .rw [<-a];exact .inl b
  .rcases a with a | ⟨a,d⟩
   .rw [b];exact .inl a
   .exact .inr ⟨b.trans a,by omega⟩
 .rw [hF]at b a ⊢;rintro(h | ⟨h,j⟩)
  .by_cases c:x.p=y.p
   .rw [c]at h;exact a (.inl h)
   .have d:=jG (show ltB x.p y.p=false by cases g:ltB x.p y.p with | false=>rfl | true=>exact absurd (.inl g) b) c;exact a (.inl (ed d h))
  .by_cases c:x.p=y.p
   .have k:¬x.k.val<y.k.val:=fun e=>b (.inr ⟨c,e⟩)
    have l:¬y.k.val<z.k.val:=fun e=>a (.inr ⟨c.symm.trans h,e⟩)
    omega
   .have d:=jG (show ltB x.p y.p=false by cases g:ltB x.p y.p with | false=>rfl | true=>exact absurd (.inl g) b) c;rw[h]at d;exact a (.inl d)
def fl (l:List (B8×Int)):Prop:=∀x∈l,x.2=1\/x.2=2\/x.2=3
theorem zk:∀ {l:List (B8×Int)},fl l->∃m:List Nt,l=m.map Nt.n
 | [],_=>⟨[],rfl⟩
 | x::l,h=>by
  obtain⟨m,rfl⟩:=zk (l:=l) (fun y a=>h y (List.mem_cons_of_mem _ a));obtain⟨p,k⟩:=x;rcases h (p,k) List.mem_cons_self with h | h | h
  .exact ⟨⟨p,1⟩::m,by simp only at h;subst h;rfl⟩
  .exact ⟨⟨p,2⟩::m,by simp only at h;subst h;rfl⟩
  .exact ⟨⟨p,3⟩::m,by simp only at h;subst h;rfl⟩
def ltN (x y:B8×Int):Bool:=ltB x.1 y.1 || (decide (x.1=y.1) && decide (x.2<y.2))
def UpN (s:List (B8×Int)):Prop:=s.Pairwise fun x y=>ltN y x=false
theorem Au (x y:Nt):ltOf kY x y=ltN x.n y.n:=by
 rw[vg];unfold ltN Nt.n;dsimp only;congr 2;exact decide_eq_decide.2 (by omega)
theorem Ez {d:Array Nt} (h:SortedIn (ltOf kY) 0 d.size d):UpN (d.toList.map Nt.n):=by
 unfold UpN;rw[List.pairwise_map,List.pairwise_iff_getElem];intro i j e b a;rw[Array.length_toList]at e b;have c:=h i j (Nat.zero_le _) a b;rw[Au,getElem!_pos d i e,getElem!_pos d j b]at c;simpa using c
theorem kL (v:Value) (l:List (B8×Int)) (a:Nat) (w:World) (W:fl l) (h:w.ownsRow a 36 2 v l.length (l.flatMap ntC)) (X:l.length<=1000000) :
  Calls Tryz.prog 28 #[v,.func (.func 29) #[] #[]] w fun e k=>e=.returned (.tuple #[])/\∃s:List (B8×Int),s.Perm l/\UpN s/\k.ownsRow a 36 2 v s.length (s.flatMap ntC)/\w.grownBy k v.ownBlock:=by
 obtain⟨m,rfl⟩:=zk W;have I:(m.map Nt.n).length=m.length:=List.length_map _;rw[I]at h X;rcases h.2 with⟨rfl,R⟩ | ⟨g,o,p,rfl,E,C,A,F,u,L⟩
 .obtain rfl:m=[]:=List.eq_nil_of_length_eq_zero R;exact(AnyF.slices_SortFunc_none { Tryz.laysSortN with } none 0 _ w).mono fun e k ⟨z,B⟩=>⟨z,[],List.Perm.refl _,List.Pairwise.nil,World.ownsRow_nil _ _ _ _,by rw[B];exact⟨rfl,rfl,rfl,Nat.le_refl _,fun _ _ _=>rfl⟩⟩
 .have O:=(Array.getElem?_eq_some_iff.1 C).1;have Q:∀args w,(callFunc 29 args).run Tryz.prog w=.ok (.enter 29 args) w:=enters_of Tryz.func29 (by kernel_rfl) rfl;have t:CmpLays Tryz.prog 29 #[] ntD 2 kY g 0 m.toArray.size w:=fun q D Y V x y=>(xq x.n y.n _ ⟨by show(0:Int)<=(x.k.val:Int);omega,by show(x.k.val:Int)<=10;omega⟩ ⟨by show(0:Int)<=(y.k.val:Int);omega,by show(y.k.val:Int)<=10;omega⟩).mono fun e k ⟨z,M,B⟩=>⟨z,0,M,B⟩
  have P:m.toArray.size=m.length:=by simp
  have U:HoldsK ntD 2 w g 0 m.toArray:=by
   intro j i;have G:j<m.length*2:=by simpa using i
   have r:=tu m j G;rw[<-L,List.getElem?_take_of_lt (by omega),Array.getElem?_toList]at r;rw[Nat.zero_add];exact⟨by simp[World.cell?,C,r],by simp[World.frozen?,C]⟩
  have N:=AnyQ.slices_SortFunc Tryz.laysSortN 2 (fun w=>by kernel_rfl) (fun w=>by kernel_rfl) ntD CL CM kY Av 29 #[] g 0 o m.toArray w Q t U O (by omega);rw[P]at N;refine Calls.mono N fun e k ⟨z,b,n,D,J,K,B⟩=>?_
  have d:b.size=m.length:=by rw[J.1,P]
  have S:FlatW w g (flatK ntD 2 b) k:=⟨n,D,B⟩;have c:(b.toList.map Nt.n).length=m.length:=by rw[List.length_map,Array.length_toList,d]
  refine⟨z,b.toList.map Nt.n,?_,Ez (by rw[show b.size=m.toArray.size from J.1];exact K),?_,S.grown⟩
  .have r:=J.2.2;rw[Array.extract_eq_self_of_le (by omega),Array.extract_eq_self_of_le (by omega)]at r;exact List.Perm.map _ r
  .rw [c];obtain⟨n,D,rfl⟩:=S;refine⟨by rw[tv,c],.inr ⟨g,o,putCells _root_.id 0 (flatK ntD 2 b) p,rfl,E,?_,A,F,by simp[putCells,u],?_⟩⟩
   .show (((Go.Sort.ahead w n).heap.modify g _)++D)[g]? = _;rw[Array.getElem?_append_left (by simpa using O),Array.getElem?_modify,if_pos rfl];show(w.heap[g]?).map _=_;rw[C];rfl
   .apply List.ext_getElem?;intro j
    by_cases i:j<m.length*2
    .have T:=tu b.toList j (by rw[Array.length_toList,d];exact i);rw[List.getElem?_take_of_lt i,Array.getElem?_toList,T];have H:j<p.size:=by
      rw[u];exact Nat.lt_of_lt_of_le i (Nat.mul_le_mul_right 2 A)
     simp only[putCells,Array.getElem?_mapIdx,Array.getElem?_eq_getElem H,Option.map_some];rw[if_pos ⟨Nat.zero_le _,by rw[Nat.zero_add,size_flatK,d];exact i⟩];simp
    .rw [List.getElem?_eq_none (by rw[List.length_take];omega),List.getElem?_eq_none (by rw[tv,c];omega)]
theorem sd (v:Value) (l:List (B8×Int)) (a:Nat) (w:World) (i:fl l) (h:w.ownsRow a 36 2 v l.length (l.flatMap ntC)) (j:l.length<=1000000) :
  Calls Tryz.prog 28 #[v,.func (.func 29) #[] #[]] w fun e b=>e=.returned (.tuple #[])/\∃s:List (B8×Int),s.Perm l/\b.ownsRow a 36 2 v s.length (s.flatMap ntC)/\w.grownBy b v.ownBlock :=
 (kL v l a w i h j).mono fun e b ⟨g,s,c,_,d⟩=>⟨g,s,c,d⟩
variable {o a b:ae}
theorem nP {s:Mg} {p:B8} (h:fl s.notes):fl (aU o a b s p).notes:=by
 unfold aU;split
 .intro x c;rcases List.mem_append.1 c with c | c
  .exact h x c
  .obtain rfl:=List.mem_singleton.1 c;exact .inl rfl
 .show fl (if _ then _ else _);split
  .intro x c;rcases List.mem_append.1 c with c | c
   .exact h x c
   .obtain rfl:=List.mem_singleton.1 c;exact .inr (.inl rfl)
  .exact h
theorem nT {o a b:ae}:∀(P:List B8) (s:Mg),fl s.notes->fl (P.foldl (aU o a b) s).notes
 | [],s,h=>h
 | p::P,s,h=>nT P _ (nP h)
theorem iz {o a b:ae}:∀(L:List Rw) (c:ae) (n:List (B8×Int)) (y:ae×List (B8×Int)),fl n->be o a b L c n=some y->fl y.2
 | [],c,n,y,h,d=>by cases d;exact h
 | r::L,c,n,y,h,d=>by
  by_cases i:de c r.path=true
  .cases k:aV o a b (bu c r.path) r 21 with
   | none=>rw[iy i k]at d;cases d
   | some g =>
    rw[kg i k]at d;refine iz L g _ y (fun x e=>?_) d;rcases List.mem_append.1 e with e | e
    .exact h x e
    .obtain rfl:=List.mem_singleton.1 e;exact .inr (.inr rfl)
  .have j:de c r.path=false:=by simpa using i
   rw[iK j]at d;exact iz L c n y h d
theorem xZ {P:List B8} {y:ae×List (B8×Int)} (h:dJ o a b P=some y):fl y.2:=by
 unfold dJ iD at h
 cases e:a8 o a b (eH o a b P).GV (eH o a b P).out with
 | none=>rw[e]at h;cases h
 | some c =>
  rw[e]at h;simp only at h;unfold ky at h
  cases d:be o a b (aI c) c (eH o a b P).notes with
  | none=>rw[d]at h;cases h
  | some z =>
   rw[d]at h;simp only at h;split at h
   .cases h
   .cases h;exact iz _ _ _ _ (nT P _ (fun x g=>by cases g)) d
end
section
open Go Go.RowKit Go.Sort
theorem cS {b:Func} {t u v x:Tmp} (h:b.results=#[.tmp t,.tmp u,.tmp v,.tmp x]) (a:Array Value) (P:Program) (w:World) :
  (results b a).run P w=.ok (.tuple #[a.getD t undef,a.getD u undef,a.getD v undef,a.getD x undef]) w:=by
 simp[results,h]
def eV (o a b:List Rw):Except Int (List Rw×List (B8×Int)) :=
 if(an o && (an a && an b))=true then(match dJ (byP o) (byP a) (byP b) (bj (ar [o,a,b]))with
  | none=>.error 14
  | some y=>.ok (aI y.1,y.2))else .error 1
def xV (w':World) (e:Ending):Except Int (List Rw×List (B8×Int))->Prop
 | .error k=>e=.returned (.tuple #[.slice none 0 0,.slice none 0 0,.slice none 0 0,.int .i64 k])
 | .ok y=>∃(b a:Value) (c:Option Addr) (d:Nat) (N:List (B8×Int)),e=.returned (.tuple #[b,.slice c 0 d,a,.int .i64 0])/\IsRws w' b y.1/\N.Perm y.2/\Row w' a N.length (N.flatMap ntC)
def bS (l:List Rw):Prop:=l.length<=300/\∀r∈l,r.path.length<=400/\r.id.length<=400
variable {w:World} {B:Nat} {o a b:ae}
theorem IsMer.Iq {r:World} {g:Nat} {x:MB} {u p:Value} {s:Mg} (h:IsMer w g B x u p o a b s) (N:List (B8×Int)) (j:w.grownBy r p.ownBlock) (A:r.ownsRow B 36 2 p N.length (N.flatMap ntC)) :
  IsMer r g B x u p o a b ⟨s.out,s.GV,N⟩/\FrM B w r:=by
 have c:∀q,p.ownBlock=some q->∃e,w.heap[q]? = some (.cells e 36 (0,0)):=fun q d=>(bO h.nt q d).2
 have n:∀ {V:Fi->Value} {k:Nat} {l:ae},IsMG V w k l->IsMG V r k l:=fun z=>jo z j c
 refine⟨⟨h.Hn j,n h.mo,n h.ma,n h.mb,n h.G7,n h.mm,h.Hk.keep (hZ j c (by kernel_rfl)),?_,A,h.lo,h.ne,h.G2,h.nm⟩,?_⟩
 .refine cH h.cp j (fun q d e i=>?_);obtain⟨y,t⟩:=c q d;rw[t]at i;simp at i
 .refine FrM.G1 j (fun q d=>(bO h.nt q d).1) (fun q d C D i=>?_);obtain⟨y,t⟩:=c q d;rw[t]at i;simp at i
theorem kU {l:List Rw} (h:cK l) (a:bS l):kQ (byP l):=fun p=>by
 rw[cN h];unfold aj;split
 .rename_i r b;exact Nat.le_trans (a.2 r (List.mem_of_find?_eq_some b)).2 (by omega)
 .exact Nat.zero_le _
theorem eL {o a b:List Rw} (h:bS o) (e:bS a) (g:bS b):(ar [o,a,b]).length<=900/\∀p∈ar [o,a,b],p.length<=1000:=by
 have i:=h.1;have j:=e.1;have k:=g.1;constructor
 .unfold ar;simp only[List.flatMap_cons,List.flatMap_nil,List.append_nil,List.length_append,List.length_map];omega
 .intro p d;unfold ar at d;simp only[List.flatMap_cons,List.flatMap_nil,List.append_nil,List.mem_append,List.mem_map]at d;rcases d with⟨r,c,rfl⟩ | ⟨r,c,rfl⟩ | ⟨r,c,rfl⟩
  .exact Nat.le_trans (h.2 r c).1 (by omega)
  .exact Nat.le_trans (e.2 r c).1 (by omega)
  .exact Nat.le_trans (g.2 r c).1 (by omega)
theorem mg {o a b:List Rw} (h:¬(an o && (an a && an b))=true):eV o a b=.error 1:=if_neg h
theorem uK {o a b:List Rw} (h:(an o && (an a && an b))=true) (c:dJ (byP o) (byP a) (byP b) (bj (ar [o,a,b]))=none):eV o a b=.error 14:=by
 unfold eV;rw[if_pos h,c]
variable {y:ae×List (B8×Int)}
theorem iw {o a b:List Rw} (h:(an o && (an a && an b))=true) (c:dJ (byP o) (byP a) (byP b) (bj (ar [o,a,b]))=some y):eV o a b=.ok (aI y.1,y.2):=by
 unfold eV;rw[if_pos h,c]
variable {P:List B8}
theorem Al (h:dJ o a b P=some y):y.1.length<=256:=by
 unfold dJ iD at h;split at h
 .cases h
 .unfold ky at h;split at h
  .cases h
  .split at h
   .cases h
   .cases h;omega
theorem rB (s:Mg) (p:B8):(aU o a b s p).out.length<=s.out.length+1/\(aU o a b s p).GV.length<=s.GV.length+1/\(aU o a b s p).notes.length<=s.notes.length+1:=by
 unfold aU;split
 .refine ⟨bL _ _ _,?_,?_⟩
  .show (s.GV++[_]).length<=_;rw[List.length_append];exact Nat.le_refl _
  .show (s.notes++[_]).length<=_;rw[List.length_append];exact Nat.le_refl _
 .refine ⟨?_,Nat.le_succ _,?_⟩
  .show (if _ then _ else _:ae).length<=_;split
   .exact Nat.le_succ _
   .exact bL _ _ _
  .show (if _ then _ else _:List (B8×Int)).length<=_;split
   .rw [List.length_append];exact Nat.le_refl _
   .exact Nat.le_succ _
theorem px {o a b:ae}:∀(P:List B8) (s:Mg),(P.foldl (aU o a b) s).out.length<=s.out.length+P.length/\(P.foldl (aU o a b) s).GV.length<=s.GV.length+P.length/\(P.foldl (aU o a b) s).notes.length<=s.notes.length+P.length
 | [],s=>⟨Nat.le_refl _,Nat.le_refl _,Nat.le_refl _⟩
 | p::P,s=>by
  obtain⟨c,d,e⟩:=px (o:=o) (a:=a) (b:=b) P (aU o a b s p);obtain⟨g,h,i⟩:=rB (o:=o) (a:=a) (b:=b) s p;rw[List.foldl_cons,List.length_cons];omega
theorem kw {o a b:ae}:∀(l:List Rw) (d c:ae),a8 o a b l d=some c->c.length<=d.length+l.length
 | [],d,c,h=>by cases h;exact Nat.le_refl _
 | r::l,d,c,h=>by
  cases e:aV o a b d r 21 with
  | none=>rw[fy e]at h;cases h
  | some z =>
   rw[fz e]at h;have g:=kw l z c h;have i:=gT o a b r 21 _ _ e;rw[List.length_cons];omega
theorem i8 {o a b:ae}:∀(L:List Rw) (c:ae) (n:List (B8×Int)) (y:ae×List (B8×Int)),be o a b L c n=some y->y.2.length<=n.length+L.length
 | [],c,n,y,d=>by cases d;exact Nat.le_refl _
 | r::L,c,n,y,d=>by
  rw[List.length_cons]
  by_cases g:de c r.path=true
  .cases j:aV o a b (bu c r.path) r 21 with
   | none=>rw[iy g j]at d;cases d
   | some e =>
    rw[kg g j]at d;have i:=i8 L e _ y d;rw[List.length_append,List.length_singleton]at i;omega
  .have h:de c r.path=false:=by simpa using g
   rw[iK h]at d;have i:=i8 L c n y d;omega
theorem wG (h:dJ o a b P=some y):y.2.length<=3*P.length:=by
 unfold dJ iD at h;obtain⟨g,i,j⟩:=px (o:=o) (a:=a) (b:=b) P ⟨[],[],[]⟩;simp only[List.length_nil,Nat.zero_add]at g i j
 cases d:a8 o a b (eH o a b P).GV (eH o a b P).out with
 | none=>rw[d]at h;cases h
 | some c =>
  rw[d]at h;simp only at h;unfold ky at h;have k:=kw _ _ _ d;unfold eH at k
  cases e:be o a b (aI c) c (eH o a b P).notes with
  | none=>rw[e]at h;cases h
  | some z =>
   rw[e]at h;simp only at h;have l:=i8 _ _ _ _ e;unfold eH at l;have n:(aI c).length=c.length:=List.length_map _;split at h
   .cases h
   .cases h;omega
theorem cU (w:World) (c:Obj):(w.alloc c).heap.size=w.heap.size+1:=Array.size_push _
theorem vH {g c d:Nat} (src:Value) (l:IsMG bn w g o) (j:IsMG bn w c a) (k:IsMG bn w d b) (n:B<=w.heap.size) :
  IsMer (((w.alloc (.map #[] 0)).alloc (.map #[] 0)).alloc (.cells #[src,.map (some g),.map (some c),.map (some d),.map (some w.heap.size),.slice none 0 0,.map (some (w.heap.size+1)),.slice none 0 0] 63)) (w.heap.size+1+1) B ⟨g,c,d,w.heap.size+1,w.heap.size,src,[]⟩ (.slice none 0 0) (.slice none 0 0) o a b ⟨[],[],[]⟩ /\
  Ext w (((w.alloc (.map #[] 0)).alloc (.map #[] 0)).alloc (.cells #[src,.map (some g),.map (some c),.map (some d),.map (some w.heap.size),.slice none 0 0,.map (some (w.heap.size+1)),.slice none 0 0] 63)):=by
 have i:(w.alloc (.map #[] 0)).heap.size=w.heap.size+1:=cU _ _;have q:((w.alloc (.map #[] 0)).alloc (.map #[] 0)).heap.size=w.heap.size+1+1:=by rw[cU,cU]
 have h:Ext w (((w.alloc (.map #[] 0)).alloc (.map #[] 0)).alloc (.cells #[src,.map (some g),.map (some c),.map (some d),.map (some w.heap.size),.slice none 0 0,.map (some (w.heap.size+1)),.slice none 0 0] 63)):=(((Ext.refl _).alloc _).alloc _).alloc _;have r:=l.lt;have t:=j.lt;have u:=k.lt;refine⟨⟨?_,l.ext h,j.ext h,k.ext h,?_,?_,(fun e p=>by cases p),World.ownsRow_nil _ _ _ _,World.ownsRow_nil _ _ _ _,⟨by omega,n⟩,⟨by show g≠w.heap.size;omega,by show c≠w.heap.size;omega,by show d≠w.heap.size;omega,by show w.heap.size+1≠w.heap.size;omega⟩,List.Pairwise.nil,⟨by show B<=w.heap.size+1;omega,by show g≠w.heap.size+1;omega,by show c≠w.heap.size+1;omega,by show d≠w.heap.size+1;omega⟩⟩,h⟩
 .rw [<-q];exact ah _ _
 .exact (qB _ _).ext (((Ext.refl _).alloc _).alloc _)
 .show IsMG _ _ (w.heap.size+1) [];rw[<-i];exact(qB _ _).ext ((Ext.refl _).alloc _)
theorem vX {v:Value} {l:ae} (h:w.ownsRow B 50 3 v l.length ((aI l).flatMap rwC)) (d:l.length<=1000):IsRws w v (aI l):=by
 have c:=Row.GW h (by omega);unfold IsRws;rw[show(aI l).length=l.length from List.length_map _];exact c
theorem pl (fn:Fn) (fs cs:Array Value) (v1 v2 v3:Value) (o a b:List Rw) (w:World) (hE:Env w) (h1:IsRws w v1 o) (h2:IsRws w v2 a) (h3:IsRws w v3 b) (ho:bS o) (ha:bS a) (hb:bS b) (j:kC o a b) :
  Calls Tryz.prog 10 #[.func fn fs cs,v1,v2,v3] w fun e L=>xV L e (eV o a b)/\Ext w L:=by
 obtain⟨p1,k1,rfl,-⟩:=h1.get;obtain⟨p2,k2,rfl,-⟩:=h2.get;obtain⟨p3,k3,rfl,-⟩:=h3.get;have HE:Hid (Env w):=hE;have HA:Hid (IsRws w (.slice p1 o.length k1) o):=h1;have HB:Hid (IsRws w (.slice p2 a.length k2) a):=h2;have HC:Hid (IsRws w (.slice p3 b.length k3) b):=h3;have G:Hid (bS o):=ho;have t:Hid (bS a):=ha;have z:Hid (bS b):=hb;have HK:Hid (kC o a b):=j;have lo:=ho.1;have la:=ha.1;have lb:=hb.1;obtain⟨M,hM⟩:∃M,eV o a b=M:=⟨_,rfl⟩;rw[hM];have HM:Hid _:=hM;clear hE h1 h2 h3 ho ha hb j hM;go_enter Tryz.func10,Tryz.ntmps10;go_wp2_with fail;go_at_call 13;refine(eS _ o w HE.out HA.out (by omega) G.out.2).mono ?_;rintro e w1 ⟨rfl,b9⟩;have H:Hid (Ext w w1):=b9;obtain⟨c1,ao⟩:∃c,an o=c:=⟨_,rfl⟩;rw[ao];have Z:Hid _:=ao;clear b9 ao
 cases c1 with
 | false =>
  have A:Hid (M=.error 1):=by unfold Hid;rw[<-HM.out];exact mg (by rw[Z.out];simp)
  go_wp2_with fail
  ((try simp only[Exit.inBlock,Exit.then]);refine bodyPost_ret (cS rfl _ _ _) rfl ?_)
  rw[A.out];exact⟨rfl,H.out⟩
 | true =>
 go_wp2_with fail;go_at_call 13;refine(eS _ a w1 (HE.out.ext H.out) (HB.out.ext H.out) (by omega) t.out.2).mono ?_;rintro e w2 ⟨rfl,b'⟩;have I:Hid (Ext w w2):=H.out.trans b';obtain⟨c2,au⟩:∃c,an a=c:=⟨_,rfl⟩;rw[au];have aa:Hid _:=au;clear b' au
 cases c2 with
 | false =>
  have A:Hid (M=.error 1):=by unfold Hid;rw[<-HM.out];exact mg (by rw[aa.out];simp)
  go_wp2_with fail
  ((try simp only[Exit.inBlock,Exit.then]);refine bodyPost_ret (cS rfl _ _ _) rfl ?_)
  rw[A.out];exact⟨rfl,I.out⟩
 | true =>
 go_wp2_with fail;go_at_call 13;refine(eS _ b w2 (HE.out.ext I.out) (HC.out.ext I.out) (by omega) z.out.2).mono ?_;rintro e w3 ⟨rfl,ca⟩;have ai:Hid (Ext w w3):=I.out.trans ca;obtain⟨c3,av⟩:∃c,an b=c:=⟨_,rfl⟩;rw[av];have ad:Hid _:=av;clear ca av
 cases c3 with
 | false =>
  have A:Hid (M=.error 1):=by unfold Hid;rw[<-HM.out];exact mg (by rw[ad.out];simp)
  go_wp2_with fail
  ((try simp only[Exit.inBlock,Exit.then]);refine bodyPost_ret (cS rfl _ _ _) rfl ?_)
  rw[A.out];exact⟨rfl,ai.out⟩
 | true =>
 have bh:Hid ((an o && (an a && an b))=true):=by unfold Hid;rw[Z.out,aa.out,ad.out];rfl
 have cu:Hid (cK o):=(aZ Z.out).1;have bq:Hid (cK a):=(aZ aa.out).1;have bs:Hid (cK b):=(aZ ad.out).1;have bp:∀ {l:List Rw},Hid (bS l)->l.length<=1000000/\∀r∈l,r.path.length<=1000000:=fun h=>⟨Nat.le_trans h.out.1 (by omega),fun r hr=>Nat.le_trans (h.out.2 r hr).1 (by omega)⟩
 have a5:Hid _:=bp G;have a3:Hid _:=bp t;have a4:Hid _:=bp z;clear bp;go_wp2_with fail;go_at_call 26;refine(fH _ o w3 (HA.out.ext ai.out) a5.out.1 a5.out.2).mono ?_;rintro e w4 ⟨⟨go,rfl,b6,c5⟩,a0⟩;have ba:Hid (IsMG bn w4 go (byP o)):=b6;have b1:Hid (Ext w w4):=ai.out.trans a0;have c8:Hid (Ext w3 w4):=a0;clear b6 c5 a0;go_wp2_with fail;go_at_call 26;refine(fH _ a w4 (HB.out.ext b1.out) a3.out.1 a3.out.2).mono ?_;rintro e w5 ⟨⟨ga,rfl,b4,c0⟩,a1⟩;have a7:Hid (IsMG bn w5 ga (byP a)):=b4;have bb:Hid (IsMG bn w5 go (byP o)):=ba.out.ext a1;have b2:Hid (Ext w w5):=b1.out.trans a1;clear b4 c0 a1;go_wp2_with fail;go_at_call 26;refine(fH _ b w5 (HC.out.ext b2.out) a4.out.1 a4.out.2).mono ?_;rintro e F ⟨⟨gb,rfl,b5,c4⟩,K⟩;have a':Hid (IsMG bn F gb (byP b)):=b5;have a9:Hid (IsMG bn F ga (byP a)):=a7.out.ext K;have bc:Hid (IsMG bn F go (byP o)):=bb.out.ext K;have b3:Hid (Ext w F):=b2.out.trans K;clear b5 c4 K;have c6:=@run_makeMap Tryz.prog;go_upto_region 4 with fail;obtain⟨w7,b8⟩:∃w7,w7=(((F.alloc (.map #[] 0)).alloc (.map #[] 0)).alloc (.cells #[.func fn fs cs,.map (some go),.map (some ga),.map (some gb),.map (some F.heap.size),.slice none 0 0,.map (some (F.heap.size+1)),.slice none 0 0] 63)):=⟨_,rfl⟩;obtain⟨q,D⟩:=vH (.func fn fs cs) bc.out a9.out a'.out b3.out.size;rw[<-b8]at q D ⊢;obtain⟨g,hg⟩:∃g,F.heap.size+1+1=g:=⟨_,rfl⟩;obtain⟨x,hx⟩:∃x,(⟨go,ga,gb,F.heap.size+1,F.heap.size,.func fn fs cs,[]⟩:MB)=x:=⟨_,rfl⟩;have cp:Hid (x.md=[]):=by unfold Hid;rw[<-hx]
 rw[hx,hg]at q;rw[hg];have cm:Hid (IsMer w7 g w.heap.size x (.slice none 0 0) (.slice none 0 0) (byP o) (byP a) (byP b) ⟨[],[],[]⟩):=q;have J:Hid (Ext w w7):=b3.out.trans D;clear c6 b8 q D hg hx;obtain⟨P,hP⟩:∃P,bj (ar [o,a,b])=P:=⟨_,rfl⟩;have bm:Hid (P.length<=900/\∀p∈P,p.length<=1000):=by
  obtain⟨q1,q2⟩:=eL G.out t.out z.out;unfold Hid;rw[<-hP];exact⟨Nat.le_trans (kq _) q1,fun p hp=>q2 p (dd.1 hp)⟩
 have dc:=bm.out.1;have cl:Hid ((ar [o,a,b]).length<=1000000):=Nat.le_trans (eL G.out t.out z.out).1 (by omega);have HP:Hid _:=hP;clear hP;go_wp2_with fail;go_at_call 14;refine(jg _ _ _ _ (xN (HA.out.ext J.out) (HB.out.ext J.out) (HC.out.ext J.out)) cl.out).mono ?_;rw[HP.out];rintro e w9 ⟨⟨vp,rfl,b7⟩,cc⟩;have S:Hid (Ext w7 w9):=(Ext.alloc (Ext.refl _) _).trans cc;have bk:Hid _:=b7;clear b7 cc;have co:Hid (IsMer w9 g w.heap.size x (.slice none 0 0) (.slice none 0 0) (byP o) (byP a) (byP b) ⟨[],[],[]⟩):=cm.out.ext S.out;have am:Hid (Ext w w9):=J.out.trans S.out;have cv:Hid (IsStrs w9 vp P):=Row.GW bk.out (by omega);have cx:Hid (∀k,vp.ownBlock=some k->∃cs fr,w9.heap[k]? = some (.cells cs 9 fr)):=fun k j=>by
  obtain⟨c9,h⟩:=(bO bk.out k j).2;exact⟨_,_,h⟩
 go_wp2_with fail;go_at_call 27;refine(Aj vp P (fun L hf=>HE.out.ext (FrM.ext am.out hf (Nat.le_refl _))) co.out am.out.size cv.out cx.out (by omega) bm.out.2 (kU bq.out t.out) (kU bs.out z.out) (fun p=>by rw[cN cu.out,cN bq.out,cN bs.out];exact HK.out p)).mono ?_;obtain⟨R,i⟩:∃R,dJ (byP o) (byP a) (byP b) P=R:=⟨_,rfl⟩;rw[i];have A:Hid _:=i;rintro e a2 ⟨rfl,W,T⟩;have Q:Hid (Ext w a2):=FrM.ext am.out T (Nat.le_refl _);have a6:Hid _:=W;clear i W T
 cases R with
 | none =>
  have ag:Hid (M=.error 14):=by unfold Hid;rw[<-HM.out];exact uK bh.out (by rw[HP.out];exact A.out)
  dsimp only[AG];go_wp2_with fail
  ((try simp only[Exit.inBlock,Exit.then]);refine bodyPost_ret (cS rfl _ _ _) rfl ?_)
  rw[ag.out];exact⟨rfl,Q.out⟩
 | some y =>
 have ag:Hid (M=.ok (aI y.1,y.2)):=by unfold Hid;rw[<-HM.out];exact iw bh.out (by rw[HP.out];exact A.out)
 have dk:=Al A.out;have da:=wG A.out;obtain⟨vc,vn,ks,hm⟩:=a6.out y rfl;have O:Hid (IsMer a2 g w.heap.size x vc vn (byP o) (byP a) (byP b) ⟨y.1,ks,y.2⟩):=hm;have y7:=hm.f7;clear hm;dsimp only[AG];go_wp2_with fail;go_at_call 28;refine(sd vn y.2 w.heap.size a2 (xZ A.out) O.out.nt (by omega)).mono ?_;rintro e cf ⟨rfl,N,hN,Y,V⟩;obtain⟨X,U⟩:=O.out.Iq N V Y;have bo:Hid (N.Perm y.2):=hN;have d:Hid (IsMer cf g w.heap.size x vc vn (byP o) (byP a) (byP b) ⟨y.1,ks,N⟩):=X;have bv:Hid (Ext w cf):=FrM.ext Q.out U (Nat.le_refl _);clear hN Y V X U y7;have c':N.length<=10000:=by have:=bo.out.length_eq;omega
 have y6:=d.out.f6;have y7:=d.out.f7;go_upto_region 8 with fail;apply ak 15 [_,undef,_,.pointer (some ⟨g,0,none⟩),.pointer (some ⟨g,6,none⟩),.map (some x.gm),undef,_,.pointer (some ⟨g,0,none⟩),.pointer (some ⟨g,7,none⟩),vn,undef,undef,vn,.int .i64 0] [none,some (fun u L=>IsRws L u (aI y.1)),none,none,none,none,some (fun u L=>∃ab cb,u=.slice ab 0 cb),none,none,none,none,some (fun u L=>IsRws L u (aI y.1)),some (fun u L=>∃ab cb,u=.slice ab 0 cb),none,none] [[],[0],[],[2],[3],[4],[5],[],[7],[8],[9],[1],[6],[10],[]] (by kernel_rfl) (by kernel_rfl) (by simp[aq])
 .refine ⟨?_,?_,?_,?_,trivial⟩
  .exact fun _ _ _ he h=>h.ext he
  .exact fun _ _ _ he h=>h
  .exact fun _ _ _ he h=>h.ext he
  .exact fun _ _ _ he h=>h
 .simp (maxSteps:=1000000)only[List.take_succ_cons,List.take_zero,ay,aB,af,Act.put,List.setIfInBounds_toArray,List.set_cons_zero,List.set_cons_succ,aE,aH,aq,List.getD_cons_zero,List.getD_cons_succ,and_true,true_and,forall_const];and_intros
  .intro E wq n;intros;rename_i i;have k6:=n.cell y6;have k7:=n.cell y7;go_simp;exact i _ _ (Ext.refl _) rfl
  .intro E wq n j R i;go_simp;exact(mD (d.out.ext n) (by show y.1.length<=_;omega)).mono (by rintro e' w9 ⟨⟨v,rfl,ho⟩,hx⟩;exact⟨_,rfl,i _ _ hx (vX ho (by omega))⟩)
  iterate 4 · intro E wq n;intros;rename_i i;have k6:=n.cell y6;have k7:=n.cell y7;go_simp;exact i _ _ (Ext.refl _) rfl
  .intro E wq n j R i;go_simp;exact(xI mdV x.gm [] _ (List.Pairwise.nil) (by have h9:=(d.out.ext n).mm;rwa [cp.out]at h9) (Nat.zero_le _) (fun p hp=>by cases hp) (fun p f hf=>by cases hf)).mono (by rintro e' w9 ⟨⟨a,c,rfl⟩,hx⟩;exact⟨_,rfl,i _ _ hx ⟨_,_,rfl⟩⟩)
  iterate 4 · intro E wq n;intros;rename_i i;have k6:=n.cell y6;have k7:=n.cell y7;go_simp;exact i _ _ (Ext.refl _) rfl
  iterate 2
   .intro E wq n j R i;go_simp;exact i _ _ (Ext.refl _) j
  iterate 2 · intro E wq n;intros;rename_i i;have k6:=n.cell y6;have k7:=n.cell y7;go_simp;exact i _ _ (Ext.refl _) rfl
 intro E ci C j;simp only[aG,Nat.zero_add,Nat.reduceAdd,and_true]at j;have q1:=j.2.1;have q6:=j.2.2.2.2.2.2.1;have ce:=j.2.2.2.2.2.2.2.2.2.2.2.1;have c7:=j.2.2.2.2.2.2.2.2.2.2.2.2.1;simp(maxSteps:=1000000)only[List.take_succ_cons,List.take_zero,List.drop_succ_cons,List.drop_zero,af,Act.put,List.setIfInBounds_toArray,List.set_cons_zero,List.set_cons_succ,Nat.zero_add,Nat.reduceAdd,j];clear j;generalize E 1=x1 at *;generalize E 6=x6 at *;generalize E 11=dn at *;generalize E 12=dp at *;obtain⟨ab,cb,rfl⟩:=c7;have cq:Hid _:=ce;have b0:Hid (Ext w ci):=bv.out.trans C;have bi:Hid (Row ci vn N.length (N.flatMap ntC)):=Row.GW (az d.out.nt C) (by show N.length<=_;omega);clear q1 ce q6 C y6 y7;go_wp2_with fail
 ((try simp only[Exit.inBlock,Exit.then]);refine bodyPost_ret (cS rfl _ _ _) rfl ?_)
 rw[ag.out];exact⟨⟨_,_,_,_,N,rfl,cq.out,bo.out,bi.out⟩,b0.out⟩
end
end Go.Proofs.YtgfegpnmlkdjfaaGreatDoor
