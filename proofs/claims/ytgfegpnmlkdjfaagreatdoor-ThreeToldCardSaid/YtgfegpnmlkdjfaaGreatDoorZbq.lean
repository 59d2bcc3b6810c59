/- Contracts of the program's functions and plain laws behind the card. Conditions: as each theorem states. -/
import Derived.Test.YtgfegpnmlkdjfaaGreatDoorZbp
import Derived.Test.YtgfegpnmlkdjfaaGreatDoorZbg
import Derived.Test.YtgfegpnmlkdjfaaGreatDoorZbn
set_option linter.unusedVariables false
set_option linter.unusedSimpArgs false
set_option linter.unusedSectionVars false
set_option maxRecDepth 100000
set_option maxHeartbeats 64000000
namespace Go.Proofs.YtgfegpnmlkdjfaaGreatDoor
section
open Go Go.RowKit Go.Sort
variable {l:List B8} {o a b:ae} {s:Mg×ae} {p:B8}
theorem rC {k:Int} (h:cA l o a b s p=.error k):k=7\/k=4:=by
 unfold cA at h;split at h
 .split at h
  .rename_i e c;cases h;exact rO c
  iterate 3
   .cases h
 .cases h
theorem zt {y:Mg×ae} {k:Nat} (h:cA l o a b s p=.ok y) (c:BndM k s.1) (e:p.length<=1000) (j:kQ a) (n:kQ b) (z:s.2.length<=k):BndM (k+1) y.1/\y.2.length<=k+1:=by
 have B:=c.o;have C:=c.c;have D:=c.n;have d:∀(i:B8),i.length<=1000->BndM (k+1) ⟨aF s.1.out p (fiE ((al (enL o p) (enL a p) (enL b p)).1.1,i)),s.1.GV,s.1.notes⟩:=fun i t=>by
  refine⟨?_,?_,?_,c.f.put e t,c.r⟩
  .have:=bL s.1.out p (fiE ((al (enL o p) (enL a p) (enL b p)).1.1,i));show(aF s.1.out p _).length<=_;omega
  .show s.1.GV.length<=_;omega
  .show s.1.notes.length<=_;omega
 unfold cA at h;split at h
 .rename_i u;split at h
  .cases h
  .cases h;have w:=c.path (o:=o) (a:=a) (b:=b) e j n
   have q:=tn (j p) (n p);refine⟨⟨?_,?_,?_,c.f.put e q.1,fun r g=>?_⟩,by show s.2.length<=_;omega⟩
   .have:=bL s.1.out p (fiE (aN (enL a p) (enL b p)).1);show(aF s.1.out p _).length<=_;omega
   .show (s.1.GV++[_]).length<=_;rw[List.length_append,List.length_singleton];omega
   .show (s.1.notes++[_]).length<=_;rw[List.length_append,List.length_singleton];omega
   .rcases List.mem_append.1 g with g | g
    .exact c.r r g
    .obtain rfl:=List.mem_singleton.1 g;exact⟨e,q.2⟩
  .cases h;exact⟨d _ (j p),by show s.2.length<=_;omega⟩
  .rename_i x A;cases h;refine⟨d _ (by rw[np];decide),?_⟩;have:=bL s.2 (aC x) (fiD x);show(aF s.2 _ _).length<=_;omega
 .cases h;exact⟨c.path e j n,by show s.2.length<=_;omega⟩
def bX (l:List B8) (o a b:ae):List B8->Mg×ae->Except Int (Mg×ae)
 | [],s=>.ok s
 | p::P,s=>match cA l o a b s p with
  | .error k=>.error k
  | .ok y=>bX l o a b P y
def wV (m:ae):Option (ae×List (B8×Int))->Except Int ((ae×List (B8×Int))×ae)
 | none=>.error 14
 | some z=>.ok (z,m)
def eM (l:List B8) (o a b:ae) (P:List B8):Except Int ((ae×List (B8×Int))×ae):=match bX l o a b P (⟨[],[],[]⟩,[])with
 | .error k=>.error k
 | .ok y=>wV y.2 (iD o a b y.1.notes (a8 o a b y.1.GV y.1.out))
theorem qD (md:ae):(cy md).length=md.length:=by unfold cy;rw[List.length_map]
def Fc (w w':World) (g B:Nat) (x:MB) (o a b:ae):Except Int ((ae×List (B8×Int))×ae)->Ending->Prop
 | .error k,e=>e=.returned (.int .i64 k)/\FrM B w w'
 | .ok z,e=>e=.returned (.int .i64 0)/\(∃c d h i,IsMer w' g B { x with md:=c } d h o a b ⟨z.1.1,i,z.1.2⟩/\cy c=z.2)/\FrM B w w'
variable {w:World} {g B:Nat} {x:MB} {vc vn:Value}
theorem zr [Inhabited br] {s:Mg} (p:B8) (h:IsMer w g B x vc vn o a b s) (E:Env w) (c:EnvS w) (hF:IsSrcF w x.src l false) (i:l.length<=100000) (j:∀y∈l,y.length<=10000000) (k:x.md.length<=100000) (r:B<=w.heap.size) (A:p.length<=100000) (z:s.out.length<=1000000) (t:s.GV.length<=1000000) (u:s.notes.length<=1000000) :
  Calls Tryz.prog 45 #[.pointer (some ⟨g,0,none⟩),S8 p] w fun e C=>BK w C g B x o a b (cA l o a b (s,cy x.md) p) e:=by
 by_cases d:(al (enL o p) (enL a p) (enL b p)).2=3
 .exact xA p h E c hF i j k r A z t u d
 .refine (rA p h r A z t u d).mono ?_;rintro e C ⟨rfl,⟨n,q,G⟩,F⟩;have D:cA l o a b (s,cy x.md) p=.ok (aU o a b s p,cy x.md):=by unfold cA;rw[if_neg d]
  rw[D];exact⟨rfl,⟨x.md,n,q,G,rfl⟩,F⟩
theorem Ak [Inhabited br] (v:Value) (P:List B8) (hE:∀t,FrM B w t->Env t) (a5:∀t,FrM B w t->EnvS t) (a6:∀t,FrM B w t->IsSrcF t x.src l false) (c9:l.length<=100000) (c':∀y∈l,y.length<=10000000) (h:IsMer w g B x vc vn o a b ⟨[],[],[]⟩) (ao:x.md=[]) (hB:B<=w.heap.size)
  (hv:IsStrs w v P) (ht:∀k,v.ownBlock=some k->∃cs fr,w.heap[k]? = some (.cells cs 9 fr)) (hP:P.length<=1000) (V:∀p∈P,p.length<=1000) (ha:kQ a) (hb:kQ b) :
  Calls Tryz.prog 27 #[.pointer (some ⟨g,0,none⟩),v] w fun e t=>Fc w t g B x o a b (eM l o a b P) e:=by
 have H:Hid (IsMer w g B x vc vn o a b ⟨[],[],[]⟩):=h;have HE:Hid (∀t,FrM B w t->Env t):=hE;have ce:Hid (∀t,FrM B w t->EnvS t):=a5;have cf:Hid _:=a6;have HV:Hid (IsStrs w v P):=hv;have HT:Hid _:=ht;have cp:Hid _:=V;have dk:Hid _:=ao;obtain⟨va,vb,rfl,v1,v2,v3,-⟩:=hv.get;obtain⟨R,hR⟩:∃R,eM l o a b P=R:=⟨_,rfl⟩;have a4:Hid _:=hR;rw[hR];have H0:Hid (IsMer w g B { x with md:=[] } vc vn o a b ⟨[],[],[]⟩):=by
  have e:({ x with md:=([]:ae) }:MB)=x:=by rw[<-ao]
  unfold Hid;rw[e];exact h
 clear h hE a5 a6 hv ht V hR ao;go_enter Tryz.func27,Tryz.ntmps27;go_wp2_with fail;go_loopw [14] (fun i wr=>∃(k:Nat) (vq vm:Value) (L:ae) (S:Mg),k<=P.length/\i=.int .i64 k/\Hid (IsMer wr g B { x with md:=L } vq vm o a b S)/\Hid (BndM k S)/\Hid (L.length<=k)/\Hid (bX l o a b P (⟨[],[],[]⟩,[])=bX l o a b (P.drop k) (S,cy L))/\Hid (FrM B w wr)) (fun i _=>P.length - (intOf i).toNat)
 case atStart=>exact⟨0,vc,vn,[],⟨[],[],[]⟩,Nat.zero_le _,rfl,H0.out,⟨Nat.le_refl _,Nat.le_refl _,Nat.le_refl _,fun e K=>(by cases K),fun r W=>(by cases W)⟩,Nat.le_refl _,rfl,FrM.GX (Ext.refl w)⟩
 case round =>
 obtain⟨k,vq,vm,L,S,c7,rfl,J,n,a3,ag,z⟩:=hrel
 by_cases T:k<P.length
 case pos =>
  obtain⟨p,hp⟩:∃p,P[k]? = some p:=⟨_,List.getElem?_eq_getElem T⟩;have b5:IsStrs wr _ P:=z.out.strs HV.out HT.out;obtain⟨_,_,K,-,-,-,F⟩:=b5.get;cases K;obtain⟨bb,oo,rfl,hc⟩:=F k T;have y0:=hc k T;rw[show P.getD k []=p by rw[List.getD_eq_getElem?_getD,hp];rfl]at y0;have V:=cp.out p (List.mem_of_getElem? hp);have D:Hid (P.drop k=p::P.drop (k+1)):=by
   unfold Hid;obtain⟨h1,rfl⟩:=List.getElem?_eq_some_iff.1 hp;exact List.drop_eq_getElem_cons h1
  have cx:B<=wr.heap.size:=Nat.le_trans hB z.out.size;have b1:=n.out.o;have b2:=n.out.c;have b3:=n.out.n;have bs:=a3.out;clear b5 F hc hp;go_wp2_with fail;go_at_call 45;refine(zr p J.out (HE.out _ z.out) (ce.out _ z.out) (cf.out _ z.out) c9 c' (by show L.length<=_;omega) cx (by omega) (by omega) (by omega) (by omega)).mono ?_;dsimp only;obtain⟨Y,hY⟩:∃Y,cA l o a b (S,cy L) p=Y:=⟨_,rfl⟩;rw[hY];have HY:Hid _:=hY;clear hY y0;rintro e M b0
  cases Y with
  | error q =>
   obtain⟨rfl,E⟩:=b0;have dp:(q != 0)=true:=by rcases rC HY.out with rfl | rfl <;> rfl
   have C:Hid (FrM B w M):=z.out.trans E;have cu:Hid (R=.error q):=by
    unfold Hid;rw[<-a4.out];unfold eM;rw[ag.out,D.out];unfold bX;rw[HY.out]
   clear E;go_wp2_with fail;go_ret;rw[cu.out];exact⟨rfl,C.out⟩
  | ok y =>
   obtain⟨rfl,⟨I,b7,b6,bo,av⟩,E⟩:=b0;have Q:Hid (IsMer M g B { x with md:=I } b7 b6 o a b y.1):=bo;have C:Hid (FrM B w M):=z.out.trans E;obtain⟨a7,bm⟩:=zt HY.out n.out V ha hb (by show(cy L).length<=k;rw[qD];exact bs);have b9:Hid (BndM (k+1) y.1):=a7;have co:Hid (I.length<=k+1):=by unfold Hid;rw[<-qD I,av];exact bm
   have cq:Hid (bX l o a b P (⟨[],[],[]⟩,[])=bX l o a b (P.drop (k+1)) (y.1,cy I)):=by
    unfold Hid;rw[ag.out,D.out,av]
    conv=>lhs;unfold bX
    rw[HY.out]
   clear bo av E a7 bm;go_wp2_with fail;go_roundw
   case rel=>exact⟨k+1,b7,b6,I,y.1,by omega,by go_num,Q.out,b9.out,co.out,cq.out,C.out⟩
   case measure=>simp[intOf];omega
 have c6:k=P.length:=by omega
 subst c6;obtain⟨N,ai⟩:∃N,iD o a b S.notes (a8 o a b S.GV S.out)=N:=⟨_,rfl⟩;have O:Hid (R=wV (cy L) N):=by
  unfold Hid;rw[<-a4.out];unfold eM;rw[ag.out,List.drop_length];unfold bX;dsimp only;rw[ai]
 have a0:Hid (N=iD o a b S.notes (a8 o a b S.GV S.out)):=ai.symm;obtain⟨x2,u⟩:∃x2:MB,({ x with md:=L }:MB)=x2:=⟨_,rfl⟩;have cv:Hid _:=u;rw[u]at J;clear ai u;have b1:=n.out.o;have b2:=n.out.c;have b3:=n.out.n;have y5:=J.out.f5;have a9:IsRws wr vq S.GV:=Row.GW J.out.cp (by omega);obtain⟨ca,cc,rfl,-⟩:=a9.get;clear a9 T c7;go_wp2_with fail;clear y5;go_loopw [30] (fun i wq=>∃(j:Nat) (c:ae),j<=S.GV.length/\i=.int .i64 j/\Hid (IsMer wq g B x2 (.slice ca S.GV.length cc) vm o a b ⟨c,S.GV,S.notes⟩)/\c.length<=P.length+j/\Hid (BndF 1100 c)/\Hid (FrM B w wq)/\Hid (a8 o a b S.GV S.out=a8 o a b (S.GV.drop j) c)) (fun i _=>S.GV.length - (intOf i).toNat)
 case atStart=>exact⟨0,S.out,Nat.zero_le _,rfl,J.out,by omega,fun e K=>⟨Nat.le_trans (n.out.f e K).1 (by omega),(n.out.f e K).2⟩,z.out,rfl⟩
 case round =>
 clear J z;obtain⟨j,c,hj,rfl,J,dn,a1,z,aa⟩:=hrel
 by_cases bk:j<S.GV.length
 case pos =>
  obtain⟨r,W⟩:∃r,S.GV[j]? = some r:=⟨_,List.getElem?_eq_getElem bk⟩;have b4:IsRws wr (.slice ca S.GV.length cc) S.GV:=Row.GW J.out.cp (by omega);obtain⟨_,_,K,-,-,-,F⟩:=b4.get;cases K;obtain⟨rb,ro,rfl,c0,c1,c2⟩:=F j r W;have y0:wr.cell? ⟨rb,ro+j*3,none⟩=some (S8 r.path):=by rw[Nat.mul_comm j 3];exact c0
  have y1:wr.cell? ⟨rb,ro+j*3+1,none⟩=some (.int .i64 r.mode):=by rw[Nat.mul_comm j 3];exact c1
  have y2:wr.cell? ⟨rb,ro+j*3+2,none⟩=some (S8 r.id):=by rw[Nat.mul_comm j 3];exact c2
  obtain⟨bv,bi⟩:=n.out.r r (List.mem_of_getElem? W);have D:Hid (S.GV.drop j=r::S.GV.drop (j+1)):=lS W;obtain⟨rp,rm,ri⟩:=r;dsimp only at y0 y1 y2 bv bi;clear b4 F c0 c1 c2 W;go_upto_region 11 with fail;obtain⟨M,X⟩:∃M,M=wr.alloc (.cells #[S8 rp,.int .i64 rm,S8 ri] 50):=⟨_,rfl⟩;have u:Ext wr M:=by rw[X];exact(Ext.refl _).alloc _
  have am:M.heap[wr.heap.size]? = some (.cells #[S8 rp,.int .i64 rm,S8 ri] 50 (0,0)):=by rw[X];exact ah _ _
  rw[<-X];obtain⟨gi,bc⟩:∃q,wr.heap.size=q:=⟨_,rfl⟩;rw[bc]at am ⊢;obtain⟨z0,z1,z2⟩:=cD am;have Q:Hid (IsMer M g B x2 (.slice (some ⟨rb,ro,none⟩) S.GV.length cc) vm o a b ⟨c,S.GV,S.notes⟩):=J.out.ext u;have C:Hid (FrM B w M):=z.out.trans (FrM.GX u);clear X u am bc y0 y1 y2;go_wp2_with fail;go_at_call 46;refine(lv ⟨rp,rm,ri⟩ (HE.out _ C.out) Q.out (by show rp.length<=_;omega) (by show ri.length<=_;omega) (by show c.length<=_;omega)).mono ?_;obtain⟨pe,U⟩:∃q,aV o a b c ⟨rp,rm,ri⟩ 21=q:=⟨_,rfl⟩;dsimp only;rw[U];have ad:Hid _:=U;rintro e w6 ⟨rfl,bp,ba⟩;have a2:Hid (FrM B w w6):=C.out.trans (Q.out.Hf ba);have A:∀d,pe=some d->d.length<=c.length+1:=fun d h=>gT o a b ⟨rp,rm,ri⟩ 21 _ _ (by rw[U];exact h)
  have ci:Hid _:=bp;clear bp ba U z0 z1 z2
  cases pe with
  | none =>
   have HR:Hid (N=none):=by unfold Hid;rw[a0.out,aa.out,D.out,fy ad.out];rfl
   go_wp2_with fail;go_ret;rw[O.out,HR.out];exact⟨rfl,a2.out⟩
  | some d =>
   have dc:=A d rfl;have b':Hid (a8 o a b S.GV S.out=a8 o a b (S.GV.drop (j+1)) d):=by unfold Hid;rw[aa.out,D.out];exact fz ad.out
   have b8:Hid (BndF 1100 d):=lw (r:=⟨rp,rm,ri⟩) bv bi 21 c d a1.out ad.out;go_wp2_with fail;go_roundw
   case rel=>exact⟨j+1,d,by omega,by go_num,ci.out,by omega,b8.out,a2.out,b'.out⟩
   case measure=>simp[intOf];omega
 have c5:j=S.GV.length:=by omega
 have cb:Hid (a8 o a b S.GV S.out=some c):=by unfold Hid;rw[aa.out,c5,List.drop_length];rfl
 have c3:B<=wr.heap.size:=Nat.le_trans hB z.out.size;clear bk hj;go_wp2_with fail;go_at_call 47;refine(pr (fun t da=>HE.out t (z.out.trans da)) J.out c3 (by show c.length<=_;omega) (by show S.notes.length<=_;omega) (fun r W=>by
  unfold aI at W;obtain⟨e,K,rfl⟩:=List.mem_map.1 W;obtain⟨h1,h2⟩:=a1.out e K;exact⟨by show e.1.length<=_;omega,by show e.2.data.length<=_;omega⟩)).mono ?_
 dsimp only;obtain⟨me,au⟩:∃q,be o a b (aI c) c S.notes=q:=⟨_,rfl⟩;rw[au];have Z:Hid (N=ky me):=by unfold Hid;rw[a0.out,cb.out];show ky (be o a b (aI c) c S.notes)=_;rw[au]
 rintro e w7 ⟨rfl,bq,a'⟩;have ab:Hid (FrM B w w7):=z.out.trans a';have cl:Hid _:=bq;clear bq a' au
 cases me with
 | none =>
  have HR:Hid (N=none):=Z.out;go_wp2_with fail;go_ret;rw[O.out,HR.out];exact⟨rfl,ab.out⟩
 | some y =>
  obtain⟨dq,G⟩:=cl.out y rfl;have cm:Hid _:=G;have y4:=G.f4;have A:=fun ty=>G.G7.map.len Tryz.underlying59 ty
  rw[show Maps.size (cX bn y.1)=y.1.length by simp[cX,Maps.size]]at A;have c8:=A 3
  by_cases bh:y.1.length>256
  .have c4:(256:Int)<(y.1.length:Int):=by omega
   have HR:Hid (N=none):=by unfold Hid;rw[Z.out];show(if y.1.length>256 then none else some y)=none;rw[if_pos bh]
   clear G;go_wp2_with fail;go_ret;rw[O.out,HR.out];exact⟨rfl,ab.out⟩
  .have c4:¬(256:Int)<(y.1.length:Int):=by omega
   have HR:Hid (N=some y):=by unfold Hid;rw[Z.out];show(if y.1.length>256 then none else some y)=some y;rw[if_neg bh]
   clear G;go_wp2_with fail;go_ret;rw[O.out,HR.out];exact⟨rfl,⟨L,_,_,_,by rw[cv.out];exact cm.out,rfl⟩,ab.out⟩
end
section
open Go Go.RowKit Go.Sort
theorem pz {l:List B8} {o a b:ae} {I:Nat->Mg×ae->Prop}:∀(P:List B8) (k:Nat) (s y:Mg×ae),(∀k s p y,p∈P->I k s->cA l o a b s p=.ok y->I (k+1) y)->I k s->bX l o a b P s=.ok y->I (k+P.length) y
 | [],k,s,y,_,c,h=>by cases h;exact c
 | p::P,k,s,y,e,c,h=>by
  unfold bX at h
  cases d:cA l o a b s p with
  | error q=>rw[d]at h;cases h
  | ok z =>
   rw[d]at h;have g:=pz P (k+1) z y (fun k s q y i=>e k s q y (List.mem_cons_of_mem _ i)) (e k s p z List.mem_cons_self c d) h;rw[List.length_cons,show k+(P.length+1)=k+1+P.length by omega];exact g
structure MidX (k:Nat) (s:Mg×ae):Prop where
 o:s.1.out.length<=k
 c:s.1.GV.length<=k
 n:s.1.notes.length<=k
 kd:fl s.1.notes
 m:s.2.length<=k
 up:Rising s.2
 id:∀e∈s.2,e.1=aC e.2.data
variable {l:List B8} {o a b:ae} {s y:Mg×ae} {p:B8}
theorem kB (h:cA l o a b s p=.ok y) :
  ((al (enL o p) (enL a p) (enL b p)).2≠3/\y=(aU o a b s.1 p,s.2)) \/
  ((al (enL o p) (enL a p) (enL b p)).2=3/\((cj l (enL o p).2 (enL a p).2 (enL b p).2=.no/\y=(dC s.1 p (enL a p) (enL b p),s.2)) \/
   (cj l (enL o p).2 (enL a p).2 (enL b p).2=.same/\y=(⟨aF s.1.out p (fiE ((al (enL o p) (enL a p) (enL b p)).1.1,(enL a p).2)),s.1.GV,s.1.notes⟩,s.2)) \/
   ∃x,cj l (enL o p).2 (enL a p).2 (enL b p).2=.made x/\y=(⟨aF s.1.out p (fiE ((al (enL o p) (enL a p) (enL b p)).1.1,aC x)),s.1.GV,s.1.notes⟩,aF s.2 (aC x) (fiD x)))):=by
 unfold cA at h;split at h
 .rename_i d;right;refine⟨d,?_⟩;split at h
  .cases h
  .rename_i c;cases h;exact .inl ⟨c,rfl⟩
  .rename_i c;cases h;exact .inr (.inl ⟨c,rfl⟩)
  .rename_i x c;cases h;exact .inr (.inr ⟨x,c,rfl⟩)
 .rename_i d;cases h;exact .inl ⟨d,rfl⟩
theorem MidX.step {k:Nat} (h:MidX k s) (j:cA l o a b s p=.ok y):MidX (k+1) y:=by
 have q:=h.o;have r:=h.c;have t:=h.n;have u:=h.m;rcases kB j with⟨-,rfl⟩ | ⟨-,⟨-,rfl⟩ | ⟨-,rfl⟩ | ⟨x,-,rfl⟩⟩
 .obtain ⟨d,i,n⟩:=rB (o:=o) (a:=a) (b:=b) s.1 p;exact⟨by show(aU o a b s.1 p).out.length<=_;omega,by show(aU o a b s.1 p).GV.length<=_;omega,by show(aU o a b s.1 p).notes.length<=_;omega,nP h.kd,by show s.2.length<=_;omega,h.up,h.id⟩
 .have d:=bL s.1.out p (fiE (aN (enL a p) (enL b p)).1);refine⟨by show(aF s.1.out p _).length<=_;omega,?_,?_,fun x c=>?_,by show s.2.length<=_;omega,h.up,h.id⟩
  .show (s.1.GV++[_]).length<=_;rw[List.length_append,List.length_singleton];omega
  .show (s.1.notes++[_]).length<=_;rw[List.length_append,List.length_singleton];omega
  .rcases List.mem_append.1 c with c | c
   .exact h.kd x c
   .obtain rfl:=List.mem_singleton.1 c;exact .inl rfl
 .have d:=bL s.1.out p (fiE ((al (enL o p) (enL a p) (enL b p)).1.1,(enL a p).2));exact⟨by show(aF s.1.out p _).length<=_;omega,by show s.1.GV.length<=_;omega,by show s.1.notes.length<=_;omega,h.kd,by show s.2.length<=_;omega,h.up,h.id⟩
 .have d:=bL s.1.out p (fiE ((al (enL o p) (enL a p) (enL b p)).1.1,aC x));have i:=bL s.2 (aC x) (fiD x);refine⟨by show(aF s.1.out p _).length<=_;omega,by show s.1.GV.length<=_;omega,by show s.1.notes.length<=_;omega,h.kd,by show(aF s.2 _ _).length<=_;omega,h.up.put _ _,fun e g=>?_⟩;rcases cG g with rfl | ⟨g,-⟩
  .rfl
  .exact h.id e g
variable {P:List B8} {z:(ae×List (B8×Int))×ae}
theorem sK (h:eM l o a b P=.ok z) :
  ∃S c y,bX l o a b P (⟨[],[],[]⟩,[])=.ok (S,z.2)/\a8 o a b S.GV S.out=some c/\be o a b (aI c) c S.notes=some y/\y.1.length<=256/\z.1=y:=by
 unfold eM at h;split at h
 .cases h
 .rename_i s g;obtain⟨S,i⟩:=s;unfold iD at h
  cases d:a8 o a b S.GV S.out with
  | none=>rw[d]at h;cases h
  | some c =>
   rw[d]at h;simp only at h;unfold ky at h
   cases e:be o a b (aI c) c S.notes with
   | none=>rw[e]at h;cases h
   | some y =>
    rw[e]at h;simp only at h;split at h
    .cases h
    .cases h;exact⟨S,c,y,g,d,e,by omega,rfl⟩
theorem Am {S:Mg×ae} (h:bX l o a b P (⟨[],[],[]⟩,[])=.ok S):MidX P.length S:=by
 have c:=pz (I:=MidX) P 0 (⟨[],[],[]⟩,[]) S (fun k s p y _ g i=>g.step i) ⟨Nat.le_refl _,Nat.le_refl _,Nat.le_refl _,fun x j=>(by cases j),Nat.le_refl _,List.Pairwise.nil,fun e d=>(by cases d)⟩ h
 rwa [Nat.zero_add]at c
structure Dq (n:Nat) (z:(ae×List (B8×Int))×ae):Prop where
 len:z.1.1.length<=256
 notes:z.1.2.length<=3*n
 kd:fl z.1.2
 m:z.2.length<=n
 up:Rising z.2
 id:∀e∈z.2,e.1=aC e.2.data
theorem sJ (h:eM l o a b P=.ok z):Dq P.length z:=by
 obtain⟨S,d,y,g,i,e,j,rfl⟩:=sK h;have c:=Am g;have k:=c.o;have n:=c.c;have q:=c.n;have r:=kw _ _ _ i;have t:=i8 _ _ _ _ e;have u:(aI d).length=d.length:=List.length_map _;dsimp only at k n q;exact⟨j,by show z.1.2.length<=_;omega,iz _ _ _ _ c.kd e,c.m,c.up,c.id⟩
theorem py {l:List B8} {o a b:ae} {k:Int}:∀(P:List B8) (s:Mg×ae),bX l o a b P s=.error k->k=7\/k=4
 | [],s,h=>by cases h
 | p::P,s,h=>by
  unfold bX at h
  cases c:cA l o a b s p with
  | error q=>rw[c]at h;cases h;exact rC c
  | ok z=>rw[c]at h;exact py P z h
variable {k:Int}
theorem sI (h:eM l o a b P=.error k):k=14\/k=7\/k=4:=by
 unfold eM at h;split at h
 .rename_i e c;cases h;exact .inr (py _ _ c)
 .unfold wV at h;split at h
  .cases h;exact .inl rfl
  .cases h
def bR (l:List B8) (o a b:List Rw):Except Int ((List Rw×List (B8×Int))×ae) :=
 if(an o && (an a && an b))=true then(match eM l (byP o) (byP a) (byP b) (bj (ar [o,a,b]))with
  | .error k=>.error k
  | .ok z=>.ok ((aI z.1.1,z.1.2),z.2))else .error 1
def fo (m:ae):List B8:=m.map fun e=>e.2.data
def xW (w':World) (e:Ending):Except Int ((List Rw×List (B8×Int))×ae)->Prop
 | .error k=>e=.returned (.tuple #[.slice none 0 0,.slice none 0 0,.slice none 0 0,.int .i64 k])
 | .ok y=>∃(g c d:Value) (N:List (B8×Int)),e=.returned (.tuple #[g,c,d,.int .i64 0])/\IsRws w' g y.1.1/\IsBss w' c (fo y.2)/\N.Perm y.1.2/\UpN N/\Row w' d N.length (N.flatMap ntC)
theorem mh {o a b:List Rw} (h:¬(an o && (an a && an b))=true):bR l o a b=.error 1:=if_neg h
theorem xu {o a b:List Rw} (h:(an o && (an a && an b))=true) (c:eM l (byP o) (byP a) (byP b) (bj (ar [o,a,b]))=.error k):bR l o a b=.error k:=by
 unfold bR;rw[if_pos h,c]
theorem rq {o a b:List Rw} (h:(an o && (an a && an b))=true) (c:eM l (byP o) (byP a) (byP b) (bj (ar [o,a,b]))=.ok z):bR l o a b=.ok ((aI z.1.1,z.1.2),z.2):=by
 unfold bR;rw[if_pos h,c]
theorem pm {o a b:List Rw} (h:bR l o a b=.error k):k=1\/k=14\/k=7\/k=4:=by
 unfold bR at h;split at h
 .split at h
  .rename_i e c;cases h;exact .inr (sI c)
  .cases h
 .cases h;exact .inl rfl
theorem xx {o a b:List Rw} {y:(List Rw×List (B8×Int))×ae} (h:bR l o a b=.ok y):(an o && (an a && an b))=true/\∃z,eM l (byP o) (byP a) (byP b) (bj (ar [o,a,b]))=.ok z/\y=((aI z.1.1,z.1.2),z.2):=by
 unfold bR at h;split at h
 .rename_i c;split at h
  .cases h
  .rename_i z d;cases h;exact⟨c,z,d,rfl⟩
 .cases h
theorem nQ {l:List B8} {o a b:ae} (h:∀p,(al (enL o p) (enL a p) (enL b p)).2≠3):∀(P:List B8) (s:Mg×ae),bX l o a b P s=.ok (P.foldl (aU o a b) s.1,s.2)
 | [],s=>rfl
 | p::P,s=>by
  unfold bX;have:cA l o a b s p=.ok (aU o a b s.1 p,s.2):=by unfold cA;rw[if_neg (h p)]
  rw[this];exact nQ h P _
theorem nK {o a b:List Rw} {y:List Rw×List (B8×Int)} (g:kC o a b) (h:eV o a b=.ok y):bR l o a b=.ok (y,[]):=by
 unfold eV at h;split at h
 .rename_i d;have c:=d;simp only[Bool.and_eq_true]at c;have n:=(aZ c.1).1;have j:=(aZ c.2.1).1;have k:=(aZ c.2.2).1;split at h
  .cases h
  .rename_i z i;cases h;have e:eM l (byP o) (byP a) (byP b) (bj (ar [o,a,b]))=.ok (z,[]):=by
    unfold eM;rw[nQ (fun p=>by rw[cN n,cN j,cN k];exact g p)];show wV [] (dJ (byP o) (byP a) (byP b) (bj (ar [o,a,b])))=_;rw[i];rfl
   exact rq d e
 .cases h
theorem zj (md:ae):aX (cy md)=aX md:=by unfold cy aX;rw[List.map_map];rfl
theorem A7 (md:ae):fo (cy md)=fo md:=by unfold cy fo;rw[List.map_map];rfl
theorem A8 {md:ae} (h:Rising (cy md)):Rising md:=by
 unfold cy Rising at h;rw[List.pairwise_map]at h;exact h
end
section
open Go Go.RowKit Go.Sort
theorem fO [Inhabited br] (fn:Fn) (fs cs:Array Value) (v1 v2 v3:Value) (l:List B8) (o a b:List Rw) (w:World) (hE:Env w) (b6:EnvS w) (hF:IsSrcF w (.func fn fs cs) l false) (d4:l.length<=100000) (d5:∀y∈l,y.length<=10000000) (h1:IsRws w v1 o) (h2:IsRws w v2 a) (h3:IsRws w v3 b) (ho:bS o) (ha:bS a) (hb:bS b) :
  Calls Tryz.prog 10 #[.func fn fs cs,v1,v2,v3] w fun e H=>xW H e (bR l o a b)/\Ext w H:=by
 obtain⟨p1,k1,rfl,-⟩:=h1.get;obtain⟨p2,k2,rfl,-⟩:=h2.get;obtain⟨p3,k3,rfl,-⟩:=h3.get;have HE:Hid (Env w):=hE;have HA:Hid (IsRws w (.slice p1 o.length k1) o):=h1;have HB:Hid (IsRws w (.slice p2 a.length k2) a):=h2;have HC:Hid (IsRws w (.slice p3 b.length k3) b):=h3;have V:Hid (bS o):=ho;have I:Hid (bS a):=ha;have J:Hid (bS b):=hb;have cu:Hid (EnvS w):=b6;have HF:Hid (IsSrcF w (.func fn fs cs) l false):=hF;have lo:=ho.1;have la:=ha.1;have lb:=hb.1;obtain⟨M,hM⟩:∃M,bR l o a b=M:=⟨_,rfl⟩;rw[hM];have HM:Hid _:=hM;clear hE b6 hF h1 h2 h3 ho ha hb hM;go_enter Tryz.func10,Tryz.ntmps10;go_wp2_with fail;go_at_call 13;refine(eS _ o w HE.out HA.out (by omega) V.out.2).mono ?_;rintro e w1 ⟨rfl,ce⟩;have X:Hid (Ext w w1):=ce;obtain⟨c1,a3⟩:∃c,an o=c:=⟨_,rfl⟩;rw[a3];have av:Hid _:=a3;clear ce a3
 cases c1 with
 | false =>
  have L:Hid (M=.error 1):=by unfold Hid;rw[<-HM.out];exact mh (by rw[av.out];simp)
  go_wp2_with fail
  ((try simp only[Exit.inBlock,Exit.then]);refine bodyPost_ret (cS rfl _ _ _) rfl ?_)
  rw[L.out];exact⟨rfl,X.out⟩
 | true =>
 go_wp2_with fail;go_at_call 13;refine(eS _ a w1 (HE.out.ext X.out) (HB.out.ext X.out) (by omega) I.out.2).mono ?_;rintro e w2 ⟨rfl,G⟩;have Y:Hid (Ext w w2):=X.out.trans G;obtain⟨c2,a4⟩:∃c,an a=c:=⟨_,rfl⟩;rw[a4];have a0:Hid _:=a4;clear G a4
 cases c2 with
 | false =>
  have L:Hid (M=.error 1):=by unfold Hid;rw[<-HM.out];exact mh (by rw[a0.out];simp)
  go_wp2_with fail
  ((try simp only[Exit.inBlock,Exit.then]);refine bodyPost_ret (cS rfl _ _ _) rfl ?_)
  rw[L.out];exact⟨rfl,Y.out⟩
 | true =>
 go_wp2_with fail;go_at_call 13;refine(eS _ b w2 (HE.out.ext Y.out) (HC.out.ext Y.out) (by omega) J.out.2).mono ?_;rintro e w3 ⟨rfl,cf⟩;have a2:Hid (Ext w w3):=Y.out.trans cf;obtain⟨c3,a5⟩:∃c,an b=c:=⟨_,rfl⟩;rw[a5];have a1:Hid _:=a5;clear cf a5
 cases c3 with
 | false =>
  have L:Hid (M=.error 1):=by unfold Hid;rw[<-HM.out];exact mh (by rw[a1.out];simp)
  go_wp2_with fail
  ((try simp only[Exit.inBlock,Exit.then]);refine bodyPost_ret (cS rfl _ _ _) rfl ?_)
  rw[L.out];exact⟨rfl,a2.out⟩
 | true =>
 have bo:Hid ((an o && (an a && an b))=true):=by unfold Hid;rw[av.out,a0.out,a1.out];rfl
 have ea:Hid (cK o):=(aZ av.out).1;have c':Hid (cK a):=(aZ a0.out).1;have da:Hid (cK b):=(aZ a1.out).1;have bp:∀ {l:List Rw},Hid (bS l)->l.length<=1000000/\∀r∈l,r.path.length<=1000000:=fun h=>⟨Nat.le_trans h.out.1 (by omega),fun r hr=>Nat.le_trans (h.out.2 r hr).1 (by omega)⟩
 have ba:Hid _:=bp V;have a9:Hid _:=bp I;have a':Hid _:=bp J;clear bp;go_wp2_with fail;go_at_call 26;refine(fH _ o w3 (HA.out.ext a2.out) ba.out.1 ba.out.2).mono ?_;rintro e w4 ⟨⟨go,rfl,b',d3⟩,a6⟩;have bi:Hid (IsMG bn w4 go (byP o)):=b';have b3:Hid (Ext w w4):=a2.out.trans a6;have d':Hid (Ext w3 w4):=a6;clear b' d3 a6;go_wp2_with fail;go_at_call 26;refine(fH _ a w4 (HB.out.ext b3.out) a9.out.1 a9.out.2).mono ?_;rintro e w5 ⟨⟨ga,rfl,b8,d1⟩,a7⟩;have bb:Hid (IsMG bn w5 ga (byP a)):=b8;have bk:Hid (IsMG bn w5 go (byP o)):=bi.out.ext a7;have b4:Hid (Ext w w5):=b3.out.trans a7;clear b8 d1 a7;go_wp2_with fail;go_at_call 26;refine(fH _ b w5 (HC.out.ext b4.out) a'.out.1 a'.out.2).mono ?_;rintro e U ⟨⟨gb,rfl,b9,d2⟩,aa⟩;have bh:Hid (IsMG bn U gb (byP b)):=b9;have bc:Hid (IsMG bn U ga (byP a)):=bb.out.ext aa;have bm:Hid (IsMG bn U go (byP o)):=bk.out.ext aa;have b5:Hid (Ext w U):=b4.out.trans aa;clear b9 d2 aa;have d6:=@run_makeMap Tryz.prog;go_upto_region 4 with fail;obtain⟨w7,cc⟩:∃w7,w7=(((U.alloc (.map #[] 0)).alloc (.map #[] 0)).alloc (.cells #[.func fn fs cs,.map (some go),.map (some ga),.map (some gb),.map (some U.heap.size),.slice none 0 0,.map (some (U.heap.size+1)),.slice none 0 0] 63)):=⟨_,rfl⟩;obtain⟨C,S⟩:=vH (.func fn fs cs) bm.out bc.out bh.out b5.out.size;rw[<-cc]at C S ⊢;obtain⟨g,hg⟩:∃g,U.heap.size+1+1=g:=⟨_,rfl⟩;obtain⟨x,hx⟩:∃x,(⟨go,ga,gb,U.heap.size+1,U.heap.size,.func fn fs cs,[]⟩:MB)=x:=⟨_,rfl⟩;have c5:Hid (x.md=[]):=by unfold Hid;rw[<-hx]
 have dc:Hid (x.src=.func fn fs cs):=by unfold Hid;rw[<-hx]
 rw[hx,hg]at C;rw[hg];have c0:Hid (IsMer w7 g w.heap.size x (.slice none 0 0) (.slice none 0 0) (byP o) (byP a) (byP b) ⟨[],[],[]⟩):=C;have Z:Hid (Ext w w7):=b5.out.trans S;clear d6 cc C S hg hx;obtain⟨P,hP⟩:∃P,bj (ar [o,a,b])=P:=⟨_,rfl⟩;have bv:Hid (P.length<=900/\∀p∈P,p.length<=1000):=by
  obtain⟨q1,q2⟩:=eL V.out I.out J.out;unfold Hid;rw[<-hP];exact⟨Nat.le_trans (kq _) q1,fun p hp=>q2 p (dd.1 hp)⟩
 have eg:=bv.out.1;have cx:Hid ((ar [o,a,b]).length<=1000000):=Nat.le_trans (eL V.out I.out J.out).1 (by omega);have HP:Hid _:=hP;clear hP;go_wp2_with fail;go_at_call 14;refine(jg _ _ _ _ (xN (HA.out.ext Z.out) (HB.out.ext Z.out) (HC.out.ext Z.out)) cx.out).mono ?_;rw[HP.out];rintro e w9 ⟨⟨vp,rfl,ca⟩,ci⟩;have ag:Hid (Ext w7 w9):=(Ext.alloc (Ext.refl _) _).trans ci;have bs:Hid _:=ca;clear ca ci;have c4:Hid (IsMer w9 g w.heap.size x (.slice none 0 0) (.slice none 0 0) (byP o) (byP a) (byP b) ⟨[],[],[]⟩):=c0.out.ext ag.out;have D:Hid (Ext w w9):=Z.out.trans ag.out;have dk:Hid (IsStrs w9 vp P):=Row.GW bs.out (by omega);have dn:Hid (∀k,vp.ownBlock=some k->∃cs fr,w9.heap[k]? = some (.cells cs 9 fr)):=fun k E=>by
  obtain⟨eb,h⟩:=(bO bs.out k E).2;exact⟨_,_,h⟩
 go_wp2_with fail;go_at_call 27;refine(Ak (l:=l) vp P (fun H hf=>HE.out.ext (FrM.ext D.out hf (Nat.le_refl _))) (fun H hf=>cu.out.ext (FrM.ext D.out hf (Nat.le_refl _))) (fun H hf=>by rw[dc.out];exact HF.out.ext (FrM.ext D.out hf (Nat.le_refl _))) d4 d5 c4.out c5.out D.out.size dk.out dn.out (by omega) bv.out.2 (kU c'.out I.out) (kU da.out J.out)).mono ?_;obtain⟨R,j⟩:∃R,eM l (byP o) (byP a) (byP b) P=R:=⟨_,rfl⟩;rw[j];have L:Hid _:=j;rintro e ab b7
 cases R with
 | error q =>
  obtain⟨rfl,n⟩:=b7;have O:Hid (Ext w ab):=FrM.ext D.out n (Nat.le_refl _);have eh:(q != 0)=true:=by rcases sI L.out with rfl | rfl | rfl <;> rfl
  have W:Hid (M=.error q):=by unfold Hid;rw[<-HM.out];exact xu bo.out (by rw[HP.out];exact L.out)
  clear j n;go_wp2_with fail
  ((try simp only[Exit.inBlock,Exit.then]);refine bodyPost_ret (cS rfl _ _ _) rfl ?_)
  rw[W.out];exact⟨rfl,O.out⟩
 | ok z =>
 obtain⟨rfl,⟨i,vc,vn,ks,B,F⟩,n⟩:=b7;have O:Hid (Ext w ab):=FrM.ext D.out n (Nat.le_refl _);have W:Hid (M=.ok ((aI z.1.1,z.1.2),z.2)):=by unfold Hid;rw[<-HM.out];exact rq bo.out (by rw[HP.out];exact L.out)
 obtain⟨⟨y1,y2⟩,zm⟩:=z;dsimp only at B F W;have A:Hid (Dq P.length ((y1,y2),zm)):=sJ L.out;have d9:=A.out.len;have d7:=A.out.notes;dsimp only at d9 d7;have cv:Hid (fl y2):=A.out.kd;have dq:Hid (Rising i):=A8 (by rw[F];exact A.out.up);have c7:Hid (i.length<=100000):=by
  have h9:=A.out.m;rw[<-F,qD]at h9;unfold Hid;omega
 have c6:Hid (∀p∈aX i,p.length<=1000000):=fun p hp=>by
  rw[<-zj i,F]at hp;obtain⟨e9,d0,rfl⟩:=List.mem_map.1 hp;rw[A.out.id e9 d0,np];decide
 have cq:Hid (fo i=fo zm):=by unfold Hid;rw[<-A7 i,F]
 obtain⟨x2,G⟩:∃x2:MB,({ x with md:=i }:MB)=x2:=⟨_,rfl⟩;have ad:Hid (x2.md=i):=by unfold Hid;rw[<-G]
 rw[G]at B;have K:Hid (IsMer ab g w.heap.size x2 vc vn (byP o) (byP a) (byP b) ⟨y1,ks,y2⟩):=B;clear j B n F G L A;have y7:=K.out.f7;go_wp2_with fail;go_at_call 28;refine(kL vn y2 w.heap.size ab cv.out K.out.nt (by omega)).mono ?_;rintro e co ⟨rfl,N,hN,cb,au,am⟩;obtain⟨ao,ai⟩:=K.out.Iq N am au;have b0:Hid (N.Perm y2):=hN;have dp:Hid (UpN N):=cb;have d:Hid (IsMer co g w.heap.size x2 vc vn (byP o) (byP a) (byP b) ⟨y1,ks,N⟩):=ao;have b1:Hid (Ext w co):=FrM.ext O.out ai (Nat.le_refl _);clear hN cb au am ao ai y7;have ec:N.length<=10000:=by have:=b0.out.length_eq;omega
 have y6:=d.out.f6;have y7:=d.out.f7;go_upto_region 8 with fail;apply ak 15 [_,undef,_,.pointer (some ⟨g,0,none⟩),.pointer (some ⟨g,6,none⟩),.map (some x2.gm),undef,_,.pointer (some ⟨g,0,none⟩),.pointer (some ⟨g,7,none⟩),vn,undef,undef,vn,.int .i64 0] [none,some (fun u H=>IsRws H u (aI y1)),none,none,none,none,some (fun u H=>IsBss H u (fo zm)),none,none,none,none,some (fun u H=>IsRws H u (aI y1)),some (fun u H=>IsBss H u (fo zm)),none,none] [[],[0],[],[2],[3],[4],[5],[],[7],[8],[9],[1],[6],[10],[]] (by kernel_rfl) (by kernel_rfl) (by simp[aq])
 .refine ⟨?_,?_,?_,?_,trivial⟩
  iterate 4
   .exact fun _ _ _ he h=>h.ext he
 .simp (maxSteps:=1000000)only[List.take_succ_cons,List.take_zero,ay,aB,af,Act.put,List.setIfInBounds_toArray,List.set_cons_zero,List.set_cons_succ,aE,aH,aq,List.getD_cons_zero,List.getD_cons_succ,and_true,true_and,forall_const];and_intros
  .intro T wq t;intros;rename_i j;have k6:=t.cell y6;have k7:=t.cell y7;go_simp;exact j _ _ (Ext.refl _) rfl
  .intro T wq t E R j;go_simp;exact(mD (d.out.ext t) (by show y1.length<=_;omega)).mono (by rintro e' w9 ⟨⟨v,rfl,ho⟩,hx⟩;exact⟨_,rfl,j _ _ hx (vX ho (by omega))⟩)
  iterate 4 · intro T wq t;intros;rename_i j;have k6:=t.cell y6;have k7:=t.cell y7;go_simp;exact j _ _ (Ext.refl _) rfl
  .intro T wq t E R j;go_simp;exact(uQ x2.gm i _ dq.out (by have h9:=(d.out.ext t).mm;rwa [ad.out]at h9) (by have h9:=(d.out.ext t).Hk;rwa [ad.out]at h9) c7.out c6.out).mono (by rintro e' w9 ⟨⟨v,rfl,ds⟩,hx⟩;exact⟨_,rfl,j _ _ hx (by rw[<-cq.out];exact ds)⟩)
  iterate 4 · intro T wq t;intros;rename_i j;have k6:=t.cell y6;have k7:=t.cell y7;go_simp;exact j _ _ (Ext.refl _) rfl
  iterate 2
   .intro T wq t E R j;go_simp;exact j _ _ (Ext.refl _) E
  iterate 2 · intro T wq t;intros;rename_i j;have k6:=t.cell y6;have k7:=t.cell y7;go_simp;exact j _ _ (Ext.refl _) rfl
 intro T cp Q E;simp only[aG,Nat.zero_add,Nat.reduceAdd,and_true]at E;have q1:=E.2.1;have q6:=E.2.2.2.2.2.2.1;have cl:=E.2.2.2.2.2.2.2.2.2.2.2.1;have cm:=E.2.2.2.2.2.2.2.2.2.2.2.2.1;simp(maxSteps:=1000000)only[List.take_succ_cons,List.take_zero,List.drop_succ_cons,List.drop_zero,af,Act.put,List.setIfInBounds_toArray,List.set_cons_zero,List.set_cons_succ,Nat.zero_add,Nat.reduceAdd,E];clear E;generalize T 1=x1 at *;generalize T 6=x6 at *;generalize T 11=ei at *;generalize T 12=ek at *;have c9:Hid _:=cm;have c8:Hid _:=cl;have b2:Hid (Ext w cp):=b1.out.trans Q;have bq:Hid (Row cp vn N.length (N.flatMap ntC)):=Row.GW (az d.out.nt Q) (by show N.length<=_;omega);clear q1 cl q6 cm Q y6 y7;go_wp2_with fail
 ((try simp only[Exit.inBlock,Exit.then]);refine bodyPost_ret (cS rfl _ _ _) rfl ?_)
 rw[W.out];exact⟨⟨_,_,_,N,rfl,c8.out,c9.out,b0.out,dp.out,bq.out⟩,b2.out⟩
end
end Go.Proofs.YtgfegpnmlkdjfaaGreatDoor
