/- Contracts of the program's functions and plain laws behind the card. Conditions: as each theorem states. -/
import Derived.Test.YtgfegpnmlkdjfaaGreatDoorZbo
import Derived.Test.YtgfegpnmlkdjfaaGreatDoorZbm
import Derived.Test.YtgfegpnmlkdjfaaGreatDoorZbn
import Derived.Test.YtgfegpnmlkdjfaaGreatDoorZbd
set_option linter.unusedVariables false
set_option linter.unusedSimpArgs false
set_option linter.unusedSectionVars false
set_option maxRecDepth 100000
set_option maxHeartbeats 64000000
namespace Go.Proofs.YtgfegpnmlkdjfaaGreatDoor
section
open Go Go.RowKit Go.Sort
variable {l:List B8}
theorem oS {a:List B8} {k:Int} (h:dG l a=.error k):k=7\/k=4:=by
 unfold dG at h;split at h
 .cases h;exact .inl rfl
 .split at h
  .cases h;exact .inr rfl
  .cases h
theorem yx {b d:B8} (h:ip b=some d):d.length<=20000:=by
 unfold ip at h;split at h
 .rename_i e;cases h
  cases b with
  | nil=>exact Nat.zero_le _
  | cons c l =>
   rw[lQ]at e ⊢;split at e
   .rename_i g;rw[if_pos g];have a:=g.1;unfold ew at a;rw[if_pos e.2]at a;simp only[Bool.and_eq_true,decide_eq_true_eq]at a;exact a.1
   .exact absurd e.1 (by decide)
 .cases h
theorem rG {l:List B8}:∀ {a r:List B8},cB l a=some r->r.length=a.length
 | [],r,h=>by cases h;rfl
 | id::a,r,h=>by
  unfold cB at h
  cases c:eJ l id with
  | none=>rw[c]at h;cases h
  | some y =>
   rw[c]at h
   cases b:cB l a with
   | none=>rw[b]at h;cases h
   | some z =>
    rw[b]at h;simp only[Option.bind_some,Option.map_some,Option.some.injEq]at h;subst h;rw[List.length_cons,List.length_cons,rG b]
theorem oX:∀ {r d:List B8},bV r=some d->d.length=r.length/\∀x∈d,x.length<=20000
 | [],d,h=>by cases h;exact⟨rfl,fun x a=>by cases a⟩
 | b::r,d,h=>by
  unfold bV at h
  cases e:ip b with
  | none=>rw[e]at h;cases h
  | some y =>
   rw[e]at h
   cases c:bV r with
   | none=>rw[c]at h;cases h
   | some z =>
    rw[c]at h;simp only[Option.bind_some,Option.map_some,Option.some.injEq]at h;subst h;obtain⟨g,i⟩:=oX c;refine⟨by rw[List.length_cons,List.length_cons,g],fun x a=>?_⟩;rcases List.mem_cons.1 a with rfl | a
    .exact yx e
    .exact i x a
theorem yd {n o p:B8} {d:List B8} (h:dG l [n,o,p]=.ok d):∃a b c,d=[a,b,c]/\a.length<=20000/\b.length<=20000/\c.length<=20000:=by
 unfold dG at h;split at h
 .cases h
 .rename_i r j;split at h
  .cases h
  .rename_i z k;obtain rfl:z=d:=by cases h;rfl
   have i:=rG j;obtain⟨g,e⟩:=oX k;rw[i]at g
   match z,g with
   | [a,b,c],_=>exact⟨a,b,c,rfl,e a (by simp),e b (by simp),e c (by simp)⟩
inductive wD
 | bad (k:Int)
 | no
 | same
 | made (x:B8)
def obB (m:B8):Ob:=⟨1,m,[],[],[],0,0,[]⟩
def cj (l:List B8) (o a b:B8):wD:=match dG l [o,a,b]with
 | .error k=>.bad k
 | .ok d=>if a=b then .same else match dH (d.getD 0 []) (d.getD 1 []) (d.getD 2 [])with
  | none=>.no
  | some m=>if 4096<m.length then .no else .made (bz (obB m)).1
theorem tg (m:B8) (h:m.length<=4096):(bz (obB m)).1.length<=5000:=by
 unfold bz;split
 .show (UInt8.ofNat 1::mV (obB m)).length<=_;have:mV (obB m)=m:=rfl;rw[this,List.length_cons];omega
 .exact Nat.zero_le _
variable {w:World}
theorem D6 {a:Nat} {v:Value} {l:B8} (h:Ow a w v l):∃f:Fi,f.data=l/\mdV f=v:=by
 rcases h.2 with⟨b,e⟩ | ⟨g,c,d,b,-⟩
 .refine ⟨⟨0,l,-1⟩,rfl,?_⟩;unfold mdV;rw[if_pos (by show(-1:Int)<0;decide),b]
 .refine ⟨⟨(c:Int),l,(g:Int)⟩,rfl,?_⟩;unfold mdV;rw[if_neg (by show ¬(g:Int)<0;omega),b];rfl
def EF (w w':World) (c:Nat) (md:ae) (a:B8):wD->Ending->Prop
 | .bad k,e=>e=.returned (.tuple #[S8 [],.bool false,.int .i64 k])/\Ext w w'
 | .no,e=>e=.returned (.tuple #[S8 [],.bool false,.int .i64 0])/\Ext w w'
 | .same,e=>e=.returned (.tuple #[S8 a,.bool true,.int .i64 0])/\Ext w w'
 | .made x,e=>e=.returned (.tuple #[S8 (aC x),.bool true,.int .i64 0])/\∃b f,Ext w b/\b.grownBy w' (some c)/\f.data=x/\IsBytes b (mdV f) x/\TypB b (mdV f)/\IsMG mdV w' c (aF md (aC x) f)
theorem zN [Inhabited br] {g:Nat} {x:MB} {vc vn:Value} {md:ae} {om am bm:Int} {F z B:B8} (hE:Env w) (b2:EnvS w) (a0:w.heap[g]? = some (.cells (mrC x vc vn) 63 (0,0))) (hF:IsSrcF w x.src l false) (hm:IsMG mdV w x.gm md)
  (hl:l.length<=100000) (hs:∀y∈l,y.length<=10000000) (ds:md.length<=100000) :
  Calls Tryz.prog 65 #[.pointer (some ⟨g,0,none⟩),.agg #[.int .i64 om,S8 F],.agg #[.int .i64 am,S8 z],.agg #[.int .i64 bm,S8 B]] w fun e p=>EF w p x.gm md z (cj l F z B) e:=by
 have HE:Hid _:=hE;have cl:Hid _:=b2;have av:Hid _:=a0;have HF:Hid _:=hF;have HM:Hid _:=hm;obtain⟨R,n⟩:∃R,cj l F z B=R:=⟨_,rfl⟩;have HR:Hid _:=n;rw[n];clear hE b2 a0 hF hm n;go_enter Tryz.func65,Tryz.ntmps65;go_upto_region 1 with fail;obtain⟨P,L⟩:∃P,P=((w.alloc (.cells #[.int .i64 om,S8 F] 41)).alloc (.cells #[.int .i64 am,S8 z] 41)).alloc (.cells #[.int .i64 bm,S8 B] 41):=⟨_,rfl⟩;have ba:Ext w P:=by rw[L];exact(((Ext.refl _).alloc _).alloc _).alloc _
 have c1:P.heap[w.heap.size]? = some (.cells #[.int .i64 om,S8 F] 41 (0,0)):=by rw[L];exact Ext.row (((Ext.refl _).alloc _).alloc _) (ah w _)
 have Z:P.heap[w.heap.size+1]? = some (.cells #[.int .i64 am,S8 z] 41 (0,0)):=by rw[L];exact Ext.row ((Ext.refl _).alloc _) (iG w _ _)
 have Q:P.heap[w.heap.size+1+1]? = some (.cells #[.int .i64 bm,S8 B] 41 (0,0)):=by
  rw[L];have h9:=iG (w.alloc (.cells #[.int .i64 om,S8 F] 41)) (.cells #[.int .i64 am,S8 z] 41) (.cells #[.int .i64 bm,S8 B] 41)
  rwa [show(w.alloc (.cells #[.int .i64 om,S8 F] 41)).heap.size=w.heap.size+1 by simp]at h9
 rw[<-L];obtain⟨g5,b3⟩:∃q,w.heap.size=q:=⟨_,rfl⟩;obtain⟨g6,aa⟩:∃q,g5+1=q:=⟨_,rfl⟩;obtain⟨g7,b4⟩:∃q,g6+1=q:=⟨_,rfl⟩;rw[b3]at c1 Z Q ⊢;rw[aa]at Z Q ⊢;rw[b4]at Q ⊢;have z1:P.cell? ⟨g5,1,none⟩=some (S8 F):=(cell_of_row _ _ 1 _ _ _ c1).trans rfl;have z2:P.cell? ⟨g6,1,none⟩=some (S8 z):=(cell_of_row _ _ 1 _ _ _ Z).trans rfl;have z3:P.cell? ⟨g7,1,none⟩=some (S8 B):=(cell_of_row _ _ 1 _ _ _ Q).trans rfl;have y0:P.cell? ⟨g,0,none⟩=some x.src:=(cell_of_row _ _ 0 _ _ _ (ba.row av.out)).trans rfl;have X:Hid (Ext w P):=ba;have T:Hid (∀p A,Ext w p->p.heap[A]? = some (.cells #[S8 F,S8 z,S8 B] 9 (0,0))->Calls Tryz.prog 90 #[x.src,.slice (some ⟨A,0,none⟩) 3 3] p fun e O=>xU O p.heap.size (dG l [F,z,B]) e/\Ext p O):=fun p A hx S =>
  wK (HF.out.ext hx) (Row.new S (by omega) _ rfl) hl hs (by simp)
 obtain⟨BR,a9⟩:∃R,dG l [F,z,B]=R:=⟨_,rfl⟩;rw[a9]at T;have U:Hid _:=a9;clear L ba c1 Z Q b3 aa b4 a9
 cases BR with
 | error k =>
  have c5:k=7\/k=4:=oS U.out;have cq:Hid (R=.bad k):=by
   unfold Hid;rw[<-HR.out];unfold cj;rw[U.out]
  apply ak 17 [_,_,.pointer (some ⟨g,0,none⟩),x.src,_,S8 F,_,S8 z,_,S8 B,undef,.tuple #[.slice none 0 0,.int .i64 k],.tuple #[.slice none 0 0,.int .i64 k],.slice none 0 0,.int .i64 k,.slice none 0 0,.int .i64 k] [none,none,none,none,none,none,none,none,none,none,some (fun u p=>∃A,u=.slice (some ⟨A,0,none⟩) 3 3/\p.heap[A]? = some (.cells #[S8 F,S8 z,S8 B] 9 (0,0))),none,none,none,none,none,none] [[],[0],[1],[2],[],[4],[],[6],[],[8],[5,7,9],[3,10],[11],[12],[12],[13],[14]] (by kernel_rfl) (by kernel_rfl) (by simp[aq])
  .refine ⟨?_,trivial⟩
   .exact fun _ _ _ t ⟨A,h1,h2⟩=>⟨A,h1,t.row h2⟩
  .simp (maxSteps:=1000000)only[List.take_succ_cons,List.take_zero,ay,aB,af,Act.put,List.setIfInBounds_toArray,List.set_cons_zero,List.set_cons_succ,aE,aH,aq,List.getD_cons_zero,List.getD_cons_succ,and_true,true_and,forall_const];and_intros
   iterate 10 · intro o r j;intros;rename_i n;have f0:=j.cell y0;have f1:=j.cell z1;have f2:=j.cell z2;have f3:=j.cell z3;go_simp;exact n _ _ (Ext.refl _) rfl
   .intro o r j i R n;obtain⟨M,C,a'⟩:=i;go_simp;exact n _ _ ((Ext.refl _).alloc _) ⟨_,rfl,ah _ _⟩
   .intro o r j i R n;obtain⟨M,C⟩:=i;obtain⟨A,t,a7⟩:=C;go_simp;exact(T.out _ A (X.out.trans j) a7).mono (by rintro e' w8 ⟨S,E⟩;obtain rfl:e'=_:=S;exact⟨_,rfl,n _ _ E rfl⟩)
   iterate 5 · intro o r j;intros;rename_i n;have f0:=j.cell y0;have f1:=j.cell z1;have f2:=j.cell z2;have f3:=j.cell z3;go_simp;exact n _ _ (Ext.refl _) rfl
  intro o w2 D i;simp only[aG,Nat.zero_add,Nat.reduceAdd,and_true]at i;have G:=i.2.2.2.2.2.2.2.2.2.2.1;simp(maxSteps:=1000000)only[List.take_succ_cons,List.take_zero,List.drop_succ_cons,List.drop_zero,af,Act.put,List.setIfInBounds_toArray,List.set_cons_zero,List.set_cons_succ,Nat.zero_add,Nat.reduceAdd,i];clear i;generalize o 10=bk at *;have H:Hid (Ext w w2):=X.out.trans D;have dk:(k != 0)=true:=by rcases c5 with rfl | rfl <;> rfl
  clear y0 z1 z2 z3 D G;go_wp2_with fail;go_ret3;exact by rw[cq.out];exact⟨rfl,H.out⟩
 | ok d =>
  obtain⟨I,J,K,rfl,dn,dp,dq⟩:=yd U.out;apply ak 17 [_,_,.pointer (some ⟨g,0,none⟩),x.src,_,S8 F,_,S8 z,_,S8 B,undef,undef,undef,undef,.int .i64 0,undef,.int .i64 0] [none,none,none,none,none,none,none,none,none,none,some (fun u p=>∃A,u=.slice (some ⟨A,0,none⟩) 3 3/\p.heap[A]? = some (.cells #[S8 F,S8 z,S8 B] 9 (0,0))),some (fun u p=>∃v,u=.tuple #[v,.int .i64 0]/\OwBss p 0 v [I,J,K]),some (fun u p=>∃v,u=.tuple #[v,.int .i64 0]/\OwBss p 0 v [I,J,K]),some (fun u p=>OwBss p 0 u [I,J,K]),none,some (fun u p=>OwBss p 0 u [I,J,K]),none] [[],[0],[1],[2],[],[4],[],[6],[],[8],[5,7,9],[3,10],[11],[12],[12],[13],[14]] (by kernel_rfl) (by kernel_rfl) (by simp[aq])
  .refine ⟨?_,?_,?_,?_,?_,trivial⟩
   .exact fun _ _ _ t ⟨A,h1,h2⟩=>⟨A,h1,t.row h2⟩
   iterate 2
    .exact fun _ _ _ t ⟨v,h1,h2⟩=>⟨v,h1,h2.ext t⟩
   iterate 2
    .exact fun _ _ _ t h=>h.ext t
  .simp (maxSteps:=1000000)only[List.take_succ_cons,List.take_zero,ay,aB,af,Act.put,List.setIfInBounds_toArray,List.set_cons_zero,List.set_cons_succ,aE,aH,aq,List.getD_cons_zero,List.getD_cons_succ,and_true,true_and,forall_const];and_intros
   iterate 10 · intro o r j;intros;rename_i n;have f0:=j.cell y0;have f1:=j.cell z1;have f2:=j.cell z2;have f3:=j.cell z3;go_simp;exact n _ _ (Ext.refl _) rfl
   .intro o r j i R n;obtain⟨M,C,a'⟩:=i;go_simp;exact n _ _ ((Ext.refl _).alloc _) ⟨_,rfl,ah _ _⟩
   .intro o r j i R n;obtain⟨M,C⟩:=i;obtain⟨A,t,a7⟩:=C;go_simp;exact(T.out _ A (X.out.trans j) a7).mono (by rintro e' w8 ⟨S,E⟩;obtain⟨v,rfl,ho⟩:=S;exact⟨_,rfl,n _ _ E ⟨v,rfl,ho.mono (Nat.zero_le _)⟩⟩)
   .intro o r j i R n;go_simp;exact n _ _ (Ext.refl _) i
   .intro o r j i R n;obtain⟨v,t,hv⟩:=i;go_simp;exact n _ _ (Ext.refl _) hv
   .intro o r j i R n;obtain⟨v,t,hv⟩:=i;go_simp;exact n _ _ (Ext.refl _) rfl
   .intro o r j i R n;go_simp;exact n _ _ (Ext.refl _) i
   .intro o r j;intros;rename_i n;have f0:=j.cell y0;have f1:=j.cell z1;have f2:=j.cell z2;have f3:=j.cell z3;go_simp;exact n _ _ (Ext.refl _) rfl
  intro o w2 D i;simp only[aG,Nat.zero_add,Nat.reduceAdd,and_true]at i;have G:=i.2.2.2.2.2.2.2.2.2.2.1;have bc:=i.2.2.2.2.2.2.2.2.2.2.2.1;have c7:=i.2.2.2.2.2.2.2.2.2.2.2.2.1;have bh:=i.2.2.2.2.2.2.2.2.2.2.2.2.2.1;have cc:=i.2.2.2.2.2.2.2.2.2.2.2.2.2.2.2.1;simp(maxSteps:=1000000)only[List.take_succ_cons,List.take_zero,List.drop_succ_cons,List.drop_zero,af,Act.put,List.setIfInBounds_toArray,List.set_cons_zero,List.set_cons_succ,Nat.zero_add,Nat.reduceAdd,i];clear i;generalize o 10=bk at *;generalize o 11=c' at *;generalize o 12=d7 at *;generalize o 13=da at *;generalize o 15=d' at *;have H:Hid (Ext w w2):=X.out.trans D;have bo:Hid _:=cc;have u2:=D.cell z2;have u3:=D.cell z3;clear y0 z1 z2 z3 D G bc c7 bh cc;obtain⟨ra,rc,rfl,r1,r2,r3,ad⟩:=(OwBss.Ir bo.out (by simp)).get;obtain⟨bb,oo,u1,cx,b9,a4⟩:=ad 0 I rfl;cases cx;obtain⟨_,_,d5,c0,b',a5⟩:=ad 1 J rfl;cases c0;obtain⟨_,_,d6,c4,ca,a6⟩:=ad 2 K rfl;cases c4;obtain⟨e1,c1,rfl,-⟩:=id a4;obtain⟨e2,Z,rfl,-⟩:=id a5;obtain⟨e3,Q,rfl,-⟩:=id a6;have ce:Hid _:=a4;have cf:Hid _:=a5;have ci:Hid _:=a6;have v1:w2.cell? ⟨bb,oo,none⟩=some (.slice e1 I.length c1):=b9;have v2:w2.cell? ⟨bb,oo+1,none⟩=some (.slice e2 J.length Z):=b';have v3:w2.cell? ⟨bb,oo+2,none⟩=some (.slice e3 K.length Q):=ca;have a2:Hid (R=if z=B then .same else match dH I J K with
   | none=>.no
   | some m=>if 4096<m.length then .no else .made (bz (obB m)).1):=by
   unfold Hid;rw[<-HR.out];unfold cj;rw[U.out];rfl
  obtain⟨c,hc⟩:∃c,(z==B)=c:=⟨_,rfl⟩;have HC:Hid _:=hc;clear ad b9 b' ca a4 a5 a6 bo HR T
  cases c with
  | true =>
   have cu:Hid (R=.same):=by unfold Hid;rw[a2.out,if_pos (by simpa using HC.out)]
   go_wp2_with fail;go_ret3;exact by rw[cu.out];exact⟨rfl,H.out⟩
  | false =>
  have W:Hid (R=match dH I J K with
   | none=>.no
   | some m=>if 4096<m.length then .no else .made (bz (obB m)).1):=by unfold Hid;rw[a2.out,if_neg (by simpa using HC.out)]
  have a1:Hid (∀p,Ext w2 p->Calls Tryz.prog 91 #[.slice e1 I.length c1,.slice e2 J.length Z,.slice e3 K.length Q] p fun e O=>u9 O (dH I J K) e/\Ext p O):=fun p hx =>
   xr (HE.out.ext (H.out.trans hx)) (Row.ext ce.out hx) (Row.ext cf.out hx) (Row.ext ci.out hx) (by omega) (by omega) (by omega)
  obtain⟨MR,b8⟩:∃R,dH I J K=R:=⟨_,rfl⟩;rw[b8]at a1 W;clear b8 a2;have dc:(0:Int)<3:=by decide
  go_upto_region 6 with fail
  cases MR with
  | none =>
   apply ak 17 [_,.pointer (some ⟨bb,oo,none⟩),.slice e1 I.length c1,_,_,.slice e2 J.length Z,_,_,.slice e3 K.length Q,undef,undef,.slice none 0 0,.bool false,undef,.slice none 0 0,.bool false,undef] [none,none,none,none,none,none,none,none,none,some (fun u p=>∃k,u=.tuple #[.slice none 0 0,.bool false,.int .i64 k]),some (fun u p=>∃k,u=.tuple #[.slice none 0 0,.bool false,.int .i64 k]),none,none,some (fun u p=>∃k,u=.int .i64 k),none,none,some (fun u p=>∃k,u=.int .i64 k)] [[],[0],[1],[],[3],[4],[],[6],[7],[2,5,8],[9],[10],[10],[10],[11],[12],[13]] (by kernel_rfl) (by kernel_rfl) (by simp[aq])
   .refine ⟨?_,?_,?_,?_,trivial⟩
    iterate 4
     .exact fun _ _ _ t h=>h
   .simp (maxSteps:=1000000)only[List.take_succ_cons,List.take_zero,ay,aB,af,Act.put,List.setIfInBounds_toArray,List.set_cons_zero,List.set_cons_succ,aE,aH,aq,List.getD_cons_zero,List.getD_cons_succ,and_true,true_and,forall_const];and_intros
    iterate 9 · intro o r j;intros;rename_i n;have f1:=j.cell v1;have f2:=j.cell v2;have f3:=j.cell v3;go_simp;exact n _ _ (Ext.refl _) rfl
    .intro o r j i R n;obtain⟨M,C,a'⟩:=i;go_simp;exact(a1.out _ j).mono (by rintro e' w8 ⟨⟨k,rfl⟩,E⟩;exact⟨_,rfl,n _ _ E ⟨k,rfl⟩⟩)
    .intro o r j i R n;go_simp;exact n _ _ (Ext.refl _) i
    iterate 2
     .intro o r j i R n;obtain⟨k,t⟩:=i;go_simp;exact n _ _ (Ext.refl _) rfl
    .intro o r j i R n;obtain⟨k,t⟩:=i;go_simp;exact n _ _ (Ext.refl _) ⟨k,rfl⟩
    iterate 2 · intro o r j;intros;rename_i n;have f1:=j.cell v1;have f2:=j.cell v2;have f3:=j.cell v3;go_simp;exact n _ _ (Ext.refl _) rfl
    .intro o r j i R n;go_simp;exact n _ _ (Ext.refl _) i
   intro o w3 N i;simp only[aG,Nat.zero_add,Nat.reduceAdd,and_true]at i;have q9:=i.2.2.2.2.2.2.2.2.2.1;have G:=i.2.2.2.2.2.2.2.2.2.2.1;have bh:=i.2.2.2.2.2.2.2.2.2.2.2.2.2.1;have c9:=i.2.2.2.2.2.2.2.2.2.2.2.2.2.2.2.2;simp(maxSteps:=1000000)only[List.take_succ_cons,List.take_zero,List.drop_succ_cons,List.drop_zero,af,Act.put,List.setIfInBounds_toArray,List.set_cons_zero,List.set_cons_succ,Nat.zero_add,Nat.reduceAdd,i];clear i;generalize o 9=x9 at *;generalize o 10=bk at *;generalize o 13=da at *;generalize o 16=ea at *;have Y:Hid (Ext w w3):=H.out.trans N;clear v1 v2 v3 u2 u3 N q9 G bh c9;go_wp2_with fail;go_ret3;exact by rw[W.out];exact⟨rfl,Y.out⟩
  | some m =>
   apply ak 17 [_,.pointer (some ⟨bb,oo,none⟩),.slice e1 I.length c1,_,_,.slice e2 J.length Z,_,_,.slice e3 K.length Q,undef,undef,undef,.bool true,.int .i64 0,undef,.bool true,.int .i64 0] [none,none,none,none,none,none,none,none,none,some (fun u p=>∃a c,u=.tuple #[.slice a m.length c,.bool true,.int .i64 0]/\IsBytes p (.slice a m.length c) m),some (fun u p=>∃a c,u=.tuple #[.slice a m.length c,.bool true,.int .i64 0]/\IsBytes p (.slice a m.length c) m),some (fun u p=>∃a c,u=.slice a m.length c/\IsBytes p (.slice a m.length c) m),none,none,some (fun u p=>∃a c,u=.slice a m.length c/\IsBytes p (.slice a m.length c) m),none,none] [[],[0],[1],[],[3],[4],[],[6],[7],[2,5,8],[9],[10],[10],[10],[11],[12],[13]] (by kernel_rfl) (by kernel_rfl) (by simp[aq])
   .refine ⟨?_,?_,?_,?_,trivial⟩
    iterate 4
     .exact fun _ _ _ t ⟨a,c,h1,h2⟩=>⟨a,c,h1,Row.ext h2 t⟩
   .simp (maxSteps:=1000000)only[List.take_succ_cons,List.take_zero,ay,aB,af,Act.put,List.setIfInBounds_toArray,List.set_cons_zero,List.set_cons_succ,aE,aH,aq,List.getD_cons_zero,List.getD_cons_succ,and_true,true_and,forall_const];and_intros
    iterate 9 · intro o r j;intros;rename_i n;have f1:=j.cell v1;have f2:=j.cell v2;have f3:=j.cell v3;go_simp;exact n _ _ (Ext.refl _) rfl
    .intro o r j i R n;obtain⟨M,C,a'⟩:=i;go_simp;exact(a1.out _ j).mono (by rintro e' w8 ⟨⟨a,c,rfl,S,-⟩,E⟩;exact⟨_,rfl,n _ _ E ⟨a,c,rfl,S⟩⟩)
    .intro o r j i R n;go_simp;exact n _ _ (Ext.refl _) i
    .intro o r j i R n;obtain⟨a,c,t,S⟩:=i;go_simp;exact n _ _ (Ext.refl _) ⟨a,c,rfl,S⟩
    iterate 2
     .intro o r j i R n;obtain⟨a,c,t,S⟩:=i;go_simp;exact n _ _ (Ext.refl _) rfl
    .intro o r j i R n;go_simp;exact n _ _ (Ext.refl _) i
    iterate 2 · intro o r j;intros;rename_i n;have f1:=j.cell v1;have f2:=j.cell v2;have f3:=j.cell v3;go_simp;exact n _ _ (Ext.refl _) rfl
   intro o w3 N i;simp only[aG,Nat.zero_add,Nat.reduceAdd,and_true]at i;have q9:=i.2.2.2.2.2.2.2.2.2.1;have G:=i.2.2.2.2.2.2.2.2.2.2.1;have bc:=i.2.2.2.2.2.2.2.2.2.2.2.1;have c8:=i.2.2.2.2.2.2.2.2.2.2.2.2.2.2.1;simp(maxSteps:=1000000)only[List.take_succ_cons,List.take_zero,List.drop_succ_cons,List.drop_zero,af,Act.put,List.setIfInBounds_toArray,List.set_cons_zero,List.set_cons_succ,Nat.zero_add,Nat.reduceAdd,i];clear i;generalize o 9=x9 at *;generalize o 10=bk at *;generalize o 11=c' at *;generalize o 14=d9 at *;obtain⟨ma,mc,rfl,b5⟩:=c8;have Y:Hid (Ext w w3):=H.out.trans N;have cp:Hid (IsBytes w3 (.slice ma m.length mc) m):=b5;clear v1 v2 v3 u2 u3 N q9 G bc b5
   by_cases b6:(4096:Int)<(m.length:Int)
   case pos =>
    have cs:Hid (R=.no):=by unfold Hid;rw[W.out];dsimp only;rw[if_pos (by omega)]
    go_wp2_with fail;go_ret3;exact by rw[cs.out];exact⟨rfl,Y.out⟩
   have bp:Hid (R=.made (bz (obB m)).1):=by unfold Hid;rw[W.out];dsimp only;rw[if_neg (by omega)]
   obtain⟨xo,au⟩:∃q,(bz (obB m)).1=q:=⟨_,rfl⟩;have d4:xo.length<=5000:=by rw[<-au];exact tg m (by omega)
   go_wp2_with fail;go_at_call 92;refine(oD (obV (obB m) (.slice ma m.length mc) (.slice none 0 0) (.slice none 0 0)) (obB m) w3 ⟨_,_,_,rfl,cp.out,Row.nil _,Row.nil _⟩ ⟨fun s hs=>(by cases hs),fun s hs=>(by cases hs),Nat.zero_le _,Nat.zero_le _⟩).mono ?_;rw[au];rw[au]at bp;rintro e w4 ⟨⟨u,rfl,ab⟩,cb⟩;obtain⟨f,hf,rfl⟩:=D6 ab;have b1:Hid (Ext w w4):=Y.out.trans cb;have bs:Hid (IsBytes w4 (mdV f) xo):=Row.GW ab (by omega);have cv:Hid (TypB w4 (mdV f)):=TypB.GW ab;have cm:Hid (f.data=xo):=hf;clear au ab cb hf b6;go_wp2_with fail;go_at_call 93;refine(DT _ xo w4 (cl.out.ext b1.out) bs.out (by omega)).mono ?_;obtain⟨sx,ag⟩:∃s,aC xo=s:=⟨_,rfl⟩;have d0:sx.length<=1000:=by rw[<-ag];exact Nat.le_trans (Nat.le_of_eq (np xo)) (by decide)
   rw[ag];have bq:Hid _:=ag;clear ag;rintro e w5 ⟨rfl,ao⟩;have a3:Hid (Ext w w5):=b1.out.trans ao;have bv:Hid (IsBytes w5 (mdV f) xo):=Row.ext bs.out ao;have b0:Hid (TypB w5 (mdV f)):=TypB.keep cv.out (KeepB.GX ao);have co:Hid (IsMG mdV w5 x.gm md):=HM.out.ext a3.out;have y6:w5.cell? ⟨g,6,none⟩=some (.map (some x.gm)):=(cell_of_row _ _ 6 _ _ _ (a3.out.row av.out)).trans rfl;clear ao
   go_wp2_with (refine kK 61 52 Tryz.underlying61 rfl (.tmp 76) (.tmp 77) (.tmp 78) rfl (V:=mdV) (b:=x.gm) (l:=md) co.out (by omega) rfl sx (by omega) rfl f rfl ?_;intro w6 c6 aa)
   go_ret3;rw[bp.out];refine⟨by rw[bq.out];rfl,w5,f,a3.out,aa,cm.out,bv.out,b0.out,?_⟩;rw[bq.out];exact c6
end
section
open Go Go.RowKit Go.Sort
def fiD (x:B8):Fi:=⟨0,x,0⟩
def cy (md:ae):ae:=md.map fun e=>(e.1,fiD e.2.data)
def cA (l:List B8) (o a b:ae) (s:Mg×ae) (p:B8):Except Int (Mg×ae) :=
 if(al (enL o p) (enL a p) (enL b p)).2=3 then match cj l (enL o p).2 (enL a p).2 (enL b p).2 with
  | .bad k=>.error k
  | .no=>.ok (dC s.1 p (enL a p) (enL b p),s.2)
  | .same=>.ok (⟨aF s.1.out p (fiE ((al (enL o p) (enL a p) (enL b p)).1.1,(enL a p).2)),s.1.GV,s.1.notes⟩,s.2)
  | .made x=>.ok (⟨aF s.1.out p (fiE ((al (enL o p) (enL a p) (enL b p)).1.1,aC x)),s.1.GV,s.1.notes⟩,aF s.2 (aC x) (fiD x))
 else .ok (aU o a b s.1 p,s.2)
theorem CJ (md:ae) (p:B8):cy (bu md p)=bu (cy md) p:=by
 unfold cy bu;rw[List.filter_map];rfl
theorem vJ (e:B8×Fi):∀a:ae,cy (dN e a)=dN (e.1,fiD e.2.data) (cy a)
 | []=>rfl
 | d::a=>by
  unfold cy;rw[List.map_cons];unfold dN;dsimp only;split
  .rfl
  .rw [List.map_cons];have:=vJ e a;unfold cy at this;rw[this]
theorem CK (md:ae) (p:B8) (f:Fi):cy (aF md p f)=aF (cy md) p (fiD f.data):=by
 unfold aF;rw[vJ,CJ]
theorem IsMer.IC {w p w':World} {g B:Nat} {x:MB} {G H:Value} {o a b:ae} {s:Mg} {id:B8} {f:Fi} (h:IsMer w g B x G H o a b s) (F:Ext w p) (j:p.grownBy w' (some x.gm)) (t:IsMG mdV w' x.gm (aF x.md id f)) (J:IsBytes p (mdV f) f.data) (E:TypB p (mdV f)) :
  IsMer w' g B { x with md:=aF x.md id f } G H o a b s/\FrM B w w':=by
 have c:=h.ext F;have n:∃z y,p.heap[x.gm]? = some (.map z y):=c.mm.kind;have d:KeepB p w':=⟨j.size,fun q r=>j.block q r.lt (fun e=>c.mm.Hu (by cases e;exact r))⟩;have u:∀ {V:Fi->Value} {k:Nat} {l:ae},IsMG V p k l->k≠x.gm->IsMG V w' k l:=fun {V k l} n C=>n.stay (j.block k n.lt (by simpa using C))
 have A:g≠x.gm:=by
  obtain⟨z,y,t⟩:=n;intro i;have:=c.row;rw[i,t]at this;cases this
 refine⟨⟨bI j c.row A,u c.mo c.nm.2.1,u c.ma c.nm.2.2.1,u c.mb c.nm.2.2.2,u c.G7 (fun e=>c.ne.2.2.2 e.symm),t,fun e i=>?_,jp c.cp j n,jp c.nt j n,c.lo,c.ne,c.G2,c.nm⟩,(FrM.GX F).trans (FrM.G1 j (fun q r=>by cases r;exact c.nm.1) (fun q r K L i=>?_))⟩
 .rcases cG i with rfl | ⟨i,-⟩
  .exact ⟨Row.G' J E d,TypB.keep E d⟩
  .obtain ⟨I,D⟩:=c.Hk e i;exact⟨Row.G' I D d,TypB.keep D d⟩
 .cases r;obtain⟨z,y,t⟩:=n
  rw[t]at i;cases i
end
section
open Go Go.RowKit Go.Sort
def BK (w w':World) (g B:Nat) (x:MB) (o a b:ae):Except Int (Mg×ae)->Ending->Prop
 | .error k,e=>e=.returned (.int .i64 k)/\FrM B w w'
 | .ok y,e=>e=.returned (.int .i64 0)/\(∃c d h,IsMer w' g B { x with md:=c } d h o a b y.1/\cy c=y.2)/\FrM B w w'
variable {l:List B8}
theorem rO {o a b:B8} {k:Int} (h:cj l o a b=.bad k):k=7\/k=4:=by
 unfold cj at h;split at h
 .rename_i e c;cases h;exact oS c
 .split at h
  .cases h
  .split at h
   .cases h
   .split at h <;> cases h
variable {w:World} {g B:Nat} {x:MB} {vc vn:Value} {o a b:ae} {s:Mg}
theorem IsMer.Is {w':World} {q:Nat} {cs:Array Value} (h:IsMer w g B x vc vn o a b s) (j:w.grownBy w' (some q)) (p:w.heap[q]? = some (.cells cs 41 (0,0))) (z:B<=q):IsMer w' g B x vc vn o a b s/\FrM B w w':=by
 have u:∀k,some q=some k->∃c,w.heap[k]? = some (.cells c 41 (0,0)):=fun k d=>by cases d;exact⟨_,p⟩
 have n:∀ {V:Fi->Value} {k:Nat} {l:ae},IsMG V w k l->IsMG V w' k l:=fun d=>jo d j u
 have y:∀ {t:TypeId},t≠41->∀k,some q=some k->∀c,w.heap[k]?≠some (.cells c t (0,0)):=fun r k d c i=>by
  cases d;rw[p]at i
  simp only[Option.some.injEq,Obj.cells.injEq]at i;exact r i.2.1.symm
 refine⟨⟨bI j h.row (fun e=>?_),n h.mo,n h.ma,n h.mb,n h.G7,n h.mm,h.Hk.keep (hZ j u (by kernel_rfl)),cH h.cp j (y (by decide)),cH h.nt j (y (by decide)),h.lo,h.ne,h.G2,h.nm⟩,FrM.G1 j (fun k d=>by cases d;exact z) (fun k d cs A i=>?_)⟩
 .have:=h.row;rw[e,p]at this;simp at this
 .cases d;rw[p]at i
  simp at i
theorem rD {o a b:En} (h:(al o a b).2=3):al o a b=((dg o a b,[]),3):=by
 unfold al at h ⊢;split at h
 .cases h
 .split at h
  .cases h
  .split at h
   .cases h
   .split at h
    .cases h
    .split at h
     .cases h
     .split at h
      .rename_i c d e i j k;rw[if_neg c,if_neg d,if_neg e,if_neg i,if_neg j,if_pos k]
      .cases h
theorem xA [Inhabited br] (p:B8) (h:IsMer w g B x vc vn o a b s) (hE:Env w) (a9:EnvS w) (hF:IsSrcF w x.src l false) (ci:l.length<=100000) (cm:∀y∈l,y.length<=10000000) (co:x.md.length<=100000) (hB:B<=w.heap.size) (hp:p.length<=100000) (ho:s.out.length<=1000000) (hc:s.GV.length<=1000000) (hn:s.notes.length<=1000000) (E:(al (enL o p) (enL a p) (enL b p)).2=3) :
  Calls Tryz.prog 45 #[.pointer (some ⟨g,0,none⟩),S8 p] w fun e w'=>BK w w' g B x o a b (cA l o a b (s,cy x.md) p) e:=by
 obtain⟨R,C⟩:∃R,cA l o a b (s,cy x.md) p=R:=⟨_,rfl⟩;have HR:Hid _:=C;rw[C];have HE:Hid _:=hE;have b2:Hid _:=a9;have HF:Hid _:=hF;clear C hE a9 hF;have H:Hid (IsMer w g B x vc vn o a b s):=h;have L1:Hid (∀W,Ext w W->∀(m:ae) (k:Nat),IsMG bn W k m->(Instr.lookup 59 (.map (some k)) (S8 p) false).run Tryz.prog W=.ok (.agg #[.int .i64 (enL m p).1,S8 (enL m p).2]) W):=fun W hW m k hm=>by
  obtain⟨-,cf⟩:=hm.Hd 59 41 _ Tryz.underlying59 (oN W) p (by omega)
  rwa [lV]at cf
 obtain⟨⟨om,oi⟩,h1⟩:∃q,enL o p=q:=⟨_,rfl⟩;obtain⟨⟨N,F⟩,h2⟩:∃q,enL a p=q:=⟨_,rfl⟩;obtain⟨⟨O,K⟩,h3⟩:∃q,enL b p=q:=⟨_,rfl⟩;rw[h1,h2,h3]at E;have HK:Hid _:=E;have J:Hid (R=match cj l oi F K with
  | .bad k=>.error k
  | .no=>.ok (dC s p (N,F) (O,K),cy x.md)
  | .same=>.ok (⟨aF s.out p (fiE (dg (om,oi) (N,F) (O,K),F)),s.GV,s.notes⟩,cy x.md)
  | .made y=>.ok (⟨aF s.out p (fiE (dg (om,oi) (N,F) (O,K),aC y)),s.GV,s.notes⟩,aF (cy x.md) (aC y) (fiD y))):=by
  unfold Hid;rw[<-HR.out];unfold cA;rw[h1,h2,h3,if_pos E,rD E]
 have LO:Hid (∀W,Ext w W->(Instr.lookup 59 (.map (some x.go)) (S8 p) false).run Tryz.prog W=.ok (.agg #[.int .i64 om,S8 oi]) W):=fun W hW=>by have:=L1.out W hW o x.go (H.out.mo.ext hW);rwa [h1]at this
 have LA:Hid (∀W,Ext w W->(Instr.lookup 59 (.map (some x.ga)) (S8 p) false).run Tryz.prog W=.ok (.agg #[.int .i64 N,S8 F]) W):=fun W hW=>by have:=L1.out W hW a x.ga (H.out.ma.ext hW);rwa [h2]at this
 have LB:Hid (∀W,Ext w W->(Instr.lookup 59 (.map (some x.gb)) (S8 p) false).run Tryz.prog W=.ok (.agg #[.int .i64 O,S8 K]) W):=fun W hW=>by have:=L1.out W hW b x.gb (H.out.mb.ext hW);rwa [h3]at this
 clear h E h1 h2 h3;go_enter Tryz.func45,Tryz.ntmps45;have y1:=H.out.f0;have y2:=H.out.f1;have y3:=H.out.f2;go_upto_region 1 with fail;apply bJ 24 (fun z w'=>T3 w (p3 #[.int .i64 om,S8 oi] #[.int .i64 N,S8 F] #[.int .i64 O,S8 K] #[]) (p3 (z 18) (z 19) (z 20) none) (p3 (z 21) (z 22) (z 23) none) w') [false,false,false,false,false,false,false,false,false,false,false,false,false,false,false,false,false,false,true,true,true,true,true,true] [.pointer (some ⟨g,0,none⟩),.pointer (some ⟨g,0,none⟩),.pointer (some ⟨g,1,none⟩),.map (some x.go),S8 p,.agg #[.int .i64 om,S8 oi],.pointer (some ⟨g,0,none⟩),.pointer (some ⟨g,0,none⟩),.pointer (some ⟨g,2,none⟩),.map (some x.ga),S8 p,.agg #[.int .i64 N,S8 F],.pointer (some ⟨g,0,none⟩),.pointer (some ⟨g,0,none⟩),.pointer (some ⟨g,3,none⟩),.map (some x.gb),S8 p,.agg #[.int .i64 O,S8 K],undef,undef,undef,undef,undef,undef] [none,none,none,none,none,none,none,none,none,none,none,none,none,none,none,none,none,none,none,none,none,none,none,none] [[],[0],[1],[2],[],[3,4],[],[6],[7],[8],[],[9,10],[],[12],[13],[14],[],[15,16],[],[],[],[5,18],[11,19],[17,20]] (by kernel_rfl) (by kernel_rfl) rfl
 .exact T3.start ⟨rfl,rfl,rfl,Nat.le_refl _,fun _ _=>rfl⟩ (fun i=>by match i with | 0=>rfl | 1=>rfl | 2=>rfl | _+3=>rfl) (fun i=>by match i with | 0=>rfl | 1=>rfl | 2=>rfl | _+3=>rfl)
 .simp (maxSteps:=1000000)only[fC,eR,dm,dM,eG,List.getD_cons_zero,List.getD_cons_succ,Bool.false_eq_true,if_false,if_true,and_true,true_and,forall_const,Nat.zero_add,Nat.reduceAdd,List.take_succ_cons,List.take_zero,af,Act.put,List.setIfInBounds_toArray,List.set_cons_zero,List.set_cons_succ];and_intros
  iterate 18 · intro G z wq D;intros;rename_i C;have k1:=D.ext.cell y1;have k2:=D.ext.cell y2;have k3:=D.ext.cell y3;have k4:=LO.out _ D.ext;have k5:=LA.out _ D.ext;have k6:=LB.out _ D.ext;go_simp;exact C _ _ D rfl
  .intro G z wq D hz R C;go_simp;exact C _ _ (D.G8 0 hz (gz _ _ _ _ _))
  .intro G z wq D hz R C;go_simp;exact C _ _ (D.G8 1 hz (ib _ _ _ _ _))
  .intro G z wq D hz R C;go_simp;exact C _ _ (D.G8 2 hz (ie _ _ _ _ _))
  .intro G z wq D hz E R C;obtain⟨S,U⟩:=E;obtain⟨g,hg,j,Q⟩:=D.G9 0 U hz;apply bY 41 (.tmp 5) (.tmp 18) (g:=g) (cells:=#[.int .i64 om,S8 oi]) (old:=#[.int .i64 0,S8 []]) (t:=41)
   iterate 2
    .rfl
   .exact hg
   .exact S
   .exact j
   .exact aJ
   .rfl
   .simp [Value.oneCell']
   .exact C _ _ (Q _ _ (gz _ _ _ _ _))
  .intro G z wq D hz E R C;obtain⟨S,U⟩:=E;obtain⟨g,hg,j,Q⟩:=D.G9 1 U hz;apply bY 41 (.tmp 6) (.tmp 24) (g:=g) (cells:=#[.int .i64 N,S8 F]) (old:=#[.int .i64 0,S8 []]) (t:=41)
   iterate 2
    .rfl
   .exact hg
   .exact S
   .exact j
   .exact aJ
   .rfl
   .simp [Value.oneCell']
   .exact C _ _ (Q _ _ (ib _ _ _ _ _))
  .intro G z wq D hz E R C;obtain⟨S,U⟩:=E;obtain⟨g,hg,j,Q⟩:=D.G9 2 U hz;apply bY 41 (.tmp 7) (.tmp 30) (g:=g) (cells:=#[.int .i64 O,S8 K]) (old:=#[.int .i64 0,S8 []]) (t:=41)
   iterate 2
    .rfl
   .exact hg
   .exact S
   .exact j
   .exact aJ
   .rfl
   .simp [Value.oneCell']
   .exact C _ _ (Q _ _ (ie _ _ _ _ _))
 intro G w2 L E;simp only[fE,List.getD_cons_zero,List.getD_cons_succ,Bool.false_eq_true,if_false,if_true]at L;simp only[df,Nat.zero_add,Nat.reduceAdd,and_true]at E;simp(maxSteps:=1000000)only[List.drop_succ_cons,List.drop_zero,Nat.zero_add,Nat.reduceAdd,List.take_succ_cons,List.take_zero,af,Act.put,List.setIfInBounds_toArray,List.set_cons_zero,List.set_cons_succ,E];clear E;generalize G 18=cx at *;generalize G 19=c0 at *;generalize G 20=c1 at *;generalize G 21=c2 at *;generalize G 22=c3 at *;generalize G 23=c4 at *;obtain⟨g5,e5,b',h5⟩:=L.fit 0 _ rfl;obtain⟨g6,e6,ca,h6⟩:=L.fit 1 _ rfl;obtain⟨g7,e7,cb,h7⟩:=L.fit 2 _ rfl;subst e5 e6 e7;rw[if_neg (by simp[p3])]at h5 h6 h7;have h5:w2.heap[g5]? = some (.cells #[.int .i64 om,S8 oi] 41 (0,0)):=h5;have h6:w2.heap[g6]? = some (.cells #[.int .i64 N,S8 F] 41 (0,0)):=h6;have h7:w2.heap[g7]? = some (.cells #[.int .i64 O,S8 K] 41 (0,0)):=h7;have b9:Hid (Ext w w2):=L.ext;have H5:Hid _:=h5;have H6:Hid _:=h6;have H7:Hid _:=h7;have e0:=(cell_of_row _ _ 0 _ _ _ h5).trans rfl;have e1:=(cell_of_row _ _ 1 _ _ _ h5).trans rfl;have f0:=(cell_of_row _ _ 0 _ _ _ h6).trans rfl;have f1:=(cell_of_row _ _ 1 _ _ _ h6).trans rfl;have u0:=(cell_of_row _ _ 0 _ _ _ h7).trans rfl;have u1:=(cell_of_row _ _ 1 _ _ _ h7).trans rfl;clear L h5 h6 h7 b' ca cb y1 y2 y3;go_wp2_with fail;go_at_call 19;refine(lu om N O oi F K w2 HK.out).mono ?_;obtain⟨M,hM⟩:∃M,dg (om,oi) (N,F) (O,K)=M:=⟨_,rfl⟩;have b6:Hid (M=1\/M=2):=by unfold Hid;rw[<-hM];unfold dg;split <;> simp
 rw[hM];rw[hM]at J;unfold iR;dsimp only;rintro e w3 ⟨rfl,X⟩;have a7:Hid (Ext w w3):=b9.out.trans X;have B6:Hid _:=X.row H6.out;have B7:Hid _:=X.row H7.out;have B5:Hid _:=X.row H5.out;clear X hM e0 e1 f0 f1 u0 u1;go_upto_region 3 with fail;obtain⟨w4,ab⟩:∃w4,w4=w3.alloc (.cells #[.int .i64 M,S8 []] 41):=⟨_,rfl⟩;have Y:Ext w3 w4:=by rw[ab];exact(Ext.refl _).alloc _
 have av:w4.heap[w3.heap.size]? = some (.cells #[.int .i64 M,S8 []] 41 (0,0)):=by rw[ab];exact ah _ _
 have c:Hid (Ext w w4):=a7.out.trans Y;rw[<-ab];have P:B<=w3.heap.size:=Nat.le_trans hB a7.out.size;obtain⟨ge,bc⟩:∃k,w3.heap.size=k:=⟨_,rfl⟩;rw[bc]at av P ⊢;have ao:Hid _:=av;have b5:Hid (B<=ge):=P;have C6:Hid _:=Y.row B6.out;have C7:Hid _:=Y.row B7.out;have q5:=Y.row B5.out;have q6:=C6.out;have q7:=C7.out;obtain⟨e0,e1⟩:=cZ q5;obtain⟨f0,f1⟩:=cZ q6;obtain⟨u0,u1⟩:=cZ q7;have cc:B<=w4.heap.size:=Nat.le_trans hB c.out.size;clear ab Y av bc P q5 q6 q7 B5 B6 B7;go_wp2_with fail;go_at_call 65;refine(zN (HE.out.ext c.out) (b2.out.ext c.out) (c.out.row H.out.row) (HF.out.ext c.out) (H.out.mm.ext c.out) ci cm co).mono ?_;obtain⟨T,hT⟩:∃T,cj l oi F K=T:=⟨_,rfl⟩;rw[hT];rw[hT]at J;have HT:Hid _:=hT;clear hT e0 e1 f0 f1 u0 u1;rintro e w5 ht;cases T
 case bad k =>
  obtain⟨rfl,d⟩:=ht;have cs:(k != 0)=true:=by rcases rO HT.out with rfl | rfl <;> rfl
  have aa:Hid (Ext w w5):=c.out.trans d;clear d;go_wp2_with fail;go_ret;rw[J.out];exact⟨rfl,FrM.GX aa.out⟩
 case no =>
  obtain⟨rfl,d⟩:=ht;have aa:Hid (Ext w w5):=c.out.trans d;obtain⟨f0,f1⟩:=cZ (d.row C6.out);obtain⟨u0,u1⟩:=cZ (d.row C7.out);have ce:B<=w5.heap.size:=Nat.le_trans cc d.size;clear d;go_wp2_with fail;go_at_call 66;refine(nB p N O F K (H.out.ext aa.out) ce hp ho hc hn).mono ?_;rintro e w6 ⟨rfl,bo,a'⟩;have b7:Hid _:=bo;have b3:Hid _:=a';clear bo a' f0 f1 u0 u1;go_wp2;go_ret;rw[J.out];obtain⟨cp,cq,hm⟩:=b7.out;exact⟨rfl,⟨x.md,cp,cq,hm,rfl⟩,(FrM.GX aa.out).trans b3.out⟩
 case' same =>
  obtain⟨rfl,d⟩:=ht;obtain⟨wz,rfl⟩:∃wz:World,wz=w5:=⟨_,rfl⟩;obtain⟨A,r⟩:∃A,A=x.md:=⟨_,rfl⟩;obtain⟨u,n⟩:∃u,u=F:=⟨_,rfl⟩;have a5:Hid (IsMer wz g B { x with md:=A } vc vn o a b s):=by rw[r];exact H.out.ext (c.out.trans d)
  have a3:Hid (FrM B w wz):=FrM.GX (c.out.trans d);have au:Hid (wz.heap[ge]? = some (.cells #[.int .i64 M,S8 []] 41 (0,0))):=d.row ao.out;have a6:Hid (R=.ok (⟨aF s.out p ⟨M,u,0⟩,s.GV,s.notes⟩,cy A)):=by unfold Hid;rw[J.out,r,n];rfl
  rw[<-n];clear d r n
 case' made y =>
  obtain⟨rfl,w9,f,Z,a1,a0,ba,bb,bp⟩:=ht;obtain⟨wz,rfl⟩:∃wz:World,wz=w5:=⟨_,rfl⟩;obtain⟨A,r⟩:∃A,A=aF x.md (aC y) f:=⟨_,rfl⟩;obtain⟨u,n⟩:∃u,u=aC y:=⟨_,rfl⟩;obtain⟨bv,b0⟩:=(H.out.ext c.out).IC Z a1 bp (by rw[a0];exact ba) bb;have a5:Hid (IsMer wz g B { x with md:=A } vc vn o a b s):=by rw[r];exact bv
  have a3:Hid (FrM B w wz):=(FrM.GX c.out).trans b0;have au:Hid (wz.heap[ge]? = some (.cells #[.int .i64 M,S8 []] 41 (0,0))):=bI a1 (Z.row ao.out) (fun e=>by
   obtain⟨es,cl,hm⟩:=(H.out.ext (c.out.trans Z)).mm.kind;have h9:=Z.row ao.out;rw[e,hm]at h9
   cases h9)
  have a6:Hid (R=.ok (⟨aF s.out p ⟨M,u,0⟩,s.GV,s.notes⟩,cy A)):=by unfold Hid;rw[J.out,r,n,CK,a0];rfl
  rw[<-n];clear Z a1 a0 ba bb bp r n bv b0
 all_goals
  have cu:(M != 0)=true:=by rcases b6.out with h | h <;> rw[h] <;> rfl
  go_upto_region 17 with(refine aP rfl 9 (.tmp 61) (.tmp 60) rfl ge 1 rfl (S8 u) rfl rfl _ #[.int .i64 M,S8 []] au.out (by show 2<=2;decide) (by kernel_rfl) #[.int .i64 M,S8 u] rfl ?_;intro wq bh ag);obtain⟨bq,bs⟩:=a5.out.Is ag au.out b5.out;have a4:Hid _:=bq;have b4:Hid (FrM B w wq):=a3.out.trans bs;obtain⟨e0,e1⟩:=cZ bh;have y4:=a4.out.f4;clear bq bs bh ag;go_upto_region 18 with fail;apply ak 6 [.pointer (some ⟨g,0,none⟩),.pointer (some ⟨g,0,none⟩),.pointer (some ⟨g,4,none⟩),.map (some x.G6),S8 p,.agg #[.int .i64 M,S8 u]] [none,none,none,none,none,none] [[],[0],[1],[2],[],[]] (by kernel_rfl) (by kernel_rfl) (by simp[aq])
  .trivial
  .simp (maxSteps:=1000000)only[List.take_succ_cons,List.take_zero,ay,aB,af,Act.put,List.setIfInBounds_toArray,List.set_cons_zero,List.set_cons_succ,aE,aH,aq,List.getD_cons_zero,List.getD_cons_succ,and_true,true_and,forall_const];and_intros
   iterate 6 · intro G wq hq;intros;rename_i C;have k1:=hq.cell y4;have k2:=hq.cell e0;have k3:=hq.cell e1;go_simp;exact C _ _ (Ext.refl _) rfl
  intro G b1 V E;simp only[aG,Nat.zero_add,Nat.reduceAdd,and_true]at E;simp(maxSteps:=1000000)only[List.take_succ_cons,List.take_zero,List.drop_succ_cons,List.drop_zero,af,Act.put,List.setIfInBounds_toArray,List.set_cons_zero,List.set_cons_succ,Nat.zero_add,Nat.reduceAdd,E];clear E;have I:Hid _:=a4.out.ext V;have a2:Hid (FrM B w b1):=b4.out.trans (FrM.GX V);have b8:Hid (IsMG bn b1 x.G6 s.out):=I.out.G7;clear V y4 e0 e1
  go_wp2_with (refine kK 59 41 Tryz.underlying59 rfl _ _ _ rfl b8.out (by omega) rfl p (by omega) rfl ⟨M,u,0⟩ rfl ?_;intro cv bk ad)
  go_ret;rw[a6.out];exact⟨rfl,⟨A,_,_,I.out.Hg ad bk (I.out.G2.put _ _),rfl⟩,a2.out.trans (I.out.Hf ad)⟩
end
end Go.Proofs.YtgfegpnmlkdjfaaGreatDoor
