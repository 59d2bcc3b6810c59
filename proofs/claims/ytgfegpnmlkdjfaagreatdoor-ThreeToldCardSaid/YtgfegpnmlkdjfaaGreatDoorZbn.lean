/- Contracts of the program's functions and plain laws behind the card. Conditions: as each theorem states. -/
import Derived.Test.YtgfegpnmlkdjfaaGreatDoorZbk
import Derived.Test.YtgfegpnmlkdjfaaGreatDoorZbb
import Derived.Test.YtgfegpnmlkdjfaaGreatDoorZbg
import Derived.Test.YtgfegpnmlkdjfaaGreatDoorZay
import Derived.Test.YtgfegpnmlkdjfaaGreatDoorZbm
import Derived.Test.YtgfegpnmlkdjfaaGreatDoorZar
import Derived.Test.YtgfegpnmlkdjfaaGreatDoorZbl
import Derived.Test.YtgfegpnmlkdjfaaGreatDoorZaz
import Derived.Test.YtgfegpnmlkdjfaaGreatDoorZbf
import Derived.Test.YtgfegpnmlkdjfaaGreatDoorZae
import Derived.Test.YtgfegpnmlkdjfaaGreatDoorZao
import Derived.Test.YtgfegpnmlkdjfaaGreatDoorZbc
set_option linter.unusedVariables false
set_option linter.unusedSimpArgs false
set_option linter.unusedSectionVars false
set_option maxRecDepth 100000
set_option maxHeartbeats 64000000
namespace Go.Proofs.YtgfegpnmlkdjfaaGreatDoor
section
open Go Go.RowKit Go.Sort
theorem pR (c:List UInt8) (b:Nat):∀(k:Nat) (s:List UInt8),∀x∈Lib.splitK c b k s,x.length<=s.length
 | 0,s,x,a=>by
  unfold Lib.splitK at a;obtain rfl:=List.mem_singleton.1 a;exact Nat.le_refl _
 | k+1,s,x,a=>by
  unfold Lib.splitK at a;split at a
  .obtain rfl:=List.mem_singleton.1 a;exact Nat.le_refl _
  .rcases List.mem_cons.1 a with rfl | a
   .rw [List.length_take];omega
   .have:=pR c b k _ x a;rw[List.length_drop]at this;omega
theorem lj (s x:B8) (a:x∈aS s):x.length<=s.length:=by
 have b:x∈eE s:=by
  rw[nI]at a;unfold ns at a;split at a
  .exact List.dropLast_subset _ a
  .exact a
 unfold eE at b;rw[Lib.splitB_data]at b;exact pR _ _ _ _ x b
def iP (m:Nat) (l:List Ck):Prop:=∀c∈l,∀x,(x∈c.o\/x∈c.a\/x∈c.b)->x.length<=m
def eZ (m:Nat) (l:List B8):Prop:=∀x∈l,x.length<=m
theorem oe {l:List B8} {i j:Nat} {x:B8} (h:x∈bQ l i j):x∈l:=List.mem_of_mem_drop (List.mem_of_mem_take h)
variable {m:Nat} {o a b:List B8}
theorem vf {w:Wk} (h:iP m w.out) (n:eZ m o) (g:eZ m a) (l:eZ m b) (i j k:Nat):iP m (toW o a b w i j k).out:=by
 unfold toW;dsimp only;split
 .intro c d;rcases List.mem_append.1 d with d | d
  .exact h c d
  .obtain rfl:=List.mem_singleton.1 d;rintro x (e | e | e)
   .exact n x (oe e)
   .exact g x (oe e)
   .exact l x (oe e)
 .exact h
theorem lP {m:Nat} {x:B8} (p:x.length<=m):∀ {l:List Ck},iP m l->iP m (bC l x)
 | [],h=>fun c i=>by cases i
 | [d],h=>fun c i=>by
  obtain rfl:=List.mem_singleton.1 i;have n:=h d List.mem_cons_self;have j:∀l:List B8,(∀y∈l,y.length<=m)->∀y∈l++[x],y.length<=m:=fun l q y g=>by
   rcases List.mem_append.1 g with g | g
   .exact q y g
   .obtain rfl:=List.mem_singleton.1 g;exact p
  rintro y (g | g | g)
  .exact j d.o (fun z k=>n z (.inl k)) y g
  .exact j d.a (fun z k=>n z (.inr (.inl k))) y g
  .exact j d.b (fun z k=>n z (.inr (.inr k))) y g
 | d::e::l,h=>fun c i=>by
  unfold bC at i;rcases List.mem_cons.1 i with rfl | i
  .exact h c List.mem_cons_self
  .exact lP p (fun y g=>h y (List.mem_cons_of_mem _ g)) c i
theorem sX {l:List Ck} (h:iP m l):iP m (l++[⟨1,[],[],[]⟩]):=fun c d=>by
 rcases List.mem_append.1 d with d | d
 .exact h c d
 .obtain rfl:=List.mem_singleton.1 d;rintro x (e | e | e) <;> cases e
theorem tB (h:eZ m o) (i:Nat):(o.getD i []).length<=m:=by
 rw[List.getD_eq_getElem?_getD]
 cases c:o[i]? with
 | none=>exact Nat.zero_le _
 | some x=>exact h x (List.mem_of_getElem? c)
theorem yf {p q:List Int} {s:Wk×Bool} (h:iP m s.1.out) (c:eZ m o) (d:eZ m a) (e:eZ m b) (n:Nat):iP m (dV o a b p q s n).1.out:=by
 unfold dV;split
 .exact h
 .split
  .exact lP (tB c _) (sX (vf h c d e _ _ _))
  .show iP m (bC _ _);refine lP (tB c _) ?_;split
   .exact h
   .exact sX h
theorem oT (h:eZ m o) (e:eZ m a) (g:eZ m b) (q:o.length<=200) (l:a.length<=200) (p:b.length<=200) :
  iP m (dB o a b)/\fR 1200 (dB o a b)/\(dB o a b).length<=401:=by
 have i:∀n,iP m (ck o a b n).1.out:=by
  intro n
  induction n with
  | zero=>intro c d;cases d
  | succ n r=>rw[ju];exact yf r h e g n
 obtain⟨j,k⟩:=kW o a b (by omega) (by omega) (by omega) o.length (Nat.le_refl _);unfold dB;refine⟨vf (i _) h e g _ _ _,qr (fun c d=>?_) (by omega) (by omega) (by omega) _ _ _,?_⟩
 .have:=k c d;omega
 .have:=qO o a b (ck o a b o.length).1 o.length a.length b.length;have:=j.len;omega
theorem tH {m:Nat}:∀ {l:List Ck} {x:List B8},iP m l->fR 1200 l->gP l=some x->x.length<=l.length*1200/\eZ m x
 | [],x,k,n,h=>by
  cases h;exact⟨Nat.zero_le _,fun y j=>by cases j⟩
 | c::l,x,k,n,h=>by
  unfold gP at h
  cases e:eI c with
  | none=>rw[e]at h;cases h
  | some y =>
   rw[e]at h
   cases q:gP l with
   | none=>rw[q]at h;cases h
   | some z =>
    rw[q]at h;simp only[Option.bind_some,Option.map_some,Option.some.injEq]at h;subst h;obtain⟨w,r⟩:=tH (fun d p=>k d (List.mem_cons_of_mem _ p)) (fun d p=>n d (List.mem_cons_of_mem _ p)) q;have i:=k c List.mem_cons_self;have t:=n c List.mem_cons_self;have j:y=c.a\/y=c.b:=by
     unfold eI at e;split at e
     .cases e
     .split at e
      .cases e;exact .inr rfl
      .cases e;exact .inl rfl
    refine⟨?_,fun u g=>?_⟩
    .rw [List.length_append,List.length_cons];rcases j with rfl | rfl <;> omega
    .rcases List.mem_append.1 g with g | g
     .rcases j with rfl | rfl
      .exact i u (.inr (.inl g))
      .exact i u (.inr (.inr g))
     .exact r u g
theorem nD {m:Nat}:∀ {l:List B8},eZ m l->l.flatten.length<=l.length*m
 | [],_=>Nat.zero_le _
 | x::l,h=>by
  have d:=h x List.mem_cons_self;have e:=nD (fun y c=>h y (List.mem_cons_of_mem _ c)) (l:=l);rw[List.flatten_cons,List.length_append,List.length_cons,Nat.add_mul,Nat.one_mul];omega
theorem xt {x:List B8} (p:eZ 1000000 o) (l:eZ 1000000 a) (n:eZ 1000000 b) (e:o.length<=200) (c:a.length<=200) (d:b.length<=200) (h:gP (dB o a b)=some x):x.length<=1000000/\x.flatten.length<=1000000000000:=by
 obtain⟨j,k,u⟩:=oT p l n e c d;obtain⟨q,g⟩:=tH j k h;have r:=nD g;have i:x.length<=481200:=by omega
 have t:=Nat.mul_le_mul_right 1000000 i;exact⟨by omega,by omega⟩
end
section
open Go Go.RowKit Go.Sort
theorem lu (l d i:Int) (k h j:B8) (w:World) (r:(al (l,k) (d,h) (i,j)).2=3) :
  Calls Tryz.prog 19 #[.agg #[.int .i64 l,S8 k],.agg #[.int .i64 d,S8 h],.agg #[.int .i64 i,S8 j]] w fun e E=>e=.returned (.tuple #[iR (dg (l,k) (d,h) (i,j),[]),.int .i64 3])/\Ext w E:=by
 obtain⟨c1,h1⟩:∃c,((d,h)==(i,j))=c:=⟨_,rfl⟩;obtain⟨c2,h2⟩:∃c,((l,k)==(d,h))=c:=⟨_,rfl⟩;obtain⟨c3,h3⟩:∃c,((l,k)==(i,j))=c:=⟨_,rfl⟩;obtain⟨c4,h4⟩:∃c,(d==0)=c:=⟨_,rfl⟩;obtain⟨c5,h5⟩:∃c,(i==0)=c:=⟨_,rfl⟩;obtain⟨Q,A⟩:∃c,bU (l,k)=c:=⟨_,rfl⟩;obtain⟨R,B⟩:∃c,bU (d,h)=c:=⟨_,rfl⟩;obtain⟨S,C⟩:∃c,bU (i,j)=c:=⟨_,rfl⟩;have HP:Hid _:=vR (o:=(l,k)) (a:=(d,h)) (b:=(i,j)) h1 h2 h3 h4 h5 (t1:=Q) (t2:=R) (t3:=S) (by rw[A,B,C]);have r:Hid (((if c1=true then((d,h),(1:Int))else if c2=true then((i,j),2)else if c3=true then((d,h),2)else if c4=true then((i,j),4)else if c5=true then((d,h),4)else if(Q && (R && S))=true then((dg (l,k) (d,h) (i,j),[]),3)else((aN (d,h) (i,j)).1,5)).2=3)):=by
  unfold Hid;rw[<-HP.out];exact r
 have q1:∀w:World,(binOp .eql 41 (.agg #[.int .i64 d,S8 h]) (.agg #[.int .i64 i,S8 j])).run Tryz.prog w=.ok (.bool c1) w:=fun w=>by have:=gE (d,h) (i,j) w;rwa [h1]at this
 have q2:∀w:World,(binOp .eql 41 (.agg #[.int .i64 l,S8 k]) (.agg #[.int .i64 d,S8 h])).run Tryz.prog w=.ok (.bool c2) w:=fun w=>by have:=gE (l,k) (d,h) w;rwa [h2]at this
 have q3:∀w:World,(binOp .eql 41 (.agg #[.int .i64 l,S8 k]) (.agg #[.int .i64 i,S8 j])).run Tryz.prog w=.ok (.bool c3) w:=fun w=>by have:=gE (l,k) (i,j) w;rwa [h3]at this
 have ab:Hid _:=A;have ad:Hid _:=B;have ag:Hid _:=C;clear h1 h2 h3 A B C;go_enter Tryz.func19,Tryz.ntmps19;go_upto_region 1 with fail;obtain⟨G,u,t,x⟩:=lL w (.cells #[.int .i64 l,S8 k] 41) (.cells #[.int .i64 d,S8 h] 41) (.cells #[.int .i64 i,S8 j] 41) (.cells #[.int .i64 0,S8 []] 41);obtain⟨F,D⟩:∃F,F=(((w.alloc (.cells #[.int .i64 l,S8 k] 41)).alloc (.cells #[.int .i64 d,S8 h] 41)).alloc (.cells #[.int .i64 i,S8 j] 41)).alloc (.cells #[.int .i64 0,S8 []] 41):=⟨_,rfl⟩;have ao:Hid (Ext w F):=by rw[D];exact((((Ext.refl _).alloc _).alloc _).alloc _).alloc _
 rw[<-D]at G u t x ⊢;obtain⟨g0,z⟩:∃g,w.heap.size=g:=⟨_,rfl⟩;have Z:Hid (w.heap.size<=g0):=Nat.le_of_eq z;rw[z]at G u t x ⊢;obtain⟨g1,I⟩:∃g,g0+1=g:=⟨_,rfl⟩;rw[I]at u t x ⊢;obtain⟨g2,J⟩:∃g,g1+1=g:=⟨_,rfl⟩;rw[J]at t x ⊢;obtain⟨y,K⟩:∃g,g2+1=g:=⟨_,rfl⟩;rw[K]at x ⊢;have au:Hid _:=G;have av:Hid _:=u;have a0:Hid _:=t;have T:Hid _:=x;have Y:Hid (w.heap.size<=y):=by have:=Z.out;unfold Hid;omega
 have a1:Hid (y≠g0/\y≠g1/\y≠g2):=by unfold Hid;omega
 have e0:=(cell_of_row _ _ 0 _ _ _ G).trans rfl;have e1:=(cell_of_row _ _ 1 _ _ _ G).trans rfl;have f0:=(cell_of_row _ _ 0 _ _ _ u).trans rfl;have f1:=(cell_of_row _ _ 1 _ _ _ u).trans rfl;have k0:=(cell_of_row _ _ 0 _ _ _ t).trans rfl;have k1:=(cell_of_row _ _ 1 _ _ _ t).trans rfl;clear D z I J K G u t x
 cases c1 with
 | true=>exact absurd r.out (by simp)
 | false =>
 cases c2 with
 | true=>exact absurd r.out (by simp)
 | false =>
 cases c3 with
 | true=>exact absurd r.out (by simp)
 | false =>
 cases c4 with
 | true=>exact absurd r.out (by simp)
 | false =>
 cases c5 with
 | true=>exact absurd r.out (by simp)
 | false =>
 have U:Hid (∀W,Calls Tryz.prog 40 #[.agg #[.int .i64 l,S8 k]] W fun e E=>e=.returned (.bool Q)/\Ext W E):=fun W=>by have:=gF l k W;rwa [ab.out]at this
 have V:Hid (∀W,Calls Tryz.prog 40 #[.agg #[.int .i64 d,S8 h]] W fun e E=>e=.returned (.bool R)/\Ext W E):=fun W=>by have:=gF d h W;rwa [ad.out]at this
 have X:Hid (∀W,Calls Tryz.prog 40 #[.agg #[.int .i64 i,S8 j]] W fun e E=>e=.returned (.bool S)/\Ext W E):=fun W=>by have:=gF i j W;rwa [ag.out]at this
 cases Q with
 | false=>exact absurd r.out (by simp)
 | true =>
 go_wp2_with fail;go_at_call 40;refine(U.out _).mono ?_;rintro e w1 ⟨rfl,L⟩;have n:Hid (Ext F w1):=L;have a2:=n.out.cell e0;have a3:=n.out.cell e1;have a9:=n.out.cell f0;have a':=n.out.cell f1;have u10:=n.out.cell k0;have u11:=n.out.cell k1;clear L
 cases R with
 | false=>exact absurd r.out (by simp)
 | true =>
 go_wp2_with fail;go_at_call 40;refine(V.out _).mono ?_;rintro e w2 ⟨rfl,N⟩;have p:Hid (Ext F w2):=n.out.trans N;have a4:=p.out.cell e0;have a5:=p.out.cell e1;have ba:=p.out.cell f0;have bb:=p.out.cell f1;have u20:=p.out.cell k0;have u21:=p.out.cell k1;clear N
 cases S with
 | false=>exact absurd r.out (by simp)
 | true =>
 go_wp2_with fail;go_at_call 40;refine(X.out _).mono ?_;rintro e w3 ⟨rfl,O⟩;have q:Hid (Ext F w3):=p.out.trans O;have a6:=q.out.cell e0;have a7:=q.out.cell e1;have bc:=q.out.cell f0;have bh:=q.out.cell f1;have u30:=q.out.cell k0;have u31:=q.out.cell k1;clear O;go_wp2_with fail;go_at_call 41;refine(ze l d i k h j _).mono ?_;obtain⟨M,hM⟩:∃M,dg (l,k) (d,h) (i,j)=M:=⟨_,rfl⟩;rw[hM];have aa:Hid _:=hM;rintro e wf ⟨rfl,P⟩;have H:Hid (Ext F wf):=q.out.trans P;have B3:Hid (wf.heap[y]? = some (.cells #[.int .i64 0,S8 []] 41 (0,0))):=H.out.row T.out;clear P hM
 go_wp2_with (refine wpList_store_row rfl 41 (.tmp 6) (.tmp 50) rfl y #[.int .i64 M,S8 []] rfl rfl 41 _ B3.out aJ rfl (by simp[Value.oneCell']) ?_)
 refine bodyPost_ret (bN rfl _ _ y 41 #[.int .i64 M,S8 []] (0,0) _ rfl (setRow_heap _ _ _ _ _ _ B3.out) Tryz.underlying41 rfl aJ) rfl ?_;refine⟨?_,Ext.but (ao.out.trans H.out) (aw _ _ _) Y.out⟩;rw[aa.out];rfl
end
section
open Go Go.RowKit Go.Sort
theorem jn {e:B8×Fi}:∀ {l:ae},Rising l->e∈l->ax l e.1=some e.2
 | [],_,a=>by cases a
 | x::l,h,a=>by
  have c:=List.pairwise_cons.1 h;rcases List.mem_cons.1 a with rfl | a
  .unfold ax;simp
  .have b:(x.1==e.1)=false:=by
    rw[beq_eq_false_iff_ne];exact fun g=>fp (c.1 e a) g
   have d:=jn c.2 a;unfold ax at d ⊢;rw[List.find?_cons,b];exact d
def Calm (o a b W:List Rw):Prop:=∀p,(al (aj o p) (aj a p) (aj b p)).1=aj W p/\((al (aj o p) (aj a p) (aj b p)).2=1\/(al (aj o p) (aj a p) (aj b p)).2=2)
variable {o a b W:List Rw}
theorem Calm.Ic (h:Calm o a b W):kC o a b:=fun p d=>by
 rcases(h p).2 with c | c <;> rw[c]at d <;> cases d
theorem xC {o a b:ae} {s:Mg} {p:B8} {e:En} (d:(al (enL o p) (enL a p) (enL b p)).1=e) (c:(al (enL o p) (enL a p) (enL b p)).2=1\/(al (enL o p) (enL a p) (enL b p)).2=2) :
  aU o a b s p=⟨if e.1=0 then s.out else aF s.out p (fiE e),s.GV,s.notes⟩:=by
 have i:¬(al (enL o p) (enL a p) (enL b p)).2=5:=by rcases c with h | h <;> rw[h] <;> decide
 have g:¬(al (enL o p) (enL a p) (enL b p)).2=4:=by rcases c with h | h <;> rw[h] <;> decide
 unfold aU;rw[if_neg i,if_neg g,d]
theorem qX {o a b:ae} {W:List Rw} (h:∀p,(al (enL o p) (enL a p) (enL b p)).1=aj W p/\((al (enL o p) (enL a p) (enL b p)).2=1\/(al (enL o p) (enL a p) (enL b p)).2=2)) :
  ∀(P:List B8) (s:Mg),Rising s.out->Rising (P.foldl (aU o a b) s).out/\(P.foldl (aU o a b) s).GV=s.GV/\(P.foldl (aU o a b) s).notes=s.notes /\
   ∀q,ax (P.foldl (aU o a b) s).out q=if q∈P/\(aj W q).1≠0 then some (fiE (aj W q))else ax s.out q
 | [],s,i=>⟨i,rfl,rfl,fun q=>by rw[if_neg (by rintro⟨g,-⟩;cases g)];rfl⟩
 | p::P,s,i=>by
  rw[List.foldl_cons,xC (h p).1 (h p).2];have j:Rising (if(aj W p).1=0 then s.out else aF s.out p (fiE (aj W p))):=by
   split
   .exact i
   .exact i.put _ _
  obtain⟨t,u,w,x⟩:=qX h P ⟨if(aj W p).1=0 then s.out else aF s.out p (fiE (aj W p)),s.GV,s.notes⟩ j;refine⟨t,u,w,fun q=>?_⟩;rw[x q]
  by_cases e:(aj W q).1≠0
  .by_cases g:q∈P
   .have z:q∈P/\(aj W q).1≠0:=⟨g,e⟩;have l:q∈p::P/\(aj W q).1≠0:=⟨List.mem_cons_of_mem _ g,e⟩;rw[if_pos z,if_pos l]
   .have n:¬(q∈P/\(aj W q).1≠0):=fun c=>g c.1
    rw[if_neg n]
    by_cases d:q=p
    .subst d;have l:q∈q::P/\(aj W q).1≠0:=⟨List.mem_cons_self,e⟩;rw[if_pos l];show ax (if(aj W q).1=0 then s.out else aF s.out q (fiE (aj W q))) q=_;rw[if_neg e,dv]
    .have r:¬(q∈p::P/\(aj W q).1≠0):=fun c=>(List.mem_cons.1 c.1).elim d g
     rw[if_neg r];show ax (if(aj W p).1=0 then s.out else aF s.out p (fiE (aj W p))) q=_;split
     .rfl
     .exact cQ (fun c=>d c.symm)
  .have n:¬(q∈P/\(aj W q).1≠0):=fun c=>e c.2
   have r:¬(q∈p::P/\(aj W q).1≠0):=fun c=>e c.2
   rw[if_neg n,if_neg r];have k:(aj W q).1=0:=Classical.not_not.1 e;show ax (if(aj W p).1=0 then s.out else aF s.out p (fiE (aj W p))) q=_;split
   .rfl
   .rename_i y;exact cQ (fun c=>y (by rw[c];exact k))
theorem CB (y:UInt8) (a b:B8):ltB (y::a) (y::b)=ltB a b:=by
 unfold ltB;rw[decide_eq_decide];constructor
 .intro h;rcases List.cons_lt_cons_iff.1 h with c | ⟨-,c⟩
  .exact absurd c (UInt8.lt_irrefl _)
  .exact c
 .exact fun h=>List.cons_lt_cons_iff.2 (.inr ⟨rfl,h⟩)
theorem vE:∀(p:B8) (x:UInt8) (r:B8),ltB p (p++x::r)=true
 | [],x,r=>rfl
 | y::p,x,r=>by
  have a:=vE p x r;have:=CB y p (p++x::r);rw[List.cons_append,this];exact a
theorem gU {l:ae} (h:Rising l):cK (aI l):=List.pairwise_map.2 h
theorem rL (h:an W=true) {x y:Rw} (B:x∈W) (C:y∈W):aD x.path y.path=false:=by
 cases q:aD x.path y.path with
 | false=>rfl
 | true =>
  obtain⟨k,n,rfl⟩:=List.mem_iff_getElem.1 C;have c:=qM h (List.getElem?_eq_getElem n);unfold cO at c;simp only[Bool.and_eq_true]at c;obtain⟨t,g⟩:=c;have A:x.path∈cn (W[k]).path:=(kA (pw (xj t))).2 q;have p:=List.all_eq_true.1 g _ A;obtain⟨i,w,rfl⟩:=List.mem_iff_getElem.1 B;have j:=List.pairwise_iff_getElem.1 (aZ h).1;have d:ltB (W[i]).path (W[k]).path=true:=by
   obtain⟨r,j⟩:=(ko _ _).1 q;rw[j];exact vE _ _ _
  have z:i<k:=by
   rcases Nat.lt_trichotomy i k with e | e | e
   .exact e
   .subst e;rw[fV]at d;cases d
   .have l:=ed d (j k i n w e);rw[fV]at l;cases l
  have u:fe (W.take k) (W[i]).path=true:=by
   unfold fe;rw[List.any_eq_true];exact⟨W[i],by rw[List.mem_take_iff_getElem];exact⟨i,by omega,rfl⟩,by simp⟩
  rw[u]at p;cases p
theorem nM {o a b:ae}:∀(L:List Rw) (c:ae) (n:List (B8×Int)),(∀r∈L,de c r.path=false)->be o a b L c n=some (c,n)
 | [],c,n,_=>rfl
 | r::L,c,n,h=>by
  rw[iK (h r List.mem_cons_self)];exact nM L c n (fun x d=>h x (List.mem_cons_of_mem _ d))
theorem nJ (M:(an o && (an a && an b))=true) (l:an W=true) (K:Calm o a b W):eV o a b=.ok (W,[]):=by
 have g:=M;simp only[Bool.and_eq_true]at g;have ro:=(aZ g.1).1;have ra:=(aZ g.2.1).1;have rb:=(aZ g.2.2).1;obtain⟨k,Y⟩:=aZ l;obtain⟨P,I⟩:∃P,bj (ar [o,a,b])=P:=⟨_,rfl⟩;have z:∀p,(al (enL (byP o) p) (enL (byP a) p) (enL (byP b) p)).1=aj W p/\((al (enL (byP o) p) (enL (byP a) p) (enL (byP b) p)).2=1\/(al (enL (byP o) p) (enL (byP a) p) (enL (byP b) p)).2=2):=fun p=>by
  rw[cN ro,cN ra,cN rb];exact K p
 obtain⟨u,E,G,w⟩:=qX z P ⟨[],[],[]⟩ List.Pairwise.nil;obtain⟨S,J⟩:∃S,P.foldl (aU (byP o) (byP a) (byP b)) ⟨[],[],[]⟩=S:=⟨_,rfl⟩;rw[J]at u E G w;have c:aI S.out=W:=by
  refine mB (gU u) k fun x=>?_
  constructor
  .intro t;obtain⟨e,d,rfl⟩:=List.mem_map.1 t;have i:=jn u d;rw[w e.1]at i;split at i
   .rename_i O;have q:=Option.some.inj i;rcases gN k e.1 with⟨y,C,D,j⟩ | ⟨-,j⟩
    .rw [j]at q;rw[<-q,<-D];exact C
    .rw [j]at O;exact absurd rfl O.2
   .cases i
  .intro t;have A:=g8 k t;have Q:=Y x t;have B:x.path∈P:=by
    rw[<-I,dd];unfold ar;simp only[List.flatMap_cons,List.flatMap_nil,List.append_nil,List.mem_append,List.mem_map];apply Classical.byContradiction;intro N;simp only[not_or]at N;obtain⟨Z,n2,n3⟩:=N;have R:aj o x.path=(0,[]):=eK (fun r h d=>Z ⟨r,h,d⟩);have T:aj a x.path=(0,[]):=eK (fun r h d=>n2 ⟨r,h,d⟩);have U:aj b x.path=(0,[]):=eK (fun r h d=>n3 ⟨r,h,d⟩);have H:=(K x.path).1;rw[R,T,U,A]at H;have V:(0:Int)=x.mode:=congrArg Prod.fst H;exact Q V.symm
   have i:=w x.path;rw[if_pos ⟨B,by rw[A];exact Q⟩,A]at i;exact List.mem_map.2 ⟨_,du i,rfl⟩
 have L:S.out.length<=256:=by
  have:(aI S.out).length=W.length:=by rw[c]
  rw[show(aI S.out).length=S.out.length from List.length_map _]at this;have F:W.length<=256:=by
   unfold an at l;simp only[Bool.and_eq_true,decide_eq_true_eq]at l;exact l.2
  omega
 have X:∀r∈aI S.out,de S.out r.path=false:=fun r h=>by
  rw[c]at h;unfold de;rw[List.any_eq_false];intro e d;have C:(⟨e.1,e.2.mode,e.2.data⟩:Rw)∈W:=by rw[<-c];exact List.mem_map.2 ⟨e,d,rfl⟩
  have:=rL l h C;dsimp only at this;rw[this];simp
 have n:dJ (byP o) (byP a) (byP b) (bj (ar [o,a,b]))=some (S.out,[]):=by
  rw[I];unfold dJ eH;rw[J,E,G];show ky (be _ _ _ (aI S.out) S.out [])=_;rw[nM _ _ _ X];show(if S.out.length>256 then none else some (S.out,[]))=_;rw[if_neg (by omega)]
 have:=iw M n;rw[this];show Except.ok (aI S.out,[])=_;rw[c]
end
section
open Go Go.RowKit Go.Sort
theorem CW {l:ae} (h:Rising l):upL (aX l):=by
 unfold upL aX;rw[List.pairwise_map];refine List.Pairwise.imp (fun {a b} c=>?_) h;unfold leT;rw[kf c];rfl
theorem uQ (b:Nat) (l:ae) (w:World) (hr:Rising l) (hm:IsMG mdV w b l) (b4:MdOk w l) (hl:l.length<=100000) (hp:∀p∈aX l,p.length<=1000000) :
  Calls Tryz.prog 32 #[.map (some b)] w fun e w'=>(∃v,e=.returned v/\IsBss w' v (l.map fun e=>e.2.data))/\Ext w w':=by
 have aa:Hid (MdOk w l):=b4;have h:=hm.map;have bv:=hm.lt;have HM:Hid (IsMG mdV w b l):=hm;have HR:Hid (Rising l):=hr;have HP:Hid (∀p∈aX l,p.length<=1000000):=hp;have HA:Hid _:=l' mdV (l:=l);clear hr hp hm;go_enter Tryz.func32,Tryz.ntmps32
 go_wp2_with (first
  | (at_range;refine wpList_range_own _ rfl _ 61 rfl 9 52 iV Tryz.underlying61 _ b _ _ rfl h ?_;intro w0 a6 b2 ce)
  | go_in)
 go_frame
 go_loopw [3] (fun sv wr=>∃(left:Lit->Bool) (ag:Nat) (C:List B8),wr.ranges Tryz.prog 9 gM b w.heap.size l.length (cX mdV l) left ag/\wr.ownsRow w.heap.size 9 1 sv C.length (C.map S8)/\(C++aX (d8 left l)).Perm (aX l)/\Ext w wr)
  (fun _ wr=>wr.rangeLeft b w.heap.size)
 case atStart=>exact⟨_,_,[],a6,World.ownsRow_nil _ _ _ _,by rw[HA.out];exact List.Perm.refl _,Below.grown (Below.refl _ _) b2 (Nat.le_refl _) (fun j hj=>by cases hj)⟩
 case round =>
  obtain⟨left,ag,C,U,h,S,hx⟩:=hrel;have ad:Hid _:=S;have b':C.length<=l.length:=by
   have:=S.length_eq;simp only[List.length_append,aX,List.length_map]at this;omega
  have N:Hid _:=h;clear S h
  go_wp2_with (at_next;refine nh mdV rfl _ rfl b w.heap.size _ l _ _ rfl U ?_ ?_)
  .intro cb a0;have R:C.Perm (aX l):=by
    have:=ad.out;rw[lg a0]at this;simpa [aX]using this
   have a1:C.length=l.length:=by have:=R.length_eq;simpa [aX]using this
   have ab:Hid (C.Perm (aX l)):=R;have M:Hid (C.length=l.length):=a1;have bs:Hid (Ext w wr):=hx;have Z:Hid (IsStrs wr _ C):=Row.GW N.out (by omega);obtain⟨ca,cc,he,-⟩:=Z.out.get;subst he;clear a0 R a1 hx;go_wp2_with fail;go_at_call 52;have b5:C.length<=1000000:=by have:=M.out;omega
   refine(mR C.length _ C wr (Nat.le_refl _) Z.out b5).mono ?_;rintro e z ⟨⟨v2,rfl,ba⟩,n⟩;have bo:Hid (IsStrs z v2 (bB C)):=by
    have h9:=Row.GW ba (by omega);unfold Hid IsStrs;rw[di];exact h9
   obtain⟨sa,sc,au,s1,s2,s3,a9⟩:=bo.out.get;have bp:Hid _:=a9;rw[di,M.out]at au s1;subst au;have E:Hid (Ext w z):=bs.out.trans n;have bi:Hid (IsMG mdV z b l):=HM.out.ext E.out;clear ba n a9 s2;go_wp2_with fail;go_loopw [5,21] (fun sv i wq=>∃(k:Nat) (_:Unit),k<=l.length/\i=.int .i64 k/\Hid (OwBss wq z.heap.size sv ((l.take k).map fun e=>e.2.data))/\Hid (Ext z wq)) (fun _ i _=>l.length - (intOf i).toNat)
   case atStart=>exact⟨0,(),Nat.zero_le _,rfl,by rw[List.take_zero];exact OwBss.nil _ _,Ext.refl _⟩
   case round =>
   obtain⟨k,uu,hk,rfl,B,d⟩:=hrel
   by_cases H:k<l.length
   case neg =>
    have b3:k=l.length:=by omega
    subst b3;have bh:Hid (IsBss wr u5 (l.map fun e=>e.2.data)):=by
     have h9:=B.out;rw[List.take_length]at h9;exact h9.Ir (by rw[List.length_map];exact hl)
    go_wp2;go_ret;exact⟨⟨_,rfl,bh.out⟩,E.out.trans d.out⟩
   have Q:k<(bB C).length:=by rw[di,M.out];exact H
   obtain⟨q,T⟩:∃q,(bB C)[k]? = some q:=⟨_,List.getElem?_eq_getElem Q⟩;obtain⟨bb,oo,rfl,hc⟩:=bp.out k Q;have y1:=d.out.cell (hc k Q);rw[show(bB C).getD k []=q by rw[List.getD_eq_getElem?_getD,T];rfl]at y1;have a5:q∈aX l:=ab.out.mem_iff.1 ((dy C).mem_iff.1 (List.mem_of_getElem? T));have b6:=HP.out q a5;obtain⟨F,o⟩:∃e,l[k]? = some e:=⟨_,List.getElem?_eq_getElem H⟩;have a4:q=F.1:=by
    have hs:aX l=bB C:=lC (ab.out.symm) (CW HR.out);rw[<-hs]at T;unfold aX at T;rw[List.getElem?_map,o]at T;exact(Option.some.inj T).symm
   have hf:ax l q=some F.2:=by rw[a4];exact jn HR.out (List.mem_of_getElem? o)
   have G:=aa.out F (List.mem_of_getElem? o);obtain⟨X,Y,V,-⟩:=id G.1;have L:Hid (IsBytes wr (.slice X F.2.data.length Y) F.2.data/\TypB wr (.slice X F.2.data.length Y)):=by
    rw[<-V];exact⟨Row.ext G.1 (E.out.trans d.out),TypB.keep G.2 (KeepB.GX (E.out.trans d.out))⟩
   have t:=((bi.out.ext d.out).Hd 61 52 (.slice none 0 0) Tryz.underlying61 (by kernel_rfl) q b6).2;rw[show fX mdV (.slice none 0 0) l q=.slice X F.2.data.length Y by unfold fX;rw[hf];exact V]at t;have O:Hid ((l.take (k+1)).map (fun e=>e.2.data)=(l.take k).map (fun e=>e.2.data)++[F.2.data]):=by unfold Hid;rw[cC o,List.map_append];rfl
   have A:Hid (((l.take k).map fun e=>e.2.data).length=k):=by unfold Hid;rw[List.length_map,List.length_take];omega
   obtain⟨D,hD⟩:∃D,(l.take k).map (fun e=>e.2.data)=D:=⟨_,rfl⟩;rw[hD]at B O A;obtain⟨b9,am⟩:∃b,F.2.data=b:=⟨_,rfl⟩;rw[am]at L t O;obtain⟨vs,h1,h2,h3⟩:=B.out;have H1:Hid _:=h1;have H2:Hid (wr.ownsRow z.heap.size 52 1 u5 k vs):=by rw[<-A.out];exact h2
   have H3:Hid _:=h3;have ao:z.heap.size<=(wr.alloc (.cells #[.slice X b9.length Y] 52)).heap.size:=(d.out.alloc _).size;clear hc T a5 hf V a4 o G hD am h1 h2 h3 B
   go_wp2_with (at_builtin;go_must (refine eY 22 52 (.slice none 0 0) 1 24 Tryz.underlying22 (by kernel_rfl) rfl (by omega) rfl _ _ rfl z.heap.size _ k vs rfl (az H2.out ((Ext.refl _).alloc _)) ⟨wr.heap.size,0,none⟩ 1 1 [.slice X b9.length Y] rfl rfl (bW (ah _ _)) (by simp[Value.oneCell']) (by omega) (by omega) ao ?_;intro v' w3 c P _))
   have g:Ext wr (wr.alloc (.cells #[.slice X b9.length Y] 52)):=(Ext.refl _).alloc _;have bm:Hid (OwBss w3 z.heap.size v' (D++[b9])) :=
    OwBss.push (w:=wr.alloc (.cells #[.slice X b9.length Y] 52)) H1.out (by rw[A.out];exact az H2.out g) (fun k u b hu hb=>⟨Row.ext (H3.out k u b hu hb).1 g,TypB.keep (H3.out k u b hu hb).2 (KeepB.GX g)⟩) (Row.ext L.out.1 g) (TypB.keep L.out.2 (KeepB.GX g)) (by rw[A.out];exact c) P
   have bq:Hid (Ext z w3):=aA (d.out.alloc _) (az H2.out g) P;clear c P ao g;go_roundw
   case rel=>exact⟨k+1,(),by omega,by go_num,by unfold Hid;rw[O.out];exact bm.out,bq.out⟩
   case measure=>simp[intOf];omega
  .intro q f w1 ai t a2 a7 H av b7 b0;have a':=iC (f:=f) a2 HR.out t;have K:((C++[q])++aX (d8 (fW left q) l)).Perm (aX l):=by
    refine List.Perm.trans ?_ ad.out;rw[List.append_assoc];refine List.Perm.append_left C ?_;exact(List.Perm.map Prod.fst a').symm
   have bk:Hid _:=K;have a3:=row_ne_iter N.out U;have x:=World.ownsRow.kept N.out av (.inr a3.symm);have bc:Ext w w1:=Below.grown hx av hx.size (fun j hj=>by cases hj;exact Nat.le_refl _);have W:Ext w1 (w1.alloc (.cells #[S8 q] 9)):=(Ext.refl _).alloc _;have a:=az x W;have n:=bc.trans W;have b8:w.heap.size<=(w1.alloc (.cells #[S8 q] 9)).heap.size:=n.size;have y:=a7.alloc (.cells #[S8 q] 9);have J:Hid _:=row_ne_iter a y;have I:Hid _:=row_ne_low a bv;obtain⟨fv,b1⟩:∃fv,mdV f=fv:=⟨_,rfl⟩;rw[b1]at b0;clear t a' K a2 a3 x bc W b7
   go_wp2_with (at_builtin;go_must (refine gW rfl _ _ rfl w.heap.size _ C.length C rfl a w1.heap.size 1 1 [q] rfl rfl (ah _ _) (by omega) b8 ?_);intro v' w3 c r)
   go_roundw
   case rel=>exact⟨_,ai,C++[q],y.kept r I.out J.out,by rw[List.length_append];exact c,bk.out,Below.grown n r n.size (fun j hj=>(a.lt j hj).1)⟩
   case measure=>rw[(y.kept r I.out J.out).left_eq,U.left_eq];exact H
end
section
open Go Go.RowKit Go.Sort
theorem Dg {W:List Rw} (h:an W=true):W.length<=256:=by
 unfold an at h;simp only[Bool.and_eq_true,decide_eq_true_eq]at h;exact h.2
theorem sZ (o a:List Rw):Calm o a o a:=fun p=>by
 unfold al
 by_cases h:aj a p=aj o p
 .rw [if_pos h];exact⟨rfl,.inl rfl⟩
 .rw [if_neg h,if_neg (fun e=>h e.symm),if_pos rfl];exact⟨rfl,.inr rfl⟩
theorem sY (o a:List Rw):Calm o a a a:=fun p=>by
 unfold al;rw[if_pos rfl];exact⟨rfl,.inl rfl⟩
end
section
open Go Go.RowKit Go.Sort
variable {l:List Rw} {p:B8}
theorem oq (h:an l=true) (b:(aj l p).1=0):aj l p=(0,[]):=by
 obtain⟨d,c⟩:=aZ h;rcases gN d p with⟨x,e,-,a⟩ | ⟨-,a⟩
 .rw [a]at b;exact absurd b (c x e)
 .exact a
def qm (x y z:En):En:=if x=y then z else y
structure Want (o a b:List Rw) (Q:List B8) (W:List Rw):Prop where
 G2:cK W
 IY:∀q,aj W q=if q∈Q then qm (aj o q) (aj a q) (aj b q)else aj o q
 len:W.length<=o.length+Q.length
 fit:∀r∈W,r.path.length<=400/\r.id.length<=400
variable {o a b:List Rw}
theorem Want.start (d:an o=true) (c:bS o):Want o a b [] o :=
 ⟨(aZ d).1,fun q=>by rw[if_neg (by simp)],Nat.le_refl _,c.2⟩
theorem qV (h:bS l) (p:B8):(aj l p).2.length<=400:=by
 unfold aj;split
 .rename_i r a;exact(h.2 r (List.mem_of_find?_eq_some a)).2
 .exact Nat.zero_le _
theorem Want.step {W s:List Rw} {Q:List B8} (h:Want o a b Q W) (k:an a=true) (n:an b=true) (i:bS a) (j:bS b) (t:p.length<=400)
  (d:wA W p (qm (aj o p) (aj a p) (aj b p)) s):Want o a b (Q++[p]) s:=by
 refine⟨d.2.2,fun q=>?_,?_,fun r u=>?_⟩
 .by_cases g:q=p
  .subst g;rw[C' d,if_pos (by simp:q∈Q++[q])];split
   .rename_i e;unfold qm at e ⊢;split at e
    .rename_i c;rw[if_pos c];exact(oq n e).symm
    .rename_i c;rw[if_neg c];exact(oq k e).symm
   .rfl
  .rw [zG h.G2 d g,h.IY q];have:(q∈Q++[p])↔q∈Q:=by simp[g]
   simp only[this]
 .rw [d.2.1,List.length_append,List.length_singleton];have:=Bf W p (qm (aj o p) (aj a p) (aj b p));have:=h.len;omega
 .have c:=(d.1 r).1 u;unfold oE at c;rcases List.mem_append.1 c with c | c
  .exact h.fit r (tN.1 c).1
  .split at c
   .cases c
   .obtain rfl:=List.mem_singleton.1 c;refine⟨t,?_⟩;show(qm (aj o p) (aj a p) (aj b p)).2.length<=400;unfold qm;split
    .exact qV j p
    .exact qV i p
end
section
open Go Go.RowKit
variable [Inhabited br]
section
variable {ops:Array Oper} {rest:List Oper} {o:Oper} {a:Act} {Q:Exit->Act->World->Prop} {w:World}
end
variable {w w':World} {cs:List Value}
theorem IsOpn.ext {o:Opn} (h:IsOpn w cs o) (c:Ext w w'):IsOpn w' cs o:=by
 obtain⟨d,e,rfl,a,b⟩:=h;exact⟨d,e,rfl,a,b.IT c⟩
theorem IsOps.ext {v:Value} {l:List Opn} (h:IsOps w v l) (a:Ext w w'):IsOps w' v l :=
 (h.stay a.size (fun e k d=>a.block k (h.lt e k d))).mono (fun c x b=>b.ext a)
structure Sop where
 kind:Int
 f:Opn
def IsSop (w:World) (cs:List Value) (o:Sop):Prop:=∃a,cs=.int .i64 o.kind::a/\IsOpn w a o.f
theorem IsSop.length {o:Sop} (h:IsSop w cs o):cs.length=9:=by
 obtain⟨a,rfl,h⟩:=h;simp[(h.length).1]
abbrev F4 (w:World) (v:Value) (l:List Sop):Prop:=ReadO w (IsSop w) v l
def GG (l:List Sop):Bool:=decide (l.length<=60) && DK (l.map Sop.f)
end
section
open Go Go.ChangeShapes Go.WideShapes Go.ChangeAt Go.RowKit Go.Deep
section
variable {H:Type} {enc:TypeId×Value->H} {P:Program} {w:World} {base:Nat} {spare:Nat->Bool} {held:Bool}
theorem uR {t e:TypeId} {l:Array Field} {d:Nat} {cs:List Value} {x:DataW H×List MemPlace} (S:P.underlying t=some (.slice e)) (L:P.underlying e=some (.struct l))
  (h:DataW.trod enc P w base spare held d t cs=some x) :
  (cs=[.slice none 0 0]/\x=(.nil,[])) \/
  ∃(a:Addr) (len b m:Nat) (D:Nat->DataW H) (o:Nat->List MemPlace),cs=[.slice (some a) len b]/\len<=b/\b<=maxLen/\m=(if spare a.block then b else len) /\
   x=(.slice ((List.range len).map D) ((List.range (m - len)).map fun j=>D (len+j)),MemPlace.row a (m*P.cellsOf e)++(List.range m).flatMap o) /\
   ∀i,i<m->∃(ys:List (DataW H×List MemPlace)) (n:Nat) (c:List Value),D i=.agg (ys.map (·.1))/\ys.length=l.size/\c.length=P.cellsOf e/\(∀j u,c[j]? = some u->w.cell? (a.add (i*P.cellsOf e+j))=some u) /\
    ∀(j:Nat) (f:Field),l[j]? = some f->∃y,ys[j]? = some y/\DataW.trod enc P w base spare held n f.type ((c.drop f.offset).take (P.cellsOf f.type))=some y:=by
 rcases open_slice S h with I | ⟨a,len,b,m,n,D,o,q,V,O,Q,A,T,N⟩
 .exact .inl I
 .refine .inr ⟨a,len,b,m,D,o,q,O,Q,A,T,fun i r=>?_⟩;obtain⟨c,J,B⟩:=N i r;obtain⟨ys,U,R,G,g,C,M⟩:=DataW.trod_struct L B;obtain⟨_,K,p⟩:=World.cells?_some J;simp only[Prod.mk.injEq]at G;refine⟨ys,U,c,G.1,C,g,fun j u F=>?_,fun j f E=>?_⟩
  .have z:=(List.getElem?_eq_some_iff.1 F).1;rw[<-Go.Deep.add_add,p j (by omega)];exact F
  .have z:j<l.size:=(Array.getElem?_eq_some_iff.1 E).1;have k:ys[j]? = some (ys[j]'(by omega)):=List.getElem?_eq_getElem (by omega);exact⟨_,k,(M j f E).trans k⟩
end
theorem yo:Tryz.prog.cellsOf 3=1:=by kernel_rfl
theorem qR:Tryz.prog.cellsOf 9=1:=by kernel_rfl
theorem DY {α:Type} {l:List α} (h:l.length=3):∃a b c,l=[a,b,c]:=by
 match l,h with
 | [a,b,c],_=>exact⟨a,b,c,rfl⟩
theorem DX {α:Type} {l:List α} (h:l.length=2):∃a b,l=[a,b]:=by
 match l,h with
 | [a,b],_=>exact⟨a,b,rfl⟩
theorem As:Tryz.prog.cellsOf 50=3:=by kernel_rfl
theorem Ar:1<=Tryz.prog.bytesOf 50:=of_decide_eq_true (by kernel_rfl)
theorem yn:Tryz.prog.cellsOf 41=2:=by kernel_rfl
section
variable [Inhabited br] {H:Type} {enc:TypeId×Value->H} {W:World}
end
section
variable {H:Type} {enc:TypeId×Value->H} {W:World}
variable {v:Value}
theorem zS {n:Nat} {y:DataW H×List MemPlace} (h:DataW.trod enc Tryz.prog W 0 (fun _=>true) true n 23 [v]=some y) (hb:Szd 23 y.1):∃l:List Rw,IsRws W v l/\∀r∈l,I64 r.mode:=by
 rcases uR Tryz.underlying23 Tryz.underlying50 h with⟨b,S⟩ | ⟨a,P,aa,m,D,Pl,b,hl,hm,A,rfl,hi⟩
 .simp only[List.cons.injEq,and_true]at b;subst b;exact⟨[],Row.nil _,by simp⟩
 .simp only[List.cons.injEq,and_true]at b;subst b;simp only[if_true]at A;subst A;obtain⟨N,ai⟩:=mI hb Tryz.underlying23;have z:=zg N Ar;have hr:=reachBytes_lt;simp only[List.length_map,List.length_range]at z;obtain⟨Z,I,-,F⟩:=Bn (W:=W) (a:=a) (len:=P) (p:=fun c (o:Rw)=>c=rwC o/\I64 o.mode) 3 (by omega) ([],⟨[],0,[]⟩) hl hm (by omega) (fun c x S=>by rw[S.1];rfl) (fun i ad=>by
   obtain⟨ys,k,ab,hD,am,w,t,Q⟩:=hi i (by omega);rw[As]at w t;obtain⟨Y,C,E,rfl⟩:=DY w;obtain⟨y0,e0,X⟩:∃y,ys[0]? = some y/\DataW.trod enc Tryz.prog W 0 (fun _=>true) true k 9 (([Y,C,E].drop 0).take (Tryz.prog.cellsOf 9))=some y:=Q 0 _ rfl;obtain⟨y1,e1,G⟩:∃y,ys[1]? = some y/\DataW.trod enc Tryz.prog W 0 (fun _=>true) true k 41 (([Y,C,E].drop 1).take (Tryz.prog.cellsOf 41))=some y:=Q 1 _ rfl;rw[qR]at X;rw[yn]at G;have G:DataW.trod enc Tryz.prog W 0 (fun _=>true) true k 41 [C,E]=some y1:=G;obtain⟨zs,T,ag,hy,M,O,R⟩:=DataW.trod_struct Tryz.underlying41 G;have B:zs.length=2:=O;obtain⟨z0,z1,rfl⟩:=DX B;have U:DataW.trod enc Tryz.prog W 0 (fun _=>true) true T 3 (([C,E].drop 0).take (Tryz.prog.cellsOf 3))=some z0:=R 0 _ rfl;have V:DataW.trod enc Tryz.prog W 0 (fun _=>true) true T 9 (([C,E].drop 1).take (Tryz.prog.cellsOf 9))=some z1:=R 1 _ rfl;rw[yo]at U;rw[qR]at V;obtain⟨pp,rfl⟩:=v8 X;obtain⟨mm,rfl,i0⟩:=BE U;obtain⟨qq,rfl⟩:=v8 V;exact⟨(_,⟨pp,mm,qq⟩),⟨rfl,i0⟩,fun j u hu=>t j u hu⟩)
  obtain⟨d,g,-,q⟩:=I;have b:∀(d:List (List Value)) (L:List Rw),Each (fun c (o:Rw)=>c=rwC o/\I64 o.mode) d L->d.flatten=L.flatMap rwC:=by
   intro d L hE;have h9:d=L.map rwC:=by
    obtain⟨K,J⟩:=hE;apply List.ext_getElem (by rw[List.length_map];exact K);intro k I F;rw[List.length_map]at F;rw[List.getElem_map];exact(J k _ _ (List.getElem?_eq_getElem I) (List.getElem?_eq_getElem F)).1
   rw[h9,List.flatMap_def]
  refine⟨Z,?_,fun e he=>by obtain⟨c,hc⟩:=F e he;exact hc.2⟩;rw[b d Z q]at g;exact g
theorem eN {a:Nat} {d:DataW H} {p:List MemPlace} {ts:List TypeId} {e:List (DataW H)} {j:Nat}
  (b:Value.okWide Tryz.prog W .any a 23 v) (h:DataW.Trod enc Tryz.prog W 0 (fun _=>true) true 23 v d p)
  (c:(DataW.weightsEach Tryz.prog ts e).all (·<=reachBytes)=true) (o:ts[j]? = some 23) (k:e[j]? = some d):∃l:List Rw,IsRws W v l/\∀r∈l,I64 r.mode:=by
 obtain⟨t,q,i,rfl⟩:=okWide_slice Tryz.underlying23 b;obtain⟨g,n⟩:=h;exact zS (y:=(d,p)) (by simpa [Value.cells]using n) (vY c o k)
end
end
section
open Go Go.ChangeShapes Go.WideShapes Go.ChangeAt Go.RowKit Go.Deep
theorem yl:Tryz.prog.cellsOf 52=1:=by kernel_rfl
theorem yh:1<=Tryz.prog.bytesOf 52:=of_decide_eq_true (by kernel_rfl)
section
variable {H:Type} {enc:TypeId×Value->H} {W:World}
variable {v:Value}
theorem BD {n:Nat} {y:DataW H×List MemPlace} (h:DataW.trod enc Tryz.prog W 0 (fun _=>true) true n 22 [v]=some y) (q:Szd 22 y.1):∃l:List B8,IsBss W v l:=by
 rcases open_slice1 Tryz.underlying22 yl h with⟨d,F⟩ | ⟨a,g,z,m,G,V,D,C,d,_,A,B,o,rfl,x⟩
 .simp only[List.cons.injEq,and_true]at d;subst d;exact⟨[],[],rfl,Row.nil _,fun k u b e=>by simp at e⟩
 .simp only[List.cons.injEq,and_true]at d;subst d;simp only[if_true]at o;subst o;obtain⟨t,w⟩:=mI q Tryz.underlying22;have j:=zg t yh;have E:=reachBytes_lt;simp only[List.length_map,List.length_range]at j;have p:∀i,∃b:B8,i<g->IsBytes W (V i) b:=fun i=>by
   by_cases c:i<g
   .obtain ⟨b,r⟩:=xO (x i (by omega)).2 (w (D i) (List.mem_map.2 ⟨i,List.mem_range.2 c,rfl⟩));exact⟨b,fun _=>r⟩
   .exact ⟨[],fun h=>(c h).elim⟩
  refine⟨(List.range g).map fun i=>(p i).choose,(List.range g).map V,by simp,?_,fun k u b e q=>?_⟩
  .rw [List.length_map,List.length_range];refine jQ A B (by omega) fun i u e=>?_
   have c:=(List.getElem?_eq_some_iff.1 e).1;simp only[List.length_map,List.length_range]at c;rw[List.getElem?_map,List.getElem?_range c]at e;cases e;exact(x i (by omega)).1
  .have c:=(List.getElem?_eq_some_iff.1 e).1;simp only[List.length_map,List.length_range]at c;rw[List.getElem?_map,List.getElem?_range c]at e q;cases e;cases q;exact(p k).choose_spec c
theorem qo {a:Nat} {d:DataW H} {p:List MemPlace} {ts:List TypeId} {e:List (DataW H)} {j:Nat}
  (b:Value.okWide Tryz.prog W .any a 22 v) (h:DataW.Trod enc Tryz.prog W 0 (fun _=>true) true 22 v d p)
  (c:(DataW.weightsEach Tryz.prog ts e).all (·<=reachBytes)=true) (o:ts[j]? = some 22) (k:e[j]? = some d):∃l:List B8,IsBss W v l:=by
 obtain⟨r,q,i,rfl⟩:=okWide_slice Tryz.underlying22 b;obtain⟨g,n⟩:=h;exact BD (y:=(d,p)) (by simpa [Value.cells]using n) (vY c o k)
end
end
end Go.Proofs.YtgfegpnmlkdjfaaGreatDoor
