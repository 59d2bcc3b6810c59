/- Contracts of the program's functions and plain laws behind the card. Conditions: as each theorem states. -/
import Derived.Test.YtgfegpnmlkdjfaaGreatDoorZaa
import Derived.Test.YtgfegpnmlkdjfaaGreatDoorShelf
import Derived.WalkSpells
import Derived.WalkLawsBesides
import Derived.Lib.Hide
import Derived.Lib.SmallJoins
import Derived.Deep.QuietTactic
import Derived.BigQuiet
set_option linter.unusedVariables false
set_option linter.unusedSimpArgs false
set_option linter.unusedSectionVars false
set_option maxRecDepth 100000
set_option maxHeartbeats 64000000
namespace Go.Proofs.YtgfegpnmlkdjfaaGreatDoor
section
open Go Go.RowKit
section
variable {P:Program} {C:World->Prop} {le:World->World->Prop} {ops:Array Oper}
def PureAt (P:Program) (ops:Array Oper) (o:Oper) (v:Value) (a:Act):Prop :=
 Region.wanted o (yielded ops a.tmps)=true/\∀w,(execOp a.eval o).run P w=.ok (.value v) w
variable {o:Oper} {v:Value} {a:Act}
theorem PureAt.put (h:PureAt P ops o v a) (g:∀e b,o.op≠.select e b) (d:Option Tmp) (u:Value) (c:∀t,d=some t->t∉o.looksAt ops):PureAt P ops o v (a.put d u) :=
 ⟨by rw[wanted_put o a d u c];exact h.1,by rw[execOp_put o g a d u c];exact h.2⟩
theorem PureAt.defers (h:PureAt P ops o v a) (b:List Deferred):PureAt P ops o v { a with defers:=b }:=h
variable {oi:Oper} {w:World}
theorem BJ {j:Nat} {k:Oper} {Q:Exit->Act->World->Prop} (I:ops[j]? = some k) (y:oi.apart ops k=true)
  (i:∀t b,oi.op≠.select t b) (A:∀t b,k.op≠.select t b) (H:∀c a d u w,Q (.panic c) (Act.put a d u) w->Q (.panic c) a w)
  {K E:Act->World->Prop} (n:∀a w,PureAt P ops oi v a->K (a.put oi.dst v) w->E a w)
  (p:PureAt P ops oi v a) (h:wpOp P ops Q j K (a.put oi.dst v) w):wpOp P ops Q j E a w:=by
 obtain⟨F,G,l⟩:=Oper.apart_spec y;have g:∀(a:Act) u,(a.put oi.dst v).put k.dst u=(a.put k.dst u).put oi.dst v:=fun a u=>Act.put_comm a v u G
 unfold wpOp at *;simp only[I]at *;rw[wanted_put k a oi.dst v F]at h;split
 .rename_i B;rw[if_pos B]at h;have q:execOp (a.put oi.dst v).eval k=execOp a.eval k:=execOp_put k A a oi.dst v F;rcases h with h | ⟨h,J⟩
  .refine .inl ?_;unfold Oper.wp at *;rw[q]at h;generalize(execOp a.eval k).run P w=r at *
   cases r with
   | ok M N =>
    cases M <;> simp only[Oper.upon]at h ⊢
    case value u=>exact n _ _ (p.put i _ _ l) (by rw[<-g];exact h)
    case skip=>exact n _ _ (p.put i _ _ l) (by rw[<-g];exact h)
    case defer d =>
     refine n _ _ ((p.defers _).put i _ _ l) ?_;rw[Act.put_defers]at h;rw[<-Act.put_comm _ v undef G];exact h
    case enter f args =>
     refine h.mono fun e D z=>?_
     cases e with
     | returned u=>exact n _ _ (p.put i _ _ l) (by rw[<-g];exact z)
     | panicked c=>exact H _ _ _ _ _ z
     | outgrown=>exact z
    case row r args=>exact Rows.mono h (fun u D L=>n _ _ (p.put i _ _ l) (by rw[<-g];exact L))
   | halt x N =>
    cases x <;> simp only[Oper.upon]at h ⊢
    exact H _ _ _ _ _ h
  .refine .inr ⟨?_,J⟩;unfold Oper.asks at *
   rwa [q]at h
 .rename_i B;rw[if_neg B]at h;exact n _ _ (p.put i _ _ l) (by rw[<-g];exact h)
variable {i:Nat}
theorem uY {md:Region.Mode} {Q:Exit->Act->World->Prop} (T:ops[i]? = some oi) (t:∀(j:Nat) (o:Oper) B b,ops[j]? = some o->o.op≠.select B b)
  (W:∀c a d u w,Q (.panic c) (Act.put a d u) w->Q (.panic c) a w) :
  ∀(l:Nat) (g:Array Bool) (a:Act) (w:World),
   (∀j A,ops[j]? = some A->j≠i->g.getD j true=false->(∀e∈A.after,Region.binds md e=true->e.on≠i)->oi.apart ops A=true) ->
   i∈Region.ready md ops g->PureAt P ops oi v a ->
   wpAny P md ops Q l (g.setIfInBounds i true) (a.put oi.dst v) w->wpAny P md ops Q (l+1) g a w:=by
 have self:∀(K:Act->World->Prop) (a:Act) (w:World),PureAt P ops oi v a->K (a.put oi.dst v) w->wpOp P ops Q i K a w:=fun K a w z F=>by
  unfold wpOp;simp only[T];rw[if_pos z.1];refine .inl ?_;unfold Oper.wp;rw[z.2 w];exact F
 intro l
 induction l with
 | zero =>
  intro g a w _ y z H;refine⟨fun h=>(by rw[h]at y;cases y),fun j M=>?_⟩
  by_cases n:j=i
  .subst n;exact self _ _ _ z H
  .have:=ready_mono M n;rw[H.1]at this;cases this
 | succ l Z =>
  intro g a w p y z H;refine⟨fun h=>(by rw[h]at y;cases y),fun j M=>?_⟩
  by_cases n:j=i
  .subst n;exact self _ _ _ z H
  .have L:=H.2 j (ready_mono M n);obtain⟨r,A,x,D⟩:=mem_ready.1 M;have G:∀e∈A.after,Region.binds md e=true->e.on≠i:=fun e Y X N=>by
    have L:=D e Y X;have V:=(mem_ready.1 y).1;rw[N,getD_both V]at L;cases L
   have q:∀k J,ops[k]? = some J->k≠i->(g.setIfInBounds j true).getD k true=false ->
     (∀e∈J.after,Region.binds md e=true->e.on≠i)->oi.apart ops J=true:=fun k J F O I R=>by
    refine p k J F O ?_ R
    by_cases E:j=k
    .subst E;exact r
    .rw [getD_set_ne true E]at I;exact I
   refine BJ x (p j A x n r G) (fun B b=>t i oi B b T) (fun B b=>t j A B b x) W (fun U w' S F=>Z (g.setIfInBounds j true) U w' q (ready_mono y (Ne.symm n)) S ?_) z L;rw[Array.setIfInBounds_comm _ _ n];exact F
def lR (o:Oper):List Nat:=(o.after.toList.filter (Region.binds .any)).map (·.on)
def BM:List Oper->List (List Nat)->List (List Nat)
 | [],b=>b
 | o::l,b=>BM l (b++[lR o++(lR o).flatMap fun j=>b.getD j []])
def Closed (ops:Array Oper) (b:Array Bool):Prop:=∀j c,ops[j]? = some c->b.getD j false=true->∀d∈lR c,b.getD d false=true
def E9 (ops:Array Oper) (n:Nat) (T:List Nat):Bool:=T.all fun t=>decide (n<=t) && (List.range n).all fun i=>((BM ops.toList []).getD t []).contains i
def Eh (ops:Array Oper):List Nat->Array Bool->Bool
 | [],b=>(Region.ready .any ops b).isEmpty
 | t::T,b=>decide (Region.ready .any ops b=[t]) && Eh ops T (b.setIfInBounds t true)
def GP (ops:Array Oper) (T:List Nat):List Oper:=T.filterMap fun t=>ops[t]?
def Bz (m:Nat) (pre:List Nat):Array Bool:=pre.foldl (fun l i=>l.setIfInBounds i true) (Array.replicate m false)
def Cp (m n:Nat) (pre:List Nat):Array Bool:=((List.range m).map fun i=>decide (i<n) || pre.contains i).toArray
def GQ (ops:Array Oper) (n:Nat) (pre T:List Nat) (D:List (List Nat)):Bool :=
 decide (n<=ops.size) && wJ ops && wR ops D && decide (eU (ops.toList.take n)).Nodup &&
 pre.all (fun p=>decide (n<=p) && decide (p<ops.size)) && T.all (fun t=>decide (t<ops.size)) && E9 ops n T && (List.range ops.size).all (fun i=>decide (i<n) || (pre.contains i || T.contains i)) &&
 Eh ops T (Cp ops.size n pre) && (List.range ops.size).all (fun i=>(Bz ops.size pre).getD i false==pre.contains i)
structure F' (C:World->Prop) (ops:Array Oper) (n:Nat) (pre T:List Nat) (V:List (Value->World->Prop)) (a0:Act) (listed:Array Bool) (a:Act) (w:World):Prop where
 size:listed.size=ops.size
 closed:Closed ops listed
 tail:∀t∈T,listed.getD t true=false
 pre:∀p∈pre,listed.getD p false=true
 ext:C w
 fill:∃xs:Nat->Value,a=af xs (ops.toList.take n) 0 a0/\∀j,j<n->listed.getD j false=true->aH V j (xs j) w
theorem xl {d:Nat}:d∈lR o↔∃e∈o.after,Region.binds .any e=true/\e.on=d:=by
 simp only[lR,List.mem_map,List.mem_filter];constructor
 .rintro ⟨e,⟨b,c⟩,g⟩;exact⟨e,by simpa using b,c,g⟩
 .rintro ⟨e,b,c,g⟩;exact⟨e,⟨by simpa using b,c⟩,g⟩
theorem Closed.set {a:Array Bool} (h:Closed ops a) (r:i∈Region.ready .any ops a):Closed ops (a.setIfInBounds i true):=by
 obtain⟨_,t,g,b⟩:=mem_ready.1 r;intro j o l n d k
 by_cases c:i=j
 .subst c;have:o=t:=Option.some.inj (l.symm.trans g);subst this;obtain⟨e,q,p,rfl⟩:=xl.1 k;exact getD_set_true (b e q p)
 .rw [getD_set_ne false c]at n;exact getD_set_true (h j o l n d k)
def CR (ops:Array Oper):List (Nat×Value)->Act->Act
 | [],a=>a
 | (i,v)::l,a=>CR ops l (a.put ((ops[i]?).bind (·.dst)) v)
def BY (P:Program) (ops:Array Oper):List (Nat×Value)->Act->Prop
 | [],_=>True
 | (i,v)::l,a=>(∃o,ops[i]? = some o/\PureAt P ops o v a)/\BY P ops l (a.put ((ops[i]?).bind (·.dst)) v)
def FL (ops:Array Oper):List Nat->Array Bool->Bool
 | [],_=>true
 | i::l,b=>(Region.ready .any ops b).contains i && Region.free .any ops b i && FL ops l (b.setIfInBounds i true)
def NoP (Q:Exit->Act->World->Prop):Exit->Act->World->Prop
 | .panic _,_,_=>False
 | e,a,w=>Q e a w
theorem NoP.intro {Q:Exit->Act->World->Prop} (h:Q .normal a w):NoP Q .normal a w:=h
end
end
section
open Go Go.RowKit
section
variable {P:Program} {C:World->Prop} {le:World->World->Prop} {ops:Array Oper} {md:Region.Mode}
def BW (md:Region.Mode) (ops:Array Oper) (n f:Nat):Bool :=
 (List.range n).all fun i=>decide (i=f) || (List.range (n+1)).any fun j=>decide (i<j) && Region.waitsFor md ops j i
variable {n:Nat}
theorem uU {f:Nat} {a:Array Bool} (L:BW md ops n f=true) (H:Region.chainB md ops n=true) (Q:n<ops.size) (o:HeadInv md ops n a) (I:a.getD f true=true) :
  ∀(d i:Nat),n - i=d->i<n->a.getD i true=false->∀t,n<=t->t∉Region.ready md ops a:=by
 intro d
 induction d using Nat.strongRecOn with
 | _ d M =>
  intro i O J g t R E;obtain⟨_,G,l,k⟩:=mem_ready.1 E;have r:t<ops.size:=(Array.getElem?_eq_some_iff.1 l).1
  by_cases A:t=n
  .subst A;have b:=List.all_eq_true.1 L i (List.mem_range.2 J);simp only[Bool.or_eq_true,decide_eq_true_eq]at b;rcases b with b | b
   .subst b;rw[I]at g;cases g
   obtain⟨j,K,p⟩:=List.any_eq_true.1 b;simp only[Bool.and_eq_true,decide_eq_true_eq]at p;obtain⟨F,q,e,w,u,c⟩:=Region.waitsFor_spec p.2;have B:j<=t:=by have:=List.mem_range.1 K;omega
   by_cases y:j=t
   .subst y;have:F=G:=Option.some.inj (q.symm.trans l);subst this;have h:=k e w u;rw[c,getD_both g]at h;cases h
   .cases D:a.getD j false with
    | true =>
     have h:=o.closed j F q D e w u;rw[c,getD_both g]at h;cases h
    | false =>
     have x:j<a.size:=by rw[o.size];omega
     exact M (t - j) (by omega) j rfl (by omega) (getD_in x D) t (Nat.le_refl _) E
  .have b:=List.all_eq_true.1 H t (List.mem_range.2 r);simp only[Bool.or_eq_true,decide_eq_true_eq]at b;rcases b with b | b
   .omega
   .obtain ⟨N,z,e,w,u,c⟩:=Region.waitsFor_spec b;have:N=G:=Option.some.inj (z.symm.trans l);subst this;have h:=k e w u;rw[c,getD_both (o.tail (t - 1) (by omega) (by omega))]at h;cases h
def t7 (ops:Array Oper) (n f:Nat) (D:List (List Nat)):Bool :=
 decide (n<=ops.size) && wJ ops && wR ops D && decide (eU (ops.toList.take n)).Nodup &&
 (decide (n<ops.size) && BW .any ops n f && Region.chainB .any ops n) &&
 Region.seqB .any ops (ops.size - n) n (gG ops.size n)
theorem xS {ff:Nat} {V:List (Value->World->Prop)} {D:List (List Nat)} {a0:Act} {Q:Exit->Act->World->Prop} (hC:∀w z,C w->le w z->C z)
  (hB:t7 ops n ff D=true) (hV:ef le V) (hs:ay P C le ops V D (ops.toList.take n) a0 (ops.toList.take n) 0)
  (hQ:∀p w,C w->aE V p w (List.range n)->wpList P ops Q (ops.toList.drop n) (af p (ops.toList.take n) 0 a0) w) :
  ∀(f:Nat) (b:Array Bool) (a:Act) (w:World),left n b=f->b.getD ff true=true->Dt C ops n V a0 b a w->wpAny P .any ops Q (f+(ops.size - n)) b a w:=by
 simp only[t7,Bool.and_eq_true,decide_eq_true_eq]at hB;obtain⟨⟨⟨⟨⟨hn,g⟩,F⟩,ai⟩,⟨⟨T,av⟩,aa⟩⟩,Y⟩:=hB;intro f
 induction f with
 | zero =>
  intro b a w hl _ c;have x:=mf hl;have N:b=gG ops.size n:=by
   apply Array.ext_getElem?;intro i;have a3:=c.head.size;unfold gG
   by_cases l:i<n
   .have:=x i l;have d:i<b.size:=by omega
    simp only[d,Array.getD_eq_getD_getElem?,Array.getElem?_eq_getElem,Option.getD_some]at this;rw[Array.getElem?_append_left (by simpa using l)];simp[d,l,this]
   .by_cases A:i<ops.size
    .have:=c.head.tail i (by omega) A;have d:i<b.size:=by omega
     simp only[d,Array.getD_eq_getD_getElem?,Array.getElem?_eq_getElem,Option.getD_some]at this;rw[Array.getElem?_append_right (by simpa using l)];simp only[d,Array.getElem?_eq_getElem,this];rw[Array.getElem?_replicate,if_pos (by simp;omega)]
    .rw [Array.getElem?_eq_none (by omega),Array.getElem?_eq_none (by simp;omega)]
  obtain⟨p,ha,hx⟩:=c.fill;have hk:aE V p w (List.range n):=jD fun j q=>hx j (List.mem_range.1 q) (by
   have:=x j (List.mem_range.1 q);have a2:=List.mem_range.1 q
   rwa [jy (by rw[c.head.size];omega) true false]at this)
  have:=hQ p w c.ext hk;rw[<-ha]at this;rw[Nat.zero_add];have A:=wpAny_of_seq (md:=.any) (Q':=Q) (ops.toList.drop n) n b a w (fun j=>by simp[List.getElem?_drop]) (by rw[N];simpa using Y) this;simpa using A
 | succ f ih =>
  intro b a w hl G c;rw[show f+1+(ops.size - n)=(f+(ops.size - n))+1 by omega];have O:∃i,i<n/\b.getD i true=false:=by
   have l:0<((List.range n).filter fun i=>!b.getD i true).length:=by unfold left at hl;omega
   obtain⟨i,d⟩:=List.exists_mem_of_length_pos l;simp only[List.mem_filter,List.mem_range]at d;exact⟨i,d.1,by simpa using d.2⟩
  have r:∃i,i<n/\i∈Region.ready .any ops b:=by
   obtain⟨i,d,t⟩:=O
   revert d t
   induction i using Nat.strongRecOn with
   | _ i a1 =>
    intro d t;have S:i<ops.size:=by omega
    by_cases W:i∈Region.ready .any ops b
    .exact ⟨i,d,W⟩
    .have J:ops[i]? = some ops[i]:=Array.getElem?_eq_getElem S;have L:=List.all_eq_true.1 g i (List.mem_range.2 S);rw[J]at L;simp only[Option.map_some,Option.getD_some]at L;have:∃e∈ops[i].after,Region.binds .any e=true/\b.getD e.on false=false:=by
      apply Classical.byContradiction;intro am;apply W;rw[mem_ready];refine⟨t,ops[i],J,fun e M E=>?_⟩
      cases hq:b.getD e.on false with
      | true=>rfl
      | false=>exact absurd ⟨e,M,E,hq⟩ am
     obtain⟨e,M,E,hq⟩:=this;have y:=Array.all_eq_true'.1 L e M;simp only[E,Bool.not_true,Bool.false_or,decide_eq_true_eq]at y;exact a1 e.on y (by omega) (getD_in (by rw[c.head.size];omega) hq)
  refine⟨fun h0=>?_,fun i d=>?_⟩
  .obtain ⟨i,_,W⟩:=r;rw[h0]at W;cases W
  .have H:i<n:=by
    rcases Nat.lt_or_ge i n with h | h
    .exact h
    .exfalso;obtain⟨j,q,t⟩:=O;exact uU av aa T c.head G _ j rfl q t i h d
   obtain⟨t,o,J,hw⟩:=mem_ready.1 d;obtain⟨p,ha,hx⟩:=c.fill;have U:(ops.toList.take n)[i]? = some o:=by simp[H,J]
   have Z:=qE hs i o U;rw[Nat.zero_add]at Z;have ag:aE V p w (D.getD i []):=jD fun j q=>by
    have l:=List.all_eq_true.1 F i (List.mem_range.2 (by omega));have A:=List.all_eq_true.1 l j q;obtain⟨o',ao,e,M,L,au⟩:=Region.waitsFor_spec A;have:o'=o:=Option.some.inj (ao.symm.trans J);subst this;have h3:=hw e M L;rw[au]at h3;have ad:j<n:=by
     have B:=List.all_eq_true.1 g i (List.mem_range.2 (by omega));rw[J]at B;simp only[Option.map_some,Option.getD_some]at B;have h4:=Array.all_eq_true'.1 B e M;simp only[L,Bool.not_true,Bool.false_or,decide_eq_true_eq]at h4;omega
    exact hx j ad h3
   have k:=Z p w c.ext ag (fun u z=>le w z/\aH V i u z) (fun u z l A=>⟨l,A⟩);rw[<-ha]at k;have ab:i≠ff:=by rintro rfl;rw[G]at t;cases t
   have X:=ku (P:=P) (ops:=ops) (Q:=Q) (K:=wpAny P .any ops Q (f+(ops.size - n)) (b.setIfInBounds i true)) (fun u z h=>by
    refine ih (b.setIfInBounds i true) (a.put o.dst u) z ?_ (by rw[getD_set_ne true ab];exact G) ⟨c.head.set d H,hC _ _ c.ext h.1,upd p i u,?_,?_⟩
    .have:=lh H t;omega
    .rw [ha,jx p u (ops.toList.take n) 0 i a0 o ai U,Nat.zero_add]
    .intro j q R
     by_cases I:j=i
     .subst I;simpa [upd]using h.2
     .rw [getD_set_ne false (Ne.symm I)]at R;simp only[upd,I,if_false];exact lF hV j _ _ _ h.1 (hx j q R)) k
   unfold wpOp;simp only[J];exact X
variable {id:Nat} {a:Act} {w:World} {l:List Oper}
theorem qf {Q:Exit->Act->World->Prop} (n f:Nat) (v:Value) (cs:List Value) (W:List (Option (Value->World->Prop))) (D:List (List Nat))
  (hm:P.follows .mixedOrders=true)
  (S:(t7 l.toArray n f D && (decide (f<n) && ((Region.ready .any l.toArray (Array.replicate l.length false)).contains f && (Region.free .any l.toArray (Array.replicate l.length false) f && (Region.noSelect l.toArray && decide (left n ((Array.replicate l.length false).setIfInBounds f true)+1=n))))))=true)
  (hn:(aq cs W).length<=n) (Z:∀c a d u w,Q (.panic c) (Act.put a d u) w->Q (.panic c) a w) (hV:nr W) (N:∃o,l[f]? = some o/\PureAt P l.toArray o v a) (hv:∀w,aH (aq cs W) f v w)
  (hs:ay P (Ext w) Ext l.toArray (aq cs W) D (l.take n) a (l.take n) 0)
  (hQ:∀G x,Ext w x->aG cs W 0 G x->wpList P l.toArray Q (l.drop n) (af G (l.take n) 0 a) x) :
  (Code.region id l.toArray true).wp P Q a w:=by
 simp only[Bool.and_eq_true,decide_eq_true_eq]at S;obtain⟨hrel,y,O,K,F,aa⟩:=S;refine wp_region_any hm ?_;have r:=hrel;simp only[t7,Bool.and_eq_true,decide_eq_true_eq]at hrel;obtain⟨⟨⟨⟨⟨L,I⟩,J⟩,M⟩,_⟩,_⟩:=hrel;have ab:n<=l.length:=by simpa using L
 obtain⟨o,U,q⟩:=N;have B:l.toArray[f]? = some o:=by simpa using U
 obtain⟨b,V⟩:=jZ (l.take n) 0 a;have E:a.put o.dst v=af (upd b f v) (l.take n) 0 a:=by
  have e:=V b (fun _ _=>rfl);have:=jx b v (l.take n) 0 f a o (by simpa using M) (by simp[y,U]);rw[e,Nat.zero_add]at this;exact this
 have p:HeadInv .any l.toArray n (Array.replicate l.length false) :=
  ⟨by simp,fun j oj _ T=>(by rw[getD_replicate_false]at T;cases T),fun t _ ht=>getD_in (by simpa using ht) (getD_replicate_false _ _)⟩
 have i:f∈Region.ready .any l.toArray (Array.replicate l.length false):=by simpa using O
 have R:f<(Array.replicate l.length false).size:=by simp;omega
 have H:=xS (P:=P) (C:=Ext w) (le:=Ext) (Q:=Q) (a0:=a) (fun _ _ h k=>Ext.trans h k) r (lE cs W hV) (by simpa using hs)
  (fun G x X Y=>by simpa using hQ G x X (kF G x cs W 0 fun j hj=>by rw[Nat.zero_add];exact j' Y j (List.mem_range.2 (by omega)))) (n - 1) ((Array.replicate l.length false).setIfInBounds f true) (a.put o.dst v) { w with drawn:=w.drawn+1 } (by omega)
  (by simp[R])
  ⟨p.set i y,⟨rfl,rfl,rfl,Nat.le_refl _,fun _ _=>rfl⟩,upd b f v,by simpa using E,fun j hj A=>by
   by_cases z:j=f
   .subst z;have:upd b j v j=v:=by simp[upd]
    rw[this];exact hv _
   .rw [getD_set_ne false (Ne.symm z),getD_replicate_false]at A
    cases A⟩
 have g:=uY (P:=P) (Q:=Q) B (Region.noSelect_spec F) Z (n - 1+(l.toArray.size - n)) (Array.replicate l.length false) a { w with drawn:=w.drawn+1 } (Region.free_spec B K) i q H;rw[show n - 1+(l.toArray.size - n)+1=l.toArray.size by simp;omega]at g;simpa using g
theorem kN {Q:Exit->Act->World->Prop} (n f:Nat) (v:Value) (cs:List Value) (W:List (Option (Value->World->Prop))) (D:List (List Nat))
  (k:P.follows .mixedOrders=true)
  (g:(t7 l.toArray n f D && (decide (f<n) && ((Region.ready .any l.toArray (Array.replicate l.length false)).contains f && (Region.free .any l.toArray (Array.replicate l.length false) f && (Region.noSelect l.toArray && decide (left n ((Array.replicate l.length false).setIfInBounds f true)+1=n))))))=true)
  (p:(aq cs W).length<=n) (j:nr W) (b:∃o,l[f]? = some o/\PureAt P l.toArray o v a) (r:∀w,aH (aq cs W) f v w)
  (q:ay P (Ext w) Ext l.toArray (aq cs W) D (l.take n) a (l.take n) 0)
  (i:∀d c,Ext w c->aG cs W 0 d c->wpList P l.toArray (NoP Q) (l.drop n) (af d (l.take n) 0 a) c) :
  (Code.region id l.toArray true).wp P Q a w :=
 Code.wp_mono (fun e a w h=>by cases e <;> first | exact h | exact(h:False).elim) (qf (Q:=NoP Q) n f v cs W D k g p (fun _ _ _ _ _ h=>(h:False).elim) j b r q i)
end
end
section
open Go Go.RowKit
abbrev B8:=List UInt8
abbrev S8 (l:B8):Value:=.string ⟨l.toArray⟩
theorem aM {a b:Bool} (h:a=b):Ending.returned (.bool a)=.returned (.bool b):=by rw[h]
theorem ET {k:IntKind} {a b:Int} (h:a=b):Ending.returned (.int k a)=.returned (.int k b):=by rw[h]
theorem Ext.refl (w:World):Ext w w:=Below.refl _ _
variable {a w:World}
theorem Ext.drew (h:Ext a w):Ext a w.drew:=Below.drew h
theorem Ext.alloc (h:Ext a w) (o:Obj):Ext a (w.alloc o):=Below.alloc h h.size o
variable {w':World}
theorem Ext.grown (h:Ext w w'):w.grownBy w' none:=⟨h.os,h.tape,h.output,h.size,fun k b _=>h.block k b⟩
variable {v:Value}
theorem Ext.cell (h:Ext w w') {a:Addr} (b:w.cell? a=some v):w'.cell? a=some v:=cell_later h b
theorem ah (w:World) (o:Obj):(w.alloc o).heap[w.heap.size]? = some o:=by
 show(w.heap.push o)[w.heap.size]? = some o;simp
def Row (w:World) (v:Value) (n:Nat) (cs:List Value):Prop :=
 ∃a c,v=.slice a n c/\n<=c/\c<=9223372036854775807/\n<=140737488355328/\(cs≠[]->∃b o,a=some ⟨b,o,none⟩/\∀i u,cs[i]? = some u->w.cell? ⟨b,o+i,none⟩=some u)
variable {n:Nat} {cs:List Value}
theorem Row.ext (h:Row w v n cs) (p:Ext w w'):Row w' v n cs:=by
 obtain⟨a,c,t,d,e,g,j⟩:=h;refine⟨a,c,t,d,e,g,fun q=>?_⟩;obtain⟨b,o,k,l⟩:=j q;exact⟨b,o,k,fun i u r=>p.cell (l i u r)⟩
theorem Row.nil (w:World):Row w (.slice none 0 0) 0 []:=⟨none,0,rfl,Nat.le_refl _,by omega,by omega,fun h=>absurd rfl h⟩
theorem Row.len (h:Row w v n cs):n<=140737488355328:=by
 obtain⟨_,_,_,_,_,b,_⟩:=h;exact b
variable {base size:Nat} {e:TypeId} {xs:List Value}
theorem Row.GW (h:w.ownsRow base e size v n xs) (q:n<=140737488355328):Row w v n xs:=by
 obtain⟨o,⟨rfl,rfl⟩ | ⟨g,b,d,rfl,_,k,j,p,t,r⟩⟩:=h
 .have:xs=[]:=List.eq_nil_of_length_eq_zero (by simpa using o);subst this;exact Row.nil w
 .refine ⟨_,b,rfl,j,by unfold maxLen at p;omega,q,fun _=>⟨g,0,rfl,fun i u c=>?_⟩⟩;subst r;have l:=(List.getElem?_eq_some_iff.1 c).1;simp only[List.length_take,Array.length_toList]at l;rw[List.getElem?_take_of_lt (by omega)]at c;simpa [World.cell?,k]using c
theorem az (h:w.ownsRow base e size v n xs) (b:Ext w w'):w'.ownsRow base e size v n xs :=
 h.kept b.grown (by cases c:v.ownBlock with | none=>exact .inl rfl | some g=>exact .inr (by simp))
variable {t:TypeId} {fr:Nat×Nat} {g:Nat}
theorem Row.new {cs:Array Value} (b:w.heap[g]? = some (.cells cs t fr)) (d:n<=140737488355328) (l:List Value) (c:cs.toList=l):Row w (.slice (some ⟨g,0,none⟩) n n) n l :=
 ⟨_,n,rfl,Nat.le_refl _,by omega,d,fun _=>⟨g,0,rfl,fun i u e=>by subst c;simpa [World.cell?,b]using e⟩⟩
def Off (g:Nat) (v:Value):Prop:=∀a n c,v=.slice (some a) n c->a.block≠g
def Fresh (B:Nat) (v:Value):Prop:=∀a n c,v=.slice (some a) n c->B<=a.block
variable {B:Nat}
theorem Fresh.off (h:Fresh B v) (b:g<B):Off g v:=fun a n c e=>by have:=h a n c e;omega
theorem Fresh.mono {b:Nat} (h:Fresh B v) (d:b<=B):Fresh b v:=fun a n c e=>by have:=h a n c e;omega
theorem Fresh.nil (B n c:Nat):Fresh B (.slice none n c):=fun a n c e=>by simp at e
variable {o c:Nat}
theorem Fresh.at (h:B<=g):Fresh B (.slice (some ⟨g,o,none⟩) n c):=fun a n c e=>by simp at e;rw[<-e.1];exact h
theorem Fresh.GW (h:w.ownsRow base e size v n xs):Fresh base v:=by
 obtain⟨_,⟨rfl,_⟩ | ⟨g,b,c,rfl,d,_⟩⟩:=h
 .exact Fresh.nil _ _ _
 .exact Fresh.at d
theorem Row.but (h:Row w v n cs) (x:w.grownBy w' (some g)) (z:Off g v):Row w' v n cs:=by
 obtain⟨a,d,rfl,j,k,l,p⟩:=h;refine⟨a,d,rfl,j,k,l,fun y=>?_⟩;obtain⟨b,o,rfl,r⟩:=p y;refine⟨b,o,rfl,fun i u A=>?_⟩;have c:=r i u A;have q:=World.block_lt_of_cell? _ _ c;rw[World.cell?_of_block (w:=w) (w':=w') (x.block b q (fun e=>z _ _ _ rfl (by simpa using e)))];exact c
def Typed (e:TypeId) (w:World) (v:Value):Prop:=∀a n c,v=.slice (some a) n c->∃cs fr,w.heap[a.block]? = some (.cells cs e fr)
def Keep (e:TypeId) (w w':World):Prop:=w.heap.size<=w'.heap.size/\∀(k:Nat) cs fr,w.heap[k]? = some (.cells cs e fr)->w'.heap[k]? = some (.cells cs e fr)
theorem Keep.refl (e:TypeId) (w:World):Keep e w w:=⟨Nat.le_refl _,fun _ _ _ h=>h⟩
variable {b:World}
theorem Keep.trans {c:World} (h:Keep e a b) (k:Keep e b c):Keep e a c:=⟨Nat.le_trans h.1 k.1,fun i d g j=>k.2 i d g (h.2 i d g j)⟩
theorem Keep.GX (h:Ext w w'):Keep e w w':=⟨h.size,fun k c d b=>(h.block k (Array.getElem?_eq_some_iff.1 b).1).trans b⟩
theorem Keep.G1 {cs:Array Value} (h:w.grownBy w' (some g)) (l:w.heap[g]? = some (.cells cs t fr)) (d:t≠e):Keep e w w' :=
 ⟨h.size,fun k i j c=>(h.block k (Array.getElem?_eq_some_iff.1 c).1 (by
  rintro b;simp at b;subst b;rw[l]at c;simp at c;exact d c.2.1)).trans c⟩
theorem Keep.GW (b:w.ownsRow base t size v n xs) (h:w.grownBy w' v.ownBlock) (d:t≠e):Keep e w w':=by
 obtain⟨_,⟨rfl,_⟩ | ⟨g,i,j,rfl,_,c,_⟩⟩:=b
 .exact ⟨h.size,fun k cs fr c=>(h.block k (Array.getElem?_eq_some_iff.1 c).1 (by simp[Value.ownBlock])).trans c⟩
 .exact Keep.G1 h c d
theorem Typed.keep (h:Typed e w v) (j:Keep e w w'):Typed e w' v:=fun a n c i=>by
 obtain⟨b,d,g⟩:=h a n c i;exact⟨b,d,j.2 _ _ _ g⟩
theorem Typed.nil (e:TypeId) (w:World) (n c:Nat):Typed e w (.slice none n c):=fun a n c b=>by simp at b
theorem Typed.at {cs:Array Value} (h:w.heap[g]? = some (.cells cs e fr)):Typed e w (.slice (some ⟨g,o,none⟩) n c):=fun a n c b=>by
 simp at b;rw[<-b.1];exact⟨cs,fr,h⟩
theorem Typed.GW (h:w.ownsRow base e size v n xs):Typed e w v:=by
 obtain⟨_,⟨rfl,_⟩ | ⟨g,b,c,rfl,_,d,_⟩⟩:=h
 .exact Typed.nil _ _ _ _
 .exact Typed.at d
theorem Row.keep (h:Row w v n cs) (x:Typed e w v) (r:Keep e w w'):Row w' v n cs:=by
 obtain⟨a,c,rfl,j,k,l,p⟩:=h;refine⟨a,c,rfl,j,k,l,fun t=>?_⟩;obtain⟨b,o,rfl,q⟩:=p t;obtain⟨xs,z,g⟩:=x _ _ _ rfl;refine⟨b,o,rfl,fun i u y=>?_⟩;have d:=q i u y;rw[World.cell?_of_block (w:=w) (w':=w') (a:=⟨b,o+i,none⟩) ((r.2 _ _ _ g).trans g.symm)];exact d
def jB (p:Program) (u:TypeId):Nat->TypeId->Bool
 | 0,_=>false
 | d+1,e=>sameLayout p p.depth e u || (match p.underlying e with
  | some (.struct i)=>i.any fun f=>jB p u d f.type
  | some (.array _ h)=>jB p u d h
  | _=>false)
def IsU8 (w:World) (k:Nat):Prop:=∃cs t fr,w.heap[k]? = some (.cells cs t fr)/\jB Tryz.prog 5 Tryz.prog.depth t=true
def TypB (w:World) (v:Value):Prop:=∀a n c,v=.slice (some a) n c->IsU8 w a.block
def KeepB (w w':World):Prop:=w.heap.size<=w'.heap.size/\∀k,IsU8 w k->w'.heap[k]? = w.heap[k]?
variable {k:Nat}
theorem IsU8.lt (h:IsU8 w k):k<w.heap.size:=by
 obtain⟨b,t,c,h,-⟩:=h;exact(Array.getElem?_eq_some_iff.1 h).1
theorem IsU8.same (h:IsU8 w k) (e:w'.heap[k]? = w.heap[k]?):IsU8 w' k:=by
 obtain⟨b,t,c,h,d⟩:=h;exact⟨b,t,c,e.trans h,d⟩
theorem yg:jB Tryz.prog 5 Tryz.prog.depth 5=true:=by kernel_rfl
theorem KeepB.trans {c:World} (h:KeepB a b) (k:KeepB b c):KeepB a c:=⟨Nat.le_trans h.1 k.1,fun i d=>(k.2 i (d.same (h.2 i d))).trans (h.2 i d)⟩
theorem KeepB.GX (h:Ext w w'):KeepB w w':=⟨h.size,fun k b=>h.block k b.lt⟩
theorem KeepB.G1 {cs:Array Value} (h:w.grownBy w' (some g)) (o:w.heap[g]? = some (.cells cs t fr)) (c:jB Tryz.prog 5 Tryz.prog.depth t=false):KeepB w w' :=
 ⟨h.size,fun k i=>h.block k i.lt (by
  rintro b;simp only[Option.some.injEq]at b;subst b;obtain⟨j,p,l,d,e⟩:=i;rw[o]at d;simp only[Option.some.injEq,Obj.cells.injEq]at d;rw[d.2.1,e]at c
  cases c)⟩
theorem TypB.keep (h:TypB w v) (d:KeepB w w'):TypB w' v:=fun a n c b=>(h a n c b).same (d.2 _ (h a n c b))
theorem TypB.nil (w:World) (n c:Nat):TypB w (.slice none n c):=fun a n c b=>by simp at b
theorem TypB.of (h:Typed 5 w v):TypB w v:=fun a n c g=>by
 obtain⟨b,d,e⟩:=h a n c g;exact⟨b,_,d,e,yg⟩
theorem TypB.at {cs:Array Value} (h:w.heap[g]? = some (.cells cs 5 fr)):TypB w (.slice (some ⟨g,o,none⟩) n c):=TypB.of (Typed.at h)
theorem TypB.GW (h:w.ownsRow base 5 size v n xs):TypB w v:=TypB.of (Typed.GW h)
theorem Row.G' (h:Row w v n cs) (r:TypB w v) (p:KeepB w w'):Row w' v n cs:=by
 obtain⟨a,c,rfl,e,g,j,k⟩:=h;refine⟨a,c,rfl,e,g,j,fun q=>?_⟩;obtain⟨b,o,rfl,l⟩:=k q;refine⟨b,o,rfl,fun i u t=>?_⟩;have d:=l i u t;rw[World.cell?_of_block (w:=w) (w':=w') (a:=⟨b,o+i,none⟩) (p.2 b (r ⟨b,o,none⟩ _ _ rfl))];exact d
def IsBytes (w:World) (v:Value) (l:B8):Prop:=Row w v l.length (l.map fun x=>.int .u8 x.toNat)
def IsStrs (w:World) (v:Value) (l:List B8):Prop:=Row w v l.length (l.map S8)
def IsInts (w:World) (v:Value) (l:List Int):Prop:=Row w v l.length (l.map fun x=>.int .i64 x)
theorem IsBytes.ext {l:B8} (h:IsBytes w v l) (b:Ext w w'):IsBytes w' v l:=Row.ext h b
theorem IsStrs.ext {l:List B8} (h:IsStrs w v l) (b:Ext w w'):IsStrs w' v l:=Row.ext h b
variable {l:List Int}
theorem IsInts.ext (h:IsInts w v l) (b:Ext w w'):IsInts w' v l:=Row.ext h b
theorem IsBytes.nil (w:World):IsBytes w (.slice none 0 0) []:=Row.nil w
theorem IsStrs.nil (w:World):IsStrs w (.slice none 0 0) []:=Row.nil w
theorem IsInts.nil (w:World):IsInts w (.slice none 0 0) []:=Row.nil w
theorem IsStrs.get {l:List B8} (h:IsStrs w v l):∃a d,v=.slice a l.length d/\l.length<=d/\l.length<=140737488355328/\d<=9223372036854775807 /\
  ∀k,k<l.length->∃b o,a=some ⟨b,o,none⟩/\(∀i,i<l.length->w.cell? ⟨b,o+i,none⟩=some (S8 (l.getD i []))):=by
 obtain⟨a,d,rfl,e,g,j,n⟩:=h;refine⟨a,d,rfl,e,j,g,fun k t=>?_⟩;obtain⟨b,o,p,q⟩:=n (by simp;intro h;subst h;simp at t);exact⟨b,o,p,fun i r=>q i _ (by simp[r])⟩
theorem IsBytes.get {l:B8} (h:IsBytes w v l):∃a d,v=.slice a l.length d/\l.length<=d/\l.length<=140737488355328/\d<=9223372036854775807 /\
  ∀k,k<l.length->∃b o,a=some ⟨b,o,none⟩/\(∀i,i<l.length->w.cell? ⟨b,o+i,none⟩=some (.int .u8 (l.getD i 0).toNat)):=by
 obtain⟨a,d,rfl,e,g,j,n⟩:=h;refine⟨a,d,rfl,e,j,g,fun k t=>?_⟩;obtain⟨b,o,p,q⟩:=n (by simp;intro h;subst h;simp at t);exact⟨b,o,p,fun i r=>q i _ (by simp[r])⟩
theorem IsInts.get (h:IsInts w v l):∃a d,v=.slice a l.length d/\l.length<=d/\l.length<=140737488355328/\d<=9223372036854775807 /\
  ∀k,k<l.length->∃b o,a=some ⟨b,o,none⟩/\(∀i,i<l.length->w.cell? ⟨b,o+i,none⟩=some (.int .i64 (l.getD i 0))):=by
 obtain⟨a,d,rfl,e,g,j,n⟩:=h;refine⟨a,d,rfl,e,j,g,fun k t=>?_⟩;obtain⟨b,o,p,q⟩:=n (by simp;intro h;subst h;simp at t);exact⟨b,o,p,fun i r=>q i _ (by simp[r])⟩
structure Env (w:World):Prop where
 Iv:∃m,w.cell? ⟨0,0,none⟩=some (.int .i64 m)
theorem Env.ext (h:Env w) (b:Ext w w'):Env w':=by
 obtain⟨m,c⟩:=h;exact⟨m,b.cell c⟩
end
end Go.Proofs.YtgfegpnmlkdjfaaGreatDoor
