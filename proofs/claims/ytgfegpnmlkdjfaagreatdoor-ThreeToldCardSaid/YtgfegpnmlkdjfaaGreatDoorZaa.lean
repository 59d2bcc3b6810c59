/- Contracts of the program's functions and plain laws behind the card. Conditions: as each theorem states. -/
import Derived.WalkKit
import Derived.StillTail
import Derived.Lib.QuietBelow
set_option linter.unusedVariables false
set_option linter.unusedSimpArgs false
set_option linter.unusedSectionVars false
set_option maxRecDepth 100000
set_option maxHeartbeats 64000000
namespace Go.Proofs.YtgfegpnmlkdjfaaGreatDoor
section
open Go Go.RowKit
abbrev Ext (w w':World):Prop:=Below w.heap.size w w'
theorem Ext.trans {a b c:World} (h:Ext a b) (k:Ext b c):Ext a c:=Below.trans h (k.mono h.size)
section
variable {P:Program} {C:World->Prop} {le:World->World->Prop}
def af (xs:Nat->Value):List Oper->Nat->Act->Act
 | [],_,a=>a
 | o::l,k,a=>af xs l (k+1) (a.put o.dst (xs k))
def dW (P:Program) (R:Value->World->Prop):Result Next->Prop
 | .ok (.value u) a=>R u a
 | .ok .skip a=>R undef a
 | .ok (.enter f args) a=>Calls P f args a (fun e b=>∃v,e=.returned v/\R v b)
 | _=>False
def aH (V:List (Value->World->Prop)) (k:Nat):Value->World->Prop:=V.getD k (fun _ _=>True)
def aE (V:List (Value->World->Prop)) (xs:Nat->Value) (w:World):List Nat->Prop
 | []=>True
 | j::l=>aH V j (xs j) w/\aE V xs w l
theorem jD {V:List (Value->World->Prop)} {xs:Nat->Value} {w:World}:∀ {l:List Nat},(∀j∈l,aH V j (xs j) w)->aE V xs w l
 | [],_=>trivial
 | j::l,h=>⟨h j (by simp),jD fun i a=>h i (by simp[a])⟩
def aB (P:Program) (C:World->Prop) (le:World->World->Prop) (ops:Array Oper) (V:List (Value->World->Prop)) (head:List Oper) (a0:Act) (k:Nat) (d:List Nat) (o:Oper):Prop :=
 ∀(b:Nat->Value) (w:World),C w->aE V b w d->∀R:Value->World->Prop,(∀u a,le w a->aH V k u a->R u a) ->
  if Region.wanted o (yielded ops (af b head 0 a0).tmps)then dW P R ((execOp (af b head 0 a0).eval o).run P w)else R undef w
def ay (P:Program) (C:World->Prop) (le:World->World->Prop) (ops:Array Oper) (V:List (Value->World->Prop)) (D:List (List Nat)) (head:List Oper) (a0:Act):List Oper->Nat->Prop
 | [],_=>True
 | o::l,k=>aB P C le ops V head a0 k (D.getD k []) o/\ay P C le ops V D head a0 l (k+1)
def ef (le:World->World->Prop):List (Value->World->Prop)->Prop
 | []=>True
 | p::l=>(∀u w a,le w a->p u w->p u a)/\ef le l
theorem lF:∀ {V:List (Value->World->Prop)},ef le V->∀k u w a,le w a->aH V k u w->aH V k u a
 | [],_,k,_,_,_,_,_=>by simp[aH]
 | p::l,h,0,u,w,a,b,c=>by simpa [aH]using h.1 u w a b (by simpa [aH]using c)
 | p::l,h,k+1,u,w,a,b,c=>by
  have:=lF h.2 k u w a b (by simpa [aH]using c);simpa [aH]using this
theorem qE {ops:Array Oper} {V:List (Value->World->Prop)} {D:List (List Nat)} {head:List Oper} {a0:Act} :
  ∀ {l:List Oper} {k:Nat},ay P C le ops V D head a0 l k->∀i o,l[i]? = some o->aB P C le ops V head a0 (k+i) (D.getD (k+i) []) o
 | [],_,_,i,o,h=>by simp at h
 | p::l,k,h,0,o,a=>by
  have:p=o:=by simpa using a
  subst this;exact h.1
 | p::l,k,h,i+1,o,a=>by
  have:=qE h.2 i o (by simpa using a)
  rwa [show k+1+i=k+(i+1)by omega]at this
def eU (l:List Oper):List Tmp:=l.filterMap (·.dst)
theorem CT (a:Act) (d:Option Tmp) (u v:Value):(a.put d u).put d v=a.put d v:=by
 cases d with
 | none=>rfl
 | some d=>simp[Act.put]
theorem lX (xs:Nat->Value) (d:Option Tmp) (u:Value):∀(l:List Oper) (k:Nat) (a:Act),(∀t,d=some t->t∉eU l) ->
  (af xs l k a).put d u=af xs l k (a.put d u)
 | [],_,_,_=>rfl
 | o::l,k,a,h=>by
  simp only[af];rw[lX xs d u l (k+1) _ (fun t b e=>h t b (by
   unfold eU at *;rw[List.filterMap_cons];split <;> simp_all))]
  rw[Act.put_comm a (xs k) u (fun t b c=>h t c (by simp[eU,List.filterMap_cons,b]))]
theorem o0 {xs ys:Nat->Value}:∀(l:List Oper) (k:Nat) (a:Act),(∀i,k<=i->xs i=ys i)->af xs l k a=af ys l k a
 | [],_,_,_=>rfl
 | o::l,k,a,h=>by
  simp only[af];rw[h k (Nat.le_refl _)];exact o0 l (k+1) _ (fun i b=>h i (by omega))
def upd (xs:Nat->Value) (i:Nat) (u:Value):Nat->Value:=fun j=>if j=i then u else xs j
theorem jx (xs:Nat->Value) (u:Value):∀(l:List Oper) (k i:Nat) (a:Act) (o:Oper),(eU l).Nodup->l[i]? = some o ->
  (af xs l k a).put o.dst u=af (upd xs (k+i) u) l k a
 | [],_,i,_,_,_,h=>by simp at h
 | p::l,k,0,a,o,b,h=>by
  have:p=o:=by simpa using h
  subst this;simp only[af];rw[lX xs p.dst u l (k+1) _ (fun t e d=>by
   have:eU (p::l)=t::eU l:=by simp[eU,List.filterMap_cons,e]
   rw[this]at b;exact(List.nodup_cons.1 b).1 d),CT]
  rw[o0 (xs:=xs) (ys:=upd xs (k+0) u) l (k+1) _ (fun i g=>by simp[upd];omega)];simp[upd]
 | p::l,k,i+1,a,o,b,h=>by
  simp only[af];have c:(eU l).Nodup:=by
   unfold eU at *;rw[List.filterMap_cons]at b;split at b
   .exact b
   .exact (List.nodup_cons.1 b).2
  rw[jx xs u l (k+1) i _ o c (by simpa using h)];rw[show k+1+i=k+(i+1)by omega];simp[upd]
theorem Bl (a:Act) (t:Tmp):a.put (some t) (a.tmps.getD t undef)=a:=by
 cases a with
 | mk b c =>
  simp only[Act.put];congr 1;apply Array.ext_getElem?;intro i
  by_cases h:t=i
  .subst h
   by_cases d:t<b.size
   iterate 2
    .simp [d]
  .simp [Array.getElem?_setIfInBounds_ne h]
theorem jZ:∀(l:List Oper) (k:Nat) (a:Act),∃c:Nat->Value,∀b:Nat->Value,(∀i,k<=i->b i=c i)->af b l k a=a
 | [],_,_=>⟨fun _=>undef,fun _ _=>rfl⟩
 | o::l,k,a=>by
  obtain⟨c,h⟩:=jZ l (k+1) a;refine⟨fun j=>if j=k then(match o.dst with | some t=>a.tmps.getD t undef | none=>undef)else c j,fun b d=>?_⟩;simp only[af];have e:a.put o.dst (b k)=a:=by
   rw[d k (Nat.le_refl _)]
   cases n:o.dst with
   | none=>rfl
   | some t=>simpa using Bl a t
  rw[e];exact h b (fun i g=>by rw[d i (by omega)];simp;omega)
def left (n:Nat) (a:Array Bool):Nat:=((List.range n).filter fun i=>!a.getD i true).length
variable {n i:Nat} {listed:Array Bool}
theorem lh (e:i<n) (h:listed.getD i true=false):left n listed=left n (listed.setIfInBounds i true)+1:=by
 have g:i<listed.size:=by
  rcases Nat.lt_or_ge i listed.size with b | b
  .exact b
  .simp [Array.getElem?_eq_none b]at h
 unfold left;have d:((List.range n).filter fun j=>!(listed.setIfInBounds i true).getD j true)=((List.range n).filter fun j=>!listed.getD j true).erase i:=by
  rw[List.Nodup.erase_eq_filter (List.Pairwise.filter _ List.nodup_range),List.filter_filter];apply List.filter_congr;intro j _
  by_cases c:j=i
  .subst c;simp[g]
  .rw [getD_set_ne true (Ne.symm c)];simp[c]
 rw[d,List.length_erase_of_mem]
 .have:0<((List.range n).filter fun j=>!listed.getD j true).length:=List.length_pos_of_mem (a:=i) (by simp only[List.mem_filter,List.mem_range];exact⟨e,by simpa using h⟩);omega
 .simp only[List.mem_filter,List.mem_range];exact⟨e,by simpa using h⟩
theorem mf (h:left n listed=0):∀i,i<n->listed.getD i true=true:=by
 intro i a
 cases b:listed.getD i true with
 | true=>rfl
 | false=>have:=lh a b;omega
def wJ (ops:Array Oper):Bool:=(List.range ops.size).all fun k=>((ops[k]?).map fun o=>o.after.all fun e=>!Region.binds .any e || decide (e.on<k)).getD true
def wR (ops:Array Oper) (D:List (List Nat)):Bool:=(List.range ops.size).all fun k=>(D.getD k []).all fun j=>Region.waitsFor .any ops k j
def gG (m n:Nat):Array Bool:=(Array.replicate n true)++(Array.replicate (m - n) false)
def iU (ops:Array Oper) (n:Nat) (D:List (List Nat)):Bool :=
 decide (n<=ops.size) && wJ ops && wR ops D && decide (eU (ops.toList.take n)).Nodup &&
 (decide (n=ops.size) || (decide (n<ops.size) && Region.sinkB .any ops n && Region.chainB .any ops n)) &&
 Region.seqB .any ops (ops.size - n) n (gG ops.size n)
structure Dt (C:World->Prop) (ops:Array Oper) (n:Nat) (V:List (Value->World->Prop)) (a0:Act) (listed:Array Bool) (a:Act) (w:World):Prop where
 head:HeadInv .any ops n listed
 ext:C w
 fill:∃xs:Nat->Value,a=af xs (ops.toList.take n) 0 a0/\∀j,j<n->listed.getD j false=true->aH V j (xs j) w
theorem jy (a:i<listed.size) (x y:Bool):listed.getD i x=listed.getD i y:=by simp[a]
variable {ops:Array Oper} {a:Act} {w:World}
theorem ku {o:Oper} {R:Value->World->Prop} {K:Act->World->Prop} {Q:Exit->Act->World->Prop}
  (b:∀u c,R u c->K (a.put o.dst u) c) (h:if Region.wanted o (yielded ops a.tmps)then dW P R ((execOp a.eval o).run P w)else R undef w) :
  if Region.wanted o (yielded ops a.tmps)then o.wp P a w K Q\/(o.asks P a w/\LetsOut Q)else K (a.put o.dst undef) w:=by
 split
 .rename_i d;rw[if_pos d]at h;refine .inl ?_;unfold Oper.wp;generalize(execOp a.eval o).run P w=r at *
  cases r with
  | ok j c =>
   cases j <;> simp only[dW]at h <;> simp only[Oper.upon]
   case value u=>exact b _ _ h
   case skip=>exact b _ _ h
   case enter f args=>exact h.mono fun e k ⟨v,g,i⟩=>by subst g;exact b _ _ i
  | halt x c=>simp only[dW]at h
 .rename_i d;rw[if_neg d]at h;exact b _ _ h
theorem Ac {V:List (Value->World->Prop)} {D:List (List Nat)} {a0:Act} {Q:Exit->Act->World->Prop} (hC:∀w A,C w->le w A->C A)
  (hB:iU ops n D=true) (hV:ef le V) (hs:ay P C le ops V D (ops.toList.take n) a0 (ops.toList.take n) 0)
  (hQ:∀l w,C w->aE V l w (List.range n)->wpList P ops Q (ops.toList.drop n) (af l (ops.toList.take n) 0 a0) w) :
  ∀(f:Nat) (listed:Array Bool) (a:Act) (w:World),left n listed=f->Dt C ops n V a0 listed a w->wpAny P .any ops Q (f+(ops.size - n)) listed a w:=by
 simp only[iU,Bool.and_eq_true,Bool.or_eq_true,decide_eq_true_eq]at hB;obtain⟨⟨⟨⟨⟨hn,d⟩,F⟩,ag⟩,I⟩,W⟩:=hB;intro f
 induction f with
 | zero =>
  intro listed a w hl b;have y:=mf hl;have N:listed=gG ops.size n:=by
   apply Array.ext_getElem?;intro i;have a2:=b.head.size;unfold gG
   by_cases k:i<n
   .have:=y i k;have c:i<listed.size:=by omega
    simp only[c,Array.getD_eq_getD_getElem?,Array.getElem?_eq_getElem,Option.getD_some]at this;rw[Array.getElem?_append_left (by simpa using k)];simp[c,k,this]
   .by_cases x:i<ops.size
    .have:=b.head.tail i (by omega) x;have c:i<listed.size:=by omega
     simp only[c,Array.getD_eq_getD_getElem?,Array.getElem?_eq_getElem,Option.getD_some]at this;rw[Array.getElem?_append_right (by simpa using k)];simp only[c,Array.getElem?_eq_getElem,this];rw[Array.getElem?_replicate,if_pos (by simp;omega)]
    .rw [Array.getElem?_eq_none (by omega),Array.getElem?_eq_none (by simp;omega)]
  obtain⟨l,Y,Z⟩:=b.fill;have hk:aE V l w (List.range n):=jD fun j p=>Z j (List.mem_range.1 p) (by
   have:=y j (List.mem_range.1 p);have a1:=List.mem_range.1 p
   rwa [jy (by rw[b.head.size];omega) true false]at this)
  have:=hQ l w b.ext hk;rw[<-Y]at this;rw[Nat.zero_add];have x:=wpAny_of_seq (md:=.any) (Q':=Q) (ops.toList.drop n) n listed a w (fun j=>by simp[List.getElem?_drop]) (by rw[N];simpa using W) this;simpa using x
 | succ f ih =>
  intro listed a w hl b;rw[show f+1+(ops.size - n)=(f+(ops.size - n))+1 by omega]
  -- one of the head is yet to come
  have O:∃i,i<n/\listed.getD i true=false:=by
   have k:0<((List.range n).filter fun i=>!listed.getD i true).length:=by unfold left at hl;omega
   obtain⟨i,c⟩:=List.exists_mem_of_length_pos k;simp only[List.mem_filter,List.mem_range]at c;exact⟨i,c.1,by simpa using c.2⟩
  have t:∃i,i<n/\i∈Region.ready .any ops listed:=by
   obtain⟨i,c,J⟩:=O
   revert c J
   induction i using Nat.strongRecOn with
   | _ i av =>
    intro c J;have q:i<ops.size:=by omega
    by_cases T:i∈Region.ready .any ops listed
    .exact ⟨i,c,T⟩
    .have r:ops[i]? = some ops[i]:=Array.getElem?_eq_getElem q;have L:=List.all_eq_true.1 d i (List.mem_range.2 q);rw[r]at L;simp only[Option.map_some,Option.getD_some]at L;have:∃e∈ops[i].after,Region.binds .any e=true/\listed.getD e.on false=false:=by
      apply Classical.byContradiction;intro ai;apply T;rw[mem_ready];refine⟨J,ops[i],r,fun e M E=>?_⟩
      cases hq:listed.getD e.on false with
      | true=>rfl
      | false=>exact absurd ⟨e,M,E,hq⟩ ai
     obtain⟨e,M,E,hq⟩:=this;have z:=Array.all_eq_true'.1 L e M;simp only[E,Bool.not_true,Bool.false_or,decide_eq_true_eq]at z;exact av e.on z (by omega) (getD_in (by rw[b.head.size];omega) hq)
  refine⟨fun h0=>?_,fun i c=>?_⟩
  .obtain ⟨i,_,T⟩:=t;rw[h0]at T;cases T
  .have G:i<n:=by
    rcases Nat.lt_or_ge i n with h | h
    .exact h
    .exfalso;rcases I with x | ⟨⟨q,au⟩,aa⟩
     .obtain ⟨_,o,r,_⟩:=mem_ready.1 c;have:=(Array.getElem?_eq_some_iff.1 r).1;omega
     .obtain ⟨j,p,J⟩:=O;exact tail_waits au aa q b.head _ j rfl p J i h c
   obtain⟨J,o,r,hw⟩:=mem_ready.1 c;obtain⟨l,Y,Z⟩:=b.fill;have S:(ops.toList.take n)[i]? = some o:=by simp[G,r]
   have X:=qE hs i o S;rw[Nat.zero_add]at X;have ad:aE V l w (D.getD i []):=jD fun j p=>by
    have k:=List.all_eq_true.1 F i (List.mem_range.2 (by omega));have x:=List.all_eq_true.1 k j p;obtain⟨o',am,e,M,L,ao⟩:=Region.waitsFor_spec x;have:o'=o:=Option.some.inj (am.symm.trans r);subst this;have h3:=hw e M L;rw[ao]at h3;have ab:j<n:=by
     have B:=List.all_eq_true.1 d i (List.mem_range.2 (by omega));rw[r]at B;simp only[Option.map_some,Option.getD_some]at B;have h4:=Array.all_eq_true'.1 B e M;simp only[L,Bool.not_true,Bool.false_or,decide_eq_true_eq]at h4;omega
    exact Z j ab h3
   have g:=X l w b.ext ad (fun u A=>le w A/\aH V i u A) (fun u A k x=>⟨k,x⟩);rw[<-Y]at g;have U:=ku (P:=P) (ops:=ops) (Q:=Q) (K:=wpAny P .any ops Q (f+(ops.size - n)) (listed.setIfInBounds i true)) (fun u A h=>by
    refine ih (listed.setIfInBounds i true) (a.put o.dst u) A ?_ ⟨b.head.set c G,hC _ _ b.ext h.1,upd l i u,?_,?_⟩
    .have:=lh G J;omega
    .rw [Y,jx l u (ops.toList.take n) 0 i a0 o ag S,Nat.zero_add]
    .intro j p R
     by_cases H:j=i
     .subst H;simpa [upd]using h.2
     .rw [getD_set_ne false (Ne.symm H)]at R;simp only[upd,H,if_false];exact lF hV j _ _ _ h.1 (Z j p R)) g
   unfold wpOp;simp only[r];exact U
variable {id:Nat} {l:List Oper}
theorem mQ {Q:Exit->Act->World->Prop} (n:Nat) (V:List (Value->World->Prop)) (D:List (List Nat))
  (u:P.follows .mixedOrders=true) (o:∀w c,C w->le w c->C c) (g:C { w with drawn:=w.drawn+1 }) (e:iU l.toArray n D=true) (q:ef le V)
  (x:ay P C le l.toArray V D (l.take n) a (l.take n) 0)
  (p:∀h c,C c->aE V h c (List.range n)->wpList P l.toArray Q (l.drop n) (af h (l.take n) 0 a) c) :
  (Code.region id l.toArray true).wp P Q a w:=by
 refine wp_region_any u ?_;have z:n<=l.toArray.size:=by
  simp only[iU,Bool.and_eq_true,decide_eq_true_eq]at e;exact e.1.1.1.1.1
 obtain⟨d,k⟩:=jZ (l.take n) 0 a;have b:left n (Array.replicate l.toArray.size false)=n:=by
  unfold left;rw[List.filter_eq_self.2]
  .simp
  .intro i r;have:i<l.toArray.size:=by have:=List.mem_range.1 r;omega
   simp at this;simp[this]
 have H:=Ac (P:=P) (C:=C) (le:=le) (Q:=Q) (a0:=a) o e q (by simpa using x) (by simpa using p) n (Array.replicate l.toArray.size false) a { w with drawn:=w.drawn+1 } b
  ⟨⟨by simp,fun j A _ b=>(by rw[getD_replicate_false]at b;cases b),fun t _ y=>getD_in (by simpa using y) (getD_replicate_false _ _)⟩,
   g,d,by simpa using(k d (fun _ _=>rfl)).symm,fun j _ b=>(by rw[getD_replicate_false]at b;cases b)⟩
 rw[show n+(l.toArray.size - n)=l.toArray.size by omega]at H;exact H
theorem sg {Q:Exit->Act->World->Prop} (n:Nat) (V:List (Value->World->Prop)) (D:List (List Nat))
  (j:P.follows .mixedOrders=true) (d:iU l.toArray n D=true) (g:ef Ext V)
  (o:ay P (Ext w) Ext l.toArray V D (l.take n) a (l.take n) 0)
  (e:∀c b,Ext w b->aE V c b (List.range n)->wpList P l.toArray Q (l.drop n) (af c (l.take n) 0 a) b) :
  (Code.region id l.toArray true).wp P Q a w :=
 mQ (C:=Ext w) (le:=Ext) n V D j (fun _ _ h k=>Ext.trans h k) ⟨rfl,rfl,rfl,Nat.le_refl _,fun _ _=>rfl⟩ d g o e
def aq:List Value->List (Option (Value->World->Prop))->List (Value->World->Prop)
 | c::b,none::l=>(fun u _=>u=c)::aq b l
 | _::b,some V::l=>V::aq b l
 | _,_=>[]
def nr:List (Option (Value->World->Prop))->Prop
 | []=>True
 | none::l=>nr l
 | some V::l=>(∀u w b,Ext w b->V u w->V u b)/\nr l
theorem lE:∀(cs:List Value) (l:List (Option (Value->World->Prop))),nr l->ef Ext (aq cs l)
 | [],[],_=>trivial
 | [],_::_,_=>trivial
 | _::_,[],_=>trivial
 | _::cs,none::l,h=>⟨fun _ _ _ _ a=>a,lE cs l h⟩
 | _::cs,some _::l,h=>⟨h.1,lE cs l h.2⟩
def aG:List Value->List (Option (Value->World->Prop))->Nat->(Nat->Value)->World->Prop
 | c::d,none::l,k,b,w=>b k=c/\aG d l (k+1) b w
 | _::d,some V::l,k,b,w=>V (b k) w/\aG d l (k+1) b w
 | _,_,_,_,_=>True
theorem kF (xs:Nat->Value) (w:World):∀(cs:List Value) (l:List (Option (Value->World->Prop))) (k:Nat),(∀j,j<(aq cs l).length->aH (aq cs l) j (xs (k+j)) w)->aG cs l k xs w
 | [],[],_,_=>trivial
 | [],_::_,_,_=>trivial
 | _::_,[],_,_=>trivial
 | c::cs,none::l,k,h=>⟨by simpa [aH,aq]using h 0 (by simp[aq]),kF xs w cs l (k+1) fun j b=>by
   have:=h (j+1) (by simp[aq];omega);rw[show k+(j+1)=k+1+j by omega]at this;simpa [aH,aq]using this⟩
 | c::cs,some V::l,k,h=>⟨by simpa [aH,aq]using h 0 (by simp[aq]),kF xs w cs l (k+1) fun j b=>by
   have:=h (j+1) (by simp[aq];omega);rw[show k+(j+1)=k+1+j by omega]at this;simpa [aH,aq]using this⟩
theorem j' {V:List (Value->World->Prop)} {xs:Nat->Value} {w:World}:∀ {l:List Nat},aE V xs w l->∀j∈l,aH V j (xs j) w
 | [],_,_,h=>by simp at h
 | i::l,h,j,b=>by
  rcases List.mem_cons.1 b with rfl | b
  .exact h.1
  .exact j' h.2 j b
theorem ak {Q:Exit->Act->World->Prop} (n:Nat) (cs:List Value) (W:List (Option (Value->World->Prop))) (D:List (List Nat))
  (o:P.follows .mixedOrders=true) (g:iU l.toArray n D=true) (r:(aq cs W).length<=n) (k:nr W)
  (p:ay P (Ext w) Ext l.toArray (aq cs W) D (l.take n) a (l.take n) 0)
  (h:∀c b,Ext w b->aG cs W 0 c b->wpList P l.toArray Q (l.drop n) (af c (l.take n) 0 a) b) :
  (Code.region id l.toArray true).wp P Q a w :=
 sg n (aq cs W) D o g (lE cs W k) p fun c b d e=>h c b d (kF c b cs W 0 fun j q=>by
  rw[Nat.zero_add];exact j' e j (List.mem_range.2 (by omega)))
def zD (ops:Array Oper) (k j:Nat):Bool:=match ops[k]?,(ops[j]?).bind (·.dst)with
 | some o,some t=>(o.looksAt ops).contains t
 | _,_=>false
def qtD (ops:Array Oper):List (List Nat):=(List.range ops.size).map fun k=>(List.range k).filter (zD ops k)
def FA (ops:Array Oper) (n:Nat):Bool:=(List.range n).all fun k=>(List.range n).all fun j=>decide (j<k) || !zD ops k j
def qtB (ops:Array Oper) (n:Nat):Bool:=iU ops n (qtD ops) && FA ops n && Region.noSelect ops
end
end
end Go.Proofs.YtgfegpnmlkdjfaaGreatDoor
