/- Contracts of the program's functions and plain laws behind the card. Conditions: as each theorem states. -/
import Derived.WalkKit
import Derived.StillTail
import Derived.Lib.QuietBelow
import Derived.Test.YtfabjgfmiaammaaGreatDoorShelf
import Derived.WalkSpells
import Derived.WalkLawsBesides
import Derived.Lib.Hide
import Derived.Lib.SmallJoins
import Derived.Deep.QuietTactic
import Derived.BigQuiet
import Derived.Lib.Split
import Derived.Lib.SplitLaws
import Derived.Lib.SlBytesRow
set_option linter.unusedVariables false
set_option linter.unusedSimpArgs false
set_option linter.unusedSectionVars false
set_option maxRecDepth 100000
set_option maxHeartbeats 64000000
namespace Go.Proofs.YtfabjgfmiaammaaGreatDoor
section
open Go Go.RowKit
abbrev Ext (w w':World):Prop:=Below w.heap.size w w'
theorem Ext.trans {a b c:World} (h:Ext a b) (k:Ext b c):Ext a c:=Below.trans h (k.mono h.size)
section
variable {P:Program} {C:World->Prop} {le:World->World->Prop}
def aa (xs:Nat->Value):List Oper->Nat->Act->Act
 | [],_,a=>a
 | o::l,k,a=>aa xs l (k+1) (a.put o.dst (xs k))
def eN (P:Program) (R:Value->World->Prop):Result Next->Prop
 | .ok (.value u) a=>R u a
 | .ok .skip a=>R undef a
 | .ok (.enter f args) a=>Calls P f args a (fun e b=>∃v,e=.returned v/\R v b)
 | _=>False
def aO (V:List (Value->World->Prop)) (k:Nat):Value->World->Prop:=V.getD k (fun _ _=>True)
def aK (V:List (Value->World->Prop)) (xs:Nat->Value) (w:World):List Nat->Prop
 | []=>True
 | j::l=>aO V j (xs j) w/\aK V xs w l
variable {xs:Nat->Value} {w:World}
theorem iS {V:List (Value->World->Prop)}:∀ {l:List Nat},(∀j∈l,aO V j (xs j) w)->aK V xs w l
 | [],_=>trivial
 | j::l,h=>⟨h j (by simp),iS fun i a=>h i (by simp[a])⟩
def aA (P:Program) (C:World->Prop) (le:World->World->Prop) (ops:Array Oper) (V:List (Value->World->Prop)) (head:List Oper) (a0:Act) (k:Nat) (d:List Nat) (o:Oper):Prop :=
 ∀(xs:Nat->Value) (w:World),C w->aK V xs w d->∀R:Value->World->Prop,(∀u a,le w a->aO V k u a->R u a) ->
  if Region.wanted o (yielded ops (aa xs head 0 a0).tmps)then eN P R ((execOp (aa xs head 0 a0).eval o).run P w)else R undef w
def aw (P:Program) (C:World->Prop) (le:World->World->Prop) (ops:Array Oper) (V:List (Value->World->Prop)) (D:List (List Nat)) (head:List Oper) (a0:Act):List Oper->Nat->Prop
 | [],_=>True
 | o::l,k=>aA P C le ops V head a0 k (D.getD k []) o/\aw P C le ops V D head a0 l (k+1)
def eG (le:World->World->Prop):List (Value->World->Prop)->Prop
 | []=>True
 | p::l=>(∀u w a,le w a->p u w->p u a)/\eG le l
theorem ka:∀ {V:List (Value->World->Prop)},eG le V->∀k u w a,le w a->aO V k u w->aO V k u a
 | [],_,k,_,_,_,_,_=>by simp[aO]
 | p::l,h,0,u,w,a,b,c=>by simpa [aO]using h.1 u w a b (by simpa [aO]using c)
 | p::l,h,k+1,u,w,a,b,c=>by
  have:=ka h.2 k u w a b (by simpa [aO]using c);simpa [aO]using this
variable {ops:Array Oper} {D:List (List Nat)} {a0:Act}
theorem oq {V:List (Value->World->Prop)} {head:List Oper}:
  ∀ {l:List Oper} {k:Nat},aw P C le ops V D head a0 l k->∀i o,l[i]? = some o->aA P C le ops V head a0 (k+i) (D.getD (k+i) []) o
 | [],_,_,i,o,h=>by simp at h
 | p::l,k,h,0,o,a=>by
  have:p=o:=by simpa using a
  subst this;exact h.1
 | p::l,k,h,i+1,o,a=>by
  have:=oq h.2 i o (by simpa using a)
  rwa [show k+1+i=k+(i+1)by omega]at this
def eQ (l:List Oper):List Tmp:=l.filterMap (·.dst)
theorem zF (a:Act) (d:Option Tmp) (u v:Value):(a.put d u).put d v=a.put d v:=by
 cases d with
 | none=>rfl
 | some d=>simp[Act.put]
theorem kT (xs:Nat->Value) (d:Option Tmp) (u:Value):∀(l:List Oper) (k:Nat) (a:Act),(∀t,d=some t->t∉eQ l) ->
  (aa xs l k a).put d u=aa xs l k (a.put d u)
 | [],_,_,_=>rfl
 | o::l,k,a,h=>by
  simp only[aa];rw[kT xs d u l (k+1) _ (fun t b e=>h t b (by
   unfold eQ at *;rw[List.filterMap_cons];split <;> simp_all))]
  rw[Act.put_comm a (xs k) u (fun t b c=>h t c (by simp[eQ,List.filterMap_cons,b]))]
theorem ng {ys:Nat->Value}:∀(l:List Oper) (k:Nat) (a:Act),(∀i,k<=i->xs i=ys i)->aa xs l k a=aa ys l k a
 | [],_,_,_=>rfl
 | o::l,k,a,h=>by
  simp only[aa];rw[h k (Nat.le_refl _)];exact ng l (k+1) _ (fun i b=>h i (by omega))
def upd (xs:Nat->Value) (i:Nat) (u:Value):Nat->Value:=fun j=>if j=i then u else xs j
theorem iT (xs:Nat->Value) (u:Value):∀(l:List Oper) (k i:Nat) (a:Act) (o:Oper),(eQ l).Nodup->l[i]? = some o ->
  (aa xs l k a).put o.dst u=aa (upd xs (k+i) u) l k a
 | [],_,i,_,_,_,h=>by simp at h
 | p::l,k,0,a,o,b,h=>by
  have:p=o:=by simpa using h
  subst this;simp only[aa];rw[kT xs p.dst u l (k+1) _ (fun t d e=>by
   have:eQ (p::l)=t::eQ l:=by simp[eQ,List.filterMap_cons,d]
   rw[this]at b;exact(List.nodup_cons.1 b).1 e),zF]
  rw[ng (xs:=xs) (ys:=upd xs (k+0) u) l (k+1) _ (fun i g=>by simp[upd];omega)];simp[upd]
 | p::l,k,i+1,a,o,b,h=>by
  simp only[aa];have c:(eQ l).Nodup:=by
   unfold eQ at *;rw[List.filterMap_cons]at b;split at b
   .exact b
   .exact (List.nodup_cons.1 b).2
  rw[iT xs u l (k+1) i _ o c (by simpa using h)];rw[show k+1+i=k+(i+1)by omega];simp[upd]
theorem xA (a:Act) (t:Tmp):a.put (some t) (a.tmps.getD t undef)=a:=by
 cases a with
 | mk b c =>
  simp only[Act.put];congr 1;apply Array.ext_getElem?;intro i
  by_cases h:t=i
  .subst h
   by_cases d:t<b.size
   iterate 2
    .simp [d]
  .simp [Array.getElem?_setIfInBounds_ne h]
theorem jp:∀(l:List Oper) (k:Nat) (a:Act),∃xs:Nat->Value,∀b:Nat->Value,(∀i,k<=i->b i=xs i)->aa b l k a=a
 | [],_,_=>⟨fun _=>undef,fun _ _=>rfl⟩
 | o::l,k,a=>by
  obtain⟨xs,h⟩:=jp l (k+1) a;refine⟨fun j=>if j=k then(match o.dst with | some t=>a.tmps.getD t undef | none=>undef)else xs j,fun b c=>?_⟩;simp only[aa];have d:a.put o.dst (b k)=a:=by
   rw[c k (Nat.le_refl _)]
   cases e:o.dst with
   | none=>rfl
   | some t=>simpa using xA a t
  rw[d];exact h b (fun i g=>by rw[c i (by omega)];simp;omega)
def left (n:Nat) (a:Array Bool):Nat:=((List.range n).filter fun i=>!a.getD i true).length
variable {n i:Nat} {listed:Array Bool}
theorem ke (e:i<n) (h:listed.getD i true=false):left n listed=left n (listed.setIfInBounds i true)+1:=by
 have g:i<listed.size:=by
  rcases Nat.lt_or_ge i listed.size with b | b
  .exact b
  .simp [Array.getElem?_eq_none b]at h
 unfold left;have c:((List.range n).filter fun j=>!(listed.setIfInBounds i true).getD j true)=((List.range n).filter fun j=>!listed.getD j true).erase i:=by
  rw[List.Nodup.erase_eq_filter (List.Pairwise.filter _ List.nodup_range),List.filter_filter];apply List.filter_congr;intro j _
  by_cases d:j=i
  .subst d;simp[g]
  .rw [getD_set_ne true (Ne.symm d)];simp[d]
 rw[c,List.length_erase_of_mem]
 .have:0<((List.range n).filter fun j=>!listed.getD j true).length:=List.length_pos_of_mem (a:=i) (by simp only[List.mem_filter,List.mem_range];exact⟨e,by simpa using h⟩);omega
 .simp only[List.mem_filter,List.mem_range];exact⟨e,by simpa using h⟩
theorem kU (h:left n listed=0):∀i,i<n->listed.getD i true=true:=by
 intro i a
 cases b:listed.getD i true with
 | true=>rfl
 | false=>have:=ke a b;omega
def zv (ops:Array Oper):Bool:=(List.range ops.size).all fun k=>((ops[k]?).map fun o=>o.after.all fun e=>!Region.binds .any e || decide (e.on<k)).getD true
def zw (ops:Array Oper) (D:List (List Nat)):Bool:=(List.range ops.size).all fun k=>(D.getD k []).all fun j=>Region.waitsFor .any ops k j
def fP (m n:Nat):Array Bool:=(Array.replicate n true)++(Array.replicate (m - n) false)
def jK (ops:Array Oper) (n:Nat) (D:List (List Nat)):Bool :=
 decide (n<=ops.size) && zv ops && zw ops D && decide (eQ (ops.toList.take n)).Nodup &&
 (decide (n=ops.size) || (decide (n<ops.size) && Region.sinkB .any ops n && Region.chainB .any ops n)) &&
 Region.seqB .any ops (ops.size - n) n (fP ops.size n)
structure AH (C:World->Prop) (ops:Array Oper) (n:Nat) (V:List (Value->World->Prop)) (a0:Act) (listed:Array Bool) (a:Act) (w:World):Prop where
 head:HeadInv .any ops n listed
 ext:C w
 fill:∃xs:Nat->Value,a=aa xs (ops.toList.take n) 0 a0/\∀j,j<n->listed.getD j false=true->aO V j (xs j) w
theorem iU (a:i<listed.size) (x y:Bool):listed.getD i x=listed.getD i y:=by simp[a]
variable {a:Act}
theorem jq {o:Oper} {R:Value->World->Prop} {K:Act->World->Prop} {Q:Exit->Act->World->Prop}
  (b:∀u c,R u c->K (a.put o.dst u) c) (h:if Region.wanted o (yielded ops a.tmps)then eN P R ((execOp a.eval o).run P w)else R undef w) :
  if Region.wanted o (yielded ops a.tmps)then o.wp P a w K Q\/(o.asks P a w/\LetsOut Q)else K (a.put o.dst undef) w:=by
 split
 .rename_i d;rw[if_pos d]at h;refine .inl ?_;unfold Oper.wp;generalize(execOp a.eval o).run P w=r at *
  cases r with
  | ok g c =>
   cases g <;> simp only[eN]at h <;> simp only[Oper.upon]
   case value u=>exact b _ _ h
   case skip=>exact b _ _ h
   case enter f args=>exact h.mono fun e i ⟨v,j,k⟩=>by subst j;exact b _ _ k
  | halt x c=>simp only[eN]at h
 .rename_i d;rw[if_neg d]at h;exact b _ _ h
theorem uS {V:List (Value->World->Prop)} {Q:Exit->Act->World->Prop} (hC:∀w t,C w->le w t->C t)
  (hB:jK ops n D=true) (hV:eG le V) (hs:aw P C le ops V D (ops.toList.take n) a0 (ops.toList.take n) 0)
  (hQ:∀xs w,C w->aK V xs w (List.range n)->wpList P ops Q (ops.toList.drop n) (aa xs (ops.toList.take n) 0 a0) w) :
  ∀(f:Nat) (listed:Array Bool) (a:Act) (w:World),left n listed=f->AH C ops n V a0 listed a w->wpAny P .any ops Q (f+(ops.size - n)) listed a w:=by
 simp only[jK,Bool.and_eq_true,Bool.or_eq_true,decide_eq_true_eq]at hB;obtain⟨⟨⟨⟨⟨hn,d⟩,A⟩,Z⟩,B⟩,M⟩:=hB;intro f
 induction f with
 | zero =>
  intro listed a w hl b;have x:=kU hl;have N:listed=fP ops.size n:=by
   apply Array.ext_getElem?;intro i;have a7:=b.head.size;unfold fP
   by_cases k:i<n
   .have:=x i k;have c:i<listed.size:=by omega
    simp only[c,Array.getD_eq_getD_getElem?,Array.getElem?_eq_getElem,Option.getD_some]at this;rw[Array.getElem?_append_left (by simpa using k)];simp[c,k,this]
   .by_cases y:i<ops.size
    .have:=b.head.tail i (by omega) y;have c:i<listed.size:=by omega
     simp only[c,Array.getD_eq_getD_getElem?,Array.getElem?_eq_getElem,Option.getD_some]at this;rw[Array.getElem?_append_right (by simpa using k)];simp only[c,Array.getElem?_eq_getElem,this];rw[Array.getElem?_replicate,if_pos (by simp;omega)]
    .rw [Array.getElem?_eq_none (by omega),Array.getElem?_eq_none (by simp;omega)]
  obtain⟨xs,X,Y⟩:=b.fill;have hk:aK V xs w (List.range n):=iS fun j l=>Y j (List.mem_range.1 l) (by
   have:=x j (List.mem_range.1 l);have a8:=List.mem_range.1 l
   rwa [iU (by rw[b.head.size];omega) true false]at this)
  have:=hQ xs w b.ext hk;rw[<-X]at this;rw[Nat.zero_add];have y:=wpAny_of_seq (md:=.any) (Q':=Q) (ops.toList.drop n) n listed a w (fun j=>by simp[List.getElem?_drop]) (by rw[N];simpa using M) this;simpa using y
 | succ f ih =>
  intro listed a w hl b;rw[show f+1+(ops.size - n)=(f+(ops.size - n))+1 by omega];have O:∃i,i<n/\listed.getD i true=false:=by
   have k:0<((List.range n).filter fun i=>!listed.getD i true).length:=by unfold left at hl;omega
   obtain⟨i,c⟩:=List.exists_mem_of_length_pos k;simp only[List.mem_filter,List.mem_range]at c;exact⟨i,c.1,by simpa using c.2⟩
  have p:∃i,i<n/\i∈Region.ready .any ops listed:=by
   obtain⟨i,c,E⟩:=O
   revert c E
   induction i using Nat.strongRecOn with
   | _ i ad =>
    intro c E;have q:i<ops.size:=by omega
    by_cases R:i∈Region.ready .any ops listed
    .exact ⟨i,c,R⟩
    .have r:ops[i]? = some ops[i]:=Array.getElem?_eq_getElem q;have J:=List.all_eq_true.1 d i (List.mem_range.2 q);rw[r]at J;simp only[Option.map_some,Option.getD_some]at J;have:∃e∈ops[i].after,Region.binds .any e=true/\listed.getD e.on false=false:=by
      apply Classical.byContradiction;intro au;apply R;rw[mem_ready];refine⟨E,ops[i],r,fun e L F=>?_⟩
      cases hq:listed.getD e.on false with
      | true=>rfl
      | false=>exact absurd ⟨e,L,F,hq⟩ au
     obtain⟨e,L,F,hq⟩:=this;have z:=Array.all_eq_true'.1 J e L;simp only[F,Bool.not_true,Bool.false_or,decide_eq_true_eq]at z;exact ad e.on z (by omega) (getD_in (by rw[b.head.size];omega) hq)
  refine⟨fun h0=>?_,fun i c=>?_⟩
  .obtain ⟨i,_,R⟩:=p;rw[h0]at R;cases R
  .have G:i<n:=by
    rcases Nat.lt_or_ge i n with h | h
    .exact h
    .exfalso;rcases B with y | ⟨⟨q,a1⟩,a2⟩
     .obtain ⟨_,o,r,_⟩:=mem_ready.1 c;have:=(Array.getElem?_eq_some_iff.1 r).1;omega
     .obtain ⟨j,l,E⟩:=O;exact tail_waits a1 a2 q b.head _ j rfl l E i h c
   obtain⟨E,o,r,hw⟩:=mem_ready.1 c;obtain⟨xs,X,Y⟩:=b.fill;have S:(ops.toList.take n)[i]? = some o:=by simp[G,r]
   have T:=oq hs i o S;rw[Nat.zero_add]at T;have a3:aK V xs w (D.getD i []):=iS fun j l=>by
    have k:=List.all_eq_true.1 A i (List.mem_range.2 (by omega));have y:=List.all_eq_true.1 k j l;obtain⟨o',a4,e,L,J,a5⟩:=Region.waitsFor_spec y;have:o'=o:=Option.some.inj (a4.symm.trans r);subst this;have h3:=hw e L J;rw[a5]at h3;have a6:j<n:=by
     have H:=List.all_eq_true.1 d i (List.mem_range.2 (by omega));rw[r]at H;simp only[Option.map_some,Option.getD_some]at H;have h4:=Array.all_eq_true'.1 H e L;simp only[J,Bool.not_true,Bool.false_or,decide_eq_true_eq]at h4;omega
    exact Y j a6 h3
   have g:=T xs w b.ext a3 (fun u t=>le w t/\aO V i u t) (fun u t k y=>⟨k,y⟩);rw[<-X]at g;have U:=jq (P:=P) (ops:=ops) (Q:=Q) (K:=wpAny P .any ops Q (f+(ops.size - n)) (listed.setIfInBounds i true)) (fun u t h=>by
    refine ih (listed.setIfInBounds i true) (a.put o.dst u) t ?_ ⟨b.head.set c G,hC _ _ b.ext h.1,upd xs i u,?_,?_⟩
    .have:=ke G E;omega
    .rw [X,iT xs u (ops.toList.take n) 0 i a0 o Z S,Nat.zero_add]
    .intro j l W
     by_cases I:j=i
     .subst I;simpa [upd]using h.2
     .rw [getD_set_ne false (Ne.symm I)]at W;simp only[upd,I,if_false];exact ka hV j _ _ _ h.1 (Y j l W)) g
   unfold wpOp;simp only[r];exact U
variable {id:Nat} {l:List Oper}
theorem qj {Q:Exit->Act->World->Prop} (n:Nat) (V:List (Value->World->Prop)) (D:List (List Nat))
  (h:P.follows .mixedOrders=true) (k:∀w c,C w->le w c->C c) (e:C { w with drawn:=w.drawn+1 }) (g:jK l.toArray n D=true) (o:eG le V)
  (p:aw P C le l.toArray V D (l.take n) a (l.take n) 0)
  (q:∀xs c,C c->aK V xs c (List.range n)->wpList P l.toArray Q (l.drop n) (aa xs (l.take n) 0 a) c) :
  (Code.region id l.toArray true).wp P Q a w:=by
 refine wp_region_any h ?_;have y:n<=l.toArray.size:=by
  simp only[jK,Bool.and_eq_true,decide_eq_true_eq]at g;exact g.1.1.1.1.1
 obtain⟨d,r⟩:=jp (l.take n) 0 a;have b:left n (Array.replicate l.toArray.size false)=n:=by
  unfold left;rw[List.filter_eq_self.2]
  .simp
  .intro i u;have:i<l.toArray.size:=by have:=List.mem_range.1 u;omega
   simp at this;simp[this]
 have H:=uS (P:=P) (C:=C) (le:=le) (Q:=Q) (a0:=a) k g o (by simpa using p) (by simpa using q) n (Array.replicate l.toArray.size false) a { w with drawn:=w.drawn+1 } b
  ⟨⟨by simp,fun j z _ b=>(by rw[getD_replicate_false]at b;cases b),fun t _ x=>getD_in (by simpa using x) (getD_replicate_false _ _)⟩,
   e,d,by simpa using(r d (fun _ _=>rfl)).symm,fun j _ b=>(by rw[getD_replicate_false]at b;cases b)⟩
 rw[show n+(l.toArray.size - n)=l.toArray.size by omega]at H;exact H
theorem pU {Q:Exit->Act->World->Prop} (n:Nat) (V:List (Value->World->Prop)) (D:List (List Nat))
  (c:P.follows .mixedOrders=true) (d:jK l.toArray n D=true) (e:eG Ext V)
  (g:aw P (Ext w) Ext l.toArray V D (l.take n) a (l.take n) 0)
  (j:∀xs b,Ext w b->aK V xs b (List.range n)->wpList P l.toArray Q (l.drop n) (aa xs (l.take n) 0 a) b) :
  (Code.region id l.toArray true).wp P Q a w :=
 qj (C:=Ext w) (le:=Ext) n V D c (fun _ _ h k=>Ext.trans h k) ⟨rfl,rfl,rfl,Nat.le_refl _,fun _ _=>rfl⟩ d e g j
def ak:List Value->List (Option (Value->World->Prop))->List (Value->World->Prop)
 | c::b,none::l=>(fun u _=>u=c)::ak b l
 | _::b,some V::l=>V::ak b l
 | _,_=>[]
def lO:List (Option (Value->World->Prop))->Prop
 | []=>True
 | none::l=>lO l
 | some V::l=>(∀u w b,Ext w b->V u w->V u b)/\lO l
theorem kf:∀(cs:List Value) (l:List (Option (Value->World->Prop))),lO l->eG Ext (ak cs l)
 | [],[],_=>trivial
 | [],_::_,_=>trivial
 | _::_,[],_=>trivial
 | _::cs,none::l,h=>⟨fun _ _ _ _ a=>a,kf cs l h⟩
 | _::cs,some _::l,h=>⟨h.1,kf cs l h.2⟩
def aP:List Value->List (Option (Value->World->Prop))->Nat->(Nat->Value)->World->Prop
 | c::b,none::l,k,xs,w=>xs k=c/\aP b l (k+1) xs w
 | _::b,some V::l,k,xs,w=>V (xs k) w/\aP b l (k+1) xs w
 | _,_,_,_,_=>True
theorem lP (xs:Nat->Value) (w:World):∀(cs:List Value) (l:List (Option (Value->World->Prop))) (k:Nat),(∀j,j<(ak cs l).length->aO (ak cs l) j (xs (k+j)) w)->aP cs l k xs w
 | [],[],_,_=>trivial
 | [],_::_,_,_=>trivial
 | _::_,[],_,_=>trivial
 | c::cs,none::l,k,h=>⟨by simpa [aO,ak]using h 0 (by simp[ak]),lP xs w cs l (k+1) fun j a=>by
   have:=h (j+1) (by simp[ak];omega);rw[show k+(j+1)=k+1+j by omega]at this;simpa [aO,ak]using this⟩
 | c::cs,some V::l,k,h=>⟨by simpa [aO,ak]using h 0 (by simp[ak]),lP xs w cs l (k+1) fun j a=>by
   have:=h (j+1) (by simp[ak];omega);rw[show k+(j+1)=k+1+j by omega]at this;simpa [aO,ak]using this⟩
theorem kV {V:List (Value->World->Prop)}:∀ {l:List Nat},aK V xs w l->∀j∈l,aO V j (xs j) w
 | [],_,_,h=>by simp at h
 | i::l,h,j,a=>by
  rcases List.mem_cons.1 a with rfl | a
  .exact h.1
  .exact kV h.2 j a
theorem aj {Q:Exit->Act->World->Prop} (n:Nat) (cs:List Value) (W:List (Option (Value->World->Prop))) (D:List (List Nat))
  (c:P.follows .mixedOrders=true) (d:jK l.toArray n D=true) (p:(ak cs W).length<=n) (e:lO W)
  (g:aw P (Ext w) Ext l.toArray (ak cs W) D (l.take n) a (l.take n) 0)
  (h:∀xs b,Ext w b->aP cs W 0 xs b->wpList P l.toArray Q (l.drop n) (aa xs (l.take n) 0 a) b) :
  (Code.region id l.toArray true).wp P Q a w :=
 pU n (ak cs W) D c d (kf cs W e) g fun xs b k o=>h xs b k (lP xs b cs W 0 fun j q=>by
  rw[Nat.zero_add];exact kV o j (List.mem_range.2 (by omega)))
end
end
section
open Go Go.RowKit
section
variable {P:Program} {C:World->Prop} {le:World->World->Prop} {ops:Array Oper}
def PureAt (P:Program) (ops:Array Oper) (o:Oper) (v:Value) (a:Act):Prop :=
 Region.wanted o (yielded ops a.tmps)=true/\∀w,(execOp a.eval o).run P w=.ok (.value v) w
variable {o:Oper} {v:Value} {a:Act}
theorem PureAt.put (h:PureAt P ops o v a) (e:∀g b,o.op≠.select g b) (d:Option Tmp) (u:Value) (c:∀t,d=some t->t∉o.looksAt ops):PureAt P ops o v (a.put d u) :=
 ⟨by rw[wanted_put o a d u c];exact h.1,by rw[execOp_put o e a d u c];exact h.2⟩
theorem PureAt.defers (h:PureAt P ops o v a) (b:List Deferred):PureAt P ops o v { a with defers:=b }:=h
variable {oi:Oper} {w:World}
theorem xC {j:Nat} {k:Oper} {Q:Exit->Act->World->Prop} (I:ops[j]? = some k) (t:oi.apart ops k=true)
  (i:∀y b,oi.op≠.select y b) (z:∀y b,k.op≠.select y b) (E:∀c a d u w,Q (.panic c) (Act.put a d u) w->Q (.panic c) a w)
  {K F:Act->World->Prop} (l:∀a w,PureAt P ops oi v a->K (a.put oi.dst v) w->F a w)
  (n:PureAt P ops oi v a) (h:wpOp P ops Q j K (a.put oi.dst v) w):wpOp P ops Q j F a w:=by
 obtain⟨G,H,p⟩:=Oper.apart_spec t;have g:∀(a:Act) u,(a.put oi.dst v).put k.dst u=(a.put k.dst u).put oi.dst v:=fun a u=>Act.put_comm a v u H
 unfold wpOp at *;simp only[I]at *;rw[wanted_put k a oi.dst v G]at h;split
 .rename_i A;rw[if_pos A]at h;have q:execOp (a.put oi.dst v).eval k=execOp a.eval k:=execOp_put k z a oi.dst v G;rcases h with h | ⟨h,J⟩
  .refine .inl ?_;unfold Oper.wp at *;rw[q]at h;generalize(execOp a.eval k).run P w=r at *
   cases r with
   | ok L M =>
    cases L <;> simp only[Oper.upon]at h ⊢
    case value u=>exact l _ _ (n.put i _ _ p) (by rw[<-g];exact h)
    case skip=>exact l _ _ (n.put i _ _ p) (by rw[<-g];exact h)
    case defer d =>
     refine l _ _ ((n.defers _).put i _ _ p) ?_;rw[Act.put_defers]at h;rw[<-Act.put_comm _ v undef H];exact h
    case enter f args =>
     refine h.mono fun e B D=>?_
     cases e with
     | returned u=>exact l _ _ (n.put i _ _ p) (by rw[<-g];exact D)
     | panicked c=>exact E _ _ _ _ _ D
     | outgrown=>exact D
    case row r args=>exact Rows.mono h (fun u B N=>l _ _ (n.put i _ _ p) (by rw[<-g];exact N))
   | halt x M =>
    cases x <;> simp only[Oper.upon]at h ⊢
    exact E _ _ _ _ _ h
  .refine .inr ⟨?_,J⟩;unfold Oper.asks at *
   rwa [q]at h
 .rename_i A;rw[if_neg A]at h;exact l _ _ (n.put i _ _ p) (by rw[<-g];exact h)
theorem rJ {md:Region.Mode} {Q:Exit->Act->World->Prop} {i:Nat} (T:ops[i]? = some oi) (r:∀(j:Nat) (o:Oper) B b,ops[j]? = some o->o.op≠.select B b)
  (U:∀c a d u w,Q (.panic c) (Act.put a d u) w->Q (.panic c) a w) :
  ∀(l:Nat) (g:Array Bool) (a:Act) (w:World),
   (∀j x,ops[j]? = some x->j≠i->g.getD j true=false->(∀e∈x.after,Region.binds md e=true->e.on≠i)->oi.apart ops x=true) ->
   i∈Region.ready md ops g->PureAt P ops oi v a ->
   wpAny P md ops Q l (g.setIfInBounds i true) (a.put oi.dst v) w->wpAny P md ops Q (l+1) g a w:=by
 have self:∀(K:Act->World->Prop) (a:Act) (w:World),PureAt P ops oi v a->K (a.put oi.dst v) w->wpOp P ops Q i K a w:=fun K a w y D=>by
  unfold wpOp;simp only[T];rw[if_pos y.1];refine .inl ?_;unfold Oper.wp;rw[y.2 w];exact D
 intro l
 induction l with
 | zero =>
  intro g a w _ z y H;refine⟨fun h=>(by rw[h]at z;cases z),fun j L=>?_⟩
  by_cases n:j=i
  .subst n;exact self _ _ _ y H
  .have:=ready_mono L n;rw[H.1]at this;cases this
 | succ l V =>
  intro g a w p z y H;refine⟨fun h=>(by rw[h]at z;cases z),fun j L=>?_⟩
  by_cases n:j=i
  .subst n;exact self _ _ _ y H
  .have M:=H.2 j (ready_mono L n);obtain⟨t,x,A,E⟩:=mem_ready.1 L;have F:∀e∈x.after,Region.binds md e=true->e.on≠i:=fun e W X N=>by
    have M:=E e W X;have Y:=(mem_ready.1 z).1;rw[N,getD_both Y]at M;cases M
   have q:∀k G,ops[k]? = some G->k≠i->(g.setIfInBounds j true).getD k true=false ->
     (∀e∈G.after,Region.binds md e=true->e.on≠i)->oi.apart ops G=true:=fun k G D O I R=>by
    refine p k G D O ?_ R
    by_cases J:j=k
    .subst J;exact t
    .rw [getD_set_ne true J]at I;exact I
   refine xC A (p j x A n t F) (fun B b=>r i oi B b T) (fun B b=>r j x B b A) U (fun Z w' S D=>V (g.setIfInBounds j true) Z w' q (ready_mono z (Ne.symm n)) S ?_) y M;rw[Array.setIfInBounds_comm _ _ n];exact D
def NoP (Q:Exit->Act->World->Prop):Exit->Act->World->Prop
 | .panic _,_,_=>False
 | e,a,w=>Q e a w
theorem NoP.intro {Q:Exit->Act->World->Prop} (h:Q .normal a w):NoP Q .normal a w:=h
end
end
section
open Go Go.RowKit
section
variable {P:Program} {C:World->Prop} {le:World->World->Prop} {ops:Array Oper} {md:Region.Mode}
def zx (md:Region.Mode) (ops:Array Oper) (n f:Nat):Bool :=
 (List.range n).all fun i=>decide (i=f) || (List.range (n+1)).any fun j=>decide (i<j) && Region.waitsFor md ops j i
variable {n:Nat}
theorem rK {f:Nat} {a:Array Bool} (H:zx md ops n f=true) (I:Region.chainB md ops n=true) (O:n<ops.size) (l:HeadInv md ops n a) (J:a.getD f true=true) :
  ∀(d i:Nat),n - i=d->i<n->a.getD i true=false->∀t,n<=t->t∉Region.ready md ops a:=by
 intro d
 induction d using Nat.strongRecOn with
 | _ d K =>
  intro i Q L c t R B;obtain⟨_,D,o,h⟩:=mem_ready.1 B;have p:t<ops.size:=(Array.getElem?_eq_some_iff.1 o).1
  by_cases x:t=n
  .subst x;have b:=List.all_eq_true.1 H i (List.mem_range.2 L);simp only[Bool.or_eq_true,decide_eq_true_eq]at b;rcases b with b | b
   .subst b;rw[J]at c;cases c
   obtain⟨j,M,q⟩:=List.any_eq_true.1 b;simp only[Bool.and_eq_true,decide_eq_true_eq]at q;obtain⟨E,r,e,u,w,g⟩:=Region.waitsFor_spec q.2;have F:j<=t:=by have:=List.mem_range.1 M;omega
   by_cases y:j=t
   .subst y;have:E=D:=Option.some.inj (r.symm.trans o);subst this;have k:=h e u w;rw[g,getD_both c]at k;cases k
   .cases G:a.getD j false with
    | true =>
     have k:=l.closed j E r G e u w;rw[g,getD_both c]at k;cases k
    | false =>
     have z:j<a.size:=by rw[l.size];omega
     exact K (t - j) (by omega) j rfl (by omega) (getD_in z G) t (Nat.le_refl _) B
  .have b:=List.all_eq_true.1 I t (List.mem_range.2 p);simp only[Bool.or_eq_true,decide_eq_true_eq]at b;rcases b with b | b
   .omega
   .obtain ⟨N,A,e,u,w,g⟩:=Region.waitsFor_spec b;have:N=D:=Option.some.inj (A.symm.trans o);subst this;have k:=h e u w;rw[g,getD_both (l.tail (t - 1) (by omega) (by omega))]at k;cases k
def qk (ops:Array Oper) (n f:Nat) (D:List (List Nat)):Bool :=
 decide (n<=ops.size) && zv ops && zw ops D && decide (eQ (ops.toList.take n)).Nodup &&
 (decide (n<ops.size) && zx .any ops n f && Region.chainB .any ops n) &&
 Region.seqB .any ops (ops.size - n) n (fP ops.size n)
theorem tO {ff:Nat} {V:List (Value->World->Prop)} {D:List (List Nat)} {a0:Act} {Q:Exit->Act->World->Prop} (hC:∀w x,C w->le w x->C x)
  (hB:qk ops n ff D=true) (hV:eG le V) (hs:aw P C le ops V D (ops.toList.take n) a0 (ops.toList.take n) 0)
  (hQ:∀l w,C w->aK V l w (List.range n)->wpList P ops Q (ops.toList.drop n) (aa l (ops.toList.take n) 0 a0) w) :
  ∀(f:Nat) (b:Array Bool) (a:Act) (w:World),left n b=f->b.getD ff true=true->AH C ops n V a0 b a w->wpAny P .any ops Q (f+(ops.size - n)) b a w:=by
 simp only[qk,Bool.and_eq_true,decide_eq_true_eq]at hB;obtain⟨⟨⟨⟨⟨hn,g⟩,A⟩,ad⟩,⟨⟨N,au⟩,a1⟩⟩,O⟩:=hB;intro f
 induction f with
 | zero =>
  intro b a w hl _ c;have y:=kU hl;have R:b=fP ops.size n:=by
   apply Array.ext_getElem?;intro i;have a9:=c.head.size;unfold fP
   by_cases p:i<n
   .have:=y i p;have d:i<b.size:=by omega
    simp only[d,Array.getD_eq_getD_getElem?,Array.getElem?_eq_getElem,Option.getD_some]at this;rw[Array.getElem?_append_left (by simpa using p)];simp[d,p,this]
   .by_cases B:i<ops.size
    .have:=c.head.tail i (by omega) B;have d:i<b.size:=by omega
     simp only[d,Array.getD_eq_getD_getElem?,Array.getElem?_eq_getElem,Option.getD_some]at this;rw[Array.getElem?_append_right (by simpa using p)];simp only[d,Array.getElem?_eq_getElem,this];rw[Array.getElem?_replicate,if_pos (by simp;omega)]
    .rw [Array.getElem?_eq_none (by omega),Array.getElem?_eq_none (by simp;omega)]
  obtain⟨l,ha,hx⟩:=c.fill;have hk:aK V l w (List.range n):=iS fun j q=>hx j (List.mem_range.1 q) (by
   have:=y j (List.mem_range.1 q);have a':=List.mem_range.1 q
   rwa [iU (by rw[c.head.size];omega) true false]at this)
  have:=hQ l w c.ext hk;rw[<-ha]at this;rw[Nat.zero_add];have B:=wpAny_of_seq (md:=.any) (Q':=Q) (ops.toList.drop n) n b a w (fun j=>by simp[List.getElem?_drop]) (by rw[R];simpa using O) this;simpa using B
 | succ f ih =>
  intro b a w hl E c;rw[show f+1+(ops.size - n)=(f+(ops.size - n))+1 by omega];have S:∃i,i<n/\b.getD i true=false:=by
   have p:0<((List.range n).filter fun i=>!b.getD i true).length:=by unfold left at hl;omega
   obtain⟨i,d⟩:=List.exists_mem_of_length_pos p;simp only[List.mem_filter,List.mem_range]at d;exact⟨i,d.1,by simpa using d.2⟩
  have r:∃i,i<n/\i∈Region.ready .any ops b:=by
   obtain⟨i,d,t⟩:=S
   revert d t
   induction i using Nat.strongRecOn with
   | _ i a2 =>
    intro d t;have T:i<ops.size:=by omega
    by_cases U:i∈Region.ready .any ops b
    .exact ⟨i,d,U⟩
    .have F:ops[i]? = some ops[i]:=Array.getElem?_eq_getElem T;have L:=List.all_eq_true.1 g i (List.mem_range.2 T);rw[F]at L;simp only[Option.map_some,Option.getD_some]at L;have:∃e∈ops[i].after,Region.binds .any e=true/\b.getD e.on false=false:=by
      apply Classical.byContradiction;intro a3;apply U;rw[mem_ready];refine⟨t,ops[i],F,fun e M G=>?_⟩
      cases hq:b.getD e.on false with
      | true=>rfl
      | false=>exact absurd ⟨e,M,G,hq⟩ a3
     obtain⟨e,M,G,hq⟩:=this;have z:=Array.all_eq_true'.1 L e M;simp only[G,Bool.not_true,Bool.false_or,decide_eq_true_eq]at z;exact a2 e.on z (by omega) (getD_in (by rw[c.head.size];omega) hq)
  refine⟨fun h0=>?_,fun i d=>?_⟩
  .obtain ⟨i,_,U⟩:=r;rw[h0]at U;cases U
  .have H:i<n:=by
    rcases Nat.lt_or_ge i n with h | h
    .exact h
    .exfalso;obtain⟨j,q,t⟩:=S;exact rK au a1 N c.head E _ j rfl q t i h d
   obtain⟨t,o,F,hw⟩:=mem_ready.1 d;obtain⟨l,ha,hx⟩:=c.fill;have W:(ops.toList.take n)[i]? = some o:=by simp[H,F]
   have X:=oq hs i o W;rw[Nat.zero_add]at X;have a4:aK V l w (D.getD i []):=iS fun j q=>by
    have p:=List.all_eq_true.1 A i (List.mem_range.2 (by omega));have B:=List.all_eq_true.1 p j q;obtain⟨o',a5,e,M,L,a6⟩:=Region.waitsFor_spec B;have:o'=o:=Option.some.inj (a5.symm.trans F);subst this;have h3:=hw e M L;rw[a6]at h3;have a7:j<n:=by
     have I:=List.all_eq_true.1 g i (List.mem_range.2 (by omega));rw[F]at I;simp only[Option.map_some,Option.getD_some]at I;have h4:=Array.all_eq_true'.1 I e M;simp only[L,Bool.not_true,Bool.false_or,decide_eq_true_eq]at h4;omega
    exact hx j a7 h3
   have k:=X l w c.ext a4 (fun u x=>le w x/\aO V i u x) (fun u x p B=>⟨p,B⟩);rw[<-ha]at k;have a8:i≠ff:=by rintro rfl;rw[E]at t;cases t
   have Y:=jq (P:=P) (ops:=ops) (Q:=Q) (K:=wpAny P .any ops Q (f+(ops.size - n)) (b.setIfInBounds i true)) (fun u x h=>by
    refine ih (b.setIfInBounds i true) (a.put o.dst u) x ?_ (by rw[getD_set_ne true a8];exact E) ⟨c.head.set d H,hC _ _ c.ext h.1,upd l i u,?_,?_⟩
    .have:=ke H t;omega
    .rw [ha,iT l u (ops.toList.take n) 0 i a0 o ad W,Nat.zero_add]
    .intro j q Z
     by_cases J:j=i
     .subst J;simpa [upd]using h.2
     .rw [getD_set_ne false (Ne.symm J)]at Z;simp only[upd,J,if_false];exact ka hV j _ _ _ h.1 (hx j q Z)) k
   unfold wpOp;simp only[F];exact Y
variable {id:Nat} {a:Act} {w:World} {l:List Oper}
theorem nh {Q:Exit->Act->World->Prop} (n f:Nat) (v:Value) (cs:List Value) (W:List (Option (Value->World->Prop))) (D:List (List Nat))
  (V:P.follows .mixedOrders=true)
  (S:(qk l.toArray n f D && (decide (f<n) && ((Region.ready .any l.toArray (Array.replicate l.length false)).contains f && (Region.free .any l.toArray (Array.replicate l.length false) f && (Region.noSelect l.toArray && decide (left n ((Array.replicate l.length false).setIfInBounds f true)+1=n))))))=true)
  (hn:(ak cs W).length<=n) (X:∀c a d u w,Q (.panic c) (Act.put a d u) w->Q (.panic c) a w) (Y:lO W) (I:∃o,l[f]? = some o/\PureAt P l.toArray o v a) (Z:∀w,aO (ak cs W) f v w)
  (hs:aw P (Ext w) Ext l.toArray (ak cs W) D (l.take n) a (l.take n) 0)
  (hQ:∀y x,Ext w x->aP cs W 0 y x->wpList P l.toArray Q (l.drop n) (aa y (l.take n) 0 a) x) :
  (Code.region id l.toArray true).wp P Q a w:=by
 simp only[Bool.and_eq_true,decide_eq_true_eq]at S;obtain⟨hrel,z,J,K,A,ad⟩:=S;refine wp_region_any V ?_;have p:=hrel;simp only[qk,Bool.and_eq_true,decide_eq_true_eq]at hrel;obtain⟨⟨⟨⟨⟨L,M⟩,N⟩,O⟩,_⟩,_⟩:=hrel;have au:n<=l.length:=by simpa using L
 obtain⟨o,T,q⟩:=I;have B:l.toArray[f]? = some o:=by simpa using T
 obtain⟨b,h0⟩:=jp (l.take n) 0 a;have E:a.put o.dst v=aa (upd b f v) (l.take n) 0 a:=by
  have e:=h0 b (fun _ _=>rfl);have:=iT b v (l.take n) 0 f a o (by simpa using O) (by simp[z,T]);rw[e,Nat.zero_add]at this;exact this
 have r:HeadInv .any l.toArray n (Array.replicate l.length false) :=
  ⟨by simp,fun j oj _ U=>(by rw[getD_replicate_false]at U;cases U),fun t _ ht=>getD_in (by simpa using ht) (getD_replicate_false _ _)⟩
 have g:f∈Region.ready .any l.toArray (Array.replicate l.length false):=by simpa using J
 have R:f<(Array.replicate l.length false).size:=by simp;omega
 have H:=tO (P:=P) (C:=Ext w) (le:=Ext) (Q:=Q) (a0:=a) (fun _ _ h k=>Ext.trans h k) p (kf cs W Y) (by simpa using hs)
  (fun y x h1 h2=>by simpa using hQ y x h1 (lP y x cs W 0 fun j hj=>by rw[Nat.zero_add];exact kV h2 j (List.mem_range.2 (by omega)))) (n - 1) ((Array.replicate l.length false).setIfInBounds f true) (a.put o.dst v) { w with drawn:=w.drawn+1 } (by omega)
  (by simp[R])
  ⟨r.set g z,⟨rfl,rfl,rfl,Nat.le_refl _,fun _ _=>rfl⟩,upd b f v,by simpa using E,fun j hj F=>by
   by_cases G:j=f
   .subst G;have:upd b j v j=v:=by simp[upd]
    rw[this];exact Z _
   .rw [getD_set_ne false (Ne.symm G),getD_replicate_false]at F
    cases F⟩
 have i:=rJ (P:=P) (Q:=Q) B (Region.noSelect_spec A) X (n - 1+(l.toArray.size - n)) (Array.replicate l.length false) a { w with drawn:=w.drawn+1 } (Region.free_spec B K) g q H;rw[show n - 1+(l.toArray.size - n)+1=l.toArray.size by simp;omega]at i;simpa using i
theorem cE {Q:Exit->Act->World->Prop} (n f:Nat) (v:Value) (cs:List Value) (W:List (Option (Value->World->Prop))) (D:List (List Nat))
  (g:P.follows .mixedOrders=true)
  (i:(qk l.toArray n f D && (decide (f<n) && ((Region.ready .any l.toArray (Array.replicate l.length false)).contains f && (Region.free .any l.toArray (Array.replicate l.length false) f && (Region.noSelect l.toArray && decide (left n ((Array.replicate l.length false).setIfInBounds f true)+1=n))))))=true)
  (j:(ak cs W).length<=n) (k:lO W) (b:∃o,l[f]? = some o/\PureAt P l.toArray o v a) (p:∀w,aO (ak cs W) f v w)
  (q:aw P (Ext w) Ext l.toArray (ak cs W) D (l.take n) a (l.take n) 0)
  (r:∀d c,Ext w c->aP cs W 0 d c->wpList P l.toArray (NoP Q) (l.drop n) (aa d (l.take n) 0 a) c) :
  (Code.region id l.toArray true).wp P Q a w :=
 Code.wp_mono (fun e a w h=>by cases e <;> first | exact h | exact(h:False).elim) (nh (Q:=NoP Q) n f v cs W D g i j (fun _ _ _ _ _ h=>(h:False).elim) k b p q r)
end
end
section
open Go Go.RowKit
abbrev B8:=List UInt8
abbrev S8 (l:B8):Value:=.string ⟨l.toArray⟩
theorem an {a b:Bool} (h:a=b):Ending.returned (.bool a)=.returned (.bool b):=by rw[h]
theorem iz {k:IntKind} {a b:Int} (h:a=b):Ending.returned (.int k a)=.returned (.int k b):=by rw[h]
theorem Ext.refl (w:World):Ext w w:=Below.refl _ _
variable {a w:World}
theorem Ext.drew (h:Ext a w):Ext a w.drew:=Below.drew h
theorem Ext.alloc (h:Ext a w) (o:Obj):Ext a (w.alloc o):=Below.alloc h h.size o
variable {w':World}
theorem Ext.grown (h:Ext w w'):w.grownBy w' none:=⟨h.os,h.tape,h.output,h.size,fun k b _=>h.block k b⟩
variable {v:Value}
theorem Ext.cell (h:Ext w w') {a:Addr} (b:w.cell? a=some v):w'.cell? a=some v:=cell_later h b
theorem ab (w:World) (o:Obj):(w.alloc o).heap[w.heap.size]? = some o:=by
 show(w.heap.push o)[w.heap.size]? = some o;simp
def Row (w:World) (v:Value) (n:Nat) (cs:List Value):Prop :=
 ∃a c,v=.slice a n c/\n<=c/\c<=9223372036854775807/\n<=140737488355328/\(cs≠[]->∃b o,a=some ⟨b,o,none⟩/\∀i u,cs[i]? = some u->w.cell? ⟨b,o+i,none⟩=some u)
variable {n:Nat} {cs:List Value}
theorem Row.ext (h:Row w v n cs) (d:Ext w w'):Row w' v n cs:=by
 obtain⟨a,c,e,g,j,k,l⟩:=h;refine⟨a,c,e,g,j,k,fun p=>?_⟩;obtain⟨b,o,q,r⟩:=l p;exact⟨b,o,q,fun i u t=>d.cell (r i u t)⟩
theorem Row.nil (w:World):Row w (.slice none 0 0) 0 []:=⟨none,0,rfl,Nat.le_refl _,by omega,by omega,fun h=>absurd rfl h⟩
theorem Row.len (h:Row w v n cs):n<=140737488355328:=by
 obtain⟨_,_,_,_,_,b,_⟩:=h;exact b
variable {base size:Nat} {e:TypeId} {xs:List Value}
theorem Row.BM (h:w.ownsRow base e size v n xs) (d:n<=140737488355328):Row w v n xs:=by
 obtain⟨j,⟨rfl,rfl⟩ | ⟨g,b,k,rfl,_,l,o,p,t,q⟩⟩:=h
 .have:xs=[]:=List.eq_nil_of_length_eq_zero (by simpa using j);subst this;exact Row.nil w
 .refine ⟨_,b,rfl,o,by unfold maxLen at p;omega,d,fun _=>⟨g,0,rfl,fun i u c=>?_⟩⟩;subst q;have r:=(List.getElem?_eq_some_iff.1 c).1;simp only[List.length_take,Array.length_toList]at r;rw[List.getElem?_take_of_lt (by omega)]at c;simpa [World.cell?,l]using c
theorem al (h:w.ownsRow base e size v n xs) (b:Ext w w'):w'.ownsRow base e size v n xs :=
 h.kept b.grown (by cases c:v.ownBlock with | none=>exact .inl rfl | some g=>exact .inr (by simp))
variable {t:TypeId} {fr:Nat×Nat} {g:Nat}
theorem Row.new {cs:Array Value} (b:w.heap[g]? = some (.cells cs t fr)) (c:n<=140737488355328) (l:List Value) (d:cs.toList=l):Row w (.slice (some ⟨g,0,none⟩) n n) n l :=
 ⟨_,n,rfl,Nat.le_refl _,by omega,c,fun _=>⟨g,0,rfl,fun i u e=>by subst d;simpa [World.cell?,b]using e⟩⟩
def Off (g:Nat) (v:Value):Prop:=∀a n c,v=.slice (some a) n c->a.block≠g
theorem Row.but (h:Row w v n cs) (j:w.grownBy w' (some g)) (k:Off g v):Row w' v n cs:=by
 obtain⟨a,d,rfl,l,p,q,r⟩:=h;refine⟨a,d,rfl,l,p,q,fun x=>?_⟩;obtain⟨b,o,rfl,y⟩:=r x;refine⟨b,o,rfl,fun i u z=>?_⟩;have c:=y i u z;have A:=World.block_lt_of_cell? _ _ c;rw[World.cell?_of_block (w:=w) (w':=w') (j.block b A (fun e=>k _ _ _ rfl (by simpa using e)))];exact c
def Typed (e:TypeId) (w:World) (v:Value):Prop:=∀a n c,v=.slice (some a) n c->∃cs fr,w.heap[a.block]? = some (.cells cs e fr)
def Keep (e:TypeId) (w w':World):Prop:=w.heap.size<=w'.heap.size/\∀(k:Nat) cs fr,w.heap[k]? = some (.cells cs e fr)->w'.heap[k]? = some (.cells cs e fr)
theorem Keep.BO (h:Ext w w'):Keep e w w':=⟨h.size,fun k c d b=>(h.block k (Array.getElem?_eq_some_iff.1 b).1).trans b⟩
theorem Keep.BR {cs:Array Value} (h:w.grownBy w' (some g)) (i:w.heap[g]? = some (.cells cs t fr)) (d:t≠e):Keep e w w' :=
 ⟨h.size,fun k j l b=>(h.block k (Array.getElem?_eq_some_iff.1 b).1 (by
  rintro c;simp at c;subst c;rw[i]at b;simp at b;exact d b.2.1)).trans b⟩
theorem Typed.keep (h:Typed e w v) (b:Keep e w w'):Typed e w' v:=fun a n c d=>by
 obtain⟨g,i,j⟩:=h a n c d;exact⟨g,i,b.2 _ _ _ j⟩
theorem Typed.nil (e:TypeId) (w:World) (n c:Nat):Typed e w (.slice none n c):=fun a n c b=>by simp at b
variable {o c:Nat}
theorem Typed.at {cs:Array Value} (h:w.heap[g]? = some (.cells cs e fr)):Typed e w (.slice (some ⟨g,o,none⟩) n c):=fun a n c b=>by
 simp at b;rw[<-b.1];exact⟨cs,fr,h⟩
theorem Typed.BM (h:w.ownsRow base e size v n xs):Typed e w v:=by
 obtain⟨_,⟨rfl,_⟩ | ⟨g,b,c,rfl,_,d,_⟩⟩:=h
 .exact Typed.nil _ _ _ _
 .exact Typed.at d
theorem Row.keep (h:Row w v n cs) (j:Typed e w v) (k:Keep e w w'):Row w' v n cs:=by
 obtain⟨a,c,rfl,l,p,q,r⟩:=h;refine⟨a,c,rfl,l,p,q,fun t=>?_⟩;obtain⟨b,o,rfl,x⟩:=r t;obtain⟨xs,z,g⟩:=j _ _ _ rfl;refine⟨b,o,rfl,fun i u y=>?_⟩;have d:=x i u y;rw[World.cell?_of_block (w:=w) (w':=w') (a:=⟨b,o+i,none⟩) ((k.2 _ _ _ g).trans g.symm)];exact d
def jU (p:Program) (u:TypeId):Nat->TypeId->Bool
 | 0,_=>false
 | d+1,e=>sameLayout p p.depth e u || (match p.underlying e with
  | some (.struct b)=>b.any fun f=>jU p u d f.type
  | some (.array _ h)=>jU p u d h
  | _=>false)
def IsU8 (w:World) (k:Nat):Prop:=∃cs t fr,w.heap[k]? = some (.cells cs t fr)/\jU Tryz.prog 5 Tryz.prog.depth t=true
def TypB (w:World) (v:Value):Prop:=∀a n c,v=.slice (some a) n c->IsU8 w a.block
def KeepB (w w':World):Prop:=w.heap.size<=w'.heap.size/\∀k,IsU8 w k->w'.heap[k]? = w.heap[k]?
variable {k:Nat}
theorem IsU8.lt (h:IsU8 w k):k<w.heap.size:=by
 obtain⟨b,t,c,h,-⟩:=h;exact(Array.getElem?_eq_some_iff.1 h).1
theorem IsU8.same (h:IsU8 w k) (e:w'.heap[k]? = w.heap[k]?):IsU8 w' k:=by
 obtain⟨b,t,c,h,d⟩:=h;exact⟨b,t,c,e.trans h,d⟩
theorem uT:jU Tryz.prog 5 Tryz.prog.depth 5=true:=by kernel_rfl
theorem KeepB.trans {b c:World} (h:KeepB a b) (k:KeepB b c):KeepB a c:=⟨Nat.le_trans h.1 k.1,fun i d=>(k.2 i (d.same (h.2 i d))).trans (h.2 i d)⟩
theorem KeepB.BO (h:Ext w w'):KeepB w w':=⟨h.size,fun k b=>h.block k b.lt⟩
theorem KeepB.BR {cs:Array Value} (h:w.grownBy w' (some g)) (j:w.heap[g]? = some (.cells cs t fr)) (b:jU Tryz.prog 5 Tryz.prog.depth t=false):KeepB w w' :=
 ⟨h.size,fun k i=>h.block k i.lt (by
  rintro c;simp only[Option.some.injEq]at c;subst c;obtain⟨l,p,o,d,e⟩:=i;rw[j]at d;simp only[Option.some.injEq,Obj.cells.injEq]at d;rw[d.2.1,e]at b
  cases b)⟩
theorem TypB.keep (h:TypB w v) (d:KeepB w w'):TypB w' v:=fun a n c b=>(h a n c b).same (d.2 _ (h a n c b))
theorem TypB.nil (w:World) (n c:Nat):TypB w (.slice none n c):=fun a n c b=>by simp at b
theorem TypB.of (h:Typed 5 w v):TypB w v:=fun a n c b=>by
 obtain⟨d,e,g⟩:=h a n c b;exact⟨d,_,e,g,uT⟩
theorem TypB.at {cs:Array Value} (h:w.heap[g]? = some (.cells cs 5 fr)):TypB w (.slice (some ⟨g,o,none⟩) n c):=TypB.of (Typed.at h)
theorem TypB.BM (h:w.ownsRow base 5 size v n xs):TypB w v:=TypB.of (Typed.BM h)
theorem Row.B2 (h:Row w v n cs) (e:TypB w v) (g:KeepB w w'):Row w' v n cs:=by
 obtain⟨a,c,rfl,j,k,l,p⟩:=h;refine⟨a,c,rfl,j,k,l,fun q=>?_⟩;obtain⟨b,o,rfl,r⟩:=p q;refine⟨b,o,rfl,fun i u t=>?_⟩;have d:=r i u t;rw[World.cell?_of_block (w:=w) (w':=w') (a:=⟨b,o+i,none⟩) (g.2 b (e ⟨b,o,none⟩ _ _ rfl))];exact d
def IsBytes (w:World) (v:Value) (l:B8):Prop:=Row w v l.length (l.map fun x=>.int .u8 x.toNat)
def IsStrs (w:World) (v:Value) (l:List B8):Prop:=Row w v l.length (l.map S8)
variable {l:B8}
theorem IsBytes.ext (h:IsBytes w v l) (b:Ext w w'):IsBytes w' v l:=Row.ext h b
theorem IsStrs.ext {l:List B8} (h:IsStrs w v l) (b:Ext w w'):IsStrs w' v l:=Row.ext h b
theorem IsBytes.nil (w:World):IsBytes w (.slice none 0 0) []:=Row.nil w
theorem IsStrs.nil (w:World):IsStrs w (.slice none 0 0) []:=Row.nil w
theorem IsStrs.get {l:List B8} (h:IsStrs w v l):∃a d,v=.slice a l.length d/\l.length<=d/\l.length<=140737488355328/\d<=9223372036854775807 /\
  ∀k,k<l.length->∃b o,a=some ⟨b,o,none⟩/\(∀i,i<l.length->w.cell? ⟨b,o+i,none⟩=some (S8 (l.getD i []))):=by
 obtain⟨a,d,rfl,e,g,j,n⟩:=h;refine⟨a,d,rfl,e,j,g,fun k p=>?_⟩;obtain⟨b,o,q,r⟩:=n (by simp;intro h;subst h;simp at p);exact⟨b,o,q,fun i t=>r i _ (by simp[t])⟩
theorem IsBytes.get (h:IsBytes w v l):∃a d,v=.slice a l.length d/\l.length<=d/\l.length<=140737488355328/\d<=9223372036854775807 /\
  ∀k,k<l.length->∃b o,a=some ⟨b,o,none⟩/\(∀i,i<l.length->w.cell? ⟨b,o+i,none⟩=some (.int .u8 (l.getD i 0).toNat)):=by
 obtain⟨a,d,rfl,e,g,j,n⟩:=h;refine⟨a,d,rfl,e,j,g,fun k p=>?_⟩;obtain⟨b,o,q,r⟩:=n (by simp;intro h;subst h;simp at p);exact⟨b,o,q,fun i t=>r i _ (by simp[t])⟩
structure Env (w:World):Prop where
 Dd:∃m,w.cell? ⟨2,0,none⟩=some (.int .i64 m)
theorem Env.ext (h:Env w) (b:Ext w w'):Env w':=by
 obtain⟨m,c⟩:=h;exact⟨m,b.cell c⟩
end
section
open Go Go.RowKit
def cut (c:UInt8):B8->List B8
 | []=>[[]]
 | x::l=>if x==c then[]::cut c l else match cut c l with
  | h::t=>(x::h)::t
  | []=>[[x]]
theorem fX (c:UInt8) (l:B8):cut c l≠[]:=by
 cases l with
 | nil=>simp[cut]
 | cons x l =>
  unfold cut;split
  .simp
  .split <;> simp
theorem ql (b c:UInt8) (l:B8) (h:b≠c):Lib.index (b::l) [c]=if Lib.index l [c] == -1 then -1 else Lib.index l [c]+1:=by
 have a:([c]:B8).isPrefixOf (b::l)=false:=by simp[List.isPrefixOf,Ne.symm h]
 rw[Lib.index,a];simp
theorem ni (c:UInt8):∀l:B8,Lib.splitK [c] 0 (Lib.count l [c]) l=cut c l
 | []=>by rw[Lib.count_miss (by simp[Lib.index])];rfl
 | x::l=>by
  have i:=ni c l
  by_cases h:x=c
  .subst h;have a:Lib.index (x::l) [x]=((0:Nat):Int):=by rw[Lib.index];simp[List.isPrefixOf]
   rw[Lib.count_cons_eq,Nat.add_comm,Lib.splitK,a];simp[cut,i]
  .rw [Lib.count_cons_ne x c l h];unfold cut;rw[if_neg (by simpa using h),<-i]
   by_cases k:Lib.index l [c] = -1
   .rw [Lib.count_miss k];simp[Lib.splitK]
   .have o:=Lib.index_ge l [c];obtain⟨j,g⟩:∃j:Nat,Lib.index l [c]=j:=⟨(Lib.index l [c]).toNat,by omega⟩;have b:¬(Lib.index l [c] == -1)=true:=fun e=>by have:=beq_iff_eq.1 e;omega
    have a:Lib.index (x::l) [c]=((j+1:Nat):Int):=by rw[ql x c l h,if_neg b,g];omega
    have d:¬(Lib.index (x::l) [c] == -1)=true:=fun e=>by have:=beq_iff_eq.1 e;omega
    obtain⟨n,p⟩:∃n,Lib.count l [c]=n+1:=⟨_,by rw[Lib.count_hit (by simp) g,Nat.add_comm]⟩;rw[p,Lib.splitK,if_neg d,Lib.splitK,if_neg b,a,g];simp
theorem jr (c:UInt8):∀l:B8,((cut c l).map List.length).sum+(cut c l).length=l.length+1
 | []=>by simp[cut]
 | x::l=>by
  have b:=jr c l;unfold cut;split
  .simp;omega
  .split
   .rename_i h t a;rw[a]at b;simp at b ⊢;omega
   .rename_i a;exact absurd a (fX c l)
theorem eZ (c:UInt8) (l:B8):1<=(cut c l).length/\(cut c l).length<=l.length+1:=by
 have a:=jr c l;have b:(cut c l).length≠0:=fun h=>fX c l (List.eq_nil_of_length_eq_zero h)
 omega
theorem pV {l:List Nat} {x:Nat} (h:x∈l):x<=l.sum:=by
 induction l with
 | nil=>simp at h
 | cons a l b =>
  rcases List.mem_cons.1 h with rfl | h
  .simp
  .have:=b h;simp;omega
theorem oT (c:UInt8) (l:B8) {x:B8} (h:x∈cut c l):x.length<=l.length:=by
 have a:=jr c l;have b:=pV (List.mem_map.2 ⟨x,h,rfl⟩:x.length∈(cut c l).map List.length);have d:=(eZ c l).1;omega
theorem oU (s:ByteArray) (c:UInt8) (w:World) (h:Env w) (i:s.size<4294967281) :
  Calls Tryz.prog 52 #[.string s,.string ⟨#[c]⟩] w fun e d=>∃v,e=.returned v/\IsStrs d v (cut c s.data.toList)/\Typed 9 d v/\Ext w d:=by
 obtain⟨m,j⟩:=h.Dd;refine(Tryz.strings_Split s ⟨#[c]⟩ m w i j (Nat.le_refl 1)).mono ?_;rintro e d ⟨rfl,rfl⟩;have a:=Lib.splitB_all ⟨#[c]⟩ (Nat.le_refl 1) 0 _ s rfl;have b:=Lib.splitB_data ⟨#[c]⟩ 0 (Lib.countB s ⟨#[c]⟩) s;have hcut:Lib.splitK [c] 0 (Lib.countB s ⟨#[c]⟩) s.data.toList=cut c s.data.toList:=ni c _;have k:s.data.toList.length=s.size:=by simp
 have l:=(eZ c s.data.toList).2;have g:(Lib.splitB ⟨#[c]⟩ 0 (Lib.countB s ⟨#[c]⟩) s).map (·.data.toList)=cut c s.data.toList:=b.trans hcut;have n:Lib.countB s ⟨#[c]⟩+1=(cut c s.data.toList).length:=by rw[<-g,List.length_map,a]
 refine⟨_,rfl,?_,Typed.at (ab _ _),(Ext.refl w).alloc _⟩;unfold IsStrs;rw[n];refine Row.new (ab _ _) (by omega) _ ?_;simp only;rw[<-g,List.map_map];apply List.map_congr_left;intro x _;rfl
end
section
open Go Go.RowKit
def fp (c:UInt8):Bool:=decide (c.toNat<33) || (decide (126<c.toNat) || decide (c.toNat=47))
def bR (l:B8):Bool:=!(l.any fp) && (!l.isEmpty && (decide (l.length<=64) && (!(l==[46]) && !(l==[46,46]))))
def aC (l:B8):Bool:=decide (l.length<=200) && ((cut 47 l).all bR && decide ((cut 47 l).length<=8))
variable {c:UInt8}
theorem ow (a:¬(c.toNat:Int)<33) (b:¬(126:Int)<c.toNat) (d:¬(c.toNat:Int)=47):fp c=false:=by
 unfold fp;simp only[Bool.or_eq_false_iff,decide_eq_false_iff_not];omega
theorem iN (h:(c.toNat:Int)<33\/(126:Int)<c.toNat\/(c.toNat:Int)=47):fp c=true:=by
 unfold fp;simp only[Bool.or_eq_true,decide_eq_true_eq];omega
variable {s:ByteArray} {k:Nat}
theorem gA (h:k<s.size) (a:fp s[k]=true):bR s.data.toList=false:=by
 have:s.data.toList.any fp=true:=List.any_eq_true.2 ⟨s[k],by
  have:s[k]=s.data[k]'h:=rfl;rw[this];simp,a⟩
 simp[bR,this]
theorem kW (s:ByteArray) (k:Nat) (h:k<s.size):s.data.toList.take (k+1)=s.data.toList.take k++[s[k]]:=by
 rw[List.take_succ_eq_append_getElem (by simpa using h)];rfl
theorem qm (h:k<s.size) (a:(s.data.toList.take k).any fp=false) (b:fp s[k]=false):(s.data.toList.take (k+1)).any fp=false:=by
 rw[kW s k h];simp only[List.any_append,a,List.any_cons,b,List.any_nil,Bool.or_false]
theorem AI (s:ByteArray) (w:World) (r:s.size<=140737488355328) :
  Calls Tryz.prog 120 #[.string s] w fun e l=>e=.returned (.bool (bR s.data.toList))/\l=w:=by
 go_enter Tryz.func120,Tryz.ntmps120;go_wp2
 go_loop [6] (fun i=>∃k:Nat,k<=s.size/\i=.int .i64 k/\(s.data.toList.take k).any fp=false) (fun i=>s.size - (intOf i).toNat)
 case atStart=>exact⟨0,Nat.zero_le _,rfl,rfl⟩
 case round =>
  obtain⟨k,t,rfl,j⟩:=hrel;have g:Hid _:=j;clear j
  by_cases b:k<s.size
  .by_cases u:(s[k].toNat:Int)<33
   .go_wp2;go_ret;exact⟨an (gA b (iN (by omega))).symm,rfl⟩
   .by_cases x:(126:Int)<s[k].toNat
    .go_wp2;go_ret;exact⟨an (gA b (iN (by omega))).symm,rfl⟩
    .by_cases c:(s[k].toNat:Int)=47
     .have n:((s[k].toNat:Int)==47)=true:=beq_iff_eq.2 c;have h:Hid _:=c;clear c;go_wp2;go_ret;have c:=h.out;exact⟨an (gA b (iN (by omega))).symm,rfl⟩
     .have n:((s[k].toNat:Int)==47)=false:=beq_eq_false_iff_ne.2 c;have h:Hid _:=c;clear c;go_wp2
      go_round
      case rel =>
       have c:=h.out;exact⟨k+1,by omega,by go_num,qm b g.out (ow (by omega) (by omega) c)⟩
      case measure=>simp[intOf];omega
  .have d:k=s.size:=by omega
   have a:s.data.toList.any fp=false:=by
    have:=g.out
    rwa [d,List.take_of_length_le (by simp)]at this
   have o:Hid _:=a;clear a g d;go_wp2
   all_goals
    go_ret;refine⟨an ?_,rfl⟩;have a:=o.out;rw[Lib.toList_data]at *;have p:s.data.toList.length=s.size:=by simp
    unfold bR;rw[a]
    by_cases q:s.size<=64 <;> first | (exfalso;omega) | (simp_all [Bool.and_assoc];done) | (simp_all;omega)
theorem mA (l:B8) (w:World) (a:l.length<=140737488355328) :
  Calls Tryz.prog 120 #[S8 l] w fun e b=>e=.returned (.bool (bR l))/\b=w:=AI ⟨l.toArray⟩ w a
theorem kg (s:ByteArray):aC s.data.toList=(decide (s.size<=200) && ((cut 47 s.data.toList).all bR && decide ((cut 47 s.data.toList).length<=8))):=by simp[aC]
variable {l:List B8}
theorem mB (h:k<l.length):l.getD k []∈l:=by
 simp[h]
theorem qn (h:k<l.length) (b:(l.take k).all bR=true) (a:bR (l.getD k [])=true):(l.take (k+1)).all bR=true:=by
 rw[List.take_succ_eq_append_getElem h];simp only[List.getD_eq_getElem?_getD,h,List.getElem?_eq_getElem,Option.getD_some]at a;simp only[List.all_append,b,List.all_cons,a,List.all_nil,Bool.and_true]
theorem uU (h:k<l.length) (a:bR (l.getD k [])=false):l.all bR=false:=by
 rw[List.all_eq_false];exact⟨_,mB h,by rw[a];simp⟩
def qp (l:B8) (w:World) (e:Ending) (w':World):Prop:=e=.returned (.bool (aC l))/\Ext w w'
theorem xD (s:ByteArray) (w:World) (q:Env w) (D:s.size<4294967281) :
  Calls Tryz.prog 51 #[.string s] w (qp s.data.toList w):=by
 have j:=(eZ 47 s.data.toList).2;have g:s.data.toList.length=s.size:=by simp
 have d:=fun x=>@oT 47 s.data.toList x
 rw[g]at j d
 by_cases O:(200:Int)<(s.size:Int)
 .go_enter Tryz.func51,Tryz.ntmps51;clear j d g;go_wp2;go_ret;exact⟨an (by rw[kg];simp;omega),Ext.refl _⟩
 have H:=kg s;have E:Hid _:=d;have r:Hid _:=H;clear H g d;go_enter Tryz.func51,Tryz.ntmps51;go_wp2_with fail;refine(oU s 47 _ q D).mono ?_;rintro e F ⟨v,rfl,t,-,l⟩;obtain⟨a,G,rfl,P,Q,R,u⟩:=t.get;generalize I:cut 47 s.data.toList=L at *;clear t I;have J:Hid _:=u;have S:Hid (Env F):=q.ext l;clear u;go_wp2_with fail
 go_loop [13] (fun i=>∃k:Nat,k<=L.length/\i=.int .i64 k/\(L.take k).all bR=true) (fun i=>L.length - (intOf i).toNat)
 case atStart=>exact⟨0,Nat.zero_le _,rfl,rfl⟩
 case round =>
  obtain⟨k,T,rfl,y⟩:=hrel;have z:Hid _:=y;clear y
  by_cases c:k<L.length
  .obtain ⟨b,o,rfl,A⟩:=J.out k c;have n:=A k c;clear A;have K:=E.out _ (mB c);obtain⟨x,h⟩:∃x,x=L.getD k []:=⟨_,rfl⟩;rw[<-h]at K n;have B:Hid _:=h;clear h
   cases C:bR x with
   | true =>
    have p:Hid _:=C
    go_wp2_with (go_at_call 120;go_must (refine(mA _ _ ?_).mono ?_;omega;rintro e M ⟨rfl,rfl⟩))
    go_round
    case rel=>exact⟨k+1,by omega,by go_num,qn c z.out (by rw[<-B.out];exact p.out)⟩
    case measure=>simp[intOf];omega
   | false =>
    have p:Hid _:=C
    go_wp2_with (go_at_call 120;go_must (refine(mA _ _ ?_).mono ?_;omega;rintro e M ⟨rfl,rfl⟩))
    go_ret;exact⟨an (by rw[r.out,uU c (by rw[<-B.out];exact p.out)];simp),l⟩
  .go_wp2_with fail;go_ret;refine⟨an ?_,l⟩;have:=z.out;rw[List.take_of_length_le (by omega)]at this;rw[r.out,this];have N:decide (s.size<=200)=true:=by rw[decide_eq_true_eq];omega
   rw[N,Bool.true_and,Bool.true_and,decide_eq_decide];omega
theorem dO (l:B8) (w:World) (a:Env w) (b:l.length<4294967281) :
  Calls Tryz.prog 51 #[S8 l] w fun e c=>e=.returned (.bool (aC l))/\Ext w c:=xD ⟨l.toArray⟩ w a b
end
section
open Go Go.RowKit
variable {w:World} {fr:Nat×Nat}
theorem cP {g:Nat} {cs:Array Value} {t:TypeId} (h:w.heap[g]? = some (.cells cs t fr)):∀j u,cs.toList[j]? = some u->w.cell? ((⟨g,0,none⟩:Addr).add j)=some u:=by
 intro j u c;have a:cs[j]? = some u:=by simpa using c
 by_cases b:j=0
 .subst b;simp[World.cell?,h,Addr.add,a]
 .simp [World.cell?,h,Addr.add,b,a]
variable {v:Value}
theorem ai {wr c:World} {e:TypeId} {a:Nat} {n:Nat} {xs:List Value} (d:Ext w wr) (b:wr.ownsRow w.heap.size e a v n xs) (g:wr.grownBy c v.ownBlock):Ext w c :=
 Below.grown d g d.size (fun k h=>(b.lt k h).1)
section
variable {ops:Array Oper} {rest:List Oper} {o:Oper} {a:Act} {Q:Exit->Act->World->Prop} {w:World}
theorem gB (t e:TypeId) (z:Value) (b bytes:Nat) (H:Tryz.prog.underlying t=some (.slice e)) (k:(Tryz.prog.info? e).map (fun i=>(i.zero,i.size,i.bytes))=some (some z,b,bytes)) (r:z.cells.size=b) (y:0<b)
  (A:o.guard=none) (s x:Operand) (I:o.op=.call { callee:=.builtin .append,args:=#[s,x],argTypes:=#[t,t] })
  (g:Nat) (v:Value) (n:Nat) (xs:List Value) (J:a.eval s=v) (q:w.ownsRow g e b v n xs)
  (B:Addr) (m c:Nat) (d:List Value) (K:a.eval x=.slice (some B) m c) (L:d.length=m*b) (l:∀j u,d[j]? = some u->w.cell? (B.add j)=some u) (M:∀u∈d,u.oneCell'=true)
  (N:(n+m)*bytes<=140737488355328) (O:n+m<=140737488355328) (p:g<=w.heap.size)
  (h:∀C D,D.ownsRow g e b C (n+m) (xs++d)->w.grownBy D v.ownBlock->(C=.slice none 0 0↔v=.slice none 0 0/\m=0)->wpList Tryz.prog ops Q rest (a.put o.dst C) D):wpList Tryz.prog ops Q (o::rest) a w:=by
 obtain⟨P,R,E,F,G⟩:=info_parts k;exact wpList_append_own w A s x t I g e P z b bytes H R E F G r y v n xs J q B m c d K L l M (by unfold maxLen;omega) N p h
end
theorem gC:(Tryz.prog.info? 5).map (fun i=>(i.zero,i.size,i.bytes))=some (some (.int .u8 0),1,1):=by kernel_rfl
theorem iV:(Tryz.prog.info? 9).map (fun i=>(i.zero,i.size,i.bytes))=some (some (S8 []),1,16):=by kernel_rfl
section
variable {ops:Array Oper} {rest:List Oper} {o:Oper} {a:Act} {Q:Exit->Act->World->Prop} {w:World}
theorem dH (p:o.guard=none) (s x:Operand) (q:o.op=.call { callee:=.builtin .append,args:=#[s,x],argTypes:=#[37,37] })
  (b:Nat) (v:Value) (n:Nat) (l:B8) (r:a.eval s=v) (i:w.ownsRow b 5 1 v n (l.map fun x=>.int .u8 x.toNat))
  (g m c:Nat) (d:B8) (t:a.eval x=.slice (some ⟨g,0,none⟩) m c) (y:d.length=m) (z:w.heap[g]? = some (.cells (d.map fun x=>Value.int .u8 x.toNat).toArray 5 fr))
  (A:n+m<=140737488355328) (e:b<=w.heap.size)
  (h:∀k j,j.ownsRow b 5 1 k (n+m) ((l++d).map fun x=>.int .u8 x.toNat)->w.grownBy j v.ownBlock->wpList Tryz.prog ops Q rest (a.put o.dst k) j):wpList Tryz.prog ops Q (o::rest) a w :=
 gB _ _ _ 1 1 Tryz.underlying37 gC rfl (by omega) p s x q b v n _ r i ⟨g,0,none⟩ m c _ t (by simpa using y) (cP z) (by intro u B;obtain⟨_,_,rfl⟩:=List.mem_map.1 B;rfl) (by omega) A e
  (fun k j C D _=>h k j (by rw[List.map_append];exact C) D)
theorem eO (p:o.guard=none) (s x:Operand) (q:o.op=.call { callee:=.builtin .append,args:=#[s,x],argTypes:=#[39,39] })
  (b:Nat) (v:Value) (n:Nat) (l:List B8) (r:a.eval s=v) (i:w.ownsRow b 9 1 v n (l.map S8))
  (g m c:Nat) (d:List B8) (t:a.eval x=.slice (some ⟨g,0,none⟩) m c) (y:d.length=m) (z:w.heap[g]? = some (.cells (d.map S8).toArray 9 fr))
  (D:n+m<=1000000000) (e:b<=w.heap.size)
  (h:∀k j,j.ownsRow b 9 1 k (n+m) ((l++d).map S8)->w.grownBy j v.ownBlock->wpList Tryz.prog ops Q rest (a.put o.dst k) j):wpList Tryz.prog ops Q (o::rest) a w :=
 gB _ _ _ 1 16 Tryz.underlying39 iV rfl (by omega) p s x q b v n _ r i ⟨g,0,none⟩ m c _ t (by simpa using y) (cP z) (by intro u A;obtain⟨_,_,rfl⟩:=List.mem_map.1 A;rfl) (by omega) (by omega) e
  (fun k j B C _=>h k j (by rw[List.map_append];exact B) C)
end
theorem dr {l:B8} (h:IsBytes w v l):(convert 37 9 v).run Tryz.prog w=.ok (S8 l) w:=by
 obtain⟨a,c,rfl,q,r,t,g⟩:=h
 cases l with
 | nil =>
  cases a with
  | none=>exact run_convert_bytes_nil w 37 5 Tryz.underlying37 Tryz.underlying5 _ _ 9 Tryz.underlying9
  | some e =>
   rw[run_convert_bytes_string w 37 9 5 _ _ _ Tryz.underlying37 Tryz.underlying5 Tryz.underlying9,run_bytesToString w e _ c [] (by simpa using run_loadCells_list (P:=Tryz.prog) w e [] (by intro j v k;simp at k))];rfl
 | cons x l =>
  obtain⟨b,o,rfl,n⟩:=g (by simp);exact Lib.run_convert_whole w 37 5 9 Tryz.underlying37 Tryz.underlying5 Tryz.underlying9 b o ⟨(x::l).toArray⟩ (fun i p=>n i _ (by
   have d:i<(x::l).length:=p;rw[List.getElem?_map,List.getElem?_eq_getElem d];rfl)) c
end
section
open Go Go.RowKit
def dI:List UInt32:=[
 0x428A2F98,0x71374491,0xB5C0FBCF,0xE9B5DBA5,0x3956C25B,0x59F111F1,0x923F82A4,0xAB1C5ED5,
 0xD807AA98,0x12835B01,0x243185BE,0x550C7DC3,0x72BE5D74,0x80DEB1FE,0x9BDC06A7,0xC19BF174,
 0xE49B69C1,0xEFBE4786,0x0FC19DC6,0x240CA1CC,0x2DE92C6F,0x4A7484AA,0x5CB0A9DC,0x76F988DA,
 0x983E5152,0xA831C66D,0xB00327C8,0xBF597FC7,0xC6E00BF3,0xD5A79147,0x06CA6351,0x14292967,
 0x27B70A85,0x2E1B2138,0x4D2C6DFC,0x53380D13,0x650A7354,0x766A0ABB,0x81C2C92E,0x92722C85,
 0xA2BFE8A1,0xA81A664B,0xC24B8B70,0xC76C51A3,0xD192E819,0xD6990624,0xF40E3585,0x106AA070,
 0x19A4C116,0x1E376C08,0x2748774C,0x34B0BCB5,0x391C0CB3,0x4ED8AA4A,0x5B9CCA4F,0x682E6FF3,
 0x748F82EE,0x78A5636F,0x84C87814,0x8CC70208,0x90BEFFFA,0xA4506CEB,0xBEF9A3F7,0xC67178F2]
def df:List UInt32:=[0x6A09E667,0xBB67AE85,0x3C6EF372,0xA54FF53A,0x510E527F,0x9B05688C,0x1F83D9AB,0x5BE0CD19]
def bv (x:UInt32) (n:UInt32):UInt32:=(x <<< n) ||| (x >>> (32 - n))
def be4 (b:B8) (i:Nat):UInt32 :=
 ((((b.getD (4*i) 0).toUInt32 <<< 24) ||| ((b.getD (4*i+1) 0).toUInt32 <<< 16)) ||| ((b.getD (4*i+2) 0).toUInt32 <<< 8)) ||| (b.getD (4*i+3) 0).toUInt32
def js (w:List UInt32) (i:Nat):UInt32 :=
 ((w.getD (i - 16) 0+((bv (w.getD (i - 15) 0) 25 ^^^ bv (w.getD (i - 15) 0) 14) ^^^ (w.getD (i - 15) 0 >>> 3)))+w.getD (i - 7) 0)
  + ((bv (w.getD (i - 2) 0) 15 ^^^ bv (w.getD (i - 2) 0) 13) ^^^ (w.getD (i - 2) 0 >>> 10))
def aU (b:B8):Nat->List UInt32
 | 0=>[]
 | n+1=>aU b n++[if n<16 then be4 b n else js (aU b n) n]
def rnd (s:List UInt32) (k w:UInt32):List UInt32 :=
 let e:=s.getD 4 0
 let a:=s.getD 0 0
 let x:=(bv e 26 ^^^ bv e 21) ^^^ bv e 7
 let t:=(((s.getD 7 0+x)+((e &&& s.getD 5 0) ^^^ (~~~e &&& s.getD 6 0)))+k)+w
 let y:=(bv a 30 ^^^ bv a 19) ^^^ bv a 10
 let u:=y+(((a &&& s.getD 1 0) ^^^ (a &&& s.getD 2 0)) ^^^ (s.getD 1 0 &&& s.getD 2 0))
 [t+u,s.getD 0 0,s.getD 1 0,s.getD 2 0,s.getD 3 0+t,s.getD 4 0,s.getD 5 0,s.getD 6 0]
def iW (s w:List UInt32):Nat->List UInt32
 | 0=>s
 | n+1=>rnd (iW s w n) (dI.getD n 0) (w.getD n 0)
def eP (h:List UInt32) (b:B8):List UInt32:=List.zipWith (· + ·) h (iW h (aU b 64) 64)
def ba (h:List UInt32) (l:B8):List UInt32×B8 :=
 if 64<=l.length then ba (eP h (l.take 64)) (l.drop 64)else(h,l)
termination_by l.length
decreasing_by simp;omega
def cR (n:Nat):Nat:=(119 - n%64)%64
def be8 (n:Nat):B8:=[56,48,40,32,24,16,8,0].map fun k=>UInt8.ofNat (n / 2 ^ k)
def ir (n:Nat):B8:=128::(List.replicate (cR n) 0++be8 (8*n))
def ed (x:UInt32):B8:=[UInt8.ofNat (x >>> 24).toNat,UInt8.ofNat (x >>> 16).toNat,UInt8.ofNat (x >>> 8).toNat,UInt8.ofNat x.toNat]
def fE (l:B8):B8:=(ba (ba df l).1 ((ba df l).2++ir l.length)).1.flatMap ed
def aR:B8:=[48,49,50,51,52,53,54,55,56,57,97,98,99,100,101,102]
def bX (l:B8):B8:=l.flatMap fun x=>[aR.getD (x.toNat / 16) 0,aR.getD (x.toNat%16) 0]
def aV (l:B8):B8:=bX (fE l)
def bn (c:UInt8):Nat:=aR.idxOf c
def aW:B8->Option B8
 | []=>some []
 | [_]=>none
 | a::b::l=>if bn a<16/\bn b<16 then(aW l).map (UInt8.ofNat (16*bn a+bn b) :: ·)else none
def av (s:B8):Bool:=match aW s with
 | some b=>b.length==32
 | none=>false
theorem xE {s w:List UInt32} (h:s.length=8):∀n,(iW s w n).length=8
 | 0=>h
 | _+1=>rfl
variable {h:List UInt32}
theorem ox {b:B8} (a:h.length=8):(eP h b).length=8:=by
 unfold eP;rw[List.length_zipWith,a,xE a];rfl
theorem dP (b:B8):∀n,(aU b n).length=n
 | 0=>rfl
 | n+1=>by unfold aU;rw[List.length_append,dP b n];rfl
theorem nj {l:B8} (a:h.length=8):(ba h l).1.length=8/\(ba h l).2.length<64:=by
 fun_induction ba h l with
 | case1 h l b c=>exact c (ox a)
 | case2 h l b=>exact⟨a,by show l.length<64;omega⟩
theorem xF (l:List UInt32):(l.flatMap ed).length=4*l.length:=by
 induction l with
 | nil=>rfl
 | cons x l a=>rw[List.flatMap_cons,List.length_append,a,List.length_cons];show 4+_=_;omega
theorem sL (l:B8):(fE l).length=32:=by
 unfold fE;rw[xF,(nj (nj (h:=df) (l:=l) rfl).1).1]
theorem jV (l:B8):(bX l).length=2*l.length:=by
 induction l with
 | nil=>rfl
 | cons x l a =>
  have:bX (x::l)=[aR.getD (x.toNat / 16) 0,aR.getD (x.toNat%16) 0]++bX l:=by unfold bX;rw[List.flatMap_cons]
  rw[this,List.length_append,a];simp only[List.length_cons,List.length_nil];omega
theorem oy (l:B8):(aV l).length=64:=by
 unfold aV;rw[jV,sL]
theorem dE:∀(s:B8) {b:B8},aW s=some b->s.length=2*b.length/\∀c∈s,bn c<16
 | [],b,h=>by
  have:b=[]:=by simpa [aW]using h.symm
  subst this;exact⟨rfl,fun c a=>by cases a⟩
 | [x],b,h=>by simp[aW]at h
 | x::y::l,b,h=>by
  unfold aW at h;split at h
  .rename_i d;obtain⟨r,e,rfl⟩:=Option.map_eq_some_iff.1 h;obtain⟨g,i⟩:=dE l e;refine⟨by simp only[List.length_cons,g];omega,fun c a=>?_⟩;rcases List.mem_cons.1 a with rfl | a
   .exact d.1
   .rcases List.mem_cons.1 a with rfl | a
    .exact d.2
    .exact i c a
  .cases h
theorem kX {s:B8} (h:av s=true):s.length=64/\∀c∈s,bn c<16:=by
 unfold av at h;split at h
 .rename_i b a;have:=dE s a;have d:b.length=32:=by simpa using h
  rw[d]at this;exact this
 .cases h
end
section
open Go Go.RowKit
abbrev U32 (x:UInt32):Value:=.int .u32 (x.toNat:Int)
theorem iX (x:UInt32):BitVec.ofInt 32 (x.toNat:Int)=x.toBitVec:=by
 apply BitVec.eq_of_toNat_eq;have:=x.toNat_lt;rw[BitVec.toNat_ofInt];show((x.toNat:Int)%4294967296).toNat=x.toNat;omega
theorem wrap_u32 (n:Nat) (h:n<4294967296):IntKind.wrap .u32 (n:Int)=(n:Int):=by
 unfold IntKind.wrap IntKind.bits IntKind.signed;simp;omega
theorem dt (x y:UInt32):bits .and .u32 (x.toNat:Int) (y.toNat:Int)=((x &&& y).toNat:Int):=by
 have h:=(x &&& y).toNat_lt;unfold bits;show IntKind.wrap .u32 ((BitVec.ofInt 32 (x.toNat:Int) &&& BitVec.ofInt 32 (y.toNat:Int)).toNat:Int)=_;rw[iX,iX];exact wrap_u32 _ h
theorem kY (x y:UInt32):bits .or .u32 (x.toNat:Int) (y.toNat:Int)=((x ||| y).toNat:Int):=by
 have h:=(x ||| y).toNat_lt;unfold bits;show IntKind.wrap .u32 ((BitVec.ofInt 32 (x.toNat:Int) ||| BitVec.ofInt 32 (y.toNat:Int)).toNat:Int)=_;rw[iX,iX];exact wrap_u32 _ h
theorem bu (x y:UInt32):bits .xor .u32 (x.toNat:Int) (y.toNat:Int)=((x ^^^ y).toNat:Int):=by
 have h:=(x ^^^ y).toNat_lt;unfold bits;show IntKind.wrap .u32 ((BitVec.ofInt 32 (x.toNat:Int) ^^^ BitVec.ofInt 32 (y.toNat:Int)).toNat:Int)=_;rw[iX,iX];exact wrap_u32 _ h
theorem nk (x:UInt32):bits .xor .u32 4294967295 (x.toNat:Int)=((~~~x).toNat:Int):=by
 have h:=(~~~x).toNat_lt;unfold bits;show IntKind.wrap .u32 ((BitVec.ofInt 32 4294967295 ^^^ BitVec.ofInt 32 (x.toNat:Int)).toNat:Int)=_;rw[iX];have a:(BitVec.ofInt 32 4294967295 ^^^ x.toBitVec) = ~~~ x.toBitVec:=by
  rw[show BitVec.ofInt 32 4294967295=BitVec.allOnes 32 from rfl,BitVec.allOnes_xor]
 rw[a];exact wrap_u32 _ h
theorem cr (x y:UInt32):((x.toNat:Int)+(y.toNat:Int))%4294967296=((x+y).toNat:Int):=by
 rw[UInt32.toNat_add];omega
theorem gO (x:UInt32) (k:Nat) (a:k<32):(x.toNat:Int) / (2 ^ k:Int)=((x >>> UInt32.ofNat k).toNat:Int):=by
 have b:(UInt32.ofNat k).toNat=k:=by simp;omega
 rw[UInt32.toNat_shiftRight,b,Nat.mod_eq_of_lt a,Nat.shiftRight_eq_div_pow];simp
theorem nl (x:UInt32) (k:Nat) (a:k<32):((x.toNat:Int)*(2 ^ k:Int))%4294967296=((x <<< UInt32.ofNat k).toNat:Int):=by
 have b:(UInt32.ofNat k).toNat=k:=by simp;omega
 rw[UInt32.toNat_shiftLeft,b,Nat.mod_eq_of_lt a,Nat.shiftLeft_eq];simp
end
end Go.Proofs.YtfabjgfmiaammaaGreatDoor
