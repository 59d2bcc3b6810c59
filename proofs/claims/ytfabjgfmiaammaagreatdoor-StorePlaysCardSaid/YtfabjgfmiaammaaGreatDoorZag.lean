/- Contracts of the program's functions and plain laws behind the card. Conditions: as each theorem states. -/
import Derived.Test.YtfabjgfmiaammaaGreatDoorZaf
import Derived.Test.YtfabjgfmiaammaaGreatDoorZaa
import Derived.Test.YtfabjgfmiaammaaGreatDoorZae
import Derived.Deep.Upon
set_option linter.unusedVariables false
set_option linter.unusedSimpArgs false
set_option linter.unusedSectionVars false
set_option maxRecDepth 100000
set_option maxHeartbeats 64000000
namespace Go.Proofs.YtfabjgfmiaammaaGreatDoor
section
open Go Go.RowKit
end
section
open Go Go.RowKit
variable {m:Fs} {F:aq} {lk:Option B8} {hv:B8->Option B8} {n:Nat}
end
section
open Go Go.RowKit
variable {X Y:aq->Prop} {m:Fs}
variable {F:aq} {hv:B8->Option B8} {n:Nat}
end
section
open Go Go.RowKit
def bL:B8:=[115,47,116]
def ar (id:B8):B8:=[115,47,111,47]++id
def cW (x:Fs×Int) (id:B8):Fs×B8×Int :=
 if x.2≠0 then(x.1,[],x.2)else if(aN x.1 bL (ar id) false).2≠0 then((aN x.1 bL (ar id) false).1,[],(aN x.1 bL (ar id) false).2)
 else((aN x.1 bL (ar id) false).1,id,0)
def bM (m:Fs) (b:B8):Fs×B8×Int :=
 if 20000<b.length then(m,[],3)
 else if(aE m (ar (aV b))).2.2=0/\(aE m (ar (aV b))).2.1.data=b then((aE m (ar (aV b))).1,aV b,0)
 else if(aE m (ar (aV b))).2.2=0/\aV (aE m (ar (aV b))).2.1.data=aV b then((aE m (ar (aV b))).1,[],5)
 else if(aE m (ar (aV b))).2.2≠0/\(aE m (ar (aV b))).2.2≠7 then((aE m (ar (aV b))).1,[],(aE m (ar (aV b))).2.2)
 else cW (bD (aE m (ar (aV b))).1 bL 1 b) (aV b)
end
section
open Go Go.RowKit
def cA (V:List (Value->Prop)) (k:Nat):Value->Prop:=V.getD k (fun _=>True)
def zOf (K:List Bool) (a:Array Bool) (xs:Nat->Value):Nat->Option Value:=fun j=>if K.getD j false && a.getD j false then some (xs j)else none
def cX (K:List Bool) (xs:Nat->Value):Nat->Option Value:=fun j=>if K.getD j false then some (xs j)else none
def qR (z:Nat->Option Value) (k:Nat) (u:Value):Nat->Option Value:=fun j=>if j=k then some u else z j
def bP (K:List Bool) (V:List (Value->Prop)) (z:Nat->Option Value) (xs:Nat->Value):List Nat->Prop
 | []=>True
 | j::l=>(if K.getD j false then z j=some (xs j)else cA V j (xs j))/\bP K V z xs l
variable {K:List Bool}
theorem pz {V:List (Value->Prop)} {z:Nat->Option Value} {xs:Nat->Value}:∀ {l:List Nat},(∀j∈l,if K.getD j false then z j=some (xs j)else cA V j (xs j))->bP K V z xs l
 | [],_=>trivial
 | j::l,h=>⟨h j (by simp),pz fun i a=>h i (by simp[a])⟩
section
variable {P:Program} {J:(Nat->Option Value)->World->Prop}
def cG (P:Program) (J:(Nat->Option Value)->World->Prop) (ops:Array Oper) (K:List Bool) (V:List (Value->Prop)) (head:List Oper) (a0:Act) (k:Nat) (d:List Nat) (o:Oper):Bool->Prop
 | true=>∀(a:Nat->Value) (z:Nat->Option Value) (w:World),J z w->z k=none->bP K V z a d->∀R:Value->World->Prop,(∀u b,J (qR z k u) b->R u b) ->
  if Region.wanted o (yielded ops (aa a head 0 a0).tmps)then eN P R ((execOp (aa a head 0 a0).eval o).run P w)else R undef w
 | false=>∀(a:Nat->Value) (z:Nat->Option Value) (w:World),J z w->bP K V z a d->∀R:Value->World->Prop,(∀u b,J z b->cA V k u->R u b) ->
  if Region.wanted o (yielded ops (aa a head 0 a0).tmps)then eN P R ((execOp (aa a head 0 a0).eval o).run P w)else R undef w
def cY (P:Program) (J:(Nat->Option Value)->World->Prop) (ops:Array Oper) (K:List Bool) (V:List (Value->Prop)) (D:List (List Nat)) (head:List Oper) (a0:Act):List Oper->List Bool->Nat->Prop
 | [],_,_=>True
 | _::_,[],_=>False
 | o::l,b::a,k=>cG P J ops K V head a0 k (D.getD k []) o b/\cY P J ops K V D head a0 l a (k+1)
variable {ops:Array Oper} {D:List (List Nat)} {a0:Act}
theorem qS {V:List (Value->Prop)} {head:List Oper}:
  ∀ {l:List Oper} {a:List Bool} {k:Nat},cY P J ops K V D head a0 l a k->∀i o,l[i]? = some o->cG P J ops K V head a0 (k+i) (D.getD (k+i) []) o (a.getD i false)
 | [],_,_,_,i,o,h=>by simp at h
 | _::_,[],_,h,_,_,_=>h.elim
 | p::l,b::a,k,h,0,o,c=>by
  have:p=o:=by simpa using c
  subst this;simpa using h.1
 | p::l,b::a,k,h,i+1,o,c=>by
  have:=qS h.2 i o (by simpa using c);rw[show k+1+i=k+(i+1)by omega]at this;simpa using this
structure BJ (J:(Nat->Option Value)->World->Prop) (ops:Array Oper) (n:Nat) (K:List Bool) (V:List (Value->Prop)) (a0:Act) (listed:Array Bool) (a:Act) (w:World):Prop where
 head:HeadInv .any ops n listed
 fill:∃xs:Nat->Value,a=aa xs (ops.toList.take n) 0 a0/\J (zOf K listed xs) w/\∀j,j<n->listed.getD j false=true->K.getD j false=false->cA V j (xs j)
theorem vN {n:Nat} {V:List (Value->Prop)} {Q:Exit->Act->World->Prop} (hK:K.length=n)
  (hB:jK ops n D=true) (hs:cY P J ops K V D (ops.toList.take n) a0 (ops.toList.take n) K 0)
  (hQ:∀g w,J (cX K g) w->(∀j,j<n->K.getD j false=false->cA V j (g j))->wpList P ops Q (ops.toList.drop n) (aa g (ops.toList.take n) 0 a0) w) :
  ∀(f:Nat) (b:Array Bool) (a:Act) (w:World),left n b=f->BJ J ops n K V a0 b a w->wpAny P .any ops Q (f+(ops.size - n)) b a w:=by
 simp only[jK,Bool.and_eq_true,Bool.or_eq_true,decide_eq_true_eq]at hB;obtain⟨⟨⟨⟨⟨hn,t⟩,O⟩,a6⟩,R⟩,ad⟩:=hB;intro f
 induction f with
 | zero =>
  intro b a w hl k;have L:=kU hl;have x:∀j,j<n->b.getD j false=true:=fun j y=>by
   have:=L j y
   rwa [iU (by rw[k.head.size];omega) true false]at this
  have au:b=fP ops.size n:=by
   apply Array.ext_getElem?;intro i;have bo:=k.head.size;unfold fP
   by_cases F:i<n
   .have:=L i F;have l:i<b.size:=by omega
    simp only[l,Array.getD_eq_getD_getElem?,Array.getElem?_eq_getElem,Option.getD_some]at this;rw[Array.getElem?_append_left (by simpa using F)];simp[l,F,this]
   .by_cases G:i<ops.size
    .have:=k.head.tail i (by omega) G;have l:i<b.size:=by omega
     simp only[l,Array.getD_eq_getD_getElem?,Array.getElem?_eq_getElem,Option.getD_some]at this;rw[Array.getElem?_append_right (by simpa using F)];simp only[l,Array.getElem?_eq_getElem,this];rw[Array.getElem?_replicate,if_pos (by simp;omega)]
    .rw [Array.getElem?_eq_none (by omega),Array.getElem?_eq_none (by simp;omega)]
  obtain⟨g,ha,y,hx⟩:=k.fill;have hz:zOf K b g=cX K g:=by
   funext j;unfold zOf cX
   by_cases p:j<n
   .rw [x j p,Bool.and_true]
   .have:K.getD j false=false:=by
     rw[List.getD_eq_getElem?_getD,List.getElem?_eq_none (by omega)];rfl
    rw[this,Bool.false_and]
  rw[hz]at y;have:=hQ g w y (fun j p q=>hx j p (x j p) q);rw[<-ha]at this;rw[Nat.zero_add];have G:=wpAny_of_seq (md:=.any) (Q':=Q) (ops.toList.drop n) n b a w (fun j=>by simp[List.getElem?_drop]) (by rw[au];simpa using ad) this;simpa using G
 | succ f ih =>
  intro b a w hl k;rw[show f+1+(ops.size - n)=(f+(ops.size - n))+1 by omega];have a1:∃i,i<n/\b.getD i true=false:=by
   have F:0<((List.range n).filter fun i=>!b.getD i true).length:=by unfold left at hl;omega
   obtain⟨i,l⟩:=List.exists_mem_of_length_pos F;simp only[List.mem_filter,List.mem_range]at l;exact⟨i,l.1,by simpa using l.2⟩
  have H:∃i,i<n/\i∈Region.ready .any ops b:=by
   obtain⟨i,l,M⟩:=a1
   revert l M
   induction i using Nat.strongRecOn with
   | _ i a7 =>
    intro l M;have I:i<ops.size:=by omega
    by_cases hr:i∈Region.ready .any ops b
    .exact ⟨i,l,hr⟩
    .have z:ops[i]? = some ops[i]:=Array.getElem?_eq_getElem I;have Y:=List.all_eq_true.1 t i (List.mem_range.2 I);rw[z]at Y;simp only[Option.map_some,Option.getD_some]at Y;have:∃e∈ops[i].after,Region.binds .any e=true/\b.getD e.on false=false:=by
      apply Classical.byContradiction;intro a8;apply hr;rw[mem_ready];refine⟨M,ops[i],z,fun e Z S=>?_⟩
      cases hq:b.getD e.on false with
      | true=>rfl
      | false=>exact absurd ⟨e,Z,S,hq⟩ a8
     obtain⟨e,Z,S,hq⟩:=this;have N:=Array.all_eq_true'.1 Y e Z;simp only[S,Bool.not_true,Bool.false_or,decide_eq_true_eq]at N;exact a7 e.on N (by omega) (getD_in (by rw[k.head.size];omega) hq)
  refine⟨fun h0=>?_,fun i l=>?_⟩
  .obtain ⟨i,_,hr⟩:=H;rw[h0]at hr;cases hr
  .have T:i<n:=by
    rcases Nat.lt_or_ge i n with h | h
    .exact h
    .exfalso;rcases R with G | ⟨⟨I,a9⟩,a'⟩
     .obtain ⟨_,o,z,_⟩:=mem_ready.1 l;have:=(Array.getElem?_eq_some_iff.1 z).1;omega
     .obtain ⟨j,y,M⟩:=a1;exact tail_waits a9 a' I k.head _ j rfl y M i h l
   obtain⟨M,o,z,hw⟩:=mem_ready.1 l;obtain⟨g,ha,y,hx⟩:=k.fill;have a2:(ops.toList.take n)[i]? = some o:=by simp[T,z]
   have A:=qS hs i o a2;rw[Nat.zero_add]at A;have bb:b.getD i false=false:=getD_both M;have a3:bP K V (zOf K b g) g (D.getD i []):=pz fun j y=>by
    have F:=List.all_eq_true.1 O i (List.mem_range.2 (by omega));have G:=List.all_eq_true.1 F j y;obtain⟨o',bd,e,Z,Y,bh⟩:=Region.waitsFor_spec G;have:o'=o:=Option.some.inj (bd.symm.trans z);subst this;have h3:=hw e Z Y;rw[bh]at h3;have p:j<n:=by
     have U:=List.all_eq_true.1 t i (List.mem_range.2 (by omega));rw[z]at U;simp only[Option.map_some,Option.getD_some]at U;have h4:=Array.all_eq_true'.1 U e Z;simp only[Y,Bool.not_true,Bool.false_or,decide_eq_true_eq]at h4;omega
    cases q:K.getD j false with
    | true=>simp only[if_true,zOf,q,h3,Bool.and_self]
    | false=>simpa using hx j p h3 q
   have B:∀u r,J (zOf K (b.setIfInBounds i true) (upd g i u)) r->(K.getD i false=false->cA V i u)->wpAny P .any ops Q (f+(ops.size - n)) (b.setIfInBounds i true) (a.put o.dst u) r:=fun u r F G=>by
    refine ih (b.setIfInBounds i true) (a.put o.dst u) r ?_ ⟨k.head.set l T,upd g i u,?_,F,?_⟩
    .have:=ke T M;omega
    .rw [ha,iT g u (ops.toList.take n) 0 i a0 o a6 a2,Nat.zero_add]
    .intro j p a4 q
     by_cases c:j=i
     .subst c;simpa [upd]using G q
     .rw [getD_set_ne false (Ne.symm c)]at a4;simp only[upd,c,if_false];exact hx j p a4 q
   have a5:i<b.size:=by
    obtain⟨bk,_⟩:=Array.getElem?_eq_some_iff.1 z;rw[k.head.size];exact bk
   have W:(b.setIfInBounds i true).getD i false=true:=by simp[a5]
   cases C:K.getD i false with
   | true =>
    rw[C]at A;have bl:zOf K b g i=none:=by simp only[zOf,bb,Bool.and_false,Bool.false_eq_true,if_false]
    have X:∀u,zOf K (b.setIfInBounds i true) (upd g i u)=qR (zOf K b g) i u:=fun u=>by
     funext j
     by_cases c:j=i
     .subst c;simp only[zOf,qR,C,W,Bool.and_self,if_true,upd]
     .simp only[zOf,qR,c,if_false,upd,getD_set_ne false (Ne.symm c)]
    have d:=A g _ w y bl a3 (fun u r=>J (qR (zOf K b g) i u) r) (fun u r h=>h);rw[<-ha]at d;have E:=jq (P:=P) (ops:=ops) (Q:=Q) (K:=wpAny P .any ops Q (f+(ops.size - n)) (b.setIfInBounds i true)) (fun u r h=>B u r (by rw[X];exact h) (fun h=>by rw[C]at h;cases h)) d;unfold wpOp;simp only[z];exact E
   | false =>
    rw[C]at A;have X:∀u,zOf K (b.setIfInBounds i true) (upd g i u)=zOf K b g:=fun u=>by
     funext j
     by_cases c:j=i
     .subst c;simp only[zOf,C,Bool.false_and,Bool.false_eq_true,if_false]
     .simp only[zOf,c,if_false,upd,getD_set_ne false (Ne.symm c)]
    have d:=A g _ w y a3 (fun u r=>J (zOf K b g) r/\cA V i u) (fun u r h G=>⟨h,G⟩);rw[<-ha]at d;have E:=jq (P:=P) (ops:=ops) (Q:=Q) (K:=wpAny P .any ops Q (f+(ops.size - n)) (b.setIfInBounds i true)) (fun u r h=>B u r (by rw[X];exact h.1) (fun _=>h.2)) d;unfold wpOp;simp only[z];exact E
def cN:List Value->List (Option (Value->Prop))->List (Value->Prop)
 | c::a,none::l=>(fun u=>u=c)::cN a l
 | _::a,some V::l=>V::cN a l
 | _,_=>[]
def bU:List Bool->List Value->List (Option (Value->Prop))->Nat->(Nat->Value)->Prop
 | true::b,_::d,_::l,k,a=>bU b d l (k+1) a
 | false::b,c::d,none::l,k,a=>a k=c/\bU b d l (k+1) a
 | false::b,_::d,some V::l,k,a=>V (a k)/\bU b d l (k+1) a
 | _,_,_,_,_=>True
theorem yh (xs:Nat->Value):∀(a:List Bool) (cs:List Value) (l:List (Option (Value->Prop))) (k:Nat),(∀j,j<a.length->a.getD j false=false->cA (cN cs l) j (xs (k+j)))->bU a cs l k xs:=by
 intro a
 induction a with
 | nil=>intro cs l k _;simp[bU]
 | cons b a g =>
  intro cs l k h
  cases cs with
  | nil=>cases b <;> simp[bU]
  | cons c cs =>
   cases l with
   | nil=>cases b <;> simp[bU]
   | cons o l =>
    have d:bU a cs l (k+1) xs:=g cs l (k+1) fun j n i=>by
     have:=h (j+1) (by simp;omega) (by simpa using i);rw[show k+(j+1)=k+1+j by omega]at this
     cases o <;> simpa [cA,cN]using this
    cases b with
    | true=>simpa [bU]using d
    | false =>
     have e:=h 0 (by simp) (by simp)
     cases o with
     | none=>exact⟨by simpa [cA,cN]using e,d⟩
     | some V=>exact⟨by simpa [cA,cN]using e,d⟩
theorem aI {id:Nat} {Q:Exit->Act->World->Prop} {a:Act} {w:World} {l:List Oper} (n:Nat) (J:(Nat->Option Value)->World->Prop) (K:List Bool) (cs:List Value) (W:List (Option (Value->Prop))) (D:List (List Nat))
  (k:P.follows .mixedOrders=true) (g:jK l.toArray n D=true) (o:K.length=n) (p:J (fun _=>none) { w with drawn:=w.drawn+1 })
  (q:cY P J l.toArray K (cN cs W) D (l.take n) a (l.take n) K 0)
  (r:∀d e,J (cX K d) e->bU K cs W 0 d->wpList P l.toArray Q (l.drop n) (aa d (l.take n) 0 a) e) :
  (Code.region id l.toArray true).wp P Q a w:=by
 refine wp_region_any k ?_;have C:n<=l.toArray.size:=by
  simp only[jK,Bool.and_eq_true,decide_eq_true_eq]at g;exact g.1.1.1.1.1
 obtain⟨b,u⟩:=jp (l.take n) 0 a;have c:left n (Array.replicate l.toArray.size false)=n:=by
  unfold left;rw[List.filter_eq_self.2]
  .simp
  .intro i x;have:i<l.toArray.size:=by have:=List.mem_range.1 x;omega
   simp at this;simp[this]
 have h:zOf K (Array.replicate l.toArray.size false) b=fun _=>none:=by
  funext j;unfold zOf;rw[getD_replicate_false,Bool.and_false];rfl
 have H:=vN (P:=P) (J:=J) (Q:=Q) (a0:=a) o g (by simpa using q) (by
   intro d e y z;have:=r d e y (yh d K cs W 0 fun j E A=>by rw[Nat.zero_add];exact z j (by omega) A);simpa using this) n (Array.replicate l.toArray.size false) a { w with drawn:=w.drawn+1 } c
  ⟨⟨by simp,fun j F _ c=>(by rw[getD_replicate_false]at c;cases c),fun t _ B=>getD_in (by simpa using B) (getD_replicate_false _ _)⟩,
   b,by simpa using(u b (fun _ _=>rfl)).symm,by rw[h];exact p,fun j _ c=>(by rw[getD_replicate_false]at c;cases c)⟩
 rw[show n+(l.toArray.size - n)=l.toArray.size by omega]at H;exact H
end
end
section
open Go Go.RowKit
structure cT where
 DM:Nat->Option Obj
 low:Nat
def cL [a:Inhabited cT]:Nat->Option Obj:=(default:cT).DM
open Classical in
noncomputable def qT [a:Inhabited cT]:Nat:=if ∀k,cL k=none then 0 else(default:cT).low
theorem jA [a:Inhabited cT] (h:∀k,cL k=none) (n:Nat):qT<=n:=by unfold qT;rw[if_pos h];exact Nat.zero_le _
variable [KW:Inhabited cT]
structure St (w0:World) (S O:Nat->Prop) (w:World) (f:Value) (gs gc:Nat) (m:Fs) (n:Int):Prop where
 one:One w0 S O w f m
 row:w.heap[gs]? = some (.cells #[f,.pointer (some ⟨gc,0,none⟩)] 88 (0,0))
 BZ:w.heap[gc]? = some (.cells #[.int .i64 n] 133 (0,0))
 lo:w0.heap.size<=gs/\w0.heap.size<=gc/\gs≠gc
 out:¬O gs/\¬O gc/\¬S gs/\¬S gc
 kp:∀k o,cL k=some o->w.heap[k]? = some o/\¬O k/\k≠gs/\k≠gc
 sz:qT<=w.heap.size
section
variable {w0 w w':World} {S O:Nat->Prop} {f:Value} {gs gc:Nat} {m m':Fs} {n:Int}
theorem St.more (h:St w0 S O w f gs gc m n) (a:Ext w w'):St w0 S O w' f gs gc m n:=⟨h.one.more a,Ext.row a h.row,Ext.row a h.BZ,h.lo,h.out,fun k o b=>⟨Ext.row a (h.kp k o b).1,(h.kp k o b).2⟩,Nat.le_trans h.sz a.size⟩
theorem St.lt (h:St w0 S O w f gs gc m n):gs<w.heap.size/\gc<w.heap.size:=⟨(Array.getElem?_eq_some_iff.1 h.row).1,(Array.getElem?_eq_some_iff.1 h.BZ).1⟩
theorem St.post (h:St w0 S O w f gs gc m n) (b:FsPost S O (fun k=>k<w.heap.size) w f m' w'):St w0 S (Nw O w w') w' f gs gc m' n:=by
 have j:=h.lt;refine⟨h.one.post b,b.fr.row h.row h.out.1,b.fr.row h.BZ h.out.2.1,h.lo,⟨fun a=>?_,fun a=>?_,h.out.2.2⟩,fun k o e=>?_,Nat.le_trans h.sz b.fr.size⟩
 .rcases a with a | a
  .exact h.out.1 a
  .omega
 .rcases a with a | a
  .exact h.out.2.1 a
  .omega
 .obtain ⟨c,d,g⟩:=h.kp k o e;have i:=(Array.getElem?_eq_some_iff.1 c).1;refine⟨b.fr.row c d,fun a=>?_,g⟩;rcases a with a | a
  .exact d a
  .omega
end
theorem iD (l:B8) (w:World) (b:l.length<=10000000):Calls Tryz.prog 79 #[S8 l] w fun e a=>e=.returned (S8 (ar l))/\a=w:=by
 go_enter Tryz.func79,Tryz.ntmps79;go_wp2;go_ret;exact⟨rfl,rfl⟩
theorem ug (w:World) (o:Obj):(w.alloc o).heap.size=w.heap.size+1:=Array.size_push ..
variable [Inhabited bc]
variable {w0 w w':World} {f:Value} {gs gc:Nat} {m:Fs} {n:Int}
theorem St.count {S O:Nat->Prop} {k:Int} (h:St w0 S O w f gs gc m n) (c:w'.heap[gc]? = some (.cells #[.int .i64 k] 133 (0,0))) (a:w.grownBy w' (some gc)):St w0 S O w' f gs gc m k :=
 ⟨h.one.grown a h.lo.2.1 h.out.2.1 h.out.2.2.2 (ao h.BZ (by kernel_rfl)),aS a h.row h.lo.2.2,c,h.lo,h.out,fun k o b=>⟨aS a (h.kp k o b).1 (h.kp k o b).2.2.2,(h.kp k o b).2⟩,Nat.le_trans h.sz a.size⟩
theorem jB {S O:Nat->Prop} (h:One w0 S O w f m) (c:∀k,cL k=none) :
  Calls Tryz.prog 9 #[f] w fun e w'=>∃gs gc,e=.returned (.pointer (some ⟨gs,0,none⟩))/\St w0 S O w' f gs gc m 0/\w'.heap.size=gs+1/\Ext w w'/\w.heap.size<=gs/\w.heap.size<=gc:=by
 have H:Hid (One w0 S O w f m):=h;obtain⟨g,rfl⟩:∃g,f=.pointer (some ⟨g,0,none⟩):=by
  obtain⟨g,z,A,B,C,D,L,E,q,-⟩:=h.fs;exact⟨g,q⟩
 clear h;go_enter Tryz.func9,Tryz.ntmps9;go_wp2_with fail;go_at_call 28;refine(oC w).mono ?_;rintro e p ⟨rfl,d,i⟩;have j:Hid _:=d;have a:Hid (Ext w p):=i;clear d i;go_wp2;go_ret;have u:=One.more H.out a.out;have b:Ext p (p.alloc (.cells #[.pointer (some ⟨g,0,none⟩),.pointer (some ⟨w.heap.size,0,none⟩)] 88)):=(Ext.refl _).alloc _;have x:=a.out.size;have y:=(Array.getElem?_eq_some_iff.1 j.out).1;have r:=H.out.ext.size;refine⟨p.heap.size,w.heap.size,rfl,⟨u.more b,ab _ _,Ext.row b j.out,⟨by omega,r,by omega⟩,⟨fun l=>?_,fun l=>?_,fun l=>?_,fun l=>?_⟩,fun k o t=>(by rw[c]at t;cases t),jA c _⟩,ug _ _,a.out.trans b,x,Nat.le_refl _⟩
 iterate 2
  .have:=(H.out.lo _ l).2;omega
 iterate 2
  .have:=(H.out.Cc _ l).2;omega
theorem yi {S O:Nat->Prop} (h:One w0 S O w f m) (a:∀k,cL k=none) :
  Calls Tryz.prog 9 #[f] w fun e w'=>∃gs gc,e=.returned (.pointer (some ⟨gs,0,none⟩))/\St w0 S O w' f gs gc m 0/\w'.heap.size=gs+1 :=
 (jB h a).mono (by rintro e w' ⟨gs,gc,b,c,d,-⟩;exact⟨gs,gc,b,c,d⟩)
variable {b:Nat}
theorem St.but {S O:Nat->Prop} (h:St w0 S O w f gs gc m n) (a:w.grownBy w' (some b)) (d:w0.heap.size<=b) (g:¬O b) (i:¬S b) (j:¬IsU8 w b) (l:gs≠b) (p:gc≠b) (q:cL b=none):St w0 S O w' f gs gc m n :=
 ⟨h.one.grown a d g i j,aS a h.row l,aS a h.BZ p,h.lo,h.out,fun k o c=>⟨aS a (h.kp k o c).1 (fun e=>by rw[e,q]at c;cases c),(h.kp k o c).2⟩,Nat.le_trans h.sz a.size⟩
structure RdJ (w0 w1:World) (S O:Nat->Prop) (f:Value) (gs gc:Nat) (m m1:Fs) (n:Int) (fx:Fi) (er:Int) (z6 z7 z8 z10 z11:Option Value) (w:World):Prop where
 base:St w0 S O w1 f gs gc m n
 pre:z6=none->Ext w1 w
 post:∀u,z6=some u->∃v O' R,u=.tuple #[fiV fx v,.int .i64 er]/\IsData R w v fx.data/\St w0 S O' w f gs gc m1 n/\KeepB w1 w/\∀b,w1.heap.size<=b->z10=some (.pointer (some ⟨b,0,none⟩))->¬O' b
 n7:z7≠none->z7=z6
 n8:∀u,z8=some u->∃q,z6=some (.tuple #[u,q])
 bl:∀u,z10=some u->∃b cs,u=.pointer (some ⟨b,0,none⟩)/\w.heap[b]? = some (.cells cs 56 (0,0))/\cs.size=3/\w1.heap.size<=b
 fl:z11≠none->∃v b,z8=some (fiV fx v)/\z10=some (.pointer (some ⟨b,0,none⟩))/\w.heap[b]? = some (.cells #[.int .i64 fx.mode,v,.int .i64 fx.time] 56 (0,0))
section
variable {w0 w1 w w':World} {S O:Nat->Prop} {f:Value} {gs gc:Nat} {m m1:Fs} {n er:Int} {fx:Fi} {z6 z7 z8 z10 z11:Option Value}
theorem RdJ.start (h:St w0 S O w1 f gs gc m n) (b:Ext w1 w):RdJ w0 w1 S O f gs gc m m1 n fx er none none none none none w :=
 ⟨h,fun _=>b,fun u a=>(by cases a),fun h=>absurd rfl h,fun u a=>(by cases a),fun u a=>(by cases a),fun h=>absurd rfl h⟩
theorem RdJ.st (h:RdJ w0 w1 S O f gs gc m m1 n fx er none z7 z8 z10 z11 w):St w0 S O w f gs gc m n:=h.base.more (h.pre rfl)
theorem RdJ.cell (h:RdJ w0 w1 S O f gs gc m m1 n fx er z6 z7 z8 z10 z11 w):w.cell? ⟨gs,0,none⟩=some f:=by
 cases a:z6 with
 | none=>rw[a]at h;exact(cell_of_row _ _ 0 _ _ _ h.st.row).trans rfl
 | some u =>
  obtain⟨v,c,R,-,-,b,-⟩:=h.post u a;exact(cell_of_row _ _ 0 _ _ _ b.row).trans rfl
theorem RdJ.low (h:RdJ w0 w1 S O f gs gc m m1 n fx er z6 z7 z8 z10 z11 w) (k:Nat) (c:w1.heap.size<=k):¬O k/\¬S k/\gs≠k/\gc≠k/\w0.heap.size<=k/\cL k=none:=by
 have d:=h.base.lt;have e:=h.base.one.ext.size;exact⟨fun a=>by have:=(h.base.one.lo _ a).2;omega,fun a=>by have:=(h.base.one.Cc _ a).2;omega,by omega,by omega,by omega,by
  cases b:cL k with
  | none=>rfl
  | some o=>have:=(Array.getElem?_eq_some_iff.1 (h.base.kp k o b).1).1;omega⟩
theorem RdJ.Dk (h:RdJ w0 w1 S O f gs gc m m1 n fx er z6 z7 z8 none z11 w) (cs:Array Value) (o:cs.size=3):RdJ w0 w1 S O f gs gc m m1 n fx er z6 z7 z8 (some (.pointer (some ⟨w.heap.size,0,none⟩))) z11 (w.alloc (.cells cs 56)):=by
 have a:Ext w (w.alloc (.cells cs 56)):=(Ext.refl w).alloc _;have d:w1.heap.size<=w.heap.size:=by
  cases c:z6 with
  | none=>exact(h.pre c).size
  | some u =>
   exact(h.post u c).choose_spec.choose_spec.choose_spec.2.2.2.1.1
 refine⟨h.base,fun c=>(h.pre c).trans a,fun u g=>?_,h.n7,h.n8,fun u g=>?_,fun i=>(by obtain⟨v,b,-,j,-⟩:=h.fl i;cases j)⟩
 .obtain ⟨v,p,R,e,q,l,k,-⟩:=h.post u g;have r:=a.size;refine⟨v,p,R,e,q.ext a,l.more a,k.trans (KeepB.BO a),fun b y t x=>?_⟩;cases t;have:=(l.one.lo _ x).2;omega
 .cases g;exact⟨_,cs,rfl,ab _ _,o,d⟩
variable {v:Value}
theorem RdJ.DB (h:RdJ w0 w1 S O f gs gc m m1 n fx er none z7 z8 z10 z11 w) (j:FsPost S O (fun k=>k<w.heap.size) w f m1 w') (r:IsData (Nu w w') w' v fx.data) :
  RdJ w0 w1 S O f gs gc m m1 n fx er (some (.tuple #[fiV fx v,.int .i64 er])) z7 z8 z10 z11 w':=by
 have t:z7=none:=by
  cases c:z7 with
  | none=>rfl
  | some u=>have:=h.n7 (by rw[c];simp);rw[c]at this;cases this
 have l:z8=none:=by
  cases c:z8 with
  | none=>rfl
  | some u=>obtain⟨q,x⟩:=h.n8 u c;cases x
 subst t;subst l;refine⟨h.base,fun c=>(by cases c),fun u d=>?_,fun c=>absurd rfl c,fun u d=>(by cases d),fun u d=>?_,fun o=>(by obtain⟨v,b,l,-⟩:=h.fl o;cases l)⟩
 .cases d;refine⟨v,_,_,rfl,r,h.st.post j,(KeepB.BO (h.pre rfl)).trans j.fr.keep,fun b g y i=>?_⟩
  obtain⟨B,p,e,a,-,-⟩:=h.bl _ y;cases e;have z:=(Array.getElem?_eq_some_iff.1 a).1;rcases i with i | i
  .exact (h.low _ g).1 i
  .omega
 .obtain ⟨b,p,e,a,A,g⟩:=h.bl u d;exact⟨b,p,e,j.fr.row a (h.low _ g).1,A,g⟩
variable {u:Value}
theorem RdJ.CX (h:RdJ w0 w1 S O f gs gc m m1 n fx er z6 z7 z8 z10 z11 w) (a:z6=some u):RdJ w0 w1 S O f gs gc m m1 n fx er z6 (some u) z8 z10 z11 w :=
 ⟨h.base,h.pre,h.post,fun _=>a.symm,h.n8,h.bl,h.fl⟩
theorem RdJ.seven (h:RdJ w0 w1 S O f gs gc m m1 n fx er z6 z7 z8 z10 z11 w) (a:z7=some u):∃v,u=.tuple #[fiV fx v,.int .i64 er]:=by
 have b:=h.n7 (by rw[a];simp);obtain⟨v,c,R,e,-⟩:=h.post u (b.symm.trans a);exact⟨v,e⟩
theorem RdJ.CY {q:Value} (h:RdJ w0 w1 S O f gs gc m m1 n fx er z6 z7 none z10 z11 w) (c:z7=some (.tuple #[u,q])):RdJ w0 w1 S O f gs gc m m1 n fx er z6 z7 (some u) z10 z11 w :=
 ⟨h.base,h.pre,h.post,h.n7,fun x d=>(by cases d;exact⟨q,(h.n7 (by rw[c];simp)).symm.trans c⟩),h.bl,fun a=>(by obtain⟨v,b,e,-⟩:=h.fl a;cases e)⟩
variable {u8 u10:Value}
theorem RdJ.mid (h:RdJ w0 w1 S O f gs gc m m1 n fx er z6 z7 z8 z10 z11 w) (i:z8=some u8) (d:z10=some u10):∃v b c,u8=fiV fx v/\u10=.pointer (some ⟨b,0,none⟩)/\w.heap[b]? = some (.cells c 56 (0,0))/\c.size=3/\v.oneCell'=true:=by
 obtain⟨q,j⟩:=h.n8 _ i;obtain⟨v,o,R,e,k,-⟩:=h.post _ j;obtain⟨b,c,g,a,l,p⟩:=h.bl _ d;simp only[Value.tuple.injEq,Array.mk.injEq,List.cons.injEq,and_true]at e;obtain⟨r,t,rfl,-⟩:=k.bytes;exact⟨_,b,c,e.1,g,a,l,rfl⟩
theorem RdJ.CL {x:Value} {cs:Array Value} (h:RdJ w0 w1 S O f gs gc m m1 n fx er z6 z7 z8 z10 none w) (r:z8=some (fiV fx v)) (a:z10=some (.pointer (some ⟨b,0,none⟩))) (c:w.heap[b]? = some (.cells cs 56 (0,0)))
  (t:w'.heap[b]? = some (.cells #[.int .i64 fx.mode,v,.int .i64 fx.time] 56 (0,0))) (i:w.grownBy w' (some b)):RdJ w0 w1 S O f gs gc m m1 n fx er z6 z7 z8 z10 (some x) w':=by
 have y:¬IsU8 w b:=ao c (by kernel_rfl);have G:=i.size;obtain⟨H,B,j,-,-,k⟩:=h.bl _ a;cases j;have g:=h.low b k;refine⟨h.base,fun C=>?_,fun u l=>?_,h.n7,h.n8,fun u d=>?_,fun _=>⟨v,b,r,a,t⟩⟩
 .obtain ⟨q,z⟩:=h.n8 _ r;rw[C]at z;cases z
 .obtain ⟨D,E,R,e,F,o,p,A⟩:=h.post u l;refine⟨D,E,R,e,F.BQ (dG i y),o.but i g.2.2.2.2.1 (A b k a) g.2.1 y g.2.2.1 g.2.2.2.1 g.2.2.2.2.2,p.trans (KeepB.BR i c (by kernel_rfl)),A⟩
 .rw [a]at d;cases d;exact⟨b,_,rfl,t,rfl,k⟩
theorem RdJ.fin {u6 u7 u11:Value} (h:RdJ w0 w1 S O f gs gc m m1 n fx er (some u6) (some u7) (some u8) (some u10) (some u11) w):∃v c b,u10=.pointer (some ⟨b,0,none⟩)/\KeepB w1 w/\(IsBytes w v fx.data/\TypB w v)/\St w0 S c w f gs gc m1 n/\w.heap[b]? = some (.cells #[.int .i64 fx.mode,v,.int .i64 fx.time] 56 (0,0)):=by
 obtain⟨o,c,R,e,g,i,j,-⟩:=h.post _ rfl;obtain⟨q,k⟩:=h.n8 _ rfl;obtain⟨v,b,l,d,a⟩:=h.fl (by simp);cases l;cases d;cases k;simp only[Value.tuple.injEq,Array.mk.injEq,List.cons.injEq,and_true,fiV,Value.agg.injEq,true_and]at e;obtain⟨rfl,-⟩:=e;exact⟨_,c,b,rfl,j,⟨g.bytes,g.typed⟩,i,a⟩
end
theorem vO:(Tryz.prog.info? 56).map (·.size)=some 3:=by kernel_rfl
theorem p5 {c:Prop} [Decidable c] {b:Operand->Value} {R:Value->World->Prop} {o:Oper} (a:TypeId) (x y:Operand) {g:Nat} {vs:Array Value} {t:TypeId} {cur:Array Value} (r:c) (u:o.op=.store a x y) (z:b x=.pointer (some ⟨g,0,none⟩)) (A:b y=.agg vs)
  (B:∀v∈vs.toList,v.oneCell'=true) (k:w.heap[g]? = some (.cells cur t (0,0))) (l:cur.size=vs.size) (p:(Tryz.prog.info? a).map (·.size)=some vs.size) (h:∀w',w'.heap[g]? = some (.cells vs t (0,0))->w.grownBy w' (some g)->R undef w') :
  if c then eN Tryz.prog R ((execOp b o).run Tryz.prog w)else R undef w:=by
 rw[if_pos r];have q:=run_storeCells_at (P:=Tryz.prog) g 0 t vs.toList 0 cur w k (by simp[l]) B;have C:(storeVar a ⟨g,0,none⟩ (.agg vs)).run Tryz.prog w=.ok () (w.setRow g vs):=by
  cases d:Tryz.prog.info? a with
  | none=>simp[d]at p
  | some i =>
   have e:i.size=vs.size:=by simpa [d]using p
   have j:cur.toList.drop vs.size=[]:=List.drop_eq_nil_of_le (by simp[l]);simp only[Nat.add_zero,Array.length_toList,List.take_zero,List.nil_append,Nat.zero_add,j,List.append_nil,Array.toArray_toList]at q;simp[storeVar,sizeOf,typeInfo,d,Value.cells,e,q]
 unfold execOp;simp only[u,z,A,Instr.storeAt,Instr.sureAddr,Sem.run_bind,Sem.run_pure,Result.andThen_ok,C];exact h _ (setRow_heap _ _ _ _ _ _ k) (ae _ _ _)
variable {k:Nat}
theorem pA {S O:Nat->Prop} (id:B8) (h:St w0 S O w f gs gc m n) (hE:Env w0) (M:Good k m) (c:k<=79900) (P:0<=n) (a3:n<=100000) (hid:id.length<=100) :
  Calls Tryz.prog 75 #[.pointer (some ⟨gs,0,none⟩),S8 id] w fun e w'=>∃(v:Value) (O':Nat->Prop),e=.returned (.tuple #[v,.int .i64 (aE m (ar id)).2.2])/\(IsBytes w' v (aE m (ar id)).2.1.data/\TypB w' v)/\KeepB w w'/\St w0 S O' w' f gs gc (aE m (ar id)).1 (n+1):=by
 have H:Hid (St w0 S O w f gs gc m n):=h;have HE:Hid (Env w0):=hE;have HG:Hid (Good k m):=M;have C:(ar id).length<=400:=by unfold ar;simp;omega
 have Q:Hid _:=C;obtain⟨g,rfl⟩:∃g,f=.pointer (some ⟨g,0,none⟩):=by
  obtain⟨g,gm,gd,vp,vl,vu,L,c0,T,-⟩:=h.one.fs;exact⟨g,T⟩
 have c1:w.cell? ⟨gs,1,none⟩=some (.pointer (some ⟨gc,0,none⟩)):=(cell_of_row _ _ 1 _ _ _ h.row).trans rfl;obtain⟨⟨m1,D,U⟩,V⟩:∃q,aE m (ar id)=q:=⟨_,rfl⟩;have HR:Hid _:=V;rw[V];clear h hE M C V;go_enter Tryz.func75,Tryz.ntmps75;go_wp2_with fail;go_at_call 132;refine(oD H.out.BZ P (by omega)).mono ?_;rintro e N ⟨rfl,E,y⟩;have H1:Hid (St w0 S O N (.pointer (some ⟨g,0,none⟩)) gs gc m (n+1)):=St.count H.out E y;have d0:N.cell? ⟨gs,0,none⟩=some (.pointer (some ⟨g,0,none⟩)):=(cell_of_row _ _ 0 _ _ _ H1.out.row).trans rfl;have W:Hid (KeepB w N):=KeepB.BR y H.out.BZ (by kernel_rfl);clear E y c1;go_upto_region 2 with fail;have F:∀A,St w0 S O A (.pointer (some ⟨g,0,none⟩)) gs gc m (n+1)->Calls Tryz.prog 101 #[.pointer (some ⟨g,0,none⟩),S8 (ar id)] A fun e w'=>(∃v,e=.returned (.tuple #[fiV D v,.int .i64 U])/\IsData (Nu A w') w' v D.data)/\FsPost S O (fun k=>k<A.heap.size) A (.pointer (some ⟨g,0,none⟩)) m1 w':=fun A h2=>by
  have hq:=qH (ar id) (One.fin h2.one HE.out HG.out (by omega)) Q.out;rw[HR.out]at hq;exact hq
 have X:Hid _:=F;clear F d0;apply aI 12 (fun z w'=>RdJ w0 N S O (.pointer (some ⟨g,0,none⟩)) gs gc m m1 (n+1) D U (z 6) (z 7) (z 8) (z 10) (z 11) w') [false,false,false,false,false,false,true,true,true,false,true,true] [_,_,_,.pointer (some ⟨g,0,none⟩),_,S8 (ar id),undef,undef,undef,.int .i64 U,undef,undef] [none,none,none,none,none,none,none,none,none,none,none,none] [[],[0],[1],[2],[],[4],[3,5],[6],[7],[7],[],[8,10]] (by kernel_rfl) (by kernel_rfl) rfl
 .exact RdJ.start H1.out ⟨rfl,rfl,rfl,Nat.le_refl _,fun _ _=>rfl⟩
 .simp (maxSteps:=1000000)only[cY,cG,bP,cA,cN,List.getD_cons_zero,List.getD_cons_succ,Bool.false_eq_true,if_false,if_true,and_true,true_and,forall_const,Nat.zero_add,Nat.reduceAdd,List.take_succ_cons,List.take_zero,aa,Act.put,List.setIfInBounds_toArray,List.set_cons_zero,List.set_cons_succ];and_intros
  iterate 5 · intro i z B a;intros;rename_i d;have f0:=a.cell;go_simp;exact d _ _ a rfl
  .intro i z B a c R d;go_simp;exact(iD id _ (by omega)).mono (by rintro e' w4 ⟨rfl,rfl⟩;exact⟨_,rfl,d _ _ a rfl⟩)
  .intro i z B a r c R d;obtain⟨l,o⟩:=c;rw[r]at a;go_simp;exact(X.out _ a.st).mono (by rintro e' w4 ⟨⟨v,rfl,hd⟩,hp⟩;exact⟨_,rfl,d _ _ (RdJ.DB a hp hd)⟩)
  .intro i z B a r c R d;go_simp;exact d _ _ (RdJ.CX a c)
  .intro i z B a r c R d;rw[r]at a;obtain⟨v,Y⟩:=RdJ.seven a c;rw[Y]at c ⊢;go_simp;exact d _ _ (RdJ.CY a c)
  .intro i z B a c R d;obtain⟨v,Y⟩:=RdJ.seven a c;rw[Y];go_simp;exact d _ _ a rfl
  .intro i z B a r R d;rw[r]at a;go_simp;exact d _ _ (RdJ.Dk a _ rfl)
  .intro i z B a r c R d;obtain⟨l,o⟩:=c;rw[r]at a;obtain⟨v,b,cs,e8,p,x,Z,ad⟩:=RdJ.mid a l o;rw[e8]at l;rw[p]at o;apply p5 56 (.tmp 6) (.tmp 21) (g:=b) (vs:=#[.int .i64 D.mode,v,.int .i64 D.time]) (t:=56) (cur:=cs)
   iterate 2
    .rfl
   .exact p
   .exact e8
   .intro u hu;simp at hu;rcases hu with rfl | rfl | rfl <;> first | exact ad | rfl
   .exact x
   .exact Z
   .exact vO
   .intro w' M au;exact d _ _ (RdJ.CL a l o x M au)
 intro i A G c;simp only[cX,List.getD_cons_zero,List.getD_cons_succ,Bool.false_eq_true,if_false,if_true]at G;simp only[bU,Nat.zero_add,Nat.reduceAdd,and_true]at c;simp(maxSteps:=1000000)only[List.drop_succ_cons,List.drop_zero,Nat.zero_add,Nat.reduceAdd,List.take_succ_cons,List.take_zero,aa,Act.put,List.setIfInBounds_toArray,List.set_cons_zero,List.set_cons_succ,c];clear c;generalize i 6=x6 at *;generalize i 7=x7 at *;generalize i 8=x8 at *;generalize i 10=a4 at *;generalize i 11=a5 at *;obtain⟨v,O',b,p,I,J,K,j⟩:=RdJ.fin G;have a0:Hid _:=W.out.trans I;have a1:Hid _:=K;have a2:Hid _:=J;obtain⟨c0,c1,c2⟩:=bE j;clear I J K j;subst p;go_wp2;go_ret2;exact⟨_,_,rfl,a2.out,a0.out,a1.out⟩
theorem vP {S O:Nat->Prop} (id:B8) (h:St w0 S O w f gs gc m n) (d:Env w0) (g:Good k m) (a:k<=79900) (b:0<=n) (c:n<=100000) (hid:id.length<=100) :
  Calls Tryz.prog 75 #[.pointer (some ⟨gs,0,none⟩),S8 id] w fun e w'=>∃(v:Value) (O':Nat->Prop),e=.returned (.tuple #[v,.int .i64 (aE m (ar id)).2.2])/\IsBytes w' v (aE m (ar id)).2.1.data/\KeepB w w'/\St w0 S O' w' f gs gc (aE m (ar id)).1 (n+1):=by
 refine(pA id h d g a b c hid).mono ?_;rintro e w' ⟨v,O',i,j,a,l⟩;exact⟨v,O',i,j.1,a,l⟩
end
section
open Go Go.RowKit
theorem qU:(Tryz.prog.info? 164).map (fun i=>(i.zero,i.size,i.bytes))=some (some (.agg #[S8 [],.int .i64 0,.slice none 0 0,.int .i64 0]),4,56):=by kernel_rfl
def OwnRows (a:Nat) (R:Nat->Prop) (w:World) (v:Value) (l:aq):Prop:=∃b:List (List Value),w.ownsRow a 164 4 v l.length b.flatten/\Each (IsRowR R w) b l
variable {base:Nat} {w:World} {v:Value} {l:aq}
theorem OwnRows.rows {R:Nat->Prop} (h:OwnRows base R w v l) (d:l.length<=100000000):bG R w v l:=by
 obtain⟨a,b,c⟩:=h;exact⟨a,Row.BM b (by omega),Typed.BM b,c⟩
theorem OwnRows.lt {R:Nat->Prop} (h:OwnRows base R w v l) {k:Nat} (a:v.ownBlock=some k):base<=k/\k<w.heap.size:=by
 obtain⟨b,c,d⟩:=h;exact c.lt k a
variable {css:List (List Value)} {n:Nat}
theorem Each.len {α:Type} {p:List Value->α->Prop} {xs:List α} (h:Each p css xs) (d:∀c x,p c x->c.length=n):∀c∈css,c.length=n:=fun c e=>by
 obtain⟨i,b,rfl⟩:=List.mem_iff_getElem.1 e;have a:i<xs.length:=by rw[<-h.1];exact b
 exact d _ _ (h.2 i css[i] xs[i] (List.getElem?_eq_getElem b) (List.getElem?_eq_getElem a))
theorem mT:∀ {css:List (List Value)},(∀c∈css,c.length=n)->css.flatten.length=css.length*n
 | [],_=>by simp
 | c::css,h=>by
  rw[List.flatten_cons,List.length_append,h c (by simp),mT (fun c a=>h c (by simp[a])),List.length_cons,Nat.add_mul];omega
theorem Each.one {α:Type} {p:List Value->α->Prop} {xs:List α} (h:Each p css xs) (e:∀c x,p c x->c.all (·.oneCell')=true):∀u∈css.flatten,u.oneCell'=true:=fun u a=>by
 obtain⟨c,g,a⟩:=List.mem_flatten.1 a;obtain⟨i,d,rfl⟩:=List.mem_iff_getElem.1 g;have b:i<xs.length:=by rw[<-h.1];exact d
 exact List.all_eq_true.1 (e _ _ (h.2 i css[i] xs[i] (List.getElem?_eq_getElem d) (List.getElem?_eq_getElem b))) u a
theorem Each.take {α:Type} {p:List Value->α->Prop} {xs:List α} (h:Each p css xs) (k:Nat):Each p (css.take k) (xs.take k):=by
 refine⟨by simp[h.1],fun i c x a b=>?_⟩;rw[List.getElem?_take]at a b;split at a
 .rename_i d;rw[if_pos d]at b;exact h.2 i c x a b
 .cases a
theorem Each.drop {α:Type} {p:List Value->α->Prop} {xs:List α} (h:Each p css xs) (k:Nat):Each p (css.drop k) (xs.drop k):=by
 refine⟨by simp[h.1],fun i c x a b=>?_⟩;rw[List.getElem?_drop]at a b;exact h.2 _ c x a b
theorem Each.append {α:Type} {p:List Value->α->Prop} {e:List (List Value)} {xs ys:List α} (h:Each p css xs) (k:Each p e ys):Each p (css++e) (xs++ys):=by
 refine⟨by simp[h.1,k.1],fun i c x b a=>?_⟩;rw[List.getElem?_append]at b a
 by_cases d:i<css.length
 .rw [if_pos d]at b;rw[if_pos (by rw[<-h.1];exact d)]at a;exact h.2 i c x b a
 .rw [if_neg d]at b;rw[if_neg (by rw[<-h.1];exact d)]at a;rw[<-h.1]at a;exact k.2 _ c x b a
theorem pB:∀ {css:List (List Value)} (k:Nat),(∀c∈css,c.length=n)->css.flatten.take (k*n)=(css.take k).flatten
 | css,0,_=>by simp
 | [],k+1,_=>by simp
 | c::css,k+1,h=>by
  have a:=h c (by simp);rw[List.flatten_cons,List.take_succ_cons,List.flatten_cons,List.take_append,<-pB k (fun c a=>h c (by simp[a]))];rw[List.take_of_length_le (by rw[a,Nat.add_mul];omega),a,show(k+1)*n - n=k*n by rw[Nat.add_mul];omega]
theorem pC:∀ {css:List (List Value)} (k:Nat),(∀c∈css,c.length=n)->css.flatten.drop (k*n)=(css.drop k).flatten
 | css,0,_=>by simp
 | [],k+1,_=>by simp
 | c::css,k+1,h=>by
  have a:=h c (by simp);rw[List.flatten_cons,List.drop_succ_cons,List.drop_append,<-pC k (fun c a=>h c (by simp[a]))];rw[List.drop_of_length_le (by rw[a,Nat.add_mul];omega),a,show(k+1)*n - n=k*n by rw[Nat.add_mul];omega,List.nil_append]
section
variable {ops:Array Oper} {rest:List Oper} {o:Oper} {a:Act} {Q:Exit->Act->World->Prop} {w:World}
theorem Ad (k:o.guard=none) (s x:Operand) (q:o.op=.call { callee:=.builtin .append,args:=#[s,x],argTypes:=#[80,80] })
  (base:Nat) (v:Value) (n:Nat) (xs:List Value) (r:a.eval s=v) (e:w.ownsRow base 164 4 v n xs)
  (g c:Nat) (b:List Value) (t:a.eval x=.slice (some ⟨g,0,none⟩) 1 c) (y:b.length=4) {fr:Nat×Nat} (z:w.heap[g]? = some (.cells b.toArray 164 fr)) (p:b.all (·.oneCell')=true)
  (C:n<=100000000) (d:base<=w.heap.size)
  (h:∀j i,i.ownsRow base 164 4 j (n+1) (xs++b)->w.grownBy i v.ownBlock->wpList Tryz.prog ops Q rest (a.put o.dst j) i):wpList Tryz.prog ops Q (o::rest) a w :=
 gB _ _ _ 4 56 Tryz.underlying80 qU rfl (by omega) k s x q base v n _ r e ⟨g,0,none⟩ 1 c _ t (by simpa using y) (by simpa using cP z) (fun u A=>List.all_eq_true.1 p u A) (by omega) (by omega) d
  (fun j i p B _=>h j i p B)
end
theorem gn (base:Nat) (v:Value) (n:Nat) (xs:List Value) (e:w.ownsRow base 164 4 v n xs) (x:Value) (m:Nat) (d:List Value) (N:Row w x m d) (G:d.length=m*4) (O:∀u∈d,u.oneCell'=true) (Y:n+m<=1000000000) (h:base<=w.heap.size) :
  ∃k p,(Builtin.append_ #[80,80] 80 #[v,x]).run Tryz.prog w=.ok k p/\p.ownsRow base 164 4 k (n+m) (xs++d)/\w.grownBy p v.ownBlock/\(k.ownBlock=v.ownBlock\/k.ownBlock=some w.heap.size):=by
 obtain⟨H,I,z,A,B⟩:=info_parts qU;obtain⟨a,q,rfl,Z,k2,k3,J⟩:=N
 cases a with
 | none =>
  have Q:d=[]:=by
   cases d with
   | nil=>rfl
   | cons y l=>obtain⟨b,o,C,_⟩:=J (by simp);cases C
  subst Q;have R:m=0:=by simp at G;omega
  subst R;obtain⟨D,K,t,rfl,E⟩:∃D K t,v=.slice D n t/\n<=t/\K=n:=by
   rcases e.2 with⟨rfl,S⟩ | ⟨g,c,T,rfl,_,_,F,_⟩
   .exact ⟨none,n,0,by rw[S],by omega,rfl⟩
   .exact ⟨_,n,c,rfl,F,rfl⟩
  refine⟨_,w,run_append_nothing w _ _ _ _ H Tryz.underlying80 I D n t E.1 _ (Src.ofNil w Tryz.underlying80 q),by simpa using e,⟨rfl,rfl,rfl,Nat.le_refl _,fun _ _ _=>rfl⟩,.inl rfl⟩
 | some L =>
  have i:∀j u,d[j]? = some u->w.cell? (L.add j)=some u:=fun j u M=>by
   obtain⟨b,o,C,F⟩:=J (by rintro rfl;simp at M);cases C;have r:(⟨b,o,none⟩:Addr).add j=⟨b,o+j,none⟩:=by unfold Addr.add;split <;> simp_all
   rw[r];exact F j u M
  obtain⟨k,p,U,V,W,_,X⟩:=run_append_own_at (P:=Tryz.prog) w base 80 80 164 H _ 4 56 Tryz.underlying80 I z A B rfl (by omega) v n xs e L m q d G i O (by unfold maxLen;omega) (by omega) h;exact⟨k,p,U,V,W,X⟩
theorem gU {R:Nat->Prop} (p:B8) (M:bG R w v l) (hl:l.length<=10000000) :
  Calls Tryz.prog 194 #[v,S8 p] w fun e N=>(∃D,e=.returned D/\OwnRows w.heap.size R N D (b9 l p))/\Ext w N:=by
 obtain⟨a,W,rfl,h1,h2,h3,O⟩:=bQ M;have X:Hid _:=O;have Y:=tl p;clear O M;go_enter Tryz.func194,Tryz.ntmps194;go_wp2;go_loopw [5,6] (fun E i wr=>∃(k n:Nat) (g:List (List Value)),k<=l.length/\i=.int .i64 k/\(b9 (l.take k) p).length=n/\n<=k/\wr.ownsRow w.heap.size 164 4 E n g.flatten/\Each (IsRowR R w) g (b9 (l.take k) p)/\Ext w wr) (fun _ i _=>l.length - (intOf i).toNat)
 case atStart=>exact⟨0,0,[],Nat.zero_le _,rfl,rfl,Nat.le_refl _,World.ownsRow_nil _ _ _ _,Each.nil _,Ext.refl _⟩
 case round =>
  obtain⟨k,n,g,hk,rfl,y,Z,d,h,j⟩:=hrel;have F:Hid _:=y;have G:Hid _:=h;clear y h
  by_cases H:k<l.length
  .obtain ⟨⟨q,f⟩,t⟩:∃e,l[k]? = some e:=⟨_,List.getElem?_eq_getElem H⟩;obtain⟨b,o,s,c,rfl,I,P,Q,S,T,U⟩:=X.out k q f t;replace Q:=j.cell Q;replace S:=j.cell S;replace T:=j.cell T;replace U:=j.cell U;have C:Hid _:=vJ (p:=p) t;have HR:Hid (IsRowR R w [S8 q,.int .i64 f.mode,.slice s f.data.length c,.int .i64 f.time] (q,f)):=⟨I,_,rfl,P⟩;have ad:=tl q;have au:=j.size;clear P t;obtain⟨J,z⟩:∃J,(q==p)=J:=⟨_,rfl⟩
   cases J with
   | true =>
    have A:Hid (q=p):=by simpa [Hid]using z
    go_wp2;go_roundw
    case rel=>exact⟨k+1,n,g,by omega,by go_num,by rw[C.out,if_pos A.out];exact F.out,by omega,d,by rw[C.out,if_pos A.out];exact G.out,j⟩
    case measure=>simp[intOf];omega
   | false =>
    have A:Hid (q≠p):=by simpa [Hid]using z
    go_wp2_with (at_builtin;go_must (refine Ad rfl _ _ rfl w.heap.size _ n _ rfl (d.alloc _) wr.heap.size 1 [S8 q,.int .i64 f.mode,.slice s f.data.length c,.int .i64 f.time] rfl rfl (ab _ _) (by simp[Value.oneCell']) (by omega) (by simp;omega) ?_;intro D w3 u K))
    go_roundw
    case rel =>
     refine⟨k+1,n+1,g++[[S8 q,.int .i64 f.mode,.slice s f.data.length c,.int .i64 f.time]],by omega,by go_num,by rw[C.out,if_neg A.out,List.length_append,F.out];rfl,by omega,?_,by rw[C.out,if_neg A.out];exact Each.snoc G.out HR.out,ai (j.alloc _) (d.alloc _) K⟩;rw[List.flatten_append];simpa using u
    case measure=>simp[intOf];omega
  .have L:k=l.length:=by omega
   subst L;have r:OwnRows w.heap.size R wr u5 (b9 l p):=by
    have y:=F.out;have V:=G.out;rw[List.take_length]at y V;exact⟨g,by rw[y];exact d,Each.imp V (fun c x hc=>IsRowR.BQ hc (KeepR.BS (KeepB.BO j)))⟩
   have B:Hid _:=r;clear r d;go_wp2;go_ret;exact⟨⟨_,rfl,B.out⟩,j⟩
end
end Go.Proofs.YtfabjgfmiaammaaGreatDoor
