/- Contracts of the program's functions and plain laws behind the card. Conditions: as each theorem states. -/
import Derived.Test.YtgfegpnmlkdjfaaGreatDoorZad
import Derived.Test.YtgfegpnmlkdjfaaGreatDoorZaa
set_option linter.unusedVariables false
set_option linter.unusedSimpArgs false
set_option linter.unusedSectionVars false
set_option maxRecDepth 100000
set_option maxHeartbeats 64000000
namespace Go.Proofs.YtgfegpnmlkdjfaaGreatDoor
section
open Go Go.RowKit
def bf (n:Nat):B8:=if 127<n then UInt8.ofNat (n%128+128)::bf (n / 128)else[UInt8.ofNat n]
termination_by n
decreasing_by omega
def cF:Nat:=72057594037927936
def putW (n:Int):B8×Int:=if n<0\/(cF:Int)<n then([],1)else(bf n.toNat,0)
def dO (l:B8):Nat:=(l.takeWhile fun c=>decide (127<c.toNat)).length
def fD:B8->Nat
 | []=>0
 | c::l=>c.toNat%128+128*fD l
def gg (l:B8):Nat×Nat×Int :=
 if dO l=l.length then(0,0,2)
 else if 9<dO l+1 then(0,0,4)
 else if cF<fD (l.take (dO l+1))\/bf (fD (l.take (dO l+1)))≠l.take (dO l+1)then(0,0,4)
 else(fD (l.take (dO l+1)),dO l+1,0)
variable {n:Nat}
theorem pE (h:n<=127):bf n=[UInt8.ofNat n]:=by
 rw[bf,if_neg (by omega)]
theorem t5 (h:127<n):bf n=UInt8.ofNat (n%128+128)::bf (n / 128):=by
 rw[bf,if_pos h]
theorem t6:∀(k n:Nat),n<128 ^ k->1<=k->(bf n).length<=k
 | 0,n,_,h=>by omega
 | k+1,n,c,_=>by
  by_cases h:127<n
  .rw [t5 h,List.length_cons];have a:n / 128<128 ^ k:=by
    rw[Nat.pow_succ]at c;omega
   have b:1<=k:=by
    cases k with
    | zero=>simp at a;omega
    | succ k=>omega
   have:=t6 k (n / 128) a b;omega
  .rw [pE (by omega)];simp
theorem cM (h:n<=cF):(bf n).length<=9:=t6 9 n (by unfold cF at h;omega) (by omega)
theorem DP {l:B8} (h:(gg l).2.2=0):(gg l).2.1=dO l+1/\dO l+1<=l.length/\(gg l).1<=cF:=by
 have d:dO l<=l.length:=(List.takeWhile_prefix _).length_le;unfold gg at h ⊢;split
 .rename_i b;rw[if_pos b]at h;cases h
 .rename_i b;rw[if_neg b]at h;split
  .rename_i c;rw[if_pos c]at h;cases h
  .rename_i c;rw[if_neg c]at h;split
   .rename_i a;rw[if_pos a]at h;cases h
   .rename_i a;exact⟨rfl,by omega,by simp only[not_or,Nat.not_lt]at a;exact a.1⟩
end
section
open Go Go.RowKit
def dM (V:List (Value->Prop)) (k:Nat):Value->Prop:=V.getD k (fun _=>True)
def zOf (K:List Bool) (a:Array Bool) (xs:Nat->Value):Nat->Option Value:=fun j=>if K.getD j false && a.getD j false then some (xs j)else none
def fE (K:List Bool) (xs:Nat->Value):Nat->Option Value:=fun j=>if K.getD j false then some (xs j)else none
def uv (z:Nat->Option Value) (k:Nat) (u:Value):Nat->Option Value:=fun j=>if j=k then some u else z j
def dm (K:List Bool) (V:List (Value->Prop)) (z:Nat->Option Value) (xs:Nat->Value):List Nat->Prop
 | []=>True
 | j::l=>(if K.getD j false then z j=some (xs j)else dM V j (xs j))/\dm K V z xs l
theorem re {K:List Bool} {V:List (Value->Prop)} {z:Nat->Option Value} {xs:Nat->Value}:∀ {l:List Nat},(∀j∈l,if K.getD j false then z j=some (xs j)else dM V j (xs j))->dm K V z xs l
 | [],_=>trivial
 | j::l,h=>⟨h j (by simp),re fun i a=>h i (by simp[a])⟩
section
variable {P:Program} {J:(Nat->Option Value)->World->Prop}
def eR (P:Program) (J:(Nat->Option Value)->World->Prop) (ops:Array Oper) (K:List Bool) (V:List (Value->Prop)) (head:List Oper) (a0:Act) (k:Nat) (d:List Nat) (o:Oper):Bool->Prop
 | true=>∀(a:Nat->Value) (z:Nat->Option Value) (w:World),J z w->z k=none->dm K V z a d->∀R:Value->World->Prop,(∀u b,J (uv z k u) b->R u b) ->
  if Region.wanted o (yielded ops (af a head 0 a0).tmps)then dW P R ((execOp (af a head 0 a0).eval o).run P w)else R undef w
 | false=>∀(a:Nat->Value) (z:Nat->Option Value) (w:World),J z w->dm K V z a d->∀R:Value->World->Prop,(∀u b,J z b->dM V k u->R u b) ->
  if Region.wanted o (yielded ops (af a head 0 a0).tmps)then dW P R ((execOp (af a head 0 a0).eval o).run P w)else R undef w
def fC (P:Program) (J:(Nat->Option Value)->World->Prop) (ops:Array Oper) (K:List Bool) (V:List (Value->Prop)) (D:List (List Nat)) (head:List Oper) (a0:Act):List Oper->List Bool->Nat->Prop
 | [],_,_=>True
 | _::_,[],_=>False
 | o::l,b::a,k=>eR P J ops K V head a0 k (D.getD k []) o b/\fC P J ops K V D head a0 l a (k+1)
theorem tS {ops:Array Oper} {K:List Bool} {V:List (Value->Prop)} {D:List (List Nat)} {head:List Oper} {a0:Act} :
  ∀ {l:List Oper} {a:List Bool} {k:Nat},fC P J ops K V D head a0 l a k->∀i o,l[i]? = some o->eR P J ops K V head a0 (k+i) (D.getD (k+i) []) o (a.getD i false)
 | [],_,_,_,i,o,h=>by simp at h
 | _::_,[],_,h,_,_,_=>h.elim
 | p::l,b::a,k,h,0,o,c=>by
  have:p=o:=by simpa using c
  subst this;simpa using h.1
 | p::l,b::a,k,h,i+1,o,c=>by
  have:=tS h.2 i o (by simpa using c);rw[show k+1+i=k+(i+1)by omega]at this;simpa using this
structure Fh (J:(Nat->Option Value)->World->Prop) (ops:Array Oper) (n:Nat) (K:List Bool) (V:List (Value->Prop)) (a0:Act) (listed:Array Bool) (a:Act) (w:World):Prop where
 head:HeadInv .any ops n listed
 fill:∃xs:Nat->Value,a=af xs (ops.toList.take n) 0 a0/\J (zOf K listed xs) w/\∀j,j<n->listed.getD j false=true->K.getD j false=false->dM V j (xs j)
theorem Ab {ops:Array Oper} {n:Nat} {K:List Bool} {V:List (Value->Prop)} {D:List (List Nat)} {a0:Act} {Q:Exit->Act->World->Prop} (hK:K.length=n)
  (hB:iU ops n D=true) (hs:fC P J ops K V D (ops.toList.take n) a0 (ops.toList.take n) K 0)
  (hQ:∀g w,J (fE K g) w->(∀j,j<n->K.getD j false=false->dM V j (g j))->wpList P ops Q (ops.toList.drop n) (af g (ops.toList.take n) 0 a0) w) :
  ∀(f:Nat) (b:Array Bool) (a:Act) (w:World),left n b=f->Fh J ops n K V a0 b a w->wpAny P .any ops Q (f+(ops.size - n)) b a w:=by
 simp only[iU,Bool.and_eq_true,Bool.or_eq_true,decide_eq_true_eq]at hB;obtain⟨⟨⟨⟨⟨hn,x⟩,S⟩,a1⟩,W⟩,ao⟩:=hB;intro f
 induction f with
 | zero =>
  intro b a w hl k;have L:=mf hl;have t:∀j,j<n->b.getD j false=true:=fun j y=>by
   have:=L j y
   rwa [jy (by rw[k.head.size];omega) true false]at this
  have aa:b=gG ops.size n:=by
   apply Array.ext_getElem?;intro i;have a':=k.head.size;unfold gG
   by_cases F:i<n
   .have:=L i F;have l:i<b.size:=by omega
    simp only[l,Array.getD_eq_getD_getElem?,Array.getElem?_eq_getElem,Option.getD_some]at this;rw[Array.getElem?_append_left (by simpa using F)];simp[l,F,this]
   .by_cases G:i<ops.size
    .have:=k.head.tail i (by omega) G;have l:i<b.size:=by omega
     simp only[l,Array.getD_eq_getD_getElem?,Array.getElem?_eq_getElem,Option.getD_some]at this;rw[Array.getElem?_append_right (by simpa using F)];simp only[l,Array.getElem?_eq_getElem,this];rw[Array.getElem?_replicate,if_pos (by simp;omega)]
    .rw [Array.getElem?_eq_none (by omega),Array.getElem?_eq_none (by simp;omega)]
  obtain⟨g,ha,y,hx⟩:=k.fill;have hz:zOf K b g=fE K g:=by
   funext j;unfold zOf fE
   by_cases p:j<n
   .rw [t j p,Bool.and_true]
   .have:K.getD j false=false:=by
     rw[List.getD_eq_getElem?_getD,List.getElem?_eq_none (by omega)];rfl
    rw[this,Bool.false_and]
  rw[hz]at y;have:=hQ g w y (fun j p q=>hx j p (t j p) q);rw[<-ha]at this;rw[Nat.zero_add];have G:=wpAny_of_seq (md:=.any) (Q':=Q) (ops.toList.drop n) n b a w (fun j=>by simp[List.getElem?_drop]) (by rw[aa];simpa using ao) this;simpa using G
 | succ f ih =>
  intro b a w hl k;rw[show f+1+(ops.size - n)=(f+(ops.size - n))+1 by omega]
  -- one of the head is yet to come
  have ab:∃i,i<n/\b.getD i true=false:=by
   have F:0<((List.range n).filter fun i=>!b.getD i true).length:=by unfold left at hl;omega
   obtain⟨i,l⟩:=List.exists_mem_of_length_pos F;simp only[List.mem_filter,List.mem_range]at l;exact⟨i,l.1,by simpa using l.2⟩
  have I:∃i,i<n/\i∈Region.ready .any ops b:=by
   obtain⟨i,l,N⟩:=ab
   revert l N
   induction i using Nat.strongRecOn with
   | _ i a9 =>
    intro l N;have H:i<ops.size:=by omega
    by_cases hr:i∈Region.ready .any ops b
    .exact ⟨i,l,hr⟩
    .have B:ops[i]? = some ops[i]:=Array.getElem?_eq_getElem H;have Y:=List.all_eq_true.1 x i (List.mem_range.2 H);rw[B]at Y;simp only[Option.map_some,Option.getD_some]at Y;have:∃e∈ops[i].after,Region.binds .any e=true/\b.getD e.on false=false:=by
      apply Classical.byContradiction;intro a2;apply hr;rw[mem_ready];refine⟨N,ops[i],B,fun e Z R=>?_⟩
      cases hq:b.getD e.on false with
      | true=>rfl
      | false=>exact absurd ⟨e,Z,R,hq⟩ a2
     obtain⟨e,Z,R,hq⟩:=this;have M:=Array.all_eq_true'.1 Y e Z;simp only[R,Bool.not_true,Bool.false_or,decide_eq_true_eq]at M;exact a9 e.on M (by omega) (getD_in (by rw[k.head.size];omega) hq)
  refine⟨fun h0=>?_,fun i l=>?_⟩
  .obtain ⟨i,_,hr⟩:=I;rw[h0]at hr;cases hr
  .have T:i<n:=by
    rcases Nat.lt_or_ge i n with h | h
    .exact h
    .exfalso;rcases W with G | ⟨⟨H,a5⟩,au⟩
     .obtain ⟨_,o,B,_⟩:=mem_ready.1 l;have:=(Array.getElem?_eq_some_iff.1 B).1;omega
     .obtain ⟨j,y,N⟩:=ab;exact tail_waits a5 au H k.head _ j rfl y N i h l
   obtain⟨N,o,B,hw⟩:=mem_ready.1 l;obtain⟨g,ha,y,hx⟩:=k.fill;have am:(ops.toList.take n)[i]? = some o:=by simp[T,B]
   have E:=tS hs i o am;rw[Nat.zero_add]at E;have a6:b.getD i false=false:=getD_both N;have ag:dm K V (zOf K b g) g (D.getD i []):=re fun j y=>by
    have F:=List.all_eq_true.1 S i (List.mem_range.2 (by omega));have G:=List.all_eq_true.1 F j y;obtain⟨o',a3,e,Z,Y,a4⟩:=Region.waitsFor_spec G;have:o'=o:=Option.some.inj (a3.symm.trans B);subst this;have h3:=hw e Z Y;rw[a4]at h3;have p:j<n:=by
     have O:=List.all_eq_true.1 x i (List.mem_range.2 (by omega));rw[B]at O;simp only[Option.map_some,Option.getD_some]at O;have h4:=Array.all_eq_true'.1 O e Z;simp only[Y,Bool.not_true,Bool.false_or,decide_eq_true_eq]at h4;omega
    cases q:K.getD j false with
    | true=>simp only[if_true,zOf,q,h3,Bool.and_self]
    | false=>simpa using hx j p h3 q
   have A:∀u r,J (zOf K (b.setIfInBounds i true) (upd g i u)) r->(K.getD i false=false->dM V i u)->wpAny P .any ops Q (f+(ops.size - n)) (b.setIfInBounds i true) (a.put o.dst u) r:=fun u r F G=>by
    refine ih (b.setIfInBounds i true) (a.put o.dst u) r ?_ ⟨k.head.set l T,upd g i u,?_,F,?_⟩
    .have:=lh T N;omega
    .rw [ha,jx g u (ops.toList.take n) 0 i a0 o a1 am,Nat.zero_add]
    .intro j p ai q
     by_cases c:j=i
     .subst c;simpa [upd]using G q
     .rw [getD_set_ne false (Ne.symm c)]at ai;simp only[upd,c,if_false];exact hx j p ai q
   have ad:i<b.size:=by
    obtain⟨av,_⟩:=Array.getElem?_eq_some_iff.1 B;rw[k.head.size];exact av
   have U:(b.setIfInBounds i true).getD i false=true:=by simp[ad]
   cases z:K.getD i false with
   | true =>
    rw[z]at E;have a7:zOf K b g i=none:=by simp only[zOf,a6,Bool.and_false,Bool.false_eq_true,if_false]
    have X:∀u,zOf K (b.setIfInBounds i true) (upd g i u)=uv (zOf K b g) i u:=fun u=>by
     funext j
     by_cases c:j=i
     .subst c;simp only[zOf,uv,z,U,Bool.and_self,if_true,upd]
     .simp only[zOf,uv,c,if_false,upd,getD_set_ne false (Ne.symm c)]
    have d:=E g _ w y a7 ag (fun u r=>J (uv (zOf K b g) i u) r) (fun u r h=>h);rw[<-ha]at d;have C:=ku (P:=P) (ops:=ops) (Q:=Q) (K:=wpAny P .any ops Q (f+(ops.size - n)) (b.setIfInBounds i true)) (fun u r h=>A u r (by rw[X];exact h) (fun h=>by rw[z]at h;cases h)) d;unfold wpOp;simp only[B];exact C
   | false =>
    rw[z]at E;have X:∀u,zOf K (b.setIfInBounds i true) (upd g i u)=zOf K b g:=fun u=>by
     funext j
     by_cases c:j=i
     .subst c;simp only[zOf,z,Bool.false_and,Bool.false_eq_true,if_false]
     .simp only[zOf,c,if_false,upd,getD_set_ne false (Ne.symm c)]
    have d:=E g _ w y ag (fun u r=>J (zOf K b g) r/\dM V i u) (fun u r h G=>⟨h,G⟩);rw[<-ha]at d;have C:=ku (P:=P) (ops:=ops) (Q:=Q) (K:=wpAny P .any ops Q (f+(ops.size - n)) (b.setIfInBounds i true)) (fun u r h=>A u r (by rw[X];exact h.1) (fun _=>h.2)) d;unfold wpOp;simp only[B];exact C
def eG:List Value->List (Option (Value->Prop))->List (Value->Prop)
 | c::a,none::l=>(fun u=>u=c)::eG a l
 | _::a,some V::l=>V::eG a l
 | _,_=>[]
def df:List Bool->List Value->List (Option (Value->Prop))->Nat->(Nat->Value)->Prop
 | true::d,_::b,_::l,k,a=>df d b l (k+1) a
 | false::d,c::b,none::l,k,a=>a k=c/\df d b l (k+1) a
 | false::d,_::b,some V::l,k,a=>V (a k)/\df d b l (k+1) a
 | _,_,_,_,_=>True
theorem AO (xs:Nat->Value):∀(a:List Bool) (cs:List Value) (l:List (Option (Value->Prop))) (k:Nat),(∀j,j<a.length->a.getD j false=false->dM (eG cs l) j (xs (k+j)))->df a cs l k xs:=by
 intro a
 induction a with
 | nil=>intro cs l k _;simp[df]
 | cons b a i =>
  intro cs l k h
  cases cs with
  | nil=>cases b <;> simp[df]
  | cons c cs =>
   cases l with
   | nil=>cases b <;> simp[df]
   | cons o l =>
    have d:df a cs l (k+1) xs:=i cs l (k+1) fun j n g=>by
     have:=h (j+1) (by simp;omega) (by simpa using g);rw[show k+(j+1)=k+1+j by omega]at this
     cases o <;> simpa [dM,eG]using this
    cases b with
    | true=>simpa [df]using d
    | false =>
     have e:=h 0 (by simp) (by simp)
     cases o with
     | none=>exact⟨by simpa [dM,eG]using e,d⟩
     | some V=>exact⟨by simpa [dM,eG]using e,d⟩
theorem bJ {id:Nat} {Q:Exit->Act->World->Prop} {a:Act} {w:World} {l:List Oper} (n:Nat) (J:(Nat->Option Value)->World->Prop) (K:List Bool) (cs:List Value) (W:List (Option (Value->Prop))) (D:List (List Nat))
  (z:P.follows .mixedOrders=true) (g:iU l.toArray n D=true) (r:K.length=n) (q:J (fun _=>none) { w with drawn:=w.drawn+1 })
  (A:fC P J l.toArray K (eG cs W) D (l.take n) a (l.take n) K 0)
  (u:∀d e,J (fE K d) e->df K cs W 0 d->wpList P l.toArray Q (l.drop n) (af d (l.take n) 0 a) e) :
  (Code.region id l.toArray true).wp P Q a w:=by
 refine wp_region_any z ?_;have E:n<=l.toArray.size:=by
  simp only[iU,Bool.and_eq_true,decide_eq_true_eq]at g;exact g.1.1.1.1.1
 obtain⟨c,k⟩:=jZ (l.take n) 0 a;have b:left n (Array.replicate l.toArray.size false)=n:=by
  unfold left;rw[List.filter_eq_self.2]
  .simp
  .intro i x;have:i<l.toArray.size:=by have:=List.mem_range.1 x;omega
   simp at this;simp[this]
 have h:zOf K (Array.replicate l.toArray.size false) c=fun _=>none:=by
  funext j;unfold zOf;rw[getD_replicate_false,Bool.and_false];rfl
 have H:=Ab (P:=P) (J:=J) (Q:=Q) (a0:=a) r g (by simpa using A) (by
   intro d e o p;have:=u d e o (AO d K cs W 0 fun j C y=>by rw[Nat.zero_add];exact p j (by omega) y);simpa using this) n (Array.replicate l.toArray.size false) a { w with drawn:=w.drawn+1 } b
  ⟨⟨by simp,fun j F _ b=>(by rw[getD_replicate_false]at b;cases b),fun t _ B=>getD_in (by simpa using B) (getD_replicate_false _ _)⟩,
   c,by simpa using(k c (fun _ _=>rfl)).symm,by rw[h];exact q,fun j _ b=>(by rw[getD_replicate_false]at b;cases b)⟩
 rw[show n+(l.toArray.size - n)=l.toArray.size by omega]at H;exact H
end
end
end Go.Proofs.YtgfegpnmlkdjfaaGreatDoor
