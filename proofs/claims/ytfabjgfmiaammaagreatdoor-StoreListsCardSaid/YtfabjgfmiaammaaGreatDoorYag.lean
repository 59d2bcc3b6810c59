/- Contracts of the program's functions and plain laws behind the card. Conditions: as each theorem states. -/
import Derived.Test.YtfabjgfmiaammaaGreatDoorYaa
import Derived.Test.YtfabjgfmiaammaaGreatDoorYae
set_option linter.unusedVariables false
set_option linter.unusedSimpArgs false
set_option linter.unusedSectionVars false
set_option maxRecDepth 100000
set_option maxHeartbeats 64000000
namespace Go.Proofs.YtfabjgfmiaammaaGreatDoor
section
open Go Go.RowKit
def cG (V:List (Value->Prop)) (k:Nat):Value->Prop:=V.getD k (fun _=>True)
def zOf (K:List Bool) (a:Array Bool) (xs:Nat->Value):Nat->Option Value:=fun j=>if K.getD j false && a.getD j false then some (xs j)else none
def di (K:List Bool) (xs:Nat->Value):Nat->Option Value:=fun j=>if K.getD j false then some (xs j)else none
def rX (z:Nat->Option Value) (k:Nat) (u:Value):Nat->Option Value:=fun j=>if j=k then some u else z j
def bR (K:List Bool) (V:List (Value->Prop)) (z:Nat->Option Value) (xs:Nat->Value):List Nat->Prop
 | []=>True
 | j::l=>(if K.getD j false then z j=some (xs j)else cG V j (xs j))/\bR K V z xs l
theorem pH {K:List Bool} {V:List (Value->Prop)} {z:Nat->Option Value} {xs:Nat->Value}:∀ {l:List Nat},(∀j∈l,if K.getD j false then z j=some (xs j)else cG V j (xs j))->bR K V z xs l
 | [],_=>trivial
 | j::l,h=>⟨h j (by simp),pH fun i a=>h i (by simp[a])⟩
section
variable {P:Program} {J:(Nat->Option Value)->World->Prop}
def cN (P:Program) (J:(Nat->Option Value)->World->Prop) (ops:Array Oper) (K:List Bool) (V:List (Value->Prop)) (head:List Oper) (a0:Act) (k:Nat) (d:List Nat) (o:Oper):Bool->Prop
 | true=>∀(a:Nat->Value) (z:Nat->Option Value) (w:World),J z w->z k=none->bR K V z a d->∀R:Value->World->Prop,(∀u b,J (rX z k u) b->R u b) ->
  if Region.wanted o (yielded ops (ab a head 0 a0).tmps)then fB P R ((execOp (ab a head 0 a0).eval o).run P w)else R undef w
 | false=>∀(a:Nat->Value) (z:Nat->Option Value) (w:World),J z w->bR K V z a d->∀R:Value->World->Prop,(∀u b,J z b->cG V k u->R u b) ->
  if Region.wanted o (yielded ops (ab a head 0 a0).tmps)then fB P R ((execOp (ab a head 0 a0).eval o).run P w)else R undef w
def de (P:Program) (J:(Nat->Option Value)->World->Prop) (ops:Array Oper) (K:List Bool) (V:List (Value->Prop)) (D:List (List Nat)) (head:List Oper) (a0:Act):List Oper->List Bool->Nat->Prop
 | [],_,_=>True
 | _::_,[],_=>False
 | o::l,b::a,k=>cN P J ops K V head a0 k (D.getD k []) o b/\de P J ops K V D head a0 l a (k+1)
theorem rq {ops:Array Oper} {K:List Bool} {V:List (Value->Prop)} {D:List (List Nat)} {head:List Oper} {a0:Act} :
  ∀ {l:List Oper} {a:List Bool} {k:Nat},de P J ops K V D head a0 l a k->∀i o,l[i]? = some o->cN P J ops K V head a0 (k+i) (D.getD (k+i) []) o (a.getD i false)
 | [],_,_,_,i,o,h=>by simp at h
 | _::_,[],_,h,_,_,_=>h.elim
 | p::l,b::a,k,h,0,o,c=>by
  have:p=o:=by simpa using c
  subst this;simpa using h.1
 | p::l,b::a,k,h,i+1,o,c=>by
  have:=rq h.2 i o (by simpa using c);rw[show k+1+i=k+(i+1)by omega]at this;simpa using this
structure BB (J:(Nat->Option Value)->World->Prop) (ops:Array Oper) (n:Nat) (K:List Bool) (V:List (Value->Prop)) (a0:Act) (listed:Array Bool) (a:Act) (w:World):Prop where
 head:HeadInv .any ops n listed
 fill:∃xs:Nat->Value,a=ab xs (ops.toList.take n) 0 a0/\J (zOf K listed xs) w/\∀j,j<n->listed.getD j false=true->K.getD j false=false->cG V j (xs j)
theorem xA {ops:Array Oper} {n:Nat} {K:List Bool} {V:List (Value->Prop)} {D:List (List Nat)} {a0:Act} {Q:Exit->Act->World->Prop} (hK:K.length=n)
  (hB:jV ops n D=true) (hs:de P J ops K V D (ops.toList.take n) a0 (ops.toList.take n) K 0)
  (hQ:∀g w,J (di K g) w->(∀j,j<n->K.getD j false=false->cG V j (g j))->wpList P ops Q (ops.toList.drop n) (ab g (ops.toList.take n) 0 a0) w) :
  ∀(f:Nat) (b:Array Bool) (a:Act) (w:World),left n b=f->BB J ops n K V a0 b a w->wpAny P .any ops Q (f+(ops.size - n)) b a w:=by
 simp only[jV,Bool.and_eq_true,Bool.or_eq_true,decide_eq_true_eq]at hB;obtain⟨⟨⟨⟨⟨hn,x⟩,S⟩,a7⟩,W⟩,a4⟩:=hB;intro f
 induction f with
 | zero =>
  intro b a w hl k;have L:=lA hl;have t:∀j,j<n->b.getD j false=true:=fun j y=>by
   have:=L j y
   rwa [jb (by rw[k.head.size];omega) true false]at this
  have aa:b=fY ops.size n:=by
   apply Array.ext_getElem?;intro i;have bk:=k.head.size;unfold fY
   by_cases F:i<n
   .have:=L i F;have l:i<b.size:=by omega
    simp only[l,Array.getD_eq_getD_getElem?,Array.getElem?_eq_getElem,Option.getD_some]at this;rw[Array.getElem?_append_left (by simpa using F)];simp[l,F,this]
   .by_cases G:i<ops.size
    .have:=k.head.tail i (by omega) G;have l:i<b.size:=by omega
     simp only[l,Array.getD_eq_getD_getElem?,Array.getElem?_eq_getElem,Option.getD_some]at this;rw[Array.getElem?_append_right (by simpa using F)];simp only[l,Array.getElem?_eq_getElem,this];rw[Array.getElem?_replicate,if_pos (by simp;omega)]
    .rw [Array.getElem?_eq_none (by omega),Array.getElem?_eq_none (by simp;omega)]
  obtain⟨g,ha,y,hx⟩:=k.fill;have hz:zOf K b g=di K g:=by
   funext j;unfold zOf di
   by_cases p:j<n
   .rw [t j p,Bool.and_true]
   .have:K.getD j false=false:=by
     rw[List.getD_eq_getElem?_getD,List.getElem?_eq_none (by omega)];rfl
    rw[this,Bool.false_and]
  rw[hz]at y;have:=hQ g w y (fun j p q=>hx j p (t j p) q);rw[<-ha]at this;rw[Nat.zero_add];have G:=wpAny_of_seq (md:=.any) (Q':=Q) (ops.toList.drop n) n b a w (fun j=>by simp[List.getElem?_drop]) (by rw[aa];simpa using a4) this;simpa using G
 | succ f ih =>
  intro b a w hl k;rw[show f+1+(ops.size - n)=(f+(ops.size - n))+1 by omega];have ad:∃i,i<n/\b.getD i true=false:=by
   have F:0<((List.range n).filter fun i=>!b.getD i true).length:=by unfold left at hl;omega
   obtain⟨i,l⟩:=List.exists_mem_of_length_pos F;simp only[List.mem_filter,List.mem_range]at l;exact⟨i,l.1,by simpa using l.2⟩
  have I:∃i,i<n/\i∈Region.ready .any ops b:=by
   obtain⟨i,l,N⟩:=ad
   revert l N
   induction i using Nat.strongRecOn with
   | _ i bh =>
    intro l N;have H:i<ops.size:=by omega
    by_cases hr:i∈Region.ready .any ops b
    .exact ⟨i,l,hr⟩
    .have B:ops[i]? = some ops[i]:=Array.getElem?_eq_getElem H;have Y:=List.all_eq_true.1 x i (List.mem_range.2 H);rw[B]at Y;simp only[Option.map_some,Option.getD_some]at Y;have:∃e∈ops[i].after,Region.binds .any e=true/\b.getD e.on false=false:=by
      apply Classical.byContradiction;intro a8;apply hr;rw[mem_ready];refine⟨N,ops[i],B,fun e Z R=>?_⟩
      cases hq:b.getD e.on false with
      | true=>rfl
      | false=>exact absurd ⟨e,Z,R,hq⟩ a8
     obtain⟨e,Z,R,hq⟩:=this;have M:=Array.all_eq_true'.1 Y e Z;simp only[R,Bool.not_true,Bool.false_or,decide_eq_true_eq]at M;exact bh e.on M (by omega) (getD_in (by rw[k.head.size];omega) hq)
  refine⟨fun h0=>?_,fun i l=>?_⟩
  .obtain ⟨i,_,hr⟩:=I;rw[h0]at hr;cases hr
  .have T:i<n:=by
    rcases Nat.lt_or_ge i n with h | h
    .exact h
    .exfalso;rcases W with G | ⟨⟨H,ba⟩,a5⟩
     .obtain ⟨_,o,B,_⟩:=mem_ready.1 l;have:=(Array.getElem?_eq_some_iff.1 B).1;omega
     .obtain ⟨j,y,N⟩:=ad;exact tail_waits ba a5 H k.head _ j rfl y N i h l
   obtain⟨N,o,B,hw⟩:=mem_ready.1 l;obtain⟨g,ha,y,hx⟩:=k.fill;have a3:(ops.toList.take n)[i]? = some o:=by simp[T,B]
   have E:=rq hs i o a3;rw[Nat.zero_add]at E;have bb:b.getD i false=false:=getD_both N;have a1:bR K V (zOf K b g) g (D.getD i []):=pH fun j y=>by
    have F:=List.all_eq_true.1 S i (List.mem_range.2 (by omega));have G:=List.all_eq_true.1 F j y;obtain⟨o',a9,e,Z,Y,a'⟩:=Region.waitsFor_spec G;have:o'=o:=Option.some.inj (a9.symm.trans B);subst this;have h3:=hw e Z Y;rw[a']at h3;have p:j<n:=by
     have O:=List.all_eq_true.1 x i (List.mem_range.2 (by omega));rw[B]at O;simp only[Option.map_some,Option.getD_some]at O;have h4:=Array.all_eq_true'.1 O e Z;simp only[Y,Bool.not_true,Bool.false_or,decide_eq_true_eq]at h4;omega
    cases q:K.getD j false with
    | true=>simp only[if_true,zOf,q,h3,Bool.and_self]
    | false=>simpa using hx j p h3 q
   have A:∀u r,J (zOf K (b.setIfInBounds i true) (upd g i u)) r->(K.getD i false=false->cG V i u)->wpAny P .any ops Q (f+(ops.size - n)) (b.setIfInBounds i true) (a.put o.dst u) r:=fun u r F G=>by
    refine ih (b.setIfInBounds i true) (a.put o.dst u) r ?_ ⟨k.head.set l T,upd g i u,?_,F,?_⟩
    .have:=kB T N;omega
    .rw [ha,i' g u (ops.toList.take n) 0 i a0 o a7 a3,Nat.zero_add]
    .intro j p a2 q
     by_cases c:j=i
     .subst c;simpa [upd]using G q
     .rw [getD_set_ne false (Ne.symm c)]at a2;simp only[upd,c,if_false];exact hx j p a2 q
   have au:i<b.size:=by
    obtain⟨a6,_⟩:=Array.getElem?_eq_some_iff.1 B;rw[k.head.size];exact a6
   have U:(b.setIfInBounds i true).getD i false=true:=by simp[au]
   cases z:K.getD i false with
   | true =>
    rw[z]at E;have bd:zOf K b g i=none:=by simp only[zOf,bb,Bool.and_false,Bool.false_eq_true,if_false]
    have X:∀u,zOf K (b.setIfInBounds i true) (upd g i u)=rX (zOf K b g) i u:=fun u=>by
     funext j
     by_cases c:j=i
     .subst c;simp only[zOf,rX,z,U,Bool.and_self,if_true,upd]
     .simp only[zOf,rX,c,if_false,upd,getD_set_ne false (Ne.symm c)]
    have d:=E g _ w y bd a1 (fun u r=>J (rX (zOf K b g) i u) r) (fun u r h=>h);rw[<-ha]at d;have C:=jO (P:=P) (ops:=ops) (Q:=Q) (K:=wpAny P .any ops Q (f+(ops.size - n)) (b.setIfInBounds i true)) (fun u r h=>A u r (by rw[X];exact h) (fun h=>by rw[z]at h;cases h)) d;unfold wpOp;simp only[B];exact C
   | false =>
    rw[z]at E;have X:∀u,zOf K (b.setIfInBounds i true) (upd g i u)=zOf K b g:=fun u=>by
     funext j
     by_cases c:j=i
     .subst c;simp only[zOf,z,Bool.false_and,Bool.false_eq_true,if_false]
     .simp only[zOf,c,if_false,upd,getD_set_ne false (Ne.symm c)]
    have d:=E g _ w y a1 (fun u r=>J (zOf K b g) r/\cG V i u) (fun u r h G=>⟨h,G⟩);rw[<-ha]at d;have C:=jO (P:=P) (ops:=ops) (Q:=Q) (K:=wpAny P .any ops Q (f+(ops.size - n)) (b.setIfInBounds i true)) (fun u r h=>A u r (by rw[X];exact h.1) (fun _=>h.2)) d;unfold wpOp;simp only[B];exact C
def cS:List Value->List (Option (Value->Prop))->List (Value->Prop)
 | c::a,none::l=>(fun u=>u=c)::cS a l
 | _::a,some V::l=>V::cS a l
 | _,_=>[]
def bV:List Bool->List Value->List (Option (Value->Prop))->Nat->(Nat->Value)->Prop
 | true::d,_::b,_::l,k,a=>bV d b l (k+1) a
 | false::d,c::b,none::l,k,a=>a k=c/\bV d b l (k+1) a
 | false::d,_::b,some V::l,k,a=>V (a k)/\bV d b l (k+1) a
 | _,_,_,_,_=>True
theorem yh (xs:Nat->Value):∀(a:List Bool) (cs:List Value) (l:List (Option (Value->Prop))) (k:Nat),(∀j,j<a.length->a.getD j false=false->cG (cS cs l) j (xs (k+j)))->bV a cs l k xs:=by
 intro a
 induction a with
 | nil=>intro cs l k _;simp[bV]
 | cons b a i =>
  intro cs l k h
  cases cs with
  | nil=>cases b <;> simp[bV]
  | cons c cs =>
   cases l with
   | nil=>cases b <;> simp[bV]
   | cons o l =>
    have d:bV a cs l (k+1) xs:=i cs l (k+1) fun j n g=>by
     have:=h (j+1) (by simp;omega) (by simpa using g);rw[show k+(j+1)=k+1+j by omega]at this
     cases o <;> simpa [cG,cS]using this
    cases b with
    | true=>simpa [bV]using d
    | false =>
     have e:=h 0 (by simp) (by simp)
     cases o with
     | none=>exact⟨by simpa [cG,cS]using e,d⟩
     | some V=>exact⟨by simpa [cG,cS]using e,d⟩
theorem aI {id:Nat} {Q:Exit->Act->World->Prop} {a:Act} {w:World} {l:List Oper} (n:Nat) (J:(Nat->Option Value)->World->Prop) (K:List Bool) (cs:List Value) (W:List (Option (Value->Prop))) (D:List (List Nat))
  (z:P.follows .mixedOrders=true) (g:jV l.toArray n D=true) (r:K.length=n) (q:J (fun _=>none) { w with drawn:=w.drawn+1 })
  (A:de P J l.toArray K (cS cs W) D (l.take n) a (l.take n) K 0)
  (u:∀d e,J (di K d) e->bV K cs W 0 d->wpList P l.toArray Q (l.drop n) (ab d (l.take n) 0 a) e) :
  (Code.region id l.toArray true).wp P Q a w:=by
 refine wp_region_any z ?_;have E:n<=l.toArray.size:=by
  simp only[jV,Bool.and_eq_true,decide_eq_true_eq]at g;exact g.1.1.1.1.1
 obtain⟨c,k⟩:=jy (l.take n) 0 a;have b:left n (Array.replicate l.toArray.size false)=n:=by
  unfold left;rw[List.filter_eq_self.2]
  .simp
  .intro i x;have:i<l.toArray.size:=by have:=List.mem_range.1 x;omega
   simp at this;simp[this]
 have h:zOf K (Array.replicate l.toArray.size false) c=fun _=>none:=by
  funext j;unfold zOf;rw[getD_replicate_false,Bool.and_false];rfl
 have H:=xA (P:=P) (J:=J) (Q:=Q) (a0:=a) r g (by simpa using A) (by
   intro d e o p;have:=u d e o (yh d K cs W 0 fun j C y=>by rw[Nat.zero_add];exact p j (by omega) y);simpa using this) n (Array.replicate l.toArray.size false) a { w with drawn:=w.drawn+1 } b
  ⟨⟨by simp,fun j F _ b=>(by rw[getD_replicate_false]at b;cases b),fun t _ B=>getD_in (by simpa using B) (getD_replicate_false _ _)⟩,
   c,by simpa using(k c (fun _ _=>rfl)).symm,by rw[h];exact q,fun j _ b=>(by rw[getD_replicate_false]at b;cases b)⟩
 rw[show n+(l.toArray.size - n)=l.toArray.size by omega]at H;exact H
end
end
section
open Go Go.RowKit
def ar (n:Nat):B8:=if 127<n then UInt8.ofNat (n%128+128)::ar (n / 128)else[UInt8.ofNat n]
termination_by n
decreasing_by omega
def bi:Nat:=72057594037927936
def putW (n:Int):B8×Int:=if n<0\/(bi:Int)<n then([],1)else(ar n.toNat,0)
def cK (l:B8):Nat:=(l.takeWhile fun c=>decide (127<c.toNat)).length
def dR:B8->Nat
 | []=>0
 | c::l=>c.toNat%128+128*dR l
def cR (l:B8):Nat×Nat×Int :=
 if cK l=l.length then(0,0,2)
 else if 9<cK l+1 then(0,0,4)
 else if bi<dR (l.take (cK l+1))\/ar (dR (l.take (cK l+1)))≠l.take (cK l+1)then(0,0,4)
 else(dR (l.take (cK l+1)),cK l+1,0)
variable {n:Nat}
theorem ei (h:n<=127):ar n=[UInt8.ofNat n]:=by
 rw[ar,if_neg (by omega)]
theorem gS (h:127<n):ar n=UInt8.ofNat (n%128+128)::ar (n / 128):=by
 rw[ar,if_pos h]
theorem yP (n:Nat):1<=(ar n).length:=by
 by_cases h:127<n
 .rw [gS h,List.length_cons];omega
 .rw [ei (by omega)];exact Nat.le_refl _
theorem rC:∀(k n:Nat),n<128 ^ k->1<=k->(ar n).length<=k
 | 0,n,_,h=>by omega
 | k+1,n,c,_=>by
  by_cases h:127<n
  .rw [gS h,List.length_cons];have a:n / 128<128 ^ k:=by
    rw[Nat.pow_succ]at c;omega
   have b:1<=k:=by
    cases k with
    | zero=>simp at a;omega
    | succ k=>omega
   have:=rC k (n / 128) a b;omega
  .rw [ei (by omega)];simp
theorem bH (h:n<=bi):(ar n).length<=9:=rC 9 n (by unfold bi at h;omega) (by omega)
theorem tX:∀(k n:Nat),n<128 ^ k->dR (ar n)=n
 | 0,n,h=>by
  have:n=0:=by simp at h;omega
  subst this;rw[ei (by omega)];rfl
 | k+1,n,b=>by
  by_cases h:127<n
  .rw [gS h];have a:n / 128<128 ^ k:=by
    rw[Nat.pow_succ]at b;omega
   show(UInt8.ofNat (n%128+128)).toNat%128+128*dR (ar (n / 128))=n;rw[tX k _ a,UInt8.toNat_ofNat'];omega
  .rw [ei (by omega)];show(UInt8.ofNat n).toNat%128+128*0=n;rw[UInt8.toNat_ofNat'];omega
theorem rm:∀(k n:Nat) (r:B8),n<128 ^ k->cK (ar n++r)+1=(ar n).length
 | 0,n,r,h=>by
  have:n=0:=by simp at h;omega
  subst this;rw[ei (by omega)];rfl
 | k+1,n,r,c=>by
  by_cases h:127<n
  .rw [gS h];have b:n / 128<128 ^ k:=by
    rw[Nat.pow_succ]at c;omega
   have d:=rm k (n / 128) r b;have a:decide (127<(UInt8.ofNat (n%128+128)).toNat)=true:=decide_eq_true (by rw[UInt8.toNat_ofNat'];omega);unfold cK at d ⊢;rw[List.cons_append,List.takeWhile_cons,a,if_pos rfl,List.length_cons,List.length_cons];omega
  .rw [ei (by omega)];have a:decide (127<(UInt8.ofNat n).toNat)=false:=decide_eq_false (by rw[UInt8.toNat_ofNat'];omega);unfold cK;rw[List.singleton_append,List.takeWhile_cons,a];rfl
theorem Ae (h:n<=bi) (r:B8):cR (ar n++r)=(n,(ar n).length,0):=by
 have b:n<128 ^ 9:=by unfold bi at h;omega
 have d:=rm 9 n r b;have e:=bH h;have c:=yP n;unfold cR;rw[if_neg (by rw[List.length_append];omega),if_neg (by omega),d,List.take_left',tX 9 n b,if_neg (by
  intro a;rcases a with a | a
  .omega
  .exact a rfl)]
 rfl
theorem qQ {l:B8} (h:(cR l).2.2=0):(cR l).2.1=cK l+1/\cK l+1<=l.length/\(cR l).1<=bi:=by
 have d:cK l<=l.length:=(List.takeWhile_prefix _).length_le;unfold cR at h ⊢;split
 .rename_i b;rw[if_pos b]at h;cases h
 .rename_i b;rw[if_neg b]at h;split
  .rename_i c;rw[if_pos c]at h;cases h
  .rename_i c;rw[if_neg c]at h;split
   .rename_i a;rw[if_pos a]at h;cases h
   .rename_i a;exact⟨rfl,by omega,by simp only[not_or,Nat.not_lt]at a;exact a.1⟩
end
end Go.Proofs.YtfabjgfmiaammaaGreatDoor
