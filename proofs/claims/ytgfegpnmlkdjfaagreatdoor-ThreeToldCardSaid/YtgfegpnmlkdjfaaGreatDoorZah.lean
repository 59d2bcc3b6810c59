/- Contracts of the program's functions and plain laws behind the card. Conditions: as each theorem states. -/
import Derived.Test.YtgfegpnmlkdjfaaGreatDoorZac
import Derived.Test.YtgfegpnmlkdjfaaGreatDoorZaf
import Derived.Sort.LotA
import Derived.Test.YtgfegpnmlkdjfaaGreatDoorProg
import Derived.Shelf.SlSortCmp.KitK
import Derived.Sort.WalkB2
import Derived.Sort.WalkB12
import Derived.Deep.LoopGhost
import Derived.Deep.DeepCutAuto
import Derived.Shelf.SlSortCmp.QuietGrown
set_option linter.unusedVariables false
set_option linter.unusedSimpArgs false
set_option linter.unusedSectionVars false
set_option maxRecDepth 100000
set_option maxHeartbeats 64000000
namespace Go.Proofs.YtgfegpnmlkdjfaaGreatDoor
section
open Go Go.RowKit
def leT (a b:B8):Bool:=!ltB b a
theorem rh (a b c:B8) (h:leT a b=true) (d:leT b c=true):leT a c=true:=by
 unfold leT at *
 cases i:ltB c a with
 | false=>rfl
 | true =>
  exfalso;simp only[Bool.not_eq_true']at h d
  by_cases g:a=b
  .subst g;rw[i]at d;cases d
  .have j:=iJ h (fun e=>g e.symm);have k:=fB i j;rw[k]at d;cases d
theorem yW (a b:B8):(leT a b || leT b a)=true:=by
 unfold leT
 cases c:ltB b a with
 | false=>rfl
 | true =>
  cases d:ltB a b with
  | false=>rfl
  | true =>
   have:=fB c d;have:=iI this;exact(this rfl).elim
theorem jE {a b:B8} (d:leT a b=true) (c:leT b a=true):a=b:=by
 unfold leT at d c;simp only[Bool.not_eq_true']at d c
 by_cases h:a=b
 .exact h
 .have:=iJ d (fun e=>h e.symm);rw[this]at c;cases c
def upL (l:List B8):Prop:=l.Pairwise fun a b=>leT a b=true
def bB (l:List B8):List B8:=l.mergeSort leT
theorem dy (l:List B8):(bB l).Perm l:=List.mergeSort_perm l leT
theorem ik (l:List B8):upL (bB l):=List.pairwise_mergeSort rh yW l
theorem zZ:∀ {a b:List B8},upL a->upL b->a.Perm b->a=b
 | [],b,_,_,h=>by have:=h.length_eq;exact(List.eq_nil_of_length_eq_zero this.symm).symm
 | x::a,[],_,_,h=>by have:=h.length_eq;simp at this
 | x::a,y::b,j,k,h=>by
  have e:=List.pairwise_cons.1 j;have g:=List.pairwise_cons.1 k;have i:x=y:=by
   have c:x∈y::b:=h.subset (by simp);have d:y∈x::a:=h.symm.subset (by simp);rcases List.mem_cons.1 c with c | c
   .exact c
   .rcases List.mem_cons.1 d with d | d
    .exact d.symm
    .exact jE (e.1 _ d) (g.1 _ c)
  subst i;rw[zZ e.2 g.2 (List.Perm.cons_inv h)]
variable {l r:List B8}
theorem lC (a:r.Perm l) (b:upL r):r=bB l:=zZ b (ik l) (a.trans (dy l).symm)
def jd:List B8->List B8
 | a::b::l=>if a=b then jd (b::l)else a::jd (b::l)
 | l=>l
theorem mE:∀(l:List B8) (x:B8),x∈jd l↔x∈l
 | [],x=>Iff.rfl
 | [a],x=>Iff.rfl
 | a::b::l,x=>by
  have c:=mE (b::l) x;unfold jd;split
  .rename_i h;subst h;rw[c];simp
  .rw [List.mem_cons,c,List.mem_cons (a:=x) (b:=a)]
def dR (l:List B8):Prop:=l.Pairwise fun a b=>ltB a b=true
theorem pK:∀ {l:List B8},upL l->dR (jd l)
 | [],_=>List.Pairwise.nil
 | [a],_=>List.pairwise_singleton _ _
 | a::b::l,h=>by
  have j:=List.pairwise_cons.1 h;have k:=pK j.2;unfold jd;split
  .exact k
  .rename_i c;refine List.pairwise_cons.2 ⟨fun x o=>?_,k⟩;have i:=(mE _ _).1 o;have d:=j.1 x i
   by_cases g:a=x
   .subst g;exfalso;rcases List.mem_cons.1 i with e | n
    .exact c e
    .exact c (jE (j.1 b (by simp)) ((List.pairwise_cons.1 j.2).1 a n))
   .unfold leT at d;exact iJ (by simpa using d) (fun e=>g e.symm)
def bj (l:List B8):List B8:=jd (bB l)
theorem dd {x:B8}:x∈bj l↔x∈l:=(mE _ _).trans (dy l).mem_iff
theorem jh (l:List B8):dR (bj l):=pK (ik l)
theorem oJ:∀ {a b:List B8},dR a->dR b->(∀x,x∈a↔x∈b)->a=b
 | [],[],_,_,_=>rfl
 | [],y::b,_,_,h=>by have:=(h y).2 (by simp);cases this
 | x::a,[],_,_,h=>by have:=(h x).1 (by simp);cases this
 | x::a,y::b,q,r,h=>by
  have c:=List.pairwise_cons.1 q;have d:=List.pairwise_cons.1 r;have n:∀ {u v:B8},ltB u v=true->ltB v u=true->False:=fun g i=>iI (fB g i) rfl
  have o:x=y:=by
   rcases List.mem_cons.1 ((h x).1 (by simp))with g | g
   .exact g
   .rcases List.mem_cons.1 ((h y).2 (by simp))with i | i
    .exact i.symm
    .exact (n (c.1 _ i) (d.1 _ g)).elim
  subst o;rw[oJ c.2 d.2 (fun z=>by
   have p:=h z;simp only[List.mem_cons]at p;constructor
   .intro j;rcases p.1 (.inr j)with e | l
    .subst e;exact(iI (c.1 _ j) rfl).elim
    .exact l
   .intro k;rcases p.2 (.inr k)with e | l
    .subst e;exact(iI (d.1 _ k) rfl).elim
    .exact l)]
theorem oM (b:dR r) (a:∀x,x∈r↔x∈l):r=bj l:=oJ b (jh l) (fun x=>(a x).trans dd.symm)
theorem rJ:∀(l:List B8),(jd l).length<=l.length
 | []=>Nat.le_refl _
 | [a]=>Nat.le_refl _
 | a::b::l=>by
  have c:=rJ (b::l);unfold jd;split
  iterate 2
   .simp at c ⊢;omega
theorem kq (l:List B8):(bj l).length<=l.length:=Nat.le_trans (rJ _) (Nat.le_of_eq (dy l).length_eq)
end
section
open Go Go.RowKit
structure MInv (A B a b C:List B8):Prop where
 ua:upL a
 ub:upL b
 uc:upL C
 le:∀c∈C,∀x∈a++b,leT c x=true
 perm:(C++(a++b)).Perm (A++B)
variable {A B:List B8}
theorem MInv.start (a:upL A) (b:upL B):MInv A B A B []:=⟨a,b,List.Pairwise.nil,(fun c d=>by cases d),List.Perm.refl _⟩
variable {a b C:List B8}
theorem MInv.swap (h:MInv A B a b C):MInv A B b a C :=
 ⟨h.ub,h.ua,h.uc,fun c d x e=>h.le c d x (List.perm_append_comm.mem_iff.1 e),((List.Perm.append_left C (List.perm_append_comm (l₁:=b) (l₂:=a)))).trans h.perm⟩
theorem MInv.step {x y:B8} (h:MInv A B (x::a) (y::b) C) (e:ltB y x=false):MInv A B a (y::b) (C++[x]):=by
 have g:leT x y=true:=by unfold leT;rw[e];rfl
 have i:∀z∈a++y::b,leT x z=true:=fun z d=>by
  rcases List.mem_append.1 d with d | d
  .exact (List.pairwise_cons.1 h.ua).1 z d
  .rcases List.mem_cons.1 d with rfl | d
   .exact g
   .exact rh _ _ _ g ((List.pairwise_cons.1 h.ub).1 z d)
 refine⟨(List.pairwise_cons.1 h.ua).2,h.ub,List.pairwise_append.2 ⟨h.uc,List.pairwise_singleton _ _,fun c e z d=>?_⟩,fun c e z d=>?_,?_⟩
 .rw [List.mem_singleton.1 d];exact h.le c e x (by simp)
 .rcases List.mem_append.1 e with e | e
  .exact h.le c e z (by rw[List.cons_append];exact List.mem_cons_of_mem _ d)
  .rw [List.mem_singleton.1 e];exact i z d
 .have:=h.perm;simpa using this
theorem MInv.fin (h:MInv A B a [] C):C++a=bB (A++B):=by
 refine lC (by simpa using h.perm) (List.pairwise_append.2 ⟨h.uc,h.ua,fun c d z e=>h.le c d z (by simpa using e)⟩)
theorem MInv.len (h:MInv A B a b C):C.length+(a.length+b.length)=A.length+B.length:=by
 have:=h.perm.length_eq;simpa using this
theorem uS (l:List B8) (k:Nat):bB (bB (l.take k)++bB (l.drop k))=bB l:=by
 refine lC ((dy _).trans ?_) (ik _);have h:(l.take k++l.drop k).Perm l:=by rw[List.take_append_drop]
 exact((dy _).append (dy _)).trans h
theorem pP {l:List B8} (h:l.length<2):bB l=l:=by
 refine(lC (List.Perm.refl _) ?_).symm
 match l,h with
 | [],_=>exact List.Pairwise.nil
 | [x],_=>exact List.pairwise_singleton _ _
theorem di (l:List B8):(bB l).length=l.length:=(dy l).length_eq
end
section
open Go Go.RowKit
structure Itm where
 mode:Int
 name:B8
 id:B8
structure Ob where
 kind:Int
 data:B8
 items:List Itm
 tree:B8
 parents:List B8
 GZ:Int
 GY:Int
 msg:B8
def ob0:Ob:=⟨0,[],[],[],[],0,0,[]⟩
def cg:List B8->Bool
 | a::b::l=>ltB a b && cg (b::l)
 | _=>true
def cP (x:Itm):Bool:=decide (1<=x.mode) && (decide (x.mode<=4) && (bM x.name && aO x.id))
def eF (l:List Itm):Bool:=l.all cP && (cg (l.map (·.name)) && decide (l.length<=256))
def eX (l:List B8):Bool:=l.all aO && (cg l && decide (l.length<=2))
def iA (s:B8):Bool:=s.all (fun c=>decide (32<=c.toNat) && decide (c.toNat<=126)) && decide (s.length<=200)
def ni (o:Ob):Bool:=(o.tree==[]) && ((o.parents.length==0) && ((o.GZ==0) && ((o.GY==0) && (o.msg==[]))))
def ew (o:Ob):Bool :=
 if o.kind=1 then decide (o.data.length<=20000) && ((o.items.length==0) && ni o)
 else if o.kind=2 then(o.data.length==0) && (eF o.items && ni o)
 else if o.kind=3 then(o.data.length==0) && ((o.items.length==0) && (aO o.tree && (eX o.parents && ((decide (0<=o.GZ) && decide (o.GZ<=1099511627776)) && ((decide (0<=o.GY) && decide (o.GY<=255)) && iA o.msg)))))
 else false
def cI (id:B8):B8:=(aY id).getD []
def dr (x:Itm):B8:=UInt8.ofNat x.mode.toNat::(bf x.name.length++(x.name++cI x.id))
def mV (o:Ob):B8 :=
 if o.kind=1 then o.data
 else if o.kind=2 then bf o.items.length++o.items.flatMap dr
 else cI o.tree++(UInt8.ofNat o.parents.length::(o.parents.flatMap cI++(bf o.GZ.toNat++(bf o.GY.toNat++(bf o.msg.length++o.msg)))))
def k9 (o:Ob):B8:=UInt8.ofNat o.kind.toNat::mV o
def bz (o:Ob):B8×Int:=if ew o=true then(k9 o,0)else([],1)
structure Src where
 b:B8
 bad:Bool
def bG (s:Src) (n:Nat):Src×B8:=if s.bad=true\/s.b.length<n then(⟨s.b,true⟩,[])else(⟨s.b.drop n,s.bad⟩,s.b.take n)
def cz (s:Src):Src×Nat:=((bG s 1).1,((bG s 1).2.headD 0).toNat)
def bl (a:Bool) (s:Src):Src×Nat:=if(gg s.b).2.2≠0\/(a=true/\s.bad=true)then(⟨s.b,true⟩,0)else((bG s (gg s.b).2.1).1,(gg s.b).1)
def bA (s:Src):Src×B8:=((bG s 32).1,dt (bG s 32).2)
def j9 (a:Bool) (s:Src):Src×Itm :=
 ((bA (bG (bl a (cz s).1).1 (bl a (cz s).1).2).1).1,⟨(cz s).2,(bG (bl a (cz s).1).1 (bl a (cz s).1).2).2,(bA (bG (bl a (cz s).1).1 (bl a (cz s).1).2).1).2⟩)
def fA (a:Bool):Nat->Src->List Itm->Src×List Itm
 | 0,s,l=>(s,l)
 | n+1,s,l=>if s.bad=true then(s,l)else fA a n (j9 a s).1 (l++[(j9 a s).2])
def fY:Nat->Src->List B8->Src×List B8
 | 0,s,l=>(s,l)
 | n+1,s,l=>if s.bad=true then(s,l)else fY n (bA s).1 (l++[(bA s).2])
def wT (a:Bool) (b:Int) (c:B8) (x:Src×List B8):Src×Ob :=
 ((bG (bl a (bl a (bl a x.1).1).1).1 (bl a (bl a (bl a x.1).1).1).2).1,
  ⟨b,[],[],c,x.2,(bl a x.1).2,(bl a (bl a x.1).1).2,(bG (bl a (bl a (bl a x.1).1).1).1 (bl a (bl a (bl a x.1).1).1).2).2⟩)
def eP (c:Bool) (a:Int) (b:B8):Src×Ob :=
 if a=1 then(⟨[],false⟩,⟨a,b,[],[],[],0,0,[]⟩)
 else if a=2 then
  ((fA c (bl c ⟨b,false⟩).2 (bl c ⟨b,false⟩).1 []).1,⟨a,[],(fA c (bl c ⟨b,false⟩).2 (bl c ⟨b,false⟩).1 []).2,[],[],0,0,[]⟩)
 else if a=3 then wT c a (bA ⟨b,false⟩).2 (fY (cz (bA ⟨b,false⟩).1).2 (cz (bA ⟨b,false⟩).1).1 [])
 else(⟨b,false⟩,⟨a,[],[],[],[],0,0,[]⟩)
def gD:B8->Ob×Int
 | []=>(ob0,2)
 | c::l=>if ew (eP false c.toNat l).2=true/\k9 (eP false c.toNat l).2=c::l then((eP false c.toNat l).2,0)else(ob0,4)
theorem vA:∀(s:B8) {b:B8},aY s=some b->dt b=s
 | [],b,h=>by
  have:b=[]:=by simpa [aY]using h.symm
  subst this;rfl
 | [x],b,h=>by simp[aY]at h
 | x::y::l,b,h=>by
  unfold aY at h;split at h
  .rename_i a
   cases e:aY l with
   | none=>rw[e]at h;simp at h
   | some r =>
    rw[e]at h;have h:UInt8.ofNat (16*bD x+bD y)::r=b:=by simpa using h
    subst h;have i:=vA l e;have:dt (UInt8.ofNat (16*bD x+bD y)::r)=aK.getD ((UInt8.ofNat (16*bD x+bD y)).toNat / 16) 0::aK.getD ((UInt8.ofNat (16*bD x+bD y)).toNat%16) 0::dt r:=by unfold dt;rw[List.flatMap_cons];rfl
    rw[this,i,UInt8.toNat_ofNat',show(16*bD x+bD y)%2 ^ 8 / 16=bD x by omega,show(16*bD x+bD y)%2 ^ 8%16=bD y by omega];have g:∀c:UInt8,bD c<16->aK.getD (bD c) 0=c:=fun c a=>by
     have d:List.idxOf c aK<aK.length:=a;unfold bD;rw[List.getD_eq_getElem?_getD,List.getElem?_eq_getElem d,Option.getD_some,List.getElem_idxOf]
    rw[g x a.1,g y a.2]
  .cases h
theorem my {id:B8} (h:aO id=true):(cI id).length=32/\dt (cI id)=id:=by
 unfold aO at h;unfold cI
 cases a:aY id with
 | none=>rw[a]at h;cases h
 | some b =>
  rw[a]at h;exact⟨by simpa using h,vA id a⟩
theorem tO {s:B8} (h:bM s=true):s.length<=64:=by
 unfold bM at h;simp only[Bool.and_eq_true,decide_eq_true_eq]at h;exact h.2.2.1
theorem tL {o:Ob} (h:ew o=true):o.kind=1\/o.kind=2\/o.kind=3:=by
 unfold ew at h;split at h
 .rename_i a;exact .inl a
 .split at h
  .rename_i a;exact .inr (.inl a)
  .split at h
   .rename_i a;exact .inr (.inr a)
   .cases h
theorem lQ (c:UInt8) (l:B8):gD (c::l)=if ew (eP false c.toNat l).2=true/\k9 (eP false c.toNat l).2=c::l then((eP false c.toNat l).2,0)else(ob0,4):=rfl
end
section
open Go Go.Sort
section
variable {α:Type} [Inhabited α] {lt:α->α->Bool}
def FT (d:Array α) (a b:Nat):Nat->Array α
 | 0=>d
 | n+1=>swp (FT d a b n) (a+n) (b+n)
def Ga (d:Array α) (a m b:Nat) (c:Array α):Prop :=
 ∀k,c[k]! = if a<=k/\k<a+(b - m)then d[k+(m - a)]! else if a+(b - m)<=k/\k<b then d[k - (b - m)]! else d[k]!
variable {a b:Nat}
theorem xL (d:Array α) (h:b<=a+1):SortedIn lt a b d:=fun i j c e g=>by omega
theorem jT {d c:Array α} (h:SortedIn lt a b d) (l:∀k,a<=k->k<b->c[k]! = d[k]!):SortedIn lt a b c:=fun i j e n g=>by
 rw[l i e (by omega),l j (by omega) g];exact h i j e n g
theorem uT {c e:Nat} {d:Array α} (h:SortedIn lt a b d) (n:a<=c) (o:e<=b):SortedIn lt c e d:=fun i j k g l=>h i j (by omega) g (by omega)
structure Cut (lt:α->α->Bool) (d:Array α) (a m b s e:Nat):Prop where
 out:∀i j,a<=i->i<s->e<=j->j<b->lt d[j]! d[i]! = false
 Ia:∀i j,s<=i->i<m->m<=j->j<e->lt d[i]! d[j]! = false
inductive Runs (lt:α->α->Bool) (s n:Nat) (d:Array α):Nat->Prop
 | last {a:Nat}:n<=a+s->SortedIn lt a n d->Runs lt s n d a
 | more {a:Nat}:SortedIn lt a (a+s) d->Runs lt s n d (a+s)->Runs lt s n d a
variable {s n:Nat}
theorem Runs.congr {d g:Array α} (h:Runs lt s n d a) (j:∀k,a<=k->k<n->g[k]! = d[k]!) (l:∀k,a<=k->n<=k->g[k]! = d[k]!):Runs lt s n g a:=by
 induction h with
 | last i o=>exact .last i (jT o fun k c e=>j k c e)
 | more i _ p =>
  refine .more (jT i fun k c e=>?_) (p (fun k c e=>j k (by omega) e) (fun k c e=>l k (by omega) e));rcases Nat.lt_or_ge k n with h | h
  .exact j k c h
  .exact l k c h
theorem Runs.first {d:Array α} (h:Runs lt s n d a) (g:a+s<=n):SortedIn lt a (a+s) d/\Runs lt s n d (a+s):=by
 cases h with
 | last e c =>
  obtain rfl:n=a+s:=by omega
  exact⟨c,.last (by omega) (xL d (by omega))⟩
 | more e c=>exact⟨e,c⟩
theorem Runs.end {d:Array α} (h:Runs lt s n d a) (g:n<=a+s):SortedIn lt a n d:=by
 cases h with
 | last c e=>exact e
 | more c e=>exact uT c (Nat.le_refl _) g
def Ahead (lt:α->α->Bool) (s n a:Nat) (d:Array α):Prop:=∀c:Array α,(∀k,k<a->c[k]! = d[k]!)->Runs lt s n c a->Runs lt s n c 0
theorem Ahead.zero (s n:Nat) (d:Array α):Ahead lt s n 0 d:=fun _ _ h=>h
theorem Ahead.step {d c:Array α} (h:Ahead lt s n a d) (l:b=a+s) (o:∀k,k<a->c[k]! = d[k]!) (q:SortedIn lt a b c):Ahead lt s n b c:=by
 subst l;intro g e j;refine h g (fun k p=>by rw[e k (by omega),o k p]) (.more (jT q fun k r i=>e k i) j)
theorem Ahead.last {d c:Array α} (h:Ahead lt s n a d) (g:n<=a+s) (e:∀k,k<a->c[k]! = d[k]!) (i:SortedIn lt a n c):Runs lt s n c 0 :=
 h c e (.last g i)
end
end
section
open Go Go.Shelf Go.RowKit Go.Lib Go.Sort
variable {P:Program} {α:Type} [Inhabited α]
end
section
open Go Go.Shelf Go.RowKit Go.Lib Go.Sort
variable {P:Program} {α:Type} [Inhabited α]
end
section
open Go Go.Shelf Go.RowKit Go.Lib Go.Sort
variable {P:Program} {α:Type} [Inhabited α]
def FX (P:Program) (k:Nat) (enc:α->List Value) (l:α->α->Int) (g:Nat) (cb:Array Value) (c h i:Nat) (n:Array α) (j:World):Prop :=
 ∀(a b:Nat) (d:Array α) (w:World),n.size=d.size->SWK enc k j c h d w->a<=b->b<=d.size ->
  Calls P 100 #[.slice (some ⟨c,h,none⟩) d.size i,.int .i64 a,.int .i64 b,.func (.func g) #[] cb] w fun e o=>e=.returned (.tuple #[])/\SWK enc k j c h (Sort.insertionSort (ltOf l) d a b) o
end
end Go.Proofs.YtgfegpnmlkdjfaaGreatDoor
