/- Contracts of the program's functions and plain laws behind the card. Conditions: as each theorem states. -/
import Derived.Test.YtgfegpnmlkdjfaaGreatDoorZbg
import Derived.Lib.Split
import Derived.Lib.SplitLaws
set_option linter.unusedVariables false
set_option linter.unusedSimpArgs false
set_option linter.unusedSectionVars false
set_option maxRecDepth 100000
set_option maxHeartbeats 64000000
namespace Go.Proofs.YtgfegpnmlkdjfaaGreatDoor
section
open Go Go.RowKit Go.Sort
def fh:List B8->List B8->Nat
 | [],_=>0
 | _::_,[]=>0
 | x::a,y::b=>if x=y then fh a b+1 else max (fh a (y::b)) (fh (x::a) b)
termination_by a b=>a.length+b.length
theorem ph (b:List B8):fh [] b=0:=by unfold fh;rfl
theorem pi (a:List B8):fh a []=0:=by cases a <;> (unfold fh;rfl)
theorem rg (x y:B8) (a b:List B8):fh (x::a) (y::b)=if x=y then fh a b+1 else max (fh a (y::b)) (fh (x::a) b):=by rw[fh]
theorem nd:∀(a b:List B8),fh a b<=a.length
 | [],b=>by rw[ph];exact Nat.zero_le _
 | x::a,[]=>by rw[pi];exact Nat.zero_le _
 | x::a,y::b=>by
  rw[rg];have d:=nd a b;have e:=nd a (y::b);have c:=nd (x::a) b;simp only[List.length_cons]at c ⊢;split <;> omega
termination_by a b=>a.length+b.length
def aL:List B8->List B8->Nat->Nat->List (Nat×Nat)
 | [],_,_,_=>[]
 | _::_,[],_,_=>[]
 | x::a,y::b,i,j=>if x=y then(i,j)::aL a b (i+1) (j+1)else if fh (x::a) b<=fh a (y::b)then aL a (y::b) (i+1) j else aL (x::a) b i (j+1)
termination_by a b=>a.length+b.length
theorem jH (b:List B8) (i j:Nat):aL [] b i j=[]:=by unfold aL;rfl
theorem jI (a:List B8) (i j:Nat):aL a [] i j=[]:=by cases a <;> (unfold aL;rfl)
theorem kz (x y:B8) (a b:List B8) (i j:Nat):aL (x::a) (y::b) i j=if x=y then(i,j)::aL a b (i+1) (j+1)else if fh (x::a) b<=fh a (y::b)then aL a (y::b) (i+1) j else aL (x::a) b i (j+1):=by rw[aL]
structure Prs (a b:List B8) (i j:Nat) (P:List (Nat×Nat)):Prop where
 up:P.Pairwise fun p q=>p.1<q.1/\p.2<q.2
 lo:∀p∈P,i<=p.1/\j<=p.2
 hi:∀p∈P,p.1<i+a.length/\p.2<j+b.length
theorem fM:∀(a b:List B8) (i j:Nat),Prs a b i j (aL a b i j)
 | [],b,i,j=>by rw[jH];exact⟨.nil,fun p h=>(by cases h),fun p h=>(by cases h)⟩
 | x::a,[],i,j=>by rw[jI];exact⟨.nil,fun p h=>(by cases h),fun p h=>(by cases h)⟩
 | x::a,y::b,i,j=>by
  rw[kz];have d:=fM a b (i+1) (j+1);have e:=fM a (y::b) (i+1) j;have g:=fM (x::a) b i (j+1);split
  .refine ⟨.cons (fun q k=>?_) d.up,fun p c=>?_,fun p c=>?_⟩
   .have:=d.lo q k;omega
   .rcases List.mem_cons.1 c with rfl | c
    .exact ⟨Nat.le_refl _,Nat.le_refl _⟩
    .have:=d.lo p c;omega
   .rcases List.mem_cons.1 c with rfl | c
    .simp only[List.length_cons];omega
    .have:=d.hi p c;simp only[List.length_cons];omega
  .split
   .refine ⟨e.up,fun p c=>?_,fun p c=>?_⟩
    .have:=e.lo p c;omega
    .have:=e.hi p c;simp only[List.length_cons]at this ⊢;omega
   .refine ⟨g.up,fun p c=>?_,fun p c=>?_⟩
    .have:=g.lo p c;omega
    .have:=g.hi p c;simp only[List.length_cons]at this ⊢;omega
termination_by a b=>a.length+b.length
def bE (n:Nat) (P:List (Nat×Nat)):List Int:=P.foldl (fun l p=>l.set p.1 (p.2:Int)) (List.replicate n (-1))
theorem pC (n:Nat) (P:List (Nat×Nat)):(bE n P).length=n:=by
 unfold bE
 suffices h:∀(l:List Int),(P.foldl (fun l p=>l.set p.1 (p.2:Int)) l).length=l.length by rw[h];simp
 induction P with
 | nil=>intro l;rfl
 | cons p P a=>intro l;rw[List.foldl_cons,a];simp
variable {P:List (Nat×Nat)}
theorem tA:∀(l:List Int) (i:Nat),i<l.length->(∃p∈P,p.1=i/\(P.foldl (fun l p=>l.set p.1 (p.2:Int)) l).getD i (-1)=(p.2:Int))\/(P.foldl (fun l p=>l.set p.1 (p.2:Int)) l).getD i (-1)=l.getD i (-1):=by
 induction P with
 | nil=>intro l i h;right;rfl
 | cons p P e =>
  intro l i h;rw[List.foldl_cons];rcases e (l.set p.1 p.2) i (by simpa using h)with⟨q,d,a,c⟩ | a
  .exact .inl ⟨q,List.mem_cons_of_mem _ d,a,c⟩
  .rw [a]
   by_cases b:p.1=i
   .left;refine⟨p,List.mem_cons_self,b,?_⟩;subst b;rw[List.getD_eq_getElem?_getD,List.getElem?_set_self h];rfl
   .right;rw[List.getD_eq_getElem?_getD,List.getElem?_set_ne b,<-List.getD_eq_getElem?_getD]
theorem mx (n:Nat) (P:List (Nat×Nat)) (i:Nat) (h:i<n):(∃p∈P,p.1=i/\(bE n P).getD i (-1)=(p.2:Int))\/(bE n P).getD i (-1) = -1:=by
 rcases tA (P:=P) (List.replicate n (-1)) i (by simpa using h)with a | a
 .exact .inl a
 .right;unfold bE;rw[a,List.getD_eq_getElem?_getD,List.getElem?_replicate];split <;> rfl
structure Ck where
 k:Int
 o:List B8
 a:List B8
 b:List B8
def fI (o a b:List B8):Int:=if b=o then 2 else if a=o then 3 else if a=b then 4 else 5
structure Wk where
 i:Nat
 j:Nat
 k:Nat
 out:List Ck
def bQ (l:List B8) (i j:Nat):List B8:=(l.drop i).take (j - i)
def toW (o a b:List B8) (w:Wk) (i j k:Nat):Wk :=
 ⟨i,j,k,if 0<(bQ o w.i i).length+(bQ a w.j j).length+(bQ b w.k k).length then w.out++[⟨fI (bQ o w.i i) (bQ a w.j j) (bQ b w.k k),bQ o w.i i,bQ a w.j j,bQ b w.k k⟩]else w.out⟩
def ql (c:Ck) (x:B8):Ck:=⟨c.k,c.o++[x],c.a++[x],c.b++[x]⟩
def bC:List Ck->B8->List Ck
 | [],_=>[]
 | [c],x=>[ql c x]
 | c::d::l,x=>c::bC (d::l) x
def eQ (o:List B8) (w:Wk) (g:Bool):Wk:=⟨w.i+1,w.j+1,w.k+1,bC (if g then w.out else w.out++[⟨1,[],[],[]⟩]) (o.getD w.i [])⟩
def dV (o a b:List B8) (p q:List Int) (s:Wk×Bool) (i:Nat):Wk×Bool :=
 if p.getD i (-1)<0\/q.getD i (-1)<0 then s
 else if s.1.i<i\/(s.1.j:Int)<p.getD i (-1)\/(s.1.k:Int)<q.getD i (-1)then(eQ o (toW o a b s.1 i (p.getD i (-1)).toNat (q.getD i (-1)).toNat) false,true)
 else(eQ o s.1 s.2,true)
def ck (o a b:List B8) (n:Nat):Wk×Bool:=(List.range n).foldl (dV o a b (bE o.length (aL o a 0 0)) (bE o.length (aL o b 0 0))) (⟨0,0,0,[]⟩,false)
def dB (o a b:List B8):List Ck:=(toW o a b (ck o a b o.length).1 o.length a.length b.length).out
def eI (c:Ck):Option (List B8):=if c.k=5 then none else if c.k=3 then some c.b else some c.a
def gP:List Ck->Option (List B8)
 | []=>some []
 | c::l=>(eI c).bind fun x=>(gP l).map (x ++ ·)
structure qi (o a b:List B8) (p q:List Int) (n:Nat) (s:Wk×Bool):Prop where
 i:s.1.i<=n
 j:s.1.j<=a.length
 k:s.1.k<=b.length
 pj:∀m,n<=m->m<o.length->0<=p.getD m (-1)->(s.1.j:Int)<=p.getD m (-1)
 qk:∀m,n<=m->m<o.length->0<=q.getD m (-1)->(s.1.k:Int)<=q.getD m (-1)
 grow:s.2=true->s.1.out≠[]
 len:s.1.out.length<=2*n
structure Plc (n m:Nat) (p:List Int):Prop where
 len:p.length=n
 hi:∀i,i<n->p.getD i (-1)<m
 up:∀i j,i<j->j<n->0<=p.getD i (-1)->0<=p.getD j (-1)->p.getD i (-1)<p.getD j (-1)
variable {a b:List B8}
theorem Ee {i j:Nat} (h:Prs a b i j P) {x y:Nat×Nat} (n:x∈P) (o:y∈P) (d:x.1<y.1):x.2<y.2:=by
 have:=h.up;clear h
 induction P with
 | nil=>cases n
 | cons c P p =>
  rw[List.pairwise_cons]at this;rcases List.mem_cons.1 n with k | l
  .rcases List.mem_cons.1 o with e | g
   .rw [k,e]at d;omega
   .rw [k];exact(this.1 y g).2
  .rcases List.mem_cons.1 o with e | g
   .have:=(this.1 x l).1;rw[e]at d;omega
   .exact p l g this.2
theorem i' (o a:List B8):Plc o.length a.length (bE o.length (aL o a 0 0)):=by
 have h:=fM o a 0 0;refine⟨pC _ _,fun i l=>?_,fun i j n r g k=>?_⟩
 .rcases mx o.length (aL o a 0 0) i l with⟨p,e,-,c⟩ | c
  .rw [c];have:=h.hi p e;omega
  .rw [c];omega
 .rcases mx o.length (aL o a 0 0) i (by omega)with⟨p,e,t,c⟩ | c
  .rcases mx o.length (aL o a 0 0) j r with⟨q,u,w,d⟩ | d
   .rw [c,d];have:=Ee h e u (by omega);omega
   .rw [d]at k;omega
  .rw [c]at g;omega
variable {l:List Ck}
theorem kR {x:B8} (h:l≠[]):bC l x≠[]:=by
 cases l with
 | nil=>exact absurd rfl h
 | cons c l=>cases l <;> (unfold bC;simp)
theorem kv:∀(l:List Ck) (x:B8),(bC l x).length=l.length
 | [],_=>rfl
 | [_],_=>rfl
 | c::d::l,x=>by unfold bC;rw[List.length_cons,kv (d::l) x];rfl
theorem BI (o a b:List B8) (p q:List Int):qi o a b p q 0 (⟨0,0,0,[]⟩,false):=by
 refine⟨Nat.le_refl _,Nat.zero_le _,Nat.zero_le _,?_,?_,?_,Nat.le_refl _⟩
 iterate 2
  .intro m _ _ h;exact h
 .intro h;cases h
theorem qO (o a b:List B8) (w:Wk) (i j k:Nat):(toW o a b w i j k).out.length<=w.out.length+1:=by
 unfold toW;dsimp only;split
 .simp
 .omega
variable {o:List B8} {p q:List Int} {s:Wk×Bool}
theorem Do (l:Plc o.length a.length p) (r:Plc o.length b.length q) {n:Nat} (h:qi o a b p q n s) (i:n<o.length):qi o a b p q (n+1) (dV o a b p q s n):=by
 unfold dV;split
 .exact ⟨Nat.le_succ_of_le h.i,h.j,h.k,fun m g=>h.pj m (by omega),fun m g=>h.qk m (by omega),h.grow,by have:=h.len;omega⟩
 .rename_i C;have j:0<=p.getD n (-1):=by omega
  have k:0<=q.getD n (-1):=by omega
  have z:=l.hi n i;have A:=r.hi n i;split
  .rename_i t;refine⟨?_,?_,?_,fun m g c d=>?_,fun m g c e=>?_,fun _=>?_,?_⟩
   .exact Nat.le_refl _
   .show (p.getD n (-1)).toNat+1<=a.length;omega
   .show (q.getD n (-1)).toNat+1<=b.length;omega
   .show (((p.getD n (-1)).toNat+1:Nat):Int)<=_;have:=l.up n m (by omega) c j d;omega
   .show (((q.getD n (-1)).toNat+1:Nat):Int)<=_;have:=r.up n m (by omega) c k e;omega
   .exact kR (by simp)
   .have B:=qO o a b s.1 n (p.getD n (-1)).toNat (q.getD n (-1)).toNat;have:=h.len;show(bC _ _).length<=_;rw[kv];simp only[Bool.false_eq_true,if_false,List.length_append,List.length_singleton];omega
  .rename_i t;have x:=h.pj n (Nat.le_refl _) i j;have y:=h.qk n (Nat.le_refl _) i k;have w:=h.i;refine⟨?_,?_,?_,fun m g c d=>?_,fun m g c e=>?_,fun _=>?_,?_⟩
   .show s.1.i+1<=n+1;omega
   .show s.1.j+1<=a.length;omega
   .show s.1.k+1<=b.length;omega
   .show ((s.1.j+1:Nat):Int)<=_;have:=l.up n m (by omega) c j d;omega
   .show ((s.1.k+1:Nat):Int)<=_;have:=r.up n m (by omega) c k e;omega
   .refine kR ?_
    cases u:s.2 with
    | true=>simpa using h.grow u
    | false=>simp
   .show (bC _ _).length<=_;rw[kv];have:=h.len;split
    .omega
    .rw [List.length_append,List.length_singleton];omega
structure sh (c d:Ck):Prop where
 o:d.o=c.o
 a:d.a=c.b
 b:d.b=c.a
 k:(c.k=1/\d.k=1/\c.a=c.b)\/(c.k=fI c.o c.a c.b/\d.k=fI c.o c.b c.a)
variable {c d:Ck}
theorem xP (h:sh c d):eI c=eI d:=by
 unfold eI;rw[h.a,h.b];rcases h.k with⟨g,i,k⟩ | ⟨g,i⟩
 .rw [g,i,k]
 .rw [g,i];unfold fI
  by_cases b:c.b=c.o
  .by_cases a:c.a=c.o
   iterate 2
    .simp [b,a]
  .by_cases a:c.a=c.o
   .simp [b,a]
   .by_cases e:c.a=c.b
    .simp [b,a,e]
    .have j:¬c.b=c.a:=fun h=>e h.symm
     simp[b,a,e,j]
inductive TurnL:List Ck->List Ck->Prop
 | nil:TurnL [] []
 | cons {c d:Ck} {l m:List Ck}:sh c d->TurnL l m->TurnL (c::l) (d::m)
variable {m:List Ck}
theorem zU (h:TurnL l m):gP l=gP m:=by
 induction h with
 | nil=>rfl
 | cons h _ a=>unfold gP;rw[xP h,a]
theorem TurnL.snoc (h:TurnL l m) (b:sh c d):TurnL (l++[c]) (m++[d]):=by
 induction h with
 | nil=>exact .cons b .nil
 | cons a _ e=>exact .cons a e
def pg (l:List Ck):Prop:=∀c,l.getLast? = some c->c.k=1
theorem mL (h:TurnL l m) (g:pg l) (x:B8):TurnL (bC l x) (bC m x):=by
 induction h with
 | nil=>exact .nil
 | @cons c d l m b j o =>
  cases j with
  | nil =>
   refine .cons ⟨?_,?_,?_,?_⟩ .nil
   .show d.o++[x]=c.o++[x];rw[b.o]
   .show d.a++[x]=c.b++[x];rw[b.a]
   .show d.b++[x]=c.a++[x];rw[b.b]
   .left;have n:=g c rfl;rcases b.k with⟨a,e,i⟩ | ⟨a,e⟩
    .exact ⟨a,e,by show c.a++[x]=c.b++[x];rw[i]⟩
    .rw [n]at a;unfold fI at a
     repeat' split at a
     all_goals cases a
  | cons p q =>
   unfold bC;exact .cons b (o (fun c k=>g c (by rw[List.getLast?_cons_cons];exact k)))
theorem iQ (h:pg l) (x:B8):pg (bC l x):=by
 induction l with
 | nil=>exact h
 | cons c l j =>
  cases l with
  | nil=>intro d a;cases a;exact h c rfl
  | cons e l =>
   unfold bC;have g:=j (fun c i=>h c (by rw[List.getLast?_cons_cons];exact i));intro d a;have b:=kR (l:=e::l) (x:=x) (by simp);generalize bC (e::l) x=y at a g b
   cases y with
   | nil=>exact absurd rfl b
   | cons f y=>rw[List.getLast?_cons_cons]at a;exact g d a
structure mS (s t:Wk×Bool):Prop where
 i:t.1.i=s.1.i
 j:t.1.j=s.1.k
 k:t.1.k=s.1.j
 g:t.2=s.2
 out:TurnL s.1.out t.1.out
 last:s.2=true->pg s.1.out
variable {t:Wk×Bool}
theorem wh (h:mS s t) (i j k:Nat):TurnL (toW o a b s.1 i j k).out (toW o b a t.1 i k j).out:=by
 unfold toW;dsimp only;rw[h.i,h.j,h.k]
 by_cases c:0<(bQ o s.1.i i).length+(bQ a s.1.j j).length+(bQ b s.1.k k).length
 .rw [if_pos c,if_pos (by omega)];exact h.out.snoc ⟨rfl,rfl,rfl,.inr ⟨rfl,rfl⟩⟩
 .rw [if_neg c,if_neg (by omega)];exact h.out
theorem zV (h:mS s t) (i:Nat):mS (dV o a b p q s i) (dV o b a q p t i):=by
 unfold dV
 by_cases d:p.getD i (-1)<0\/q.getD i (-1)<0
 .rw [if_pos d,if_pos d.symm];exact h
 .have j:¬(q.getD i (-1)<0\/p.getD i (-1)<0):=fun r=>d r.symm
  rw[if_neg d,if_neg j,h.i,h.j,h.k];have w:sh ⟨1,[],[],[]⟩ ⟨1,[],[],[]⟩:=⟨rfl,rfl,rfl,.inl ⟨rfl,rfl,rfl⟩⟩;have g:∀l:List Ck,pg (l++[⟨1,[],[],[]⟩]):=fun l c u=>by
   rw[List.getLast?_append]at u;cases u;rfl
  by_cases e:s.1.i<i\/(s.1.j:Int)<p.getD i (-1)\/(s.1.k:Int)<q.getD i (-1)
  .rw [if_pos e,if_pos (e.imp_right Or.symm)];refine⟨rfl,rfl,rfl,rfl,?_,fun _=>?_⟩
   .exact mL ((wh h _ _ _).snoc w) (g _) _
   .exact iQ (g _) _
  .have k:¬(s.1.i<i\/(s.1.k:Int)<q.getD i (-1)\/(s.1.j:Int)<p.getD i (-1)):=fun r=>e (r.imp_right Or.symm)
   rw[if_neg e,if_neg k];refine⟨congrArg (· + 1) h.i,congrArg (· + 1) h.j,congrArg (· + 1) h.k,rfl,?_,fun _=>?_⟩
   .unfold eQ;dsimp only;rw[h.g,h.i]
    cases n:s.2 with
    | true=>exact mL h.out (h.last n) _
    | false=>exact mL (h.out.snoc w) (g _) _
   .unfold eQ;dsimp only
    cases n:s.2 with
    | true=>exact iQ (h.last n) _
    | false=>exact iQ (g _) _
theorem uW (o a b:List B8):TurnL (dB o a b) (dB o b a):=by
 unfold dB;refine wh ?_ _ _ _;unfold ck;generalize bE o.length (aL o a 0 0)=p;generalize bE o.length (aL o b 0 0)=q;have h:mS ((⟨0,0,0,[]⟩,false):Wk×Bool) (⟨0,0,0,[]⟩,false):=⟨rfl,rfl,rfl,rfl,.nil,fun h=>by cases h⟩;generalize((⟨0,0,0,[]⟩,false):Wk×Bool)=s at h
 suffices c:∀(l:List Nat) (s t:Wk×Bool),mS s t->mS (l.foldl (dV o a b p q) s) (l.foldl (dV o b a q p) t)from c _ _ _ ‹_›
 intro l
 induction l with
 | nil=>intro s t h;exact h
 | cons i l d=>intro s t h;exact d _ _ (zV h i)
def ns (l:List B8):List B8:=if l.getLastD []=[]then l.dropLast else l
def aS (s:B8):List B8:=ns ((Lib.splitB ⟨#[10]⟩ 1 (Lib.countB ⟨s.toArray⟩ ⟨#[10]⟩) ⟨s.toArray⟩).map (·.data.toList))
def dH (o a b:B8):Option B8 :=
 if(0:UInt8)∈o\/(0:UInt8)∈a\/(0:UInt8)∈b then none
 else if 200<(aS o).length\/200<(aS a).length\/200<(aS b).length then none
 else(gP (dB (aS o) (aS a) (aS b))).map List.flatten
theorem uJ (o a b:B8):dH o a b=dH o b a:=by
 unfold dH;rw[zU (uW (aS o) (aS a) (aS b))];have c:((0:UInt8)∈o\/(0:UInt8)∈a\/(0:UInt8)∈b)=((0:UInt8)∈o\/(0:UInt8)∈b\/(0:UInt8)∈a):=by rw[or_comm (a:=(0:UInt8)∈a)]
 have d:(200<(aS o).length\/200<(aS a).length\/200<(aS b).length)=(200<(aS o).length\/200<(aS b).length\/200<(aS a).length):=by rw[or_comm (a:=200<(aS a).length)]
 simp only[c,d]
end
section
open Go Go.RowKit Go.Sort
def cT (m:Nat) (f:Nat->Int):Array Value:=((List.range m).map fun j=>Value.int .i64 (f j)).toArray
def lB (g m:Nat):Value:=.slice (some ⟨g,0,none⟩) m m
def fi (G:Nat->Nat) (n m len:Nat):Array Value:=((List.range n).map fun i=>if i<len then lB (G i) m else .slice none 0 0).toArray
variable {m j:Nat} {f:Nat->Int}
theorem vV (h:j<m):(cT m f)[j]? = some (.int .i64 (f j)):=by
 unfold cT;rw[List.getElem?_toArray,List.getElem?_map,List.getElem?_range h];rfl
theorem ud {g:Nat->Int} (x:Int) (d:∀i,g i=if i=j then x else f i):(cT m f).setIfInBounds j (.int .i64 x)=cT m g:=by
 unfold cT;rw[List.setIfInBounds_toArray];congr 1;apply List.ext_getElem?;intro i;rw[List.getElem?_set,List.getElem?_map,List.getElem?_map]
 by_cases a:i<m
 .rw [List.getElem?_range a]
  by_cases c:j=i
  .subst c;rw[if_pos rfl,if_pos (by simpa using a)];simp[d]
  .rw [if_neg c];have b:¬i=j:=fun e=>c e.symm
   simp[d,b]
 .rw [List.getElem?_eq_none (by simpa using a)];split
  .split
   .rename_i h;simp at h;omega
   .rfl
  .rfl
theorem rk (m:Nat):madeCells #[.int .i64 0] m=cT m (fun _=>0):=by
 refine Array.ext (by simp[madeCells,cT]) (fun i a b=>?_);simp[madeCells,cT,Nat.mod_one]
theorem yZ (n m:Nat) (G:Nat->Nat):madeCells #[.slice none 0 0] n=fi G n m 0:=by
 refine Array.ext (by simp[madeCells,fi]) (fun i a b=>?_);simp[madeCells,fi,Nat.mod_one]
variable {G:Nat->Nat} {n len i:Nat}
theorem CD (h:i<len) (a:len<=n):(fi G n m len)[i]? = some (lB (G i) m):=by
 unfold fi;rw[List.getElem?_toArray,List.getElem?_map,List.getElem?_range (by omega)];show some (if i<len then lB (G i) m else .slice none 0 0)=_;rw[if_pos h]
theorem AZ (g:Nat) (k:len<n):(fi G n m len).setIfInBounds len (lB g m)=fi (fun i=>if i=len then g else G i) n m (len+1):=by
 unfold fi;rw[List.setIfInBounds_toArray];congr 1;apply List.ext_getElem?;intro i;rw[List.getElem?_set,List.getElem?_map,List.getElem?_map]
 by_cases a:i<n
 .rw [List.getElem?_range a]
  by_cases c:len=i
  .subst c;rw[if_pos rfl,if_pos (by simpa using a)];simp
  .rw [if_neg c];have d:(i<len+1)=(i<len):=by apply propext;omega
   have b:¬i=len:=fun e=>c e.symm
   simp[d,b]
 .rw [List.getElem?_eq_none (by simpa using a)];split
  .split
   .rename_i h;simp at h;omega
   .rfl
  .rfl
structure MatW (w:World) (B go:Nat) (G:Nat->Nat) (n m len:Nat) (M:Nat->Nat->Int):Prop where
 row:w.heap[go]? = some (.cells (fi G n m len) 192 (0,0))
 rows:∀i,i<len->w.heap[G i]? = some (.cells (cT m (M i)) 3 (0,0))
 lo:B<=go
 Ib:∀i,i<len->B<=G i
 ne:∀i,i<len->G i≠go
 inj:∀i j,i<len->j<len->i≠j->G i≠G j
 le:len<=n
section
variable {w w':World} {B go:Nat} {G:Nat->Nat} {n m len:Nat} {M:Nat->Nat->Int}
theorem MatW.ext (h:MatW w B go G n m len M) (a:Ext w w'):MatW w' B go G n m len M :=
 ⟨a.row h.row,fun i b=>a.row (h.rows i b),h.lo,h.Ib,h.ne,h.inj,h.le⟩
theorem MatW.out (h:MatW w B go G n m len M) (a:i<len):w.cell? ⟨go,i,none⟩=some (lB (G i) m) :=
 (cell_of_row _ _ i _ _ _ h.row).trans (CD a h.le)
theorem MatW.cell (h:MatW w B go G n m len M) (a:i<len) (b:j<m):w.cell? ⟨G i,j,none⟩=some (.int .i64 (M i j)) :=
 (cell_of_row _ _ j _ _ _ (h.rows i a)).trans (vV b)
theorem kn {A:Array Value} (v:Value) (h:j<A.size):A.setIfInBounds j v=(A.toList.take j++[v]++A.toList.drop (j+1)).toArray:=by
 apply Array.ext';rw[Array.toList_setIfInBounds,List.set_eq_take_append_cons_drop,if_pos (by simpa using h)];simp
theorem MatW.push {r:World} {b:Nat} (h:MatW w B go G n m len M) (A:Ext w w') (x:w'.heap[b]? = some (.cells (cT m fun _=>0) 3 (0,0))) (t:w.heap.size<=b) (q:B<=b) (z:len<n)
  (o:r.heap[go]? = some (.cells (fi (fun i=>if i=len then b else G i) n m (len+1)) 192 (0,0))) (c:w'.grownBy r (some go)) (k:Nat->Nat->Int) (u:∀i,i<len->k i=M i) (l:k len=fun _=>0) :
  MatW r B go (fun i=>if i=len then b else G i) n m (len+1) k:=by
 have y:go<w.heap.size:=(Array.getElem?_eq_some_iff.1 h.row).1;have g:∀i,i<len->G i<w.heap.size:=fun i d=>(Array.getElem?_eq_some_iff.1 (h.rows i d)).1
 refine⟨o,fun i d=>?_,h.lo,fun i d=>?_,fun i d=>?_,fun i j d C p=>?_,z⟩
 .by_cases a:i=len
  .subst a;rw[if_pos rfl,l];exact bI c x (by omega)
  .rw [if_neg a,u i (by omega)];exact bI c (A.row (h.rows i (by omega))) (h.ne i (by omega))
 .by_cases a:i=len
  .rw [if_pos a];exact q
  .rw [if_neg a];exact h.Ib i (by omega)
 .by_cases a:i=len
  .rw [if_pos a];omega
  .rw [if_neg a];exact h.ne i (by omega)
 .by_cases a:i=len
  .rw [if_pos a,if_neg (by omega)];have:=g j (by omega);omega
  .rw [if_neg a]
   by_cases e:j=len
   .rw [if_pos e];have:=g i (by omega);omega
   .rw [if_neg e];exact h.inj i j (by omega) (by omega) p
theorem MatW.set (h:MatW w B go G n m len M) (l:i<len) (d:Nat->Nat->Int) (o:∀a,a≠i->d a=M a)
  (g:w'.heap[G i]? = some (.cells (cT m (d i)) 3 (0,0))) (c:w.grownBy w' (some (G i))):MatW w' B go G n m len d:=by
 refine⟨bI c h.row (fun e=>h.ne i l e.symm),fun a k=>?_,h.lo,h.Ib,h.ne,h.inj,h.le⟩
 by_cases b:a=i
 .subst b;exact g
 .rw [o a b];exact bI c (h.rows a k) (h.inj a i k l b)
theorem rl (G:Nat->Nat) (n m len:Nat):(fi G n m len).size=n:=by simp[fi]
theorem gH (m:Nat) (f:Nat->Int):(cT m f).size=m:=by simp[cT]
theorem AY (g:Nat) (a:len<n):fi (fun i=>if i=len then g else G i) n m (len+1)=((fi G n m len).toList.take len++[lB g m]++(fi G n m len).toList.drop (len+1)).toArray:=by
 rw[<-AZ g a,kn _ (by rw[rl];exact a)]
def ly (M:Nat->Nat->Int) (i j:Nat) (x:Int):Nat->Nat->Int:=fun a b=>if a=i/\b=j then x else M a b
theorem t9 (x:Int) (a:j<m):cT m (ly M i j x i)=((cT m (M i)).toList.take j++[Value.int .i64 x]++(cT m (M i)).toList.drop (j+1)).toArray:=by
 rw[<-ud (f:=M i) (g:=ly M i j x i) (j:=j) x (fun b=>by unfold ly;simp),kn _ (by rw[gH];exact a)]
theorem vS {x:Int} {a:Nat} (h:a≠i):ly M i j x a=M a:=by
 funext b;unfold ly;rw[if_neg (fun e=>h e.1)]
end
def EE (w:World) (B:Nat) (v:Value) (n m:Nat) (M:Nat->Nat->Int):Prop:=∃a G,v=.slice (some ⟨a,0,none⟩) n n/\MatW w B a G n m n M
def dF (a b:List B8) (i j:Nat):Int:=(fh (a.drop i) (b.drop j):Nat)
theorem CA (a b:List B8) (i j:Nat):0<=dF a b i j/\dF a b i j<=a.length:=by
 unfold dF;have:=nd (a.drop i) (b.drop j);rw[List.length_drop]at this;omega
theorem xe (a b:List B8) (j:Nat) (h:a.length<=i):dF a b i j=0:=by
 unfold dF;rw[List.drop_of_length_le h,ph];rfl
theorem pk (a b:List B8) (i:Nat) (h:b.length<=j):dF a b i j=0:=by
 unfold dF;rw[List.drop_of_length_le h,pi];rfl
variable {a b:List B8}
theorem yV {x y:B8} (e:a[i]? = some x) (g:b[j]? = some y):dF a b i j=if x=y then dF a b (i+1) (j+1)+1 else max (dF a b (i+1) j) (dF a b i (j+1)):=by
 obtain⟨c,rfl⟩:=List.getElem?_eq_some_iff.1 e;obtain⟨d,rfl⟩:=List.getElem?_eq_some_iff.1 g;unfold dF;rw[List.drop_eq_getElem_cons c,List.drop_eq_getElem_cons d,rg];split
 .rfl
 .rw [<-List.drop_eq_getElem_cons c,<-List.drop_eq_getElem_cons d];omega
structure LcsT (a b:List B8) (k q:Nat) (M:Nat->Nat->Int):Prop where
 done:∀i j,k<=i->i<=a.length->j<=b.length->M i j=dF a b i j
 part:∀i j,i+1=k->q<=j->j<=b.length->M i j=dF a b i j
 zero:∀i,i<=a.length->M i b.length=0
variable {M:Nat->Nat->Int}
theorem LcsT.start (a b:List B8) (h:∀i j,M i j=0):LcsT a b a.length b.length M :=
 ⟨fun i j c e d=>by rw[h,xe a b j c],fun i j c d g=>by rw[h,pk a b i d],fun i c=>h _ _⟩
variable {k:Nat}
theorem LcsT.set {q:Nat} {o:Nat->Nat->Int} {x:Int} (h:LcsT a b (k+1) (q+1) M) (u:q<b.length) (t:x=dF a b k q) (e:∀i j,o i j=if i=k/\j=q then x else M i j):LcsT a b (k+1) q o:=by
 refine⟨fun i j d g p=>?_,fun i j d p l=>?_,fun i d=>?_⟩
 .rw [e,if_neg (by omega)];exact h.done i j d g p
 .rw [e];obtain rfl:i=k:=by omega
  by_cases c:j=q
  .rw [if_pos ⟨rfl,c⟩,t,c]
  .rw [if_neg (fun r=>c r.2)];exact h.part i j rfl (by omega) l
 .rw [e,if_neg (by omega)];exact h.zero i d
theorem LcsT.next (h:LcsT a b (k+1) 0 M) (n:k<a.length):LcsT a b k b.length M:=by
 refine⟨fun i j e c d=>?_,fun i j e d l=>?_,h.zero⟩
 .by_cases g:i=k
  .exact h.part i j (by omega) (Nat.zero_le _) d
  .exact h.done i j (by omega) c d
 .obtain rfl:j=b.length:=by omega
  rw[h.zero i (by omega),pk a b i (Nat.le_refl _)]
theorem LcsT.row (h:LcsT a b (k+1) b.length M):True:=trivial
theorem uI (va vb:Value) (a b:List B8) (w:World) (ha:IsStrs w va a) (hb:IsStrs w vb b) (cb:a.length<=1000) (cc:b.length<=1000) :
  Calls Tryz.prog 165 #[va,vb] w fun e w'=>(∃v M,e=.returned v/\EE w' w.heap.size v (a.length+1) (b.length+1) M/\LcsT a b 0 b.length M)/\Ext w w':=by
 obtain⟨aa,ac,rfl,l1,l2,l3,a6⟩:=ha.get;obtain⟨ba,bc,rfl,r1,r2,r3,a7⟩:=hb.get;have bp:Hid _:=a6;have bq:Hid _:=a7;clear ha hb a6 a7;obtain⟨n,hn⟩:∃n,a.length+1=n:=⟨_,rfl⟩;obtain⟨m,hm⟩:∃m,b.length+1=m:=⟨_,rfl⟩;go_enter Tryz.func165,Tryz.ntmps165;have b3:IntKind.i64.wrap ((a.length:Int)+1)=(n:Int):=by rw[IntWalk.i64_in _ (by omega)];omega
 have D:(Instr.makeSlice 211 (.int .i64 n) (.int .i64 n)).run Tryz.prog w=.ok (.slice (some ⟨w.heap.size,0,none⟩) n n) (w.alloc (.cells (fi (fun _=>0) n m 0) 192)):=by
  rw[<-yZ];exact run_make_row' 211 192 (.slice none 0 0) 24 Tryz.underlying211 (by kernel_rfl) rfl .i64 .i64 n (by omega) (by omega) w
 obtain⟨w1,F⟩:∃w1,w1=w.alloc (.cells (fi (fun _=>0) n m 0) 192):=⟨_,rfl⟩;rw[<-F]at D;obtain⟨I,S⟩:∃g,w.heap.size=g:=⟨_,rfl⟩;have a2:Hid (MatW w1 w.heap.size I (fun _=>0) n m 0 (fun _ _=>0)):=⟨by rw[F,<-S];exact ah _ _,fun i hi=>absurd hi (by omega),Nat.le_of_eq S,fun i hi=>absurd hi (by omega),fun i hi=>absurd hi (by omega),fun i j hi=>absurd hi (by omega),Nat.zero_le _⟩;have a3:Hid (Ext w w1):=by rw[F];exact(Ext.refl _).alloc _
 have bv:Hid (w.heap.size<=I):=Nat.le_of_eq S;rw[S]at D;clear F S;go_wp2_with fail;clear D b3;go_loopw [15] (fun i wr=>∃(k:Nat) (G:Nat->Nat),k<=n/\i=.int .i64 k/\Hid (MatW wr w.heap.size I G n m k (fun _ _=>0))/\Hid (Ext w wr)) (fun i _=>n - (intOf i).toNat)
 case atStart=>exact⟨0,_,Nat.zero_le _,rfl,a2.out,a3.out⟩
 case round =>
 obtain⟨k,G,J,rfl,L,E⟩:=hrel
 by_cases bi:k<n
 case pos =>
  have cf:IntKind.i64.wrap ((b.length:Int)+1)=(m:Int):=by rw[IntWalk.i64_in _ (by omega)];omega
  have D:(Instr.makeSlice 192 (.int .i64 m) (.int .i64 m)).run Tryz.prog wr=.ok (.slice (some ⟨wr.heap.size,0,none⟩) m m) (wr.alloc (.cells (cT m fun _=>0) 3)):=by
   rw[<-rk];exact run_make_row' 192 3 (.int .i64 0) 8 Tryz.underlying192 (by kernel_rfl) rfl .i64 .i64 m (by omega) (by omega) wr
  obtain⟨w2,H⟩:∃w2,w2=wr.alloc (.cells (cT m fun _=>0) 3):=⟨_,rfl⟩;rw[<-H]at D;have au:Ext wr w2:=by rw[H];exact(Ext.refl _).alloc _
  have ad:w2.heap[wr.heap.size]? = some (.cells (cT m fun _=>0) 3 (0,0)):=by rw[H];exact ah _ _
  have am:=E.out.size;obtain⟨gx,ag⟩:∃g,wr.heap.size=g:=⟨_,rfl⟩;rw[ag]at D ad am;have bs:Hid _:=ad;have b1:Hid _:=am;have b0:Hid (wr.heap.size<=gx):=Nat.le_of_eq ag;have a4:Hid (Ext wr w2):=au;have l:=au.row L.out.row;have o:=AY (G:=G) (m:=m) gx bi;clear H au ad am ag
  go_wp2_with (refine aP rfl 192 (.tmp 24) (.tmp 23) rfl I k rfl (lB gx m) rfl rfl _ (fi G n m k) l (by rw[rl];omega) (by kernel_rfl) _ o ?_;intro Y A d)
  have P:Hid (MatW Y w.heap.size I _ n m (k+1) (fun _ _=>0)):=L.out.push a4.out bs.out b0.out b1.out bi A d (fun _ _=>0) (fun _ _=>rfl) rfl;have Q:Hid (Ext w Y):=(E.out.trans a4.out).but d bv.out;clear A d l o D;go_wp2_with fail;go_roundw
  case rel=>exact⟨k+1,_,by omega,by go_num,P.out,Q.out⟩
  case measure=>simp[intOf] <;> omega
 obtain rfl:n=k:=by omega
 clear a2 a3;have b4:IntKind.i64.wrap ((a.length:Int) - 1)=(a.length:Int) - 1:=IntWalk.i64_in _ (by omega);have a1:Hid (LcsT a b a.length b.length (fun _ _=>0)):=LcsT.start a b (fun _ _=>rfl);go_wp2_with fail;clear b4;go_loopw [7] (fun i wr=>∃(k:Nat) (z:Int) (M:Nat->Nat->Int),k<=a.length/\z=(k:Int) - 1/\i=.int .i64 z/\Hid (MatW wr w.heap.size I G n m n M)/\Hid (LcsT a b k b.length M)/\Hid (Ext w wr)) (fun i _=>(intOf i+1).toNat)
 case atStart=>exact⟨a.length,_,_,Nat.le_refl _,rfl,rfl,L.out,a1.out,E.out⟩
 case round =>
 clear L E a1;obtain⟨k,z,M,J,hz,rfl,L,V,E⟩:=hrel
 by_cases bh:k=0
 case pos =>
  subst bh;have b7:¬(0:Int)<=z:=by omega
  go_wp2_with fail;go_ret;exact⟨⟨_,rfl,M,⟨I,G,rfl,L.out⟩,V.out⟩,E.out⟩
 obtain⟨i,rfl⟩:∃i,k=i+1:=⟨k - 1,by omega⟩;obtain rfl:z=(i:Int):=by omega
 have b7:(0:Int)<=(i:Int):=by omega
 have b5:IntKind.i64.wrap ((b.length:Int) - 1)=(b.length:Int) - 1:=IntWalk.i64_in _ (by omega);have ci:IntKind.i64.wrap ((i:Int) - 1)=(i:Int) - 1:=IntWalk.i64_in _ (by omega);have cl:IntKind.i64.wrap ((i:Int)+1)=(i:Int)+1:=IntWalk.i64_in _ (by omega);have p6:(0:Int)<=(i:Int)+1:=by omega
 clear hz bh;go_wp2_with fail;clear b5;go_loopw [8] (fun j wr=>∃(q:Nat) (y:Int) (M:Nat->Nat->Int),q<=b.length/\y=(q:Int) - 1/\j=.int .i64 y/\Hid (MatW wr w.heap.size I G n m n M)/\Hid (LcsT a b (i+1) q M)/\Hid (Ext w wr)) (fun j _=>(intOf j+1).toNat)
 case atStart=>exact⟨b.length,_,M,Nat.le_refl _,rfl,rfl,L.out,V.out,E.out⟩
 case round =>
 clear L V E;obtain⟨q,y,M,ce,hy,rfl,L,V,E⟩:=hrel
 by_cases bk:q=0
 case pos =>
  subst bk;have b6:¬(0:Int)<=y:=by omega
  have N:Hid _:=V.out.next (by omega)
  go_wp2_with fail;go_roundw
  case rel=>exact⟨i,_,M,by omega,rfl,rfl,L.out,N.out,E.out⟩
  case measure=>simp[intOf] <;> omega
 obtain⟨j,rfl⟩:∃j,q=j+1:=⟨q - 1,by omega⟩;obtain rfl:y=(j:Int):=by omega
 have b6:(0:Int)<=(j:Int):=by omega
 have cm:IntKind.i64.wrap ((j:Int) - 1)=(j:Int) - 1:=IntWalk.i64_in _ (by omega);have co:IntKind.i64.wrap ((j:Int)+1)=(j:Int)+1:=IntWalk.i64_in _ (by omega);have p8:(0:Int)<=(j:Int)+1:=by omega
 clear hy bk;have ai:i<a.length:=by omega
 have T:j<b.length:=by omega
 obtain⟨ab,ao,rfl,a9⟩:=bp.out i ai;obtain⟨bb,bo,rfl,a'⟩:=bq.out j T;have y1:=E.out.cell (a9 i ai);have y2:=E.out.cell (a' j T);obtain⟨s,hs⟩:∃s,a[i]? = some s:=⟨_,List.getElem?_eq_getElem ai⟩;obtain⟨t,ht⟩:∃t,b[j]? = some t:=⟨_,List.getElem?_eq_getElem T⟩;rw[show a.getD i []=s by rw[List.getD_eq_getElem?_getD,hs];rfl]at y1;rw[show b.getD j []=t by rw[List.getD_eq_getElem?_getD,ht];rfl]at y2;have a0:Hid _:=yV hs ht;obtain⟨c,hc⟩:∃c,(s==t)=c:=⟨_,rfl⟩;have HC:Hid _:=hc;have b':(i:Int)<(n:Int):=by omega
 have b8:(i:Int)+1<(n:Int):=by omega
 have ca:(j:Int)<(m:Int):=by omega
 have b9:(j:Int)+1<(m:Int):=by omega
 clear a9 a' hs ht;go_upto_region 13 with fail;apply ak 9 [_,_,_,S8 s,_,_,_,S8 t,.bool c] [none,none,none,none,none,none,none,none,none] [[],[],[0,1],[2],[],[],[4,5],[6],[3,7]] (by kernel_rfl) (by kernel_rfl) (by simp[aq])
 .trivial
 .simp (maxSteps:=1000000)only[List.take_succ_cons,List.take_zero,ay,aB,af,Act.put,List.setIfInBounds_toArray,List.set_cons_zero,List.set_cons_succ,aE,aH,aq,List.getD_cons_zero,List.getD_cons_succ,and_true,true_and,forall_const];and_intros
  iterate 9 · intro xs wq U;intros;rename_i hR;have f1:=U.cell y1;have f2:=U.cell y2;go_simp;exact hR _ _ (Ext.refl _) rfl
 intro xs w3 av J;simp only[aG,Nat.zero_add,Nat.reduceAdd,and_true]at J;simp(maxSteps:=1000000)only[List.take_succ_cons,List.take_zero,List.drop_succ_cons,List.drop_zero,af,Act.put,List.setIfInBounds_toArray,List.set_cons_zero,List.set_cons_succ,Nat.zero_add,Nat.reduceAdd,J];clear J;have a5:Hid (Ext w w3):=E.out.trans av;have x:Hid (MatW w3 w.heap.size I G n m n M):=L.out.ext av;clear av L E y1 y2 hc;have g1:=x.out.out (show i<n by omega);have g2:=x.out.out (show i+1<n by omega);unfold lB at g1 g2;have l:=x.out.rows i (by omega)
 cases c with
 | true =>
  have W:=x.out.cell (show i+1<n by omega) (show j+1<m by omega);obtain⟨v,hv⟩:∃v,M (i+1) (j+1)=v:=⟨_,rfl⟩;rw[hv]at W;have K:v=dF a b (i+1) (j+1):=by rw[<-hv];exact V.out.done _ _ (Nat.le_refl _) (by omega) (by omega)
  have b2:=CA a b (i+1) (j+1);rw[<-K]at b2;have cp:IntKind.i64.wrap (v+1)=v+1:=IntWalk.i64_in _ (by omega);have N:Hid (LcsT a b (i+1) j (ly M i j (v+1))):=V.out.set T (by have h9:=a0.out;rw[if_pos (by simpa using HC.out)]at h9;rw[h9,<-K]) (fun _ _=>rfl);clear hv K;obtain⟨X,C⟩:∃g,G i=g:=⟨_,rfl⟩;obtain⟨gj,R⟩:∃g,G (i+1)=g:=⟨_,rfl⟩;rw[C]at g1 l;rw[R]at g2 W;have B:Hid _:=C;clear C R;go_upto_region 14 with fail;apply ak 16 [_,_,_,.slice (some ⟨X,0,none⟩) m m,_,_,_,_,_,.slice (some ⟨gj,0,none⟩) m m,_,_,_,.int .i64 v,.int .i64 (v+1),.pointer (some ⟨X,j,none⟩)] [none,none,none,none,none,none,none,none,none,none,none,none,none,none,none,none] [[],[],[0,1],[2],[],[],[],[6],[5,7],[8],[],[10],[9,11],[12],[13],[3,4]] (by kernel_rfl) (by kernel_rfl) (by simp[aq])
  .trivial
  .simp (maxSteps:=1000000)only[List.take_succ_cons,List.take_zero,ay,aB,af,Act.put,List.setIfInBounds_toArray,List.set_cons_zero,List.set_cons_succ,aE,aH,aq,List.getD_cons_zero,List.getD_cons_succ,and_true,true_and,forall_const];and_intros
   iterate 16 · intro xs wq U;intros;rename_i hR;have f1:=U.cell g1;have f2:=U.cell g2;have f3:=U.cell W;go_simp;exact hR _ _ (Ext.refl _) rfl
  intro xs w4 r J;simp only[aG,Nat.zero_add,Nat.reduceAdd,and_true]at J;simp(maxSteps:=1000000)only[List.take_succ_cons,List.take_zero,List.drop_succ_cons,List.drop_zero,af,Act.put,List.setIfInBounds_toArray,List.set_cons_zero,List.set_cons_succ,Nat.zero_add,Nat.reduceAdd,J];clear J;have p:=r.row l;have o:=t9 (M:=M) (m:=m) (i:=i) (j:=j) (v+1) (by omega);have O:Hid (MatW w4 w.heap.size I G n m n M):=x.out.ext r;have Z:Hid (Ext w w4):=a5.out.trans r;clear g1 g2 W l r
  go_wp2_with (refine aP rfl 3 (.tmp 64) (.tmp 63) rfl X j rfl (.int .i64 (v+1)) rfl rfl _ (cT m (M i)) p (by rw[gH];omega) (by kernel_rfl) _ o ?_;intro Y A d)
  have P:Hid (MatW Y w.heap.size I G n m n (ly M i j (v+1))):=O.out.set (i:=i) (by omega) _ (fun _ h=>vS h) (by rw[B.out];exact A) (by rw[B.out];exact d);have Q:Hid (Ext w Y):=Z.out.but d (by rw[<-B.out];exact O.out.Ib i (by omega));clear A d o p;go_wp2_with fail;go_roundw
  case rel=>exact⟨j,_,_,by omega,rfl,rfl,P.out,N.out,Q.out⟩
  case measure=>simp[intOf] <;> omega
 | false =>
  have W:=x.out.cell (show i+1<n by omega) (show j<m by omega);have g4:=x.out.cell (show i<n by omega) (show j+1<m by omega);obtain⟨u,hu⟩:∃v,M (i+1) j=v:=⟨_,rfl⟩;obtain⟨v,hv⟩:∃v,M i (j+1)=v:=⟨_,rfl⟩;rw[hu]at W;rw[hv]at g4;have bm:u=dF a b (i+1) j:=by rw[<-hu];exact V.out.done _ _ (Nat.le_refl _) (by omega) (by omega)
  have K:v=dF a b i (j+1):=by rw[<-hv];exact V.out.part _ _ rfl (Nat.le_refl _) (by omega)
  have N:Hid (LcsT a b (i+1) j (ly M i j (max u v))):=V.out.set T (by have h9:=a0.out;rw[if_neg (by simpa using HC.out)]at h9;rw[h9,bm,K]) (fun _ _=>rfl);clear hu bm hv K;obtain⟨X,C⟩:∃g,G i=g:=⟨_,rfl⟩;obtain⟨gj,R⟩:∃g,G (i+1)=g:=⟨_,rfl⟩;rw[C]at g1 l g4;rw[R]at g2 W;have B:Hid _:=C;clear C R;go_upto_region 15 with fail;apply ak 23 [_,_,_,.slice (some ⟨X,0,none⟩) m m,_,_,_,_,_,.slice (some ⟨gj,0,none⟩) m m,_,_,.int .i64 u,_,_,_,.slice (some ⟨X,0,none⟩) m m,_,_,_,.int .i64 v,.int .i64 (max u v),.pointer (some ⟨X,j,none⟩)] [none,none,none,none,none,none,none,none,none,none,none,none,none,none,none,none,none,none,none,none,none,none,none] [[],[],[0,1],[2],[],[],[],[6],[5,7],[8],[],[9,10],[11],[],[],[13,14],[15],[],[17],[16,18],[19],[12,20],[3,4]] (by kernel_rfl) (by kernel_rfl) (by simp[aq])
  .trivial
  .simp (maxSteps:=1000000)only[List.take_succ_cons,List.take_zero,ay,aB,af,Act.put,List.setIfInBounds_toArray,List.set_cons_zero,List.set_cons_succ,aE,aH,aq,List.getD_cons_zero,List.getD_cons_succ,and_true,true_and,forall_const];and_intros
   iterate 23 · intro xs wq U;intros;rename_i hR;have f1:=U.cell g1;have f2:=U.cell g2;have f3:=U.cell W;have f4:=U.cell g4;go_simp;exact hR _ _ (Ext.refl _) rfl
  intro xs w4 r J;simp only[aG,Nat.zero_add,Nat.reduceAdd,and_true]at J;simp(maxSteps:=1000000)only[List.take_succ_cons,List.take_zero,List.drop_succ_cons,List.drop_zero,af,Act.put,List.setIfInBounds_toArray,List.set_cons_zero,List.set_cons_succ,Nat.zero_add,Nat.reduceAdd,J];clear J;have p:=r.row l;have o:=t9 (M:=M) (m:=m) (i:=i) (j:=j) (max u v) (by omega);have O:Hid (MatW w4 w.heap.size I G n m n M):=x.out.ext r;have Z:Hid (Ext w w4):=a5.out.trans r;clear g1 g2 W g4 l r
  go_wp2_with (refine aP rfl 3 (.tmp 87) (.tmp 86) rfl X j rfl (.int .i64 (max u v)) rfl rfl _ (cT m (M i)) p (by rw[gH];omega) (by kernel_rfl) _ o ?_;intro Y A d)
  have P:Hid (MatW Y w.heap.size I G n m n (ly M i j (max u v))):=O.out.set (i:=i) (by omega) _ (fun _ h=>vS h) (by rw[B.out];exact A) (by rw[B.out];exact d);have Q:Hid (Ext w Y):=Z.out.but d (by rw[<-B.out];exact O.out.Ib i (by omega));clear A d o p;go_wp2_with fail;go_roundw
  case rel=>exact⟨j,_,_,by omega,rfl,rfl,P.out,N.out,Q.out⟩
  case measure=>simp[intOf] <;> omega
end
section
open Go Go.RowKit Go.Sort
def prC (p:Nat×Nat):List Value:=[.int .i64 p.1,.int .i64 p.2]
theorem AS:(Tryz.prog.info? 214).map (fun i=>(i.zero,i.size,i.bytes))=some (some (.agg #[.int .i64 0,.int .i64 0]),2,16):=by kernel_rfl
section
variable {ops:Array Oper} {rest:List Oper} {o:Oper} {a:Act} {Q:Exit->Act->World->Prop} {w:World}
theorem B2 (k:o.guard=none) (s x:Operand) (y:o.op=.call { callee:=.builtin .append,args:=#[s,x],argTypes:=#[189,189] })
  (b:Nat) (v:Value) (n:Nat) (xs:List Value) (z:a.eval s=v) (e:w.ownsRow b 214 2 v n xs)
  (g c:Nat) (r:Nat×Nat) (A:a.eval x=.slice (some ⟨g,0,none⟩) 1 c) {fr:Nat×Nat} (t:w.heap[g]? = some (.cells #[.int .i64 r.1,.int .i64 r.2] 214 fr))
  (B:n<=10000000) (d:b<=w.heap.size)
  (h:∀j i,i.ownsRow b 214 2 j (n+1) (xs++prC r)->w.grownBy i v.ownBlock->wpList Tryz.prog ops Q rest (a.put o.dst j) i):wpList Tryz.prog ops Q (o::rest) a w :=
 eY _ _ _ 2 16 Tryz.underlying189 AS rfl (by omega) k s x y b v n xs z e ⟨g,0,none⟩ 1 c (prC r) A rfl (by simpa [prC]using bW t) (fun u l=>by simp[prC]at l;rcases l with rfl | rfl <;> rfl) (by omega) (by omega) d
  (fun j i p q _=>h j i p q)
end
theorem fL:∀(a b:List B8) (i j:Nat),(aL a b i j).length<=a.length
 | [],b,i,j=>by rw[jH];exact Nat.zero_le _
 | x::a,[],i,j=>by rw[jI];exact Nat.zero_le _
 | x::a,y::b,i,j=>by
  rw[kz];have d:=fL a b (i+1) (j+1);have e:=fL a (y::b) (i+1) j;have c:=fL (x::a) b i (j+1);simp only[List.length_cons]at c ⊢;split
  .simp only[List.length_cons];omega
  .split <;> omega
termination_by a b=>a.length+b.length
def gR (a b:List B8) (i j:Nat):List (Nat×Nat):=aL (a.drop i) (b.drop j) i j
variable {a b:List B8} {i j:Nat}
theorem tJ (h:a.length<=i\/b.length<=j):gR a b i j=[]:=by
 unfold gR;rcases h with h | h
 .rw [List.drop_of_length_le h,jH]
 .rw [List.drop_of_length_le h,jI]
theorem zd {x y:B8} (h:a[i]? = some x) (k:b[j]? = some y):gR a b i j=if x=y then(i,j)::gR a b (i+1) (j+1)else if dF a b i (j+1)<=dF a b (i+1) j then gR a b (i+1) j else gR a b i (j+1):=by
 obtain⟨e,rfl⟩:=List.getElem?_eq_some_iff.1 h;obtain⟨g,rfl⟩:=List.getElem?_eq_some_iff.1 k;unfold gR dF;have c:=List.drop_eq_getElem_cons e;have d:=List.drop_eq_getElem_cons g;rw[c,d,kz,<-c,<-d];simp only[Int.ofNat_le]
def MatchR (w w':World) (a b:List B8) (e:Ending):Prop :=
 if 200<a.length\/200<b.length then e=.returned (.tuple #[.slice none 0 0,.int .i64 14])else ∃v,e=.returned (.tuple #[v,.int .i64 0])/\w'.ownsRow w.heap.size 214 2 v (aL a b 0 0).length ((aL a b 0 0).flatMap prC)
variable {w w':World} {e:Ending}
theorem MatchR.bad (h:200<a.length\/200<b.length) (c:e=.returned (.tuple #[.slice none 0 0,.int .i64 14])):MatchR w w' a b e:=by unfold MatchR;rw[if_pos h];exact c
theorem MatchR.Ht (h:¬(200<a.length\/200<b.length)) {v:Value} (c:e=.returned (.tuple #[v,.int .i64 0])) (d:w'.ownsRow w.heap.size 214 2 v (aL a b 0 0).length ((aL a b 0 0).flatMap prC)):MatchR w w' a b e:=by unfold MatchR;rw[if_neg h];exact⟨v,c,d⟩
theorem rn (va vb:Value) (a b:List B8) (w:World) (ha:IsStrs w va a) (hb:IsStrs w vb b) :
  Calls Tryz.prog 141 #[va,vb] w fun e w'=>MatchR w w' a b e/\Ext w w':=by
 obtain⟨aa,ac,rfl,l1,l2,l3,X⟩:=ha.get;obtain⟨ba,bc,rfl,r1,r2,r3,Y⟩:=hb.get;have HA:Hid (IsStrs w (.slice aa a.length ac) a):=ha;have HB:Hid (IsStrs w (.slice ba b.length bc) b):=hb;have a0:Hid _:=X;have a1:Hid _:=Y;clear ha hb X Y;go_enter Tryz.func141,Tryz.ntmps141
 by_cases h1:(200:Int)<(a.length:Int)
 case pos =>
  have x:200<a.length\/200<b.length:=by omega
  go_wp2_with fail;go_ret2;exact⟨.bad x rfl,Ext.refl _⟩
 by_cases h2:(200:Int)<(b.length:Int)
 case pos =>
  have x:200<a.length\/200<b.length:=by omega
  go_wp2_with fail;go_ret2;exact⟨.bad x rfl,Ext.refl _⟩
 have p:Hid (¬(200<a.length\/200<b.length)):=by unfold Hid;omega
 go_wp2_with fail;go_at_call 165;refine(uI _ _ a b w HA.out HB.out (by omega) (by omega)).mono ?_;rintro e B ⟨⟨vt,M,rfl,⟨go,G,rfl,hM⟩,hL⟩,av⟩;obtain⟨n,hn⟩:∃n,a.length+1=n:=⟨_,rfl⟩;obtain⟨m,hm⟩:∃m,b.length+1=m:=⟨_,rfl⟩;rw[hn,hm]at hM;rw[hn];have HM:Hid _:=hM;have HL:Hid _:=hL;have r:Hid (Ext w B):=av;have F:Hid (aL a b 0 0=gR a b 0 0):=rfl;obtain⟨P,hP⟩:∃P,aL a b 0 0=P:=⟨_,rfl⟩;rw[hP]at F;have l:Hid _:=hP;have W:P.length<=200:=by rw[<-hP];exact Nat.le_trans (fL _ _ _ _) (by omega)
 clear hM hL av hP h1 h2;go_wp2_with fail;go_loopw [7,8,9] (fun v i j wr=>∃(k q:Nat) (O:List (Nat×Nat)),i=.int .i64 k/\j=.int .i64 q/\k<=a.length/\q<=b.length/\Hid (P=O++gR a b k q)/\Hid (wr.ownsRow B.heap.size 214 2 v O.length (O.flatMap prC))/\Hid (Ext B wr)) (fun _ i j _=>(a.length - (intOf i).toNat)+(b.length - (intOf j).toNat))
 case atStart=>exact⟨0,0,[],rfl,rfl,Nat.zero_le _,Nat.zero_le _,F.out,World.ownsRow_nil _ _ _ _,Ext.refl _⟩
 case round =>
 clear F;obtain⟨k,q,O,rfl,rfl,C,a',N,HO,R⟩:=hrel;have a3:Hid (O.length<=200):=by
  have h:=N.out;rw[h,List.length_append]at W;exact Nat.le_trans (Nat.le_add_right _ _) W
 by_cases h1:(k:Int)<(a.length:Int)
 case neg =>
  have HE:Hid (P=O):=by have h:=N.out;rwa [tJ (.inl (by omega)),List.append_nil]at h
  have HR:Hid (wr.ownsRow w.heap.size 214 2 u7 P.length (P.flatMap prC)):=by rw[HE.out];exact World.ownsRow.mono HO.out r.out.size
  go_wp2_with fail;go_ret2;exact⟨.Ht p.out rfl (by rw[l.out];exact HR.out),r.out.trans R.out⟩
 by_cases h2:(q:Int)<(b.length:Int)
 case neg =>
  have HE:Hid (P=O):=by have h:=N.out;rwa [tJ (.inr (by omega)),List.append_nil]at h
  have HR:Hid (wr.ownsRow w.heap.size 214 2 u7 P.length (P.flatMap prC)):=by rw[HE.out];exact World.ownsRow.mono HO.out r.out.size
  go_wp2_with fail;go_ret2;exact⟨.Ht p.out rfl (by rw[l.out];exact HR.out),r.out.trans R.out⟩
 have H:k<a.length:=by omega
 have I:q<b.length:=by omega
 obtain⟨ab,ao,rfl,ad⟩:=a0.out k H;obtain⟨bb,bo,rfl,ag⟩:=a1.out q I;have T:Hid (Ext w wr):=r.out.trans R.out;have y1:=T.out.cell (ad k H);have y2:=T.out.cell (ag q I);obtain⟨s,hs⟩:∃s,a[k]? = some s:=⟨_,List.getElem?_eq_getElem H⟩;obtain⟨t,ht⟩:∃t,b[q]? = some t:=⟨_,List.getElem?_eq_getElem I⟩;rw[show a.getD k []=s by rw[List.getD_eq_getElem?_getD,hs];rfl]at y1;rw[show b.getD q []=t by rw[List.getD_eq_getElem?_getD,ht];rfl]at y2;have D:Hid _:=zd hs ht;obtain⟨c,hc⟩:∃c,(s==t)=c:=⟨_,rfl⟩;have HC:Hid _:=hc;have bh:IntKind.i64.wrap ((k:Int)+1)=(k:Int)+1:=IntWalk.i64_in _ (by omega);have p6:(0:Int)<=(k:Int)+1:=by omega
 have bi:IntKind.i64.wrap ((q:Int)+1)=(q:Int)+1:=IntWalk.i64_in _ (by omega);have p8:(0:Int)<=(q:Int)+1:=by omega
 clear ad ag hs ht;go_upto_region 8 with fail;apply ak 9 [_,_,_,S8 s,_,_,_,S8 t,.bool c] [none,none,none,none,none,none,none,none,none] [[],[],[0,1],[2],[],[],[4,5],[6],[3,7]] (by kernel_rfl) (by kernel_rfl) (by simp[aq])
 .trivial
 .simp (maxSteps:=1000000)only[List.take_succ_cons,List.take_zero,ay,aB,af,Act.put,List.setIfInBounds_toArray,List.set_cons_zero,List.set_cons_succ,aE,aH,aq,List.getD_cons_zero,List.getD_cons_succ,and_true,true_and,forall_const];and_intros
  iterate 9 · intro xs wq J;intros;rename_i hR;have f1:=J.cell y1;have f2:=J.cell y2;go_simp;exact hR _ _ (Ext.refl _) rfl
 intro xs w3 K C;simp only[aG,Nat.zero_add,Nat.reduceAdd,and_true]at C;simp(maxSteps:=1000000)only[List.take_succ_cons,List.take_zero,List.drop_succ_cons,List.drop_zero,af,Act.put,List.setIfInBounds_toArray,List.set_cons_zero,List.set_cons_succ,Nat.zero_add,Nat.reduceAdd,C];clear C;have A:Hid (Ext B w3):=R.out.trans K;have E:Hid _:=az HO.out K;clear K y1 y2 hc HO R
 cases c with
 | true =>
  have o:Hid (P=(O++[(k,q)])++gR a b (k+1) (q+1)):=by
   have h:=D.out;rw[if_pos (by simpa using HC.out)]at h;rw[N.out,h,List.append_assoc];rfl
  have Z:B.heap.size<=(w3.alloc (.cells #[.int .i64 k,.int .i64 q] 214)).heap.size:=(A.out.alloc _).size
  go_wp2_with (at_builtin;go_must (refine B2 rfl _ _ rfl B.heap.size _ O.length _ rfl (az E.out ((Ext.refl _).alloc _)) w3.heap.size 1 (k,q) rfl (fr:=(0,0)) (ah _ _) (Nat.le_trans a3.out (by decide)) Z ?_;intro v' w8 y ai))
  have a4:Hid (Ext B w8):=aA (A.out.alloc _) (az E.out ((Ext.refl _).alloc _)) ai;have a2:Hid (w8.ownsRow B.heap.size 214 2 v' (O++[(k,q)]).length ((O++[(k,q)]).flatMap prC)):=by
   unfold Hid;rw[List.length_append,List.flatMap_append];exact y
  clear y ai Z;go_roundw
  case rel=>exact⟨k+1,q+1,O++[(k,q)],by go_num,by go_num,by omega,by omega,o.out,a2.out,a4.out⟩
  case measure=>simp[intOf] <;> omega
 | false =>
  have z:Hid (MatW w3 w.heap.size go G n m n M):=HM.out.ext A.out;have g1:=z.out.out (show k<n by omega);have g2:=z.out.out (show k+1<n by omega);unfold lB at g1 g2;have U:=z.out.cell (show k+1<n by omega) (show q<m by omega);have V:=z.out.cell (show k<n by omega) (show q+1<m by omega);rw[HL.out.done (k+1) q (Nat.zero_le _) (by omega) (by omega)]at U;rw[HL.out.done k (q+1) (Nat.zero_le _) (by omega) (by omega)]at V;have o:Hid (P=O++if dF a b k (q+1)<=dF a b (k+1) q then gR a b (k+1) q else gR a b k (q+1)):=by
   have h:=D.out;rw[if_neg (by simpa using HC.out)]at h;unfold Hid;rw[N.out,h]
  obtain⟨u,hu⟩:∃v,dF a b (k+1) q=v:=⟨_,rfl⟩;obtain⟨v,hv⟩:∃v,dF a b k (q+1)=v:=⟨_,rfl⟩;rw[hu]at U o;rw[hv]at V o;obtain⟨gi,am⟩:∃g,G k=g:=⟨_,rfl⟩;obtain⟨gj,au⟩:∃g,G (k+1)=g:=⟨_,rfl⟩;rw[am]at g1 V;rw[au]at g2 U;have a7:(k:Int)<(n:Int):=by omega
  have a5:(k:Int)+1<(n:Int):=by omega
  have a9:(q:Int)<(m:Int):=by omega
  have a6:(q:Int)+1<(m:Int):=by omega
  obtain⟨d,hd⟩:∃d,decide (v<=u)=d:=⟨_,rfl⟩;have HD:Hid _:=hd;clear hu hv am au HC D N;go_upto_region 11 with fail;apply ak 17 [_,_,_,_,.slice (some ⟨gj,0,none⟩) m m,_,_,.int .i64 u,_,_,_,.slice (some ⟨gi,0,none⟩) m m,_,_,_,.int .i64 v,.bool d] [none,none,none,none,none,none,none,none,none,none,none,none,none,none,none,none,none] [[],[],[1],[0,2],[3],[],[4,5],[6],[],[],[8,9],[10],[],[12],[11,13],[14],[7,15]] (by kernel_rfl) (by kernel_rfl) (by simp[aq])
  .trivial
  .simp (maxSteps:=1000000)only[List.take_succ_cons,List.take_zero,ay,aB,af,Act.put,List.setIfInBounds_toArray,List.set_cons_zero,List.set_cons_succ,aE,aH,aq,List.getD_cons_zero,List.getD_cons_succ,and_true,true_and,forall_const];and_intros
   iterate 17 · intro xs wq J;intros;rename_i hR;have f1:=J.cell g1;have f2:=J.cell g2;have f3:=J.cell U;have f4:=J.cell V;go_simp;exact hR _ _ (Ext.refl _) rfl
  intro xs w4 L C;simp only[aG,Nat.zero_add,Nat.reduceAdd,and_true]at C;simp(maxSteps:=1000000)only[List.take_succ_cons,List.take_zero,List.drop_succ_cons,List.drop_zero,af,Act.put,List.setIfInBounds_toArray,List.set_cons_zero,List.set_cons_succ,Nat.zero_add,Nat.reduceAdd,C];clear C;have S:Hid (Ext B w4):=A.out.trans L;have Q:Hid _:=az E.out L;clear L g1 g2 U V hd
  cases d with
  | true =>
   have l:Hid (P=O++gR a b (k+1) q):=by
    have h:=o.out
    rwa [if_pos (by simpa using HD.out)]at h
   go_wp2_with fail;go_roundw
   case rel =>
    exact⟨k+1,q,O,by go_num,rfl,by omega,by omega,l.out,Q.out,S.out⟩
   case measure=>simp[intOf] <;> omega
  | false =>
   have l:Hid (P=O++gR a b k (q+1)):=by
    have h:=o.out
    rwa [if_neg (by simpa using HD.out)]at h
   go_wp2_with fail;go_roundw
   case rel=>exact⟨k,q+1,O,rfl,by go_num,by omega,by omega,l.out,Q.out,S.out⟩
   case measure=>simp[intOf] <;> omega
end
end Go.Proofs.YtgfegpnmlkdjfaaGreatDoor
