/- Contracts of the program's functions and plain laws behind the card. Conditions: as each theorem states. -/
import Derived.Test.YtgfegpnmlkdjfaaGreatDoorZac
import Derived.Test.YtgfegpnmlkdjfaaGreatDoorZae
import Derived.Test.YtgfegpnmlkdjfaaGreatDoorZai
import Derived.Test.YtgfegpnmlkdjfaaGreatDoorZad
import Derived.Test.YtgfegpnmlkdjfaaGreatDoorZag
import Derived.Deep.DeepCutAuto
set_option linter.unusedVariables false
set_option linter.unusedSimpArgs false
set_option linter.unusedSectionVars false
set_option maxRecDepth 100000
set_option maxHeartbeats 64000000
namespace Go.Proofs.YtgfegpnmlkdjfaaGreatDoor
section
open Go Go.RowKit
def lr (p:B8):B8:=Lib.trimSuffix p [47]
def FJ (p:B8):Bool:=bM (lr p) && (decide ((lr p).count 42=0) || (decide ((lr p).count 42=1) && (decide (1<(lr p).length) && (decide ((lr p).head? = some 42) || decide ((lr p).getLast? = some 42)))))
def zM (p s:B8):Bool:=if([42]:B8).isPrefixOf p=true then(p.drop 1).isSuffixOf s else if([42]:B8).isSuffixOf p=true then(p.take (p.length - 1)).isPrefixOf s else p==s
def FK (p:B8):Bool:=([47]:B8).isSuffixOf p
def Fw (rest:B8) (a:Bool) (l:List B8):Bool:=(l.zipIdx).any fun x=>zM rest x.1 && !(a && decide (x.2+1=l.length))
def Fz (l:List B8) (p:B8):Bool:=FJ p && Fw (lr p) (FK p) l
def DV (a:List B8) (s:B8):Bool:=a.any (Fz (dI s))
def FI:List B8->Option (B8×Bool×B8)
 | [x]=>some (x,false,[])
 | [a,b]=>if(a≠[]/\b≠[])\/a++b=[]then none else some (a,true,b)
 | _=>none
def GO (p:B8):Option (B8×Bool×B8):=if bM (lr p)=true then FI (cut 42 (lr p))else none
def F9 (x:B8×Bool×B8) (s:B8):Bool:=if x.2.1=true then decide (x.1.length+x.2.2.length<=s.length) && ((s.take x.1.length==x.1) && (s.drop (s.length - x.2.2.length)==x.2.2))else s==x.1
end
section
open Go Go.RowKit
structure Opn where
 (kind mode keep G3:Int)
 (path dest data:B8)
 (plan:List Ev)
structure Gv (o:Opn):Prop where
 path:o.path.length<=400
 dest:o.dest.length<=400
 It:o.plan.length<=60
 ev:∀e∈o.plan,I64 e.keep/\I64 e.G3/\e.path.length<=400
 keep:I64 o.keep
 G3:I64 o.G3
def E4 (m:Fs) (o:Opn):Fs :=
 if o.kind=0 then(jj m o.path o.mode o.data).1
 else if o.kind=1 then(Ae m o.path o.mode o.data).1
 else if o.kind=2 then(iZ m o.path o.dest false).1
 else if o.kind=3 then(iZ m o.path o.dest true).1
 else if o.kind=4 then(dX m o.path).1
 else if o.kind=5 then(lG m).1
 else if o.kind=6 then(bF m o.path).1
 else if o.kind=7 then(cL m o.path).1
 else if o.kind=8 then(dA m o.path o.mode o.data).1
 else if o.kind=9 then(dS m o.path).1
 else if o.kind=10 then jW m o.keep o.G3
 else if o.kind=11 then CV m
 else if o.kind=12 then ES m o.plan
 else m
structure Good (n:Nat) (m:Fs):Prop where
 ok:OkM m
 plan:Ds m
 It:m.plan.length<=60
 time:m.time<=80*n
 calls:m.calls<=100*n
 Ik:0<=m.room
 Il:m.room<=1073741824
variable {n:Nat} {m:Fs}
theorem Good.left {b:Fs} (h:Good n m) (a:Left m b 61) (c:b.calls<=m.calls+1):Good (n+1) b :=
 ⟨a.ok,⟨by rw[a.plan];exact h.plan.len,by rw[a.plan];exact h.plan.ev⟩,by rw[a.plan];exact h.It,by have:=a.time;have:=h.time;omega,by have:=h.calls;omega,by rw[a.room];exact h.Ik,by rw[a.room];exact h.Il⟩
theorem Good.mono {k:Nat} (h:Good n m) (a:n<=k):Good k m:=⟨h.ok,h.plan,h.It,by have:=h.time;omega,by have:=h.calls;omega,h.Ik,h.Il⟩
end
section
open Go Go.RowKit
theorem rS (x:B8×Fi):∀l:ae,ej (dN x l)=x.2.data.length+ej l
 | []=>by simp[dN,ej]
 | y::r=>by
  unfold dN;split
  .simp [ej]
  .have:=rS x r;simp only[ej,List.map_cons,List.sum_cons]at *;omega
variable {l:ae} {p:B8}
theorem yy (h:∀e∈l,e.1≠p):bu l p=l:=List.filter_eq_self.2 (fun e a=>by simpa using h e a)
theorem mO (h:Rising l) (p:B8):ej (bu l p)+eW l p=ej l:=by
 induction l with
 | nil=>rfl
 | cons y r d =>
  obtain⟨g,i⟩:=List.pairwise_cons.1 h;have d:=d i
  by_cases a:y.1=p
  .have k:bu r p=r:=yy (fun e j=>by rw[<-a];exact(iI (g e j)).symm);have b:bu (y::r) p=r:=by
    unfold bu at *;rw[List.filter_cons,k];simp[a]
   have c:eW (y::r) p=y.2.data.length:=by unfold eW ax;simp[a]
   rw[b,c];simp only[ej,List.map_cons,List.sum_cons];omega
  .have b:bu (y::r) p=y::bu r p:=by unfold bu;rw[List.filter_cons];simp[a]
   have c:eW (y::r) p=eW r p:=by unfold eW ax;simp[a]
   rw[b,c];simp only[ej,List.map_cons,List.sum_cons]at *;omega
theorem rT (h:Rising l) (p:B8) (f:Fi):ej (aF l p f)+eW l p=ej l+f.data.length:=by
 have a:=rS (p,f) (bu l p);have b:=mO h p;unfold aF;simp only at a;omega
variable {f:Fi} {e:B8×Fi}
theorem vG:e∈aF l p f↔e=(p,f)\/(e∈l/\e.1≠p):=by
 unfold aF;rw[jK];simp[bu]
theorem fN:e∈bu l p↔e∈l/\e.1≠p:=by simp[bu]
theorem fP (p:B8):aD p p=false:=by
 cases h:aD p p with
 | false=>rfl
 | true =>
  obtain⟨r,a⟩:=(ko p p).1 h;have:=congrArg List.length a;simp at this
theorem tM {a:B8} (h:jJ l p a=true):∀e∈l,e.1≠a->aD e.1 p=false/\aD p e.1=false:=by
 intro e c b;unfold jJ at h;simp only[Bool.not_eq_true',List.any_eq_false]at h;have:=h e c;simpa [b]using this
structure Fine (r:Int) (b:Prop) (t:Nat) (l:ae):Prop where
 G2:Rising l
 path:∀e∈l,aR e.1=true
 tree:∀x∈l,∀y∈l,aD x.1 y.1=false
 mode:∀e∈l,1<=e.2.mode/\e.2.mode<=3
 time:∀e∈l,0<=e.2.time/\e.2.time<=t
 used:b->(ej l:Int)<=r
variable {r:Int} {t:Nat}
theorem Fine.mono {b c:Prop} {d:Nat} (h:Fine r b t l) (g:c->b) (j:t<=d):Fine r c d l :=
 ⟨h.G2,h.path,h.tree,h.mode,fun e i=>by have:=h.time e i;omega,fun a=>h.used (g a)⟩
theorem Fine.nil {b:Prop} (c:0<=r):Fine r b t [] :=
 ⟨List.Pairwise.nil,fun e a=>(by cases a),fun e a=>(by cases a),fun e a=>(by cases a),fun e a=>(by cases a),fun _=>(by simpa [ej]using c)⟩
theorem Fine.put {b:Prop} (h:Fine r b t l) (q:aR p=true) (o:1<=f.mode/\f.mode<=3) (u:0<=f.time/\f.time<=t) (d:ax l p=none->jJ l p []=true)
  (w:b->(f.data.length:Int)<=r - ej l+eW l p):Fine r b t (aF l p f):=by
 have c:∀e∈aF l p f,e=(p,f)\/(e∈l/\e.1≠p):=fun e a=>vG.1 a
 have g:∀e∈l,aD e.1 p=false/\aD p e.1=false:=by
  intro e a
  cases k:ax l p with
  | none=>exact tM (d k) e a (CP (h.path e a))
  | some z=>exact⟨h.tree e a _ (du k),h.tree _ (du k) e a⟩
 refine⟨h.G2.put p f,fun e a=>?_,fun x i y j=>?_,fun e a=>?_,fun e a=>?_,fun n=>?_⟩
 .rcases c e a with rfl | a
  .exact q
  .exact h.path e a.1
 .rcases c x i with rfl | i <;> rcases c y j with rfl | j
  .exact fP p
  .exact (g y j.1).2
  .exact (g x i.1).1
  .exact h.tree x i.1 y j.1
 .rcases c e a with rfl | a
  .exact o
  .exact h.mode e a.1
 .rcases c e a with rfl | a
  .exact u
  .exact h.time e a.1
 .have:=rT h.G2 p f;have:=w n;omega
theorem Fine.del {b:Prop} (h:Fine r b t l) (p:B8):Fine r b t (bu l p):=by
 have a:∀e∈bu l p,e∈l:=fun e c=>(fN.1 c).1
 refine⟨h.G2.del p,fun e c=>h.path e (a e c),fun x g y i=>h.tree x (a x g) y (a y i),fun e c=>h.mode e (a e c),fun e c=>h.time e (a e c),fun d=>?_⟩;have:=mO h.G2 p;have:=h.used d;omega
theorem Fine.mv {b:Prop} (h:Fine r b t l) {s d:B8} {x:Fi} (q:ax l s=some x) (w:aR d=true) (i:ax l d=none->jJ l d s=true):Fine r b t (aF (bu l s) d x):=by
 have c:∀e∈aF (bu l s) d x,e=(d,x)\/(e∈l/\e.1≠s):=fun e a=>(vG.1 a).imp id (fun h=>fN.1 h.1)
 have g:=du q;have j:∀e∈l,e.1≠s->aD e.1 d=false/\aD d e.1=false:=by
  intro e a o
  cases n:ax l d with
  | none=>exact tM (i n) e a o
  | some z=>exact⟨h.tree e a _ (du n),h.tree _ (du n) e a⟩
 refine⟨(h.G2.del s).put d x,fun e a=>?_,fun x g y k=>?_,fun e a=>?_,fun e a=>?_,fun u=>?_⟩
 .rcases c e a with rfl | a
  .exact w
  .exact h.path e a.1
 .rcases c x g with rfl | g <;> rcases c y k with rfl | k
  .exact fP d
  .exact (j y k.1 k.2).2
  .exact (j x g.1 g.2).1
  .exact h.tree x g.1 y k.1
 .rcases c e a with rfl | a
  .exact h.mode (s,x) g
  .exact h.mode e a.1
 .rcases c e a with rfl | a
  .exact h.time (s,x) g
  .exact h.time e a.1
 .have A:=rT (h.G2.del s) d x;have B:=mO h.G2 s;have C:=h.used u;have D:eW l s=x.data.length:=by unfold eW;rw[q]
  omega
def FineM (m:Fs):Prop:=∀k,Fine m.room (m.users=[]) m.time ((m.pend.take k).foldl ap m.sure)
variable {m:Fs}
theorem FineM.now (h:FineM m) (a:OkM m):Fine m.room (m.users=[]) m.time m.now:=by
 have:=h m.pend.length
 rwa [List.take_length,a.fold]at this
theorem FineM.same {a:Fs} (h:FineM m) (b:a.sure=m.sure) (c:a.pend=m.pend) (d:a.room=m.room) (e:a.users=m.users) (g:a.time=m.time):FineM a:=by
 intro k;rw[b,c,d,e,g];exact h k
def Gm (a:Int) (l:List Opn):Fs:=l.foldl E4 (A4 a)
end
section
open Go Go.RowKit
theorem tr (p q:B8) (f:Fi) (a:q≠p):∀r:ae,(dN (q,f) r).find? (fun e=>e.1==p)=r.find? (fun e=>e.1==p)
 | []=>by simp[dN,a]
 | y::r=>by
  unfold dN;split
  .have b:(q==p)=false:=by simpa using a
   rw[List.find?_cons];simp only[b]
  .rw [List.find?_cons,List.find?_cons,tr p q f a r]
variable {l:ae} {p q:B8}
theorem jF (a:q≠p):ax (bu l q) p=ax l p:=by
 unfold ax bu;rw[List.find?_filter];congr 2;funext e
 by_cases h:e.1=p
 .simp [h,Ne.symm a]
 .simp [h]
theorem cQ {f:Fi} (a:q≠p):ax (aF l q f) p=ax l p:=by
 have b:=jF (l:=l) a;unfold aF;rw[<-b];unfold ax;rw[tr p q f a]
theorem kH (l:ae) (p:B8):ax (bu l p) p=none:=by
 unfold ax bu;rw[List.find?_filter];simp
def Fe (p:B8):Ch->Prop
 | .put q _=>q≠p
 | .mv s d=>s≠p/\d≠p
 | .del q=>q≠p
variable {m:Fs}
theorem yj (b:m.plan=[]) (a:m.down=false):cd m=({ m with calls:=m.calls+1 },false,0):=by
 unfold cd;rw[b];simp[a]
structure Stays (p:B8) (v:Option Fi) (m:Fs):Prop where
 plan:m.plan=[]
 down:m.down=false
 all:∀k,ax ((m.pend.take k).foldl ap m.sure) p=v
 I6:∀c∈m.pend,Fe p c
theorem Stays.now {v:Option Fi} (a:OkM m) (h:Stays p v m):ax m.now p=v:=by
 have:=h.all m.pend.length
 rwa [List.take_length,a.fold]at this
structure Gt (F:ae) (m:Fs):Prop where
 plan:m.plan=[]
 down:m.down=false
 sure:m.sure=F
end
section
open Go Go.RowKit
def GB (c:UInt8):Int:=if 48<=c.toNat/\c.toNat<=57 then c.toNat - 48 else if 97<=c.toNat/\c.toNat<=102 then c.toNat - 87 else -1
end
section
open Go Go.RowKit
end
section
open Go Go.RowKit
def GJ (rest:B8) (a:Bool) (n:Nat) (x:B8×Nat):Bool:=zM rest x.1 && !(a && decide (x.2+1=n))
end
end Go.Proofs.YtgfegpnmlkdjfaaGreatDoor
