/- Contracts of the program's functions and plain laws behind the card. Conditions: as each theorem states. -/
import Derived.Test.YtgfegpnmlkdjfaaGreatDoorZaj
import Derived.Test.YtgfegpnmlkdjfaaGreatDoorZad
set_option linter.unusedVariables false
set_option linter.unusedSimpArgs false
set_option linter.unusedSectionVars false
set_option maxRecDepth 100000
set_option maxHeartbeats 64000000
namespace Go.Proofs.YtgfegpnmlkdjfaaGreatDoor
section
open Go Go.RowKit
def dU:B8:=[115,47,108]
def pA:B8:=[115,47,114]
def bT (n:B8):B8:=[115,47,108,47]++n
def bw (n:B8):B8:=[115,47,114,47]++n
def fJ (id:B8):B8:=id++[10]
def Cn (x:Fi×Int) (old:B8):Int :=
 if x.2=7 then(if old=[]then 0 else 13)else if x.2≠0 then x.2 else if old=[]\/x.1.data≠fJ old then 13 else 0
def Co (m:Fs) (name old:B8):Fs×Int:=((bF m (bw name)).1,Cn (bF m (bw name)).2 old)
def Ei (m:Fs) (name:B8):Fs×Int :=
 if(iZ m (bT name) (bw name) false).2≠0 then iZ m (bT name) (bw name) false else lG (iZ m (bT name) (bw name) false).1
def Ej (x:Fs×Int) (name:B8):Fs×Int :=
 if(if x.2=0 then lG x.1 else x).2≠0 then((dX (if x.2=0 then lG x.1 else x).1 (bT name)).1,(if x.2=0 then lG x.1 else x).2)
 else Ei (if x.2=0 then lG x.1 else x).1 name
def GS (m:Fs) (name old next:B8):Fs×Int :=
 if bM name=false then(m,6)else if aO next=false\/(old≠[]/\aO old=false)then(m,1)
 else if(jj m (bT name) 1 (fJ next)).2≠0 then((jj m (bT name) 1 (fJ next)).1,if(jj m (bT name) 1 (fJ next)).2=8 then 13 else(jj m (bT name) 1 (fJ next)).2)
 else Ej (Co (jj m (bT name) 1 (fJ next)).1 name old) name
def FZ (m:Fs) (name old:B8):Fs×Int :=
 if bM name=false then(m,6)else if aO old=false then(m,1)
 else if(bF m (bw name)).2.2≠0 then((bF m (bw name)).1,(bF m (bw name)).2.2)
 else if(bF m (bw name)).2.1.data≠fJ old then((bF m (bw name)).1,13)
 else if(dX (bF m (bw name)).1 (bw name)).2≠0 then dX (bF m (bw name)).1 (bw name)
 else lG (dX (bF m (bw name)).1 (bw name)).1
def Fv (x:Fi×Int):B8×Int :=
 if x.2≠0 then([],x.2)else if aO (Lib.trimSuffix x.1.data [10])=false\/fJ (Lib.trimSuffix x.1.data [10])≠x.1.data then([],4)else(Lib.trimSuffix x.1.data [10],0)
def GH (m:Fs) (name:B8):Fs×B8×Int:=if bM name=false then(m,[],6)else((bF m (bw name)).1,Fv (bF m (bw name)).2)
def m9 (l:List B8) (a:B8):List B8:=(l.map fun p=>Lib.trimPrefix p (a++[47])).filter bM
def Gp (m:Fs):Fs×List B8×Int:=((cL m pA).1,m9 (cL m pA).2.1 pA,(cL m pA).2.2)
def lT (m:Fs):List B8->Fs×Int
 | []=>(m,0)
 | n::l=>if(dX m (bT n)).2≠0 then dX m (bT n)else lT (dX m (bT n)).1 l
def F3 (m:Fs):Fs×Int×Int :=
 if(cL m dU).2.2≠0 then((cL m dU).1,0,(cL m dU).2.2)
 else if(lT (cL m dU).1 (m9 (cL m dU).2.1 dU)).2≠0 then((lT (cL m dU).1 (m9 (cL m dU).2.1 dU)).1,0,(lT (cL m dU).1 (m9 (cL m dU).2.1 dU)).2)
 else((lT (cL m dU).1 (m9 (cL m dU).2.1 dU)).1,((m9 (cL m dU).2.1 dU).length:Int),0)
end
section
open Go Go.RowKit
def Gh:B8:=[104,101,97,100]
def Ed:B8:=[115,47,114,47,104,101,97,100]
def Gj:B8:=[115,47,108,47,104,101,97,100]
structure Ex (m:Fs) (cur:B8):Prop where
 plan:m.plan=[]
 down:m.down=false
 room:1000<=m.room
 now:(cur=[]/\m.now=[])\/(aO cur=true/\∃t,m.now=[(Ed,⟨1,fJ cur,t⟩)])
end
section
open Go Go.RowKit
variable {k:B8}
theorem zi (h:bM k=true):(47:UInt8)∉k:=by
 intro a;unfold bM at h;simp only[Bool.and_eq_true,Bool.not_eq_true',List.any_eq_false]at h;exact absurd (show gX 47=true by decide) (by simpa using h.1 _ a)
theorem pY {d:B8} {pre:B8} (c:bM k=true) (h:aD (pre++d) (pre++k)=true):False:=by
 obtain⟨r,a⟩:=(ko _ _).1 h;rw[List.append_assoc]at a;have b:=List.append_cancel_left a;exact zi c (by rw[b];simp)
variable {a b:B8}
theorem um:aD (bT a) (bw b)=false:=by
 unfold aD bT bw;simp[List.isPrefixOf]
theorem un:aD (bw a) (bT b)=false:=by
 unfold aD bT bw;simp[List.isPrefixOf]
theorem uq (c:bM b=true):aD (bw a) (bw b)=false:=by
 cases h:aD (bw a) (bw b)with
 | false=>rfl
 | true=>exact(pY c h).elim
theorem BF (c:bM b=true):aD (bT a) (bT b)=false:=by
 cases h:aD (bT a) (bT b)with
 | false=>rfl
 | true=>exact(pY c h).elim
def FW (c:B8->Option B8) (k v:B8):B8->Option B8:=fun x=>if x=k then some v else c x
structure ApF (F:ae) (lk:Option B8) (hv:B8->Option B8) (n:Nat):Prop where
 used:ej F<=100*n
 name:∀k v,hv k=some v->bM k=true/\aO v=true
 lock:∀l,lk=some l->aR (bT l)=true/\(ax F (bT l)).isSome=true
 refs:∀k v,hv k=some v->∃t,ax F (bw k)=some ⟨1,fJ v,t⟩
 all:∀e∈F,(∃k v,hv k=some v/\e.1=bw k)\/∃l,lk=some l/\e.1=bT l
 IB:(aX F).filter (aD dU)=lk.toList.map bT
structure Ap (m:Fs) (lk:Option B8) (hv:B8->Option B8) (n:Nat):Prop where
 plan:m.plan=[]
 down:m.down=false
 room:100000<=m.room
 f:ApF m.now lk hv n
variable {m:Fs} {F:ae} {lk:Option B8} {hv:B8->Option B8} {n:Nat}
theorem Ap.calls (h:Ap m lk hv n) (c:Nat):Ap { m with calls:=c } lk hv n:=⟨h.plan,h.down,h.room,h.f⟩
theorem ApF.may (h:ApF F lk hv n) (i:bM k=true) (g:∀l,lk=some l->aD (bT k) (bT l)=false) (a:B8):jJ F (bT k) a=true:=by
 unfold jJ;rw[Bool.not_eq_true',List.any_eq_false];intro e d;have:aD e.1 (bT k)=false/\aD (bT k) e.1=false:=by
  rcases h.all e d with⟨j,v,c,b⟩ | ⟨l,c,b⟩
  .rw [b];exact⟨un,um⟩
  .rw [b];exact⟨BF i,g l c⟩
 simp[this.1,this.2]
theorem ApF.mayP (h:ApF F lk hv n) (g:bM k=true) (a:B8):jJ F (bw k) a=true:=by
 unfold jJ;rw[Bool.not_eq_true',List.any_eq_false];intro e d;have:aD e.1 (bw k)=false/\aD (bw k) e.1=false:=by
  rcases h.all e d with⟨i,v,c,b⟩ | ⟨l,c,b⟩
  .rw [b];exact⟨uq g,uq (h.name _ _ c).1⟩
  .rw [b];exact⟨um,un⟩
 simp[this.1,this.2]
theorem ApF.mono (h:ApF F lk hv n) {k:Nat} (a:n<=k):ApF F lk hv k:=⟨by have:=h.used;omega,h.name,h.lock,h.refs,h.all,h.IB⟩
def Gz:Option B8->Int
 | some l=>if bM l=true then 1 else 0
 | none=>0
def Gq:Option B8->Option B8
 | some l=>if bM l=true then none else some l
 | none=>none
end
end Go.Proofs.YtgfegpnmlkdjfaaGreatDoor
