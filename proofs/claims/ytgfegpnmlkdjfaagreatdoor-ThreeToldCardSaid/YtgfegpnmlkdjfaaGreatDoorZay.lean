/- Contracts of the program's functions and plain laws behind the card. Conditions: as each theorem states. -/
import Derived.Test.YtgfegpnmlkdjfaaGreatDoorZaq
import Derived.Test.YtgfegpnmlkdjfaaGreatDoorZau
import Derived.Test.YtgfegpnmlkdjfaaGreatDoorZax
import Derived.Test.YtgfegpnmlkdjfaaGreatDoorZar
import Derived.Test.YtgfegpnmlkdjfaaGreatDoorZaw
import Derived.Test.YtgfegpnmlkdjfaaGreatDoorZas
import Derived.Test.YtgfegpnmlkdjfaaGreatDoorZae
import Derived.Test.YtgfegpnmlkdjfaaGreatDoorZaj
set_option linter.unusedVariables false
set_option linter.unusedSimpArgs false
set_option linter.unusedSectionVars false
set_option maxRecDepth 100000
set_option maxHeartbeats 64000000
namespace Go.Proofs.YtgfegpnmlkdjfaaGreatDoor
section
open Go Go.RowKit
abbrev En:=Int×B8
def fiE (e:En):Fi:=⟨e.1,e.2,0⟩
def enL (m:ae) (p:B8):En:=match ax m p with
 | some f=>(f.mode,f.data)
 | none=>(0,[])
def byP (l:List Rw):ae:=l.foldl (fun m r=>aF m r.path (fiE (r.mode,r.id))) []
def cE (m:ae) (p:B8):Bool:=(ax m p).isSome
def bU (e:En):Bool:=decide (e.1=1) || decide (e.1=2)
def grE (a b:En):Bool:=ltB b.2 a.2 || ((a.2==b.2) && decide (b.1<a.1))
def aN (a b:En):En×En:=if grE a b=true then(a,b)else(b,a)
def dg (o a b:En):Int :=
 if(a.1=2/\b.1=2)\/((a.1=2\/b.1=2)/\o.1≠2)then 2 else 1
def al (o a b:En):En×Int :=
 if a=b then(a,1)else if o=a then(b,2)else if o=b then(a,2)else if a.1=0 then(b,4)else if b.1=0 then(a,4)
 else if(bU o && (bU a && bU b))=true then((dg o a b,[]),3)else((aN a b).1,5)
structure Mg where
 out:ae
 GV:List Rw
 notes:List (B8×Int)
def dC (s:Mg) (p:B8) (a b:En):Mg:=⟨aF s.out p (fiE (aN a b).1),s.GV++[⟨p,(aN a b).2.1,(aN a b).2.2⟩],s.notes++[(p,1)]⟩
def aU (o a b:ae) (s:Mg) (p:B8):Mg :=
 if(al (enL o p) (enL a p) (enL b p)).2=5 then dC s p (enL a p) (enL b p)
 else⟨if(al (enL o p) (enL a p) (enL b p)).1.1=0 then s.out else aF s.out p (fiE (al (enL o p) (enL a p) (enL b p)).1),s.GV,
  if(al (enL o p) (enL a p) (enL b p)).2=4 then s.notes++[(p,2)]else s.notes⟩
def de (a:ae) (p:B8):Bool:=a.any fun e=>aD p e.1
def cV (o a b c:ae) (p:B8):Bool :=
 (aR (et++p) && !(cE c p || (cE o p || (cE a p || (cE b p || de c p))))) && (cn p).all fun q=>!cE c q
def ct (p id:B8) (n:Nat):B8:=p++[126]++id.take 8++List.replicate n 126
def aV (o a b c:ae) (r:Rw):Nat->Option ae
 | 0=>none
 | k+1=>if cV o a b c (ct r.path r.id (20 - k))=true then some (aF c (ct r.path r.id (20 - k)) (fiE (r.mode,r.id)))else aV o a b c r k
def a8 (o a b:ae):List Rw->ae->Option ae
 | [],c=>some c
 | r::l,c=>match aV o a b c r 21 with
  | none=>none
  | some d=>a8 o a b l d
def be (o a b:ae):List Rw->ae->List (B8×Int)->Option (ae×List (B8×Int))
 | [],c,n=>some (c,n)
 | r::l,c,n=>if de c r.path=true then(match aV o a b (bu c r.path) r 21 with
  | none=>none
  | some d=>be o a b l d (n++[(r.path,3)]))else be o a b l c n
def aI (a:ae):List Rw:=a.map fun e=>⟨e.1,e.2.mode,e.2.data⟩
def ky (y:Option (ae×List (B8×Int))):Option (ae×List (B8×Int)):=match y with
 | none=>none
 | some x=>if x.1.length>256 then none else some x
def iD (o a b:ae) (n:List (B8×Int)) (c:Option ae):Option (ae×List (B8×Int)):=match c with
 | none=>none
 | some d=>ky (be o a b (aI d) d n)
def eH (o a b:ae) (c:List B8):Mg:=c.foldl (aU o a b) ⟨[],[],[]⟩
def dJ (o a b:ae) (c:List B8):Option (ae×List (B8×Int)) :=
 iD o a b (eH o a b c).notes (a8 o a b (eH o a b c).GV (eH o a b c).out)
def kC (o a b:List Rw):Prop:=∀p,(al (aj o p) (aj a p) (aj b p)).2≠3
theorem Cj (m:ae) (p q:B8) (f:Fi):enL (aF m p f) q=if q=p then(f.mode,f.data)else enL m q:=by
 unfold enL
 by_cases h:q=p
 .subst h;rw[if_pos rfl,dv]
 .rw [if_neg h,cQ (fun e=>h e.symm)]
theorem nz:∀(l:List Rw) (m:ae) (p:B8),cK l->enL (l.foldl (fun m r=>aF m r.path (fiE (r.mode,r.id))) m) p=if(∃r∈l,r.path=p)then aj l p else enL m p
 | [],m,p,_=>by rw[if_neg (by rintro⟨r,b,-⟩;cases b)];rfl
 | r::l,m,p,h=>by
  have i:=List.pairwise_cons.1 h;rw[List.foldl_cons,nz l _ p i.2,Cj];have j:aj (r::l) p=if r.path=p then(r.mode,r.id)else aj l p:=by
   unfold aj;rw[List.find?_cons]
   by_cases b:r.path=p
   .rw [if_pos b,show(r.path==p)=true by simpa using b]
   .rw [if_neg b,show(r.path==p)=false by simpa using b]
  by_cases d:∃x∈l,x.path=p
  .obtain ⟨x,c,a⟩:=d;have g:r.path≠p:=fun k=>fp (i.1 x c) (k.trans a.symm)
   rw[if_pos ⟨x,c,a⟩,if_pos ⟨x,List.mem_cons_of_mem _ c,a⟩,j,if_neg g]
  .rw [if_neg d]
   by_cases b:r.path=p
   .rw [if_pos b.symm,if_pos ⟨r,List.mem_cons_self,b⟩,j,if_pos b];rfl
   .rw [if_neg (fun e=>b e.symm),if_neg];rintro⟨x,c,a⟩;rcases List.mem_cons.1 c with rfl | c
    .exact b a
    .exact d ⟨x,c,a⟩
variable {l:List Rw}
theorem cN (h:cK l) (p:B8):enL (byP l) p=aj l p:=by
 unfold byP;rw[nz l [] p h]
 by_cases a:∃r∈l,r.path=p
 .rw [if_pos a]
 .rw [if_neg a];have:=eK (l:=l) (p:=p) (fun x c b=>a ⟨x,c,b⟩);rw[this];rfl
theorem Aq {k:Nat} {x:Rw} (h:l[k]? = some x):byP (l.take (k+1))=aF (byP (l.take k)) x.path (fiE (x.mode,x.id)):=by
 unfold byP;rw[cC h,List.foldl_append];rfl
theorem B9 (l:List Rw):(byP l).length<=l.length:=by
 have h:∀(l:List Rw) (m:ae),(l.foldl (fun m r=>aF m r.path (fiE (r.mode,r.id))) m).length<=m.length+l.length:=by
  intro l
  induction l with
  | nil=>intro m;exact Nat.le_refl _
  | cons r l a =>
   intro m;have b:=a (aF m r.path (fiE (r.mode,r.id)));have c:=bL m r.path (fiE (r.mode,r.id));rw[List.foldl_cons,List.length_cons];omega
 have:=h l [];rw[List.length_nil,Nat.zero_add]at this;exact this
theorem gT (o a b:ae) (r:Rw):∀(k:Nat) (d c:ae),aV o a b d r k=some c->c.length<=d.length+1
 | 0,d,c,h=>by cases h
 | k+1,d,c,h=>by
  unfold aV at h;split at h
  .cases h;exact bL _ _ _
  .exact gT o a b r k d c h
end
section
open Go Go.RowKit Go.Sort
section
variable {ops:Array Oper} {rest:List Oper} {o:Oper} {a:Act} {Q:Exit->Act->World->Prop} {w:World} {V:Fi->Value}
end
theorem IsMG.swap {V a:Fi->Value} {w:World} {b:Nat} {l:ae} (h:IsMG V w b l) (d:∀e∈l,V e.2=a e.2):IsMG a w b l:=by
 have c:cX V l=cX a l:=by
  unfold cX;congr 1;exact List.map_congr_left fun e c=>by unfold enG;rw[d e c]
 exact⟨c▸h.map⟩
def atV (a:List Value) (f:Fi):Value:=a.getD f.time.toNat (.slice none 0 0)
def fiN (n:Nat):Fi:=⟨0,[],n⟩
def obT (m:Int) (a id:B8):Ob:=⟨2,[],[⟨m,a,id⟩],[],[],0,0,[]⟩
def GR (m:Int) (id:B8):List Rw:=[⟨[97,47,98],m,id⟩]
end
section
open Go Go.RowKit
theorem pw {p:B8} (h:aR (et++p)=true):aR p=true:=by
 unfold aR at h ⊢;have a:cut 47 (et++p)=[119]::cut 47 p:=iW 47 [119] p;rw[a,List.length_append]at h;simp only[Bool.and_eq_true,decide_eq_true_eq,List.all_cons,List.length_cons]at h ⊢;refine⟨?_,h.2.1.2,by omega⟩;have:=h.1;omega
def EJ (l:List Rw) (i:Nat) (x:Rw):Bool:=(an [x] && (decide (i=0) || ltB (l.getD (i - 1) zRw).path x.path))
def EK (l:List Rw) (n:Nat) (x:Rw):Bool:=(l.take n).all fun r=>!Ey x.path r.path
def DQ (l:List Rw) (i:Nat) (x:Rw):Bool:=EJ l i x && EK l l.length x
def Gg (l:List Rw) (n:Nat):Bool:=(List.range n).all fun i=>DQ l i (l.getD i zRw)
theorem Gc (x:Rw):an [x]=dl [x] 0 x:=by
 unfold an cO;simp[fe]
theorem xj {l:List Rw} {k:Nat} {x:Rw} (h:dl l k x=true):aR (et++x.path)=true:=by
 unfold dl at h;exact((Bool.and_eq_true _ _).mp h).1
end
section
open Go Go.RowKit Go.Sort
theorem IsRws.one {w:World} {b o n e k:Nat} {l:List Rw} {x:Rw} (h:IsRws w (.slice (some ⟨b,o,none⟩) l.length e) l) (j:l[k]? = some x):IsRws w (.slice (some ⟨b,o+k*3,none⟩) 1 (e - k)) [x]:=by
 have D:=(List.getElem?_eq_some_iff.1 j).1;obtain⟨a,c,g,A,B,C,y⟩:=h.cells;simp only[Value.slice.injEq,true_and]at g;obtain⟨rfl,rfl⟩:=g;obtain⟨z,E,t,p,q,r⟩:=y k x j;cases t;refine⟨_,_,rfl,by show 1<=_;omega,by omega,by show 1<=_;omega,fun _=>⟨b,o+k*3,rfl,fun i u d=>?_⟩⟩;have d:[S8 x.path,.int .i64 x.mode,S8 x.id][i]? = some u:=by simpa [rwC]using d
 match i,d with
 | 0,d=>cases d;exact p
 | 1,d=>cases d;exact q
 | 2,d=>cases d;exact r
 | i+3,d=>simp at d
end
section
open Go Go.RowKit Go.Sort
def Fx:B8:=aC [120]
def e16:B8×Int:=bz (obT 1 [98] Fx)
def t16:B8:=aC e16.1
def g16:B8×Int:=bz (obT 4 [97] t16)
def u16:B8:=aC g16.1
end
end Go.Proofs.YtgfegpnmlkdjfaaGreatDoor
