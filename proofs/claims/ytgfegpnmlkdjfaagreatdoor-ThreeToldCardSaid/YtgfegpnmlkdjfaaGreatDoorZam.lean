/- Contracts of the program's functions and plain laws behind the card. Conditions: as each theorem states. -/
import Derived.Test.YtgfegpnmlkdjfaaGreatDoorZal
import Derived.Test.YtgfegpnmlkdjfaaGreatDoorZah
import Derived.Test.YtgfegpnmlkdjfaaGreatDoorZaj
set_option linter.unusedVariables false
set_option linter.unusedSimpArgs false
set_option linter.unusedSectionVars false
set_option maxRecDepth 100000
set_option maxHeartbeats 64000000
namespace Go.Proofs.YtgfegpnmlkdjfaaGreatDoor
section
open Go Go.RowKit
def xX (l:List Ev):Prop:=∀e∈l,e.kind≠4/\e.kind≠5
structure Sf (X:ae->Prop) (m:Fs):Prop where
 user:xX m.plan
 room:100000<=m.room
 now:X m.now
 dn:m.down=true->m.sure=m.now/\m.pend=[]
 up:m.down=false->∀keep torn,X (jw m keep torn)
variable {X Y:ae->Prop} {m:Fs}
theorem Sf.mono (h:Sf X m) (a:∀F,X F->Y F):Sf Y m:=⟨h.user,h.room,a _ h.now,h.dn,fun b k t=>a _ (h.up b k t)⟩
variable {F:ae} {hv:B8->Option B8} {n:Nat}
def XA (hv:B8->Option B8) (k:B8) (n:Nat) (F:ae):Prop:=ApF F none hv n\/ApF F (some k) hv n
def XB (hv:B8->Option B8) (k b:B8) (n:Nat) (F:ae):Prop:=ApF F none (FW hv k b) n
def XAB (hv:B8->Option B8) (k b:B8) (n:Nat) (F:ae):Prop:=XA hv k n F\/XB hv k b n F
structure Mid1 (F:ae) (k b:B8) (t:Int) (m:Fs):Prop where
 now:m.now=aF F (bT k) ⟨1,fJ b,t⟩
 sure:m.sure=F
 pend:m.pend=[.put (bT k) ⟨1,fJ b,t⟩]
theorem Mid1.calls {k b:B8} {t:Int} (h:Mid1 F k b t m) (c:Nat):Mid1 F k b t { m with calls:=c }:=⟨h.now,h.sure,h.pend⟩
def isF (F:ae) (k id:B8):Bool:=if id=[]then(ax F (bw k)).isNone else match ax F (bw k)with | some x=>x.data==fJ id | none=>false
end
section
open Go Go.RowKit
def fZ:B8:=[115,47,116]
def bP (id:B8):B8:=[115,47,111,47]++id
def Ef (x:Fs×Int) (id:B8):Fs×B8×Int :=
 if x.2≠0 then(x.1,[],x.2)else if(iZ x.1 fZ (bP id) false).2≠0 then((iZ x.1 fZ (bP id) false).1,[],(iZ x.1 fZ (bP id) false).2)
 else((iZ x.1 fZ (bP id) false).1,id,0)
def Bk (m:Fs) (b:B8):Fs×B8×Int :=
 if 20000<b.length then(m,[],3)
 else if(bF m (bP (aC b))).2.2=0/\(bF m (bP (aC b))).2.1.data=b then((bF m (bP (aC b))).1,aC b,0)
 else if(bF m (bP (aC b))).2.2=0/\aC (bF m (bP (aC b))).2.1.data=aC b then((bF m (bP (aC b))).1,[],5)
 else if(bF m (bP (aC b))).2.2≠0/\(bF m (bP (aC b))).2.2≠7 then((bF m (bP (aC b))).1,[],(bF m (bP (aC b))).2.2)
 else Ef (Ae (bF m (bP (aC b))).1 fZ 1 b) (aC b)
def XO (F:ae):Prop:=∀e∈F,e.1=fZ\/e.1=bP (aC e.2.data)
def ChO:Ch->Prop
 | .put p _=>p=fZ
 | .mv s _=>s=fZ
 | .del _=>False
structure Wh (m:Fs) (told:List B8):Prop where
 user:xX m.plan
 now:XO m.now
 dn:m.down=true->m.sure=m.now/\m.pend=[]
 up:m.down=false->(∀k,XO ((m.pend.take k).foldl ap m.sure))/\(∀c∈m.pend,ChO c)/\∀id∈told,(ax m.now (bP id)).isSome=true
end
section
open Go Go.RowKit
def nk (m:Fs) (o:Ob):Fs×B8×Int:=if(bz o).2≠0 then(m,[],(bz o).2)else Bk m (bz o).1
def wY (m:Fs) (id:B8):Fs×B8×Int :=
 if aO id=false then(m,[],6)
 else if(bF m (bP id)).2.2≠0 then((bF m (bP id)).1,[],(bF m (bP id)).2.2)
 else if aC (bF m (bP id)).2.1.data≠id then((bF m (bP id)).1,[],5)
 else((bF m (bP id)).1,(bF m (bP id)).2.1.data,0)
def GI (n:Int) (id:B8):Int:=if aO id=true then n+1 else n
def Gf (m:Fs) (id:B8):Fs×Int:=if aO id=false then(m,6)else dX m (bP id)
def F7 (m:Fs):Fs×Int:=if(dX m fZ).2≠7 then dX m fZ else((dX m fZ).1,0)
def DR (m:Fs) (id:B8):Bool:=decide ((wY m id).2.2=0)
end
section
open Go Go.RowKit
end
section
open Go Go.RowKit
def nf (l:ae) (p:B8):B8:=match ax l p with
 | some f=>f.data
 | none=>[]
structure Rw where
 path:B8
 mode:Int
 id:B8
def sr (d:B8):Ob:=⟨1,d,[],[],[],0,0,[]⟩
def zT (a:ae) (wr:Int) (p:B8) (t:Int):Bool:=match ax a p with
 | some k=>decide (k.time=t) && decide (k.time<wr)
 | none=>false
def yK (m:Fs) (d:B8):Fs×Nat×B8×Int:=if 4096<d.length then(m,0,[],3)else((nk m (sr d)).1,1,(nk m (sr d)).2.1,(nk m (sr d)).2.2)
def lf (m:Fs) (a:ae) (wr:Int) (p:B8) (f:Fi):Fs×Nat×B8×Int :=
 if zT a wr p f.time=true then
  if DR m (nf a p)=true then((wY m (nf a p)).1,0,nf a p,0)else yK (wY m (nf a p)).1 f.data
 else yK m f.data
structure Sc where
 m:Fs
 rows:List Rw
 ix:ae
 n:Nat
def et:B8:=[119,47]
def wP:B8:=[119]
def gY (p:B8):B8:=Lib.trimPrefix p et
def AN (a:ae) (wr:Int) (x:Sc) (p:B8) (r:Fs×Fi):Sc×Int :=
 if(lf r.1 a wr (gY p) r.2).2.2.2≠0 then({ x with m:=(lf r.1 a wr (gY p) r.2).1 },(lf r.1 a wr (gY p) r.2).2.2.2)
 else(⟨(lf r.1 a wr (gY p) r.2).1,x.rows++[⟨gY p,r.2.mode,(lf r.1 a wr (gY p) r.2).2.2.1⟩],aF x.ix (gY p) ⟨0,(lf r.1 a wr (gY p) r.2).2.2.1,r.2.time⟩,x.n+(lf r.1 a wr (gY p) r.2).2.1⟩,0)
def oK (b:ae) (wr:Int) (a:List B8) (x:Sc) (p:B8):Sc×Int :=
 if DV a (gY p)=true then(x,0)
 else if 256<=x.rows.length then(x,14)
 else if(bF x.m p).2.2=7 then({ x with m:=(bF x.m p).1 },0)
 else if(bF x.m p).2.2≠0 then({ x with m:=(bF x.m p).1 },(bF x.m p).2.2)
 else AN b wr x p ((bF x.m p).1,(bF x.m p).2.1)
def BS (b:ae) (wr:Int) (a:List B8):List B8->Sc->Sc×Int
 | [],x=>(x,0)
 | p::l,x=>if(oK b wr a x p).2≠0 then oK b wr a x p else BS b wr a l (oK b wr a x p).1
def pL (m:Fs) (b:ae) (wr:Int) (a:List B8):Sc×Int :=
 if(cL m wP).2.2≠0 then(⟨(cL m wP).1,[],[],0⟩,(cL m wP).2.2)else BS b wr a (cL m wP).2.1 ⟨(cL m wP).1,[],[],0⟩
def XW (F:ae):Prop:=∀e∈F,aD wP e.1=true\/e.1=fZ\/e.1=bP (aC e.2.data)
structure Ca (m:Fs):Prop where
 plan:m.plan=[]
 down:m.down=false
 ok:OkM m
 xw:XW m.now
def SameW (F G:ae):Prop:=(∀p,aD wP p=true->ax G p=ax F p)/\(aX G).filter (aD wP)=(aX F).filter (aD wP)
def wy (F:ae) (id:B8):Prop:=∃f,ax F (bP id)=some f/\aC f.data=id
theorem SameW.refl (F:ae):SameW F F:=⟨fun _ _=>rfl,rfl⟩
theorem SameW.trans {F G H:ae} (h:SameW F G) (k:SameW G H):SameW F H:=⟨fun p a=>(k.1 p a).trans (h.1 p a),k.2.trans h.2⟩
structure Goes (m m':Fs):Prop where
 ca:Ca m'
 same:SameW m.now m'.now
 time:m.time<=m'.time
 has:∀id,wy m.now id->wy m'.now id
theorem Goes.trans {a b c:Fs} (h:Goes a b) (k:Goes b c):Goes a c:=⟨k.ca,h.same.trans k.same,Nat.le_trans h.time k.time,fun id d=>k.has id (h.has id d)⟩
variable {m:Fs}
theorem Bc (h:OkM m) (c:Nat):OkM { m with calls:=c }:=h.same rfl rfl rfl h.He (Nat.le_refl _)
theorem Ca.calls (h:Ca m) (c:Nat):Ca { m with calls:=c }:=⟨h.plan,h.down,Bc h.ok c,h.xw⟩
theorem Ca.call (h:Ca m):cd m=({ m with calls:=m.calls+1 },false,0):=yj h.plan h.down
def mZ (d:B8):B8:=aC (1::d)
def Gs (F:ae) (a:ae):Prop:=∀p k,ax a p=some k->∀f,ax F (et++p)=some f->f.time=k.time->k.data=mZ f.data
def E1 (F:ae) (p:B8):Rw:=match ax F p with
 | some f=>⟨gY p,f.mode,mZ f.data⟩
 | none=>⟨gY p,0,[]⟩
def Em (a:List B8) (l:List B8):List B8:=l.filter fun p=>!DV a (gY p)
structure Gx (m0:Fs) (F:ae) (x:Sc):Prop where
 goes:Goes m0 x.m
 same:SameW F x.m.now
 rows:∀r∈x.rows,wy x.m.now r.id/\∃d,r.id=mZ d
 ix:∀p k,ax x.ix p=some k->∃f,ax F (et++p)=some f/\k.time=f.time/\k.data=mZ f.data
end
end Go.Proofs.YtgfegpnmlkdjfaaGreatDoor
