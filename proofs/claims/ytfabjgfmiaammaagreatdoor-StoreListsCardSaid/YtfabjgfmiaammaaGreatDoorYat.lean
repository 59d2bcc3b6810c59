/- Contracts of the program's functions and plain laws behind the card. Conditions: as each theorem states. -/
import Derived.Test.YtfabjgfmiaammaaGreatDoorYas
import Derived.Test.YtfabjgfmiaammaaGreatDoorYan
import Derived.Test.YtfabjgfmiaammaaGreatDoorYam
set_option linter.unusedVariables false
set_option linter.unusedSimpArgs false
set_option linter.unusedSectionVars false
set_option maxRecDepth 100000
set_option maxHeartbeats 64000000
namespace Go.Proofs.YtfabjgfmiaammaaGreatDoor
section
open Go Go.RowKit
variable {X Y:ax->Prop} {m:Fs}
variable {F:ax} {hv:B8->Option B8} {n:Nat}
end
section
open Go Go.RowKit
def bO:B8:=[115,47,116]
def ai (id:B8):B8:=[115,47,111,47]++id
def df (x:Fs×Int) (id:B8):Fs×B8×Int :=
 if x.2≠0 then(x.1,[],x.2)else if(aP x.1 bO (ai id) false).2≠0 then((aP x.1 bO (ai id) false).1,[],(aP x.1 bO (ai id) false).2)
 else((aP x.1 bO (ai id) false).1,id,0)
def bQ (m:Fs) (b:B8):Fs×B8×Int :=
 if 20000<b.length then(m,[],3)
 else if(aF m (ai (aR b))).2.2=0/\(aF m (ai (aR b))).2.1.data=b then((aF m (ai (aR b))).1,aR b,0)
 else if(aF m (ai (aR b))).2.2=0/\aR (aF m (ai (aR b))).2.1.data=aR b then((aF m (ai (aR b))).1,[],5)
 else if(aF m (ai (aR b))).2.2≠0/\(aF m (ai (aR b))).2.2≠7 then((aF m (ai (aR b))).1,[],(aF m (ai (aR b))).2.2)
 else df (bG (aF m (ai (aR b))).1 bO 1 b) (aR b)
end
section
open Go Go.RowKit
def dj (m:Fs) (o:Ob):Fs×B8×Int:=if(aW o).2≠0 then(m,[],(aW o).2)else bQ m (aW o).1
def bj (m:Fs) (id:B8):Fs×B8×Int :=
 if al id=false then(m,[],6)
 else if(aF m (ai id)).2.2≠0 then((aF m (ai id)).1,[],(aF m (ai id)).2.2)
 else if aR (aF m (ai id)).2.1.data≠id then((aF m (ai id)).1,[],5)
 else((aF m (ai id)).1,(aF m (ai id)).2.1.data,0)
def ck (n:Int) (id:B8):Int:=if al id=true then n+1 else n
def dB (m:Fs) (id:B8):Fs×Int:=if al id=false then(m,6)else bD m (ai id)
def dW (m:Fs):Fs×Int:=if(bD m bO).2≠7 then bD m bO else((bD m bO).1,0)
def gM (m:Fs) (id:B8):Bool:=decide ((bj m id).2.2=0)
end
section
open Go Go.RowKit
end
section
open Go Go.RowKit
end
end Go.Proofs.YtfabjgfmiaammaaGreatDoor
