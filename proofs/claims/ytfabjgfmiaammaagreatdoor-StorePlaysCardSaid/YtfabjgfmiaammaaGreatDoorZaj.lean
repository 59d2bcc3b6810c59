/- Contracts of the program's functions and plain laws behind the card. Conditions: as each theorem states. -/
import Derived.Test.YtfabjgfmiaammaaGreatDoorZaa
import Derived.Test.YtfabjgfmiaammaaGreatDoorZab
import Derived.Test.YtfabjgfmiaammaaGreatDoorZae
import Derived.Lib.EndianBits
import Derived.Deep.DeepCutAuto
import Derived.Test.YtfabjgfmiaammaaGreatDoorZah
import Derived.Test.YtfabjgfmiaammaaGreatDoorZaf
import Derived.Lib.AppendStr
import Derived.Test.YtfabjgfmiaammaaGreatDoorZag
set_option linter.unusedVariables false
set_option linter.unusedSimpArgs false
set_option linter.unusedSectionVars false
set_option maxRecDepth 100000
set_option maxHeartbeats 64000000
namespace Go.Proofs.YtfabjgfmiaammaaGreatDoor
section
open Go Go.RowKit
def am (n:Nat):B8:=if 127<n then UInt8.ofNat (n%128+128)::am (n / 128)else[UInt8.ofNat n]
termination_by n
decreasing_by omega
def be:Nat:=72057594037927936
def putW (n:Int):B8×Int:=if n<0\/(be:Int)<n then([],1)else(am n.toNat,0)
def cI (l:B8):Nat:=(l.takeWhile fun c=>decide (127<c.toNat)).length
def dJ:B8->Nat
 | []=>0
 | c::l=>c.toNat%128+128*dJ l
def cO (l:B8):Nat×Nat×Int :=
 if cI l=l.length then(0,0,2)
 else if 9<cI l+1 then(0,0,4)
 else if be<dJ (l.take (cI l+1))\/am (dJ (l.take (cI l+1)))≠l.take (cI l+1)then(0,0,4)
 else(dJ (l.take (cI l+1)),cI l+1,0)
variable {n:Nat}
theorem dY (h:n<=127):am n=[UInt8.ofNat n]:=by
 rw[am,if_neg (by omega)]
theorem gJ (h:127<n):am n=UInt8.ofNat (n%128+128)::am (n / 128):=by
 rw[am,if_pos h]
theorem yw (n:Nat):1<=(am n).length:=by
 by_cases h:127<n
 .rw [gJ h,List.length_cons];omega
 .rw [dY (by omega)];exact Nat.le_refl _
theorem rg:∀(k n:Nat),n<128 ^ k->1<=k->(am n).length<=k
 | 0,n,_,h=>by omega
 | k+1,n,b,_=>by
  by_cases h:127<n
  .rw [gJ h,List.length_cons];have a:n / 128<128 ^ k:=by
    rw[Nat.pow_succ]at b;omega
   have c:1<=k:=by
    cases k with
    | zero=>simp at a;omega
    | succ k=>omega
   have:=rg k (n / 128) a c;omega
  .rw [dY (by omega)];simp
theorem bF (h:n<=be):(am n).length<=9:=rg 9 n (by unfold be at h;omega) (by omega)
theorem tD:∀(k n:Nat),n<128 ^ k->dJ (am n)=n
 | 0,n,h=>by
  have:n=0:=by simp at h;omega
  subst this;rw[dY (by omega)];rfl
 | k+1,n,a=>by
  by_cases h:127<n
  .rw [gJ h];have b:n / 128<128 ^ k:=by
    rw[Nat.pow_succ]at a;omega
   show(UInt8.ofNat (n%128+128)).toNat%128+128*dJ (am (n / 128))=n;rw[tD k _ b,UInt8.toNat_ofNat'];omega
  .rw [dY (by omega)];show(UInt8.ofNat n).toNat%128+128*0=n;rw[UInt8.toNat_ofNat'];omega
theorem rh:∀(k n:Nat) (r:B8),n<128 ^ k->cI (am n++r)+1=(am n).length
 | 0,n,r,h=>by
  have:n=0:=by simp at h;omega
  subst this;rw[dY (by omega)];rfl
 | k+1,n,r,b=>by
  by_cases h:127<n
  .rw [gJ h];have c:n / 128<128 ^ k:=by
    rw[Nat.pow_succ]at b;omega
   have d:=rh k (n / 128) r c;have a:decide (127<(UInt8.ofNat (n%128+128)).toNat)=true:=decide_eq_true (by rw[UInt8.toNat_ofNat'];omega);unfold cI at d ⊢;rw[List.cons_append,List.takeWhile_cons,a,if_pos rfl,List.length_cons,List.length_cons];omega
  .rw [dY (by omega)];have a:decide (127<(UInt8.ofNat n).toNat)=false:=decide_eq_false (by rw[UInt8.toNat_ofNat'];omega);unfold cI;rw[List.singleton_append,List.takeWhile_cons,a];rfl
theorem Ak (h:n<=be) (r:B8):cO (am n++r)=(n,(am n).length,0):=by
 have b:n<128 ^ 9:=by unfold be at h;omega
 have d:=rh 9 n r b;have e:=bF h;have c:=yw n;unfold cO;rw[if_neg (by rw[List.length_append];omega),if_neg (by omega),d,List.take_left',tD 9 n b,if_neg (by
  intro a;rcases a with a | a
  .omega
  .exact a rfl)]
 rfl
theorem ri {l:B8} (h:(cO l).2.2=0):(cO l).2.1=cI l+1/\cI l+1<=l.length/\(cO l).1<=be:=by
 have d:cI l<=l.length:=(List.takeWhile_prefix _).length_le;unfold cO at h ⊢;split
 .rename_i b;rw[if_pos b]at h;cases h
 .rename_i b;rw[if_neg b]at h;split
  .rename_i c;rw[if_pos c]at h;cases h
  .rename_i c;rw[if_neg c]at h;split
   .rename_i a;rw[if_pos a]at h;cases h
   .rename_i a;exact⟨rfl,by omega,by simp only[not_or,Nat.not_lt]at a;exact a.1⟩
end
section
open Go Go.RowKit
structure Itm where
 mode:Int
 name:B8
 id:B8
structure Ob where
 kind:Int
 data:B8
 items:List Itm
 tree:B8
 parents:List B8
 BL:Int
 I:Int
 msg:B8
def ob0:Ob:=⟨0,[],[],[],[],0,0,[]⟩
def bI:List B8->Bool
 | a::b::l=>ltB a b && bI (b::l)
 | _=>true
def bJ (x:Itm):Bool:=decide (1<=x.mode) && (decide (x.mode<=4) && (bR x.name && av x.id))
def cC (l:List Itm):Bool:=l.all bJ && (bI (l.map (·.name)) && decide (l.length<=256))
def dC (l:List B8):Bool:=l.all av && (bI l && decide (l.length<=2))
def dM (s:B8):Bool:=s.all (fun c=>decide (32<=c.toNat) && decide (c.toNat<=126)) && decide (s.length<=200)
def gV (o:Ob):Bool:=(o.tree==[]) && ((o.parents.length==0) && ((o.BL==0) && ((o.I==0) && (o.msg==[]))))
def bN (o:Ob):Bool :=
 if o.kind=1 then decide (o.data.length<=20000) && ((o.items.length==0) && gV o)
 else if o.kind=2 then(o.data.length==0) && (cC o.items && gV o)
 else if o.kind=3 then(o.data.length==0) && ((o.items.length==0) && (av o.tree && (dC o.parents && ((decide (0<=o.BL) && decide (o.BL<=1099511627776)) && ((decide (0<=o.I) && decide (o.I<=255)) && dM o.msg)))))
 else false
def aQ (id:B8):B8:=(aW id).getD []
def bp (x:Itm):B8:=UInt8.ofNat x.mode.toNat::(am x.name.length++(x.name++aQ x.id))
def lW (o:Ob):B8 :=
 if o.kind=1 then o.data
 else if o.kind=2 then am o.items.length++o.items.flatMap bp
 else aQ o.tree++(UInt8.ofNat o.parents.length::(o.parents.flatMap aQ++(am o.BL.toNat++(am o.I.toNat++(am o.msg.length++o.msg)))))
def ez (o:Ob):B8:=UInt8.ofNat o.kind.toNat::lW o
def aT (o:Ob):B8×Int:=if bN o=true then(ez o,0)else([],1)
structure Src where
 b:B8
 bad:Bool
def az (s:Src) (n:Nat):Src×B8:=if s.bad=true\/s.b.length<n then(⟨s.b,true⟩,[])else(⟨s.b.drop n,s.bad⟩,s.b.take n)
def bi (s:Src):Src×Nat:=((az s 1).1,((az s 1).2.headD 0).toNat)
def aJ (a:Bool) (s:Src):Src×Nat:=if(cO s.b).2.2≠0\/(a=true/\s.bad=true)then(⟨s.b,true⟩,0)else((az s (cO s.b).2.1).1,(cO s.b).1)
def bg (s:Src):Src×B8:=((az s 32).1,bX (az s 32).2)
def ew (a:Bool) (s:Src):Src×Itm :=
 ((bg (az (aJ a (bi s).1).1 (aJ a (bi s).1).2).1).1,⟨(bi s).2,(az (aJ a (bi s).1).1 (aJ a (bi s).1).2).2,(bg (az (aJ a (bi s).1).1 (aJ a (bi s).1).2).1).2⟩)
def cK (a:Bool):Nat->Src->List Itm->Src×List Itm
 | 0,s,l=>(s,l)
 | n+1,s,l=>if s.bad=true then(s,l)else cK a n (ew a s).1 (l++[(ew a s).2])
def dh:Nat->Src->List B8->Src×List B8
 | 0,s,l=>(s,l)
 | n+1,s,l=>if s.bad=true then(s,l)else dh n (bg s).1 (l++[(bg s).2])
def lD (a:Bool) (b:Int) (c:B8) (x:Src×List B8):Src×Ob :=
 ((az (aJ a (aJ a (aJ a x.1).1).1).1 (aJ a (aJ a (aJ a x.1).1).1).2).1,
  ⟨b,[],[],c,x.2,(aJ a x.1).2,(aJ a (aJ a x.1).1).2,(az (aJ a (aJ a (aJ a x.1).1).1).1 (aJ a (aJ a (aJ a x.1).1).1).2).2⟩)
def bV (c:Bool) (a:Int) (b:B8):Src×Ob :=
 if a=1 then(⟨[],false⟩,⟨a,b,[],[],[],0,0,[]⟩)
 else if a=2 then
  ((cK c (aJ c ⟨b,false⟩).2 (aJ c ⟨b,false⟩).1 []).1,⟨a,[],(cK c (aJ c ⟨b,false⟩).2 (aJ c ⟨b,false⟩).1 []).2,[],[],0,0,[]⟩)
 else if a=3 then lD c a (bg ⟨b,false⟩).2 (dh (bi (bg ⟨b,false⟩).1).2 (bi (bg ⟨b,false⟩).1).1 [])
 else(⟨b,false⟩,⟨a,[],[],[],[],0,0,[]⟩)
def dz:B8->Ob×Int
 | []=>(ob0,2)
 | c::l=>if bN (bV false c.toNat l).2=true/\ez (bV false c.toNat l).2=c::l then((bV false c.toNat l).2,0)else(ob0,4)
theorem tE:∀(s:B8) {b:B8},aW s=some b->bX b=s
 | [],b,h=>by
  have:b=[]:=by simpa [aW]using h.symm
  subst this;rfl
 | [x],b,h=>by simp[aW]at h
 | x::y::l,b,h=>by
  unfold aW at h;split at h
  .rename_i a
   cases d:aW l with
   | none=>rw[d]at h;simp at h
   | some r =>
    rw[d]at h;have h:UInt8.ofNat (16*bn x+bn y)::r=b:=by simpa using h
    subst h;have i:=tE l d;have:bX (UInt8.ofNat (16*bn x+bn y)::r)=aR.getD ((UInt8.ofNat (16*bn x+bn y)).toNat / 16) 0::aR.getD ((UInt8.ofNat (16*bn x+bn y)).toNat%16) 0::bX r:=by unfold bX;rw[List.flatMap_cons];rfl
    rw[this,i,UInt8.toNat_ofNat',show(16*bn x+bn y)%2 ^ 8 / 16=bn x by omega,show(16*bn x+bn y)%2 ^ 8%16=bn y by omega];have g:∀c:UInt8,bn c<16->aR.getD (bn c) 0=c:=fun c a=>by
     have e:List.idxOf c aR<aR.length:=a;unfold bn;rw[List.getD_eq_getElem?_getD,List.getElem?_eq_getElem e,Option.getD_some,List.getElem_idxOf]
    rw[g x a.1,g y a.2]
  .cases h
variable {id:B8}
theorem gp (h:av id=true):(aQ id).length=32/\bX (aQ id)=id:=by
 unfold av at h;unfold aQ
 cases a:aW id with
 | none=>rw[a]at h;cases h
 | some b =>
  rw[a]at h;exact⟨by simpa using h,tE id a⟩
theorem jf (x r:B8):az ⟨x++r,false⟩ x.length=(⟨r,false⟩,x):=by
 unfold az;rw[if_neg (by simp)];simp
theorem tF (c:UInt8) (r:B8):bi ⟨c::r,false⟩=(⟨r,false⟩,c.toNat):=by
 unfold bi;rw[show(⟨c::r,false⟩:Src)=⟨[c]++r,false⟩from rfl,show(1:Nat)=[c].length from rfl,jf];rfl
theorem j' (a:Bool) {n:Nat} (h:n<=be) (r:B8):aJ a ⟨am n++r,false⟩=(⟨r,false⟩,n):=by
 unfold aJ;simp only[Ak h r];rw[if_neg (by simp),jf]
theorem mV (h:av id=true) (r:B8):bg ⟨aQ id++r,false⟩=(⟨r,false⟩,id):=by
 obtain⟨a,b⟩:=gp h;unfold bg;rw[show(32:Nat)=(aQ id).length from a.symm,jf,b]
theorem kF {s:B8} (h:bR s=true):s.length<=64:=by
 unfold bR at h;simp only[Bool.and_eq_true,decide_eq_true_eq]at h;exact h.2.2.1
theorem yx (b:Bool) {x:Itm} (h:bJ x=true) (r:B8):ew b ⟨bp x++r,false⟩=(⟨r,false⟩,x):=by
 unfold bJ at h;simp only[Bool.and_eq_true,decide_eq_true_eq]at h;obtain⟨e,g,c,d⟩:=h;have i:=kF c;obtain⟨a,name,id⟩:=x;dsimp only at e g c d i;have j:bi ⟨bp ⟨a,name,id⟩++r,false⟩=(⟨am name.length++(name++(aQ id++r)),false⟩,a.toNat):=by
  have:bp ⟨a,name,id⟩++r=UInt8.ofNat a.toNat::(am name.length++(name++(aQ id++r))):=by unfold bp;simp
  rw[this,tF,UInt8.toNat_ofNat',Nat.mod_eq_of_lt (by omega)]
 have k:aJ b ⟨am name.length++(name++(aQ id++r)),false⟩=(⟨name++(aQ id++r),false⟩,name.length):=j' b (by unfold be;omega) _;unfold ew;simp only[j,k,jf,mV d];rw[show((a.toNat:Nat):Int)=a by omega]
theorem pG (b:Bool):∀(l:List Itm) (r:B8) (a:List Itm),l.all bJ=true->cK b l.length ⟨l.flatMap bp++r,false⟩ a=(⟨r,false⟩,a++l)
 | [],r,a,_=>by simp[cK]
 | x::l,r,a,h=>by
  simp only[List.all_cons,Bool.and_eq_true]at h;have c:=pG b l r (a++[x]) h.2;rw[List.length_cons,cK,if_neg (by simp),List.flatMap_cons,List.append_assoc,yx b h.1,c];simp
theorem rj:∀(l:List B8) (r:B8) (a:List B8),l.all av=true->dh l.length ⟨l.flatMap aQ++r,false⟩ a=(⟨r,false⟩,a++l)
 | [],r,a,_=>by simp[dh]
 | x::l,r,a,h=>by
  simp only[List.all_cons,Bool.and_eq_true]at h;have b:=rj l r (a++[x]) h.2;rw[List.length_cons,dh,if_neg (by simp),List.flatMap_cons,List.append_assoc,mV h.1,b];simp
variable {o:Ob}
theorem yy (i:Bool) (h:bN o=true):∃s:Src,s.bad=false/\bV i o.kind (lW o)=(s,o):=by
 obtain⟨q,r,e,t,b,c,a,d⟩:=o;unfold bN at h;dsimp only at h ⊢;unfold lW bV;dsimp only;split at h
 .rename_i g;rw[if_pos g,if_pos g];unfold gV at h;simp only[Bool.and_eq_true,decide_eq_true_eq,beq_iff_eq,List.length_eq_zero_iff]at h;obtain⟨-,rfl,rfl,rfl,rfl,rfl,rfl⟩:=h;exact⟨_,rfl,rfl⟩
 .rename_i j;rw[if_neg j,if_neg j];split at h
  .rename_i g;rw[if_pos g,if_pos g];unfold gV cC at h;simp only[Bool.and_eq_true,decide_eq_true_eq,beq_iff_eq,List.length_eq_zero_iff]at h;obtain⟨rfl,⟨w,-,I⟩,rfl,rfl,rfl,rfl,rfl⟩:=h;have l:=j' i (n:=e.length) (by unfold be;omega) (e.flatMap bp);have p:=pG i e [] [] w;rw[List.append_nil]at p;simp only[l,p];exact⟨_,rfl,rfl⟩
  .rename_i k;rw[if_neg k,if_neg k];split at h
   .rename_i g;rw[if_pos g];unfold dC dM at h;simp only[Bool.and_eq_true,decide_eq_true_eq,beq_iff_eq,List.length_eq_zero_iff]at h;obtain⟨rfl,rfl,x,⟨y,-,z⟩,⟨A,B⟩,⟨C,D⟩,-,J⟩:=h;have E:=mV x (UInt8.ofNat b.length::(b.flatMap aQ++(am c.toNat++(am a.toNat++(am d.length++d)))));have l:=tF (UInt8.ofNat b.length) (b.flatMap aQ++(am c.toNat++(am a.toNat++(am d.length++d))));rw[UInt8.toNat_ofNat',Nat.mod_eq_of_lt (by omega)]at l;have p:=rj b (am c.toNat++(am a.toNat++(am d.length++d))) [] y;have F:=j' i (n:=c.toNat) (by unfold be;omega) (am a.toNat++(am d.length++d));have G:=j' i (n:=a.toNat) (by unfold be;omega) (am d.length++d);have H:=j' i (n:=d.length) (by unfold be;omega) d;have u:=jf d [];rw[List.append_nil]at u;unfold lD;simp only[E,l,p,F,G,H,u,List.nil_append];refine⟨⟨[],false⟩,rfl,?_⟩;rw[show((c.toNat:Nat):Int)=c by omega,show((a.toNat:Nat):Int)=a by omega]
   .cases h
theorem kG (h:bN o=true):o.kind=1\/o.kind=2\/o.kind=3:=by
 unfold bN at h;split at h
 .rename_i a;exact .inl a
 .split at h
  .rename_i a;exact .inr (.inl a)
  .split at h
   .rename_i a;exact .inr (.inr a)
   .cases h
theorem nM (b:Bool) (h:bN o=true) {c:UInt8} {l:B8} (a:ez o=c::l):∃s:Src,s.bad=false/\bV b c.toNat l=(s,o):=by
 have d:=kG h;unfold ez at a;simp only[List.cons.injEq]at a;obtain⟨rfl,rfl⟩:=a;have:((UInt8.ofNat o.kind.toNat).toNat:Int)=o.kind:=by rw[UInt8.toNat_ofNat'];omega
 rw[this];exact yy b h
theorem jg (c:UInt8) (l:B8):dz (c::l)=if bN (bV false c.toNat l).2=true/\ez (bV false c.toNat l).2=c::l then((bV false c.toNat l).2,0)else(ob0,4):=rfl
theorem uq (c:UInt8) (l:B8):dz (c::l)=if(bV true c.toNat l).1.bad=true\/bN (bV true c.toNat l).2≠true\/ez (bV true c.toNat l).2≠c::l then(ob0,4)else((bV true c.toNat l).2,0):=by
 by_cases h:bN (bV false c.toNat l).2=true/\ez (bV false c.toNat l).2=c::l
 .obtain ⟨s,d,b⟩:=nM true h.1 h.2;rw[jg,if_pos h,b,if_neg (by rw[d];simp[h.1,h.2])]
 .rw [jg,if_neg h]
  by_cases a:bN (bV true c.toNat l).2=true/\ez (bV true c.toNat l).2=c::l
  .obtain ⟨s,d,b⟩:=nM false a.1 a.2;rw[b]at h;exact(h a).elim
  .rw [if_pos]
   by_cases g:bN (bV true c.toNat l).2=true
   .exact .inr (.inr fun e=>a ⟨g,e⟩)
   .exact .inr (.inl g)
end
section
open Go Go.RowKit
theorem vZ:∀r:Fin 256,bits BinOp.or IntKind.u8 (r.val:Int) 128=(((UInt8.ofNat (r.val%128+128)).toNat:Nat):Int):=by decide +kernel
theorem Bn (m:Nat):bits BinOp.or IntKind.u8 ((m:Int)%256) 128=(((UInt8.ofNat (m%128+128)).toNat:Nat):Int):=by
 have h:=vZ ⟨m%256,by omega⟩;rw[show(((⟨m%256,by omega⟩:Fin 256).val:Nat):Int)=(m:Int)%256 by simp]at h;rw[h];show(((UInt8.ofNat (m%256%128+128)).toNat:Nat):Int)=_;rw[show m%256%128=m%128 by omega]
theorem AS {m:Nat} (h:m<=127):(m:Int)=(((UInt8.ofNat m).toNat:Nat):Int):=by
 rw[UInt8.toNat_ofNat'];omega
theorem rk (n:Nat) (w:World) (z:n<=be) :
  Calls Tryz.prog 231 #[.int .i64 n] w fun e y=>(∃v,e=.returned v/\y.ownsRow w.heap.size 5 1 v (am n).length ((am n).map fun x=>.int .u8 x.toNat))/\Ext w y:=by
 unfold be at z;go_enter Tryz.func231,Tryz.ntmps231;go_wp2;go_loopw [0,3] (fun k v wr=>∃(m:Nat) (l:B8),k=.int .i64 m/\m<=n/\Hid (am n=l++am m)/\Hid (wr.ownsRow w.heap.size 5 1 v l.length (l.map fun x=>.int .u8 x.toNat))/\Hid (Ext w wr)) (fun k _ _=>(intOf k).toNat)
 case atStart=>exact⟨n,[],rfl,Nat.le_refl _,rfl,World.ownsRow_nil _ _ _ _,Ext.refl _⟩
 case round =>
  obtain⟨m,l,rfl,D,h,i,j⟩:=hrel
  by_cases o:127<m
  .have p:=Bn m;obtain⟨c,q⟩:∃c,UInt8.ofNat (m%128+128)=c:=⟨_,rfl⟩;rw[q]at p;have A:Hid _:=q;have d:l.length<=9:=by
    have r:=bF (n:=n) (by unfold be;omega);rw[h.out,List.length_append]at r;omega
   clear q
   go_wp2_with (at_builtin;go_must (refine dH rfl _ _ rfl w.heap.size _ l.length _ rfl (al i.out ((Ext.refl _).alloc _)) wr.heap.size 1 1 [c] rfl rfl (ab _ _) (by omega) (by have:=j.out.size;simp;omega) ?_;intro B C a b))
   go_roundw
   case rel =>
    refine⟨m / 128,l++[c],?_,by omega,?_,?_,?_⟩
    .go_num
    .unfold Hid;rw[h.out,gJ o,A.out,List.append_assoc];rfl
    .unfold Hid;simpa using a
    .exact ai (j.out.alloc _) (al i.out ((Ext.refl _).alloc _)) b
   case measure=>simp[intOf];omega
  .have g:m<=127:=by omega
   have t:(wr.alloc (.cells #[.int .u8 m] 5)).heap[wr.heap.size]? = some (.cells (List.map (fun x:UInt8=>Value.int .u8 x.toNat) [UInt8.ofNat m]).toArray 5 (0,0)):=by
    rw[ab,List.map_cons,List.map_nil,<-AS g]
   have d:l.length<=9:=by
    have r:=bF (n:=n) (by unfold be;omega);rw[h.out,List.length_append]at r;omega
   go_wp2_with (at_builtin;go_must (refine dH rfl _ _ rfl w.heap.size _ l.length _ rfl (al i.out ((Ext.refl _).alloc _)) wr.heap.size 1 1 [UInt8.ofNat m] rfl rfl t (by omega) (by have:=j.out.size;simp;omega) ?_;intro B C a b))
   go_ret;have u:am n=l++[UInt8.ofNat m]:=by rw[h.out,dY g]
   rw[u];exact⟨⟨_,rfl,by simpa using a⟩,ai (j.out.alloc _) (al i.out ((Ext.refl _).alloc _)) b⟩
theorem yz (n:Int) (w:World) :
  Calls Tryz.prog 199 #[.int .i64 n] w fun e c=>(∃v,e=.returned (.tuple #[v,.int .i64 (putW n).2])/\c.ownsRow w.heap.size 5 1 v (putW n).1.length ((putW n).1.map fun x=>.int .u8 x.toNat))/\Ext w c:=by
 obtain⟨r,a⟩:∃r,putW n=r:=⟨_,rfl⟩;rw[a]
 by_cases h:n<0
 .have b:r=([],1):=by rw[<-a];unfold putW;rw[if_pos (.inl h)]
  subst b;clear a;go_enter Tryz.func199,Tryz.ntmps199;go_wp2;go_ret2;exact⟨⟨_,rfl,World.ownsRow_nil _ _ _ _⟩,Ext.refl _⟩
 .by_cases i:(72057594037927936:Int)<n
  .have b:r=([],1):=by rw[<-a];unfold putW;rw[if_pos (.inr i)]
   subst b;clear a;go_enter Tryz.func199,Tryz.ntmps199;go_wp2;go_ret2;exact⟨⟨_,rfl,World.ownsRow_nil _ _ _ _⟩,Ext.refl _⟩
  .obtain ⟨k,rfl⟩:∃k:Nat,n=k:=⟨n.toNat,by omega⟩;have b:r=(am k,0):=by rw[<-a];unfold putW;rw[if_neg (by unfold be;omega)];rfl
   subst b;clear a;go_enter Tryz.func199,Tryz.ntmps199;go_wp2_with fail;go_at_call 231;refine(rk k w (by unfold be;omega)).mono ?_;rintro e j ⟨⟨v,rfl,d⟩,g⟩;have l:Hid _:=d;have o:Hid (Ext w j):=g;clear d g;go_wp2;go_ret2;exact⟨⟨_,rfl,l.out⟩,o.out⟩
end
section
open Go Go.RowKit
theorem Al (a b:Value) (c g:B8) (w:World) (P:IsBytes w a c) (Q:IsBytes w b g) :
  Calls Tryz.prog 243 #[a,b] w fun e Y=>e=.returned (.bool (c==g))/\Ext w Y:=by
 obtain⟨a1,c1,rfl,l1,l2,l3,r⟩:=P.get;obtain⟨Z,c2,rfl,k1,k2,k3,t⟩:=Q.get;have H1:Hid _:=r;have H2:Hid _:=t;clear P Q r t
 by_cases l:c.length=g.length
 .have u:((c.length:Int)==(g.length:Int))=true:=by rw[beq_iff_eq];omega
  have R:Hid _:=l;rw[<-l]at k1 k2;have HB:Hid (∀k,k<c.length->∃b o,Z=some ⟨b,o,none⟩/\(∀i,i<c.length->w.cell? ⟨b,o+i,none⟩=some (.int .u8 (g.getD i 0).toNat))):=by
   unfold Hid;rw[l];exact H2.out
  obtain⟨M,x⟩:∃M,g.length=M:=⟨_,rfl⟩;have j:M=c.length:=by omega
  rw[x,j];clear x u l j;go_enter Tryz.func243,Tryz.ntmps243;go_wp2;go_loopw [13] (fun i wr=>∃k:Nat,k<=c.length/\i=.int .i64 k/\c.take k=g.take k/\Ext w wr) (fun i _=>c.length - (intOf i).toNat)
  case atStart=>exact⟨0,Nat.zero_le _,rfl,by simp,Ext.refl _⟩
  case round =>
   obtain⟨k,I,rfl,y,J⟩:=hrel;have S:Hid _:=y;clear y
   by_cases d:k<c.length
   .obtain ⟨b1,o1,rfl,z⟩:=H1.out k d;obtain⟨b2,o2,rfl,A⟩:=HB.out k d;have T:=J.cell (z k d);have U:=J.cell (A k d);obtain⟨p,N⟩:∃p,c.getD k 0=p:=⟨_,rfl⟩;obtain⟨q,n⟩:∃q,g.getD k 0=q:=⟨_,rfl⟩;rw[N]at T;rw[n]at U;have V:Hid (c[k]? = some p):=by
     unfold Hid;rw[List.getElem?_eq_getElem d,<-N];simp[d]
    have h:k<g.length:=by rw[<-R.out];exact d
    have W:Hid (g[k]? = some q):=by
     unfold Hid;rw[List.getElem?_eq_getElem h,<-n];simp[h]
    obtain⟨K,B⟩:∃K,((p.toNat:Int) != (q.toNat:Int)) = !K:=⟨(p.toNat:Int)==(q.toNat:Int),rfl⟩;have C:Hid _:=B;clear z A N n h;go_wp2_with fail;apply aj 9 [_,_,_,_,_,_,_,_,.bool (!K)] [none,none,none,none,none,none,none,none,none] [[],[],[0,1],[2],[],[],[4,5],[6],[3,7]] (by kernel_rfl) (by kernel_rfl) (by simp[ak])
    .trivial
    .simp (maxSteps:=1000000)only[List.take_succ_cons,List.take_zero,aw,aA,aa,Act.put,List.setIfInBounds_toArray,List.set_cons_zero,List.set_cons_succ,aK,aO,ak,List.getD_cons_zero,List.getD_cons_succ,and_true,true_and,forall_const];and_intros
     iterate 9 · intro xs wq n;intros;rename_i hR;have f1:=n.cell T;have f2:=n.cell U;go_simp;exact hR _ _ (Ext.refl _) rfl
    intro xs w2 O I;simp only[aP,Nat.zero_add,Nat.reduceAdd,and_true]at I;simp(maxSteps:=1000000)only[List.take_succ_cons,List.take_zero,List.drop_succ_cons,List.drop_zero,aa,Act.put,List.setIfInBounds_toArray,List.set_cons_zero,List.set_cons_succ,Nat.zero_add,Nat.reduceAdd,I];clear I;have D:=J.trans O;clear B
    cases K with
    | false =>
     have E:p≠q:=fun e=>by have L:=C.out;rw[e]at L;simp at L
     have F:Hid ((c==g)=false):=by
      unfold Hid;rw[beq_eq_false_iff_ne];intro e;have X:=V.out;rw[e,W.out]at X;exact E (Option.some.inj X).symm
     clear E;go_wp2;go_ret;exact⟨an F.out.symm,D⟩
    | true =>
     have G:p=q:=by
      have L:=C.out;simp at L;exact UInt8.toNat_inj.1 (by omega)
     have HE:Hid _:=G;clear G;go_wp2;go_roundw
     case rel=>exact⟨k+1,by omega,by go_num,by rw[List.take_add_one,List.take_add_one,V.out,W.out,HE.out,S.out],D⟩
     case measure=>simp[intOf];omega
   .have H:c.length<=k:=by omega
    have F:Hid ((c==g)=true):=by
     have:=S.out;rw[List.take_of_length_le H,List.take_of_length_le (by rw[<-R.out];exact H)]at this;unfold Hid;simpa using this
    go_wp2;go_ret;exact⟨an F.out.symm,J⟩
 .have u:((c.length:Int)==(g.length:Int))=false:=by rw[beq_eq_false_iff_ne];omega
  have F:Hid ((c==g)=false):=by
   unfold Hid;rw[beq_eq_false_iff_ne];intro e;exact l (by rw[e])
  clear l;go_enter Tryz.func243,Tryz.ntmps243;go_wp2;go_ret;exact⟨an F.out.symm,Ext.refl _⟩
theorem nN (c:UInt8) (l:B8):cI (c::l)=if 127<c.toNat then cI l+1 else 0:=by
 unfold cI;rw[List.takeWhile_cons]
 by_cases h:127<c.toNat
 .rw [decide_eq_true h,if_pos rfl,if_pos h,List.length_cons]
 .rw [decide_eq_false h,if_neg h];rfl
theorem ur:∀r:Fin 256,bits BinOp.and IntKind.u8 (r.val:Int) 128=if 127<r.val then 128 else 0:=by decide +kernel
theorem nO (x:UInt8):bits BinOp.and IntKind.u8 (x.toNat:Int) 128=if 127<x.toNat then 128 else 0:=ur ⟨x.toNat,x.toNat_lt⟩
variable {x:UInt8}
theorem AT (h:127<x.toNat):(bits BinOp.and IntKind.u8 (x.toNat:Int) 128 != 0)=true:=by rw[nO,if_pos h];rfl
theorem Am (h:¬127<x.toNat):(bits BinOp.and IntKind.u8 (x.toNat:Int) 128 != 0)=false:=by rw[nO,if_neg h];rfl
theorem us:∀r:Fin 256,bits BinOp.and IntKind.u8 (r.val:Int) 127=((r.val%128:Nat):Int):=by decide +kernel
theorem wk (x:UInt8):bits BinOp.and IntKind.u8 (x.toNat:Int) 127=((x.toNat%128:Nat):Int):=us ⟨x.toNat,x.toNat_lt⟩
theorem oF:∀l:B8,dJ l<128 ^ l.length
 | []=>by simp[dJ]
 | c::l=>by
  have h:=oF l;have a:=Nat.mod_lt c.toNat (show 128>0 by omega);rw[List.length_cons,Nat.pow_succ];show c.toNat%128+128*dJ l<_;omega
theorem pH:∀(l:B8) (c:UInt8),dJ (l++[c])=dJ l+c.toNat%128*128 ^ l.length
 | [],c=>by simp[dJ]
 | x::l,c=>by
  show x.toNat%128+128*dJ (l++[c])=x.toNat%128+128*dJ l+c.toNat%128*128 ^ (l.length+1);rw[pH l c,Nat.pow_succ,Nat.mul_add,Nat.mul_comm (128 ^ l.length) 128,<-Nat.mul_assoc (c.toNat%128),Nat.mul_comm (c.toNat%128) 128,Nat.mul_assoc 128];omega
theorem yA (i:Nat):(2:Nat) ^ (7*i)=128 ^ i:=by rw[Nat.pow_mul]
theorem pI (n:Int) (a:0<=n) (b:n<2 ^ 63):IntKind.i64.wrap n=n:=IntWalk.i64_in _ (by omega)
theorem or7 {a i:Nat} (c:UInt8) (g:a<128 ^ i) (j:i<=8):bits BinOp.or IntKind.i64 (a:Int) (wrap64 ((c.toNat:Int)%128*2 ^ (7*i)))=((a+c.toNat%128*128 ^ i:Nat):Int):=by
 have q:=Nat.mod_lt c.toNat (show 128>0 by omega);have k:128 ^ i<=72057594037927936:=Nat.le_trans (Nat.pow_le_pow_right (by omega) j) (Nat.le_of_eq (by decide +kernel:128 ^ 8=72057594037927936));have l:c.toNat%128*128 ^ i<=127*72057594037927936:=Nat.mul_le_mul (by omega) k;have n:((c.toNat:Int)%128*2 ^ (7*i))=((c.toNat%128*128 ^ i:Nat):Int):=by
  rw[<-yA];push_cast;rfl
 have o:wrap64 ((c.toNat%128*128 ^ i:Nat):Int)=((c.toNat%128*128 ^ i:Nat):Int):=by
  exact IntWalk.wrap64_in _ (by omega)
 rw[n,o];obtain⟨t,h⟩:∃t,c.toNat%128*128 ^ i=t:=⟨_,rfl⟩;have d:(t:Int)%2 ^ (7*i)=0:=by rw[<-h,<-yA];push_cast;exact Int.mul_emod_left _ _
 have e:(a:Int)<2 ^ (7*i):=by rw[<-yA]at g;exact_mod_cast g
 rw[h]at l ⊢;have p:a<72057594037927936:=by omega
 have b:(2:Int) ^ 63=9223372036854775808:=by decide +kernel
 rw[bits_join_low .i64 63 (by decide) pI (7*i) _ _ (by omega) e (by rw[b];omega) (by omega) d (by rw[b];omega)];omega
theorem IsBytes.take {w:World} {a:Option Addr} {c:Nat} {b:B8} (h:IsBytes w (.slice a b.length c) b) {j:Nat} (x:j<=b.length):IsBytes w (.slice a j c) (b.take j):=by
 obtain⟨y,z,n,A,p,B,q⟩:=h;cases n;have k:(b.take j).length=j:=by rw[List.length_take];omega
 unfold IsBytes;rw[k];refine⟨a,c,rfl,by omega,p,by omega,fun d=>?_⟩;obtain⟨r,o,rfl,t⟩:=q (by
  intro e;rw[List.map_eq_nil_iff]at e;subst e;simp at d)
 refine⟨r,o,rfl,fun i u g=>?_⟩;have l:=(List.getElem?_eq_some_iff.1 g).1;rw[List.length_map,k]at l;refine t i u ?_;rw[List.getElem?_map]at g ⊢
 rwa [List.getElem?_take_of_lt l]at g
theorem rl (l:B8):cI l<=l.length:=(List.takeWhile_prefix _).length_le
theorem yB (v:Value) (b:B8) (w:World) (F:IsBytes w v b) :
  Calls Tryz.prog 232 #[v,.int .i64 0] w fun e w'=>e=.returned (.tuple #[.int .i64 (cO b).1,.int .i64 (cO b).2.1,.int .i64 (cO b).2.2])/\Ext w w':=by
 have HV:Hid _:=F;obtain⟨a,c,rfl,l1,l2,l3,hg⟩:=F.get;have HG:Hid _:=hg;have a6:=rl b;obtain⟨q,W⟩:∃q,cO b=q:=⟨_,rfl⟩;rw[W];have U:Hid _:=W;clear F hg W;go_enter Tryz.func232,Tryz.ntmps232;go_wp2_with fail;go_loopw [7] (fun i wr=>∃k:Nat,k<=cI b/\i=.int .i64 k/\Hid (cI b=k+cI (b.drop k))/\Hid (Ext w wr)) (fun i _=>b.length - (intOf i).toNat)
 case atStart=>exact⟨0,Nat.zero_le _,rfl,(by unfold Hid;simp),Ext.refl _⟩
 case round =>
  obtain⟨k,hk,rfl,HM,o⟩:=hrel
  by_cases p:k<b.length
  .obtain ⟨x,r⟩:∃x,b[k]? = some x:=⟨_,List.getElem?_eq_getElem p⟩;have u:b.drop k=x::b.drop (k+1):=by
    rw[List.drop_eq_getElem_cons p];rw[List.getElem?_eq_getElem p]at r;rw[Option.some.inj r]
   have d:=HM.out;rw[u,nN]at d;obtain⟨bb,oo,rfl,G⟩:=HG.out k p;have y1:=o.out.cell (G k p);rw[show b.getD k 0=x by rw[List.getD_eq_getElem?_getD,r];rfl]at y1;have I:(k:Int)<(b.length:Int):=by omega
   by_cases H:127<x.toNat
   .have X:(bits BinOp.and IntKind.u8 (x.toNat:Int) 128 != 0)=true:=AT H;rw[if_pos H]at d;have n:Hid _:=d;clear d H u r G;go_wp2_with fail;go_roundw
    case rel=>exact⟨k+1,by have:=n.out;omega,by go_num,(by unfold Hid;have:=n.out;omega),o⟩
    case measure=>simp[intOf];omega
   .have X:(bits BinOp.and IntKind.u8 (x.toNat:Int) 128 != 0)=false:=Am H;rw[if_neg H]at d;have n:Hid _:=d;have Y:((k:Int)==(b.length:Int))=false:=by rw[beq_eq_false_iff_ne];omega
    clear d H u r G
    by_cases V:9<k+1
    .have t:Hid (q=(0,0,4)):=by
      unfold Hid;rw[<-U.out];have d:=n.out;unfold cO;rw[if_neg (by omega),if_pos (by omega)]
     go_wp2;go_ret3;exact⟨by rw[t.out];rfl,o.out⟩
    go_wp2_with fail;go_loopw [9,50] (fun g Z wr=>∃i:Nat,i<=k+1/\Z=.int .i64 i/\g=.int .i64 ((dJ (b.take i):Nat):Int)/\Hid (Ext w wr)) (fun _ Z _=>k+1 - (intOf Z).toNat)
    case atStart=>exact⟨0,Nat.zero_le _,rfl,rfl,o⟩
    case round =>
     obtain⟨i,hi,rfl,rfl,o⟩:=hrel
     by_cases a7:i<k+1
     .have y:i<b.length:=by omega
      obtain⟨x,r⟩:∃x,b[i]? = some x:=⟨_,List.getElem?_eq_getElem y⟩;obtain⟨_,_,he,G⟩:=HG.out i y;cases he;have y2:=o.out.cell (G i y);rw[show b.getD i 0=x by rw[List.getD_eq_getElem?_getD,r];rfl]at y2;have a8:=wk x;obtain⟨g,j⟩:∃g,dJ (b.take i)=g:=⟨_,rfl⟩;rw[j];have J:g<128 ^ i:=by
       have V:=oF (b.take i);rw[j,List.length_take,Nat.min_eq_left (by omega)]at V;exact V
      have K:=or7 x J (by omega);have L:dJ (b.take (i+1))=g+x.toNat%128*128 ^ i:=by
       rw[List.take_add_one,r];show dJ (b.take i++[x])=_;rw[pH,j,List.length_take,Nat.min_eq_left (by omega)]
      have ad:Hid _:=L;have au:Hid _:=K;clear L K J j r G;go_wp2_with fail;go_roundw
      case rel=>exact⟨i+1,by omega,by go_num,by rw[ad.out,<-au.out],o⟩
      case measure=>simp[intOf];omega
     .have a0:i=k+1:=by omega
      subst a0;have d:=n.out;have z:cI b=k:=by omega
      have a9:Hid _:=z;have a1:k+1<=b.length:=by omega
      have M:IsBytes wr (.slice (some ⟨bb,oo,none⟩) (k+1) c) (b.take (k+1)):=IsBytes.take (IsBytes.ext HV.out o.out) a1;have a2:Hid _:=M;obtain⟨g,j⟩:∃g,dJ (b.take (k+1))=g:=⟨_,rfl⟩;have a':Hid _:=j;rw[j];have N:q=if be<g\/am g≠b.take (k+1)then(0,0,4)else(g,k+1,0):=by
       rw[<-U.out];unfold cO;rw[z,if_neg (by omega),if_neg V,j]
      have A:Hid _:=N;clear d M j N z n U
      by_cases l:be<g
      .have t:Hid (q=(0,0,4)):=by unfold Hid;rw[A.out,if_pos (.inl l)]
       have a3:(72057594037927936:Int)<(g:Int):=by unfold be at l;omega
       clear l;go_wp2;go_ret3;exact⟨by rw[t.out];rfl,o.out⟩
      .have a3:¬(72057594037927936:Int)<(g:Int):=by unfold be at l;omega
       have O:g<=be:=by omega
       have B:Hid _:=O;have bd:¬(g:Int)<0:=by omega
       obtain⟨eq,P⟩:∃eq,(am g==b.take (k+1))=eq:=⟨_,rfl⟩;have C:Hid _:=P;clear l O P;go_wp2_with fail;go_at_call 231;refine(rk g wr B.out).mono ?_;rintro e w1 ⟨⟨v,rfl,F⟩,D⟩;have Q:IsBytes w1 v (am g):=by unfold IsBytes;exact Row.BM F (by have:=bF B.out;omega)
       have a4:Hid _:=Q;have R:Hid _:=IsBytes.ext a2.out D;have a5:Hid (Ext w w1):=o.out.trans D;clear F Q D;go_wp2_with fail;go_at_call 243;refine(Al _ _ _ _ w1 a4.out R.out).mono ?_;rw[C.out];rintro e w2 ⟨rfl,S⟩;have T:Hid (Ext w w2):=a5.out.trans S;clear S
       cases eq with
       | true =>
        have t:Hid (q=(g,k+1,0)):=by
         unfold Hid;rw[A.out,if_neg];intro h;rcases h with h | h
         .have:=B.out;omega
         .exact h (by simpa using C.out)
        go_wp2;go_ret3;exact⟨by rw[t.out];rfl,T.out⟩
       | false =>
        have t:Hid (q=(0,0,4)):=by
         unfold Hid;rw[A.out,if_pos (.inr (by simpa using C.out))]
        go_wp2;go_ret3;exact⟨by rw[t.out];rfl,T.out⟩
  .have bh:k=b.length:=by omega
   have I:¬(k:Int)<(b.length:Int):=by omega
   have E:cI b=b.length:=by omega
   have bk:Hid _:=E;have Y:((k:Int)==(b.length:Int))=true:=by rw[beq_iff_eq];omega
   have t:Hid (q=(0,0,2)):=by unfold Hid;rw[<-U.out];unfold cO;rw[if_pos E]
   clear E;go_wp2;go_ret3;exact⟨by rw[t.out];rfl,o.out⟩
end
section
open Go Go.RowKit Go.Sort
def okC (c:UInt8):Bool:=decide (32<=c.toNat) && decide (c.toNat<=126)
variable {k:Nat}
theorem lX {s:ByteArray} (h:k<s.size) (a:okC s[k]=false):dM s.data.toList=false:=by
 unfold dM;rw[Bool.and_eq_false_iff];refine .inl (List.all_eq_false.2 ⟨s[k],?_,by show ¬okC _=true;rw[a];simp⟩);have:s.data.toList[k]? = some s[k]:=by
  rw[List.getElem?_eq_getElem (by simpa using h)];rfl
 exact List.mem_of_getElem? this
theorem yC (s:ByteArray) (w:World) (n:s.size<4294967281) :
  Calls Tryz.prog 198 #[.string s] w fun e j=>e=.returned (.bool (dM s.data.toList))/\j=w:=by
 go_enter Tryz.func198,Tryz.ntmps198;go_wp2
 go_loop [6] (fun i=>∃k:Nat,k<=s.size/\i=.int .i64 k/\(s.data.toList.take k).all okC=true) (fun i=>s.size - (intOf i).toNat)
 case atStart=>exact⟨0,Nat.zero_le _,rfl,rfl⟩
 case round =>
  obtain⟨k,o,rfl,h⟩:=hrel;have d:Hid _:=h;clear h
  by_cases b:k<s.size
  .by_cases p:(s[k].toNat:Int)<32
   .go_wp2;go_ret;exact⟨an (lX b (by unfold okC;rw[decide_eq_false (by omega)];rfl)).symm,rfl⟩
   .by_cases q:(126:Int)<s[k].toNat
    .go_wp2;go_ret;exact⟨an (lX b (by unfold okC;rw[decide_eq_false (by omega:¬s[k].toNat<=126)];simp)).symm,rfl⟩
    .go_wp2
     go_round
     case rel =>
      exact⟨k+1,by omega,by go_num,by rw[kW s k b,List.all_append,d.out];simp[okC];omega⟩
     case measure=>simp[intOf];omega
  .have c:k=s.size:=by omega
   have a:s.data.toList.all okC=true:=by
    have:=d.out
    rwa [c,List.take_of_length_le (by simp)]at this
   have l:Hid _:=a;clear a d c;go_wp2;go_ret;refine⟨an ?_,rfl⟩;show _=(s.data.toList.all okC && decide (s.data.toList.length<=200));rw[l.out];have g:s.data.toList.length=s.size:=by simp
   rw[g,Bool.true_and];exact decide_eq_decide.2 (by omega)
theorem ut (l:B8) (w:World) (a:l.length<4294967281) :
  Calls Tryz.prog 198 #[S8 l] w fun e b=>e=.returned (.bool (dM l))/\b=w:=yC ⟨l.toArray⟩ w a
theorem nP:∀(l:List B8) (a b:B8),bI (l++[a,b])=(bI (l++[a]) && ltB a b)
 | [],a,b=>by simp[bI]
 | [x],a,b=>by simp[bI]
 | x::y::l,a,b=>by
  have h:=nP (y::l) a b;show(ltB x y && bI (y::l++[a,b]))=(ltB x y && bI (y::l++[a]) && ltB a b);rw[h,Bool.and_assoc]
variable {l:List B8}
theorem nQ {a b:B8} (d:l[k]? = some a) (e:l[k+1]? = some b):bI (l.take (k+2))=(bI (l.take (k+1)) && ltB a b):=by
 have c:l.take (k+1)=l.take k++[a]:=by rw[List.take_add_one,d];rfl
 have g:l.take (k+2)=l.take k++[a,b]:=by rw[List.take_add_one,e,c,List.append_assoc];rfl
 rw[c,g,nP]
theorem lE:∀(l:List B8) (k:Nat),bI l=true->bI (l.take k)=true
 | [],k,_=>by rw[List.take_nil];rfl
 | [x],k,_=>by cases k <;> simp[bI]
 | x::y::l,0,_=>rfl
 | x::y::l,1,_=>rfl
 | x::y::l,k+2,h=>by
  have h:(ltB x y && bI (y::l))=true:=h;rw[Bool.and_eq_true]at h;have a:=lE (y::l) (k+1) h.2;show(ltB x y && bI (y::(l.take k)))=true;rw[h.1];exact a
def kH (l:List B8) (k:Nat):Bool:=(l.take k).all av && bI (l.take k)
theorem rm (h:kH l k=false):dC l=false:=by
 unfold kH at h;unfold dC;rw[Bool.and_eq_false_iff]at h ⊢;rcases h with h | h
 .left;rw[List.all_eq_false]at h ⊢;obtain⟨x,a,b⟩:=h;exact⟨x,List.mem_of_mem_take a,b⟩
 .right;rw[Bool.and_eq_false_iff];left
  cases c:bI l with
  | false=>rfl
  | true=>rw[lE l k c]at h;cases h
theorem ws {x:B8} (a:l[k]? = some x):kH l (k+1)=(kH l k && (av x && (decide (k=0) || ltB (l.getD (k - 1) []) x))):=by
 unfold kH;have b:l.take (k+1)=l.take k++[x]:=by rw[List.take_add_one,a];rfl
 rw[b,List.all_append];simp only[List.all_cons,List.all_nil,Bool.and_true]
 cases k with
 | zero=>simp[bI]
 | succ j =>
  have d:j<l.length:=by have:=(List.getElem?_eq_some_iff.1 a).1;omega
  have e:l[j]? = some (l.getD j []):=by rw[List.getD_eq_getElem?_getD,List.getElem?_eq_getElem d];rfl
  have c:=nQ e a;rw[b]at c;rw[c];simp only[Nat.add_one_sub_one,Nat.add_eq_zero_iff,Nat.one_ne_zero,and_false,decide_false,Bool.false_or]
  cases(l.take (j+1)).all av <;> cases av x <;> cases bI (l.take (j+1)) <;> cases ltB (l.getD j []) x <;> rfl
theorem jE (x y:B8):(ltB y x=true/\Op.bytesLess x y=false/\(x==y)=false)\/(ltB y x=false/\Op.bytesLess x y=true)\/(ltB y x=false/\Op.bytesLess x y=false/\(x==y)=true):=by
 rw[kC]
 cases a:ltB y x with
 | true =>
  refine .inl ⟨rfl,pw a,?_⟩;rw[beq_eq_false_iff_ne];exact fun e=>(gX a) e.symm
 | false =>
  by_cases b:x=y
  .subst b;exact .inr (.inr ⟨rfl,by rw[a],by simp⟩)
  .exact .inr (.inl ⟨rfl,fS a (fun e=>b e.symm)⟩)
theorem oG (v:Value) (l:List B8) (w:World) (H:IsStrs w v l) (I:∀s∈l,s.length<=140737488355328) :
  Calls Tryz.prog 197 #[v] w fun e M=>e=.returned (.bool (dC l))/\Ext w M:=by
 obtain⟨a,c,rfl,X,Y,Z,J⟩:=H.get;have N:Hid _:=J;have O:Hid _:=I;clear H J I;go_enter Tryz.func197,Tryz.ntmps197;go_wp2;go_loopw [7] (fun i wr=>∃k:Nat,k<=l.length/\i=.int .i64 k/\Hid (kH l k=true)/\Hid (Ext w wr)) (fun i _=>l.length - (intOf i).toNat)
 case atStart=>exact⟨0,Nat.zero_le _,rfl,rfl,Ext.refl _⟩
 case round =>
  obtain⟨k,P,rfl,K,u⟩:=hrel
  by_cases b:k<l.length
  .obtain ⟨x,r⟩:∃x,l[k]? = some x:=⟨_,List.getElem?_eq_getElem b⟩;obtain⟨bb,oo,rfl,y⟩:=N.out k b;have Q:=O.out x (List.mem_of_getElem? r);have A:=u.out.cell (y k b);rw[show l.getD k []=x by rw[List.getD_eq_getElem?_getD,r];rfl]at A;have d:=ws r;rw[K.out,Bool.true_and]at d;obtain⟨B,n⟩:∃B,av x=B:=⟨_,rfl⟩;rw[n]at d;have C:Hid _:=n;have o:Hid _:=d;have R:Hid _:=y;clear d n r y;go_wp2_with fail;go_at_call 17;refine(fQ x wr (by omega)).mono ?_;rw[C.out];rintro e S ⟨rfl,p⟩;have g:Hid (Ext w S):=u.out.trans p;have y2:=p.cell A;clear p A
   cases B with
   | false =>
    have q:Hid (dC l=false):=rm (k:=k+1) (by rw[o.out];rfl);go_wp2;go_ret;exact⟨an q.out.symm,g.out⟩
   | true =>
    by_cases D:k=0
    .subst D;have E:Hid (kH l 1=true):=by unfold Hid;rw[o.out];rfl
     go_wp2;go_roundw
     case rel=>exact⟨1,by omega,by go_num,E,g⟩
     case measure=>simp[intOf];omega
    .obtain ⟨j,rfl⟩:∃j,k=j+1:=⟨k - 1,by omega⟩;have T:IntKind.i64.wrap (((j+1:Nat):Int) - 1)=(j:Int):=by rw[IntWalk.i64_in _ (by omega)];omega
     have U:=g.out.cell (R.out j (by omega));obtain⟨z,F⟩:∃z,l.getD j []=z:=⟨_,rfl⟩;rw[F]at U;have d:=o.out;rw[show j+1 - 1=j from rfl,F]at d;have h:Hid _:=d;have V:(0:Int)<((j+1:Nat):Int):=by omega
     clear F d;rcases jE x z with⟨b,L,W⟩ | ⟨b,L⟩ | ⟨b,L,W⟩
     .have E:Hid (kH l (j+1+1)=true):=by unfold Hid;rw[h.out,b];simp
      clear b;go_wp2;go_roundw
      case rel=>exact⟨j+1+1,by omega,by go_num,E,g⟩
      case measure=>simp[intOf];omega
     iterate 2
      .have q:Hid (dC l=false):=rm (k:=j+1+1) (by rw[h.out,b];simp);clear b;go_wp2;go_ret;exact⟨an q.out.symm,g.out⟩
  .have G:k=l.length:=by omega
   have q:Hid (dC l=decide (l.length<=2)):=by
    have t:=K.out;unfold kH at t;rw[G,List.take_length,Bool.and_eq_true]at t;unfold Hid dC;rw[t.1,t.2,Bool.true_and,Bool.true_and]
   clear P;go_wp2;go_ret;refine⟨an ?_,u.out⟩;rw[q.out];exact decide_eq_decide.2 (by omega)
def itC (x:Itm):List Value:=[.int .i64 x.mode,S8 x.name,S8 x.id]
def IsItms (w:World) (v:Value) (l:List Itm):Prop:=Row w v l.length (l.flatMap itC)
abbrev obV (o:Ob) (a b c:Value):Value:=.agg #[.int .i64 o.kind,a,b,S8 o.tree,c,.int .i64 o.BL,.int .i64 o.I,S8 o.msg]
def IsOb (w:World) (v:Value) (o:Ob):Prop:=∃a b c,v=obV o a b c/\IsBytes w a o.data/\IsItms w b o.items/\IsStrs w c o.parents
variable {w w':World} {v:Value}
theorem IsItms.ext {l:List Itm} (h:IsItms w v l) (a:Ext w w'):IsItms w' v l:=Row.ext h a
theorem IsOb.ext {o:Ob} (h:IsOb w v o) (a:Ext w w'):IsOb w' v o:=by
 obtain⟨b,c,d,rfl,e,g,i⟩:=h;exact⟨b,c,d,rfl,e.ext a,g.ext a,i.ext a⟩
theorem tG:∀(l:List Itm) (k:Nat) (x:Itm),l[k]? = some x->(l.flatMap itC)[3*k]? = some (.int .i64 x.mode)/\(l.flatMap itC)[3*k+1]? = some (S8 x.name)/\(l.flatMap itC)[3*k+2]? = some (S8 x.id)
 | [],k,x,h=>by simp at h
 | y::l,0,x,h=>by
  simp only[List.getElem?_cons_zero,Option.some.injEq]at h;subst h;exact⟨rfl,rfl,rfl⟩
 | y::l,k+1,x,h=>by
  simp only[List.getElem?_cons_succ]at h;have a:=tG l k x h;rw[List.flatMap_cons];have e:itC y=[.int .i64 y.mode,S8 y.name,S8 y.id]:=rfl;rw[e,show 3*(k+1)=3*k+1+1+1 by omega];exact a
theorem IsItms.get {l:List Itm} (h:IsItms w v l):∃a c,v=.slice a l.length c/\l.length<=c/\l.length<=140737488355328/\c<=9223372036854775807 /\
  ∀k x,l[k]? = some x->∃b o,a=some ⟨b,o,none⟩/\w.cell? ⟨b,o+k*3,none⟩=some (.int .i64 x.mode)/\w.cell? ⟨b,o+k*3+1,none⟩=some (S8 x.name)/\w.cell? ⟨b,o+k*3+2,none⟩=some (S8 x.id):=by
 obtain⟨a,c,rfl,i,j,n,p⟩:=h;refine⟨a,c,rfl,i,n,j,fun k x q=>?_⟩;obtain⟨d,r,t⟩:=tG l k x q;obtain⟨b,o,rfl,g⟩:=p (by intro e;rw[e]at d;simp at d);refine⟨b,o,rfl,?_,?_,?_⟩
 .have:=g _ _ d;rwa [Nat.mul_comm]at this
 .have:=g _ _ r;rwa [Nat.mul_comm,<-Nat.add_assoc]at this
 .have:=g _ _ t;rwa [Nat.mul_comm,<-Nat.add_assoc]at this
theorem rn (o:Ob) (F G z:Value) (w:World) (A:IsStrs w z o.parents) :
  Calls Tryz.prog 195 #[obV o F G z] w fun e w'=>e=.returned (.bool (gV o))/\Ext w w':=by
 obtain⟨q,t,j,d,a,c,b,g⟩:=o;obtain⟨I,J,rfl,K,L,M,-⟩:=A.get;obtain⟨r,y⟩:∃r,gV ⟨q,t,j,d,a,c,b,g⟩=r:=⟨_,rfl⟩;rw[y];have u:((d==[]) && ((a.length==0) && ((c==0) && ((b==0) && (g==[])))))=r:=y;have n:Hid _:=u;clear y u A;unfold obV;dsimp only;go_enter Tryz.func195,Tryz.ntmps195
 by_cases i:d=[]
 .have B:(d==([]:B8))=true:=by simpa using i
  by_cases k:a.length=0
  .have H:((a.length:Int)==0)=true:=by rw[beq_iff_eq];omega
   by_cases l:c=0
   .have C:(c==0)=true:=by simpa using l
    by_cases p:b=0
    .have D:(b==0)=true:=by simpa using p
     by_cases x:g=[]
     .have E:(g==([]:B8))=true:=by simpa using x
      have h:Hid (r=true):=by unfold Hid;rw[<-n.out,i,k,l,p,x];rfl
      clear i k l p x;go_wp2;go_ret;exact⟨an h.out.symm,(Ext.refl w).alloc _⟩
     .have E:(g==([]:B8))=false:=by simpa using x
      have h:Hid (r=false):=by unfold Hid;rw[<-n.out,E];simp
      clear i k l p x;go_wp2;go_ret;exact⟨an h.out.symm,(Ext.refl w).alloc _⟩
    .have D:(b==0)=false:=by simpa using p
     have h:Hid (r=false):=by unfold Hid;rw[<-n.out,D];simp
     clear i k l p;go_wp2;go_ret;exact⟨an h.out.symm,(Ext.refl w).alloc _⟩
   .have C:(c==0)=false:=by simpa using l
    have h:Hid (r=false):=by unfold Hid;rw[<-n.out,C];simp
    clear i k l;go_wp2;go_ret;exact⟨an h.out.symm,(Ext.refl w).alloc _⟩
  .have H:((a.length:Int)==0)=false:=by rw[beq_eq_false_iff_ne];omega
   have h:Hid (r=false):=by unfold Hid;rw[<-n.out,show(a.length==0)=false by simpa using k];simp
   clear i k;go_wp2;go_ret;exact⟨an h.out.symm,(Ext.refl w).alloc _⟩
 .have B:(d==([]:B8))=false:=by simpa using i
  have h:Hid (r=false):=by unfold Hid;rw[<-n.out,B];simp
  clear i;go_wp2;go_ret;exact⟨an h.out.symm,(Ext.refl w).alloc _⟩
end
section
open Go Go.RowKit Go.Sort
def itT (l:List Itm) (k:Nat):Bool:=(l.take k).all bJ && bI ((l.take k).map (·.name))
variable {l:List Itm} {k:Nat}
theorem tH (h:itT l k=false):cC l=false:=by
 unfold itT at h;unfold cC;rw[Bool.and_eq_false_iff]at h ⊢;rcases h with h | h
 .left;rw[List.all_eq_false]at h ⊢;obtain⟨x,b,c⟩:=h;exact⟨x,List.mem_of_mem_take b,c⟩
 .right;rw[Bool.and_eq_false_iff];left
  cases d:bI (l.map (·.name))with
  | false=>rfl
  | true =>
   have a:=lE (l.map (·.name)) k d;rw[<-List.map_take,h]at a;cases a
def iw:Itm:=⟨0,[],[]⟩
variable {x:Itm}
theorem rp (a:l[k]? = some x):itT l (k+1)=(itT l k && (bJ x && (decide (k=0) || ltB (l.getD (k - 1) iw).name x.name))):=by
 unfold itT;have b:l.take (k+1)=l.take k++[x]:=by rw[List.take_add_one,a];rfl
 cases k with
 | zero =>
  rw[b];simp[bI]
 | succ j =>
  have d:j<l.length:=by have:=(List.getElem?_eq_some_iff.1 a).1;omega
  have e:l[j]? = some (l.getD j iw):=by rw[List.getD_eq_getElem?_getD,List.getElem?_eq_getElem d];rfl
  have g:(l.map (·.name))[j]? = some (l.getD j iw).name:=by rw[List.getElem?_map,e];rfl
  have h:(l.map (·.name))[j+1]? = some x.name:=by rw[List.getElem?_map,a];rfl
  have c:=nQ g h;rw[<-List.map_take,<-List.map_take]at c;rw[c,b,List.all_append];simp only[List.all_cons,List.all_nil,Bool.and_true,Nat.add_one_sub_one,Nat.add_eq_zero_iff,Nat.one_ne_zero,and_false,decide_false,Bool.false_or]
  cases(l.take (j+1)).all bJ <;> cases bJ x <;> cases bI ((l.take (j+1)).map (·.name)) <;> cases ltB (l.getD j iw).name x.name <;> rfl
variable {t r b:Bool}
theorem jF (h:t = !r) (a:t=(bJ x && b)) (c:bJ x=false):r=true:=by
 rw[c,Bool.false_and]at a;rw[a]at h;cases r
 .cases h
 .rfl
theorem wt (h:t = !r) (a:t=(bJ x && b)) (c:b=false):r=true:=by
 rw[c,Bool.and_false]at a;rw[a]at h;cases r
 .cases h
 .rfl
theorem nR (h:t = !r) (a:t=(bJ x && b)) (c:bJ x=true) (d:b=true):r=false:=by
 rw[c,d]at a;rw[a]at h;cases r
 .rfl
 .cases h
def gK (l:List Itm):Prop:=∀x∈l,x.name.length<=140737488355328/\x.id.length<=140737488355328
theorem rq (v:Value) (l:List Itm) (w:World) (hv:IsItms w v l) (hs:gK l) :
  Calls Tryz.prog 196 #[v] w fun e P=>e=.returned (.bool (cC l))/\Ext w P:=by
 obtain⟨a,c,rfl,l1,l2,l3,hg⟩:=hv.get;have HG:Hid _:=hg;have HS:Hid _:=hs;clear hv hg hs;go_enter Tryz.func196,Tryz.ntmps196;go_wp2;go_loopw [7] (fun i wr=>∃k:Nat,k<=l.length/\i=.int .i64 k/\Hid (itT l k=true)/\Hid (Ext w wr)) (fun i _=>l.length - (intOf i).toNat)
 case atStart=>exact⟨0,Nat.zero_le _,rfl,rfl,Ext.refl _⟩
 case round =>
  obtain⟨k,hk,rfl,HT,H⟩:=hrel
  by_cases a0:k<l.length
  .obtain ⟨x,hx⟩:∃x,l[k]? = some x:=⟨_,List.getElem?_eq_getElem a0⟩;obtain⟨bb,oo,rfl,Q,R,S⟩:=HG.out k x hx;obtain⟨a1,a2⟩:=HS.out x (List.mem_of_getElem? hx);have I:=rp hx;rw[HT.out,Bool.true_and]at I;have t:Hid _:=I;have D:Hid (∀j,k=j+1->wr.cell? ⟨bb,oo+j*3+1,none⟩=some (S8 (l.getD j iw).name)):=fun j hj=>by
    subst hj;have T:j<l.length:=by omega
    obtain⟨b2,o2,U,-,F,-⟩:=HG.out j (l.getD j iw) (by rw[List.getD_eq_getElem?_getD,List.getElem?_eq_getElem T];rfl);cases U;exact H.out.cell F
   have y0:=H.out.cell Q;have y1:=H.out.cell R;have y2:=H.out.cell S;obtain⟨h,name,id⟩:=x;dsimp only at y0 y1 y2 a1 a2;clear I hx Q R S;go_upto_region 4 with fail;obtain⟨C,E⟩:∃C,C=wr.alloc (.cells #[.int .i64 h,S8 name,S8 id] 130):=⟨_,rfl⟩;have J:Ext wr C:=by rw[E];exact(Ext.refl _).alloc _
   have L:C.heap[wr.heap.size]? = some (.cells #[.int .i64 h,S8 name,S8 id] 130 (0,0)):=by rw[E];exact ab _ _
   rw[<-E];obtain⟨gi,V⟩:∃gi,wr.heap.size=gi:=⟨_,rfl⟩;rw[V]at L ⊢;obtain⟨z0,z1,z2⟩:=bE L;have a3:Hid (Ext w C):=H.out.trans J;have a4:Hid (∀j,k=j+1->C.cell? ⟨bb,oo+j*3+1,none⟩=some (S8 (l.getD j iw).name)):=fun j hj=>J.cell (D.out j hj)
   have v0:=fun d u=>cell_regrown z0 d u
   have v1:=fun d u=>cell_regrown z1 d u
   have v2:=fun d u=>cell_regrown z2 d u
   obtain⟨nb,M⟩:∃nb,bR name=nb:=⟨_,rfl⟩;obtain⟨vb,N⟩:∃vb,av id=vb:=⟨_,rfl⟩;have W:Hid _:=M;have X:Hid _:=N;have y:Hid (∀d u,Calls Tryz.prog 120 #[S8 name] (grow (redrawn C d) u) fun e P=>e=.returned (.bool nb)/\∃q:Regrown,P=grow (redrawn C q.d) q.os):=fun d u =>
    (mA name _ (by omega)).mono (fun _ _ ⟨U,hw⟩=>⟨by rw[U,M],⟨d,u⟩,hw⟩)
   have A:Hid (∀d u,Calls Tryz.prog 17 #[S8 id] (grow (redrawn C d) u) fun e P=>e=.returned (.bool vb)/\∃q:Regrown,P=grow (redrawn C q.d) q.os):=fun d u=>Calls.regrown_of (by
    have F:=fQ id (grow (redrawn C d) u) (by omega)
    rwa [N]at F)
   obtain⟨p,G⟩:∃c,itT l (k+1) = !c:=⟨!itT l (k+1),by simp⟩;have r:Hid _:=G;clear E J L V z0 z1 z2 y0 y1 y2 M N G D H;go_cut [46] (fun c wx=>c=.bool p/\Ext C wx)
   case first =>
    by_cases h1:h<1
    .have B:Hid (p=true):=jF r.out t.out (by unfold bJ;rw[decide_eq_false (by omega:¬1<=h)];rfl);refine cU (by kernel_rfl) (by kernel_rfl) ?_
     repeat (refine dy (fun K g=>?_);go_simp;first | (refine g _ ?_;clear g K) | (apply Exists.intro;refine⟨fun _=>?_,g _ ?_⟩;(first | exact y.out _ _ | exact A.out _ _);clear g K))
     refine dQ ?_;intro _ n;obtain⟨⟨O,osq⟩,b⟩:=n;subst b;go_wp2_with fail;go_meet
     case rel=>exact⟨by rw[B.out],Ext.BX _ _ _⟩
    by_cases h2:4<h
    .have B:Hid (p=true):=jF r.out t.out (by unfold bJ;rw[decide_eq_false (by omega:¬h<=4)];simp);refine cU (by kernel_rfl) (by kernel_rfl) ?_
     repeat (refine dy (fun K g=>?_);go_simp;first | (refine g _ ?_;clear g K) | (apply Exists.intro;refine⟨fun _=>?_,g _ ?_⟩;(first | exact y.out _ _ | exact A.out _ _);clear g K))
     refine dQ ?_;intro _ n;obtain⟨⟨O,osq⟩,b⟩:=n;subst b;go_wp2_with fail;go_meet
     case rel=>exact⟨by rw[B.out],Ext.BX _ _ _⟩
    cases nb with
    | false =>
     have B:Hid (p=true):=jF r.out t.out (by unfold bJ;rw[W.out];simp);refine cU (by kernel_rfl) (by kernel_rfl) ?_
     repeat (refine dy (fun K g=>?_);go_simp;first | (refine g _ ?_;clear g K) | (apply Exists.intro;refine⟨fun _=>?_,g _ ?_⟩;(first | exact y.out _ _ | exact A.out _ _);clear g K))
     refine dQ ?_;intro _ n;obtain⟨⟨O,osq⟩,b⟩:=n;subst b;go_wp2_with fail;go_meet
     case rel=>exact⟨by rw[B.out],Ext.BX _ _ _⟩
    | true =>
    cases vb with
    | false =>
     have B:Hid (p=true):=jF r.out t.out (by unfold bJ;rw[X.out];simp);refine cU (by kernel_rfl) (by kernel_rfl) ?_
     repeat (refine dy (fun K g=>?_);go_simp;first | (refine g _ ?_;clear g K) | (apply Exists.intro;refine⟨fun _=>?_,g _ ?_⟩;(first | exact y.out _ _ | exact A.out _ _);clear g K))
     refine dQ ?_;intro _ n;obtain⟨⟨O,osq⟩,b⟩:=n;subst b;go_wp2_with fail;go_meet
     case rel=>exact⟨by rw[B.out],Ext.BX _ _ _⟩
    | true =>
    have Y:Hid (bJ ⟨h,name,id⟩=true):=by unfold Hid bJ;rw[decide_eq_true (by omega:1<=h),decide_eq_true (by omega:h<=4),W.out,X.out];rfl
    by_cases Z:k=0
    .have B:Hid (p=false):=nR r.out t.out Y.out (by rw[Z];rfl);subst Z;refine cU (by kernel_rfl) (by kernel_rfl) ?_
     repeat (refine dy (fun K g=>?_);go_simp;first | (refine g _ ?_;clear g K) | (apply Exists.intro;refine⟨fun _=>?_,g _ ?_⟩;(first | exact y.out _ _ | exact A.out _ _);clear g K))
     refine dQ ?_;intro _ n;obtain⟨⟨O,osq⟩,b⟩:=n;subst b;go_wp2_with fail;go_meet
     case rel=>exact⟨by rw[B.out],Ext.BX _ _ _⟩
    .obtain ⟨j,rfl⟩:∃j,k=j+1:=⟨k - 1,by omega⟩;have a7:IntKind.i64.wrap (((j+1:Nat):Int) - 1)=(j:Int):=by rw[IntWalk.i64_in _ (by omega)];omega
     have y3:=a4.out j rfl;obtain⟨z,hz⟩:∃z,(l.getD j iw).name=z:=⟨_,rfl⟩;rw[hz]at y3;have v3:=fun d u=>cell_regrown y3 d u
     have a8:(0:Int)<((j+1:Nat):Int):=by omega
     have a6:IntKind.i64.wrap (j:Int)=(j:Int):=IntWalk.i64_in _ (by omega);have a9:(0:Int)<(j:Int)+1:=by omega
     have T:j<l.length:=by omega
     have HZ:Hid _:=hz;clear hz y3;rcases jE name z with⟨o,hb,U⟩ | ⟨o,hb⟩ | ⟨o,hb,U⟩
     .have B:Hid (p=false):=nR r.out t.out Y.out (by rw[show j+1 - 1=j from rfl,HZ.out,o];simp);clear o;refine cU (by kernel_rfl) (by kernel_rfl) ?_
      repeat (refine dy (fun K g=>?_);go_simp;first | (refine g _ ?_;clear g K) | (apply Exists.intro;refine⟨fun _=>?_,g _ ?_⟩;(first | exact y.out _ _ | exact A.out _ _);clear g K))
      refine dQ ?_;intro _ n;obtain⟨⟨O,osq⟩,b⟩:=n;subst b;go_wp2_with fail;go_meet
      case rel=>exact⟨by rw[B.out],Ext.BX _ _ _⟩
     iterate 2
      .have B:Hid (p=true):=wt r.out t.out (by rw[show j+1 - 1=j from rfl,HZ.out,o];simp);clear o;refine cU (by kernel_rfl) (by kernel_rfl) ?_
       repeat (refine dy (fun K g=>?_);go_simp;first | (refine g _ ?_;clear g K) | (apply Exists.intro;refine⟨fun _=>?_,g _ ?_⟩;(first | exact y.out _ _ | exact A.out _ _);clear g K))
       refine dQ ?_;intro _ n;obtain⟨⟨O,osq⟩,b⟩:=n;subst b;go_wp2_with fail;go_meet
       case rel=>exact⟨by rw[B.out],Ext.BX _ _ _⟩
   case rest =>
    obtain⟨rfl,ad⟩:=hcut;have au:Hid (Ext w wc):=a3.out.trans ad;clear ad
    cases p with
    | true =>
     have HF:Hid (cC l=false):=tH (k:=k+1) (by rw[r.out];rfl);go_wp2;go_ret;exact⟨an HF.out.symm,au.out⟩
    | false =>
     have HP:Hid (itT l (k+1)=true):=by unfold Hid;rw[r.out];rfl
     go_wp2;go_roundw
     case rel=>exact⟨k+1,by omega,by go_num,HP,au⟩
     case measure=>simp[intOf];omega
  .have a5:k=l.length:=by omega
   have HF:Hid (cC l=decide (l.length<=256)):=by
    have F:=HT.out;unfold itT at F;rw[a5,List.take_length,Bool.and_eq_true]at F;unfold Hid cC;rw[F.1,F.2,Bool.true_and,Bool.true_and]
   clear hk;go_wp2;go_ret;refine⟨an ?_,H.out⟩;rw[HF.out];exact decide_eq_decide.2 (by omega)
end
section
open Go Go.RowKit
structure dm (o:Ob):Prop where
 items:gK o.items
 C2:∀s∈o.parents,s.length<=140737488355328
 tree:o.tree.length<=10000000
 msg:o.msg.length<=10000000
theorem ag {w:World} {g:Nat} {a b c d e i j k:Value} {t:TypeId} {fr:Nat×Nat} (h:w.heap[g]? = some (.cells #[a,b,c,d,e,i,j,k] t fr)) :
  w.cell? ⟨g,0,none⟩=some a/\w.cell? ⟨g,1,none⟩=some b/\w.cell? ⟨g,2,none⟩=some c/\w.cell? ⟨g,3,none⟩=some d/\w.cell? ⟨g,4,none⟩=some e/\w.cell? ⟨g,5,none⟩=some i/\w.cell? ⟨g,6,none⟩=some j/\w.cell? ⟨g,7,none⟩=some k:=by
 simp[World.cell?,h]
theorem yD (v:Value) (o:Ob) (w:World) (hv:IsOb w v o) (U:dm o) :
  Calls Tryz.prog 142 #[v] w fun e q=>e=.returned (.bool (bN o))/\Ext w q:=by
 obtain⟨vd,R,S,rfl,hd,hi,hp⟩:=hv;obtain⟨I,A⟩:∃I,I=w.alloc (.cells #[.int .i64 o.kind,vd,R,S8 o.tree,S,.int .i64 o.BL,.int .i64 o.I,S8 o.msg] 41):=⟨_,rfl⟩;have V:Ext w I:=by rw[A];exact(Ext.refl _).alloc _
 have B:I.heap[w.heap.size]? = some (.cells #[.int .i64 o.kind,vd,R,S8 o.tree,S,.int .i64 o.BL,.int .i64 o.I,S8 o.msg] 41 (0,0)):=by rw[A];exact ab _ _
 obtain⟨gb,ad⟩:∃gb,w.heap.size=gb:=⟨_,rfl⟩;have C:Hid (∀q,Ext w q->Calls Tryz.prog 195 #[obV o vd R S] q fun e D=>e=.returned (.bool (gV o))/\Ext q D):=fun q W=>rn o vd R S q (hp.ext W)
 have K:Hid (∀q,Ext w q->Calls Tryz.prog 196 #[R] q fun e D=>e=.returned (.bool (cC o.items))/\Ext q D):=fun q W=>rq R o.items q (hi.ext W) U.items
 have L:Hid (∀q,Ext w q->Calls Tryz.prog 197 #[S] q fun e D=>e=.returned (.bool (dC o.parents))/\Ext q D):=fun q W=>oG S o.parents q (hp.ext W) U.C2
 obtain⟨da,dc,rfl,-,-,-,-⟩:=hd.get;obtain⟨ia,ic,rfl,-,-,-,-⟩:=hi.get;obtain⟨au,a0⟩:o.tree.length<=10000000/\o.msg.length<=10000000:=⟨U.tree,U.msg⟩;obtain⟨g,b,a,u,k,h,d,y⟩:=o;obtain⟨r,hr⟩:∃r,bN ⟨g,b,a,u,k,h,d,y⟩=r:=⟨_,rfl⟩;rw[hr];have HR:Hid _:=hr;obtain⟨X,M⟩:∃c,gV ⟨g,b,a,u,k,h,d,y⟩=c:=⟨_,rfl⟩;rw[M]at C;have Y:Hid _:=M;unfold obV at C ⊢;dsimp only at C K L B A au a0 ⊢;obtain⟨io,N⟩:∃c,cC a=c:=⟨_,rfl⟩;rw[N]at K;have a1:Hid _:=N;obtain⟨po,O⟩:∃c,dC k=c:=⟨_,rfl⟩;rw[O]at L;have a2:Hid _:=O;rw[ad]at B;obtain⟨c0,c1,c2,c3,c4,c5,c6,c7⟩:=ag B;have l:Hid (Ext w I):=V;have a3:Hid _:=A;have Z:Hid _:=B;clear hd hi hp U hr M N O V A B;go_enter Tryz.func142,Tryz.ntmps142;go_upto_region 1 with fail;rw[<-a3.out]
 by_cases F:g=1
 .have b1:(g==1)=true:=by simpa using F
  have n:Hid (r=(decide (b.length<=20000) && ((a.length==0) && X))):=by rw[<-HR.out,<-Y.out];unfold Hid bN;rw[if_pos F]
  clear F
  by_cases E:(b.length:Int)<=20000
  .by_cases G:a.length=0
   .have b3:((a.length:Int)==0)=true:=by rw[beq_iff_eq];omega
    have j:Hid (r=X):=by unfold Hid;rw[n.out,G,decide_eq_true (by omega:b.length<=20000)];rfl
    clear G;go_wp2_with fail;go_at_call 195;refine(C.out I l.out).mono ?_;rintro e P ⟨rfl,p⟩;have t:Hid (Ext w P):=l.out.trans p;clear p;go_wp2;go_ret;exact⟨an j.out.symm,t.out⟩
   .have b3:((a.length:Int)==0)=false:=by rw[beq_eq_false_iff_ne];omega
    have j:Hid (r=false):=by unfold Hid;rw[n.out,show(a.length==0)=false by simpa using G];simp
    clear G;go_wp2;go_ret;exact⟨an j.out.symm,l.out⟩
  .have j:Hid (r=false):=by unfold Hid;rw[n.out,decide_eq_false (by omega:¬b.length<=20000)];rfl
   go_wp2;go_ret;exact⟨an j.out.symm,l.out⟩
 have b1:(g==1)=false:=by simpa using F
 by_cases J:g=2
 .have b2:(g==2)=true:=by simpa using J
  have n:Hid (r=((b.length==0) && (io && X))):=by rw[<-HR.out,<-Y.out,<-a1.out];unfold Hid bN;rw[if_neg F,if_pos J]
  clear F J
  by_cases E:b.length=0
  .have b3:((b.length:Int)==0)=true:=by rw[beq_iff_eq];omega
   have i:Hid (r=(io && X)):=by unfold Hid;rw[n.out,E];rfl
   clear E;go_wp2_with fail;go_at_call 196;refine(K.out I l.out).mono ?_;rintro e P ⟨rfl,p⟩;have t:Hid (Ext w P):=l.out.trans p;have H:Hid _:=Ext.row p Z.out;obtain⟨d0,d1,d2,d3,d4,d5,d6,d7⟩:=ag H.out;clear p
   cases io with
   | true =>
    have j:Hid (r=X):=by unfold Hid;rw[i.out];rfl
    go_wp2_with fail;go_at_call 195;refine(C.out P t.out).mono ?_;rintro e w2 ⟨rfl,z⟩;have x:Hid (Ext w w2):=t.out.trans z;clear z;go_wp2;go_ret;exact⟨an j.out.symm,x.out⟩
   | false =>
    have j:Hid (r=false):=by unfold Hid;rw[i.out];rfl
    go_wp2;go_ret;exact⟨an j.out.symm,t.out⟩
  .have b3:((b.length:Int)==0)=false:=by rw[beq_eq_false_iff_ne];omega
   have j:Hid (r=false):=by unfold Hid;rw[n.out,show(b.length==0)=false by simpa using E];rfl
   clear E;go_wp2;go_ret;exact⟨an j.out.symm,l.out⟩
 have b2:(g==2)=false:=by simpa using J
 by_cases T:g=3
 .have b3:(g==3)=true:=by simpa using T
  have n:Hid (r=((b.length==0) && ((a.length==0) && (av u && (po && ((decide (0<=h) && decide (h<=1099511627776)) && ((decide (0<=d) && decide (d<=255)) && dM y))))))):=by rw[<-HR.out,<-a2.out];unfold Hid bN;rw[if_neg F,if_neg J,if_pos T]
  clear F J T
  by_cases E:b.length=0
  case neg =>
   have b4:((b.length:Int)==0)=false:=by rw[beq_eq_false_iff_ne];omega
   have j:Hid (r=false):=by unfold Hid;rw[n.out,show(b.length==0)=false by simpa using E];rfl
   clear E;go_wp2;go_ret;exact⟨an j.out.symm,l.out⟩
  have b4:((b.length:Int)==0)=true:=by rw[beq_iff_eq];omega
  by_cases G:a.length=0
  case neg =>
   have b5:((a.length:Int)==0)=false:=by rw[beq_eq_false_iff_ne];omega
   have j:Hid (r=false):=by unfold Hid;rw[n.out,show(a.length==0)=false by simpa using G];simp
   clear E G;go_wp2;go_ret;exact⟨an j.out.symm,l.out⟩
  have b5:((a.length:Int)==0)=true:=by rw[beq_iff_eq];omega
  obtain⟨vt,Q⟩:∃vt,av u=vt:=⟨_,rfl⟩;have a4:Hid _:=Q;have i:Hid (r=(vt && (po && ((decide (0<=h) && decide (h<=1099511627776)) && ((decide (0<=d) && decide (d<=255)) && dM y))))):=by unfold Hid;rw[n.out,E,G,Q];rfl
  clear E G Q;go_wp2_with fail;go_at_call 17;refine(fQ u I (by omega)).mono ?_;rw[a4.out];rintro e P ⟨rfl,p⟩;have t:Hid (Ext w P):=l.out.trans p;have H:Hid _:=Ext.row p Z.out;obtain⟨d0,d1,d2,d3,d4,d5,d6,d7⟩:=ag H.out;clear p
  cases vt with
  | false =>
   have j:Hid (r=false):=by unfold Hid;rw[i.out];rfl
   go_wp2;go_ret;exact⟨an j.out.symm,t.out⟩
  | true =>
  go_wp2_with fail;go_at_call 197;refine(L.out P t.out).mono ?_;rintro e w2 ⟨rfl,z⟩;have x:Hid (Ext w w2):=t.out.trans z;obtain⟨e0,e1,e2,e3,e4,e5,e6,e7⟩:=ag (Ext.row z H.out);clear z
  cases po with
  | false =>
   have j:Hid (r=false):=by unfold Hid;rw[i.out];rfl
   go_wp2;go_ret;exact⟨an j.out.symm,x.out⟩
  | true =>
  by_cases h6:(0:Int)<=h
  case neg =>
   have j:Hid (r=false):=by unfold Hid;rw[i.out,decide_eq_false h6];rfl
   go_wp2;go_ret;exact⟨an j.out.symm,x.out⟩
  by_cases h7:h<=1099511627776
  case neg =>
   have j:Hid (r=false):=by unfold Hid;rw[i.out,decide_eq_false h7];simp
   go_wp2;go_ret;exact⟨an j.out.symm,x.out⟩
  by_cases h8:(0:Int)<=d
  case neg =>
   have j:Hid (r=false):=by unfold Hid;rw[i.out,decide_eq_false h8];simp
   go_wp2;go_ret;exact⟨an j.out.symm,x.out⟩
  by_cases h9:d<=255
  case neg =>
   have j:Hid (r=false):=by unfold Hid;rw[i.out,decide_eq_false h9];simp
   go_wp2;go_ret;exact⟨an j.out.symm,x.out⟩
  have j:Hid (r=dM y):=by unfold Hid;rw[i.out,decide_eq_true h6,decide_eq_true h7,decide_eq_true h8,decide_eq_true h9];rfl
  go_wp2_with fail;go_at_call 198;refine(ut y w2 (by omega)).mono ?_;rintro e w3 ⟨rfl,rfl⟩;go_wp2;go_ret;exact⟨an j.out.symm,x.out⟩
 .have b3:(g==3)=false:=by simpa using T
  have j:Hid (r=false):=by rw[<-HR.out];unfold Hid bN;rw[if_neg F,if_neg J,if_neg T]
  clear F J T;go_wp2;go_ret;exact⟨an j.out.symm,l.out⟩
end
section
open Go Go.RowKit
abbrev U8s (l:B8):List Value:=l.map fun x=>.int .u8 x.toNat
theorem tI (l r:B8):U8s (l++r)=U8s l++U8s r:=List.map_append
variable {w w1:World}
theorem pJ {a:World} {g:Option Nat} (h:Ext w w1) (k:w1.grownBy a g):w.grownBy a g:=(h.grown.but g).trans k
def Near (w:World) (v v':Value):Prop:=∀k,v'.ownBlock=some k->v.ownBlock=some k\/w.heap.size<=k
variable {v v':Value}
theorem Near.of (h:v'.ownBlock=v.ownBlock\/v'.ownBlock=some w.heap.size):Near w v v':=fun k a=>by
 rcases h with h | h
 .exact .inl (h.symm.trans a)
 .rw [h]at a;cases a;exact .inr (Nat.le_refl _)
abbrev Ow (a:Nat) (w:World) (v:Value) (l:B8):Prop:=w.ownsRow a 5 1 v l.length (U8s l)
theorem gL (a:Nat) (n:TypeId) (v:Value) (l:B8) (c:Ow a w v l) (xv:Value) (r:B8) (d:IsBytes w xv r) (o:l.length+r.length<=1000000000) (b:a<=w.heap.size) :
  ∃v' e,(Builtin.append_ #[37,37] 37 #[v,xv]).run Tryz.prog w=.ok v' e/\Ow a e v' (l++r)/\w.grownBy e v.ownBlock/\Near w v v':=by
 obtain⟨v',e,g,h,i,j⟩:=gG 37 5 (.int .u8 0) 1 1 Tryz.underlying37 gC rfl (by omega) a v l.length _ c xv r.length (U8s r) d (by simp) (fun u k=>by obtain⟨_,_,rfl⟩:=List.mem_map.1 k;rfl) (by omega) (by omega) b;exact⟨v',e,g,by unfold Ow;rw[List.length_append,tI];exact h,i,Near.of j⟩
theorem mW (d:Nat) (v:Value) (l:B8) (e:Ow d w v l) (r:B8) (V:l.length+r.length<=1000000000) (n:d<=w.heap.size) :
  ∃v' h,(Builtin.append_ #[37,9] 37 #[v,S8 r]).run Tryz.prog w=.ok v' h/\Ow d h v' (l++r)/\w.grownBy h v.ownBlock/\Near w v v':=by
 obtain⟨D,E,x,o,y⟩:=info_parts gC;have c:(⟨r.toArray⟩:ByteArray).size=r.length:=by simp[ByteArray.size]
 have z:∀b,w.ownsRow b 5 1 v l.length (U8s l)->b<=w.heap.size->∃v' h,(Builtin.append_ #[37,9] 37 #[v,S8 r]).run Tryz.prog w=.ok v' h/\h.ownsRow b 5 1 v' (l++r).length (U8s (l++r))/\w.grownBy h v.ownBlock:=fun b N F=>by
  obtain⟨v',h,t,C,G,-⟩:=Lib.run_append_own_string (P:=Tryz.prog) w b 37 9 37 5 D Tryz.underlying37 Tryz.underlying9 E x o y v l.length _ N ⟨r.toArray⟩ (by rw[c];unfold maxLen;omega) (by rw[c];omega) F;rw[c]at C;exact⟨v',h,t,by rw[List.length_append,tI];exact C,G⟩
 obtain⟨v',h,t,C,G⟩:=z d e n;refine⟨v',h,t,C,G,?_⟩;have O:=e;rcases e.2 with⟨rfl,Q⟩ | ⟨g,i,A,rfl,R,S,T,H,I,J⟩
 .have K:l.length=0:=Q;have L:l=[]:=List.eq_nil_of_length_eq_zero K;subst L;obtain⟨W,X,a,U,-⟩:=z w.heap.size (World.ownsRow_nil _ _ _ _) (Nat.le_refl _);rw[t]at a;cases a;exact fun k B=>.inr (U.lt k B).1
 .by_cases p:l.length+r.length<=i
  .have M:A.size=i:=by simpa using I
   have a:=Lib.run_append_room_string (P:=Tryz.prog) w 37 9 37 5 D Tryz.underlying37 Tryz.underlying9 E o g l.length i A S ⟨r.toArray⟩ (by rw[c];exact p) (by omega);rw[t]at a;cases a;exact fun k B=>.inl B
  .have q:∀j u,(U8s l)[j]? = some u->w.cell? ((⟨g,0,none⟩:Addr).add j)=some u:=O.cells (g:=g) rfl;have a:=Lib.run_append_grow_string (P:=Tryz.prog) w 37 9 37 5 D (.int .u8 0) Tryz.underlying37 Tryz.underlying9 E x ⟨g,0,none⟩ l.length i (U8s l) (by rw[o];simp) q ⟨r.toArray⟩ (by rw[c];unfold maxLen at H;omega) (by rw[c];omega) (by rw[y,c];exact growslice_fits (by omega) (by omega));rw[t]at a;cases a;exact fun k B=>by cases B;exact .inr (Nat.le_refl _)
section
variable {ops:Array Oper} {rest:List Oper} {o:Oper} {a:Act} {Q:Exit->Act->World->Prop} {w:World}
theorem jh (i:o.guard=none) (s x:Operand) (k:o.op=.call { callee:=.builtin .append,args:=#[s,x],argTypes:=#[37,37] }) (j:o.type=37)
  (b:Nat) (v:Value) (l:B8) (n:a.eval s=v) (d:Ow b w v l)
  (xv:Value) (r:B8) (p:a.eval x=xv) (e:IsBytes w xv r) (q:l.length+r.length<=1000000000) (c:b<=w.heap.size)
  (h:∀v' g,Ow b g v' (l++r)->w.grownBy g v.ownBlock->Near w v v'->wpList Tryz.prog ops Q rest (a.put o.dst v') g):wpList Tryz.prog ops Q (o::rest) a w:=by
 refine wpList_plain i fun K t=>?_
 obtain⟨v',g,u,y,z,A⟩:=gL b 37 v l d xv r e q c;unfold Oper.wp execOp;simp only[k,j,resolve,invoke,builtin,Sem.run_bind,Sem.run_pure,Result.andThen_ok,List.map_toArray,List.map_cons,List.map_nil,n,p,u];exact t _ _ (h v' g y z A)
theorem wy (g:o.guard=none) (s x:Operand) (j:o.op=.call { callee:=.builtin .append,args:=#[s,x],argTypes:=#[37,9] }) (i:o.type=37)
  (b:Nat) (v:Value) (l:B8) (k:a.eval s=v) (d:Ow b w v l)
  (r:B8) (n:a.eval x=S8 r) (p:l.length+r.length<=1000000000) (c:b<=w.heap.size)
  (h:∀v' e,Ow b e v' (l++r)->w.grownBy e v.ownBlock->Near w v v'->wpList Tryz.prog ops Q rest (a.put o.dst v') e):wpList Tryz.prog ops Q (o::rest) a w:=by
 refine wpList_plain g fun K q=>?_
 obtain⟨v',e,t,u,y,z⟩:=mW b v l d r p c;unfold Oper.wp execOp;simp only[j,i,resolve,invoke,builtin,Sem.run_bind,Sem.run_pure,Result.andThen_ok,List.map_toArray,List.map_cons,List.map_nil,k,n,t];exact q _ _ (h v' e u y z)
end
theorem Near.B' (h:Near w1 v v') (a:w.heap.size<=w1.heap.size):Near w v v':=fun k b=>by
 rcases h k b with h | h
 .exact .inl h
 .exact .inr (Nat.le_trans a h)
theorem gq (v:Value) (l:B8) (n:Int) (a:Nat) (w:World) (d:Ow a w v l) (G:a<=w.heap.size) (H:l.length<=100000000) :
  Calls Tryz.prog 143 #[v,.int .i64 n] w fun e B=>∃v',e=.returned v'/\Ow a B v' (l++(putW n).1)/\w.grownBy B v.ownBlock/\Near w v v':=by
 have E:Hid _:=d;have k:(putW n).1.length<=9:=by
  unfold putW;split
  .simp
  .exact bF (by omega)
 have o:v=.slice none 0 0\/∃g c,v=.slice (some ⟨g,0,none⟩) l.length c:=by
  rcases d.2 with⟨h,-⟩ | ⟨g,c,F,h,-⟩
  .exact .inl h
  .exact .inr ⟨g,c,h⟩
 clear d;obtain⟨I,J,K,rfl⟩:∃b n c,v=.slice b n c:=by
  rcases o with h | ⟨g,c,h⟩
  iterate 2
   .exact ⟨_,_,_,h⟩
 clear o;have u:Hid _:=yz n w;obtain⟨⟨p,e⟩,C⟩:∃q,putW n=q:=⟨_,rfl⟩;rw[C]at k u ⊢;clear C;go_enter Tryz.func143,Tryz.ntmps143;go_wp2_with fail;go_at_call 199;refine Calls.mono u.out ?_;rintro L w1 ⟨⟨x,rfl,D⟩,i⟩;have y:Hid (IsBytes w1 x p):=by unfold Hid IsBytes;exact Row.BM D (by omega)
 have r:Hid (Ext w w1):=i;have t:=i.size;clear D i u
 try dsimp only at k ⊢
 go_wp2_with (at_builtin;go_must (refine jh rfl _ _ rfl rfl a _ l rfl (al E.out r.out) _ p rfl y.out (by omega) (by omega) ?_;intro v' M j z A))
 go_ret;exact⟨_,rfl,j,pJ r.out z,A.B' t⟩
theorem lF (v:Value) (l id:B8) (a:Nat) (w:World) (d:Ow a w v l) (J:a<=w.heap.size) (K:l.length<=100000000) (i:av id=true) :
  Calls Tryz.prog 144 #[v,S8 id] w fun e E=>∃v',e=.returned v'/\Ow a E v' (l++aQ id)/\w.grownBy E v.ownBlock/\Near w v v':=by
 have H:Hid _:=d;obtain⟨y,-⟩:=gp i;obtain⟨L,M,N,rfl⟩:∃b n c,v=.slice b n c:=by
  rcases d.2 with⟨h,-⟩ | ⟨g,c,I,h,-⟩
  iterate 2
   .exact ⟨_,_,_,h⟩
 clear d;have z:id.length<=30000000:=by
  unfold av at i
  cases o:aW id with
  | none=>rw[o]at i;cases i
  | some b =>
   rw[o]at i;have O:=(dE id o).1;have:b.length=32:=by simpa using i
   omega
 have q:aW id=some (aQ id):=by
  unfold av at i;unfold aQ
  cases o:aW id with
  | none=>rw[o]at i;cases i
  | some b=>rfl
 have r:=oX id w (Nat.le_trans z (by decide));unfold de at r;rw[q]at r;dsimp only at r;have A:Hid _:=r;obtain⟨p,F⟩:∃p,aQ id=p:=⟨_,rfl⟩;rw[F]at y A ⊢;clear r F q i;go_enter Tryz.func144,Tryz.ntmps144;go_wp2_with fail;go_at_call 53;refine Calls.mono A.out ?_;rintro P w1 ⟨⟨x,rfl,G⟩,j⟩;have B:Hid (IsBytes w1 x p):=G;have t:Hid (Ext w w1):=j;have u:=j.size;clear G j A
 go_wp2_with (at_builtin;go_must (refine jh rfl _ _ rfl rfl a _ l rfl (al H.out t.out) _ p rfl B.out (by omega) (by omega) ?_;intro v' Q k C D))
 go_ret;exact⟨_,rfl,k,pJ t.out C,D.B' u⟩
end
section
open Go Go.RowKit
structure ChJ (w0:World) (base:Nat) (v0:Value) (c:UInt8) (l0 l1 l2 l3:B8) (zl za zb zc:Option Value) (w:World):Prop where
 ext:w0.grownBy w v0.ownBlock
 cur:∃cv cl,((za=none/\zb=none/\zc=none/\cv=v0/\cl=l0)\/(za=some cv/\zb=none/\zc=none/\cl=l1)\/(za≠none/\zb=some cv/\zc=none/\cl=l2)\/(za≠none/\zb≠none/\zc=some cv/\cl=l3)) /\
  Ow base w cv cl/\Near w0 v0 cv/\∀u,zl=some u->∃g,u=.slice (some ⟨g,0,none⟩) 1 1/\w.heap[g]? = some (.cells #[.int .u8 c.toNat] 5 (0,0))/\cv.ownBlock≠some g
section
variable {w0 w w':World} {base:Nat} {v0 v':Value} {c:UInt8} {l0 l1 l2 l3:B8} {zl za zb zc:Option Value}
theorem ChJ.start (h:Ow base w0 v0 l0) (a:Ext w0 w):ChJ w0 base v0 c l0 l1 l2 l3 none none none none w :=
 ⟨a.grown.but _,v0,l0,.inl ⟨rfl,rfl,rfl,rfl,rfl⟩,al h a,fun k b=>.inl b,fun u d=>by cases d⟩
variable {x:Value}
theorem ChJ.cell {a:Addr} (h:ChJ w0 base v0 c l0 l1 l2 l3 zl za zb zc w) (b:v0.ownBlock≠some a.block) (d:w0.cell? a=some x):w.cell? a=some x:=by
 rw[World.cell?_of_block (h.ext.block _ (World.block_lt_of_cell? _ _ d) (fun e=>b e.symm))];exact d
theorem fL {d:Value} {g:Nat} (l:w0.grownBy w v0.ownBlock) (a:Near w0 v0 d) (n:w.grownBy w' d.ownBlock) (p:Near w d v'):w0.grownBy w' v0.ownBlock/\Near w0 v0 v'/\(∀g o,w.heap[g]? = some o->d.ownBlock≠some g->w'.heap[g]? = some o/\v'.ownBlock≠some g):=by
 refine⟨l.andThen n (fun j r=>?_),fun k t=>?_,fun g o q b=>?_⟩
 .rcases a j r with h | h
  .exact .inr h
  .exact .inl h
 .rcases p k t with h | h
  .exact a k h
  .exact .inr (Nat.le_trans l.size h)
 .have i:=(Array.getElem?_eq_some_iff.1 q).1;refine⟨(n.block g i (fun e=>b e.symm)).trans q,fun e=>?_⟩;rcases p g e with h | h
  .exact b h
  .omega
theorem ChJ.CN (h:ChJ w0 base v0 c l0 l1 l2 l3 zl none zb zc w):Ow base w v0 l0:=by
 obtain⟨d,e,a,b,-⟩:=h.cur;rcases a with⟨-,-,-,rfl,rfl⟩ | ⟨h,-⟩ | ⟨h,-⟩ | ⟨h,-⟩
 .exact b
 .cases h
 iterate 2
  .exact absurd rfl h
theorem ChJ.CS (h:ChJ w0 base v0 c l0 l1 l2 l3 zl none zb zc w) (j:Ow base w' v' l1) (k:w.grownBy w' v0.ownBlock) (l:Near w v0 v'):ChJ w0 base v0 c l0 l1 l2 l3 zl (some v') zb zc w':=by
 obtain⟨y,z,n,-,b,o⟩:=h.cur;rcases n with⟨-,p,q,rfl,rfl⟩ | ⟨h,-⟩ | ⟨h,-⟩ | ⟨h,-⟩
 .obtain ⟨r,t,d⟩:=fL (g:=0) h.ext b k l;refine⟨r,v',l1,.inr (.inl ⟨rfl,p,q,rfl⟩),j,t,fun u x=>?_⟩;obtain⟨g,e,i,a⟩:=o u x;exact⟨g,e,(d g _ i a).1,(d g _ i a).2⟩
 .cases h
 iterate 2
  .exact absurd rfl h
variable {u:Value}
theorem ChJ.CO (h:ChJ w0 base v0 c l0 l1 l2 l3 zl za none zc w) (b:za=some u):Ow base w u l1:=by
 obtain⟨g,i,d,e,-⟩:=h.cur;rcases d with⟨a,-⟩ | ⟨a,-,-,rfl⟩ | ⟨-,a,-⟩ | ⟨-,a,-⟩
 .rw [b]at a;cases a
 .rw [b]at a;cases a;exact e
 .cases a
 .exact absurd rfl a
theorem ChJ.CM (h:ChJ w0 base v0 c l0 l1 l2 l3 zl za none zc w) (d:za=some u) (l:Ow base w' v' l2) (n:w.grownBy w' u.ownBlock) (o:Near w u v'):ChJ w0 base v0 c l0 l1 l2 l3 zl za (some v') zc w':=by
 obtain⟨z,A,p,-,i,q⟩:=h.cur;rcases p with⟨a,-⟩ | ⟨a,-,r,rfl⟩ | ⟨-,a,-⟩ | ⟨-,a,-⟩
 .rw [d]at a;cases a
 .rw [d]at a;cases a;obtain⟨t,x,j⟩:=fL (g:=0) h.ext i n o;refine⟨t,v',l2,.inr (.inr (.inl ⟨by rw[d];simp,rfl,r,rfl⟩)),l,x,fun u y=>?_⟩;obtain⟨g,e,k,b⟩:=q u y;exact⟨g,e,(j g _ k b).1,(j g _ k b).2⟩
 .cases a
 .exact absurd rfl a
theorem ChJ.CD (h:ChJ w0 base v0 c l0 l1 l2 l3 zl za zb none w) (b:zb=some u):Ow base w u l2:=by
 obtain⟨g,i,d,e,-⟩:=h.cur;rcases d with⟨-,a,-⟩ | ⟨-,a,-⟩ | ⟨-,a,-,rfl⟩ | ⟨-,-,a,-⟩
 iterate 2
  .rw [b]at a;cases a
 .rw [b]at a;cases a;exact e
 .cases a
theorem ChJ.Dm (h:ChJ w0 base v0 c l0 l1 l2 l3 zl za zb none w) (b:zb=some u):Near w0 v0 u:=by
 obtain⟨g,i,d,-,e,-⟩:=h.cur;rcases d with⟨-,a,-⟩ | ⟨-,a,-⟩ | ⟨-,a,-,rfl⟩ | ⟨-,-,a,-⟩
 iterate 2
  .rw [b]at a;cases a
 .rw [b]at a;cases a;exact e
 .cases a
theorem ChJ.DD (h:ChJ w0 base v0 c l0 l1 l2 l3 zl za zb none w) (d:zb=some u) (l:Ow base w' v' l3) (n:w.grownBy w' u.ownBlock) (o:Near w u v'):ChJ w0 base v0 c l0 l1 l2 l3 zl za zb (some v') w':=by
 obtain⟨z,A,p,-,i,q⟩:=h.cur;rcases p with⟨-,a,-⟩ | ⟨-,a,-⟩ | ⟨r,a,-,rfl⟩ | ⟨-,-,a,-⟩
 iterate 2
  .rw [d]at a;cases a
 .rw [d]at a;cases a;obtain⟨t,x,j⟩:=fL (g:=0) h.ext i n o;refine⟨t,v',l3,.inr (.inr (.inr ⟨r,by rw[d];simp,rfl,rfl⟩)),l,x,fun u y=>?_⟩;obtain⟨g,e,k,b⟩:=q u y;exact⟨g,e,(j g _ k b).1,(j g _ k b).2⟩
 .cases a
theorem ChJ.CQ (h:ChJ w0 base v0 c l0 l1 l2 l3 zl za zb zc w) (b:zc=some u):Ow base w u l3:=by
 obtain⟨g,i,d,e,-⟩:=h.cur;rcases d with⟨-,-,a,-⟩ | ⟨-,-,a,-⟩ | ⟨-,-,a,-⟩ | ⟨-,-,a,rfl⟩
 iterate 3
  .rw [b]at a;cases a
 .rw [b]at a;cases a;exact e
theorem ChJ.Cp (h:ChJ w0 base v0 c l0 l1 l2 l3 none za zb zc w):ChJ w0 base v0 c l0 l1 l2 l3 (some (.slice (some ⟨w.heap.size,0,none⟩) 1 1)) za zb zc (w.alloc (.cells #[.int .u8 c.toNat] 5)):=by
 obtain⟨g,i,j,b,a,l⟩:=h.cur;have d:Ext w (w.alloc (.cells #[.int .u8 c.toNat] 5)):=(Ext.refl w).alloc _;refine⟨h.ext.trans (d.grown.but _),g,i,j,al b d,a,fun u k=>?_⟩;cases k;exact⟨_,rfl,ab _ _,fun e=>by have:=(b.lt _ e).2;omega⟩
theorem ChJ.lit (h:ChJ w0 base v0 c l0 l1 l2 l3 zl za zb zc w) (a:zl=some u):IsBytes w u [c]:=by
 obtain⟨e,i,-,-,-,b⟩:=h.cur;obtain⟨g,rfl,d,-⟩:=b u a;exact Row.new d (by decide) _ rfl
theorem ChJ.size (h:ChJ w0 base v0 c l0 l1 l2 l3 zl za zb zc w):w0.heap.size<=w.heap.size:=h.ext.size
theorem ChJ.CG (h:ChJ w0 base v0 c l0 (l0++[c]) l2 l3 zl none zb zc w) (a:zl=some u) (b:base<=w0.heap.size) (j:l0.length<=100000000) :
  ∃v' w',(Builtin.append_ #[37,37] 37 #[v0,u]).run Tryz.prog w=.ok v' w'/\ChJ w0 base v0 c l0 (l0++[c]) l2 l3 zl (some v') zb zc w':=by
 obtain⟨v',w',d,e,g,i⟩:=gL base 37 v0 l0 h.CN u [c] (h.lit a) (by simp;omega) (Nat.le_trans b h.size);exact⟨v',w',d,h.CS e g i⟩
theorem ChJ.CH (h:ChJ w0 base v0 c l0 l1 (l1++[c]) l3 zl za none zc w) (b:zl=some x) (a:za=some u) (d:base<=w0.heap.size) (k:l1.length<=100000000) :
  ∃v' w',(Builtin.append_ #[37,37] 37 #[u,x]).run Tryz.prog w=.ok v' w'/\ChJ w0 base v0 c l0 l1 (l1++[c]) l3 zl za (some v') zc w':=by
 obtain⟨v',w',e,g,i,j⟩:=gL base 37 u l1 (h.CO a) x [c] (h.lit b) (by simp;omega) (Nat.le_trans d h.size);exact⟨v',w',e,h.CM a g i j⟩
theorem ChJ.C1 (h:ChJ w0 base v0 c l0 (l0++l1) l2 l3 zl none zb zc w) (a:base<=w0.heap.size) (j:l0.length<=100000000) (b:l1.length<=100000000) :
  ∃v' w',(Builtin.append_ #[37,9] 37 #[v0,S8 l1]).run Tryz.prog w=.ok v' w'/\ChJ w0 base v0 c l0 (l0++l1) l2 l3 zl (some v') zb zc w':=by
 obtain⟨v',w',d,e,g,i⟩:=mW base v0 l0 h.CN l1 (by omega) (Nat.le_trans a h.size);exact⟨v',w',d,h.CS e g i⟩
end
theorem et {c:Prop} [Decidable c] {a:Operand->Value} {R:Value->World->Prop} {o:Oper} {w:World} (s x:Operand) (t u:TypeId) {v xv v':Value} {w':World} (b:c) (d:o.op=.call { callee:=.builtin .append,args:=#[s,x],argTypes:=#[t,u] })
  (e:a s=v) (g:a x=xv) (i:(Builtin.append_ #[t,u] o.type #[v,xv]).run Tryz.prog w=.ok v' w') (h:R v' w') :
  if c then eN Tryz.prog R ((execOp a o).run Tryz.prog w)else R undef w:=by
 rw[if_pos b];unfold execOp;simp only[d,resolve,invoke,builtin,Sem.run_bind,Sem.run_pure,Result.andThen_ok,List.map_toArray,List.map_cons,List.map_nil,e,g,i];exact h
end
end Go.Proofs.YtfabjgfmiaammaaGreatDoor
