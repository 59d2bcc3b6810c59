/- Contracts of the program's functions and plain laws behind the card. Conditions: as each theorem states. -/
import Derived.Test.YtfabjgfmiaammaaGreatDoorYam
import Derived.Test.YtfabjgfmiaammaaGreatDoorYal
import Derived.Test.YtfabjgfmiaammaaGreatDoorYag
import Derived.Test.YtfabjgfmiaammaaGreatDoorYac
import Derived.Test.YtfabjgfmiaammaaGreatDoorYae
set_option linter.unusedVariables false
set_option linter.unusedSimpArgs false
set_option linter.unusedSectionVars false
set_option maxRecDepth 100000
set_option maxHeartbeats 64000000
namespace Go.Proofs.YtfabjgfmiaammaaGreatDoor
section
open Go Go.RowKit
end
section
open Go Go.RowKit
theorem wW (w:World):km w (.slice none 0 0) []:=⟨[],Row.nil _,Each.nil _⟩
end
section
open Go Go.RowKit
structure Itm where
 mode:Int
 name:B8
 id:B8
structure Ob where
 kind:Int
 data:B8
 items:List Itm
 tree:B8
 parents:List B8
 BU:Int
 BS:Int
 msg:B8
def ob0:Ob:=⟨0,[],[],[],[],0,0,[]⟩
def bJ:List B8->Bool
 | a::b::l=>ltB a b && bJ (b::l)
 | _=>true
def bM (x:Itm):Bool:=decide (1<=x.mode) && (decide (x.mode<=4) && (bW x.name && al x.id))
def cI (l:List Itm):Bool:=l.all bM && (bJ (l.map (·.name)) && decide (l.length<=256))
def dJ (l:List B8):Bool:=l.all al && (bJ l && decide (l.length<=2))
def dS (s:B8):Bool:=s.all (fun c=>decide (32<=c.toNat) && decide (c.toNat<=126)) && decide (s.length<=200)
def gZ (o:Ob):Bool:=(o.tree==[]) && ((o.parents.length==0) && ((o.BU==0) && ((o.BS==0) && (o.msg==[]))))
def bP (o:Ob):Bool :=
 if o.kind=1 then decide (o.data.length<=20000) && ((o.items.length==0) && gZ o)
 else if o.kind=2 then(o.data.length==0) && (cI o.items && gZ o)
 else if o.kind=3 then(o.data.length==0) && ((o.items.length==0) && (al o.tree && (dJ o.parents && ((decide (0<=o.BU) && decide (o.BU<=1099511627776)) && ((decide (0<=o.BS) && decide (o.BS<=255)) && dS o.msg)))))
 else false
def aQ (id:B8):B8:=(aY id).getD []
def bz (x:Itm):B8:=UInt8.ofNat x.mode.toNat::(ar x.name.length++(x.name++aQ x.id))
def l7 (o:Ob):B8 :=
 if o.kind=1 then o.data
 else if o.kind=2 then ar o.items.length++o.items.flatMap bz
 else aQ o.tree++(UInt8.ofNat o.parents.length::(o.parents.flatMap aQ++(ar o.BU.toNat++(ar o.BS.toNat++(ar o.msg.length++o.msg)))))
def eI (o:Ob):B8:=UInt8.ofNat o.kind.toNat::l7 o
def aW (o:Ob):B8×Int:=if bP o=true then(eI o,0)else([],1)
structure Src where
 b:B8
 bad:Bool
def aD (s:Src) (n:Nat):Src×B8:=if s.bad=true\/s.b.length<n then(⟨s.b,true⟩,[])else(⟨s.b.drop n,s.bad⟩,s.b.take n)
def bp (s:Src):Src×Nat:=((aD s 1).1,((aD s 1).2.headD 0).toNat)
def aJ (a:Bool) (s:Src):Src×Nat:=if(cR s.b).2.2≠0\/(a=true/\s.bad=true)then(⟨s.b,true⟩,0)else((aD s (cR s.b).2.1).1,(cR s.b).1)
def bn (s:Src):Src×B8:=((aD s 32).1,cd (aD s 32).2)
def eF (a:Bool) (s:Src):Src×Itm :=
 ((bn (aD (aJ a (bp s).1).1 (aJ a (bp s).1).2).1).1,⟨(bp s).2,(aD (aJ a (bp s).1).1 (aJ a (bp s).1).2).2,(bn (aD (aJ a (bp s).1).1 (aJ a (bp s).1).2).1).2⟩)
def cQ (a:Bool):Nat->Src->List Itm->Src×List Itm
 | 0,s,l=>(s,l)
 | n+1,s,l=>if s.bad=true then(s,l)else cQ a n (eF a s).1 (l++[(eF a s).2])
def dr:Nat->Src->List B8->Src×List B8
 | 0,s,l=>(s,l)
 | n+1,s,l=>if s.bad=true then(s,l)else dr n (bn s).1 (l++[(bn s).2])
def lj (a:Bool) (b:Int) (c:B8) (x:Src×List B8):Src×Ob :=
 ((aD (aJ a (aJ a (aJ a x.1).1).1).1 (aJ a (aJ a (aJ a x.1).1).1).2).1,
  ⟨b,[],[],c,x.2,(aJ a x.1).2,(aJ a (aJ a x.1).1).2,(aD (aJ a (aJ a (aJ a x.1).1).1).1 (aJ a (aJ a (aJ a x.1).1).1).2).2⟩)
def bX (c:Bool) (a:Int) (b:B8):Src×Ob :=
 if a=1 then(⟨[],false⟩,⟨a,b,[],[],[],0,0,[]⟩)
 else if a=2 then
  ((cQ c (aJ c ⟨b,false⟩).2 (aJ c ⟨b,false⟩).1 []).1,⟨a,[],(cQ c (aJ c ⟨b,false⟩).2 (aJ c ⟨b,false⟩).1 []).2,[],[],0,0,[]⟩)
 else if a=3 then lj c a (bn ⟨b,false⟩).2 (dr (bp (bn ⟨b,false⟩).1).2 (bp (bn ⟨b,false⟩).1).1 [])
 else(⟨b,false⟩,⟨a,[],[],[],[],0,0,[]⟩)
def dF:B8->Ob×Int
 | []=>(ob0,2)
 | c::l=>if bP (bX false c.toNat l).2=true/\eI (bX false c.toNat l).2=c::l then((bX false c.toNat l).2,0)else(ob0,4)
theorem tC:∀(s:B8) {b:B8},aY s=some b->cd b=s
 | [],b,h=>by
  have:b=[]:=by simpa [aY]using h.symm
  subst this;rfl
 | [x],b,h=>by simp[aY]at h
 | x::y::l,b,h=>by
  unfold aY at h;split at h
  .rename_i a
   cases e:aY l with
   | none=>rw[e]at h;simp at h
   | some r =>
    rw[e]at h;have h:UInt8.ofNat (16*bw x+bw y)::r=b:=by simpa using h
    subst h;have i:=tC l e;have:cd (UInt8.ofNat (16*bw x+bw y)::r)=aT.getD ((UInt8.ofNat (16*bw x+bw y)).toNat / 16) 0::aT.getD ((UInt8.ofNat (16*bw x+bw y)).toNat%16) 0::cd r:=by unfold cd;rw[List.flatMap_cons];rfl
    rw[this,i,UInt8.toNat_ofNat',show(16*bw x+bw y)%2 ^ 8 / 16=bw x by omega,show(16*bw x+bw y)%2 ^ 8%16=bw y by omega];have g:∀c:UInt8,bw c<16->aT.getD (bw c) 0=c:=fun c a=>by
     have d:List.idxOf c aT<aT.length:=a;unfold bw;rw[List.getD_eq_getElem?_getD,List.getElem?_eq_getElem d,Option.getD_some,List.getElem_idxOf]
    rw[g x a.1,g y a.2]
  .cases h
variable {id:B8}
theorem gF (h:al id=true):(aQ id).length=32/\cd (aQ id)=id:=by
 unfold al at h;unfold aQ
 cases a:aY id with
 | none=>rw[a]at h;cases h
 | some b =>
  rw[a]at h;exact⟨by simpa using h,tC id a⟩
theorem jt (x r:B8):aD ⟨x++r,false⟩ x.length=(⟨r,false⟩,x):=by
 unfold aD;rw[if_neg (by simp)];simp
theorem tQ (c:UInt8) (r:B8):bp ⟨c::r,false⟩=(⟨r,false⟩,c.toNat):=by
 unfold bp;rw[show(⟨c::r,false⟩:Src)=⟨[c]++r,false⟩from rfl,show(1:Nat)=[c].length from rfl,jt];rfl
theorem ka (a:Bool) {n:Nat} (h:n<=bi) (r:B8):aJ a ⟨ar n++r,false⟩=(⟨r,false⟩,n):=by
 unfold aJ;simp only[Ae h r];rw[if_neg (by simp),jt]
theorem mY (h:al id=true) (r:B8):bn ⟨aQ id++r,false⟩=(⟨r,false⟩,id):=by
 obtain⟨a,b⟩:=gF h;unfold bn;rw[show(32:Nat)=(aQ id).length from a.symm,jt,b]
theorem kH {s:B8} (h:bW s=true):s.length<=64:=by
 unfold bW at h;simp only[Bool.and_eq_true,decide_eq_true_eq]at h;exact h.2.2.1
theorem ym (b:Bool) {x:Itm} (h:bM x=true) (r:B8):eF b ⟨bz x++r,false⟩=(⟨r,false⟩,x):=by
 unfold bM at h;simp only[Bool.and_eq_true,decide_eq_true_eq]at h;obtain⟨i,j,c,d⟩:=h;have k:=kH c;obtain⟨a,name,id⟩:=x;dsimp only at i j c d k;have e:bp ⟨bz ⟨a,name,id⟩++r,false⟩=(⟨ar name.length++(name++(aQ id++r)),false⟩,a.toNat):=by
  have:bz ⟨a,name,id⟩++r=UInt8.ofNat a.toNat::(ar name.length++(name++(aQ id++r))):=by unfold bz;simp
  rw[this,tQ,UInt8.toNat_ofNat',Nat.mod_eq_of_lt (by omega)]
 have g:aJ b ⟨ar name.length++(name++(aQ id++r)),false⟩=(⟨name++(aQ id++r),false⟩,name.length):=ka b (by unfold bi;omega) _;unfold eF;simp only[e,g,jt,mY d];rw[show((a.toNat:Nat):Int)=a by omega]
theorem pG (b:Bool):∀(l:List Itm) (r:B8) (a:List Itm),l.all bM=true->cQ b l.length ⟨l.flatMap bz++r,false⟩ a=(⟨r,false⟩,a++l)
 | [],r,a,_=>by simp[cQ]
 | x::l,r,a,h=>by
  simp only[List.all_cons,Bool.and_eq_true]at h;have c:=pG b l r (a++[x]) h.2;rw[List.length_cons,cQ,if_neg (by simp),List.flatMap_cons,List.append_assoc,ym b h.1,c];simp
theorem rx:∀(l:List B8) (r:B8) (a:List B8),l.all al=true->dr l.length ⟨l.flatMap aQ++r,false⟩ a=(⟨r,false⟩,a++l)
 | [],r,a,_=>by simp[dr]
 | x::l,r,a,h=>by
  simp only[List.all_cons,Bool.and_eq_true]at h;have b:=rx l r (a++[x]) h.2;rw[List.length_cons,dr,if_neg (by simp),List.flatMap_cons,List.append_assoc,mY h.1,b];simp
variable {o:Ob}
theorem yV (i:Bool) (h:bP o=true):∃s:Src,s.bad=false/\bX i o.kind (l7 o)=(s,o):=by
 obtain⟨t,q,e,u,b,d,a,c⟩:=o;unfold bP at h;dsimp only at h ⊢;unfold l7 bX;dsimp only;split at h
 .rename_i g;rw[if_pos g,if_pos g];unfold gZ at h;simp only[Bool.and_eq_true,decide_eq_true_eq,beq_iff_eq,List.length_eq_zero_iff]at h;obtain⟨-,rfl,rfl,rfl,rfl,rfl,rfl⟩:=h;exact⟨_,rfl,rfl⟩
 .rename_i j;rw[if_neg j,if_neg j];split at h
  .rename_i g;rw[if_pos g,if_pos g];unfold gZ cI at h;simp only[Bool.and_eq_true,decide_eq_true_eq,beq_iff_eq,List.length_eq_zero_iff]at h;obtain⟨rfl,⟨C,-,I⟩,rfl,rfl,rfl,rfl,rfl⟩:=h;have l:=ka i (n:=e.length) (by unfold bi;omega) (e.flatMap bz);have p:=pG i e [] [] C;rw[List.append_nil]at p;simp only[l,p];exact⟨_,rfl,rfl⟩
  .rename_i k;rw[if_neg k,if_neg k];split at h
   .rename_i g;rw[if_pos g];unfold dJ dS at h;simp only[Bool.and_eq_true,decide_eq_true_eq,beq_iff_eq,List.length_eq_zero_iff]at h;obtain⟨rfl,rfl,H,⟨D,-,E⟩,⟨F,G⟩,⟨A,B⟩,-,J⟩:=h;have w:=mY H (UInt8.ofNat b.length::(b.flatMap aQ++(ar d.toNat++(ar a.toNat++(ar c.length++c)))));have l:=tQ (UInt8.ofNat b.length) (b.flatMap aQ++(ar d.toNat++(ar a.toNat++(ar c.length++c))));rw[UInt8.toNat_ofNat',Nat.mod_eq_of_lt (by omega)]at l;have p:=rx b (ar d.toNat++(ar a.toNat++(ar c.length++c))) [] D;have x:=ka i (n:=d.toNat) (by unfold bi;omega) (ar a.toNat++(ar c.length++c));have y:=ka i (n:=a.toNat) (by unfold bi;omega) (ar c.length++c);have z:=ka i (n:=c.length) (by unfold bi;omega) c;have r:=jt c [];rw[List.append_nil]at r;unfold lj;simp only[w,l,p,x,y,z,r,List.nil_append];refine⟨⟨[],false⟩,rfl,?_⟩;rw[show((d.toNat:Nat):Int)=d by omega,show((a.toNat:Nat):Int)=a by omega]
   .cases h
theorem kE (h:bP o=true):o.kind=1\/o.kind=2\/o.kind=3:=by
 unfold bP at h;split at h
 .rename_i a;exact .inl a
 .split at h
  .rename_i a;exact .inr (.inl a)
  .split at h
   .rename_i a;exact .inr (.inr a)
   .cases h
theorem oq (b:Bool) (h:bP o=true) {c:UInt8} {l:B8} (a:eI o=c::l):∃s:Src,s.bad=false/\bX b c.toNat l=(s,o):=by
 have d:=kE h;unfold eI at a;simp only[List.cons.injEq]at a;obtain⟨rfl,rfl⟩:=a;have:((UInt8.ofNat o.kind.toNat).toNat:Int)=o.kind:=by rw[UInt8.toNat_ofNat'];omega
 rw[this];exact yV b h
theorem i8 (c:UInt8) (l:B8):dF (c::l)=if bP (bX false c.toNat l).2=true/\eI (bX false c.toNat l).2=c::l then((bX false c.toNat l).2,0)else(ob0,4):=rfl
theorem un (c:UInt8) (l:B8):dF (c::l)=if(bX true c.toNat l).1.bad=true\/bP (bX true c.toNat l).2≠true\/eI (bX true c.toNat l).2≠c::l then(ob0,4)else((bX true c.toNat l).2,0):=by
 by_cases h:bP (bX false c.toNat l).2=true/\eI (bX false c.toNat l).2=c::l
 .obtain ⟨s,g,b⟩:=oq true h.1 h.2;rw[i8,if_pos h,b,if_neg (by rw[g];simp[h.1,h.2])]
 .rw [i8,if_neg h]
  by_cases a:bP (bX true c.toNat l).2=true/\eI (bX true c.toNat l).2=c::l
  .obtain ⟨s,g,b⟩:=oq false a.1 a.2;rw[b]at h;exact(h a).elim
  .rw [if_pos]
   by_cases d:bP (bX true c.toNat l).2=true
   .exact .inr (.inr fun e=>a ⟨d,e⟩)
   .exact .inr (.inl d)
end
section
open Go Go.RowKit
def fO (c:UInt8):Int:=if 48<=c.toNat/\c.toNat<=57 then c.toNat - 48 else if 97<=c.toNat/\c.toNat<=102 then c.toNat - 87 else -1
theorem xS:∀n:Fin 256,fO (UInt8.ofNat n.val)=if bw (UInt8.ofNat n.val)<16 then(bw (UInt8.ofNat n.val):Int)else -1:=by decide +kernel
theorem vH (c:UInt8):fO c=if bw c<16 then(bw c:Int)else -1:=by
 have:=xS ⟨c.toNat,c.toNat_lt⟩;simpa using this
theorem pu (c:UInt8) (w:World) :
  Calls Tryz.prog 204 #[.int .u8 c.toNat] w fun e n=>e=.returned (.int .i64 (fO c))/\n=w:=by
 have o:=c.toNat_lt
 by_cases h:48<=c.toNat
 .by_cases i:c.toNat<=57
  .have a:Hid (fO c=(c.toNat:Int) - 48):=by unfold Hid fO;rw[if_pos ⟨h,i⟩]
   have b:(48:Int)<=c.toNat:=by omega
   have d:(c.toNat:Int)<=57:=by omega
   go_enter Tryz.func204,Tryz.ntmps204;go_wp2;go_ret;exact⟨by rw[a.out];first | rfl | (congr 2;omega),rfl⟩
  .by_cases j:97<=c.toNat
   .by_cases k:c.toNat<=102
    .have a:Hid (fO c=(c.toNat:Int) - 97+10):=by unfold Hid fO;rw[if_neg (show ¬(48<=c.toNat/\c.toNat<=57)by omega),if_pos ⟨j,k⟩];omega
     have b:(48:Int)<=c.toNat:=by omega
     have d:¬(c.toNat:Int)<=57:=by omega
     have g:(97:Int)<=c.toNat:=by omega
     have l:(c.toNat:Int)<=102:=by omega
     go_enter Tryz.func204,Tryz.ntmps204;go_wp2;go_ret;exact⟨by rw[a.out];first | rfl | (congr 2;omega),rfl⟩
    .have a:Hid (fO c = -1):=by unfold Hid fO;rw[if_neg (show ¬(48<=c.toNat/\c.toNat<=57)by omega),if_neg (show ¬(97<=c.toNat/\c.toNat<=102)by omega)]
     have b:(48:Int)<=c.toNat:=by omega
     have d:¬(c.toNat:Int)<=57:=by omega
     have g:(97:Int)<=c.toNat:=by omega
     have l:¬(c.toNat:Int)<=102:=by omega
     go_enter Tryz.func204,Tryz.ntmps204;go_wp2;go_ret;exact⟨by rw[a.out];rfl,rfl⟩
   .have a:Hid (fO c = -1):=by unfold Hid fO;rw[if_neg (show ¬(48<=c.toNat/\c.toNat<=57)by omega),if_neg (show ¬(97<=c.toNat/\c.toNat<=102)by omega)]
    have b:(48:Int)<=c.toNat:=by omega
    have d:¬(c.toNat:Int)<=57:=by omega
    have g:¬(97:Int)<=c.toNat:=by omega
    go_enter Tryz.func204,Tryz.ntmps204;go_wp2;go_ret;exact⟨by rw[a.out];rfl,rfl⟩
 .have a:Hid (fO c = -1):=by unfold Hid fO;rw[if_neg (show ¬(48<=c.toNat/\c.toNat<=57)by omega),if_neg (show ¬(97<=c.toNat/\c.toNat<=102)by omega)]
  have b:¬(48:Int)<=c.toNat:=by omega
  have g:¬(97:Int)<=c.toNat:=by omega
  go_enter Tryz.func204,Tryz.ntmps204;go_wp2;go_ret;exact⟨by rw[a.out];rfl,rfl⟩
theorem mF (l:B8) (w:World) (hl:l.length<=140737488355328) :
  Calls Tryz.prog 148 #[S8 l] w (dm l w):=by
 have hd:(⟨l.toArray⟩:ByteArray).toList=l:=Lib.toList_data _
 by_cases u:l.length%2=0
 .obtain ⟨m,G⟩:∃m,l.length=2*m:=⟨l.length / 2,by omega⟩;have t:(l.length:Int).tmod 2=0:=by
   rw[G];exact Int.tmod_eq_zero_of_dvd ⟨(m:Int),by push_cast;rfl⟩
  have HM:Hid _:=G;clear u;go_enter Tryz.func148,Tryz.ntmps148;go_wp2;clear t;go_loopw [4,5] (fun v i wr=>∃(k:Nat) (B:B8),2*k<=l.length/\i=.int .i64 (2*k)/\B.length=k/\Hid (aY (l.take (2*k))=some B)/\wr.ownsRow w.heap.size 5 1 v k (B.map fun x=>.int .u8 x.toNat)/\Ext w wr) (fun _ i _=>l.length - (intOf i).toNat)
  case atStart=>exact⟨0,[],Nat.zero_le _,rfl,rfl,rfl,World.ownsRow_nil _ _ _ _,Ext.refl _⟩
  case round =>
   obtain⟨k,B,q,rfl,E,O,d,hx⟩:=hrel;have G:=HM.out
   by_cases a8:2*k<l.length
   .have o:2*k+1<l.length:=by omega
    have a6:2*(k:Int)<(l.length:Int):=by omega
    have a7:(2*(k:Int)+1)<(l.length:Int):=by omega
    have J:IntKind.i64.wrap (2*(k:Int)+1)=2*(k:Int)+1:=IntWalk.i64_in _ (by omega);have HW:Hid _:=J;obtain⟨x,L⟩:∃x,l.getD (2*k) 0=x:=⟨_,rfl⟩;obtain⟨y,M⟩:∃y,l.getD (2*k+1) 0=y:=⟨_,rfl⟩;have P:Hid _:=L;have Q:Hid _:=M;obtain⟨r,hr⟩:∃r,fO x=r:=⟨_,rfl⟩;obtain⟨s,hs⟩:∃s,fO y=s:=⟨_,rfl⟩;have U:Hid _:=hr;have W:Hid _:=hs;have a:=vH x;have b:=vH y;rw[hr]at a;rw[hs]at b;have T:Hid _:=a;have V:Hid _:=b;clear J G L M hr hs a b;go_wp2;apply ak 9 [_,_,.int .u8 x.toNat,.int .i64 r,_,_,_,.int .u8 y.toNat,.int .i64 s] [none,none,none,none,none,none,none,none,none] [[],[],[0,1],[2],[],[],[5],[4,6],[7]] (by kernel_rfl) (by kernel_rfl) (by simp[aq])
    .trivial
    .simp (maxSteps:=1000000)only[List.take_succ_cons,List.take_zero,ay,aE,ab,Act.put,List.setIfInBounds_toArray,List.set_cons_zero,List.set_cons_succ,aN,aS,aq,List.getD_cons_zero,List.getD_cons_succ,and_true,true_and,forall_const];and_intros
     iterate 2 · intro C N H;intros;rename_i n;go_simp;exact n _ _ (Ext.refl _) rfl
     .intro C N H q R n;obtain⟨ad,au⟩:=q;go_simp;rw[dif_pos (by omega)];exact n _ _ (Ext.refl _) (l9 (by omega) P.out (by show(2*(k:Int)).toNat<l.length;omega))
     .intro C N H q R n;go_simp;exact(pu x _).mono (by rintro e w8 ⟨rfl,rfl⟩;exact⟨_,rfl,n _ _ (Ext.refl _) (by rw[U.out])⟩)
     iterate 3 · intro C N H;intros;rename_i n;go_simp;exact n _ _ (Ext.refl _) rfl
     .intro C N H q R n;obtain⟨ad,au⟩:=q;go_simp;simp only[HW.out];rw[dif_pos ⟨by omega,by omega⟩];exact n _ _ (Ext.refl _) (l9 (by omega) Q.out (by show(2*(k:Int)+1).toNat<l.length;omega))
     .intro C N H q R n;go_simp;exact(pu y _).mono (by rintro e w8 ⟨rfl,rfl⟩;exact⟨_,rfl,n _ _ (Ext.refl _) (by rw[W.out])⟩)
    intro C w2 K q;simp only[aU,Nat.zero_add,Nat.reduceAdd,and_true]at q;simp(maxSteps:=1000000)only[List.take_succ_cons,List.take_zero,List.drop_succ_cons,List.drop_zero,ab,Act.put,List.setIfInBounds_toArray,List.set_cons_zero,List.set_cons_succ,Nat.zero_add,Nat.reduceAdd,q];clear q;have a:=T.out;have b:=V.out;have g:=Ext.trans hx K
    by_cases c:bw x<16
    .rw [if_pos c]at a
     by_cases j:bw y<16
     .rw [if_pos j]at b;obtain⟨z,hz⟩:∃z,UInt8.ofNat (16*bw x+bw y)=z:=⟨_,rfl⟩;have a3:16*r+s=(z.toNat:Int):=by
       rw[a,b,<-hz];simp only[UInt8.toNat_ofNat'];omega
      have a':IntKind.i64.wrap (16*r)=16*r:=IntWalk.i64_in _ (by omega);have a1:IntKind.i64.wrap (16*r+s)=16*r+s:=IntWalk.i64_in _ (by omega);rw[a3]at a1;have a2:=z.toNat_lt;have HZ:Hid _:=hz;have I:¬r<0:=by omega
      have a0:¬s<0:=by omega
      have a4:r<16:=by omega
      have a5:s<16:=by omega
      have Y:Hid _:=c;have Z:Hid _:=j;have p:=am d K;have a9:=g.size;clear a b hz c j d
      go_wp2_with (at_builtin;go_must (refine dP rfl _ _ rfl w.heap.size _ k _ rfl (p.alloc _) w2.heap.size 1 1 [z] rfl rfl (ae _ _) (by omega) (by simp;omega) ?_;intro v' w3 A aa))
      go_roundw
      case rel=>exact⟨k+1,B++[z],by omega,by go_num,by simp[E],by unfold Hid;rw[(kV o P.out Q.out O.out).2,if_pos ⟨Y.out,Z.out⟩,HZ.out],by simpa using A,aj (g.alloc _) (p.alloc _) aa⟩
      case measure=>simp[intOf];omega
     .rw [if_neg j]at b;have D:Hid _:=iP o P.out Q.out O.out (fun h=>j h.2);have I:¬r<0:=by omega
      have a0:s<0:=by omega
      clear a b c j;go_wp2;go_ret2;unfold dm;rw[D.out];exact⟨rfl,g⟩
    .rw [if_neg c]at a;have D:Hid _:=iP o P.out Q.out O.out (fun h=>c h.1);have I:r<0:=by omega
     clear a b c;go_wp2;go_ret2;unfold dm;rw[D.out];exact⟨rfl,g⟩
   .have hg:¬(2*(k:Int))<(l.length:Int):=by omega
    have F:2*k=l.length:=by omega
    have hu:=O.out;rw[F,List.take_length]at hu;have X:Hid _:=hu;have hb:IsBytes wr u4 B:=by
     unfold IsBytes;rw[E];exact Row.BV d (by omega)
    have S:Hid _:=hb;clear hb d hu F G;go_wp2;go_ret2;unfold dm;rw[X.out];exact⟨⟨_,rfl,S.out⟩,hx⟩
 .have ho:l.length%2=1:=by omega
  have t:(l.length:Int).tmod 2=1:=by rw[Int.tmod_eq_emod_of_nonneg (by omega)];omega
  have D:Hid _:=p8 ho;clear u ho;go_enter Tryz.func148,Tryz.ntmps148;go_wp2;go_ret2;unfold dm;rw[D.out];exact⟨rfl,Ext.refl _⟩
theorem fC (l:B8) (w:World) (r:l.length<=140737488355328) :
  Calls Tryz.prog 87 #[S8 l] w fun e t=>e=.returned (.bool (al l))/\Ext w t:=by
 go_enter Tryz.func87,Tryz.ntmps87;go_wp2_with fail;go_at_call 148;refine(mF l w r).mono ?_;rintro e y ⟨h,p⟩;have i:Hid (al l=match aY l with | some b=>b.length==32 | none=>false):=rfl
 cases a:aY l with
 | none =>
  rw[a]at h;have k:Hid (al l=false):=by unfold Hid;rw[i.out,a]
  subst h;clear a i;go_wp2;go_ret;exact⟨by rw[k.out];rfl,p⟩
 | some b =>
  rw[a]at h;obtain⟨v,rfl,n⟩:=h;obtain⟨u,x,rfl,-⟩:=id n;have o:al l=(b.length==32):=by rw[i.out,a]
  have g:=(dN l a).1;have d:(((b.length:Nat):Int)==32)=al l:=by
   rw[o]
   by_cases c:b.length=32
   .rw [c];rfl
   .have q:(b.length==32)=false:=by simpa using c
    rw[q];simp only[beq_eq_false_iff_ne,ne_eq];omega
  have j:Hid _:=d;clear a i o n d g;go_wp2;go_ret;exact⟨by rw[<-j.out];rfl,p⟩
end
end Go.Proofs.YtfabjgfmiaammaaGreatDoor
