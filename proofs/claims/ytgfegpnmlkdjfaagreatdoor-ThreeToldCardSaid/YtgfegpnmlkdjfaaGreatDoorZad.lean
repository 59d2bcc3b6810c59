/- Contracts of the program's functions and plain laws behind the card. Conditions: as each theorem states. -/
import Derived.Test.YtgfegpnmlkdjfaaGreatDoorZab
import Derived.Test.YtgfegpnmlkdjfaaGreatDoorZac
import Derived.Test.YtgfegpnmlkdjfaaGreatDoorZaa
set_option linter.unusedVariables false
set_option linter.unusedSimpArgs false
set_option linter.unusedSectionVars false
set_option maxRecDepth 100000
set_option maxHeartbeats 64000000
namespace Go.Proofs.YtgfegpnmlkdjfaaGreatDoor
section
open Go Go.RowKit
def dT:List UInt32:=[
 0x428A2F98,0x71374491,0xB5C0FBCF,0xE9B5DBA5,0x3956C25B,0x59F111F1,0x923F82A4,0xAB1C5ED5,
 0xD807AA98,0x12835B01,0x243185BE,0x550C7DC3,0x72BE5D74,0x80DEB1FE,0x9BDC06A7,0xC19BF174,
 0xE49B69C1,0xEFBE4786,0x0FC19DC6,0x240CA1CC,0x2DE92C6F,0x4A7484AA,0x5CB0A9DC,0x76F988DA,
 0x983E5152,0xA831C66D,0xB00327C8,0xBF597FC7,0xC6E00BF3,0xD5A79147,0x06CA6351,0x14292967,
 0x27B70A85,0x2E1B2138,0x4D2C6DFC,0x53380D13,0x650A7354,0x766A0ABB,0x81C2C92E,0x92722C85,
 0xA2BFE8A1,0xA81A664B,0xC24B8B70,0xC76C51A3,0xD192E819,0xD6990624,0xF40E3585,0x106AA070,
 0x19A4C116,0x1E376C08,0x2748774C,0x34B0BCB5,0x391C0CB3,0x4ED8AA4A,0x5B9CCA4F,0x682E6FF3,
 0x748F82EE,0x78A5636F,0x84C87814,0x8CC70208,0x90BEFFFA,0xA4506CEB,0xBEF9A3F7,0xC67178F2]
def dj:List UInt32:=[0x6A09E667,0xBB67AE85,0x3C6EF372,0xA54FF53A,0x510E527F,0x9B05688C,0x1F83D9AB,0x5BE0CD19]
def bg (x:UInt32) (n:UInt32):UInt32:=(x <<< n) ||| (x >>> (32 - n))
def be4 (b:B8) (i:Nat):UInt32 :=
 ((((b.getD (4*i) 0).toUInt32 <<< 24) ||| ((b.getD (4*i+1) 0).toUInt32 <<< 16)) ||| ((b.getD (4*i+2) 0).toUInt32 <<< 8)) ||| (b.getD (4*i+3) 0).toUInt32
def kt (w:List UInt32) (i:Nat):UInt32 :=
 ((w.getD (i - 16) 0+((bg (w.getD (i - 15) 0) 25 ^^^ bg (w.getD (i - 15) 0) 14) ^^^ (w.getD (i - 15) 0 >>> 3)))+w.getD (i - 7) 0)
  + ((bg (w.getD (i - 2) 0) 15 ^^^ bg (w.getD (i - 2) 0) 13) ^^^ (w.getD (i - 2) 0 >>> 10))
def aQ (b:B8):Nat->List UInt32
 | 0=>[]
 | n+1=>aQ b n++[if n<16 then be4 b n else kt (aQ b n) n]
def rnd (s:List UInt32) (k w:UInt32):List UInt32 :=
 let e:=s.getD 4 0
 let a:=s.getD 0 0
 let x:=(bg e 26 ^^^ bg e 21) ^^^ bg e 7
 let t:=(((s.getD 7 0+x)+((e &&& s.getD 5 0) ^^^ (~~~e &&& s.getD 6 0)))+k)+w
 let y:=(bg a 30 ^^^ bg a 19) ^^^ bg a 10
 let u:=y+(((a &&& s.getD 1 0) ^^^ (a &&& s.getD 2 0)) ^^^ (s.getD 1 0 &&& s.getD 2 0))
 [t+u,s.getD 0 0,s.getD 1 0,s.getD 2 0,s.getD 3 0+t,s.getD 4 0,s.getD 5 0,s.getD 6 0]
def jO (s w:List UInt32):Nat->List UInt32
 | 0=>s
 | n+1=>rnd (jO s w n) (dT.getD n 0) (w.getD n 0)
def fj (h:List UInt32) (b:B8):List UInt32:=List.zipWith (· + ·) h (jO h (aQ b 64) 64)
def aT (h:List UInt32) (l:B8):List UInt32×B8 :=
 if 64<=l.length then aT (fj h (l.take 64)) (l.drop 64)else(h,l)
termination_by l.length
decreasing_by simp;omega
def cY (n:Nat):Nat:=(119 - n%64)%64
def be8 (n:Nat):B8:=[56,48,40,32,24,16,8,0].map fun k=>UInt8.ofNat (n / 2 ^ k)
def iT (n:Nat):B8:=128::(List.replicate (cY n) 0++be8 (8*n))
def ex (x:UInt32):B8:=[UInt8.ofNat (x >>> 24).toNat,UInt8.ofNat (x >>> 16).toNat,UInt8.ofNat (x >>> 8).toNat,UInt8.ofNat x.toNat]
def gB (l:B8):B8:=(aT (aT dj l).1 ((aT dj l).2++iT l.length)).1.flatMap ex
def aK:B8:=[48,49,50,51,52,53,54,55,56,57,97,98,99,100,101,102]
def dt (l:B8):B8:=l.flatMap fun x=>[aK.getD (x.toNat / 16) 0,aK.getD (x.toNat%16) 0]
def aC (l:B8):B8:=dt (gB l)
def bD (c:UInt8):Nat:=aK.idxOf c
def aY:B8->Option B8
 | []=>some []
 | [_]=>none
 | a::b::l=>if bD a<16/\bD b<16 then(aY l).map (UInt8.ofNat (16*bD a+bD b) :: ·)else none
def aO (s:B8):Bool:=match aY s with
 | some b=>b.length==32
 | none=>false
theorem Br {s w:List UInt32} (h:s.length=8):∀n,(jO s w n).length=8
 | 0=>h
 | _+1=>rfl
variable {h:List UInt32}
theorem qC {b:B8} (a:h.length=8):(fj h b).length=8:=by
 unfold fj;rw[List.length_zipWith,a,Br a];rfl
theorem ee (b:B8):∀n,(aQ b n).length=n
 | 0=>rfl
 | n+1=>by unfold aQ;rw[List.length_append,ee b n];rfl
theorem oO {l:B8} (a:h.length=8):(aT h l).1.length=8/\(aT h l).2.length<64:=by
 fun_induction aT h l with
 | case1 h l b c=>exact c (qC a)
 | case2 h l b=>exact⟨a,by show l.length<64;omega⟩
theorem AJ (l:List UInt32):(l.flatMap ex).length=4*l.length:=by
 induction l with
 | nil=>rfl
 | cons x l a=>rw[List.flatMap_cons,List.length_append,a,List.length_cons];show 4+_=_;omega
theorem qK (l:B8):(gB l).length=32:=by
 unfold gB;rw[AJ,(oO (oO (h:=dj) (l:=l) rfl).1).1]
theorem kG (l:B8):(dt l).length=2*l.length:=by
 induction l with
 | nil=>rfl
 | cons x l a =>
  have:dt (x::l)=[aK.getD (x.toNat / 16) 0,aK.getD (x.toNat%16) 0]++dt l:=by unfold dt;rw[List.flatMap_cons]
  rw[this,List.length_append,a];simp only[List.length_cons,List.length_nil];omega
theorem yz:∀n:Nat,n<16->bD (aK.getD n 0)=n:=by decide
theorem rQ:∀l:B8,aY (dt l)=some l
 | []=>rfl
 | x::l=>by
  have d:=x.toNat_lt;have a:x.toNat / 16<16:=by omega
  have b:x.toNat%16<16:=by omega
  have:dt (x::l)=aK.getD (x.toNat / 16) 0::aK.getD (x.toNat%16) 0::dt l:=by unfold dt;rw[List.flatMap_cons];rfl
  rw[this];unfold aY;rw[yz _ a,yz _ b,if_pos ⟨a,b⟩,rQ l];have c:16*(x.toNat / 16)+x.toNat%16=x.toNat:=by omega
  rw[c,UInt8.ofNat_toNat];rfl
theorem zH (l:B8):aO (aC l)=true:=by
 unfold aO aC;rw[rQ];simp[qK]
theorem np (l:B8):(aC l).length=64:=by
 unfold aC;rw[kG,qK]
theorem iN:∀(s:B8) {b:B8},aY s=some b->s.length=2*b.length/\∀c∈s,bD c<16
 | [],b,h=>by
  have:b=[]:=by simpa [aY]using h.symm
  subst this;exact⟨rfl,fun c a=>by cases a⟩
 | [x],b,h=>by simp[aY]at h
 | x::y::l,b,h=>by
  unfold aY at h;split at h
  .rename_i d;obtain⟨r,i,rfl⟩:=Option.map_eq_some_iff.1 h;obtain⟨e,g⟩:=iN l i;refine⟨by simp only[List.length_cons,e];omega,fun c a=>?_⟩;rcases List.mem_cons.1 a with rfl | a
   .exact d.1
   .rcases List.mem_cons.1 a with rfl | a
    .exact d.2
    .exact g c a
  .cases h
theorem Aa {s:B8} (h:aO s=true):s.length=64/\∀c∈s,bD c<16:=by
 unfold aO at h;split at h
 .rename_i b a;have:=iN s a;have d:b.length=32:=by simpa using h
  rw[d]at this;exact this
 .cases h
end
section
open Go Go.RowKit
abbrev U32 (x:UInt32):Value:=.int .u32 (x.toNat:Int)
theorem jt (x:UInt32):BitVec.ofInt 32 (x.toNat:Int)=x.toBitVec:=by
 apply BitVec.eq_of_toNat_eq;have:=x.toNat_lt;rw[BitVec.toNat_ofInt];show((x.toNat:Int)%4294967296).toNat=x.toNat;omega
theorem wrap_u32 (n:Nat) (h:n<4294967296):IntKind.wrap .u32 (n:Int)=(n:Int):=by
 unfold IntKind.wrap IntKind.bits IntKind.signed;simp;omega
theorem dw (x y:UInt32):bits .and .u32 (x.toNat:Int) (y.toNat:Int)=((x &&& y).toNat:Int):=by
 have h:=(x &&& y).toNat_lt;unfold bits;show IntKind.wrap .u32 ((BitVec.ofInt 32 (x.toNat:Int) &&& BitVec.ofInt 32 (y.toNat:Int)).toNat:Int)=_;rw[jt,jt];exact wrap_u32 _ h
theorem lN (x y:UInt32):bits .or .u32 (x.toNat:Int) (y.toNat:Int)=((x ||| y).toNat:Int):=by
 have h:=(x ||| y).toNat_lt;unfold bits;show IntKind.wrap .u32 ((BitVec.ofInt 32 (x.toNat:Int) ||| BitVec.ofInt 32 (y.toNat:Int)).toNat:Int)=_;rw[jt,jt];exact wrap_u32 _ h
theorem bd (x y:UInt32):bits .xor .u32 (x.toNat:Int) (y.toNat:Int)=((x ^^^ y).toNat:Int):=by
 have h:=(x ^^^ y).toNat_lt;unfold bits;show IntKind.wrap .u32 ((BitVec.ofInt 32 (x.toNat:Int) ^^^ BitVec.ofInt 32 (y.toNat:Int)).toNat:Int)=_;rw[jt,jt];exact wrap_u32 _ h
theorem oR (x:UInt32):bits .xor .u32 4294967295 (x.toNat:Int)=((~~~x).toNat:Int):=by
 have h:=(~~~x).toNat_lt;unfold bits;show IntKind.wrap .u32 ((BitVec.ofInt 32 4294967295 ^^^ BitVec.ofInt 32 (x.toNat:Int)).toNat:Int)=_;rw[jt];have a:(BitVec.ofInt 32 4294967295 ^^^ x.toBitVec) = ~~~ x.toBitVec:=by
  rw[show BitVec.ofInt 32 4294967295=BitVec.allOnes 32 from rfl,BitVec.allOnes_xor]
 rw[a];exact wrap_u32 _ h
theorem bZ (x y:UInt32):((x.toNat:Int)+(y.toNat:Int))%4294967296=((x+y).toNat:Int):=by
 rw[UInt32.toNat_add];omega
theorem iB (x:UInt32) (k:Nat) (a:k<32):(x.toNat:Int) / (2 ^ k:Int)=((x >>> UInt32.ofNat k).toNat:Int):=by
 have b:(UInt32.ofNat k).toNat=k:=by simp;omega
 rw[UInt32.toNat_shiftRight,b,Nat.mod_eq_of_lt a,Nat.shiftRight_eq_div_pow];simp
theorem pN (x:UInt32) (k:Nat) (a:k<32):((x.toNat:Int)*(2 ^ k:Int))%4294967296=((x <<< UInt32.ofNat k).toNat:Int):=by
 have b:(UInt32.ofNat k).toNat=k:=by simp;omega
 rw[UInt32.toNat_shiftLeft,b,Nat.mod_eq_of_lt a,Nat.shiftLeft_eq];simp
end
section
open Go Go.RowKit
theorem BL:∀n:Nat,n<256->bits BinOp.and IntKind.u8 (n:Int) 15=((n%16:Nat):Int):=by decide +kernel
theorem yL (y:UInt8) (h:(y.toNat:Int) / 16<16):Value.int .u8 ((aK.toArray[((y.toNat:Int) / 16).toNat]'(by simp[aK];omega)).toNat:Int)=.int .u8 (aK.getD (y.toNat / 16) 0).toNat:=by
 have e:((y.toNat:Int) / 16).toNat=y.toNat / 16:=by omega
 have a:y.toNat / 16<aK.length:=by have:=y.toNat_lt;simp[aK];omega
 simp only[e,List.getElem_toArray,List.getD_eq_getElem?_getD,a,List.getElem?_eq_getElem,Option.getD_some]
theorem yM (y:UInt8) (h:((y.toNat%16:Nat):Int)<16):Value.int .u8 ((aK.toArray[(((y.toNat%16:Nat):Int)).toNat]'(by simp[aK];omega)).toNat:Int)=.int .u8 (aK.getD (y.toNat%16) 0).toNat:=by
 have e:(((y.toNat%16:Nat):Int)).toNat=y.toNat%16:=by omega
 have a:y.toNat%16<aK.length:=by simp[aK];omega
 simp only[e,List.getElem_toArray,List.getD_eq_getElem?_getD,a,List.getElem?_eq_getElem,Option.getD_some]
variable {l:B8} {k:Nat} {y:UInt8}
theorem tF (h:k<l.length) (a:l.getD k 0=y):dt (l.take (k+1))=dt (l.take k)++[aK.getD (y.toNat / 16) 0,aK.getD (y.toNat%16) 0]:=by
 rw[List.take_succ_eq_append_getElem h];have:l[k]=y:=by rw[<-a];simp[h]
 simp[dt,this]
theorem vz (v:Value) (l:B8) (w:World) (O:IsBytes w v l) (hl:l.length<=30000000) :
  Calls Tryz.prog 125 #[v] w fun e C=>e=.returned (S8 (dt l))/\Ext w C:=by
 obtain⟨a,U,rfl,J,K,E,L⟩:=O.get;have Q:Hid _:=L;clear L O;go_enter Tryz.func125,Tryz.ntmps125;go_wp2;go_loopw [3,8] (fun v i wr=>∃k:Nat,k<=l.length/\i=.int .i64 k/\wr.ownsRow w.heap.size 5 1 v (2*k) ((dt (l.take k)).map fun x=>.int .u8 x.toNat)/\Ext w wr) (fun _ i _=>l.length - (intOf i).toNat)
 case atStart=>exact⟨0,Nat.zero_le _,rfl,World.ownsRow_nil _ _ _ _,Ext.refl _⟩
 case round =>
  obtain⟨k,n,rfl,d,B⟩:=hrel
  by_cases p:k<l.length
  .obtain ⟨b,o,rfl,N⟩:=Q.out k p;have F:=B.cell (N k p);clear N;generalize P:l.getD k 0=y at F;have T:Hid _:=P;clear P;have t:y.toNat<256:=y.toNat_lt;have M:bits BinOp.and IntKind.u8 (y.toNat:Int) 15=((y.toNat%16:Nat):Int):=BL _ t;have S:Hid _:=M;clear M;go_wp2;apply ak 8 [_,_,_,.int .u8 (aK.getD (y.toNat / 16) 0).toNat,_,_,.int .u8 (aK.getD (y.toNat%16) 0).toNat,undef] [none,none,none,none,none,none,none,some (fun u C=>∃g,u=.slice (some ⟨g,0,none⟩) 2 2/\wr.heap.size<=g/\C.heap[g]? = some (.cells #[.int .u8 (aK.getD (y.toNat / 16) 0).toNat,.int .u8 (aK.getD (y.toNat%16) 0).toNat] 5 (0,0)))] [[],[],[1],[2],[],[4],[5],[3,6]] (by kernel_rfl) (by kernel_rfl) (by simp[aq])
   .refine ⟨?_,trivial⟩
    .exact fun u w C W ⟨g,J,K,E⟩=>⟨g,J,K,(W.block g (Array.getElem?_eq_some_iff.1 E).1).trans E⟩
   .simp (maxSteps:=1000000)only[List.take_succ_cons,List.take_zero,ay,aB,af,Act.put,List.setIfInBounds_toArray,List.set_cons_zero,List.set_cons_succ,aE,aH,aq,List.getD_cons_zero,List.getD_cons_succ,and_true,true_and,forall_const];and_intros
    iterate 3 · intro z D A;intros;rename_i j;go_simp;exact j _ _ (Ext.refl _) rfl
    .intro z D A n R j;go_simp;rw[dif_pos ⟨by omega,by omega⟩];exact j _ _ (Ext.refl _) (yL y (by omega))
    iterate 2 · intro z D A;intros;rename_i j;go_simp;exact j _ _ (Ext.refl _) rfl
    .intro z D A n R j;go_simp;rw[S.out,dif_pos ⟨by omega,by omega⟩];exact j _ _ (Ext.refl _) (yM y (by omega))
    .intro z D A n R j;obtain⟨Y,Z⟩:=n;go_simp;exact j _ _ ((Ext.refl _).alloc _) ⟨_,rfl,A.size,ah _ _⟩
   intro z w2 r n;simp only[aG,Nat.zero_add,Nat.reduceAdd,and_true]at n;have q7:=n.2.2.2.2.2.2.2;simp(maxSteps:=1000000)only[List.take_succ_cons,List.take_zero,List.drop_succ_cons,List.drop_zero,af,Act.put,List.setIfInBounds_toArray,List.set_cons_zero,List.set_cons_succ,Nat.zero_add,Nat.reduceAdd,n];clear n;generalize z 7=x7 at *;obtain⟨g,rfl,X,G⟩:=q7;have h:=az d r;have c:=kG (l.take k)
   go_wp2_with (at_builtin;refine eT rfl _ _ rfl w.heap.size _ (2*k) _ rfl h g 2 2 [aK.getD (y.toNat / 16) 0,aK.getD (y.toNat%16) 0] rfl rfl G (by omega) (by have:=(B.trans r).size;exact this) ?_;intro v' w3 q H)
   go_roundw
   case rel=>exact⟨k+1,by omega,by go_num,by rw[tF p T.out];exact q,aA (B.trans r) h H⟩
   case measure=>simp[intOf];omega
  .have I:k=l.length:=by omega
   subst I;rw[List.take_length]at d;have c:=kG l;have V:=dK (l:=dt l) (by unfold IsBytes;rw[c];exact Row.GW d (by omega));clear c;go_wp2;go_ret;exact⟨rfl,B⟩
theorem yO:∀n:Fin 256,Lib.indexByte aK (UInt8.ofNat n)=if bD (UInt8.ofNat n)<16 then(bD (UInt8.ofNat n):Int)else -1:=by decide +kernel
theorem o6 (c:UInt8):Lib.indexByte aK c=if bD c<16 then(bD c:Int)else -1:=by
 have:=yO ⟨c.toNat,c.toNat_lt⟩;simpa using this
theorem FF:∀a b:Fin 16,bits BinOp.or IntKind.i64 ((a.val:Int)*16) (b.val:Int)=(a.val:Int)*16+b.val:=by decide +kernel
variable {x:UInt8}
theorem vB {i:Int} {n:Nat} (b:i=n) (c:l.getD n 0=x) (h:i.toNat<(⟨l.toArray⟩:ByteArray).size):Value.int .u8 (((⟨l.toArray⟩:ByteArray)[i.toNat]).toNat:Int)=.int .u8 x.toNat:=by
 subst b;have a:n<l.length:=h;have:(⟨l.toArray⟩:ByteArray)[(n:Int).toNat]=l[n]:=rfl;rw[this,<-c];simp[a]
theorem yR (l:B8) (x:UInt8) {r:Int} (a:Lib.indexByte l x=r):Value.int .i64 (Lib.indexByte l ((x.toNat:Int).toNat.toUInt8))=.int .i64 r:=by
 rw[<-a];simp
theorem rR (x y:UInt8) (l:B8):aY (x::y::l)=if bD x<16/\bD y<16 then(aY l).map (UInt8.ofNat (16*bD x+bD y) :: ·)else none:=rfl
theorem jV:∀(a b:B8),a.length%2=0->aY (a++b)=(aY a).bind fun x=>(aY b).map (x ++ ·)
 | [],b,_=>by simp[aY]
 | [x],b,h=>by simp at h
 | x::y::a,b,h=>by
  have d:=jV a b (by simp only[List.length_cons]at h;omega);rw[List.cons_append,List.cons_append,rR,rR,d]
  by_cases c:bD x<16/\bD y<16
  .rw [if_pos c,if_pos c]
   cases aY a with
   | none=>rfl
   | some r=>cases aY b <;> rfl
  .rw [if_neg c,if_neg c];rfl
theorem zY (h:l.length%2=1):aY l=none:=by
 cases a:aY l with
 | none=>rfl
 | some b=>have:=(iN l a).1;omega
variable {bs:B8}
theorem p5 (h:2*k+1<l.length) (g:l.getD (2*k) 0=x) (i:l.getD (2*k+1) 0=y) (e:aY (l.take (2*k))=some bs) :
  l.take (2*(k+1))=l.take (2*k)++[x,y]/\aY (l.take (2*(k+1)))=(if bD x<16/\bD y<16 then some (bs++[UInt8.ofNat (16*bD x+bD y)])else none):=by
 have b:l.take (2*(k+1))=l.take (2*k)++[x,y]:=by
  have c:l[2*k]? = some x:=by rw[<-g];simp[List.getD_eq_getElem?_getD,show 2*k<l.length by omega]
  have d:l[2*k+1]? = some y:=by rw[<-i];simp[List.getD_eq_getElem?_getD,h]
  rw[show 2*(k+1)=2*k+1+1 by omega,List.take_add_one,List.take_add_one,c,d,List.append_assoc];rfl
 refine⟨b,?_⟩;rw[b,jV _ _ (by rw[List.length_take];omega),e]
 by_cases a:bD x<16/\bD y<16
 .rw [if_pos a];simp[aY,a.1,a.2]
 .rw [if_neg a];simp only[aY,if_neg a];rfl
theorem pZ (h:2*k+1<l.length) (d:l.getD (2*k) 0=x) (e:l.getD (2*k+1) 0=y) (c:aY (l.take (2*k))=some bs) (b:¬(bD x<16/\bD y<16)):aY l=none:=by
 obtain⟨g,a⟩:=p5 h d e c;rw[if_neg b]at a;have:=jV (l.take (2*(k+1))) (l.drop (2*(k+1))) (by rw[List.length_take];omega);rw[List.take_append_drop,a]at this;exact this
def gC (l:B8) (w:World) (e:Ending) (w':World):Prop :=
 (match aY l with
  | some b=>∃v,e=.returned (.tuple #[v,.bool true])/\IsBytes w' v b
  | none=>e=.returned (.tuple #[.slice none 0 0,.bool false]))/\Ext w w'
theorem rP (l:B8) (w:World) (hl:l.length<=140737488355328) :
  Calls Tryz.prog 55 #[S8 l] w (gC l w):=by
 have hd:(⟨l.toArray⟩:ByteArray).toList=l:=Lib.toList_data _
 by_cases u:l.length%2=0
 .obtain ⟨m,G⟩:∃m,l.length=2*m:=⟨l.length / 2,by omega⟩;have t:(l.length:Int).tmod 2=0:=by
   rw[G];exact Int.tmod_eq_zero_of_dvd ⟨(m:Int),by push_cast;rfl⟩
  have HM:Hid _:=G;clear u;go_enter Tryz.func55,Tryz.ntmps55;go_wp2;clear t;go_loopw [4,5] (fun v i wr=>∃(k:Nat) (B:B8),2*k<=l.length/\i=.int .i64 (2*k)/\B.length=k/\Hid (aY (l.take (2*k))=some B)/\wr.ownsRow w.heap.size 5 1 v k (B.map fun x=>.int .u8 x.toNat)/\Ext w wr) (fun _ i _=>l.length - (intOf i).toNat)
  case atStart=>exact⟨0,[],Nat.zero_le _,rfl,rfl,rfl,World.ownsRow_nil _ _ _ _,Ext.refl _⟩
  case round =>
   obtain⟨k,B,q,rfl,E,O,g,hx⟩:=hrel;have G:=HM.out
   by_cases a0:2*k<l.length
   .have o:2*k+1<l.length:=by omega
    have au:2*(k:Int)<(l.length:Int):=by omega
    have av:(2*(k:Int)+1)<(l.length:Int):=by omega
    have J:IntKind.i64.wrap (2*(k:Int)+1)=2*(k:Int)+1:=IntWalk.i64_in _ (by omega);have HW:Hid _:=J;obtain⟨x,L⟩:∃x,l.getD (2*k) 0=x:=⟨_,rfl⟩;obtain⟨y,M⟩:∃y,l.getD (2*k+1) 0=y:=⟨_,rfl⟩;have P:Hid _:=L;have Q:Hid _:=M;obtain⟨r,hr⟩:∃r,Lib.indexByte aK x=r:=⟨_,rfl⟩;obtain⟨s,hs⟩:∃s,Lib.indexByte aK y=s:=⟨_,rfl⟩;have U:Hid _:=hr;have W:Hid _:=hs;have a:=o6 x;have b:=o6 y;rw[hr]at a;rw[hs]at b;have T:Hid _:=a;have V:Hid _:=b;clear J G L M hr hs a b;go_wp2;apply ak 9 [_,_,.int .u8 x.toNat,.int .i64 r,_,_,_,.int .u8 y.toNat,.int .i64 s] [none,none,none,none,none,none,none,none,none] [[],[],[0,1],[2],[],[],[5],[4,6],[7]] (by kernel_rfl) (by kernel_rfl) (by simp[aq])
    .trivial
    .simp (maxSteps:=1000000)only[List.take_succ_cons,List.take_zero,ay,aB,af,Act.put,List.setIfInBounds_toArray,List.set_cons_zero,List.set_cons_succ,aE,aH,aq,List.getD_cons_zero,List.getD_cons_succ,and_true,true_and,forall_const];and_intros
     iterate 2 · intro C N H;intros;rename_i n;go_simp;exact n _ _ (Ext.refl _) rfl
     .intro C N H q R n;obtain⟨ab,ad⟩:=q;go_simp;rw[dif_pos (by omega)];exact n _ _ (Ext.refl _) (vB (by omega) P.out (by show(2*(k:Int)).toNat<l.length;omega))
     .intro C N H q R n;go_simp;refine(Tryz.strings_IndexByte ⟨aK.toArray⟩ x.toNat _).mono ?_;rintro e w2 ⟨rfl,rfl⟩;exact⟨_,rfl,n _ _ (Ext.refl _) (yR _ x U.out)⟩
     iterate 3 · intro C N H;intros;rename_i n;go_simp;exact n _ _ (Ext.refl _) rfl
     .intro C N H q R n;obtain⟨ab,ad⟩:=q;go_simp;simp only[HW.out];rw[dif_pos ⟨by omega,by omega⟩];exact n _ _ (Ext.refl _) (vB (by omega) Q.out (by show(2*(k:Int)+1).toNat<l.length;omega))
     .intro C N H q R n;go_simp;refine(Tryz.strings_IndexByte ⟨aK.toArray⟩ y.toNat _).mono ?_;rintro e w2 ⟨rfl,rfl⟩;exact⟨_,rfl,n _ _ (Ext.refl _) (yR _ y W.out)⟩
    intro C w2 K q;simp only[aG,Nat.zero_add,Nat.reduceAdd,and_true]at q;simp(maxSteps:=1000000)only[List.take_succ_cons,List.take_zero,List.drop_succ_cons,List.drop_zero,af,Act.put,List.setIfInBounds_toArray,List.set_cons_zero,List.set_cons_succ,Nat.zero_add,Nat.reduceAdd,q];clear q;have a:=T.out;have b:=V.out;have j:=Ext.trans hx K
    by_cases c:bD x<16
    .rw [if_pos c]at a
     by_cases d:bD y<16
     .rw [if_pos d]at b;obtain⟨z,hz⟩:∃z,UInt8.ofNat (16*bD x+bD y)=z:=⟨_,rfl⟩;have ao:bits BinOp.or IntKind.i64 (r*16) s%256=(z.toNat:Int):=by
       have:=FF ⟨bD x,c⟩ ⟨bD y,d⟩;simp only at this;rw[a,b,this,<-hz];simp only[UInt8.toNat_ofNat'];omega
      have HZ:Hid _:=hz;have I:¬r<0:=by omega
      have ag:¬s<0:=by omega
      have ai:r<16:=by omega
      have am:s<16:=by omega
      have Y:Hid _:=c;have Z:Hid _:=d;have p:=az g K;have a1:=j.size;clear a b hz c d g
      go_wp2_with (at_builtin;go_must (refine eT rfl _ _ rfl w.heap.size _ k _ rfl (p.alloc _) w2.heap.size 1 1 [z] rfl rfl (ah _ _) (by omega) (by simp;omega) ?_;intro v' w3 A aa))
      go_roundw
      case rel=>exact⟨k+1,B++[z],by omega,by go_num,by simp[E],by unfold Hid;rw[(p5 o P.out Q.out O.out).2,if_pos ⟨Y.out,Z.out⟩,HZ.out],by simpa using A,aA (j.alloc _) (p.alloc _) aa⟩
      case measure=>simp[intOf];omega
     .rw [if_neg d]at b;have D:Hid _:=pZ o P.out Q.out O.out (fun h=>d h.2);have I:¬r<0:=by omega
      have ag:s<0:=by omega
      clear a b c d;go_wp2;go_ret2;unfold gC;rw[D.out];exact⟨rfl,j⟩
    .rw [if_neg c]at a;have D:Hid _:=pZ o P.out Q.out O.out (fun h=>c h.1);have I:r<0:=by omega
     clear a b c;go_wp2;go_ret2;unfold gC;rw[D.out];exact⟨rfl,j⟩
   .have hg:¬(2*(k:Int))<(l.length:Int):=by omega
    have F:2*k=l.length:=by omega
    have hu:=O.out;rw[F,List.take_length]at hu;have X:Hid _:=hu;have hb:IsBytes wr u4 B:=by
     unfold IsBytes;rw[E];exact Row.GW g (by omega)
    have S:Hid _:=hb;clear hb g hu F G;go_wp2;go_ret2;unfold gC;rw[X.out];exact⟨⟨_,rfl,S.out⟩,hx⟩
 .have ho:l.length%2=1:=by omega
  have t:(l.length:Int).tmod 2=1:=by rw[Int.tmod_eq_emod_of_nonneg (by omega)];omega
  have D:Hid _:=zY ho;clear u ho;go_enter Tryz.func55,Tryz.ntmps55;go_wp2;go_ret2;unfold gC;rw[D.out];exact⟨rfl,Ext.refl _⟩
theorem kr (l:B8) (w:World) (t:l.length<=140737488355328) :
  Calls Tryz.prog 35 #[S8 l] w fun e u=>e=.returned (.bool (aO l))/\Ext w u:=by
 go_enter Tryz.func35,Tryz.ntmps35;go_wp2_with fail;go_at_call 55;refine(rP l w t).mono ?_;rintro e A ⟨h,q⟩;have i:Hid (aO l=match aY l with | some b=>b.length==32 | none=>false):=rfl
 cases a:aY l with
 | none =>
  rw[a]at h;have n:Hid (aO l=false):=by unfold Hid;rw[i.out,a]
  subst h;clear a i;go_wp2;go_ret;exact⟨by rw[n.out];rfl,q⟩
 | some b =>
  rw[a]at h;obtain⟨v,rfl,o⟩:=h;obtain⟨x,z,rfl,-⟩:=id o;have p:aO l=(b.length==32):=by rw[i.out,a]
  have g:=(iN l a).1;have d:(((b.length:Nat):Int)==32)=aO l:=by
   rw[p]
   by_cases c:b.length=32
   .rw [c];rfl
   .have r:(b.length==32)=false:=by simpa using c
    rw[r];simp only[beq_eq_false_iff_ne,ne_eq];omega
  have j:Hid _:=d;clear a i p o d g;go_wp2;go_ret;exact⟨by rw[<-j.out];rfl,q⟩
end
section
open Go Go.RowKit
def sn:Value->Option Nat
 | .map (some g)=>some g
 | .slice (some a) _ _=>some a.block
 | .pointer (some a)=>some a.block
 | _=>none
def BX (u:Value) (w w':World):Prop:=∀b,sn u=some b->w.heap.size<=b/\b<w'.heap.size
def Dis (F:List Nat) (xs:Nat->Value) (i j:Nat):Prop:=i∈F->j∈F->i≠j->∀b,sn (xs i)=some b->sn (xs j)=some b->False
section
variable {P:Program} {C:World->Prop} {le:World->World->Prop}
def Db (P:Program) (C:World->Prop) (le:World->World->Prop) (F:List Nat) (ops:Array Oper) (V:List (Value->World->Prop)) (head:List Oper) (a0:Act) (k:Nat) (d:List Nat) (o:Oper):Prop :=
 ∀(b:Nat->Value) (w:World),C w->aE V b w d->∀R:Value->World->Prop,(∀u a,le w a->aH V k u a->(k∈F->BX u w a)->R u a) ->
  if Region.wanted o (yielded ops (af b head 0 a0).tmps)then dW P R ((execOp (af b head 0 a0).eval o).run P w)else R undef w
def D8 (P:Program) (C:World->Prop) (le:World->World->Prop) (F:List Nat) (ops:Array Oper) (V:List (Value->World->Prop)) (D:List (List Nat)) (head:List Oper) (a0:Act):List Oper->Nat->Prop
 | [],_=>True
 | o::l,k=>Db P C le F ops V head a0 k (D.getD k []) o/\D8 P C le F ops V D head a0 l (k+1)
structure Gw (C:World->Prop) (F:List Nat) (ops:Array Oper) (n:Nat) (V:List (Value->World->Prop)) (a0:Act) (listed:Array Bool) (a:Act) (w:World):Prop where
 head:HeadInv .any ops n listed
 ext:C w
 fill:∃xs:Nat->Value,a=af xs (ops.toList.take n) 0 a0/\(∀j,j<n->listed.getD j false=true->aH V j (xs j) w)/\(∀i j,i<n->j<n->listed.getD i false=true->listed.getD j false=true->Dis F xs i j)/\(∀j,j<n->listed.getD j false=true->j∈F->∀b,sn (xs j)=some b->b<w.heap.size)
end
end
end Go.Proofs.YtgfegpnmlkdjfaaGreatDoor
