/- Contracts of the program's functions and plain laws behind the card. Conditions: as each theorem states. -/
import Derived.Test.YtfabjgfmiaammaaGreatDoorYap
import Derived.Test.YtfabjgfmiaammaaGreatDoorYam
import Derived.Test.YtfabjgfmiaammaaGreatDoorYao
set_option linter.unusedVariables false
set_option linter.unusedSimpArgs false
set_option linter.unusedSectionVars false
set_option maxRecDepth 100000
set_option maxHeartbeats 64000000
namespace Go.Proofs.YtfabjgfmiaammaaGreatDoor
section
open Go Go.RowKit
variable {l:ax}
theorem wD {path:B8} {k:Nat} (h:fG (l.take k) path=true) (a:l.length<=k):fG l path=true:=by
 rwa [List.take_of_length_le a]at h
theorem rk {R:Nat->Prop} {w:World} {v:Value} (path:B8) (H:bI R w v l) (B:az path=true) (F:∀e∈l,az e.1=true) :
  Calls Tryz.prog 192 #[v,S8 path] w fun e Q=>e=.returned (.bool (fG l path))/\Ext w Q:=by
 obtain⟨a,M,rfl,T,U,V,E⟩:=cg H;have I:Hid _:=E;have x:Hid _:=B;have K:Hid _:=F;have O:=kK B;clear E H B F;go_enter Tryz.func192,Tryz.ntmps192;go_wp2;go_loopw [5] (fun i wr=>∃k:Nat,k<=l.length/\i=.int .i64 k/\fG (l.take k) path=true/\Ext w wr) (fun i _=>l.length - (intOf i).toNat)
 case atStart=>exact⟨0,Nat.zero_le _,rfl,rfl,Ext.refl _⟩
 case round =>
  obtain⟨k,W,rfl,G,r⟩:=hrel;have D:Hid _:=G;clear G
  by_cases A:k<l.length
  .obtain ⟨⟨q,f⟩,d⟩:∃e,l[k]? = some e:=⟨_,List.getElem?_eq_getElem A⟩;obtain⟨b,o,s,c,rfl,P,N,u,-,-,-⟩:=I.out k q f d;replace u:=r.cell u;have y:Hid (az q=true):=K.out (q,f) (List.mem_of_getElem? d);have C:Hid _:=List.mem_of_getElem? d;have L:Hid _:=wE D.out d;obtain⟨u1,n⟩:∃u1,aB path q=u1:=⟨_,rfl⟩;obtain⟨u2,p⟩:∃u2,aB q path=u2:=⟨_,rfl⟩;have h:Hid _:=n;have j:Hid _:=p;clear N d n p
   cases u1 with
   | true =>
    go_wp2_with (go_at_call 154;go_must (refine(iL path q _ (by omega) (by omega)).mono ?_;rw[x.out,y.out,h.out];rintro e S ⟨rfl,g⟩))
    go_ret;exact⟨an (by rw[tK C.out (by rw[h.out];rfl)]),r.trans g⟩
   | false =>
    go_wp2_with fail;go_at_call 154;refine(iL path q _ (by omega) (by omega)).mono ?_;rw[x.out,y.out,h.out];rintro e S ⟨rfl,g⟩;replace u:=g.cell u;go_wp2_with fail;go_at_call 154;refine(iL q path _ (by omega) (by omega)).mono ?_;rw[x.out,y.out,j.out];rintro e X ⟨rfl,t⟩
    cases u2 with
    | true =>
     go_wp2;go_ret;exact⟨an (by rw[tK C.out (by rw[j.out,Bool.or_true])]),(r.trans g).trans t⟩
    | false =>
     go_wp2;go_roundw
     case rel=>exact⟨k+1,by omega,by go_num,by rw[L.out,h.out,j.out];rfl,(r.trans g).trans t⟩
     case measure=>simp[intOf];omega
  .have z:l.length<=k:=by omega
   have J:Hid _:=wD D.out z;go_wp2;go_ret;exact⟨an (by rw[J.out]),r⟩
end
section
open Go Go.RowKit
theorem ub (h:List UInt32) (l p:B8):be h (l++p)=be (be h l).1 ((be h l).2++p):=by
 fun_induction be h l with
 | case1 h l a b =>
  rw[be,if_pos (by rw[List.length_append];omega),List.take_append_of_le_length a,List.drop_append_of_le_length a];exact b
 | case2 h l a=>rfl
theorem AG (l:B8):fW l=(be dp (l++iC l.length)).1.flatMap eu:=by
 exact congrArg (fun x=>x.1.flatMap eu) (ub dp l _).symm
theorem Ay (n:Nat):(n+(iC n).length)%64=0:=by
 unfold iC;rw[List.length_cons,List.length_append,List.length_replicate,show(be8 (8*n)).length=8 from rfl];unfold cW;omega
variable {l:B8} {at':Nat}
theorem rZ {h:List UInt32} (a:at'+64<=l.length):be h (l.drop at')=be (eW h ((l.drop at').take 64)) (l.drop (at'+64)):=by
 rw[be,if_pos (by rw[List.length_drop];omega),List.drop_drop]
theorem ue (h:List UInt32) (a:l.length<=at'):be h (l.drop at')=(h,[]):=by
 rw[List.drop_eq_nil_of_le a,be,if_neg (by simp)]
def PreW (W c:List UInt32) (i:Nat):Prop:=c.length=64/\∀j,j<i->c.getD j 0=W.getD j 0
variable {W c:List UInt32}
theorem PreW.set {i:Nat} (h:PreW W c i) (b:i<64):PreW W (c.set i (W.getD i 0)) (i+1):=by
 refine⟨by rw[List.length_set];exact h.1,fun j d=>?_⟩;rw[List.getD_eq_getElem?_getD,List.getElem?_set]
 by_cases a:i=j
 .rw [if_pos a,if_pos (by rw[h.1];exact b),a];rfl
 .rw [if_neg a,<-List.getD_eq_getElem?_getD];exact h.2 j (by omega)
theorem PreW.all (h:PreW W c 64) (d:W.length=64):c=W:=by
 refine List.ext_getElem (by rw[h.1,d]) (fun j a b=>?_);have:=h.2 j (by rw[h.1]at a;exact a);rw[List.getD_eq_getElem?_getD,List.getD_eq_getElem?_getD,List.getElem?_eq_getElem a,List.getElem?_eq_getElem b]at this;exact this
theorem jp (b:B8) {n j:Nat}:∀(d:Nat),n=j+1+d->(aX b n).getD j 0=if j<16 then be4 b j else jN (aX b j) j
 | 0,h=>by
  subst h;show(aX b j++[_]).getD j 0=_;rw[List.getD_eq_getElem?_getD,List.getElem?_append_right (by rw[el];omega),el];simp
 | d+1,h=>by
  subst h;have a:=jp b (n:=j+1+d) (j:=j) d rfl;show(aX b (j+1+d)++[_]).getD j 0=_;rw[List.getD_eq_getElem?_getD,List.getElem?_append_left (by rw[el];omega),<-List.getD_eq_getElem?_getD];exact a
variable {j:Nat}
theorem iN (b:B8) {n m:Nat} (a:j<n) (c:j<m):(aX b n).getD j 0=(aX b m).getD j 0:=by
 rw[jp b (n:=n) (j:=j) (n - j - 1) (by omega),jp b (n:=m) (j:=j) (m - j - 1) (by omega)]
theorem y8 (b:B8) (h:j<16):(aX b 64).getD j 0=be4 b j:=by
 rw[jp b (n:=64) (j:=j) (64 - j - 1) (by omega),if_pos h]
theorem yZ (b:B8) (h:16<=j) (a:j<64):(aX b 64).getD j 0=jN (aX b 64) j:=by
 rw[jp b (n:=64) (j:=j) (64 - j - 1) (by omega),if_neg (by omega)];unfold jN;rw[iN b (n:=j) (m:=64) (j:=j - 16) (by omega) (by omega),iN b (n:=j) (m:=64) (j:=j - 15) (by omega) (by omega),iN b (n:=j) (m:=64) (j:=j - 7) (by omega) (by omega),iN b (n:=j) (m:=64) (j:=j - 2) (by omega) (by omega)]
theorem eD (x:UInt32) (n s:Nat) (w:World) (c:0<s) (a:s<32) (h:n+s=32) :
  Calls Tryz.prog 191 #[U32 x,.int .i64 (n:Int)] w fun e d=>e=.returned (U32 (bB x (UInt32.ofNat s)))/\∃q,d=w.drewN q:=by
 obtain rfl:n=32 - s:=by omega
 have g:(0:Int)<=((32 - s:Nat):Int):=by omega
 have i:((32 - s:Nat):Int)<=32:=by omega
 have j:IntKind.i64.wrap (32 - ((32 - s:Nat):Int))=(s:Int):=by rw[IntWalk.i64_in _ (by omega)];omega
 have k:(0:Int)<=(s:Int):=by omega
 have l:(s:Int)<=32:=by omega
 have b:Hid (Value.int IntKind.u32 (bits BinOp.or IntKind.u32 (↑x.toNat / 2 ^ (32 - s)) (↑x.toNat*2 ^ s%4294967296))=U32 (bB x (UInt32.ofNat s))):=by
  unfold Hid bB;rw[oC x s a,hZ x (32 - s) (by omega),lf,xp s a,UInt32.or_comm]
 clear h;go_enter Tryz.func191,Tryz.ntmps191;go_wp2_with fail;go_quiet (fail);go_wp2;go_ret;exact⟨congrArg Ending.returned b.out,_,rfl⟩
theorem BA (x:UInt32) (w:World):Calls Tryz.prog 191 #[U32 x,.int .i64 7] w fun e a=>e=.returned (U32 (bB x 25))/\∃q,a=w.drewN q:=eD x 7 25 w (by decide) (by decide) rfl
theorem Bd (x:UInt32) (w:World):Calls Tryz.prog 191 #[U32 x,.int .i64 18] w fun e a=>e=.returned (U32 (bB x 14))/\∃q,a=w.drewN q:=eD x 18 14 w (by decide) (by decide) rfl
theorem Bc (x:UInt32) (w:World):Calls Tryz.prog 191 #[U32 x,.int .i64 17] w fun e a=>e=.returned (U32 (bB x 15))/\∃q,a=w.drewN q:=eD x 17 15 w (by decide) (by decide) rfl
theorem Be (x:UInt32) (w:World):Calls Tryz.prog 191 #[U32 x,.int .i64 19] w fun e a=>e=.returned (U32 (bB x 13))/\∃q,a=w.drewN q:=eD x 19 13 w (by decide) (by decide) rfl
theorem Bz (x:UInt32) (w:World):Calls Tryz.prog 191 #[U32 x,.int .i64 6] w fun e a=>e=.returned (U32 (bB x 26))/\∃q,a=w.drewN q:=eD x 6 26 w (by decide) (by decide) rfl
theorem Ba (x:UInt32) (w:World):Calls Tryz.prog 191 #[U32 x,.int .i64 11] w fun e a=>e=.returned (U32 (bB x 21))/\∃q,a=w.drewN q:=eD x 11 21 w (by decide) (by decide) rfl
theorem Bg (x:UInt32) (w:World):Calls Tryz.prog 191 #[U32 x,.int .i64 25] w fun e a=>e=.returned (U32 (bB x 7))/\∃q,a=w.drewN q:=eD x 25 7 w (by decide) (by decide) rfl
theorem By (x:UInt32) (w:World):Calls Tryz.prog 191 #[U32 x,.int .i64 2] w fun e a=>e=.returned (U32 (bB x 30))/\∃q,a=w.drewN q:=eD x 2 30 w (by decide) (by decide) rfl
theorem Bb (x:UInt32) (w:World):Calls Tryz.prog 191 #[U32 x,.int .i64 13] w fun e a=>e=.returned (U32 (bB x 19))/\∃q,a=w.drewN q:=eD x 13 19 w (by decide) (by decide) rfl
theorem Bf (x:UInt32) (w:World):Calls Tryz.prog 191 #[U32 x,.int .i64 22] w fun e a=>e=.returned (U32 (bB x 10))/\∃q,a=w.drewN q:=eD x 22 10 w (by decide) (by decide) rfl
theorem qj (w:World) :
  Calls Tryz.prog 190 #[] w fun e a=>∃g,e=.returned (.slice (some ⟨g,0,none⟩) 64 64)/\a.heap[g]? = some (.cells (dQ.map U32).toArray 167 (0,0))/\g=w.heap.size/\Ext w a/\a.heap.size=g+1:=by
 go_enter Tryz.func190,Tryz.ntmps190;go_wp2;go_ret;exact⟨_,rfl,ae _ _,rfl,(Ext.refl _).alloc _,Array.size_push ..⟩
end
end Go.Proofs.YtfabjgfmiaammaaGreatDoor
