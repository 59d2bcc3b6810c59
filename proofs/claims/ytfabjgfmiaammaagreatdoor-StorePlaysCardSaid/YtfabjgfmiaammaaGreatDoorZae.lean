/- Contracts of the program's functions and plain laws behind the card. Conditions: as each theorem states. -/
import Derived.Test.YtfabjgfmiaammaaGreatDoorZad
import Derived.Test.YtfabjgfmiaammaaGreatDoorZaa
import Derived.Test.YtfabjgfmiaammaaGreatDoorZab
import Derived.Deep.QuietTactic
import Derived.BigQuiet
import Derived.Deep.MidRow
import Derived.Deep.Upon
set_option linter.unusedVariables false
set_option linter.unusedSimpArgs false
set_option linter.unusedSectionVars false
set_option maxRecDepth 100000
set_option maxHeartbeats 64000000
namespace Go.Proofs.YtfabjgfmiaammaaGreatDoor
section
open Go Go.RowKit
def eV (a:Int):Fs:=⟨a,[],[],[],[],0,[],0,false⟩
theorem nD (R:Nat->Prop) (w:World):IsFiles R (w.alloc (.map #[] 0)) w.heap.size [] :=
 ⟨List.Pairwise.nil,fun e a=>by simp at a,fun _=>.slice none 0 0,World.ownsMap_made _ _ _ _,fun e a=>by simp at a⟩
theorem vB (a:Int):OkM (eV a)/\fy (eV a):=by
 refine⟨⟨Nat.le_refl _,Nat.le_refl _,Nat.le_refl _,Nat.le_refl _,Nat.le_refl _,?_,?_,?_,rfl,?_⟩,⟨Nat.zero_le _,?_⟩⟩
 iterate 2
  .intro e b;cases b
 .intro c g;cases g
 .intro k s d h;simp[eV]at h
 .intro e b;cases b
theorem AL (a:Int) (w:World) (h:a<0\/1073741824<a) :
  Calls Tryz.prog 7 #[.int .i64 a] w fun e b=>e=.returned (.tuple #[.pointer none,.int .i64 1])/\b=w:=by
 rcases h with h | h
 .go_enter Tryz.func7,Tryz.ntmps7;go_wp2;go_ret2;exact⟨rfl,rfl⟩
 .have c:¬a<0:=by omega
  go_enter Tryz.func7,Tryz.ntmps7;go_wp2;go_ret2;exact⟨rfl,rfl⟩
def zS (a:Int) (w:World) (e:Ending) (w':World):Prop:=(∃p,e=.returned (.tuple #[p,.int .i64 0])/\IsFs (fun _=>False) (Nu w w') (fun _=>False) w' p (eV a))/\Ext w w'
theorem tb (a:Int) (w:World) (o:0<=a) (p:a<=1073741824) :
  Calls Tryz.prog 7 #[.int .i64 a] w (zS a w):=by
 have h:=@run_makeMap Tryz.prog;go_enter Tryz.func7,Tryz.ntmps7;go_wp2;go_ret2;have d:Ext w (w.alloc (.map #[] 0)):=(Ext.refl _).alloc _;have c:Ext (w.alloc (.map #[] 0)) ((w.alloc (.map #[] 0)).alloc (.map #[] 0)):=(Ext.refl _).alloc _;have b:Ext ((w.alloc (.map #[] 0)).alloc (.map #[] 0)) (((w.alloc (.map #[] 0)).alloc (.map #[] 0)).alloc (.cells (aZ a w.heap.size (w.heap.size+1) (.slice none 0 0) (.slice none 0 0) 0 (.slice none 0 0) 0 false) 79)):=(Ext.refl _).alloc _;have e:=ab ((w.alloc (.map #[] 0)).alloc (.map #[] 0)) (.cells (aZ a w.heap.size (w.heap.size+1) (.slice none 0 0) (.slice none 0 0) 0 (.slice none 0 0) 0 false) 79);have i:(w.alloc (.map #[] 0)).heap.size=w.heap.size+1:=by simp
 have j:((w.alloc (.map #[] 0)).alloc (.map #[] 0)).heap.size=w.heap.size+2:=by simp
 have l:=(nD (fun _=>False) w).ext (c.trans b);have g:=(nD (fun _=>False) (w.alloc (.map #[] 0))).ext b;rw[i]at g;rw[j]at e;have q:(((w.alloc (.map #[] 0)).alloc (.map #[] 0)).alloc (.cells (aZ a w.heap.size (w.heap.size+1) (.slice none 0 0) (.slice none 0 0) 0 (.slice none 0 0) 0 false) 79)).heap.size=w.heap.size+3:=by simp
 refine⟨⟨_,rfl,w.heap.size+2,w.heap.size,w.heap.size+1,.slice none 0 0,.slice none 0 0,.slice none 0 0,[],0,by simp,e,⟨by omega,by simp <;> omega⟩,?_,rfl,Nat.le_refl _,Nat.zero_le _⟩,(d.trans c).trans b⟩;exact⟨by omega,⟨by omega,by simp <;> omega⟩,⟨by omega,by simp <;> omega⟩,l,g,⟨[],World.ownsRow_nil _ _ _ _,Each.nil _⟩,Inn.nil _ _ _,⟨[],Row.nil _,Typed.nil _ _ _ _,Each.nil _⟩,Inn.nil _ _ _,⟨[],World.ownsRow_nil _ _ _ _,Each.nil _⟩,Inn.nil _ _ _,fun k n=>by simp[Value.ownBlock]at n⟩
end
section
open Go Go.RowKit
section
variable {P:Program} {C:World->Prop} {le:World->World->Prop}
end
end
section
open Go Go.RowKit
theorem jd {w:World} {a base':Nat} {e:TypeId} {b:Nat} {v:Value} {n:Nat} {xs:List Value} (h:w.ownsRow a e b v n xs) (i:base'<=a):w.ownsRow base' e b v n xs:=by
 refine⟨h.1,h.2.imp id ?_⟩;rintro⟨g,c,d,j,k,l⟩;exact⟨g,c,d,j,Nat.le_trans i k,l⟩
end
section
open Go Go.RowKit
theorem vC (s:Nat) (c:s<32):(32:UInt32) - UInt32.ofNat s=UInt32.ofNat (32 - s):=by
 apply UInt32.toNat_inj.1;have a:(UInt32.ofNat s).toNat=s:=by simp;omega
 have b:(UInt32.ofNat (32 - s)).toNat=32 - s:=by simp;omega
 rw[UInt32.toNat_sub_of_le _ _ (by rw[UInt32.le_iff_toNat_le,a];show s<=32;omega),a,b];rfl
theorem ep (x:UInt32) (k s:Nat) (w:World) (b:0<s) (a:s<32) (g:bits BinOp.and IntKind.u64 (IntKind.u64.wrap (-(k:Int))) 31=(s:Int)) :
  Calls Tryz.prog 224 #[U32 x,.int .i64 (-(k:Int))] w fun e c=>e=.returned (U32 (bv x (UInt32.ofNat s)))/\c=w:=by
 have h:(0:Int)<=(s:Int):=by omega
 have i:(s:Int)<=32:=by omega
 have j:IntKind.u64.wrap (32 - (s:Int))=((32 - s:Nat):Int):=by rw[IntWalk.u64_in _ (by omega)];omega
 have l:(0:Int)<=((32 - s:Nat):Int):=by omega
 have n:((32 - s:Nat):Int)<=32:=by omega
 have d:Hid (Value.int IntKind.u32 (bits BinOp.or IntKind.u32 (↑x.toNat*2 ^ s%4294967296) (↑x.toNat / 2 ^ (32 - s)))=U32 (bv x (UInt32.ofNat s))):=by
  unfold Hid bv;rw[nl x s a,gO x (32 - s) (by omega),kY,vC s a]
 go_enter Tryz.func224,Tryz.ntmps224;go_wp2;go_ret;exact⟨congrArg Ending.returned d.out,rfl⟩
theorem BG (x:UInt32) (w:World):Calls Tryz.prog 224 #[U32 x,.int .i64 (-6)] w fun e a=>e=.returned (U32 (bv x 26))/\a=w:=ep x 6 26 w (by decide) (by decide) (by decide +kernel)
theorem Be (x:UInt32) (w:World):Calls Tryz.prog 224 #[U32 x,.int .i64 (-11)] w fun e a=>e=.returned (U32 (bv x 21))/\a=w:=ep x 11 21 w (by decide) (by decide) (by decide +kernel)
theorem Bf (x:UInt32) (w:World):Calls Tryz.prog 224 #[U32 x,.int .i64 (-25)] w fun e a=>e=.returned (U32 (bv x 7))/\a=w:=ep x 25 7 w (by decide) (by decide) (by decide +kernel)
theorem BH (x:UInt32) (w:World):Calls Tryz.prog 224 #[U32 x,.int .i64 (-2)] w fun e a=>e=.returned (U32 (bv x 30))/\a=w:=ep x 2 30 w (by decide) (by decide) (by decide +kernel)
theorem Bg (x:UInt32) (w:World):Calls Tryz.prog 224 #[U32 x,.int .i64 (-13)] w fun e a=>e=.returned (U32 (bv x 19))/\a=w:=ep x 13 19 w (by decide) (by decide) (by decide +kernel)
theorem Bh (x:UInt32) (w:World):Calls Tryz.prog 224 #[U32 x,.int .i64 (-22)] w fun e a=>e=.returned (U32 (bv x 10))/\a=w:=ep x 22 10 w (by decide) (by decide) (by decide +kernel)
theorem BI (x:UInt32) (w:World):Calls Tryz.prog 224 #[U32 x,.int .i64 (-7)] w fun e a=>e=.returned (U32 (bv x 25))/\a=w:=ep x 7 25 w (by decide) (by decide) (by decide +kernel)
theorem Bi (x:UInt32) (w:World):Calls Tryz.prog 224 #[U32 x,.int .i64 (-18)] w fun e a=>e=.returned (U32 (bv x 14))/\a=w:=ep x 18 14 w (by decide) (by decide) (by decide +kernel)
theorem Bj (x:UInt32) (w:World):Calls Tryz.prog 224 #[U32 x,.int .i64 (-17)] w fun e a=>e=.returned (U32 (bv x 15))/\a=w:=ep x 17 15 w (by decide) (by decide) (by decide +kernel)
theorem Bk (x:UInt32) (w:World):Calls Tryz.prog 224 #[U32 x,.int .i64 (-19)] w fun e a=>e=.returned (U32 (bv x 13))/\a=w:=ep x 19 13 w (by decide) (by decide) (by decide +kernel)
end
section
open Go Go.RowKit
def bO (l:List UInt32) (n:Nat):Array Value:=((l++List.replicate (n - l.length) 0).map U32).toArray
variable {l:List UInt32} {n:Nat}
theorem gR (h:l.length<=n):(bO l n).size=n:=by
 unfold bO;simp;omega
variable {i:Nat}
theorem tZ (h:i<l.length):(bO l n)[i]? = some (U32 (l.getD i 0)):=by
 unfold bO;simp[List.getElem?_append,h,List.getD_eq_getElem?_getD]
theorem nE (x:UInt32) (h:l.length<n):bO (l++[x]) n=((bO l n).toList.take l.length++[U32 x]++(bO l n).toList.drop (l.length+1)).toArray:=by
 unfold bO;apply Array.ext';simp only[List.toList_toArray,List.map_append,List.map_cons,List.map_nil];rw[List.take_left' (by simp),show n - l.length=(n - (l++[x]).length)+1 by simp;omega,List.replicate_succ,List.map_cons,List.append_assoc,List.append_assoc];congr 1;rw[List.drop_append,List.length_map,show l.length+1 - l.length=1 by omega,List.drop_eq_nil_of_le (by simp)];simp
theorem rS (h:l.length=n):bO l n=(l.map U32).toArray:=by
 unfold bO;rw[show n - l.length=0 by omega];simp
variable {w:World}
theorem iC {g:Nat} {t:TypeId} {fr:Nat×Nat} (a:w.heap[g]? = some (.cells (bO l n) t fr)) (h:i<l.length):w.cell? ⟨g,i,none⟩=some (U32 (l.getD i 0)) :=
 (cell_of_row w g i _ _ _ a).trans (tZ h)
theorem gE:(Tryz.prog.info? 167).map (·.size)=some 1:=by kernel_rfl
theorem eW (y:UInt8):Value.int .u32 (IntKind.u32.wrap (y.toNat:Int))=U32 y.toUInt32:=by
 have:=y.toNat_lt;rw[wrap_u32 _ (by omega)];simp[U32]
theorem zB (x:UInt32):Value.int .u32 (IntKind.u32.wrap ((x.toNat:Int)*16777216))=U32 (x <<< 24):=by
 have h:=nl x 24 (by decide);have e:IntKind.u32.wrap ((x.toNat:Int)*16777216)=((x.toNat:Int)*16777216)%4294967296:=by rw[IntKind.wrap_u32]
 rw[e];exact congrArg _ h
theorem zC (x:UInt32):Value.int .u32 (IntKind.u32.wrap ((x.toNat:Int)*65536))=U32 (x <<< 16):=by
 have h:=nl x 16 (by decide);have e:IntKind.u32.wrap ((x.toNat:Int)*65536)=((x.toNat:Int)*65536)%4294967296:=by rw[IntKind.wrap_u32]
 rw[e];exact congrArg _ h
theorem AM (x:UInt32):Value.int .u32 (IntKind.u32.wrap ((x.toNat:Int)*256))=U32 (x <<< 8):=by
 have h:=nl x 8 (by decide);have e:IntKind.u32.wrap ((x.toNat:Int)*256)=((x.toNat:Int)*256)%4294967296:=by rw[IntKind.wrap_u32]
 rw[e];exact congrArg _ h
theorem jZ (x y:UInt32):Value.int .u32 (bits .or .u32 (x.toNat:Int) (y.toNat:Int))=U32 (x ||| y):=congrArg _ (kY x y)
theorem zT (x y:UInt32):Value.int .u32 (((x.toNat:Int)+(y.toNat:Int))%4294967296)=U32 (x+y):=congrArg _ (cr x y)
theorem nF (b:B8) (k:Nat):aU b (k+1)=aU b k++[if k<16 then be4 b k else js (aU b k) k]:=rfl
section
variable {ops:Array Oper} {rest:List Oper} {o:Oper} {a:Act} {Q:Exit->Act->World->Prop} {w:World}
theorem fT (d:o.guard=none) (c:TypeId) (x y:Operand) (r:o.op=.store c x y) (g j:Nat) (u:a.eval x=.pointer (some ⟨g,j,none⟩)) (vs:Array Value) (z:a.eval y=.agg vs) (A:∀v∈vs.toList,v.oneCell'=true)
  (t:TypeId) (cur:Array Value) (n:w.heap[g]? = some (.cells cur t (0,0))) (B:j+vs.size<=cur.size) (p:(Tryz.prog.info? c).map (·.size)=some vs.size) (new:Array Value) (b:new=(cur.toList.take j++vs.toList++cur.toList.drop (j+vs.size)).toArray)
  (h:∀e,e.heap[g]? = some (.cells new t (0,0))->w.grownBy e (some g)->wpList Tryz.prog ops Q rest (a.put o.dst undef) e):wpList Tryz.prog ops Q (o::rest) a w :=
 wpList_plain d fun _ C=>by
  have q:=run_storeCells_at (P:=Tryz.prog) g j t vs.toList 0 cur w n (by simpa using B) A;have D:(storeVar c ⟨g,j,none⟩ (.agg vs)).run Tryz.prog w=.ok () (w.setRow g new):=by
   cases k:Tryz.prog.info? c with
   | none=>simp[k]at p
   | some i =>
    have l:i.size=vs.size:=by simpa [k]using p
    simp only[Nat.add_zero,Array.length_toList]at q;rw[b];simp[storeVar,sizeOf,typeInfo,k,Value.cells,l,q]
  unfold Oper.wp execOp;simp only[r,u,z,Instr.storeAt,Instr.sureAddr,Sem.run_bind,Sem.run_pure,Result.andThen_ok,D];exact C _ _ (h _ (setRow_heap _ _ _ _ _ _ n) (ae _ _ _))
end
theorem gF:(Tryz.prog.info? 217).map (·.size)=some 64:=by kernel_rfl
theorem iO:(Tryz.prog.info? 216).map (·.size)=some 8:=by kernel_rfl
theorem qJ (l:List UInt32):∀v∈(l.map U32).toArray.toList,v.oneCell'=true:=by
 intro v a;obtain⟨x,-,rfl⟩:=List.mem_map.1 (by simpa using a);rfl
theorem eX (x y:UInt32):Value.int .u32 (IntKind.u32.wrap ((x.toNat:Int)+(y.toNat:Int)))=U32 (x+y):=by
 rw[IntKind.wrap_u32];exact zT x y
structure Sch (w wr:World) (b:B8) (k:Nat):Prop where
 ext:Ext w wr
 now:wr.heap[w.heap.size+1]? = some (.cells (bO (aU b k) 64) 217 (0,0))
 res:wr.heap[w.heap.size]? = some (.cells (bO [] 64) 217 (0,0))
variable {wr w2:World} {b:B8} {k:Nat}
theorem Sch.more (h:Sch w wr b k) (a:Ext wr w2):Sch w w2 b k:=⟨h.ext.trans a,Ext.row a h.now,Ext.row a h.res⟩
theorem Sch.put (h:Sch w wr b k) (c:w2.heap[w.heap.size+1]? = some (.cells (bO (aU b (k+1)) 64) 217 (0,0))) (a:wr.grownBy w2 (some (w.heap.size+1))):Sch w w2 b (k+1) :=
 ⟨Below.grown h.ext a h.ext.size (fun j d=>by cases d;omega),c,(a.block _ (Array.getElem?_eq_some_iff.1 h.res).1 (by simp)).trans h.res⟩
theorem qK (v:Value) (b:B8) (w:World) (hv:IsBytes w v b) (hb:b.length=64) :
  Calls Tryz.prog 223 #[v] w fun e w'=>e=.returned (.agg ((aU b 64).map U32).toArray)/\Ext w w':=by
 obtain⟨a,cp,rfl,h1,h2,h3,h4⟩:=hv.get;have H4:Hid _:=h4;have t:Hid _:=hb;clear h4 hv hb;go_enter Tryz.func223,Tryz.ntmps223;go_wp2_with fail;go_loopw [9] (fun i wr=>∃k:Nat,k<=64/\i=.int .i64 k/\Sch w wr b k) (fun i _=>64 - (intOf i).toNat)
 case atStart=>exact⟨0,by omega,rfl,((Ext.refl _).alloc _).alloc _,by have h9:=ju w (.cells (bO [] 64) 217) (.cells (bO [] 64) 217);exact h9,by have h9:=Ext.row ((Ext.refl _).alloc (.cells (bO [] 64) 217)) (ab w (.cells (bO [] 64) 217));exact h9⟩
 case round =>
  obtain⟨k,g,rfl,hS⟩:=hrel;have P:Hid _:=hS;have C:=dP b k;clear hS
  by_cases bk:k<16
  .obtain ⟨bb,oo,rfl,hc⟩:=H4.out (4*k) (by have:=t.out;omega);have hx:=P.out.ext;have d0:=hx.cell (hc (4*k) (by have:=t.out;omega));have d1:=hx.cell (hc (4*k+1) (by have:=t.out;omega));have d2:=hx.cell (hc (4*k+2) (by have:=t.out;omega));have d3:=hx.cell (hc (4*k+3) (by have:=t.out;omega));obtain⟨y0,Q⟩:∃y,b.getD (4*k) 0=y:=⟨_,rfl⟩;obtain⟨y1,S⟩:∃y,b.getD (4*k+1) 0=y:=⟨_,rfl⟩;obtain⟨y2,T⟩:∃y,b.getD (4*k+2) 0=y:=⟨_,rfl⟩;obtain⟨y3,U⟩:∃y,b.getD (4*k+3) 0=y:=⟨_,rfl⟩;rw[Q]at d0;rw[S]at d1;rw[T]at d2;rw[U]at d3;have G:Hid (aU b (k+1)=aU b k++[(((y0.toUInt32 <<< 24) ||| (y1.toUInt32 <<< 16)) ||| (y2.toUInt32 <<< 8)) ||| y3.toUInt32]):=by
    unfold Hid;rw[nF,if_pos bk];unfold be4;rw[Q,S,T,U]
   clear Q S T U hc hx;obtain⟨D,W⟩:∃x,y0.toUInt32=x:=⟨_,rfl⟩;obtain⟨E,Z⟩:∃x,y1.toUInt32=x:=⟨_,rfl⟩;obtain⟨H,q⟩:∃x,y2.toUInt32=x:=⟨_,rfl⟩;obtain⟨x3,ad⟩:∃x,y3.toUInt32=x:=⟨_,rfl⟩;rw[W,Z,q,ad]at G;have bS:Hid _:=W;have b0:Hid _:=Z;have b1:Hid _:=q;have b2:Hid _:=ad;clear W Z q ad;have n0:4*(k:Int)<(b.length:Int):=by have:=t.out;omega
   have n1:4*(k:Int)+1<(b.length:Int):=by have:=t.out;omega
   have n2:4*(k:Int)+2<(b.length:Int):=by have:=t.out;omega
   have n3:4*(k:Int)+3<(b.length:Int):=by have:=t.out;omega
   have W0:Hid (IntKind.i64.wrap (4*(k:Int))=4*(k:Int)/\(4*(k:Int)).toNat=4*k):=⟨IntWalk.i64_in _ (by omega),by omega⟩;have W1:Hid (IntKind.i64.wrap (4*(k:Int)+1)=4*(k:Int)+1/\(4*(k:Int)+1).toNat=4*k+1):=⟨IntWalk.i64_in _ (by omega),by omega⟩;have W2:Hid (IntKind.i64.wrap (4*(k:Int)+2)=4*(k:Int)+2/\(4*(k:Int)+2).toNat=4*k+2):=⟨IntWalk.i64_in _ (by omega),by omega⟩;have W3:Hid (IntKind.i64.wrap (4*(k:Int)+3)=4*(k:Int)+3/\(4*(k:Int)+3).toNat=4*k+3):=⟨IntWalk.i64_in _ (by omega),by omega⟩;go_wp2_with fail;apply aj 35 [_,_,_,_,.pointer (some ⟨bb,oo+4*k,none⟩),.int .u8 y0.toNat,U32 D,U32 (D <<< 24),_,_,_,_,.pointer (some ⟨bb,oo+(4*k+1),none⟩),.int .u8 y1.toNat,U32 E,U32 (E <<< 16),U32 ((D <<< 24) ||| (E <<< 16)),_,_,_,_,.pointer (some ⟨bb,oo+(4*k+2),none⟩),.int .u8 y2.toNat,U32 H,U32 (H <<< 8),U32 (((D <<< 24) ||| (E <<< 16)) ||| (H <<< 8)),_,_,_,_,.pointer (some ⟨bb,oo+(4*k+3),none⟩),.int .u8 y3.toNat,U32 x3,U32 ((((D <<< 24) ||| (E <<< 16)) ||| (H <<< 8)) ||| x3),.pointer (some ⟨w.heap.size+1,k,none⟩)] [none,none,none,none,none,none,none,none,none,none,none,none,none,none,none,none,none,none,none,none,none,none,none,none,none,none,none,none,none,none,none,none,none,none,none] [[],[],[],[2],[1,3],[4],[5],[6],[],[],[9],[10],[8,11],[12],[13],[14],[7,15],[],[],[18],[19],[17,20],[21],[22],[23],[16,24],[],[],[27],[28],[26,29],[30],[31],[25,32],[0]] (by kernel_rfl) (by kernel_rfl) (by simp[ak])
   .trivial
   .simp (maxSteps:=1000000)only[List.take_succ_cons,List.take_zero,aw,aA,aa,Act.put,List.setIfInBounds_toArray,List.set_cons_zero,List.set_cons_succ,aK,aO,ak,List.getD_cons_zero,List.getD_cons_succ,and_true,true_and,forall_const];and_intros
    iterate 4 · intro o p h;intros;rename_i c;go_simp;exact c _ _ (Ext.refl _) rfl
    .intro o p h g R c;obtain⟨u,z⟩:=g;go_simp;simp only[W0.out.1];rw[if_pos ⟨by omega,by omega⟩,W0.out.2];exact c _ _ (Ext.refl _) rfl
    .intro o p h g R c;have f0:=h.cell d0;go_simp;exact c _ _ (Ext.refl _) rfl
    .intro o p h g R c;go_simp;exact c _ _ (Ext.refl _) (by rw[<-bS.out];exact eW y0)
    .intro o p h g R c;go_simp;exact c _ _ (Ext.refl _) (zB D)
    iterate 4 · intro o p h;intros;rename_i c;go_simp;exact c _ _ (Ext.refl _) rfl
    .intro o p h g R c;obtain⟨u,z⟩:=g;go_simp;simp only[W0.out.1,W1.out.1];rw[if_pos ⟨by omega,by omega⟩,W1.out.2];exact c _ _ (Ext.refl _) rfl
    .intro o p h g R c;have f1:=h.cell d1;go_simp;exact c _ _ (Ext.refl _) rfl
    .intro o p h g R c;go_simp;exact c _ _ (Ext.refl _) (by rw[<-b0.out];exact eW y1)
    .intro o p h g R c;go_simp;exact c _ _ (Ext.refl _) (zC E)
    .intro o p h g R c;obtain⟨u,z⟩:=g;go_simp;exact c _ _ (Ext.refl _) (jZ (D <<< 24) (E <<< 16))
    iterate 4 · intro o p h;intros;rename_i c;go_simp;exact c _ _ (Ext.refl _) rfl
    .intro o p h g R c;obtain⟨u,z⟩:=g;go_simp;simp only[W0.out.1,W2.out.1];rw[if_pos ⟨by omega,by omega⟩,W2.out.2];exact c _ _ (Ext.refl _) rfl
    .intro o p h g R c;have f2:=h.cell d2;go_simp;exact c _ _ (Ext.refl _) rfl
    .intro o p h g R c;go_simp;exact c _ _ (Ext.refl _) (by rw[<-b1.out];exact eW y2)
    .intro o p h g R c;go_simp;exact c _ _ (Ext.refl _) (AM H)
    .intro o p h g R c;obtain⟨u,z⟩:=g;go_simp;exact c _ _ (Ext.refl _) (jZ ((D <<< 24) ||| (E <<< 16)) (H <<< 8))
    iterate 4 · intro o p h;intros;rename_i c;go_simp;exact c _ _ (Ext.refl _) rfl
    .intro o p h g R c;obtain⟨u,z⟩:=g;go_simp;simp only[W0.out.1,W3.out.1];rw[if_pos ⟨by omega,by omega⟩,W3.out.2];exact c _ _ (Ext.refl _) rfl
    .intro o p h g R c;have f3:=h.cell d3;go_simp;exact c _ _ (Ext.refl _) rfl
    .intro o p h g R c;go_simp;exact c _ _ (Ext.refl _) (by rw[<-b2.out];exact eW y3)
    .intro o p h g R c;obtain⟨u,z⟩:=g;go_simp;exact c _ _ (Ext.refl _) (jZ (((D <<< 24) ||| (E <<< 16)) ||| (H <<< 8)) x3)
    .intro o p h g R c;go_simp;exact c _ _ (Ext.refl _) rfl
   intro o w2 q g;simp only[aP,Nat.zero_add,Nat.reduceAdd,and_true]at g;simp(maxSteps:=1000000)only[List.take_succ_cons,List.take_zero,List.drop_succ_cons,List.drop_zero,aa,Act.put,List.setIfInBounds_toArray,List.set_cons_zero,List.set_cons_succ,Nat.zero_add,Nat.reduceAdd,g];clear g;have I:Hid _:=Sch.more P.out q;have d:=I.out.now;have au:=gR (l:=aU b k) (n:=64) (by omega);have A:=nE (l:=aU b k) (n:=64) ((((D <<< 24) ||| (E <<< 16)) ||| (H <<< 8)) ||| x3) (by omega);rw[<-G.out,C]at A
   go_wp2_with (refine af rfl 167 (.tmp 48) (.tmp 47) rfl (w.heap.size+1) k rfl (U32 ((((D <<< 24) ||| (E <<< 16)) ||| (H <<< 8)) ||| x3)) rfl rfl _ (bO (aU b k) 64) d (by omega) gE (bO (aU b (k+1)) 64) A ?_;intro w3 bl K)
   have b3:Hid _:=Sch.put I.out bl K;clear bl K d au A;go_roundw
   case rel=>exact⟨k+1,by omega,by go_num,b3.out⟩
   case measure=>simp[intOf];omega
  .by_cases co:k<64
   .have d:=P.out.now;obtain⟨X,hX⟩:∃x,(aU b k).getD (k - 15) 0=x:=⟨_,rfl⟩;obtain⟨Y,hY⟩:∃x,(aU b k).getD (k - 2) 0=x:=⟨_,rfl⟩;obtain⟨A0,hA⟩:∃x,(aU b k).getD (k - 16) 0=x:=⟨_,rfl⟩;obtain⟨B0,hB⟩:∃x,(aU b k).getD (k - 7) 0=x:=⟨_,rfl⟩;have bo:=iC d (i:=k - 15) (by omega);have e2:=iC d (i:=k - 2) (by omega);have a0:=iC d (i:=k - 16) (by omega);have e7:=iC d (i:=k - 7) (by omega);rw[hX]at bo;rw[hY]at e2;rw[hA]at a0;rw[hB]at e7;obtain⟨p1,a1⟩:∃x,bv X 25=x:=⟨_,rfl⟩;obtain⟨q1,a2⟩:∃x,bv X 14=x:=⟨_,rfl⟩;obtain⟨p2,a3⟩:∃x,p1 ^^^ q1=x:=⟨_,rfl⟩;obtain⟨r1,F⟩:∃x,X >>> 3=x:=⟨_,rfl⟩;obtain⟨s1,a4⟩:∃x,p2 ^^^ r1=x:=⟨_,rfl⟩;obtain⟨p3,a5⟩:∃x,bv Y 15=x:=⟨_,rfl⟩;obtain⟨q3,a6⟩:∃x,bv Y 13=x:=⟨_,rfl⟩;obtain⟨p4,a7⟩:∃x,p3 ^^^ q3=x:=⟨_,rfl⟩;obtain⟨r2,a8⟩:∃x,Y >>> 10=x:=⟨_,rfl⟩;obtain⟨s2,a9⟩:∃x,p4 ^^^ r2=x:=⟨_,rfl⟩;obtain⟨z1,a'⟩:∃x,A0+s1=x:=⟨_,rfl⟩;obtain⟨z2,bd⟩:∃x,z1+B0=x:=⟨_,rfl⟩;obtain⟨z3,bh⟩:∃x,z2+s2=x:=⟨_,rfl⟩;have b4:Hid _:=a';have b5:Hid _:=bd;have b6:Hid _:=bh;have G:Hid (aU b (k+1)=aU b k++[z3]):=by
     unfold Hid;rw[nF,if_neg bk];unfold js;rw[hX,hY,hA,hB,a1,a2,a3,F,a4,a5,a6,a7,a8,a9,a',bd,bh]
    have f1:bits BinOp.xor IntKind.u32 (p1.toNat:Int) (q1.toNat:Int)=(p2.toNat:Int):=by rw[<-a3];exact bu _ _
    have f2:(X.toNat:Int) / 8=(r1.toNat:Int):=by rw[<-F];exact gO X 3 (by decide)
    have f3:bits BinOp.xor IntKind.u32 (p2.toNat:Int) (r1.toNat:Int)=(s1.toNat:Int):=by rw[<-a4];exact bu _ _
    have f4:bits BinOp.xor IntKind.u32 (p3.toNat:Int) (q3.toNat:Int)=(p4.toNat:Int):=by rw[<-a7];exact bu _ _
    have f5:(Y.toNat:Int) / 1024=(r2.toNat:Int):=by rw[<-a8];exact gO Y 10 (by decide)
    have f6:bits BinOp.xor IntKind.u32 (p4.toNat:Int) (r2.toNat:Int)=(s2.toNat:Int):=by rw[<-a9];exact bu _ _
    have b7:Hid _:=a1;have b8:Hid _:=a2;have b':Hid _:=a5;have ca:Hid _:=a6;have cb:Hid (IntKind.i64.wrap ((k:Int) - 15)=((k - 15:Nat):Int)):=by unfold Hid;rw[IntWalk.i64_in _ (by omega)];omega
    have W2:Hid (IntKind.i64.wrap ((k:Int) - 2)=((k - 2:Nat):Int)):=by unfold Hid;rw[IntWalk.i64_in _ (by omega)];omega
    have cc:Hid (IntKind.i64.wrap ((k:Int) - 16)=((k - 16:Nat):Int)):=by unfold Hid;rw[IntWalk.i64_in _ (by omega)];omega
    have W7:Hid (IntKind.i64.wrap ((k:Int) - 7)=((k - 7:Nat):Int)):=by unfold Hid;rw[IntWalk.i64_in _ (by omega)];omega
    clear hX hY hA hB a1 a2 a3 F a4 a5 a6 a7 a8 a9 a' bd bh d;have ce:=cb.out;have w2:=W2.out;have cl:((k - 15:Nat):Int)<64:=by omega
    have n2:((k - 2:Nat):Int)<64:=by omega
    go_upto_region 7 with fail;go_quiet (fail);have q:Ext wr (wr.drewN nq):=Ext.drawn _ _;have I:Hid _:=Sch.more P.out q;clear ce w2 cl n2;have bq:=q.cell a0;have g7:=q.cell e7;clear bo e2 a0 e7 q;go_wp2_with fail;go_at_call 224;refine(BI X _).mono ?_;rw[b7.out];rintro e w3 ⟨rfl,rfl⟩;go_wp2_with fail;go_at_call 224;refine(Bi X _).mono ?_;rw[b8.out];rintro e w3 ⟨rfl,rfl⟩;go_wp2_with fail;go_at_call 224;refine(Bj Y _).mono ?_;rw[b'.out];rintro e w3 ⟨rfl,rfl⟩;go_wp2_with fail;go_at_call 224;refine(Bk Y _).mono ?_;rw[ca.out];rintro e w3 ⟨rfl,rfl⟩;go_wp2_with fail;apply aj 15 [_,_,_,.pointer (some ⟨w.heap.size+1,k - 16,none⟩),U32 A0,_,U32 z1,_,_,.pointer (some ⟨w.heap.size+1,k - 7,none⟩),U32 B0,U32 z2,_,U32 z3,.pointer (some ⟨w.heap.size+1,k,none⟩)] [none,none,none,none,none,none,none,none,none,none,none,none,none,none,none] [[],[],[1],[2],[3],[],[4,5],[],[7],[8],[9],[6,10],[],[11,12],[0]] (by kernel_rfl) (by kernel_rfl) (by simp[ak])
    .trivial
    .simp (maxSteps:=1000000)only[List.take_succ_cons,List.take_zero,aw,aA,aa,Act.put,List.setIfInBounds_toArray,List.set_cons_zero,List.set_cons_succ,aK,aO,ak,List.getD_cons_zero,List.getD_cons_succ,and_true,true_and,forall_const];and_intros
     iterate 3 · intro o p h;intros;rename_i c;go_simp;exact c _ _ (Ext.refl _) rfl
     .intro o p h g R c;go_simp;simp only[cc.out];rw[if_pos ⟨by omega,by omega⟩];exact c _ _ (Ext.refl _) rfl
     .intro o p h g R c;have f0:=h.cell bq;go_simp;exact c _ _ (Ext.refl _) rfl
     .intro o p h;intros;rename_i c;go_simp;exact c _ _ (Ext.refl _) rfl
     .intro o p h g R c;obtain⟨u,z⟩:=g;go_simp;exact c _ _ (Ext.refl _) (by rw[<-b4.out];exact eX A0 s1)
     iterate 2 · intro o p h;intros;rename_i c;go_simp;exact c _ _ (Ext.refl _) rfl
     .intro o p h g R c;go_simp;simp only[W7.out];rw[if_pos ⟨by omega,by omega⟩];exact c _ _ (Ext.refl _) rfl
     .intro o p h g R c;have f0:=h.cell g7;go_simp;exact c _ _ (Ext.refl _) rfl
     .intro o p h g R c;obtain⟨u,z⟩:=g;go_simp;exact c _ _ (Ext.refl _) (by rw[<-b5.out];exact eX z1 B0)
     .intro o p h;intros;rename_i c;go_simp;exact c _ _ (Ext.refl _) rfl
     .intro o p h g R c;obtain⟨u,z⟩:=g;go_simp;exact c _ _ (Ext.refl _) (by rw[<-b6.out];exact eX z2 s2)
     .intro o p h g R c;go_simp;exact c _ _ (Ext.refl _) rfl
    intro o w4 br g;simp only[aP,Nat.zero_add,Nat.reduceAdd,and_true]at g;simp(maxSteps:=1000000)only[List.take_succ_cons,List.take_zero,List.drop_succ_cons,List.drop_zero,aa,Act.put,List.setIfInBounds_toArray,List.set_cons_zero,List.set_cons_succ,Nat.zero_add,Nat.reduceAdd,g];clear g;have bs:Hid _:=Sch.more I.out br;have d:=bs.out.now;have au:=gR (l:=aU b k) (n:=64) (by omega);have A:=nE (l:=aU b k) (n:=64) z3 (by omega);rw[<-G.out,C]at A;clear f1 f2 f3 f4 f5 f6 bq g7 br
    go_wp2_with (refine af rfl 167 (.tmp 87) (.tmp 86) rfl (w.heap.size+1) k rfl (U32 z3) rfl rfl _ (bO (aU b k) 64) d (by omega) gE (bO (aU b (k+1)) 64) A ?_;intro w5 J B)
    have cm:Hid _:=Sch.put bs.out J B;clear J B d au A;go_roundw
    case rel=>exact⟨k+1,by omega,by go_num,cm.out⟩
    case measure=>simp[intOf];omega
   .have cn:k=64:=by omega
    subst cn;have d:=P.out.now;have bt:=P.out.res;have L:=P.out.ext;have M:=rS (n:=64) C;rw[M]at d;have r:((aU b 64).map U32).toArray.size=64:=by simp[C]
    obtain⟨V,hV⟩:∃V,((aU b 64).map U32).toArray=V:=⟨_,rfl⟩;have N:=qJ (aU b 64);rw[hV]at d r N;have HV:Hid _:=hV;have bx:(bO [] 64).size=64:=gR (Nat.zero_le _);have F:(bO [] 64).toList.drop (0+V.size)=[]:=by rw[r];exact List.drop_eq_nil_of_le (by rw[Array.length_toList,bx];omega)
    have O:Hid _:=L;clear C M hV L
    go_wp2_with (first
     | (refine wpList_load_row rfl 217 (.tmp 3) rfl (w.heap.size+1) rfl 217 V (0,0) _ d Tryz.underlying217 rfl (by rw[r];exact gF) ?_)
     | (refine fT rfl 217 (.tmp 2) (.tmp 89) rfl w.heap.size 0 rfl V rfl N _ (bO [] 64) bt (by rw[r,bx];omega) (by rw[r];exact gF) V (by rw[F];simp) ?_;intro w5 J B))
    refine bodyPost_ret (results_cell_row rfl _ _ w.heap.size 217 V (0,0) _ rfl J Tryz.underlying217 rfl (by rw[r];exact gF)) rfl ?_;rw[HV.out];exact⟨rfl,Below.grown O.out B (O.out).size (fun j hj=>by cases hj;omega)⟩
end
section
open Go Go.RowKit
def bf (cb:Nat) (st:List UInt32) (rest:Value) (n:Int):Array Value:=((.pointer (some ⟨cb,0,none⟩))::(st.map U32++[rest,.int .i64 n])).toArray
def dX (o:List Value):Array Value:=(o++(df.map U32++dI.map U32)).toArray
variable {cb j:Nat} {st:List UInt32} {rest:Value} {n:Int}
theorem pg (h:j<st.length):(bf cb st rest n)[1+j]? = some (U32 (st.getD j 0)):=by
 unfold bf;simp[show 1+j=j+1 by omega,List.getElem?_append,h,List.getD_eq_getElem?_getD]
theorem rT {o:List Value} (a:o.length=3) (h:j<64):(dX o)[11+j]? = some (U32 (dI.getD j 0)):=by
 unfold dX;rw[List.getElem?_toArray,List.getElem?_append_right (by omega),List.getElem?_append_right (by rw[a,List.length_map];show 8<=_;omega),List.length_map,a];rw[show 11+j - 3 - df.length=j by show 11+j - 3 - 8=j;omega,List.getElem?_map,List.getElem?_eq_getElem (show j<dI.length from h)];simp[List.getD_eq_getElem?_getD,show j<dI.length from h]
theorem gS {l:List UInt32} (h:l.length=8):∃a b c d e g i j,l=[a,b,c,d,e,g,i,j]:=by
 match l,h with
 | [a,b,c,d,e,g,i,j],_=>exact⟨a,b,c,d,e,g,i,j,rfl⟩
structure MixR (w wr:World) (gw gs:Nat) (V:Array Value) (st W:List UInt32) (k:Nat) (c:List UInt32):Prop where
 ext:Ext w wr
 now:wr.heap[gw]? = some (.cells V 217 (0,0))
 cur:wr.heap[gs]? = some (.cells (c.map U32).toArray 216 (0,0))
 eq:iW st W k=c
 low:w.heap.size<=gw/\gw<gs
variable {w wr w2:World} {gw gs k:Nat} {V:Array Value} {W c:List UInt32}
theorem MixR.more (h:MixR w wr gw gs V st W k c) (a:Ext wr w2):MixR w w2 gw gs V st W k c :=
 ⟨h.ext.trans a,Ext.row a h.now,Ext.row a h.cur,h.eq,h.low⟩
theorem MixR.put {new:List UInt32} (h:MixR w wr gw gs V st W k c) (b:w2.heap[gs]? = some (.cells (new.map U32).toArray 216 (0,0))) (a:wr.grownBy w2 (some gs)) (d:rnd c (dI.getD k 0) (W.getD k 0)=new):MixR w w2 gw gs V st W (k+1) new :=
 ⟨Below.grown h.ext a h.ext.size (fun j e=>by cases e;have:=h.low;omega),(a.block _ (Array.getElem?_eq_some_iff.1 h.now).1 (by have:=h.low;simp;omega)).trans h.now,b,by show rnd (iW st W k) _ _=_;rw[h.eq];exact d,h.low⟩
def dD (st a:List UInt32) (k:Nat):List UInt32:=(List.zipWith (· + ·) st a).take k++st.drop k
variable {fin:List UInt32}
theorem ph (a:st.length=8) (b:fin.length=8) (d:k<=8):(dD st fin k).length=8:=by
 unfold dD;simp[a,b];omega
theorem pi (a:st.length=8) (b:fin.length=8) (d:k<8):(dD st fin k).getD k 0=st.getD k 0:=by
 unfold dD;rw[List.getD_eq_getElem?_getD,List.getElem?_append_right (by simp[a,b];omega),List.getD_eq_getElem?_getD];simp[a,b,show min k 8=k by omega]
theorem pj (a:st.length=8) (b:fin.length=8) (d:k<8):dD st fin (k+1)=(dD st fin k).set k (st.getD k 0+fin.getD k 0):=by
 obtain⟨e,g,h,i,l,o,p,q,rfl⟩:=gS a;obtain⟨r,t,u,x,y,z,A,B,rfl⟩:=gS b
 match k,d with
 | 0,_=>rfl
 | 1,_=>rfl
 | 2,_=>rfl
 | 3,_=>rfl
 | 4,_=>rfl
 | 5,_=>rfl
 | 6,_=>rfl
 | 7,_=>rfl
theorem t9 (x:UInt32) (h:j<st.length):bf cb (st.set j x) rest n=((bf cb st rest n).toList.take (1+j)++[U32 x]++(bf cb st rest n).toList.drop (1+j+1)).toArray:=by
 unfold bf;apply Array.ext';simp only[List.toList_toArray,show 1+j=j+1 by omega,List.take_succ_cons,List.drop_succ_cons,List.cons_append];congr 1;rw[List.map_set,List.take_append_of_le_length (by simp;omega),List.drop_append_of_le_length (by simp;omega),List.set_eq_take_append_cons_drop,if_pos (by simpa using h)];simp
theorem gT:(bf cb st rest n).size=st.length+3:=by
 unfold bf;simp
theorem mi {F:Array Value} {v:Value} (w:World) (h:F[k]? = some v) (a:k<8):(Instr.index 216 (.agg F) (.int .i64 (k:Int))).run Tryz.prog w=.ok v w:=by
 simp[Instr.index,run_underlying Tryz.underlying216,asIntOf];rw[if_pos a];simp[part,isAgg,run_underlying Tryz.underlying167,h]
structure xU (w wr:World) (hb cb:Nat) (st fin:List UInt32) (rest:Value) (n:Int) (k:Nat):Prop where
 fr:Fr (fun j=>j=hb) w wr
 cells:wr.heap[hb]? = some (.cells (bf cb (dD st fin k) rest n) 221 (0,0))
theorem lU {a:Nat} {cs:Array Value} {fr:Nat×Nat} (b:w.heap[a]? = some (.cells cs 221 fr)):¬IsU8 w a:=ao b (by kernel_rfl)
theorem zU (D cb:Nat) (st:List UInt32) (rest v:Value) (n:Int) (b:B8) (o:List Value) (w:World) (b1:st.length=8) (ho:o.length=3)
  (hg:w.heap[D]? = some (.cells (bf cb st rest n) 221 (0,0))) (hc:w.heap[cb]? = some (.cells (dX o) 219 (0,0))) (hv:IsBytes w v b) (hl:b.length=64) :
  Calls Tryz.prog 182 #[.pointer (some ⟨D,0,none⟩),v] w fun e w'=>e=.returned (.tuple #[])/\w'.heap[D]? = some (.cells (bf cb (eP st b) rest n) 221 (0,0))/\Fr (fun k=>k=D) w w':=by
 have HG:Hid _:=hg;have HC:Hid _:=hc;have HV:Hid _:=hv;have HL:Hid _:=hl;have f4:=(Array.getElem?_eq_some_iff.1 hg).1;obtain⟨a,f5,rfl,h1,h2,h3,-⟩:=hv.get;obtain⟨i0,i1,i2,i3,i4,i5,i6,i7,b2⟩:=gS b1;have e1:Hid _:=b2;have P:w.rangeAt D 1 [U32 i0,U32 i1,U32 i2,U32 i3,U32 i4,U32 i5,U32 i6,U32 i7]:=fun j u hu=>by
  have T:=(List.getElem?_eq_some_iff.1 hu).1;have f6:j<8:=by simpa using T
  rw[cell_of_row w D (1+j) _ _ _ hg,pg (by omega),b2];have:([U32 i0,U32 i1,U32 i2,U32 i3,U32 i4,U32 i5,U32 i6,U32 i7]:List Value)=[i0,i1,i2,i3,i4,i5,i6,i7].map U32:=rfl;rw[this,List.getElem?_map]at hu;rw[<-hu,List.getD_eq_getElem?_getD]
  cases hx:([i0,i1,i2,i3,i4,i5,i6,i7]:List UInt32)[j]? with
  | none=>rw[List.getElem?_eq_none_iff]at hx;simp at hx;omega
  | some x=>rfl
 have e2:Hid _:=P;have U:Hid _:=b1;have HO:Hid _:=ho;clear hg hc hv hl b1 ho b2 P;go_enter Tryz.func182,Tryz.ntmps182;go_wp2_with fail;go_at_call 223;refine(qK _ b w HV.out HL.out).mono ?_;rintro e w1 ⟨rfl,A⟩;have dc:=dP b 64;have Q:((aU b 64).map U32).toArray.size=64:=by simp[dc]
 obtain⟨V,hV⟩:∃V,((aU b 64).map U32).toArray=V:=⟨_,rfl⟩;have X:=qJ (aU b 64);rw[hV]at Q X ⊢;have dk:Hid _:=hV;have b3:(bO [] 64).size=64:=gR (Nat.zero_le _);have dl:(bO [] 64).toList.drop (0+V.size)=[]:=by rw[Q];exact List.drop_eq_nil_of_le (by rw[Array.length_toList,b3];omega)
 have dn:(w1.alloc (.cells (bO [] 64) 217)).heap[w1.heap.size]? = some (.cells (bO [] 64) 217 (0,0)):=ab _ _;go_upto_region 1 with(refine fT rfl 217 (.tmp 4) (.tmp 16) rfl w1.heap.size 0 rfl V rfl X _ (bO [] 64) dn (by rw[Q,b3];omega) (by rw[Q];exact gF) V (by rw[dl];simp) ?_;intro w2 dq bs);have K:Ext w w2:=Below.grown (A.alloc _) bs (by have:=A.size;simp;omega) (fun j T=>by cases T;exact A.size);have bt:w2.rangeAt D 1 [U32 i0,U32 i1,U32 i2,U32 i3,U32 i4,U32 i5,U32 i6,U32 i7]:=fun j u hu=>K.cell (e2.out j u hu)
 have b4:Hid _:=dq;have b5:Hid _:=K;have ds:Hid _:=A;obtain⟨gw,b6⟩:∃k,w1.heap.size=k:=⟨_,rfl⟩;rw[b6]at b4 ⊢;have d0:w.heap.size<=gw:=by rw[<-b6];exact A.size
 have bx:gw<w2.heap.size:=(Array.getElem?_eq_some_iff.1 b4.out).1;clear X b3 dl dn dq bs A K hV b6 dc;go_upto_region 2 with(refine wpList_load_mid rfl 216 (.tmp 19) rfl D 1 rfl [U32 i0,U32 i1,U32 i2,U32 i3,U32 i4,U32 i5,U32 i6,U32 i7] _ bt Tryz.underlying216 rfl iO ?_);obtain⟨w3,a9⟩:∃q,q=w2.alloc (.cells #[U32 i0,U32 i1,U32 i2,U32 i3,U32 i4,U32 i5,U32 i6,U32 i7] 216):=⟨_,rfl⟩;have bS:w2.alloc (.cells #[U32 i0,U32 i1,U32 i2,U32 i3,U32 i4,U32 i5,U32 i6,U32 i7] 216)=w3:=a9.symm;rw[bS];have L:Ext w2 w3:=by rw[a9];exact(Ext.refl _).alloc _
 have b7:Hid (MixR w w3 gw w2.heap.size V st (aU b 64) 0 [i0,i1,i2,i3,i4,i5,i6,i7]):=⟨Ext.trans b5.out L,Ext.row L b4.out,by rw[a9];exact ab _ _,e1.out,d0,bx⟩;obtain⟨gs,d1⟩:∃k,w2.heap.size=k:=⟨_,rfl⟩;rw[d1]at b7 ⊢;clear a9 bS L bt d1 bx;obtain⟨W,hW⟩:∃W,aU b 64=W:=⟨_,rfl⟩;have e3:Hid (∀j,j<64->V[j]? = some (U32 (W.getD j 0))):=fun j T=>by
  rw[<-hW,<-dk.out,List.getElem?_toArray,List.getElem?_map,List.getElem?_eq_getElem (by rw[dP];exact T),List.getD_eq_getElem?_getD,List.getElem?_eq_getElem (by rw[dP];exact T)];rfl
 have e4:Hid (eP st b=List.zipWith (· + ·) st (iW st W 64)):=by unfold Hid eP;rw[hW]
 rw[hW]at b7;clear hW dk;go_wp2_with fail;go_loopw [21] (fun i wr=>∃(k:Nat) (t G H a3 y I J a7:UInt32),k<=64/\i=.int .i64 k/\Hid (MixR w wr gw gs V st W k [t,G,H,a3,y,I,J,a7])) (fun i _=>64 - (intOf i).toNat)
 case atStart=>exact⟨0,i0,i1,i2,i3,i4,i5,i6,i7,by omega,rfl,b7.out⟩
 case round =>
  obtain⟨k,t,G,H,a3,y,I,J,a7,h,rfl,HM⟩:=hrel
  by_cases M:k<64
  .obtain ⟨kk,N⟩:∃x,dI.getD k 0=x:=⟨_,rfl⟩;obtain⟨ww,b8⟩:∃x,W.getD k 0=x:=⟨_,rfl⟩;obtain⟨x1,A⟩:∃x,bv y 26=x:=⟨_,rfl⟩;obtain⟨x2,K⟩:∃x,bv y 21=x:=⟨_,rfl⟩;obtain⟨x3,L⟩:∃x,x1 ^^^ x2=x:=⟨_,rfl⟩;obtain⟨x4,b'⟩:∃x,bv y 7=x:=⟨_,rfl⟩;obtain⟨x5,ca⟩:∃x,x3 ^^^ x4=x:=⟨_,rfl⟩;obtain⟨y1,a'⟩:∃x,a7+x5=x:=⟨_,rfl⟩;obtain⟨y2,cc⟩:∃x,y &&& I=x:=⟨_,rfl⟩;obtain⟨y3,ce⟩:∃x,~~~y=x:=⟨_,rfl⟩;obtain⟨y4,cl⟩:∃x,y3 &&& J=x:=⟨_,rfl⟩;obtain⟨y5,cm⟩:∃x,y2 ^^^ y4=x:=⟨_,rfl⟩;obtain⟨y6,bb⟩:∃x,y1+y5=x:=⟨_,rfl⟩;obtain⟨y7,bd⟩:∃x,y6+kk=x:=⟨_,rfl⟩;obtain⟨Y,bh⟩:∃x,y7+ww=x:=⟨_,rfl⟩;obtain⟨z1,cn⟩:∃x,bv t 30=x:=⟨_,rfl⟩;obtain⟨z2,co⟩:∃x,bv t 19=x:=⟨_,rfl⟩;obtain⟨z3,cp⟩:∃x,z1 ^^^ z2=x:=⟨_,rfl⟩;obtain⟨z4,cq⟩:∃x,bv t 10=x:=⟨_,rfl⟩;obtain⟨z5,cs⟩:∃x,z3 ^^^ z4=x:=⟨_,rfl⟩;obtain⟨v1,ct⟩:∃x,t &&& G=x:=⟨_,rfl⟩;obtain⟨v2,cu⟩:∃x,t &&& H=x:=⟨_,rfl⟩;obtain⟨v3,cv⟩:∃x,v1 ^^^ v2=x:=⟨_,rfl⟩;obtain⟨v4,cx⟩:∃x,G &&& H=x:=⟨_,rfl⟩;obtain⟨v5,c0⟩:∃x,v3 ^^^ v4=x:=⟨_,rfl⟩;obtain⟨uu,bk⟩:∃x,z5+v5=x:=⟨_,rfl⟩;obtain⟨n0,bl⟩:∃x,Y+uu=x:=⟨_,rfl⟩;obtain⟨n4,bo⟩:∃x,a3+Y=x:=⟨_,rfl⟩;have ds:Hid _:=A;have b5:Hid _:=K;have d2:Hid (bits BinOp.xor IntKind.u32 (x1.toNat:Int) (x2.toNat:Int)=(x3.toNat:Int)):=by unfold Hid;rw[<-L];exact bu _ _
   have e5:Hid _:=b';have d3:Hid (bits BinOp.xor IntKind.u32 (x3.toNat:Int) (x4.toNat:Int)=(x5.toNat:Int)):=by unfold Hid;rw[<-ca];exact bu _ _
   have d4:Hid (IntKind.u32.wrap ((a7.toNat:Int)+(x5.toNat:Int))=(y1.toNat:Int)):=by unfold Hid;rw[<-a',IntKind.wrap_u32];exact cr _ _
   have fu:Hid (((a7.toNat:Int)+(x5.toNat:Int))%4294967296=(y1.toNat:Int)):=by unfold Hid;rw[<-a'];exact cr _ _
   have d5:Hid (bits BinOp.and IntKind.u32 (y.toNat:Int) (I.toNat:Int)=(y2.toNat:Int)):=by unfold Hid;rw[<-cc];exact dt _ _
   have d6:Hid (bits BinOp.xor IntKind.u32 4294967295 (y.toNat:Int)=(y3.toNat:Int)):=by unfold Hid;rw[<-ce];exact nk _
   have d7:Hid (bits BinOp.and IntKind.u32 (y3.toNat:Int) (J.toNat:Int)=(y4.toNat:Int)):=by unfold Hid;rw[<-cl];exact dt _ _
   have d8:Hid (bits BinOp.xor IntKind.u32 (y2.toNat:Int) (y4.toNat:Int)=(y5.toNat:Int)):=by unfold Hid;rw[<-cm];exact bu _ _
   have d9:Hid (IntKind.u32.wrap ((y1.toNat:Int)+(y5.toNat:Int))=(y6.toNat:Int)):=by unfold Hid;rw[<-bb,IntKind.wrap_u32];exact cr _ _
   have fv:Hid (((y1.toNat:Int)+(y5.toNat:Int))%4294967296=(y6.toNat:Int)):=by unfold Hid;rw[<-bb];exact cr _ _
   have d':Hid (IntKind.u32.wrap ((y6.toNat:Int)+(kk.toNat:Int))=(y7.toNat:Int)):=by unfold Hid;rw[<-bd,IntKind.wrap_u32];exact cr _ _
   have fx:Hid (((y6.toNat:Int)+(kk.toNat:Int))%4294967296=(y7.toNat:Int)):=by unfold Hid;rw[<-bd];exact cr _ _
   have ea:Hid (IntKind.u32.wrap ((y7.toNat:Int)+(ww.toNat:Int))=(Y.toNat:Int)):=by unfold Hid;rw[<-bh,IntKind.wrap_u32];exact cr _ _
   have fz:Hid (((y7.toNat:Int)+(ww.toNat:Int))%4294967296=(Y.toNat:Int)):=by unfold Hid;rw[<-bh];exact cr _ _
   have e6:Hid _:=cn;have e7:Hid _:=co;have ec:Hid (bits BinOp.xor IntKind.u32 (z1.toNat:Int) (z2.toNat:Int)=(z3.toNat:Int)):=by unfold Hid;rw[<-cp];exact bu _ _
   have e8:Hid _:=cq;have ef:Hid (bits BinOp.xor IntKind.u32 (z3.toNat:Int) (z4.toNat:Int)=(z5.toNat:Int)):=by unfold Hid;rw[<-cs];exact bu _ _
   have eg:Hid (bits BinOp.and IntKind.u32 (t.toNat:Int) (G.toNat:Int)=(v1.toNat:Int)):=by unfold Hid;rw[<-ct];exact dt _ _
   have eh:Hid (bits BinOp.and IntKind.u32 (t.toNat:Int) (H.toNat:Int)=(v2.toNat:Int)):=by unfold Hid;rw[<-cu];exact dt _ _
   have ek:Hid (bits BinOp.xor IntKind.u32 (v1.toNat:Int) (v2.toNat:Int)=(v3.toNat:Int)):=by unfold Hid;rw[<-cv];exact bu _ _
   have eo:Hid (bits BinOp.and IntKind.u32 (G.toNat:Int) (H.toNat:Int)=(v4.toNat:Int)):=by unfold Hid;rw[<-cx];exact dt _ _
   have er:Hid (bits BinOp.xor IntKind.u32 (v3.toNat:Int) (v4.toNat:Int)=(v5.toNat:Int)):=by unfold Hid;rw[<-c0];exact bu _ _
   have f1:Hid (IntKind.u32.wrap ((z5.toNat:Int)+(v5.toNat:Int))=(uu.toNat:Int)):=by unfold Hid;rw[<-bk,IntKind.wrap_u32];exact cr _ _
   have es:Hid (((z5.toNat:Int)+(v5.toNat:Int))%4294967296=(uu.toNat:Int)):=by unfold Hid;rw[<-bk];exact cr _ _
   have f2:Hid (IntKind.u32.wrap ((Y.toNat:Int)+(uu.toNat:Int))=(n0.toNat:Int)):=by unfold Hid;rw[<-bl,IntKind.wrap_u32];exact cr _ _
   have ev:Hid (((Y.toNat:Int)+(uu.toNat:Int))%4294967296=(n0.toNat:Int)):=by unfold Hid;rw[<-bl];exact cr _ _
   have f3:Hid (IntKind.u32.wrap ((a3.toNat:Int)+(Y.toNat:Int))=(n4.toNat:Int)):=by unfold Hid;rw[<-bo,IntKind.wrap_u32];exact cr _ _
   have ex:Hid (((a3.toNat:Int)+(Y.toNat:Int))%4294967296=(n4.toNat:Int)):=by unfold Hid;rw[<-bo];exact cr _ _
   have ey:Hid (rnd [t,G,H,a3,y,I,J,a7] (dI.getD k 0) (W.getD k 0)=[n0,t,G,H,n4,y,I,J]):=by
    unfold Hid;simp only[rnd,List.getD_cons_zero,List.getD_cons_succ];rw[N,b8,A,K,L,b',ca,a',cc,ce,cl,cm,bb,bd,bh,cn,co,cp,cq,cs,ct,cu,cv,cx,c0,bk,bl,bo]
   have e9:Hid (w.cell? ⟨cb,11+k,none⟩=some (U32 kk)):=(cell_of_row _ _ (11+k) _ _ _ HC.out).trans ((rT HO.out M).trans (by rw[N]));have e':Hid (V[k]? = some (U32 ww)):=(e3.out k M).trans (by rw[b8]);clear A K L b' ca a' cc ce cl cm bb bd bh cn co cp cq cs ct cu cv cx c0 bk bl bo N b8;have d:=HM.out.cur;have s0:wr.cell? ⟨gs,0,none⟩=some (U32 t):=(cell_of_row _ _ 0 _ _ _ d).trans rfl;have s4:wr.cell? ⟨gs,4,none⟩=some (U32 y):=(cell_of_row _ _ 4 _ _ _ d).trans rfl;clear d;go_upto_region 5 with fail;go_quiet (fail);obtain⟨q,c2⟩:∃q,q=wr.drewN nq:=⟨_,rfl⟩;rw[<-c2];have bq:Hid _:=MixR.more HM.out (show Ext wr q by rw[c2];exact Ext.drawn _ _);clear s0 s4 c2;go_wp2_with fail;go_at_call 224;refine(BG y _).mono ?_;rw[ds.out];rintro e w9 ⟨rfl,rfl⟩;go_wp2_with fail;go_at_call 224;refine(Be y _).mono ?_;rw[b5.out];rintro e w9 ⟨rfl,rfl⟩;go_wp2_with fail;go_at_call 224;refine(Bf y _).mono ?_;rw[e5.out];rintro e w9 ⟨rfl,rfl⟩;have d:=bq.out.cur;have b0:=bq.out.now;have c3:=bq.out.ext;have s5:w9.cell? ⟨gs,5,none⟩=some (U32 I):=(cell_of_row _ _ 5 _ _ _ d).trans rfl;have s6:w9.cell? ⟨gs,6,none⟩=some (U32 J):=(cell_of_row _ _ 6 _ _ _ d).trans rfl;have s7:w9.cell? ⟨gs,7,none⟩=some (U32 a7):=(cell_of_row _ _ 7 _ _ _ d).trans rfl;have sw:w9.cell? ⟨gw,k,none⟩=some (U32 ww):=(cell_of_row _ _ k _ _ _ b0).trans e'.out;have sc:w9.cell? ⟨D,0,none⟩=some (.pointer (some ⟨cb,0,none⟩)):=c3.cell ((cell_of_row _ _ 0 _ _ _ HG.out).trans rfl);have sk:w9.cell? ⟨cb,11+k,none⟩=some (U32 kk):=c3.cell e9.out;clear d b0 c3;go_upto_region 7 with fail;rw[d2.out,d3.out];go_wp2_with fail;apply aj 29 [_,U32 a7,_,U32 y1,_,_,U32 I,U32 y2,_,U32 y3,_,U32 J,U32 y4,U32 y5,U32 y6,_,_,_,.pointer (some ⟨cb,0,none⟩),_,_,_,.pointer (some ⟨cb,11+k,none⟩),U32 kk,U32 y7,_,.pointer (some ⟨gw,k,none⟩),U32 ww,U32 Y] [none,none,none,none,none,none,none,none,none,none,none,none,none,none,none,none,none,none,none,none,none,none,none,none,none,none,none,none,none] [[],[0],[],[1,2],[],[],[5],[4,6],[],[8],[],[10],[9,11],[7,12],[3,13],[],[15],[16],[17],[],[18],[20],[19,21],[22],[14,23],[],[25],[26],[24,27]] (by kernel_rfl) (by kernel_rfl) (by simp[ak])
   .trivial
   .simp (maxSteps:=1000000)only[List.take_succ_cons,List.take_zero,aw,aA,aa,Act.put,List.setIfInBounds_toArray,List.set_cons_zero,List.set_cons_succ,aK,aO,ak,List.getD_cons_zero,List.getD_cons_succ,and_true,true_and,forall_const];and_intros
    .intro r q p;intros;rename_i g;go_simp;exact g _ _ (Ext.refl _) rfl
    .intro r q p h R g;have f0:=p.cell s7;go_simp;exact g _ _ (Ext.refl _) rfl
    .intro r q p;intros;rename_i g;go_simp;exact g _ _ (Ext.refl _) rfl
    .intro r q p h R g;obtain⟨B,C⟩:=h;go_simp;exact g _ _ (Ext.refl _) (congrArg _ d4.out)
    iterate 2 · intro r q p;intros;rename_i g;go_simp;exact g _ _ (Ext.refl _) rfl
    .intro r q p h R g;have f0:=p.cell s5;go_simp;exact g _ _ (Ext.refl _) rfl
    .intro r q p h R g;obtain⟨B,C⟩:=h;go_simp;exact g _ _ (Ext.refl _) (congrArg _ d5.out)
    .intro r q p;intros;rename_i g;go_simp;exact g _ _ (Ext.refl _) rfl
    .intro r q p h R g;go_simp;exact g _ _ (Ext.refl _) (congrArg _ d6.out)
    .intro r q p;intros;rename_i g;go_simp;exact g _ _ (Ext.refl _) rfl
    .intro r q p h R g;have f0:=p.cell s6;go_simp;exact g _ _ (Ext.refl _) rfl
    .intro r q p h R g;obtain⟨B,C⟩:=h;go_simp;exact g _ _ (Ext.refl _) (congrArg _ d7.out)
    .intro r q p h R g;obtain⟨B,C⟩:=h;go_simp;exact g _ _ (Ext.refl _) (congrArg _ d8.out)
    .intro r q p h R g;obtain⟨B,C⟩:=h;go_simp;exact g _ _ (Ext.refl _) (congrArg _ d9.out)
    iterate 3 · intro r q p;intros;rename_i g;go_simp;exact g _ _ (Ext.refl _) rfl
    .intro r q p h R g;have f0:=p.cell sc;go_simp;exact g _ _ (Ext.refl _) rfl
    iterate 3 · intro r q p;intros;rename_i g;go_simp;exact g _ _ (Ext.refl _) rfl
    .intro r q p h R g;obtain⟨B,C⟩:=h;go_simp;exact g _ _ (Ext.refl _) rfl
    .intro r q p h R g;have f0:=p.cell sk;go_simp;exact g _ _ (Ext.refl _) rfl
    .intro r q p h R g;obtain⟨B,C⟩:=h;go_simp;exact g _ _ (Ext.refl _) (congrArg _ d'.out)
    .intro r q p;intros;rename_i g;go_simp;exact g _ _ (Ext.refl _) rfl
    .intro r q p h R g;go_simp;exact g _ _ (Ext.refl _) rfl
    .intro r q p h R g;have f0:=p.cell sw;go_simp;exact g _ _ (Ext.refl _) rfl
    .intro r q p h R g;obtain⟨B,C⟩:=h;go_simp;exact g _ _ (Ext.refl _) (congrArg _ ea.out)
   intro r wz S h;simp only[aP,Nat.zero_add,Nat.reduceAdd,and_true]at h;simp(maxSteps:=1000000)only[List.take_succ_cons,List.take_zero,List.drop_succ_cons,List.drop_zero,aa,Act.put,List.setIfInBounds_toArray,List.set_cons_zero,List.set_cons_succ,Nat.zero_add,Nat.reduceAdd,h];clear h;have eE:Hid _:=MixR.more bq.out S;clear s5 s6 s7 sw sc sk S;go_wp2_with fail;go_at_call 224;refine(BH t _).mono ?_;rw[e6.out];rintro e w8 ⟨rfl,rfl⟩;go_wp2_with fail;go_at_call 224;refine(Bg t _).mono ?_;rw[e7.out];rintro e w8 ⟨rfl,rfl⟩;go_wp2_with fail;go_at_call 224;refine(Bh t _).mono ?_;rw[e8.out];rintro e w8 ⟨rfl,rfl⟩;have d:=eE.out.cur;have r0:w8.cell? ⟨gs,0,none⟩=some (U32 t):=(cell_of_row _ _ 0 _ _ _ d).trans rfl;have r1:w8.cell? ⟨gs,1,none⟩=some (U32 G):=(cell_of_row _ _ 1 _ _ _ d).trans rfl;have r2:w8.cell? ⟨gs,2,none⟩=some (U32 H):=(cell_of_row _ _ 2 _ _ _ d).trans rfl;have r3:w8.cell? ⟨gs,3,none⟩=some (U32 a3):=(cell_of_row _ _ 3 _ _ _ d).trans rfl;have r4:w8.cell? ⟨gs,4,none⟩=some (U32 y):=(cell_of_row _ _ 4 _ _ _ d).trans rfl;have r5:w8.cell? ⟨gs,5,none⟩=some (U32 I):=(cell_of_row _ _ 5 _ _ _ d).trans rfl;have r6:w8.cell? ⟨gs,6,none⟩=some (U32 J):=(cell_of_row _ _ 6 _ _ _ d).trans rfl;go_upto_region 9 with fail;rw[ec.out,ef.out];go_upto_region 10 with fail;rw[eg.out,eh.out,ek.out,eo.out,er.out,es.out];have fa:Hid ((#[.int .u32 (((Y.toNat:Int)+(uu.toNat:Int))%4294967296),U32 t,U32 G,U32 H,.int .u32 (((a3.toNat:Int)+(Y.toNat:Int))%4294967296),U32 y,U32 I,U32 J]:Array Value)=#[U32 n0,U32 t,U32 G,U32 H,U32 n4,U32 y,U32 I,U32 J]):=by unfold Hid;rw[ev.out,ex.out]
   go_wp2_with (refine fT rfl 216 (.tmp 5) (.tmp 109) rfl gs 0 rfl #[U32 n0,U32 t,U32 G,U32 H,U32 n4,U32 y,U32 I,U32 J] (congrArg Value.agg fa.out) (by intro v hv;simp at hv;rcases hv with rfl | rfl | rfl | rfl | rfl | rfl | rfl | rfl <;> rfl) _ _ d (by simp) iO #[U32 n0,U32 t,U32 G,U32 H,U32 n4,U32 y,U32 I,U32 J] (by simp) ?_;intro wn Z E)
   have fb:Hid _:=MixR.put eE.out (new:=[n0,t,G,H,n4,y,I,J]) Z E ey.out;clear r0 r1 r2 r3 r4 r5 r6 d Z E;go_roundw
   case rel=>exact⟨k+1,n0,t,G,H,n4,y,I,J,by omega,by go_num,fb.out⟩
   case measure=>simp[intOf];omega
  .have N:k=64:=by omega
   subst N;have d:=HM.out.cur;have c4:=HM.out.eq;have ad:=HM.out.ext;obtain⟨z,au⟩:∃l,[t,G,H,a3,y,I,J,a7]=l:=⟨_,rfl⟩;have c5:z.length=8:=by rw[<-au];rfl
   rw[au]at d c4;have fc:Hid _:=c4;have br:Hid _:=c5;obtain⟨F,hF⟩:∃F,(z.map U32).toArray=F:=⟨_,rfl⟩;have fe:F.size=8:=by rw[<-hF];simp[c5]
   have ff:Hid (∀j,j<8->F[j]? = some (U32 (z.getD j 0))):=fun j T=>by
    rw[<-hF,List.getElem?_toArray,List.getElem?_map,List.getElem?_eq_getElem (by omega),List.getD_eq_getElem?_getD,List.getElem?_eq_getElem (by omega)];rfl
   rw[hF]at d;have fi:Hid (xU w wr D cb st z rest n 0):=⟨Fr.BO ad,by show wr.heap[D]? = some (.cells (bf cb ([]++st.drop 0) rest n) _ _);rw[List.nil_append,List.drop_zero];exact Ext.row ad HG.out⟩;clear c4 c5 hF au ad
   go_wp2_with (refine wpList_load_row rfl 216 (.tmp 5) rfl gs rfl 216 F (0,0) _ d Tryz.underlying216 rfl (by rw[fe];exact iO) ?_)
   clear d;go_loopw [112] (fun i wr=>∃k:Nat,k<=8/\i=.int .i64 k/\Hid (xU w wr D cb st z rest n k)) (fun i _=>8 - (intOf i).toNat)
   case atStart=>exact⟨0,by omega,rfl,fi.out⟩
   case round =>
    obtain⟨k,h,rfl,H2⟩:=hrel
    by_cases M:k<8
    .obtain ⟨sk,c6⟩:∃x,st.getD k 0=x:=⟨_,rfl⟩;obtain⟨fk,c7⟩:∃x,z.getD k 0=x:=⟨_,rfl⟩;obtain⟨xk,c8⟩:∃x,sk+fk=x:=⟨_,rfl⟩;have O:=H2.out.cells;have fj:=ph U.out br.out h;have c9:=pj U.out br.out M;have c':=pi U.out br.out M;rw[c6]at c';rw[c6,c7,c8]at c9;have eS:Hid (Value.int .u32 (IntKind.u32.wrap ((sk.toNat:Int)+(fk.toNat:Int)))=U32 xk):=by unfold Hid;rw[<-c8];exact eX sk fk
     have fl:=mi wr ((ff.out k M).trans (by rw[c7])) M;have c1:wr.cell? ⟨D,1+k,none⟩=some (U32 sk):=by rw[cell_of_row _ _ (1+k) _ _ _ O,pg (by omega),c']
     have fn:Hid _:=c1;have fr:Hid _:=O;have fs:Hid _:=c9;clear c6 c7 c8 c' c9 c1 O;go_upto_region 15 with fail;clear fl;apply aj 11 [_,_,_,.pointer (some ⟨D,1,none⟩),.pointer (some ⟨D,1+k,none⟩),U32 sk,_,U32 xk,_,.pointer (some ⟨D,1,none⟩),.pointer (some ⟨D,1+k,none⟩)] [none,none,none,none,none,none,none,none,none,none,none] [[],[],[0],[2],[1,3],[4],[],[5,6],[0],[8],[1,9]] (by kernel_rfl) (by kernel_rfl) (by simp[ak])
     .trivial
     .simp (maxSteps:=1000000)only[List.take_succ_cons,List.take_zero,aw,aA,aa,Act.put,List.setIfInBounds_toArray,List.set_cons_zero,List.set_cons_succ,aK,aO,ak,List.getD_cons_zero,List.getD_cons_succ,and_true,true_and,forall_const];and_intros
      iterate 4 · intro r q p;intros;rename_i g;go_simp;exact g _ _ (Ext.refl _) rfl
      .intro r q p h R g;obtain⟨B,C⟩:=h;go_simp;exact g _ _ (Ext.refl _) rfl
      .intro r q p h R g;have f0:=p.cell fn.out;go_simp;exact g _ _ (Ext.refl _) rfl
      .intro r q p;intros;rename_i g;go_simp;exact g _ _ (Ext.refl _) rfl
      .intro r q p h R g;obtain⟨B,C⟩:=h;go_simp;exact g _ _ (Ext.refl _) eS.out
      iterate 2 · intro r q p;intros;rename_i g;go_simp;exact g _ _ (Ext.refl _) rfl
      .intro r q p h R g;obtain⟨B,C⟩:=h;go_simp;exact g _ _ (Ext.refl _) rfl
     intro r wz S h;simp only[aP,Nat.zero_add,Nat.reduceAdd,and_true]at h;simp(maxSteps:=1000000)only[List.take_succ_cons,List.take_zero,List.drop_succ_cons,List.drop_zero,aa,Act.put,List.setIfInBounds_toArray,List.set_cons_zero,List.set_cons_succ,Nat.zero_add,Nat.reduceAdd,h];clear h;have da:=Ext.row S fr.out;have ft:=gT (cb:=cb) (st:=dD st z k) (rest:=rest) (n:=n);have a8:=t9 (cb:=cb) (st:=dD st z k) (rest:=rest) (n:=n) (j:=k) xk (by omega);rw[<-fs.out]at a8
     go_wp2_with (refine af rfl 167 (.tmp 126) (.tmp 123) rfl D (1+k) rfl (U32 xk) rfl rfl _ _ da (by omega) gE (bf cb (dD st z (k+1)) rest n) a8 ?_;intro wn Z E)
     have H3:Hid (xU w wn D cb st z rest n (k+1)):=⟨(H2.out.fr.ext S).step E (fun j T=>by cases T;exact .inl rfl) (by rintro j T;cases T;exact lU da),Z⟩;clear da ft a8 Z E S fj;go_roundw
     case rel=>exact⟨k+1,by omega,by go_num,H3.out⟩
     case measure=>simp[intOf];omega
    .have N:k=8:=by omega
     subst N;have e0:Hid (wr.heap[D]? = some (.cells (bf cb (eP st b) rest n) 221 (0,0))):=by
      have h9:=H2.out.cells;have h8:dD st z 8=eP st b:=by
       unfold dD;rw[e4.out,fc.out,List.drop_eq_nil_of_le (by rw[U.out];omega),List.append_nil,List.take_of_length_le (by simp[U.out,br.out])]
      rw[h8]at h9;exact h9
     go_wp2
     go_end0
     exact⟨rfl,e0.out,H2.out.fr⟩
end
section
open Go Go.RowKit
variable {w:World}
theorem gG (T e:TypeId) (z:Value) (d bytes:Nat) (H:Tryz.prog.underlying T=some (.slice e)) (r:(Tryz.prog.info? e).map (fun i=>(i.zero,i.size,i.bytes))=some (some z,d,bytes)) (I:z.cells.size=d) (J:0<d)
 (p:Nat) (v:Value) (n:Nat) (xs:List Value) (q:w.ownsRow p e d v n xs) (x:Value) (m:Nat) (k:List Value) (hx:Row w x m k) (S:k.length=m*d) (h1:∀u∈k,u.oneCell'=true) (hb:(n+m)*bytes<=140737488355328) (au:n+m<=1000000000) (t:p<=w.heap.size) :
  ∃B C,(Builtin.append_ #[T,T] T #[v,x]).run Tryz.prog w=.ok B C/\C.ownsRow p e d B (n+m) (xs++k)/\w.grownBy C v.ownBlock/\(B.ownBlock=v.ownBlock\/B.ownBlock=some w.heap.size):=by
 obtain⟨U,V,K,D,L⟩:=info_parts r;obtain⟨a,E,rfl,k1,k2,k3,W⟩:=hx
 cases a with
 | none =>
  have hn:k=[]:=by
   cases k with
   | nil=>rfl
   | cons y l=>obtain⟨b,o,M,_⟩:=W (by simp);cases M
  subst hn;have hm:m=0:=by
   have N:m*d=0:=by simpa using S.symm
   rcases Nat.mul_eq_zero.1 N with h | h
   .exact h
   .omega
  subst hm;obtain⟨O,X,G,rfl,Q⟩:∃O X G,v=.slice O n G/\n<=G/\X=n:=by
   rcases q.2 with⟨rfl,N⟩ | ⟨g,c,a0,rfl,_,_,R,_⟩
   .exact ⟨none,n,0,by rw[N],by omega,rfl⟩
   .exact ⟨_,n,c,rfl,R,rfl⟩
  refine⟨_,w,run_append_nothing w _ _ _ _ U H V O n G Q.1 _ (by rw[D];exact Src.ofNil w H E),by simpa using q,⟨rfl,rfl,rfl,Nat.le_refl _,fun _ _ _=>rfl⟩,.inl rfl⟩
 | some Y =>
  have A:∀j u,k[j]? = some u->w.cell? (Y.add j)=some u:=fun j u Z=>by
   obtain⟨b,o,M,R⟩:=W (by rintro rfl;simp at Z);cases M;have F:(⟨b,o,none⟩:Addr).add j=⟨b,o+j,none⟩:=by unfold Addr.add;split <;> simp_all
   rw[F];exact R j u Z
  obtain⟨B,C,h2,h3,h4,_,h5⟩:=run_append_own_at (P:=Tryz.prog) w p T T e U _ d bytes H V K D L I J v n xs q Y m E k S A h1 (by unfold maxLen;omega) hb t;exact⟨B,C,h2,h3,h4,h5⟩
section
variable {ops:Array Oper} {rest:List Oper} {o:Oper} {a:Act} {Q:Exit->Act->World->Prop} {w:World}
theorem te (T e:TypeId) (z:Value) (b bytes:Nat) (C:Tryz.prog.underlying T=some (.slice e)) (g:(Tryz.prog.info? e).map (fun i=>(i.zero,i.size,i.bytes))=some (some z,b,bytes)) (r:z.cells.size=b) (t:0<b)
  (y:o.guard=none) (s x:Operand) (D:o.op=.call { callee:=.builtin .append,args:=#[s,x],argTypes:=#[T,T] }) (A:o.type=T)
  (d:Nat) (v:Value) (n:Nat) (xs:List Value) (E:a.eval s=v) (k:w.ownsRow d e b v n xs)
  (xv:Value) (m:Nat) (c:List Value) (F:a.eval x=xv) (l:Row w xv m c) (G:c.length=m*b) (H:∀u∈c,u.oneCell'=true) (I:(n+m)*bytes<=140737488355328) (B:n+m<=1000000000) (j:d<=w.heap.size)
  (h:∀q p,p.ownsRow d e b q (n+m) (xs++c)->w.grownBy p v.ownBlock->wpList Tryz.prog ops Q rest (a.put o.dst q) p):wpList Tryz.prog ops Q (o::rest) a w:=by
 refine wpList_plain y fun K J=>?_
 obtain⟨q,p,L,M,N,O⟩:=gG T e z b bytes C g r t d v n xs k xv m c l G H I B j;unfold Oper.wp execOp;simp only[D,A,resolve,invoke,builtin,Sem.run_bind,Sem.run_pure,Result.andThen_ok,List.map_toArray,List.map_cons,List.map_nil,E,F,L];exact J _ _ (h q p M N)
end
variable {a:Option Addr} {cap:Nat} {l:B8}
theorem IsBytes.tail (k:Nat) (h:IsBytes w (.slice a l.length cap) l) (y:k<=l.length) (z:TypB w (.slice a l.length cap)) :
  ∀c,(a=none->c=none)->(cap≠k->∀b o,a=some ⟨b,o,none⟩->c=some ⟨b,o+k,none⟩)->IsBytes w (.slice c (l.length - k) (cap - k)) (l.drop k):=by
 obtain⟨A,j,n,B,C,D,r⟩:=h;simp only[Value.slice.injEq,true_and]at n;obtain⟨rfl,rfl⟩:=n;intro c E t;have d:(l.drop k).length=l.length - k:=List.length_drop;unfold IsBytes;rw[d];refine⟨c,cap - k,rfl,by omega,by omega,by omega,fun e=>?_⟩;have g:k<l.length:=by
  rcases Nat.lt_or_ge k l.length with h | h
  .exact h
  .rw [List.drop_eq_nil_of_le h]at e;simp at e
 obtain⟨b,o,rfl,x⟩:=r (by intro p;rw[List.map_eq_nil_iff]at p;subst p;simp at g);refine⟨b,o+k,t (by omega) b o rfl,fun i u q=>?_⟩;rw[List.getElem?_map,List.getElem?_drop]at q;have:=x (k+i) u (by rw[List.getElem?_map];exact q)
 rwa [<-Nat.add_assoc]at this
def tailV (a:Option Addr) (n c k:Nat):Value:=.slice (if c=k then a else Option.map (fun x=>{ block:=x.block,off:=x.off+k }) a) (n - k) (c - k)
theorem IsBytes.tailV (k:Nat) (h:IsBytes w (.slice a l.length cap) l) (g:k<=l.length) (d:TypB w (.slice a l.length cap)) :
  IsBytes w (tailV a l.length cap k) (l.drop k)/\TypB w (Go.Proofs.YtfabjgfmiaammaaGreatDoor.tailV a l.length cap k):=by
 constructor
 .refine h.tail k g d _ (fun i=>by subst i;simp) (fun e b o j=>by subst j;simp[e])
 .intro p q r c;unfold Go.Proofs.YtfabjgfmiaammaaGreatDoor.tailV at c;simp only[Value.slice.injEq]at c;obtain⟨c,-,-⟩:=c;split at c
  .subst c;exact d _ _ _ rfl
  .cases a with
   | none=>cases c
   | some n=>simp only[Option.map_some,Option.some.injEq]at c;subst c;exact d n _ _ rfl
theorem IsBytes.head (k:Nat) (h:IsBytes w (.slice a l.length cap) l) (r:k<=l.length):IsBytes w (.slice a k cap) (l.take k):=by
 obtain⟨t,g,j,x,y,z,p⟩:=h;simp only[Value.slice.injEq,true_and]at j;obtain⟨rfl,rfl⟩:=j;have c:(l.take k).length=k:=by rw[List.length_take];omega
 unfold IsBytes;rw[c];refine⟨a,cap,rfl,by omega,by omega,by omega,fun e=>?_⟩;obtain⟨b,o,rfl,q⟩:=p (by intro n;rw[List.map_eq_nil_iff]at n;subst n;simp at e);refine⟨b,o,rfl,fun i u d=>q i u ?_⟩;rw[List.getElem?_map,List.getElem?_take]at d;split at d
 .rw [List.getElem?_map];exact d
 .cases d
end
section
open Go Go.RowKit
variable {cb:Nat} {st:List UInt32} {rest:Value} {n:Int}
theorem fJ (h:st.length=8):(bf cb st rest n)[9]? = some rest/\(bf cb st rest n)[10]? = some (Value.int .i64 n):=by
 obtain⟨a,b,c,d,e,g,i,j,rfl⟩:=gS h;exact⟨rfl,rfl⟩
theorem mj {new:Value} (h:st.length=8):bf cb st new n=((bf cb st rest n).toList.take 9++[new]++(bf cb st rest n).toList.drop (9+1)).toArray:=by
 obtain⟨a,b,c,d,e,g,i,j,rfl⟩:=gS h;rfl
theorem qL {new:Int} (h:st.length=8):bf cb st rest new=((bf cb st rest n).toList.take 10++[Value.int .i64 new]++(bf cb st rest n).toList.drop (10+1)).toArray:=by
 obtain⟨a,b,c,d,e,g,i,j,rfl⟩:=gS h;rfl
theorem pk (v:Value) (l:B8) (w:World) (r:IsBytes w v l) (C:l.length<=140737488355328) :
  Calls Tryz.prog 54 #[v] w fun e k=>(∃v,e=.returned v/\k.ownsRow w.heap.size 5 1 v l.length (l.map fun x=>.int .u8 x.toNat))/\Ext w k:=by
 obtain⟨a,d,rfl,D,E,F,p⟩:=r
 cases a with
 | none =>
  have t:l=[]:=by
   cases l with
   | nil=>rfl
   | cons x l=>obtain⟨b,o,g,_⟩:=p (by simp);cases g
  subst t;exact(Tryz.bytes_Clone_nil 0 d w).mono fun e k ⟨g,u⟩=>⟨⟨_,g,World.ownsRow_nil _ _ _ _⟩,by rw[u];exact Ext.refl _⟩
 | some y =>
  refine(Tryz.bytes_Clone_at y l.length d (l.map fun x=>(x.toNat:Int)) w (by simp) (by omega) (fun i q=>?_)).mono fun e k ⟨z,g,c,_,A⟩=>⟨⟨z,g,?_⟩,A⟩
  .have n:l≠[]:=by rintro rfl;simp at q
   obtain⟨b,o,h,B⟩:=p (by simpa using n);cases h;have j:(⟨b,o,none⟩:Addr).add i=⟨b,o+i,none⟩:=by unfold Addr.add;split <;> simp_all
   rw[j];refine B i _ ?_;simp[q]
  .rw [List.map_map]at c;exact c
structure Wr (w wr:World) (hb cb:Nat) (goal:List UInt32×B8) (n:Int) (st:List UInt32) (rv:Value) (r:B8):Prop where
 fr:Fr (fun k=>k=hb) w wr
 BP:st.length=8
 cells:wr.heap[hb]? = some (.cells (bf cb st rv n) 221 (0,0))
 bytes:IsBytes wr rv r
 Dw:TypB wr rv
 len:r.length<=20000000
 goal:ba st r=goal
def restLen (w:World) (a:Nat):Nat:=match w.cell? ⟨a,9,none⟩with
 | some (.slice _ n _)=>n
 | _=>0
theorem Wr.restLen {w wr:World} {c:Nat} {b:List UInt32×B8} {d:Value} {r:B8} (h:Wr w wr c cb b n st d r):restLen wr c=r.length:=by
 obtain⟨a,e,rfl,-⟩:=id h.bytes;unfold Go.Proofs.YtfabjgfmiaammaaGreatDoor.restLen;rw[(cell_of_row _ _ 9 _ _ _ h.cells).trans (fJ h.BP).1]
theorem pm (d cb:Nat) (st:List UInt32) (I v:Value) (r b:B8) (n:Nat) (o:List Value) (w:World) (z:st.length=8) (ho:o.length=3) (bo:d≠cb) (hn:n<=1000000000)
  (B:w.heap[d]? = some (.cells (bf cb st I n) 221 (0,0))) (hc:w.heap[cb]? = some (.cells (dX o) 219 (0,0))) (hr:IsBytes w I r) (bq:TypB w I) (hv:IsBytes w v b) (a1:Out (fun k=>k=d) w v) (b5:r.length<=10000000) (hl:b.length<=10000000) :
  Calls Tryz.prog 124 #[.pointer (some ⟨d,0,none⟩),v] w fun e w'=>e=.returned (.tuple #[])/\∃(A:List UInt32) (C:Value) (r':B8),Wr w w' d cb (ba st (r++b)) (n+b.length) A C r'/\(A,r')=ba st (r++b):=by
 obtain⟨a,a2,rfl,h1,h2,h3,-⟩:=hv.get;have HC:Hid _:=hc;have HR:Hid _:=hr;have HV:Hid _:=hv;have br:Hid _:=a1;have J:Hid _:=z;have HO:Hid _:=ho;have HG:Hid _:=B;have c9:w.cell? ⟨d,9,none⟩=some I:=(cell_of_row _ _ 9 _ _ _ B).trans (fJ z).1;have bs:w.cell? ⟨d,10,none⟩=some (.int .i64 (n:Int)):=(cell_of_row _ _ 10 _ _ _ B).trans (fJ z).2;have bt:(bf cb st I (n:Int)).size=11:=by rw[gT,z]
 have T:=qL (cb:=cb) (rest:=I) (n:=(n:Int)) (new:=(n:Int)+b.length) z;clear hc hr hv a1 z ho;go_enter Tryz.func124,Tryz.ntmps124;go_upto_region 1 with(refine af rfl 3 (.tmp 12) (.tmp 10) rfl d 10 rfl (.int .i64 ((n:Int)+b.length)) rfl rfl _ _ B (by omega) eT (bf cb st I ((n:Int)+b.length)) T ?_;intro Z ad U);have V:Fr (fun k=>k=d) w Z:=(Fr.refl _ w).step U (fun j D=>by cases D;exact .inl rfl) (by rintro j D;cases D;exact lU B);have d9:Z.cell? ⟨d,9,none⟩=some I:=(cell_of_row _ _ 9 _ _ _ ad).trans (fJ J.out).1;have E:Hid _:=V;have bx:Hid _:=ad;clear ad U V c9 bs T B;have a3:Hid (IsBytes Z I r):=Row.B2 HR.out bq E.out.keep;go_wp2_with fail;go_at_call 54;refine(pk I r Z a3.out (by omega)).mono ?_;rintro e w3 ⟨⟨v3,rfl,F⟩,K⟩;have a4:Hid (IsBytes w3 (.slice a b.length a2) b):=IsBytes.ext (IsBytes.fr (O:=fun k=>k=d) HV.out br.out E.out) K;have q:Hid (w3.ownsRow Z.heap.size 5 1 v3 r.length (r.map fun x:UInt8=>Value.int .u8 (x.toNat:Int))):=F;have a5:Hid _:=K;have bS:=K.size;clear F K
 go_wp2_with first | (at_builtin;go_must (refine te _ _ _ 1 1 Tryz.underlying37 gC rfl (by omega) rfl _ _ rfl rfl Z.heap.size v3 r.length (r.map fun x:UInt8=>Value.int .u8 (x.toNat:Int)) rfl q.out (.slice a b.length a2) b.length (b.map fun x:UInt8=>Value.int .u8 (x.toNat:Int)) rfl a4.out (by simp) (by intro u hu;obtain⟨_,_,rfl⟩:=List.mem_map.1 hu;rfl) (by omega) (by omega) bS ?_;intro v4 w4 l W;rw[<-List.map_append]at l;have au:Ext Z w4:=ai a5.out q.out W;have a7:v4.oneCell'=true:=(by rcases l.2 with⟨rfl,_⟩ | ⟨g,c,b6,rfl,_⟩ <;> rfl);have L:=Ext.row au bx.out)) | (refine af rfl 37 (.tmp 22) (.tmp 20) rfl d 9 rfl v4 rfl a7 _ _ L (by rw[gT,J.out];omega) fg (bf cb st v4 ((n:Int)+b.length)) (mj J.out) ?_;intro w5 a8 G)
 have X:Wr w w5 d cb (ba st (r++b)) ((n:Int)+b.length) st v4 (r++b):=by
  have hk:KeepB w4 w5:=KeepB.BR G L (by kernel_rfl);have a9:TypB w4 v4:=TypB.BM l;refine⟨(E.out.ext au).step G (fun j D=>by cases D;exact .inl rfl) (by rintro j D;cases D;exact lU L),J.out,a8,?_,a9.keep hk,by rw[List.length_append];omega,rfl⟩;have a':=Row.BM l (by omega);unfold IsBytes;rw[List.length_append];exact a'.B2 a9 hk
 have bb:Hid _:=X;clear X a8 G L a7 au W l d9 bt a5 q a4 a3
 go_frame
 go_loopw [] (fun wr=>∃(A:List UInt32) (C:Value) (r':B8),Wr w wr d cb (ba st (r++b)) ((n:Int)+b.length) A C r') (fun wr=>restLen wr d)
 case atStart=>exact⟨st,v4,r++b,bb.out⟩
 case round =>
  obtain⟨s6,r6,p,t⟩:=hrel;have i:Hid _:=t;have b0:Hid _:=t.restLen;obtain⟨M,N,rfl,k1,k2,k3,-⟩:=t.bytes.get;have e9:wr.cell? ⟨d,9,none⟩=some (.slice M p.length N):=(cell_of_row _ _ 9 _ _ _ t.cells).trans (fJ t.BP).1;have b7:=t.len;clear t
  by_cases P:64<=p.length
  .go_wp2_with fail;go_at_call 182;refine(zU d cb s6 (.slice M p.length N) (.slice M 64 N) ((n:Int)+b.length) (p.take 64) o wr i.out.BP HO.out i.out.cells (i.out.fr.row HC.out (fun h=>bo h.symm)) (IsBytes.head 64 i.out.bytes P) (by rw[List.length_take];omega)).mono ?_;rintro e w7 ⟨rfl,Q,R⟩;have S:(eP s6 (p.take 64)).length=8:=ox i.out.BP;have bd:Hid _:=S;have b8:w7.cell? ⟨d,9,none⟩=some (.slice M p.length N):=(cell_of_row _ _ 9 _ _ _ Q).trans (fJ S).1;have b':Hid _:=R;have Y:∀H,H.heap[d]? = some (.cells (bf cb (eP s6 (p.take 64)) (tailV M p.length N 64) ((n:Int)+b.length)) 221 (0,0))->w7.grownBy H (some d) ->
     (∃(A:List UInt32) (C:Value) (r':B8),Wr w H d cb (ba st (r++b)) ((n:Int)+b.length) A C r')/\restLen H d<restLen wr d:=by
    intro H a0 y;have bh:KeepB wr H:=R.keep.trans (KeepB.BR y Q (by kernel_rfl));have b1:IsBytes H (.slice M p.length N) p:=Row.B2 i.out.bytes i.out.Dw bh;have b2:TypB H (.slice M p.length N):=i.out.Dw.keep bh;obtain⟨b3,b4⟩:=IsBytes.tailV 64 b1 P b2;have bk:Wr w H d cb (ba st (r++b)) ((n:Int)+b.length) (eP s6 (p.take 64)) (tailV M p.length N 64) (p.drop 64):=by
     refine⟨(i.out.fr.trans (R.mono fun k hk=>.inl hk)).step y (fun j D=>by cases D;exact .inl rfl) (by rintro j D;cases D;exact lU Q),S,a0,b3,b4,by rw[List.length_drop];omega,?_⟩;have B:=i.out.goal;rw[ba,if_pos P]at B;exact B
    refine⟨⟨_,_,_,bk⟩,?_⟩;rw[bk.restLen,b0.out,List.length_drop];omega
   have bl:Hid _:=Y;clear R S e9 Y
   go_wp2_with (refine af rfl 37 _ _ rfl d 9 rfl (tailV M p.length N 64) rfl rfl _ _ Q (by rw[gT,bd.out];omega) fg _ (mj bd.out) ?_;intro H a0 y)
   all_goals exact bl.out H a0 y
  .go_wp2_with fail
   go_end0
   have B:ba s6 p=(s6,p):=by rw[ba,if_neg P]
   exact⟨rfl,s6,_,p,i.out,B.symm.trans i.out.goal⟩
end
section
open Go Go.RowKit
theorem xV (c cb:Nat) (st:List UInt32) (Y:Value) (r:B8) (n:Nat) (w:World) (y:st.length=8)
  (d:w.heap[c]? = some (.cells (bf cb st Y n) 221 (0,0))) (T:IsBytes w Y r) (ad:r.length<=10000000) :
  Calls Tryz.prog 183 #[.pointer (some ⟨c,0,none⟩)] w fun e p=>(∃(g:Nat) (l:Value),e=.returned (.pointer (some ⟨g,0,none⟩))/\w.heap.size<=g/\p.heap[g]? = some (.cells (bf cb st l n) 221 (0,0))/\IsBytes p l r/\TypB p l)/\Ext w p:=by
 obtain⟨D,E,F,G,H,I,J,K,rfl⟩:=gS y;obtain⟨a,z,rfl,Z,h2,h3,-⟩:=T.get;have HG:Hid _:=d;have HR:Hid (IsBytes w (.slice a r.length z) r):=T;have L:w.cell? ⟨c,0,none⟩=some (.pointer (some ⟨cb,0,none⟩)):=(cell_of_row _ _ 0 _ _ _ d).trans rfl;have c1:w.cell? ⟨c,1,none⟩=some (U32 D):=(cell_of_row _ _ 1 _ _ _ d).trans rfl;have c2:w.cell? ⟨c,2,none⟩=some (U32 E):=(cell_of_row _ _ 2 _ _ _ d).trans rfl;have c3:w.cell? ⟨c,3,none⟩=some (U32 F):=(cell_of_row _ _ 3 _ _ _ d).trans rfl;have c4:w.cell? ⟨c,4,none⟩=some (U32 G):=(cell_of_row _ _ 4 _ _ _ d).trans rfl;have c5:w.cell? ⟨c,5,none⟩=some (U32 H):=(cell_of_row _ _ 5 _ _ _ d).trans rfl;have c6:w.cell? ⟨c,6,none⟩=some (U32 I):=(cell_of_row _ _ 6 _ _ _ d).trans rfl;have c7:w.cell? ⟨c,7,none⟩=some (U32 J):=(cell_of_row _ _ 7 _ _ _ d).trans rfl;have c8:w.cell? ⟨c,8,none⟩=some (U32 K):=(cell_of_row _ _ 8 _ _ _ d).trans rfl;have M:w.cell? ⟨c,9,none⟩=some (.slice a r.length z):=(cell_of_row _ _ 9 _ _ _ d).trans rfl;have N:w.cell? ⟨c,10,none⟩=some (.int .i64 (n:Int)):=(cell_of_row _ _ 10 _ _ _ d).trans rfl;clear T d y;go_enter Tryz.func183,Tryz.ntmps183;go_wp2_with fail;apply aj 17 [_,_,_,_,_,_,_,.agg #[U32 D,U32 E,U32 F,U32 G,U32 H,U32 I,U32 J,U32 K],_,_,_,_,undef,_,_,_,_] [none,none,none,none,none,none,none,none,none,none,none,none,some (fun u p=>p.ownsRow w.heap.size 5 1 u r.length (r.map fun x=>.int .u8 x.toNat)),none,none,none,none] [[],[0],[1],[2],[],[4],[5],[6],[],[8],[9],[10],[11],[],[13],[14],[15]] (by kernel_rfl) (by kernel_rfl) (by simp[ak])
 .refine ⟨?_,trivial⟩
  .exact fun _ _ _ he h=>al h he
 .simp (maxSteps:=1000000)only[List.take_succ_cons,List.take_zero,aw,aA,aa,Act.put,List.setIfInBounds_toArray,List.set_cons_zero,List.set_cons_succ,aK,aO,ak,List.getD_cons_zero,List.getD_cons_succ,and_true,true_and,forall_const];and_intros
  iterate 7 · intro q O b;intros;rename_i j;have f0:=b.cell L;have U:=b.cell M;have V:=b.cell N;go_simp;exact j _ _ (Ext.refl _) rfl
  .intro q O b t R j;have f1:=b.cell c1;have U:=b.cell c2;have V:=b.cell c3;have f4:=b.cell c4;have f5:=b.cell c5;have f6:=b.cell c6;have f7:=b.cell c7;have f8:=b.cell c8;go_simp;exact j _ _ (Ext.refl _) rfl
  iterate 4 · intro q O b;intros;rename_i j;have f0:=b.cell L;have U:=b.cell M;have V:=b.cell N;go_simp;exact j _ _ (Ext.refl _) rfl
  .intro q O b t R j;go_simp;exact(pk _ r _ (HR.out.ext b) (by omega)).mono (by rintro e' w4 ⟨⟨v2,rfl,Z⟩,h3⟩;exact⟨_,rfl,j _ _ h3 (jd Z b.size)⟩)
  iterate 4 · intro q O b;intros;rename_i j;have f0:=b.cell L;have U:=b.cell M;have V:=b.cell N;go_simp;exact j _ _ (Ext.refl _) rfl
 intro q A B t;simp only[aP,Nat.zero_add,Nat.reduceAdd,and_true]at t;have o:=t.2.2.2.2.2.2.2.2.2.2.2.2.1;simp(maxSteps:=1000000)only[List.take_succ_cons,List.take_zero,List.drop_succ_cons,List.drop_zero,aa,Act.put,List.setIfInBounds_toArray,List.set_cons_zero,List.set_cons_succ,Nat.zero_add,Nat.reduceAdd,t];clear t;generalize q 12=au at *;obtain⟨P,Q,rfl,-⟩:=Row.BM o (by omega);have W:Hid (A.ownsRow w.heap.size 5 1 (.slice P r.length Q) r.length (r.map fun x=>.int .u8 x.toNat)):=o;clear o L M N c1 c2 c3 c4 c5 c6 c7 c8;go_wp2_with fail;obtain⟨S,i⟩:∃S,S=A.alloc (.cells (bf cb [D,E,F,G,H,I,J,K] (.slice P r.length Q) n) 221):=⟨_,rfl⟩;have C:Ext A S:=by rw[i];exact(Ext.refl _).alloc _
 have X:S.heap[A.heap.size]? = some (.cells (bf cb [D,E,F,G,H,I,J,K] (.slice P r.length Q) n) 221 (0,0)):=by rw[i];exact ab _ _
 have k:=al W.out C;go_ret;refine⟨⟨A.heap.size,.slice P r.length Q,rfl,B.size,?_,?_,?_⟩,?_⟩
 .exact i▸X
 .exact i▸Row.BM k (by omega)
 .exact i▸TypB.BM k
 .exact i▸B.trans C
end
section
open Go Go.RowKit
def qh:Value->Nat
 | .slice _ n _=>n
 | _=>0
theorem tf (n:Nat):cR n<64:=by unfold cR;omega
variable {k:Nat}
theorem tg {n:Nat} (a:k<=cR n):(n+(1+k))%64=56↔k=cR n:=by
 unfold cR at a ⊢;omega
def gH (n k:Nat):B8:=128::List.replicate (cR n) 0++(be8 (8*n)).take k
theorem lm (n:Nat):gH n 8=ir n:=rfl
theorem pt (n:Nat) (h:k<8):gH n (k+1)=gH n k++[UInt8.ofNat (8*n / 2 ^ (56 - 8*k))]:=by
 unfold gH;rw[List.append_assoc];congr 1;rcases(by omega:k=0\/k=1\/k=2\/k=3\/k=4\/k=5\/k=6\/k=7)with rfl | rfl | rfl | rfl | rfl | rfl | rfl | rfl <;> rfl
theorem mO (n:Nat) (h:k<=8):(gH n k).length=1+cR n+k:=by
 unfold gH;rw[List.length_append,List.length_cons,List.length_replicate,List.length_take,show(be8 (8*n)).length=8 from rfl];omega
theorem mP (x:UInt32) (k:Nat) (a:k<32):(x.toNat:Int) / (2 ^ k:Int)%256=((UInt8.ofNat (x >>> UInt32.ofNat k).toNat).toNat:Int):=by
 rw[gO x k a];generalize(x >>> UInt32.ofNat k).toNat=m;rw[UInt8.toNat_ofNat'];exact(Int.natCast_emod m 256).symm
theorem xW (hb cb:Nat) (st:List UInt32) (rv:Value) (r:B8) (n:Nat) (o:List Value) (w:World) (P:st.length=8) (ho:o.length=3) (hn:n<=10000000)
  (hg:w.heap[hb]? = some (.cells (bf cb st rv n) 221 (0,0))) (hc:w.heap[cb]? = some (.cells (dX o) 219 (0,0))) (hr:IsBytes w rv r) (bh:r.length<=10000000) :
  Calls Tryz.prog 125 #[.pointer (some ⟨hb,0,none⟩)] w fun e w'=>(∃v,e=.returned v/\w'.ownsRow w.heap.size 5 1 v 32 (((ba st (r++ir n)).1.flatMap ed).map fun x=>.int .u8 x.toNat))/\Ext w w':=by
 have HC:Hid _:=hc;have HR:Hid (IsBytes w rv r):=hr;have Y:Hid _:=P;have HO:Hid _:=ho;have HG:Hid _:=hg;have cq:=(Array.getElem?_eq_some_iff.1 hc).1;have Z:w.cell? ⟨hb,10,none⟩=some (.int .i64 (n:Int)):=(cell_of_row _ _ 10 _ _ _ hg).trans (fJ P).2;clear hc hr P ho hg;go_enter Tryz.func125,Tryz.ntmps125;go_upto_region 2 with(go_at_call 183;go_must (refine(xV hb cb st rv r n w Y.out HG.out HR.out bh).mono ?_;rintro e l ⟨⟨g,I,rfl,bk,ad,au,a0⟩,J⟩));have bl:Hid _:=ad;have bo:Hid (IsBytes l I r):=au;have bq:Hid (TypB l I):=a0;have a1:Hid (Ext w l):=J;have br:=J.cell Z;have cs:=J.size;clear ad au a0 J Z;go_wp2_with fail;have a2:Ext l (l.alloc (.cells #[.int .u8 128] 5)):=(Ext.refl _).alloc _;have D:(l.alloc (.cells #[.int .u8 128] 5)).ownsRow l.heap.size 5 1 (.slice (some ⟨l.heap.size,0,none⟩) 1 1) (1+0) ((128::List.replicate 0 0:B8).map fun x=>.int .u8 x.toNat):=⟨rfl,.inr ⟨l.heap.size,1,#[.int .u8 128],rfl,Nat.le_refl _,ab _ _,Nat.le_refl _,by unfold maxLen;omega,rfl,rfl⟩⟩;have ct:=tf n;have bs:Hid _:=a2;have Q:Hid ((l.alloc (.cells #[.int .u8 128] 5)).ownsRow l.heap.size 5 1 (.slice (some ⟨l.heap.size,0,none⟩) 1 1) (1+0) ((128::List.replicate 0 0:B8).map fun x=>.int .u8 x.toNat)):=D;clear a2 D;go_loopw [5] (fun pv wr=>∃k:Nat,k<=cR n/\wr.ownsRow l.heap.size 5 1 pv (1+k) ((128::List.replicate k 0:B8).map fun x=>.int .u8 x.toNat)/\Ext l wr) (fun pv _=>65 - qh pv)
 case atStart=>exact⟨0,Nat.zero_le _,Q.out,bs.out⟩
 case round =>
  obtain⟨k,hk,d,C⟩:=hrel;have E:Hid (wr.ownsRow l.heap.size 5 1 u5 (1+k) ((128::List.replicate k 0:B8).map fun x=>.int .u8 x.toNat)):=d;obtain⟨pa,pc,rfl,-⟩:=Row.BM d (by omega);have HX:Hid (Ext l wr):=C;have a3:=C.size;have cu:=C.cell br;clear d C;have a4:=tg hk
  by_cases a5:k=cR n
  .have hm:(((n:Int)+(1+k:Nat))%64 != 56)=false:=by simp;omega
   clear a4;go_wp2_with fail;have bt:Hid _:=a5;clear a5 hm;generalize(((n:Int)+(1+(cR n:Int)))%64 != 56)=cv;generalize((n:Int)+(1+(cR n:Int)))%64=cx;generalize(n:Int)+(1+(cR n:Int))=c0;generalize(1+(cR n:Int))=c9;go_loopw [5,31] (fun pv i wr=>∃k:Nat,k<=8/\i=.int .i64 k/\wr.ownsRow l.heap.size 5 1 pv (1+cR n+k) ((gH n k).map fun x=>.int .u8 x.toNat)/\Ext l wr) (fun _ i _=>8 - (intOf i).toNat)
   case atStart=>exact⟨0,by omega,rfl,by unfold gH;rw[List.take_zero,List.append_nil,<-bt.out];exact E.out,HX.out⟩
   case round =>
    obtain⟨q,hq,rfl,d,C⟩:=hrel;have u:Hid (wr.ownsRow l.heap.size 5 1 u5 (1+cR n+q) ((gH n q).map fun x=>.int .u8 x.toNat)):=d;obtain⟨pa,pc,rfl,-⟩:=Row.BM d (by omega);have B:Hid (Ext l wr):=C;have a3:=C.size;clear d C
    by_cases t:q<8
    .have y:((n:Int)*8 / 2 ^ (56 - 8*q)%256)=((UInt8.ofNat (8*n / 2 ^ (56 - 8*q))).toNat:Int):=by
      rw[UInt8.toNat_ofNat',Nat.mul_comm 8 n];push_cast;rfl
     have co:Hid _:=y;have bx:Hid _:=pt n t;generalize hz:UInt8.ofNat (8*n / 2 ^ (56 - 8*q))=z at y;have HZ:Hid _:=hz;have bS:Hid _:=y;clear y hz
     go_wp2_with (at_builtin;go_must (refine dH rfl _ _ rfl l.heap.size _ (1+cR n+q) (gH n q) rfl (u.out.alloc _) wr.heap.size 1 1 [z] rfl rfl (fr:=(0,0)) (by show _=some (Obj.cells #[Value.int .u8 (z.toNat:Int)] _ _);rw[<-bS.out];exact ab _ _) (by omega) (by simp;omega) ?_;intro v' w3 h R))
     go_roundw
     case rel=>exact⟨q+1,by omega,by go_num,by rw[bx.out,HZ.out];exact h,ai (B.out.alloc _) (u.out.alloc _) R⟩
     case measure=>simp[intOf];omega
    .have b0:q=8:=by omega
     subst b0;have c':=a3;have b5:Hid (wr.heap[g]? = some (.cells (bf cb st I n) 221 (0,0))):=Ext.row B.out bl.out;have b6:Hid (wr.heap[cb]? = some (.cells (dX o) 219 (0,0))):=Ext.row B.out (Ext.row a1.out HC.out);have b7:Hid (IsBytes wr (.slice pa (1+cR n+8) pc) (ir n)):=by
      have G:=Row.BM u.out (by omega);unfold Hid IsBytes;rw[<-lm,mO n (Nat.le_refl 8)];exact G
     have b8:Hid (TypB wr (.slice pa (1+cR n+8) pc)):=TypB.BM u.out;have da:(ir n).length=1+cR n+8:=mO n (Nat.le_refl 8);go_upto_region 12 with(go_at_call 124;go_must (refine(pm g cb st I _ r (ir n) n o wr Y.out HO.out (by omega) (by omega) b5.out b6.out (bo.out.ext B.out) (TypB.keep bq.out (KeepB.BO B.out)) b7.out (fun a n c he _=>.inr (b8.out a n c he)) (by omega) (by omega)).mono ?_;rintro e H ⟨rfl,b',dc,r5,K,a6⟩));have N:(ba st (r++ir n)).1=b':=by rw[<-a6]
     have O:Hid _:=N;have S:Ext w H:=Ext.B5 (a1.out.trans B.out) K.fr (fun k hk=>by cases hk;exact bk);obtain⟨i0,i1,i2,i3,i4,i5,i6,i7,rfl⟩:=gS K.BP;have p:=K.cells;have c1:H.cell? ⟨g,1,none⟩=some (U32 i0):=(cell_of_row _ _ 1 _ _ _ p).trans rfl;have c2:H.cell? ⟨g,2,none⟩=some (U32 i1):=(cell_of_row _ _ 2 _ _ _ p).trans rfl;have c3:H.cell? ⟨g,3,none⟩=some (U32 i2):=(cell_of_row _ _ 3 _ _ _ p).trans rfl;have c4:H.cell? ⟨g,4,none⟩=some (U32 i3):=(cell_of_row _ _ 4 _ _ _ p).trans rfl;have c5:H.cell? ⟨g,5,none⟩=some (U32 i4):=(cell_of_row _ _ 5 _ _ _ p).trans rfl;have c6:H.cell? ⟨g,6,none⟩=some (U32 i5):=(cell_of_row _ _ 6 _ _ _ p).trans rfl;have c7:H.cell? ⟨g,7,none⟩=some (U32 i6):=(cell_of_row _ _ 7 _ _ _ p).trans rfl;have c8:H.cell? ⟨g,8,none⟩=some (U32 i7):=(cell_of_row _ _ 8 _ _ _ p).trans rfl;have ca:Hid (Ext w H):=S;have dk:=S.size;clear a6 N K p S;go_wp2_with fail;generalize hF:(#[U32 i0,U32 i1,U32 i2,U32 i3,U32 i4,U32 i5,U32 i6,U32 i7]:Array Value)=F;generalize hL:[i0,i1,i2,i3,i4,i5,i6,i7]=L at O;have a7:L.length=8:=by subst hL;rfl
     have a8:∀j,j<8->F[j]? = some (U32 (L.getD j 0)):=by
      intro j hj;subst hF hL;rcases(by omega:j=0\/j=1\/j=2\/j=3\/j=4\/j=5\/j=6\/j=7)with rfl | rfl | rfl | rfl | rfl | rfl | rfl | rfl <;> rfl
     have cc:Hid _:=a8;have M:Hid _:=a7;clear hF hL a8 a7 c1 c2 c3 c4 c5 c6 c7 c8;go_loopw [7,51] (fun ov i wr=>∃k:Nat,k<=8/\i=.int .i64 k/\wr.ownsRow w.heap.size 5 1 ov (4*k) (((L.take k).flatMap ed).map fun x=>.int .u8 x.toNat)/\Ext w wr) (fun _ i _=>8 - (intOf i).toNat)
     case atStart=>exact⟨0,by omega,rfl,World.ownsRow_nil _ _ _ _,ca.out⟩
     case round =>
      obtain⟨j,hj,rfl,d,C⟩:=hrel;have A:Hid (wr.ownsRow w.heap.size 5 1 u7 (4*j) (((L.take j).flatMap ed).map fun x=>.int .u8 x.toNat)):=d;obtain⟨ja,jc,rfl,-⟩:=Row.BM d (by omega);have a9:Hid (Ext w wr):=C;have cp:=C.size;clear d C
      by_cases t:j<8
      .have ce:=mi wr (cc.out j t) t;generalize a':L.getD j 0=x at ce;have cl:Hid _:=a';obtain⟨b1,T⟩:∃b,UInt8.ofNat (x >>> 24).toNat=b:=⟨_,rfl⟩;obtain⟨b2,U⟩:∃b,UInt8.ofNat (x >>> 16).toNat=b:=⟨_,rfl⟩;obtain⟨b3,V⟩:∃b,UInt8.ofNat (x >>> 8).toNat=b:=⟨_,rfl⟩;obtain⟨b4,W⟩:∃b,UInt8.ofNat x.toNat=b:=⟨_,rfl⟩;have f1:(x.toNat:Int) / 16777216%256=(b1.toNat:Int):=by rw[<-T];exact mP x 24 (by decide)
       have f2:(x.toNat:Int) / 65536%256=(b2.toNat:Int):=by rw[<-U];exact mP x 16 (by decide)
       have f3:(x.toNat:Int) / 256%256=(b3.toNat:Int):=by rw[<-V];exact mP x 8 (by decide)
       have f4:(x.toNat:Int)%256=(b4.toNat:Int):=by rw[<-W,UInt8.toNat_ofNat'];exact(Int.natCast_emod _ 256).symm
       have bb:Hid (ed x=[b1,b2,b3,b4]):=by unfold Hid ed;rw[T,U,V,W]
       clear T U V W a';have bd:((L.take j).flatMap ed).length=4*j:=by
        have G:=A.out.1;simpa using G
       have dl:Hid _:=bd;clear bd
       go_wp2_with (at_builtin;go_must (refine dH rfl _ _ rfl w.heap.size _ (4*j) ((L.take j).flatMap ed) rfl (A.out.alloc _) wr.heap.size 4 4 [b1,b2,b3,b4] rfl rfl (fr:=(0,0)) (ab _ _) (by omega) (by simp;omega) ?_;intro v' w6 X cm))
       go_roundw
       case rel =>
        refine⟨j+1,by omega,by go_num,?_,ai (a9.out.alloc _) (A.out.alloc _) cm⟩;have G:(L.take (j+1)).flatMap ed=(L.take j).flatMap ed++[b1,b2,b3,b4]:=by
         rw[List.take_add_one,List.flatMap_append,List.getElem?_eq_getElem (by rw[M.out];exact t)];congr 1;have h8:L[j]'(by rw[M.out];exact t)=x:=by
          rw[<-cl.out,List.getD_eq_getElem?_getD,List.getElem?_eq_getElem (by rw[M.out];exact t)];rfl
         rw[h8];simpa using bb.out
        rw[G];exact X
       case measure=>simp[intOf];omega
      .have cn:j=8:=by omega
       subst cn;go_wp2_with fail;go_ret;have G:=A.out;rw[List.take_of_length_le (by rw[M.out];omega),<-O.out]at G;exact⟨⟨_,rfl,G⟩,a9.out⟩
  .have hm:(((n:Int)+(1+k:Nat))%64 != 56)=true:=by simp;omega
   clear a4
   go_wp2_with (at_builtin;go_must (refine dH rfl _ _ rfl l.heap.size _ (1+k) (128::List.replicate k 0) rfl (E.out.alloc _) wr.heap.size 1 1 [0] rfl rfl (ab _ _) (by omega) (by simp;omega) ?_;intro v' w3 h R))
   go_roundw
   case rel=>exact⟨k+1,by omega,by have G:(128::List.replicate k 0++[0]:B8)=128::List.replicate (k+1) 0:=(by rw[List.replicate_succ',List.cons_append]);rw[G]at h;exact h,ai (HX.out.alloc _) (E.out.alloc _) R⟩
   case measure =>
    obtain⟨dn,dq,rfl,-⟩:=Row.BM h (by omega);simp[qh];omega
end
end Go.Proofs.YtfabjgfmiaammaaGreatDoor
