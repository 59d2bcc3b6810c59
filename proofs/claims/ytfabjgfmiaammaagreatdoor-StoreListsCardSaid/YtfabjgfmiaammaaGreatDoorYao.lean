/- Contracts of the program's functions and plain laws behind the card. Conditions: as each theorem states. -/
import Derived.Test.YtfabjgfmiaammaaGreatDoorYal
import Derived.Deep.QuietTactic
import Derived.BigQuiet
import Derived.Deep.MidRow
set_option linter.unusedVariables false
set_option linter.unusedSimpArgs false
set_option linter.unusedSectionVars false
set_option maxRecDepth 100000
set_option maxHeartbeats 64000000
namespace Go.Proofs.YtfabjgfmiaammaaGreatDoor
section
open Go Go.RowKit
def bT (l:List UInt32) (n:Nat):Array Value:=((l++List.replicate (n - l.length) 0).map U32).toArray
variable {l:List UInt32} {n:Nat}
theorem ie (h:l.length<=n):(bT l n).size=n:=by
 unfold bT;simp;omega
variable {i:Nat}
theorem uV (h:i<l.length):(bT l n)[i]? = some (U32 (l.getD i 0)):=by
 unfold bT;simp[List.getElem?_append,h,List.getD_eq_getElem?_getD]
theorem oJ (x:UInt32) (h:l.length<n):bT (l++[x]) n=((bT l n).toList.take l.length++[U32 x]++(bT l n).toList.drop (l.length+1)).toArray:=by
 unfold bT;apply Array.ext';simp only[List.toList_toArray,List.map_append,List.map_cons,List.map_nil];rw[List.take_left' (by simp),show n - l.length=(n - (l++[x]).length)+1 by simp;omega,List.replicate_succ,List.map_cons,List.append_assoc,List.append_assoc];congr 1;rw[List.drop_append,List.length_map,show l.length+1 - l.length=1 by omega,List.drop_eq_nil_of_le (by simp)];simp
theorem tf (h:l.length=n):bT l n=(l.map U32).toArray:=by
 unfold bT;rw[show n - l.length=0 by omega];simp
variable {w:World}
theorem iS {g:Nat} {t:TypeId} {fr:Nat×Nat} (a:w.heap[g]? = some (.cells (bT l n) t fr)) (h:i<l.length):w.cell? ⟨g,i,none⟩=some (U32 (l.getD i 0)) :=
 (cell_of_row w g i _ _ _ a).trans (uV h)
theorem gN:(Tryz.prog.info? 167).map (·.size)=some 1:=by kernel_rfl
theorem eY (y:UInt8):Value.int .u32 (IntKind.u32.wrap (y.toNat:Int))=U32 y.toUInt32:=by
 have:=y.toNat_lt;rw[wrap_u32 _ (by omega)];simp[U32]
theorem zG (x:UInt32):Value.int .u32 (IntKind.u32.wrap ((x.toNat:Int)*16777216))=U32 (x <<< 24):=by
 have h:=oC x 24 (by decide);have e:IntKind.u32.wrap ((x.toNat:Int)*16777216)=((x.toNat:Int)*16777216)%4294967296:=by rw[IntKind.wrap_u32]
 rw[e];exact congrArg _ h
theorem zF (x:UInt32):Value.int .u32 (IntKind.u32.wrap ((x.toNat:Int)*65536))=U32 (x <<< 16):=by
 have h:=oC x 16 (by decide);have e:IntKind.u32.wrap ((x.toNat:Int)*65536)=((x.toNat:Int)*65536)%4294967296:=by rw[IntKind.wrap_u32]
 rw[e];exact congrArg _ h
theorem A' (x:UInt32):Value.int .u32 (IntKind.u32.wrap ((x.toNat:Int)*256))=U32 (x <<< 8):=by
 have h:=oC x 8 (by decide);have e:IntKind.u32.wrap ((x.toNat:Int)*256)=((x.toNat:Int)*256)%4294967296:=by rw[IntKind.wrap_u32]
 rw[e];exact congrArg _ h
theorem ke (x y:UInt32):Value.int .u32 (bits .or .u32 (x.toNat:Int) (y.toNat:Int))=U32 (x ||| y):=congrArg _ (lf x y)
theorem zK (x y:UInt32):Value.int .u32 (((x.toNat:Int)+(y.toNat:Int))%4294967296)=U32 (x+y):=congrArg _ (cC x y)
theorem oB (b:B8) (k:Nat):aX b (k+1)=aX b k++[if k<16 then be4 b k else jN (aX b k) k]:=rfl
section
variable {ops:Array Oper} {rest:List Oper} {o:Oper} {a:Act} {Q:Exit->Act->World->Prop} {w:World}
theorem gn (d:o.guard=none) (c:TypeId) (x y:Operand) (A:o.op=.store c x y) (g j:Nat) (C:a.eval x=.pointer (some ⟨g,j,none⟩)) (vs:Array Value) (D:a.eval y=.agg vs) (r:∀v∈vs.toList,v.oneCell'=true)
  (t:TypeId) (cur:Array Value) (n:w.heap[g]? = some (.cells cur t (0,0))) (z:j+vs.size<=cur.size) (p:(Tryz.prog.info? c).map (·.size)=some vs.size) (new:Array Value) (b:new=(cur.toList.take j++vs.toList++cur.toList.drop (j+vs.size)).toArray)
  (h:∀l,l.heap[g]? = some (.cells new t (0,0))->w.grownBy l (some g)->wpList Tryz.prog ops Q rest (a.put o.dst undef) l):wpList Tryz.prog ops Q (o::rest) a w :=
 wpList_plain d fun _ u=>by
  have q:=run_storeCells_at (P:=Tryz.prog) g j t vs.toList 0 cur w n (by simpa using z) r;have B:(storeVar c ⟨g,j,none⟩ (.agg vs)).run Tryz.prog w=.ok () (w.setRow g new):=by
   cases e:Tryz.prog.info? c with
   | none=>simp[e]at p
   | some i =>
    have k:i.size=vs.size:=by simpa [e]using p
    simp only[Nat.add_zero,Array.length_toList]at q;rw[b];simp[storeVar,sizeOf,typeInfo,e,Value.cells,k,q]
  unfold Oper.wp execOp;simp only[A,C,D,Instr.storeAt,Instr.sureAddr,Sem.run_bind,Sem.run_pure,Result.andThen_ok,B];exact u _ _ (h _ (setRow_heap _ _ _ _ _ _ n) (af _ _ _))
end
theorem gU:(Tryz.prog.info? 217).map (·.size)=some 64:=by kernel_rfl
theorem iV:(Tryz.prog.info? 216).map (·.size)=some 8:=by kernel_rfl
theorem rP (l:List UInt32):∀v∈(l.map U32).toArray.toList,v.oneCell'=true:=by
 intro v a;obtain⟨x,-,rfl⟩:=List.mem_map.1 (by simpa using a);rfl
theorem eX (x y:UInt32):Value.int .u32 (IntKind.u32.wrap ((x.toNat:Int)+(y.toNat:Int)))=U32 (x+y):=by
 rw[IntKind.wrap_u32];exact zK x y
structure Sch (w wr:World) (b:B8) (k:Nat):Prop where
 ext:Ext w wr
 now:wr.heap[w.heap.size+1]? = some (.cells (bT (aX b k) 64) 217 (0,0))
 res:wr.heap[w.heap.size]? = some (.cells (bT [] 64) 217 (0,0))
variable {wr w2:World} {b:B8} {k:Nat}
theorem Sch.more (h:Sch w wr b k) (a:Ext wr w2):Sch w w2 b k:=⟨h.ext.trans a,Ext.row a h.now,Ext.row a h.res⟩
theorem Sch.put (h:Sch w wr b k) (c:w2.heap[w.heap.size+1]? = some (.cells (bT (aX b (k+1)) 64) 217 (0,0))) (a:wr.grownBy w2 (some (w.heap.size+1))):Sch w w2 b (k+1) :=
 ⟨Below.grown h.ext a h.ext.size (fun j d=>by cases d;omega),c,(a.block _ (Array.getElem?_eq_some_iff.1 h.res).1 (by simp)).trans h.res⟩
theorem rK (v:Value) (b:B8) (w:World) (hv:IsBytes w v b) (hb:b.length=64) :
  Calls Tryz.prog 223 #[v] w fun e w'=>e=.returned (.agg ((aX b 64).map U32).toArray)/\Ext w w':=by
 obtain⟨a,cl,rfl,h1,h2,h3,h4⟩:=hv.get;have H4:Hid _:=h4;have t:Hid _:=hb;clear h4 hv hb;go_enter Tryz.func223,Tryz.ntmps223;go_wp2_with fail;go_loopw [9] (fun i wr=>∃k:Nat,k<=64/\i=.int .i64 k/\Sch w wr b k) (fun i _=>64 - (intOf i).toNat)
 case atStart=>exact⟨0,by omega,rfl,((Ext.refl _).alloc _).alloc _,by have h9:=jv w (.cells (bT [] 64) 217) (.cells (bT [] 64) 217);exact h9,by have h9:=Ext.row ((Ext.refl _).alloc (.cells (bT [] 64) 217)) (ae w (.cells (bT [] 64) 217));exact h9⟩
 case round =>
  obtain⟨k,g,rfl,hS⟩:=hrel;have P:Hid _:=hS;have D:=el b k;clear hS
  by_cases bo:k<16
  .obtain ⟨bb,oo,rfl,hc⟩:=H4.out (4*k) (by have:=t.out;omega);have hx:=P.out.ext;have d0:=hx.cell (hc (4*k) (by have:=t.out;omega));have d1:=hx.cell (hc (4*k+1) (by have:=t.out;omega));have d2:=hx.cell (hc (4*k+2) (by have:=t.out;omega));have d3:=hx.cell (hc (4*k+3) (by have:=t.out;omega));obtain⟨y0,a5⟩:∃y,b.getD (4*k) 0=y:=⟨_,rfl⟩;obtain⟨y1,a6⟩:∃y,b.getD (4*k+1) 0=y:=⟨_,rfl⟩;obtain⟨y2,a7⟩:∃y,b.getD (4*k+2) 0=y:=⟨_,rfl⟩;obtain⟨y3,a8⟩:∃y,b.getD (4*k+3) 0=y:=⟨_,rfl⟩;rw[a5]at d0;rw[a6]at d1;rw[a7]at d2;rw[a8]at d3;have H:Hid (aX b (k+1)=aX b k++[(((y0.toUInt32 <<< 24) ||| (y1.toUInt32 <<< 16)) ||| (y2.toUInt32 <<< 8)) ||| y3.toUInt32]):=by
    unfold Hid;rw[oB,if_pos bo];unfold be4;rw[a5,a6,a7,a8]
   clear a5 a6 a7 a8 hc hx;obtain⟨E,a2⟩:∃x,y0.toUInt32=x:=⟨_,rfl⟩;obtain⟨F,a3⟩:∃x,y1.toUInt32=x:=⟨_,rfl⟩;obtain⟨J,q⟩:∃x,y2.toUInt32=x:=⟨_,rfl⟩;obtain⟨x3,a4⟩:∃x,y3.toUInt32=x:=⟨_,rfl⟩;rw[a2,a3,q,a4]at H;have b2:Hid _:=a2;have b3:Hid _:=a3;have b4:Hid _:=q;have b5:Hid _:=a4;clear a2 a3 q a4;have n0:4*(k:Int)<(b.length:Int):=by have:=t.out;omega
   have n1:4*(k:Int)+1<(b.length:Int):=by have:=t.out;omega
   have n2:4*(k:Int)+2<(b.length:Int):=by have:=t.out;omega
   have n3:4*(k:Int)+3<(b.length:Int):=by have:=t.out;omega
   have W0:Hid (IntKind.i64.wrap (4*(k:Int))=4*(k:Int)/\(4*(k:Int)).toNat=4*k):=⟨IntWalk.i64_in _ (by omega),by omega⟩;have W1:Hid (IntKind.i64.wrap (4*(k:Int)+1)=4*(k:Int)+1/\(4*(k:Int)+1).toNat=4*k+1):=⟨IntWalk.i64_in _ (by omega),by omega⟩;have W2:Hid (IntKind.i64.wrap (4*(k:Int)+2)=4*(k:Int)+2/\(4*(k:Int)+2).toNat=4*k+2):=⟨IntWalk.i64_in _ (by omega),by omega⟩;have W3:Hid (IntKind.i64.wrap (4*(k:Int)+3)=4*(k:Int)+3/\(4*(k:Int)+3).toNat=4*k+3):=⟨IntWalk.i64_in _ (by omega),by omega⟩;go_wp2_with fail;apply ak 35 [_,_,_,_,.pointer (some ⟨bb,oo+4*k,none⟩),.int .u8 y0.toNat,U32 E,U32 (E <<< 24),_,_,_,_,.pointer (some ⟨bb,oo+(4*k+1),none⟩),.int .u8 y1.toNat,U32 F,U32 (F <<< 16),U32 ((E <<< 24) ||| (F <<< 16)),_,_,_,_,.pointer (some ⟨bb,oo+(4*k+2),none⟩),.int .u8 y2.toNat,U32 J,U32 (J <<< 8),U32 (((E <<< 24) ||| (F <<< 16)) ||| (J <<< 8)),_,_,_,_,.pointer (some ⟨bb,oo+(4*k+3),none⟩),.int .u8 y3.toNat,U32 x3,U32 ((((E <<< 24) ||| (F <<< 16)) ||| (J <<< 8)) ||| x3),.pointer (some ⟨w.heap.size+1,k,none⟩)] [none,none,none,none,none,none,none,none,none,none,none,none,none,none,none,none,none,none,none,none,none,none,none,none,none,none,none,none,none,none,none,none,none,none,none] [[],[],[],[2],[1,3],[4],[5],[6],[],[],[9],[10],[8,11],[12],[13],[14],[7,15],[],[],[18],[19],[17,20],[21],[22],[23],[16,24],[],[],[27],[28],[26,29],[30],[31],[25,32],[0]] (by kernel_rfl) (by kernel_rfl) (by simp[aq])
   .trivial
   .simp (maxSteps:=1000000)only[List.take_succ_cons,List.take_zero,ay,aE,ab,Act.put,List.setIfInBounds_toArray,List.set_cons_zero,List.set_cons_succ,aN,aS,aq,List.getD_cons_zero,List.getD_cons_succ,and_true,true_and,forall_const];and_intros
    iterate 4 · intro o p h;intros;rename_i c;go_simp;exact c _ _ (Ext.refl _) rfl
    .intro o p h g R c;obtain⟨u,z⟩:=g;go_simp;simp only[W0.out.1];rw[if_pos ⟨by omega,by omega⟩,W0.out.2];exact c _ _ (Ext.refl _) rfl
    .intro o p h g R c;have f0:=h.cell d0;go_simp;exact c _ _ (Ext.refl _) rfl
    .intro o p h g R c;go_simp;exact c _ _ (Ext.refl _) (by rw[<-b2.out];exact eY y0)
    .intro o p h g R c;go_simp;exact c _ _ (Ext.refl _) (zG E)
    iterate 4 · intro o p h;intros;rename_i c;go_simp;exact c _ _ (Ext.refl _) rfl
    .intro o p h g R c;obtain⟨u,z⟩:=g;go_simp;simp only[W0.out.1,W1.out.1];rw[if_pos ⟨by omega,by omega⟩,W1.out.2];exact c _ _ (Ext.refl _) rfl
    .intro o p h g R c;have f1:=h.cell d1;go_simp;exact c _ _ (Ext.refl _) rfl
    .intro o p h g R c;go_simp;exact c _ _ (Ext.refl _) (by rw[<-b3.out];exact eY y1)
    .intro o p h g R c;go_simp;exact c _ _ (Ext.refl _) (zF F)
    .intro o p h g R c;obtain⟨u,z⟩:=g;go_simp;exact c _ _ (Ext.refl _) (ke (E <<< 24) (F <<< 16))
    iterate 4 · intro o p h;intros;rename_i c;go_simp;exact c _ _ (Ext.refl _) rfl
    .intro o p h g R c;obtain⟨u,z⟩:=g;go_simp;simp only[W0.out.1,W2.out.1];rw[if_pos ⟨by omega,by omega⟩,W2.out.2];exact c _ _ (Ext.refl _) rfl
    .intro o p h g R c;have f2:=h.cell d2;go_simp;exact c _ _ (Ext.refl _) rfl
    .intro o p h g R c;go_simp;exact c _ _ (Ext.refl _) (by rw[<-b4.out];exact eY y2)
    .intro o p h g R c;go_simp;exact c _ _ (Ext.refl _) (A' J)
    .intro o p h g R c;obtain⟨u,z⟩:=g;go_simp;exact c _ _ (Ext.refl _) (ke ((E <<< 24) ||| (F <<< 16)) (J <<< 8))
    iterate 4 · intro o p h;intros;rename_i c;go_simp;exact c _ _ (Ext.refl _) rfl
    .intro o p h g R c;obtain⟨u,z⟩:=g;go_simp;simp only[W0.out.1,W3.out.1];rw[if_pos ⟨by omega,by omega⟩,W3.out.2];exact c _ _ (Ext.refl _) rfl
    .intro o p h g R c;have f3:=h.cell d3;go_simp;exact c _ _ (Ext.refl _) rfl
    .intro o p h g R c;go_simp;exact c _ _ (Ext.refl _) (by rw[<-b5.out];exact eY y3)
    .intro o p h g R c;obtain⟨u,z⟩:=g;go_simp;exact c _ _ (Ext.refl _) (ke (((E <<< 24) ||| (F <<< 16)) ||| (J <<< 8)) x3)
    .intro o p h g R c;go_simp;exact c _ _ (Ext.refl _) rfl
   intro o w2 q g;simp only[aU,Nat.zero_add,Nat.reduceAdd,and_true]at g;simp(maxSteps:=1000000)only[List.take_succ_cons,List.take_zero,List.drop_succ_cons,List.drop_zero,ab,Act.put,List.setIfInBounds_toArray,List.set_cons_zero,List.set_cons_succ,Nat.zero_add,Nat.reduceAdd,g];clear g;have G:Hid _:=Sch.more P.out q;have d:=G.out.now;have a1:=ie (l:=aX b k) (n:=64) (by omega);have A:=oJ (l:=aX b k) (n:=64) ((((E <<< 24) ||| (F <<< 16)) ||| (J <<< 8)) ||| x3) (by omega);rw[<-H.out,D]at A
   go_wp2_with (refine ag rfl 167 (.tmp 48) (.tmp 47) rfl (w.heap.size+1) k rfl (U32 ((((E <<< 24) ||| (F <<< 16)) ||| (J <<< 8)) ||| x3)) rfl rfl _ (bT (aX b k) 64) d (by omega) gN (bT (aX b (k+1)) 64) A ?_;intro w3 bl N)
   have b0:Hid _:=Sch.put G.out bl N;clear bl N d a1 A;go_roundw
   case rel=>exact⟨k+1,by omega,by go_num,b0.out⟩
   case measure=>simp[intOf];omega
  .by_cases ce:k<64
   .have d:=P.out.now;obtain⟨X,hX⟩:∃x,(aX b k).getD (k - 15) 0=x:=⟨_,rfl⟩;obtain⟨Y,hY⟩:∃x,(aX b k).getD (k - 2) 0=x:=⟨_,rfl⟩;obtain⟨A0,hA⟩:∃x,(aX b k).getD (k - 16) 0=x:=⟨_,rfl⟩;obtain⟨B0,hB⟩:∃x,(aX b k).getD (k - 7) 0=x:=⟨_,rfl⟩;have bh:=iS d (i:=k - 15) (by omega);have e2:=iS d (i:=k - 2) (by omega);have Q:=iS d (i:=k - 16) (by omega);have e7:=iS d (i:=k - 7) (by omega);rw[hX]at bh;rw[hY]at e2;rw[hA]at Q;rw[hB]at e7;obtain⟨p1,S⟩:∃x,bB X 25=x:=⟨_,rfl⟩;obtain⟨q1,Z⟩:∃x,bB X 14=x:=⟨_,rfl⟩;obtain⟨p2,T⟩:∃x,p1 ^^^ q1=x:=⟨_,rfl⟩;obtain⟨r1,C⟩:∃x,X >>> 3=x:=⟨_,rfl⟩;obtain⟨s1,au⟩:∃x,p2 ^^^ r1=x:=⟨_,rfl⟩;obtain⟨p3,U⟩:∃x,bB Y 15=x:=⟨_,rfl⟩;obtain⟨q3,aa⟩:∃x,bB Y 13=x:=⟨_,rfl⟩;obtain⟨p4,W⟩:∃x,p3 ^^^ q3=x:=⟨_,rfl⟩;obtain⟨r2,ad⟩:∃x,Y >>> 10=x:=⟨_,rfl⟩;obtain⟨s2,a0⟩:∃x,p4 ^^^ r2=x:=⟨_,rfl⟩;obtain⟨z1,a9⟩:∃x,A0+s1=x:=⟨_,rfl⟩;obtain⟨z2,a'⟩:∃x,z1+B0=x:=⟨_,rfl⟩;obtain⟨z3,ba⟩:∃x,z2+s2=x:=⟨_,rfl⟩;have b6:Hid _:=a9;have b7:Hid _:=a';have b8:Hid _:=ba;have H:Hid (aX b (k+1)=aX b k++[z3]):=by
     unfold Hid;rw[oB,if_neg bo];unfold jN;rw[hX,hY,hA,hB,S,Z,T,C,au,U,aa,W,ad,a0,a9,a',ba]
    have f1:bits BinOp.xor IntKind.u32 (p1.toNat:Int) (q1.toNat:Int)=(p2.toNat:Int):=by rw[<-T];exact bA _ _
    have f2:(X.toNat:Int) / 8=(r1.toNat:Int):=by rw[<-C];exact hZ X 3 (by decide)
    have f3:bits BinOp.xor IntKind.u32 (p2.toNat:Int) (r1.toNat:Int)=(s1.toNat:Int):=by rw[<-au];exact bA _ _
    have f4:bits BinOp.xor IntKind.u32 (p3.toNat:Int) (q3.toNat:Int)=(p4.toNat:Int):=by rw[<-W];exact bA _ _
    have f5:(Y.toNat:Int) / 1024=(r2.toNat:Int):=by rw[<-ad];exact hZ Y 10 (by decide)
    have f6:bits BinOp.xor IntKind.u32 (p4.toNat:Int) (r2.toNat:Int)=(s2.toNat:Int):=by rw[<-a0];exact bA _ _
    have bt:Hid _:=S;have bx:Hid _:=Z;have bv:Hid _:=U;have bS:Hid _:=aa;have b9:Hid (IntKind.i64.wrap ((k:Int) - 15)=((k - 15:Nat):Int)):=by unfold Hid;rw[IntWalk.i64_in _ (by omega)];omega
    have W2:Hid (IntKind.i64.wrap ((k:Int) - 2)=((k - 2:Nat):Int)):=by unfold Hid;rw[IntWalk.i64_in _ (by omega)];omega
    have b':Hid (IntKind.i64.wrap ((k:Int) - 16)=((k - 16:Nat):Int)):=by unfold Hid;rw[IntWalk.i64_in _ (by omega)];omega
    have W7:Hid (IntKind.i64.wrap ((k:Int) - 7)=((k - 7:Nat):Int)):=by unfold Hid;rw[IntWalk.i64_in _ (by omega)];omega
    clear hX hY hA hB S Z T C au U aa W ad a0 a9 a' ba d;have cc:=b9.out;have w2:=W2.out;have cb:((k - 15:Nat):Int)<64:=by omega
    have n2:((k - 2:Nat):Int)<64:=by omega
    go_upto_region 7 with fail;go_quiet (fail);have q:Ext wr (wr.drewN nq):=Ext.drawn _ _;have G:Hid _:=Sch.more P.out q;clear cc w2 cb n2;have bk:=q.cell Q;have g7:=q.cell e7;clear bh e2 Q e7 q;go_wp2_with fail;go_at_call 224;refine(BR X _).mono ?_;rw[bt.out];rintro e w3 ⟨rfl,rfl⟩;go_wp2_with fail;go_at_call 224;refine(Br X _).mono ?_;rw[bx.out];rintro e w3 ⟨rfl,rfl⟩;go_wp2_with fail;go_at_call 224;refine(Bq Y _).mono ?_;rw[bv.out];rintro e w3 ⟨rfl,rfl⟩;go_wp2_with fail;go_at_call 224;refine(Bs Y _).mono ?_;rw[bS.out];rintro e w3 ⟨rfl,rfl⟩;go_wp2_with fail;apply ak 15 [_,_,_,.pointer (some ⟨w.heap.size+1,k - 16,none⟩),U32 A0,_,U32 z1,_,_,.pointer (some ⟨w.heap.size+1,k - 7,none⟩),U32 B0,U32 z2,_,U32 z3,.pointer (some ⟨w.heap.size+1,k,none⟩)] [none,none,none,none,none,none,none,none,none,none,none,none,none,none,none] [[],[],[1],[2],[3],[],[4,5],[],[7],[8],[9],[6,10],[],[11,12],[0]] (by kernel_rfl) (by kernel_rfl) (by simp[aq])
    .trivial
    .simp (maxSteps:=1000000)only[List.take_succ_cons,List.take_zero,ay,aE,ab,Act.put,List.setIfInBounds_toArray,List.set_cons_zero,List.set_cons_succ,aN,aS,aq,List.getD_cons_zero,List.getD_cons_succ,and_true,true_and,forall_const];and_intros
     iterate 3 · intro o p h;intros;rename_i c;go_simp;exact c _ _ (Ext.refl _) rfl
     .intro o p h g R c;go_simp;simp only[b'.out];rw[if_pos ⟨by omega,by omega⟩];exact c _ _ (Ext.refl _) rfl
     .intro o p h g R c;have f0:=h.cell bk;go_simp;exact c _ _ (Ext.refl _) rfl
     .intro o p h;intros;rename_i c;go_simp;exact c _ _ (Ext.refl _) rfl
     .intro o p h g R c;obtain⟨u,z⟩:=g;go_simp;exact c _ _ (Ext.refl _) (by rw[<-b6.out];exact eX A0 s1)
     iterate 2 · intro o p h;intros;rename_i c;go_simp;exact c _ _ (Ext.refl _) rfl
     .intro o p h g R c;go_simp;simp only[W7.out];rw[if_pos ⟨by omega,by omega⟩];exact c _ _ (Ext.refl _) rfl
     .intro o p h g R c;have f0:=h.cell g7;go_simp;exact c _ _ (Ext.refl _) rfl
     .intro o p h g R c;obtain⟨u,z⟩:=g;go_simp;exact c _ _ (Ext.refl _) (by rw[<-b7.out];exact eX z1 B0)
     .intro o p h;intros;rename_i c;go_simp;exact c _ _ (Ext.refl _) rfl
     .intro o p h g R c;obtain⟨u,z⟩:=g;go_simp;exact c _ _ (Ext.refl _) (by rw[<-b8.out];exact eX z2 s2)
     .intro o p h g R c;go_simp;exact c _ _ (Ext.refl _) rfl
    intro o w4 bs g;simp only[aU,Nat.zero_add,Nat.reduceAdd,and_true]at g;simp(maxSteps:=1000000)only[List.take_succ_cons,List.take_zero,List.drop_succ_cons,List.drop_zero,ab,Act.put,List.setIfInBounds_toArray,List.set_cons_zero,List.set_cons_succ,Nat.zero_add,Nat.reduceAdd,g];clear g;have bd:Hid _:=Sch.more G.out bs;have d:=bd.out.now;have a1:=ie (l:=aX b k) (n:=64) (by omega);have A:=oJ (l:=aX b k) (n:=64) z3 (by omega);rw[<-H.out,D]at A;clear f1 f2 f3 f4 f5 f6 bk g7 bs
    go_wp2_with (refine ag rfl 167 (.tmp 87) (.tmp 86) rfl (w.heap.size+1) k rfl (U32 z3) rfl rfl _ (bT (aX b k) 64) d (by omega) gN (bT (aX b (k+1)) 64) A ?_;intro w5 I B)
    have b1:Hid _:=Sch.put bd.out I B;clear I B d a1 A;go_roundw
    case rel=>exact⟨k+1,by omega,by go_num,b1.out⟩
    case measure=>simp[intOf];omega
   .have ca:k=64:=by omega
    subst ca;have d:=P.out.now;have br:=P.out.res;have L:=P.out.ext;have M:=tf (n:=64) D;rw[M]at d;have r:((aX b 64).map U32).toArray.size=64:=by simp[D]
    obtain⟨V,hV⟩:∃V,((aX b 64).map U32).toArray=V:=⟨_,rfl⟩;have O:=rP (aX b 64);rw[hV]at d r O;have HV:Hid _:=hV;have bq:(bT [] 64).size=64:=ie (Nat.zero_le _);have C:(bT [] 64).toList.drop (0+V.size)=[]:=by rw[r];exact List.drop_eq_nil_of_le (by rw[Array.length_toList,bq];omega)
    have K:Hid _:=L;clear D M hV L
    go_wp2_with (first
     | (refine wpList_load_row rfl 217 (.tmp 3) rfl (w.heap.size+1) rfl 217 V (0,0) _ d Tryz.underlying217 rfl (by rw[r];exact gU) ?_)
     | (refine gn rfl 217 (.tmp 2) (.tmp 89) rfl w.heap.size 0 rfl V rfl O _ (bT [] 64) br (by rw[r,bq];omega) (by rw[r];exact gU) V (by rw[C];simp) ?_;intro w5 I B))
    refine bodyPost_ret (results_cell_row rfl _ _ w.heap.size 217 V (0,0) _ rfl I Tryz.underlying217 rfl (by rw[r];exact gU)) rfl ?_;rw[HV.out];exact⟨rfl,Below.grown K.out B (K.out).size (fun j hj=>by cases hj;omega)⟩
end
section
open Go Go.RowKit
def bm (cb:Nat) (st:List UInt32) (rest:Value) (n:Int):Array Value:=((.pointer (some ⟨cb,0,none⟩))::(st.map U32++[rest,.int .i64 n])).toArray
def eb (o:List Value):Array Value:=(o++(dp.map U32++dQ.map U32)).toArray
variable {cb j:Nat} {st:List UInt32} {rest:Value} {n:Int}
theorem pC (h:j<st.length):(bm cb st rest n)[1+j]? = some (U32 (st.getD j 0)):=by
 unfold bm;simp[show 1+j=j+1 by omega,List.getElem?_append,h,List.getD_eq_getElem?_getD]
theorem sy {o:List Value} (a:o.length=3) (h:j<64):(eb o)[11+j]? = some (U32 (dQ.getD j 0)):=by
 unfold eb;rw[List.getElem?_toArray,List.getElem?_append_right (by omega),List.getElem?_append_right (by rw[a,List.length_map];show 8<=_;omega),List.length_map,a];rw[show 11+j - 3 - dp.length=j by show 11+j - 3 - 8=j;omega,List.getElem?_map,List.getElem?_eq_getElem (show j<dQ.length from h)];simp[List.getD_eq_getElem?_getD,show j<dQ.length from h]
theorem gY {l:List UInt32} (h:l.length=8):∃a b c d e g i j,l=[a,b,c,d,e,g,i,j]:=by
 match l,h with
 | [a,b,c,d,e,g,i,j],_=>exact⟨a,b,c,d,e,g,i,j,rfl⟩
structure MixR (w wr:World) (gw gs:Nat) (V:Array Value) (st W:List UInt32) (k:Nat) (c:List UInt32):Prop where
 ext:Ext w wr
 now:wr.heap[gw]? = some (.cells V 217 (0,0))
 cur:wr.heap[gs]? = some (.cells (c.map U32).toArray 216 (0,0))
 eq:jm st W k=c
 low:w.heap.size<=gw/\gw<gs
variable {w wr w2:World} {gw gs k:Nat} {V:Array Value} {W c:List UInt32}
theorem MixR.more (h:MixR w wr gw gs V st W k c) (a:Ext wr w2):MixR w w2 gw gs V st W k c :=
 ⟨h.ext.trans a,Ext.row a h.now,Ext.row a h.cur,h.eq,h.low⟩
theorem MixR.put {new:List UInt32} (h:MixR w wr gw gs V st W k c) (d:w2.heap[gs]? = some (.cells (new.map U32).toArray 216 (0,0))) (a:wr.grownBy w2 (some gs)) (b:rnd c (dQ.getD k 0) (W.getD k 0)=new):MixR w w2 gw gs V st W (k+1) new :=
 ⟨Below.grown h.ext a h.ext.size (fun j e=>by cases e;have:=h.low;omega),(a.block _ (Array.getElem?_eq_some_iff.1 h.now).1 (by have:=h.low;simp;omega)).trans h.now,d,by show rnd (jm st W k) _ _=_;rw[h.eq];exact b,h.low⟩
def dK (st a:List UInt32) (k:Nat):List UInt32:=(List.zipWith (· + ·) st a).take k++st.drop k
variable {fin:List UInt32}
theorem pP (b:st.length=8) (a:fin.length=8) (d:k<=8):(dK st fin k).length=8:=by
 unfold dK;simp[b,a];omega
theorem pO (b:st.length=8) (a:fin.length=8) (d:k<8):(dK st fin k).getD k 0=st.getD k 0:=by
 unfold dK;rw[List.getD_eq_getElem?_getD,List.getElem?_append_right (by simp[b,a];omega),List.getD_eq_getElem?_getD];simp[b,a,show min k 8=k by omega]
theorem pQ (d:st.length=8) (a:fin.length=8) (b:k<8):dK st fin (k+1)=(dK st fin k).set k (st.getD k 0+fin.getD k 0):=by
 obtain⟨e,g,h,i,l,o,p,q,rfl⟩:=gY d;obtain⟨r,t,u,x,y,z,A,B,rfl⟩:=gY a
 match k,b with
 | 0,_=>rfl
 | 1,_=>rfl
 | 2,_=>rfl
 | 3,_=>rfl
 | 4,_=>rfl
 | 5,_=>rfl
 | 6,_=>rfl
 | 7,_=>rfl
theorem uz (x:UInt32) (h:j<st.length):bm cb (st.set j x) rest n=((bm cb st rest n).toList.take (1+j)++[U32 x]++(bm cb st rest n).toList.drop (1+j+1)).toArray:=by
 unfold bm;apply Array.ext';simp only[List.toList_toArray,show 1+j=j+1 by omega,List.take_succ_cons,List.drop_succ_cons,List.cons_append];congr 1;rw[List.map_set,List.take_append_of_le_length (by simp;omega),List.drop_append_of_le_length (by simp;omega),List.set_eq_take_append_cons_drop,if_pos (by simpa using h)];simp
theorem gX:(bm cb st rest n).size=st.length+3:=by
 unfold bm;simp
theorem mz {F:Array Value} {v:Value} (w:World) (h:F[k]? = some v) (a:k<8):(Instr.index 216 (.agg F) (.int .i64 (k:Int))).run Tryz.prog w=.ok v w:=by
 simp[Instr.index,run_underlying Tryz.underlying216,asIntOf];rw[if_pos a];simp[part,isAgg,run_underlying Tryz.underlying167,h]
structure xF (w wr:World) (hb cb:Nat) (st fin:List UInt32) (rest:Value) (n:Int) (k:Nat):Prop where
 fr:Fr (fun j=>j=hb) w wr
 cells:wr.heap[hb]? = some (.cells (bm cb (dK st fin k) rest n) 221 (0,0))
theorem mf {a:Nat} {cs:Array Value} {fr:Nat×Nat} (b:w.heap[a]? = some (.cells cs 221 fr)):¬IsU8 w a:=aw b (by kernel_rfl)
theorem As (D cb:Nat) (st:List UInt32) (rest v:Value) (n:Int) (b:B8) (o:List Value) (w:World) (b':st.length=8) (ho:o.length=3)
  (hg:w.heap[D]? = some (.cells (bm cb st rest n) 221 (0,0))) (hc:w.heap[cb]? = some (.cells (eb o) 219 (0,0))) (hv:IsBytes w v b) (hl:b.length=64) :
  Calls Tryz.prog 182 #[.pointer (some ⟨D,0,none⟩),v] w fun e w'=>e=.returned (.tuple #[])/\w'.heap[D]? = some (.cells (bm cb (eW st b) rest n) 221 (0,0))/\Fr (fun k=>k=D) w w':=by
 have HG:Hid _:=hg;have HC:Hid _:=hc;have HV:Hid _:=hv;have HL:Hid _:=hl;have fz:=(Array.getElem?_eq_some_iff.1 hg).1;obtain⟨a,fx,rfl,h1,h2,h3,-⟩:=hv.get;obtain⟨i0,i1,i2,i3,i4,i5,i6,i7,b8⟩:=gY b';have e6:Hid _:=b8;have P:w.rangeAt D 1 [U32 i0,U32 i1,U32 i2,U32 i3,U32 i4,U32 i5,U32 i6,U32 i7]:=fun j u hu=>by
  have Z:=(List.getElem?_eq_some_iff.1 hu).1;have f1:j<8:=by simpa using Z
  rw[cell_of_row w D (1+j) _ _ _ hg,pC (by omega),b8];have:([U32 i0,U32 i1,U32 i2,U32 i3,U32 i4,U32 i5,U32 i6,U32 i7]:List Value)=[i0,i1,i2,i3,i4,i5,i6,i7].map U32:=rfl;rw[this,List.getElem?_map]at hu;rw[<-hu,List.getD_eq_getElem?_getD]
  cases hx:([i0,i1,i2,i3,i4,i5,i6,i7]:List UInt32)[j]? with
  | none=>rw[List.getElem?_eq_none_iff]at hx;simp at hx;omega
  | some x=>rfl
 have e5:Hid _:=P;have T:Hid _:=b';have HO:Hid _:=ho;clear hg hc hv hl b' ho b8 P;go_enter Tryz.func182,Tryz.ntmps182;go_wp2_with fail;go_at_call 223;refine(rK _ b w HV.out HL.out).mono ?_;rintro e w1 ⟨rfl,C⟩;have ev:=el b 64;have Q:((aX b 64).map U32).toArray.size=64:=by simp[ev]
 obtain⟨V,hV⟩:∃V,((aX b 64).map U32).toArray=V:=⟨_,rfl⟩;have aa:=rP (aX b 64);rw[hV]at Q aa ⊢;have ef:Hid _:=hV;have b7:(bT [] 64).size=64:=ie (Nat.zero_le _);have es:(bT [] 64).toList.drop (0+V.size)=[]:=by rw[Q];exact List.drop_eq_nil_of_le (by rw[Array.length_toList,b7];omega)
 have eh:(w1.alloc (.cells (bT [] 64) 217)).heap[w1.heap.size]? = some (.cells (bT [] 64) 217 (0,0)):=ae _ _;go_upto_region 1 with(refine gn rfl 217 (.tmp 4) (.tmp 16) rfl w1.heap.size 0 rfl V rfl aa _ (bT [] 64) eh (by rw[Q,b7];omega) (by rw[Q];exact gU) V (by rw[es];simp) ?_;intro w2 ek bo);have N:Ext w w2:=Below.grown (C.alloc _) bo (by have:=C.size;simp;omega) (fun j Z=>by cases Z;exact C.size);have bs:w2.rangeAt D 1 [U32 i0,U32 i1,U32 i2,U32 i3,U32 i4,U32 i5,U32 i6,U32 i7]:=fun j u hu=>N.cell (e5.out j u hu)
 have bv:Hid _:=ek;have bS:Hid _:=N;have eg:Hid _:=C;obtain⟨gw,b4⟩:∃k,w1.heap.size=k:=⟨_,rfl⟩;rw[b4]at bv ⊢;have er:w.heap.size<=gw:=by rw[<-b4];exact C.size
 have bq:gw<w2.heap.size:=(Array.getElem?_eq_some_iff.1 bv.out).1;clear aa b7 es eh ek bo C N hV b4 ev;go_upto_region 2 with(refine wpList_load_mid rfl 216 (.tmp 19) rfl D 1 rfl [U32 i0,U32 i1,U32 i2,U32 i3,U32 i4,U32 i5,U32 i6,U32 i7] _ bs Tryz.underlying216 rfl iV ?_);obtain⟨w3,bd⟩:∃q,q=w2.alloc (.cells #[U32 i0,U32 i1,U32 i2,U32 i3,U32 i4,U32 i5,U32 i6,U32 i7] 216):=⟨_,rfl⟩;have bt:w2.alloc (.cells #[U32 i0,U32 i1,U32 i2,U32 i3,U32 i4,U32 i5,U32 i6,U32 i7] 216)=w3:=bd.symm;rw[bt];have O:Ext w2 w3:=by rw[bd];exact(Ext.refl _).alloc _
 have bx:Hid (MixR w w3 gw w2.heap.size V st (aX b 64) 0 [i0,i1,i2,i3,i4,i5,i6,i7]):=⟨Ext.trans bS.out O,Ext.row O bv.out,by rw[bd];exact ae _ _,e6.out,er,bq⟩;obtain⟨gs,eo⟩:∃k,w2.heap.size=k:=⟨_,rfl⟩;rw[eo]at bx ⊢;clear bd bt O bs eo bq;obtain⟨W,hW⟩:∃W,aX b 64=W:=⟨_,rfl⟩;have e7:Hid (∀j,j<64->V[j]? = some (U32 (W.getD j 0))):=fun j Z=>by
  rw[<-hW,<-ef.out,List.getElem?_toArray,List.getElem?_map,List.getElem?_eq_getElem (by rw[el];exact Z),List.getD_eq_getElem?_getD,List.getElem?_eq_getElem (by rw[el];exact Z)];rfl
 have e9:Hid (eW st b=List.zipWith (· + ·) st (jm st W 64)):=by unfold Hid eW;rw[hW]
 rw[hW]at bx;clear hW ef;go_wp2_with fail;go_loopw [21] (fun i wr=>∃(k:Nat) (t G H a3 y I J a7:UInt32),k<=64/\i=.int .i64 k/\Hid (MixR w wr gw gs V st W k [t,G,H,a3,y,I,J,a7])) (fun i _=>64 - (intOf i).toNat)
 case atStart=>exact⟨0,i0,i1,i2,i3,i4,i5,i6,i7,by omega,rfl,bx.out⟩
 case round =>
  obtain⟨k,t,G,H,a3,y,I,J,a7,h,rfl,HM⟩:=hrel
  by_cases M:k<64
  .obtain ⟨kk,L⟩:∃x,dQ.getD k 0=x:=⟨_,rfl⟩;obtain⟨ww,co⟩:∃x,W.getD k 0=x:=⟨_,rfl⟩;obtain⟨x1,C⟩:∃x,bB y 26=x:=⟨_,rfl⟩;obtain⟨x2,N⟩:∃x,bB y 21=x:=⟨_,rfl⟩;obtain⟨x3,O⟩:∃x,x1 ^^^ x2=x:=⟨_,rfl⟩;obtain⟨x4,cp⟩:∃x,bB y 7=x:=⟨_,rfl⟩;obtain⟨x5,cq⟩:∃x,x3 ^^^ x4=x:=⟨_,rfl⟩;obtain⟨y1,bh⟩:∃x,a7+x5=x:=⟨_,rfl⟩;obtain⟨y2,cu⟩:∃x,y &&& I=x:=⟨_,rfl⟩;obtain⟨y3,cv⟩:∃x,~~~y=x:=⟨_,rfl⟩;obtain⟨y4,cx⟩:∃x,y3 &&& J=x:=⟨_,rfl⟩;obtain⟨y5,c0⟩:∃x,y2 ^^^ y4=x:=⟨_,rfl⟩;obtain⟨y6,bk⟩:∃x,y1+y5=x:=⟨_,rfl⟩;obtain⟨y7,bl⟩:∃x,y6+kk=x:=⟨_,rfl⟩;obtain⟨tt,ba⟩:∃x,y7+ww=x:=⟨_,rfl⟩;obtain⟨z1,c2⟩:∃x,bB t 30=x:=⟨_,rfl⟩;obtain⟨z2,c3⟩:∃x,bB t 19=x:=⟨_,rfl⟩;obtain⟨z3,c4⟩:∃x,z1 ^^^ z2=x:=⟨_,rfl⟩;obtain⟨z4,c5⟩:∃x,bB t 10=x:=⟨_,rfl⟩;obtain⟨z5,c6⟩:∃x,z3 ^^^ z4=x:=⟨_,rfl⟩;obtain⟨v1,ca⟩:∃x,t &&& G=x:=⟨_,rfl⟩;obtain⟨v2,cc⟩:∃x,t &&& H=x:=⟨_,rfl⟩;obtain⟨v3,ce⟩:∃x,v1 ^^^ v2=x:=⟨_,rfl⟩;obtain⟨v4,cl⟩:∃x,G &&& H=x:=⟨_,rfl⟩;obtain⟨v5,cm⟩:∃x,v3 ^^^ v4=x:=⟨_,rfl⟩;obtain⟨uu,bb⟩:∃x,z5+v5=x:=⟨_,rfl⟩;obtain⟨n0,a9⟩:∃x,tt+uu=x:=⟨_,rfl⟩;obtain⟨n4,a'⟩:∃x,a3+tt=x:=⟨_,rfl⟩;have eg:Hid _:=C;have bS:Hid _:=N;have dk:Hid (bits BinOp.xor IntKind.u32 (x1.toNat:Int) (x2.toNat:Int)=(x3.toNat:Int)):=by unfold Hid;rw[<-O];exact bA _ _
   have e':Hid _:=cp;have dl:Hid (bits BinOp.xor IntKind.u32 (x3.toNat:Int) (x4.toNat:Int)=(x5.toNat:Int)):=by unfold Hid;rw[<-cq];exact bA _ _
   have dn:Hid (IntKind.u32.wrap ((a7.toNat:Int)+(x5.toNat:Int))=(y1.toNat:Int)):=by unfold Hid;rw[<-bh,IntKind.wrap_u32];exact cC _ _
   have ft:Hid (((a7.toNat:Int)+(x5.toNat:Int))%4294967296=(y1.toNat:Int)):=by unfold Hid;rw[<-bh];exact cC _ _
   have dq:Hid (bits BinOp.and IntKind.u32 (y.toNat:Int) (I.toNat:Int)=(y2.toNat:Int)):=by unfold Hid;rw[<-cu];exact dz _ _
   have ds:Hid (bits BinOp.xor IntKind.u32 4294967295 (y.toNat:Int)=(y3.toNat:Int)):=by unfold Hid;rw[<-cv];exact nJ _
   have d0:Hid (bits BinOp.and IntKind.u32 (y3.toNat:Int) (J.toNat:Int)=(y4.toNat:Int)):=by unfold Hid;rw[<-cx];exact dz _ _
   have d1:Hid (bits BinOp.xor IntKind.u32 (y2.toNat:Int) (y4.toNat:Int)=(y5.toNat:Int)):=by unfold Hid;rw[<-c0];exact bA _ _
   have d2:Hid (IntKind.u32.wrap ((y1.toNat:Int)+(y5.toNat:Int))=(y6.toNat:Int)):=by unfold Hid;rw[<-bk,IntKind.wrap_u32];exact cC _ _
   have fu:Hid (((y1.toNat:Int)+(y5.toNat:Int))%4294967296=(y6.toNat:Int)):=by unfold Hid;rw[<-bk];exact cC _ _
   have d3:Hid (IntKind.u32.wrap ((y6.toNat:Int)+(kk.toNat:Int))=(y7.toNat:Int)):=by unfold Hid;rw[<-bl,IntKind.wrap_u32];exact cC _ _
   have fv:Hid (((y6.toNat:Int)+(kk.toNat:Int))%4294967296=(y7.toNat:Int)):=by unfold Hid;rw[<-bl];exact cC _ _
   have c7:Hid (IntKind.u32.wrap ((y7.toNat:Int)+(ww.toNat:Int))=(tt.toNat:Int)):=by unfold Hid;rw[<-ba,IntKind.wrap_u32];exact cC _ _
   have fs:Hid (((y7.toNat:Int)+(ww.toNat:Int))%4294967296=(tt.toNat:Int)):=by unfold Hid;rw[<-ba];exact cC _ _
   have fa:Hid _:=c2;have fb:Hid _:=c3;have d4:Hid (bits BinOp.xor IntKind.u32 (z1.toNat:Int) (z2.toNat:Int)=(z3.toNat:Int)):=by unfold Hid;rw[<-c4];exact bA _ _
   have fc:Hid _:=c5;have d5:Hid (bits BinOp.xor IntKind.u32 (z3.toNat:Int) (z4.toNat:Int)=(z5.toNat:Int)):=by unfold Hid;rw[<-c6];exact bA _ _
   have c8:Hid (bits BinOp.and IntKind.u32 (t.toNat:Int) (G.toNat:Int)=(v1.toNat:Int)):=by unfold Hid;rw[<-ca];exact dz _ _
   have c9:Hid (bits BinOp.and IntKind.u32 (t.toNat:Int) (H.toNat:Int)=(v2.toNat:Int)):=by unfold Hid;rw[<-cc];exact dz _ _
   have c':Hid (bits BinOp.xor IntKind.u32 (v1.toNat:Int) (v2.toNat:Int)=(v3.toNat:Int)):=by unfold Hid;rw[<-ce];exact bA _ _
   have da:Hid (bits BinOp.and IntKind.u32 (G.toNat:Int) (H.toNat:Int)=(v4.toNat:Int)):=by unfold Hid;rw[<-cl];exact dz _ _
   have dc:Hid (bits BinOp.xor IntKind.u32 (v3.toNat:Int) (v4.toNat:Int)=(v5.toNat:Int)):=by unfold Hid;rw[<-cm];exact bA _ _
   have fr:Hid (IntKind.u32.wrap ((z5.toNat:Int)+(v5.toNat:Int))=(uu.toNat:Int)):=by unfold Hid;rw[<-bb,IntKind.wrap_u32];exact cC _ _
   have d8:Hid (((z5.toNat:Int)+(v5.toNat:Int))%4294967296=(uu.toNat:Int)):=by unfold Hid;rw[<-bb];exact cC _ _
   have fl:Hid (IntKind.u32.wrap ((tt.toNat:Int)+(uu.toNat:Int))=(n0.toNat:Int)):=by unfold Hid;rw[<-a9,IntKind.wrap_u32];exact cC _ _
   have d6:Hid (((tt.toNat:Int)+(uu.toNat:Int))%4294967296=(n0.toNat:Int)):=by unfold Hid;rw[<-a9];exact cC _ _
   have fn:Hid (IntKind.u32.wrap ((a3.toNat:Int)+(tt.toNat:Int))=(n4.toNat:Int)):=by unfold Hid;rw[<-a',IntKind.wrap_u32];exact cC _ _
   have d7:Hid (((a3.toNat:Int)+(tt.toNat:Int))%4294967296=(n4.toNat:Int)):=by unfold Hid;rw[<-a'];exact cC _ _
   have ec:Hid (rnd [t,G,H,a3,y,I,J,a7] (dQ.getD k 0) (W.getD k 0)=[n0,t,G,H,n4,y,I,J]):=by
    unfold Hid;simp only[rnd,List.getD_cons_zero,List.getD_cons_succ];rw[L,co,C,N,O,cp,cq,bh,cu,cv,cx,c0,bk,bl,ba,c2,c3,c4,c5,c6,ca,cc,ce,cl,cm,bb,a9,a']
   have e1:Hid (w.cell? ⟨cb,11+k,none⟩=some (U32 kk)):=(cell_of_row _ _ (11+k) _ _ _ HC.out).trans ((sy HO.out M).trans (by rw[L]));have e8:Hid (V[k]? = some (U32 ww)):=(e7.out k M).trans (by rw[co]);clear C N O cp cq bh cu cv cx c0 bk bl ba c2 c3 c4 c5 c6 ca cc ce cl cm bb a9 a' L co;have d:=HM.out.cur;have s0:wr.cell? ⟨gs,0,none⟩=some (U32 t):=(cell_of_row _ _ 0 _ _ _ d).trans rfl;have s4:wr.cell? ⟨gs,4,none⟩=some (U32 y):=(cell_of_row _ _ 4 _ _ _ d).trans rfl;clear d;go_upto_region 5 with fail;go_quiet (fail);obtain⟨q,cn⟩:∃q,q=wr.drewN nq:=⟨_,rfl⟩;rw[<-cn];have a8:Hid _:=MixR.more HM.out (show Ext wr q by rw[cn];exact Ext.drawn _ _);clear s0 s4 cn;go_wp2_with fail;go_at_call 224;refine(BQ y _).mono ?_;rw[eg.out];rintro e w9 ⟨rfl,rfl⟩;go_wp2_with fail;go_at_call 224;refine(Bo y _).mono ?_;rw[bS.out];rintro e w9 ⟨rfl,rfl⟩;go_wp2_with fail;go_at_call 224;refine(Bu y _).mono ?_;rw[e'.out];rintro e w9 ⟨rfl,rfl⟩;have d:=a8.out.cur;have br:=a8.out.now;have ct:=a8.out.ext;have s5:w9.cell? ⟨gs,5,none⟩=some (U32 I):=(cell_of_row _ _ 5 _ _ _ d).trans rfl;have s6:w9.cell? ⟨gs,6,none⟩=some (U32 J):=(cell_of_row _ _ 6 _ _ _ d).trans rfl;have s7:w9.cell? ⟨gs,7,none⟩=some (U32 a7):=(cell_of_row _ _ 7 _ _ _ d).trans rfl;have sw:w9.cell? ⟨gw,k,none⟩=some (U32 ww):=(cell_of_row _ _ k _ _ _ br).trans e8.out;have sc:w9.cell? ⟨D,0,none⟩=some (.pointer (some ⟨cb,0,none⟩)):=ct.cell ((cell_of_row _ _ 0 _ _ _ HG.out).trans rfl);have sk:w9.cell? ⟨cb,11+k,none⟩=some (U32 kk):=ct.cell e1.out;clear d br ct;go_upto_region 7 with fail;rw[dk.out,dl.out];go_wp2_with fail;apply ak 29 [_,U32 a7,_,U32 y1,_,_,U32 I,U32 y2,_,U32 y3,_,U32 J,U32 y4,U32 y5,U32 y6,_,_,_,.pointer (some ⟨cb,0,none⟩),_,_,_,.pointer (some ⟨cb,11+k,none⟩),U32 kk,U32 y7,_,.pointer (some ⟨gw,k,none⟩),U32 ww,U32 tt] [none,none,none,none,none,none,none,none,none,none,none,none,none,none,none,none,none,none,none,none,none,none,none,none,none,none,none,none,none] [[],[0],[],[1,2],[],[],[5],[4,6],[],[8],[],[10],[9,11],[7,12],[3,13],[],[15],[16],[17],[],[18],[20],[19,21],[22],[14,23],[],[25],[26],[24,27]] (by kernel_rfl) (by kernel_rfl) (by simp[aq])
   .trivial
   .simp (maxSteps:=1000000)only[List.take_succ_cons,List.take_zero,ay,aE,ab,Act.put,List.setIfInBounds_toArray,List.set_cons_zero,List.set_cons_succ,aN,aS,aq,List.getD_cons_zero,List.getD_cons_succ,and_true,true_and,forall_const];and_intros
    .intro r q p;intros;rename_i g;go_simp;exact g _ _ (Ext.refl _) rfl
    .intro r q p h R g;have f0:=p.cell s7;go_simp;exact g _ _ (Ext.refl _) rfl
    .intro r q p;intros;rename_i g;go_simp;exact g _ _ (Ext.refl _) rfl
    .intro r q p h R g;obtain⟨A,B⟩:=h;go_simp;exact g _ _ (Ext.refl _) (congrArg _ dn.out)
    iterate 2 · intro r q p;intros;rename_i g;go_simp;exact g _ _ (Ext.refl _) rfl
    .intro r q p h R g;have f0:=p.cell s5;go_simp;exact g _ _ (Ext.refl _) rfl
    .intro r q p h R g;obtain⟨A,B⟩:=h;go_simp;exact g _ _ (Ext.refl _) (congrArg _ dq.out)
    .intro r q p;intros;rename_i g;go_simp;exact g _ _ (Ext.refl _) rfl
    .intro r q p h R g;go_simp;exact g _ _ (Ext.refl _) (congrArg _ ds.out)
    .intro r q p;intros;rename_i g;go_simp;exact g _ _ (Ext.refl _) rfl
    .intro r q p h R g;have f0:=p.cell s6;go_simp;exact g _ _ (Ext.refl _) rfl
    .intro r q p h R g;obtain⟨A,B⟩:=h;go_simp;exact g _ _ (Ext.refl _) (congrArg _ d0.out)
    .intro r q p h R g;obtain⟨A,B⟩:=h;go_simp;exact g _ _ (Ext.refl _) (congrArg _ d1.out)
    .intro r q p h R g;obtain⟨A,B⟩:=h;go_simp;exact g _ _ (Ext.refl _) (congrArg _ d2.out)
    iterate 3 · intro r q p;intros;rename_i g;go_simp;exact g _ _ (Ext.refl _) rfl
    .intro r q p h R g;have f0:=p.cell sc;go_simp;exact g _ _ (Ext.refl _) rfl
    iterate 3 · intro r q p;intros;rename_i g;go_simp;exact g _ _ (Ext.refl _) rfl
    .intro r q p h R g;obtain⟨A,B⟩:=h;go_simp;exact g _ _ (Ext.refl _) rfl
    .intro r q p h R g;have f0:=p.cell sk;go_simp;exact g _ _ (Ext.refl _) rfl
    .intro r q p h R g;obtain⟨A,B⟩:=h;go_simp;exact g _ _ (Ext.refl _) (congrArg _ d3.out)
    .intro r q p;intros;rename_i g;go_simp;exact g _ _ (Ext.refl _) rfl
    .intro r q p h R g;go_simp;exact g _ _ (Ext.refl _) rfl
    .intro r q p h R g;have f0:=p.cell sw;go_simp;exact g _ _ (Ext.refl _) rfl
    .intro r q p h R g;obtain⟨A,B⟩:=h;go_simp;exact g _ _ (Ext.refl _) (congrArg _ c7.out)
   intro r wz S h;simp only[aU,Nat.zero_add,Nat.reduceAdd,and_true]at h;simp(maxSteps:=1000000)only[List.take_succ_cons,List.take_zero,List.drop_succ_cons,List.drop_zero,ab,Act.put,List.setIfInBounds_toArray,List.set_cons_zero,List.set_cons_succ,Nat.zero_add,Nat.reduceAdd,h];clear h;have ea:Hid _:=MixR.more a8.out S;clear s5 s6 s7 sw sc sk S;go_wp2_with fail;go_at_call 224;refine(BP t _).mono ?_;rw[fa.out];rintro e w8 ⟨rfl,rfl⟩;go_wp2_with fail;go_at_call 224;refine(Bp t _).mono ?_;rw[fb.out];rintro e w8 ⟨rfl,rfl⟩;go_wp2_with fail;go_at_call 224;refine(Bt t _).mono ?_;rw[fc.out];rintro e w8 ⟨rfl,rfl⟩;have d:=ea.out.cur;have r0:w8.cell? ⟨gs,0,none⟩=some (U32 t):=(cell_of_row _ _ 0 _ _ _ d).trans rfl;have r1:w8.cell? ⟨gs,1,none⟩=some (U32 G):=(cell_of_row _ _ 1 _ _ _ d).trans rfl;have r2:w8.cell? ⟨gs,2,none⟩=some (U32 H):=(cell_of_row _ _ 2 _ _ _ d).trans rfl;have r3:w8.cell? ⟨gs,3,none⟩=some (U32 a3):=(cell_of_row _ _ 3 _ _ _ d).trans rfl;have r4:w8.cell? ⟨gs,4,none⟩=some (U32 y):=(cell_of_row _ _ 4 _ _ _ d).trans rfl;have r5:w8.cell? ⟨gs,5,none⟩=some (U32 I):=(cell_of_row _ _ 5 _ _ _ d).trans rfl;have r6:w8.cell? ⟨gs,6,none⟩=some (U32 J):=(cell_of_row _ _ 6 _ _ _ d).trans rfl;go_upto_region 9 with fail;rw[d4.out,d5.out];go_upto_region 10 with fail;rw[c8.out,c9.out,c'.out,da.out,dc.out,d8.out];have e3:Hid ((#[.int .u32 (((tt.toNat:Int)+(uu.toNat:Int))%4294967296),U32 t,U32 G,U32 H,.int .u32 (((a3.toNat:Int)+(tt.toNat:Int))%4294967296),U32 y,U32 I,U32 J]:Array Value)=#[U32 n0,U32 t,U32 G,U32 H,U32 n4,U32 y,U32 I,U32 J]):=by unfold Hid;rw[d6.out,d7.out]
   go_wp2_with (refine gn rfl 216 (.tmp 5) (.tmp 109) rfl gs 0 rfl #[U32 n0,U32 t,U32 G,U32 H,U32 n4,U32 y,U32 I,U32 J] (congrArg Value.agg e3.out) (by intro v hv;simp at hv;rcases hv with rfl | rfl | rfl | rfl | rfl | rfl | rfl | rfl <;> rfl) _ _ d (by simp) iV #[U32 n0,U32 t,U32 G,U32 H,U32 n4,U32 y,U32 I,U32 J] (by simp) ?_;intro wn Y E)
   have e2:Hid _:=MixR.put ea.out (new:=[n0,t,G,H,n4,y,I,J]) Y E ec.out;clear r0 r1 r2 r3 r4 r5 r6 d Y E;go_roundw
   case rel=>exact⟨k+1,n0,t,G,H,n4,y,I,J,by omega,by go_num,e2.out⟩
   case measure=>simp[intOf];omega
  .have L:k=64:=by omega
   subst L;have d:=HM.out.cur;have b1:=HM.out.eq;have U:=HM.out.ext;obtain⟨z,X⟩:∃l,[t,G,H,a3,y,I,J,a7]=l:=⟨_,rfl⟩;have b3:z.length=8:=by rw[<-X];rfl
   rw[X]at d b1;have eS:Hid _:=b1;have au:Hid _:=b3;obtain⟨F,hF⟩:∃F,(z.map U32).toArray=F:=⟨_,rfl⟩;have fe:F.size=8:=by rw[<-hF];simp[b3]
   have e0:Hid (∀j,j<8->F[j]? = some (U32 (z.getD j 0))):=fun j Z=>by
    rw[<-hF,List.getElem?_toArray,List.getElem?_map,List.getElem?_eq_getElem (by omega),List.getD_eq_getElem?_getD,List.getElem?_eq_getElem (by omega)];rfl
   rw[hF]at d;have ex:Hid (xF w wr D cb st z rest n 0):=⟨Fr.BX U,by show wr.heap[D]? = some (.cells (bm cb ([]++st.drop 0) rest n) _ _);rw[List.nil_append,List.drop_zero];exact Ext.row U HG.out⟩;clear b1 b3 hF X U
   go_wp2_with (refine wpList_load_row rfl 216 (.tmp 5) rfl gs rfl 216 F (0,0) _ d Tryz.underlying216 rfl (by rw[fe];exact iV) ?_)
   clear d;go_loopw [112] (fun i wr=>∃k:Nat,k<=8/\i=.int .i64 k/\Hid (xF w wr D cb st z rest n k)) (fun i _=>8 - (intOf i).toNat)
   case atStart=>exact⟨0,by omega,rfl,ex.out⟩
   case round =>
    obtain⟨k,h,rfl,H2⟩:=hrel
    by_cases M:k<8
    .obtain ⟨sk,b9⟩:∃x,st.getD k 0=x:=⟨_,rfl⟩;obtain⟨fk,b2⟩:∃x,z.getD k 0=x:=⟨_,rfl⟩;obtain⟨xk,cs⟩:∃x,sk+fk=x:=⟨_,rfl⟩;have K:=H2.out.cells;have fi:=pP T.out au.out h;have b6:=pQ T.out au.out M;have b5:=pO T.out au.out M;rw[b9]at b5;rw[b9,b2,cs]at b6;have d9:Hid (Value.int .u32 (IntKind.u32.wrap ((sk.toNat:Int)+(fk.toNat:Int)))=U32 xk):=by unfold Hid;rw[<-cs];exact eX sk fk
     have ff:=mz wr ((e0.out k M).trans (by rw[b2])) M;have c1:wr.cell? ⟨D,1+k,none⟩=some (U32 sk):=by rw[cell_of_row _ _ (1+k) _ _ _ K,pC (by omega),b5]
     have ey:Hid _:=c1;have eE:Hid _:=K;have e4:Hid _:=b6;clear b9 b2 cs b5 b6 c1 K;go_upto_region 15 with fail;clear ff;apply ak 11 [_,_,_,.pointer (some ⟨D,1,none⟩),.pointer (some ⟨D,1+k,none⟩),U32 sk,_,U32 xk,_,.pointer (some ⟨D,1,none⟩),.pointer (some ⟨D,1+k,none⟩)] [none,none,none,none,none,none,none,none,none,none,none] [[],[],[0],[2],[1,3],[4],[],[5,6],[0],[8],[1,9]] (by kernel_rfl) (by kernel_rfl) (by simp[aq])
     .trivial
     .simp (maxSteps:=1000000)only[List.take_succ_cons,List.take_zero,ay,aE,ab,Act.put,List.setIfInBounds_toArray,List.set_cons_zero,List.set_cons_succ,aN,aS,aq,List.getD_cons_zero,List.getD_cons_succ,and_true,true_and,forall_const];and_intros
      iterate 4 · intro r q p;intros;rename_i g;go_simp;exact g _ _ (Ext.refl _) rfl
      .intro r q p h R g;obtain⟨A,B⟩:=h;go_simp;exact g _ _ (Ext.refl _) rfl
      .intro r q p h R g;have f0:=p.cell ey.out;go_simp;exact g _ _ (Ext.refl _) rfl
      .intro r q p;intros;rename_i g;go_simp;exact g _ _ (Ext.refl _) rfl
      .intro r q p h R g;obtain⟨A,B⟩:=h;go_simp;exact g _ _ (Ext.refl _) d9.out
      iterate 2 · intro r q p;intros;rename_i g;go_simp;exact g _ _ (Ext.refl _) rfl
      .intro r q p h R g;obtain⟨A,B⟩:=h;go_simp;exact g _ _ (Ext.refl _) rfl
     intro r wz S h;simp only[aU,Nat.zero_add,Nat.reduceAdd,and_true]at h;simp(maxSteps:=1000000)only[List.take_succ_cons,List.take_zero,List.drop_succ_cons,List.drop_zero,ab,Act.put,List.setIfInBounds_toArray,List.set_cons_zero,List.set_cons_succ,Nat.zero_add,Nat.reduceAdd,h];clear h;have b0:=Ext.row S eE.out;have fj:=gX (cb:=cb) (st:=dK st z k) (rest:=rest) (n:=n);have ad:=uz (cb:=cb) (st:=dK st z k) (rest:=rest) (n:=n) (j:=k) xk (by omega);rw[<-e4.out]at ad
     go_wp2_with (refine ag rfl 167 (.tmp 126) (.tmp 123) rfl D (1+k) rfl (U32 xk) rfl rfl _ _ b0 (by omega) gN (bm cb (dK st z (k+1)) rest n) ad ?_;intro wn Y E)
     have H3:Hid (xF w wn D cb st z rest n (k+1)):=⟨(H2.out.fr.ext S).step E (fun j Z=>by cases Z;exact .inl rfl) (by rintro j Z;cases Z;exact mf b0),Y⟩;clear b0 fj ad Y E S fi;go_roundw
     case rel=>exact⟨k+1,by omega,by go_num,H3.out⟩
     case measure=>simp[intOf];omega
    .have L:k=8:=by omega
     subst L;have d':Hid (wr.heap[D]? = some (.cells (bm cb (eW st b) rest n) 221 (0,0))):=by
      have h9:=H2.out.cells;have h8:dK st z 8=eW st b:=by
       unfold dK;rw[e9.out,eS.out,List.drop_eq_nil_of_le (by rw[T.out];omega),List.append_nil,List.take_of_length_le (by simp[T.out,au.out])]
      rw[h8]at h9;exact h9
     go_wp2
     go_end0
     exact⟨rfl,d'.out,H2.out.fr⟩
end
end Go.Proofs.YtfabjgfmiaammaaGreatDoor
