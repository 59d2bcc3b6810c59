/- Contracts of the program's functions and plain laws behind the card. Conditions: as each theorem states. -/
import Derived.Test.YtgfegpnmlkdjfaaGreatDoorZae
import Derived.Shelf.SlicesE.DeleteFunc
import Derived.Lib.SliceRun
import Derived.Test.YtgfegpnmlkdjfaaGreatDoorZad
import Derived.Test.YtgfegpnmlkdjfaaGreatDoorZag
import Derived.Deep.QuietTactic
import Derived.BigQuiet
set_option linter.unusedVariables false
set_option linter.unusedSimpArgs false
set_option linter.unusedSectionVars false
set_option maxRecDepth 100000
set_option maxHeartbeats 64000000
namespace Go.Proofs.YtgfegpnmlkdjfaaGreatDoor
section
open Go Go.RowKit Go.Sort Go.Shelf
end
section
open Go Go.RowKit
theorem pT {w:World} {a:Nat} {v:Value} {L:List B8} {n:Nat} (h:w.ownsRow a 9 1 v n (L.map S8)) (b:n=L.length) (c:n<=10000000):IsStrs w v L:=by
 subst b;exact Row.GW h (by omega)
end
section
open Go Go.RowKit
end
section
open Go Go.RowKit
def IsEvB (w:World) (cs:List Value) (e:Ev):Prop:=∃a,cs=[.int .i64 e.t,.int .i64 e.kind,.int .i64 e.mode,.int .i64 e.keep,.int .i64 e.G3,S8 e.path,a]/\IsBytes w a e.data/\e.path.length<=10000000
variable {w:World} {cs:List Value} {e:Ev}
theorem IsEvR.read {R:Nat->Prop} (h:IsEvR R w cs e):IsEvB w cs e:=by
 obtain⟨v,a,b,c⟩:=h;exact⟨v,a,b.bytes,c⟩
theorem IsEvB.length (h:IsEvB w cs e):cs.length=7/\cs.all (·.oneCell')=true:=by
 obtain⟨v,rfl,a,_⟩:=h;obtain⟨_,_,rfl,_⟩:=a;exact⟨rfl,by simp[Value.oneCell']⟩
variable {w':World}
theorem IsEvB.ext (h:IsEvB w cs e) (d:Ext w w'):IsEvB w' cs e:=by
 obtain⟨v,a,b,c⟩:=h;exact⟨v,a,b.ext d,c⟩
def ReadB (w:World) (v:Value) (L:List Ev):Prop:=∃a:List (List Value),Row w v L.length a.flatten/\Each (IsEvB w) a L
theorem ReadB.ext {v:Value} {L:List Ev} (h:ReadB w v L) (b:Ext w w'):ReadB w' v L:=by
 obtain⟨a,d,g⟩:=h;exact⟨a,d.ext b,g.imp (fun c x i=>i.ext b)⟩
end
section
open Go Go.RowKit
def A4 (a:Int):Fs:=⟨a,[],[],[],[],0,[],0,false⟩
end
section
open Go Go.RowKit
theorem tU {w:World} {a base':Nat} {e:TypeId} {b:Nat} {v:Value} {n:Nat} {xs:List Value} (h:w.ownsRow a e b v n xs) (l:base'<=a):w.ownsRow base' e b v n xs:=by
 refine⟨h.1,h.2.imp id ?_⟩;rintro⟨g,c,d,i,j,k⟩;exact⟨g,c,d,i,Nat.le_trans l j,k⟩
end
section
open Go Go.RowKit
theorem zK (s:Nat) (c:s<32):(32:UInt32) - UInt32.ofNat s=UInt32.ofNat (32 - s):=by
 apply UInt32.toNat_inj.1;have a:(UInt32.ofNat s).toNat=s:=by simp;omega
 have b:(UInt32.ofNat (32 - s)).toNat=32 - s:=by simp;omega
 rw[UInt32.toNat_sub_of_le _ _ (by rw[UInt32.le_iff_toNat_le,a];show s<=32;omega),a,b];rfl
theorem eA (x:UInt32) (k s:Nat) (w:World) (c:0<s) (a:s<32) (n:bits BinOp.and IntKind.u64 (IntKind.u64.wrap (-(k:Int))) 31=(s:Int)) :
  Calls Tryz.prog 178 #[U32 x,.int .i64 (-(k:Int))] w fun e d=>e=.returned (U32 (bg x (UInt32.ofNat s)))/\d=w:=by
 have g:(0:Int)<=(s:Int):=by omega
 have h:(s:Int)<=32:=by omega
 have i:IntKind.u64.wrap (32 - (s:Int))=((32 - s:Nat):Int):=by rw[IntWalk.u64_in _ (by omega)];omega
 have j:(0:Int)<=((32 - s:Nat):Int):=by omega
 have l:((32 - s:Nat):Int)<=32:=by omega
 have b:Hid (Value.int IntKind.u32 (bits BinOp.or IntKind.u32 (↑x.toNat*2 ^ s%4294967296) (↑x.toNat / 2 ^ (32 - s)))=U32 (bg x (UInt32.ofNat s))):=by
  unfold Hid bg;rw[pN x s a,iB x (32 - s) (by omega),lN,zK s a]
 go_enter Tryz.func178,Tryz.ntmps178;go_wp2;go_ret;exact⟨congrArg Ending.returned b.out,rfl⟩
theorem FO (x:UInt32) (w:World):Calls Tryz.prog 178 #[U32 x,.int .i64 (-6)] w fun e a=>e=.returned (U32 (bg x 26))/\a=w:=eA x 6 26 w (by decide) (by decide) (by decide +kernel)
theorem EU (x:UInt32) (w:World):Calls Tryz.prog 178 #[U32 x,.int .i64 (-11)] w fun e a=>e=.returned (U32 (bg x 21))/\a=w:=eA x 11 21 w (by decide) (by decide) (by decide +kernel)
theorem E0 (x:UInt32) (w:World):Calls Tryz.prog 178 #[U32 x,.int .i64 (-25)] w fun e a=>e=.returned (U32 (bg x 7))/\a=w:=eA x 25 7 w (by decide) (by decide) (by decide +kernel)
theorem FN (x:UInt32) (w:World):Calls Tryz.prog 178 #[U32 x,.int .i64 (-2)] w fun e a=>e=.returned (U32 (bg x 30))/\a=w:=eA x 2 30 w (by decide) (by decide) (by decide +kernel)
theorem EV (x:UInt32) (w:World):Calls Tryz.prog 178 #[U32 x,.int .i64 (-13)] w fun e a=>e=.returned (U32 (bg x 19))/\a=w:=eA x 13 19 w (by decide) (by decide) (by decide +kernel)
theorem EZ (x:UInt32) (w:World):Calls Tryz.prog 178 #[U32 x,.int .i64 (-22)] w fun e a=>e=.returned (U32 (bg x 10))/\a=w:=eA x 22 10 w (by decide) (by decide) (by decide +kernel)
theorem FP (x:UInt32) (w:World):Calls Tryz.prog 178 #[U32 x,.int .i64 (-7)] w fun e a=>e=.returned (U32 (bg x 25))/\a=w:=eA x 7 25 w (by decide) (by decide) (by decide +kernel)
theorem EX (x:UInt32) (w:World):Calls Tryz.prog 178 #[U32 x,.int .i64 (-18)] w fun e a=>e=.returned (U32 (bg x 14))/\a=w:=eA x 18 14 w (by decide) (by decide) (by decide +kernel)
theorem EW (x:UInt32) (w:World):Calls Tryz.prog 178 #[U32 x,.int .i64 (-17)] w fun e a=>e=.returned (U32 (bg x 15))/\a=w:=eA x 17 15 w (by decide) (by decide) (by decide +kernel)
theorem EY (x:UInt32) (w:World):Calls Tryz.prog 178 #[U32 x,.int .i64 (-19)] w fun e a=>e=.returned (U32 (bg x 13))/\a=w:=eA x 19 13 w (by decide) (by decide) (by decide +kernel)
end
section
open Go Go.RowKit
def bH (l:List UInt32) (n:Nat):Array Value:=((l++List.replicate (n - l.length) 0).map U32).toArray
variable {l:List UInt32} {n:Nat}
theorem iF (h:l.length<=n):(bH l n).size=n:=by
 unfold bH;simp;omega
variable {i:Nat}
theorem xR (h:i<l.length):(bH l n)[i]? = some (U32 (l.getD i 0)):=by
 unfold bH;simp[List.getElem?_append,h,List.getD_eq_getElem?_getD]
theorem p' (x:UInt32) (h:l.length<n):bH (l++[x]) n=((bH l n).toList.take l.length++[U32 x]++(bH l n).toList.drop (l.length+1)).toArray:=by
 unfold bH;apply Array.ext';simp only[List.toList_toArray,List.map_append,List.map_cons,List.map_nil];rw[List.take_left' (by simp),show n - l.length=(n - (l++[x]).length)+1 by simp;omega,List.replicate_succ,List.map_cons,List.append_assoc,List.append_assoc];congr 1;rw[List.drop_append,List.length_map,show l.length+1 - l.length=1 by omega,List.drop_eq_nil_of_le (by simp)];simp
theorem uX (h:l.length=n):bH l n=(l.map U32).toArray:=by
 unfold bH;rw[show n - l.length=0 by omega];simp
variable {w:World}
theorem ji {g:Nat} {t:TypeId} {fr:Nat×Nat} (a:w.heap[g]? = some (.cells (bH l n) t fr)) (h:i<l.length):w.cell? ⟨g,i,none⟩=some (U32 (l.getD i 0)) :=
 (cell_of_row w g i _ _ _ a).trans (xR h)
theorem hI:(Tryz.prog.info? 100).map (·.size)=some 1:=by kernel_rfl
theorem fw (y:UInt8):Value.int .u32 (IntKind.u32.wrap (y.toNat:Int))=U32 y.toUInt32:=by
 have:=y.toNat_lt;rw[wrap_u32 _ (by omega)];simp[U32]
theorem BV (x:UInt32):Value.int .u32 (IntKind.u32.wrap ((x.toNat:Int)*16777216))=U32 (x <<< 24):=by
 have h:=pN x 24 (by decide);have e:IntKind.u32.wrap ((x.toNat:Int)*16777216)=((x.toNat:Int)*16777216)%4294967296:=by rw[IntKind.wrap_u32]
 rw[e];exact congrArg _ h
theorem BU (x:UInt32):Value.int .u32 (IntKind.u32.wrap ((x.toNat:Int)*65536))=U32 (x <<< 16):=by
 have h:=pN x 16 (by decide);have e:IntKind.u32.wrap ((x.toNat:Int)*65536)=((x.toNat:Int)*65536)%4294967296:=by rw[IntKind.wrap_u32]
 rw[e];exact congrArg _ h
theorem Ek (x:UInt32):Value.int .u32 (IntKind.u32.wrap ((x.toNat:Int)*256))=U32 (x <<< 8):=by
 have h:=pN x 8 (by decide);have e:IntKind.u32.wrap ((x.toNat:Int)*256)=((x.toNat:Int)*256)%4294967296:=by rw[IntKind.wrap_u32]
 rw[e];exact congrArg _ h
theorem kI (x y:UInt32):Value.int .u32 (bits .or .u32 (x.toNat:Int) (y.toNat:Int))=U32 (x ||| y):=congrArg _ (lN x y)
theorem BZ (x y:UInt32):Value.int .u32 (((x.toNat:Int)+(y.toNat:Int))%4294967296)=U32 (x+y):=congrArg _ (bZ x y)
theorem pM (b:B8) (k:Nat):aQ b (k+1)=aQ b k++[if k<16 then be4 b k else kt (aQ b k) k]:=rfl
section
variable {ops:Array Oper} {rest:List Oper} {o:Oper} {a:Act} {Q:Exit->Act->World->Prop} {w:World}
theorem gI (k:o.guard=none) (e:TypeId) (x y:Operand) (C:o.op=.store e x y) (g j:Nat) (E:a.eval x=.pointer (some ⟨g,j,none⟩)) (c:Array Value) (F:a.eval y=.agg c) (z:∀v∈c.toList,v.oneCell'=true)
  (t:TypeId) (b:Array Value) (q:w.heap[g]? = some (.cells b t (0,0))) (B:j+c.size<=b.size) (r:(Tryz.prog.info? e).map (·.size)=some c.size) (new:Array Value) (d:new=(b.toList.take j++c.toList++b.toList.drop (j+c.size)).toArray)
  (h:∀p,p.heap[g]? = some (.cells new t (0,0))->w.grownBy p (some g)->wpList Tryz.prog ops Q rest (a.put o.dst undef) p):wpList Tryz.prog ops Q (o::rest) a w :=
 wpList_plain k fun _ A=>by
  have u:=run_storeCells_at (P:=Tryz.prog) g j t c.toList 0 b w q (by simpa using B) z;have D:(storeVar e ⟨g,j,none⟩ (.agg c)).run Tryz.prog w=.ok () (w.setRow g new):=by
   cases l:Tryz.prog.info? e with
   | none=>simp[l]at r
   | some i =>
    have n:i.size=c.size:=by simpa [l]using r
    simp only[Nat.add_zero,Array.length_toList]at u;rw[d];simp[storeVar,sizeOf,typeInfo,l,Value.cells,n,u]
  unfold Oper.wp execOp;simp only[C,E,F,Instr.storeAt,Instr.sureAddr,Sem.run_bind,Sem.run_pure,Result.andThen_ok,D];exact A _ _ (h _ (setRow_heap _ _ _ _ _ _ q) (aw _ _ _))
end
theorem ij:(Tryz.prog.info? 229).map (·.size)=some 64:=by kernel_rfl
theorem jr:(Tryz.prog.info? 103).map (·.size)=some 8:=by kernel_rfl
theorem uk (l:List UInt32):∀v∈(l.map U32).toArray.toList,v.oneCell'=true:=by
 intro v a;obtain⟨x,-,rfl⟩:=List.mem_map.1 (by simpa using a);rfl
theorem fq (x y:UInt32):Value.int .u32 (IntKind.u32.wrap ((x.toNat:Int)+(y.toNat:Int)))=U32 (x+y):=by
 rw[IntKind.wrap_u32];exact BZ x y
structure Sch (w wr:World) (b:B8) (k:Nat):Prop where
 ext:Ext w wr
 now:wr.heap[w.heap.size+1]? = some (.cells (bH (aQ b k) 64) 229 (0,0))
 res:wr.heap[w.heap.size]? = some (.cells (bH [] 64) 229 (0,0))
variable {wr w2:World} {b:B8} {k:Nat}
theorem Sch.more (h:Sch w wr b k) (a:Ext wr w2):Sch w w2 b k:=⟨h.ext.trans a,Ext.row a h.now,Ext.row a h.res⟩
theorem Sch.put (h:Sch w wr b k) (c:w2.heap[w.heap.size+1]? = some (.cells (bH (aQ b (k+1)) 64) 229 (0,0))) (a:wr.grownBy w2 (some (w.heap.size+1))):Sch w w2 b (k+1) :=
 ⟨Below.grown h.ext a h.ext.size (fun j d=>by cases d;omega),c,(a.block _ (Array.getElem?_eq_some_iff.1 h.res).1 (by simp)).trans h.res⟩
theorem ue (v:Value) (b:B8) (w:World) (hv:IsBytes w v b) (hb:b.length=64) :
  Calls Tryz.prog 177 #[v] w fun e w'=>e=.returned (.agg ((aQ b 64).map U32).toArray)/\Ext w w':=by
 obtain⟨a,b',rfl,h1,h2,h3,h4⟩:=hv.get;have H4:Hid _:=h4;have t:Hid _:=hb;clear h4 hv hb;go_enter Tryz.func177,Tryz.ntmps177;go_wp2_with fail;go_loopw [9] (fun i wr=>∃k:Nat,k<=64/\i=.int .i64 k/\Sch w wr b k) (fun i _=>64 - (intOf i).toNat)
 case atStart=>exact⟨0,by omega,rfl,((Ext.refl _).alloc _).alloc _,by have h9:=iG w (.cells (bH [] 64) 229) (.cells (bH [] 64) 229);exact h9,by have h9:=Ext.row ((Ext.refl _).alloc (.cells (bH [] 64) 229)) (ah w (.cells (bH [] 64) 229));exact h9⟩
 case round =>
  obtain⟨k,g,rfl,hS⟩:=hrel;have P:Hid _:=hS;have D:=ee b k;clear hS
  by_cases a9:k<16
  .obtain ⟨bb,oo,rfl,hc⟩:=H4.out (4*k) (by have:=t.out;omega);have hx:=P.out.ext;have d0:=hx.cell (hc (4*k) (by have:=t.out;omega));have d1:=hx.cell (hc (4*k+1) (by have:=t.out;omega));have d2:=hx.cell (hc (4*k+2) (by have:=t.out;omega));have d3:=hx.cell (hc (4*k+3) (by have:=t.out;omega));obtain⟨y0,au⟩:∃y,b.getD (4*k) 0=y:=⟨_,rfl⟩;obtain⟨y1,av⟩:∃y,b.getD (4*k+1) 0=y:=⟨_,rfl⟩;obtain⟨y2,a0⟩:∃y,b.getD (4*k+2) 0=y:=⟨_,rfl⟩;obtain⟨y3,a1⟩:∃y,b.getD (4*k+3) 0=y:=⟨_,rfl⟩;rw[au]at d0;rw[av]at d1;rw[a0]at d2;rw[a1]at d3;have H:Hid (aQ b (k+1)=aQ b k++[(((y0.toUInt32 <<< 24) ||| (y1.toUInt32 <<< 16)) ||| (y2.toUInt32 <<< 8)) ||| y3.toUInt32]):=by
    unfold Hid;rw[pM,if_pos a9];unfold be4;rw[au,av,a0,a1]
   clear au av a0 a1 hc hx;obtain⟨E,ai⟩:∃x,y0.toUInt32=x:=⟨_,rfl⟩;obtain⟨F,am⟩:∃x,y1.toUInt32=x:=⟨_,rfl⟩;obtain⟨J,q⟩:∃x,y2.toUInt32=x:=⟨_,rfl⟩;obtain⟨x3,ao⟩:∃x,y3.toUInt32=x:=⟨_,rfl⟩;rw[ai,am,q,ao]at H;have bq:Hid _:=ai;have bs:Hid _:=am;have bv:Hid _:=q;have b0:Hid _:=ao;clear ai am q ao;have n0:4*(k:Int)<(b.length:Int):=by have:=t.out;omega
   have n1:4*(k:Int)+1<(b.length:Int):=by have:=t.out;omega
   have n2:4*(k:Int)+2<(b.length:Int):=by have:=t.out;omega
   have n3:4*(k:Int)+3<(b.length:Int):=by have:=t.out;omega
   have W0:Hid (IntKind.i64.wrap (4*(k:Int))=4*(k:Int)/\(4*(k:Int)).toNat=4*k):=⟨IntWalk.i64_in _ (by omega),by omega⟩;have W1:Hid (IntKind.i64.wrap (4*(k:Int)+1)=4*(k:Int)+1/\(4*(k:Int)+1).toNat=4*k+1):=⟨IntWalk.i64_in _ (by omega),by omega⟩;have W2:Hid (IntKind.i64.wrap (4*(k:Int)+2)=4*(k:Int)+2/\(4*(k:Int)+2).toNat=4*k+2):=⟨IntWalk.i64_in _ (by omega),by omega⟩;have W3:Hid (IntKind.i64.wrap (4*(k:Int)+3)=4*(k:Int)+3/\(4*(k:Int)+3).toNat=4*k+3):=⟨IntWalk.i64_in _ (by omega),by omega⟩;go_wp2_with fail;apply ak 35 [_,_,_,_,.pointer (some ⟨bb,oo+4*k,none⟩),.int .u8 y0.toNat,U32 E,U32 (E <<< 24),_,_,_,_,.pointer (some ⟨bb,oo+(4*k+1),none⟩),.int .u8 y1.toNat,U32 F,U32 (F <<< 16),U32 ((E <<< 24) ||| (F <<< 16)),_,_,_,_,.pointer (some ⟨bb,oo+(4*k+2),none⟩),.int .u8 y2.toNat,U32 J,U32 (J <<< 8),U32 (((E <<< 24) ||| (F <<< 16)) ||| (J <<< 8)),_,_,_,_,.pointer (some ⟨bb,oo+(4*k+3),none⟩),.int .u8 y3.toNat,U32 x3,U32 ((((E <<< 24) ||| (F <<< 16)) ||| (J <<< 8)) ||| x3),.pointer (some ⟨w.heap.size+1,k,none⟩)] [none,none,none,none,none,none,none,none,none,none,none,none,none,none,none,none,none,none,none,none,none,none,none,none,none,none,none,none,none,none,none,none,none,none,none] [[],[],[],[2],[1,3],[4],[5],[6],[],[],[9],[10],[8,11],[12],[13],[14],[7,15],[],[],[18],[19],[17,20],[21],[22],[23],[16,24],[],[],[27],[28],[26,29],[30],[31],[25,32],[0]] (by kernel_rfl) (by kernel_rfl) (by simp[aq])
   .trivial
   .simp (maxSteps:=1000000)only[List.take_succ_cons,List.take_zero,ay,aB,af,Act.put,List.setIfInBounds_toArray,List.set_cons_zero,List.set_cons_succ,aE,aH,aq,List.getD_cons_zero,List.getD_cons_succ,and_true,true_and,forall_const];and_intros
    iterate 4 · intro o p h;intros;rename_i c;go_simp;exact c _ _ (Ext.refl _) rfl
    .intro o p h g R c;obtain⟨u,z⟩:=g;go_simp;simp only[W0.out.1];rw[if_pos ⟨by omega,by omega⟩,W0.out.2];exact c _ _ (Ext.refl _) rfl
    .intro o p h g R c;have f0:=h.cell d0;go_simp;exact c _ _ (Ext.refl _) rfl
    .intro o p h g R c;go_simp;exact c _ _ (Ext.refl _) (by rw[<-bq.out];exact fw y0)
    .intro o p h g R c;go_simp;exact c _ _ (Ext.refl _) (BV E)
    iterate 4 · intro o p h;intros;rename_i c;go_simp;exact c _ _ (Ext.refl _) rfl
    .intro o p h g R c;obtain⟨u,z⟩:=g;go_simp;simp only[W0.out.1,W1.out.1];rw[if_pos ⟨by omega,by omega⟩,W1.out.2];exact c _ _ (Ext.refl _) rfl
    .intro o p h g R c;have f1:=h.cell d1;go_simp;exact c _ _ (Ext.refl _) rfl
    .intro o p h g R c;go_simp;exact c _ _ (Ext.refl _) (by rw[<-bs.out];exact fw y1)
    .intro o p h g R c;go_simp;exact c _ _ (Ext.refl _) (BU F)
    .intro o p h g R c;obtain⟨u,z⟩:=g;go_simp;exact c _ _ (Ext.refl _) (kI (E <<< 24) (F <<< 16))
    iterate 4 · intro o p h;intros;rename_i c;go_simp;exact c _ _ (Ext.refl _) rfl
    .intro o p h g R c;obtain⟨u,z⟩:=g;go_simp;simp only[W0.out.1,W2.out.1];rw[if_pos ⟨by omega,by omega⟩,W2.out.2];exact c _ _ (Ext.refl _) rfl
    .intro o p h g R c;have f2:=h.cell d2;go_simp;exact c _ _ (Ext.refl _) rfl
    .intro o p h g R c;go_simp;exact c _ _ (Ext.refl _) (by rw[<-bv.out];exact fw y2)
    .intro o p h g R c;go_simp;exact c _ _ (Ext.refl _) (Ek J)
    .intro o p h g R c;obtain⟨u,z⟩:=g;go_simp;exact c _ _ (Ext.refl _) (kI ((E <<< 24) ||| (F <<< 16)) (J <<< 8))
    iterate 4 · intro o p h;intros;rename_i c;go_simp;exact c _ _ (Ext.refl _) rfl
    .intro o p h g R c;obtain⟨u,z⟩:=g;go_simp;simp only[W0.out.1,W3.out.1];rw[if_pos ⟨by omega,by omega⟩,W3.out.2];exact c _ _ (Ext.refl _) rfl
    .intro o p h g R c;have f3:=h.cell d3;go_simp;exact c _ _ (Ext.refl _) rfl
    .intro o p h g R c;go_simp;exact c _ _ (Ext.refl _) (by rw[<-b0.out];exact fw y3)
    .intro o p h g R c;obtain⟨u,z⟩:=g;go_simp;exact c _ _ (Ext.refl _) (kI (((E <<< 24) ||| (F <<< 16)) ||| (J <<< 8)) x3)
    .intro o p h g R c;go_simp;exact c _ _ (Ext.refl _) rfl
   intro o w2 q g;simp only[aG,Nat.zero_add,Nat.reduceAdd,and_true]at g;simp(maxSteps:=1000000)only[List.take_succ_cons,List.take_zero,List.drop_succ_cons,List.drop_zero,af,Act.put,List.setIfInBounds_toArray,List.set_cons_zero,List.set_cons_succ,Nat.zero_add,Nat.reduceAdd,g];clear g;have G:Hid _:=Sch.more P.out q;have d:=G.out.now;have ag:=iF (l:=aQ b k) (n:=64) (by omega);have A:=p' (l:=aQ b k) (n:=64) ((((E <<< 24) ||| (F <<< 16)) ||| (J <<< 8)) ||| x3) (by omega);rw[<-H.out,D]at A
   go_wp2_with (refine aP rfl 100 (.tmp 48) (.tmp 47) rfl (w.heap.size+1) k rfl (U32 ((((E <<< 24) ||| (F <<< 16)) ||| (J <<< 8)) ||| x3)) rfl rfl _ (bH (aQ b k) 64) d (by omega) hI (bH (aQ b (k+1)) 64) A ?_;intro w3 a7 N)
   have bo:Hid _:=Sch.put G.out a7 N;clear a7 N d ag A;go_roundw
   case rel=>exact⟨k+1,by omega,by go_num,bo.out⟩
   case measure=>simp[intOf];omega
  .by_cases b9:k<64
   .have d:=P.out.now;obtain⟨X,hX⟩:∃x,(aQ b k).getD (k - 15) 0=x:=⟨_,rfl⟩;obtain⟨Y,hY⟩:∃x,(aQ b k).getD (k - 2) 0=x:=⟨_,rfl⟩;obtain⟨A0,hA⟩:∃x,(aQ b k).getD (k - 16) 0=x:=⟨_,rfl⟩;obtain⟨B0,hB⟩:∃x,(aQ b k).getD (k - 7) 0=x:=⟨_,rfl⟩;have a6:=ji d (i:=k - 15) (by omega);have e2:=ji d (i:=k - 2) (by omega);have e16:=ji d (i:=k - 16) (by omega);have e7:=ji d (i:=k - 7) (by omega);rw[hX]at a6;rw[hY]at e2;rw[hA]at e16;rw[hB]at e7;obtain⟨p1,Q⟩:∃x,bg X 25=x:=⟨_,rfl⟩;obtain⟨q1,W⟩:∃x,bg X 14=x:=⟨_,rfl⟩;obtain⟨p2,S⟩:∃x,p1 ^^^ q1=x:=⟨_,rfl⟩;obtain⟨r1,C⟩:∃x,X >>> 3=x:=⟨_,rfl⟩;obtain⟨s1,ab⟩:∃x,p2 ^^^ r1=x:=⟨_,rfl⟩;obtain⟨p3,T⟩:∃x,bg Y 15=x:=⟨_,rfl⟩;obtain⟨q3,Z⟩:∃x,bg Y 13=x:=⟨_,rfl⟩;obtain⟨p4,U⟩:∃x,p3 ^^^ q3=x:=⟨_,rfl⟩;obtain⟨r2,aa⟩:∃x,Y >>> 10=x:=⟨_,rfl⟩;obtain⟨s2,ad⟩:∃x,p4 ^^^ r2=x:=⟨_,rfl⟩;obtain⟨z1,a2⟩:∃x,A0+s1=x:=⟨_,rfl⟩;obtain⟨z2,a3⟩:∃x,z1+B0=x:=⟨_,rfl⟩;obtain⟨z3,a4⟩:∃x,z2+s2=x:=⟨_,rfl⟩;have b1:Hid _:=a2;have b2:Hid _:=a3;have b3:Hid _:=a4;have H:Hid (aQ b (k+1)=aQ b k++[z3]):=by
     unfold Hid;rw[pM,if_neg a9];unfold kt;rw[hX,hY,hA,hB,Q,W,S,C,ab,T,Z,U,aa,ad,a2,a3,a4]
    have f1:bits BinOp.xor IntKind.u32 (p1.toNat:Int) (q1.toNat:Int)=(p2.toNat:Int):=by rw[<-S];exact bd _ _
    have f2:(X.toNat:Int) / 8=(r1.toNat:Int):=by rw[<-C];exact iB X 3 (by decide)
    have f3:bits BinOp.xor IntKind.u32 (p2.toNat:Int) (r1.toNat:Int)=(s1.toNat:Int):=by rw[<-ab];exact bd _ _
    have f4:bits BinOp.xor IntKind.u32 (p3.toNat:Int) (q3.toNat:Int)=(p4.toNat:Int):=by rw[<-U];exact bd _ _
    have f5:(Y.toNat:Int) / 1024=(r2.toNat:Int):=by rw[<-aa];exact iB Y 10 (by decide)
    have f6:bits BinOp.xor IntKind.u32 (p4.toNat:Int) (r2.toNat:Int)=(s2.toNat:Int):=by rw[<-ad];exact bd _ _
    have bh:Hid _:=Q;have bk:Hid _:=W;have bi:Hid _:=T;have bm:Hid _:=Z;have b4:Hid (IntKind.i64.wrap ((k:Int) - 15)=((k - 15:Nat):Int)):=by unfold Hid;rw[IntWalk.i64_in _ (by omega)];omega
    have W2:Hid (IntKind.i64.wrap ((k:Int) - 2)=((k - 2:Nat):Int)):=by unfold Hid;rw[IntWalk.i64_in _ (by omega)];omega
    have b5:Hid (IntKind.i64.wrap ((k:Int) - 16)=((k - 16:Nat):Int)):=by unfold Hid;rw[IntWalk.i64_in _ (by omega)];omega
    have W7:Hid (IntKind.i64.wrap ((k:Int) - 7)=((k - 7:Nat):Int)):=by unfold Hid;rw[IntWalk.i64_in _ (by omega)];omega
    clear hX hY hA hB Q W S C ab T Z U aa ad a2 a3 a4 d;have b8:=b4.out;have w2:=W2.out;have b7:((k - 15:Nat):Int)<64:=by omega
    have n2:((k - 2:Nat):Int)<64:=by omega
    go_upto_region 7 with fail;go_quiet (fail);have q:Ext wr (wr.drewN nq):=Ext.drawn _ _;have G:Hid _:=Sch.more P.out q;clear b8 w2 b7 n2;have g16:=q.cell e16;have g7:=q.cell e7;clear a6 e2 e16 e7 q;go_wp2_with fail;go_at_call 178;refine(FP X _).mono ?_;rw[bh.out];rintro e w3 ⟨rfl,rfl⟩;go_wp2_with fail;go_at_call 178;refine(EX X _).mono ?_;rw[bk.out];rintro e w3 ⟨rfl,rfl⟩;go_wp2_with fail;go_at_call 178;refine(EW Y _).mono ?_;rw[bi.out];rintro e w3 ⟨rfl,rfl⟩;go_wp2_with fail;go_at_call 178;refine(EY Y _).mono ?_;rw[bm.out];rintro e w3 ⟨rfl,rfl⟩;go_wp2_with fail;apply ak 15 [_,_,_,.pointer (some ⟨w.heap.size+1,k - 16,none⟩),U32 A0,_,U32 z1,_,_,.pointer (some ⟨w.heap.size+1,k - 7,none⟩),U32 B0,U32 z2,_,U32 z3,.pointer (some ⟨w.heap.size+1,k,none⟩)] [none,none,none,none,none,none,none,none,none,none,none,none,none,none,none] [[],[],[1],[2],[3],[],[4,5],[],[7],[8],[9],[6,10],[],[11,12],[0]] (by kernel_rfl) (by kernel_rfl) (by simp[aq])
    .trivial
    .simp (maxSteps:=1000000)only[List.take_succ_cons,List.take_zero,ay,aB,af,Act.put,List.setIfInBounds_toArray,List.set_cons_zero,List.set_cons_succ,aE,aH,aq,List.getD_cons_zero,List.getD_cons_succ,and_true,true_and,forall_const];and_intros
     iterate 3 · intro o p h;intros;rename_i c;go_simp;exact c _ _ (Ext.refl _) rfl
     .intro o p h g R c;go_simp;simp only[b5.out];rw[if_pos ⟨by omega,by omega⟩];exact c _ _ (Ext.refl _) rfl
     .intro o p h g R c;have f0:=h.cell g16;go_simp;exact c _ _ (Ext.refl _) rfl
     .intro o p h;intros;rename_i c;go_simp;exact c _ _ (Ext.refl _) rfl
     .intro o p h g R c;obtain⟨u,z⟩:=g;go_simp;exact c _ _ (Ext.refl _) (by rw[<-b1.out];exact fq A0 s1)
     iterate 2 · intro o p h;intros;rename_i c;go_simp;exact c _ _ (Ext.refl _) rfl
     .intro o p h g R c;go_simp;simp only[W7.out];rw[if_pos ⟨by omega,by omega⟩];exact c _ _ (Ext.refl _) rfl
     .intro o p h g R c;have f0:=h.cell g7;go_simp;exact c _ _ (Ext.refl _) rfl
     .intro o p h g R c;obtain⟨u,z⟩:=g;go_simp;exact c _ _ (Ext.refl _) (by rw[<-b2.out];exact fq z1 B0)
     .intro o p h;intros;rename_i c;go_simp;exact c _ _ (Ext.refl _) rfl
     .intro o p h g R c;obtain⟨u,z⟩:=g;go_simp;exact c _ _ (Ext.refl _) (by rw[<-b3.out];exact fq z2 s2)
     .intro o p h g R c;go_simp;exact c _ _ (Ext.refl _) rfl
    intro o w4 bc g;simp only[aG,Nat.zero_add,Nat.reduceAdd,and_true]at g;simp(maxSteps:=1000000)only[List.take_succ_cons,List.take_zero,List.drop_succ_cons,List.drop_zero,af,Act.put,List.setIfInBounds_toArray,List.set_cons_zero,List.set_cons_succ,Nat.zero_add,Nat.reduceAdd,g];clear g;have a5:Hid _:=Sch.more G.out bc;have d:=a5.out.now;have ag:=iF (l:=aQ b k) (n:=64) (by omega);have A:=p' (l:=aQ b k) (n:=64) z3 (by omega);rw[<-H.out,D]at A;clear f1 f2 f3 f4 f5 f6 g16 g7 bc
    go_wp2_with (refine aP rfl 100 (.tmp 87) (.tmp 86) rfl (w.heap.size+1) k rfl (U32 z3) rfl rfl _ (bH (aQ b k) 64) d (by omega) hI (bH (aQ b (k+1)) 64) A ?_;intro w5 I B)
    have bp:Hid _:=Sch.put a5.out I B;clear I B d ag A;go_roundw
    case rel=>exact⟨k+1,by omega,by go_num,bp.out⟩
    case measure=>simp[intOf];omega
   .have b6:k=64:=by omega
    subst b6;have d:=P.out.now;have ba:=P.out.res;have L:=P.out.ext;have M:=uX (n:=64) D;rw[M]at d;have r:((aQ b 64).map U32).toArray.size=64:=by simp[D]
    obtain⟨V,hV⟩:∃V,((aQ b 64).map U32).toArray=V:=⟨_,rfl⟩;have O:=uk (aQ b 64);rw[hV]at d r O;have HV:Hid _:=hV;have a':(bH [] 64).size=64:=iF (Nat.zero_le _);have C:(bH [] 64).toList.drop (0+V.size)=[]:=by rw[r];exact List.drop_eq_nil_of_le (by rw[Array.length_toList,a'];omega)
    have K:Hid _:=L;clear D M hV L
    go_wp2_with (first
     | (refine wpList_load_row rfl 229 (.tmp 3) rfl (w.heap.size+1) rfl 229 V (0,0) _ d Tryz.underlying229 rfl (by rw[r];exact ij) ?_)
     | (refine gI rfl 229 (.tmp 2) (.tmp 89) rfl w.heap.size 0 rfl V rfl O _ (bH [] 64) ba (by rw[r,a'];omega) (by rw[r];exact ij) V (by rw[C];simp) ?_;intro w5 I B))
    refine bodyPost_ret (results_cell_row rfl _ _ w.heap.size 229 V (0,0) _ rfl I Tryz.underlying229 rfl (by rw[r];exact ij)) rfl ?_;rw[HV.out];exact⟨rfl,Below.grown K.out B (K.out).size (fun j hj=>by cases hj;omega)⟩
end
end Go.Proofs.YtgfegpnmlkdjfaaGreatDoor
