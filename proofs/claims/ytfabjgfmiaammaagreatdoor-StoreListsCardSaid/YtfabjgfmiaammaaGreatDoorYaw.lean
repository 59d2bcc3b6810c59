/- Contracts of the program's functions and plain laws behind the card. Conditions: as each theorem states. -/
import Derived.Test.YtfabjgfmiaammaaGreatDoorYau
import Derived.Defers
import Derived.Laws.Pointers
import Derived.Laws.LoneSync
import Derived.RegionCalls
import Derived.ChangeAlike
import Derived.Laws.NewBlocks
import Derived.Test.YtfabjgfmiaammaaGreatDoorYap
import Derived.Test.YtfabjgfmiaammaaGreatDoorYam
import Derived.Test.YtfabjgfmiaammaaGreatDoorYal
import Derived.Test.YtfabjgfmiaammaaGreatDoorYah
import Derived.Deep.Upon
import Derived.OwnWalk
import Derived.BigQuiet
import Derived.Deep.DeepCutAuto
set_option linter.unusedVariables false
set_option linter.unusedSimpArgs false
set_option linter.unusedSectionVars false
set_option maxRecDepth 100000
set_option maxHeartbeats 64000000
namespace Go.Proofs.YtfabjgfmiaammaaGreatDoor
section
open Go Go.RowKit
theorem mq (w:World):(callFunc 245 #[]).run Tryz.prog w=.ok (.value (.tuple #[])) w:=run_call_mark0 Tryz.func245 (by kernel_rfl) (by kernel_rfl) (by kernel_rfl) .disable (by kernel_rfl) w
theorem nM (w:World):(callFunc 247 #[]).run Tryz.prog w=.ok (.value (.tuple #[])) w:=run_call_mark0 Tryz.func247 (by kernel_rfl) (by kernel_rfl) (by kernel_rfl) .enable (by kernel_rfl) w
theorem r7 (a:Addr) (w:World):(callFunc 248 #[.pointer (some a)]).run Tryz.prog w=.ok (.value (.tuple #[])) w:=run_call_marked Tryz.func248 (by kernel_rfl) (by kernel_rfl) (by kernel_rfl) .acquire (by kernel_rfl) a w
theorem sR (a:Addr) (w:World):(callFunc 250 #[.pointer (some a)]).run Tryz.prog w=.ok (.value (.tuple #[])) w:=run_call_marked Tryz.func250 (by kernel_rfl) (by kernel_rfl) (by kernel_rfl) .releaseMerge (by kernel_rfl) a w
theorem jH (a:Addr) (x:Value) (u:FrameMode) (w:World) (i:w.cell? a=some x) (j:w.frozen? a=false) :
  CallsD Tryz.prog 228 #[.pointer (some a),.bool true] u w fun e g h=>g=u/\(e=.returned (.tuple #[])/\h=w.drew.setCell a (.int .u32 1)):=by
 have b:w.drew.cell? a=some x:=by go_simp
 have c:w.drew.frozen? a=false:=by go_simp
 have d:=run_call_store (P:=Tryz.prog) Tryz.func240 (by kernel_rfl) (by kernel_rfl) (by kernel_rfl) (by kernel_rfl) (k:=.u32) (y:=1) b c
 go_enter_d Tryz.func228,Tryz.ntmps228
 go_wp2
 go_region_calls
 all_goals (go_end0;exact⟨rfl,rfl⟩)
theorem jL (a:Addr) (u:FrameMode) (w:World) (c:w.cell? a=some (.int .i32 1)) (g:w.frozen? a=false) :
  CallsD Tryz.prog 227 #[.pointer (some a)] u w fun e h i=>h=u/\(e=.returned (.tuple #[])/\i=w.setCell a (.int .i32 0)):=by
 have j:=mq;have k:=nM;have l:=sR;have b:=run_call_add (P:=Tryz.prog) Tryz.func251 (by kernel_rfl) (by kernel_rfl) (by kernel_rfl) .i32 (by kernel_rfl) (y:=-1) (s:=0) c g (by simp[go_sem];rfl);have d:=run_convert_to_unsafe (P:=Tryz.prog) (src:=271) (dst:=275) Tryz.underlying271 Tryz.underlying275 (by kernel_rfl) c
 go_enter_d Tryz.func227,Tryz.ntmps227
 go_wp2
 go_end0
 go_wp2
 go_end0
 exact⟨rfl,rfl⟩
theorem pJ (a:Addr) (w:World) (c:w.cell? a=some (.int .i32 0)) (h:w.frozen? a=false) :
  Calls Tryz.prog 226 #[.pointer (some a)] w fun e i=>e=.returned (.tuple #[])/\i=w.setCell a (.int .i32 1):=by
 have k:=mq;have l:=nM;have j:=r7;have d:=run_call_cas_hit (P:=Tryz.prog) Tryz.func246 (by kernel_rfl) (by kernel_rfl) (by kernel_rfl) .i32 (by kernel_rfl) (y:=1) c h;have b:(w.setCell a (.int .i32 1)).cell? a=some (.int .i32 1):=World.cell?_setCell_same w a _ c;have g:=run_convert_to_unsafe (P:=Tryz.prog) (src:=271) (dst:=275) Tryz.underlying271 Tryz.underlying275 (by kernel_rfl) b;go_enter Tryz.func226,Tryz.ntmps226;go_wp2
 first | go_end0 | (simp only[Exit.inBlock,Exit.then];refine bodyPost_ret (results_none rfl _ _ _) rfl ?_) | refine bodyPost_ret (results_none rfl _ _ _) rfl ?_
 go_wp2
 go_end0
 exact⟨rfl,rfl⟩
structure EnvS (w:World):Prop where
 sq:∃fr,w.heap[0]? = some (.cells (dp.map U32).toArray 216 fr)
 cu:∃fr,w.heap[1]? = some (.cells (dQ.map U32).toArray 217 fr)
variable {w w':World}
theorem EnvS.fr {O:Nat->Prop} (h:EnvS w) (b:Fr O w w') (c:∀k,O k->2<=k):EnvS w':=by
 obtain⟨d,g⟩:=h.sq;obtain⟨e,i⟩:=h.cu;exact⟨⟨d,b.row g (fun a=>by have:=c _ a;revert this;decide)⟩,⟨e,b.row i (fun a=>by have:=c _ a;revert this;decide)⟩⟩
theorem EnvS.ext (h:EnvS w) (b:Ext w w'):EnvS w':=h.fr (O:=fun _=>False) (Fr.BX b) (fun _ a=>a.elim)
theorem EnvS.two (h:EnvS w):2<=w.heap.size:=by
 obtain⟨d,b⟩:=h.cu;obtain⟨c,a⟩:=h.sq;have g:=(Array.getElem?_eq_some_iff.1 b).1;have e:=(Array.getElem?_eq_some_iff.1 a).1;omega
def cT (d m s:Int):List Value:=[.int .u32 d,.int .i32 m,.int .u32 s]
def bU (o X:List Value):Array Value:=(o++X).toArray
theorem yb (b:Nat) (o X:List Value) (w:World) (B:o.length=3) (K:X.length=72) (E:EnvS w) (Y:2<=b) (L:w.heap[b]? = some (.cells (bU o X) 219 (0,0))) :
  Calls Tryz.prog 181 #[.pointer (some ⟨b,0,none⟩)] w fun e w'=>e=.returned (.tuple #[])/\w'.heap[b]? = some (.cells (eb o) 219 (0,0))/\Fr (fun k=>k=b) w w':=by
 obtain⟨R,I⟩:=E.sq;obtain⟨S,J⟩:=E.cu;have i:(dp.map U32).toArray.size=8:=by simp;rfl
 have g:(dQ.map U32).toArray.size=64:=by simp;rfl
 have l:∀v∈(dp.map U32).toArray.toList,v.oneCell'=true:=by intro v A;simp only[List.toList_toArray,List.mem_map]at A;obtain⟨x,-,rfl⟩:=A;rfl
 have d:∀v∈(dQ.map U32).toArray.toList,v.oneCell'=true:=by intro v A;simp only[List.toList_toArray,List.mem_map]at A;obtain⟨x,-,rfl⟩:=A;rfl
 generalize q:(dp.map U32).toArray=c at I i l;generalize n:(dQ.map U32).toArray=a at J g d;have V:(bU o X).size=75:=by unfold bU;simp[B,K]
 have N:(bU o (c.toList++X.drop 8)).size=75:=by unfold bU;simp[B,K,i]
 have U:c.toList.length=8:=by rw[Array.length_toList];exact i
 have M:a.toList.length=64:=by rw[Array.length_toList];exact g
 have y:bU o (c.toList++X.drop 8)=((bU o X).toList.take 3++c.toList++(bU o X).toList.drop (3+c.size)).toArray:=by
  unfold bU;simp only[List.toList_toArray];have F:(o++X).drop (3+c.size)=X.drop 8:=by
   have G:o.drop (3+8)=[]:=List.drop_eq_nil_of_le (by omega);rw[i,List.drop_append,G,List.nil_append,B]
  rw[List.take_left' B,F,List.append_assoc]
 have z:eb o=((bU o (c.toList++X.drop 8)).toList.take 11++a.toList++(bU o (c.toList++X.drop 8)).toList.drop (11+a.size)).toArray:=by
  have T:eb o=(o++(c.toList++a.toList)).toArray:=by rw[<-q,<-n];rfl
  rw[T];unfold bU;simp only[List.toList_toArray];have F:(o++(c.toList++X.drop 8)).drop (11+a.size)=[]:=List.drop_eq_nil_of_le (by rw[List.length_append,List.length_append,List.length_drop];omega);have W:(o++(c.toList++X.drop 8)).take 11=o++c.toList:=by rw[<-List.append_assoc];exact List.take_left' (by rw[List.length_append];omega)
  rw[F,W,List.append_nil,List.append_assoc]
 have C:Hid _:=y;have D:Hid _:=z;clear y z q n E;go_enter Tryz.func181,Tryz.ntmps181
 go_wp2_with (first
  | (refine wpList_load_row rfl 216 _ rfl 0 rfl 216 c R _ I Tryz.underlying216 rfl (by rw[i];exact iV) ?_)
  | (refine wpList_load_row rfl 217 _ rfl 1 rfl 217 a S _ J Tryz.underlying217 rfl (by rw[g];exact gU) ?_)
  | (refine gn rfl 216 _ _ rfl b 3 rfl c rfl l _ (bU o X) L (by omega) (by rw[i];exact iV) _ C.out ?_;intro Z r t)
  | (refine gn rfl 217 _ _ rfl b 11 rfl a rfl d _ (bU o (c.toList++X.drop 8)) r (by omega) (by rw[g];exact gU) _ D.out ?_;intro w3 H u))
 go_end0
 have O:∀ {P:World} {Q:Array Value},P.heap[b]? = some (.cells Q 219 (0,0))->¬IsU8 P b:=fun h=>aw h (by kernel_rfl)
 exact⟨rfl,H,((Fr.refl _ w).step t (fun j p=>by cases p;exact .inl rfl) (by rintro j p;cases p;exact O L)).step u (fun j p=>by cases p;exact .inl rfl) (by rintro j p;cases p;exact O r)⟩
variable {b j:Nat} {X:List Value} {v:Value}
theorem li {o:List Value} (a:w.heap[b]? = some (.cells (bU o X) 219 (0,0))) (c:(o++X)[j]? = some v):w.cell? ⟨b,j,none⟩=some v :=
 (cell_of_row _ _ j _ _ _ a).trans (by unfold bU;simpa using c)
variable {cs:Array Value}
theorem ut (a:w.heap[b]? = some (.cells cs 219 (0,0))):w.frozen? ⟨b,j,none⟩=false:=by simp[World.frozen?,a]
variable {d m s x:Int}
theorem AT (a:w.heap[b]? = some (.cells (bU (cT d m s) X) 219 (0,0))):(w.setCell ⟨b,0,none⟩ (.int .u32 x)).heap[b]? = some (.cells (bU (cT x m s) X) 219 (0,0)):=by
 rw[heap_setCell_same w b 0 _ _ _ a];simp[bU,cT]
theorem vJ (a:w.heap[b]? = some (.cells (bU (cT d m s) X) 219 (0,0))):(w.setCell ⟨b,1,none⟩ (.int .i32 x)).heap[b]? = some (.cells (bU (cT d x s) X) 219 (0,0)):=by
 rw[heap_setCell_same w b 1 _ _ _ a];simp[bU,cT]
theorem xU (e:w.heap[b]? = some (.cells cs 219 (0,0))) {O:Nat->Prop} {c:World} (h:Fr O c w) (d:O b):Fr O c (w.setCell ⟨b,j,none⟩ v) :=
 h.step (aH w b j v) (fun k a=>by cases a;exact .inl d) (by rintro k a;cases a;exact aw e (by kernel_rfl))
theorem jC (a:Addr) (x:Int) (y:Bool) (w:World) (b:w.cell? a=some (.int .u32 x)) (c:(x != 0)=y) :
  Calls Tryz.prog 185 #[.pointer (some a)] w fun e w'=>e=.returned (.bool y)/\w'=w:=by
 have g:=run_call_load (P:=Tryz.prog) Tryz.func225 (by kernel_rfl) (by kernel_rfl) (by kernel_rfl) .u32 (by kernel_rfl) b;go_enter Tryz.func185,Tryz.ntmps185;go_wp2;go_ret;exact⟨by first | rfl | rw[c],rfl⟩
theorem xj (b:Nat) (s:Int) (X:List Value) (w:World) (G:X.length=72) (D:EnvS w) (E:2<=b) (p:w.heap[b]? = some (.cells (bU (cT 0 0 s) X) 219 (0,0))) :
  Calls Tryz.prog 186 #[.pointer (some ⟨b,0,none⟩),.func (.func 181) #[.pointer (some ⟨b,0,none⟩)] #[]] w fun e w'=>e=.returned (.tuple #[])/\w'.heap[b]? = some (.cells (eb (cT 1 0 s)) 219 (0,0))/\Fr (fun k=>k=b) w w':=by
 have n:=vJ (x:=1) p;have h:Fr (fun k=>k=b) w (w.setCell ⟨b,1,none⟩ (.int .i32 1)):=xU p (Fr.refl _ w) rfl;have l:EnvS (w.setCell ⟨b,1,none⟩ (.int .i32 1)):=D.fr h (fun k A=>by subst A;exact E);have F:∀(x:Bool) (w:World),(Op.unary .not (.bool x)).run Tryz.prog w=.ok (.bool (!x)) w:=fun _ _=>rfl
 have i:Hid _:=n;have t:Hid _:=h;have C:Hid _:=p;have r:Hid (EnvS (w.setCell ⟨b,1,none⟩ (.int .i32 1))):=l;clear n h D l p
 go_enter_defers Tryz.func186,Tryz.ntmps186
 go_wp2_with (first | (go_at_call 226;go_must (refine(pJ ⟨b,1,none⟩ w (li C.out rfl) (ut C.out)).mono ?_;rintro e w' ⟨rfl,rfl⟩)) | (go_at_call 185;go_must (refine(jC ⟨b,0,none⟩ 0 false _ (li i.out rfl) rfl).mono ?_;rintro e w' ⟨rfl,rfl⟩)) | (go_at_call 181;go_must (refine(yb b (cT 0 1 s) X _ rfl G r.out E i.out).mono ?_;rintro e q ⟨rfl,o,u⟩)))
 have g:q.heap[b]? = some (.cells (bU (cT 0 1 s) (dp.map U32++dQ.map U32)) 219 (0,0)):=o;have c:q.drew.heap[b]? = some (.cells (bU (cT 0 1 s) (dp.map U32++dQ.map U32)) 219 (0,0)):=o;have a:=AT (x:=1) c;have z:=vJ (x:=0) a;have y:Fr (fun k=>k=b) w (((q.drew.setCell ⟨b,0,none⟩ (.int .u32 1))).setCell ⟨b,1,none⟩ (.int .i32 0)):=xU a (xU c ((t.out.trans (u.mono (fun k A=>.inl A))).ext (Ext.refl _).drew) rfl) rfl;refine leaves_cons (f:=228) (args:=#[.pointer (some ⟨b,0,none⟩),.bool true]) (by simp) (by simp[go_sem]) ?_;refine(jH ⟨b,0,none⟩ (.int .u32 0) .returning q (li g rfl) (ut g)).mono ?_;rintro e H B ⟨rfl,rfl,rfl⟩;refine leaves_cons (f:=227) (args:=#[.pointer (some ⟨b,1,none⟩)]) (by simp[Go.settle]) (by simp[go_sem]) ?_;refine(jL ⟨b,1,none⟩ _ _ (li a rfl) (ut a)).mono ?_;rintro e H B ⟨rfl,rfl,rfl⟩;simp[Leaves,Go.settle,results,Tryz.results186];exact⟨z,y⟩
theorem z' (b:Nat) (s:Int) (X:List Value) (w:World) (o:X.length=72) (h:EnvS w) (p:2<=b) (i:w.heap[b]? = some (.cells (bU (cT 0 0 s) X) 219 (0,0))) :
  Calls Tryz.prog 129 #[.pointer (some ⟨b,0,none⟩),.func (.func 181) #[.pointer (some ⟨b,0,none⟩)] #[]] w fun e w'=>e=.returned (.tuple #[])/\w'.heap[b]? = some (.cells (eb (cT 1 0 s)) 219 (0,0))/\Fr (fun k=>k=b) w w':=by
 have l:∀(x:Bool) (w:World),(Op.unary .not (.bool x)).run Tryz.prog w=.ok (.bool (!x)) w:=fun _ _=>rfl
 have g:Hid _:=i;have n:Hid (EnvS w):=h;clear i h;go_enter Tryz.func129,Tryz.ntmps129
 go_wp2_with (first | (go_at_call 185;go_must (refine(jC ⟨b,0,none⟩ 0 false _ (li g.out rfl) rfl).mono ?_;rintro e w' ⟨rfl,rfl⟩)) | (go_at_call 186;go_must (refine(xj b s X _ o n.out p g.out).mono ?_;rintro e q ⟨rfl,c,a⟩)))
 go_end0
 exact⟨rfl,c,a⟩
end
section
open Go Go.RowKit
theorem Bi:Tryz.zeroCells219=bU (cT 0 0 0) (List.replicate 72 (.int .u32 0)):=by first | rfl | kernel_rfl
def zX:List Value:=List.replicate 72 (.int .u32 0)
theorem Au (w:World) (S:EnvS w):Calls Tryz.prog 123 #[] w fun e V=>(∃I H:Nat,e=.returned (.pointer (some ⟨I,0,none⟩))/\I≠H/\w.heap.size<=I/\w.heap.size<=H/\V.heap[H]? = some (.cells (eb (cT 1 0 0)) 219 (0,0))/\V.heap[I]? = some (.cells (bm H dp (.slice none 0 0) (0:Nat)) 221 (0,0)))/\Ext w V:=by
 obtain⟨j,h⟩:∃j,j=w.alloc (.cells (bU (cT 0 0 0) zX) 219):=⟨_,rfl⟩;have l:Ext w j:=by rw[h];exact(Ext.refl _).alloc _
 have u:j.heap[w.heap.size]? = some (.cells (bU (cT 0 0 0) zX) 219 (0,0)):=by rw[h];exact ae _ _
 have r:EnvS j:=S.ext l;have Z:=S.two;have L:Hid _:=u;have K:Hid (EnvS j):=r;have Q:Hid (Ext w j):=l;have O:Hid _:=h;clear u r l h S;have aa:∀(W:Fn) (first q:Array Value) (w:World),(Instr.makeFunc W first q).run Tryz.prog w=.ok (.func W first q) w:=fun _ _ _ _=>rfl
 go_enter Tryz.func123,Tryz.ntmps123;go_upto_region 2 with fail;rw[show w.alloc (.cells Tryz.zeroCells219 219)=j from(congrArg (fun c=>w.alloc (.cells c 219)) Bi).trans O.out.symm];generalize Tryz.zeroCells219=zc;go_upto_region 3 with(go_at_call 129;go_must (refine(z' w.heap.size 0 zX j rfl K.out Z L.out).mono ?_;rintro e b ⟨rfl,g,t⟩));have n:Ext w b:=Ext.Cb Q.out t (fun k J=>by cases J;exact Nat.le_refl _);obtain⟨z,A,B,C,D,E,F,G,T⟩:=gY (show dp.length=8 from rfl);have J:eb (cT 1 0 0)=(cT 1 0 0++([z,A,B,C,D,E,F,G].map U32++dQ.map U32)).toArray:=by unfold eb;rw[T]
 have a:=g;rw[J]at a;have c1:b.cell? ⟨w.heap.size,3,none⟩=some (U32 z):=(cell_of_row _ _ 3 _ _ _ a).trans rfl;have c2:b.cell? ⟨w.heap.size,4,none⟩=some (U32 A):=(cell_of_row _ _ 4 _ _ _ a).trans rfl;have c3:b.cell? ⟨w.heap.size,5,none⟩=some (U32 B):=(cell_of_row _ _ 5 _ _ _ a).trans rfl;have c4:b.cell? ⟨w.heap.size,6,none⟩=some (U32 C):=(cell_of_row _ _ 6 _ _ _ a).trans rfl;have c5:b.cell? ⟨w.heap.size,7,none⟩=some (U32 D):=(cell_of_row _ _ 7 _ _ _ a).trans rfl;have c6:b.cell? ⟨w.heap.size,8,none⟩=some (U32 E):=(cell_of_row _ _ 8 _ _ _ a).trans rfl;have c7:b.cell? ⟨w.heap.size,9,none⟩=some (U32 F):=(cell_of_row _ _ 9 _ _ _ a).trans rfl;have c8:b.cell? ⟨w.heap.size,10,none⟩=some (U32 G):=(cell_of_row _ _ 10 _ _ _ a).trans rfl;have X:=(Array.getElem?_eq_some_iff.1 g).1;obtain⟨o,i⟩:∃o,o=b.alloc (.cells (bm w.heap.size [z,A,B,C,D,E,F,G] (.slice none 0 0) (0:Nat)) 221):=⟨_,rfl⟩;have y:Ext b o:=by rw[i];exact(Ext.refl _).alloc _
 have x:o.heap[b.heap.size]? = some (.cells (bm w.heap.size [z,A,B,C,D,E,F,G] (.slice none 0 0) (0:Nat)) 221 (0,0)):=by rw[i];exact ae _ _
 have R:Hid (Ext w b):=n;have p:Hid (Ext b o):=y;have N:Hid _:=x;have P:Hid _:=i;have M:Hid _:=g;have Y:Hid _:=T;have U:=n.size;clear g a J t T n y x i;go_wp2_with fail;go_ret;rw[Y.out];have d:b.alloc (.cells (bm w.heap.size [z,A,B,C,D,E,F,G] (.slice none 0 0) (0:Nat)) 221)=o:=P.out.symm;refine⟨⟨b.heap.size,w.heap.size,rfl,by omega,U,Nat.le_refl _,?_,?_⟩,?_⟩
 .exact d▸Ext.row p.out M.out
 .exact d▸N.out
 .exact d▸R.out.trans p.out
theorem rY (h:List UInt32) (l:B8):(be h l).2.length<64:=by
 induction h,l using be.induct with
 | case1 h l a b=>rw[be,if_pos a];exact b
 | case2 h l a=>rw[be,if_neg a];show l.length<64;omega
theorem AH (v:Value) (l:B8) (w:World) (Y:EnvS w) (V:IsBytes w v l) (hl:l.length<=10000000) :
  Calls Tryz.prog 56 #[v] w fun e w'=>(∃v',e=.returned v'/\w'.ownsRow w.heap.size 5 1 v' 32 ((fW l).map fun x=>.int .u8 x.toNat))/\Ext w w':=by
 have HE:Hid (EnvS w):=Y;have HV:Hid (IsBytes w v l):=V;obtain⟨a,t,rfl,h1,h2,h3,X⟩:=V.get;have q:∀(k:Nat),w.heap.size<=k->∀i,Out (fun j=>j=k) i (.slice a l.length t):=by
  intro k hk i a' n' c' Z ad;simp only[Value.slice.injEq]at Z;obtain⟨rfl,rfl,rfl⟩:=Z;obtain⟨b,o,u,hc⟩:=X 0 (by omega);cases u;have T:=World.block_lt_of_cell? _ _ (hc 0 (by omega));exact .inl (fun h=>by dsimp only at h T;omega)
 have E:Hid (∀(k:Nat),w.heap.size<=k->∀i,Out (fun j=>j=k) i (.slice a l.length t)):=q;clear X q V Y;go_enter Tryz.func56,Tryz.ntmps56;go_upto_region 2 with(go_at_call 123;go_must (refine(Au w HE.out).mono ?_;rintro e i ⟨⟨u,O,rfl,L,I,aa,J,K⟩,M⟩));have B:Hid _:=J;have R:Hid _:=K;have H:Hid (Ext w i):=M;clear J K M;go_upto_region 3 with(go_at_call 124;go_must (refine(qi u O dp (.slice none 0 0) (.slice a l.length t) [] l 0 (cT 1 0 0) i rfl rfl L (by omega) R.out B.out (IsBytes.nil _) (TypB.nil _ _ _) (HV.out.ext H.out) (E.out u I i) (by simp) hl).mono ?_;rintro e N ⟨rfl,g,A,Q,c,d⟩));rw[List.nil_append]at c d;have z:Ext w N:=Ext.Cb H.out c.fr (fun k hk=>by cases hk;exact I);have n:=c.fr.row B.out (fun h=>L h.symm);have p:N.heap[u]? = some (.cells (bm O g A (l.length:Nat)) 221 (0,0)):=by
  have P:=c.cells
  rwa [show(((0:Nat):Int)+(l.length:Int))=((l.length:Nat):Int)by omega]at P
 have au:Q.length<64:=by
  have P:=rY dp l;rw[<-d]at P;exact P
 have r:fW l=(be g (Q++iC l.length)).1.flatMap eu:=by unfold fW;rw[<-d]
 have S:Hid (Ext w N):=z;have G:Hid (Wr i N u O (be dp l) (((0:Nat):Int)+l.length) g A Q):=c;have C:Hid _:=n;have D:Hid _:=p;have F:Hid _:=r;have U:=z.size;clear z n p r c d
 go_wp2_with (go_at_call 125;go_must (refine(zf u O g A Q l.length (cT 1 0 0) N G.out.BY rfl hl D.out C.out G.out.bytes (by omega)).mono ?_;rintro e w3 ⟨⟨v3,rfl,y⟩,W⟩))
 go_ret;rw[F.out];exact⟨⟨_,rfl,jj y U⟩,S.out.trans W⟩
theorem Bv (l:B8) {w:World} {a:Nat} {v:Value} (h:w.ownsRow a 5 1 v 32 ((fW l).map fun x=>.int .u8 x.toNat)):(fW l).length=32:=by
 have b:=h.1;simpa using b
theorem vS (v:Value) (l:B8) (w:World) (h:EnvS w) (i:IsBytes w v l) (p:l.length<=10000000) :
  Calls Tryz.prog 21 #[v] w fun e q=>e=.returned (S8 (aR l))/\Ext w q:=by
 have n:Hid (EnvS w):=h;have o:Hid (IsBytes w v l):=i;clear i h;go_enter Tryz.func21,Tryz.ntmps21
 go_wp2_with (first
  | (go_at_call 56;go_must (refine(AH v l w n.out o.out p).mono ?_;rintro e k ⟨⟨j,rfl,a⟩,d⟩;have b:=Bv l a;have c:IsBytes k j (fW l):=by unfold IsBytes;rw[b];exact Row.BV a (by omega)))
  | (go_at_call 55;go_must (refine(tB j (fW l) k c (by omega)).mono ?_;rintro e r ⟨rfl,g⟩)))
 go_ret;exact⟨rfl,d.trans g⟩
end
section
open Go Go.RowKit
variable [Inhabited bf]
variable {w:World} {v:Value} {L:List Ev}
theorem ReadO.Dk (h:ReadO w IsEvD v L) (g:Ext cy w):km w v L:=by
 obtain⟨a,b,_,d⟩:=h;exact⟨a,b,d.imp (fun c x e=>e.read g)⟩
theorem ReadO.C0 {p:List Value->Ev->Prop} {w':World} (h:ReadO w p v L) (a:Ext w w'):ReadO w' p v L:=h.stay a.size (fun c k b=>a.block k (h.lt c k b))
theorem ReadO.DI (h:ReadO w IsEvI v L) (n:∀e∈L,e.path.length<=400):ReadO w IsEvD v L:=by
 obtain⟨a,d,g,j,k⟩:=h;exact⟨a,d,g,j,fun i c x l b=>(k i c x l b).up (n x (List.mem_of_getElem? b))⟩
def IsOpn (w:World) (cs:List Value) (o:Opn):Prop:=∃a b,cs=[.int .i64 o.kind,.int .i64 o.mode,.int .i64 o.keep,.int .i64 o.BW,S8 o.path,S8 o.dest,a,b]/\OldB a o.data/\ReadO w IsEvI b o.plan
def evW (n:Nat) (e:Ev):Nat:=min (n+min e.data.length 40000+min e.path.length 1000) 160000
def gW (a:List Ev):Bool:=decide (a.length<=60) && (a.all (fun e=>decide (e.path.length<=400)) && decide (a.foldl evW 0<=40000))
variable {k:Nat} {e:Ev}
theorem xV {l:List Ev} (h:l[k]? = some e):(l.take (k+1)).foldl evW 0=evW ((l.take k).foldl evW 0) e:=by
 have b:=(List.getElem?_eq_some_iff.1 h);obtain⟨a,rfl⟩:=b;rw[List.take_succ_eq_append_getElem a,List.foldl_append];rfl
theorem xY {l:List Ev} (h:l[k]? = some e) (b:(l.take k).all (fun e=>decide (e.path.length<=400))=true) (c:e.path.length<=400):(l.take (k+1)).all (fun e=>decide (e.path.length<=400))=true:=by
 obtain⟨a,rfl⟩:=(List.getElem?_eq_some_iff.1 h);rw[List.take_succ_eq_append_getElem a];simp only[List.all_append,b,List.all_cons,List.all_nil,Bool.and_true,Bool.true_and,decide_eq_true_eq];exact c
theorem AV {l:List Ev} (h:l[k]? = some e) (a:¬e.path.length<=400):gW l=false:=by
 have:l.all (fun e=>decide (e.path.length<=400))=false:=by
  rw[List.all_eq_false];exact⟨e,List.mem_of_getElem? h,by simpa using a⟩
 unfold gW;rw[this];simp
theorem ql {l:List Ev} (hv:ReadO w IsEvI v l) :
  Calls Tryz.prog 80 #[v] w fun e w'=>e=.returned (.bool (gW l))/\Ext w w':=by
 obtain⟨a,ad,rfl,h1,h2,h3,u⟩:=jE 7 (fun c x I=>I.length.1) (by omega) hv;have H4:Hid _:=u;clear u hv;go_enter Tryz.func80,Tryz.ntmps80;go_wp2;go_loopw [3,4] (fun n i wr=>∃k m:Nat,Ext w wr/\k<=l.length/\k<=60/\i=.int .i64 k/\n=.int .i64 m/\m<=160000/\(l.take k).foldl evW 0=m/\(l.take k).all (fun e=>decide (e.path.length<=400))=true) (fun _ i _=>l.length - (intOf i).toNat)
 case atStart=>exact⟨0,0,Ext.refl _,Nat.zero_le _,by omega,rfl,rfl,by omega,rfl,rfl⟩
 case round =>
  obtain⟨k,m,I,p,T,rfl,rfl,hm,h,g⟩:=hrel;have J:Hid _:=I;have Y:Hid _:=h;have X:Hid _:=g;clear h g
  by_cases U:k<l.length
  .by_cases au:k<60
   .obtain ⟨E,R⟩:∃e,l[k]? = some e:=⟨_,List.getElem?_eq_getElem U⟩;obtain⟨b,o,cs,rfl,S,P⟩:=H4.out k E R;obtain⟨vd,rfl,Q⟩:=S;obtain⟨s1,s2,rfl,-⟩:=id Q.bytes;have A:=I.cell (P 5 _ rfl);have B:=I.cell (P 6 _ rfl);have M:Hid _:=R;have a0:=Q.bytes.len;obtain⟨j,C⟩:∃j,min E.data.length 40000=j:=⟨_,rfl⟩;obtain⟨r,G⟩:∃r,min E.path.length 1000=r:=⟨_,rfl⟩;obtain⟨q,F⟩:∃q,min (m+j+r) 160000=q:=⟨_,rfl⟩;have a1:min (E.data.length:Int) 40000=(j:Int):=by omega
    have a3:min (E.path.length:Int) 1000=(r:Int):=by omega
    have a2:min ((m:Int)+j+r) 160000=(q:Int):=by omega
    have Z:j<=40000:=by omega
    have aa:r<=1000:=by omega
    have V:q<=160000:=by omega
    have a4:IntKind.i64.wrap ((m:Int)+(j:Int))=(m:Int)+j:=IntWalk.i64_in _ (by omega);have a5:IntKind.i64.wrap ((m:Int)+(j:Int)+(r:Int))=(m:Int)+j+r:=IntWalk.i64_in _ (by omega);have HN:Hid (evW m E=q):=by unfold Hid evW;rw[C,G,F]
    clear Q R C G F P
    by_cases u:E.path.length<=400
    .have N:¬(400:Int)<(E.path.length:Int):=by omega
     have t:Hid _:=u;clear u;go_wp2_with fail;apply ak 18 [_,_,_,_,_,_,_,_,_,_,_,_,_,_,_,_,_,.int .i64 q] [none,none,none,none,none,none,none,none,none,none,none,none,none,none,none,none,none,none] [[],[],[],[1,2],[3],[4],[5],[6],[0,7],[],[],[9,10],[11],[12],[13],[14],[8,15],[16]] (by kernel_rfl) (by kernel_rfl) (by simp[aq])
     .trivial
     .simp (maxSteps:=1000000)only[List.take_succ_cons,List.take_zero,ay,aE,ab,Act.put,List.setIfInBounds_toArray,List.set_cons_zero,List.set_cons_succ,aN,aS,aq,List.getD_cons_zero,List.getD_cons_succ,and_true,true_and,forall_const];and_intros
      iterate 18 · intro W wq H;intros;rename_i O;have f5:=H.cell A;have f6:=H.cell B;go_simp;exact O _ _ (Ext.refl _) rfl
     intro W w2 d p;simp only[aU,Nat.zero_add,Nat.reduceAdd,and_true]at p;simp(maxSteps:=1000000)only[List.take_succ_cons,List.take_zero,List.drop_succ_cons,List.drop_zero,ab,Act.put,List.setIfInBounds_toArray,List.set_cons_zero,List.set_cons_succ,Nat.zero_add,Nat.reduceAdd,p];clear p;have z:=Ext.trans J.out d;replace A:=d.cell A;replace B:=d.cell B;go_wp2;go_roundw
     case rel=>exact⟨k+1,q,z,by omega,by omega,by go_num,rfl,V,by rw[xV M.out,Y.out,HN.out],xY M.out X.out t.out⟩
     case measure=>simp[intOf];omega
    .have N:(400:Int)<(E.path.length:Int):=by omega
     have t:Hid _:=AV M.out u;clear u;go_wp2_with fail;apply ak 18 [_,_,_,_,_,_,_,_,_,_,_,_,_,_,_,_,_,.int .i64 q] [none,none,none,none,none,none,none,none,none,none,none,none,none,none,none,none,none,none] [[],[],[],[1,2],[3],[4],[5],[6],[0,7],[],[],[9,10],[11],[12],[13],[14],[8,15],[16]] (by kernel_rfl) (by kernel_rfl) (by simp[aq])
     .trivial
     .simp (maxSteps:=1000000)only[List.take_succ_cons,List.take_zero,ay,aE,ab,Act.put,List.setIfInBounds_toArray,List.set_cons_zero,List.set_cons_succ,aN,aS,aq,List.getD_cons_zero,List.getD_cons_succ,and_true,true_and,forall_const];and_intros
      iterate 18 · intro W wq H;intros;rename_i O;have f5:=H.cell A;have f6:=H.cell B;go_simp;exact O _ _ (Ext.refl _) rfl
     intro W w2 d p;simp only[aU,Nat.zero_add,Nat.reduceAdd,and_true]at p;simp(maxSteps:=1000000)only[List.take_succ_cons,List.take_zero,List.drop_succ_cons,List.drop_zero,ab,Act.put,List.setIfInBounds_toArray,List.set_cons_zero,List.set_cons_succ,Nat.zero_add,Nat.reduceAdd,p];clear p;have z:=Ext.trans J.out d;replace A:=d.cell A;replace B:=d.cell B;go_wp2;go_ret;exact⟨by rw[t.out];rfl,z⟩
   .have y:k=60:=by omega
    subst y;have D:¬(l.length:Int)<=60:=by omega
    have K:Hid (gW l=false):=by
     unfold Hid gW;rw[decide_eq_false (by omega)];rfl
    go_wp2;go_ret;exact⟨by rw[K.out];rfl,J.out⟩
  .have y:k=l.length:=by omega
   subst y;have h:=Y.out;have g:=X.out;rw[List.take_length]at h g;have D:(l.length:Int)<=60:=by omega
   have K:Hid (gW l=decide ((m:Int)<=40000)):=by
    unfold Hid gW;rw[decide_eq_true T,g,h];simp only[Bool.true_and,decide_eq_decide];omega
   clear h g;go_wp2;go_ret;exact⟨by rw[K.out];rfl,J.out⟩
def opW (n:Nat) (o:Opn):Nat:=min (n+min o.data.length 40000) 160000
def gQ (o:Opn):Bool:=gW o.plan && (decide (o.path.length<=400) && decide (o.dest.length<=400))
def dY (l:List Opn):Bool:=decide (l.length<=100) && (l.all gQ && decide (l.foldl opW 0<=40000))
variable {l:List Opn}
theorem yE {e:Opn} (h:l[k]? = some e):(l.take (k+1)).foldl opW 0=opW ((l.take k).foldl opW 0) e:=by
 obtain⟨a,rfl⟩:=(List.getElem?_eq_some_iff.1 h);rw[List.take_succ_eq_append_getElem a,List.foldl_append];rfl
theorem wM {e:Opn} (h:l[k]? = some e) (b:(l.take k).all gQ=true) (c:gQ e=true):(l.take (k+1)).all gQ=true:=by
 obtain⟨a,rfl⟩:=(List.getElem?_eq_some_iff.1 h);rw[List.take_succ_eq_append_getElem a];simp only[List.all_append,b,List.all_cons,List.all_nil,Bool.and_true,Bool.true_and,c]
theorem oV {e:Opn} (h:l[k]? = some e) (a:gQ e=false):dY l=false:=by
 have:l.all gQ=false:=by
  rw[List.all_eq_false];exact⟨e,List.mem_of_getElem? h,by simpa using a⟩
 unfold dY;rw[this];simp
theorem IsOpn.length {cs:List Value} {o:Opn} (h:IsOpn w cs o):cs.length=8/\cs.all (·.oneCell')=true:=by
 obtain⟨c,d,rfl,a,b⟩:=h;obtain⟨_,_,rfl,_⟩:=a.bytes;obtain⟨_,⟨_,_,rfl,_⟩,_⟩:=b;exact⟨rfl,by simp[Value.oneCell']⟩
abbrev t9 (w:World) (v:Value) (l:List Opn):Prop:=ReadO w (IsOpn w) v l
theorem wP (h:t9 w v l):∃a d,v=.slice a l.length d/\l.length<=d/\l.length<=140737488355328/\d<=9223372036854775807 /\
  ∀(k:Nat) x,l[k]? = some x->∃b o g,a=some ⟨b,o,none⟩/\IsOpn w g x/\∀j u,g[j]? = some u->w.cell? ⟨b,o+k*8+j,none⟩=some u :=
 jE 8 (fun c x i=>i.length.1) (by omega) h
theorem uw {w0:World} (H:Ext w0 w) (hv:t9 w0 v l) :
  Calls Tryz.prog 27 #[v] w fun e w'=>e=.returned (.bool (dY l))/\Ext w w':=by
 obtain⟨a,ad,rfl,h1,h2,h3,h4⟩:=wP hv;have H4:Hid _:=h4;have K:Hid _:=H;clear h4 hv H;go_enter Tryz.func27,Tryz.ntmps27;go_wp2;go_loopw [3,4] (fun n i wr=>∃k m:Nat,Ext w wr/\k<=l.length/\k<=100/\i=.int .i64 k/\n=.int .i64 m/\m<=160000/\(l.take k).foldl opW 0=m/\(l.take k).all gQ=true) (fun _ i _=>l.length - (intOf i).toNat)
 case atStart=>exact⟨0,0,Ext.refl _,Nat.zero_le _,by omega,rfl,rfl,by omega,rfl,rfl⟩
 case round =>
  obtain⟨k,m,T,hk,P,rfl,rfl,hm,d,c⟩:=hrel;have W:Hid _:=T;have V:Hid _:=d;have U:Hid _:=c;clear d c
  by_cases Q:k<l.length
  .by_cases au:k<100
   .obtain ⟨E,O⟩:∃e,l[k]? = some e:=⟨_,List.getElem?_eq_getElem Q⟩;obtain⟨b,o,cs,rfl,S,B⟩:=H4.out k E O;obtain⟨vd,vp,rfl,N,u⟩:=S;obtain⟨s1,s2,rfl,-⟩:=id N.bytes;obtain⟨_,⟨p1,p2,rfl,-⟩,-⟩:=id u;have g:=Ext.trans K.out T;have X:=g.cell (B 4 _ rfl);have Y:=g.cell (B 5 _ rfl);have Z:=g.cell (B 6 _ rfl);have c7:=g.cell (B 7 _ rfl);have J:Hid _:=ReadO.C0 u g;have z:Hid _:=O;have a0:=N.bytes.len;obtain⟨x,C⟩:∃x,min E.data.length 40000=x:=⟨_,rfl⟩;obtain⟨y,G⟩:∃y,min (m+x) 160000=y:=⟨_,rfl⟩;have a1:min (E.data.length:Int) 40000=(x:Int):=by omega
    have a2:min ((m:Int)+x) 160000=(y:Int):=by omega
    have aa:x<=40000:=by omega
    have R:y<=160000:=by omega
    have HN:Hid (opW m E=y):=by unfold Hid opW;rw[C,G]
    obtain⟨M,D⟩:∃M,gW E.plan=M:=⟨_,rfl⟩;have r:Hid _:=D;clear N O C G B u g D;go_wp2_with fail;go_at_call 80;refine(ql J.out).mono ?_;rw[r.out];rintro e w2 ⟨rfl,j⟩;replace X:=j.cell X;replace Y:=j.cell Y;replace Z:=j.cell Z;have q:=T.trans j
    cases M with
    | false =>
     have h:Hid (dY l=false):=oV z.out (by unfold gQ;rw[r.out];rfl);go_wp2;go_ret;exact⟨an h.out.symm,q⟩
    | true =>
     by_cases hp:(400:Int)<(E.path.length:Int)
     .have h:Hid (dY l=false):=oV z.out (by unfold gQ;rw[decide_eq_false (by omega)];simp);go_wp2;go_ret;exact⟨an h.out.symm,q⟩
     .by_cases hq:(400:Int)<(E.dest.length:Int)
      .have h:Hid (dY l=false):=oV z.out (by unfold gQ;rw[decide_eq_false (p:=E.dest.length<=400) (by omega)];simp);go_wp2;go_ret;exact⟨an h.out.symm,q⟩
      .have A:Hid (gQ E=true):=by unfold Hid gQ;rw[r.out,decide_eq_true (by omega),decide_eq_true (by omega)];rfl
       go_wp2;go_roundw
       case rel=>exact⟨k+1,y,q,by omega,by omega,by go_num,rfl,R,by rw[yE z.out,V.out,HN.out],wM z.out U.out A.out⟩
       case measure=>simp[intOf];omega
   .have t:k=100:=by omega
    subst t;have F:¬(l.length:Int)<=100:=by omega
    have I:Hid (dY l=false):=by
     unfold Hid dY;rw[decide_eq_false (by omega)];rfl
    go_wp2;go_ret;exact⟨an I.out.symm,W.out⟩
  .have t:k=l.length:=by omega
   subst t;have d:=V.out;have c:=U.out;rw[List.take_length]at d c;have F:(l.length:Int)<=100:=by omega
   have I:Hid (dY l=decide ((m:Int)<=40000)):=by
    unfold Hid dY;rw[decide_eq_true P,c,d];simp only[Bool.true_and,decide_eq_decide];omega
   clear d c;go_wp2;go_ret;exact⟨an I.out.symm,W.out⟩
theorem Ac (h:dY l=true) (g:∀o∈l,I64 o.keep/\I64 o.BW/\∀e∈o.plan,I64 e.keep/\I64 e.BW):l.length<=100/\∀o∈l,jP o:=by
 unfold dY at h;simp only[Bool.and_eq_true,decide_eq_true_eq,List.all_eq_true]at h;refine⟨h.1,fun o d=>?_⟩;have a:=h.2.1 o d;unfold gQ gW at a;simp only[Bool.and_eq_true,decide_eq_true_eq,List.all_eq_true]at a;have b:=g o d;exact⟨a.2.1,a.2.2,a.1.1,fun e c=>⟨(b.2.2 e c).1,(b.2.2 e c).2,a.1.2.1 e c⟩,b.1,b.2.1⟩
end
section
open Go Go.RowKit
end
end Go.Proofs.YtfabjgfmiaammaaGreatDoor
