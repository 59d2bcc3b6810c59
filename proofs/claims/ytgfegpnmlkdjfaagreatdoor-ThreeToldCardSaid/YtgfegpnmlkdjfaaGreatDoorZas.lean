/- Contracts of the program's functions and plain laws behind the card. Conditions: as each theorem states. -/
import Derived.Test.YtgfegpnmlkdjfaaGreatDoorZan
import Derived.Defers
import Derived.Laws.Pointers
import Derived.Laws.LoneSync
import Derived.RegionCalls
import Derived.ChangeAlike
import Derived.Laws.NewBlocks
import Derived.Test.YtgfegpnmlkdjfaaGreatDoorZah
import Derived.Test.YtgfegpnmlkdjfaaGreatDoorZag
import Derived.Test.YtgfegpnmlkdjfaaGreatDoorZak
import Derived.Deep.DeepCutAuto
set_option linter.unusedVariables false
set_option linter.unusedSimpArgs false
set_option linter.unusedSectionVars false
set_option maxRecDepth 100000
set_option maxHeartbeats 64000000
namespace Go.Proofs.YtgfegpnmlkdjfaaGreatDoor
section
open Go Go.RowKit
theorem ny (w:World):(callFunc 188 #[]).run Tryz.prog w=.ok (.value (.tuple #[])) w:=run_call_mark0 Tryz.func188 (by kernel_rfl) (by kernel_rfl) (by kernel_rfl) .disable (by kernel_rfl) w
theorem oY (w:World):(callFunc 190 #[]).run Tryz.prog w=.ok (.value (.tuple #[])) w:=run_call_mark0 Tryz.func190 (by kernel_rfl) (by kernel_rfl) (by kernel_rfl) .enable (by kernel_rfl) w
theorem uy (a:Addr) (w:World):(callFunc 191 #[.pointer (some a)]).run Tryz.prog w=.ok (.value (.tuple #[])) w:=run_call_marked Tryz.func191 (by kernel_rfl) (by kernel_rfl) (by kernel_rfl) .acquire (by kernel_rfl) a w
theorem uP (a:Addr) (w:World):(callFunc 193 #[.pointer (some a)]).run Tryz.prog w=.ok (.value (.tuple #[])) w:=run_call_marked Tryz.func193 (by kernel_rfl) (by kernel_rfl) (by kernel_rfl) .releaseMerge (by kernel_rfl) a w
theorem pS (a:Addr) (x:Value) (u:FrameMode) (w:World) (i:w.cell? a=some x) (j:w.frozen? a=false) :
  CallsD Tryz.prog 183 #[.pointer (some a),.bool true] u w fun e g h=>g=u/\(e=.returned (.tuple #[])/\h=w.drew.setCell a (.int .u32 1)):=by
 have b:w.drew.cell? a=some x:=by go_simp
 have c:w.drew.frozen? a=false:=by go_simp
 have d:=run_call_store (P:=Tryz.prog) Tryz.func186 (by kernel_rfl) (by kernel_rfl) (by kernel_rfl) (by kernel_rfl) (k:=.u32) (y:=1) b c
 go_enter_d Tryz.func183,Tryz.ntmps183
 go_wp2
 go_region_calls
 all_goals (go_end0;exact⟨rfl,rfl⟩)
theorem p7 (a:Addr) (u:FrameMode) (w:World) (c:w.cell? a=some (.int .i32 1)) (g:w.frozen? a=false) :
  CallsD Tryz.prog 182 #[.pointer (some a)] u w fun e h i=>h=u/\(e=.returned (.tuple #[])/\i=w.setCell a (.int .i32 0)):=by
 have j:=ny;have k:=oY;have l:=uP;have b:=run_call_add (P:=Tryz.prog) Tryz.func194 (by kernel_rfl) (by kernel_rfl) (by kernel_rfl) .i32 (by kernel_rfl) (y:=-1) (s:=0) c g (by simp[go_sem];rfl);have d:=run_convert_to_unsafe (P:=Tryz.prog) (src:=251) (dst:=184) Tryz.underlying251 Tryz.underlying184 (by kernel_rfl) c
 go_enter_d Tryz.func182,Tryz.ntmps182
 go_wp2
 go_end0
 go_wp2
 go_end0
 exact⟨rfl,rfl⟩
theorem yY (a:Addr) (w:World) (c:w.cell? a=some (.int .i32 0)) (h:w.frozen? a=false) :
  Calls Tryz.prog 181 #[.pointer (some a)] w fun e i=>e=.returned (.tuple #[])/\i=w.setCell a (.int .i32 1):=by
 have k:=ny;have l:=oY;have j:=uy;have d:=run_call_cas_hit (P:=Tryz.prog) Tryz.func189 (by kernel_rfl) (by kernel_rfl) (by kernel_rfl) .i32 (by kernel_rfl) (y:=1) c h;have b:(w.setCell a (.int .i32 1)).cell? a=some (.int .i32 1):=World.cell?_setCell_same w a _ c;have g:=run_convert_to_unsafe (P:=Tryz.prog) (src:=251) (dst:=184) Tryz.underlying251 Tryz.underlying184 (by kernel_rfl) b;go_enter Tryz.func181,Tryz.ntmps181;go_wp2
 first | go_end0 | (simp only[Exit.inBlock,Exit.then];refine bodyPost_ret (results_none rfl _ _ _) rfl ?_) | refine bodyPost_ret (results_none rfl _ _ _) rfl ?_
 go_wp2
 go_end0
 exact⟨rfl,rfl⟩
structure EnvS (w:World):Prop where
 sq:∃fr,w.heap[3]? = some (.cells (dj.map U32).toArray 103 fr)
 cu:∃fr,w.heap[4]? = some (.cells (dT.map U32).toArray 229 fr)
variable {w w':World}
theorem EnvS.fr {O:Nat->Prop} (h:EnvS w) (b:Fr O w w') (c:∀k,O k->5<=k):EnvS w':=by
 obtain⟨d,g⟩:=h.sq;obtain⟨e,i⟩:=h.cu;exact⟨⟨d,b.row g (fun a=>by have:=c _ a;revert this;decide)⟩,⟨e,b.row i (fun a=>by have:=c _ a;revert this;decide)⟩⟩
theorem EnvS.ext (h:EnvS w) (b:Ext w w'):EnvS w':=h.fr (O:=fun _=>False) (Fr.GX b) (fun _ a=>a.elim)
theorem EnvS.two (h:EnvS w):5<=w.heap.size:=by
 obtain⟨d,b⟩:=h.cu;obtain⟨c,a⟩:=h.sq;have g:=(Array.getElem?_eq_some_iff.1 b).1;have e:=(Array.getElem?_eq_some_iff.1 a).1;omega
def cR (d m s:Int):List Value:=[.int .u32 d,.int .i32 m,.int .u32 s]
def bK (o X:List Value):Array Value:=(o++X).toArray
theorem AH (b:Nat) (o X:List Value) (w:World) (B:o.length=3) (K:X.length=72) (E:EnvS w) (Y:5<=b) (L:w.heap[b]? = some (.cells (bK o X) 231 (0,0))) :
  Calls Tryz.prog 169 #[.pointer (some ⟨b,0,none⟩)] w fun e w'=>e=.returned (.tuple #[])/\w'.heap[b]? = some (.cells (dZ o) 231 (0,0))/\Fr (fun k=>k=b) w w':=by
 obtain⟨R,I⟩:=E.sq;obtain⟨S,J⟩:=E.cu;have i:(dj.map U32).toArray.size=8:=by simp;rfl
 have g:(dT.map U32).toArray.size=64:=by simp;rfl
 have l:∀v∈(dj.map U32).toArray.toList,v.oneCell'=true:=by intro v A;simp only[List.toList_toArray,List.mem_map]at A;obtain⟨x,-,rfl⟩:=A;rfl
 have d:∀v∈(dT.map U32).toArray.toList,v.oneCell'=true:=by intro v A;simp only[List.toList_toArray,List.mem_map]at A;obtain⟨x,-,rfl⟩:=A;rfl
 generalize q:(dj.map U32).toArray=c at I i l;generalize n:(dT.map U32).toArray=a at J g d;have V:(bK o X).size=75:=by unfold bK;simp[B,K]
 have N:(bK o (c.toList++X.drop 8)).size=75:=by unfold bK;simp[B,K,i]
 have U:c.toList.length=8:=by rw[Array.length_toList];exact i
 have M:a.toList.length=64:=by rw[Array.length_toList];exact g
 have y:bK o (c.toList++X.drop 8)=((bK o X).toList.take 3++c.toList++(bK o X).toList.drop (3+c.size)).toArray:=by
  unfold bK;simp only[List.toList_toArray];have F:(o++X).drop (3+c.size)=X.drop 8:=by
   have G:o.drop (3+8)=[]:=List.drop_eq_nil_of_le (by omega);rw[i,List.drop_append,G,List.nil_append,B]
  rw[List.take_left' B,F,List.append_assoc]
 have z:dZ o=((bK o (c.toList++X.drop 8)).toList.take 11++a.toList++(bK o (c.toList++X.drop 8)).toList.drop (11+a.size)).toArray:=by
  have T:dZ o=(o++(c.toList++a.toList)).toArray:=by rw[<-q,<-n];rfl
  rw[T];unfold bK;simp only[List.toList_toArray];have F:(o++(c.toList++X.drop 8)).drop (11+a.size)=[]:=List.drop_eq_nil_of_le (by rw[List.length_append,List.length_append,List.length_drop];omega);have W:(o++(c.toList++X.drop 8)).take 11=o++c.toList:=by rw[<-List.append_assoc];exact List.take_left' (by rw[List.length_append];omega)
  rw[F,W,List.append_nil,List.append_assoc]
 have C:Hid _:=y;have D:Hid _:=z;clear y z q n E;go_enter Tryz.func169,Tryz.ntmps169
 go_wp2_with (first
  | (refine wpList_load_row rfl 103 _ rfl 3 rfl 103 c R _ I Tryz.underlying103 rfl (by rw[i];exact jr) ?_)
  | (refine wpList_load_row rfl 229 _ rfl 4 rfl 229 a S _ J Tryz.underlying229 rfl (by rw[g];exact ij) ?_)
  | (refine gI rfl 103 _ _ rfl b 3 rfl c rfl l _ (bK o X) L (by omega) (by rw[i];exact jr) _ C.out ?_;intro Z r t)
  | (refine gI rfl 229 _ _ rfl b 11 rfl a rfl d _ (bK o (c.toList++X.drop 8)) r (by omega) (by rw[g];exact ij) _ D.out ?_;intro w3 H u))
 go_end0
 have O:∀ {P:World} {Q:Array Value},P.heap[b]? = some (.cells Q 231 (0,0))->¬IsU8 P b:=fun h=>nX h (by kernel_rfl)
 exact⟨rfl,H,((Fr.refl _ w).step t (fun j p=>by cases p;exact .inl rfl) (by rintro j p;cases p;exact O L)).step u (fun j p=>by cases p;exact .inl rfl) (by rintro j p;cases p;exact O r)⟩
variable {b j:Nat} {X:List Value} {v:Value}
theorem lU {o:List Value} (a:w.heap[b]? = some (.cells (bK o X) 231 (0,0))) (c:(o++X)[j]? = some v):w.cell? ⟨b,j,none⟩=some v :=
 (cell_of_row _ _ j _ _ _ a).trans (by unfold bK;simpa using c)
variable {cs:Array Value}
theorem wS (a:w.heap[b]? = some (.cells cs 231 (0,0))):w.frozen? ⟨b,j,none⟩=false:=by simp[World.frozen?,a]
variable {d m s x:Int}
theorem DI (a:w.heap[b]? = some (.cells (bK (cR d m s) X) 231 (0,0))):(w.setCell ⟨b,0,none⟩ (.int .u32 x)).heap[b]? = some (.cells (bK (cR x m s) X) 231 (0,0)):=by
 rw[heap_setCell_same w b 0 _ _ _ a];simp[bK,cR]
theorem yB (a:w.heap[b]? = some (.cells (bK (cR d m s) X) 231 (0,0))):(w.setCell ⟨b,1,none⟩ (.int .i32 x)).heap[b]? = some (.cells (bK (cR d x s) X) 231 (0,0)):=by
 rw[heap_setCell_same w b 1 _ _ _ a];simp[bK,cR]
theorem AC (e:w.heap[b]? = some (.cells cs 231 (0,0))) {O:Nat->Prop} {c:World} (h:Fr O c w) (d:O b):Fr O c (w.setCell ⟨b,j,none⟩ v) :=
 h.step (cW w b j v) (fun k a=>by cases a;exact .inl d) (by rintro k a;cases a;exact nX e (by kernel_rfl))
theorem rj (a:Addr) (x:Int) (y:Bool) (w:World) (b:w.cell? a=some (.int .u32 x)) (c:(x != 0)=y) :
  Calls Tryz.prog 175 #[.pointer (some a)] w fun e w'=>e=.returned (.bool y)/\w'=w:=by
 have g:=run_call_load (P:=Tryz.prog) Tryz.func180 (by kernel_rfl) (by kernel_rfl) (by kernel_rfl) .u32 (by kernel_rfl) b;go_enter Tryz.func175,Tryz.ntmps175;go_wp2;go_ret;exact⟨by first | rfl | rw[c],rfl⟩
theorem zI (b:Nat) (s:Int) (X:List Value) (w:World) (G:X.length=72) (D:EnvS w) (E:5<=b) (p:w.heap[b]? = some (.cells (bK (cR 0 0 s) X) 231 (0,0))) :
  Calls Tryz.prog 176 #[.pointer (some ⟨b,0,none⟩),.func (.func 169) #[.pointer (some ⟨b,0,none⟩)] #[]] w fun e w'=>e=.returned (.tuple #[])/\w'.heap[b]? = some (.cells (dZ (cR 1 0 s)) 231 (0,0))/\Fr (fun k=>k=b) w w':=by
 have n:=yB (x:=1) p;have h:Fr (fun k=>k=b) w (w.setCell ⟨b,1,none⟩ (.int .i32 1)):=AC p (Fr.refl _ w) rfl;have l:EnvS (w.setCell ⟨b,1,none⟩ (.int .i32 1)):=D.fr h (fun k A=>by subst A;exact E);have F:∀(x:Bool) (w:World),(Op.unary .not (.bool x)).run Tryz.prog w=.ok (.bool (!x)) w:=fun _ _=>rfl
 have i:Hid _:=n;have t:Hid _:=h;have C:Hid _:=p;have r:Hid (EnvS (w.setCell ⟨b,1,none⟩ (.int .i32 1))):=l;clear n h D l p
 go_enter_defers Tryz.func176,Tryz.ntmps176
 go_wp2_with (first | (go_at_call 181;go_must (refine(yY ⟨b,1,none⟩ w (lU C.out rfl) (wS C.out)).mono ?_;rintro e w' ⟨rfl,rfl⟩)) | (go_at_call 175;go_must (refine(rj ⟨b,0,none⟩ 0 false _ (lU i.out rfl) rfl).mono ?_;rintro e w' ⟨rfl,rfl⟩)) | (go_at_call 169;go_must (refine(AH b (cR 0 1 s) X _ rfl G r.out E i.out).mono ?_;rintro e q ⟨rfl,o,u⟩)))
 have g:q.heap[b]? = some (.cells (bK (cR 0 1 s) (dj.map U32++dT.map U32)) 231 (0,0)):=o;have c:q.drew.heap[b]? = some (.cells (bK (cR 0 1 s) (dj.map U32++dT.map U32)) 231 (0,0)):=o;have a:=DI (x:=1) c;have z:=yB (x:=0) a;have y:Fr (fun k=>k=b) w (((q.drew.setCell ⟨b,0,none⟩ (.int .u32 1))).setCell ⟨b,1,none⟩ (.int .i32 0)):=AC a (AC c ((t.out.trans (u.mono (fun k A=>.inl A))).ext (Ext.refl _).drew) rfl) rfl;refine leaves_cons (f:=183) (args:=#[.pointer (some ⟨b,0,none⟩),.bool true]) (by simp) (by simp[go_sem]) ?_;refine(pS ⟨b,0,none⟩ (.int .u32 0) .returning q (lU g rfl) (wS g)).mono ?_;rintro e H B ⟨rfl,rfl,rfl⟩;refine leaves_cons (f:=182) (args:=#[.pointer (some ⟨b,1,none⟩)]) (by simp[Go.settle]) (by simp[go_sem]) ?_;refine(p7 ⟨b,1,none⟩ _ _ (lU a rfl) (wS a)).mono ?_;rintro e H B ⟨rfl,rfl,rfl⟩;simp[Leaves,Go.settle,results,Tryz.results176];exact⟨z,y⟩
theorem Ci (b:Nat) (s:Int) (X:List Value) (w:World) (o:X.length=72) (h:EnvS w) (p:5<=b) (i:w.heap[b]? = some (.cells (bK (cR 0 0 s) X) 231 (0,0))) :
  Calls Tryz.prog 168 #[.pointer (some ⟨b,0,none⟩),.func (.func 169) #[.pointer (some ⟨b,0,none⟩)] #[]] w fun e w'=>e=.returned (.tuple #[])/\w'.heap[b]? = some (.cells (dZ (cR 1 0 s)) 231 (0,0))/\Fr (fun k=>k=b) w w':=by
 have l:∀(x:Bool) (w:World),(Op.unary .not (.bool x)).run Tryz.prog w=.ok (.bool (!x)) w:=fun _ _=>rfl
 have g:Hid _:=i;have n:Hid (EnvS w):=h;clear i h;go_enter Tryz.func168,Tryz.ntmps168
 go_wp2_with (first | (go_at_call 175;go_must (refine(rj ⟨b,0,none⟩ 0 false _ (lU g.out rfl) rfl).mono ?_;rintro e w' ⟨rfl,rfl⟩)) | (go_at_call 176;go_must (refine(zI b s X _ o n.out p g.out).mono ?_;rintro e q ⟨rfl,c,a⟩)))
 go_end0
 exact⟨rfl,c,a⟩
end
section
open Go Go.RowKit
theorem EB:Tryz.zeroCells231=bK (cR 0 0 0) (List.replicate 72 (.int .u32 0)):=by first | rfl | kernel_rfl
def zX:List Value:=List.replicate 72 (.int .u32 0)
theorem CI (w:World) (S:EnvS w):Calls Tryz.prog 151 #[] w fun e V=>(∃I H:Nat,e=.returned (.pointer (some ⟨I,0,none⟩))/\I≠H/\w.heap.size<=I/\w.heap.size<=H/\V.heap[H]? = some (.cells (dZ (cR 1 0 0)) 231 (0,0))/\V.heap[I]? = some (.cells (aW H dj (.slice none 0 0) (0:Nat)) 234 (0,0)))/\Ext w V:=by
 obtain⟨j,h⟩:∃j,j=w.alloc (.cells (bK (cR 0 0 0) zX) 231):=⟨_,rfl⟩;have l:Ext w j:=by rw[h];exact(Ext.refl _).alloc _
 have u:j.heap[w.heap.size]? = some (.cells (bK (cR 0 0 0) zX) 231 (0,0)):=by rw[h];exact ah _ _
 have r:EnvS j:=S.ext l;have Z:=S.two;have L:Hid _:=u;have K:Hid (EnvS j):=r;have Q:Hid (Ext w j):=l;have O:Hid _:=h;clear u r l h S;have aa:∀(W:Fn) (first q:Array Value) (w:World),(Instr.makeFunc W first q).run Tryz.prog w=.ok (.func W first q) w:=fun _ _ _ _=>rfl
 go_enter Tryz.func151,Tryz.ntmps151;go_upto_region 2 with fail;rw[show w.alloc (.cells Tryz.zeroCells231 231)=j from(congrArg (fun c=>w.alloc (.cells c 231)) EB).trans O.out.symm];generalize Tryz.zeroCells231=zc;go_upto_region 3 with(go_at_call 168;go_must (refine(Ci w.heap.size 0 zX j rfl K.out Z L.out).mono ?_;rintro e b ⟨rfl,g,t⟩));have n:Ext w b:=Ext.Hv Q.out t (fun k J=>by cases J;exact Nat.le_refl _);obtain⟨z,A,B,C,D,E,F,G,T⟩:=iu (show dj.length=8 from rfl);have J:dZ (cR 1 0 0)=(cR 1 0 0++([z,A,B,C,D,E,F,G].map U32++dT.map U32)).toArray:=by unfold dZ;rw[T]
 have a:=g;rw[J]at a;have c1:b.cell? ⟨w.heap.size,3,none⟩=some (U32 z):=(cell_of_row _ _ 3 _ _ _ a).trans rfl;have c2:b.cell? ⟨w.heap.size,4,none⟩=some (U32 A):=(cell_of_row _ _ 4 _ _ _ a).trans rfl;have c3:b.cell? ⟨w.heap.size,5,none⟩=some (U32 B):=(cell_of_row _ _ 5 _ _ _ a).trans rfl;have c4:b.cell? ⟨w.heap.size,6,none⟩=some (U32 C):=(cell_of_row _ _ 6 _ _ _ a).trans rfl;have c5:b.cell? ⟨w.heap.size,7,none⟩=some (U32 D):=(cell_of_row _ _ 7 _ _ _ a).trans rfl;have c6:b.cell? ⟨w.heap.size,8,none⟩=some (U32 E):=(cell_of_row _ _ 8 _ _ _ a).trans rfl;have c7:b.cell? ⟨w.heap.size,9,none⟩=some (U32 F):=(cell_of_row _ _ 9 _ _ _ a).trans rfl;have c8:b.cell? ⟨w.heap.size,10,none⟩=some (U32 G):=(cell_of_row _ _ 10 _ _ _ a).trans rfl;have X:=(Array.getElem?_eq_some_iff.1 g).1;obtain⟨o,i⟩:∃o,o=b.alloc (.cells (aW w.heap.size [z,A,B,C,D,E,F,G] (.slice none 0 0) (0:Nat)) 234):=⟨_,rfl⟩;have y:Ext b o:=by rw[i];exact(Ext.refl _).alloc _
 have x:o.heap[b.heap.size]? = some (.cells (aW w.heap.size [z,A,B,C,D,E,F,G] (.slice none 0 0) (0:Nat)) 234 (0,0)):=by rw[i];exact ah _ _
 have R:Hid (Ext w b):=n;have p:Hid (Ext b o):=y;have N:Hid _:=x;have P:Hid _:=i;have M:Hid _:=g;have Y:Hid _:=T;have U:=n.size;clear g a J t T n y x i;go_wp2_with fail;go_ret;rw[Y.out];have d:b.alloc (.cells (aW w.heap.size [z,A,B,C,D,E,F,G] (.slice none 0 0) (0:Nat)) 234)=o:=P.out.symm;refine⟨⟨b.heap.size,w.heap.size,rfl,by omega,U,Nat.le_refl _,?_,?_⟩,?_⟩
 .exact d▸Ext.row p.out M.out
 .exact d▸N.out
 .exact d▸R.out.trans p.out
theorem uw (h:List UInt32) (l:B8):(aT h l).2.length<64:=by
 induction h,l using aT.induct with
 | case1 h l a b=>rw[aT,if_pos a];exact b
 | case2 h l a=>rw[aT,if_neg a];show l.length<64;omega
theorem De (v:Value) (l:B8) (w:World) (Y:EnvS w) (V:IsBytes w v l) (hl:l.length<=10000000) :
  Calls Tryz.prog 126 #[v] w fun e w'=>(∃v',e=.returned v'/\w'.ownsRow w.heap.size 5 1 v' 32 ((gB l).map fun x=>.int .u8 x.toNat))/\Ext w w':=by
 have HE:Hid (EnvS w):=Y;have HV:Hid (IsBytes w v l):=V;obtain⟨a,t,rfl,h1,h2,h3,X⟩:=V.get;have q:∀(k:Nat),w.heap.size<=k->∀i,Out (fun j=>j=k) i (.slice a l.length t):=by
  intro k hk i a' n' c' Z ab;simp only[Value.slice.injEq]at Z;obtain⟨rfl,rfl,rfl⟩:=Z;obtain⟨b,o,u,hc⟩:=X 0 (by omega);cases u;have T:=World.block_lt_of_cell? _ _ (hc 0 (by omega));exact .inl (fun h=>by dsimp only at h T;omega)
 have E:Hid (∀(k:Nat),w.heap.size<=k->∀i,Out (fun j=>j=k) i (.slice a l.length t)):=q;clear X q V Y;go_enter Tryz.func126,Tryz.ntmps126;go_upto_region 2 with(go_at_call 151;go_must (refine(CI w HE.out).mono ?_;rintro e i ⟨⟨u,O,rfl,L,I,aa,J,K⟩,M⟩));have B:Hid _:=J;have R:Hid _:=K;have H:Hid (Ext w i):=M;clear J K M;go_upto_region 3 with(go_at_call 152;go_must (refine(rV u O dj (.slice none 0 0) (.slice a l.length t) [] l 0 (cR 1 0 0) i rfl rfl L (by omega) R.out B.out (IsBytes.nil _) (TypB.nil _ _ _) (HV.out.ext H.out) (E.out u I i) (by simp) hl).mono ?_;rintro e N ⟨rfl,g,A,Q,c,d⟩));rw[List.nil_append]at c d;have z:Ext w N:=Ext.Hv H.out c.fr (fun k hk=>by cases hk;exact I);have n:=c.fr.row B.out (fun h=>L h.symm);have p:N.heap[u]? = some (.cells (aW O g A (l.length:Nat)) 234 (0,0)):=by
  have P:=c.cells
  rwa [show(((0:Nat):Int)+(l.length:Int))=((l.length:Nat):Int)by omega]at P
 have ad:Q.length<64:=by
  have P:=uw dj l;rw[<-d]at P;exact P
 have r:gB l=(aT g (Q++iT l.length)).1.flatMap ex:=by unfold gB;rw[<-d]
 have S:Hid (Ext w N):=z;have G:Hid (Wr i N u O (aT dj l) (((0:Nat):Int)+l.length) g A Q):=c;have C:Hid _:=n;have D:Hid _:=p;have F:Hid _:=r;have U:=z.size;clear z n p r c d
 go_wp2_with (go_at_call 153;go_must (refine(BA u O g A Q l.length (cR 1 0 0) N G.out.G0 rfl hl D.out C.out G.out.bytes (by omega)).mono ?_;rintro e w3 ⟨⟨v3,rfl,y⟩,W⟩))
 go_ret;rw[F.out];exact⟨⟨_,rfl,tU y U⟩,S.out.trans W⟩
theorem E6 (l:B8) {w:World} {a:Nat} {v:Value} (h:w.ownsRow a 5 1 v 32 ((gB l).map fun x=>.int .u8 x.toNat)):(gB l).length=32:=by
 have b:=h.1;simpa using b
theorem DT (v:Value) (l:B8) (w:World) (h:EnvS w) (i:IsBytes w v l) (p:l.length<=10000000) :
  Calls Tryz.prog 93 #[v] w fun e q=>e=.returned (S8 (aC l))/\Ext w q:=by
 have n:Hid (EnvS w):=h;have o:Hid (IsBytes w v l):=i;clear i h;go_enter Tryz.func93,Tryz.ntmps93
 go_wp2_with (first
  | (go_at_call 126;go_must (refine(De v l w n.out o.out p).mono ?_;rintro e k ⟨⟨j,rfl,a⟩,d⟩;have b:=E6 l a;have c:IsBytes k j (gB l):=by unfold IsBytes;rw[b];exact Row.GW a (by omega)))
  | (go_at_call 125;go_must (refine(vz j (gB l) k c (by omega)).mono ?_;rintro e r ⟨rfl,g⟩)))
 go_ret;exact⟨rfl,d.trans g⟩
end
section
open Go Go.RowKit Go.Sort
def okC (c:UInt8):Bool:=decide (32<=c.toNat) && decide (c.toNat<=126)
variable {k:Nat}
theorem vI {s:ByteArray} (h:k<s.size) (a:okC s[k]=false):iA s.data.toList=false:=by
 unfold iA;rw[Bool.and_eq_false_iff];refine .inl (List.all_eq_false.2 ⟨s[k],?_,by show ¬okC _=true;rw[a];simp⟩);have:s.data.toList[k]? = some s[k]:=by
  rw[List.getElem?_eq_getElem (by simpa using h)];rfl
 exact List.mem_of_getElem? this
theorem A1 (s:ByteArray) (w:World) (q:s.size<4294967281) :
  Calls Tryz.prog 149 #[.string s] w fun e l=>e=.returned (.bool (iA s.data.toList))/\l=w:=by
 go_enter Tryz.func149,Tryz.ntmps149;go_wp2
 go_loop [6] (fun i=>∃k:Nat,k<=s.size/\i=.int .i64 k/\(s.data.toList.take k).all okC=true) (fun i=>s.size - (intOf i).toNat)
 case atStart=>exact⟨0,Nat.zero_le _,rfl,rfl⟩
 case round =>
  obtain⟨k,p,rfl,h⟩:=hrel;have d:Hid _:=h;clear h
  by_cases b:k<s.size
  .by_cases n:(s[k].toNat:Int)<32
   .go_wp2;go_ret;exact⟨aM (vI b (by unfold okC;rw[decide_eq_false (by omega)];rfl)).symm,rfl⟩
   .by_cases o:(126:Int)<s[k].toNat
    .go_wp2;go_ret;exact⟨aM (vI b (by unfold okC;rw[decide_eq_false (by omega:¬s[k].toNat<=126)];simp)).symm,rfl⟩
    .go_wp2
     go_round
     case rel =>
      exact⟨k+1,by omega,by go_num,by rw[rN s k b,List.all_append,d.out];simp[okC];omega⟩
     case measure=>simp[intOf];omega
  .have c:k=s.size:=by omega
   have a:s.data.toList.all okC=true:=by
    have:=d.out
    rwa [c,List.take_of_length_le (by simp)]at this
   have j:Hid _:=a;clear a d c;go_wp2;go_ret;refine⟨aM ?_,rfl⟩;show _=(s.data.toList.all okC && decide (s.data.toList.length<=200));rw[j.out];have g:s.data.toList.length=s.size:=by simp
   rw[g,Bool.true_and];exact decide_eq_decide.2 (by omega)
theorem xh (l:B8) (w:World) (a:l.length<4294967281) :
  Calls Tryz.prog 149 #[S8 l] w fun e b=>e=.returned (.bool (iA l))/\b=w:=A1 ⟨l.toArray⟩ w a
theorem pI:∀(l:List B8) (a b:B8),cg (l++[a,b])=(cg (l++[a]) && ltB a b)
 | [],a,b=>by simp[cg]
 | [x],a,b=>by simp[cg]
 | x::y::l,a,b=>by
  have h:=pI (y::l) a b;show(ltB x y && cg (y::l++[a,b]))=(ltB x y && cg (y::l++[a]) && ltB a b);rw[h,Bool.and_assoc]
variable {l:List B8}
theorem pJ {a b:B8} (e:l[k]? = some a) (g:l[k+1]? = some b):cg (l.take (k+2))=(cg (l.take (k+1)) && ltB a b):=by
 have c:l.take (k+1)=l.take k++[a]:=by rw[List.take_add_one,e];rfl
 have d:l.take (k+2)=l.take k++[a,b]:=by rw[List.take_add_one,g,c,List.append_assoc];rfl
 rw[c,d,pI]
theorem mC:∀(l:List B8) (k:Nat),cg l=true->cg (l.take k)=true
 | [],k,_=>by rw[List.take_nil];rfl
 | [x],k,_=>by cases k <;> simp[cg]
 | x::y::l,0,_=>rfl
 | x::y::l,1,_=>rfl
 | x::y::l,k+2,h=>by
  have h:(ltB x y && cg (y::l))=true:=h;rw[Bool.and_eq_true]at h;have a:=mC (y::l) (k+1) h.2;show(ltB x y && cg (y::(l.take k)))=true;rw[h.1];exact a
def lq (l:List B8) (k:Nat):Bool:=(l.take k).all aO && cg (l.take k)
theorem tV (h:lq l k=false):eX l=false:=by
 unfold lq at h;unfold eX;rw[Bool.and_eq_false_iff]at h ⊢;rcases h with h | h
 .left;rw[List.all_eq_false]at h ⊢;obtain⟨x,c,b⟩:=h;exact⟨x,List.mem_of_mem_take c,b⟩
 .right;rw[Bool.and_eq_false_iff];left
  cases a:cg l with
  | false=>rfl
  | true=>rw[mC l k a]at h;cases h
theorem zq {x:B8} (a:l[k]? = some x):lq l (k+1)=(lq l k && (aO x && (decide (k=0) || ltB (l.getD (k - 1) []) x))):=by
 unfold lq;have b:l.take (k+1)=l.take k++[x]:=by rw[List.take_add_one,a];rfl
 rw[b,List.all_append];simp only[List.all_cons,List.all_nil,Bool.and_true]
 cases k with
 | zero=>simp[cg]
 | succ j =>
  have d:j<l.length:=by have:=(List.getElem?_eq_some_iff.1 a).1;omega
  have e:l[j]? = some (l.getD j []):=by rw[List.getD_eq_getElem?_getD,List.getElem?_eq_getElem d];rfl
  have c:=pJ e a;rw[b]at c;rw[c];simp only[Nat.add_one_sub_one,Nat.add_eq_zero_iff,Nat.one_ne_zero,and_false,decide_false,Bool.false_or]
  cases(l.take (j+1)).all aO <;> cases aO x <;> cases cg (l.take (j+1)) <;> cases ltB (l.getD j []) x <;> rfl
theorem ke (x y:B8):(ltB y x=true/\Op.bytesLess x y=false/\(x==y)=false)\/(ltB y x=false/\Op.bytesLess x y=true)\/(ltB y x=false/\Op.bytesLess x y=false/\(x==y)=true):=by
 rw[gp]
 cases a:ltB y x with
 | true =>
  refine .inl ⟨rfl,kf a,?_⟩;rw[beq_eq_false_iff_ne];exact fun e=>(iI a) e.symm
 | false =>
  by_cases b:x=y
  .subst b;exact .inr (.inr ⟨rfl,by rw[a],by simp⟩)
  .exact .inr (.inl ⟨rfl,iJ a (fun e=>b e.symm)⟩)
theorem qA (v:Value) (l:List B8) (w:World) (L:IsStrs w v l) (K:∀s∈l,s.length<=140737488355328) :
  Calls Tryz.prog 148 #[v] w fun e U=>e=.returned (.bool (eX l))/\Ext w U:=by
 obtain⟨a,c,rfl,Y,Z,l3,J⟩:=L.get;have N:Hid _:=J;have O:Hid _:=K;clear L J K;go_enter Tryz.func148,Tryz.ntmps148;go_wp2;go_loopw [7] (fun i wr=>∃k:Nat,k<=l.length/\i=.int .i64 k/\Hid (lq l k=true)/\Hid (Ext w wr)) (fun i _=>l.length - (intOf i).toNat)
 case atStart=>exact⟨0,Nat.zero_le _,rfl,rfl,Ext.refl _⟩
 case round =>
  obtain⟨k,Q,rfl,H,A⟩:=hrel
  by_cases b:k<l.length
  .obtain ⟨x,t⟩:∃x,l[k]? = some x:=⟨_,List.getElem?_eq_getElem b⟩;obtain⟨X,oo,rfl,B⟩:=N.out k b;have T:=O.out x (List.mem_of_getElem? t);have G:=A.out.cell (B k b);rw[show l.getD k []=x by rw[List.getD_eq_getElem?_getD,t];rfl]at G;have d:=zq t;rw[H.out,Bool.true_and]at d;obtain⟨F,o⟩:∃F,aO x=F:=⟨_,rfl⟩;rw[o]at d;have y:Hid _:=o;have n:Hid _:=d;have M:Hid _:=B;clear d o t B;go_wp2_with fail;go_at_call 35;refine(kr x wr (by omega)).mono ?_;rw[y.out];rintro e V ⟨rfl,p⟩;have g:Hid (Ext w V):=A.out.trans p;have y2:=p.cell G;clear p G
   cases F with
   | false =>
    have q:Hid (eX l=false):=tV (k:=k+1) (by rw[n.out];rfl);go_wp2;go_ret;exact⟨aM q.out.symm,g.out⟩
   | true =>
    by_cases C:k=0
    .subst C;have u:Hid (lq l 1=true):=by unfold Hid;rw[n.out];rfl
     go_wp2;go_roundw
     case rel=>exact⟨1,by omega,by go_num,u,g⟩
     case measure=>simp[intOf];omega
    .obtain ⟨j,rfl⟩:∃j,k=j+1:=⟨k - 1,by omega⟩;have S:IntKind.i64.wrap (((j+1:Nat):Int) - 1)=(j:Int):=by rw[IntWalk.i64_in _ (by omega)];omega
     have W:=g.out.cell (M.out j (by omega));obtain⟨z,E⟩:∃z,l.getD j []=z:=⟨_,rfl⟩;rw[E]at W;have d:=n.out;rw[show j+1 - 1=j from rfl,E]at d;have h:Hid _:=d;have R:(0:Int)<((j+1:Nat):Int):=by omega
     clear E d;rcases ke x z with⟨b,I,P⟩ | ⟨b,I⟩ | ⟨b,I,P⟩
     .have u:Hid (lq l (j+1+1)=true):=by unfold Hid;rw[h.out,b];simp
      clear b;go_wp2;go_roundw
      case rel=>exact⟨j+1+1,by omega,by go_num,u,g⟩
      case measure=>simp[intOf];omega
     iterate 2
      .have q:Hid (eX l=false):=tV (k:=j+1+1) (by rw[h.out,b];simp);clear b;go_wp2;go_ret;exact⟨aM q.out.symm,g.out⟩
  .have D:k=l.length:=by omega
   have q:Hid (eX l=decide (l.length<=2)):=by
    have r:=H.out;unfold lq at r;rw[D,List.take_length,Bool.and_eq_true]at r;unfold Hid eX;rw[r.1,r.2,Bool.true_and,Bool.true_and]
   clear Q;go_wp2;go_ret;refine⟨aM ?_,A.out⟩;rw[q.out];exact decide_eq_decide.2 (by omega)
def itC (x:Itm):List Value:=[.int .i64 x.mode,S8 x.name,S8 x.id]
def IsItms (w:World) (v:Value) (l:List Itm):Prop:=Row w v l.length (l.flatMap itC)
abbrev obV (o:Ob) (a b c:Value):Value:=.agg #[.int .i64 o.kind,a,b,S8 o.tree,c,.int .i64 o.GZ,.int .i64 o.GY,S8 o.msg]
def IsOb (w:World) (v:Value) (o:Ob):Prop:=∃a b c,v=obV o a b c/\IsBytes w a o.data/\IsItms w b o.items/\IsStrs w c o.parents
variable {w w':World} {v:Value}
theorem IsItms.ext {l:List Itm} (h:IsItms w v l) (a:Ext w w'):IsItms w' v l:=Row.ext h a
theorem IsOb.ext {o:Ob} (h:IsOb w v o) (a:Ext w w'):IsOb w' v o:=by
 obtain⟨e,g,i,rfl,b,c,d⟩:=h;exact⟨e,g,i,rfl,b.ext a,c.ext a,d.ext a⟩
theorem vy:∀(l:List Itm) (k:Nat) (x:Itm),l[k]? = some x->(l.flatMap itC)[3*k]? = some (.int .i64 x.mode)/\(l.flatMap itC)[3*k+1]? = some (S8 x.name)/\(l.flatMap itC)[3*k+2]? = some (S8 x.id)
 | [],k,x,h=>by simp at h
 | y::l,0,x,h=>by
  simp only[List.getElem?_cons_zero,Option.some.injEq]at h;subst h;exact⟨rfl,rfl,rfl⟩
 | y::l,k+1,x,h=>by
  simp only[List.getElem?_cons_succ]at h;have a:=vy l k x h;rw[List.flatMap_cons];have e:itC y=[.int .i64 y.mode,S8 y.name,S8 y.id]:=rfl;rw[e,show 3*(k+1)=3*k+1+1+1 by omega];exact a
theorem IsItms.get {l:List Itm} (h:IsItms w v l):∃a c,v=.slice a l.length c/\l.length<=c/\l.length<=140737488355328/\c<=9223372036854775807 /\
  ∀k x,l[k]? = some x->∃b o,a=some ⟨b,o,none⟩/\w.cell? ⟨b,o+k*3,none⟩=some (.int .i64 x.mode)/\w.cell? ⟨b,o+k*3+1,none⟩=some (S8 x.name)/\w.cell? ⟨b,o+k*3+2,none⟩=some (S8 x.id):=by
 obtain⟨a,c,rfl,n,p,q,r⟩:=h;refine⟨a,c,rfl,n,q,p,fun k x t=>?_⟩;obtain⟨d,i,j⟩:=vy l k x t;obtain⟨b,o,rfl,g⟩:=r (by intro e;rw[e]at d;simp at d);refine⟨b,o,rfl,?_,?_,?_⟩
 .have:=g _ _ d;rwa [Nat.mul_comm]at this
 .have:=g _ _ i;rwa [Nat.mul_comm,<-Nat.add_assoc]at this
 .have:=g _ _ j;rwa [Nat.mul_comm,<-Nat.add_assoc]at this
theorem tP (o:Ob) (G H E:Value) (w:World) (D:IsStrs w E o.parents) :
  Calls Tryz.prog 146 #[obV o G H E] w fun e w'=>e=.returned (.bool (ni o))/\Ext w w':=by
 obtain⟨x,q,l,d,a,c,b,h⟩:=o;obtain⟨K,L,rfl,I,J,p3,-⟩:=D.get;obtain⟨r,y⟩:∃r,ni ⟨x,q,l,d,a,c,b,h⟩=r:=⟨_,rfl⟩;rw[y];have u:((d==[]) && ((a.length==0) && ((c==0) && ((b==0) && (h==[])))))=r:=y;have n:Hid _:=u;clear y u D;unfold obV;dsimp only;go_enter Tryz.func146,Tryz.ntmps146
 by_cases i:d=[]
 .have z:(d==([]:B8))=true:=by simpa using i
  by_cases j:a.length=0
  .have F:((a.length:Int)==0)=true:=by rw[beq_iff_eq];omega
   by_cases k:c=0
   .have A:(c==0)=true:=by simpa using k
    by_cases p:b=0
    .have B:(b==0)=true:=by simpa using p
     by_cases t:h=[]
     .have C:(h==([]:B8))=true:=by simpa using t
      have g:Hid (r=true):=by unfold Hid;rw[<-n.out,i,j,k,p,t];rfl
      clear i j k p t;go_wp2;go_ret;exact⟨aM g.out.symm,(Ext.refl w).alloc _⟩
     .have C:(h==([]:B8))=false:=by simpa using t
      have g:Hid (r=false):=by unfold Hid;rw[<-n.out,C];simp
      clear i j k p t;go_wp2;go_ret;exact⟨aM g.out.symm,(Ext.refl w).alloc _⟩
    .have B:(b==0)=false:=by simpa using p
     have g:Hid (r=false):=by unfold Hid;rw[<-n.out,B];simp
     clear i j k p;go_wp2;go_ret;exact⟨aM g.out.symm,(Ext.refl w).alloc _⟩
   .have A:(c==0)=false:=by simpa using k
    have g:Hid (r=false):=by unfold Hid;rw[<-n.out,A];simp
    clear i j k;go_wp2;go_ret;exact⟨aM g.out.symm,(Ext.refl w).alloc _⟩
  .have F:((a.length:Int)==0)=false:=by rw[beq_eq_false_iff_ne];omega
   have g:Hid (r=false):=by unfold Hid;rw[<-n.out,show(a.length==0)=false by simpa using j];simp
   clear i j;go_wp2;go_ret;exact⟨aM g.out.symm,(Ext.refl w).alloc _⟩
 .have z:(d==([]:B8))=false:=by simpa using i
  have g:Hid (r=false):=by unfold Hid;rw[<-n.out,z];simp
  clear i;go_wp2;go_ret;exact⟨aM g.out.symm,(Ext.refl w).alloc _⟩
end
section
open Go Go.RowKit Go.Sort
def itT (l:List Itm) (k:Nat):Bool:=(l.take k).all cP && cg ((l.take k).map (·.name))
variable {l:List Itm} {k:Nat}
theorem Cw (h:itT l k=false):eF l=false:=by
 unfold itT at h;unfold eF;rw[Bool.and_eq_false_iff]at h ⊢;rcases h with h | h
 .left;rw[List.all_eq_false]at h ⊢;obtain⟨x,d,c⟩:=h;exact⟨x,List.mem_of_mem_take d,c⟩
 .right;rw[Bool.and_eq_false_iff];left
  cases b:cg (l.map (·.name))with
  | false=>rfl
  | true =>
   have a:=mC (l.map (·.name)) k b;rw[<-List.map_take,h]at a;cases a
def l8:Itm:=⟨0,[],[]⟩
variable {x:Itm}
theorem AT (a:l[k]? = some x):itT l (k+1)=(itT l k && (cP x && (decide (k=0) || ltB (l.getD (k - 1) l8).name x.name))):=by
 unfold itT;have b:l.take (k+1)=l.take k++[x]:=by rw[List.take_add_one,a];rfl
 cases k with
 | zero =>
  rw[b];simp[cg]
 | succ j =>
  have g:j<l.length:=by have:=(List.getElem?_eq_some_iff.1 a).1;omega
  have h:l[j]? = some (l.getD j l8):=by rw[List.getD_eq_getElem?_getD,List.getElem?_eq_getElem g];rfl
  have d:(l.map (·.name))[j]? = some (l.getD j l8).name:=by rw[List.getElem?_map,h];rfl
  have e:(l.map (·.name))[j+1]? = some x.name:=by rw[List.getElem?_map,a];rfl
  have c:=pJ d e;rw[<-List.map_take,<-List.map_take]at c;rw[c,b,List.all_append];simp only[List.all_cons,List.all_nil,Bool.and_true,Nat.add_one_sub_one,Nat.add_eq_zero_iff,Nat.one_ne_zero,and_false,decide_false,Bool.false_or]
  cases(l.take (j+1)).all cP <;> cases cP x <;> cases cg ((l.take (j+1)).map (·.name)) <;> cases ltB (l.getD j l8).name x.name <;> rfl
variable {t r b:Bool}
theorem su (h:t = !r) (a:t=(cP x && b)) (c:cP x=false):r=true:=by
 rw[c,Bool.false_and]at a;rw[a]at h;cases r
 .cases h
 .rfl
theorem DW (h:t = !r) (a:t=(cP x && b)) (c:b=false):r=true:=by
 rw[c,Bool.and_false]at a;rw[a]at h;cases r
 .cases h
 .rfl
theorem yP (h:t = !r) (a:t=(cP x && b)) (d:cP x=true) (c:b=true):r=false:=by
 rw[d,c]at a;rw[a]at h;cases r
 .rfl
 .cases h
def uZ (l:List Itm):Prop:=∀x∈l,x.name.length<=140737488355328/\x.id.length<=140737488355328
theorem tK (v:Value) (l:List Itm) (w:World) (hv:IsItms w v l) (hs:uZ l) :
  Calls Tryz.prog 147 #[v] w fun e w'=>e=.returned (.bool (eF l))/\Ext w w':=by
 obtain⟨a,c,rfl,l1,l2,l3,hg⟩:=hv.get;have HG:Hid _:=hg;have HS:Hid _:=hs;clear hv hg hs;go_enter Tryz.func147,Tryz.ntmps147;go_wp2;go_loopw [7] (fun i wr=>∃k:Nat,k<=l.length/\i=.int .i64 k/\Hid (itT l k=true)/\Hid (Ext w wr)) (fun i _=>l.length - (intOf i).toNat)
 case atStart=>exact⟨0,Nat.zero_le _,rfl,rfl,Ext.refl _⟩
 case round =>
  obtain⟨k,hk,rfl,HT,H⟩:=hrel
  by_cases ai:k<l.length
  .obtain ⟨x,hx⟩:∃x,l[k]? = some x:=⟨_,List.getElem?_eq_getElem ai⟩;obtain⟨bb,oo,rfl,T,U,V⟩:=HG.out k x hx;obtain⟨ao,am⟩:=HS.out x (List.mem_of_getElem? hx);have L:=AT hx;rw[HT.out,Bool.true_and]at L;have u:Hid _:=L;have D:Hid (∀j,k=j+1->wr.cell? ⟨bb,oo+j*3+1,none⟩=some (S8 (l.getD j l8).name)):=fun j hj=>by
    subst hj;have Y:j<l.length:=by omega
    obtain⟨b2,o2,W,-,F,-⟩:=HG.out j (l.getD j l8) (by rw[List.getD_eq_getElem?_getD,List.getElem?_eq_getElem Y];rfl);cases W;exact H.out.cell F
   have y0:=H.out.cell T;have y1:=H.out.cell U;have y2:=H.out.cell V;obtain⟨h,name,id⟩:=x;dsimp only at y0 y1 y2 ao am;clear L hx T U V;go_upto_region 4 with fail;obtain⟨C,E⟩:∃C,C=wr.alloc (.cells #[.int .i64 h,S8 name,S8 id] 173):=⟨_,rfl⟩;have N:Ext wr C:=by rw[E];exact(Ext.refl _).alloc _
   have I:C.heap[wr.heap.size]? = some (.cells #[.int .i64 h,S8 name,S8 id] 173 (0,0)):=by rw[E];exact ah _ _
   rw[<-E];obtain⟨gi,X⟩:∃gi,wr.heap.size=gi:=⟨_,rfl⟩;rw[X]at I ⊢;obtain⟨z0,z1,z2⟩:=cD I;have ad:Hid (Ext w C):=H.out.trans N;have ab:Hid (∀j,k=j+1->C.cell? ⟨bb,oo+j*3+1,none⟩=some (S8 (l.getD j l8).name)):=fun j hj=>N.cell (D.out j hj)
   have v0:=fun d A=>cell_regrown z0 d A
   have v1:=fun d A=>cell_regrown z1 d A
   have v2:=fun d A=>cell_regrown z2 d A
   obtain⟨nb,J⟩:∃nb,bM name=nb:=⟨_,rfl⟩;obtain⟨vb,M⟩:∃vb,aO id=vb:=⟨_,rfl⟩;have Q:Hid _:=J;have R:Hid _:=M;have t:Hid (∀d A,Calls Tryz.prog 54 #[S8 name] (grow (redrawn C d) A) fun e w'=>e=.returned (.bool nb)/\∃q:Regrown,w'=grow (redrawn C q.d) q.os):=fun d A =>
    (oB name _ (by omega)).mono (fun _ _ ⟨W,hw⟩=>⟨by rw[W,J],⟨d,A⟩,hw⟩)
   have y:Hid (∀d A,Calls Tryz.prog 35 #[S8 id] (grow (redrawn C d) A) fun e w'=>e=.returned (.bool vb)/\∃q:Regrown,w'=grow (redrawn C q.d) q.os):=fun d A=>Calls.regrown_of (by
    have F:=kr id (grow (redrawn C d) A) (by omega)
    rwa [M]at F)
   obtain⟨r,G⟩:∃c,itT l (k+1) = !c:=⟨!itT l (k+1),by simp⟩;have p:Hid _:=G;clear E N I X z0 z1 z2 y0 y1 y2 J M G D H;go_cut [46] (fun c wx=>c=.bool r/\Ext C wx)
   case first =>
    by_cases h1:h<1
    .have B:Hid (r=true):=su p.out u.out (by unfold cP;rw[decide_eq_false (by omega:¬1<=h)];rfl);refine cr (by kernel_rfl) (by kernel_rfl) ?_
     repeat (refine db (fun K g=>?_);go_simp;first | (refine g _ ?_;clear g K) | (apply Exists.intro;refine⟨fun _=>?_,g _ ?_⟩;(first | exact t.out _ _ | exact y.out _ _);clear g K))
     refine dz ?_;intro _ n;obtain⟨⟨O,osq⟩,b⟩:=n;subst b;go_wp2_with fail;go_meet
     case rel=>exact⟨by rw[B.out],Ext.G4 _ _ _⟩
    by_cases h2:4<h
    .have B:Hid (r=true):=su p.out u.out (by unfold cP;rw[decide_eq_false (by omega:¬h<=4)];simp);refine cr (by kernel_rfl) (by kernel_rfl) ?_
     repeat (refine db (fun K g=>?_);go_simp;first | (refine g _ ?_;clear g K) | (apply Exists.intro;refine⟨fun _=>?_,g _ ?_⟩;(first | exact t.out _ _ | exact y.out _ _);clear g K))
     refine dz ?_;intro _ n;obtain⟨⟨O,osq⟩,b⟩:=n;subst b;go_wp2_with fail;go_meet
     case rel=>exact⟨by rw[B.out],Ext.G4 _ _ _⟩
    cases nb with
    | false =>
     have B:Hid (r=true):=su p.out u.out (by unfold cP;rw[Q.out];simp);refine cr (by kernel_rfl) (by kernel_rfl) ?_
     repeat (refine db (fun K g=>?_);go_simp;first | (refine g _ ?_;clear g K) | (apply Exists.intro;refine⟨fun _=>?_,g _ ?_⟩;(first | exact t.out _ _ | exact y.out _ _);clear g K))
     refine dz ?_;intro _ n;obtain⟨⟨O,osq⟩,b⟩:=n;subst b;go_wp2_with fail;go_meet
     case rel=>exact⟨by rw[B.out],Ext.G4 _ _ _⟩
    | true =>
    cases vb with
    | false =>
     have B:Hid (r=true):=su p.out u.out (by unfold cP;rw[R.out];simp);refine cr (by kernel_rfl) (by kernel_rfl) ?_
     repeat (refine db (fun K g=>?_);go_simp;first | (refine g _ ?_;clear g K) | (apply Exists.intro;refine⟨fun _=>?_,g _ ?_⟩;(first | exact t.out _ _ | exact y.out _ _);clear g K))
     refine dz ?_;intro _ n;obtain⟨⟨O,osq⟩,b⟩:=n;subst b;go_wp2_with fail;go_meet
     case rel=>exact⟨by rw[B.out],Ext.G4 _ _ _⟩
    | true =>
    have P:Hid (cP ⟨h,name,id⟩=true):=by unfold Hid cP;rw[decide_eq_true (by omega:1<=h),decide_eq_true (by omega:h<=4),Q.out,R.out];rfl
    by_cases Z:k=0
    .have B:Hid (r=false):=yP p.out u.out P.out (by rw[Z];rfl);subst Z;refine cr (by kernel_rfl) (by kernel_rfl) ?_
     repeat (refine db (fun K g=>?_);go_simp;first | (refine g _ ?_;clear g K) | (apply Exists.intro;refine⟨fun _=>?_,g _ ?_⟩;(first | exact t.out _ _ | exact y.out _ _);clear g K))
     refine dz ?_;intro _ n;obtain⟨⟨O,osq⟩,b⟩:=n;subst b;go_wp2_with fail;go_meet
     case rel=>exact⟨by rw[B.out],Ext.G4 _ _ _⟩
    .obtain ⟨j,rfl⟩:∃j,k=j+1:=⟨k - 1,by omega⟩;have a1:IntKind.i64.wrap (((j+1:Nat):Int) - 1)=(j:Int):=by rw[IntWalk.i64_in _ (by omega)];omega
     have y3:=ab.out j rfl;obtain⟨z,hz⟩:∃z,(l.getD j l8).name=z:=⟨_,rfl⟩;rw[hz]at y3;have v3:=fun d A=>cell_regrown y3 d A
     have av:(0:Int)<((j+1:Nat):Int):=by omega
     have au:IntKind.i64.wrap (j:Int)=(j:Int):=IntWalk.i64_in _ (by omega);have a0:(0:Int)<(j:Int)+1:=by omega
     have Y:j<l.length:=by omega
     have HZ:Hid _:=hz;clear hz y3;rcases ke name z with⟨o,hb,W⟩ | ⟨o,hb⟩ | ⟨o,hb,W⟩
     .have B:Hid (r=false):=yP p.out u.out P.out (by rw[show j+1 - 1=j from rfl,HZ.out,o];simp);clear o;refine cr (by kernel_rfl) (by kernel_rfl) ?_
      repeat (refine db (fun K g=>?_);go_simp;first | (refine g _ ?_;clear g K) | (apply Exists.intro;refine⟨fun _=>?_,g _ ?_⟩;(first | exact t.out _ _ | exact y.out _ _);clear g K))
      refine dz ?_;intro _ n;obtain⟨⟨O,osq⟩,b⟩:=n;subst b;go_wp2_with fail;go_meet
      case rel=>exact⟨by rw[B.out],Ext.G4 _ _ _⟩
     iterate 2
      .have B:Hid (r=true):=DW p.out u.out (by rw[show j+1 - 1=j from rfl,HZ.out,o];simp);clear o;refine cr (by kernel_rfl) (by kernel_rfl) ?_
       repeat (refine db (fun K g=>?_);go_simp;first | (refine g _ ?_;clear g K) | (apply Exists.intro;refine⟨fun _=>?_,g _ ?_⟩;(first | exact t.out _ _ | exact y.out _ _);clear g K))
       refine dz ?_;intro _ n;obtain⟨⟨O,osq⟩,b⟩:=n;subst b;go_wp2_with fail;go_meet
       case rel=>exact⟨by rw[B.out],Ext.G4 _ _ _⟩
   case rest =>
    obtain⟨rfl,aa⟩:=hcut;have S:Hid (Ext w wc):=ad.out.trans aa;clear aa
    cases r with
    | true =>
     have HF:Hid (eF l=false):=Cw (k:=k+1) (by rw[p.out];rfl);go_wp2;go_ret;exact⟨aM HF.out.symm,S.out⟩
    | false =>
     have HP:Hid (itT l (k+1)=true):=by unfold Hid;rw[p.out];rfl
     go_wp2;go_roundw
     case rel=>exact⟨k+1,by omega,by go_num,HP,S⟩
     case measure=>simp[intOf];omega
  .have ag:k=l.length:=by omega
   have HF:Hid (eF l=decide (l.length<=256)):=by
    have F:=HT.out;unfold itT at F;rw[ag,List.take_length,Bool.and_eq_true]at F;unfold Hid eF;rw[F.1,F.2,Bool.true_and,Bool.true_and]
   clear hk;go_wp2;go_ret;refine⟨aM ?_,H.out⟩;rw[HF.out];exact decide_eq_decide.2 (by omega)
end
end Go.Proofs.YtgfegpnmlkdjfaaGreatDoor
