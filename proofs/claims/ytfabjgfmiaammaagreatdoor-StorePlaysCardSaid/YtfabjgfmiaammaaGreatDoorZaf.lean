/- Contracts of the program's functions and plain laws behind the card. Conditions: as each theorem states. -/
import Derived.Test.YtfabjgfmiaammaaGreatDoorZae
import Derived.Defers
import Derived.Laws.Pointers
import Derived.Laws.LoneSync
import Derived.RegionCalls
import Derived.ChangeAlike
import Derived.Laws.NewBlocks
import Derived.Test.YtfabjgfmiaammaaGreatDoorZad
import Derived.Test.YtfabjgfmiaammaaGreatDoorZab
import Derived.Lib.SlBytesConst
import Derived.Test.YtfabjgfmiaammaaGreatDoorZaa
set_option linter.unusedVariables false
set_option linter.unusedSimpArgs false
set_option linter.unusedSectionVars false
set_option maxRecDepth 100000
set_option maxHeartbeats 64000000
namespace Go.Proofs.YtfabjgfmiaammaaGreatDoor
section
open Go Go.RowKit
theorem mn (w:World):(callFunc 245 #[]).run Tryz.prog w=.ok (.value (.tuple #[])) w:=run_call_mark0 Tryz.func245 (by kernel_rfl) (by kernel_rfl) (by kernel_rfl) .disable (by kernel_rfl) w
theorem nG (w:World):(callFunc 247 #[]).run Tryz.prog w=.ok (.value (.tuple #[])) w:=run_call_mark0 Tryz.func247 (by kernel_rfl) (by kernel_rfl) (by kernel_rfl) .enable (by kernel_rfl) w
theorem rU (a:Addr) (w:World):(callFunc 248 #[.pointer (some a)]).run Tryz.prog w=.ok (.value (.tuple #[])) w:=run_call_marked Tryz.func248 (by kernel_rfl) (by kernel_rfl) (by kernel_rfl) .acquire (by kernel_rfl) a w
theorem rV (a:Addr) (w:World):(callFunc 250 #[.pointer (some a)]).run Tryz.prog w=.ok (.value (.tuple #[])) w:=run_call_marked Tryz.func250 (by kernel_rfl) (by kernel_rfl) (by kernel_rfl) .releaseMerge (by kernel_rfl) a w
theorem jw (a:Addr) (x:Value) (u:FrameMode) (w:World) (i:w.cell? a=some x) (j:w.frozen? a=false) :
  CallsD Tryz.prog 228 #[.pointer (some a),.bool true] u w fun e d g=>d=u/\(e=.returned (.tuple #[])/\g=w.drew.setCell a (.int .u32 1)):=by
 have b:w.drew.cell? a=some x:=by go_simp
 have c:w.drew.frozen? a=false:=by go_simp
 have h:=run_call_store (P:=Tryz.prog) Tryz.func240 (by kernel_rfl) (by kernel_rfl) (by kernel_rfl) (by kernel_rfl) (k:=.u32) (y:=1) b c
 go_enter_d Tryz.func228,Tryz.ntmps228
 go_wp2
 go_region_calls
 all_goals (go_end0;exact⟨rfl,rfl⟩)
theorem jx (a:Addr) (u:FrameMode) (w:World) (b:w.cell? a=some (.int .i32 1)) (d:w.frozen? a=false) :
  CallsD Tryz.prog 227 #[.pointer (some a)] u w fun e g h=>g=u/\(e=.returned (.tuple #[])/\h=w.setCell a (.int .i32 0)):=by
 have j:=mn;have k:=nG;have l:=rV;have c:=run_call_add (P:=Tryz.prog) Tryz.func251 (by kernel_rfl) (by kernel_rfl) (by kernel_rfl) .i32 (by kernel_rfl) (y:=-1) (s:=0) b d (by simp[go_sem];rfl);have i:=run_convert_to_unsafe (P:=Tryz.prog) (src:=271) (dst:=275) Tryz.underlying271 Tryz.underlying275 (by kernel_rfl) b
 go_enter_d Tryz.func227,Tryz.ntmps227
 go_wp2
 go_end0
 go_wp2
 go_end0
 exact⟨rfl,rfl⟩
theorem pu (a:Addr) (w:World) (c:w.cell? a=some (.int .i32 0)) (g:w.frozen? a=false) :
  Calls Tryz.prog 226 #[.pointer (some a)] w fun e h=>e=.returned (.tuple #[])/\h=w.setCell a (.int .i32 1):=by
 have j:=mn;have k:=nG;have l:=rU;have d:=run_call_cas_hit (P:=Tryz.prog) Tryz.func246 (by kernel_rfl) (by kernel_rfl) (by kernel_rfl) .i32 (by kernel_rfl) (y:=1) c g;have b:(w.setCell a (.int .i32 1)).cell? a=some (.int .i32 1):=World.cell?_setCell_same w a _ c;have i:=run_convert_to_unsafe (P:=Tryz.prog) (src:=271) (dst:=275) Tryz.underlying271 Tryz.underlying275 (by kernel_rfl) b;go_enter Tryz.func226,Tryz.ntmps226;go_wp2
 first | go_end0 | (simp only[Exit.inBlock,Exit.then];refine bodyPost_ret (results_none rfl _ _ _) rfl ?_) | refine bodyPost_ret (results_none rfl _ _ _) rfl ?_
 go_wp2
 go_end0
 exact⟨rfl,rfl⟩
structure EnvS (w:World):Prop where
 sq:∃fr,w.heap[0]? = some (.cells (df.map U32).toArray 216 fr)
 cu:∃fr,w.heap[1]? = some (.cells (dI.map U32).toArray 217 fr)
variable {w w':World}
theorem EnvS.fr {O:Nat->Prop} (h:EnvS w) (b:Fr O w w') (c:∀k,O k->2<=k):EnvS w':=by
 obtain⟨d,e⟩:=h.sq;obtain⟨g,i⟩:=h.cu;exact⟨⟨d,b.row e (fun a=>by have:=c _ a;revert this;decide)⟩,⟨g,b.row i (fun a=>by have:=c _ a;revert this;decide)⟩⟩
theorem EnvS.ext (h:EnvS w) (a:Ext w w'):EnvS w':=h.fr (O:=fun _=>False) (Fr.BO a) (fun _ b=>b.elim)
theorem EnvS.two (h:EnvS w):2<=w.heap.size:=by
 obtain⟨c,a⟩:=h.cu;obtain⟨d,b⟩:=h.sq;have e:=(Array.getElem?_eq_some_iff.1 a).1;have g:=(Array.getElem?_eq_some_iff.1 b).1;omega
def cM (d m s:Int):List Value:=[.int .u32 d,.int .i32 m,.int .u32 s]
def bT (o X:List Value):Array Value:=(o++X).toArray
theorem xX (b:Nat) (o X:List Value) (w:World) (B:o.length=3) (I:X.length=72) (C:EnvS w) (Y:2<=b) (J:w.heap[b]? = some (.cells (bT o X) 219 (0,0))) :
  Calls Tryz.prog 181 #[.pointer (some ⟨b,0,none⟩)] w fun e w'=>e=.returned (.tuple #[])/\w'.heap[b]? = some (.cells (dX o) 219 (0,0))/\Fr (fun k=>k=b) w w':=by
 obtain⟨Q,K⟩:=C.sq;obtain⟨R,L⟩:=C.cu;have i:(df.map U32).toArray.size=8:=by simp;rfl
 have d:(dI.map U32).toArray.size=64:=by simp;rfl
 have l:∀v∈(df.map U32).toArray.toList,v.oneCell'=true:=by intro v q;simp only[List.toList_toArray,List.mem_map]at q;obtain⟨x,-,rfl⟩:=q;rfl
 have g:∀v∈(dI.map U32).toArray.toList,v.oneCell'=true:=by intro v q;simp only[List.toList_toArray,List.mem_map]at q;obtain⟨x,-,rfl⟩:=q;rfl
 generalize r:(df.map U32).toArray=a at K i l;generalize n:(dI.map U32).toArray=c at L d g;have S:(bT o X).size=75:=by unfold bT;simp[B,I]
 have M:(bT o (a.toList++X.drop 8)).size=75:=by unfold bT;simp[B,I,i]
 have T:a.toList.length=8:=by rw[Array.length_toList];exact i
 have N:c.toList.length=64:=by rw[Array.length_toList];exact d
 have t:bT o (a.toList++X.drop 8)=((bT o X).toList.take 3++a.toList++(bT o X).toList.drop (3+a.size)).toArray:=by
  unfold bT;simp only[List.toList_toArray];have D:(o++X).drop (3+a.size)=X.drop 8:=by
   have E:o.drop (3+8)=[]:=List.drop_eq_nil_of_le (by omega);rw[i,List.drop_append,E,List.nil_append,B]
  rw[List.take_left' B,D,List.append_assoc]
 have u:dX o=((bT o (a.toList++X.drop 8)).toList.take 11++c.toList++(bT o (a.toList++X.drop 8)).toList.drop (11+c.size)).toArray:=by
  have U:dX o=(o++(a.toList++c.toList)).toArray:=by rw[<-r,<-n];rfl
  rw[U];unfold bT;simp only[List.toList_toArray];have D:(o++(a.toList++X.drop 8)).drop (11+c.size)=[]:=List.drop_eq_nil_of_le (by rw[List.length_append,List.length_append,List.length_drop];omega);have V:(o++(a.toList++X.drop 8)).take 11=o++a.toList:=by rw[<-List.append_assoc];exact List.take_left' (by rw[List.length_append];omega)
  rw[D,V,List.append_nil,List.append_assoc]
 have F:Hid _:=t;have G:Hid _:=u;clear t u r n C;go_enter Tryz.func181,Tryz.ntmps181
 go_wp2_with (first
  | (refine wpList_load_row rfl 216 _ rfl 0 rfl 216 a Q _ K Tryz.underlying216 rfl (by rw[i];exact iO) ?_)
  | (refine wpList_load_row rfl 217 _ rfl 1 rfl 217 c R _ L Tryz.underlying217 rfl (by rw[d];exact gF) ?_)
  | (refine fT rfl 216 _ _ rfl b 3 rfl a rfl l _ (bT o X) J (by omega) (by rw[i];exact iO) _ F.out ?_;intro Z y z)
  | (refine fT rfl 217 _ _ rfl b 11 rfl c rfl g _ (bT o (a.toList++X.drop 8)) y (by omega) (by rw[d];exact gF) _ G.out ?_;intro w3 H A))
 go_end0
 have O:∀ {P:World} {W:Array Value},P.heap[b]? = some (.cells W 219 (0,0))->¬IsU8 P b:=fun h=>ao h (by kernel_rfl)
 exact⟨rfl,H,((Fr.refl _ w).step z (fun j p=>by cases p;exact .inl rfl) (by rintro j p;cases p;exact O J)).step A (fun j p=>by cases p;exact .inl rfl) (by rintro j p;cases p;exact O y)⟩
variable {b j:Nat} {X:List Value} {v:Value}
theorem ln {o:List Value} (a:w.heap[b]? = some (.cells (bT o X) 219 (0,0))) (c:(o++X)[j]? = some v):w.cell? ⟨b,j,none⟩=some v :=
 (cell_of_row _ _ j _ _ _ a).trans (by unfold bT;simpa using c)
variable {cs:Array Value}
theorem ub (a:w.heap[b]? = some (.cells cs 219 (0,0))):w.frozen? ⟨b,j,none⟩=false:=by simp[World.frozen?,a]
variable {d m s x:Int}
theorem AN (a:w.heap[b]? = some (.cells (bT (cM d m s) X) 219 (0,0))):(w.setCell ⟨b,0,none⟩ (.int .u32 x)).heap[b]? = some (.cells (bT (cM x m s) X) 219 (0,0)):=by
 rw[heap_setCell_same w b 0 _ _ _ a];simp[bT,cM]
theorem vD (a:w.heap[b]? = some (.cells (bT (cM d m s) X) 219 (0,0))):(w.setCell ⟨b,1,none⟩ (.int .i32 x)).heap[b]? = some (.cells (bT (cM d x s) X) 219 (0,0)):=by
 rw[heap_setCell_same w b 1 _ _ _ a];simp[bT,cM]
theorem xY (d:w.heap[b]? = some (.cells cs 219 (0,0))) {O:Nat->Prop} {c:World} (h:Fr O c w) (e:O b):Fr O c (w.setCell ⟨b,j,none⟩ v) :=
 h.step (aH w b j v) (fun k a=>by cases a;exact .inl e) (by rintro k a;cases a;exact ao d (by kernel_rfl))
theorem jy (a:Addr) (x:Int) (y:Bool) (w:World) (b:w.cell? a=some (.int .u32 x)) (c:(x != 0)=y) :
  Calls Tryz.prog 185 #[.pointer (some a)] w fun e w'=>e=.returned (.bool y)/\w'=w:=by
 have g:=run_call_load (P:=Tryz.prog) Tryz.func225 (by kernel_rfl) (by kernel_rfl) (by kernel_rfl) .u32 (by kernel_rfl) b;go_enter Tryz.func185,Tryz.ntmps185;go_wp2;go_ret;exact⟨by first | rfl | rw[c],rfl⟩
theorem vE (b:Nat) (s:Int) (X:List Value) (w:World) (G:X.length=72) (C:EnvS w) (D:2<=b) (p:w.heap[b]? = some (.cells (bT (cM 0 0 s) X) 219 (0,0))) :
  Calls Tryz.prog 186 #[.pointer (some ⟨b,0,none⟩),.func (.func 181) #[.pointer (some ⟨b,0,none⟩)] #[]] w fun e w'=>e=.returned (.tuple #[])/\w'.heap[b]? = some (.cells (dX (cM 1 0 s)) 219 (0,0))/\Fr (fun k=>k=b) w w':=by
 have i:=vD (x:=1) p;have h:Fr (fun k=>k=b) w (w.setCell ⟨b,1,none⟩ (.int .i32 1)):=xY p (Fr.refl _ w) rfl;have l:EnvS (w.setCell ⟨b,1,none⟩ (.int .i32 1)):=C.fr h (fun k r=>by subst r;exact D);have E:∀(x:Bool) (w:World),(Op.unary .not (.bool x)).run Tryz.prog w=.ok (.bool (!x)) w:=fun _ _=>rfl
 have n:Hid _:=i;have t:Hid _:=h;have F:Hid _:=p;have u:Hid (EnvS (w.setCell ⟨b,1,none⟩ (.int .i32 1))):=l;clear i h C l p
 go_enter_defers Tryz.func186,Tryz.ntmps186
 go_wp2_with (first | (go_at_call 226;go_must (refine(pu ⟨b,1,none⟩ w (ln F.out rfl) (ub F.out)).mono ?_;rintro e w' ⟨rfl,rfl⟩)) | (go_at_call 185;go_must (refine(jy ⟨b,0,none⟩ 0 false _ (ln n.out rfl) rfl).mono ?_;rintro e w' ⟨rfl,rfl⟩)) | (go_at_call 181;go_must (refine(xX b (cM 0 1 s) X _ rfl G u.out D n.out).mono ?_;rintro e q ⟨rfl,o,y⟩)))
 have c:q.heap[b]? = some (.cells (bT (cM 0 1 s) (df.map U32++dI.map U32)) 219 (0,0)):=o;have g:q.drew.heap[b]? = some (.cells (bT (cM 0 1 s) (df.map U32++dI.map U32)) 219 (0,0)):=o;have a:=AN (x:=1) g;have z:=vD (x:=0) a;have A:Fr (fun k=>k=b) w (((q.drew.setCell ⟨b,0,none⟩ (.int .u32 1))).setCell ⟨b,1,none⟩ (.int .i32 0)):=xY a (xY g ((t.out.trans (y.mono (fun k r=>.inl r))).ext (Ext.refl _).drew) rfl) rfl;refine leaves_cons (f:=228) (args:=#[.pointer (some ⟨b,0,none⟩),.bool true]) (by simp) (by simp[go_sem]) ?_;refine(jw ⟨b,0,none⟩ (.int .u32 0) .returning q (ln c rfl) (ub c)).mono ?_;rintro e H B ⟨rfl,rfl,rfl⟩;refine leaves_cons (f:=227) (args:=#[.pointer (some ⟨b,1,none⟩)]) (by simp[Go.settle]) (by simp[go_sem]) ?_;refine(jx ⟨b,1,none⟩ _ _ (ln a rfl) (ub a)).mono ?_;rintro e H B ⟨rfl,rfl,rfl⟩;simp[Leaves,Go.settle,results,Tryz.results186];exact⟨z,A⟩
theorem zV (b:Nat) (s:Int) (X:List Value) (w:World) (n:X.length=72) (g:EnvS w) (o:2<=b) (h:w.heap[b]? = some (.cells (bT (cM 0 0 s) X) 219 (0,0))) :
  Calls Tryz.prog 129 #[.pointer (some ⟨b,0,none⟩),.func (.func 181) #[.pointer (some ⟨b,0,none⟩)] #[]] w fun e w'=>e=.returned (.tuple #[])/\w'.heap[b]? = some (.cells (dX (cM 1 0 s)) 219 (0,0))/\Fr (fun k=>k=b) w w':=by
 have i:∀(x:Bool) (w:World),(Op.unary .not (.bool x)).run Tryz.prog w=.ok (.bool (!x)) w:=fun _ _=>rfl
 have l:Hid _:=h;have p:Hid (EnvS w):=g;clear h g;go_enter Tryz.func129,Tryz.ntmps129
 go_wp2_with (first | (go_at_call 185;go_must (refine(jy ⟨b,0,none⟩ 0 false _ (ln l.out rfl) rfl).mono ?_;rintro e w' ⟨rfl,rfl⟩)) | (go_at_call 186;go_must (refine(vE b s X _ n p.out o l.out).mono ?_;rintro e q ⟨rfl,a,c⟩)))
 go_end0
 exact⟨rfl,a,c⟩
end
section
open Go Go.RowKit
theorem AO:Tryz.zeroCells219=bT (cM 0 0 0) (List.replicate 72 (.int .u32 0)):=by first | rfl | kernel_rfl
def zX:List Value:=List.replicate 72 (.int .u32 0)
theorem zW (w:World) (K:EnvS w):Calls Tryz.prog 123 #[] w fun e L=>(∃H I:Nat,e=.returned (.pointer (some ⟨H,0,none⟩))/\H≠I/\w.heap.size<=H/\w.heap.size<=I/\L.heap[I]? = some (.cells (dX (cM 1 0 0)) 219 (0,0))/\L.heap[H]? = some (.cells (bf I df (.slice none 0 0) (0:Nat)) 221 (0,0)))/\Ext w L:=by
 obtain⟨g,h⟩:∃g,g=w.alloc (.cells (bT (cM 0 0 0) zX) 219):=⟨_,rfl⟩;have l:Ext w g:=by rw[h];exact(Ext.refl _).alloc _
 have p:g.heap[w.heap.size]? = some (.cells (bT (cM 0 0 0) zX) 219 (0,0)):=by rw[h];exact ab _ _
 have q:EnvS g:=K.ext l;have Y:=K.two;have M:Hid _:=p;have N:Hid (EnvS g):=q;have O:Hid (Ext w g):=l;have P:Hid _:=h;clear p q l h K;have Z:∀(W:Fn) (first r:Array Value) (w:World),(Instr.makeFunc W first r).run Tryz.prog w=.ok (.func W first r) w:=fun _ _ _ _=>rfl
 go_enter Tryz.func123,Tryz.ntmps123;go_upto_region 2 with fail;rw[show w.alloc (.cells Tryz.zeroCells219 219)=g from(congrArg (fun c=>w.alloc (.cells c 219)) AO).trans P.out.symm];generalize Tryz.zeroCells219=zc;go_upto_region 3 with(go_at_call 129;go_must (refine(zV w.heap.size 0 zX g rfl N.out Y M.out).mono ?_;rintro e b ⟨rfl,i,t⟩));have n:Ext w b:=Ext.B5 O.out t (fun k J=>by cases J;exact Nat.le_refl _);obtain⟨u,x,y,z,A,B,C,D,Q⟩:=gS (show df.length=8 from rfl);have J:dX (cM 1 0 0)=(cM 1 0 0++([u,x,y,z,A,B,C,D].map U32++dI.map U32)).toArray:=by unfold dX;rw[Q]
 have a:=i;rw[J]at a;have c1:b.cell? ⟨w.heap.size,3,none⟩=some (U32 u):=(cell_of_row _ _ 3 _ _ _ a).trans rfl;have c2:b.cell? ⟨w.heap.size,4,none⟩=some (U32 x):=(cell_of_row _ _ 4 _ _ _ a).trans rfl;have c3:b.cell? ⟨w.heap.size,5,none⟩=some (U32 y):=(cell_of_row _ _ 5 _ _ _ a).trans rfl;have c4:b.cell? ⟨w.heap.size,6,none⟩=some (U32 z):=(cell_of_row _ _ 6 _ _ _ a).trans rfl;have c5:b.cell? ⟨w.heap.size,7,none⟩=some (U32 A):=(cell_of_row _ _ 7 _ _ _ a).trans rfl;have c6:b.cell? ⟨w.heap.size,8,none⟩=some (U32 B):=(cell_of_row _ _ 8 _ _ _ a).trans rfl;have c7:b.cell? ⟨w.heap.size,9,none⟩=some (U32 C):=(cell_of_row _ _ 9 _ _ _ a).trans rfl;have c8:b.cell? ⟨w.heap.size,10,none⟩=some (U32 D):=(cell_of_row _ _ 10 _ _ _ a).trans rfl;have X:=(Array.getElem?_eq_some_iff.1 i).1;obtain⟨o,j⟩:∃o,o=b.alloc (.cells (bf w.heap.size [u,x,y,z,A,B,C,D] (.slice none 0 0) (0:Nat)) 221):=⟨_,rfl⟩;have E:Ext b o:=by rw[j];exact(Ext.refl _).alloc _
 have F:o.heap[b.heap.size]? = some (.cells (bf w.heap.size [u,x,y,z,A,B,C,D] (.slice none 0 0) (0:Nat)) 221 (0,0)):=by rw[j];exact ab _ _
 have R:Hid (Ext w b):=n;have G:Hid (Ext b o):=E;have S:Hid _:=F;have T:Hid _:=j;have U:Hid _:=i;have HH:Hid _:=Q;have V:=n.size;clear i a J t Q n E F j;go_wp2_with fail;go_ret;rw[HH.out];have d:b.alloc (.cells (bf w.heap.size [u,x,y,z,A,B,C,D] (.slice none 0 0) (0:Nat)) 221)=o:=T.out.symm;refine⟨⟨b.heap.size,w.heap.size,rfl,by omega,V,Nat.le_refl _,?_,?_⟩,?_⟩
 .exact d▸Ext.row G.out U.out
 .exact d▸S.out
 .exact d▸R.out.trans G.out
theorem rW (h:List UInt32) (l:B8):(ba h l).2.length<64:=by
 induction h,l using ba.induct with
 | case1 h l a b=>rw[ba,if_pos a];exact b
 | case2 h l a=>rw[ba,if_neg a];show l.length<64;omega
theorem zY (v:Value) (l:B8) (w:World) (X:EnvS w) (R:IsBytes w v l) (Y:l.length<=10000000) :
  Calls Tryz.prog 56 #[v] w fun e Z=>(∃v',e=.returned v'/\Z.ownsRow w.heap.size 5 1 v' 32 ((fE l).map fun x=>.int .u8 x.toNat))/\Ext w Z:=by
 have HE:Hid (EnvS w):=X;have HV:Hid (IsBytes w v l):=R;obtain⟨a,t,rfl,h1,h2,h3,h4⟩:=R.get;have n:∀(k:Nat),w.heap.size<=k->∀d,Out (fun j=>j=k) d (.slice a l.length t):=by
  intro k hk d a' n' c' he ad;simp only[Value.slice.injEq]at he;obtain⟨rfl,rfl,rfl⟩:=he;obtain⟨b,o,u,hc⟩:=h4 0 (by omega);cases u;have S:=World.block_lt_of_cell? _ _ (hc 0 (by omega));exact .inl (fun h=>by dsimp only at h S;omega)
 have B:Hid (∀(k:Nat),w.heap.size<=k->∀d,Out (fun j=>j=k) d (.slice a l.length t)):=n;clear h4 n R X;go_enter Tryz.func56,Tryz.ntmps56;go_upto_region 2 with(go_at_call 123;go_must (refine(zW w HE.out).mono ?_;rintro e d ⟨⟨u,O,rfl,C,D,au,E,F⟩,G⟩));have H:Hid _:=E;have T:Hid _:=F;have I:Hid (Ext w d):=G;clear E F G;go_upto_region 3 with(go_at_call 124;go_must (refine(pm u O df (.slice none 0 0) (.slice a l.length t) [] l 0 (cM 1 0 0) d rfl rfl C (by omega) T.out H.out (IsBytes.nil _) (TypB.nil _ _ _) (HV.out.ext I.out) (B.out u D d) (by simp) Y).mono ?_;rintro e J ⟨rfl,g,y,P,c,i⟩));rw[List.nil_append]at c i;have z:Ext w J:=Ext.B5 I.out c.fr (fun k hk=>by cases hk;exact D);have p:=c.fr.row H.out (fun h=>C h.symm);have q:J.heap[u]? = some (.cells (bf O g y (l.length:Nat)) 221 (0,0)):=by
  have Q:=c.cells
  rwa [show(((0:Nat):Int)+(l.length:Int))=((l.length:Nat):Int)by omega]at Q
 have a0:P.length<64:=by
  have Q:=rW df l;rw[<-i]at Q;exact Q
 have r:fE l=(ba g (P++ir l.length)).1.flatMap ed:=by unfold fE;rw[<-i]
 have U:Hid (Ext w J):=z;have K:Hid (Wr d J u O (ba df l) (((0:Nat):Int)+l.length) g y P):=c;have L:Hid _:=p;have M:Hid _:=q;have N:Hid _:=r;have V:=z.size;clear z p q r c i
 go_wp2_with (go_at_call 125;go_must (refine(xW u O g y P l.length (cM 1 0 0) J K.out.BP rfl Y M.out L.out K.out.bytes (by omega)).mono ?_;rintro e w3 ⟨⟨v3,rfl,A⟩,W⟩))
 go_ret;rw[N.out];exact⟨⟨_,rfl,jd A V⟩,U.out.trans W⟩
theorem Bl (l:B8) {w:World} {a:Nat} {v:Value} (h:w.ownsRow a 5 1 v 32 ((fE l).map fun x=>.int .u8 x.toNat)):(fE l).length=32:=by
 have b:=h.1;simpa using b
theorem AP (v:Value) (l:B8) (w:World) (h:EnvS w) (i:IsBytes w v l) (n:l.length<=10000000) :
  Calls Tryz.prog 21 #[v] w fun e o=>e=.returned (S8 (aV l))/\Ext w o:=by
 have p:Hid (EnvS w):=h;have q:Hid (IsBytes w v l):=i;clear i h;go_enter Tryz.func21,Tryz.ntmps21
 go_wp2_with (first
  | (go_at_call 56;go_must (refine(zY v l w p.out q.out n).mono ?_;rintro e j ⟨⟨k,rfl,a⟩,b⟩;have c:=Bl l a;have d:IsBytes j k (fE l):=by unfold IsBytes;rw[c];exact Row.BM a (by omega)))
  | (go_at_call 55;go_must (refine(sM k (fE l) j d (by omega)).mono ?_;rintro e r ⟨rfl,g⟩)))
 go_ret;exact⟨rfl,b.trans g⟩
end
section
open Go Go.RowKit
def bZ (d m s:Int) (a:Value) (id:B8) (n:Int):Array Value:=#[.int .u32 d,.int .i32 m,.int .u32 s,a,S8 id,.int .i64 n]
variable {w:World} {g j:Nat} {d m s n:Int} {vb v:Value} {id:B8}
theorem fU (a:w.heap[g]? = some (.cells (bZ d m s vb id n) 177 (0,0))) (b:(bZ d m s vb id n)[j]? = some v):w.cell? ⟨g,j,none⟩=some v :=
 (cell_of_row _ _ j _ _ _ a).trans b
variable {cs:Array Value}
theorem nH {t:TypeId} (a:w.heap[g]? = some (.cells cs t (0,0))):w.frozen? ⟨g,j,none⟩=false:=by simp[World.frozen?,a]
variable {x:Int}
theorem zZ (a:w.heap[g]? = some (.cells (bZ d m s vb id n) 177 (0,0))):(w.setCell ⟨g,0,none⟩ (.int .u32 x)).heap[g]? = some (.cells (bZ x m s vb id n) 177 (0,0)):=by
 rw[heap_setCell_same w g 0 _ _ _ a];simp[bZ]
theorem tj (a:w.heap[g]? = some (.cells (bZ d m s vb id n) 177 (0,0))):(w.setCell ⟨g,1,none⟩ (.int .i32 x)).heap[g]? = some (.cells (bZ d x s vb id n) 177 (0,0)):=by
 rw[heap_setCell_same w g 1 _ _ _ a];simp[bZ]
theorem z' (a:w.heap[g]? = some (.cells (bZ d m s vb id n) 177 (0,0))):(w.setCell ⟨g,5,none⟩ (.int .i64 x)).heap[g]? = some (.cells (bZ d m s vb id x) 177 (0,0)):=by
 rw[heap_setCell_same w g 5 _ _ _ a];simp[bZ]
theorem qi (i:w.heap[g]? = some (.cells cs 177 (0,0))) (c:¬IsU8 w g) {O:Nat->Prop} {b:World} (h:Fr O b w) (e:O g):Fr O b (w.setCell ⟨g,j,none⟩ v) :=
 h.step (aH w g j v) (fun k a=>by cases a;exact .inl e) (by rintro k a;cases a;exact c)
theorem Aa (g r:Nat) (d m s n:Int) (vb:Value) (b:B8) (fr:Nat×Nat) (w:World) (J:EnvS w) (y:IsBytes w vb b) (S:b.length<=10000000) (z:0<=n) (A:n<=1000000000)
  (B:w.heap[g]? = some (.cells (bZ d m s vb [] n) 177 (0,0))) (C:w.heap[r]? = some (.cells #[.pointer (some ⟨g,0,none⟩)] 123 fr)) (D:g≠r) :
  Calls Tryz.prog 130 #[.pointer (some ⟨r,0,none⟩)] w fun e K=>e=.returned (.tuple #[])/\K.heap[g]? = some (.cells (bZ d m s vb (aV b) (n+1)) 177 (0,0))/\Fr (fun k=>k=g) w K:=by
 have L:∀ {M:World} {T:Array Value},M.heap[g]? = some (.cells T 177 (0,0))->¬IsU8 M g:=fun h=>ao h (by kernel_rfl)
 have U:Hid (EnvS w):=J;have V:Hid (IsBytes w vb b):=y;have W:Hid _:=B;have X:Hid _:=C;have E:=fU (j:=3) B rfl;have F:w.cell? ⟨r,0,none⟩=some (.pointer (some ⟨g,0,none⟩)):=(cell_of_row _ _ 0 _ _ _ C).trans rfl;obtain⟨N,O,rfl,-⟩:=id y;clear J y B C;go_enter Tryz.func130,Tryz.ntmps130;go_upto_region 0 with fail;apply aj 8 [_,_,_,_,_,S8 (aV b),_,_] [none,none,none,none,none,none,none,none] [[],[],[1],[2],[3],[4],[0],[6]] (by kernel_rfl) (by kernel_rfl) (by simp[ak])
 .trivial
 .simp (maxSteps:=1000000)only[List.take_succ_cons,List.take_zero,aw,aA,aa,Act.put,List.setIfInBounds_toArray,List.set_cons_zero,List.set_cons_succ,aK,aO,ak,List.getD_cons_zero,List.getD_cons_succ,and_true,true_and,forall_const];and_intros
  iterate 5 · intro G P l;intros;rename_i t;have Y:=l.cell E;have Z:=l.cell F;go_simp;exact t _ _ (Ext.refl _) rfl
  .intro G P l o R t;go_simp;exact(AP _ b _ (EnvS.ext U.out l) (IsBytes.ext V.out l) S).mono (by rintro e' w4 ⟨rfl,h4⟩;exact⟨_,rfl,t _ _ h4 rfl⟩)
  iterate 2 · intro G P l;intros;rename_i t;have Y:=l.cell E;have Z:=l.cell F;go_simp;exact t _ _ (Ext.refl _) rfl
 intro G w2 i o;simp only[aP,Nat.zero_add,Nat.reduceAdd,and_true]at o;simp(maxSteps:=1000000)only[List.take_succ_cons,List.take_zero,List.drop_succ_cons,List.drop_zero,aa,Act.put,List.setIfInBounds_toArray,List.set_cons_zero,List.set_cons_succ,Nat.zero_add,Nat.reduceAdd,o];clear o;have q:=Ext.row i W.out;have H:Hid (Ext w w2):=i;have u:=Ext.row i X.out;refine af rfl 9 (.tmp 8) (.tmp 6) rfl g 4 rfl (S8 (aV b)) rfl rfl 177 (bZ d m s (.slice N b.length O) [] n) q (Nat.le_of_ble_eq_true rfl) (by kernel_rfl) (bZ d m s (.slice N b.length O) (aV b) n) (by simp[bZ]) ?_;intro Q x a;have p:=aS a u (fun e=>D e.symm);have x3:Q.cell? ⟨r,0,none⟩=some (.pointer (some ⟨g,0,none⟩)):=(cell_of_row _ _ 0 _ _ _ p).trans rfl;have c:Hid _:=x;have I:Hid (Fr (fun k=>k=g) w Q):=(Fr.BO H.out).step a (fun k o=>by cases o;exact .inl rfl) (by rintro k o;cases o;exact L q);clear i q u p a x E F;go_wp2_with fail;go_at_call 131;refine(s8 (fU c.out rfl) (nH c.out) z A).mono ?_;rintro e w4 ⟨rfl,rfl⟩;go_wp2
 go_end0
 exact⟨rfl,z' c.out,qi c.out (L c.out) I.out rfl⟩
theorem Ab (g o:Nat) (s n:Int) (vb:Value) (b:B8) (fr:Nat×Nat) (w:World) (O:EnvS w) (P:IsBytes w vb b) (Q:TypB w vb) (V:b.length<=10000000) (B:0<=n) (C:n<=1000000000) (W:2<=g)
  (p:w.heap[g]? = some (.cells (bZ 0 0 s vb [] n) 177 (0,0))) (R:w.heap[o]? = some (.cells #[.pointer (some ⟨g,0,none⟩)] 123 fr)) (q:g≠o) :
  Calls Tryz.prog 186 #[.pointer (some ⟨g,0,none⟩),.func (.func 130) #[] #[.pointer (some ⟨o,0,none⟩)]] w fun e A=>e=.returned (.tuple #[])/\A.heap[g]? = some (.cells (bZ 1 0 s vb (aV b) (n+1)) 177 (0,0))/\Fr (fun k=>k=g) w A:=by
 have D:∀ {S:World} {X:Array Value},S.heap[g]? = some (.cells X 177 (0,0))->¬IsU8 S g:=fun h=>ao h (by kernel_rfl)
 have r:=tj (x:=1) p;have a:Fr (fun k=>k=g) w (w.setCell ⟨g,1,none⟩ (.int .i32 1)):=qi p (D p) (Fr.refl _ w) rfl;have t:EnvS (w.setCell ⟨g,1,none⟩ (.int .i32 1)):=O.fr a (fun k E=>by subst E;exact W);have u:IsBytes (w.setCell ⟨g,1,none⟩ (.int .i32 1)) vb b:=Row.B2 P Q a.keep;have y:(w.setCell ⟨g,1,none⟩ (.int .i32 1)).heap[o]? = some (.cells #[.pointer (some ⟨g,0,none⟩)] 123 fr):=a.row R (fun e=>q e.symm);have T:∀(x:Bool) (w:World),(Op.unary .not (.bool x)).run Tryz.prog w=.ok (.bool (!x)) w:=fun _ _=>rfl
 have z:Hid _:=r;have F:Hid _:=a;have U:Hid _:=p;have G:Hid (EnvS (w.setCell ⟨g,1,none⟩ (.int .i32 1))):=t;have H:Hid (IsBytes (w.setCell ⟨g,1,none⟩ (.int .i32 1)) vb b):=u;have I:Hid _:=y;clear r a O t p P u R y Q
 go_enter_defers Tryz.func186,Tryz.ntmps186
 go_wp2_with (first | (go_at_call 226;go_must (refine(pu ⟨g,1,none⟩ w (fU U.out rfl) (nH U.out)).mono ?_;rintro e A ⟨rfl,rfl⟩)) | (go_at_call 185;go_must (refine(jy ⟨g,0,none⟩ 0 false _ (fU z.out rfl) rfl).mono ?_;rintro e A ⟨rfl,rfl⟩)) | (go_at_call 130;go_must (refine(Aa g o 0 1 s n vb b fr _ G.out H.out V B C z.out I.out q).mono ?_;rintro e J ⟨rfl,l,K⟩)))
 have c:J.drew.heap[g]? = some (.cells (bZ 0 1 s vb (aV b) (n+1)) 177 (0,0)):=l;have i:=zZ (x:=1) c;have L:=tj (x:=0) i;have M:Fr (fun k=>k=g) w (((J.drew.setCell ⟨g,0,none⟩ (.int .u32 1))).setCell ⟨g,1,none⟩ (.int .i32 0)):=qi i (D i) (qi c (D c) ((F.out.trans (K.mono (fun k E=>.inl E))).ext (Ext.refl _).drew) rfl) rfl;refine leaves_cons (f:=228) (args:=#[.pointer (some ⟨g,0,none⟩),.bool true]) (by simp) (by simp[go_sem]) ?_;refine(jw ⟨g,0,none⟩ (.int .u32 0) .returning J (fU l rfl) (nH l)).mono ?_;rintro e Y N ⟨rfl,rfl,rfl⟩;refine leaves_cons (f:=227) (args:=#[.pointer (some ⟨g,1,none⟩)]) (by simp[Go.settle]) (by simp[go_sem]) ?_;refine(jx ⟨g,1,none⟩ _ _ (fU i rfl) (nH i)).mono ?_;rintro e Y N ⟨rfl,rfl,rfl⟩;simp[Leaves,Go.settle,results,Tryz.results186];exact⟨L,M⟩
theorem Bm (g a:Nat) (s n:Int) (vb:Value) (b:B8) (fr:Nat×Nat) (w:World) (q:EnvS w) (r:IsBytes w vb b) (t:TypB w vb) (B:b.length<=10000000) (c:0<=n) (h:n<=1000000000) (C:2<=g)
  (u:w.heap[g]? = some (.cells (bZ 0 0 s vb [] n) 177 (0,0))) (y:w.heap[a]? = some (.cells #[.pointer (some ⟨g,0,none⟩)] 123 fr)) (i:g≠a) :
  Calls Tryz.prog 129 #[.pointer (some ⟨g,0,none⟩),.func (.func 130) #[] #[.pointer (some ⟨a,0,none⟩)]] w fun e l=>e=.returned (.tuple #[])/\l.heap[g]? = some (.cells (bZ 1 0 s vb (aV b) (n+1)) 177 (0,0))/\Fr (fun k=>k=g) w l:=by
 have z:∀(x:Bool) (w:World),(Op.unary .not (.bool x)).run Tryz.prog w=.ok (.bool (!x)) w:=fun _ _=>rfl
 have A:Hid _:=u;have D:Hid (EnvS w):=q;have E:Hid (IsBytes w vb b):=r;have F:Hid (TypB w vb):=t;have G:Hid _:=y;clear u q r y t;go_enter Tryz.func129,Tryz.ntmps129
 go_wp2_with (first | (go_at_call 185;go_must (refine(jy ⟨g,0,none⟩ 0 false _ (fU A.out rfl) rfl).mono ?_;rintro e l ⟨rfl,rfl⟩)) | (go_at_call 186;go_must (refine(Ab g a s n vb b fr _ D.out E.out F.out B c h C A.out G.out i).mono ?_;rintro e H ⟨rfl,o,p⟩)))
 go_end0
 exact⟨rfl,o,p⟩
def zD (w:World) (b:B8) (v:Value) (w':World):Prop:=∃(g:Nat) (vb:Value),v=.pointer (some ⟨g,0,none⟩)/\w'.heap[g]? = some (.cells (bZ 0 0 0 vb [] 0) 177 (0,0))/\IsBytes w' vb b/\TypB w' vb/\w.heap.size<=g
theorem jQ (v:Value) (b:B8) (w:World) (p:IsBytes w v b) (z:b.length<=10000000) :
  Calls Tryz.prog 73 #[v] w fun e q=>(∃u,e=.returned u/\zD w b u q)/\Ext w q:=by
 have x:Hid (IsBytes w v b):=p;clear p;go_enter Tryz.func73,Tryz.ntmps73;go_wp2_with fail;go_at_call 54;refine(eB v b w x.out (by omega)).mono ?_;rintro e a ⟨⟨vb,rfl,i⟩,r⟩;have k:=i.bytes;obtain⟨l,o,rfl,-⟩:=k;have y:Hid (IsData _ a (.slice l b.length o) b):=i;have t:Hid (Ext w a):=r;clear i r;go_wp2;go_ret;have c:Ext a (a.alloc (.cells (bZ 0 0 0 (.slice l b.length o) [] 0) 177)):=(Ext.refl _).alloc _;have h:=IsData.ext y.out c;exact⟨⟨_,rfl,a.heap.size,.slice l b.length o,rfl,ab _ _,h.bytes,h.typed,t.out.size⟩,t.out.trans c⟩
theorem kz (l w:World) (b:B8) (v:Value) (B:EnvS w) (Q:2<=l.heap.size) (C:Ext l w) (H:zD l b v w) (I:b.length<=10000000) :
  Calls Tryz.prog 74 #[v] w fun e J=>e=.returned (S8 (aV b))/\Ext l J:=by
 obtain⟨g,vb,rfl,y,D,E,z⟩:=H;have K:Hid (EnvS w):=B;have L:Hid _:=y;have M:Hid (IsBytes w vb b):=D;have N:Hid (TypB w vb):=E;have O:Hid (Ext l w):=C;have F:g<w.heap.size:=(Array.getElem?_eq_some_iff.1 y).1;clear B y D E C;go_enter Tryz.func74,Tryz.ntmps74;go_wp2_with fail;go_at_call 129;obtain⟨o,h⟩:∃o,w.heap.size=o:=⟨_,rfl⟩;obtain⟨p,c⟩:∃p,w.alloc (.cells #[.pointer (some ⟨g,0,none⟩)] 123)=p:=⟨_,rfl⟩;have q:Ext w p:=by rw[<-c];exact(Ext.refl _).alloc _
 have r:p.heap[o]? = some (.cells #[.pointer (some ⟨g,0,none⟩)] 123 (0,0)):=by rw[<-c,<-h];exact ab _ _
 have t:g≠o:=by omega
 rw[h,c];have u:Hid _:=r;have a:Hid (Ext w p):=q;clear c h q r;refine(Bm g o 0 0 vb b (0,0) p (K.out.ext a.out) (IsBytes.ext M.out a.out) (N.out.keep (KeepB.BO a.out)) I (by omega) (by omega) (by omega) (Ext.row a.out L.out) u.out t).mono ?_;rintro e G ⟨rfl,x,i⟩;have A:Hid (Ext l G):=Ext.B5 (O.out.trans a.out) i (fun k P=>by subst P;exact z);have R:G.cell? ⟨o,0,none⟩=some (.pointer (some ⟨g,0,none⟩)):=(cell_of_row _ _ 0 _ _ _ (i.row u.out (fun e=>t e.symm))).trans rfl;have S:=fU (j:=4) x rfl;clear x i;go_wp2;go_ret;exact⟨rfl,A.out⟩
theorem oC (w:World):Calls Tryz.prog 28 #[] w fun e a=>e=.returned (.pointer (some ⟨w.heap.size,0,none⟩))/\a.heap[w.heap.size]? = some (.cells #[.int .i64 0] 133 (0,0))/\Ext w a:=by
 go_enter Tryz.func28,Tryz.ntmps28;go_wp2;go_ret;exact⟨rfl,ab _ _,(Ext.refl _).alloc _⟩
variable {c:Int}
theorem xZ (a:w.cell? ⟨g,0,none⟩=some (.int .i64 c)) (b:w.frozen? ⟨g,0,none⟩=false) (e:0<=c) (h:c<=1000000000) :
  (callFunc 187 #[.pointer (some ⟨g,0,none⟩),.int .i64 1]).run Tryz.prog w=.ok (.value (.int .i64 (c+1))) (w.setCell ⟨g,0,none⟩ (.int .i64 (c+1))) :=
 run_call_add (P:=Tryz.prog) Tryz.func187 (by kernel_rfl) (by kernel_rfl) (by kernel_rfl) .i64 (by kernel_rfl) (y:=1) (s:=c+1) a b (by
  have:=IntWalk.i64_in (c+1) (by omega);simp[go_sem,this])
theorem x' (a:w.cell? ⟨g,0,none⟩=some (.int .i64 c)) (b:w.frozen? ⟨g,0,none⟩=false) (h:0<=c) (i:c<=1000000000) :
  Calls Tryz.prog 131 #[.pointer (some ⟨g,0,none⟩),.int .i64 1] w fun e k=>e=.returned (.int .i64 (c+1))/\k=w.setCell ⟨g,0,none⟩ (.int .i64 (c+1)):=by
 have l:=xZ a b h i;go_enter Tryz.func131,Tryz.ntmps131;go_wp2;go_ret;exact⟨rfl,rfl⟩
theorem oD (a:w.heap[g]? = some (.cells #[.int .i64 c] 133 (0,0))) (h:0<=c) (i:c<=1000000000) :
  Calls Tryz.prog 132 #[.pointer (some ⟨g,0,none⟩),.int .i64 1] w fun e b=>e=.returned (.int .i64 (c+1))/\b.heap[g]? = some (.cells #[.int .i64 (c+1)] 133 (0,0))/\w.grownBy b (some g):=by
 have k:w.cell? ⟨g,0,none⟩=some (.int .i64 c):=(cell_of_row _ _ 0 _ _ _ a).trans rfl;have l:w.frozen? ⟨g,0,none⟩=false:=by simp[World.frozen?,a]
 have o:Hid _:=a;have p:IntKind.i64.wrap (c+1)=c+1:=IntWalk.i64_in _ (by omega);clear a;go_enter Tryz.func132,Tryz.ntmps132;go_wp2_with fail;go_at_call 131;refine(x' k l h i).mono ?_;rintro e q ⟨rfl,rfl⟩;go_wp2;go_ret;exact⟨rfl,by rw[heap_setCell_same w g 0 _ _ _ o.out];simp,aH w g 0 _⟩
end
section
open Go Go.RowKit
structure Opn where
 (kind mode keep BN:Int)
 (path dest data:B8)
 (plan:List Ev)
structure jR (o:Opn):Prop where
 path:o.path.length<=400
 dest:o.dest.length<=400
 Cd:o.plan.length<=60
 ev:∀e∈o.plan,I64 e.keep/\I64 e.BN/\e.path.length<=400
 keep:I64 o.keep
 BN:I64 o.BN
def fC (m:Fs) (o:Opn):Fs :=
 if o.kind=0 then(bY m o.path o.mode o.data).1
 else if o.kind=1 then(bD m o.path o.mode o.data).1
 else if o.kind=2 then(aN m o.path o.dest false).1
 else if o.kind=3 then(aN m o.path o.dest true).1
 else if o.kind=4 then(bz m o.path).1
 else if o.kind=5 then(dg m).1
 else if o.kind=6 then(aE m o.path).1
 else if o.kind=7 then(bm m o.path).1
 else if o.kind=8 then(aM m o.path o.mode o.data).1
 else if o.kind=9 then(aL m o.path).1
 else if o.kind=10 then cS m o.keep o.BN
 else if o.kind=11 then fd m
 else if o.kind=12 then gP m o.plan
 else m
variable {m:Fs} {N:Nat}
theorem cV (h:OkM m) (c:m.plan.length<=N):Left m (aB m).1 N/\(aB m).1.calls=m.calls+1:=by
 obtain⟨x,a,b⟩:=qA h;rw[b];exact⟨⟨a.ok,by have:=a.time;omega,a.Ci,a.plan,a.room⟩,a.calls⟩
variable {path:B8}
theorem lp {mode:Int} {data:B8} {only:Bool} (h:OkM m) (c:m.plan.length<=N):Left m (jP (aB m) path mode data only).1 (N+1):=by
 have a:=(cV h c).1;unfold jP;split
 .exact a.mono (by omega)
 .split
  .exact a.mono (by omega)
  .rename_i d;have b:=fZ (by simpa using d);split
   .exact a.mono (by omega)
   .exact a.trans (vo a.ok b.1 b.2.2.2)
theorem kA {s d:B8} {b:Bool} (h:OkM m) (j:m.plan.length<=N):Left m (aN m s d b).1 (N+1):=by
 have a:=(cV h j).1;unfold aN mvM;split
 .exact a.mono (by omega)
 .split
  .exact a.mono (by omega)
  .rename_i c;split
   .exact a.mono (by omega)
   .rename_i i;split
    .exact a.mono (by omega)
    .split
     .exact a.mono (by omega)
     .rename_i g;split
      .exact a.mono (by omega)
      .refine a.trans (li a.ok ?_ (fun l n e=>?_))
       .simp only[not_or,Bool.not_eq_false]at c;exact⟨c.1,c.2,g⟩
       .cases e
        cases k:ax (aB m).1.now s with
        | none=>rw[k]at i;simp at i
        | some f=>rfl
theorem lq (h:OkM m) (b:m.plan.length<=N):Left m (bz m path).1 (N+1):=by
 have a:=(cV h b).1;unfold bz;split
 .exact a.mono (by omega)
 .exact a.trans (qC a.ok)
theorem ue (h:OkM m) (b:m.plan.length<=N):Left m (dg m).1 (N+1):=by
 have a:=(cV h b).1;unfold dg;split
 .exact (a.trans (rQ a.ok)).mono (by omega)
 .exact a.mono (by omega)
theorem qM (m:Fs) (path:B8):(aE m path).1=(aB m).1:=by
 unfold aE;split
 .rfl
 .split
  .rfl
  .split <;> rfl
theorem mQ (m:Fs) (path:B8):(bm m path).1=(aB m).1:=by
 unfold bm;split
 .rfl
 .split
  .rfl
  .split <;> rfl
structure Good (n:Nat) (m:Fs):Prop where
 ok:OkM m
 plan:fy m
 Cd:m.plan.length<=60
 time:m.time<=80*n
 calls:m.calls<=100*n
 B4:0<=m.room
 B3:m.room<=1073741824
variable {n:Nat}
theorem Good.left {m':Fs} (h:Good n m) (a:Left m m' 61) (b:m'.calls<=m.calls+1):Good (n+1) m' :=
 ⟨a.ok,⟨by rw[a.plan];exact h.plan.len,by rw[a.plan];exact h.plan.ev⟩,by rw[a.plan];exact h.Cd,by have:=a.time;have:=h.time;omega,by have:=h.calls;omega,by rw[a.room];exact h.B4,by rw[a.room];exact h.B3⟩
theorem mR (h:OkM m) (e:Ev):Left m (em m e) 1/\(em m e).calls=m.calls :=
 ⟨⟨vj h e,(mM m e).2,(mM m e).1,(kw m e).1,(kw m e).2.2⟩,(kw m e).2.1⟩
theorem lr (m:Fs) (path:B8) (mode:Int) (data:B8) (only:Bool):(jP (aB m) path mode data only).1.calls=(aB m).1.calls:=by
 unfold jP;split
 .rfl
 .split
  .rfl
  .split
   .rfl
   .unfold bj;split
    .rfl
    .split <;> rfl
theorem kB (m:Fs) (s d:B8) (a:Bool):(aN m s d a).1.calls=(aB m).1.calls:=by
 unfold aN mvM;split
 .rfl
 .split
  .rfl
  .split
   .rfl
   .split
    .rfl
    .split
     .rfl
     .split <;> rfl
theorem lu (m:Fs) (path:B8):(bz m path).1.calls=(aB m).1.calls:=by
 unfold bz;split
 .rfl
 .unfold aD;split
  .rfl
  .split <;> rfl
theorem uf (m:Fs):(dg m).1.calls=(aB m).1.calls:=by
 unfold dg;split <;> rfl
theorem yb (h:OkM m) (L:List Ev):OkM (gP m L):=h.same rfl rfl rfl h.B6 (Nat.le_refl _)
theorem vF (h:OkM m):OkM (fd m):=h.same rfl rfl rfl h.B6 (Nat.le_refl _)
theorem vG (h:Good n m) {L:List Ev} (c:L.length<=60) (a:∀e∈L,I64 e.keep/\I64 e.BN/\e.path.length<=400):Good n (gP m L):=by
 have d:(gP m L).plan.length<=L.length:=List.length_filter_le _ _;exact⟨yb h.ok L,⟨by omega,fun e b=>a e (List.mem_filter.1 b).1⟩,by omega,h.time,h.calls,h.B4,h.B3⟩
theorem rX (h:Good n m):Good n (fd m):=⟨vF h.ok,⟨h.plan.len,h.plan.ev⟩,h.Cd,h.time,h.calls,h.B4,h.B3⟩
theorem Good.mono {k:Nat} (h:Good n m) (a:n<=k):Good k m:=⟨h.ok,h.plan,h.Cd,by have:=h.time;omega,by have:=h.calls;omega,h.B4,h.B3⟩
theorem dj {c:Prop} [Decidable c] {a b:Fs} (d:Good n a) (e:Good n b):Good n (if c then a else b):=by
 by_cases h:c
 .rw [if_pos h];exact d
 .rw [if_neg h];exact e
theorem vH {o:Opn} (h:Good n m) (g:jR o):Good (n+1) (fC m o):=by
 have A:=(cV h.ok h.Cd).2;have B:=h.calls;have a:(aB m).1.calls<=m.calls+1:=by omega
 have i:=mR h.ok ⟨0,4,o.mode,0,0,o.path,o.data⟩;have j:=mR h.ok ⟨0,5,o.mode,0,0,o.path,o.data⟩;have b:=mR h.ok ⟨0,1,0,o.keep,o.BN,[],[]⟩;have l:Good (n+1) (bY m o.path o.mode o.data).1:=h.left (lp h.ok h.Cd) (by rw[show(bY m o.path o.mode o.data).1.calls=_ from lr m _ _ _ _];exact a);have p:Good (n+1) (bD m o.path o.mode o.data).1:=h.left (lp h.ok h.Cd) (by rw[show(bD m o.path o.mode o.data).1.calls=_ from lr m _ _ _ _];exact a);have q:Good (n+1) (aN m o.path o.dest false).1:=h.left (kA h.ok h.Cd) (by rw[kB];exact a);have r:Good (n+1) (aN m o.path o.dest true).1:=h.left (kA h.ok h.Cd) (by rw[kB];exact a);have t:Good (n+1) (bz m o.path).1:=h.left (lq h.ok h.Cd) (by rw[lu];exact a);have u:Good (n+1) (dg m).1:=h.left (ue h.ok h.Cd) (by rw[uf];exact a);have k:Good (n+1) (aB m).1:=h.left ((cV h.ok h.Cd).1.mono (by omega)) a;have w:Good (n+1) (aM m o.path o.mode o.data).1:=h.left (i.1.mono (by omega)) (by have:=i.2;show(em m ⟨0,4,o.mode,0,0,o.path,o.data⟩).calls<=_;omega);have x:Good (n+1) (aL m o.path).1:=h.left (j.1.mono (by omega)) (by have:=j.2;show(em m ⟨0,5,o.mode,0,0,o.path,o.data⟩).calls<=_;omega);have c:Good (n+1) (cS m o.keep o.BN):=h.left (b.1.mono (by omega)) (by have:=b.2;show(em m ⟨0,1,0,o.keep,o.BN,[],[]⟩).calls<=_;omega);have d:Good (n+1) (fd m):=(rX h).mono (by omega);have e:Good (n+1) (gP m o.plan):=(vG h g.Cd g.ev).mono (by omega);have y:Good (n+1) (aE m o.path).1:=by rw[qM];exact k
 have z:Good (n+1) (bm m o.path).1:=by rw[mQ];exact k
 exact dj l (dj p (dj q (dj r (dj t (dj u (dj y (dj z (dj w (dj x (dj c (dj d (dj e (h.mono (by omega))))))))))))))
end
section
open Go Go.RowKit
end
section
open Go Go.RowKit
end
section
open Go Go.RowKit
theorem tu {a:World} (b:Env a):2<a.heap.size:=by
 obtain⟨m,c⟩:=b;exact World.block_lt_of_cell? _ _ c
structure One (w0:World) (S O:Nat->Prop) (w:World) (f:Value) (m:Fs):Prop where
 ext:Ext w0 w
 fs:IsFs S O (fun k=>k<w.heap.size) w f m
 lo:∀k,O k->w0.heap.size<=k/\k<w.heap.size
 Cc:∀k,S k->w0.heap.size<=k/\k<w.heap.size
 BU:∀k,S k->¬O k
section
variable {w0 w w':World} {S O:Nat->Prop} {f:Value} {m m':Fs} {n:Nat}
theorem One.Ce (h:One w0 S O w f m) (a:Env w0):NoG O:=fun k b e=>by have:=h.lo k b;have:=tu a;omega
theorem One.fin (h:One w0 S O w f m) (c:Env w0) (a:Good n m) (d:n<=80000):FsIn S O (fun k=>k<w.heap.size) w f m:=by
 have e:=a.time;have g:=a.calls;exact⟨c.ext h.ext,h.fs,a.ok,a.plan,by omega,by omega,h.Ce c,fun k b=>⟨h.BU k b,(h.Cc k b).2⟩,fun k b=>(h.lo k b).2,a.B4,a.B3⟩
theorem One.more (h:One w0 S O w f m) (b:Ext w w'):One w0 S O w' f m:=by
 have c:=b.size;exact⟨h.ext.trans b,(h.fs.ext b).mono (fun _ h=>h) (fun k a=>Nat.lt_of_lt_of_le a c),fun k a=>by have:=h.lo k a;omega,fun k a=>by have:=h.Cc k a;omega,h.BU⟩
theorem One.post (h:One w0 S O w f m) (c:FsPost S O (fun k=>k<w.heap.size) w f m' w'):One w0 S (Nw O w w') w' f m':=by
 have e:=c.fr.size;have d:=h.ext.size;refine⟨Ext.B5 h.ext c.fr (fun k a=>(h.lo k a).1),c.fs.mono (fun _ h=>h) (fun k a=>by rcases a with a | a <;> omega),fun k a=>?_,fun k a=>by have:=h.Cc k a;omega,fun k a b=>?_⟩
 .rcases a with a | a
  .have:=h.lo k a;omega
  .exact ⟨by omega,a.2⟩
 .rcases b with b | b
  .exact h.BU k a b
  .have:=h.Cc k a;omega
end
variable {w:World} {room:Int}
theorem One.new {w':World} {p:Value} (h:IsFs (fun _=>False) (Nu w w') (fun _=>False) w' p (eV room)) (b:Ext w w'):One w (fun _=>False) (Nu w w') w' p (eV room) :=
 ⟨b,h.mono (fun _ h=>h) (fun _ h=>h.elim),fun k a=>a,fun k a=>a.elim,fun k a=>a.elim⟩
theorem qN (a:0<=room) (b:room<=1073741824):Good 0 (eV room) :=
 ⟨(vB room).1,(vB room).2,Nat.zero_le _,Nat.le_refl _,Nat.le_refl _,a,b⟩
theorem qO {g:Nat} {x:UInt8} {fr:Nat×Nat} (h:w.heap[g]? = some (.cells #[.int .u8 (x.toNat:Int)] 5 fr)):IsBytes w (.slice (some ⟨g,0,none⟩) 1 1) [x]:=Row.new h (by decide) _ rfl
theorem yd (s p:B8):(Lib.trimPrefix s p).length<=s.length:=by
 unfold Lib.trimPrefix;split
 .rw [List.length_drop];omega
 .exact Nat.le_refl _
variable {m:Fs} {dir:B8}
theorem nI (h:OkM m) (d:fy m):∀s∈(bm m dir).2.1,s.length<=200:=by
 have c:=(cd h d).1.ok;have b:∀s∈aG (aB m).1.now,s.length<=200:=fun s a=>by
  obtain⟨e,g,rfl⟩:=List.mem_map.1 a;exact nu (c.Cg e g).1
 unfold bm;intro s a;split at a
 .cases a
 .split at a
  .exact b s a
  .split at a
   .cases a
   .exact b s (List.mem_filter.1 a).1
theorem ye (h:OkM m) (c:fy m) (e:m.time<=7000000):(bm m dir).2.1.length<=7001000:=by
 have b:=(cd h c).1;have g:=b.ok.BY;have d:=b.time;have a:(aG (aB m).1.now).length<=7001000:=by unfold aG;rw[List.length_map];omega
 unfold bm;split
 .exact Nat.zero_le _
 .split
  .exact a
  .split
   .exact Nat.zero_le _
   .exact Nat.le_trans (List.length_filter_le _ _) a
end
section
open Go Go.RowKit
def IsRowR (R:Nat->Prop) (w:World) (cs:List Value) (e:B8×Fi):Prop:=e.1.length<=10000000/\∃v,cs=[S8 e.1,.int .i64 e.2.mode,v,.int .i64 e.2.time]/\IsData R w v e.2.data
variable {w:World} {cs:List Value} {e:B8×Fi}
theorem IsRowR.mono {R R':Nat->Prop} (h:IsRowR R w cs e) (a:∀k,R k->R' k):IsRowR R' w cs e:=by
 obtain⟨b,v,c,d⟩:=h;exact⟨b,v,c,d.mono a⟩
variable {w':World}
theorem IsRowR.BQ {R:Nat->Prop} (h:IsRowR R w cs e) (a:KeepR R w w'):IsRowR R w' cs e:=by
 obtain⟨b,v,c,d⟩:=h;exact⟨b,v,c,d.BQ a⟩
theorem IsRowR.length {R:Nat->Prop} (h:IsRowR R w cs e):cs.length=4/\cs.all (·.oneCell')=true:=by
 obtain⟨_,v,rfl,a⟩:=h;obtain⟨_,_,rfl,_⟩:=a.bytes;exact⟨rfl,by simp[Value.oneCell']⟩
theorem IsRowR.bound {R:Nat->Prop} (h:IsRowR R w cs e):IsRowR (fun k=>R k/\k<w.heap.size) w cs e:=by
 obtain⟨a,v,b,c⟩:=h;exact⟨a,v,b,c.bound⟩
def IsOp (R:Nat->Prop) (w:World) (cs:List Value):Ch->Prop
 | .put p f=>p.length<=10000000/\∃v,cs=[.int .i64 1,S8 [],S8 p,.int .i64 f.mode,v,.int .i64 f.time]/\IsData R w v f.data
 | .mv s d=>s.length<=10000000/\d.length<=10000000/\cs=[.int .i64 2,S8 s,S8 d,.int .i64 0,.slice none 0 0,.int .i64 0]
 | .del p=>p.length<=10000000/\cs=[.int .i64 3,S8 p,S8 [],.int .i64 0,.slice none 0 0,.int .i64 0]
variable {c:Ch}
theorem IsOp.mono {R R':Nat->Prop} (h:IsOp R w cs c) (a:∀k,R k->R' k):IsOp R' w cs c:=by
 cases c with
 | put p f =>
  obtain⟨b,v,g,i⟩:=h;exact⟨b,v,g,i.mono a⟩
 | mv s d=>exact h
 | del p=>exact h
theorem IsOp.BQ {R:Nat->Prop} (h:IsOp R w cs c) (a:KeepR R w w'):IsOp R w' cs c:=by
 cases c with
 | put p f =>
  obtain⟨b,v,g,i⟩:=h;exact⟨b,v,g,i.BQ a⟩
 | mv s d=>exact h
 | del p=>exact h
theorem IsOp.length {R:Nat->Prop} (h:IsOp R w cs c):cs.length=6/\cs.all (·.oneCell')=true:=by
 cases c with
 | put p f =>
  obtain⟨_,v,rfl,a⟩:=h;obtain⟨_,_,rfl,_⟩:=a.bytes;exact⟨rfl,by simp[Value.oneCell']⟩
 | mv s d=>obtain⟨_,_,rfl⟩:=h;exact⟨rfl,by simp[Value.oneCell']⟩
 | del p=>obtain⟨_,rfl⟩:=h;exact⟨rfl,by simp[Value.oneCell']⟩
theorem IsOp.bound {R:Nat->Prop} (h:IsOp R w cs c):IsOp (fun k=>R k/\k<w.heap.size) w cs c:=by
 cases c with
 | put p f =>
  obtain⟨a,v,b,g⟩:=h;exact⟨a,v,b,g.bound⟩
 | mv s d=>exact h
 | del p=>exact h
variable {v:Value}
theorem ReadL.lt {α:Type} {t:TypeId} {p:List Value->α->Prop} {xs:List α} (h:ReadL w t p v xs):∀k,v.ownBlock=some k->k<w.heap.size:=fun k a=>by
 obtain⟨cs,c,b⟩:=h.typed k a;exact(Array.getElem?_eq_some_iff.1 b).1
theorem ReadL.nil {α:Type} (w:World) (t:TypeId) (p:List Value->α->Prop):ReadL w t p (.slice none 0 0) []:=⟨[],Row.nil _,Typed.nil _ _ _ _,Each.nil _⟩
theorem OwnL.nil {α:Type} (w:World) (t:TypeId) (a:Nat) (p:List Value->α->Prop):OwnL w t a p (.slice none 0 0) []:=⟨[],World.ownsRow_nil _ _ _ _,Each.nil _⟩
abbrev bG (R:Nat->Prop) (w:World) (v:Value) (l:aq):Prop:=ReadL w 164 (IsRowR R w) v l
variable {l:aq}
theorem ReadL.rows {R:Nat->Prop} (h:bG R w v l) (a:∀k,v.ownBlock=some k->w'.heap[k]? = w.heap[k]?) (b:KeepR R w w'):bG R w' v l :=
 (ReadL.stay h a).mono (fun c x d=>d.BQ b)
theorem ReadL.BV {R:Nat->Prop} (h:bG R w v l) (a:Ext w w'):bG R w' v l :=
 h.rows (fun k b=>a.block k (h.lt k b)) (KeepR.BS (KeepB.BO a))
theorem ReadL.B7 {R R':Nat->Prop} (h:bG R w v l) (a:∀k,R k->R' k):bG R' w v l :=
 h.mono (fun c x b=>b.mono a)
structure bc where
 w:World
def ci [Inhabited bc]:World:=(default:bc).w
variable [Inhabited bc]
structure OldB (v:Value) (l:B8):Prop where
 bytes:IsBytes ci v l
 low:∀a n c,v=.slice (some a) n c->n≠0->a.block<ci.heap.size
def IsEvD (cs:List Value) (e:Ev):Prop:=∃a,cs=[.int .i64 e.t,.int .i64 e.kind,.int .i64 e.mode,.int .i64 e.keep,.int .i64 e.BN,S8 e.path,a]/\OldB a e.data/\e.path.length<=10000000
def IsEvI (cs:List Value) (e:Ev):Prop:=∃a,cs=[.int .i64 e.t,.int .i64 e.kind,.int .i64 e.mode,.int .i64 e.keep,.int .i64 e.BN,S8 e.path,a]/\OldB a e.data
theorem IsEvI.length {e:Ev} (h:IsEvI cs e):cs.length=7/\cs.all (·.oneCell')=true:=by
 obtain⟨v,rfl,a⟩:=h;obtain⟨_,_,rfl,_⟩:=a.bytes;exact⟨rfl,by simp[Value.oneCell']⟩
theorem IsEvI.up {e:Ev} (h:IsEvI cs e) (c:e.path.length<=400):IsEvD cs e:=by
 obtain⟨v,a,b⟩:=h;exact⟨v,a,b,by omega⟩
theorem IsEvD.length {e:Ev} (h:IsEvD cs e):cs.length=7/\cs.all (·.oneCell')=true:=by
 obtain⟨v,rfl,a,_⟩:=h;obtain⟨_,_,rfl,_⟩:=a.bytes;exact⟨rfl,by simp[Value.oneCell']⟩
theorem OldB.at {l:B8} (h:OldB v l) (a:Ext ci w):IsBytes w v l:=h.bytes.ext a
theorem OldB.out {l:B8} {O:Nat->Prop} (h:OldB v l) (b:∀k,O k->ci.heap.size<=k):Out O w v:=fun a n c d g=>.inl fun i=>by have:=h.low a n c d g;have:=b _ i;omega
theorem IsEvD.read {e:Ev} (h:IsEvD cs e) (a:Ext ci w):IsEvB w cs e:=by
 obtain⟨v,b,c,d⟩:=h;exact⟨v,b,c.at a,d⟩
structure RParts (O R:Nat->Prop) (w:World) (vn vs vp vl vu:Value) (now sure:aq) (pend:List Ch) (L users:List Ev):Prop where
 now:bG R w vn now
 on:Inn O vn
 sure:bG R w vs sure
 os:Inn O vs
 pend:OwnL w 199 6 (IsOp R w) vp pend
 op:Inn O vp
 plan:OwnL w 122 7 IsEvD vl L
 ol:Inn O vl
 users:OwnL w 122 7 (IsEvR R w) vu users
 ou:Inn O vu
 off:∀k,vu.ownBlock=some k->vl.ownBlock≠some k
abbrev cf (b:Int) (g vs h i:Value) (a time:Nat) (d:Bool) (j:Value):Array Value:=#[.int .i64 b,g,vs,h,i,.int .i64 a,.int .i64 time,.bool d,j]
def IsRef (O R:Nat->Prop) (w:World) (p:Value) (m:Fs):Prop:=∃(g:Nat) (a b d h i:Value),p=.pointer (some ⟨g,0,none⟩) /\
  w.heap[g]? = some (.cells (cf m.room a b d h m.calls m.time m.down i) 84 (0,0))/\O g/\RParts O R w a b d h i m.now m.sure m.pend m.plan m.users
section
variable {O R:Nat->Prop} {w w':World} {vn vs vp vl vu:Value} {now sure:aq} {pend:List Ch} {L users:List Ev}
theorem RParts.mono {O' R':Nat->Prop} (h:RParts O R w vn vs vp vl vu now sure pend L users) (a:∀k,O k->O' k) (b:∀k,R k->R' k):RParts O' R' w vn vs vp vl vu now sure pend L users :=
 ⟨h.now.B7 b,h.on.mono a,h.sure.B7 b,h.os.mono a,h.pend.mono (fun c x d=>d.mono b),h.op.mono a,h.plan,h.ol.mono a,h.users.mono (fun c x d=>d.mono b),h.ou.mono a,h.off⟩
theorem RParts.stay (h:RParts O R w vn vs vp vl vu now sure pend L users)
  (d:∀k,vn.ownBlock=some k->w'.heap[k]? = w.heap[k]?) (g:∀k,vs.ownBlock=some k->w'.heap[k]? = w.heap[k]?) (i:∀k,vp.ownBlock=some k->w'.heap[k]? = w.heap[k]?) (j:∀k,vl.ownBlock=some k->w'.heap[k]? = w.heap[k]?) (l:∀k,vu.ownBlock=some k->w'.heap[k]? = w.heap[k]?) (a:KeepR R w w') :
  RParts O R w' vn vs vp vl vu now sure pend L users :=
 ⟨h.now.rows d a,h.on,h.sure.rows g a,h.os,(h.pend.stay i).mono (fun c x b=>b.BQ a),h.op,h.plan.stay j,h.ol,(h.users.stay l).mono (fun c x b=>b.BQ a),h.ou,h.off⟩
theorem RParts.CC (h:RParts O R w vn vs vp vl vu now sure pend L users)
  (b:∀k,O k->k<w.heap.size->w'.heap[k]? = w.heap[k]?) (c:KeepR R w w'):RParts O R w' vn vs vp vl vu now sure pend L users :=
 h.stay (fun k a=>b k (h.on k a) (h.now.lt k a)) (fun k a=>b k (h.os k a) (h.sure.lt k a)) (fun k a=>b k (h.op k a) (h.pend.lt k a)) (fun k a=>b k (h.ol k a) (h.plan.lt k a)) (fun k a=>b k (h.ou k a) (h.users.lt k a)) c
theorem RParts.ext (h:RParts O R w vn vs vp vl vu now sure pend L users) (b:Ext w w'):RParts O R w' vn vs vp vl vu now sure pend L users :=
 h.CC (fun k _ a=>b.block k a) (KeepR.BS (KeepB.BO b))
theorem RParts.own (h:RParts O R w vn vs vp vl vu now sure pend L users)
  {g:Nat} {cs:Array Value} {fr:Nat×Nat} (i:w.heap[g]? = some (.cells cs 84 fr)) (j:w.grownBy w' (some g)):RParts O R w' vn vs vp vl vu now sure pend L users:=by
 have c:∀k,(∃x,w.heap[k]? = some x/\x≠Obj.cells cs 84 fr)->w'.heap[k]? = w.heap[k]?:=fun k ⟨x,a,n⟩=>j.block k (Array.getElem?_eq_some_iff.1 a).1 (by simpa using cy a i n)
 refine h.stay (fun k b=>?_) (fun k b=>?_) (fun k b=>?_) (fun k b=>?_) (fun k b=>?_) (cg j (by rintro k l;simp at l;subst l;exact ao i (by kernel_rfl)))
 .obtain ⟨d,f,a⟩:=h.now.typed k b;exact c k ⟨_,a,by simp⟩
 .obtain ⟨d,f,a⟩:=h.sure.typed k b;exact c k ⟨_,a,by simp⟩
 .obtain ⟨d,f,a⟩:=h.pend.typed k b;exact c k ⟨_,a,by simp⟩
 .obtain ⟨d,f,a⟩:=h.plan.typed k b;exact c k ⟨_,a,by simp⟩
 .obtain ⟨d,f,a⟩:=h.users.typed k b;exact c k ⟨_,a,by simp⟩
theorem RParts.CW (h:RParts O R w vn vs vp vl vu now sure pend L users) {b:Value} {a:aq} (c:bG R w b a) (d:Inn O b):RParts O R w b vs vp vl vu a sure pend L users :=
 ⟨c,d,h.sure,h.os,h.pend,h.op,h.plan,h.ol,h.users,h.ou,h.off⟩
theorem RParts.C' (h:RParts O R w vn vs vp vl vu now sure pend L users) {b:Value} {a:aq} (c:bG R w b a) (d:Inn O b):RParts O R w vn b vp vl vu now a pend L users :=
 ⟨h.now,h.on,c,d,h.pend,h.op,h.plan,h.ol,h.users,h.ou,h.off⟩
theorem RParts.De (h:RParts O R w vn vs vp vl vu now sure pend L users):RParts O R w vn vs (.slice none 0 0) vl vu now sure [] L users :=
 ⟨h.now,h.on,h.sure,h.os,OwnL.nil _ _ _ _,Inn.nil _ _ _,h.plan,h.ol,h.users,h.ou,h.off⟩
theorem RParts.Ct (h:RParts O R w vn vs vp vl vu now sure pend L users)
  (q:w.grownBy w' vp.ownBlock) {d:Value} {b:List Ch} (n:OwnL w' 199 6 (IsOp R w') d b) (t:Inn O d):RParts O R w' vn vs d vl vu now sure b L users:=by
 have i:KeepR R w w':=cg q (fun k i=>by obtain⟨cs,j,a⟩:=h.pend.typed k i;exact ao a (by kernel_rfl));have l:∀k,(∃x,w.heap[k]? = some x/\∀cs j,x≠Obj.cells cs 199 j)->w'.heap[k]? = w.heap[k]?:=fun k ⟨x,a,n⟩=>q.block k (Array.getElem?_eq_some_iff.1 a).1 (fun o=>by
  obtain⟨cs,j,r⟩:=h.pend.typed k o.symm;rw[a]at r;exact n cs j (Option.some.inj r))
 refine⟨h.now.rows (fun k g=>?_) i,h.on,h.sure.rows (fun k g=>?_) i,h.os,n,t,h.plan.stay (fun k g=>?_),h.ol,(h.users.stay (fun k g=>?_)).mono (fun c x a=>a.BQ i),h.ou,h.off⟩
 .obtain ⟨p,f,a⟩:=h.now.typed k g;exact l k ⟨_,a,by simp⟩
 .obtain ⟨p,f,a⟩:=h.sure.typed k g;exact l k ⟨_,a,by simp⟩
 .obtain ⟨p,f,a⟩:=h.plan.typed k g;exact l k ⟨_,a,by simp⟩
 .obtain ⟨p,f,a⟩:=h.users.typed k g;exact l k ⟨_,a,by simp⟩
theorem RParts.Cx (h:RParts O R w vn vs vp vl vu now sure pend L users)
  (o:w.grownBy w' vu.ownBlock) {d:Value} {a:List Ev} (p:OwnL w' 122 7 (IsEvR R w') d a) (u:Inn O d) (j:∀k,d.ownBlock=some k->vl.ownBlock≠some k):RParts O R w' vn vs vp vl d now sure pend L a:=by
 have l:KeepR R w w':=cg o (fun k l=>by obtain⟨cs,n,b⟩:=h.users.typed k l;exact ao b (by kernel_rfl));have q:∀k,(∃x,w.heap[k]? = some x/\∀cs n,x≠Obj.cells cs 122 n)->w'.heap[k]? = w.heap[k]?:=fun k ⟨x,b,p⟩=>o.block k (Array.getElem?_eq_some_iff.1 b).1 (fun i=>by
  obtain⟨cs,n,t⟩:=h.users.typed k i.symm;rw[b]at t;exact p cs n (Option.some.inj t))
 refine⟨h.now.rows (fun k g=>?_) l,h.on,h.sure.rows (fun k g=>?_) l,h.os,(h.pend.stay (fun k g=>?_)).mono (fun c x b=>b.BQ l),h.op,h.plan.stay (fun k g=>?_),h.ol,p,u,j⟩
 .obtain ⟨r,f,b⟩:=h.now.typed k g;exact q k ⟨_,b,by simp⟩
 .obtain ⟨r,f,b⟩:=h.sure.typed k g;exact q k ⟨_,b,by simp⟩
 .obtain ⟨r,f,b⟩:=h.pend.typed k g;exact q k ⟨_,b,by simp⟩
 .obtain ⟨r,f,b⟩:=h.plan.typed k g;exact o.block k (Array.getElem?_eq_some_iff.1 b).1 (fun i=>h.off k i.symm g)
theorem RParts.bound (h:RParts O R w vn vs vp vl vu now sure pend L users) :
  RParts (fun k=>O k/\k<w.heap.size) (fun k=>R k/\k<w.heap.size) w vn vs vp vl vu now sure pend L users :=
 ⟨h.now.mono (fun c x b=>b.bound),fun k a=>⟨h.on k a,h.now.lt k a⟩,h.sure.mono (fun c x b=>b.bound),fun k a=>⟨h.os k a,h.sure.lt k a⟩,h.pend.mono (fun c x b=>b.bound),fun k a=>⟨h.op k a,h.pend.lt k a⟩,h.plan,fun k a=>⟨h.ol k a,h.plan.lt k a⟩,h.users.mono (fun c x b=>b.bound),fun k a=>⟨h.ou k a,h.users.lt k a⟩,h.off⟩
end
section
variable {O O' R R':Nat->Prop} {w w':World} {p:Value} {m:Fs}
theorem IsRef.mono (h:IsRef O R w p m) (a:∀k,O k->O' k) (b:∀k,R k->R' k):IsRef O' R' w p m:=by
 obtain⟨g,c,d,i,j,l,n,o,q,r⟩:=h;exact⟨g,c,d,i,j,l,n,o,a _ q,r.mono a b⟩
theorem IsRef.fit (h:IsRef (On O w.heap.size) (On R w.heap.size) w' p m):IsRef (Nw O w w') (Nw R w w') w' p m:=by
 obtain⟨g,i,j,l,n,o,q,c,r,t⟩:=h;have a:=(Array.getElem?_eq_some_iff.1 c).1;have b:∀(S:Nat->Prop) k,On S w.heap.size k/\k<w'.heap.size->Nw S w w' k:=fun S k d=>d.1.imp id (fun h=>⟨h,d.2⟩)
 exact⟨g,i,j,l,n,o,q,c,b O g ⟨r,a⟩,t.bound.mono (b O) (b R)⟩
theorem IsRef.stay (h:IsRef O R w p m) (a:∀k,O k->k<w.heap.size->w'.heap[k]? = w.heap[k]?) (d:KeepR R w w'):IsRef O R w' p m:=by
 obtain⟨g,i,j,l,n,o,q,b,c,r⟩:=h;exact⟨g,i,j,l,n,o,q,(a g c (Array.getElem?_eq_some_iff.1 b).1).trans b,c,r.CC a d⟩
theorem IsRef.other (h:IsRef O R w p m) (b:Fr O' w w') (c:∀k,O k->¬O' k):IsRef O R w' p m :=
 h.stay (fun k d a=>b.block k a (.inl (c k d))) (KeepR.BS b.keep)
theorem IsRef.ext (h:IsRef O R w p m) (b:Ext w w'):IsRef O R w' p m :=
 h.stay (fun k _ a=>b.block k a) (KeepR.BS (KeepB.BO b))
end
structure RefPost (O R:Nat->Prop) (w:World) (p:Value) (m:Fs) (w':World):Prop where
 fs:IsRef (Nw O w w') (Nw R w w') w' p m
 fr:Fr O w w'
section
variable {O R:Nat->Prop} {w wx w1 w':World} {p:Value} {m m1:Fs}
theorem RefPost.BO (b:Ext w wx) (h:RefPost O (Nw R w wx) wx p m w'):RefPost O R w p m w':=by
 refine⟨h.fs.mono (fun k a=>?_) (fun k a=>a.nw b.size h.fr.size),(Fr.BO b).trans (h.fr.mono fun k a=>.inl a)⟩;rcases a with a | a
 .exact .inl a
 .exact .inr ⟨Nat.le_trans b.size a.1,a.2⟩
theorem RefPost.trans (a:RefPost O R w p m1 w1) (h:RefPost (Nw O w w1) (Nw R w w1) w1 p m w'):RefPost O R w p m w' :=
 ⟨h.fs.mono (fun k b=>b.nw a.fr.size h.fr.size) (fun k b=>b.nw a.fr.size h.fr.size),a.fr.trans h.fr⟩
theorem RefPost.same (h:IsRef O R w p m) (b:Ext w w'):RefPost O R w p m w' :=
 ⟨(h.ext b).mono (fun k a=>.inl a) (fun k a=>.inl a),Fr.BO b⟩
theorem RefPost.ext (h:RefPost O R w p m w1) (a:Ext w1 w'):RefPost O R w p m w':=h.trans (RefPost.same h.fs a)
theorem RefPost.pre (b:Ext w wx) (h:RefPost O R wx p m w'):RefPost O R w p m w':=RefPost.BO b ⟨h.fs.mono (fun k a=>a) (fun k a=>a.imp .inl id),h.fr⟩
end
end
section
open Go Go.RowKit
def oE (l:aq) (p:B8) (i:Int):Prop:=(ax l p=none/\i = -1)\/∃(k:Nat) (f:Fi),i=k/\l[k]? = some (p,f)/\ax l p=some f
variable {l:aq} {p:B8}
theorem vI (h:∀e∈l,e.1≠p):ax l p=none:=by
 unfold ax;rw[Option.map_eq_none_iff,List.find?_eq_none];intro e a;simpa using h e a
theorem tv:∀ {l:aq} {p:B8} {k:Nat} {f:Fi},(∀e∈l.take k,e.1≠p)->l[k]? = some (p,f)->ax l p=some f
 | [],p,k,f,_,h=>by simp at h
 | e::l,p,0,f,_,h=>by
  have:e=(p,f):=by simpa using h
  subst this;simp[ax]
 | e::l,p,k+1,f,a,h=>by
  have b:=tv (l:=l) (p:=p) (k:=k) (f:=f) (fun e c=>a e (by simp[c])) (by simpa using h);have d:(e.1==p)=false:=by simpa using a e (by simp)
  unfold ax at b ⊢;rw[List.find?_cons,d];exact b
variable {k:Nat} {e:B8×Fi}
theorem qP (h:∀e∈l.take k,e.1≠p) (b:l[k]? = some e) (c:e.1≠p):∀e∈l.take (k+1),e.1≠p:=by
 intro x a;rw[List.take_add_one,b,Option.toList_some]at a;rcases List.mem_append.1 a with a | a
 .exact h x a
 .have:x=e:=by simpa using a
  rw[this];exact c
theorem vJ (a:l[k]? = some e):b9 (l.take (k+1)) p=if e.1=p then b9 (l.take k) p else b9 (l.take k) p++[e]:=by
 unfold b9;rw[List.take_add_one,a,Option.toList_some,List.filter_append]
 by_cases h:e.1=p
 .rw [if_pos h,List.filter_cons_of_neg (by simpa using h)];simp
 .rw [if_neg h,List.filter_cons_of_pos (by simpa using h)];simp
theorem tx (x:B8×Fi):∀(l:aq) (k:Nat),k<=l.length->(∀j e,j<k->l[j]? = some e->ltB x.1 e.1=false)->(∀e,l[k]? = some e->ltB x.1 e.1=true)->fF x l=l.take k++x::l.drop k
 | [],k,b,_,_=>by
  have:k=0:=by simpa using b
  subst this;rfl
 | e::l,0,_,_,h=>by
  have a:=h e (by simp);simp[fF,a]
 | e::l,k+1,b,a,d=>by
  have g:=a 0 e (by omega) (by simp);have i:=tx x l k (by simpa using b) (fun j e n c=>a (j+1) e (by omega) (by simpa using c)) (fun e c=>d e (by simpa using c));simp[fF,g,i]
theorem pw {a b:B8} (h:ltB a b=true):ltB b a=false:=by
 cases c:ltB b a with
 | false=>rfl
 | true=>exact absurd rfl (gX (fR h c))
theorem Ac {f:Fi} (b:k<=(b9 l p).length) (c:∀j e,j<k->(b9 l p)[j]? = some e->ltB e.1 p=true) (d:∀e,(b9 l p)[k]? = some e->ltB e.1 p=false):ee l p f=(b9 l p).take k++(p,f)::(b9 l p).drop k :=
 tx (p,f) _ k b (fun j e g a=>pw (c j e g a)) (fun e a=>fS (d e a) (lR l p e (List.mem_of_getElem? a)))
def fq (l:aq) (path:B8):Bool:=!(l.any fun e=>aF path e.1 || aF e.1 path)
variable {path:B8}
theorem yf (h:∀e∈l,e.1≠[]):ei l path []=fq l path:=by
 unfold ei fq;congr 1;rw[Bool.eq_iff_iff,List.any_eq_true,List.any_eq_true];constructor
 .rintro ⟨e,a,b⟩;refine⟨e,a,?_⟩;simp only[Bool.and_eq_true]at b;rw[Bool.or_comm];exact b.2
 .rintro ⟨e,a,b⟩;refine⟨e,a,?_⟩;have:(e.1==([]:B8))=false:=by simpa using h e a
  rw[this,Bool.or_comm];simpa using b
theorem yg {a:B8}:ei l path a=fq (b9 l a) path:=by
 unfold ei fq b9;congr 1;rw[Bool.eq_iff_iff,List.any_eq_true,List.any_eq_true];constructor
 .rintro ⟨e,c,b⟩;simp only[Bool.and_eq_true]at b;refine⟨e,List.mem_filter.2 ⟨c,b.1⟩,?_⟩;rw[Bool.or_comm];exact b.2
 .rintro ⟨e,c,b⟩;have d:=List.mem_filter.1 c;refine⟨e,d.1,?_⟩;simp only[Bool.and_eq_true];rw[Bool.or_comm];exact⟨d.2,b⟩
theorem vK (h:fq (l.take k) path=true) (a:l[k]? = some e):fq (l.take (k+1)) path = !(aF path e.1 || aF e.1 path):=by
 unfold fq at h ⊢;rw[Bool.not_eq_true']at h;rw[List.take_add_one,a,Option.toList_some,List.any_append,h];simp
theorem tz (a:e∈l) (h:(aF path e.1 || aF e.1 path)=true):fq l path=false:=by
 unfold fq;rw[Bool.not_eq_false',List.any_eq_true];exact⟨e,a,h⟩
theorem vL (a:l[k]? = some e):cw (l.take (k+1))=cw (l.take k)+e.2.data.length:=by
 unfold cw;rw[List.take_add_one,a,Option.toList_some];simp
theorem qQ {l:aq} (k:Nat):cw (l.take k)<=cw l:=by
 have h:=List.take_append_drop k l;have:cw l=cw (l.take k)+cw (l.drop k):=by
  conv=>lhs;rw[<-h]
  unfold cw;rw[List.map_append,List.sum_append]
 omega
end
section
open Go Go.RowKit
variable {w:World} {v:Value}
theorem lw {α:Type} {t:TypeId} {p:List Value->α->Prop} {xs:List α} (n:Nat) (C:∀c x,p c x->c.length=n) (y:0<n) (h:ReadL w t p v xs):∃a e,v=.slice a xs.length e/\xs.length<=e/\xs.length<=140737488355328/\e<=9223372036854775807 /\
  ∀(k:Nat) x,xs[k]? = some x->∃b o D,a=some ⟨b,o,none⟩/\p D x/\∀j u,D[j]? = some u->w.cell? ⟨b,o+k*n+j,none⟩=some u:=by
 obtain⟨d,⟨a,e,rfl,H,I,J,K⟩,N,r⟩:=h;refine⟨a,e,rfl,H,J,I,fun k x E=>?_⟩;have L:∀c∈d,c.length=n:=fun c z=>by
  obtain⟨i,F,rfl⟩:=List.mem_iff_getElem.1 z;have A:i<xs.length:=by rw[<-r.1];exact F
  exact C _ _ (r.2 i d[i] xs[i] (List.getElem?_eq_getElem F) (List.getElem?_eq_getElem A))
 have g:k<d.length:=by rw[r.1];exact(List.getElem?_eq_some_iff.1 E).1
 have l:=r.2 k _ x (List.getElem?_eq_getElem g) E;have G:=fun j u B=>eU n d k j _ u L (List.getElem?_eq_getElem g) B
 obtain⟨b,o,rfl,z⟩:=K (by
  intro q;have M:(d[k])[0]? = some ((d[k])[0]'(by rw[C _ _ l];exact y)):=List.getElem?_eq_getElem _;have:=G 0 _ M;rw[q]at this;simp at this)
 refine⟨b,o,d[k],rfl,l,fun j u B=>?_⟩;have:=z _ _ (G j u B)
 rwa [Nat.add_assoc,Nat.mul_comm k n]
variable {w':World}
theorem Row.Dr {n:Nat} {cs:List Value} (h:Row w v n cs) (e:cs≠[]->∀k,v.ownBlock=some k->w'.heap[k]? = w.heap[k]?):Row w' v n cs:=by
 obtain⟨a,c,rfl,g,j,l,p⟩:=h;refine⟨a,c,rfl,g,j,l,fun d=>?_⟩;obtain⟨b,o,rfl,q⟩:=p d;refine⟨b,o,rfl,fun i u r=>?_⟩;rw[World.cell?_of_block (w:=w) (w':=w') (a:=⟨b,o+i,none⟩) (e d b rfl)];exact q i u r
def ReadO {α:Type} (w:World) (p:List Value->α->Prop) (v:Value) (xs:List α):Prop:=∃a:List (List Value),Row w v xs.length a.flatten/\(xs≠[]->∀k,v.ownBlock=some k->k<w.heap.size)/\Each p a xs
theorem ReadO.mono {α:Type} {p q:List Value->α->Prop} {xs:List α} (h:ReadO w p v xs) (a:∀c x,p c x->q c x):ReadO w q v xs:=by
 obtain⟨b,d,e,g⟩:=h;exact⟨b,d,e,g.imp a⟩
theorem ReadO.lt {α:Type} {p:List Value->α->Prop} {xs:List α} (h:ReadO w p v xs) (a:xs≠[]):∀k,v.ownBlock=some k->k<w.heap.size:=by
 obtain⟨b,d,c,e⟩:=h;exact c a
theorem ReadO.stay {α:Type} {p:List Value->α->Prop} {xs:List α} (h:ReadO w p v xs) (d:w.heap.size<=w'.heap.size) (e:xs≠[]->∀k,v.ownBlock=some k->w'.heap[k]? = w.heap[k]?):ReadO w' p v xs:=by
 obtain⟨a,g,i,c⟩:=h;refine⟨a,g.Dr (fun b=>e fun j=>b ?_),fun b k l=>Nat.lt_of_lt_of_le (i b k l) d,c⟩;have:a=[]:=List.eq_nil_of_length_eq_zero (by rw[c.1,j];rfl);rw[this];rfl
theorem jz {α:Type} {p:List Value->α->Prop} {xs:List α} (n:Nat) (B:∀c x,p c x->c.length=n) (t:0<n) (h:ReadO w p v xs):∃a e,v=.slice a xs.length e/\xs.length<=e/\xs.length<=140737488355328/\e<=9223372036854775807 /\
  ∀(k:Nat) x,xs[k]? = some x->∃b o C,a=some ⟨b,o,none⟩/\p C x/\∀j u,C[j]? = some u->w.cell? ⟨b,o+k*n+j,none⟩=some u:=by
 obtain⟨d,⟨a,e,rfl,G,H,I,J⟩,M,r⟩:=h;refine⟨a,e,rfl,G,I,H,fun k x D=>?_⟩;have K:∀c∈d,c.length=n:=fun c y=>by
  obtain⟨i,E,rfl⟩:=List.mem_iff_getElem.1 y;have z:i<xs.length:=by rw[<-r.1];exact E
  exact B _ _ (r.2 i d[i] xs[i] (List.getElem?_eq_getElem E) (List.getElem?_eq_getElem z))
 have g:k<d.length:=by rw[r.1];exact(List.getElem?_eq_some_iff.1 D).1
 have l:=r.2 k _ x (List.getElem?_eq_getElem g) D;have F:=fun j u A=>eU n d k j _ u K (List.getElem?_eq_getElem g) A
 obtain⟨b,o,rfl,y⟩:=J (by
  intro q;have L:(d[k])[0]? = some ((d[k])[0]'(by rw[B _ _ l];exact t)):=List.getElem?_eq_getElem _;have:=F 0 _ L;rw[q]at this;simp at this)
 refine⟨b,o,d[k],rfl,l,fun j u A=>?_⟩;have:=y _ _ (F j u A)
 rwa [Nat.add_assoc,Nat.mul_comm k n]
variable {l:aq}
theorem bQ {R:Nat->Prop} (h:bG R w v l):∃a d,v=.slice a l.length d/\l.length<=d/\l.length<=140737488355328/\d<=9223372036854775807 /\
  ∀(k:Nat) q f,l[k]? = some (q,f)->∃b o s c,a=some ⟨b,o,none⟩/\q.length<=10000000/\IsData R w (.slice s f.data.length c) f.data/\w.cell? ⟨b,o+k*4,none⟩=some (S8 q)/\w.cell? ⟨b,o+k*4+1,none⟩=some (.int .i64 f.mode)/\w.cell? ⟨b,o+k*4+2,none⟩=some (.slice s f.data.length c)/\w.cell? ⟨b,o+k*4+3,none⟩=some (.int .i64 f.time):=by
 obtain⟨a,d,i,j,n,p,r⟩:=lw 4 (fun c x t=>t.length.1) (by omega) h;refine⟨a,d,i,j,n,p,fun k q f u=>?_⟩;obtain⟨b,o,A,y,⟨z,B,rfl,g⟩,e⟩:=r k (q,f) u;obtain⟨s,c,rfl,-⟩:=id g.bytes;exact⟨b,o,s,c,y,z,g,e 0 _ rfl,e 1 _ rfl,e 2 _ rfl,e 3 _ rfl⟩
theorem tl (l:B8):(⟨l.toArray⟩:ByteArray).toList=l:=Lib.toList_data _
theorem fK {R:Nat->Prop} (p:B8) (z:bG R w v l) :
  Calls Tryz.prog 128 #[v,S8 p] w fun e w'=>(∃i:Int,e=.returned (.int .i64 i)/\oE l p i)/\Ext w w':=by
 obtain⟨a,C,rfl,J,K,L,A⟩:=bQ z;have D:Hid _:=A;have E:=tl p;clear A z;go_enter Tryz.func128,Tryz.ntmps128;go_wp2;go_loopw [5] (fun i wr=>∃k:Nat,k<=l.length/\i=.int .i64 k/\(∀e∈l.take k,e.1≠p)/\Ext w wr) (fun i _=>l.length - (intOf i).toNat)
 case atStart=>exact⟨0,Nat.zero_le _,rfl,by simp,Ext.refl _⟩
 case round =>
  obtain⟨k,M,rfl,g,j⟩:=hrel;have n:Hid _:=g;clear g
  by_cases r:k<l.length
  .obtain ⟨⟨q,f⟩,d⟩:∃e,l[k]? = some e:=⟨_,List.getElem?_eq_getElem r⟩;obtain⟨b,o,s,c,rfl,F,G,B,-,-,-⟩:=D.out k q f d;replace B:=j.cell B;have t:Hid _:=d;have H:=tl q;clear G d;obtain⟨u,h⟩:∃u,(q==p)=u:=⟨_,rfl⟩
   cases u with
   | true =>
    go_wp2;go_ret;have x:q=p:=by simpa using h
    subst x;exact⟨⟨_,rfl,.inr ⟨k,f,rfl,t.out,tv n.out t.out⟩⟩,j⟩
   | false =>
    have I:Hid (q≠p):=by simpa [Hid]using h
    go_wp2;go_roundw
    case rel=>exact⟨k+1,by omega,by go_num,qP n.out t.out I.out,j⟩
    case measure=>simp[intOf];omega
  .have y:k=l.length:=by omega
   subst y;go_wp2;go_ret;have g:=n.out;rw[List.take_length]at g;exact⟨⟨_,rfl,.inl ⟨vI g,rfl⟩⟩,j⟩
theorem ly {R:Nat->Prop} (x:bG R w v l) (C:cw l<=1000000000000) :
  Calls Tryz.prog 127 #[v] w fun e w'=>e=.returned (.int .i64 (cw l))/\Ext w w':=by
 obtain⟨a,D,rfl,K,L,M,y⟩:=bQ x;have E:Hid _:=y;obtain⟨U,j⟩:∃U,cw l=U:=⟨_,rfl⟩;have F:Hid _:=j;rw[j]at C;clear y x j;go_enter Tryz.func127,Tryz.ntmps127;go_wp2;go_loopw [3,4] (fun n i wr=>∃k m:Nat,k<=l.length/\i=.int .i64 k/\n=.int .i64 m/\m<=U/\cw (l.take k)=m/\Ext w wr) (fun _ i _=>l.length - (intOf i).toNat)
 case atStart=>exact⟨0,0,Nat.zero_le _,rfl,rfl,Nat.zero_le _,rfl,Ext.refl _⟩
 case round =>
  obtain⟨k,m,N,rfl,rfl,G,z,p⟩:=hrel;have r:Hid _:=z;clear z
  by_cases t:k<l.length
  .obtain ⟨⟨q,f⟩,g⟩:∃e,l[k]? = some e:=⟨_,List.getElem?_eq_getElem t⟩;obtain⟨b,o,s,c,rfl,H,I,-,-,A,-⟩:=E.out k q f g;replace A:=p.cell A;have d:=vL g;have h:=@qQ l (k+1);rw[d,r.out,F.out]at h;rw[r.out]at d;dsimp only at d h;have J:Hid _:=d;clear I g d;go_wp2;go_roundw
   case rel=>exact⟨k+1,m+f.data.length,by omega,by go_num,by go_num,h,J.out,p⟩
   case measure=>simp[intOf];omega
  .have u:k=l.length:=by omega
   subst u;go_wp2;go_ret;have B:=r.out;rw[List.take_length]at B;exact⟨iz (by rw[B]),p⟩
end
section
open Go Go.RowKit
variable [Inhabited bc]
theorem One.grown {i w w':World} {S O:Nat->Prop} {f:Value} {m:Fs} {b:Nat} (h:One i S O w f m) (g:w.grownBy w' (some b)) (o:i.heap.size<=b) (l:¬O b) (n:¬S b) (j:¬IsU8 w b):One i S O w' f m:=by
 have p:=g.size;have d:∀k,k≠b->k<w.heap.size->w'.heap[k]? = w.heap[k]?:=fun k a c=>g.block k c (fun e=>a (Option.some.inj e))
 refine⟨Ext.B5 h.ext (Fr.BR (O:=fun k=>k=b) g rfl j) (fun k a=>by omega),(h.fs.stay (fun k a c=>d k (fun e=>l (e▸a)) c) (fun k a c=>d k (fun e=>n (e▸a)) c) (dG g j)).mono (fun _ h=>h) (fun k a=>by omega),fun k a=>by have:=h.lo k a;omega,fun k a=>by have:=h.Cc k a;omega,h.BU⟩
end
section
open Go Go.RowKit
variable {m:Fs}
theorem je {p:B8} (h:OkM m) (c:fy m):(aE m p).2.1.data.length<=20000:=by
 have a:=(cd h c).1.ok;have b:cz.data.length<=20000:=Nat.zero_le _;unfold aE;split
 .exact b
 .split
  .exact b
  .split
   .rename_i f d;obtain⟨e,g,rfl⟩:=Option.map_eq_some_iff.1 d;exact(a.Cg e (List.mem_of_find?_eq_some g)).2
   .exact b
variable {n:Nat}
theorem gj (h:Good n m) (path:B8) (mode:Int) (data:B8):Good (n+1) (bD m path mode data).1 :=
 h.left (lp h.ok h.Cd) (by have a:(bD m path mode data).1.calls=_:=lr m _ _ _ _;have b:=(cV h.ok h.Cd).2;omega)
theorem vM (h:Good n m) (s d:B8) (a:Bool):Good (n+1) (aN m s d a).1 :=
 h.left (kA h.ok h.Cd) (by rw[kB];have b:=(cV h.ok h.Cd).2;omega)
theorem mq (h:Good n m) (p:B8):Good (n+1) (bz m p).1 :=
 h.left (lq h.ok h.Cd) (by rw[lu];have a:=(cV h.ok h.Cd).2;omega)
theorem py (h:Good n m):Good (n+1) (aB m).1 :=
 h.left ((cV h.ok h.Cd).1.mono (by omega)) (by have a:=(cV h.ok h.Cd).2;omega)
theorem eC (h:Good n m) (p:B8):Good (n+1) (aE m p).1:=by rw[qM];exact py h
end
end Go.Proofs.YtfabjgfmiaammaaGreatDoor
