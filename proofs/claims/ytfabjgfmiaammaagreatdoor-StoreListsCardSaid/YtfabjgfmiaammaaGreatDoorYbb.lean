/- Contracts of the program's functions and plain laws behind the card. Conditions: as each theorem states. -/
import Derived.Test.YtfabjgfmiaammaaGreatDoorYaw
import Derived.Test.YtfabjgfmiaammaaGreatDoorYaj
import Derived.Test.YtfabjgfmiaammaaGreatDoorYad
import Derived.Test.YtfabjgfmiaammaaGreatDoorYan
import Derived.Test.YtfabjgfmiaammaaGreatDoorYah
import Derived.Test.YtfabjgfmiaammaaGreatDoorYal
import Derived.Lib.SlBytesConst
import Derived.Test.YtfabjgfmiaammaaGreatDoorYap
import Derived.Test.YtfabjgfmiaammaaGreatDoorYat
import Derived.Test.YtfabjgfmiaammaaGreatDoorYag
import Derived.Test.YtfabjgfmiaammaaGreatDoorYao
import Derived.Test.YtfabjgfmiaammaaGreatDoorYau
import Derived.Test.YtfabjgfmiaammaaGreatDoorYax
import Derived.Test.YtfabjgfmiaammaaGreatDoorYaz
import Derived.Deep.DeepCutAuto
set_option linter.unusedVariables false
set_option linter.unusedSimpArgs false
set_option linter.unusedSectionVars false
set_option maxRecDepth 100000
set_option maxHeartbeats 64000000
namespace Go.Proofs.YtfabjgfmiaammaaGreatDoor
section
open Go Go.RowKit
def cf (d m s:Int) (a:Value) (id:B8) (n:Int):Array Value:=#[.int .u32 d,.int .i32 m,.int .u32 s,a,S8 id,.int .i64 n]
variable {w:World} {g j:Nat} {d m s n:Int} {vb v:Value} {id:B8}
theorem gj (a:w.heap[g]? = some (.cells (cf d m s vb id n) 177 (0,0))) (b:(cf d m s vb id n)[j]? = some v):w.cell? ⟨g,j,none⟩=some v :=
 (cell_of_row _ _ j _ _ _ a).trans b
variable {cs:Array Value}
theorem nV {t:TypeId} (a:w.heap[g]? = some (.cells cs t (0,0))):w.frozen? ⟨g,j,none⟩=false:=by simp[World.frozen?,a]
variable {x:Int}
theorem Ap (a:w.heap[g]? = some (.cells (cf d m s vb id n) 177 (0,0))):(w.setCell ⟨g,0,none⟩ (.int .u32 x)).heap[g]? = some (.cells (cf x m s vb id n) 177 (0,0)):=by
 rw[heap_setCell_same w g 0 _ _ _ a];simp[cf]
theorem tI (a:w.heap[g]? = some (.cells (cf d m s vb id n) 177 (0,0))):(w.setCell ⟨g,1,none⟩ (.int .i32 x)).heap[g]? = some (.cells (cf d x s vb id n) 177 (0,0)):=by
 rw[heap_setCell_same w g 1 _ _ _ a];simp[cf]
theorem Aq (a:w.heap[g]? = some (.cells (cf d m s vb id n) 177 (0,0))):(w.setCell ⟨g,5,none⟩ (.int .i64 x)).heap[g]? = some (.cells (cf d m s vb id x) 177 (0,0)):=by
 rw[heap_setCell_same w g 5 _ _ _ a];simp[cf]
theorem qy (i:w.heap[g]? = some (.cells cs 177 (0,0))) (e:¬IsU8 w g) {O:Nat->Prop} {b:World} (h:Fr O b w) (c:O g):Fr O b (w.setCell ⟨g,j,none⟩ v) :=
 h.step (aH w g j v) (fun k a=>by cases a;exact .inl c) (by rintro k a;cases a;exact e)
theorem zP (g r:Nat) (d m s n:Int) (vb:Value) (b:B8) (fr:Nat×Nat) (w:World) (J:EnvS w) (B:IsBytes w vb b) (hl:b.length<=10000000) (E:0<=n) (F:n<=1000000000)
  (C:w.heap[g]? = some (.cells (cf d m s vb [] n) 177 (0,0))) (G:w.heap[r]? = some (.cells #[.pointer (some ⟨g,0,none⟩)] 123 fr)) (D:g≠r) :
  Calls Tryz.prog 130 #[.pointer (some ⟨r,0,none⟩)] w fun e N=>e=.returned (.tuple #[])/\N.heap[g]? = some (.cells (cf d m s vb (aR b) (n+1)) 177 (0,0))/\Fr (fun k=>k=g) w N:=by
 have K:∀ {P:World} {W:Array Value},P.heap[g]? = some (.cells W 177 (0,0))->¬IsU8 P g:=fun h=>aw h (by kernel_rfl)
 have T:Hid (EnvS w):=J;have S:Hid (IsBytes w vb b):=B;have U:Hid _:=C;have V:Hid _:=G;have A:=gj (j:=3) C rfl;have H:w.cell? ⟨r,0,none⟩=some (.pointer (some ⟨g,0,none⟩)):=(cell_of_row _ _ 0 _ _ _ G).trans rfl;obtain⟨L,M,rfl,-⟩:=id B;clear J B C G;go_enter Tryz.func130,Tryz.ntmps130;go_upto_region 0 with fail;apply ak 8 [_,_,_,_,_,S8 (aR b),_,_] [none,none,none,none,none,none,none,none] [[],[],[1],[2],[3],[4],[0],[6]] (by kernel_rfl) (by kernel_rfl) (by simp[aq])
 .trivial
 .simp (maxSteps:=1000000)only[List.take_succ_cons,List.take_zero,ay,aE,ab,Act.put,List.setIfInBounds_toArray,List.set_cons_zero,List.set_cons_succ,aN,aS,aq,List.getD_cons_zero,List.getD_cons_succ,and_true,true_and,forall_const];and_intros
  iterate 5 · intro I Q o;intros;rename_i t;have X:=o.cell A;have Y:=o.cell H;go_simp;exact t _ _ (Ext.refl _) rfl
  .intro I Q o l R t;go_simp;exact(vS _ b _ (EnvS.ext T.out o) (IsBytes.ext S.out o) hl).mono (by rintro e' w4 ⟨rfl,Z⟩;exact⟨_,rfl,t _ _ Z rfl⟩)
  iterate 2 · intro I Q o;intros;rename_i t;have X:=o.cell A;have Y:=o.cell H;go_simp;exact t _ _ (Ext.refl _) rfl
 intro I w2 i l;simp only[aU,Nat.zero_add,Nat.reduceAdd,and_true]at l;simp(maxSteps:=1000000)only[List.take_succ_cons,List.take_zero,List.drop_succ_cons,List.drop_zero,ab,Act.put,List.setIfInBounds_toArray,List.set_cons_zero,List.set_cons_succ,Nat.zero_add,Nat.reduceAdd,l];clear l;have q:=Ext.row i U.out;have z:Hid (Ext w w2):=i;have x:=Ext.row i V.out;refine ag rfl 9 (.tmp 8) (.tmp 6) rfl g 4 rfl (S8 (aR b)) rfl rfl 177 (cf d m s (.slice L b.length M) [] n) q (Nat.le_of_ble_eq_true rfl) (by kernel_rfl) (cf d m s (.slice L b.length M) (aR b) n) (by simp[cf]) ?_;intro O u c;have p:=aV c x (fun e=>D e.symm);have x3:O.cell? ⟨r,0,none⟩=some (.pointer (some ⟨g,0,none⟩)):=(cell_of_row _ _ 0 _ _ _ p).trans rfl;have a:Hid _:=u;have y:Hid (Fr (fun k=>k=g) w O):=(Fr.BX z.out).step c (fun k l=>by cases l;exact .inl rfl) (by rintro k l;cases l;exact K q);clear i q x p c u A H;go_wp2_with fail;go_at_call 131;refine(tj (gj a.out rfl) (nV a.out) E F).mono ?_;rintro e w4 ⟨rfl,rfl⟩;go_wp2
 go_end0
 exact⟨rfl,Aq a.out,qy a.out (K a.out) y.out rfl⟩
theorem AE (g p:Nat) (s n:Int) (vb:Value) (b:B8) (fr:Nat×Nat) (w:World) (P:EnvS w) (Q:IsBytes w vb b) (S:TypB w vb) (X:b.length<=10000000) (J:0<=n) (K:n<=1000000000) (W:2<=g)
  (t:w.heap[g]? = some (.cells (cf 0 0 s vb [] n) 177 (0,0))) (T:w.heap[p]? = some (.cells #[.pointer (some ⟨g,0,none⟩)] 123 fr)) (y:g≠p) :
  Calls Tryz.prog 186 #[.pointer (some ⟨g,0,none⟩),.func (.func 130) #[] #[.pointer (some ⟨p,0,none⟩)]] w fun e A=>e=.returned (.tuple #[])/\A.heap[g]? = some (.cells (cf 1 0 s vb (aR b) (n+1)) 177 (0,0))/\Fr (fun k=>k=g) w A:=by
 have L:∀ {U:World} {V:Array Value},U.heap[g]? = some (.cells V 177 (0,0))->¬IsU8 U g:=fun h=>aw h (by kernel_rfl)
 have u:=tI (x:=1) t;have a:Fr (fun k=>k=g) w (w.setCell ⟨g,1,none⟩ (.int .i32 1)):=qy t (L t) (Fr.refl _ w) rfl;have q:EnvS (w.setCell ⟨g,1,none⟩ (.int .i32 1)):=P.fr a (fun k I=>by subst I;exact W);have r:IsBytes (w.setCell ⟨g,1,none⟩ (.int .i32 1)) vb b:=Row.B' Q S a.keep;have z:(w.setCell ⟨g,1,none⟩ (.int .i32 1)).heap[p]? = some (.cells #[.pointer (some ⟨g,0,none⟩)] 123 fr):=a.row T (fun e=>y e.symm);have R:∀(x:Bool) (w:World),(Op.unary .not (.bool x)).run Tryz.prog w=.ok (.bool (!x)) w:=fun _ _=>rfl
 have o:Hid _:=u;have D:Hid _:=a;have O:Hid _:=t;have C:Hid (EnvS (w.setCell ⟨g,1,none⟩ (.int .i32 1))):=q;have B:Hid (IsBytes (w.setCell ⟨g,1,none⟩ (.int .i32 1)) vb b):=r;have E:Hid _:=z;clear u a P q t Q r T z S
 go_enter_defers Tryz.func186,Tryz.ntmps186
 go_wp2_with (first | (go_at_call 226;go_must (refine(pJ ⟨g,1,none⟩ w (gj O.out rfl) (nV O.out)).mono ?_;rintro e A ⟨rfl,rfl⟩)) | (go_at_call 185;go_must (refine(jC ⟨g,0,none⟩ 0 false _ (gj o.out rfl) rfl).mono ?_;rintro e A ⟨rfl,rfl⟩)) | (go_at_call 130;go_must (refine(zP g p 0 1 s n vb b fr _ C.out B.out X J K o.out E.out y).mono ?_;rintro e N ⟨rfl,l,F⟩)))
 have c:N.drew.heap[g]? = some (.cells (cf 0 1 s vb (aR b) (n+1)) 177 (0,0)):=l;have i:=Ap (x:=1) c;have H:=tI (x:=0) i;have G:Fr (fun k=>k=g) w (((N.drew.setCell ⟨g,0,none⟩ (.int .u32 1))).setCell ⟨g,1,none⟩ (.int .i32 0)):=qy i (L i) (qy c (L c) ((D.out.trans (F.mono (fun k I=>.inl I))).ext (Ext.refl _).drew) rfl) rfl;refine leaves_cons (f:=228) (args:=#[.pointer (some ⟨g,0,none⟩),.bool true]) (by simp) (by simp[go_sem]) ?_;refine(jH ⟨g,0,none⟩ (.int .u32 0) .returning N (gj l rfl) (nV l)).mono ?_;rintro e Y M ⟨rfl,rfl,rfl⟩;refine leaves_cons (f:=227) (args:=#[.pointer (some ⟨g,1,none⟩)]) (by simp[Go.settle]) (by simp[go_sem]) ?_;refine(jL ⟨g,1,none⟩ _ _ (gj i rfl) (nV i)).mono ?_;rintro e Y M ⟨rfl,rfl,rfl⟩;simp[Leaves,Go.settle,results,Tryz.results186];exact⟨H,G⟩
theorem Bj (g a:Nat) (s n:Int) (vb:Value) (b:B8) (fr:Nat×Nat) (w:World) (r:EnvS w) (t:IsBytes w vb b) (z:TypB w vb) (G:b.length<=10000000) (l:0<=n) (o:n<=1000000000) (F:2<=g)
  (u:w.heap[g]? = some (.cells (cf 0 0 s vb [] n) 177 (0,0))) (A:w.heap[a]? = some (.cells #[.pointer (some ⟨g,0,none⟩)] 123 fr)) (i:g≠a) :
  Calls Tryz.prog 129 #[.pointer (some ⟨g,0,none⟩),.func (.func 130) #[] #[.pointer (some ⟨a,0,none⟩)]] w fun e p=>e=.returned (.tuple #[])/\p.heap[g]? = some (.cells (cf 1 0 s vb (aR b) (n+1)) 177 (0,0))/\Fr (fun k=>k=g) w p:=by
 have y:∀(x:Bool) (w:World),(Op.unary .not (.bool x)).run Tryz.prog w=.ok (.bool (!x)) w:=fun _ _=>rfl
 have q:Hid _:=u;have C:Hid (EnvS w):=r;have B:Hid (IsBytes w vb b):=t;have D:Hid (TypB w vb):=z;have E:Hid _:=A;clear u r t A z;go_enter Tryz.func129,Tryz.ntmps129
 go_wp2_with (first | (go_at_call 185;go_must (refine(jC ⟨g,0,none⟩ 0 false _ (gj q.out rfl) rfl).mono ?_;rintro e p ⟨rfl,rfl⟩)) | (go_at_call 186;go_must (refine(AE g a s n vb b fr _ C.out B.out D.out G l o F q.out E.out i).mono ?_;rintro e H ⟨rfl,h,c⟩)))
 go_end0
 exact⟨rfl,h,c⟩
def zA (w:World) (b:B8) (v:Value) (w':World):Prop:=∃(g:Nat) (vb:Value),v=.pointer (some ⟨g,0,none⟩)/\w'.heap[g]? = some (.cells (cf 0 0 0 vb [] 0) 177 (0,0))/\IsBytes w' vb b/\TypB w' vb/\w.heap.size<=g
theorem jS (v:Value) (b:B8) (w:World) (q:IsBytes w v b) (z:b.length<=10000000) :
  Calls Tryz.prog 73 #[v] w fun e t=>(∃u,e=.returned u/\zA w b u t)/\Ext w t:=by
 have y:Hid (IsBytes w v b):=q;clear q;go_enter Tryz.func73,Tryz.ntmps73;go_wp2_with fail;go_at_call 54;refine(eL v b w y.out (by omega)).mono ?_;rintro e h ⟨⟨vb,rfl,i⟩,r⟩;have k:=i.bytes;obtain⟨l,o,rfl,-⟩:=k;have x:Hid (IsData _ h (.slice l b.length o) b):=i;have p:Hid (Ext w h):=r;clear i r;go_wp2;go_ret;have c:Ext h (h.alloc (.cells (cf 0 0 0 (.slice l b.length o) [] 0) 177)):=(Ext.refl _).alloc _;have a:=IsData.ext x.out c;exact⟨⟨_,rfl,h.heap.size,.slice l b.length o,rfl,ae _ _,a.bytes,a.typed,p.out.size⟩,p.out.trans c⟩
theorem kz (o w:World) (b:B8) (v:Value) (B:EnvS w) (R:2<=o.heap.size) (F:Ext o w) (O:zA o b v w) (N:b.length<=10000000) :
  Calls Tryz.prog 74 #[v] w fun e P=>e=.returned (S8 (aR b))/\Ext o P:=by
 obtain⟨g,vb,rfl,z,C,E,A⟩:=O;have I:Hid (EnvS w):=B;have J:Hid _:=z;have H:Hid (IsBytes w vb b):=C;have K:Hid (TypB w vb):=E;have L:Hid (Ext o w):=F;have D:g<w.heap.size:=(Array.getElem?_eq_some_iff.1 z).1;clear B z C E F;go_enter Tryz.func74,Tryz.ntmps74;go_wp2_with fail;go_at_call 129;obtain⟨l,h⟩:∃l,w.heap.size=l:=⟨_,rfl⟩;obtain⟨p,c⟩:∃p,w.alloc (.cells #[.pointer (some ⟨g,0,none⟩)] 123)=p:=⟨_,rfl⟩;have u:Ext w p:=by rw[<-c];exact(Ext.refl _).alloc _
 have x:p.heap[l]? = some (.cells #[.pointer (some ⟨g,0,none⟩)] 123 (0,0)):=by rw[<-c,<-h];exact ae _ _
 have t:g≠l:=by omega
 rw[h,c];have q:Hid _:=x;have a:Hid (Ext w p):=u;clear c h u x;refine(Bj g l 0 0 vb b (0,0) p (I.out.ext a.out) (IsBytes.ext H.out a.out) (K.out.keep (KeepB.BX a.out)) N (by omega) (by omega) (by omega) (Ext.row a.out J.out) q.out t).mono ?_;rintro e G ⟨rfl,r,i⟩;have y:Hid (Ext o G):=Ext.Cb (L.out.trans a.out) i (fun k M=>by subst M;exact A);have S:G.cell? ⟨l,0,none⟩=some (.pointer (some ⟨g,0,none⟩)):=(cell_of_row _ _ 0 _ _ _ (i.row q.out (fun e=>t e.symm))).trans rfl;have Q:=gj (j:=4) r rfl;clear r i;go_wp2;go_ret;exact⟨rfl,y.out⟩
theorem oT (w:World):Calls Tryz.prog 28 #[] w fun e a=>e=.returned (.pointer (some ⟨w.heap.size,0,none⟩))/\a.heap[w.heap.size]? = some (.cells #[.int .i64 0] 133 (0,0))/\Ext w a:=by
 go_enter Tryz.func28,Tryz.ntmps28;go_wp2;go_ret;exact⟨rfl,ae _ _,(Ext.refl _).alloc _⟩
variable {c:Int}
theorem xL (a:w.cell? ⟨g,0,none⟩=some (.int .i64 c)) (b:w.frozen? ⟨g,0,none⟩=false) (e:0<=c) (h:c<=1000000000) :
  (callFunc 187 #[.pointer (some ⟨g,0,none⟩),.int .i64 1]).run Tryz.prog w=.ok (.value (.int .i64 (c+1))) (w.setCell ⟨g,0,none⟩ (.int .i64 (c+1))) :=
 run_call_add (P:=Tryz.prog) Tryz.func187 (by kernel_rfl) (by kernel_rfl) (by kernel_rfl) .i64 (by kernel_rfl) (y:=1) (s:=c+1) a b (by
  have:=IntWalk.i64_in (c+1) (by omega);simp[go_sem,this])
theorem xK (h:w.cell? ⟨g,0,none⟩=some (.int .i64 c)) (i:w.frozen? ⟨g,0,none⟩=false) (a:0<=c) (b:c<=1000000000) :
  Calls Tryz.prog 131 #[.pointer (some ⟨g,0,none⟩),.int .i64 1] w fun e k=>e=.returned (.int .i64 (c+1))/\k=w.setCell ⟨g,0,none⟩ (.int .i64 (c+1)):=by
 have l:=xL h i a b;go_enter Tryz.func131,Tryz.ntmps131;go_wp2;go_ret;exact⟨rfl,rfl⟩
theorem oO (a:w.heap[g]? = some (.cells #[.int .i64 c] 133 (0,0))) (i:0<=c) (k:c<=1000000000) :
  Calls Tryz.prog 132 #[.pointer (some ⟨g,0,none⟩),.int .i64 1] w fun e b=>e=.returned (.int .i64 (c+1))/\b.heap[g]? = some (.cells #[.int .i64 (c+1)] 133 (0,0))/\w.grownBy b (some g):=by
 have l:w.cell? ⟨g,0,none⟩=some (.int .i64 c):=(cell_of_row _ _ 0 _ _ _ a).trans rfl;have p:w.frozen? ⟨g,0,none⟩=false:=by simp[World.frozen?,a]
 have h:Hid _:=a;have o:IntKind.i64.wrap (c+1)=c+1:=IntWalk.i64_in _ (by omega);clear a;go_enter Tryz.func132,Tryz.ntmps132;go_wp2_with fail;go_at_call 131;refine(xK l p i k).mono ?_;rintro e q ⟨rfl,rfl⟩;go_wp2;go_ret;exact⟨rfl,by rw[heap_setCell_same w g 0 _ _ _ h.out];simp,aH w g 0 _⟩
end
section
open Go Go.RowKit
theorem tx {a:World} (b:Env a):2<a.heap.size:=by
 obtain⟨m,c⟩:=b;exact World.block_lt_of_cell? _ _ c
structure One (w0:World) (S O:Nat->Prop) (w:World) (f:Value) (m:Fs):Prop where
 ext:Ext w0 w
 fs:IsFs S O (fun k=>k<w.heap.size) w f m
 lo:∀k,O k->w0.heap.size<=k/\k<w.heap.size
 Cm:∀k,S k->w0.heap.size<=k/\k<w.heap.size
 B3:∀k,S k->¬O k
section
variable {w0 w w':World} {S O:Nat->Prop} {f:Value} {m m':Fs} {n:Nat}
theorem One.Co (h:One w0 S O w f m) (a:Env w0):NoG O:=fun k b e=>by have:=h.lo k b;have:=tx a;omega
theorem One.fin (h:One w0 S O w f m) (c:Env w0) (a:Good n m) (e:n<=80000):FsIn S O (fun k=>k<w.heap.size) w f m:=by
 have g:=a.time;have d:=a.calls;exact⟨c.ext h.ext,h.fs,a.ok,a.plan,by omega,by omega,h.Co c,fun k b=>⟨h.B3 k b,(h.Cm k b).2⟩,fun k b=>(h.lo k b).2,a.Cc,a.Cd⟩
theorem One.more (h:One w0 S O w f m) (b:Ext w w'):One w0 S O w' f m:=by
 have c:=b.size;exact⟨h.ext.trans b,(h.fs.ext b).mono (fun _ h=>h) (fun k a=>Nat.lt_of_lt_of_le a c),fun k a=>by have:=h.lo k a;omega,fun k a=>by have:=h.Cm k a;omega,h.B3⟩
theorem One.post (h:One w0 S O w f m) (c:FsPost S O (fun k=>k<w.heap.size) w f m' w'):One w0 S (Nw O w w') w' f m':=by
 have e:=c.fr.size;have d:=h.ext.size;refine⟨Ext.Cb h.ext c.fr (fun k a=>(h.lo k a).1),c.fs.mono (fun _ h=>h) (fun k a=>by rcases a with a | a <;> omega),fun k a=>?_,fun k a=>by have:=h.Cm k a;omega,fun k a b=>?_⟩
 .rcases a with a | a
  .have:=h.lo k a;omega
  .exact ⟨by omega,a.2⟩
 .rcases b with b | b
  .exact h.B3 k a b
  .have:=h.Cm k a;omega
end
variable {w:World} {room:Int}
theorem One.new {w':World} {p:Value} (h:IsFs (fun _=>False) (Nu w w') (fun _=>False) w' p (fU room)) (b:Ext w w'):One w (fun _=>False) (Nu w w') w' p (fU room) :=
 ⟨b,h.mono (fun _ h=>h) (fun _ h=>h.elim),fun k a=>a,fun k a=>a.elim,fun k a=>a.elim⟩
theorem qR (a:0<=room) (b:room<=1073741824):Good 0 (fU room) :=
 ⟨(wH room).1,(wH room).2,Nat.zero_le _,Nat.le_refl _,Nat.le_refl _,a,b⟩
theorem rt {g:Nat} {x:UInt8} {fr:Nat×Nat} (h:w.heap[g]? = some (.cells #[.int .u8 (x.toNat:Int)] 5 fr)):IsBytes w (.slice (some ⟨g,0,none⟩) 1 1) [x]:=Row.new h (by decide) _ rfl
theorem zm (s p:B8):(Lib.trimPrefix s p).length<=s.length:=by
 unfold Lib.trimPrefix;split
 .rw [List.length_drop];omega
 .exact Nat.le_refl _
variable {m:Fs} {dir:B8}
theorem nU (h:OkM m) (g:fH m):∀s∈(bg m dir).2.1,s.length<=200:=by
 have c:=(ci h g).1.ok;have b:∀s∈aM (av m).1.now,s.length<=200:=fun s a=>by
  obtain⟨e,d,rfl⟩:=List.mem_map.1 a;exact kK (c.Cl e d).1
 unfold bg;intro s a;split at a
 .cases a
 .split at a
  .exact b s a
  .split at a
   .cases a
   .exact b s (List.mem_filter.1 a).1
theorem yq (h:OkM m) (c:fH m) (g:m.time<=7000000):(bg m dir).2.1.length<=7001000:=by
 have b:=(ci h c).1;have e:=b.ok.B7;have d:=b.time;have a:(aM (av m).1.now).length<=7001000:=by unfold aM;rw[List.length_map];omega
 unfold bg;split
 .exact Nat.zero_le _
 .split
  .exact a
  .split
   .exact Nat.zero_le _
   .exact Nat.le_trans (List.length_filter_le _ _) a
end
section
open Go Go.RowKit
variable [Inhabited bf]
theorem One.grown {i w w':World} {S O:Nat->Prop} {f:Value} {m:Fs} {b:Nat} (h:One i S O w f m) (g:w.grownBy w' (some b)) (o:i.heap.size<=b) (l:¬O b) (n:¬S b) (j:¬IsU8 w b):One i S O w' f m:=by
 have p:=g.size;have d:∀k,k≠b->k<w.heap.size->w'.heap[k]? = w.heap[k]?:=fun k a c=>g.block k c (fun e=>a (Option.some.inj e))
 refine⟨Ext.Cb h.ext (Fr.B1 (O:=fun k=>k=b) g rfl j) (fun k a=>by omega),(h.fs.stay (fun k a c=>d k (fun e=>l (e▸a)) c) (fun k a c=>d k (fun e=>n (e▸a)) c) (dM g j)).mono (fun _ h=>h) (fun k a=>by omega),fun k a=>by have:=h.lo k a;omega,fun k a=>by have:=h.Cm k a;omega,h.B3⟩
end
section
open Go Go.RowKit
structure cZ where
 DH:Nat->Option Obj
 low:Nat
def cJ [a:Inhabited cZ]:Nat->Option Obj:=(default:cZ).DH
open Classical in
noncomputable def rh [a:Inhabited cZ]:Nat:=if ∀k,cJ k=none then 0 else(default:cZ).low
theorem ir [a:Inhabited cZ] (h:∀k,cJ k=none) (n:Nat):rh<=n:=by unfold rh;rw[if_pos h];exact Nat.zero_le _
variable [KW:Inhabited cZ]
structure St (w0:World) (S O:Nat->Prop) (w:World) (f:Value) (gs gc:Nat) (m:Fs) (n:Int):Prop where
 one:One w0 S O w f m
 row:w.heap[gs]? = some (.cells #[f,.pointer (some ⟨gc,0,none⟩)] 88 (0,0))
 B9:w.heap[gc]? = some (.cells #[.int .i64 n] 133 (0,0))
 lo:w0.heap.size<=gs/\w0.heap.size<=gc/\gs≠gc
 out:¬O gs/\¬O gc/\¬S gs/\¬S gc
 kp:∀k o,cJ k=some o->w.heap[k]? = some o/\¬O k/\k≠gs/\k≠gc
 sz:rh<=w.heap.size
section
variable {w0 w w':World} {S O:Nat->Prop} {f:Value} {gs gc:Nat} {m m':Fs} {n:Int}
theorem St.more (h:St w0 S O w f gs gc m n) (a:Ext w w'):St w0 S O w' f gs gc m n:=⟨h.one.more a,Ext.row a h.row,Ext.row a h.B9,h.lo,h.out,fun k o b=>⟨Ext.row a (h.kp k o b).1,(h.kp k o b).2⟩,Nat.le_trans h.sz a.size⟩
theorem St.lt (h:St w0 S O w f gs gc m n):gs<w.heap.size/\gc<w.heap.size:=⟨(Array.getElem?_eq_some_iff.1 h.row).1,(Array.getElem?_eq_some_iff.1 h.B9).1⟩
theorem St.post (h:St w0 S O w f gs gc m n) (b:FsPost S O (fun k=>k<w.heap.size) w f m' w'):St w0 S (Nw O w w') w' f gs gc m' n:=by
 have j:=h.lt;refine⟨h.one.post b,b.fr.row h.row h.out.1,b.fr.row h.B9 h.out.2.1,h.lo,⟨fun a=>?_,fun a=>?_,h.out.2.2⟩,fun k o e=>?_,Nat.le_trans h.sz b.fr.size⟩
 .rcases a with a | a
  .exact h.out.1 a
  .omega
 .rcases a with a | a
  .exact h.out.2.1 a
  .omega
 .obtain ⟨c,d,i⟩:=h.kp k o e;have g:=(Array.getElem?_eq_some_iff.1 c).1;refine⟨b.fr.row c d,fun a=>?_,i⟩;rcases a with a | a
  .exact d a
  .omega
end
theorem iH (l:B8) (w:World) (b:l.length<=10000000):Calls Tryz.prog 79 #[S8 l] w fun e a=>e=.returned (S8 (ai l))/\a=w:=by
 go_enter Tryz.func79,Tryz.ntmps79;go_wp2;go_ret;exact⟨rfl,rfl⟩
theorem uf (w:World) (o:Obj):(w.alloc o).heap.size=w.heap.size+1:=Array.size_push ..
variable [Inhabited bf]
variable {w0 w w':World} {f:Value} {gs gc:Nat} {m:Fs} {n:Int}
theorem St.count {S O:Nat->Prop} {k:Int} (h:St w0 S O w f gs gc m n) (c:w'.heap[gc]? = some (.cells #[.int .i64 k] 133 (0,0))) (a:w.grownBy w' (some gc)):St w0 S O w' f gs gc m k :=
 ⟨h.one.grown a h.lo.2.1 h.out.2.1 h.out.2.2.2 (aw h.B9 (by kernel_rfl)),aV a h.row h.lo.2.2,c,h.lo,h.out,fun k o b=>⟨aV a (h.kp k o b).1 (h.kp k o b).2.2.2,(h.kp k o b).2⟩,Nat.le_trans h.sz a.size⟩
theorem pL {S O:Nat->Prop} (h:One w0 S O w f m) (i:∀k,cJ k=none) :
  Calls Tryz.prog 9 #[f] w fun e w'=>∃gs gc,e=.returned (.pointer (some ⟨gs,0,none⟩))/\St w0 S O w' f gs gc m 0/\w'.heap.size=gs+1/\Ext w w'/\w.heap.size<=gs/\w.heap.size<=gc:=by
 have H:Hid (One w0 S O w f m):=h;obtain⟨g,rfl⟩:∃g,f=.pointer (some ⟨g,0,none⟩):=by
  obtain⟨g,B,A,D,C,E,L,z,q,-⟩:=h.fs;exact⟨g,q⟩
 clear h;go_enter Tryz.func9,Tryz.ntmps9;go_wp2_with fail;go_at_call 28;refine(oT w).mono ?_;rintro e p ⟨rfl,d,l⟩;have c:Hid _:=d;have a:Hid (Ext w p):=l;clear d l;go_wp2;go_ret;have u:=One.more H.out a.out;have b:Ext p (p.alloc (.cells #[.pointer (some ⟨g,0,none⟩),.pointer (some ⟨w.heap.size,0,none⟩)] 88)):=(Ext.refl _).alloc _;have y:=a.out.size;have x:=(Array.getElem?_eq_some_iff.1 c.out).1;have r:=H.out.ext.size;refine⟨p.heap.size,w.heap.size,rfl,⟨u.more b,ae _ _,Ext.row b c.out,⟨by omega,r,by omega⟩,⟨fun j=>?_,fun j=>?_,fun j=>?_,fun j=>?_⟩,fun k o t=>(by rw[i]at t;cases t),ir i _⟩,uf _ _,a.out.trans b,y,Nat.le_refl _⟩
 iterate 2
  .have:=(H.out.lo _ j).2;omega
 iterate 2
  .have:=(H.out.Cm _ j).2;omega
theorem yF {S O:Nat->Prop} (h:One w0 S O w f m) (a:∀k,cJ k=none) :
  Calls Tryz.prog 9 #[f] w fun e w'=>∃gs gc,e=.returned (.pointer (some ⟨gs,0,none⟩))/\St w0 S O w' f gs gc m 0/\w'.heap.size=gs+1 :=
 (pL h a).mono (by rintro e w' ⟨gs,gc,b,c,d,-⟩;exact⟨gs,gc,b,c,d⟩)
variable {b:Nat}
theorem St.but {S O:Nat->Prop} (h:St w0 S O w f gs gc m n) (a:w.grownBy w' (some b)) (p:w0.heap.size<=b) (j:¬O b) (l:¬S b) (q:¬IsU8 w b) (d:gs≠b) (g:gc≠b) (i:cJ b=none):St w0 S O w' f gs gc m n :=
 ⟨h.one.grown a p j l q,aV a h.row d,aV a h.B9 g,h.lo,h.out,fun k o c=>⟨aV a (h.kp k o c).1 (fun e=>by rw[e,i]at c;cases c),(h.kp k o c).2⟩,Nat.le_trans h.sz a.size⟩
structure RdJ (w0 w1:World) (S O:Nat->Prop) (f:Value) (gs gc:Nat) (m m1:Fs) (n:Int) (fx:Fi) (er:Int) (z6 z7 z8 z10 z11:Option Value) (w:World):Prop where
 base:St w0 S O w1 f gs gc m n
 pre:z6=none->Ext w1 w
 post:∀u,z6=some u->∃v O' R,u=.tuple #[fiV fx v,.int .i64 er]/\IsData R w v fx.data/\St w0 S O' w f gs gc m1 n/\KeepB w1 w/\∀b,w1.heap.size<=b->z10=some (.pointer (some ⟨b,0,none⟩))->¬O' b
 n7:z7≠none->z7=z6
 n8:∀u,z8=some u->∃q,z6=some (.tuple #[u,q])
 bl:∀u,z10=some u->∃b cs,u=.pointer (some ⟨b,0,none⟩)/\w.heap[b]? = some (.cells cs 56 (0,0))/\cs.size=3/\w1.heap.size<=b
 fl:z11≠none->∃v b,z8=some (fiV fx v)/\z10=some (.pointer (some ⟨b,0,none⟩))/\w.heap[b]? = some (.cells #[.int .i64 fx.mode,v,.int .i64 fx.time] 56 (0,0))
section
variable {w0 w1 w w':World} {S O:Nat->Prop} {f:Value} {gs gc:Nat} {m m1:Fs} {n er:Int} {fx:Fi} {z6 z7 z8 z10 z11:Option Value}
theorem RdJ.start (h:St w0 S O w1 f gs gc m n) (b:Ext w1 w):RdJ w0 w1 S O f gs gc m m1 n fx er none none none none none w :=
 ⟨h,fun _=>b,fun u a=>(by cases a),fun h=>absurd rfl h,fun u a=>(by cases a),fun u a=>(by cases a),fun h=>absurd rfl h⟩
theorem RdJ.st (h:RdJ w0 w1 S O f gs gc m m1 n fx er none z7 z8 z10 z11 w):St w0 S O w f gs gc m n:=h.base.more (h.pre rfl)
theorem RdJ.cell (h:RdJ w0 w1 S O f gs gc m m1 n fx er z6 z7 z8 z10 z11 w):w.cell? ⟨gs,0,none⟩=some f:=by
 cases a:z6 with
 | none=>rw[a]at h;exact(cell_of_row _ _ 0 _ _ _ h.st.row).trans rfl
 | some u =>
  obtain⟨v,c,R,-,-,b,-⟩:=h.post u a;exact(cell_of_row _ _ 0 _ _ _ b.row).trans rfl
theorem RdJ.low (h:RdJ w0 w1 S O f gs gc m m1 n fx er z6 z7 z8 z10 z11 w) (k:Nat) (e:w1.heap.size<=k):¬O k/\¬S k/\gs≠k/\gc≠k/\w0.heap.size<=k/\cJ k=none:=by
 have c:=h.base.lt;have d:=h.base.one.ext.size;exact⟨fun a=>by have:=(h.base.one.lo _ a).2;omega,fun a=>by have:=(h.base.one.Cm _ a).2;omega,by omega,by omega,by omega,by
  cases b:cJ k with
  | none=>rfl
  | some o=>have:=(Array.getElem?_eq_some_iff.1 (h.base.kp k o b).1).1;omega⟩
theorem RdJ.Dn (h:RdJ w0 w1 S O f gs gc m m1 n fx er z6 z7 z8 none z11 w) (cs:Array Value) (p:cs.size=3):RdJ w0 w1 S O f gs gc m m1 n fx er z6 z7 z8 (some (.pointer (some ⟨w.heap.size,0,none⟩))) z11 (w.alloc (.cells cs 56)):=by
 have a:Ext w (w.alloc (.cells cs 56)):=(Ext.refl w).alloc _;have i:w1.heap.size<=w.heap.size:=by
  cases c:z6 with
  | none=>exact(h.pre c).size
  | some u =>
   exact(h.post u c).choose_spec.choose_spec.choose_spec.2.2.2.1.1
 refine⟨h.base,fun c=>(h.pre c).trans a,fun u j=>?_,h.n7,h.n8,fun u j=>?_,fun g=>(by obtain⟨v,b,-,d,-⟩:=h.fl g;cases d)⟩
 .obtain ⟨v,o,R,e,q,l,k,-⟩:=h.post u j;have x:=a.size;refine⟨v,o,R,e,q.ext a,l.more a,k.trans (KeepB.BX a),fun b y r t=>?_⟩;cases r;have:=(l.one.lo _ t).2;omega
 .cases j;exact⟨_,cs,rfl,ae _ _,p,i⟩
variable {v:Value}
theorem RdJ.DE (h:RdJ w0 w1 S O f gs gc m m1 n fx er none z7 z8 z10 z11 w) (o:FsPost S O (fun k=>k<w.heap.size) w f m1 w') (x:IsData (Nu w w') w' v fx.data) :
  RdJ w0 w1 S O f gs gc m m1 n fx er (some (.tuple #[fiV fx v,.int .i64 er])) z7 z8 z10 z11 w':=by
 have r:z7=none:=by
  cases c:z7 with
  | none=>rfl
  | some u=>have:=h.n7 (by rw[c];simp);rw[c]at this;cases this
 have l:z8=none:=by
  cases c:z8 with
  | none=>rfl
  | some u=>obtain⟨q,A⟩:=h.n8 u c;cases A
 subst r;subst l;refine⟨h.base,fun c=>(by cases c),fun u d=>?_,fun c=>absurd rfl c,fun u d=>(by cases d),fun u d=>?_,fun j=>(by obtain⟨v,b,l,-⟩:=h.fl j;cases l)⟩
 .cases d;refine⟨v,_,_,rfl,x,h.st.post o,(KeepB.BX (h.pre rfl)).trans o.fr.keep,fun b g y i=>?_⟩
  obtain⟨B,p,e,a,-,-⟩:=h.bl _ y;cases e;have z:=(Array.getElem?_eq_some_iff.1 a).1;rcases i with i | i
  .exact (h.low _ g).1 i
  .omega
 .obtain ⟨b,p,e,a,t,g⟩:=h.bl u d;exact⟨b,p,e,o.fr.row a (h.low _ g).1,t,g⟩
variable {u:Value}
theorem RdJ.C6 (h:RdJ w0 w1 S O f gs gc m m1 n fx er z6 z7 z8 z10 z11 w) (a:z6=some u):RdJ w0 w1 S O f gs gc m m1 n fx er z6 (some u) z8 z10 z11 w :=
 ⟨h.base,h.pre,h.post,fun _=>a.symm,h.n8,h.bl,h.fl⟩
theorem RdJ.seven (h:RdJ w0 w1 S O f gs gc m m1 n fx er z6 z7 z8 z10 z11 w) (a:z7=some u):∃v,u=.tuple #[fiV fx v,.int .i64 er]:=by
 have b:=h.n7 (by rw[a];simp);obtain⟨v,c,R,e,-⟩:=h.post u (b.symm.trans a);exact⟨v,e⟩
theorem RdJ.C7 {q:Value} (h:RdJ w0 w1 S O f gs gc m m1 n fx er z6 z7 none z10 z11 w) (c:z7=some (.tuple #[u,q])):RdJ w0 w1 S O f gs gc m m1 n fx er z6 z7 (some u) z10 z11 w :=
 ⟨h.base,h.pre,h.post,h.n7,fun x e=>(by cases e;exact⟨q,(h.n7 (by rw[c];simp)).symm.trans c⟩),h.bl,fun a=>(by obtain⟨v,b,d,-⟩:=h.fl a;cases d)⟩
variable {u8 u10:Value}
theorem RdJ.mid (h:RdJ w0 w1 S O f gs gc m m1 n fx er z6 z7 z8 z10 z11 w) (i:z8=some u8) (g:z10=some u10):∃v b c,u8=fiV fx v/\u10=.pointer (some ⟨b,0,none⟩)/\w.heap[b]? = some (.cells c 56 (0,0))/\c.size=3/\v.oneCell'=true:=by
 obtain⟨q,l⟩:=h.n8 _ i;obtain⟨v,o,R,e,k,-⟩:=h.post _ l;obtain⟨b,c,d,a,j,p⟩:=h.bl _ g;simp only[Value.tuple.injEq,Array.mk.injEq,List.cons.injEq,and_true]at e;obtain⟨r,t,rfl,-⟩:=k.bytes;exact⟨_,b,c,e.1,d,a,j,rfl⟩
theorem RdJ.CT {x:Value} {cs:Array Value} (h:RdJ w0 w1 S O f gs gc m m1 n fx er z6 z7 z8 z10 none w) (r:z8=some (fiV fx v)) (a:z10=some (.pointer (some ⟨b,0,none⟩))) (c:w.heap[b]? = some (.cells cs 56 (0,0)))
  (t:w'.heap[b]? = some (.cells #[.int .i64 fx.mode,v,.int .i64 fx.time] 56 (0,0))) (i:w.grownBy w' (some b)):RdJ w0 w1 S O f gs gc m m1 n fx er z6 z7 z8 z10 (some x) w':=by
 have A:¬IsU8 w b:=aw c (by kernel_rfl);have H:=i.size;obtain⟨G,C,j,-,-,k⟩:=h.bl _ a;cases j;have g:=h.low b k;refine⟨h.base,fun E=>?_,fun u o=>?_,h.n7,h.n8,fun u d=>?_,fun _=>⟨v,b,r,a,t⟩⟩
 .obtain ⟨q,z⟩:=h.n8 _ r;rw[E]at z;cases z
 .obtain ⟨F,B,R,e,D,l,p,y⟩:=h.post u o;refine⟨F,B,R,e,D.BZ (dM i A),l.but i g.2.2.2.2.1 (y b k a) g.2.1 A g.2.2.1 g.2.2.2.1 g.2.2.2.2.2,p.trans (KeepB.B1 i c (by kernel_rfl)),y⟩
 .rw [a]at d;cases d;exact⟨b,_,rfl,t,rfl,k⟩
theorem RdJ.fin {u6 u7 u11:Value} (h:RdJ w0 w1 S O f gs gc m m1 n fx er (some u6) (some u7) (some u8) (some u10) (some u11) w):∃v c b,u10=.pointer (some ⟨b,0,none⟩)/\KeepB w1 w/\(IsBytes w v fx.data/\TypB w v)/\St w0 S c w f gs gc m1 n/\w.heap[b]? = some (.cells #[.int .i64 fx.mode,v,.int .i64 fx.time] 56 (0,0)):=by
 obtain⟨o,c,R,e,g,l,j,-⟩:=h.post _ rfl;obtain⟨q,k⟩:=h.n8 _ rfl;obtain⟨v,b,i,d,a⟩:=h.fl (by simp);cases i;cases d;cases k;simp only[Value.tuple.injEq,Array.mk.injEq,List.cons.injEq,and_true,fiV,Value.agg.injEq,true_and]at e;obtain⟨rfl,-⟩:=e;exact⟨_,c,b,rfl,j,⟨g.bytes,g.typed⟩,l,a⟩
end
theorem xh:(Tryz.prog.info? 56).map (·.size)=some 3:=by kernel_rfl
theorem qs {c:Prop} [Decidable c] {b:Operand->Value} {R:Value->World->Prop} {o:Oper} (a:TypeId) (x y:Operand) {g:Nat} {vs:Array Value} {t:TypeId} {cur:Array Value} (u:c) (z:o.op=.store a x y) (B:b x=.pointer (some ⟨g,0,none⟩)) (C:b y=.agg vs)
  (r:∀v∈vs.toList,v.oneCell'=true) (k:w.heap[g]? = some (.cells cur t (0,0))) (p:cur.size=vs.size) (l:(Tryz.prog.info? a).map (·.size)=some vs.size) (h:∀w',w'.heap[g]? = some (.cells vs t (0,0))->w.grownBy w' (some g)->R undef w') :
  if c then fB Tryz.prog R ((execOp b o).run Tryz.prog w)else R undef w:=by
 rw[if_pos u];have q:=run_storeCells_at (P:=Tryz.prog) g 0 t vs.toList 0 cur w k (by simp[p]) r;have A:(storeVar a ⟨g,0,none⟩ (.agg vs)).run Tryz.prog w=.ok () (w.setRow g vs):=by
  cases e:Tryz.prog.info? a with
  | none=>simp[e]at l
  | some i =>
   have j:i.size=vs.size:=by simpa [e]using l
   have d:cur.toList.drop vs.size=[]:=List.drop_eq_nil_of_le (by simp[p]);simp only[Nat.add_zero,Array.length_toList,List.take_zero,List.nil_append,Nat.zero_add,d,List.append_nil,Array.toArray_toList]at q;simp[storeVar,sizeOf,typeInfo,e,Value.cells,j,q]
 unfold execOp;simp only[z,B,C,Instr.storeAt,Instr.sureAddr,Sem.run_bind,Sem.run_pure,Result.andThen_ok,A];exact h _ (setRow_heap _ _ _ _ _ _ k) (af _ _ _)
variable {k:Nat}
theorem pU {S O:Nat->Prop} (id:B8) (h:St w0 S O w f gs gc m n) (hE:Env w0) (M:Good k m) (c:k<=79900) (ad:0<=n) (a0:n<=100000) (hid:id.length<=100) :
  Calls Tryz.prog 75 #[.pointer (some ⟨gs,0,none⟩),S8 id] w fun e w'=>∃(v:Value) (O':Nat->Prop),e=.returned (.tuple #[v,.int .i64 (aF m (ai id)).2.2])/\(IsBytes w' v (aF m (ai id)).2.1.data/\TypB w' v)/\KeepB w w'/\St w0 S O' w' f gs gc (aF m (ai id)).1 (n+1):=by
 have H:Hid (St w0 S O w f gs gc m n):=h;have HE:Hid (Env w0):=hE;have HG:Hid (Good k m):=M;have I:(ai id).length<=400:=by unfold ai;simp;omega
 have U:Hid _:=I;obtain⟨g,rfl⟩:∃g,f=.pointer (some ⟨g,0,none⟩):=by
  obtain⟨g,gm,gd,vp,vl,vu,L,c0,au,-⟩:=h.one.fs;exact⟨g,au⟩
 have c1:w.cell? ⟨gs,1,none⟩=some (.pointer (some ⟨gc,0,none⟩)):=(cell_of_row _ _ 1 _ _ _ h.row).trans rfl;obtain⟨⟨m1,C,X⟩,hr⟩:∃q,aF m (ai id)=q:=⟨_,rfl⟩;have HR:Hid _:=hr;rw[hr];clear h hE M I hr;go_enter Tryz.func75,Tryz.ntmps75;go_wp2_with fail;go_at_call 132;refine(oO H.out.B9 ad (by omega)).mono ?_;rintro e N ⟨rfl,D,y⟩;have H1:Hid (St w0 S O N (.pointer (some ⟨g,0,none⟩)) gs gc m (n+1)):=St.count H.out D y;have d0:N.cell? ⟨gs,0,none⟩=some (.pointer (some ⟨g,0,none⟩)):=(cell_of_row _ _ 0 _ _ _ H1.out.row).trans rfl;have Q:Hid (KeepB w N):=KeepB.B1 y H.out.B9 (by kernel_rfl);clear D y c1;go_upto_region 2 with fail;have J:∀A,St w0 S O A (.pointer (some ⟨g,0,none⟩)) gs gc m (n+1)->Calls Tryz.prog 101 #[.pointer (some ⟨g,0,none⟩),S8 (ai id)] A fun e w'=>(∃v,e=.returned (.tuple #[fiV C v,.int .i64 X])/\IsData (Nu A w') w' v C.data)/\FsPost S O (fun k=>k<A.heap.size) A (.pointer (some ⟨g,0,none⟩)) m1 w':=fun A h2=>by
  have hq:=rE (ai id) (One.fin h2.one HE.out HG.out (by omega)) U.out;rw[HR.out]at hq;exact hq
 have V:Hid _:=J;clear J d0;apply aI 12 (fun z w'=>RdJ w0 N S O (.pointer (some ⟨g,0,none⟩)) gs gc m m1 (n+1) C X (z 6) (z 7) (z 8) (z 10) (z 11) w') [false,false,false,false,false,false,true,true,true,false,true,true] [_,_,_,.pointer (some ⟨g,0,none⟩),_,S8 (ai id),undef,undef,undef,.int .i64 X,undef,undef] [none,none,none,none,none,none,none,none,none,none,none,none] [[],[0],[1],[2],[],[4],[3,5],[6],[7],[7],[],[8,10]] (by kernel_rfl) (by kernel_rfl) rfl
 .exact RdJ.start H1.out ⟨rfl,rfl,rfl,Nat.le_refl _,fun _ _=>rfl⟩
 .simp (maxSteps:=1000000)only[de,cN,bR,cG,cS,List.getD_cons_zero,List.getD_cons_succ,Bool.false_eq_true,if_false,if_true,and_true,true_and,forall_const,Nat.zero_add,Nat.reduceAdd,List.take_succ_cons,List.take_zero,ab,Act.put,List.setIfInBounds_toArray,List.set_cons_zero,List.set_cons_succ];and_intros
  iterate 5 · intro i z B a;intros;rename_i d;have f0:=a.cell;go_simp;exact d _ _ a rfl
  .intro i z B a c R d;go_simp;exact(iH id _ (by omega)).mono (by rintro e' w4 ⟨rfl,rfl⟩;exact⟨_,rfl,d _ _ a rfl⟩)
  .intro i z B a x c R d;obtain⟨o,p⟩:=c;rw[x]at a;go_simp;exact(V.out _ a.st).mono (by rintro e' w4 ⟨⟨v,rfl,hd⟩,hp⟩;exact⟨_,rfl,d _ _ (RdJ.DE a hp hd)⟩)
  .intro i z B a x c R d;go_simp;exact d _ _ (RdJ.C6 a c)
  .intro i z B a x c R d;rw[x]at a;obtain⟨v,hv⟩:=RdJ.seven a c;rw[hv]at c ⊢;go_simp;exact d _ _ (RdJ.C7 a c)
  .intro i z B a c R d;obtain⟨v,hv⟩:=RdJ.seven a c;rw[hv];go_simp;exact d _ _ a rfl
  .intro i z B a x R d;rw[x]at a;go_simp;exact d _ _ (RdJ.Dn a _ rfl)
  .intro i z B a x c R d;obtain⟨o,p⟩:=c;rw[x]at a;obtain⟨v,b,cs,e8,l,r,Z,Y⟩:=RdJ.mid a o p;rw[e8]at o;rw[l]at p;apply qs 56 (.tmp 6) (.tmp 21) (g:=b) (vs:=#[.int .i64 C.mode,v,.int .i64 C.time]) (t:=56) (cur:=cs)
   iterate 2
    .rfl
   .exact l
   .exact e8
   .intro u hu;simp at hu;rcases hu with rfl | rfl | rfl <;> first | exact Y | rfl
   .exact r
   .exact Z
   .exact xh
   .intro w' M aa;exact d _ _ (RdJ.CT a o p r M aa)
 intro i A F c;simp only[di,List.getD_cons_zero,List.getD_cons_succ,Bool.false_eq_true,if_false,if_true]at F;simp only[bV,Nat.zero_add,Nat.reduceAdd,and_true]at c;simp(maxSteps:=1000000)only[List.drop_succ_cons,List.drop_zero,Nat.zero_add,Nat.reduceAdd,List.take_succ_cons,List.take_zero,ab,Act.put,List.setIfInBounds_toArray,List.set_cons_zero,List.set_cons_succ,c];clear c;generalize i 6=x6 at *;generalize i 7=x7 at *;generalize i 8=x8 at *;generalize i 10=a1 at *;generalize i 11=a2 at *;obtain⟨v,O',b,l,G,E,K,j⟩:=RdJ.fin F;have T:Hid _:=Q.out.trans G;have W:Hid _:=K;have P:Hid _:=E;obtain⟨c0,c1,c2⟩:=bL j;clear G E K j;subst l;go_wp2;go_ret2;exact⟨_,_,rfl,P.out,T.out,W.out⟩
theorem wY {S O:Nat->Prop} (id:B8) (h:St w0 S O w f gs gc m n) (d:Env w0) (j:Good k m) (a:k<=79900) (b:0<=n) (c:n<=100000) (hid:id.length<=100) :
  Calls Tryz.prog 75 #[.pointer (some ⟨gs,0,none⟩),S8 id] w fun e w'=>∃(v:Value) (O':Nat->Prop),e=.returned (.tuple #[v,.int .i64 (aF m (ai id)).2.2])/\IsBytes w' v (aF m (ai id)).2.1.data/\KeepB w w'/\St w0 S O' w' f gs gc (aF m (ai id)).1 (n+1):=by
 refine(pU id h d j a b c hid).mono ?_;rintro e w' ⟨v,O',i,g,a,l⟩;exact⟨v,O',i,g.1,a,l⟩
end
section
open Go Go.RowKit
theorem kO (v:Value) (l:B8) (w:World) (S:IsBytes w v l) (hl:l.length<=30000000) :
  Calls Tryz.prog 137 #[v] w fun e G=>e=.returned (S8 (cd l))/\Ext w G:=by
 obtain⟨a,X,rfl,M,N,H,O⟩:=S.get;have U:Hid _:=O;clear O S;go_enter Tryz.func137,Tryz.ntmps137;go_wp2;go_loopw [4,5] (fun v i wr=>∃k:Nat,k<=l.length/\i=.int .i64 k/\wr.ownsRow w.heap.size 5 1 v (2*k) ((cd (l.take k)).map fun x=>.int .u8 x.toNat)/\Ext w wr) (fun _ i _=>l.length - (intOf i).toNat)
 case atStart=>exact⟨0,Nat.zero_le _,rfl,World.ownsRow_nil _ _ _ _,Ext.refl _⟩
 case round =>
  obtain⟨k,d,rfl,p,F⟩:=hrel
  by_cases B:k<l.length
  .obtain ⟨b,o,rfl,Q⟩:=U.out k B;have A:=F.cell (Q k B);clear Q;generalize T:l.getD k 0=y at A;have W:Hid _:=T;clear T;have E:y.toNat<256:=y.toNat_lt;have P:bits BinOp.and IntKind.u8 (y.toNat:Int) 15=((y.toNat%16:Nat):Int):=zB _ E;have V:Hid _:=P;clear P;go_upto_region 6 with fail;apply ak 16 [_,_,_,_,.pointer (some ⟨b,o+k,none⟩),.int .u8 y.toNat,_,.int .u8 (aT.getD (y.toNat / 16) 0).toNat,_,_,_,.pointer (some ⟨b,o+k,none⟩),.int .u8 y.toNat,_,.int .u8 (aT.getD (y.toNat%16) 0).toNat,undef] [none,none,none,none,none,none,none,none,none,none,none,none,none,none,none,some (fun u G=>∃g,u=.slice (some ⟨g,0,none⟩) 2 2/\wr.heap.size<=g/\G.heap[g]? = some (.cells #[.int .u8 (aT.getD (y.toNat / 16) 0).toNat,.int .u8 (aT.getD (y.toNat%16) 0).toNat] 5 (0,0)))] [[],[],[],[],[2,3],[4],[5],[1,6],[],[],[],[9,10],[11],[12],[8,13],[7,14]] (by kernel_rfl) (by kernel_rfl) (by simp[aq])
   .refine ⟨?_,trivial⟩
    .exact fun u w G he ⟨g,M,N,H⟩=>⟨g,M,N,(he.block g (Array.getElem?_eq_some_iff.1 H).1).trans H⟩
   .simp (maxSteps:=1000000)only[List.take_succ_cons,List.take_zero,ay,aE,ab,Act.put,List.setIfInBounds_toArray,List.set_cons_zero,List.set_cons_succ,aN,aS,aq,List.getD_cons_zero,List.getD_cons_succ,and_true,true_and,forall_const];and_intros
    iterate 4 · intro j r h;intros;rename_i c;go_simp;exact c _ _ (Ext.refl _) rfl
    .intro j r h d R c;obtain⟨t,z⟩:=d;go_simp;exact c _ _ (Ext.refl _) rfl
    .intro j r h d R c;have Y:=h.cell A;go_simp;exact c _ _ (Ext.refl _) rfl
    .intro j r h;intros;rename_i c;go_simp;exact c _ _ (Ext.refl _) rfl
    .intro j r h d R c;obtain⟨t,z⟩:=d;go_simp;rw[dif_pos ⟨by omega,by omega⟩];exact c _ _ (Ext.refl _) (vP y (by omega))
    iterate 3 · intro j r h;intros;rename_i c;go_simp;exact c _ _ (Ext.refl _) rfl
    .intro j r h d R c;obtain⟨t,z⟩:=d;go_simp;exact c _ _ (Ext.refl _) rfl
    .intro j r h d R c;have Y:=h.cell A;go_simp;exact c _ _ (Ext.refl _) rfl
    .intro j r h;intros;rename_i c;go_simp;exact c _ _ (Ext.refl _) rfl
    .intro j r h d R c;obtain⟨t,z⟩:=d;go_simp;rw[V.out,dif_pos ⟨by omega,by omega⟩];exact c _ _ (Ext.refl _) (vQ y (by omega))
    .intro j r h d R c;obtain⟨t,z⟩:=d;go_simp;exact c _ _ ((Ext.refl _).alloc _) ⟨_,rfl,h.size,ae _ _⟩
   intro j w2 D d;simp only[aU,Nat.zero_add,Nat.reduceAdd,and_true]at d;have L:=d.2.2.2.2.2.2.2.2.2.2.2.2.2.2.2;simp(maxSteps:=1000000)only[List.take_succ_cons,List.take_zero,List.drop_succ_cons,List.drop_zero,ab,Act.put,List.setIfInBounds_toArray,List.set_cons_zero,List.set_cons_succ,Nat.zero_add,Nat.reduceAdd,d];clear d;generalize j 15=ad at *;obtain⟨g,rfl,aa,I⟩:=L;have q:=am p D;have n:=j8 (l.take k)
   go_wp2_with (at_builtin;refine dP rfl _ _ rfl w.heap.size _ (2*k) _ rfl q g 2 2 [aT.getD (y.toNat / 16) 0,aT.getD (y.toNat%16) 0] rfl rfl I (by omega) (by have:=(F.trans D).size;exact this) ?_;intro v' w3 C J)
   go_roundw
   case rel=>exact⟨k+1,by omega,by go_num,by rw[qT B W.out];exact C,aj (F.trans D) q J⟩
   case measure=>simp[intOf];omega
  .have K:k=l.length:=by omega
   subst K;rw[List.take_length]at p;have n:=j8 l;have Z:=dA (l:=cd l) (by unfold IsBytes;rw[n];exact Row.BV p (by omega));clear n;go_wp2;go_ret;exact⟨rfl,F⟩
end
section
open Go Go.RowKit Go.Sort
end
section
open Go Go.RowKit Go.Sort
end
section
open Go Go.RowKit Go.Sort
theorem uK {l:List B8} (h:∀k a b,l[k]? = some a->l[k+1]? = some b->ltB a b=true):cM l:=by
 have g:∀(d i:Nat) (x y:B8),l[i]? = some x->l[i+1+d]? = some y->ltB x y=true:=by
  intro d
  induction d with
  | zero=>exact h
  | succ d r =>
   intro i x y q c;have t:=(List.getElem?_eq_some_iff.1 c).1;have e:l[i+1+d]? = some l[i+1+d]:=List.getElem?_eq_getElem (by omega);exact lC (r i x _ q e) (h (i+1+d) _ y e c)
 refine List.pairwise_iff_getElem.2 fun i j n p o=>?_
 exact g (j - i - 1) i _ _ (List.getElem?_eq_getElem n) (by rw[show i+1+(j - i - 1)=j by omega];exact List.getElem?_eq_getElem p)
def xI (l:List B8) (e:Ending):Prop:=∃c:Bool,e=.returned (.bool c)/\(c=true↔cM l)
theorem sT (v:Value) (l:List B8) (w:World) (K:IsStrs w v l) :
  Calls Tryz.prog 14 #[v] w fun e V=>xI l e/\Ext w V:=by
 obtain⟨a,Q,rfl,Z,l2,l3,F⟩:=K.get;have N:Hid _:=F;clear K F;go_enter Tryz.func14,Tryz.ntmps14;go_wp2_with fail;go_loopw [3] (fun i wr=>∃k:Nat,k<=l.length/\i=.int .i64 ((k:Int)+1)/\Hid (∀j a b,j<k->l[j]? = some a->l[j+1]? = some b->ltB a b=true)/\Hid (Ext w wr)) (fun i _=>l.length+1 - (intOf i).toNat)
 case atStart=>exact⟨0,Nat.zero_le _,rfl,fun j a b G=>absurd G (Nat.not_lt_zero _),Ext.refl _⟩
 case round =>
 obtain⟨k,X,rfl,D,g⟩:=hrel
 by_cases r:k+1<l.length
 case neg =>
  have P:Hid (cM l):=uK (fun j a b q d=>D.out j a b (by have:=(List.getElem?_eq_some_iff.1 d).1;omega) q d);have Y:¬((k:Int)+1<(l.length:Int)):=by omega
  go_wp2;go_ret;exact⟨⟨true,rfl,fun _=>P.out,fun _=>rfl⟩,g.out⟩
 obtain⟨x,A⟩:∃x,l[k]? = some x:=⟨_,List.getElem?_eq_getElem (by omega)⟩;obtain⟨y,C⟩:∃y,l[k+1]? = some y:=⟨_,List.getElem?_eq_getElem r⟩;obtain⟨W,oo,rfl,u⟩:=N.out k (by omega);have L:=g.out.cell (u k (by omega));have M:=g.out.cell (u (k+1) r);rw[show l.getD k []=x by rw[List.getD_eq_getElem?_getD,A];rfl]at L;rw[show l.getD (k+1) []=y by rw[List.getD_eq_getElem?_getD,C];rfl]at M;have o:Hid _:=A;have p:Hid _:=C;have H:(k:Int)+1<(l.length:Int):=by omega
 have I:(k:Int)<(l.length:Int):=by omega
 have J:(0:Int)<=(k:Int)+1:=by omega
 have U:IntKind.i64.wrap (k:Int)=(k:Int):=IntWalk.i64_in _ (by omega);have T:((k:Int)+1).toNat=k+1:=by omega
 clear u A C;rcases jB y x with⟨c,E,R⟩ | ⟨c,E⟩ | ⟨c,E,R⟩
 .have t:Hid (∀j a b,j<k+1->l[j]? = some a->l[j+1]? = some b->ltB a b=true):=fun j a b G q d=>by
   by_cases z:j=k
   .subst z;rw[o.out]at q;rw[p.out]at d
    cases q;cases d
    exact c
   .exact D.out j a b (by omega) q d
  clear c;go_upto_region 4 with fail;go_quiet (fail);have B:=fun n=>g.out.trans (Ext.drawn wr n)
  clear L M;go_wp2_with fail;go_roundw
  case rel=>exact⟨k+1,by omega,by go_num,t,B _⟩
  case measure=>simp[intOf];omega
 iterate 2
  .have O:Hid (¬cM l):=fun S=>by
    have:=o6 S o.out p.out (Nat.lt_succ_self _);rw[c]at this;cases this
   clear c;go_upto_region 4 with fail;go_quiet (fail);go_wp2;go_ret;exact⟨⟨false,rfl,fun h=>(by cases h),fun h=>(O.out h).elim⟩,g.out.trans (Ext.drawn _ _)⟩
end
end Go.Proofs.YtfabjgfmiaammaaGreatDoor
