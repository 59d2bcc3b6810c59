/- Contracts of the program's functions and plain laws behind the card. Conditions: as each theorem states. -/
import Derived.Test.YtgfegpnmlkdjfaaGreatDoorZat
import Derived.Test.YtgfegpnmlkdjfaaGreatDoorZbc
import Derived.Test.YtgfegpnmlkdjfaaGreatDoorZbg
import Derived.Test.YtgfegpnmlkdjfaaGreatDoorZau
import Derived.Test.YtgfegpnmlkdjfaaGreatDoorZbb
set_option linter.unusedVariables false
set_option linter.unusedSimpArgs false
set_option linter.unusedSectionVars false
set_option maxRecDepth 100000
set_option maxHeartbeats 64000000
namespace Go.Proofs.YtgfegpnmlkdjfaaGreatDoor
section
open Go Go.RowKit
theorem ii (v:Value) (l:B8) (w:World) (h:IsBytes w v l) (n:l.length<=10000000) :
  Calls Tryz.prog 21 #[v] w fun e o=>e=.returned (S8 (aC l))/\Ext w o:=by
 have k:Hid (IsBytes w v l):=h;clear h;go_enter Tryz.func21,Tryz.ntmps21
 go_wp2_with (first
  | (go_at_call 44;go_must (refine(Bt v l w k.out n).mono ?_;rintro e j ⟨⟨i,rfl,a⟩,d⟩;have b:=qK l;have c:IsBytes j i (gB l):=by unfold IsBytes;rw[b];exact Row.GW a (by omega)))
  | (go_at_call 43;go_must (refine(Bp i (gB l) j c (by omega)).mono ?_;rintro e p ⟨rfl,g⟩)))
 go_ret;exact⟨rfl,d.trans g⟩
end
section
open Go Go.RowKit Go.Sort
def qL:B8:=[1,97,0]
def qN:B8:=[1,98,0]
def gO:B8:=aC qL
def iS:B8:=aC qN
theorem DU:ltB gO iS=true:=by decide +kernel
variable {w:World}
theorem iE {g:Nat} {x y z:UInt8} {fr:Nat×Nat} (h:w.heap[g]? = some (.cells #[.int .u8 (x.toNat:Int),.int .u8 (y.toNat:Int),.int .u8 (z.toNat:Int)] 5 fr)):IsBytes w (.slice (some ⟨g,0,none⟩) 3 3) [x,y,z]:=Row.new h (by decide) _ rfl
theorem yN (w:World):Calls Tryz.prog 22 #[] w fun e M=>e=.returned (.tuple #[S8 gO,S8 iS])/\Ext w M:=by
 have L:=fun(w:World) (C:Array Value) (n c:Nat)=>Lib.run_convert_bytes_const (P:=Tryz.prog) w 52 5 C n c Tryz.underlying52 Tryz.underlying5
 obtain⟨A,F⟩:∃A,gO=A:=⟨_,rfl⟩;obtain⟨B,G⟩:∃B,iS=B:=⟨_,rfl⟩;have i:=DU;rw[F,G]at i ⊢;rw[<-gp]at i;have J:(⟨A.toArray⟩:ByteArray).toList=A:=Lib.toList_data _;have K:(⟨B.toArray⟩:ByteArray).toList=B:=Lib.toList_data _;have q:Hid (aC qL=A):=F;have r:Hid (aC qN=B):=G;clear F G;go_enter Tryz.func22,Tryz.ntmps22;go_wp2_with fail;obtain⟨g,b⟩:∃g,g=w.alloc (.cells #[.int .u8 1,.int .u8 97,.int .u8 0] 5 (3,4)):=⟨_,rfl⟩;have l:Ext w g:=by rw[b];exact(Ext.refl _).alloc _
 have a:g.heap[w.heap.size]? = some (.cells #[.int .u8 1,.int .u8 97,.int .u8 0] 5 (3,4)):=by rw[b];exact ah _ _
 have H:Hid (IsBytes g (.slice (some ⟨w.heap.size,0,none⟩) 3 3) qL):=iE (x:=1) (y:=97) (z:=0) a;have D:Hid (Ext w g):=l;rw[<-b];clear b l a;go_at_call 21;refine(ii _ qL g H.out (by decide)).mono ?_;rw[q.out];rintro e p ⟨rfl,j⟩;have t:Hid (Ext w p):=D.out.trans j;clear j H;go_wp2_with fail;obtain⟨h,d⟩:∃h,h=p.alloc (.cells #[.int .u8 1,.int .u8 98,.int .u8 0] 5 (3,4)):=⟨_,rfl⟩;have o:Ext p h:=by rw[d];exact(Ext.refl _).alloc _
 have a:h.heap[p.heap.size]? = some (.cells #[.int .u8 1,.int .u8 98,.int .u8 0] 5 (3,4)):=by rw[d];exact ah _ _
 have I:Hid (IsBytes h (.slice (some ⟨p.heap.size,0,none⟩) 3 3) qN):=iE (x:=1) (y:=98) (z:=0) a;have E:Hid (Ext w h):=t.out.trans o;rw[<-d];clear d o a;go_at_call 21;refine(ii _ qN h I.out (by decide)).mono ?_;rw[r.out];rintro e N ⟨rfl,k⟩;have u:Hid (Ext w N):=E.out.trans k;clear k I L;go_wp2_with fail;go_ret2;exact⟨rfl,u.out⟩
theorem uz (w:World):Calls Tryz.prog 23 #[] w fun e h=>(∃v,e=.returned v/\IsBss h v [qL,qN])/\Ext w h:=by
 have j:=fun(w:World) (C:Array Value) (n c:Nat)=>Lib.run_convert_bytes_const (P:=Tryz.prog) w 52 5 C n c Tryz.underlying52 Tryz.underlying5
 have l:=Joins.run_convert_bytes_const_at (P:=Tryz.prog) (w.alloc (.cells #[.int .u8 1,.int .u8 97,.int .u8 0] 5 (3,4))) 52 5 #[.int .u8 1,.int .u8 98,.int .u8 0] 3 3 (w.heap.size+1) (cU _ _).symm Tryz.underlying52 Tryz.underlying5;go_enter Tryz.func23,Tryz.ntmps23;go_wp2_with fail;go_ret;have i:Ext w (((w.alloc (.cells #[.int .u8 1,.int .u8 97,.int .u8 0] 5 (3,4))).alloc (.cells #[.int .u8 1,.int .u8 98,.int .u8 0] 5 (3,4))).alloc (.cells #[.slice (some ⟨w.heap.size,0,none⟩) 3 3,.slice (some ⟨w.heap.size+1,0,none⟩) 3 3] 52)):=(((Ext.refl _).alloc _).alloc _).alloc _;refine⟨⟨_,rfl,[.slice (some ⟨w.heap.size,0,none⟩) 3 3,.slice (some ⟨w.heap.size+1,0,none⟩) 3 3],rfl,Row.new (g:=w.heap.size+1+1) (t:=52) (fr:=(0,0)) (cs:=#[.slice (some ⟨w.heap.size,0,none⟩) 3 3,.slice (some ⟨w.heap.size+1,0,none⟩) 3 3]) ?_ (by decide) _ rfl,fun k u b a d=>?_⟩,i⟩
 .rw [show w.heap.size+1+1=((w.alloc (.cells #[.int .u8 1,.int .u8 97,.int .u8 0] 5 (3,4))).alloc (.cells #[.int .u8 1,.int .u8 98,.int .u8 0] 5 (3,4))).heap.size by rw[cU,cU]];exact ah _ _
 .match k,a,d with
  | 0,a,d =>
   cases a;cases d
   exact Row.ext (iE (x:=1) (y:=97) (z:=0) (ah w _)) (((Ext.refl _).alloc _).alloc _)
  | 1,a,d =>
   cases a;cases d
   refine Row.ext (w:=(w.alloc (.cells #[.int .u8 1,.int .u8 97,.int .u8 0] 5 (3,4))).alloc (.cells #[.int .u8 1,.int .u8 98,.int .u8 0] 5 (3,4))) (iE (x:=1) (y:=98) (z:=0) (fr:=(3,4)) ?_) ((Ext.refl _).alloc _);rw[<-cU w (.cells #[.int .u8 1,.int .u8 97,.int .u8 0] 5 (3,4))];exact ah _ _
  | k+2,a,d=>simp at a
structure IsSrcF (w:World) (F:Value) (l:List B8) (lie:Bool):Prop where
 get:∃(b1 b2 b3:Nat) (v vi:Value),F=.func (.func 24) #[] #[.pointer (some ⟨b1,0,none⟩),.pointer (some ⟨b2,0,none⟩),.pointer (some ⟨b3,0,none⟩)] /\
  w.heap[b1]? = some (.cells #[v] 22 (0,0))/\w.heap[b2]? = some (.cells #[.bool lie] 4 (0,0))/\w.heap[b3]? = some (.cells #[vi] 38 (0,0))/\IsBss w v l/\IsStrs w vi (l.map aC)
variable {w':World} {l:List B8}
theorem IsBss.ext {v:Value} (h:IsBss w v l) (a:Ext w w'):IsBss w' v l:=by
 obtain⟨j,c,d,e⟩:=h;exact⟨j,c,d.ext a,fun k u b i g=>(e k u b i g).ext a⟩
theorem IsSrcF.ext {F:Value} {b:Bool} (h:IsSrcF w F l b) (a:Ext w w'):IsSrcF w' F l b:=by
 obtain⟨c,d,e,v,p,o,g,i,j,k,n⟩:=h;exact⟨c,d,e,v,p,o,a.row g,a.row i,a.row j,k.ext a,Row.ext n a⟩
theorem xK:(Tryz.prog.info? 38).map (·.size)=some 1:=by kernel_rfl
theorem jf (v:Value) (l:List B8) (g:Bool) (w:World) (hv:IsBss w v l) (hl:l.length<=100000) (hs:∀x∈l,x.length<=10000000) :
  Calls Tryz.prog 9 #[v,.bool g] w fun e w'=>(∃F,e=.returned F/\IsSrcF w' F l g)/\Ext w w':=by
 have HV:Hid (IsBss w v l):=hv;have HS:Hid _:=hs;obtain⟨a,c,rfl,l1,l2,l3,-⟩:=hv.get;have a6:∀(fn:Fn) (first c:Array Value) (w:World),(Instr.makeFunc fn first c).run Tryz.prog w=.ok (.func fn first c) w:=fun _ _ _ _=>rfl
 clear hv hs;go_enter Tryz.func9,Tryz.ntmps9;go_upto_region 2 with fail;obtain⟨B,t⟩:∃B,B=((w.alloc (.cells #[.slice a l.length c] 22)).alloc (.cells #[.bool g] 4)).alloc (.cells #[.slice none 0 0] 38):=⟨_,rfl⟩;have W:Ext w B:=by rw[t];exact(((Ext.refl _).alloc _).alloc _).alloc _
 have c1:B.heap[w.heap.size]? = some (.cells #[.slice a l.length c] 22 (0,0)):=by rw[t];exact Ext.row (((Ext.refl _).alloc _).alloc _) (ah w _)
 have c2:B.heap[w.heap.size+1]? = some (.cells #[.bool g] 4 (0,0)):=by rw[t];refine Ext.row ((Ext.refl _).alloc _) ?_;rw[<-cU w (.cells #[.slice a l.length c] 22)];exact ah _ _
 have c3:B.heap[w.heap.size+1+1]? = some (.cells #[.slice none 0 0] 38 (0,0)):=by rw[t,<-cU w (.cells #[.slice a l.length c] 22),<-cU (w.alloc _) (.cells #[.bool g] 4)];exact ah _ _
 rw[<-t];obtain⟨d,G⟩:∃b,w.heap.size=b:=⟨_,rfl⟩;have HB:Hid (w.heap.size=d):=G;rw[G]at c1 c2 c3 ⊢;have p:Hid (B.heap[d]? = some (.cells #[.slice a l.length c] 22 (0,0))):=c1;have z:Hid (B.heap[d+1]? = some (.cells #[.bool g] 4 (0,0))):=c2;have r:Hid (B.heap[d+1+1]? = some (.cells #[.slice none 0 0] 38 (0,0))):=c3;have M:Hid (Ext w B):=W;clear t W c1 c2 c3 G;go_wp2_with fail;go_loopw [6] (fun i wr=>∃(k:Nat) (A:Value),k<=l.length/\i=.int .i64 k/\Hid (wr.heap[d]? = some (.cells #[.slice a l.length c] 22 (0,0)))/\Hid (wr.heap[d+1]? = some (.cells #[.bool g] 4 (0,0)))/\Hid (wr.heap[d+1+1]? = some (.cells #[A] 38 (0,0)))/\Hid (wr.ownsRow d 9 1 A k (((l.take k).map aC).map S8))/\Hid (Ext w wr)) (fun i _=>l.length - (intOf i).toNat)
 case atStart=>exact⟨0,_,Nat.zero_le _,rfl,p.out,z.out,r.out,World.ownsRow_nil _ _ _ _,M.out⟩
 case round =>
 clear p z r M;obtain⟨k,A,C,rfl,p,z,r,HO,L⟩:=hrel;have y1:wr.cell? ⟨d,0,none⟩=some (.slice a l.length c):=(cell_of_row _ _ 0 _ _ _ p.out).trans rfl
 by_cases U:k<l.length
 case neg =>
  have a3:k=l.length:=by omega
  subst a3;have V:IsStrs wr A (l.map aC):=by
   have h9:=HO.out;rw[List.take_length]at h9;unfold IsStrs;rw[List.length_map];exact Row.GW h9 (by omega)
  have av:Hid _:=V;clear V U C;go_wp2_with fail;go_ret;exact⟨⟨_,rfl,⟨d,d+1,d+1+1,_,A,rfl,p.out,z.out,r.out,HV.out.ext L.out,av.out⟩⟩,L.out⟩
 obtain⟨x,Z⟩:∃x,l[k]? = some x:=⟨_,List.getElem?_eq_getElem U⟩;have au:Hid ((l.take (k+1)).map aC=(l.take k).map aC++[aC x]):=by unfold Hid;rw[cC Z,List.map_append];rfl
 have a0:Hid (x.length<=10000000):=HS.out x (List.mem_of_getElem? Z);obtain⟨_,_,J,-,-,-,S⟩:=HV.out.get;cases J;obtain⟨Y,oo,u,rfl,hc,hu⟩:=S k x Z;have HU:Hid (IsBytes w u x):=hu;have y2:=L.out.cell hc;have y3:wr.cell? ⟨d+1+1,0,none⟩=some A:=(cell_of_row _ _ 0 _ _ _ r.out).trans rfl;clear S hc hu Z;go_upto_region 5 with fail
 apply ak 7 [A,.slice (some ⟨Y,oo,none⟩) l.length c,.int .i64 k,.pointer (some ⟨Y,oo+k,none⟩),u,S8 (aC x),undef] [none,none,none,none,none,none,some (fun u w'=>∃k,u=.slice (some ⟨k,0,none⟩) 1 1/\w'.heap[k]? = some (.cells #[S8 (aC x)] 9 (0,0)))] [[],[],[],[1,2],[3],[4],[5]] (by kernel_rfl) (by kernel_rfl) (by simp[aq])
 .refine ⟨?_,trivial⟩
  .exact fun _ _ _ J ⟨k,h1,h3⟩=>⟨k,h1,J.row h3⟩
 .simp (maxSteps:=1000000)only[List.take_succ_cons,List.take_zero,ay,aB,af,Act.put,List.setIfInBounds_toArray,List.set_cons_zero,List.set_cons_succ,aE,aH,aq,List.getD_cons_zero,List.getD_cons_succ,and_true,true_and,forall_const];and_intros
  iterate 5 · intro xs wq o;intros;rename_i N;have k1:=o.cell y1;have k2:=o.cell y2;have k3:=o.cell y3;go_simp;exact N _ _ (Ext.refl _) rfl
  .intro xs wq o C R N;go_simp;exact(ii u x _ (HU.out.ext (L.out.trans o)) a0.out).mono (by rintro e' w9 ⟨rfl,a4⟩;exact⟨_,rfl,N _ _ a4 rfl⟩)
  .intro xs wq o C R N;go_simp;exact N _ _ ((Ext.refl _).alloc _) ⟨_,rfl,ah _ _⟩
 intro xs K y C;simp only[aG,Nat.zero_add,Nat.reduceAdd,and_true]at C;have q6:=C.2.2.2.2.2.2;simp(maxSteps:=1000000)only[List.take_succ_cons,List.take_zero,List.drop_succ_cons,List.drop_zero,af,Act.put,List.setIfInBounds_toArray,List.set_cons_zero,List.set_cons_succ,Nat.zero_add,Nat.reduceAdd,C];clear C;generalize xs 6=x6 at *;obtain⟨k6,rfl,T⟩:=q6;have E:Hid (Ext w K):=L.out.trans y;have I:K.ownsRow d 9 1 A k (((l.take k).map aC).map S8):=az HO.out y;have D:Hid _:=I;have aa:Hid (K.heap[d]? = some (.cells #[.slice (some ⟨Y,oo,none⟩) l.length c] 22 (0,0))):=y.row p.out;have ab:Hid (K.heap[d+1]? = some (.cells #[.bool g] 4 (0,0))):=y.row z.out;have ad:Hid (K.heap[d+1+1]? = some (.cells #[A] 38 (0,0))):=y.row r.out;have a2:d<=K.heap.size:=by have:=E.out.size;rw[HB.out]at this;exact this
 clear y y1 y2 y3
 go_wp2_with (first | (at_builtin;go_must (refine gW rfl _ _ rfl d _ k _ rfl I k6 1 1 [aC x] rfl rfl T (by omega) a2 ?_;intro v3 w3 n h;obtain⟨va,vd,rfl⟩:=iL n (by omega);have H:=gA ad.out h (fun q o=>(bO D.out q o).2) (by decide))) | (refine aP rfl 38 (.tmp 5) (.tmp 20) rfl (d+1+1) 0 rfl (.slice (some ⟨va,0,none⟩) (k+1) vd) rfl rfl _ _ H (Nat.le_of_ble_eq_true rfl) xK #[.slice (some ⟨va,0,none⟩) (k+1) vd] (by simp) ?_;intro X Q j))
 have ht:=fun q (o:A.ownBlock=some q)=>(bO D.out q o).2
 have O:=gA aa.out h ht (by decide);have P:=gA ab.out h ht (by decide);have ag:Hid (X.heap[d]? = some (.cells #[.slice (some ⟨Y,oo,none⟩) l.length c] 22 (0,0))):=bI j O (by omega);have ai:Hid (X.heap[d+1]? = some (.cells #[.bool g] 4 (0,0))):=bI j P (by omega);have am:Hid (X.heap[d+1+1]? = some (.cells #[.slice (some ⟨va,0,none⟩) (k+1) vd] 38 (0,0))):=Q;have ao:Hid (X.ownsRow d 9 1 (.slice (some ⟨va,0,none⟩) (k+1) vd) (k+1) (((l.take (k+1)).map aC).map S8)):=by
  unfold Hid;rw[au.out];refine cH n j (fun q o a5 J=>?_);cases o;rw[H]at J;simp at J
 have a1:Hid (Ext w X):=Ext.but (Below.grown E.out h E.out.size (fun q o=>by rw[HB.out];exact(bO D.out q o).1)) j (by rw[HB.out];omega);clear ht O P H n h j Q I T;go_roundw
 case rel=>exact⟨k+1,_,by omega,by go_num,ag.out,ai.out,am.out,ao.out,a1.out⟩
 case measure=>simp[intOf];omega
end
section
open Go Go.RowKit Go.Sort
variable {w wr:World}
theorem yA (h:∃n,wr=w.drewN n):Ext w wr:=by obtain⟨n,rfl⟩:=h;exact Ext.drawn _ _
theorem iX (h:∃n,wr=w.drewN n) (m:Nat):∃n,wr.drewN m=w.drewN n:=by obtain⟨n,rfl⟩:=h;exact⟨n+m,by rw[World.drewN_drewN]⟩
theorem jb (va vb:Value) (a b:List Rw) (w:World) (G:IsRws w va a) (H:IsRws w vb b) :
  Calls Tryz.prog 11 #[va,vb] w fun e w'=>Ai a b e/\∃m,w'=w.drewN m:=by
 obtain⟨aa,ac,rfl,l1,l2,l3,C⟩:=G.cells;obtain⟨ba,bc,rfl,m1,m2,m3,D⟩:=H.cells;have L:Hid _:=C;have M:Hid _:=D;clear G H C D
 by_cases d:a.length=b.length
 case neg =>
  have E:((a.length:Int) != (b.length:Int))=true:=by simp;omega
  have c:Hid (a≠b):=fun e=>d (by rw[e])
  clear d;go_enter Tryz.func11,Tryz.ntmps11;go_wp2;go_ret;exact⟨⟨false,rfl,⟨fun h=>(by cases h),fun h=>(c.out h).elim⟩⟩,0,rfl⟩
 have E:((a.length:Int) != (b.length:Int))=false:=by simp;omega
 have l:Hid (a.length=b.length):=d;clear d;go_enter Tryz.func11,Tryz.ntmps11;go_wp2_with fail;clear E;go_loopw [5] (fun i wr=>∃k:Nat,k<=a.length/\i=.int .i64 k/\Hid (a.take k=b.take k)/\Hid (∃n,wr=w.drewN n)) (fun i _=>a.length - (intOf i).toNat)
 case atStart=>exact⟨0,Nat.zero_le _,rfl,rfl,0,rfl⟩
 case round =>
 obtain⟨k,hk,rfl,T,r⟩:=hrel;have t:Hid (Ext w wr):=yA r.out
 by_cases Q:k<a.length
 case neg =>
  have P:k=a.length:=by omega
  subst P;have K:Hid (a=b):=by
   have h9:=T.out;rw[List.take_length,l.out,List.take_length]at h9;exact h9
  go_wp2;go_ret;exact⟨⟨true,rfl,⟨fun _=>K.out,fun _=>rfl⟩⟩,r.out⟩
 obtain⟨x,R⟩:∃x,a[k]? = some x:=⟨_,List.getElem?_eq_getElem Q⟩;have F:k<b.length:=by have:=l.out;omega
 obtain⟨y,S⟩:∃y,b[k]? = some y:=⟨_,List.getElem?_eq_getElem F⟩;obtain⟨ab,ao,rfl,U,V,W⟩:=L.out k x R;obtain⟨bb,bo,rfl,X,Y,Z⟩:=M.out k y S;have x0:=t.out.cell U;have x1:=t.out.cell V;have x2:=t.out.cell W;have y0:=t.out.cell X;have y1:=t.out.cell Y;have y2:=t.out.cell Z;have g:Hid _:=R;have j:Hid _:=S;clear U V W X Y Z R S;obtain⟨z,I,u⟩:=x;obtain⟨B,J,A⟩:=y;dsimp only at x0 x1 x2 y0 y1 y2;have t1:(⟨z.toArray⟩:ByteArray).toList=z:=Lib.toList_data _;have t2:(⟨B.toArray⟩:ByteArray).toList=B:=Lib.toList_data _;have t3:(⟨u.toArray⟩:ByteArray).toList=u:=Lib.toList_data _;have t4:(⟨A.toArray⟩:ByteArray).toList=A:=Lib.toList_data _
 by_cases o:z=B
 case neg =>
  have c:Hid (a≠b):=qJ g.out j.out (fun e=>o (by cases e;rfl));have q0:(z != B)=true:=by simpa using o
  have r0:(z==B)=false:=by simpa using o
  clear o;go_upto_region 6 with fail;go_quiet (fail);go_wp2;go_ret;exact⟨⟨false,rfl,⟨fun h=>(by cases h),fun h=>(c.out h).elim⟩⟩,iX r.out _⟩
 have q0:(z != B)=false:=by simpa using o
 have r0:(z==B)=true:=by simpa using o
 have H0:Hid _:=o;clear o
 by_cases p:I=J
 case neg =>
  have c:Hid (a≠b):=qJ g.out j.out (fun e=>p (by cases e;rfl));have q1:(I != J)=true:=by simpa using p
  have r1:(I==J)=false:=by simpa using p
  clear p;go_upto_region 6 with fail;go_quiet (fail);go_wp2;go_ret;exact⟨⟨false,rfl,⟨fun h=>(by cases h),fun h=>(c.out h).elim⟩⟩,iX r.out _⟩
 have q1:(I != J)=false:=by simpa using p
 have r1:(I==J)=true:=by simpa using p
 have H1:Hid _:=p;clear p
 by_cases q:u=A
 case neg =>
  have c:Hid (a≠b):=qJ g.out j.out (fun e=>q (by cases e;rfl));have q2:(u != A)=true:=by simpa using q
  have r2:(u==A)=false:=by simpa using q
  clear q;go_upto_region 6 with fail;go_quiet (fail);go_wp2;go_ret;exact⟨⟨false,rfl,⟨fun h=>(by cases h),fun h=>(c.out h).elim⟩⟩,iX r.out _⟩
 have q2:(u != A)=false:=by simpa using q
 have r2:(u==A)=true:=by simpa using q
 have N:Hid (a.take (k+1)=b.take (k+1)):=by
  unfold Hid;rw[cC g.out,cC j.out,T.out,H0.out,H1.out,q]
 clear q;go_upto_region 6 with fail;go_quiet (fail);have O:=fun n=>iX r.out n
 clear x0 x1 x2 y0 y1 y2 t r;go_wp2_with fail;go_roundw
 case rel=>exact⟨k+1,by omega,by go_num,N,O _⟩
 case measure=>simp[intOf];omega
end
section
open Go Go.RowKit Go.Sort
def x17:List Rw:=[⟨[102],1,gO⟩]
def y17:List Rw:=[⟨[102],1,iS⟩]
def s17:List Rw:=[⟨[102],1,iS⟩,⟨102::126::gO.take 8,1,gO⟩]
theorem FU:bj (ar [x17,y17,[]])=[[102]]:=(oM (List.pairwise_singleton _ [102]) (fun x=>by simp[ar,x17,y17])).symm
theorem FV:bj (ar [[],x17,y17])=[[102]]:=(oM (List.pairwise_singleton _ [102]) (fun x=>by simp[ar,x17,y17])).symm
theorem EO:(an x17 && (an y17 && an []))=true:=by decide +kernel
theorem D4:(an [] && (an x17 && an y17))=true:=by decide +kernel
theorem Dv:dJ (byP x17) (byP y17) (byP []) [[102]]=some ([([102],fiE (1,iS))],[([102],2)]):=by kernel_rfl
theorem Dw:dJ (byP []) (byP x17) (byP y17) [[102]]=some ([([102],fiE (1,iS)),(102::126::gO.take 8,fiE (1,gO))],[([102],1)]):=by kernel_rfl
theorem FC:eV x17 y17 []=.ok (y17,[([102],2)]):=iw (y:=([([102],fiE (1,iS))],[([102],2)])) EO (by rw[FU];exact Dv)
theorem FD:eV [] x17 y17=.ok (s17,[([102],1)]):=iw (y:=([([102],fiE (1,iS)),(102::126::gO.take 8,fiE (1,gO))],[([102],1)])) D4 (by rw[FV];exact Dw)
theorem oH {o a b:En} (h:(al o a b).2=3):bU o=true/\bU a=true/\bU b=true:=by
 unfold al at h
 repeat' split at h
 all_goals first | (cases h;done) | skip
 rename_i c;simpa using c
variable {a:List Rw}
theorem A5 {b:List Rw}:kC [] a b:=fun p h=>by
 have:=(oH h).1;cases this
theorem A6 {o:List Rw}:kC o a []:=fun p h=>by
 have:=(oH h).2.2;cases this
theorem DN:bS x17:=by unfold bS;decide +kernel
theorem DO:bS y17:=by unfold bS;decide +kernel
theorem yE:bS []:=⟨Nat.zero_le _,fun r a=>by cases a⟩
theorem EM:gO.length=64:=np _
theorem DF (A:B8):(⟨#[102,126]⟩:ByteArray)++(⟨A.toArray⟩:ByteArray).extract 0 8=⟨(102::126::A.take 8).toArray⟩:=by
 have c:∀a b:ByteArray,a.data=b.data->a=b:=fun a b h=>by cases a;cases b;cases h;rfl
 apply c;rw[ByteArray.data_append,ByteArray.data_extract];apply Array.toList_inj.1;simp
variable {w:World}
theorem D' {v:Value} {x y:Rw} (h:IsRws w v [x,y]):∃(b o c:Nat),v=.slice (some ⟨b,o,none⟩) 2 c/\2<=c/\w.cell? ⟨b,o+1+1,none⟩=some (S8 x.id)/\w.cell? ⟨b,o+3,none⟩=some (S8 y.path)/\w.cell? ⟨b,o+3+1+1,none⟩=some (S8 y.id):=by
 obtain⟨a,c,rfl,j,-,-,d⟩:=h.cells;obtain⟨b,o,rfl,-,-,e⟩:=d 0 x rfl;obtain⟨l,n,k,g,-,i⟩:=d 1 y rfl;cases k;exact⟨b,o,c,rfl,j,by simpa using e,by simpa using g,by simpa using i⟩
theorem vW {p id:B8} {m:Int}:IsRws (w.alloc (.cells #[S8 p,.int .i64 m,S8 id] 50)) (.slice (some ⟨w.heap.size,0,none⟩) 1 1) [⟨p,m,id⟩]:=Row.new (ah _ _) (by decide) _ rfl
theorem BP {e:Ending} {l:List Rw} {n:B8×Int} (h:xV w e (.ok (l,[n]))):∃(c:Option Addr) (d a b i:Nat) (g:Option Addr) (cb:Nat),e=.returned (.tuple #[.slice c l.length d,.slice g 0 cb,.slice (some ⟨a,b,none⟩) 1 i,.int .i64 0])/\IsRws w (.slice c l.length d) l/\w.cell? ⟨a,b+1,none⟩=some (.int .i64 n.2):=by
 obtain⟨u,t,g,cb,N,rfl,j,q,p⟩:=h;obtain rfl:N=[n]:=List.perm_singleton.1 q;obtain⟨c,d,rfl,-⟩:=j.get;obtain⟨r,i,rfl,-,-,-,k⟩:=p;obtain⟨a,b,rfl,o⟩:=k (by simp[ntC]);exact⟨c,d,a,b,i,g,cb,rfl,j,o 1 _ rfl⟩
theorem kx (w:World) (hE:Env w) :
  Calls Tryz.prog 6 #[] w fun e w'=>e=.returned (.bool true)/\Ext w w':=by
 have HE:Hid (Env w):=hE;have K:Hid _:=FC;have h:Hid _:=FD;have u:Hid (bS x17):=DN;have x:Hid (bS y17):=DO;unfold s17 at h;have i:Hid (x17=[⟨[102],1,gO⟩]):=rfl;have j:Hid (y17=[⟨[102],1,iS⟩]):=rfl;obtain⟨X,hX⟩:∃X,x17=X:=⟨_,rfl⟩;obtain⟨Y,hY⟩:∃Y,y17=Y:=⟨_,rfl⟩;have k:=EM;have y:Hid (∀w,Calls Tryz.prog 22 #[] w fun e w'=>e=.returned (.tuple #[S8 gO,S8 iS])/\Ext w w'):=yN;obtain⟨A,hA⟩:∃A,gO=A:=⟨_,rfl⟩;obtain⟨B,hB⟩:∃B,iS=B:=⟨_,rfl⟩;rw[hX,hY]at K h;rw[hX]at u i;rw[hY]at x j;rw[hA]at k y i h;rw[hB]at y j h;have J:Hid (A.length=64):=k;clear hE hX hY hA hB k;go_enter Tryz.func6,Tryz.ntmps6;go_wp2_with fail;go_at_call 22;refine(y.out _).mono ?_;rintro e H ⟨rfl,Z⟩;have a9:Hid (Ext w H):=Z;clear Z;go_upto_region 4 with fail;obtain⟨I,l⟩:∃I,I=H.alloc (.cells #[S8 [102],.int .i64 1,S8 A] 50):=⟨_,rfl⟩;have aa:Ext H I:=by rw[l];exact(Ext.refl _).alloc _
 have E:IsRws I (.slice (some ⟨H.heap.size,0,none⟩) 1 1) X:=by rw[i.out,l];exact vW
 obtain⟨o,q⟩:∃o,o=I.alloc (.cells #[S8 [102],.int .i64 1,S8 B] 50):=⟨_,rfl⟩;have G:Ext I o:=by rw[q];exact(Ext.refl _).alloc _
 have p:IsRws o (.slice (some ⟨H.heap.size+1,0,none⟩) 1 1) Y:=by rw[j.out,q,<-cU H (.cells #[S8 [102],.int .i64 1,S8 A] 50),<-l];exact vW
 rw[<-l,<-q];obtain⟨gx,O⟩:∃g,H.heap.size=g:=⟨_,rfl⟩;obtain⟨gy,Q⟩:∃g,gx+1=g:=⟨_,rfl⟩;rw[O]at E p ⊢;rw[Q]at p ⊢;have M:Hid (IsRws o (.slice (some ⟨gx,0,none⟩) 1 1) X):=E.ext G;have z:Hid (IsRws o (.slice (some ⟨gy,0,none⟩) 1 1) Y):=p;have C:Hid (Ext w o):=a9.out.trans (aa.trans G);clear l q aa G E p O Q;go_wp2_with fail;go_at_call 23;refine(uz _).mono ?_;rintro e w4 ⟨⟨vb,rfl,hb⟩,ad⟩;have a7:Hid (IsBss w4 vb [qL,qN]):=hb;have N:Hid (Ext o w4):=ad;clear hb ad;go_wp2_with fail;go_at_call 9;refine(jf vb _ false w4 a7.out (by decide) (by decide)).mono ?_;rintro e w5 ⟨⟨F,rfl,hF⟩,ag⟩;obtain⟨b1,b2,b3,sv,bs,rfl,-⟩:=hF.get;have a:Hid (Ext o w5):=N.out.trans ag;have a':Hid (Ext w w5):=C.out.trans a.out;clear hF ag;go_wp2_with fail;go_at_call 10;refine(pl _ _ _ _ _ _ X Y [] w5 (HE.out.ext a'.out) (M.out.ext a.out) (z.out.ext a.out) (IsRws.nil _) u.out x.out yE A6).mono ?_;rw[K.out];rintro e w6 ⟨R,ai⟩;obtain⟨ra,rc,nb,no,nc,ab,cb,rfl,V,T⟩:=BP R;have a3:Hid (IsRws w6 (.slice ra Y.length rc) Y):=V;have a1:Hid (w6.cell? ⟨nb,no+1,none⟩=some (.int .i64 2)):=T;have b:Hid (Ext o w6):=a.out.trans ai;have ba:Hid (Ext w w6):=C.out.trans b.out;clear R ai V T;go_wp2_with fail;go_at_call 10;refine(pl _ _ _ _ _ _ [] X Y w6 (HE.out.ext ba.out) (IsRws.nil _) (M.out.ext b.out) (z.out.ext b.out) yE u.out x.out A5).mono ?_;rw[h.out];obtain⟨P,hP⟩:∃P,102::126::A.take 8=P:=⟨_,rfl⟩;rw[hP];have HP:Hid _:=hP;rintro e d ⟨S,r⟩;obtain⟨sa,sc,mb,mo,mc,bh,bi,rfl,W,U⟩:=BP S;obtain⟨sb,so,bq,he,bp,d0,d1,d2⟩:=D' W;cases he;have au:Hid (d.cell? ⟨sb,so+1+1,none⟩=some (S8 B)):=d0;have av:Hid (d.cell? ⟨sb,so+3,none⟩=some (S8 P)):=d1;have a0:Hid (d.cell? ⟨sb,so+3+1+1,none⟩=some (S8 A)):=d2;have a2:Hid (d.cell? ⟨mb,mo+1,none⟩=some (.int .i64 1)):=U;have L:Hid (d.cell? ⟨nb,no+1,none⟩=some (.int .i64 2)):=r.cell a1.out;have t:Hid (Ext o d):=b.out.trans r;have a4:Hid (IsRws d (.slice ra Y.length rc) Y):=a3.out.ext r;have bb:Hid (Ext w d):=C.out.trans t.out;clear S r W U d0 d1 d2 hP;have a6:Hid (IsRws d (.slice (some ⟨gy,0,none⟩) 1 1) Y):=z.out.ext t.out
 have a5:Hid (∀n,Calls Tryz.prog 11 #[.slice ra Y.length rc,.slice (some ⟨gy,0,none⟩) 1 1] (d.drewN n) fun e w'=>e=.returned (.bool true)/\∃m,w'=(d.drewN n).drewN m):=fun n=>(jb _ _ Y Y _ (a4.out.ext (Ext.drawn _ _)) (a6.out.ext (Ext.drawn _ _))).mono (by rintro e w ⟨⟨c,rfl,hc⟩,hm⟩;obtain rfl:c=true:=hc.2 rfl;exact⟨rfl,hm⟩)
 have y0:=au.out;have y1:=av.out;have y2:=a0.out;have y3:=a2.out;have y4:=L.out;have am:Hid ((A.length:Int)=64):=by have:=J.out;unfold Hid;omega
 have D:=DF A;rw[HP.out]at D;have ao:Hid _:=D;clear D;go_upto_region 7 with fail;have bk:=am.out;have bm:=J.out;have bo:=ao.out;go_quiet ((go_at_call 11;exact Calls.quiet_of (a5.out _)));have bc:=fun n=>bb.out.trans (Ext.drawn d n)
 clear y0 y1 y2 y3 y4;go_wp2_with fail;go_ret;exact⟨rfl,bc _⟩
end
end Go.Proofs.YtgfegpnmlkdjfaaGreatDoor
