/- Contracts of the program's functions and plain laws behind the card. Conditions: as each theorem states. -/
import Derived.Test.YtfabjgfmiaammaaGreatDoorZam
import Derived.Laws.CopyOwn
import Derived.Deep.Onto
import Derived.Test.YtfabjgfmiaammaaGreatDoorZab
import Derived.Test.YtfabjgfmiaammaaGreatDoorZak
import Derived.Test.YtfabjgfmiaammaaGreatDoorZai
set_option linter.unusedVariables false
set_option linter.unusedSimpArgs false
set_option linter.unusedSectionVars false
set_option maxRecDepth 100000
set_option maxHeartbeats 64000000
namespace Go.Proofs.YtfabjgfmiaammaaGreatDoor
section
open Go Go.RowKit
structure SumW (w wr:World) (gk gh gw mb mo:Nat) (M:B8) (st c:List UInt32):Prop where
 ext:Ext w wr
 kb:wr.heap[gk]? = some (.cells (dI.map U32).toArray 167 (0,0))
 hb:wr.heap[gh]? = some (.cells (st.map U32).toArray 167 (0,0))
 wb:wr.heap[gw]? = some (.cells (c.map U32).toArray 167 (0,0))
 mc:∀i,i<M.length->wr.cell? ⟨mb,mo+i,none⟩=some (.int .u8 (M.getD i 0).toNat)
 ne:gk≠gh/\gk≠gw/\gh≠gw/\mb≠gh/\mb≠gw
 low:w.heap.size<=gh/\w.heap.size<=gw
section
variable {w wr w2:World} {gk gh gw mb mo:Nat} {M:B8} {st c c' st':List UInt32}
variable {l:List UInt32} {i:Nat}
theorem gN (h:i<l.length):(l.map U32).toArray[i]? = some (U32 (l.getD i 0)):=by
 simp[h,List.getD_eq_getElem?_getD]
theorem lK (x:UInt32) (h:i<l.length):((l.set i x).map U32).toArray=((l.map U32).toArray.toList.take i++[U32 x]++(l.map U32).toArray.toList.drop (i+1)).toArray:=by
 apply Array.ext';simp only[List.toList_toArray];rw[List.map_set,List.set_eq_take_append_cons_drop,if_pos (by simpa using h)];simp
theorem SumW.more (h:SumW w wr gk gh gw mb mo M st c) (a:Ext wr w2):SumW w w2 gk gh gw mb mo M st c :=
 ⟨h.ext.trans a,Ext.row a h.kb,Ext.row a h.hb,Ext.row a h.wb,fun i b=>a.cell (h.mc i b),h.ne,h.low⟩
theorem SumW.putW (h:SumW w wr gk gh gw mb mo M st c) (b:w2.heap[gw]? = some (.cells (c'.map U32).toArray 167 (0,0))) (a:wr.grownBy w2 (some gw)):SumW w w2 gk gh gw mb mo M st c' :=
 ⟨Below.grown h.ext a h.ext.size (fun j d=>by cases d;exact h.low.2),(a.block _ (Array.getElem?_eq_some_iff.1 h.kb).1 (fun e=>by cases e;exact h.ne.2.1 rfl)).trans h.kb,
  (a.block _ (Array.getElem?_eq_some_iff.1 h.hb).1 (fun e=>by cases e;exact h.ne.2.2.1 rfl)).trans h.hb,b,fun i g=>a.cell (h.mc i g) (fun e=>by cases e;exact h.ne.2.2.2.2 rfl),h.ne,h.low⟩
theorem SumW.C0 (h:SumW w wr gk gh gw mb mo M st c) (b:w2.heap[gh]? = some (.cells (st'.map U32).toArray 167 (0,0))) (a:wr.grownBy w2 (some gh)):SumW w w2 gk gh gw mb mo M st' c :=
 ⟨Below.grown h.ext a h.ext.size (fun j d=>by cases d;exact h.low.1),(a.block _ (Array.getElem?_eq_some_iff.1 h.kb).1 (fun e=>by cases e;exact h.ne.1 rfl)).trans h.kb,
  b,(a.block _ (Array.getElem?_eq_some_iff.1 h.wb).1 (fun e=>by cases e;exact h.ne.2.2.1 rfl)).trans h.wb,fun i g=>a.cell (h.mc i g) (fun e=>by cases e;exact h.ne.2.2.2.1 rfl),h.ne,h.low⟩
structure SumV (w wr:World) (gk gh gw mb mo gv:Nat) (M:B8) (st c cur:List UInt32):Prop where
 sw:SumW w wr gk gh gw mb mo M st c
 vb:wr.heap[gv]? = some (.cells (cur.map U32).toArray 216 (0,0))
 B':gk≠gv/\gh≠gv/\gw≠gv/\mb≠gv/\w.heap.size<=gv
variable {gv:Nat} {cur:List UInt32}
theorem SumV.more (h:SumV w wr gk gh gw mb mo gv M st c cur) (a:Ext wr w2):SumV w w2 gk gh gw mb mo gv M st c cur:=⟨h.sw.more a,Ext.row a h.vb,h.B'⟩
theorem SumV.Db {cur':List UInt32} (h:SumV w wr gk gh gw mb mo gv M st c cur) (b:w2.heap[gv]? = some (.cells (cur'.map U32).toArray 216 (0,0))) (a:wr.grownBy w2 (some gv)):SumV w w2 gk gh gw mb mo gv M st c cur' :=
 ⟨⟨Below.grown h.sw.ext a h.sw.ext.size (fun j d=>by cases d;exact h.B'.2.2.2.2),(a.block _ (Array.getElem?_eq_some_iff.1 h.sw.kb).1 (fun e=>by cases e;exact h.B'.1 rfl)).trans h.sw.kb,
  (a.block _ (Array.getElem?_eq_some_iff.1 h.sw.hb).1 (fun e=>by cases e;exact h.B'.2.1 rfl)).trans h.sw.hb,(a.block _ (Array.getElem?_eq_some_iff.1 h.sw.wb).1 (fun e=>by cases e;exact h.B'.2.2.1 rfl)).trans h.sw.wb,
  fun i g=>a.cell (h.sw.mc i g) (fun e=>by cases e;exact h.B'.2.2.2.1 rfl),h.sw.ne,h.sw.low⟩,b,h.B'⟩
theorem SumV.C0 (h:SumV w wr gk gh gw mb mo gv M st c cur) (b:w2.heap[gh]? = some (.cells (st'.map U32).toArray 167 (0,0))) (a:wr.grownBy w2 (some gh)):SumV w w2 gk gh gw mb mo gv M st' c cur :=
 ⟨h.sw.C0 b a,(a.block _ (Array.getElem?_eq_some_iff.1 h.vb).1 (fun e=>by cases e;exact h.B'.2.1 rfl)).trans h.vb,h.B'⟩
end
theorem kM {M:B8} {a i:Nat} (h:i<64) (b:a+64<=M.length):((M.drop a).take 64).getD i 0=M.getD (a+i) 0:=by
 rw[List.getD_eq_getElem?_getD,List.getElem?_take,if_pos h,List.getElem?_drop,<-List.getD_eq_getElem?_getD]
theorem l7 (x:UInt32):Value.int .u8 (IntKind.u8.wrap (x.toNat:Int))=.int .u8 ((UInt8.ofNat x.toNat).toNat:Int):=by
 rw[IntKind.wrap_u8,UInt8.toNat_ofNat'];exact congrArg _ (Int.natCast_emod _ 256).symm
theorem Br (n:Nat):madeCells #[.int .u32 0] n=((List.replicate n 0:List UInt32).map U32).toArray:=by
 refine Array.ext (by simp[madeCells]) (fun i a b=>?_);simp[madeCells,Nat.mod_one]
theorem A5:madeCells #[.int .u32 0] 64=((List.replicate 64 0:List UInt32).map U32).toArray:=Br 64
theorem yS (v:Value) (b:B8) (w:World) (hv:IsBytes w v b) (hl:b.length<=10000000) :
  Calls Tryz.prog 138 #[v] w fun e Q=>(∃v',e=.returned v'/\Q.ownsRow w.heap.size 5 1 v' 32 ((fE b).map fun x=>.int .u8 x.toNat))/\Ext w Q:=by
 have HV:Hid (IsBytes w v b):=hv;obtain⟨va,vc,rfl,-⟩:=hv.get;clear hv;obtain⟨n,hn⟩:∃n,b.length=n:=⟨_,rfl⟩;have HN:Hid _:=hn;rw[hn]at hl HV ⊢;clear hn;go_enter Tryz.func138,Tryz.ntmps138;go_wp2_with fail;go_at_call 190;refine(qd w).mono ?_;rintro e w1 ⟨gk,rfl,C,g6,a8,cp⟩;have g8:Hid _:=C;have j3:Hid (Ext w w1):=a8;have g9:Hid _:=g6;clear C g6 a8;go_upto_region 3 with fail;obtain⟨T,ce⟩:∃T,T=w1.alloc (.cells (df.map U32).toArray 167):=⟨_,rfl⟩;have ek:T.heap[w1.heap.size]? = some (.cells (df.map U32).toArray 167 (0,0)):=by rw[ce];exact ab _ _
 have U:Ext w1 T:=by rw[ce];exact(Ext.refl _).alloc _
 have bS:T.heap.size=w1.heap.size+1:=by rw[ce];exact Array.size_push ..
 rw[show(#[.int .u32 1779033703,.int .u32 3144134277,.int .u32 1013904242,.int .u32 2773480762,.int .u32 1359893119,.int .u32 2600822924,.int .u32 528734635,.int .u32 1541459225]:Array Value)=(df.map U32).toArray from rfl,<-ce];obtain⟨N,g'⟩:∃g,w1.heap.size=g:=⟨_,rfl⟩;rw[g']at ek bS;have cs:N=gk+1:=by omega
 rw[<-cs];have j4:Hid _:=ek;have ho:Hid (Ext w T):=j3.out.trans U;have j5:Hid (T.heap[gk]? = some (.cells (dI.map U32).toArray 167 (0,0))):=Ext.row U g8.out;have j6:Hid (N=gk+1/\T.heap.size=N+1/\w.heap.size=gk):=⟨cs,bS,g9.out.symm⟩;clear ce ek U bS cp g' cs g8 g9;go_wp2_with fail;go_at_call 29;refine(ij _ b T (HV.out.ext ho.out)).mono ?_;rw[HN.out];rintro e w3 ⟨⟨v3,rfl,G⟩,V⟩;have eo:Hid (w3.ownsRow T.heap.size 5 1 v3 n (b.map fun x=>.int .u8 x.toNat)):=G;have j7:Hid (Ext T w3):=V;have kb:=V.size;obtain⟨a3,c3,rfl,-⟩:=Row.BM G (by omega);clear G V;go_upto_region 4 with(at_builtin;go_must (refine dH rfl _ _ rfl T.heap.size _ n b rfl (eo.out.alloc _) w3.heap.size 1 1 [128] rfl rfl (ab _ _) (by omega) (by simp;omega) ?_);intro v4 w4 ct hr);have hs:Hid (w4.ownsRow T.heap.size 5 1 v4 (n+(1+0)) ((b++128::List.replicate 0 0:B8).map fun x=>.int .u8 x.toNat)):=ct;have kc:Hid (Ext T w4):=ai (j7.out.alloc _) (eo.out.alloc _) hr;have ou:=tf n;clear ct hr kb;go_loopw [5] (fun pv wr=>∃k:Nat,k<=cR n/\Hid (wr.ownsRow T.heap.size 5 1 pv (n+(1+k)) ((b++128::List.replicate k 0:B8).map fun x=>.int .u8 x.toNat))/\Hid (Ext T wr)) (fun pv _=>n+65 - qh pv)
 case atStart=>exact⟨0,Nat.zero_le _,hs.out,kc.out⟩
 case round =>
  obtain⟨k,o,bh,HX⟩:=hrel;obtain⟨pa,pc,rfl,-⟩:=Row.BM bh.out (by omega);have cl:=HX.out.size;have ht:=tg o
  by_cases b0:k=cR n
  case neg =>
   have hm:((((n+(1+k):Nat):Int))%64 != 56)=true:=by simp;omega
   clear ht
   go_wp2_with (at_builtin;go_must (refine dH rfl _ _ rfl T.heap.size _ (n+(1+k)) (b++128::List.replicate k 0) rfl (bh.out.alloc _) wr.heap.size 1 1 [0] rfl rfl (ab _ _) (by omega) (by simp;omega) ?_);intro v' w3 G er)
   go_roundw
   case rel=>exact⟨k+1,by omega,by have h9:(b++128::List.replicate k 0++[0]:B8)=b++128::List.replicate (k+1) 0:=(by rw[List.replicate_succ',List.append_assoc,List.cons_append]);rw[h9]at G;exact G,ai (HX.out.alloc _) (bh.out.alloc _) er⟩
   case measure =>
    obtain⟨o1,o2,rfl,-⟩:=Row.BM G (by omega);simp[qh];omega
  have hm:((((n+(1+k):Nat):Int))%64 != 56)=false:=by simp;omega
  clear ht;subst b0;go_upto_region 7 with fail;clear hm;generalize(((n:Int)+(1+(cR n:Int)))%64 != 56)=o3;generalize((n:Int)+(1+(cR n:Int)))%64=o4;generalize(n:Int)+(1+(cR n:Int))=o5;go_wp2_with fail;go_loopw [5,7] (fun pv i wr=>∃k:Nat,k<=8/\i=.int .i64 (7 - (k:Int))/\Hid (wr.ownsRow T.heap.size 5 1 pv (n+(1+cR n+k)) ((b++gH n k).map fun x=>.int .u8 x.toNat))/\Hid (Ext T wr)) (fun _ i _=>(intOf i+1).toNat)
  case atStart=>exact⟨0,by omega,rfl,by unfold gH;rw[List.take_zero,List.append_nil];exact bh.out,HX.out⟩
  case round =>
  obtain⟨q,t,rfl,bk,cu⟩:=hrel;obtain⟨pq,cq,rfl,-⟩:=Row.BM bk.out (by omega);have hu:=cu.out.size
  by_cases H:q<8
  case pos =>
   have cv:((n:Int)*8 / 2 ^ (56 - 8*q)%256)=((UInt8.ofNat (8*n / 2 ^ (56 - 8*q))).toNat:Int):=by
    rw[UInt8.toNat_ofNat',Nat.mul_comm 8 n];push_cast;rfl
   have c5:Hid _:=pt n H;have o9:((7:Int) - (q:Int))>=0:=by omega
   have o':IntKind.i64.wrap (8*(7 - (q:Int)))=((56 - 8*q:Nat):Int):=by rw[IntWalk.i64_in _ (by omega)];omega
   have ce:(0:Int)<=((56 - 8*q:Nat):Int):=by omega
   have pb:((56 - 8*q:Nat):Int)<=64:=by omega
   have pd:((56 - 8*q:Nat):Int)<64:=by omega
   have pe:IntKind.i64.wrap (7 - (q:Int) - 1)=7 - ((q+1:Nat):Int):=by rw[IntWalk.i64_in _ (by omega)];omega
   generalize hz:UInt8.ofNat (8*n / 2 ^ (56 - 8*q))=z at cv;have HZ:Hid _:=hz;have kd:Hid _:=cv;clear cv hz
   go_wp2_with (at_builtin;go_must (refine dH rfl _ _ rfl T.heap.size _ (n+(1+cR n+q)) (b++gH n q) rfl (bk.out.alloc _) wr.heap.size 1 1 [z] rfl rfl (fr:=(0,0)) (by show _=some (Obj.cells #[Value.int .u8 (z.toNat:Int)] _ _);rw[<-kd.out];exact ab _ _) (by omega) (by simp;omega) ?_);intro v' w3 G er)
   go_roundw
   case rel=>exact⟨q+1,by omega,by go_num,by rw[c5.out,HZ.out,<-List.append_assoc];exact G,ai (cu.out.alloc _) (bk.out.alloc _) er⟩
   case measure=>simp[intOf];omega
  have kl:q=8:=by omega
  subst kl;go_upto_region 11 with fail;have hw:(Instr.makeSlice 227 (.int .i64 64) (.int .i64 64)).run Tryz.prog wr=.ok (.slice (some ⟨wr.heap.size,0,none⟩) 64 64) (wr.alloc (.cells ((List.replicate 64 0:List UInt32).map U32).toArray 167)):=by
   have h9:=run_make_row' (P:=Tryz.prog) 227 167 (.int .u32 0) 4 Tryz.underlying227 (by kernel_rfl) rfl .i64 .i64 64 (by omega) (by omega) wr;rw[A5]at h9;exact h9
  obtain⟨wm,c6⟩:∃wm,wm=wr.alloc (.cells ((List.replicate 64 0:List UInt32).map U32).toArray 167):=⟨_,rfl⟩;rw[<-c6]at hw;have c7:Ext wr wm:=by rw[c6];exact(Ext.refl _).alloc _
  have bl:wm.heap[wr.heap.size]? = some (.cells ((List.replicate 64 0:List UInt32).map U32).toArray 167 (0,0)):=by rw[c6];exact ab _ _
  obtain⟨M,hM⟩:∃M,b++ir n=M:=⟨_,rfl⟩;have c8:M.length=n+(1+cR n+8):=by rw[<-hM,List.length_append,HN.out,<-lm,mO n (Nat.le_refl 8)]
  have oc:M.length%64=0:=by
   have h9:=As n;rw[<-hM,List.length_append,HN.out];exact h9
  have es:wr.ownsRow T.heap.size 5 1 (.slice pq (n+(1+cR n+8)) cq) (n+(1+cR n+8)) (M.map fun x=>.int .u8 x.toNat):=by
   have h9:=bk.out;rw[lm,hM]at h9;exact h9
  have hx:IsBytes wr (.slice pq M.length cq) M:=by
   unfold IsBytes;rw[c8];exact Row.BM es (by omega)
  obtain⟨mb,mo,kp,hy⟩:∃mb mo,pq=some ⟨mb,mo,none⟩/\∀i,i<M.length->wr.cell? ⟨mb,mo+i,none⟩=some (.int .u8 (M.getD i 0).toNat):=by
   obtain⟨a9,c9,e9,-,-,-,kr⟩:=hx.get;obtain⟨bb,oo,rfl,hc⟩:=kr 0 (by omega);cases e9;exact⟨bb,oo,rfl,hc⟩
  subst kp;have ks:=es.lt mb rfl;have d6:Hid (SumW w wm gk N wr.heap.size mb mo M df (List.replicate 64 0)):=by
   obtain⟨g1,g2,g3⟩:=j6.out;have pl:=cu.out.size;have ev:Ext T wm:=cu.out.trans c7;exact⟨ho.out.trans ev,Ext.row ev j5.out,Ext.row ev j4.out,bl,fun i hi=>c7.cell (hy i hi),⟨by omega,by omega,by omega,by omega,by omega⟩,⟨by omega,by omega⟩⟩
  obtain⟨gw,hC⟩:∃g,wr.heap.size=g:=⟨_,rfl⟩;rw[hC]at d6 hw;have d7:Hid (fE b=(ba df M).1.flatMap ed):=by unfold Hid;rw[Ar,HN.out,hM]
  obtain⟨c',cx⟩:∃F,(ba df M).1=F:=⟨_,rfl⟩;rw[cx]at d7;have k0:Hid ((ba df (M.drop 0)).1=c'):=cx;rw[<-c8];have pn:Hid _:=c8;have po:M.length<=10000200:=by omega
  have pp:Hid (Ext T wm):=cu.out.trans c7;clear c6 c7 bl hM c8 es hx hy ks hC cx bk bh hs eo hu;go_upto_region 12 with fail;generalize((7:Int) - ((8:Nat):Int))=pr;go_wp2_with fail;go_loopw [9] (fun i wr=>∃(a:Nat) (D c:List UInt32),i=.int .i64 a/\a<=M.length/\a%64=0/\D.length=8/\c.length=64/\Hid ((ba D (M.drop a)).1=c')/\Hid (SumW w wr gk N gw mb mo M D c)) (fun i _=>M.length - (intOf i).toNat)
  case atStart=>exact⟨0,df,List.replicate 64 0,rfl,Nat.zero_le _,rfl,rfl,rfl,k0.out,d6.out⟩
  case round =>
  obtain⟨a,D,c,rfl,ps,d8,ex,d9,HF,HS⟩:=hrel
  by_cases od:a<M.length
  case pos =>
   have bo:a+64<=M.length:=by omega
   obtain⟨W,hW⟩:∃W,aU ((M.drop a).take 64) 64=W:=⟨_,rfl⟩;have hD:W.length=64:=by rw[<-hW];exact dP _ _
   have k1:Hid (∀j,j<16->W.getD j 0=(((M.getD (a+4*j) 0).toUInt32 <<< 24 ||| (M.getD (a+4*j+1) 0).toUInt32 <<< 16) ||| (M.getD (a+4*j+2) 0).toUInt32 <<< 8) ||| (M.getD (a+4*j+3) 0).toUInt32):=fun j hj=>by
    rw[<-hW,yQ _ hj];unfold be4;rw[kM (by omega) bo,kM (by omega) bo,kM (by omega) bo,kM (by omega) bo];rfl
   have k2:Hid (∀j,16<=j->j<64->W.getD j 0=js W j):=fun j h1 h2=>by rw[<-hW];exact yR _ h1 h2
   have k3:Hid (eP D ((M.drop a).take 64)=List.zipWith (· + ·) D (iW D W 64)):=by unfold Hid eP;rw[hW]
   have ey:Hid _:=hD;have eE:Hid _:=ex;have k4:Hid _:=d8;have hE:Hid _:=d9;clear hW hD ex d8 d9;go_wp2_with fail;go_loopw [10] (fun i wr=>∃(k:Nat) (c:List UInt32),i=.int .i64 k/\k<=16/\Hid (PreW W c k)/\Hid (SumW w wr gk N gw mb mo M D c)) (fun i _=>16 - (intOf i).toNat)
   case atStart=>exact⟨0,c,rfl,Nat.zero_le _,⟨hE.out,fun j hj=>by omega⟩,HS.out⟩
   case round =>
   obtain⟨k,c,rfl,o,HP,K⟩:=hrel
   by_cases H:k<16
   case pos =>
    have hv:=k1.out k H;have d0:=K.out.mc (a+4*k) (by omega);have d1:=K.out.mc (a+4*k+1) (by omega);have d2:=K.out.mc (a+4*k+2) (by omega);have d3:=K.out.mc (a+4*k+3) (by omega);obtain⟨y0,eS⟩:∃y,M.getD (a+4*k) 0=y:=⟨_,rfl⟩;obtain⟨y1,bq⟩:∃y,M.getD (a+4*k+1) 0=y:=⟨_,rfl⟩;obtain⟨y2,b5⟩:∃y,M.getD (a+4*k+2) 0=y:=⟨_,rfl⟩;obtain⟨y3,b6⟩:∃y,M.getD (a+4*k+3) 0=y:=⟨_,rfl⟩;rw[eS]at d0;rw[bq]at d1;rw[b5]at d2;rw[b6]at d3;rw[eS,bq,b5,b6]at hv;obtain⟨x0,e0⟩:∃x,y0.toUInt32=x:=⟨_,rfl⟩;obtain⟨x1,a8⟩:∃x,y1.toUInt32=x:=⟨_,rfl⟩;obtain⟨x2,U⟩:∃x,y2.toUInt32=x:=⟨_,rfl⟩;obtain⟨x3,V⟩:∃x,y3.toUInt32=x:=⟨_,rfl⟩;rw[e0,a8,U,V]at hv;have e1:Hid _:=hv;have k5:Hid _:=e0;have hG:Hid _:=a8;have hH:Hid _:=U;have hJ:Hid _:=V;have D0:Hid _:=d0;have D1:Hid _:=d1;have D2:Hid _:=d2;have D3:Hid _:=d3;obtain⟨p,hp⟩:∃p,a+4*k=p:=⟨_,rfl⟩;have da:IntKind.i64.wrap (4*(k:Int))=4*(k:Int):=IntWalk.i64_in _ (by omega);have br:IntKind.i64.wrap ((a:Int)+4*(k:Int))=(p:Int):=by rw[IntWalk.i64_in _ (by omega)];omega
    have px:p+3<M.length:=by omega
    rw[hp]at D0 D1 D2 D3;have W1:Hid (IntKind.i64.wrap ((p:Int)+1)=(p:Int)+1/\((p:Int)+1).toNat=p+1):=⟨IntWalk.i64_in _ (by omega),by omega⟩;have W2:Hid (IntKind.i64.wrap ((p:Int)+2)=(p:Int)+2/\((p:Int)+2).toNat=p+2):=⟨IntWalk.i64_in _ (by omega),by omega⟩;have W3:Hid (IntKind.i64.wrap ((p:Int)+3)=(p:Int)+3/\((p:Int)+3).toNat=p+3):=⟨IntWalk.i64_in _ (by omega),by omega⟩;clear hv d0 d1 d2 d3 eS bq b5 b6 e0 a8 U V hp
    as_aux_lemma =>
    go_upto_region 19 with fail;apply aj 32 [_,_,_,_,.pointer (some ⟨mb,mo+p,none⟩),.int .u8 y0.toNat,U32 x0,U32 (x0 <<< 24),_,_,_,.pointer (some ⟨mb,mo+(p+1),none⟩),.int .u8 y1.toNat,U32 x1,U32 (x1 <<< 16),U32 ((x0 <<< 24) ||| (x1 <<< 16)),_,_,_,.pointer (some ⟨mb,mo+(p+2),none⟩),.int .u8 y2.toNat,U32 x2,U32 (x2 <<< 8),U32 (((x0 <<< 24) ||| (x1 <<< 16)) ||| (x2 <<< 8)),_,_,_,.pointer (some ⟨mb,mo+(p+3),none⟩),.int .u8 y3.toNat,U32 x3,U32 ((((x0 <<< 24) ||| (x1 <<< 16)) ||| (x2 <<< 8)) ||| x3),.pointer (some ⟨gw,k,none⟩)] [none,none,none,none,none,none,none,none,none,none,none,none,none,none,none,none,none,none,none,none,none,none,none,none,none,none,none,none,none,none,none,none] [[],[],[],[],[2,3],[4],[5],[6],[],[],[9],[8,10],[11],[12],[13],[7,14],[],[],[17],[16,18],[19],[20],[21],[15,22],[],[],[25],[24,26],[27],[28],[23,29],[0,1]] (by kernel_rfl) (by kernel_rfl) (by simp[ak])
    .trivial
    .simp (maxSteps:=1000000)only[List.take_succ_cons,List.take_zero,aw,aA,aa,Act.put,List.setIfInBounds_toArray,List.set_cons_zero,List.set_cons_succ,aK,aO,ak,List.getD_cons_zero,List.getD_cons_succ,and_true,true_and,forall_const];and_intros
     iterate 4 · intro A r t;intros;rename_i d;go_simp;exact d _ _ (Ext.refl _) rfl
     .intro A r t o R d;obtain⟨E,C⟩:=o;go_simp;rw[if_pos (by omega)];exact d _ _ (Ext.refl _) rfl
     .intro A r t o R d;have f0:=t.cell D0.out;go_simp;exact d _ _ (Ext.refl _) rfl
     .intro A r t o R d;go_simp;exact d _ _ (Ext.refl _) (by rw[<-k5.out];exact eW y0)
     .intro A r t o R d;go_simp;exact d _ _ (Ext.refl _) (zB x0)
     iterate 3 · intro A r t;intros;rename_i d;go_simp;exact d _ _ (Ext.refl _) rfl
     .intro A r t o R d;obtain⟨E,C⟩:=o;go_simp;simp only[W1.out.1];rw[if_pos ⟨by omega,by omega⟩,W1.out.2];exact d _ _ (Ext.refl _) rfl
     .intro A r t o R d;have f1:=t.cell D1.out;go_simp;exact d _ _ (Ext.refl _) rfl
     .intro A r t o R d;go_simp;exact d _ _ (Ext.refl _) (by rw[<-hG.out];exact eW y1)
     .intro A r t o R d;go_simp;exact d _ _ (Ext.refl _) (zC x1)
     .intro A r t o R d;obtain⟨E,C⟩:=o;go_simp;exact d _ _ (Ext.refl _) (jZ (x0 <<< 24) (x1 <<< 16))
     iterate 3 · intro A r t;intros;rename_i d;go_simp;exact d _ _ (Ext.refl _) rfl
     .intro A r t o R d;obtain⟨E,C⟩:=o;go_simp;simp only[W2.out.1];rw[if_pos ⟨by omega,by omega⟩,W2.out.2];exact d _ _ (Ext.refl _) rfl
     .intro A r t o R d;have f2:=t.cell D2.out;go_simp;exact d _ _ (Ext.refl _) rfl
     .intro A r t o R d;go_simp;exact d _ _ (Ext.refl _) (by rw[<-hH.out];exact eW y2)
     .intro A r t o R d;go_simp;exact d _ _ (Ext.refl _) (AM x2)
     .intro A r t o R d;obtain⟨E,C⟩:=o;go_simp;exact d _ _ (Ext.refl _) (jZ ((x0 <<< 24) ||| (x1 <<< 16)) (x2 <<< 8))
     iterate 3 · intro A r t;intros;rename_i d;go_simp;exact d _ _ (Ext.refl _) rfl
     .intro A r t o R d;obtain⟨E,C⟩:=o;go_simp;simp only[W3.out.1];rw[if_pos ⟨by omega,by omega⟩,W3.out.2];exact d _ _ (Ext.refl _) rfl
     .intro A r t o R d;have f3:=t.cell D3.out;go_simp;exact d _ _ (Ext.refl _) rfl
     .intro A r t o R d;go_simp;exact d _ _ (Ext.refl _) (by rw[<-hJ.out];exact eW y3)
     .intro A r t o R d;obtain⟨E,C⟩:=o;go_simp;exact d _ _ (Ext.refl _) (jZ (((x0 <<< 24) ||| (x1 <<< 16)) ||| (x2 <<< 8)) x3)
     .intro A r t o R d;obtain⟨E,C⟩:=o;go_simp;rw[if_pos (by omega)];exact d _ _ (Ext.refl _) rfl
    intro A wz Z o;simp only[aP,Nat.zero_add,Nat.reduceAdd,and_true]at o;simp(maxSteps:=1000000)only[List.take_succ_cons,List.take_zero,List.drop_succ_cons,List.drop_zero,aa,Act.put,List.setIfInBounds_toArray,List.set_cons_zero,List.set_cons_succ,Nat.zero_add,Nat.reduceAdd,o];clear o;have c0:Hid _:=SumW.more K.out Z;have bl:=c0.out.wb;have cl:(c.map U32).toArray.size=64:=by simp[HP.out.1]
    have I:=lK (l:=c) (i:=k) (W.getD k 0) (by rw[HP.out.1];omega);have ad:=PreW.set HP.out (show k<64 by omega);rw[e1.out]at I ad;have c1:Hid (PreW W (c.set k ((((x0 <<< 24) ||| (x1 <<< 16)) ||| (x2 <<< 8)) ||| x3)) (k+1)):=ad
    go_wp2_with (refine af rfl 167 (.tmp 100) (.tmp 99) rfl gw k rfl (U32 ((((x0 <<< 24) ||| (x1 <<< 16)) ||| (x2 <<< 8)) ||| x3)) rfl rfl _ (c.map U32).toArray bl (by omega) gE _ I ?_;intro wn au J)
    have e3:Hid _:=SumW.putW c0.out au J;clear au J bl cl I ad Z;go_roundw
    case rel=>exact⟨k+1,_,by go_num,by omega,c1.out,e3.out⟩
    case measure=>simp[intOf];omega
   have hK:k=16:=by omega
   subst hK;go_wp2_with fail;generalize((16:Nat):Int)=p0;go_loopw [12] (fun i wr=>∃(k:Nat) (c:List UInt32),i=.int .i64 k/\16<=k/\k<=64/\Hid (PreW W c k)/\Hid (SumW w wr gk N gw mb mo M D c)) (fun i _=>64 - (intOf i).toNat)
   case atStart=>exact⟨16,c,rfl,Nat.le_refl _,by omega,HP.out,K.out⟩
   case round =>
   obtain⟨k,c,rfl,C,o,HP,K⟩:=hrel
   by_cases H:k<64
   case pos =>
    have hn:=k2.out k C H;have cm:=HP.out.1;obtain⟨X,hX⟩:∃x,W.getD (k - 15) 0=x:=⟨_,rfl⟩;obtain⟨Y,hY⟩:∃x,W.getD (k - 2) 0=x:=⟨_,rfl⟩;obtain⟨A0,hA⟩:∃x,W.getD (k - 16) 0=x:=⟨_,rfl⟩;obtain⟨B0,hB⟩:∃x,W.getD (k - 7) 0=x:=⟨_,rfl⟩;have bs:∀j,j<k->wr.cell? ⟨gw,j,none⟩=some (U32 (W.getD j 0)):=fun j hj=>by
     rw[cell_of_row _ _ j _ _ _ K.out.wb,gN (by omega),HP.out.2 j hj]
    have hL:=bs (k - 15) (by omega);have e2:=bs (k - 2) (by omega);have e4:=bs (k - 16) (by omega);have e7:=bs (k - 7) (by omega);rw[hX]at hL;rw[hY]at e2;rw[hA]at e4;rw[hB]at e7;obtain⟨p1,e5⟩:∃x,bv X 25=x:=⟨_,rfl⟩;obtain⟨q1,b7⟩:∃x,bv X 14=x:=⟨_,rfl⟩;obtain⟨p2,e6⟩:∃x,p1 ^^^ q1=x:=⟨_,rfl⟩;obtain⟨r1,e8⟩:∃x,X >>> 3=x:=⟨_,rfl⟩;obtain⟨s1,cp⟩:∃x,p2 ^^^ r1=x:=⟨_,rfl⟩;obtain⟨p3,e'⟩:∃x,bv Y 15=x:=⟨_,rfl⟩;obtain⟨q3,b8⟩:∃x,bv Y 13=x:=⟨_,rfl⟩;obtain⟨p4,fa⟩:∃x,p3 ^^^ q3=x:=⟨_,rfl⟩;obtain⟨r2,fb⟩:∃x,Y >>> 10=x:=⟨_,rfl⟩;obtain⟨s2,bS⟩:∃x,p4 ^^^ r2=x:=⟨_,rfl⟩;obtain⟨z1,b'⟩:∃x,A0+s1=x:=⟨_,rfl⟩;obtain⟨z2,ca⟩:∃x,z1+B0=x:=⟨_,rfl⟩;obtain⟨z3,cb⟩:∃x,z2+s2=x:=⟨_,rfl⟩;have k6:Hid _:=b';have k8:Hid _:=ca;have k9:Hid _:=cb;have e1:Hid (W.getD k 0=z3):=by
     unfold Hid;rw[hn];unfold js;rw[hX,hY,hA,hB,e5,b7,e6,e8,cp,e',b8,fa,fb,bS,b',ca,cb]
    have f1:bits BinOp.xor IntKind.u32 (p1.toNat:Int) (q1.toNat:Int)=(p2.toNat:Int):=by rw[<-e6];exact bu _ _
    have f2:(X.toNat:Int) / 8=(r1.toNat:Int):=by rw[<-e8];exact gO X 3 (by decide)
    have f3:bits BinOp.xor IntKind.u32 (p2.toNat:Int) (r1.toNat:Int)=(s1.toNat:Int):=by rw[<-cp];exact bu _ _
    have f4:bits BinOp.xor IntKind.u32 (p3.toNat:Int) (q3.toNat:Int)=(p4.toNat:Int):=by rw[<-fa];exact bu _ _
    have f5:(Y.toNat:Int) / 1024=(r2.toNat:Int):=by rw[<-fb];exact gO Y 10 (by decide)
    have f6:bits BinOp.xor IntKind.u32 (p4.toNat:Int) (r2.toNat:Int)=(s2.toNat:Int):=by rw[<-bS];exact bu _ _
    have la:Hid _:=e5;have fc:Hid _:=b7;have lb:Hid _:=e';have fe:Hid _:=b8;have lk:IntKind.i64.wrap ((k:Int) - 15)=((k - 15:Nat):Int):=by rw[IntWalk.i64_in _ (by omega)];omega
    have lo:IntKind.i64.wrap ((k:Int) - 2)=((k - 2:Nat):Int):=by rw[IntWalk.i64_in _ (by omega)];omega
    have ls:Hid (IntKind.i64.wrap ((k:Int) - 16)=((k - 16:Nat):Int)):=by unfold Hid;rw[IntWalk.i64_in _ (by omega)];omega
    have W7:Hid (IntKind.i64.wrap ((k:Int) - 7)=((k - 7:Nat):Int)):=by unfold Hid;rw[IntWalk.i64_in _ (by omega)];omega
    have lv:((k - 15:Nat):Int)<64:=by omega
    have n2:((k - 2:Nat):Int)<64:=by omega
    clear hX hY hA hB e5 b7 e6 e8 cp e' b8 fa fb bS b' ca cb hn bs cm;have T7:Hid (∀w,Calls Tryz.prog 191 #[U32 X,.int .i64 7] w fun e Q=>e=.returned (U32 p1)/\∃q,Q=w.drewN q):=fun w=>by rw[<-la.out];exact Bo X w
    have lx:Hid (∀w,Calls Tryz.prog 191 #[U32 X,.int .i64 18] w fun e Q=>e=.returned (U32 q1)/\∃q,Q=w.drewN q):=fun w=>by rw[<-fc.out];exact AX X w
    have lS:Hid (∀w,Calls Tryz.prog 191 #[U32 Y,.int .i64 17] w fun e Q=>e=.returned (U32 p3)/\∃q,Q=w.drewN q):=fun w=>by rw[<-lb.out];exact AY Y w
    have l0:Hid (∀w,Calls Tryz.prog 191 #[U32 Y,.int .i64 19] w fun e Q=>e=.returned (U32 q3)/\∃q,Q=w.drewN q):=fun w=>by rw[<-fe.out];exact AZ Y w
    as_aux_lemma =>
    go_upto_region 23 with fail;go_quiet (first | (go_at_call 191;first | with_reducible exact Calls.quiet_of (T7.out _) | with_reducible exact Calls.quiet_of (lx.out _)));obtain⟨r,br⟩:∃r,r=wr.drewN nq:=⟨_,rfl⟩;have bt:Ext wr r:=by rw[br];exact Ext.drawn _ _
    rw[<-br];clear br;have d2:=bt.cell e2;go_upto_region 24 with fail;go_quiet (first | (go_at_call 191;first | with_reducible exact Calls.quiet_of (lS.out _) | with_reducible exact Calls.quiet_of (l0.out _)));obtain⟨wu,ff⟩:∃wu,wu=r.drewN nq:=⟨_,rfl⟩;have dc:Ext wr wu:=bt.trans (by rw[ff];exact Ext.drawn _ _);rw[<-ff];clear ff;have l1:Hid _:=SumW.more K.out dc;have hN:=dc.cell e4;have g7:=dc.cell e7;clear hL e2 e4 e7 d2 bt dc lk lo lv n2;go_upto_region 25 with fail;apply aj 18 [_,_,_,_,_,.pointer (some ⟨gw,k - 16,none⟩),U32 A0,_,U32 z1,_,_,_,.pointer (some ⟨gw,k - 7,none⟩),U32 B0,U32 z2,_,U32 z3,.pointer (some ⟨gw,k,none⟩)] [none,none,none,none,none,none,none,none,none,none,none,none,none,none,none,none,none,none] [[],[],[],[],[3],[2,4],[5],[],[6,7],[],[],[10],[9,11],[12],[8,13],[],[14,15],[0,1]] (by kernel_rfl) (by kernel_rfl) (by simp[ak])
    .trivial
    .simp (maxSteps:=1000000)only[List.take_succ_cons,List.take_zero,aw,aA,aa,Act.put,List.setIfInBounds_toArray,List.set_cons_zero,List.set_cons_succ,aK,aO,ak,List.getD_cons_zero,List.getD_cons_succ,and_true,true_and,forall_const];and_intros
     iterate 5 · intro A r t;intros;rename_i d;go_simp;exact d _ _ (Ext.refl _) rfl
     .intro A r t o R d;obtain⟨E,C⟩:=o;go_simp;simp only[ls.out];rw[if_pos ⟨by omega,by omega⟩];exact d _ _ (Ext.refl _) rfl
     .intro A r t o R d;have f0:=t.cell hN;go_simp;exact d _ _ (Ext.refl _) rfl
     .intro A r t;intros;rename_i d;go_simp;exact d _ _ (Ext.refl _) rfl
     .intro A r t o R d;obtain⟨E,C⟩:=o;go_simp;exact d _ _ (Ext.refl _) (by rw[<-k6.out];exact eX A0 s1)
     iterate 3 · intro A r t;intros;rename_i d;go_simp;exact d _ _ (Ext.refl _) rfl
     .intro A r t o R d;obtain⟨E,C⟩:=o;go_simp;simp only[W7.out];rw[if_pos ⟨by omega,by omega⟩];exact d _ _ (Ext.refl _) rfl
     .intro A r t o R d;have f0:=t.cell g7;go_simp;exact d _ _ (Ext.refl _) rfl
     .intro A r t o R d;obtain⟨E,C⟩:=o;go_simp;exact d _ _ (Ext.refl _) (by rw[<-k8.out];exact eX z1 B0)
     .intro A r t;intros;rename_i d;go_simp;exact d _ _ (Ext.refl _) rfl
     .intro A r t o R d;obtain⟨E,C⟩:=o;go_simp;exact d _ _ (Ext.refl _) (by rw[<-k9.out];exact eX z2 s2)
     .intro A r t o R d;obtain⟨E,C⟩:=o;go_simp;exact d _ _ (Ext.refl _) rfl
    intro A wz Z o;simp only[aP,Nat.zero_add,Nat.reduceAdd,and_true]at o;simp(maxSteps:=1000000)only[List.take_succ_cons,List.take_zero,List.drop_succ_cons,List.drop_zero,aa,Act.put,List.setIfInBounds_toArray,List.set_cons_zero,List.set_cons_succ,Nat.zero_add,Nat.reduceAdd,o];clear o;have c0:Hid _:=SumW.more l1.out Z;have bl:=c0.out.wb;have cl:(c.map U32).toArray.size=64:=by simp[HP.out.1]
    have I:=lK (l:=c) (i:=k) (W.getD k 0) (by rw[HP.out.1];omega);have ad:=PreW.set HP.out (show k<64 by omega);rw[e1.out]at I ad;have c1:Hid (PreW W (c.set k z3) (k+1)):=ad;clear f1 f2 f3 f4 f5 f6 hN g7 Z
    go_wp2_with (refine af rfl 167 (.tmp 162) (.tmp 161) rfl gw k rfl (U32 z3) rfl rfl _ (c.map U32).toArray bl (by omega) gE _ I ?_;intro wn au J)
    have e3:Hid _:=SumW.putW c0.out au J;clear au J bl cl I ad;go_roundw
    case rel=>exact⟨k+1,c.set k z3,by go_num,by omega,by omega,c1,e3⟩
    case measure=>simp[intOf];omega
   have hO:k=64:=by omega
   subst hO;obtain rfl:c=W:=PreW.all HP.out ey.out;go_upto_region 27 with fail;obtain⟨wv,dk⟩:∃wv,wv=wr.alloc (.cells #[.int .u32 0,.int .u32 0,.int .u32 0,.int .u32 0,.int .u32 0,.int .u32 0,.int .u32 0,.int .u32 0] 216):=⟨_,rfl⟩;have B:wv.heap[wr.heap.size]? = some (.cells #[.int .u32 0,.int .u32 0,.int .u32 0,.int .u32 0,.int .u32 0,.int .u32 0,.int .u32 0,.int .u32 0] 216 (0,0)):=by rw[dk];exact ab _ _
   have hP:Ext wr wv:=by rw[dk];exact(Ext.refl _).alloc _
   have l2:=K.out.ext.size;have fi:Hid (SumV w wv gk N gw mb mo wr.heap.size M D c (List.replicate 8 0)):=by
    have h1:=(Array.getElem?_eq_some_iff.1 K.out.kb).1;have h2:=(Array.getElem?_eq_some_iff.1 K.out.hb).1;have h3:=(Array.getElem?_eq_some_iff.1 K.out.wb).1;have h4:mb<wr.heap.size:=World.block_lt_of_cell? _ _ (K.out.mc 0 (by omega));exact⟨K.out.more hP,B,⟨by omega,by omega,by omega,by omega,by omega⟩⟩
   rw[<-dk];obtain⟨S,hQ⟩:∃g,wr.heap.size=g:=⟨_,rfl⟩;rw[hQ]at fi B ⊢;clear dk hP hQ l2;have cm:(D.map U32).length=8:=by rw[List.length_map];exact eE.out
   have hS:(((#[.int .u32 0,.int .u32 0,.int .u32 0,.int .u32 0,.int .u32 0,.int .u32 0,.int .u32 0,.int .u32 0]:Array Value).toList.take 0++(D.map U32++(#[.int .u32 0,.int .u32 0,.int .u32 0,.int .u32 0,.int .u32 0,.int .u32 0,.int .u32 0,.int .u32 0]:Array Value).toList.drop (0+(D.map U32).length))).toArray)=(D.map U32).toArray:=by
    rw[cm];simp
   go_upto_region 28 with(refine wpList_copy_own rfl _ _ _ _ rfl 167 Tryz.underlying227 (by kernel_rfl) S 0 8 8 ⟨N,0,none⟩ 8 8 rfl rfl _ 216 B (D.map U32) (by rw[cm];rfl) (fun j v h=>cP fi.out.sw.hb j v (by simpa using h)) (by rw[cm];decide) (fun v hv=>by obtain⟨x,-,rfl⟩:=List.mem_map.1 hv;rfl) ?_;rw[hS]);obtain⟨wc,fj⟩:∃wc,wc=wv.setRow S (D.map U32).toArray:=⟨_,rfl⟩;have hT:Hid (SumV w wc gk N gw mb mo S M D c D):=by
    unfold Hid;rw[fj];exact fi.out.Db (setRow_heap _ _ _ _ _ _ B) (ae _ _ _)
   rw[<-fj];clear fj B hS cm;obtain⟨i0,i1,i2,i3,i4,i5,i6,i7,fl⟩:=gS eE.out;have l3:Hid (iW D c 0=[i0,i1,i2,i3,i4,i5,i6,i7]):=fl;rw[show SumV w wc gk N gw mb mo S M D c D=SumV w wc gk N gw mb mo S M D c [i0,i1,i2,i3,i4,i5,i6,i7]by rw[<-fl]]at hT;clear fl;go_wp2_with fail;go_loopw [16] (fun i wr=>∃(k:Nat) (O a1 a2 a3 L a5 a6 a7:UInt32),k<=64/\i=.int .i64 k/\Hid (SumV w wr gk N gw mb mo S M D c [O,a1,a2,a3,L,a5,a6,a7])/\Hid (iW D c k=[O,a1,a2,a3,L,a5,a6,a7])) (fun i _=>64 - (intOf i).toNat)
   case atStart=>exact⟨0,i0,i1,i2,i3,i4,i5,i6,i7,by omega,rfl,hT.out,l3.out⟩
   case round =>
   obtain⟨k,O,a1,a2,a3,L,a5,a6,a7,o,rfl,cn,fn⟩:=hrel
   by_cases H:k<64
   case pos =>
    obtain⟨kk,b0⟩:∃x,dI.getD k 0=x:=⟨_,rfl⟩;obtain⟨ww,fs⟩:∃x,c.getD k 0=x:=⟨_,rfl⟩;obtain⟨x1,a8⟩:∃x,bv L 26=x:=⟨_,rfl⟩;obtain⟨x2,U⟩:∃x,bv L 21=x:=⟨_,rfl⟩;obtain⟨x3,V⟩:∃x,x1 ^^^ x2=x:=⟨_,rfl⟩;obtain⟨x4,ft⟩:∃x,bv L 7=x:=⟨_,rfl⟩;obtain⟨x5,fu⟩:∃x,x3 ^^^ x4=x:=⟨_,rfl⟩;obtain⟨y1,bq⟩:∃x,a7+x5=x:=⟨_,rfl⟩;obtain⟨y2,b5⟩:∃x,L &&& a5=x:=⟨_,rfl⟩;obtain⟨y3,b6⟩:∃x,~~~L=x:=⟨_,rfl⟩;obtain⟨y4,fv⟩:∃x,y3 &&& a6=x:=⟨_,rfl⟩;obtain⟨y5,fx⟩:∃x,y2 ^^^ y4=x:=⟨_,rfl⟩;obtain⟨y6,dl⟩:∃x,y1+y5=x:=⟨_,rfl⟩;obtain⟨y7,dn⟩:∃x,y6+kk=x:=⟨_,rfl⟩;obtain⟨tt,dq⟩:∃x,y7+ww=x:=⟨_,rfl⟩;obtain⟨z1,b'⟩:∃x,bv O 30=x:=⟨_,rfl⟩;obtain⟨z2,ca⟩:∃x,bv O 19=x:=⟨_,rfl⟩;obtain⟨z3,cb⟩:∃x,z1 ^^^ z2=x:=⟨_,rfl⟩;obtain⟨z4,fz⟩:∃x,bv O 10=x:=⟨_,rfl⟩;obtain⟨z5,f7⟩:∃x,z3 ^^^ z4=x:=⟨_,rfl⟩;obtain⟨v1,f8⟩:∃x,O &&& a1=x:=⟨_,rfl⟩;obtain⟨v2,f9⟩:∃x,O &&& a2=x:=⟨_,rfl⟩;obtain⟨v3,f'⟩:∃x,v1 ^^^ v2=x:=⟨_,rfl⟩;obtain⟨v4,ga⟩:∃x,a1 &&& a2=x:=⟨_,rfl⟩;obtain⟨v5,gb⟩:∃x,v3 ^^^ v4=x:=⟨_,rfl⟩;obtain⟨m1,ds⟩:∃x,tt+z5=x:=⟨_,rfl⟩;obtain⟨n0,d4⟩:∃x,m1+v5=x:=⟨_,rfl⟩;obtain⟨n4,d5⟩:∃x,a3+tt=x:=⟨_,rfl⟩;have l4:Hid (bits BinOp.xor IntKind.u32 (x1.toNat:Int) (x2.toNat:Int)=(x3.toNat:Int)):=by unfold Hid;rw[<-V];exact bu _ _
    have l5:Hid (bits BinOp.xor IntKind.u32 (x3.toNat:Int) (x4.toNat:Int)=(x5.toNat:Int)):=by unfold Hid;rw[<-fu];exact bu _ _
    have l6:Hid (bits BinOp.and IntKind.u32 (L.toNat:Int) (a5.toNat:Int)=(y2.toNat:Int)):=by unfold Hid;rw[<-b5];exact dt _ _
    have l':Hid (bits BinOp.and IntKind.u32 (y3.toNat:Int) (a6.toNat:Int)=(y4.toNat:Int)):=by unfold Hid;rw[<-fv];exact dt _ _
    have mc:Hid (bits BinOp.xor IntKind.u32 (y2.toNat:Int) (y4.toNat:Int)=(y5.toNat:Int)):=by unfold Hid;rw[<-fx];exact bu _ _
    have md:Hid (bits BinOp.xor IntKind.u32 (z1.toNat:Int) (z2.toNat:Int)=(z3.toNat:Int)):=by unfold Hid;rw[<-cb];exact bu _ _
    have ml:Hid (bits BinOp.xor IntKind.u32 (z3.toNat:Int) (z4.toNat:Int)=(z5.toNat:Int)):=by unfold Hid;rw[<-f7];exact bu _ _
    have mm:Hid (bits BinOp.and IntKind.u32 (O.toNat:Int) (a1.toNat:Int)=(v1.toNat:Int)):=by unfold Hid;rw[<-f8];exact dt _ _
    have mp:Hid (bits BinOp.and IntKind.u32 (O.toNat:Int) (a2.toNat:Int)=(v2.toNat:Int)):=by unfold Hid;rw[<-f9];exact dt _ _
    have ms:Hid (bits BinOp.xor IntKind.u32 (v1.toNat:Int) (v2.toNat:Int)=(v3.toNat:Int)):=by unfold Hid;rw[<-f'];exact bu _ _
    have mt:Hid (bits BinOp.and IntKind.u32 (a1.toNat:Int) (a2.toNat:Int)=(v4.toNat:Int)):=by unfold Hid;rw[<-ga];exact dt _ _
    have mv:Hid (bits BinOp.xor IntKind.u32 (v3.toNat:Int) (v4.toNat:Int)=(v5.toNat:Int)):=by unfold Hid;rw[<-gb];exact bu _ _
    have mx:Hid (bits BinOp.xor IntKind.u32 4294967295 (L.toNat:Int)=(y3.toNat:Int)):=by unfold Hid;rw[<-b6];exact nk _
    have hU:Hid (((a7.toNat:Int)+(x5.toNat:Int))%4294967296=(y1.toNat:Int)):=by unfold Hid;rw[<-bq];exact cr _ _
    have og:Hid (IntKind.u32.wrap ((a7.toNat:Int)+(x5.toNat:Int))=(y1.toNat:Int)):=by unfold Hid;rw[<-bq,IntKind.wrap_u32];exact cr _ _
    have hV:Hid (((y1.toNat:Int)+(y5.toNat:Int))%4294967296=(y6.toNat:Int)):=by unfold Hid;rw[<-dl];exact cr _ _
    have oi:Hid (IntKind.u32.wrap ((y1.toNat:Int)+(y5.toNat:Int))=(y6.toNat:Int)):=by unfold Hid;rw[<-dl,IntKind.wrap_u32];exact cr _ _
    have h0:Hid (((y6.toNat:Int)+(kk.toNat:Int))%4294967296=(y7.toNat:Int)):=by unfold Hid;rw[<-dn];exact cr _ _
    have oj:Hid (IntKind.u32.wrap ((y6.toNat:Int)+(kk.toNat:Int))=(y7.toNat:Int)):=by unfold Hid;rw[<-dn,IntKind.wrap_u32];exact cr _ _
    have d':Hid (((y7.toNat:Int)+(ww.toNat:Int))%4294967296=(tt.toNat:Int)):=by unfold Hid;rw[<-dq];exact cr _ _
    have ol:Hid (IntKind.u32.wrap ((y7.toNat:Int)+(ww.toNat:Int))=(tt.toNat:Int)):=by unfold Hid;rw[<-dq,IntKind.wrap_u32];exact cr _ _
    have h5:Hid (((tt.toNat:Int)+(z5.toNat:Int))%4294967296=(m1.toNat:Int)):=by unfold Hid;rw[<-ds];exact cr _ _
    have om:Hid (IntKind.u32.wrap ((tt.toNat:Int)+(z5.toNat:Int))=(m1.toNat:Int)):=by unfold Hid;rw[<-ds,IntKind.wrap_u32];exact cr _ _
    have ea:Hid (((m1.toNat:Int)+(v5.toNat:Int))%4294967296=(n0.toNat:Int)):=by unfold Hid;rw[<-d4];exact cr _ _
    have op:Hid (IntKind.u32.wrap ((m1.toNat:Int)+(v5.toNat:Int))=(n0.toNat:Int)):=by unfold Hid;rw[<-d4,IntKind.wrap_u32];exact cr _ _
    have ec:Hid (((a3.toNat:Int)+(tt.toNat:Int))%4294967296=(n4.toNat:Int)):=by unfold Hid;rw[<-d5];exact cr _ _
    have os:Hid (IntKind.u32.wrap ((a3.toNat:Int)+(tt.toNat:Int))=(n4.toNat:Int)):=by unfold Hid;rw[<-d5,IntKind.wrap_u32];exact cr _ _
    have T6:Hid (∀w,Calls Tryz.prog 191 #[U32 L,.int .i64 6] w fun e Q=>e=.returned (U32 x1)/\∃q,Q=w.drewN q):=fun w=>by rw[<-a8];exact Bp L w
    have my:Hid (∀w,Calls Tryz.prog 191 #[U32 L,.int .i64 11] w fun e Q=>e=.returned (U32 x2)/\∃q,Q=w.drewN q):=fun w=>by rw[<-U];exact A1 L w
    have mE:Hid (∀w,Calls Tryz.prog 191 #[U32 L,.int .i64 25] w fun e Q=>e=.returned (U32 x4)/\∃q,Q=w.drewN q):=fun w=>by rw[<-ft];exact A2 L w
    have T2:Hid (∀w,Calls Tryz.prog 191 #[U32 O,.int .i64 2] w fun e Q=>e=.returned (U32 z1)/\∃q,Q=w.drewN q):=fun w=>by rw[<-b'];exact Bq O w
    have mS:Hid (∀w,Calls Tryz.prog 191 #[U32 O,.int .i64 13] w fun e Q=>e=.returned (U32 z2)/\∃q,Q=w.drewN q):=fun w=>by rw[<-ca];exact A3 O w
    have m0:Hid (∀w,Calls Tryz.prog 191 #[U32 O,.int .i64 22] w fun e Q=>e=.returned (U32 z4)/\∃q,Q=w.drewN q):=fun w=>by rw[<-fz];exact A4 O w
    have h6:Hid (iW D c (k+1)=[n0,O,a1,a2,n4,L,a5,a6]):=by
     show rnd (iW D c k) (dI.getD k 0) (c.getD k 0)=_;rw[fn.out];simp only[rnd,List.getD_cons_zero,List.getD_cons_succ];rw[b0,fs,a8,U,V,ft,fu,bq,b5,b6,fv,fx,dl,dn,dq,b',ca,cb,fz,f7,f8,f9,f',ga,gb,<-UInt32.add_assoc,ds,d4,d5]
    have m2:Hid (wr.cell? ⟨gk,k,none⟩=some (U32 kk)):=by unfold Hid;rw[cell_of_row _ _ k _ _ _ cn.out.sw.kb,gN (l:=dI) (i:=k) H,b0]
    have m3:Hid (wr.cell? ⟨gw,k,none⟩=some (U32 ww)):=by unfold Hid;rw[cell_of_row _ _ k _ _ _ cn.out.sw.wb,gN (l:=c) (i:=k) (by rw[ey.out];exact H),fs]
    clear b0 fs a8 U V ft fu bq b5 b6 fv fx dl dn dq b' ca cb fz f7 f8 f9 f' ga gb ds d4 d5;have B:=cn.out.vb;have s4:wr.cell? ⟨S,4,none⟩=some (U32 L):=(cell_of_row _ _ 4 _ _ _ B).trans rfl;clear B;have f3:=l4.out;have f5:=l5.out;go_upto_region 31 with fail;go_quiet (first | (go_at_call 191;first | with_reducible exact Calls.quiet_of (T6.out _) | with_reducible exact Calls.quiet_of (my.out _) | with_reducible exact Calls.quiet_of (mE.out _)));obtain⟨r,br⟩:∃r,r=wr.drewN nq:=⟨_,rfl⟩;have bt:Ext wr r:=by rw[br];exact Ext.drawn _ _
    rw[<-br];have h7:Hid _:=SumV.more cn.out bt;have m4:Hid _:=bt.cell m2.out;have m':Hid _:=bt.cell m3.out;clear br s4 bt f3 f5;have B:=h7.out.vb;have s4:r.cell? ⟨S,4,none⟩=some (U32 L):=(cell_of_row _ _ 4 _ _ _ B).trans rfl;have s5:r.cell? ⟨S,5,none⟩=some (U32 a5):=(cell_of_row _ _ 5 _ _ _ B).trans rfl;have s6:r.cell? ⟨S,6,none⟩=some (U32 a6):=(cell_of_row _ _ 6 _ _ _ B).trans rfl;have s7:r.cell? ⟨S,7,none⟩=some (U32 a7):=(cell_of_row _ _ 7 _ _ _ B).trans rfl;have sk:=m4.out;have sw:=m'.out;clear B;go_upto_region 33 with fail;rw[l6.out,show(if IntKind.u32.signed=true then(-1:Int)else IntKind.u32.max)=4294967295 from rfl,mx.out,l'.out,mc.out];clear s4 s5 s6;have f1:=hU.out;have f2:=hV.out;have f3:=h0.out;have f4:=d'.out;have h':(k:Int)<64:=by omega
    go_quiet (fail)
    try rw[d'.out]
    clear s7 sk sw f1 f2 f3 f4 h';obtain⟨wp,da⟩:∃wp,wp=r.drewN nq:=⟨_,rfl⟩;have ia:Ext r wp:=by rw[da];exact Ext.drawn _ _
    rw[<-da];have ic:Hid _:=SumV.more h7.out ia;clear da ia;have B:=ic.out.vb;have s0:wp.cell? ⟨S,0,none⟩=some (U32 O):=(cell_of_row _ _ 0 _ _ _ B).trans rfl;clear B;have f3:=md.out;have f5:=ml.out;go_upto_region 34 with fail;go_quiet (first | (go_at_call 191;first | with_reducible exact Calls.quiet_of (T2.out _) | with_reducible exact Calls.quiet_of (mS.out _) | with_reducible exact Calls.quiet_of (m0.out _)));clear s0 f3 f5;obtain⟨wo,gc⟩:∃wo,wo=wp.drewN nq:=⟨_,rfl⟩;have ih:Ext wp wo:=by rw[gc];exact Ext.drawn _ _
    rw[<-gc];have il:Hid _:=SumV.more ic.out ih;clear gc ih;have B:=il.out.vb;have r0:wo.cell? ⟨S,0,none⟩=some (U32 O):=(cell_of_row _ _ 0 _ _ _ B).trans rfl;have r1:wo.cell? ⟨S,1,none⟩=some (U32 a1):=(cell_of_row _ _ 1 _ _ _ B).trans rfl;have r2:wo.cell? ⟨S,2,none⟩=some (U32 a2):=(cell_of_row _ _ 2 _ _ _ B).trans rfl;have r3:wo.cell? ⟨S,3,none⟩=some (U32 a3):=(cell_of_row _ _ 3 _ _ _ B).trans rfl;have r4:wo.cell? ⟨S,4,none⟩=some (U32 L):=(cell_of_row _ _ 4 _ _ _ B).trans rfl;have r5:wo.cell? ⟨S,5,none⟩=some (U32 a5):=(cell_of_row _ _ 5 _ _ _ B).trans rfl;have r6:wo.cell? ⟨S,6,none⟩=some (U32 a6):=(cell_of_row _ _ 6 _ _ _ B).trans rfl;go_upto_region 36 with fail;rw[mm.out,mp.out,ms.out,mt.out,mv.out];have p7:Hid ((#[.int .u32 (((m1.toNat:Int)+(v5.toNat:Int))%4294967296),U32 O,U32 a1,U32 a2,.int .u32 (((a3.toNat:Int)+(tt.toNat:Int))%4294967296),U32 L,U32 a5,U32 a6]:Array Value)=#[U32 n0,U32 O,U32 a1,U32 a2,U32 n4,U32 L,U32 a5,U32 a6]):=by unfold Hid;rw[ea.out,ec.out]
    have na:=h5.out;have nb:=ea.out;have nc:=ec.out
    go_wp2_with (refine fT ?ha 216 (.tmp 15) (.tmp 258) ?hb S 0 ?hc #[U32 n0,U32 O,U32 a1,U32 a2,U32 n4,U32 L,U32 a5,U32 a6] ?hd ?he _ _ B ?hf iO #[U32 n0,U32 O,U32 a1,U32 a2,U32 n4,U32 L,U32 a5,U32 a6] ?hg ?hh;(case ha=>rfl);(case hb=>rfl);(case hc=>rfl);(case he=>intro v hv;simp at hv;rcases hv with rfl | rfl | rfl | rfl | rfl | rfl | rfl | rfl <;> rfl);(case hf=>simp);(case hg=>simp);(case hd=>go_simp);intro wn au J)
    have gd:Hid _:=SumV.Db il.out (cur':=[n0,O,a1,a2,n4,L,a5,a6]) au J;clear r0 r1 r2 r3 r4 r5 r6 B au J na nb nc;go_roundw
    case rel=>exact⟨k+1,n0,O,a1,a2,n4,L,a5,a6,by omega,by go_num,gd.out,h6.out⟩
    case measure=>simp[intOf];omega
   have b0:k=64:=by omega
   subst b0;obtain⟨a',c2⟩:∃l,[O,a1,a2,a3,L,a5,a6,a7]=l:=⟨_,rfl⟩;have co:Hid (a'.length=8):=by rw[<-c2];rfl
   rw[c2]at cn fn;have nm:Hid (SumV w wr gk N gw mb mo S M (dD D a' 0) c a'):=cn.out;have bd:Hid _:=eE.out;clear c2;go_wp2_with fail;go_loopw [22] (fun i wr=>∃k:Nat,k<=8/\i=.int .i64 k/\Hid (SumV w wr gk N gw mb mo S M (dD D a' k) c a')) (fun i _=>8 - (intOf i).toNat)
   case atStart=>exact⟨0,by omega,rfl,nm.out⟩
   case round =>
   obtain⟨k,o,rfl,H2⟩:=hrel
   by_cases H:k<8
   case pos =>
    as_aux_lemma =>
    obtain⟨sk,gf⟩:∃x,D.getD k 0=x:=⟨_,rfl⟩;obtain⟨fk,gi⟩:∃x,a'.getD k 0=x:=⟨_,rfl⟩;obtain⟨xk,gl⟩:∃x,sk+fk=x:=⟨_,rfl⟩;have io:=ph bd.out co.out o;have ad:=pj bd.out co.out H;have gm:=pi bd.out co.out H;rw[gf]at gm;rw[gf,gi,gl]at ad;have it:Hid (Value.int .u32 (IntKind.u32.wrap ((sk.toNat:Int)+(fk.toNat:Int)))=U32 xk):=by unfold Hid;rw[<-gl];exact eX sk fk
    have nn:Hid (wr.cell? ⟨N,k,none⟩=some (U32 sk)):=by unfold Hid;rw[cell_of_row _ _ k _ _ _ H2.out.sw.hb,gN (by omega),gm]
    have nv:Hid (wr.cell? ⟨S,k,none⟩=some (U32 fk)):=by unfold Hid;rw[cell_of_row _ _ k _ _ _ H2.out.vb,gN (by rw[co.out];exact H),gi]
    have c1:Hid _:=ad;have c5:Hid _:=io;clear gf gi gl gm ad io;go_upto_region 40 with fail;apply aj 11 [_,_,_,_,.pointer (some ⟨N,k,none⟩),U32 sk,_,.pointer (some ⟨S,k,none⟩),U32 fk,U32 xk,.pointer (some ⟨N,k,none⟩)] [none,none,none,none,none,none,none,none,none,none,none] [[],[],[],[],[2,3],[4],[],[6],[7],[5,8],[0,1]] (by kernel_rfl) (by kernel_rfl) (by simp[ak])
    .trivial
    .simp (maxSteps:=1000000)only[List.take_succ_cons,List.take_zero,aw,aA,aa,Act.put,List.setIfInBounds_toArray,List.set_cons_zero,List.set_cons_succ,aK,aO,ak,List.getD_cons_zero,List.getD_cons_succ,and_true,true_and,forall_const];and_intros
     iterate 4 · intro A r t;intros;rename_i d;go_simp;exact d _ _ (Ext.refl _) rfl
     .intro A r t o R d;obtain⟨E,C⟩:=o;go_simp;exact d _ _ (Ext.refl _) rfl
     .intro A r t o R d;have f0:=t.cell nn.out;go_simp;exact d _ _ (Ext.refl _) rfl
     .intro A r t;intros;rename_i d;go_simp;exact d _ _ (Ext.refl _) rfl
     .intro A r t o R d;go_simp;exact d _ _ (Ext.refl _) rfl
     .intro A r t o R d;have f0:=t.cell nv.out;go_simp;exact d _ _ (Ext.refl _) rfl
     .intro A r t o R d;obtain⟨E,C⟩:=o;go_simp;exact d _ _ (Ext.refl _) it.out
     .intro A r t o R d;obtain⟨E,C⟩:=o;go_simp;exact d _ _ (Ext.refl _) rfl
    intro A wz Z o;simp only[aP,Nat.zero_add,Nat.reduceAdd,and_true]at o;simp(maxSteps:=1000000)only[List.take_succ_cons,List.take_zero,List.drop_succ_cons,List.drop_zero,aa,Act.put,List.setIfInBounds_toArray,List.set_cons_zero,List.set_cons_succ,Nat.zero_add,Nat.reduceAdd,o];clear o;have ef:Hid _:=SumV.more H2.out Z;have iv:=ef.out.sw.hb;have cl:((dD D a' k).map U32).toArray.size=8:=by simp[c5.out]
    have I:=lK (l:=dD D a' k) (i:=k) xk (by rw[c5.out];exact H);rw[<-c1.out]at I
    go_wp2_with (refine af rfl 167 (.tmp 273) (.tmp 272) rfl N k rfl (U32 xk) rfl rfl _ ((dD D a' k).map U32).toArray iv (by omega) gE _ I ?_;intro wn au J)
    have gd:Hid _:=SumV.C0 ef.out au J;clear au J iv cl I Z;go_roundw
    case rel=>exact⟨k+1,by omega,by go_num,gd.out⟩
    case measure=>simp[intOf];omega
   have nw:k=8:=by omega
   subst nw;have iE:dD D a' 8=eP D ((M.drop a).take 64):=by
    unfold dD;rw[k3.out,fn.out,List.drop_eq_nil_of_le (by rw[bd.out];omega),List.append_nil,List.take_of_length_le (by simp[bd.out,co.out])]
   have nx:Hid (SumW w wr gk N gw mb mo M (eP D ((M.drop a).take 64)) c):=by
    have h9:=H2.out.sw;rw[iE]at h9;exact h9
   have nA:Hid ((ba (eP D ((M.drop a).take 64)) (M.drop (a+64))).1=c'):=by
    unfold Hid;rw[<-sg bo];exact HF.out
   have j0:Hid ((eP D ((M.drop a).take 64)).length=8):=ox bd.out;have ot:IntKind.i64.wrap ((a:Int)+64)=((a+64:Nat):Int):=by rw[IntWalk.i64_in _ (by omega)];omega
   clear iE;go_wp2_with fail;go_roundw
   case rel=>exact⟨a+64,_,c,by go_num,by omega,by have:=k4.out;omega,j0.out,ey.out,nA.out,nx.out⟩
   case measure=>simp[intOf];omega
  obtain rfl:D=c':=by
   have h9:=HF.out;rw[uB D (by omega)]at h9;exact h9
  have j1:Hid (wr.heap[N]? = some (.cells (D.map U32).toArray 167 (0,0))):=HS.out.hb;have go:Hid (Ext w wr):=HS.out.ext;have bx:Hid _:=ex;clear HS HF;obtain⟨wl,j2⟩:∃x,wr=x:=⟨_,rfl⟩;rw[j2]at j1 go ⊢;clear j2;go_wp2_with fail;go_loopw [23,24] (fun ov i wr=>∃k:Nat,k<=8/\i=.int .i64 k/\Hid (wr.ownsRow wl.heap.size 5 1 ov (4*k) (((D.take k).flatMap ed).map fun x=>.int .u8 x.toNat))/\Hid (Ext wl wr)) (fun _ i _=>8 - (intOf i).toNat)
  case atStart=>exact⟨0,by omega,rfl,World.ownsRow_nil _ _ _ _,Ext.refl _⟩
  case round =>
  obtain⟨j,hj,rfl,cc,gr⟩:=hrel;obtain⟨ja,jc,rfl,-⟩:=Row.BM cc.out (by omega)
  by_cases H:j<8
  case pos =>
   as_aux_lemma =>
   obtain⟨x,gs⟩:∃x,D.getD j 0=x:=⟨_,rfl⟩;obtain⟨q1,b7⟩:∃q,x >>> 24=q:=⟨_,rfl⟩;obtain⟨q2,gx⟩:∃q,x >>> 16=q:=⟨_,rfl⟩;obtain⟨q3,b8⟩:∃q,x >>> 8=q:=⟨_,rfl⟩;have fc:Hid (Value.int .u32 ((x.toNat:Int) / 16777216)=U32 q1):=by unfold Hid;rw[<-b7];exact congrArg (Value.int .u32) (gO x 24 (by decide))
   have nC:Hid (Value.int .u32 ((x.toNat:Int) / 65536)=U32 q2):=by unfold Hid;rw[<-gx];exact congrArg (Value.int .u32) (gO x 16 (by decide))
   have fe:Hid (Value.int .u32 ((x.toNat:Int) / 256)=U32 q3):=by unfold Hid;rw[<-b8];exact congrArg (Value.int .u32) (gO x 8 (by decide))
   have eg:Hid (ed x=[UInt8.ofNat q1.toNat,UInt8.ofNat q2.toNat,UInt8.ofNat q3.toNat,UInt8.ofNat x.toNat]):=by unfold Hid ed;rw[b7,gx,b8]
   have HC:Hid (wr.cell? ⟨N,j,none⟩=some (U32 x)):=by unfold Hid;exact gr.out.cell (by rw[cell_of_row _ _ j _ _ _ j1.out,gN (by rw[bx.out];exact H),gs])
   have n1:Hid _:=gs;clear b7 gx b8 gs;obtain⟨b1,gy⟩:∃b,UInt8.ofNat q1.toNat=b:=⟨_,rfl⟩;obtain⟨b2,gz⟩:∃b,UInt8.ofNat q2.toNat=b:=⟨_,rfl⟩;obtain⟨b3,g0⟩:∃b,UInt8.ofNat q3.toNat=b:=⟨_,rfl⟩;obtain⟨b4,g4⟩:∃b,UInt8.ofNat x.toNat=b:=⟨_,rfl⟩;have n3:Hid (Value.int .u8 (IntKind.u8.wrap (q1.toNat:Int))=.int .u8 b1.toNat):=by unfold Hid;rw[<-gy];exact l7 q1
   have n5:Hid (Value.int .u8 (IntKind.u8.wrap (q2.toNat:Int))=.int .u8 b2.toNat):=by unfold Hid;rw[<-gz];exact l7 q2
   have n6:Hid (Value.int .u8 (IntKind.u8.wrap (q3.toNat:Int))=.int .u8 b3.toNat):=by unfold Hid;rw[<-g0];exact l7 q3
   have n7:Hid (Value.int .u8 (IntKind.u8.wrap (x.toNat:Int))=.int .u8 b4.toNat):=by unfold Hid;rw[<-g4];exact l7 x
   rw[gy,gz,g0,g4]at eg;clear gy gz g0 g4;have co:Hid (((D.take j).flatMap ed).length=4*j):=by
    have h9:=cc.out.1;unfold Hid;simpa using h9
   go_upto_region 45 with fail;apply aj 25 [_,_,_,.pointer (some ⟨N,j,none⟩),U32 x,U32 q1,.int .u8 b1.toNat,_,_,.pointer (some ⟨N,j,none⟩),U32 x,U32 q2,.int .u8 b2.toNat,_,_,.pointer (some ⟨N,j,none⟩),U32 x,U32 q3,.int .u8 b3.toNat,_,_,.pointer (some ⟨N,j,none⟩),U32 x,.int .u8 b4.toNat,undef] [none,none,none,none,none,none,none,none,none,none,none,none,none,none,none,none,none,none,none,none,none,none,none,none,some (fun u Q=>∃g,u=.slice (some ⟨g,0,none⟩) 4 4/\wr.heap.size<=g/\Q.heap[g]? = some (.cells #[.int .u8 b1.toNat,.int .u8 b2.toNat,.int .u8 b3.toNat,.int .u8 b4.toNat] 5 (0,0)))] [[],[],[],[1,2],[3],[4],[5],[],[],[7,8],[9],[10],[11],[],[],[13,14],[15],[16],[17],[],[],[19,20],[21],[22],[6,12,18,23]] (by kernel_rfl) (by kernel_rfl) (by simp[ak])
   .refine ⟨?_,trivial⟩
    .exact fun u w Q he ⟨g,h1,h2,h3⟩=>⟨g,h1,h2,(he.block g (Array.getElem?_eq_some_iff.1 h3).1).trans h3⟩
   .simp (maxSteps:=1000000)only[List.take_succ_cons,List.take_zero,aw,aA,aa,Act.put,List.setIfInBounds_toArray,List.set_cons_zero,List.set_cons_succ,aK,aO,ak,List.getD_cons_zero,List.getD_cons_succ,and_true,true_and,forall_const];and_intros
    iterate 3 · intro A r t;intros;rename_i d;go_simp;exact d _ _ (Ext.refl _) rfl
    .intro A r t o R d;obtain⟨E,C⟩:=o;go_simp;exact d _ _ (Ext.refl _) rfl
    .intro A r t o R d;have f0:=t.cell HC.out;go_simp;exact d _ _ (Ext.refl _) rfl
    .intro A r t o R d;go_simp;exact d _ _ (Ext.refl _) fc.out
    .intro A r t o R d;go_simp;exact d _ _ (Ext.refl _) n3.out
    iterate 2 · intro A r t;intros;rename_i d;go_simp;exact d _ _ (Ext.refl _) rfl
    .intro A r t o R d;obtain⟨E,C⟩:=o;go_simp;exact d _ _ (Ext.refl _) rfl
    .intro A r t o R d;have f0:=t.cell HC.out;go_simp;exact d _ _ (Ext.refl _) rfl
    .intro A r t o R d;go_simp;exact d _ _ (Ext.refl _) nC.out
    .intro A r t o R d;go_simp;exact d _ _ (Ext.refl _) n5.out
    iterate 2 · intro A r t;intros;rename_i d;go_simp;exact d _ _ (Ext.refl _) rfl
    .intro A r t o R d;obtain⟨E,C⟩:=o;go_simp;exact d _ _ (Ext.refl _) rfl
    .intro A r t o R d;have f0:=t.cell HC.out;go_simp;exact d _ _ (Ext.refl _) rfl
    .intro A r t o R d;go_simp;exact d _ _ (Ext.refl _) fe.out
    .intro A r t o R d;go_simp;exact d _ _ (Ext.refl _) n6.out
    iterate 2 · intro A r t;intros;rename_i d;go_simp;exact d _ _ (Ext.refl _) rfl
    .intro A r t o R d;obtain⟨E,C⟩:=o;go_simp;exact d _ _ (Ext.refl _) rfl
    .intro A r t o R d;have f0:=t.cell HC.out;go_simp;exact d _ _ (Ext.refl _) rfl
    .intro A r t o R d;go_simp;exact d _ _ (Ext.refl _) n7.out
    .intro A r t o R d;obtain⟨E,C,p',qa⟩:=o;go_simp;exact d _ _ ((Ext.refl _).alloc _) ⟨_,rfl,t.size,ab _ _⟩
   intro A wz Z o;simp only[aP,Nat.zero_add,Nat.reduceAdd,and_true]at o;have n8:=o.2.2.2.2.2.2.2.2.2.2.2.2.2.2.2.2.2.2.2.2.2.2.2.2;simp(maxSteps:=1000000)only[List.take_succ_cons,List.take_zero,List.drop_succ_cons,List.drop_zero,aa,Act.put,List.setIfInBounds_toArray,List.set_cons_zero,List.set_cons_succ,Nat.zero_add,Nat.reduceAdd,o];clear o;generalize A 24=qb at *;obtain⟨g,rfl,qc,n'⟩:=n8;have c4:=al cc.out Z;have eh:=gr.out.trans Z
   go_wp2_with (at_builtin;refine dH rfl _ _ rfl wl.heap.size _ (4*j) _ rfl c4 g 4 4 [b1,b2,b3,b4] rfl rfl n' (by omega) eh.size ?_;intro v' w6 g5 oa)
   go_roundw
   case rel =>
    refine⟨j+1,by omega,by go_num,?_,ai eh c4 oa⟩;have h9:(D.take (j+1)).flatMap ed=(D.take j).flatMap ed++[b1,b2,b3,b4]:=by
     rw[List.take_add_one,List.flatMap_append,List.getElem?_eq_getElem (by rw[bx.out];exact H)];congr 1;have h8:D[j]'(by rw[bx.out];exact H)=x:=by
      rw[<-n1.out,List.getD_eq_getElem?_getD,List.getElem?_eq_getElem (by rw[bx.out];exact H)];rfl
     rw[h8];simpa using eg.out
    rw[h9];exact g5
   case measure=>simp[intOf];omega
  have ob:j=8:=by omega
  subst ob;go_wp2_with fail;go_ret;have h9:=cc.out.mono (base':=w.heap.size) go.out.size;rw[List.take_of_length_le (by rw[bx.out];omega),<-d7.out]at h9;exact⟨⟨_,rfl,h9⟩,go.out.trans gr.out⟩
end
section
open Go Go.RowKit
theorem kN (v:Value) (l:B8) (w:World) (M:IsBytes w v l) (hl:l.length<=30000000) :
  Calls Tryz.prog 137 #[v] w fun e F=>e=.returned (S8 (bX l))/\Ext w F:=by
 obtain⟨a,U,rfl,N,O,H,P⟩:=M.get;have V:Hid _:=P;clear P M;go_enter Tryz.func137,Tryz.ntmps137;go_wp2;go_loopw [4,5] (fun v i wr=>∃k:Nat,k<=l.length/\i=.int .i64 k/\wr.ownsRow w.heap.size 5 1 v (2*k) ((bX (l.take k)).map fun x=>.int .u8 x.toNat)/\Ext w wr) (fun _ i _=>l.length - (intOf i).toNat)
 case atStart=>exact⟨0,Nat.zero_le _,rfl,World.ownsRow_nil _ _ _ _,Ext.refl _⟩
 case round =>
  obtain⟨k,d,rfl,n,G⟩:=hrel
  by_cases A:k<l.length
  .obtain ⟨b,o,rfl,Q⟩:=V.out k A;have B:=G.cell (Q k A);clear Q;generalize S:l.getD k 0=y at B;have W:Hid _:=S;clear S;have C:y.toNat<256:=y.toNat_lt;have T:bits BinOp.and IntKind.u8 (y.toNat:Int) 15=((y.toNat%16:Nat):Int):=zy _ C;have X:Hid _:=T;clear T;go_upto_region 6 with fail;apply aj 16 [_,_,_,_,.pointer (some ⟨b,o+k,none⟩),.int .u8 y.toNat,_,.int .u8 (aR.getD (y.toNat / 16) 0).toNat,_,_,_,.pointer (some ⟨b,o+k,none⟩),.int .u8 y.toNat,_,.int .u8 (aR.getD (y.toNat%16) 0).toNat,undef] [none,none,none,none,none,none,none,none,none,none,none,none,none,none,none,some (fun u F=>∃g,u=.slice (some ⟨g,0,none⟩) 2 2/\wr.heap.size<=g/\F.heap[g]? = some (.cells #[.int .u8 (aR.getD (y.toNat / 16) 0).toNat,.int .u8 (aR.getD (y.toNat%16) 0).toNat] 5 (0,0)))] [[],[],[],[],[2,3],[4],[5],[1,6],[],[],[],[9,10],[11],[12],[8,13],[7,14]] (by kernel_rfl) (by kernel_rfl) (by simp[ak])
   .refine ⟨?_,trivial⟩
    .exact fun u w F Y ⟨g,N,O,H⟩=>⟨g,N,O,(Y.block g (Array.getElem?_eq_some_iff.1 H).1).trans H⟩
   .simp (maxSteps:=1000000)only[List.take_succ_cons,List.take_zero,aw,aA,aa,Act.put,List.setIfInBounds_toArray,List.set_cons_zero,List.set_cons_succ,aK,aO,ak,List.getD_cons_zero,List.getD_cons_succ,and_true,true_and,forall_const];and_intros
    iterate 4 · intro j r h;intros;rename_i c;go_simp;exact c _ _ (Ext.refl _) rfl
    .intro j r h d R c;obtain⟨t,z⟩:=d;go_simp;exact c _ _ (Ext.refl _) rfl
    .intro j r h d R c;have Z:=h.cell B;go_simp;exact c _ _ (Ext.refl _) rfl
    .intro j r h;intros;rename_i c;go_simp;exact c _ _ (Ext.refl _) rfl
    .intro j r h d R c;obtain⟨t,z⟩:=d;go_simp;rw[dif_pos ⟨by omega,by omega⟩];exact c _ _ (Ext.refl _) (uV y (by omega))
    iterate 3 · intro j r h;intros;rename_i c;go_simp;exact c _ _ (Ext.refl _) rfl
    .intro j r h d R c;obtain⟨t,z⟩:=d;go_simp;exact c _ _ (Ext.refl _) rfl
    .intro j r h d R c;have Z:=h.cell B;go_simp;exact c _ _ (Ext.refl _) rfl
    .intro j r h;intros;rename_i c;go_simp;exact c _ _ (Ext.refl _) rfl
    .intro j r h d R c;obtain⟨t,z⟩:=d;go_simp;rw[X.out,dif_pos ⟨by omega,by omega⟩];exact c _ _ (Ext.refl _) (uW y (by omega))
    .intro j r h d R c;obtain⟨t,z⟩:=d;go_simp;exact c _ _ ((Ext.refl _).alloc _) ⟨_,rfl,h.size,ab _ _⟩
   intro j w2 D d;simp only[aP,Nat.zero_add,Nat.reduceAdd,and_true]at d;have I:=d.2.2.2.2.2.2.2.2.2.2.2.2.2.2.2;simp(maxSteps:=1000000)only[List.take_succ_cons,List.take_zero,List.drop_succ_cons,List.drop_zero,aa,Act.put,List.setIfInBounds_toArray,List.set_cons_zero,List.set_cons_succ,Nat.zero_add,Nat.reduceAdd,d];clear d;generalize j 15=ad at *;obtain⟨g,rfl,au,J⟩:=I;have p:=al n D;have q:=jV (l.take k)
   go_wp2_with (at_builtin;refine dH rfl _ _ rfl w.heap.size _ (2*k) _ rfl p g 2 2 [aR.getD (y.toNat / 16) 0,aR.getD (y.toNat%16) 0] rfl rfl J (by omega) (by have:=(G.trans D).size;exact this) ?_;intro v' w3 E K)
   go_roundw
   case rel=>exact⟨k+1,by omega,by go_num,by rw[qr A W.out];exact E,ai (G.trans D) p K⟩
   case measure=>simp[intOf];omega
  .have L:k=l.length:=by omega
   subst L;rw[List.take_length]at n;have q:=jV l;have a0:=dr (l:=bX l) (by unfold IsBytes;rw[q];exact Row.BM n (by omega));clear q;go_wp2;go_ret;exact⟨rfl,G⟩
end
section
open Go Go.RowKit
theorem oL (v:Value) (l:B8) (w:World) (h:IsBytes w v l) (k:l.length<=10000000) :
  Calls Tryz.prog 81 #[v] w fun e n=>e=.returned (S8 (aV l))/\Ext w n:=by
 have o:Hid (IsBytes w v l):=h;clear h;go_enter Tryz.func81,Tryz.ntmps81
 go_wp2_with (first
  | (go_at_call 138;go_must (refine(yS v l w o.out k).mono ?_;rintro e i ⟨⟨j,rfl,a⟩,b⟩;have c:=sL l;have d:IsBytes i j (fE l):=by unfold IsBytes;rw[c];exact Row.BM a (by omega)))
  | (go_at_call 137;go_must (refine(kN j (fE l) i d (by omega)).mono ?_;rintro e p ⟨rfl,g⟩)))
 go_ret;exact⟨rfl,b.trans g⟩
end
section
open Go Go.RowKit
def fN (c:UInt8):Int:=if 48<=c.toNat/\c.toNat<=57 then c.toNat - 48 else if 97<=c.toNat/\c.toNat<=102 then c.toNat - 87 else -1
theorem yT:∀n:Fin 256,fN (UInt8.ofNat n.val)=if bn (UInt8.ofNat n.val)<16 then(bn (UInt8.ofNat n.val):Int)else -1:=by decide +kernel
theorem wJ (c:UInt8):fN c=if bn c<16 then(bn c:Int)else -1:=by
 have:=yT ⟨c.toNat,c.toNat_lt⟩;simpa using this
theorem pL (c:UInt8) (w:World) :
  Calls Tryz.prog 204 #[.int .u8 c.toNat] w fun e h=>e=.returned (.int .i64 (fN c))/\h=w:=by
 have o:=c.toNat_lt
 by_cases i:48<=c.toNat
 .by_cases j:c.toNat<=57
  .have a:Hid (fN c=(c.toNat:Int) - 48):=by unfold Hid fN;rw[if_pos ⟨i,j⟩]
   have b:(48:Int)<=c.toNat:=by omega
   have d:(c.toNat:Int)<=57:=by omega
   go_enter Tryz.func204,Tryz.ntmps204;go_wp2;go_ret;exact⟨by rw[a.out];first | rfl | (congr 2;omega),rfl⟩
  .by_cases k:97<=c.toNat
   .by_cases l:c.toNat<=102
    .have a:Hid (fN c=(c.toNat:Int) - 97+10):=by unfold Hid fN;rw[if_neg (show ¬(48<=c.toNat/\c.toNat<=57)by omega),if_pos ⟨k,l⟩];omega
     have b:(48:Int)<=c.toNat:=by omega
     have d:¬(c.toNat:Int)<=57:=by omega
     have g:(97:Int)<=c.toNat:=by omega
     have n:(c.toNat:Int)<=102:=by omega
     go_enter Tryz.func204,Tryz.ntmps204;go_wp2;go_ret;exact⟨by rw[a.out];first | rfl | (congr 2;omega),rfl⟩
    .have a:Hid (fN c = -1):=by unfold Hid fN;rw[if_neg (show ¬(48<=c.toNat/\c.toNat<=57)by omega),if_neg (show ¬(97<=c.toNat/\c.toNat<=102)by omega)]
     have b:(48:Int)<=c.toNat:=by omega
     have d:¬(c.toNat:Int)<=57:=by omega
     have g:(97:Int)<=c.toNat:=by omega
     have n:¬(c.toNat:Int)<=102:=by omega
     go_enter Tryz.func204,Tryz.ntmps204;go_wp2;go_ret;exact⟨by rw[a.out];rfl,rfl⟩
   .have a:Hid (fN c = -1):=by unfold Hid fN;rw[if_neg (show ¬(48<=c.toNat/\c.toNat<=57)by omega),if_neg (show ¬(97<=c.toNat/\c.toNat<=102)by omega)]
    have b:(48:Int)<=c.toNat:=by omega
    have d:¬(c.toNat:Int)<=57:=by omega
    have g:¬(97:Int)<=c.toNat:=by omega
    go_enter Tryz.func204,Tryz.ntmps204;go_wp2;go_ret;exact⟨by rw[a.out];rfl,rfl⟩
 .have a:Hid (fN c = -1):=by unfold Hid fN;rw[if_neg (show ¬(48<=c.toNat/\c.toNat<=57)by omega),if_neg (show ¬(97<=c.toNat/\c.toNat<=102)by omega)]
  have b:¬(48:Int)<=c.toNat:=by omega
  have g:¬(97:Int)<=c.toNat:=by omega
  go_enter Tryz.func204,Tryz.ntmps204;go_wp2;go_ret;exact⟨by rw[a.out];rfl,rfl⟩
theorem mw (l:B8) (w:World) (hl:l.length<=140737488355328) :
  Calls Tryz.prog 148 #[S8 l] w (de l w):=by
 have hd:(⟨l.toArray⟩:ByteArray).toList=l:=Lib.toList_data _
 by_cases t:l.length%2=0
 .obtain ⟨m,D⟩:∃m,l.length=2*m:=⟨l.length / 2,by omega⟩;have u:(l.length:Int).tmod 2=0:=by
   rw[D];exact Int.tmod_eq_zero_of_dvd ⟨(m:Int),by push_cast;rfl⟩
  have HM:Hid _:=D;clear t;go_enter Tryz.func148,Tryz.ntmps148;go_wp2;clear u;go_loopw [4,5] (fun v i wr=>∃(k:Nat) (B:B8),2*k<=l.length/\i=.int .i64 (2*k)/\B.length=k/\Hid (aW (l.take (2*k))=some B)/\wr.ownsRow w.heap.size 5 1 v k (B.map fun x=>.int .u8 x.toNat)/\Ext w wr) (fun _ i _=>l.length - (intOf i).toNat)
  case atStart=>exact⟨0,[],Nat.zero_le _,rfl,rfl,rfl,World.ownsRow_nil _ _ _ _,Ext.refl _⟩
  case round =>
   obtain⟨k,B,q,rfl,E,O,d,hx⟩:=hrel;have D:=HM.out
   by_cases a9:2*k<l.length
   .have n:2*k+1<l.length:=by omega
    have a':2*(k:Int)<(l.length:Int):=by omega
    have bb:(2*(k:Int)+1)<(l.length:Int):=by omega
    have F:IntKind.i64.wrap (2*(k:Int)+1)=2*(k:Int)+1:=IntWalk.i64_in _ (by omega);have HW:Hid _:=F;obtain⟨x,G⟩:∃x,l.getD (2*k) 0=x:=⟨_,rfl⟩;obtain⟨y,H⟩:∃y,l.getD (2*k+1) 0=y:=⟨_,rfl⟩;have P:Hid _:=G;have Q:Hid _:=H;obtain⟨r,S⟩:∃r,fN x=r:=⟨_,rfl⟩;obtain⟨s,T⟩:∃s,fN y=s:=⟨_,rfl⟩;have U:Hid _:=S;have V:Hid _:=T;have a:=wJ x;have b:=wJ y;rw[S]at a;rw[T]at b;have W:Hid _:=a;have X:Hid _:=b;clear F D G H S T a b;go_wp2;apply aj 9 [_,_,.int .u8 x.toNat,.int .i64 r,_,_,_,.int .u8 y.toNat,.int .i64 s] [none,none,none,none,none,none,none,none,none] [[],[],[0,1],[2],[],[],[5],[4,6],[7]] (by kernel_rfl) (by kernel_rfl) (by simp[ak])
    .trivial
    .simp (maxSteps:=1000000)only[List.take_succ_cons,List.take_zero,aw,aA,aa,Act.put,List.setIfInBounds_toArray,List.set_cons_zero,List.set_cons_succ,aK,aO,ak,List.getD_cons_zero,List.getD_cons_succ,and_true,true_and,forall_const];and_intros
     iterate 2 · intro C I J;intros;rename_i o;go_simp;exact o _ _ (Ext.refl _) rfl
     .intro C I J q R o;obtain⟨Y,Z⟩:=q;go_simp;rw[dif_pos (by omega)];exact o _ _ (Ext.refl _) (lQ (by omega) P.out (by show(2*(k:Int)).toNat<l.length;omega))
     .intro C I J q R o;go_simp;exact(pL x _).mono (by rintro e w8 ⟨rfl,rfl⟩;exact⟨_,rfl,o _ _ (Ext.refl _) (by rw[U.out])⟩)
     iterate 3 · intro C I J;intros;rename_i o;go_simp;exact o _ _ (Ext.refl _) rfl
     .intro C I J q R o;obtain⟨Y,Z⟩:=q;go_simp;simp only[HW.out];rw[dif_pos ⟨by omega,by omega⟩];exact o _ _ (Ext.refl _) (lQ (by omega) Q.out (by show(2*(k:Int)+1).toNat<l.length;omega))
     .intro C I J q R o;go_simp;exact(pL y _).mono (by rintro e w8 ⟨rfl,rfl⟩;exact⟨_,rfl,o _ _ (Ext.refl _) (by rw[V.out])⟩)
    intro C w2 K q;simp only[aP,Nat.zero_add,Nat.reduceAdd,and_true]at q;simp(maxSteps:=1000000)only[List.take_succ_cons,List.take_zero,List.drop_succ_cons,List.drop_zero,aa,Act.put,List.setIfInBounds_toArray,List.set_cons_zero,List.set_cons_succ,Nat.zero_add,Nat.reduceAdd,q];clear q;have a:=W.out;have b:=X.out;have g:=Ext.trans hx K
    by_cases c:bn x<16
    .rw [if_pos c]at a
     by_cases j:bn y<16
     .rw [if_pos j]at b;obtain⟨z,hz⟩:∃z,UInt8.ofNat (16*bn x+bn y)=z:=⟨_,rfl⟩;have ad:16*r+s=(z.toNat:Int):=by
       rw[a,b,<-hz];simp only[UInt8.toNat_ofNat'];omega
      have bd:IntKind.i64.wrap (16*r)=16*r:=IntWalk.i64_in _ (by omega);have au:IntKind.i64.wrap (16*r+s)=16*r+s:=IntWalk.i64_in _ (by omega);rw[ad]at au;have a0:=z.toNat_lt;have HZ:Hid _:=hz;have L:¬r<0:=by omega
      have a1:¬s<0:=by omega
      have a7:r<16:=by omega
      have a8:s<16:=by omega
      have a2:Hid _:=c;have a3:Hid _:=j;have p:=al d K;have bh:=g.size;clear a b hz c j d
      go_wp2_with (at_builtin;go_must (refine dH rfl _ _ rfl w.heap.size _ k _ rfl (p.alloc _) w2.heap.size 1 1 [z] rfl rfl (ab _ _) (by omega) (by simp;omega) ?_;intro v' w3 A a4))
      go_roundw
      case rel=>exact⟨k+1,B++[z],by omega,by go_num,by simp[E],by unfold Hid;rw[(kh n P.out Q.out O.out).2,if_pos ⟨a2.out,a3.out⟩,HZ.out],by simpa using A,ai (g.alloc _) (p.alloc _) a4⟩
      case measure=>simp[intOf];omega
     .rw [if_neg j]at b;have M:Hid _:=iA n P.out Q.out O.out (fun h=>j h.2);have L:¬r<0:=by omega
      have a1:s<0:=by omega
      clear a b c j;go_wp2;go_ret2;unfold de;rw[M.out];exact⟨rfl,g⟩
    .rw [if_neg c]at a;have M:Hid _:=iA n P.out Q.out O.out (fun h=>c h.1);have L:r<0:=by omega
     clear a b c;go_wp2;go_ret2;unfold de;rw[M.out];exact⟨rfl,g⟩
   .have hg:¬(2*(k:Int))<(l.length:Int):=by omega
    have N:2*k=l.length:=by omega
    have hu:=O.out;rw[N,List.take_length]at hu;have a5:Hid _:=hu;have hb:IsBytes wr u4 B:=by
     unfold IsBytes;rw[E];exact Row.BM d (by omega)
    have a6:Hid _:=hb;clear hb d hu N D;go_wp2;go_ret2;unfold de;rw[a5.out];exact⟨⟨_,rfl,a6.out⟩,hx⟩
 .have ho:l.length%2=1:=by omega
  have u:(l.length:Int).tmod 2=1:=by rw[Int.tmod_eq_emod_of_nonneg (by omega)];omega
  have M:Hid _:=oW ho;clear t ho;go_enter Tryz.func148,Tryz.ntmps148;go_wp2;go_ret2;unfold de;rw[M.out];exact⟨rfl,Ext.refl _⟩
theorem fo (l:B8) (w:World) (q:l.length<=140737488355328) :
  Calls Tryz.prog 87 #[S8 l] w fun e r=>e=.returned (.bool (av l))/\Ext w r:=by
 go_enter Tryz.func87,Tryz.ntmps87;go_wp2_with fail;go_at_call 148;refine(mw l w q).mono ?_;rintro e u ⟨h,n⟩;have i:Hid (av l=match aW l with | some b=>b.length==32 | none=>false):=rfl
 cases a:aW l with
 | none =>
  rw[a]at h;have j:Hid (av l=false):=by unfold Hid;rw[i.out,a]
  subst h;clear a i;go_wp2;go_ret;exact⟨by rw[j.out];rfl,n⟩
 | some b =>
  rw[a]at h;obtain⟨v,rfl,o⟩:=h;obtain⟨x,y,rfl,-⟩:=id o;have p:av l=(b.length==32):=by rw[i.out,a]
  have c:=(dE l a).1;have d:(((b.length:Nat):Int)==32)=av l:=by
   rw[p]
   by_cases g:b.length=32
   .rw [g];rfl
   .have t:(b.length==32)=false:=by simpa using g
    rw[t];simp only[beq_eq_false_iff_ne,ne_eq];omega
  have k:Hid _:=d;clear a i p o d c;go_wp2;go_ret;exact⟨by rw[<-k.out];rfl,n⟩
end
section
open Go Go.RowKit
variable [Inhabited bc]
theorem tL {id:B8} (h:av id=true):id.length=64:=by
 unfold av at h
 cases a:aW id with
 | none=>rw[a]at h;cases h
 | some b =>
  rw[a]at h;have c:=(dE id a).1;have:b.length=32:=by simpa using h
  omega
variable {w:World}
theorem rx {a:Fi} {c:Option Addr} {d:Nat}:∀b,b=(w.alloc (.cells #[.int .i64 0,.slice none 0 0,.int .i64 0] 114)).setRow w.heap.size #[.int .i64 a.mode,.slice c a.data.length d,.int .i64 a.time] ->
  b.heap[w.heap.size]? = some (.cells #[.int .i64 a.mode,.slice c a.data.length d,.int .i64 a.time] 114 (0,0))/\Ext w b:=fun b e=>by
 subst e;exact⟨setRow_heap _ _ _ _ _ _ (ab _ _),Ext.but ((Ext.refl _).alloc _) (ae _ _ _) (Nat.le_refl _)⟩
variable {w0:World} {x:Value} {gy k:Nat} {m:Fs} {n:Int}
theorem m5 {O:Nat->Prop} (id:B8) (h:Sr w0 O w x gy m n) (hg:Good k m) (hk:k<=60000) (hid:id.length<=10000000) (a':0<=n) (bb:n<=100000) :
  Calls Tryz.prog 36 #[.pointer (some ⟨gy,0,none⟩),S8 id] w fun e w'=>(∃v,e=.returned (.tuple #[v,.int .i64 (bB m id).2.2])/\IsBytes w' v (bB m id).2.1/\TypB w' v)/\SrPost w0 O x gy (bB m id).1 (ch n id) w w':=by
 have H:Hid (Sr w0 O w x gy m n):=h;have HG:Hid (Good k m):=hg;obtain⟨vb,P⟩:∃c,av id=c:=⟨_,rfl⟩;have i:Hid _:=P;obtain⟨⟨Q,R,S⟩,D⟩:∃q,bB m id=q:=⟨_,rfl⟩;have E:Hid _:=D;rw[D];obtain⟨n2,F⟩:∃x,ch n id=x:=⟨_,rfl⟩;have T:Hid _:=F;rw[F];clear h hg D P F;go_enter Tryz.func36,Tryz.ntmps36;go_wp2_with fail;go_at_call 87;refine(fo id w (by omega)).mono ?_;rw[i.out];rintro e9 w1 ⟨rfl,U⟩;have G:Hid (Ext w w1):=U;clear U
 cases vb with
 | false =>
  obtain⟨rfl,rfl,rfl⟩:m=Q/\[]=R/\6=S:=by
   have j:=E.out;unfold bB at j;rw[if_pos i.out]at j;have d:=Prod.mk.inj j;exact⟨d.1,(Prod.mk.inj d.2).1,(Prod.mk.inj d.2).2⟩
  have V:n2=n:=by rw[<-T.out];unfold ch;rw[i.out];rfl
  have W:Hid _:=V;clear V;go_wp2;go_ret2;exact⟨⟨_,rfl,IsBytes.nil _,TypB.nil _ _ _⟩,by rw[W.out];exact SrPost.refl H.out G.out⟩
 | true =>
  have bq:=tL i.out;have V:n2=n+1:=by rw[<-T.out];unfold ch;rw[i.out];rfl
  have W:Hid _:=V;obtain⟨⟨l,a,u⟩,hr⟩:∃q,aE m (ar id)=q:=⟨_,rfl⟩;have X:bB m id=if u≠0 then(l,[],u)else if aV a.data≠id then(l,[],5)else(l,a.data,0):=by
   unfold bB;rw[if_neg (by rw[i.out];simp),hr]
  have Y:Hid _:=X;have I:=pK (ar id) (H.out.more G.out) HG.out hk (by unfold ar;simp;omega) a' bb;have Z:=je (p:=ar id) HG.out.ok HG.out.plan;rw[hr]at I Z;simp only at Z;have bd:Hid _:=I;clear hr I X V;go_wp2_with fail;go_at_call 82;refine Calls.mono bd.out ?_;rintro e9 y ⟨⟨v2,rfl,J,ad⟩,au⟩;obtain⟨z,A,rfl,-⟩:=_root_.id J;have a0:Hid (IsBytes y (.slice z a.data.length A) a.data):=J;have a1:Hid (TypB y (.slice z a.data.length A)):=ad;have a2:Hid (SrPost w0 O x gy l (n+1) w y):=SrPost.pre H.out G.out au;clear J ad au;go_upto_region 4 with(refine wpList_store_row rfl 114 (.tmp 6) (.tmp 16) rfl y.heap.size #[.int .i64 a.mode,.slice z a.data.length A,.int .i64 a.time] rfl rfl 114 _ (ab _ _) ck rfl (by simp[Value.oneCell']) ?_);obtain⟨B,K⟩:∃B,B=(y.alloc (.cells #[.int .i64 0,.slice none 0 0,.int .i64 0] 114)).setRow y.heap.size #[.int .i64 a.mode,.slice z a.data.length A,.int .i64 a.time]:=⟨_,rfl⟩;rw[<-K];obtain⟨L,o⟩:=rx B K;obtain⟨c0,c1,c2⟩:=bE L;have br:Hid (Ext y B):=o;have M:Hid (SrPost w0 O x gy l (n+1) w B):=a2.out.ext o;have N:Hid (IsBytes B (.slice z a.data.length A) a.data):=IsBytes.ext a0.out o;have a3:Hid (TypB B (.slice z a.data.length A)):=a1.out.keep (KeepB.BO o);have a4:Hid _:=L;obtain⟨gf,a5⟩:∃g,y.heap.size=g:=⟨_,rfl⟩;rw[a5]at c0 c1 c2 a4 ⊢;clear K L o a5 a2 a0 a1
  by_cases b:u=0
  case neg =>
   have a6:(u==0)=false:=by simpa using b
   have a7:(u != 0)=true:=by simpa using b
   obtain⟨rfl,rfl,rfl⟩:l=Q/\[]=R/\u=S:=by
    have j:=Y.out;rw[E.out,if_pos b]at j;have d:=Prod.mk.inj j;exact⟨d.1.symm,(Prod.mk.inj d.2).1.symm,(Prod.mk.inj d.2).2.symm⟩
   clear b;go_wp2;go_ret2;exact⟨⟨_,rfl,IsBytes.nil _,TypB.nil _ _ _⟩,by rw[W.out];exact M.out⟩
  have a6:(u==0)=true:=by simpa using b
  have a7:(u != 0)=false:=by simpa using b
  have r:Hid ((Q,R,S)=if aV a.data≠id then(l,[],5)else(l,a.data,0)):=by
   unfold Hid;rw[<-E.out,Y.out,if_neg (by simpa using b)]
  subst b;go_wp2_with fail;go_at_call 81;refine(oL _ a.data B N.out (by omega)).mono ?_;rintro e9 w4 ⟨rfl,t⟩;have a8:Hid (SrPost w0 O x gy l (n+1) w w4):=M.out.ext t;have bh:Hid (IsBytes w4 (.slice z a.data.length A) a.data):=IsBytes.ext N.out t;have bk:Hid (TypB w4 (.slice z a.data.length A)):=a3.out.keep (KeepB.BO t);obtain⟨f0,f1,f2⟩:=bE (Ext.row t a4.out);clear t M N a3 c0 c1 c2;obtain⟨sx,a9⟩:∃s,aV a.data=s:=⟨_,rfl⟩;rw[a9]at r ⊢;clear a9
  by_cases C:sx=id
  .have bl:(sx==id)=true:=by simpa using C
   have bo:(sx != id)=false:=by simpa using C
   obtain⟨rfl,rfl,rfl⟩:l=Q/\a.data=R/\0=S:=by
    have j:=r.out;rw[if_neg (by simpa using C)]at j;have d:=Prod.mk.inj j;exact⟨d.1.symm,(Prod.mk.inj d.2).1.symm,(Prod.mk.inj d.2).2.symm⟩
   clear C;go_wp2;go_ret2;exact⟨⟨_,rfl,bh.out,bk.out⟩,by rw[W.out];exact a8.out⟩
  .have bl:(sx==id)=false:=by simpa using C
   have bo:(sx != id)=true:=by simpa using C
   obtain⟨rfl,rfl,rfl⟩:l=Q/\[]=R/\5=S:=by
    have j:=r.out;rw[if_pos C]at j;have d:=Prod.mk.inj j;exact⟨d.1.symm,(Prod.mk.inj d.2).1.symm,(Prod.mk.inj d.2).2.symm⟩
   clear C;go_wp2;go_ret2;exact⟨⟨_,rfl,IsBytes.nil _,TypB.nil _ _ _⟩,by rw[W.out];exact a8.out⟩
theorem yU {O:Nat->Prop} (id:B8) (h:Sr w0 O w x gy m n) (o:Good k m) (t:k<=60000) (hid:id.length<=10000000) (d:0<=n) (g:n<=100000) :
  Calls Tryz.prog 40 #[.pointer (some ⟨gy,0,none⟩),S8 id] w fun e u=>e=.returned (.bool (kK m id))/\SrPost w0 O x gy (bB m id).1 (ch n id) w u:=by
 have i:Hid _:=m5 id h o t hid d g;obtain⟨⟨A,B,j⟩,a⟩:∃q,bB m id=q:=⟨_,rfl⟩;have p:kK m id=decide (j=0):=by unfold kK;rw[a]
 rw[p];rw[a]at i ⊢;obtain⟨y,l⟩:∃b,(j==0)=b:=⟨_,rfl⟩;have c:decide (j=0)=y:=by rw[<-l];rfl
 rw[c];clear p a h o c;go_enter Tryz.func40,Tryz.ntmps40;go_wp2_with fail;go_at_call 36;refine Calls.mono i.out ?_;rintro C D ⟨⟨v,rfl,-,-⟩,r⟩;have z:Hid _:=r;clear r i;go_wp2;go_ret;exact⟨rfl,z.out⟩
theorem wK {O:Nat->Prop} (id:B8) (h:Sr w0 O w x gy m n) (A:Good k m) (D:k<=60000) (hid:id.length<=10000000) :
  Calls Tryz.prog 43 #[.pointer (some ⟨gy,0,none⟩),S8 id] w fun e E=>e=.returned (.int .i64 (du m id).2)/\SrPost w0 O x gy (du m id).1 n w E:=by
 have H:Hid (Sr w0 O w x gy m n):=h;have F:Hid (Good k m):=A;obtain⟨g,rfl⟩:∃g,x=.pointer (some ⟨g,0,none⟩):=h.ref.ptr;obtain⟨G,j⟩:∃c,av id=c:=⟨_,rfl⟩;have a:Hid _:=j;obtain⟨⟨B,C⟩,d⟩:∃q,du m id=q:=⟨_,rfl⟩;have l:Hid _:=d;rw[d];clear h A d j;go_enter Tryz.func43,Tryz.ntmps43;go_wp2_with fail;go_at_call 87;refine(fo id w (by omega)).mono ?_;rw[a.out];rintro J t ⟨rfl,o⟩;have i:Hid (Ext w t):=o;clear o
 cases G with
 | false =>
  obtain⟨rfl,rfl⟩:m=B/\6=C:=by
   have b:=l.out;unfold du at b;rw[if_pos a.out]at b;exact⟨(Prod.mk.inj b).1,(Prod.mk.inj b).2⟩
  go_wp2;go_ret;exact⟨rfl,SrPost.refl H.out i.out⟩
 | true =>
  have I:=tL a.out;have u:Hid (bz m (ar id)=(B,C)):=by
   have b:=l.out;unfold du at b;rw[if_neg (by rw[a.out];simp)]at b;exact b
  have y:Hid (Sr w0 O t (.pointer (some ⟨g,0,none⟩)) gy m n):=H.out.more i.out;have K:t.cell? ⟨gy,0,none⟩=some (.pointer (some ⟨g,0,none⟩)):=(cell_of_row _ _ 0 _ _ _ y.out.row).trans rfl;have p:Hid _:=jS (ar id) (Sr.BW y.out F.out D) (by unfold ar;simp;omega);rw[u.out]at p;go_wp2_with fail;go_at_call 94;refine Calls.mono p.out ?_;rintro e L ⟨rfl,r⟩;have z:Hid _:=SrPost.pre H.out i.out (Sr.post y.out r);clear r;go_wp2;go_ret;exact⟨rfl,z.out⟩
theorem uC {O:Nat->Prop} (h:Sr w0 O w x gy m n) (y:Good k m) (B:k<=60000) :
  Calls Tryz.prog 45 #[.pointer (some ⟨gy,0,none⟩)] w fun e C=>e=.returned (.int .i64 (dZ m).2)/\SrPost w0 O x gy (dZ m).1 n w C:=by
 have H:Hid (Sr w0 O w x gy m n):=h;obtain⟨g,rfl⟩:∃g,x=.pointer (some ⟨g,0,none⟩):=h.ref.ptr;have E:w.cell? ⟨gy,0,none⟩=some (.pointer (some ⟨g,0,none⟩)):=(cell_of_row _ _ 0 _ _ _ h.row).trans rfl;obtain⟨⟨j,d⟩,a⟩:∃q,bz m bL=q:=⟨_,rfl⟩;have b:dZ m=if d≠7 then(j,d)else(j,0):=by unfold dZ;rw[a]
 have l:Hid _:=jS bL (Sr.BW H.out y B) (by decide);rw[a]at l;obtain⟨⟨z,A⟩,o⟩:∃q,dZ m=q:=⟨_,rfl⟩;rw[o]at b ⊢;have p:Hid _:=b;clear h y a o b;go_enter Tryz.func45,Tryz.ntmps45;go_wp2_with fail;go_at_call 94;refine Calls.mono l.out ?_;rintro e D ⟨rfl,r⟩;have t:Hid (SrPost w0 O (.pointer (some ⟨g,0,none⟩)) gy j n w D):=Sr.post H.out r;clear r
 by_cases i:d=7
 .have u:(d==7)=true:=by simpa using i
  obtain⟨rfl,rfl⟩:j=z/\0=A:=by
   have c:=p.out;rw[if_neg (by simpa using i)]at c;exact⟨(Prod.mk.inj c).1.symm,(Prod.mk.inj c).2.symm⟩
  subst i;go_wp2;go_ret;exact⟨rfl,t.out⟩
 .have u:(d==7)=false:=by simpa using i
  obtain⟨rfl,rfl⟩:j=z/\d=A:=by
   have c:=p.out;rw[if_pos i]at c;exact⟨(Prod.mk.inj c).1.symm,(Prod.mk.inj c).2.symm⟩
  clear i;go_wp2;go_ret;exact⟨rfl,t.out⟩
end
section
open Go Go.RowKit
variable [Inhabited bc]
def oM (n:Int) (b:B8):Int:=if 20000<b.length then n else n+1
theorem ry {u w:World} {O:Nat->Prop} {x:Value} {j:Nat} {m:Fs} {n:Int} {k:Nat} (v:Value) (b:B8) (h:Sr u O w x j m n) (hg:Good k m) (I:k<=59900) (hv:Arg u w v b) (hl:b.length<=140737488355328) (cp:0<=n) (cq:n<=100000) :
  Calls Tryz.prog 30 #[.pointer (some ⟨j,0,none⟩),v] w fun e w'=>e=.returned (.tuple #[S8 (bM m b).2.1,.int .i64 (bM m b).2.2])/\SrPost u O x j (bM m b).1 (oM n b) w w':=by
 have H:Hid (Sr u O w x j m n):=h;have HG:Hid (Good k m):=hg;have HA:Hid (Arg u w v b):=hv;obtain⟨g,rfl⟩:∃g,x=.pointer (some ⟨g,0,none⟩):=h.ref.ptr;obtain⟨s0,t0,rfl,-⟩:=id (hv.bytes h.ext);obtain⟨⟨B,C,D⟩,a'⟩:∃q,bM m b=q:=⟨_,rfl⟩;have bb:Hid _:=a';obtain⟨nn,bd⟩:∃q,oM n b=q:=⟨_,rfl⟩;have a8:Hid _:=bd;rw[a',bd];clear h hg hv a' bd;go_enter Tryz.func30,Tryz.ntmps30
 by_cases i:20000<b.length
 .have cs:(b.length:Int)>20000:=by omega
  obtain⟨rfl,rfl,rfl⟩:m=B/\[]=C/\3=D:=by
   have a:=bb.out;unfold bM at a;rw[if_pos i]at a;have c:=Prod.mk.inj a;exact⟨c.1,(Prod.mk.inj c.2).1,(Prod.mk.inj c.2).2⟩
  have o:Hid (nn=n):=by rw[<-a8.out];unfold oM;exact if_pos i
  clear i;go_wp2;go_ret2;exact⟨rfl,by rw[o.out];exact SrPost.refl H.out (Ext.refl _)⟩
 .have cs:¬(b.length:Int)>20000:=by omega
  have o:Hid (nn=n+1):=by rw[<-a8.out];unfold oM;exact if_neg i
  obtain⟨d,a3⟩:∃s,aV b=s:=⟨_,rfl⟩;have a4:Hid (d.length=64):=by rw[<-a3];exact oy b
  obtain⟨⟨z,l,S⟩,hr⟩:∃q,aE m (ar d)=q:=⟨_,rfl⟩;have a5:Hid ((B,C,D)=if S=0/\l.data=b then(z,d,0)else if S=0/\aV l.data=d then(z,[],5)else if S≠0/\S≠7 then(z,[],S)else cW (bD z bL 1 b) d):=by
   have a:=bb.out;unfold bM at a;rw[if_neg i,a3,hr]at a;exact a.symm
  have b2:∀w',Sr u O w' (.pointer (some ⟨g,0,none⟩)) j m n->Calls Tryz.prog 82 #[.pointer (some ⟨j,0,none⟩),S8 (ar d)] w' fun e bh=>(∃v,e=.returned (.tuple #[fiV l v,.int .i64 S])/\IsBytes bh v l.data/\TypB bh v)/\SrPost u O (.pointer (some ⟨g,0,none⟩)) j z (n+1) w' bh:=fun w' h'=>by
   have a:=pK (ar d) h' HG.out (by omega) (by unfold ar;rw[List.length_append,a4.out];decide) cp cq;rw[hr]at a;exact a
  have ct:Hid _:=b2;have b3:=je (p:=ar d) HG.out.ok HG.out.plan;rw[hr]at b3;simp only at b3;have a6:Hid (Good (k+1) z):=by
   have a:=eC HG.out (ar d);rw[hr]at a;exact a
  have b4:Hid _:=oL (.slice s0 b.length t0) b w (HA.out.bytes H.out.ext) (by omega);rw[a3]at b4;clear i hr b2 a3 bb;go_wp2_with fail;go_at_call 81;refine Calls.mono b4.out ?_;rintro e w1 ⟨rfl,b5⟩;have b6:Hid (Ext w w1):=b5;have c3:d.length<=64:=by have:=a4.out;omega
  clear b5;go_wp2_with fail;go_at_call 82;refine(ct.out w1 (H.out.more b6.out)).mono ?_;rintro e9 w2 ⟨⟨v2,rfl,bk,b7⟩,b8⟩;obtain⟨va,vc,rfl,-⟩:=_root_.id bk;have b':Hid (IsBytes w2 (.slice va l.data.length vc) l.data):=bk;have ca:Hid (TypB w2 (.slice va l.data.length vc)):=b7;have cb:Hid (SrPost u O (.pointer (some ⟨g,0,none⟩)) j z (n+1) w w2):=SrPost.pre H.out b6.out b8;clear bk b7 b8;go_upto_region 5 with(refine wpList_store_row rfl 114 (.tmp 7) (.tmp 19) rfl w2.heap.size #[.int .i64 l.mode,.slice va l.data.length vc,.int .i64 l.time] rfl rfl 114 _ (ab _ _) ck rfl (by simp[Value.oneCell']) ?_);obtain⟨w3,bl⟩:∃w3,w3=(w2.alloc (.cells #[.int .i64 0,.slice none 0 0,.int .i64 0] 114)).setRow w2.heap.size #[.int .i64 l.mode,.slice va l.data.length vc,.int .i64 l.time]:=⟨_,rfl⟩;rw[<-bl];obtain⟨bo,a7⟩:=rx w3 bl;obtain⟨c0,c1,c2⟩:=bE bo;have P:Hid (SrPost u O (.pointer (some ⟨g,0,none⟩)) j z (n+1) w w3):=cb.out.ext a7;have cc:Hid (IsBytes w3 (.slice va l.data.length vc) l.data):=IsBytes.ext b'.out a7;have c6:Hid (TypB w3 (.slice va l.data.length vc)):=ca.out.keep (KeepB.BO a7);have cu:Hid _:=bo;have bq:Hid (Arg u w3 (.slice s0 b.length t0) b):=HA.out.keep P.out.keep;obtain⟨gf,ce⟩:∃g,w2.heap.size=g:=⟨_,rfl⟩;rw[ce]at c0 c1 c2 cu ⊢;clear bl bo a7 ce cb b' ca
  by_cases y:S=0
  case pos =>
   subst y;obtain⟨eq,br⟩:∃q,(l.data==b)=q:=⟨_,rfl⟩;have cl:Hid _:=br;have cm:Hid _:=cD (.slice va l.data.length vc) (.slice s0 b.length t0) l.data b w3 cc.out (bq.out.bytes (P.out.choose_spec.1.ext));rw[br]at cm;clear br;go_wp2_with fail;go_at_call 31;refine Calls.mono cm.out ?_;rintro e w4 ⟨rfl,rfl⟩
   cases eq with
   | true =>
    obtain⟨rfl,rfl,rfl⟩:B=z/\C=d/\D=0:=by
     have a:=a5.out;rw[if_pos ⟨by first | rfl | trivial,by simpa using cl.out⟩]at a;have c:=Prod.mk.inj a;exact⟨c.1,(Prod.mk.inj c.2).1,(Prod.mk.inj c.2).2⟩
    go_wp2;go_ret2;exact⟨rfl,by rw[o.out];exact P.out⟩
   | false =>
   have T:Hid ((B,C,D)=if aV l.data=d then(z,[],5)else cW (bD z bL 1 b) d):=by
    have a:=a5.out;rw[if_neg (fun h=>by have:=cl.out;rw[h.2]at this;simp at this)]at a;unfold Hid;rw[a]
    by_cases U:aV l.data=d
    .rw [if_pos ⟨by first | rfl | trivial,U⟩,if_pos U]
    .rw [if_neg (fun h=>U h.2),if_neg (fun h=>by first | exact h.1 rfl | (simp at h;done)),if_neg U]
   have a9:Hid _:=oL (.slice va l.data.length vc) l.data w4 cc.out (by omega);obtain⟨s2,cn⟩:∃s,aV l.data=s:=⟨_,rfl⟩;rw[cn]at a9 T;clear cn;go_wp2_with fail;go_at_call 81;refine Calls.mono a9.out ?_;rintro e w5 ⟨rfl,bs⟩;have co:Hid (SrPost u O (.pointer (some ⟨g,0,none⟩)) j z (n+1) w w5):=P.out.ext bs;have cv:Hid (Arg u w5 (.slice s0 b.length t0) b):=bq.out.keep (KeepB.BO bs);clear bs c0 c1 c2
   by_cases U:s2=d
   .have cx:(s2==d)=true:=by simpa using U
    obtain⟨rfl,rfl,rfl⟩:B=z/\C=[]/\D=5:=by
     have a:=T.out;rw[if_pos U]at a;have c:=Prod.mk.inj a;exact⟨c.1,(Prod.mk.inj c.2).1,(Prod.mk.inj c.2).2⟩
    clear U;go_wp2;go_ret2;exact⟨rfl,by rw[o.out];exact co.out⟩
   have cx:(s2==d)=false:=by simpa using U
   have V:Hid (cW (bD z bL 1 b) d=(B,C,D)):=by
    have a:=T.out;rw[if_neg U]at a;exact a.symm
   clear U;obtain⟨O6,h6,J,W⟩:=co.out;obtain⟨E,K⟩:∃E,E=w5:=⟨_,rfl⟩;rw[<-K]at h6 J ⊢;have L:Hid (Sr u O6 E (.pointer (some ⟨g,0,none⟩)) j z (n+1)):=h6;have X:Hid (Fr (fun k=>O k\/k=j) w E):=J;have Y:Hid (∀k,O6 k->O k\/w.heap.size<=k):=W;have Z:Hid (Arg u E (.slice s0 b.length t0) b):=by rw[K];exact cv.out
   clear h6 J W K;have HW:Hid _:=kE bL 1 (.slice s0 b.length t0) b (Sr.BW L.out a6.out (by omega)) (by decide) (Z.out.bytes L.out.ext) (Z.out.out (fun k I=>(L.out.lo k I).1));obtain⟨⟨Q,e2⟩,A⟩:∃q,bD z bL 1 b=q:=⟨_,rfl⟩;rw[A]at HW;have F:Hid (cW (Q,e2) d=(B,C,D)):=by
    unfold Hid;rw[<-V.out,A]
   have bt:Hid (Good (k+2) Q):=by
    have a:=gj a6.out bL 1 b;rw[A]at a;exact a
   have d0:E.cell? ⟨j,0,none⟩=some (.pointer (some ⟨g,0,none⟩)):=(cell_of_row _ _ 0 _ _ _ L.out.row).trans rfl;clear A;go_wp2_with fail;go_at_call 83;refine Calls.mono HW.out ?_;rintro e w7 ⟨rfl,ad⟩;have M:Hid (SrPost u O6 (.pointer (some ⟨g,0,none⟩)) j Q (n+1) E w7):=Sr.post L.out ad;clear ad d0
   by_cases r:e2=0
   case neg =>
    have bx:(e2==0)=false:=by simpa using r
    have bS:(e2 != 0)=true:=by simpa using r
    obtain⟨rfl,rfl,rfl⟩:Q=B/\[]=C/\e2=D:=by
     have a:=F.out;unfold cW at a;rw[if_pos r]at a;have c:=Prod.mk.inj a;exact⟨c.1,(Prod.mk.inj c.2).1,(Prod.mk.inj c.2).2⟩
    clear r;go_wp2;go_ret2;exact⟨rfl,by rw[o.out];exact SrPost.trans X.out Y.out (fun k I=>(L.out.lo k I).2) M.out⟩
   subst r;obtain⟨O7,h7,au,a0⟩:=M.out;have H7:Hid (Sr u O7 w7 (.pointer (some ⟨g,0,none⟩)) j Q (n+1)):=h7;have b0:Hid _:=au;have b1:Hid (∀k,O7 k->O6 k\/E.heap.size<=k):=a0;have HM:Hid _:=lB bL (ar d) (Sr.BW H7.out bt.out (by omega)) (by decide) (by unfold ar;rw[List.length_append,a4.out];decide);obtain⟨⟨m3,R⟩,N⟩:∃q,aN Q bL (ar d) false=q:=⟨_,rfl⟩;rw[N]at HM;have G:Hid ((B,C,D)=if R≠0 then(m3,[],R)else(m3,d,0)):=by
    have a:=F.out;unfold cW at a;rw[if_neg (by simp),N]at a;exact a.symm
   have d0:w7.cell? ⟨j,0,none⟩=some (.pointer (some ⟨g,0,none⟩)):=(cell_of_row _ _ 0 _ _ _ H7.out.row).trans rfl;clear N h7 au a0 M;go_wp2_with fail;go_at_call 84;refine Calls.mono HM.out ?_;rintro e w8 ⟨rfl,a1⟩;have a2:Hid (SrPost u O (.pointer (some ⟨g,0,none⟩)) j m3 (n+1) w w8):=SrPost.trans X.out Y.out (fun k I=>(L.out.lo k I).2) (SrPost.trans b0.out b1.out (fun k I=>(H7.out.lo k I).2) (Sr.post H7.out a1));clear a1 d0
   by_cases t:R=0
   .subst t;obtain⟨rfl,rfl,rfl⟩:B=m3/\C=d/\D=0:=by
     have a:=G.out;rw[if_neg (by simp)]at a;have c:=Prod.mk.inj a;exact⟨c.1,(Prod.mk.inj c.2).1,(Prod.mk.inj c.2).2⟩
    go_wp2;go_ret2;exact⟨rfl,by rw[o.out];exact a2.out⟩
   .have bx:(R==0)=false:=by simpa using t
    have bS:(R != 0)=true:=by simpa using t
    obtain⟨rfl,rfl,rfl⟩:B=m3/\C=[]/\D=R:=by
     have a:=G.out;rw[if_pos t]at a;have c:=Prod.mk.inj a;exact⟨c.1,(Prod.mk.inj c.2).1,(Prod.mk.inj c.2).2⟩
    clear t;go_wp2;go_ret2;exact⟨rfl,by rw[o.out];exact a2.out⟩
  have c4:(S==0)=false:=by simpa using y
  have c5:(S != 0)=true:=by simpa using y
  by_cases h7:S=7
  case neg =>
   have c7:(S != 7)=true:=by simpa using h7
   obtain⟨rfl,rfl,rfl⟩:B=z/\C=[]/\D=S:=by
    have a:=a5.out;rw[if_neg (fun h=>y h.1),if_neg (fun h=>y h.1),if_pos ⟨y,h7⟩]at a;have c:=Prod.mk.inj a;exact⟨c.1,(Prod.mk.inj c.2).1,(Prod.mk.inj c.2).2⟩
   clear y h7;go_wp2;go_ret2;exact⟨rfl,by rw[o.out];exact P.out⟩
  case pos =>
   subst h7;have V:Hid (cW (bD z bL 1 b) d=(B,C,D)):=by
    have a:=a5.out;rw[if_neg (fun h=>y h.1),if_neg (fun h=>y h.1),if_neg (fun h=>h.2 rfl)]at a;exact a.symm
   clear y c0 c1 c2;obtain⟨O6,h6,J,W⟩:=P.out;obtain⟨E,K⟩:∃E,E=w3:=⟨_,rfl⟩;rw[<-K]at h6 J ⊢;have L:Hid (Sr u O6 E (.pointer (some ⟨g,0,none⟩)) j z (n+1)):=h6;have X:Hid (Fr (fun k=>O k\/k=j) w E):=J;have Y:Hid (∀k,O6 k->O k\/w.heap.size<=k):=W;have Z:Hid (Arg u E (.slice s0 b.length t0) b):=by rw[K];exact bq.out
   clear h6 J W K;have HW:Hid _:=kE bL 1 (.slice s0 b.length t0) b (Sr.BW L.out a6.out (by omega)) (by decide) (Z.out.bytes L.out.ext) (Z.out.out (fun k I=>(L.out.lo k I).1));obtain⟨⟨Q,e2⟩,A⟩:∃q,bD z bL 1 b=q:=⟨_,rfl⟩;rw[A]at HW;have F:Hid (cW (Q,e2) d=(B,C,D)):=by
    unfold Hid;rw[<-V.out,A]
   have bt:Hid (Good (k+2) Q):=by
    have a:=gj a6.out bL 1 b;rw[A]at a;exact a
   have d0:E.cell? ⟨j,0,none⟩=some (.pointer (some ⟨g,0,none⟩)):=(cell_of_row _ _ 0 _ _ _ L.out.row).trans rfl;clear A;go_wp2_with fail;go_at_call 83;refine Calls.mono HW.out ?_;rintro e w7 ⟨rfl,ad⟩;have M:Hid (SrPost u O6 (.pointer (some ⟨g,0,none⟩)) j Q (n+1) E w7):=Sr.post L.out ad;clear ad d0
   by_cases r:e2=0
   case neg =>
    have bx:(e2==0)=false:=by simpa using r
    have bS:(e2 != 0)=true:=by simpa using r
    obtain⟨rfl,rfl,rfl⟩:Q=B/\[]=C/\e2=D:=by
     have a:=F.out;unfold cW at a;rw[if_pos r]at a;have c:=Prod.mk.inj a;exact⟨c.1,(Prod.mk.inj c.2).1,(Prod.mk.inj c.2).2⟩
    clear r;go_wp2;go_ret2;exact⟨rfl,by rw[o.out];exact SrPost.trans X.out Y.out (fun k I=>(L.out.lo k I).2) M.out⟩
   subst r;obtain⟨O7,h7,au,a0⟩:=M.out;have H7:Hid (Sr u O7 w7 (.pointer (some ⟨g,0,none⟩)) j Q (n+1)):=h7;have b0:Hid _:=au;have b1:Hid (∀k,O7 k->O6 k\/E.heap.size<=k):=a0;have HM:Hid _:=lB bL (ar d) (Sr.BW H7.out bt.out (by omega)) (by decide) (by unfold ar;rw[List.length_append,a4.out];decide);obtain⟨⟨m3,R⟩,N⟩:∃q,aN Q bL (ar d) false=q:=⟨_,rfl⟩;rw[N]at HM;have G:Hid ((B,C,D)=if R≠0 then(m3,[],R)else(m3,d,0)):=by
    have a:=F.out;unfold cW at a;rw[if_neg (by simp),N]at a;exact a.symm
   have d0:w7.cell? ⟨j,0,none⟩=some (.pointer (some ⟨g,0,none⟩)):=(cell_of_row _ _ 0 _ _ _ H7.out.row).trans rfl;clear N h7 au a0 M;go_wp2_with fail;go_at_call 84;refine Calls.mono HM.out ?_;rintro e w8 ⟨rfl,a1⟩;have a2:Hid (SrPost u O (.pointer (some ⟨g,0,none⟩)) j m3 (n+1) w w8):=SrPost.trans X.out Y.out (fun k I=>(L.out.lo k I).2) (SrPost.trans b0.out b1.out (fun k I=>(H7.out.lo k I).2) (Sr.post H7.out a1));clear a1 d0
   by_cases t:R=0
   .subst t;obtain⟨rfl,rfl,rfl⟩:B=m3/\C=d/\D=0:=by
     have a:=G.out;rw[if_neg (by simp)]at a;have c:=Prod.mk.inj a;exact⟨c.1,(Prod.mk.inj c.2).1,(Prod.mk.inj c.2).2⟩
    go_wp2;go_ret2;exact⟨rfl,by rw[o.out];exact a2.out⟩
   .have bx:(R==0)=false:=by simpa using t
    have bS:(R != 0)=true:=by simpa using t
    obtain⟨rfl,rfl,rfl⟩:B=m3/\C=[]/\D=R:=by
     have a:=G.out;rw[if_pos t]at a;have c:=Prod.mk.inj a;exact⟨c.1,(Prod.mk.inj c.2).1,(Prod.mk.inj c.2).2⟩
    clear t;go_wp2;go_ret2;exact⟨rfl,by rw[o.out];exact a2.out⟩
end
end Go.Proofs.YtfabjgfmiaammaaGreatDoor
