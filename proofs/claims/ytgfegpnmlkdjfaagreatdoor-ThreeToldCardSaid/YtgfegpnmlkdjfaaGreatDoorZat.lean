/- Contracts of the program's functions and plain laws behind the card. Conditions: as each theorem states. -/
import Derived.Test.YtgfegpnmlkdjfaaGreatDoorZar
import Derived.Laws.CopyOwn
import Derived.Deep.Onto
set_option linter.unusedVariables false
set_option linter.unusedSimpArgs false
set_option linter.unusedSectionVars false
set_option maxRecDepth 100000
set_option maxHeartbeats 64000000
namespace Go.Proofs.YtgfegpnmlkdjfaaGreatDoor
section
open Go Go.RowKit
structure SumW (w wr:World) (gk gh gw mb mo:Nat) (M:B8) (st c:List UInt32):Prop where
 ext:Ext w wr
 kb:wr.heap[gk]? = some (.cells (dT.map U32).toArray 100 (0,0))
 hb:wr.heap[gh]? = some (.cells (st.map U32).toArray 100 (0,0))
 wb:wr.heap[gw]? = some (.cells (c.map U32).toArray 100 (0,0))
 mc:∀i,i<M.length->wr.cell? ⟨mb,mo+i,none⟩=some (.int .u8 (M.getD i 0).toNat)
 ne:gk≠gh/\gk≠gw/\gh≠gw/\mb≠gh/\mb≠gw
 low:w.heap.size<=gh/\w.heap.size<=gw
section
variable {w wr w2:World} {gk gh gw mb mo:Nat} {M:B8} {st c c' st':List UInt32}
variable {l:List UInt32} {i:Nat}
theorem im (h:i<l.length):(l.map U32).toArray[i]? = some (U32 (l.getD i 0)):=by
 simp[h,List.getD_eq_getElem?_getD]
theorem mP (x:UInt32) (h:i<l.length):((l.set i x).map U32).toArray=((l.map U32).toArray.toList.take i++[U32 x]++(l.map U32).toArray.toList.drop (i+1)).toArray:=by
 apply Array.ext';simp only[List.toList_toArray];rw[List.map_set,List.set_eq_take_append_cons_drop,if_pos (by simpa using h)];simp
theorem SumW.more (h:SumW w wr gk gh gw mb mo M st c) (a:Ext wr w2):SumW w w2 gk gh gw mb mo M st c :=
 ⟨h.ext.trans a,Ext.row a h.kb,Ext.row a h.hb,Ext.row a h.wb,fun i b=>a.cell (h.mc i b),h.ne,h.low⟩
theorem SumW.putW (h:SumW w wr gk gh gw mb mo M st c) (b:w2.heap[gw]? = some (.cells (c'.map U32).toArray 100 (0,0))) (a:wr.grownBy w2 (some gw)):SumW w w2 gk gh gw mb mo M st c' :=
 ⟨Below.grown h.ext a h.ext.size (fun j g=>by cases g;exact h.low.2),(a.block _ (Array.getElem?_eq_some_iff.1 h.kb).1 (fun e=>by cases e;exact h.ne.2.1 rfl)).trans h.kb,
  (a.block _ (Array.getElem?_eq_some_iff.1 h.hb).1 (fun e=>by cases e;exact h.ne.2.2.1 rfl)).trans h.hb,b,fun i d=>a.cell (h.mc i d) (fun e=>by cases e;exact h.ne.2.2.2.2 rfl),h.ne,h.low⟩
theorem SumW.Ig (h:SumW w wr gk gh gw mb mo M st c) (b:w2.heap[gh]? = some (.cells (st'.map U32).toArray 100 (0,0))) (a:wr.grownBy w2 (some gh)):SumW w w2 gk gh gw mb mo M st' c :=
 ⟨Below.grown h.ext a h.ext.size (fun j g=>by cases g;exact h.low.1),(a.block _ (Array.getElem?_eq_some_iff.1 h.kb).1 (fun e=>by cases e;exact h.ne.1 rfl)).trans h.kb,
  b,(a.block _ (Array.getElem?_eq_some_iff.1 h.wb).1 (fun e=>by cases e;exact h.ne.2.2.1 rfl)).trans h.wb,fun i d=>a.cell (h.mc i d) (fun e=>by cases e;exact h.ne.2.2.2.1 rfl),h.ne,h.low⟩
structure SumV (w wr:World) (gk gh gw mb mo gv:Nat) (M:B8) (st c cur:List UInt32):Prop where
 sw:SumW w wr gk gh gw mb mo M st c
 vb:wr.heap[gv]? = some (.cells (cur.map U32).toArray 103 (0,0))
 Hc:gk≠gv/\gh≠gv/\gw≠gv/\mb≠gv/\w.heap.size<=gv
variable {gv:Nat} {cur:List UInt32}
theorem SumV.more (h:SumV w wr gk gh gw mb mo gv M st c cur) (a:Ext wr w2):SumV w w2 gk gh gw mb mo gv M st c cur:=⟨h.sw.more a,Ext.row a h.vb,h.Hc⟩
theorem SumV.Iy {cur':List UInt32} (h:SumV w wr gk gh gw mb mo gv M st c cur) (b:w2.heap[gv]? = some (.cells (cur'.map U32).toArray 103 (0,0))) (a:wr.grownBy w2 (some gv)):SumV w w2 gk gh gw mb mo gv M st c cur' :=
 ⟨⟨Below.grown h.sw.ext a h.sw.ext.size (fun j g=>by cases g;exact h.Hc.2.2.2.2),(a.block _ (Array.getElem?_eq_some_iff.1 h.sw.kb).1 (fun e=>by cases e;exact h.Hc.1 rfl)).trans h.sw.kb,
  (a.block _ (Array.getElem?_eq_some_iff.1 h.sw.hb).1 (fun e=>by cases e;exact h.Hc.2.1 rfl)).trans h.sw.hb,(a.block _ (Array.getElem?_eq_some_iff.1 h.sw.wb).1 (fun e=>by cases e;exact h.Hc.2.2.1 rfl)).trans h.sw.wb,
  fun i d=>a.cell (h.sw.mc i d) (fun e=>by cases e;exact h.Hc.2.2.2.1 rfl),h.sw.ne,h.sw.low⟩,b,h.Hc⟩
theorem SumV.Ig (h:SumV w wr gk gh gw mb mo gv M st c cur) (b:w2.heap[gh]? = some (.cells (st'.map U32).toArray 100 (0,0))) (a:wr.grownBy w2 (some gh)):SumV w w2 gk gh gw mb mo gv M st' c cur :=
 ⟨h.sw.Ig b a,(a.block _ (Array.getElem?_eq_some_iff.1 h.vb).1 (fun e=>by cases e;exact h.Hc.2.1 rfl)).trans h.vb,h.Hc⟩
end
theorem kT {M:B8} {a i:Nat} (h:i<64) (b:a+64<=M.length):((M.drop a).take 64).getD i 0=M.getD (a+i) 0:=by
 rw[List.getD_eq_getElem?_getD,List.getElem?_take,if_pos h,List.getElem?_drop,<-List.getD_eq_getElem?_getD]
theorem mU (x:UInt32):Value.int .u8 (IntKind.u8.wrap (x.toNat:Int))=.int .u8 ((UInt8.ofNat x.toNat).toNat:Int):=by
 rw[IntKind.wrap_u8,UInt8.toNat_ofNat'];exact congrArg _ (Int.natCast_emod _ 256).symm
theorem EN (n:Nat):madeCells #[.int .u32 0] n=((List.replicate n 0:List UInt32).map U32).toArray:=by
 refine Array.ext (by simp[madeCells]) (fun i a b=>?_);simp[madeCells,Nat.mod_one]
theorem DZ:madeCells #[.int .u32 0] 64=((List.replicate 64 0:List UInt32).map U32).toArray:=EN 64
theorem Bt (v:Value) (b:B8) (w:World) (hv:IsBytes w v b) (hl:b.length<=10000000) :
  Calls Tryz.prog 44 #[v] w fun e Q=>(∃v',e=.returned v'/\Q.ownsRow w.heap.size 5 1 v' 32 ((gB b).map fun x=>.int .u8 x.toNat))/\Ext w Q:=by
 have HV:Hid (IsBytes w v b):=hv;obtain⟨va,vc,rfl,-⟩:=hv.get;clear hv;obtain⟨n,hn⟩:∃n,b.length=n:=⟨_,rfl⟩;have HN:Hid _:=hn;rw[hn]at hl HV ⊢;clear hn;go_enter Tryz.func44,Tryz.ntmps44;go_wp2_with fail;go_at_call 63;refine(rW w).mono ?_;rintro e w1 ⟨gk,rfl,C,hU,ad,co⟩;have hu:Hid _:=C;have md:Hid (Ext w w1):=ad;have hs:Hid _:=hU;clear C hU ad;go_upto_region 3 with fail;obtain⟨w2,b'⟩:∃w2,w2=w1.alloc (.cells (dj.map U32).toArray 100):=⟨_,rfl⟩;have e4:w2.heap[w1.heap.size]? = some (.cells (dj.map U32).toArray 100 (0,0)):=by rw[b'];exact ah _ _
 have V:Ext w1 w2:=by rw[b'];exact(Ext.refl _).alloc _
 have bo:w2.heap.size=w1.heap.size+1:=by rw[b'];exact Array.size_push ..
 rw[show(#[.int .u32 1779033703,.int .u32 3144134277,.int .u32 1013904242,.int .u32 2773480762,.int .u32 1359893119,.int .u32 2600822924,.int .u32 528734635,.int .u32 1541459225]:Array Value)=(dj.map U32).toArray from rfl,<-b'];obtain⟨O,hT⟩:∃g,w1.heap.size=g:=⟨_,rfl⟩;rw[hT]at e4 bo;have ci:O=gk+1:=by omega
 rw[<-ci];have k':Hid _:=e4;have hJ:Hid (Ext w w2):=md.out.trans V;have lb:Hid (w2.heap[gk]? = some (.cells (dT.map U32).toArray 100 (0,0))):=Ext.row V hu.out;have k8:Hid (O=gk+1/\w2.heap.size=O+1/\w.heap.size=gk):=⟨ci,bo,hs.out.symm⟩;clear b' e4 V bo co hT ci hu hs;go_wp2_with fail;go_at_call 25;refine(yt _ b w2 (HV.out.ext hJ.out)).mono ?_;rw[HN.out];rintro e w3 ⟨⟨v3,rfl,G⟩,Z⟩;have d9:Hid (w3.ownsRow w2.heap.size 5 1 v3 n (b.map fun x=>.int .u8 x.toNat)):=G;have me:Hid (Ext w2 w3):=Z;have nw:=Z.size;obtain⟨a3,c3,rfl,-⟩:=Row.GW G (by omega);clear G Z;go_upto_region 4 with(at_builtin;go_must (refine eT rfl _ _ rfl w2.heap.size _ n b rfl (d9.out.alloc _) w3.heap.size 1 1 [128] rfl rfl (ah _ _) (by omega) (by simp;omega) ?_);intro v4 w4 cm hS);have hy:Hid (w4.ownsRow w2.heap.size 5 1 v4 (n+(1+0)) ((b++128::List.replicate 0 0:B8).map fun x=>.int .u8 x.toNat)):=cm;have ml:Hid (Ext w2 w4):=aA (me.out.alloc _) (d9.out.alloc _) hS;have o5:=vQ n;clear cm hS nw;go_loopw [5] (fun pv wr=>∃k:Nat,k<=cY n/\Hid (wr.ownsRow w2.heap.size 5 1 pv (n+(1+k)) ((b++128::List.replicate k 0:B8).map fun x=>.int .u8 x.toNat))/\Hid (Ext w2 wr)) (fun pv _=>n+65 - sy pv)
 case atStart=>exact⟨0,Nat.zero_le _,hy.out,ml.out⟩
 case round =>
  obtain⟨k,o,ai,HX⟩:=hrel;obtain⟨pa,pc,rfl,-⟩:=Row.GW ai.out (by omega);have b9:=HX.out.size;have hP:=vO o
  by_cases bi:k=cY n
  case neg =>
   have hm:((((n+(1+k):Nat):Int))%64 != 56)=true:=by simp;omega
   clear hP
   go_wp2_with (at_builtin;go_must (refine eT rfl _ _ rfl w2.heap.size _ (n+(1+k)) (b++128::List.replicate k 0) rfl (ai.out.alloc _) wr.heap.size 1 1 [0] rfl rfl (ah _ _) (by omega) (by simp;omega) ?_);intro v' w3 G e3)
   go_roundw
   case rel=>exact⟨k+1,by omega,by have h9:(b++128::List.replicate k 0++[0]:B8)=b++128::List.replicate (k+1) 0:=(by rw[List.replicate_succ',List.append_assoc,List.cons_append]);rw[h9]at G;exact G,aA (HX.out.alloc _) (ai.out.alloc _) e3⟩
   case measure =>
    obtain⟨pn,po,rfl,-⟩:=Row.GW G (by omega);simp[sy];omega
  have hm:((((n+(1+k):Nat):Int))%64 != 56)=false:=by simp;omega
  clear hP;subst bi;go_upto_region 7 with fail;clear hm;generalize(((n:Int)+(1+(cY n:Int)))%64 != 56)=qe;generalize((n:Int)+(1+(cY n:Int)))%64=p8;generalize(n:Int)+(1+(cY n:Int))=p6;go_wp2_with fail;go_loopw [5,7] (fun pv i wr=>∃k:Nat,k<=8/\i=.int .i64 (7 - (k:Int))/\Hid (wr.ownsRow w2.heap.size 5 1 pv (n+(1+cY n+k)) ((b++ig n k).map fun x=>.int .u8 x.toNat))/\Hid (Ext w2 wr)) (fun _ i _=>(intOf i+1).toNat)
  case atStart=>exact⟨0,by omega,rfl,by unfold ig;rw[List.take_zero,List.append_nil];exact ai.out,HX.out⟩
  case round =>
  obtain⟨q,t,rfl,am,cc⟩:=hrel;obtain⟨pq,cq,rfl,-⟩:=Row.GW am.out (by omega);have iv:=cc.out.size
  by_cases H:q<8
  case pos =>
   have cp:((n:Int)*8 / 2 ^ (56 - 8*q)%256)=((UInt8.ofNat (8*n / 2 ^ (56 - 8*q))).toNat:Int):=by
    rw[UInt8.toNat_ofNat',Nat.mul_comm 8 n];push_cast;rfl
   have cu:Hid _:=rt n H;have o1:((7:Int) - (q:Int))>=0:=by omega
   have o':IntKind.i64.wrap (8*(7 - (q:Int)))=((56 - 8*q:Nat):Int):=by rw[IntWalk.i64_in _ (by omega)];omega
   have b':(0:Int)<=((56 - 8*q:Nat):Int):=by omega
   have pb:((56 - 8*q:Nat):Int)<=64:=by omega
   have pe:((56 - 8*q:Nat):Int)<64:=by omega
   have pj:IntKind.i64.wrap (7 - (q:Int) - 1)=7 - ((q+1:Nat):Int):=by rw[IntWalk.i64_in _ (by omega)];omega
   generalize hz:UInt8.ofNat (8*n / 2 ^ (56 - 8*q))=z at cp;have HZ:Hid _:=hz;have l4:Hid _:=cp;clear cp hz
   go_wp2_with (at_builtin;go_must (refine eT rfl _ _ rfl w2.heap.size _ (n+(1+cY n+q)) (b++ig n q) rfl (am.out.alloc _) wr.heap.size 1 1 [z] rfl rfl (fr:=(0,0)) (by show _=some (Obj.cells #[Value.int .u8 (z.toNat:Int)] _ _);rw[<-l4.out];exact ah _ _) (by omega) (by simp;omega) ?_);intro v' w3 G e3)
   go_roundw
   case rel=>exact⟨q+1,by omega,by go_num,by rw[cu.out,HZ.out,<-List.append_assoc];exact G,aA (cc.out.alloc _) (am.out.alloc _) e3⟩
   case measure=>simp[intOf];omega
  have nv:q=8:=by omega
  subst nv;go_upto_region 11 with fail;have ic:(Instr.makeSlice 98 (.int .i64 64) (.int .i64 64)).run Tryz.prog wr=.ok (.slice (some ⟨wr.heap.size,0,none⟩) 64 64) (wr.alloc (.cells ((List.replicate 64 0:List UInt32).map U32).toArray 100)):=by
   have h9:=run_make_row' (P:=Tryz.prog) 98 100 (.int .u32 0) 4 Tryz.underlying98 (by kernel_rfl) rfl .i64 .i64 64 (by omega) (by omega) wr;rw[DZ]at h9;exact h9
  obtain⟨wm,c4⟩:∃wm,wm=wr.alloc (.cells ((List.replicate 64 0:List UInt32).map U32).toArray 100):=⟨_,rfl⟩;rw[<-c4]at ic;have c7:Ext wr wm:=by rw[c4];exact(Ext.refl _).alloc _
  have a':wm.heap[wr.heap.size]? = some (.cells ((List.replicate 64 0:List UInt32).map U32).toArray 100 (0,0)):=by rw[c4];exact ah _ _
  obtain⟨M,hM⟩:∃M,b++iT n=M:=⟨_,rfl⟩;have cv:M.length=n+(1+cY n+8):=by rw[<-hM,List.length_append,HN.out,<-mn,oF n (Nat.le_refl 8)]
  have oc:M.length%64=0:=by
   have h9:=CO n;rw[<-hM,List.length_append,HN.out];exact h9
  have e5:wr.ownsRow w2.heap.size 5 1 (.slice pq (n+(1+cY n+8)) cq) (n+(1+cY n+8)) (M.map fun x=>.int .u8 x.toNat):=by
   have h9:=am.out;rw[mn,hM]at h9;exact h9
  have ih:IsBytes wr (.slice pq M.length cq) M:=by
   unfold IsBytes;rw[cv];exact Row.GW e5 (by omega)
  obtain⟨mb,mo,nt,ia⟩:∃mb mo,pq=some ⟨mb,mo,none⟩/\∀i,i<M.length->wr.cell? ⟨mb,mo+i,none⟩=some (.int .u8 (M.getD i 0).toNat):=by
   obtain⟨a9,c9,e9,-,-,-,nl⟩:=ih.get;obtain⟨bb,oo,rfl,hc⟩:=nl 0 (by omega);cases e9;exact⟨bb,oo,rfl,hc⟩
  subst nt;have no:=e5.lt mb rfl;have ds:Hid (SumW w wm gk O wr.heap.size mb mo M dj (List.replicate 64 0)):=by
   obtain⟨g1,g2,g3⟩:=k8.out;have o9:=cc.out.size;have gm:Ext w2 wm:=cc.out.trans c7;exact⟨hJ.out.trans gm,Ext.row gm lb.out,Ext.row gm k'.out,a',fun i hi=>c7.cell (ia i hi),⟨by omega,by omega,by omega,by omega,by omega⟩,⟨by omega,by omega⟩⟩
  obtain⟨gw,h0⟩:∃g,wr.heap.size=g:=⟨_,rfl⟩;rw[h0]at ds ic;have dq:Hid (gB b=(aT dj M).1.flatMap ex):=by unfold Hid;rw[Dd,HN.out,hM]
  obtain⟨cs,ce⟩:∃F,(aT dj M).1=F:=⟨_,rfl⟩;rw[ce]at dq;have k6:Hid ((aT dj (M.drop 0)).1=cs):=ce;rw[<-cv];have oj:Hid _:=cv;have op:M.length<=10000200:=by omega
  have om:Hid (Ext w2 wm):=cc.out.trans c7;clear c4 c7 a' hM cv e5 ih ia no h0 ce am ai hy d9 iv;go_upto_region 12 with fail;generalize((7:Int) - ((8:Nat):Int))=ps;go_wp2_with fail;go_loopw [9] (fun i wr=>∃(a:Nat) (D c:List UInt32),i=.int .i64 a/\a<=M.length/\a%64=0/\D.length=8/\c.length=64/\Hid ((aT D (M.drop a)).1=cs)/\Hid (SumW w wr gk O gw mb mo M D c)) (fun i _=>M.length - (intOf i).toNat)
  case atStart=>exact⟨0,dj,List.replicate 64 0,rfl,Nat.zero_le _,rfl,rfl,rfl,k6.out,ds.out⟩
  case round =>
  obtain⟨a,D,c,rfl,os,d5,ft,d6,HF,HS⟩:=hrel
  by_cases od:a<M.length
  case pos =>
   have av:a+64<=M.length:=by omega
   obtain⟨W,hW⟩:∃W,aQ ((M.drop a).take 64) 64=W:=⟨_,rfl⟩;have hO:W.length=64:=by rw[<-hW];exact ee _ _
   have lk:Hid (∀j,j<16->W.getD j 0=(((M.getD (a+4*j) 0).toUInt32 <<< 24 ||| (M.getD (a+4*j+1) 0).toUInt32 <<< 16) ||| (M.getD (a+4*j+2) 0).toUInt32 <<< 8) ||| (M.getD (a+4*j+3) 0).toUInt32):=fun j hj=>by
    rw[<-hW,Bv _ hj];unfold be4;rw[kT (by omega) av,kT (by omega) av,kT (by omega) av,kT (by omega) av];rfl
   have la:Hid (∀j,16<=j->j<64->W.getD j 0=kt W j):=fun j h1 h2=>by rw[<-hW];exact Bu _ h1 h2
   have lm:Hid (fj D ((M.drop a).take 64)=List.zipWith (· + ·) D (jO D W 64)):=by unfold Hid fj;rw[hW]
   have el:Hid _:=hO;have eg:Hid _:=ft;have ks:Hid _:=d5;have hr:Hid _:=d6;clear hW hO ft d5 d6;go_wp2_with fail;go_loopw [10] (fun i wr=>∃(k:Nat) (c:List UInt32),i=.int .i64 k/\k<=16/\Hid (PreW W c k)/\Hid (SumW w wr gk O gw mb mo M D c)) (fun i _=>16 - (intOf i).toNat)
   case atStart=>exact⟨0,c,rfl,Nat.zero_le _,⟨hr.out,fun j hj=>by omega⟩,HS.out⟩
   case round =>
   obtain⟨k,c,rfl,o,HP,K⟩:=hrel
   by_cases H:k<16
   case pos =>
    have hv:=lk.out k H;have d0:=K.out.mc (a+4*k) (by omega);have d1:=K.out.mc (a+4*k+1) (by omega);have d2:=K.out.mc (a+4*k+2) (by omega);have d3:=K.out.mc (a+4*k+3) (by omega);obtain⟨y0,gr⟩:∃y,M.getD (a+4*k) 0=y:=⟨_,rfl⟩;obtain⟨y1,bh⟩:∃y,M.getD (a+4*k+1) 0=y:=⟨_,rfl⟩;obtain⟨y2,bp⟩:∃y,M.getD (a+4*k+2) 0=y:=⟨_,rfl⟩;obtain⟨y3,bq⟩:∃y,M.getD (a+4*k+3) 0=y:=⟨_,rfl⟩;rw[gr]at d0;rw[bh]at d1;rw[bp]at d2;rw[bq]at d3;rw[gr,bh,bp,bq]at hv;obtain⟨x0,gi⟩:∃x,y0.toUInt32=x:=⟨_,rfl⟩;obtain⟨x1,ad⟩:∃x,y1.toUInt32=x:=⟨_,rfl⟩;obtain⟨x2,V⟩:∃x,y2.toUInt32=x:=⟨_,rfl⟩;obtain⟨x3,Z⟩:∃x,y3.toUInt32=x:=⟨_,rfl⟩;rw[gi,ad,V,Z]at hv;have ei:Hid _:=hv;have mc:Hid _:=gi;have hH:Hid _:=ad;have hK:Hid _:=V;have hL:Hid _:=Z;have D0:Hid _:=d0;have D1:Hid _:=d1;have D2:Hid _:=d2;have D3:Hid _:=d3;obtain⟨p,hp⟩:∃p,a+4*k=p:=⟨_,rfl⟩;have c5:IntKind.i64.wrap (4*(k:Int))=4*(k:Int):=IntWalk.i64_in _ (by omega);have ba:IntKind.i64.wrap ((a:Int)+4*(k:Int))=(p:Int):=by rw[IntWalk.i64_in _ (by omega)];omega
    have o4:p+3<M.length:=by omega
    rw[hp]at D0 D1 D2 D3;have W1:Hid (IntKind.i64.wrap ((p:Int)+1)=(p:Int)+1/\((p:Int)+1).toNat=p+1):=⟨IntWalk.i64_in _ (by omega),by omega⟩;have W2:Hid (IntKind.i64.wrap ((p:Int)+2)=(p:Int)+2/\((p:Int)+2).toNat=p+2):=⟨IntWalk.i64_in _ (by omega),by omega⟩;have W3:Hid (IntKind.i64.wrap ((p:Int)+3)=(p:Int)+3/\((p:Int)+3).toNat=p+3):=⟨IntWalk.i64_in _ (by omega),by omega⟩;clear hv d0 d1 d2 d3 gr bh bp bq gi ad V Z hp
    as_aux_lemma =>
    go_upto_region 19 with fail;apply ak 32 [_,_,_,_,.pointer (some ⟨mb,mo+p,none⟩),.int .u8 y0.toNat,U32 x0,U32 (x0 <<< 24),_,_,_,.pointer (some ⟨mb,mo+(p+1),none⟩),.int .u8 y1.toNat,U32 x1,U32 (x1 <<< 16),U32 ((x0 <<< 24) ||| (x1 <<< 16)),_,_,_,.pointer (some ⟨mb,mo+(p+2),none⟩),.int .u8 y2.toNat,U32 x2,U32 (x2 <<< 8),U32 (((x0 <<< 24) ||| (x1 <<< 16)) ||| (x2 <<< 8)),_,_,_,.pointer (some ⟨mb,mo+(p+3),none⟩),.int .u8 y3.toNat,U32 x3,U32 ((((x0 <<< 24) ||| (x1 <<< 16)) ||| (x2 <<< 8)) ||| x3),.pointer (some ⟨gw,k,none⟩)] [none,none,none,none,none,none,none,none,none,none,none,none,none,none,none,none,none,none,none,none,none,none,none,none,none,none,none,none,none,none,none,none] [[],[],[],[],[2,3],[4],[5],[6],[],[],[9],[8,10],[11],[12],[13],[7,14],[],[],[17],[16,18],[19],[20],[21],[15,22],[],[],[25],[24,26],[27],[28],[23,29],[0,1]] (by kernel_rfl) (by kernel_rfl) (by simp[aq])
    .trivial
    .simp (maxSteps:=1000000)only[List.take_succ_cons,List.take_zero,ay,aB,af,Act.put,List.setIfInBounds_toArray,List.set_cons_zero,List.set_cons_succ,aE,aH,aq,List.getD_cons_zero,List.getD_cons_succ,and_true,true_and,forall_const];and_intros
     iterate 4 · intro A r t;intros;rename_i d;go_simp;exact d _ _ (Ext.refl _) rfl
     .intro A r t o R d;obtain⟨E,C⟩:=o;go_simp;rw[if_pos (by omega)];exact d _ _ (Ext.refl _) rfl
     .intro A r t o R d;have f0:=t.cell D0.out;go_simp;exact d _ _ (Ext.refl _) rfl
     .intro A r t o R d;go_simp;exact d _ _ (Ext.refl _) (by rw[<-mc.out];exact fw y0)
     .intro A r t o R d;go_simp;exact d _ _ (Ext.refl _) (BV x0)
     iterate 3 · intro A r t;intros;rename_i d;go_simp;exact d _ _ (Ext.refl _) rfl
     .intro A r t o R d;obtain⟨E,C⟩:=o;go_simp;simp only[W1.out.1];rw[if_pos ⟨by omega,by omega⟩,W1.out.2];exact d _ _ (Ext.refl _) rfl
     .intro A r t o R d;have f1:=t.cell D1.out;go_simp;exact d _ _ (Ext.refl _) rfl
     .intro A r t o R d;go_simp;exact d _ _ (Ext.refl _) (by rw[<-hH.out];exact fw y1)
     .intro A r t o R d;go_simp;exact d _ _ (Ext.refl _) (BU x1)
     .intro A r t o R d;obtain⟨E,C⟩:=o;go_simp;exact d _ _ (Ext.refl _) (kI (x0 <<< 24) (x1 <<< 16))
     iterate 3 · intro A r t;intros;rename_i d;go_simp;exact d _ _ (Ext.refl _) rfl
     .intro A r t o R d;obtain⟨E,C⟩:=o;go_simp;simp only[W2.out.1];rw[if_pos ⟨by omega,by omega⟩,W2.out.2];exact d _ _ (Ext.refl _) rfl
     .intro A r t o R d;have f2:=t.cell D2.out;go_simp;exact d _ _ (Ext.refl _) rfl
     .intro A r t o R d;go_simp;exact d _ _ (Ext.refl _) (by rw[<-hK.out];exact fw y2)
     .intro A r t o R d;go_simp;exact d _ _ (Ext.refl _) (Ek x2)
     .intro A r t o R d;obtain⟨E,C⟩:=o;go_simp;exact d _ _ (Ext.refl _) (kI ((x0 <<< 24) ||| (x1 <<< 16)) (x2 <<< 8))
     iterate 3 · intro A r t;intros;rename_i d;go_simp;exact d _ _ (Ext.refl _) rfl
     .intro A r t o R d;obtain⟨E,C⟩:=o;go_simp;simp only[W3.out.1];rw[if_pos ⟨by omega,by omega⟩,W3.out.2];exact d _ _ (Ext.refl _) rfl
     .intro A r t o R d;have f3:=t.cell D3.out;go_simp;exact d _ _ (Ext.refl _) rfl
     .intro A r t o R d;go_simp;exact d _ _ (Ext.refl _) (by rw[<-hL.out];exact fw y3)
     .intro A r t o R d;obtain⟨E,C⟩:=o;go_simp;exact d _ _ (Ext.refl _) (kI (((x0 <<< 24) ||| (x1 <<< 16)) ||| (x2 <<< 8)) x3)
     .intro A r t o R d;obtain⟨E,C⟩:=o;go_simp;rw[if_pos (by omega)];exact d _ _ (Ext.refl _) rfl
    intro A wz aa o;simp only[aG,Nat.zero_add,Nat.reduceAdd,and_true]at o;simp(maxSteps:=1000000)only[List.take_succ_cons,List.take_zero,List.drop_succ_cons,List.drop_zero,af,Act.put,List.setIfInBounds_toArray,List.set_cons_zero,List.set_cons_succ,Nat.zero_add,Nat.reduceAdd,o];clear o;have cb:Hid _:=SumW.more K.out aa;have a':=cb.out.wb;have b9:(c.map U32).toArray.size=64:=by simp[HP.out.1]
    have J:=mP (l:=c) (i:=k) (W.getD k 0) (by rw[HP.out.1];omega);have U:=PreW.set HP.out (show k<64 by omega);rw[ei.out]at J U;have ca:Hid (PreW W (c.set k ((((x0 <<< 24) ||| (x1 <<< 16)) ||| (x2 <<< 8)) ||| x3)) (k+1)):=U
    go_wp2_with (refine aP rfl 100 (.tmp 100) (.tmp 99) rfl gw k rfl (U32 ((((x0 <<< 24) ||| (x1 <<< 16)) ||| (x2 <<< 8)) ||| x3)) rfl rfl _ (c.map U32).toArray a' (by omega) hI _ J ?_;intro wn T I)
    have ec:Hid _:=SumW.putW cb.out T I;clear T I a' b9 J U aa;go_roundw
    case rel=>exact⟨k+1,_,by go_num,by omega,ca.out,ec.out⟩
    case measure=>simp[intOf];omega
   have h6:k=16:=by omega
   subst h6;go_wp2_with fail;generalize((16:Nat):Int)=p0;go_loopw [12] (fun i wr=>∃(k:Nat) (c:List UInt32),i=.int .i64 k/\16<=k/\k<=64/\Hid (PreW W c k)/\Hid (SumW w wr gk O gw mb mo M D c)) (fun i _=>64 - (intOf i).toNat)
   case atStart=>exact⟨16,c,rfl,Nat.le_refl _,by omega,HP.out,K.out⟩
   case round =>
   obtain⟨k,c,rfl,C,o,HP,K⟩:=hrel
   by_cases H:k<64
   case pos =>
    have hn:=la.out k C H;have b8:=HP.out.1;obtain⟨X,hX⟩:∃x,W.getD (k - 15) 0=x:=⟨_,rfl⟩;obtain⟨Y,hY⟩:∃x,W.getD (k - 2) 0=x:=⟨_,rfl⟩;obtain⟨A0,hA⟩:∃x,W.getD (k - 16) 0=x:=⟨_,rfl⟩;obtain⟨B0,hB⟩:∃x,W.getD (k - 7) 0=x:=⟨_,rfl⟩;have au:∀j,j<k->wr.cell? ⟨gw,j,none⟩=some (U32 (W.getD j 0)):=fun j hj=>by
     rw[cell_of_row _ _ j _ _ _ K.out.wb,im (by omega),HP.out.2 j hj]
    have hN:=au (k - 15) (by omega);have e2:=au (k - 2) (by omega);have e16:=au (k - 16) (by omega);have e7:=au (k - 7) (by omega);rw[hX]at hN;rw[hY]at e2;rw[hA]at e16;rw[hB]at e7;obtain⟨p1,e'⟩:∃x,bg X 25=x:=⟨_,rfl⟩;obtain⟨q1,bk⟩:∃x,bg X 14=x:=⟨_,rfl⟩;obtain⟨p2,fa⟩:∃x,p1 ^^^ q1=x:=⟨_,rfl⟩;obtain⟨r1,fg⟩:∃x,X >>> 3=x:=⟨_,rfl⟩;obtain⟨s1,co⟩:∃x,p2 ^^^ r1=x:=⟨_,rfl⟩;obtain⟨p3,fb⟩:∃x,bg Y 15=x:=⟨_,rfl⟩;obtain⟨q3,bm⟩:∃x,bg Y 13=x:=⟨_,rfl⟩;obtain⟨p4,fc⟩:∃x,p3 ^^^ q3=x:=⟨_,rfl⟩;obtain⟨r2,fm⟩:∃x,Y >>> 10=x:=⟨_,rfl⟩;obtain⟨s2,bo⟩:∃x,p4 ^^^ r2=x:=⟨_,rfl⟩;obtain⟨z1,bs⟩:∃x,A0+s1=x:=⟨_,rfl⟩;obtain⟨z2,bv⟩:∃x,z1+B0=x:=⟨_,rfl⟩;obtain⟨z3,b0⟩:∃x,z2+s2=x:=⟨_,rfl⟩;have mp:Hid _:=bs;have ms:Hid _:=bv;have mt:Hid _:=b0;have ei:Hid (W.getD k 0=z3):=by
     unfold Hid;rw[hn];unfold kt;rw[hX,hY,hA,hB,e',bk,fa,fg,co,fb,bm,fc,fm,bo,bs,bv,b0]
    have f1:bits BinOp.xor IntKind.u32 (p1.toNat:Int) (q1.toNat:Int)=(p2.toNat:Int):=by rw[<-fa];exact bd _ _
    have f2:(X.toNat:Int) / 8=(r1.toNat:Int):=by rw[<-fg];exact iB X 3 (by decide)
    have f3:bits BinOp.xor IntKind.u32 (p2.toNat:Int) (r1.toNat:Int)=(s1.toNat:Int):=by rw[<-co];exact bd _ _
    have f4:bits BinOp.xor IntKind.u32 (p3.toNat:Int) (q3.toNat:Int)=(p4.toNat:Int):=by rw[<-fc];exact bd _ _
    have f5:(Y.toNat:Int) / 1024=(r2.toNat:Int):=by rw[<-fm];exact iB Y 10 (by decide)
    have f6:bits BinOp.xor IntKind.u32 (p4.toNat:Int) (r2.toNat:Int)=(s2.toNat:Int):=by rw[<-bo];exact bd _ _
    have lo:Hid _:=e';have d':Hid _:=bk;have ls:Hid _:=fb;have ea:Hid _:=bm;have n1:IntKind.i64.wrap ((k:Int) - 15)=((k - 15:Nat):Int):=by rw[IntWalk.i64_in _ (by omega)];omega
    have n3:IntKind.i64.wrap ((k:Int) - 2)=((k - 2:Nat):Int):=by rw[IntWalk.i64_in _ (by omega)];omega
    have m6:Hid (IntKind.i64.wrap ((k:Int) - 16)=((k - 16:Nat):Int)):=by unfold Hid;rw[IntWalk.i64_in _ (by omega)];omega
    have W7:Hid (IntKind.i64.wrap ((k:Int) - 7)=((k - 7:Nat):Int)):=by unfold Hid;rw[IntWalk.i64_in _ (by omega)];omega
    have nA:((k - 15:Nat):Int)<64:=by omega
    have n2:((k - 2:Nat):Int)<64:=by omega
    clear hX hY hA hB e' bk fa fg co fb bm fc fm bo bs bv b0 hn au b8;have T7:Hid (∀w,Calls Tryz.prog 64 #[U32 X,.int .i64 7] w fun e Q=>e=.returned (U32 p1)/\∃q,Q=w.drewN q):=fun w=>by rw[<-lo.out];exact Fb X w
    have m2:Hid (∀w,Calls Tryz.prog 64 #[U32 X,.int .i64 18] w fun e Q=>e=.returned (U32 q1)/\∃q,Q=w.drewN q):=fun w=>by rw[<-d'.out];exact Es X w
    have m0:Hid (∀w,Calls Tryz.prog 64 #[U32 Y,.int .i64 17] w fun e Q=>e=.returned (U32 p3)/\∃q,Q=w.drewN q):=fun w=>by rw[<-ls.out];exact Er Y w
    have m3:Hid (∀w,Calls Tryz.prog 64 #[U32 Y,.int .i64 19] w fun e Q=>e=.returned (U32 q3)/\∃q,Q=w.drewN q):=fun w=>by rw[<-ea.out];exact Et Y w
    as_aux_lemma =>
    go_upto_region 23 with fail;go_quiet (first | (go_at_call 64;first | with_reducible exact Calls.quiet_of (T7.out _) | with_reducible exact Calls.quiet_of (m2.out _)));obtain⟨r,ba⟩:∃r,r=wr.drewN nq:=⟨_,rfl⟩;have bc:Ext wr r:=by rw[ba];exact Ext.drawn _ _
    rw[<-ba];clear ba;have d2:=bc.cell e2;go_upto_region 24 with fail;go_quiet (first | (go_at_call 64;first | with_reducible exact Calls.quiet_of (m0.out _) | with_reducible exact Calls.quiet_of (m3.out _)));obtain⟨wu,gc⟩:∃wu,wu=r.drewN nq:=⟨_,rfl⟩;have c8:Ext wr wu:=bc.trans (by rw[gc];exact Ext.drawn _ _);rw[<-gc];clear gc;have l2:Hid _:=SumW.more K.out c8;have g16:=c8.cell e16;have g7:=c8.cell e7;clear hN e2 e16 e7 d2 bc c8 n1 n3 nA n2;go_upto_region 25 with fail;apply ak 18 [_,_,_,_,_,.pointer (some ⟨gw,k - 16,none⟩),U32 A0,_,U32 z1,_,_,_,.pointer (some ⟨gw,k - 7,none⟩),U32 B0,U32 z2,_,U32 z3,.pointer (some ⟨gw,k,none⟩)] [none,none,none,none,none,none,none,none,none,none,none,none,none,none,none,none,none,none] [[],[],[],[],[3],[2,4],[5],[],[6,7],[],[],[10],[9,11],[12],[8,13],[],[14,15],[0,1]] (by kernel_rfl) (by kernel_rfl) (by simp[aq])
    .trivial
    .simp (maxSteps:=1000000)only[List.take_succ_cons,List.take_zero,ay,aB,af,Act.put,List.setIfInBounds_toArray,List.set_cons_zero,List.set_cons_succ,aE,aH,aq,List.getD_cons_zero,List.getD_cons_succ,and_true,true_and,forall_const];and_intros
     iterate 5 · intro A r t;intros;rename_i d;go_simp;exact d _ _ (Ext.refl _) rfl
     .intro A r t o R d;obtain⟨E,C⟩:=o;go_simp;simp only[m6.out];rw[if_pos ⟨by omega,by omega⟩];exact d _ _ (Ext.refl _) rfl
     .intro A r t o R d;have f0:=t.cell g16;go_simp;exact d _ _ (Ext.refl _) rfl
     .intro A r t;intros;rename_i d;go_simp;exact d _ _ (Ext.refl _) rfl
     .intro A r t o R d;obtain⟨E,C⟩:=o;go_simp;exact d _ _ (Ext.refl _) (by rw[<-mp.out];exact fq A0 s1)
     iterate 3 · intro A r t;intros;rename_i d;go_simp;exact d _ _ (Ext.refl _) rfl
     .intro A r t o R d;obtain⟨E,C⟩:=o;go_simp;simp only[W7.out];rw[if_pos ⟨by omega,by omega⟩];exact d _ _ (Ext.refl _) rfl
     .intro A r t o R d;have f0:=t.cell g7;go_simp;exact d _ _ (Ext.refl _) rfl
     .intro A r t o R d;obtain⟨E,C⟩:=o;go_simp;exact d _ _ (Ext.refl _) (by rw[<-ms.out];exact fq z1 B0)
     .intro A r t;intros;rename_i d;go_simp;exact d _ _ (Ext.refl _) rfl
     .intro A r t o R d;obtain⟨E,C⟩:=o;go_simp;exact d _ _ (Ext.refl _) (by rw[<-mt.out];exact fq z2 s2)
     .intro A r t o R d;obtain⟨E,C⟩:=o;go_simp;exact d _ _ (Ext.refl _) rfl
    intro A wz aa o;simp only[aG,Nat.zero_add,Nat.reduceAdd,and_true]at o;simp(maxSteps:=1000000)only[List.take_succ_cons,List.take_zero,List.drop_succ_cons,List.drop_zero,af,Act.put,List.setIfInBounds_toArray,List.set_cons_zero,List.set_cons_succ,Nat.zero_add,Nat.reduceAdd,o];clear o;have cb:Hid _:=SumW.more l2.out aa;have a':=cb.out.wb;have b9:(c.map U32).toArray.size=64:=by simp[HP.out.1]
    have J:=mP (l:=c) (i:=k) (W.getD k 0) (by rw[HP.out.1];omega);have U:=PreW.set HP.out (show k<64 by omega);rw[ei.out]at J U;have ca:Hid (PreW W (c.set k z3) (k+1)):=U;clear f1 f2 f3 f4 f5 f6 g16 g7 aa
    go_wp2_with (refine aP rfl 100 (.tmp 162) (.tmp 161) rfl gw k rfl (U32 z3) rfl rfl _ (c.map U32).toArray a' (by omega) hI _ J ?_;intro wn T I)
    have ec:Hid _:=SumW.putW cb.out T I;clear T I a' b9 J U;go_roundw
    case rel=>exact⟨k+1,c.set k z3,by go_num,by omega,by omega,ca,ec⟩
    case measure=>simp[intOf];omega
   have h7:k=64:=by omega
   subst h7;obtain rfl:c=W:=PreW.all HP.out el.out;go_upto_region 27 with fail;obtain⟨wv,c6⟩:∃wv,wv=wr.alloc (.cells #[.int .u32 0,.int .u32 0,.int .u32 0,.int .u32 0,.int .u32 0,.int .u32 0,.int .u32 0,.int .u32 0] 103):=⟨_,rfl⟩;have B:wv.heap[wr.heap.size]? = some (.cells #[.int .u32 0,.int .u32 0,.int .u32 0,.int .u32 0,.int .u32 0,.int .u32 0,.int .u32 0,.int .u32 0] 103 (0,0)):=by rw[c6];exact ah _ _
   have j2:Ext wr wv:=by rw[c6];exact(Ext.refl _).alloc _
   have nx:=K.out.ext.size;have ek:Hid (SumV w wv gk O gw mb mo wr.heap.size M D c (List.replicate 8 0)):=by
    have h1:=(Array.getElem?_eq_some_iff.1 K.out.kb).1;have h2:=(Array.getElem?_eq_some_iff.1 K.out.hb).1;have h3:=(Array.getElem?_eq_some_iff.1 K.out.wb).1;have h4:mb<wr.heap.size:=World.block_lt_of_cell? _ _ (K.out.mc 0 (by omega));exact⟨K.out.more j2,B,⟨by omega,by omega,by omega,by omega,by omega⟩⟩
   rw[<-c6];obtain⟨S,hV⟩:∃g,wr.heap.size=g:=⟨_,rfl⟩;rw[hV]at ek B ⊢;clear c6 j2 hV nx;have b8:(D.map U32).length=8:=by rw[List.length_map];exact eg.out
   have hQ:(((#[.int .u32 0,.int .u32 0,.int .u32 0,.int .u32 0,.int .u32 0,.int .u32 0,.int .u32 0,.int .u32 0]:Array Value).toList.take 0++(D.map U32++(#[.int .u32 0,.int .u32 0,.int .u32 0,.int .u32 0,.int .u32 0,.int .u32 0,.int .u32 0,.int .u32 0]:Array Value).toList.drop (0+(D.map U32).length))).toArray)=(D.map U32).toArray:=by
    rw[b8];simp
   go_upto_region 28 with(refine wpList_copy_own rfl _ _ _ _ rfl 100 Tryz.underlying98 (by kernel_rfl) S 0 8 8 ⟨O,0,none⟩ 8 8 rfl rfl _ 103 B (D.map U32) (by rw[b8];rfl) (fun j v h=>bW ek.out.sw.hb j v (by simpa using h)) (by rw[b8];decide) (fun v hv=>by obtain⟨x,-,rfl⟩:=List.mem_map.1 hv;rfl) ?_;rw[hQ]);obtain⟨wc,ga⟩:∃wc,wc=wv.setRow S (D.map U32).toArray:=⟨_,rfl⟩;have hC:Hid (SumV w wc gk O gw mb mo S M D c D):=by
    unfold Hid;rw[ga];exact ek.out.Iy (setRow_heap _ _ _ _ _ _ B) (aw _ _ _)
   rw[<-ga];clear ga B hQ b8;obtain⟨i0,i1,i2,i3,i4,i5,i6,i7,fn⟩:=iu eg.out;have l1:Hid (jO D c 0=[i0,i1,i2,i3,i4,i5,i6,i7]):=fn;rw[show SumV w wc gk O gw mb mo S M D c D=SumV w wc gk O gw mb mo S M D c [i0,i1,i2,i3,i4,i5,i6,i7]by rw[<-fn]]at hC;clear fn;go_wp2_with fail;go_loopw [16] (fun i wr=>∃(k:Nat) (N a1 a2 a3 L a5 a6 a7:UInt32),k<=64/\i=.int .i64 k/\Hid (SumV w wr gk O gw mb mo S M D c [N,a1,a2,a3,L,a5,a6,a7])/\Hid (jO D c k=[N,a1,a2,a3,L,a5,a6,a7])) (fun i _=>64 - (intOf i).toNat)
   case atStart=>exact⟨0,i0,i1,i2,i3,i4,i5,i6,i7,by omega,rfl,hC.out,l1.out⟩
   case round =>
   obtain⟨k,N,a1,a2,a3,L,a5,a6,a7,o,rfl,b7,eb⟩:=hrel
   by_cases H:k<64
   case pos =>
    obtain⟨kk,bi⟩:∃x,dT.getD k 0=x:=⟨_,rfl⟩;obtain⟨ww,gd⟩:∃x,c.getD k 0=x:=⟨_,rfl⟩;obtain⟨x1,ad⟩:∃x,bg L 26=x:=⟨_,rfl⟩;obtain⟨x2,V⟩:∃x,bg L 21=x:=⟨_,rfl⟩;obtain⟨x3,Z⟩:∃x,x1 ^^^ x2=x:=⟨_,rfl⟩;obtain⟨x4,gj⟩:∃x,bg L 7=x:=⟨_,rfl⟩;obtain⟨x5,gl⟩:∃x,x3 ^^^ x4=x:=⟨_,rfl⟩;obtain⟨y1,bh⟩:∃x,a7+x5=x:=⟨_,rfl⟩;obtain⟨y2,bp⟩:∃x,L &&& a5=x:=⟨_,rfl⟩;obtain⟨y3,bq⟩:∃x,~~~L=x:=⟨_,rfl⟩;obtain⟨y4,gs⟩:∃x,y3 &&& a6=x:=⟨_,rfl⟩;obtain⟨y5,gx⟩:∃x,y2 ^^^ y4=x:=⟨_,rfl⟩;obtain⟨y6,c'⟩:∃x,y1+y5=x:=⟨_,rfl⟩;obtain⟨y7,da⟩:∃x,y6+kk=x:=⟨_,rfl⟩;obtain⟨tt,c2⟩:∃x,y7+ww=x:=⟨_,rfl⟩;obtain⟨z1,bs⟩:∃x,bg N 30=x:=⟨_,rfl⟩;obtain⟨z2,bv⟩:∃x,bg N 19=x:=⟨_,rfl⟩;obtain⟨z3,b0⟩:∃x,z1 ^^^ z2=x:=⟨_,rfl⟩;obtain⟨z4,gy⟩:∃x,bg N 10=x:=⟨_,rfl⟩;obtain⟨z5,g0⟩:∃x,z3 ^^^ z4=x:=⟨_,rfl⟩;obtain⟨v1,fv⟩:∃x,N &&& a1=x:=⟨_,rfl⟩;obtain⟨v2,fx⟩:∃x,N &&& a2=x:=⟨_,rfl⟩;obtain⟨v3,f7⟩:∃x,v1 ^^^ v2=x:=⟨_,rfl⟩;obtain⟨v4,f8⟩:∃x,a1 &&& a2=x:=⟨_,rfl⟩;obtain⟨v5,f'⟩:∃x,v3 ^^^ v4=x:=⟨_,rfl⟩;obtain⟨m1,cx⟩:∃x,tt+z5=x:=⟨_,rfl⟩;obtain⟨n0,c0⟩:∃x,m1+v5=x:=⟨_,rfl⟩;obtain⟨n4,c1⟩:∃x,a3+tt=x:=⟨_,rfl⟩;have ka:Hid (bits BinOp.xor IntKind.u32 (x1.toNat:Int) (x2.toNat:Int)=(x3.toNat:Int)):=by unfold Hid;rw[<-Z];exact bd _ _
    have kb:Hid (bits BinOp.xor IntKind.u32 (x3.toNat:Int) (x4.toNat:Int)=(x5.toNat:Int)):=by unfold Hid;rw[<-gl];exact bd _ _
    have kc:Hid (bits BinOp.and IntKind.u32 (L.toNat:Int) (a5.toNat:Int)=(y2.toNat:Int)):=by unfold Hid;rw[<-bp];exact dw _ _
    have ki:Hid (bits BinOp.and IntKind.u32 (y3.toNat:Int) (a6.toNat:Int)=(y4.toNat:Int)):=by unfold Hid;rw[<-gs];exact dw _ _
    have kj:Hid (bits BinOp.xor IntKind.u32 (y2.toNat:Int) (y4.toNat:Int)=(y5.toNat:Int)):=by unfold Hid;rw[<-gx];exact bd _ _
    have kl:Hid (bits BinOp.xor IntKind.u32 (z1.toNat:Int) (z2.toNat:Int)=(z3.toNat:Int)):=by unfold Hid;rw[<-b0];exact bd _ _
    have km:Hid (bits BinOp.xor IntKind.u32 (z3.toNat:Int) (z4.toNat:Int)=(z5.toNat:Int)):=by unfold Hid;rw[<-g0];exact bd _ _
    have j3:Hid (bits BinOp.and IntKind.u32 (N.toNat:Int) (a1.toNat:Int)=(v1.toNat:Int)):=by unfold Hid;rw[<-fv];exact dw _ _
    have j4:Hid (bits BinOp.and IntKind.u32 (N.toNat:Int) (a2.toNat:Int)=(v2.toNat:Int)):=by unfold Hid;rw[<-fx];exact dw _ _
    have j5:Hid (bits BinOp.xor IntKind.u32 (v1.toNat:Int) (v2.toNat:Int)=(v3.toNat:Int)):=by unfold Hid;rw[<-f7];exact bd _ _
    have j6:Hid (bits BinOp.and IntKind.u32 (a1.toNat:Int) (a2.toNat:Int)=(v4.toNat:Int)):=by unfold Hid;rw[<-f8];exact dw _ _
    have j7:Hid (bits BinOp.xor IntKind.u32 (v3.toNat:Int) (v4.toNat:Int)=(v5.toNat:Int)):=by unfold Hid;rw[<-f'];exact bd _ _
    have kd:Hid (bits BinOp.xor IntKind.u32 4294967295 (L.toNat:Int)=(y3.toNat:Int)):=by unfold Hid;rw[<-bq];exact oR _
    have g5:Hid (((a7.toNat:Int)+(x5.toNat:Int))%4294967296=(y1.toNat:Int)):=by unfold Hid;rw[<-bh];exact bZ _ _
    have n':Hid (IntKind.u32.wrap ((a7.toNat:Int)+(x5.toNat:Int))=(y1.toNat:Int)):=by unfold Hid;rw[<-bh,IntKind.wrap_u32];exact bZ _ _
    have g6:Hid (((y1.toNat:Int)+(y5.toNat:Int))%4294967296=(y6.toNat:Int)):=by unfold Hid;rw[<-c'];exact bZ _ _
    have oa:Hid (IntKind.u32.wrap ((y1.toNat:Int)+(y5.toNat:Int))=(y6.toNat:Int)):=by unfold Hid;rw[<-c',IntKind.wrap_u32];exact bZ _ _
    have g':Hid (((y6.toNat:Int)+(kk.toNat:Int))%4294967296=(y7.toNat:Int)):=by unfold Hid;rw[<-da];exact bZ _ _
    have ob:Hid (IntKind.u32.wrap ((y6.toNat:Int)+(kk.toNat:Int))=(y7.toNat:Int)):=by unfold Hid;rw[<-da,IntKind.wrap_u32];exact bZ _ _
    have dn:Hid (((y7.toNat:Int)+(ww.toNat:Int))%4294967296=(tt.toNat:Int)):=by unfold Hid;rw[<-c2];exact bZ _ _
    have n9:Hid (IntKind.u32.wrap ((y7.toNat:Int)+(ww.toNat:Int))=(tt.toNat:Int)):=by unfold Hid;rw[<-c2,IntKind.wrap_u32];exact bZ _ _
    have g4:Hid (((tt.toNat:Int)+(z5.toNat:Int))%4294967296=(m1.toNat:Int)):=by unfold Hid;rw[<-cx];exact bZ _ _
    have n5:Hid (IntKind.u32.wrap ((tt.toNat:Int)+(z5.toNat:Int))=(m1.toNat:Int)):=by unfold Hid;rw[<-cx,IntKind.wrap_u32];exact bZ _ _
    have dc:Hid (((m1.toNat:Int)+(v5.toNat:Int))%4294967296=(n0.toNat:Int)):=by unfold Hid;rw[<-c0];exact bZ _ _
    have n6:Hid (IntKind.u32.wrap ((m1.toNat:Int)+(v5.toNat:Int))=(n0.toNat:Int)):=by unfold Hid;rw[<-c0,IntKind.wrap_u32];exact bZ _ _
    have dk:Hid (((a3.toNat:Int)+(tt.toNat:Int))%4294967296=(n4.toNat:Int)):=by unfold Hid;rw[<-c1];exact bZ _ _
    have n7:Hid (IntKind.u32.wrap ((a3.toNat:Int)+(tt.toNat:Int))=(n4.toNat:Int)):=by unfold Hid;rw[<-c1,IntKind.wrap_u32];exact bZ _ _
    have T6:Hid (∀w,Calls Tryz.prog 64 #[U32 L,.int .i64 6] w fun e Q=>e=.returned (U32 x1)/\∃q,Q=w.drewN q):=fun w=>by rw[<-ad];exact Fa L w
    have mv:Hid (∀w,Calls Tryz.prog 64 #[U32 L,.int .i64 11] w fun e Q=>e=.returned (U32 x2)/\∃q,Q=w.drewN q):=fun w=>by rw[<-V];exact Eo L w
    have m5:Hid (∀w,Calls Tryz.prog 64 #[U32 L,.int .i64 25] w fun e Q=>e=.returned (U32 x4)/\∃q,Q=w.drewN q):=fun w=>by rw[<-gj];exact Ew L w
    have T2:Hid (∀w,Calls Tryz.prog 64 #[U32 N,.int .i64 2] w fun e Q=>e=.returned (U32 z1)/\∃q,Q=w.drewN q):=fun w=>by rw[<-bs];exact E' N w
    have mw:Hid (∀w,Calls Tryz.prog 64 #[U32 N,.int .i64 13] w fun e Q=>e=.returned (U32 z2)/\∃q,Q=w.drewN q):=fun w=>by rw[<-bv];exact Ep N w
    have m4:Hid (∀w,Calls Tryz.prog 64 #[U32 N,.int .i64 22] w fun e Q=>e=.returned (U32 z4)/\∃q,Q=w.drewN q):=fun w=>by rw[<-gy];exact Eu N w
    have hx:Hid (jO D c (k+1)=[n0,N,a1,a2,n4,L,a5,a6]):=by
     show rnd (jO D c k) (dT.getD k 0) (c.getD k 0)=_;rw[eb.out];simp only[rnd,List.getD_cons_zero,List.getD_cons_succ];rw[bi,gd,ad,V,Z,gj,gl,bh,bp,bq,gs,gx,c',da,c2,bs,bv,b0,gy,g0,fv,fx,f7,f8,f',<-UInt32.add_assoc,cx,c0,c1]
    have lc:Hid (wr.cell? ⟨gk,k,none⟩=some (U32 kk)):=by unfold Hid;rw[cell_of_row _ _ k _ _ _ b7.out.sw.kb,im (l:=dT) (i:=k) H,bi]
    have l6:Hid (wr.cell? ⟨gw,k,none⟩=some (U32 ww)):=by unfold Hid;rw[cell_of_row _ _ k _ _ _ b7.out.sw.wb,im (l:=c) (i:=k) (by rw[el.out];exact H),gd]
    clear bi gd ad V Z gj gl bh bp bq gs gx c' da c2 bs bv b0 gy g0 fv fx f7 f8 f' cx c0 c1;have B:=b7.out.vb;have s4:wr.cell? ⟨S,4,none⟩=some (U32 L):=(cell_of_row _ _ 4 _ _ _ B).trans rfl;clear B;have f3:=ka.out;have f5:=kb.out;go_upto_region 31 with fail;go_quiet (first | (go_at_call 64;first | with_reducible exact Calls.quiet_of (T6.out _) | with_reducible exact Calls.quiet_of (mv.out _) | with_reducible exact Calls.quiet_of (m5.out _)));obtain⟨r,ba⟩:∃r,r=wr.drewN nq:=⟨_,rfl⟩;have bc:Ext wr r:=by rw[ba];exact Ext.drawn _ _
    rw[<-ba];have hG:Hid _:=SumV.more b7.out bc;have li:Hid _:=bc.cell lc.out;have ma:Hid _:=bc.cell l6.out;clear ba s4 bc f3 f5;have B:=hG.out.vb;have s4:r.cell? ⟨S,4,none⟩=some (U32 L):=(cell_of_row _ _ 4 _ _ _ B).trans rfl;have s5:r.cell? ⟨S,5,none⟩=some (U32 a5):=(cell_of_row _ _ 5 _ _ _ B).trans rfl;have s6:r.cell? ⟨S,6,none⟩=some (U32 a6):=(cell_of_row _ _ 6 _ _ _ B).trans rfl;have s7:r.cell? ⟨S,7,none⟩=some (U32 a7):=(cell_of_row _ _ 7 _ _ _ B).trans rfl;have sk:=li.out;have sw:=ma.out;clear B;go_upto_region 33 with fail;rw[kc.out,show(if IntKind.u32.signed=true then(-1:Int)else IntKind.u32.max)=4294967295 from rfl,kd.out,ki.out,kj.out];clear s4 s5 s6;have f1:=g5.out;have f2:=g6.out;have f3:=g'.out;have f4:=dn.out;have h':(k:Int)<64:=by omega
    go_quiet (fail)
    try rw[dn.out]
    clear s7 sk sw f1 f2 f3 f4 h';obtain⟨wp,c5⟩:∃wp,wp=r.drewN nq:=⟨_,rfl⟩;have j1:Ext r wp:=by rw[c5];exact Ext.drawn _ _
    rw[<-c5];have hE:Hid _:=SumV.more hG.out j1;clear c5 j1;have B:=hE.out.vb;have s0:wp.cell? ⟨S,0,none⟩=some (U32 N):=(cell_of_row _ _ 0 _ _ _ B).trans rfl;clear B;have f3:=kl.out;have f5:=km.out;go_upto_region 34 with fail;go_quiet (first | (go_at_call 64;first | with_reducible exact Calls.quiet_of (T2.out _) | with_reducible exact Calls.quiet_of (mw.out _) | with_reducible exact Calls.quiet_of (m4.out _)));clear s0 f3 f5;obtain⟨wo,gb⟩:∃wo,wo=wp.drewN nq:=⟨_,rfl⟩;have j0:Ext wp wo:=by rw[gb];exact Ext.drawn _ _
    rw[<-gb];have hD:Hid _:=SumV.more hE.out j0;clear gb j0;have B:=hD.out.vb;have r0:wo.cell? ⟨S,0,none⟩=some (U32 N):=(cell_of_row _ _ 0 _ _ _ B).trans rfl;have r1:wo.cell? ⟨S,1,none⟩=some (U32 a1):=(cell_of_row _ _ 1 _ _ _ B).trans rfl;have r2:wo.cell? ⟨S,2,none⟩=some (U32 a2):=(cell_of_row _ _ 2 _ _ _ B).trans rfl;have r3:wo.cell? ⟨S,3,none⟩=some (U32 a3):=(cell_of_row _ _ 3 _ _ _ B).trans rfl;have r4:wo.cell? ⟨S,4,none⟩=some (U32 L):=(cell_of_row _ _ 4 _ _ _ B).trans rfl;have r5:wo.cell? ⟨S,5,none⟩=some (U32 a5):=(cell_of_row _ _ 5 _ _ _ B).trans rfl;have r6:wo.cell? ⟨S,6,none⟩=some (U32 a6):=(cell_of_row _ _ 6 _ _ _ B).trans rfl;go_upto_region 36 with fail;rw[j3.out,j4.out,j5.out,j6.out,j7.out];have ol:Hid ((#[.int .u32 (((m1.toNat:Int)+(v5.toNat:Int))%4294967296),U32 N,U32 a1,U32 a2,.int .u32 (((a3.toNat:Int)+(tt.toNat:Int))%4294967296),U32 L,U32 a5,U32 a6]:Array Value)=#[U32 n0,U32 N,U32 a1,U32 a2,U32 n4,U32 L,U32 a5,U32 a6]):=by unfold Hid;rw[dc.out,dk.out]
    have m7:=g4.out;have m':=dc.out;have na:=dk.out
    go_wp2_with (refine gI ?ha 103 (.tmp 15) (.tmp 258) ?hb S 0 ?hc #[U32 n0,U32 N,U32 a1,U32 a2,U32 n4,U32 L,U32 a5,U32 a6] ?hd ?he _ _ B ?hf jr #[U32 n0,U32 N,U32 a1,U32 a2,U32 n4,U32 L,U32 a5,U32 a6] ?hg ?hh;(case ha=>rfl);(case hb=>rfl);(case hc=>rfl);(case he=>intro v hv;simp at hv;rcases hv with rfl | rfl | rfl | rfl | rfl | rfl | rfl | rfl <;> rfl);(case hf=>simp);(case hg=>simp);(case hd=>go_simp);intro wn T I)
    have eh:Hid _:=SumV.Iy hD.out (cur':=[n0,N,a1,a2,n4,L,a5,a6]) T I;clear r0 r1 r2 r3 r4 r5 r6 B T I m7 m' na;go_roundw
    case rel=>exact⟨k+1,n0,N,a1,a2,n4,L,a5,a6,by omega,by go_num,eh.out,hx.out⟩
    case measure=>simp[intOf];omega
   have bi:k=64:=by omega
   subst bi;obtain⟨ab,cf⟩:∃l,[N,a1,a2,a3,L,a5,a6,a7]=l:=⟨_,rfl⟩;have b6:Hid (ab.length=8):=by rw[<-cf];rfl
   rw[cf]at b7 eb;have kp:Hid (SumV w wr gk O gw mb mo S M (dP D ab 0) c ab):=b7.out;have ag:Hid _:=eg.out;clear cf;go_wp2_with fail;go_loopw [22] (fun i wr=>∃k:Nat,k<=8/\i=.int .i64 k/\Hid (SumV w wr gk O gw mb mo S M (dP D ab k) c ab)) (fun i _=>8 - (intOf i).toNat)
   case atStart=>exact⟨0,by omega,rfl,kp.out⟩
   case round =>
   obtain⟨k,o,rfl,H2⟩:=hrel
   by_cases H:k<8
   case pos =>
    as_aux_lemma =>
    obtain⟨sk,fs⟩:∃x,D.getD k 0=x:=⟨_,rfl⟩;obtain⟨fk,e1⟩:∃x,ab.getD k 0=x:=⟨_,rfl⟩;obtain⟨xk,go⟩:∃x,sk+fk=x:=⟨_,rfl⟩;have io:=rx ag.out b6.out o;have U:=ry ag.out b6.out H;have fd:=ru ag.out b6.out H;rw[fs]at fd;rw[fs,e1,go]at U;have ho:Hid (Value.int .u32 (IntKind.u32.wrap ((sk.toNat:Int)+(fk.toNat:Int)))=U32 xk):=by unfold Hid;rw[<-go];exact fq sk fk
    have k4:Hid (wr.cell? ⟨O,k,none⟩=some (U32 sk)):=by unfold Hid;rw[cell_of_row _ _ k _ _ _ H2.out.sw.hb,im (by omega),fd]
    have k5:Hid (wr.cell? ⟨S,k,none⟩=some (U32 fk)):=by unfold Hid;rw[cell_of_row _ _ k _ _ _ H2.out.vb,im (by rw[b6.out];exact H),e1]
    have ca:Hid _:=U;have cu:Hid _:=io;clear fs e1 go fd U io;go_upto_region 40 with fail;apply ak 11 [_,_,_,_,.pointer (some ⟨O,k,none⟩),U32 sk,_,.pointer (some ⟨S,k,none⟩),U32 fk,U32 xk,.pointer (some ⟨O,k,none⟩)] [none,none,none,none,none,none,none,none,none,none,none] [[],[],[],[],[2,3],[4],[],[6],[7],[5,8],[0,1]] (by kernel_rfl) (by kernel_rfl) (by simp[aq])
    .trivial
    .simp (maxSteps:=1000000)only[List.take_succ_cons,List.take_zero,ay,aB,af,Act.put,List.setIfInBounds_toArray,List.set_cons_zero,List.set_cons_succ,aE,aH,aq,List.getD_cons_zero,List.getD_cons_succ,and_true,true_and,forall_const];and_intros
     iterate 4 · intro A r t;intros;rename_i d;go_simp;exact d _ _ (Ext.refl _) rfl
     .intro A r t o R d;obtain⟨E,C⟩:=o;go_simp;exact d _ _ (Ext.refl _) rfl
     .intro A r t o R d;have f0:=t.cell k4.out;go_simp;exact d _ _ (Ext.refl _) rfl
     .intro A r t;intros;rename_i d;go_simp;exact d _ _ (Ext.refl _) rfl
     .intro A r t o R d;go_simp;exact d _ _ (Ext.refl _) rfl
     .intro A r t o R d;have f0:=t.cell k5.out;go_simp;exact d _ _ (Ext.refl _) rfl
     .intro A r t o R d;obtain⟨E,C⟩:=o;go_simp;exact d _ _ (Ext.refl _) ho.out
     .intro A r t o R d;obtain⟨E,C⟩:=o;go_simp;exact d _ _ (Ext.refl _) rfl
    intro A wz aa o;simp only[aG,Nat.zero_add,Nat.reduceAdd,and_true]at o;simp(maxSteps:=1000000)only[List.take_succ_cons,List.take_zero,List.drop_succ_cons,List.drop_zero,af,Act.put,List.setIfInBounds_toArray,List.set_cons_zero,List.set_cons_succ,Nat.zero_add,Nat.reduceAdd,o];clear o;have d4:Hid _:=SumV.more H2.out aa;have h5:=d4.out.sw.hb;have b9:((dP D ab k).map U32).toArray.size=8:=by simp[cu.out]
    have J:=mP (l:=dP D ab k) (i:=k) xk (by rw[cu.out];exact H);rw[<-ca.out]at J
    go_wp2_with (refine aP rfl 100 (.tmp 273) (.tmp 272) rfl O k rfl (U32 xk) rfl rfl _ ((dP D ab k).map U32).toArray h5 (by omega) hI _ J ?_;intro wn T I)
    have eh:Hid _:=SumV.Ig d4.out T I;clear T I h5 b9 J aa;go_roundw
    case rel=>exact⟨k+1,by omega,by go_num,eh.out⟩
    case measure=>simp[intOf];omega
   have nn:k=8:=by omega
   subst nn;have it:dP D ab 8=fj D ((M.drop a).take 64):=by
    unfold dP;rw[lm.out,eb.out,List.drop_eq_nil_of_le (by rw[ag.out];omega),List.append_nil,List.take_of_length_le (by simp[ag.out,b6.out])]
   have l3:Hid (SumW w wr gk O gw mb mo M (fj D ((M.drop a).take 64)) c):=by
    have h9:=H2.out.sw;rw[it]at h9;exact h9
   have k7:Hid ((aT (fj D ((M.drop a).take 64)) (M.drop (a+64))).1=cs):=by
    unfold Hid;rw[<-ux av];exact HF.out
   have hw:Hid ((fj D ((M.drop a).take 64)).length=8):=qC ag.out;have oi:IntKind.i64.wrap ((a:Int)+64)=((a+64:Nat):Int):=by rw[IntWalk.i64_in _ (by omega)];omega
   clear it;go_wp2_with fail;go_roundw
   case rel=>exact⟨a+64,_,c,by go_num,by omega,by have:=ks.out;omega,hw.out,el.out,k7.out,l3.out⟩
   case measure=>simp[intOf];omega
  obtain rfl:D=cs:=by
   have h9:=HF.out;rw[wF D (by omega)]at h9;exact h9
  have ht:Hid (wr.heap[O]? = some (.cells (D.map U32).toArray 100 (0,0))):=HS.out.hb;have eo:Hid (Ext w wr):=HS.out.ext;have ao:Hid _:=ft;clear HS HF;obtain⟨wl,ix⟩:∃x,wr=x:=⟨_,rfl⟩;rw[ix]at ht eo ⊢;clear ix;go_wp2_with fail;go_loopw [23,24] (fun ov i wr=>∃k:Nat,k<=8/\i=.int .i64 k/\Hid (wr.ownsRow wl.heap.size 5 1 ov (4*k) (((D.take k).flatMap ex).map fun x=>.int .u8 x.toNat))/\Hid (Ext wl wr)) (fun _ i _=>8 - (intOf i).toNat)
  case atStart=>exact⟨0,by omega,rfl,World.ownsRow_nil _ _ _ _,Ext.refl _⟩
  case round =>
  obtain⟨j,hj,rfl,b5,em⟩:=hrel;obtain⟨ja,jc,rfl,-⟩:=Row.GW b5.out (by omega)
  by_cases H:j<8
  case pos =>
   as_aux_lemma =>
   obtain⟨x,gq⟩:∃x,D.getD j 0=x:=⟨_,rfl⟩;obtain⟨q1,bk⟩:∃q,x >>> 24=q:=⟨_,rfl⟩;obtain⟨q2,ff⟩:∃q,x >>> 16=q:=⟨_,rfl⟩;obtain⟨q3,bm⟩:∃q,x >>> 8=q:=⟨_,rfl⟩;have d':Hid (Value.int .u32 ((x.toNat:Int) / 16777216)=U32 q1):=by unfold Hid;rw[<-bk];exact congrArg (Value.int .u32) (iB x 24 (by decide))
   have l0:Hid (Value.int .u32 ((x.toNat:Int) / 65536)=U32 q2):=by unfold Hid;rw[<-ff];exact congrArg (Value.int .u32) (iB x 16 (by decide))
   have ea:Hid (Value.int .u32 ((x.toNat:Int) / 256)=U32 q3):=by unfold Hid;rw[<-bm];exact congrArg (Value.int .u32) (iB x 8 (by decide))
   have dp:Hid (ex x=[UInt8.ofNat q1.toNat,UInt8.ofNat q2.toNat,UInt8.ofNat q3.toNat,UInt8.ofNat x.toNat]):=by unfold Hid ex;rw[bk,ff,bm]
   have HC:Hid (wr.cell? ⟨O,j,none⟩=some (U32 x)):=by unfold Hid;exact em.out.cell (by rw[cell_of_row _ _ j _ _ _ ht.out,im (by rw[ao.out];exact H),gq])
   have mm:Hid _:=gq;clear bk ff bm gq;obtain⟨b1,er⟩:∃b,UInt8.ofNat q1.toNat=b:=⟨_,rfl⟩;obtain⟨b2,es⟩:∃b,UInt8.ofNat q2.toNat=b:=⟨_,rfl⟩;obtain⟨b3,ev⟩:∃b,UInt8.ofNat q3.toNat=b:=⟨_,rfl⟩;obtain⟨b4,e0⟩:∃b,UInt8.ofNat x.toNat=b:=⟨_,rfl⟩;have k0:Hid (Value.int .u8 (IntKind.u8.wrap (q1.toNat:Int))=.int .u8 b1.toNat):=by unfold Hid;rw[<-er];exact mU q1
   have k1:Hid (Value.int .u8 (IntKind.u8.wrap (q2.toNat:Int))=.int .u8 b2.toNat):=by unfold Hid;rw[<-es];exact mU q2
   have k2:Hid (Value.int .u8 (IntKind.u8.wrap (q3.toNat:Int))=.int .u8 b3.toNat):=by unfold Hid;rw[<-ev];exact mU q3
   have k3:Hid (Value.int .u8 (IntKind.u8.wrap (x.toNat:Int))=.int .u8 b4.toNat):=by unfold Hid;rw[<-e0];exact mU x
   rw[er,es,ev,e0]at dp;clear er es ev e0;have b6:Hid (((D.take j).flatMap ex).length=4*j):=by
    have h9:=b5.out.1;unfold Hid;simpa using h9
   go_upto_region 45 with fail;apply ak 25 [_,_,_,.pointer (some ⟨O,j,none⟩),U32 x,U32 q1,.int .u8 b1.toNat,_,_,.pointer (some ⟨O,j,none⟩),U32 x,U32 q2,.int .u8 b2.toNat,_,_,.pointer (some ⟨O,j,none⟩),U32 x,U32 q3,.int .u8 b3.toNat,_,_,.pointer (some ⟨O,j,none⟩),U32 x,.int .u8 b4.toNat,undef] [none,none,none,none,none,none,none,none,none,none,none,none,none,none,none,none,none,none,none,none,none,none,none,none,some (fun u Q=>∃g,u=.slice (some ⟨g,0,none⟩) 4 4/\wr.heap.size<=g/\Q.heap[g]? = some (.cells #[.int .u8 b1.toNat,.int .u8 b2.toNat,.int .u8 b3.toNat,.int .u8 b4.toNat] 5 (0,0)))] [[],[],[],[1,2],[3],[4],[5],[],[],[7,8],[9],[10],[11],[],[],[13,14],[15],[16],[17],[],[],[19,20],[21],[22],[6,12,18,23]] (by kernel_rfl) (by kernel_rfl) (by simp[aq])
   .refine ⟨?_,trivial⟩
    .exact fun u w Q he ⟨g,h1,h2,h3⟩=>⟨g,h1,h2,(he.block g (Array.getElem?_eq_some_iff.1 h3).1).trans h3⟩
   .simp (maxSteps:=1000000)only[List.take_succ_cons,List.take_zero,ay,aB,af,Act.put,List.setIfInBounds_toArray,List.set_cons_zero,List.set_cons_succ,aE,aH,aq,List.getD_cons_zero,List.getD_cons_succ,and_true,true_and,forall_const];and_intros
    iterate 3 · intro A r t;intros;rename_i d;go_simp;exact d _ _ (Ext.refl _) rfl
    .intro A r t o R d;obtain⟨E,C⟩:=o;go_simp;exact d _ _ (Ext.refl _) rfl
    .intro A r t o R d;have f0:=t.cell HC.out;go_simp;exact d _ _ (Ext.refl _) rfl
    .intro A r t o R d;go_simp;exact d _ _ (Ext.refl _) d'.out
    .intro A r t o R d;go_simp;exact d _ _ (Ext.refl _) k0.out
    iterate 2 · intro A r t;intros;rename_i d;go_simp;exact d _ _ (Ext.refl _) rfl
    .intro A r t o R d;obtain⟨E,C⟩:=o;go_simp;exact d _ _ (Ext.refl _) rfl
    .intro A r t o R d;have f0:=t.cell HC.out;go_simp;exact d _ _ (Ext.refl _) rfl
    .intro A r t o R d;go_simp;exact d _ _ (Ext.refl _) l0.out
    .intro A r t o R d;go_simp;exact d _ _ (Ext.refl _) k1.out
    iterate 2 · intro A r t;intros;rename_i d;go_simp;exact d _ _ (Ext.refl _) rfl
    .intro A r t o R d;obtain⟨E,C⟩:=o;go_simp;exact d _ _ (Ext.refl _) rfl
    .intro A r t o R d;have f0:=t.cell HC.out;go_simp;exact d _ _ (Ext.refl _) rfl
    .intro A r t o R d;go_simp;exact d _ _ (Ext.refl _) ea.out
    .intro A r t o R d;go_simp;exact d _ _ (Ext.refl _) k2.out
    iterate 2 · intro A r t;intros;rename_i d;go_simp;exact d _ _ (Ext.refl _) rfl
    .intro A r t o R d;obtain⟨E,C⟩:=o;go_simp;exact d _ _ (Ext.refl _) rfl
    .intro A r t o R d;have f0:=t.cell HC.out;go_simp;exact d _ _ (Ext.refl _) rfl
    .intro A r t o R d;go_simp;exact d _ _ (Ext.refl _) k3.out
    .intro A r t o R d;obtain⟨E,C,o2,o3⟩:=o;go_simp;exact d _ _ ((Ext.refl _).alloc _) ⟨_,rfl,t.size,ah _ _⟩
   intro A wz aa o;simp only[aG,Nat.zero_add,Nat.reduceAdd,and_true]at o;have nC:=o.2.2.2.2.2.2.2.2.2.2.2.2.2.2.2.2.2.2.2.2.2.2.2.2;simp(maxSteps:=1000000)only[List.take_succ_cons,List.take_zero,List.drop_succ_cons,List.drop_zero,af,Act.put,List.setIfInBounds_toArray,List.set_cons_zero,List.set_cons_succ,Nat.zero_add,Nat.reduceAdd,o];clear o;generalize A 24=pp at *;obtain⟨g,rfl,ot,nb⟩:=nC;have cl:=az b5.out aa;have d7:=em.out.trans aa
   go_wp2_with (at_builtin;refine eT rfl _ _ rfl wl.heap.size _ (4*j) _ rfl cl g 4 4 [b1,b2,b3,b4] rfl rfl nb (by omega) d7.size ?_;intro v' w6 e6 nc)
   go_roundw
   case rel =>
    refine⟨j+1,by omega,by go_num,?_,aA d7 cl nc⟩;have h9:(D.take (j+1)).flatMap ex=(D.take j).flatMap ex++[b1,b2,b3,b4]:=by
     rw[List.take_add_one,List.flatMap_append,List.getElem?_eq_getElem (by rw[ao.out];exact H)];congr 1;have h8:D[j]'(by rw[ao.out];exact H)=x:=by
      rw[<-mm.out,List.getD_eq_getElem?_getD,List.getElem?_eq_getElem (by rw[ao.out];exact H)];rfl
     rw[h8];simpa using dp.out
    rw[h9];exact e6
   case measure=>simp[intOf];omega
  have nm:j=8:=by omega
  subst nm;go_wp2_with fail;go_ret;have h9:=b5.out.mono (base':=w.heap.size) eo.out.size;rw[List.take_of_length_le (by rw[ao.out];omega),<-dq.out]at h9;exact⟨⟨_,rfl,h9⟩,eo.out.trans em.out⟩
end
end Go.Proofs.YtgfegpnmlkdjfaaGreatDoor
