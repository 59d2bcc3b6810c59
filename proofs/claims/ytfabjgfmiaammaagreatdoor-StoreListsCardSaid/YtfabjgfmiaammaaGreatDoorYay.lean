/- Contracts of the program's functions and plain laws behind the card. Conditions: as each theorem states. -/
import Derived.Test.YtfabjgfmiaammaaGreatDoorYau
import Derived.Laws.CopyOwn
import Derived.Deep.Onto
set_option linter.unusedVariables false
set_option linter.unusedSimpArgs false
set_option linter.unusedSectionVars false
set_option maxRecDepth 100000
set_option maxHeartbeats 64000000
namespace Go.Proofs.YtfabjgfmiaammaaGreatDoor
section
open Go Go.RowKit
structure SumW (w wr:World) (gk gh gw mb mo:Nat) (M:B8) (st c:List UInt32):Prop where
 ext:Ext w wr
 kb:wr.heap[gk]? = some (.cells (dQ.map U32).toArray 167 (0,0))
 hb:wr.heap[gh]? = some (.cells (st.map U32).toArray 167 (0,0))
 wb:wr.heap[gw]? = some (.cells (c.map U32).toArray 167 (0,0))
 mc:∀i,i<M.length->wr.cell? ⟨mb,mo+i,none⟩=some (.int .u8 (M.getD i 0).toNat)
 ne:gk≠gh/\gk≠gw/\gh≠gw/\mb≠gh/\mb≠gw
 low:w.heap.size<=gh/\w.heap.size<=gw
section
variable {w wr w2:World} {gk gh gw mb mo:Nat} {M:B8} {st c c' st':List UInt32}
variable {l:List UInt32} {i:Nat}
theorem gV (h:i<l.length):(l.map U32).toArray[i]? = some (U32 (l.getD i 0)):=by
 simp[h,List.getD_eq_getElem?_getD]
theorem lV (x:UInt32) (h:i<l.length):((l.set i x).map U32).toArray=((l.map U32).toArray.toList.take i++[U32 x]++(l.map U32).toArray.toList.drop (i+1)).toArray:=by
 apply Array.ext';simp only[List.toList_toArray];rw[List.map_set,List.set_eq_take_append_cons_drop,if_pos (by simpa using h)];simp
theorem SumW.more (h:SumW w wr gk gh gw mb mo M st c) (a:Ext wr w2):SumW w w2 gk gh gw mb mo M st c :=
 ⟨h.ext.trans a,Ext.row a h.kb,Ext.row a h.hb,Ext.row a h.wb,fun i b=>a.cell (h.mc i b),h.ne,h.low⟩
theorem SumW.putW (h:SumW w wr gk gh gw mb mo M st c) (b:w2.heap[gw]? = some (.cells (c'.map U32).toArray 167 (0,0))) (a:wr.grownBy w2 (some gw)):SumW w w2 gk gh gw mb mo M st c' :=
 ⟨Below.grown h.ext a h.ext.size (fun j g=>by cases g;exact h.low.2),(a.block _ (Array.getElem?_eq_some_iff.1 h.kb).1 (fun e=>by cases e;exact h.ne.2.1 rfl)).trans h.kb,
  (a.block _ (Array.getElem?_eq_some_iff.1 h.hb).1 (fun e=>by cases e;exact h.ne.2.2.1 rfl)).trans h.hb,b,fun i d=>a.cell (h.mc i d) (fun e=>by cases e;exact h.ne.2.2.2.2 rfl),h.ne,h.low⟩
theorem SumW.C3 (h:SumW w wr gk gh gw mb mo M st c) (b:w2.heap[gh]? = some (.cells (st'.map U32).toArray 167 (0,0))) (a:wr.grownBy w2 (some gh)):SumW w w2 gk gh gw mb mo M st' c :=
 ⟨Below.grown h.ext a h.ext.size (fun j g=>by cases g;exact h.low.1),(a.block _ (Array.getElem?_eq_some_iff.1 h.kb).1 (fun e=>by cases e;exact h.ne.1 rfl)).trans h.kb,
  b,(a.block _ (Array.getElem?_eq_some_iff.1 h.wb).1 (fun e=>by cases e;exact h.ne.2.2.1 rfl)).trans h.wb,fun i d=>a.cell (h.mc i d) (fun e=>by cases e;exact h.ne.2.2.2.1 rfl),h.ne,h.low⟩
structure SumV (w wr:World) (gk gh gw mb mo gv:Nat) (M:B8) (st c cur:List UInt32):Prop where
 sw:SumW w wr gk gh gw mb mo M st c
 vb:wr.heap[gv]? = some (.cells (cur.map U32).toArray 216 (0,0))
 Cf:gk≠gv/\gh≠gv/\gw≠gv/\mb≠gv/\w.heap.size<=gv
variable {gv:Nat} {cur:List UInt32}
theorem SumV.more (h:SumV w wr gk gh gw mb mo gv M st c cur) (a:Ext wr w2):SumV w w2 gk gh gw mb mo gv M st c cur:=⟨h.sw.more a,Ext.row a h.vb,h.Cf⟩
theorem SumV.Di {cur':List UInt32} (h:SumV w wr gk gh gw mb mo gv M st c cur) (b:w2.heap[gv]? = some (.cells (cur'.map U32).toArray 216 (0,0))) (a:wr.grownBy w2 (some gv)):SumV w w2 gk gh gw mb mo gv M st c cur' :=
 ⟨⟨Below.grown h.sw.ext a h.sw.ext.size (fun j g=>by cases g;exact h.Cf.2.2.2.2),(a.block _ (Array.getElem?_eq_some_iff.1 h.sw.kb).1 (fun e=>by cases e;exact h.Cf.1 rfl)).trans h.sw.kb,
  (a.block _ (Array.getElem?_eq_some_iff.1 h.sw.hb).1 (fun e=>by cases e;exact h.Cf.2.1 rfl)).trans h.sw.hb,(a.block _ (Array.getElem?_eq_some_iff.1 h.sw.wb).1 (fun e=>by cases e;exact h.Cf.2.2.1 rfl)).trans h.sw.wb,
  fun i d=>a.cell (h.sw.mc i d) (fun e=>by cases e;exact h.Cf.2.2.2.1 rfl),h.sw.ne,h.sw.low⟩,b,h.Cf⟩
theorem SumV.C3 (h:SumV w wr gk gh gw mb mo gv M st c cur) (b:w2.heap[gh]? = some (.cells (st'.map U32).toArray 167 (0,0))) (a:wr.grownBy w2 (some gh)):SumV w w2 gk gh gw mb mo gv M st' c cur :=
 ⟨h.sw.C3 b a,(a.block _ (Array.getElem?_eq_some_iff.1 h.vb).1 (fun e=>by cases e;exact h.Cf.2.1 rfl)).trans h.vb,h.Cf⟩
end
theorem kn {M:B8} {a i:Nat} (h:i<64) (b:a+64<=M.length):((M.drop a).take 64).getD i 0=M.getD (a+i) 0:=by
 rw[List.getD_eq_getElem?_getD,List.getElem?_take,if_pos h,List.getElem?_drop,<-List.getD_eq_getElem?_getD]
theorem lY (x:UInt32):Value.int .u8 (IntKind.u8.wrap (x.toNat:Int))=.int .u8 ((UInt8.ofNat x.toNat).toNat:Int):=by
 rw[IntKind.wrap_u8,UInt8.toNat_ofNat'];exact congrArg _ (Int.natCast_emod _ 256).symm
theorem Bk (n:Nat):madeCells #[.int .u32 0] n=((List.replicate n 0:List UInt32).map U32).toArray:=by
 refine Array.ext (by simp[madeCells]) (fun i a b=>?_);simp[madeCells,Nat.mod_one]
theorem A4:madeCells #[.int .u32 0] 64=((List.replicate 64 0:List UInt32).map U32).toArray:=Bk 64
theorem yY (v:Value) (b:B8) (w:World) (hv:IsBytes w v b) (hl:b.length<=10000000) :
  Calls Tryz.prog 138 #[v] w fun e Q=>(∃v',e=.returned v'/\Q.ownsRow w.heap.size 5 1 v' 32 ((fW b).map fun x=>.int .u8 x.toNat))/\Ext w Q:=by
 have HV:Hid (IsBytes w v b):=hv;obtain⟨va,vc,rfl,-⟩:=hv.get;clear hv;obtain⟨n,hn⟩:∃n,b.length=n:=⟨_,rfl⟩;have HN:Hid _:=hn;rw[hn]at hl HV ⊢;clear hn;go_enter Tryz.func138,Tryz.ntmps138;go_wp2_with fail;go_at_call 190;refine(qj w).mono ?_;rintro e w1 ⟨gk,rfl,C,hP,au,cu⟩;have g':Hid _:=C;have l':Hid (Ext w w1):=au;have g8:Hid _:=hP;clear C hP au;go_upto_region 3 with fail;obtain⟨w2,cc⟩:∃w2,w2=w1.alloc (.cells (dp.map U32).toArray 167):=⟨_,rfl⟩;have e6:w2.heap[w1.heap.size]? = some (.cells (dp.map U32).toArray 167 (0,0)):=by rw[cc];exact ae _ _
 have V:Ext w1 w2:=by rw[cc];exact(Ext.refl _).alloc _
 have bx:w2.heap.size=w1.heap.size+1:=by rw[cc];exact Array.size_push ..
 rw[show(#[.int .u32 1779033703,.int .u32 3144134277,.int .u32 1013904242,.int .u32 2773480762,.int .u32 1359893119,.int .u32 2600822924,.int .u32 528734635,.int .u32 1541459225]:Array Value)=(dp.map U32).toArray from rfl,<-cc];obtain⟨O,hO⟩:∃g,w1.heap.size=g:=⟨_,rfl⟩;rw[hO]at e6 bx;have cp:O=gk+1:=by omega
 rw[<-cp];have k8:Hid _:=e6;have hC:Hid (Ext w w2):=l'.out.trans V;have la:Hid (w2.heap[gk]? = some (.cells (dQ.map U32).toArray 167 (0,0))):=Ext.row V g'.out;have k6:Hid (O=gk+1/\w2.heap.size=O+1/\w.heap.size=gk):=⟨cp,bx,g8.out.symm⟩;clear cc e6 V bx cu hO cp g' g8;go_wp2_with fail;go_at_call 29;refine(ij _ b w2 (HV.out.ext hC.out)).mono ?_;rw[HN.out];rintro e w3 ⟨⟨v3,rfl,G⟩,Z⟩;have ea:Hid (w3.ownsRow w2.heap.size 5 1 v3 n (b.map fun x=>.int .u8 x.toNat)):=G;have mc:Hid (Ext w2 w3):=Z;have nm:=Z.size;obtain⟨a3,c3,rfl,-⟩:=Row.BV G (by omega);clear G Z;go_upto_region 4 with(at_builtin;go_must (refine dP rfl _ _ rfl w2.heap.size _ n b rfl (ea.out.alloc _) w3.heap.size 1 1 [128] rfl rfl (ae _ _) (by omega) (by simp;omega) ?_);intro v4 w4 ct hN);have hs:Hid (w4.ownsRow w2.heap.size 5 1 v4 (n+(1+0)) ((b++128::List.replicate 0 0:B8).map fun x=>.int .u8 x.toNat)):=ct;have md:Hid (Ext w2 w4):=aj (mc.out.alloc _) (ea.out.alloc _) hN;have ou:=tS n;clear ct hN nm;go_loopw [5] (fun pv wr=>∃k:Nat,k<=cW n/\Hid (wr.ownsRow w2.heap.size 5 1 pv (n+(1+k)) ((b++128::List.replicate k 0:B8).map fun x=>.int .u8 x.toNat))/\Hid (Ext w2 wr)) (fun pv _=>n+65 - qz pv)
 case atStart=>exact⟨0,Nat.zero_le _,hs.out,md.out⟩
 case round =>
  obtain⟨k,o,a',HX⟩:=hrel;obtain⟨pa,pc,rfl,-⟩:=Row.BV a'.out (by omega);have cb:=HX.out.size;have hK:=tR o
  by_cases bs:k=cW n
  case neg =>
   have hm:((((n+(1+k):Nat):Int))%64 != 56)=true:=by simp;omega
   clear hK
   go_wp2_with (at_builtin;go_must (refine dP rfl _ _ rfl w2.heap.size _ (n+(1+k)) (b++128::List.replicate k 0) rfl (a'.out.alloc _) wr.heap.size 1 1 [0] rfl rfl (ae _ _) (by omega) (by simp;omega) ?_);intro v' w3 G e5)
   go_roundw
   case rel=>exact⟨k+1,by omega,by have h9:(b++128::List.replicate k 0++[0]:B8)=b++128::List.replicate (k+1) 0:=(by rw[List.replicate_succ',List.append_assoc,List.cons_append]);rw[h9]at G;exact G,aj (HX.out.alloc _) (a'.out.alloc _) e5⟩
   case measure =>
    obtain⟨o9,o',rfl,-⟩:=Row.BV G (by omega);simp[qz];omega
  have hm:((((n+(1+k):Nat):Int))%64 != 56)=false:=by simp;omega
  clear hK;subst bs;go_upto_region 7 with fail;clear hm;generalize(((n:Int)+(1+(cW n:Int)))%64 != 56)=po;generalize((n:Int)+(1+(cW n:Int)))%64=pn;generalize(n:Int)+(1+(cW n:Int))=pl;go_wp2_with fail;go_loopw [5,7] (fun pv i wr=>∃k:Nat,k<=8/\i=.int .i64 (7 - (k:Int))/\Hid (wr.ownsRow w2.heap.size 5 1 pv (n+(1+cW n+k)) ((b++gR n k).map fun x=>.int .u8 x.toNat))/\Hid (Ext w2 wr)) (fun _ i _=>(intOf i+1).toNat)
  case atStart=>exact⟨0,by omega,rfl,by unfold gR;rw[List.take_zero,List.append_nil];exact a'.out,HX.out⟩
  case round =>
  obtain⟨q,t,rfl,ba,cm⟩:=hrel;obtain⟨pq,cq,rfl,-⟩:=Row.BV ba.out (by omega);have ic:=cm.out.size
  by_cases H:q<8
  case pos =>
   have cv:((n:Int)*8 / 2 ^ (56 - 8*q)%256)=((UInt8.ofNat (8*n / 2 ^ (56 - 8*q))).toNat:Int):=by
    rw[UInt8.toNat_ofNat',Nat.mul_comm 8 n];push_cast;rfl
   have c0:Hid _:=pN n H;have om:((7:Int) - (q:Int))>=0:=by omega
   have o2:IntKind.i64.wrap (8*(7 - (q:Int)))=((56 - 8*q:Nat):Int):=by rw[IntWalk.i64_in _ (by omega)];omega
   have cc:(0:Int)<=((56 - 8*q:Nat):Int):=by omega
   have o3:((56 - 8*q:Nat):Int)<=64:=by omega
   have o4:((56 - 8*q:Nat):Int)<64:=by omega
   have o5:IntKind.i64.wrap (7 - (q:Int) - 1)=7 - ((q+1:Nat):Int):=by rw[IntWalk.i64_in _ (by omega)];omega
   generalize hz:UInt8.ofNat (8*n / 2 ^ (56 - 8*q))=z at cv;have HZ:Hid _:=hz;have l3:Hid _:=cv;clear cv hz
   go_wp2_with (at_builtin;go_must (refine dP rfl _ _ rfl w2.heap.size _ (n+(1+cW n+q)) (b++gR n q) rfl (ba.out.alloc _) wr.heap.size 1 1 [z] rfl rfl (fr:=(0,0)) (by show _=some (Obj.cells #[Value.int .u8 (z.toNat:Int)] _ _);rw[<-l3.out];exact ae _ _) (by omega) (by simp;omega) ?_);intro v' w3 G e5)
   go_roundw
   case rel=>exact⟨q+1,by omega,by go_num,by rw[c0.out,HZ.out,<-List.append_assoc];exact G,aj (cm.out.alloc _) (ba.out.alloc _) e5⟩
   case measure=>simp[intOf];omega
  have nl:q=8:=by omega
  subst nl;go_upto_region 11 with fail;have h6:(Instr.makeSlice 227 (.int .i64 64) (.int .i64 64)).run Tryz.prog wr=.ok (.slice (some ⟨wr.heap.size,0,none⟩) 64 64) (wr.alloc (.cells ((List.replicate 64 0:List UInt32).map U32).toArray 167)):=by
   have h9:=run_make_row' (P:=Tryz.prog) 227 167 (.int .u32 0) 4 Tryz.underlying227 (by kernel_rfl) rfl .i64 .i64 64 (by omega) (by omega) wr;rw[A4]at h9;exact h9
  obtain⟨wm,c7⟩:∃wm,wm=wr.alloc (.cells ((List.replicate 64 0:List UInt32).map U32).toArray 167):=⟨_,rfl⟩;rw[<-c7]at h6;have da:Ext wr wm:=by rw[c7];exact(Ext.refl _).alloc _
  have bl:wm.heap[wr.heap.size]? = some (.cells ((List.replicate 64 0:List UInt32).map U32).toArray 167 (0,0)):=by rw[c7];exact ae _ _
  obtain⟨M,hM⟩:∃M,b++iC n=M:=⟨_,rfl⟩;have c1:M.length=n+(1+cW n+8):=by rw[<-hM,List.length_append,HN.out,<-lF,no n (Nat.le_refl 8)]
  have n':M.length%64=0:=by
   have h9:=Ay n;rw[<-hM,List.length_append,HN.out];exact h9
  have e8:wr.ownsRow w2.heap.size 5 1 (.slice pq (n+(1+cW n+8)) cq) (n+(1+cW n+8)) (M.map fun x=>.int .u8 x.toNat):=by
   have h9:=ba.out;rw[lF,hM]at h9;exact h9
  have h7:IsBytes wr (.slice pq M.length cq) M:=by
   unfold IsBytes;rw[c1];exact Row.BV e8 (by omega)
  obtain⟨mb,mo,nj,h5⟩:∃mb mo,pq=some ⟨mb,mo,none⟩/\∀i,i<M.length->wr.cell? ⟨mb,mo+i,none⟩=some (.int .u8 (M.getD i 0).toNat):=by
   obtain⟨a9,c9,e9,-,-,-,m'⟩:=h7.get;obtain⟨bb,oo,rfl,hc⟩:=m' 0 (by omega);cases e9;exact⟨bb,oo,rfl,hc⟩
  subst nj;have nc:=e8.lt mb rfl;have d6:Hid (SumW w wm gk O wr.heap.size mb mo M dp (List.replicate 64 0)):=by
   obtain⟨g1,g2,g3⟩:=k6.out;have o1:=cm.out.size;have gf:Ext w2 wm:=cm.out.trans da;exact⟨hC.out.trans gf,Ext.row gf la.out,Ext.row gf k8.out,bl,fun i hi=>da.cell (h5 i hi),⟨by omega,by omega,by omega,by omega,by omega⟩,⟨by omega,by omega⟩⟩
  obtain⟨gw,hS⟩:∃g,wr.heap.size=g:=⟨_,rfl⟩;rw[hS]at d6 h6;have d5:Hid (fW b=(be dp M).1.flatMap eu):=by unfold Hid;rw[AG,HN.out,hM]
  obtain⟨cx,cn⟩:∃F,(be dp M).1=F:=⟨_,rfl⟩;rw[cn]at d5;have k4:Hid ((be dp (M.drop 0)).1=cx):=cn;rw[<-c1];have oc:Hid _:=c1;have oi:M.length<=10000200:=by omega
  have og:Hid (Ext w2 wm):=cm.out.trans da;clear c7 da bl hM c1 e8 h7 h5 nc hS cn ba a' hs ea ic;go_upto_region 12 with fail;generalize((7:Int) - ((8:Nat):Int))=pd;go_wp2_with fail;go_loopw [9] (fun i wr=>∃(a:Nat) (D c:List UInt32),i=.int .i64 a/\a<=M.length/\a%64=0/\D.length=8/\c.length=64/\Hid ((be D (M.drop a)).1=cx)/\Hid (SumW w wr gk O gw mb mo M D c)) (fun i _=>M.length - (intOf i).toNat)
  case atStart=>exact⟨0,dp,List.replicate 64 0,rfl,Nat.zero_le _,rfl,rfl,rfl,k4.out,d6.out⟩
  case round =>
  obtain⟨a,D,c,rfl,oj,d8,ft,d9,HF,HS⟩:=hrel
  by_cases oa:a<M.length
  case pos =>
   have bk:a+64<=M.length:=by omega
   obtain⟨W,hW⟩:∃W,aX ((M.drop a).take 64) 64=W:=⟨_,rfl⟩;have hJ:W.length=64:=by rw[<-hW];exact el _ _
   have lo:Hid (∀j,j<16->W.getD j 0=(((M.getD (a+4*j) 0).toUInt32 <<< 24 ||| (M.getD (a+4*j+1) 0).toUInt32 <<< 16) ||| (M.getD (a+4*j+2) 0).toUInt32 <<< 8) ||| (M.getD (a+4*j+3) 0).toUInt32):=fun j hj=>by
    rw[<-hW,y8 _ hj];unfold be4;rw[kn (by omega) bk,kn (by omega) bk,kn (by omega) bk,kn (by omega) bk];rfl
   have k9:Hid (∀j,16<=j->j<64->W.getD j 0=jN W j):=fun j h1 h2=>by rw[<-hW];exact yZ _ h1 h2
   have ls:Hid (eW D ((M.drop a).take 64)=List.zipWith (· + ·) D (jm D W 64)):=by unfold Hid eW;rw[hW]
   have ev:Hid _:=hJ;have ek:Hid _:=ft;have kp:Hid _:=d8;have g6:Hid _:=d9;clear hW hJ ft d8 d9;go_wp2_with fail;go_loopw [10] (fun i wr=>∃(k:Nat) (c:List UInt32),i=.int .i64 k/\k<=16/\Hid (PreW W c k)/\Hid (SumW w wr gk O gw mb mo M D c)) (fun i _=>16 - (intOf i).toNat)
   case atStart=>exact⟨0,c,rfl,Nat.zero_le _,⟨g6.out,fun j hj=>by omega⟩,HS.out⟩
   case round =>
   obtain⟨k,c,rfl,o,HP,K⟩:=hrel
   by_cases H:k<16
   case pos =>
    have hv:=lo.out k H;have d0:=K.out.mc (a+4*k) (by omega);have d1:=K.out.mc (a+4*k+1) (by omega);have d2:=K.out.mc (a+4*k+2) (by omega);have d3:=K.out.mc (a+4*k+3) (by omega);obtain⟨y0,gm⟩:∃y,M.getD (a+4*k) 0=y:=⟨_,rfl⟩;obtain⟨y1,br⟩:∃y,M.getD (a+4*k+1) 0=y:=⟨_,rfl⟩;obtain⟨y2,bS⟩:∃y,M.getD (a+4*k+2) 0=y:=⟨_,rfl⟩;obtain⟨y3,b0⟩:∃y,M.getD (a+4*k+3) 0=y:=⟨_,rfl⟩;rw[gm]at d0;rw[br]at d1;rw[bS]at d2;rw[b0]at d3;rw[gm,br,bS,b0]at hv;obtain⟨x0,gb⟩:∃x,y0.toUInt32=x:=⟨_,rfl⟩;obtain⟨x1,au⟩:∃x,y1.toUInt32=x:=⟨_,rfl⟩;obtain⟨x2,V⟩:∃x,y2.toUInt32=x:=⟨_,rfl⟩;obtain⟨x3,Z⟩:∃x,y3.toUInt32=x:=⟨_,rfl⟩;rw[gb,au,V,Z]at hv;have er:Hid _:=hv;have l6:Hid _:=gb;have hy:Hid _:=au;have hD:Hid _:=V;have hE:Hid _:=Z;have D0:Hid _:=d0;have D1:Hid _:=d1;have D2:Hid _:=d2;have D3:Hid _:=d3;obtain⟨p,hp⟩:∃p,a+4*k=p:=⟨_,rfl⟩;have c8:IntKind.i64.wrap (4*(k:Int))=4*(k:Int):=IntWalk.i64_in _ (by omega);have bo:IntKind.i64.wrap ((a:Int)+4*(k:Int))=(p:Int):=by rw[IntWalk.i64_in _ (by omega)];omega
    have ot:p+3<M.length:=by omega
    rw[hp]at D0 D1 D2 D3;have W1:Hid (IntKind.i64.wrap ((p:Int)+1)=(p:Int)+1/\((p:Int)+1).toNat=p+1):=⟨IntWalk.i64_in _ (by omega),by omega⟩;have W2:Hid (IntKind.i64.wrap ((p:Int)+2)=(p:Int)+2/\((p:Int)+2).toNat=p+2):=⟨IntWalk.i64_in _ (by omega),by omega⟩;have W3:Hid (IntKind.i64.wrap ((p:Int)+3)=(p:Int)+3/\((p:Int)+3).toNat=p+3):=⟨IntWalk.i64_in _ (by omega),by omega⟩;clear hv d0 d1 d2 d3 gm br bS b0 gb au V Z hp
    as_aux_lemma =>
    go_upto_region 19 with fail;apply ak 32 [_,_,_,_,.pointer (some ⟨mb,mo+p,none⟩),.int .u8 y0.toNat,U32 x0,U32 (x0 <<< 24),_,_,_,.pointer (some ⟨mb,mo+(p+1),none⟩),.int .u8 y1.toNat,U32 x1,U32 (x1 <<< 16),U32 ((x0 <<< 24) ||| (x1 <<< 16)),_,_,_,.pointer (some ⟨mb,mo+(p+2),none⟩),.int .u8 y2.toNat,U32 x2,U32 (x2 <<< 8),U32 (((x0 <<< 24) ||| (x1 <<< 16)) ||| (x2 <<< 8)),_,_,_,.pointer (some ⟨mb,mo+(p+3),none⟩),.int .u8 y3.toNat,U32 x3,U32 ((((x0 <<< 24) ||| (x1 <<< 16)) ||| (x2 <<< 8)) ||| x3),.pointer (some ⟨gw,k,none⟩)] [none,none,none,none,none,none,none,none,none,none,none,none,none,none,none,none,none,none,none,none,none,none,none,none,none,none,none,none,none,none,none,none] [[],[],[],[],[2,3],[4],[5],[6],[],[],[9],[8,10],[11],[12],[13],[7,14],[],[],[17],[16,18],[19],[20],[21],[15,22],[],[],[25],[24,26],[27],[28],[23,29],[0,1]] (by kernel_rfl) (by kernel_rfl) (by simp[aq])
    .trivial
    .simp (maxSteps:=1000000)only[List.take_succ_cons,List.take_zero,ay,aE,ab,Act.put,List.setIfInBounds_toArray,List.set_cons_zero,List.set_cons_succ,aN,aS,aq,List.getD_cons_zero,List.getD_cons_succ,and_true,true_and,forall_const];and_intros
     iterate 4 · intro A r t;intros;rename_i d;go_simp;exact d _ _ (Ext.refl _) rfl
     .intro A r t o R d;obtain⟨E,C⟩:=o;go_simp;rw[if_pos (by omega)];exact d _ _ (Ext.refl _) rfl
     .intro A r t o R d;have f0:=t.cell D0.out;go_simp;exact d _ _ (Ext.refl _) rfl
     .intro A r t o R d;go_simp;exact d _ _ (Ext.refl _) (by rw[<-l6.out];exact eY y0)
     .intro A r t o R d;go_simp;exact d _ _ (Ext.refl _) (zG x0)
     iterate 3 · intro A r t;intros;rename_i d;go_simp;exact d _ _ (Ext.refl _) rfl
     .intro A r t o R d;obtain⟨E,C⟩:=o;go_simp;simp only[W1.out.1];rw[if_pos ⟨by omega,by omega⟩,W1.out.2];exact d _ _ (Ext.refl _) rfl
     .intro A r t o R d;have f1:=t.cell D1.out;go_simp;exact d _ _ (Ext.refl _) rfl
     .intro A r t o R d;go_simp;exact d _ _ (Ext.refl _) (by rw[<-hy.out];exact eY y1)
     .intro A r t o R d;go_simp;exact d _ _ (Ext.refl _) (zF x1)
     .intro A r t o R d;obtain⟨E,C⟩:=o;go_simp;exact d _ _ (Ext.refl _) (ke (x0 <<< 24) (x1 <<< 16))
     iterate 3 · intro A r t;intros;rename_i d;go_simp;exact d _ _ (Ext.refl _) rfl
     .intro A r t o R d;obtain⟨E,C⟩:=o;go_simp;simp only[W2.out.1];rw[if_pos ⟨by omega,by omega⟩,W2.out.2];exact d _ _ (Ext.refl _) rfl
     .intro A r t o R d;have f2:=t.cell D2.out;go_simp;exact d _ _ (Ext.refl _) rfl
     .intro A r t o R d;go_simp;exact d _ _ (Ext.refl _) (by rw[<-hD.out];exact eY y2)
     .intro A r t o R d;go_simp;exact d _ _ (Ext.refl _) (A' x2)
     .intro A r t o R d;obtain⟨E,C⟩:=o;go_simp;exact d _ _ (Ext.refl _) (ke ((x0 <<< 24) ||| (x1 <<< 16)) (x2 <<< 8))
     iterate 3 · intro A r t;intros;rename_i d;go_simp;exact d _ _ (Ext.refl _) rfl
     .intro A r t o R d;obtain⟨E,C⟩:=o;go_simp;simp only[W3.out.1];rw[if_pos ⟨by omega,by omega⟩,W3.out.2];exact d _ _ (Ext.refl _) rfl
     .intro A r t o R d;have f3:=t.cell D3.out;go_simp;exact d _ _ (Ext.refl _) rfl
     .intro A r t o R d;go_simp;exact d _ _ (Ext.refl _) (by rw[<-hE.out];exact eY y3)
     .intro A r t o R d;obtain⟨E,C⟩:=o;go_simp;exact d _ _ (Ext.refl _) (ke (((x0 <<< 24) ||| (x1 <<< 16)) ||| (x2 <<< 8)) x3)
     .intro A r t o R d;obtain⟨E,C⟩:=o;go_simp;rw[if_pos (by omega)];exact d _ _ (Ext.refl _) rfl
    intro A wz aa o;simp only[aU,Nat.zero_add,Nat.reduceAdd,and_true]at o;simp(maxSteps:=1000000)only[List.take_succ_cons,List.take_zero,List.drop_succ_cons,List.drop_zero,ab,Act.put,List.setIfInBounds_toArray,List.set_cons_zero,List.set_cons_succ,Nat.zero_add,Nat.reduceAdd,o];clear o;have cl:Hid _:=SumW.more K.out aa;have bl:=cl.out.wb;have cb:(c.map U32).toArray.size=64:=by simp[HP.out.1]
    have J:=lV (l:=c) (i:=k) (W.getD k 0) (by rw[HP.out.1];omega);have U:=PreW.set HP.out (show k<64 by omega);rw[er.out]at J U;have ce:Hid (PreW W (c.set k ((((x0 <<< 24) ||| (x1 <<< 16)) ||| (x2 <<< 8)) ||| x3)) (k+1)):=U
    go_wp2_with (refine ag rfl 167 (.tmp 100) (.tmp 99) rfl gw k rfl (U32 ((((x0 <<< 24) ||| (x1 <<< 16)) ||| (x2 <<< 8)) ||| x3)) rfl rfl _ (c.map U32).toArray bl (by omega) gN _ J ?_;intro wn T I)
    have eh:Hid _:=SumW.putW cl.out T I;clear T I bl cb J U aa;go_roundw
    case rel=>exact⟨k+1,_,by go_num,by omega,ce.out,eh.out⟩
    case measure=>simp[intOf];omega
   have hU:k=16:=by omega
   subst hU;go_wp2_with fail;generalize((16:Nat):Int)=pe;go_loopw [12] (fun i wr=>∃(k:Nat) (c:List UInt32),i=.int .i64 k/\16<=k/\k<=64/\Hid (PreW W c k)/\Hid (SumW w wr gk O gw mb mo M D c)) (fun i _=>64 - (intOf i).toNat)
   case atStart=>exact⟨16,c,rfl,Nat.le_refl _,by omega,HP.out,K.out⟩
   case round =>
   obtain⟨k,c,rfl,C,o,HP,K⟩:=hrel
   by_cases H:k<64
   case pos =>
    have hn:=k9.out k C H;have ca:=HP.out.1;obtain⟨X,hX⟩:∃x,W.getD (k - 15) 0=x:=⟨_,rfl⟩;obtain⟨Y,hY⟩:∃x,W.getD (k - 2) 0=x:=⟨_,rfl⟩;obtain⟨A0,hA⟩:∃x,W.getD (k - 16) 0=x:=⟨_,rfl⟩;obtain⟨B0,hB⟩:∃x,W.getD (k - 7) 0=x:=⟨_,rfl⟩;have bh:∀j,j<k->wr.cell? ⟨gw,j,none⟩=some (U32 (W.getD j 0)):=fun j hj=>by
     rw[cell_of_row _ _ j _ _ _ K.out.wb,gV (by omega),HP.out.2 j hj]
    have hG:=bh (k - 15) (by omega);have e2:=bh (k - 2) (by omega);have eE:=bh (k - 16) (by omega);have e7:=bh (k - 7) (by omega);rw[hX]at hG;rw[hY]at e2;rw[hA]at eE;rw[hB]at e7;obtain⟨p1,fa⟩:∃x,bB X 25=x:=⟨_,rfl⟩;obtain⟨q1,bt⟩:∃x,bB X 14=x:=⟨_,rfl⟩;obtain⟨p2,fb⟩:∃x,p1 ^^^ q1=x:=⟨_,rfl⟩;obtain⟨r1,fj⟩:∃x,X >>> 3=x:=⟨_,rfl⟩;obtain⟨s1,cu⟩:∃x,p2 ^^^ r1=x:=⟨_,rfl⟩;obtain⟨p3,fc⟩:∃x,bB Y 15=x:=⟨_,rfl⟩;obtain⟨q3,bv⟩:∃x,bB Y 13=x:=⟨_,rfl⟩;obtain⟨p4,fe⟩:∃x,p3 ^^^ q3=x:=⟨_,rfl⟩;obtain⟨r2,fl⟩:∃x,Y >>> 10=x:=⟨_,rfl⟩;obtain⟨s2,bx⟩:∃x,p4 ^^^ r2=x:=⟨_,rfl⟩;obtain⟨z1,b5⟩:∃x,A0+s1=x:=⟨_,rfl⟩;obtain⟨z2,b6⟩:∃x,z1+B0=x:=⟨_,rfl⟩;obtain⟨z3,b7⟩:∃x,z2+s2=x:=⟨_,rfl⟩;have ml:Hid _:=b5;have mm:Hid _:=b6;have mp:Hid _:=b7;have er:Hid (W.getD k 0=z3):=by
     unfold Hid;rw[hn];unfold jN;rw[hX,hY,hA,hB,fa,bt,fb,fj,cu,fc,bv,fe,fl,bx,b5,b6,b7]
    have f1:bits BinOp.xor IntKind.u32 (p1.toNat:Int) (q1.toNat:Int)=(p2.toNat:Int):=by rw[<-fb];exact bA _ _
    have f2:(X.toNat:Int) / 8=(r1.toNat:Int):=by rw[<-fj];exact hZ X 3 (by decide)
    have f3:bits BinOp.xor IntKind.u32 (p2.toNat:Int) (r1.toNat:Int)=(s1.toNat:Int):=by rw[<-cu];exact bA _ _
    have f4:bits BinOp.xor IntKind.u32 (p3.toNat:Int) (q3.toNat:Int)=(p4.toNat:Int):=by rw[<-fe];exact bA _ _
    have f5:(Y.toNat:Int) / 1024=(r2.toNat:Int):=by rw[<-fl];exact hZ Y 10 (by decide)
    have f6:bits BinOp.xor IntKind.u32 (p4.toNat:Int) (r2.toNat:Int)=(s2.toNat:Int):=by rw[<-bx];exact bA _ _
    have lv:Hid _:=fa;have ec:Hid _:=bt;have lx:Hid _:=fc;have ef:Hid _:=bv;have nx:IntKind.i64.wrap ((k:Int) - 15)=((k - 15:Nat):Int):=by rw[IntWalk.i64_in _ (by omega)];omega
    have nA:IntKind.i64.wrap ((k:Int) - 2)=((k - 2:Nat):Int):=by rw[IntWalk.i64_in _ (by omega)];omega
    have m0:Hid (IntKind.i64.wrap ((k:Int) - 16)=((k - 16:Nat):Int)):=by unfold Hid;rw[IntWalk.i64_in _ (by omega)];omega
    have W7:Hid (IntKind.i64.wrap ((k:Int) - 7)=((k - 7:Nat):Int)):=by unfold Hid;rw[IntWalk.i64_in _ (by omega)];omega
    have nv:((k - 15:Nat):Int)<64:=by omega
    have n2:((k - 2:Nat):Int)<64:=by omega
    clear hX hY hA hB fa bt fb fj cu fc bv fe fl bx b5 b6 b7 hn bh ca;have T7:Hid (∀w,Calls Tryz.prog 191 #[U32 X,.int .i64 7] w fun e Q=>e=.returned (U32 p1)/\∃q,Q=w.drewN q):=fun w=>by rw[<-lv.out];exact BA X w
    have mx:Hid (∀w,Calls Tryz.prog 191 #[U32 X,.int .i64 18] w fun e Q=>e=.returned (U32 q1)/\∃q,Q=w.drewN q):=fun w=>by rw[<-ec.out];exact Bd X w
    have mv:Hid (∀w,Calls Tryz.prog 191 #[U32 Y,.int .i64 17] w fun e Q=>e=.returned (U32 p3)/\∃q,Q=w.drewN q):=fun w=>by rw[<-lx.out];exact Bc Y w
    have my:Hid (∀w,Calls Tryz.prog 191 #[U32 Y,.int .i64 19] w fun e Q=>e=.returned (U32 q3)/\∃q,Q=w.drewN q):=fun w=>by rw[<-ef.out];exact Be Y w
    as_aux_lemma =>
    go_upto_region 23 with fail;go_quiet (first | (go_at_call 191;first | with_reducible exact Calls.quiet_of (T7.out _) | with_reducible exact Calls.quiet_of (mx.out _)));obtain⟨r,bo⟩:∃r,r=wr.drewN nq:=⟨_,rfl⟩;have bq:Ext wr r:=by rw[bo];exact Ext.drawn _ _
    rw[<-bo];clear bo;have d2:=bq.cell e2;go_upto_region 24 with fail;go_quiet (first | (go_at_call 191;first | with_reducible exact Calls.quiet_of (mv.out _) | with_reducible exact Calls.quiet_of (my.out _)));obtain⟨wu,f'⟩:∃wu,wu=r.drewN nq:=⟨_,rfl⟩;have dc:Ext wr wu:=bq.trans (by rw[f'];exact Ext.drawn _ _);rw[<-f'];clear f';have l1:Hid _:=SumW.more K.out dc;have hH:=dc.cell eE;have g7:=dc.cell e7;clear hG e2 eE e7 d2 bq dc nx nA nv n2;go_upto_region 25 with fail;apply ak 18 [_,_,_,_,_,.pointer (some ⟨gw,k - 16,none⟩),U32 A0,_,U32 z1,_,_,_,.pointer (some ⟨gw,k - 7,none⟩),U32 B0,U32 z2,_,U32 z3,.pointer (some ⟨gw,k,none⟩)] [none,none,none,none,none,none,none,none,none,none,none,none,none,none,none,none,none,none] [[],[],[],[],[3],[2,4],[5],[],[6,7],[],[],[10],[9,11],[12],[8,13],[],[14,15],[0,1]] (by kernel_rfl) (by kernel_rfl) (by simp[aq])
    .trivial
    .simp (maxSteps:=1000000)only[List.take_succ_cons,List.take_zero,ay,aE,ab,Act.put,List.setIfInBounds_toArray,List.set_cons_zero,List.set_cons_succ,aN,aS,aq,List.getD_cons_zero,List.getD_cons_succ,and_true,true_and,forall_const];and_intros
     iterate 5 · intro A r t;intros;rename_i d;go_simp;exact d _ _ (Ext.refl _) rfl
     .intro A r t o R d;obtain⟨E,C⟩:=o;go_simp;simp only[m0.out];rw[if_pos ⟨by omega,by omega⟩];exact d _ _ (Ext.refl _) rfl
     .intro A r t o R d;have f0:=t.cell hH;go_simp;exact d _ _ (Ext.refl _) rfl
     .intro A r t;intros;rename_i d;go_simp;exact d _ _ (Ext.refl _) rfl
     .intro A r t o R d;obtain⟨E,C⟩:=o;go_simp;exact d _ _ (Ext.refl _) (by rw[<-ml.out];exact eX A0 s1)
     iterate 3 · intro A r t;intros;rename_i d;go_simp;exact d _ _ (Ext.refl _) rfl
     .intro A r t o R d;obtain⟨E,C⟩:=o;go_simp;simp only[W7.out];rw[if_pos ⟨by omega,by omega⟩];exact d _ _ (Ext.refl _) rfl
     .intro A r t o R d;have f0:=t.cell g7;go_simp;exact d _ _ (Ext.refl _) rfl
     .intro A r t o R d;obtain⟨E,C⟩:=o;go_simp;exact d _ _ (Ext.refl _) (by rw[<-mm.out];exact eX z1 B0)
     .intro A r t;intros;rename_i d;go_simp;exact d _ _ (Ext.refl _) rfl
     .intro A r t o R d;obtain⟨E,C⟩:=o;go_simp;exact d _ _ (Ext.refl _) (by rw[<-mp.out];exact eX z2 s2)
     .intro A r t o R d;obtain⟨E,C⟩:=o;go_simp;exact d _ _ (Ext.refl _) rfl
    intro A wz aa o;simp only[aU,Nat.zero_add,Nat.reduceAdd,and_true]at o;simp(maxSteps:=1000000)only[List.take_succ_cons,List.take_zero,List.drop_succ_cons,List.drop_zero,ab,Act.put,List.setIfInBounds_toArray,List.set_cons_zero,List.set_cons_succ,Nat.zero_add,Nat.reduceAdd,o];clear o;have cl:Hid _:=SumW.more l1.out aa;have bl:=cl.out.wb;have cb:(c.map U32).toArray.size=64:=by simp[HP.out.1]
    have J:=lV (l:=c) (i:=k) (W.getD k 0) (by rw[HP.out.1];omega);have U:=PreW.set HP.out (show k<64 by omega);rw[er.out]at J U;have ce:Hid (PreW W (c.set k z3) (k+1)):=U;clear f1 f2 f3 f4 f5 f6 hH g7 aa
    go_wp2_with (refine ag rfl 167 (.tmp 162) (.tmp 161) rfl gw k rfl (U32 z3) rfl rfl _ (c.map U32).toArray bl (by omega) gN _ J ?_;intro wn T I)
    have eh:Hid _:=SumW.putW cl.out T I;clear T I bl cb J U;go_roundw
    case rel=>exact⟨k+1,c.set k z3,by go_num,by omega,by omega,ce,eh⟩
    case measure=>simp[intOf];omega
   have hV:k=64:=by omega
   subst hV;obtain rfl:c=W:=PreW.all HP.out ev.out;go_upto_region 27 with fail;obtain⟨wv,c'⟩:∃wv,wv=wr.alloc (.cells #[.int .u32 0,.int .u32 0,.int .u32 0,.int .u32 0,.int .u32 0,.int .u32 0,.int .u32 0,.int .u32 0] 216):=⟨_,rfl⟩;have B:wv.heap[wr.heap.size]? = some (.cells #[.int .u32 0,.int .u32 0,.int .u32 0,.int .u32 0,.int .u32 0,.int .u32 0,.int .u32 0,.int .u32 0] 216 (0,0)):=by rw[c'];exact ae _ _
   have it:Ext wr wv:=by rw[c'];exact(Ext.refl _).alloc _
   have nn:=K.out.ext.size;have es:Hid (SumV w wv gk O gw mb mo wr.heap.size M D c (List.replicate 8 0)):=by
    have h1:=(Array.getElem?_eq_some_iff.1 K.out.kb).1;have h2:=(Array.getElem?_eq_some_iff.1 K.out.hb).1;have h3:=(Array.getElem?_eq_some_iff.1 K.out.wb).1;have h4:mb<wr.heap.size:=World.block_lt_of_cell? _ _ (K.out.mc 0 (by omega));exact⟨K.out.more it,B,⟨by omega,by omega,by omega,by omega,by omega⟩⟩
   rw[<-c'];obtain⟨S,hQ⟩:∃g,wr.heap.size=g:=⟨_,rfl⟩;rw[hQ]at es B ⊢;clear c' it hQ nn;have ca:(D.map U32).length=8:=by rw[List.length_map];exact ek.out
   have hL:(((#[.int .u32 0,.int .u32 0,.int .u32 0,.int .u32 0,.int .u32 0,.int .u32 0,.int .u32 0,.int .u32 0]:Array Value).toList.take 0++(D.map U32++(#[.int .u32 0,.int .u32 0,.int .u32 0,.int .u32 0,.int .u32 0,.int .u32 0,.int .u32 0,.int .u32 0]:Array Value).toList.drop (0+(D.map U32).length))).toArray)=(D.map U32).toArray:=by
    rw[ca];simp
   go_upto_region 28 with(refine wpList_copy_own rfl _ _ _ _ rfl 167 Tryz.underlying227 (by kernel_rfl) S 0 8 8 ⟨O,0,none⟩ 8 8 rfl rfl _ 216 B (D.map U32) (by rw[ca];rfl) (fun j v h=>cU es.out.sw.hb j v (by simpa using h)) (by rw[ca];decide) (fun v hv=>by obtain⟨x,-,rfl⟩:=List.mem_map.1 hv;rfl) ?_;rw[hL]);obtain⟨wc,f8⟩:∃wc,wc=wv.setRow S (D.map U32).toArray:=⟨_,rfl⟩;have ht:Hid (SumV w wc gk O gw mb mo S M D c D):=by
    unfold Hid;rw[f8];exact es.out.Di (setRow_heap _ _ _ _ _ _ B) (af _ _ _)
   rw[<-f8];clear f8 B hL ca;obtain⟨i0,i1,i2,i3,i4,i5,i6,i7,fn⟩:=gY ek.out;have l0:Hid (jm D c 0=[i0,i1,i2,i3,i4,i5,i6,i7]):=fn;rw[show SumV w wc gk O gw mb mo S M D c D=SumV w wc gk O gw mb mo S M D c [i0,i1,i2,i3,i4,i5,i6,i7]by rw[<-fn]]at ht;clear fn;go_wp2_with fail;go_loopw [16] (fun i wr=>∃(k:Nat) (N a1 a2 a3 L a5 a6 a7:UInt32),k<=64/\i=.int .i64 k/\Hid (SumV w wr gk O gw mb mo S M D c [N,a1,a2,a3,L,a5,a6,a7])/\Hid (jm D c k=[N,a1,a2,a3,L,a5,a6,a7])) (fun i _=>64 - (intOf i).toNat)
   case atStart=>exact⟨0,i0,i1,i2,i3,i4,i5,i6,i7,by omega,rfl,ht.out,l0.out⟩
   case round =>
   obtain⟨k,N,a1,a2,a3,L,a5,a6,a7,o,rfl,b',eg⟩:=hrel
   by_cases H:k<64
   case pos =>
    obtain⟨kk,bs⟩:∃x,dQ.getD k 0=x:=⟨_,rfl⟩;obtain⟨ww,ga⟩:∃x,c.getD k 0=x:=⟨_,rfl⟩;obtain⟨x1,au⟩:∃x,bB L 26=x:=⟨_,rfl⟩;obtain⟨x2,V⟩:∃x,bB L 21=x:=⟨_,rfl⟩;obtain⟨x3,Z⟩:∃x,x1 ^^^ x2=x:=⟨_,rfl⟩;obtain⟨x4,gc⟩:∃x,bB L 7=x:=⟨_,rfl⟩;obtain⟨x5,gd⟩:∃x,x3 ^^^ x4=x:=⟨_,rfl⟩;obtain⟨y1,br⟩:∃x,a7+x5=x:=⟨_,rfl⟩;obtain⟨y2,bS⟩:∃x,L &&& a5=x:=⟨_,rfl⟩;obtain⟨y3,b0⟩:∃x,~~~L=x:=⟨_,rfl⟩;obtain⟨y4,go⟩:∃x,y3 &&& a6=x:=⟨_,rfl⟩;obtain⟨y5,gr⟩:∃x,y2 ^^^ y4=x:=⟨_,rfl⟩;obtain⟨y6,dk⟩:∃x,y1+y5=x:=⟨_,rfl⟩;obtain⟨y7,dl⟩:∃x,y6+kk=x:=⟨_,rfl⟩;obtain⟨tt,c6⟩:∃x,y7+ww=x:=⟨_,rfl⟩;obtain⟨z1,b5⟩:∃x,bB N 30=x:=⟨_,rfl⟩;obtain⟨z2,b6⟩:∃x,bB N 19=x:=⟨_,rfl⟩;obtain⟨z3,b7⟩:∃x,z1 ^^^ z2=x:=⟨_,rfl⟩;obtain⟨z4,gs⟩:∃x,bB N 10=x:=⟨_,rfl⟩;obtain⟨z5,gx⟩:∃x,z3 ^^^ z4=x:=⟨_,rfl⟩;obtain⟨v1,fu⟩:∃x,N &&& a1=x:=⟨_,rfl⟩;obtain⟨v2,fv⟩:∃x,N &&& a2=x:=⟨_,rfl⟩;obtain⟨v3,fx⟩:∃x,v1 ^^^ v2=x:=⟨_,rfl⟩;obtain⟨v4,fz⟩:∃x,a1 &&& a2=x:=⟨_,rfl⟩;obtain⟨v5,f7⟩:∃x,v3 ^^^ v4=x:=⟨_,rfl⟩;obtain⟨m1,c2⟩:∃x,tt+z5=x:=⟨_,rfl⟩;obtain⟨n0,c4⟩:∃x,m1+v5=x:=⟨_,rfl⟩;obtain⟨n4,c5⟩:∃x,a3+tt=x:=⟨_,rfl⟩;have j3:Hid (bits BinOp.xor IntKind.u32 (x1.toNat:Int) (x2.toNat:Int)=(x3.toNat:Int)):=by unfold Hid;rw[<-Z];exact bA _ _
    have j4:Hid (bits BinOp.xor IntKind.u32 (x3.toNat:Int) (x4.toNat:Int)=(x5.toNat:Int)):=by unfold Hid;rw[<-gd];exact bA _ _
    have j5:Hid (bits BinOp.and IntKind.u32 (L.toNat:Int) (a5.toNat:Int)=(y2.toNat:Int)):=by unfold Hid;rw[<-bS];exact dz _ _
    have j7:Hid (bits BinOp.and IntKind.u32 (y3.toNat:Int) (a6.toNat:Int)=(y4.toNat:Int)):=by unfold Hid;rw[<-go];exact dz _ _
    have kb:Hid (bits BinOp.xor IntKind.u32 (y2.toNat:Int) (y4.toNat:Int)=(y5.toNat:Int)):=by unfold Hid;rw[<-gr];exact bA _ _
    have kc:Hid (bits BinOp.xor IntKind.u32 (z1.toNat:Int) (z2.toNat:Int)=(z3.toNat:Int)):=by unfold Hid;rw[<-b7];exact bA _ _
    have kd:Hid (bits BinOp.xor IntKind.u32 (z3.toNat:Int) (z4.toNat:Int)=(z5.toNat:Int)):=by unfold Hid;rw[<-gx];exact bA _ _
    have iv:Hid (bits BinOp.and IntKind.u32 (N.toNat:Int) (a1.toNat:Int)=(v1.toNat:Int)):=by unfold Hid;rw[<-fu];exact dz _ _
    have iE:Hid (bits BinOp.and IntKind.u32 (N.toNat:Int) (a2.toNat:Int)=(v2.toNat:Int)):=by unfold Hid;rw[<-fv];exact dz _ _
    have j0:Hid (bits BinOp.xor IntKind.u32 (v1.toNat:Int) (v2.toNat:Int)=(v3.toNat:Int)):=by unfold Hid;rw[<-fx];exact bA _ _
    have j1:Hid (bits BinOp.and IntKind.u32 (a1.toNat:Int) (a2.toNat:Int)=(v4.toNat:Int)):=by unfold Hid;rw[<-fz];exact dz _ _
    have j2:Hid (bits BinOp.xor IntKind.u32 (v3.toNat:Int) (v4.toNat:Int)=(v5.toNat:Int)):=by unfold Hid;rw[<-f7];exact bA _ _
    have j6:Hid (bits BinOp.xor IntKind.u32 4294967295 (L.toNat:Int)=(y3.toNat:Int)):=by unfold Hid;rw[<-b0];exact nJ _
    have gz:Hid (((a7.toNat:Int)+(x5.toNat:Int))%4294967296=(y1.toNat:Int)):=by unfold Hid;rw[<-br];exact cC _ _
    have n6:Hid (IntKind.u32.wrap ((a7.toNat:Int)+(x5.toNat:Int))=(y1.toNat:Int)):=by unfold Hid;rw[<-br,IntKind.wrap_u32];exact cC _ _
    have g0:Hid (((y1.toNat:Int)+(y5.toNat:Int))%4294967296=(y6.toNat:Int)):=by unfold Hid;rw[<-dk];exact cC _ _
    have n7:Hid (IntKind.u32.wrap ((y1.toNat:Int)+(y5.toNat:Int))=(y6.toNat:Int)):=by unfold Hid;rw[<-dk,IntKind.wrap_u32];exact cC _ _
    have g4:Hid (((y6.toNat:Int)+(kk.toNat:Int))%4294967296=(y7.toNat:Int)):=by unfold Hid;rw[<-dl];exact cC _ _
    have n8:Hid (IntKind.u32.wrap ((y6.toNat:Int)+(kk.toNat:Int))=(y7.toNat:Int)):=by unfold Hid;rw[<-dl,IntKind.wrap_u32];exact cC _ _
    have ds:Hid (((y7.toNat:Int)+(ww.toNat:Int))%4294967296=(tt.toNat:Int)):=by unfold Hid;rw[<-c6];exact cC _ _
    have n5:Hid (IntKind.u32.wrap ((y7.toNat:Int)+(ww.toNat:Int))=(tt.toNat:Int)):=by unfold Hid;rw[<-c6,IntKind.wrap_u32];exact cC _ _
    have gy:Hid (((tt.toNat:Int)+(z5.toNat:Int))%4294967296=(m1.toNat:Int)):=by unfold Hid;rw[<-c2];exact cC _ _
    have nC:Hid (IntKind.u32.wrap ((tt.toNat:Int)+(z5.toNat:Int))=(m1.toNat:Int)):=by unfold Hid;rw[<-c2,IntKind.wrap_u32];exact cC _ _
    have dn:Hid (((m1.toNat:Int)+(v5.toNat:Int))%4294967296=(n0.toNat:Int)):=by unfold Hid;rw[<-c4];exact cC _ _
    have n1:Hid (IntKind.u32.wrap ((m1.toNat:Int)+(v5.toNat:Int))=(n0.toNat:Int)):=by unfold Hid;rw[<-c4,IntKind.wrap_u32];exact cC _ _
    have dq:Hid (((a3.toNat:Int)+(tt.toNat:Int))%4294967296=(n4.toNat:Int)):=by unfold Hid;rw[<-c5];exact cC _ _
    have n3:Hid (IntKind.u32.wrap ((a3.toNat:Int)+(tt.toNat:Int))=(n4.toNat:Int)):=by unfold Hid;rw[<-c5,IntKind.wrap_u32];exact cC _ _
    have T6:Hid (∀w,Calls Tryz.prog 191 #[U32 L,.int .i64 6] w fun e Q=>e=.returned (U32 x1)/\∃q,Q=w.drewN q):=fun w=>by rw[<-au];exact Bz L w
    have ms:Hid (∀w,Calls Tryz.prog 191 #[U32 L,.int .i64 11] w fun e Q=>e=.returned (U32 x2)/\∃q,Q=w.drewN q):=fun w=>by rw[<-V];exact Ba L w
    have mS:Hid (∀w,Calls Tryz.prog 191 #[U32 L,.int .i64 25] w fun e Q=>e=.returned (U32 x4)/\∃q,Q=w.drewN q):=fun w=>by rw[<-gc];exact Bg L w
    have T2:Hid (∀w,Calls Tryz.prog 191 #[U32 N,.int .i64 2] w fun e Q=>e=.returned (U32 z1)/\∃q,Q=w.drewN q):=fun w=>by rw[<-b5];exact By N w
    have mt:Hid (∀w,Calls Tryz.prog 191 #[U32 N,.int .i64 13] w fun e Q=>e=.returned (U32 z2)/\∃q,Q=w.drewN q):=fun w=>by rw[<-b6];exact Bb N w
    have mE:Hid (∀w,Calls Tryz.prog 191 #[U32 N,.int .i64 22] w fun e Q=>e=.returned (U32 z4)/\∃q,Q=w.drewN q):=fun w=>by rw[<-gs];exact Bf N w
    have hr:Hid (jm D c (k+1)=[n0,N,a1,a2,n4,L,a5,a6]):=by
     show rnd (jm D c k) (dQ.getD k 0) (c.getD k 0)=_;rw[eg.out];simp only[rnd,List.getD_cons_zero,List.getD_cons_succ];rw[bs,ga,au,V,Z,gc,gd,br,bS,b0,go,gr,dk,dl,c6,b5,b6,b7,gs,gx,fu,fv,fx,fz,f7,<-UInt32.add_assoc,c2,c4,c5]
    have lb:Hid (wr.cell? ⟨gk,k,none⟩=some (U32 kk)):=by unfold Hid;rw[cell_of_row _ _ k _ _ _ b'.out.sw.kb,gV (l:=dQ) (i:=k) H,bs]
    have l4:Hid (wr.cell? ⟨gw,k,none⟩=some (U32 ww)):=by unfold Hid;rw[cell_of_row _ _ k _ _ _ b'.out.sw.wb,gV (l:=c) (i:=k) (by rw[ev.out];exact H),ga]
    clear bs ga au V Z gc gd br bS b0 go gr dk dl c6 b5 b6 b7 gs gx fu fv fx fz f7 c2 c4 c5;have B:=b'.out.vb;have s4:wr.cell? ⟨S,4,none⟩=some (U32 L):=(cell_of_row _ _ 4 _ _ _ B).trans rfl;clear B;have f3:=j3.out;have f5:=j4.out;go_upto_region 31 with fail;go_quiet (first | (go_at_call 191;first | with_reducible exact Calls.quiet_of (T6.out _) | with_reducible exact Calls.quiet_of (ms.out _) | with_reducible exact Calls.quiet_of (mS.out _)));obtain⟨r,bo⟩:∃r,r=wr.drewN nq:=⟨_,rfl⟩;have bq:Ext wr r:=by rw[bo];exact Ext.drawn _ _
    rw[<-bo];have hx:Hid _:=SumV.more b'.out bq;have lk:Hid _:=bq.cell lb.out;have l5:Hid _:=bq.cell l4.out;clear bo s4 bq f3 f5;have B:=hx.out.vb;have s4:r.cell? ⟨S,4,none⟩=some (U32 L):=(cell_of_row _ _ 4 _ _ _ B).trans rfl;have s5:r.cell? ⟨S,5,none⟩=some (U32 a5):=(cell_of_row _ _ 5 _ _ _ B).trans rfl;have s6:r.cell? ⟨S,6,none⟩=some (U32 a6):=(cell_of_row _ _ 6 _ _ _ B).trans rfl;have s7:r.cell? ⟨S,7,none⟩=some (U32 a7):=(cell_of_row _ _ 7 _ _ _ B).trans rfl;have sk:=lk.out;have sw:=l5.out;clear B;go_upto_region 33 with fail;rw[j5.out,show(if IntKind.u32.signed=true then(-1:Int)else IntKind.u32.max)=4294967295 from rfl,j6.out,j7.out,kb.out];clear s4 s5 s6;have f1:=gz.out;have f2:=g0.out;have f3:=g4.out;have f4:=ds.out;have h0:(k:Int)<64:=by omega
    go_quiet (fail)
    try rw[ds.out]
    clear s7 sk sw f1 f2 f3 f4 h0;obtain⟨wp,c8⟩:∃wp,wp=r.drewN nq:=⟨_,rfl⟩;have io:Ext r wp:=by rw[c8];exact Ext.drawn _ _
    rw[<-c8];have hw:Hid _:=SumV.more hx.out io;clear c8 io;have B:=hw.out.vb;have s0:wp.cell? ⟨S,0,none⟩=some (U32 N):=(cell_of_row _ _ 0 _ _ _ B).trans rfl;clear B;have f3:=kc.out;have f5:=kd.out;go_upto_region 34 with fail;go_quiet (first | (go_at_call 191;first | with_reducible exact Calls.quiet_of (T2.out _) | with_reducible exact Calls.quiet_of (mt.out _) | with_reducible exact Calls.quiet_of (mE.out _)));clear s0 f3 f5;obtain⟨wo,f9⟩:∃wo,wo=wp.drewN nq:=⟨_,rfl⟩;have il:Ext wp wo:=by rw[f9];exact Ext.drawn _ _
    rw[<-f9];have hu:Hid _:=SumV.more hw.out il;clear f9 il;have B:=hu.out.vb;have r0:wo.cell? ⟨S,0,none⟩=some (U32 N):=(cell_of_row _ _ 0 _ _ _ B).trans rfl;have r1:wo.cell? ⟨S,1,none⟩=some (U32 a1):=(cell_of_row _ _ 1 _ _ _ B).trans rfl;have r2:wo.cell? ⟨S,2,none⟩=some (U32 a2):=(cell_of_row _ _ 2 _ _ _ B).trans rfl;have r3:wo.cell? ⟨S,3,none⟩=some (U32 a3):=(cell_of_row _ _ 3 _ _ _ B).trans rfl;have r4:wo.cell? ⟨S,4,none⟩=some (U32 L):=(cell_of_row _ _ 4 _ _ _ B).trans rfl;have r5:wo.cell? ⟨S,5,none⟩=some (U32 a5):=(cell_of_row _ _ 5 _ _ _ B).trans rfl;have r6:wo.cell? ⟨S,6,none⟩=some (U32 a6):=(cell_of_row _ _ 6 _ _ _ B).trans rfl;go_upto_region 36 with fail;rw[iv.out,iE.out,j0.out,j1.out,j2.out];have od:Hid ((#[.int .u32 (((m1.toNat:Int)+(v5.toNat:Int))%4294967296),U32 N,U32 a1,U32 a2,.int .u32 (((a3.toNat:Int)+(tt.toNat:Int))%4294967296),U32 L,U32 a5,U32 a6]:Array Value)=#[U32 n0,U32 N,U32 a1,U32 a2,U32 n4,U32 L,U32 a5,U32 a6]):=by unfold Hid;rw[dn.out,dq.out]
    have m2:=gy.out;have m3:=dn.out;have m4:=dq.out
    go_wp2_with (refine gn ?ha 216 (.tmp 15) (.tmp 258) ?hb S 0 ?hc #[U32 n0,U32 N,U32 a1,U32 a2,U32 n4,U32 L,U32 a5,U32 a6] ?hd ?he _ _ B ?hf iV #[U32 n0,U32 N,U32 a1,U32 a2,U32 n4,U32 L,U32 a5,U32 a6] ?hg ?hh;(case ha=>rfl);(case hb=>rfl);(case hc=>rfl);(case he=>intro v hv;simp at hv;rcases hv with rfl | rfl | rfl | rfl | rfl | rfl | rfl | rfl <;> rfl);(case hf=>simp);(case hg=>simp);(case hd=>go_simp);intro wn T I)
    have eo:Hid _:=SumV.Di hu.out (cur':=[n0,N,a1,a2,n4,L,a5,a6]) T I;clear r0 r1 r2 r3 r4 r5 r6 B T I m2 m3 m4;go_roundw
    case rel=>exact⟨k+1,n0,N,a1,a2,n4,L,a5,a6,by omega,by go_num,eo.out,hr.out⟩
    case measure=>simp[intOf];omega
   have bs:k=64:=by omega
   subst bs;obtain⟨ad,co⟩:∃l,[N,a1,a2,a3,L,a5,a6,a7]=l:=⟨_,rfl⟩;have b9:Hid (ad.length=8):=by rw[<-co];rfl
   rw[co]at b' eg;have kl:Hid (SumV w wr gk O gw mb mo S M (dK D ad 0) c ad):=b'.out;have a8:Hid _:=ek.out;clear co;go_wp2_with fail;go_loopw [22] (fun i wr=>∃k:Nat,k<=8/\i=.int .i64 k/\Hid (SumV w wr gk O gw mb mo S M (dK D ad k) c ad)) (fun i _=>8 - (intOf i).toNat)
   case atStart=>exact⟨0,by omega,rfl,kl.out⟩
   case round =>
   obtain⟨k,o,rfl,H2⟩:=hrel
   by_cases H:k<8
   case pos =>
    as_aux_lemma =>
    obtain⟨sk,fs⟩:∃x,D.getD k 0=x:=⟨_,rfl⟩;obtain⟨fk,e4⟩:∃x,ad.getD k 0=x:=⟨_,rfl⟩;obtain⟨xk,gi⟩:∃x,sk+fk=x:=⟨_,rfl⟩;have h':=pP a8.out b9.out o;have U:=pQ a8.out b9.out H;have ff:=pO a8.out b9.out H;rw[fs]at ff;rw[fs,e4,gi]at U;have g5:Hid (Value.int .u32 (IntKind.u32.wrap ((sk.toNat:Int)+(fk.toNat:Int)))=U32 xk):=by unfold Hid;rw[<-gi];exact eX sk fk
    have k2:Hid (wr.cell? ⟨O,k,none⟩=some (U32 sk)):=by unfold Hid;rw[cell_of_row _ _ k _ _ _ H2.out.sw.hb,gV (by omega),ff]
    have k3:Hid (wr.cell? ⟨S,k,none⟩=some (U32 fk)):=by unfold Hid;rw[cell_of_row _ _ k _ _ _ H2.out.vb,gV (by rw[b9.out];exact H),e4]
    have ce:Hid _:=U;have c0:Hid _:=h';clear fs e4 gi ff U h';go_upto_region 40 with fail;apply ak 11 [_,_,_,_,.pointer (some ⟨O,k,none⟩),U32 sk,_,.pointer (some ⟨S,k,none⟩),U32 fk,U32 xk,.pointer (some ⟨O,k,none⟩)] [none,none,none,none,none,none,none,none,none,none,none] [[],[],[],[],[2,3],[4],[],[6],[7],[5,8],[0,1]] (by kernel_rfl) (by kernel_rfl) (by simp[aq])
    .trivial
    .simp (maxSteps:=1000000)only[List.take_succ_cons,List.take_zero,ay,aE,ab,Act.put,List.setIfInBounds_toArray,List.set_cons_zero,List.set_cons_succ,aN,aS,aq,List.getD_cons_zero,List.getD_cons_succ,and_true,true_and,forall_const];and_intros
     iterate 4 · intro A r t;intros;rename_i d;go_simp;exact d _ _ (Ext.refl _) rfl
     .intro A r t o R d;obtain⟨E,C⟩:=o;go_simp;exact d _ _ (Ext.refl _) rfl
     .intro A r t o R d;have f0:=t.cell k2.out;go_simp;exact d _ _ (Ext.refl _) rfl
     .intro A r t;intros;rename_i d;go_simp;exact d _ _ (Ext.refl _) rfl
     .intro A r t o R d;go_simp;exact d _ _ (Ext.refl _) rfl
     .intro A r t o R d;have f0:=t.cell k3.out;go_simp;exact d _ _ (Ext.refl _) rfl
     .intro A r t o R d;obtain⟨E,C⟩:=o;go_simp;exact d _ _ (Ext.refl _) g5.out
     .intro A r t o R d;obtain⟨E,C⟩:=o;go_simp;exact d _ _ (Ext.refl _) rfl
    intro A wz aa o;simp only[aU,Nat.zero_add,Nat.reduceAdd,and_true]at o;simp(maxSteps:=1000000)only[List.take_succ_cons,List.take_zero,List.drop_succ_cons,List.drop_zero,ab,Act.put,List.setIfInBounds_toArray,List.set_cons_zero,List.set_cons_succ,Nat.zero_add,Nat.reduceAdd,o];clear o;have d7:Hid _:=SumV.more H2.out aa;have hT:=d7.out.sw.hb;have cb:((dK D ad k).map U32).toArray.size=8:=by simp[c0.out]
    have J:=lV (l:=dK D ad k) (i:=k) xk (by rw[c0.out];exact H);rw[<-ce.out]at J
    go_wp2_with (refine ag rfl 167 (.tmp 273) (.tmp 272) rfl O k rfl (U32 xk) rfl rfl _ ((dK D ad k).map U32).toArray hT (by omega) gN _ J ?_;intro wn T I)
    have eo:Hid _:=SumV.C3 d7.out T I;clear T I hT cb J aa;go_roundw
    case rel=>exact⟨k+1,by omega,by go_num,eo.out⟩
    case measure=>simp[intOf];omega
   have nb:k=8:=by omega
   subst nb;have ia:dK D ad 8=eW D ((M.drop a).take 64):=by
    unfold dK;rw[ls.out,eg.out,List.drop_eq_nil_of_le (by rw[a8.out];omega),List.append_nil,List.take_of_length_le (by simp[a8.out,b9.out])]
   have l2:Hid (SumW w wr gk O gw mb mo M (eW D ((M.drop a).take 64)) c):=by
    have h9:=H2.out.sw;rw[ia]at h9;exact h9
   have k5:Hid ((be (eW D ((M.drop a).take 64)) (M.drop (a+64))).1=cx):=by
    unfold Hid;rw[<-rZ bk];exact HF.out
   have ho:Hid ((eW D ((M.drop a).take 64)).length=8):=oS a8.out;have ob:IntKind.i64.wrap ((a:Int)+64)=((a+64:Nat):Int):=by rw[IntWalk.i64_in _ (by omega)];omega
   clear ia;go_wp2_with fail;go_roundw
   case rel=>exact⟨a+64,_,c,by go_num,by omega,by have:=kp.out;omega,ho.out,ev.out,k5.out,l2.out⟩
   case measure=>simp[intOf];omega
  obtain rfl:D=cx:=by
   have h9:=HF.out;rw[ue D (by omega)]at h9;exact h9
  have g9:Hid (wr.heap[O]? = some (.cells (D.map U32).toArray 167 (0,0))):=HS.out.hb;have ey:Hid (Ext w wr):=HS.out.ext;have bd:Hid _:=ft;clear HS HF;obtain⟨wl,ih⟩:∃x,wr=x:=⟨_,rfl⟩;rw[ih]at g9 ey ⊢;clear ih;go_wp2_with fail;go_loopw [23,24] (fun ov i wr=>∃k:Nat,k<=8/\i=.int .i64 k/\Hid (wr.ownsRow wl.heap.size 5 1 ov (4*k) (((D.take k).flatMap eu).map fun x=>.int .u8 x.toNat))/\Hid (Ext wl wr)) (fun _ i _=>8 - (intOf i).toNat)
  case atStart=>exact⟨0,by omega,rfl,World.ownsRow_nil _ _ _ _,Ext.refl _⟩
  case round =>
  obtain⟨j,hj,rfl,b8,ex⟩:=hrel;obtain⟨ja,jc,rfl,-⟩:=Row.BV b8.out (by omega)
  by_cases H:j<8
  case pos =>
   as_aux_lemma =>
   obtain⟨x,gl⟩:∃x,D.getD j 0=x:=⟨_,rfl⟩;obtain⟨q1,bt⟩:∃q,x >>> 24=q:=⟨_,rfl⟩;obtain⟨q2,fi⟩:∃q,x >>> 16=q:=⟨_,rfl⟩;obtain⟨q3,bv⟩:∃q,x >>> 8=q:=⟨_,rfl⟩;have ec:Hid (Value.int .u32 ((x.toNat:Int) / 16777216)=U32 q1):=by unfold Hid;rw[<-bt];exact congrArg (Value.int .u32) (hZ x 24 (by decide))
   have lS:Hid (Value.int .u32 ((x.toNat:Int) / 65536)=U32 q2):=by unfold Hid;rw[<-fi];exact congrArg (Value.int .u32) (hZ x 16 (by decide))
   have ef:Hid (Value.int .u32 ((x.toNat:Int) / 256)=U32 q3):=by unfold Hid;rw[<-bv];exact congrArg (Value.int .u32) (hZ x 8 (by decide))
   have d4:Hid (eu x=[UInt8.ofNat q1.toNat,UInt8.ofNat q2.toNat,UInt8.ofNat q3.toNat,UInt8.ofNat x.toNat]):=by unfold Hid eu;rw[bt,fi,bv]
   have HC:Hid (wr.cell? ⟨O,j,none⟩=some (U32 x)):=by unfold Hid;exact ex.out.cell (by rw[cell_of_row _ _ j _ _ _ g9.out,gV (by rw[bd.out];exact H),gl])
   have mj:Hid _:=gl;clear bt fi bv gl;obtain⟨b1,eS⟩:∃b,UInt8.ofNat q1.toNat=b:=⟨_,rfl⟩;obtain⟨b2,e0⟩:∃b,UInt8.ofNat q2.toNat=b:=⟨_,rfl⟩;obtain⟨b3,e1⟩:∃b,UInt8.ofNat q3.toNat=b:=⟨_,rfl⟩;obtain⟨b4,e3⟩:∃b,UInt8.ofNat x.toNat=b:=⟨_,rfl⟩;have kr:Hid (Value.int .u8 (IntKind.u8.wrap (q1.toNat:Int))=.int .u8 b1.toNat):=by unfold Hid;rw[<-eS];exact lY q1
   have ks:Hid (Value.int .u8 (IntKind.u8.wrap (q2.toNat:Int))=.int .u8 b2.toNat):=by unfold Hid;rw[<-e0];exact lY q2
   have k0:Hid (Value.int .u8 (IntKind.u8.wrap (q3.toNat:Int))=.int .u8 b3.toNat):=by unfold Hid;rw[<-e1];exact lY q3
   have k1:Hid (Value.int .u8 (IntKind.u8.wrap (x.toNat:Int))=.int .u8 b4.toNat):=by unfold Hid;rw[<-e3];exact lY x
   rw[eS,e0,e1,e3]at d4;clear eS e0 e1 e3;have b9:Hid (((D.take j).flatMap eu).length=4*j):=by
    have h9:=b8.out.1;unfold Hid;simpa using h9
   go_upto_region 45 with fail;apply ak 25 [_,_,_,.pointer (some ⟨O,j,none⟩),U32 x,U32 q1,.int .u8 b1.toNat,_,_,.pointer (some ⟨O,j,none⟩),U32 x,U32 q2,.int .u8 b2.toNat,_,_,.pointer (some ⟨O,j,none⟩),U32 x,U32 q3,.int .u8 b3.toNat,_,_,.pointer (some ⟨O,j,none⟩),U32 x,.int .u8 b4.toNat,undef] [none,none,none,none,none,none,none,none,none,none,none,none,none,none,none,none,none,none,none,none,none,none,none,none,some (fun u Q=>∃g,u=.slice (some ⟨g,0,none⟩) 4 4/\wr.heap.size<=g/\Q.heap[g]? = some (.cells #[.int .u8 b1.toNat,.int .u8 b2.toNat,.int .u8 b3.toNat,.int .u8 b4.toNat] 5 (0,0)))] [[],[],[],[1,2],[3],[4],[5],[],[],[7,8],[9],[10],[11],[],[],[13,14],[15],[16],[17],[],[],[19,20],[21],[22],[6,12,18,23]] (by kernel_rfl) (by kernel_rfl) (by simp[aq])
   .refine ⟨?_,trivial⟩
    .exact fun u w Q he ⟨g,h1,h2,h3⟩=>⟨g,h1,h2,(he.block g (Array.getElem?_eq_some_iff.1 h3).1).trans h3⟩
   .simp (maxSteps:=1000000)only[List.take_succ_cons,List.take_zero,ay,aE,ab,Act.put,List.setIfInBounds_toArray,List.set_cons_zero,List.set_cons_succ,aN,aS,aq,List.getD_cons_zero,List.getD_cons_succ,and_true,true_and,forall_const];and_intros
    iterate 3 · intro A r t;intros;rename_i d;go_simp;exact d _ _ (Ext.refl _) rfl
    .intro A r t o R d;obtain⟨E,C⟩:=o;go_simp;exact d _ _ (Ext.refl _) rfl
    .intro A r t o R d;have f0:=t.cell HC.out;go_simp;exact d _ _ (Ext.refl _) rfl
    .intro A r t o R d;go_simp;exact d _ _ (Ext.refl _) ec.out
    .intro A r t o R d;go_simp;exact d _ _ (Ext.refl _) kr.out
    iterate 2 · intro A r t;intros;rename_i d;go_simp;exact d _ _ (Ext.refl _) rfl
    .intro A r t o R d;obtain⟨E,C⟩:=o;go_simp;exact d _ _ (Ext.refl _) rfl
    .intro A r t o R d;have f0:=t.cell HC.out;go_simp;exact d _ _ (Ext.refl _) rfl
    .intro A r t o R d;go_simp;exact d _ _ (Ext.refl _) lS.out
    .intro A r t o R d;go_simp;exact d _ _ (Ext.refl _) ks.out
    iterate 2 · intro A r t;intros;rename_i d;go_simp;exact d _ _ (Ext.refl _) rfl
    .intro A r t o R d;obtain⟨E,C⟩:=o;go_simp;exact d _ _ (Ext.refl _) rfl
    .intro A r t o R d;have f0:=t.cell HC.out;go_simp;exact d _ _ (Ext.refl _) rfl
    .intro A r t o R d;go_simp;exact d _ _ (Ext.refl _) ef.out
    .intro A r t o R d;go_simp;exact d _ _ (Ext.refl _) k0.out
    iterate 2 · intro A r t;intros;rename_i d;go_simp;exact d _ _ (Ext.refl _) rfl
    .intro A r t o R d;obtain⟨E,C⟩:=o;go_simp;exact d _ _ (Ext.refl _) rfl
    .intro A r t o R d;have f0:=t.cell HC.out;go_simp;exact d _ _ (Ext.refl _) rfl
    .intro A r t o R d;go_simp;exact d _ _ (Ext.refl _) k1.out
    .intro A r t o R d;obtain⟨E,C,op,os⟩:=o;go_simp;exact d _ _ ((Ext.refl _).alloc _) ⟨_,rfl,t.size,ae _ _⟩
   intro A wz aa o;simp only[aU,Nat.zero_add,Nat.reduceAdd,and_true]at o;have nw:=o.2.2.2.2.2.2.2.2.2.2.2.2.2.2.2.2.2.2.2.2.2.2.2.2;simp(maxSteps:=1000000)only[List.take_succ_cons,List.take_zero,List.drop_succ_cons,List.drop_zero,ab,Act.put,List.setIfInBounds_toArray,List.set_cons_zero,List.set_cons_succ,Nat.zero_add,Nat.reduceAdd,o];clear o;generalize A 24=pb at *;obtain⟨g,rfl,ol,m8⟩:=nw;have cs:=am b8.out aa;have d':=ex.out.trans aa
   go_wp2_with (at_builtin;refine dP rfl _ _ rfl wl.heap.size _ (4*j) _ rfl cs g 4 4 [b1,b2,b3,b4] rfl rfl m8 (by omega) d'.size ?_;intro v' w6 e' m9)
   go_roundw
   case rel =>
    refine⟨j+1,by omega,by go_num,?_,aj d' cs m9⟩;have h9:(D.take (j+1)).flatMap eu=(D.take j).flatMap eu++[b1,b2,b3,b4]:=by
     rw[List.take_add_one,List.flatMap_append,List.getElem?_eq_getElem (by rw[bd.out];exact H)];congr 1;have h8:D[j]'(by rw[bd.out];exact H)=x:=by
      rw[<-mj.out,List.getD_eq_getElem?_getD,List.getElem?_eq_getElem (by rw[bd.out];exact H)];rfl
     rw[h8];simpa using d4.out
    rw[h9];exact e'
   case measure=>simp[intOf];omega
  have na:j=8:=by omega
  subst na;go_wp2_with fail;go_ret;have h9:=b8.out.mono (base':=w.heap.size) ey.out.size;rw[List.take_of_length_le (by rw[bd.out];omega),<-d5.out]at h9;exact⟨⟨_,rfl,h9⟩,ey.out.trans ex.out⟩
end
end Go.Proofs.YtfabjgfmiaammaaGreatDoor
