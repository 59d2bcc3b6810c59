/- Contracts of the program's functions and plain laws behind the card. Conditions: as each theorem states. -/
import Derived.Test.YtgfegpnmlkdjfaaGreatDoorZai
import Derived.Deep.MidRow
import Derived.Test.YtgfegpnmlkdjfaaGreatDoorZag
set_option linter.unusedVariables false
set_option linter.unusedSimpArgs false
set_option linter.unusedSectionVars false
set_option maxRecDepth 100000
set_option maxHeartbeats 64000000
namespace Go.Proofs.YtgfegpnmlkdjfaaGreatDoor
section
open Go Go.RowKit
def aW (cb:Nat) (st:List UInt32) (rest:Value) (n:Int):Array Value:=((.pointer (some ⟨cb,0,none⟩))::(st.map U32++[rest,.int .i64 n])).toArray
def dZ (o:List Value):Array Value:=(o++(dj.map U32++dT.map U32)).toArray
variable {cb j:Nat} {st:List UInt32} {rest:Value} {n:Int}
theorem q' (h:j<st.length):(aW cb st rest n)[1+j]? = some (U32 (st.getD j 0)):=by
 unfold aW;simp[show 1+j=j+1 by omega,List.getElem?_append,h,List.getD_eq_getElem?_getD]
theorem uH {o:List Value} (a:o.length=3) (h:j<64):(dZ o)[11+j]? = some (U32 (dT.getD j 0)):=by
 unfold dZ;rw[List.getElem?_toArray,List.getElem?_append_right (by omega),List.getElem?_append_right (by rw[a,List.length_map];show 8<=_;omega),List.length_map,a];rw[show 11+j - 3 - dj.length=j by show 11+j - 3 - 8=j;omega,List.getElem?_map,List.getElem?_eq_getElem (show j<dT.length from h)];simp[List.getD_eq_getElem?_getD,show j<dT.length from h]
theorem iu {l:List UInt32} (h:l.length=8):∃a b c d e g i j,l=[a,b,c,d,e,g,i,j]:=by
 match l,h with
 | [a,b,c,d,e,g,i,j],_=>exact⟨a,b,c,d,e,g,i,j,rfl⟩
structure MixR (w wr:World) (gw gs:Nat) (V:Array Value) (st W:List UInt32) (k:Nat) (c:List UInt32):Prop where
 ext:Ext w wr
 now:wr.heap[gw]? = some (.cells V 229 (0,0))
 cur:wr.heap[gs]? = some (.cells (c.map U32).toArray 103 (0,0))
 eq:jO st W k=c
 low:w.heap.size<=gw/\gw<gs
variable {w wr w2:World} {gw gs k:Nat} {V:Array Value} {W c:List UInt32}
theorem MixR.more (h:MixR w wr gw gs V st W k c) (a:Ext wr w2):MixR w w2 gw gs V st W k c :=
 ⟨h.ext.trans a,Ext.row a h.now,Ext.row a h.cur,h.eq,h.low⟩
theorem MixR.put {new:List UInt32} (h:MixR w wr gw gs V st W k c) (d:w2.heap[gs]? = some (.cells (new.map U32).toArray 103 (0,0))) (a:wr.grownBy w2 (some gs)) (b:rnd c (dT.getD k 0) (W.getD k 0)=new):MixR w w2 gw gs V st W (k+1) new :=
 ⟨Below.grown h.ext a h.ext.size (fun j e=>by cases e;have:=h.low;omega),(a.block _ (Array.getElem?_eq_some_iff.1 h.now).1 (by have:=h.low;simp;omega)).trans h.now,d,by show rnd (jO st W k) _ _=_;rw[h.eq];exact b,h.low⟩
def dP (st a:List UInt32) (k:Nat):List UInt32:=(List.zipWith (· + ·) st a).take k++st.drop k
variable {fin:List UInt32}
theorem rx (b:st.length=8) (a:fin.length=8) (d:k<=8):(dP st fin k).length=8:=by
 unfold dP;simp[b,a];omega
theorem ru (b:st.length=8) (a:fin.length=8) (d:k<8):(dP st fin k).getD k 0=st.getD k 0:=by
 unfold dP;rw[List.getD_eq_getElem?_getD,List.getElem?_append_right (by simp[b,a];omega),List.getD_eq_getElem?_getD];simp[b,a,show min k 8=k by omega]
theorem ry (d:st.length=8) (a:fin.length=8) (b:k<8):dP st fin (k+1)=(dP st fin k).set k (st.getD k 0+fin.getD k 0):=by
 obtain⟨e,g,h,i,l,o,p,q,rfl⟩:=iu d;obtain⟨r,t,u,x,y,z,A,B,rfl⟩:=iu a
 match k,b with
 | 0,_=>rfl
 | 1,_=>rfl
 | 2,_=>rfl
 | 3,_=>rfl
 | 4,_=>rfl
 | 5,_=>rfl
 | 6,_=>rfl
 | 7,_=>rfl
theorem wZ (x:UInt32) (h:j<st.length):aW cb (st.set j x) rest n=((aW cb st rest n).toList.take (1+j)++[U32 x]++(aW cb st rest n).toList.drop (1+j+1)).toArray:=by
 unfold aW;apply Array.ext';simp only[List.toList_toArray,show 1+j=j+1 by omega,List.take_succ_cons,List.drop_succ_cons,List.cons_append];congr 1;rw[List.map_set,List.take_append_of_le_length (by simp;omega),List.drop_append_of_le_length (by simp;omega),List.set_eq_take_append_cons_drop,if_pos (by simpa using h)];simp
theorem ir:(aW cb st rest n).size=st.length+3:=by
 unfold aW;simp
theorem nF {F:Array Value} {v:Value} (w:World) (h:F[k]? = some v) (a:k<8):(Instr.index 103 (.agg F) (.int .i64 (k:Int))).run Tryz.prog w=.ok v w:=by
 simp[Instr.index,run_underlying Tryz.underlying103,asIntOf];rw[if_pos a];simp[part,isAgg,run_underlying Tryz.underlying100,h]
structure Ah (w wr:World) (hb cb:Nat) (st fin:List UInt32) (rest:Value) (n:Int) (k:Nat):Prop where
 fr:Fr (fun j=>j=hb) w wr
 cells:wr.heap[hb]? = some (.cells (aW cb (dP st fin k) rest n) 234 (0,0))
theorem nj {a:Nat} {cs:Array Value} {fr:Nat×Nat} (b:w.heap[a]? = some (.cells cs 234 fr)):¬IsU8 w a:=nX b (by kernel_rfl)
theorem CF (D cb:Nat) (st:List UInt32) (rest v:Value) (n:Int) (b:B8) (o:List Value) (w:World) (b7:st.length=8) (ho:o.length=3)
  (hg:w.heap[D]? = some (.cells (aW cb st rest n) 234 (0,0))) (hc:w.heap[cb]? = some (.cells (dZ o) 231 (0,0))) (hv:IsBytes w v b) (hl:b.length=64) :
  Calls Tryz.prog 170 #[.pointer (some ⟨D,0,none⟩),v] w fun e w'=>e=.returned (.tuple #[])/\w'.heap[D]? = some (.cells (aW cb (fj st b) rest n) 234 (0,0))/\Fr (fun k=>k=D) w w':=by
 have HG:Hid _:=hg;have HC:Hid _:=hc;have HV:Hid _:=hv;have HL:Hid _:=hl;have f3:=(Array.getElem?_eq_some_iff.1 hg).1;obtain⟨a,f2,rfl,h1,h2,h3,-⟩:=hv.get;obtain⟨i0,i1,i2,i3,i4,i5,i6,i7,b5⟩:=iu b7;have e5:Hid _:=b5;have P:w.rangeAt D 1 [U32 i0,U32 i1,U32 i2,U32 i3,U32 i4,U32 i5,U32 i6,U32 i7]:=fun j u hu=>by
  have Z:=(List.getElem?_eq_some_iff.1 hu).1;have f4:j<8:=by simpa using Z
  rw[cell_of_row w D (1+j) _ _ _ hg,q' (by omega),b5];have:([U32 i0,U32 i1,U32 i2,U32 i3,U32 i4,U32 i5,U32 i6,U32 i7]:List Value)=[i0,i1,i2,i3,i4,i5,i6,i7].map U32:=rfl;rw[this,List.getElem?_map]at hu;rw[<-hu,List.getD_eq_getElem?_getD]
  cases hx:([i0,i1,i2,i3,i4,i5,i6,i7]:List UInt32)[j]? with
  | none=>rw[List.getElem?_eq_none_iff]at hx;simp at hx;omega
  | some x=>rfl
 have e4:Hid _:=P;have T:Hid _:=b7;have HO:Hid _:=ho;clear hg hc hv hl b7 ho b5 P;go_enter Tryz.func170,Tryz.ntmps170;go_wp2_with fail;go_at_call 177;refine(ue _ b w HV.out HL.out).mono ?_;rintro e w1 ⟨rfl,C⟩;have el:=ee b 64;have Q:((aQ b 64).map U32).toArray.size=64:=by simp[el]
 obtain⟨V,hV⟩:∃V,((aQ b 64).map U32).toArray=V:=⟨_,rfl⟩;have aa:=uk (aQ b 64);rw[hV]at Q aa ⊢;have ea:Hid _:=hV;have b4:(bH [] 64).size=64:=iF (Nat.zero_le _);have ek:(bH [] 64).toList.drop (0+V.size)=[]:=by rw[Q];exact List.drop_eq_nil_of_le (by rw[Array.length_toList,b4];omega)
 have ec:(w1.alloc (.cells (bH [] 64) 229)).heap[w1.heap.size]? = some (.cells (bH [] 64) 229 (0,0)):=ah _ _;go_upto_region 1 with(refine gI rfl 229 (.tmp 4) (.tmp 16) rfl w1.heap.size 0 rfl V rfl aa _ (bH [] 64) ec (by rw[Q,b4];omega) (by rw[Q];exact ij) V (by rw[ek];simp) ?_;intro w2 eg bb);have N:Ext w w2:=Below.grown (C.alloc _) bb (by have:=C.size;simp;omega) (fun j Z=>by cases Z;exact C.size);have bi:w2.rangeAt D 1 [U32 i0,U32 i1,U32 i2,U32 i3,U32 i4,U32 i5,U32 i6,U32 i7]:=fun j u hu=>N.cell (e4.out j u hu)
 have bm:Hid _:=eg;have bp:Hid _:=N;have eb:Hid _:=C;obtain⟨gw,b1⟩:∃k,w1.heap.size=k:=⟨_,rfl⟩;rw[b1]at bm ⊢;have ei:w.heap.size<=gw:=by rw[<-b1];exact C.size
 have bc:gw<w2.heap.size:=(Array.getElem?_eq_some_iff.1 bm.out).1;clear aa b4 ek ec eg bb C N hV b1 el;go_upto_region 2 with(refine wpList_load_mid rfl 103 (.tmp 19) rfl D 1 rfl [U32 i0,U32 i1,U32 i2,U32 i3,U32 i4,U32 i5,U32 i6,U32 i7] _ bi Tryz.underlying103 rfl jr ?_);obtain⟨w3,av⟩:∃q,q=w2.alloc (.cells #[U32 i0,U32 i1,U32 i2,U32 i3,U32 i4,U32 i5,U32 i6,U32 i7] 103):=⟨_,rfl⟩;have bk:w2.alloc (.cells #[U32 i0,U32 i1,U32 i2,U32 i3,U32 i4,U32 i5,U32 i6,U32 i7] 103)=w3:=av.symm;rw[bk];have O:Ext w2 w3:=by rw[av];exact(Ext.refl _).alloc _
 have bo:Hid (MixR w w3 gw w2.heap.size V st (aQ b 64) 0 [i0,i1,i2,i3,i4,i5,i6,i7]):=⟨Ext.trans bp.out O,Ext.row O bm.out,by rw[av];exact ah _ _,e5.out,ei,bc⟩;obtain⟨gs,eh⟩:∃k,w2.heap.size=k:=⟨_,rfl⟩;rw[eh]at bo ⊢;clear av bk O bi eh bc;obtain⟨W,hW⟩:∃W,aQ b 64=W:=⟨_,rfl⟩;have e6:Hid (∀j,j<64->V[j]? = some (U32 (W.getD j 0))):=fun j Z=>by
  rw[<-hW,<-ea.out,List.getElem?_toArray,List.getElem?_map,List.getElem?_eq_getElem (by rw[ee];exact Z),List.getD_eq_getElem?_getD,List.getElem?_eq_getElem (by rw[ee];exact Z)];rfl
 have e9:Hid (fj st b=List.zipWith (· + ·) st (jO st W 64)):=by unfold Hid fj;rw[hW]
 rw[hW]at bo;clear hW ea;go_wp2_with fail;go_loopw [21] (fun i wr=>∃(k:Nat) (t G H a3 y I J a7:UInt32),k<=64/\i=.int .i64 k/\Hid (MixR w wr gw gs V st W k [t,G,H,a3,y,I,J,a7])) (fun i _=>64 - (intOf i).toNat)
 case atStart=>exact⟨0,i0,i1,i2,i3,i4,i5,i6,i7,by omega,rfl,bo.out⟩
 case round =>
  obtain⟨k,t,G,H,a3,y,I,J,a7,h,rfl,HM⟩:=hrel
  by_cases M:k<64
  .obtain ⟨kk,L⟩:∃x,dT.getD k 0=x:=⟨_,rfl⟩;obtain⟨ww,cf⟩:∃x,W.getD k 0=x:=⟨_,rfl⟩;obtain⟨x1,C⟩:∃x,bg y 26=x:=⟨_,rfl⟩;obtain⟨x2,N⟩:∃x,bg y 21=x:=⟨_,rfl⟩;obtain⟨x3,O⟩:∃x,x1 ^^^ x2=x:=⟨_,rfl⟩;obtain⟨x4,ci⟩:∃x,bg y 7=x:=⟨_,rfl⟩;obtain⟨x5,cl⟩:∃x,x3 ^^^ x4=x:=⟨_,rfl⟩;obtain⟨y1,a9⟩:∃x,a7+x5=x:=⟨_,rfl⟩;obtain⟨y2,cp⟩:∃x,y &&& I=x:=⟨_,rfl⟩;obtain⟨y3,cq⟩:∃x,~~~y=x:=⟨_,rfl⟩;obtain⟨y4,cs⟩:∃x,y3 &&& J=x:=⟨_,rfl⟩;obtain⟨y5,cu⟩:∃x,y2 ^^^ y4=x:=⟨_,rfl⟩;obtain⟨y6,a'⟩:∃x,y1+y5=x:=⟨_,rfl⟩;obtain⟨y7,ba⟩:∃x,y6+kk=x:=⟨_,rfl⟩;obtain⟨tt,ao⟩:∃x,y7+ww=x:=⟨_,rfl⟩;obtain⟨z1,cv⟩:∃x,bg t 30=x:=⟨_,rfl⟩;obtain⟨z2,cx⟩:∃x,bg t 19=x:=⟨_,rfl⟩;obtain⟨z3,c0⟩:∃x,z1 ^^^ z2=x:=⟨_,rfl⟩;obtain⟨z4,c2⟩:∃x,bg t 10=x:=⟨_,rfl⟩;obtain⟨z5,c3⟩:∃x,z3 ^^^ z4=x:=⟨_,rfl⟩;obtain⟨v1,b8⟩:∃x,t &&& G=x:=⟨_,rfl⟩;obtain⟨v2,b9⟩:∃x,t &&& H=x:=⟨_,rfl⟩;obtain⟨v3,b'⟩:∃x,v1 ^^^ v2=x:=⟨_,rfl⟩;obtain⟨v4,ca⟩:∃x,G &&& H=x:=⟨_,rfl⟩;obtain⟨v5,cc⟩:∃x,v3 ^^^ v4=x:=⟨_,rfl⟩;obtain⟨uu,au⟩:∃x,z5+v5=x:=⟨_,rfl⟩;obtain⟨n0,ai⟩:∃x,tt+uu=x:=⟨_,rfl⟩;obtain⟨n4,am⟩:∃x,a3+tt=x:=⟨_,rfl⟩;have eb:Hid _:=C;have bp:Hid _:=N;have c':Hid (bits BinOp.xor IntKind.u32 (x1.toNat:Int) (x2.toNat:Int)=(x3.toNat:Int)):=by unfold Hid;rw[<-O];exact bd _ _
   have e':Hid _:=ci;have da:Hid (bits BinOp.xor IntKind.u32 (x3.toNat:Int) (x4.toNat:Int)=(x5.toNat:Int)):=by unfold Hid;rw[<-cl];exact bd _ _
   have dc:Hid (IntKind.u32.wrap ((a7.toNat:Int)+(x5.toNat:Int))=(y1.toNat:Int)):=by unfold Hid;rw[<-a9,IntKind.wrap_u32];exact bZ _ _
   have fv:Hid (((a7.toNat:Int)+(x5.toNat:Int))%4294967296=(y1.toNat:Int)):=by unfold Hid;rw[<-a9];exact bZ _ _
   have dk:Hid (bits BinOp.and IntKind.u32 (y.toNat:Int) (I.toNat:Int)=(y2.toNat:Int)):=by unfold Hid;rw[<-cp];exact dw _ _
   have dn:Hid (bits BinOp.xor IntKind.u32 4294967295 (y.toNat:Int)=(y3.toNat:Int)):=by unfold Hid;rw[<-cq];exact oR _
   have dp:Hid (bits BinOp.and IntKind.u32 (y3.toNat:Int) (J.toNat:Int)=(y4.toNat:Int)):=by unfold Hid;rw[<-cs];exact dw _ _
   have dq:Hid (bits BinOp.xor IntKind.u32 (y2.toNat:Int) (y4.toNat:Int)=(y5.toNat:Int)):=by unfold Hid;rw[<-cu];exact bd _ _
   have ds:Hid (IntKind.u32.wrap ((y1.toNat:Int)+(y5.toNat:Int))=(y6.toNat:Int)):=by unfold Hid;rw[<-a',IntKind.wrap_u32];exact bZ _ _
   have fx:Hid (((y1.toNat:Int)+(y5.toNat:Int))%4294967296=(y6.toNat:Int)):=by unfold Hid;rw[<-a'];exact bZ _ _
   have d0:Hid (IntKind.u32.wrap ((y6.toNat:Int)+(kk.toNat:Int))=(y7.toNat:Int)):=by unfold Hid;rw[<-ba,IntKind.wrap_u32];exact bZ _ _
   have f1:Hid (((y6.toNat:Int)+(kk.toNat:Int))%4294967296=(y7.toNat:Int)):=by unfold Hid;rw[<-ba];exact bZ _ _
   have c4:Hid (IntKind.u32.wrap ((y7.toNat:Int)+(ww.toNat:Int))=(tt.toNat:Int)):=by unfold Hid;rw[<-ao,IntKind.wrap_u32];exact bZ _ _
   have ft:Hid (((y7.toNat:Int)+(ww.toNat:Int))%4294967296=(tt.toNat:Int)):=by unfold Hid;rw[<-ao];exact bZ _ _
   have fa:Hid _:=cv;have fb:Hid _:=cx;have d1:Hid (bits BinOp.xor IntKind.u32 (z1.toNat:Int) (z2.toNat:Int)=(z3.toNat:Int)):=by unfold Hid;rw[<-c0];exact bd _ _
   have fc:Hid _:=c2;have d2:Hid (bits BinOp.xor IntKind.u32 (z3.toNat:Int) (z4.toNat:Int)=(z5.toNat:Int)):=by unfold Hid;rw[<-c3];exact bd _ _
   have c5:Hid (bits BinOp.and IntKind.u32 (t.toNat:Int) (G.toNat:Int)=(v1.toNat:Int)):=by unfold Hid;rw[<-b8];exact dw _ _
   have c6:Hid (bits BinOp.and IntKind.u32 (t.toNat:Int) (H.toNat:Int)=(v2.toNat:Int)):=by unfold Hid;rw[<-b9];exact dw _ _
   have c7:Hid (bits BinOp.xor IntKind.u32 (v1.toNat:Int) (v2.toNat:Int)=(v3.toNat:Int)):=by unfold Hid;rw[<-b'];exact bd _ _
   have c8:Hid (bits BinOp.and IntKind.u32 (G.toNat:Int) (H.toNat:Int)=(v4.toNat:Int)):=by unfold Hid;rw[<-ca];exact dw _ _
   have c9:Hid (bits BinOp.xor IntKind.u32 (v3.toNat:Int) (v4.toNat:Int)=(v5.toNat:Int)):=by unfold Hid;rw[<-cc];exact bd _ _
   have fs:Hid (IntKind.u32.wrap ((z5.toNat:Int)+(v5.toNat:Int))=(uu.toNat:Int)):=by unfold Hid;rw[<-au,IntKind.wrap_u32];exact bZ _ _
   have d5:Hid (((z5.toNat:Int)+(v5.toNat:Int))%4294967296=(uu.toNat:Int)):=by unfold Hid;rw[<-au];exact bZ _ _
   have fn:Hid (IntKind.u32.wrap ((tt.toNat:Int)+(uu.toNat:Int))=(n0.toNat:Int)):=by unfold Hid;rw[<-ai,IntKind.wrap_u32];exact bZ _ _
   have d3:Hid (((tt.toNat:Int)+(uu.toNat:Int))%4294967296=(n0.toNat:Int)):=by unfold Hid;rw[<-ai];exact bZ _ _
   have fr:Hid (IntKind.u32.wrap ((a3.toNat:Int)+(tt.toNat:Int))=(n4.toNat:Int)):=by unfold Hid;rw[<-am,IntKind.wrap_u32];exact bZ _ _
   have d4:Hid (((a3.toNat:Int)+(tt.toNat:Int))%4294967296=(n4.toNat:Int)):=by unfold Hid;rw[<-am];exact bZ _ _
   have d':Hid (rnd [t,G,H,a3,y,I,J,a7] (dT.getD k 0) (W.getD k 0)=[n0,t,G,H,n4,y,I,J]):=by
    unfold Hid;simp only[rnd,List.getD_cons_zero,List.getD_cons_succ];rw[L,cf,C,N,O,ci,cl,a9,cp,cq,cs,cu,a',ba,ao,cv,cx,c0,c2,c3,b8,b9,b',ca,cc,au,ai,am]
   have e0:Hid (w.cell? ⟨cb,11+k,none⟩=some (U32 kk)):=(cell_of_row _ _ (11+k) _ _ _ HC.out).trans ((uH HO.out M).trans (by rw[L]));have e7:Hid (V[k]? = some (U32 ww)):=(e6.out k M).trans (by rw[cf]);clear C N O ci cl a9 cp cq cs cu a' ba ao cv cx c0 c2 c3 b8 b9 b' ca cc au ai am L cf;have d:=HM.out.cur;have s0:wr.cell? ⟨gs,0,none⟩=some (U32 t):=(cell_of_row _ _ 0 _ _ _ d).trans rfl;have s4:wr.cell? ⟨gs,4,none⟩=some (U32 y):=(cell_of_row _ _ 4 _ _ _ d).trans rfl;clear d;go_upto_region 5 with fail;go_quiet (fail);obtain⟨q,ce⟩:∃q,q=wr.drewN nq:=⟨_,rfl⟩;rw[<-ce];have ag:Hid _:=MixR.more HM.out (show Ext wr q by rw[ce];exact Ext.drawn _ _);clear s0 s4 ce;go_wp2_with fail;go_at_call 178;refine(FO y _).mono ?_;rw[eb.out];rintro e w9 ⟨rfl,rfl⟩;go_wp2_with fail;go_at_call 178;refine(EU y _).mono ?_;rw[bp.out];rintro e w9 ⟨rfl,rfl⟩;go_wp2_with fail;go_at_call 178;refine(E0 y _).mono ?_;rw[e'.out];rintro e w9 ⟨rfl,rfl⟩;have d:=ag.out.cur;have bh:=ag.out.now;have co:=ag.out.ext;have s5:w9.cell? ⟨gs,5,none⟩=some (U32 I):=(cell_of_row _ _ 5 _ _ _ d).trans rfl;have s6:w9.cell? ⟨gs,6,none⟩=some (U32 J):=(cell_of_row _ _ 6 _ _ _ d).trans rfl;have s7:w9.cell? ⟨gs,7,none⟩=some (U32 a7):=(cell_of_row _ _ 7 _ _ _ d).trans rfl;have sw:w9.cell? ⟨gw,k,none⟩=some (U32 ww):=(cell_of_row _ _ k _ _ _ bh).trans e7.out;have sc:w9.cell? ⟨D,0,none⟩=some (.pointer (some ⟨cb,0,none⟩)):=co.cell ((cell_of_row _ _ 0 _ _ _ HG.out).trans rfl);have sk:w9.cell? ⟨cb,11+k,none⟩=some (U32 kk):=co.cell e0.out;clear d bh co;go_upto_region 7 with fail;rw[c'.out,da.out];go_wp2_with fail;apply ak 29 [_,U32 a7,_,U32 y1,_,_,U32 I,U32 y2,_,U32 y3,_,U32 J,U32 y4,U32 y5,U32 y6,_,_,_,.pointer (some ⟨cb,0,none⟩),_,_,_,.pointer (some ⟨cb,11+k,none⟩),U32 kk,U32 y7,_,.pointer (some ⟨gw,k,none⟩),U32 ww,U32 tt] [none,none,none,none,none,none,none,none,none,none,none,none,none,none,none,none,none,none,none,none,none,none,none,none,none,none,none,none,none] [[],[0],[],[1,2],[],[],[5],[4,6],[],[8],[],[10],[9,11],[7,12],[3,13],[],[15],[16],[17],[],[18],[20],[19,21],[22],[14,23],[],[25],[26],[24,27]] (by kernel_rfl) (by kernel_rfl) (by simp[aq])
   .trivial
   .simp (maxSteps:=1000000)only[List.take_succ_cons,List.take_zero,ay,aB,af,Act.put,List.setIfInBounds_toArray,List.set_cons_zero,List.set_cons_succ,aE,aH,aq,List.getD_cons_zero,List.getD_cons_succ,and_true,true_and,forall_const];and_intros
    .intro r q p;intros;rename_i g;go_simp;exact g _ _ (Ext.refl _) rfl
    .intro r q p h R g;have f0:=p.cell s7;go_simp;exact g _ _ (Ext.refl _) rfl
    .intro r q p;intros;rename_i g;go_simp;exact g _ _ (Ext.refl _) rfl
    .intro r q p h R g;obtain⟨A,B⟩:=h;go_simp;exact g _ _ (Ext.refl _) (congrArg _ dc.out)
    iterate 2 · intro r q p;intros;rename_i g;go_simp;exact g _ _ (Ext.refl _) rfl
    .intro r q p h R g;have f0:=p.cell s5;go_simp;exact g _ _ (Ext.refl _) rfl
    .intro r q p h R g;obtain⟨A,B⟩:=h;go_simp;exact g _ _ (Ext.refl _) (congrArg _ dk.out)
    .intro r q p;intros;rename_i g;go_simp;exact g _ _ (Ext.refl _) rfl
    .intro r q p h R g;go_simp;exact g _ _ (Ext.refl _) (congrArg _ dn.out)
    .intro r q p;intros;rename_i g;go_simp;exact g _ _ (Ext.refl _) rfl
    .intro r q p h R g;have f0:=p.cell s6;go_simp;exact g _ _ (Ext.refl _) rfl
    .intro r q p h R g;obtain⟨A,B⟩:=h;go_simp;exact g _ _ (Ext.refl _) (congrArg _ dp.out)
    .intro r q p h R g;obtain⟨A,B⟩:=h;go_simp;exact g _ _ (Ext.refl _) (congrArg _ dq.out)
    .intro r q p h R g;obtain⟨A,B⟩:=h;go_simp;exact g _ _ (Ext.refl _) (congrArg _ ds.out)
    iterate 3 · intro r q p;intros;rename_i g;go_simp;exact g _ _ (Ext.refl _) rfl
    .intro r q p h R g;have f0:=p.cell sc;go_simp;exact g _ _ (Ext.refl _) rfl
    iterate 3 · intro r q p;intros;rename_i g;go_simp;exact g _ _ (Ext.refl _) rfl
    .intro r q p h R g;obtain⟨A,B⟩:=h;go_simp;exact g _ _ (Ext.refl _) rfl
    .intro r q p h R g;have f0:=p.cell sk;go_simp;exact g _ _ (Ext.refl _) rfl
    .intro r q p h R g;obtain⟨A,B⟩:=h;go_simp;exact g _ _ (Ext.refl _) (congrArg _ d0.out)
    .intro r q p;intros;rename_i g;go_simp;exact g _ _ (Ext.refl _) rfl
    .intro r q p h R g;go_simp;exact g _ _ (Ext.refl _) rfl
    .intro r q p h R g;have f0:=p.cell sw;go_simp;exact g _ _ (Ext.refl _) rfl
    .intro r q p h R g;obtain⟨A,B⟩:=h;go_simp;exact g _ _ (Ext.refl _) (congrArg _ c4.out)
   intro r wz S h;simp only[aG,Nat.zero_add,Nat.reduceAdd,and_true]at h;simp(maxSteps:=1000000)only[List.take_succ_cons,List.take_zero,List.drop_succ_cons,List.drop_zero,af,Act.put,List.setIfInBounds_toArray,List.set_cons_zero,List.set_cons_succ,Nat.zero_add,Nat.reduceAdd,h];clear h;have d9:Hid _:=MixR.more ag.out S;clear s5 s6 s7 sw sc sk S;go_wp2_with fail;go_at_call 178;refine(FN t _).mono ?_;rw[fa.out];rintro e w8 ⟨rfl,rfl⟩;go_wp2_with fail;go_at_call 178;refine(EV t _).mono ?_;rw[fb.out];rintro e w8 ⟨rfl,rfl⟩;go_wp2_with fail;go_at_call 178;refine(EZ t _).mono ?_;rw[fc.out];rintro e w8 ⟨rfl,rfl⟩;have d:=d9.out.cur;have r0:w8.cell? ⟨gs,0,none⟩=some (U32 t):=(cell_of_row _ _ 0 _ _ _ d).trans rfl;have r1:w8.cell? ⟨gs,1,none⟩=some (U32 G):=(cell_of_row _ _ 1 _ _ _ d).trans rfl;have r2:w8.cell? ⟨gs,2,none⟩=some (U32 H):=(cell_of_row _ _ 2 _ _ _ d).trans rfl;have r3:w8.cell? ⟨gs,3,none⟩=some (U32 a3):=(cell_of_row _ _ 3 _ _ _ d).trans rfl;have r4:w8.cell? ⟨gs,4,none⟩=some (U32 y):=(cell_of_row _ _ 4 _ _ _ d).trans rfl;have r5:w8.cell? ⟨gs,5,none⟩=some (U32 I):=(cell_of_row _ _ 5 _ _ _ d).trans rfl;have r6:w8.cell? ⟨gs,6,none⟩=some (U32 J):=(cell_of_row _ _ 6 _ _ _ d).trans rfl;go_upto_region 9 with fail;rw[d1.out,d2.out];go_upto_region 10 with fail;rw[c5.out,c6.out,c7.out,c8.out,c9.out,d5.out];have e2:Hid ((#[.int .u32 (((tt.toNat:Int)+(uu.toNat:Int))%4294967296),U32 t,U32 G,U32 H,.int .u32 (((a3.toNat:Int)+(tt.toNat:Int))%4294967296),U32 y,U32 I,U32 J]:Array Value)=#[U32 n0,U32 t,U32 G,U32 H,U32 n4,U32 y,U32 I,U32 J]):=by unfold Hid;rw[d3.out,d4.out]
   go_wp2_with (refine gI rfl 103 (.tmp 5) (.tmp 109) rfl gs 0 rfl #[U32 n0,U32 t,U32 G,U32 H,U32 n4,U32 y,U32 I,U32 J] (congrArg Value.agg e2.out) (by intro v hv;simp at hv;rcases hv with rfl | rfl | rfl | rfl | rfl | rfl | rfl | rfl <;> rfl) _ _ d (by simp) jr #[U32 n0,U32 t,U32 G,U32 H,U32 n4,U32 y,U32 I,U32 J] (by simp) ?_;intro wn Y E)
   have e1:Hid _:=MixR.put d9.out (new:=[n0,t,G,H,n4,y,I,J]) Y E d'.out;clear r0 r1 r2 r3 r4 r5 r6 d Y E;go_roundw
   case rel=>exact⟨k+1,n0,t,G,H,n4,y,I,J,by omega,by go_num,e1.out⟩
   case measure=>simp[intOf];omega
  .have L:k=64:=by omega
   subst L;have d:=HM.out.cur;have bs:=HM.out.eq;have U:=HM.out.ext;obtain⟨z,X⟩:∃l,[t,G,H,a3,y,I,J,a7]=l:=⟨_,rfl⟩;have b0:z.length=8:=by rw[<-X];rfl
   rw[X]at d bs;have es:Hid _:=bs;have ad:Hid _:=b0;obtain⟨F,hF⟩:∃F,(z.map U32).toArray=F:=⟨_,rfl⟩;have fd:F.size=8:=by rw[<-hF];simp[b0]
   have ev:Hid (∀j,j<8->F[j]? = some (U32 (z.getD j 0))):=fun j Z=>by
    rw[<-hF,List.getElem?_toArray,List.getElem?_map,List.getElem?_eq_getElem (by omega),List.getD_eq_getElem?_getD,List.getElem?_eq_getElem (by omega)];rfl
   rw[hF]at d;have em:Hid (Ah w wr D cb st z rest n 0):=⟨Fr.GX U,by show wr.heap[D]? = some (.cells (aW cb ([]++st.drop 0) rest n) _ _);rw[List.nil_append,List.drop_zero];exact Ext.row U HG.out⟩;clear bs b0 hF X U
   go_wp2_with (refine wpList_load_row rfl 103 (.tmp 5) rfl gs rfl 103 F (0,0) _ d Tryz.underlying103 rfl (by rw[fd];exact jr) ?_)
   clear d;go_loopw [112] (fun i wr=>∃k:Nat,k<=8/\i=.int .i64 k/\Hid (Ah w wr D cb st z rest n k)) (fun i _=>8 - (intOf i).toNat)
   case atStart=>exact⟨0,by omega,rfl,em.out⟩
   case round =>
    obtain⟨k,h,rfl,H2⟩:=hrel
    by_cases M:k<8
    .obtain ⟨sk,b6⟩:∃x,st.getD k 0=x:=⟨_,rfl⟩;obtain⟨fk,bv⟩:∃x,z.getD k 0=x:=⟨_,rfl⟩;obtain⟨xk,cm⟩:∃x,sk+fk=x:=⟨_,rfl⟩;have K:=H2.out.cells;have fg:=rx T.out ad.out h;have b3:=ry T.out ad.out M;have b2:=ru T.out ad.out M;rw[b6]at b2;rw[b6,bv,cm]at b3;have d6:Hid (Value.int .u32 (IntKind.u32.wrap ((sk.toNat:Int)+(fk.toNat:Int)))=U32 xk):=by unfold Hid;rw[<-cm];exact fq sk fk
     have ff:=nF wr ((ev.out k M).trans (by rw[bv])) M;have c1:wr.cell? ⟨D,1+k,none⟩=some (U32 sk):=by rw[cell_of_row _ _ (1+k) _ _ _ K,q' (by omega),b2]
     have eo:Hid _:=c1;have er:Hid _:=K;have e3:Hid _:=b3;clear b6 bv cm b2 b3 c1 K;go_upto_region 15 with fail;clear ff;apply ak 11 [_,_,_,.pointer (some ⟨D,1,none⟩),.pointer (some ⟨D,1+k,none⟩),U32 sk,_,U32 xk,_,.pointer (some ⟨D,1,none⟩),.pointer (some ⟨D,1+k,none⟩)] [none,none,none,none,none,none,none,none,none,none,none] [[],[],[0],[2],[1,3],[4],[],[5,6],[0],[8],[1,9]] (by kernel_rfl) (by kernel_rfl) (by simp[aq])
     .trivial
     .simp (maxSteps:=1000000)only[List.take_succ_cons,List.take_zero,ay,aB,af,Act.put,List.setIfInBounds_toArray,List.set_cons_zero,List.set_cons_succ,aE,aH,aq,List.getD_cons_zero,List.getD_cons_succ,and_true,true_and,forall_const];and_intros
      iterate 4 · intro r q p;intros;rename_i g;go_simp;exact g _ _ (Ext.refl _) rfl
      .intro r q p h R g;obtain⟨A,B⟩:=h;go_simp;exact g _ _ (Ext.refl _) rfl
      .intro r q p h R g;have f0:=p.cell eo.out;go_simp;exact g _ _ (Ext.refl _) rfl
      .intro r q p;intros;rename_i g;go_simp;exact g _ _ (Ext.refl _) rfl
      .intro r q p h R g;obtain⟨A,B⟩:=h;go_simp;exact g _ _ (Ext.refl _) d6.out
      iterate 2 · intro r q p;intros;rename_i g;go_simp;exact g _ _ (Ext.refl _) rfl
      .intro r q p h R g;obtain⟨A,B⟩:=h;go_simp;exact g _ _ (Ext.refl _) rfl
     intro r wz S h;simp only[aG,Nat.zero_add,Nat.reduceAdd,and_true]at h;simp(maxSteps:=1000000)only[List.take_succ_cons,List.take_zero,List.drop_succ_cons,List.drop_zero,af,Act.put,List.setIfInBounds_toArray,List.set_cons_zero,List.set_cons_succ,Nat.zero_add,Nat.reduceAdd,h];clear h;have bq:=Ext.row S er.out;have fm:=ir (cb:=cb) (st:=dP st z k) (rest:=rest) (n:=n);have ab:=wZ (cb:=cb) (st:=dP st z k) (rest:=rest) (n:=n) (j:=k) xk (by omega);rw[<-e3.out]at ab
     go_wp2_with (refine aP rfl 100 (.tmp 126) (.tmp 123) rfl D (1+k) rfl (U32 xk) rfl rfl _ _ bq (by omega) hI (aW cb (dP st z (k+1)) rest n) ab ?_;intro wn Y E)
     have H3:Hid (Ah w wn D cb st z rest n (k+1)):=⟨(H2.out.fr.ext S).step E (fun j Z=>by cases Z;exact .inl rfl) (by rintro j Z;cases Z;exact nj bq),Y⟩;clear bq fm ab Y E S fg;go_roundw
     case rel=>exact⟨k+1,by omega,by go_num,H3.out⟩
     case measure=>simp[intOf];omega
    .have L:k=8:=by omega
     subst L;have d7:Hid (wr.heap[D]? = some (.cells (aW cb (fj st b) rest n) 234 (0,0))):=by
      have h9:=H2.out.cells;have h8:dP st z 8=fj st b:=by
       unfold dP;rw[e9.out,es.out,List.drop_eq_nil_of_le (by rw[T.out];omega),List.append_nil,List.take_of_length_le (by simp[T.out,ad.out])]
      rw[h8]at h9;exact h9
     go_wp2
     go_end0
     exact⟨rfl,d7.out,H2.out.fr⟩
end
section
open Go Go.RowKit
variable {cb:Nat} {st:List UInt32} {rest:Value} {n:Int}
theorem gn (h:st.length=8):(aW cb st rest n)[9]? = some rest/\(aW cb st rest n)[10]? = some (Value.int .i64 n):=by
 obtain⟨a,b,c,d,e,g,i,j,rfl⟩:=iu h;exact⟨rfl,rfl⟩
theorem nE {new:Value} (h:st.length=8):aW cb st new n=((aW cb st rest n).toList.take 9++[new]++(aW cb st rest n).toList.drop (9+1)).toArray:=by
 obtain⟨a,b,c,d,e,g,i,j,rfl⟩:=iu h;rfl
theorem tE {new:Int} (h:st.length=8):aW cb st rest new=((aW cb st rest n).toList.take 10++[Value.int .i64 new]++(aW cb st rest n).toList.drop (10+1)).toArray:=by
 obtain⟨a,b,c,d,e,g,i,j,rfl⟩:=iu h;rfl
theorem qS (v:Value) (l:B8) (w:World) (y:IsBytes w v l) (F:l.length<=140737488355328) :
  Calls Tryz.prog 159 #[v] w fun e k=>(∃v,e=.returned v/\k.ownsRow w.heap.size 5 1 v l.length (l.map fun x=>.int .u8 x.toNat))/\Ext w k:=by
 obtain⟨a,d,rfl,C,D,E,p⟩:=y
 cases a with
 | none =>
  have u:l=[]:=by
   cases l with
   | nil=>rfl
   | cons x l=>obtain⟨b,o,j,_⟩:=p (by simp);cases j
  subst u;exact(Tryz.bytes_Clone_nil 0 d w).mono fun e k ⟨j,z⟩=>⟨⟨_,j,World.ownsRow_nil _ _ _ _⟩,by rw[z];exact Ext.refl _⟩
 | some r =>
  refine(Tryz.bytes_Clone_at r l.length d (l.map fun x=>(x.toNat:Int)) w (by simp) (by omega) (fun i q=>?_)).mono fun e k ⟨B,j,c,_,A⟩=>⟨⟨B,j,?_⟩,A⟩
  .have n:l≠[]:=by rintro rfl;simp at q
   obtain⟨b,o,h,t⟩:=p (by simpa using n);cases h;have g:(⟨b,o,none⟩:Addr).add i=⟨b,o+i,none⟩:=by unfold Addr.add;split <;> simp_all
   rw[g];refine t i _ ?_;simp[q]
  .rw [List.map_map]at c;exact c
structure Wr (w wr:World) (hb cb:Nat) (goal:List UInt32×B8) (n:Int) (st:List UInt32) (rv:Value) (r:B8):Prop where
 fr:Fr (fun k=>k=hb) w wr
 G0:st.length=8
 cells:wr.heap[hb]? = some (.cells (aW cb st rv n) 234 (0,0))
 bytes:IsBytes wr rv r
 IL:TypB wr rv
 len:r.length<=20000000
 goal:aT st r=goal
def restLen (w:World) (a:Nat):Nat:=match w.cell? ⟨a,9,none⟩with
 | some (.slice _ n _)=>n
 | _=>0
theorem Wr.restLen {w wr:World} {c:Nat} {b:List UInt32×B8} {e:Value} {r:B8} (h:Wr w wr c cb b n st e r):restLen wr c=r.length:=by
 obtain⟨a,d,rfl,-⟩:=id h.bytes;unfold Go.Proofs.YtgfegpnmlkdjfaaGreatDoor.restLen;rw[(cell_of_row _ _ 9 _ _ _ h.cells).trans (gn h.G0).1]
theorem rV (i cb:Nat) (st:List UInt32) (I v:Value) (r b:B8) (n:Nat) (o:List Value) (w:World) (z:st.length=8) (ho:o.length=3) (bi:i≠cb) (hn:n<=1000000000)
  (C:w.heap[i]? = some (.cells (aW cb st I n) 234 (0,0))) (hc:w.heap[cb]? = some (.cells (dZ o) 231 (0,0))) (hr:IsBytes w I r) (bk:TypB w I) (hv:IsBytes w v b) (a5:Out (fun k=>k=i) w v) (b2:r.length<=10000000) (hl:b.length<=10000000) :
  Calls Tryz.prog 152 #[.pointer (some ⟨i,0,none⟩),v] w fun e w'=>e=.returned (.tuple #[])/\∃(A:List UInt32) (G:Value) (r':B8),Wr w w' i cb (aT st (r++b)) (n+b.length) A G r'/\(A,r')=aT st (r++b):=by
 obtain⟨a,av,rfl,h1,h2,h3,-⟩:=hv.get;have HC:Hid _:=hc;have HR:Hid _:=hr;have HV:Hid _:=hv;have ba:Hid _:=a5;have J:Hid _:=z;have HO:Hid _:=ho;have HG:Hid _:=C;have c9:w.cell? ⟨i,9,none⟩=some I:=(cell_of_row _ _ 9 _ _ _ C).trans (gn z).1;have bb:w.cell? ⟨i,10,none⟩=some (.int .i64 (n:Int)):=(cell_of_row _ _ 10 _ _ _ C).trans (gn z).2;have bo:(aW cb st I (n:Int)).size=11:=by rw[ir,z]
 have X:=tE (cb:=cb) (rest:=I) (n:=(n:Int)) (new:=(n:Int)+b.length) z;clear hc hr hv a5 z ho;go_enter Tryz.func152,Tryz.ntmps152;go_upto_region 1 with(refine aP rfl 3 (.tmp 12) (.tmp 10) rfl i 10 rfl (.int .i64 ((n:Int)+b.length)) rfl rfl _ _ C (by omega) Bw (aW cb st I ((n:Int)+b.length)) X ?_;intro w2 Z V);have U:Fr (fun k=>k=i) w w2:=(Fr.refl _ w).step V (fun j E=>by cases E;exact .inl rfl) (by rintro j E;cases E;exact nj C);have d9:w2.cell? ⟨i,9,none⟩=some I:=(cell_of_row _ _ 9 _ _ _ Z).trans (gn J.out).1;have B:Hid _:=U;have a9:Hid _:=Z;clear Z V U c9 bb X C;have ai:Hid (IsBytes w2 I r):=Row.G' HR.out bk B.out.keep;go_wp2_with fail;go_at_call 159;refine(qS I r w2 ai.out (by omega)).mono ?_;rintro e w3 ⟨⟨v3,rfl,F⟩,S⟩;have am:Hid (IsBytes w3 (.slice a b.length av) b):=IsBytes.ext (IsBytes.fr (O:=fun k=>k=i) HV.out ba.out B.out) S;have q:Hid (w3.ownsRow w2.heap.size 5 1 v3 r.length (r.map fun x:UInt8=>Value.int .u8 (x.toNat:Int))):=F;have au:Hid _:=S;have bm:=S.size;clear F S
 go_wp2_with first | (at_builtin;go_must (refine gV _ _ _ 1 1 Tryz.underlying52 jl rfl (by omega) rfl _ _ rfl rfl w2.heap.size v3 r.length (r.map fun x:UInt8=>Value.int .u8 (x.toNat:Int)) rfl q.out (.slice a b.length av) b.length (b.map fun x:UInt8=>Value.int .u8 (x.toNat:Int)) rfl am.out (by simp) (by intro u hu;obtain⟨_,_,rfl⟩:=List.mem_map.1 hu;rfl) (by omega) (by omega) bm ?_;intro v4 w4 l W;rw[<-List.map_append]at l;have ab:Ext w2 w4:=aA au.out q.out W;have a2:v4.oneCell'=true:=(by rcases l.2 with⟨rfl,_⟩ | ⟨g,c,bv,rfl,_⟩ <;> rfl);have N:=Ext.row ab a9.out)) | (refine aP rfl 52 (.tmp 22) (.tmp 20) rfl i 9 rfl v4 rfl a2 _ _ N (by rw[ir,J.out];omega) pO (aW cb st v4 ((n:Int)+b.length)) (nE J.out) ?_;intro w5 a0 D)
 have Y:Wr w w5 i cb (aT st (r++b)) ((n:Int)+b.length) st v4 (r++b):=by
  have hk:KeepB w4 w5:=KeepB.G1 D N (by kernel_rfl);have a4:TypB w4 v4:=TypB.GW l;refine⟨(B.out.ext ab).step D (fun j E=>by cases E;exact .inl rfl) (by rintro j E;cases E;exact nj N),J.out,a0,?_,a4.keep hk,by rw[List.length_append];omega,rfl⟩;have a3:=Row.GW l (by omega);unfold IsBytes;rw[List.length_append];exact a3.G' a4 hk
 have ao:Hid _:=Y;clear Y a0 D N a2 ab W l d9 bo au q am ai
 go_frame
 go_loopw [] (fun wr=>∃(A:List UInt32) (G:Value) (r':B8),Wr w wr i cb (aT st (r++b)) ((n:Int)+b.length) A G r') (fun wr=>restLen wr i)
 case atStart=>exact⟨st,v4,r++b,ao.out⟩
 case round =>
  obtain⟨s6,r6,p,t⟩:=hrel;have d:Hid _:=t;have a':Hid _:=t.restLen;obtain⟨K,L,rfl,k1,k2,k3,-⟩:=t.bytes.get;have e9:wr.cell? ⟨i,9,none⟩=some (.slice K p.length L):=(cell_of_row _ _ 9 _ _ _ t.cells).trans (gn t.G0).1;have b1:=t.len;clear t
  by_cases Q:64<=p.length
  .go_wp2_with fail;go_at_call 170;refine(CF i cb s6 (.slice K p.length L) (.slice K 64 L) ((n:Int)+b.length) (p.take 64) o wr d.out.G0 HO.out d.out.cells (d.out.fr.row HC.out (fun h=>bi h.symm)) (IsBytes.head 64 d.out.bytes Q) (by rw[List.length_take];omega)).mono ?_;rintro e w7 ⟨rfl,P,M⟩;have R:(fj s6 (p.take 64)).length=8:=qC d.out.G0;have ag:Hid _:=R;have b0:w7.cell? ⟨i,9,none⟩=some (.slice K p.length L):=(cell_of_row _ _ 9 _ _ _ P).trans (gn R).1;have bs:Hid _:=M;have T:∀H,H.heap[i]? = some (.cells (aW cb (fj s6 (p.take 64)) (tailV K p.length L 64) ((n:Int)+b.length)) 234 (0,0))->w7.grownBy H (some i) ->
     (∃(A:List UInt32) (G:Value) (r':B8),Wr w H i cb (aT st (r++b)) ((n:Int)+b.length) A G r')/\restLen H i<restLen wr i:=by
    intro H aa y;have a1:KeepB wr H:=M.keep.trans (KeepB.G1 y P (by kernel_rfl));have bc:IsBytes H (.slice K p.length L) p:=Row.G' d.out.bytes d.out.IL a1;have bp:TypB H (.slice K p.length L):=d.out.IL.keep a1;obtain⟨bh,bq⟩:=IsBytes.tailV 64 bc Q bp;have a7:Wr w H i cb (aT st (r++b)) ((n:Int)+b.length) (fj s6 (p.take 64)) (tailV K p.length L 64) (p.drop 64):=by
     refine⟨(d.out.fr.trans (M.mono fun k hk=>.inl hk)).step y (fun j E=>by cases E;exact .inl rfl) (by rintro j E;cases E;exact nj P),R,aa,bh,bq,by rw[List.length_drop];omega,?_⟩;have C:=d.out.goal;rw[aT,if_pos Q]at C;exact C
    refine⟨⟨_,_,_,a7⟩,?_⟩;rw[a7.restLen,a'.out,List.length_drop];omega
   have ad:Hid _:=T;clear M R e9 T
   go_wp2_with (refine aP rfl 52 _ _ rfl i 9 rfl (tailV K p.length L 64) rfl rfl _ _ P (by rw[ir,ag.out];omega) pO _ (nE ag.out) ?_;intro H aa y)
   all_goals exact ad.out H aa y
  .go_wp2_with fail
   go_end0
   have C:aT s6 p=(s6,p):=by rw[aT,if_neg Q]
   exact⟨rfl,s6,_,p,d.out,C.symm.trans d.out.goal⟩
end
section
open Go Go.RowKit
theorem Ax (c cb:Nat) (st:List UInt32) (rv:Value) (r:B8) (n:Nat) (w:World) (z:st.length=8)
  (d:w.heap[c]? = some (.cells (aW cb st rv n) 234 (0,0))) (X:IsBytes w rv r) (aa:r.length<=10000000) :
  Calls Tryz.prog 171 #[.pointer (some ⟨c,0,none⟩)] w fun e q=>(∃(g:Nat) (o:Value),e=.returned (.pointer (some ⟨g,0,none⟩))/\w.heap.size<=g/\q.heap[g]? = some (.cells (aW cb st o n) 234 (0,0))/\IsBytes q o r/\TypB q o)/\Ext w q:=by
 obtain⟨G,H,I,J,K,L,M,N,rfl⟩:=iu z;obtain⟨a,y,rfl,h1,h2,h3,-⟩:=X.get;have HG:Hid _:=d;have HR:Hid (IsBytes w (.slice a r.length y) r):=X;have D:w.cell? ⟨c,0,none⟩=some (.pointer (some ⟨cb,0,none⟩)):=(cell_of_row _ _ 0 _ _ _ d).trans rfl;have Y:w.cell? ⟨c,1,none⟩=some (U32 G):=(cell_of_row _ _ 1 _ _ _ d).trans rfl;have Z:w.cell? ⟨c,2,none⟩=some (U32 H):=(cell_of_row _ _ 2 _ _ _ d).trans rfl;have c3:w.cell? ⟨c,3,none⟩=some (U32 I):=(cell_of_row _ _ 3 _ _ _ d).trans rfl;have c4:w.cell? ⟨c,4,none⟩=some (U32 J):=(cell_of_row _ _ 4 _ _ _ d).trans rfl;have c5:w.cell? ⟨c,5,none⟩=some (U32 K):=(cell_of_row _ _ 5 _ _ _ d).trans rfl;have c6:w.cell? ⟨c,6,none⟩=some (U32 L):=(cell_of_row _ _ 6 _ _ _ d).trans rfl;have c7:w.cell? ⟨c,7,none⟩=some (U32 M):=(cell_of_row _ _ 7 _ _ _ d).trans rfl;have c8:w.cell? ⟨c,8,none⟩=some (U32 N):=(cell_of_row _ _ 8 _ _ _ d).trans rfl;have E:w.cell? ⟨c,9,none⟩=some (.slice a r.length y):=(cell_of_row _ _ 9 _ _ _ d).trans rfl;have F:w.cell? ⟨c,10,none⟩=some (.int .i64 (n:Int)):=(cell_of_row _ _ 10 _ _ _ d).trans rfl;clear X d z;go_enter Tryz.func171,Tryz.ntmps171;go_wp2_with fail;apply ak 17 [_,_,_,_,_,_,_,.agg #[U32 G,U32 H,U32 I,U32 J,U32 K,U32 L,U32 M,U32 N],_,_,_,_,undef,_,_,_,_] [none,none,none,none,none,none,none,none,none,none,none,none,some (fun u q=>q.ownsRow w.heap.size 5 1 u r.length (r.map fun x=>.int .u8 x.toNat)),none,none,none,none] [[],[0],[1],[2],[],[4],[5],[6],[],[8],[9],[10],[11],[],[13],[14],[15]] (by kernel_rfl) (by kernel_rfl) (by simp[aq])
 .refine ⟨?_,trivial⟩
  .exact fun _ _ _ he h=>az h he
 .simp (maxSteps:=1000000)only[List.take_succ_cons,List.take_zero,ay,aB,af,Act.put,List.setIfInBounds_toArray,List.set_cons_zero,List.set_cons_succ,aE,aH,aq,List.getD_cons_zero,List.getD_cons_succ,and_true,true_and,forall_const];and_intros
  iterate 7 · intro t S b;intros;rename_i j;have f0:=b.cell D;have U:=b.cell E;have V:=b.cell F;go_simp;exact j _ _ (Ext.refl _) rfl
  .intro t S b p R j;have f1:=b.cell Y;have U:=b.cell Z;have V:=b.cell c3;have f4:=b.cell c4;have f5:=b.cell c5;have f6:=b.cell c6;have f7:=b.cell c7;have f8:=b.cell c8;go_simp;exact j _ _ (Ext.refl _) rfl
  iterate 4 · intro t S b;intros;rename_i j;have f0:=b.cell D;have U:=b.cell E;have V:=b.cell F;go_simp;exact j _ _ (Ext.refl _) rfl
  .intro t S b p R j;go_simp;exact(qS _ r _ (HR.out.ext b) (by omega)).mono (by rintro e' w4 ⟨⟨v2,rfl,h1⟩,h3⟩;exact⟨_,rfl,j _ _ h3 (tU h1 b.size)⟩)
  iterate 4 · intro t S b;intros;rename_i j;have f0:=b.cell D;have U:=b.cell E;have V:=b.cell F;go_simp;exact j _ _ (Ext.refl _) rfl
 intro t C A p;simp only[aG,Nat.zero_add,Nat.reduceAdd,and_true]at p;have l:=p.2.2.2.2.2.2.2.2.2.2.2.2.1;simp(maxSteps:=1000000)only[List.take_succ_cons,List.take_zero,List.drop_succ_cons,List.drop_zero,af,Act.put,List.setIfInBounds_toArray,List.set_cons_zero,List.set_cons_succ,Nat.zero_add,Nat.reduceAdd,p];clear p;generalize t 12=ab at *;obtain⟨O,P,rfl,-⟩:=Row.GW l (by omega);have T:Hid (C.ownsRow w.heap.size 5 1 (.slice O r.length P) r.length (r.map fun x=>.int .u8 x.toNat)):=l;clear l D E F Y Z c3 c4 c5 c6 c7 c8;go_wp2_with fail;obtain⟨Q,i⟩:∃Q,Q=C.alloc (.cells (aW cb [G,H,I,J,K,L,M,N] (.slice O r.length P) n) 234):=⟨_,rfl⟩;have B:Ext C Q:=by rw[i];exact(Ext.refl _).alloc _
 have W:Q.heap[C.heap.size]? = some (.cells (aW cb [G,H,I,J,K,L,M,N] (.slice O r.length P) n) 234 (0,0)):=by rw[i];exact ah _ _
 have k:=az T.out B;go_ret;refine⟨⟨C.heap.size,.slice O r.length P,rfl,A.size,?_,?_,?_⟩,?_⟩
 .exact i▸W
 .exact i▸Row.GW k (by omega)
 .exact i▸TypB.GW k
 .exact i▸A.trans B
end
section
open Go Go.RowKit
def sy:Value->Nat
 | .slice _ n _=>n
 | _=>0
theorem vQ (n:Nat):cY n<64:=by unfold cY;omega
variable {k:Nat}
theorem vO {n:Nat} (a:k<=cY n):(n+(1+k))%64=56↔k=cY n:=by
 unfold cY at a ⊢;omega
def ig (n k:Nat):B8:=128::List.replicate (cY n) 0++(be8 (8*n)).take k
theorem mn (n:Nat):ig n 8=iT n:=rfl
theorem rt (n:Nat) (h:k<8):ig n (k+1)=ig n k++[UInt8.ofNat (8*n / 2 ^ (56 - 8*k))]:=by
 unfold ig;rw[List.append_assoc];congr 1;rcases(by omega:k=0\/k=1\/k=2\/k=3\/k=4\/k=5\/k=6\/k=7)with rfl | rfl | rfl | rfl | rfl | rfl | rfl | rfl <;> rfl
theorem oF (n:Nat) (h:k<=8):(ig n k).length=1+cY n+k:=by
 unfold ig;rw[List.length_append,List.length_cons,List.length_replicate,List.length_take,show(be8 (8*n)).length=8 from rfl];omega
theorem nW (x:UInt32) (k:Nat) (a:k<32):(x.toNat:Int) / (2 ^ k:Int)%256=((UInt8.ofNat (x >>> UInt32.ofNat k).toNat).toNat:Int):=by
 rw[iB x k a];generalize(x >>> UInt32.ofNat k).toNat=m;rw[UInt8.toNat_ofNat'];exact(Int.natCast_emod m 256).symm
theorem BA (hb cb:Nat) (st:List UInt32) (rv:Value) (r:B8) (n:Nat) (o:List Value) (w:World) (W:st.length=8) (ho:o.length=3) (hn:n<=10000000)
  (hg:w.heap[hb]? = some (.cells (aW cb st rv n) 234 (0,0))) (hc:w.heap[cb]? = some (.cells (dZ o) 231 (0,0))) (hr:IsBytes w rv r) (b8:r.length<=10000000) :
  Calls Tryz.prog 153 #[.pointer (some ⟨hb,0,none⟩)] w fun e w'=>(∃v,e=.returned v/\w'.ownsRow w.heap.size 5 1 v 32 (((aT st (r++iT n)).1.flatMap ex).map fun x=>.int .u8 x.toNat))/\Ext w w':=by
 have HC:Hid _:=hc;have HR:Hid (IsBytes w rv r):=hr;have Z:Hid _:=W;have HO:Hid _:=ho;have HG:Hid _:=hg;have cf:=(Array.getElem?_eq_some_iff.1 hc).1;have ad:w.cell? ⟨hb,10,none⟩=some (.int .i64 (n:Int)):=(cell_of_row _ _ 10 _ _ _ hg).trans (gn W).2;clear hc hr W ho hg;go_enter Tryz.func153,Tryz.ntmps153;go_upto_region 2 with(go_at_call 171;go_must (refine(Ax hb cb st rv r n w Z.out HG.out HR.out b8).mono ?_;rintro e l ⟨⟨g,M,rfl,b0,au,a1,a3⟩,K⟩));have a9:Hid _:=au;have bc:Hid (IsBytes l M r):=a1;have bh:Hid (TypB l M):=a3;have aa:Hid (Ext w l):=K;have bs:=K.cell ad;have cm:=K.size;clear au a1 a3 K ad;go_wp2_with fail;have a4:Ext l (l.alloc (.cells #[.int .u8 128] 5)):=(Ext.refl _).alloc _;have E:(l.alloc (.cells #[.int .u8 128] 5)).ownsRow l.heap.size 5 1 (.slice (some ⟨l.heap.size,0,none⟩) 1 1) (1+0) ((128::List.replicate 0 0:B8).map fun x=>.int .u8 x.toNat):=⟨rfl,.inr ⟨l.heap.size,1,#[.int .u8 128],rfl,Nat.le_refl _,ah _ _,Nat.le_refl _,by unfold maxLen;omega,rfl,rfl⟩⟩;have cl:=vQ n;have bo:Hid _:=a4;have P:Hid ((l.alloc (.cells #[.int .u8 128] 5)).ownsRow l.heap.size 5 1 (.slice (some ⟨l.heap.size,0,none⟩) 1 1) (1+0) ((128::List.replicate 0 0:B8).map fun x=>.int .u8 x.toNat)):=E;clear a4 E;go_loopw [5] (fun pv wr=>∃k:Nat,k<=cY n/\wr.ownsRow l.heap.size 5 1 pv (1+k) ((128::List.replicate k 0:B8).map fun x=>.int .u8 x.toNat)/\Ext l wr) (fun pv _=>65 - sy pv)
 case atStart=>exact⟨0,Nat.zero_le _,P.out,bo.out⟩
 case round =>
  obtain⟨k,hk,d,C⟩:=hrel;have D:Hid (wr.ownsRow l.heap.size 5 1 u5 (1+k) ((128::List.replicate k 0:B8).map fun x=>.int .u8 x.toNat)):=d;obtain⟨pa,pc,rfl,-⟩:=Row.GW d (by omega);have HX:Hid (Ext l wr):=C;have a2:=C.size;have ce:=C.cell bs;clear d C;have am:=vO hk
  by_cases av:k=cY n
  .have hm:(((n:Int)+(1+k:Nat))%64 != 56)=false:=by simp;omega
   clear am;go_wp2_with fail;have ba:Hid _:=av;clear av hm;generalize(((n:Int)+(1+(cY n:Int)))%64 != 56)=c9;generalize((n:Int)+(1+(cY n:Int)))%64=c0;generalize(n:Int)+(1+(cY n:Int))=cx;generalize(1+(cY n:Int))=cv;go_loopw [5,31] (fun pv i wr=>∃k:Nat,k<=8/\i=.int .i64 k/\wr.ownsRow l.heap.size 5 1 pv (1+cY n+k) ((ig n k).map fun x=>.int .u8 x.toNat)/\Ext l wr) (fun _ i _=>8 - (intOf i).toNat)
   case atStart=>exact⟨0,by omega,rfl,by unfold ig;rw[List.take_zero,List.append_nil,<-ba.out];exact D.out,HX.out⟩
   case round =>
    obtain⟨q,hq,rfl,d,C⟩:=hrel;have y:Hid (wr.ownsRow l.heap.size 5 1 u5 (1+cY n+q) ((ig n q).map fun x=>.int .u8 x.toNat)):=d;obtain⟨pa,pc,rfl,-⟩:=Row.GW d (by omega);have B:Hid (Ext l wr):=C;have a2:=C.size;clear d C
    by_cases t:q<8
    .have A:((n:Int)*8 / 2 ^ (56 - 8*q)%256)=((UInt8.ofNat (8*n / 2 ^ (56 - 8*q))).toNat:Int):=by
      rw[UInt8.toNat_ofNat',Nat.mul_comm 8 n];push_cast;rfl
     have b':Hid _:=A;have bb:Hid _:=rt n t;generalize hz:UInt8.ofNat (8*n / 2 ^ (56 - 8*q))=z at A;have HZ:Hid _:=hz;have bk:Hid _:=A;clear A hz
     go_wp2_with (at_builtin;go_must (refine eT rfl _ _ rfl l.heap.size _ (1+cY n+q) (ig n q) rfl (y.out.alloc _) wr.heap.size 1 1 [z] rfl rfl (fr:=(0,0)) (by show _=some (Obj.cells #[Value.int .u8 (z.toNat:Int)] _ _);rw[<-bk.out];exact ah _ _) (by omega) (by simp;omega) ?_;intro v' w3 h U))
     go_roundw
     case rel=>exact⟨q+1,by omega,by go_num,by rw[bb.out,HZ.out];exact h,aA (B.out.alloc _) (y.out.alloc _) U⟩
     case measure=>simp[intOf];omega
    .have b7:q=8:=by omega
     subst b7;have cp:=a2;have a':Hid (wr.heap[g]? = some (.cells (aW cb st M n) 234 (0,0))):=Ext.row B.out a9.out;have a6:Hid (wr.heap[cb]? = some (.cells (dZ o) 231 (0,0))):=Ext.row B.out (Ext.row aa.out HC.out);have bm:Hid (IsBytes wr (.slice pa (1+cY n+8) pc) (iT n)):=by
      have G:=Row.GW y.out (by omega);unfold Hid IsBytes;rw[<-mn,oF n (Nat.le_refl 8)];exact G
     have bi:Hid (TypB wr (.slice pa (1+cY n+8) pc)):=TypB.GW y.out;have ci:(iT n).length=1+cY n+8:=oF n (Nat.le_refl 8);go_upto_region 12 with(go_at_call 152;go_must (refine(rV g cb st M _ r (iT n) n o wr Z.out HO.out (by omega) (by omega) a'.out a6.out (bc.out.ext B.out) (TypB.keep bh.out (KeepB.GX B.out)) bm.out (fun a n c he _=>.inr (bi.out a n c he)) (by omega) (by omega)).mono ?_;rintro e H ⟨rfl,b9,cu,r5,J,ai⟩));have O:(aT st (r++iT n)).1=b9:=by rw[<-ai]
     have N:Hid _:=O;have X:Ext w H:=Ext.Hv (aa.out.trans B.out) J.fr (fun k hk=>by cases hk;exact b0);obtain⟨i0,i1,i2,i3,i4,i5,i6,i7,rfl⟩:=iu J.G0;have p:=J.cells;have c1:H.cell? ⟨g,1,none⟩=some (U32 i0):=(cell_of_row _ _ 1 _ _ _ p).trans rfl;have c2:H.cell? ⟨g,2,none⟩=some (U32 i1):=(cell_of_row _ _ 2 _ _ _ p).trans rfl;have c3:H.cell? ⟨g,3,none⟩=some (U32 i2):=(cell_of_row _ _ 3 _ _ _ p).trans rfl;have c4:H.cell? ⟨g,4,none⟩=some (U32 i3):=(cell_of_row _ _ 4 _ _ _ p).trans rfl;have c5:H.cell? ⟨g,5,none⟩=some (U32 i4):=(cell_of_row _ _ 5 _ _ _ p).trans rfl;have c6:H.cell? ⟨g,6,none⟩=some (U32 i5):=(cell_of_row _ _ 6 _ _ _ p).trans rfl;have c7:H.cell? ⟨g,7,none⟩=some (U32 i6):=(cell_of_row _ _ 7 _ _ _ p).trans rfl;have c8:H.cell? ⟨g,8,none⟩=some (U32 i7):=(cell_of_row _ _ 8 _ _ _ p).trans rfl;have bp:Hid (Ext w H):=X;have co:=X.size;clear ai O J p X;go_wp2_with fail;generalize hF:(#[U32 i0,U32 i1,U32 i2,U32 i3,U32 i4,U32 i5,U32 i6,U32 i7]:Array Value)=F;generalize hL:[i0,i1,i2,i3,i4,i5,i6,i7]=L at N;have a0:L.length=8:=by subst hL;rfl
     have ag:∀j,j<8->F[j]? = some (U32 (L.getD j 0)):=by
      intro j hj;subst hF hL;rcases(by omega:j=0\/j=1\/j=2\/j=3\/j=4\/j=5\/j=6\/j=7)with rfl | rfl | rfl | rfl | rfl | rfl | rfl | rfl <;> rfl
     have a7:Hid _:=ag;have I:Hid _:=a0;clear hF hL ag a0 c1 c2 c3 c4 c5 c6 c7 c8;go_loopw [7,51] (fun ov i wr=>∃k:Nat,k<=8/\i=.int .i64 k/\wr.ownsRow w.heap.size 5 1 ov (4*k) (((L.take k).flatMap ex).map fun x=>.int .u8 x.toNat)/\Ext w wr) (fun _ i _=>8 - (intOf i).toNat)
     case atStart=>exact⟨0,by omega,rfl,World.ownsRow_nil _ _ _ _,bp.out⟩
     case round =>
      obtain⟨j,hj,rfl,d,C⟩:=hrel;have u:Hid (wr.ownsRow w.heap.size 5 1 u7 (4*j) (((L.take j).flatMap ex).map fun x=>.int .u8 x.toNat)):=d;obtain⟨ja,jc,rfl,-⟩:=Row.GW d (by omega);have ab:Hid (Ext w wr):=C;have ca:=C.size;clear d C
      by_cases t:j<8
      .have b5:=nF wr (a7.out j t) t;generalize a5:L.getD j 0=x at b5;have bq:Hid _:=a5;obtain⟨b1,Q⟩:∃b,UInt8.ofNat (x >>> 24).toNat=b:=⟨_,rfl⟩;obtain⟨b2,R⟩:∃b,UInt8.ofNat (x >>> 16).toNat=b:=⟨_,rfl⟩;obtain⟨b3,S⟩:∃b,UInt8.ofNat (x >>> 8).toNat=b:=⟨_,rfl⟩;obtain⟨b4,T⟩:∃b,UInt8.ofNat x.toNat=b:=⟨_,rfl⟩;have f1:(x.toNat:Int) / 16777216%256=(b1.toNat:Int):=by rw[<-Q];exact nW x 24 (by decide)
       have f2:(x.toNat:Int) / 65536%256=(b2.toNat:Int):=by rw[<-R];exact nW x 16 (by decide)
       have f3:(x.toNat:Int) / 256%256=(b3.toNat:Int):=by rw[<-S];exact nW x 8 (by decide)
       have f4:(x.toNat:Int)%256=(b4.toNat:Int):=by rw[<-T,UInt8.toNat_ofNat'];exact(Int.natCast_emod _ 256).symm
       have Y:Hid (ex x=[b1,b2,b3,b4]):=by unfold Hid ex;rw[Q,R,S,T]
       clear Q R S T a5;have ao:((L.take j).flatMap ex).length=4*j:=by
        have G:=u.out.1;simpa using G
       have cc:Hid _:=ao;clear ao
       go_wp2_with (at_builtin;go_must (refine eT rfl _ _ rfl w.heap.size _ (4*j) ((L.take j).flatMap ex) rfl (u.out.alloc _) wr.heap.size 4 4 [b1,b2,b3,b4] rfl rfl (fr:=(0,0)) (ah _ _) (by omega) (by simp;omega) ?_;intro v' w6 V bv))
       go_roundw
       case rel =>
        refine⟨j+1,by omega,by go_num,?_,aA (ab.out.alloc _) (u.out.alloc _) bv⟩;have G:(L.take (j+1)).flatMap ex=(L.take j).flatMap ex++[b1,b2,b3,b4]:=by
         rw[List.take_add_one,List.flatMap_append,List.getElem?_eq_getElem (by rw[I.out];exact t)];congr 1;have h8:L[j]'(by rw[I.out];exact t)=x:=by
          rw[<-bq.out,List.getD_eq_getElem?_getD,List.getElem?_eq_getElem (by rw[I.out];exact t)];rfl
         rw[h8];simpa using Y.out
        rw[G];exact V
       case measure=>simp[intOf];omega
      .have b6:j=8:=by omega
       subst b6;go_wp2_with fail;go_ret;have G:=u.out;rw[List.take_of_length_le (by rw[I.out];omega),<-N.out]at G;exact⟨⟨_,rfl,G⟩,ab.out⟩
  .have hm:(((n:Int)+(1+k:Nat))%64 != 56)=true:=by simp;omega
   clear am
   go_wp2_with (at_builtin;go_must (refine eT rfl _ _ rfl l.heap.size _ (1+k) (128::List.replicate k 0) rfl (D.out.alloc _) wr.heap.size 1 1 [0] rfl rfl (ah _ _) (by omega) (by simp;omega) ?_;intro v' w3 h U))
   go_roundw
   case rel=>exact⟨k+1,by omega,by have G:(128::List.replicate k 0++[0]:B8)=128::List.replicate (k+1) 0:=(by rw[List.replicate_succ',List.cons_append]);rw[G]at h;exact h,aA (HX.out.alloc _) (D.out.alloc _) U⟩
   case measure =>
    obtain⟨cq,cs,rfl,-⟩:=Row.GW h (by omega);simp[sy];omega
end
end Go.Proofs.YtgfegpnmlkdjfaaGreatDoor
