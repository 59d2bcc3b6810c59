/- Contracts of the program's functions and plain laws behind the card. Conditions: as each theorem states. -/
import Derived.Test.YtfabjgfmiaammaaGreatDoorYbm
import Derived.Test.YtfabjgfmiaammaaGreatDoorYbb
set_option linter.unusedVariables false
set_option linter.unusedSimpArgs false
set_option linter.unusedSectionVars false
set_option maxRecDepth 100000
set_option maxHeartbeats 64000000
namespace Go.Proofs.YtfabjgfmiaammaaGreatDoor
section
open Go Go.RowKit
variable {s:Src}
theorem qY (a:Bool) {B:Nat} (h:s.b.length<=B) (k:64<=B):(eF a s).1.b.length<=B/\(eF a s).2.name.length<=B/\(eF a s).2.id.length<=B:=by
 have c:=mg s;have d:=dd a (bp s).1;have e:=eN (aJ a (bp s).1).1 (aJ a (bp s).1).2;have g:=jI (aJ a (bp s).1).1 (aJ a (bp s).1).2;have i:=fX (aD (aJ a (bp s).1).1 (aJ a (bp s).1).2).1;have j:=iq (aD (aJ a (bp s).1).1 (aJ a (bp s).1).2).1;unfold eF;dsimp only;refine⟨by omega,by omega,by omega⟩
theorem kY (b:Bool) {B:Nat} (c:64<=B):∀(n:Nat) (s:Src) (l:List Itm),s.b.length<=B->(∀x∈l,x.name.length<=B/\x.id.length<=B)->∀x∈(cQ b n s l).2,x.name.length<=B/\x.id.length<=B
 | 0,s,l,_,h=>h
 | n+1,s,l,i,h=>by
  unfold cQ;split
  .exact h
  .obtain ⟨d,e,g⟩:=qY b i c;refine kY b c n _ _ d (fun x a=>?_);rcases List.mem_append.1 a with a | a
   .exact h x a
   .rw [List.mem_singleton.1 a];exact⟨e,g⟩
theorem sg (b:Bool) (c:Int) (a:B8) (x:Src×List B8) (r:x.1.b.length<=10000000) (i:∀y∈x.2,y.length<=64) (j:a.length<=10000000):dv (lj b c a x).2:=by
 unfold lj;have d:=dd b x.1;obtain⟨A,k⟩:∃q,aJ b x.1=q:=⟨_,rfl⟩;rw[k]at d ⊢;have e:=dd b A.1;obtain⟨C,l⟩:∃q,aJ b A.1=q:=⟨_,rfl⟩;rw[l]at e ⊢;have g:=dd b C.1;obtain⟨D,n⟩:∃q,aJ b C.1=q:=⟨_,rfl⟩;rw[n]at g ⊢;have h:=jI D.1 D.2;obtain⟨F,hF⟩:∃q,aD D.1 D.2=q:=⟨_,rfl⟩;rw[hF]at h ⊢;exact⟨fun x o=>(by cases o),fun y p=>(by have:=i y p;omega),j,by show F.2.length<=10000000;omega⟩
def Fsh (b:Nat) (v:Value):Prop:=∀a n c,v=.slice (some a) n c->b<=a.block
theorem Fsh.nil (b n c:Nat):Fsh b (.slice none n c):=fun a n c d=>by simp at d
def IsObF (b:Nat) (w:World) (v:Value) (o:Ob):Prop:=∃a c d,v=obV o a c d/\IsBytes w a o.data/\IsItms w c o.items/\IsStrs w d o.parents/\Fsh b a/\Fsh b c/\Fsh b d
variable {b:Nat} {w:World} {v:Value} {o:Ob}
theorem IsObF.ob (h:IsObF b w v o):IsOb w v o:=by
 obtain⟨e,g,i,rfl,a,c,d,-⟩:=h;exact⟨e,g,i,rfl,a,c,d⟩
theorem IsObF.put {g:Nat} {w':World} (h:IsObF b w v o) (e:w.grownBy w' (some g)) (x:g<b):IsObF b w' v o:=by
 obtain⟨r,t,u,rfl,l,p,q,i,j,k⟩:=h;exact⟨r,t,u,rfl,Row.but l e (fun a n c d=>by have:=i a n c d;omega),Row.but p e (fun a n c d=>by have:=j a n c d;omega),Row.but q e (fun a n c d=>by have:=k a n c d;omega),i,j,k⟩
theorem wJ (a:Bool) (s:Src):(aJ a s).2<=72057594037927936:=by
 unfold aJ;split
 .exact Nat.zero_le _
 .rename_i h;simp only[not_or,Decidable.not_not]at h;exact(qQ h.1).2.2
theorem ny (s:Src) (n:Nat):(aD s n).2.length<=n:=by
 unfold aD;split
 .exact Nat.zero_le _
 .dsimp only;rw[List.length_take];omega
theorem wI (a:Bool) (h:(aJ a s).1.bad=false):s.bad=false:=by
 unfold aJ at h;split at h
 .cases h
 .exact gp h
theorem pE:(Tryz.prog.info? 138).map (fun i=>(i.zero,i.size,i.bytes))=some (some (.agg #[.int .i64 0,S8 [],S8 []]),3,40):=by kernel_rfl
theorem bK:(Tryz.prog.info? 95).map (·.size)=some 8:=by kernel_rfl
theorem sN (d:Bool) (c:Int) (b:B8) (j:b.length<=10000000):dv (bX d c b).2:=by
 unfold bX;split
 .exact ⟨fun x a=>(by cases a),fun x a=>(by cases a),by simp,by simp⟩
 .split
  .refine ⟨fun x a=>?_,fun x a=>(by cases a),by simp,by simp⟩;have e:=dd d ⟨b,false⟩;exact kY d (by omega) _ _ [] (by dsimp only at e;omega) (fun x a=>by cases a) x a
  .split
   .have e:=fX ⟨b,false⟩;have g:=mg (bn ⟨b,false⟩).1;obtain⟨h,i⟩:=jT (bp (bn ⟨b,false⟩).1).2 (bp (bn ⟨b,false⟩).1).1 [] (fun x a=>by cases a);have k:=iq ⟨b,false⟩;exact sg d _ _ _ (Nat.le_trans h (Nat.le_trans g (Nat.le_trans e j))) i (by omega)
   .exact ⟨fun x a=>(by cases a),fun x a=>(by cases a),by simp,by simp⟩
theorem yT (v:Value) (b:B8) (w:World) (hv:IsBytes w v b) (hl:b.length<=10000000) :
  Calls Tryz.prog 89 #[v] w fun e A=>(∃u,e=.returned (.tuple #[u,.int .i64 (dF b).2])/\IsObF w.heap.size A u (dF b).1)/\Ext w A:=by
 have HV:Hid (IsBytes w v b):=hv;obtain⟨a,c,rfl,l1,l2,l3,hg⟩:=hv.get;obtain⟨⟨o9,e9⟩,hq⟩:∃q,dF b=q:=⟨_,rfl⟩;rw[hq];have HQ:Hid _:=hq;have hJ:Hid _:=hg;clear hv hg hq;go_enter Tryz.func89,Tryz.ntmps89;go_upto_region 1 with fail;obtain⟨w3,b7⟩:∃w3,w3=w.alloc (.cells (obC 0 (.slice none 0 0) (.slice none 0 0) [] (.slice none 0 0) 0 0 []) 95):=⟨_,rfl⟩;have R2:Hid (w3.heap[w.heap.size]? = some (.cells (obC 0 (.slice none 0 0) (.slice none 0 0) [] (.slice none 0 0) 0 0 []) 95 (0,0))):=by unfold Hid;rw[b7];exact ae _ _
 have fk:Hid (Ext w w3):=by unfold Hid;rw[b7];exact(Ext.refl _).alloc _
 have hy:w3.heap.size=w.heap.size+1:=by rw[b7];exact dO _ _
 unfold obC at b7;rw[<-b7];obtain⟨Q,f1⟩:∃g,w.heap.size=g:=⟨_,rfl⟩;have Y:Hid _:=f1;rw[f1]at R2 hy ⊢;clear b7 f1
 cases b with
 | nil =>
  obtain⟨rfl,rfl⟩:ob0=o9/\2=e9:=by
   have d:=HQ.out;exact⟨(Prod.mk.inj d).1,(Prod.mk.inj d).2⟩
  have hb:=R2.out;have i2:Ext w (w3.setRow Q (obC 0 (.slice none 0 0) (.slice none 0 0) [] (.slice none 0 0) 0 0 [])):=Ext.but fk.out (af _ _ _) (Nat.le_of_eq Y.out)
  go_wp2_with (refine wpList_store_row rfl 95 (.tmp 2) (.tmp 17) rfl Q (obC 0 (.slice none 0 0) (.slice none 0 0) [] (.slice none 0 0) 0 0 []) rfl rfl 95 _ hb bK rfl (by simp[Value.oneCell']) ?_)
  refine bodyPost_ret (aC rfl _ _ Q 95 (obC 0 (.slice none 0 0) (.slice none 0 0) [] (.slice none 0 0) 0 0 []) (0,0) _ rfl (setRow_heap _ _ _ _ _ _ hb) Tryz.underlying95 rfl bK) rfl ?_;exact⟨⟨_,rfl,_,_,_,rfl,Row.nil _,Row.nil _,Row.nil _,Fsh.nil _ _ _,Fsh.nil _ _ _,Fsh.nil _ _ _⟩,i2⟩
 | cons k r =>
  obtain⟨bb,oo,rfl,hc⟩:=hJ.out 0 (by simp);have y0:w.cell? ⟨bb,oo,none⟩=some (.int .u8 k.toNat):=hc 0 (by simp);have iv:r.length<=10000000:=by simp at hl;omega
  obtain⟨⟨sr,ob⟩,d8⟩:∃q,bX true k.toNat r=q:=⟨_,rfl⟩;have dl:Hid (dv ob):=by have d:=sN true k.toNat r iv;rw[d8]at d;exact d
  have a7:Hid ((o9,e9)=if sr.bad=true\/bP ob≠true\/eI ob≠k::r then(ob0,4)else(ob,0)):=by
   unfold Hid;rw[<-HQ.out,un,d8]
  have i7:Hid (IntKind.i64.wrap (k.toNat:Int)=(k.toNat:Int)):=IntWalk.i64_in _ (by have:=k.toNat_lt;omega);have bx:Hid _:=d8;clear d8 hc HQ;go_wp2_with fail;go_at_call 29;refine(ij _ (k::r) w3 (IsBytes.ext HV.out fk.out)).mono ?_;rintro e4 w4 ⟨⟨v4,rfl,ec⟩,gv⟩;have hf:IsBytes w4 v4 (k::r):=by unfold IsBytes;exact Row.BV ec (by simp;omega)
  obtain⟨gc,L,rfl⟩:=dD ec (by simp);have hn:=World.ownsRow.lt ec gc rfl;have gy:Hid _:=hf;have fl:Hid (Ext w w4):=fk.out.trans gv;have R4:Hid _:=Ext.row gv R2.out;have z0:=fl.out.cell y0;clear ec hf gv;go_upto_region 4 with fail;obtain⟨w5,c9⟩:∃w5,w5=w4.alloc (.cells #[.slice (some ⟨gc,0,none⟩) (r.length+1) L,.int .i64 1,.bool false] 192):=⟨_,rfl⟩;have dc:Ext w4 w5:=by rw[c9];exact(Ext.refl _).alloc _
  have ht:w5.heap[w4.heap.size]? = some (.cells #[.slice (some ⟨gc,0,none⟩) (r.length+1) L,.int .i64 1,.bool false] 192 (0,0)):=by rw[c9];exact ae _ _
  have gb:w5.heap.size=w4.heap.size+1:=by rw[c9];exact dO _ _
  rw[<-c9];have fc:Hid (IsRd w5 w4.heap.size (k::r) ⟨r,false⟩):=⟨gc,0,L,1,ht,gy.out.ext dc,hn.2,by simp,rfl⟩;obtain⟨y,f3⟩:∃g,w4.heap.size=g:=⟨_,rfl⟩;rw[f3]at fc gb ⊢;have g9:Hid (Ext w w5):=fl.out.trans dc;have R5:Hid _:=Ext.row dc R4.out;have z1:=dc.cell z0;have i5:Q<y:=by rw[<-f3];exact(Array.getElem?_eq_some_iff.1 R4.out).1
  clear c9 dc ht f3 hn gy R4 z0 fl;go_upto_region 5 with fail;rw[show wrap64 (k.toNat:Int)=(k.toNat:Int)from IntWalk.wrap64_in _ (by have:=k.toNat_lt;omega)];obtain⟨wo,c'⟩:∃wo,wo=w5.alloc (.cells (obC k.toNat (.slice none 0 0) (.slice none 0 0) [] (.slice none 0 0) 0 0 []) 95):=⟨_,rfl⟩;have eg:Ext w5 wo:=by rw[c'];exact(Ext.refl _).alloc _
  have cu:wo.heap[w5.heap.size]? = some (.cells (obC k.toNat (.slice none 0 0) (.slice none 0 0) [] (.slice none 0 0) 0 0 []) 95 (0,0)):=by rw[c'];exact ae _ _
  obtain⟨J,il⟩:∃g,y+1=g:=⟨_,rfl⟩;rw[gb]at cu;rw[il]at cu ⊢;unfold obC at c';rw[<-c'];have RO:Hid _:=cu;have a8:Hid (IsRd wo y (k::r) ⟨r,false⟩):=fc.out.ext eg;have bk:Hid (Ext w wo):=g9.out.trans eg;have bo:Hid _:=Ext.row eg R5.out;have ho:w.heap.size<=y:=by have:=Y.out;omega
  have j2:J<wo.heap.size:=(Array.getElem?_eq_some_iff.1 cu).1;clear c' eg cu fc g9 R5 z1 gb hy y0;obtain⟨kk,io⟩:∃j,k.toNat=j:=⟨_,rfl⟩
  by_cases k1:k.toNat=1
  .obtain ⟨rfl,rfl⟩:(⟨[],false⟩:Src)=sr/\(⟨1,r,[],[],[],0,0,[]⟩:Ob)=ob:=by
    have d:=bx.out;rw[k1]at d;unfold bX at d;rw[if_pos (show((1:Nat):Int)=1 from rfl)]at d;exact⟨(Prod.mk.inj d).1,(Prod.mk.inj d).2⟩
   rw[show((k.toNat:Nat):Int)=1 by omega]at RO ⊢;obtain⟨c0,c1,c2,c3,c4,c5,c6,c7⟩:=ah RO.out;go_wp2_with fail;go_at_call 150;refine(fg y (k::r) ⟨r,false⟩ r.length wo a8.out).mono ?_;rw[show aD ⟨r,false⟩ r.length=(⟨[],false⟩,r)by unfold aD;rw[if_neg (by simp)];simp];rintro e7 w7 ⟨vd,rfl,gl,hE,hw,cn⟩;have R7:Hid _:=aV cn RO.out (by omega);have ha:Hid _:=aV cn bo.out (by omega);have g':Hid (Ext w w7):=Ext.but bk.out cn ho;obtain⟨T,U,rfl,-⟩:=gl.get;have g8:Hid _:=gl;have fj:Hid _:=hE;have g6:Hid _:=hw;have fz:w7.frozen? ⟨J,1,none⟩=false:=by simp[World.frozen?,R7.out]
   obtain⟨d0,d1,d2,d3,d4,d5,d6,d7⟩:=ah R7.out;have i1:=cn.size;clear gl hE hw cn c0 c1 c2 c3 c4 c5 c6 c7 RO bo bk a8;go_upto_region 25 with fail;obtain⟨we,ef⟩:∃we,we=w7.setCell ⟨J,1,none⟩ (.slice T r.length U):=⟨_,rfl⟩;have cp:w7.grownBy we (some J):=by rw[ef];exact aH _ _ _ _
   have RE:Hid (we.heap[J]? = some (.cells (obC 1 (.slice T r.length U) (.slice none 0 0) [] (.slice none 0 0) 0 0 []) 95 (0,0))):=by
    unfold Hid;rw[ef,heap_setCell_same w7 J 1 _ _ _ R7.out];simp
   have bl:Hid _:=aV cp ha.out (by omega);have bh:Hid (Ext w we):=Ext.but g'.out cp (by omega);have a':Hid (IsRd we y (k::r) ⟨[],false⟩):=IsRd.Cf g6.out cp (fun k K=>by cases K;omega);have a2:Hid (IsBytes we (.slice T r.length U) r):=Row.but g8.out cp (fun a n L he=>by
    have G:=fj.out a n L he;omega)
   have bd:Hid (∀a n' L,Value.slice T r.length U=.slice (some a) n' L->J<a.block):=fun a n' L he=>by
    have G:=fj.out a n' L he;omega
   rw[<-ef];clear ef cp fz d0 d1 d2 d3 d4 d5 d6 d7 R7 ha g' g6 g8 fj i1;obtain⟨q0,q1,q2,q3,q4,q5,q6,q7⟩:=ah RE.out;obtain⟨⟨pb,er⟩,a4⟩:∃q,aW ⟨1,r,[],[],[],0,0,[]⟩=q:=⟨_,rfl⟩;have ad:Hid _:=a4;have P:Hid _:=jk (obV ⟨1,r,[],[],[],0,0,[]⟩ (.slice T r.length U) (.slice none 0 0) (.slice none 0 0)) ⟨1,r,[],[],[],0,0,[]⟩ we ⟨_,_,_,rfl,a2.out,Row.nil _,Row.nil _⟩ dl.out;rw[a4]at P;unfold obV at P;clear a4;go_wp2_with fail;go_at_call 86;refine Calls.mono P.out ?_;rintro e6 w6 ⟨⟨u,rfl,hu⟩,F⟩;have HU:Hid (IsBytes w6 u pb):=by
    have hs:pb.length<=100000:=by
     have d:=ik ⟨1,r,[],[],[],0,0,[]⟩;rw[ad.out]at d;exact d
    unfold Hid IsBytes;exact Row.BV hu (by omega)
   have V:Hid (Ext w w6):=bh.out.trans F;have aa:Hid _:=Ext.row F bl.out;have ce:Hid _:=Ext.row F RE.out;have ba:Hid _:=a2.out.ext F;obtain⟨_,_,_,_,D,-⟩:=a'.out.ext F;obtain⟨e0,e1,e2⟩:=bL D;dsimp only at e2;clear hu F P q0 q1 q2 q3 q4 q5 q6 q7 RE bl bh a' a2 D e0 e1;obtain⟨q0,q1,q2,q3,q4,q5,q6,q7⟩:=ah ce.out
   try dsimp only
   by_cases a5:er=0
   .have br:(er != 0)=false:=by simpa using a5
    have bt:bP ⟨1,r,[],[],[],0,0,[]⟩=true/\pb=eI ⟨1,r,[],[],[],0,0,[]⟩:=by
     have G:=ad.out;unfold aW at G;split at G
     .rename_i hm;exact⟨hm,(Prod.mk.inj G).1.symm⟩
     .have:=(Prod.mk.inj G).2;omega
    obtain⟨eq,bq⟩:∃e,(pb==k::r)=e:=⟨_,rfl⟩;have a0:Hid _:=bq;have a1:Hid _:=bt;have cb:Hid _:=IsBytes.ext HV.out V.out;clear bq bt a5;go_wp2_with fail;go_at_call 31;refine(cY _ _ _ _ w6 HU.out cb.out).mono ?_;rw[a0.out];rintro e7 w8 ⟨rfl,bv⟩;rw[bv];clear bv
    cases eq with
    | false =>
     obtain⟨rfl,rfl⟩:o9=ob0/\e9=4:=by
      have d:=a7.out;rw[if_pos (.inr (.inr (fun h=>by have G:=a0.out;rw[a1.out.2,h]at G;simp at G)))]at d;exact⟨(Prod.mk.inj d).1,(Prod.mk.inj d).2⟩
     have p:=aa.out
     go_wp2_with (refine wpList_store_row rfl 95 (.tmp 2) (.tmp 130) rfl Q (obC 0 (.slice none 0 0) (.slice none 0 0) [] (.slice none 0 0) 0 0 []) rfl rfl 95 _ p bK rfl (by simp[Value.oneCell']) ?_)
     refine bodyPost_ret (aC rfl _ _ Q 95 (obC 0 (.slice none 0 0) (.slice none 0 0) [] (.slice none 0 0) 0 0 []) (0,0) _ rfl (setRow_heap _ _ _ _ _ _ p) Tryz.underlying95 rfl bK) rfl ?_;exact⟨⟨_,rfl,_,_,_,rfl,Row.nil _,Row.nil _,Row.nil _,Fsh.nil _ _ _,Fsh.nil _ _ _,Fsh.nil _ _ _⟩,Ext.but V.out (af _ _ _) (Nat.le_of_eq Y.out)⟩
    | true =>
     obtain⟨rfl,rfl⟩:o9=⟨1,r,[],[],[],0,0,[]⟩/\e9=0:=by
      have d:=a7.out;rw[if_neg (by
       intro h;rcases h with h | h | h
       .cases h
       .exact h a1.out.1
       .exact h (by rw[<-a1.out.2];simpa using a0.out))]at d
      exact⟨(Prod.mk.inj d).1,(Prod.mk.inj d).2⟩
     have p:=aa.out
     go_wp2_with (refine wpList_store_row rfl 95 (.tmp 2) (.tmp 131) rfl Q (obC 1 (.slice T r.length U) (.slice none 0 0) [] (.slice none 0 0) 0 0 []) rfl rfl 95 _ p bK rfl (by simp[Value.oneCell']) ?_)
     refine bodyPost_ret (aC rfl _ _ Q 95 (obC 1 (.slice T r.length U) (.slice none 0 0) [] (.slice none 0 0) 0 0 []) (0,0) _ rfl (setRow_heap _ _ _ _ _ _ p) Tryz.underlying95 rfl bK) rfl ?_;refine⟨⟨_,rfl,_,_,_,rfl,Row.but ba.out (af _ _ _) (fun a n L he=>?_),Row.nil _,Row.nil _,(fun a n L he=>by have G:=bd.out a n L he;omega),Fsh.nil _ _ _,Fsh.nil _ _ _⟩,Ext.but V.out (af _ _ _) (Nat.le_of_eq Y.out)⟩;have G:=bd.out a n L he;omega
   .have br:(er != 0)=true:=by simpa using a5
    obtain⟨rfl,rfl⟩:o9=ob0/\e9=4:=by
     have d:=a7.out;rw[if_pos (.inr (.inl (fun h=>a5 (by have G:=ad.out;unfold aW at G;rw[if_pos h]at G;exact(Prod.mk.inj G).2.symm))))]at d;exact⟨(Prod.mk.inj d).1,(Prod.mk.inj d).2⟩
    clear a5;have p:=aa.out
    go_wp2_with (refine wpList_store_row rfl 95 (.tmp 2) (.tmp 130) rfl Q (obC 0 (.slice none 0 0) (.slice none 0 0) [] (.slice none 0 0) 0 0 []) rfl rfl 95 _ p bK rfl (by simp[Value.oneCell']) ?_)
    refine bodyPost_ret (aC rfl _ _ Q 95 (obC 0 (.slice none 0 0) (.slice none 0 0) [] (.slice none 0 0) 0 0 []) (0,0) _ rfl (setRow_heap _ _ _ _ _ _ p) Tryz.underlying95 rfl bK) rfl ?_;exact⟨⟨_,rfl,_,_,_,rfl,Row.nil _,Row.nil _,Row.nil _,Fsh.nil _ _ _,Fsh.nil _ _ _,Fsh.nil _ _ _⟩,Ext.but V.out (af _ _ _) (Nat.le_of_eq Y.out)⟩
  .rw [io]at RO bx k1 ⊢;have dn:¬((kk:Int)=1):=by omega
   have b6:(((kk:Nat):Int)==1)=false:=by simpa using dn
   by_cases k2:kk=2
   .subst k2;have f':=dd true ⟨r,false⟩;have hd:=wJ true ⟨r,false⟩;have gf:=iw y (k::r) ⟨r,false⟩ wo a8.out;obtain⟨⟨s1,N⟩,ga⟩:∃q,aJ true ⟨r,false⟩=q:=⟨_,rfl⟩;obtain⟨⟨sE,RS⟩,fv⟩:∃q,cQ true N s1 []=q:=⟨_,rfl⟩;obtain⟨rfl,rfl⟩:sE=sr/\(⟨2,[],RS,[],[],0,0,[]⟩:Ob)=ob:=by
     have d:=bx.out;unfold bX at d;rw[if_neg (show ¬((2:Nat):Int)=1 by decide),if_pos (show((2:Nat):Int)=2 from rfl),ga]at d;dsimp only at d;rw[fv]at d;exact⟨(Prod.mk.inj d).1,(Prod.mk.inj d).2⟩
    rw[ga]at gf f' hd;have g5:Hid _:=gf;have g4:Hid _:=fv;dsimp only at f' hd;clear gf ga fv bx;rw[show((2:Nat):Int)=2 from rfl]at RO ⊢;obtain⟨c0,c1,c2,c3,c4,c5,c6,c7⟩:=ah RO.out;go_wp2_with fail;go_at_call 151;refine Calls.mono g5.out ?_;rintro ex i4 ⟨rfl,c8,bs⟩;have hT:Hid (RrS w Q y J (k::r) (obC 0 (.slice none 0 0) (.slice none 0 0) [] (.slice none 0 0) 0 0 []) (obC 2 (.slice none 0 0) (.slice none 0 0) [] (.slice none 0 0) 0 0 []) s1 138 3 (J+1) (.slice none 0 0) 0 [] i4) :=
     RrS.step ⟨a8.out,bo.out,RO.out,World.ownsRow_nil _ _ _ _,by omega,bk.out,by have:=Y.out;omega⟩ c8 bs
    clear c8 bs g5 bo RO a8 bk c0 c1 c2 c3 c4 c5 c6 c7;go_wp2_with fail;go_loopw [7] (fun i wr=>∃(O:Nat) (s:Src) (l:List Itm) (v:Value),O<=N/\i=.int .i64 O/\Hid (cQ true (N - O) s l=(sE,RS))/\Hid (RrS w Q y J (k::r) (obC 0 (.slice none 0 0) (.slice none 0 0) [] (.slice none 0 0) 0 0 []) (obC 2 (.slice none 0 0) v [] (.slice none 0 0) 0 0 []) s 138 3 (J+1) v l.length (l.flatMap itC) wr)/\Hid ((s.bad=false->l.length+s.b.length<=r.length)/\l.length<=r.length+1)) (fun i _=>N - (intOf i).toNat)
    case atStart=>exact⟨0,s1,[],.slice none 0 0,Nat.zero_le _,rfl,g4,hT,(fun h=>by have:=f';simpa using this),by simp⟩
    case round =>
    obtain⟨O,s,l,v,K,rfl,HI,HR,e5⟩:=hrel;obtain⟨sb,a6⟩:∃x,s.bad=x:=⟨_,rfl⟩;obtain⟨h6,i3,cx,px,b3,-⟩:=HR.out.src;rw[a6]at b3;have y1:=(bL b3).2.2;have W:Hid _:=a6;clear b3 a6
    by_cases S:O=N\/sb=true
    .obtain ⟨rfl,rfl⟩:s=sE/\l=RS:=by
      have d:=HI.out;have G:cQ true (N - O) s l=(s,l):=by
       rcases S with h | h
       .rw [h,Nat.sub_self];rfl
       .cases i0:N - O with
        | zero=>rfl
        | succ j =>
         have h7:=W.out;rw[h]at h7;rw[cQ,if_pos h7]
      rw[G]at d;exact⟨(Prod.mk.inj d).1,(Prod.mk.inj d).2⟩
     obtain⟨T,vn,U,rfl⟩:∃T vn U,v=.slice T vn U:=by
      rcases HR.out.own.2 with⟨h,-⟩ | ⟨g,c,fn,h,-⟩
      iterate 2
       .exact ⟨_,_,_,h⟩
     have b4:Hid (l.length<=10000001):=by have:=e5.out.2;unfold Hid;omega
     have b1:(¬(O:Int)<(N:Int))\/((O:Int)<(N:Int)/\sb=true):=by
      rcases S with h | h
      .left;omega
      .by_cases iE:O<N
       .exact .inr ⟨by omega,h⟩
       .left;omega
     clear S HI g4;rcases b1 with hc | ⟨hc,a6⟩
     case' inr=>rw[a6]at y1
     all_goals
      go_upto_region 25 with fail;have RE:Hid _:=HR.out.ro;have bl:Hid _:=HR.out.r2;have bh:Hid (Ext w wr):=HR.out.ext;have a':Hid (IsRd wr y (k::r) s):=HR.out.src;have cm:∀a n' L,Value.slice T vn U=.slice (some a) n' L->J<a.block:=fun a n' L he=>by
       have G:=(HR.out.own.lt a.block (by rw[he];rfl)).1;omega
      have bd:Hid (∀a n' L,Value.slice T vn U=.slice (some a) n' L->J<a.block):=cm;have a2:Hid (Row wr (.slice T vn U) l.length (l.flatMap itC)):=Row.BV HR.out.own (by have:=b4.out;omega);clear cm;obtain⟨q0,q1,q2,q3,q4,q5,q6,q7⟩:=ah RE.out;obtain⟨⟨pb,er⟩,a4⟩:∃q,aW ⟨2,[],l,[],[],0,0,[]⟩=q:=⟨_,rfl⟩;have ad:Hid _:=a4;have P:Hid _:=jk (obV ⟨2,[],l,[],[],0,0,[]⟩ (.slice none 0 0) (.slice T vn U) (.slice none 0 0)) ⟨2,[],l,[],[],0,0,[]⟩ wr ⟨_,_,_,rfl,Row.nil _,a2.out,Row.nil _⟩ dl.out;rw[a4]at P;unfold obV at P;clear a4 HR;go_wp2_with fail;go_at_call 86;refine Calls.mono P.out ?_;rintro ex w6 ⟨⟨u,rfl,hu⟩,F⟩;have HU:Hid (IsBytes w6 u pb):=by
       have hs:pb.length<=100000:=by
        have d:=ik ⟨2,[],l,[],[],0,0,[]⟩;rw[ad.out]at d;exact d
       unfold Hid IsBytes;exact Row.BV hu (by omega)
      have V:Hid (Ext w w6):=bh.out.trans F;have aa:Hid _:=Ext.row F bl.out;have ce:Hid _:=Ext.row F RE.out;have ba:Hid _:=Row.ext a2.out F;obtain⟨_,_,_,_,D,-⟩:=IsRd.ext a'.out F;rw[W.out]at D;obtain⟨e0,e1,e2⟩:=bL D;clear hu F P q0 q1 q2 q3 q4 q5 q6 q7 RE bl bh a' a2 D e0 e1;obtain⟨q0,q1,q2,q3,q4,q5,q6,q7⟩:=ah ce.out
      try dsimp only
      by_cases M:sb=true\/er≠0
      .obtain ⟨rfl,rfl⟩:o9=ob0/\e9=4:=by
        have d:=a7.out;rw[if_pos (by
         rcases M with h | h
         .exact .inl (W.out.trans h)
         .exact .inr (.inl (fun hm=>h (by have G:=ad.out;unfold aW at G;rw[if_pos hm]at G;exact(Prod.mk.inj G).2.symm))))]at d
        exact⟨(Prod.mk.inj d).1,(Prod.mk.inj d).2⟩
       have f0:sb=true\/sb=false/\(er != 0)=true:=by
        rcases M with h | h
        .exact .inl h
        .cases cl:sb with
         | true=>exact .inl rfl
         | false=>exact .inr ⟨rfl,by simpa using h⟩
       clear M;have p:=aa.out;rcases f0 with b6 | ⟨b6,br⟩
       all_goals
        rw[b6]at e2
        go_wp2_with (refine wpList_store_row rfl 95 (.tmp 2) (.tmp 130) rfl Q (obC 0 (.slice none 0 0) (.slice none 0 0) [] (.slice none 0 0) 0 0 []) rfl rfl 95 _ p bK rfl (by simp[Value.oneCell']) ?_)
        refine bodyPost_ret (aC rfl _ _ Q 95 (obC 0 (.slice none 0 0) (.slice none 0 0) [] (.slice none 0 0) 0 0 []) (0,0) _ rfl (setRow_heap _ _ _ _ _ _ p) Tryz.underlying95 rfl bK) rfl ?_;exact⟨⟨_,rfl,_,_,_,rfl,Row.nil _,Row.nil _,Row.nil _,Fsh.nil _ _ _,Fsh.nil _ _ _,Fsh.nil _ _ _⟩,Ext.but V.out (af _ _ _) (Nat.le_of_eq Y.out)⟩
      .have b0:sb=false:=by
        cases cl:sb with
        | true=>exact absurd (.inl cl) M
        | false=>rfl
       have a5:er=0:=by
        by_cases h:er=0
        .exact h
        .exact absurd (.inr h) M
       have br:(er != 0)=false:=by simpa using a5
       have fe:Hid _:=W.out.trans b0;rw[b0]at e2;have bt:bP ⟨2,[],l,[],[],0,0,[]⟩=true/\pb=eI ⟨2,[],l,[],[],0,0,[]⟩:=by
        have G:=ad.out;unfold aW at G;split at G
        .rename_i hm;exact⟨hm,(Prod.mk.inj G).1.symm⟩
        .have:=(Prod.mk.inj G).2;omega
       obtain⟨eq,bq⟩:∃e,(pb==k::r)=e:=⟨_,rfl⟩;have a0:Hid _:=bq;have a1:Hid _:=bt;have cb:Hid _:=IsBytes.ext HV.out V.out;clear bq bt a5 M b0;go_wp2_with fail;go_at_call 31;refine(cY _ _ _ _ w6 HU.out cb.out).mono ?_;rw[a0.out];rintro ey w8 ⟨rfl,bv⟩;rw[bv];clear bv
       cases eq with
       | false =>
        obtain⟨rfl,rfl⟩:o9=ob0/\e9=4:=by
         have d:=a7.out;rw[if_pos (.inr (.inr (fun h=>by have G:=a0.out;rw[a1.out.2,h]at G;simp at G)))]at d;exact⟨(Prod.mk.inj d).1,(Prod.mk.inj d).2⟩
        have p:=aa.out
        go_wp2_with (refine wpList_store_row rfl 95 (.tmp 2) (.tmp 130) rfl Q (obC 0 (.slice none 0 0) (.slice none 0 0) [] (.slice none 0 0) 0 0 []) rfl rfl 95 _ p bK rfl (by simp[Value.oneCell']) ?_)
        refine bodyPost_ret (aC rfl _ _ Q 95 (obC 0 (.slice none 0 0) (.slice none 0 0) [] (.slice none 0 0) 0 0 []) (0,0) _ rfl (setRow_heap _ _ _ _ _ _ p) Tryz.underlying95 rfl bK) rfl ?_;exact⟨⟨_,rfl,_,_,_,rfl,Row.nil _,Row.nil _,Row.nil _,Fsh.nil _ _ _,Fsh.nil _ _ _,Fsh.nil _ _ _⟩,Ext.but V.out (af _ _ _) (Nat.le_of_eq Y.out)⟩
       | true =>
        obtain⟨rfl,rfl⟩:o9=⟨2,[],l,[],[],0,0,[]⟩/\e9=0:=by
         have d:=a7.out;rw[if_neg (by
          intro h;rcases h with h | h | h
          .rw [fe.out]at h;cases h
          .exact h a1.out.1
          .exact h (by rw[<-a1.out.2];simpa using a0.out))]at d
         exact⟨(Prod.mk.inj d).1,(Prod.mk.inj d).2⟩
        have p:=aa.out
        go_wp2_with (refine wpList_store_row rfl 95 (.tmp 2) (.tmp 131) rfl Q (obC 2 (.slice none 0 0) (.slice T vn U) [] (.slice none 0 0) 0 0 []) rfl rfl 95 _ p bK rfl (by simp[Value.oneCell']) ?_)
        refine bodyPost_ret (aC rfl _ _ Q 95 (obC 2 (.slice none 0 0) (.slice T vn U) [] (.slice none 0 0) 0 0 []) (0,0) _ rfl (setRow_heap _ _ _ _ _ _ p) Tryz.underlying95 rfl bK) rfl ?_;have cv:=Row.but ba.out (af w6 Q (obC 2 (.slice none 0 0) (.slice T vn U) [] (.slice none 0 0) 0 0 [])) (fun a n L he=>by have G:=bd.out a n L he;omega);exact⟨⟨_,rfl,_,_,_,rfl,Row.nil _,cv,Row.nil _,Fsh.nil _ _ _,(fun a n L he=>by have G:=bd.out a n L he;omega),Fsh.nil _ _ _⟩,Ext.but V.out (af _ _ _) (Nat.le_of_eq Y.out)⟩
    .have f8:O<N:=by omega
     have ca:Hid (O<N):=f8;have i6:O<72057594037927936:=by omega
     have gd:sb=false:=by
      cases sb with
      | false=>rfl
      | true=>exact absurd (.inr rfl) S
     subst gd;have it:(O:Int)<(N:Int):=by omega
     obtain⟨j,E⟩:∃j,N - O=j+1:=⟨N - O - 1,by omega⟩;obtain⟨⟨sA,m⟩,hA⟩:∃q,bp s=q:=⟨_,rfl⟩;obtain⟨⟨sB,nn⟩,hB⟩:∃q,aJ true sA=q:=⟨_,rfl⟩;obtain⟨⟨sC,nm⟩,hC⟩:∃q,aD sB nn=q:=⟨_,rfl⟩;obtain⟨⟨sD,tk⟩,hD⟩:∃q,aD sC 32=q:=⟨_,rfl⟩;have gh:tk.length<=32:=by have d:=ny sC 32;rw[hD]at d;exact d
     have hp:eF true s=(sD,⟨m,nm,cd tk⟩):=by
      unfold eF bn;rw[hA];dsimp only;rw[hB];dsimp only;rw[hC];dsimp only;rw[hD]
     have e8:Hid (cQ true (N - (O+1)) sD (l++[⟨m,nm,cd tk⟩])=(sE,RS)):=by
      have d:=HI.out;rw[E,cQ,if_neg (by rw[W.out];simp),hp]at d;rw[show N - (O+1)=j by omega];exact d
     have cq:=rs W.out (by rw[hA]:(bp s).1=sA);have fs:=dd true sA;have ft:=eN sB nn;have fu:=eN sC 32;rw[hB]at fs;rw[hC]at ft;rw[hD]at fu;have cs:sD.bad=false->sA.bad=false:=fun h=>wI true (by rw[hB];exact gp (by rw[hC];exact gp (by rw[hD];exact h)))
     have ek:Hid ((sD.bad=false->(l++[(⟨m,nm,cd tk⟩:Itm)]).length+sD.b.length<=r.length)/\(l++[(⟨m,nm,cd tk⟩:Itm)]).length<=r.length+1):=by
      have d:=e5.out.1 W.out;refine⟨fun h=>?_,by rw[List.length_append];simp only[List.length_cons,List.length_nil];omega⟩;have G:=cq (cs h);rw[List.length_append];simp only[List.length_cons,List.length_nil]at fs ft fu ⊢;omega
     have ct:=pS y (k::r) s wr HR.out.src;rw[hA]at ct;have es:Hid _:=ct;have eo:Hid (∀A,IsRd A y (k::r) sA->Calls Tryz.prog 151 #[.pointer (some ⟨y,0,none⟩)] A fun e B=>e=.returned (.int .i64 (nn:Nat))/\IsRd B y (k::r) sB/\A.grownBy B (some y)):=fun A h=>by
      have d:=iw y (k::r) sA A h
      rwa [hB]at d
     have ev:Hid (∀A,IsRd A y (k::r) sB->Calls Tryz.prog 150 #[.pointer (some ⟨y,0,none⟩),.int .i64 nn] A fun e B=>∃v,e=.returned v/\IsBytes B v nm/\(∀a n' L,v=.slice (some a) n' L->A.heap.size<=a.block)/\IsRd B y (k::r) sC/\A.grownBy B (some y)):=fun A h=>by
      have d:=fg y (k::r) sB nn A h
      rwa [hC]at d
     have HD:Hid (aD sC 32=(sD,tk)):=hD;have fi:Hid (tk.length<=32):=gh;clear ct hA hB hC hD hp cq cs fs ft fu S E HI e5 gh;go_wp2_with fail;go_at_call 152;refine Calls.mono es.out ?_;rintro ex wa ⟨rfl,I,H⟩;have bS:Hid _:=HR.out.step I H;clear I H es HR y1;go_wp2_with fail;go_at_call 151;refine(eo.out wa bS.out.src).mono ?_;rintro ex wb ⟨rfl,I,H⟩;have b5:Hid _:=bS.out.step I H;clear I H eo bS;go_wp2_with fail;go_at_call 150;refine(ev.out wb b5.out.src).mono ?_;rintro ex wc ⟨vt,rfl,a3,hi,I,H⟩;have g3:Hid _:=b5.out.step I H;have gx:Hid (IsBytes wc vt nm/\∀k,vt.ownBlock=some k->k≠y/\v.ownBlock≠some k):=by
      refine⟨a3,fun k K=>?_⟩;obtain⟨ta,tc,rfl,-⟩:=id a3
      cases ta with
      | none=>simp[Value.ownBlock]at K
      | some a =>
       have fx:a.block=k:=by simpa [Value.ownBlock]using K
       have h1:=hi a _ _ rfl;have h2:=b5.out.sz;have h3:=b5.out.lt;refine⟨by omega,fun hv=>?_⟩;have:=(b5.out.own.lt _ hv).2;omega
     obtain⟨ta,tc,rfl,-⟩:=id a3;clear a3 hi I H ev b5;have b4:Hid (l.length<=10000001):=by
      have:=ek.out.2;rw[List.length_append]at this;simp only[List.length_cons,List.length_nil]at this;show l.length<=10000001;omega
     have ff:Hid (∀A,IsRd A y (k::r) sC->Calls Tryz.prog 150 #[.pointer (some ⟨y,0,none⟩),.int .i64 32] A fun e B=>∃v,e=.returned v/\IsBytes B v (aD sC 32).2/\(∀a n' L,v=.slice (some a) n' L->A.heap.size<=a.block)/\IsRd B y (k::r) (aD sC 32).1/\A.grownBy B (some y)):=fun A h=>fg y (k::r) sC 32 A h
     obtain⟨l1,l2,l3,l4⟩:=g3.out.lt;have b':Hid (∀k o,(k,o)∈[(Q,Obj.cells (obC 0 (.slice none 0 0) (.slice none 0 0) [] (.slice none 0 0) 0 0 []) 95 (0,0)),(J,Obj.cells (obC 2 (.slice none 0 0) v [] (.slice none 0 0) 0 0 []) 95 (0,0))]->k≠y/\k<J+1):=fun k o K=>by
      simp only[List.mem_cons,Prod.mk.injEq,List.not_mem_nil,or_false]at K;rcases K with⟨rfl,-⟩ | ⟨rfl,-⟩ <;> omega
     have hB:w.heap.size<=y:=by omega
     have co:y<J+1:=by omega
     go_upto_region 15 with fail;apply aI 12 (fun z A=>RrC w y (k::r) sC 138 3 (J+1) v l.length (l.flatMap itC) (itC ⟨m,nm,cd (aD sC 32).2⟩) [(Q,Obj.cells (obC 0 (.slice none 0 0) (.slice none 0 0) [] (.slice none 0 0) 0 0 []) 95 (0,0)),(J,Obj.cells (obC 2 (.slice none 0 0) v [] (.slice none 0 0) 0 0 []) 95 (0,0))] (.slice ta nm.length tc) nm (z 6) (z 9) (z 10) A) [false,false,false,false,false,false,true,false,false,true,true,false] [_,v,_,_,S8 nm,_,undef,S8 (cd (aD sC 32).2),.agg #[.int .i64 m,S8 nm,S8 (cd (aD sC 32).2)],undef,undef,_] [none,none,none,none,none,none,none,none,none,none,none,none] [[],[0],[],[],[3],[],[5],[6],[2,4,7],[8],[1,9],[]] (by kernel_rfl) (by kernel_rfl) rfl
     .exact RrS.Du g3.out gx.out ⟨rfl,rfl,rfl,Nat.le_refl _,fun _ _=>rfl⟩
     .simp (maxSteps:=1000000)only[de,cN,bR,cG,cS,List.getD_cons_zero,List.getD_cons_succ,Bool.false_eq_true,if_false,if_true,and_true,true_and,forall_const,Nat.zero_add,Nat.reduceAdd,List.take_succ_cons,List.take_zero,ab,Act.put,List.setIfInBounds_toArray,List.set_cons_zero,List.set_cons_succ];and_intros
      iterate 4 · intro xs z wq E;intros;rename_i Z;have f2:=(ah E.k5).2.2.1;go_simp;exact Z _ _ E rfl
      .intro xs z wq E K R Z;have hh:=dA E.aux.1;go_simp;exact Z _ _ E rfl
      .intro xs z wq E;intros;rename_i Z;have f2:=(ah E.k5).2.2.1;go_simp;exact Z _ _ E rfl
      .intro xs z wq E hz K R Z;rw[hz]at E;go_simp;exact(ff.out wq (E.Cy rfl)).mono (by rintro e' A ⟨u,rfl,h1,h2,h3,h4⟩;exact⟨_,rfl,Z _ _ (E.take co hB (fun k o K=>(b'.out k o K).1) h1 h2 h3 h4)⟩)
      .intro xs z wq E K R Z;have f4:=E.CL _ K;go_simp;exact(kO _ _ wq f4.1 (by rw[HD.out];have:=fi.out;dsimp only;omega)).mono (by rintro e' A ⟨rfl,hx⟩;exact⟨_,rfl,Z _ _ (E.more hx) rfl⟩)
      .intro xs z wq E;intros;rename_i Z;have f2:=(ah E.k5).2.2.1;go_simp;exact Z _ _ E rfl
      .intro xs z wq E hz K R Z;rw[hz]at E;go_simp;exact Z _ _ E.Cx
      .intro xs z wq E hz K R Z;obtain⟨f6,f7⟩:=K;rw[hz]at E;obtain⟨v',A,hr,f5⟩:=E.app f7 co (by omega) (fun k o K=>(b'.out k o K).2) Tryz.underlying93 pE rfl (by omega) rfl (by simp[itC,Value.oneCell']) (by have:=b4.out;omega) (by have:=b4.out;omega);apply eB (.tmp 60) (.tmp 68) 93 93 (v:=xs 1) (xv:=xs 9) (v':=v') (w':=A)
       iterate 4
        .rfl
       .rw [f6];exact hr
       .exact Z _ _ f5
      .intro xs z wq E;intros;rename_i Z;have f2:=(ah E.k5).2.2.1;go_simp;exact Z _ _ E rfl
     intro xs wd b2 K;simp only[di,List.getD_cons_zero,List.getD_cons_succ,Bool.false_eq_true,if_false,if_true]at b2;simp only[bV,Nat.zero_add,Nat.reduceAdd,and_true]at K;simp(maxSteps:=1000000)only[List.drop_succ_cons,List.drop_zero,Nat.zero_add,Nat.reduceAdd,List.take_succ_cons,List.take_zero,ab,Act.put,List.setIfInBounds_toArray,List.set_cons_zero,List.set_cons_succ,K];clear K;generalize xs 6=x6 at *;generalize xs 9=x9 at *;generalize xs 10=b9 at *;have D:=RrC.Dv ⟨l1,l2,l3,l4⟩ b2;rw[HD.out]at D;dsimp only at D;have y6:=(ah D.ro).2.2.1;have fr:wd.frozen? ⟨J,2,none⟩=false:=by simp[World.frozen?,D.ro]
     have a9:Hid (RrS w Q y J (k::r) (obC 0 (.slice none 0 0) (.slice none 0 0) [] (.slice none 0 0) 0 0 []) (obC 2 (.slice none 0 0) b9 [] (.slice none 0 0) 0 0 []) sD 138 3 (J+1) b9 (l++[(⟨m,nm,cd tk⟩:Itm)]).length ((l++[(⟨m,nm,cd tk⟩:Itm)]).flatMap itC) (wd.setCell ⟨J,2,none⟩ b9)):=by
      have d:=D.put 2 b9 (c6:=obC 2 (.slice none 0 0) b9 [] (.slice none 0 0) 0 0 []) rfl;unfold Hid;rw[List.length_append,List.flatMap_append,List.flatMap_singleton];exact d
     obtain⟨xa,xn,xc,rfl⟩:∃T vn U,b9=.slice T vn U:=by
      rcases D.own.2 with⟨h,-⟩ | ⟨g,c,fn,h,-⟩
      iterate 2
       .exact ⟨_,_,_,h⟩
     clear b2 D;go_wp2_with fail;go_roundw
     case rel=>exact⟨O+1,sD,l++[⟨m,nm,cd tk⟩],_,ca.out,by go_num,e8,a9,ek⟩
     case measure=>have:=ca.out;simp[intOf];omega
   .have dq:¬((kk:Int)=2):=by omega
    have jc:(((kk:Nat):Int)==2)=false:=by simpa using dq
    by_cases k3:kk=3
    .subst k3;obtain⟨⟨sH,gw⟩,hH⟩:∃q,aD ⟨r,false⟩ 32=q:=⟨_,rfl⟩;obtain⟨⟨sO,N⟩,hO⟩:∃q,bp sH=q:=⟨_,rfl⟩;obtain⟨⟨sP,ps⟩,hP⟩:∃q,dr N sO []=q:=⟨_,rfl⟩;obtain⟨⟨sS,st⟩,hS⟩:∃q,aJ true sP=q:=⟨_,rfl⟩;obtain⟨⟨sU,au⟩,hU⟩:∃q,aJ true sS=q:=⟨_,rfl⟩;obtain⟨⟨sV,ml⟩,hV⟩:∃q,aJ true sU=q:=⟨_,rfl⟩;obtain⟨⟨sW,X⟩,hW⟩:∃q,aD sV ml=q:=⟨_,rfl⟩;obtain⟨C,gi⟩:∃t,cd gw=t:=⟨_,rfl⟩;obtain⟨rfl,rfl⟩:sW=sr/\(⟨3,[],[],C,ps,st,au,X⟩:Ob)=ob:=by
      have d:=bx.out;unfold bX lj bn at d;rw[if_neg (show ¬((3:Nat):Int)=1 by decide),if_neg (show ¬((3:Nat):Int)=2 by decide),if_pos (show((3:Nat):Int)=3 from rfl),hH]at d;dsimp only at d;rw[hO]at d;dsimp only at d;rw[hP]at d;dsimp only at d;rw[hS]at d;dsimp only at d;rw[hU]at d;dsimp only at d;rw[hV]at d;dsimp only at d;rw[hW,gi]at d;exact⟨(Prod.mk.inj d).1,(Prod.mk.inj d).2⟩
     have gh:gw.length<=32:=by have d:=ny ⟨r,false⟩ 32;rw[hH]at d;exact d
     have g7:Hid (Calls Tryz.prog 150 #[.pointer (some ⟨y,0,none⟩),.int .i64 32] wo fun e B=>∃v,e=.returned v/\IsBytes B v gw/\(∀a n' L,v=.slice (some a) n' L->wo.heap.size<=a.block)/\IsRd B y (k::r) sH/\wo.grownBy B (some y)):=by
      have d:=fg y (k::r) ⟨r,false⟩ 32 wo a8.out
      rwa [hH]at d
     have g0:Hid (∀A,IsRd A y (k::r) sH->Calls Tryz.prog 152 #[.pointer (some ⟨y,0,none⟩)] A fun e B=>e=.returned (.int .i64 (N:Nat))/\IsRd B y (k::r) sO/\A.grownBy B (some y)):=fun A h=>by
      have d:=pS y (k::r) sH A h
      rwa [hO]at d
     have hM:Hid (∀A,IsRd A y (k::r) sP->Calls Tryz.prog 151 #[.pointer (some ⟨y,0,none⟩)] A fun e B=>e=.returned (.int .i64 (st:Nat))/\IsRd B y (k::r) sS/\A.grownBy B (some y)):=fun A h=>by
      have d:=iw y (k::r) sP A h
      rwa [hS]at d
     have hN:Hid (∀A,IsRd A y (k::r) sS->Calls Tryz.prog 151 #[.pointer (some ⟨y,0,none⟩)] A fun e B=>e=.returned (.int .i64 (au:Nat))/\IsRd B y (k::r) sU/\A.grownBy B (some y)):=fun A h=>by
      have d:=iw y (k::r) sS A h
      rwa [hU]at d
     have hQ:Hid (∀A,IsRd A y (k::r) sU->Calls Tryz.prog 151 #[.pointer (some ⟨y,0,none⟩)] A fun e B=>e=.returned (.int .i64 (ml:Nat))/\IsRd B y (k::r) sV/\A.grownBy B (some y)):=fun A h=>by
      have d:=iw y (k::r) sU A h
      rwa [hV]at d
     have h0:Hid (∀A,IsRd A y (k::r) sV->Calls Tryz.prog 150 #[.pointer (some ⟨y,0,none⟩),.int .i64 ml] A fun e B=>∃v,e=.returned v/\IsBytes B v X/\(∀a n' L,v=.slice (some a) n' L->A.heap.size<=a.block)/\IsRd B y (k::r) sW/\A.grownBy B (some y)):=fun A h=>by
      have d:=fg y (k::r) sV ml A h
      rwa [hW]at d
     have ih:N<=255:=by
      have d:=congrArg Prod.snd hO;unfold bp at d;dsimp only at d;have:=((aD sH 1).2.headD 0).toNat_lt;omega
     have g1:Hid (dr (N - 0) sO []=(sP,ps)):=hP;have hY:Hid _:=gi;clear hH hO hP hS hU hV hW gi bx;rw[show((3:Nat):Int)=3 from rfl]at RO ⊢;obtain⟨c0,c1,c2,c3,c4,c5,c6,c7⟩:=ah RO.out;go_wp2_with fail;go_at_call 150;refine Calls.mono g7.out ?_;rintro ex wp ⟨vt,rfl,a3,-,c8,bs⟩;have h4:RrS w Q y J (k::r) (obC 0 (.slice none 0 0) (.slice none 0 0) [] (.slice none 0 0) 0 0 []) (obC 3 (.slice none 0 0) (.slice none 0 0) [] (.slice none 0 0) 0 0 []) sH 9 1 (J+1) (.slice none 0 0) 0 [] wp :=
      RrS.step ⟨a8.out,bo.out,RO.out,World.ownsRow_nil _ _ _ _,by omega,bk.out,by have:=Y.out;omega⟩ c8 bs
     have H4:Hid _:=h4;have gz:Hid _:=a3;clear h4 c8 bs a3 g7 bo RO a8 bk c0 c1 c2 c3 c4 c5 c6 c7;go_wp2_with fail;go_at_call 137;refine(kO _ _ wp gz.out (by omega)).mono ?_;rw[hY.out];rintro ex wh ⟨rfl,hG⟩;have h5:=H4.out.more hG;have y3:=(ah h5.ro).2.2.2.1;have h':wh.frozen? ⟨J,3,none⟩=false:=by simp[World.frozen?,h5.ro]
     have dk:Hid _:=h5.put 3 (S8 C) (c6:=obC 3 (.slice none 0 0) (.slice none 0 0) C (.slice none 0 0) 0 0 []) rfl;clear h5 hG H4 gz;go_upto_region 18 with fail;obtain⟨wi,gs⟩:∃wi,wi=wh.setCell ⟨J,3,none⟩ (S8 C):=⟨_,rfl⟩;rw[<-gs];rw[<-gs]at dk;clear gs y3 h';go_wp2_with fail;go_at_call 152;refine(g0.out wi dk.out.src).mono ?_;rintro ex wj ⟨rfl,I,H⟩;have hX:Hid _:=dk.out.step I H;clear I H g0 dk;go_wp2_with fail;go_loopw [11] (fun i wr=>∃(O:Nat) (s:Src) (l:List B8) (v:Value),O<=N/\i=.int .i64 O/\l.length=O/\Hid (dr (N - O) s l=(sP,ps))/\Hid (RrS w Q y J (k::r) (obC 0 (.slice none 0 0) (.slice none 0 0) [] (.slice none 0 0) 0 0 []) (obC 3 (.slice none 0 0) (.slice none 0 0) C v 0 0 []) s 9 1 (J+1) v l.length (l.map S8) wr)) (fun i _=>N - (intOf i).toNat)
     case atStart=>exact⟨0,sO,[],.slice none 0 0,Nat.zero_le _,rfl,rfl,g1,hX⟩
     case round =>
     obtain⟨O,s,l,v,K,rfl,fx,HI,HR⟩:=hrel;obtain⟨sb,a6⟩:∃x,s.bad=x:=⟨_,rfl⟩;obtain⟨h6,i3,cx,px,b3,-⟩:=HR.out.src;rw[a6]at b3;have y1:=(bL b3).2.2;have W:Hid _:=a6;clear b3 a6
     by_cases S:O=N\/sb=true
     .obtain ⟨rfl,rfl⟩:s=sP/\l=ps:=by
       have d:=HI.out;have G:dr (N - O) s l=(s,l):=by
        rcases S with h | h
        .rw [h,Nat.sub_self];rfl
        .cases i0:N - O with
         | zero=>rfl
         | succ j =>
          have h7:=W.out;rw[h]at h7;rw[dr,if_pos h7]
       rw[G]at d;exact⟨(Prod.mk.inj d).1,(Prod.mk.inj d).2⟩
      obtain⟨T,vn,U,rfl⟩:∃T vn U,v=.slice T vn U:=by
       rcases HR.out.own.2 with⟨h,-⟩ | ⟨g,c,fn,h,-⟩
       iterate 2
        .exact ⟨_,_,_,h⟩
      have b4:Hid (l.length<=255):=by unfold Hid;omega
      have b1:(¬(O:Int)<(N:Int))\/((O:Int)<(N:Int)/\sb=true):=by
       rcases S with h | h
       .left;omega
       .by_cases iE:O<N
        .exact .inr ⟨by omega,h⟩
        .left;omega
      clear S HI g1 fx;rcases b1 with hc | ⟨hc,a6⟩
      case' inr=>rw[a6]at y1
      all_goals
       go_wp2_with fail;go_at_call 151;refine(hM.out _ HR.out.src).mono ?_;rintro ex wa ⟨rfl,I,H⟩;have bS:Hid _:=HR.out.step I H;clear I H y1 HR;go_wp2_with fail;go_at_call 151;refine(hN.out wa bS.out.src).mono ?_;rintro ex wb ⟨rfl,I,H⟩;have d9:=bS.out.step I H;have d':=d9.put 5 (.int .i64 st) (c6:=obC 3 (.slice none 0 0) (.slice none 0 0) C (.slice T vn U) st 0 []) rfl;have y5:=(ah d9.ro).2.2.2.2.2.1;have ia:wb.frozen? ⟨J,5,none⟩=false:=by simp[World.frozen?,d9.ro]
       have y6:=(ah d'.ro).2.2.2.2.2.2.1;have fr:(wb.setCell ⟨J,5,none⟩ (.int .i64 st)).frozen? ⟨J,6,none⟩=false:=by simp[World.frozen?,d'.ro]
       have a9:Hid _:=d'.put 6 (.int .i64 au) (c6:=obC 3 (.slice none 0 0) (.slice none 0 0) C (.slice T vn U) st au []) rfl;clear I H d9 d' bS;go_upto_region 24 with fail;obtain⟨wd,gm⟩:∃wd,wd=(wb.setCell ⟨J,5,none⟩ (.int .i64 st)).setCell ⟨J,6,none⟩ (.int .i64 au):=⟨_,rfl⟩;rw[<-gm];rw[<-gm]at a9;clear gm y5 y6 ia fr;go_wp2_with fail;go_at_call 151;refine(hQ.out wd a9.out.src).mono ?_;rintro ex we ⟨rfl,I,H⟩;have fa:Hid _:=a9.out.step I H;clear I H a9;go_wp2_with fail;go_at_call 150;refine(h0.out we fa.out.src).mono ?_;rintro ex wf ⟨j3,rfl,a3,-,I,H⟩;have ea:=fa.out.step I H;have hh:=dA a3;obtain⟨ta,tc,rfl,-⟩:=id a3;have y7:=(ah ea.ro).2.2.2.2.2.2.2;have ic:wf.frozen? ⟨J,7,none⟩=false:=by simp[World.frozen?,ea.ro]
       have fb:Hid _:=ea.put 7 (S8 X) (c6:=(obC 3 (.slice none 0 0) (.slice none 0 0) C (.slice T vn U) st au X)) rfl;clear I H a3 ea fa;go_upto_region 25 with fail;obtain⟨eh,da⟩:∃wg,wg=wf.setCell ⟨J,7,none⟩ (S8 X):=⟨_,rfl⟩;rw[<-da];rw[<-da]at fb;clear da y7 ic hh W;have HR:Hid _:=fb.out;clear fb;obtain⟨b8,eS⟩:∃x,sW.bad=x:=⟨_,rfl⟩;have W:Hid _:=eS;clear eS;have RE:Hid _:=HR.out.ro;have bl:Hid _:=HR.out.r2;have bh:Hid (Ext w eh):=HR.out.ext;have a':Hid (IsRd eh y (k::r) sW):=HR.out.src;have cm:∀a n' L,Value.slice T vn U=.slice (some a) n' L->J<a.block:=fun a n' L he=>by
        have G:=(HR.out.own.lt a.block (by rw[he];rfl)).1;omega
       have bd:Hid (∀a n' L,Value.slice T vn U=.slice (some a) n' L->J<a.block):=cm;have a2:Hid (Row eh (.slice T vn U) l.length (l.map S8)):=Row.BV HR.out.own (by have:=b4.out;omega);clear cm;obtain⟨q0,q1,q2,q3,q4,q5,q6,q7⟩:=ah RE.out;obtain⟨⟨pb,er⟩,a4⟩:∃q,aW ⟨3,[],[],C,l,st,au,X⟩=q:=⟨_,rfl⟩;have ad:Hid _:=a4;have P:Hid _:=jk (obV ⟨3,[],[],C,l,st,au,X⟩ (.slice none 0 0) (.slice none 0 0) (.slice T vn U)) ⟨3,[],[],C,l,st,au,X⟩ eh ⟨_,_,_,rfl,Row.nil _,Row.nil _,a2.out⟩ dl.out;rw[a4]at P;unfold obV at P;clear a4 HR;go_wp2_with fail;go_at_call 86;refine Calls.mono P.out ?_;rintro ex w6 ⟨⟨u,rfl,hu⟩,F⟩;have HU:Hid (IsBytes w6 u pb):=by
        have hs:pb.length<=100000:=by
         have d:=ik ⟨3,[],[],C,l,st,au,X⟩;rw[ad.out]at d;exact d
        unfold Hid IsBytes;exact Row.BV hu (by omega)
       have V:Hid (Ext w w6):=bh.out.trans F;have aa:Hid _:=Ext.row F bl.out;have ce:Hid _:=Ext.row F RE.out;have ba:Hid _:=Row.ext a2.out F;obtain⟨_,_,_,_,D,-⟩:=IsRd.ext a'.out F;rw[W.out]at D;obtain⟨e0,e1,e2⟩:=bL D;clear hu F P q0 q1 q2 q3 q4 q5 q6 q7 RE bl bh a' a2 D e0 e1;obtain⟨q0,q1,q2,q3,q4,q5,q6,q7⟩:=ah ce.out
       try dsimp only
       by_cases M:b8=true\/er≠0
       .obtain ⟨rfl,rfl⟩:o9=ob0/\e9=4:=by
         have d:=a7.out;rw[if_pos (by
          rcases M with h | h
          .exact .inl (W.out.trans h)
          .exact .inr (.inl (fun hm=>h (by have G:=ad.out;unfold aW at G;rw[if_pos hm]at G;exact(Prod.mk.inj G).2.symm))))]at d
         exact⟨(Prod.mk.inj d).1,(Prod.mk.inj d).2⟩
        have f0:b8=true\/b8=false/\(er != 0)=true:=by
         rcases M with h | h
         .exact .inl h
         .cases cl:b8 with
          | true=>exact .inl rfl
          | false=>exact .inr ⟨rfl,by simpa using h⟩
        clear M;have p:=aa.out;rcases f0 with b6 | ⟨b6,br⟩
        all_goals
         rw[b6]at e2
         go_wp2_with (refine wpList_store_row rfl 95 (.tmp 2) (.tmp 130) rfl Q (obC 0 (.slice none 0 0) (.slice none 0 0) [] (.slice none 0 0) 0 0 []) rfl rfl 95 _ p bK rfl (by simp[Value.oneCell']) ?_)
         refine bodyPost_ret (aC rfl _ _ Q 95 (obC 0 (.slice none 0 0) (.slice none 0 0) [] (.slice none 0 0) 0 0 []) (0,0) _ rfl (setRow_heap _ _ _ _ _ _ p) Tryz.underlying95 rfl bK) rfl ?_;exact⟨⟨_,rfl,_,_,_,rfl,Row.nil _,Row.nil _,Row.nil _,Fsh.nil _ _ _,Fsh.nil _ _ _,Fsh.nil _ _ _⟩,Ext.but V.out (af _ _ _) (Nat.le_of_eq Y.out)⟩
       .have b0:b8=false:=by
         cases cl:b8 with
         | true=>exact absurd (.inl cl) M
         | false=>rfl
        have a5:er=0:=by
         by_cases h:er=0
         .exact h
         .exact absurd (.inr h) M
        have br:(er != 0)=false:=by simpa using a5
        have fe:Hid _:=W.out.trans b0;rw[b0]at e2;have bt:bP ⟨3,[],[],C,l,st,au,X⟩=true/\pb=eI ⟨3,[],[],C,l,st,au,X⟩:=by
         have G:=ad.out;unfold aW at G;split at G
         .rename_i hm;exact⟨hm,(Prod.mk.inj G).1.symm⟩
         .have:=(Prod.mk.inj G).2;omega
        obtain⟨eq,bq⟩:∃e,(pb==k::r)=e:=⟨_,rfl⟩;have a0:Hid _:=bq;have a1:Hid _:=bt;have cb:Hid _:=IsBytes.ext HV.out V.out;clear bq bt a5 M b0;go_wp2_with fail;go_at_call 31;refine(cY _ _ _ _ w6 HU.out cb.out).mono ?_;rw[a0.out];rintro ey w8 ⟨rfl,bv⟩;rw[bv];clear bv
        cases eq with
        | false =>
         obtain⟨rfl,rfl⟩:o9=ob0/\e9=4:=by
          have d:=a7.out;rw[if_pos (.inr (.inr (fun h=>by have G:=a0.out;rw[a1.out.2,h]at G;simp at G)))]at d;exact⟨(Prod.mk.inj d).1,(Prod.mk.inj d).2⟩
         have p:=aa.out
         go_wp2_with (refine wpList_store_row rfl 95 (.tmp 2) (.tmp 130) rfl Q (obC 0 (.slice none 0 0) (.slice none 0 0) [] (.slice none 0 0) 0 0 []) rfl rfl 95 _ p bK rfl (by simp[Value.oneCell']) ?_)
         refine bodyPost_ret (aC rfl _ _ Q 95 (obC 0 (.slice none 0 0) (.slice none 0 0) [] (.slice none 0 0) 0 0 []) (0,0) _ rfl (setRow_heap _ _ _ _ _ _ p) Tryz.underlying95 rfl bK) rfl ?_;exact⟨⟨_,rfl,_,_,_,rfl,Row.nil _,Row.nil _,Row.nil _,Fsh.nil _ _ _,Fsh.nil _ _ _,Fsh.nil _ _ _⟩,Ext.but V.out (af _ _ _) (Nat.le_of_eq Y.out)⟩
        | true =>
         obtain⟨rfl,rfl⟩:o9=⟨3,[],[],C,l,st,au,X⟩/\e9=0:=by
          have d:=a7.out;rw[if_neg (by
           intro h;rcases h with h | h | h
           .rw [fe.out]at h;cases h
           .exact h a1.out.1
           .exact h (by rw[<-a1.out.2];simpa using a0.out))]at d
          exact⟨(Prod.mk.inj d).1,(Prod.mk.inj d).2⟩
         have p:=aa.out
         go_wp2_with (refine wpList_store_row rfl 95 (.tmp 2) (.tmp 131) rfl Q (obC 3 (.slice none 0 0) (.slice none 0 0) C (.slice T vn U) st au X) rfl rfl 95 _ p bK rfl (by simp[Value.oneCell']) ?_)
         refine bodyPost_ret (aC rfl _ _ Q 95 (obC 3 (.slice none 0 0) (.slice none 0 0) C (.slice T vn U) st au X) (0,0) _ rfl (setRow_heap _ _ _ _ _ _ p) Tryz.underlying95 rfl bK) rfl ?_;have cv:=Row.but ba.out (af w6 Q (obC 3 (.slice none 0 0) (.slice none 0 0) C (.slice T vn U) st au X)) (fun a n L he=>by have G:=bd.out a n L he;omega);exact⟨⟨_,rfl,_,_,_,rfl,Row.nil _,Row.nil _,cv,Fsh.nil _ _ _,Fsh.nil _ _ _,(fun a n L he=>by have G:=bd.out a n L he;omega)⟩,Ext.but V.out (af _ _ _) (Nat.le_of_eq Y.out)⟩
     .have f8:O<N:=by omega
      have ca:Hid (O<N):=f8;have gd:sb=false:=by
       cases sb with
       | false=>rfl
       | true=>exact absurd (.inr rfl) S
      subst gd;have it:(O:Int)<(N:Int):=by omega
      obtain⟨j,E⟩:∃j,N - O=j+1:=⟨N - O - 1,by omega⟩;obtain⟨⟨sD,tk⟩,hD⟩:∃q,aD s 32=q:=⟨_,rfl⟩;have e3:tk.length<=32:=by have d:=ny s 32;rw[hD]at d;exact d
      have e8:Hid (dr (N - (O+1)) sD (l++[cd tk])=(sP,ps)):=by
       have d:=HI.out;rw[E,dr,if_neg (by rw[W.out];simp)]at d;unfold bn at d;rw[hD]at d;rw[show N - (O+1)=j by omega];exact d
      have HD:Hid (aD s 32=(sD,tk)):=hD;have fi:Hid (tk.length<=32):=e3;have ff:Hid (∀A,IsRd A y (k::r) s->Calls Tryz.prog 150 #[.pointer (some ⟨y,0,none⟩),.int .i64 32] A fun e B=>∃v,e=.returned v/\IsBytes B v (aD s 32).2/\(∀a n' L,v=.slice (some a) n' L->A.heap.size<=a.block)/\IsRd B y (k::r) (aD s 32).1/\A.grownBy B (some y)):=fun A h=>fg y (k::r) s 32 A h
      obtain⟨l1,l2,l3,l4⟩:=HR.out.lt;have b':Hid (∀k o,(k,o)∈[(Q,Obj.cells (obC 0 (.slice none 0 0) (.slice none 0 0) [] (.slice none 0 0) 0 0 []) 95 (0,0)),(J,Obj.cells (obC 3 (.slice none 0 0) (.slice none 0 0) C v 0 0 []) 95 (0,0))]->k≠y/\k<J+1):=fun k o K=>by
       simp only[List.mem_cons,Prod.mk.injEq,List.not_mem_nil,or_false]at K;rcases K with⟨rfl,-⟩ | ⟨rfl,-⟩ <;> omega
      have hB:w.heap.size<=y:=by omega
      have co:y<J+1:=by omega
      have ja:l.length<=255:=by omega
      clear hD E S HI e3;go_upto_region 22 with fail;apply aI 8 (fun z A=>RrC w y (k::r) s 9 1 (J+1) v l.length (l.map S8) [S8 (cd (aD s 32).2)] [(Q,Obj.cells (obC 0 (.slice none 0 0) (.slice none 0 0) [] (.slice none 0 0) 0 0 []) 95 (0,0)),(J,Obj.cells (obC 3 (.slice none 0 0) (.slice none 0 0) C v 0 0 []) 95 (0,0))] (.slice none 0 0) [] (z 3) (z 5) (z 6) A) [false,false,false,true,false,true,true,false] [_,v,_,undef,S8 (cd (aD s 32).2),undef,undef,_] [none,none,none,none,none,none,none,none] [[],[0],[],[2],[3],[4],[1,5],[]] (by kernel_rfl) (by kernel_rfl) rfl
      .exact RrS.Du HR.out ⟨Row.nil _,fun k K=>by simp[Value.ownBlock]at K⟩ ⟨rfl,rfl,rfl,Nat.le_refl _,fun _ _=>rfl⟩
      .simp (maxSteps:=1000000)only[de,cN,bR,cG,cS,List.getD_cons_zero,List.getD_cons_succ,Bool.false_eq_true,if_false,if_true,and_true,true_and,forall_const,Nat.zero_add,Nat.reduceAdd,List.take_succ_cons,List.take_zero,ab,Act.put,List.setIfInBounds_toArray,List.set_cons_zero,List.set_cons_succ];and_intros
       iterate 3 · intro xs z wq E;intros;rename_i Z;have f2:=(ah E.k5).2.2.2.2.1;go_simp;exact Z _ _ E rfl
       .intro xs z wq E hz K R Z;rw[hz]at E;go_simp;exact(ff.out wq (E.Cy rfl)).mono (by rintro e' A ⟨u,rfl,h1,h2,h3,h4⟩;exact⟨_,rfl,Z _ _ (E.take co hB (fun k o K=>(b'.out k o K).1) h1 h2 h3 h4)⟩)
       .intro xs z wq E K R Z;have f4:=E.CL _ K;go_simp;exact(kO _ _ wq f4.1 (by rw[HD.out];have:=fi.out;dsimp only;omega)).mono (by rintro e' A ⟨rfl,hx⟩;exact⟨_,rfl,Z _ _ (E.more hx) rfl⟩)
       .intro xs z wq E hz K R Z;rw[hz]at E;go_simp;exact Z _ _ E.Cx
       .intro xs z wq E hz K R Z;obtain⟨f6,f7⟩:=K;rw[hz]at E;obtain⟨v',A,hr,f5⟩:=E.app f7 co (by omega) (fun k o K=>(b'.out k o K).2) Tryz.underlying39 jd rfl (by omega) rfl (by simp[Value.oneCell']) (by omega) (by omega);apply eB (.tmp 92) (.tmp 96) 39 39 (v:=xs 1) (xv:=xs 5) (v':=v') (w':=A)
        iterate 4
         .rfl
        .rw [f6];exact hr
        .exact Z _ _ f5
       .intro xs z wq E;intros;rename_i Z;have f2:=(ah E.k5).2.2.2.2.1;go_simp;exact Z _ _ E rfl
      intro xs wd b2 K;simp only[di,List.getD_cons_zero,List.getD_cons_succ,Bool.false_eq_true,if_false,if_true]at b2;simp only[bV,Nat.zero_add,Nat.reduceAdd,and_true]at K;simp(maxSteps:=1000000)only[List.drop_succ_cons,List.drop_zero,Nat.zero_add,Nat.reduceAdd,List.take_succ_cons,List.take_zero,ab,Act.put,List.setIfInBounds_toArray,List.set_cons_zero,List.set_cons_succ,K];clear K;generalize xs 3=x3 at *;generalize xs 5=x5 at *;generalize xs 6=x6 at *;have D:=RrC.Dv ⟨l1,l2,l3,l4⟩ b2;rw[HD.out]at D;dsimp only at D;have y6:=(ah D.ro).2.2.2.2.1;have fr:wd.frozen? ⟨J,4,none⟩=false:=by simp[World.frozen?,D.ro]
      have a9:Hid (RrS w Q y J (k::r) (obC 0 (.slice none 0 0) (.slice none 0 0) [] (.slice none 0 0) 0 0 []) (obC 3 (.slice none 0 0) (.slice none 0 0) C x6 0 0 []) sD 9 1 (J+1) x6 (l++[cd tk]).length ((l++[cd tk]).map S8) (wd.setCell ⟨J,4,none⟩ x6)):=by
       have d:=D.put 4 x6 (c6:=obC 3 (.slice none 0 0) (.slice none 0 0) C x6 0 0 []) rfl;unfold Hid;rw[List.length_append,List.map_append];exact d
      obtain⟨xa,xn,xc,rfl⟩:∃T vn U,x6=.slice T vn U:=by
       rcases D.own.2 with⟨h,-⟩ | ⟨g,c,fn,h,-⟩
       iterate 2
        .exact ⟨_,_,_,h⟩
      have eE:(l++[cd tk]).length=O+1:=by rw[List.length_append,fx];rfl
      have hK:Hid _:=eE;clear b2 D eE;go_wp2_with fail;go_roundw
      case rel=>exact⟨O+1,sD,l++[cd tk],_,ca.out,by go_num,hK.out,e8,a9⟩
      case measure=>have:=ca.out;simp[intOf];omega
    .have ds:¬((kk:Int)=3):=by omega
     have j1:(((kk:Nat):Int)==3)=false:=by simpa using ds
     obtain⟨rfl,rfl⟩:(⟨r,false⟩:Src)=sr/\(⟨kk,[],[],[],[],0,0,[]⟩:Ob)=ob:=by
      have d:=bx.out;unfold bX at d;rw[if_neg dn,if_neg dq,if_neg ds]at d;exact⟨(Prod.mk.inj d).1,(Prod.mk.inj d).2⟩
     have f9:bP ⟨kk,[],[],[],[],0,0,[]⟩=false:=by
      unfold bP;dsimp only;rw[if_neg dn,if_neg dq,if_neg ds]
     have hL:Hid _:=f9;have P:Hid _:=jk (obV ⟨kk,[],[],[],[],0,0,[]⟩ (.slice none 0 0) (.slice none 0 0) (.slice none 0 0)) ⟨kk,[],[],[],[],0,0,[]⟩ wo ⟨_,_,_,rfl,Row.nil _,Row.nil _,Row.nil _⟩ dl.out;rw[show aW ⟨kk,[],[],[],[],0,0,[]⟩=([],1)by unfold aW;rw[f9];rfl]at P;unfold obV at P;obtain⟨q0,q1,q2,q3,q4,q5,q6,q7⟩:=ah RO.out;clear f9 dn dq ds;go_wp2_with fail;go_at_call 86;refine Calls.mono P.out ?_;rintro e6 w6 ⟨⟨u,rfl,hu⟩,F⟩;have V:Hid (Ext w w6):=bk.out.trans F;have aa:Hid _:=Ext.row F bo.out;obtain⟨_,_,_,_,D,-⟩:=IsRd.ext a8.out F;obtain⟨e0,e1,e2⟩:=bL D;dsimp only at e2;clear hu F P q0 q1 q2 q3 q4 q5 q6 q7 RO bo bk a8 D e0 e1
     try dsimp only
     obtain⟨rfl,rfl⟩:o9=ob0/\e9=4:=by
      have d:=a7.out;rw[if_pos (.inr (.inl (fun h=>by rw[hL.out]at h;cases h)))]at d;exact⟨(Prod.mk.inj d).1,(Prod.mk.inj d).2⟩
     have p:=aa.out
     go_wp2_with (refine wpList_store_row rfl 95 (.tmp 2) (.tmp 130) rfl Q (obC 0 (.slice none 0 0) (.slice none 0 0) [] (.slice none 0 0) 0 0 []) rfl rfl 95 _ p bK rfl (by simp[Value.oneCell']) ?_)
     refine bodyPost_ret (aC rfl _ _ Q 95 (obC 0 (.slice none 0 0) (.slice none 0 0) [] (.slice none 0 0) 0 0 []) (0,0) _ rfl (setRow_heap _ _ _ _ _ _ p) Tryz.underlying95 rfl bK) rfl ?_;exact⟨⟨_,rfl,_,_,_,rfl,Row.nil _,Row.nil _,Row.nil _,Fsh.nil _ _ _,Fsh.nil _ _ _,Fsh.nil _ _ _⟩,Ext.but V.out (af _ _ _) (Nat.le_of_eq Y.out)⟩
end
end Go.Proofs.YtfabjgfmiaammaaGreatDoor
