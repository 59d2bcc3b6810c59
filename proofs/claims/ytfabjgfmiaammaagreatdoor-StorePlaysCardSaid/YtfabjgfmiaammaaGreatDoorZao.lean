/- Contracts of the program's functions and plain laws behind the card. Conditions: as each theorem states. -/
import Derived.Test.YtfabjgfmiaammaaGreatDoorZal
import Derived.Test.YtfabjgfmiaammaaGreatDoorZak
import Derived.Laws.ResultCell
import Derived.Test.YtfabjgfmiaammaaGreatDoorZaj
import Derived.Test.YtfabjgfmiaammaaGreatDoorZan
import Derived.Test.YtfabjgfmiaammaaGreatDoorZai
import Derived.Deep.DeepCutAuto
import Derived.Test.YtfabjgfmiaammaaGreatDoorZab
import Derived.Test.YtfabjgfmiaammaaGreatDoorZac
import Derived.Test.YtfabjgfmiaammaaGreatDoorZag
import Derived.Test.YtfabjgfmiaammaaGreatDoorZaa
set_option linter.unusedVariables false
set_option linter.unusedSimpArgs false
set_option linter.unusedSectionVars false
set_option maxRecDepth 100000
set_option maxHeartbeats 64000000
namespace Go.Proofs.YtfabjgfmiaammaaGreatDoor
section
open Go Go.RowKit
theorem iQ (w:World):IsObT w (obV ob0 (.slice none 0 0) (.slice none 0 0) (.slice none 0 0)) ob0:=⟨_,_,_,rfl,Row.nil _,Row.nil _,Row.nil _,TypB.nil _ _ _,Typed.nil _ _ _ _,Typed.nil _ _ _ _⟩
theorem jG (s:Src) (n:Nat):(az s n).2.length<=s.b.length:=by
 unfold az;split
 .simp
 .simp only[List.length_take];omega
theorem yV (l:B8):(bX l).length=2*l.length:=by
 unfold bX
 induction l with
 | nil=>rfl
 | cons x l a=>rw[List.flatMap_cons,List.length_append,a,List.length_cons];simp only[List.length_cons,List.length_nil];omega
theorem ik (s:Src):(bg s).2.length<=64:=by
 unfold bg;dsimp only;rw[yV];unfold az;split
 .simp
 .simp only[List.length_take];omega
theorem l8 (s:Src):(bi s).1.b.length<=s.b.length:=eD _ _
variable {B:Nat}
theorem sh {s:Src} (h:s.b.length<=B) (a:64<=B):(ew false s).1.b.length<=B/\(ew false s).2.name.length<=B/\(ew false s).2.id.length<=B:=by
 have b:=l8 s;have c:=cZ false (bi s).1;have d:=eD (aJ false (bi s).1).1 (aJ false (bi s).1).2;have e:=jG (aJ false (bi s).1).1 (aJ false (bi s).1).2;have g:=fV (az (aJ false (bi s).1).1 (aJ false (bi s).1).2).1;have i:=ik (az (aJ false (bi s).1).1 (aJ false (bi s).1).2).1;unfold ew;dsimp only;refine⟨by omega,by omega,by omega⟩
theorem lL (b:64<=B):∀(n:Nat) (s:Src) (l:List Itm),s.b.length<=B->(∀x∈l,x.name.length<=B/\x.id.length<=B)->∀x∈(cK false n s l).2,x.name.length<=B/\x.id.length<=B
 | 0,s,l,_,h=>h
 | n+1,s,l,c,h=>by
  unfold cK;split
  .exact h
  .obtain ⟨d,e,g⟩:=sh c b;refine lL b n _ _ d (fun x a=>?_);rcases List.mem_append.1 a with a | a
   .exact h x a
   .rw [List.mem_singleton.1 a];exact⟨e,g⟩
theorem jT:∀(n:Nat) (s:Src) (l:List B8),(∀x∈l,x.length<=64)->(dh n s l).1.b.length<=s.b.length/\∀x∈(dh n s l).2,x.length<=64
 | 0,s,l,h=>⟨Nat.le_refl _,h⟩
 | n+1,s,l,h=>by
  unfold dh;split
  .exact ⟨Nat.le_refl _,h⟩
  .obtain ⟨b,c⟩:=jT n (bg s).1 (l++[(bg s).2]) (fun x a=>by
    rcases List.mem_append.1 a with a | a
    .exact h x a
    .rw [List.mem_singleton.1 a];exact ik s)
   exact⟨Nat.le_trans b (fV s),c⟩
theorem uD (b:Int) (a:B8) (x:Src×List B8) (p:x.1.b.length<=10000000) (c:∀y∈x.2,y.length<=64) (d:a.length<=10000000):dm (lD false b a x).2:=by
 unfold lD;have e:=cZ false x.1;obtain⟨A,g⟩:∃q,aJ false x.1=q:=⟨_,rfl⟩;rw[g]at e ⊢;have h:=cZ false A.1;obtain⟨C,i⟩:∃q,aJ false A.1=q:=⟨_,rfl⟩;rw[i]at h ⊢;have j:=cZ false C.1;obtain⟨D,k⟩:∃q,aJ false C.1=q:=⟨_,rfl⟩;rw[k]at j ⊢;have l:=jG D.1 D.2;obtain⟨F,hF⟩:∃q,az D.1 D.2=q:=⟨_,rfl⟩;rw[hF]at l ⊢;exact⟨fun x n=>(by cases n),fun y o=>(by have:=c y o;omega),d,by show F.2.length<=10000000;omega⟩
theorem uE (c:Int) (b:B8) (e:b.length<=10000000):dm (bV false c b).2:=by
 unfold bV;split
 .exact ⟨fun x a=>(by cases a),fun x a=>(by cases a),by simp,by simp⟩
 .split
  .refine ⟨fun x a=>?_,fun x a=>(by cases a),by simp,by simp⟩;have d:=cZ false ⟨b,false⟩;exact lL (by omega) _ _ [] (by dsimp only at d;omega) (fun x a=>by cases a) x a
  .split
   .have d:=fV ⟨b,false⟩;have g:=l8 (bg ⟨b,false⟩).1;obtain⟨h,i⟩:=jT (bi (bg ⟨b,false⟩).1).2 (bi (bg ⟨b,false⟩).1).1 [] (fun x a=>by cases a);have j:=ik ⟨b,false⟩;exact uD _ _ _ (Nat.le_trans h (Nat.le_trans g (Nat.le_trans d e))) i (by omega)
   .exact ⟨fun x a=>(by cases a),fun x a=>(by cases a),by simp,by simp⟩
theorem ay {P:Program} {c:Func} {p u:Tmp} {b:TypeId} (h:c.results=#[.cell p b,.tmp u]) (a:Array Value) (w:World) (g:Nat) (t:TypeId) (cs:Array Value) (fr:Nat×Nat) (d:TypeDesc)
  (e:a.getD p undef=.pointer (some ⟨g,0,none⟩)) (i:w.heap[g]? = some (.cells cs t fr))
  (j:P.underlying b=some d) (k:(match d with | .struct _ | .array _ _=>true | _=>false)=true) (l:(P.info? b).map (·.size)=some cs.size) :
  (results c a).run P w=.ok (.tuple #[.agg cs,a.getD u undef]) w:=by
 rw[results_cell_tmp h,e];simp[asAddr,run_loadVar_row w g t b cs fr d i j k l]
theorem yW (v:Value) (b:B8) (w:World) (hv:IsBytes w v b) (hl:b.length<=10000000) :
  Calls Tryz.prog 88 #[v] w fun e H=>(∃u,e=.returned (.tuple #[u,.int .i64 (dz b).2])/\IsObT H u (dz b).1)/\Ext w H:=by
 have HV:Hid (IsBytes w v b):=hv;obtain⟨a,c,rfl,l1,l2,l3,hg⟩:=hv.get;obtain⟨⟨j,e9⟩,t⟩:∃q,dz b=q:=⟨_,rfl⟩;rw[t];have HQ:Hid _:=t;have bS:Hid _:=hg;clear hv hg t;go_enter Tryz.func88,Tryz.ntmps88;go_upto_region 1 with fail;obtain⟨w3,S⟩:∃w3,w3=w.alloc (.cells (obC 0 (.slice none 0 0) (.slice none 0 0) [] (.slice none 0 0) 0 0 []) 41):=⟨_,rfl⟩;have R2:Hid (w3.heap[w.heap.size]? = some (.cells (obC 0 (.slice none 0 0) (.slice none 0 0) [] (.slice none 0 0) 0 0 []) 41 (0,0))):=by unfold Hid;rw[S];exact ab _ _
 have I:Hid (Ext w w3):=by unfold Hid;rw[S];exact(Ext.refl _).alloc _
 have b0:w3.heap.size=w.heap.size+1:=by rw[S];exact dK _ _
 unfold obC at S;rw[<-S];obtain⟨K,a4⟩:∃g,w.heap.size=g:=⟨_,rfl⟩;have L:Hid _:=a4;rw[a4]at R2 b0 ⊢;clear S a4
 cases b with
 | nil =>
  obtain⟨rfl,rfl⟩:ob0=j/\2=e9:=by
   have l:=HQ.out;exact⟨(Prod.mk.inj l).1,(Prod.mk.inj l).2⟩
  have i:=R2.out;have b1:Ext w (w3.setRow K (obC 0 (.slice none 0 0) (.slice none 0 0) [] (.slice none 0 0) 0 0 [])):=Ext.but I.out (ae _ _ _) (Nat.le_of_eq L.out)
  go_wp2_with (refine wpList_store_row rfl 41 (.tmp 2) (.tmp 10) rfl K (obC 0 (.slice none 0 0) (.slice none 0 0) [] (.slice none 0 0) 0 0 []) rfl rfl 41 _ i bW rfl (by simp[Value.oneCell']) ?_)
  refine bodyPost_ret (ay rfl _ _ K 41 (obC 0 (.slice none 0 0) (.slice none 0 0) [] (.slice none 0 0) 0 0 []) (0,0) _ rfl (setRow_heap _ _ _ _ _ _ i) Tryz.underlying41 rfl bW) rfl ?_;exact⟨⟨_,rfl,iQ _⟩,b1⟩
 | cons k r =>
  obtain⟨bb,oo,rfl,hc⟩:=bS.out 0 (by simp);have y0:w.cell? ⟨bb,oo,none⟩=some (.int .u8 k.toNat):=hc 0 (by simp);have z0:=I.out.cell y0;have b6:bb<w.heap.size:=World.block_lt_of_cell? _ _ y0;have bk:r.length<=10000000:=by simp at hl;omega
  obtain⟨d,D⟩:∃o,(bV false k.toNat r).2=o:=⟨_,rfl⟩;have bl:Hid (dm d):=by rw[<-D];exact uE _ r bk
  have T:Hid ((j,e9)=if bN d=true/\ez d=k::r then(d,0)else(ob0,4)):=by
   unfold Hid;rw[<-HQ.out,jg,D]
  have bo:Hid (∀H a3 c',Ext w H->IsBytes H (.slice (some ⟨bb,a3,none⟩) r.length c') r->Calls Tryz.prog 149 #[.int .i64 k.toNat,.slice (some ⟨bb,a3,none⟩) r.length c'] H fun e bq=>(∃u,e=.returned u/\IsObT bq u d)/\Ext H bq):=fun H a3 c' hx hb=>by
   have l:=wI k.toNat bb a3 c' r H hb (by have:=hx.size;omega) bk
   rwa [D]at l
  have br:Hid (IntKind.i64.wrap (k.toNat:Int)=(k.toNat:Int)):=IntWalk.i64_in _ (by have:=k.toNat_lt;omega);have b7:(1:Int)<=(r.length:Int)+1:=by omega
  have b8:r.length+1<=c:=by simpa using l1
  clear D hc HQ;have bs:(k::r).length=r.length+1:=rfl;go_wp2_with fail;rw[bs];clear bs
  by_cases bt:c=1
  .subst bt;have b2:r=[]:=List.eq_nil_of_length_eq_zero (by omega);subst b2;have a5:Hid (IsBytes w (.slice (some ⟨bb,oo,none⟩) 0 0) []):=⟨_,0,rfl,Nat.le_refl _,by omega,by simp,fun h=>absurd rfl h⟩;apply aj 8 [_,_,_,.int .i64 k.toNat,_,.slice (some ⟨bb,oo,none⟩) 0 0,undef,undef] [none,none,none,none,none,none,some (fun u H=>IsObT H u d),some (fun u H=>∃g,u=.pointer (some ⟨g,0,none⟩)/\H.heap[g]? = some (.cells (obC 0 (.slice none 0 0) (.slice none 0 0) [] (.slice none 0 0) 0 0 []) 41 (0,0))/\w3.heap.size<=g)] [[],[0],[1],[2],[],[4],[3,5],[]] (by kernel_rfl) (by kernel_rfl) (by simp[ak])
   .refine ⟨?_,?_,trivial⟩
    .exact fun _ _ _ he U=>IsObT.ext U he
    .exact fun _ _ _ he ⟨g,h1,h2,h3⟩=>⟨g,h1,Ext.row he h2,h3⟩
   .simp (maxSteps:=1000000)only[List.take_succ_cons,List.take_zero,aw,aA,aa,Act.put,List.setIfInBounds_toArray,List.set_cons_zero,List.set_cons_succ,aK,aO,ak,List.getD_cons_zero,List.getD_cons_succ,and_true,true_and,forall_const];and_intros
    iterate 3 · intro M V t;intros;rename_i E;have f0:=t.cell z0;go_simp;exact E _ _ (Ext.refl _) rfl
    .intro M V t J R E;go_simp;exact E _ _ (Ext.refl _) (congrArg (Value.int .i64) br.out)
    iterate 2 · intro M V t;intros;rename_i E;have f0:=t.cell z0;go_simp;exact E _ _ (Ext.refl _) rfl
    .intro M V t J R E;obtain⟨b3,b4⟩:=J;go_simp;exact(bo.out V oo 0 (I.out.trans t) (IsBytes.ext a5.out (I.out.trans t))).mono (by rintro e' w4 ⟨⟨u,rfl,U⟩,hx⟩;exact⟨_,rfl,E _ _ hx U⟩)
    .intro M V t R E;go_simp;exact E _ _ ((Ext.refl _).alloc _) ⟨_,rfl,ab _ _,t.size⟩
   intro M w4 W J;simp only[aP,Nat.zero_add,Nat.reduceAdd,and_true]at J;have q6:=J.2.2.2.2.2.2.1;have q7:=J.2.2.2.2.2.2.2;simp(maxSteps:=1000000)only[List.take_succ_cons,List.take_zero,List.drop_succ_cons,List.drop_zero,aa,Act.put,List.setIfInBounds_toArray,List.set_cons_zero,List.set_cons_succ,Nat.zero_add,Nat.reduceAdd,J];clear J;generalize M 6=x6 at *;generalize M 7=x7 at *;obtain⟨X,rfl,r4,a6⟩:=q7;have D:=q6;obtain⟨x,y,z,rfl,-⟩:=q6;have b5:=W.size;have N:Hid (IsObT (w4.setRow X (obC d.kind x y d.tree z d.BL d.I d.msg)) (obV d x y z) d):=D.put (ae _ _ _) r4;have a7:x.oneCell'=true/\y.oneCell'=true/\z.oneCell'=true:=by
    obtain⟨_,_,_,e,⟨_,_,e1,-⟩,⟨_,_,e2,-⟩,⟨_,_,e3,-⟩,-⟩:=D;simp only[obV,Value.agg.injEq,Array.mk.injEq,List.cons.injEq,and_true,true_and]at e;obtain⟨rfl,rfl,rfl⟩:=e;rw[e1,e2,e3];exact⟨rfl,rfl,rfl⟩
   obtain⟨o1,o2,o3⟩:=a7;obtain⟨Y,A⟩:∃Y,Y=w4.setRow X (obC d.kind x y d.tree z d.BL d.I d.msg):=⟨_,rfl⟩;have R4:Hid (Y.heap[X]? = some (.cells (obC d.kind x y d.tree z d.BL d.I d.msg) 41 (0,0))):=by unfold Hid;rw[A];exact setRow_heap w4 X _ (obC d.kind x y d.tree z d.BL d.I d.msg) _ _ r4
   have Z:Hid (Ext w3 Y):=by unfold Hid;rw[A];exact Ext.but W (ae _ _ _) a6
   rw[<-A]at N;go_upto_region 4 with(refine wpList_store_row rfl 41 (.tmp 4) (.tmp 17) rfl X (obC d.kind x y d.tree z d.BL d.I d.msg) rfl rfl 41 _ r4 bW rfl (by simp[o1,o2,o3];simp[Value.oneCell']) ?_);rw[<-A];clear A;have O:Hid _:=mX (obV d x y z) d Y N.out.ob bl.out;obtain⟨⟨p,er⟩,F⟩:∃q,aT d=q:=⟨_,rfl⟩;rw[F]at O;have a8:p.length<=140737488355328:=by have:=mY d;rw[F]at this;exact this
   have ad:Hid _:=F;obtain⟨d0,d1,d2,d3,d4,d5,d6,d7⟩:=ag R4.out;clear F;go_wp2_with fail;go_at_call 85;refine Calls.mono O.out ?_;rintro e6 w6 ⟨⟨u,rfl,U⟩,B⟩;have HU:Hid (IsBytes w6 u p):=by unfold Hid IsBytes;exact Row.BM U a8
   have G:Hid (Ext w w6):=I.out.trans (Z.out.trans B);have i:=Ext.row B (Z.out.row R2.out);have a9:Hid _:=Ext.row B R4.out;have a':Hid (IsObT w6 (obV d x y z) d):=N.out.ext B;clear U B O d0 d1 d2 d3 d4 d5 d6 d7
   try dsimp only
   by_cases n:er=0
   case neg =>
    have au:(er==0)=false:=by simpa using n
    have bx:(er != 0)=true:=by simpa using n
    obtain⟨rfl,rfl⟩:j=ob0/\e9=4:=by
     have l:=T.out;rw[if_neg (fun h=>n (by have C:=ad.out;unfold aT at C;rw[if_pos h.1]at C;exact(Prod.mk.inj C).2.symm))]at l;exact⟨(Prod.mk.inj l).1,(Prod.mk.inj l).2⟩
    clear n
    go_wp2_with (refine wpList_store_row rfl 41 (.tmp 2) (.tmp 31) rfl K (obC 0 (.slice none 0 0) (.slice none 0 0) [] (.slice none 0 0) 0 0 []) rfl rfl 41 _ i bW rfl (by simp[Value.oneCell']) ?_)
    refine bodyPost_ret (ay rfl _ _ K 41 (obC 0 (.slice none 0 0) (.slice none 0 0) [] (.slice none 0 0) 0 0 []) (0,0) _ rfl (setRow_heap _ _ _ _ _ _ i) Tryz.underlying41 rfl bW) rfl ?_;exact⟨⟨_,rfl,iQ _⟩,Ext.but G.out (ae _ _ _) (Nat.le_of_eq L.out)⟩
   have au:(er==0)=true:=by simpa using n
   subst n;have a0:bN d=true/\p=ez d:=by
    have C:=ad.out;unfold aT at C;split at C
    .rename_i hm;exact⟨hm,(Prod.mk.inj C).1.symm⟩
    .have:=(Prod.mk.inj C).2;cases this
   obtain⟨eq,a1⟩:∃e,(p==[k])=e:=⟨_,rfl⟩;have P:Hid _:=a1;have Q:Hid _:=a0;have bd:Hid _:=IsBytes.ext HV.out G.out;clear a1 a0;go_wp2_with fail;go_at_call 76;refine(fm _ _ _ _ _ HU.out bd.out).mono ?_;rw[P.out];rintro e7 w7 ⟨rfl,a2⟩;rw[a2];clear a2
   cases eq with
   | false =>
    obtain⟨rfl,rfl⟩:j=ob0/\e9=4:=by
     have l:=T.out;rw[if_neg (fun h=>by have C:=P.out;rw[Q.out.2,h.2]at C;simp at C)]at l;exact⟨(Prod.mk.inj l).1,(Prod.mk.inj l).2⟩
    go_wp2_with (refine wpList_store_row rfl 41 (.tmp 2) (.tmp 31) rfl K (obC 0 (.slice none 0 0) (.slice none 0 0) [] (.slice none 0 0) 0 0 []) rfl rfl 41 _ i bW rfl (by simp[Value.oneCell']) ?_)
    refine bodyPost_ret (ay rfl _ _ K 41 (obC 0 (.slice none 0 0) (.slice none 0 0) [] (.slice none 0 0) 0 0 []) (0,0) _ rfl (setRow_heap _ _ _ _ _ _ i) Tryz.underlying41 rfl bW) rfl ?_;exact⟨⟨_,rfl,iQ _⟩,Ext.but G.out (ae _ _ _) (Nat.le_of_eq L.out)⟩
   | true =>
    obtain⟨rfl,rfl⟩:j=d/\e9=0:=by
     have l:=T.out;rw[if_pos ⟨Q.out.1,by rw[<-Q.out.2];simpa using P.out⟩]at l;exact⟨(Prod.mk.inj l).1,(Prod.mk.inj l).2⟩
    have bh:=a9.out;obtain⟨d0,d1,d2,d3,d4,d5,d6,d7⟩:=ag bh
    go_wp2_with (refine wpList_store_row rfl 41 (.tmp 2) (.tmp 32) rfl K (obC j.kind x y j.tree z j.BL j.I j.msg) rfl rfl 41 _ i bW rfl (by simp[o1,o2,o3];simp[Value.oneCell']) ?_)
    refine bodyPost_ret (ay rfl _ _ K 41 (obC j.kind x y j.tree z j.BL j.I j.msg) (0,0) _ rfl (setRow_heap _ _ _ _ _ _ i) Tryz.underlying41 rfl bW) rfl ?_;exact⟨⟨_,rfl,IsObT.put a'.out (ae _ _ _) i⟩,Ext.but G.out (ae _ _ _) (Nat.le_of_eq L.out)⟩
  .have b':¬c=1:=bt;have a5:Hid (IsBytes w (.slice (some ⟨bb,oo+1,none⟩) r.length (c - 1)) r):=IsBytes.from 1 HV.out (by simp) ⟨bb,oo+1,none⟩ (fun _=>rfl);apply aj 8 [_,_,_,.int .i64 k.toNat,_,.slice (some ⟨bb,oo+1,none⟩) r.length (c - 1),undef,undef] [none,none,none,none,none,none,some (fun u H=>IsObT H u d),some (fun u H=>∃g,u=.pointer (some ⟨g,0,none⟩)/\H.heap[g]? = some (.cells (obC 0 (.slice none 0 0) (.slice none 0 0) [] (.slice none 0 0) 0 0 []) 41 (0,0))/\w3.heap.size<=g)] [[],[0],[1],[2],[],[4],[3,5],[]] (by kernel_rfl) (by kernel_rfl) (by simp[ak])
   .refine ⟨?_,?_,trivial⟩
    .exact fun _ _ _ he U=>IsObT.ext U he
    .exact fun _ _ _ he ⟨g,h1,h2,h3⟩=>⟨g,h1,Ext.row he h2,h3⟩
   .simp (maxSteps:=1000000)only[List.take_succ_cons,List.take_zero,aw,aA,aa,Act.put,List.setIfInBounds_toArray,List.set_cons_zero,List.set_cons_succ,aK,aO,ak,List.getD_cons_zero,List.getD_cons_succ,and_true,true_and,forall_const];and_intros
    iterate 3 · intro M V t;intros;rename_i E;have f0:=t.cell z0;go_simp;exact E _ _ (Ext.refl _) rfl
    .intro M V t J R E;go_simp;exact E _ _ (Ext.refl _) (congrArg (Value.int .i64) br.out)
    iterate 2 · intro M V t;intros;rename_i E;have f0:=t.cell z0;go_simp;exact E _ _ (Ext.refl _) rfl
    .intro M V t J R E;obtain⟨b3,b4⟩:=J;go_simp;exact(bo.out V (oo+1) (c - 1) (I.out.trans t) (IsBytes.ext a5.out (I.out.trans t))).mono (by rintro e' w4 ⟨⟨u,rfl,U⟩,hx⟩;exact⟨_,rfl,E _ _ hx U⟩)
    .intro M V t R E;go_simp;exact E _ _ ((Ext.refl _).alloc _) ⟨_,rfl,ab _ _,t.size⟩
   intro M w4 W J;simp only[aP,Nat.zero_add,Nat.reduceAdd,and_true]at J;have q6:=J.2.2.2.2.2.2.1;have q7:=J.2.2.2.2.2.2.2;simp(maxSteps:=1000000)only[List.take_succ_cons,List.take_zero,List.drop_succ_cons,List.drop_zero,aa,Act.put,List.setIfInBounds_toArray,List.set_cons_zero,List.set_cons_succ,Nat.zero_add,Nat.reduceAdd,J];clear J;generalize M 6=x6 at *;generalize M 7=x7 at *;obtain⟨X,rfl,r4,a6⟩:=q7;have D:=q6;obtain⟨x,y,z,rfl,-⟩:=q6;have b5:=W.size;have N:Hid (IsObT (w4.setRow X (obC d.kind x y d.tree z d.BL d.I d.msg)) (obV d x y z) d):=D.put (ae _ _ _) r4;have a7:x.oneCell'=true/\y.oneCell'=true/\z.oneCell'=true:=by
    obtain⟨_,_,_,e,⟨_,_,e1,-⟩,⟨_,_,e2,-⟩,⟨_,_,e3,-⟩,-⟩:=D;simp only[obV,Value.agg.injEq,Array.mk.injEq,List.cons.injEq,and_true,true_and]at e;obtain⟨rfl,rfl,rfl⟩:=e;rw[e1,e2,e3];exact⟨rfl,rfl,rfl⟩
   obtain⟨o1,o2,o3⟩:=a7;obtain⟨Y,A⟩:∃Y,Y=w4.setRow X (obC d.kind x y d.tree z d.BL d.I d.msg):=⟨_,rfl⟩;have R4:Hid (Y.heap[X]? = some (.cells (obC d.kind x y d.tree z d.BL d.I d.msg) 41 (0,0))):=by unfold Hid;rw[A];exact setRow_heap w4 X _ (obC d.kind x y d.tree z d.BL d.I d.msg) _ _ r4
   have Z:Hid (Ext w3 Y):=by unfold Hid;rw[A];exact Ext.but W (ae _ _ _) a6
   rw[<-A]at N;go_upto_region 4 with(refine wpList_store_row rfl 41 (.tmp 4) (.tmp 17) rfl X (obC d.kind x y d.tree z d.BL d.I d.msg) rfl rfl 41 _ r4 bW rfl (by simp[o1,o2,o3];simp[Value.oneCell']) ?_);rw[<-A];clear A;have O:Hid _:=mX (obV d x y z) d Y N.out.ob bl.out;obtain⟨⟨p,er⟩,F⟩:∃q,aT d=q:=⟨_,rfl⟩;rw[F]at O;have a8:p.length<=140737488355328:=by have:=mY d;rw[F]at this;exact this
   have ad:Hid _:=F;obtain⟨d0,d1,d2,d3,d4,d5,d6,d7⟩:=ag R4.out;clear F;go_wp2_with fail;go_at_call 85;refine Calls.mono O.out ?_;rintro e6 w6 ⟨⟨u,rfl,U⟩,B⟩;have HU:Hid (IsBytes w6 u p):=by unfold Hid IsBytes;exact Row.BM U a8
   have G:Hid (Ext w w6):=I.out.trans (Z.out.trans B);have i:=Ext.row B (Z.out.row R2.out);have a9:Hid _:=Ext.row B R4.out;have a':Hid (IsObT w6 (obV d x y z) d):=N.out.ext B;clear U B O d0 d1 d2 d3 d4 d5 d6 d7
   try dsimp only
   by_cases n:er=0
   case neg =>
    have au:(er==0)=false:=by simpa using n
    have bx:(er != 0)=true:=by simpa using n
    obtain⟨rfl,rfl⟩:j=ob0/\e9=4:=by
     have l:=T.out;rw[if_neg (fun h=>n (by have C:=ad.out;unfold aT at C;rw[if_pos h.1]at C;exact(Prod.mk.inj C).2.symm))]at l;exact⟨(Prod.mk.inj l).1,(Prod.mk.inj l).2⟩
    clear n
    go_wp2_with (refine wpList_store_row rfl 41 (.tmp 2) (.tmp 31) rfl K (obC 0 (.slice none 0 0) (.slice none 0 0) [] (.slice none 0 0) 0 0 []) rfl rfl 41 _ i bW rfl (by simp[Value.oneCell']) ?_)
    refine bodyPost_ret (ay rfl _ _ K 41 (obC 0 (.slice none 0 0) (.slice none 0 0) [] (.slice none 0 0) 0 0 []) (0,0) _ rfl (setRow_heap _ _ _ _ _ _ i) Tryz.underlying41 rfl bW) rfl ?_;exact⟨⟨_,rfl,iQ _⟩,Ext.but G.out (ae _ _ _) (Nat.le_of_eq L.out)⟩
   have au:(er==0)=true:=by simpa using n
   subst n;have a0:bN d=true/\p=ez d:=by
    have C:=ad.out;unfold aT at C;split at C
    .rename_i hm;exact⟨hm,(Prod.mk.inj C).1.symm⟩
    .have:=(Prod.mk.inj C).2;cases this
   obtain⟨eq,a1⟩:∃e,(p==k::r)=e:=⟨_,rfl⟩;have P:Hid _:=a1;have Q:Hid _:=a0;have bd:Hid _:=IsBytes.ext HV.out G.out;clear a1 a0;go_wp2_with fail;go_at_call 76;refine(fm _ _ _ _ _ HU.out bd.out).mono ?_;rw[P.out];rintro e7 w7 ⟨rfl,a2⟩;rw[a2];clear a2
   cases eq with
   | false =>
    obtain⟨rfl,rfl⟩:j=ob0/\e9=4:=by
     have l:=T.out;rw[if_neg (fun h=>by have C:=P.out;rw[Q.out.2,h.2]at C;simp at C)]at l;exact⟨(Prod.mk.inj l).1,(Prod.mk.inj l).2⟩
    go_wp2_with (refine wpList_store_row rfl 41 (.tmp 2) (.tmp 31) rfl K (obC 0 (.slice none 0 0) (.slice none 0 0) [] (.slice none 0 0) 0 0 []) rfl rfl 41 _ i bW rfl (by simp[Value.oneCell']) ?_)
    refine bodyPost_ret (ay rfl _ _ K 41 (obC 0 (.slice none 0 0) (.slice none 0 0) [] (.slice none 0 0) 0 0 []) (0,0) _ rfl (setRow_heap _ _ _ _ _ _ i) Tryz.underlying41 rfl bW) rfl ?_;exact⟨⟨_,rfl,iQ _⟩,Ext.but G.out (ae _ _ _) (Nat.le_of_eq L.out)⟩
   | true =>
    obtain⟨rfl,rfl⟩:j=d/\e9=0:=by
     have l:=T.out;rw[if_pos ⟨Q.out.1,by rw[<-Q.out.2];simpa using P.out⟩]at l;exact⟨(Prod.mk.inj l).1,(Prod.mk.inj l).2⟩
    have bh:=a9.out;obtain⟨d0,d1,d2,d3,d4,d5,d6,d7⟩:=ag bh
    go_wp2_with (refine wpList_store_row rfl 41 (.tmp 2) (.tmp 32) rfl K (obC j.kind x y j.tree z j.BL j.I j.msg) rfl rfl 41 _ i bW rfl (by simp[o1,o2,o3];simp[Value.oneCell']) ?_)
    refine bodyPost_ret (ay rfl _ _ K 41 (obC j.kind x y j.tree z j.BL j.I j.msg) (0,0) _ rfl (setRow_heap _ _ _ _ _ _ i) Tryz.underlying41 rfl bW) rfl ?_;exact⟨⟨_,rfl,IsObT.put a'.out (ae _ _ _) i⟩,Ext.but G.out (ae _ _ _) (Nat.le_of_eq L.out)⟩
end
section
open Go Go.RowKit Go.Sort
theorem A6 (s:ByteArray) (w:World) (n:s.size<4294967281) :
  Calls Tryz.prog 202 #[.string s] w fun e j=>e=.returned (.bool (dM s.data.toList))/\j=w:=by
 go_enter Tryz.func202,Tryz.ntmps202;go_wp2
 go_loop [3] (fun i=>∃k:Nat,k<=s.size/\i=.int .i64 k/\(s.data.toList.take k).all okC=true) (fun i=>s.size - (intOf i).toNat)
 case atStart=>exact⟨0,Nat.zero_le _,rfl,rfl⟩
 case round =>
  obtain⟨k,o,rfl,h⟩:=hrel;have d:Hid _:=h;clear h
  by_cases b:k<s.size
  .by_cases p:(s[k].toNat:Int)<32
   .go_wp2;go_ret;exact⟨an (lX b (by unfold okC;rw[decide_eq_false (by omega)];rfl)).symm,rfl⟩
   .by_cases q:(126:Int)<s[k].toNat
    .go_wp2;go_ret;exact⟨an (lX b (by unfold okC;rw[decide_eq_false (by omega:¬s[k].toNat<=126)];simp)).symm,rfl⟩
    .go_wp2
     go_round
     case rel =>
      exact⟨k+1,by omega,by go_num,by rw[kW s k b,List.all_append,d.out];simp[okC];omega⟩
     case measure=>simp[intOf];omega
  .have c:k=s.size:=by omega
   have a:s.data.toList.all okC=true:=by
    have:=d.out
    rwa [c,List.take_of_length_le (by simp)]at this
   have l:Hid _:=a;clear a d c;go_wp2;go_ret;refine⟨an ?_,rfl⟩;show _=(s.data.toList.all okC && decide (s.data.toList.length<=200));rw[l.out];have g:s.data.toList.length=s.size:=by simp
   rw[g,Bool.true_and];exact decide_eq_decide.2 (by omega)
theorem yX (l:B8) (w:World) (a:l.length<4294967281) :
  Calls Tryz.prog 202 #[S8 l] w fun e b=>e=.returned (.bool (dM l))/\b=w:=A6 ⟨l.toArray⟩ w a
theorem si (v:Value) (l:List B8) (w:World) (u:IsStrs w v l) (y:∀s∈l,s.length<=140737488355328) :
  Calls Tryz.prog 201 #[v] w fun e D=>e=.returned (.bool (l.all av))/\Ext w D:=by
 obtain⟨a,c,rfl,L,M,N,z⟩:=u.get;have E:Hid _:=z;have F:Hid _:=y;clear u z y;go_enter Tryz.func201,Tryz.ntmps201;go_wp2;go_loopw [3] (fun i wr=>∃k:Nat,k<=l.length/\i=.int .i64 k/\Hid ((l.take k).all av=true)/\Hid (Ext w wr)) (fun i _=>l.length - (intOf i).toNat)
 case atStart=>exact⟨0,Nat.zero_le _,rfl,rfl,Ext.refl _⟩
 case round =>
  obtain⟨k,O,rfl,A,p⟩:=hrel
  by_cases b:k<l.length
  .obtain ⟨x,g⟩:∃x,l[k]? = some x:=⟨_,List.getElem?_eq_getElem b⟩;obtain⟨P,Q,rfl,B⟩:=E.out k b;have G:=F.out x (List.mem_of_getElem? g);have C:=p.out.cell (B k b);rw[show l.getD k []=x by rw[List.getD_eq_getElem?_getD,g];rfl]at C;have h:Hid ((l.take (k+1)).all av=av x):=by
    unfold Hid;rw[List.take_add_one,g,List.all_append,A.out];simp
   have q:Hid (x∈l):=List.mem_of_getElem? g;obtain⟨r,d⟩:∃r,av x=r:=⟨_,rfl⟩;have j:Hid _:=d;rw[d]at h;clear d g B;go_wp2_with fail;go_at_call 87;refine(fo x wr (by omega)).mono ?_;rw[j.out];rintro e H ⟨rfl,n⟩;have o:Hid (Ext w H):=p.out.trans n;clear n C
   cases r with
   | false =>
    have I:Hid (l.all av=false):=by
     unfold Hid;rw[List.all_eq_false];exact⟨x,q.out,by rw[j.out];simp⟩
    go_wp2;go_ret;exact⟨an I.out.symm,o.out⟩
   | true =>
    go_wp2;go_roundw
    case rel=>exact⟨k+1,by omega,by go_num,h,o⟩
    case measure=>simp[intOf];omega
  .have t:k=l.length:=by omega
   subst t;have J:Hid (l.all av=true):=by have K:=A.out;rwa [List.take_length]at K
   go_wp2;go_ret;exact⟨an J.out.symm,p.out⟩
theorem Au (m:Nat) (h:m<=be):bits BinOp.and IntKind.i64 (m:Int) 127=((m%128:Nat):Int):=by
 unfold be at h;unfold bits;show IntKind.wrap .i64 ((BitVec.ofInt 64 (m:Int) &&& BitVec.ofInt 64 127).toNat:Int)=_;have e:(BitVec.ofInt 64 (m:Int) &&& BitVec.ofInt 64 127).toNat=m%128:=by
  rw[BitVec.toNat_and,BitVec.toNat_ofInt,BitVec.toNat_ofInt];have a:((m:Int)%((2 ^ 64:Nat):Int)).toNat=m:=by omega
  rw[a];exact Nat.and_two_pow_sub_one_eq_mod m 7
 rw[e];exact IntWalk.i64_in _ (by omega)
theorem A7:∀r:Fin 128,bits BinOp.or IntKind.i64 (r.val:Int) 128=(r.val:Int)+128:=by decide +kernel
theorem Av (m:Nat):IntKind.u8.wrap (bits BinOp.or IntKind.i64 ((m%128:Nat):Int) 128)=((UInt8.ofNat (m%128+128)).toNat:Int):=by
 have h:=A7 ⟨m%128,by omega⟩;rw[show((m%128:Nat):Int)=(((⟨m%128,by omega⟩:Fin 128).val:Nat):Int)from rfl,h,IntKind.wrap_u8,UInt8.toNat_ofNat'];show(((m%128:Nat):Int)+128)%256=_;omega
theorem rz (n:Int) (w:World) :
  Calls Tryz.prog 203 #[.int .i64 n] w fun e D=>(∃v,e=.returned (.tuple #[v,.int .i64 (putW n).2])/\D.ownsRow w.heap.size 5 1 v (putW n).1.length ((putW n).1.map fun x=>.int .u8 x.toNat))/\Ext w D:=by
 obtain⟨r,b⟩:∃r,putW n=r:=⟨_,rfl⟩;rw[b]
 by_cases G:n<0
 .have h:r=([],1):=by rw[<-b];unfold putW;rw[if_pos (.inl G)]
  subst h;clear b;go_enter Tryz.func203,Tryz.ntmps203;go_wp2;go_ret2;exact⟨⟨_,rfl,World.ownsRow_nil _ _ _ _⟩,Ext.refl _⟩
 by_cases q:(72057594037927936:Int)<n
 .have h:r=([],1):=by rw[<-b];unfold putW;rw[if_pos (.inr q)]
  subst h;clear b;go_enter Tryz.func203,Tryz.ntmps203;go_wp2;go_ret2;exact⟨⟨_,rfl,World.ownsRow_nil _ _ _ _⟩,Ext.refl _⟩
 obtain⟨n,rfl⟩:∃k:Nat,n=k:=⟨n.toNat,by omega⟩;have h:r=(am n,0):=by rw[<-b];unfold putW;rw[if_neg (by unfold be;omega)];rfl
 subst h;have E:n<=be:=by unfold be;omega
 have i:Hid _:=E;clear b E;go_enter Tryz.func203,Tryz.ntmps203;go_wp2;go_loopw [0,4] (fun t v wr=>∃(m:Nat) (l:B8),t=.int .i64 m/\m<=n/\Hid (am n=l++am m)/\Hid (wr.ownsRow w.heap.size 5 1 v l.length (l.map fun x=>.int .u8 x.toNat))/\Hid (Ext w wr)) (fun t _ _=>(intOf t).toNat)
 case atStart=>exact⟨n,[],rfl,Nat.le_refl _,rfl,World.ownsRow_nil _ _ _ _,Ext.refl _⟩
 case round =>
  obtain⟨m,l,rfl,K,u,o,p⟩:=hrel;have F:l.length<=9:=by
   have q:=bF (n:=n) i.out;rw[u.out,List.length_append]at q;omega
  by_cases y:127<m
  .have L:=Au m (by have:=i.out;omega);have d:=Av m;obtain⟨c,z⟩:∃c,UInt8.ofNat (m%128+128)=c:=⟨_,rfl⟩;rw[z]at d;have H:Hid _:=z;have A:Hid _:=d;clear z d
   go_wp2_with (at_builtin;go_must (refine dH rfl _ _ rfl w.heap.size _ l.length _ rfl (al o.out ((Ext.refl _).alloc _)) wr.heap.size 1 1 [c] rfl rfl (fr:=(0,0)) (by show _=some (Obj.cells #[Value.int .u8 (c.toNat:Int)] _ _);rw[<-A.out];exact ab _ _) (by omega) (by have:=p.out.size;simp;omega) ?_;intro I J a g))
   go_roundw
   case rel =>
    refine⟨m / 128,l++[c],?_,by omega,?_,?_,?_⟩
    .go_num
    .unfold Hid;rw[u.out,gJ y,H.out,List.append_assoc];rfl
    .unfold Hid;simpa using a
    .exact ai (p.out.alloc _) (al o.out ((Ext.refl _).alloc _)) g
   case measure=>simp[intOf];omega
  .have j:m<=127:=by omega
   have B:(wr.alloc (.cells #[.int .u8 m] 5)).heap[wr.heap.size]? = some (.cells (List.map (fun x:UInt8=>Value.int .u8 x.toNat) [UInt8.ofNat m]).toArray 5 (0,0)):=by
    rw[ab,List.map_cons,List.map_nil,<-AS j]
   go_wp2_with (at_builtin;go_must (refine dH rfl _ _ rfl w.heap.size _ l.length _ rfl (al o.out ((Ext.refl _).alloc _)) wr.heap.size 1 1 [UInt8.ofNat m] rfl rfl B (by omega) (by have:=p.out.size;simp;omega) ?_;intro I J a g))
   go_ret2;have C:am n=l++[UInt8.ofNat m]:=by rw[u.out,dY j]
   rw[C];exact⟨⟨_,rfl,by simpa using a⟩,ai (p.out.alloc _) (al o.out ((Ext.refl _).alloc _)) g⟩
theorem jm (n:Int) (w:World) :
  Calls Tryz.prog 146 #[.int .i64 n] w fun e b=>(∃v,e=.returned v/\b.ownsRow w.heap.size 5 1 v (putW n).1.length ((putW n).1.map fun x=>.int .u8 x.toNat))/\Ext w b:=by
 have a:Hid _:=rz n w;obtain⟨⟨p,q⟩,c⟩:∃r,putW n=r:=⟨_,rfl⟩;rw[c]at a ⊢;clear c;go_enter Tryz.func146,Tryz.ntmps146;go_wp2_with fail;go_at_call 203;refine Calls.mono a.out ?_;rintro e d ⟨⟨v,rfl,g⟩,h⟩;have i:Hid (d.ownsRow w.heap.size 5 1 v p.length (p.map fun x=>.int .u8 x.toNat)):=g;have j:Hid (Ext w d):=h;clear g h a;go_wp2;go_ret;exact⟨⟨_,rfl,i.out⟩,j.out⟩
theorem m6 (l:B8) (w:World) (n:l.length<=30000000) :
  Calls Tryz.prog 147 #[S8 l] w fun e j=>(∃v,e=.returned v/\IsBytes j v (aQ l))/\Ext w j:=by
 have a:=mw l w (Nat.le_trans n (by decide));unfold aQ;unfold de at a
 cases g:aW l with
 | none =>
  rw[g]at a;have c:Hid _:=a;clear a g;go_enter Tryz.func147,Tryz.ntmps147;go_wp2_with fail;go_at_call 148;refine Calls.mono c.out ?_;rintro e h ⟨rfl,d⟩;have i:Hid (Ext w h):=d;clear d c;go_wp2;go_ret;exact⟨⟨_,rfl,IsBytes.nil _⟩,i.out⟩
 | some b =>
  rw[g]at a;have c:Hid _:=a;clear a g;go_enter Tryz.func147,Tryz.ntmps147;go_wp2_with fail;go_at_call 148;refine Calls.mono c.out ?_;rintro e h ⟨⟨v,rfl,k⟩,d⟩;have o:Hid (IsBytes h v b):=k;have i:Hid (Ext w h):=d;clear k d c;go_wp2;go_ret;exact⟨⟨_,rfl,o.out⟩,i.out⟩
end
section
open Go Go.RowKit Go.Sort
theorem uF (v:Value) (l:List Itm) (w:World) (hv:IsItms w v l) (hs:gK l) :
  Calls Tryz.prog 200 #[v] w fun e P=>e=.returned (.bool (cC l))/\Ext w P:=by
 obtain⟨a,c,rfl,l1,l2,l3,hg⟩:=hv.get;have HG:Hid _:=hg;have HS:Hid _:=hs;clear hv hg hs;go_enter Tryz.func200,Tryz.ntmps200;go_wp2;go_loopw [3] (fun i wr=>∃k:Nat,k<=l.length/\i=.int .i64 k/\Hid (itT l k=true)/\Hid (Ext w wr)) (fun i _=>l.length - (intOf i).toNat)
 case atStart=>exact⟨0,Nat.zero_le _,rfl,rfl,Ext.refl _⟩
 case round =>
  obtain⟨k,hk,rfl,HT,H⟩:=hrel
  by_cases a0:k<l.length
  .obtain ⟨x,hx⟩:∃x,l[k]? = some x:=⟨_,List.getElem?_eq_getElem a0⟩;obtain⟨bb,oo,rfl,Q,R,S⟩:=HG.out k x hx;obtain⟨a1,a2⟩:=HS.out x (List.mem_of_getElem? hx);have I:=rp hx;rw[HT.out,Bool.true_and]at I;have t:Hid _:=I;have D:Hid (∀j,k=j+1->wr.cell? ⟨bb,oo+j*3+1,none⟩=some (S8 (l.getD j iw).name)):=fun j hj=>by
    subst hj;have T:j<l.length:=by omega
    obtain⟨b2,o2,U,-,F,-⟩:=HG.out j (l.getD j iw) (by rw[List.getD_eq_getElem?_getD,List.getElem?_eq_getElem T];rfl);cases U;exact H.out.cell F
   have y0:=H.out.cell Q;have y1:=H.out.cell R;have y2:=H.out.cell S;obtain⟨h,name,id⟩:=x;dsimp only at y0 y1 y2 a1 a2;clear I hx Q R S;go_upto_region 5 with fail;obtain⟨C,E⟩:∃C,C=wr.alloc (.cells #[.int .i64 h,S8 name,S8 id] 138):=⟨_,rfl⟩;have J:Ext wr C:=by rw[E];exact(Ext.refl _).alloc _
   have L:C.heap[wr.heap.size]? = some (.cells #[.int .i64 h,S8 name,S8 id] 138 (0,0)):=by rw[E];exact ab _ _
   rw[<-E];obtain⟨gi,V⟩:∃gi,wr.heap.size=gi:=⟨_,rfl⟩;rw[V]at L ⊢;obtain⟨z0,z1,z2⟩:=bE L;have a3:Hid (Ext w C):=H.out.trans J;have a4:Hid (∀j,k=j+1->C.cell? ⟨bb,oo+j*3+1,none⟩=some (S8 (l.getD j iw).name)):=fun j hj=>J.cell (D.out j hj)
   have v0:=fun d u=>cell_regrown z0 d u
   have v1:=fun d u=>cell_regrown z1 d u
   have v2:=fun d u=>cell_regrown z2 d u
   obtain⟨nb,M⟩:∃nb,bR name=nb:=⟨_,rfl⟩;obtain⟨vb,N⟩:∃vb,av id=vb:=⟨_,rfl⟩;have W:Hid _:=M;have X:Hid _:=N;have y:Hid (∀d u,Calls Tryz.prog 155 #[S8 name] (grow (redrawn C d) u) fun e P=>e=.returned (.bool nb)/\∃q:Regrown,P=grow (redrawn C q.d) q.os):=fun d u =>
    (jt name _ (by omega)).mono (fun _ _ ⟨U,hw⟩=>⟨by rw[U,M],⟨d,u⟩,hw⟩)
   have A:Hid (∀d u,Calls Tryz.prog 87 #[S8 id] (grow (redrawn C d) u) fun e P=>e=.returned (.bool vb)/\∃q:Regrown,P=grow (redrawn C q.d) q.os):=fun d u=>Calls.regrown_of (by
    have F:=fo id (grow (redrawn C d) u) (by omega)
    rwa [N]at F)
   obtain⟨p,G⟩:∃c,itT l (k+1) = !c:=⟨!itT l (k+1),by simp⟩;have r:Hid _:=G;clear E J L V z0 z1 z2 y0 y1 y2 M N G D H;go_cut [49] (fun c wx=>c=.bool p/\Ext C wx)
   case first =>
    by_cases h1:h<1
    .have B:Hid (p=true):=jF r.out t.out (by unfold bJ;rw[decide_eq_false (by omega:¬1<=h)];rfl);refine cU (by kernel_rfl) (by kernel_rfl) ?_
     repeat (refine dy (fun K g=>?_);go_simp;first | (refine g _ ?_;clear g K) | (apply Exists.intro;refine⟨fun _=>?_,g _ ?_⟩;(first | exact y.out _ _ | exact A.out _ _);clear g K))
     refine dQ ?_;intro _ n;obtain⟨⟨O,osq⟩,b⟩:=n;subst b;go_wp2_with fail;go_meet
     case rel=>exact⟨by rw[B.out],Ext.BX _ _ _⟩
    by_cases h2:4<h
    .have B:Hid (p=true):=jF r.out t.out (by unfold bJ;rw[decide_eq_false (by omega:¬h<=4)];simp);refine cU (by kernel_rfl) (by kernel_rfl) ?_
     repeat (refine dy (fun K g=>?_);go_simp;first | (refine g _ ?_;clear g K) | (apply Exists.intro;refine⟨fun _=>?_,g _ ?_⟩;(first | exact y.out _ _ | exact A.out _ _);clear g K))
     refine dQ ?_;intro _ n;obtain⟨⟨O,osq⟩,b⟩:=n;subst b;go_wp2_with fail;go_meet
     case rel=>exact⟨by rw[B.out],Ext.BX _ _ _⟩
    cases nb with
    | false =>
     have B:Hid (p=true):=jF r.out t.out (by unfold bJ;rw[W.out];simp);refine cU (by kernel_rfl) (by kernel_rfl) ?_
     repeat (refine dy (fun K g=>?_);go_simp;first | (refine g _ ?_;clear g K) | (apply Exists.intro;refine⟨fun _=>?_,g _ ?_⟩;(first | exact y.out _ _ | exact A.out _ _);clear g K))
     refine dQ ?_;intro _ n;obtain⟨⟨O,osq⟩,b⟩:=n;subst b;go_wp2_with fail;go_meet
     case rel=>exact⟨by rw[B.out],Ext.BX _ _ _⟩
    | true =>
    cases vb with
    | false =>
     have B:Hid (p=true):=jF r.out t.out (by unfold bJ;rw[X.out];simp);refine cU (by kernel_rfl) (by kernel_rfl) ?_
     repeat (refine dy (fun K g=>?_);go_simp;first | (refine g _ ?_;clear g K) | (apply Exists.intro;refine⟨fun _=>?_,g _ ?_⟩;(first | exact y.out _ _ | exact A.out _ _);clear g K))
     refine dQ ?_;intro _ n;obtain⟨⟨O,osq⟩,b⟩:=n;subst b;go_wp2_with fail;go_meet
     case rel=>exact⟨by rw[B.out],Ext.BX _ _ _⟩
    | true =>
    have Y:Hid (bJ ⟨h,name,id⟩=true):=by unfold Hid bJ;rw[decide_eq_true (by omega:1<=h),decide_eq_true (by omega:h<=4),W.out,X.out];rfl
    by_cases Z:k=0
    .have B:Hid (p=false):=nR r.out t.out Y.out (by rw[Z];rfl);subst Z;refine cU (by kernel_rfl) (by kernel_rfl) ?_
     repeat (refine dy (fun K g=>?_);go_simp;first | (refine g _ ?_;clear g K) | (apply Exists.intro;refine⟨fun _=>?_,g _ ?_⟩;(first | exact y.out _ _ | exact A.out _ _);clear g K))
     refine dQ ?_;intro _ n;obtain⟨⟨O,osq⟩,b⟩:=n;subst b;go_wp2_with fail;go_meet
     case rel=>exact⟨by rw[B.out],Ext.BX _ _ _⟩
    .obtain ⟨j,rfl⟩:∃j,k=j+1:=⟨k - 1,by omega⟩;have a7:IntKind.i64.wrap (((j+1:Nat):Int) - 1)=(j:Int):=by rw[IntWalk.i64_in _ (by omega)];omega
     have y3:=a4.out j rfl;obtain⟨z,hz⟩:∃z,(l.getD j iw).name=z:=⟨_,rfl⟩;rw[hz]at y3;have v3:=fun d u=>cell_regrown y3 d u
     have a8:(0:Int)<((j+1:Nat):Int):=by omega
     have a6:IntKind.i64.wrap (j:Int)=(j:Int):=IntWalk.i64_in _ (by omega);have a9:(0:Int)<(j:Int)+1:=by omega
     have T:j<l.length:=by omega
     have HZ:Hid _:=hz;clear hz y3;rcases jE name z with⟨o,hb,U⟩ | ⟨o,hb⟩ | ⟨o,hb,U⟩
     .have B:Hid (p=false):=nR r.out t.out Y.out (by rw[show j+1 - 1=j from rfl,HZ.out,o];simp);clear o;refine cU (by kernel_rfl) (by kernel_rfl) ?_
      repeat (refine dy (fun K g=>?_);go_simp;first | (refine g _ ?_;clear g K) | (apply Exists.intro;refine⟨fun _=>?_,g _ ?_⟩;(first | exact y.out _ _ | exact A.out _ _);clear g K))
      refine dQ ?_;intro _ n;obtain⟨⟨O,osq⟩,b⟩:=n;subst b;go_wp2_with fail;go_meet
      case rel=>exact⟨by rw[B.out],Ext.BX _ _ _⟩
     iterate 2
      .have B:Hid (p=true):=wt r.out t.out (by rw[show j+1 - 1=j from rfl,HZ.out,o];simp);clear o;refine cU (by kernel_rfl) (by kernel_rfl) ?_
       repeat (refine dy (fun K g=>?_);go_simp;first | (refine g _ ?_;clear g K) | (apply Exists.intro;refine⟨fun _=>?_,g _ ?_⟩;(first | exact y.out _ _ | exact A.out _ _);clear g K))
       refine dQ ?_;intro _ n;obtain⟨⟨O,osq⟩,b⟩:=n;subst b;go_wp2_with fail;go_meet
       case rel=>exact⟨by rw[B.out],Ext.BX _ _ _⟩
   case rest =>
    obtain⟨rfl,ad⟩:=hcut;have au:Hid (Ext w wc):=a3.out.trans ad;clear ad
    cases p with
    | true =>
     have HF:Hid (cC l=false):=tH (k:=k+1) (by rw[r.out];rfl);go_wp2;go_ret;exact⟨an HF.out.symm,au.out⟩
    | false =>
     have HP:Hid (itT l (k+1)=true):=by unfold Hid;rw[r.out];rfl
     go_wp2;go_roundw
     case rel=>exact⟨k+1,by omega,by go_num,HP,au⟩
     case measure=>simp[intOf];omega
  .have a5:k=l.length:=by omega
   have HF:Hid (cC l=decide (l.length<=256)):=by
    have F:=HT.out;unfold itT at F;rw[a5,List.take_length,Bool.and_eq_true]at F;unfold Hid cC;rw[F.1,F.2,Bool.true_and,Bool.true_and]
   clear hk;go_wp2;go_ret;refine⟨an ?_,H.out⟩;rw[HF.out];exact decide_eq_decide.2 (by omega)
end
section
open Go Go.RowKit
def leT (a b:B8):Bool:=!ltB b a
theorem wM (a b c:B8) (h:leT a b=true) (d:leT b c=true):leT a c=true:=by
 unfold leT at *
 cases i:ltB c a with
 | false=>rfl
 | true =>
  exfalso;simp only[Bool.not_eq_true']at h d
  by_cases g:a=b
  .subst g;rw[i]at d;cases d
  .have j:=fS h (fun e=>g e.symm);have k:=fR i j;rw[k]at d;cases d
theorem wN (a b:B8):(leT a b || leT b a)=true:=by
 unfold leT
 cases c:ltB b a with
 | false=>rfl
 | true =>
  cases d:ltB a b with
  | false=>rfl
  | true =>
   have:=fR c d;have:=gX this;exact(this rfl).elim
theorem rA {a b:B8} (d:leT a b=true) (c:leT b a=true):a=b:=by
 unfold leT at d c;simp only[Bool.not_eq_true']at d c
 by_cases h:a=b
 .exact h
 .have:=fS d (fun e=>h e.symm);rw[this]at c;cases c
def upL (l:List B8):Prop:=l.Pairwise fun a b=>leT a b=true
def uG (l:List B8):List B8:=l.mergeSort leT
theorem nU (l:List B8):(uG l).Perm l:=List.mergeSort_perm l leT
theorem yY (l:List B8):upL (uG l):=List.pairwise_mergeSort wM wN l
def iK:List B8->List B8
 | a::b::l=>if a=b then iK (b::l)else a::iK (b::l)
 | l=>l
theorem lM:∀(l:List B8) (x:B8),x∈iK l↔x∈l
 | [],x=>Iff.rfl
 | [a],x=>Iff.rfl
 | a::b::l,x=>by
  have c:=lM (b::l) x;unfold iK;split
  .rename_i h;subst h;rw[c];simp
  .rw [List.mem_cons,c,List.mem_cons (a:=x) (b:=a)]
def cQ (l:List B8):Prop:=l.Pairwise fun a b=>ltB a b=true
theorem nV:∀ {l:List B8},upL l->cQ (iK l)
 | [],_=>List.Pairwise.nil
 | [a],_=>List.pairwise_singleton _ _
 | a::b::l,h=>by
  have j:=List.pairwise_cons.1 h;have k:=nV j.2;unfold iK;split
  .exact k
  .rename_i c;refine List.pairwise_cons.2 ⟨fun x n=>?_,k⟩;have d:=(lM _ _).1 n;have g:=j.1 x d
   by_cases i:a=x
   .subst i;exfalso;rcases List.mem_cons.1 d with e | o
    .exact c e
    .exact c (rA (j.1 b (by simp)) ((List.pairwise_cons.1 j.2).1 a o))
   .unfold leT at g;exact fS (by simpa using g) (fun e=>i e.symm)
def cJ (l:List B8):List B8:=iK (uG l)
variable {l:List B8}
theorem jH {x:B8}:x∈cJ l↔x∈l:=(lM _ _).trans (nU l).mem_iff
theorem iL (l:List B8):cQ (cJ l):=nV (yY l)
theorem rB:∀ {a b:List B8},cQ a->cQ b->(∀x,x∈a↔x∈b)->a=b
 | [],[],_,_,_=>rfl
 | [],y::b,_,_,h=>by have:=(h y).2 (by simp);cases this
 | x::a,[],_,_,h=>by have:=(h x).1 (by simp);cases this
 | x::a,y::b,q,r,h=>by
  have c:=List.pairwise_cons.1 q;have d:=List.pairwise_cons.1 r;have l:∀ {u v:B8},ltB u v=true->ltB v u=true->False:=fun g i=>gX (fR g i) rfl
  have n:x=y:=by
   rcases List.mem_cons.1 ((h x).1 (by simp))with g | g
   .exact g
   .rcases List.mem_cons.1 ((h y).2 (by simp))with i | i
    .exact i.symm
    .exact (l (c.1 _ i) (d.1 _ g)).elim
  subst n;rw[rB c.2 d.2 (fun z=>by
   have o:=h z;simp only[List.mem_cons]at o;constructor
   .intro j;rcases o.1 (.inr j)with e | p
    .subst e;exact(gX (c.1 _ j) rfl).elim
    .exact p
   .intro k;rcases o.2 (.inr k)with e | p
    .subst e;exact(gX (d.1 _ k) rfl).elim
    .exact p)]
theorem m7 {r:List B8} (a:cQ r) (b:∀x,x∈r↔x∈l):r=cJ l:=rB a (iL l) (fun x=>(b x).trans jH.symm)
theorem rC (h:cQ l):cJ l=l:=(m7 h (fun _=>Iff.rfl)).symm
theorem pM:∀(l:List B8),(iK l).length<=l.length
 | []=>Nat.le_refl _
 | [a]=>Nat.le_refl _
 | a::b::l=>by
  have c:=pM (b::l);unfold iK;split
  iterate 2
   .simp at c ⊢;omega
theorem wO (l:List B8):(cJ l).length<=l.length:=Nat.le_trans (pM _) (Nat.le_of_eq (nU l).length_eq)
end
section
open Go Go.RowKit
variable {l:List B8} {x:B8} {k:Nat}
theorem oN (h:cQ l) (g:∀y∈l.take k,ltB y x=true) (i:∀y∈l.drop k,ltB x y=true):cQ (l.take k++x::l.drop k):=by
 refine List.pairwise_append.2 ⟨List.Pairwise.sublist (List.take_sublist _ _) h,List.pairwise_cons.2 ⟨i,List.Pairwise.sublist (List.drop_sublist _ _) h⟩,fun a d b c=>?_⟩;rcases List.mem_cons.1 c with rfl | c
 .exact g a d
 .have e:=h;rw[<-List.take_append_drop k l]at e;exact(List.pairwise_append.1 e).2.2 a d b c
variable {i:Nat}
theorem qf (b:l[i]? = some x) (c:∀y∈(cJ (l.take i)).take k,ltB y x=true) (d:∀y∈(cJ (l.take i)).drop k,ltB x y=true) :
  cJ (l.take (i+1))=(cJ (l.take i)).take k++x::(cJ (l.take i)).drop k:=by
 symm;refine m7 (oN (iL _) c d) (fun z=>?_);have e:l.take (i+1)=l.take i++[x]:=by rw[List.take_add_one,b];rfl
 rw[e];have a:z∈cJ (l.take i)↔z∈l.take i:=jH;rw[<-List.take_append_drop k (cJ (l.take i)),List.mem_append]at a;simp only[List.mem_append,List.mem_cons,List.not_mem_nil,or_false];rw[<-a];constructor
 .rintro (h | h | h) <;> simp[h]
 .rintro ((h | h) | h) <;> simp[h]
theorem qg (a:l[i]? = some x) (h:x∈cJ (l.take i)):cJ (l.take (i+1))=cJ (l.take i):=by
 symm;refine m7 (iL _) (fun z=>?_);have e:l.take (i+1)=l.take i++[x]:=by rw[List.take_add_one,a];rfl
 rw[e,jH];simp only[List.mem_append,List.mem_singleton];constructor
 .exact fun h=>.inl h
 .rintro (b | rfl)
  .exact b
  .exact jH.1 h
end
section
open Go Go.RowKit
end
section
open Go Go.RowKit
end
section
open Go Go.RowKit
end
section
open Go Go.RowKit
variable {a b:B8}
theorem lN {c:B8} (d:ltB a b=true) (e:ltB b c=true):ltB a c=true:=by
 unfold ltB at d e ⊢;rw[decide_eq_true_eq]at d e ⊢;exact List.lt_trans d e
theorem A8 (c:ltB a b=false) (d:a≠b):ltB b a=true:=by
 cases e:ltB b a with
 | true=>rfl
 | false=>exact(d (rA (by unfold leT;rw[e];rfl) (by unfold leT;rw[c];rfl))).elim
end
section
open Go Go.RowKit
end
section
open Go Go.RowKit
variable {U:List B8} {j:Nat}
theorem oO (h:cQ U) {i:Nat} {x y:B8} (b:U[i]? = some x) (c:U[j]? = some y) (a:i<j):ltB x y=true:=by
 obtain⟨d,rfl⟩:=List.getElem?_eq_some_iff.1 b;obtain⟨e,rfl⟩:=List.getElem?_eq_some_iff.1 c;exact List.pairwise_iff_getElem.1 h i j d e a
variable {k:Nat} {s:B8}
theorem pN (h:cQ U) (d:k=0\/∃p,U[k - 1]? = some p/\ltB p s=true):∀y∈U.take k,ltB y s=true:=by
 intro y g;obtain⟨j,i,rfl⟩:=List.mem_iff_getElem.1 g;rw[List.length_take]at i;rw[List.getElem_take];rcases d with d | ⟨p,e,b⟩
 .omega
 .have a:U[j]? = some U[j]:=List.getElem?_eq_getElem (by omega)
  by_cases c:j=k - 1
  .subst c;rw[e]at a;rw[<-Option.some.inj a];exact b
  .exact lN (oO h a e (by omega)) b
theorem wP {p:B8} (c:U[j]? = some p) (a:ltB p s=false) (h:∀y∈U.drop (j+1),ltB y s=false):∀y∈U.drop j,ltB y s=false:=by
 obtain⟨d,rfl⟩:=List.getElem?_eq_some_iff.1 c;rw[List.drop_eq_getElem_cons d];intro y b;rcases List.mem_cons.1 b with rfl | b
 .exact a
 .exact h y b
theorem uH (e:cQ U) (h:∀y∈U.drop k,ltB y s=false) (g:∀q,U[k]? = some q->q≠s):∀y∈U.drop k,ltB s y=true:=by
 intro y i;obtain⟨j,l,rfl⟩:=List.mem_iff_getElem.1 i;rw[List.length_drop]at l;have a:k<U.length:=by omega
 have c:U[k]? = some U[k]:=List.getElem?_eq_getElem a;have d:ltB s U[k]=true:=A8 (h _ (by rw[List.drop_eq_getElem_cons a];exact List.mem_cons_self)) (g _ c);rw[List.getElem_drop]
 by_cases b:j=0
 .subst b;exact d
 .exact lN d (oO e c (List.getElem?_eq_getElem (by omega)) (by omega))
end
section
open Go Go.RowKit Go.Sort
end
section
open Go Go.RowKit Go.Sort
end
end Go.Proofs.YtfabjgfmiaammaaGreatDoor
