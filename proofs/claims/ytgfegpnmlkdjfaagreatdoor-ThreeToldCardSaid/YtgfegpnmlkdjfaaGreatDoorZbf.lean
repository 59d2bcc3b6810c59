/- Contracts of the program's functions and plain laws behind the card. Conditions: as each theorem states. -/
import Derived.Test.YtgfegpnmlkdjfaaGreatDoorZbe
import Derived.Test.YtgfegpnmlkdjfaaGreatDoorZaz
import Derived.Laws.ResultCell
import Derived.Test.YtgfegpnmlkdjfaaGreatDoorZak
import Derived.Test.YtgfegpnmlkdjfaaGreatDoorZaj
import Derived.Test.YtgfegpnmlkdjfaaGreatDoorZai
import Derived.Test.YtgfegpnmlkdjfaaGreatDoorCards
import Derived.Test.YtgfegpnmlkdjfaaGreatDoorTie
import Derived.OpenShut
import Derived.LaidMore
import Derived.Lay
import Derived.Deep.DeepHandedRow
import Derived.Lib.LaidTab
import Derived.Stop.LaidErr
import Derived.ProofKit
import Derived.SizedLaws
import Derived.Deep.Slices
import Derived.Deep.Fields
import Derived.ChangeSame
set_option linter.unusedVariables false
set_option linter.unusedSimpArgs false
set_option linter.unusedSectionVars false
set_option maxRecDepth 100000
set_option maxHeartbeats 64000000
namespace Go.Proofs.YtgfegpnmlkdjfaaGreatDoor
section
open Go Go.RowKit
theorem kP (w:World):IsObT w (obV ob0 (.slice none 0 0) (.slice none 0 0) (.slice none 0 0)) ob0:=⟨_,_,_,rfl,Row.nil _,Row.nil _,Row.nil _,TypB.nil _ _ _,Typed.nil _ _ _ _,Typed.nil _ _ _ _⟩
theorem rM (s:Src) (n:Nat):(bG s n).2.length<=s.b.length:=by
 unfold bG;split
 .simp
 .simp only[List.length_take];omega
theorem AP (l:B8):(dt l).length=2*l.length:=by
 unfold dt
 induction l with
 | nil=>rfl
 | cons x l a=>rw[List.flatMap_cons,List.length_append,a,List.length_cons];simp only[List.length_cons,List.length_nil];omega
theorem l5 (s:Src):(bA s).2.length<=64:=by
 unfold bA;dsimp only;rw[AP];unfold bG;split
 .simp
 .simp only[List.length_take];omega
theorem vM (s:Src):(cz s).1.b.length<=s.b.length:=iM _ _
theorem uG {s:Src} {B:Nat} (h:s.b.length<=B) (j:64<=B):(j9 false s).1.b.length<=B/\(j9 false s).2.name.length<=B/\(j9 false s).2.id.length<=B:=by
 have a:=vM s;have c:=gu false (cz s).1;have d:=iM (bl false (cz s).1).1 (bl false (cz s).1).2;have e:=rM (bl false (cz s).1).1 (bl false (cz s).1).2;have g:=j8 (bG (bl false (cz s).1).1 (bl false (cz s).1).2).1;have i:=l5 (bG (bl false (cz s).1).1 (bl false (cz s).1).2).1;unfold j9;dsimp only;refine⟨by omega,by omega,by omega⟩
theorem l7 {B:Nat} (b:64<=B):∀(n:Nat) (s:Src) (l:List Itm),s.b.length<=B->(∀x∈l,x.name.length<=B/\x.id.length<=B)->∀x∈(fA false n s l).2,x.name.length<=B/\x.id.length<=B
 | 0,s,l,_,h=>h
 | n+1,s,l,g,h=>by
  unfold fA;split
  .exact h
  .obtain ⟨c,d,e⟩:=uG g b;refine l7 b n _ _ c (fun x a=>?_);rcases List.mem_append.1 a with a | a
   .exact h x a
   .rw [List.mem_singleton.1 a];exact⟨d,e⟩
theorem nO:∀(n:Nat) (s:Src) (l:List B8),(∀x∈l,x.length<=64)->(fY n s l).1.b.length<=s.b.length/\∀x∈(fY n s l).2,x.length<=64
 | 0,s,l,h=>⟨Nat.le_refl _,h⟩
 | n+1,s,l,h=>by
  unfold fY;split
  .exact ⟨Nat.le_refl _,h⟩
  .obtain ⟨c,d⟩:=nO n (bA s).1 (l++[(bA s).2]) (fun x a=>by
    rcases List.mem_append.1 a with a | a
    .exact h x a
    .rw [List.mem_singleton.1 a];exact l5 s)
   exact⟨Nat.le_trans c (j8 s),d⟩
theorem wU (b:Int) (a:B8) (x:Src×List B8) (p:x.1.b.length<=10000000) (h:∀y∈x.2,y.length<=64) (i:a.length<=10000000):kD (wT false b a x).2:=by
 unfold wT;have c:=gu false x.1;obtain⟨A,j⟩:∃q,bl false x.1=q:=⟨_,rfl⟩;rw[j]at c ⊢;have d:=gu false A.1;obtain⟨C,k⟩:∃q,bl false A.1=q:=⟨_,rfl⟩;rw[k]at d ⊢;have e:=gu false C.1;obtain⟨D,l⟩:∃q,bl false C.1=q:=⟨_,rfl⟩;rw[l]at e ⊢;have g:=rM D.1 D.2;obtain⟨F,hF⟩:∃q,bG D.1 D.2=q:=⟨_,rfl⟩;rw[hF]at g ⊢;exact⟨fun x n=>(by cases n),fun y o=>(by have:=h y o;omega),i,by show F.2.length<=10000000;omega⟩
theorem xG (c:Int) (b:B8) (i:b.length<=10000000):kD (eP false c b).2:=by
 unfold eP;split
 .exact ⟨fun x a=>(by cases a),fun x a=>(by cases a),by simp,by simp⟩
 .split
  .refine ⟨fun x a=>?_,fun x a=>(by cases a),by simp,by simp⟩;have d:=gu false ⟨b,false⟩;exact l7 (by omega) _ _ [] (by dsimp only at d;omega) (fun x a=>by cases a) x a
  .split
   .have d:=j8 ⟨b,false⟩;have e:=vM (bA ⟨b,false⟩).1;obtain⟨g,h⟩:=nO (cz (bA ⟨b,false⟩).1).2 (cz (bA ⟨b,false⟩).1).1 [] (fun x a=>by cases a);have j:=l5 ⟨b,false⟩;exact wU _ _ _ (Nat.le_trans g (Nat.le_trans e (Nat.le_trans d i))) h (by omega)
   .exact ⟨fun x a=>(by cases a),fun x a=>(by cases a),by simp,by simp⟩
theorem cJ {P:Program} {c:Func} {p u:Tmp} {b:TypeId} (h:c.results=#[.cell p b,.tmp u]) (a:Array Value) (w:World) (g:Nat) (t:TypeId) (cs:Array Value) (fr:Nat×Nat) (d:TypeDesc)
  (k:a.getD p undef=.pointer (some ⟨g,0,none⟩)) (i:w.heap[g]? = some (.cells cs t fr))
  (l:P.underlying b=some d) (e:(match d with | .struct _ | .array _ _=>true | _=>false)=true) (j:(P.info? b).map (·.size)=some cs.size) :
  (results c a).run P w=.ok (.tuple #[.agg cs,a.getD u undef]) w:=by
 rw[results_cell_tmp h,k];simp[asAddr,run_loadVar_row w g t b cs fr d i l e j]
theorem Ba (v:Value) (b:B8) (w:World) (hv:IsBytes w v b) (hl:b.length<=10000000) :
  Calls Tryz.prog 117 #[v] w fun e J=>(∃u,e=.returned (.tuple #[u,.int .i64 (gD b).2])/\IsObT J u (gD b).1)/\Ext w J:=by
 have HV:Hid (IsBytes w v b):=hv;obtain⟨a,c,rfl,l1,l2,l3,hg⟩:=hv.get;obtain⟨⟨l,e9⟩,x⟩:∃q,gD b=q:=⟨_,rfl⟩;rw[x];have HQ:Hid _:=x;have bh:Hid _:=hg;clear hv hg x;go_enter Tryz.func117,Tryz.ntmps117;go_upto_region 1 with fail;obtain⟨w3,U⟩:∃w3,w3=w.alloc (.cells (obC 0 (.slice none 0 0) (.slice none 0 0) [] (.slice none 0 0) 0 0 []) 141):=⟨_,rfl⟩;have R2:Hid (w3.heap[w.heap.size]? = some (.cells (obC 0 (.slice none 0 0) (.slice none 0 0) [] (.slice none 0 0) 0 0 []) 141 (0,0))):=by unfold Hid;rw[U];exact ah _ _
 have H:Hid (Ext w w3):=by unfold Hid;rw[U];exact(Ext.refl _).alloc _
 have bp:w3.heap.size=w.heap.size+1:=by rw[U];exact kS _ _
 unfold obC at U;rw[<-U];obtain⟨P,a0⟩:∃g,w.heap.size=g:=⟨_,rfl⟩;have N:Hid _:=a0;rw[a0]at R2 bp ⊢;clear U a0
 cases b with
 | nil =>
  obtain⟨rfl,rfl⟩:ob0=l/\2=e9:=by
   have j:=HQ.out;exact⟨(Prod.mk.inj j).1,(Prod.mk.inj j).2⟩
  have i:=R2.out;have bq:Ext w (w3.setRow P (obC 0 (.slice none 0 0) (.slice none 0 0) [] (.slice none 0 0) 0 0 [])):=Ext.but H.out (aw _ _ _) (Nat.le_of_eq N.out)
  go_wp2_with (refine wpList_store_row rfl 141 (.tmp 2) (.tmp 10) rfl P (obC 0 (.slice none 0 0) (.slice none 0 0) [] (.slice none 0 0) 0 0 []) rfl rfl 141 _ i ch rfl (by simp[Value.oneCell']) ?_)
  refine bodyPost_ret (cJ rfl _ _ P 141 (obC 0 (.slice none 0 0) (.slice none 0 0) [] (.slice none 0 0) 0 0 []) (0,0) _ rfl (setRow_heap _ _ _ _ _ _ i) Tryz.underlying141 rfl ch) rfl ?_;exact⟨⟨_,rfl,kP _⟩,bq⟩
 | cons k r =>
  obtain⟨bb,oo,rfl,hc⟩:=bh.out 0 (by simp);have y0:w.cell? ⟨bb,oo,none⟩=some (.int .u8 k.toNat):=hc 0 (by simp);have z0:=H.out.cell y0;have bv:bb<w.heap.size:=World.block_lt_of_cell? _ _ y0;have ba:r.length<=10000000:=by simp at hl;omega
  obtain⟨d,D⟩:∃o,(eP false k.toNat r).2=o:=⟨_,rfl⟩;have a5:Hid (kD d):=by rw[<-D];exact xG _ r ba
  have S:Hid ((l,e9)=if ew d=true/\k9 d=k::r then(d,0)else(ob0,4)):=by
   unfold Hid;rw[<-HQ.out,lQ,D]
  have a4:Hid (∀J ag c',Ext w J->IsBytes J (.slice (some ⟨bb,ag,none⟩) r.length c') r->Calls Tryz.prog 138 #[.int .i64 k.toNat,.slice (some ⟨bb,ag,none⟩) r.length c'] J fun e bc=>(∃u,e=.returned u/\IsObT bc u d)/\Ext J bc):=fun J ag c' hx hb=>by
   have j:=zn k.toNat bb ag c' r J hb (by have:=hx.size;omega) ba
   rwa [D]at j
  have a6:Hid (IntKind.i64.wrap (k.toNat:Int)=(k.toNat:Int)):=IntWalk.i64_in _ (by have:=k.toNat_lt;omega);have bs:(1:Int)<=(r.length:Int)+1:=by omega
  have b1:r.length+1<=c:=by simpa using l1
  clear D hc HQ;have a':(k::r).length=r.length+1:=rfl;go_wp2_with fail;rw[a'];clear a'
  by_cases a7:c=1
  .subst a7;have bm:r=[]:=List.eq_nil_of_length_eq_zero (by omega);subst bm;have ao:Hid (IsBytes w (.slice (some ⟨bb,oo,none⟩) 0 0) []):=⟨_,0,rfl,Nat.le_refl _,by omega,by simp,fun h=>absurd rfl h⟩;apply ak 8 [_,_,_,.int .i64 k.toNat,_,.slice (some ⟨bb,oo,none⟩) 0 0,undef,undef] [none,none,none,none,none,none,some (fun u J=>IsObT J u d),some (fun u J=>∃g,u=.pointer (some ⟨g,0,none⟩)/\J.heap[g]? = some (.cells (obC 0 (.slice none 0 0) (.slice none 0 0) [] (.slice none 0 0) 0 0 []) 141 (0,0))/\w3.heap.size<=g)] [[],[0],[1],[2],[],[4],[3,5],[]] (by kernel_rfl) (by kernel_rfl) (by simp[aq])
   .refine ⟨?_,?_,trivial⟩
    .exact fun _ _ _ he T=>IsObT.ext T he
    .exact fun _ _ _ he ⟨g,h1,h2,h3⟩=>⟨g,h1,Ext.row he h2,h3⟩
   .simp (maxSteps:=1000000)only[List.take_succ_cons,List.take_zero,ay,aB,af,Act.put,List.setIfInBounds_toArray,List.set_cons_zero,List.set_cons_succ,aE,aH,aq,List.getD_cons_zero,List.getD_cons_succ,and_true,true_and,forall_const];and_intros
    iterate 3 · intro Q wq x;intros;rename_i F;have f0:=x.cell z0;go_simp;exact F _ _ (Ext.refl _) rfl
    .intro Q wq x I R F;go_simp;exact F _ _ (Ext.refl _) (congrArg (Value.int .i64) a6.out)
    iterate 2 · intro Q wq x;intros;rename_i F;have f0:=x.cell z0;go_simp;exact F _ _ (Ext.refl _) rfl
    .intro Q wq x I R F;obtain⟨bi,bk⟩:=I;go_simp;exact(a4.out wq oo 0 (H.out.trans x) (IsBytes.ext ao.out (H.out.trans x))).mono (by rintro e' w4 ⟨⟨u,rfl,T⟩,hx⟩;exact⟨_,rfl,F _ _ hx T⟩)
    .intro Q wq x R F;go_simp;exact F _ _ ((Ext.refl _).alloc _) ⟨_,rfl,ah _ _,x.size⟩
   intro Q w4 ad I;simp only[aG,Nat.zero_add,Nat.reduceAdd,and_true]at I;have q6:=I.2.2.2.2.2.2.1;have q7:=I.2.2.2.2.2.2.2;simp(maxSteps:=1000000)only[List.take_succ_cons,List.take_zero,List.drop_succ_cons,List.drop_zero,af,Act.put,List.setIfInBounds_toArray,List.set_cons_zero,List.set_cons_succ,Nat.zero_add,Nat.reduceAdd,I];clear I;generalize Q 6=x6 at *;generalize Q 7=x7 at *;obtain⟨X,rfl,r4,a1⟩:=q7;have D:=q6;obtain⟨A,B,C,rfl,-⟩:=q6;have bo:=ad.size;have K:Hid (IsObT (w4.setRow X (obC d.kind A B d.tree C d.GZ d.GY d.msg)) (obV d A B C) d):=D.put (aw _ _ _) r4;have a2:A.oneCell'=true/\B.oneCell'=true/\C.oneCell'=true:=by
    obtain⟨_,_,_,e,⟨_,_,e1,-⟩,⟨_,_,e2,-⟩,⟨_,_,e3,-⟩,-⟩:=D;simp only[obV,Value.agg.injEq,Array.mk.injEq,List.cons.injEq,and_true,true_and]at e;obtain⟨rfl,rfl,rfl⟩:=e;rw[e1,e2,e3];exact⟨rfl,rfl,rfl⟩
   obtain⟨o1,o2,o3⟩:=a2;obtain⟨w5,y⟩:∃w5,w5=w4.setRow X (obC d.kind A B d.tree C d.GZ d.GY d.msg):=⟨_,rfl⟩;have R4:Hid (w5.heap[X]? = some (.cells (obC d.kind A B d.tree C d.GZ d.GY d.msg) 141 (0,0))):=by unfold Hid;rw[y];exact setRow_heap w4 X _ (obC d.kind A B d.tree C d.GZ d.GY d.msg) _ _ r4
   have W:Hid (Ext w3 w5):=by unfold Hid;rw[y];exact Ext.but ad (aw _ _ _) a1
   rw[<-y]at K;go_upto_region 4 with(refine wpList_store_row rfl 141 (.tmp 4) (.tmp 17) rfl X (obC d.kind A B d.tree C d.GZ d.GY d.msg) rfl rfl 141 _ r4 ch rfl (by simp[o1,o2,o3];simp[Value.oneCell']) ?_);rw[<-y];clear y;have L:Hid _:=oD (obV d A B C) d w5 K.out.ob a5.out;obtain⟨⟨p,er⟩,G⟩:∃q,bz d=q:=⟨_,rfl⟩;rw[G]at L;have a3:p.length<=140737488355328:=by have:=ti d;rw[G]at this;exact this
   have V:Hid _:=G;obtain⟨d0,d1,d2,d3,d4,d5,d6,d7⟩:=bt R4.out;clear G;go_wp2_with fail;go_at_call 92;refine Calls.mono L.out ?_;rintro e6 w6 ⟨⟨u,rfl,T⟩,z⟩;have HU:Hid (IsBytes w6 u p):=by unfold Hid IsBytes;exact Row.GW T a3
   have E:Hid (Ext w w6):=H.out.trans (W.out.trans z);have i:=Ext.row z (W.out.row R2.out);have am:Hid _:=Ext.row z R4.out;have ai:Hid (IsObT w6 (obV d A B C) d):=K.out.ext z;clear T z L d0 d1 d2 d3 d4 d5 d6 d7
   try dsimp only
   by_cases n:er=0
   case neg =>
    have Z:(er==0)=false:=by simpa using n
    have a9:(er != 0)=true:=by simpa using n
    obtain⟨rfl,rfl⟩:l=ob0/\e9=4:=by
     have j:=S.out;rw[if_neg (fun h=>n (by have t:=V.out;unfold bz at t;rw[if_pos h.1]at t;exact(Prod.mk.inj t).2.symm))]at j;exact⟨(Prod.mk.inj j).1,(Prod.mk.inj j).2⟩
    clear n
    go_wp2_with (refine wpList_store_row rfl 141 (.tmp 2) (.tmp 31) rfl P (obC 0 (.slice none 0 0) (.slice none 0 0) [] (.slice none 0 0) 0 0 []) rfl rfl 141 _ i ch rfl (by simp[Value.oneCell']) ?_)
    refine bodyPost_ret (cJ rfl _ _ P 141 (obC 0 (.slice none 0 0) (.slice none 0 0) [] (.slice none 0 0) 0 0 []) (0,0) _ rfl (setRow_heap _ _ _ _ _ _ i) Tryz.underlying141 rfl ch) rfl ?_;exact⟨⟨_,rfl,kP _⟩,Ext.but E.out (aw _ _ _) (Nat.le_of_eq N.out)⟩
   have Z:(er==0)=true:=by simpa using n
   subst n;have aa:ew d=true/\p=k9 d:=by
    have t:=V.out;unfold bz at t;split at t
    .rename_i hm;exact⟨hm,(Prod.mk.inj t).1.symm⟩
    .have:=(Prod.mk.inj t).2;cases this
   obtain⟨eq,Y⟩:∃e,(p==[k])=e:=⟨_,rfl⟩;have M:Hid _:=Y;have O:Hid _:=aa;have au:Hid _:=IsBytes.ext HV.out E.out;clear Y aa;go_wp2_with fail;go_at_call 139;refine(kE _ _ _ _ _ HU.out au.out).mono ?_;rw[M.out];rintro e7 w7 ⟨rfl,ab⟩;rw[ab];clear ab
   cases eq with
   | false =>
    obtain⟨rfl,rfl⟩:l=ob0/\e9=4:=by
     have j:=S.out;rw[if_neg (fun h=>by have t:=M.out;rw[O.out.2,h.2]at t;simp at t)]at j;exact⟨(Prod.mk.inj j).1,(Prod.mk.inj j).2⟩
    go_wp2_with (refine wpList_store_row rfl 141 (.tmp 2) (.tmp 31) rfl P (obC 0 (.slice none 0 0) (.slice none 0 0) [] (.slice none 0 0) 0 0 []) rfl rfl 141 _ i ch rfl (by simp[Value.oneCell']) ?_)
    refine bodyPost_ret (cJ rfl _ _ P 141 (obC 0 (.slice none 0 0) (.slice none 0 0) [] (.slice none 0 0) 0 0 []) (0,0) _ rfl (setRow_heap _ _ _ _ _ _ i) Tryz.underlying141 rfl ch) rfl ?_;exact⟨⟨_,rfl,kP _⟩,Ext.but E.out (aw _ _ _) (Nat.le_of_eq N.out)⟩
   | true =>
    obtain⟨rfl,rfl⟩:l=d/\e9=0:=by
     have j:=S.out;rw[if_pos ⟨O.out.1,by rw[<-O.out.2];simpa using M.out⟩]at j;exact⟨(Prod.mk.inj j).1,(Prod.mk.inj j).2⟩
    have av:=am.out;obtain⟨d0,d1,d2,d3,d4,d5,d6,d7⟩:=bt av
    go_wp2_with (refine wpList_store_row rfl 141 (.tmp 2) (.tmp 32) rfl P (obC l.kind A B l.tree C l.GZ l.GY l.msg) rfl rfl 141 _ i ch rfl (by simp[o1,o2,o3];simp[Value.oneCell']) ?_)
    refine bodyPost_ret (cJ rfl _ _ P 141 (obC l.kind A B l.tree C l.GZ l.GY l.msg) (0,0) _ rfl (setRow_heap _ _ _ _ _ _ i) Tryz.underlying141 rfl ch) rfl ?_;exact⟨⟨_,rfl,IsObT.put ai.out (aw _ _ _) i⟩,Ext.but E.out (aw _ _ _) (Nat.le_of_eq N.out)⟩
  .have b0:¬c=1:=a7;have ao:Hid (IsBytes w (.slice (some ⟨bb,oo+1,none⟩) r.length (c - 1)) r):=IsBytes.from 1 HV.out (by simp) ⟨bb,oo+1,none⟩ (fun _=>rfl);apply ak 8 [_,_,_,.int .i64 k.toNat,_,.slice (some ⟨bb,oo+1,none⟩) r.length (c - 1),undef,undef] [none,none,none,none,none,none,some (fun u J=>IsObT J u d),some (fun u J=>∃g,u=.pointer (some ⟨g,0,none⟩)/\J.heap[g]? = some (.cells (obC 0 (.slice none 0 0) (.slice none 0 0) [] (.slice none 0 0) 0 0 []) 141 (0,0))/\w3.heap.size<=g)] [[],[0],[1],[2],[],[4],[3,5],[]] (by kernel_rfl) (by kernel_rfl) (by simp[aq])
   .refine ⟨?_,?_,trivial⟩
    .exact fun _ _ _ he T=>IsObT.ext T he
    .exact fun _ _ _ he ⟨g,h1,h2,h3⟩=>⟨g,h1,Ext.row he h2,h3⟩
   .simp (maxSteps:=1000000)only[List.take_succ_cons,List.take_zero,ay,aB,af,Act.put,List.setIfInBounds_toArray,List.set_cons_zero,List.set_cons_succ,aE,aH,aq,List.getD_cons_zero,List.getD_cons_succ,and_true,true_and,forall_const];and_intros
    iterate 3 · intro Q wq x;intros;rename_i F;have f0:=x.cell z0;go_simp;exact F _ _ (Ext.refl _) rfl
    .intro Q wq x I R F;go_simp;exact F _ _ (Ext.refl _) (congrArg (Value.int .i64) a6.out)
    iterate 2 · intro Q wq x;intros;rename_i F;have f0:=x.cell z0;go_simp;exact F _ _ (Ext.refl _) rfl
    .intro Q wq x I R F;obtain⟨bi,bk⟩:=I;go_simp;exact(a4.out wq (oo+1) (c - 1) (H.out.trans x) (IsBytes.ext ao.out (H.out.trans x))).mono (by rintro e' w4 ⟨⟨u,rfl,T⟩,hx⟩;exact⟨_,rfl,F _ _ hx T⟩)
    .intro Q wq x R F;go_simp;exact F _ _ ((Ext.refl _).alloc _) ⟨_,rfl,ah _ _,x.size⟩
   intro Q w4 ad I;simp only[aG,Nat.zero_add,Nat.reduceAdd,and_true]at I;have q6:=I.2.2.2.2.2.2.1;have q7:=I.2.2.2.2.2.2.2;simp(maxSteps:=1000000)only[List.take_succ_cons,List.take_zero,List.drop_succ_cons,List.drop_zero,af,Act.put,List.setIfInBounds_toArray,List.set_cons_zero,List.set_cons_succ,Nat.zero_add,Nat.reduceAdd,I];clear I;generalize Q 6=x6 at *;generalize Q 7=x7 at *;obtain⟨X,rfl,r4,a1⟩:=q7;have D:=q6;obtain⟨A,B,C,rfl,-⟩:=q6;have bo:=ad.size;have K:Hid (IsObT (w4.setRow X (obC d.kind A B d.tree C d.GZ d.GY d.msg)) (obV d A B C) d):=D.put (aw _ _ _) r4;have a2:A.oneCell'=true/\B.oneCell'=true/\C.oneCell'=true:=by
    obtain⟨_,_,_,e,⟨_,_,e1,-⟩,⟨_,_,e2,-⟩,⟨_,_,e3,-⟩,-⟩:=D;simp only[obV,Value.agg.injEq,Array.mk.injEq,List.cons.injEq,and_true,true_and]at e;obtain⟨rfl,rfl,rfl⟩:=e;rw[e1,e2,e3];exact⟨rfl,rfl,rfl⟩
   obtain⟨o1,o2,o3⟩:=a2;obtain⟨w5,y⟩:∃w5,w5=w4.setRow X (obC d.kind A B d.tree C d.GZ d.GY d.msg):=⟨_,rfl⟩;have R4:Hid (w5.heap[X]? = some (.cells (obC d.kind A B d.tree C d.GZ d.GY d.msg) 141 (0,0))):=by unfold Hid;rw[y];exact setRow_heap w4 X _ (obC d.kind A B d.tree C d.GZ d.GY d.msg) _ _ r4
   have W:Hid (Ext w3 w5):=by unfold Hid;rw[y];exact Ext.but ad (aw _ _ _) a1
   rw[<-y]at K;go_upto_region 4 with(refine wpList_store_row rfl 141 (.tmp 4) (.tmp 17) rfl X (obC d.kind A B d.tree C d.GZ d.GY d.msg) rfl rfl 141 _ r4 ch rfl (by simp[o1,o2,o3];simp[Value.oneCell']) ?_);rw[<-y];clear y;have L:Hid _:=oD (obV d A B C) d w5 K.out.ob a5.out;obtain⟨⟨p,er⟩,G⟩:∃q,bz d=q:=⟨_,rfl⟩;rw[G]at L;have a3:p.length<=140737488355328:=by have:=ti d;rw[G]at this;exact this
   have V:Hid _:=G;obtain⟨d0,d1,d2,d3,d4,d5,d6,d7⟩:=bt R4.out;clear G;go_wp2_with fail;go_at_call 92;refine Calls.mono L.out ?_;rintro e6 w6 ⟨⟨u,rfl,T⟩,z⟩;have HU:Hid (IsBytes w6 u p):=by unfold Hid IsBytes;exact Row.GW T a3
   have E:Hid (Ext w w6):=H.out.trans (W.out.trans z);have i:=Ext.row z (W.out.row R2.out);have am:Hid _:=Ext.row z R4.out;have ai:Hid (IsObT w6 (obV d A B C) d):=K.out.ext z;clear T z L d0 d1 d2 d3 d4 d5 d6 d7
   try dsimp only
   by_cases n:er=0
   case neg =>
    have Z:(er==0)=false:=by simpa using n
    have a9:(er != 0)=true:=by simpa using n
    obtain⟨rfl,rfl⟩:l=ob0/\e9=4:=by
     have j:=S.out;rw[if_neg (fun h=>n (by have t:=V.out;unfold bz at t;rw[if_pos h.1]at t;exact(Prod.mk.inj t).2.symm))]at j;exact⟨(Prod.mk.inj j).1,(Prod.mk.inj j).2⟩
    clear n
    go_wp2_with (refine wpList_store_row rfl 141 (.tmp 2) (.tmp 31) rfl P (obC 0 (.slice none 0 0) (.slice none 0 0) [] (.slice none 0 0) 0 0 []) rfl rfl 141 _ i ch rfl (by simp[Value.oneCell']) ?_)
    refine bodyPost_ret (cJ rfl _ _ P 141 (obC 0 (.slice none 0 0) (.slice none 0 0) [] (.slice none 0 0) 0 0 []) (0,0) _ rfl (setRow_heap _ _ _ _ _ _ i) Tryz.underlying141 rfl ch) rfl ?_;exact⟨⟨_,rfl,kP _⟩,Ext.but E.out (aw _ _ _) (Nat.le_of_eq N.out)⟩
   have Z:(er==0)=true:=by simpa using n
   subst n;have aa:ew d=true/\p=k9 d:=by
    have t:=V.out;unfold bz at t;split at t
    .rename_i hm;exact⟨hm,(Prod.mk.inj t).1.symm⟩
    .have:=(Prod.mk.inj t).2;cases this
   obtain⟨eq,Y⟩:∃e,(p==k::r)=e:=⟨_,rfl⟩;have M:Hid _:=Y;have O:Hid _:=aa;have au:Hid _:=IsBytes.ext HV.out E.out;clear Y aa;go_wp2_with fail;go_at_call 139;refine(kE _ _ _ _ _ HU.out au.out).mono ?_;rw[M.out];rintro e7 w7 ⟨rfl,ab⟩;rw[ab];clear ab
   cases eq with
   | false =>
    obtain⟨rfl,rfl⟩:l=ob0/\e9=4:=by
     have j:=S.out;rw[if_neg (fun h=>by have t:=M.out;rw[O.out.2,h.2]at t;simp at t)]at j;exact⟨(Prod.mk.inj j).1,(Prod.mk.inj j).2⟩
    go_wp2_with (refine wpList_store_row rfl 141 (.tmp 2) (.tmp 31) rfl P (obC 0 (.slice none 0 0) (.slice none 0 0) [] (.slice none 0 0) 0 0 []) rfl rfl 141 _ i ch rfl (by simp[Value.oneCell']) ?_)
    refine bodyPost_ret (cJ rfl _ _ P 141 (obC 0 (.slice none 0 0) (.slice none 0 0) [] (.slice none 0 0) 0 0 []) (0,0) _ rfl (setRow_heap _ _ _ _ _ _ i) Tryz.underlying141 rfl ch) rfl ?_;exact⟨⟨_,rfl,kP _⟩,Ext.but E.out (aw _ _ _) (Nat.le_of_eq N.out)⟩
   | true =>
    obtain⟨rfl,rfl⟩:l=d/\e9=0:=by
     have j:=S.out;rw[if_pos ⟨O.out.1,by rw[<-O.out.2];simpa using M.out⟩]at j;exact⟨(Prod.mk.inj j).1,(Prod.mk.inj j).2⟩
    have av:=am.out;obtain⟨d0,d1,d2,d3,d4,d5,d6,d7⟩:=bt av
    go_wp2_with (refine wpList_store_row rfl 141 (.tmp 2) (.tmp 32) rfl P (obC l.kind A B l.tree C l.GZ l.GY l.msg) rfl rfl 141 _ i ch rfl (by simp[o1,o2,o3];simp[Value.oneCell']) ?_)
    refine bodyPost_ret (cJ rfl _ _ P 141 (obC l.kind A B l.tree C l.GZ l.GY l.msg) (0,0) _ rfl (setRow_heap _ _ _ _ _ _ i) Tryz.underlying141 rfl ch) rfl ?_;exact⟨⟨_,rfl,IsObT.put ai.out (aw _ _ _) i⟩,Ext.but E.out (aw _ _ _) (Nat.le_of_eq N.out)⟩
end
section
open Go Go.RowKit
variable [Inhabited br]
variable {w:World}
theorem ReadO.IT {p:List Value->Ev->Prop} {w':World} {v:Value} {L:List Ev} (h:ReadO w p v L) (a:Ext w w'):ReadO w' p v L:=h.stay a.size (fun c k b=>a.block k (h.lt c k b))
def IsOpn (w:World) (cs:List Value) (o:Opn):Prop:=∃a b,cs=[.int .i64 o.kind,.int .i64 o.mode,.int .i64 o.keep,.int .i64 o.G3,S8 o.path,S8 o.dest,a,b]/\OldB a o.data/\ReadO w IsEvI b o.plan
def evW (n:Nat) (e:Ev):Nat:=min (n+min e.data.length 40000+min e.path.length 1000) 160000
def EH (a:List Ev):Bool:=decide (a.length<=60) && (a.all (fun e=>decide (e.path.length<=400)) && decide (a.foldl evW 0<=40000))
def opW (n:Nat) (o:Opn):Nat:=min (n+min o.data.length 40000) 160000
def FE (o:Opn):Bool:=EH o.plan && (decide (o.path.length<=400) && decide (o.dest.length<=400))
def DK (l:List Opn):Bool:=decide (l.length<=100) && (l.all FE && decide (l.foldl opW 0<=40000))
theorem IsOpn.length {cs:List Value} {o:Opn} (h:IsOpn w cs o):cs.length=8/\cs.all (·.oneCell')=true:=by
 obtain⟨c,d,rfl,a,b⟩:=h;obtain⟨_,_,rfl,_⟩:=a.bytes;obtain⟨_,⟨_,_,rfl,_⟩,_⟩:=b;exact⟨rfl,by simp[Value.oneCell']⟩
abbrev IsOps (w:World) (v:Value) (l:List Opn):Prop:=ReadO w (IsOpn w) v l
end
section
open Go Go.ChangeShapes Go.WideShapes Go.ChangeAt Go.RowKit Go.Deep
theorem own:ownKnob Tryz.prog.godebug=none:=by kernel_rfl
theorem jm:laidOutB Tryz.prog=true:=by kernel_rfl
theorem Ce:Tryz.prog.cellsOf 5=1:=by kernel_rfl
theorem Cc:Tryz.prog.bytesOf 5=1:=by kernel_rfl
theorem tj {W:World} (a:W.ShapedOpen Tryz.prog):Env W :=
 ⟨Go.Proofs.cell_of_shapedOpen_int (zero:=#[.int .i64 0]) (t:=3) a (of_decide_eq_true (by kernel_rfl)) (by kernel_rfl) rfl (by kernel_rfl) (by kernel_rfl) Tryz.underlying3⟩
theorem Cb {x:Int} (h:(Lit.int .u8 x).wf=true):0<=x/\x<256:=by
 have a:IntKind.u8.min=0:=rfl;have b:IntKind.u8.max=255:=rfl;simp only[Lit.wf,Bool.and_eq_true,decide_eq_true_eq]at h;omega
theorem f9 (n:laidOutB Tryz.prog=true) {H:Type} {enc:TypeId×Value->H} {W k:World} (l:Below W.heap.size W k):∀ {ts:List TypeId} {g:List Value} {e:List (DataW H)} {c:List MemPlace},DataW.TrodAll enc Tryz.prog W 0 (fun _=>true) true ts g e c->(∀x∈c,x.block<W.heap.size)->(∀t∈ts,Tryz.prog.readableRec t=true/\t<Tryz.prog.types.size) ->
  DataW.TrodAll enc Tryz.prog k 0 (fun b=>decide (b<W.heap.size)) true ts g e c
 | [],g,e,c,h,_,_=>by
  obtain⟨rfl,rfl,rfl⟩:=trodAll_nil h;exact trodAll_mk0
 | t::ts,g,e,c,h,a,i=>by
  obtain⟨v,y,d,o,p,q,rfl,rfl,rfl,r,u⟩:=trodAll_cons h;exact⟨p,q,Below.trod n (i t (by simp)).1 (i t (by simp)).2 r l (fun x j=>a x (by simp[j])),f9 n l u (fun x j=>a x (by simp[j])) (fun t w=>i t (by simp[w])),rfl⟩
theorem DS {n:Int} (h:(Lit.int .i64 n).wf=true):I64 n:=by
 have a:IntKind.i64.min = -9223372036854775808:=rfl;have b:IntKind.i64.max=9223372036854775807:=rfl;simp only[Lit.wf,Bool.and_eq_true,decide_eq_true_eq]at h;unfold I64;omega
section
variable {H:Type} {enc:TypeId×Value->H} {P:Program} {w:World} {base:Nat} {spare:Nat->Bool} {held:Bool}
end
def Szd {H:Type} (t:TypeId) (d:DataW H):Prop:=∀n∈d.weights Tryz.prog t,n<=reachBytes
variable {t:TypeId}
theorem vY {H:Type} {ts:List TypeId} {a:List (DataW H)} {j:Nat} {d:DataW H} (h:(DataW.weightsEach Tryz.prog ts a).all (·<=reachBytes)=true) (e:ts[j]? = some t) (b:a[j]? = some d):Szd t d:=fun n c=>by
 have:=List.all_eq_true.1 h _ (DataW.weights_mem_each e b n c);simpa using this
theorem ur {H:Type} {P:Program} {e:TypeId}:∀ {l:List (DataW H)} {d:DataW H},d∈l->∀n∈d.weights P e,n∈DataW.weightsAll P e l
 | c::r,d,b,n,a=>by
  simp only[DataW.weightsAll,List.mem_append];rcases List.mem_cons.1 b with rfl | h
  .exact Or.inl a
  .exact Or.inr (ur h n a)
theorem mI {H:Type} {q:TypeId} {e s:List (DataW H)} (h:Szd t (.slice e s)) (a:Tryz.prog.underlying t=some (.slice q)):(e.length+s.length)*Tryz.prog.bytesOf q<=reachBytes/\∀d∈e,Szd q d:=by
 refine⟨h _ (by simp[DataW.weights,a]),fun d b n c=>h n ?_⟩;simp only[DataW.weights,a,List.mem_cons,List.mem_append];exact Or.inr (Or.inl (ur b n c))
section
variable {H:Type} {enc:TypeId×Value->H} {W:World}
variable {n:Nat} {v:Value}
theorem BE {y:DataW H×List MemPlace} (h:DataW.trod enc Tryz.prog W 0 (fun _=>true) true n 3 [v]=some y):∃z,v=.int .i64 z/\I64 z:=by
 obtain⟨z,a,-,b⟩:=DataW.trod_int Tryz.underlying3 h;simp only[List.cons.injEq,and_true]at a;exact⟨z,a,DS b⟩
theorem v8 {y:DataW H×List MemPlace} (h:DataW.trod enc Tryz.prog W 0 (fun _=>true) true n 9 [v]=some y):∃l:B8,v=S8 l:=by
 obtain⟨s,a,-,-⟩:=DataW.trod_string Tryz.underlying9 h;simp only[List.cons.injEq,and_true]at a;exact⟨s.data.toList,a⟩
variable {a:Addr} {len cap:Nat} {cs:List Value}
theorem jQ (h:len<=cap) (j:cap<=maxLen) (k:len<=140737488355328) (g:∀i u,cs[i]? = some u->W.cell? (a.add i)=some u):Row W (.slice (some a) len cap) len cs:=by
 unfold maxLen at j;refine⟨some a,cap,rfl,h,by omega,k,fun e=>?_⟩;obtain⟨x,r,rfl⟩:∃x r,cs=x::r:=by
  cases cs with
  | nil=>exact(e rfl).elim
  | cons x r=>exact⟨x,r,rfl⟩
 have c:a.spot=none:=by
  have:=World.cell?_spot (g 0 x rfl);simpa [Addr.add]using this
 obtain⟨b,o,n⟩:=a;simp only at c;subst c;refine⟨b,o,rfl,fun i u l=>?_⟩;have d:(⟨b,o,none⟩:Addr).add i=⟨b,o+i,none⟩:=by unfold Addr.add;split <;> simp_all
 rw[<-d];exact g i u l
theorem xO {y:DataW H×List MemPlace} (h:DataW.trod enc Tryz.prog W 0 (fun _=>true) true n 52 [v]=some y) (t:Szd 52 y.1):∃l:B8,IsBytes W v l:=by
 rcases open_ints Tryz.underlying52 Tryz.underlying5 Ce h with⟨b,F⟩ | ⟨a,c,r,j,b,_,A,B,C,rfl,d,o⟩
 .simp only[List.cons.injEq,and_true]at b;subst b;exact⟨[],Row.nil _⟩
 .simp only[List.cons.injEq,and_true]at b;subst b;simp only[if_true]at C;have p:=(mI t Tryz.underlying52).1;rw[Cc]at p;have D:=reachBytes_lt;simp only[lits,List.length_map,List.length_take,List.length_drop,Nat.mul_one]at p;have e:c<=140737488355328:=by omega
  refine⟨(j.take c).map fun z=>UInt8.ofNat z.toNat,?_⟩;have k:((j.take c).map fun z=>UInt8.ofNat z.toNat).length=c:=by simp;omega
  unfold IsBytes;rw[k];refine jQ A B e fun i u q=>?_
  have x:i<c:=by
   have:=(List.getElem?_eq_some_iff.1 q).1;simp at this;omega
  have w:=d i (by omega);rw[w,<-q];have g:j[i]? = some j[i]:=List.getElem?_eq_getElem (by omega);have E:=Cb (o j[i] (List.getElem_mem (by omega)));rw[List.getElem?_map,List.getElem?_map,List.getElem?_take_of_lt x,g];simp only[Option.map_some,List.getD_eq_getElem?_getD,g,Option.getD_some,Option.some.injEq,Value.int.injEq,true_and,UInt8.toNat_ofNat'];omega
theorem CX {w:World} (h:Row w v n cs) (c:cs≠[]):∀k,v.ownBlock=some k->k<w.heap.size:=by
 obtain⟨a,cap,rfl,j,l,p,d⟩:=h;obtain⟨b,o,rfl,g⟩:=d c;intro k i
 cases cs with
 | nil=>exact(c rfl).elim
 | cons x r =>
  have:=World.block_lt_of_cell? _ _ (g 0 x rfl);have e:b=k:=by simpa [Value.ownBlock]using i
  subst e;exact this
theorem AI (m:Nat) (k:0<m) (a:List (List Value)) (h:∀c∈a,c.length=m) (q:Nat) (u:Value) (b:a.flatten[q]? = some u):∃c,a[q / m]? = some c/\c[q%m]? = some u:=by
 induction a generalizing q with
 | nil=>simp at b
 | cons c r n =>
  have j:=h c (by simp)
  by_cases e:q<m
  .refine ⟨c,by rw[Nat.div_eq_of_lt e];rfl,?_⟩;rw[Nat.mod_eq_of_lt e];simpa [List.flatten_cons,List.getElem?_append_left (show q<c.length by omega)]using b
  .rw [List.flatten_cons,List.getElem?_append_right (by omega),j]at b;obtain⟨d,g,i⟩:=n (fun x l=>h x (by simp[l])) (q - m) b;refine⟨d,?_,?_⟩
   .have:q / m=(q - m) / m+1:=by
     rw[Nat.div_eq_sub_div k (by omega)]
    rw[this];exact g
   .rw [Nat.mod_eq_sub_mod (by omega)];exact i
theorem zg {a b c:Nat} (h:a*b<=c) (d:1<=b):a<=c:=Nat.le_trans (Nat.le_mul_of_pos_right a d) h
theorem Bn {α:Type} (m:Nat) (A:0<m) (I:List Value×α) (N:len<=cap) (O:cap<=maxLen) (P:len<=140737488355328) {p:List Value->α->Prop} (G:∀c x,p c x->c.length=m)
  (C:∀i,i<len->∃d:List Value×α,p d.1 d.2/\∀j u,d.1[j]? = some u->W.cell? (a.add (i*m+j))=some u):∃D:List α,ReadO W p (.slice (some a) len cap) D/\D.length=len/\∀x∈D,∃c,p c x:=by
 have t:∀i,∃d:List Value×α,i<len->p d.1 d.2/\∀j u,d.1[j]? = some u->W.cell? (a.add (i*m+j))=some u:=fun i=>by
  by_cases h:i<len
  .obtain ⟨d,y⟩:=C i h;exact⟨d,fun _=>y⟩
  .exact ⟨I,fun k=>(h k).elim⟩
 have E:=fun i=>(t i).choose_spec
 generalize z:(fun i=>(t i).choose)=d at E;have g:∀i,i<len->p (d i).1 (d i).2/\∀j u,(d i).1[j]? = some u->W.cell? (a.add (i*m+j))=some u:=fun i b=>by
  have:=E i b;rw[<-z];exact this
 have l:∀(i:Nat) c,((List.range len).map fun i=>(d i).1)[i]? = some c->i<len/\c=(d i).1:=fun i c k=>by
  have b:=(List.getElem?_eq_some_iff.1 k).1;simp only[List.length_map,List.length_range]at b;refine⟨b,?_⟩;rw[List.getElem?_map,List.getElem?_range b]at k;exact(Option.some.inj k).symm
 have r:Row W (.slice (some a) len cap) len ((List.range len).map fun i=>(d i).1).flatten:=by
  refine jQ N O P fun q u Q=>?_
  obtain⟨c,k,R⟩:=AI m A _ (fun c k=>by
   obtain⟨i,w,rfl⟩:=List.mem_map.1 k;exact G _ _ (g i (by simpa using w)).1) q u Q
  obtain⟨b,rfl⟩:=l _ _ k;have:=(g _ b).2 _ u R
  rwa [show q / m*m+q%m=q by rw[Nat.mul_comm];exact Nat.div_add_mod q m]at this
 refine⟨(List.range len).map fun i=>(d i).2,⟨(List.range len).map fun i=>(d i).1,by rw[List.length_map,List.length_range];exact r,fun B=>?_,by simp,fun i c e k F=>?_⟩,by simp,fun x S=>?_⟩
 .refine CX r fun J=>?_
  have o:0<len:=by
   cases len with
   | zero=>exact(B rfl).elim
   | succ n=>omega
  have y:=G _ _ (g 0 o).1;have K:((List.range len).map fun i=>(d i).1)[0]? = some (d 0).1:=by rw[List.getElem?_map,List.getElem?_range o];rfl
  have L:=List.mem_of_getElem? K;have M:=List.flatten_eq_nil_iff.1 J _ L;rw[M]at y;simp at y;omega
 .obtain ⟨b,rfl⟩:=l _ _ k;rw[List.getElem?_map,List.getElem?_range b]at F;cases F;exact(g i b).1
 .obtain ⟨i,w,rfl⟩:=List.mem_map.1 S;exact⟨_,(g i (by simpa using w)).1⟩
end
section
variable [Inhabited br] {H:Type} {enc:TypeId×Value->H} {W:World}
end
end
end Go.Proofs.YtgfegpnmlkdjfaaGreatDoor
