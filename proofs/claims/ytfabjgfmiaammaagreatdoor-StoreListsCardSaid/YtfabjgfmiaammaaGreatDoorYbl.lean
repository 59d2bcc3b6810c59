/- Contracts of the program's functions and plain laws behind the card. Conditions: as each theorem states. -/
import Derived.Test.YtfabjgfmiaammaaGreatDoorYaw
import Derived.Test.YtfabjgfmiaammaaGreatDoorYak
import Derived.Test.YtfabjgfmiaammaaGreatDoorYbe
import Derived.Deep.DeepCutAuto
import Derived.Test.YtfabjgfmiaammaaGreatDoorYbi
import Derived.Test.YtfabjgfmiaammaaGreatDoorYbk
import Derived.Laws.ResultCell
set_option linter.unusedVariables false
set_option linter.unusedSimpArgs false
set_option linter.unusedSectionVars false
set_option maxRecDepth 100000
set_option maxHeartbeats 64000000
namespace Go.Proofs.YtfabjgfmiaammaaGreatDoor
section
open Go Go.RowKit
variable [Inhabited bf]
theorem yl:(Tryz.prog.info? 44).map (fun i=>(i.zero,i.size,i.bytes))=some (some (.agg #[.int .i64 0,.int .i64 0,.int .i64 0,.int .i64 0,S8 [],S8 [],.slice none 0 0,.slice none 0 0]),8,112):=by kernel_rfl
section
variable {ops:Array Oper} {rest:List Oper} {o:Oper} {a:Act} {Q:Exit->Act->World->Prop} {w:World}
theorem zN (p:o.guard=none) (s x:Operand) (C:o.op=.call { callee:=.builtin .append,args:=#[s,x],argTypes:=#[67,67] })
  (d:Nat) (v:Value) (n:Nat) (xs:List Value) (D:a.eval s=v) (i:w.ownsRow d 44 8 v n xs)
  (g c:Nat) (b:List Value) (F:a.eval x=.slice (some ⟨g,0,none⟩) 1 c) (B:b.length=8) {fr:Nat×Nat} (z:w.heap[g]? = some (.cells b.toArray 44 fr)) (l:b.all (·.oneCell')=true)
  (I:n<=10000000) (e:d<=w.heap.size)
  (h:∀k j,j.ownsRow d 44 8 k (n+1) (xs++b)->w.grownBy j v.ownBlock->wpList Tryz.prog ops Q rest (a.put o.dst k) j):wpList Tryz.prog ops Q (o::rest) a w:=by
 obtain⟨G,A,q,r,t⟩:=info_parts yl;exact wpList_append_own_at w p s x _ C d _ G _ 8 112 Tryz.underlying67 A q r t rfl (by omega) v n xs D i ⟨g,0,none⟩ 1 c b F (by simpa using B) (by simpa using cU z) (fun u E=>List.all_eq_true.1 l u E) (by unfold maxLen;omega) (by omega) e
  (fun k j l y _ H=>h k j l y)
end
variable {w:World}
theorem yG {c:World} {b:Nat} {v:Value} {L:List Opn} {a:List (List Value)} (h:w.ownsRow b 44 8 v L.length a.flatten) (d:Each (IsOpn c) a L) (g:L.length<=1000000):ReadO w (IsOpn c) v L :=
 ⟨a,Row.BV h (by omega),fun _ k e=>(h.lt k e).2,d⟩
theorem IsOpn.ext {w':World} {cs:List Value} {o:Opn} (h:IsOpn w cs o) (c:Ext w w'):IsOpn w' cs o:=by
 obtain⟨d,e,rfl,a,b⟩:=h;exact⟨d,e,rfl,a,b.C0 c⟩
theorem oG {α:Type} {l:List α} {k:Nat} {e:α} (h:l[k]? = some e):l.take (k+1)=l.take k++[e]:=by rw[List.take_add_one,h];rfl
end
section
open Go Go.RowKit
structure iA (o:Ob):Prop where
 items:o.items.length<=400
 C1:o.parents.length<=400
 data:o.data.length<=30000
 tree:o.tree.length<=30000
 msg:o.msg.length<=30000
theorem xZ {a b c d e f:Prop}:¬a\/(a/\¬b)\/(a/\b/\¬c)\/(a/\b/\c/\¬d)\/(a/\b/\c/\d/\¬e)\/(a/\b/\c/\d/\e/\¬f)\/(a/\b/\c/\d/\e/\f):=by
 by_cases g:a
 .by_cases h:b
  .by_cases i:c
   .by_cases j:d
    .by_cases k:e
     .by_cases l:f
      .exact .inr (.inr (.inr (.inr (.inr (.inr ⟨g,h,i,j,k,l⟩)))))
      .exact .inr (.inr (.inr (.inr (.inr (.inl ⟨g,h,i,j,k,l⟩)))))
     .exact .inr (.inr (.inr (.inr (.inl ⟨g,h,i,j,k⟩))))
    .exact .inr (.inr (.inr (.inl ⟨g,h,i,j⟩)))
   .exact .inr (.inr (.inl ⟨g,h,i⟩))
  .exact .inr (.inl ⟨g,h⟩)
 .exact .inl g
def AO (p:Prop) (w:World) (e:Ending) (w':World):Prop:=(∃b:Bool,e=.returned (.bool b)/\(b=true->p))/\Ext w w'
theorem xW (v:Value) (o:Ob) (w:World) (hv:IsOb w v o) :
  Calls Tryz.prog 26 #[v] w (AO (iA o) w):=by
 obtain⟨vd,vi,vp,rfl,d1,d2,d3⟩:=hv;obtain⟨da,dc,rfl,t1,t2,t3,-⟩:=id d1.get;obtain⟨ia,ic,rfl,s1,s2,s3,hi⟩:=id d2.get;obtain⟨pa,pc,rfl,r1,r2,r3,hp⟩:=id d3.get;have HI:Hid _:=hi;have HP:Hid _:=hp;clear d1 d2 d3 hi hp;obtain⟨H,F⟩:∃H,H=w.alloc (.cells #[.int .i64 o.kind,.slice da o.data.length dc,.slice ia o.items.length ic,S8 o.tree,.slice pa o.parents.length pc,.int .i64 o.BU,.int .i64 o.BS,S8 o.msg] 41):=⟨_,rfl⟩;have Z:Ext w H:=by rw[F];exact(Ext.refl _).alloc _
 have Q:H.heap[w.heap.size]? = some (.cells #[.int .i64 o.kind,.slice da o.data.length dc,.slice ia o.items.length ic,S8 o.tree,.slice pa o.parents.length pc,.int .i64 o.BU,.int .i64 o.BS,S8 o.msg] 41 (0,0)):=by rw[F];exact ae _ _
 obtain⟨gb,T⟩:∃gb,w.heap.size=gb:=⟨_,rfl⟩;have D:Hid (Ext w H):=Z;have I:Hid _:=Q;clear Z Q;go_enter Tryz.func26,Tryz.ntmps26;go_upto_region 1 with fail;rw[<-F];rw[T]at I;clear F T;go_wp2_with fail;go_loopw [3,4] (fun n i wr=>∃k m:Nat,k<=o.items.length/\i=.int .i64 k/\n=.int .i64 m/\m<=120000/\Hid (Ext H wr)) (fun _ i _=>o.items.length - (intOf i).toNat)
 case atStart=>exact⟨0,0,Nat.zero_le _,rfl,rfl,by omega,Ext.refl _⟩
 case round =>
 obtain⟨k,m,U,rfl,rfl,hm,l⟩:=hrel;have t:=Ext.row l.out I.out;obtain⟨c0,c1,c2,c3,c4,c5,c6,c7⟩:=ah t;clear t;obtain⟨q,E⟩:∃q:Bool,q=(decide (k<o.items.length) && decide (k<400)):=⟨_,rfl⟩;have C:Hid _:=E;clear E;go_upto_region 3 with fail;go_cut [14] (fun c wx=>c=.bool q/\wx=wr)
 case first =>
  by_cases g:k<o.items.length
  .have z:(k:Int)<(o.items.length:Int):=by omega
   by_cases u:k<400
   .have y:(k:Int)<400:=by omega
    have r:Hid (q=true):=by rw[C.out];unfold Hid;rw[decide_eq_true g,decide_eq_true u];rfl
    go_wp2_with fail;go_meet
    case rel=>exact⟨by rw[r.out],rfl⟩
   .have y:¬(k:Int)<400:=by omega
    have r:Hid (q=false):=by rw[C.out];unfold Hid;rw[decide_eq_true g,decide_eq_false u];rfl
    go_wp2_with fail;go_meet
    case rel=>exact⟨by rw[r.out],rfl⟩
  .have z:¬(k:Int)<(o.items.length:Int):=by omega
   have r:Hid (q=false):=by rw[C.out];unfold Hid;rw[decide_eq_false g];rfl
   go_wp2_with fail;go_meet
   case rel=>exact⟨by rw[r.out],rfl⟩
 case rest =>
 obtain⟨rfl,B⟩:=hcut;rw[B];clear B
 cases q with
 | true =>
  obtain⟨g,au⟩:k<o.items.length/\k<400:=by have h9:=C.out;simpa using h9.symm
  obtain⟨x,X⟩:∃x,o.items[k]? = some x:=⟨_,List.getElem?_eq_getElem g⟩;obtain⟨bb,oo,rfl,-,R,S⟩:=HI.out k x X;have y1:=(D.out.trans l.out).cell R;have y2:=(D.out.trans l.out).cell S;obtain⟨j,M⟩:∃j,min x.name.length 30000=j:=⟨_,rfl⟩;obtain⟨G,a2⟩:∃G,min x.id.length 30000=G:=⟨_,rfl⟩;obtain⟨p,K⟩:∃p,min (m+j+G) 120000=p:=⟨_,rfl⟩;have W:min (x.name.length:Int) 30000=(j:Int):=by omega
  have a0:min (x.id.length:Int) 30000=(G:Int):=by omega
  have V:min ((m:Int)+j+G) 120000=(p:Int):=by omega
  have a1:j<=30000:=by omega
  have a4:G<=30000:=by omega
  have L:p<=120000:=by omega
  have A:IntKind.i64.wrap ((m:Int)+(j:Int))=(m:Int)+j:=IntWalk.i64_in _ (by omega);have a3:IntKind.i64.wrap ((m:Int)+(j:Int)+(G:Int))=(m:Int)+j+G:=IntWalk.i64_in _ (by omega);clear X M a2 K R S;go_upto_region 5 with fail;apply ak 20 [_,_,_,_,_,_,_,_,_,_,_,_,_,_,_,_,_,_,_,.int .i64 p] [none,none,none,none,none,none,none,none,none,none,none,none,none,none,none,none,none,none,none,none] [[],[],[1],[],[2,3],[4],[5],[6],[7],[0,8],[],[10],[],[11,12],[13],[14],[15],[16],[9,17],[18]] (by kernel_rfl) (by kernel_rfl) (by simp[aq])
  .trivial
  .simp (maxSteps:=1000000)only[List.take_succ_cons,List.take_zero,ay,aE,ab,Act.put,List.setIfInBounds_toArray,List.set_cons_zero,List.set_cons_succ,aN,aS,aq,List.getD_cons_zero,List.getD_cons_succ,and_true,true_and,forall_const];and_intros
   iterate 20 · intro xs wq E;intros;rename_i hR;have f2:=E.cell c2;have g1:=E.cell y1;have g2:=E.cell y2;go_simp;exact hR _ _ (Ext.refl _) rfl
  intro xs w5 Y U;simp only[aU,Nat.zero_add,Nat.reduceAdd,and_true]at U;simp(maxSteps:=1000000)only[List.take_succ_cons,List.take_zero,List.drop_succ_cons,List.drop_zero,ab,Act.put,List.setIfInBounds_toArray,List.set_cons_zero,List.set_cons_succ,Nat.zero_add,Nat.reduceAdd,U];clear U;have ad:Hid (Ext H w5):=l.out.trans Y;clear Y W a0 V A a3;go_wp2_with fail;go_roundw
  case rel=>exact⟨k+1,p,by omega,by go_num,rfl,L,ad.out⟩
  case measure=>simp[intOf];omega
 | false =>
 clear c0 c1 c3 c5 c6 c7;obtain⟨w1,A⟩:∃x,wr=x:=⟨_,rfl⟩;rw[A]at l c2 c4 ⊢;clear A;have J:Hid (Ext H w1):=l.out;clear l c2 c4;go_wp2_with fail;go_loopw [3,5] (fun n i wr=>∃k m:Nat,k<=o.parents.length/\i=.int .i64 k/\n=.int .i64 m/\m<=120000/\Hid (Ext w1 wr)) (fun _ i _=>o.parents.length - (intOf i).toNat)
 case atStart=>exact⟨0,m,Nat.zero_le _,rfl,rfl,hm,Ext.refl _⟩
 case round =>
 obtain⟨k,m,U,rfl,rfl,hm,l⟩:=hrel;have t:=Ext.row (J.out.trans l.out) I.out;obtain⟨c0,c1,c2,c3,c4,c5,c6,c7⟩:=ah t;clear t;obtain⟨q,E⟩:∃q:Bool,q=(decide (k<o.parents.length) && decide (k<400)):=⟨_,rfl⟩;have C:Hid _:=E;clear E;go_upto_region 7 with fail;go_cut [45] (fun c wx=>c=.bool q/\wx=wr)
 case first =>
  by_cases g:k<o.parents.length
  .have z:(k:Int)<(o.parents.length:Int):=by omega
   by_cases u:k<400
   .have y:(k:Int)<400:=by omega
    have r:Hid (q=true):=by rw[C.out];unfold Hid;rw[decide_eq_true g,decide_eq_true u];rfl
    go_wp2_with fail;go_meet
    case rel=>exact⟨by rw[r.out],rfl⟩
   .have y:¬(k:Int)<400:=by omega
    have r:Hid (q=false):=by rw[C.out];unfold Hid;rw[decide_eq_true g,decide_eq_false u];rfl
    go_wp2_with fail;go_meet
    case rel=>exact⟨by rw[r.out],rfl⟩
  .have z:¬(k:Int)<(o.parents.length:Int):=by omega
   have r:Hid (q=false):=by rw[C.out];unfold Hid;rw[decide_eq_false g];rfl
   go_wp2_with fail;go_meet
   case rel=>exact⟨by rw[r.out],rfl⟩
 case rest =>
 obtain⟨rfl,B⟩:=hcut;rw[B];clear B
 cases q with
 | true =>
  obtain⟨g,au⟩:k<o.parents.length/\k<400:=by have h9:=C.out;simpa using h9.symm
  obtain⟨bb,oo,rfl,hc⟩:=HP.out k g;have y1:=((D.out.trans J.out).trans l.out).cell (hc k g);obtain⟨x,X⟩:∃x,o.parents.getD k []=x:=⟨_,rfl⟩;rw[X]at y1;obtain⟨j,M⟩:∃j,min x.length 30000=j:=⟨_,rfl⟩;obtain⟨p,K⟩:∃p,min (m+j) 120000=p:=⟨_,rfl⟩;have W:min (x.length:Int) 30000=(j:Int):=by omega
  have V:min ((m:Int)+j) 120000=(p:Int):=by omega
  have a1:j<=30000:=by omega
  have L:p<=120000:=by omega
  have A:IntKind.i64.wrap ((m:Int)+(j:Int))=(m:Int)+j:=IntWalk.i64_in _ (by omega);clear X M K hc;go_wp2_with fail;go_roundw
  case rel=>exact⟨k+1,p,by omega,by go_num,rfl,L,l.out⟩
  case measure=>simp[intOf];omega
 | false =>
 have O:Hid (Ext w wr):=(D.out.trans J.out).trans l.out;rcases xZ (a:=(o.items.length:Int)<=400) (b:=(o.parents.length:Int)<=400) (c:=(m:Int)<=30000) (d:=(o.data.length:Int)<=30000) (e:=(o.tree.length:Int)<=30000) (f:=(o.msg.length:Int)<=30000)with N | ⟨N,P⟩ | ⟨N,P,h3⟩ | ⟨N,P,h3,h4⟩ | ⟨N,P,h3,h4,h5⟩ | ⟨N,P,h3,h4,h5,h6⟩ | ⟨N,P,h3,h4,h5,h6⟩
 case' inr.inr.inr.inr.inr.inr=>have aa:Hid (iA o):=⟨by omega,by omega,by omega,by omega,by omega⟩
 all_goals
  go_wp2;go_ret
  first
   | exact⟨⟨_,rfl,fun _=>aa.out⟩,O.out⟩
   | exact⟨⟨_,rfl,fun h=>by cases h⟩,O.out⟩
end
section
open Go Go.RowKit
theorem iX (w:World):IsObT w (obV ob0 (.slice none 0 0) (.slice none 0 0) (.slice none 0 0)) ob0:=⟨_,_,_,rfl,Row.nil _,Row.nil _,Row.nil _,TypB.nil _ _ _,Typed.nil _ _ _ _,Typed.nil _ _ _ _⟩
theorem jI (s:Src) (n:Nat):(aD s n).2.length<=s.b.length:=by
 unfold aD;split
 .simp
 .simp only[List.length_take];omega
theorem yi (l:B8):(cd l).length=2*l.length:=by
 unfold cd
 induction l with
 | nil=>rfl
 | cons x l a=>rw[List.flatMap_cons,List.length_append,a,List.length_cons];simp only[List.length_cons,List.length_nil];omega
theorem iq (s:Src):(bn s).2.length<=64:=by
 unfold bn;dsimp only;rw[yi];unfold aD;split
 .simp
 .simp only[List.length_take];omega
theorem mg (s:Src):(bp s).1.b.length<=s.b.length:=eN _ _
theorem su {s:Src} {B:Nat} (h:s.b.length<=B) (j:64<=B):(eF false s).1.b.length<=B/\(eF false s).2.name.length<=B/\(eF false s).2.id.length<=B:=by
 have a:=mg s;have c:=dd false (bp s).1;have d:=eN (aJ false (bp s).1).1 (aJ false (bp s).1).2;have e:=jI (aJ false (bp s).1).1 (aJ false (bp s).1).2;have g:=fX (aD (aJ false (bp s).1).1 (aJ false (bp s).1).2).1;have i:=iq (aD (aJ false (bp s).1).1 (aJ false (bp s).1).2).1;unfold eF;dsimp only;refine⟨by omega,by omega,by omega⟩
theorem lp {B:Nat} (b:64<=B):∀(n:Nat) (s:Src) (l:List Itm),s.b.length<=B->(∀x∈l,x.name.length<=B/\x.id.length<=B)->∀x∈(cQ false n s l).2,x.name.length<=B/\x.id.length<=B
 | 0,s,l,_,h=>h
 | n+1,s,l,g,h=>by
  unfold cQ;split
  .exact h
  .obtain ⟨c,d,e⟩:=su g b;refine lp b n _ _ c (fun x a=>?_);rcases List.mem_append.1 a with a | a
   .exact h x a
   .rw [List.mem_singleton.1 a];exact⟨d,e⟩
theorem jT:∀(n:Nat) (s:Src) (l:List B8),(∀x∈l,x.length<=64)->(dr n s l).1.b.length<=s.b.length/\∀x∈(dr n s l).2,x.length<=64
 | 0,s,l,h=>⟨Nat.le_refl _,h⟩
 | n+1,s,l,h=>by
  unfold dr;split
  .exact ⟨Nat.le_refl _,h⟩
  .obtain ⟨c,d⟩:=jT n (bn s).1 (l++[(bn s).2]) (fun x a=>by
    rcases List.mem_append.1 a with a | a
    .exact h x a
    .rw [List.mem_singleton.1 a];exact iq s)
   exact⟨Nat.le_trans c (fX s),d⟩
theorem uv (b:Int) (a:B8) (x:Src×List B8) (p:x.1.b.length<=10000000) (h:∀y∈x.2,y.length<=64) (i:a.length<=10000000):dv (lj false b a x).2:=by
 unfold lj;have c:=dd false x.1;obtain⟨A,j⟩:∃q,aJ false x.1=q:=⟨_,rfl⟩;rw[j]at c ⊢;have d:=dd false A.1;obtain⟨C,k⟩:∃q,aJ false A.1=q:=⟨_,rfl⟩;rw[k]at d ⊢;have e:=dd false C.1;obtain⟨D,l⟩:∃q,aJ false C.1=q:=⟨_,rfl⟩;rw[l]at e ⊢;have g:=jI D.1 D.2;obtain⟨F,hF⟩:∃q,aD D.1 D.2=q:=⟨_,rfl⟩;rw[hF]at g ⊢;exact⟨fun x n=>(by cases n),fun y o=>(by have:=h y o;omega),i,by show F.2.length<=10000000;omega⟩
theorem uJ (c:Int) (b:B8) (i:b.length<=10000000):dv (bX false c b).2:=by
 unfold bX;split
 .exact ⟨fun x a=>(by cases a),fun x a=>(by cases a),by simp,by simp⟩
 .split
  .refine ⟨fun x a=>?_,fun x a=>(by cases a),by simp,by simp⟩;have d:=dd false ⟨b,false⟩;exact lp (by omega) _ _ [] (by dsimp only at d;omega) (fun x a=>by cases a) x a
  .split
   .have d:=fX ⟨b,false⟩;have e:=mg (bn ⟨b,false⟩).1;obtain⟨g,h⟩:=jT (bp (bn ⟨b,false⟩).1).2 (bp (bn ⟨b,false⟩).1).1 [] (fun x a=>by cases a);have j:=iq ⟨b,false⟩;exact uv _ _ _ (Nat.le_trans g (Nat.le_trans e (Nat.le_trans d i))) h (by omega)
   .exact ⟨fun x a=>(by cases a),fun x a=>(by cases a),by simp,by simp⟩
theorem aC {P:Program} {c:Func} {p u:Tmp} {b:TypeId} (h:c.results=#[.cell p b,.tmp u]) (a:Array Value) (w:World) (g:Nat) (t:TypeId) (cs:Array Value) (fr:Nat×Nat) (d:TypeDesc)
  (k:a.getD p undef=.pointer (some ⟨g,0,none⟩)) (i:w.heap[g]? = some (.cells cs t fr))
  (l:P.underlying b=some d) (e:(match d with | .struct _ | .array _ _=>true | _=>false)=true) (j:(P.info? b).map (·.size)=some cs.size) :
  (results c a).run P w=.ok (.tuple #[.agg cs,a.getD u undef]) w:=by
 rw[results_cell_tmp h,k];simp[asAddr,run_loadVar_row w g t b cs fr d i l e j]
theorem yB (v:Value) (b:B8) (w:World) (hv:IsBytes w v b) (hl:b.length<=10000000) :
  Calls Tryz.prog 88 #[v] w fun e J=>(∃u,e=.returned (.tuple #[u,.int .i64 (dF b).2])/\IsObT J u (dF b).1)/\Ext w J:=by
 have HV:Hid (IsBytes w v b):=hv;obtain⟨a,c,rfl,l1,l2,l3,hg⟩:=hv.get;obtain⟨⟨l,e9⟩,x⟩:∃q,dF b=q:=⟨_,rfl⟩;rw[x];have HQ:Hid _:=x;have br:Hid _:=hg;clear hv hg x;go_enter Tryz.func88,Tryz.ntmps88;go_upto_region 1 with fail;obtain⟨w3,U⟩:∃w3,w3=w.alloc (.cells (obC 0 (.slice none 0 0) (.slice none 0 0) [] (.slice none 0 0) 0 0 []) 41):=⟨_,rfl⟩;have R2:Hid (w3.heap[w.heap.size]? = some (.cells (obC 0 (.slice none 0 0) (.slice none 0 0) [] (.slice none 0 0) 0 0 []) 41 (0,0))):=by unfold Hid;rw[U];exact ae _ _
 have H:Hid (Ext w w3):=by unfold Hid;rw[U];exact(Ext.refl _).alloc _
 have bS:w3.heap.size=w.heap.size+1:=by rw[U];exact dO _ _
 unfold obC at U;rw[<-U];obtain⟨P,a6⟩:∃g,w.heap.size=g:=⟨_,rfl⟩;have N:Hid _:=a6;rw[a6]at R2 bS ⊢;clear U a6
 cases b with
 | nil =>
  obtain⟨rfl,rfl⟩:ob0=l/\2=e9:=by
   have j:=HQ.out;exact⟨(Prod.mk.inj j).1,(Prod.mk.inj j).2⟩
  have i:=R2.out;have b0:Ext w (w3.setRow P (obC 0 (.slice none 0 0) (.slice none 0 0) [] (.slice none 0 0) 0 0 [])):=Ext.but H.out (af _ _ _) (Nat.le_of_eq N.out)
  go_wp2_with (refine wpList_store_row rfl 41 (.tmp 2) (.tmp 10) rfl P (obC 0 (.slice none 0 0) (.slice none 0 0) [] (.slice none 0 0) 0 0 []) rfl rfl 41 _ i bY rfl (by simp[Value.oneCell']) ?_)
  refine bodyPost_ret (aC rfl _ _ P 41 (obC 0 (.slice none 0 0) (.slice none 0 0) [] (.slice none 0 0) 0 0 []) (0,0) _ rfl (setRow_heap _ _ _ _ _ _ i) Tryz.underlying41 rfl bY) rfl ?_;exact⟨⟨_,rfl,iX _⟩,b0⟩
 | cons k r =>
  obtain⟨bb,oo,rfl,hc⟩:=br.out 0 (by simp);have y0:w.cell? ⟨bb,oo,none⟩=some (.int .u8 k.toNat):=hc 0 (by simp);have z0:=H.out.cell y0;have b2:bb<w.heap.size:=World.block_lt_of_cell? _ _ y0;have bo:r.length<=10000000:=by simp at hl;omega
  obtain⟨d,D⟩:∃o,(bX false k.toNat r).2=o:=⟨_,rfl⟩;have ba:Hid (dv d):=by rw[<-D];exact uJ _ r bo
  have S:Hid ((l,e9)=if bP d=true/\eI d=k::r then(d,0)else(ob0,4)):=by
   unfold Hid;rw[<-HQ.out,i8,D]
  have a':Hid (∀J a0 c',Ext w J->IsBytes J (.slice (some ⟨bb,a0,none⟩) r.length c') r->Calls Tryz.prog 149 #[.int .i64 k.toNat,.slice (some ⟨bb,a0,none⟩) r.length c'] J fun e bq=>(∃u,e=.returned u/\IsObT bq u d)/\Ext J bq):=fun J a0 c' hx hb=>by
   have j:=wK k.toNat bb a0 c' r J hb (by have:=hx.size;omega) bo
   rwa [D]at j
  have bd:Hid (IntKind.i64.wrap (k.toNat:Int)=(k.toNat:Int)):=IntWalk.i64_in _ (by have:=k.toNat_lt;omega);have b1:(1:Int)<=(r.length:Int)+1:=by omega
  have b4:r.length+1<=c:=by simpa using l1
  clear D hc HQ;have bl:(k::r).length=r.length+1:=rfl;go_wp2_with fail;rw[bl];clear bl
  by_cases bh:c=1
  .subst bh;have bv:r=[]:=List.eq_nil_of_length_eq_zero (by omega);subst bv;have a3:Hid (IsBytes w (.slice (some ⟨bb,oo,none⟩) 0 0) []):=⟨_,0,rfl,Nat.le_refl _,by omega,by simp,fun h=>absurd rfl h⟩;apply ak 8 [_,_,_,.int .i64 k.toNat,_,.slice (some ⟨bb,oo,none⟩) 0 0,undef,undef] [none,none,none,none,none,none,some (fun u J=>IsObT J u d),some (fun u J=>∃g,u=.pointer (some ⟨g,0,none⟩)/\J.heap[g]? = some (.cells (obC 0 (.slice none 0 0) (.slice none 0 0) [] (.slice none 0 0) 0 0 []) 41 (0,0))/\w3.heap.size<=g)] [[],[0],[1],[2],[],[4],[3,5],[]] (by kernel_rfl) (by kernel_rfl) (by simp[aq])
   .refine ⟨?_,?_,trivial⟩
    .exact fun _ _ _ he T=>IsObT.ext T he
    .exact fun _ _ _ he ⟨g,h1,h2,h3⟩=>⟨g,h1,Ext.row he h2,h3⟩
   .simp (maxSteps:=1000000)only[List.take_succ_cons,List.take_zero,ay,aE,ab,Act.put,List.setIfInBounds_toArray,List.set_cons_zero,List.set_cons_succ,aN,aS,aq,List.getD_cons_zero,List.getD_cons_succ,and_true,true_and,forall_const];and_intros
    iterate 3 · intro Q wq x;intros;rename_i F;have f0:=x.cell z0;go_simp;exact F _ _ (Ext.refl _) rfl
    .intro Q wq x I R F;go_simp;exact F _ _ (Ext.refl _) (congrArg (Value.int .i64) bd.out)
    iterate 2 · intro Q wq x;intros;rename_i F;have f0:=x.cell z0;go_simp;exact F _ _ (Ext.refl _) rfl
    .intro Q wq x I R F;obtain⟨bs,bt⟩:=I;go_simp;exact(a'.out wq oo 0 (H.out.trans x) (IsBytes.ext a3.out (H.out.trans x))).mono (by rintro e' w4 ⟨⟨u,rfl,T⟩,hx⟩;exact⟨_,rfl,F _ _ hx T⟩)
    .intro Q wq x R F;go_simp;exact F _ _ ((Ext.refl _).alloc _) ⟨_,rfl,ae _ _,x.size⟩
   intro Q w4 au I;simp only[aU,Nat.zero_add,Nat.reduceAdd,and_true]at I;have q6:=I.2.2.2.2.2.2.1;have q7:=I.2.2.2.2.2.2.2;simp(maxSteps:=1000000)only[List.take_succ_cons,List.take_zero,List.drop_succ_cons,List.drop_zero,ab,Act.put,List.setIfInBounds_toArray,List.set_cons_zero,List.set_cons_succ,Nat.zero_add,Nat.reduceAdd,I];clear I;generalize Q 6=x6 at *;generalize Q 7=x7 at *;obtain⟨X,rfl,r4,a7⟩:=q7;have D:=q6;obtain⟨A,B,C,rfl,-⟩:=q6;have bx:=au.size;have K:Hid (IsObT (w4.setRow X (obC d.kind A B d.tree C d.BU d.BS d.msg)) (obV d A B C) d):=D.put (af _ _ _) r4;have a8:A.oneCell'=true/\B.oneCell'=true/\C.oneCell'=true:=by
    obtain⟨_,_,_,e,⟨_,_,e1,-⟩,⟨_,_,e2,-⟩,⟨_,_,e3,-⟩,-⟩:=D;simp only[obV,Value.agg.injEq,Array.mk.injEq,List.cons.injEq,and_true,true_and]at e;obtain⟨rfl,rfl,rfl⟩:=e;rw[e1,e2,e3];exact⟨rfl,rfl,rfl⟩
   obtain⟨o1,o2,o3⟩:=a8;obtain⟨w5,y⟩:∃w5,w5=w4.setRow X (obC d.kind A B d.tree C d.BU d.BS d.msg):=⟨_,rfl⟩;have R4:Hid (w5.heap[X]? = some (.cells (obC d.kind A B d.tree C d.BU d.BS d.msg) 41 (0,0))):=by unfold Hid;rw[y];exact setRow_heap w4 X _ (obC d.kind A B d.tree C d.BU d.BS d.msg) _ _ r4
   have W:Hid (Ext w3 w5):=by unfold Hid;rw[y];exact Ext.but au (af _ _ _) a7
   rw[<-y]at K;go_upto_region 4 with(refine wpList_store_row rfl 41 (.tmp 4) (.tmp 17) rfl X (obC d.kind A B d.tree C d.BU d.BS d.msg) rfl rfl 41 _ r4 bY rfl (by simp[o1,o2,o3];simp[Value.oneCell']) ?_);rw[<-y];clear y;have L:Hid _:=nk (obV d A B C) d w5 K.out.ob ba.out;obtain⟨⟨p,er⟩,G⟩:∃q,aW d=q:=⟨_,rfl⟩;rw[G]at L;have a9:p.length<=140737488355328:=by have:=mU d;rw[G]at this;exact this
   have V:Hid _:=G;obtain⟨d0,d1,d2,d3,d4,d5,d6,d7⟩:=ah R4.out;clear G;go_wp2_with fail;go_at_call 85;refine Calls.mono L.out ?_;rintro e6 w6 ⟨⟨u,rfl,T⟩,z⟩;have HU:Hid (IsBytes w6 u p):=by unfold Hid IsBytes;exact Row.BV T a9
   have E:Hid (Ext w w6):=H.out.trans (W.out.trans z);have i:=Ext.row z (W.out.row R2.out);have a2:Hid _:=Ext.row z R4.out;have a1:Hid (IsObT w6 (obV d A B C) d):=K.out.ext z;clear T z L d0 d1 d2 d3 d4 d5 d6 d7
   try dsimp only
   by_cases n:er=0
   case neg =>
    have Z:(er==0)=false:=by simpa using n
    have bk:(er != 0)=true:=by simpa using n
    obtain⟨rfl,rfl⟩:l=ob0/\e9=4:=by
     have j:=S.out;rw[if_neg (fun h=>n (by have t:=V.out;unfold aW at t;rw[if_pos h.1]at t;exact(Prod.mk.inj t).2.symm))]at j;exact⟨(Prod.mk.inj j).1,(Prod.mk.inj j).2⟩
    clear n
    go_wp2_with (refine wpList_store_row rfl 41 (.tmp 2) (.tmp 31) rfl P (obC 0 (.slice none 0 0) (.slice none 0 0) [] (.slice none 0 0) 0 0 []) rfl rfl 41 _ i bY rfl (by simp[Value.oneCell']) ?_)
    refine bodyPost_ret (aC rfl _ _ P 41 (obC 0 (.slice none 0 0) (.slice none 0 0) [] (.slice none 0 0) 0 0 []) (0,0) _ rfl (setRow_heap _ _ _ _ _ _ i) Tryz.underlying41 rfl bY) rfl ?_;exact⟨⟨_,rfl,iX _⟩,Ext.but E.out (af _ _ _) (Nat.le_of_eq N.out)⟩
   have Z:(er==0)=true:=by simpa using n
   subst n;have aa:bP d=true/\p=eI d:=by
    have t:=V.out;unfold aW at t;split at t
    .rename_i hm;exact⟨hm,(Prod.mk.inj t).1.symm⟩
    .have:=(Prod.mk.inj t).2;cases this
   obtain⟨eq,Y⟩:∃e,(p==[k])=e:=⟨_,rfl⟩;have M:Hid _:=Y;have O:Hid _:=aa;have a4:Hid _:=IsBytes.ext HV.out E.out;clear Y aa;go_wp2_with fail;go_at_call 76;refine(fw _ _ _ _ _ HU.out a4.out).mono ?_;rw[M.out];rintro e7 w7 ⟨rfl,ad⟩;rw[ad];clear ad
   cases eq with
   | false =>
    obtain⟨rfl,rfl⟩:l=ob0/\e9=4:=by
     have j:=S.out;rw[if_neg (fun h=>by have t:=M.out;rw[O.out.2,h.2]at t;simp at t)]at j;exact⟨(Prod.mk.inj j).1,(Prod.mk.inj j).2⟩
    go_wp2_with (refine wpList_store_row rfl 41 (.tmp 2) (.tmp 31) rfl P (obC 0 (.slice none 0 0) (.slice none 0 0) [] (.slice none 0 0) 0 0 []) rfl rfl 41 _ i bY rfl (by simp[Value.oneCell']) ?_)
    refine bodyPost_ret (aC rfl _ _ P 41 (obC 0 (.slice none 0 0) (.slice none 0 0) [] (.slice none 0 0) 0 0 []) (0,0) _ rfl (setRow_heap _ _ _ _ _ _ i) Tryz.underlying41 rfl bY) rfl ?_;exact⟨⟨_,rfl,iX _⟩,Ext.but E.out (af _ _ _) (Nat.le_of_eq N.out)⟩
   | true =>
    obtain⟨rfl,rfl⟩:l=d/\e9=0:=by
     have j:=S.out;rw[if_pos ⟨O.out.1,by rw[<-O.out.2];simpa using M.out⟩]at j;exact⟨(Prod.mk.inj j).1,(Prod.mk.inj j).2⟩
    have a5:=a2.out;obtain⟨d0,d1,d2,d3,d4,d5,d6,d7⟩:=ah a5
    go_wp2_with (refine wpList_store_row rfl 41 (.tmp 2) (.tmp 32) rfl P (obC l.kind A B l.tree C l.BU l.BS l.msg) rfl rfl 41 _ i bY rfl (by simp[o1,o2,o3];simp[Value.oneCell']) ?_)
    refine bodyPost_ret (aC rfl _ _ P 41 (obC l.kind A B l.tree C l.BU l.BS l.msg) (0,0) _ rfl (setRow_heap _ _ _ _ _ _ i) Tryz.underlying41 rfl bY) rfl ?_;exact⟨⟨_,rfl,IsObT.put a1.out (af _ _ _) i⟩,Ext.but E.out (af _ _ _) (Nat.le_of_eq N.out)⟩
  .have b3:¬c=1:=bh;have a3:Hid (IsBytes w (.slice (some ⟨bb,oo+1,none⟩) r.length (c - 1)) r):=IsBytes.from 1 HV.out (by simp) ⟨bb,oo+1,none⟩ (fun _=>rfl);apply ak 8 [_,_,_,.int .i64 k.toNat,_,.slice (some ⟨bb,oo+1,none⟩) r.length (c - 1),undef,undef] [none,none,none,none,none,none,some (fun u J=>IsObT J u d),some (fun u J=>∃g,u=.pointer (some ⟨g,0,none⟩)/\J.heap[g]? = some (.cells (obC 0 (.slice none 0 0) (.slice none 0 0) [] (.slice none 0 0) 0 0 []) 41 (0,0))/\w3.heap.size<=g)] [[],[0],[1],[2],[],[4],[3,5],[]] (by kernel_rfl) (by kernel_rfl) (by simp[aq])
   .refine ⟨?_,?_,trivial⟩
    .exact fun _ _ _ he T=>IsObT.ext T he
    .exact fun _ _ _ he ⟨g,h1,h2,h3⟩=>⟨g,h1,Ext.row he h2,h3⟩
   .simp (maxSteps:=1000000)only[List.take_succ_cons,List.take_zero,ay,aE,ab,Act.put,List.setIfInBounds_toArray,List.set_cons_zero,List.set_cons_succ,aN,aS,aq,List.getD_cons_zero,List.getD_cons_succ,and_true,true_and,forall_const];and_intros
    iterate 3 · intro Q wq x;intros;rename_i F;have f0:=x.cell z0;go_simp;exact F _ _ (Ext.refl _) rfl
    .intro Q wq x I R F;go_simp;exact F _ _ (Ext.refl _) (congrArg (Value.int .i64) bd.out)
    iterate 2 · intro Q wq x;intros;rename_i F;have f0:=x.cell z0;go_simp;exact F _ _ (Ext.refl _) rfl
    .intro Q wq x I R F;obtain⟨bs,bt⟩:=I;go_simp;exact(a'.out wq (oo+1) (c - 1) (H.out.trans x) (IsBytes.ext a3.out (H.out.trans x))).mono (by rintro e' w4 ⟨⟨u,rfl,T⟩,hx⟩;exact⟨_,rfl,F _ _ hx T⟩)
    .intro Q wq x R F;go_simp;exact F _ _ ((Ext.refl _).alloc _) ⟨_,rfl,ae _ _,x.size⟩
   intro Q w4 au I;simp only[aU,Nat.zero_add,Nat.reduceAdd,and_true]at I;have q6:=I.2.2.2.2.2.2.1;have q7:=I.2.2.2.2.2.2.2;simp(maxSteps:=1000000)only[List.take_succ_cons,List.take_zero,List.drop_succ_cons,List.drop_zero,ab,Act.put,List.setIfInBounds_toArray,List.set_cons_zero,List.set_cons_succ,Nat.zero_add,Nat.reduceAdd,I];clear I;generalize Q 6=x6 at *;generalize Q 7=x7 at *;obtain⟨X,rfl,r4,a7⟩:=q7;have D:=q6;obtain⟨A,B,C,rfl,-⟩:=q6;have bx:=au.size;have K:Hid (IsObT (w4.setRow X (obC d.kind A B d.tree C d.BU d.BS d.msg)) (obV d A B C) d):=D.put (af _ _ _) r4;have a8:A.oneCell'=true/\B.oneCell'=true/\C.oneCell'=true:=by
    obtain⟨_,_,_,e,⟨_,_,e1,-⟩,⟨_,_,e2,-⟩,⟨_,_,e3,-⟩,-⟩:=D;simp only[obV,Value.agg.injEq,Array.mk.injEq,List.cons.injEq,and_true,true_and]at e;obtain⟨rfl,rfl,rfl⟩:=e;rw[e1,e2,e3];exact⟨rfl,rfl,rfl⟩
   obtain⟨o1,o2,o3⟩:=a8;obtain⟨w5,y⟩:∃w5,w5=w4.setRow X (obC d.kind A B d.tree C d.BU d.BS d.msg):=⟨_,rfl⟩;have R4:Hid (w5.heap[X]? = some (.cells (obC d.kind A B d.tree C d.BU d.BS d.msg) 41 (0,0))):=by unfold Hid;rw[y];exact setRow_heap w4 X _ (obC d.kind A B d.tree C d.BU d.BS d.msg) _ _ r4
   have W:Hid (Ext w3 w5):=by unfold Hid;rw[y];exact Ext.but au (af _ _ _) a7
   rw[<-y]at K;go_upto_region 4 with(refine wpList_store_row rfl 41 (.tmp 4) (.tmp 17) rfl X (obC d.kind A B d.tree C d.BU d.BS d.msg) rfl rfl 41 _ r4 bY rfl (by simp[o1,o2,o3];simp[Value.oneCell']) ?_);rw[<-y];clear y;have L:Hid _:=nk (obV d A B C) d w5 K.out.ob ba.out;obtain⟨⟨p,er⟩,G⟩:∃q,aW d=q:=⟨_,rfl⟩;rw[G]at L;have a9:p.length<=140737488355328:=by have:=mU d;rw[G]at this;exact this
   have V:Hid _:=G;obtain⟨d0,d1,d2,d3,d4,d5,d6,d7⟩:=ah R4.out;clear G;go_wp2_with fail;go_at_call 85;refine Calls.mono L.out ?_;rintro e6 w6 ⟨⟨u,rfl,T⟩,z⟩;have HU:Hid (IsBytes w6 u p):=by unfold Hid IsBytes;exact Row.BV T a9
   have E:Hid (Ext w w6):=H.out.trans (W.out.trans z);have i:=Ext.row z (W.out.row R2.out);have a2:Hid _:=Ext.row z R4.out;have a1:Hid (IsObT w6 (obV d A B C) d):=K.out.ext z;clear T z L d0 d1 d2 d3 d4 d5 d6 d7
   try dsimp only
   by_cases n:er=0
   case neg =>
    have Z:(er==0)=false:=by simpa using n
    have bk:(er != 0)=true:=by simpa using n
    obtain⟨rfl,rfl⟩:l=ob0/\e9=4:=by
     have j:=S.out;rw[if_neg (fun h=>n (by have t:=V.out;unfold aW at t;rw[if_pos h.1]at t;exact(Prod.mk.inj t).2.symm))]at j;exact⟨(Prod.mk.inj j).1,(Prod.mk.inj j).2⟩
    clear n
    go_wp2_with (refine wpList_store_row rfl 41 (.tmp 2) (.tmp 31) rfl P (obC 0 (.slice none 0 0) (.slice none 0 0) [] (.slice none 0 0) 0 0 []) rfl rfl 41 _ i bY rfl (by simp[Value.oneCell']) ?_)
    refine bodyPost_ret (aC rfl _ _ P 41 (obC 0 (.slice none 0 0) (.slice none 0 0) [] (.slice none 0 0) 0 0 []) (0,0) _ rfl (setRow_heap _ _ _ _ _ _ i) Tryz.underlying41 rfl bY) rfl ?_;exact⟨⟨_,rfl,iX _⟩,Ext.but E.out (af _ _ _) (Nat.le_of_eq N.out)⟩
   have Z:(er==0)=true:=by simpa using n
   subst n;have aa:bP d=true/\p=eI d:=by
    have t:=V.out;unfold aW at t;split at t
    .rename_i hm;exact⟨hm,(Prod.mk.inj t).1.symm⟩
    .have:=(Prod.mk.inj t).2;cases this
   obtain⟨eq,Y⟩:∃e,(p==k::r)=e:=⟨_,rfl⟩;have M:Hid _:=Y;have O:Hid _:=aa;have a4:Hid _:=IsBytes.ext HV.out E.out;clear Y aa;go_wp2_with fail;go_at_call 76;refine(fw _ _ _ _ _ HU.out a4.out).mono ?_;rw[M.out];rintro e7 w7 ⟨rfl,ad⟩;rw[ad];clear ad
   cases eq with
   | false =>
    obtain⟨rfl,rfl⟩:l=ob0/\e9=4:=by
     have j:=S.out;rw[if_neg (fun h=>by have t:=M.out;rw[O.out.2,h.2]at t;simp at t)]at j;exact⟨(Prod.mk.inj j).1,(Prod.mk.inj j).2⟩
    go_wp2_with (refine wpList_store_row rfl 41 (.tmp 2) (.tmp 31) rfl P (obC 0 (.slice none 0 0) (.slice none 0 0) [] (.slice none 0 0) 0 0 []) rfl rfl 41 _ i bY rfl (by simp[Value.oneCell']) ?_)
    refine bodyPost_ret (aC rfl _ _ P 41 (obC 0 (.slice none 0 0) (.slice none 0 0) [] (.slice none 0 0) 0 0 []) (0,0) _ rfl (setRow_heap _ _ _ _ _ _ i) Tryz.underlying41 rfl bY) rfl ?_;exact⟨⟨_,rfl,iX _⟩,Ext.but E.out (af _ _ _) (Nat.le_of_eq N.out)⟩
   | true =>
    obtain⟨rfl,rfl⟩:l=d/\e9=0:=by
     have j:=S.out;rw[if_pos ⟨O.out.1,by rw[<-O.out.2];simpa using M.out⟩]at j;exact⟨(Prod.mk.inj j).1,(Prod.mk.inj j).2⟩
    have a5:=a2.out;obtain⟨d0,d1,d2,d3,d4,d5,d6,d7⟩:=ah a5
    go_wp2_with (refine wpList_store_row rfl 41 (.tmp 2) (.tmp 32) rfl P (obC l.kind A B l.tree C l.BU l.BS l.msg) rfl rfl 41 _ i bY rfl (by simp[o1,o2,o3];simp[Value.oneCell']) ?_)
    refine bodyPost_ret (aC rfl _ _ P 41 (obC l.kind A B l.tree C l.BU l.BS l.msg) (0,0) _ rfl (setRow_heap _ _ _ _ _ _ i) Tryz.underlying41 rfl bY) rfl ?_;exact⟨⟨_,rfl,IsObT.put a1.out (af _ _ _) i⟩,Ext.but E.out (af _ _ _) (Nat.le_of_eq N.out)⟩
end
end Go.Proofs.YtfabjgfmiaammaaGreatDoor
