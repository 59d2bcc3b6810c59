/- Contracts of the program's functions and plain laws behind the card. Conditions: as each theorem states. -/
import Derived.Test.YtfabjgfmiaammaaGreatDoorZak
import Derived.Test.YtfabjgfmiaammaaGreatDoorZaj
import Derived.Deep.DeepCutAuto
import Derived.Test.YtfabjgfmiaammaaGreatDoorZai
set_option linter.unusedVariables false
set_option linter.unusedSimpArgs false
set_option linter.unusedSectionVars false
set_option maxRecDepth 100000
set_option maxHeartbeats 64000000
namespace Go.Proofs.YtfabjgfmiaammaaGreatDoor
section
open Go Go.RowKit
structure iy (o:Ob):Prop where
 items:o.items.length<=400
 C2:o.parents.length<=400
 data:o.data.length<=30000
 tree:o.tree.length<=30000
 msg:o.msg.length<=30000
theorem yK {a b c d e f:Prop}:¬a\/(a/\¬b)\/(a/\b/\¬c)\/(a/\b/\c/\¬d)\/(a/\b/\c/\d/\¬e)\/(a/\b/\c/\d/\e/\¬f)\/(a/\b/\c/\d/\e/\f):=by
 by_cases g:a
 .by_cases h:b
  .by_cases i:c
   .by_cases j:d
    .by_cases k:e
     .by_cases l:f
      .exact .inr (.inr (.inr (.inr (.inr (.inr ⟨g,h,i,j,k,l⟩)))))
      .exact .inr (.inr (.inr (.inr (.inr (.inl ⟨g,h,i,j,k,l⟩)))))
     .exact .inr (.inr (.inr (.inr (.inl ⟨g,h,i,j,k⟩))))
    .exact .inr (.inr (.inr (.inl ⟨g,h,i,j⟩)))
   .exact .inr (.inr (.inl ⟨g,h,i⟩))
  .exact .inr (.inl ⟨g,h⟩)
 .exact .inl g
def AV (p:Prop) (w:World) (e:Ending) (w':World):Prop:=(∃b:Bool,e=.returned (.bool b)/\(b=true->p))/\Ext w w'
theorem yL (v:Value) (o:Ob) (w:World) (hv:IsOb w v o) :
  Calls Tryz.prog 26 #[v] w (AV (iy o) w):=by
 obtain⟨vd,vi,vp,rfl,d1,d2,d3⟩:=hv;obtain⟨da,dc,rfl,t1,t2,t3,-⟩:=id d1.get;obtain⟨ia,ic,rfl,s1,s2,s3,hi⟩:=id d2.get;obtain⟨pa,pc,rfl,r1,r2,r3,hp⟩:=id d3.get;have HI:Hid _:=hi;have HP:Hid _:=hp;clear d1 d2 d3 hi hp;obtain⟨G,C⟩:∃G,G=w.alloc (.cells #[.int .i64 o.kind,.slice da o.data.length dc,.slice ia o.items.length ic,S8 o.tree,.slice pa o.parents.length pc,.int .i64 o.BL,.int .i64 o.I,S8 o.msg] 41):=⟨_,rfl⟩;have O:Ext w G:=by rw[C];exact(Ext.refl _).alloc _
 have P:G.heap[w.heap.size]? = some (.cells #[.int .i64 o.kind,.slice da o.data.length dc,.slice ia o.items.length ic,S8 o.tree,.slice pa o.parents.length pc,.int .i64 o.BL,.int .i64 o.I,S8 o.msg] 41 (0,0)):=by rw[C];exact ab _ _
 obtain⟨gb,Q⟩:∃gb,w.heap.size=gb:=⟨_,rfl⟩;have D:Hid (Ext w G):=O;have I:Hid _:=P;clear O P;go_enter Tryz.func26,Tryz.ntmps26;go_upto_region 1 with fail;rw[<-C];rw[Q]at I;clear C Q;go_wp2_with fail;go_loopw [3,4] (fun n i wr=>∃k m:Nat,k<=o.items.length/\i=.int .i64 k/\n=.int .i64 m/\m<=120000/\Hid (Ext G wr)) (fun _ i _=>o.items.length - (intOf i).toNat)
 case atStart=>exact⟨0,0,Nat.zero_le _,rfl,rfl,by omega,Ext.refl _⟩
 case round =>
 obtain⟨k,m,R,rfl,rfl,hm,l⟩:=hrel;have r:=Ext.row l.out I.out;obtain⟨c0,c1,c2,c3,c4,c5,c6,c7⟩:=ag r;clear r;obtain⟨q,E⟩:∃q:Bool,q=(decide (k<o.items.length) && decide (k<400)):=⟨_,rfl⟩;have F:Hid _:=E;clear E;go_upto_region 3 with fail;go_cut [14] (fun c wx=>c=.bool q/\wx=wr)
 case first =>
  by_cases g:k<o.items.length
  .have t:(k:Int)<(o.items.length:Int):=by omega
   by_cases u:k<400
   .have y:(k:Int)<400:=by omega
    have z:Hid (q=true):=by rw[F.out];unfold Hid;rw[decide_eq_true g,decide_eq_true u];rfl
    go_wp2_with fail;go_meet
    case rel=>exact⟨by rw[z.out],rfl⟩
   .have y:¬(k:Int)<400:=by omega
    have z:Hid (q=false):=by rw[F.out];unfold Hid;rw[decide_eq_true g,decide_eq_false u];rfl
    go_wp2_with fail;go_meet
    case rel=>exact⟨by rw[z.out],rfl⟩
  .have t:¬(k:Int)<(o.items.length:Int):=by omega
   have z:Hid (q=false):=by rw[F.out];unfold Hid;rw[decide_eq_false g];rfl
   go_wp2_with fail;go_meet
   case rel=>exact⟨by rw[z.out],rfl⟩
 case rest =>
 obtain⟨rfl,A⟩:=hcut;rw[A];clear A
 cases q with
 | true =>
  obtain⟨g,ad⟩:k<o.items.length/\k<400:=by have h9:=F.out;simpa using h9.symm
  obtain⟨x,S⟩:∃x,o.items[k]? = some x:=⟨_,List.getElem?_eq_getElem g⟩;obtain⟨bb,oo,rfl,-,T,U⟩:=HI.out k x S;have y1:=(D.out.trans l.out).cell T;have y2:=(D.out.trans l.out).cell U;obtain⟨j,J⟩:∃j,min x.name.length 30000=j:=⟨_,rfl⟩;obtain⟨H,au⟩:∃H,min x.id.length 30000=H:=⟨_,rfl⟩;obtain⟨p,K⟩:∃p,min (m+j+H) 120000=p:=⟨_,rfl⟩;have V:min (x.name.length:Int) 30000=(j:Int):=by omega
  have a0:min (x.id.length:Int) 30000=(H:Int):=by omega
  have W:min ((m:Int)+j+H) 120000=(p:Int):=by omega
  have a1:j<=30000:=by omega
  have a5:H<=30000:=by omega
  have L:p<=120000:=by omega
  have B:IntKind.i64.wrap ((m:Int)+(j:Int))=(m:Int)+j:=IntWalk.i64_in _ (by omega);have a2:IntKind.i64.wrap ((m:Int)+(j:Int)+(H:Int))=(m:Int)+j+H:=IntWalk.i64_in _ (by omega);clear S J au K T U;go_upto_region 5 with fail;apply aj 20 [_,_,_,_,_,_,_,_,_,_,_,_,_,_,_,_,_,_,_,.int .i64 p] [none,none,none,none,none,none,none,none,none,none,none,none,none,none,none,none,none,none,none,none] [[],[],[1],[],[2,3],[4],[5],[6],[7],[0,8],[],[10],[],[11,12],[13],[14],[15],[16],[9,17],[18]] (by kernel_rfl) (by kernel_rfl) (by simp[ak])
  .trivial
  .simp (maxSteps:=1000000)only[List.take_succ_cons,List.take_zero,aw,aA,aa,Act.put,List.setIfInBounds_toArray,List.set_cons_zero,List.set_cons_succ,aK,aO,ak,List.getD_cons_zero,List.getD_cons_succ,and_true,true_and,forall_const];and_intros
   iterate 20 · intro xs wq E;intros;rename_i hR;have f2:=E.cell c2;have g1:=E.cell y1;have g2:=E.cell y2;go_simp;exact hR _ _ (Ext.refl _) rfl
  intro xs w5 X R;simp only[aP,Nat.zero_add,Nat.reduceAdd,and_true]at R;simp(maxSteps:=1000000)only[List.take_succ_cons,List.take_zero,List.drop_succ_cons,List.drop_zero,aa,Act.put,List.setIfInBounds_toArray,List.set_cons_zero,List.set_cons_succ,Nat.zero_add,Nat.reduceAdd,R];clear R;have a3:Hid (Ext G w5):=l.out.trans X;clear X V a0 W B a2;go_wp2_with fail;go_roundw
  case rel=>exact⟨k+1,p,by omega,by go_num,rfl,L,a3.out⟩
  case measure=>simp[intOf];omega
 | false =>
 clear c0 c1 c3 c5 c6 c7;obtain⟨w1,B⟩:∃x,wr=x:=⟨_,rfl⟩;rw[B]at l c2 c4 ⊢;clear B;have M:Hid (Ext G w1):=l.out;clear l c2 c4;go_wp2_with fail;go_loopw [3,5] (fun n i wr=>∃k m:Nat,k<=o.parents.length/\i=.int .i64 k/\n=.int .i64 m/\m<=120000/\Hid (Ext w1 wr)) (fun _ i _=>o.parents.length - (intOf i).toNat)
 case atStart=>exact⟨0,m,Nat.zero_le _,rfl,rfl,hm,Ext.refl _⟩
 case round =>
 obtain⟨k,m,R,rfl,rfl,hm,l⟩:=hrel;have r:=Ext.row (M.out.trans l.out) I.out;obtain⟨c0,c1,c2,c3,c4,c5,c6,c7⟩:=ag r;clear r;obtain⟨q,E⟩:∃q:Bool,q=(decide (k<o.parents.length) && decide (k<400)):=⟨_,rfl⟩;have F:Hid _:=E;clear E;go_upto_region 7 with fail;go_cut [45] (fun c wx=>c=.bool q/\wx=wr)
 case first =>
  by_cases g:k<o.parents.length
  .have t:(k:Int)<(o.parents.length:Int):=by omega
   by_cases u:k<400
   .have y:(k:Int)<400:=by omega
    have z:Hid (q=true):=by rw[F.out];unfold Hid;rw[decide_eq_true g,decide_eq_true u];rfl
    go_wp2_with fail;go_meet
    case rel=>exact⟨by rw[z.out],rfl⟩
   .have y:¬(k:Int)<400:=by omega
    have z:Hid (q=false):=by rw[F.out];unfold Hid;rw[decide_eq_true g,decide_eq_false u];rfl
    go_wp2_with fail;go_meet
    case rel=>exact⟨by rw[z.out],rfl⟩
  .have t:¬(k:Int)<(o.parents.length:Int):=by omega
   have z:Hid (q=false):=by rw[F.out];unfold Hid;rw[decide_eq_false g];rfl
   go_wp2_with fail;go_meet
   case rel=>exact⟨by rw[z.out],rfl⟩
 case rest =>
 obtain⟨rfl,A⟩:=hcut;rw[A];clear A
 cases q with
 | true =>
  obtain⟨g,ad⟩:k<o.parents.length/\k<400:=by have h9:=F.out;simpa using h9.symm
  obtain⟨bb,oo,rfl,hc⟩:=HP.out k g;have y1:=((D.out.trans M.out).trans l.out).cell (hc k g);obtain⟨x,S⟩:∃x,o.parents.getD k []=x:=⟨_,rfl⟩;rw[S]at y1;obtain⟨j,J⟩:∃j,min x.length 30000=j:=⟨_,rfl⟩;obtain⟨p,K⟩:∃p,min (m+j) 120000=p:=⟨_,rfl⟩;have V:min (x.length:Int) 30000=(j:Int):=by omega
  have W:min ((m:Int)+j) 120000=(p:Int):=by omega
  have a1:j<=30000:=by omega
  have L:p<=120000:=by omega
  have B:IntKind.i64.wrap ((m:Int)+(j:Int))=(m:Int)+j:=IntWalk.i64_in _ (by omega);clear S J K hc;go_wp2_with fail;go_roundw
  case rel=>exact⟨k+1,p,by omega,by go_num,rfl,L,l.out⟩
  case measure=>simp[intOf];omega
 | false =>
 have Y:Hid (Ext w wr):=(D.out.trans M.out).trans l.out;rcases yK (a:=(o.items.length:Int)<=400) (b:=(o.parents.length:Int)<=400) (c:=(m:Int)<=30000) (d:=(o.data.length:Int)<=30000) (e:=(o.tree.length:Int)<=30000) (f:=(o.msg.length:Int)<=30000)with N | ⟨N,Z⟩ | ⟨N,Z,h3⟩ | ⟨N,Z,h3,h4⟩ | ⟨N,Z,h3,h4,h5⟩ | ⟨N,Z,h3,h4,h5,h6⟩ | ⟨N,Z,h3,h4,h5,h6⟩
 case' inr.inr.inr.inr.inr.inr=>have a4:Hid (iy o):=⟨by omega,by omega,by omega,by omega,by omega⟩
 all_goals
  go_wp2;go_ret
  first
   | exact⟨⟨_,rfl,fun _=>a4.out⟩,Y.out⟩
   | exact⟨⟨_,rfl,fun h=>by cases h⟩,Y.out⟩
end
section
open Go Go.RowKit
variable [Inhabited bc]
structure Mop where
 kind:Int
 b:B8
 o:Ob
 id:B8
 f:Opn
def IsMop (w:World) (cs:List Value) (x:Mop):Prop:=∃a b c d e,cs=.int .i64 x.kind::a::.int .i64 x.o.kind::b::c::S8 x.o.tree::d::.int .i64 x.o.BL::.int .i64 x.o.I::S8 x.o.msg::S8 x.id::e/\OldB a x.b/\IsBytes w b x.o.data/\IsItms w c x.o.items/\IsStrs w d x.o.parents/\IsOpn w e x.f
variable {w:World} {x:Mop}
theorem IsMop.length {cs:List Value} (h:IsMop w cs x):cs.length=19:=by
 obtain⟨a,b,c,d,e,rfl,-,-,-,-,h⟩:=h;simp[(h.length).1]
abbrev lI (w:World) (v:Value) (l:List Mop):Prop:=ReadO w (IsMop w) v l
variable {v:Value} {l:List Mop}
theorem nT (h:lI w v l):∃a d,v=.slice a l.length d/\l.length<=d/\l.length<=140737488355328/\d<=9223372036854775807 /\
  ∀(k:Nat) x,l[k]? = some x->∃b o e,a=some ⟨b,o,none⟩/\IsMop w e x/\∀j u,e[j]? = some u->w.cell? ⟨b,o+k*19+j,none⟩=some u :=
 jz 19 (fun c x g=>g.length) (by omega) h
structure wG (l:List Mop):Prop where
 len:l.length<=60
 each:∀x∈l,iy x.o/\x.id.length<=400
 fs:eb (l.map Mop.f)=true
theorem Aq {k:Nat} (h:l[k]? = some x) (b:∀y∈l.take k,iy y.o/\y.id.length<=400) (c:iy x.o/\x.id.length<=400):∀y∈l.take (k+1),iy y.o/\y.id.length<=400:=fun y a=>by
 rw[nS h]at a;rcases List.mem_append.1 a with a | a
 .exact b y a
 .rw [List.mem_singleton.1 a];exact c
theorem yM {S:World} (U:Ext S w) (hv:lI S v l) :
  Calls Tryz.prog 6 #[v] w (AV (wG l) w):=by
 obtain⟨a,bt,rfl,h1,h2,h3,h4⟩:=nT hv;have H4:Hid _:=h4;have J:Hid (Ext S w):=U;clear h4 hv U;go_enter Tryz.func6,Tryz.ntmps6;go_wp2;go_loopw [3,4,5] (fun n v i wr=>∃(k m:Nat) (r:List (List Value)),k<=l.length/\k<=60/\i=.int .i64 k/\n=.int .i64 m/\m<=160000/\Hid (∀y∈l.take k,iy y.o/\y.id.length<=400)/\Hid (wr.ownsRow w.heap.size 44 8 v k r.flatten)/\Hid (Each (IsOpn S) r ((l.take k).map Mop.f))/\Hid (Ext w wr)) (fun _ _ i _=>l.length - (intOf i).toNat)
 case atStart=>exact⟨0,0,[],Nat.zero_le _,by omega,rfl,rfl,by omega,fun y hy=>(by simp at hy),World.ownsRow_nil _ _ _ _,Each.nil _,Ext.refl _⟩
 case round =>
 obtain⟨k,m,r,hk,bx,rfl,rfl,hm,HA,F,V,T⟩:=hrel;obtain⟨q,hq⟩:∃q:Bool,q=(decide (k<l.length) && decide (k<60)):=⟨_,rfl⟩;have W:Hid _:=hq;clear hq;go_upto_region 4 with fail;go_cut [13] (fun c wx=>c=.bool q/\wx=wr)
 case first =>
  by_cases t:k<l.length
  .have X:(k:Int)<(l.length:Int):=by omega
   by_cases K:k<60
   .have Y:(k:Int)<60:=by omega
    have Z:Hid (q=true):=by rw[W.out];unfold Hid;rw[decide_eq_true t,decide_eq_true K];rfl
    go_wp2_with fail;go_meet
    case rel=>exact⟨by rw[Z.out],rfl⟩
   .have Y:¬(k:Int)<60:=by omega
    have Z:Hid (q=false):=by rw[W.out];unfold Hid;rw[decide_eq_true t,decide_eq_false K];rfl
    go_wp2_with fail;go_meet
    case rel=>exact⟨by rw[Z.out],rfl⟩
  .have X:¬(k:Int)<(l.length:Int):=by omega
   have Z:Hid (q=false):=by rw[W.out];unfold Hid;rw[decide_eq_false t];rfl
   go_wp2_with fail;go_meet
   case rel=>exact⟨by rw[Z.out],rfl⟩
 case rest =>
 obtain⟨rfl,ad⟩:=hcut;rw[ad];clear ad
 cases q with
 | true =>
  obtain⟨t,K⟩:k<l.length/\k<60:=by have z:=W.out;simpa using z.symm
  obtain⟨x,L⟩:∃e,l[k]? = some e:=⟨_,List.getElem?_eq_getElem t⟩;obtain⟨b,o,cs,rfl,a5,g⟩:=H4.out k x L;obtain⟨vb,vd,vi,vp,fs,rfl,M,E,N,O,P⟩:=a5;have a6:Hid (IsOpn S fs x.f):=P;have au:Hid _:=L;obtain⟨b1,b2,rfl,-⟩:=id M.bytes;have bS:=M.bytes.len;have b0:=E.len;obtain⟨e1,e2,rfl,-⟩:=id E;obtain⟨i1,i2,rfl,-⟩:=id N;obtain⟨p1,p2,rfl,-⟩:=id O;obtain⟨ve,vl,rfl,hd,a0⟩:=id P;obtain⟨d1,d2,rfl,-⟩:=id hd.bytes;obtain⟨_,⟨q1,q2,rfl,-⟩,-⟩:=id a0;have d:=Ext.trans J.out T.out;have a1:Hid (IsOb wr (obV x.o (.slice e1 x.o.data.length e2) (.slice i1 x.o.items.length i2) (.slice p1 x.o.parents.length p2)) x.o):=⟨_,_,_,rfl,E.ext d,N.ext d,O.ext d⟩;have c1:=d.cell (g 1 _ rfl);have c2:=d.cell (g 2 _ rfl);have c3:=d.cell (g 3 _ rfl);have c4:=d.cell (g 4 _ rfl);have c5:=d.cell (g 5 _ rfl);have c6:=d.cell (g 6 _ rfl);have c7:=d.cell (g 7 _ rfl);have c8:=d.cell (g 8 _ rfl);have c9:=d.cell (g 9 _ rfl);have a2:=d.cell (g 10 _ rfl);have A:Hid (∀j u,([Value.int .i64 x.f.kind,.int .i64 x.f.mode,.int .i64 x.f.keep,.int .i64 x.f.BN,S8 x.f.path,S8 x.f.dest,.slice d1 x.f.data.length d2,.slice q1 x.f.plan.length q2])[j]? = some u->S.cell? ⟨b,o+k*19+11+j,none⟩=some u):=fun j u hu=>by
   have z:=g (11+j) u (by rw[Nat.add_comm];exact hu)
   rwa [<-Nat.add_assoc]at z
  obtain⟨G,a7⟩:∃G,min x.b.length 40000=G:=⟨_,rfl⟩;obtain⟨H,a8⟩:∃H,min (m+G) 160000=H:=⟨_,rfl⟩;have a9:min (x.b.length:Int) 40000=(G:Int):=by omega
  have a':min ((m:Int)+G) 160000=(H:Int):=by omega
  have b3:G<=40000:=by omega
  have b4:H<=160000:=by omega
  have bb:IntKind.i64.wrap ((m:Int)+(G:Int))=(m:Int)+G:=IntWalk.i64_in _ (by omega);clear L M E N O P hd a0 g d a7 a8;go_wp2_with fail;go_at_call 26;refine(yL _ x.o wr a1.out).mono ?_;rintro ex w2 ⟨⟨fb,rfl,p⟩,B⟩;have Q:Hid _:=p;have C:Hid (Ext w w2):=T.out.trans B;have D:Hid (w2.ownsRow w.heap.size 44 8 u4 k r.flatten):=al F.out B;replace c3:=B.cell c3;replace a2:=B.cell a2;clear p B a9 a' bb c1 c2 c4 c5 c6 c7 c8 c9 a1
  cases fb with
  | false =>
   go_wp2;go_ret;exact⟨⟨_,rfl,fun h=>by cases h⟩,C.out⟩
  | true =>
   by_cases bq:(400:Int)<(x.id.length:Int)
   .go_wp2;go_ret;exact⟨⟨_,rfl,fun h=>by cases h⟩,C.out⟩
   .have I:Hid (iy x.o/\x.id.length<=400):=⟨Q.out rfl,by omega⟩;have br:x.o.data.length<=30000:=I.out.1.data;obtain⟨n2,bd⟩:∃n2,min (H+x.o.data.length) 160000=n2:=⟨_,rfl⟩;have bs:min ((H:Int)+(x.o.data.length:Int)) 160000=(n2:Int):=by omega
    have a3:n2<=160000:=by omega
    have b5:IntKind.i64.wrap ((H:Int)+(x.o.data.length:Int))=(H:Int)+(x.o.data.length:Int):=IntWalk.i64_in _ (by omega);have d:=Ext.trans J.out C.out;have g0:=d.cell (A.out 0 _ rfl);have g1:=d.cell (A.out 1 _ rfl);have g2:=d.cell (A.out 2 _ rfl);have g3:=d.cell (A.out 3 _ rfl);have g4:=d.cell (A.out 4 _ rfl);have g5:=d.cell (A.out 5 _ rfl);have g6:=d.cell (A.out 6 _ rfl);have g7:=d.cell (A.out 7 _ rfl);simp only[Nat.add_zero]at g0;have b6:=C.out.size;clear bd d
    go_wp2_with (at_builtin;go_must (refine Ap rfl _ _ rfl w.heap.size _ k _ rfl (World.ownsRow.alloc D.out _) w2.heap.size 1 [.int .i64 x.f.kind,.int .i64 x.f.mode,.int .i64 x.f.keep,.int .i64 x.f.BN,S8 x.f.path,S8 x.f.dest,.slice d1 x.f.data.length d2,.slice q1 x.f.plan.length q2] rfl rfl (ab _ _) (by simp[Value.oneCell']) (by omega) (by simp;omega) ?_;intro v' w3 R bh))
    go_roundw
    case rel =>
     refine⟨k+1,n2,r++[[.int .i64 x.f.kind,.int .i64 x.f.mode,.int .i64 x.f.keep,.int .i64 x.f.BN,S8 x.f.path,S8 x.f.dest,.slice d1 x.f.data.length d2,.slice q1 x.f.plan.length q2]],by omega,by omega,by go_num,rfl,a3,Aq au.out HA.out I.out,?_,?_,ai (C.out.alloc _) (World.ownsRow.alloc D.out _) bh⟩
     .unfold Hid;rw[List.flatten_append];simpa using R
     .unfold Hid;rw[nS au.out,List.map_append];exact Each.snoc V.out a6.out
    case measure=>simp[intOf];omega
 | false =>
  by_cases b7:(l.length:Int)<=60
  .have bk:k=l.length:=by
    have z:=W.out
    by_cases h:k<l.length
    .rw [decide_eq_true h,decide_eq_true (show k<60 by omega)]at z;cases z
    .omega
   subst bk;have a4:Hid (uv wr u4 (l.map Mop.f)):=by
    have z:=V.out;rw[List.take_of_length_le (Nat.le_refl _)]at z;exact yJ (by rw[List.length_map];exact F.out) (z.imp (fun c x g=>g.ext (J.out.trans T.out))) (by rw[List.length_map];omega)
   have bl:Hid (∀y∈l,iy y.o/\y.id.length<=400):=by
    have z:=HA.out
    rwa [List.take_of_length_le (Nat.le_refl _)]at z
   by_cases b8:(m:Int)<=40000
   .obtain ⟨fb,p⟩:∃b,eb (l.map Mop.f)=b:=⟨_,rfl⟩;have Q:Hid _:=p;have A:Hid _:=uw (Ext.refl wr) a4.out;rw[p]at A;clear p
    go_wp2_with (go_at_call 27;go_must (refine Calls.mono A.out ?_;rintro ex w5 ⟨rfl,bo⟩))
    go_ret;exact⟨⟨_,rfl,fun h=>⟨by omega,bl.out,by rw[Q.out,h]⟩⟩,T.out.trans bo⟩
   .go_wp2;go_ret;exact⟨⟨_,rfl,fun h=>by cases h⟩,T.out⟩
  .go_wp2;go_ret;exact⟨⟨_,rfl,fun h=>by cases h⟩,T.out⟩
end
section
open Go Go.RowKit
variable {w:World} {bb oo:Nat} {l:B8}
theorem IsBytes.from {a:Nat} (k:Nat) (h:IsBytes w (.slice (some ⟨bb,oo,none⟩) l.length a) l) (y:k<=l.length) (j:Addr) (r:k<l.length->j=⟨bb,oo+k,none⟩):IsBytes w (.slice (some j) (l.length - k) (a - k)) (l.drop k):=by
 obtain⟨z,n,g,A,B,C,t⟩:=h;simp only[Value.slice.injEq,true_and]at g;obtain⟨rfl,rfl⟩:=g;have c:(l.drop k).length=l.length - k:=List.length_drop;unfold IsBytes;rw[c];refine⟨_,a - k,rfl,by omega,by omega,by omega,fun d=>?_⟩;have e:k<l.length:=by
  rcases Nat.lt_or_ge k l.length with h | h
  .exact h
  .rw [List.drop_eq_nil_of_le h]at d;simp at d
 obtain⟨b,o,g,x⟩:=t (by intro p;rw[List.map_eq_nil_iff]at p;subst p;simp at e);cases g;refine⟨bb,oo+k,by rw[r e],fun i u q=>?_⟩;rw[List.getElem?_map,List.getElem?_drop]at q;have:=x (k+i) u (by rw[List.getElem?_map];exact q)
 rwa [<-Nat.add_assoc]at this
def IsSrc (w:World) (g:Nat) (s:Src):Prop:=∃bb oo c,w.heap[g]? = some (.cells #[.slice (some ⟨bb,oo,none⟩) s.b.length c,.bool s.bad] 239 (0,0))/\IsBytes w (.slice (some ⟨bb,oo,none⟩) s.b.length c) s.b/\bb+2<g
variable {w':World} {g:Nat} {s:Src}
theorem IsSrc.ext (h:IsSrc w g s) (a:Ext w w'):IsSrc w' g s:=by
 obtain⟨bb,oo,c,b,d,e⟩:=h;exact⟨bb,oo,c,Ext.row a b,d.ext a,e⟩
theorem IsSrc.B' {b:Option Nat} (h:IsSrc w g s) (d:w.grownBy w' b) (j:∀k,b=some k->g<k):IsSrc w' g s:=by
 obtain⟨bb,oo,c,o,p,q⟩:=h;have i:=(Array.getElem?_eq_some_iff.1 o).1;refine⟨bb,oo,c,(d.block g i (fun e=>by have:=j g e.symm;omega)).trans o,?_,q⟩
 cases b with
 | none=>exact IsBytes.ext p (Below.grown (Ext.refl w) d (Nat.le_refl _) (fun k r=>by cases r))
 | some k=>exact Row.but p d (fun a n c t=>by cases t;have:=j k rfl;show bb≠k;omega)
theorem kL {a b:Value} {t:TypeId} {fr:Nat×Nat} (h:w.heap[g]? = some (.cells #[a,b] t fr)):w.cell? ⟨g,0,none⟩=some a/\w.cell? ⟨g,1,none⟩=some b:=by
 simp[World.cell?,h]
theorem IsBytes.set {n c o:Nat} {x:Value} (h:IsBytes w (.slice (some ⟨bb,oo,none⟩) n c) l) (b:bb+2<g):IsBytes (w.setCell ⟨g,o,none⟩ x) (.slice (some ⟨bb,oo,none⟩) n c) l :=
 Row.but h (aH w g o x) (fun a n c d=>by cases d;show bb≠g;omega)
theorem jj (g:Nat) (s:Src) (n:Nat) (w:World) (h:IsSrc w g s) :
  Calls Tryz.prog 207 #[.pointer (some ⟨g,0,none⟩),.int .i64 n] w fun e w'=>∃v,e=.returned v/\IsBytes w' v (az s n).2/\IsSrc w' g (az s n).1/\w.grownBy w' (some g):=by
 obtain⟨bb,oo,c,j,y,k⟩:=h;obtain⟨I,J⟩:=kL j;have K:w.frozen? ⟨g,0,none⟩=false:=by simp[World.frozen?,j]
 have L:w.frozen? ⟨g,1,none⟩=false:=by simp[World.frozen?,j]
 have p:Hid _:=j;have i:Hid _:=y;have d:Hid _:=k;have z:s.b.length<=c:=by
  obtain⟨_,_,A,a,-⟩:=y;cases A;exact a
 have G:c<=9223372036854775807:=by
  obtain⟨_,_,A,-,a,-⟩:=y;cases A;exact a
 obtain⟨b,r⟩:=s;have i:Hid (IsBytes w (.slice (some ⟨bb,oo,none⟩) b.length c) b):=i.out;dsimp only at I J p z;obtain⟨⟨B,t⟩,C⟩:∃q,az ⟨b,r⟩ n=q:=⟨_,rfl⟩;rw[C];have D:Hid _:=C;clear j y k C;go_enter Tryz.func207,Tryz.ntmps207
 cases r with
 | true =>
  obtain⟨rfl,rfl⟩:(⟨b,true⟩:Src)=B/\[]=t:=by
   have a:=D.out;unfold az at a;rw[if_pos (.inl rfl)]at a;exact⟨(Prod.mk.inj a).1,(Prod.mk.inj a).2⟩
  go_wp2;go_ret;refine⟨_,rfl,IsBytes.nil _,⟨bb,oo,c,?_,IsBytes.set i.out d.out,d.out⟩,aH _ _ _ _⟩;rw[heap_setCell_same w g 1 _ _ _ p.out];simp
 | false =>
  by_cases M:b.length<n
  .have E:(b.length:Int)<(n:Int):=by omega
   obtain⟨rfl,rfl⟩:(⟨b,true⟩:Src)=B/\[]=t:=by
    have a:=D.out;unfold az at a;rw[if_pos (.inr M)]at a;exact⟨(Prod.mk.inj a).1,(Prod.mk.inj a).2⟩
   go_wp2;go_ret;refine⟨_,rfl,IsBytes.nil _,⟨bb,oo,c,?_,IsBytes.set i.out d.out,d.out⟩,aH _ _ _ _⟩;rw[heap_setCell_same w g 1 _ _ _ p.out];simp
  .have E:¬(b.length:Int)<(n:Int):=by omega
   obtain⟨rfl,rfl⟩:(⟨b.drop n,false⟩:Src)=B/\b.take n=t:=by
    have a:=D.out;unfold az at a;rw[if_neg (by simp;omega)]at a;exact⟨(Prod.mk.inj a).1,(Prod.mk.inj a).2⟩
   have N:n<=c:=by omega
   by_cases u:c=n
   .subst u;have F:b.length=c:=by omega
    go_wp2;go_ret;refine⟨_,rfl,?_,⟨bb,oo,0,?_,?_,d.out⟩,aH _ _ _ _⟩
    .exact (IsBytes.take i.out (by omega)).set d.out
    .rw [heap_setCell_same w g 0 _ _ _ p.out];simp[F]
    .rw [List.drop_eq_nil_of_le (by omega)];exact⟨_,0,rfl,Nat.le_refl _,by omega,by simp,fun h=>absurd rfl h⟩
   .have H:¬c=n:=u;go_wp2;go_ret;refine⟨_,rfl,?_,⟨bb,oo+n,c - n,?_,?_,d.out⟩,aH _ _ _ _⟩
    .exact (IsBytes.take i.out (by omega)).set d.out
    .rw [heap_setCell_same w g 0 _ _ _ p.out];simp
    .have a:=(IsBytes.from n i.out (by omega) ⟨bb,oo+n,none⟩ (fun _=>rfl)).set (g:=g) (o:=0) (x:=.slice (some ⟨bb,oo+n,none⟩) (b.length - n) (c - n)) d.out;rw[List.length_drop];exact a
theorem tK (g:Nat) (s:Src) (w:World) (h:IsSrc w g s) :
  Calls Tryz.prog 206 #[.pointer (some ⟨g,0,none⟩)] w fun e w'=>e=.returned (.int .i64 ((bi s).2:Nat))/\IsSrc w' g (bi s).1/\w.grownBy w' (some g):=by
 have n:Hid _:=jj g s 1 w h;obtain⟨⟨E,t⟩,d⟩:∃q,az s 1=q:=⟨_,rfl⟩;have p:(bi s).1=E:=by unfold bi;rw[d]
 have u:(bi s).2=(t.headD 0).toNat:=by unfold bi;rw[d]
 have i:t.length<=1:=by
  have b:=congrArg Prod.snd d;unfold az at b;split at b
  .dsimp only at b;rw[<-b];simp
  .dsimp only at b;rw[<-b,List.length_take];omega
 rw[d]at n;rw[p,u];clear d p u h;go_enter Tryz.func206,Tryz.ntmps206;go_wp2_with fail;go_at_call 207;refine Calls.mono n.out ?_;rintro H F ⟨v,rfl,z,A,B⟩;have j:Hid _:=A;have k:Hid _:=B;obtain⟨a,c,rfl,I,J,K,C⟩:=z.get;clear A B n z
 cases t with
 | nil =>
  go_wp2;go_ret;exact⟨rfl,j.out,k.out⟩
 | cons x r =>
  obtain⟨bb,oo,rfl,D⟩:=C 0 (by simp);have L:F.cell? ⟨bb,oo,none⟩=some (.int .u8 x.toNat):=D 0 (by simp);have G:r=[]:=by
   cases r with
   | nil=>rfl
   | cons y r=>simp at i
  subst G;have o:Hid (wrap64 (x.toNat:Int)=(x.toNat:Int)):=IntWalk.wrap64_in _ (by have:=x.toNat_lt;omega);clear C D i;go_wp2;go_ret;exact⟨iz o.out,j.out,k.out⟩
theorem lJ (g:Nat) (s:Src) (w:World) (h:IsSrc w g s) :
  Calls Tryz.prog 208 #[.pointer (some ⟨g,0,none⟩)] w fun e w'=>e=.returned (S8 (bg s).2)/\IsSrc w' g (bg s).1/\w.grownBy w' (some g):=by
 have i:Hid _:=jj g s 32 w h;obtain⟨⟨x,t⟩,b⟩:∃q,az s 32=q:=⟨_,rfl⟩;have n:(bg s).1=x:=by unfold bg;rw[b]
 have o:(bg s).2=bX t:=by unfold bg;rw[b]
 have y:t.length<=32:=by
  have a:=congrArg Prod.snd b;unfold az at a;split at a
  .dsimp only at a;rw[<-a];simp
  .dsimp only at a;rw[<-a,List.length_take];omega
 rw[b]at i;rw[n,o];clear b n o h;go_enter Tryz.func208,Tryz.ntmps208;go_wp2_with fail;go_at_call 207;refine Calls.mono i.out ?_;rintro z A ⟨v,rfl,p,r,u⟩;have j:Hid _:=r;have k:Hid _:=u;have B:Hid _:=p;clear r u i p;go_wp2_with fail;go_at_call 55;refine(sM v t A B.out (by omega)).mono ?_;rintro z C ⟨rfl,c⟩;have d:Hid _:=c;clear c;go_wp2;go_ret;exact⟨rfl,IsSrc.ext j.out d.out,k.out.trans ((Ext.grown d.out).but _)⟩
theorem jk (g:Nat) (s:Src) (w:World) (h:IsSrc w g s) :
  Calls Tryz.prog 205 #[.pointer (some ⟨g,0,none⟩)] w fun e w'=>e=.returned (.int .i64 ((aJ false s).2:Nat))/\IsSrc w' g (aJ false s).1/\w.grownBy w' (some g):=by
 obtain⟨bb,oo,c,o,C,p⟩:=id h;have K:Hid (IsSrc w g s):=h;obtain⟨S,L⟩:=kL o;have D:=yB _ s.b w C;obtain⟨⟨n,en,A⟩,d⟩:∃q,cO s.b=q:=⟨_,rfl⟩;have i:aJ false s=if A≠0 then(⟨s.b,true⟩,0)else((az s en).1,n):=by
  unfold aJ;rw[d];simp
 rw[d]at D;obtain⟨⟨G,r⟩,H⟩:∃q,aJ false s=q:=⟨_,rfl⟩;rw[H]at i ⊢;have t:Hid _:=i;have I:Hid _:=D;have M:Hid _:=o;have N:Hid _:=C;have u:Hid _:=p;clear o C p D d i H h;go_enter Tryz.func205,Tryz.ntmps205;go_wp2_with fail;go_at_call 232;refine Calls.mono I.out ?_;rintro O B ⟨rfl,j⟩;have b:Hid (Ext w B):=j;have x:Hid _:=Ext.row j M.out;have P:B.frozen? ⟨g,1,none⟩=false:=by simp[World.frozen?,x.out]
 have Q:=b.out.cell L;clear j I
 try dsimp only
 by_cases a:A=0
 .have y:(A==0)=true:=by simpa using a
  obtain⟨z,rfl⟩:G=(az s en).1/\r=n:=by
   have k:=t.out;rw[if_neg (by simpa using a)]at k;exact⟨(Prod.mk.inj k).1,(Prod.mk.inj k).2⟩
  have E:Hid _:=z;clear a z;go_wp2_with fail;go_at_call 207;refine(jj g s en B (IsSrc.ext K.out b.out)).mono ?_;rintro O T ⟨v,rfl,-,J,o⟩;have R:Hid _:=J;have F:Hid _:=o;clear J o;go_wp2;go_ret;exact⟨rfl,by rw[E.out];exact R.out,((Ext.grown b.out).but _).trans F.out⟩
 .have y:(A==0)=false:=by simpa using a
  obtain⟨rfl,rfl⟩:G=⟨s.b,true⟩/\r=0:=by
   have k:=t.out;rw[if_pos a]at k;exact⟨(Prod.mk.inj k).1,(Prod.mk.inj k).2⟩
  clear a;go_wp2;go_ret;refine⟨rfl,⟨bb,oo,c,?_,IsBytes.set (IsBytes.ext N.out b.out) u.out,u.out⟩,((Ext.grown b.out).but _).trans (aH _ _ _ _)⟩;rw[heap_setCell_same B g 1 _ _ _ x.out];simp
end
section
open Go Go.RowKit
structure RdC (wB:World) (g:Nat) (s0:Src) (e:TypeId) (size:Nat) (base:Nat) (v:Value) (n:Nat) (cs news:List Value) (keep:List (Nat×Obj)) (zh zl za:Option Value) (w:World):Prop where
 Cr:zh=none->IsSrc w g s0
 Cl:∀u,zh=some u->u=S8 (bg s0).2/\IsSrc w g (bg s0).1
 kp:∀k o,(k,o)∈keep->w.heap[k]? = some o
 Cf:za=none->w.ownsRow base e size v n cs
 Co:∀u,za=some u->w.ownsRow base e size u (n+1) (cs++news)
 lit:∀u,zl=some u->za=none->∃gl,u=.slice (some ⟨gl,0,none⟩) 1 1/\base<=gl/\w.heap[gl]? = some (.cells news.toArray e (0,0))
 sz:base<=w.heap.size
 ext:Ext wB w
section
variable {wB w w':World} {g:Nat} {s0:Src} {e:TypeId} {size base:Nat} {v:Value} {n:Nat} {cs news:List Value} {keep:List (Nat×Obj)} {zh zl za:Option Value}
theorem RdC.start (c:IsSrc w g s0) (d:∀k o,(k,o)∈keep->w.heap[k]? = some o) (h:w.ownsRow base e size v n cs) (i:base<=w.heap.size) (j:Ext wB w) (a:Ext w w'):RdC wB g s0 e size base v n cs news keep none none none w' :=
 ⟨fun _=>c.ext a,fun u b=>(by cases b),fun k o l=>Ext.row a (d k o l),fun _=>al h a,fun u b=>(by cases b),fun u b=>(by cases b),Nat.le_trans i a.size,j.trans a⟩
theorem RdC.hash (h:RdC wB g s0 e size base v n cs news keep none zl za w) (C:g<base) (p:wB.heap.size<=g) (q:∀k o,(k,o)∈keep->k≠g) (r:IsSrc w' g (bg s0).1) (a:w.grownBy w' (some g)):RdC wB g s0 e size base v n cs news keep (some (S8 (bg s0).2)) zl za w':=by
 have own:∀u m d,w.ownsRow base e size u m d->w'.ownsRow base e size u m d:=fun u m d l=>l.kept a (by
  cases t:u.ownBlock with
  | none=>exact .inl rfl
  | some j=>exact .inr (fun x=>by cases x;have:=(l.lt _ t).1;omega))
 refine⟨fun h=>(by cases h),fun u b=>(by cases b;exact⟨rfl,r⟩),fun k o c=>?_,fun i=>own _ _ _ (h.Cf i),fun u b=>own _ _ _ (h.Co u b),fun u b i=>?_,Nat.le_trans h.sz a.size,Ext.but h.ext a p⟩
 .exact aS a (h.kp k o c) (q k o c)
 .obtain ⟨y,z,A,B⟩:=h.lit u b i;exact⟨y,z,A,aS a B (by omega)⟩
theorem RdC.Cp (h:RdC wB g s0 e size base v n cs news keep zh none za w):RdC wB g s0 e size base v n cs news keep zh (some (.slice (some ⟨w.heap.size,0,none⟩) 1 1)) za (w.alloc (.cells news.toArray e)):=by
 have a:Ext w (w.alloc (.cells news.toArray e)):=(Ext.refl w).alloc _;exact⟨fun c=>(h.Cr c).ext a,fun u b=>⟨(h.Cl u b).1,(h.Cl u b).2.ext a⟩,fun k o d=>Ext.row a (h.kp k o d),fun c=>al (h.Cf c) a,fun u b=>al (h.Co u b) a,fun u b c=>(by cases b;exact⟨_,rfl,h.sz,ab _ _⟩),Nat.le_trans h.sz a.size,h.ext.trans a⟩
theorem RdC.app {u:Value} {T:TypeId} {z:Value} {bytes:Nat} (h:RdC wB g s0 e size base v n cs news keep zh zl none w) (a:zl=some u) (K:g<base) (C:wB.heap.size<=base) (r:∀k o,(k,o)∈keep->k<base)
  (D:Tryz.prog.underlying T=some (.slice e)) (c:(Tryz.prog.info? e).map (fun i=>(i.zero,i.size,i.bytes))=some (some z,size,bytes)) (t:z.cells.size=size) (x:0<size) (E:news.length=1*size) (F:∀u∈news,u.oneCell'=true) (G:(n+1)*bytes<=140737488355328) (y:n+1<=1000000000) :
  ∃q w',(Builtin.append_ #[T,T] T #[v,u]).run Tryz.prog w=.ok q w'/\RdC wB g s0 e size base v n cs news keep zh zl (some q) w':=by
 obtain⟨L,rfl,H,d⟩:=h.lit u a rfl;obtain⟨q,w',I,J,j,M⟩:=gG T e z size bytes D c t x base v n cs (h.Cf rfl) _ 1 news (Row.new d (by decide) _ rfl) E F G y h.sz;have b:∀k,v.ownBlock=some k->base<=k:=fun k a=>((h.Cf rfl).lt k a).1
 have A:∀k o,k<base->w.heap[k]? = some o->w'.heap[k]? = some o:=fun k o a B=>(j.block k (Array.getElem?_eq_some_iff.1 B).1 (fun e=>by have:=b k e.symm;omega)).trans B
 exact⟨q,w',I,fun l=>(h.Cr l).B' j (fun k a=>by have:=b k a;omega),fun u p=>⟨(h.Cl u p).1,(h.Cl u p).2.B' j (fun k a=>by have:=b k a;omega)⟩,fun k o a=>A k o (r k o a) (h.kp k o a),fun l=>(by cases l),fun u p=>(by cases p;exact J),fun u p l=>(by cases l),Nat.le_trans h.sz j.size,Below.grown h.ext j h.ext.size (fun k a=>Nat.le_trans C (b k a))⟩
end
structure RdS (wB:World) (g4 g5 g6:Nat) (c4 c5:Array Value) (s:Src) (e:TypeId) (size base:Nat) (v:Value) (n:Nat) (cs:List Value) (w:World):Prop where
 src:IsSrc w g6 s
 r4:w.heap[g4]? = some (.cells c4 41 (0,0))
 r5:w.heap[g5]? = some (.cells c5 41 (0,0))
 own:w.ownsRow base e size v n cs
 sz:base<=w.heap.size
 ext:Ext wB w
 lt:wB.heap.size<=g4/\g4+1=g5/\g5+1=g6/\g6<base
section
variable {wB w w':World} {g4 g5 g6:Nat} {c4 c5:Array Value} {s s':Src} {e:TypeId} {size base:Nat} {v:Value} {n:Nat} {cs:List Value}
theorem RdS.step (h:RdS wB g4 g5 g6 c4 c5 s e size base v n cs w) (b:IsSrc w' g6 s') (a:w.grownBy w' (some g6)):RdS wB g4 g5 g6 c4 c5 s' e size base v n cs w':=by
 obtain⟨g,i,k,l⟩:=h.lt;refine⟨b,aS a h.r4 (by omega),aS a h.r5 (by omega),h.own.kept a ?_,Nat.le_trans h.sz a.size,Ext.but h.ext a (by omega),h.lt⟩
 cases c:v.ownBlock with
 | none=>exact .inl rfl
 | some j=>exact .inr (fun d=>by cases d;have:=(h.own.lt _ c).1;omega)
variable {news:List Value}
theorem RdS.Dy (h:RdS wB g4 g5 g6 c4 c5 s e size base v n cs w) (b:Ext w w'):RdC wB g6 s e size base v n cs news [(g4,.cells c4 41 (0,0)),(g5,.cells c5 41 (0,0))] none none none w' :=
 RdC.start h.src (fun k o a=>by
  simp only[List.mem_cons,Prod.mk.injEq,List.not_mem_nil,or_false]at a;rcases a with⟨rfl,rfl⟩ | ⟨rfl,rfl⟩
  .exact h.r4
  .exact h.r5) h.own h.sz h.ext b
variable {zl:Option Value}
theorem RdC.DA {u x:Value} (a:wB.heap.size<=g4/\g4+1=g5/\g5+1=g6/\g6<base) (h:RdC wB g6 s e size base v n cs news [(g4,.cells c4 41 (0,0)),(g5,.cells c5 41 (0,0))] (some x) zl (some u) w):RdS wB g4 g5 g6 c4 c5 (bg s).1 e size base u (n+1) (cs++news) w :=
 ⟨(h.Cl x rfl).2,h.kp _ _ (by simp),h.kp _ _ (by simp),h.Co u rfl,h.sz,h.ext,a⟩
theorem RdC.k5 {c a:Nat} {d b:Obj} {g i:Option Value} (h:RdC wB g6 s e size base v n cs news [(c,d),(a,b)] g zl i w):w.heap[a]? = some b:=h.kp _ _ (by simp)
theorem RdS.put (h:RdS wB g4 g5 g6 c4 c5 s e size base v n cs w) (j:Nat) (x:Value) {c6:Array Value} (i:c5.setIfInBounds j x=c6):RdS wB g4 g5 g6 c4 c6 s e size base v n cs (w.setCell ⟨g5,j,none⟩ x):=by
 obtain⟨t,u,y,z⟩:=h.lt;have b:=aH w g5 j x;obtain⟨g,l,c,o,p,q⟩:=h.src;refine⟨⟨g,l,c,aS b o (by omega),?_,q⟩,aS b h.r4 (by omega),?_,h.own.kept b ?_,Nat.le_trans h.sz b.size,Ext.but h.ext b (by omega),h.lt⟩
 .exact Row.but p b (fun a n c d=>by cases d;show g≠g5;omega)
 .rw [heap_setCell_same w g5 j _ _ _ h.r5,i]
 .cases r:v.ownBlock with
  | none=>exact .inl rfl
  | some k=>exact .inr (fun d=>by cases d;have:=(h.own.lt _ r).1;omega)
end
theorem eD (s:Src) (n:Nat):(az s n).1.b.length<=s.b.length:=by
 unfold az;split
 .exact Nat.le_refl _
 .simp
theorem cZ (a:Bool) (s:Src):(aJ a s).1.b.length<=s.b.length:=by
 unfold aJ;split
 .exact Nat.le_refl _
 .exact eD _ _
variable {s sA:Src}
theorem rs (h:s.bad=false) (e:(bi s).1=sA):sA.bad=false->sA.b.length+1<=s.b.length:=by
 subst e;unfold bi az;split
 .intro a;cases a
 .rename_i b;intro _;dsimp only;rw[List.length_drop];simp only[not_or,Nat.not_lt]at b;omega
theorem fV (s:Src):(bg s).1.b.length<=s.b.length:=eD _ _
variable {n:Nat}
theorem fW (h:(az s n).1.bad=false):s.bad=false:=by
 unfold az at h;split at h
 .cases h
 .exact h
theorem yN (h:(aJ false s).1.bad=false):s.bad=false:=by
 unfold aJ at h;split at h
 .cases h
 .exact fW h
theorem yO (s:Src):(aJ false s).2<=72057594037927936:=by
 unfold aJ;split
 .exact Nat.zero_le _
 .rename_i h;simp only[not_or,Decidable.not_not]at h;exact(ri h.1).2.2
theorem wH {sB sC sD:Src} (g:(bi s).1=sA) (a:(aJ false sA).1=sB) (b:(az sB n).1=sC) (c:(bg sC).1=sD) (h:sD.bad=false):sA.bad=false:=by
 subst c;have d:=fW h;subst b;have e:=fW d;subst a;exact yN e
theorem yP:(Tryz.prog.info? 130).map (fun i=>(i.zero,i.size,i.bytes))=some (some (.agg #[.int .i64 0,S8 [],S8 []]),3,40):=by kernel_rfl
def IsObT (w:World) (v:Value) (o:Ob):Prop:=∃a b c,v=obV o a b c/\IsBytes w a o.data/\IsItms w b o.items/\IsStrs w c o.parents/\TypB w a/\Typed 130 w b/\Typed 9 w c
variable {w w':World} {v:Value} {o:Ob}
theorem IsObT.ext (h:IsObT w v o) (a:Ext w w'):IsObT w' v o:=by
 obtain⟨b,c,d,rfl,e,g,i,j,k,l⟩:=h;exact⟨b,c,d,rfl,e.ext a,g.ext a,i.ext a,j.keep (KeepB.BO a),k.keep (Keep.BO a),l.keep (Keep.BO a)⟩
theorem IsObT.ob (h:IsObT w v o):IsOb w v o:=by
 obtain⟨a,b,c,rfl,d,e,g,-⟩:=h;exact⟨a,b,c,rfl,d,e,g⟩
theorem IsObT.put {g:Nat} {cs:Array Value} {fr:Nat×Nat} (h:IsObT w v o) (a:w.grownBy w' (some g)) (b:w.heap[g]? = some (.cells cs 41 fr)):IsObT w' v o:=by
 obtain⟨l,n,p,rfl,q,r,t,c,d,e⟩:=h;have i:KeepB w w':=KeepB.BR a b (by kernel_rfl);have j:Keep 130 w w':=Keep.BR a b (by decide);have k:Keep 9 w w':=Keep.BR a b (by decide);exact⟨l,n,p,rfl,Row.B2 q c i,Row.keep r d j,Row.keep t e k,c.keep i,d.keep j,e.keep k⟩
abbrev obC (k:Int) (a b:Value) (t:B8) (c:Value) (st d:Int) (e:B8):Array Value:=#[.int .i64 k,a,b,S8 t,c,.int .i64 st,.int .i64 d,S8 e]
theorem bW:(Tryz.prog.info? 41).map (·.size)=some 8:=by kernel_rfl
theorem dK (w:World) (o:Obj):(w.alloc o).heap.size=w.heap.size+1:=Array.size_push ..
theorem AW (w:World) (a b c:Obj):(((w.alloc a).alloc b).alloc c).heap[w.heap.size]? = some a/\(((w.alloc a).alloc b).alloc c).heap[w.heap.size+1]? = some b/\(((w.alloc a).alloc b).alloc c).heap[w.heap.size+1+1]? = some c/\Ext w (((w.alloc a).alloc b).alloc c)/\(((w.alloc a).alloc b).alloc c).heap.size=w.heap.size+1+1+1:=by
 have d:=dK w a;have e:=dK (w.alloc a) b;have i:=dK ((w.alloc a).alloc b) c;have j:Ext (w.alloc a) ((w.alloc a).alloc b):=(Ext.refl _).alloc _;have g:Ext ((w.alloc a).alloc b) (((w.alloc a).alloc b).alloc c):=(Ext.refl _).alloc _;refine⟨Ext.row (j.trans g) (ab w a),Ext.row g ?_,?_,(((Ext.refl w).alloc a).alloc b).alloc c,by rw[i,e,d]⟩
 .have h:=ab (w.alloc a) b
  rwa [d]at h
 .have h:=ab ((w.alloc a).alloc b) c
  rwa [e,d]at h
theorem wI (y:Nat) (bb oo c:Nat) (b:B8) (w:World) (hv:IsBytes w (.slice (some ⟨bb,oo,none⟩) b.length c) b) (fj:bb<w.heap.size) (hl:b.length<=10000000) :
  Calls Tryz.prog 149 #[.int .i64 y,.slice (some ⟨bb,oo,none⟩) b.length c] w fun e w'=>(∃u,e=.returned u/\IsObT w' u (bV false y b).2)/\Ext w w':=by
 have HV:Hid _:=hv;obtain⟨⟨s9,o9⟩,hq⟩:∃q,bV false y b=q:=⟨_,rfl⟩;rw[hq];have HQ:Hid _:=hq;clear hv hq;go_enter Tryz.func149,Tryz.ntmps149;go_upto_region 4 with fail;obtain⟨w3,bk⟩:∃w3,w3=((w.alloc (.cells (obC 0 (.slice none 0 0) (.slice none 0 0) [] (.slice none 0 0) 0 0 []) 41)).alloc (.cells (obC y (.slice none 0 0) (.slice none 0 0) [] (.slice none 0 0) 0 0 []) 41)).alloc (.cells #[.slice (some ⟨bb,oo,none⟩) b.length c,.bool false] 239):=⟨_,rfl⟩;obtain⟨r4,r5,r6,bl,bo⟩:=AW w (.cells (obC 0 (.slice none 0 0) (.slice none 0 0) [] (.slice none 0 0) 0 0 []) 41) (.cells (obC y (.slice none 0 0) (.slice none 0 0) [] (.slice none 0 0) 0 0 []) 41) (.cells #[.slice (some ⟨bb,oo,none⟩) b.length c,.bool false] 239);rw[<-bk]at r4 r5 r6 bl bo;unfold obC at bk;rw[<-bk];obtain⟨O,cm⟩:∃g,w.heap.size=g:=⟨_,rfl⟩;have ff:bb<O:=by omega
 rw[cm]at r4 r5 r6 bo ⊢;obtain⟨H,d8⟩:∃g,O+1=g:=⟨_,rfl⟩;rw[d8]at r5 r6 bo ⊢;obtain⟨l,d9⟩:∃g,H+1=g:=⟨_,rfl⟩;rw[d9]at r6 bo ⊢;have HS:Hid (IsSrc w3 l ⟨b,false⟩):=⟨bb,oo,c,r6,IsBytes.ext HV.out bl,by omega⟩;have a6:Hid (Ext w w3):=bl;have R4:Hid _:=r4;have R5:Hid _:=r5;have X:Hid (w.heap.size=O):=cm;clear bk r4 r5 r6 bl cm
 by_cases k1:y=1
 .subst k1;obtain⟨rfl,rfl⟩:(⟨[],false⟩:Src)=s9/\(⟨1,b,[],[],[],0,0,[]⟩:Ob)=o9:=by
   have p:=HQ.out;unfold bV at p;rw[if_pos (show((1:Nat):Int)=1 from rfl)]at p;exact⟨(Prod.mk.inj p).1,(Prod.mk.inj p).2⟩
  go_wp2_with fail;go_at_call 54;refine(eB _ b w3 (IsBytes.ext HV.out a6.out) (by omega)).mono ?_;rintro e w4 ⟨⟨vb,rfl,hd⟩,a7⟩;have d':=hd.bytes;obtain⟨J,K,rfl,-⟩:=d';have ea:Hid _:=Ext.row a7 R4.out;have bq:=Ext.row a7 R5.out;have cn:w4.frozen? ⟨H,1,none⟩=false:=by simp[World.frozen?,bq]
  have y5:w4.cell? ⟨H,1,none⟩=some (.slice none 0 0):=(cell_of_row _ _ 1 _ _ _ bq).trans rfl;have HD:Hid _:=hd;have dn:Hid _:=bq;have ec:Hid (Ext w w4):=a6.out.trans a7;have a3:=a7.size;clear hd a7 bq;go_upto_region 23 with fail;obtain⟨w5,S⟩:∃w5,w5=w4.setCell ⟨H,1,none⟩ (.slice J b.length K):=⟨_,rfl⟩;have T:w4.grownBy w5 (some H):=by rw[S];exact aH _ _ _ _
  have R5:Hid (w5.heap[H]? = some (.cells (obC 1 (.slice J b.length K) (.slice none 0 0) [] (.slice none 0 0) 0 0 []) 41 (0,0))):=by
   unfold Hid;rw[S,heap_setCell_same w4 H 1 _ _ _ dn.out];simp
  have R4:Hid _:=aS T ea.out (by omega);have ef:Hid (Ext w w5):=Ext.but ec.out T (by have:=X.out;omega);rw[<-S];have eg:Hid (IsBytes w5 (.slice J b.length K) b/\∀a n cc,Value.slice J b.length K=.slice (some a) n cc->w3.heap.size<=a.block):=by
   have dq:=HD.out.CK;refine⟨Row.but HD.out.bytes T (fun a n cc he=>?_),fun a n cc he=>(by cases he;exact(dq a.block rfl).1)⟩;cases he;have:=(dq a.block rfl).1;omega
  have eh:Hid (TypB w5 (.slice J b.length K)):=HD.out.typed.keep (KeepB.BR T dn.out (by kernel_rfl));clear S T cn y5;obtain⟨q0,q1,q2,q3,q4,q5,q6,q7⟩:=ag R5.out;have I:=R4.out
  go_wp2_with (refine wpList_store_row rfl 41 (.tmp 4) (.tmp 95) rfl O (obC 1 (.slice J b.length K) (.slice none 0 0) [] (.slice none 0 0) 0 0 []) rfl rfl 41 _ I bW rfl (by simp[Value.oneCell']) ?_)
  refine bodyPost_ret (results_cell_row rfl _ _ O 41 (obC 1 (.slice J b.length K) (.slice none 0 0) [] (.slice none 0 0) 0 0 []) (0,0) _ rfl (setRow_heap _ _ _ _ _ _ I) Tryz.underlying41 rfl bW) rfl ?_;refine⟨⟨_,rfl,?_⟩,Ext.but ef.out (ae _ _ _) (Nat.le_of_eq X.out)⟩;exact IsObT.put (o:=⟨1,b,[],[],[],0,0,[]⟩) ⟨.slice J b.length K,.slice none 0 0,.slice none 0 0,rfl,eg.out.1,Row.nil _,Row.nil _,eh.out,Typed.nil _ _ _ _,Typed.nil _ _ _ _⟩ (ae _ _ _) I
 have b7:¬((y:Nat):Int)=1:=by omega
 have b1:(((y:Nat):Int)==1)=false:=by simpa using b7
 by_cases k2:y=2
 .subst k2;have br:Hid (o9=⟨2,[],(cK false (aJ false ⟨b,false⟩).2 (aJ false ⟨b,false⟩).1 []).2,[],[],0,0,[]⟩):=by
   have p:=HQ.out;unfold bV at p;rw[if_neg (show ¬((2:Nat):Int)=1 by decide),if_pos (show((2:Nat):Int)=2 from rfl)]at p;exact(Prod.mk.inj p).2.symm
  have co:=cZ false ⟨b,false⟩;have ds:=yO ⟨b,false⟩;have cp:=jk l ⟨b,false⟩ w3 HS.out;obtain⟨⟨s1,N⟩,d0⟩:∃q,aJ false ⟨b,false⟩=q:=⟨_,rfl⟩;rw[d0]at cp br co ds;have d1:Hid _:=cp;obtain⟨RS,cq⟩:∃r,(cK false N s1 []).2=r:=⟨_,rfl⟩;have ek:Hid _:=cq;dsimp only at br co ds;rw[cq]at br;clear cp d0 cq HQ;go_wp2_with fail;go_at_call 205;refine Calls.mono d1.out ?_;rintro e9 w4 ⟨rfl,a3,U⟩;have eo:Hid (RdS w O H l (obC 0 (.slice none 0 0) (.slice none 0 0) [] (.slice none 0 0) 0 0 []) (obC 2 (.slice none 0 0) (.slice none 0 0) [] (.slice none 0 0) 0 0 []) s1 130 3 (l+1) (.slice none 0 0) 0 [] w4) :=
   RdS.step ⟨HS.out,R4.out,R5.out,World.ownsRow_nil _ _ _ _,by omega,a6.out,by have:=X.out;omega⟩ a3 U
  clear a3 U d1 R4 R5 HS;go_wp2_with fail;go_loopw [8] (fun i wr=>∃(k:Nat) (s:Src) (d:List Itm) (v:Value),k<=N/\i=.int .i64 k/\Hid ((cK false (N - k) s d).2=RS)/\Hid (RdS w O H l (obC 0 (.slice none 0 0) (.slice none 0 0) [] (.slice none 0 0) 0 0 []) (obC 2 (.slice none 0 0) v [] (.slice none 0 0) 0 0 []) s 130 3 (l+1) v d.length (d.flatMap itC) wr)/\Hid ((s.bad=false->d.length+s.b.length<=b.length)/\d.length<=b.length+1)) (fun i _=>N - (intOf i).toNat)
  case atStart=>exact⟨0,s1,[],.slice none 0 0,Nat.zero_le _,rfl,ek,eo,(fun h=>by have:=co;simpa using this),by simp⟩
  case round =>
  obtain⟨k,s,d,v,F,rfl,HI,V,cs⟩:=hrel;obtain⟨sb,L⟩:∃x,s.bad=x:=⟨_,rfl⟩;obtain⟨er,es,cx,Y,-,-⟩:=V.out.src;rw[L]at Y;have y1:=(kL Y).2;have Z:Hid _:=L;clear Y L
  by_cases E:k=N\/sb=true
  .have bs:Hid (RS=d):=by
    unfold Hid;rw[<-HI.out];rcases E with h | h
    .rw [h,Nat.sub_self];rfl
    .cases ev:N - k with
     | zero=>rfl
     | succ j =>
      have p:=Z.out;rw[h]at p;rw[cK,if_pos p]
   have R4:Hid _:=V.out.r4;have R5:Hid _:=V.out.r5;have ct:∃J Q K,v=.slice J Q K:=by
    rcases V.out.own.2 with⟨h,-⟩ | ⟨g,c,cu,h,-⟩
    iterate 2
     .exact ⟨_,_,_,h⟩
   obtain⟨J,Q,K,rfl⟩:=ct;have ad:(¬(k:Int)<(N:Int))\/((k:Int)<(N:Int)/\sb=true):=by
    rcases E with h | h
    .left;omega
    .by_cases ex:k<N
     .exact .inr ⟨by omega,h⟩
     .left;omega
   clear E;rcases ad with hc | ⟨hc,L⟩
   case' inr=>subst L
   all_goals
    go_upto_region 23 with fail;obtain⟨q0,q1,q2,q3,q4,q5,q6,q7⟩:=ag R5.out;have I:=R4.out
    go_wp2_with (refine wpList_store_row rfl 41 (.tmp 4) (.tmp 95) rfl O (obC 2 (.slice none 0 0) (.slice J Q K) [] (.slice none 0 0) 0 0 []) rfl rfl 41 _ I bW rfl (by simp[Value.oneCell']) ?_)
    refine bodyPost_ret (results_cell_row rfl _ _ O 41 (obC 2 (.slice none 0 0) (.slice J Q K) [] (.slice none 0 0) 0 0 []) (0,0) _ rfl (setRow_heap _ _ _ _ _ _ I) Tryz.underlying41 rfl bW) rfl ?_;refine⟨⟨_,rfl,?_⟩,Ext.but V.out.ext (ae _ _ _) (Nat.le_of_eq X.out)⟩;rw[br.out,bs.out];exact IsObT.put (o:=⟨2,[],d,[],[],0,0,[]⟩) ⟨.slice none 0 0,.slice J Q K,.slice none 0 0,rfl,Row.nil _,Row.BM V.out.own (by have:=cs.out.2;show d.length<=140737488355328;omega),Row.nil _,TypB.nil _ _ _,Typed.BM V.out.own,Typed.nil _ _ _ _⟩ (ae _ _ _) I
  .have cv:k<N:=by omega
   have a8:Hid (k<N):=cv;have fi:k<72057594037927936:=by omega
   have c0:sb=false:=by
    cases sb with
    | false=>rfl
    | true=>exact absurd (.inr rfl) E
   subst c0;have ey:(k:Int)<(N:Int):=by omega
   obtain⟨j,D⟩:∃j,N - k=j+1:=⟨N - k - 1,by omega⟩;obtain⟨⟨sA,m⟩,hA⟩:∃q,bi s=q:=⟨_,rfl⟩;obtain⟨⟨sB,nn⟩,hB⟩:∃q,aJ false sA=q:=⟨_,rfl⟩;obtain⟨⟨sC,nm⟩,hC⟩:∃q,az sB nn=q:=⟨_,rfl⟩;obtain⟨⟨sD,hs⟩,hD⟩:∃q,bg sC=q:=⟨_,rfl⟩;have d2:ew false s=(sD,⟨m,nm,hs⟩):=by
    unfold ew;rw[hA];dsimp only;rw[hB];dsimp only;rw[hC];dsimp only;rw[hD]
   have c1:Hid ((cK false (N - (k+1)) sD (d++[⟨m,nm,hs⟩])).2=RS):=by
    have p:=HI.out;rw[D,cK,if_neg (by rw[Z.out];simp),d2]at p;rw[show N - (k+1)=j by omega];exact p
   have a9:=rs Z.out (by rw[hA]:(bi s).1=sA);have c2:=cZ false sA;have c3:=eD sB nn;have c4:=fV sC;rw[hB]at c2;rw[hC]at c3;rw[hD]at c4;have a':=wH (s:=s) (sA:=sA) (sB:=sB) (sC:=sC) (sD:=sD) (by rw[hA]) (by rw[hB]) (by rw[hC]) (by rw[hD]);have b8:Hid ((sD.bad=false->(d++[(⟨m,nm,hs⟩:Itm)]).length+sD.b.length<=b.length)/\(d++[(⟨m,nm,hs⟩:Itm)]).length<=b.length+1):=by
    have p:=cs.out.1 Z.out;refine⟨fun h=>?_,by rw[List.length_append];simp only[List.length_cons,List.length_nil];omega⟩;have h8:=a9 (a' h);rw[List.length_append];simp only[List.length_cons,List.length_nil]at c2 c3 c4 ⊢;omega
   have bd:=tK l s wr V.out.src;rw[hA]at bd;have b':Hid _:=bd;have ca:Hid (∀w',IsSrc w' l sA->Calls Tryz.prog 205 #[.pointer (some ⟨l,0,none⟩)] w' fun e t=>e=.returned (.int .i64 (nn:Nat))/\IsSrc t l sB/\w'.grownBy t (some l)):=fun w' h=>by
    have p:=jk l sA w' h
    rwa [hB]at p
   have cb:Hid (∀w',IsSrc w' l sB->Calls Tryz.prog 207 #[.pointer (some ⟨l,0,none⟩),.int .i64 nn] w' fun e t=>∃v,e=.returned v/\IsBytes t v nm/\IsSrc t l sC/\w'.grownBy t (some l)):=fun w' h=>by
    have p:=jj l sB nn w' h
    rwa [hC]at p
   have HD:Hid (bg sC=(sD,hs)):=hD;clear bd hA hB hC hD d2 a9 a' c2 c3 c4 E D HI cs;go_wp2_with fail;go_at_call 206;refine Calls.mono b'.out ?_;rintro e9 wa ⟨rfl,B,C⟩;have a4:Hid _:=V.out.step B C;clear B C b' V y1;go_wp2_with fail;go_at_call 205;refine(ca.out wa a4.out.src).mono ?_;rintro e9 wb ⟨rfl,B,C⟩;have c5:Hid _:=a4.out.step B C;clear B C ca a4;go_wp2_with fail;go_at_call 207;refine(cb.out wb c5.out.src).mono ?_;rintro e9 wc ⟨vt,rfl,a0,B,C⟩;have c7:Hid _:=c5.out.step B C;have d3:=dr a0;obtain⟨ta,tc,rfl,-⟩:=id a0;have y5:=(ag c7.out.r5).2.2.1;clear a0 B C cb c5;have bt:Hid (d.length<=10000001):=by
    have:=b8.out.2;rw[List.length_append]at this;simp only[List.length_cons,List.length_nil]at this;show d.length<=10000001;omega
   have c8:Hid (∀w',IsSrc w' l sC->Calls Tryz.prog 208 #[.pointer (some ⟨l,0,none⟩)] w' fun e t=>e=.returned (S8 (bg sC).2)/\IsSrc t l (bg sC).1/\w'.grownBy t (some l)):=fun w' h=>lJ l sC w' h
   obtain⟨l1,l2,l3,l4⟩:=c7.out.lt;have bh:Hid (∀k o,(k,o)∈[(O,Obj.cells (obC 0 (.slice none 0 0) (.slice none 0 0) [] (.slice none 0 0) 0 0 []) 41 (0,0)),(H,Obj.cells (obC 2 (.slice none 0 0) v [] (.slice none 0 0) 0 0 []) 41 (0,0))]->k≠l/\k<l+1):=fun k o F=>by
    simp only[List.mem_cons,Prod.mk.injEq,List.not_mem_nil,or_false]at F;rcases F with⟨rfl,-⟩ | ⟨rfl,-⟩ <;> omega
   have hB:w.heap.size<=l:=by omega
   go_upto_region 13 with fail;apply aI 10 (fun z w'=>RdC w l sC 130 3 (l+1) v d.length (d.flatMap itC) (itC ⟨m,nm,(bg sC).2⟩) [(O,Obj.cells (obC 0 (.slice none 0 0) (.slice none 0 0) [] (.slice none 0 0) 0 0 []) 41 (0,0)),(H,Obj.cells (obC 2 (.slice none 0 0) v [] (.slice none 0 0) 0 0 []) 41 (0,0))] (z 5) (z 7) (z 8) w') [false,false,false,false,false,true,false,true,true,false] [_,v,_,_,_,undef,.agg #[.int .i64 m,S8 nm,S8 (bg sC).2],undef,undef,_] [none,none,none,none,none,none,none,none,none,none] [[],[0],[],[],[],[4],[2,3,5],[6],[1,7],[]] (by kernel_rfl) (by kernel_rfl) rfl
   .exact RdS.Dy c7.out ⟨rfl,rfl,rfl,Nat.le_refl _,fun _ _=>rfl⟩
   .simp (maxSteps:=1000000)only[cY,cG,bP,cA,cN,List.getD_cons_zero,List.getD_cons_succ,Bool.false_eq_true,if_false,if_true,and_true,true_and,forall_const,Nat.zero_add,Nat.reduceAdd,List.take_succ_cons,List.take_zero,aa,Act.put,List.setIfInBounds_toArray,List.set_cons_zero,List.set_cons_succ];and_intros
    iterate 5 · intro M z wq D;intros;rename_i P;have f2:=(ag D.k5).2.2.1;go_simp;exact P _ _ D rfl
    .intro M z wq D hz F R P;rw[hz]at D;go_simp;exact(c8.out wq (D.Cr rfl)).mono (by rintro e' w' ⟨rfl,h1,h2⟩;exact⟨_,rfl,P _ _ (D.hash (Nat.lt_succ_self _) hB (fun k o F=>(bh.out k o F).1) h1 h2)⟩)
    .intro M z wq D F R P;obtain⟨bx,bS,eE⟩:=F;obtain⟨e5,-⟩:=D.Cl _ eE;rw[e5];go_simp;exact P _ _ D rfl
    .intro M z wq D hz F R P;rw[hz]at D;go_simp;exact P _ _ D.Cp
    .intro M z wq D hz F R P;obtain⟨bx,bS⟩:=F;rw[hz]at D;obtain⟨v',w',hr,c9⟩:=D.app bS (Nat.lt_succ_self _) (by omega) (fun k o F=>(bh.out k o F).2) Tryz.underlying38 yP rfl (by omega) rfl (by simp[itC,Value.oneCell']) (by have:=bt.out;omega) (by have:=bt.out;omega);apply et (.tmp 48) (.tmp 54) 38 38 (v:=M 1) (xv:=M 7) (v':=v') (w':=w')
     iterate 4
      .rfl
     .rw [bx];exact hr
     .exact P _ _ c9
    .intro M z wq D;intros;rename_i P;have f2:=(ag D.k5).2.2.1;go_simp;exact P _ _ D rfl
   intro M wd a1 F;simp only[cX,List.getD_cons_zero,List.getD_cons_succ,Bool.false_eq_true,if_false,if_true]at a1;simp only[bU,Nat.zero_add,Nat.reduceAdd,and_true]at F;simp(maxSteps:=1000000)only[List.drop_succ_cons,List.drop_zero,Nat.zero_add,Nat.reduceAdd,List.take_succ_cons,List.take_zero,aa,Act.put,List.setIfInBounds_toArray,List.set_cons_zero,List.set_cons_succ,F];clear F;generalize M 5=x5 at *;generalize M 7=x7 at *;generalize M 8=x8 at *;have G:=RdC.DA ⟨l1,l2,l3,l4⟩ a1;rw[HD.out]at G;dsimp only at G;have y6:=(ag G.r5).2.2.1;have c':wd.frozen? ⟨H,2,none⟩=false:=by simp[World.frozen?,G.r5]
   have a2:Hid (RdS w O H l (obC 0 (.slice none 0 0) (.slice none 0 0) [] (.slice none 0 0) 0 0 []) (obC 2 (.slice none 0 0) x8 [] (.slice none 0 0) 0 0 []) sD 130 3 (l+1) x8 (d++[(⟨m,nm,hs⟩:Itm)]).length ((d++[(⟨m,nm,hs⟩:Itm)]).flatMap itC) (wd.setCell ⟨H,2,none⟩ x8)):=by
    have p:=G.put 2 x8 (c6:=obC 2 (.slice none 0 0) x8 [] (.slice none 0 0) 0 0 []) rfl;unfold Hid;rw[List.length_append,List.flatMap_append,List.flatMap_singleton];exact p
   have da:∃J Q K,x8=.slice J Q K:=by
    rcases G.own.2 with⟨h,-⟩ | ⟨g,c,cu,h,-⟩
    iterate 2
     .exact ⟨_,_,_,h⟩
   obtain⟨xa,xn,xc,rfl⟩:=da;clear a1 G;go_wp2_with fail;go_roundw
   case rel=>exact⟨k+1,sD,d++[⟨m,nm,hs⟩],_,a8.out,by go_num,c1,a2,b8⟩
   case measure=>have:=a8.out;simp[intOf];omega
 have ce:¬((y:Nat):Int)=2:=by omega
 have b2:(((y:Nat):Int)==2)=false:=by simpa using ce
 by_cases k3:y=3
 .subst k3;obtain⟨⟨sH,A⟩,hH⟩:∃q,bg ⟨b,false⟩=q:=⟨_,rfl⟩;obtain⟨⟨sO,N⟩,hO⟩:∃q,bi sH=q:=⟨_,rfl⟩;obtain⟨⟨sP,ps⟩,hP⟩:∃q,dh N sO []=q:=⟨_,rfl⟩;obtain⟨⟨sS,st⟩,hS⟩:∃q,aJ false sP=q:=⟨_,rfl⟩;obtain⟨⟨sU,au⟩,hU⟩:∃q,aJ false sS=q:=⟨_,rfl⟩;obtain⟨⟨sV,ml⟩,hV⟩:∃q,aJ false sU=q:=⟨_,rfl⟩;obtain⟨⟨sW,W⟩,hW⟩:∃q,az sV ml=q:=⟨_,rfl⟩;have eS:Hid (o9=⟨3,[],[],A,ps,st,au,W⟩):=by
   have p:=HQ.out;unfold bV lD at p;rw[if_neg (show ¬((3:Nat):Int)=1 by decide),if_neg (show ¬((3:Nat):Int)=2 by decide),if_pos (show((3:Nat):Int)=3 from rfl),hH]at p;dsimp only at p;rw[hO]at p;dsimp only at p;rw[hP]at p;dsimp only at p;rw[hS]at p;dsimp only at p;rw[hU]at p;dsimp only at p;rw[hV]at p;dsimp only at p;rw[hW]at p;exact(Prod.mk.inj p).2.symm
  have d4:Hid (Calls Tryz.prog 208 #[.pointer (some ⟨l,0,none⟩)] w3 fun e t=>e=.returned (S8 A)/\IsSrc t l sH/\w3.grownBy t (some l)):=by
   have p:=lJ l ⟨b,false⟩ w3 HS.out
   rwa [hH]at p
  have d5:Hid (∀w',IsSrc w' l sH->Calls Tryz.prog 206 #[.pointer (some ⟨l,0,none⟩)] w' fun e t=>e=.returned (.int .i64 (N:Nat))/\IsSrc t l sO/\w'.grownBy t (some l)):=fun w' h=>by
   have p:=tK l sH w' h
   rwa [hO]at p
  have e0:Hid (∀w',IsSrc w' l sP->Calls Tryz.prog 205 #[.pointer (some ⟨l,0,none⟩)] w' fun e t=>e=.returned (.int .i64 (st:Nat))/\IsSrc t l sS/\w'.grownBy t (some l)):=fun w' h=>by
   have p:=jk l sP w' h
   rwa [hS]at p
  have e1:Hid (∀w',IsSrc w' l sS->Calls Tryz.prog 205 #[.pointer (some ⟨l,0,none⟩)] w' fun e t=>e=.returned (.int .i64 (au:Nat))/\IsSrc t l sU/\w'.grownBy t (some l)):=fun w' h=>by
   have p:=jk l sS w' h
   rwa [hU]at p
  have e2:Hid (∀w',IsSrc w' l sU->Calls Tryz.prog 205 #[.pointer (some ⟨l,0,none⟩)] w' fun e t=>e=.returned (.int .i64 (ml:Nat))/\IsSrc t l sV/\w'.grownBy t (some l)):=fun w' h=>by
   have p:=jk l sU w' h
   rwa [hV]at p
  have e3:Hid (∀w',IsSrc w' l sV->Calls Tryz.prog 207 #[.pointer (some ⟨l,0,none⟩),.int .i64 ml] w' fun e t=>∃v,e=.returned v/\IsBytes t v W/\IsSrc t l sW/\w'.grownBy t (some l)):=fun w' h=>by
   have p:=jj l sV ml w' h
   rwa [hW]at p
  have e4:N<=255:=by
   have p:=congrArg Prod.snd hO;unfold bi at p;dsimp only at p;have:=((az sH 1).2.headD 0).toNat_lt;omega
  have d6:Hid (dh (N - 0) sO []=(sP,ps)):=hP;clear hH hO hP hS hU hV hW HQ;go_wp2_with fail;go_at_call 208;refine Calls.mono d4.out ?_;rintro e9 w4 ⟨rfl,a3,U⟩;have h4:RdS w O H l (obC 0 (.slice none 0 0) (.slice none 0 0) [] (.slice none 0 0) 0 0 []) (obC 3 (.slice none 0 0) (.slice none 0 0) [] (.slice none 0 0) 0 0 []) sH 9 1 (l+1) (.slice none 0 0) 0 [] w4 :=
   RdS.step ⟨HS.out,R4.out,R5.out,World.ownsRow_nil _ _ _ _,by omega,a6.out,by have:=X.out;omega⟩ a3 U
  have y3:=(ag h4.r5).2.2.2.1;have e6:w4.frozen? ⟨H,3,none⟩=false:=by simp[World.frozen?,h4.r5]
  have b0:Hid _:=h4.put 3 (S8 A) (c6:=obC 3 (.slice none 0 0) (.slice none 0 0) A (.slice none 0 0) 0 0 []) rfl;clear h4 a3 U d4 R4 R5 HS;go_upto_region 16 with fail;obtain⟨w5,S⟩:∃w5,w5=w4.setCell ⟨H,3,none⟩ (S8 A):=⟨_,rfl⟩;rw[<-S];rw[<-S]at b0;clear S y3 e6;go_wp2_with fail;go_at_call 206;refine(d5.out w5 b0.out.src).mono ?_;rintro e9 w6 ⟨rfl,B,C⟩;have e7:Hid _:=b0.out.step B C;clear B C d5 b0;go_wp2_with fail;go_loopw [12] (fun i wr=>∃(k:Nat) (s:Src) (d:List B8) (v:Value),k<=N/\i=.int .i64 k/\d.length=k/\Hid (dh (N - k) s d=(sP,ps))/\Hid (RdS w O H l (obC 0 (.slice none 0 0) (.slice none 0 0) [] (.slice none 0 0) 0 0 []) (obC 3 (.slice none 0 0) (.slice none 0 0) A v 0 0 []) s 9 1 (l+1) v d.length (d.map S8) wr)) (fun i _=>N - (intOf i).toNat)
  case atStart=>exact⟨0,sO,[],.slice none 0 0,Nat.zero_le _,rfl,rfl,d6,e7⟩
  case round =>
  obtain⟨k,s,d,v,F,rfl,e8,HI,V⟩:=hrel;obtain⟨sb,L⟩:∃x,s.bad=x:=⟨_,rfl⟩;obtain⟨er,es,cx,Y,-,-⟩:=V.out.src;rw[L]at Y;have y1:=(kL Y).2;have Z:Hid _:=L;clear Y L
  by_cases E:k=N\/sb=true
  .have fa:s=sP/\d=ps:=by
    have p:=HI.out;have h8:dh (N - k) s d=(s,d):=by
     rcases E with h | h
     .rw [h,Nat.sub_self];rfl
     .cases ev:N - k with
      | zero=>rfl
      | succ j =>
       have h7:=Z.out;rw[h]at h7;rw[dh,if_pos h7]
    rw[h8]at p;exact⟨(Prod.mk.inj p).1,(Prod.mk.inj p).2⟩
   obtain⟨rfl,rfl⟩:=fa;have ct:∃J Q K,v=.slice J Q K:=by
    rcases V.out.own.2 with⟨h,-⟩ | ⟨g,c,cu,h,-⟩
    iterate 2
     .exact ⟨_,_,_,h⟩
   obtain⟨J,Q,K,rfl⟩:=ct;have dc:d.length<=255:=by omega
   have bt:Hid _:=dc;have ad:(¬(k:Int)<(N:Int))\/((k:Int)<(N:Int)/\sb=true):=by
    rcases E with h | h
    .left;omega
    .by_cases ex:k<N
     .exact .inr ⟨by omega,h⟩
     .left;omega
   clear E HI d6 dc;rcases ad with hc | ⟨hc,L⟩
   case' inr=>subst L
   all_goals
    go_wp2_with fail;go_at_call 205;refine(e0.out _ V.out.src).mono ?_;rintro e9 wa ⟨rfl,B,C⟩;have a4:Hid _:=V.out.step B C;clear B C y1;go_wp2_with fail;go_at_call 205;refine(e1.out wa a4.out.src).mono ?_;rintro e9 wb ⟨rfl,B,C⟩;have b4:=a4.out.step B C;have b5:=b4.put 5 (.int .i64 st) (c6:=obC 3 (.slice none 0 0) (.slice none 0 0) A (.slice J Q K) st 0 []) rfl;have y5:=(ag b4.r5).2.2.2.2.2.1;have cn:wb.frozen? ⟨H,5,none⟩=false:=by simp[World.frozen?,b4.r5]
    have y6:=(ag b5.r5).2.2.2.2.2.2.1;have c':(wb.setCell ⟨H,5,none⟩ (.int .i64 st)).frozen? ⟨H,6,none⟩=false:=by simp[World.frozen?,b5.r5]
    have a2:Hid _:=b5.put 6 (.int .i64 au) (c6:=obC 3 (.slice none 0 0) (.slice none 0 0) A (.slice J Q K) st au []) rfl;clear B C b4 b5;go_upto_region 22 with fail;obtain⟨wd,dk⟩:∃wd,wd=(wb.setCell ⟨H,5,none⟩ (.int .i64 st)).setCell ⟨H,6,none⟩ (.int .i64 au):=⟨_,rfl⟩;rw[<-dk];rw[<-dk]at a2;clear dk y5 y6 cn c';go_wp2_with fail;go_at_call 205;refine(e2.out wd a2.out.src).mono ?_;rintro e9 we ⟨rfl,B,C⟩;have bs:Hid _:=a2.out.step B C;clear B C;go_wp2_with fail;go_at_call 207;refine(e3.out we bs.out.src).mono ?_;rintro e9 wf ⟨vt,rfl,a0,B,C⟩;have b6:=bs.out.step B C;have d3:=dr a0;obtain⟨ta,tc,rfl,-⟩:=id a0;have y7:=(ag b6.r5).2.2.2.2.2.2.2;have fb:wf.frozen? ⟨H,7,none⟩=false:=by simp[World.frozen?,b6.r5]
    have a5:Hid _:=b6.put 7 (S8 W) (c6:=(obC 3 (.slice none 0 0) (.slice none 0 0) A (.slice J Q K) st au W)) rfl;clear B C a0 b6;go_upto_region 23 with fail;obtain⟨wg,dl⟩:∃wg,wg=wf.setCell ⟨H,7,none⟩ (S8 W):=⟨_,rfl⟩;rw[<-dl];rw[<-dl]at a5;clear dl y7 fb d3;have R4:Hid _:=a5.out.r4;have R5:Hid _:=a5.out.r5;obtain⟨q0,q1,q2,q3,q4,q5,q6,q7⟩:=ag R5.out;have I:=R4.out
    go_wp2_with (refine wpList_store_row rfl 41 (.tmp 4) (.tmp 95) rfl O (obC 3 (.slice none 0 0) (.slice none 0 0) A (.slice J Q K) st au W) rfl rfl 41 _ I bW rfl (by simp[Value.oneCell']) ?_)
    refine bodyPost_ret (results_cell_row rfl _ _ O 41 (obC 3 (.slice none 0 0) (.slice none 0 0) A (.slice J Q K) st au W) (0,0) _ rfl (setRow_heap _ _ _ _ _ _ I) Tryz.underlying41 rfl bW) rfl ?_;refine⟨⟨_,rfl,?_⟩,Ext.but a5.out.ext (ae _ _ _) (Nat.le_of_eq X.out)⟩;rw[eS.out];exact IsObT.put (o:=⟨3,[],[],A,d,st,au,W⟩) ⟨.slice none 0 0,.slice none 0 0,.slice J Q K,rfl,Row.nil _,Row.nil _,Row.BM a5.out.own (by have:=bt.out;show d.length<=140737488355328;omega),TypB.nil _ _ _,Typed.nil _ _ _ _,Typed.BM a5.out.own⟩ (ae _ _ _) I
  .have cv:k<N:=by omega
   have a8:Hid (k<N):=cv;have c0:sb=false:=by
    cases sb with
    | false=>rfl
    | true=>exact absurd (.inr rfl) E
   subst c0;have ey:(k:Int)<(N:Int):=by omega
   obtain⟨j,D⟩:∃j,N - k=j+1:=⟨N - k - 1,by omega⟩;obtain⟨⟨sD,hs⟩,hD⟩:∃q,bg s=q:=⟨_,rfl⟩;have c1:Hid (dh (N - (k+1)) sD (d++[hs])=(sP,ps)):=by
    have p:=HI.out;rw[D,dh,if_neg (by rw[Z.out];simp),hD]at p;rw[show N - (k+1)=j by omega];exact p
   have HD:Hid (bg s=(sD,hs)):=hD;have c8:Hid (∀w',IsSrc w' l s->Calls Tryz.prog 208 #[.pointer (some ⟨l,0,none⟩)] w' fun e t=>e=.returned (S8 (bg s).2)/\IsSrc t l (bg s).1/\w'.grownBy t (some l)):=fun w' h=>lJ l s w' h
   obtain⟨l1,l2,l3,l4⟩:=V.out.lt;have bh:Hid (∀k o,(k,o)∈[(O,Obj.cells (obC 0 (.slice none 0 0) (.slice none 0 0) [] (.slice none 0 0) 0 0 []) 41 (0,0)),(H,Obj.cells (obC 3 (.slice none 0 0) (.slice none 0 0) A v 0 0 []) 41 (0,0))]->k≠l/\k<l+1):=fun k o F=>by
    simp only[List.mem_cons,Prod.mk.injEq,List.not_mem_nil,or_false]at F;rcases F with⟨rfl,-⟩ | ⟨rfl,-⟩ <;> omega
   have hB:w.heap.size<=l:=by omega
   have dc:d.length<=255:=by omega
   clear hD D E HI;go_upto_region 20 with fail;apply aI 7 (fun z w'=>RdC w l s 9 1 (l+1) v d.length (d.map S8) [S8 (bg s).2] [(O,Obj.cells (obC 0 (.slice none 0 0) (.slice none 0 0) [] (.slice none 0 0) 0 0 []) 41 (0,0)),(H,Obj.cells (obC 3 (.slice none 0 0) (.slice none 0 0) A v 0 0 []) 41 (0,0))] (z 3) (z 4) (z 5) w') [false,false,false,true,true,true,false] [_,v,_,undef,undef,undef,_] [none,none,none,none,none,none,none] [[],[0],[],[2],[3],[1,4],[]] (by kernel_rfl) (by kernel_rfl) rfl
   .exact RdS.Dy V.out ⟨rfl,rfl,rfl,Nat.le_refl _,fun _ _=>rfl⟩
   .simp (maxSteps:=1000000)only[cY,cG,bP,cA,cN,List.getD_cons_zero,List.getD_cons_succ,Bool.false_eq_true,if_false,if_true,and_true,true_and,forall_const,Nat.zero_add,Nat.reduceAdd,List.take_succ_cons,List.take_zero,aa,Act.put,List.setIfInBounds_toArray,List.set_cons_zero,List.set_cons_succ];and_intros
    iterate 3 · intro M z wq D;intros;rename_i P;have f2:=(ag D.k5).2.2.2.2.1;go_simp;exact P _ _ D rfl
    .intro M z wq D hz F R P;rw[hz]at D;go_simp;exact(c8.out wq (D.Cr rfl)).mono (by rintro e' w' ⟨rfl,h1,h2⟩;exact⟨_,rfl,P _ _ (D.hash (Nat.lt_succ_self _) hB (fun k o F=>(bh.out k o F).1) h1 h2)⟩)
    .intro M z wq D hz F R P;rw[hz]at D;obtain⟨e5,-⟩:=D.Cl _ F;rw[e5];go_simp;exact P _ _ D.Cp
    .intro M z wq D hz F R P;obtain⟨bx,bS⟩:=F;rw[hz]at D;obtain⟨v',w',hr,c9⟩:=D.app bS (Nat.lt_succ_self _) (by omega) (fun k o F=>(bh.out k o F).2) Tryz.underlying39 iV rfl (by omega) rfl (by simp[Value.oneCell']) (by omega) (by omega);apply et (.tmp 77) (.tmp 80) 39 39 (v:=M 1) (xv:=M 4) (v':=v') (w':=w')
     iterate 4
      .rfl
     .rw [bx];exact hr
     .exact P _ _ c9
    .intro M z wq D;intros;rename_i P;have f2:=(ag D.k5).2.2.2.2.1;go_simp;exact P _ _ D rfl
   intro M wd a1 F;simp only[cX,List.getD_cons_zero,List.getD_cons_succ,Bool.false_eq_true,if_false,if_true]at a1;simp only[bU,Nat.zero_add,Nat.reduceAdd,and_true]at F;simp(maxSteps:=1000000)only[List.drop_succ_cons,List.drop_zero,Nat.zero_add,Nat.reduceAdd,List.take_succ_cons,List.take_zero,aa,Act.put,List.setIfInBounds_toArray,List.set_cons_zero,List.set_cons_succ,F];clear F;generalize M 3=x3 at *;generalize M 4=x4 at *;generalize M 5=x5 at *;have G:=RdC.DA ⟨l1,l2,l3,l4⟩ a1;rw[HD.out]at G;dsimp only at G;have y6:=(ag G.r5).2.2.2.2.1;have c':wd.frozen? ⟨H,4,none⟩=false:=by simp[World.frozen?,G.r5]
   have a2:Hid (RdS w O H l (obC 0 (.slice none 0 0) (.slice none 0 0) [] (.slice none 0 0) 0 0 []) (obC 3 (.slice none 0 0) (.slice none 0 0) A x5 0 0 []) sD 9 1 (l+1) x5 (d++[hs]).length ((d++[hs]).map S8) (wd.setCell ⟨H,4,none⟩ x5)):=by
    have p:=G.put 4 x5 (c6:=obC 3 (.slice none 0 0) (.slice none 0 0) A x5 0 0 []) rfl;unfold Hid;rw[List.length_append,List.map_append];exact p
   have da:∃J Q K,x5=.slice J Q K:=by
    rcases G.own.2 with⟨h,-⟩ | ⟨g,c,cu,h,-⟩
    iterate 2
     .exact ⟨_,_,_,h⟩
   obtain⟨xa,xn,xc,rfl⟩:=da;have d7:(d++[hs]).length=k+1:=by rw[List.length_append,e8];rfl
   have fc:Hid _:=d7;clear a1 G d7;go_wp2_with fail;go_roundw
   case rel=>exact⟨k+1,sD,d++[hs],_,a8.out,by go_num,fc.out,c1,a2⟩
   case measure=>have:=a8.out;simp[intOf];omega
 .have cl:¬((y:Nat):Int)=3:=by omega
  have b3:(((y:Nat):Int)==3)=false:=by simpa using cl
  have fe:Hid (o9=⟨y,[],[],[],[],0,0,[]⟩):=by
   have p:=HQ.out;unfold bV at p;rw[if_neg b7,if_neg ce,if_neg cl]at p;exact(Prod.mk.inj p).2.symm
  clear HQ;go_upto_region 23 with fail;obtain⟨q0,q1,q2,q3,q4,q5,q6,q7⟩:=ag R5.out;have I:=R4.out
  go_wp2_with (refine wpList_store_row rfl 41 (.tmp 4) (.tmp 95) rfl O (obC y (.slice none 0 0) (.slice none 0 0) [] (.slice none 0 0) 0 0 []) rfl rfl 41 _ I bW rfl (by simp[Value.oneCell']) ?_)
  refine bodyPost_ret (results_cell_row rfl _ _ O 41 (obC y (.slice none 0 0) (.slice none 0 0) [] (.slice none 0 0) 0 0 []) (0,0) _ rfl (setRow_heap _ _ _ _ _ _ I) Tryz.underlying41 rfl bW) rfl ?_;refine⟨⟨_,rfl,?_⟩,Ext.but a6.out (ae _ _ _) (Nat.le_of_eq X.out)⟩;rw[fe.out];exact⟨.slice none 0 0,.slice none 0 0,.slice none 0 0,rfl,Row.nil _,Row.nil _,Row.nil _,TypB.nil _ _ _,Typed.nil _ _ _ _,Typed.nil _ _ _ _⟩
end
section
open Go Go.RowKit
variable [Inhabited bc]
theorem rt {w:World} {v:Value} {L:List Ev} (E:ReadO w IsEvD v L) (Q:L.length<=90000000) :
  Calls Tryz.prog 111 #[v] w fun e F=>(∃u,e=.returned u/\(∃d:List (List Value),F.ownsRow w.heap.size 122 7 u L.length d.flatten/\Each IsEvD d L))/\Ext w F:=by
 obtain⟨a,K,rfl,R,S,T,G⟩:=jz 7 (fun c x h=>h.length.1) (by omega) E;have M:Hid _:=G;clear G E;go_enter Tryz.func111,Tryz.ntmps111;go_wp2;go_loopw [3,4] (fun v i wr=>∃(k:Nat) (d:List (List Value)),k<=L.length/\i=.int .i64 k/\wr.ownsRow w.heap.size 122 7 v k d.flatten/\Each IsEvD d (L.take k)/\Ext w wr) (fun _ i _=>L.length - (intOf i).toNat)
 case atStart=>exact⟨0,[],Nat.zero_le _,rfl,World.ownsRow_nil _ _ _ _,Each.nil _,Ext.refl _⟩
 case round =>
  obtain⟨k,d,U,rfl,g,j,h⟩:=hrel;have t:Hid _:=j;clear j
  by_cases y:k<L.length
  .obtain ⟨e,p⟩:∃e,L[k]? = some e:=⟨_,List.getElem?_eq_getElem y⟩;obtain⟨b,o,V,rfl,q,l⟩:=M.out k e p;have z:Hid _:=q;obtain⟨W,rfl,H,-⟩:=id q;obtain⟨I,J,rfl,-⟩:=id H.bytes;have A:Hid (L.take (k+1)=L.take k++[e]):=by unfold Hid;rw[List.take_add_one,p];rfl
   have N:=h.cell (l 0 _ rfl);have X:=h.cell (l 1 _ rfl);have Y:=h.cell (l 2 _ rfl);have Z:=h.cell (l 3 _ rfl);have c4:=h.cell (l 4 _ rfl);have c5:=h.cell (l 5 _ rfl);have c6:=h.cell (l 6 _ rfl);simp only[Nat.add_zero]at N;have O:=h.size;clear q H l p
   go_wp2_with (at_builtin;go_must (refine nL rfl _ _ rfl w.heap.size _ k _ rfl ((g.alloc _).alloc _) (wr.heap.size+1) 1 [.int .i64 e.t,.int .i64 e.kind,.int .i64 e.mode,.int .i64 e.keep,.int .i64 e.BN,S8 e.path,.slice I e.data.length J] rfl rfl (ju _ _ _) (by simp[Value.oneCell']) (by omega) (by simp;omega) ?_;intro u w3 r B _))
   go_roundw
   case rel =>
    refine⟨k+1,d++[[.int .i64 e.t,.int .i64 e.kind,.int .i64 e.mode,.int .i64 e.keep,.int .i64 e.BN,S8 e.path,.slice I e.data.length J]],by omega,by go_num,?_,by rw[A.out];exact Each.snoc t.out z.out,ai ((h.alloc _).alloc _) ((g.alloc _).alloc _) B⟩;rw[List.flatten_append];simpa using r
   case measure=>simp[intOf];omega
  .have C:k=L.length:=by omega
   subst C;have D:=t.out;rw[List.take_length]at D;have n:∃d:List (List Value),wr.ownsRow w.heap.size 122 7 u3 L.length d.flatten/\Each IsEvD d L:=⟨d,g,D⟩;have P:Hid _:=n;clear n g D;go_wp2;go_ret;exact⟨⟨_,rfl,P.out⟩,h⟩
end
end Go.Proofs.YtfabjgfmiaammaaGreatDoor
