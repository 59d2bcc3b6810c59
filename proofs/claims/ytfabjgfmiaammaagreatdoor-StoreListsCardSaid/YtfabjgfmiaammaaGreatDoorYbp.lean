/- Contracts of the program's functions and plain laws behind the card. Conditions: as each theorem states. -/
import Derived.Test.YtfabjgfmiaammaaGreatDoorYaw
import Derived.Test.YtfabjgfmiaammaaGreatDoorCards
import Derived.Test.YtfabjgfmiaammaaGreatDoorTie
import Derived.OpenShut
import Derived.LaidMore
import Derived.Lay
import Derived.Deep.DeepHandedRow
import Derived.Lib.LaidTab
import Derived.Stop.LaidErr
import Derived.ProofKit
import Derived.SizedLaws
import Derived.Deep.Slices
import Derived.Deep.Fields
import Derived.ChangeSame
import Derived.Test.YtfabjgfmiaammaaGreatDoorYbo
import Derived.Test.YtfabjgfmiaammaaGreatDoorYbe
set_option linter.unusedVariables false
set_option linter.unusedSimpArgs false
set_option linter.unusedSectionVars false
set_option maxRecDepth 100000
set_option maxHeartbeats 64000000
namespace Go.Proofs.YtfabjgfmiaammaaGreatDoor
section
open Go Go.ChangeShapes Go.WideShapes Go.ChangeAt Go.RowKit Go.Deep
theorem own:ownKnob Tryz.prog.godebug=none:=by kernel_rfl
theorem tG:laidOutB Tryz.prog=true:=by kernel_rfl
theorem zT:Tryz.prog.cellsOf 5=1:=by kernel_rfl
theorem zS:Tryz.prog.bytesOf 5=1:=by kernel_rfl
theorem AU {W:World} (a:W.ShapedOpen Tryz.prog):Env W :=
 ⟨Go.Proofs.cell_of_shapedOpen_int (zero:=#[.int .i64 0]) (t:=3) a (of_decide_eq_true (by kernel_rfl)) (by kernel_rfl) rfl (by kernel_rfl) (by kernel_rfl) Tryz.underlying3⟩
theorem zR {x:Int} (h:(Lit.int .u8 x).wf=true):0<=x/\x<256:=by
 have a:IntKind.u8.min=0:=rfl;have b:IntKind.u8.max=255:=rfl;simp only[Lit.wf,Bool.and_eq_true,decide_eq_true_eq]at h;omega
theorem kZ (n:laidOutB Tryz.prog=true) {H:Type} {enc:TypeId×Value->H} {W k:World} (l:Below W.heap.size W k):∀ {g:List TypeId} {vs:List Value} {e:List (DataW H)} {c:List MemPlace},DataW.TrodAll enc Tryz.prog W 0 (fun _=>true) true g vs e c->(∀x∈c,x.block<W.heap.size)->(∀t∈g,Tryz.prog.readableRec t=true/\t<Tryz.prog.types.size) ->
  DataW.TrodAll enc Tryz.prog k 0 (fun b=>decide (b<W.heap.size)) true g vs e c
 | [],vs,e,c,h,_,_=>by
  obtain⟨rfl,rfl,rfl⟩:=trodAll_nil h;exact trodAll_mk0
 | t::g,vs,e,c,h,a,i=>by
  obtain⟨v,y,d,o,p,q,rfl,rfl,rfl,r,u⟩:=trodAll_cons h;exact⟨p,q,Below.trod n (i t (by simp)).1 (i t (by simp)).2 r l (fun x j=>a x (by simp[j])),kZ n l u (fun x j=>a x (by simp[j])) (fun t w=>i t (by simp[w])),rfl⟩
theorem AW {n:Int} (h:(Lit.int .i64 n).wf=true):I64 n:=by
 have a:IntKind.i64.min = -9223372036854775808:=rfl;have b:IntKind.i64.max=9223372036854775807:=rfl;simp only[Lit.wf,Bool.and_eq_true,decide_eq_true_eq]at h;unfold I64;omega
section
variable {H:Type} {enc:TypeId×Value->H} {P:Program} {w:World} {base:Nat} {spare:Nat->Bool} {held:Bool}
theorem rM {t e:TypeId} {d:Array Field} {l:Nat} {cs:List Value} {x:DataW H×List MemPlace} (Z:P.underlying t=some (.slice e)) (R:P.underlying e=some (.struct d))
  (o:oneCellFields P d=true) (J:P.cellsOf e=d.size) (h:DataW.trod enc P w base spare held l t cs=some x) :
  (cs=[.slice none 0 0]/\x=(.nil,[])) \/
  ∃(a:Addr) (len b m:Nat) (D:Nat->DataW H) (q:Nat->List MemPlace),cs=[.slice (some a) len b]/\base<=a.block/\len<=b/\b<=maxLen/\m=(if spare a.block then b else len) /\
   x=(.slice ((List.range len).map D) ((List.range (m - len)).map fun j=>D (len+j)),MemPlace.row a (m*d.size)++(List.range m).flatMap q) /\
   ∀i,i<m->∃(ys:List (DataW H×List MemPlace)) (n:Nat),D i=.agg (ys.map (·.1))/\q i=ys.flatMap (·.2)/\ys.length=d.size /\
    ∀(j:Nat) (f:Field),d[j]? = some f->∃(v:Value) (y:DataW H×List MemPlace),w.cell? (a.add (i*d.size+j))=some v/\ys[j]? = some y/\DataW.trod enc P w base spare held n f.type [v]=some y:=by
 rcases open_slice Z h with N | ⟨a,len,b,m,n,D,q,z,O,V,W,E,M,T⟩
 .exact .inl N
 .refine .inr ⟨a,len,b,m,D,q,z,O,V,W,E,by rw[J]at M;exact M,fun i A=>?_⟩;obtain⟨c,K,F⟩:=T i A;rw[J]at K;obtain⟨ys,n',X,G,L,I,S⟩:=DataW.trod_struct R F;obtain⟨_,Q,u⟩:=World.cells?_some K;simp only[Prod.mk.injEq]at G;refine⟨ys,n',G.1,G.2,I,fun j f B=>?_⟩;obtain⟨Y,U⟩:=hone_of o j f B;have C:j<d.size:=(Array.getElem?_eq_some_iff.1 B).1;have g:=u j C;have hv:c[j]? = some (c[j]'(by omega)):=List.getElem?_eq_getElem (by omega);have r:=S j f B;rw[Y,U]at r;have k:(c.drop j).take 1=[c[j]'(by omega)]:=by
   rw[List.drop_eq_getElem_cons (by omega)];rfl
  rw[k]at r;have p:ys[j]? = some (ys[j]'(by omega)):=List.getElem?_eq_getElem (by omega);refine⟨_,_,?_,p,r.trans p⟩;rw[<-Go.Deep.add_add,g,hv]
end
def Szd {H:Type} (t:TypeId) (d:DataW H):Prop:=∀n∈d.weights Tryz.prog t,n<=reachBytes
variable {j:Nat} {t:TypeId}
theorem AI {H:Type} {b:List TypeId} {a:List (DataW H)} {d:DataW H} (h:(DataW.weightsEach Tryz.prog b a).all (·<=reachBytes)=true) (g:b[j]? = some t) (c:a[j]? = some d):Szd t d:=fun n e=>by
 have:=List.all_eq_true.1 h _ (DataW.weights_mem_each g c n e);simpa using this
theorem rT {H:Type} {P:Program} {e:TypeId}:∀ {l:List (DataW H)} {d:DataW H},d∈l->∀n∈d.weights P e,n∈DataW.weightsAll P e l
 | c::r,d,b,n,a=>by
  simp only[DataW.weightsAll,List.mem_append];rcases List.mem_cons.1 b with rfl | h
  .exact Or.inl a
  .exact Or.inr (rT h n a)
theorem ix {H:Type} {q:TypeId} {e s:List (DataW H)} (h:Szd t (.slice e s)) (a:Tryz.prog.underlying t=some (.slice q)):(e.length+s.length)*Tryz.prog.bytesOf q<=reachBytes/\∀d∈e,Szd q d:=by
 refine⟨h _ (by simp[DataW.weights,a]),fun d b n c=>h n ?_⟩;simp only[DataW.weights,a,List.mem_cons,List.mem_append];exact Or.inr (Or.inl (rT b n c))
theorem eJ {H:Type} {b:Array Field} {a:List (DataW H)} {f:Field} {d:DataW H} (h:Szd t (.agg a)) (i:Tryz.prog.underlying t=some (.struct b)) (e:b[j]? = some f) (c:a[j]? = some d):Szd f.type d:=fun n g=>by
 refine h n ?_;simp only[DataW.weights,i];refine DataW.weights_mem_each (j:=j) ?_ c n g;rw[List.getElem?_map,Array.getElem?_toList,e];rfl
section
variable {H:Type} {enc:TypeId×Value->H} {W:World}
variable {n:Nat} {v:Value}
theorem dh {y:DataW H×List MemPlace} (h:DataW.trod enc Tryz.prog W 0 (fun _=>true) true n 3 [v]=some y):∃z,v=.int .i64 z/\I64 z:=by
 obtain⟨z,a,-,b⟩:=DataW.trod_int Tryz.underlying3 h;simp only[List.cons.injEq,and_true]at a;exact⟨z,a,AW b⟩
theorem iW {y:DataW H×List MemPlace} (h:DataW.trod enc Tryz.prog W 0 (fun _=>true) true n 9 [v]=some y):∃l:B8,v=S8 l:=by
 obtain⟨s,a,-,-⟩:=DataW.trod_string Tryz.underlying9 h;simp only[List.cons.injEq,and_true]at a;exact⟨s.data.toList,a⟩
variable {a:Addr} {len cap:Nat} {cs:List Value}
theorem jo (h:len<=cap) (j:cap<=maxLen) (k:len<=140737488355328) (g:∀i u,cs[i]? = some u->W.cell? (a.add i)=some u):Row W (.slice (some a) len cap) len cs:=by
 unfold maxLen at j;refine⟨some a,cap,rfl,h,by omega,k,fun e=>?_⟩;obtain⟨x,r,rfl⟩:∃x r,cs=x::r:=by
  cases cs with
  | nil=>exact(e rfl).elim
  | cons x r=>exact⟨x,r,rfl⟩
 have c:a.spot=none:=by
  have:=World.cell?_spot (g 0 x rfl);simpa [Addr.add]using this
 obtain⟨b,o,n⟩:=a;simp only at c;subst c;refine⟨b,o,rfl,fun i u l=>?_⟩;have d:(⟨b,o,none⟩:Addr).add i=⟨b,o+i,none⟩:=by unfold Addr.add;split <;> simp_all
 rw[<-d];exact g i u l
theorem iO {y:DataW H×List MemPlace} (h:DataW.trod enc Tryz.prog W 0 (fun _=>true) true n 37 [v]=some y) (t:Szd 37 y.1):∃l:B8,IsBytes W v l:=by
 rcases open_ints Tryz.underlying37 Tryz.underlying5 zT h with⟨b,F⟩ | ⟨a,c,r,j,b,_,A,B,C,rfl,d,o⟩
 .simp only[List.cons.injEq,and_true]at b;subst b;exact⟨[],Row.nil _⟩
 .simp only[List.cons.injEq,and_true]at b;subst b;simp only[if_true]at C;have p:=(ix t Tryz.underlying37).1;rw[zS]at p;have D:=reachBytes_lt;simp only[lits,List.length_map,List.length_take,List.length_drop,Nat.mul_one]at p;have e:c<=140737488355328:=by omega
  refine⟨(j.take c).map fun z=>UInt8.ofNat z.toNat,?_⟩;have k:((j.take c).map fun z=>UInt8.ofNat z.toNat).length=c:=by simp;omega
  unfold IsBytes;rw[k];refine jo A B e fun i u q=>?_
  have x:i<c:=by
   have:=(List.getElem?_eq_some_iff.1 q).1;simp at this;omega
  have w:=d i (by omega);rw[w,<-q];have g:j[i]? = some j[i]:=List.getElem?_eq_getElem (by omega);have E:=zR (o j[i] (List.getElem_mem (by omega)));rw[List.getElem?_map,List.getElem?_map,List.getElem?_take_of_lt x,g];simp only[Option.map_some,List.getD_eq_getElem?_getD,g,Option.getD_some,Option.some.injEq,Value.int.injEq,true_and,UInt8.toNat_ofNat'];omega
theorem tT {w:World} (h:Row w v n cs) (c:cs≠[]):∀k,v.ownBlock=some k->k<w.heap.size:=by
 obtain⟨a,cap,rfl,j,l,p,d⟩:=h;obtain⟨b,o,rfl,g⟩:=d c;intro k i
 cases cs with
 | nil=>exact(c rfl).elim
 | cons x r =>
  have:=World.block_lt_of_cell? _ _ (g 0 x rfl);have e:b=k:=by simpa [Value.ownBlock]using i
  subst e;exact this
theorem oX [Inhabited bf] {l:B8} (h:IsBytes cy v l):OldB v l:=by
 refine⟨h,fun a n c d i=>tT h ?_ a.block (by rw[d];rfl)⟩;obtain⟨j,e,b,-⟩:=h;rw[d]at b;simp only[Value.slice.injEq]at b;intro g;have:=congrArg List.length g;simp at this;rw[this]at b;exact i b.2.1
theorem yd (m:Nat) (k:0<m) (a:List (List Value)) (h:∀c∈a,c.length=m) (q:Nat) (u:Value) (b:a.flatten[q]? = some u):∃c,a[q / m]? = some c/\c[q%m]? = some u:=by
 induction a generalizing q with
 | nil=>simp at b
 | cons c r n =>
  have j:=h c (by simp)
  by_cases e:q<m
  .refine ⟨c,by rw[Nat.div_eq_of_lt e];rfl,?_⟩;rw[Nat.mod_eq_of_lt e];simpa [List.flatten_cons,List.getElem?_append_left (show q<c.length by omega)]using b
  .rw [List.flatten_cons,List.getElem?_append_right (by omega),j]at b;obtain⟨d,g,i⟩:=n (fun x l=>h x (by simp[l])) (q - m) b;refine⟨d,?_,?_⟩
   .have:q / m=(q - m) / m+1:=by
     rw[Nat.div_eq_sub_div k (by omega)]
    rw[this];exact g
   .rw [Nat.mod_eq_sub_mod (by omega)];exact i
theorem A6:oneCellFields Tryz.prog (match Tryz.prog.underlying 121 with | some (.struct a)=>a | _=>#[])=true:=by kernel_rfl
theorem xP:Tryz.prog.cellsOf 121=7:=by kernel_rfl
theorem vA:Tryz.prog.cellsOf 44=8:=by kernel_rfl
theorem xO:1<=Tryz.prog.bytesOf 121:=of_decide_eq_true (by kernel_rfl)
theorem nY {a b c:Nat} (h:a*b<=c) (d:1<=b):a<=c:=Nat.le_trans (Nat.le_mul_of_pos_right a d) h
theorem np {α:Type} (m:Nat) (B:0<m) (J:List Value×α) (O:len<=cap) (P:cap<=maxLen) (Q:len<=140737488355328) {p:List Value->α->Prop} (I:∀c x,p c x->c.length=m)
  (D:∀i,i<len->∃d:List Value×α,p d.1 d.2/\∀j u,d.1[j]? = some u->W.cell? (a.add (i*m+j))=some u):∃E:List α,ReadO W p (.slice (some a) len cap) E/\E.length=len/\∀x∈E,∃c,p c x:=by
 have w:∀i,∃d:List Value×α,i<len->p d.1 d.2/\∀j u,d.1[j]? = some u->W.cell? (a.add (i*m+j))=some u:=fun i=>by
  by_cases h:i<len
  .obtain ⟨d,z⟩:=D i h;exact⟨d,fun _=>z⟩
  .exact ⟨J,fun k=>(h k).elim⟩
 have F:=fun i=>(w i).choose_spec
 generalize A:(fun i=>(w i).choose)=d at F;have g:∀i,i<len->p (d i).1 (d i).2/\∀j u,(d i).1[j]? = some u->W.cell? (a.add (i*m+j))=some u:=fun i b=>by
  have:=F i b;rw[<-A];exact this
 have l:∀(i:Nat) c,((List.range len).map fun i=>(d i).1)[i]? = some c->i<len/\c=(d i).1:=fun i c k=>by
  have b:=(List.getElem?_eq_some_iff.1 k).1;simp only[List.length_map,List.length_range]at b;refine⟨b,?_⟩;rw[List.getElem?_map,List.getElem?_range b]at k;exact(Option.some.inj k).symm
 have r:Row W (.slice (some a) len cap) len ((List.range len).map fun i=>(d i).1).flatten:=by
  refine jo O P Q fun q u R=>?_
  obtain⟨c,k,S⟩:=yd m B _ (fun c k=>by
   obtain⟨i,y,rfl⟩:=List.mem_map.1 k;exact I _ _ (g i (by simpa using y)).1) q u R
  obtain⟨b,rfl⟩:=l _ _ k;have:=(g _ b).2 _ u S
  rwa [show q / m*m+q%m=q by rw[Nat.mul_comm];exact Nat.div_add_mod q m]at this
 refine⟨(List.range len).map fun i=>(d i).2,⟨(List.range len).map fun i=>(d i).1,by rw[List.length_map,List.length_range];exact r,fun C=>?_,by simp,fun i c e k G=>?_⟩,by simp,fun x T=>?_⟩
 .refine tT r fun K=>?_
  have o:0<len:=by
   cases len with
   | zero=>exact(C rfl).elim
   | succ n=>omega
  have z:=I _ _ (g 0 o).1;have L:((List.range len).map fun i=>(d i).1)[0]? = some (d 0).1:=by rw[List.getElem?_map,List.getElem?_range o];rfl
  have M:=List.mem_of_getElem? L;have N:=List.flatten_eq_nil_iff.1 K _ M;rw[N]at z;simp at z;omega
 .obtain ⟨b,rfl⟩:=l _ _ k;rw[List.getElem?_map,List.getElem?_range b]at G;cases G;exact(g i b).1
 .obtain ⟨i,y,rfl⟩:=List.mem_map.1 T;exact⟨_,(g i (by simpa using y)).1⟩
end
section
variable [Inhabited bf] {H:Type} {enc:TypeId×Value->H} {W:World}
theorem zn (Z:cy=W) {n:Nat} {v:Value} {y:DataW H×List MemPlace} (h:DataW.trod enc Tryz.prog W 0 (fun _=>true) true n 42 [v]=some y) (hb:Szd 42 y.1):∃C:List Ev,ReadO W IsEvI v C/\∀e∈C,I64 e.keep/\I64 e.BW:=by
 rcases rM Tryz.underlying42 Tryz.underlying121 A6 xP h with⟨b,r⟩ | ⟨a,B,S,m,D,Pl,b,_,hl,hm,q,rfl,hi⟩
 .simp only[List.cons.injEq,and_true]at b;subst b;exact⟨[],⟨[],Row.nil _,fun h=>(h rfl).elim,Each.nil _⟩,by simp⟩
 .simp only[List.cons.injEq,and_true]at b;subst b;simp only[if_true]at q;subst q;obtain⟨z,A⟩:=ix hb Tryz.underlying42;have o:=nY z xO;have hr:=reachBytes_lt;simp only[List.length_map,List.length_range]at o;obtain⟨xs,V,-,X⟩:=np (W:=W) (a:=a) (len:=B) (p:=fun c (e:Ev)=>IsEvI c e/\I64 e.keep/\I64 e.BW) 7 (by omega) ([],⟨0,0,0,0,0,[],[]⟩) hl hm (by omega) (fun c x r=>r.1.length.1) (fun i w=>by
   obtain⟨ys,k,Y,-,aa,g⟩:=hi i (by omega);have l:Szd 121 (D i):=A _ (List.mem_map.2 ⟨i,by simpa using w,rfl⟩);obtain⟨v0,y0,L,e0,t0⟩:=g 0 _ rfl;obtain⟨v1,y1,M,e1,t1⟩:=g 1 _ rfl;obtain⟨v2,y2,N,e2,t2⟩:=g 2 _ rfl;obtain⟨v3,y3,O,e3,t3⟩:=g 3 _ rfl;obtain⟨v4,y4,P,e4,t4⟩:=g 4 _ rfl;obtain⟨v5,y5,Q,e5,t5⟩:=g 5 _ rfl;obtain⟨E,y6,R,U,t6⟩:=g 6 _ rfl;obtain⟨F,rfl,i0⟩:=dh t0;obtain⟨G,rfl,i1⟩:=dh t1;obtain⟨I,rfl,i2⟩:=dh t2;obtain⟨J,rfl,i3⟩:=dh t3;obtain⟨K,rfl,i4⟩:=dh t4;obtain⟨pp,rfl⟩:=iW t5;rw[Y]at l;have t:=eJ (j:=6) l Tryz.underlying121 rfl (by rw[List.getElem?_map,U];rfl);obtain⟨T,hd⟩:=iO t6 t;refine⟨([.int .i64 F,.int .i64 G,.int .i64 I,.int .i64 J,.int .i64 K,S8 pp,E],⟨F,G,I,J,K,pp,T⟩),⟨⟨E,rfl,oX (by rw[Z];exact hd)⟩,i3,i4⟩,fun j u d=>?_⟩;rcases j with _ | _ | _ | _ | _ | _ | _ | j
   .cases d;exact L
   .cases d;exact M
   .cases d;exact N
   .cases d;exact O
   .cases d;exact P
   .cases d;exact Q
   .cases d;exact R
   .simp at d)
  exact⟨xs,V.mono (fun c x r=>r.1),fun e he=>by obtain⟨c,hc⟩:=X e he;exact hc.2⟩
end
end
section
open Go Go.ChangeShapes Go.WideShapes Go.ChangeAt Go.RowKit Go.Deep
section
variable {H:Type} {enc:TypeId×Value->H} {P:Program} {w:World} {base:Nat} {spare:Nat->Bool} {held:Bool}
theorem mH {t e:TypeId} {l:Array Field} {d:Nat} {cs:List Value} {x:DataW H×List MemPlace} (S:P.underlying t=some (.slice e)) (L:P.underlying e=some (.struct l))
  (h:DataW.trod enc P w base spare held d t cs=some x) :
  (cs=[.slice none 0 0]/\x=(.nil,[])) \/
  ∃(a:Addr) (len b m:Nat) (D:Nat->DataW H) (o:Nat->List MemPlace),cs=[.slice (some a) len b]/\len<=b/\b<=maxLen/\m=(if spare a.block then b else len) /\
   x=(.slice ((List.range len).map D) ((List.range (m - len)).map fun j=>D (len+j)),MemPlace.row a (m*P.cellsOf e)++(List.range m).flatMap o) /\
   ∀i,i<m->∃(ys:List (DataW H×List MemPlace)) (n:Nat) (c:List Value),D i=.agg (ys.map (·.1))/\ys.length=l.size/\c.length=P.cellsOf e/\(∀j u,c[j]? = some u->w.cell? (a.add (i*P.cellsOf e+j))=some u) /\
    ∀(j:Nat) (f:Field),l[j]? = some f->∃y,ys[j]? = some y/\DataW.trod enc P w base spare held n f.type ((c.drop f.offset).take (P.cellsOf f.type))=some y:=by
 rcases open_slice S h with I | ⟨a,len,b,m,n,D,o,q,V,O,Q,A,T,N⟩
 .exact .inl I
 .refine .inr ⟨a,len,b,m,D,o,q,O,Q,A,T,fun i r=>?_⟩;obtain⟨c,J,B⟩:=N i r;obtain⟨ys,U,R,G,g,C,M⟩:=DataW.trod_struct L B;obtain⟨_,K,p⟩:=World.cells?_some J;simp only[Prod.mk.injEq]at G;refine⟨ys,U,c,G.1,C,g,fun j u F=>?_,fun j f E=>?_⟩
  .have z:=(List.getElem?_eq_some_iff.1 F).1;rw[<-Go.Deep.add_add,p j (by omega)];exact F
  .have z:j<l.size:=(Array.getElem?_eq_some_iff.1 E).1;have k:ys[j]? = some (ys[j]'(by omega)):=List.getElem?_eq_getElem (by omega);exact⟨_,k,(M j f E).trans k⟩
end
theorem jw:Tryz.prog.cellsOf 3=1:=by kernel_rfl
theorem ig:Tryz.prog.cellsOf 9=1:=by kernel_rfl
theorem vw:1<=Tryz.prog.bytesOf 9:=of_decide_eq_true (by kernel_rfl)
theorem vz:Tryz.prog.cellsOf 46=19:=by kernel_rfl
theorem vv:1<=Tryz.prog.bytesOf 46:=of_decide_eq_true (by kernel_rfl)
theorem xQ:Tryz.prog.cellsOf 41=8:=by kernel_rfl
theorem vy:Tryz.prog.cellsOf 130=3:=by kernel_rfl
theorem vr:1<=Tryz.prog.bytesOf 130:=of_decide_eq_true (by kernel_rfl)
theorem pj:Tryz.prog.cellsOf 37=1:=by kernel_rfl
theorem uj:Tryz.prog.cellsOf 38=1:=by kernel_rfl
theorem uk:Tryz.prog.cellsOf 39=1:=by kernel_rfl
theorem A1 {α:Type} {l:List α} (h:l.length=3):∃a b c,l=[a,b,c]:=by
 match l,h with
 | [a,b,c],_=>exact⟨a,b,c,rfl⟩
theorem AZ {α:Type} {l:List α} (h:l.length=19):∃b c d e g i j k n o a r,l=b::c::d::e::g::i::j::k::n::o::a::r/\r.length=8:=by
 match l,h with
 | b::c::d::e::g::i::j::k::n::o::a::r,h=>exact⟨b,c,d,e,g,i,j,k,n,o,a,r,rfl,by simpa using h⟩
theorem nT {α:Type} {l:List α} (h:l.length=8):∃a b c d e g i j,l=[a,b,c,d,e,g,i,j]:=by
 match l,h with
 | [a,b,c,d,e,g,i,j],_=>exact⟨a,b,c,d,e,g,i,j,rfl⟩
section
variable [Inhabited bf] {H:Type} {enc:TypeId×Value->H} {W:World}
theorem zo (A:cy=W) {n:Nat} {cs:List Value} {y:DataW H×List MemPlace} (h:DataW.trod enc Tryz.prog W 0 (fun _=>true) true n 44 cs=some y) (w:cs.length=8) (B:Szd 44 y.1):∃o:Opn,IsOpn W cs o/\I64 o.keep/\I64 o.BW/\∀e∈o.plan,I64 e.keep/\I64 e.BW:=by
 obtain⟨ys,d,S,T,C,z,c⟩:=DataW.trod_struct Tryz.underlying44 h;obtain⟨g,i,k,l,p,q,a,b,rfl⟩:=nT w;have r:ys.length=8:=z;obtain⟨Y,Z,y2,y3,y4,y5,y6,y7,rfl⟩:=nT r;have D:DataW.trod enc Tryz.prog W 0 (fun _=>true) true d 3 (([g,i,k,l,p,q,a,b].drop 0).take (Tryz.prog.cellsOf 3))=some Y:=c 0 _ rfl;have E:DataW.trod enc Tryz.prog W 0 (fun _=>true) true d 3 (([g,i,k,l,p,q,a,b].drop 1).take (Tryz.prog.cellsOf 3))=some Z:=c 1 _ rfl;have F:DataW.trod enc Tryz.prog W 0 (fun _=>true) true d 3 (([g,i,k,l,p,q,a,b].drop 2).take (Tryz.prog.cellsOf 3))=some y2:=c 2 _ rfl;have G:DataW.trod enc Tryz.prog W 0 (fun _=>true) true d 3 (([g,i,k,l,p,q,a,b].drop 3).take (Tryz.prog.cellsOf 3))=some y3:=c 3 _ rfl;have I:DataW.trod enc Tryz.prog W 0 (fun _=>true) true d 9 (([g,i,k,l,p,q,a,b].drop 4).take (Tryz.prog.cellsOf 9))=some y4:=c 4 _ rfl;have J:DataW.trod enc Tryz.prog W 0 (fun _=>true) true d 9 (([g,i,k,l,p,q,a,b].drop 5).take (Tryz.prog.cellsOf 9))=some y5:=c 5 _ rfl;have K:DataW.trod enc Tryz.prog W 0 (fun _=>true) true d 37 (([g,i,k,l,p,q,a,b].drop 6).take (Tryz.prog.cellsOf 37))=some y6:=c 6 _ rfl;have L:DataW.trod enc Tryz.prog W 0 (fun _=>true) true d 42 (([g,i,k,l,p,q,a,b].drop 7).take (Tryz.prog.cellsOf 42))=some y7:=c 7 _ rfl;have M:Tryz.prog.cellsOf 37=1:=by kernel_rfl
 have N:Tryz.prog.cellsOf 42=1:=by kernel_rfl
 rw[jw]at D E F G;rw[ig]at I J;rw[M]at K;rw[N]at L;obtain⟨z0,rfl,i0⟩:=dh D;obtain⟨z1,rfl,i1⟩:=dh E;obtain⟨z2,rfl,U⟩:=dh F;obtain⟨z3,rfl,V⟩:=dh G;obtain⟨pp,rfl⟩:=iW I;obtain⟨X,rfl⟩:=iW J;subst T;have t:=eJ (j:=6) B Tryz.underlying44 rfl rfl;have u:=eJ (j:=7) B Tryz.underlying44 rfl rfl;obtain⟨O,Q⟩:=iO K t;obtain⟨P,R,x⟩:=zn A L u;exact⟨⟨z0,z1,z2,z3,pp,X,O,P⟩,⟨a,b,rfl,oX (by rw[A];exact Q),R⟩,U,V,x⟩
end
section
variable {H:Type} {enc:TypeId×Value->H} {W:World}
variable {n:Nat} {v:Value}
theorem nz {y:DataW H×List MemPlace} (h:DataW.trod enc Tryz.prog W 0 (fun _=>true) true n 9 [v]=some y) (b:Szd 9 y.1):∃l:B8,v=S8 l/\l.length<=140737488355328:=by
 obtain⟨s,a,c,-⟩:=DataW.trod_string Tryz.underlying9 h;simp only[List.cons.injEq,and_true]at a;subst c;have d:=b s.data.toList.length (by simp[DataW.weights]);have e:=reachBytes_lt;exact⟨s.data.toList,a,by omega⟩
theorem uT {y:DataW H×List MemPlace} (h:DataW.trod enc Tryz.prog W 0 (fun _=>true) true n 39 [v]=some y) (o:Szd 39 y.1):∃l:List B8,IsStrs W v l/\∀s∈l,s.length<=140737488355328:=by
 rcases open_slice1 Tryz.underlying39 ig h with⟨d,F⟩ | ⟨a,g,x,m,G,V,D,C,d,_,z,A,k,rfl,w⟩
 .simp only[List.cons.injEq,and_true]at d;subst d;exact⟨[],Row.nil _,by simp⟩
 .simp only[List.cons.injEq,and_true]at d;subst d;simp only[if_true]at k;subst k;obtain⟨q,r⟩:=ix o Tryz.underlying39;have j:=nY q vw;have E:=reachBytes_lt;simp only[List.length_map,List.length_range]at j;have e:∀i,∃b:B8,i<g->V i=S8 b/\b.length<=140737488355328:=fun i=>by
   by_cases c:i<g
   .obtain ⟨b,o⟩:=nz (w i (by omega)).2 (r _ (List.mem_map.2 ⟨i,by simpa using c,rfl⟩));exact⟨b,fun _=>o⟩
   .exact ⟨[],fun h=>(c h).elim⟩
  refine⟨(List.range g).map fun i=>(e i).choose,?_,?_⟩
  .unfold IsStrs;rw[List.length_map,List.length_range];refine jo z A (by omega) fun i u t=>?_
   have c:=(List.getElem?_eq_some_iff.1 t).1;simp only[List.length_map,List.length_range]at c;rw[List.getElem?_map,List.getElem?_map,List.getElem?_range c]at t;cases t;rw[<-((e i).choose_spec c).1];exact(w i (by omega)).1
  .intro s B;obtain⟨i,p,rfl⟩:=List.mem_map.1 B;exact((e i).choose_spec (List.mem_range.1 p)).2
theorem xt {y:DataW H×List MemPlace} (h:DataW.trod enc Tryz.prog W 0 (fun _=>true) true n 38 [v]=some y) (hb:Szd 38 y.1):∃l:List Itm,IsItms W v l/\gH l:=by
 rcases mH Tryz.underlying38 Tryz.underlying130 h with⟨b,C⟩ | ⟨a,P,Z,m,D,Pl,b,hl,hm,A,rfl,hi⟩
 .simp only[List.cons.injEq,and_true]at b;subst b;exact⟨[],Row.nil _,fun x C=>by cases C⟩
 .simp only[List.cons.injEq,and_true]at b;subst b;simp only[if_true]at A;subst A;obtain⟨N,O⟩:=ix hb Tryz.underlying38;have z:=nY N vr;have hr:=reachBytes_lt;simp only[List.length_map,List.length_range]at z;obtain⟨Y,E,-,B⟩:=np (W:=W) (a:=a) (len:=P) (p:=fun c (o:Itm)=>c=itC o/\o.name.length<=140737488355328/\o.id.length<=140737488355328) 3 (by omega) ([],⟨0,[],[]⟩) hl hm (by omega) (fun c x C=>by rw[C.1];rfl) (fun i M=>by
   obtain⟨T,k,aa,hD,ad,w,t,K⟩:=hi i (by omega);have q:Szd 130 (D i):=O _ (List.mem_map.2 ⟨i,by simpa using M,rfl⟩);rw[vy]at w t;obtain⟨Q,R,S,rfl⟩:=A1 w;obtain⟨y0,e0,U⟩:∃y,T[0]? = some y/\DataW.trod enc Tryz.prog W 0 (fun _=>true) true k 3 (([Q,R,S].drop 0).take (Tryz.prog.cellsOf 3))=some y:=K 0 _ rfl;obtain⟨y1,e1,V⟩:∃y,T[1]? = some y/\DataW.trod enc Tryz.prog W 0 (fun _=>true) true k 9 (([Q,R,S].drop 1).take (Tryz.prog.cellsOf 9))=some y:=K 1 _ rfl;obtain⟨y2,e2,X⟩:∃y,T[2]? = some y/\DataW.trod enc Tryz.prog W 0 (fun _=>true) true k 9 (([Q,R,S].drop 2).take (Tryz.prog.cellsOf 9))=some y:=K 2 _ rfl;rw[jw]at U;rw[ig]at V X;rw[hD]at q;have I:=eJ (j:=1) q Tryz.underlying130 rfl (by rw[List.getElem?_map,e1];rfl);have J:=eJ (j:=2) q Tryz.underlying130 rfl (by rw[List.getElem?_map,e2];rfl);obtain⟨mm,rfl,i0⟩:=dh U;obtain⟨pp,rfl,hp⟩:=nz V I;obtain⟨qq,rfl,hq⟩:=nz X J;exact⟨(_,⟨mm,pp,qq⟩),⟨rfl,hp,hq⟩,fun j u hu=>t j u hu⟩)
  obtain⟨d,g,-,r⟩:=E;have b:∀(d:List (List Value)) (L:List Itm),Each (fun c (o:Itm)=>c=itC o/\o.name.length<=140737488355328/\o.id.length<=140737488355328) d L->d.flatten=L.flatMap itC:=by
   intro d L hE;have h9:d=L.map itC:=by
    obtain⟨G,F⟩:=hE;apply List.ext_getElem (by rw[List.length_map];exact G);intro k E B;rw[List.length_map]at B;rw[List.getElem_map];exact(F k _ _ (List.getElem?_eq_getElem E) (List.getElem?_eq_getElem B)).1
   rw[h9,List.flatMap_def]
  refine⟨Y,?_,fun e he=>by obtain⟨c,hc⟩:=B e he;exact hc.2⟩;rw[b d Y r]at g;exact g
theorem AJ {cs:List Value} {y:DataW H×List MemPlace} (h:DataW.trod enc Tryz.prog W 0 (fun _=>true) true n 41 cs=some y) (x:cs.length=8) (w:Szd 41 y.1):∃(o:Ob) (M N O:Value),cs=[.int .i64 o.kind,M,N,S8 o.tree,O,.int .i64 o.BU,.int .i64 o.BS,S8 o.msg]/\IsBytes W M o.data/\IsItms W N o.items/\IsStrs W O o.parents/\gH o.items/\∀s∈o.parents,s.length<=140737488355328:=by
 obtain⟨ys,e,S,U,C,B,d⟩:=DataW.trod_struct Tryz.underlying41 h;obtain⟨g,a,b,i,c,k,l,p,rfl⟩:=nT x;have q:ys.length=8:=B;obtain⟨Z,y1,y2,y3,y4,y5,y6,y7,rfl⟩:=nT q;have D:DataW.trod enc Tryz.prog W 0 (fun _=>true) true e 3 (([g,a,b,i,c,k,l,p].drop 0).take (Tryz.prog.cellsOf 3))=some Z:=d 0 _ rfl;have E:DataW.trod enc Tryz.prog W 0 (fun _=>true) true e 37 (([g,a,b,i,c,k,l,p].drop 1).take (Tryz.prog.cellsOf 37))=some y1:=d 1 _ rfl;have F:DataW.trod enc Tryz.prog W 0 (fun _=>true) true e 38 (([g,a,b,i,c,k,l,p].drop 2).take (Tryz.prog.cellsOf 38))=some y2:=d 2 _ rfl;have G:DataW.trod enc Tryz.prog W 0 (fun _=>true) true e 9 (([g,a,b,i,c,k,l,p].drop 3).take (Tryz.prog.cellsOf 9))=some y3:=d 3 _ rfl;have I:DataW.trod enc Tryz.prog W 0 (fun _=>true) true e 39 (([g,a,b,i,c,k,l,p].drop 4).take (Tryz.prog.cellsOf 39))=some y4:=d 4 _ rfl;have J:DataW.trod enc Tryz.prog W 0 (fun _=>true) true e 3 (([g,a,b,i,c,k,l,p].drop 5).take (Tryz.prog.cellsOf 3))=some y5:=d 5 _ rfl;have K:DataW.trod enc Tryz.prog W 0 (fun _=>true) true e 3 (([g,a,b,i,c,k,l,p].drop 6).take (Tryz.prog.cellsOf 3))=some y6:=d 6 _ rfl;have L:DataW.trod enc Tryz.prog W 0 (fun _=>true) true e 9 (([g,a,b,i,c,k,l,p].drop 7).take (Tryz.prog.cellsOf 9))=some y7:=d 7 _ rfl;rw[jw]at D J K;rw[ig]at G L;rw[pj]at E;rw[uj]at F;rw[uk]at I;subst U;have r:=eJ (j:=1) w Tryz.underlying41 rfl rfl;have t:=eJ (j:=2) w Tryz.underlying41 rfl rfl;have u:=eJ (j:=4) w Tryz.underlying41 rfl rfl;obtain⟨z0,rfl,-⟩:=dh D;obtain⟨z5,rfl,-⟩:=dh J;obtain⟨z6,rfl,-⟩:=dh K;obtain⟨pp,rfl⟩:=iW G;obtain⟨Y,rfl⟩:=iW L;obtain⟨P,Q⟩:=iO E r;obtain⟨V,R,z⟩:=xt F t;obtain⟨X,T,A⟩:=uT I u;exact⟨⟨z0,P,V,pp,X,z5,z6,Y⟩,a,b,c,rfl,Q,R,T,z,A⟩
end
section
variable [Inhabited bf] {H:Type} {enc:TypeId×Value->H} {W:World}
abbrev xG (x:Mop):Prop:=(I64 x.f.keep/\I64 x.f.BW/\∀e∈x.f.plan,I64 e.keep/\I64 e.BW)/\gH x.o.items/\∀s∈x.o.parents,s.length<=140737488355328
variable {v:Value}
theorem xu (hW:cy=W) {n:Nat} {y:DataW H×List MemPlace} (h:DataW.trod enc Tryz.prog W 0 (fun _=>true) true n 22 [v]=some y) (hb:Szd 22 y.1):∃os:List Mop,k' W v os/\∀o∈os,xG o:=by
 rcases mH Tryz.underlying22 Tryz.underlying46 h with⟨d,Q⟩ | ⟨a,a0,a1,m,D,Pl,d,hl,hm,O,rfl,hi⟩
 .simp only[List.cons.injEq,and_true]at d;subst d;exact⟨[],⟨[],Row.nil _,fun h=>(h rfl).elim,Each.nil _⟩,by simp⟩
 .simp only[List.cons.injEq,and_true]at d;subst d;simp only[if_true]at O;subst O;obtain⟨ad,au⟩:=ix hb Tryz.underlying22;have N:=nY ad vv;have hr:=reachBytes_lt;simp only[List.length_map,List.length_range]at N;obtain⟨xs,R,-,S⟩:=np (W:=W) (a:=a) (len:=a0) (p:=fun c (o:Mop)=>IsMop W c o/\xG o) 19 (by omega) ([],⟨0,[],⟨0,[],[],[],[],0,0,[]⟩,[],⟨0,0,0,0,[],[],[],[]⟩⟩) hl hm (by omega) (fun c x Q=>Q.1.length) (fun i Z=>by
   obtain⟨P,k,a2,hD,a3,K,J,L⟩:=hi i (by omega);have g:Szd 46 (D i):=au _ (List.mem_map.2 ⟨i,by simpa using Z,rfl⟩);rw[vz]at K J;obtain⟨G,I,r,t,w,z,A,B,C,E,b,q,rfl,M⟩:=AZ K;obtain⟨y0,e0,t0⟩:∃y,P[0]? = some y/\DataW.trod enc Tryz.prog W 0 (fun _=>true) true k 3 (((G::I::r::t::w::z::A::B::C::E::b::q).drop 0).take (Tryz.prog.cellsOf 3))=some y:=L 0 _ rfl;obtain⟨y1,e1,t1⟩:∃y,P[1]? = some y/\DataW.trod enc Tryz.prog W 0 (fun _=>true) true k 37 (((G::I::r::t::w::z::A::B::C::E::b::q).drop 1).take (Tryz.prog.cellsOf 37))=some y:=L 1 _ rfl;obtain⟨y2,e2,t2⟩:∃y,P[2]? = some y/\DataW.trod enc Tryz.prog W 0 (fun _=>true) true k 41 (((G::I::r::t::w::z::A::B::C::E::b::q).drop 2).take (Tryz.prog.cellsOf 41))=some y:=L 2 _ rfl;obtain⟨y3,e3,t3⟩:∃y,P[3]? = some y/\DataW.trod enc Tryz.prog W 0 (fun _=>true) true k 9 (((G::I::r::t::w::z::A::B::C::E::b::q).drop 10).take (Tryz.prog.cellsOf 9))=some y:=L 3 _ rfl;obtain⟨y4,e4,t4⟩:∃y,P[4]? = some y/\DataW.trod enc Tryz.prog W 0 (fun _=>true) true k 44 (((G::I::r::t::w::z::A::B::C::E::b::q).drop 11).take (Tryz.prog.cellsOf 44))=some y:=L 4 _ rfl;rw[jw]at t0;rw[pj]at t1;rw[xQ]at t2;rw[ig]at t3;rw[vA]at t4;rw[hD]at g;have T:=eJ (j:=1) g Tryz.underlying46 rfl (by rw[List.getElem?_map,e1];rfl);have U:=eJ (j:=2) g Tryz.underlying46 rfl (by rw[List.getElem?_map,e2];rfl);have V:=eJ (j:=4) g Tryz.underlying46 rfl (by rw[List.getElem?_map,e4];rfl);have Y:((G::I::r::t::w::z::A::B::C::E::b::q).drop 11).take 8=q:=List.take_of_length_le (Nat.le_of_eq M);rw[Y]at t4;obtain⟨z0,rfl,i0⟩:=dh t0;obtain⟨bl,X⟩:=iO t1 T;obtain⟨pp,rfl⟩:=iW t3;obtain⟨F,vd,vi,vp,l,R,S,h3,h4,h5⟩:=AJ t2 rfl U;obtain⟨o,aa,ho⟩:=zo hW t4 M V;have l:[r,t,w,z,A,B,C,E]=[.int .i64 F.kind,vd,vi,S8 F.tree,vp,.int .i64 F.BU,.int .i64 F.BS,S8 F.msg]:=l;simp only[List.cons.injEq,and_true]at l;obtain⟨rfl,rfl,rfl,rfl,rfl,rfl,rfl,rfl⟩:=l;exact⟨(_,⟨z0,bl,F,pp,o⟩),⟨⟨_,_,_,_,q,rfl,oX (by rw[hW];exact X),R,S,h3,aa⟩,ho,h4,h5⟩,fun j u hu=>J j u hu⟩)
  exact⟨xs,R.mono (fun c x Q=>Q.1),fun e he=>by obtain⟨c,hc⟩:=S e he;exact hc.2⟩
theorem xN (n:cy=W) {a:Nat} {d:DataW H} {p:List MemPlace} {k:List TypeId} {e:List (DataW H)} {j:Nat}
  (b:Value.okWide Tryz.prog W .any a 22 v) (h:DataW.Trod enc Tryz.prog W 0 (fun _=>true) true 22 v d p)
  (c:(DataW.weightsEach Tryz.prog k e).all (·<=reachBytes)=true) (t:k[j]? = some 22) (q:e[j]? = some d):∃i:List Mop,k' W v i/\∀o∈i,xG o:=by
 obtain⟨w,u,l,rfl⟩:=okWide_slice Tryz.underlying22 b;obtain⟨g,r⟩:=h;exact xu n (y:=(d,p)) (by simpa [Value.cells]using r) (AI c t q)
end
end
end Go.Proofs.YtfabjgfmiaammaaGreatDoor
