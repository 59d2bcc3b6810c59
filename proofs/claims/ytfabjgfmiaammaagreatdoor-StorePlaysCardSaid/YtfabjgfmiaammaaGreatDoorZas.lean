/- Contracts of the program's functions and plain laws behind the card. Conditions: as each theorem states. -/
import Derived.Test.YtfabjgfmiaammaaGreatDoorZak
import Derived.Test.YtfabjgfmiaammaaGreatDoorCards
import Derived.Test.YtfabjgfmiaammaaGreatDoorTie
import Derived.OpenShut
import Derived.LaidMore
import Derived.Lay
import Derived.Deep.DeepHandedRow
import Derived.Lib.LaidTab
import Derived.Stop.LaidErr
import Derived.ProofKit
import Derived.SizedLaws
import Derived.Deep.Slices
import Derived.Deep.Fields
import Derived.ChangeSame
import Derived.Test.YtfabjgfmiaammaaGreatDoorZal
import Derived.Test.YtfabjgfmiaammaaGreatDoorZaj
import Derived.Test.YtfabjgfmiaammaaGreatDoorZaf
set_option linter.unusedVariables false
set_option linter.unusedSimpArgs false
set_option linter.unusedSectionVars false
set_option maxRecDepth 100000
set_option maxHeartbeats 64000000
namespace Go.Proofs.YtfabjgfmiaammaaGreatDoor
section
open Go Go.ChangeShapes Go.WideShapes Go.ChangeAt Go.RowKit Go.Deep
theorem own:ownKnob Tryz.prog.godebug=none:=by kernel_rfl
theorem tM:laidOutB Tryz.prog=true:=by kernel_rfl
theorem Ay:Tryz.prog.cellsOf 5=1:=by kernel_rfl
theorem Az:Tryz.prog.bytesOf 5=1:=by kernel_rfl
variable {W:World}
theorem A' (a:W.ShapedOpen Tryz.prog):Env W :=
 ⟨Go.Proofs.cell_of_shapedOpen_int (zero:=#[.int .i64 0]) (t:=3) a (of_decide_eq_true (by kernel_rfl)) (by kernel_rfl) rfl (by kernel_rfl) (by kernel_rfl) Tryz.underlying3⟩
theorem AA {x:Int} (h:(Lit.int .u8 x).wf=true):0<=x/\x<256:=by
 have a:IntKind.u8.min=0:=rfl;have b:IntKind.u8.max=255:=rfl;simp only[Lit.wf,Bool.and_eq_true,decide_eq_true_eq]at h;omega
theorem kS (k:laidOutB Tryz.prog=true) {H:Type} {enc:TypeId×Value->H} {l:World} (n:Below W.heap.size W l):∀ {e:List TypeId} {vs:List Value} {g:List (DataW H)} {a:List MemPlace},DataW.TrodAll enc Tryz.prog W 0 (fun _=>true) true e vs g a->(∀x∈a,x.block<W.heap.size)->(∀t∈e,Tryz.prog.readableRec t=true/\t<Tryz.prog.types.size) ->
  DataW.TrodAll enc Tryz.prog l 0 (fun b=>decide (b<W.heap.size)) true e vs g a
 | [],vs,g,a,h,_,_=>by
  obtain⟨rfl,rfl,rfl⟩:=trodAll_nil h;exact trodAll_mk0
 | t::e,vs,g,a,h,c,i=>by
  obtain⟨v,o,d,r,p,q,rfl,rfl,rfl,u,w⟩:=trodAll_cons h;exact⟨p,q,Below.trod k (i t (by simp)).1 (i t (by simp)).2 u n (fun x j=>c x (by simp[j])),kS k n w (fun x j=>c x (by simp[j])) (fun t y=>i t (by simp[y])),rfl⟩
theorem xo {n:Int} (h:(Lit.int .i64 n).wf=true):I64 n:=by
 have a:IntKind.i64.min = -9223372036854775808:=rfl;have b:IntKind.i64.max=9223372036854775807:=rfl;simp only[Lit.wf,Bool.and_eq_true,decide_eq_true_eq]at h;unfold I64;omega
section
variable {H:Type} {enc:TypeId×Value->H} {P:Program} {w:World} {base:Nat} {spare:Nat->Bool} {held:Bool}
theorem rG {t e:TypeId} {d:Array Field} {l:Nat} {cs:List Value} {x:DataW H×List MemPlace} (N:P.underlying t=some (.slice e)) (O:P.underlying e=some (.struct d))
  (o:oneCellFields P d=true) (J:P.cellsOf e=d.size) (h:DataW.trod enc P w base spare held l t cs=some x) :
  (cs=[.slice none 0 0]/\x=(.nil,[])) \/
  ∃(a:Addr) (len b m:Nat) (D:Nat->DataW H) (q:Nat->List MemPlace),cs=[.slice (some a) len b]/\base<=a.block/\len<=b/\b<=maxLen/\m=(if spare a.block then b else len) /\
   x=(.slice ((List.range len).map D) ((List.range (m - len)).map fun j=>D (len+j)),MemPlace.row a (m*d.size)++(List.range m).flatMap q) /\
   ∀i,i<m->∃(ys:List (DataW H×List MemPlace)) (n:Nat),D i=.agg (ys.map (·.1))/\q i=ys.flatMap (·.2)/\ys.length=d.size /\
    ∀(j:Nat) (f:Field),d[j]? = some f->∃(v:Value) (y:DataW H×List MemPlace),w.cell? (a.add (i*d.size+j))=some v/\ys[j]? = some y/\DataW.trod enc P w base spare held n f.type [v]=some y:=by
 rcases open_slice N h with Q | ⟨a,len,b,m,n,D,q,r,R,S,T,u,K,U⟩
 .exact .inl Q
 .refine .inr ⟨a,len,b,m,D,q,r,R,S,T,u,by rw[J]at K;exact K,fun i z=>?_⟩;obtain⟨c,L,A⟩:=U i z;rw[J]at L;obtain⟨ys,V,W,B,M,C,X⟩:=DataW.trod_struct O A;obtain⟨_,Y,E⟩:=World.cells?_some L;simp only[Prod.mk.injEq]at B;refine⟨ys,V,B.1,B.2,C,fun j f F=>?_⟩;obtain⟨Z,hk⟩:=hone_of o j f F;have G:j<d.size:=(Array.getElem?_eq_some_iff.1 F).1;have g:=E j G;have hv:c[j]? = some (c[j]'(by omega)):=List.getElem?_eq_getElem (by omega);have I:=X j f F;rw[Z,hk]at I;have k:(c.drop j).take 1=[c[j]'(by omega)]:=by
   rw[List.drop_eq_getElem_cons (by omega)];rfl
  rw[k]at I;have p:ys[j]? = some (ys[j]'(by omega)):=List.getElem?_eq_getElem (by omega);refine⟨_,_,?_,p,I.trans p⟩;rw[<-Go.Deep.add_add,g,hv]
end
def Szd {H:Type} (t:TypeId) (d:DataW H):Prop:=∀n∈d.weights Tryz.prog t,n<=reachBytes
variable {j:Nat} {t:TypeId}
theorem AB {H:Type} {a:List TypeId} {b:List (DataW H)} {d:DataW H} (h:(DataW.weightsEach Tryz.prog a b).all (·<=reachBytes)=true) (c:a[j]? = some t) (e:b[j]? = some d):Szd t d:=fun n g=>by
 have:=List.all_eq_true.1 h _ (DataW.weights_mem_each c e n g);simpa using this
theorem rH {H:Type} {P:Program} {e:TypeId}:∀ {l:List (DataW H)} {d:DataW H},d∈l->∀n∈d.weights P e,n∈DataW.weightsAll P e l
 | c::r,d,b,n,a=>by
  simp only[DataW.weightsAll,List.mem_append];rcases List.mem_cons.1 b with rfl | h
  .exact Or.inl a
  .exact Or.inr (rH h n a)
theorem ip {H:Type} {q:TypeId} {e s:List (DataW H)} (h:Szd t (.slice e s)) (a:Tryz.prog.underlying t=some (.slice q)):(e.length+s.length)*Tryz.prog.bytesOf q<=reachBytes/\∀d∈e,Szd q d:=by
 refine⟨h _ (by simp[DataW.weights,a]),fun d b n c=>h n ?_⟩;simp only[DataW.weights,a,List.mem_cons,List.mem_append];exact Or.inr (Or.inl (rH b n c))
theorem eA {H:Type} {b:Array Field} {a:List (DataW H)} {f:Field} {d:DataW H} (h:Szd t (.agg a)) (c:Tryz.prog.underlying t=some (.struct b)) (e:b[j]? = some f) (g:a[j]? = some d):Szd f.type d:=fun n i=>by
 refine h n ?_;simp only[DataW.weights,c];refine DataW.weights_mem_each (j:=j) ?_ g n i;rw[List.getElem?_map,Array.getElem?_toList,e];rfl
section
variable {H:Type} {enc:TypeId×Value->H} {W:World}
variable {n:Nat} {v:Value}
theorem db {y:DataW H×List MemPlace} (h:DataW.trod enc Tryz.prog W 0 (fun _=>true) true n 3 [v]=some y):∃z,v=.int .i64 z/\I64 z:=by
 obtain⟨z,a,-,b⟩:=DataW.trod_int Tryz.underlying3 h;simp only[List.cons.injEq,and_true]at a;exact⟨z,a,xo b⟩
theorem iR {y:DataW H×List MemPlace} (h:DataW.trod enc Tryz.prog W 0 (fun _=>true) true n 9 [v]=some y):∃l:B8,v=S8 l:=by
 obtain⟨s,a,-,-⟩:=DataW.trod_string Tryz.underlying9 h;simp only[List.cons.injEq,and_true]at a;exact⟨s.data.toList,a⟩
variable {a:Addr} {len cap:Nat} {cs:List Value}
theorem jo (h:len<=cap) (j:cap<=maxLen) (k:len<=140737488355328) (g:∀i u,cs[i]? = some u->W.cell? (a.add i)=some u):Row W (.slice (some a) len cap) len cs:=by
 unfold maxLen at j;refine⟨some a,cap,rfl,h,by omega,k,fun e=>?_⟩;obtain⟨x,r,rfl⟩:∃x r,cs=x::r:=by
  cases cs with
  | nil=>exact(e rfl).elim
  | cons x r=>exact⟨x,r,rfl⟩
 have c:a.spot=none:=by
  have:=World.cell?_spot (g 0 x rfl);simpa [Addr.add]using this
 obtain⟨b,o,n⟩:=a;simp only at c;subst c;refine⟨b,o,rfl,fun i u l=>?_⟩;have d:(⟨b,o,none⟩:Addr).add i=⟨b,o+i,none⟩:=by unfold Addr.add;split <;> simp_all
 rw[<-d];exact g i u l
theorem iM {y:DataW H×List MemPlace} (h:DataW.trod enc Tryz.prog W 0 (fun _=>true) true n 37 [v]=some y) (r:Szd 37 y.1):∃l:B8,IsBytes W v l:=by
 rcases open_ints Tryz.underlying37 Tryz.underlying5 Ay h with⟨b,D⟩ | ⟨a,c,t,e,b,_,w,x,A,rfl,d,k⟩
 .simp only[List.cons.injEq,and_true]at b;subst b;exact⟨[],Row.nil _⟩
 .simp only[List.cons.injEq,and_true]at b;subst b;simp only[if_true]at A;have p:=(ip r Tryz.underlying37).1;rw[Az]at p;have E:=reachBytes_lt;simp only[lits,List.length_map,List.length_take,List.length_drop,Nat.mul_one]at p;have g:c<=140737488355328:=by omega
  refine⟨(e.take c).map fun z=>UInt8.ofNat z.toNat,?_⟩;have o:((e.take c).map fun z=>UInt8.ofNat z.toNat).length=c:=by simp;omega
  unfold IsBytes;rw[o];refine jo w x g fun i u q=>?_
  have B:i<c:=by
   have:=(List.getElem?_eq_some_iff.1 q).1;simp at this;omega
  have C:=d i (by omega);rw[C,<-q];have j:e[i]? = some e[i]:=List.getElem?_eq_getElem (by omega);have F:=AA (k e[i] (List.getElem_mem (by omega)));rw[List.getElem?_map,List.getElem?_map,List.getElem?_take_of_lt B,j];simp only[Option.map_some,List.getD_eq_getElem?_getD,j,Option.getD_some,Option.some.injEq,Value.int.injEq,true_and,UInt8.toNat_ofNat'];omega
theorem tN {w:World} (h:Row w v n cs) (c:cs≠[]):∀k,v.ownBlock=some k->k<w.heap.size:=by
 obtain⟨a,cap,rfl,j,l,p,d⟩:=h;obtain⟨b,o,rfl,e⟩:=d c;intro k g
 cases cs with
 | nil=>exact(c rfl).elim
 | cons x r =>
  have:=World.block_lt_of_cell? _ _ (e 0 x rfl);have i:b=k:=by simpa [Value.ownBlock]using g
  subst i;exact this
theorem oS [Inhabited bc] {l:B8} (h:IsBytes ci v l):OldB v l:=by
 refine⟨h,fun a n c d e=>tN h ?_ a.block (by rw[d];rfl)⟩;obtain⟨j,g,b,-⟩:=h;rw[d]at b;simp only[Value.slice.injEq]at b;intro i;have:=congrArg List.length i;simp at this;rw[this]at b;exact e b.2.1
theorem zi (m:Nat) (g:0<m) (a:List (List Value)) (h:∀c∈a,c.length=m) (q:Nat) (u:Value) (b:a.flatten[q]? = some u):∃c,a[q / m]? = some c/\c[q%m]? = some u:=by
 induction a generalizing q with
 | nil=>simp at b
 | cons c r i =>
  have j:=h c (by simp)
  by_cases e:q<m
  .refine ⟨c,by rw[Nat.div_eq_of_lt e];rfl,?_⟩;rw[Nat.mod_eq_of_lt e];simpa [List.flatten_cons,List.getElem?_append_left (show q<c.length by omega)]using b
  .rw [List.flatten_cons,List.getElem?_append_right (by omega),j]at b;obtain⟨d,k,l⟩:=i (fun x n=>h x (by simp[n])) (q - m) b;refine⟨d,?_,?_⟩
   .have:q / m=(q - m) / m+1:=by
     rw[Nat.div_eq_sub_div g (by omega)]
    rw[this];exact k
   .rw [Nat.mod_eq_sub_mod (by omega)];exact l
theorem Ba:oneCellFields Tryz.prog (match Tryz.prog.underlying 121 with | some (.struct a)=>a | _=>#[])=true:=by kernel_rfl
theorem zj:Tryz.prog.cellsOf 121=7:=by kernel_rfl
theorem xp:Tryz.prog.cellsOf 44=8:=by kernel_rfl
theorem zk:1<=Tryz.prog.bytesOf 121:=of_decide_eq_true (by kernel_rfl)
theorem oe {a b c:Nat} (h:a*b<=c) (d:1<=b):a<=c:=Nat.le_trans (Nat.le_mul_of_pos_right a d) h
theorem nd {α:Type} (m:Nat) (A:0<m) (J:List Value×α) (K:len<=cap) (L:cap<=maxLen) (M:len<=140737488355328) {p:List Value->α->Prop} (F:∀c x,p c x->c.length=m)
  (B:∀i,i<len->∃d:List Value×α,p d.1 d.2/\∀j u,d.1[j]? = some u->W.cell? (a.add (i*m+j))=some u):∃C:List α,ReadO W p (.slice (some a) len cap) C/\C.length=len/\∀x∈C,∃c,p c x:=by
 have l:∀i,∃d:List Value×α,i<len->p d.1 d.2/\∀j u,d.1[j]? = some u->W.cell? (a.add (i*m+j))=some u:=fun i=>by
  by_cases h:i<len
  .obtain ⟨d,z⟩:=B i h;exact⟨d,fun _=>z⟩
  .exact ⟨J,fun g=>(h g).elim⟩
 have G:=fun i=>(l i).choose_spec
 generalize D:(fun i=>(l i).choose)=d at G;have k:∀i,i<len->p (d i).1 (d i).2/\∀j u,(d i).1[j]? = some u->W.cell? (a.add (i*m+j))=some u:=fun i b=>by
  have:=G i b;rw[<-D];exact this
 have o:∀(i:Nat) c,((List.range len).map fun i=>(d i).1)[i]? = some c->i<len/\c=(d i).1:=fun i c g=>by
  have b:=(List.getElem?_eq_some_iff.1 g).1;simp only[List.length_map,List.length_range]at b;refine⟨b,?_⟩;rw[List.getElem?_map,List.getElem?_range b]at g;exact(Option.some.inj g).symm
 have r:Row W (.slice (some a) len cap) len ((List.range len).map fun i=>(d i).1).flatten:=by
  refine jo K L M fun q u N=>?_
  obtain⟨c,g,O⟩:=zi m A _ (fun c g=>by
   obtain⟨i,y,rfl⟩:=List.mem_map.1 g;exact F _ _ (k i (by simpa using y)).1) q u N
  obtain⟨b,rfl⟩:=o _ _ g;have:=(k _ b).2 _ u O
  rwa [show q / m*m+q%m=q by rw[Nat.mul_comm];exact Nat.div_add_mod q m]at this
 refine⟨(List.range len).map fun i=>(d i).2,⟨(List.range len).map fun i=>(d i).1,by rw[List.length_map,List.length_range];exact r,fun E=>?_,by simp,fun i c e g I=>?_⟩,by simp,fun x P=>?_⟩
 .refine tN r fun Q=>?_
  have w:0<len:=by
   cases len with
   | zero=>exact(E rfl).elim
   | succ n=>omega
  have z:=F _ _ (k 0 w).1;have R:((List.range len).map fun i=>(d i).1)[0]? = some (d 0).1:=by rw[List.getElem?_map,List.getElem?_range w];rfl
  have S:=List.mem_of_getElem? R;have T:=List.flatten_eq_nil_iff.1 Q _ S;rw[T]at z;simp at z;omega
 .obtain ⟨b,rfl⟩:=o _ _ g;rw[List.getElem?_map,List.getElem?_range b]at I;cases I;exact(k i b).1
 .obtain ⟨i,y,rfl⟩:=List.mem_map.1 P;exact⟨_,(k i (by simpa using y)).1⟩
end
section
variable [Inhabited bc] {H:Type} {enc:TypeId×Value->H} {W:World}
theorem zm (L:ci=W) {n:Nat} {v:Value} {y:DataW H×List MemPlace} (h:DataW.trod enc Tryz.prog W 0 (fun _=>true) true n 42 [v]=some y) (M:Szd 42 y.1):∃C:List Ev,ReadO W IsEvI v C/\∀e∈C,I64 e.keep/\I64 e.BN:=by
 rcases rG Tryz.underlying42 Tryz.underlying121 Ba zj h with⟨b,r⟩ | ⟨a,t,N,m,D,Pl,b,_,O,P,l,rfl,Q⟩
 .simp only[List.cons.injEq,and_true]at b;subst b;exact⟨[],⟨[],Row.nil _,fun h=>(h rfl).elim,Each.nil _⟩,by simp⟩
 .simp only[List.cons.injEq,and_true]at b;subst b;simp only[if_true]at l;subst l;obtain⟨w,z⟩:=ip M Tryz.underlying42;have o:=oe w zk;have hr:=reachBytes_lt;simp only[List.length_map,List.length_range]at o;obtain⟨R,S,-,T⟩:=nd (W:=W) (a:=a) (len:=t) (p:=fun c (e:Ev)=>IsEvI c e/\I64 e.keep/\I64 e.BN) 7 (by omega) ([],⟨0,0,0,0,0,[],[]⟩) O P (by omega) (fun c x r=>r.1.length.1) (fun i A=>by
   obtain⟨ys,k,U,-,V,g⟩:=Q i (by omega);have q:Szd 121 (D i):=z _ (List.mem_map.2 ⟨i,by simpa using A,rfl⟩);obtain⟨v0,y0,X,e0,Y⟩:=g 0 _ rfl;obtain⟨v1,y1,Z,e1,t1⟩:=g 1 _ rfl;obtain⟨v2,y2,c2,e2,t2⟩:=g 2 _ rfl;obtain⟨v3,y3,c3,e3,t3⟩:=g 3 _ rfl;obtain⟨v4,y4,c4,e4,t4⟩:=g 4 _ rfl;obtain⟨v5,y5,c5,e5,t5⟩:=g 5 _ rfl;obtain⟨E,y6,c6,e6,t6⟩:=g 6 _ rfl;obtain⟨F,rfl,i0⟩:=db Y;obtain⟨G,rfl,i1⟩:=db t1;obtain⟨I,rfl,i2⟩:=db t2;obtain⟨J,rfl,i3⟩:=db t3;obtain⟨K,rfl,i4⟩:=db t4;obtain⟨pp,rfl⟩:=iR t5;rw[U]at q;have B:=eA (j:=6) q Tryz.underlying121 rfl (by rw[List.getElem?_map,e6];rfl);obtain⟨dl,hd⟩:=iM t6 B;refine⟨([.int .i64 F,.int .i64 G,.int .i64 I,.int .i64 J,.int .i64 K,S8 pp,E],⟨F,G,I,J,K,pp,dl⟩),⟨⟨E,rfl,oS (by rw[L];exact hd)⟩,i3,i4⟩,fun j u d=>?_⟩;rcases j with _ | _ | _ | _ | _ | _ | _ | j
   .cases d;exact X
   .cases d;exact Z
   .cases d;exact c2
   .cases d;exact c3
   .cases d;exact c4
   .cases d;exact c5
   .cases d;exact c6
   .simp at d)
  exact⟨R,S.mono (fun c x r=>r.1),fun e he=>by obtain⟨c,hc⟩:=T e he;exact hc.2⟩
end
end
section
open Go Go.ChangeShapes Go.WideShapes Go.ChangeAt Go.RowKit Go.Deep
section
variable {H:Type} {enc:TypeId×Value->H} {P:Program} {w:World} {base:Nat} {spare:Nat->Bool} {held:Bool}
theorem mz {t e:TypeId} {l:Array Field} {d:Nat} {cs:List Value} {x:DataW H×List MemPlace} (I:P.underlying t=some (.slice e)) (J:P.underlying e=some (.struct l))
  (h:DataW.trod enc P w base spare held d t cs=some x) :
  (cs=[.slice none 0 0]/\x=(.nil,[])) \/
  ∃(a:Addr) (len b m:Nat) (D:Nat->DataW H) (o:Nat->List MemPlace),cs=[.slice (some a) len b]/\len<=b/\b<=maxLen/\m=(if spare a.block then b else len) /\
   x=(.slice ((List.range len).map D) ((List.range (m - len)).map fun j=>D (len+j)),MemPlace.row a (m*P.cellsOf e)++(List.range m).flatMap o) /\
   ∀i,i<m->∃(ys:List (DataW H×List MemPlace)) (n:Nat) (c:List Value),D i=.agg (ys.map (·.1))/\ys.length=l.size/\c.length=P.cellsOf e/\(∀j u,c[j]? = some u->w.cell? (a.add (i*P.cellsOf e+j))=some u) /\
    ∀(j:Nat) (f:Field),l[j]? = some f->∃y,ys[j]? = some y/\DataW.trod enc P w base spare held n f.type ((c.drop f.offset).take (P.cellsOf f.type))=some y:=by
 rcases open_slice I h with K | ⟨a,len,b,m,n,D,o,p,V,L,M,q,N,O⟩
 .exact .inl K
 .refine .inr ⟨a,len,b,m,D,o,p,L,M,q,N,fun i r=>?_⟩;obtain⟨c,Q,z⟩:=O i r;obtain⟨ys,R,S,E,g,A,T⟩:=DataW.trod_struct J z;obtain⟨_,U,B⟩:=World.cells?_some Q;simp only[Prod.mk.injEq]at E;refine⟨ys,R,c,E.1,A,g,fun j u F=>?_,fun j f G=>?_⟩
  .have C:=(List.getElem?_eq_some_iff.1 F).1;rw[<-Go.Deep.add_add,B j (by omega)];exact F
  .have C:j<l.size:=(Array.getElem?_eq_some_iff.1 G).1;have k:ys[j]? = some (ys[j]'(by omega)):=List.getElem?_eq_getElem (by omega);exact⟨_,k,(T j f G).trans k⟩
end
theorem jJ:Tryz.prog.cellsOf 3=1:=by kernel_rfl
theorem iq:Tryz.prog.cellsOf 9=1:=by kernel_rfl
theorem xq:1<=Tryz.prog.bytesOf 9:=of_decide_eq_true (by kernel_rfl)
theorem xr:Tryz.prog.cellsOf 46=19:=by kernel_rfl
theorem xt:1<=Tryz.prog.bytesOf 46:=of_decide_eq_true (by kernel_rfl)
theorem zn:Tryz.prog.cellsOf 41=8:=by kernel_rfl
theorem xu:Tryz.prog.cellsOf 130=3:=by kernel_rfl
theorem xw:1<=Tryz.prog.bytesOf 130:=of_decide_eq_true (by kernel_rfl)
theorem pT:Tryz.prog.cellsOf 37=1:=by kernel_rfl
theorem uP:Tryz.prog.cellsOf 38=1:=by kernel_rfl
theorem uQ:Tryz.prog.cellsOf 39=1:=by kernel_rfl
theorem Bb {α:Type} {l:List α} (h:l.length=3):∃a b c,l=[a,b,c]:=by
 match l,h with
 | [a,b,c],_=>exact⟨a,b,c,rfl⟩
theorem Bc {α:Type} {l:List α} (h:l.length=19):∃o b c d e g i j k n a r,l=o::b::c::d::e::g::i::j::k::n::a::r/\r.length=8:=by
 match l,h with
 | o::b::c::d::e::g::i::j::k::n::a::r,h=>exact⟨o,b,c,d,e,g,i,j,k,n,a,r,rfl,by simpa using h⟩
theorem oh {α:Type} {l:List α} (h:l.length=8):∃a b c d e g i j,l=[a,b,c,d,e,g,i,j]:=by
 match l,h with
 | [a,b,c,d,e,g,i,j],_=>exact⟨a,b,c,d,e,g,i,j,rfl⟩
section
variable [Inhabited bc] {H:Type} {enc:TypeId×Value->H} {W:World}
theorem zo (A:ci=W) {n:Nat} {cs:List Value} {y:DataW H×List MemPlace} (h:DataW.trod enc Tryz.prog W 0 (fun _=>true) true n 44 cs=some y) (t:cs.length=8) (B:Szd 44 y.1):∃o:Opn,IsOpn W cs o/\I64 o.keep/\I64 o.BN/\∀e∈o.plan,I64 e.keep/\I64 e.BN:=by
 obtain⟨M,c,N,O,C,u,d⟩:=DataW.trod_struct Tryz.underlying44 h;obtain⟨g,i,k,l,p,q,a,b,rfl⟩:=oh t;have r:M.length=8:=u;obtain⟨P,Q,R,S,T,U,V,X,rfl⟩:=oh r;have D:DataW.trod enc Tryz.prog W 0 (fun _=>true) true c 3 (([g,i,k,l,p,q,a,b].drop 0).take (Tryz.prog.cellsOf 3))=some P:=d 0 _ rfl;have E:DataW.trod enc Tryz.prog W 0 (fun _=>true) true c 3 (([g,i,k,l,p,q,a,b].drop 1).take (Tryz.prog.cellsOf 3))=some Q:=d 1 _ rfl;have F:DataW.trod enc Tryz.prog W 0 (fun _=>true) true c 3 (([g,i,k,l,p,q,a,b].drop 2).take (Tryz.prog.cellsOf 3))=some R:=d 2 _ rfl;have G:DataW.trod enc Tryz.prog W 0 (fun _=>true) true c 3 (([g,i,k,l,p,q,a,b].drop 3).take (Tryz.prog.cellsOf 3))=some S:=d 3 _ rfl;have I:DataW.trod enc Tryz.prog W 0 (fun _=>true) true c 9 (([g,i,k,l,p,q,a,b].drop 4).take (Tryz.prog.cellsOf 9))=some T:=d 4 _ rfl;have J:DataW.trod enc Tryz.prog W 0 (fun _=>true) true c 9 (([g,i,k,l,p,q,a,b].drop 5).take (Tryz.prog.cellsOf 9))=some U:=d 5 _ rfl;have K:DataW.trod enc Tryz.prog W 0 (fun _=>true) true c 37 (([g,i,k,l,p,q,a,b].drop 6).take (Tryz.prog.cellsOf 37))=some V:=d 6 _ rfl;have L:DataW.trod enc Tryz.prog W 0 (fun _=>true) true c 42 (([g,i,k,l,p,q,a,b].drop 7).take (Tryz.prog.cellsOf 42))=some X:=d 7 _ rfl;have Y:Tryz.prog.cellsOf 37=1:=by kernel_rfl
 have Z:Tryz.prog.cellsOf 42=1:=by kernel_rfl
 rw[jJ]at D E F G;rw[iq]at I J;rw[Y]at K;rw[Z]at L;obtain⟨z0,rfl,i0⟩:=db D;obtain⟨z1,rfl,i1⟩:=db E;obtain⟨z2,rfl,i2⟩:=db F;obtain⟨z3,rfl,i3⟩:=db G;obtain⟨pp,rfl⟩:=iR I;obtain⟨qq,rfl⟩:=iR J;subst O;have w:=eA (j:=6) B Tryz.underlying44 rfl rfl;have x:=eA (j:=7) B Tryz.underlying44 rfl rfl;obtain⟨dl,hd⟩:=iM K w;obtain⟨es,he,z⟩:=zm A L x;exact⟨⟨z0,z1,z2,z3,pp,qq,dl,es⟩,⟨a,b,rfl,oS (by rw[A];exact hd),he⟩,i2,i3,z⟩
end
section
variable {H:Type} {enc:TypeId×Value->H} {W:World}
variable {n:Nat} {v:Value}
theorem nf {y:DataW H×List MemPlace} (h:DataW.trod enc Tryz.prog W 0 (fun _=>true) true n 9 [v]=some y) (b:Szd 9 y.1):∃l:B8,v=S8 l/\l.length<=140737488355328:=by
 obtain⟨s,a,c,-⟩:=DataW.trod_string Tryz.underlying9 h;simp only[List.cons.injEq,and_true]at a;subst c;have d:=b s.data.toList.length (by simp[DataW.weights]);have e:=reachBytes_lt;exact⟨s.data.toList,a,by omega⟩
theorem uR {y:DataW H×List MemPlace} (h:DataW.trod enc Tryz.prog W 0 (fun _=>true) true n 39 [v]=some y) (o:Szd 39 y.1):∃l:List B8,IsStrs W v l/\∀s∈l,s.length<=140737488355328:=by
 rcases open_slice1 Tryz.underlying39 iq h with⟨d,C⟩ | ⟨a,e,x,m,E,V,D,F,d,_,z,A,j,rfl,w⟩
 .simp only[List.cons.injEq,and_true]at d;subst d;exact⟨[],Row.nil _,by simp⟩
 .simp only[List.cons.injEq,and_true]at d;subst d;simp only[if_true]at j;subst j;obtain⟨p,q⟩:=ip o Tryz.underlying39;have k:=oe p xq;have G:=reachBytes_lt;simp only[List.length_map,List.length_range]at k;have g:∀i,∃b:B8,i<e->V i=S8 b/\b.length<=140737488355328:=fun i=>by
   by_cases c:i<e
   .obtain ⟨b,o⟩:=nf (w i (by omega)).2 (q _ (List.mem_map.2 ⟨i,by simpa using c,rfl⟩));exact⟨b,fun _=>o⟩
   .exact ⟨[],fun h=>(c h).elim⟩
  refine⟨(List.range e).map fun i=>(g i).choose,?_,?_⟩
  .unfold IsStrs;rw[List.length_map,List.length_range];refine jo z A (by omega) fun i u r=>?_
   have c:=(List.getElem?_eq_some_iff.1 r).1;simp only[List.length_map,List.length_range]at c;rw[List.getElem?_map,List.getElem?_map,List.getElem?_range c]at r;cases r;rw[<-((g i).choose_spec c).1];exact(w i (by omega)).1
  .intro s B;obtain⟨i,t,rfl⟩:=List.mem_map.1 B;exact((g i).choose_spec (List.mem_range.1 t)).2
theorem xx {y:DataW H×List MemPlace} (h:DataW.trod enc Tryz.prog W 0 (fun _=>true) true n 38 [v]=some y) (Z:Szd 38 y.1):∃l:List Itm,IsItms W v l/\gK l:=by
 rcases mz Tryz.underlying38 Tryz.underlying130 h with⟨b,B⟩ | ⟨a,E,ad,m,D,Pl,b,hl,hm,t,rfl,hi⟩
 .simp only[List.cons.injEq,and_true]at b;subst b;exact⟨[],Row.nil _,fun x B=>by cases B⟩
 .simp only[List.cons.injEq,and_true]at b;subst b;simp only[if_true]at t;subst t;obtain⟨F,G⟩:=ip Z Tryz.underlying38;have w:=oe F xw;have hr:=reachBytes_lt;simp only[List.length_map,List.length_range]at w;obtain⟨U,I,-,C⟩:=nd (W:=W) (a:=a) (len:=E) (p:=fun c (o:Itm)=>c=itC o/\o.name.length<=140737488355328/\o.id.length<=140737488355328) 3 (by omega) ([],⟨0,[],[]⟩) hl hm (by omega) (fun c x B=>by rw[B.1];rfl) (fun i J=>by
   obtain⟨K,k,au,hD,a0,z,A,M⟩:=hi i (by omega);have q:Szd 130 (D i):=G _ (List.mem_map.2 ⟨i,by simpa using J,rfl⟩);rw[xu]at z A;obtain⟨N,O,P,rfl⟩:=Bb z;obtain⟨y0,e0,V⟩:∃y,K[0]? = some y/\DataW.trod enc Tryz.prog W 0 (fun _=>true) true k 3 (([N,O,P].drop 0).take (Tryz.prog.cellsOf 3))=some y:=M 0 _ rfl;obtain⟨y1,e1,X⟩:∃y,K[1]? = some y/\DataW.trod enc Tryz.prog W 0 (fun _=>true) true k 9 (([N,O,P].drop 1).take (Tryz.prog.cellsOf 9))=some y:=M 1 _ rfl;obtain⟨y2,e2,Y⟩:∃y,K[2]? = some y/\DataW.trod enc Tryz.prog W 0 (fun _=>true) true k 9 (([N,O,P].drop 2).take (Tryz.prog.cellsOf 9))=some y:=M 2 _ rfl;rw[jJ]at V;rw[iq]at X Y;rw[hD]at q;have Q:=eA (j:=1) q Tryz.underlying130 rfl (by rw[List.getElem?_map,e1];rfl);have R:=eA (j:=2) q Tryz.underlying130 rfl (by rw[List.getElem?_map,e2];rfl);obtain⟨mm,rfl,i0⟩:=db V;obtain⟨pp,rfl,hp⟩:=nf X Q;obtain⟨qq,rfl,hq⟩:=nf Y R;exact⟨(_,⟨mm,pp,qq⟩),⟨rfl,hp,hq⟩,fun j u hu=>A j u hu⟩)
  obtain⟨d,g,-,r⟩:=I;have b:∀(d:List (List Value)) (L:List Itm),Each (fun c (o:Itm)=>c=itC o/\o.name.length<=140737488355328/\o.id.length<=140737488355328) d L->d.flatten=L.flatMap itC:=by
   intro d L hE;have h9:d=L.map itC:=by
    obtain⟨S,T⟩:=hE;apply List.ext_getElem (by rw[List.length_map];exact S);intro k I C;rw[List.length_map]at C;rw[List.getElem_map];exact(T k _ _ (List.getElem?_eq_getElem I) (List.getElem?_eq_getElem C)).1
   rw[h9,List.flatMap_def]
  refine⟨U,?_,fun e he=>by obtain⟨c,hc⟩:=C e he;exact hc.2⟩;rw[b d U r]at g;exact g
theorem AC {cs:List Value} {y:DataW H×List MemPlace} (h:DataW.trod enc Tryz.prog W 0 (fun _=>true) true n 41 cs=some y) (r:cs.length=8) (t:Szd 41 y.1):∃(o:Ob) (C D E:Value),cs=[.int .i64 o.kind,C,D,S8 o.tree,E,.int .i64 o.BL,.int .i64 o.I,S8 o.msg]/\IsBytes W C o.data/\IsItms W D o.items/\IsStrs W E o.parents/\gK o.items/\∀s∈o.parents,s.length<=140737488355328:=by
 obtain⟨P,d,Q,R,F,u,e⟩:=DataW.trod_struct Tryz.underlying41 h;obtain⟨g,a,b,i,c,k,l,p,rfl⟩:=oh r;have q:P.length=8:=u;obtain⟨S,T,U,V,X,Y,Z,y7,rfl⟩:=oh q;have G:DataW.trod enc Tryz.prog W 0 (fun _=>true) true d 3 (([g,a,b,i,c,k,l,p].drop 0).take (Tryz.prog.cellsOf 3))=some S:=e 0 _ rfl;have I:DataW.trod enc Tryz.prog W 0 (fun _=>true) true d 37 (([g,a,b,i,c,k,l,p].drop 1).take (Tryz.prog.cellsOf 37))=some T:=e 1 _ rfl;have J:DataW.trod enc Tryz.prog W 0 (fun _=>true) true d 38 (([g,a,b,i,c,k,l,p].drop 2).take (Tryz.prog.cellsOf 38))=some U:=e 2 _ rfl;have K:DataW.trod enc Tryz.prog W 0 (fun _=>true) true d 9 (([g,a,b,i,c,k,l,p].drop 3).take (Tryz.prog.cellsOf 9))=some V:=e 3 _ rfl;have L:DataW.trod enc Tryz.prog W 0 (fun _=>true) true d 39 (([g,a,b,i,c,k,l,p].drop 4).take (Tryz.prog.cellsOf 39))=some X:=e 4 _ rfl;have M:DataW.trod enc Tryz.prog W 0 (fun _=>true) true d 3 (([g,a,b,i,c,k,l,p].drop 5).take (Tryz.prog.cellsOf 3))=some Y:=e 5 _ rfl;have N:DataW.trod enc Tryz.prog W 0 (fun _=>true) true d 3 (([g,a,b,i,c,k,l,p].drop 6).take (Tryz.prog.cellsOf 3))=some Z:=e 6 _ rfl;have O:DataW.trod enc Tryz.prog W 0 (fun _=>true) true d 9 (([g,a,b,i,c,k,l,p].drop 7).take (Tryz.prog.cellsOf 9))=some y7:=e 7 _ rfl;rw[jJ]at G M N;rw[iq]at K O;rw[pT]at I;rw[uP]at J;rw[uQ]at L;subst R;have w:=eA (j:=1) t Tryz.underlying41 rfl rfl;have x:=eA (j:=2) t Tryz.underlying41 rfl rfl;have z:=eA (j:=4) t Tryz.underlying41 rfl rfl;obtain⟨z0,rfl,-⟩:=db G;obtain⟨z5,rfl,-⟩:=db M;obtain⟨z6,rfl,-⟩:=db N;obtain⟨pp,rfl⟩:=iR K;obtain⟨qq,rfl⟩:=iR O;obtain⟨dl,hd⟩:=iM I w;obtain⟨il,hi,A⟩:=xx J x;obtain⟨pl,hp,B⟩:=uR L z;exact⟨⟨z0,dl,il,pp,pl,z5,z6,qq⟩,a,b,c,rfl,hd,hi,hp,A,B⟩
end
section
variable [Inhabited bc] {H:Type} {enc:TypeId×Value->H} {W:World}
abbrev zp (x:Mop):Prop:=(I64 x.f.keep/\I64 x.f.BN/\∀e∈x.f.plan,I64 e.keep/\I64 e.BN)/\gK x.o.items/\∀s∈x.o.parents,s.length<=140737488355328
variable {v:Value}
theorem xy (hW:ci=W) {n:Nat} {y:DataW H×List MemPlace} (h:DataW.trod enc Tryz.prog W 0 (fun _=>true) true n 22 [v]=some y) (hb:Szd 22 y.1):∃os:List Mop,lI W v os/\∀o∈os,zp o:=by
 rcases mz Tryz.underlying22 Tryz.underlying46 h with⟨d,Q⟩ | ⟨a,R,a3,m,D,Pl,d,hl,hm,J,rfl,hi⟩
 .simp only[List.cons.injEq,and_true]at d;subst d;exact⟨[],⟨[],Row.nil _,fun h=>(h rfl).elim,Each.nil _⟩,by simp⟩
 .simp only[List.cons.injEq,and_true]at d;subst d;simp only[if_true]at J;subst J;obtain⟨S,T⟩:=ip hb Tryz.underlying22;have K:=oe S xt;have hr:=reachBytes_lt;simp only[List.length_map,List.length_range]at K;obtain⟨xs,U,-,V⟩:=nd (W:=W) (a:=a) (len:=R) (p:=fun c (o:Mop)=>IsMop W c o/\zp o) 19 (by omega) ([],⟨0,[],⟨0,[],[],[],[],0,0,[]⟩,[],⟨0,0,0,0,[],[],[],[]⟩⟩) hl hm (by omega) (fun c x Q=>Q.1.length) (fun i X=>by
   obtain⟨L,k,a4,hD,a5,M,N,O⟩:=hi i (by omega);have g:Szd 46 (D i):=T _ (List.mem_map.2 ⟨i,by simpa using X,rfl⟩);rw[xr]at M N;obtain⟨F,G,r,t,w,z,A,B,C,E,b,q,rfl,P⟩:=Bc M;obtain⟨y0,e0,t0⟩:∃y,L[0]? = some y/\DataW.trod enc Tryz.prog W 0 (fun _=>true) true k 3 (((F::G::r::t::w::z::A::B::C::E::b::q).drop 0).take (Tryz.prog.cellsOf 3))=some y:=O 0 _ rfl;obtain⟨y1,e1,t1⟩:∃y,L[1]? = some y/\DataW.trod enc Tryz.prog W 0 (fun _=>true) true k 37 (((F::G::r::t::w::z::A::B::C::E::b::q).drop 1).take (Tryz.prog.cellsOf 37))=some y:=O 1 _ rfl;obtain⟨y2,e2,t2⟩:∃y,L[2]? = some y/\DataW.trod enc Tryz.prog W 0 (fun _=>true) true k 41 (((F::G::r::t::w::z::A::B::C::E::b::q).drop 2).take (Tryz.prog.cellsOf 41))=some y:=O 2 _ rfl;obtain⟨y3,e3,t3⟩:∃y,L[3]? = some y/\DataW.trod enc Tryz.prog W 0 (fun _=>true) true k 9 (((F::G::r::t::w::z::A::B::C::E::b::q).drop 10).take (Tryz.prog.cellsOf 9))=some y:=O 3 _ rfl;obtain⟨y4,e4,Y⟩:∃y,L[4]? = some y/\DataW.trod enc Tryz.prog W 0 (fun _=>true) true k 44 (((F::G::r::t::w::z::A::B::C::E::b::q).drop 11).take (Tryz.prog.cellsOf 44))=some y:=O 4 _ rfl;rw[jJ]at t0;rw[pT]at t1;rw[zn]at t2;rw[iq]at t3;rw[xp]at Y;rw[hD]at g;have Z:=eA (j:=1) g Tryz.underlying46 rfl (by rw[List.getElem?_map,e1];rfl);have ad:=eA (j:=2) g Tryz.underlying46 rfl (by rw[List.getElem?_map,e2];rfl);have au:=eA (j:=4) g Tryz.underlying46 rfl (by rw[List.getElem?_map,e4];rfl);have a0:((F::G::r::t::w::z::A::B::C::E::b::q).drop 11).take 8=q:=List.take_of_length_le (Nat.le_of_eq P);rw[a0]at Y;obtain⟨z0,rfl,i0⟩:=db t0;obtain⟨bl,a1⟩:=iM t1 Z;obtain⟨pp,rfl⟩:=iR t3;obtain⟨I,vd,vi,vp,l,U,V,h3,h4,h5⟩:=AC t2 rfl ad;obtain⟨o,a2,ho⟩:=zo hW Y P au;have l:[r,t,w,z,A,B,C,E]=[.int .i64 I.kind,vd,vi,S8 I.tree,vp,.int .i64 I.BL,.int .i64 I.I,S8 I.msg]:=l;simp only[List.cons.injEq,and_true]at l;obtain⟨rfl,rfl,rfl,rfl,rfl,rfl,rfl,rfl⟩:=l;exact⟨(_,⟨z0,bl,I,pp,o⟩),⟨⟨_,_,_,_,q,rfl,oS (by rw[hW];exact a1),U,V,h3,a2⟩,ho,h4,h5⟩,fun j u hu=>N j u hu⟩)
  exact⟨xs,U.mono (fun c x Q=>Q.1),fun e he=>by obtain⟨c,hc⟩:=V e he;exact hc.2⟩
theorem zq (l:ci=W) {a:Nat} {d:DataW H} {p:List MemPlace} {e:List TypeId} {g:List (DataW H)} {j:Nat}
  (b:Value.okWide Tryz.prog W .any a 22 v) (h:DataW.Trod enc Tryz.prog W 0 (fun _=>true) true 22 v d p)
  (c:(DataW.weightsEach Tryz.prog e g).all (·<=reachBytes)=true) (n:e[j]? = some 22) (q:g[j]? = some d):∃i:List Mop,lI W v i/\∀o∈i,zp o:=by
 obtain⟨w,r,t,rfl⟩:=okWide_slice Tryz.underlying22 b;obtain⟨k,u⟩:=h;exact xy l (y:=(d,p)) (by simpa [Value.cells]using u) (AB c n q)
end
end
section
open Go Go.ChangeShapes Go.WideShapes Go.ChangeAt Go.RowKit Go.Deep
def zr:List Int:=df.map fun x=>(x.toNat:Int)
def zu:List Int:=dI.map fun x=>(x.toNat:Int)
theorem Bs:Rows.laid_marline_sha_squares=(Lib.tabData .u32 zr:DataW Unit):=by kernel_rfl
theorem Bt:Rows.laid_marline_sha_cubes=(Lib.tabData .u32 zu:DataW Unit):=by kernel_rfl
variable {W:World}
theorem rI {name:String} {b:List Int} {g:Nat} {zero:Array Value} {t:TypeId} (d:W.ShapedOpen Tryz.prog) (h:Lib.TabIs Tryz.prog W name .u32 b) (e:Tryz.prog.globalNamed name=some g) (a:g<Tryz.prog.globals.size)
  (i:((begin Tryz.prog (fun _ _=>0) default).world.heap[g]?).bind Obj.row? = some (zero,t)):W.heap[g]? = some (.cells (b.map fun z=>Value.int .u32 z).toArray t (0,0)):=by
 obtain⟨j,c,-,-⟩:=d.1 g zero t a i;unfold Lib.TabIs World.var? at h;rw[e]at h;simp only[Option.bind_some,c,Option.some.injEq]at h;rw[c,h]
theorem AD {x:String×DataW Unit} {rest:List (String×DataW Unit)}
  (h : laidMet Tryz.prog (x :: ("marline/sha.cubes", Rows.laid_marline_sha_cubes) :: ("marline/sha.squares", Rows.laid_marline_sha_squares) :: rest) W) (b : W.ShapedOpen Tryz.prog) : EnvS W := by
 have a:=laidMet.tail h;have c:=laidMet.tail a;rw[Bt]at a;rw[Bs]at c;have i:=Lib.tabIs_of_head (g:=1) (by kernel_rfl) (by kernel_rfl) Tryz.underlying217 Tryz.underlying167 (by kernel_rfl) (by kernel_rfl) a;have j:=Lib.tabIs_of_head (g:=0) (by kernel_rfl) (by kernel_rfl) Tryz.underlying216 Tryz.underlying167 (by kernel_rfl) (by kernel_rfl) c;have d:=rI (g:=1) (zero:=(List.replicate 64 (.int .u32 0)).toArray) (t:=217) b i (by kernel_rfl) (of_decide_eq_true (by kernel_rfl)) (by kernel_rfl);have e:=rI (g:=0) (zero:=(List.replicate 8 (.int .u32 0)).toArray) (t:=216) b j (by kernel_rfl) (of_decide_eq_true (by kernel_rfl)) (by kernel_rfl);have k:(zu.map fun z=>Value.int .u32 z)=dI.map U32:=by unfold zu;rw[List.map_map];rfl
 have l:(zr.map fun z=>Value.int .u32 z)=df.map U32:=by unfold zr;rw[List.map_map];rfl
 rw[k]at d;rw[l]at e;exact⟨⟨_,e⟩,⟨_,d⟩⟩
end
end Go.Proofs.YtfabjgfmiaammaaGreatDoor
