/- Contracts of the program's functions and plain laws behind the card. Conditions: as each theorem states. -/
import Derived.Test.YtgfegpnmlkdjfaaGreatDoorZbh
import Derived.Shelf.Bytes.SlIndexAt
import Derived.Lib.ConvBytes
set_option linter.unusedVariables false
set_option linter.unusedSimpArgs false
set_option linter.unusedSectionVars false
set_option maxRecDepth 100000
set_option maxHeartbeats 64000000
namespace Go.Proofs.YtgfegpnmlkdjfaaGreatDoor
section
open Go Go.RowKit Go.Sort
theorem oy (a b:Value) (c g:List B8) (w:World) (V:IsStrs w a c) (W:IsStrs w b g) :
  Calls Tryz.prog 174 #[a,b] w fun e w'=>e=.returned (.bool (c==g))/\Ext w w':=by
 obtain⟨a1,c1,rfl,l1,l2,l3,B⟩:=V.get;obtain⟨a2,c2,rfl,k1,k2,k3,C⟩:=W.get;have Z:Hid _:=B;have H2:Hid _:=C;clear V W B C
 by_cases n:c.length=g.length
 .have E:((c.length:Int)==(g.length:Int))=true:=by rw[beq_iff_eq];omega
  have P:Hid _:=n;rw[<-n]at k1 k2;have HB:Hid (∀k,k<c.length->∃b o,a2=some ⟨b,o,none⟩/\(∀i,i<c.length->w.cell? ⟨b,o+i,none⟩=some (S8 (g.getD i [])))):=by
   unfold Hid;rw[n];exact H2.out
  obtain⟨O,F⟩:∃O,g.length=O:=⟨_,rfl⟩;have j:O=c.length:=by omega
  rw[F,j];clear F E n j;go_enter Tryz.func174,Tryz.ntmps174;go_wp2;go_loopw [13] (fun i wr=>∃k:Nat,k<=c.length/\i=.int .i64 k/\c.take k=g.take k/\Ext w wr) (fun i _=>c.length - (intOf i).toNat)
  case atStart=>exact⟨0,Nat.zero_le _,rfl,by simp,Ext.refl _⟩
  case round =>
   obtain⟨k,J,rfl,H,K⟩:=hrel;have S:Hid _:=H;clear H
   by_cases d:k<c.length
   .obtain ⟨b1,o1,rfl,y⟩:=Z.out k d;obtain⟨b2,o2,rfl,z⟩:=HB.out k d;have X:=K.cell (y k d);have Y:=K.cell (z k d);obtain⟨p,M⟩:∃p,c.getD k []=p:=⟨_,rfl⟩;obtain⟨q,r⟩:∃q,g.getD k []=q:=⟨_,rfl⟩;rw[M]at X;rw[r]at Y;have Q:Hid (c[k]? = some p):=by
     unfold Hid;rw[List.getElem?_eq_getElem d,<-M];simp[d]
    have h:k<g.length:=by rw[<-P.out];exact d
    have R:Hid (g[k]? = some q):=by
     unfold Hid;rw[List.getElem?_eq_getElem h,<-r];simp[h]
    obtain⟨x,l⟩:∃x,(p==q)=x:=⟨_,rfl⟩;have L:(p != q) = !x:=by rw[bne,l]
    have t:Hid _:=l;clear y z M r h;go_wp2_with fail;apply ak 9 [_,_,_,_,_,_,_,_,.bool (!x)] [none,none,none,none,none,none,none,none,none] [[],[],[0,1],[2],[],[],[4,5],[6],[3,7]] (by kernel_rfl) (by kernel_rfl) (by simp[aq])
    .trivial
    .simp (maxSteps:=1000000)only[List.take_succ_cons,List.take_zero,ay,aB,af,Act.put,List.setIfInBounds_toArray,List.set_cons_zero,List.set_cons_succ,aE,aH,aq,List.getD_cons_zero,List.getD_cons_succ,and_true,true_and,forall_const];and_intros
     iterate 9 · intro xs wq r;intros;rename_i hR;have f1:=r.cell X;have f2:=r.cell Y;go_simp;exact hR _ _ (Ext.refl _) rfl
    intro xs w2 N J;simp only[aG,Nat.zero_add,Nat.reduceAdd,and_true]at J;simp(maxSteps:=1000000)only[List.take_succ_cons,List.take_zero,List.drop_succ_cons,List.drop_zero,af,Act.put,List.setIfInBounds_toArray,List.set_cons_zero,List.set_cons_succ,Nat.zero_add,Nat.reduceAdd,J];clear J;have I:=K.trans N;clear l L
    cases x with
    | false =>
     have G:p≠q:=fun e=>by have U:=t.out;rw[e]at U;simp at U
     have u:Hid ((c==g)=false):=by
      unfold Hid;rw[beq_eq_false_iff_ne];intro e;have T:=Q.out;rw[e,R.out]at T;exact G (Option.some.inj T).symm
     clear G;go_wp2;go_ret;exact⟨aM u.out.symm,I⟩
    | true =>
     have A:p=q:=by
      simpa using t.out
     have HE:Hid _:=A;clear A;go_wp2;go_roundw
     case rel=>exact⟨k+1,by omega,by go_num,by rw[List.take_add_one,List.take_add_one,Q.out,R.out,HE.out,S.out],I⟩
     case measure=>simp[intOf];omega
   .have D:c.length<=k:=by omega
    have u:Hid ((c==g)=true):=by
     have:=S.out;rw[List.take_of_length_le D,List.take_of_length_le (by rw[<-P.out];exact D)]at this;unfold Hid;simpa using this
    go_wp2;go_ret;exact⟨aM u.out.symm,K⟩
 .have E:((c.length:Int)==(g.length:Int))=false:=by rw[beq_eq_false_iff_ne];omega
  have u:Hid ((c==g)=false):=by
   unfold Hid;rw[beq_eq_false_iff_ne];intro e;exact n (by rw[e])
  clear n;go_enter Tryz.func174,Tryz.ntmps174;go_wp2;go_ret;exact⟨aM u.out.symm,Ext.refl _⟩
theorem AX (H F G:Value) (o a b:List B8) (w:World) (E:IsStrs w H o) (C:IsStrs w F a) (D:IsStrs w G b) :
  Calls Tryz.prog 166 #[H,F,G] w fun e N=>e=.returned (.int .i64 (fI o a b))/\Ext w N:=by
 have B:Hid _:=E;have z:Hid _:=C;have A:Hid _:=D;obtain⟨k,x⟩:∃k,fI o a b=k:=⟨_,rfl⟩;have p:Hid _:=x;rw[x];clear E C D x;go_enter Tryz.func166,Tryz.ntmps166;go_wp2_with fail;go_at_call 174;refine(oy _ _ b o w A.out B.out).mono ?_;obtain⟨K,r⟩:∃c,(b==o)=c:=⟨_,rfl⟩;rw[r];have n:Hid _:=r;clear r;rintro e I ⟨rfl,i⟩;have d:Hid (Ext w I):=i;clear i
 cases K with
 | true =>
  go_wp2_with fail;go_ret;refine⟨?_,d.out⟩;rw[<-p.out];unfold fI;rw[if_pos (by simpa using n.out)];rfl
 | false =>
 go_wp2_with fail;go_at_call 174;refine(oy _ _ a o I (z.out.ext d.out) (B.out.ext d.out)).mono ?_;obtain⟨L,t⟩:∃c,(a==o)=c:=⟨_,rfl⟩;rw[t];have q:Hid _:=t;clear t;rintro e J ⟨rfl,j⟩;have g:Hid (Ext w J):=d.out.trans j;clear j
 cases L with
 | true =>
  go_wp2_with fail;go_ret;refine⟨?_,g.out⟩;rw[<-p.out];unfold fI;rw[if_neg (by simpa using n.out),if_pos (by simpa using q.out)];rfl
 | false =>
 go_wp2_with fail;go_at_call 174;refine(oy _ _ a b J (z.out.ext g.out) (A.out.ext g.out)).mono ?_;obtain⟨M,u⟩:∃c,(a==b)=c:=⟨_,rfl⟩;rw[u];have y:Hid _:=u;clear u;rintro e O ⟨rfl,l⟩;have h:Hid (Ext w O):=g.out.trans l;clear l
 cases M with
 | true =>
  go_wp2_with fail;go_ret;refine⟨?_,h.out⟩;rw[<-p.out];unfold fI;rw[if_neg (by simpa using n.out),if_neg (by simpa using q.out),if_pos (by simpa using y.out)];rfl
 | false =>
  go_wp2_with fail;go_ret;refine⟨?_,h.out⟩;rw[<-p.out];unfold fI;rw[if_neg (by simpa using n.out),if_neg (by simpa using q.out),if_neg (by simpa using y.out)];rfl
theorem Cx (l:B8) (c:UInt8):(Lib.indexByte l c<0)=(c∉l):=by
 induction l with
 | nil=>simp[Lib.indexByte]
 | cons x l i =>
  unfold Lib.indexByte;have d:=Lib.indexByte_ge l c
  by_cases h:x=c
  .simp [h]
  .have g:(x==c)=false:=by simpa using h
   have b:¬c=x:=fun e=>h e.symm
   rw[g];simp only[Bool.false_eq_true,if_false,List.mem_cons,b,false_or];rw[<-i];split
   .rename_i a;have:=beq_iff_eq.1 a;rw[this]
   .rename_i a;have j:Lib.indexByte l c≠-1:=by simpa using a
    apply propext;omega
theorem xd (v:Value) (b:B8) (w:World) (r:IsBytes w v b) :
  Calls Tryz.prog 140 #[v,.int .u8 0] w fun e d=>e=.returned (.int .i64 (Lib.indexByte b 0))/\d=w:=by
 obtain⟨a,c,rfl,B,C,D,o⟩:=r.get;have j:Lib.bytesOf (b.map fun x=>(x.toNat:Int))=b:=by
  unfold Lib.bytesOf;rw[List.map_map]
  conv=>rhs;rw[<-List.map_id b]
  apply List.map_congr_left;intro x _;simp
 have k:∀d:World,d=w->(Extern.BytealgIndexByte.indexByte #[.slice a b.length c,.int .u8 0]).run Tryz.prog d=.ok (.int .i64 (Lib.indexByte b 0)) d:=by
  rintro d rfl
  cases a with
  | none =>
   have n:b=[]:=by
    cases b with
    | nil=>rfl
    | cons x l=>obtain⟨_,_,h,-⟩:=o 0 (by simp);cases h
   rw[Lib.run_indexByteNil d _ _ 0,n];rfl
  | some u =>
   have y:=Lib.run_indexByteAt (P:=Tryz.prog) d u b.length c (b.map fun x=>(x.toNat:Int)) (by simp) (fun i p=>by
    obtain⟨q,t,A,z⟩:=o i p;cases A;have g:(⟨q,t,none⟩:Addr).add i=⟨q,t+i,none⟩:=by unfold Addr.add;split <;> simp_all
    rw[g,z i p];simp[List.getD_eq_getElem?_getD,List.getElem?_map,List.getElem?_eq_getElem p]) 0
   rw[y,j];rfl
 clear o r j;go_enter Tryz.func140,Tryz.ntmps140;go_wp2;rw[run_callFunc_extern Tryz.func164 (by kernel_rfl) (by kernel_rfl) (by kernel_rfl) (e:=Extern.BytealgIndexByte.indexByte) (by kernel_rfl),k _ rfl];simp only[Result.andThen];rw[Oper.upon_value];go_wp2;go_ret;exact⟨rfl,rfl⟩
theorem mK (v:Value) (b:B8) (w:World) (h:IsBytes w v b) :
  Calls Tryz.prog 118 #[v] w fun e k=>e=.returned (.bool (!decide ((0:UInt8)∈b)))/\k=w:=by
 have i:Hid _:=h;obtain⟨c,a⟩:∃c,(!decide ((0:UInt8)∈b))=c:=⟨_,rfl⟩;have d:=Cx b 0;obtain⟨z,g⟩:∃z,Lib.indexByte b 0=z:=⟨_,rfl⟩;have j:Hid _:=g;rw[g]at d;have n:decide (z<0)=c:=by rw[<-a];simp[d]
 have l:Hid _:=a;rw[a];clear h a d g;go_enter Tryz.func118,Tryz.ntmps118;go_wp2_with fail;go_at_call 140;refine(xd _ b w i.out).mono ?_;rw[j.out];rintro e o ⟨rfl,rfl⟩;go_wp2_with fail;go_ret;exact⟨rfl,rfl⟩
theorem FS (w:World) (l:B8) (t:l.length<=1000000000000):∃v d,(convert 9 52 (S8 l)).run Tryz.prog w=.ok v d/\Ext w d/\IsBytes d v l/\TypB d v/\∃a c,v=.slice a l.length c:=by
 have p:=Lib.run_convert_string_bytes (P:=Tryz.prog) w 9 52 5 ⟨l.toArray⟩ Tryz.underlying9 Tryz.underlying52 Tryz.underlying5;have b:(⟨l.toArray⟩:ByteArray).size=l.length:=by simp[ByteArray.size]
 rw[b]at p;have e:=grownCap_ge w l.length 0 5;have g:=grownCap_le_maxLen w l.length 0 5 (by unfold maxLen;omega);unfold maxLen at g;refine⟨_,_,p,⟨rfl,rfl,rfl,?_,fun k r=>Lib.bytesWorld_at_old w _ _ k r⟩,⟨_,_,rfl,e,by omega,by omega,fun x=>⟨w.heap.size,0,rfl,fun i u j=>?_⟩⟩,?_,_,_,rfl⟩
 .rw [Lib.bytesWorld_size];omega
 .have h:i<l.length:=by
   have:=(List.getElem?_eq_some_iff.1 j).1;simpa using this
  have o:u=.int .u8 ((l.getD i 0).toNat:Int):=by
   rw[List.getElem?_map,List.getElem?_eq_getElem h]at j;have:=Option.some.inj j;rw[<-this,List.getD_eq_getElem?_getD,List.getElem?_eq_getElem h];rfl
  rw[o,Nat.zero_add];have:=Lib.bytesWorld_cell w 5 ⟨l.toArray⟩ i (by rw[b];exact h);simpa using this
 .intro a n c q;cases q;exact⟨_,_,_,Lib.bytesWorld_at_new w _ _,yg⟩
end
section
open Go Go.RowKit Go.Sort
def eE (s:B8):List B8:=(Lib.splitB ⟨#[10]⟩ 1 (Lib.countB ⟨s.toArray⟩ ⟨#[10]⟩) ⟨s.toArray⟩).map (·.data.toList)
theorem nI (s:B8):aS s=ns (eE s):=rfl
theorem td (s:B8):(eE s).length=Lib.countB ⟨s.toArray⟩ ⟨#[10]⟩+1:=by
 unfold eE;rw[List.length_map,Lib.splitB_all ⟨#[10]⟩ (Nat.le_refl 1) 1 _ ⟨s.toArray⟩ rfl]
theorem xM (s:B8) (w:World) (h:Env w) (p:s.length<1000000000) :
  Calls Tryz.prog 145 #[S8 s,.string ⟨#[10]⟩] w fun e a=>∃g,e=.returned (.slice (some ⟨g,0,none⟩) (eE s).length (eE s).length)/\a.heap[g]? = some (.cells ((eE s).map S8).toArray 9 (0,0))/\Ext w a:=by
 obtain⟨m,j⟩:=h.Iv;have b:(⟨s.toArray⟩:ByteArray).size=s.length:=by simp[ByteArray.size]
 have d:=Lib.countB_le ⟨#[10]⟩ (Nat.le_refl 1) (⟨s.toArray⟩:ByteArray).size ⟨s.toArray⟩ (Nat.le_refl _);have k:Hid (∀a,a=w->Calls Tryz.prog 82 #[.string ⟨s.toArray⟩,.string ⟨#[10]⟩,.int .i64 1,.int .i64 (-1)] a fun e a=>∃g,e=.returned (.slice (some ⟨g,0,none⟩) (eE s).length (eE s).length)/\a.heap[g]? = some (.cells ((eE s).map S8).toArray 9 (0,0))/\Ext w a):=by
  rintro a rfl;have c:=Tryz.strings_genSplit ⟨s.toArray⟩ ⟨#[10]⟩ 1 (-1) (Lib.countB ⟨s.toArray⟩ ⟨#[10]⟩+1) m a (by rw[b];omega) j (Nat.le_refl 1) (Nat.le_refl 1) (by decide) (by decide) (by rw[if_pos (by decide)];omega);rw[Nat.add_sub_cancel]at c;refine c.mono ?_;rintro e r ⟨rfl,rfl⟩;have i:=Lib.splitB_all ⟨#[10]⟩ (Nat.le_refl 1) 1 _ (⟨s.toArray⟩:ByteArray) rfl;have l:Lib.cellsOf (Lib.splitB ⟨#[10]⟩ 1 (Lib.countB ⟨s.toArray⟩ ⟨#[10]⟩) ⟨s.toArray⟩) (Lib.countB ⟨s.toArray⟩ ⟨#[10]⟩+1)=((Lib.splitB ⟨#[10]⟩ 1 (Lib.countB ⟨s.toArray⟩ ⟨#[10]⟩) ⟨s.toArray⟩).map Value.string).toArray:=by
   rw[<-i];exact Lib.cellsOf_full _
  refine⟨a.heap.size,?_,?_,(Ext.refl _).alloc _⟩
  .rw [td,i]
  .rw [l,show(eE s).map S8=(Lib.splitB ⟨#[10]⟩ 1 (Lib.countB ⟨s.toArray⟩ ⟨#[10]⟩) ⟨s.toArray⟩).map Value.string by unfold eE;rw[List.map_map];rfl];exact ah _ _
 clear j b d h;go_enter Tryz.func145,Tryz.ntmps145;go_wp2_with fail;go_at_call 82;refine(k.out _ rfl).mono ?_;rintro e q ⟨g,rfl,n,o⟩;go_wp2_with fail;go_ret;exact⟨g,rfl,n,o⟩
theorem lD (v:Value) (b:B8) (w:World) (E:Env w) (G:IsBytes w v b) (M:b.length<1000000000) :
  Calls Tryz.prog 120 #[v] w fun e h=>(∃g c,e=.returned (.slice (some ⟨g,0,none⟩) (aS b).length c)/\IsStrs h (.slice (some ⟨g,0,none⟩) (aS b).length c) (aS b)/\Typed 9 h (.slice (some ⟨g,0,none⟩) (aS b).length c))/\Ext w h:=by
 have z:=dK G;have u:Hid (∀h,h=w->Calls Tryz.prog 145 #[S8 b,.string ⟨#[10]⟩] h fun e h=>∃g,e=.returned (.slice (some ⟨g,0,none⟩) (eE b).length (eE b).length)/\h.heap[g]? = some (.cells ((eE b).map S8).toArray 9 (0,0))/\Ext w h):=by
  rintro h rfl;exact xM b h E M
 have p:=td b;have o:(eE b).length<=b.length+1:=by
  have:=Lib.countB_le ⟨#[10]⟩ (Nat.le_refl 1) (⟨b.toArray⟩:ByteArray).size ⟨b.toArray⟩ (Nat.le_refl _);have N:(⟨b.toArray⟩:ByteArray).size=b.length:=by simp[ByteArray.size]
  omega
 have i:Hid (aS b=ns (eE b)):=nI b;obtain⟨n,r⟩:∃n,(eE b).length=n+1:=⟨_,p⟩;obtain⟨L,F⟩:∃L,eE b=L:=⟨_,rfl⟩;rw[F]at u i r o;rw[r]at u o;have j:Hid _:=r;clear G E p F r;go_enter Tryz.func120,Tryz.ntmps120;go_wp2_with fail;go_at_call 145;refine(u.out _ rfl).mono ?_;rintro e t ⟨g,rfl,q,H⟩;have C:Hid (Ext w t):=H;have A:Hid (IsStrs t (.slice (some ⟨g,0,none⟩) L.length (n+1)) L):=by
  unfold Hid IsStrs;rw[j.out];exact Row.new q (by omega) _ rfl
 have B:Hid (t.heap[g]? = some (.cells (L.map S8).toArray 9 (0,0))):=q;obtain⟨x,k⟩:∃x,L[n]? = some x:=⟨_,List.getElem?_eq_getElem (by rw[j.out];omega)⟩;have y:t.cell? ⟨g,n,none⟩=some (S8 x):=by
  rw[cell_of_row _ _ n _ _ _ q,List.getElem?_toArray,List.getElem?_map,k];rfl
 have d:Hid (L.getLastD []=x):=by
  unfold Hid;rw[List.getLastD_eq_getLast?,List.getLast?_eq_getElem?,j.out,Nat.add_sub_cancel,k];rfl
 obtain⟨c,J⟩:∃c,(x==[])=c:=⟨_,rfl⟩;have l:Hid _:=J;have O:IntKind.i64.wrap ((n:Int)+1 - 1)=(n:Int):=by rw[IntWalk.i64_in _ (by omega)];omega
 have K:(n:Int)<(n:Int)+1:=by omega
 clear q H k z
 cases c with
 | true =>
  go_wp2_with fail;go_ret;have a:aS b=L.take n:=by
   rw[i.out];unfold ns;rw[d.out,if_pos (by simpa using l.out),List.dropLast_eq_take,j.out,Nat.add_sub_cancel]
  have D:(L.take n).length=n:=by rw[List.length_take,j.out];omega
  have I:=A.out.take (n:=n) (by rw[j.out];omega);refine⟨⟨g,n+1,?_,?_,Typed.at B.out⟩,C.out⟩
  .rw [a,D];rfl
  .rw [a,D];exact I
 | false =>
  go_wp2_with fail;go_ret;have a:aS b=L:=by
   rw[i.out];unfold ns;rw[d.out,if_neg (by simpa using l.out)]
  refine⟨⟨g,n+1,?_,?_,Typed.at B.out⟩,C.out⟩
  .rw [a,j.out];rfl
  .rw [a];exact A.out
theorem pf:∀l:List B8,Lib.join l []=l.flatten
 | []=>rfl
 | x::l=>by
  rw[Lib.join_cons];unfold Lib.joinTail;simp
theorem yS (v:Value) (l:List B8) (w:World) (E:IsStrs w v l) (R:l.length<=1000000) (B:l.flatten.length<=1000000000000) :
  Calls Tryz.prog 121 #[v] w fun e b=>(∃a c,e=.returned (.slice a l.flatten.length c)/\IsBytes b (.slice a l.flatten.length c) l.flatten/\TypB b (.slice a l.flatten.length c))/\Ext w b:=by
 obtain⟨a,d,rfl,O,P,S,C⟩:=E.get;have u:Hid (∀b,b=w->Calls Tryz.prog 57 #[.slice a l.length d,.string ⟨#[]⟩] b fun e r=>e=.returned (S8 l.flatten)/\Ext b r):=by
  rintro b rfl
  cases l with
  | nil =>
   refine(Tryz.strings_Join_none a d ⟨#[]⟩ b).mono ?_;rintro e t ⟨rfl,rfl⟩;exact⟨rfl,Ext.refl _⟩
  | cons x l =>
   obtain⟨K,Q,rfl,A⟩:=C 0 (by simp);have D:((x::l).map fun s:B8=>(⟨s.toArray⟩:ByteArray)).map (·.data.toList)=x::l:=by
    rw[List.map_map]
    conv=>rhs;rw[<-List.map_id (x::l)]
    apply List.map_congr_left;intro y _;rfl
   have L:=A 0 (by simp);have c:=Tryz.strings_Join K Q d ((x::l).map fun s:B8=>(⟨s.toArray⟩:ByteArray)) ⟨#[]⟩ b (fun j y i=>by
    rw[List.getElem?_map]at i
    cases o:(x::l)[j]? with
    | none=>rw[o]at i;cases i
    | some z =>
     rw[o]at i;cases i;have q:=(List.getElem?_eq_some_iff.1 o).1;rw[A j q,List.getD_eq_getElem?_getD,o];rfl) (World.block_lt_of_cell? _ _ L) (by rw[List.length_map];exact P) (by rw[List.length_map];exact O) (by rw[D];show(Lib.join (x::l) []).length<=_;rw[pf];omega)
   rw[D,List.length_map]at c;refine c.mono ?_;rintro e t ⟨rfl,M⟩;refine⟨?_,M⟩;show Ending.returned (S8 (Lib.join (x::l) []))=_;rw[pf]
 obtain⟨F,hF⟩:∃F,l.flatten=F:=⟨_,rfl⟩;rw[hF]at u B ⊢;clear C E hF;go_enter Tryz.func121,Tryz.ntmps121;go_wp2_with fail;go_at_call 57;refine(u.out _ rfl).mono ?_;rintro e G ⟨rfl,g⟩;have J:Hid (Ext w G):=g;obtain⟨v,t,N,n,h,k,T,U,rfl⟩:=FS G F B;have p:Hid (Ext w t):=g.trans n;have H:Hid _:=h;have I:Hid _:=k;clear g n h k;go_wp2_with fail;go_ret;exact⟨⟨_,_,rfl,H.out,I.out⟩,p.out⟩
end
section
open Go Go.RowKit Go.Sort
theorem iY {α:Type} (f:α->List Value) (m:Nat) (a:∀x,(f x).length=m):∀(l:List α) (k j:Nat) (x:α),l[k]? = some x->j<m->(l.flatMap f)[k*m+j]? = (f x)[j]?
 | [],k,j,x,h,b=>by simp at h
 | y::l,0,j,x,h,b=>by
  simp only[List.getElem?_cons_zero,Option.some.injEq]at h;subst h;rw[List.flatMap_cons,Nat.zero_mul,Nat.zero_add,List.getElem?_append_left (by rw[a];exact b)]
 | y::l,k+1,j,x,h,b=>by
  rw[List.getElem?_cons_succ]at h;rw[List.flatMap_cons,List.getElem?_append_right (by rw[a,Nat.succ_mul];omega),a,show(k+1)*m+j - m=k*m+j by rw[Nat.succ_mul];omega];exact iY f m a l k j x h b
variable {w:World} {P:List (Nat×Nat)}
theorem CS {v:Value} (h:Row w v P.length (P.flatMap prC)):∃a c,v=.slice a P.length c/\P.length<=c/\P.length<=140737488355328/\c<=9223372036854775807 /\
  ∀(k:Nat) x,P[k]? = some x->∃b o,a=some ⟨b,o,none⟩/\w.cell? ⟨b,o+k*2,none⟩=some (.int .i64 x.1)/\w.cell? ⟨b,o+k*2+1,none⟩=some (.int .i64 x.2):=by
 obtain⟨a,c,rfl,l,n,p,q⟩:=h;refine⟨a,c,rfl,l,p,n,fun k x g=>?_⟩;have d:=iY prC 2 (fun _=>rfl) P k 0 x g (by omega);have i:=iY prC 2 (fun _=>rfl) P k 1 x g (by omega);obtain⟨b,o,r,e⟩:=q (fun j=>by rw[j]at d;simp[prC]at d);exact⟨b,o,r,e _ _ d,by have:=e _ _ i;rwa [<-Nat.add_assoc]at this⟩
theorem yH (l:List Int) (j:Nat) (x:Int) (a:j<l.length) (i:Nat):(l.set j x).getD i (-1)=if i=j then x else l.getD i (-1):=by
 rw[List.getD_eq_getElem?_getD,List.getElem?_set]
 by_cases h:j=i
 .subst h;rw[if_pos rfl,if_pos a,if_pos rfl];rfl
 .rw [if_neg h,if_neg (fun e=>h e.symm),List.getD_eq_getElem?_getD]
variable {n:Nat}
theorem uO {k:Nat} {p:Nat×Nat} (h:P[k]? = some p):bE n (P.take (k+1))=(bE n (P.take k)).set p.1 (p.2:Int):=by
 unfold bE;rw[cC h,List.foldl_append];rfl
def plF (n:Nat) (P:List (Nat×Nat)) (i:Nat):Int:=(bE n P).getD i (-1)
structure RowJ (w0 w:World) (g n:Nat) (f:Nat->Int):Prop where
 row:w.heap[g]? = some (.cells (cT n f) 3 (0,0))
 ext:Ext w0 w
 lo:w0.heap.size<=g
variable {f:Nat->Int}
theorem RowJ.more {b w':World} {g:Nat} (h:RowJ b w g n f) (a:Ext w w'):RowJ b w' g n f:=⟨a.row h.row,h.ext.trans a,h.lo⟩
theorem rI {g:Nat->Int} {m j:Nat} (x:Int) (b:j<m) (a:∀i,g i=if i=j then x else f i):cT m g=((cT m f).toList.take j++[Value.int .i64 x]++(cT m f).toList.drop (j+1)).toArray:=by
 rw[<-ud x a,kn _ (by rw[gH];exact b)]
theorem pB (n:Nat) (v:Value) (P:List (Nat×Nat)) (w:World) (U:Row w v P.length (P.flatMap prC)) (S:∀p∈P,p.1<n) (hn:n<=100000) :
  Calls Tryz.prog 142 #[.int .i64 n,v] w fun e w'=>∃g,e=.returned (.slice (some ⟨g,0,none⟩) n n)/\RowJ w w' g n (plF n P):=by
 obtain⟨a,Z,rfl,l1,l2,l3,y⟩:=CS U;have X:Hid _:=y;have Y:Hid _:=S;clear U y S;go_enter Tryz.func142,Tryz.ntmps142;have z:(Instr.makeSlice 192 (.int .i64 n) (.int .i64 n)).run Tryz.prog w=.ok (.slice (some ⟨w.heap.size,0,none⟩) n n) (w.alloc (.cells (cT n fun _=>0) 3)):=by
  rw[<-rk];exact run_make_row' 192 3 (.int .i64 0) 8 Tryz.underlying192 (by kernel_rfl) rfl .i64 .i64 n (by omega) (by omega) w
 obtain⟨N,o⟩:∃N,N=w.alloc (.cells (cT n fun _=>0) 3):=⟨_,rfl⟩;rw[<-o]at z;obtain⟨g,y⟩:∃g,w.heap.size=g:=⟨_,rfl⟩;have b:Hid (RowJ w N g n (fun _=>0)):=⟨by rw[o,<-y];exact ah _ _,by rw[o];exact(Ext.refl _).alloc _,Nat.le_of_eq y⟩;rw[y]at z;clear o y;go_wp2_with fail;clear z;go_loopw [13] (fun i wr=>∃(k:Nat) (f:Nat->Int),k<=n/\i=.int .i64 k/\Hid (RowJ w wr g n f)/\Hid (∀i,i<k->f i = -1)) (fun i _=>n - (intOf i).toNat)
 case atStart=>exact⟨0,_,Nat.zero_le _,rfl,b.out,fun i F=>absurd F (by omega)⟩
 case round =>
 clear b;obtain⟨k,f,hk,rfl,b,K⟩:=hrel
 by_cases ab:(k:Int)<(n:Int)
 case pos =>
  have l:=b.out.row;have d:=rI (f:=f) (g:=fun i=>if i=k then -1 else f i) (m:=n) (j:=k) (-1) (by omega) (fun _=>rfl);have L:Hid (∀i,i<k+1->(fun i=>if i=k then(-1:Int)else f i) i = -1):=fun i F=>by
   dsimp only
   by_cases h:i=k
   .rw [if_pos h]
   .rw [if_neg h];exact K.out i (by omega)
  go_wp2_with (refine aP rfl 3 (.tmp 18) (.const (.int .i64 (-1))) rfl g k rfl (.int .i64 (-1)) rfl rfl _ (cT n f) l (by rw[gH];omega) (by kernel_rfl) _ d ?_;intro O t c)
  have r:Hid (RowJ w O g n (fun i=>if i=k then -1 else f i)):=⟨t,b.out.ext.but c b.out.lo,b.out.lo⟩;clear t c l d;go_wp2_with fail;go_roundw
  case rel=>exact⟨k+1,_,by omega,by go_num,r.out,L.out⟩
  case measure=>simp[intOf] <;> omega
 obtain rfl:n=k:=by omega
 have B:Hid (RowJ w wr g n (plF n (P.take 0))):=by
  have e:cT n f=cT n (plF n (P.take 0)):=by
   unfold cT;congr 1;apply List.map_congr_left;intro i F;rw[K.out i (List.mem_range.1 F)];unfold plF bE;rw[List.take_zero,List.foldl_nil,List.getD_eq_getElem?_getD,List.getElem?_replicate];split <;> rfl
  refine⟨?_,b.out.ext,b.out.lo⟩;rw[<-e];exact b.out.row
 clear b K;go_wp2_with fail;go_loopw [22] (fun i wr=>∃(k:Nat),k<=P.length/\i=.int .i64 k/\Hid (RowJ w wr g n (plF n (P.take k)))) (fun i _=>P.length - (intOf i).toNat)
 case atStart=>exact⟨0,Nat.zero_le _,rfl,B.out⟩
 case round =>
 clear B;obtain⟨k,aa,rfl,b⟩:=hrel
 by_cases T:(k:Int)<(P.length:Int)
 case neg =>
  obtain rfl:k=P.length:=by omega
  rw[List.take_length]at b;go_wp2_with fail;go_ret;exact⟨g,rfl,b.out⟩
 obtain⟨p,G⟩:∃p,P[k]? = some p:=⟨_,List.getElem?_eq_getElem (by omega)⟩;obtain⟨bb,oo,rfl,Q,R⟩:=X.out k p G;have V:=b.out.ext.cell Q;have W:=b.out.ext.cell R;have A:=Y.out p (List.mem_of_getElem? G);have C:Hid (∀i,plF n (P.take (k+1)) i=if i=p.1 then(p.2:Int)else plF n (P.take k) i):=fun i=>by
  unfold plF;rw[uO G,yH _ _ _ (by rw[pC];exact A)]
 obtain⟨H,I⟩:=p;dsimp only at V W A C;clear Q R G;go_upto_region 10 with fail;obtain⟨J,u⟩:∃J,J=wr.alloc (.cells #[.int .i64 H,.int .i64 I] 214):=⟨_,rfl⟩;have E:Ext wr J:=by rw[u];exact(Ext.refl _).alloc _
 have x:J.heap[wr.heap.size]? = some (.cells #[.int .i64 H,.int .i64 I] 214 (0,0)):=by rw[u];exact ah _ _
 rw[<-u];obtain⟨gi,D⟩:∃q,wr.heap.size=q:=⟨_,rfl⟩;rw[D]at x ⊢;obtain⟨z0,z1⟩:=cZ x;have r:Hid _:=b.out.more E;have l:=r.out.row;have d:=rI (m:=n) (I:Int) A C.out;have ad:(H:Int)<(n:Int):=by omega
 clear u E x D V W
 go_wp2_with (refine aP rfl 3 (.tmp 31) (.tmp 30) rfl g H rfl (.int .i64 I) rfl rfl _ (cT n (plF n (P.take k))) l (by rw[gH];omega) (by kernel_rfl) _ d ?_;intro O t c)
 have M:Hid (RowJ w O g n (plF n (P.take (k+1)))):=⟨t,r.out.ext.but c r.out.lo,r.out.lo⟩;clear t c l d z0 z1;go_wp2_with fail;go_roundw
 case rel=>exact⟨k+1,by omega,by go_num,M.out⟩
 case measure=>simp[intOf] <;> omega
end
end Go.Proofs.YtgfegpnmlkdjfaaGreatDoor
