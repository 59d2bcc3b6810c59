/- Contracts of the program's functions and plain laws behind the card. Conditions: as each theorem states. -/
import Derived.Test.YtfabjgfmiaammaaGreatDoorZag
import Derived.Test.YtfabjgfmiaammaaGreatDoorZab
import Derived.Test.YtfabjgfmiaammaaGreatDoorZaf
set_option linter.unusedVariables false
set_option linter.unusedSimpArgs false
set_option linter.unusedSectionVars false
set_option maxRecDepth 100000
set_option maxHeartbeats 64000000
namespace Go.Proofs.YtfabjgfmiaammaaGreatDoor
section
open Go Go.RowKit
structure WithJ (w0:World) (nA nC:Nat) (A rowc C:List Value) (z0 z4 z8 z9 z13:Option Value) (w:World):Prop where
 ext:Ext w0 w
 C7:z13≠none->z9≠none
 o9:z9≠none->z4≠none/\z8≠none
 f13:∀v,z13=some v->w.ownsRow w0.heap.size 164 4 v (nA+1+nC) (A++rowc++C)
 f9:z13=none->∀v,z9=some v->w.ownsRow w0.heap.size 164 4 v (nA+1) (A++rowc)
 f4:z9=none->∀v,z4=some v->w.ownsRow w0.heap.size 164 4 v nA A
 f8:z9=none->∀v,z8=some v->∃g,v=.slice (some ⟨g,0,none⟩) 1 1/\w.heap[g]? = some (.cells rowc.toArray 164 (0,0))
 f0:z4=none->∀v,z0=some v->∃g,v=.slice (some ⟨g,0,none⟩) 0 0/\w.heap[g]? = some (.cells #[] 164 (0,0))/\w0.heap.size<=g
section
variable {w0:World} {nA nC:Nat} {A rowc C:List Value} {z0 z4 z8 z9 z13:Option Value} {w w':World} {u:Value}
theorem WithJ.more (h:WithJ w0 nA nC A rowc C z0 z4 z8 z9 z13 w) (c:Ext w w'):WithJ w0 nA nC A rowc C z0 z4 z8 z9 z13 w' :=
 ⟨h.ext.trans c,h.C7,h.o9,fun v a=>al (h.f13 v a) c,fun b v a=>al (h.f9 b v a) c,fun b v a=>al (h.f4 b v a) c,
  fun b v a=>by obtain⟨g,d,e⟩:=h.f8 b v a;exact⟨g,d,c.row e⟩,fun b v a=>by obtain⟨g,d,e,i⟩:=h.f0 b v a;exact⟨g,d,c.row e,i⟩⟩
theorem WithJ.start (b:Ext w0 w):WithJ w0 nA nC A rowc C none none none none none w :=
 ⟨b,fun h=>absurd rfl h,fun h=>absurd rfl h,fun v a=>(by cases a),fun _ v a=>(by cases a),fun _ v a=>(by cases a),fun _ v a=>(by cases a),fun _ v a=>(by cases a)⟩
theorem WithJ.DE (h:WithJ w0 nA nC A rowc C z0 z4 z8 z9 z13 w):WithJ w0 nA nC A rowc C (some (.slice (some ⟨w.heap.size,0,none⟩) 0 0)) z4 z8 z9 z13 (w.alloc (.cells #[] 164)):=by
 have k:=h.more ((Ext.refl w).alloc (.cells #[] 164));exact⟨k.ext,k.C7,k.o9,k.f13,k.f9,k.f4,k.f8,fun _ v a=>by cases a;exact⟨_,rfl,ab _ _,h.ext.size⟩⟩
theorem WithJ.CY (h:WithJ w0 nA nC A rowc C z0 z4 z8 z9 z13 w):WithJ w0 nA nC A rowc C z0 z4 (some (.slice (some ⟨w.heap.size,0,none⟩) 1 1)) z9 z13 (w.alloc (.cells rowc.toArray 164)):=by
 have k:=h.more ((Ext.refl w).alloc (.cells rowc.toArray 164));exact⟨k.ext,k.C7,fun a=>⟨(k.o9 a).1,by simp⟩,k.f13,k.f9,k.f4,fun _ v b=>by cases b;exact⟨_,rfl,ab _ _⟩,k.f0⟩
theorem WithJ.nine (h:WithJ w0 nA nC A rowc C z0 z4 z8 z9 z13 w) (a:z4=none):z9=none:=by
 cases b:z9 with
 | none=>rfl
 | some v=>exact absurd a (h.o9 (by rw[b];simp)).1
theorem WithJ.CI (h:WithJ w0 nA nC A rowc C z0 z4 z8 z9 z13 w) (a:z9=none):z13=none:=by
 cases b:z13 with
 | none=>rfl
 | some v=>exact absurd a (h.C7 (by rw[b];simp))
theorem WithJ.DH {p:Value} (h:WithJ w0 nA nC A rowc C z0 z4 z8 z9 z13 w) (i:z0=some p) (j:z4=none) (c:rowc≠[]) (x:Value) (y:Row w x nA A) (z:A.length=nA*4) (B:∀u∈A,u.oneCell'=true) (H:nA<=100000000) :
  ∃e w',(Builtin.append_ #[80,80] 80 #[p,x]).run Tryz.prog w=.ok e w'/\WithJ w0 nA nC A rowc C z0 (some e) z8 z9 z13 w':=by
 subst i;subst j;obtain⟨g,rfl,q,k⟩:=h.f0 rfl _ rfl;have D:=h.nine rfl;subst D;have l:=h.CI rfl;subst l;have a:w.ownsRow w0.heap.size 164 4 (.slice (some ⟨g,0,none⟩) 0 0) 0 []:=⟨rfl,.inr ⟨g,0,#[],rfl,k,q,Nat.le_refl _,by unfold maxLen;omega,rfl,rfl⟩⟩;obtain⟨e,w',E,F,r,I⟩:=gn w0.heap.size _ 0 [] a x nA A y z B (by omega) h.ext.size;refine⟨e,w',E,⟨ai h.ext a r,fun d=>absurd rfl d,fun d=>absurd rfl d,fun v b=>(by cases b),fun _ v b=>(by cases b),fun _ v b=>?_,fun _ v b=>?_,fun d=>(by cases d)⟩⟩
 .cases b;simpa using F
 .obtain ⟨t,G,n⟩:=h.f8 rfl v b;have o:=cy n q (by simp[c]);exact⟨t,G,(r.block t (Array.getElem?_eq_some_iff.1 n).1 (by simpa [Value.ownBlock]using o)).trans n⟩
theorem WithJ.DG {k l:Value} (h:WithJ w0 nA nC A rowc C z0 z4 z8 z9 z13 w) (d:z4=some k) (e:z8=some l) (g:z9=none) (n:rowc.length=4) (o:∀u∈rowc,u.oneCell'=true) (x:nA<=100000000) :
  ∃c w',(Builtin.append_ #[80,80] 80 #[k,l]).run Tryz.prog w=.ok c w'/\WithJ w0 nA nC A rowc C z0 z4 z8 (some c) z13 w':=by
 subst d;subst e;subst g;have i:=h.CI rfl;subst i;have a:=h.f4 rfl _ rfl;obtain⟨y,rfl,p⟩:=h.f8 rfl _ rfl;obtain⟨c,w',q,r,t,z⟩:=gn w0.heap.size _ nA A a _ 1 rowc (Row.new p (by omega) _ rfl) (by rw[n]) o (by omega) h.ext.size;refine⟨c,w',q,⟨ai h.ext a t,fun b=>absurd rfl b,fun _=>⟨by simp,by simp⟩,fun v j=>(by cases j),fun _ v j=>?_,fun b=>(by cases b),fun b=>(by cases b),fun b=>(by cases b)⟩⟩
 cases j;exact r
theorem WithJ.Du {i:Value} (h:WithJ w0 nA nC A rowc C z0 z4 z8 z9 z13 w) (g:z9=some i) (c:z13=none) (x:Value) (j:Row w x nC C) (k:C.length=nC*4) (l:∀u∈C,u.oneCell'=true) (r:nA+nC<=100000000) :
  ∃e w',(Builtin.append_ #[80,80] 80 #[i,x]).run Tryz.prog w=.ok e w'/\WithJ w0 nA nC A rowc C z0 z4 z8 z9 (some e) w':=by
 subst g;subst c;have a:=h.f9 rfl _ rfl;have d:=h.o9 (by simp);obtain⟨e,w',n,o,p,t⟩:=gn w0.heap.size _ (nA+1) (A++rowc) a x nC C j k l (by omega) h.ext.size;refine⟨e,w',n,⟨ai h.ext a p,fun _=>(by simp),fun _=>d,fun v q=>?_,fun b=>(by cases b),fun b=>(by cases b),fun b=>(by cases b),fun b=>absurd b d.1⟩⟩
 cases q;exact o
end
theorem kC:∀a b:B8,Op.bytesLess a b=ltB a b
 | [],[]=>by simp[Op.bytesLess,ltB]
 | _::_,[]=>by simp[Op.bytesLess,ltB]
 | [],_::_=>by simp[Op.bytesLess,ltB]
 | a::r,b::s=>by
  rw[Op.bytesLess,kC r s];unfold ltB;rw[Bool.eq_iff_iff];simp[List.cons_lt_cons_iff]
variable {w:World} {n k cap:Nat} {cs:List Value}
theorem Row.takeN {a:Option Addr} (m:Nat) (h:Row w (.slice a n cap) n cs) (r:k<=n) (t:cs.length=n*m):Row w (.slice a k cap) k (cs.take (k*m)):=by
 obtain⟨x,e,g,y,j,z,l⟩:=h;simp only[Value.slice.injEq,true_and]at g;obtain⟨rfl,rfl⟩:=g;refine⟨a,cap,rfl,by omega,j,by omega,fun d=>?_⟩;obtain⟨b,o,p,q⟩:=l (by rintro rfl;simp at d);refine⟨b,o,p,fun i u c=>q i u ?_⟩;rw[List.getElem?_take]at c;split at c
 .exact c
 .cases c
variable {b:Nat}
theorem Row.Dq (m:Nat) (h:Row w (.slice (some ⟨b,0,none⟩) n cap) n cs) (p:k<=n) (q:cs.length=n*m):Row w (.slice (some ⟨b,k*m,none⟩) (n - k) (cap - k)) (n - k) (cs.drop (k*m)):=by
 obtain⟨r,c,d,t,x,y,g⟩:=h;simp only[Value.slice.injEq,true_and]at d;obtain⟨rfl,rfl⟩:=d;refine⟨_,_,rfl,by omega,by omega,by omega,fun a=>⟨b,k*m,rfl,fun i u e=>?_⟩⟩;obtain⟨z,o,j,l⟩:=g (by rintro rfl;simp at a);cases j;rw[List.getElem?_drop]at e;have:=l _ u e
 rwa [Nat.zero_add]at this
theorem Row.CU (m:Nat) (h:Row w (.slice (some ⟨b,0,none⟩) n cap) n cs) (g:k<=n) (c:cs.length=n*m):Row w (.slice (if cap=k then some ⟨b,0,none⟩else some ⟨b,k*m,none⟩) (n - k) (cap - k)) (n - k) (cs.drop (k*m)):=by
 have i:=h.Dq m g c;split
 .rename_i j;obtain⟨l,d,e,o,p,q,r⟩:=h;simp only[Value.slice.injEq,true_and]at e;obtain⟨rfl,rfl⟩:=e;refine⟨_,_,rfl,by omega,by omega,by omega,fun a=>?_⟩;exfalso;apply a;rw[List.drop_eq_nil_iff,c];exact Nat.mul_le_mul_right _ (by omega)
 .exact i
variable {v:Value}
theorem cH {c:Prop} [Decidable c] {a:Operand->Value} {R:Value->World->Prop} {o:Oper} (s x:Operand) (t:TypeId) {xv v':Value} {w':World} (b:c) (d:o.op=.call { callee:=.builtin .append,args:=#[s,x],argTypes:=#[t,t] }) 
  (e:a s=v) (g:a x=xv) (i:(Builtin.append_ #[t,t] o.type #[v,xv]).run Tryz.prog w=.ok v' w') (h:R v' w') :
  if c then eN Tryz.prog R ((execOp a o).run Tryz.prog w)else R undef w:=by
 rw[if_pos b];unfold execOp;simp only[d,resolve,invoke,builtin,Sem.run_bind,Sem.run_pure,Result.andThen_ok,List.map_toArray,List.map_cons,List.map_nil,e,g,i];exact h
theorem qV {R:Nat->Prop} {l:aq} (p:B8) (f:Fi) (sv:Value) (hv:bG R w v l) (hl:l.length<=10000000) (hp:p.length<=10000000) (hd:IsData R w sv f.data) :
  Calls Tryz.prog 211 #[v,S8 p,.agg #[.int .i64 f.mode,sv,.int .i64 f.time]] w fun e P=>(∃U,e=.returned U/\OwnRows w.heap.size R P U (ee l p f))/\Ext w P:=by
 obtain⟨s1,s2,rfl,-⟩:=id hd.bytes;have HV:Hid _:=hv;have HD:Hid _:=hd;have bs:=tl p;have bt:=dF l p;obtain⟨wa,Q⟩:∃wa,wa=w.alloc (.cells #[.int .i64 f.mode,.slice s1 f.data.length s2,.int .i64 f.time] 114):=⟨_,rfl⟩;have a0:Ext w wa:=by rw[Q];exact(Ext.refl _).alloc _
 have a1:wa.heap[w.heap.size]? = some (.cells #[.int .i64 f.mode,.slice s1 f.data.length s2,.int .i64 f.time] 114 (0,0)):=by rw[Q];exact ab w _
 have bx:Hid _:=Q;have a3:Hid _:=a0;have bS:Hid _:=a1;clear hv hd Q a0 a1;go_enter Tryz.func211,Tryz.ntmps211;go_wp2_with fail;rw[show w.alloc (.cells #[.int .i64 f.mode,.slice s1 f.data.length s2,.int .i64 f.time] 114)=wa from bx.out.symm];go_at_call 194;refine(gU p (ReadL.BV HV.out a3.out) hl).mono ?_;rintro e w2 ⟨⟨v2,rfl,b0⟩,W⟩;obtain⟨d,h,y⟩:=b0;obtain⟨D,hD⟩:∃D,b9 l p=D:=⟨_,rfl⟩;rw[hD]at h y bt;have B:bG R w2 v2 D:=⟨d,Row.BM h (by omega),Typed.BM h,y⟩;obtain⟨a2,c2,rfl,h1,h2,h3,h4⟩:=bQ B;have G:(a2=none/\D.length=0/\c2=0)\/∃g,a2=some ⟨g,0,none⟩:=by
  rcases h.2 with⟨C,h0⟩ | ⟨g,cap,b8,C,_⟩
  .simp only[Value.slice.injEq]at C;exact .inl ⟨C.1,h0,C.2.2⟩
  .simp only[Value.slice.injEq]at C;exact .inr ⟨g,C.1⟩
 have b':Hid _:=B;have a4:Hid _:=h;have X:Hid _:=y;have S:Hid _:=hD;have H4:Hid _:=h4;have a5:=W.row bS.out;have a6:Hid _:=Ext.trans a3.out W;clear B h y hD h4 W;go_wp2_with fail;go_loopw [7] (fun i wr=>∃k:Nat,k<=D.length/\i=.int .i64 k/\(∀j e,j<k->D[j]? = some e->ltB e.1 p=true)/\wr=w2) (fun i _=>D.length - (intOf i).toNat)
 case atStart=>exact⟨0,Nat.zero_le _,rfl,fun j e a=>absurd a (Nat.not_lt_zero _),rfl⟩
 case round =>
  obtain⟨k,A,rfl,a7,rfl⟩:=hrel;have Y:Hid _:=a7;clear a7
  by_cases b1:k<D.length
  case' pos =>
   obtain⟨⟨q,f'⟩,Z⟩:∃e,D[k]? = some e:=⟨_,List.getElem?_eq_getElem b1⟩;obtain⟨b,o,s,c,a8,ca,hd,c0,-,-,-⟩:=H4.out k q f' Z;have cb:=tl q;have a9:Hid _:=Z;clear hd Z;obtain⟨bq,I⟩:∃bq,ltB q p=bq:=⟨_,rfl⟩;have cc:Op.bytesLess q p=bq:=(kC q p).trans I;cases bq
   case' true =>
    have b2:Hid _:=I;clear I;subst a8;go_wp2;go_roundw
    case rel =>
     refine⟨k+1,by omega,by go_num,fun j e a C=>?_,trivial⟩
     by_cases b3:j=k
     .subst b3;rw[a9.out]at C;cases C;exact b2.out
     .exact Y.out j e (by omega) C
    case measure=>simp[intOf];omega
   case' false =>
    have J:Hid (∀e,D[k]? = some e->ltB e.1 p=false):=fun e C=>by rw[a9.out]at C;cases C;exact I
    clear I;subst a8;go_wp2_with fail
  case' neg =>
   have J:Hid (∀e,D[k]? = some e->ltB e.1 p=false):=fun e C=>by have:=(List.getElem?_eq_some_iff.1 C).1;omega
   go_wp2_with fail
  all_goals
   have a':Hid _:=Y.out;clear H4 Y bs;have bb:d.flatten.length=D.length*4:=a4.out.1;have K:∀u∈d.flatten,u.oneCell'=true:=Each.one X.out (fun c x hx=>hx.length.2);have H:Hid _:=Row.BM a4.out (by omega);have hA:(d.flatten.take (k*4)).length=k*4:=by rw[List.length_take];omega
   have hC:(d.flatten.drop (k*4)).length=(D.length - k)*4:=by rw[List.length_drop];omega
   have bd:∀u∈d.flatten.take (k*4),u.oneCell'=true:=fun u hu=>K u (List.mem_of_mem_take hu)
   have bh:∀u∈d.flatten.drop (k*4),u.oneCell'=true:=fun u hu=>K u (List.mem_of_mem_drop hu)
   have HA:Hid _:=hA;have HC:Hid _:=hC;have b4:Hid _:=bd;have b5:Hid _:=bh;have ad:Hid _:=bb;have bk:Hid _:=G;have b6:Hid _:=a5;clear bb K hA hC bd bh G a5;apply aI 14 (fun z P=>WithJ wr k (D.length - k) (d.flatten.take (k*4)) [S8 p,.int .i64 f.mode,.slice s1 f.data.length s2,.int .i64 f.time] (d.flatten.drop (k*4)) (z 0) (z 4) (z 8) (z 9) (z 13) P) [true,false,false,false,true,false,false,false,true,true,false,false,false,true] [undef,_,_,undef,undef,_,_,_,undef,undef,_,_,undef,undef] [none,none,none,some (fun u=>Row wr u k (d.flatten.take (k*4))),none,none,none,none,none,none,none,none,some (fun u=>Row wr u (D.length - k) (d.flatten.drop (k*4))),none] [[],[],[],[1,2],[0,3],[],[],[5,6],[7],[4,8],[],[],[10,11],[9,12]] (by kernel_rfl) (by kernel_rfl) rfl
   .exact WithJ.start ⟨rfl,rfl,rfl,Nat.le_refl _,fun _ _=>rfl⟩
   .simp (maxSteps:=1000000)only[cY,cG,bP,cA,cN,List.getD_cons_zero,List.getD_cons_succ,Bool.false_eq_true,if_false,if_true,and_true,true_and,forall_const,Nat.zero_add,Nat.reduceAdd,List.take_succ_cons,List.take_zero,aa,Act.put,List.setIfInBounds_toArray,List.set_cons_zero,List.set_cons_succ];and_intros
    .intro r z L a hz R t;go_simp;exact t _ _ a.DE
    iterate 2 · intro r z L a;intros;rename_i t;go_simp;exact t _ _ a rfl
    .intro r z L a A R t;obtain⟨E,F⟩:=A;have b7:k<=c2:=by omega
     rcases bk.out with⟨T,h0,h8⟩ | ⟨g9,T⟩
     .first | (exact absurd T (by simp)) | (cases T;subst h8;have M:k=0:=(by omega);subst M;go_simp;exact t _ _ a (Row.takeN 4 H.out (by omega) ad.out))
     ·(cases T;go_simp;exact t _ _ a (Row.takeN 4 H.out (by omega) ad.out))
    .intro r z L a hz A R t;obtain⟨E,F⟩:=A;obtain⟨U,P,hr,N⟩:=a.DH E hz (by simp) (r 3) (F.ext a.ext) HA.out b4.out (by omega);apply cH (.tmp 26) (.tmp 29) 80 (v:=r 0) (xv:=r 3) (v':=U) (w':=P)
     iterate 4
      .rfl
     .exact hr
     .exact t _ _ N
    .intro r z L a;intros;rename_i t;go_simp;exact t _ _ a rfl
    .intro r z L a R t;obtain⟨f0,f1,f2⟩:=bE (a.ext.row b6.out);go_simp;exact t _ _ a rfl
    .intro r z L a;intros;rename_i t;go_simp;exact t _ _ a rfl
    .intro r z L a hz A R t;go_simp;exact t _ _ a.CY
    .intro r z L a hz A R t;obtain⟨E,F⟩:=A;obtain⟨U,P,hr,N⟩:=a.DG E F hz rfl (by simp[Value.oneCell']) (by omega);apply cH (.tmp 30) (.tmp 34) 80 (v:=r 4) (xv:=r 8) (v':=U) (w':=P)
     iterate 4
      .rfl
     .exact hr
     .exact t _ _ N
    iterate 2 · intro r z L a;intros;rename_i t;go_simp;exact t _ _ a rfl
    .intro r z L a A R t;obtain⟨E,F⟩:=A;have b7:k<=c2:=by omega
     rcases bk.out with⟨T,h0,h8⟩ | ⟨g9,T⟩
     .first | (exact absurd T (by simp)) | (cases T;subst h8;have M:k=0:=(by omega);subst M;go_simp;exact t _ _ a (by have:=H.out;rw[h0]at this;simp only[h0,Nat.sub_zero,Nat.zero_mul,List.drop_zero];exact this))
     ·(cases T;go_simp;exact t _ _ a (Row.CU 4 H.out (by omega) ad.out))
    .intro r z L a hz A R t;obtain⟨E,F⟩:=A;obtain⟨U,P,hr,N⟩:=a.Du E hz (r 12) (F.ext a.ext) HC.out b5.out (by omega);apply cH (.tmp 35) (.tmp 38) 80 (v:=r 9) (xv:=r 12) (v':=U) (w':=P)
     iterate 4
      .rfl
     .exact hr
     .exact t _ _ N
   intro r w3 au A;simp only[cX,List.getD_cons_zero,List.getD_cons_succ,Bool.false_eq_true,if_false,if_true]at au;simp only[bU,Nat.zero_add,Nat.reduceAdd,and_true]at A;have q3:=A.2.2.1;have ce:=A.2.2.2.2.2.2.2.2;simp(maxSteps:=1000000)only[List.drop_succ_cons,List.drop_zero,Nat.zero_add,Nat.reduceAdd,List.take_succ_cons,List.take_zero,aa,Act.put,List.setIfInBounds_toArray,List.set_cons_zero,List.set_cons_succ,A];clear A;generalize r 0=x0 at *;generalize r 3=x3 at *;generalize r 4=x4 at *;generalize r 8=x8 at *;generalize r 9=x9 at *;generalize r 12=cl at *;generalize r 13=cm at *;go_wp2;go_ret;have O:=au.f13 _ rfl;have bl:=au.ext;have h4:=Each.len X.out (fun c x hx=>hx.length.1);rw[pB k h4,pC k h4]at O;have V:ee l p f=D.take k++(p,f)::D.drop k:=by
    have e:=Ac (l:=l) (p:=p) (f:=f) (k:=k) (by rw[S.out];omega) (by rw[S.out];exact a'.out) (by rw[S.out];exact J.out);rw[S.out]at e;exact e
   have bo:Ext w w3:=Ext.trans a6.out bl;have br:(D.take k++(p,f)::D.drop k).length=k+1+(D.length - k):=by simp;omega
   refine⟨⟨_,rfl,d.take k++[[S8 p,.int .i64 f.mode,.slice s1 f.data.length s2,.int .i64 f.time]]++d.drop k,?_,?_⟩,bo⟩
   .rw [V,br,List.flatten_append,List.flatten_append];have:=jd O (Below.size a6.out);simpa using this
   .rw [V,show D.take k++(p,f)::D.drop k=D.take k++[(p,f)]++D.drop k by simp];have k2:Each (IsRowR R w3) d D:=Each.imp X.out (fun c x hc=>IsRowR.BQ hc (KeepR.BS (KeepB.BO bl)));refine((Each.take k2 k).append (Each.snoc (Each.nil _) (c:=_) (x:=(p,f)) ⟨hp,_,rfl,IsData.ext HD.out bo⟩)).append (Each.drop k2 k)
end
section
open Go Go.RowKit
def NewOr (w:World) (v v':Value):Prop:=∀k,v'.ownBlock=some k->v.ownBlock=some k\/w.heap.size<=k
def ApplyPost (R:Nat->Prop) (w:World) (v:Value) (l:aq) (e:Ending) (w':World):Prop:=(∃a,e=.returned a/\bG R w' a l/\NewOr w v a)/\Ext w w'
variable {base:Nat} {w:World} {v:Value} {l:aq}
theorem OwnRows.low {base':Nat} {R:Nat->Prop} (h:OwnRows base R w v l) (b:base'<=base):OwnRows base' R w v l:=by
 obtain⟨a,c,d⟩:=h;exact⟨a,jd c b,d⟩
variable {w':World}
theorem OwnRows.ext {R:Nat->Prop} (h:OwnRows base R w v l) (b:Ext w w'):OwnRows base R w' v l:=by
 obtain⟨a,d,e⟩:=h;exact⟨a,al d b,Each.imp e (fun c x g=>IsRowR.BQ g (KeepR.BS (KeepB.BO b)))⟩
theorem ApplyPost.own {R:Nat->Prop} {a:World} {v':Value} (h:OwnRows a.heap.size R w' v' l) (b:w.heap.size<=a.heap.size) (c:l.length<=100000000) (d:Ext w w'):ApplyPost R w v l (.returned v') w' :=
 ⟨⟨_,rfl,h.rows c,fun k e=>.inr (Nat.le_trans b (h.lt e).1)⟩,d⟩
theorem vQ {R:Nat->Prop} (p:B8) (f:Fi) (g:Value) (h:bG R w v l) (i:l.length<=10000000) (j:p.length<=10000000) (b:IsData R w g f.data) :
  Calls Tryz.prog 162 #[v,.agg #[.int .i64 1,S8 [],S8 p,.int .i64 f.mode,g,.int .i64 f.time]] w (ApplyPost R w v (ee l p f)):=by
 obtain⟨k,n,rfl,-⟩:=id b.bytes;have a:Hid (Ext w (w.alloc (.cells #[.int .i64 1,S8 [],S8 p,.int .i64 f.mode,.slice k f.data.length n,.int .i64 f.time] 199))):=(Ext.refl _).alloc _;have o:Hid _:=h;have q:Hid _:=b;have r:=gQ l p f;clear h b;go_enter Tryz.func162,Tryz.ntmps162
 go_wp2_with (go_at_call 211;go_must (refine(qV p f _ (ReadL.BV o.out a.out) i j (IsData.ext q.out a.out)).mono ?_;rintro e t ⟨⟨u,rfl,c⟩,d⟩))
 go_ret;exact ApplyPost.own c (Below.size a.out) (by omega) (Ext.trans a.out d)
theorem vR {R:Nat->Prop} (p:B8) (d:bG R w v l) (g:l.length<=10000000) :
  Calls Tryz.prog 162 #[v,.agg #[.int .i64 3,S8 p,S8 [],.int .i64 0,.slice none 0 0,.int .i64 0]] w (ApplyPost R w v (b9 l p)):=by
 have a:Hid (Ext w (w.alloc (.cells #[.int .i64 3,S8 p,S8 [],.int .i64 0,.slice none 0 0,.int .i64 0] 199))):=(Ext.refl _).alloc _;have h:Hid _:=d;have i:=dF l p;clear d;go_enter Tryz.func162,Tryz.ntmps162
 go_wp2_with (go_at_call 194;go_must (refine(gU p (ReadL.BV h.out a.out) g).mono ?_;rintro e j ⟨⟨k,rfl,b⟩,c⟩))
 go_ret;exact ApplyPost.own b (Below.size a.out) (by omega) (Ext.trans a.out c)
theorem yj {R:Nat->Prop} (s d:B8) (H:bG R w v l) (hl:l.length<=10000000) (hd:d.length<=10000000) :
  Calls Tryz.prog 162 #[v,.agg #[.int .i64 2,S8 s,S8 d,.int .i64 0,.slice none 0 0,.int .i64 0]] w (ApplyPost R w v (ap l (.mv s d))):=by
 have r:Hid (Ext w (w.alloc (.cells #[.int .i64 2,S8 s,S8 d,.int .i64 0,.slice none 0 0,.int .i64 0] 199))):=(Ext.refl _).alloc _;have HB:Hid _:=cj (ab w (.cells #[.int .i64 2,S8 s,S8 d,.int .i64 0,.slice none 0 0,.int .i64 0] 199));have D:Hid (ap l (.mv s d)=match ax l s with | some x=>ee (b9 l s) d x | none=>l):=rfl;have L:Hid _:=H;have E:=H.lt;obtain⟨a,ad,rfl,I,h2,J,W⟩:=bQ H;have M:Hid _:=E;have H4:Hid _:=W;have au:=dF l s;clear H W E;go_enter Tryz.func162,Tryz.ntmps162;go_wp2_with fail;go_at_call 128;refine(fK s (ReadL.BV L.out r.out)).mono ?_;rintro e N ⟨⟨i,rfl,O⟩,p⟩;rcases O with⟨q,rfl⟩ | ⟨k,f,rfl,g,q⟩
 .have t:Hid (ap l (.mv s d)=l):=by unfold Hid;rw[D.out,q]
  clear q;go_wp2;go_ret;rw[t.out];exact⟨⟨_,rfl,ReadL.BV L.out (Ext.trans r.out p),fun k g=>.inl g⟩,Ext.trans r.out p⟩
 .have t:Hid (ap l (.mv s d)=ee (b9 l s) d f):=by unfold Hid;rw[D.out,q]
  obtain⟨b,o,X,K,rfl,a0,F,c0,Y,Z,c3⟩:=H4.out k s f g;have j:=Ext.trans r.out p;replace Y:=j.cell Y;replace Z:=j.cell Z;replace c3:=j.cell c3;have a1:=(List.getElem?_eq_some_iff.1 g).1;have a2:=Nat.lt_of_lt_of_le (M.out b rfl) (Below.size j);have P:Hid _:=F;have Q:Hid _:=j;have a3:=gQ (b9 l s) d f;obtain⟨b0,A,B,b3,b4,b5⟩:=HB.out;replace A:=p.cell A;replace B:=p.cell B;clear q g F j c0 b0 b3 b4 b5;go_wp2_with fail;have y:Hid (Ext N (N.alloc (.cells #[.int .i64 f.mode,.slice X f.data.length K,.int .i64 f.time] 114))):=(Ext.refl _).alloc _;obtain⟨e0,e1,e2⟩:=bE (ab N (.cells #[.int .i64 f.mode,.slice X f.data.length K,.int .i64 f.time] 114));have n:Hid _:=Ext.trans Q.out y.out;replace A:=y.out.cell A;replace B:=y.out.cell B;have a4:=Below.size n.out;apply aj 8 [_,_,_,undef,_,_,_,undef] [none,none,none,some (fun u S=>OwnRows w.heap.size R S u (b9 l s)),none,none,none,some (fun u S=>OwnRows w.heap.size R S u (ee (b9 l s) d f))] [[],[],[1],[0,2],[],[4],[],[3,5,6]] (by kernel_rfl) (by kernel_rfl) (by simp[ak])
  .refine ⟨?_,?_,trivial⟩
   iterate 2
    .exact fun _ _ _ he h=>OwnRows.ext h he
  .simp (maxSteps:=1000000)only[List.take_succ_cons,List.take_zero,aw,aA,aa,Act.put,List.setIfInBounds_toArray,List.set_cons_zero,List.set_cons_succ,aK,aO,ak,List.getD_cons_zero,List.getD_cons_succ,and_true,true_and,forall_const];and_intros
   iterate 3 · intro C T c;intros;rename_i z;have f1:=c.cell A;have f2:=c.cell B;have f3:=c.cell e0;have f4:=c.cell e1;have f5:=c.cell e2;go_simp;exact z _ _ (Ext.refl _) rfl
   .intro C T c g R z;obtain⟨G,U⟩:=g;go_simp;exact(gU s (ReadL.BV L.out (Ext.trans n.out c)) hl).mono (by rintro e' w4 ⟨⟨K,rfl,I⟩,J⟩;exact⟨_,rfl,z _ _ J (OwnRows.low I (Below.size (Ext.trans n.out c)))⟩)
   iterate 3 · intro C T c;intros;rename_i z;have f1:=c.cell A;have f2:=c.cell B;have f3:=c.cell e0;have f4:=c.cell e1;have f5:=c.cell e2;go_simp;exact z _ _ (Ext.refl _) rfl
   .intro C T c g R z;obtain⟨G,U,a5⟩:=g;go_simp;exact(qV d f _ (OwnRows.rows G (by omega)) (by omega) hd (IsData.ext P.out (Ext.trans n.out c))).mono (by rintro e' w4 ⟨⟨K,rfl,I⟩,J⟩;exact⟨_,rfl,z _ _ J (OwnRows.low I (Below.size (Ext.trans n.out c)))⟩)
  intro C w3 V g;simp only[aP,Nat.zero_add,Nat.reduceAdd,and_true]at g;have q3:=g.2.2.2.1;have q7:=g.2.2.2.2.2.2.2;simp(maxSteps:=1000000)only[List.take_succ_cons,List.take_zero,List.drop_succ_cons,List.drop_zero,aa,Act.put,List.setIfInBounds_toArray,List.set_cons_zero,List.set_cons_succ,Nat.zero_add,Nat.reduceAdd,g];clear g;generalize C 3=x3 at *;generalize C 7=x7 at *;go_wp2;go_ret;rw[t.out];exact ApplyPost.own q7 (Nat.le_refl _) (by omega) (Ext.trans n.out V)
theorem lz {R:Nat->Prop} {cs:List Value} {c:Ch} (a:bG R w v l) (b:l.length<=10000000) (e:IsOp R w cs c) :
  Calls Tryz.prog 162 #[v,.agg cs.toArray] w (ApplyPost R w v (ap l c)):=by
 cases c with
 | put p f =>
  obtain⟨g,i,rfl,h⟩:=e;exact vQ p f i a b g h
 | mv s d =>
  obtain⟨g,h,rfl⟩:=e;exact yj s d a b h
 | del p =>
  obtain⟨g,rfl⟩:=e;exact vR p a b
end
section
open Go Go.RowKit
variable [Inhabited bc]
theorem Ae:(Tryz.prog.info? 199).map (fun i=>(i.zero,i.size,i.bytes))=some (some (.agg #[.int .i64 0,S8 [],S8 [],.int .i64 0,.slice none 0 0,.int .i64 0]),6,80):=by kernel_rfl
theorem lA:(Tryz.prog.info? 80).map (·.size)=some 1:=by kernel_rfl
theorem qW:(Tryz.prog.info? 81).map (·.size)=some 1:=by kernel_rfl
theorem jC:(Tryz.prog.info? 82).map (·.size)=some 1:=by kernel_rfl
section
variable {ops:Array Oper} {rest:List Oper} {o:Oper} {a:Act} {Q:Exit->Act->World->Prop} {w:World}
theorem AQ (q:o.guard=none) (s x:Operand) (B:o.op=.call { callee:=.builtin .append,args:=#[s,x],argTypes:=#[81,81] })
  (d:Nat) (v:Value) (n:Nat) (xs:List Value) (C:a.eval s=v) (i:w.ownsRow d 199 6 v n xs)
  (g c:Nat) (b:List Value) (D:a.eval x=.slice (some ⟨g,0,none⟩) 1 c) (E:b.length=6) {fr:Nat×Nat} (F:w.heap[g]? = some (.cells b.toArray 199 fr)) (r:b.all (·.oneCell')=true)
  (K:n<=100000000) (e:d<=w.heap.size)
  (h:∀j l,l.ownsRow d 199 6 j (n+1) (xs++b)->w.grownBy l v.ownBlock->(∀k,j.ownBlock=some k->v.ownBlock=some k\/w.heap.size<=k)->wpList Tryz.prog ops Q rest (a.put o.dst j) l):wpList Tryz.prog ops Q (o::rest) a w:=by
 obtain⟨G,H,t,y,z⟩:=info_parts Ae;exact wpList_append_own_at w q s x _ B d _ G _ 6 80 Tryz.underlying81 H t y z rfl (by omega) v n xs C i ⟨g,0,none⟩ 1 c b D (by simpa using E) (by simpa using cP F) (fun u I=>List.all_eq_true.1 r u I) (by unfold maxLen;omega) (by omega) e
  (fun j l r J _ p=>h j l r J (fun k A=>by
   rcases p with p | p
   .exact .inl (p.symm.trans A)
   .rw [p]at A;simp only[Option.some.injEq]at A;exact .inr (by omega)))
end
variable {w:World} {cs:List Value} {c:Ch}
theorem IsOp.shape {R:Nat->Prop} (h:IsOp R w cs c):∃(b:Int) (p q:B8) (mode time:Int) (a:Option Addr) (n e:Nat),cs=[.int .i64 b,S8 p,S8 q,.int .i64 mode,.slice a n e,.int .i64 time]/\((b=1/\∃f,c=.put q f/\p=[]/\f.mode=mode/\f.data.length=n/\f.time=time)\/(b≠1/\∀t,c.at t=c)):=by
 cases c with
 | put p f =>
  obtain⟨_,v,rfl,g⟩:=h;obtain⟨a,e,rfl,_⟩:=g.bytes;exact⟨_,_,_,_,_,_,_,_,rfl,.inl ⟨rfl,f,rfl,rfl,rfl,rfl,rfl⟩⟩
 | mv s d=>obtain⟨_,_,rfl⟩:=h;exact⟨_,_,_,_,_,_,_,_,rfl,.inr ⟨by omega,fun _=>rfl⟩⟩
 | del p=>obtain⟨_,rfl⟩:=h;exact⟨_,_,_,_,_,_,_,_,rfl,.inr ⟨by omega,fun _=>rfl⟩⟩
theorem IsOp.ext {R:Nat->Prop} {w':World} (h:IsOp R w cs c) (a:Ext w w'):IsOp R w' cs c:=h.BQ (KeepR.BS (KeepB.BO a))
theorem IsOp.BL {R:Nat->Prop} {b:Int} {p q:B8} {mode time j:Int} {a:Option Addr} {n d:Nat} {t:Nat} (h:IsOp R w [.int .i64 b,S8 p,S8 q,.int .i64 mode,.slice a n d,.int .i64 time] c)
  (g:(b=1/\∃f,c=.put q f/\p=[]/\f.mode=mode/\f.data.length=n/\f.time=time)\/(b≠1/\∀t,c.at t=c)) (e:j=if b=1 then(t:Int)else time) :
  IsOp R w [.int .i64 b,S8 p,S8 q,.int .i64 mode,.slice a n d,.int .i64 j] (c.at t):=by
 rcases g with⟨rfl,f,rfl,rfl,rfl,rfl,rfl⟩ | ⟨g,i⟩
 .obtain ⟨l,v,k,o⟩:=h;rw[if_pos rfl]at e;subst e;simp only[List.cons.injEq,true_and,and_true]at k;exact⟨l,_,rfl,k▸o⟩
 .rw [if_neg g]at e;rw[i,e];exact h
theorem iF {O R:Nat->Prop} {p:Value} {m:Fs} (c:Ch) (h:IsRef O R w p m) (hc:IsOp R w cs c) (hl:m.now.length<=9000000) (ef:m.pend.length<=10000000) (ht:m.time<=10000000) :
  Calls Tryz.prog 193 #[p,.agg cs.toArray] w fun e w'=>e=.returned (.tuple #[])/\RefPost O R w p (does m c) w':=by
 obtain⟨g,vn,vs,vp,vl,vu,rfl,hg,hO,hP⟩:=h;obtain⟨na,nc,rfl,-⟩:=bQ hP.now;have HC:Hid _:=hc;obtain⟨i,p,q,y,time,a,n,I,rfl,J⟩:=hc.shape;have a':Ext w (w.alloc (.cells #[.int .i64 i,S8 p,S8 q,.int .i64 y,.slice a n I,.int .i64 time] 199)):=(Ext.refl w).alloc _;have bb:=Ext.row a' hg;have bq:=ab w (.cells #[.int .i64 i,S8 p,S8 q,.int .i64 y,.slice a n I,.int .i64 time] 199);have eg:=(Array.getElem?_eq_some_iff.1 hg).1;obtain⟨d0,d1,d2,d3,d4,d5,d6,d7,d8⟩:=ah bb;have B:w.heap.size≠g:=by omega
 have br:Hid _:=a';have HP:Hid _:=hP;have HG:Hid _:=hg;have bs:Hid _:=bb;have bt:Hid _:=bq;have HK:Hid _:=J;clear hc a' hP hg bb bq J;obtain⟨Y,K⟩:∃Y:Int,Y=if i=1 then((m.time+1:Nat):Int)else time:=⟨_,rfl⟩
 have co:Hid _:=K
 by_cases r:i=1
 case' pos =>
  have V:Y=((m.time+1:Nat):Int):=by rw[K,if_pos r]
  have cp:Hid _:=V;have cq:Hid _:=r;have ct:(i==1)=true:=by simpa using r
  clear K V r;go_enter Tryz.func193,Tryz.ntmps193
  go_wp2_with (first
   | (refine af rfl 3 (.tmp 10) (.tmp 8) rfl g 6 rfl (.int .i64 ((m.time:Int)+1)) rfl rfl _ _ bs.out (Nat.le_of_ble_eq_true rfl) eT (cf m.room (.slice na m.now.length nc) vs vp vl m.calls (m.time+1) m.down vu) (by simp) ?_;intro w2 bd l;obtain⟨a0,a1,a2,a3,a4,a5,a6,a7,a8⟩:=ah bd;have bh:=aS l bt.out B;obtain⟨b0,b1,b2,b3,b4,b5⟩:=cj bh;clear d0 d1 d2 d3 d4 d5 d6 d7 d8)
   | (refine af rfl 3 (.tmp 19) (.tmp 17) rfl w.heap.size 5 rfl (.int .i64 Y) (by rw[cp.out];rfl) rfl _ _ bh (Nat.le_of_ble_eq_true rfl) eT #[.int .i64 i,S8 p,S8 q,.int .i64 y,.slice a n I,.int .i64 Y] (by simp) ?_;intro w3 W L;have M:=aS L bd (Ne.symm B)))
  have E:=(dT br.out l).andThen L (fun j hj=>.inl (by cases hj;exact Nat.le_refl _));clear bh l L bd a0 a1 a2 a3 a4 a5 a6 a7 a8 b0 b1 b2 b3 b4 b5
 case' neg =>
  have V:Y=time:=by rw[K,if_neg r]
  have cq:Hid _:=r;have ct:(i==1)=false:=by simpa using r
  subst V;clear K r;go_enter Tryz.func193,Tryz.ntmps193
  go_wp2_with ((refine af rfl 3 (.tmp 10) (.tmp 8) rfl g 6 rfl (.int .i64 ((m.time:Int)+1)) rfl rfl _ _ bs.out (Nat.le_of_ble_eq_true rfl) eT (cf m.room (.slice na m.now.length nc) vs vp vl m.calls (m.time+1) m.down vu) (by simp) ?_;intro w3 M l;obtain⟨a0,a1,a2,a3,a4,a5,a6,a7,a8⟩:=ah M;have W:=aS l bt.out B;obtain⟨b0,b1,b2,b3,b4,b5⟩:=cj W;clear d0 d1 d2 d3 d4 d5 d6 d7 d8))
  have E:=dT br.out l;clear l a0 a1 a2 a3 a4 a5 a6 a7 a8 b0 b1 b2 b3 b4 b5
 all_goals
  have bx:=HP.out.own HG.out E;have N:IsOp R w3 _ (c.at (m.time+1)):=IsOp.BL (IsOp.BQ HC.out (cg E (by rintro k d;simp at d;subst d;exact ao HG.out (by kernel_rfl)))) HK.out co.out;obtain⟨F,bk⟩:∃F,c.at (m.time+1)=F:=⟨_,rfl⟩;rw[bk]at N;have bS:Hid _:=bx;have Z:Hid _:=N;have cu:Hid _:=bk;have cv:Hid _:=E;have eh:=E.size;have ec:=dS m.now F;obtain⟨e0,e1,e2,e3,e4,e5,e6,e7,e8⟩:=ah M;obtain⟨f0,f1,f2,f3,f4,f5⟩:=cj W;clear bx N bk E;apply cE 7 0 (.pointer (some ⟨g,0,none⟩)) [.pointer (some ⟨g,0,none⟩),_,_,_,_,_,undef] [none,none,none,none,none,none,some (fun u w'=>bG R w' u (ap m.now F)/\NewOr w (.slice na m.now.length nc) u)] [[],[],[1],[2],[3],[],[4,5]] (by kernel_rfl) (by kernel_rfl) (by simp[ak])
  .refine ⟨?_,trivial⟩
   .exact fun _ _ _ he h=>⟨ReadL.BV h.1 he,h.2⟩
  .exact ⟨_,rfl,rfl,fun w=>by go_simp⟩
  .exact fun _=>rfl
  .simp (maxSteps:=1000000)only[List.take_succ_cons,List.take_zero,aw,aA,aa,Act.put,List.setIfInBounds_toArray,List.set_cons_zero,List.set_cons_succ,aK,aO,ak,List.getD_cons_zero,List.getD_cons_succ,and_true,true_and,forall_const];and_intros
   iterate 6 · intro xs wq o;intros;rename_i hR;have c1:=o.cell e1;have c2:=o.cell f0;have c3:=o.cell f1;have c4:=o.cell f2;have c5:=o.cell f3;have c6:=o.cell f4;have c7:=o.cell f5;go_simp;exact hR _ _ (Ext.refl _) rfl
   .intro xs wq o d R hR;obtain⟨ek,r⟩:=d;go_simp;exact(lz (ReadL.BV bS.out.now o) (by omega) (IsOp.ext Z.out o)).mono (by rintro e' w5 ⟨⟨v2,rfl,h1,h2⟩,h3⟩;exact⟨_,rfl,hR _ _ h3 ⟨h1,fun k d=>(h2 k d).imp id (fun h=>by have:=Below.size o;omega)⟩⟩)
  intro xs w4 G d;simp only[aP,Nat.zero_add,Nat.reduceAdd,and_true]at d;have q6:=d.2.2.2.2.2.2;simp(maxSteps:=1000000)only[List.take_succ_cons,List.take_zero,List.drop_succ_cons,List.drop_zero,aa,Act.put,List.setIfInBounds_toArray,List.set_cons_zero,List.set_cons_succ,Nat.zero_add,Nat.reduceAdd,d];clear d;generalize xs 6=x6 at *;obtain⟨t,P⟩:=q6;obtain⟨ya,yc,rfl,-⟩:=bQ t;have cx:Hid _:=t;have c0:Hid _:=P;have bl:=Ext.row G M;have c8:=Ext.row G W;have b6:Hid _:=G;have c9:Hid _:=bS.out.ext G;have eo:=G.size;clear t P e0 e1 e2 e3 e4 e5 e6 e7 e8 f0 f1 f2 f3 f4 f5 G
  go_wp2_with (refine af rfl 80 (.tmp 28) (.tmp 26) rfl g 1 rfl (.slice ya (ap m.now F).length yc) rfl rfl _ _ bl (Nat.le_of_ble_eq_true rfl) lA (cf m.room (.slice ya (ap m.now F).length yc) vs vp vl m.calls (m.time+1) m.down vu) (by simp) ?_;intro w5 b7 z)
  refine NoP.intro ?_;have b8:bG (On R w.heap.size) w4 (.slice ya (ap m.now F).length yc) (ap m.now F):=ReadL.B7 cx.out (fun k d=>.inl d);have b':=(((c9.out.mono (O':=On O w.heap.size) (R':=On R w.heap.size) (fun k d=>.inl d) (fun k d=>.inl d)).CW b8 (fun k d=>(c0.out k d).imp (HP.out.on k) id)).own bl z);have da:=aS z c8 B;have ca:w3.grownBy w5 (some g):=dT b6.out z;have cb:Hid _:=b';have ad:IsOp R w5 _ F:=IsOp.BQ Z.out (cg ca (by rintro k d;simp at d;subst d;exact ao M (by kernel_rfl)));have cc:Hid _:=ad;obtain⟨er,A,C⟩:=cb.out.pend;obtain⟨pa,pc,rfl,-⟩:=Row.BM A (by omega);have dc:Hid _:=C;have au:Fr O w w5:=(((Fr.refl O w).step cv.out (fun k d=>by cases d;exact .inl hO) (by rintro k d;cases d;exact ao HG.out (by kernel_rfl))).ext b6.out).step z (fun k d=>by cases d;exact .inl hO) (by rintro k d;cases d;exact ao bl (by kernel_rfl));have ce:Hid _:=au;have es:=z.size;obtain⟨e0,e1,e2,e3,e4,e5,e6,e7,e8⟩:=ah b7;obtain⟨f0,f1,f2,f3,f4,f5⟩:=cj da;clear b' ad C au b8 ca;go_wp2_with fail;apply cE 7 0 (.pointer (some ⟨g,0,none⟩)) [.pointer (some ⟨g,0,none⟩),_,_,_,_,.agg #[.int .i64 i,S8 p,S8 q,.int .i64 y,.slice a n I,.int .i64 Y],undef] [none,none,none,none,none,none,some (fun u w'=>∃k,u=.slice (some ⟨k,0,none⟩) 1 1/\w'.heap[k]? = some (.cells #[.int .i64 i,S8 p,S8 q,.int .i64 y,.slice a n I,.int .i64 Y] 199 (0,0)))] [[],[],[1],[2],[3],[],[5]] (by kernel_rfl) (by kernel_rfl) (by simp[ak])
  .refine ⟨?_,trivial⟩
   .exact fun _ _ _ he ⟨k,h1,h3⟩=>⟨k,h1,he.row h3⟩
  .exact ⟨_,rfl,rfl,fun w=>by go_simp⟩
  .exact fun _=>rfl
  .simp (maxSteps:=1000000)only[List.take_succ_cons,List.take_zero,aw,aA,aa,Act.put,List.setIfInBounds_toArray,List.set_cons_zero,List.set_cons_succ,aK,aO,ak,List.getD_cons_zero,List.getD_cons_succ,and_true,true_and,forall_const];and_intros
   iterate 6 · intro xs wq o;intros;rename_i hR;have c1:=o.cell e3;have c2:=o.cell f0;have c3:=o.cell f1;have c4:=o.cell f2;have c5:=o.cell f3;have c6:=o.cell f4;have c7:=o.cell f5;go_simp;exact hR _ _ (Ext.refl _) rfl
   .intro xs wq o d R hR;go_simp;exact hR _ _ ((Ext.refl _).alloc _) ⟨_,rfl,ab _ _⟩
  intro xs w6 H d;simp only[aP,Nat.zero_add,Nat.reduceAdd,and_true]at d;have q6:=d.2.2.2.2.2.2;simp(maxSteps:=1000000)only[List.take_succ_cons,List.take_zero,List.drop_succ_cons,List.drop_zero,aa,Act.put,List.setIfInBounds_toArray,List.set_cons_zero,List.set_cons_succ,Nat.zero_add,Nat.reduceAdd,d];clear d;generalize xs 6=x6 at *;obtain⟨k6,rfl,dk⟩:=q6;have bo:=al A H;have Q:=Ext.row H b7;have S:Hid _:=cb.out.ext H;have ev:=H.size;clear A e0 e1 e2 e3 e4 e5 e6 e7 e8 f0 f1 f2 f3 f4 f5
  go_wp2_with (first
   | (at_builtin;go_must (refine AQ rfl _ _ rfl 0 _ m.pend.length _ rfl bo k6 1 _ rfl rfl dk (by simp[Value.oneCell']) (by omega) (Nat.zero_le _) ?_;intro v7 w7 T D cl;obtain⟨va,vc,rfl⟩:=dw T (by omega);have U:w7.heap[g]? = _:=(D.block g (Array.getElem?_eq_some_iff.1 Q).1 (fun dl=>by obtain⟨dn,dq,X⟩:=S.out.pend.typed g dl.symm;rw[Q]at X;simp at X)).trans Q))
   | (refine af rfl 81 (.tmp 38) (.tmp 36) rfl g 3 rfl (.slice (some ⟨va,0,none⟩) (m.pend.length+1) vc) rfl rfl _ _ U (Nat.le_of_ble_eq_true rfl) qW (cf m.room (.slice ya (ap m.now F).length yc) vs (.slice (some ⟨va,0,none⟩) (m.pend.length+1) vc) vl m.calls (m.time+1) m.down vu) (by simp) ?_;intro w8 ds a9))
  refine NoP.intro ?_
  go_end0
  have cm:∀k,Value.ownBlock (.slice pa m.pend.length pc)=some k->¬IsU8 w6 k:=fun k d=>by
   obtain⟨dn,dq,X⟩:=S.out.pend.typed k d;exact ao X (by kernel_rfl)
  have cn:∀(R:Nat->Prop),KeepR R w5 w7:=fun R=>by
   have a:=KeepR.BS (R:=R) (KeepB.BO H);have b:KeepR R w6 w7:=cg D cm;exact KeepR.trans a b
  have d9:OwnL w7 199 6 (IsOp (On R w.heap.size) w7) (.slice (some ⟨va,0,none⟩) (m.pend.length+1) vc) (m.pend++[F]) :=
   OwnL.app dc.out T (fun c x hx=>hx.BQ (cn _)) ((IsOp.BQ cc.out (cn _)).mono (fun k d=>.inl d))
  have d':=S.out.Ct D d9 (fun k d=>by
   rcases cl k d with h1 | h1
   .exact S.out.op k h1
   .exact .inr (by omega))
  have ea:does m c={ m with time:=m.time+1,now:=ap m.now F,pend:=m.pend++[F] }:=by
   unfold does;rw[cu.out]
  rw[ea];refine⟨rfl,IsRef.fit ⟨g,_,vs,_,vl,vu,rfl,ds,.inl hO,d'.own U a9⟩,?_⟩;exact((Fr.ext ce.out H).step D (fun k d=>by rcases S.out.op k d with h | h;exact .inl h;exact .inr h) cm).step a9 (fun k d=>by cases d;exact .inl hO) (by rintro k d;cases d;exact ao U (by kernel_rfl))
end
section
open Go Go.RowKit
theorem qX (c:UInt8):∀l:B8,cut c (l++[c])=cut c l++[[]]
 | []=>by simp[cut]
 | x::l=>by
  have a:=qX c l;rw[List.cons_append,cut,cut];split
  .rw [a];rfl
  .rw [a]
   cases b:cut c l with
   | nil=>exact absurd b (fX c l)
   | cons h t=>rfl
theorem yk {l:B8} (h:aC (l++[47])=true):False:=by
 unfold aC at h;simp only[Bool.and_eq_true,List.all_eq_true]at h;have:=h.2.1 [] (by rw[qX];simp)
 revert this;decide
theorem yl {d s:B8} (a:aC s=true):aF d s=true↔d.length+1<s.length/\s.take d.length=d/\s[d.length]? = some 47:=by
 unfold aF;rw[List.isPrefixOf_iff_prefix];constructor
 .rintro ⟨t,rfl⟩;have b:t≠[]:=by
   rintro rfl;rw[List.append_nil]at a;exact yk a
  have c:=List.length_pos_iff.2 b;refine⟨by simp;omega,by simp,by simp⟩
 .rintro ⟨c,g,h⟩;refine⟨s.drop (d.length+1),?_⟩;have e:=List.take_append_drop (d.length+1) s;rw[List.take_add_one,g,h]at e;exact e
theorem iG (d s:B8) (w:World) (z:d.length<=10000000) (A:s.length<=10000000) :
  Calls Tryz.prog 154 #[S8 d,S8 s] w fun e B=>e=.returned (.bool (aC d && (aC s && aF d s)))/\Ext w B:=by
 have C:(⟨s.toArray⟩:ByteArray).toList=s:=Lib.toList_data _;have D:(⟨d.toArray⟩:ByteArray).toList=d:=Lib.toList_data _;go_enter Tryz.func154,Tryz.ntmps154;go_wp2_with fail;go_at_call 153;refine(dv d _ z).mono ?_;rintro e H ⟨rfl,b⟩
 cases i:aC d
 .have a:Hid _:=i;clear i;go_wp2;go_ret;exact⟨an (by rw[a.out];rfl),b⟩
 have a:Hid _:=i;clear i;go_wp2_with fail;go_at_call 153;refine(dv s _ A).mono ?_;rintro e I ⟨rfl,j⟩
 cases c:aC s
 .have g:Hid _:=c;clear c;go_wp2;go_ret;exact⟨an (by rw[a.out,g.out];rfl),b.trans j⟩
 have g:Hid _:=c;have p:Hid _:=@yl d s c;clear c
 by_cases x:d.length+1<s.length
 .have q:(d.length:Int)+1<(s.length:Int):=by omega
  have h:d.length<s.length:=by omega
  have l:((⟨s.toArray⟩:ByteArray).extract 0 d.length).toList=s.take d.length:=by
   rw[iZ ⟨s.toArray⟩ 0 d.length (Nat.zero_le _) (by show d.length<=s.length;omega)];simp[Lib.toList_data]
  have k:(⟨s.toArray⟩:ByteArray)[d.length]'(by show d.length<s.length;exact h)=s[d.length]:=rfl;obtain⟨n,r⟩:∃n,(((⟨s.toArray⟩:ByteArray).extract 0 d.length).toList==d)=n:=⟨_,rfl⟩;have y:Hid ((s.take d.length==d)=n):=by unfold Hid;rw[<-l];exact r
  have E:Hid _:=k;clear l k
  cases n with
  | true =>
   go_wp2;go_ret;refine⟨an ?_,b.trans j⟩;rw[a.out,g.out,Bool.true_and,Bool.true_and];have F:s.take d.length=d:=by simpa using y.out
   rw[Bool.eq_iff_iff,p.out,E.out];constructor
   .intro o;have G:s[d.length].toNat=47:=by have:=beq_iff_eq.1 o;omega
    refine⟨x,F,?_⟩;rw[List.getElem?_eq_getElem h];exact congrArg some (UInt8.toNat_inj.1 G)
   .rintro ⟨_,_,o⟩;rw[List.getElem?_eq_getElem h]at o;rw[Option.some.inj o];rfl
  | false =>
   have t:Hid (aF d s=false):=by
    unfold Hid
    cases u:aF d s with
    | false=>rfl
    | true =>
     have:=y.out;rw[(p.out.1 u).2.1]at this;simp at this
   go_wp2;go_ret;exact⟨an (by rw[a.out,g.out,t.out];rfl),b.trans j⟩
 .have q:¬(d.length:Int)+1<(s.length:Int):=by omega
  have t:Hid (aF d s=false):=by
   unfold Hid
   cases u:aF d s with
   | false=>rfl
   | true=>exact absurd (p.out.1 u).1 x
  go_wp2;go_ret;exact⟨an (by rw[a.out,g.out,t.out];rfl),b.trans j⟩
end
section
open Go Go.RowKit
variable {l:aq}
theorem vS {path:B8} {k:Nat} (h:fq (l.take k) path=true) (a:l.length<=k):fq l path=true:=by
 rwa [List.take_of_length_le a]at h
theorem qY {R:Nat->Prop} {w:World} {v:Value} (path:B8) (C:bG R w v l) (x:aC path=true) (D:∀e∈l,aC e.1=true) :
  Calls Tryz.prog 192 #[v,S8 path] w fun e I=>e=.returned (.bool (fq l path))/\Ext w I:=by
 obtain⟨a,J,rfl,T,U,V,E⟩:=bQ C;have K:Hid _:=E;have y:Hid _:=x;have L:Hid _:=D;have M:=nu x;clear E C x D;go_enter Tryz.func192,Tryz.ntmps192;go_wp2;go_loopw [5] (fun i wr=>∃k:Nat,k<=l.length/\i=.int .i64 k/\fq (l.take k) path=true/\Ext w wr) (fun i _=>l.length - (intOf i).toNat)
 case atStart=>exact⟨0,Nat.zero_le _,rfl,rfl,Ext.refl _⟩
 case round =>
  obtain⟨k,W,rfl,F,n⟩:=hrel;have G:Hid _:=F;clear F
  by_cases z:k<l.length
  .obtain ⟨⟨q,f⟩,d⟩:∃e,l[k]? = some e:=⟨_,List.getElem?_eq_getElem z⟩;obtain⟨b,o,s,c,rfl,N,O,u,-,-,-⟩:=K.out k q f d;replace u:=n.cell u;have A:Hid (aC q=true):=L.out (q,f) (List.mem_of_getElem? d);have H:Hid _:=List.mem_of_getElem? d;have P:Hid _:=vK G.out d;obtain⟨u1,p⟩:∃u1,aF path q=u1:=⟨_,rfl⟩;obtain⟨u2,r⟩:∃u2,aF q path=u2:=⟨_,rfl⟩;have h:Hid _:=p;have j:Hid _:=r;clear O d p r
   cases u1 with
   | true =>
    go_wp2_with (go_at_call 154;go_must (refine(iG path q _ (by omega) (by omega)).mono ?_;rw[y.out,A.out,h.out];rintro e Q ⟨rfl,g⟩))
    go_ret;exact⟨an (by rw[tz H.out (by rw[h.out];rfl)]),n.trans g⟩
   | false =>
    go_wp2_with fail;go_at_call 154;refine(iG path q _ (by omega) (by omega)).mono ?_;rw[y.out,A.out,h.out];rintro e Q ⟨rfl,g⟩;replace u:=g.cell u;go_wp2_with fail;go_at_call 154;refine(iG q path _ (by omega) (by omega)).mono ?_;rw[y.out,A.out,j.out];rintro e X ⟨rfl,t⟩
    cases u2 with
    | true =>
     go_wp2;go_ret;exact⟨an (by rw[tz H.out (by rw[j.out,Bool.or_true])]),(n.trans g).trans t⟩
    | false =>
     go_wp2;go_roundw
     case rel=>exact⟨k+1,by omega,by go_num,by rw[P.out,h.out,j.out];rfl,(n.trans g).trans t⟩
     case measure=>simp[intOf];omega
  .have B:l.length<=k:=by omega
   have S:Hid _:=vS G.out B;go_wp2;go_ret;exact⟨an (by rw[S.out]),n⟩
end
section
open Go Go.RowKit
variable [Inhabited bc]
section
variable {ops:Array Oper} {rest:List Oper} {o:Oper} {a:Act} {Q:Exit->Act->World->Prop} {w:World}
theorem rY (k:o.guard=none) (s x:Operand) (p:o.op=.call { callee:=.builtin .append,args:=#[s,x],argTypes:=#[80,80] }) (l:o.type=80)
  (c:Nat) (v:Value) (n:Nat) (xs:List Value) (q:a.eval s=v) (e:w.ownsRow c 164 4 v n xs)
  (xv:Value) (m:Nat) (b:List Value) (r:a.eval x=xv) (g:Row w xv m b) (t:b.length=m*4) (y:∀u∈b,u.oneCell'=true) (z:n+m<=1000000000) (d:c<=w.heap.size)
  (h:∀j i,i.ownsRow c 164 4 j (n+m) (xs++b)->w.grownBy i v.ownBlock->wpList Tryz.prog ops Q rest (a.put o.dst j) i):wpList Tryz.prog ops Q (o::rest) a w:=by
 refine wpList_plain k fun K A=>?_
 obtain⟨j,i,B,C,D,E⟩:=gn c v n xs e xv m b g t y z d;unfold Oper.wp execOp;simp only[p,l,resolve,invoke,builtin,Sem.run_bind,Sem.run_pure,Result.andThen_ok,List.map_toArray,List.map_cons,List.map_nil,q,r,B];exact A _ _ (h j i C D)
end
variable {w:World}
theorem uh {R:Nat->Prop} {v:Value} {l:aq} (h:bG R w v l):∃a:List (List Value),Row w v l.length a.flatten/\Each (IsRowR R w) a l/\a.flatten.length=l.length*4/\(∀u∈a.flatten,u.oneCell'=true):=by
 obtain⟨a,e,g,b⟩:=h;exact⟨a,e,b,by rw[mT (Each.len b (fun c x d=>d.length.1)),b.1],Each.one b (fun c x d=>d.length.2)⟩
variable {p:Value} {m:Fs}
theorem kD {O R:Nat->Prop} (h:IsRef O R w p m) (hl:m.now.length<=10000000) :
  Calls Tryz.prog 159 #[p] w fun e Y=>e=.returned (.tuple #[])/\RefPost O R w p (settle m) Y:=by
 obtain⟨g,vn,vs,Z,K,L,rfl,G,M,H⟩:=h;obtain⟨V,W,rfl,-⟩:=bQ H.now;obtain⟨B,o,d,C,q⟩:=uh H.now;have l:Ext w (w.alloc (.cells #[] 164)):=(Ext.refl _).alloc _;have i:(w.alloc (.cells #[] 164)).ownsRow w.heap.size 164 4 (.slice (some ⟨w.heap.size,0,none⟩) 0 0) 0 []:=⟨rfl,.inr ⟨w.heap.size,0,#[],rfl,Nat.le_refl _,ab _ _,Nat.le_refl _,by unfold maxLen;omega,rfl,rfl⟩⟩;have y:=Ext.row l G;obtain⟨d0,d1,d2,d3,d4,d5,d6,d7,d8⟩:=ah y;have ad:=(Array.getElem?_eq_some_iff.1 G).1;have N:Hid _:=l;have HG:Hid _:=G;have au:Hid _:=y;have HP:Hid _:=H;have D:Hid _:=o.ext l;have P:Hid _:=d;have Q:Hid _:=C;have E:Hid _:=q;have j:Hid _:=i;clear G H o d C q i l y;go_enter Tryz.func159,Tryz.ntmps159
 go_wp2_with (first
  | (at_builtin;go_must (refine rY rfl _ _ rfl rfl w.heap.size _ 0 [] rfl j.out _ m.now.length B.flatten rfl D.out Q.out E.out (by omega) (by simp) ?_;intro v2 X a F;rw[Nat.zero_add,List.nil_append]at a;have n:Ext w X:=ai N.out j.out F;have z:=Ext.row n HG.out;obtain⟨I,J,rfl,-⟩:=Row.BM a (by omega)))
  | (refine af rfl 80 (.tmp 10) (.tmp 8) rfl g 2 rfl (.slice I m.now.length J) rfl rfl _ _ z (Nat.le_of_ble_eq_true rfl) lA (cf m.room (.slice V m.now.length W) (.slice I m.now.length J) Z K m.calls m.time m.down L) (by simp) ?_;intro w3 A r)
  | (refine af rfl 81 (.tmp 13) _ rfl g 3 rfl (.slice none 0 0) rfl rfl _ _ A (Nat.le_of_ble_eq_true rfl) qW (cf m.room (.slice V m.now.length W) (.slice I m.now.length J) (.slice none 0 0) K m.calls m.time m.down L) (by simp) ?_;intro w4 S t))
 go_end0
 have u:OwnRows w.heap.size R X (.slice I m.now.length J) m.now:=⟨B,a,Each.imp P.out (fun c x hc=>IsRowR.BQ hc (KeepR.BS (KeepB.BO n)))⟩;have T:=((HP.out.ext n).mono (O':=On O w.heap.size) (R':=On R w.heap.size) (fun k b=>.inl b) (fun k b=>.inl b)).C' (ReadL.B7 (u.rows (by omega)) (fun k b=>.inl b)) (fun k b=>.inr (u.lt b).1);have U:=((T.own z r).own A t).De;refine⟨rfl,IsRef.fit ⟨g,_,_,_,K,L,rfl,S,.inl M,U⟩,?_⟩;exact(((Fr.refl O w).ext n).step r (fun k b=>by cases b;exact .inl M) (by rintro k b;cases b;exact ao z (by kernel_rfl))).step t (fun k b=>by cases b;exact .inl M) (by rintro k b;cases b;exact ao A (by kernel_rfl))
theorem mU {O R:Nat->Prop} (path:B8) (h:IsRef O R w p m) (d:OkM m) (F:m.time<=8000000) (G:path.length<=400) :
  Calls Tryz.prog 157 #[p,S8 path] w fun e y=>e=.returned (.int .i64 (aD m path).2)/\RefPost O R w p (aD m path).1 y:=by
 have o:Hid (IsRef O R w p m):=h;have H:=d.BY;have z:=d.Ca;have a:Hid (aD m path=if aC path=false then(m,6)else if(ax m.now path).isNone then(m,7)else(does m (.del path),0)):=rfl;obtain⟨g,I,J,K,L,M,rfl,x,N,q⟩:=h;obtain⟨P,Q,rfl,-⟩:=bQ q.now;have A:Hid _:=x;have B:Hid _:=q;clear x q d;obtain⟨r,j⟩:∃r,aC path=r:=⟨_,rfl⟩;have t:Hid _:=j;rw[j]at a;clear j;go_enter Tryz.func157,Tryz.ntmps157;go_wp2_with fail;go_at_call 153;refine(dv path _ (by omega)).mono ?_;rw[t.out];rintro e S ⟨rfl,b⟩
 cases r with
 | false =>
  go_wp2;go_ret;rw[a.out];exact⟨rfl,RefPost.same o.out b⟩
 | true =>
  obtain⟨T,U,V,W,X,Y,Z,d7,d8⟩:=ah (Ext.row b A.out);go_wp2_with fail;go_at_call 128;refine(fK path (ReadL.BV B.out.now b)).mono ?_;rintro e w3 ⟨⟨i,rfl,n⟩,l⟩;rcases n with⟨c,rfl⟩ | ⟨k,f,rfl,C,c⟩
  .have u:Hid (aD m path=(m,7)):=by unfold Hid;rw[a.out,c];rfl
   clear c a;go_wp2;go_ret;rw[u.out];exact⟨rfl,RefPost.same o.out (b.trans l)⟩
  .have u:Hid (aD m path=(does m (.del path),0)):=by unfold Hid;rw[a.out,c];rfl
   clear c C a;have D:¬(k:Int)<0:=by omega
   go_wp2_with (go_at_call 193;go_must (refine(iF (.del path) (cs:=[.int .i64 3,S8 path,S8 [],.int .i64 0,.slice none 0 0,.int .i64 0]) (IsRef.ext o.out (b.trans l)) ⟨by omega,rfl⟩ (by omega) (by omega) (by omega)).mono ?_;rintro e w4 ⟨rfl,E⟩))
   go_ret;rw[u.out];exact⟨rfl,RefPost.pre (b.trans l) E⟩
end
section
open Go Go.RowKit
variable [Inhabited bc]
theorem hZ (v:Value) (l:B8) (w:World) (q:IsBytes w v l) :
  Calls Tryz.prog 29 #[v] w fun e y=>(∃r,e=.returned r/\IsData (Nu w y) y r l)/\Ext w y:=by
 have N:=q.len;obtain⟨a,z,rfl,O,P,Q,A⟩:=id q;have H:Ext w (w.alloc (.cells #[] 5)):=(Ext.refl w).alloc _
 cases l with
 | nil =>
  have g:IsData (Nu w (w.alloc (.cells #[] 5))) (w.alloc (.cells #[] 5)) (.slice (some ⟨w.heap.size,0,none⟩) 0 0) [] :=
   ⟨⟨_,0,rfl,Nat.le_refl _,by omega,by simp,fun h=>absurd rfl h⟩,TypB.at (ab _ _),fun k B=>by
    have:w.heap.size=k:=by simpa [Value.ownBlock]using B
    subst this;exact⟨Nat.le_refl _,by simp⟩⟩
  have i:Hid _:=g;clear q A g;go_enter Tryz.func29,Tryz.ntmps29
  cases a with
  | none =>
   go_wp2;go_ret;exact⟨⟨_,rfl,i.out⟩,(Ext.refl _).alloc _⟩
  | some R =>
   go_wp2;go_ret;exact⟨⟨_,rfl,i.out⟩,(Ext.refl _).alloc _⟩
 | cons x t =>
  obtain⟨b,o,rfl,I⟩:=A (by simp);generalize J:x::t=L at *;have n:(w.alloc (.cells #[] 5)).ownsRow w.heap.size 5 1 (.slice (some ⟨w.heap.size,0,none⟩) 0 0) 0 []:=⟨rfl,.inr ⟨w.heap.size,0,#[],rfl,Nat.le_refl _,ab _ _,Nat.le_refl _,by unfold maxLen;omega,rfl,rfl⟩⟩;have d:∀(j:Nat) u,(L.map fun x=>Value.int .u8 x.toNat)[j]? = some u->(w.alloc (.cells #[] 5)).cell? ((⟨b,o,none⟩:Addr).add j)=some u:=by
   intro j u C;have p:(⟨b,o,none⟩:Addr).add j=⟨b,o+j,none⟩:=by unfold Addr.add;split <;> simp_all
   rw[p];exact H.cell (I j u C)
  have K:Hid _:=d;clear I d A q J;go_enter Tryz.func29,Tryz.ntmps29
  go_wp2_with (at_builtin;(refine gB _ _ _ 1 1 Tryz.underlying37 gC rfl (by omega) rfl _ _ rfl w.heap.size _ 0 _ rfl n ⟨b,o,none⟩ L.length z (L.map fun x=>Value.int .u8 x.toNat) rfl (by simp) K.out (by intro u C;obtain⟨_,_,rfl⟩:=List.mem_map.1 C;rfl) (by omega) (by omega) (by simp) ?_);intro r D c E _;have F:IsData (Nu w D) D r L:=⟨Row.BM (by simpa using c) (by omega),TypB.BM c,fun k B=>c.lt k B⟩;obtain⟨S,T,rfl,-⟩:=id F.bytes;have M:Hid _:=F;have G:Ext w D:=ai H n E;clear F c)
  go_ret;exact⟨⟨_,rfl,M.out⟩,G⟩
def bw (m:Fs) (path:B8) (mode:Int) (data:B8) (only a:Bool) (b:Int):Fs×Int :=
 if bA path mode data≠0 then(m,bA path mode data)else if only=true/\(ax m.now path).isSome then(m,8)
 else bj m path mode data (!a && decide ((data.length:Int)<=b - cw m.now+fY m.now path))
variable {w:World} {p:Value} {m:Fs}
theorem nJ {O R:Nat->Prop} {i c:World} (path:B8) (mode:Int) (a:Option Addr) (data:B8) (b:Nat) (h:IsRef O R w p m) (g:Ext w i) (j:Ext i c) (t:IsData (Nu i c) c (.slice a data.length b) data) (z:path.length<=400) (u:m.now.length<=9000000) (l:m.pend.length<=10000000) (x:m.time<=10000000) :
  Calls Tryz.prog 193 #[p,.agg #[.int .i64 1,S8 [],S8 path,.int .i64 mode,.slice a data.length b,.int .i64 0]] c fun e o=>e=.returned (.tuple #[])/\RefPost O R w p (does m (.put path ⟨mode,data,0⟩)) o:=by
 have q:=g.trans j;have y:IsRef O (Nw R w c) c p m:=(h.ext q).mono (fun k d=>d) (fun k d=>.inl d);have n:IsData (Nw R w c) c (.slice a data.length b) data:=t.mono (fun k d=>.inr ⟨Nat.le_trans g.size d.1,d.2⟩);exact(iF (.put path ⟨mode,data,0⟩) (cs:=[.int .i64 1,S8 [],S8 path,.int .i64 mode,.slice a data.length b,.int .i64 0]) y ⟨by omega,_,rfl,n⟩ u l x).mono (fun e o r=>⟨r.1,RefPost.BO q r.2⟩)
theorem ym {O R:Nat->Prop} (path:B8) (mode:Int) (v:Value) (data:B8) (only b:Bool) (a:Int) (h:IsRef O R w p m) (o:OkM m) (ht:m.time<=8000000) (hp:path.length<=400) (L:IsBytes w v data) (ad:0<=a) (au:a<=1152921504606846976) (z:ax m.now path=none) :
  Calls Tryz.prog 140 #[p,S8 path,.int .i64 mode,v,.bool only,.bool b,.int .i64 a] w fun e w'=>e=.returned (.int .i64 (bw m path mode data only b a).2)/\RefPost O R w p (bw m path mode data only b a).1 w':=by
 have r:Hid (IsRef O R w p m):=h;have hl:=o.BY;have a0:=o.Ca;have G:Hid _:=o.Cg;have hu:=gg o (by omega);obtain⟨U,M⟩:∃U:Nat,cw m.now=U:=⟨_,rfl⟩;have HU:Hid _:=M;rw[M]at hu;have t:bw m path mode data only b a=if bA path mode data≠0 then(m,bA path mode data)else if ei m.now path []=false then(m,9)else if(!b && decide ((data.length:Int)<=a - U))=false then(m,10)else(does m (.put path ⟨mode,data,0⟩),0):=by
  unfold bw bj fY;rw[z,M];simp
 have c:Hid _:=t;have HV:Hid _:=L;have a1:=L.len;obtain⟨va,vc,rfl,-⟩:=id L;obtain⟨g,vn,vs,vp,vl,vu,rfl,N,hO,P⟩:=h;obtain⟨na,nc,rfl,-⟩:=bQ P.now;obtain⟨d0,d1,d2,d3,d4,d5,d6,d7,d8⟩:=ah N;have HG:Hid _:=N;have Q:Hid _:=P;have S:Hid _:=z;obtain⟨T,H⟩:∃T,aC path=T:=⟨_,rfl⟩;have j:Hid _:=H;clear N P o H M L t z;go_enter Tryz.func140,Tryz.ntmps140;go_wp2_with fail;go_at_call 128;refine(fK path Q.out.now).mono ?_;rintro e w2 ⟨⟨i,rfl,u⟩,I⟩;obtain rfl:i = -1:=by
  rcases u with⟨_,h⟩ | ⟨k,f,_,_,h⟩
  .exact h
  .rw [S.out]at h;cases h
 clear u;go_wp2_with fail;go_at_call 153;refine(dv path _ (by omega)).mono ?_;rw[j.out];rintro e w3 ⟨rfl,J⟩;have d:Hid _:=I.trans J;clear I J
 cases T with
 | false =>
  have l:Hid (bw m path mode data only b a=(m,6)):=by unfold Hid;rw[c.out];simp[bA,j.out]
  go_wp2;go_ret;rw[l.out];exact⟨rfl,RefPost.same r.out d.out⟩
 | true =>
  by_cases A:mode<1
  .have l:Hid (bw m path mode data only b a=(m,1)):=by unfold Hid;rw[c.out];simp[bA,j.out,A]
   go_wp2;go_ret;rw[l.out];exact⟨rfl,RefPost.same r.out d.out⟩
  by_cases B:3<mode
  .have l:Hid (bw m path mode data only b a=(m,1)):=by unfold Hid;rw[c.out];simp[bA,j.out,B]
   go_wp2;go_ret;rw[l.out];exact⟨rfl,RefPost.same r.out d.out⟩
  by_cases x:20000<data.length
  .have l:Hid (bw m path mode data only b a=(m,3)):=by unfold Hid;rw[c.out];simp[bA,j.out,A,B,x]
   have hi:(20000:Int)<(data.length:Int):=by omega
   go_wp2;go_ret;rw[l.out];exact⟨rfl,RefPost.same r.out d.out⟩
  have hi:¬(20000:Int)<(data.length:Int):=by omega
  have n:Hid (bw m path mode data only b a=if ei m.now path []=false then(m,9)else if(!b && decide ((data.length:Int)<=a - U))=false then(m,10)else(does m (.put path ⟨mode,data,0⟩),0)):=by
   unfold Hid;rw[c.out];simp[bA,j.out,A,B,x]
  clear c;have y:ei m.now path []=fq m.now path:=yf (fun e V=>oz (G.out e V).1);rw[y]at n;obtain⟨W,C⟩:∃W,fq m.now path=W:=⟨_,rfl⟩;have X:Hid _:=C;rw[C]at n;obtain⟨z0,z1,z2,z3,z4,z5,z6,z7,z8⟩:=ah (Ext.row d.out HG.out);clear C y d0 d1 d2 d3 d4 d5 d6 d7 d8;go_wp2_with fail;go_at_call 192;refine(qY path (ReadL.BV Q.out.now d.out) j.out (fun e V=>(G.out e V).1)).mono ?_;rw[X.out];rintro e w4 ⟨rfl,q⟩
  cases W with
  | false =>
   have l:Hid (bw m path mode data only b a=(m,9)):=by unfold Hid;rw[n.out];simp
   go_wp2;go_ret;rw[l.out];exact⟨rfl,RefPost.same r.out (Ext.trans d.out q)⟩
  | true =>
   have D:Hid _:=Ext.trans d.out q
   cases b with
   | true =>
    have l:Hid (bw m path mode data only true a=(m,10)):=by unfold Hid;rw[n.out];simp
    go_wp2;go_ret;rw[l.out];exact⟨rfl,RefPost.same r.out D.out⟩
   | false =>
    replace z1:=q.cell z1;clear q;go_wp2_with fail;go_at_call 127;refine(ly (ReadL.BV Q.out.now D.out) (by have:=HU.out;omega)).mono ?_;rw[HU.out];rintro e w5 ⟨rfl,K⟩;have E:Hid _:=Ext.trans D.out K;clear K;have a2:IntKind.i64.wrap ((U:Int) - 0)=(U:Int) - 0:=IntWalk.i64_in _ (by omega);have a3:IntKind.i64.wrap ((U:Int)+(data.length:Int))=(U:Int)+(data.length:Int):=IntWalk.i64_in _ (by omega)
    by_cases hf:a<(U:Int)+(data.length:Int)
    .have l:Hid (bw m path mode data only false a=(m,10)):=by unfold Hid;rw[n.out];simp;omega
     go_wp2;go_ret;rw[l.out];exact⟨rfl,RefPost.same r.out E.out⟩
    .have l:Hid (bw m path mode data only false a=(does m (.put path ⟨mode,data,0⟩),0)):=by unfold Hid;rw[n.out];simp;omega
     go_wp2_with fail;go_at_call 29;refine(hZ _ data _ (IsBytes.ext HV.out E.out)).mono ?_;rintro e w6 ⟨⟨v6,rfl,F⟩,Y⟩;obtain⟨c1,c2,rfl,-⟩:=id F.bytes;have Z:Hid _:=F;clear F
     go_wp2_with (go_at_call 193;go_must (refine(nJ path mode c1 data c2 r.out E.out Y Z.out hp (by omega) (by omega) (by omega)).mono ?_;rintro e w7 ⟨rfl,h7⟩))
     go_ret;rw[l.out];exact⟨rfl,h7⟩
theorem yn {O R:Nat->Prop} (path:B8) (mode:Int) (v:Value) (data:B8) (only c:Bool) (a:Int) (h:IsRef O R w p m) (n:OkM m) (ht:m.time<=8000000) (hp:path.length<=400) (L:IsBytes w v data) (ad:0<=a) (au:a<=1152921504606846976) (f:Fi) (r:ax m.now path=some f) :
  Calls Tryz.prog 140 #[p,S8 path,.int .i64 mode,v,.bool only,.bool c,.int .i64 a] w fun e w'=>e=.returned (.int .i64 (bw m path mode data only c a).2)/\RefPost O R w p (bw m path mode data only c a).1 w':=by
 have x:Hid (IsRef O R w p m):=h;have hl:=n.BY;have a0:=n.Ca;have a1:Hid _:=n.Cg;have hu:=gg n (by omega);obtain⟨U,M⟩:∃U:Nat,cw m.now=U:=⟨_,rfl⟩;have Y:Hid _:=M;rw[M]at hu;have y:bw m path mode data only c a=if bA path mode data≠0 then(m,bA path mode data)else if only=true then(m,8)else if(!c && decide ((data.length:Int)<=a - U+f.data.length))=false then(m,10)else(does m (.put path ⟨mode,data,0⟩),0):=by
  unfold bw bj fY;rw[r,M];simp
 have d:Hid _:=y;have HV:Hid _:=L;have a2:=L.len;obtain⟨va,vc,rfl,-⟩:=id L;obtain⟨g,vn,vs,vp,vl,vu,rfl,P,hO,Q⟩:=h;obtain⟨na,nc,rfl,n1,n2,n3,z⟩:=bQ Q.now;have G:Hid _:=z;have a3:f.data.length<=20000:=(n.Cg _ (fG r)).2;clear z;obtain⟨d0,S,d2,d3,d4,d5,d6,d7,d8⟩:=ah P;have HG:Hid _:=P;have Z:Hid _:=Q;have H:Hid _:=r;obtain⟨T,I⟩:∃T,aC path=T:=⟨_,rfl⟩;have q:Hid _:=I;clear P Q n I M L y r;go_enter Tryz.func140,Tryz.ntmps140;go_wp2_with fail;go_at_call 128;refine(fK path Z.out.now).mono ?_;rintro e w2 ⟨⟨i,rfl,A⟩,t⟩;obtain⟨k,rfl,V⟩:∃k:Nat,i=k/\m.now[k]? = some (path,f):=by
  rcases A with⟨h,_⟩ | ⟨k,f',h,h2,h3⟩
  .rw [H.out]at h;cases h
  .rw [H.out]at h3;cases h3;exact⟨k,h,h2⟩
 obtain⟨b,o,s1,s2,rfl,-,-,-,-,N,-⟩:=G.out k path f V;have a4:=(List.getElem?_eq_some_iff.1 V).1;replace N:=t.cell N;replace S:=t.cell S;have a5:¬(k:Int)<0:=by omega
 have a6:(0:Int)<=(k:Int):=by omega
 clear A V;go_wp2_with fail;go_at_call 153;refine(dv path _ (by omega)).mono ?_;rw[q.out];rintro e w3 ⟨rfl,J⟩;have j:Hid _:=t.trans J;clear t J
 cases T with
 | false =>
  have l:Hid (bw m path mode data only c a=(m,6)):=by unfold Hid;rw[d.out];simp[bA,q.out]
  go_wp2;go_ret;rw[l.out];exact⟨rfl,RefPost.same x.out j.out⟩
 | true =>
  by_cases C:mode<1
  .have l:Hid (bw m path mode data only c a=(m,1)):=by unfold Hid;rw[d.out];simp[bA,q.out,C]
   go_wp2;go_ret;rw[l.out];exact⟨rfl,RefPost.same x.out j.out⟩
  by_cases D:3<mode
  .have l:Hid (bw m path mode data only c a=(m,1)):=by unfold Hid;rw[d.out];simp[bA,q.out,D]
   go_wp2;go_ret;rw[l.out];exact⟨rfl,RefPost.same x.out j.out⟩
  by_cases B:20000<data.length
  .have l:Hid (bw m path mode data only c a=(m,3)):=by unfold Hid;rw[d.out];simp[bA,q.out,C,D,B]
   have hi:(20000:Int)<(data.length:Int):=by omega
   go_wp2;go_ret;rw[l.out];exact⟨rfl,RefPost.same x.out j.out⟩
  have hi:¬(20000:Int)<(data.length:Int):=by omega
  have u:Hid (bw m path mode data only c a=if only=true then(m,8)else if(!c && decide ((data.length:Int)<=a - U+f.data.length))=false then(m,10)else(does m (.put path ⟨mode,data,0⟩),0)):=by
   unfold Hid;rw[d.out];simp[bA,q.out,C,D,B]
  clear d;obtain⟨z0,z1,z2,z3,z4,z5,z6,z7,z8⟩:=ah (Ext.row j.out HG.out);clear d0 S d2 d3 d4 d5 d6 d7 d8
  cases only with
  | true =>
   have l:Hid (bw m path mode data true c a=(m,8)):=by unfold Hid;rw[u.out];simp
   go_wp2;go_ret;rw[l.out];exact⟨rfl,RefPost.same x.out j.out⟩
  | false =>
   cases c with
   | true =>
    have l:Hid (bw m path mode data false true a=(m,10)):=by unfold Hid;rw[u.out];simp
    go_wp2;go_ret;rw[l.out];exact⟨rfl,RefPost.same x.out j.out⟩
   | false =>
    go_wp2_with fail;go_at_call 127;refine(ly (ReadL.BV Z.out.now j.out) (by have:=Y.out;omega)).mono ?_;rw[Y.out];rintro e w5 ⟨rfl,K⟩;have E:Hid _:=Ext.trans j.out K;clear K;have a7:IntKind.i64.wrap ((U:Int) - (f.data.length:Int))=(U:Int) - (f.data.length:Int):=IntWalk.i64_in _ (by omega);have a8:IntKind.i64.wrap ((U:Int) - (f.data.length:Int)+(data.length:Int))=(U:Int) - (f.data.length:Int)+(data.length:Int):=IntWalk.i64_in _ (by omega)
    by_cases hf:a<(U:Int) - (f.data.length:Int)+(data.length:Int)
    .have l:Hid (bw m path mode data false false a=(m,10)):=by unfold Hid;rw[u.out];simp;omega
     go_wp2;go_ret;rw[l.out];exact⟨rfl,RefPost.same x.out E.out⟩
    .have l:Hid (bw m path mode data false false a=(does m (.put path ⟨mode,data,0⟩),0)):=by unfold Hid;rw[u.out];simp;omega
     go_wp2_with fail;go_at_call 29;refine(hZ _ data _ (IsBytes.ext HV.out E.out)).mono ?_;rintro e w6 ⟨⟨v6,rfl,F⟩,W⟩;obtain⟨c1,N,rfl,-⟩:=id F.bytes;have X:Hid _:=F;clear F
     go_wp2_with (go_at_call 193;go_must (refine(nJ path mode c1 data N x.out E.out W X.out hp (by omega) (by omega) (by omega)).mono ?_;rintro e w7 ⟨rfl,h7⟩))
     go_ret;rw[l.out];exact⟨rfl,h7⟩
theorem lV {O R:Nat->Prop} (path:B8) (mode:Int) (v:Value) (data:B8) (only b:Bool) (a:Int) (h:IsRef O R w p m) (c:OkM m) (j:m.time<=8000000) (k:path.length<=400) (l:IsBytes w v data) (d:0<=a) (g:a<=1152921504606846976) :
  Calls Tryz.prog 140 #[p,S8 path,.int .i64 mode,v,.bool only,.bool b,.int .i64 a] w fun e n=>e=.returned (.int .i64 (bw m path mode data only b a).2)/\RefPost O R w p (bw m path mode data only b a).1 n:=by
 cases i:ax m.now path with
 | none=>exact ym path mode v data only b a h c j k l d g i
 | some f=>exact yn path mode v data only b a h c j k l d g f i
end
section
open Go Go.RowKit
variable [Inhabited bc]
variable {w:World}
theorem RefPost.store {O R:Nat->Prop} {b d:World} {m':Fs} {g:Nat} {e vs i j l:Value} {cur:Array Value} (n:Fr O w b) (p:Nw O w b g) (q:b.heap[g]? = some (.cells cur 84 (0,0)))
  (r:RParts (Nw O w b) (Nw R w b) b e vs i j l m'.now m'.sure m'.pend m'.plan m'.users) (a:b.grownBy d (some g)) (o:d.heap[g]? = some (.cells (cf m'.room e vs i j m'.calls m'.time m'.down l) 84 (0,0))) :
  RefPost O R w (.pointer (some ⟨g,0,none⟩)) m' d :=
 ⟨⟨g,e,vs,i,j,l,rfl,o,p.fst a.size,(r.own q a).mono (fun k c=>c.fst a.size) (fun k c=>c.fst a.size)⟩,
  n.step a (fun k c=>by cases c;exact p.imp id (fun h=>h.1)) (by rintro k c;cases c;exact ao q (by kernel_rfl))⟩
variable {v:Value}
theorem NewOr.CK {O:Nat->Prop} {w':World} {v':Value} (h:NewOr w v v') (b:Inn O v) (c:∀k,v'.ownBlock=some k->k<w'.heap.size):Inn (Nw O w w') v':=fun k a=>(h k a).imp (b k) (fun d=>⟨d,c k a⟩)
theorem OwnL.Cv {α:Type} {t:TypeId} {a:Nat} {p:List Value->α->Prop} {xs:List α} (h:OwnL w t a p v xs) (e:xs.length<=10000000):ReadL w t p v xs:=by
 obtain⟨b,c,d⟩:=h;exact⟨b,Row.BM c (by omega),Typed.BM c,d⟩
theorem tA {R:Nat->Prop} {l:List Ch} (h:OwnL w 199 6 (IsOp R w) v l) (g:l.length<=10000000):∃a d,v=.slice a l.length d/\l.length<=d/\d<=9223372036854775807 /\
  ∀(k:Nat) c,l[k]? = some c->∃b o e,a=some ⟨b,o,none⟩/\IsOp R w e c/\∀j u,e[j]? = some u->w.cell? ⟨b,o+k*6+j,none⟩=some u:=by
 obtain⟨a,d,i,n,t,p,q⟩:=lw 6 (fun c x r=>r.length.1) (by omega) (OwnL.Cv h g);exact⟨a,d,i,n,p,q⟩
variable {m:Fs}
theorem yo (a:OkM m) (k:Nat):((m.pend.take k).foldl ap m.sure).length<=m.time:=by
 have b:=jN m.sure (m.pend.take k);have c:=a.C9;have d:(m.pend.take k).length<=m.pend.length:=by simp;omega
 omega
theorem nK {O R:Nat->Prop} {p:Value} (r l:Int) (h:IsRef O R w p m) (G:OkM m) (ht:m.time<=8000000) (a8:I64 r) (a9:I64 l) :
  Calls Tryz.prog 108 #[p,.int .i64 r,.int .i64 l] w fun e w'=>e=.returned (.tuple #[])/\RefPost O R w p (cS m r l) w':=by
 have HH:Hid (IsRef O R w p m):=h;obtain⟨g,vn,vs,vp,vl,vu,rfl,hg,hO,hP⟩:=h;have dl:=G.Ca;obtain⟨sa,sc,rfl,-⟩:=bQ hP.sure;obtain⟨pa,pc,rfl,c8,c9,H⟩:=tA hP.pend (by omega);obtain⟨d0,d1,d2,d3,d4,d5,d6,d7,d8⟩:=ah hg;have HG:Hid _:=hg;have HP:Hid _:=hP;have X:Hid _:=H;have bx:Hid _:=G.Cu;have bS:Hid _:=yo G;have B:cS m r l=if m.down then m else { m with now:=di m r l,sure:=di m r l,pend:=[],down:=true }:=rfl
 unfold I64 at a8 a9
 cases z:m.down with
 | true =>
  have I:cS m r l=m:=by rw[B,z];rfl
  have a0:Hid _:=I;rw[z]at d7;clear hg hP H G B z I;go_enter Tryz.func108,Tryz.ntmps108;go_wp2;refine bodyPost_ret (results_none rfl _ _ _) rfl ?_;rw[a0.out];exact⟨rfl,RefPost.same HH.out (Ext.refl _)⟩
 | false =>
  obtain⟨N,hN⟩:∃N,dR m r=N:=⟨_,rfl⟩;have dn:N<=m.pend.length:=by rw[<-hN];unfold dR;omega
  have c':min (max r 0) (m.pend.length:Int)=(N:Int):=by rw[<-hN];unfold dR;omega
  have I:cS m r l={ m with now:=di m r l,sure:=di m r l,pend:=[],down:=true }:=by rw[B,z];rfl
  have a0:Hid _:=I;have a':di m r l=dL ((m.pend.take N).foldl ap m.sure) l m.pend[N]?:=by unfold di;rw[hN]
  have bb:Hid _:=a';rw[z]at d7;have dq:Hid _:=z;clear hg hP H G B z I a' hN;go_enter Tryz.func108,Tryz.ntmps108;go_wp2;go_loopw [6,8] (fun lv i wr=>∃k:Nat,k<=N/\i=.int .i64 k/\bG R wr lv ((m.pend.take k).foldl ap m.sure)/\NewOr w (.slice sa m.sure.length sc) lv/\Ext w wr) (fun _ i _=>N - (intOf i).toNat)
  case atStart=>exact⟨0,Nat.zero_le _,rfl,HP.out.sure,fun k y=>.inl y,Ext.refl _⟩
  case round =>
   obtain⟨k,y,rfl,J,Y,t⟩:=hrel;have S:Hid _:=J;have HN:Hid _:=Y;have HX:Hid _:=t;have b0:=bS.out k;replace d3:=t.cell d3;clear J Y
   by_cases ds:k<N
   .obtain ⟨c,hc⟩:∃c,m.pend[k]? = some c:=⟨_,List.getElem?_eq_getElem (by omega)⟩;obtain⟨b,o,cs,rfl,A,a⟩:=X.out k c hc;obtain⟨kd,cp,cq,cm,ct,ca,cn,da,rfl,-⟩:=A.shape;have Z:=t.cell (a 0 _ rfl);have x1:=t.cell (a 1 _ rfl);have x2:=t.cell (a 2 _ rfl);have x3:=t.cell (a 3 _ rfl);have x4:=t.cell (a 4 _ rfl);have x5:=t.cell (a 5 _ rfl);simp only[Nat.add_zero]at Z;have b1:Hid _:=A;have HC:Hid _:=hc;obtain⟨ra,rc,rfl,-⟩:=bQ S.out;clear a A hc d0 d1 d2 d4 d5 d6 d7 d8
    go_wp2_with (go_at_call 162;go_must (refine(lz S.out (by omega) (IsOp.ext b1.out HX.out)).mono ?_;rintro e w4 ⟨⟨v4,rfl,E,T⟩,U⟩))
    go_roundw
    case rel =>
     refine⟨k+1,by omega,by go_num,by rw[o6 HC.out];exact E,fun j hj=>?_,t.trans U⟩;rcases T j hj with h1 | h1
     .exact HN.out j h1
     .exact .inr (Nat.le_trans t.size h1)
    case measure=>simp[intOf];omega
   .have b2:k=N:=by omega
    subst b2;obtain⟨ra,rc,rfl,-⟩:=bQ S.out;obtain⟨L,hL⟩:∃L,(m.pend.take k).foldl ap m.sure=L:=⟨_,rfl⟩;rw[hL]at S HN bb b0 ⊢;clear hL
    by_cases b3:k<m.pend.length
    case' neg =>
     have b4:¬(k:Int)<(m.pend.length:Int):=by omega
     have FA:Hid (dL L l m.pend[k]? = L):=by
      have:m.pend[k]? = none:=List.getElem?_eq_none (by omega);unfold Hid;rw[this];rfl
     obtain⟨F,rfl⟩:∃F,F=L:=⟨_,rfl⟩;obtain⟨u,rfl⟩:∃u,u=ra:=⟨_,rfl⟩;obtain⟨x,rfl⟩:∃x,x=rc:=⟨_,rfl⟩;have FR:Hid (bG (Nw R w wr) wr (.slice u F.length x) F):=ReadL.B7 S.out (fun k y=>.inl y);have FN:Hid (NewOr w (.slice sa m.sure.length sc) (.slice u F.length x)):=HN.out;have FX:Hid (Ext w wr):=HX.out;have FL:Hid (F.length<=9000000):=by unfold Hid;omega
     clear t d0 d1 d2 d4 d5 d6 d7 d8
    case' pos =>
     have b4:(k:Int)<(m.pend.length:Int):=by omega
     obtain⟨c,hc⟩:∃c,m.pend[k]? = some c:=⟨_,List.getElem?_eq_getElem b3⟩;obtain⟨b,o,cs,b5,A,a⟩:=X.out k c hc;rw[b5]at d3;have HC:Hid _:=hc;cases c
     case' mv s d =>
      obtain⟨h1,h2,rfl⟩:=A;have Z:=t.cell (a 0 _ rfl);simp only[Nat.add_zero]at Z;have FA:Hid (dL L l m.pend[k]? = L):=by unfold Hid;rw[HC.out];rfl
      obtain⟨F,rfl⟩:∃F,F=L:=⟨_,rfl⟩;obtain⟨u,rfl⟩:∃u,u=ra:=⟨_,rfl⟩;obtain⟨x,rfl⟩:∃x,x=rc:=⟨_,rfl⟩;have FR:Hid (bG (Nw R w wr) wr (.slice u F.length x) F):=ReadL.B7 S.out (fun k y=>.inl y);have FN:Hid (NewOr w (.slice sa m.sure.length sc) (.slice u F.length x)):=HN.out;have FX:Hid (Ext w wr):=HX.out;have FL:Hid (F.length<=9000000):=by unfold Hid;omega
      clear t a d0 d1 d2 d4 d5 d6 d7 d8
     case' del q =>
      obtain⟨h1,rfl⟩:=A;have Z:=t.cell (a 0 _ rfl);simp only[Nat.add_zero]at Z;have FA:Hid (dL L l m.pend[k]? = L):=by unfold Hid;rw[HC.out];rfl
      obtain⟨F,rfl⟩:∃F,F=L:=⟨_,rfl⟩;obtain⟨u,rfl⟩:∃u,u=ra:=⟨_,rfl⟩;obtain⟨x,rfl⟩:∃x,x=rc:=⟨_,rfl⟩;have FR:Hid (bG (Nw R w wr) wr (.slice u F.length x) F):=ReadL.B7 S.out (fun k y=>.inl y);have FN:Hid (NewOr w (.slice sa m.sure.length sc) (.slice u F.length x)):=HN.out;have FX:Hid (Ext w wr):=HX.out;have FL:Hid (F.length<=9000000):=by unfold Hid;omega
      clear t a d0 d1 d2 d4 d5 d6 d7 d8
     case' put q f =>
      obtain⟨b6,v,rfl,hd⟩:=A;obtain⟨ca,cc,rfl,-⟩:=id hd.bytes;have Z:=t.cell (a 0 _ rfl);have x1:=t.cell (a 1 _ rfl);have x2:=t.cell (a 2 _ rfl);have x3:=t.cell (a 3 _ rfl);have x4:=t.cell (a 4 _ rfl);have x5:=t.cell (a 5 _ rfl);simp only[Nat.add_zero]at Z;have HD:Hid _:=IsData.ext hd t;have dc:f.data.length<=20000:=(bx.out _ (List.mem_of_getElem? HC.out)).2;clear a hd hc
      by_cases K:0<=l/\l<(f.data.length:Int)
      case' pos =>
       obtain⟨a1,bd⟩:=K;obtain⟨n,rfl⟩:∃n:Nat,l=n:=⟨l.toNat,by omega⟩;have d9:n<f.data.length:=by omega
       have b7:((n:Int)).toNat=n:=by omega
       have a2:=HD.out.takeN (n:=n) (by omega);obtain⟨d',ef,bh,dk,-⟩:=id HD.out.bytes;simp only[Value.slice.injEq,true_and]at bh;obtain⟨rfl,rfl⟩:=bh;have eg:(n:Int)<=(cc:Int):=by omega
       have M:(f.data.take n).length=n:=by rw[List.length_take];omega
       have a3:dL L n m.pend[k]? = ap L (.put q { f with data:=f.data.take n }):=by
        rw[HC.out];exact(if_pos ⟨a1,bd⟩).trans (by rw[b7])
       obtain⟨C,bk⟩:∃C,f.data.take n=C:=⟨_,rfl⟩;rw[bk]at a2 M a3;have b8:Hid _:=a2;have FA:Hid _:=a3;have eh:Hid _:=M;have b':=dS L (.put q { f with data:=C });clear a2 M a3 bk t;go_upto_region 9 with fail;obtain⟨wx,V⟩:∃wx,wx=wr.alloc (.cells #[.int .i64 1,S8 [],S8 q,.int .i64 f.mode,.slice ca f.data.length cc,.int .i64 f.time] 199):=⟨_,rfl⟩;have cb:Hid _:=V;have W:Ext wr wx:=by rw[V];exact(Ext.refl _).alloc _
       have a4:wx.heap[wr.heap.size]? = some (.cells #[.int .i64 1,S8 [],S8 q,.int .i64 f.mode,.slice ca f.data.length cc,.int .i64 f.time] 199 (0,0)):=by rw[V];exact ab _ _
       have ad:IsBytes wx (.slice ca n cc) C:=IsBytes.ext b8.out W;have ce:Hid _:=ad;obtain⟨y0,y1,y2,y3,y4,y5⟩:=cj a4;clear V ad Z x1 x2 x3 x4 x5;rw[show wr.alloc (.cells #[.int .i64 1,S8 [],S8 q,.int .i64 f.mode,.slice ca f.data.length cc,.int .i64 f.time] 199)=wx from cb.out.symm];go_wp2_with fail;go_at_call 29;refine(hZ _ C _ ce.out).mono ?_;rintro e w2 ⟨⟨v2,rfl,a5⟩,a6⟩;obtain⟨ea,ec,rfl,-⟩:=id a5.bytes;have cl:Hid _:=a5;have P:=a6.row a4;have au:=W.trans a6;clear a5 y0 y1 y2 y3 y4 y5 a4
       go_wp2_with (refine af rfl 37 (.tmp 90) (.tmp 88) rfl wr.heap.size 4 rfl (.slice ea C.length ec) rfl rfl _ _ P (Nat.le_of_ble_eq_true rfl) fg #[.int .i64 1,S8 [],S8 q,.int .i64 f.mode,.slice ea C.length ec,.int .i64 f.time] (by simp) ?_;intro w3 bl D;have Q:Ext wr w3:=Ext.but au D (Nat.le_refl _);obtain⟨y0,y1,y2,y3,y4,y5⟩:=cj bl)
       have bo:IsData (Nw R w w3) w3 (.slice ea C.length ec) C:=by
        have hu:¬IsU8 w2 wr.heap.size:=ao P (by kernel_rfl);have h9:IsData (Nw R w w3) w2 (.slice ea C.length ec) C:=cl.out.mono (fun k y=>.inr ⟨by have:=y.1;have:=W.size;have:=Below.size HX.out;omega,by have:=y.2;have:=D.size;omega⟩);exact h9.BQ (dG D hu)
       have co:Hid _:=bo;have cu:Hid (bG (Nw R w w3) w3 (.slice ra L.length rc) L):=ReadL.B7 (ReadL.BV S.out Q) (fun k y=>.inl y);have bq:Hid _:=Ext.trans HX.out Q;clear bo P W a6 au;go_wp2_with fail;go_at_call 162;refine(lz (cs:=[.int .i64 1,S8 [],S8 q,.int .i64 f.mode,.slice ea C.length ec,.int .i64 f.time]) (c:=.put q { f with data:=C }) cu.out (by omega) ⟨b6,_,rfl,co.out⟩).mono ?_;rintro e wf ⟨⟨v4,rfl,E,T⟩,U⟩;obtain⟨F,hF⟩:∃F,ap L (.put q { f with data:=C })=F:=⟨_,rfl⟩;rw[hF]at E FA b';obtain⟨u,x,rfl,-⟩:=bQ E;have FR:Hid (bG (Nw R w wf) wf (.slice u F.length x) F):=ReadL.B7 E (fun k y=>y.fst U.size);have FN:Hid (NewOr w (.slice sa m.sure.length sc) (.slice u F.length x)):=fun j hj=>by
        rcases T j hj with h1 | h1
        .exact HN.out j h1
        .exact .inr (by have:=Below.size bq.out;omega)
       have FX:Hid (Ext w wf):=Ext.trans bq.out U;have FL:Hid (F.length<=9000000):=by unfold Hid;omega
       clear E T hF Q bl D y0 y1 y2 y3 y4 y5
      case' neg =>
       have FA:Hid (dL L l m.pend[k]? = L):=by unfold Hid;rw[HC.out];exact if_neg K
       obtain⟨F,rfl⟩:∃F,F=L:=⟨_,rfl⟩;obtain⟨u,rfl⟩:∃u,u=ra:=⟨_,rfl⟩;obtain⟨x,rfl⟩:∃x,x=rc:=⟨_,rfl⟩;have FR:Hid (bG (Nw R w wr) wr (.slice u F.length x) F):=ReadL.B7 S.out (fun k y=>.inl y);have FN:Hid (NewOr w (.slice sa m.sure.length sc) (.slice u F.length x)):=HN.out;have FX:Hid (Ext w wr):=HX.out;have FL:Hid (F.length<=9000000):=by unfold Hid;omega
       clear t d0 d1 d2 d4 d5 d6 d7 d8
       by_cases a1:0<=l
       case' pos =>
        have bd:¬l<(f.data.length:Int):=fun h=>K ⟨a1,h⟩
        clear K
       case' neg=>clear K
    all_goals
     have a7:=Ext.row FX.out HG.out;obtain⟨z0,z1,z2,z3,z4,z5,z6,z7,z8⟩:=ah a7
     go_wp2_with (first
      | (refine af rfl 80 (.tmp 97) (.tmp 95) rfl g 1 rfl (.slice u F.length x) rfl rfl _ _ a7 (Nat.le_of_ble_eq_true rfl) lA (cf m.room (.slice u F.length x) (.slice sa m.sure.length sc) (.slice pa m.pend.length pc) vl m.calls m.time m.down vu) (by simp) ?_;intro w5 cv br;have P5:RefPost O R w (.pointer (some ⟨g,0,none⟩)) { m with now:=F } w5:=RefPost.store (m':={ m with now:=F }) (Fr.BO FX.out) (.inl hO) a7 (((HP.out.ext FX.out).mono (fun k y=>.inl y) (fun k y=>.inl y)).CW FR.out (FN.out.CK HP.out.os FR.out.lt)) br cv)
      | (go_at_call 159;go_must (refine(kD P5.fs (by have:=FL.out;simp only;omega)).mono ?_;rintro e w6 ⟨rfl,h6⟩;have P6:=P5.trans h6;obtain⟨g',cx,c0,c1,c2,c3,c4,bs,c5,c6⟩:=P6.fs;cases c4))
      | (refine af rfl 4 (.tmp 102) _ rfl g 7 rfl (.bool true) rfl rfl _ _ bs (Nat.le_of_ble_eq_true rfl) dW (cf m.room cx c0 c1 c2 m.calls m.time true c3) (by simp[settle]) ?_;intro w7 c7 bt))
     go_end0
     rw[a0.out,bb.out,FA.out];exact⟨rfl,RefPost.store (m':={ m with now:=F,sure:=F,pend:=[],down:=true }) P6.fr c5 bs c6 bt c7⟩
end
section
open Go Go.RowKit
variable [Inhabited bc]
theorem tB:(Tryz.prog.info? 122).map (fun i=>(i.zero,i.size,i.bytes))=some (some (.agg #[.int .i64 0,.int .i64 0,.int .i64 0,.int .i64 0,.int .i64 0,S8 [],.slice none 0 0]),7,80):=by kernel_rfl
section
variable {ops:Array Oper} {rest:List Oper} {o:Oper} {a:Act} {Q:Exit->Act->World->Prop} {w:World}
theorem nL (q:o.guard=none) (s x:Operand) (B:o.op=.call { callee:=.builtin .append,args:=#[s,x],argTypes:=#[82,82] })
  (d:Nat) (v:Value) (n:Nat) (xs:List Value) (C:a.eval s=v) (i:w.ownsRow d 122 7 v n xs)
  (g c:Nat) (b:List Value) (D:a.eval x=.slice (some ⟨g,0,none⟩) 1 c) (E:b.length=7) {fr:Nat×Nat} (F:w.heap[g]? = some (.cells b.toArray 122 fr)) (r:b.all (·.oneCell')=true)
  (K:n<=100000000) (e:d<=w.heap.size)
  (h:∀j l,l.ownsRow d 122 7 j (n+1) (xs++b)->w.grownBy l v.ownBlock->(∀k,j.ownBlock=some k->v.ownBlock=some k\/w.heap.size<=k)->wpList Tryz.prog ops Q rest (a.put o.dst j) l):wpList Tryz.prog ops Q (o::rest) a w:=by
 obtain⟨G,H,t,y,z⟩:=info_parts tB;exact wpList_append_own_at w q s x _ B d _ G _ 7 80 Tryz.underlying82 H t y z rfl (by omega) v n xs C i ⟨g,0,none⟩ 1 c b D (by simpa using E) (by simpa using cP F) (fun u I=>List.all_eq_true.1 r u I) (by unfold maxLen;omega) (by omega) e
  (fun j l r J _ p=>h j l r J (fun k A=>by
   rcases p with p | p
   .exact .inl (p.symm.trans A)
   .rw [p]at A;simp only[Option.some.injEq]at A;exact .inr (by omega)))
end
variable {w:World}
theorem mr {O R:Nat->Prop} {p y j F:World} {m1:Fs} {g:Nat} {S vs T U E n:Value} {z:Array Value} {A:List (List Value)} {c:List Value} {e:Ev} (B:Fr O w p) (G:Nw O w p g)
  (H:RParts (Nw O w p) (Nw R w p) p S vs T U E m1.now m1.sure m1.pend m1.plan m1.users) (q:Ext p y) (o:j.ownsRow 0 122 7 n (m1.users.length+1) (A.flatten++c)) (t:Each (IsEvR (Nw R w p) p) A m1.users)
  (d:y.grownBy j E.ownBlock) (r:∀k,n.ownBlock=some k->E.ownBlock=some k\/y.heap.size<=k) (W:IsEvR (fun k=>p.heap.size<=k) y c e) (I:j.heap[g]? = some (.cells z 84 (0,0))) (C:j.grownBy F (some g))
  (J:F.heap[g]? = some (.cells (cf m1.room S vs T U m1.calls m1.time m1.down n) 84 (0,0))):RefPost O R w (.pointer (some ⟨g,0,none⟩)) { m1 with users:=m1.users++[e] } F:=by
 have l:=H.ext q;have X:=q.size;have Y:=d.size;have Z:=B.size;have u:∀k,E.ownBlock=some k->¬IsU8 y k:=fun k i=>by
  obtain⟨ad,au,K⟩:=l.users.typed k i;exact ao K (by kernel_rfl)
 have L:∀(R:Nat->Prop),KeepR R p j:=fun R=>by
  have a:=KeepR.BS (R:=R) (KeepB.BO q);have b:KeepR R y j:=cg d u;exact KeepR.trans a b
 have M:∀k,n.ownBlock=some k->k<j.heap.size:=fun k i=>(o.lt k i).2
 have N:IsEvR (Nw R w j) j c e:=((W.bound).mono (R':=Nw R w j) (fun k i=>.inr ⟨by omega,by omega⟩)).BQ (cg d u);have P:OwnL j 122 7 (IsEvR (Nw R w j) j) n (m1.users++[e]) :=
  OwnL.app t o (fun c x hx=>(hx.BQ (L _)).mono (fun k i=>i.fst (by omega))) N
 have Q:=(l.mono (O':=Nw O w j) (R':=Nw R w j) (fun k i=>i.fst (by omega)) (fun k i=>i.fst (by omega))).Cx d P (fun k i=>by
  rcases r k i with D | D
  .exact (l.ou k D).fst (by omega)
  .exact .inr ⟨by omega,M k i⟩) (fun k i V=>by
  rcases r k i with D | D
  .exact l.off k D V
  .have:=l.plan.lt k V;omega)
 refine RefPost.store (m':={ m1 with users:=m1.users++[e] }) ((B.ext q).step d (fun k i=>by rcases l.ou k i with h | h;exact .inl h;exact .inr h.1) u) (G.fst (by omega)) I Q C J
theorem uj {m:Fs} {path:B8} {mode:Int} {data:B8} {only a:Bool} {b:Int}:(bw m path mode data only a b).1.now.length<=m.now.length+1/\(bw m path mode data only a b).1.users=m.users/\(bw m path mode data only a b).1.calls=m.calls:=by
 unfold bw bj;split
 .exact ⟨Nat.le_succ _,rfl,rfl⟩
 .split
  .exact ⟨Nat.le_succ _,rfl,rfl⟩
  .split
   .exact ⟨Nat.le_succ _,rfl,rfl⟩
   .split
    .exact ⟨Nat.le_succ _,rfl,rfl⟩
    .exact ⟨show(ap m.now ((Ch.put path ⟨mode,data,0⟩).at (m.time+1))).length<=m.now.length+1 from dS _ _,rfl,rfl⟩
variable {m:Fs}
theorem rZ (c:OkM m) (d:m.time<=9000000) (path:B8) (mode:Int) (data:B8):aM m path mode data=if m.down then(m,12)else if(bw m path mode data false false 1152921504606846976).2≠0 then bw m path mode data false false 1152921504606846976
  else({ settle (bw m path mode data false false 1152921504606846976).1 with users:=m.users++[⟨m.calls,4,mode,0,0,path,data⟩] },0):=by
 have h:=gg c d;unfold aM
 by_cases b:m.down=true
 .rw [if_pos b,if_pos b]
 .rw [if_neg b,if_neg b]
  by_cases a:bA path mode data≠0
  .have e:bw m path mode data false false 1152921504606846976=(m,bA path mode data):=by unfold bw;rw[if_pos a]
   rw[if_pos a,e,if_pos a]
  .have g:data.length<=20000:=by
    simp only[ne_eq,Decidable.not_not]at a;exact(fZ a).2.2.2
   have e:bw m path mode data false false 1152921504606846976=bj m path mode data true:=by
    unfold bw;rw[if_neg a,if_neg (by simp),decide_eq_true (by omega)];rfl
   rw[if_neg a,e]
variable {p:Value}
theorem j8 {O R:Nat->Prop} (path:B8) (mode:Int) (v:Value) (data:B8) (h:IsRef O R w p m) (r:OkM m) (ht:m.time<=7000000) (hp:path.length<=400) (hv:IsBytes w v data) (U:Out O w v) :
  Calls Tryz.prog 104 #[p,S8 path,.int .i64 mode,v] w fun e G=>e=.returned (.int .i64 (aM m path mode data).2)/\RefPost O R w p (aM m path mode data).1 G:=by
 have HH:Hid (IsRef O R w p m):=h;have HV:Hid _:=hv;have V:Hid _:=r;have hl:=r.BY;have cn:=r.B6;have H:=rZ r (by omega) path mode data;have t:Hid _:=H;obtain⟨a,c,rfl,-⟩:=hv.get;obtain⟨g,vn,vs,vp,vl,vu,rfl,hg,hO,hP⟩:=h;obtain⟨d0,d1,d2,d3,d4,d5,d6,d7,d8⟩:=ah hg;clear hg hP H r hv
 cases n:m.down with
 | true =>
  have b:aM m path mode data=(m,12):=by rw[t.out,n];rfl
  have x:Hid _:=b;rw[n]at d7;clear b n;go_enter Tryz.func104,Tryz.ntmps104;go_wp2;go_ret;rw[x.out];exact⟨rfl,RefPost.same HH.out (Ext.refl _)⟩
 | false =>
  rw[n]at d7;have W:Hid _:=n;clear n;obtain⟨d,X,o⟩:∃d X,bw m path mode data false false 1152921504606846976=(d,X):=⟨_,_,rfl⟩;have Y:Hid _:=o;have i:=@uj _ m path mode data false false 1152921504606846976;rw[o]at i;simp only at i;have a8:Hid _:=i.2.1;have a9:Hid _:=i.2.2;have co:=i.1
  by_cases C:X=0
  .subst C;have b:aM m path mode data=({ settle d with users:=m.users++[⟨m.calls,4,mode,0,0,path,data⟩] },0):=by rw[t.out,W.out,o];simp
   have x:Hid _:=b;clear b o i;go_enter Tryz.func104,Tryz.ntmps104
   go_wp2_with (first
    | (go_at_call 140;go_must (refine(lV path mode _ data false false 1152921504606846976 HH.out V.out (by omega) hp HV.out (by omega) (by omega)).mono ?_;rw[Y.out];rintro e w3 ⟨rfl,y⟩;have D:Hid _:=y;clear y))
    | (go_at_call 159;go_must (refine(kD D.out.fs (by omega)).mono ?_;rintro e w4 ⟨rfl,Z⟩;have a':Hid _:=Z;clear Z)))
   have P4:=RefPost.trans D.out a'.out;have bb:Hid _:=P4;have bd:Hid _:=IsBytes.fr HV.out U P4.fr;obtain⟨g4,bh,bk,bl,bo,cp,bq,K,br,L⟩:=P4.fs;cases bq;obtain⟨b0,b1,b2,b3,b4,b5,b6,b7,b8⟩:=ah K;have E:(settle d).users=m.users:=a8.out;have ad:(settle d).calls=m.calls:=a9.out;rw[ad]at b5;obtain⟨cq,j,l⟩:=L.users;obtain⟨ua,uc,rfl,-⟩:=Row.BM j (by rw[E];omega);have au:Hid _:=L;have bs:Hid _:=l;have bt:Hid _:=K;have cs:(settle d).users.length<=10000000:=by rw[E];omega
   have bx:Hid _:=E;clear P4 L l K E ad d0 d1 d2 d3 d4 d5 d6 d7 d8 b0 b1 b2 b3 b4 b6 b7;apply cE 15 0 (.pointer (some ⟨g,0,none⟩)) [.pointer (some ⟨g,0,none⟩),_,_,_,_,_,_,_,_,_,_,_,undef,undef,undef] [none,none,none,none,none,none,none,none,none,none,none,none,some (fun u G=>IsData (fun k=>w4.heap.size<=k) G u data),some (fun u G=>∃A B,u=.agg #[.int .i64 m.calls,.int .i64 4,.int .i64 mode,.int .i64 0,.int .i64 0,S8 path,.slice A data.length B]/\IsData (fun k=>w4.heap.size<=k) G (.slice A data.length B) data),some (fun u G=>∃k A B,u=.slice (some ⟨k,0,none⟩) 1 1/\G.heap[k]? = some (.cells #[.int .i64 m.calls,.int .i64 4,.int .i64 mode,.int .i64 0,.int .i64 0,S8 path,.slice A data.length B] 122 (0,0))/\IsData (fun k=>w4.heap.size<=k) G (.slice A data.length B) data)] [[],[],[1],[2],[3],[],[5],[6],[7],[],[],[],[11],[8,9,10,12],[13]] (by kernel_rfl) (by kernel_rfl) (by simp[ak])
   .refine ⟨?_,?_,?_,trivial⟩
    .exact fun _ _ _ T hu=>hu.ext T
    .exact fun _ _ _ T ⟨A,B,h1,h2⟩=>⟨A,B,h1,h2.ext T⟩
    .exact fun _ _ _ T ⟨k,A,B,h1,h3,h4⟩=>⟨k,A,B,h1,T.row h3,h4.ext T⟩
   .exact ⟨_,rfl,rfl,fun w=>by go_simp⟩
   .exact fun _=>rfl
   .simp (maxSteps:=1000000)only[List.take_succ_cons,List.take_zero,aw,aA,aa,Act.put,List.setIfInBounds_toArray,List.set_cons_zero,List.set_cons_succ,aK,aO,ak,List.getD_cons_zero,List.getD_cons_succ,and_true,true_and,forall_const];and_intros
    iterate 12 · intro M wq N;intros;rename_i P;have f8:=N.cell b8;have f5:=N.cell b5;go_simp;exact P _ _ (Ext.refl _) rfl
    .intro M wq N q R P;go_simp;exact(hZ _ data _ (IsBytes.ext bd.out N)).mono (by rintro e' w7 ⟨⟨u,rfl,hu⟩,h2⟩;exact⟨_,rfl,P _ _ h2 (hu.mono (fun k q=>Nat.le_trans N.size q.1))⟩)
    .intro M wq N q R P;obtain⟨ct,cu,cv,a0⟩:=q;obtain⟨qa,qc,bS,-⟩:=id a0.bytes;go_simp;exact P _ _ (Ext.refl _) ⟨_,_,rfl,bS▸a0⟩
    .intro M wq N q R P;obtain⟨A,B,cx,b'⟩:=q;go_simp;exact P _ _ ((Ext.refl _).alloc _) ⟨_,_,_,rfl,ab _ _,b'.ext ((Ext.refl _).alloc _)⟩
   intro M w6 F q;simp only[aP,Nat.zero_add,Nat.reduceAdd,and_true]at q;have c0:=q.2.2.2.2.2.2.2.2.2.2.2.2.1;have c1:=q.2.2.2.2.2.2.2.2.2.2.2.2.2.1;have ca:=q.2.2.2.2.2.2.2.2.2.2.2.2.2.2;simp(maxSteps:=1000000)only[List.take_succ_cons,List.take_zero,List.drop_succ_cons,List.drop_zero,aa,Act.put,List.setIfInBounds_toArray,List.set_cons_zero,List.set_cons_succ,Nat.zero_add,Nat.reduceAdd,q];clear q;generalize M 12=c2 at *;generalize M 13=c3 at *;generalize M 14=c4 at *;obtain⟨k6,da,dc,rfl,cb,a1⟩:=ca;have Q:=al j F;have S:=Ext.row F bt.out;have cc:Hid _:=au.out.ext F;have ce:Hid _:=a1;clear j a1 b5 b8
   go_wp2_with (first
    | (at_builtin;go_must (refine nL rfl _ _ rfl 0 _ (settle d).users.length _ rfl Q k6 1 _ rfl rfl cb (by simp[Value.oneCell']) (by omega) (Nat.zero_le _) ?_;intro v7 w7 z I a2;obtain⟨a3,a4,rfl⟩:=dw z (by omega);have a5:w7.heap[g]? = _:=(I.block g (Array.getElem?_eq_some_iff.1 S).1 (fun cl=>by obtain⟨c5,c6,a6⟩:=cc.out.users.typed g cl.symm;rw[S]at a6;simp at a6)).trans S))
    | (refine af rfl 82 (.tmp 40) (.tmp 38) rfl g 8 rfl (.slice (some ⟨a3,0,none⟩) ((settle d).users.length+1) a4) rfl rfl _ _ a5 (Nat.le_of_ble_eq_true rfl) jC (cf (settle d).room bh bk bl bo (settle d).calls (settle d).time (settle d).down (.slice (some ⟨a3,0,none⟩) ((settle d).users.length+1) a4)) (by simp) ?_;intro w8 cm a7))
   refine NoP.intro ?_;go_wp2;go_ret;rw[x.out];refine⟨rfl,?_⟩;have J:=mr (m1:=settle d) (e:=⟨m.calls,4,mode,0,0,path,data⟩) bb.out.fr br au.out F z bs.out I a2 ⟨_,rfl,ce.out,show path.length<=10000000 by omega⟩ a5 a7 cm;rw[bx.out]at J;exact J
  .have b:aM m path mode data=(d,X):=by rw[t.out,W.out,o];simp[C]
   have x:Hid _:=b;have c7:(X==0)=false:=by simpa using C
   clear b o i C;go_enter Tryz.func104,Tryz.ntmps104
   go_wp2_with (go_at_call 140;go_must (refine(lV path mode _ data false false 1152921504606846976 HH.out V.out (by omega) hp HV.out (by omega) (by omega)).mono ?_;rw[Y.out];rintro e w3 ⟨rfl,y⟩;have D:Hid _:=y;clear y))
   go_ret;rw[x.out];exact⟨rfl,D.out⟩
theorem jD {O R:Nat->Prop} (path:B8) (h:IsRef O R w p m) (t:OkM m) (ht:m.time<=7000000) (hp:path.length<=400) :
  Calls Tryz.prog 106 #[p,S8 path] w fun e Y=>e=.returned (.int .i64 (aL m path).2)/\RefPost O R w p (aL m path).1 Y:=by
 have Z:Hid (IsRef O R w p m):=h;have I:Hid _:=t;have hl:=t.BY;have bo:=t.B6;have B:aL m path=if m.down then(m,12)else if(aD m path).2≠0 then aD m path
  else({ settle (aD m path).1 with users:=m.users++[⟨m.calls,5,0,0,0,path,[]⟩] },0):=rfl
 have n:Hid _:=B;obtain⟨g,vn,vs,vp,vl,vu,rfl,hg,hO,hP⟩:=h;obtain⟨d0,d1,d2,d3,d4,d5,d6,d7,d8⟩:=ah hg;clear hg hP B t
 cases j:m.down with
 | true =>
  have a:aL m path=(m,12):=by rw[n.out,j];rfl
  have o:Hid _:=a;rw[j]at d7;clear a j;go_enter Tryz.func106,Tryz.ntmps106;go_wp2;go_ret;rw[o.out];exact⟨rfl,RefPost.same Z.out (Ext.refl _)⟩
 | false =>
  rw[j]at d7;have J:Hid _:=j;clear j;obtain⟨b,K,l⟩:∃b K,aD m path=(b,K):=⟨_,_,rfl⟩;have L:Hid _:=l;have c:=@lf m path;rw[l]at c;simp only at c;have ad:Hid _:=c.2.1;have au:Hid _:=c.2.2;have bq:=c.1
  by_cases x:K=0
  .subst x;have a:aL m path=({ settle b with users:=m.users++[⟨m.calls,5,0,0,0,path,[]⟩] },0):=by rw[n.out,J.out,l];simp
   have o:Hid _:=a;clear a l c;go_enter Tryz.func106,Tryz.ntmps106
   go_wp2_with (first
    | (go_at_call 157;go_must (refine(mU path Z.out I.out (by omega) hp).mono ?_;rw[L.out];rintro e w3 ⟨rfl,q⟩;have y:Hid _:=q;clear q))
    | (go_at_call 159;go_must (refine(kD y.out.fs (by omega)).mono ?_;rintro e w4 ⟨rfl,M⟩;have a0:Hid _:=M;clear M)))
   have P4:=RefPost.trans y.out a0.out;have a1:Hid _:=P4;obtain⟨g4,a2,a3,a4,a5,br,a6,E,a7,F⟩:=P4.fs;cases a6;obtain⟨b0,b1,b2,b3,b4,b5,b6,b7,b8⟩:=ah E;have z:(settle b).users=m.users:=ad.out;have N:(settle b).calls=m.calls:=au.out;rw[N]at b5;obtain⟨bs,d,i⟩:=F.users;obtain⟨ua,uc,rfl,-⟩:=Row.BM d (by rw[z];omega);have P:Hid _:=F;have a8:Hid _:=i;have a9:Hid _:=E;have bt:(settle b).users.length<=10000000:=by rw[z];omega
   have a':Hid _:=z;clear P4 F i E z N d0 d1 d2 d3 d4 d5 d6 d7 d8 b0 b1 b2 b3 b4 b6 b7;apply cE 12 0 (.pointer (some ⟨g,0,none⟩)) [.pointer (some ⟨g,0,none⟩),_,_,_,_,_,_,_,_,_,.agg #[.int .i64 m.calls,.int .i64 5,.int .i64 0,.int .i64 0,.int .i64 0,S8 path,.slice none 0 0],undef] [none,none,none,none,none,none,none,none,none,none,none,some (fun u Y=>∃k,u=.slice (some ⟨k,0,none⟩) 1 1/\Y.heap[k]? = some (.cells #[.int .i64 m.calls,.int .i64 5,.int .i64 0,.int .i64 0,.int .i64 0,S8 path,.slice none 0 0] 122 (0,0)))] [[],[],[1],[2],[3],[],[5],[6],[7],[],[8,9],[10]] (by kernel_rfl) (by kernel_rfl) (by simp[ak])
   .refine ⟨?_,trivial⟩
    .exact fun _ _ _ he ⟨k,h1,h3⟩=>⟨k,h1,he.row h3⟩
   .exact ⟨_,rfl,rfl,fun w=>by go_simp⟩
   .exact fun _=>rfl
   .simp (maxSteps:=1000000)only[List.take_succ_cons,List.take_zero,aw,aA,aa,Act.put,List.setIfInBounds_toArray,List.set_cons_zero,List.set_cons_succ,aK,aO,ak,List.getD_cons_zero,List.getD_cons_succ,and_true,true_and,forall_const];and_intros
    iterate 11 · intro xs wq hq;intros;rename_i hR;have f8:=hq.cell b8;have f5:=hq.cell b5;go_simp;exact hR _ _ (Ext.refl _) rfl
    .intro xs wq hq Q R hR;go_simp;exact hR _ _ ((Ext.refl _).alloc _) ⟨_,rfl,ab _ _⟩
   intro xs w6 A Q;simp only[aP,Nat.zero_add,Nat.reduceAdd,and_true]at Q;have bb:=Q.2.2.2.2.2.2.2.2.2.2.2;simp(maxSteps:=1000000)only[List.take_succ_cons,List.take_zero,List.drop_succ_cons,List.drop_zero,aa,Act.put,List.setIfInBounds_toArray,List.set_cons_zero,List.set_cons_succ,Nat.zero_add,Nat.reduceAdd,Q];clear Q;generalize xs 11=bx at *;obtain⟨k6,rfl,bd⟩:=bb;have G:=al d A;have H:=Ext.row A a9.out;have bh:Hid _:=P.out.ext A;clear d b5 b8
   go_wp2_with (first
    | (at_builtin;go_must (refine nL rfl _ _ rfl 0 _ (settle b).users.length _ rfl G k6 1 _ rfl rfl bd (by simp[Value.oneCell']) (by omega) (Nat.zero_le _) ?_;intro v7 w7 r C S;obtain⟨T,U,rfl⟩:=dw r (by omega);have V:w7.heap[g]? = _:=(C.block g (Array.getElem?_eq_some_iff.1 H).1 (fun bk=>by obtain⟨bS,b',W⟩:=bh.out.users.typed g bk.symm;rw[H]at W;simp at W)).trans H))
    | (refine af rfl 82 (.tmp 31) (.tmp 29) rfl g 8 rfl (.slice (some ⟨T,0,none⟩) ((settle b).users.length+1) U) rfl rfl _ _ V (Nat.le_of_ble_eq_true rfl) jC (cf (settle b).room a2 a3 a4 a5 (settle b).calls (settle b).time (settle b).down (.slice (some ⟨T,0,none⟩) ((settle b).users.length+1) U)) (by simp) ?_;intro w8 bl X))
   refine NoP.intro ?_;go_wp2;go_ret;rw[o.out];refine⟨rfl,?_⟩;have D:=mr (m1:=settle b) (e:=⟨m.calls,5,0,0,0,path,[]⟩) a1.out.fr a7 P.out A r a8.out C S ⟨_,rfl,IsData.nil _ _,show path.length<=10000000 by omega⟩ V X bl;rw[a'.out]at D;exact D
  .have a:aL m path=(b,K):=by rw[n.out,J.out,l];simp[x]
   have o:Hid _:=a;have ca:(K==0)=false:=by simpa using x
   clear a l c x;go_enter Tryz.func106,Tryz.ntmps106
   go_wp2_with (go_at_call 157;go_must (refine(mU path Z.out I.out (by omega) hp).mono ?_;rw[L.out];rintro e w3 ⟨rfl,q⟩;have y:Hid _:=q;clear q))
   go_ret;rw[o.out];exact⟨rfl,y.out⟩
end
end Go.Proofs.YtfabjgfmiaammaaGreatDoor
