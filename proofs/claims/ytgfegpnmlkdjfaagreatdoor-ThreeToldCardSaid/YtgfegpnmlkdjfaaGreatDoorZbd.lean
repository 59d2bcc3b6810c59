/- Contracts of the program's functions and plain laws behind the card. Conditions: as each theorem states. -/
import Derived.Test.YtgfegpnmlkdjfaaGreatDoorZba
import Derived.Test.YtgfegpnmlkdjfaaGreatDoorZab
import Derived.Test.YtgfegpnmlkdjfaaGreatDoorZav
set_option linter.unusedVariables false
set_option linter.unusedSimpArgs false
set_option linter.unusedSectionVars false
set_option maxRecDepth 100000
set_option maxHeartbeats 64000000
namespace Go.Proofs.YtgfegpnmlkdjfaaGreatDoor
section
open Go Go.RowKit Go.Sort
theorem Ct:(Tryz.prog.info? 36).map (fun i=>(i.zero,i.size,i.bytes))=some (some (.agg #[S8 [],.int .i64 0]),2,24):=by kernel_rfl
theorem Bx:(Tryz.prog.info? 23).map (·.size)=some 1:=by kernel_rfl
theorem oL:(Tryz.prog.info? 29).map (·.size)=some 1:=by kernel_rfl
section
variable {ops:Array Oper} {rest:List Oper} {o:Oper} {a:Act} {Q:Exit->Act->World->Prop} {w:World}
theorem sN (k:o.guard=none) (s x:Operand) (C:o.op=.call { callee:=.builtin .append,args:=#[s,x],argTypes:=#[29,29] })
  (b:Nat) (v:Value) (n:Nat) (xs:List Value) (D:a.eval s=v) (e:w.ownsRow b 36 2 v n xs)
  (g c:Nat) (r:B8×Int) (E:a.eval x=.slice (some ⟨g,0,none⟩) 1 c) {fr:Nat×Nat} (A:w.heap[g]? = some (.cells #[S8 r.1,.int .i64 r.2] 36 fr))
  (G:n<=10000000) (d:b<=w.heap.size)
  (h:∀j i,i.ownsRow b 36 2 j (n+1) (xs++ntC r)->w.grownBy i v.ownBlock->wpList Tryz.prog ops Q rest (a.put o.dst j) i):wpList Tryz.prog ops Q (o::rest) a w:=by
 obtain⟨F,B,l,p,q⟩:=info_parts Ct;exact wpList_append_own_at w k s x _ C b _ F _ 2 24 Tryz.underlying29 B l p q rfl (by omega) v n xs D e ⟨g,0,none⟩ 1 c (ntC r) E rfl (by simpa [ntC]using bW A) (fun u t=>by simp[ntC]at t;rcases t with rfl | rfl <;> rfl) (by unfold maxLen;omega) (by omega) d
  (fun j i y z _ _=>h j i y z)
end
variable {w:World} {base size n:Nat} {e:TypeId} {v:Value} {xs:List Value}
theorem bO (h:w.ownsRow base e size v n xs):∀k,v.ownBlock=some k->base<=k/\∃a,w.heap[k]? = some (.cells a e (0,0)):=by
 intro k b;rcases h.2 with⟨c,-⟩ | ⟨j,i,a,c,d,g,l⟩
 .rw [c]at b;cases b
 .rw [c]at b;simp only[Value.ownBlock,Option.some.injEq]at b;subst b;exact⟨d,a,g⟩
variable {w':World} {k:Option Nat}
theorem cH (h:w.ownsRow base e size v n xs) (p:w.grownBy w' k) (r:∀q,k=some q->∀a,w.heap[q]?≠some (.cells a e (0,0))):w'.ownsRow base e size v n xs:=by
 refine⟨h.1,?_⟩;rcases h.2 with g | ⟨b,d,a,i,j,c,l⟩
 .exact .inl g
 .refine .inr ⟨b,d,a,i,j,?_,l⟩;rw[p.block b (Array.getElem?_eq_some_iff.1 c).1 (fun o=>r b o.symm a c)];exact c
theorem gA {g:Nat} {cs:Array Value} {t:TypeId} (h:w.heap[g]? = some (.cells cs t (0,0))) (i:w.grownBy w' k) (j:∀q,k=some q->∃a,w.heap[q]? = some (.cells a e (0,0))) (c:t≠e):w'.heap[g]? = some (.cells cs t (0,0)):=by
 rw[i.block g (Array.getElem?_eq_some_iff.1 h).1 (fun d=>?_)]
 .exact h
 .obtain ⟨a,b⟩:=j g d.symm;rw[h]at b;simp only[Option.some.injEq,Obj.cells.injEq]at b;exact c b.2.1
theorem jo {V:Fi->Value} {b:Nat} {l:ae} (h:IsMG V w b l) (g:w.grownBy w' k) (i:∀q,k=some q->∃a,w.heap[q]? = some (.cells a e (0,0))):IsMG V w' b l:=by
 refine h.stay (g.block b h.lt (fun d=>?_));obtain⟨a,c⟩:=i b d.symm;obtain⟨p,o,j⟩:=h.kind;rw[j]at c;cases c
structure FrM (B:Nat) (w w':World):Prop where
 os:w'.os=w.os
 tape:w'.tape=w.tape
 output:w'.output=w.output
 size:w.heap.size<=w'.heap.size
 low:∀k,k<w.heap.size->k<B->w'.heap[k]? = w.heap[k]?
 str:∀(k:Nat) cs fr,w.heap[k]? = some (.cells cs 9 fr)->w'.heap[k]? = some (.cells cs 9 fr)
variable {B:Nat}
theorem FrM.GX (h:Ext w w'):FrM B w w':=⟨h.os,h.tape,h.output,h.size,fun k a _=>h.block k a,fun k b c a=>h.row a⟩
theorem FrM.trans {g j:World} (h:FrM B w g) (k:FrM B g j):FrM B w j :=
 ⟨k.os.trans h.os,k.tape.trans h.tape,k.output.trans h.output,Nat.le_trans h.size k.size,fun i a d=>(k.low i (Nat.lt_of_lt_of_le a h.size) d).trans (h.low i a d),fun i b c a=>k.str i b c (h.str i b c a)⟩
theorem FrM.G1 (a:w.grownBy w' k) (h:∀q,k=some q->B<=q) (l:∀q,k=some q->∀c d,w.heap[q]?≠some (.cells c 9 d)):FrM B w w' :=
 ⟨a.os,a.tape,a.output,a.size,fun i b j=>a.block i b (fun g=>by have:=h i g.symm;omega),fun i c d b=>by rw[a.block i (Array.getElem?_eq_some_iff.1 b).1 (fun g=>l i g.symm c d b)];exact b⟩
theorem FrM.ext {b:World} (h:Ext b w) (k:FrM B w w') (c:b.heap.size<=B):Ext b w' :=
 ⟨k.os.trans h.os,k.tape.trans h.tape,k.output.trans h.output,Nat.le_trans h.size k.size,fun i a=>(k.low i (Nat.lt_of_lt_of_le a h.size) (Nat.lt_of_lt_of_le a c)).trans (h.block i a)⟩
theorem FrM.strs {l:List B8} (h:FrM B w w') (i:IsStrs w v l) (g:∀k,v.ownBlock=some k->∃a b,w.heap[k]? = some (.cells a 9 b)):IsStrs w' v l :=
 Bs i (fun q d=>by obtain⟨a,b,c⟩:=g q d;rw[h.str q a b c,c])
section
variable {w w1 w2:World} {g B:Nat} {x:MB} {vc vn vc' vn':Value} {o a b:ae} {s:Mg}
theorem IsMer.Iz (h:IsMer w g B x vc vn o a b s) (c:w.grownBy w1 vc.ownBlock):w1.heap[g]? = some (.cells (mrC x vc vn) 63 (0,0)):=gA h.row c (fun q d=>(bO h.cp q d).2) (by decide)
theorem IsMer.Hn (h:IsMer w g B x vc vn o a b s) (c:w.grownBy w1 vn.ownBlock):w1.heap[g]? = some (.cells (mrC x vc vn) 63 (0,0)):=gA h.row c (fun q d=>(bO h.nt q d).2) (by decide)
theorem IsMer.IP (h:IsMer w g B x vc vn o a b s) (r:Rw) (j:w.grownBy w1 vc.ownBlock) (G:w1.ownsRow B 50 3 vc' (s.GV.length+1) (s.GV.flatMap rwC++rwC r)) (p:w1.grownBy w2 (some g)) (y:w2.heap[g]? = some (.cells (mrC x vc' vn) 63 (0,0))) :
  IsMer w2 g B x vc' vn o a b ⟨s.out,s.GV++[r],s.notes⟩/\FrM B w w2:=by
 have u:∀q,vc.ownBlock=some q->∃i,w.heap[q]? = some (.cells i 50 (0,0)):=fun q c=>(bO h.cp q c).2
 have t:=h.Iz j;have z:∀q,some g=some q->∃i,w1.heap[q]? = some (.cells i 63 (0,0)):=fun q c=>by cases c;exact⟨_,t⟩
 have A:∀ {V:Fi->Value} {k:Nat} {l:ae},IsMG V w k l->IsMG V w2 k l:=fun H=>jo (jo H j u) p z
 refine⟨⟨y,A h.mo,A h.ma,A h.mb,A h.G7,A h.mm,(h.Hk.keep (hZ j u (by kernel_rfl))).keep (hZ p z (by kernel_rfl)),?_,?_,h.lo,h.ne,h.G2,h.nm⟩,?_⟩
 .refine cH (by rw[List.length_append,List.flatMap_append];exact G) p (fun q c i d=>?_);cases c;rw[t]at d;simp at d
 .refine cH (cH h.nt j (fun q c i d=>?_)) p (fun q c i d=>?_)
  .obtain ⟨D,C⟩:=u q c;rw[C]at d;simp at d
  .cases c;rw[t]at d
   simp at d
 .refine (FrM.G1 j (fun q c=>(bO h.cp q c).1) (fun q c E F d=>?_)).trans (FrM.G1 p (fun q c=>by cases c;exact h.lo.1) (fun q c E F d=>?_))
  .obtain ⟨D,C⟩:=u q c;rw[C]at d;simp at d
  .cases c;rw[t]at d
   simp at d
theorem IsMer.Ie (h:IsMer w g B x vc vn o a b s) (r:B8×Int) (j:w.grownBy w1 vn.ownBlock) (G:w1.ownsRow B 36 2 vn' (s.notes.length+1) (s.notes.flatMap ntC++ntC r)) (p:w1.grownBy w2 (some g)) (y:w2.heap[g]? = some (.cells (mrC x vc vn') 63 (0,0))) :
  IsMer w2 g B x vc vn' o a b ⟨s.out,s.GV,s.notes++[r]⟩/\FrM B w w2:=by
 have u:∀q,vn.ownBlock=some q->∃i,w.heap[q]? = some (.cells i 36 (0,0)):=fun q c=>(bO h.nt q c).2
 have t:=h.Hn j;have z:∀q,some g=some q->∃i,w1.heap[q]? = some (.cells i 63 (0,0)):=fun q c=>by cases c;exact⟨_,t⟩
 have A:∀ {V:Fi->Value} {k:Nat} {l:ae},IsMG V w k l->IsMG V w2 k l:=fun H=>jo (jo H j u) p z
 refine⟨⟨y,A h.mo,A h.ma,A h.mb,A h.G7,A h.mm,(h.Hk.keep (hZ j u (by kernel_rfl))).keep (hZ p z (by kernel_rfl)),?_,?_,h.lo,h.ne,h.G2,h.nm⟩,?_⟩
 .refine cH (cH h.cp j (fun q c i d=>?_)) p (fun q c i d=>?_)
  .obtain ⟨D,C⟩:=u q c;rw[C]at d;simp at d
  .cases c;rw[t]at d
   simp at d
 .refine cH (by rw[List.length_append,List.flatMap_append];exact G) p (fun q c i d=>?_);cases c;rw[t]at d;simp at d
 .refine (FrM.G1 j (fun q c=>(bO h.nt q c).1) (fun q c E F d=>?_)).trans (FrM.G1 p (fun q c=>by cases c;exact h.lo.1) (fun q c E F d=>?_))
  .obtain ⟨D,C⟩:=u q c;rw[C]at d;simp at d
  .cases c;rw[t]at d
   simp at d
theorem IsMer.Hf (h:IsMer w g B x vc vn o a b s) (i:w.grownBy w1 (some x.G6)):FrM B w w1:=by
 refine FrM.G1 i (fun q c=>by cases c;exact h.lo.2) (fun q c l r d=>?_);cases c;obtain⟨p,k,j⟩:=h.G7.kind;rw[j]at d;cases d
end
end
section
open Go Go.RowKit Go.Sort
variable {w:World}
theorem qI {w':World} {k q:Nat} {cs:Array Value} {t:TypeId} {fr:Nat×Nat} (h:w.heap[k]? = some (.cells cs t fr)) (e:w.grownBy w' (some q)) (a:∃c b,w.heap[q]? = some (.map c b)):w'.heap[k]? = some (.cells cs t fr) :=
 bI e h (fun d=>by obtain⟨c,b,a⟩:=a;rw[d,a]at h;cases h)
theorem zW (w:World) (a b:Obj):((w.alloc a).alloc b).heap[w.heap.size]? = some a/\((w.alloc a).alloc b).heap[w.heap.size+1]? = some b:=by
 have d:Ext (w.alloc a) ((w.alloc a).alloc b):=(Ext.refl _).alloc _;have c:=ah (w.alloc a) b;rw[show(w.alloc a).heap.size=w.heap.size+1 from Array.size_push _]at c;exact⟨d.row (ah w a),c⟩
theorem nB {g B:Nat} {x:MB} {vc P:Value} {o a b:ae} {s:Mg} (p:B8) (S U:Int) (Q T:B8) (h:IsMer w g B x vc P o a b s) (hB:B<=w.heap.size) (hp:p.length<=100000) (ho:s.out.length<=1000000) (hc:s.GV.length<=1000000) (hn:s.notes.length<=1000000) :
  Calls Tryz.prog 66 #[.pointer (some ⟨g,0,none⟩),S8 p,.agg #[.int .i64 S,S8 Q],.agg #[.int .i64 U,S8 T]] w fun e w'=>e=.returned (.tuple #[])/\(∃bp bq,IsMer w' g B x bp bq o a b (dC s p (S,Q) (U,T)))/\FrM B w w':=by
 have H:Hid (IsMer w g B x vc P o a b s):=h;clear h;go_enter Tryz.func66,Tryz.ntmps66;go_upto_region 1 with fail;obtain⟨b0,b1⟩:=zW w (.cells #[.int .i64 S,S8 Q] 41) (.cells #[.int .i64 U,S8 T] 41);obtain⟨wa,M⟩:∃wa,wa=(w.alloc (.cells #[.int .i64 S,S8 Q] 41)).alloc (.cells #[.int .i64 U,S8 T] 41):=⟨_,rfl⟩;have a9:Hid (Ext w wa):=by rw[M];exact((Ext.refl _).alloc _).alloc _
 rw[<-M]at b0 b1 ⊢;have e0:=(cell_of_row _ _ 0 _ _ _ b0).trans rfl;have e1:=(cell_of_row _ _ 1 _ _ _ b0).trans rfl;have f0:=(cell_of_row _ _ 0 _ _ _ b1).trans rfl;have f1:=(cell_of_row _ _ 1 _ _ _ b1).trans rfl;clear M b0 b1;go_wp2_with fail;go_at_call 42;refine(jY S U Q T wa).mono ?_;obtain⟨⟨⟨F,E⟩,⟨y,t⟩⟩,J⟩:∃q,aN (S,Q) (U,T)=q:=⟨_,rfl⟩;rw[J];have a6:Hid _:=J;unfold iR;dsimp only;rintro e wb ⟨rfl,a1⟩;have a':Hid (Ext w wb):=a9.out.trans a1;clear a1 J e0 e1 f0 f1;go_upto_region 2 with fail;obtain⟨c0,c1⟩:=zW wb (.cells #[.int .i64 F,S8 E] 41) (.cells #[.int .i64 y,S8 t] 41);obtain⟨w3,L⟩:∃w3,w3=(wb.alloc (.cells #[.int .i64 F,S8 E] 41)).alloc (.cells #[.int .i64 y,S8 t] 41):=⟨_,rfl⟩;have aa:Hid (Ext w w3):=by rw[L];exact(a'.out.alloc _).alloc _
 rw[<-L]at c0 c1 ⊢;obtain⟨gs,au⟩:∃k,wb.heap.size=k:=⟨_,rfl⟩;rw[au]at c0 c1 ⊢;obtain⟨gl,ao⟩:∃k,gs+1=k:=⟨_,rfl⟩;rw[ao]at c1 ⊢;have a2:Hid _:=c1;have v0:=(cell_of_row _ _ 0 _ _ _ c0).trans rfl;have v1:=(cell_of_row _ _ 1 _ _ _ c0).trans rfl;have y4:=(H.out.ext aa.out).f4;clear L au ao c0 c1;apply ak 6 [.pointer (some ⟨g,0,none⟩),.pointer (some ⟨g,0,none⟩),.pointer (some ⟨g,4,none⟩),.map (some x.G6),S8 p,.agg #[.int .i64 F,S8 E]] [none,none,none,none,none,none] [[],[0],[1],[2],[],[]] (by kernel_rfl) (by kernel_rfl) (by simp[aq])
 .trivial
 .simp (maxSteps:=1000000)only[List.take_succ_cons,List.take_zero,ay,aB,af,Act.put,List.setIfInBounds_toArray,List.set_cons_zero,List.set_cons_succ,aE,aH,aq,List.getD_cons_zero,List.getD_cons_succ,and_true,true_and,forall_const];and_intros
  iterate 6 · intro xs wq D;intros;rename_i hR;have k0:=D.cell y4;have k1:=D.cell v0;have k2:=D.cell v1;go_simp;exact hR _ _ (Ext.refl _) rfl
 intro xs w4 N r;simp only[aG,Nat.zero_add,Nat.reduceAdd,and_true]at r;simp(maxSteps:=1000000)only[List.take_succ_cons,List.take_zero,List.drop_succ_cons,List.drop_zero,af,Act.put,List.setIfInBounds_toArray,List.set_cons_zero,List.set_cons_succ,Nat.zero_add,Nat.reduceAdd,r];clear r;have d:Hid (Ext w w4):=aa.out.trans N;have a7:Hid (IsMG bn w4 x.G6 s.out):=(H.out.ext d.out).G7;have a3:Hid _:=N.row a2.out;clear N y4 v0 v1;go_upto_region 3 with(refine kK 59 41 Tryz.underlying59 rfl _ _ _ rfl a7.out (by omega) rfl p (by omega) rfl ⟨F,E,0⟩ rfl ?_;intro w5 a0 n);have H5:Hid (IsMer w5 g B x vc P o a b ⟨aF s.out p ⟨F,E,0⟩,s.GV,s.notes⟩):=(H.out.ext d.out).Hg n a0 (H.out.G2.put _ _);have a4:Hid (FrM B w w5):=(FrM.GX d.out).trans ((H.out.ext d.out).Hf n);have I:=qI a3.out n (H.out.ext d.out).G7.kind;have u0:=(cell_of_row _ _ 0 _ _ _ I).trans rfl;have u1:=(cell_of_row _ _ 1 _ _ _ I).trans rfl;have y5:=H5.out.f5;clear a0 n I;apply kN 9 0 (.pointer (some ⟨g,0,none⟩)) [.pointer (some ⟨g,0,none⟩),.pointer (some ⟨g,0,none⟩),.pointer (some ⟨g,0,none⟩),.pointer (some ⟨g,5,none⟩),vc,S8 p,.agg #[.int .i64 y,S8 t],.agg #[S8 p,.int .i64 y,S8 t],undef] [none,none,none,none,none,none,none,none,some (fun u w'=>∃k,u=.slice (some ⟨k,0,none⟩) 1 1/\w'.heap[k]? = some (.cells #[S8 p,.int .i64 y,S8 t] 50 (0,0)))] [[],[],[1],[2],[3],[],[],[5,6],[7]] (by kernel_rfl) (by kernel_rfl) (by simp[aq])
 .refine ⟨?_,trivial⟩
  .exact fun _ _ _ he ⟨k,h1,h3⟩=>⟨k,h1,he.row h3⟩
 .exact ⟨_,rfl,rfl,fun w=>by go_simp⟩
 .exact fun _=>rfl
 .simp (maxSteps:=1000000)only[List.take_succ_cons,List.take_zero,ay,aB,af,Act.put,List.setIfInBounds_toArray,List.set_cons_zero,List.set_cons_succ,aE,aH,aq,List.getD_cons_zero,List.getD_cons_succ,and_true,true_and,forall_const];and_intros
  iterate 8 · intro xs wq D;intros;rename_i hR;have k0:=D.cell y5;have k1:=D.cell u0;have k2:=D.cell u1;go_simp;exact hR _ _ (Ext.refl _) rfl
  .intro xs wq D r R hR;go_simp;exact hR _ _ ((Ext.refl _).alloc _) ⟨_,rfl,ah _ _⟩
 intro xs w6 O r;simp only[aG,Nat.zero_add,Nat.reduceAdd,and_true]at r;have q8:=r.2.2.2.2.2.2.2.2;simp(maxSteps:=1000000)only[List.take_succ_cons,List.take_zero,List.drop_succ_cons,List.drop_zero,af,Act.put,List.setIfInBounds_toArray,List.set_cons_zero,List.set_cons_succ,Nat.zero_add,Nat.reduceAdd,r];clear r;generalize xs 8=x8 at *;obtain⟨k8,rfl,av⟩:=q8;have H6:Hid (IsMer w6 g B x vc P o a b ⟨aF s.out p ⟨F,E,0⟩,s.GV,s.notes⟩):=H5.out.ext O;have Y:Hid (FrM B w w6):=a4.out.trans (FrM.GX O);have bc:B<=w6.heap.size:=Nat.le_trans hB Y.out.size;clear O y5 u0 u1
 go_wp2_with (first | (at_builtin;go_must (refine yb rfl _ _ rfl B _ s.GV.length _ rfl H6.out.cp k8 1 ⟨p,y,t⟩ rfl av (by omega) bc ?_;intro v7 w7 c i _;obtain⟨V,W,rfl⟩:=iL c (by omega);have z:=H6.out.Iz i)) | (refine aP rfl 23 (.tmp 33) (.tmp 31) rfl g 5 rfl (.slice (some ⟨V,0,none⟩) (s.GV.length+1) W) rfl rfl _ _ z (Nat.le_of_ble_eq_true rfl) Bx (mrC x (.slice (some ⟨V,0,none⟩) (s.GV.length+1) W) P) (by simp[mrC]) ?_;intro G ad A))
 refine NoP.intro ?_;obtain⟨h8,f8⟩:=H6.out.IP ⟨p,y,t⟩ i c A ad;have H8:Hid (IsMer G g B x (.slice (some ⟨V,0,none⟩) (s.GV.length+1) W) P o a b ⟨aF s.out p ⟨F,E,0⟩,s.GV++[⟨p,y,t⟩],s.notes⟩):=h8;have Z:Hid (FrM B w G):=Y.out.trans f8;have bh:B<=G.heap.size:=Nat.le_trans hB Z.out.size;have y7:=h8.f7;have l:Ext G (G.alloc (.cells #[S8 p,.int .i64 1] 36)):=(Ext.refl _).alloc _;have bo:=(h8.ext l).nt;have X:Hid (IsMer (G.alloc (.cells #[S8 p,.int .i64 1] 36)) g B x (.slice (some ⟨V,0,none⟩) (s.GV.length+1) W) P o a b ⟨aF s.out p ⟨F,E,0⟩,s.GV++[⟨p,y,t⟩],s.notes⟩):=h8.ext l;have a5:Hid (FrM B w (G.alloc (.cells #[S8 p,.int .i64 1] 36))):=Z.out.trans (FrM.GX l);have bk:=Nat.le_trans bh l.size;clear h8 f8 c i A ad z av l
 go_wp2_with (first | (at_builtin;go_must (refine sN rfl _ _ rfl B _ s.notes.length _ rfl bo G.heap.size 1 (p,1) rfl (ah _ _) (by omega) bk ?_;intro v9 w9 j C;obtain⟨vb,ve,rfl⟩:=iL j (by omega);have ag:=X.out.Hn C)) | (refine aP rfl 29 (.tmp 44) (.tmp 42) rfl g 7 rfl (.slice (some ⟨vb,0,none⟩) (s.notes.length+1) ve) rfl rfl _ _ ag (Nat.le_of_ble_eq_true rfl) oL (mrC x (.slice (some ⟨V,0,none⟩) (s.GV.length+1) W) (.slice (some ⟨vb,0,none⟩) (s.notes.length+1) ve)) (by simp[mrC]) ?_;intro bs ab K))
 go_end0
 obtain⟨bb,ba⟩:=X.out.Ie (p,1) C j K ab;refine⟨rfl,⟨.slice (some ⟨V,0,none⟩) (s.GV.length+1) W,.slice (some ⟨vb,0,none⟩) (s.notes.length+1) ve,?_⟩,a5.out.trans ba⟩;unfold dC fiE;rw[a6.out];exact bb
end
section
open Go Go.RowKit Go.Sort
def p3 {α:Type} (a b c d:α):Nat->α
 | 0=>a
 | 1=>b
 | 2=>c
 | _=>d
theorem gz {α:Type} (v a b c d:α):∀j,p3 v b c d j=if j=0 then v else p3 a b c d j
 | 0=>rfl
 | 1=>rfl
 | 2=>rfl
 | _+3=>rfl
theorem ib {α:Type} (v a b c d:α):∀j,p3 a v c d j=if j=1 then v else p3 a b c d j
 | 0=>rfl
 | 1=>rfl
 | 2=>rfl
 | _+3=>rfl
theorem ie {α:Type} (v a b c d:α):∀j,p3 a b v d j=if j=2 then v else p3 a b c d j
 | 0=>rfl
 | 1=>rfl
 | 2=>rfl
 | _+3=>rfl
def EA:Array Value:=#[.int .i64 0,S8 []]
structure T3 (w0:World) (e:Nat->Array Value) (za zs:Nat->Option Value) (w:World):Prop where
 ext:Ext w0 w
 ord:∀i,zs i≠none->za i≠none
 fit:∀i v,za i=some v->∃g,v=.pointer (some ⟨g,0,none⟩)/\w0.heap.size<=g/\w.heap[g]? = some (.cells (if zs i=none then EA else e i) 41 (0,0))
 ne:∀i j g h,i≠j->za i=some (.pointer (some ⟨g,0,none⟩))->za j=some (.pointer (some ⟨h,0,none⟩))->g≠h
section
variable {w0 w w':World} {e:Nat->Array Value} {za zs:Nat->Option Value}
theorem T3.start (k:Ext w0 w) (a:∀i,za i=none) (d:∀i,zs i=none):T3 w0 e za zs w:=⟨k,fun i h=>absurd (d i) h,fun i v c=>(by rw[a]at c;cases c),fun i j g h _ b=>(by rw[a]at b;cases b)⟩
theorem T3.more (h:T3 w0 e za zs w) (d:Ext w w'):T3 w0 e za zs w' :=
 ⟨h.ext.trans d,h.ord,fun i v j=>by obtain⟨g,a,b,c⟩:=h.fit i v j;exact⟨g,a,b,d.row c⟩,h.ne⟩
theorem T3.G8 (h:T3 w0 e za zs w) (i:Nat) (G:za i=none) {t:Nat->Option Value} (l:∀j,t j=if j=i then some (.pointer (some ⟨w.heap.size,0,none⟩))else za j):T3 w0 e t zs (w.alloc (.cells #[.int .i64 0,S8 []] 41)):=by
 have k:=h.more ((Ext.refl w).alloc (.cells #[.int .i64 0,S8 []] 41));have F:zs i=none:=by
  cases E:zs i with
  | none=>rfl
  | some v=>exact absurd G (h.ord i (by rw[E];simp))
 have p:∀j v,za j=some v->∃g,v=.pointer (some ⟨g,0,none⟩)/\g<w.heap.size:=fun j v n=>by
  obtain⟨g,a,b,c⟩:=h.fit j v n;exact⟨g,a,(Array.getElem?_eq_some_iff.1 c).1⟩
 refine⟨k.ext,fun j D=>?_,fun j v n=>?_,fun j q g y r o d=>?_⟩
 .rw [l];split
  .simp
  .exact h.ord j D
 .rw [l]at n;split at n
  .rename_i x;subst x;cases n;exact⟨_,rfl,h.ext.size,by rw[if_pos F];exact ah _ _⟩
  .exact k.fit j v n
 .rw [l]at o d;split at o
  .split at d
   .rename_i A B;exact absurd (A.trans B.symm) r
   .obtain ⟨z,u,C⟩:=p q _ d
    cases o;cases u
    omega
  .split at d
   .obtain ⟨z,u,C⟩:=p j _ o
    cases d;cases u
    omega
   .exact h.ne j q g y r o d
theorem T3.G9 {v:Value} (h:T3 w0 e za zs w) (i:Nat) (o:za i=some v) (t:zs i=none):∃g,v=.pointer (some ⟨g,0,none⟩)/\w.heap[g]? = some (.cells #[.int .i64 0,S8 []] 41 (0,0))/\∀(u:Value) (zs':Nat->Option Value),(∀j,zs' j=if j=i then some u else zs j)->T3 w0 e za zs' (w.setRow g (e i)):=by
 obtain⟨g,rfl,r,p⟩:=h.fit i _ o;rw[if_pos t]at p;have l:=aw w g (e i);refine⟨g,rfl,p,fun u zs' n=>⟨Ext.but h.ext l r,fun j k=>?_,fun j v k=>?_,h.ne⟩⟩
 .rw [n]at k;split at k
  .rename_i d;subst d;rw[o];simp
  .exact h.ord j k
 .rw [n]
  by_cases d:j=i
  .subst d;rw[o]at k;cases k;exact⟨g,rfl,r,by rw[if_pos rfl,if_neg (by simp)];exact setRow_heap _ _ _ _ _ _ p⟩
  .obtain ⟨q,a,b,c⟩:=h.fit j v k;subst a;rw[if_neg d];exact⟨q,rfl,b,bI l c (h.ne j i q g d k o)⟩
end
theorem rA {w:World} {g B:Nat} {x:MB} {vc vn:Value} {o a b:ae} {s:Mg} (p:B8) (h:IsMer w g B x vc vn o a b s) (hB:B<=w.heap.size) (hp:p.length<=100000) (ho:s.out.length<=1000000) (hc:s.GV.length<=1000000) (hn:s.notes.length<=1000000) (n:(al (enL o p) (enL a p) (enL b p)).2≠3) :
  Calls Tryz.prog 45 #[.pointer (some ⟨g,0,none⟩),S8 p] w fun e w'=>e=.returned (.int .i64 0)/\(∃cf ci,IsMer w' g B x cf ci o a b (aU o a b s p))/\FrM B w w':=by
 have H:Hid (IsMer w g B x vc vn o a b s):=h;have L1:Hid (∀W,Ext w W->∀(m:ae) (k:Nat),IsMG bn W k m->(Instr.lookup 59 (.map (some k)) (S8 p) false).run Tryz.prog W=.ok (.agg #[.int .i64 (enL m p).1,S8 (enL m p).2]) W):=fun W hW m k hm=>by
  obtain⟨-,cb⟩:=hm.Hd 59 41 _ Tryz.underlying59 (oN W) p (by omega)
  rwa [lV]at cb
 obtain⟨⟨om,oi⟩,h1⟩:∃q,enL o p=q:=⟨_,rfl⟩;obtain⟨⟨I,G⟩,h2⟩:∃q,enL a p=q:=⟨_,rfl⟩;obtain⟨⟨K,J⟩,h3⟩:∃q,enL b p=q:=⟨_,rfl⟩;have HP:Hid (aU o a b s p=if(al (om,oi) (I,G) (K,J)).2=5 then dC s p (I,G) (K,J)
  else⟨if(al (om,oi) (I,G) (K,J)).1.1=0 then s.out else aF s.out p (fiE (al (om,oi) (I,G) (K,J)).1),s.GV,if(al (om,oi) (I,G) (K,J)).2=4 then s.notes++[(p,2)]else s.notes⟩):=by unfold Hid aU;rw[h1,h2,h3]
 rw[h1,h2,h3]at n;have HK:Hid _:=n;have LO:Hid (∀W,Ext w W->(Instr.lookup 59 (.map (some x.go)) (S8 p) false).run Tryz.prog W=.ok (.agg #[.int .i64 om,S8 oi]) W):=fun W hW=>by have:=L1.out W hW o x.go (H.out.mo.ext hW);rwa [h1]at this
 have LA:Hid (∀W,Ext w W->(Instr.lookup 59 (.map (some x.ga)) (S8 p) false).run Tryz.prog W=.ok (.agg #[.int .i64 I,S8 G]) W):=fun W hW=>by have:=L1.out W hW a x.ga (H.out.ma.ext hW);rwa [h2]at this
 have LB:Hid (∀W,Ext w W->(Instr.lookup 59 (.map (some x.gb)) (S8 p) false).run Tryz.prog W=.ok (.agg #[.int .i64 K,S8 J]) W):=fun W hW=>by have:=L1.out W hW b x.gb (H.out.mb.ext hW);rwa [h3]at this
 clear h n h1 h2 h3;go_enter Tryz.func45,Tryz.ntmps45;have y1:=H.out.f0;have y2:=H.out.f1;have y3:=H.out.f2;go_upto_region 1 with fail;apply bJ 24 (fun z w'=>T3 w (p3 #[.int .i64 om,S8 oi] #[.int .i64 I,S8 G] #[.int .i64 K,S8 J] #[]) (p3 (z 18) (z 19) (z 20) none) (p3 (z 21) (z 22) (z 23) none) w') [false,false,false,false,false,false,false,false,false,false,false,false,false,false,false,false,false,false,true,true,true,true,true,true] [.pointer (some ⟨g,0,none⟩),.pointer (some ⟨g,0,none⟩),.pointer (some ⟨g,1,none⟩),.map (some x.go),S8 p,.agg #[.int .i64 om,S8 oi],.pointer (some ⟨g,0,none⟩),.pointer (some ⟨g,0,none⟩),.pointer (some ⟨g,2,none⟩),.map (some x.ga),S8 p,.agg #[.int .i64 I,S8 G],.pointer (some ⟨g,0,none⟩),.pointer (some ⟨g,0,none⟩),.pointer (some ⟨g,3,none⟩),.map (some x.gb),S8 p,.agg #[.int .i64 K,S8 J],undef,undef,undef,undef,undef,undef] [none,none,none,none,none,none,none,none,none,none,none,none,none,none,none,none,none,none,none,none,none,none,none,none] [[],[0],[1],[2],[],[3,4],[],[6],[7],[8],[],[9,10],[],[12],[13],[14],[],[15,16],[],[],[],[5,18],[11,19],[17,20]] (by kernel_rfl) (by kernel_rfl) rfl
 .exact T3.start ⟨rfl,rfl,rfl,Nat.le_refl _,fun _ _=>rfl⟩ (fun i=>by match i with | 0=>rfl | 1=>rfl | 2=>rfl | _+3=>rfl) (fun i=>by match i with | 0=>rfl | 1=>rfl | 2=>rfl | _+3=>rfl)
 .simp (maxSteps:=1000000)only[fC,eR,dm,dM,eG,List.getD_cons_zero,List.getD_cons_succ,Bool.false_eq_true,if_false,if_true,and_true,true_and,forall_const,Nat.zero_add,Nat.reduceAdd,List.take_succ_cons,List.take_zero,af,Act.put,List.setIfInBounds_toArray,List.set_cons_zero,List.set_cons_succ];and_intros
  iterate 18 · intro D z wq d;intros;rename_i u;have k1:=d.ext.cell y1;have k2:=d.ext.cell y2;have k3:=d.ext.cell y3;have k4:=LO.out _ d.ext;have k5:=LA.out _ d.ext;have k6:=LB.out _ d.ext;go_simp;exact u _ _ d rfl
  .intro D z wq d P R u;go_simp;exact u _ _ (d.G8 0 P (gz _ _ _ _ _))
  .intro D z wq d P R u;go_simp;exact u _ _ (d.G8 1 P (ib _ _ _ _ _))
  .intro D z wq d P R u;go_simp;exact u _ _ (d.G8 2 P (ie _ _ _ _ _))
  .intro D z wq d P n R u;obtain⟨V,X⟩:=n;obtain⟨g,hg,c,U⟩:=d.G9 0 X P;apply bY 41 (.tmp 5) (.tmp 18) (g:=g) (cells:=#[.int .i64 om,S8 oi]) (old:=#[.int .i64 0,S8 []]) (t:=41)
   iterate 2
    .rfl
   .exact hg
   .exact V
   .exact c
   .exact aJ
   .rfl
   .simp [Value.oneCell']
   .exact u _ _ (U _ _ (gz _ _ _ _ _))
  .intro D z wq d P n R u;obtain⟨V,X⟩:=n;obtain⟨g,hg,c,U⟩:=d.G9 1 X P;apply bY 41 (.tmp 6) (.tmp 24) (g:=g) (cells:=#[.int .i64 I,S8 G]) (old:=#[.int .i64 0,S8 []]) (t:=41)
   iterate 2
    .rfl
   .exact hg
   .exact V
   .exact c
   .exact aJ
   .rfl
   .simp [Value.oneCell']
   .exact u _ _ (U _ _ (ib _ _ _ _ _))
  .intro D z wq d P n R u;obtain⟨V,X⟩:=n;obtain⟨g,hg,c,U⟩:=d.G9 2 X P;apply bY 41 (.tmp 7) (.tmp 30) (g:=g) (cells:=#[.int .i64 K,S8 J]) (old:=#[.int .i64 0,S8 []]) (t:=41)
   iterate 2
    .rfl
   .exact hg
   .exact V
   .exact c
   .exact aJ
   .rfl
   .simp [Value.oneCell']
   .exact u _ _ (U _ _ (ie _ _ _ _ _))
 intro D w2 O n;simp only[fE,List.getD_cons_zero,List.getD_cons_succ,Bool.false_eq_true,if_false,if_true]at O;simp only[df,Nat.zero_add,Nat.reduceAdd,and_true]at n;simp(maxSteps:=1000000)only[List.drop_succ_cons,List.drop_zero,Nat.zero_add,Nat.reduceAdd,List.take_succ_cons,List.take_zero,af,Act.put,List.setIfInBounds_toArray,List.set_cons_zero,List.set_cons_succ,n];clear n;generalize D 18=co at *;generalize D 19=cp at *;generalize D 20=cq at *;generalize D 21=cs at *;generalize D 22=cu at *;generalize D 23=cv at *;obtain⟨g5,e5,b8,h5⟩:=O.fit 0 _ rfl;obtain⟨g6,e6,b9,h6⟩:=O.fit 1 _ rfl;obtain⟨g7,e7,b',h7⟩:=O.fit 2 _ rfl;subst e5 e6 e7;rw[if_neg (by simp[p3])]at h5 h6 h7;have h5:w2.heap[g5]? = some (.cells #[.int .i64 om,S8 oi] 41 (0,0)):=h5;have h6:w2.heap[g6]? = some (.cells #[.int .i64 I,S8 G] 41 (0,0)):=h6;have h7:w2.heap[g7]? = some (.cells #[.int .i64 K,S8 J] 41 (0,0)):=h7;have b4:Hid (Ext w w2):=O.ext;have H6:Hid _:=h6;have H7:Hid _:=h7;have e0:=(cell_of_row _ _ 0 _ _ _ h5).trans rfl;have e1:=(cell_of_row _ _ 1 _ _ _ h5).trans rfl;have f0:=(cell_of_row _ _ 0 _ _ _ h6).trans rfl;have f1:=(cell_of_row _ _ 1 _ _ _ h6).trans rfl;have u0:=(cell_of_row _ _ 0 _ _ _ h7).trans rfl;have u1:=(cell_of_row _ _ 1 _ _ _ h7).trans rfl;clear O h5 h6 h7 b8 b9 b' y1 y2 y3;go_wp2_with fail;go_at_call 19;refine(oG om I K oi G J w2 HK.out).mono ?_;obtain⟨⟨⟨C,ki⟩,kk⟩,a5⟩:∃q,al (om,oi) (I,G) (K,J)=q:=⟨_,rfl⟩;rw[a5];rw[a5]at HP HK;dsimp only at HP HK;unfold iR;dsimp only;rintro e w3 ⟨rfl,ad⟩;have b5:Hid (Ext w w3):=b4.out.trans ad;have B6:Hid _:=ad.row H6.out;have B7:Hid _:=ad.row H7.out;have cl:(kk==3)=false:=by rw[beq_eq_false_iff_ne];exact HK.out
 clear a5 ad e0 e1 f0 f1 u0 u1;go_upto_region 3 with fail;obtain⟨Q,ab⟩:∃Q,Q=w3.alloc (.cells #[.int .i64 C,S8 ki] 41):=⟨_,rfl⟩;have ag:Ext w3 Q:=by rw[ab];exact(Ext.refl _).alloc _
 have a3:Q.heap[w3.heap.size]? = some (.cells #[.int .i64 C,S8 ki] 41 (0,0)):=by rw[ab];exact ah _ _
 have l:Hid (Ext w Q):=b5.out.trans ag;rw[<-ab];obtain⟨ge,bp⟩:∃k,w3.heap.size=k:=⟨_,rfl⟩;rw[bp]at a3 ⊢;have a7:Hid _:=a3;have b6:=ag.row B6.out;have b7:=ag.row B7.out;have f0:=(cell_of_row _ _ 0 _ _ _ b6).trans rfl;have f1:=(cell_of_row _ _ 1 _ _ _ b6).trans rfl;have u0:=(cell_of_row _ _ 0 _ _ _ b7).trans rfl;have u1:=(cell_of_row _ _ 1 _ _ _ b7).trans rfl;have bh:B<=Q.heap.size:=Nat.le_trans hB l.out.size;clear ab ag a3 bp b6 b7;obtain⟨z5,ce⟩:∃z,(kk==5)=z:=⟨_,rfl⟩;have bb:Hid (z5=true↔kk=5):=by unfold Hid;rw[<-ce];exact beq_iff_eq
 cases z5 with
 | true =>
  have b3:Hid (aU o a b s p=dC s p (I,G) (K,J)):=by unfold Hid;rw[HP.out,if_pos (bb.out.1 rfl)]
  go_wp2_with fail;go_at_call 66;refine(nB p I K G J (H.out.ext l.out) bh hp ho hc hn).mono ?_;rintro e w5 ⟨rfl,bs,bo⟩;have b1:Hid _:=bs;have bv:Hid _:=bo;clear bs bo;go_wp2;go_ret;rw[b3.out];exact⟨rfl,b1.out,(FrM.GX l.out).trans bv.out⟩
 | false =>
 have a':Hid (aU o a b s p=⟨if C=0 then s.out else aF s.out p (fiE (C,ki)),s.GV,if kk=4 then s.notes++[(p,2)]else s.notes⟩):=by
  unfold Hid;rw[HP.out,if_neg (fun h=>by have:=bb.out.2 h;cases this)]
 obtain⟨z4,cc⟩:∃z,(kk==4)=z:=⟨_,rfl⟩;have ba:Hid (z4=true↔kk=4):=by unfold Hid;rw[<-cc];exact beq_iff_eq
 clear f0 f1 u0 u1;cases z4
 case' true =>
  have y7:=(H.out.ext l.out).f7;have aa:Ext Q (Q.alloc (.cells #[S8 p,.int .i64 2] 36)):=(Ext.refl _).alloc _;have av:Hid (IsMer (Q.alloc (.cells #[S8 p,.int .i64 2] 36)) g B x vc vn o a b s):=H.out.ext (l.out.trans aa);have a4:=av.out.nt;have bk:=aa.row a7.out;have ca:=Nat.le_trans bh aa.size;have b0:Hid (FrM B w (Q.alloc (.cells #[S8 p,.int .i64 2] 36))):=FrM.GX (l.out.trans aa);clear aa;go_upto_region 17 with(first | (at_builtin;go_must (refine sN rfl _ _ rfl B _ s.notes.length _ rfl a4 Q.heap.size 1 (p,2) rfl (ah _ _) (by omega) ca ?_;intro v9 w9 A M;obtain⟨vb,ve,rfl⟩:=iL A (by omega);have T:=av.out.Hn M)) | (refine aP rfl 29 (.tmp 81) (.tmp 79) rfl g 7 rfl (.slice (some ⟨vb,0,none⟩) (s.notes.length+1) ve) rfl rfl _ _ T (Nat.le_of_ble_eq_true rfl) oL (mrC x vc (.slice (some ⟨vb,0,none⟩) (s.notes.length+1) ve)) (by simp[mrC]) ?_;intro j ao y));obtain⟨a2,bc⟩:=av.out.Ie (p,2) M A y ao;have L:j.heap[ge]? = some (.cells #[.int .i64 C,S8 ki] 41 (0,0)):=gA (gA bk M (fun q hq=>(bO a4 q hq).2) (by decide)) y (fun q hq=>by cases hq;exact⟨_,T⟩) (by decide);obtain⟨N,hN⟩:∃N,N=s.notes++[(p,2)]:=⟨_,rfl⟩;have a0:Hid (aU o a b s p=⟨if C=0 then s.out else aF s.out p (fiE (C,ki)),s.GV,N⟩):=by unfold Hid;rw[a'.out,if_pos (ba.out.1 rfl),hN]
  obtain⟨vq,Y⟩:∃vq,vq=Value.slice (some ⟨vb,0,none⟩) (s.notes.length+1) ve:=⟨_,rfl⟩;rw[<-Y,<-hN]at a2;have E:Hid (IsMer j g B x vc vq o a b ⟨s.out,s.GV,N⟩):=a2;have S:Hid (FrM B w j):=b0.out.trans bc;clear a2 bc A M y ao T a4 bk hN Y y7
 case' false =>
  go_upto_region 17 with fail;obtain⟨j,r⟩:∃j,j=Q:=⟨_,rfl⟩;obtain⟨N,hN⟩:∃N,N=s.notes:=⟨_,rfl⟩;obtain⟨vq,Y⟩:∃vq,vq=vn:=⟨_,rfl⟩;have L:j.heap[ge]? = some (.cells #[.int .i64 C,S8 ki] 41 (0,0)):=by rw[r];exact a7.out
  have a0:Hid (aU o a b s p=⟨if C=0 then s.out else aF s.out p (fiE (C,ki)),s.GV,N⟩):=by unfold Hid;rw[a'.out,if_neg (show ¬kk=4 from fun h=>by have:=ba.out.2 h;cases this),hN]
  have E:Hid (IsMer j g B x vc vq o a b ⟨s.out,s.GV,N⟩):=by rw[r,hN,Y];exact H.out.ext l.out
  have S:Hid (FrM B w j):=by rw[r];exact FrM.GX l.out
  rw[<-r];clear r hN Y
 all_goals
  have e0:=(cell_of_row _ _ 0 _ _ _ L).trans rfl;have e1:=(cell_of_row _ _ 1 _ _ _ L).trans rfl;have y4:=E.out.f4;obtain⟨z,P⟩:∃z,(C==0)=z:=⟨_,rfl⟩;have HZ:Hid (z=true↔C=0):=by unfold Hid;rw[<-P];exact beq_iff_eq
  clear L
  cases z with
  | true =>
   have a1:Hid (aU o a b s p=⟨s.out,s.GV,N⟩):=by unfold Hid;rw[a0.out,if_pos (HZ.out.1 rfl)]
   go_wp2;go_ret;rw[a1.out];exact⟨rfl,⟨_,_,E.out⟩,S.out⟩
  | false =>
   have a1:Hid (aU o a b s p=⟨aF s.out p ⟨C,ki,0⟩,s.GV,N⟩):=by unfold Hid;rw[a0.out,if_neg (fun h=>by have:=HZ.out.2 h;cases this)];rfl
   go_upto_region 18 with fail;apply ak 6 [.pointer (some ⟨g,0,none⟩),.pointer (some ⟨g,0,none⟩),.pointer (some ⟨g,4,none⟩),.map (some x.G6),S8 p,.agg #[.int .i64 C,S8 ki]] [none,none,none,none,none,none] [[],[0],[1],[2],[],[]] (by kernel_rfl) (by kernel_rfl) (by simp[aq])
   .trivial
   .simp (maxSteps:=1000000)only[List.take_succ_cons,List.take_zero,ay,aB,af,Act.put,List.setIfInBounds_toArray,List.set_cons_zero,List.set_cons_succ,aE,aH,aq,List.getD_cons_zero,List.getD_cons_succ,and_true,true_and,forall_const];and_intros
    iterate 6 · intro D wq hq;intros;rename_i u;have k1:=hq.cell y4;have k2:=hq.cell e0;have k3:=hq.cell e1;go_simp;exact u _ _ (Ext.refl _) rfl
   intro D a6 Z n;simp only[aG,Nat.zero_add,Nat.reduceAdd,and_true]at n;simp(maxSteps:=1000000)only[List.take_succ_cons,List.take_zero,List.drop_succ_cons,List.drop_zero,af,Act.put,List.setIfInBounds_toArray,List.set_cons_zero,List.set_cons_succ,Nat.zero_add,Nat.reduceAdd,n];clear n;have F:Hid (IsMer a6 g B x vc vq o a b ⟨s.out,s.GV,N⟩):=E.out.ext Z;have a9:Hid (FrM B w a6):=S.out.trans (FrM.GX Z);have b2:Hid (IsMG bn a6 x.G6 s.out):=F.out.G7;clear Z y4 e0 e1
   go_wp2_with (refine kK 59 41 Tryz.underlying59 rfl _ _ _ rfl b2.out (by omega) rfl p (by omega) rfl ⟨C,ki,0⟩ rfl ?_;intro cm bq au)
   go_ret;rw[a1.out];exact⟨rfl,⟨_,_,F.out.Hg au bq (F.out.G2.put _ _)⟩,a9.out.trans (F.out.Hf au)⟩
end
section
open Go Go.RowKit Go.Sort
theorem Az (V:Fi->Value) (l:ae) (p:B8):(cX V l).del (.string p)=cX V (bu l p):=by
 unfold cX DataW.del;simp only;rw[ld]
section
variable {ops:Array Oper} {rest:List Oper} {o:Oper} {a:Act} {Q:Exit->Act->World->Prop} {w:World} {V:Fi->Value}
theorem DH (T E:TypeId) (n:Tryz.prog.underlying T=some (.map 9 E)) (g:o.guard=none) (m x:Operand) (i:o.op=Op.call { callee:=Callee.builtin Builtin.delete,args:=#[m,x],argTypes:=#[T,9] }) {b:Nat} {l:ae} (r:IsMG V w b l)
  (t:a.eval m=.map (some b)) (p:B8) (z:p.length<=1000000) (y:a.eval x=S8 p)
  (h:∀e,IsMG V e b (bu l p)->w.grownBy e (some b)->wpList Tryz.prog ops Q rest (a.put o.dst (.tuple #[])) e):wpList Tryz.prog ops Q (o::rest) a w:=by
 refine wpList_delete_own w g m x _ _ i _ iV n gM b _ _ t r.map (S8 p) (.string p) y (m8 p (by omega)) ?_;intro e c u;rw[Az]at c;refine h e ⟨?_⟩ u.grown;obtain⟨j,d,q,F,A,k⟩:=c;refine⟨j,d,q,F,?_,k⟩;have:Maps.size (cX V (bu l p))=j.size:=by rw[k];simp[Maps.size,length_sorted]
 rw[<-this];simp[cX,Maps.size]
end
def Fu (m:Option (ae×List (B8×Int))):Int:=match m with | some _=>0 | none=>14
variable {o a b out:ae} {r:Rw} {l:List Rw} {n:List (B8×Int)}
theorem iK (h:de out r.path=false):be o a b (r::l) out n=be o a b l out n:=by
 rw[be,if_neg (by rw[h];simp)]
theorem iy (h:de out r.path=true) (c:aV o a b (bu out r.path) r 21=none):be o a b (r::l) out n=none:=by
 rw[be,if_pos h,c]
theorem kg {c:ae} (h:de out r.path=true) (d:aV o a b (bu out r.path) r 21=some c):be o a b (r::l) out n=be o a b l c (n++[(r.path,3)]):=by
 rw[be,if_pos h,d]
theorem lS {α:Type} {l:List α} {k:Nat} {x:α} (h:l[k]? = some x):l.drop k=x::l.drop (k+1):=by
 obtain⟨c,rfl⟩:=List.getElem?_eq_some_iff.1 h;exact List.drop_eq_getElem_cons c
theorem pr {w:World} {g B:Nat} {x:MB} {C vn:Value} {s:Mg} (hE:∀M,FrM B w M->Env M) (h:IsMer w g B x C vn o a b s) (hB:B<=w.heap.size) (ho:s.out.length<=10000) (hn:s.notes.length<=10000) (hs:∀r∈aI s.out,r.path.length<=50000/\r.id.length<=50000) :
  Calls Tryz.prog 47 #[.pointer (some ⟨g,0,none⟩)] w fun e M=>e=.returned (.int .i64 (Fu (be o a b (aI s.out) s.out s.notes)))/\(∀y,be o a b (aI s.out) s.out s.notes=some y->∃cq,IsMer M g B x C cq o a b ⟨y.1,s.GV,y.2⟩)/\FrM B w M:=by
 have H:Hid (IsMer w g B x C vn o a b s):=h;have HE:Hid (∀M,FrM B w M->Env M):=hE;have HS:Hid _:=hs;obtain⟨L,hL⟩:∃L,aI s.out=L:=⟨_,rfl⟩;have cu:L.length<=10000:=by rw[<-hL];unfold aI;rw[List.length_map];exact ho
 rw[hL]at HS ⊢;have HL:Hid _:=hL;clear h hE hs hL;go_enter Tryz.func47,Tryz.ntmps47;go_wp2_with fail;go_at_call 31;refine(mD H.out (by omega)).mono ?_;rw[HL.out,show s.out.length=L.length by rw[<-HL.out];unfold aI;rw[List.length_map]];rintro e w1 ⟨⟨v,rfl,hv⟩,b6⟩;have a9:Hid (w1.ownsRow w.heap.size 50 3 v L.length (L.flatMap rwC)):=hv;have bk:Hid (IsRws w1 v L):=Row.GW hv (by omega);obtain⟨ra,rc,rfl,-⟩:=bk.out.get;have bo:Hid (Ext w w1):=b6;clear hv b6 bk;go_wp2_with fail;go_loopw [9] (fun i wr=>∃(k:Nat) (out:ae) (n:List (B8×Int)) (I:Value),k<=L.length/\i=.int .i64 k/\out.length<=s.out.length+k/\n.length<=s.notes.length+k/\Hid (IsMer wr g B x C I o a b ⟨out,s.GV,n⟩)/\Hid (FrM B w wr)/\Hid (wr.ownsRow w.heap.size 50 3 (.slice ra L.length rc) L.length (L.flatMap rwC))/\Hid (be o a b L s.out s.notes=be o a b (L.drop k) out n)) (fun i _=>L.length - (intOf i).toNat)
 case atStart=>exact⟨0,s.out,s.notes,vn,Nat.zero_le _,rfl,by omega,by omega,H.out.ext bo.out,FrM.GX bo.out,a9,rfl⟩
 case round =>
 obtain⟨k,out,n,I,J,rfl,c3,cx,HM,HF,a7,HP⟩:=hrel
 by_cases co:k<L.length
 case neg =>
  have cm:k=L.length:=by omega
  subst cm;have HR:Hid (be o a b L s.out s.notes=some (out,n)):=by
   unfold Hid;rw[HP.out,List.drop_length];rfl
  go_wp2;go_ret;rw[HR.out];exact⟨rfl,fun y hy=>by cases hy;exact⟨_,HM.out⟩,HF.out⟩
 obtain⟨r,hr⟩:∃r,L[k]? = some r:=⟨_,List.getElem?_eq_getElem co⟩;have b5:IsRws wr (.slice ra L.length rc) L:=Row.GW a7.out (by omega);obtain⟨_,_,P,-,-,-,b0⟩:=b5.get;cases P;obtain⟨rb,ro,rfl,c0,c1,c2⟩:=b0 k r hr;have y0:wr.cell? ⟨rb,ro+k*3,none⟩=some (S8 r.path):=by rw[Nat.mul_comm k 3];exact c0
 have y1:wr.cell? ⟨rb,ro+k*3+1,none⟩=some (.int .i64 r.mode):=by rw[Nat.mul_comm k 3];exact c1
 have y2:wr.cell? ⟨rb,ro+k*3+2,none⟩=some (S8 r.id):=by rw[Nat.mul_comm k 3];exact c2
 have bm:=HS.out r (List.mem_of_getElem? hr);have Z:Hid (L.drop k=r::L.drop (k+1)):=lS hr;obtain⟨j,rm,ri⟩:=r;dsimp only at y0 y1 y2 bm;obtain⟨cp,cl⟩:=bm;clear b5 b0 c0 c1 c2 hr;go_upto_region 4 with fail;obtain⟨w2,T⟩:∃w2,w2=wr.alloc (.cells #[S8 j,.int .i64 rm,S8 ri] 50):=⟨_,rfl⟩;have U:Ext wr w2:=by rw[T];exact(Ext.refl _).alloc _
 have O:w2.heap[wr.heap.size]? = some (.cells #[S8 j,.int .i64 rm,S8 ri] 50 (0,0)):=by rw[T];exact ah _ _
 rw[<-T];obtain⟨gi,bv⟩:∃q,wr.heap.size=q:=⟨_,rfl⟩;rw[bv]at O ⊢;have b7:Hid _:=O;obtain⟨W,z1,z2⟩:=cD O;have a5:Hid (IsMer w2 g B x C I o a b ⟨out,s.GV,n⟩):=HM.out.ext U;have ca:Hid (FrM B w w2):=HF.out.trans (FrM.GX U);have a':Hid (w2.ownsRow w.heap.size 50 3 (.slice (some ⟨rb,ro,none⟩) L.length rc) L.length (L.flatMap rwC)):=az a7.out U;clear T U O bv y0 y1 y2;obtain⟨c,hc⟩:∃c,de out j=c:=⟨_,rfl⟩;have HC:Hid _:=hc;clear hc;go_wp2_with fail;go_at_call 68;refine(pX j a5.out (by omega)).mono ?_;rw[HC.out];rintro e w3 ⟨rfl,F⟩;have aa:Hid (IsMer w3 g B x C I o a b ⟨out,s.GV,n⟩):=a5.out.ext F;have a0:Hid (FrM B w w3):=ca.out.trans (FrM.GX F);have X:Hid (w3.ownsRow w.heap.size 50 3 (.slice (some ⟨rb,ro,none⟩) L.length rc) L.length (L.flatMap rwC)):=az a'.out F;have au:Hid _:=F.row b7.out;clear F W z1 z2
 cases c with
 | false =>
  have ag:Hid (be o a b L s.out s.notes=be o a b (L.drop (k+1)) out n):=by unfold Hid;rw[HP.out,Z.out];exact iK HC.out
  go_wp2_with fail;go_roundw
  case rel=>exact⟨k+1,out,n,I,by omega,by go_num,by omega,by omega,aa.out,a0.out,X.out,ag.out⟩
  case measure=>simp[intOf];omega
 | true =>
 have y4:=aa.out.f4;obtain⟨W,z1,z2⟩:=cD au.out;go_upto_region 5 with fail;apply ak 6 [.pointer (some ⟨g,0,none⟩),.pointer (some ⟨g,0,none⟩),.pointer (some ⟨g,4,none⟩),.map (some x.G6),.pointer (some ⟨gi,0,none⟩),S8 j] [none,none,none,none,none,none] [[],[0],[1],[2],[],[4]] (by kernel_rfl) (by kernel_rfl) (by simp[aq])
 .trivial
 .simp (maxSteps:=1000000)only[List.take_succ_cons,List.take_zero,ay,aB,af,Act.put,List.setIfInBounds_toArray,List.set_cons_zero,List.set_cons_succ,aE,aH,aq,List.getD_cons_zero,List.getD_cons_succ,and_true,true_and,forall_const];and_intros
  iterate 6 · intro xs wq K;intros;rename_i hR;have k1:=K.cell y4;have k2:=K.cell W;go_simp;exact hR _ _ (Ext.refl _) rfl
 intro xs w4 G J;simp only[aG,Nat.zero_add,Nat.reduceAdd,and_true]at J;simp(maxSteps:=1000000)only[List.take_succ_cons,List.take_zero,List.drop_succ_cons,List.drop_zero,af,Act.put,List.setIfInBounds_toArray,List.set_cons_zero,List.set_cons_succ,Nat.zero_add,Nat.reduceAdd,J];clear J;have A:Hid (IsMer w4 g B x C I o a b ⟨out,s.GV,n⟩):=aa.out.ext G;have ce:Hid (IsMG bn w4 x.G6 out):=A.out.G7;have cb:Hid (FrM B w w4):=a0.out.trans (FrM.GX G);have ba:Hid _:=az X.out G;have b8:Hid _:=G.row au.out;clear G y4 W z1 z2;go_upto_region 6 with(refine DH 59 41 Tryz.underlying59 rfl _ _ rfl ce.out rfl j (by omega) rfl ?_;intro w5 b3 D);have N:Hid (IsMer w5 g B x C I o a b ⟨bu out j,s.GV,n⟩):=A.out.Hg D b3 (A.out.G2.del _);have a1:Hid (FrM B w w5):=cb.out.trans (A.out.Hf D);have bb:Hid _:=jp ba.out D A.out.G7.kind;have ai:=qI b8.out D A.out.G7.kind;have b9:Hid _:=ai;obtain⟨W,z1,z2⟩:=cD ai;have cv:=iq out j;clear b3 D ai;go_wp2_with fail;go_at_call 46;refine(lv ⟨j,rm,ri⟩ (HE.out _ a1.out) N.out cp cl (by show(bu out j).length<=_;omega)).mono ?_;obtain⟨pe,S⟩:∃q,aV o a b (bu out j) ⟨j,rm,ri⟩ 21=q:=⟨_,rfl⟩;dsimp only;rw[S];have bi:Hid _:=S;rintro e w6 ⟨rfl,b4,Q⟩;have a2:Hid (FrM B w w6):=a1.out.trans (N.out.Hf Q);have bc:Hid _:=jp bb.out Q N.out.G7.kind;have bs:=qI b9.out Q N.out.G7.kind;have b':Hid _:=bs;have b2:∀d,pe=some d->d.length<=(bu out j).length+1:=fun d h=>gT o a b ⟨j,rm,ri⟩ 21 _ _ (by rw[S];exact h)
 have cc:Hid _:=b4;clear b4 Q bs S W z1 z2
 cases pe with
 | none =>
  have HR:Hid (be o a b L s.out s.notes=none):=by unfold Hid;rw[HP.out,Z.out];exact iy HC.out bi.out
  go_wp2_with fail;go_ret;rw[HR.out];exact⟨rfl,fun y hy=>(by cases hy),a2.out⟩
 | some d =>
  have cs:=b2 d rfl;have ag:Hid (be o a b L s.out s.notes=be o a b (L.drop (k+1)) d (n++[(j,3)])):=by unfold Hid;rw[HP.out,Z.out];exact kg HC.out bi.out
  have a6:Hid (IsMer w6 g B x C I o a b ⟨d,s.GV,n⟩):=cc.out;have y7:=a6.out.f7;obtain⟨W,z1,z2⟩:=cD b'.out;go_upto_region 9 with fail;apply kN 9 0 (.pointer (some ⟨g,0,none⟩)) [.pointer (some ⟨g,0,none⟩),.pointer (some ⟨g,0,none⟩),.pointer (some ⟨g,0,none⟩),.pointer (some ⟨g,7,none⟩),I,.pointer (some ⟨gi,0,none⟩),S8 j,.agg #[S8 j,.int .i64 3],undef] [none,none,none,none,none,none,none,none,some (fun u M=>∃k,u=.slice (some ⟨k,0,none⟩) 1 1/\M.heap[k]? = some (.cells #[S8 j,.int .i64 3] 36 (0,0)))] [[],[],[1],[2],[3],[],[5],[6],[7]] (by kernel_rfl) (by kernel_rfl) (by simp[aq])
  .refine ⟨?_,trivial⟩
   .exact fun _ _ _ P ⟨k,h1,h3⟩=>⟨k,h1,P.row h3⟩
  .exact ⟨_,rfl,rfl,fun w=>by go_simp⟩
  .exact fun _=>rfl
  .simp (maxSteps:=1000000)only[List.take_succ_cons,List.take_zero,ay,aB,af,Act.put,List.setIfInBounds_toArray,List.set_cons_zero,List.set_cons_succ,aE,aH,aq,List.getD_cons_zero,List.getD_cons_succ,and_true,true_and,forall_const];and_intros
   iterate 8 · intro xs wq K;intros;rename_i hR;have k0:=K.cell y7;have k1:=K.cell W;go_simp;exact hR _ _ (Ext.refl _) rfl
   .intro xs wq K J R hR;go_simp;exact hR _ _ ((Ext.refl _).alloc _) ⟨_,rfl,ah _ _⟩
  intro xs w8 V J;simp only[aG,Nat.zero_add,Nat.reduceAdd,and_true]at J;have q8:=J.2.2.2.2.2.2.2.2;simp(maxSteps:=1000000)only[List.take_succ_cons,List.take_zero,List.drop_succ_cons,List.drop_zero,af,Act.put,List.setIfInBounds_toArray,List.set_cons_zero,List.set_cons_succ,Nat.zero_add,Nat.reduceAdd,J];clear J;generalize xs 8=x8 at *;obtain⟨k8,rfl,b1⟩:=q8;have ab:Hid (IsMer w8 g B x C I o a b ⟨d,s.GV,n⟩):=a6.out.ext V;have a3:Hid (FrM B w w8):=a2.out.trans (FrM.GX V);have bh:Hid _:=az bc.out V;have am:w8.ownsRow B 36 2 I n.length (n.flatMap ntC):=ab.out.nt;have ci:B<=w8.heap.size:=Nat.le_trans hB a3.out.size;clear V y7 W z1 z2
  go_wp2_with (first | (at_builtin;go_must (refine sN rfl _ _ rfl B _ n.length _ rfl am k8 1 (j,3) rfl b1 (by omega) ci ?_;intro v9 w9 t z;obtain⟨vb,ve,rfl⟩:=iL t (by omega);have E:=ab.out.Hn z)) | (refine aP rfl 29 (.tmp 41) (.tmp 39) rfl g 7 rfl (.slice (some ⟨vb,0,none⟩) (n.length+1) ve) rfl rfl _ _ E (Nat.le_of_ble_eq_true rfl) oL (mrC x C (.slice (some ⟨vb,0,none⟩) (n.length+1) ve)) (by simp[mrC]) ?_;intro ao Y p))
  refine NoP.intro ?_;obtain⟨bq,bp⟩:=ab.out.Ie (j,3) z t p Y;have a4:Hid (IsMer ao g B x C (.slice (some ⟨vb,0,none⟩) (n.length+1) ve) o a b ⟨d,s.GV,n++[(j,3)]⟩):=bq;have av:Hid (FrM B w ao):=a3.out.trans bp;have ad:Hid (ao.ownsRow w.heap.size 50 3 (.slice (some ⟨rb,ro,none⟩) L.length rc) L.length (L.flatMap rwC)):=by
   refine cH (cH bh.out z (fun q K cf P=>?_)) p (fun q K cf P=>?_)
   .obtain ⟨c2,h2⟩:=(bO am q K).2;rw[h2]at P;simp at P
   .cases K;rw[E]at P
    simp at P
  clear bq bp t z p Y E am b1;go_wp2_with fail;go_roundw
  case rel=>exact⟨k+1,d,n++[(j,3)],_,by omega,by go_num,by omega,by rw[List.length_append,List.length_singleton];omega,a4.out,av.out,ad.out,ag.out⟩
  case measure=>simp[intOf];omega
end
end Go.Proofs.YtgfegpnmlkdjfaaGreatDoor
