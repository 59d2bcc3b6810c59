/- Contracts of the program's functions and plain laws behind the card. Conditions: as each theorem states. -/
import Derived.Test.YtgfegpnmlkdjfaaGreatDoorZbc
import Derived.Deep.DeepCutAuto
set_option linter.unusedVariables false
set_option linter.unusedSimpArgs false
set_option linter.unusedSectionVars false
set_option maxRecDepth 100000
set_option maxHeartbeats 64000000
namespace Go.Proofs.YtgfegpnmlkdjfaaGreatDoor
section
open Go Go.RowKit
structure RdC (wB:World) (g:Nat) (s0:Src) (e:TypeId) (size:Nat) (base:Nat) (v:Value) (n:Nat) (cs news:List Value) (keep:List (Nat×Obj)) (zh zl za:Option Value) (w:World):Prop where
 H9:zh=none->IsSrc w g s0
 Hj:∀u,zh=some u->u=S8 (bA s0).2/\IsSrc w g (bA s0).1
 kp:∀k o,(k,o)∈keep->w.heap[k]? = some o
 Hw:za=none->w.ownsRow base e size v n cs
 If:∀u,za=some u->w.ownsRow base e size u (n+1) (cs++news)
 lit:∀u,zl=some u->za=none->∃gl,u=.slice (some ⟨gl,0,none⟩) 1 1/\base<=gl/\w.heap[gl]? = some (.cells news.toArray e (0,0))
 sz:base<=w.heap.size
 ext:Ext wB w
section
variable {wB w w':World} {g:Nat} {s0:Src} {e:TypeId} {size base:Nat} {v:Value} {n:Nat} {cs news:List Value} {keep:List (Nat×Obj)} {zh zl za:Option Value}
theorem RdC.start (c:IsSrc w g s0) (d:∀k o,(k,o)∈keep->w.heap[k]? = some o) (h:w.ownsRow base e size v n cs) (i:base<=w.heap.size) (j:Ext wB w) (b:Ext w w'):RdC wB g s0 e size base v n cs news keep none none none w' :=
 ⟨fun _=>c.ext b,fun u a=>(by cases a),fun k o l=>Ext.row b (d k o l),fun _=>az h b,fun u a=>(by cases a),fun u a=>(by cases a),Nat.le_trans i b.size,j.trans b⟩
theorem RdC.hash (h:RdC wB g s0 e size base v n cs news keep none zl za w) (C:g<base) (y:wB.heap.size<=g) (A:∀k o,(k,o)∈keep->k≠g) (x:IsSrc w' g (bA s0).1) (a:w.grownBy w' (some g)):RdC wB g s0 e size base v n cs news keep (some (S8 (bA s0).2)) zl za w':=by
 have own:∀u m i,w.ownsRow base e size u m i->w'.ownsRow base e size u m i:=fun u m i l=>l.kept a (by
  cases B:u.ownBlock with
  | none=>exact .inl rfl
  | some j=>exact .inr (fun z=>by cases z;have:=(l.lt _ B).1;omega))
 refine⟨fun h=>(by cases h),fun u c=>(by cases c;exact⟨rfl,x⟩),fun k o b=>?_,fun d=>own _ _ _ (h.Hw d),fun u c=>own _ _ _ (h.If u c),fun u c d=>?_,Nat.le_trans h.sz a.size,Ext.but h.ext a y⟩
 .exact bI a (h.kp k o b) (A k o b)
 .obtain ⟨t,p,q,r⟩:=h.lit u c d;exact⟨t,p,q,bI a r (by omega)⟩
theorem RdC.Ha (h:RdC wB g s0 e size base v n cs news keep zh none za w):RdC wB g s0 e size base v n cs news keep zh (some (.slice (some ⟨w.heap.size,0,none⟩) 1 1)) za (w.alloc (.cells news.toArray e)):=by
 have a:Ext w (w.alloc (.cells news.toArray e)):=(Ext.refl w).alloc _;exact⟨fun c=>(h.H9 c).ext a,fun u b=>⟨(h.Hj u b).1,(h.Hj u b).2.ext a⟩,fun k o d=>Ext.row a (h.kp k o d),fun c=>az (h.Hw c) a,fun u b=>az (h.If u b) a,fun u b c=>(by cases b;exact⟨_,rfl,h.sz,ah _ _⟩),Nat.le_trans h.sz a.size,h.ext.trans a⟩
theorem RdC.app {u:Value} {T:TypeId} {z:Value} {bytes:Nat} (h:RdC wB g s0 e size base v n cs news keep zh zl none w) (a:zl=some u) (M:g<base) (E:wB.heap.size<=base) (x:∀k o,(k,o)∈keep->k<base)
  (J:Tryz.prog.underlying T=some (.slice e)) (c:(Tryz.prog.info? e).map (fun i=>(i.zero,i.size,i.bytes))=some (some z,size,bytes)) (A:z.cells.size=size) (y:0<size) (H:news.length=1*size) (C:∀u∈news,u.oneCell'=true) (F:(n+1)*bytes<=140737488355328) (t:n+1<=1000000000) :
  ∃q w',(Builtin.append_ #[T,T] T #[v,u]).run Tryz.prog w=.ok q w'/\RdC wB g s0 e size base v n cs news keep zh zl (some q) w':=by
 obtain⟨K,rfl,G,j⟩:=h.lit u a rfl;obtain⟨q,w',I,D,d,L⟩:=js T e z size bytes J c A y base v n cs (h.Hw rfl) _ 1 news (Row.new j (by decide) _ rfl) H C F t h.sz;have b:∀k,v.ownBlock=some k->base<=k:=fun k a=>((h.Hw rfl).lt k a).1
 have r:∀k o,k<base->w.heap[k]? = some o->w'.heap[k]? = some o:=fun k o a B=>(d.block k (Array.getElem?_eq_some_iff.1 B).1 (fun e=>by have:=b k e.symm;omega)).trans B
 exact⟨q,w',I,fun p=>(h.H9 p).Hc d (fun k a=>by have:=b k a;omega),fun u l=>⟨(h.Hj u l).1,(h.Hj u l).2.Hc d (fun k a=>by have:=b k a;omega)⟩,fun k o a=>r k o (x k o a) (h.kp k o a),fun p=>(by cases p),fun u l=>(by cases l;exact D),fun u l p=>(by cases p),Nat.le_trans h.sz d.size,Below.grown h.ext d h.ext.size (fun k a=>Nat.le_trans E (b k a))⟩
end
structure RdS (wB:World) (g4 g5 g6:Nat) (c4 c5:Array Value) (s:Src) (e:TypeId) (size base:Nat) (v:Value) (n:Nat) (cs:List Value) (w:World):Prop where
 src:IsSrc w g6 s
 r4:w.heap[g4]? = some (.cells c4 141 (0,0))
 r5:w.heap[g5]? = some (.cells c5 141 (0,0))
 own:w.ownsRow base e size v n cs
 sz:base<=w.heap.size
 ext:Ext wB w
 lt:wB.heap.size<=g4/\g4+1=g5/\g5+1=g6/\g6<base
section
variable {wB w w':World} {g4 g5 g6:Nat} {c4 c5:Array Value} {s s':Src} {e:TypeId} {size base:Nat} {v:Value} {n:Nat} {cs:List Value}
theorem RdS.step (h:RdS wB g4 g5 g6 c4 c5 s e size base v n cs w) (b:IsSrc w' g6 s') (a:w.grownBy w' (some g6)):RdS wB g4 g5 g6 c4 c5 s' e size base v n cs w':=by
 obtain⟨g,i,k,l⟩:=h.lt;refine⟨b,bI a h.r4 (by omega),bI a h.r5 (by omega),h.own.kept a ?_,Nat.le_trans h.sz a.size,Ext.but h.ext a (by omega),h.lt⟩
 cases d:v.ownBlock with
 | none=>exact .inl rfl
 | some j=>exact .inr (fun c=>by cases c;have:=(h.own.lt _ d).1;omega)
variable {news:List Value}
theorem RdS.IJ (h:RdS wB g4 g5 g6 c4 c5 s e size base v n cs w) (b:Ext w w'):RdC wB g6 s e size base v n cs news [(g4,.cells c4 141 (0,0)),(g5,.cells c5 141 (0,0))] none none none w' :=
 RdC.start h.src (fun k o a=>by
  simp only[List.mem_cons,Prod.mk.injEq,List.not_mem_nil,or_false]at a;rcases a with⟨rfl,rfl⟩ | ⟨rfl,rfl⟩
  .exact h.r4
  .exact h.r5) h.own h.sz h.ext b
variable {zl:Option Value}
theorem RdC.IK {u x:Value} (a:wB.heap.size<=g4/\g4+1=g5/\g5+1=g6/\g6<base) (h:RdC wB g6 s e size base v n cs news [(g4,.cells c4 141 (0,0)),(g5,.cells c5 141 (0,0))] (some x) zl (some u) w):RdS wB g4 g5 g6 c4 c5 (bA s).1 e size base u (n+1) (cs++news) w :=
 ⟨(h.Hj x rfl).2,h.kp _ _ (by simp),h.kp _ _ (by simp),h.If u rfl,h.sz,h.ext,a⟩
theorem RdC.k5 {d b:Nat} {c a:Obj} {i g:Option Value} (h:RdC wB g6 s e size base v n cs news [(d,c),(b,a)] i zl g w):w.heap[b]? = some a:=h.kp _ _ (by simp)
theorem RdS.put (h:RdS wB g4 g5 g6 c4 c5 s e size base v n cs w) (j:Nat) (x:Value) {c6:Array Value} (i:c5.setIfInBounds j x=c6):RdS wB g4 g5 g6 c4 c6 s e size base v n cs (w.setCell ⟨g5,j,none⟩ x):=by
 obtain⟨t,u,y,z⟩:=h.lt;have b:=cW w g5 j x;obtain⟨g,o,c,p,q,r⟩:=h.src;refine⟨⟨g,o,c,bI b p (by omega),?_,r⟩,bI b h.r4 (by omega),?_,h.own.kept b ?_,Nat.le_trans h.sz b.size,Ext.but h.ext b (by omega),h.lt⟩
 .exact Row.but q b (fun a n c d=>by cases d;show g≠g5;omega)
 .rw [heap_setCell_same w g5 j _ _ _ h.r5,i]
 .cases l:v.ownBlock with
  | none=>exact .inl rfl
  | some k=>exact .inr (fun d=>by cases d;have:=(h.own.lt _ l).1;omega)
end
theorem iM (s:Src) (n:Nat):(bG s n).1.b.length<=s.b.length:=by
 unfold bG;split
 .exact Nat.le_refl _
 .simp
theorem gu (a:Bool) (s:Src):(bl a s).1.b.length<=s.b.length:=by
 unfold bl;split
 .exact Nat.le_refl _
 .exact iM _ _
variable {s sA:Src}
theorem Be (h:s.bad=false) (e:(cz s).1=sA):sA.bad=false->sA.b.length+1<=s.b.length:=by
 subst e;unfold cz bG;split
 .intro a;cases a
 .rename_i b;intro _;dsimp only;rw[List.length_drop];simp only[not_or,Nat.not_lt]at b;omega
theorem j8 (s:Src):(bA s).1.b.length<=s.b.length:=iM _ _
variable {n:Nat}
theorem mJ (h:(bG s n).1.bad=false):s.bad=false:=by
 unfold bG at h;split at h
 .cases h
 .exact h
theorem A9 (h:(bl false s).1.bad=false):s.bad=false:=by
 unfold bl at h;split at h
 .cases h
 .exact mJ h
theorem A' (s:Src):(bl false s).2<=72057594037927936:=by
 unfold bl;split
 .exact Nat.zero_le _
 .rename_i h;simp only[not_or,Decidable.not_not]at h;exact(DP h.1).2.2
theorem yQ {sB sC sD:Src} (g:(cz s).1=sA) (c:(bl false sA).1=sB) (d:(bG sB n).1=sC) (e:(bA sC).1=sD) (h:sD.bad=false):sA.bad=false:=by
 subst e;have a:=mJ h;subst d;have b:=mJ a;subst c;exact A9 b
theorem AR:(Tryz.prog.info? 173).map (fun i=>(i.zero,i.size,i.bytes))=some (some (.agg #[.int .i64 0,S8 [],S8 []]),3,40):=by kernel_rfl
def IsObT (w:World) (v:Value) (o:Ob):Prop:=∃a b c,v=obV o a b c/\IsBytes w a o.data/\IsItms w b o.items/\IsStrs w c o.parents/\TypB w a/\Typed 173 w b/\Typed 9 w c
variable {w w':World} {v:Value} {o:Ob}
theorem IsObT.ext (h:IsObT w v o) (a:Ext w w'):IsObT w' v o:=by
 obtain⟨j,k,l,rfl,b,c,d,e,g,i⟩:=h;exact⟨j,k,l,rfl,b.ext a,c.ext a,d.ext a,e.keep (KeepB.GX a),g.keep (Keep.GX a),i.keep (Keep.GX a)⟩
theorem IsObT.ob (h:IsObT w v o):IsOb w v o:=by
 obtain⟨d,e,g,rfl,a,b,c,-⟩:=h;exact⟨d,e,g,rfl,a,b,c⟩
theorem IsObT.put {g:Nat} {cs:Array Value} {fr:Nat×Nat} (h:IsObT w v o) (b:w.grownBy w' (some g)) (a:w.heap[g]? = some (.cells cs 141 fr)):IsObT w' v o:=by
 obtain⟨q,r,t,rfl,l,n,p,c,d,e⟩:=h;have i:KeepB w w':=KeepB.G1 b a (by kernel_rfl);have j:Keep 173 w w':=Keep.G1 b a (by decide);have k:Keep 9 w w':=Keep.G1 b a (by decide);exact⟨q,r,t,rfl,Row.G' l c i,Row.keep n d j,Row.keep p e k,c.keep i,d.keep j,e.keep k⟩
abbrev obC (k:Int) (c d:Value) (t:B8) (e:Value) (st a:Int) (b:B8):Array Value:=#[.int .i64 k,c,d,S8 t,e,.int .i64 st,.int .i64 a,S8 b]
theorem ch:(Tryz.prog.info? 141).map (·.size)=some 8:=by kernel_rfl
theorem kS (w:World) (o:Obj):(w.alloc o).heap.size=w.heap.size+1:=Array.size_push ..
theorem Dy (w:World) (a b c:Obj):(((w.alloc a).alloc b).alloc c).heap[w.heap.size]? = some a/\(((w.alloc a).alloc b).alloc c).heap[w.heap.size+1]? = some b/\(((w.alloc a).alloc b).alloc c).heap[w.heap.size+1+1]? = some c/\Ext w (((w.alloc a).alloc b).alloc c)/\(((w.alloc a).alloc b).alloc c).heap.size=w.heap.size+1+1+1:=by
 have d:=kS w a;have e:=kS (w.alloc a) b;have i:=kS ((w.alloc a).alloc b) c;have j:Ext (w.alloc a) ((w.alloc a).alloc b):=(Ext.refl _).alloc _;have g:Ext ((w.alloc a).alloc b) (((w.alloc a).alloc b).alloc c):=(Ext.refl _).alloc _;refine⟨Ext.row (j.trans g) (ah w a),Ext.row g ?_,?_,(((Ext.refl w).alloc a).alloc b).alloc c,by rw[i,e,d]⟩
 .have h:=ah (w.alloc a) b
  rwa [d]at h
 .have h:=ah ((w.alloc a).alloc b) c
  rwa [e,d]at h
theorem zn (y:Nat) (bb oo c:Nat) (b:B8) (w:World) (hv:IsBytes w (.slice (some ⟨bb,oo,none⟩) b.length c) b) (fc:bb<w.heap.size) (hl:b.length<=10000000) :
  Calls Tryz.prog 138 #[.int .i64 y,.slice (some ⟨bb,oo,none⟩) b.length c] w fun e w'=>(∃u,e=.returned u/\IsObT w' u (eP false y b).2)/\Ext w w':=by
 have HV:Hid _:=hv;obtain⟨⟨s9,o9⟩,hq⟩:∃q,eP false y b=q:=⟨_,rfl⟩;rw[hq];have HQ:Hid _:=hq;clear hv hq;go_enter Tryz.func138,Tryz.ntmps138;go_upto_region 4 with fail;obtain⟨w3,bo⟩:∃w3,w3=((w.alloc (.cells (obC 0 (.slice none 0 0) (.slice none 0 0) [] (.slice none 0 0) 0 0 []) 141)).alloc (.cells (obC y (.slice none 0 0) (.slice none 0 0) [] (.slice none 0 0) 0 0 []) 141)).alloc (.cells #[.slice (some ⟨bb,oo,none⟩) b.length c,.bool false] 210):=⟨_,rfl⟩;obtain⟨r4,r5,r6,bp,bm⟩:=Dy w (.cells (obC 0 (.slice none 0 0) (.slice none 0 0) [] (.slice none 0 0) 0 0 []) 141) (.cells (obC y (.slice none 0 0) (.slice none 0 0) [] (.slice none 0 0) 0 0 []) 141) (.cells #[.slice (some ⟨bb,oo,none⟩) b.length c,.bool false] 210);rw[<-bo]at r4 r5 r6 bp bm;unfold obC at bo;rw[<-bo];obtain⟨O,cs⟩:∃g,w.heap.size=g:=⟨_,rfl⟩;have fa:bb<O:=by omega
 rw[cs]at r4 r5 r6 bm ⊢;obtain⟨H,ev⟩:∃g,O+1=g:=⟨_,rfl⟩;rw[ev]at r5 r6 bm ⊢;obtain⟨l,e0⟩:∃g,H+1=g:=⟨_,rfl⟩;rw[e0]at r6 bm ⊢;have HS:Hid (IsSrc w3 l ⟨b,false⟩):=⟨bb,oo,c,r6,IsBytes.ext HV.out bp,by omega⟩;have a1:Hid (Ext w w3):=bp;have R4:Hid _:=r4;have R5:Hid _:=r5;have X:Hid (w.heap.size=O):=cs;clear bo r4 r5 r6 bp cs
 by_cases k1:y=1
 .subst k1;obtain⟨rfl,rfl⟩:(⟨[],false⟩:Src)=s9/\(⟨1,b,[],[],[],0,0,[]⟩:Ob)=o9:=by
   have p:=HQ.out;unfold eP at p;rw[if_pos (show((1:Nat):Int)=1 from rfl)]at p;exact⟨(Prod.mk.inj p).1,(Prod.mk.inj p).2⟩
  go_wp2_with fail;go_at_call 159;refine(yq _ b w3 (IsBytes.ext HV.out a1.out) (by omega)).mono ?_;rintro e w4 ⟨⟨vb,rfl,hd⟩,a5⟩;have es:=hd.bytes;obtain⟨J,K,rfl,-⟩:=es;have ei:Hid _:=Ext.row a5 R4.out;have bq:=Ext.row a5 R5.out;have cf:w4.frozen? ⟨H,1,none⟩=false:=by simp[World.frozen?,bq]
  have y5:w4.cell? ⟨H,1,none⟩=some (.slice none 0 0):=(cell_of_row _ _ 1 _ _ _ bq).trans rfl;have HD:Hid _:=hd;have dc:Hid _:=bq;have eg:Hid (Ext w w4):=a1.out.trans a5;have ao:=a5.size;clear hd a5 bq;go_upto_region 23 with fail;obtain⟨w5,V⟩:∃w5,w5=w4.setCell ⟨H,1,none⟩ (.slice J b.length K):=⟨_,rfl⟩;have U:w4.grownBy w5 (some H):=by rw[V];exact cW _ _ _ _
  have R5:Hid (w5.heap[H]? = some (.cells (obC 1 (.slice J b.length K) (.slice none 0 0) [] (.slice none 0 0) 0 0 []) 141 (0,0))):=by
   unfold Hid;rw[V,heap_setCell_same w4 H 1 _ _ _ dc.out];simp
  have R4:Hid _:=bI U ei.out (by omega);have eh:Hid (Ext w w5):=Ext.but eg.out U (by have:=X.out;omega);rw[<-V];have d1:Hid (IsBytes w5 (.slice J b.length K) b/\∀a n cc,Value.slice J b.length K=.slice (some a) n cc->w3.heap.size<=a.block):=by
   have dp:=HD.out.Ia;refine⟨Row.but HD.out.bytes U (fun a n cc he=>?_),fun a n cc he=>(by cases he;exact(dp a.block rfl).1)⟩;cases he;have:=(dp a.block rfl).1;omega
  have ec:Hid (TypB w5 (.slice J b.length K)):=HD.out.typed.keep (KeepB.G1 U dc.out (by kernel_rfl));clear V U cf y5;obtain⟨q0,q1,q2,q3,q4,q5,q6,q7⟩:=bt R5.out;have I:=R4.out
  go_wp2_with (refine wpList_store_row rfl 141 (.tmp 4) (.tmp 95) rfl O (obC 1 (.slice J b.length K) (.slice none 0 0) [] (.slice none 0 0) 0 0 []) rfl rfl 141 _ I ch rfl (by simp[Value.oneCell']) ?_)
  refine bodyPost_ret (results_cell_row rfl _ _ O 141 (obC 1 (.slice J b.length K) (.slice none 0 0) [] (.slice none 0 0) 0 0 []) (0,0) _ rfl (setRow_heap _ _ _ _ _ _ I) Tryz.underlying141 rfl ch) rfl ?_;refine⟨⟨_,rfl,?_⟩,Ext.but eh.out (aw _ _ _) (Nat.le_of_eq X.out)⟩;exact IsObT.put (o:=⟨1,b,[],[],[],0,0,[]⟩) ⟨.slice J b.length K,.slice none 0 0,.slice none 0 0,rfl,d1.out.1,Row.nil _,Row.nil _,ec.out,Typed.nil _ _ _ _,Typed.nil _ _ _ _⟩ (aw _ _ _) I
 have b5:¬((y:Nat):Int)=1:=by omega
 have b1:(((y:Nat):Int)==1)=false:=by simpa using b5
 by_cases k2:y=2
 .subst k2;have a7:Hid (o9=⟨2,[],(fA false (bl false ⟨b,false⟩).2 (bl false ⟨b,false⟩).1 []).2,[],[],0,0,[]⟩):=by
   have p:=HQ.out;unfold eP at p;rw[if_neg (show ¬((2:Nat):Int)=1 by decide),if_pos (show((2:Nat):Int)=2 from rfl)]at p;exact(Prod.mk.inj p).2.symm
  have c0:=gu false ⟨b,false⟩;have dk:=A' ⟨b,false⟩;have c2:=jS l ⟨b,false⟩ w3 HS.out;obtain⟨⟨s1,N⟩,d0⟩:∃q,bl false ⟨b,false⟩=q:=⟨_,rfl⟩;rw[d0]at c2 a7 c0 dk;have da:Hid _:=c2;obtain⟨RS,cp⟩:∃r,(fA false N s1 []).2=r:=⟨_,rfl⟩;have ea:Hid _:=cp;dsimp only at a7 c0 dk;rw[cp]at a7;clear c2 d0 cp HQ;go_wp2_with fail;go_at_call 160;refine Calls.mono da.out ?_;rintro e9 w4 ⟨rfl,ao,T⟩;have d9:Hid (RdS w O H l (obC 0 (.slice none 0 0) (.slice none 0 0) [] (.slice none 0 0) 0 0 []) (obC 2 (.slice none 0 0) (.slice none 0 0) [] (.slice none 0 0) 0 0 []) s1 173 3 (l+1) (.slice none 0 0) 0 [] w4) :=
   RdS.step ⟨HS.out,R4.out,R5.out,World.ownsRow_nil _ _ _ _,by omega,a1.out,by have:=X.out;omega⟩ ao T
  clear ao T da R4 R5 HS;go_wp2_with fail;go_loopw [8] (fun i wr=>∃(k:Nat) (s:Src) (d:List Itm) (v:Value),k<=N/\i=.int .i64 k/\Hid ((fA false (N - k) s d).2=RS)/\Hid (RdS w O H l (obC 0 (.slice none 0 0) (.slice none 0 0) [] (.slice none 0 0) 0 0 []) (obC 2 (.slice none 0 0) v [] (.slice none 0 0) 0 0 []) s 173 3 (l+1) v d.length (d.flatMap itC) wr)/\Hid ((s.bad=false->d.length+s.b.length<=b.length)/\d.length<=b.length+1)) (fun i _=>N - (intOf i).toNat)
  case atStart=>exact⟨0,s1,[],.slice none 0 0,Nat.zero_le _,rfl,ea,d9,(fun h=>by have:=c0;simpa using this),by simp⟩
  case round =>
  obtain⟨k,s,d,v,F,rfl,HI,S,b8⟩:=hrel;obtain⟨sb,L⟩:∃x,s.bad=x:=⟨_,rfl⟩;obtain⟨ek,e7,cx,ag,-,-⟩:=S.out.src;rw[L]at ag;have y1:=(kV ag).2;have Z:Hid _:=L;clear ag L
  by_cases E:k=N\/sb=true
  .have a':Hid (RS=d):=by
    unfold Hid;rw[<-HI.out];rcases E with h | h
    .rw [h,Nat.sub_self];rfl
    .cases e4:N - k with
     | zero=>rfl
     | succ j =>
      have p:=Z.out;rw[h]at p;rw[fA,if_pos p]
   have R4:Hid _:=S.out.r4;have R5:Hid _:=S.out.r5;have c3:∃J Q K,v=.slice J Q K:=by
    rcases S.out.own.2 with⟨h,-⟩ | ⟨g,c,ce,h,-⟩
    iterate 2
     .exact ⟨_,_,_,h⟩
   obtain⟨J,Q,K,rfl⟩:=c3;have ab:(¬(k:Int)<(N:Int))\/((k:Int)<(N:Int)/\sb=true):=by
    rcases E with h | h
    .left;omega
    .by_cases e3:k<N
     .exact .inr ⟨by omega,h⟩
     .left;omega
   clear E;rcases ab with hc | ⟨hc,L⟩
   case' inr=>subst L
   all_goals
    go_upto_region 23 with fail;obtain⟨q0,q1,q2,q3,q4,q5,q6,q7⟩:=bt R5.out;have I:=R4.out
    go_wp2_with (refine wpList_store_row rfl 141 (.tmp 4) (.tmp 95) rfl O (obC 2 (.slice none 0 0) (.slice J Q K) [] (.slice none 0 0) 0 0 []) rfl rfl 141 _ I ch rfl (by simp[Value.oneCell']) ?_)
    refine bodyPost_ret (results_cell_row rfl _ _ O 141 (obC 2 (.slice none 0 0) (.slice J Q K) [] (.slice none 0 0) 0 0 []) (0,0) _ rfl (setRow_heap _ _ _ _ _ _ I) Tryz.underlying141 rfl ch) rfl ?_;refine⟨⟨_,rfl,?_⟩,Ext.but S.out.ext (aw _ _ _) (Nat.le_of_eq X.out)⟩;rw[a7.out,a'.out];exact IsObT.put (o:=⟨2,[],d,[],[],0,0,[]⟩) ⟨.slice none 0 0,.slice J Q K,.slice none 0 0,rfl,Row.nil _,Row.GW S.out.own (by have:=b8.out.2;show d.length<=140737488355328;omega),Row.nil _,TypB.nil _ _ _,Typed.GW S.out.own,Typed.nil _ _ _ _⟩ (aw _ _ _) I
  .have cv:k<N:=by omega
   have a0:Hid (k<N):=cv;have fb:k<72057594037927936:=by omega
   have c1:sb=false:=by
    cases sb with
    | false=>rfl
    | true=>exact absurd (.inr rfl) E
   subst c1;have e2:(k:Int)<(N:Int):=by omega
   obtain⟨j,D⟩:∃j,N - k=j+1:=⟨N - k - 1,by omega⟩;obtain⟨⟨sA,m⟩,hA⟩:∃q,cz s=q:=⟨_,rfl⟩;obtain⟨⟨sB,nn⟩,hB⟩:∃q,bl false sA=q:=⟨_,rfl⟩;obtain⟨⟨sC,nm⟩,hC⟩:∃q,bG sB nn=q:=⟨_,rfl⟩;obtain⟨⟨sD,hs⟩,hD⟩:∃q,bA sC=q:=⟨_,rfl⟩;have dq:j9 false s=(sD,⟨m,nm,hs⟩):=by
    unfold j9;rw[hA];dsimp only;rw[hB];dsimp only;rw[hC];dsimp only;rw[hD]
   have b9:Hid ((fA false (N - (k+1)) sD (d++[⟨m,nm,hs⟩])).2=RS):=by
    have p:=HI.out;rw[D,fA,if_neg (by rw[Z.out];simp),dq]at p;rw[show N - (k+1)=j by omega];exact p
   have a2:=Be Z.out (by rw[hA]:(cz s).1=sA);have cl:=gu false sA;have cm:=iM sB nn;have co:=j8 sC;rw[hB]at cl;rw[hC]at cm;rw[hD]at co;have a3:=yQ (s:=s) (sA:=sA) (sB:=sB) (sC:=sC) (sD:=sD) (by rw[hA]) (by rw[hB]) (by rw[hC]) (by rw[hD]);have bs:Hid ((sD.bad=false->(d++[(⟨m,nm,hs⟩:Itm)]).length+sD.b.length<=b.length)/\(d++[(⟨m,nm,hs⟩:Itm)]).length<=b.length+1):=by
    have p:=b8.out.1 Z.out;refine⟨fun h=>?_,by rw[List.length_append];simp only[List.length_cons,List.length_nil];omega⟩;have h8:=a2 (a3 h);rw[List.length_append];simp only[List.length_cons,List.length_nil]at cl cm co ⊢;omega
   have a4:=vN l s wr S.out.src;rw[hA]at a4;have b0:Hid _:=a4;have bv:Hid (∀w',IsSrc w' l sA->Calls Tryz.prog 160 #[.pointer (some ⟨l,0,none⟩)] w' fun e t=>e=.returned (.int .i64 (nn:Nat))/\IsSrc t l sB/\w'.grownBy t (some l)):=fun w' h=>by
    have p:=jS l sA w' h
    rwa [hB]at p
   have b4:Hid (∀w',IsSrc w' l sB->Calls Tryz.prog 162 #[.pointer (some ⟨l,0,none⟩),.int .i64 nn] w' fun e t=>∃v,e=.returned v/\IsBytes t v nm/\IsSrc t l sC/\w'.grownBy t (some l)):=fun w' h=>by
    have p:=jU l sB nn w' h
    rwa [hC]at p
   have HD:Hid (bA sC=(sD,hs)):=hD;clear a4 hA hB hC hD dq a2 a3 cl cm co E D HI b8;go_wp2_with fail;go_at_call 161;refine Calls.mono b0.out ?_;rintro e9 wa ⟨rfl,C,B⟩;have ai:Hid _:=S.out.step C B;clear C B b0 S y1;go_wp2_with fail;go_at_call 160;refine(bv.out wa ai.out.src).mono ?_;rintro e9 wb ⟨rfl,C,B⟩;have b':Hid _:=ai.out.step C B;clear C B bv ai;go_wp2_with fail;go_at_call 162;refine(b4.out wb b'.out.src).mono ?_;rintro e9 wc ⟨vt,rfl,aa,C,B⟩;have ca:Hid _:=b'.out.step C B;have dn:=dK aa;obtain⟨ta,tc,rfl,-⟩:=id aa;have y5:=(bt ca.out.r5).2.2.1;clear aa C B b4 b';have a6:Hid (d.length<=10000001):=by
    have:=bs.out.2;rw[List.length_append]at this;simp only[List.length_cons,List.length_nil]at this;show d.length<=10000001;omega
   have cb:Hid (∀w',IsSrc w' l sC->Calls Tryz.prog 163 #[.pointer (some ⟨l,0,none⟩)] w' fun e t=>e=.returned (S8 (bA sC).2)/\IsSrc t l (bA sC).1/\w'.grownBy t (some l)):=fun w' h=>mF l sC w' h
   obtain⟨l1,l2,l3,l4⟩:=ca.out.lt;have av:Hid (∀k o,(k,o)∈[(O,Obj.cells (obC 0 (.slice none 0 0) (.slice none 0 0) [] (.slice none 0 0) 0 0 []) 141 (0,0)),(H,Obj.cells (obC 2 (.slice none 0 0) v [] (.slice none 0 0) 0 0 []) 141 (0,0))]->k≠l/\k<l+1):=fun k o F=>by
    simp only[List.mem_cons,Prod.mk.injEq,List.not_mem_nil,or_false]at F;rcases F with⟨rfl,-⟩ | ⟨rfl,-⟩ <;> omega
   have hB:w.heap.size<=l:=by omega
   go_upto_region 13 with fail;apply bJ 10 (fun z w'=>RdC w l sC 173 3 (l+1) v d.length (d.flatMap itC) (itC ⟨m,nm,(bA sC).2⟩) [(O,Obj.cells (obC 0 (.slice none 0 0) (.slice none 0 0) [] (.slice none 0 0) 0 0 []) 141 (0,0)),(H,Obj.cells (obC 2 (.slice none 0 0) v [] (.slice none 0 0) 0 0 []) 141 (0,0))] (z 5) (z 7) (z 8) w') [false,false,false,false,false,true,false,true,true,false] [_,v,_,_,_,undef,.agg #[.int .i64 m,S8 nm,S8 (bA sC).2],undef,undef,_] [none,none,none,none,none,none,none,none,none,none] [[],[0],[],[],[],[4],[2,3,5],[6],[1,7],[]] (by kernel_rfl) (by kernel_rfl) rfl
   .exact RdS.IJ ca.out ⟨rfl,rfl,rfl,Nat.le_refl _,fun _ _=>rfl⟩
   .simp (maxSteps:=1000000)only[fC,eR,dm,dM,eG,List.getD_cons_zero,List.getD_cons_succ,Bool.false_eq_true,if_false,if_true,and_true,true_and,forall_const,Nat.zero_add,Nat.reduceAdd,List.take_succ_cons,List.take_zero,af,Act.put,List.setIfInBounds_toArray,List.set_cons_zero,List.set_cons_succ];and_intros
    iterate 5 · intro M z wq D;intros;rename_i P;have f2:=(bt D.k5).2.2.1;go_simp;exact P _ _ D rfl
    .intro M z wq D hz F R P;rw[hz]at D;go_simp;exact(cb.out wq (D.H9 rfl)).mono (by rintro e' w' ⟨rfl,h1,h2⟩;exact⟨_,rfl,P _ _ (D.hash (Nat.lt_succ_self _) hB (fun k o F=>(av.out k o F).1) h1 h2)⟩)
    .intro M z wq D F R P;obtain⟨ba,bc,e1⟩:=F;obtain⟨e5,-⟩:=D.Hj _ e1;rw[e5];go_simp;exact P _ _ D rfl
    .intro M z wq D hz F R P;rw[hz]at D;go_simp;exact P _ _ D.Ha
    .intro M z wq D hz F R P;obtain⟨ba,bc⟩:=F;rw[hz]at D;obtain⟨v',w',hr,cu⟩:=D.app bc (Nat.lt_succ_self _) (by omega) (fun k o F=>(av.out k o F).2) Tryz.underlying139 AR rfl (by omega) rfl (by simp[itC,Value.oneCell']) (by have:=a6.out;omega) (by have:=a6.out;omega);apply ez (.tmp 48) (.tmp 54) 139 139 (v:=M 1) (xv:=M 7) (v':=v') (w':=w')
     iterate 4
      .rfl
     .rw [ba];exact hr
     .exact P _ _ cu
    .intro M z wq D;intros;rename_i P;have f2:=(bt D.k5).2.2.1;go_simp;exact P _ _ D rfl
   intro M wd ad F;simp only[fE,List.getD_cons_zero,List.getD_cons_succ,Bool.false_eq_true,if_false,if_true]at ad;simp only[df,Nat.zero_add,Nat.reduceAdd,and_true]at F;simp(maxSteps:=1000000)only[List.drop_succ_cons,List.drop_zero,Nat.zero_add,Nat.reduceAdd,List.take_succ_cons,List.take_zero,af,Act.put,List.setIfInBounds_toArray,List.set_cons_zero,List.set_cons_succ,F];clear F;generalize M 5=x5 at *;generalize M 7=x7 at *;generalize M 8=x8 at *;have G:=RdC.IK ⟨l1,l2,l3,l4⟩ ad;rw[HD.out]at G;dsimp only at G;have y6:=(bt G.r5).2.2.1;have ci:wd.frozen? ⟨H,2,none⟩=false:=by simp[World.frozen?,G.r5]
   have Y:Hid (RdS w O H l (obC 0 (.slice none 0 0) (.slice none 0 0) [] (.slice none 0 0) 0 0 []) (obC 2 (.slice none 0 0) x8 [] (.slice none 0 0) 0 0 []) sD 173 3 (l+1) x8 (d++[(⟨m,nm,hs⟩:Itm)]).length ((d++[(⟨m,nm,hs⟩:Itm)]).flatMap itC) (wd.setCell ⟨H,2,none⟩ x8)):=by
    have p:=G.put 2 x8 (c6:=obC 2 (.slice none 0 0) x8 [] (.slice none 0 0) 0 0 []) rfl;unfold Hid;rw[List.length_append,List.flatMap_append,List.flatMap_singleton];exact p
   have c7:∃J Q K,x8=.slice J Q K:=by
    rcases G.own.2 with⟨h,-⟩ | ⟨g,c,ce,h,-⟩
    iterate 2
     .exact ⟨_,_,_,h⟩
   obtain⟨xa,xn,xc,rfl⟩:=c7;clear ad G;go_wp2_with fail;go_roundw
   case rel=>exact⟨k+1,sD,d++[⟨m,nm,hs⟩],_,a0.out,by go_num,b9,Y,bs⟩
   case measure=>have:=a0.out;simp[intOf];omega
 have b6:¬((y:Nat):Int)=2:=by omega
 have b2:(((y:Nat):Int)==2)=false:=by simpa using b6
 by_cases k3:y=3
 .subst k3;obtain⟨⟨sH,A⟩,hH⟩:∃q,bA ⟨b,false⟩=q:=⟨_,rfl⟩;obtain⟨⟨sO,N⟩,hO⟩:∃q,cz sH=q:=⟨_,rfl⟩;obtain⟨⟨sP,ps⟩,hP⟩:∃q,fY N sO []=q:=⟨_,rfl⟩;obtain⟨⟨sS,st⟩,hS⟩:∃q,bl false sP=q:=⟨_,rfl⟩;obtain⟨⟨sU,au⟩,hU⟩:∃q,bl false sS=q:=⟨_,rfl⟩;obtain⟨⟨sV,ml⟩,hV⟩:∃q,bl false sU=q:=⟨_,rfl⟩;obtain⟨⟨sW,W⟩,hW⟩:∃q,bG sV ml=q:=⟨_,rfl⟩;have d6:Hid (o9=⟨3,[],[],A,ps,st,au,W⟩):=by
   have p:=HQ.out;unfold eP wT at p;rw[if_neg (show ¬((3:Nat):Int)=1 by decide),if_neg (show ¬((3:Nat):Int)=2 by decide),if_pos (show((3:Nat):Int)=3 from rfl),hH]at p;dsimp only at p;rw[hO]at p;dsimp only at p;rw[hP]at p;dsimp only at p;rw[hS]at p;dsimp only at p;rw[hU]at p;dsimp only at p;rw[hV]at p;dsimp only at p;rw[hW]at p;exact(Prod.mk.inj p).2.symm
  have c8:Hid (Calls Tryz.prog 163 #[.pointer (some ⟨l,0,none⟩)] w3 fun e t=>e=.returned (S8 A)/\IsSrc t l sH/\w3.grownBy t (some l)):=by
   have p:=mF l ⟨b,false⟩ w3 HS.out
   rwa [hH]at p
  have c9:Hid (∀w',IsSrc w' l sH->Calls Tryz.prog 161 #[.pointer (some ⟨l,0,none⟩)] w' fun e t=>e=.returned (.int .i64 (N:Nat))/\IsSrc t l sO/\w'.grownBy t (some l)):=fun w' h=>by
   have p:=vN l sH w' h
   rwa [hO]at p
  have d3:Hid (∀w',IsSrc w' l sP->Calls Tryz.prog 160 #[.pointer (some ⟨l,0,none⟩)] w' fun e t=>e=.returned (.int .i64 (st:Nat))/\IsSrc t l sS/\w'.grownBy t (some l)):=fun w' h=>by
   have p:=jS l sP w' h
   rwa [hS]at p
  have d4:Hid (∀w',IsSrc w' l sS->Calls Tryz.prog 160 #[.pointer (some ⟨l,0,none⟩)] w' fun e t=>e=.returned (.int .i64 (au:Nat))/\IsSrc t l sU/\w'.grownBy t (some l)):=fun w' h=>by
   have p:=jS l sS w' h
   rwa [hU]at p
  have d5:Hid (∀w',IsSrc w' l sU->Calls Tryz.prog 160 #[.pointer (some ⟨l,0,none⟩)] w' fun e t=>e=.returned (.int .i64 (ml:Nat))/\IsSrc t l sV/\w'.grownBy t (some l)):=fun w' h=>by
   have p:=jS l sU w' h
   rwa [hV]at p
  have eb:Hid (∀w',IsSrc w' l sV->Calls Tryz.prog 162 #[.pointer (some ⟨l,0,none⟩),.int .i64 ml] w' fun e t=>∃v,e=.returned v/\IsBytes t v W/\IsSrc t l sW/\w'.grownBy t (some l)):=fun w' h=>by
   have p:=jU l sV ml w' h
   rwa [hW]at p
  have eo:N<=255:=by
   have p:=congrArg Prod.snd hO;unfold cz at p;dsimp only at p;have:=((bG sH 1).2.headD 0).toNat_lt;omega
  have c':Hid (fY (N - 0) sO []=(sP,ps)):=hP;clear hH hO hP hS hU hV hW HQ;go_wp2_with fail;go_at_call 163;refine Calls.mono c8.out ?_;rintro e9 w4 ⟨rfl,ao,T⟩;have h4:RdS w O H l (obC 0 (.slice none 0 0) (.slice none 0 0) [] (.slice none 0 0) 0 0 []) (obC 3 (.slice none 0 0) (.slice none 0 0) [] (.slice none 0 0) 0 0 []) sH 9 1 (l+1) (.slice none 0 0) 0 [] w4 :=
   RdS.step ⟨HS.out,R4.out,R5.out,World.ownsRow_nil _ _ _ _,by omega,a1.out,by have:=X.out;omega⟩ ao T
  have y3:=(bt h4.r5).2.2.2.1;have el:w4.frozen? ⟨H,3,none⟩=false:=by simp[World.frozen?,h4.r5]
  have a9:Hid _:=h4.put 3 (S8 A) (c6:=obC 3 (.slice none 0 0) (.slice none 0 0) A (.slice none 0 0) 0 0 []) rfl;clear h4 ao T c8 R4 R5 HS;go_upto_region 16 with fail;obtain⟨w5,V⟩:∃w5,w5=w4.setCell ⟨H,3,none⟩ (S8 A):=⟨_,rfl⟩;rw[<-V];rw[<-V]at a9;clear V y3 el;go_wp2_with fail;go_at_call 161;refine(c9.out w5 a9.out.src).mono ?_;rintro e9 w6 ⟨rfl,C,B⟩;have d':Hid _:=a9.out.step C B;clear C B c9 a9;go_wp2_with fail;go_loopw [12] (fun i wr=>∃(k:Nat) (s:Src) (d:List B8) (v:Value),k<=N/\i=.int .i64 k/\d.length=k/\Hid (fY (N - k) s d=(sP,ps))/\Hid (RdS w O H l (obC 0 (.slice none 0 0) (.slice none 0 0) [] (.slice none 0 0) 0 0 []) (obC 3 (.slice none 0 0) (.slice none 0 0) A v 0 0 []) s 9 1 (l+1) v d.length (d.map S8) wr)) (fun i _=>N - (intOf i).toNat)
  case atStart=>exact⟨0,sO,[],.slice none 0 0,Nat.zero_le _,rfl,rfl,c',d'⟩
  case round =>
  obtain⟨k,s,d,v,F,rfl,er,HI,S⟩:=hrel;obtain⟨sb,L⟩:∃x,s.bad=x:=⟨_,rfl⟩;obtain⟨ek,e7,cx,ag,-,-⟩:=S.out.src;rw[L]at ag;have y1:=(kV ag).2;have Z:Hid _:=L;clear ag L
  by_cases E:k=N\/sb=true
  .have e6:s=sP/\d=ps:=by
    have p:=HI.out;have h8:fY (N - k) s d=(s,d):=by
     rcases E with h | h
     .rw [h,Nat.sub_self];rfl
     .cases e4:N - k with
      | zero=>rfl
      | succ j =>
       have h7:=Z.out;rw[h]at h7;rw[fY,if_pos h7]
    rw[h8]at p;exact⟨(Prod.mk.inj p).1,(Prod.mk.inj p).2⟩
   obtain⟨rfl,rfl⟩:=e6;have c3:∃J Q K,v=.slice J Q K:=by
    rcases S.out.own.2 with⟨h,-⟩ | ⟨g,c,ce,h,-⟩
    iterate 2
     .exact ⟨_,_,_,h⟩
   obtain⟨J,Q,K,rfl⟩:=c3;have cq:d.length<=255:=by omega
   have a6:Hid _:=cq;have ab:(¬(k:Int)<(N:Int))\/((k:Int)<(N:Int)/\sb=true):=by
    rcases E with h | h
    .left;omega
    .by_cases e3:k<N
     .exact .inr ⟨by omega,h⟩
     .left;omega
   clear E HI c' cq;rcases ab with hc | ⟨hc,L⟩
   case' inr=>subst L
   all_goals
    go_wp2_with fail;go_at_call 160;refine(d3.out _ S.out.src).mono ?_;rintro e9 wa ⟨rfl,C,B⟩;have ai:Hid _:=S.out.step C B;clear C B y1;go_wp2_with fail;go_at_call 160;refine(d4.out wa ai.out.src).mono ?_;rintro e9 wb ⟨rfl,C,B⟩;have bh:=ai.out.step C B;have bi:=bh.put 5 (.int .i64 st) (c6:=obC 3 (.slice none 0 0) (.slice none 0 0) A (.slice J Q K) st 0 []) rfl;have y5:=(bt bh.r5).2.2.2.2.2.1;have cf:wb.frozen? ⟨H,5,none⟩=false:=by simp[World.frozen?,bh.r5]
    have y6:=(bt bi.r5).2.2.2.2.2.2.1;have ci:(wb.setCell ⟨H,5,none⟩ (.int .i64 st)).frozen? ⟨H,6,none⟩=false:=by simp[World.frozen?,bi.r5]
    have Y:Hid _:=bi.put 6 (.int .i64 au) (c6:=obC 3 (.slice none 0 0) (.slice none 0 0) A (.slice J Q K) st au []) rfl;clear C B bh bi;go_upto_region 22 with fail;obtain⟨wd,c4⟩:∃wd,wd=(wb.setCell ⟨H,5,none⟩ (.int .i64 st)).setCell ⟨H,6,none⟩ (.int .i64 au):=⟨_,rfl⟩;rw[<-c4];rw[<-c4]at Y;clear c4 y5 y6 cf ci;go_wp2_with fail;go_at_call 160;refine(d5.out wd Y.out.src).mono ?_;rintro e9 we ⟨rfl,C,B⟩;have a':Hid _:=Y.out.step C B;clear C B;go_wp2_with fail;go_at_call 162;refine(eb.out we a'.out.src).mono ?_;rintro e9 wf ⟨vt,rfl,aa,C,B⟩;have bk:=a'.out.step C B;have dn:=dK aa;obtain⟨ta,tc,rfl,-⟩:=id aa;have y7:=(bt bk.r5).2.2.2.2.2.2.2;have em:wf.frozen? ⟨H,7,none⟩=false:=by simp[World.frozen?,bk.r5]
    have am:Hid _:=bk.put 7 (S8 W) (c6:=(obC 3 (.slice none 0 0) (.slice none 0 0) A (.slice J Q K) st au W)) rfl;clear C B aa bk;go_upto_region 23 with fail;obtain⟨wg,c5⟩:∃wg,wg=wf.setCell ⟨H,7,none⟩ (S8 W):=⟨_,rfl⟩;rw[<-c5];rw[<-c5]at am;clear c5 y7 em dn;have R4:Hid _:=am.out.r4;have R5:Hid _:=am.out.r5;obtain⟨q0,q1,q2,q3,q4,q5,q6,q7⟩:=bt R5.out;have I:=R4.out
    go_wp2_with (refine wpList_store_row rfl 141 (.tmp 4) (.tmp 95) rfl O (obC 3 (.slice none 0 0) (.slice none 0 0) A (.slice J Q K) st au W) rfl rfl 141 _ I ch rfl (by simp[Value.oneCell']) ?_)
    refine bodyPost_ret (results_cell_row rfl _ _ O 141 (obC 3 (.slice none 0 0) (.slice none 0 0) A (.slice J Q K) st au W) (0,0) _ rfl (setRow_heap _ _ _ _ _ _ I) Tryz.underlying141 rfl ch) rfl ?_;refine⟨⟨_,rfl,?_⟩,Ext.but am.out.ext (aw _ _ _) (Nat.le_of_eq X.out)⟩;rw[d6.out];exact IsObT.put (o:=⟨3,[],[],A,d,st,au,W⟩) ⟨.slice none 0 0,.slice none 0 0,.slice J Q K,rfl,Row.nil _,Row.nil _,Row.GW am.out.own (by have:=a6.out;show d.length<=140737488355328;omega),TypB.nil _ _ _,Typed.nil _ _ _ _,Typed.GW am.out.own⟩ (aw _ _ _) I
  .have cv:k<N:=by omega
   have a0:Hid (k<N):=cv;have c1:sb=false:=by
    cases sb with
    | false=>rfl
    | true=>exact absurd (.inr rfl) E
   subst c1;have e2:(k:Int)<(N:Int):=by omega
   obtain⟨j,D⟩:∃j,N - k=j+1:=⟨N - k - 1,by omega⟩;obtain⟨⟨sD,hs⟩,hD⟩:∃q,bA s=q:=⟨_,rfl⟩;have b9:Hid (fY (N - (k+1)) sD (d++[hs])=(sP,ps)):=by
    have p:=HI.out;rw[D,fY,if_neg (by rw[Z.out];simp),hD]at p;rw[show N - (k+1)=j by omega];exact p
   have HD:Hid (bA s=(sD,hs)):=hD;have cb:Hid (∀w',IsSrc w' l s->Calls Tryz.prog 163 #[.pointer (some ⟨l,0,none⟩)] w' fun e t=>e=.returned (S8 (bA s).2)/\IsSrc t l (bA s).1/\w'.grownBy t (some l)):=fun w' h=>mF l s w' h
   obtain⟨l1,l2,l3,l4⟩:=S.out.lt;have av:Hid (∀k o,(k,o)∈[(O,Obj.cells (obC 0 (.slice none 0 0) (.slice none 0 0) [] (.slice none 0 0) 0 0 []) 141 (0,0)),(H,Obj.cells (obC 3 (.slice none 0 0) (.slice none 0 0) A v 0 0 []) 141 (0,0))]->k≠l/\k<l+1):=fun k o F=>by
    simp only[List.mem_cons,Prod.mk.injEq,List.not_mem_nil,or_false]at F;rcases F with⟨rfl,-⟩ | ⟨rfl,-⟩ <;> omega
   have hB:w.heap.size<=l:=by omega
   have cq:d.length<=255:=by omega
   clear hD D E HI;go_upto_region 20 with fail;apply bJ 7 (fun z w'=>RdC w l s 9 1 (l+1) v d.length (d.map S8) [S8 (bA s).2] [(O,Obj.cells (obC 0 (.slice none 0 0) (.slice none 0 0) [] (.slice none 0 0) 0 0 []) 141 (0,0)),(H,Obj.cells (obC 3 (.slice none 0 0) (.slice none 0 0) A v 0 0 []) 141 (0,0))] (z 3) (z 4) (z 5) w') [false,false,false,true,true,true,false] [_,v,_,undef,undef,undef,_] [none,none,none,none,none,none,none] [[],[0],[],[2],[3],[1,4],[]] (by kernel_rfl) (by kernel_rfl) rfl
   .exact RdS.IJ S.out ⟨rfl,rfl,rfl,Nat.le_refl _,fun _ _=>rfl⟩
   .simp (maxSteps:=1000000)only[fC,eR,dm,dM,eG,List.getD_cons_zero,List.getD_cons_succ,Bool.false_eq_true,if_false,if_true,and_true,true_and,forall_const,Nat.zero_add,Nat.reduceAdd,List.take_succ_cons,List.take_zero,af,Act.put,List.setIfInBounds_toArray,List.set_cons_zero,List.set_cons_succ];and_intros
    iterate 3 · intro M z wq D;intros;rename_i P;have f2:=(bt D.k5).2.2.2.2.1;go_simp;exact P _ _ D rfl
    .intro M z wq D hz F R P;rw[hz]at D;go_simp;exact(cb.out wq (D.H9 rfl)).mono (by rintro e' w' ⟨rfl,h1,h2⟩;exact⟨_,rfl,P _ _ (D.hash (Nat.lt_succ_self _) hB (fun k o F=>(av.out k o F).1) h1 h2)⟩)
    .intro M z wq D hz F R P;rw[hz]at D;obtain⟨e5,-⟩:=D.Hj _ F;rw[e5];go_simp;exact P _ _ D.Ha
    .intro M z wq D hz F R P;obtain⟨ba,bc⟩:=F;rw[hz]at D;obtain⟨v',w',hr,cu⟩:=D.app bc (Nat.lt_succ_self _) (by omega) (fun k o F=>(av.out k o F).2) Tryz.underlying38 eu rfl (by omega) rfl (by simp[Value.oneCell']) (by omega) (by omega);apply ez (.tmp 77) (.tmp 80) 38 38 (v:=M 1) (xv:=M 4) (v':=v') (w':=w')
     iterate 4
      .rfl
     .rw [ba];exact hr
     .exact P _ _ cu
    .intro M z wq D;intros;rename_i P;have f2:=(bt D.k5).2.2.2.2.1;go_simp;exact P _ _ D rfl
   intro M wd ad F;simp only[fE,List.getD_cons_zero,List.getD_cons_succ,Bool.false_eq_true,if_false,if_true]at ad;simp only[df,Nat.zero_add,Nat.reduceAdd,and_true]at F;simp(maxSteps:=1000000)only[List.drop_succ_cons,List.drop_zero,Nat.zero_add,Nat.reduceAdd,List.take_succ_cons,List.take_zero,af,Act.put,List.setIfInBounds_toArray,List.set_cons_zero,List.set_cons_succ,F];clear F;generalize M 3=x3 at *;generalize M 4=x4 at *;generalize M 5=x5 at *;have G:=RdC.IK ⟨l1,l2,l3,l4⟩ ad;rw[HD.out]at G;dsimp only at G;have y6:=(bt G.r5).2.2.2.2.1;have ci:wd.frozen? ⟨H,4,none⟩=false:=by simp[World.frozen?,G.r5]
   have Y:Hid (RdS w O H l (obC 0 (.slice none 0 0) (.slice none 0 0) [] (.slice none 0 0) 0 0 []) (obC 3 (.slice none 0 0) (.slice none 0 0) A x5 0 0 []) sD 9 1 (l+1) x5 (d++[hs]).length ((d++[hs]).map S8) (wd.setCell ⟨H,4,none⟩ x5)):=by
    have p:=G.put 4 x5 (c6:=obC 3 (.slice none 0 0) (.slice none 0 0) A x5 0 0 []) rfl;unfold Hid;rw[List.length_append,List.map_append];exact p
   have c7:∃J Q K,x5=.slice J Q K:=by
    rcases G.own.2 with⟨h,-⟩ | ⟨g,c,ce,h,-⟩
    iterate 2
     .exact ⟨_,_,_,h⟩
   obtain⟨xa,xn,xc,rfl⟩:=c7;have ds:(d++[hs]).length=k+1:=by rw[List.length_append,er];rfl
   have d2:Hid _:=ds;clear ad G ds;go_wp2_with fail;go_roundw
   case rel=>exact⟨k+1,sD,d++[hs],_,a0.out,by go_num,d2.out,b9,Y⟩
   case measure=>have:=a0.out;simp[intOf];omega
 .have b7:¬((y:Nat):Int)=3:=by omega
  have b3:(((y:Nat):Int)==3)=false:=by simpa using b7
  have d7:Hid (o9=⟨y,[],[],[],[],0,0,[]⟩):=by
   have p:=HQ.out;unfold eP at p;rw[if_neg b5,if_neg b6,if_neg b7]at p;exact(Prod.mk.inj p).2.symm
  clear HQ;go_upto_region 23 with fail;obtain⟨q0,q1,q2,q3,q4,q5,q6,q7⟩:=bt R5.out;have I:=R4.out
  go_wp2_with (refine wpList_store_row rfl 141 (.tmp 4) (.tmp 95) rfl O (obC y (.slice none 0 0) (.slice none 0 0) [] (.slice none 0 0) 0 0 []) rfl rfl 141 _ I ch rfl (by simp[Value.oneCell']) ?_)
  refine bodyPost_ret (results_cell_row rfl _ _ O 141 (obC y (.slice none 0 0) (.slice none 0 0) [] (.slice none 0 0) 0 0 []) (0,0) _ rfl (setRow_heap _ _ _ _ _ _ I) Tryz.underlying141 rfl ch) rfl ?_;refine⟨⟨_,rfl,?_⟩,Ext.but a1.out (aw _ _ _) (Nat.le_of_eq X.out)⟩;rw[d7.out];exact⟨.slice none 0 0,.slice none 0 0,.slice none 0 0,rfl,Row.nil _,Row.nil _,Row.nil _,TypB.nil _ _ _,Typed.nil _ _ _ _,Typed.nil _ _ _ _⟩
end
end Go.Proofs.YtgfegpnmlkdjfaaGreatDoor
