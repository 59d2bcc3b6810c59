/- Contracts of the program's functions and plain laws behind the card. Conditions: as each theorem states. -/
import Derived.Test.YtfabjgfmiaammaaGreatDoorYbl
import Derived.Test.YtfabjgfmiaammaaGreatDoorYbj
import Derived.Test.YtfabjgfmiaammaaGreatDoorYbk
set_option linter.unusedVariables false
set_option linter.unusedSimpArgs false
set_option linter.unusedSectionVars false
set_option maxRecDepth 100000
set_option maxHeartbeats 64000000
namespace Go.Proofs.YtfabjgfmiaammaaGreatDoor
section
open Go Go.RowKit
structure RrC (wB:World) (g:Nat) (f:B8) (s0:Src) (e:TypeId) (size base:Nat) (v:Value) (n:Nat) (cs news:List Value) (keep:List (Nat×Obj)) (vx:Value) (lx:B8) (zt zl za:Option Value) (w:World):Prop where
 aux:IsBytes w vx lx/\∀k,vx.ownBlock=some k->k≠g/\v.ownBlock≠some k
 Cy:zt=none->IsRd w g f s0
 Ct:∀u,zt=some u->IsRd w g f (aD s0 32).1
 CL:∀u,zt=some u->IsBytes w u (aD s0 32).2/\∀k,u.ownBlock=some k->v.ownBlock≠some k
 CG:∀k,v.ownBlock=some k->base<=k/\k<w.heap.size
 kp:∀k o,(k,o)∈keep->w.heap[k]? = some o
 Cp:za=none->w.ownsRow base e size v n cs
 Cv:∀u,za=some u->w.ownsRow base e size u (n+1) (cs++news)
 lit:∀u,zl=some u->za=none->∃gl,u=.slice (some ⟨gl,0,none⟩) 1 1/\base<=gl/\w.heap[gl]? = some (.cells news.toArray e (0,0))
 sz:base<=w.heap.size
 ext:Ext wB w
section
variable {wB w w':World} {g:Nat} {f:B8} {s0:Src} {e:TypeId} {size base:Nat} {v:Value} {n:Nat} {cs news:List Value} {keep:List (Nat×Obj)} {vx:Value} {lx:B8} {zt zl za:Option Value}
theorem RrC.start (i:IsRd w g f s0) (j:∀k o,(k,o)∈keep->w.heap[k]? = some o) (d:w.ownsRow base e size v n cs) (l:base<=w.heap.size) (p:Ext wB w) (h:IsBytes w vx lx/\∀k,vx.ownBlock=some k->k≠g/\v.ownBlock≠some k) (b:Ext w w'):RrC wB g f s0 e size base v n cs news keep vx lx none none none w' :=
 ⟨⟨IsBytes.ext h.1 b,h.2⟩,fun _=>i.ext b,fun u a=>(by cases a),fun u a=>(by cases a),fun k c=>⟨(d.lt k c).1,Nat.lt_of_lt_of_le (d.lt k c).2 b.size⟩,fun k o c=>Ext.row b (j k o c),fun _=>am d b,fun u a=>(by cases a),fun u a=>(by cases a),Nat.le_trans l b.size,p.trans b⟩
theorem RrC.more (h:RrC wB g f s0 e size base v n cs news keep vx lx zt zl za w) (a:Ext w w'):RrC wB g f s0 e size base v n cs news keep vx lx zt zl za w' :=
 ⟨⟨IsBytes.ext h.aux.1 a,h.aux.2⟩,fun c=>(h.Cy c).ext a,fun u b=>(h.Ct u b).ext a,fun u b=>⟨IsBytes.ext (h.CL u b).1 a,(h.CL u b).2⟩,fun k d=>⟨(h.CG k d).1,Nat.lt_of_lt_of_le (h.CG k d).2 a.size⟩,fun k o d=>Ext.row a (h.kp k o d),fun c=>am (h.Cp c) a,fun u b=>am (h.Cv u b) a,
  fun u b c=>by obtain⟨p,i,j,l⟩:=h.lit u b c;exact⟨p,i,j,Ext.row a l⟩,Nat.le_trans h.sz a.size,h.ext.trans a⟩
variable {u:Value}
theorem RrC.take (h:RrC wB g f s0 e size base v n cs news keep vx lx none zl za w) (N:g<base) (G:wB.heap.size<=g) (d:∀k o,(k,o)∈keep->k≠g) (y:IsBytes w' u (aD s0 32).2) (I:∀a M A,u=.slice (some a) M A->w.heap.size<=a.block) (F:IsRd w' g f (aD s0 32).1) (b:w.grownBy w' (some g)):RrC wB g f s0 e size base v n cs news keep vx lx (some u) zl za w':=by
 have own:∀u m t,w.ownsRow base e size u m t->w'.ownsRow base e size u m t:=fun u m t z=>z.kept b (by
  cases q:u.ownBlock with
  | none=>exact .inl rfl
  | some j=>exact .inr (fun p=>by cases p;have:=(z.lt _ q).1;omega))
 refine⟨⟨Row.but h.aux.1 b (fun a n c p J=>(h.aux.2 g (by rw[p];exact congrArg some J)).1 rfl),h.aux.2⟩,fun h=>(by cases h),fun u l=>F,fun x L=>?_,fun k d=>⟨(h.CG k d).1,Nat.lt_of_lt_of_le (h.CG k d).2 b.size⟩,fun k o i=>aV b (h.kp k o i) (d k o i),fun r=>own _ _ _ (h.Cp r),fun u l=>own _ _ _ (h.Cv u l),fun u l r=>?_,Nat.le_trans h.sz b.size,Ext.but h.ext b G⟩
 .cases L;refine⟨y,fun k d q=>?_⟩
  obtain⟨a,c,rfl,-⟩:=y;have K:=(h.CG k q).2
  cases a with
  | none=>simp[Value.ownBlock]at d
  | some a =>
   have H:a.block=k:=by simpa [Value.ownBlock]using d
   have:=I a _ _ rfl;omega
 .obtain ⟨E,B,C,D⟩:=h.lit u l r;exact⟨E,B,C,aV b D (by omega)⟩
theorem RrC.Cx (h:RrC wB g f s0 e size base v n cs news keep vx lx zt none za w):RrC wB g f s0 e size base v n cs news keep vx lx zt (some (.slice (some ⟨w.heap.size,0,none⟩) 1 1)) za (w.alloc (.cells news.toArray e)):=by
 have c:Ext w (w.alloc (.cells news.toArray e)):=(Ext.refl w).alloc _;have a:=h.more c;exact⟨a.aux,a.Cy,a.Ct,a.CL,a.CG,a.kp,a.Cp,a.Cv,fun u b d=>(by cases b;exact⟨_,rfl,h.sz,ae _ _⟩),a.sz,a.ext⟩
theorem RrC.app {T:TypeId} {z:Value} {bytes:Nat} (h:RrC wB g f s0 e size base v n cs news keep vx lx zt zl none w) (b:zl=some u) (Z:g<base) (N:wB.heap.size<=base) (G:∀k o,(k,o)∈keep->k<base)
  (V:Tryz.prog.underlying T=some (.slice e)) (r:(Tryz.prog.info? e).map (fun i=>(i.zero,i.size,i.bytes))=some (some z,size,bytes)) (J:z.cells.size=size) (H:0<size) (S:news.length=1*size) (L:∀u∈news,u.oneCell'=true) (O:(n+1)*bytes<=140737488355328) (F:n+1<=1000000000) :
  ∃D w',(Builtin.append_ #[T,T] T #[v,u]).run Tryz.prog w=.ok D w'/\RrC wB g f s0 e size base v n cs news keep vx lx zt zl (some D) w':=by
 obtain⟨X,rfl,Q,t⟩:=h.lit u b rfl;obtain⟨D,w',U,M,p,Y⟩:=gK T e z size bytes V r J H base v n cs (h.Cp rfl) _ 1 news (Row.new t (by decide) _ rfl) S L O F h.sz;have q:∀k,v.ownBlock=some k->base<=k:=fun k b=>((h.Cp rfl).lt k b).1
 have E:∀k o,k<base->w.heap[k]? = some o->w'.heap[k]? = some o:=fun k o b K=>(p.block k (Array.getElem?_eq_some_iff.1 K).1 (fun e=>by have:=q k e.symm;omega)).trans K
 have d:∀(x:Value) (l:B8),IsBytes w x l->(∀k,x.ownBlock=some k->v.ownBlock≠some k)->IsBytes w' x l:=fun x l A B=>by
  cases I:v.ownBlock with
  | none=>rw[I]at p;exact IsBytes.ext A (Below.grown (Ext.refl w) p (Nat.le_refl _) (fun k b=>by cases b))
  | some j =>
   rw[I]at p;exact Row.but A p (fun a n c P R=>B j (by rw[P];exact congrArg some R) I)
 refine⟨D,w',U,⟨d _ _ h.aux.1 (fun k b=>(h.aux.2 k b).2),h.aux.2⟩,fun y=>(h.Cy y).Cf p (fun k b=>by have:=q k b;omega),fun u C=>(h.Ct u C).Cf p (fun k b=>by have:=q k b;omega),fun x W=>?_,fun k b=>⟨(h.CG k b).1,Nat.lt_of_lt_of_le (h.CG k b).2 p.size⟩,fun k o b=>E k o (G k o b) (h.kp k o b),fun y=>(by cases y),fun u C=>(by cases C;exact M),fun u C y=>(by cases y),Nat.le_trans h.sz p.size,Below.grown h.ext p h.ext.size (fun k b=>Nat.le_trans N (q k b))⟩;obtain⟨A,B⟩:=h.CL x W;exact⟨d _ _ A B,B⟩
end
structure RrS (wB:World) (g2 gr go:Nat) (f:B8) (c2 co:Array Value) (s:Src) (e:TypeId) (size base:Nat) (v:Value) (n:Nat) (cs:List Value) (w:World):Prop where
 src:IsRd w gr f s
 r2:w.heap[g2]? = some (.cells c2 95 (0,0))
 ro:w.heap[go]? = some (.cells co 95 (0,0))
 own:w.ownsRow base e size v n cs
 sz:base<=w.heap.size
 ext:Ext wB w
 lt:wB.heap.size<=g2/\g2<gr/\gr<go/\go<base
section
variable {wB w w':World} {g2 gr go:Nat} {f:B8} {c2 co:Array Value} {s s':Src} {e:TypeId} {size base:Nat} {v:Value} {n:Nat} {cs:List Value}
theorem RrS.step (h:RrS wB g2 gr go f c2 co s e size base v n cs w) (b:IsRd w' gr f s') (a:w.grownBy w' (some gr)):RrS wB g2 gr go f c2 co s' e size base v n cs w':=by
 obtain⟨g,i,k,l⟩:=h.lt;refine⟨b,aV a h.r2 (by omega),aV a h.ro (by omega),h.own.kept a ?_,Nat.le_trans h.sz a.size,Ext.but h.ext a (by omega),h.lt⟩
 cases d:v.ownBlock with
 | none=>exact .inl rfl
 | some j=>exact .inr (fun c=>by cases c;have:=(h.own.lt _ d).1;omega)
theorem RrS.more (h:RrS wB g2 gr go f c2 co s e size base v n cs w) (a:Ext w w'):RrS wB g2 gr go f c2 co s e size base v n cs w' :=
 ⟨h.src.ext a,Ext.row a h.r2,Ext.row a h.ro,am h.own a,Nat.le_trans h.sz a.size,h.ext.trans a,h.lt⟩
variable {news:List Value} {vx:Value} {lx:B8}
theorem RrS.Du (h:RrS wB g2 gr go f c2 co s e size base v n cs w) (b:IsBytes w vx lx/\∀k,vx.ownBlock=some k->k≠gr/\v.ownBlock≠some k) (c:Ext w w'):RrC wB gr f s e size base v n cs news [(g2,.cells c2 95 (0,0)),(go,.cells co 95 (0,0))] vx lx none none none w' :=
 RrC.start h.src (fun k o a=>by
  simp only[List.mem_cons,Prod.mk.injEq,List.not_mem_nil,or_false]at a;rcases a with⟨rfl,rfl⟩ | ⟨rfl,rfl⟩
  .exact h.r2
  .exact h.ro) h.own h.sz h.ext b c
variable {zl:Option Value}
theorem RrC.Dv {u x:Value} (a:wB.heap.size<=g2/\g2<gr/\gr<go/\go<base) (h:RrC wB gr f s e size base v n cs news [(g2,.cells c2 95 (0,0)),(go,.cells co 95 (0,0))] vx lx (some x) zl (some u) w):RrS wB g2 gr go f c2 co (aD s 32).1 e size base u (n+1) (cs++news) w :=
 ⟨h.Ct x rfl,h.kp _ _ (by simp),h.kp _ _ (by simp),h.Cv u rfl,h.sz,h.ext,a⟩
theorem RrC.k5 {g:Nat} {d:Src} {i b:Nat} {c a:Obj} {k j:Option Value} (h:RrC wB g f d e size base v n cs news [(i,c),(b,a)] vx lx k zl j w):w.heap[b]? = some a:=h.kp _ _ (by simp)
theorem RrS.put (h:RrS wB g2 gr go f c2 co s e size base v n cs w) (j:Nat) (x:Value) {c6:Array Value} (b:co.setIfInBounds j x=c6):RrS wB g2 gr go f c2 c6 s e size base v n cs (w.setCell ⟨go,j,none⟩ x):=by
 obtain⟨i,l,o,p⟩:=h.lt;have a:=aH w go j x;refine⟨h.src.Cf a (fun k d=>by cases d;omega),aV a h.r2 (by omega),?_,h.own.kept a ?_,Nat.le_trans h.sz a.size,Ext.but h.ext a (by omega),h.lt⟩
 .rw [heap_setCell_same w go j _ _ _ h.ro,b]
 .cases g:v.ownBlock with
  | none=>exact .inl rfl
  | some k=>exact .inr (fun c=>by cases c;have:=(h.own.lt _ g).1;omega)
end
end
end Go.Proofs.YtfabjgfmiaammaaGreatDoor
