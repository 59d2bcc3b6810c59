/- Contracts of the program's functions and plain laws behind the card. Conditions: as each theorem states. -/
import Derived.Test.YtfabjgfmiaammaaGreatDoorZao
import Derived.Test.YtfabjgfmiaammaaGreatDoorZap
import Derived.Test.YtfabjgfmiaammaaGreatDoorZan
import Derived.Test.YtfabjgfmiaammaaGreatDoorZal
import Derived.Test.YtfabjgfmiaammaaGreatDoorZak
import Derived.Test.YtfabjgfmiaammaaGreatDoorZai
import Derived.Deep.QuietTactic
import Derived.BigQuiet
import Derived.Test.YtfabjgfmiaammaaGreatDoorZaf
import Derived.Test.YtfabjgfmiaammaaGreatDoorZab
set_option linter.unusedVariables false
set_option linter.unusedSimpArgs false
set_option linter.unusedSectionVars false
set_option maxRecDepth 100000
set_option maxHeartbeats 64000000
namespace Go.Proofs.YtfabjgfmiaammaaGreatDoor
section
open Go Go.RowKit
structure RrC (wB:World) (g:Nat) (f:B8) (s0:Src) (e:TypeId) (size base:Nat) (v:Value) (n:Nat) (cs news:List Value) (keep:List (Nat×Obj)) (vx:Value) (lx:B8) (zt zl za:Option Value) (w:World):Prop where
 aux:IsBytes w vx lx/\∀k,vx.ownBlock=some k->k≠g/\v.ownBlock≠some k
 Cr:zt=none->IsRd w g f s0
 Cl:∀u,zt=some u->IsRd w g f (az s0 32).1
 CJ:∀u,zt=some u->IsBytes w u (az s0 32).2/\∀k,u.ownBlock=some k->v.ownBlock≠some k
 CF:∀k,v.ownBlock=some k->base<=k/\k<w.heap.size
 kp:∀k o,(k,o)∈keep->w.heap[k]? = some o
 Cf:za=none->w.ownsRow base e size v n cs
 Co:∀u,za=some u->w.ownsRow base e size u (n+1) (cs++news)
 lit:∀u,zl=some u->za=none->∃gl,u=.slice (some ⟨gl,0,none⟩) 1 1/\base<=gl/\w.heap[gl]? = some (.cells news.toArray e (0,0))
 sz:base<=w.heap.size
 ext:Ext wB w
section
variable {wB w w':World} {g:Nat} {f:B8} {s0:Src} {e:TypeId} {size base:Nat} {v:Value} {n:Nat} {cs news:List Value} {keep:List (Nat×Obj)} {vx:Value} {lx:B8} {zt zl za:Option Value}
theorem RrC.start (i:IsRd w g f s0) (j:∀k o,(k,o)∈keep->w.heap[k]? = some o) (d:w.ownsRow base e size v n cs) (l:base<=w.heap.size) (p:Ext wB w) (h:IsBytes w vx lx/\∀k,vx.ownBlock=some k->k≠g/\v.ownBlock≠some k) (a:Ext w w'):RrC wB g f s0 e size base v n cs news keep vx lx none none none w' :=
 ⟨⟨IsBytes.ext h.1 a,h.2⟩,fun _=>i.ext a,fun u b=>(by cases b),fun u b=>(by cases b),fun k c=>⟨(d.lt k c).1,Nat.lt_of_lt_of_le (d.lt k c).2 a.size⟩,fun k o c=>Ext.row a (j k o c),fun _=>al d a,fun u b=>(by cases b),fun u b=>(by cases b),Nat.le_trans l a.size,p.trans a⟩
theorem RrC.more (h:RrC wB g f s0 e size base v n cs news keep vx lx zt zl za w) (a:Ext w w'):RrC wB g f s0 e size base v n cs news keep vx lx zt zl za w' :=
 ⟨⟨IsBytes.ext h.aux.1 a,h.aux.2⟩,fun c=>(h.Cr c).ext a,fun u b=>(h.Cl u b).ext a,fun u b=>⟨IsBytes.ext (h.CJ u b).1 a,(h.CJ u b).2⟩,fun k d=>⟨(h.CF k d).1,Nat.lt_of_lt_of_le (h.CF k d).2 a.size⟩,fun k o d=>Ext.row a (h.kp k o d),fun c=>al (h.Cf c) a,fun u b=>al (h.Co u b) a,
  fun u b c=>by obtain⟨i,j,l,p⟩:=h.lit u b c;exact⟨i,j,l,Ext.row a p⟩,Nat.le_trans h.sz a.size,h.ext.trans a⟩
variable {u:Value}
theorem RrC.take (h:RrC wB g f s0 e size base v n cs news keep vx lx none zl za w) (N:g<base) (A:wB.heap.size<=g) (b:∀k o,(k,o)∈keep->k≠g) (y:IsBytes w' u (az s0 32).2) (B:∀a C D,u=.slice (some a) C D->w.heap.size<=a.block) (E:IsRd w' g f (az s0 32).1) (d:w.grownBy w' (some g)):RrC wB g f s0 e size base v n cs news keep vx lx (some u) zl za w':=by
 have own:∀u m p,w.ownsRow base e size u m p->w'.ownsRow base e size u m p:=fun u m p z=>z.kept d (by
  cases q:u.ownBlock with
  | none=>exact .inl rfl
  | some j=>exact .inr (fun r=>by cases r;have:=(z.lt _ q).1;omega))
 refine⟨⟨Row.but h.aux.1 d (fun a n c r F=>(h.aux.2 g (by rw[r];exact congrArg some F)).1 rfl),h.aux.2⟩,fun h=>(by cases h),fun u l=>E,fun x G=>?_,fun k b=>⟨(h.CF k b).1,Nat.lt_of_lt_of_le (h.CF k b).2 d.size⟩,fun k o i=>aS d (h.kp k o i) (b k o i),fun t=>own _ _ _ (h.Cf t),fun u l=>own _ _ _ (h.Co u l),fun u l t=>?_,Nat.le_trans h.sz d.size,Ext.but h.ext d A⟩
 .cases G;refine⟨y,fun k b q=>?_⟩
  obtain⟨a,c,rfl,-⟩:=y;have H:=(h.CF k q).2
  cases a with
  | none=>simp[Value.ownBlock]at b
  | some a =>
   have I:a.block=k:=by simpa [Value.ownBlock]using b
   have:=B a _ _ rfl;omega
 .obtain ⟨J,K,L,M⟩:=h.lit u l t;exact⟨J,K,L,aS d M (by omega)⟩
theorem RrC.Cp (h:RrC wB g f s0 e size base v n cs news keep vx lx zt none za w):RrC wB g f s0 e size base v n cs news keep vx lx zt (some (.slice (some ⟨w.heap.size,0,none⟩) 1 1)) za (w.alloc (.cells news.toArray e)):=by
 have b:Ext w (w.alloc (.cells news.toArray e)):=(Ext.refl w).alloc _;have a:=h.more b;exact⟨a.aux,a.Cr,a.Cl,a.CJ,a.CF,a.kp,a.Cf,a.Co,fun u c d=>(by cases c;exact⟨_,rfl,h.sz,ab _ _⟩),a.sz,a.ext⟩
theorem RrC.app {T:TypeId} {z:Value} {bytes:Nat} (h:RrC wB g f s0 e size base v n cs news keep vx lx zt zl none w) (b:zl=some u) (X:g<base) (L:wB.heap.size<=base) (E:∀k o,(k,o)∈keep->k<base)
  (M:Tryz.prog.underlying T=some (.slice e)) (r:(Tryz.prog.info? e).map (fun i=>(i.zero,i.size,i.bytes))=some (some z,size,bytes)) (F:z.cells.size=size) (G:0<size) (N:news.length=1*size) (O:∀u∈news,u.oneCell'=true) (P:(n+1)*bytes<=140737488355328) (H:n+1<=1000000000) :
  ∃A w',(Builtin.append_ #[T,T] T #[v,u]).run Tryz.prog w=.ok A w'/\RrC wB g f s0 e size base v n cs news keep vx lx zt zl (some A) w':=by
 obtain⟨Y,rfl,Q,t⟩:=h.lit u b rfl;obtain⟨A,w',R,S,p,Z⟩:=gG T e z size bytes M r F G base v n cs (h.Cf rfl) _ 1 news (Row.new t (by decide) _ rfl) N O P H h.sz;have q:∀k,v.ownBlock=some k->base<=k:=fun k b=>((h.Cf rfl).lt k b).1
 have I:∀k o,k<base->w.heap[k]? = some o->w'.heap[k]? = some o:=fun k o b K=>(p.block k (Array.getElem?_eq_some_iff.1 K).1 (fun e=>by have:=q k e.symm;omega)).trans K
 have d:∀(x:Value) (l:B8),IsBytes w x l->(∀k,x.ownBlock=some k->v.ownBlock≠some k)->IsBytes w' x l:=fun x l B C=>by
  cases J:v.ownBlock with
  | none=>rw[J]at p;exact IsBytes.ext B (Below.grown (Ext.refl w) p (Nat.le_refl _) (fun k b=>by cases b))
  | some j =>
   rw[J]at p;exact Row.but B p (fun a n c U V=>C j (by rw[U];exact congrArg some V) J)
 refine⟨A,w',R,⟨d _ _ h.aux.1 (fun k b=>(h.aux.2 k b).2),h.aux.2⟩,fun y=>(h.Cr y).B' p (fun k b=>by have:=q k b;omega),fun u D=>(h.Cl u D).B' p (fun k b=>by have:=q k b;omega),fun x W=>?_,fun k b=>⟨(h.CF k b).1,Nat.lt_of_lt_of_le (h.CF k b).2 p.size⟩,fun k o b=>I k o (E k o b) (h.kp k o b),fun y=>(by cases y),fun u D=>(by cases D;exact S),fun u D y=>(by cases y),Nat.le_trans h.sz p.size,Below.grown h.ext p h.ext.size (fun k b=>Nat.le_trans L (q k b))⟩;obtain⟨B,C⟩:=h.CJ x W;exact⟨d _ _ B C,C⟩
end
structure RrS (wB:World) (g2 gr go:Nat) (f:B8) (c2 co:Array Value) (s:Src) (e:TypeId) (size base:Nat) (v:Value) (n:Nat) (cs:List Value) (w:World):Prop where
 src:IsRd w gr f s
 r2:w.heap[g2]? = some (.cells c2 95 (0,0))
 ro:w.heap[go]? = some (.cells co 95 (0,0))
 own:w.ownsRow base e size v n cs
 sz:base<=w.heap.size
 ext:Ext wB w
 lt:wB.heap.size<=g2/\g2<gr/\gr<go/\go<base
section
variable {wB w w':World} {g2 gr go:Nat} {f:B8} {c2 co:Array Value} {s s':Src} {e:TypeId} {size base:Nat} {v:Value} {n:Nat} {cs:List Value}
theorem RrS.step (h:RrS wB g2 gr go f c2 co s e size base v n cs w) (b:IsRd w' gr f s') (a:w.grownBy w' (some gr)):RrS wB g2 gr go f c2 co s' e size base v n cs w':=by
 obtain⟨g,i,k,l⟩:=h.lt;refine⟨b,aS a h.r2 (by omega),aS a h.ro (by omega),h.own.kept a ?_,Nat.le_trans h.sz a.size,Ext.but h.ext a (by omega),h.lt⟩
 cases c:v.ownBlock with
 | none=>exact .inl rfl
 | some j=>exact .inr (fun d=>by cases d;have:=(h.own.lt _ c).1;omega)
theorem RrS.more (h:RrS wB g2 gr go f c2 co s e size base v n cs w) (a:Ext w w'):RrS wB g2 gr go f c2 co s e size base v n cs w' :=
 ⟨h.src.ext a,Ext.row a h.r2,Ext.row a h.ro,al h.own a,Nat.le_trans h.sz a.size,h.ext.trans a,h.lt⟩
variable {news:List Value} {vx:Value} {lx:B8}
theorem RrS.Dz (h:RrS wB g2 gr go f c2 co s e size base v n cs w) (b:IsBytes w vx lx/\∀k,vx.ownBlock=some k->k≠gr/\v.ownBlock≠some k) (c:Ext w w'):RrC wB gr f s e size base v n cs news [(g2,.cells c2 95 (0,0)),(go,.cells co 95 (0,0))] vx lx none none none w' :=
 RrC.start h.src (fun k o a=>by
  simp only[List.mem_cons,Prod.mk.injEq,List.not_mem_nil,or_false]at a;rcases a with⟨rfl,rfl⟩ | ⟨rfl,rfl⟩
  .exact h.r2
  .exact h.ro) h.own h.sz h.ext b c
variable {zl:Option Value}
theorem RrC.Dx {u x:Value} (a:wB.heap.size<=g2/\g2<gr/\gr<go/\go<base) (h:RrC wB gr f s e size base v n cs news [(g2,.cells c2 95 (0,0)),(go,.cells co 95 (0,0))] vx lx (some x) zl (some u) w):RrS wB g2 gr go f c2 co (az s 32).1 e size base u (n+1) (cs++news) w :=
 ⟨h.Cl x rfl,h.kp _ _ (by simp),h.kp _ _ (by simp),h.Co u rfl,h.sz,h.ext,a⟩
theorem RrC.k5 {g:Nat} {c:Src} {d a:Nat} {i b:Obj} {j k:Option Value} (h:RrC wB g f c e size base v n cs news [(d,i),(a,b)] vx lx j zl k w):w.heap[a]? = some b:=h.kp _ _ (by simp)
theorem RrS.put (h:RrS wB g2 gr go f c2 co s e size base v n cs w) (j:Nat) (x:Value) {c6:Array Value} (b:co.setIfInBounds j x=c6):RrS wB g2 gr go f c2 c6 s e size base v n cs (w.setCell ⟨go,j,none⟩ x):=by
 obtain⟨i,l,o,p⟩:=h.lt;have a:=aH w go j x;refine⟨h.src.B' a (fun k c=>by cases c;omega),aS a h.r2 (by omega),?_,h.own.kept a ?_,Nat.le_trans h.sz a.size,Ext.but h.ext a (by omega),h.lt⟩
 .rw [heap_setCell_same w go j _ _ _ h.ro,b]
 .cases d:v.ownBlock with
  | none=>exact .inl rfl
  | some k=>exact .inr (fun g=>by cases g;have:=(h.own.lt _ d).1;omega)
end
end
section
open Go Go.RowKit
variable {s:Src} {B:Nat}
theorem rE (a:Bool) (h:s.b.length<=B) (b:64<=B):(ew a s).1.b.length<=B/\(ew a s).2.name.length<=B/\(ew a s).2.id.length<=B:=by
 have c:=l8 s;have d:=cZ a (bi s).1;have e:=eD (aJ a (bi s).1).1 (aJ a (bi s).1).2;have g:=jG (aJ a (bi s).1).1 (aJ a (bi s).1).2;have i:=fV (az (aJ a (bi s).1).1 (aJ a (bi s).1).2).1;have j:=ik (az (aJ a (bi s).1).1 (aJ a (bi s).1).2).1;unfold ew;dsimp only;refine⟨by omega,by omega,by omega⟩
theorem kR (b:Bool) (c:64<=B):∀(n:Nat) (s:Src) (l:List Itm),s.b.length<=B->(∀x∈l,x.name.length<=B/\x.id.length<=B)->∀x∈(cK b n s l).2,x.name.length<=B/\x.id.length<=B
 | 0,s,l,_,h=>h
 | n+1,s,l,d,h=>by
  unfold cK;split
  .exact h
  .obtain ⟨e,g,i⟩:=rE b d c;refine kR b c n _ _ e (fun x a=>?_);rcases List.mem_append.1 a with a | a
   .exact h x a
   .rw [List.mem_singleton.1 a];exact⟨g,i⟩
theorem sm (b:Bool) (c:Int) (a:B8) (x:Src×List B8) (r:x.1.b.length<=10000000) (d:∀y∈x.2,y.length<=64) (e:a.length<=10000000):dm (lD b c a x).2:=by
 unfold lD;have g:=cZ b x.1;obtain⟨A,h⟩:∃q,aJ b x.1=q:=⟨_,rfl⟩;rw[h]at g ⊢;have i:=cZ b A.1;obtain⟨C,j⟩:∃q,aJ b A.1=q:=⟨_,rfl⟩;rw[j]at i ⊢;have k:=cZ b C.1;obtain⟨D,l⟩:∃q,aJ b C.1=q:=⟨_,rfl⟩;rw[l]at k ⊢;have n:=jG D.1 D.2;obtain⟨F,hF⟩:∃q,az D.1 D.2=q:=⟨_,rfl⟩;rw[hF]at n ⊢;exact⟨fun x o=>(by cases o),fun y p=>(by have:=d y p;omega),e,by show F.2.length<=10000000;omega⟩
def Fsh (b:Nat) (v:Value):Prop:=∀a n c,v=.slice (some a) n c->b<=a.block
theorem Fsh.nil (b n c:Nat):Fsh b (.slice none n c):=fun a n c d=>by simp at d
def IsObF (b:Nat) (w:World) (v:Value) (o:Ob):Prop:=∃a c d,v=obV o a c d/\IsBytes w a o.data/\IsItms w c o.items/\IsStrs w d o.parents/\Fsh b a/\Fsh b c/\Fsh b d
variable {b:Nat} {w:World} {v:Value} {o:Ob}
theorem IsObF.ob (h:IsObF b w v o):IsOb w v o:=by
 obtain⟨a,c,d,rfl,e,g,i,-⟩:=h;exact⟨a,c,d,rfl,e,g,i⟩
theorem IsObF.put {g:Nat} {w':World} (h:IsObF b w v o) (e:w.grownBy w' (some g)) (x:g<b):IsObF b w' v o:=by
 obtain⟨l,p,q,rfl,r,t,u,i,j,k⟩:=h;exact⟨l,p,q,rfl,Row.but r e (fun a n c d=>by have:=i a n c d;omega),Row.but t e (fun a n c d=>by have:=j a n c d;omega),Row.but u e (fun a n c d=>by have:=k a n c d;omega),i,j,k⟩
theorem wU (a:Bool) (s:Src):(aJ a s).2<=72057594037927936:=by
 unfold aJ;split
 .exact Nat.zero_le _
 .rename_i h;simp only[not_or,Decidable.not_not]at h;exact(ri h.1).2.2
theorem m8 (s:Src) (n:Nat):(az s n).2.length<=n:=by
 unfold az;split
 .exact Nat.zero_le _
 .dsimp only;rw[List.length_take];omega
theorem wV (a:Bool) (h:(aJ a s).1.bad=false):s.bad=false:=by
 unfold aJ at h;split at h
 .cases h
 .exact fW h
theorem pR:(Tryz.prog.info? 138).map (fun i=>(i.zero,i.size,i.bytes))=some (some (.agg #[.int .i64 0,S8 [],S8 []]),3,40):=by kernel_rfl
theorem bH:(Tryz.prog.info? 95).map (·.size)=some 8:=by kernel_rfl
theorem sn (d:Bool) (c:Int) (b:B8) (g:b.length<=10000000):dm (bV d c b).2:=by
 unfold bV;split
 .exact ⟨fun x a=>(by cases a),fun x a=>(by cases a),by simp,by simp⟩
 .split
  .refine ⟨fun x a=>?_,fun x a=>(by cases a),by simp,by simp⟩;have e:=cZ d ⟨b,false⟩;exact kR d (by omega) _ _ [] (by dsimp only at e;omega) (fun x a=>by cases a) x a
  .split
   .have e:=fV ⟨b,false⟩;have h:=l8 (bg ⟨b,false⟩).1;obtain⟨i,j⟩:=jT (bi (bg ⟨b,false⟩).1).2 (bi (bg ⟨b,false⟩).1).1 [] (fun x a=>by cases a);have k:=ik ⟨b,false⟩;exact sm d _ _ _ (Nat.le_trans i (Nat.le_trans h (Nat.le_trans e g))) j (by omega)
   .exact ⟨fun x a=>(by cases a),fun x a=>(by cases a),by simp,by simp⟩
theorem y' (v:Value) (b:B8) (w:World) (hv:IsBytes w v b) (hl:b.length<=10000000) :
  Calls Tryz.prog 89 #[v] w fun e A=>(∃u,e=.returned (.tuple #[u,.int .i64 (dz b).2])/\IsObF w.heap.size A u (dz b).1)/\Ext w A:=by
 have HV:Hid (IsBytes w v b):=hv;obtain⟨a,c,rfl,l1,l2,l3,hg⟩:=hv.get;obtain⟨⟨o9,e9⟩,hq⟩:∃q,dz b=q:=⟨_,rfl⟩;rw[hq];have HQ:Hid _:=hq;have hN:Hid _:=hg;clear hv hg hq;go_enter Tryz.func89,Tryz.ntmps89;go_upto_region 1 with fail;obtain⟨w3,b7⟩:∃w3,w3=w.alloc (.cells (obC 0 (.slice none 0 0) (.slice none 0 0) [] (.slice none 0 0) 0 0 []) 95):=⟨_,rfl⟩;have R2:Hid (w3.heap[w.heap.size]? = some (.cells (obC 0 (.slice none 0 0) (.slice none 0 0) [] (.slice none 0 0) 0 0 []) 95 (0,0))):=by unfold Hid;rw[b7];exact ab _ _
 have fc:Hid (Ext w w3):=by unfold Hid;rw[b7];exact(Ext.refl _).alloc _
 have g1:w3.heap.size=w.heap.size+1:=by rw[b7];exact dK _ _
 unfold obC at b7;rw[<-b7];obtain⟨Q,fe⟩:∃g,w.heap.size=g:=⟨_,rfl⟩;have Y:Hid _:=fe;rw[fe]at R2 g1 ⊢;clear b7 fe
 cases b with
 | nil =>
  obtain⟨rfl,rfl⟩:ob0=o9/\2=e9:=by
   have d:=HQ.out;exact⟨(Prod.mk.inj d).1,(Prod.mk.inj d).2⟩
  have g3:=R2.out;have hQ:Ext w (w3.setRow Q (obC 0 (.slice none 0 0) (.slice none 0 0) [] (.slice none 0 0) 0 0 [])):=Ext.but fc.out (ae _ _ _) (Nat.le_of_eq Y.out)
  go_wp2_with (refine wpList_store_row rfl 95 (.tmp 2) (.tmp 17) rfl Q (obC 0 (.slice none 0 0) (.slice none 0 0) [] (.slice none 0 0) 0 0 []) rfl rfl 95 _ g3 bH rfl (by simp[Value.oneCell']) ?_)
  refine bodyPost_ret (ay rfl _ _ Q 95 (obC 0 (.slice none 0 0) (.slice none 0 0) [] (.slice none 0 0) 0 0 []) (0,0) _ rfl (setRow_heap _ _ _ _ _ _ g3) Tryz.underlying95 rfl bH) rfl ?_;exact⟨⟨_,rfl,_,_,_,rfl,Row.nil _,Row.nil _,Row.nil _,Fsh.nil _ _ _,Fsh.nil _ _ _,Fsh.nil _ _ _⟩,hQ⟩
 | cons k r =>
  obtain⟨bb,oo,rfl,hc⟩:=hN.out 0 (by simp);have y0:w.cell? ⟨bb,oo,none⟩=some (.int .u8 k.toNat):=hc 0 (by simp);have hT:r.length<=10000000:=by simp at hl;omega
  obtain⟨⟨sr,ob⟩,ds⟩:∃q,bV true k.toNat r=q:=⟨_,rfl⟩;have d8:Hid (dm ob):=by have d:=sn true k.toNat r hT;rw[ds]at d;exact d
  have a8:Hid ((o9,e9)=if sr.bad=true\/bN ob≠true\/ez ob≠k::r then(ob0,4)else(ob,0)):=by
   unfold Hid;rw[<-HQ.out,uq,ds]
  have j2:Hid (IntKind.i64.wrap (k.toNat:Int)=(k.toNat:Int)):=IntWalk.i64_in _ (by have:=k.toNat_lt;omega);have b1:Hid _:=ds;clear ds hc HQ;go_wp2_with fail;go_at_call 29;refine(ij _ (k::r) w3 (IsBytes.ext HV.out fc.out)).mono ?_;rintro e4 w4 ⟨⟨v4,rfl,d9⟩,ff⟩;have g4:IsBytes w4 v4 (k::r):=by unfold IsBytes;exact Row.BM d9 (by simp;omega)
  obtain⟨gc,L,rfl⟩:=dw d9 (by simp);have g5:=World.ownsRow.lt d9 gc rfl;have g6:Hid _:=g4;have fi:Hid (Ext w w4):=fc.out.trans ff;have R4:Hid _:=Ext.row ff R2.out;have z0:=fi.out.cell y0;clear d9 g4 ff;go_upto_region 4 with fail;obtain⟨w5,cl⟩:∃w5,w5=w4.alloc (.cells #[.slice (some ⟨gc,0,none⟩) (r.length+1) L,.int .i64 1,.bool false] 192):=⟨_,rfl⟩;have cm:Ext w4 w5:=by rw[cl];exact(Ext.refl _).alloc _
  have g7:w5.heap[w4.heap.size]? = some (.cells #[.slice (some ⟨gc,0,none⟩) (r.length+1) L,.int .i64 1,.bool false] 192 (0,0)):=by rw[cl];exact ab _ _
  have fj:w5.heap.size=w4.heap.size+1:=by rw[cl];exact dK _ _
  rw[<-cl];have fk:Hid (IsRd w5 w4.heap.size (k::r) ⟨r,false⟩):=⟨gc,0,L,1,g7,g6.out.ext cm,g5.2,by simp,rfl⟩;obtain⟨y,fl⟩:∃g,w4.heap.size=g:=⟨_,rfl⟩;rw[fl]at fk fj ⊢;have g8:Hid (Ext w w5):=fi.out.trans cm;have R5:Hid _:=Ext.row cm R4.out;have z1:=cm.cell z0;have jc:Q<y:=by rw[<-fl];exact(Array.getElem?_eq_some_iff.1 R4.out).1
  clear cl cm g7 fl g5 g6 R4 z0 fi;go_upto_region 5 with fail;rw[show wrap64 (k.toNat:Int)=(k.toNat:Int)from IntWalk.wrap64_in _ (by have:=k.toNat_lt;omega)];obtain⟨wo,cn⟩:∃wo,wo=w5.alloc (.cells (obC k.toNat (.slice none 0 0) (.slice none 0 0) [] (.slice none 0 0) 0 0 []) 95):=⟨_,rfl⟩;have d':Ext w5 wo:=by rw[cn];exact(Ext.refl _).alloc _
  have co:wo.heap[w5.heap.size]? = some (.cells (obC k.toNat (.slice none 0 0) (.slice none 0 0) [] (.slice none 0 0) 0 0 []) 95 (0,0)):=by rw[cn];exact ab _ _
  obtain⟨J,hX⟩:∃g,y+1=g:=⟨_,rfl⟩;rw[fj]at co;rw[hX]at co ⊢;unfold obC at cn;rw[<-cn];have RO:Hid _:=co;have a9:Hid (IsRd wo y (k::r) ⟨r,false⟩):=fk.out.ext d';have a':Hid (Ext w wo):=g8.out.trans d';have bd:Hid _:=Ext.row d' R5.out;have g9:w.heap.size<=y:=by have:=Y.out;omega
  have j3:J<wo.heap.size:=(Array.getElem?_eq_some_iff.1 co).1;clear cn d' co fk g8 R5 z1 fj g1 y0;obtain⟨kk,hY⟩:∃j,k.toNat=j:=⟨_,rfl⟩
  by_cases k1:k.toNat=1
  .obtain ⟨rfl,rfl⟩:(⟨[],false⟩:Src)=sr/\(⟨1,r,[],[],[],0,0,[]⟩:Ob)=ob:=by
    have d:=b1.out;rw[k1]at d;unfold bV at d;rw[if_pos (show((1:Nat):Int)=1 from rfl)]at d;exact⟨(Prod.mk.inj d).1,(Prod.mk.inj d).2⟩
   rw[show((k.toNat:Nat):Int)=1 by omega]at RO ⊢;obtain⟨c0,c1,c2,c3,c4,c5,c6,c7⟩:=ag RO.out;go_wp2_with fail;go_at_call 150;refine(eY y (k::r) ⟨r,false⟩ r.length wo a9.out).mono ?_;rw[show az ⟨r,false⟩ r.length=(⟨[],false⟩,r)by unfold az;rw[if_neg (by simp)];simp];rintro e7 w7 ⟨vd,rfl,fn,g',ha,cp⟩;have R7:Hid _:=aS cp RO.out (by omega);have hb:Hid _:=aS cp bd.out (by omega);have hd:Hid (Ext w w7):=Ext.but a'.out cp g9;obtain⟨T,U,rfl,-⟩:=fn.get;have hf:Hid _:=fn;have fr:Hid _:=g';have hh:Hid _:=ha;have fz:w7.frozen? ⟨J,1,none⟩=false:=by simp[World.frozen?,R7.out]
   obtain⟨d0,d1,d2,d3,d4,d5,d6,d7⟩:=ag R7.out;have h0:=cp.size;clear fn g' ha cp c0 c1 c2 c3 c4 c5 c6 c7 RO bd a' a9;go_upto_region 25 with fail;obtain⟨we,ea⟩:∃we,we=w7.setCell ⟨J,1,none⟩ (.slice T r.length U):=⟨_,rfl⟩;have cq:w7.grownBy we (some J):=by rw[ea];exact aH _ _ _ _
   have RE:Hid (we.heap[J]? = some (.cells (obC 1 (.slice T r.length U) (.slice none 0 0) [] (.slice none 0 0) 0 0 []) 95 (0,0))):=by
    unfold Hid;rw[ea,heap_setCell_same w7 J 1 _ _ _ R7.out];simp
   have bh:Hid _:=aS cq hb.out (by omega);have bk:Hid (Ext w we):=Ext.but hd.out cq (by omega);have bl:Hid (IsRd we y (k::r) ⟨[],false⟩):=IsRd.B' hh.out cq (fun k K=>by cases K;omega);have a0:Hid (IsBytes we (.slice T r.length U) r):=Row.but hf.out cq (fun a n L he=>by
    have G:=fr.out a n L he;omega)
   have bo:Hid (∀a n' L,Value.slice T r.length U=.slice (some a) n' L->J<a.block):=fun a n' L he=>by
    have G:=fr.out a n' L he;omega
   rw[<-ea];clear ea cq fz d0 d1 d2 d3 d4 d5 d6 d7 R7 hb hd hh hf fr h0;obtain⟨q0,q1,q2,q3,q4,q5,q6,q7⟩:=ag RE.out;obtain⟨⟨pb,er⟩,a1⟩:∃q,aT ⟨1,r,[],[],[],0,0,[]⟩=q:=⟨_,rfl⟩;have a2:Hid _:=a1;have P:Hid _:=jn (obV ⟨1,r,[],[],[],0,0,[]⟩ (.slice T r.length U) (.slice none 0 0) (.slice none 0 0)) ⟨1,r,[],[],[],0,0,[]⟩ we ⟨_,_,_,rfl,a0.out,Row.nil _,Row.nil _⟩ d8.out;rw[a1]at P;unfold obV at P;clear a1;go_wp2_with fail;go_at_call 86;refine Calls.mono P.out ?_;rintro e6 w6 ⟨⟨u,rfl,hu⟩,F⟩;have HU:Hid (IsBytes w6 u pb):=by
    have hi:pb.length<=100000:=by
     have d:=ig ⟨1,r,[],[],[],0,0,[]⟩;rw[a2.out]at d;exact d
    unfold Hid IsBytes;exact Row.BM hu (by omega)
   have V:Hid (Ext w w6):=bk.out.trans F;have ad:Hid _:=Ext.row F bh.out;have cs:Hid _:=Ext.row F RE.out;have bq:Hid _:=a0.out.ext F;obtain⟨_,_,_,_,D,-⟩:=bl.out.ext F;obtain⟨e0,e1,e2⟩:=bE D;dsimp only at e2;clear hu F P q0 q1 q2 q3 q4 q5 q6 q7 RE bh bk bl a0 D e0 e1;obtain⟨q0,q1,q2,q3,q4,q5,q6,q7⟩:=ag cs.out
   try dsimp only
   by_cases a3:er=0
   .have br:(er != 0)=false:=by simpa using a3
    have bs:bN ⟨1,r,[],[],[],0,0,[]⟩=true/\pb=ez ⟨1,r,[],[],[],0,0,[]⟩:=by
     have G:=a2.out;unfold aT at G;split at G
     .rename_i hm;exact⟨hm,(Prod.mk.inj G).1.symm⟩
     .have:=(Prod.mk.inj G).2;omega
    obtain⟨eq,bt⟩:∃e,(pb==k::r)=e:=⟨_,rfl⟩;have a4:Hid _:=bt;have a5:Hid _:=bs;have ct:Hid _:=IsBytes.ext HV.out V.out;clear bt bs a3;go_wp2_with fail;go_at_call 31;refine(cD _ _ _ _ w6 HU.out ct.out).mono ?_;rw[a4.out];rintro e7 w8 ⟨rfl,bx⟩;rw[bx];clear bx
    cases eq with
    | false =>
     obtain⟨rfl,rfl⟩:o9=ob0/\e9=4:=by
      have d:=a8.out;rw[if_pos (.inr (.inr (fun h=>by have G:=a4.out;rw[a5.out.2,h]at G;simp at G)))]at d;exact⟨(Prod.mk.inj d).1,(Prod.mk.inj d).2⟩
     have p:=ad.out
     go_wp2_with (refine wpList_store_row rfl 95 (.tmp 2) (.tmp 130) rfl Q (obC 0 (.slice none 0 0) (.slice none 0 0) [] (.slice none 0 0) 0 0 []) rfl rfl 95 _ p bH rfl (by simp[Value.oneCell']) ?_)
     refine bodyPost_ret (ay rfl _ _ Q 95 (obC 0 (.slice none 0 0) (.slice none 0 0) [] (.slice none 0 0) 0 0 []) (0,0) _ rfl (setRow_heap _ _ _ _ _ _ p) Tryz.underlying95 rfl bH) rfl ?_;exact⟨⟨_,rfl,_,_,_,rfl,Row.nil _,Row.nil _,Row.nil _,Fsh.nil _ _ _,Fsh.nil _ _ _,Fsh.nil _ _ _⟩,Ext.but V.out (ae _ _ _) (Nat.le_of_eq Y.out)⟩
    | true =>
     obtain⟨rfl,rfl⟩:o9=⟨1,r,[],[],[],0,0,[]⟩/\e9=0:=by
      have d:=a8.out;rw[if_neg (by
       intro h;rcases h with h | h | h
       .cases h
       .exact h a5.out.1
       .exact h (by rw[<-a5.out.2];simpa using a4.out))]at d
      exact⟨(Prod.mk.inj d).1,(Prod.mk.inj d).2⟩
     have p:=ad.out
     go_wp2_with (refine wpList_store_row rfl 95 (.tmp 2) (.tmp 131) rfl Q (obC 1 (.slice T r.length U) (.slice none 0 0) [] (.slice none 0 0) 0 0 []) rfl rfl 95 _ p bH rfl (by simp[Value.oneCell']) ?_)
     refine bodyPost_ret (ay rfl _ _ Q 95 (obC 1 (.slice T r.length U) (.slice none 0 0) [] (.slice none 0 0) 0 0 []) (0,0) _ rfl (setRow_heap _ _ _ _ _ _ p) Tryz.underlying95 rfl bH) rfl ?_;refine⟨⟨_,rfl,_,_,_,rfl,Row.but bq.out (ae _ _ _) (fun a n L he=>?_),Row.nil _,Row.nil _,(fun a n L he=>by have G:=bo.out a n L he;omega),Fsh.nil _ _ _,Fsh.nil _ _ _⟩,Ext.but V.out (ae _ _ _) (Nat.le_of_eq Y.out)⟩;have G:=bo.out a n L he;omega
   .have br:(er != 0)=true:=by simpa using a3
    obtain⟨rfl,rfl⟩:o9=ob0/\e9=4:=by
     have d:=a8.out;rw[if_pos (.inr (.inl (fun h=>a3 (by have G:=a2.out;unfold aT at G;rw[if_pos h]at G;exact(Prod.mk.inj G).2.symm))))]at d;exact⟨(Prod.mk.inj d).1,(Prod.mk.inj d).2⟩
    clear a3;have p:=ad.out
    go_wp2_with (refine wpList_store_row rfl 95 (.tmp 2) (.tmp 130) rfl Q (obC 0 (.slice none 0 0) (.slice none 0 0) [] (.slice none 0 0) 0 0 []) rfl rfl 95 _ p bH rfl (by simp[Value.oneCell']) ?_)
    refine bodyPost_ret (ay rfl _ _ Q 95 (obC 0 (.slice none 0 0) (.slice none 0 0) [] (.slice none 0 0) 0 0 []) (0,0) _ rfl (setRow_heap _ _ _ _ _ _ p) Tryz.underlying95 rfl bH) rfl ?_;exact⟨⟨_,rfl,_,_,_,rfl,Row.nil _,Row.nil _,Row.nil _,Fsh.nil _ _ _,Fsh.nil _ _ _,Fsh.nil _ _ _⟩,Ext.but V.out (ae _ _ _) (Nat.le_of_eq Y.out)⟩
  .rw [hY]at RO b1 k1 ⊢;have ec:¬((kk:Int)=1):=by omega
   have b8:(((kk:Nat):Int)==1)=false:=by simpa using ec
   by_cases k2:kk=2
   .subst k2;have fs:=cZ true ⟨r,false⟩;have hn:=wU true ⟨r,false⟩;have ft:=im y (k::r) ⟨r,false⟩ wo a9.out;obtain⟨⟨s1,N⟩,fu⟩:∃q,aJ true ⟨r,false⟩=q:=⟨_,rfl⟩;obtain⟨⟨sE,RS⟩,fv⟩:∃q,cK true N s1 []=q:=⟨_,rfl⟩;obtain⟨rfl,rfl⟩:sE=sr/\(⟨2,[],RS,[],[],0,0,[]⟩:Ob)=ob:=by
     have d:=b1.out;unfold bV at d;rw[if_neg (show ¬((2:Nat):Int)=1 by decide),if_pos (show((2:Nat):Int)=2 from rfl),fu]at d;dsimp only at d;rw[fv]at d;exact⟨(Prod.mk.inj d).1,(Prod.mk.inj d).2⟩
    rw[fu]at ft fs hn;have ho:Hid _:=ft;have hp:Hid _:=fv;dsimp only at fs hn;clear ft fu fv b1;rw[show((2:Nat):Int)=2 from rfl]at RO ⊢;obtain⟨c0,c1,c2,c3,c4,c5,c6,c7⟩:=ag RO.out;go_wp2_with fail;go_at_call 151;refine Calls.mono ho.out ?_;rintro ex h6 ⟨rfl,cu,bS⟩;have h':Hid (RrS w Q y J (k::r) (obC 0 (.slice none 0 0) (.slice none 0 0) [] (.slice none 0 0) 0 0 []) (obC 2 (.slice none 0 0) (.slice none 0 0) [] (.slice none 0 0) 0 0 []) s1 138 3 (J+1) (.slice none 0 0) 0 [] h6) :=
     RrS.step ⟨a9.out,bd.out,RO.out,World.ownsRow_nil _ _ _ _,by omega,a'.out,by have:=Y.out;omega⟩ cu bS
    clear cu bS ho bd RO a9 a' c0 c1 c2 c3 c4 c5 c6 c7;go_wp2_with fail;go_loopw [7] (fun i wr=>∃(O:Nat) (s:Src) (l:List Itm) (v:Value),O<=N/\i=.int .i64 O/\Hid (cK true (N - O) s l=(sE,RS))/\Hid (RrS w Q y J (k::r) (obC 0 (.slice none 0 0) (.slice none 0 0) [] (.slice none 0 0) 0 0 []) (obC 2 (.slice none 0 0) v [] (.slice none 0 0) 0 0 []) s 138 3 (J+1) v l.length (l.flatMap itC) wr)/\Hid ((s.bad=false->l.length+s.b.length<=r.length)/\l.length<=r.length+1)) (fun i _=>N - (intOf i).toNat)
    case atStart=>exact⟨0,s1,[],.slice none 0 0,Nat.zero_le _,rfl,hp,h',(fun h=>by have:=fs;simpa using this),by simp⟩
    case round =>
    obtain⟨O,s,l,v,K,rfl,HI,HR,fx⟩:=hrel;obtain⟨sb,a6⟩:∃x,s.bad=x:=⟨_,rfl⟩;obtain⟨ia,ic,cx,px,b2,-⟩:=HR.out.src;rw[a6]at b2;have y1:=(bE b2).2.2;have W:Hid _:=a6;clear b2 a6
    by_cases S:O=N\/sb=true
    .obtain ⟨rfl,rfl⟩:s=sE/\l=RS:=by
      have d:=HI.out;have G:cK true (N - O) s l=(s,l):=by
       rcases S with h | h
       .rw [h,Nat.sub_self];rfl
       .cases ih:N - O with
        | zero=>rfl
        | succ j =>
         have h7:=W.out;rw[h]at h7;rw[cK,if_pos h7]
      rw[G]at d;exact⟨(Prod.mk.inj d).1,(Prod.mk.inj d).2⟩
     obtain⟨T,vn,U,rfl⟩:∃T vn U,v=.slice T vn U:=by
      rcases HR.out.own.2 with⟨h,-⟩ | ⟨g,c,f0,h,-⟩
      iterate 2
       .exact ⟨_,_,_,h⟩
     have b':Hid (l.length<=10000001):=by have:=fx.out.2;unfold Hid;omega
     have b3:(¬(O:Int)<(N:Int))\/((O:Int)<(N:Int)/\sb=true):=by
      rcases S with h | h
      .left;omega
      .by_cases il:O<N
       .exact .inr ⟨by omega,h⟩
       .left;omega
     clear S HI hp;rcases b3 with hc | ⟨hc,a6⟩
     case' inr=>rw[a6]at y1
     all_goals
      go_upto_region 25 with fail;have RE:Hid _:=HR.out.ro;have bh:Hid _:=HR.out.r2;have bk:Hid (Ext w wr):=HR.out.ext;have bl:Hid (IsRd wr y (k::r) s):=HR.out.src;have cv:∀a n' L,Value.slice T vn U=.slice (some a) n' L->J<a.block:=fun a n' L he=>by
       have G:=(HR.out.own.lt a.block (by rw[he];rfl)).1;omega
      have bo:Hid (∀a n' L,Value.slice T vn U=.slice (some a) n' L->J<a.block):=cv;have a0:Hid (Row wr (.slice T vn U) l.length (l.flatMap itC)):=Row.BM HR.out.own (by have:=b'.out;omega);clear cv;obtain⟨q0,q1,q2,q3,q4,q5,q6,q7⟩:=ag RE.out;obtain⟨⟨pb,er⟩,a1⟩:∃q,aT ⟨2,[],l,[],[],0,0,[]⟩=q:=⟨_,rfl⟩;have a2:Hid _:=a1;have P:Hid _:=jn (obV ⟨2,[],l,[],[],0,0,[]⟩ (.slice none 0 0) (.slice T vn U) (.slice none 0 0)) ⟨2,[],l,[],[],0,0,[]⟩ wr ⟨_,_,_,rfl,Row.nil _,a0.out,Row.nil _⟩ d8.out;rw[a1]at P;unfold obV at P;clear a1 HR;go_wp2_with fail;go_at_call 86;refine Calls.mono P.out ?_;rintro ex w6 ⟨⟨u,rfl,hu⟩,F⟩;have HU:Hid (IsBytes w6 u pb):=by
       have hi:pb.length<=100000:=by
        have d:=ig ⟨2,[],l,[],[],0,0,[]⟩;rw[a2.out]at d;exact d
       unfold Hid IsBytes;exact Row.BM hu (by omega)
      have V:Hid (Ext w w6):=bk.out.trans F;have ad:Hid _:=Ext.row F bh.out;have cs:Hid _:=Ext.row F RE.out;have bq:Hid _:=Row.ext a0.out F;obtain⟨_,_,_,_,D,-⟩:=IsRd.ext bl.out F;rw[W.out]at D;obtain⟨e0,e1,e2⟩:=bE D;clear hu F P q0 q1 q2 q3 q4 q5 q6 q7 RE bh bk bl a0 D e0 e1;obtain⟨q0,q1,q2,q3,q4,q5,q6,q7⟩:=ag cs.out
      try dsimp only
      by_cases M:sb=true\/er≠0
      .obtain ⟨rfl,rfl⟩:o9=ob0/\e9=4:=by
        have d:=a8.out;rw[if_pos (by
         rcases M with h | h
         .exact .inl (W.out.trans h)
         .exact .inr (.inl (fun hm=>h (by have G:=a2.out;unfold aT at G;rw[if_pos hm]at G;exact(Prod.mk.inj G).2.symm))))]at d
        exact⟨(Prod.mk.inj d).1,(Prod.mk.inj d).2⟩
       have f1:sb=true\/sb=false/\(er != 0)=true:=by
        rcases M with h | h
        .exact .inl h
        .cases c8:sb with
         | true=>exact .inl rfl
         | false=>exact .inr ⟨rfl,by simpa using h⟩
       clear M;have p:=ad.out;rcases f1 with b8 | ⟨b8,br⟩
       all_goals
        rw[b8]at e2
        go_wp2_with (refine wpList_store_row rfl 95 (.tmp 2) (.tmp 130) rfl Q (obC 0 (.slice none 0 0) (.slice none 0 0) [] (.slice none 0 0) 0 0 []) rfl rfl 95 _ p bH rfl (by simp[Value.oneCell']) ?_)
        refine bodyPost_ret (ay rfl _ _ Q 95 (obC 0 (.slice none 0 0) (.slice none 0 0) [] (.slice none 0 0) 0 0 []) (0,0) _ rfl (setRow_heap _ _ _ _ _ _ p) Tryz.underlying95 rfl bH) rfl ?_;exact⟨⟨_,rfl,_,_,_,rfl,Row.nil _,Row.nil _,Row.nil _,Fsh.nil _ _ _,Fsh.nil _ _ _,Fsh.nil _ _ _⟩,Ext.but V.out (ae _ _ _) (Nat.le_of_eq Y.out)⟩
      .have b4:sb=false:=by
        cases c8:sb with
        | true=>exact absurd (.inl c8) M
        | false=>rfl
       have a3:er=0:=by
        by_cases h:er=0
        .exact h
        .exact absurd (.inr h) M
       have br:(er != 0)=false:=by simpa using a3
       have f3:Hid _:=W.out.trans b4;rw[b4]at e2;have bs:bN ⟨2,[],l,[],[],0,0,[]⟩=true/\pb=ez ⟨2,[],l,[],[],0,0,[]⟩:=by
        have G:=a2.out;unfold aT at G;split at G
        .rename_i hm;exact⟨hm,(Prod.mk.inj G).1.symm⟩
        .have:=(Prod.mk.inj G).2;omega
       obtain⟨eq,bt⟩:∃e,(pb==k::r)=e:=⟨_,rfl⟩;have a4:Hid _:=bt;have a5:Hid _:=bs;have ct:Hid _:=IsBytes.ext HV.out V.out;clear bt bs a3 M b4;go_wp2_with fail;go_at_call 31;refine(cD _ _ _ _ w6 HU.out ct.out).mono ?_;rw[a4.out];rintro ey w8 ⟨rfl,bx⟩;rw[bx];clear bx
       cases eq with
       | false =>
        obtain⟨rfl,rfl⟩:o9=ob0/\e9=4:=by
         have d:=a8.out;rw[if_pos (.inr (.inr (fun h=>by have G:=a4.out;rw[a5.out.2,h]at G;simp at G)))]at d;exact⟨(Prod.mk.inj d).1,(Prod.mk.inj d).2⟩
        have p:=ad.out
        go_wp2_with (refine wpList_store_row rfl 95 (.tmp 2) (.tmp 130) rfl Q (obC 0 (.slice none 0 0) (.slice none 0 0) [] (.slice none 0 0) 0 0 []) rfl rfl 95 _ p bH rfl (by simp[Value.oneCell']) ?_)
        refine bodyPost_ret (ay rfl _ _ Q 95 (obC 0 (.slice none 0 0) (.slice none 0 0) [] (.slice none 0 0) 0 0 []) (0,0) _ rfl (setRow_heap _ _ _ _ _ _ p) Tryz.underlying95 rfl bH) rfl ?_;exact⟨⟨_,rfl,_,_,_,rfl,Row.nil _,Row.nil _,Row.nil _,Fsh.nil _ _ _,Fsh.nil _ _ _,Fsh.nil _ _ _⟩,Ext.but V.out (ae _ _ _) (Nat.le_of_eq Y.out)⟩
       | true =>
        obtain⟨rfl,rfl⟩:o9=⟨2,[],l,[],[],0,0,[]⟩/\e9=0:=by
         have d:=a8.out;rw[if_neg (by
          intro h;rcases h with h | h | h
          .rw [f3.out]at h;cases h
          .exact h a5.out.1
          .exact h (by rw[<-a5.out.2];simpa using a4.out))]at d
         exact⟨(Prod.mk.inj d).1,(Prod.mk.inj d).2⟩
        have p:=ad.out
        go_wp2_with (refine wpList_store_row rfl 95 (.tmp 2) (.tmp 131) rfl Q (obC 2 (.slice none 0 0) (.slice T vn U) [] (.slice none 0 0) 0 0 []) rfl rfl 95 _ p bH rfl (by simp[Value.oneCell']) ?_)
        refine bodyPost_ret (ay rfl _ _ Q 95 (obC 2 (.slice none 0 0) (.slice T vn U) [] (.slice none 0 0) 0 0 []) (0,0) _ rfl (setRow_heap _ _ _ _ _ _ p) Tryz.underlying95 rfl bH) rfl ?_;have c9:=Row.but bq.out (ae w6 Q (obC 2 (.slice none 0 0) (.slice T vn U) [] (.slice none 0 0) 0 0 [])) (fun a n L he=>by have G:=bo.out a n L he;omega);exact⟨⟨_,rfl,_,_,_,rfl,Row.nil _,c9,Row.nil _,Fsh.nil _ _ _,(fun a n L he=>by have G:=bo.out a n L he;omega),Fsh.nil _ _ _⟩,Ext.but V.out (ae _ _ _) (Nat.le_of_eq Y.out)⟩
    .have f4:O<N:=by omega
     have c':Hid (O<N):=f4;have j1:O<72057594037927936:=by omega
     have f5:sb=false:=by
      cases sb with
      | false=>rfl
      | true=>exact absurd (.inr rfl) S
     subst f5;have io:(O:Int)<(N:Int):=by omega
     obtain⟨j,E⟩:∃j,N - O=j+1:=⟨N - O - 1,by omega⟩;obtain⟨⟨sA,m⟩,hA⟩:∃q,bi s=q:=⟨_,rfl⟩;obtain⟨⟨sB,nn⟩,hB⟩:∃q,aJ true sA=q:=⟨_,rfl⟩;obtain⟨⟨sC,nm⟩,hC⟩:∃q,az sB nn=q:=⟨_,rfl⟩;obtain⟨⟨sD,tk⟩,hD⟩:∃q,az sC 32=q:=⟨_,rfl⟩;have f6:tk.length<=32:=by have d:=m8 sC 32;rw[hD]at d;exact d
     have hs:ew true s=(sD,⟨m,nm,bX tk⟩):=by
      unfold ew bg;rw[hA];dsimp only;rw[hB];dsimp only;rw[hC];dsimp only;rw[hD]
     have f7:Hid (cK true (N - (O+1)) sD (l++[⟨m,nm,bX tk⟩])=(sE,RS)):=by
      have d:=HI.out;rw[E,cK,if_neg (by rw[W.out];simp),hs]at d;rw[show N - (O+1)=j by omega];exact d
     have da:=rs W.out (by rw[hA]:(bi s).1=sA);have f8:=cZ true sA;have f9:=eD sB nn;have f':=eD sC 32;rw[hB]at f8;rw[hC]at f9;rw[hD]at f';have dc:sD.bad=false->sA.bad=false:=fun h=>wV true (by rw[hB];exact fW (by rw[hC];exact fW (by rw[hD];exact h)))
     have eE:Hid ((sD.bad=false->(l++[(⟨m,nm,bX tk⟩:Itm)]).length+sD.b.length<=r.length)/\(l++[(⟨m,nm,bX tk⟩:Itm)]).length<=r.length+1):=by
      have d:=fx.out.1 W.out;refine⟨fun h=>?_,by rw[List.length_append];simp only[List.length_cons,List.length_nil];omega⟩;have G:=da (dc h);rw[List.length_append];simp only[List.length_cons,List.length_nil]at f8 f9 f' ⊢;omega
     have dk:=pQ y (k::r) s wr HR.out.src;rw[hA]at dk;have eS:Hid _:=dk;have e3:Hid (∀A,IsRd A y (k::r) sA->Calls Tryz.prog 151 #[.pointer (some ⟨y,0,none⟩)] A fun e B=>e=.returned (.int .i64 (nn:Nat))/\IsRd B y (k::r) sB/\A.grownBy B (some y)):=fun A h=>by
      have d:=im y (k::r) sA A h
      rwa [hB]at d
     have e5:Hid (∀A,IsRd A y (k::r) sB->Calls Tryz.prog 150 #[.pointer (some ⟨y,0,none⟩),.int .i64 nn] A fun e B=>∃v,e=.returned v/\IsBytes B v nm/\(∀a n' L,v=.slice (some a) n' L->A.heap.size<=a.block)/\IsRd B y (k::r) sC/\A.grownBy B (some y)):=fun A h=>by
      have d:=eY y (k::r) sB nn A h
      rwa [hC]at d
     have HD:Hid (az sC 32=(sD,tk)):=hD;have ga:Hid (tk.length<=32):=f6;clear dk hA hB hC hD hs da dc f8 f9 f' S E HI fx f6;go_wp2_with fail;go_at_call 152;refine Calls.mono eS.out ?_;rintro ex wa ⟨rfl,H,I⟩;have b5:Hid _:=HR.out.step H I;clear H I eS HR y1;go_wp2_with fail;go_at_call 151;refine(e3.out wa b5.out.src).mono ?_;rintro ex wb ⟨rfl,H,I⟩;have ca:Hid _:=b5.out.step H I;clear H I e3 b5;go_wp2_with fail;go_at_call 150;refine(e5.out wb ca.out.src).mono ?_;rintro ex wc ⟨vt,rfl,a7,ht,H,I⟩;have hw:Hid _:=ca.out.step H I;have hy:Hid (IsBytes wc vt nm/\∀k,vt.ownBlock=some k->k≠y/\v.ownBlock≠some k):=by
      refine⟨a7,fun k K=>?_⟩;obtain⟨ta,tc,rfl,-⟩:=id a7
      cases ta with
      | none=>simp[Value.ownBlock]at K
      | some a =>
       have gb:a.block=k:=by simpa [Value.ownBlock]using K
       have h1:=ht a _ _ rfl;have h2:=ca.out.sz;have h3:=ca.out.lt;refine⟨by omega,fun hv=>?_⟩;have:=(ca.out.own.lt _ hv).2;omega
     obtain⟨ta,tc,rfl,-⟩:=id a7;clear a7 ht H I e5 ca;have b':Hid (l.length<=10000001):=by
      have:=eE.out.2;rw[List.length_append]at this;simp only[List.length_cons,List.length_nil]at this;show l.length<=10000001;omega
     have gd:Hid (∀A,IsRd A y (k::r) sC->Calls Tryz.prog 150 #[.pointer (some ⟨y,0,none⟩),.int .i64 32] A fun e B=>∃v,e=.returned v/\IsBytes B v (az sC 32).2/\(∀a n' L,v=.slice (some a) n' L->A.heap.size<=a.block)/\IsRd B y (k::r) (az sC 32).1/\A.grownBy B (some y)):=fun A h=>eY y (k::r) sC 32 A h
     obtain⟨l1,l2,l3,l4⟩:=hw.out.lt;have dl:Hid (∀k o,(k,o)∈[(Q,Obj.cells (obC 0 (.slice none 0 0) (.slice none 0 0) [] (.slice none 0 0) 0 0 []) 95 (0,0)),(J,Obj.cells (obC 2 (.slice none 0 0) v [] (.slice none 0 0) 0 0 []) 95 (0,0))]->k≠y/\k<J+1):=fun k o K=>by
      simp only[List.mem_cons,Prod.mk.injEq,List.not_mem_nil,or_false]at K;rcases K with⟨rfl,-⟩ | ⟨rfl,-⟩ <;> omega
     have hB:w.heap.size<=y:=by omega
     have dn:y<J+1:=by omega
     go_upto_region 15 with fail;apply aI 12 (fun z A=>RrC w y (k::r) sC 138 3 (J+1) v l.length (l.flatMap itC) (itC ⟨m,nm,bX (az sC 32).2⟩) [(Q,Obj.cells (obC 0 (.slice none 0 0) (.slice none 0 0) [] (.slice none 0 0) 0 0 []) 95 (0,0)),(J,Obj.cells (obC 2 (.slice none 0 0) v [] (.slice none 0 0) 0 0 []) 95 (0,0))] (.slice ta nm.length tc) nm (z 6) (z 9) (z 10) A) [false,false,false,false,false,false,true,false,false,true,true,false] [_,v,_,_,S8 nm,_,undef,S8 (bX (az sC 32).2),.agg #[.int .i64 m,S8 nm,S8 (bX (az sC 32).2)],undef,undef,_] [none,none,none,none,none,none,none,none,none,none,none,none] [[],[0],[],[],[3],[],[5],[6],[2,4,7],[8],[1,9],[]] (by kernel_rfl) (by kernel_rfl) rfl
     .exact RrS.Dz hw.out hy.out ⟨rfl,rfl,rfl,Nat.le_refl _,fun _ _=>rfl⟩
     .simp (maxSteps:=1000000)only[cY,cG,bP,cA,cN,List.getD_cons_zero,List.getD_cons_succ,Bool.false_eq_true,if_false,if_true,and_true,true_and,forall_const,Nat.zero_add,Nat.reduceAdd,List.take_succ_cons,List.take_zero,aa,Act.put,List.setIfInBounds_toArray,List.set_cons_zero,List.set_cons_succ];and_intros
      iterate 4 · intro xs z wq E;intros;rename_i Z;have f2:=(ag E.k5).2.2.1;go_simp;exact Z _ _ E rfl
      .intro xs z wq E K R Z;have hE:=dr E.aux.1;go_simp;exact Z _ _ E rfl
      .intro xs z wq E;intros;rename_i Z;have f2:=(ag E.k5).2.2.1;go_simp;exact Z _ _ E rfl
      .intro xs z wq E hz K R Z;rw[hz]at E;go_simp;exact(gd.out wq (E.Cr rfl)).mono (by rintro e' A ⟨u,rfl,h1,h2,h3,h4⟩;exact⟨_,rfl,Z _ _ (E.take dn hB (fun k o K=>(dl.out k o K).1) h1 h2 h3 h4)⟩)
      .intro xs z wq E K R Z;have gf:=E.CJ _ K;go_simp;exact(kN _ _ wq gf.1 (by rw[HD.out];have:=ga.out;dsimp only;omega)).mono (by rintro e' A ⟨rfl,hx⟩;exact⟨_,rfl,Z _ _ (E.more hx) rfl⟩)
      .intro xs z wq E;intros;rename_i Z;have f2:=(ag E.k5).2.2.1;go_simp;exact Z _ _ E rfl
      .intro xs z wq E hz K R Z;rw[hz]at E;go_simp;exact Z _ _ E.Cp
      .intro xs z wq E hz K R Z;obtain⟨gh,gi⟩:=K;rw[hz]at E;obtain⟨v',A,hr,gl⟩:=E.app gi dn (by omega) (fun k o K=>(dl.out k o K).2) Tryz.underlying93 pR rfl (by omega) rfl (by simp[itC,Value.oneCell']) (by have:=b'.out;omega) (by have:=b'.out;omega);apply et (.tmp 60) (.tmp 68) 93 93 (v:=xs 1) (xv:=xs 9) (v':=v') (w':=A)
       iterate 4
        .rfl
       .rw [gh];exact hr
       .exact Z _ _ gl
      .intro xs z wq E;intros;rename_i Z;have f2:=(ag E.k5).2.2.1;go_simp;exact Z _ _ E rfl
     intro xs wd b6 K;simp only[cX,List.getD_cons_zero,List.getD_cons_succ,Bool.false_eq_true,if_false,if_true]at b6;simp only[bU,Nat.zero_add,Nat.reduceAdd,and_true]at K;simp(maxSteps:=1000000)only[List.drop_succ_cons,List.drop_zero,Nat.zero_add,Nat.reduceAdd,List.take_succ_cons,List.take_zero,aa,Act.put,List.setIfInBounds_toArray,List.set_cons_zero,List.set_cons_succ,K];clear K;generalize xs 6=x6 at *;generalize xs 9=x9 at *;generalize xs 10=cb at *;have D:=RrC.Dx ⟨l1,l2,l3,l4⟩ b6;rw[HD.out]at D;dsimp only at D;have y6:=(ag D.ro).2.2.1;have gm:wd.frozen? ⟨J,2,none⟩=false:=by simp[World.frozen?,D.ro]
     have b0:Hid (RrS w Q y J (k::r) (obC 0 (.slice none 0 0) (.slice none 0 0) [] (.slice none 0 0) 0 0 []) (obC 2 (.slice none 0 0) cb [] (.slice none 0 0) 0 0 []) sD 138 3 (J+1) cb (l++[(⟨m,nm,bX tk⟩:Itm)]).length ((l++[(⟨m,nm,bX tk⟩:Itm)]).flatMap itC) (wd.setCell ⟨J,2,none⟩ cb)):=by
      have d:=D.put 2 cb (c6:=obC 2 (.slice none 0 0) cb [] (.slice none 0 0) 0 0 []) rfl;unfold Hid;rw[List.length_append,List.flatMap_append,List.flatMap_singleton];exact d
     obtain⟨xa,xn,xc,rfl⟩:∃T vn U,cb=.slice T vn U:=by
      rcases D.own.2 with⟨h,-⟩ | ⟨g,c,f0,h,-⟩
      iterate 2
       .exact ⟨_,_,_,h⟩
     clear b6 D;go_wp2_with fail;go_roundw
     case rel=>exact⟨O+1,sD,l++[⟨m,nm,bX tk⟩],_,c'.out,by go_num,f7,b0,eE⟩
     case measure=>have:=c'.out;simp[intOf];omega
   .have ef:¬((kk:Int)=2):=by omega
    have j4:(((kk:Nat):Int)==2)=false:=by simpa using ef
    by_cases k3:kk=3
    .subst k3;obtain⟨⟨sH,gs⟩,hH⟩:∃q,az ⟨r,false⟩ 32=q:=⟨_,rfl⟩;obtain⟨⟨sO,N⟩,hO⟩:∃q,bi sH=q:=⟨_,rfl⟩;obtain⟨⟨sP,ps⟩,hP⟩:∃q,dh N sO []=q:=⟨_,rfl⟩;obtain⟨⟨sS,st⟩,hS⟩:∃q,aJ true sP=q:=⟨_,rfl⟩;obtain⟨⟨sU,au⟩,hU⟩:∃q,aJ true sS=q:=⟨_,rfl⟩;obtain⟨⟨sV,ml⟩,hV⟩:∃q,aJ true sU=q:=⟨_,rfl⟩;obtain⟨⟨sW,X⟩,hW⟩:∃q,az sV ml=q:=⟨_,rfl⟩;obtain⟨C,gv⟩:∃t,bX gs=t:=⟨_,rfl⟩;obtain⟨rfl,rfl⟩:sW=sr/\(⟨3,[],[],C,ps,st,au,X⟩:Ob)=ob:=by
      have d:=b1.out;unfold bV lD bg at d;rw[if_neg (show ¬((3:Nat):Int)=1 by decide),if_neg (show ¬((3:Nat):Int)=2 by decide),if_pos (show((3:Nat):Int)=3 from rfl),hH]at d;dsimp only at d;rw[hO]at d;dsimp only at d;rw[hP]at d;dsimp only at d;rw[hS]at d;dsimp only at d;rw[hU]at d;dsimp only at d;rw[hV]at d;dsimp only at d;rw[hW,gv]at d;exact⟨(Prod.mk.inj d).1,(Prod.mk.inj d).2⟩
     have f6:gs.length<=32:=by have d:=m8 ⟨r,false⟩ 32;rw[hH]at d;exact d
     have hG:Hid (Calls Tryz.prog 150 #[.pointer (some ⟨y,0,none⟩),.int .i64 32] wo fun e B=>∃v,e=.returned v/\IsBytes B v gs/\(∀a n' L,v=.slice (some a) n' L->wo.heap.size<=a.block)/\IsRd B y (k::r) sH/\wo.grownBy B (some y)):=by
      have d:=eY y (k::r) ⟨r,false⟩ 32 wo a9.out
      rwa [hH]at d
     have hJ:Hid (∀A,IsRd A y (k::r) sH->Calls Tryz.prog 152 #[.pointer (some ⟨y,0,none⟩)] A fun e B=>e=.returned (.int .i64 (N:Nat))/\IsRd B y (k::r) sO/\A.grownBy B (some y)):=fun A h=>by
      have d:=pQ y (k::r) sH A h
      rwa [hO]at d
     have it:Hid (∀A,IsRd A y (k::r) sP->Calls Tryz.prog 151 #[.pointer (some ⟨y,0,none⟩)] A fun e B=>e=.returned (.int .i64 (st:Nat))/\IsRd B y (k::r) sS/\A.grownBy B (some y)):=fun A h=>by
      have d:=im y (k::r) sP A h
      rwa [hS]at d
     have iv:Hid (∀A,IsRd A y (k::r) sS->Calls Tryz.prog 151 #[.pointer (some ⟨y,0,none⟩)] A fun e B=>e=.returned (.int .i64 (au:Nat))/\IsRd B y (k::r) sU/\A.grownBy B (some y)):=fun A h=>by
      have d:=im y (k::r) sS A h
      rwa [hU]at d
     have iE:Hid (∀A,IsRd A y (k::r) sU->Calls Tryz.prog 151 #[.pointer (some ⟨y,0,none⟩)] A fun e B=>e=.returned (.int .i64 (ml:Nat))/\IsRd B y (k::r) sV/\A.grownBy B (some y)):=fun A h=>by
      have d:=im y (k::r) sU A h
      rwa [hV]at d
     have i0:Hid (∀A,IsRd A y (k::r) sV->Calls Tryz.prog 150 #[.pointer (some ⟨y,0,none⟩),.int .i64 ml] A fun e B=>∃v,e=.returned v/\IsBytes B v X/\(∀a n' L,v=.slice (some a) n' L->A.heap.size<=a.block)/\IsRd B y (k::r) sW/\A.grownBy B (some y)):=fun A h=>by
      have d:=eY y (k::r) sV ml A h
      rwa [hW]at d
     have i1:N<=255:=by
      have d:=congrArg Prod.snd hO;unfold bi at d;dsimp only at d;have:=((az sH 1).2.headD 0).toNat_lt;omega
     have hK:Hid (dh (N - 0) sO []=(sP,ps)):=hP;have i2:Hid _:=gv;clear hH hO hP hS hU hV hW gv b1;rw[show((3:Nat):Int)=3 from rfl]at RO ⊢;obtain⟨c0,c1,c2,c3,c4,c5,c6,c7⟩:=ag RO.out;go_wp2_with fail;go_at_call 150;refine Calls.mono hG.out ?_;rintro ex wp ⟨vt,rfl,a7,-,cu,bS⟩;have h4:RrS w Q y J (k::r) (obC 0 (.slice none 0 0) (.slice none 0 0) [] (.slice none 0 0) 0 0 []) (obC 3 (.slice none 0 0) (.slice none 0 0) [] (.slice none 0 0) 0 0 []) sH 9 1 (J+1) (.slice none 0 0) 0 [] wp :=
      RrS.step ⟨a9.out,bd.out,RO.out,World.ownsRow_nil _ _ _ _,by omega,a'.out,by have:=Y.out;omega⟩ cu bS
     have H4:Hid _:=h4;have hL:Hid _:=a7;clear h4 cu bS a7 hG bd RO a9 a' c0 c1 c2 c3 c4 c5 c6 c7;go_wp2_with fail;go_at_call 137;refine(kN _ _ wp hL.out (by omega)).mono ?_;rw[i2.out];rintro ex wh ⟨rfl,hM⟩;have h5:=H4.out.more hM;have y3:=(ag h5.ro).2.2.2.1;have i3:wh.frozen? ⟨J,3,none⟩=false:=by simp[World.frozen?,h5.ro]
     have eg:Hid _:=h5.put 3 (S8 C) (c6:=obC 3 (.slice none 0 0) (.slice none 0 0) C (.slice none 0 0) 0 0 []) rfl;clear h5 hM H4 hL;go_upto_region 18 with fail;obtain⟨wi,gw⟩:∃wi,wi=wh.setCell ⟨J,3,none⟩ (S8 C):=⟨_,rfl⟩;rw[<-gw];rw[<-gw]at eg;clear gw y3 i3;go_wp2_with fail;go_at_call 152;refine(hJ.out wi eg.out.src).mono ?_;rintro ex wj ⟨rfl,H,I⟩;have i4:Hid _:=eg.out.step H I;clear H I hJ eg;go_wp2_with fail;go_loopw [11] (fun i wr=>∃(O:Nat) (s:Src) (l:List B8) (v:Value),O<=N/\i=.int .i64 O/\l.length=O/\Hid (dh (N - O) s l=(sP,ps))/\Hid (RrS w Q y J (k::r) (obC 0 (.slice none 0 0) (.slice none 0 0) [] (.slice none 0 0) 0 0 []) (obC 3 (.slice none 0 0) (.slice none 0 0) C v 0 0 []) s 9 1 (J+1) v l.length (l.map S8) wr)) (fun i _=>N - (intOf i).toNat)
     case atStart=>exact⟨0,sO,[],.slice none 0 0,Nat.zero_le _,rfl,rfl,hK,i4⟩
     case round =>
     obtain⟨O,s,l,v,K,rfl,gb,HI,HR⟩:=hrel;obtain⟨sb,a6⟩:∃x,s.bad=x:=⟨_,rfl⟩;obtain⟨ia,ic,cx,px,b2,-⟩:=HR.out.src;rw[a6]at b2;have y1:=(bE b2).2.2;have W:Hid _:=a6;clear b2 a6
     by_cases S:O=N\/sb=true
     .obtain ⟨rfl,rfl⟩:s=sP/\l=ps:=by
       have d:=HI.out;have G:dh (N - O) s l=(s,l):=by
        rcases S with h | h
        .rw [h,Nat.sub_self];rfl
        .cases ih:N - O with
         | zero=>rfl
         | succ j =>
          have h7:=W.out;rw[h]at h7;rw[dh,if_pos h7]
       rw[G]at d;exact⟨(Prod.mk.inj d).1,(Prod.mk.inj d).2⟩
      obtain⟨T,vn,U,rfl⟩:∃T vn U,v=.slice T vn U:=by
       rcases HR.out.own.2 with⟨h,-⟩ | ⟨g,c,f0,h,-⟩
       iterate 2
        .exact ⟨_,_,_,h⟩
      have b':Hid (l.length<=255):=by unfold Hid;omega
      have b3:(¬(O:Int)<(N:Int))\/((O:Int)<(N:Int)/\sb=true):=by
       rcases S with h | h
       .left;omega
       .by_cases il:O<N
        .exact .inr ⟨by omega,h⟩
        .left;omega
      clear S HI hK gb;rcases b3 with hc | ⟨hc,a6⟩
      case' inr=>rw[a6]at y1
      all_goals
       go_wp2_with fail;go_at_call 151;refine(it.out _ HR.out.src).mono ?_;rintro ex wa ⟨rfl,H,I⟩;have b5:Hid _:=HR.out.step H I;clear H I y1 HR;go_wp2_with fail;go_at_call 151;refine(iv.out wa b5.out.src).mono ?_;rintro ex wb ⟨rfl,H,I⟩;have eh:=b5.out.step H I;have ek:=eh.put 5 (.int .i64 st) (c6:=obC 3 (.slice none 0 0) (.slice none 0 0) C (.slice T vn U) st 0 []) rfl;have y5:=(ag eh.ro).2.2.2.2.2.1;have i5:wb.frozen? ⟨J,5,none⟩=false:=by simp[World.frozen?,eh.ro]
       have y6:=(ag ek.ro).2.2.2.2.2.2.1;have gm:(wb.setCell ⟨J,5,none⟩ (.int .i64 st)).frozen? ⟨J,6,none⟩=false:=by simp[World.frozen?,ek.ro]
       have b0:Hid _:=ek.put 6 (.int .i64 au) (c6:=obC 3 (.slice none 0 0) (.slice none 0 0) C (.slice T vn U) st au []) rfl;clear H I eh ek b5;go_upto_region 24 with fail;obtain⟨wd,gx⟩:∃wd,wd=(wb.setCell ⟨J,5,none⟩ (.int .i64 st)).setCell ⟨J,6,none⟩ (.int .i64 au):=⟨_,rfl⟩;rw[<-gx];rw[<-gx]at b0;clear gx y5 y6 i5 gm;go_wp2_with fail;go_at_call 151;refine(iE.out wd b0.out.src).mono ?_;rintro ex we ⟨rfl,H,I⟩;have gy:Hid _:=b0.out.step H I;clear H I b0;go_wp2_with fail;go_at_call 150;refine(i0.out we gy.out.src).mono ?_;rintro ex wf ⟨j5,rfl,a7,-,H,I⟩;have eo:=gy.out.step H I;have hE:=dr a7;obtain⟨ta,tc,rfl,-⟩:=id a7;have y7:=(ag eo.ro).2.2.2.2.2.2.2;have i6:wf.frozen? ⟨J,7,none⟩=false:=by simp[World.frozen?,eo.ro]
       have gz:Hid _:=eo.put 7 (S8 X) (c6:=(obC 3 (.slice none 0 0) (.slice none 0 0) C (.slice T vn U) st au X)) rfl;clear H I a7 eo gy;go_upto_region 25 with fail;obtain⟨es,dq⟩:∃wg,wg=wf.setCell ⟨J,7,none⟩ (S8 X):=⟨_,rfl⟩;rw[<-dq];rw[<-dq]at gz;clear dq y7 i6 hE W;have HR:Hid _:=gz.out;clear gz;obtain⟨ce,e8⟩:∃x,sW.bad=x:=⟨_,rfl⟩;have W:Hid _:=e8;clear e8;have RE:Hid _:=HR.out.ro;have bh:Hid _:=HR.out.r2;have bk:Hid (Ext w es):=HR.out.ext;have bl:Hid (IsRd es y (k::r) sW):=HR.out.src;have cv:∀a n' L,Value.slice T vn U=.slice (some a) n' L->J<a.block:=fun a n' L he=>by
        have G:=(HR.out.own.lt a.block (by rw[he];rfl)).1;omega
       have bo:Hid (∀a n' L,Value.slice T vn U=.slice (some a) n' L->J<a.block):=cv;have a0:Hid (Row es (.slice T vn U) l.length (l.map S8)):=Row.BM HR.out.own (by have:=b'.out;omega);clear cv;obtain⟨q0,q1,q2,q3,q4,q5,q6,q7⟩:=ag RE.out;obtain⟨⟨pb,er⟩,a1⟩:∃q,aT ⟨3,[],[],C,l,st,au,X⟩=q:=⟨_,rfl⟩;have a2:Hid _:=a1;have P:Hid _:=jn (obV ⟨3,[],[],C,l,st,au,X⟩ (.slice none 0 0) (.slice none 0 0) (.slice T vn U)) ⟨3,[],[],C,l,st,au,X⟩ es ⟨_,_,_,rfl,Row.nil _,Row.nil _,a0.out⟩ d8.out;rw[a1]at P;unfold obV at P;clear a1 HR;go_wp2_with fail;go_at_call 86;refine Calls.mono P.out ?_;rintro ex w6 ⟨⟨u,rfl,hu⟩,F⟩;have HU:Hid (IsBytes w6 u pb):=by
        have hi:pb.length<=100000:=by
         have d:=ig ⟨3,[],[],C,l,st,au,X⟩;rw[a2.out]at d;exact d
        unfold Hid IsBytes;exact Row.BM hu (by omega)
       have V:Hid (Ext w w6):=bk.out.trans F;have ad:Hid _:=Ext.row F bh.out;have cs:Hid _:=Ext.row F RE.out;have bq:Hid _:=Row.ext a0.out F;obtain⟨_,_,_,_,D,-⟩:=IsRd.ext bl.out F;rw[W.out]at D;obtain⟨e0,e1,e2⟩:=bE D;clear hu F P q0 q1 q2 q3 q4 q5 q6 q7 RE bh bk bl a0 D e0 e1;obtain⟨q0,q1,q2,q3,q4,q5,q6,q7⟩:=ag cs.out
       try dsimp only
       by_cases M:ce=true\/er≠0
       .obtain ⟨rfl,rfl⟩:o9=ob0/\e9=4:=by
         have d:=a8.out;rw[if_pos (by
          rcases M with h | h
          .exact .inl (W.out.trans h)
          .exact .inr (.inl (fun hm=>h (by have G:=a2.out;unfold aT at G;rw[if_pos hm]at G;exact(Prod.mk.inj G).2.symm))))]at d
         exact⟨(Prod.mk.inj d).1,(Prod.mk.inj d).2⟩
        have f1:ce=true\/ce=false/\(er != 0)=true:=by
         rcases M with h | h
         .exact .inl h
         .cases c8:ce with
          | true=>exact .inl rfl
          | false=>exact .inr ⟨rfl,by simpa using h⟩
        clear M;have p:=ad.out;rcases f1 with b8 | ⟨b8,br⟩
        all_goals
         rw[b8]at e2
         go_wp2_with (refine wpList_store_row rfl 95 (.tmp 2) (.tmp 130) rfl Q (obC 0 (.slice none 0 0) (.slice none 0 0) [] (.slice none 0 0) 0 0 []) rfl rfl 95 _ p bH rfl (by simp[Value.oneCell']) ?_)
         refine bodyPost_ret (ay rfl _ _ Q 95 (obC 0 (.slice none 0 0) (.slice none 0 0) [] (.slice none 0 0) 0 0 []) (0,0) _ rfl (setRow_heap _ _ _ _ _ _ p) Tryz.underlying95 rfl bH) rfl ?_;exact⟨⟨_,rfl,_,_,_,rfl,Row.nil _,Row.nil _,Row.nil _,Fsh.nil _ _ _,Fsh.nil _ _ _,Fsh.nil _ _ _⟩,Ext.but V.out (ae _ _ _) (Nat.le_of_eq Y.out)⟩
       .have b4:ce=false:=by
         cases c8:ce with
         | true=>exact absurd (.inl c8) M
         | false=>rfl
        have a3:er=0:=by
         by_cases h:er=0
         .exact h
         .exact absurd (.inr h) M
        have br:(er != 0)=false:=by simpa using a3
        have f3:Hid _:=W.out.trans b4;rw[b4]at e2;have bs:bN ⟨3,[],[],C,l,st,au,X⟩=true/\pb=ez ⟨3,[],[],C,l,st,au,X⟩:=by
         have G:=a2.out;unfold aT at G;split at G
         .rename_i hm;exact⟨hm,(Prod.mk.inj G).1.symm⟩
         .have:=(Prod.mk.inj G).2;omega
        obtain⟨eq,bt⟩:∃e,(pb==k::r)=e:=⟨_,rfl⟩;have a4:Hid _:=bt;have a5:Hid _:=bs;have ct:Hid _:=IsBytes.ext HV.out V.out;clear bt bs a3 M b4;go_wp2_with fail;go_at_call 31;refine(cD _ _ _ _ w6 HU.out ct.out).mono ?_;rw[a4.out];rintro ey w8 ⟨rfl,bx⟩;rw[bx];clear bx
        cases eq with
        | false =>
         obtain⟨rfl,rfl⟩:o9=ob0/\e9=4:=by
          have d:=a8.out;rw[if_pos (.inr (.inr (fun h=>by have G:=a4.out;rw[a5.out.2,h]at G;simp at G)))]at d;exact⟨(Prod.mk.inj d).1,(Prod.mk.inj d).2⟩
         have p:=ad.out
         go_wp2_with (refine wpList_store_row rfl 95 (.tmp 2) (.tmp 130) rfl Q (obC 0 (.slice none 0 0) (.slice none 0 0) [] (.slice none 0 0) 0 0 []) rfl rfl 95 _ p bH rfl (by simp[Value.oneCell']) ?_)
         refine bodyPost_ret (ay rfl _ _ Q 95 (obC 0 (.slice none 0 0) (.slice none 0 0) [] (.slice none 0 0) 0 0 []) (0,0) _ rfl (setRow_heap _ _ _ _ _ _ p) Tryz.underlying95 rfl bH) rfl ?_;exact⟨⟨_,rfl,_,_,_,rfl,Row.nil _,Row.nil _,Row.nil _,Fsh.nil _ _ _,Fsh.nil _ _ _,Fsh.nil _ _ _⟩,Ext.but V.out (ae _ _ _) (Nat.le_of_eq Y.out)⟩
        | true =>
         obtain⟨rfl,rfl⟩:o9=⟨3,[],[],C,l,st,au,X⟩/\e9=0:=by
          have d:=a8.out;rw[if_neg (by
           intro h;rcases h with h | h | h
           .rw [f3.out]at h;cases h
           .exact h a5.out.1
           .exact h (by rw[<-a5.out.2];simpa using a4.out))]at d
          exact⟨(Prod.mk.inj d).1,(Prod.mk.inj d).2⟩
         have p:=ad.out
         go_wp2_with (refine wpList_store_row rfl 95 (.tmp 2) (.tmp 131) rfl Q (obC 3 (.slice none 0 0) (.slice none 0 0) C (.slice T vn U) st au X) rfl rfl 95 _ p bH rfl (by simp[Value.oneCell']) ?_)
         refine bodyPost_ret (ay rfl _ _ Q 95 (obC 3 (.slice none 0 0) (.slice none 0 0) C (.slice T vn U) st au X) (0,0) _ rfl (setRow_heap _ _ _ _ _ _ p) Tryz.underlying95 rfl bH) rfl ?_;have c9:=Row.but bq.out (ae w6 Q (obC 3 (.slice none 0 0) (.slice none 0 0) C (.slice T vn U) st au X)) (fun a n L he=>by have G:=bo.out a n L he;omega);exact⟨⟨_,rfl,_,_,_,rfl,Row.nil _,Row.nil _,c9,Fsh.nil _ _ _,Fsh.nil _ _ _,(fun a n L he=>by have G:=bo.out a n L he;omega)⟩,Ext.but V.out (ae _ _ _) (Nat.le_of_eq Y.out)⟩
     .have f4:O<N:=by omega
      have c':Hid (O<N):=f4;have f5:sb=false:=by
       cases sb with
       | false=>rfl
       | true=>exact absurd (.inr rfl) S
      subst f5;have io:(O:Int)<(N:Int):=by omega
      obtain⟨j,E⟩:∃j,N - O=j+1:=⟨N - O - 1,by omega⟩;obtain⟨⟨sD,tk⟩,hD⟩:∃q,az s 32=q:=⟨_,rfl⟩;have fa:tk.length<=32:=by have d:=m8 s 32;rw[hD]at d;exact d
      have f7:Hid (dh (N - (O+1)) sD (l++[bX tk])=(sP,ps)):=by
       have d:=HI.out;rw[E,dh,if_neg (by rw[W.out];simp)]at d;unfold bg at d;rw[hD]at d;rw[show N - (O+1)=j by omega];exact d
      have HD:Hid (az s 32=(sD,tk)):=hD;have ga:Hid (tk.length<=32):=fa;have gd:Hid (∀A,IsRd A y (k::r) s->Calls Tryz.prog 150 #[.pointer (some ⟨y,0,none⟩),.int .i64 32] A fun e B=>∃v,e=.returned v/\IsBytes B v (az s 32).2/\(∀a n' L,v=.slice (some a) n' L->A.heap.size<=a.block)/\IsRd B y (k::r) (az s 32).1/\A.grownBy B (some y)):=fun A h=>eY y (k::r) s 32 A h
      obtain⟨l1,l2,l3,l4⟩:=HR.out.lt;have dl:Hid (∀k o,(k,o)∈[(Q,Obj.cells (obC 0 (.slice none 0 0) (.slice none 0 0) [] (.slice none 0 0) 0 0 []) 95 (0,0)),(J,Obj.cells (obC 3 (.slice none 0 0) (.slice none 0 0) C v 0 0 []) 95 (0,0))]->k≠y/\k<J+1):=fun k o K=>by
       simp only[List.mem_cons,Prod.mk.injEq,List.not_mem_nil,or_false]at K;rcases K with⟨rfl,-⟩ | ⟨rfl,-⟩ <;> omega
      have hB:w.heap.size<=y:=by omega
      have dn:y<J+1:=by omega
      have j6:l.length<=255:=by omega
      clear hD E S HI fa;go_upto_region 22 with fail;apply aI 8 (fun z A=>RrC w y (k::r) s 9 1 (J+1) v l.length (l.map S8) [S8 (bX (az s 32).2)] [(Q,Obj.cells (obC 0 (.slice none 0 0) (.slice none 0 0) [] (.slice none 0 0) 0 0 []) 95 (0,0)),(J,Obj.cells (obC 3 (.slice none 0 0) (.slice none 0 0) C v 0 0 []) 95 (0,0))] (.slice none 0 0) [] (z 3) (z 5) (z 6) A) [false,false,false,true,false,true,true,false] [_,v,_,undef,S8 (bX (az s 32).2),undef,undef,_] [none,none,none,none,none,none,none,none] [[],[0],[],[2],[3],[4],[1,5],[]] (by kernel_rfl) (by kernel_rfl) rfl
      .exact RrS.Dz HR.out ⟨Row.nil _,fun k K=>by simp[Value.ownBlock]at K⟩ ⟨rfl,rfl,rfl,Nat.le_refl _,fun _ _=>rfl⟩
      .simp (maxSteps:=1000000)only[cY,cG,bP,cA,cN,List.getD_cons_zero,List.getD_cons_succ,Bool.false_eq_true,if_false,if_true,and_true,true_and,forall_const,Nat.zero_add,Nat.reduceAdd,List.take_succ_cons,List.take_zero,aa,Act.put,List.setIfInBounds_toArray,List.set_cons_zero,List.set_cons_succ];and_intros
       iterate 3 · intro xs z wq E;intros;rename_i Z;have f2:=(ag E.k5).2.2.2.2.1;go_simp;exact Z _ _ E rfl
       .intro xs z wq E hz K R Z;rw[hz]at E;go_simp;exact(gd.out wq (E.Cr rfl)).mono (by rintro e' A ⟨u,rfl,h1,h2,h3,h4⟩;exact⟨_,rfl,Z _ _ (E.take dn hB (fun k o K=>(dl.out k o K).1) h1 h2 h3 h4)⟩)
       .intro xs z wq E K R Z;have gf:=E.CJ _ K;go_simp;exact(kN _ _ wq gf.1 (by rw[HD.out];have:=ga.out;dsimp only;omega)).mono (by rintro e' A ⟨rfl,hx⟩;exact⟨_,rfl,Z _ _ (E.more hx) rfl⟩)
       .intro xs z wq E hz K R Z;rw[hz]at E;go_simp;exact Z _ _ E.Cp
       .intro xs z wq E hz K R Z;obtain⟨gh,gi⟩:=K;rw[hz]at E;obtain⟨v',A,hr,gl⟩:=E.app gi dn (by omega) (fun k o K=>(dl.out k o K).2) Tryz.underlying39 iV rfl (by omega) rfl (by simp[Value.oneCell']) (by omega) (by omega);apply et (.tmp 92) (.tmp 96) 39 39 (v:=xs 1) (xv:=xs 5) (v':=v') (w':=A)
        iterate 4
         .rfl
        .rw [gh];exact hr
        .exact Z _ _ gl
       .intro xs z wq E;intros;rename_i Z;have f2:=(ag E.k5).2.2.2.2.1;go_simp;exact Z _ _ E rfl
      intro xs wd b6 K;simp only[cX,List.getD_cons_zero,List.getD_cons_succ,Bool.false_eq_true,if_false,if_true]at b6;simp only[bU,Nat.zero_add,Nat.reduceAdd,and_true]at K;simp(maxSteps:=1000000)only[List.drop_succ_cons,List.drop_zero,Nat.zero_add,Nat.reduceAdd,List.take_succ_cons,List.take_zero,aa,Act.put,List.setIfInBounds_toArray,List.set_cons_zero,List.set_cons_succ,K];clear K;generalize xs 3=x3 at *;generalize xs 5=x5 at *;generalize xs 6=x6 at *;have D:=RrC.Dx ⟨l1,l2,l3,l4⟩ b6;rw[HD.out]at D;dsimp only at D;have y6:=(ag D.ro).2.2.2.2.1;have gm:wd.frozen? ⟨J,4,none⟩=false:=by simp[World.frozen?,D.ro]
      have b0:Hid (RrS w Q y J (k::r) (obC 0 (.slice none 0 0) (.slice none 0 0) [] (.slice none 0 0) 0 0 []) (obC 3 (.slice none 0 0) (.slice none 0 0) C x6 0 0 []) sD 9 1 (J+1) x6 (l++[bX tk]).length ((l++[bX tk]).map S8) (wd.setCell ⟨J,4,none⟩ x6)):=by
       have d:=D.put 4 x6 (c6:=obC 3 (.slice none 0 0) (.slice none 0 0) C x6 0 0 []) rfl;unfold Hid;rw[List.length_append,List.map_append];exact d
      obtain⟨xa,xn,xc,rfl⟩:∃T vn U,x6=.slice T vn U:=by
       rcases D.own.2 with⟨h,-⟩ | ⟨g,c,f0,h,-⟩
       iterate 2
        .exact ⟨_,_,_,h⟩
      have fb:(l++[bX tk]).length=O+1:=by rw[List.length_append,gb];rfl
      have i7:Hid _:=fb;clear b6 D fb;go_wp2_with fail;go_roundw
      case rel=>exact⟨O+1,sD,l++[bX tk],_,c'.out,by go_num,i7.out,f7,b0⟩
      case measure=>have:=c'.out;simp[intOf];omega
    .have ev:¬((kk:Int)=3):=by omega
     have j7:(((kk:Nat):Int)==3)=false:=by simpa using ev
     obtain⟨rfl,rfl⟩:(⟨r,false⟩:Src)=sr/\(⟨kk,[],[],[],[],0,0,[]⟩:Ob)=ob:=by
      have d:=b1.out;unfold bV at d;rw[if_neg ec,if_neg ef,if_neg ev]at d;exact⟨(Prod.mk.inj d).1,(Prod.mk.inj d).2⟩
     have g0:bN ⟨kk,[],[],[],[],0,0,[]⟩=false:=by
      unfold bN;dsimp only;rw[if_neg ec,if_neg ef,if_neg ev]
     have ja:Hid _:=g0;have P:Hid _:=jn (obV ⟨kk,[],[],[],[],0,0,[]⟩ (.slice none 0 0) (.slice none 0 0) (.slice none 0 0)) ⟨kk,[],[],[],[],0,0,[]⟩ wo ⟨_,_,_,rfl,Row.nil _,Row.nil _,Row.nil _⟩ d8.out;rw[show aT ⟨kk,[],[],[],[],0,0,[]⟩=([],1)by unfold aT;rw[g0];rfl]at P;unfold obV at P;obtain⟨q0,q1,q2,q3,q4,q5,q6,q7⟩:=ag RO.out;clear g0 ec ef ev;go_wp2_with fail;go_at_call 86;refine Calls.mono P.out ?_;rintro e6 w6 ⟨⟨u,rfl,hu⟩,F⟩;have V:Hid (Ext w w6):=a'.out.trans F;have ad:Hid _:=Ext.row F bd.out;obtain⟨_,_,_,_,D,-⟩:=IsRd.ext a9.out F;obtain⟨e0,e1,e2⟩:=bE D;dsimp only at e2;clear hu F P q0 q1 q2 q3 q4 q5 q6 q7 RO bd a' a9 D e0 e1
     try dsimp only
     obtain⟨rfl,rfl⟩:o9=ob0/\e9=4:=by
      have d:=a8.out;rw[if_pos (.inr (.inl (fun h=>by rw[ja.out]at h;cases h)))]at d;exact⟨(Prod.mk.inj d).1,(Prod.mk.inj d).2⟩
     have p:=ad.out
     go_wp2_with (refine wpList_store_row rfl 95 (.tmp 2) (.tmp 130) rfl Q (obC 0 (.slice none 0 0) (.slice none 0 0) [] (.slice none 0 0) 0 0 []) rfl rfl 95 _ p bH rfl (by simp[Value.oneCell']) ?_)
     refine bodyPost_ret (ay rfl _ _ Q 95 (obC 0 (.slice none 0 0) (.slice none 0 0) [] (.slice none 0 0) 0 0 []) (0,0) _ rfl (setRow_heap _ _ _ _ _ _ p) Tryz.underlying95 rfl bH) rfl ?_;exact⟨⟨_,rfl,_,_,_,rfl,Row.nil _,Row.nil _,Row.nil _,Fsh.nil _ _ _,Fsh.nil _ _ _,Fsh.nil _ _ _⟩,Ext.but V.out (ae _ _ _) (Nat.le_of_eq Y.out)⟩
end
section
open Go Go.RowKit
structure ApC (wB:World) (e:TypeId) (size base:Nat) (v:Value) (n:Nat) (cs news:List Value) (keep:List (Nat×Obj)) (zl za:Option Value) (w:World):Prop where
 kp:∀k o,(k,o)∈keep->w.heap[k]? = some o
 Cf:za=none->w.ownsRow base e size v n cs
 Co:∀u,za=some u->w.ownsRow base e size u (n+1) (cs++news)
 lit:∀u,zl=some u->za=none->∃gl,u=.slice (some ⟨gl,0,none⟩) 1 1/\base<=gl/\w.heap[gl]? = some (.cells news.toArray e (0,0))
 sz:base<=w.heap.size
 ext:Ext wB w
section
variable {wB w w':World} {e:TypeId} {size base:Nat} {v:Value} {n:Nat} {cs news:List Value} {keep:List (Nat×Obj)} {zl za:Option Value}
theorem ApC.start (c:∀k o,(k,o)∈keep->w.heap[k]? = some o) (d:w.ownsRow base e size v n cs) (g:base<=w.heap.size) (h:Ext wB w) (a:Ext w w'):ApC wB e size base v n cs news keep none none w' :=
 ⟨fun k o i=>Ext.row a (c k o i),fun _=>al d a,fun u b=>(by cases b),fun u b=>(by cases b),Nat.le_trans g a.size,h.trans a⟩
variable {x1 x2 x3:Nat} {o1 o2 o3:Obj}
theorem ApC.k1 (h:ApC wB e size base v n cs news [(x1,o1),(x2,o2),(x3,o3)] zl za w):w.heap[x1]? = some o1:=h.kp _ _ (by simp)
theorem ApC.k2 (h:ApC wB e size base v n cs news [(x1,o1),(x2,o2),(x3,o3)] zl za w):w.heap[x2]? = some o2:=h.kp _ _ (by simp)
theorem ApC.k3 (h:ApC wB e size base v n cs news [(x1,o1),(x2,o2),(x3,o3)] zl za w):w.heap[x3]? = some o3:=h.kp _ _ (by simp)
theorem ApC.Cp (h:ApC wB e size base v n cs news keep none za w):ApC wB e size base v n cs news keep (some (.slice (some ⟨w.heap.size,0,none⟩) 1 1)) za (w.alloc (.cells news.toArray e)):=by
 have a:Ext w (w.alloc (.cells news.toArray e)):=(Ext.refl w).alloc _;exact⟨fun k o d=>Ext.row a (h.kp k o d),fun c=>al (h.Cf c) a,fun u b=>al (h.Co u b) a,fun u b c=>(by cases b;exact⟨_,rfl,h.sz,ab _ _⟩),Nat.le_trans h.sz a.size,h.ext.trans a⟩
theorem ApC.app {u:Value} {T:TypeId} {z:Value} {bytes:Nat} (h:ApC wB e size base v n cs news keep zl none w) (a:zl=some u) (B:wB.heap.size<=base) (j:∀k o,(k,o)∈keep->k<base)
  (C:Tryz.prog.underlying T=some (.slice e)) (b:(Tryz.prog.info? e).map (fun i=>(i.zero,i.size,i.bytes))=some (some z,size,bytes)) (l:z.cells.size=size) (p:0<size) (D:news.length=1*size) (E:∀u∈news,u.oneCell'=true) (F:(n+1)*bytes<=140737488355328) (q:n+1<=1000000000) :
  ∃g w',(Builtin.append_ #[T,T] T #[v,u]).run Tryz.prog w=.ok g w'/\ApC wB e size base v n cs news keep zl (some g) w':=by
 obtain⟨J,rfl,G,c⟩:=h.lit u a rfl;obtain⟨g,w',H,I,r,K⟩:=gG T e z size bytes C b l p base v n cs (h.Cf rfl) _ 1 news (Row.new c (by decide) _ rfl) D E F q h.sz;have d:∀k,v.ownBlock=some k->base<=k:=fun k a=>((h.Cf rfl).lt k a).1
 have t:∀k o,k<base->w.heap[k]? = some o->w'.heap[k]? = some o:=fun k o a y=>(r.block k (Array.getElem?_eq_some_iff.1 y).1 (fun e=>by have:=d k e.symm;omega)).trans y
 exact⟨g,w',H,fun k o a=>t k o (j k o a) (h.kp k o a),fun x=>(by cases x),fun u A=>(by cases A;exact I),fun u A x=>(by cases x),Nat.le_trans h.sz r.size,Below.grown h.ext r h.ext.size (fun k a=>Nat.le_trans B (d k a))⟩
end
theorem uK {α:Type} {l:List α} {k:Nat} {e:α} (h:l[k]? = some e):l.take (k+1)=l.take k++[e]:=by rw[List.take_add_one,h];rfl
theorem wW (w:World) (a b:Obj):((w.alloc a).alloc b).heap[w.heap.size]? = some a/\((w.alloc a).alloc b).heap[w.heap.size+1]? = some b/\Ext w ((w.alloc a).alloc b)/\((w.alloc a).alloc b).heap.size=w.heap.size+1+1:=by
 have c:=dK w a;have d:=dK (w.alloc a) b;have e:Ext (w.alloc a) ((w.alloc a).alloc b):=(Ext.refl _).alloc _;refine⟨Ext.row e (ab w a),?_,((Ext.refl w).alloc a).alloc b,by rw[d,c]⟩;have h:=ab (w.alloc a) b
 rwa [c]at h
structure PlS (w:World) (gb g2 g3:Nat) (cb c2 c3:Array Value) (v:Value) (n:Nat) (cs:List Value) (wr:World):Prop where
 rb:wr.heap[gb]? = some (.cells cb 41 (0,0))
 r2:wr.heap[g2]? = some (.cells c2 95 (0,0))
 r3:wr.heap[g3]? = some (.cells c3 95 (0,0))
 own:wr.ownsRow (g3+1) 138 3 v n cs
 sz:g3+1<=wr.heap.size
 ext:Ext w wr
 lt:w.heap.size=gb/\gb+1=g2/\g2+1=g3
theorem PlS.put {w wr:World} {c d a:Nat} {cb e g c6:Array Value} {v:Value} {n:Nat} {cs:List Value} (h:PlS w c d a cb e g v n cs wr) (j:Nat) (x:Value) (i:g.setIfInBounds j x=c6):PlS w c d a cb e c6 v n cs (wr.setCell ⟨a,j,none⟩ x):=by
 obtain⟨p,q,r⟩:=h.lt;have b:=aH wr a j x;refine⟨aS b h.rb (by omega),aS b h.r2 (by omega),?_,h.own.kept b ?_,Nat.le_trans h.sz b.size,Ext.but h.ext b (by omega),h.lt⟩
 .rw [heap_setCell_same wr a j _ _ _ h.r3,i]
 .cases l:v.ownBlock with
  | none=>exact .inl rfl
  | some k=>exact .inr (fun o=>by cases o;have:=(h.own.lt _ l).1;omega)
theorem nW (v:Value) (o:Ob) (w:World) (hv:IsOb w v o) (bt:o.items.length<=1000000) :
  Calls Tryz.prog 34 #[v] w fun e w'=>(∃u,e=.returned u/\IsOb w' u o)/\Ext w w':=by
 obtain⟨vd,vi,vp,rfl,d1,d2,d3⟩:=hv;have D1:Hid (IsBytes w vd o.data):=d1;have D3:Hid (IsStrs w vp o.parents):=d3;obtain⟨d,j,rfl,t1,t2,t3,-⟩:=id d1.get;obtain⟨ia,Q,rfl,s1,s2,s3,hi⟩:=id d2.get;obtain⟨l,p,rfl,r1,r2,r3,-⟩:=id d3.get;have HI:Hid _:=hi;clear d1 d2 d3 hi;obtain⟨M,F⟩:∃M,M=(w.alloc (.cells (obC o.kind (.slice d o.data.length j) (.slice ia o.items.length Q) o.tree (.slice l o.parents.length p) o.BL o.I o.msg) 41)).alloc (.cells (obC 0 (.slice none 0 0) (.slice none 0 0) [] (.slice none 0 0) 0 0 []) 95):=⟨_,rfl⟩;obtain⟨a1,a2,S,q⟩:=wW w (.cells (obC o.kind (.slice d o.data.length j) (.slice ia o.items.length Q) o.tree (.slice l o.parents.length p) o.BL o.I o.msg) 41) (.cells (obC 0 (.slice none 0 0) (.slice none 0 0) [] (.slice none 0 0) 0 0 []) 95);rw[<-F]at a1 a2 S q;obtain⟨N,T⟩:∃g,w.heap.size=g:=⟨_,rfl⟩;have a6:Hid (w.heap.size=N):=T;rw[T]at a1 a2 q;obtain⟨y,U⟩:∃g,N+1=g:=⟨_,rfl⟩;have a7:Hid (N+1=y):=U;rw[U]at a2 q;have V:Hid _:=a1;have ad:Hid _:=a2;have au:Hid (Ext w M):=S;have a0:Hid (M.heap.size=y+1):=q;unfold obC at F;clear a1 a2 S q;go_enter Tryz.func34,Tryz.ntmps34;go_upto_region 1 with fail;rw[<-F];clear F T U;obtain⟨c0,c1,c2,c3,c4,c5,c6,c7⟩:=ag V.out;have q:=a0.out;go_upto_region 2 with fail;obtain⟨w3,B⟩:∃w3,w3=M.alloc (.cells (obC o.kind (.slice d o.data.length j) (.slice none 0 0) o.tree (.slice l o.parents.length p) o.BL o.I o.msg) 95):=⟨_,rfl⟩;have G:Ext M w3:=by rw[B];exact(Ext.refl _).alloc _
 have H:w3.heap[M.heap.size]? = some (.cells (obC o.kind (.slice d o.data.length j) (.slice none 0 0) o.tree (.slice l o.parents.length p) o.BL o.I o.msg) 95 (0,0)):=by rw[B];exact ab _ _
 have W:w3.heap.size=M.heap.size+1:=by rw[B];exact dK _ _
 unfold obC at B;rw[<-B];clear B;rw[q]at H W;obtain⟨I,a3⟩:∃g,y+1=g:=⟨_,rfl⟩;rw[a3]at H W ⊢;have HS:Hid (PlS w N y I (obC o.kind (.slice d o.data.length j) (.slice ia o.items.length Q) o.tree (.slice l o.parents.length p) o.BL o.I o.msg) (obC 0 (.slice none 0 0) (.slice none 0 0) [] (.slice none 0 0) 0 0 []) (obC o.kind (.slice d o.data.length j) (.slice none 0 0) o.tree (.slice l o.parents.length p) o.BL o.I o.msg) (.slice none 0 0) 0 [] w3) :=
  ⟨Ext.row G V.out,Ext.row G ad.out,H,World.ownsRow_nil _ _ _ _,by omega,au.out.trans G,by have:=a6.out;have:=a7.out;omega⟩
 clear c0 c1 c2 c3 c4 c5 c6 c7 q G H W a3 V ad au a0;go_wp2_with fail;go_loopw [4] (fun i wr=>∃(k:Nat) (v:Value),k<=o.items.length/\i=.int .i64 k/\Hid (PlS w N y I (obC o.kind (.slice d o.data.length j) (.slice ia o.items.length Q) o.tree (.slice l o.parents.length p) o.BL o.I o.msg) (obC 0 (.slice none 0 0) (.slice none 0 0) [] (.slice none 0 0) 0 0 []) (obC o.kind (.slice d o.data.length j) v o.tree (.slice l o.parents.length p) o.BL o.I o.msg) v k ((o.items.take k).flatMap itC) wr)) (fun i _=>o.items.length - (intOf i).toNat)
 case atStart=>exact⟨0,.slice none 0 0,Nat.zero_le _,rfl,HS.out⟩
 case round =>
 obtain⟨k,v,A,rfl,r⟩:=hrel
 by_cases a8:k<o.items.length
 .obtain ⟨x,hx⟩:∃x,o.items[k]? = some x:=⟨_,List.getElem?_eq_getElem a8⟩;obtain⟨bb,oo,rfl,h0,h1,h2⟩:=HI.out k x hx;have a9:Hid _:=hx;have Y0:Hid _:=h0;have Y1:Hid _:=h1;have Y2:Hid _:=h2;have b2:=(ag r.out.rb).2.2.1;obtain⟨l1,l2,l3⟩:=r.out.lt;have a4:Hid (∀k X,(k,X)∈[(N,Obj.cells (obC o.kind (.slice d o.data.length j) (.slice (some ⟨bb,oo,none⟩) o.items.length Q) o.tree (.slice l o.parents.length p) o.BL o.I o.msg) 41 (0,0)),(y,Obj.cells (obC 0 (.slice none 0 0) (.slice none 0 0) [] (.slice none 0 0) 0 0 []) 95 (0,0)),(I,Obj.cells (obC o.kind (.slice d o.data.length j) v o.tree (.slice l o.parents.length p) o.BL o.I o.msg) 95 (0,0))]->k<I+1/\wr.heap[k]? = some X):=fun k X A=>by
   simp only[List.mem_cons,Prod.mk.injEq,List.not_mem_nil,or_false]at A;rcases A with⟨rfl,rfl⟩ | ⟨rfl,rfl⟩ | ⟨rfl,rfl⟩
   .exact ⟨by omega,r.out.rb⟩
   .exact ⟨by omega,r.out.r2⟩
   .exact ⟨by omega,r.out.r3⟩
  have hB:w.heap.size<=I+1:=by omega
  obtain⟨O,name,id⟩:=x;clear hx h0 h1 h2;go_upto_region 5 with fail;apply aI 24 (fun z w'=>ApC w 138 3 (I+1) v k ((o.items.take k).flatMap itC) (itC ⟨O,name,id⟩) [(N,Obj.cells (obC o.kind (.slice d o.data.length j) (.slice (some ⟨bb,oo,none⟩) o.items.length Q) o.tree (.slice l o.parents.length p) o.BL o.I o.msg) 41 (0,0)),(y,Obj.cells (obC 0 (.slice none 0 0) (.slice none 0 0) [] (.slice none 0 0) 0 0 []) 95 (0,0)),(I,Obj.cells (obC o.kind (.slice d o.data.length j) v o.tree (.slice l o.parents.length p) o.BL o.I o.msg) 95 (0,0))] (z 21) (z 22) w') [false,false,false,false,false,false,false,false,false,false,false,false,false,false,false,false,false,false,false,false,false,true,true,false] [_,v,_,_,_,_,_,_,_,_,_,_,_,_,_,_,_,_,_,_,.agg #[.int .i64 O,S8 name,S8 id],undef,undef,_] [none,none,none,none,none,none,none,none,none,none,none,none,none,none,none,none,none,none,none,none,none,none,none,none] [[],[0],[],[2],[],[3,4],[5],[6],[],[8],[],[9,10],[11],[12],[],[14],[],[15,16],[17],[18],[7,13,19],[20],[1,21],[]] (by kernel_rfl) (by kernel_rfl) rfl
  .exact ApC.start (fun k X A=>(a4.out k X A).2) r.out.own r.out.sz r.out.ext ⟨rfl,rfl,rfl,Nat.le_refl _,fun _ _=>rfl⟩
  .simp (maxSteps:=1000000)only[cY,cG,bP,cA,cN,List.getD_cons_zero,List.getD_cons_succ,Bool.false_eq_true,if_false,if_true,and_true,true_and,forall_const,Nat.zero_add,Nat.reduceAdd,List.take_succ_cons,List.take_zero,aa,Act.put,List.setIfInBounds_toArray,List.set_cons_zero,List.set_cons_succ];and_intros
   iterate 21 · intro P z wq b;intros;rename_i Y;have f2:=(ag b.k1).2.2.1;have f3:=(ag b.k3).2.2.1;have e0:=b.ext.cell Y0.out;have e1:=b.ext.cell Y1.out;have e2:=b.ext.cell Y2.out;go_simp;exact Y _ _ b rfl
   .intro P z wq b hz A R Y;rw[hz]at b;go_simp;exact Y _ _ b.Cp
   .intro P z wq b hz A R Y;obtain⟨a',bd⟩:=A;rw[hz]at b;obtain⟨v',w',hr,bh⟩:=b.app bd hB (fun k X A=>(a4.out k X A).1) Tryz.underlying93 pR rfl (by omega) rfl (by simp[itC,Value.oneCell']) (by omega) (by omega);apply et (.tmp 28) (.tmp 48) 93 93 (v:=P 1) (xv:=P 21) (v':=v') (w':=w')
    iterate 4
     .rfl
    .rw [a'];exact hr
    .exact Y _ _ bh
   .intro P z wq b;intros;rename_i Y;have f2:=(ag b.k1).2.2.1;have f3:=(ag b.k3).2.2.1;have e0:=b.ext.cell Y0.out;have e1:=b.ext.cell Y1.out;have e2:=b.ext.cell Y2.out;go_simp;exact Y _ _ b rfl
  intro P wd t A;simp only[cX,List.getD_cons_zero,List.getD_cons_succ,Bool.false_eq_true,if_false,if_true]at t;simp only[bU,Nat.zero_add,Nat.reduceAdd,and_true]at A;simp(maxSteps:=1000000)only[List.drop_succ_cons,List.drop_zero,Nat.zero_add,Nat.reduceAdd,List.take_succ_cons,List.take_zero,aa,Act.put,List.setIfInBounds_toArray,List.set_cons_zero,List.set_cons_succ,A];clear A;generalize P 21=bx at *;generalize P 22=C at *;have D:PlS w N y I (obC o.kind (.slice d o.data.length j) (.slice (some ⟨bb,oo,none⟩) o.items.length Q) o.tree (.slice l o.parents.length p) o.BL o.I o.msg) (obC 0 (.slice none 0 0) (.slice none 0 0) [] (.slice none 0 0) 0 0 []) (obC o.kind (.slice d o.data.length j) v o.tree (.slice l o.parents.length p) o.BL o.I o.msg) C (k+1) ((o.items.take (k+1)).flatMap itC) wd:=by
   refine⟨t.k1,t.k2,t.k3,?_,t.sz,t.ext,r.out.lt⟩;have h9:=t.Co C rfl;rw[uK a9.out,List.flatMap_append,List.flatMap_singleton];exact h9
  have y6:=(ag D.r3).2.2.1;have bS:wd.frozen? ⟨I,2,none⟩=false:=by simp[World.frozen?,D.r3]
  have bk:Hid _:=D.put 2 C (c6:=(obC o.kind (.slice d o.data.length j) C o.tree (.slice l o.parents.length p) o.BL o.I o.msg)) rfl;obtain⟨xa,xn,xc,rfl⟩:∃J K L,C=.slice J K L:=by
   rcases D.own.2 with⟨h,-⟩ | ⟨g,c,bl,h,-⟩
   iterate 2
    .exact ⟨_,_,_,h⟩
  clear t D;go_wp2_with fail;go_roundw
  case rel=>exact⟨k+1,_,by omega,by go_num,bk.out⟩
  case measure=>simp[intOf];omega
 .obtain rfl:k=o.items.length:=by omega
  have E:=r.out.own;rw[List.take_of_length_le (Nat.le_refl _)]at E;obtain⟨J,K,L,rfl⟩:∃J K L,v=.slice J K L:=by
   rcases E.2 with⟨h,-⟩ | ⟨g,c,bl,h,-⟩
   iterate 2
    .exact ⟨_,_,_,h⟩
  obtain⟨b0,b1,b2,b3,b4,b5,b6,b7⟩:=ag r.out.rb;obtain⟨q0,q1,q2,q3,q4,q5,q6,q7⟩:=ag r.out.r3;have a5:=r.out.r2;have bo:Hid (Row wr (.slice J K L) o.items.length (o.items.flatMap itC)):=Row.BM E (by omega);have bq:Hid (∀a n cc,Value.slice J K L=.slice (some a) n cc->y≠a.block):=fun a n cc he=>by
   have h8:=(E.lt a.block (by rw[he];rfl)).1;have:=r.out.lt;omega
  have br:Hid (Ext w wr):=r.out.ext;have bs:Hid (w.heap.size<=y):=by have:=r.out.lt;show w.heap.size<=y;omega
  clear E r
  go_wp2_with (refine wpList_store_row rfl 95 (.tmp 2) (.tmp 51) rfl y (obC o.kind (.slice d o.data.length j) (.slice J K L) o.tree (.slice l o.parents.length p) o.BL o.I o.msg) rfl rfl 95 _ a5 bH rfl (by simp[Value.oneCell']) ?_)
  refine bodyPost_ret (results_cell_row rfl _ _ y 95 (obC o.kind (.slice d o.data.length j) (.slice J K L) o.tree (.slice l o.parents.length p) o.BL o.I o.msg) (0,0) _ rfl (setRow_heap _ _ _ _ _ _ a5) Tryz.underlying95 rfl bH) rfl ?_;have Z:Ext w (wr.setRow y (obC o.kind (.slice d o.data.length j) (.slice J K L) o.tree (.slice l o.parents.length p) o.BL o.I o.msg)):=Ext.but br.out (ae _ _ _) bs.out;exact⟨⟨_,rfl,_,_,_,rfl,IsBytes.ext D1.out Z,Row.but bo.out (ae _ _ _) (fun a n cc he h=>bq.out a n cc he h.symm),IsStrs.ext D3.out Z⟩,Z⟩
end
section
open Go Go.RowKit
variable [Inhabited bc]
theorem so {z w:World} {O:Nat->Prop} {x:Value} {A:Nat} {m:Fs} {n:Int} {k:Nat} (v:Value) (o:Ob) (h:Sr z O w x A m n) (hg:Good k m) (hk:k<=59900) (hv:IsOb w v o) (hs:dm o) (P:0<=n) (Q:n<=100000) :
  Calls Tryz.prog 33 #[.pointer (some ⟨A,0,none⟩),v] w fun e w'=>e=.returned (.tuple #[S8 (dd m o).2.1,.int .i64 (dd m o).2.2])/\SrPost z O x A (dd m o).1 (fM n o) w w':=by
 have H:Hid (Sr z O w x A m n):=h;have HG:Hid (Good k m):=hg;obtain⟨L,M,N,rfl,hd,hi,hp⟩:=hv;obtain⟨y,d⟩:∃y,y=w.alloc (.cells #[.int .i64 o.kind,L,M,S8 o.tree,N,.int .i64 o.BL,.int .i64 o.I,S8 o.msg] 95):=⟨_,rfl⟩;have c:Ext w y:=by rw[d];exact(Ext.refl _).alloc _
 have i:y.heap[w.heap.size]? = some (.cells #[.int .i64 o.kind,L,M,S8 o.tree,N,.int .i64 o.BL,.int .i64 o.I,S8 o.msg] 95 (0,0)):=by rw[d];exact ab _ _
 have g:Hid _:=jn (obV o L M N) o y ⟨L,M,N,rfl,hd.ext c,hi.ext c,hp.ext c⟩ hs;obtain⟨gb,R⟩:∃gb,w.heap.size=gb:=⟨_,rfl⟩;rw[R]at i;obtain⟨c0,c1,c2,c3,c4,c5,c6,c7⟩:=ag i;have S:Hid (Ext w y):=c;have T:Hid _:=d;obtain⟨⟨b,j⟩,B⟩:∃q,aT o=q:=⟨_,rfl⟩;have C:dd m o=if j≠0 then(m,[],j)else bM m b:=by unfold dd;rw[B]
 have D:Hid _:=C;obtain⟨U,l⟩:∃q,fM n o=q:=⟨_,rfl⟩;have E:U=if j=0 then oM n b else n:=by rw[<-l];unfold fM;rw[B];rfl
 have F:Hid _:=E;obtain⟨⟨m2,id,e2⟩,p⟩:∃q,dd m o=q:=⟨_,rfl⟩;have G:Hid _:=p;have ad:b.length<=100000:=by
  have hb:(aT o).1.length<=100000:=ig o;rw[B]at hb;exact hb
 rw[B]at g;rw[p,l];unfold obV at g ⊢;clear h hg hd hi hp d c i C p B hs l E;go_enter Tryz.func33,Tryz.ntmps33;go_upto_region 1 with fail;rw[<-T.out];go_wp2_with fail;go_at_call 86;refine Calls.mono g.out ?_;rintro e9 V ⟨⟨u,rfl,W⟩,I⟩;have r:Hid (Ext w V):=S.out.trans I;have H1:Hid (Sr z O V x A m n):=H.out.more r.out;have HU:Hid (Arg z V u b):=.inr ⟨by unfold IsBytes;exact Row.BM W (by omega),TypB.BM W⟩;clear I W g
 try dsimp only
 by_cases a:j=0
 .have J:(j != 0)=false:=by simpa using a
  have X:Hid (bM m b=(m2,id,e2)):=by
   unfold Hid;rw[<-G.out,D.out,if_neg (by simpa using a)]
  have t:Hid (U=oM n b):=by unfold Hid;rw[F.out,if_pos a]
  have Y:=ry u b H1.out HG.out hk HU.out (by omega) P Q;rw[X.out,<-t.out]at Y;have HC:Hid _:=Y;clear Y a;go_wp2_with fail;go_at_call 30;refine Calls.mono HC.out ?_;rintro e9 w2 ⟨rfl,K⟩;have Z:Hid _:=K;clear K HC;go_wp2;go_ret2;exact⟨rfl,SrPost.pre H.out r.out Z.out⟩
 .have J:(j != 0)=true:=by simpa using a
  have t:Hid (U=n):=by unfold Hid;rw[F.out,if_neg a]
  obtain⟨rfl,rfl,rfl⟩:m=m2/\[]=id/\j=e2:=by
   have h9:=D.out;rw[if_pos a,G.out]at h9;have h8:=Prod.mk.inj h9;have h7:=Prod.mk.inj h8.2;exact⟨h8.1.symm,h7.1.symm,h7.2.symm⟩
  clear a;go_wp2;go_ret2;exact⟨rfl,by rw[t.out];exact SrPost.refl H.out r.out⟩
end
section
open Go Go.RowKit
theorem wY (u v:Value) (o:Ob) (w:World) (hu:IsOb w u o) (hv:IsOb w v o) :
  Calls Tryz.prog 39 #[u,v] w fun e w'=>e=.returned (.bool true)/\Ext w w':=by
 obtain⟨vd,vi,vp,rfl,S,d2,T⟩:=hu;obtain⟨ud,ui,up,rfl,U,e2,V⟩:=hv;have D1:Hid (IsBytes w vd o.data):=S;have D3:Hid (IsStrs w vp o.parents):=T;have E1:Hid (IsBytes w ud o.data):=U;have E3:Hid (IsStrs w up o.parents):=V;obtain⟨da,dc,rfl,-⟩:=id S.get;obtain⟨ia,ic,rfl,s1,s2,s3,hi⟩:=id d2.get;obtain⟨pa,pc,rfl,-⟩:=id T.get;obtain⟨B,C,rfl,-⟩:=id U.get;obtain⟨D,E,rfl,t1,t2,t3,hj⟩:=id e2.get;obtain⟨F,G,rfl,-⟩:=id V.get;have HI:Hid _:=hi;have HJ:Hid _:=hj;clear S d2 T U e2 V hi hj;obtain⟨q,n⟩:∃q,q=(w.alloc (.cells (obC o.kind (.slice da o.data.length dc) (.slice ia o.items.length ic) o.tree (.slice pa o.parents.length pc) o.BL o.I o.msg) 95)).alloc (.cells (obC o.kind (.slice B o.data.length C) (.slice D o.items.length E) o.tree (.slice F o.parents.length G) o.BL o.I o.msg) 95):=⟨_,rfl⟩;obtain⟨Q,H,z,p⟩:=wW w (.cells (obC o.kind (.slice da o.data.length dc) (.slice ia o.items.length ic) o.tree (.slice pa o.parents.length pc) o.BL o.I o.msg) 95) (.cells (obC o.kind (.slice B o.data.length C) (.slice D o.items.length E) o.tree (.slice F o.parents.length G) o.BL o.I o.msg) 95);rw[<-n]at Q H z p;obtain⟨gb,I⟩:∃g,w.heap.size=g:=⟨_,rfl⟩;rw[I]at Q H p;obtain⟨g2,J⟩:∃g,gb+1=g:=⟨_,rfl⟩;rw[J]at H p;have K:Hid _:=Q;have L:Hid _:=H;have j:Hid (Ext w q):=z;unfold obC at n;clear Q H z p;obtain⟨r,t,a,M,b,l,h,W⟩:=o;dsimp only at *;have tt:=tl M;have tm:=tl W;go_enter Tryz.func39,Tryz.ntmps39;go_upto_region 1 with fail;rw[<-n];clear n I J;obtain⟨c0,c1,c2,c3,c4,c5,c6,c7⟩:=ag K.out;obtain⟨b0,b1,b2,b3,b4,b5,b6,b7⟩:=ag L.out;have n0:(r != r)=false:=by simp
 have n5:(l != l)=false:=by simp
 have n6:(h != h)=false:=by simp
 go_wp2_with fail;go_at_call 31;refine(cD _ _ _ _ q (IsBytes.ext D1.out j.out) (IsBytes.ext E1.out j.out)).mono ?_;rw[show(t==t)=true from by simp];rintro ex w3 ⟨rfl,N⟩;rw[N];clear N;go_wp2_with fail;go_at_call 25;refine(ib _ _ _ _ q (IsStrs.ext D3.out j.out) (IsStrs.ext E3.out j.out)).mono ?_;rw[show(b==b)=true from by simp];rintro ex w3 ⟨rfl,c⟩;have X:Hid (Ext q w3):=c;replace c5:=c.cell c5;replace c6:=c.cell c6;replace c7:=c.cell c7;replace b5:=c.cell b5;replace b6:=c.cell b6;replace b7:=c.cell b7;clear c c0 c1 c2 c3 c4 b0 b1 b2 b3 b4;go_wp2_with fail;go_loopw [5] (fun i wr=>∃(k:Nat),k<=a.length/\i=.int .i64 k/\Hid (Ext q wr)) (fun i _=>a.length - (intOf i).toNat)
 case atStart=>exact⟨0,Nat.zero_le _,rfl,X.out⟩
 case round =>
 obtain⟨k,hk,rfl,O⟩:=hrel;have c2:=O.out.cell (ag K.out).2.2.1;have b2:=O.out.cell (ag L.out).2.2.1
 by_cases Y:k<a.length
 .obtain ⟨x,Z⟩:∃x,a[k]? = some x:=⟨_,List.getElem?_eq_getElem Y⟩;obtain⟨bb,oo,rfl,h0,h1,h2⟩:=HI.out k x Z;obtain⟨a0,a3,rfl,k0,k1,k2⟩:=HJ.out k x Z;have d:=j.out.trans O.out;have y0:=d.cell h0;have y1:=d.cell h1;have y2:=d.cell h2;have z0:=d.cell k0;have z1:=d.cell k1;have z2:=d.cell k2;obtain⟨y,name,id⟩:=x;dsimp only at y0 y1 y2 z0 z1 z2;have m0:(y != y)=false:=by simp
  have tn:=tl name;have ti:=tl id;clear Z h0 h1 h2 k0 k1 k2 d;go_upto_region 6 with fail;go_quiet (fail);obtain⟨R,A⟩:∃R,R=wr.drewN nq:=⟨_,rfl⟩;have P:Ext wr R:=by rw[A];exact Ext.drawn _ _
  rw[<-A];have ad:Hid (Ext q R):=O.out.trans P;clear A P;go_wp2_with fail;go_roundw
  case rel=>exact⟨k+1,by omega,by go_num,ad.out⟩
  case measure=>simp[intOf];omega
 .obtain rfl:k=a.length:=by omega
  have au:Hid (Ext w wr):=j.out.trans O.out;go_wp2;go_ret;exact⟨rfl,au.out⟩
end
section
open Go Go.RowKit
variable [Inhabited bc]
def gu (m:Fs) (id:B8):Ob×Int:=if(bB m id).2.2≠0 then(ob0,(bB m id).2.2)else dz (bB m id).2.1
theorem wZ {o:Ob} (h:bN o=true):o.items.length<=256:=by
 unfold bN at h;split at h
 .simp only[Bool.and_eq_true,beq_iff_eq]at h;omega
 .split at h
  .unfold cC at h;simp only[Bool.and_eq_true,decide_eq_true_eq]at h;exact h.2.1.2.2
  .split at h
   .simp only[Bool.and_eq_true,beq_iff_eq]at h;omega
   .cases h
theorem su (m:Fs) (id:B8):(gu m id).1.items.length<=1000000:=by
 unfold gu;split
 .exact Nat.zero_le _
 .unfold dz;split
  .exact Nat.zero_le _
  .split
   .rename_i h;exact Nat.le_trans (wZ h.1) (by decide)
   .exact Nat.zero_le _
variable {w0 w:World} {m:Fs} {n:Int} {k:Nat}
theorem sy [KW:Inhabited cT] (p:∀k,cL k=none) {S O:Nat->Prop} {f:Value} {r D:Nat} (id:B8) (h:St w0 S O w f r D m n) (V:Env w0) (hS:EnvS w0) (W:Good k m) (hk:k<=79800) (X:0<=n) (Y:n<=100000) (hid:id.length<=10000000) (t:(bB m id).2.1.length<=10000000) :
  Calls Tryz.prog 37 #[.pointer (some ⟨r,0,none⟩),S8 id] w fun e E=>(∃u,e=.returned (.tuple #[u,.int .i64 (gu m id).2])/\IsObT E u (gu m id).1)/\StPost w0 S O f r D (bB m id).1 (ch n id) w E:=by
 have H:Hid (St w0 S O w f r D m n):=h;obtain⟨i,c⟩:∃i,i=w.alloc (.cells (obC 0 (.slice none 0 0) (.slice none 0 0) [] (.slice none 0 0) 0 0 []) 41):=⟨_,rfl⟩;have x:Ext w i:=by rw[c];exact(Ext.refl _).alloc _
 have G:i.heap[w.heap.size]? = some (.cells (obC 0 (.slice none 0 0) (.slice none 0 0) [] (.slice none 0 0) 0 0 []) 41 (0,0)):=by rw[c];exact ab _ _
 have I:i.heap.size=w.heap.size+1:=by rw[c];exact dK _ _
 have Z:Hid _:=St.lift p V (h.more x) (F:=35) (args:=#[.pointer (some ⟨r,0,none⟩),S8 id]) (R:=fun e E=>∃v,e=.returned (.tuple #[v,.int .i64 (bB m id).2.2])/\IsBytes E v (bB m id).2.1) (m':=(bB m id).1) (n':=ch n id) (fun K O1 hs=>(ji (KW:=K) id hs V hS W hk X Y hid).mono (by
  rintro e E ⟨v,O',n',he,Q,-,hn,ad⟩;subst hn;exact⟨O',⟨v,he,Q.1⟩,ad⟩))
 obtain⟨⟨m1,b,C⟩,T⟩:∃q,bB m id=q:=⟨_,rfl⟩;obtain⟨⟨a,eo⟩,J⟩:∃q,gu m id=q:=⟨_,rfl⟩;have HO:Hid ((a,eo)=if C≠0 then(ob0,C)else dz b):=by
  unfold Hid;rw[<-J];unfold gu;rw[T]
 rw[T]at Z t;rw[J,show(bB m id).1=m1 by rw[T]];have L:Hid (Ext w i):=x;have M:Hid _:=G;have au:Hid (b.length<=10000000):=t;obtain⟨o,j⟩:∃g,w.heap.size=g:=⟨_,rfl⟩;have y:Hid (w.heap.size=o):=j;have N:Hid (i.heap.size=o+1):=by rw[<-j];exact I
 rw[j]at M;unfold obC at c;clear h V hS W x G I T J t;go_enter Tryz.func37,Tryz.ntmps37;go_upto_region 1 with fail;rw[<-c];clear c j;go_wp2_with fail;go_at_call 35;refine Calls.mono Z.out ?_;rintro ex U ⟨⟨v,rfl,Q⟩,hp⟩;have HP:Hid (StPost w0 S O f r D m1 (ch n id) i U):=hp;have HV:Hid (IsBytes U v b):=Q;have z:Hid (U.heap[o]? = some (.cells (obC 0 (.slice none 0 0) (.slice none 0 0) [] (.slice none 0 0) 0 0 []) 41 (0,0))):=by
  have hl:=H.out.lt;have W:=y.out;exact hp.row M.out (fun J=>by have:=(H.out.one.lo o J).2;omega) (by omega) (by omega)
 clear hp Q Z
 try dsimp only
 by_cases d:C=0
 .have P:(C != 0)=false:=by simpa using d
  have HD:Hid (dz b=(a,eo)):=by
   unfold Hid;rw[HO.out,if_neg (by simpa using d)]
  clear d;go_wp2_with fail;go_at_call 88;refine(yW v b U HV.out au.out).mono ?_;rw[HD.out];rintro ex w2 ⟨⟨u,rfl,hu⟩,A⟩;have HU:Hid (IsObT w2 u a):=hu;have a0:Hid (StPost w0 S O f r D m1 (ch n id) i w2):=HP.out.ext A;have a1:Hid _:=Ext.row A z.out;obtain⟨vd,vi,vp,rfl,d1,d2,d3,-⟩:=hu;obtain⟨da,dc,rfl,-⟩:=_root_.id d1;obtain⟨ia,ic,rfl,-⟩:=_root_.id d2;obtain⟨pa,pc,rfl,-⟩:=_root_.id d3;clear A HP z HV d1 d2 d3;have l:=a1.out;unfold obV
  go_wp2_with (refine wpList_store_row rfl 41 (.tmp 4) (.tmp 20) rfl o (obC a.kind (.slice da a.data.length dc) (.slice ia a.items.length ic) a.tree (.slice pa a.parents.length pc) a.BL a.I a.msg) rfl rfl 41 _ l bW rfl (by simp[Value.oneCell']) ?_)
  refine bodyPost_ret (ay rfl _ _ o 41 (obC a.kind (.slice da a.data.length dc) (.slice ia a.items.length ic) a.tree (.slice pa a.parents.length pc) a.BL a.I a.msg) (0,0) _ rfl (setRow_heap _ _ _ _ _ _ l) Tryz.underlying41 rfl bW) rfl ?_;exact⟨⟨_,rfl,IsObT.put HU.out (ae _ _ _) l⟩,StPost.fresh p H.out L.out a0.out (ae _ _ _) (Nat.le_of_eq y.out) (by have:=N.out;omega) (ao l (by kernel_rfl))⟩
 .have P:(C != 0)=true:=by simpa using d
  obtain⟨rfl,rfl⟩:a=ob0/\eo=C:=by
   have h9:=HO.out;rw[if_pos d]at h9;exact⟨(Prod.mk.inj h9).1,(Prod.mk.inj h9).2⟩
  clear d;have B:=z.out
  go_wp2_with (refine wpList_store_row rfl 41 (.tmp 4) (.tmp 16) rfl o (obC 0 (.slice none 0 0) (.slice none 0 0) [] (.slice none 0 0) 0 0 []) rfl rfl 41 _ B bW rfl (by simp[Value.oneCell']) ?_)
  refine bodyPost_ret (ay rfl _ _ o 41 (obC 0 (.slice none 0 0) (.slice none 0 0) [] (.slice none 0 0) 0 0 []) (0,0) _ rfl (setRow_heap _ _ _ _ _ _ B) Tryz.underlying41 rfl bW) rfl ?_;exact⟨⟨_,rfl,iQ _⟩,StPost.fresh p H.out L.out HP.out (ae _ _ _) (Nat.le_of_eq y.out) (by have:=N.out;omega) (ao B (by kernel_rfl))⟩
theorem sF {O:Nat->Prop} {x:Value} {B:Nat} (id:B8) (h:Sr w0 O w x B m n) (P:Good k m) (hk:k<=60000) (hid:id.length<=10000000) (Q:0<=n) (R:n<=100000) (p:(bB m id).2.1.length<=10000000) :
  Calls Tryz.prog 38 #[.pointer (some ⟨B,0,none⟩),S8 id] w fun e w'=>(∃u,e=.returned (.tuple #[u,.int .i64 (gu m id).2])/\IsOb w' u (gu m id).1)/\SrPost w0 O x B (bB m id).1 (ch n id) w w':=by
 have H:Hid (Sr w0 O w x B m n):=h;obtain⟨i,c⟩:∃i,i=w.alloc (.cells (obC 0 (.slice none 0 0) (.slice none 0 0) [] (.slice none 0 0) 0 0 []) 95):=⟨_,rfl⟩;have r:Ext w i:=by rw[c];exact(Ext.refl _).alloc _
 have E:i.heap[w.heap.size]? = some (.cells (obC 0 (.slice none 0 0) (.slice none 0 0) [] (.slice none 0 0) 0 0 []) 95 (0,0)):=by rw[c];exact ab _ _
 have F:i.heap.size=w.heap.size+1:=by rw[c];exact dK _ _
 have S:Hid _:=m5 id (h.more r) P hk hid Q R;obtain⟨⟨T,b,C⟩,N⟩:∃q,bB m id=q:=⟨_,rfl⟩;obtain⟨⟨a,U⟩,G⟩:∃q,gu m id=q:=⟨_,rfl⟩;have HO:Hid ((a,U)=if C≠0 then(ob0,C)else dz b):=by
  unfold Hid;rw[<-G];unfold gu;rw[N]
 rw[N]at S p;rw[G,show(bB m id).1=T by rw[N]];have I:Hid (Ext w i):=r;have J:Hid _:=E;have V:Hid (b.length<=10000000):=p;obtain⟨j,l⟩:∃g,w.heap.size=g:=⟨_,rfl⟩;have t:Hid (w.heap.size=j):=l;have K:Hid (i.heap.size=j+1):=by rw[<-l];exact F
 rw[l]at J;unfold obC at c;clear h P r E F N G p;go_enter Tryz.func38,Tryz.ntmps38;go_upto_region 1 with fail;rw[<-c];clear c l;go_wp2_with fail;go_at_call 36;refine Calls.mono S.out ?_;rintro ex D ⟨⟨v,rfl,hv,-⟩,W⟩;have X:Hid (SrPost w0 O x B T (ch n id) i D):=W;have HV:Hid (IsBytes D v b):=hv;have o:Hid (D.heap[j]? = some (.cells (obC 0 (.slice none 0 0) (.slice none 0 0) [] (.slice none 0 0) 0 0 []) 95 (0,0))):=by
  have hl:=H.out.lt;have P:=t.out;exact W.row J.out (fun G=>by have:=(H.out.lo j G).2;omega) (by omega)
 clear W hv S
 try dsimp only
 by_cases d:C=0
 .have L:(C != 0)=false:=by simpa using d
  have HD:Hid (dz b=(a,U)):=by
   unfold Hid;rw[HO.out,if_neg (by simpa using d)]
  clear d;go_wp2_with fail;go_at_call 89;refine(y' v b D HV.out V.out).mono ?_;rw[HD.out];rintro ex w2 ⟨⟨u,rfl,hu⟩,y⟩;have HU:Hid (IsObF D.heap.size w2 u a):=hu;have Y:Hid (SrPost w0 O x B T (ch n id) i w2):=X.out.ext y;have Z:Hid _:=Ext.row y o.out;have M:j<D.heap.size:=(Array.getElem?_eq_some_iff.1 o.out).1;obtain⟨vd,vi,vp,rfl,d1,d2,d3,-⟩:=hu;obtain⟨da,dc,rfl,-⟩:=_root_.id d1;obtain⟨ia,ic,rfl,-⟩:=_root_.id d2;obtain⟨pa,pc,rfl,-⟩:=_root_.id d3;clear y X o HV d1 d2 d3;have z:=Z.out;unfold obV
  go_wp2_with (refine wpList_store_row rfl 95 (.tmp 4) (.tmp 20) rfl j (obC a.kind (.slice da a.data.length dc) (.slice ia a.items.length ic) a.tree (.slice pa a.parents.length pc) a.BL a.I a.msg) rfl rfl 95 _ z bH rfl (by simp[Value.oneCell']) ?_)
  refine bodyPost_ret (ay rfl _ _ j 95 (obC a.kind (.slice da a.data.length dc) (.slice ia a.items.length ic) a.tree (.slice pa a.parents.length pc) a.BL a.I a.msg) (0,0) _ rfl (setRow_heap _ _ _ _ _ _ z) Tryz.underlying95 rfl bH) rfl ?_;exact⟨⟨_,rfl,(IsObF.put HU.out (ae _ _ _) M).ob⟩,SrPost.fresh H.out I.out Y.out (ae _ _ _) (Nat.le_of_eq t.out) (by have:=K.out;omega) (ao z (by kernel_rfl))⟩
 .have L:(C != 0)=true:=by simpa using d
  obtain⟨rfl,rfl⟩:a=ob0/\U=C:=by
   have h9:=HO.out;rw[if_pos d]at h9;exact⟨(Prod.mk.inj h9).1,(Prod.mk.inj h9).2⟩
  clear d;have A:=o.out
  go_wp2_with (refine wpList_store_row rfl 95 (.tmp 4) (.tmp 16) rfl j (obC 0 (.slice none 0 0) (.slice none 0 0) [] (.slice none 0 0) 0 0 []) rfl rfl 95 _ A bH rfl (by simp[Value.oneCell']) ?_)
  refine bodyPost_ret (ay rfl _ _ j 95 (obC 0 (.slice none 0 0) (.slice none 0 0) [] (.slice none 0 0) 0 0 []) (0,0) _ rfl (setRow_heap _ _ _ _ _ _ A) Tryz.underlying95 rfl bH) rfl ?_;exact⟨⟨_,rfl,_,_,_,rfl,Row.nil _,Row.nil _,Row.nil _⟩,SrPost.fresh H.out I.out X.out (ae _ _ _) (Nat.le_of_eq t.out) (by have:=K.out;omega) (ao A (by kernel_rfl))⟩
end
section
open Go Go.RowKit
def dp (l:List B8) (n:Nat):List B8:=(l.map fun p=>p.drop (n+1)).filter bR
variable {ss:List B8}
theorem sG {n k:Nat} {s:B8} (h:ss[k]? = some s):dp (ss.take (k+1)) n=dp (ss.take k) n++(if bR (s.drop (n+1))=true then[s.drop (n+1)]else[]):=by
 unfold dp;rw[List.take_add_one,h];simp only[Option.toList_some,List.map_append,List.filter_append,List.map_cons,List.map_nil,List.filter_cons,List.filter_nil]
theorem nX (ss:List B8) (n:Nat):(dp ss n).length<=ss.length:=by
 unfold dp;exact Nat.le_trans (List.length_filter_le _ _) (by simp)
theorem uL {w:World} {v:Value} (dir:B8) (y:IsStrs w v ss) (F:∀s∈ss,s.length<=100000/\dir.length+1<=s.length) (Y:dir.length<=1000) (Z:ss.length<=1000000) :
  Calls Tryz.prog 91 #[v,S8 dir] w fun e G=>(∃z,e=.returned z/\G.ownsRow w.heap.size 9 1 z (dp ss dir.length).length ((dp ss dir.length).map S8))/\Ext w G:=by
 obtain⟨a,L,rfl,l1,l2,l3,-⟩:=y.get;have M:Hid _:=y;have O:Hid _:=F;obtain⟨N,H⟩:∃N,dir.length=N:=⟨_,rfl⟩;rw[H];clear y F;go_enter Tryz.func91,Tryz.ntmps91;go_wp2;go_loopw [5,6] (fun v i wr=>∃(k n:Nat),k<=ss.length/\i=.int .i64 k/\Hid ((dp (ss.take k) N).length=n)/\wr.ownsRow w.heap.size 9 1 v n ((dp (ss.take k) N).map S8)/\Ext w wr) (fun _ i _=>ss.length - (intOf i).toNat)
 case atStart=>exact⟨0,0,Nat.zero_le _,rfl,rfl,World.ownsRow_nil _ _ _ _,Ext.refl _⟩
 case round =>
  obtain⟨k,n,hk,rfl,u,b,A⟩:=hrel;have P:n<=ss.length:=by rw[<-u.out];exact Nat.le_trans (nX _ _) (List.length_take_le' _ _)
  by_cases l:k<ss.length
  .obtain ⟨s,h⟩:∃s,ss[k]? = some s:=⟨_,List.getElem?_eq_getElem l⟩;obtain⟨Q,q⟩:=O.out s (List.mem_of_getElem? h);rw[H]at q;obtain⟨_,_,R,-,-,-,I⟩:=(IsStrs.ext M.out A).get;cases R;obtain⟨bb,oo,rfl,J⟩:=I k l;have S:=J k l;rw[show ss.getD k []=s by rw[List.getD_eq_getElem?_getD,h];rfl]at S;obtain⟨t,x⟩:∃t,s.drop (N+1)=t:=⟨_,rfl⟩;have d:=sG (n:=N) h;rw[x]at d;have T:t.length<=100000:=by rw[<-x,List.length_drop];omega
   have j:Hid _:=d;obtain⟨B,r⟩:∃B,bR t=B:=⟨_,rfl⟩;have g:Hid _:=r;have C:(⟨s.toArray⟩:ByteArray).extract (N+1) s.length=⟨t.toArray⟩:=by
    have U:=iZ ⟨s.toArray⟩ (N+1) s.length q (Nat.le_refl _);rw[U,<-x];congr 2;rw[List.take_of_length_le];rw[List.length_drop];exact Nat.le_refl _
   clear d x r h I J;go_wp2_with fail;go_at_call 155;refine(jt t _ (by omega)).mono ?_;rw[g.out];rintro e V ⟨rfl,rfl⟩;have c:=b;have o:=A;have W:=o.size;clear b C
   cases B with
   | true =>
    go_wp2_with (at_builtin;go_must (refine eO rfl _ _ rfl w.heap.size _ n _ rfl (c.alloc _) V.heap.size 1 1 [t] rfl rfl (ab _ _) (by omega) (by simp;omega) ?_;intro z w3 p D))
    go_roundw
    case rel =>
     refine⟨k+1,n+1,by omega,by go_num,?_,?_,ai (o.alloc _) (c.alloc _) D⟩
     .unfold Hid;rw[j.out,g.out,if_pos rfl,List.length_append,u.out];rfl
     .rw [j.out,g.out,if_pos rfl];exact p
    case measure=>simp[intOf];omega
   | false =>
    go_wp2;go_roundw
    case rel=>exact⟨k+1,n,by omega,by go_num,by unfold Hid;rw[j.out,g.out,if_neg (by simp),List.append_nil];exact u.out,by rw[j.out,g.out,if_neg (by simp),List.append_nil];exact c,o⟩
    case measure=>simp[intOf];omega
  .have E:k=ss.length:=by omega
   subst E;have K:=u.out;rw[List.take_length]at b K;subst K;have X:Hid _:=b;clear b;go_wp2;go_ret;exact⟨⟨_,rfl,X.out⟩,A⟩
end
end Go.Proofs.YtfabjgfmiaammaaGreatDoor
