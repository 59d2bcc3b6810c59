/- Contracts of the program's functions and plain laws behind the card. Conditions: as each theorem states. -/
import Derived.Test.YtfabjgfmiaammaaGreatDoorYbg
import Derived.Test.YtfabjgfmiaammaaGreatDoorYbh
import Derived.Deep.DeepCutAuto
set_option linter.unusedVariables false
set_option linter.unusedSimpArgs false
set_option linter.unusedSectionVars false
set_option maxRecDepth 100000
set_option maxHeartbeats 64000000
namespace Go.Proofs.YtfabjgfmiaammaaGreatDoor
section
open Go Go.RowKit
def xB:B8:=aR [120]
def sm0:Fs:=fU 1000
def sm1:Fs:=(bQ sm0 [120]).1
def sm2:Fs:=(bQ sm1 [120]).1
theorem AD:(bQ sm0 [120]).2=(xB,0)/\(bQ sm1 [120]).2=(xB,0)/\(aK sm2).2=([xB],0):=by decide +kernel
variable {n:Nat}
theorem sm {x:Fs×Int} {id:B8} (h:Good n x.1):Good (n+1) (df x id).1:=by
 unfold df;split
 .exact h.mono (by omega)
 .split
  iterate 2
   .exact vO h _ _ _
theorem im {m:Fs} (h:Good n m) (b:B8):Good (n+3) (bQ m b).1:=by
 unfold bQ;split
 .exact h.mono (by omega)
 .split
  .exact (eM h _).mono (by omega)
  .split
   .exact (eM h _).mono (by omega)
   .split
    .exact (eM h _).mono (by omega)
    .exact sm (gA (eM h _) _ _ _)
theorem A9:Good 0 sm0/\Good 3 sm1/\Good 6 sm2:=by
 have a:Good 0 sm0:=qR (by omega) (by omega);exact⟨a,im a _,im (im a _) _⟩
section
variable [Inhabited bf] [KW:Inhabited cZ]
theorem si (w:World) (hE:Env w) (hS:EnvS w) (D:∀k,cJ k=none) :
  Calls Tryz.prog 5 #[] w fun e w'=>e=.returned (.bool true)/\Ext w w':=by
 obtain⟨g0,g1,g2⟩:=A9;obtain⟨Y,Z,f2⟩:=AD;have I:Hid (∀k,cJ k=none):=D;clear D;have H:Hid (Env w):=hE;have X:Hid (EnvS w):=hS;have F0:Hid _:=Y;have F1:Hid _:=Z;have F2:Hid _:=f2;have xl:xB.length=64:=o8 _;clear hE hS Y Z f2;have kc:=fun(w:World) (C:Array Value) (n c:Nat)=>Lib.run_convert_bytes_const (P:=Tryz.prog) w 37 5 C n c Tryz.underlying37 Tryz.underlying5
 go_enter Tryz.func5,Tryz.ntmps5;go_wp2_with fail;go_at_call 7;refine(tN 1000 _ (by omega) (by omega)).mono ?_;rintro e w1 ⟨⟨p,rfl,O⟩,F⟩;have V:Hid (One w (fun _=>False) (Nu w w1) w1 p sm0):=One.new O F;obtain⟨g,rfl⟩:∃g,p=.pointer (some ⟨g,0,none⟩):=by
  obtain⟨g,gm,gd,vp,vl,vu,L,c0,T,-⟩:=O;exact⟨g,T⟩
 clear O F;go_wp2_with fail;go_at_call 9;refine(yF V.out I.out).mono ?_;rintro e r ⟨q,o,rfl,h2,-⟩;have W:Hid (St w _ _ r (.pointer (some ⟨g,0,none⟩)) q o sm0 0):=h2;clear h2;have j:Hid (St w _ _ r (.pointer (some ⟨g,0,none⟩)) q o sm0 0):=W.out;clear W V;go_upto_region 7 with fail;go_wp2_with fail;obtain⟨u,d⟩:∃u,u=r.alloc (.cells #[.int .u8 120] 5 (1,2)):=⟨_,rfl⟩;have h:Ext r u:=by rw[d];exact(Ext.refl _).alloc _
 have b:u.heap[r.heap.size]? = some (.cells #[.int .u8 120] 5 (1,2)):=by rw[d];exact ae _ _
 have z:Hid (Arg w u (.slice (some ⟨r.heap.size,0,none⟩) 1 1) [120]):=.inr ⟨rt (x:=120) (fr:=(1,2)) b,fun a n c N=>(by cases N;exact⟨_,_,_,b,by kernel_rfl⟩)⟩;have A:Hid (St w _ _ u (.pointer (some ⟨g,0,none⟩)) q o sm0 _):=St.more j.out h;rw[<-d];clear d h b j;go_at_call 24;refine(lR _ [120] A.out H.out X.out g0 (by omega) (by omega) (by omega) z.out (by decide)).mono ?_;rw[show bQ sm0 [120]=(sm1,xB,0)from Prod.ext rfl F0.out];rintro e G ⟨O3,n3,rfl,Q,B⟩;obtain⟨R,S⟩:=Q;have j:Hid (St w _ _ G (.pointer (some ⟨g,0,none⟩)) q o sm1 n3):=B;clear B A z
 try dsimp only
 go_upto_region 8 with fail;go_wp2_with fail;obtain⟨y,d⟩:∃y,y=G.alloc (.cells #[.int .u8 120] 5 (1,2)):=⟨_,rfl⟩;have h:Ext G y:=by rw[d];exact(Ext.refl _).alloc _
 have b:y.heap[G.heap.size]? = some (.cells #[.int .u8 120] 5 (1,2)):=by rw[d];exact ae _ _
 have z:Hid (Arg w y (.slice (some ⟨G.heap.size,0,none⟩) 1 1) [120]):=.inr ⟨rt (x:=120) (fr:=(1,2)) b,fun a n c N=>(by cases N;exact⟨_,_,_,b,by kernel_rfl⟩)⟩;have A:Hid (St w _ _ y (.pointer (some ⟨g,0,none⟩)) q o sm1 _):=St.more j.out h;rw[<-d];clear d h b j;go_at_call 24;refine(lR _ [120] A.out H.out X.out g1 (by omega) (by omega) (by omega) z.out (by decide)).mono ?_;rw[show bQ sm1 [120]=(sm2,xB,0)from Prod.ext rfl F1.out];rintro e w4 ⟨O3,n4,rfl,Q,B⟩;obtain⟨R,S⟩:=Q;have j:Hid (St w _ _ w4 (.pointer (some ⟨g,0,none⟩)) q o sm2 n4):=B;clear B A z
 try dsimp only
 go_wp2_with fail;go_at_call 13;refine(qu j.out H.out g2 (by omega)).mono ?_;rw[show aK sm2=((aK sm2).1,[xB],0)from Prod.ext rfl F2.out];rintro e t ⟨O5,v5,rfl,E,h5⟩;have J:Hid (IsStrs t v5 [xB]):=E;have H5:Hid (Ext w t):=h5.one.ext;clear E h5 j
 try dsimp only
 have t1:=tl xB;have aa:(xB==xB)=true:=by simp
 go_wp2_with fail;obtain⟨wc,i⟩:∃wc,wc=t.alloc (.cells #[S8 xB] 9):=⟨_,rfl⟩;have l:Ext t wc:=by rw[i];exact(Ext.refl _).alloc _
 have b:wc.heap[t.heap.size]? = some (.cells #[S8 xB] 9 (0,0)):=by rw[i];exact ae _ _
 have HC:Hid (IsStrs wc (.slice (some ⟨t.heap.size,0,none⟩) 1 1) [xB]):=Row.new b (by decide) _ rfl;have M:Hid (Ext w wc):=H5.out.trans l;have K:Hid (IsStrs wc v5 [xB]):=IsStrs.ext J.out l;rw[<-i];clear i l b;go_at_call 25;refine(jJ _ _ [xB] [xB] wc K.out HC.out).mono ?_;rw[show([xB]==[xB])=true by simp];rintro e w6 ⟨rfl,U⟩;go_wp2;go_ret;exact⟨rfl,M.out.trans U⟩
end
theorem kv [Inhabited bf] (w:World) (a:Env w) (b:EnvS w) :
  Calls Tryz.prog 5 #[] w fun e c=>e=.returned (.bool true)/\Ext w c :=
 si (KW:=⟨⟨fun _=>none,0⟩⟩) w a b (fun _=>rfl)
end
section
open Go Go.RowKit
structure RdC (wB:World) (g:Nat) (s0:Src) (e:TypeId) (size:Nat) (base:Nat) (v:Value) (n:Nat) (cs news:List Value) (keep:List (Nat×Obj)) (zh zl za:Option Value) (w:World):Prop where
 Cy:zh=none->IsSrc w g s0
 Ct:∀u,zh=some u->u=S8 (bn s0).2/\IsSrc w g (bn s0).1
 kp:∀k o,(k,o)∈keep->w.heap[k]? = some o
 Cp:za=none->w.ownsRow base e size v n cs
 Cv:∀u,za=some u->w.ownsRow base e size u (n+1) (cs++news)
 lit:∀u,zl=some u->za=none->∃gl,u=.slice (some ⟨gl,0,none⟩) 1 1/\base<=gl/\w.heap[gl]? = some (.cells news.toArray e (0,0))
 sz:base<=w.heap.size
 ext:Ext wB w
section
variable {wB w w':World} {g:Nat} {s0:Src} {e:TypeId} {size base:Nat} {v:Value} {n:Nat} {cs news:List Value} {keep:List (Nat×Obj)} {zh zl za:Option Value}
theorem RdC.start (c:IsSrc w g s0) (d:∀k o,(k,o)∈keep->w.heap[k]? = some o) (h:w.ownsRow base e size v n cs) (i:base<=w.heap.size) (j:Ext wB w) (b:Ext w w'):RdC wB g s0 e size base v n cs news keep none none none w' :=
 ⟨fun _=>c.ext b,fun u a=>(by cases a),fun k o l=>Ext.row b (d k o l),fun _=>am h b,fun u a=>(by cases a),fun u a=>(by cases a),Nat.le_trans i b.size,j.trans b⟩
theorem RdC.hash (h:RdC wB g s0 e size base v n cs news keep none zl za w) (C:g<base) (y:wB.heap.size<=g) (A:∀k o,(k,o)∈keep->k≠g) (x:IsSrc w' g (bn s0).1) (a:w.grownBy w' (some g)):RdC wB g s0 e size base v n cs news keep (some (S8 (bn s0).2)) zl za w':=by
 have own:∀u m i,w.ownsRow base e size u m i->w'.ownsRow base e size u m i:=fun u m i l=>l.kept a (by
  cases B:u.ownBlock with
  | none=>exact .inl rfl
  | some j=>exact .inr (fun z=>by cases z;have:=(l.lt _ B).1;omega))
 refine⟨fun h=>(by cases h),fun u c=>(by cases c;exact⟨rfl,x⟩),fun k o b=>?_,fun d=>own _ _ _ (h.Cp d),fun u c=>own _ _ _ (h.Cv u c),fun u c d=>?_,Nat.le_trans h.sz a.size,Ext.but h.ext a y⟩
 .exact aV a (h.kp k o b) (A k o b)
 .obtain ⟨t,p,q,r⟩:=h.lit u c d;exact⟨t,p,q,aV a r (by omega)⟩
theorem RdC.Cx (h:RdC wB g s0 e size base v n cs news keep zh none za w):RdC wB g s0 e size base v n cs news keep zh (some (.slice (some ⟨w.heap.size,0,none⟩) 1 1)) za (w.alloc (.cells news.toArray e)):=by
 have a:Ext w (w.alloc (.cells news.toArray e)):=(Ext.refl w).alloc _;exact⟨fun c=>(h.Cy c).ext a,fun u b=>⟨(h.Ct u b).1,(h.Ct u b).2.ext a⟩,fun k o d=>Ext.row a (h.kp k o d),fun c=>am (h.Cp c) a,fun u b=>am (h.Cv u b) a,fun u b c=>(by cases b;exact⟨_,rfl,h.sz,ae _ _⟩),Nat.le_trans h.sz a.size,h.ext.trans a⟩
theorem RdC.app {u:Value} {T:TypeId} {z:Value} {bytes:Nat} (h:RdC wB g s0 e size base v n cs news keep zh zl none w) (a:zl=some u) (M:g<base) (E:wB.heap.size<=base) (x:∀k o,(k,o)∈keep->k<base)
  (J:Tryz.prog.underlying T=some (.slice e)) (c:(Tryz.prog.info? e).map (fun i=>(i.zero,i.size,i.bytes))=some (some z,size,bytes)) (A:z.cells.size=size) (y:0<size) (H:news.length=1*size) (C:∀u∈news,u.oneCell'=true) (F:(n+1)*bytes<=140737488355328) (t:n+1<=1000000000) :
  ∃q w',(Builtin.append_ #[T,T] T #[v,u]).run Tryz.prog w=.ok q w'/\RdC wB g s0 e size base v n cs news keep zh zl (some q) w':=by
 obtain⟨K,rfl,G,j⟩:=h.lit u a rfl;obtain⟨q,w',I,D,d,L⟩:=gK T e z size bytes J c A y base v n cs (h.Cp rfl) _ 1 news (Row.new j (by decide) _ rfl) H C F t h.sz;have b:∀k,v.ownBlock=some k->base<=k:=fun k a=>((h.Cp rfl).lt k a).1
 have r:∀k o,k<base->w.heap[k]? = some o->w'.heap[k]? = some o:=fun k o a B=>(d.block k (Array.getElem?_eq_some_iff.1 B).1 (fun e=>by have:=b k e.symm;omega)).trans B
 exact⟨q,w',I,fun p=>(h.Cy p).Cf d (fun k a=>by have:=b k a;omega),fun u l=>⟨(h.Ct u l).1,(h.Ct u l).2.Cf d (fun k a=>by have:=b k a;omega)⟩,fun k o a=>r k o (x k o a) (h.kp k o a),fun p=>(by cases p),fun u l=>(by cases l;exact D),fun u l p=>(by cases p),Nat.le_trans h.sz d.size,Below.grown h.ext d h.ext.size (fun k a=>Nat.le_trans E (b k a))⟩
end
structure RdS (wB:World) (g4 g5 g6:Nat) (c4 c5:Array Value) (s:Src) (e:TypeId) (size base:Nat) (v:Value) (n:Nat) (cs:List Value) (w:World):Prop where
 src:IsSrc w g6 s
 r4:w.heap[g4]? = some (.cells c4 41 (0,0))
 r5:w.heap[g5]? = some (.cells c5 41 (0,0))
 own:w.ownsRow base e size v n cs
 sz:base<=w.heap.size
 ext:Ext wB w
 lt:wB.heap.size<=g4/\g4+1=g5/\g5+1=g6/\g6<base
section
variable {wB w w':World} {g4 g5 g6:Nat} {c4 c5:Array Value} {s s':Src} {e:TypeId} {size base:Nat} {v:Value} {n:Nat} {cs:List Value}
theorem RdS.step (h:RdS wB g4 g5 g6 c4 c5 s e size base v n cs w) (b:IsSrc w' g6 s') (a:w.grownBy w' (some g6)):RdS wB g4 g5 g6 c4 c5 s' e size base v n cs w':=by
 obtain⟨g,i,k,l⟩:=h.lt;refine⟨b,aV a h.r4 (by omega),aV a h.r5 (by omega),h.own.kept a ?_,Nat.le_trans h.sz a.size,Ext.but h.ext a (by omega),h.lt⟩
 cases d:v.ownBlock with
 | none=>exact .inl rfl
 | some j=>exact .inr (fun c=>by cases c;have:=(h.own.lt _ d).1;omega)
variable {news:List Value}
theorem RdS.Ds (h:RdS wB g4 g5 g6 c4 c5 s e size base v n cs w) (b:Ext w w'):RdC wB g6 s e size base v n cs news [(g4,.cells c4 41 (0,0)),(g5,.cells c5 41 (0,0))] none none none w' :=
 RdC.start h.src (fun k o a=>by
  simp only[List.mem_cons,Prod.mk.injEq,List.not_mem_nil,or_false]at a;rcases a with⟨rfl,rfl⟩ | ⟨rfl,rfl⟩
  .exact h.r4
  .exact h.r5) h.own h.sz h.ext b
variable {zl:Option Value}
theorem RdC.Dt {u x:Value} (a:wB.heap.size<=g4/\g4+1=g5/\g5+1=g6/\g6<base) (h:RdC wB g6 s e size base v n cs news [(g4,.cells c4 41 (0,0)),(g5,.cells c5 41 (0,0))] (some x) zl (some u) w):RdS wB g4 g5 g6 c4 c5 (bn s).1 e size base u (n+1) (cs++news) w :=
 ⟨(h.Ct x rfl).2,h.kp _ _ (by simp),h.kp _ _ (by simp),h.Cv u rfl,h.sz,h.ext,a⟩
theorem RdC.k5 {d b:Nat} {c a:Obj} {i g:Option Value} (h:RdC wB g6 s e size base v n cs news [(d,c),(b,a)] i zl g w):w.heap[b]? = some a:=h.kp _ _ (by simp)
theorem RdS.put (h:RdS wB g4 g5 g6 c4 c5 s e size base v n cs w) (j:Nat) (x:Value) {c6:Array Value} (i:c5.setIfInBounds j x=c6):RdS wB g4 g5 g6 c4 c6 s e size base v n cs (w.setCell ⟨g5,j,none⟩ x):=by
 obtain⟨t,u,y,z⟩:=h.lt;have b:=aH w g5 j x;obtain⟨g,o,c,p,q,r⟩:=h.src;refine⟨⟨g,o,c,aV b p (by omega),?_,r⟩,aV b h.r4 (by omega),?_,h.own.kept b ?_,Nat.le_trans h.sz b.size,Ext.but h.ext b (by omega),h.lt⟩
 .exact Row.but q b (fun a n c d=>by cases d;show g≠g5;omega)
 .rw [heap_setCell_same w g5 j _ _ _ h.r5,i]
 .cases l:v.ownBlock with
  | none=>exact .inl rfl
  | some k=>exact .inr (fun d=>by cases d;have:=(h.own.lt _ l).1;omega)
end
theorem eN (s:Src) (n:Nat):(aD s n).1.b.length<=s.b.length:=by
 unfold aD;split
 .exact Nat.le_refl _
 .simp
theorem dd (a:Bool) (s:Src):(aJ a s).1.b.length<=s.b.length:=by
 unfold aJ;split
 .exact Nat.le_refl _
 .exact eN _ _
variable {s sA:Src}
theorem rs (h:s.bad=false) (e:(bp s).1=sA):sA.bad=false->sA.b.length+1<=s.b.length:=by
 subst e;unfold bp aD;split
 .intro a;cases a
 .rename_i b;intro _;dsimp only;rw[List.length_drop];simp only[not_or,Nat.not_lt]at b;omega
theorem fX (s:Src):(bn s).1.b.length<=s.b.length:=eN _ _
variable {n:Nat}
theorem gp (h:(aD s n).1.bad=false):s.bad=false:=by
 unfold aD at h;split at h
 .cases h
 .exact h
theorem yz (h:(aJ false s).1.bad=false):s.bad=false:=by
 unfold aJ at h;split at h
 .cases h
 .exact gp h
theorem yA (s:Src):(aJ false s).2<=72057594037927936:=by
 unfold aJ;split
 .exact Nat.zero_le _
 .rename_i h;simp only[not_or,Decidable.not_not]at h;exact(qQ h.1).2.2
theorem vX {sB sC sD:Src} (g:(bp s).1=sA) (c:(aJ false sA).1=sB) (d:(aD sB n).1=sC) (e:(bn sC).1=sD) (h:sD.bad=false):sA.bad=false:=by
 subst e;have a:=gp h;subst d;have b:=gp a;subst c;exact yz b
theorem yk:(Tryz.prog.info? 130).map (fun i=>(i.zero,i.size,i.bytes))=some (some (.agg #[.int .i64 0,S8 [],S8 []]),3,40):=by kernel_rfl
def IsObT (w:World) (v:Value) (o:Ob):Prop:=∃a b c,v=obV o a b c/\IsBytes w a o.data/\IsItms w b o.items/\IsStrs w c o.parents/\TypB w a/\Typed 130 w b/\Typed 9 w c
variable {w w':World} {v:Value} {o:Ob}
theorem IsObT.ext (h:IsObT w v o) (a:Ext w w'):IsObT w' v o:=by
 obtain⟨j,k,l,rfl,b,c,d,e,g,i⟩:=h;exact⟨j,k,l,rfl,b.ext a,c.ext a,d.ext a,e.keep (KeepB.BX a),g.keep (Keep.BX a),i.keep (Keep.BX a)⟩
theorem IsObT.ob (h:IsObT w v o):IsOb w v o:=by
 obtain⟨d,e,g,rfl,a,b,c,-⟩:=h;exact⟨d,e,g,rfl,a,b,c⟩
theorem IsObT.put {g:Nat} {cs:Array Value} {fr:Nat×Nat} (h:IsObT w v o) (b:w.grownBy w' (some g)) (a:w.heap[g]? = some (.cells cs 41 fr)):IsObT w' v o:=by
 obtain⟨q,r,t,rfl,l,n,p,c,d,e⟩:=h;have i:KeepB w w':=KeepB.B1 b a (by kernel_rfl);have j:Keep 130 w w':=Keep.B1 b a (by decide);have k:Keep 9 w w':=Keep.B1 b a (by decide);exact⟨q,r,t,rfl,Row.B' l c i,Row.keep n d j,Row.keep p e k,c.keep i,d.keep j,e.keep k⟩
abbrev obC (k:Int) (c d:Value) (t:B8) (e:Value) (st a:Int) (b:B8):Array Value:=#[.int .i64 k,c,d,S8 t,e,.int .i64 st,.int .i64 a,S8 b]
theorem bY:(Tryz.prog.info? 41).map (·.size)=some 8:=by kernel_rfl
theorem dO (w:World) (o:Obj):(w.alloc o).heap.size=w.heap.size+1:=Array.size_push ..
theorem AQ (w:World) (a b c:Obj):(((w.alloc a).alloc b).alloc c).heap[w.heap.size]? = some a/\(((w.alloc a).alloc b).alloc c).heap[w.heap.size+1]? = some b/\(((w.alloc a).alloc b).alloc c).heap[w.heap.size+1+1]? = some c/\Ext w (((w.alloc a).alloc b).alloc c)/\(((w.alloc a).alloc b).alloc c).heap.size=w.heap.size+1+1+1:=by
 have d:=dO w a;have e:=dO (w.alloc a) b;have i:=dO ((w.alloc a).alloc b) c;have j:Ext (w.alloc a) ((w.alloc a).alloc b):=(Ext.refl _).alloc _;have g:Ext ((w.alloc a).alloc b) (((w.alloc a).alloc b).alloc c):=(Ext.refl _).alloc _;refine⟨Ext.row (j.trans g) (ae w a),Ext.row g ?_,?_,(((Ext.refl w).alloc a).alloc b).alloc c,by rw[i,e,d]⟩
 .have h:=ae (w.alloc a) b
  rwa [d]at h
 .have h:=ae ((w.alloc a).alloc b) c
  rwa [e,d]at h
theorem wK (y:Nat) (bb oo c:Nat) (b:B8) (w:World) (hv:IsBytes w (.slice (some ⟨bb,oo,none⟩) b.length c) b) (fc:bb<w.heap.size) (hl:b.length<=10000000) :
  Calls Tryz.prog 149 #[.int .i64 y,.slice (some ⟨bb,oo,none⟩) b.length c] w fun e w'=>(∃u,e=.returned u/\IsObT w' u (bX false y b).2)/\Ext w w':=by
 have HV:Hid _:=hv;obtain⟨⟨s9,o9⟩,hq⟩:∃q,bX false y b=q:=⟨_,rfl⟩;rw[hq];have HQ:Hid _:=hq;clear hv hq;go_enter Tryz.func149,Tryz.ntmps149;go_upto_region 4 with fail;obtain⟨w3,bx⟩:∃w3,w3=((w.alloc (.cells (obC 0 (.slice none 0 0) (.slice none 0 0) [] (.slice none 0 0) 0 0 []) 41)).alloc (.cells (obC y (.slice none 0 0) (.slice none 0 0) [] (.slice none 0 0) 0 0 []) 41)).alloc (.cells #[.slice (some ⟨bb,oo,none⟩) b.length c,.bool false] 239):=⟨_,rfl⟩;obtain⟨r4,r5,r6,bS,bv⟩:=AQ w (.cells (obC 0 (.slice none 0 0) (.slice none 0 0) [] (.slice none 0 0) 0 0 []) 41) (.cells (obC y (.slice none 0 0) (.slice none 0 0) [] (.slice none 0 0) 0 0 []) 41) (.cells #[.slice (some ⟨bb,oo,none⟩) b.length c,.bool false] 239);rw[<-bx]at r4 r5 r6 bS bv;unfold obC at bx;rw[<-bx];obtain⟨O,c0⟩:∃g,w.heap.size=g:=⟨_,rfl⟩;have fa:bb<O:=by omega
 rw[c0]at r4 r5 r6 bv ⊢;obtain⟨H,e0⟩:∃g,O+1=g:=⟨_,rfl⟩;rw[e0]at r5 r6 bv ⊢;obtain⟨l,e1⟩:∃g,H+1=g:=⟨_,rfl⟩;rw[e1]at r6 bv ⊢;have HS:Hid (IsSrc w3 l ⟨b,false⟩):=⟨bb,oo,c,r6,IsBytes.ext HV.out bS,by omega⟩;have a7:Hid (Ext w w3):=bS;have R4:Hid _:=r4;have R5:Hid _:=r5;have X:Hid (w.heap.size=O):=c0;clear bx r4 r5 r6 bS c0
 by_cases k1:y=1
 .subst k1;obtain⟨rfl,rfl⟩:(⟨[],false⟩:Src)=s9/\(⟨1,b,[],[],[],0,0,[]⟩:Ob)=o9:=by
   have p:=HQ.out;unfold bX at p;rw[if_pos (show((1:Nat):Int)=1 from rfl)]at p;exact⟨(Prod.mk.inj p).1,(Prod.mk.inj p).2⟩
  go_wp2_with fail;go_at_call 54;refine(eL _ b w3 (IsBytes.ext HV.out a7.out) (by omega)).mono ?_;rintro e w4 ⟨⟨vb,rfl,hd⟩,ba⟩;have eS:=hd.bytes;obtain⟨J,K,rfl,-⟩:=eS;have er:Hid _:=Ext.row ba R4.out;have b0:=Ext.row ba R5.out;have co:w4.frozen? ⟨H,1,none⟩=false:=by simp[World.frozen?,b0]
  have y5:w4.cell? ⟨H,1,none⟩=some (.slice none 0 0):=(cell_of_row _ _ 1 _ _ _ b0).trans rfl;have HD:Hid _:=hd;have dn:Hid _:=b0;have ek:Hid (Ext w w4):=a7.out.trans ba;have a4:=ba.size;clear hd ba b0;go_upto_region 23 with fail;obtain⟨w5,V⟩:∃w5,w5=w4.setCell ⟨H,1,none⟩ (.slice J b.length K):=⟨_,rfl⟩;have U:w4.grownBy w5 (some H):=by rw[V];exact aH _ _ _ _
  have R5:Hid (w5.heap[H]? = some (.cells (obC 1 (.slice J b.length K) (.slice none 0 0) [] (.slice none 0 0) 0 0 []) 41 (0,0))):=by
   unfold Hid;rw[V,heap_setCell_same w4 H 1 _ _ _ dn.out];simp
  have R4:Hid _:=aV U er.out (by omega);have eo:Hid (Ext w w5):=Ext.but ek.out U (by have:=X.out;omega);rw[<-V];have d4:Hid (IsBytes w5 (.slice J b.length K) b/\∀a n cc,Value.slice J b.length K=.slice (some a) n cc->w3.heap.size<=a.block):=by
   have d0:=HD.out.CM;refine⟨Row.but HD.out.bytes U (fun a n cc he=>?_),fun a n cc he=>(by cases he;exact(d0 a.block rfl).1)⟩;cases he;have:=(d0 a.block rfl).1;omega
  have eh:Hid (TypB w5 (.slice J b.length K)):=HD.out.typed.keep (KeepB.B1 U dn.out (by kernel_rfl));clear V U co y5;obtain⟨q0,q1,q2,q3,q4,q5,q6,q7⟩:=ah R5.out;have I:=R4.out
  go_wp2_with (refine wpList_store_row rfl 41 (.tmp 4) (.tmp 95) rfl O (obC 1 (.slice J b.length K) (.slice none 0 0) [] (.slice none 0 0) 0 0 []) rfl rfl 41 _ I bY rfl (by simp[Value.oneCell']) ?_)
  refine bodyPost_ret (results_cell_row rfl _ _ O 41 (obC 1 (.slice J b.length K) (.slice none 0 0) [] (.slice none 0 0) 0 0 []) (0,0) _ rfl (setRow_heap _ _ _ _ _ _ I) Tryz.underlying41 rfl bY) rfl ?_;refine⟨⟨_,rfl,?_⟩,Ext.but eo.out (af _ _ _) (Nat.le_of_eq X.out)⟩;exact IsObT.put (o:=⟨1,b,[],[],[],0,0,[]⟩) ⟨.slice J b.length K,.slice none 0 0,.slice none 0 0,rfl,d4.out.1,Row.nil _,Row.nil _,eh.out,Typed.nil _ _ _ _,Typed.nil _ _ _ _⟩ (af _ _ _) I
 have b8:¬((y:Nat):Int)=1:=by omega
 have b1:(((y:Nat):Int)==1)=false:=by simpa using b8
 by_cases k2:y=2
 .subst k2;have bh:Hid (o9=⟨2,[],(cQ false (aJ false ⟨b,false⟩).2 (aJ false ⟨b,false⟩).1 []).2,[],[],0,0,[]⟩):=by
   have p:=HQ.out;unfold bX at p;rw[if_neg (show ¬((2:Nat):Int)=1 by decide),if_pos (show((2:Nat):Int)=2 from rfl)]at p;exact(Prod.mk.inj p).2.symm
  have c3:=dd false ⟨b,false⟩;have dq:=yA ⟨b,false⟩;have c5:=jq l ⟨b,false⟩ w3 HS.out;obtain⟨⟨s1,N⟩,d3⟩:∃q,aJ false ⟨b,false⟩=q:=⟨_,rfl⟩;rw[d3]at c5 bh c3 dq;have dl:Hid _:=c5;obtain⟨RS,cu⟩:∃r,(cQ false N s1 []).2=r:=⟨_,rfl⟩;have ef:Hid _:=cu;dsimp only at bh c3 dq;rw[cu]at bh;clear c5 d3 cu HQ;go_wp2_with fail;go_at_call 205;refine Calls.mono dl.out ?_;rintro e9 w4 ⟨rfl,a4,T⟩;have ea:Hid (RdS w O H l (obC 0 (.slice none 0 0) (.slice none 0 0) [] (.slice none 0 0) 0 0 []) (obC 2 (.slice none 0 0) (.slice none 0 0) [] (.slice none 0 0) 0 0 []) s1 130 3 (l+1) (.slice none 0 0) 0 [] w4) :=
   RdS.step ⟨HS.out,R4.out,R5.out,World.ownsRow_nil _ _ _ _,by omega,a7.out,by have:=X.out;omega⟩ a4 T
  clear a4 T dl R4 R5 HS;go_wp2_with fail;go_loopw [8] (fun i wr=>∃(k:Nat) (s:Src) (d:List Itm) (v:Value),k<=N/\i=.int .i64 k/\Hid ((cQ false (N - k) s d).2=RS)/\Hid (RdS w O H l (obC 0 (.slice none 0 0) (.slice none 0 0) [] (.slice none 0 0) 0 0 []) (obC 2 (.slice none 0 0) v [] (.slice none 0 0) 0 0 []) s 130 3 (l+1) v d.length (d.flatMap itC) wr)/\Hid ((s.bad=false->d.length+s.b.length<=b.length)/\d.length<=b.length+1)) (fun i _=>N - (intOf i).toNat)
  case atStart=>exact⟨0,s1,[],.slice none 0 0,Nat.zero_le _,rfl,ef,ea,(fun h=>by have:=c3;simpa using this),by simp⟩
  case round =>
  obtain⟨k,s,d,v,F,rfl,HI,S,ca⟩:=hrel;obtain⟨sb,L⟩:∃x,s.bad=x:=⟨_,rfl⟩;obtain⟨es,e8,cx,a1,-,-⟩:=S.out.src;rw[L]at a1;have y1:=(ko a1).2;have Z:Hid _:=L;clear a1 L
  by_cases E:k=N\/sb=true
  .have bl:Hid (RS=d):=by
    unfold Hid;rw[<-HI.out];rcases E with h | h
    .rw [h,Nat.sub_self];rfl
    .cases e6:N - k with
     | zero=>rfl
     | succ j =>
      have p:=Z.out;rw[h]at p;rw[cQ,if_pos p]
   have R4:Hid _:=S.out.r4;have R5:Hid _:=S.out.r5;have c7:∃J Q K,v=.slice J Q K:=by
    rcases S.out.own.2 with⟨h,-⟩ | ⟨g,c,cn,h,-⟩
    iterate 2
     .exact ⟨_,_,_,h⟩
   obtain⟨J,Q,K,rfl⟩:=c7;have ad:(¬(k:Int)<(N:Int))\/((k:Int)<(N:Int)/\sb=true):=by
    rcases E with h | h
    .left;omega
    .by_cases e4:k<N
     .exact .inr ⟨by omega,h⟩
     .left;omega
   clear E;rcases ad with hc | ⟨hc,L⟩
   case' inr=>subst L
   all_goals
    go_upto_region 23 with fail;obtain⟨q0,q1,q2,q3,q4,q5,q6,q7⟩:=ah R5.out;have I:=R4.out
    go_wp2_with (refine wpList_store_row rfl 41 (.tmp 4) (.tmp 95) rfl O (obC 2 (.slice none 0 0) (.slice J Q K) [] (.slice none 0 0) 0 0 []) rfl rfl 41 _ I bY rfl (by simp[Value.oneCell']) ?_)
    refine bodyPost_ret (results_cell_row rfl _ _ O 41 (obC 2 (.slice none 0 0) (.slice J Q K) [] (.slice none 0 0) 0 0 []) (0,0) _ rfl (setRow_heap _ _ _ _ _ _ I) Tryz.underlying41 rfl bY) rfl ?_;refine⟨⟨_,rfl,?_⟩,Ext.but S.out.ext (af _ _ _) (Nat.le_of_eq X.out)⟩;rw[bh.out,bl.out];exact IsObT.put (o:=⟨2,[],d,[],[],0,0,[]⟩) ⟨.slice none 0 0,.slice J Q K,.slice none 0 0,rfl,Row.nil _,Row.BV S.out.own (by have:=ca.out.2;show d.length<=140737488355328;omega),Row.nil _,TypB.nil _ _ _,Typed.BV S.out.own,Typed.nil _ _ _ _⟩ (af _ _ _) I
  .have c2:k<N:=by omega
   have a6:Hid (k<N):=c2;have fb:k<72057594037927936:=by omega
   have c4:sb=false:=by
    cases sb with
    | false=>rfl
    | true=>exact absurd (.inr rfl) E
   subst c4;have e3:(k:Int)<(N:Int):=by omega
   obtain⟨j,D⟩:∃j,N - k=j+1:=⟨N - k - 1,by omega⟩;obtain⟨⟨sA,m⟩,hA⟩:∃q,bp s=q:=⟨_,rfl⟩;obtain⟨⟨sB,nn⟩,hB⟩:∃q,aJ false sA=q:=⟨_,rfl⟩;obtain⟨⟨sC,nm⟩,hC⟩:∃q,aD sB nn=q:=⟨_,rfl⟩;obtain⟨⟨sD,hs⟩,hD⟩:∃q,bn sC=q:=⟨_,rfl⟩;have d1:eF false s=(sD,⟨m,nm,hs⟩):=by
    unfold eF;rw[hA];dsimp only;rw[hB];dsimp only;rw[hC];dsimp only;rw[hD]
   have cb:Hid ((cQ false (N - (k+1)) sD (d++[⟨m,nm,hs⟩])).2=RS):=by
    have p:=HI.out;rw[D,cQ,if_neg (by rw[Z.out];simp),d1]at p;rw[show N - (k+1)=j by omega];exact p
   have a8:=rs Z.out (by rw[hA]:(bp s).1=sA);have cq:=dd false sA;have cs:=eN sB nn;have ct:=fX sC;rw[hB]at cq;rw[hC]at cs;rw[hD]at ct;have a9:=vX (s:=s) (sA:=sA) (sB:=sB) (sC:=sC) (sD:=sD) (by rw[hA]) (by rw[hB]) (by rw[hC]) (by rw[hD]);have b4:Hid ((sD.bad=false->(d++[(⟨m,nm,hs⟩:Itm)]).length+sD.b.length<=b.length)/\(d++[(⟨m,nm,hs⟩:Itm)]).length<=b.length+1):=by
    have p:=ca.out.1 Z.out;refine⟨fun h=>?_,by rw[List.length_append];simp only[List.length_cons,List.length_nil];omega⟩;have h8:=a8 (a9 h);rw[List.length_append];simp only[List.length_cons,List.length_nil]at cq cs ct ⊢;omega
   have a':=tP l s wr S.out.src;rw[hA]at a';have b6:Hid _:=a';have b5:Hid (∀w',IsSrc w' l sA->Calls Tryz.prog 205 #[.pointer (some ⟨l,0,none⟩)] w' fun e t=>e=.returned (.int .i64 (nn:Nat))/\IsSrc t l sB/\w'.grownBy t (some l)):=fun w' h=>by
    have p:=jq l sA w' h
    rwa [hB]at p
   have b7:Hid (∀w',IsSrc w' l sB->Calls Tryz.prog 207 #[.pointer (some ⟨l,0,none⟩),.int .i64 nn] w' fun e t=>∃v,e=.returned v/\IsBytes t v nm/\IsSrc t l sC/\w'.grownBy t (some l)):=fun w' h=>by
    have p:=js l sB nn w' h
    rwa [hC]at p
   have HD:Hid (bn sC=(sD,hs)):=hD;clear a' hA hB hC hD d1 a8 a9 cq cs ct E D HI ca;go_wp2_with fail;go_at_call 206;refine Calls.mono b6.out ?_;rintro e9 wa ⟨rfl,C,B⟩;have a2:Hid _:=S.out.step C B;clear C B b6 S y1;go_wp2_with fail;go_at_call 205;refine(b5.out wa a2.out.src).mono ?_;rintro e9 wb ⟨rfl,C,B⟩;have ce:Hid _:=a2.out.step C B;clear C B b5 a2;go_wp2_with fail;go_at_call 207;refine(b7.out wb ce.out.src).mono ?_;rintro e9 wc ⟨vt,rfl,aa,C,B⟩;have cl:Hid _:=ce.out.step C B;have ds:=dA aa;obtain⟨ta,tc,rfl,-⟩:=id aa;have y5:=(ah cl.out.r5).2.2.1;clear aa C B b7 ce;have bd:Hid (d.length<=10000001):=by
    have:=b4.out.2;rw[List.length_append]at this;simp only[List.length_cons,List.length_nil]at this;show d.length<=10000001;omega
   have cm:Hid (∀w',IsSrc w' l sC->Calls Tryz.prog 208 #[.pointer (some ⟨l,0,none⟩)] w' fun e t=>e=.returned (S8 (bn sC).2)/\IsSrc t l (bn sC).1/\w'.grownBy t (some l)):=fun w' h=>lO l sC w' h
   obtain⟨l1,l2,l3,l4⟩:=cl.out.lt;have a5:Hid (∀k o,(k,o)∈[(O,Obj.cells (obC 0 (.slice none 0 0) (.slice none 0 0) [] (.slice none 0 0) 0 0 []) 41 (0,0)),(H,Obj.cells (obC 2 (.slice none 0 0) v [] (.slice none 0 0) 0 0 []) 41 (0,0))]->k≠l/\k<l+1):=fun k o F=>by
    simp only[List.mem_cons,Prod.mk.injEq,List.not_mem_nil,or_false]at F;rcases F with⟨rfl,-⟩ | ⟨rfl,-⟩ <;> omega
   have hB:w.heap.size<=l:=by omega
   go_upto_region 13 with fail;apply aI 10 (fun z w'=>RdC w l sC 130 3 (l+1) v d.length (d.flatMap itC) (itC ⟨m,nm,(bn sC).2⟩) [(O,Obj.cells (obC 0 (.slice none 0 0) (.slice none 0 0) [] (.slice none 0 0) 0 0 []) 41 (0,0)),(H,Obj.cells (obC 2 (.slice none 0 0) v [] (.slice none 0 0) 0 0 []) 41 (0,0))] (z 5) (z 7) (z 8) w') [false,false,false,false,false,true,false,true,true,false] [_,v,_,_,_,undef,.agg #[.int .i64 m,S8 nm,S8 (bn sC).2],undef,undef,_] [none,none,none,none,none,none,none,none,none,none] [[],[0],[],[],[],[4],[2,3,5],[6],[1,7],[]] (by kernel_rfl) (by kernel_rfl) rfl
   .exact RdS.Ds cl.out ⟨rfl,rfl,rfl,Nat.le_refl _,fun _ _=>rfl⟩
   .simp (maxSteps:=1000000)only[de,cN,bR,cG,cS,List.getD_cons_zero,List.getD_cons_succ,Bool.false_eq_true,if_false,if_true,and_true,true_and,forall_const,Nat.zero_add,Nat.reduceAdd,List.take_succ_cons,List.take_zero,ab,Act.put,List.setIfInBounds_toArray,List.set_cons_zero,List.set_cons_succ];and_intros
    iterate 5 · intro M z wq D;intros;rename_i P;have f2:=(ah D.k5).2.2.1;go_simp;exact P _ _ D rfl
    .intro M z wq D hz F R P;rw[hz]at D;go_simp;exact(cm.out wq (D.Cy rfl)).mono (by rintro e' w' ⟨rfl,h1,h2⟩;exact⟨_,rfl,P _ _ (D.hash (Nat.lt_succ_self _) hB (fun k o F=>(a5.out k o F).1) h1 h2)⟩)
    .intro M z wq D F R P;obtain⟨bo,bq,e2⟩:=F;obtain⟨e5,-⟩:=D.Ct _ e2;rw[e5];go_simp;exact P _ _ D rfl
    .intro M z wq D hz F R P;rw[hz]at D;go_simp;exact P _ _ D.Cx
    .intro M z wq D hz F R P;obtain⟨bo,bq⟩:=F;rw[hz]at D;obtain⟨v',w',hr,c1⟩:=D.app bq (Nat.lt_succ_self _) (by omega) (fun k o F=>(a5.out k o F).2) Tryz.underlying38 yk rfl (by omega) rfl (by simp[itC,Value.oneCell']) (by have:=bd.out;omega) (by have:=bd.out;omega);apply eB (.tmp 48) (.tmp 54) 38 38 (v:=M 1) (xv:=M 7) (v':=v') (w':=w')
     iterate 4
      .rfl
     .rw [bo];exact hr
     .exact P _ _ c1
    .intro M z wq D;intros;rename_i P;have f2:=(ah D.k5).2.2.1;go_simp;exact P _ _ D rfl
   intro M wd a0 F;simp only[di,List.getD_cons_zero,List.getD_cons_succ,Bool.false_eq_true,if_false,if_true]at a0;simp only[bV,Nat.zero_add,Nat.reduceAdd,and_true]at F;simp(maxSteps:=1000000)only[List.drop_succ_cons,List.drop_zero,Nat.zero_add,Nat.reduceAdd,List.take_succ_cons,List.take_zero,ab,Act.put,List.setIfInBounds_toArray,List.set_cons_zero,List.set_cons_succ,F];clear F;generalize M 5=x5 at *;generalize M 7=x7 at *;generalize M 8=x8 at *;have G:=RdC.Dt ⟨l1,l2,l3,l4⟩ a0;rw[HD.out]at G;dsimp only at G;have y6:=(ah G.r5).2.2.1;have cp:wd.frozen? ⟨H,2,none⟩=false:=by simp[World.frozen?,G.r5]
   have Y:Hid (RdS w O H l (obC 0 (.slice none 0 0) (.slice none 0 0) [] (.slice none 0 0) 0 0 []) (obC 2 (.slice none 0 0) x8 [] (.slice none 0 0) 0 0 []) sD 130 3 (l+1) x8 (d++[(⟨m,nm,hs⟩:Itm)]).length ((d++[(⟨m,nm,hs⟩:Itm)]).flatMap itC) (wd.setCell ⟨H,2,none⟩ x8)):=by
    have p:=G.put 2 x8 (c6:=obC 2 (.slice none 0 0) x8 [] (.slice none 0 0) 0 0 []) rfl;unfold Hid;rw[List.length_append,List.flatMap_append,List.flatMap_singleton];exact p
   have c':∃J Q K,x8=.slice J Q K:=by
    rcases G.own.2 with⟨h,-⟩ | ⟨g,c,cn,h,-⟩
    iterate 2
     .exact ⟨_,_,_,h⟩
   obtain⟨xa,xn,xc,rfl⟩:=c';clear a0 G;go_wp2_with fail;go_roundw
   case rel=>exact⟨k+1,sD,d++[⟨m,nm,hs⟩],_,a6.out,by go_num,cb,Y,b4⟩
   case measure=>have:=a6.out;simp[intOf];omega
 have b9:¬((y:Nat):Int)=2:=by omega
 have b2:(((y:Nat):Int)==2)=false:=by simpa using b9
 by_cases k3:y=3
 .subst k3;obtain⟨⟨sH,A⟩,hH⟩:∃q,bn ⟨b,false⟩=q:=⟨_,rfl⟩;obtain⟨⟨sO,N⟩,hO⟩:∃q,bp sH=q:=⟨_,rfl⟩;obtain⟨⟨sP,ps⟩,hP⟩:∃q,dr N sO []=q:=⟨_,rfl⟩;obtain⟨⟨sS,st⟩,hS⟩:∃q,aJ false sP=q:=⟨_,rfl⟩;obtain⟨⟨sU,au⟩,hU⟩:∃q,aJ false sS=q:=⟨_,rfl⟩;obtain⟨⟨sV,ml⟩,hV⟩:∃q,aJ false sU=q:=⟨_,rfl⟩;obtain⟨⟨sW,W⟩,hW⟩:∃q,aD sV ml=q:=⟨_,rfl⟩;have d9:Hid (o9=⟨3,[],[],A,ps,st,au,W⟩):=by
   have p:=HQ.out;unfold bX lj at p;rw[if_neg (show ¬((3:Nat):Int)=1 by decide),if_neg (show ¬((3:Nat):Int)=2 by decide),if_pos (show((3:Nat):Int)=3 from rfl),hH]at p;dsimp only at p;rw[hO]at p;dsimp only at p;rw[hP]at p;dsimp only at p;rw[hS]at p;dsimp only at p;rw[hU]at p;dsimp only at p;rw[hV]at p;dsimp only at p;rw[hW]at p;exact(Prod.mk.inj p).2.symm
  have da:Hid (Calls Tryz.prog 208 #[.pointer (some ⟨l,0,none⟩)] w3 fun e t=>e=.returned (S8 A)/\IsSrc t l sH/\w3.grownBy t (some l)):=by
   have p:=lO l ⟨b,false⟩ w3 HS.out
   rwa [hH]at p
  have dc:Hid (∀w',IsSrc w' l sH->Calls Tryz.prog 206 #[.pointer (some ⟨l,0,none⟩)] w' fun e t=>e=.returned (.int .i64 (N:Nat))/\IsSrc t l sO/\w'.grownBy t (some l)):=fun w' h=>by
   have p:=tP l sH w' h
   rwa [hO]at p
  have d6:Hid (∀w',IsSrc w' l sP->Calls Tryz.prog 205 #[.pointer (some ⟨l,0,none⟩)] w' fun e t=>e=.returned (.int .i64 (st:Nat))/\IsSrc t l sS/\w'.grownBy t (some l)):=fun w' h=>by
   have p:=jq l sP w' h
   rwa [hS]at p
  have d7:Hid (∀w',IsSrc w' l sS->Calls Tryz.prog 205 #[.pointer (some ⟨l,0,none⟩)] w' fun e t=>e=.returned (.int .i64 (au:Nat))/\IsSrc t l sU/\w'.grownBy t (some l)):=fun w' h=>by
   have p:=jq l sS w' h
   rwa [hU]at p
  have d8:Hid (∀w',IsSrc w' l sU->Calls Tryz.prog 205 #[.pointer (some ⟨l,0,none⟩)] w' fun e t=>e=.returned (.int .i64 (ml:Nat))/\IsSrc t l sV/\w'.grownBy t (some l)):=fun w' h=>by
   have p:=jq l sU w' h
   rwa [hV]at p
  have eg:Hid (∀w',IsSrc w' l sV->Calls Tryz.prog 207 #[.pointer (some ⟨l,0,none⟩),.int .i64 ml] w' fun e t=>∃v,e=.returned v/\IsBytes t v W/\IsSrc t l sW/\w'.grownBy t (some l)):=fun w' h=>by
   have p:=js l sV ml w' h
   rwa [hW]at p
  have ey:N<=255:=by
   have p:=congrArg Prod.snd hO;unfold bp at p;dsimp only at p;have:=((aD sH 1).2.headD 0).toNat_lt;omega
  have dk:Hid (dr (N - 0) sO []=(sP,ps)):=hP;clear hH hO hP hS hU hV hW HQ;go_wp2_with fail;go_at_call 208;refine Calls.mono da.out ?_;rintro e9 w4 ⟨rfl,a4,T⟩;have h4:RdS w O H l (obC 0 (.slice none 0 0) (.slice none 0 0) [] (.slice none 0 0) 0 0 []) (obC 3 (.slice none 0 0) (.slice none 0 0) [] (.slice none 0 0) 0 0 []) sH 9 1 (l+1) (.slice none 0 0) 0 [] w4 :=
   RdS.step ⟨HS.out,R4.out,R5.out,World.ownsRow_nil _ _ _ _,by omega,a7.out,by have:=X.out;omega⟩ a4 T
  have y3:=(ah h4.r5).2.2.2.1;have ev:w4.frozen? ⟨H,3,none⟩=false:=by simp[World.frozen?,h4.r5]
  have bk:Hid _:=h4.put 3 (S8 A) (c6:=obC 3 (.slice none 0 0) (.slice none 0 0) A (.slice none 0 0) 0 0 []) rfl;clear h4 a4 T da R4 R5 HS;go_upto_region 16 with fail;obtain⟨w5,V⟩:∃w5,w5=w4.setCell ⟨H,3,none⟩ (S8 A):=⟨_,rfl⟩;rw[<-V];rw[<-V]at bk;clear V y3 ev;go_wp2_with fail;go_at_call 206;refine(dc.out w5 bk.out.src).mono ?_;rintro e9 w6 ⟨rfl,C,B⟩;have ec:Hid _:=bk.out.step C B;clear C B dc bk;go_wp2_with fail;go_loopw [12] (fun i wr=>∃(k:Nat) (s:Src) (d:List B8) (v:Value),k<=N/\i=.int .i64 k/\d.length=k/\Hid (dr (N - k) s d=(sP,ps))/\Hid (RdS w O H l (obC 0 (.slice none 0 0) (.slice none 0 0) [] (.slice none 0 0) 0 0 []) (obC 3 (.slice none 0 0) (.slice none 0 0) A v 0 0 []) s 9 1 (l+1) v d.length (d.map S8) wr)) (fun i _=>N - (intOf i).toNat)
  case atStart=>exact⟨0,sO,[],.slice none 0 0,Nat.zero_le _,rfl,rfl,dk,ec⟩
  case round =>
  obtain⟨k,s,d,v,F,rfl,eE,HI,S⟩:=hrel;obtain⟨sb,L⟩:∃x,s.bad=x:=⟨_,rfl⟩;obtain⟨es,e8,cx,a1,-,-⟩:=S.out.src;rw[L]at a1;have y1:=(ko a1).2;have Z:Hid _:=L;clear a1 L
  by_cases E:k=N\/sb=true
  .have e7:s=sP/\d=ps:=by
    have p:=HI.out;have h8:dr (N - k) s d=(s,d):=by
     rcases E with h | h
     .rw [h,Nat.sub_self];rfl
     .cases e6:N - k with
      | zero=>rfl
      | succ j =>
       have h7:=Z.out;rw[h]at h7;rw[dr,if_pos h7]
    rw[h8]at p;exact⟨(Prod.mk.inj p).1,(Prod.mk.inj p).2⟩
   obtain⟨rfl,rfl⟩:=e7;have c7:∃J Q K,v=.slice J Q K:=by
    rcases S.out.own.2 with⟨h,-⟩ | ⟨g,c,cn,h,-⟩
    iterate 2
     .exact ⟨_,_,_,h⟩
   obtain⟨J,Q,K,rfl⟩:=c7;have cv:d.length<=255:=by omega
   have bd:Hid _:=cv;have ad:(¬(k:Int)<(N:Int))\/((k:Int)<(N:Int)/\sb=true):=by
    rcases E with h | h
    .left;omega
    .by_cases e4:k<N
     .exact .inr ⟨by omega,h⟩
     .left;omega
   clear E HI dk cv;rcases ad with hc | ⟨hc,L⟩
   case' inr=>subst L
   all_goals
    go_wp2_with fail;go_at_call 205;refine(d6.out _ S.out.src).mono ?_;rintro e9 wa ⟨rfl,C,B⟩;have a2:Hid _:=S.out.step C B;clear C B y1;go_wp2_with fail;go_at_call 205;refine(d7.out wa a2.out.src).mono ?_;rintro e9 wb ⟨rfl,C,B⟩;have br:=a2.out.step C B;have bs:=br.put 5 (.int .i64 st) (c6:=obC 3 (.slice none 0 0) (.slice none 0 0) A (.slice J Q K) st 0 []) rfl;have y5:=(ah br.r5).2.2.2.2.2.1;have co:wb.frozen? ⟨H,5,none⟩=false:=by simp[World.frozen?,br.r5]
    have y6:=(ah bs.r5).2.2.2.2.2.2.1;have cp:(wb.setCell ⟨H,5,none⟩ (.int .i64 st)).frozen? ⟨H,6,none⟩=false:=by simp[World.frozen?,bs.r5]
    have Y:Hid _:=bs.put 6 (.int .i64 au) (c6:=obC 3 (.slice none 0 0) (.slice none 0 0) A (.slice J Q K) st au []) rfl;clear C B br bs;go_upto_region 22 with fail;obtain⟨wd,c8⟩:∃wd,wd=(wb.setCell ⟨H,5,none⟩ (.int .i64 st)).setCell ⟨H,6,none⟩ (.int .i64 au):=⟨_,rfl⟩;rw[<-c8];rw[<-c8]at Y;clear c8 y5 y6 co cp;go_wp2_with fail;go_at_call 205;refine(d8.out wd Y.out.src).mono ?_;rintro e9 we ⟨rfl,C,B⟩;have bl:Hid _:=Y.out.step C B;clear C B;go_wp2_with fail;go_at_call 207;refine(eg.out we bl.out.src).mono ?_;rintro e9 wf ⟨vt,rfl,aa,C,B⟩;have bt:=bl.out.step C B;have ds:=dA aa;obtain⟨ta,tc,rfl,-⟩:=id aa;have y7:=(ah bt.r5).2.2.2.2.2.2.2;have ex:wf.frozen? ⟨H,7,none⟩=false:=by simp[World.frozen?,bt.r5]
    have a3:Hid _:=bt.put 7 (S8 W) (c6:=(obC 3 (.slice none 0 0) (.slice none 0 0) A (.slice J Q K) st au W)) rfl;clear C B aa bt;go_upto_region 23 with fail;obtain⟨wg,c9⟩:∃wg,wg=wf.setCell ⟨H,7,none⟩ (S8 W):=⟨_,rfl⟩;rw[<-c9];rw[<-c9]at a3;clear c9 y7 ex ds;have R4:Hid _:=a3.out.r4;have R5:Hid _:=a3.out.r5;obtain⟨q0,q1,q2,q3,q4,q5,q6,q7⟩:=ah R5.out;have I:=R4.out
    go_wp2_with (refine wpList_store_row rfl 41 (.tmp 4) (.tmp 95) rfl O (obC 3 (.slice none 0 0) (.slice none 0 0) A (.slice J Q K) st au W) rfl rfl 41 _ I bY rfl (by simp[Value.oneCell']) ?_)
    refine bodyPost_ret (results_cell_row rfl _ _ O 41 (obC 3 (.slice none 0 0) (.slice none 0 0) A (.slice J Q K) st au W) (0,0) _ rfl (setRow_heap _ _ _ _ _ _ I) Tryz.underlying41 rfl bY) rfl ?_;refine⟨⟨_,rfl,?_⟩,Ext.but a3.out.ext (af _ _ _) (Nat.le_of_eq X.out)⟩;rw[d9.out];exact IsObT.put (o:=⟨3,[],[],A,d,st,au,W⟩) ⟨.slice none 0 0,.slice none 0 0,.slice J Q K,rfl,Row.nil _,Row.nil _,Row.BV a3.out.own (by have:=bd.out;show d.length<=140737488355328;omega),TypB.nil _ _ _,Typed.nil _ _ _ _,Typed.BV a3.out.own⟩ (af _ _ _) I
  .have c2:k<N:=by omega
   have a6:Hid (k<N):=c2;have c4:sb=false:=by
    cases sb with
    | false=>rfl
    | true=>exact absurd (.inr rfl) E
   subst c4;have e3:(k:Int)<(N:Int):=by omega
   obtain⟨j,D⟩:∃j,N - k=j+1:=⟨N - k - 1,by omega⟩;obtain⟨⟨sD,hs⟩,hD⟩:∃q,bn s=q:=⟨_,rfl⟩;have cb:Hid (dr (N - (k+1)) sD (d++[hs])=(sP,ps)):=by
    have p:=HI.out;rw[D,dr,if_neg (by rw[Z.out];simp),hD]at p;rw[show N - (k+1)=j by omega];exact p
   have HD:Hid (bn s=(sD,hs)):=hD;have cm:Hid (∀w',IsSrc w' l s->Calls Tryz.prog 208 #[.pointer (some ⟨l,0,none⟩)] w' fun e t=>e=.returned (S8 (bn s).2)/\IsSrc t l (bn s).1/\w'.grownBy t (some l)):=fun w' h=>lO l s w' h
   obtain⟨l1,l2,l3,l4⟩:=S.out.lt;have a5:Hid (∀k o,(k,o)∈[(O,Obj.cells (obC 0 (.slice none 0 0) (.slice none 0 0) [] (.slice none 0 0) 0 0 []) 41 (0,0)),(H,Obj.cells (obC 3 (.slice none 0 0) (.slice none 0 0) A v 0 0 []) 41 (0,0))]->k≠l/\k<l+1):=fun k o F=>by
    simp only[List.mem_cons,Prod.mk.injEq,List.not_mem_nil,or_false]at F;rcases F with⟨rfl,-⟩ | ⟨rfl,-⟩ <;> omega
   have hB:w.heap.size<=l:=by omega
   have cv:d.length<=255:=by omega
   clear hD D E HI;go_upto_region 20 with fail;apply aI 7 (fun z w'=>RdC w l s 9 1 (l+1) v d.length (d.map S8) [S8 (bn s).2] [(O,Obj.cells (obC 0 (.slice none 0 0) (.slice none 0 0) [] (.slice none 0 0) 0 0 []) 41 (0,0)),(H,Obj.cells (obC 3 (.slice none 0 0) (.slice none 0 0) A v 0 0 []) 41 (0,0))] (z 3) (z 4) (z 5) w') [false,false,false,true,true,true,false] [_,v,_,undef,undef,undef,_] [none,none,none,none,none,none,none] [[],[0],[],[2],[3],[1,4],[]] (by kernel_rfl) (by kernel_rfl) rfl
   .exact RdS.Ds S.out ⟨rfl,rfl,rfl,Nat.le_refl _,fun _ _=>rfl⟩
   .simp (maxSteps:=1000000)only[de,cN,bR,cG,cS,List.getD_cons_zero,List.getD_cons_succ,Bool.false_eq_true,if_false,if_true,and_true,true_and,forall_const,Nat.zero_add,Nat.reduceAdd,List.take_succ_cons,List.take_zero,ab,Act.put,List.setIfInBounds_toArray,List.set_cons_zero,List.set_cons_succ];and_intros
    iterate 3 · intro M z wq D;intros;rename_i P;have f2:=(ah D.k5).2.2.2.2.1;go_simp;exact P _ _ D rfl
    .intro M z wq D hz F R P;rw[hz]at D;go_simp;exact(cm.out wq (D.Cy rfl)).mono (by rintro e' w' ⟨rfl,h1,h2⟩;exact⟨_,rfl,P _ _ (D.hash (Nat.lt_succ_self _) hB (fun k o F=>(a5.out k o F).1) h1 h2)⟩)
    .intro M z wq D hz F R P;rw[hz]at D;obtain⟨e5,-⟩:=D.Ct _ F;rw[e5];go_simp;exact P _ _ D.Cx
    .intro M z wq D hz F R P;obtain⟨bo,bq⟩:=F;rw[hz]at D;obtain⟨v',w',hr,c1⟩:=D.app bq (Nat.lt_succ_self _) (by omega) (fun k o F=>(a5.out k o F).2) Tryz.underlying39 jd rfl (by omega) rfl (by simp[Value.oneCell']) (by omega) (by omega);apply eB (.tmp 77) (.tmp 80) 39 39 (v:=M 1) (xv:=M 4) (v':=v') (w':=w')
     iterate 4
      .rfl
     .rw [bo];exact hr
     .exact P _ _ c1
    .intro M z wq D;intros;rename_i P;have f2:=(ah D.k5).2.2.2.2.1;go_simp;exact P _ _ D rfl
   intro M wd a0 F;simp only[di,List.getD_cons_zero,List.getD_cons_succ,Bool.false_eq_true,if_false,if_true]at a0;simp only[bV,Nat.zero_add,Nat.reduceAdd,and_true]at F;simp(maxSteps:=1000000)only[List.drop_succ_cons,List.drop_zero,Nat.zero_add,Nat.reduceAdd,List.take_succ_cons,List.take_zero,ab,Act.put,List.setIfInBounds_toArray,List.set_cons_zero,List.set_cons_succ,F];clear F;generalize M 3=x3 at *;generalize M 4=x4 at *;generalize M 5=x5 at *;have G:=RdC.Dt ⟨l1,l2,l3,l4⟩ a0;rw[HD.out]at G;dsimp only at G;have y6:=(ah G.r5).2.2.2.2.1;have cp:wd.frozen? ⟨H,4,none⟩=false:=by simp[World.frozen?,G.r5]
   have Y:Hid (RdS w O H l (obC 0 (.slice none 0 0) (.slice none 0 0) [] (.slice none 0 0) 0 0 []) (obC 3 (.slice none 0 0) (.slice none 0 0) A x5 0 0 []) sD 9 1 (l+1) x5 (d++[hs]).length ((d++[hs]).map S8) (wd.setCell ⟨H,4,none⟩ x5)):=by
    have p:=G.put 4 x5 (c6:=obC 3 (.slice none 0 0) (.slice none 0 0) A x5 0 0 []) rfl;unfold Hid;rw[List.length_append,List.map_append];exact p
   have c':∃J Q K,x5=.slice J Q K:=by
    rcases G.own.2 with⟨h,-⟩ | ⟨g,c,cn,h,-⟩
    iterate 2
     .exact ⟨_,_,_,h⟩
   obtain⟨xa,xn,xc,rfl⟩:=c';have d2:(d++[hs]).length=k+1:=by rw[List.length_append,eE];rfl
   have d5:Hid _:=d2;clear a0 G d2;go_wp2_with fail;go_roundw
   case rel=>exact⟨k+1,sD,d++[hs],_,a6.out,by go_num,d5.out,cb,Y⟩
   case measure=>have:=a6.out;simp[intOf];omega
 .have b':¬((y:Nat):Int)=3:=by omega
  have b3:(((y:Nat):Int)==3)=false:=by simpa using b'
  have d':Hid (o9=⟨y,[],[],[],[],0,0,[]⟩):=by
   have p:=HQ.out;unfold bX at p;rw[if_neg b8,if_neg b9,if_neg b']at p;exact(Prod.mk.inj p).2.symm
  clear HQ;go_upto_region 23 with fail;obtain⟨q0,q1,q2,q3,q4,q5,q6,q7⟩:=ah R5.out;have I:=R4.out
  go_wp2_with (refine wpList_store_row rfl 41 (.tmp 4) (.tmp 95) rfl O (obC y (.slice none 0 0) (.slice none 0 0) [] (.slice none 0 0) 0 0 []) rfl rfl 41 _ I bY rfl (by simp[Value.oneCell']) ?_)
  refine bodyPost_ret (results_cell_row rfl _ _ O 41 (obC y (.slice none 0 0) (.slice none 0 0) [] (.slice none 0 0) 0 0 []) (0,0) _ rfl (setRow_heap _ _ _ _ _ _ I) Tryz.underlying41 rfl bY) rfl ?_;refine⟨⟨_,rfl,?_⟩,Ext.but a7.out (af _ _ _) (Nat.le_of_eq X.out)⟩;rw[d'.out];exact⟨.slice none 0 0,.slice none 0 0,.slice none 0 0,rfl,Row.nil _,Row.nil _,Row.nil _,TypB.nil _ _ _,Typed.nil _ _ _ _,Typed.nil _ _ _ _⟩
end
end Go.Proofs.YtfabjgfmiaammaaGreatDoor
