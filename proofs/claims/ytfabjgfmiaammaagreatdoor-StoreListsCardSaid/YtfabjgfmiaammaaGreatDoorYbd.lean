/- Contracts of the program's functions and plain laws behind the card. Conditions: as each theorem states. -/
import Derived.Test.YtfabjgfmiaammaaGreatDoorYbc
import Derived.Test.YtfabjgfmiaammaaGreatDoorYam
import Derived.Test.YtfabjgfmiaammaaGreatDoorYaw
set_option linter.unusedVariables false
set_option linter.unusedSimpArgs false
set_option linter.unusedSectionVars false
set_option maxRecDepth 100000
set_option maxHeartbeats 64000000
namespace Go.Proofs.YtfabjgfmiaammaaGreatDoor
section
open Go Go.RowKit
variable [Inhabited bf]
structure lc (S O O' R:Nat->Prop) (w1:World) (f x:Value) (m m2:Fs):Prop where
 fin:FsIn S O R w1 f m
 B5:RefIn O' R w1 x m2
 Ci:∀k,O k->¬O' k
 B3:∀k,S k->¬O' k
 high:∀k,O k->cy.heap.size<=k
structure Both (S O O' R:Nat->Prop) (w1:World) (f x:Value) (m' m2':Fs) (w:World):Prop where
 two:∃S1 O1 O1':Nat->Prop,IsFs S1 O1 (Nw R w1 w) w f m'/\IsRef O1' (Nw R w1 w) w x m2'/\(∀k,S1 k->(S k\/w1.heap.size<=k)/\k<w.heap.size/\¬O1 k/\¬O1' k)/\(∀k,O1 k->(O k\/w1.heap.size<=k)/\k<w.heap.size)/\(∀k,O1' k->(O' k\/w1.heap.size<=k)/\k<w.heap.size)/\(∀k,O1 k->¬O1' k)
 fr:Fr (fun k=>O k\/O' k) w1 w
def DJ (S O O' R:Nat->Prop) (b:World) (f x:Value) (m' a:Fs) (c d:Value->Prop):Option Value->Option Value->World->Prop
 | none,none,w=>Ext b w
 | some u,none,w=>c u/\FsPost S O R b f m' w
 | none,some v,w=>d v/\RefPost O' R b x a w
 | some u,some v,w=>c u/\d v/\Both S O O' R b f x m' a w
section
variable {S O O' R:Nat->Prop} {w1 w w':World} {f x:Value} {m m2 m' m2':Fs} {ef er:Value->Prop} {z1 z2:Option Value} {u v:Value}
theorem DJ.fr (h:DJ S O O' R w1 f x m' m2' ef er z1 z2 w):Fr (fun k=>O k\/O' k) w1 w:=by
 cases z1 <;> cases z2
 .exact Fr.BX h
 .exact h.2.fr.mono (fun k a=>.inr a)
 .exact h.2.fr.mono (fun k a=>.inl a)
 .exact h.2.2.fr
theorem DJ.row (h:DJ S O O' R w1 f x m' m2' ef er z1 z2 w) {k:Nat} {o:Obj} (d:w1.heap[k]? = some o) (a:¬O k) (b:¬O' k):w.heap[k]? = some o :=
 h.fr.row d (fun c=>c.elim a b)
variable {b:Value}
theorem DJ.bytes (h:DJ S O O' R w1 f x m' m2' ef er z1 z2 w) {l:B8} (a:IsBytes w1 b l) (c:TypB w1 b):IsBytes w b l:=Row.B' a c h.fr.keep
theorem DJ.typed (h:DJ S O O' R w1 f x m' m2' ef er z1 z2 w) (a:TypB w1 b):TypB w b:=a.keep h.fr.keep
theorem lU {Q:Nat->Prop} (e:TypB w b) (_:∃a n c,b=.slice a n c):Out Q w b:=fun a n c d _=>.inr (e a n c d)
variable {p:Value}
theorem FsIn.other {S O R:Nat->Prop} (h:FsIn S O R w p m) {Q:Nat->Prop} (a:Fr Q w w') (d:∀k,O k->¬Q k) (e:∀k,S k->¬Q k) (c:NoG Q):FsIn S O R w' p m :=
 ⟨h.env.fr a c,h.fs.other a d e,h.ok,h.plan,h.time,h.calls,h.Co,fun k b=>⟨(h.apart k b).1,Nat.lt_of_lt_of_le (h.apart k b).2 a.size⟩,fun k b=>Nat.lt_of_lt_of_le (h.low k b) a.size,h.Cc,h.Cd⟩
theorem RefIn.other {O R:Nat->Prop} (h:RefIn O R w p m) {Q:Nat->Prop} (a:Fr Q w w') (b:∀k,O k->¬Q k) (d:∀k,Q k->cy.heap.size<=k):RefIn O R w' p m :=
 ⟨h.fs.other a b,h.ok,h.plan,h.time,h.calls,fun k c=>Nat.lt_of_lt_of_le (h.low k c) a.size,Ext.Cb h.base a d,h.high,h.Cc,h.Cd⟩
theorem DJ.base (a:lc S O O' R w1 f x m m2) (b:Ext cy w1) (h:DJ S O O' R w1 f x m' m2' ef er z1 z2 w):Ext cy w:=Ext.Cb b h.fr (fun k c=>c.elim (a.high k) (a.B5.high k))
theorem DJ.fin (a:lc S O O' R w1 f x m m2) (b:NoG O') (h:DJ S O O' R w1 f x m' m2' ef er none z2 w):FsIn S O R w f m:=by
 cases z2
 .exact a.fin.ext h
 .exact a.fin.other h.2.fr a.Ci a.B3 b
theorem DJ.B5 (a:lc S O O' R w1 f x m m2) (h:DJ S O O' R w1 f x m' m2' ef er z1 none w):RefIn O' R w x m2:=by
 cases z1
 .exact a.B5.ext h
 .exact a.B5.other h.2.fr (fun k b c=>a.Ci k c b) a.high
theorem DJ.Cr (b:lc S O O' R w1 f x m m2) (h:DJ S O O' R w1 f x m' m2' ef er none z2 w) (l:ef u) (k:FsPost S O R w f m' w'):DJ S O O' R w1 f x m' m2' ef er (some u) z2 w':=by
 cases z2
 .exact ⟨l,FsPost.pre h k⟩
 .obtain ⟨o,h⟩:=h;have p:=h.fr.size;have n:=k.fr.size;refine⟨l,o,⟨S,Nw O w w',Nw O' w1 w,k.fs.mono (fun _ h=>h) (fun j a=>?_),(h.fs.other k.fr (fun j a i=>?_)).mono (fun _ h=>h) (fun j a=>?_),fun j a=>⟨.inl a,by have:=b.fin.apart j a;omega,fun c=>?_,fun c=>?_⟩,fun j a=>?_,fun j a=>?_,fun j e d=>?_⟩,?_⟩
  .rcases a with a | a
   .exact .inl a
   .exact .inr ⟨by omega,a.2⟩
  .rcases a with a | a
   .exact b.Ci j i a
   .have:=b.fin.low j i;omega
  .exact a.imp id (fun h=>⟨h.1,by omega⟩)
  .have g:=b.fin.apart j a;rcases c with c | c
   .exact g.1 c
   .omega
  .have g:=b.fin.apart j a;rcases c with c | c
   .exact b.B3 j a c
   .omega
  .rcases a with a | a
   .have:=b.fin.low j a;exact⟨.inl a,by omega⟩
   .exact ⟨.inr (by omega),a.2⟩
  .rcases a with a | a
   .have:=b.B5.low j a;exact⟨.inl a,by omega⟩
   .exact ⟨.inr (by omega),by omega⟩
  .rcases e with e | e
   .rcases d with d | d
    .exact b.Ci j e d
    .have:=b.fin.low j e;omega
   .rcases d with d | d
    .have:=b.B5.low j d;omega
    .omega
  .exact (h.fr.mono (fun j a=>.inr a)).trans (k.fr.mono (fun j a=>.inl (.inl a)))
theorem DJ.Cs (b:lc S O O' R w1 f x m m2) (h:DJ S O O' R w1 f x m' m2' ef er z1 none w) (l:er v) (k:RefPost O' R w x m2' w'):DJ S O O' R w1 f x m' m2' ef er z1 (some v) w':=by
 cases z1
 .exact ⟨l,RefPost.pre h k⟩
 .obtain ⟨o,h⟩:=h;have p:=h.fr.size;have n:=k.fr.size;refine⟨o,l,⟨S,Nw O w1 w,Nw O' w w',(h.fs.other k.fr (fun j a i=>?_) b.B3).mono (fun _ h=>h) (fun j a=>?_),k.fs.mono (fun _ h=>h) (fun j a=>?_),fun j a=>⟨.inl a,by have:=b.fin.apart j a;omega,fun c=>?_,fun c=>?_⟩,fun j a=>?_,fun j a=>?_,fun j e d=>?_⟩,?_⟩
  .rcases a with a | a
   .exact b.Ci j a i
   .have:=b.B5.low j i;omega
  .exact a.imp id (fun h=>⟨h.1,by omega⟩)
  .rcases a with a | a
   .exact .inl a
   .exact .inr ⟨by omega,a.2⟩
  .have g:=b.fin.apart j a;rcases c with c | c
   .exact g.1 c
   .omega
  .have g:=b.fin.apart j a;rcases c with c | c
   .exact b.B3 j a c
   .omega
  .rcases a with a | a
   .have:=b.fin.low j a;exact⟨.inl a,by omega⟩
   .exact ⟨.inr (by omega),by omega⟩
  .rcases a with a | a
   .have:=b.B5.low j a;exact⟨.inl a,by omega⟩
   .exact ⟨.inr (by omega),a.2⟩
  .rcases e with e | e
   .rcases d with d | d
    .exact b.Ci j e d
    .have:=b.fin.low j e;omega
   .rcases d with d | d
    .have:=b.B5.low j d;omega
    .omega
  .exact (h.fr.mono (fun j a=>.inl a)).trans (k.fr.mono (fun j a=>.inl (.inr a)))
theorem Both.same (b:lc S O O' R w1 f x m m2) (c:Ext w1 w):Both S O O' R w1 f x m m2 w :=
 ⟨⟨S,O,O',(b.fin.fs.ext c).mono (fun _ h=>h) (fun _ h=>.inl h),(b.B5.fs.ext c).mono (fun _ h=>h) (fun _ h=>.inl h),fun j a=>⟨.inl a,by have:=b.fin.apart j a;have:=c.size;omega,(b.fin.apart j a).1,b.B3 j a⟩,fun j a=>⟨.inl a,by have:=b.fin.low j a;have:=c.size;omega⟩,fun j a=>⟨.inl a,by have:=b.B5.low j a;have:=c.size;omega⟩,b.Ci⟩,Fr.BX c⟩
variable {w2 w3:World}
theorem Both.ext (h:Both S O O' R w1 f x m m2 w2) (b:Ext w2 w3):Both S O O' R w1 f x m m2 w3:=by
 obtain⟨⟨k,i,c,l,n,o,d,e,p⟩,q⟩:=h;have g:=b.size;exact⟨⟨k,i,c,(l.ext b).mono (fun _ h=>h) (fun _ h=>h.fst g),(n.ext b).mono (fun _ h=>h) (fun _ h=>h.fst g),fun j a=>by have:=o j a;exact⟨this.1,by omega,this.2.2⟩,fun j a=>⟨(d j a).1,by have:=(d j a).2;omega⟩,fun j a=>⟨(e j a).1,by have:=(e j a).2;omega⟩,p⟩,q.ext b⟩
theorem DJ.more (h:DJ S O O' R w1 f x m' m2' ef er z1 z2 w2) (a:Ext w2 w3):DJ S O O' R w1 f x m' m2' ef er z1 z2 w3:=by
 cases z1 <;> cases z2
 .exact Ext.trans h a
 .exact ⟨h.1,RefPost.ext h.2 a⟩
 .exact ⟨h.1,FsPost.ext h.2 a⟩
 .exact ⟨h.1,h.2.1,Both.ext h.2.2 a⟩
theorem DJ.start (h:Ext w1 w):DJ S O O' R w1 f x m' m2' ef er none none w:=h
end
end
section
open Go Go.RowKit
theorem vK {a:World} (b:Env a):2<a.heap.size:=by
 obtain⟨m,c⟩:=b.Dd;exact World.block_lt_of_cell? _ _ c
variable [Inhabited bf]
structure Two2 (w0:World) (S O O':Nat->Prop) (w:World) (f x:Value) (m m2:Fs):Prop where
 base:Ext cy w0
 ext:Ext w0 w
 fs:IsFs S O (fun k=>k<w.heap.size) w f m
 ref:IsRef O' (fun k=>k<w.heap.size) w x m2
 lo:∀k,O k->w0.heap.size<=k/\k<w.heap.size
 Cu:∀k,O' k->w0.heap.size<=k/\k<w.heap.size
 Cm:∀k,S k->w0.heap.size<=k/\k<w.heap.size
 Ci:∀k,O k->¬O' k
 B3:∀k,S k->¬O k/\¬O' k
abbrev Two (a:World) (S O O':Nat->Prop) (w:World) (f x:Value) (m:Fs):Prop:=Two2 a S O O' w f x m m
def oM (e:World) (S O O':Nat->Prop) (f x:Value) (m' b:Fs) (w w':World):Prop:=∃d c a:Nat->Prop,Two2 e d c a w' f x m' b/\(∀k,d k\/c k\/a k->(S k\/O k\/O' k)\/w.heap.size<=k)/\Fr (fun k=>O k\/O' k) w w'
def uX (d:World) (S O O':Nat->Prop) (f x:Value) (m c m' a:Fs) (w:World) (e:Ending) (w':World):Prop:=(∃b:Bool,e=.returned (.bool b)/\(m=c->b=true))/\oM d S O O' f x m' a w w'
def xD (a:World) (S O O':Nat->Prop) (f x:Value) (m':Fs) (w:World) (e:Ending) (w':World):Prop:=e=.returned (.bool true)/\oM a S O O' f x m' m' w w'
section
variable {w0 w w1:World} {S O O':Nat->Prop} {f x:Value} {m m2:Fs} {n:Nat}
theorem Two2.Co (h:Two2 w0 S O O' w f x m m2) (b:Env w0):NoG O/\NoG O':=by
 have:=vK b;exact⟨fun k a e=>by have:=h.lo k a;omega,fun k a e=>by have:=h.Cu k a;omega⟩
theorem Two2.pair (h:Two2 w0 S O O' w f x m m2) (e:Env w0) (d:Good n m) (a:Good n m2) (j:n<=60000) (c:Ext w w1):lc S O O' (fun k=>k<w.heap.size) w1 f x m m2:=by
 have l:=d.time;have i:=d.calls;have g:=h.Co e;exact⟨⟨(e.ext h.ext).ext c,h.fs.ext c,d.ok,d.plan,by omega,by omega,g.1,fun k b=>⟨(h.B3 k b).1,by have:=h.Cm k b;have:=c.size;omega⟩,fun k b=>by have:=h.lo k b;have:=c.size;omega,d.Cc,d.Cd⟩,
  ⟨h.ref.ext c,a.ok,a.plan,by have:=a.time;omega,by have:=a.calls;omega,fun k b=>by have:=h.Cu k b;have:=c.size;omega,(h.base.trans h.ext).trans c,fun k b=>by have:=h.Cu k b;have:=h.base.size;omega,a.Cc,a.Cd⟩,h.Ci,fun k b=>(h.B3 k b).2,fun k b=>by have:=h.lo k b;have:=h.base.size;omega⟩
theorem Two2.done {m' y:Fs} {l o:World} {A:Value} (h:Two2 w0 S O O' w f x m m2) (K:Ext w w1) (R:Both S O O' (fun k=>k<w.heap.size) w1 f x m' y l) (F:∀k,A.ownBlock=some k->w.heap.size<=k/\k<w1.heap.size) (t:l.grownBy o A.ownBlock) :
  oM w0 S O O' f x m' y w o:=by
 obtain⟨⟨H,C,i,T,V,B,j,d,q⟩,r⟩:=R;have P:=K.size;have Q:=r.size;have p:=t.size;have z:∀k,k<l.heap.size->((k<w.heap.size)\/w1.heap.size<=k)->o.heap[k]? = l.heap[k]?:=fun k b I=>t.block k b (fun e=>by
  have:=F k e.symm;omega)
 have L:KeepR (Nw (fun k=>k<w.heap.size) w1 l) l o:=⟨p,fun k b I=>z k I.lt (b.imp id (fun h=>h.1))⟩;have N:∀k,C k->k<w.heap.size\/w1.heap.size<=k:=fun k b=>(j k b).1.imp (fun c=>(h.lo k c).2) id
 have D:∀k,i k->k<w.heap.size\/w1.heap.size<=k:=fun k b=>(d k b).1.imp (fun c=>(h.Cu k c).2) id
 have M:∀k,H k->k<w.heap.size\/w1.heap.size<=k:=fun k b=>(B k b).1.imp (fun c=>(h.Cm k c).2) id
 have E:=(T.stay (fun k b u=>z k u (N k b)) (fun k b u=>z k u (M k b)) L).mono (O':=C) (R':=fun k=>k<o.heap.size) (fun k b=>b) (fun k b=>by rcases b with b | b <;> omega);have G:=(V.stay (fun k b u=>z k u (D k b)) L).mono (O':=i) (R':=fun k=>k<o.heap.size) (fun k b=>b) (fun k b=>by rcases b with b | b <;> omega);have g:Fr (fun k=>O k\/O' k) w o:=by
  have a:Fr (fun k=>O k\/O' k) w l:=(Fr.BX K).trans (r.mono (fun k b=>.inl b));refine⟨t.os.trans a.os,t.tape.trans a.tape,t.output.trans a.output,Nat.le_trans a.size p,fun k b U=>?_⟩;exact(z k (by omega) (.inl b)).trans (a.block k b U)
 refine⟨H,C,i,⟨h.base,?_,E,G,fun k b=>?_,fun k b=>?_,fun k b=>?_,q,fun k b=>?_⟩,fun k b=>?_,g⟩
 .exact Ext.Cb h.ext g (fun k b=>b.elim (fun c=>(h.lo k c).1) (fun c=>(h.Cu k c).1))
 .have:=j k b;have J:=h.ext.size;exact⟨by rcases this.1 with c | c;exact(h.lo k c).1;omega,by omega⟩
 .have:=d k b;have J:=h.ext.size;exact⟨by rcases this.1 with c | c;exact(h.Cu k c).1;omega,by omega⟩
 .have:=B k b;have J:=h.ext.size;exact⟨by rcases this.1 with c | c;exact(h.Cm k c).1;omega,by omega⟩
 .exact (B k b).2.2
 .rcases b with b | b | b
  .exact (B k b).1.imp (fun h=>.inl h) (fun h=>by omega)
  .exact (j k b).1.imp (fun h=>.inr (.inl h)) (fun h=>by omega)
  .exact (d k b).1.imp (fun h=>.inr (.inr h)) (fun h=>by omega)
end
theorem vC (v:Value) (l:B8) (w:World) (k:IsBytes w v l) :
  Calls Tryz.prog 29 #[v] w fun e C=>(∃z,e=.returned z/\C.ownsRow w.heap.size 5 1 z l.length (l.map fun x=>.int .u8 x.toNat))/\Ext w C:=by
 have O:=k.len;obtain⟨a,n,rfl,K,M,N,p⟩:=id k;have B:Ext w (w.alloc (.cells #[] 5)):=(Ext.refl w).alloc _;have d:(w.alloc (.cells #[] 5)).ownsRow w.heap.size 5 1 (.slice (some ⟨w.heap.size,0,none⟩) 0 0) 0 []:=⟨rfl,.inr ⟨w.heap.size,0,#[],rfl,Nat.le_refl _,ae _ _,Nat.le_refl _,by unfold maxLen;omega,rfl,rfl⟩⟩
 cases l with
 | nil =>
  have h:Hid ((w.alloc (.cells #[] 5)).ownsRow w.heap.size 5 1 (.slice (some ⟨w.heap.size,0,none⟩) 0 0) ([]:B8).length (([]:B8).map fun x=>Value.int .u8 x.toNat)):=d;clear k p d;go_enter Tryz.func29,Tryz.ntmps29
  cases a with
  | none =>
   go_wp2;go_ret;exact⟨⟨_,rfl,h.out⟩,(Ext.refl _).alloc _⟩
  | some I =>
   go_wp2;go_ret;exact⟨⟨_,rfl,h.out⟩,(Ext.refl _).alloc _⟩
 | cons x t =>
  obtain⟨b,o,rfl,A⟩:=p (by simp);generalize F:x::t=L at *;have g:∀(j:Nat) u,(L.map fun x=>Value.int .u8 x.toNat)[j]? = some u->(w.alloc (.cells #[] 5)).cell? ((⟨b,o,none⟩:Addr).add j)=some u:=by
   intro j u r;have i:(⟨b,o,none⟩:Addr).add j=⟨b,o+j,none⟩:=by unfold Addr.add;split <;> simp_all
   rw[i];exact B.cell (A j u r)
  have E:Hid _:=g;clear A g p k F;go_enter Tryz.func29,Tryz.ntmps29
  go_wp2_with (at_builtin;(refine gL _ _ _ 1 1 Tryz.underlying37 gO rfl (by omega) rfl _ _ rfl w.heap.size _ 0 _ rfl d ⟨b,o,none⟩ L.length n (L.map fun x=>Value.int .u8 x.toNat) rfl (by simp) E.out (by intro u r;obtain⟨_,_,rfl⟩:=List.mem_map.1 r;rfl) (by omega) (by omega) (by simp) ?_);intro z G c q _;have y:Ext w G:=aj B d q;rw[Nat.zero_add,List.nil_append]at c;obtain⟨H,J,rfl,-⟩:=Row.BV c (by omega);have D:Hid _:=c;clear c)
  go_ret;exact⟨⟨_,rfl,D.out⟩,y⟩
theorem aZ {w:World} {g:Nat} {a b c d e i j k:Value} {t:TypeId} {fr:Nat×Nat} (h:w.heap[g]? = some (.cells #[a,b,c,d,e,i,j,k] t fr)) :
  w.cell? ⟨g,0,none⟩=some a/\w.cell? ⟨g,1,none⟩=some b/\w.cell? ⟨g,2,none⟩=some c/\w.cell? ⟨g,3,none⟩=some d/\w.cell? ⟨g,4,none⟩=some e/\w.cell? ⟨g,5,none⟩=some i/\w.cell? ⟨g,6,none⟩=some j/\w.cell? ⟨g,7,none⟩=some k:=by
 simp[World.cell?,h]
def U8sL (xs:List Value):Prop:=∀(i:Nat) u,xs[i]? = some u->∃b:Nat,b<=255/\u=.int .u8 b
theorem U8sL.map (l:B8):U8sL (l.map fun x=>Value.int .u8 x.toNat):=fun i u a=>by
 rw[List.getElem?_map]at a;obtain⟨x,_,rfl⟩:=Option.map_eq_some_iff.1 a;exact⟨x.toNat,by have:=x.toNat_lt;omega,rfl⟩
theorem U8sL.set {xs:List Value} (h:U8sL xs) (k b:Nat) (c:b<=255):U8sL (xs.set k (.int .u8 b)):=fun i u a=>by
 rw[List.getElem?_set]at a;split at a
 .split at a
  .cases a;exact⟨b,c,rfl⟩
  .cases a
 .exact h i u a
end
section
open Go Go.RowKit
variable [Inhabited bf]
theorem rA {w:World} {v:Value} {L:List Ev} (I:ReadO w IsEvD v L) (hn:L.length<=90000000) :
  Calls Tryz.prog 111 #[v] w fun e J=>(∃D,e=.returned D/\(∃d:List (List Value),J.ownsRow w.heap.size 122 7 D L.length d.flatten/\Each IsEvD d L))/\Ext w J:=by
 obtain⟨a,O,rfl,X,Y,Z,G⟩:=jE 7 (fun c x h=>h.length.1) (by omega) I;have K:Hid _:=G;clear G I;go_enter Tryz.func111,Tryz.ntmps111;go_wp2;go_loopw [3,4] (fun v i wr=>∃(k:Nat) (d:List (List Value)),k<=L.length/\i=.int .i64 k/\wr.ownsRow w.heap.size 122 7 v k d.flatten/\Each IsEvD d (L.take k)/\Ext w wr) (fun _ i _=>L.length - (intOf i).toNat)
 case atStart=>exact⟨0,[],Nat.zero_le _,rfl,World.ownsRow_nil _ _ _ _,Each.nil _,Ext.refl _⟩
 case round =>
  obtain⟨k,d,hk,rfl,g,j,h⟩:=hrel;have t:Hid _:=j;clear j
  by_cases C:k<L.length
  .obtain ⟨e,q⟩:∃e,L[k]? = some e:=⟨_,List.getElem?_eq_getElem C⟩;obtain⟨b,o,W,rfl,p,l⟩:=K.out k e q;have u:Hid _:=p;obtain⟨vd,rfl,H,-⟩:=id p;obtain⟨E,F,rfl,-⟩:=id H.bytes;have y:Hid (L.take (k+1)=L.take k++[e]):=by unfold Hid;rw[List.take_add_one,q];rfl
   have N:=h.cell (l 0 _ rfl);have Q:=h.cell (l 1 _ rfl);have R:=h.cell (l 2 _ rfl);have S:=h.cell (l 3 _ rfl);have T:=h.cell (l 4 _ rfl);have U:=h.cell (l 5 _ rfl);have V:=h.cell (l 6 _ rfl);simp only[Nat.add_zero]at N;have P:=h.size;clear p H l q
   go_wp2_with (at_builtin;go_must (refine nH rfl _ _ rfl w.heap.size _ k _ rfl ((g.alloc _).alloc _) (wr.heap.size+1) 1 [.int .i64 e.t,.int .i64 e.kind,.int .i64 e.mode,.int .i64 e.keep,.int .i64 e.BW,S8 e.path,.slice E e.data.length F] rfl rfl (jv _ _ _) (by simp[Value.oneCell']) (by omega) (by simp;omega) ?_;intro D w3 r A _))
   go_roundw
   case rel =>
    refine⟨k+1,d++[[.int .i64 e.t,.int .i64 e.kind,.int .i64 e.mode,.int .i64 e.keep,.int .i64 e.BW,S8 e.path,.slice E e.data.length F]],by omega,by go_num,?_,by rw[y.out];exact Each.snoc t.out u.out,aj ((h.alloc _).alloc _) ((g.alloc _).alloc _) A⟩;rw[List.flatten_append];simpa using r
   case measure=>simp[intOf];omega
  .have B:k=L.length:=by omega
   subst B;have z:=t.out;rw[List.take_length]at z;have n:∃d:List (List Value),wr.ownsRow w.heap.size 122 7 u3 L.length d.flatten/\Each IsEvD d L:=⟨d,g,z⟩;have M:Hid _:=n;clear n g z;go_wp2;go_ret;exact⟨⟨_,rfl,M.out⟩,h⟩
end
end Go.Proofs.YtfabjgfmiaammaaGreatDoor
