/- Contracts of the program's functions and plain laws behind the card. Conditions: as each theorem states. -/
import Derived.Test.YtfabjgfmiaammaaGreatDoorYbo
import Derived.Test.YtfabjgfmiaammaaGreatDoorYbd
import Derived.Test.YtfabjgfmiaammaaGreatDoorYbi
import Derived.Test.YtfabjgfmiaammaaGreatDoorYbf
import Derived.Test.YtfabjgfmiaammaaGreatDoorYbc
import Derived.Test.YtfabjgfmiaammaaGreatDoorYal
import Derived.Test.YtfabjgfmiaammaaGreatDoorYbq
import Derived.Test.YtfabjgfmiaammaaGreatDoorYbn
import Derived.Test.YtfabjgfmiaammaaGreatDoorYbp
import Derived.Test.YtfabjgfmiaammaaGreatDoorYaw
import Derived.Lib.LaidTab
import Derived.Stop.LaidErr
set_option linter.unusedVariables false
set_option linter.unusedSimpArgs false
set_option linter.unusedSectionVars false
set_option maxRecDepth 100000
set_option maxHeartbeats 64000000
namespace Go.Proofs.YtfabjgfmiaammaaGreatDoor
section
open Go Go.RowKit
variable [Inhabited bf]
variable {w:World} {p:Value} {m:Fs}
theorem IsFs.CC {S O R:Nat->Prop} (h:IsFs S O R w p m):IsFs S (fun k=>O k/\¬IsU8 w k) R w p m:=by
 obtain⟨g,o,n,y,x,z,L,i,e,d,u,a,q,r,t⟩:=h;refine⟨g,o,n,y,x,z,L,i,e,d,⟨u,aw d (by kernel_rfl)⟩,⟨a.ne,⟨a.om,a.now.Cj⟩,⟨a.od,a.sure.Cj⟩,a.now,a.sure,a.pend,fun k b=>⟨a.op k b,?_⟩,a.plan,a.ol,a.users,fun k b=>⟨a.ou k b,?_⟩,a.off⟩,q,r,t⟩
 .obtain ⟨j,l,c⟩:=a.pend.typed k b;exact aw c (by kernel_rfl)
 .obtain ⟨j,l,c⟩:=a.users.typed k b;exact aw c (by kernel_rfl)
section
variable [KW:Inhabited cZ] {w0 w w':World} {S O O':Nat->Prop} {f:Value} {gs gc:Nat} {m m':Fs} {n n':Int}
theorem St.CC (h:St w0 S O w f gs gc m n):St w0 S (fun k=>O k/\¬IsU8 w k) w f gs gc m n :=
 ⟨⟨h.one.ext,h.one.fs.CC,fun k a=>h.one.lo k a.1,h.one.Cm,fun k a b=>h.one.B3 k a b.1⟩,h.row,h.B9,h.lo,⟨fun b=>h.out.1 b.1,fun b=>h.out.2.1 b.1,h.out.2.2⟩,fun k o a=>⟨(h.kp k o a).1,fun b=>(h.kp k o a).2.1 b.1,(h.kp k o a).2.2⟩,h.sz⟩
def StPost (w0:World) (S O:Nat->Prop) (f:Value) (gs gc:Nat) (m':Fs) (n':Int) (w w':World):Prop :=
 ∃O':Nat->Prop,St w0 S O' w' f gs gc m' n'/\Fr (fun k=>O k\/k=gs\/k=gc) w w'/\∀k,O' k->O k\/w.heap.size<=k
theorem St.lift (q:∀k,cJ k=none) (y:Env w0) (h:St w0 S O w f gs gc m n) {F:Nat} {args:Array Value} {R:Ending->World->Prop}
  (z:∀(K:Inhabited cZ) (l:Nat->Prop),St (KW:=K) w0 S l w f gs gc m n->Calls Tryz.prog F args w fun e w'=>∃O':Nat->Prop,R e w'/\St (KW:=K) w0 S O' w' f gs gc m' n') :
  Calls Tryz.prog F args w fun e w'=>R e w'/\StPost w0 S O f gs gc m' n' w w':=by
 refine(z (gI w (fun k=>O k/\¬IsU8 w k) gs gc) _ h.CC.Dw).mono ?_;rintro e w' ⟨l,B,i⟩;have A:=h.lt;have D:=vK y;have j:=h.one.ext;have C:=j.size;have t:w.heap.size<=w'.heap.size:=St.low (b:=2) (by omega) ⟨fun a=>by have:=h.one.lo _ a.1;omega,by have:=h.lo;omega,by have:=h.lo;omega⟩ i;obtain⟨o,d⟩:=St.Dr q i;refine⟨B,l,d,⟨d.one.ext.os.trans j.os.symm,d.one.ext.tape.trans j.tape.symm,d.one.ext.output.trans j.output.symm,t,fun k c g=>?_⟩,fun k c=>?_⟩
 .rcases g with g | u
  .exact (o k c (fun a=>g (.inl a.1)) (fun e=>g (.inr (.inl e))) (fun e=>g (.inr (.inr e)))).1
  .exact (o k c (fun a=>a.2 u) (fun e=>by subst e;exact aw h.row (by kernel_rfl) u) (fun e=>by subst e;exact aw h.B9 (by kernel_rfl) u)).1
 .by_cases r:k<w.heap.size
  .by_cases a:O k
   .exact .inl a
   .exact absurd c (o k r (fun x=>a x.1) (fun e=>d.out.1 (e▸c)) (fun e=>d.out.2.1 (e▸c))).2
  .exact .inr (by omega)
variable {w1:World}
theorem StPost.ext (h:StPost w0 S O f gs gc m' n' w w1) (a:Ext w1 w'):StPost w0 S O f gs gc m' n' w w':=by
 obtain⟨b,e,c,d⟩:=h;exact⟨b,e.more a,c.ext a,d⟩
theorem StPost.row {k:Nat} {o:Obj} (h:StPost w0 S O f gs gc m' n' w w1) (g:w.heap[k]? = some o) (d:¬O k) (b:k≠gs) (c:k≠gc):w1.heap[k]? = some o:=by
 obtain⟨i,l,e,j⟩:=h;exact e.row g (fun a=>by rcases a with a | a | a;exact d a;exact b a;exact c a)
theorem StPost.fresh {q x:World} {g:Nat} (o:∀k,cJ k=none) (j:St w0 S O w f gs gc m n) (u:Ext w q) (h:StPost w0 S O f gs gc m' n' q w1) (b:w1.grownBy x (some g)) (I:w.heap.size<=g) (C:g<q.heap.size) (G:¬IsU8 w1 g):StPost w0 S O f gs gc m' n' w x:=by
 obtain⟨r,E,A,t⟩:=h;have B:=j.lt;have F:=j.one.ext.size;have y:¬O g:=fun i=>by have:=(j.one.lo g i).2;omega
 have z:¬S g:=fun i=>by have:=(j.one.Cm g i).2;omega
 have l:¬r g:=fun i=>by
  rcases t g i with c | c
  .exact y c
  .omega
 refine⟨r,E.but b (by omega) l z G (by omega) (by omega) (o g),?_,fun k d=>?_⟩
 .have a:Fr (fun k=>O k\/k=gs\/k=gc) w w1:=(Fr.BX u).trans (A.mono (fun k d=>.inl d));have H:=a.size;exact⟨b.os.trans a.os,b.tape.trans a.tape,b.output.trans a.output,Nat.le_trans a.size b.size,fun k d D=>(b.block k (by omega) (fun e=>by cases e;omega)).trans (a.block k d D)⟩
 .have H:=u.size;rcases t k d with c | c
  .exact .inl c
  .exact .inr (by omega)
theorem St.other {Q:Nat->Prop} (c:∀k,cJ k=none) (h:St w0 S O w f gs gc m n) (b:Fr Q w w') (j:∀k,Q k->w0.heap.size<=k) (g:∀k,O k->¬Q k) (i:∀k,S k->¬Q k) (d:¬Q gs) (e:¬Q gc):St w0 S O w' f gs gc m n:=by
 have l:=b.size;exact⟨⟨Ext.Cb h.one.ext b j,(h.one.fs.other b g i).mono (fun _ h=>h) (fun k a=>Nat.lt_of_lt_of_le a l),fun k a=>by have:=h.one.lo k a;omega,fun k a=>by have:=h.one.Cm k a;omega,h.one.B3⟩,b.row h.row d,b.row h.B9 e,h.lo,h.out,fun k o a=>(by rw[c]at a;cases a),ir c _⟩
end
variable {w0:World} {x:Value} {gy:Nat} {n:Int}
theorem Sr.other {w':World} {O Q:Nat->Prop} (h:Sr w0 O w x gy m n) (a:Fr Q w w') (e:∀k,Q k->w0.heap.size<=k) (d:∀k,O k->¬Q k) (c:¬Q gy):Sr w0 O w' x gy m n:=by
 have g:=a.size;exact⟨h.base,Ext.Cb h.ext a e,(h.ref.other a d).mono (fun _ h=>h) (fun k b=>Nat.lt_of_lt_of_le b g),fun k b=>by have:=h.lo k b;omega,a.row h.row c,h.gl,h.out⟩
def lX (w:World) (k:Nat):Prop:=∃a t b,w.heap[k]? = some (.cells a t b)/\(t=130\/t=9)
variable {k:Nat}
theorem iu {cs:Array Value} {t:TypeId} {fr:Nat×Nat} (h:w.heap[k]? = some (.cells cs t fr)) (g:t≠130) (i:t≠9):¬lX w k:=by
 rintro⟨c,l,d,b,a⟩;rw[h]at b;have e:t=l:=by
  have j:=Option.some.inj b;injection j
 rcases a with a | a
 .exact g (e.trans a)
 .exact i (e.trans a)
theorem IsRef.CC {O R:Nat->Prop} (h:IsRef O R w p m):IsRef (fun k=>O k/\¬lX w k) R w p m:=by
 obtain⟨g,n,q,o,l,r,e,i,j,a⟩:=h;refine⟨g,n,q,o,l,r,e,i,⟨j,iu i (by decide) (by decide)⟩,⟨a.now,fun k b=>⟨a.on k b,?_⟩,a.sure,fun k b=>⟨a.os k b,?_⟩,a.pend,fun k b=>⟨a.op k b,?_⟩,a.plan,fun k b=>⟨a.ol k b,?_⟩,a.users,fun k b=>⟨a.ou k b,?_⟩,a.off⟩⟩
 .obtain ⟨d,f,c⟩:=a.now.typed k b;exact iu c (by decide) (by decide)
 .obtain ⟨d,f,c⟩:=a.sure.typed k b;exact iu c (by decide) (by decide)
 .obtain ⟨d,f,c⟩:=a.pend.typed k b;exact iu c (by decide) (by decide)
 .obtain ⟨d,f,c⟩:=a.plan.typed k b;exact iu c (by decide) (by decide)
 .obtain ⟨d,f,c⟩:=a.users.typed k b;exact iu c (by decide) (by decide)
theorem Sr.CC {O:Nat->Prop} (h:Sr w0 O w x gy m n):Sr w0 (fun k=>O k/\¬lX w k) w x gy m n :=
 ⟨h.base,h.ext,h.ref.CC,fun k a=>h.lo k a.1,h.row,h.gl,fun b=>h.out b.1⟩
variable {w1:World} {m':Fs} {n':Int} {o:Obj}
theorem SrPost.row {O:Nat->Prop} (h:SrPost w0 O x gy m' n' w w1) (e:w.heap[k]? = some o) (c:¬O k) (b:k≠gy):w1.heap[k]? = some o:=by
 obtain⟨g,j,d,i⟩:=h;exact d.row e (fun a=>by rcases a with a | a;exact c a;exact b a)
theorem SrPost.fresh {q y:World} {O:Nat->Prop} {g:Nat} (i:Sr w0 O w x gy m n) (u:Ext w q) (h:SrPost w0 O x gy m' n' q w1) (b:w1.grownBy y (some g)) (I:w.heap.size<=g) (C:g<q.heap.size) (G:¬IsU8 w1 g):SrPost w0 O x gy m' n' w y:=by
 obtain⟨r,E,A,t⟩:=h;have B:=i.lt;have F:=i.ext.size;have z:¬O g:=fun l=>by have:=(i.lo g l).2;omega
 have j:¬r g:=fun l=>by
  rcases t g l with c | c
  .exact z c
  .omega
 refine⟨r,E.but b (by omega) j G (by omega),?_,fun k d=>?_⟩
 .have a:Fr (fun k=>O k\/k=gy) w w1:=(Fr.BX u).trans (A.mono (fun k d=>.inl d));have H:=a.size;exact⟨b.os.trans a.os,b.tape.trans a.tape,b.output.trans a.output,Nat.le_trans a.size b.size,fun k d D=>(b.block k (by omega) (fun e=>by cases e;omega)).trans (a.block k d D)⟩
 .have H:=u.size;rcases t k d with c | c
  .exact .inl c
  .exact .inr (by omega)
section
variable [KW:Inhabited cZ]
structure TwS (w0:World) (K:List (Nat×Obj)) (S O O':Nat->Prop) (w:World) (f x:Value) (gs gc gy:Nat) (m m2:Fs) (n n2:Int):Prop where
 st:St w0 S O w f gs gc m n
 sr:Sr w0 O' w x gy m2 n2
 Ci:∀k,O k->¬O' k
 B3:∀k,S k->¬O' k
 out:¬O gy/\¬S gy/\¬O' gs/\¬O' gc/\gy≠gs/\gy≠gc
 keep:∀k o,(k,o)∈K->w.heap[k]? = some o/\¬O k/\¬O' k/\k≠gs/\k≠gc/\k≠gy
def Tw (w0:World) (K:List (Nat×Obj)) (w:World) (f x:Value) (c b gy:Nat) (m d:Fs) (n e:Int):Prop:=∃S O a:Nat->Prop,TwS w0 K S O a w f x c b gy m d n e
variable {w0 w w':World} {K:List (Nat×Obj)} {S O O':Nat->Prop} {f x:Value} {gs gc gy:Nat} {m m2 m':Fs} {n n2 n':Int}
theorem TwS.C' (B:∀k,cJ k=none) (h:TwS w0 K S O O' w f x gs gc gy m m2 n n2) (F:StPost w0 S O f gs gc m' n' w w'):Tw w0 K w' f x gs gc gy m' m2 n' n2/\KeepB w w':=by
 obtain⟨z,G,d,e⟩:=F;have C:=h.st.lt;have E:=h.sr.lt;obtain⟨g,A,i,j,l,q⟩:=h.out;refine⟨⟨S,z,O',G,h.sr.other d (fun k b=>?_) (fun k b a=>?_) (fun a=>?_),fun k b a=>?_,h.B3,⟨fun a=>?_,A,i,j,l,q⟩,fun k o b=>?_⟩,d.keep⟩
 .rcases b with b | rfl | rfl
  .exact (h.st.one.lo k b).1
  .exact h.st.lo.1
  .exact h.st.lo.2.1
 .rcases a with a | rfl | rfl
  .exact h.Ci k a b
  .exact i b
  .exact j b
 .rcases a with a | rfl | rfl
  .exact g a
  .exact l rfl
  .exact q rfl
 .rcases e k b with c | c
  .exact h.Ci k c a
  .have:=(h.sr.lo k a).2;omega
 .rcases e gy a with c | c
  .exact g c
  .omega
 .obtain ⟨r,t,H,u,y,I⟩:=h.keep k o b;have D:=(Array.getElem?_eq_some_iff.1 r).1;refine⟨d.row r (fun a=>?_),fun a=>?_,H,u,y,I⟩
  .rcases a with a | a | a
   .exact t a
   .exact u a
   .exact y a
  .rcases e k a with c | c
   .exact t c
   .omega
theorem TwS.Dz (g:∀k,cJ k=none) (h:TwS w0 K S O O' w f x gs gc gy m m2 n n2) (E:SrPost w0 O' x gy m' n' w w'):Tw w0 K w' f x gs gc gy m m' n n'/\KeepB w w'/\Fr (fun k=>O' k\/k=gy) w w':=by
 obtain⟨A,F,e,d⟩:=E;have B:=h.st.lt;have D:=h.sr.lt;obtain⟨i,j,l,q,r,t⟩:=h.out;refine⟨⟨S,O,A,h.st.other g e (fun k b=>?_) (fun k b a=>?_) (fun k b a=>?_) (fun a=>?_) (fun a=>?_),F,fun k b a=>?_,fun k b a=>?_,⟨i,j,fun a=>?_,fun a=>?_,r,t⟩,fun k o b=>?_⟩,e.keep,e⟩
 .rcases b with b | rfl
  .exact (h.sr.lo k b).1
  .exact h.sr.gl
 .rcases a with a | rfl
  .exact h.Ci k b a
  .exact i b
 .rcases a with a | rfl
  .exact h.B3 k b a
  .exact j b
 .rcases a with a | rfl
  .exact l a
  .exact r rfl
 .rcases a with a | rfl
  .exact q a
  .exact t rfl
 .rcases d k a with c | c
  .exact h.Ci k b c
  .have:=(h.st.one.lo k b).2;omega
 .rcases d k a with c | c
  .exact h.B3 k b c
  .have:=(h.st.one.Cm k b).2;omega
 .rcases d gs a with c | c
  .exact l c
  .omega
 .rcases d gc a with c | c
  .exact q c
  .omega
 .obtain ⟨u,G,y,H,I,z⟩:=h.keep k o b;have C:=(Array.getElem?_eq_some_iff.1 u).1;refine⟨e.row u (fun a=>?_),G,fun a=>?_,H,I,z⟩
  .rcases a with a | a
   .exact y a
   .exact z a
  .rcases d k a with c | c
   .exact y c
   .omega
theorem Tw.more (h:Tw w0 K w f x gs gc gy m m2 n n2) (a:Ext w w'):Tw w0 K w' f x gs gc gy m m2 n n2:=by
 obtain⟨S,O,O',h⟩:=h;exact⟨S,O,O',h.st.more a,h.sr.more a,h.Ci,h.B3,h.out,fun k o b=>⟨Ext.row a (h.keep k o b).1,(h.keep k o b).2⟩⟩
theorem Tw.new (h:Tw w0 K w f x gs gc gy m m2 n n2) (c:Ext w w') (l:w.heap.size<=k) (e:w'.heap[k]? = some o):Tw w0 ((k,o)::K) w' f x gs gc gy m m2 n n2:=by
 obtain⟨S,O,O',h⟩:=h;have g:=h.st.lt;have i:=h.sr.lt;refine⟨S,O,O',h.st.more c,h.sr.more c,h.Ci,h.B3,h.out,fun j d a=>?_⟩;rcases List.mem_cons.1 a with a | a
 .cases a;exact⟨e,fun b=>by have:=(h.st.one.lo k b).2;omega,fun b=>by have:=(h.sr.lo k b).2;omega,by omega,by omega,by omega⟩
 .exact ⟨Ext.row c (h.keep j d a).1,(h.keep j d a).2⟩
theorem Tw.row (h:Tw w0 ((k,o)::K) w f x gs gc gy m m2 n n2):w.heap[k]? = some o:=by
 obtain⟨S,O,O',h⟩:=h;exact(h.keep k o (by simp)).1
theorem Tw.drop {e:Nat×Obj} (h:Tw w0 (e::K) w f x gs gc gy m m2 n n2):Tw w0 K w f x gs gc gy m m2 n n2:=by
 obtain⟨S,O,O',h⟩:=h;exact⟨S,O,O',h.st,h.sr,h.Ci,h.B3,h.out,fun k o a=>h.keep k o (List.mem_cons_of_mem _ a)⟩
theorem Tw.ext (h:Tw w0 K w f x gs gc gy m m2 n n2):Ext w0 w:=by
 obtain⟨S,O,O',h⟩:=h;exact h.st.one.ext
variable {F:Nat} {args:Array Value}
theorem Tw.prog (a:∀k,cJ k=none) (c:Env w0) (h:Tw w0 K w f x gs gc gy m m2 n n2) {R:Ending->World->Prop}
  (d:∀(K:Inhabited cZ) (S b:Nat->Prop),St (KW:=K) w0 S b w f gs gc m n->Calls Tryz.prog F args w fun e w'=>∃O':Nat->Prop,R e w'/\St (KW:=K) w0 S O' w' f gs gc m' n') :
  Calls Tryz.prog F args w fun e w'=>R e w'/\Tw w0 K w' f x gs gc gy m' m2 n' n2/\KeepB w w':=by
 obtain⟨S,O,O',h⟩:=h;refine(St.lift a c h.st (fun K b j=>d K S b j)).mono ?_;rintro e w' ⟨i,g⟩;exact⟨i,h.C' a g⟩
theorem Tw.doc (d:∀k,cJ k=none) (h:Tw w0 K w f x gs gc gy m m2 n n2) {R:Ending->World->Prop}
  (r:∀O':Nat->Prop,Sr w0 O' w x gy m2 n2->Calls Tryz.prog F args w fun e w'=>R e w'/\SrPost w0 O' x gy m' n' w w') :
  Calls Tryz.prog F args w fun e w'=>R e w'/\Tw w0 K w' f x gs gc gy m m' n n'/\KeepB w w'/\Keep 130 w w'/\Keep 9 w w':=by
 obtain⟨S,O,O',h⟩:=h;have g:TwS w0 K S O (fun k=>O' k/\¬lX w k) w f x gs gc gy m m2 n n2 :=
  ⟨h.st,h.sr.CC,fun k b a=>h.Ci k b a.1,fun k b a=>h.B3 k b a.1,⟨h.out.1,h.out.2.1,fun a=>h.out.2.2.1 a.1,fun a=>h.out.2.2.2.1 a.1,h.out.2.2.2.2⟩,fun k o b=>⟨(h.keep k o b).1,(h.keep k o b).2.1,fun a=>(h.keep k o b).2.2.1 a.1,(h.keep k o b).2.2.2⟩⟩
 refine(r _ g.sr).mono ?_;rintro e w' ⟨u,t⟩;obtain⟨l,q,c⟩:=g.Dz d t;refine⟨u,l,q,⟨c.size,fun k i j b=>c.row b (fun a=>?_)⟩,⟨c.size,fun k i j b=>c.row b (fun a=>?_)⟩⟩
 .rcases a with a | rfl
  .exact a.2 ⟨_,_,_,b,.inl rfl⟩
  .exact iu h.sr.row (by decide) (by decide) ⟨_,_,_,b,.inl rfl⟩
 .rcases a with a | rfl
  .exact a.2 ⟨_,_,_,b,.inr rfl⟩
  .exact iu h.sr.row (by decide) (by decide) ⟨_,_,_,b,.inr rfl⟩
end
end
section
open Go Go.RowKit
variable [Inhabited bf] [KW:Inhabited cZ]
variable {v:Value}
theorem IsObT.kept {w w':World} {o:Ob} (h:IsObT w v o) (d:KeepB w w') (e:Keep 130 w w') (g:Keep 9 w w'):IsOb w' v o:=by
 obtain⟨l,n,p,rfl,a,b,c,i,j,k⟩:=h;exact⟨l,n,p,rfl,Row.B' a i d,Row.keep b j e,Row.keep c k g⟩
variable {k:Nat}
theorem qP {m:Fs} (h:Good k m) (id:B8):(bj m id).2.1.length<=10000000:=by
 have a:=jl (p:=ai id) h.ok h.plan;unfold bj;split
 .exact Nat.zero_le _
 .split
  .exact Nat.zero_le _
  .split
   .exact Nat.zero_le _
   .dsimp only;omega
theorem uC (m:Fs):(aK m).1=(av m).1:=by
 unfold aK;split <;> exact nd ..
structure twJ (w0:World) (K:List (Nat×Obj)) (f x:Value) (gs gc gy:Nat) (m m1:Fs) (n n1:Int) (U:Value) (z3 z7:Option Value) (w:World):Prop where
 tw:Tw w0 K w f x gs gc gy (if z3=none then m else m1) (if z7=none then m else m1) (if z3=none then n else n1) (if z7=none then n else n1)
 v3:∀u,z3=some u->u=U
 v7:∀u,z7=some u->u=U
section
variable {w0 w:World} {K:List (Nat×Obj)} {f x:Value} {gs gc gy:Nat} {m m1:Fs} {n n1:Int} {U:Value} {z3 z7:Option Value}
theorem twJ.start (h:Tw w0 K w f x gs gc gy m m n n):twJ w0 K f x gs gc gy m m1 n n1 U none none w:=⟨by simpa using h,fun u a=>(by cases a),fun u a=>(by cases a)⟩
theorem twJ.row {o:Obj} (h:twJ w0 ((k,o)::K) f x gs gc gy m m1 n n1 U z3 z7 w):w.heap[k]? = some o:=h.tw.row
variable {u:Value}
theorem twJ.Dg (h:twJ w0 K f x gs gc gy m m1 n n1 U z3 z7 w) (a:z3=some u):u=U:=h.v3 u a
theorem twJ.Dh (h:twJ w0 K f x gs gc gy m m1 n n1 U z3 z7 w) (a:z7=some u):u=U:=h.v7 u a
theorem twJ.both (h:twJ w0 K f x gs gc gy m m1 n n1 U (some u) (some v) w):Tw w0 K w f x gs gc gy m1 m1 n1 n1:=by
 have a:=h.tw;rw[if_neg (by simp),if_neg (by simp),if_neg (by simp),if_neg (by simp)]at a;exact a
variable {F:Nat} {args:Array Value}
theorem twJ.prog (h:twJ w0 K f x gs gc gy m m1 n n1 U none z7 w) (c:∀k,cJ k=none) (j:Env w0)
  (l:∀(KW:Inhabited cZ) (S b:Nat->Prop) (g:World),St (KW:=KW) w0 S b g f gs gc m n->Calls Tryz.prog F args g fun e a=>∃i:Nat->Prop,e=.returned U/\St (KW:=KW) w0 S i a f gs gc m1 n1) :
  Calls Tryz.prog F args w fun e a=>e=.returned U/\twJ w0 K f x gs gc gy m m1 n n1 U (some U) z7 a:=by
 have d:=h.tw;rw[if_pos (show(none:Option Value)=none from rfl),if_pos (show(none:Option Value)=none from rfl)]at d;refine(Tw.prog c j d (fun KW S b p=>l KW S b w p)).mono ?_;rintro e a ⟨o,q,-⟩;exact⟨o,by rw[if_neg (show ¬some U=none by simp),if_neg (show ¬some U=none by simp)];exact q,fun u r=>(by cases r;rfl),h.v7⟩
theorem twJ.doc (h:twJ w0 K f x gs gc gy m m1 n n1 U z3 none w) (b:∀k,cJ k=none)
  (g:∀(O':Nat->Prop) (c:World),Sr w0 O' c x gy m n->Calls Tryz.prog F args c fun e a=>e=.returned U/\SrPost w0 O' x gy m1 n1 c a) :
  Calls Tryz.prog F args w fun e a=>e=.returned U/\twJ w0 K f x gs gc gy m m1 n n1 U z3 (some U) a:=by
 have d:=h.tw;rw[if_pos (show(none:Option Value)=none from rfl),if_pos (show(none:Option Value)=none from rfl)]at d;refine(Tw.doc b d (fun O' j=>g O' w j)).mono ?_;rintro e a ⟨i,l,-⟩;exact⟨i,by rw[if_neg (show ¬some U=none by simp),if_neg (show ¬some U=none by simp)];exact l,h.v3,fun u o=>(by cases o;rfl)⟩
theorem Tw.does (j:∀k,cJ k=none) {cs:List Value} {g:Opn} (h:Tw w0 K w f x gs gc gy m m n n) (F:Env w0) (H:Good k m) (d:k<=60000) (b:IsOpn w0 cs g) (y:jP g) :
  Calls Tryz.prog 46 #[f,x,.agg cs.toArray] w fun e z=>e=.returned (.bool true)/\Tw w0 [] z f x gs gc gy (fL m g) (fL m g) n n:=by
 obtain⟨S,O,A,h⟩:=h;obtain⟨l,t,p,q,D,E⟩:=h.out;have L:=h.st.lt;have I:=h.sr.lt;have J:Two w0 S O A w f x m:=⟨h.sr.base,h.st.one.ext,h.st.one.fs,h.sr.ref,h.st.one.lo,h.sr.lo,h.st.one.Cm,h.Ci,fun k d=>⟨h.st.one.B3 k d,h.B3 k d⟩⟩;refine(uq J F H d b y).mono ?_;rintro e z ⟨G,C,B,r,i,c,u⟩;refine⟨G,C,B,r,⟨⟨i.ext,i.fs,i.lo,i.Cm,fun k d=>(i.B3 k d).1⟩,u.row h.st.row (fun b=>by rcases b with b | b;exact h.st.out.1 b;exact p b),u.row h.st.B9 (fun b=>by rcases b with b | b;exact h.st.out.2.1 b;exact q b),h.st.lo,⟨fun b=>?_,fun b=>?_,fun b=>?_,fun b=>?_⟩,fun k o d=>(by rw[j]at d;cases d),ir j _⟩,⟨i.base,i.ext,i.ref,i.Cu,u.row h.sr.row (fun b=>by rcases b with b | b;exact l b;exact h.sr.out b),h.sr.gl,fun b=>?_⟩,i.Ci,fun k d=>(i.B3 k d).2,⟨fun b=>?_,fun b=>?_,fun b=>?_,fun b=>?_,D,E⟩,fun k o d=>(by cases d)⟩
 .rcases c gs (.inr (.inl b))with(a | a | a) | a
  .exact h.st.out.2.2.1 a
  .exact h.st.out.1 a
  .exact p a
  .omega
 .rcases c gc (.inr (.inl b))with(a | a | a) | a
  .exact h.st.out.2.2.2 a
  .exact h.st.out.2.1 a
  .exact q a
  .omega
 .rcases c gs (.inl b)with(a | a | a) | a
  .exact h.st.out.2.2.1 a
  .exact h.st.out.1 a
  .exact p a
  .omega
 .rcases c gc (.inl b)with(a | a | a) | a
  .exact h.st.out.2.2.2 a
  .exact h.st.out.2.1 a
  .exact q a
  .omega
 .rcases c gy (.inr (.inr b))with(a | a | a) | a
  .exact t a
  .exact l a
  .exact h.sr.out a
  .omega
 .rcases c gy (.inr (.inl b))with(a | a | a) | a
  .exact t a
  .exact l a
  .exact h.sr.out a
  .omega
 .rcases c gy (.inl b)with(a | a | a) | a
  .exact t a
  .exact l a
  .exact h.sr.out a
  .omega
 .rcases c gs (.inr (.inr b))with(a | a | a) | a
  .exact h.st.out.2.2.1 a
  .exact h.st.out.1 a
  .exact p a
  .omega
 .rcases c gc (.inr (.inr b))with(a | a | a) | a
  .exact h.st.out.2.2.2 a
  .exact h.st.out.2.1 a
  .exact q a
  .omega
end
end
section
open Go Go.RowKit
variable [Inhabited bf]
variable {w w1 w2:World}
theorem Two2.fresh {p q:Value} {a:Int} (h:IsFs (fun _=>False) (Nu w w1) (fun _=>False) w1 p (fU a)) (e:Ext w w1) (d:IsRef (Nu w1 w2) (fun _=>False) w2 q (fU a)) (c:Ext w1 w2) (i:Ext cy w):Two w (fun _=>False) (Nu w w1) (Nu w1 w2) w2 p q (fU a):=by
 have l:=e.size;have j:=c.size;exact⟨i,e.trans c,(h.ext c).mono (fun _ h=>h) (fun _ h=>h.elim),d.mono (fun _ h=>h) (fun _ h=>h.elim),fun k b=>by have:=b.1;have:=b.2;omega,fun k b=>by have:=b.1;have:=b.2;omega,fun _ b=>b.elim,fun k g d=>by have:=g.2;have:=d.1;omega,fun _ b=>b.elim⟩
variable {w0:World} {f x:Value} {m:Fs}
theorem Two2.later {w':World} {S O O':Nat->Prop} (h:Two w0 S O O' w f x m) (b:Ext w w'):Two w0 S O O' w' f x m:=by
 have c:=b.size;exact⟨h.base,h.ext.trans b,(h.fs.ext b).mono (fun _ h=>h) (fun k a=>Nat.lt_of_lt_of_le a c),(h.ref.ext b).mono (fun _ h=>h) (fun k a=>Nat.lt_of_lt_of_le a c),fun k a=>by have:=h.lo k a;omega,fun k a=>by have:=h.Cu k a;omega,fun k a=>by have:=h.Cm k a;omega,h.Ci,h.B3⟩
theorem Two2.DA {S O O':Nat->Prop} (h:Two w0 S O O' w f x m):One w0 S O w f m:=⟨h.ext,h.fs,h.lo,h.Cm,fun k a=>(h.B3 k a).1⟩
variable [KW:Inhabited cZ]
theorem AK {S O O':Nat->Prop} {e d b:Nat} (h:Two w0 S O O' w f x m) (j:St w0 S O w1 f e d m 0) (l:Ext w w1) (r:w.heap.size<=e) (t:w.heap.size<=d) (c:Ext w1 w2) (y:w1.heap.size<=b) (n:w2.heap[b]? = some (.cells #[x,.int .i64 0] 36 (0,0))):Tw w0 [] w2 f x e d b m m 0 0:=by
 have u:=j.lt;have p:=h.ext.size;have q:=l.size;have g:=(h.later l).later c;refine⟨S,O,O',j.more c,⟨g.base,g.ext,g.ref,g.Cu,n,by omega,fun a=>by have:=(h.Cu b a).2;omega⟩,h.Ci,fun k i=>(h.B3 k i).2,⟨fun a=>by have:=(h.lo b a).2;omega,fun a=>by have:=(h.Cm b a).2;omega,fun a=>by have:=(h.Cu e a).2;omega,fun a=>by have:=(h.Cu d a).2;omega,by omega,by omega⟩,fun k o i=>(by cases i)⟩
section
variable {A B:World->Prop} {z26 z27 z28 z29 z30 z38 z39:Option Value} {w w':World} {u:Value}
end
end
section
open Go Go.RowKit
variable [Inhabited bf]
def gB (m:Fs) (id:B8):Ob×Int:=if(bj m id).2.2≠0 then(ob0,(bj m id).2.2)else dF (bj m id).2.1
theorem wF {o:Ob} (h:bP o=true):o.items.length<=256:=by
 unfold bP at h;split at h
 .simp only[Bool.and_eq_true,beq_iff_eq]at h;omega
 .split at h
  .unfold cI at h;simp only[Bool.and_eq_true,decide_eq_true_eq]at h;exact h.2.1.2.2
  .split at h
   .simp only[Bool.and_eq_true,beq_iff_eq]at h;omega
   .cases h
theorem sn (m:Fs) (id:B8):(gB m id).1.items.length<=1000000:=by
 unfold gB;split
 .exact Nat.zero_le _
 .unfold dF;split
  .exact Nat.zero_le _
  .split
   .rename_i h;exact Nat.le_trans (wF h.1) (by decide)
   .exact Nat.zero_le _
variable {w0 w:World} {m:Fs} {n:Int} {k:Nat}
theorem sj [KW:Inhabited cZ] (z:∀k,cJ k=none) {S O:Nat->Prop} {f:Value} {x I:Nat} (id:B8) (h:St w0 S O w f x I m n) (hE:Env w0) (hS:EnvS w0) (hg:Good k m) (hk:k<=79800) (aa:0<=n) (ad:n<=100000) (hid:id.length<=10000000) (y:(bj m id).2.1.length<=10000000) :
  Calls Tryz.prog 37 #[.pointer (some ⟨x,0,none⟩),S8 id] w fun e P=>(∃u,e=.returned (.tuple #[u,.int .i64 (gB m id).2])/\IsObT P u (gB m id).1)/\StPost w0 S O f x I (bj m id).1 (ck n id) w P:=by
 have H:Hid (St w0 S O w f x I m n):=h;obtain⟨l,d⟩:∃l,l=w.alloc (.cells (obC 0 (.slice none 0 0) (.slice none 0 0) [] (.slice none 0 0) 0 0 []) 41):=⟨_,rfl⟩;have B:Ext w l:=by rw[d];exact(Ext.refl _).alloc _
 have M:l.heap[w.heap.size]? = some (.cells (obC 0 (.slice none 0 0) (.slice none 0 0) [] (.slice none 0 0) 0 0 []) 41 (0,0)):=by rw[d];exact ae _ _
 have N:l.heap.size=w.heap.size+1:=by rw[d];exact dO _ _
 have V:Hid _:=St.lift z hE (h.more B) (F:=35) (args:=#[.pointer (some ⟨x,0,none⟩),S8 id]) (R:=fun e P=>∃v,e=.returned (.tuple #[v,.int .i64 (bj m id).2.2])/\IsBytes P v (bj m id).2.1) (m':=(bj m id).1) (n':=ck n id) (fun K O1 hs=>(jr (KW:=K) id hs hE hS hg hk aa ad hid).mono (by
  rintro e P ⟨v,O',n',he,T,-,hn,au⟩;subst hn;exact⟨O',⟨v,he,T.1⟩,au⟩))
 obtain⟨⟨m1,b,C⟩,Q⟩:∃q,bj m id=q:=⟨_,rfl⟩;obtain⟨⟨a,eo⟩,L⟩:∃q,gB m id=q:=⟨_,rfl⟩;have HO:Hid ((a,eo)=if C≠0 then(ob0,C)else dF b):=by
  unfold Hid;rw[<-L];unfold gB;rw[Q]
 rw[Q]at V y;rw[L,show(bj m id).1=m1 by rw[Q]];have G:Hid (Ext w l):=B;have D:Hid _:=M;have W:Hid (b.length<=10000000):=y;obtain⟨o,j⟩:∃g,w.heap.size=g:=⟨_,rfl⟩;have p:Hid (w.heap.size=o):=j;have E:Hid (l.heap.size=o+1):=by rw[<-j];exact N
 rw[j]at D;unfold obC at d;clear h hE hS hg B M N Q L y;go_enter Tryz.func37,Tryz.ntmps37;go_upto_region 1 with fail;rw[<-d];clear d j;go_wp2_with fail;go_at_call 35;refine Calls.mono V.out ?_;rintro ex U ⟨⟨v,rfl,T⟩,hp⟩;have X:Hid (StPost w0 S O f x I m1 (ck n id) l U):=hp;have HV:Hid (IsBytes U v b):=T;have r:Hid (U.heap[o]? = some (.cells (obC 0 (.slice none 0 0) (.slice none 0 0) [] (.slice none 0 0) 0 0 []) 41 (0,0))):=by
  have hl:=H.out.lt;have hg:=p.out;exact hp.row D.out (fun L=>by have:=(H.out.one.lo o L).2;omega) (by omega) (by omega)
 clear hp T V
 try dsimp only
 by_cases c:C=0
 .have J:(C != 0)=false:=by simpa using c
  have HD:Hid (dF b=(a,eo)):=by
   unfold Hid;rw[HO.out,if_neg (by simpa using c)]
  clear c;go_wp2_with fail;go_at_call 88;refine(yB v b U HV.out W.out).mono ?_;rw[HD.out];rintro ex w2 ⟨⟨u,rfl,hu⟩,A⟩;have HU:Hid (IsObT w2 u a):=hu;have Y:Hid (StPost w0 S O f x I m1 (ck n id) l w2):=X.out.ext A;have Z:Hid _:=Ext.row A r.out;obtain⟨vd,vi,vp,rfl,d1,d2,d3,-⟩:=hu;obtain⟨da,dc,rfl,-⟩:=_root_.id d1;obtain⟨ia,ic,rfl,-⟩:=_root_.id d2;obtain⟨pa,pc,rfl,-⟩:=_root_.id d3;clear A X r HV d1 d2 d3;have i:=Z.out;unfold obV
  go_wp2_with (refine wpList_store_row rfl 41 (.tmp 4) (.tmp 20) rfl o (obC a.kind (.slice da a.data.length dc) (.slice ia a.items.length ic) a.tree (.slice pa a.parents.length pc) a.BU a.BS a.msg) rfl rfl 41 _ i bY rfl (by simp[Value.oneCell']) ?_)
  refine bodyPost_ret (aC rfl _ _ o 41 (obC a.kind (.slice da a.data.length dc) (.slice ia a.items.length ic) a.tree (.slice pa a.parents.length pc) a.BU a.BS a.msg) (0,0) _ rfl (setRow_heap _ _ _ _ _ _ i) Tryz.underlying41 rfl bY) rfl ?_;exact⟨⟨_,rfl,IsObT.put HU.out (af _ _ _) i⟩,StPost.fresh z H.out G.out Y.out (af _ _ _) (Nat.le_of_eq p.out) (by have:=E.out;omega) (aw i (by kernel_rfl))⟩
 .have J:(C != 0)=true:=by simpa using c
  obtain⟨rfl,rfl⟩:a=ob0/\eo=C:=by
   have h9:=HO.out;rw[if_pos c]at h9;exact⟨(Prod.mk.inj h9).1,(Prod.mk.inj h9).2⟩
  clear c;have t:=r.out
  go_wp2_with (refine wpList_store_row rfl 41 (.tmp 4) (.tmp 16) rfl o (obC 0 (.slice none 0 0) (.slice none 0 0) [] (.slice none 0 0) 0 0 []) rfl rfl 41 _ t bY rfl (by simp[Value.oneCell']) ?_)
  refine bodyPost_ret (aC rfl _ _ o 41 (obC 0 (.slice none 0 0) (.slice none 0 0) [] (.slice none 0 0) 0 0 []) (0,0) _ rfl (setRow_heap _ _ _ _ _ _ t) Tryz.underlying41 rfl bY) rfl ?_;exact⟨⟨_,rfl,iX _⟩,StPost.fresh z H.out G.out X.out (af _ _ _) (Nat.le_of_eq p.out) (by have:=E.out;omega) (aw t (by kernel_rfl))⟩
theorem sY {O:Nat->Prop} {x:Value} {C:Nat} (id:B8) (h:Sr w0 O w x C m n) (W:Good k m) (hk:k<=60000) (hid:id.length<=10000000) (X:0<=n) (Y:n<=100000) (y:(bj m id).2.1.length<=10000000) :
  Calls Tryz.prog 38 #[.pointer (some ⟨C,0,none⟩),S8 id] w fun e w'=>(∃u,e=.returned (.tuple #[u,.int .i64 (gB m id).2])/\IsOb w' u (gB m id).1)/\SrPost w0 O x C (bj m id).1 (ck n id) w w':=by
 have H:Hid (Sr w0 O w x C m n):=h;obtain⟨o,d⟩:∃o,o=w.alloc (.cells (obC 0 (.slice none 0 0) (.slice none 0 0) [] (.slice none 0 0) 0 0 []) 95):=⟨_,rfl⟩;have A:Ext w o:=by rw[d];exact(Ext.refl _).alloc _
 have L:o.heap[w.heap.size]? = some (.cells (obC 0 (.slice none 0 0) (.slice none 0 0) [] (.slice none 0 0) 0 0 []) 95 (0,0)):=by rw[d];exact ae _ _
 have M:o.heap.size=w.heap.size+1:=by rw[d];exact dO _ _
 have P:Hid _:=ns id (h.more A) W hk hid X Y;obtain⟨⟨m1,b,B⟩,N⟩:∃q,bj m id=q:=⟨_,rfl⟩;obtain⟨⟨a,U⟩,K⟩:∃q,gB m id=q:=⟨_,rfl⟩;have HO:Hid ((a,U)=if B≠0 then(ob0,B)else dF b):=by
  unfold Hid;rw[<-K];unfold gB;rw[N]
 rw[N]at P y;rw[K,show(bj m id).1=m1 by rw[N]];have G:Hid (Ext w o):=A;have E:Hid _:=L;have Q:Hid (b.length<=10000000):=y;obtain⟨j,l⟩:∃g,w.heap.size=g:=⟨_,rfl⟩;have p:Hid (w.heap.size=j):=l;have F:Hid (o.heap.size=j+1):=by rw[<-l];exact M
 rw[l]at E;unfold obC at d;clear h W A L M N K y;go_enter Tryz.func38,Tryz.ntmps38;go_upto_region 1 with fail;rw[<-d];clear d l;go_wp2_with fail;go_at_call 36;refine Calls.mono P.out ?_;rintro ex D ⟨⟨v,rfl,hv,-⟩,Z⟩;have R:Hid (SrPost w0 O x C m1 (ck n id) o D):=Z;have HV:Hid (IsBytes D v b):=hv;have i:Hid (D.heap[j]? = some (.cells (obC 0 (.slice none 0 0) (.slice none 0 0) [] (.slice none 0 0) 0 0 []) 95 (0,0))):=by
  have hl:=H.out.lt;have W:=p.out;exact Z.row E.out (fun K=>by have:=(H.out.lo j K).2;omega) (by omega)
 clear Z hv P
 try dsimp only
 by_cases c:B=0
 .have I:(B != 0)=false:=by simpa using c
  have HD:Hid (dF b=(a,U)):=by
   unfold Hid;rw[HO.out,if_neg (by simpa using c)]
  clear c;go_wp2_with fail;go_at_call 89;refine(yT v b D HV.out Q.out).mono ?_;rw[HD.out];rintro ex w2 ⟨⟨u,rfl,hu⟩,z⟩;have HU:Hid (IsObF D.heap.size w2 u a):=hu;have S:Hid (SrPost w0 O x C m1 (ck n id) o w2):=R.out.ext z;have T:Hid _:=Ext.row z i.out;have J:j<D.heap.size:=(Array.getElem?_eq_some_iff.1 i.out).1;obtain⟨vd,vi,vp,rfl,d1,d2,d3,-⟩:=hu;obtain⟨da,dc,rfl,-⟩:=_root_.id d1;obtain⟨ia,ic,rfl,-⟩:=_root_.id d2;obtain⟨pa,pc,rfl,-⟩:=_root_.id d3;clear z R i HV d1 d2 d3;have t:=T.out;unfold obV
  go_wp2_with (refine wpList_store_row rfl 95 (.tmp 4) (.tmp 20) rfl j (obC a.kind (.slice da a.data.length dc) (.slice ia a.items.length ic) a.tree (.slice pa a.parents.length pc) a.BU a.BS a.msg) rfl rfl 95 _ t bK rfl (by simp[Value.oneCell']) ?_)
  refine bodyPost_ret (aC rfl _ _ j 95 (obC a.kind (.slice da a.data.length dc) (.slice ia a.items.length ic) a.tree (.slice pa a.parents.length pc) a.BU a.BS a.msg) (0,0) _ rfl (setRow_heap _ _ _ _ _ _ t) Tryz.underlying95 rfl bK) rfl ?_;exact⟨⟨_,rfl,(IsObF.put HU.out (af _ _ _) J).ob⟩,SrPost.fresh H.out G.out S.out (af _ _ _) (Nat.le_of_eq p.out) (by have:=F.out;omega) (aw t (by kernel_rfl))⟩
 .have I:(B != 0)=true:=by simpa using c
  obtain⟨rfl,rfl⟩:a=ob0/\U=B:=by
   have V:=HO.out;rw[if_pos c]at V;exact⟨(Prod.mk.inj V).1,(Prod.mk.inj V).2⟩
  clear c;have r:=i.out
  go_wp2_with (refine wpList_store_row rfl 95 (.tmp 4) (.tmp 16) rfl j (obC 0 (.slice none 0 0) (.slice none 0 0) [] (.slice none 0 0) 0 0 []) rfl rfl 95 _ r bK rfl (by simp[Value.oneCell']) ?_)
  refine bodyPost_ret (aC rfl _ _ j 95 (obC 0 (.slice none 0 0) (.slice none 0 0) [] (.slice none 0 0) 0 0 []) (0,0) _ rfl (setRow_heap _ _ _ _ _ _ r) Tryz.underlying95 rfl bK) rfl ?_;exact⟨⟨_,rfl,_,_,_,rfl,Row.nil _,Row.nil _,Row.nil _⟩,SrPost.fresh H.out G.out R.out (af _ _ _) (Nat.le_of_eq p.out) (by have:=F.out;omega) (aw r (by kernel_rfl))⟩
end
section
open Go Go.ChangeShapes Go.WideShapes Go.ChangeAt Go.RowKit Go.Deep
def zi:List Int:=dp.map fun x=>(x.toNat:Int)
def zj:List Int:=dQ.map fun x=>(x.toNat:Int)
theorem Bw:Rows.laid_marline_sha_squares=(Lib.tabData .u32 zi:DataW Unit):=by kernel_rfl
theorem Bx:Rows.laid_marline_sha_cubes=(Lib.tabData .u32 zj:DataW Unit):=by kernel_rfl
variable {W:World}
theorem qD {name:String} {c:List Int} {g:Nat} {zero:Array Value} {t:TypeId} (e:W.ShapedOpen Tryz.prog) (h:Lib.TabIs Tryz.prog W name .u32 c) (i:Tryz.prog.globalNamed name=some g) (a:g<Tryz.prog.globals.size)
  (d:((begin Tryz.prog (fun _ _=>0) default).world.heap[g]?).bind Obj.row? = some (zero,t)):W.heap[g]? = some (.cells (c.map fun z=>Value.int .u32 z).toArray t (0,0)):=by
 obtain⟨j,b,-,-⟩:=e.1 g zero t a d;unfold Lib.TabIs World.var? at h;rw[i]at h;simp only[Option.bind_some,b,Option.some.injEq]at h;rw[b,h]
theorem Ab {x:String×DataW Unit} {rest:List (String×DataW Unit)}
  (j : laidMet Tryz.prog (x :: ("marline/sha.cubes", Rows.laid_marline_sha_cubes) :: ("marline/sha.squares", Rows.laid_marline_sha_squares) :: rest) W) (e : W.ShapedOpen Tryz.prog) : EnvS W := by
 have a:=laidMet.tail j;have d:=laidMet.tail a;rw[Bx]at a;rw[Bw]at d;have l:=Lib.tabIs_of_head (g:=1) (by kernel_rfl) (by kernel_rfl) Tryz.underlying217 Tryz.underlying167 (by kernel_rfl) (by kernel_rfl) a;have k:=Lib.tabIs_of_head (g:=0) (by kernel_rfl) (by kernel_rfl) Tryz.underlying216 Tryz.underlying167 (by kernel_rfl) (by kernel_rfl) d;have c:=qD (g:=1) (zero:=(List.replicate 64 (.int .u32 0)).toArray) (t:=217) e l (by kernel_rfl) (of_decide_eq_true (by kernel_rfl)) (by kernel_rfl);have b:=qD (g:=0) (zero:=(List.replicate 8 (.int .u32 0)).toArray) (t:=216) e k (by kernel_rfl) (of_decide_eq_true (by kernel_rfl)) (by kernel_rfl);have i:(zj.map fun z=>Value.int .u32 z)=dQ.map U32:=by unfold zj;rw[List.map_map];rfl
 have h:(zi.map fun z=>Value.int .u32 z)=dp.map U32:=by unfold zi;rw[List.map_map];rfl
 rw[i]at c;rw[h]at b;exact⟨⟨_,b⟩,⟨_,c⟩⟩
end
end Go.Proofs.YtfabjgfmiaammaaGreatDoor
