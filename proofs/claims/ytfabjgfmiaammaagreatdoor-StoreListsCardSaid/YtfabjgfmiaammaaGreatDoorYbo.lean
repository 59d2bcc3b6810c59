/- Contracts of the program's functions and plain laws behind the card. Conditions: as each theorem states. -/
import Derived.Test.YtfabjgfmiaammaaGreatDoorYbk
import Derived.Test.YtfabjgfmiaammaaGreatDoorYba
import Derived.Test.YtfabjgfmiaammaaGreatDoorYat
import Derived.Test.YtfabjgfmiaammaaGreatDoorYan
import Derived.Test.YtfabjgfmiaammaaGreatDoorYbb
import Derived.Test.YtfabjgfmiaammaaGreatDoorYbl
import Derived.Test.YtfabjgfmiaammaaGreatDoorYax
import Derived.Test.YtfabjgfmiaammaaGreatDoorYac
import Derived.Test.YtfabjgfmiaammaaGreatDoorYbc
import Derived.Test.YtfabjgfmiaammaaGreatDoorYah
import Derived.Deep.QuietTactic
import Derived.BigQuiet
set_option linter.unusedVariables false
set_option linter.unusedSimpArgs false
set_option linter.unusedSectionVars false
set_option maxRecDepth 100000
set_option maxHeartbeats 64000000
namespace Go.Proofs.YtfabjgfmiaammaaGreatDoor
section
open Go Go.RowKit
open Classical in
noncomputable abbrev gI (w:World) (O:Nat->Prop) (b a:Nat):Inhabited cZ:=⟨⟨fun k=>if ¬O k/\k≠b/\k≠a then w.heap[k]? else none,w.heap.size⟩⟩
def FrS (O O':Nat->Prop) (b a:Nat) (w w':World):Prop:=∀k,k<w.heap.size->¬O k->k≠b->k≠a->w'.heap[k]? = w.heap[k]?/\¬O' k
section
variable {w0 w w':World} {S O O':Nat->Prop} {f:Value} {gs gc:Nat} {m m':Fs} {n n':Int}
variable {w1:World}
theorem FrS.trans {l o p:Nat->Prop} {e t:World} (h:FrS l o gs gc w1 e) (g:FrS o p gs gc e t):FrS l p gs gc w1 t:=fun k i u q r=>by
 obtain⟨a,b⟩:=h k i u q r;have j:k<e.heap.size:=by
  have:e.heap[k]? = some (w1.heap[k]'i):=a.trans (Array.getElem?_eq_getElem i);exact(Array.getElem?_eq_some_iff.1 this).1
 obtain⟨c,d⟩:=g k j b q r;exact⟨c.trans a,d⟩
theorem FrS.ext (h:Ext w w1):FrS O O gs gc w w1:=fun k b a _ _=>⟨h.block k b,a⟩
theorem FrS.row (h:FrS O O' gs gc w w') {k:Nat} {o:Obj} (c:w.heap[k]? = some o) (g:¬O k) (d:k≠gs) (e:k≠gc):w'.heap[k]? = some o/\¬O' k:=by
 obtain⟨a,b⟩:=h k (Array.getElem?_eq_some_iff.1 c).1 g d e;exact⟨a.trans c,b⟩
end
section
variable [Inhabited bf] [KW:Inhabited cZ] {w0 w w':World} {S O O':Nat->Prop} {f:Value} {gs gc:Nat} {m m':Fs} {n n':Int}
open Classical in
theorem St.Dw (h:St w0 S O w f gs gc m n):St (KW:=gI w O gs gc) w0 S O w f gs gc m n :=
 St.mk (KW:=gI w O gs gc) h.one h.row h.B9 h.lo h.out (fun k o a=>by
  have a:(if ¬O k/\k≠gs/\k≠gc then w.heap[k]? else none)=some o:=a;split at a
  .rename_i b;exact⟨a,b⟩
  .cases a) (by
  unfold rh;split
  .exact Nat.zero_le _
  .exact Nat.le_refl _)
open Classical in
theorem St.low {d:World} {b:Nat} (g:b<w.heap.size) (e:¬O b/\b≠gs/\b≠gc) (h:St (KW:=gI w O gs gc) w0 S O' d f gs gc m' n'):w.heap.size<=d.heap.size:=by
 have a:=St.sz (KW:=gI w O gs gc) h;unfold rh at a;rw[if_neg (fun i=>by
  have c:(if ¬O b/\b≠gs/\b≠gc then w.heap[b]? else none)=none:=i b;rw[if_pos e,Array.getElem?_eq_getElem g]at c
  cases c)]at a
 exact a
open Classical in
theorem St.Dr (b:∀k,cJ k=none) (h:St (KW:=gI w O gs gc) w0 S O' w' f gs gc m' n'):FrS O O' gs gc w w'/\St w0 S O' w' f gs gc m' n':=by
 refine⟨fun k a g d e=>?_,St.mk (KW:=KW) (St.one (KW:=gI w O gs gc) h) (St.row (KW:=gI w O gs gc) h) (St.B9 (KW:=gI w O gs gc) h) (St.lo (KW:=gI w O gs gc) h) (St.out (KW:=gI w O gs gc) h) (fun k o a=>by rw[b]at a;cases a) (ir b _)⟩;have c:w.heap[k]? = some (w.heap[k]'a):=Array.getElem?_eq_getElem a;obtain⟨i,j,-⟩:=St.kp (KW:=gI w O gs gc) h k (w.heap[k]'a) (by
  show(if ¬O k/\k≠gs/\k≠gc then w.heap[k]? else none)=_;rw[if_pos ⟨g,d,e⟩,c])
 exact⟨i.trans c.symm,j⟩
theorem yg (b:∀k,cJ k=none) {k:Nat} (id:B8) (h:St w0 S O w f gs gc m n) (l:Env w0) (o:EnvS w0) (q:Good k m) (r:k<=79800) (c:0<=n) (d:n<=100000) (hid:id.length<=1000000) :
  Calls Tryz.prog 20 #[.pointer (some ⟨gs,0,none⟩),S8 id] w fun e w'=>∃(O':Nat->Prop) (n':Int),e=.returned (.bool (gM m id))/\KeepB w w'/\(n<=n'/\n'<=n+1)/\St w0 S O' w' f gs gc (bj m id).1 n'/\FrS O O' gs gc w w':=by
 refine(lQ (KW:=gI w O gs gc) id h.Dw l o q r c d (by omega)).mono ?_;rintro e w' ⟨O',n',p,a,t,g⟩;obtain⟨i,j⟩:=St.Dr b g;refine⟨O',n',p,a,?_,j,i⟩;subst t;unfold ck;split <;> omega
end
end
section
open Go Go.RowKit
variable [Inhabited bf]
structure Sr (w0:World) (O:Nat->Prop) (w:World) (x:Value) (gy:Nat) (m:Fs) (n:Int):Prop where
 base:Ext cy w0
 ext:Ext w0 w
 ref:IsRef O (fun k=>k<w.heap.size) w x m
 lo:∀k,O k->w0.heap.size<=k/\k<w.heap.size
 row:w.heap[gy]? = some (.cells #[x,.int .i64 n] 36 (0,0))
 gl:w0.heap.size<=gy
 out:¬O gy
def SrPost (c:World) (O:Nat->Prop) (x:Value) (b:Nat) (m':Fs) (n':Int) (w w':World):Prop :=
 ∃a:Nat->Prop,Sr c a w' x b m' n'/\Fr (fun k=>O k\/k=b) w w'/\∀k,a k->O k\/w.heap.size<=k
section
variable {w0 w w1 w':World} {O:Nat->Prop} {x:Value} {gy:Nat} {m m' m1:Fs} {n n' n1:Int} {k:Nat}
theorem Sr.lt (h:Sr w0 O w x gy m n):gy<w.heap.size:=(Array.getElem?_eq_some_iff.1 h.row).1
theorem Sr.more (h:Sr w0 O w x gy m n) (b:Ext w w'):Sr w0 O w' x gy m n :=
 have c:=b.size
 ⟨h.base,h.ext.trans b,(h.ref.ext b).mono (fun _ h=>h) (fun k a=>Nat.lt_of_lt_of_le a c),fun k a=>⟨(h.lo k a).1,Nat.lt_of_lt_of_le (h.lo k a).2 c⟩,Ext.row b h.row,h.gl,h.out⟩
theorem Sr.B5 (h:Sr w0 O w x gy m n) (a:Good k m) (b:k<=60000):RefIn O (fun k=>k<w.heap.size) w x m:=by
 have e:=a.time;have c:=a.calls;have d:=h.base.size;exact⟨h.ref,a.ok,a.plan,by omega,by omega,fun k b=>(h.lo k b).2,h.base.trans h.ext,fun k b=>by have:=(h.lo k b).1;omega,a.Cc,a.Cd⟩
theorem Sr.at (h:Sr w0 O w x gy m n) (c:RefPost O (fun k=>k<w.heap.size) w x m' w'):Sr w0 (Nw O w w') w' x gy m' n:=by
 have g:=c.fr.size;have d:=h.ext.size;have e:=h.lt;refine⟨h.base,Ext.Cb h.ext c.fr (fun k a=>(h.lo k a).1),c.fs.mono (fun _ h=>h) (fun k a=>by rcases a with a | a <;> omega),fun k a=>?_,c.fr.row h.row h.out,h.gl,fun b=>?_⟩
 .rcases a with a | a
  .have:=h.lo k a;omega
  .exact ⟨by omega,a.2⟩
 .rcases b with b | b
  .exact h.out b
  .omega
theorem Sr.but {b:Nat} (h:Sr w0 O w x gy m n) (i:w.grownBy w' (some b)) (l:w0.heap.size<=b) (j:¬O b) (o:¬IsU8 w b) (d:gy≠b):Sr w0 O w' x gy m n:=by
 have c:Fr (fun k=>k=b) w w':=Fr.B1 i rfl o;have g:=c.size;exact⟨h.base,Ext.Cb h.ext c (fun k a=>by rw[a];exact l),(h.ref.other c (fun k a e=>j (e▸a))).mono (fun _ h=>h) (fun k a=>Nat.lt_of_lt_of_le a g),fun k a=>⟨(h.lo k a).1,Nat.lt_of_lt_of_le (h.lo k a).2 g⟩,aV i h.row d,h.gl,h.out⟩
theorem Sr.post (h:Sr w0 O w x gy m n) (b:RefPost O (fun k=>k<w.heap.size) w x m' w'):SrPost w0 O x gy m' n w w':=by
 have g:=b.fr.size;have d:=h.ext.size;have e:=h.lt;refine⟨Nw O w w',⟨h.base,Ext.Cb h.ext b.fr (fun k a=>(h.lo k a).1),b.fs.mono (fun _ h=>h) (fun k a=>by rcases a with a | a <;> omega),fun k a=>?_,b.fr.row h.row h.out,h.gl,fun c=>?_⟩,b.fr.mono (fun k a=>.inl a),fun k a=>?_⟩
 .rcases a with a | a
  .have:=h.lo k a;omega
  .exact ⟨by omega,a.2⟩
 .rcases c with c | c
  .exact h.out c
  .omega
 .rcases a with a | a
  .exact .inl a
  .exact .inr a.1
theorem SrPost.refl (h:Sr w0 O w x gy m n) (a:Ext w w'):SrPost w0 O x gy m n w w':=⟨O,h.more a,Fr.BX a,fun _ h=>.inl h⟩
theorem SrPost.trans {b:Nat->Prop} (c:Fr (fun k=>O k\/k=gy) w w1) (d:∀k,b k->O k\/w.heap.size<=k) (g:∀k,b k->k<w1.heap.size) (h:SrPost w0 b x gy m' n' w1 w'):SrPost w0 O x gy m' n' w w':=by
 obtain⟨e,l,i,j⟩:=h;have o:=c.size;refine⟨e,l,c.trans (i.mono (fun k a=>?_)),fun k a=>?_⟩
 .rcases a with a | a
  .rcases d k a with h | h
   .exact .inl (.inl h)
   .exact .inr ⟨h,g k a⟩
  .exact .inl (.inr a)
 .rcases j k a with h | h
  .exact d k h
  .exact .inr (by omega)
theorem SrPost.then (c:SrPost w0 O x gy m1 n1 w w1) (h:∀a,Sr w0 a w1 x gy m1 n1->SrPost w0 a x gy m' n' w1 w'):SrPost w0 O x gy m' n' w w':=by
 obtain⟨a,b,d,g⟩:=c;exact SrPost.trans d g (fun k e=>(b.lo k e).2) (h a b)
theorem SrPost.ext (a:SrPost w0 O x gy m1 n1 w w1) (c:Ext w1 w'):SrPost w0 O x gy m1 n1 w w':=a.then fun d b=>SrPost.refl b c
theorem SrPost.pre (c:Sr w0 O w x gy m n) (a:Ext w w1) (h:SrPost w0 O x gy m' n' w1 w'):SrPost w0 O x gy m' n' w w':=SrPost.trans (Fr.BX a) (fun k h=>.inl h) (fun k b=>Nat.lt_of_lt_of_le (c.lo k b).2 a.size) h
theorem SrPost.keep (h:SrPost w0 O x gy m' n' w w'):KeepB w w':=h.choose_spec.2.1.keep
theorem Sr.count (h:Sr w0 O w x gy m n) (d:w'.heap[gy]? = some (.cells #[x,.int .i64 n'] 36 (0,0))) (i:w.grownBy w' (some gy)):Sr w0 O w' x gy m n'/\Fr (fun k=>O k\/k=gy) w w':=by
 have g:¬IsU8 w gy:=aw h.row (by kernel_rfl);have b:Fr (fun k=>k=gy) w w':=Fr.B1 i rfl g;have c:=b.size;exact⟨⟨h.base,Ext.Cb h.ext b (fun k a=>by rw[a];exact h.gl),(h.ref.other b (fun k a e=>h.out (e▸a))).mono (fun _ h=>h) (fun k a=>Nat.lt_of_lt_of_le a c),fun k a=>⟨(h.lo k a).1,Nat.lt_of_lt_of_le (h.lo k a).2 c⟩,d,h.gl,h.out⟩,b.mono (fun k a=>.inr a)⟩
end
theorem pZ {D w:World} {O:Nat->Prop} {x:Value} {d:Nat} {m:Fs} {n:Int} {k:Nat} (path:B8) (h:Sr D O w x d m n) (hg:Good k m) (i:k<=60000) (hp:path.length<=400) (au:0<=n) (a0:n<=100000) :
  Calls Tryz.prog 82 #[.pointer (some ⟨d,0,none⟩),S8 path] w fun e Z=>(∃v,e=.returned (.tuple #[fiV (aF m path).2.1 v,.int .i64 (aF m path).2.2])/\IsBytes Z v (aF m path).2.1.data/\TypB Z v)/\SrPost D O x d (aF m path).1 (n+1) w Z:=by
 have H:Hid (Sr D O w x d m n):=h;have HG:Hid (Good k m):=hg;obtain⟨g,rfl⟩:∃g,x=.pointer (some ⟨g,0,none⟩):=h.ref.ptr;obtain⟨⟨m1,u,er⟩,Y⟩:∃q,aF m path=q:=⟨_,rfl⟩;have HR:Hid _:=Y;rw[Y];have a3:IntKind.i64.wrap (n+1)=n+1:=IntWalk.i64_in _ (by omega);obtain⟨E,p⟩:∃E,E=w.alloc (.cells #[.int .i64 0,.slice none 0 0,.int .i64 0] 114):=⟨_,rfl⟩;have C:Ext w E:=by rw[p];exact(Ext.refl _).alloc _
 have A:E.heap[w.heap.size]? = some (.cells #[.int .i64 0,.slice none 0 0,.int .i64 0] 114 (0,0)):=by rw[p];exact ae _ _
 have S:Hid (Sr D O E (.pointer (some ⟨g,0,none⟩)) d m n):=h.more C;have J:Hid (Ext w E):=C;have I:Hid _:=A;have ad:=h.lt;have d1:E.cell? ⟨d,1,none⟩=some (.int .i64 n):=(cell_of_row _ _ 1 _ _ _ S.out.row).trans rfl;have t:=S.out.row;clear h hg Y C A;go_enter Tryz.func82,Tryz.ntmps82;go_upto_region 1 with fail;rw[<-p];clear p;go_upto_region 2 with(refine ag rfl 3 (.tmp 12) (.tmp 10) rfl d 1 rfl (.int .i64 (n+1)) rfl rfl 36 _ t (by simp) (by kernel_rfl) #[.pointer (some ⟨g,0,none⟩),.int .i64 (n+1)] (by simp) ?_;intro F N l);obtain⟨B,M⟩:=Sr.count S.out N l;have T:Hid (Sr D O F (.pointer (some ⟨g,0,none⟩)) d m (n+1)):=B;have G:Hid _:=M;have Q:F.heap[w.heap.size]? = some (.cells #[.int .i64 0,.slice none 0 0,.int .i64 0] 114 (0,0)):=aV l I.out (by omega);have W:Hid _:=Q;have d0:F.cell? ⟨d,0,none⟩=some (.pointer (some ⟨g,0,none⟩)):=(cell_of_row _ _ 0 _ _ _ T.out.row).trans rfl;clear d1 t N l B M Q;go_wp2_with fail;go_at_call 102;refine(pT path (Sr.B5 T.out HG.out i) hp).mono ?_;rw[HR.out];dsimp only;rintro e c ⟨⟨v,rfl,L⟩,o⟩;have B:=G.out.size;have a2:=J.out.size;have a1:=o.fr.size;have A:=(Array.getElem?_eq_some_iff.1 I.out).1;have y:¬Nw O F c w.heap.size:=fun z=>by
  rcases z with z | z
  .have:=(S.out.lo _ z).2;have:=(H.out.lo _ z).2;omega
  .omega
 have a:c.heap[w.heap.size]? = some (.cells #[.int .i64 0,.slice none 0 0,.int .i64 0] 114 (0,0)):=o.fr.row W.out (fun z=>y (.inl z));have K:Sr D (Nw O F c) c (.pointer (some ⟨g,0,none⟩)) d m1 (n+1):=Sr.at T.out o;have R:¬IsU8 c w.heap.size:=aw a (by kernel_rfl);have aa:=H.out.lt;have a4:=H.out.ext.size;have V:Hid (∀r,SrPost D O (.pointer (some ⟨g,0,none⟩)) d m1 (n+1) w (c.setRow w.heap.size r)):=fun r=>by
  have b:=af c w.heap.size r;refine⟨Nw O F c,K.but b (by omega) y R (by omega),?_,fun k i=>?_⟩
  .have j:Fr (fun k=>O k\/k=d) w c:=((Fr.BX J.out).trans (G.out.mono (fun k i=>.inl i))).trans (o.fr.mono (fun k i=>.inl (.inl i)));refine⟨b.os.trans j.os,b.tape.trans j.tape,b.output.trans j.output,Nat.le_trans j.size b.size,fun k i hh=>?_⟩;rw[b.block k (by omega) (by simp;omega)];exact j.block k i hh
  .rcases i with i | i
   .exact .inl i
   .exact .inr (by omega)
 have U:Hid (∀r,IsBytes (c.setRow w.heap.size r) v u.data/\TypB (c.setRow w.heap.size r) v):=fun r=>by
  have P:KeepB c (c.setRow w.heap.size r):=KeepB.B1 (af _ _ _) a (by kernel_rfl);exact⟨Row.B' L.bytes L.typed P,L.typed.keep P⟩
 obtain⟨va,vc,rfl,-⟩:=id L.bytes;have X:Hid _:=a;clear K R y L o a d0;have a:=X.out
 go_wp2_with (refine wpList_store_row rfl 114 (.tmp 4) (.tmp 19) rfl w.heap.size #[.int .i64 u.mode,.slice va u.data.length vc,.int .i64 u.time] rfl rfl 114 _ a cB rfl (by simp[Value.oneCell']) ?_)
 refine bodyPost_ret (bN rfl _ _ w.heap.size 114 #[.int .i64 u.mode,.slice va u.data.length vc,.int .i64 u.time] (0,0) _ (.int .i64 er) rfl rfl (setRow_heap _ _ _ _ _ _ a) Tryz.underlying114 cB) rfl ?_;exact⟨⟨_,rfl,U.out _⟩,V.out _⟩
end
section
open Go Go.RowKit
variable [Inhabited bf]
structure Mop where
 kind:Int
 b:B8
 o:Ob
 id:B8
 f:Opn
def IsMop (w:World) (cs:List Value) (x:Mop):Prop:=∃b c d e a,cs=.int .i64 x.kind::b::.int .i64 x.o.kind::c::d::S8 x.o.tree::e::.int .i64 x.o.BU::.int .i64 x.o.BS::S8 x.o.msg::S8 x.id::a/\OldB b x.b/\IsBytes w c x.o.data/\IsItms w d x.o.items/\IsStrs w e x.o.parents/\IsOpn w a x.f
variable {w:World} {x:Mop}
theorem IsMop.length {cs:List Value} (h:IsMop w cs x):cs.length=19:=by
 obtain⟨b,c,d,e,a,rfl,-,-,-,-,h⟩:=h;simp[(h.length).1]
abbrev k' (w:World) (v:Value) (l:List Mop):Prop:=ReadO w (IsMop w) v l
variable {v:Value} {l:List Mop}
theorem nW (h:k' w v l):∃a d,v=.slice a l.length d/\l.length<=d/\l.length<=140737488355328/\d<=9223372036854775807 /\
  ∀(k:Nat) x,l[k]? = some x->∃b o e,a=some ⟨b,o,none⟩/\IsMop w e x/\∀j u,e[j]? = some u->w.cell? ⟨b,o+k*19+j,none⟩=some u :=
 jE 19 (fun c x g=>g.length) (by omega) h
structure uY (l:List Mop):Prop where
 len:l.length<=60
 each:∀x∈l,iA x.o/\x.id.length<=400
 fs:dY (l.map Mop.f)=true
theorem Av {k:Nat} (h:l[k]? = some x) (b:∀y∈l.take k,iA y.o/\y.id.length<=400) (c:iA x.o/\x.id.length<=400):∀y∈l.take (k+1),iA y.o/\y.id.length<=400:=fun y a=>by
 rw[oG h]at a;rcases List.mem_append.1 a with a | a
 .exact b y a
 .rw [List.mem_singleton.1 a];exact c
theorem xX {T:World} (a3:Ext T w) (hv:k' T v l) :
  Calls Tryz.prog 6 #[v] w (AO (uY l) w):=by
 obtain⟨a,br,rfl,h1,h2,h3,h4⟩:=nW hv;have H4:Hid _:=h4;have K:Hid (Ext T w):=a3;clear h4 hv a3;go_enter Tryz.func6,Tryz.ntmps6;go_wp2;go_loopw [3,4,5] (fun n v i wr=>∃(k m:Nat) (A:List (List Value)),k<=l.length/\k<=60/\i=.int .i64 k/\n=.int .i64 m/\m<=160000/\Hid (∀y∈l.take k,iA y.o/\y.id.length<=400)/\Hid (wr.ownsRow w.heap.size 44 8 v k A.flatten)/\Hid (Each (IsOpn T) A ((l.take k).map Mop.f))/\Hid (Ext w wr)) (fun _ _ i _=>l.length - (intOf i).toNat)
 case atStart=>exact⟨0,0,[],Nat.zero_le _,by omega,rfl,rfl,by omega,fun y hy=>(by simp at hy),World.ownsRow_nil _ _ _ _,Each.nil _,Ext.refl _⟩
 case round =>
 obtain⟨k,m,A,hk,bx,rfl,rfl,hm,HA,G,U,S⟩:=hrel;obtain⟨q,hq⟩:∃q:Bool,q=(decide (k<l.length) && decide (k<60)):=⟨_,rfl⟩;have Y:Hid _:=hq;clear hq;go_upto_region 4 with fail;go_cut [13] (fun c wx=>c=.bool q/\wx=wr)
 case first =>
  by_cases C:k<l.length
  .have au:(k:Int)<(l.length:Int):=by omega
   by_cases P:k<60
   .have ad:(k:Int)<60:=by omega
    have Z:Hid (q=true):=by rw[Y.out];unfold Hid;rw[decide_eq_true C,decide_eq_true P];rfl
    go_wp2_with fail;go_meet
    case rel=>exact⟨by rw[Z.out],rfl⟩
   .have ad:¬(k:Int)<60:=by omega
    have Z:Hid (q=false):=by rw[Y.out];unfold Hid;rw[decide_eq_true C,decide_eq_false P];rfl
    go_wp2_with fail;go_meet
    case rel=>exact⟨by rw[Z.out],rfl⟩
  .have au:¬(k:Int)<(l.length:Int):=by omega
   have Z:Hid (q=false):=by rw[Y.out];unfold Hid;rw[decide_eq_false C];rfl
   go_wp2_with fail;go_meet
   case rel=>exact⟨by rw[Z.out],rfl⟩
 case rest =>
 obtain⟨rfl,a2⟩:=hcut;rw[a2];clear a2
 cases q with
 | true =>
  obtain⟨C,P⟩:k<l.length/\k<60:=by have B:=Y.out;simpa using B.symm
  obtain⟨x,O⟩:∃e,l[k]? = some e:=⟨_,List.getElem?_eq_getElem C⟩;obtain⟨b,o,cs,rfl,a9,g⟩:=H4.out k x O;obtain⟨vb,vd,vi,vp,fs,rfl,L,E,M,N,Q⟩:=a9;have a5:Hid (IsOpn T fs x.f):=Q;have V:Hid _:=O;obtain⟨b1,b2,rfl,-⟩:=id L.bytes;have bt:=L.bytes.len;have bv:=E.len;obtain⟨e1,e2,rfl,-⟩:=id E;obtain⟨i1,i2,rfl,-⟩:=id M;obtain⟨p1,p2,rfl,-⟩:=id N;obtain⟨ve,vl,rfl,hd,a1⟩:=id Q;obtain⟨d1,d2,rfl,-⟩:=id hd.bytes;obtain⟨_,⟨q1,q2,rfl,-⟩,-⟩:=id a1;have d:=Ext.trans K.out S.out;have W:Hid (IsOb wr (obV x.o (.slice e1 x.o.data.length e2) (.slice i1 x.o.items.length i2) (.slice p1 x.o.parents.length p2)) x.o):=⟨_,_,_,rfl,E.ext d,M.ext d,N.ext d⟩;have c1:=d.cell (g 1 _ rfl);have c2:=d.cell (g 2 _ rfl);have c3:=d.cell (g 3 _ rfl);have c4:=d.cell (g 4 _ rfl);have c5:=d.cell (g 5 _ rfl);have c6:=d.cell (g 6 _ rfl);have c7:=d.cell (g 7 _ rfl);have c8:=d.cell (g 8 _ rfl);have c9:=d.cell (g 9 _ rfl);have aa:=d.cell (g 10 _ rfl);have r:Hid (∀j u,([Value.int .i64 x.f.kind,.int .i64 x.f.mode,.int .i64 x.f.keep,.int .i64 x.f.BW,S8 x.f.path,S8 x.f.dest,.slice d1 x.f.data.length d2,.slice q1 x.f.plan.length q2])[j]? = some u->T.cell? ⟨b,o+k*19+11+j,none⟩=some u):=fun j u hu=>by
   have B:=g (11+j) u (by rw[Nat.add_comm];exact hu)
   rwa [<-Nat.add_assoc]at B
  obtain⟨I,bd⟩:∃I,min x.b.length 40000=I:=⟨_,rfl⟩;obtain⟨H,ba⟩:∃H,min (m+I) 160000=H:=⟨_,rfl⟩;have a':min (x.b.length:Int) 40000=(I:Int):=by omega
  have a8:min ((m:Int)+I) 160000=(H:Int):=by omega
  have b3:I<=40000:=by omega
  have b0:H<=160000:=by omega
  have bh:IntKind.i64.wrap ((m:Int)+(I:Int))=(m:Int)+I:=IntWalk.i64_in _ (by omega);clear O L E M N Q hd a1 g d bd ba;go_wp2_with fail;go_at_call 26;refine(xW _ x.o wr W.out).mono ?_;rintro ex w2 ⟨⟨fb,rfl,p⟩,D⟩;have J:Hid _:=p;have z:Hid (Ext w w2):=S.out.trans D;have t:Hid (w2.ownsRow w.heap.size 44 8 u4 k A.flatten):=am G.out D;replace c3:=D.cell c3;replace aa:=D.cell aa;clear p D a' a8 bh c1 c2 c4 c5 c6 c7 c8 c9 W
  cases fb with
  | false =>
   go_wp2;go_ret;exact⟨⟨_,rfl,fun h=>by cases h⟩,z.out⟩
  | true =>
   by_cases bl:(400:Int)<(x.id.length:Int)
   .go_wp2;go_ret;exact⟨⟨_,rfl,fun h=>by cases h⟩,z.out⟩
   .have F:Hid (iA x.o/\x.id.length<=400):=⟨J.out rfl,by omega⟩;have bo:x.o.data.length<=30000:=F.out.1.data;obtain⟨n2,bb⟩:∃n2,min (H+x.o.data.length) 160000=n2:=⟨_,rfl⟩;have bq:min ((H:Int)+(x.o.data.length:Int)) 160000=(n2:Int):=by omega
    have a0:n2<=160000:=by omega
    have b5:IntKind.i64.wrap ((H:Int)+(x.o.data.length:Int))=(H:Int)+(x.o.data.length:Int):=IntWalk.i64_in _ (by omega);have d:=Ext.trans K.out z.out;have g0:=d.cell (r.out 0 _ rfl);have g1:=d.cell (r.out 1 _ rfl);have g2:=d.cell (r.out 2 _ rfl);have g3:=d.cell (r.out 3 _ rfl);have g4:=d.cell (r.out 4 _ rfl);have g5:=d.cell (r.out 5 _ rfl);have g6:=d.cell (r.out 6 _ rfl);have g7:=d.cell (r.out 7 _ rfl);simp only[Nat.add_zero]at g0;have b4:=z.out.size;clear bb d
    go_wp2_with (at_builtin;go_must (refine zN rfl _ _ rfl w.heap.size _ k _ rfl (World.ownsRow.alloc t.out _) w2.heap.size 1 [.int .i64 x.f.kind,.int .i64 x.f.mode,.int .i64 x.f.keep,.int .i64 x.f.BW,S8 x.f.path,S8 x.f.dest,.slice d1 x.f.data.length d2,.slice q1 x.f.plan.length q2] rfl rfl (ae _ _) (by simp[Value.oneCell']) (by omega) (by simp;omega) ?_;intro v' w3 R a6))
    go_roundw
    case rel =>
     refine⟨k+1,n2,A++[[.int .i64 x.f.kind,.int .i64 x.f.mode,.int .i64 x.f.keep,.int .i64 x.f.BW,S8 x.f.path,S8 x.f.dest,.slice d1 x.f.data.length d2,.slice q1 x.f.plan.length q2]],by omega,by omega,by go_num,rfl,a0,Av V.out HA.out F.out,?_,?_,aj (z.out.alloc _) (World.ownsRow.alloc t.out _) a6⟩
     .unfold Hid;rw[List.flatten_append];simpa using R
     .unfold Hid;rw[oG V.out,List.map_append];exact Each.snoc U.out a5.out
    case measure=>simp[intOf];omega
 | false =>
  by_cases bs:(l.length:Int)<=60
  .have a7:k=l.length:=by
    have B:=Y.out
    by_cases h:k<l.length
    .rw [decide_eq_true h,decide_eq_true (show k<60 by omega)]at B;cases B
    .omega
   subst a7;have X:Hid (t9 wr u4 (l.map Mop.f)):=by
    have B:=U.out;rw[List.take_of_length_le (Nat.le_refl _)]at B;exact yG (by rw[List.length_map];exact G.out) (B.imp (fun c x g=>g.ext (K.out.trans S.out))) (by rw[List.length_map];omega)
   have a4:Hid (∀y∈l,iA y.o/\y.id.length<=400):=by
    have B:=HA.out
    rwa [List.take_of_length_le (Nat.le_refl _)]at B
   by_cases bS:(m:Int)<=40000
   .obtain ⟨fb,p⟩:∃b,dY (l.map Mop.f)=b:=⟨_,rfl⟩;have J:Hid _:=p;have r:Hid _:=uw (Ext.refl wr) X.out;rw[p]at r;clear p
    go_wp2_with (go_at_call 27;go_must (refine Calls.mono r.out ?_;rintro ex w5 ⟨rfl,bk⟩))
    go_ret;exact⟨⟨_,rfl,fun h=>⟨by omega,a4.out,by rw[J.out,h]⟩⟩,S.out.trans bk⟩
   .go_wp2;go_ret;exact⟨⟨_,rfl,fun h=>by cases h⟩,S.out⟩
  .go_wp2;go_ret;exact⟨⟨_,rfl,fun h=>by cases h⟩,S.out⟩
end
section
open Go Go.RowKit
def dw (l:List B8) (n:Nat):List B8:=(l.map fun p=>p.drop (n+1)).filter bW
variable {ss:List B8}
theorem sf {n k:Nat} {s:B8} (h:ss[k]? = some s):dw (ss.take (k+1)) n=dw (ss.take k) n++(if bW (s.drop (n+1))=true then[s.drop (n+1)]else[]):=by
 unfold dw;rw[List.take_add_one,h];simp only[Option.toList_some,List.map_append,List.filter_append,List.map_cons,List.map_nil,List.filter_cons,List.filter_nil]
theorem nL (ss:List B8) (n:Nat):(dw ss n).length<=ss.length:=by
 unfold dw;exact Nat.le_trans (List.length_filter_le _ _) (by simp)
theorem uo {w:World} {v:Value} (dir:B8) (B:IsStrs w v ss) (J:∀s∈ss,s.length<=100000/\dir.length+1<=s.length) (Z:dir.length<=1000) (hl:ss.length<=1000000) :
  Calls Tryz.prog 91 #[v,S8 dir] w fun e K=>(∃E,e=.returned E/\K.ownsRow w.heap.size 9 1 E (dw ss dir.length).length ((dw ss dir.length).map S8))/\Ext w K:=by
 obtain⟨a,P,rfl,l1,l2,l3,-⟩:=B.get;have O:Hid _:=B;have M:Hid _:=J;obtain⟨N,F⟩:∃N,dir.length=N:=⟨_,rfl⟩;rw[F];clear B J;go_enter Tryz.func91,Tryz.ntmps91;go_wp2;go_loopw [5,6] (fun v i wr=>∃(k n:Nat),k<=ss.length/\i=.int .i64 k/\Hid ((dw (ss.take k) N).length=n)/\wr.ownsRow w.heap.size 9 1 v n ((dw (ss.take k) N).map S8)/\Ext w wr) (fun _ i _=>ss.length - (intOf i).toNat)
 case atStart=>exact⟨0,0,Nat.zero_le _,rfl,rfl,World.ownsRow_nil _ _ _ _,Ext.refl _⟩
 case round =>
  obtain⟨k,n,hk,rfl,u,b,C⟩:=hrel;have S:n<=ss.length:=by rw[<-u.out];exact Nat.le_trans (nL _ _) (List.length_take_le' _ _)
  by_cases l:k<ss.length
  .obtain ⟨s,j⟩:∃s,ss[k]? = some s:=⟨_,List.getElem?_eq_getElem l⟩;obtain⟨T,r⟩:=M.out s (List.mem_of_getElem? j);rw[F]at r;obtain⟨_,_,R,-,-,-,H⟩:=(IsStrs.ext O.out C).get;cases R;obtain⟨Y,oo,rfl,G⟩:=H k l;have X:=G k l;rw[show ss.getD k []=s by rw[List.getD_eq_getElem?_getD,j];rfl]at X;obtain⟨t,x⟩:∃t,s.drop (N+1)=t:=⟨_,rfl⟩;have g:=sf (n:=N) j;rw[x]at g;have V:t.length<=100000:=by rw[<-x,List.length_drop];omega
   have h:Hid _:=g;obtain⟨D,q⟩:∃D,bW t=D:=⟨_,rfl⟩;have d:Hid _:=q;have y:(⟨s.toArray⟩:ByteArray).extract (N+1) s.length=⟨t.toArray⟩:=by
    have Q:=i9 ⟨s.toArray⟩ (N+1) s.length r (Nat.le_refl _);rw[Q,<-x];congr 2;rw[List.take_of_length_le];rw[List.length_drop];exact Nat.le_refl _
   clear g x q j H G;go_wp2_with fail;go_at_call 155;refine(jF t _ (by omega)).mono ?_;rw[d.out];rintro e W ⟨rfl,rfl⟩;have c:=b;have p:=C;have U:=p.size;clear b y
   cases D with
   | true =>
    go_wp2_with (at_builtin;go_must (refine fq rfl _ _ rfl w.heap.size _ n _ rfl (c.alloc _) W.heap.size 1 1 [t] rfl rfl (ae _ _) (by omega) (by simp;omega) ?_;intro E w3 o z))
    go_roundw
    case rel =>
     refine⟨k+1,n+1,by omega,by go_num,?_,?_,aj (p.alloc _) (c.alloc _) z⟩
     .unfold Hid;rw[h.out,d.out,if_pos rfl,List.length_append,u.out];rfl
     .rw [h.out,d.out,if_pos rfl];exact o
    case measure=>simp[intOf];omega
   | false =>
    go_wp2;go_roundw
    case rel=>exact⟨k+1,n,by omega,by go_num,by unfold Hid;rw[h.out,d.out,if_neg (by simp),List.append_nil];exact u.out,by rw[h.out,d.out,if_neg (by simp),List.append_nil];exact c,p⟩
    case measure=>simp[intOf];omega
  .have A:k=ss.length:=by omega
   subst A;have I:=u.out;rw[List.take_length]at b I;subst I;have L:Hid _:=b;clear b;go_wp2;go_ret;exact⟨⟨_,rfl,L.out⟩,C⟩
end
section
open Go Go.RowKit
theorem IsFs.CS {S O R:Nat->Prop} {w:World} {p:Value} {m:Fs} (h:IsFs S O R w p m):Rising m.now/\(∀e∈m.now,e.1.length<=10000000)/\∃g,p=.pointer (some ⟨g,0,none⟩):=by
 obtain⟨g,d,c,j,i,k,L,b,rfl,-,-,a,-⟩:=h;exact⟨a.now.CS,a.now.short,g,rfl⟩
end
section
open Go Go.RowKit
variable [Inhabited bf]
end
end Go.Proofs.YtfabjgfmiaammaaGreatDoor
