/- Contracts of the program's functions and plain laws behind the card. Conditions: as each theorem states. -/
import Derived.Test.YtgfegpnmlkdjfaaGreatDoorZai
import Derived.Test.YtgfegpnmlkdjfaaGreatDoorZaf
import Derived.Deep.Upon
import Derived.Test.YtgfegpnmlkdjfaaGreatDoorZah
import Derived.Test.YtgfegpnmlkdjfaaGreatDoorZag
import Derived.OwnWalk
import Derived.BigQuiet
import Derived.Deep.DeepCutAuto
import Derived.Test.YtgfegpnmlkdjfaaGreatDoorZaa
import Derived.Laws.Tables
set_option linter.unusedVariables false
set_option linter.unusedSimpArgs false
set_option linter.unusedSectionVars false
set_option maxRecDepth 100000
set_option maxHeartbeats 64000000
namespace Go.Proofs.YtgfegpnmlkdjfaaGreatDoor
section
open Go Go.RowKit
def IsRowR (R:Nat->Prop) (w:World) (cs:List Value) (e:B8×Fi):Prop:=e.1.length<=10000000/\∃v,cs=[S8 e.1,.int .i64 e.2.mode,v,.int .i64 e.2.time]/\IsData R w v e.2.data
variable {w:World} {cs:List Value}
theorem IsRowR.mono {R a:Nat->Prop} {e:B8×Fi} (h:IsRowR R w cs e) (g:∀k,R k->a k):IsRowR a w cs e:=by
 obtain⟨b,v,c,d⟩:=h;exact⟨b,v,c,d.mono g⟩
variable {w':World}
theorem IsRowR.Hb {R:Nat->Prop} {e:B8×Fi} (h:IsRowR R w cs e) (d:KeepR R w w'):IsRowR R w' cs e:=by
 obtain⟨a,v,b,c⟩:=h;exact⟨a,v,b,c.Hb d⟩
theorem IsRowR.length {R:Nat->Prop} {e:B8×Fi} (h:IsRowR R w cs e):cs.length=4/\cs.all (·.oneCell')=true:=by
 obtain⟨_,v,rfl,a⟩:=h;obtain⟨_,_,rfl,_⟩:=a.bytes;exact⟨rfl,by simp[Value.oneCell']⟩
def IsOp (R:Nat->Prop) (w:World) (cs:List Value):Ch->Prop
 | .put p f=>p.length<=10000000/\∃v,cs=[.int .i64 1,S8 [],S8 p,.int .i64 f.mode,v,.int .i64 f.time]/\IsData R w v f.data
 | .mv s d=>s.length<=10000000/\d.length<=10000000/\cs=[.int .i64 2,S8 s,S8 d,.int .i64 0,.slice none 0 0,.int .i64 0]
 | .del p=>p.length<=10000000/\cs=[.int .i64 3,S8 p,S8 [],.int .i64 0,.slice none 0 0,.int .i64 0]
variable {c:Ch}
theorem IsOp.mono {R a:Nat->Prop} (h:IsOp R w cs c) (i:∀k,R k->a k):IsOp a w cs c:=by
 cases c with
 | put p f =>
  obtain⟨b,v,e,g⟩:=h;exact⟨b,v,e,g.mono i⟩
 | mv s d=>exact h
 | del p=>exact h
theorem IsOp.Hb {R:Nat->Prop} (h:IsOp R w cs c) (g:KeepR R w w'):IsOp R w' cs c:=by
 cases c with
 | put p f =>
  obtain⟨a,v,b,e⟩:=h;exact⟨a,v,b,e.Hb g⟩
 | mv s d=>exact h
 | del p=>exact h
theorem IsOp.length {R:Nat->Prop} (h:IsOp R w cs c):cs.length=6/\cs.all (·.oneCell')=true:=by
 cases c with
 | put p f =>
  obtain⟨_,v,rfl,a⟩:=h;obtain⟨_,_,rfl,_⟩:=a.bytes;exact⟨rfl,by simp[Value.oneCell']⟩
 | mv s d=>obtain⟨_,_,rfl⟩:=h;exact⟨rfl,by simp[Value.oneCell']⟩
 | del p=>obtain⟨_,rfl⟩:=h;exact⟨rfl,by simp[Value.oneCell']⟩
variable {v:Value}
theorem ReadL.lt {α:Type} {t:TypeId} {p:List Value->α->Prop} {xs:List α} (h:ReadL w t p v xs):∀k,v.ownBlock=some k->k<w.heap.size:=fun k b=>by
 obtain⟨cs,c,a⟩:=h.typed k b;exact(Array.getElem?_eq_some_iff.1 a).1
theorem ReadL.nil {α:Type} (w:World) (t:TypeId) (p:List Value->α->Prop):ReadL w t p (.slice none 0 0) []:=⟨[],Row.nil _,Typed.nil _ _ _ _,Each.nil _⟩
theorem OwnL.nil {α:Type} (w:World) (t:TypeId) (a:Nat) (p:List Value->α->Prop):OwnL w t a p (.slice none 0 0) []:=⟨[],World.ownsRow_nil _ _ _ _,Each.nil _⟩
structure br where
 w:World
def gK [Inhabited br]:World:=(default:br).w
variable [Inhabited br]
structure OldB (v:Value) (l:B8):Prop where
 bytes:IsBytes gK v l
 low:∀a n c,v=.slice (some a) n c->n≠0->a.block<gK.heap.size
def IsEvD (cs:List Value) (e:Ev):Prop:=∃a,cs=[.int .i64 e.t,.int .i64 e.kind,.int .i64 e.mode,.int .i64 e.keep,.int .i64 e.G3,S8 e.path,a]/\OldB a e.data/\e.path.length<=10000000
def IsEvI (cs:List Value) (e:Ev):Prop:=∃a,cs=[.int .i64 e.t,.int .i64 e.kind,.int .i64 e.mode,.int .i64 e.keep,.int .i64 e.G3,S8 e.path,a]/\OldB a e.data
variable {e:Ev}
theorem IsEvI.length (h:IsEvI cs e):cs.length=7/\cs.all (·.oneCell')=true:=by
 obtain⟨v,rfl,a⟩:=h;obtain⟨_,_,rfl,_⟩:=a.bytes;exact⟨rfl,by simp[Value.oneCell']⟩
theorem IsEvI.up (h:IsEvI cs e) (c:e.path.length<=400):IsEvD cs e:=by
 obtain⟨v,a,b⟩:=h;exact⟨v,a,b,by omega⟩
theorem IsEvD.length (h:IsEvD cs e):cs.length=7/\cs.all (·.oneCell')=true:=by
 obtain⟨v,rfl,a,_⟩:=h;obtain⟨_,_,rfl,_⟩:=a.bytes;exact⟨rfl,by simp[Value.oneCell']⟩
variable {l:B8}
theorem OldB.at (h:OldB v l) (a:Ext gK w):IsBytes w v l:=h.bytes.ext a
theorem OldB.out {O:Nat->Prop} (h:OldB v l) (b:∀k,O k->gK.heap.size<=k):Out O w v:=fun a n c d e=>.inl fun g=>by have:=h.low a n c d e;have:=b _ g;omega
theorem IsEvD.read (h:IsEvD cs e) (d:Ext gK w):IsEvB w cs e:=by
 obtain⟨v,a,b,c⟩:=h;exact⟨v,a,b.at d,c⟩
abbrev FM (d:Int) (h j i g:Value) (a time:Nat) (b:Bool) (k:Value):Array Value:=#[.int .i64 d,h,j,i,g,.int .i64 a,.int .i64 time,.bool b,k]
section
variable {O R:Nat->Prop} {w w':World} {vn vs vp vl vu:Value} {now sure:ae} {pend:List Ch} {L users:List Ev}
end
section
variable {O O' R R':Nat->Prop} {w w':World} {p:Value} {m:Fs}
end
section
variable {O R:Nat->Prop} {w wx w1 w':World} {p:Value} {m m1:Fs}
end
end
section
open Go Go.RowKit
def FY (l:ae) (p:B8) (i:Int):Prop:=(ax l p=none/\i = -1)\/∃(k:Nat) (f:Fi),i=k/\l[k]? = some (p,f)/\ax l p=some f
theorem kf {a b:B8} (h:ltB a b=true):ltB b a=false:=by
 cases c:ltB b a with
 | false=>rfl
 | true=>exact absurd rfl (iI (fB h c))
def GM (l:ae) (path:B8):Bool:=!(l.any fun e=>aD path e.1 || aD e.1 path)
end
section
open Go Go.RowKit
variable {w w':World} {v:Value}
theorem Row.IH {n:Nat} {cs:List Value} (h:Row w v n cs) (p:cs≠[]->∀k,v.ownBlock=some k->w'.heap[k]? = w.heap[k]?):Row w' v n cs:=by
 obtain⟨a,c,rfl,e,g,j,l⟩:=h;refine⟨a,c,rfl,e,g,j,fun d=>?_⟩;obtain⟨b,o,rfl,q⟩:=l d;refine⟨b,o,rfl,fun i u r=>?_⟩;rw[World.cell?_of_block (w:=w) (w':=w') (a:=⟨b,o+i,none⟩) (p d b rfl)];exact q i u r
def ReadO {α:Type} (w:World) (p:List Value->α->Prop) (v:Value) (xs:List α):Prop:=∃a:List (List Value),Row w v xs.length a.flatten/\(xs≠[]->∀k,v.ownBlock=some k->k<w.heap.size)/\Each p a xs
theorem ReadO.mono {α:Type} {p q:List Value->α->Prop} {xs:List α} (h:ReadO w p v xs) (b:∀c x,p c x->q c x):ReadO w q v xs:=by
 obtain⟨a,d,e,g⟩:=h;exact⟨a,d,e,g.imp b⟩
theorem ReadO.lt {α:Type} {p:List Value->α->Prop} {xs:List α} (h:ReadO w p v xs) (c:xs≠[]):∀k,v.ownBlock=some k->k<w.heap.size:=by
 obtain⟨a,d,b,e⟩:=h;exact b c
theorem ReadO.stay {α:Type} {p:List Value->α->Prop} {xs:List α} (h:ReadO w p v xs) (j:w.heap.size<=w'.heap.size) (g:xs≠[]->∀k,v.ownBlock=some k->w'.heap[k]? = w.heap[k]?):ReadO w' p v xs:=by
 obtain⟨a,d,e,c⟩:=h;refine⟨a,d.IH (fun b=>g fun l=>b ?_),fun b k i=>Nat.lt_of_lt_of_le (e b k i) j,c⟩;have:a=[]:=List.eq_nil_of_length_eq_zero (by rw[c.1,l];rfl);rw[this];rfl
theorem tl (l:B8):(⟨l.toArray⟩:ByteArray).toList=l:=Lib.toList_data _
end
section
open Go Go.RowKit
variable {css:List (List Value)}
theorem Each.len {α:Type} {p:List Value->α->Prop} {xs:List α} (h:Each p css xs) {n:Nat} (e:∀c x,p c x->c.length=n):∀c∈css,c.length=n:=fun c d=>by
 obtain⟨i,b,rfl⟩:=List.mem_iff_getElem.1 d;have a:i<xs.length:=by rw[<-h.1];exact b
 exact e _ _ (h.2 i css[i] xs[i] (List.getElem?_eq_getElem b) (List.getElem?_eq_getElem a))
theorem Each.one {α:Type} {p:List Value->α->Prop} {xs:List α} (h:Each p css xs) (g:∀c x,p c x->c.all (·.oneCell')=true):∀u∈css.flatten,u.oneCell'=true:=fun u b=>by
 obtain⟨c,e,b⟩:=List.mem_flatten.1 b;obtain⟨i,d,rfl⟩:=List.mem_iff_getElem.1 e;have a:i<xs.length:=by rw[<-h.1];exact d
 exact List.all_eq_true.1 (g _ _ (h.2 i css[i] xs[i] (List.getElem?_eq_getElem d) (List.getElem?_eq_getElem a))) u b
theorem Each.take {α:Type} {p:List Value->α->Prop} {xs:List α} (h:Each p css xs) (k:Nat):Each p (css.take k) (xs.take k):=by
 refine⟨by simp[h.1],fun i c x a b=>?_⟩;rw[List.getElem?_take]at a b;split at a
 .rename_i d;rw[if_pos d]at b;exact h.2 i c x a b
 .cases a
theorem Each.drop {α:Type} {p:List Value->α->Prop} {xs:List α} (h:Each p css xs) (k:Nat):Each p (css.drop k) (xs.drop k):=by
 refine⟨by simp[h.1],fun i c x a b=>?_⟩;rw[List.getElem?_drop]at a b;exact h.2 _ c x a b
theorem Each.append {α:Type} {p:List Value->α->Prop} {e:List (List Value)} {xs ys:List α} (h:Each p css xs) (k:Each p e ys):Each p (css++e) (xs++ys):=by
 refine⟨by simp[h.1,k.1],fun i c x b a=>?_⟩;rw[List.getElem?_append]at b a
 by_cases d:i<css.length
 .rw [if_pos d]at b;rw[if_pos (by rw[<-h.1];exact d)]at a;exact h.2 i c x b a
 .rw [if_neg d]at b;rw[if_neg (by rw[<-h.1];exact d)]at a;rw[<-h.1]at a;exact k.2 _ c x b a
section
variable {ops:Array Oper} {rest:List Oper} {o:Oper} {a:Act} {Q:Exit->Act->World->Prop} {w:World}
end
end
section
open Go Go.RowKit
section
variable {w0:World} {nA nC:Nat} {A rowc C:List Value} {z0 z4 z8 z9 z13:Option Value} {w w':World} {u:Value}
end
theorem gp:∀a b:B8,Op.bytesLess a b=ltB a b
 | [],[]=>by simp[Op.bytesLess,ltB]
 | _::_,[]=>by simp[Op.bytesLess,ltB]
 | [],_::_=>by simp[Op.bytesLess,ltB]
 | a::r,b::s=>by
  rw[Op.bytesLess,gp r s];unfold ltB;rw[Bool.eq_iff_iff];simp[List.cons_lt_cons_iff]
theorem pH {c:Prop} [Decidable c] {a:Operand->Value} {R:Value->World->Prop} {o:Oper} {w:World} (s x:Operand) (t:TypeId) {v xv v':Value} {w':World} (g:c) (b:o.op=.call { callee:=.builtin .append,args:=#[s,x],argTypes:=#[t,t] }) 
  (e:a s=v) (i:a x=xv) (d:(Builtin.append_ #[t,t] o.type #[v,xv]).run Tryz.prog w=.ok v' w') (h:R v' w') :
  if c then dW Tryz.prog R ((execOp a o).run Tryz.prog w)else R undef w:=by
 rw[if_pos g];unfold execOp;simp only[b,resolve,invoke,builtin,Sem.run_bind,Sem.run_pure,Result.andThen_ok,List.map_toArray,List.map_cons,List.map_nil,e,i,d];exact h
end
section
open Go Go.RowKit
theorem lH:∀a b:B8,Op.bytesLess a b=ltB a b
 | [],[]=>by simp[Op.bytesLess,ltB]
 | [],_::_=>by simp[Op.bytesLess,ltB]
 | _::_,[]=>by simp[Op.bytesLess,ltB]
 | a::r,b::s=>by
  rw[Op.bytesLess,lH r s];unfold ltB;rw[Bool.eq_iff_iff];simp[List.cons_lt_cons_iff]
variable {w:World} {a:Option Addr} {cap:Nat} {l:List B8}
theorem IsStrs.tail (k:Nat) (h:IsStrs w (.slice a l.length cap) l) (C:k<=l.length) :
  ∀c,(a=none->c=none)->(cap≠k->∀b o,a=some ⟨b,o,none⟩->c=some ⟨b,o+k,none⟩)->IsStrs w (.slice c (l.length - k) (cap - k)) (l.drop k):=by
 obtain⟨y,j,p,z,A,B,r⟩:=h;simp only[Value.slice.injEq,true_and]at p;obtain⟨rfl,rfl⟩:=p;intro c D x;have d:(l.drop k).length=l.length - k:=List.length_drop;unfold IsStrs;rw[d];refine⟨c,cap - k,rfl,by omega,by omega,by omega,fun e=>?_⟩;have g:k<l.length:=by
  rcases Nat.lt_or_ge k l.length with h | h
  .exact h
  .rw [List.drop_eq_nil_of_le h]at e;simp at e
 obtain⟨b,o,rfl,t⟩:=r (by intro n;rw[List.map_eq_nil_iff]at n;subst n;simp at g);refine⟨b,o+k,x (by omega) b o rfl,fun i u q=>?_⟩;rw[List.getElem?_map,List.getElem?_drop]at q;have:=t (k+i) u (by rw[List.getElem?_map];exact q)
 rwa [<-Nat.add_assoc]at this
theorem IsStrs.head (k:Nat) (h:IsStrs w (.slice a l.length cap) l) (z:k<=l.length):IsStrs w (.slice a k cap) (l.take k):=by
 obtain⟨r,g,n,t,x,y,p⟩:=h;simp only[Value.slice.injEq,true_and]at n;obtain⟨rfl,rfl⟩:=n;have c:(l.take k).length=k:=by rw[List.length_take];omega
 unfold IsStrs;rw[c];refine⟨a,cap,rfl,by omega,by omega,by omega,fun e=>?_⟩;obtain⟨b,o,rfl,q⟩:=p (by intro j;rw[List.map_eq_nil_iff]at j;subst j;simp at e);refine⟨b,o,rfl,fun i u d=>q i u ?_⟩;rw[List.getElem?_map,List.getElem?_take]at d;split at d
 .rw [List.getElem?_map];exact d
 .cases d
theorem vD (a:B8):ltB a a=false:=by
 unfold ltB;rw[decide_eq_false_iff_not];exact List.lt_irrefl a
def ep (a b:B8):Int:=if ltB a b=true then -1 else if ltB b a=true then 1 else 0
theorem fU (a b:B8) (w:World):Calls Tryz.prog 30 #[S8 a,S8 b] w fun e j=>e=.returned (.int .i64 (ep a b))/\j=w:=by
 obtain⟨x,c⟩:∃x,ltB a b=x:=⟨_,rfl⟩;have k:Op.bytesLess a b=x:=by rw[lH];exact c
 cases x with
 | true =>
  have d:ep a b = -1:=by unfold ep;rw[c];rfl
  rw[d];clear d c;go_enter Tryz.func30,Tryz.ntmps30;go_wp2;go_ret;exact⟨rfl,rfl⟩
 | false =>
  obtain⟨y,g⟩:∃y,ltB b a=y:=⟨_,rfl⟩;have h:(a==b) = !y:=by
   cases y with
   | true=>simpa using fun e:a=b=>by rw[e,vD]at g;cases g
   | false=>simpa using jE (a:=a) (b:=b) (by unfold leT;rw[g];rfl) (by unfold leT;rw[c];rfl)
  have d:ep a b=if y=true then 1 else 0:=by unfold ep;rw[c,g];rfl
  rw[d];clear d c g
  cases y with
  | true =>
   have i:(a==b)=false:=h;clear h;go_enter Tryz.func30,Tryz.ntmps30;go_wp2;go_ret;exact⟨rfl,rfl⟩
  | false =>
   have i:(a==b)=true:=h;clear h;go_enter Tryz.func30,Tryz.ntmps30;go_wp2;go_ret;exact⟨rfl,rfl⟩
def xf:Value->Nat
 | .slice _ n _=>n
 | _=>0
theorem xQ (va vb:Value) (A B:List B8) (w:World) (hA:IsStrs w va A) (hB:IsStrs w vb B) (ua:upL A) (ub:upL B) (hl:A.length+B.length<=2000000) :
  Calls Tryz.prog 81 #[va,vb] w fun e w'=>(∃v,e=.returned v/\w'.ownsRow w.heap.size 9 1 v (A.length+B.length) ((bB (A++B)).map S8))/\Ext w w':=by
 obtain⟨a0,ac,rfl,bq,bs,bv,-⟩:=hA.get;obtain⟨b0,bc,rfl,b1,b2,b3,-⟩:=hB.get;have HA:Hid (IsStrs w (.slice a0 A.length ac) A):=hA;have HB:Hid (IsStrs w (.slice b0 B.length bc) B):=hB;have HM:Hid (MInv A B A B []):=MInv.start ua ub;obtain⟨i0,hi,a7,a9,a'⟩:=info_parts eu;clear hA hB ua ub;go_enter Tryz.func81,Tryz.ntmps81
 go_wp2_with (at_make;go_must (refine wpList_make_own _ rfl _ _ 38 rfl w.heap.size 9 i0 _ 1 Tryz.underlying38 hi a7 a9 _ _ _ (A.length+B.length) rfl rfl (by omega) (by rw[a'];omega) (by unfold maxLen;omega) (Nat.le_refl _) ?_;intro w1 F am))
 have a2:Hid (Ext w w1):=Below.grown (Ext.refl w) am (Nat.le_refl _) (fun k t=>by cases t);clear am;go_loopw [0,1,5] (fun xa xb v wr=>∃(a b C:List B8),Hid (MInv A B a b C)/\Hid (IsStrs w xa a)/\Hid (IsStrs w xb b)/\wr.ownsRow w.heap.size 9 1 v C.length (C.map S8)/\Hid (Ext w wr)) (fun xa xb _ _=>xf xa+xf xb)
 case atStart=>exact⟨A,B,[],HM,HA,HB,F,a2⟩
 case round =>
 clear F;obtain⟨a,b,C,HI,O,D,j,M⟩:=hrel;have U:=HI.out.len;have I:Hid (IsStrs wr _ a):=IsStrs.ext O.out M.out;have ad:Hid (IsStrs wr _ b):=IsStrs.ext D.out M.out;obtain⟨aa,ca,rfl,bh,bi,bo,ao⟩:=I.out.get;obtain⟨ab,cb,rfl,bk,bm,bp,au⟩:=ad.out.get;have J:Hid _:=ao;have K:Hid _:=au;clear ao au;have av:=M.out.size
 cases a with
 | nil =>
  have HF:Hid (C++([]++b)=bB (A++B)):=HI.out.swap.fin;have P:C.length+0+b.length=A.length+B.length:=by simpa using U
  clear J K
  go_wp2_with first | (at_builtin;(have a6:=z.out);go_must (refine gV _ _ _ 1 16 Tryz.underlying38 eu rfl (by omega) rfl (.tmp 40) (.tmp 41) rfl rfl w.heap.size _ _ _ rfl g _ b.length (b.map S8) rfl z.out (by simp) (by intro u H;first | (obtain⟨_,_,rfl⟩:=List.mem_map.1 H;rfl) | cases H) (by omega) (by omega) G ?_;intro v5 w5 q T;have V:Ext w w5:=aA r g T)) | (at_builtin;go_must (refine gV _ _ _ 1 16 Tryz.underlying38 eu rfl (by omega) rfl (.tmp 38) (.tmp 39) rfl rfl w.heap.size _ C.length (C.map S8) rfl j _ 0 [] rfl I.out (by simp) (by intro u H;first | (obtain⟨_,_,rfl⟩:=List.mem_map.1 H;rfl) | cases H) (by omega) (by omega) av ?_;intro v4 X g S;have r:Ext w X:=aA M.out j S;have G:=r.size;have z:Hid (IsStrs X _ _):=IsStrs.ext D.out r))
  go_ret;refine⟨⟨_,rfl,?_⟩,V⟩;rw[<-HF.out];have L:=q;rw[P]at L;simpa using L
 | cons x a =>
  cases b with
  | nil =>
   have HF:Hid (C++((x::a)++[])=bB (A++B)):=by have L:=HI.out.fin;unfold Hid;rw[List.append_nil];exact L
   have P:C.length+(a.length+1)+0=A.length+B.length:=by simpa using U
   clear J K
   go_wp2_with first | (at_builtin;(have a6:=z.out);go_must (refine gV _ _ _ 1 16 Tryz.underlying38 eu rfl (by omega) rfl (.tmp 40) (.tmp 41) rfl rfl w.heap.size _ _ _ rfl g _ 0 [] rfl z.out (by simp) (by intro u H;first | (obtain⟨_,_,rfl⟩:=List.mem_map.1 H;rfl) | cases H) (by omega) (by omega) G ?_;intro v5 w5 q T;have V:Ext w w5:=aA r g T)) | (at_builtin;go_must (refine gV _ _ _ 1 16 Tryz.underlying38 eu rfl (by omega) rfl (.tmp 38) (.tmp 39) rfl rfl w.heap.size _ C.length (C.map S8) rfl j _ (a.length+1) ((x::a).map S8) rfl I.out (by simp) (by intro u H;first | (obtain⟨_,_,rfl⟩:=List.mem_map.1 H;rfl) | cases H) (by omega) (by omega) av ?_;intro v4 X g S;have r:Ext w X:=aA M.out j S;have G:=r.size;have z:Hid (IsStrs X _ _):=IsStrs.ext D.out r))
   go_ret;refine⟨⟨_,rfl,?_⟩,V⟩;rw[<-HF.out];have L:=q;rw[P]at L;simpa using L
  | cons y b =>
   obtain⟨ba,oa,rfl,ag⟩:=J.out 0 (by simp);obtain⟨bb,ob,rfl,ai⟩:=K.out 0 (by simp);have Z:wr.cell? ⟨ba,oa,none⟩=some (S8 x):=ag 0 (by simp);have y2:wr.cell? ⟨bb,ob,none⟩=some (S8 y):=ai 0 (by simp);clear ag ai J K I ad;simp only[List.length_cons]at U bh bi bk bm;obtain⟨c,hc⟩:∃c,ep y x=c:=⟨_,rfl⟩;have HC:Hid _:=hc
   cases n:ltB y x with
   | false =>
    have HQ:Hid (MInv A B a (y::b) (C++[x])):=HI.out.step n;have a3:¬c<0:=by
     rw[<-hc];unfold ep;rw[n]
     cases ltB x y <;> simp
    clear hc n;go_upto_region 3 with fail;apply ak 8 [_,_,S8 y,_,_,S8 x,.int .i64 c,.bool false] [none,none,none,none,none,none,none,none] [[],[0],[1],[],[3],[4],[2,5],[6]] (by kernel_rfl) (by kernel_rfl) (by simp[aq])
    .trivial
    .simp (maxSteps:=1000000)only[List.take_succ_cons,List.take_zero,ay,aB,af,Act.put,List.setIfInBounds_toArray,List.set_cons_zero,List.set_cons_succ,aE,aH,aq,List.getD_cons_zero,List.getD_cons_succ,and_true,true_and,forall_const];and_intros
     iterate 6 · intro Y wq n;intros;rename_i E;have f1:=n.cell Z;have f2:=n.cell y2;go_simp;exact E _ _ (Ext.refl _) rfl
     .intro Y wq n t R E;obtain⟨a4,a5⟩:=t;go_simp;exact(fU y x _).mono (by rw[HC.out];rintro e' X ⟨rfl,rfl⟩;exact⟨_,rfl,E _ _ (Ext.refl _) rfl⟩)
     .intro Y wq n;intros;rename_i E;have f1:=n.cell Z;have f2:=n.cell y2;go_simp;exact E _ _ (Ext.refl _) rfl
    intro Y w2 i t;simp only[aG,Nat.zero_add,Nat.reduceAdd,and_true]at t;simp(maxSteps:=1000000)only[List.take_succ_cons,List.take_zero,List.drop_succ_cons,List.drop_zero,af,Act.put,List.setIfInBounds_toArray,List.set_cons_zero,List.set_cons_succ,Nat.zero_add,Nat.reduceAdd,t];clear t;have y3:=i.cell Z;have d:=az j i;have a1:=i.size;have N:Hid (Ext w w2):=M.out.trans i;have HT:Hid (IsStrs w (.slice (if ca=1 then some ⟨ba,oa,none⟩else some ⟨ba,oa+1,none⟩) a.length (ca - 1)) a):=IsStrs.tail (l:=x::a) 1 O.out (by simp) (if ca=1 then some ⟨ba,oa,none⟩else some ⟨ba,oa+1,none⟩) (fun h=>by cases h) (fun h b o e=>by rw[if_neg h];cases e;rfl);clear i Z y2
    go_wp2_with (at_builtin;go_must (refine gW rfl _ _ rfl w.heap.size _ C.length _ rfl (d.alloc _) w2.heap.size 1 1 [x] rfl rfl (ah _ _) (by omega) (by simp;omega) ?_;intro v' w3 p Q))
    go_roundw
    case rel=>exact⟨a,y::b,C++[x],HQ,HT,D,by rw[List.length_append];exact p,aA (N.out.alloc _) (d.alloc _) Q⟩
    case measure=>simp[xf]
   | true =>
    have W:ltB x y=false:=by
     cases L:ltB x y with
     | false=>rfl
     | true =>
      have:=fB n L;rw[vD]at this;cases this
    have HQ:Hid (MInv A B b (x::a) (C++[y])):=HI.out.swap.step W;have a3:c<0:=by
     rw[<-hc];unfold ep;rw[W,n];decide
    clear hc n W;go_upto_region 3 with fail;apply ak 8 [_,_,S8 y,_,_,S8 x,.int .i64 c,.bool true] [none,none,none,none,none,none,none,none] [[],[0],[1],[],[3],[4],[2,5],[6]] (by kernel_rfl) (by kernel_rfl) (by simp[aq])
    .trivial
    .simp (maxSteps:=1000000)only[List.take_succ_cons,List.take_zero,ay,aB,af,Act.put,List.setIfInBounds_toArray,List.set_cons_zero,List.set_cons_succ,aE,aH,aq,List.getD_cons_zero,List.getD_cons_succ,and_true,true_and,forall_const];and_intros
     iterate 6 · intro Y wq n;intros;rename_i E;have f1:=n.cell Z;have f2:=n.cell y2;go_simp;exact E _ _ (Ext.refl _) rfl
     .intro Y wq n t R E;obtain⟨a4,a5⟩:=t;go_simp;exact(fU y x _).mono (by rw[HC.out];rintro e' X ⟨rfl,rfl⟩;exact⟨_,rfl,E _ _ (Ext.refl _) rfl⟩)
     .intro Y wq n;intros;rename_i E;have f1:=n.cell Z;have f2:=n.cell y2;go_simp;exact E _ _ (Ext.refl _) rfl
    intro Y w2 i t;simp only[aG,Nat.zero_add,Nat.reduceAdd,and_true]at t;simp(maxSteps:=1000000)only[List.take_succ_cons,List.take_zero,List.drop_succ_cons,List.drop_zero,af,Act.put,List.setIfInBounds_toArray,List.set_cons_zero,List.set_cons_succ,Nat.zero_add,Nat.reduceAdd,t];clear t;have y3:=i.cell y2;have d:=az j i;have a1:=i.size;have N:Hid (Ext w w2):=M.out.trans i;have HT:Hid (IsStrs w (.slice (if cb=1 then some ⟨bb,ob,none⟩else some ⟨bb,ob+1,none⟩) b.length (cb - 1)) b):=IsStrs.tail (l:=y::b) 1 D.out (by simp) (if cb=1 then some ⟨bb,ob,none⟩else some ⟨bb,ob+1,none⟩) (fun h=>by cases h) (fun h b o e=>by rw[if_neg h];cases e;rfl);clear i Z y2
    go_wp2_with (at_builtin;go_must (refine gW rfl _ _ rfl w.heap.size _ C.length _ rfl (d.alloc _) w2.heap.size 1 1 [y] rfl rfl (ah _ _) (by omega) (by simp;omega) ?_;intro v' w3 p Q))
    go_roundw
    case rel=>exact⟨b,x::a,C++[y],HQ,HT,O,by rw[List.length_append];exact p,aA (N.out.alloc _) (d.alloc _) Q⟩
    case measure=>simp[xf];omega
end
section
open Go Go.RowKit
structure Late (g:Nat) (X:Obj) (w w':World):Prop where
 grown:w.grownBy w' (some g)
 keep:w'.heap[g]? = w.heap[g]?\/w'.heap[g]? = some X
 once:w.heap[g]? = some X->w'.heap[g]? = some X
theorem Late.refl (g:Nat) (X:Obj) (w:World):Late g X w w:=⟨⟨rfl,rfl,rfl,Nat.le_refl _,fun _ _ _=>rfl⟩,.inl rfl,id⟩
variable {g:Nat} {X:Obj}
theorem Late.trans {a b c:World} (h:Late g X a b) (k:Late g X b c):Late g X a c:=by
 refine⟨⟨k.grown.os.trans h.grown.os,k.grown.tape.trans h.grown.tape,k.grown.output.trans h.grown.output,Nat.le_trans h.grown.size k.grown.size,fun i j l=>(k.grown.block i (Nat.lt_of_lt_of_le j h.grown.size) l).trans (h.grown.block i j l)⟩,?_,fun n=>k.once (h.once n)⟩;rcases k.keep with e | e
 .rcases h.keep with d | d
  .exact .inl (e.trans d)
  .exact .inr (e.trans d)
 .exact .inr e
variable {w w':World}
theorem Late.GX (h:Ext w w') (a:g<w.heap.size):Late g X w w' :=
 ⟨⟨h.os,h.tape,h.output,h.size,fun k c _=>h.block k c⟩,.inl (h.block g a),fun b=>(h.block g a).trans b⟩
theorem Late.cell (h:Late g X w w') {b o:Nat} {v:Value} (c:w.cell? ⟨b,o,none⟩=some v) (a:b≠g):w'.cell? ⟨b,o,none⟩=some v:=by
 rw[World.cell?_of_block (w:=w) (w':=w') (h.grown.block b (World.block_lt_of_cell? _ _ c) (by simpa using a))];exact c
theorem Late.row (h:Late g X w w') {k:Nat} {o:Obj} (b:w.heap[k]? = some o) (a:k≠g):w'.heap[k]? = some o :=
 (h.grown.block k (Array.getElem?_eq_some_iff.1 b).1 (by simpa using a)).trans b
variable {cs:Array Value} {t:TypeId}
theorem Late.at {old:Array Value} (h:Late g (.cells cs t (0,0)) w w') (b:w.heap[g]? = some (.cells old t (0,0))) (c:old.size=cs.size) :
  ∃a,w'.heap[g]? = some (.cells a t (0,0))/\a.size=cs.size:=by
 rcases h.keep with e | e
 .exact ⟨old,e.trans b,c⟩
 .exact ⟨cs,e,rfl⟩
theorem Late.store {a:Array Value} (d:w.heap[g]? = some (.cells a t (0,0))):Late g (.cells cs t (0,0)) w (w.setRow g cs):=by
 have c:(w.setRow g cs).heap[g]? = some (.cells cs t (0,0)):=setRow_heap _ _ _ _ _ _ d;refine⟨⟨rfl,rfl,rfl,by simp[World.setRow],fun k i h=>?_⟩,.inr c,fun _=>c⟩;have b:g≠k:=fun e=>h (by rw[e])
 simp[World.setRow,Array.getElem?_modify,b]
section
variable {P:Program}
def sE (g:Nat) (X:Obj):List (Option (Value->World->Prop))->Prop
 | []=>True
 | none::l=>sE g X l
 | some V::l=>(∀u w w',Late g X w w'->V u w->V u w')/\sE g X l
theorem mG (g:Nat) (X:Obj):∀(cs:List Value) (l:List (Option (Value->World->Prop))),sE g X l->ef (Late g X) (aq cs l)
 | [],[],_=>trivial
 | [],_::_,_=>trivial
 | _::_,[],_=>trivial
 | _::cs,none::l,h=>⟨fun _ _ _ _ a=>a,mG g X cs l h⟩
 | _::cs,some _::l,h=>⟨h.1,mG g X cs l h.2⟩
variable {a:Act}
theorem kO {id:Nat} {Q:Exit->Act->World->Prop} {l:List Oper} (g:Nat) (X:Obj) (n:Nat) (cs:List Value) (W:List (Option (Value->World->Prop))) (D:List (List Nat))
  (p:P.follows .mixedOrders=true) (e:iU l.toArray n D=true) (u:(aq cs W).length<=n) (o:sE g X W)
  (q:ay P (Late g X w) (Late g X) l.toArray (aq cs W) D (l.take n) a (l.take n) 0)
  (i:∀b w',Late g X w w'->aG cs W 0 b w'->wpList P l.toArray Q (l.drop n) (af b (l.take n) 0 a) w') :
  (Code.region id l.toArray true).wp P Q a w :=
 mQ (C:=Late g X w) (le:=Late g X) n (aq cs W) D p (fun _ _ h k=>h.trans k) ⟨⟨rfl,rfl,rfl,Nat.le_refl _,fun _ _ _=>rfl⟩,.inl rfl,fun h=>h⟩ e (mG g X cs W o) q
  fun b w' c d=>i b w' c (kF b w' cs W 0 fun j r=>by
   rw[Nat.zero_add];exact j' d j (List.mem_range.2 (by omega)))
theorem lI {o:Oper} {R:Value->World->Prop} {ys:Nat->Option Bool} (c:o.guard=none) (d:TypeId) (x y:Operand) (k:o.op=.store d x y)
  (g:Nat) (cells:Array Value) (l:a.eval x=.pointer (some ⟨g,0,none⟩)) (n:a.eval y=.agg cells)
  (t:TypeId) (old:Array Value) (i:w.heap[g]? = some (.cells old t (0,0))) (j:(P.info? d).map (·.size)=some cells.size)
  (b:old.size=cells.size) (e:cells.all (·.oneCell')=true)
  (h:R undef (w.setRow g cells)):if Region.wanted o ys then dW P R ((execOp a.eval o).run P w)else R undef w:=by
 rw[if_pos (by simp[Region.wanted,c])];unfold execOp;simp only[k,l,n,Instr.storeAt,Instr.sureAddr,Sem.run_bind,Sem.run_pure,Result.andThen_ok,run_storeVar_row w g t d old cells i j b e];exact h
end
end
end Go.Proofs.YtgfegpnmlkdjfaaGreatDoor
