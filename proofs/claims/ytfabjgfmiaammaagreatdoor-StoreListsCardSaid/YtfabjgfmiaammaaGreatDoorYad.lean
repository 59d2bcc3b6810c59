/- Contracts of the program's functions and plain laws behind the card. Conditions: as each theorem states. -/
import Derived.Test.YtfabjgfmiaammaaGreatDoorYac
import Derived.Maps.RangeWalk
import Derived.Maps.OwnSet
import Derived.Maps.Ext
set_option linter.unusedVariables false
set_option linter.unusedSimpArgs false
set_option linter.unusedSectionVars false
set_option maxRecDepth 100000
set_option maxHeartbeats 64000000
namespace Go.Proofs.YtfabjgfmiaammaaGreatDoor
section
open Go Go.RowKit
structure Fr (O:Nat->Prop) (w w':World):Prop where
 os:w'.os=w.os
 tape:w'.tape=w.tape
 output:w'.output=w.output
 size:w.heap.size<=w'.heap.size
 block:∀k,k<w.heap.size->(¬O k\/IsU8 w k)->w'.heap[k]? = w.heap[k]?
def Nw (O:Nat->Prop) (w w':World) (k:Nat):Prop:=O k\/(w.heap.size<=k/\k<w'.heap.size)
theorem Fr.refl (O:Nat->Prop) (w:World):Fr O w w:=⟨rfl,rfl,rfl,Nat.le_refl _,fun _ _ _=>rfl⟩
variable {w w':World} {k:Nat}
theorem IsU8.fr {O:Nat->Prop} (h:Fr O w w') (a:IsU8 w k):IsU8 w' k:=a.same (h.block k a.lt (.inr a))
variable {a:World}
theorem Fr.trans {O:Nat->Prop} {b c:World} (h:Fr O a b) (k:Fr (Nw O a b) b c):Fr O a c :=
 ⟨k.os.trans h.os,k.tape.trans h.tape,k.output.trans h.output,Nat.le_trans h.size k.size,fun i g d=>by
  have j:=h.block i g d;rw[<-j];refine k.block i (Nat.lt_of_lt_of_le g h.size) ?_;rcases d with d | l
  .exact .inl (fun e=>by rcases e with e | e;exact d e;omega)
  .exact .inr (l.fr h)⟩
theorem Fr.mono {O O':Nat->Prop} (h:Fr O w w') (e:∀k,O k->O' k):Fr O' w w' :=
 ⟨h.os,h.tape,h.output,h.size,fun k c d=>h.block k c (d.imp (fun a b=>a (e k b)) id)⟩
theorem Fr.BX {O:Nat->Prop} (h:Ext w w'):Fr O w w':=⟨h.os,h.tape,h.output,h.size,fun k a _=>h.block k a⟩
variable {g:Nat}
theorem Fr.B1 {O:Nat->Prop} (h:w.grownBy w' (some g)) (c:O g) (e:¬IsU8 w g):Fr O w w' :=
 ⟨h.os,h.tape,h.output,h.size,fun k d b=>h.block k d (by
  rintro a;simp only[Option.some.injEq]at a;subst a;rcases b with b | b
  .exact b c
  .exact e b)⟩
theorem Fr.keep {O:Nat->Prop} (h:Fr O w w'):KeepB w w':=⟨h.size,fun k a=>h.block k a.lt (.inr a)⟩
theorem Fr.row {O:Nat->Prop} (h:Fr O w w') {o:Obj} (a:w.heap[k]? = some o) (b:¬O k):w'.heap[k]? = some o :=
 (h.block k (Array.getElem?_eq_some_iff.1 a).1 (.inl b)).trans a
theorem Nw.nw {O:Nat->Prop} {b c:World} (h:a.heap.size<=b.heap.size) (e:b.heap.size<=c.heap.size) (d:Nw (Nw O a b) b c k):Nw O a c k:=by
 rcases d with(d | d) | d
 .exact .inl d
 .exact .inr ⟨d.1,by omega⟩
 .exact .inr ⟨by omega,d.2⟩
theorem Nw.fst {O:Nat->Prop} {b c:World} (e:b.heap.size<=c.heap.size) (d:Nw O a b k):Nw O a c k:=by
 rcases d with d | d
 .exact .inl d
 .exact .inr ⟨d.1,by omega⟩
theorem Ext.Cb {O:Nat->Prop} {b:World} (a:Ext b w) (h:Fr O w w') (e:∀k,O k->b.heap.size<=k):Ext b w' :=
 ⟨h.os.trans a.os,h.tape.trans a.tape,h.output.trans a.output,Nat.le_trans a.size h.size,fun k c=>(h.block k (Nat.lt_of_lt_of_le c a.size) (.inl (fun d=>by have:=e k d;omega))).trans (a.block k c)⟩
def Inn (R:Nat->Prop) (v:Value):Prop:=∀k,v.ownBlock=some k->R k
variable {v:Value}
theorem Inn.mono {R R':Nat->Prop} (h:Inn R v) (b:∀k,R k->R' k):Inn R' v:=fun k a=>b k (h k a)
theorem Inn.nil (R:Nat->Prop) (n c:Nat):Inn R (.slice none n c):=fun k a=>by simp[Value.ownBlock]at a
structure IsData (R:Nat->Prop) (w:World) (v:Value) (l:B8):Prop where
 bytes:IsBytes w v l
 typed:TypB w v
 CM:Inn R v
theorem IsData.mono {R R':Nat->Prop} {l:B8} (h:IsData R w v l) (a:∀k,R k->R' k):IsData R' w v l:=⟨h.bytes,h.typed,h.CM.mono a⟩
theorem IsData.keep {R:Nat->Prop} {l:B8} (h:IsData R w v l) (k:KeepB w w'):IsData R w' v l:=⟨Row.B' h.bytes h.typed k,h.typed.keep k,h.CM⟩
theorem IsData.nil (R:Nat->Prop) (w:World):IsData R w (.slice none 0 0) []:=⟨Row.nil _,TypB.nil _ _ _,Inn.nil _ _ _⟩
def KeepR (R:Nat->Prop) (w w':World):Prop:=w.heap.size<=w'.heap.size/\∀k,R k->IsU8 w k->w'.heap[k]? = w.heap[k]?
theorem KeepR.B2 {R:Nat->Prop} (h:KeepB w w'):KeepR R w w':=⟨h.1,fun k _ a=>h.2 k a⟩
theorem KeepR.trans {R:Nat->Prop} {b c:World} (h:KeepR R a b) (k:KeepR R b c):KeepR R a c:=⟨Nat.le_trans h.1 k.1,fun i e d=>(k.2 i e (d.same (h.2 i e d))).trans (h.2 i e d)⟩
theorem IsData.BZ {R:Nat->Prop} {l:B8} (h:IsData R w v l) (q:KeepR R w w'):IsData R w' v l:=by
 obtain⟨⟨a,d,rfl,x,y,z,A⟩,r,j⟩:=h;refine⟨⟨a,d,rfl,x,y,z,fun C=>?_⟩,fun t n c g=>?_,j⟩
 .obtain ⟨b,o,rfl,B⟩:=A C;refine⟨b,o,rfl,fun i u D=>?_⟩;have e:=B i u D;rw[World.cell?_of_block (w:=w) (w':=w') (a:=⟨b,o+i,none⟩) (q.2 _ (j b rfl) (r ⟨b,o,none⟩ _ _ rfl))];exact e
 .have p:=r t n c g;simp only[Value.slice.injEq]at g;obtain⟨rfl,-⟩:=g;exact p.same (q.2 _ (j _ rfl) p)
def eQ (v:Value):Option (DataW Value×List MemPlace):=some (.held v,[])
abbrev fiV (f:Fi) (v:Value):Value:=.agg #[.int .i64 f.mode,v,.int .i64 f.time]
def dat (b:B8->Value) (l:ax):DataW Value:=.map (l.map fun e=>(.string e.1,.held (fiV e.2 (b e.1))))
def Rising:ax->Prop:=List.Pairwise fun a b=>ltB a.1 b.1=true
structure IsFiles (R:Nat->Prop) (w:World) (b:Nat) (l:ax):Prop where
 CS:Rising l
 short:∀e∈l,e.1.length<=10000000
 map:∃sl:B8->Value,w.ownsMap Tryz.prog 9 eQ b l.length (dat sl l)/\∀e∈l,IsData R w (sl e.1) e.2.data
variable {b:Nat} {l:ax}
theorem IsFiles.mono {R R':Nat->Prop} (h:IsFiles R w b l) (j:∀k,R k->R' k):IsFiles R' w b l:=by
 obtain⟨c,a,n,d,g⟩:=h;exact⟨c,a,n,d,fun e i=>(g e i).mono j⟩
theorem IsFiles.stay {R:Nat->Prop} (h:IsFiles R w b l) (o:w'.heap[b]? = w.heap[b]?) (p:KeepR R w w'):IsFiles R w' b l:=by
 obtain⟨i,g,r,⟨d,a,c,F,q,n⟩,j⟩:=h;exact⟨i,g,r,⟨d,a,o.trans c,F,q,n⟩,fun e c=>(j e c).BZ p⟩
theorem IsFiles.lt {R:Nat->Prop} (h:IsFiles R w b l):b<w.heap.size:=by
 obtain⟨_,_,c,a,_⟩:=h;exact a.lt
theorem IsFiles.Cj {R:Nat->Prop} (h:IsFiles R w b l):¬IsU8 w b:=by
 obtain⟨_,_,j,⟨g,a,d,_⟩,_⟩:=h;rintro⟨e,t,i,c,-⟩;rw[d]at c;cases c
def IsCh (R:Nat->Prop) (w:World) (cs:List Value):Ch->Prop
 | .put p f=>p.length<=10000000/\∃v,cs=[S8 p,S8 [],.bool true,.int .i64 f.mode,v,.int .i64 f.time]/\IsData R w v f.data
 | .mv s d=>s.length<=10000000/\d.length<=10000000/\s≠[]/\cs=[S8 d,S8 s,.bool false,.int .i64 0,.slice none 0 0,.int .i64 0]
 | .del p=>p.length<=10000000/\cs=[S8 p,S8 [],.bool false,.int .i64 0,.slice none 0 0,.int .i64 0]
variable {cs:List Value} {c:Ch}
theorem IsCh.mono {R R':Nat->Prop} (h:IsCh R w cs c) (g:∀k,R k->R' k):IsCh R' w cs c:=by
 cases c with
 | put p f =>
  obtain⟨a,v,b,e⟩:=h;exact⟨a,v,b,e.mono g⟩
 | mv s d=>exact h
 | del p=>exact h
theorem IsCh.BZ {R:Nat->Prop} (h:IsCh R w cs c) (g:KeepR R w w'):IsCh R w' cs c:=by
 cases c with
 | put p f =>
  obtain⟨a,v,b,e⟩:=h;exact⟨a,v,b,e.BZ g⟩
 | mv s d=>exact h
 | del p=>exact h
theorem IsCh.length {R:Nat->Prop} (h:IsCh R w cs c):cs.length=6/\cs.all (·.oneCell')=true:=by
 cases c with
 | put p f =>
  obtain⟨_,v,rfl,a⟩:=h;obtain⟨_,_,rfl,_⟩:=a.bytes;exact⟨rfl,by simp[Value.oneCell']⟩
 | mv s d=>obtain⟨_,_,_,rfl⟩:=h;exact⟨rfl,by simp[Value.oneCell']⟩
 | del p=>obtain⟨_,rfl⟩:=h;exact⟨rfl,by simp[Value.oneCell']⟩
def IsEvR (R:Nat->Prop) (w:World) (cs:List Value) (e:Ev):Prop:=∃d,cs=[.int .i64 e.t,.int .i64 e.kind,.int .i64 e.mode,.int .i64 e.keep,.int .i64 e.BW,S8 e.path,d]/\IsData R w d e.data/\e.path.length<=10000000
variable {e:Ev}
theorem IsEvR.mono {R R':Nat->Prop} (h:IsEvR R w cs e) (g:∀k,R k->R' k):IsEvR R' w cs e:=by
 obtain⟨v,a,b,d⟩:=h;exact⟨v,a,b.mono g,d⟩
theorem IsEvR.BZ {R:Nat->Prop} (h:IsEvR R w cs e) (g:KeepR R w w'):IsEvR R w' cs e:=by
 obtain⟨v,a,b,d⟩:=h;exact⟨v,a,b.BZ g,d⟩
theorem IsEvR.length {R:Nat->Prop} (h:IsEvR R w cs e):cs.length=7/\cs.all (·.oneCell')=true:=by
 obtain⟨v,rfl,a,_⟩:=h;obtain⟨_,_,rfl,_⟩:=a.bytes;exact⟨rfl,by simp[Value.oneCell']⟩
def Each {α:Type} (p:List Value->α->Prop) (d:List (List Value)) (xs:List α):Prop:=d.length=xs.length/\∀(i:Nat) c x,d[i]? = some c->xs[i]? = some x->p c x
theorem Each.nil {α:Type} (p:List Value->α->Prop):Each p [] []:=⟨rfl,fun i c x a=>by simp at a⟩
variable {css:List (List Value)}
theorem Each.imp {α:Type} {p q:List Value->α->Prop} {xs:List α} (h:Each p css xs) (a:∀c x,p c x->q c x):Each q css xs:=⟨h.1,fun i c x b d=>a c x (h.2 i c x b d)⟩
theorem Each.snoc {α:Type} {p:List Value->α->Prop} {xs:List α} (h:Each p css xs) {c:List Value} {x:α} (o:p c x):Each p (css++[c]) (xs++[x]):=by
 refine⟨by simp[h.1],fun i d y a b=>?_⟩;rw[List.getElem?_append]at a b
 by_cases e:i<css.length
 .rw [if_pos e]at a;rw[if_pos (by rw[<-h.1];exact e)]at b;exact h.2 i d y a b
 .rw [if_neg e]at a;rw[if_neg (by rw[<-h.1];exact e)]at b;have n:=(List.getElem?_eq_some_iff.1 a).1;have j:i - css.length=0:=by simp at n;omega
  have g:i - xs.length=0:=by rw[<-h.1];exact j
  rw[j]at a;rw[g]at b;have k:c=d:=by simpa using a
  have l:x=y:=by simpa using b
  rw[<-k,<-l];exact o
def OwnL {α:Type} (w:World) (t:TypeId) (d:Nat) (p:List Value->α->Prop) (v:Value) (xs:List α):Prop:=∃css:List (List Value),w.ownsRow 0 t d v xs.length css.flatten/\Each p css xs
def ReadL {α:Type} (w:World) (t:TypeId) (p:List Value->α->Prop) (v:Value) (xs:List α):Prop:=∃css:List (List Value),Row w v xs.length css.flatten/\Typed t w v/\Each p css xs
structure Parts (S O R:Nat->Prop) (w:World) (gm gd:Nat) (vp vl vu:Value) (now sure:ax) (pend:List Ch) (L users:List Ev):Prop where
 ne:gm≠gd
 om:O gm
 od:O gd
 now:IsFiles R w gm now
 sure:IsFiles R w gd sure
 pend:OwnL w 194 6 (IsCh R w) vp pend
 op:Inn O vp
 plan:ReadL w 121 (IsEvR R w) vl L
 ol:Inn S vl
 users:OwnL w 121 7 (IsEvR R w) vu users
 ou:Inn O vu
 off:∀k,vu.ownBlock=some k->vl.ownBlock≠some k
abbrev bc (i:Int) (n j:Nat) (p o:Value) (d:Nat) (q:Value) (time:Nat) (h:Bool):Array Value:=#[.int .i64 i,.map (some n),.map (some j),p,o,.int .i64 d,q,.int .i64 time,.bool h]
def IsFs (S O R:Nat->Prop) (w:World) (p:Value) (m:Fs):Prop:=∃(g i h:Nat) (n j o:Value) (L:List Ev) (d:Nat),p=.pointer (some ⟨g,0,none⟩) /\
  w.heap[g]? = some (.cells (bc m.room i h n j m.calls o m.time m.down) 79 (0,0))/\O g/\Parts S O R w i h n j o m.now m.sure m.pend L m.users/\m.plan=L.filter (fun e=>decide ((d:Int)<e.t))/\d<=m.calls/\L.length<=1000
variable {t:TypeId}
theorem ReadL.mono {α:Type} {p q:List Value->α->Prop} {xs:List α} (h:ReadL w t p v xs) (b:∀c x,p c x->q c x):ReadL w t q v xs:=by
 obtain⟨a,d,e,g⟩:=h;exact⟨a,d,e,g.imp b⟩
variable {size:Nat}
theorem OwnL.mono {α:Type} {p q:List Value->α->Prop} {xs:List α} (h:OwnL w t size p v xs) (b:∀c x,p c x->q c x):OwnL w t size q v xs:=by
 obtain⟨a,d,e⟩:=h;exact⟨a,d,e.imp b⟩
theorem OwnL.stay {α:Type} {p:List Value->α->Prop} {xs:List α} (h:OwnL w t size p v xs) (n:∀k,v.ownBlock=some k->w'.heap[k]? = w.heap[k]?):OwnL w' t size p v xs:=by
 obtain⟨b,⟨o,d⟩,e⟩:=h;refine⟨b,⟨o,d.imp id ?_⟩,e⟩;rintro⟨g,a,c,rfl,i,j,l⟩;exact⟨g,a,c,rfl,i,(n g rfl).trans j,l⟩
theorem Row.stay {n:Nat} (h:Row w v n cs) (p:∀k,v.ownBlock=some k->w'.heap[k]? = w.heap[k]?):Row w' v n cs:=by
 obtain⟨a,d,rfl,e,g,j,l⟩:=h;refine⟨a,d,rfl,e,g,j,fun r=>?_⟩;obtain⟨b,o,rfl,q⟩:=l r;refine⟨b,o,rfl,fun i u t=>?_⟩;rw[World.cell?_of_block (w:=w) (w':=w') (a:=⟨b,o+i,none⟩) (p b rfl)];exact q i u t
theorem Typed.stay {e:TypeId} (h:Typed e w v) (i:∀k,v.ownBlock=some k->w'.heap[k]? = w.heap[k]?):Typed e w' v:=fun a n c b=>by
 obtain⟨d,g,j⟩:=h a n c b;subst b;exact⟨d,g,(i a.block rfl).trans j⟩
theorem ReadL.stay {α:Type} {p:List Value->α->Prop} {xs:List α} (h:ReadL w t p v xs) (b:∀k,v.ownBlock=some k->w'.heap[k]? = w.heap[k]?):ReadL w' t p v xs:=by
 obtain⟨a,c,d,e⟩:=h;exact⟨a,c.stay b,d.stay b,e⟩
variable {gm gd:Nat} {vp vl vu:Value} {now sure:ax} {pend:List Ch} {L users:List Ev}
theorem Parts.mono {S O O' R R':Nat->Prop} (h:Parts S O R w gm gd vp vl vu now sure pend L users) (d:∀k,O k->O' k) (a:∀k,R k->R' k):Parts S O' R' w gm gd vp vl vu now sure pend L users :=
 ⟨h.ne,d _ h.om,d _ h.od,h.now.mono a,h.sure.mono a,h.pend.mono (fun c x b=>b.mono a),h.op.mono d,h.plan.mono (fun c x b=>b.mono a),h.ol,h.users.mono (fun c x b=>b.mono a),h.ou.mono d,h.off⟩
theorem OwnL.lt {α:Type} {q:List Value->α->Prop} {xs:List α} (h:OwnL w t size q v xs):∀k,v.ownBlock=some k->k<w.heap.size:=by
 obtain⟨a,c,_⟩:=h;exact fun k b=>(c.lt k b).2
theorem OwnL.typed {α:Type} {q:List Value->α->Prop} {xs:List α} (h:OwnL w t size q v xs):∀k,v.ownBlock=some k->∃cs i,w.heap[k]? = some (.cells cs t i):=by
 obtain⟨e,⟨_,j⟩,_⟩:=h;intro k b;rcases j with⟨rfl,_⟩ | ⟨g,d,a,rfl,_,l,_⟩
 .simp [Value.ownBlock]at b
 .have:g=k:=by simpa [Value.ownBlock]using b
  subst this;exact⟨a,(0,0),l⟩
theorem ReadL.typed {α:Type} {p:List Value->α->Prop} {xs:List α} (h:ReadL w t p v xs):∀k,v.ownBlock=some k->∃cs e,w.heap[k]? = some (.cells cs t e):=by
 obtain⟨d,_,g,_⟩:=h;intro k b
 cases v with
 | slice a n c =>
  cases a with
  | none=>simp[Value.ownBlock]at b
  | some a =>
   have:a.block=k:=by simpa [Value.ownBlock]using b
   subst this;exact g a n c rfl
 | _=>simp[Value.ownBlock]at b
theorem IsFiles.kind {R:Nat->Prop} (h:IsFiles R w b l):∃c a,w.heap[b]? = some (.map c a):=by
 obtain⟨_,_,e,⟨c,a,d,_⟩,_⟩:=h;exact⟨c,a,d⟩
theorem Parts.stay {S O R:Nat->Prop} (h:Parts S O R w gm gd vp vl vu now sure pend L users)
  (g:w'.heap[gm]? = w.heap[gm]?) (d:w'.heap[gd]? = w.heap[gd]?) (i:∀k,vp.ownBlock=some k->w'.heap[k]? = w.heap[k]?) (e:∀k,vl.ownBlock=some k->w'.heap[k]? = w.heap[k]?) (j:∀k,vu.ownBlock=some k->w'.heap[k]? = w.heap[k]?) (a:KeepR R w w') :
  Parts S O R w' gm gd vp vl vu now sure pend L users :=
 ⟨h.ne,h.om,h.od,h.now.stay g a,h.sure.stay d a,(h.pend.stay i).mono (fun c x b=>b.BZ a),h.op,(h.plan.stay e).mono (fun c x b=>b.BZ a),h.ol,(h.users.stay j).mono (fun c x b=>b.BZ a),h.ou,h.off⟩
theorem Parts.CD {S O R:Nat->Prop} (h:Parts S O R w gm gd vp vl vu now sure pend L users)
  (b:∀k,O k->k<w.heap.size->w'.heap[k]? = w.heap[k]?) (e:∀k,S k->k<w.heap.size->w'.heap[k]? = w.heap[k]?) (d:KeepR R w w'):Parts S O R w' gm gd vp vl vu now sure pend L users :=
 h.stay (b _ h.om h.now.lt) (b _ h.od h.sure.lt) (fun k a=>b k (h.op k a) (h.pend.lt k a)) (fun k a=>e k (h.ol k a) (by obtain⟨g,i,c⟩:=h.plan.typed k a;exact(Array.getElem?_eq_some_iff.1 c).1)) (fun k a=>b k (h.ou k a) (h.users.lt k a)) d
theorem Parts.ext {S O R:Nat->Prop} (h:Parts S O R w gm gd vp vl vu now sure pend L users) (b:Ext w w'):Parts S O R w' gm gd vp vl vu now sure pend L users :=
 h.CD (fun k _ a=>b.block k a) (fun k _ a=>b.block k a) (KeepR.B2 (KeepB.BX b))
variable {row:Option Nat}
theorem cw {R:Nat->Prop} (b:w.grownBy w' row) (d:∀k,row=some k->¬IsU8 w k):KeepR R w w' :=
 ⟨b.size,fun k _ c=>b.block k c.lt (fun a=>d k a.symm c)⟩
theorem cD {a:Nat} {x y:Obj} (e:w.heap[a]? = some x) (d:w.heap[b]? = some y) (c:x≠y):a≠b:=by
 rintro rfl;rw[e]at d;exact c (Option.some.inj d)
variable {fr:Nat×Nat}
theorem aw {cs:Array Value} (h:w.heap[k]? = some (.cells cs t fr)) (b:j9 Tryz.prog 5 Tryz.prog.depth t=false):¬IsU8 w k:=by
 rintro⟨d,i,e,a,g⟩;rw[h]at a;simp only[Option.some.injEq,Obj.cells.injEq]at a;rw[a.2.1,g]at b;cases b
theorem Parts.own {S O R:Nat->Prop} (h:Parts S O R w gm gd vp vl vu now sure pend L users)
 {cs:Array Value} (e:w.heap[g]? = some (.cells cs 79 fr)) (j:w.grownBy w' (some g)):Parts S O R w' gm gd vp vl vu now sure pend L users:=by
 obtain⟨t,q,o⟩:=h.now.kind;obtain⟨u,r,p⟩:=h.sure.kind;have d:∀k,(∃x,w.heap[k]? = some x/\x≠Obj.cells cs 79 fr)->w'.heap[k]? = w.heap[k]?:=fun k ⟨x,a,n⟩=>j.block k (Array.getElem?_eq_some_iff.1 a).1 (by simpa using cD a e n)
 refine h.stay (d _ ⟨_,o,by simp⟩) (d _ ⟨_,p,by simp⟩) (fun k b=>?_) (fun k b=>?_) (fun k b=>?_) (cw j (by rintro k i;simp at i;subst i;exact aw e (by kernel_rfl)))
 .obtain ⟨l,f,a⟩:=h.pend.typed k b;exact d k ⟨_,a,by simp⟩
 .obtain ⟨l,f,a⟩:=h.plan.typed k b;exact d k ⟨_,a,by simp⟩
 .obtain ⟨l,f,a⟩:=h.users.typed k b;exact d k ⟨_,a,by simp⟩
theorem Parts.CX {S O R:Nat->Prop} (h:Parts S O R w gm gd vp vl vu now sure pend L users)
  (g:w.grownBy w' (some gm)) {b:ax} (o:IsFiles R w' gm b):Parts S O R w' gm gd vp vl vu b sure pend L users:=by
 obtain⟨r,q,p⟩:=h.now.kind;have d:KeepR R w w':=cw g (by rintro k d;simp at d;subst d;exact h.now.Cj);have i:∀k,(∃j t l,w.heap[k]? = some (Obj.cells j t l))->w'.heap[k]? = w.heap[k]?:=fun k ⟨j,t,l,a⟩=>g.block k (Array.getElem?_eq_some_iff.1 a).1 (by simpa using cD a p (by simp))
 refine⟨h.ne,h.om,h.od,o,h.sure.stay (g.block _ h.sure.lt (by simpa using h.ne.symm)) d,(h.pend.stay (fun k e=>?_)).mono (fun c x a=>a.BZ d),h.op,(h.plan.stay (fun k e=>?_)).mono (fun c x a=>a.BZ d),h.ol,(h.users.stay (fun k e=>?_)).mono (fun c x a=>a.BZ d),h.ou,h.off⟩
 .obtain ⟨n,f,a⟩:=h.pend.typed k e;exact i k ⟨_,_,_,a⟩
 .obtain ⟨n,f,a⟩:=h.plan.typed k e;exact i k ⟨_,_,_,a⟩
 .obtain ⟨n,f,a⟩:=h.users.typed k e;exact i k ⟨_,_,_,a⟩
theorem Parts.Da {S O R:Nat->Prop} (h:Parts S O R w gm gd vp vl vu now sure pend L users)
  (g:w.grownBy w' (some gd)) {b:ax} (o:IsFiles R w' gd b):Parts S O R w' gm gd vp vl vu now b pend L users:=by
 obtain⟨r,q,p⟩:=h.sure.kind;have d:KeepR R w w':=cw g (by rintro k d;simp at d;subst d;exact h.sure.Cj);have i:∀k,(∃j t l,w.heap[k]? = some (Obj.cells j t l))->w'.heap[k]? = w.heap[k]?:=fun k ⟨j,t,l,a⟩=>g.block k (Array.getElem?_eq_some_iff.1 a).1 (by simpa using cD a p (by simp))
 refine⟨h.ne,h.om,h.od,h.now.stay (g.block _ h.now.lt (by simpa using h.ne)) d,o,(h.pend.stay (fun k e=>?_)).mono (fun c x a=>a.BZ d),h.op,(h.plan.stay (fun k e=>?_)).mono (fun c x a=>a.BZ d),h.ol,(h.users.stay (fun k e=>?_)).mono (fun c x a=>a.BZ d),h.ou,h.off⟩
 .obtain ⟨n,f,a⟩:=h.pend.typed k e;exact i k ⟨_,_,_,a⟩
 .obtain ⟨n,f,a⟩:=h.plan.typed k e;exact i k ⟨_,_,_,a⟩
 .obtain ⟨n,f,a⟩:=h.users.typed k e;exact i k ⟨_,_,_,a⟩
theorem Parts.Cz {S O R:Nat->Prop} (h:Parts S O R w gm gd vp vl vu now sure pend L users)
  (p:w.grownBy w' vp.ownBlock) {d:Value} {b:List Ch} (n:OwnL w' 194 6 (IsCh R w') d b) (r:Inn O d):Parts S O R w' gm gd d vl vu now sure b L users:=by
 obtain⟨B,z,t⟩:=h.now.kind;obtain⟨C,A,u⟩:=h.sure.kind;have e:KeepR R w w':=cw p (fun k e=>by obtain⟨g,i,a⟩:=h.pend.typed k e;exact aw a (by kernel_rfl));have j:∀k,(∃x,w.heap[k]? = some x/\∀g i,x≠Obj.cells g 194 i)->w'.heap[k]? = w.heap[k]?:=fun k ⟨x,a,n⟩=>p.block k (Array.getElem?_eq_some_iff.1 a).1 (fun l=>by
  obtain⟨g,i,q⟩:=h.pend.typed k l.symm;rw[a]at q;exact n g i (Option.some.inj q))
 refine⟨h.ne,h.om,h.od,h.now.stay (j _ ⟨_,t,by simp⟩) e,h.sure.stay (j _ ⟨_,u,by simp⟩) e,n,r,(h.plan.stay (fun k o=>?_)).mono (fun c x a=>a.BZ e),h.ol,(h.users.stay (fun k o=>?_)).mono (fun c x a=>a.BZ e),h.ou,h.off⟩
 .obtain ⟨y,f,a⟩:=h.plan.typed k o;exact j k ⟨_,a,by simp⟩
 .obtain ⟨y,f,a⟩:=h.users.typed k o;exact j k ⟨_,a,by simp⟩
theorem Parts.CB {S O R:Nat->Prop} (h:Parts S O R w gm gd vp vl vu now sure pend L users)
  (p:w.grownBy w' vu.ownBlock) {d:Value} {a:List Ev} (o:OwnL w' 121 7 (IsEvR R w') d a) (t:Inn O d) (i:∀k,d.ownBlock=some k->vl.ownBlock≠some k):Parts S O R w' gm gd vp vl d now sure pend L a:=by
 obtain⟨C,A,u⟩:=h.now.kind;obtain⟨D,B,y⟩:=h.sure.kind;have g:KeepR R w w':=cw p (fun k g=>by obtain⟨j,l,b⟩:=h.users.typed k g;exact aw b (by kernel_rfl));have q:∀k,(∃x,w.heap[k]? = some x/\∀j l,x≠Obj.cells j 121 l)->w'.heap[k]? = w.heap[k]?:=fun k ⟨x,b,o⟩=>p.block k (Array.getElem?_eq_some_iff.1 b).1 (fun e=>by
  obtain⟨j,l,r⟩:=h.users.typed k e.symm;rw[b]at r;exact o j l (Option.some.inj r))
 refine⟨h.ne,h.om,h.od,h.now.stay (q _ ⟨_,u,by simp⟩) g,h.sure.stay (q _ ⟨_,y,by simp⟩) g,(h.pend.stay (fun k n=>?_)).mono (fun c x b=>b.BZ g),h.op,(h.plan.stay (fun k n=>?_)).mono (fun c x b=>b.BZ g),h.ol,o,t,i⟩
 .obtain ⟨z,f,b⟩:=h.pend.typed k n;exact q k ⟨_,b,by simp⟩
 .obtain ⟨z,f,b⟩:=h.plan.typed k n;exact p.block k (Array.getElem?_eq_some_iff.1 b).1 (fun e=>h.off k e.symm n)
def On (O:Nat->Prop) (n:Nat) (k:Nat):Prop:=O k\/n<=k
theorem IsData.bound {R:Nat->Prop} {l:B8} (h:IsData R w v l):IsData (fun k=>R k/\k<w.heap.size) w v l :=
 ⟨h.bytes,h.typed,fun k d=>⟨h.CM k d,by
  cases v with
  | slice a n c =>
   cases a with
   | none=>simp[Value.ownBlock]at d
   | some a =>
    have e:=h.typed a n c rfl;have:a.block=k:=by simpa [Value.ownBlock]using d
    subst this;exact e.lt
  | _=>simp[Value.ownBlock]at d⟩⟩
theorem IsCh.bound {R:Nat->Prop} (h:IsCh R w cs c):IsCh (fun k=>R k/\k<w.heap.size) w cs c:=by
 cases c with
 | put p f =>
  obtain⟨a,v,b,e⟩:=h;exact⟨a,v,b,e.bound⟩
 | mv s d=>exact h
 | del p=>exact h
theorem IsEvR.bound {R:Nat->Prop} (h:IsEvR R w cs e):IsEvR (fun k=>R k/\k<w.heap.size) w cs e:=by
 obtain⟨v,a,b,d⟩:=h;exact⟨v,a,b.bound,d⟩
theorem IsFiles.bound {R:Nat->Prop} (h:IsFiles R w b l):IsFiles (fun k=>R k/\k<w.heap.size) w b l:=by
 obtain⟨c,a,j,d,g⟩:=h;exact⟨c,a,j,d,fun e i=>(g e i).bound⟩
theorem Parts.bound {S O R:Nat->Prop} (h:Parts S O R w gm gd vp vl vu now sure pend L users) :
  Parts S (fun k=>O k/\k<w.heap.size) (fun k=>R k/\k<w.heap.size) w gm gd vp vl vu now sure pend L users :=
 ⟨h.ne,⟨h.om,h.now.lt⟩,⟨h.od,h.sure.lt⟩,h.now.bound,h.sure.bound,h.pend.mono (fun c x b=>b.bound),fun k a=>⟨h.op k a,h.pend.lt k a⟩,h.plan.mono (fun c x b=>b.bound),h.ol,h.users.mono (fun c x b=>b.bound),fun k a=>⟨h.ou k a,h.users.lt k a⟩,h.off⟩
variable {p:Value} {m:Fs}
theorem IsFs.mono {S O O' R R':Nat->Prop} (h:IsFs S O R w p m) (a:∀k,O k->O' k) (o:∀k,R k->R' k):IsFs S O' R' w p m:=by
 obtain⟨g,d,c,r,q,t,L,b,e,i,j,l,n⟩:=h;exact⟨g,d,c,r,q,t,L,b,e,i,a _ j,l.mono a o,n⟩
theorem IsFs.fit {S O R:Nat->Prop} (h:IsFs S (On O w.heap.size) (On R w.heap.size) w' p m):IsFs S (Nw O w w') (Nw R w w') w' p m:=by
 obtain⟨g,j,i,t,r,u,L,e,l,c,n,o,q⟩:=h;have b:=(Array.getElem?_eq_some_iff.1 c).1;have a:∀(S:Nat->Prop) k,On S w.heap.size k/\k<w'.heap.size->Nw S w w' k:=fun S k d=>d.1.imp id (fun h=>⟨h,d.2⟩)
 exact⟨g,j,i,t,r,u,L,e,l,c,a O g ⟨n,b⟩,o.bound.mono (a O) (a R),q⟩
theorem IsFs.stay {S O R:Nat->Prop} (h:IsFs S O R w p m) (c:∀k,O k->k<w.heap.size->w'.heap[k]? = w.heap[k]?) (q:∀k,S k->k<w.heap.size->w'.heap[k]? = w.heap[k]?) (o:KeepR R w w'):IsFs S O R w' p m:=by
 obtain⟨g,i,e,t,r,u,L,d,j,a,b,l,n⟩:=h;exact⟨g,i,e,t,r,u,L,d,j,(c g b (Array.getElem?_eq_some_iff.1 a).1).trans a,b,l.CD c q o,n⟩
theorem IsFs.other {S O O' R:Nat->Prop} (h:IsFs S O R w p m) (b:Fr O' w w') (d:∀k,O k->¬O' k) (e:∀k,S k->¬O' k):IsFs S O R w' p m :=
 h.stay (fun k c a=>b.block k a (.inl (d k c))) (fun k c a=>b.block k a (.inl (e k c))) (KeepR.B2 b.keep)
theorem IsFs.ext {S O R:Nat->Prop} (h:IsFs S O R w p m) (b:Ext w w'):IsFs S O R w' p m :=
 h.stay (fun k _ a=>b.block k a) (fun k _ a=>b.block k a) (KeepR.B2 (KeepB.BX b))
variable {w1 w2:World}
theorem Fr.step {O:Nat->Prop} (h:Fr O w w1) (b:w1.grownBy w2 row) (e:∀k,row=some k->O k\/w.heap.size<=k) (g:∀k,row=some k->¬IsU8 w1 k):Fr O w w2 :=
 h.trans ⟨b.os,b.tape,b.output,b.size,fun k d c=>b.block k d (fun a=>by
  rcases c with c | c
  .exact c ((e k a.symm).imp id (fun h=>⟨h,d⟩))
  .exact g k a.symm c)⟩
theorem Fr.ext {O:Nat->Prop} (h:Fr O w w1) (a:Ext w1 w2):Fr O w w2:=h.trans (Fr.BX a)
end
section
open Go Go.RowKit
theorem nI:∀a b:B8,bytesBefore a b=ltB a b
 | [],[]=>by simp[bytesBefore,ltB]
 | [],_::_=>by simp[bytesBefore,ltB]
 | _::_,[]=>by simp[bytesBefore,ltB]
 | a::r,b::s=>by
  rw[bytesBefore,nI r s];unfold ltB;rw[Bool.eq_iff_iff];simp[List.cons_lt_cons_iff]
theorem fI:Maps.Keyed Tryz.prog 9:=Maps.string_keyed Tryz.underlying9
theorem j' (p:B8) (h:p.length<=10000000):keyOf Tryz.prog 9 (S8 p)=some (.string p):=by
 have a:p.length<=maxLen:=by unfold maxLen;omega
 simp[keyOf,mapKey,Tryz.underlying9,ByteArray.size,a]
theorem tZ (w:World):(zeroValue 56).run Tryz.prog w=.ok (.agg #[.int .i64 0,.slice none 0 0,.int .i64 0]) w:=by kernel_rfl
def en (a:B8->Value) (e:B8×Fi):Lit×DataW Value:=(.string e.1,.held (fiV e.2 (a e.1)))
theorem jZ (a:B8->Value) (l:ax):dat a l=.map (l.map (en a)):=rfl
def kW (a:B8->Value) (p:B8) (v:Value):B8->Value:=fun q=>if q=p then v else a q
theorem lm (a:B8->Value) (p:B8):∀l:ax,(l.map (en a)).filter (fun q=>!q.1.sameKey (.string p))=(ch l p).map (en a)
 | []=>rfl
 | e::l=>by
  have b:=lm a p l;unfold ch at b ⊢;have c:(en a e).1.sameKey (.string p)=(e.1==p):=rfl;rw[List.map_cons,List.filter_cons,List.filter_cons,c];split
  .rw [List.map_cons,b]
  .exact b
theorem tJ (a:B8->Value) (p:B8) (v:Value):∀l:ax,(∀e∈l,e.1≠p)->l.map (en (kW a p v))=l.map (en a)
 | [],_=>rfl
 | e::l,h=>by
  rw[List.map_cons,List.map_cons,tJ a p v l (fun e b=>h e (by simp[b]))];congr 1;unfold en kW;rw[if_neg (h e (by simp))]
theorem pF (a:B8->Value) (x:B8×Fi):∀l:ax,DataW.insert (en a x) (l.map (en a))=(fT x l).map (en a)
 | []=>rfl
 | y::l=>by
  rw[List.map_cons,DataW.insert,fT];have b:(en a x).1.before (en a y).1=ltB x.1 y.1:=nI _ _;rw[b];split
  .rfl
  .rw [pF a x l];rfl
theorem lZ (l:ax) (p:B8):∀e∈ch l p,e.1≠p:=by
 intro e a;have:=(List.mem_filter.1 a).2;simpa using this
theorem zY (a:B8->Value) (l:ax) (p:B8) (f:Fi) (v:Value):(dat a l).put (.string p) (.held (fiV f v))=dat (kW a p v) (eA l p f):=by
 rw[jZ,jZ];unfold DataW.put eA;simp only;rw[lm,<-tJ a p v _ (lZ l p)];have:(Lit.string p,DataW.held (fiV f v))=en (kW a p v) (p,f):=by simp[en,kW]
 rw[this,pF]
theorem zW (a:B8->Value) (l:ax) (p:B8):(dat a l).del (.string p)=dat a (ch l p):=by
 rw[jZ,jZ];unfold DataW.del;simp only;rw[lm]
theorem tz (a:B8->Value) (p:B8):∀l:ax,(l.map (en a)).find? (fun q=>q.1.sameKey (.string p))=(l.find? fun e=>e.1==p).map (en a)
 | []=>rfl
 | e::l=>by
  have b:(en a e).1.sameKey (.string p)=(e.1==p):=rfl;rw[List.map_cons,List.find?_cons,List.find?_cons,b];cases e.1==p
  .exact tz a p l
  .rfl
theorem qH (a:B8->Value) (l:ax) (p:B8) (z:DataW Value):(dat a l).atKey (.string p) z=match aA l p with | some f=>.held (fiV f (a p)) | none=>z:=by
 rw[jZ];unfold DataW.atKey aA;simp only;rw[tz]
 cases h:l.find? fun e=>e.1==p with
 | none=>rfl
 | some e =>
  have:e.1=p:=by simpa using List.find?_some h
  subst this;rfl
theorem tv (c:B8->Value) (l:ax) (p:B8):Maps.has (dat c l) (.string p)=(aA l p).isSome:=by
 rw[jZ,Maps.has_eq,Bool.eq_iff_iff,List.any_eq_true];unfold aA;constructor
 .rintro ⟨q,d,b⟩;obtain⟨e,a,rfl⟩:=List.mem_map.1 d;have:e.1==p:=b;rw[Option.isSome_map,List.find?_isSome];exact⟨e,a,this⟩
 .intro h;rw[Option.isSome_map,List.find?_isSome]at h;obtain⟨e,a,b⟩:=h;exact⟨en c e,List.mem_map.2 ⟨e,a,rfl⟩,b⟩
variable {l:ax} {p:B8} {f:Fi}
theorem fd (h:aA l p=some f):(p,f)∈l:=by
 unfold aA at h;obtain⟨e,a,rfl⟩:=Option.map_eq_some_iff.1 h;have b:=List.mem_of_find?_eq_some a;have c:e.1=p:=by simpa using List.find?_some a
 rw[<-c];exact b
variable {a:B8}
theorem gg {b c:B8} (h:ltB a b=true) (k:ltB b c=true):ltB a c=true:=by
 unfold ltB at *;simp only[decide_eq_true_eq]at *;exact List.lt_trans h k
theorem fZ {b:B8} (h:ltB a b=false) (c:a≠b):ltB b a=true:=by
 unfold ltB at *;simp only[decide_eq_true_eq,decide_eq_false_iff_not]at *;exact Std.lt_of_le_of_ne (List.not_lt.1 h) (Ne.symm c)
theorem jh {b:B8} (h:ltB a b=true):a≠b:=by
 rintro rfl;unfold ltB at h;simp at h;exact absurd h (List.lt_irrefl a)
theorem Rising.del (h:Rising l) (p:B8):Rising (ch l p):=List.Pairwise.filter _ h
theorem Rising.ins {x:B8×Fi}:∀ {l:ax},Rising l->(∀e∈l,e.1≠x.1)->Rising (fT x l)
 | [],_,_=>by simp[fT,Rising]
 | y::l,h,g=>by
  obtain⟨d,i⟩:=List.pairwise_cons.1 h;unfold fT;split
  .rename_i b;exact List.pairwise_cons.2 ⟨fun e a=>by
    rcases List.mem_cons.1 a with rfl | a
    .exact b
    .exact gg b (d e a),h⟩
  .rename_i b;have c:=fZ (by simpa using b) (fun e=>g y (by simp) e.symm);refine List.pairwise_cons.2 ⟨fun e a=>?_,Rising.ins i (fun e a=>g e (by simp[a]))⟩;rcases ng.1 a with rfl | a
   .exact c
   .exact d e a
theorem Rising.put (h:Rising l) (p:B8) (f:Fi):Rising (eA l p f):=Rising.ins (h.del p) (lZ l p)
theorem kF {e:B8×Fi} (h:e∈eA l p f):e=(p,f)\/(e∈l/\e.1≠p):=by
 rcases ng.1 h with h | h
 .exact .inl h
 .exact .inr ⟨(List.mem_filter.1 h).1,lZ l p e h⟩
variable {w:World} {b:Nat}
theorem IsFiles.Ca {R:Nat->Prop} (h:IsFiles R w b l) (p:B8) (k:p.length<=10000000) :
  ∃v,(Instr.lookup 71 (.map (some b)) (S8 p) true).run Tryz.prog w=.ok (.tuple #[v,.bool (aA l p).isSome]) w/\(Instr.lookup 71 (.map (some b)) (S8 p) false).run Tryz.prog w=.ok v w /\
   (∀f,aA l p=some f->∃o,v=fiV f o/\IsData R w o f.data)/\(aA l p=none->v=.agg #[.int .i64 0,.slice none 0 0,.int .i64 0]):=by
 obtain⟨_,_,n,e,q⟩:=h;obtain⟨v,y,g,a⟩:=e.look_ok fI Tryz.underlying71 (tZ w) rfl (j' p k);obtain⟨c,x,r,i⟩:=e.lookup fI Tryz.underlying71 (tZ w) rfl (j' p k);rw[qH]at a i;have d:c=v:=by
  have t:(some (DataW.held v,([]:List MemPlace))).map (·.1)=(some (DataW.held c,([]:List MemPlace))).map (·.1):=by
   show(eQ v).map (·.1)=(eQ c).map (·.1);rw[a,i];rfl
  simpa using t.symm
 subst d;rw[tv]at g;refine⟨c,g,r,fun f j=>?_,fun u=>?_⟩
 .rw [j]at a;have:DataW.held c=DataW.held (fiV f (n p)):=congrArg Prod.fst (Option.some.inj a);exact⟨n p,DataW.held.inj this,q _ (fd j)⟩
 .rw [u]at a;have:DataW.held c=DataW.held _:=congrArg Prod.fst (Option.some.inj a);exact DataW.held.inj this
theorem dM {R:Nat->Prop} {w':World} (c:w.grownBy w' (some b)) (e:¬IsU8 w b):KeepR R w w' :=
 ⟨c.size,fun k _ d=>c.block k d.lt (by
  rintro a;simp only[Option.some.injEq]at a;subst a;exact e d)⟩
section
variable {ops:Array Oper} {rest:List Oper} {o:Oper} {a:Act} {Q:Exit->Act->World->Prop} {w:World}
theorem pX (k:o.guard=none) (m x v:Operand) (q:o.op=Op.mapUpdate 71 m x v) {R:Nat->Prop} (u:IsFiles R w b l) (N:l.length<=100000000)
  (J:a.eval m=.map (some b)) (p:B8) (A:p.length<=10000000) (M:a.eval x=S8 p) (f:Fi) (i:Value) (L:a.eval v=fiV f i) (I:IsData R w i f.data)
  (h:∀j,IsFiles R j b (eA l p f)->w.grownBy j (some b)->wpList Tryz.prog ops Q rest (a.put o.dst undef) j):wpList Tryz.prog ops Q (o::rest) a w:=by
 have K:=u.Cj;obtain⟨D,C,B,E,G⟩:=u;refine wpList_mapUpdate_own w k m x v _ q _ _ fI Tryz.underlying71 eQ b _ _ J E (by unfold maxLen;omega) (S8 p) (fiV f i) (.string p) M L (j' p A) (.held (fiV f i)) [] rfl ?_;intro j c y;rw[zY]at c;have z:KeepR R w j:=dM y K;refine h j ⟨D.put p f,fun e g=>?_,kW B p i,?_,fun e g=>?_⟩ y
 .rcases kF g with rfl | ⟨g,_⟩
  .exact A
  .exact C e g
 .obtain ⟨r,d,H,F,O,t⟩:=c;refine⟨r,d,H,F,?_,t⟩;have:Maps.size (dat (kW B p i) (eA l p f))=r.size:=by rw[t];simp[Maps.size,length_sorted]
  rw[<-this];simp[dat,Maps.size]
 .rcases kF g with rfl | ⟨g,n⟩
  .simp only[kW,if_pos];exact I.BZ z
  .simp only[kW,if_neg n];exact(G e g).BZ z
theorem pt (j:o.guard=none) (m x:Operand) (k:o.op=Op.call { callee:=Callee.builtin Builtin.delete,args:=#[m,x],argTypes:=#[71,9] }) {R:Nat->Prop} (r:IsFiles R w b l)
  (E:a.eval m=.map (some b)) (p:B8) (G:p.length<=10000000) (J:a.eval x=S8 p)
  (h:∀g,IsFiles R g b (ch l p)->w.grownBy g (some b)->wpList Tryz.prog ops Q rest (a.put o.dst (.tuple #[])) g):wpList Tryz.prog ops Q (o::rest) a w:=by
 have I:=r.Cj;obtain⟨z,y,u,A,B⟩:=r;refine wpList_delete_own w j m x _ _ k _ fI Tryz.underlying71 eQ b _ _ E A (S8 p) (.string p) J (j' p G) ?_;intro g c H;have t:=H.grown;rw[zW]at c;have D:KeepR R w g:=dM t I;refine h g ⟨z.del p,fun e i=>y e (List.mem_filter.1 i).1,u,?_,fun e i=>(B e (List.mem_filter.1 i).1).BZ D⟩ t;obtain⟨n,d,C,F,K,q⟩:=c;refine⟨n,d,C,F,?_,q⟩;have:Maps.size (dat u (ch l p))=n.size:=by rw[q];simp[Maps.size,length_sorted]
 rw[<-this];simp[dat,Maps.size]
end
end
section
open Go Go.RowKit
def Nu (w w':World) (k:Nat):Prop:=w.heap.size<=k/\k<w'.heap.size
theorem eL (v:Value) (l:B8) (w:World) (B:IsBytes w v l) (H:l.length<=140737488355328) :
  Calls Tryz.prog 54 #[v] w fun e n=>(∃v,e=.returned v/\IsData (Nu w n) n v l)/\Ext w n:=by
 obtain⟨a,d,rfl,E,F,G,q⟩:=B
 cases a with
 | none =>
  have A:l=[]:=by
   cases l with
   | nil=>rfl
   | cons x l=>obtain⟨b,o,j,_⟩:=q (by simp);cases j
  subst A;exact(Tryz.bytes_Clone_nil 0 d w).mono fun e n ⟨j,u⟩=>⟨⟨_,j,by rw[u];exact IsData.nil _ _⟩,by rw[u];exact Ext.refl _⟩
 | some y =>
  refine(Tryz.bytes_Clone_at y l.length d (l.map fun x=>(x.toNat:Int)) w (by simp) (by omega) (fun i r=>?_)).mono fun e n ⟨D,j,c,_,C⟩=>⟨⟨D,j,?_⟩,C⟩
  .have p:l≠[]:=by rintro rfl;simp at r
   obtain⟨b,o,h,z⟩:=q (by simpa using p);cases h;have g:(⟨b,o,none⟩:Addr).add i=⟨b,o+i,none⟩:=by unfold Addr.add;split <;> simp_all
   rw[g];refine z i _ ?_;simp[r]
  .rw [List.map_map]at c;exact⟨Row.BV c (by omega),TypB.BV c,fun k t=>⟨(c.lt k t).1,(c.lt k t).2⟩⟩
variable {w:World} {g:Nat} {v0 v1 v2:Value} {t:TypeId} {fr:Nat×Nat}
theorem cA {a b c:Value} (h:w.heap[g]? = some (.cells #[v0,v1,v2,a,b,c] t fr)) :
  w.cell? ⟨g,0,none⟩=some v0/\w.cell? ⟨g,1,none⟩=some v1/\w.cell? ⟨g,2,none⟩=some v2/\w.cell? ⟨g,3,none⟩=some a/\w.cell? ⟨g,4,none⟩=some b/\w.cell? ⟨g,5,none⟩=some c:=by
 simp[World.cell?,h]
theorem bL (h:w.heap[g]? = some (.cells #[v0,v1,v2] t fr)) :
  w.cell? ⟨g,0,none⟩=some v0/\w.cell? ⟨g,1,none⟩=some v1/\w.cell? ⟨g,2,none⟩=some v2:=by
 simp[World.cell?,h]
theorem jv (w:World) (p q:Obj):((w.alloc p).alloc q).heap[w.heap.size+1]? = some q:=by
 have:=ae (w.alloc p) q
 rwa [show(w.alloc p).heap.size=w.heap.size+1 by simp]at this
variable {w1 w2:World}
theorem dZ (h:Ext w w1) (a:w1.grownBy w2 (some g)):w.grownBy w2 (some g) :=
 ⟨a.os.trans h.os,a.tape.trans h.tape,a.output.trans h.output,Nat.le_trans h.size a.size,fun k b c=>(a.block k (Nat.lt_of_lt_of_le b h.size) c).trans (h.block k b)⟩
theorem dX (a:w.grownBy w1 (some g)) (h:Ext w1 w2):w.grownBy w2 (some g) :=
 ⟨h.os.trans a.os,h.tape.trans a.tape,h.output.trans a.output,Nat.le_trans a.size h.size,fun k b c=>(h.block k (Nat.lt_of_lt_of_le b a.size)).trans (a.block k b c)⟩
variable {w':World} {l:ax}
theorem IsFiles.ext {R:Nat->Prop} {b:Nat} (h:IsFiles R w b l) (a:Ext w w'):IsFiles R w' b l:=h.stay (a.block b h.lt) (KeepR.B2 (KeepB.BX a))
theorem IsData.ext {R:Nat->Prop} {v:Value} {l:B8} (h:IsData R w v l) (a:Ext w w'):IsData R w' v l:=h.keep (KeepB.BX a)
def kj (R:Nat->Prop) (w:World) (a:Nat) (l:ax) (e:Ending) (w':World):Prop:=e=.returned (.tuple #[])/\IsFiles R w' a l/\w.grownBy w' (some a)
variable {gm:Nat}
theorem ri {R:Nat->Prop} (p:B8) (f:Fi) (i:Value) (e:IsFiles R w gm l) (q:p.length<=10000000) (b:IsData R w i f.data) (n:l.length<=100000000) :
  Calls Tryz.prog 160 #[.map (some gm),.agg #[S8 p,S8 [],.bool true,.int .i64 f.mode,i,.int .i64 f.time]] w (kj R w gm (eA l p f)):=by
 have k:Hid _:=e;have j:Hid _:=b;obtain⟨r,u,rfl,-⟩:=b.bytes;clear e b;go_enter Tryz.func160,Tryz.ntmps160;have h:∀o:Obj,Ext w (w.alloc o):=fun o=>(Ext.refl w).alloc o
 have a:Hid _:=h;clear h
 go_wp2_with (at_mapUpdate;refine pX rfl _ _ _ rfl (k.out.ext (a.out _)) n rfl p q rfl f _ rfl (j.out.ext (a.out _)) ?_;intro x c d)
 go_end0
 exact⟨rfl,c,dZ (a.out _) d⟩
theorem yu {R:Nat->Prop} (p:B8) (d:IsFiles R w gm l) (i:p.length<=10000000) :
  Calls Tryz.prog 160 #[.map (some gm),.agg #[S8 p,S8 [],.bool false,.int .i64 0,.slice none 0 0,.int .i64 0]] w (kj R w gm (ch l p)):=by
 have h:Hid _:=d;clear d;go_enter Tryz.func160,Tryz.ntmps160;have e:∀o:Obj,Ext w (w.alloc o):=fun o=>(Ext.refl w).alloc o
 have c:Hid _:=e;clear e
 go_wp2_with (at_delete;refine pt rfl _ _ rfl (h.out.ext (c.out _)) rfl p i rfl ?_;intro j a b)
 go_end0
 exact⟨rfl,a,dZ (c.out _) b⟩
theorem Ar {R:Nat->Prop} (s d:B8) (f:Fi) (r:IsFiles R w gm l) (E:s.length<=10000000) (J:d.length<=10000000) (B:s≠[]) (k:aA l s=some f) (Z:l.length<=100000000) :
  Calls Tryz.prog 160 #[.map (some gm),.agg #[S8 d,S8 s,.bool false,.int .i64 0,.slice none 0 0,.int .i64 0]] w (kj R w gm (eA (ch l s) d f)):=by
 have e:Ext w (w.alloc (.cells #[S8 d,S8 s,.bool false,.int .i64 0,.slice none 0 0,.int .i64 0] 194)):=(Ext.refl w).alloc _;have j:=ae w (.cells #[S8 d,S8 s,.bool false,.int .i64 0,.slice none 0 0,.int .i64 0] 194);have M:=r.lt;have c:=r.ext e;obtain⟨v,-,D,F,-⟩:=c.Ca s E;obtain⟨sv,rfl,b⟩:=F f k;obtain⟨G,H,rfl,-⟩:=b.bytes;have C:Hid _:=c;have I:Hid _:=b;have p:Hid _:=j;have L:(⟨s.toArray⟩:ByteArray).toList=s:=Lib.toList_data _;have Y:s.isEmpty=false:=by cases s <;> simp_all
 have K:=dL l s;have n:w.heap.size≠gm:=by omega
 have i:∀(W:World) (o:Obj),Ext W (W.alloc o):=fun W o=>(Ext.refl W).alloc o
 have h:Hid _:=i;have q:Hid _:=e;clear c F b i r k B j e;go_enter Tryz.func160,Tryz.ntmps160
 go_wp2_with (first
  | (at_delete;go_must (refine pt rfl _ _ rfl (C.out.ext (h.out _ _)) rfl s E rfl ?_;intro w3 u a;have z:=(a.block w.heap.size (by simp;omega) (by simpa using n)).trans (Ext.row (h.out _ _) p.out);obtain⟨N,O,P,Q,S,T⟩:=cA z;have A:=(a.block (w.heap.size+1) (by simp) (by simp;omega)).trans (jv w _ (.cells #[.int .i64 f.mode,.slice G f.data.length H,.int .i64 f.time] 56));obtain⟨U,V,X⟩:=bL A))
  | (at_mapUpdate;go_must (refine pX rfl _ _ _ rfl u (by omega) rfl d J rfl f (.slice G f.data.length H) rfl ((I.out.ext (h.out _ _)).BZ (dM a (C.out.ext (h.out _ _)).Cj)) ?_;intro w4 x y)))
 go_end0
 exact⟨rfl,x,dZ q.out ((dZ (h.out _ _) a).trans y)⟩
theorem nf {R:Nat->Prop} (c:Ch) (cs:List Value) (h:IsFiles R w gm l) (e:IsCh R w cs c) (i:∀s d,c=.mv s d->(aA l s).isSome=true) (k:l.length<=100000000) :
  Calls Tryz.prog 160 #[.map (some gm),.agg cs.toArray] w (kj R w gm (ap l c)):=by
 cases c with
 | put p f =>
  obtain⟨a,v,rfl,b⟩:=e;exact ri p f v h a b k
 | mv s d =>
  obtain⟨a,b,n,rfl⟩:=e;obtain⟨f,j⟩:=Option.isSome_iff_exists.1 (i s d rfl);have:ap l (.mv s d)=eA (ch l s) d f:=by
   show(match aA l s with | some x=>eA (ch l s) d x | none=>l)=_;rw[j]
  rw[this];exact Ar s d f h a b n j k
 | del p =>
  obtain⟨a,rfl⟩:=e;exact yu p h a
end
section
open Go Go.RowKit
variable {kl:Lit}
theorem Am {a:Value} (h:keyOf Tryz.prog 9 a=some kl):∃x:ByteArray,a=.string x:=by
 cases a <;> simp[keyOf,mapKey,Tryz.underlying9]at h
 exact⟨_,rfl⟩
theorem An {x:ByteArray} (h:keyOf Tryz.prog 9 (.string x)=some kl):kl=.string x.data.toList:=by
 simp[keyOf,mapKey,Tryz.underlying9]at h;exact h.2.symm
def uZ (b:B8->Value) (l:ax):Prop:=∀p f,aA l p=some f->∃a c,b p=.slice a f.data.length c
section
variable {ops:Array Oper} {rest:List Oper} {o:Oper} {a:Act} {Q:Exit->Act->World->Prop} {w:World}
theorem iG (D:o.guard=none) (N:Operand) (I:o.op=Op.next N false) (b r n:Nat) (q:B8->Value) (l:ax) (left:Lit->Bool) (e:Nat)
  (E:a.eval N=.pointer (some ⟨r,0,none⟩)) (h:w.ranges Tryz.prog 9 eQ b r n (dat q l) left e) (S:uZ q l)
  (i:e=0->(∀kl,left kl=false)->wpList Tryz.prog ops Q rest (a.put o.dst (.tuple #[.bool false])) w)
  (j:∀(p:B8) (f:Fi) (g:Option Addr) (c:Nat) (w':World) (d:Nat),aA l p=some f->q p=.slice g f.data.length c->left (.string p)=true->(∀O,(dat q l).atKey (.string p) O=.held (.agg #[.int .i64 f.mode,.slice g f.data.length c,.int .i64 f.time])) ->
   w'.ranges Tryz.prog 9 eQ b r n (dat q l) (fun z=>left z && !z.sameKey (.string p)) d->d<e->w.grownBy w' (some r)->w'.heap.size=w.heap.size ->
   (Instr.entry (.pointer (some ⟨r,0,none⟩))).run Tryz.prog w'=.ok (.tuple #[S8 p,.agg #[.int .i64 f.mode,.slice g f.data.length c,.int .i64 f.time]]) w' ->
   wpList Tryz.prog ops Q rest (a.put o.dst (.tuple #[.bool true,S8 p,.agg #[.int .i64 f.mode,.slice g f.data.length c,.int .i64 f.time]])) w') :
  wpList Tryz.prog ops Q (o::rest) a w:=by
 refine wpList_next_ranges w D N I 9 fI eQ Value.string (id:Value->Value) (fun U kl F=>Am F) (fun v y _=>⟨v,rfl⟩) b r n (dat q l) left e E h i ?_;intro x v kl y w' d u R T k J H P K B;obtain rfl:=An u;have M:y.1=.held v:=by
  have:some (DataW.held v,([]:List MemPlace))=some y:=T;rw[<-Option.some.inj this]
 have G:∃f,aA l x.data.toList=some f:=by
  cases F:aA l x.data.toList with
  | some f=>exact⟨f,rfl⟩
  | none =>
   have t:=k .nil;rw[qH,F,M]at t;cases t
 obtain⟨f,C⟩:=G;obtain⟨g,c,A⟩:=S _ f C;have L:v=.agg #[.int .i64 f.mode,.slice g f.data.length c,.int .i64 f.time]:=by
  have t:=k .nil;rw[qH,C,M,A]at t;exact(DataW.held.inj t).symm
 subst L;exact j x.data.toList f g c w' d C A R (fun O=>by rw[k O,M]) J H P K B
end
theorem mQ (a:B8->Value) (l:ax):Maps.size (dat a l)=l.length:=by simp[dat,Maps.size]
variable {w:World} {b:Nat} {sl:B8->Value} {l:ax}
theorem yI {n:Nat} (h:w.ownsMap Tryz.prog 9 eQ b n (dat sl l)):w.ownsMap Tryz.prog 9 eQ b l.length (dat sl l):=by
 obtain⟨c,a,e,F,g,d⟩:=h;refine⟨c,a,e,F,?_,d⟩;have:Maps.size (dat sl l)=c.size:=by rw[d];simp[Maps.size,length_sorted]
 rw[<-this,mQ];exact Nat.le_refl _
theorem IsFiles.sliced {R:Nat->Prop} (h:∀e∈l,IsData R w (sl e.1) e.2.data):uZ sl l:=fun p f d=>by
 obtain⟨a,c,g,_⟩:=(h _ (fd d)).bytes;exact⟨a,c,g⟩
theorem eO {R:Nat->Prop} (hf:IsFiles R w b l) (T:l.length<=100000000) :
  Calls Tryz.prog 161 #[.map (some b)] w fun e V=>(∃g,e=.returned (.map (some g))/\w.heap.size<=g/\IsFiles R V g l)/\Ext w V:=by
 obtain⟨h1,Q,sl,i,K⟩:=hf;have E:=IsFiles.sliced K;have a3:=@run_makeMap Tryz.prog;have aa:=i.lt;have Z:(w.alloc (.map #[] 0)).heap.size=w.heap.size+1:=by simp
 have W:Hid _:=K;have X:Hid _:=E;have O:Hid _:=Q;have G:=mQ sl l;have I:Hid _:=G;clear K E Q G;go_enter Tryz.func161,Tryz.ntmps161
 go_wp2_with (first
  | (at_range;refine wpList_range_own _ rfl _ 71 rfl 9 56 fI Tryz.underlying71 _ b _ _ rfl (i.alloc _) ?_;intro w0 k y N)
  | go_in)
 go_frame
 rw[Z]at k N ⊢;go_loopw [4] (fun _ wr=>∃(left:Lit->Bool) (n:Nat) (h:DataW Value),wr.ranges Tryz.prog 9 eQ b (w.heap.size+1) l.length (dat sl l) left n/\n<=l.length /\
   wr.ownsMap Tryz.prog 9 eQ w.heap.size (l.length - n) h/\Maps.Agree h (dat sl l) left/\Ext w wr)
  (fun _ wr=>wr.rangeLeft b (w.heap.size+1))
 case atStart =>
  rw[I.out]at k;exact⟨_,_,.map [],k,Nat.le_refl _,((World.ownsMap_made _ _ _ _).kept y (by simp)).mono (Nat.zero_le _),Maps.agree_start (dat sl l),((Below.refl _ _).alloc (Nat.le_refl _) _).grown y (by simp) (fun j B=>by cases B)⟩
 case round =>
  obtain⟨left,n,h,C,au,a,S,d⟩:=hrel
  go_wp2_with (first
   | (at_next;refine iG rfl _ rfl b (w.heap.size+1) _ sl l _ _ rfl C X.out ?_ ?_)
   | go_in)
  .intro J L;go_wp2;go_ret;subst J;have e:=Maps.agree_end S L (a.canon fI) (i.canon fI);subst e;exact⟨⟨_,rfl,Nat.le_refl _,h1,O.out,sl,yI a,fun e he=>(W.out e he).ext d⟩,d⟩
  .intro p f P c w1 u q F a2 x D M z a4 a0;have r:=a.kept z (by simp);have U:=O.out _ (fd q);simp only at U;have HL:Hid _:=q;have Y:Hid _:=F;have H:Hid _:=x;have a1:=d.size;clear q F x
   go_wp2_with (first
    | (at_mapUpdate;refine wpList_mapUpdate_own _ rfl _ _ _ 71 rfl 9 56 fI Tryz.underlying71 _ w.heap.size _ _ rfl (r.alloc _) (by unfold maxLen;omega) _ _ _ rfl rfl (j' p U) (.held (.agg #[.int .i64 f.mode,.slice P f.data.length c,.int .i64 f.time])) [] rfl ?_;intro w2 t A;go_frame)
    | go_in)
   have o:=(D.alloc (.cells #[.int .i64 f.mode,.slice P f.data.length c,.int .i64 f.time] 56)).kept A (fun e=>by have:=Option.some.inj e;omega) (fun e=>by have:=Option.some.inj e;omega);go_roundw
   case rel =>
    exact⟨_,u,_,o,by omega,t.mono (by omega),Maps.agree_step S a.isMap trivial H.out,
     Below.grown (Below.alloc (Below.grown d z d.size (fun j B=>by cases B;exact Nat.le_succ _)) (by have:=d.size;omega) _) A (by simp;omega) (fun j B=>by cases B;exact Nat.le_refl _)⟩
   case measure=>rw[o.left_eq,C.left_eq];exact M
end
end Go.Proofs.YtfabjgfmiaammaaGreatDoor
