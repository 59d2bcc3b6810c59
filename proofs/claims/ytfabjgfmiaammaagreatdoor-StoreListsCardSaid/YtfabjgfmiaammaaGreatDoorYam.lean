/- Contracts of the program's functions and plain laws behind the card. Conditions: as each theorem states. -/
import Derived.Test.YtfabjgfmiaammaaGreatDoorYak
import Derived.Test.YtfabjgfmiaammaaGreatDoorYal
import Derived.Test.YtfabjgfmiaammaaGreatDoorYac
import Derived.Test.YtfabjgfmiaammaaGreatDoorYad
import Derived.Test.YtfabjgfmiaammaaGreatDoorYaf
set_option linter.unusedVariables false
set_option linter.unusedSimpArgs false
set_option linter.unusedSectionVars false
set_option maxRecDepth 100000
set_option maxHeartbeats 64000000
namespace Go.Proofs.YtfabjgfmiaammaaGreatDoor
section
open Go Go.RowKit
structure Opn where
 (kind mode keep BW:Int)
 (path dest data:B8)
 (plan:List Ev)
structure jP (o:Opn):Prop where
 path:o.path.length<=400
 dest:o.dest.length<=400
 Ck:o.plan.length<=60
 ev:∀e∈o.plan,I64 e.keep/\I64 e.BW/\e.path.length<=400
 keep:I64 o.keep
 BW:I64 o.BW
def fL (m:Fs) (o:Opn):Fs :=
 if o.kind=0 then(bZ m o.path o.mode o.data).1
 else if o.kind=1 then(bG m o.path o.mode o.data).1
 else if o.kind=2 then(aP m o.path o.dest false).1
 else if o.kind=3 then(aP m o.path o.dest true).1
 else if o.kind=4 then(bD m o.path).1
 else if o.kind=5 then(dt m).1
 else if o.kind=6 then(aF m o.path).1
 else if o.kind=7 then(bg m o.path).1
 else if o.kind=8 then(aO m o.path o.mode o.data).1
 else if o.kind=9 then(aL m o.path).1
 else if o.kind=10 then cX m o.keep o.BW
 else if o.kind=11 then dH m
 else if o.kind=12 then eG m o.plan
 else m
variable {m:Fs} {N:Nat}
theorem db (h:OkM m) (c:m.plan.length<=N):Left m (av m).1 N/\(av m).1.calls=m.calls+1:=by
 obtain⟨x,a,b⟩:=qE h;rw[b];exact⟨⟨a.ok,by have:=a.time;omega,a.Cq,a.plan,a.room⟩,a.calls⟩
variable {path:B8}
theorem ly {mode:Int} {data:B8} {only:Bool} (h:OkM m) (c:m.plan.length<=N):Left m (jU (av m) path mode data only).1 (N+1):=by
 have a:=(db h c).1;unfold jU;split
 .exact a.mono (by omega)
 .split
  .exact a.mono (by omega)
  .rename_i d;have b:=gG (by simpa using d);split
   .exact a.mono (by omega)
   .exact a.trans (ws a.ok b.1 b.2.2.2)
theorem kA {s d:B8} {b:Bool} (h:OkM m) (k:m.plan.length<=N):Left m (aP m s d b).1 (N+1):=by
 have a:=(db h k).1;unfold aP mvM;split
 .exact a.mono (by omega)
 .split
  .exact a.mono (by omega)
  .rename_i c;split
   .exact a.mono (by omega)
   .rename_i i;split
    .exact a.mono (by omega)
    .split
     .exact a.mono (by omega)
     .rename_i g;split
      .exact a.mono (by omega)
      .refine a.trans (lw a.ok ?_ (fun n l e=>?_))
       .simp only[not_or,Bool.not_eq_false]at c;exact⟨c.1,c.2,g⟩
       .cases e
        cases j:aA (av m).1.now s with
        | none=>rw[j]at i;simp at i
        | some f=>rfl
theorem lz (h:OkM m) (b:m.plan.length<=N):Left m (bD m path).1 (N+1):=by
 have a:=(db h b).1;unfold bD;split
 .exact a.mono (by omega)
 .exact a.trans (re a.ok)
theorem uB (h:OkM m) (b:m.plan.length<=N):Left m (dt m).1 (N+1):=by
 have a:=(db h b).1;unfold dt;split
 .exact (a.trans (sF a.ok)).mono (by omega)
 .exact a.mono (by omega)
theorem rF (m:Fs) (path:B8):(aF m path).1=(av m).1:=by
 unfold aF;split
 .rfl
 .split
  .rfl
  .split <;> rfl
theorem nd (m:Fs) (path:B8):(bg m path).1=(av m).1:=by
 unfold bg;split
 .rfl
 .split
  .rfl
  .split <;> rfl
structure Good (n:Nat) (m:Fs):Prop where
 ok:OkM m
 plan:fH m
 Ck:m.plan.length<=60
 time:m.time<=80*n
 calls:m.calls<=100*n
 Cc:0<=m.room
 Cd:m.room<=1073741824
variable {n:Nat}
theorem Good.left {m':Fs} (h:Good n m) (a:Left m m' 61) (b:m'.calls<=m.calls+1):Good (n+1) m' :=
 ⟨a.ok,⟨by rw[a.plan];exact h.plan.len,by rw[a.plan];exact h.plan.ev⟩,by rw[a.plan];exact h.Ck,by have:=a.time;have:=h.time;omega,by have:=h.calls;omega,by rw[a.room];exact h.Cc,by rw[a.room];exact h.Cd⟩
theorem m7 (h:OkM m) (e:Ev):Left m (ep m e) 1/\(ep m e).calls=m.calls :=
 ⟨⟨wN h e,(mX m e).2,(mX m e).1,(kx m e).1,(kx m e).2.2⟩,(kx m e).2.1⟩
theorem lH (m:Fs) (path:B8) (mode:Int) (data:B8) (only:Bool):(jU (av m) path mode data only).1.calls=(av m).1.calls:=by
 unfold jU;split
 .rfl
 .split
  .rfl
  .split
   .rfl
   .unfold bu;split
    .rfl
    .split <;> rfl
theorem kG (m:Fs) (s d:B8) (a:Bool):(aP m s d a).1.calls=(av m).1.calls:=by
 unfold aP mvM;split
 .rfl
 .split
  .rfl
  .split
   .rfl
   .split
    .rfl
    .split
     .rfl
     .split <;> rfl
theorem lJ (m:Fs) (path:B8):(bD m path).1.calls=(av m).1.calls:=by
 unfold bD;split
 .rfl
 .unfold aG;split
  .rfl
  .split <;> rfl
theorem uQ (m:Fs):(dt m).1.calls=(av m).1.calls:=by
 unfold dt;split <;> rfl
theorem yM (h:OkM m) (L:List Ev):OkM (eG m L):=h.same rfl rfl rfl h.Cg (Nat.le_refl _)
theorem wZ (h:OkM m):OkM (dH m):=h.same rfl rfl rfl h.Cg (Nat.le_refl _)
theorem pA (h:Good n m) {L:List Ev} (d:L.length<=60) (a:∀e∈L,I64 e.keep/\I64 e.BW/\e.path.length<=400):Good n (eG m L):=by
 have c:(eG m L).plan.length<=L.length:=List.length_filter_le _ _;exact⟨yM h.ok L,⟨by omega,fun e b=>a e (List.mem_filter.1 b).1⟩,by omega,h.time,h.calls,h.Cc,h.Cd⟩
theorem mr (h:Good n m):Good n (dH m):=⟨wZ h.ok,⟨h.plan.len,h.plan.ev⟩,h.Ck,h.time,h.calls,h.Cc,h.Cd⟩
theorem Good.mono {k:Nat} (h:Good n m) (a:n<=k):Good k m:=⟨h.ok,h.plan,h.Ck,by have:=h.time;omega,by have:=h.calls;omega,h.Cc,h.Cd⟩
theorem dy {c:Prop} [Decidable c] {a b:Fs} (d:Good n a) (e:Good n b):Good n (if c then a else b):=by
 by_cases h:c
 .rw [if_pos h];exact d
 .rw [if_neg h];exact e
theorem xm {o:Opn} (h:Good n m) (i:jP o):Good (n+1) (fL m o):=by
 have A:=(db h.ok h.Ck).2;have B:=h.calls;have a:(av m).1.calls<=m.calls+1:=by omega
 have j:=m7 h.ok ⟨0,4,o.mode,0,0,o.path,o.data⟩;have k:=m7 h.ok ⟨0,5,o.mode,0,0,o.path,o.data⟩;have b:=m7 h.ok ⟨0,1,0,o.keep,o.BW,[],[]⟩;have l:Good (n+1) (bZ m o.path o.mode o.data).1:=h.left (ly h.ok h.Ck) (by rw[show(bZ m o.path o.mode o.data).1.calls=_ from lH m _ _ _ _];exact a);have p:Good (n+1) (bG m o.path o.mode o.data).1:=h.left (ly h.ok h.Ck) (by rw[show(bG m o.path o.mode o.data).1.calls=_ from lH m _ _ _ _];exact a);have q:Good (n+1) (aP m o.path o.dest false).1:=h.left (kA h.ok h.Ck) (by rw[kG];exact a);have r:Good (n+1) (aP m o.path o.dest true).1:=h.left (kA h.ok h.Ck) (by rw[kG];exact a);have t:Good (n+1) (bD m o.path).1:=h.left (lz h.ok h.Ck) (by rw[lJ];exact a);have u:Good (n+1) (dt m).1:=h.left (uB h.ok h.Ck) (by rw[uQ];exact a);have g:Good (n+1) (av m).1:=h.left ((db h.ok h.Ck).1.mono (by omega)) a;have y:Good (n+1) (aO m o.path o.mode o.data).1:=h.left (j.1.mono (by omega)) (by have:=j.2;show(ep m ⟨0,4,o.mode,0,0,o.path,o.data⟩).calls<=_;omega);have z:Good (n+1) (aL m o.path).1:=h.left (k.1.mono (by omega)) (by have:=k.2;show(ep m ⟨0,5,o.mode,0,0,o.path,o.data⟩).calls<=_;omega);have c:Good (n+1) (cX m o.keep o.BW):=h.left (b.1.mono (by omega)) (by have:=b.2;show(ep m ⟨0,1,0,o.keep,o.BW,[],[]⟩).calls<=_;omega);have d:Good (n+1) (dH m):=(mr h).mono (by omega);have e:Good (n+1) (eG m o.plan):=(pA h i.Ck i.ev).mono (by omega);have w:Good (n+1) (aF m o.path).1:=by rw[rF];exact g
 have x:Good (n+1) (bg m o.path).1:=by rw[nd];exact g
 exact dy l (dy p (dy q (dy r (dy t (dy u (dy w (dy x (dy y (dy z (dy c (dy d (dy e (h.mono (by omega))))))))))))))
end
section
open Go Go.RowKit
def IsRowR (R:Nat->Prop) (w:World) (cs:List Value) (e:B8×Fi):Prop:=e.1.length<=10000000/\∃v,cs=[S8 e.1,.int .i64 e.2.mode,v,.int .i64 e.2.time]/\IsData R w v e.2.data
variable {w:World} {cs:List Value} {e:B8×Fi}
theorem IsRowR.mono {R R':Nat->Prop} (h:IsRowR R w cs e) (d:∀k,R k->R' k):IsRowR R' w cs e:=by
 obtain⟨a,v,b,c⟩:=h;exact⟨a,v,b,c.mono d⟩
variable {w':World}
theorem IsRowR.BZ {R:Nat->Prop} (h:IsRowR R w cs e) (d:KeepR R w w'):IsRowR R w' cs e:=by
 obtain⟨a,v,b,c⟩:=h;exact⟨a,v,b,c.BZ d⟩
theorem IsRowR.length {R:Nat->Prop} (h:IsRowR R w cs e):cs.length=4/\cs.all (·.oneCell')=true:=by
 obtain⟨_,v,rfl,a⟩:=h;obtain⟨_,_,rfl,_⟩:=a.bytes;exact⟨rfl,by simp[Value.oneCell']⟩
theorem IsRowR.bound {R:Nat->Prop} (h:IsRowR R w cs e):IsRowR (fun k=>R k/\k<w.heap.size) w cs e:=by
 obtain⟨a,v,b,c⟩:=h;exact⟨a,v,b,c.bound⟩
def IsOp (R:Nat->Prop) (w:World) (cs:List Value):Ch->Prop
 | .put p f=>p.length<=10000000/\∃v,cs=[.int .i64 1,S8 [],S8 p,.int .i64 f.mode,v,.int .i64 f.time]/\IsData R w v f.data
 | .mv s d=>s.length<=10000000/\d.length<=10000000/\cs=[.int .i64 2,S8 s,S8 d,.int .i64 0,.slice none 0 0,.int .i64 0]
 | .del p=>p.length<=10000000/\cs=[.int .i64 3,S8 p,S8 [],.int .i64 0,.slice none 0 0,.int .i64 0]
variable {c:Ch}
theorem IsOp.mono {R R':Nat->Prop} (h:IsOp R w cs c) (i:∀k,R k->R' k):IsOp R' w cs c:=by
 cases c with
 | put p f =>
  obtain⟨a,v,b,g⟩:=h;exact⟨a,v,b,g.mono i⟩
 | mv s d=>exact h
 | del p=>exact h
theorem IsOp.BZ {R:Nat->Prop} (h:IsOp R w cs c) (i:KeepR R w w'):IsOp R w' cs c:=by
 cases c with
 | put p f =>
  obtain⟨a,v,b,g⟩:=h;exact⟨a,v,b,g.BZ i⟩
 | mv s d=>exact h
 | del p=>exact h
theorem IsOp.length {R:Nat->Prop} (h:IsOp R w cs c):cs.length=6/\cs.all (·.oneCell')=true:=by
 cases c with
 | put p f =>
  obtain⟨_,v,rfl,a⟩:=h;obtain⟨_,_,rfl,_⟩:=a.bytes;exact⟨rfl,by simp[Value.oneCell']⟩
 | mv s d=>obtain⟨_,_,rfl⟩:=h;exact⟨rfl,by simp[Value.oneCell']⟩
 | del p=>obtain⟨_,rfl⟩:=h;exact⟨rfl,by simp[Value.oneCell']⟩
theorem IsOp.bound {R:Nat->Prop} (h:IsOp R w cs c):IsOp (fun k=>R k/\k<w.heap.size) w cs c:=by
 cases c with
 | put p f =>
  obtain⟨a,v,b,g⟩:=h;exact⟨a,v,b,g.bound⟩
 | mv s d=>exact h
 | del p=>exact h
variable {v:Value}
theorem ReadL.lt {α:Type} {t:TypeId} {p:List Value->α->Prop} {xs:List α} (h:ReadL w t p v xs):∀k,v.ownBlock=some k->k<w.heap.size:=fun k b=>by
 obtain⟨cs,c,a⟩:=h.typed k b;exact(Array.getElem?_eq_some_iff.1 a).1
theorem ReadL.nil {α:Type} (w:World) (t:TypeId) (p:List Value->α->Prop):ReadL w t p (.slice none 0 0) []:=⟨[],Row.nil _,Typed.nil _ _ _ _,Each.nil _⟩
theorem OwnL.nil {α:Type} (w:World) (t:TypeId) (a:Nat) (p:List Value->α->Prop):OwnL w t a p (.slice none 0 0) []:=⟨[],World.ownsRow_nil _ _ _ _,Each.nil _⟩
abbrev bI (R:Nat->Prop) (w:World) (v:Value) (l:ax):Prop:=ReadL w 164 (IsRowR R w) v l
variable {l:ax}
theorem ReadL.rows {R:Nat->Prop} (h:bI R w v l) (a:∀k,v.ownBlock=some k->w'.heap[k]? = w.heap[k]?) (b:KeepR R w w'):bI R w' v l :=
 (ReadL.stay h a).mono (fun c x d=>d.BZ b)
theorem ReadL.B4 {R:Nat->Prop} (h:bI R w v l) (a:Ext w w'):bI R w' v l :=
 h.rows (fun k b=>a.block k (h.lt k b)) (KeepR.B2 (KeepB.BX a))
theorem ReadL.Ce {R R':Nat->Prop} (h:bI R w v l) (a:∀k,R k->R' k):bI R' w v l :=
 h.mono (fun c x b=>b.mono a)
structure bf where
 w:World
def cy [Inhabited bf]:World:=(default:bf).w
variable [Inhabited bf]
structure OldB (v:Value) (l:B8):Prop where
 bytes:IsBytes cy v l
 low:∀a n c,v=.slice (some a) n c->n≠0->a.block<cy.heap.size
def IsEvD (cs:List Value) (e:Ev):Prop:=∃a,cs=[.int .i64 e.t,.int .i64 e.kind,.int .i64 e.mode,.int .i64 e.keep,.int .i64 e.BW,S8 e.path,a]/\OldB a e.data/\e.path.length<=10000000
def IsEvI (cs:List Value) (e:Ev):Prop:=∃a,cs=[.int .i64 e.t,.int .i64 e.kind,.int .i64 e.mode,.int .i64 e.keep,.int .i64 e.BW,S8 e.path,a]/\OldB a e.data
theorem IsEvI.length {e:Ev} (h:IsEvI cs e):cs.length=7/\cs.all (·.oneCell')=true:=by
 obtain⟨v,rfl,a⟩:=h;obtain⟨_,_,rfl,_⟩:=a.bytes;exact⟨rfl,by simp[Value.oneCell']⟩
theorem IsEvI.up {e:Ev} (h:IsEvI cs e) (c:e.path.length<=400):IsEvD cs e:=by
 obtain⟨v,a,b⟩:=h;exact⟨v,a,b,by omega⟩
theorem IsEvD.length {e:Ev} (h:IsEvD cs e):cs.length=7/\cs.all (·.oneCell')=true:=by
 obtain⟨v,rfl,a,_⟩:=h;obtain⟨_,_,rfl,_⟩:=a.bytes;exact⟨rfl,by simp[Value.oneCell']⟩
theorem OldB.at {l:B8} (h:OldB v l) (a:Ext cy w):IsBytes w v l:=h.bytes.ext a
theorem OldB.out {l:B8} {O:Nat->Prop} (h:OldB v l) (b:∀k,O k->cy.heap.size<=k):Out O w v:=fun a n c d g=>.inl fun i=>by have:=h.low a n c d g;have:=b _ i;omega
theorem IsEvD.read {e:Ev} (h:IsEvD cs e) (d:Ext cy w):IsEvB w cs e:=by
 obtain⟨v,a,b,c⟩:=h;exact⟨v,a,b.at d,c⟩
structure RParts (O R:Nat->Prop) (w:World) (vn vs vp vl vu:Value) (now sure:ax) (pend:List Ch) (L users:List Ev):Prop where
 now:bI R w vn now
 on:Inn O vn
 sure:bI R w vs sure
 os:Inn O vs
 pend:OwnL w 199 6 (IsOp R w) vp pend
 op:Inn O vp
 plan:OwnL w 122 7 IsEvD vl L
 ol:Inn O vl
 users:OwnL w 122 7 (IsEvR R w) vu users
 ou:Inn O vu
 off:∀k,vu.ownBlock=some k->vl.ownBlock≠some k
abbrev cr (d:Int) (h vs i g:Value) (a time:Nat) (b:Bool) (j:Value):Array Value:=#[.int .i64 d,h,vs,i,g,.int .i64 a,.int .i64 time,.bool b,j]
def IsRef (O R:Nat->Prop) (w:World) (p:Value) (m:Fs):Prop:=∃(g:Nat) (b h d a i:Value),p=.pointer (some ⟨g,0,none⟩) /\
  w.heap[g]? = some (.cells (cr m.room b h d a m.calls m.time m.down i) 84 (0,0))/\O g/\RParts O R w b h d a i m.now m.sure m.pend m.plan m.users
section
variable {O R:Nat->Prop} {w w':World} {vn vs vp vl vu:Value} {now sure:ax} {pend:List Ch} {L users:List Ev}
theorem RParts.mono {O' R':Nat->Prop} (h:RParts O R w vn vs vp vl vu now sure pend L users) (a:∀k,O k->O' k) (b:∀k,R k->R' k):RParts O' R' w vn vs vp vl vu now sure pend L users :=
 ⟨h.now.Ce b,h.on.mono a,h.sure.Ce b,h.os.mono a,h.pend.mono (fun c x d=>d.mono b),h.op.mono a,h.plan,h.ol.mono a,h.users.mono (fun c x d=>d.mono b),h.ou.mono a,h.off⟩
theorem RParts.stay (h:RParts O R w vn vs vp vl vu now sure pend L users)
  (g:∀k,vn.ownBlock=some k->w'.heap[k]? = w.heap[k]?) (j:∀k,vs.ownBlock=some k->w'.heap[k]? = w.heap[k]?) (i:∀k,vp.ownBlock=some k->w'.heap[k]? = w.heap[k]?) (d:∀k,vl.ownBlock=some k->w'.heap[k]? = w.heap[k]?) (l:∀k,vu.ownBlock=some k->w'.heap[k]? = w.heap[k]?) (a:KeepR R w w') :
  RParts O R w' vn vs vp vl vu now sure pend L users :=
 ⟨h.now.rows g a,h.on,h.sure.rows j a,h.os,(h.pend.stay i).mono (fun c x b=>b.BZ a),h.op,h.plan.stay d,h.ol,(h.users.stay l).mono (fun c x b=>b.BZ a),h.ou,h.off⟩
theorem RParts.CD (h:RParts O R w vn vs vp vl vu now sure pend L users)
  (b:∀k,O k->k<w.heap.size->w'.heap[k]? = w.heap[k]?) (c:KeepR R w w'):RParts O R w' vn vs vp vl vu now sure pend L users :=
 h.stay (fun k a=>b k (h.on k a) (h.now.lt k a)) (fun k a=>b k (h.os k a) (h.sure.lt k a)) (fun k a=>b k (h.op k a) (h.pend.lt k a)) (fun k a=>b k (h.ol k a) (h.plan.lt k a)) (fun k a=>b k (h.ou k a) (h.users.lt k a)) c
theorem RParts.ext (h:RParts O R w vn vs vp vl vu now sure pend L users) (b:Ext w w'):RParts O R w' vn vs vp vl vu now sure pend L users :=
 h.CD (fun k _ a=>b.block k a) (KeepR.B2 (KeepB.BX b))
theorem RParts.own (h:RParts O R w vn vs vp vl vu now sure pend L users)
  {g:Nat} {cs:Array Value} {fr:Nat×Nat} (i:w.heap[g]? = some (.cells cs 84 fr)) (l:w.grownBy w' (some g)):RParts O R w' vn vs vp vl vu now sure pend L users:=by
 have c:∀k,(∃x,w.heap[k]? = some x/\x≠Obj.cells cs 84 fr)->w'.heap[k]? = w.heap[k]?:=fun k ⟨x,a,n⟩=>l.block k (Array.getElem?_eq_some_iff.1 a).1 (by simpa using cD a i n)
 refine h.stay (fun k b=>?_) (fun k b=>?_) (fun k b=>?_) (fun k b=>?_) (fun k b=>?_) (cw l (by rintro k j;simp at j;subst j;exact aw i (by kernel_rfl)))
 .obtain ⟨d,f,a⟩:=h.now.typed k b;exact c k ⟨_,a,by simp⟩
 .obtain ⟨d,f,a⟩:=h.sure.typed k b;exact c k ⟨_,a,by simp⟩
 .obtain ⟨d,f,a⟩:=h.pend.typed k b;exact c k ⟨_,a,by simp⟩
 .obtain ⟨d,f,a⟩:=h.plan.typed k b;exact c k ⟨_,a,by simp⟩
 .obtain ⟨d,f,a⟩:=h.users.typed k b;exact c k ⟨_,a,by simp⟩
theorem RParts.CY (h:RParts O R w vn vs vp vl vu now sure pend L users) {b:Value} {a:ax} (d:bI R w b a) (c:Inn O b):RParts O R w b vs vp vl vu a sure pend L users :=
 ⟨d,c,h.sure,h.os,h.pend,h.op,h.plan,h.ol,h.users,h.ou,h.off⟩
theorem RParts.Db (h:RParts O R w vn vs vp vl vu now sure pend L users) {b:Value} {a:ax} (d:bI R w b a) (c:Inn O b):RParts O R w vn b vp vl vu now a pend L users :=
 ⟨h.now,h.on,d,c,h.pend,h.op,h.plan,h.ol,h.users,h.ou,h.off⟩
theorem RParts.Df (h:RParts O R w vn vs vp vl vu now sure pend L users):RParts O R w vn vs (.slice none 0 0) vl vu now sure [] L users :=
 ⟨h.now,h.on,h.sure,h.os,OwnL.nil _ _ _ _,Inn.nil _ _ _,h.plan,h.ol,h.users,h.ou,h.off⟩
theorem RParts.Cz (h:RParts O R w vn vs vp vl vu now sure pend L users)
  (q:w.grownBy w' vp.ownBlock) {g:Value} {b:List Ch} (o:OwnL w' 199 6 (IsOp R w') g b) (t:Inn O g):RParts O R w' vn vs g vl vu now sure b L users:=by
 have i:KeepR R w w':=cw q (fun k i=>by obtain⟨cs,j,a⟩:=h.pend.typed k i;exact aw a (by kernel_rfl));have l:∀k,(∃x,w.heap[k]? = some x/\∀cs j,x≠Obj.cells cs 199 j)->w'.heap[k]? = w.heap[k]?:=fun k ⟨x,a,o⟩=>q.block k (Array.getElem?_eq_some_iff.1 a).1 (fun n=>by
  obtain⟨cs,j,r⟩:=h.pend.typed k n.symm;rw[a]at r;exact o cs j (Option.some.inj r))
 refine⟨h.now.rows (fun k d=>?_) i,h.on,h.sure.rows (fun k d=>?_) i,h.os,o,t,h.plan.stay (fun k d=>?_),h.ol,(h.users.stay (fun k d=>?_)).mono (fun c x a=>a.BZ i),h.ou,h.off⟩
 .obtain ⟨p,f,a⟩:=h.now.typed k d;exact l k ⟨_,a,by simp⟩
 .obtain ⟨p,f,a⟩:=h.sure.typed k d;exact l k ⟨_,a,by simp⟩
 .obtain ⟨p,f,a⟩:=h.plan.typed k d;exact l k ⟨_,a,by simp⟩
 .obtain ⟨p,f,a⟩:=h.users.typed k d;exact l k ⟨_,a,by simp⟩
theorem RParts.CB (h:RParts O R w vn vs vp vl vu now sure pend L users)
  (p:w.grownBy w' vu.ownBlock) {d:Value} {b:List Ev} (o:OwnL w' 122 7 (IsEvR R w') d b) (u:Inn O d) (l:∀k,d.ownBlock=some k->vl.ownBlock≠some k):RParts O R w' vn vs vp vl d now sure pend L b:=by
 have j:KeepR R w w':=cw p (fun k j=>by obtain⟨cs,n,a⟩:=h.users.typed k j;exact aw a (by kernel_rfl));have q:∀k,(∃x,w.heap[k]? = some x/\∀cs n,x≠Obj.cells cs 122 n)->w'.heap[k]? = w.heap[k]?:=fun k ⟨x,a,o⟩=>p.block k (Array.getElem?_eq_some_iff.1 a).1 (fun i=>by
  obtain⟨cs,n,t⟩:=h.users.typed k i.symm;rw[a]at t;exact o cs n (Option.some.inj t))
 refine⟨h.now.rows (fun k g=>?_) j,h.on,h.sure.rows (fun k g=>?_) j,h.os,(h.pend.stay (fun k g=>?_)).mono (fun c x a=>a.BZ j),h.op,h.plan.stay (fun k g=>?_),h.ol,o,u,l⟩
 .obtain ⟨r,f,a⟩:=h.now.typed k g;exact q k ⟨_,a,by simp⟩
 .obtain ⟨r,f,a⟩:=h.sure.typed k g;exact q k ⟨_,a,by simp⟩
 .obtain ⟨r,f,a⟩:=h.pend.typed k g;exact q k ⟨_,a,by simp⟩
 .obtain ⟨r,f,a⟩:=h.plan.typed k g;exact p.block k (Array.getElem?_eq_some_iff.1 a).1 (fun i=>h.off k i.symm g)
theorem RParts.bound (h:RParts O R w vn vs vp vl vu now sure pend L users) :
  RParts (fun k=>O k/\k<w.heap.size) (fun k=>R k/\k<w.heap.size) w vn vs vp vl vu now sure pend L users :=
 ⟨h.now.mono (fun c x b=>b.bound),fun k a=>⟨h.on k a,h.now.lt k a⟩,h.sure.mono (fun c x b=>b.bound),fun k a=>⟨h.os k a,h.sure.lt k a⟩,h.pend.mono (fun c x b=>b.bound),fun k a=>⟨h.op k a,h.pend.lt k a⟩,h.plan,fun k a=>⟨h.ol k a,h.plan.lt k a⟩,h.users.mono (fun c x b=>b.bound),fun k a=>⟨h.ou k a,h.users.lt k a⟩,h.off⟩
end
section
variable {O O' R R':Nat->Prop} {w w':World} {p:Value} {m:Fs}
theorem IsRef.mono (h:IsRef O R w p m) (a:∀k,O k->O' k) (j:∀k,R k->R' k):IsRef O' R' w p m:=by
 obtain⟨g,n,q,o,l,r,b,c,d,i⟩:=h;exact⟨g,n,q,o,l,r,b,c,a _ d,i.mono a j⟩
theorem IsRef.fit (h:IsRef (On O w.heap.size) (On R w.heap.size) w' p m):IsRef (Nw O w w') (Nw R w w') w' p m:=by
 obtain⟨g,o,r,q,n,t,i,c,j,l⟩:=h;have b:=(Array.getElem?_eq_some_iff.1 c).1;have a:∀(S:Nat->Prop) k,On S w.heap.size k/\k<w'.heap.size->Nw S w w' k:=fun S k d=>d.1.imp id (fun h=>⟨h,d.2⟩)
 exact⟨g,o,r,q,n,t,i,c,a O g ⟨j,b⟩,l.bound.mono (a O) (a R)⟩
theorem IsRef.stay (h:IsRef O R w p m) (c:∀k,O k->k<w.heap.size->w'.heap[k]? = w.heap[k]?) (j:KeepR R w w'):IsRef O R w' p m:=by
 obtain⟨g,n,q,o,l,r,d,a,b,i⟩:=h;exact⟨g,n,q,o,l,r,d,(c g b (Array.getElem?_eq_some_iff.1 a).1).trans a,b,i.CD c j⟩
theorem IsRef.other (h:IsRef O R w p m) (b:Fr O' w w') (c:∀k,O k->¬O' k):IsRef O R w' p m :=
 h.stay (fun k d a=>b.block k a (.inl (c k d))) (KeepR.B2 b.keep)
theorem IsRef.ext (h:IsRef O R w p m) (b:Ext w w'):IsRef O R w' p m :=
 h.stay (fun k _ a=>b.block k a) (KeepR.B2 (KeepB.BX b))
end
structure RefPost (O R:Nat->Prop) (w:World) (p:Value) (m:Fs) (w':World):Prop where
 fs:IsRef (Nw O w w') (Nw R w w') w' p m
 fr:Fr O w w'
section
variable {O R:Nat->Prop} {w wx w1 w':World} {p:Value} {m m1:Fs}
theorem RefPost.BX (b:Ext w wx) (h:RefPost O (Nw R w wx) wx p m w'):RefPost O R w p m w':=by
 refine⟨h.fs.mono (fun k a=>?_) (fun k a=>a.nw b.size h.fr.size),(Fr.BX b).trans (h.fr.mono fun k a=>.inl a)⟩;rcases a with a | a
 .exact .inl a
 .exact .inr ⟨Nat.le_trans b.size a.1,a.2⟩
theorem RefPost.trans (a:RefPost O R w p m1 w1) (h:RefPost (Nw O w w1) (Nw R w w1) w1 p m w'):RefPost O R w p m w' :=
 ⟨h.fs.mono (fun k b=>b.nw a.fr.size h.fr.size) (fun k b=>b.nw a.fr.size h.fr.size),a.fr.trans h.fr⟩
theorem RefPost.same (h:IsRef O R w p m) (b:Ext w w'):RefPost O R w p m w' :=
 ⟨(h.ext b).mono (fun k a=>.inl a) (fun k a=>.inl a),Fr.BX b⟩
theorem RefPost.ext (h:RefPost O R w p m w1) (a:Ext w1 w'):RefPost O R w p m w':=h.trans (RefPost.same h.fs a)
theorem RefPost.pre (b:Ext w wx) (h:RefPost O R wx p m w'):RefPost O R w p m w':=RefPost.BX b ⟨h.fs.mono (fun k a=>a) (fun k a=>a.imp .inl id),h.fr⟩
end
end
section
open Go Go.RowKit
def oL (l:ax) (p:B8) (i:Int):Prop:=(aA l p=none/\i = -1)\/∃(k:Nat) (f:Fi),i=k/\l[k]? = some (p,f)/\aA l p=some f
variable {l:ax} {p:B8}
theorem wC (h:∀e∈l,e.1≠p):aA l p=none:=by
 unfold aA;rw[Option.map_eq_none_iff,List.find?_eq_none];intro e a;simpa using h e a
theorem tH:∀ {l:ax} {p:B8} {k:Nat} {f:Fi},(∀e∈l.take k,e.1≠p)->l[k]? = some (p,f)->aA l p=some f
 | [],p,k,f,_,h=>by simp at h
 | e::l,p,0,f,_,h=>by
  have:e=(p,f):=by simpa using h
  subst this;simp[aA]
 | e::l,p,k+1,f,b,h=>by
  have a:=tH (l:=l) (p:=p) (k:=k) (f:=f) (fun e d=>b e (by simp[d])) (by simpa using h);have c:(e.1==p)=false:=by simpa using b e (by simp)
  unfold aA at a ⊢;rw[List.find?_cons,c];exact a
variable {k:Nat} {e:B8×Fi}
theorem rO (h:∀e∈l.take k,e.1≠p) (c:l[k]? = some e) (b:e.1≠p):∀e∈l.take (k+1),e.1≠p:=by
 intro x a;rw[List.take_add_one,c,Option.toList_some]at a;rcases List.mem_append.1 a with a | a
 .exact h x a
 .have:x=e:=by simpa using a
  rw[this];exact b
theorem vE (a:l[k]? = some e):ch (l.take (k+1)) p=if e.1=p then ch (l.take k) p else ch (l.take k) p++[e]:=by
 unfold ch;rw[List.take_add_one,a,Option.toList_some,List.filter_append]
 by_cases h:e.1=p
 .rw [if_pos h,List.filter_cons_of_neg (by simpa using h)];simp
 .rw [if_neg h,List.filter_cons_of_pos (by simpa using h)];simp
theorem tE (x:B8×Fi):∀(l:ax) (k:Nat),k<=l.length->(∀j e,j<k->l[j]? = some e->ltB x.1 e.1=false)->(∀e,l[k]? = some e->ltB x.1 e.1=true)->fT x l=l.take k++x::l.drop k
 | [],k,c,_,_=>by
  have:k=0:=by simpa using c
  subst this;rfl
 | e::l,0,_,_,h=>by
  have a:=h e (by simp);simp[fT,a]
 | e::l,k+1,c,a,d=>by
  have g:=a 0 e (by omega) (by simp);have i:=tE x l k (by simpa using c) (fun j e n b=>a (j+1) e (by omega) (by simpa using b)) (fun e b=>d e (by simpa using b));simp[fT,g,i]
theorem pK {a b:B8} (h:ltB a b=true):ltB b a=false:=by
 cases c:ltB b a with
 | false=>rfl
 | true=>exact absurd rfl (jh (gg h c))
theorem Az {f:Fi} (g:k<=(ch l p).length) (b:∀j e,j<k->(ch l p)[j]? = some e->ltB e.1 p=true) (c:∀e,(ch l p)[k]? = some e->ltB e.1 p=false):eA l p f=(ch l p).take k++(p,f)::(ch l p).drop k :=
 tE (p,f) _ k g (fun j e d a=>pK (b j e d a)) (fun e a=>fZ (c e a) (lZ l p e (List.mem_of_getElem? a)))
def fG (l:ax) (path:B8):Bool:=!(l.any fun e=>aB path e.1 || aB e.1 path)
variable {path:B8}
theorem yx (h:∀e∈l,e.1≠[]):et l path []=fG l path:=by
 unfold et fG;congr 1;rw[Bool.eq_iff_iff,List.any_eq_true,List.any_eq_true];constructor
 .rintro ⟨e,a,b⟩;refine⟨e,a,?_⟩;simp only[Bool.and_eq_true]at b;rw[Bool.or_comm];exact b.2
 .rintro ⟨e,a,b⟩;refine⟨e,a,?_⟩;have:(e.1==([]:B8))=false:=by simpa using h e a
  rw[this,Bool.or_comm];simpa using b
theorem yw {a:B8}:et l path a=fG (ch l a) path:=by
 unfold et fG ch;congr 1;rw[Bool.eq_iff_iff,List.any_eq_true,List.any_eq_true];constructor
 .rintro ⟨e,c,b⟩;simp only[Bool.and_eq_true]at b;refine⟨e,List.mem_filter.2 ⟨c,b.1⟩,?_⟩;rw[Bool.or_comm];exact b.2
 .rintro ⟨e,c,b⟩;have d:=List.mem_filter.1 c;refine⟨e,d.1,?_⟩;simp only[Bool.and_eq_true];rw[Bool.or_comm];exact⟨d.2,b⟩
theorem wE (h:fG (l.take k) path=true) (a:l[k]? = some e):fG (l.take (k+1)) path = !(aB path e.1 || aB e.1 path):=by
 unfold fG at h ⊢;rw[Bool.not_eq_true']at h;rw[List.take_add_one,a,Option.toList_some,List.any_append,h];simp
theorem tK (a:e∈l) (h:(aB path e.1 || aB e.1 path)=true):fG l path=false:=by
 unfold fG;rw[Bool.not_eq_false',List.any_eq_true];exact⟨e,a,h⟩
theorem xz (a:l[k]? = some e):cV (l.take (k+1))=cV (l.take k)+e.2.data.length:=by
 unfold cV;rw[List.take_add_one,a,Option.toList_some];simp
theorem rS {l:ax} (k:Nat):cV (l.take k)<=cV l:=by
 have h:=List.take_append_drop k l;have:cV l=cV (l.take k)+cV (l.drop k):=by
  conv=>lhs;rw[<-h]
  unfold cV;rw[List.map_append,List.sum_append]
 omega
end
section
open Go Go.RowKit
theorem qG (c:UInt8):∀l:B8,cut c (l++[c])=cut c l++[[]]
 | []=>by simp[cut]
 | x::l=>by
  have a:=qG c l;rw[List.cons_append,cut,cut];split
  .rw [a];rfl
  .rw [a]
   cases b:cut c l with
   | nil=>exact absurd b (gu c l)
   | cons h t=>rfl
theorem yK {l:B8} (h:az (l++[47])=true):False:=by
 unfold az at h;simp only[Bool.and_eq_true,List.all_eq_true]at h;have:=h.2.1 [] (by rw[qG];simp)
 revert this;decide
theorem zp {d s:B8} (a:az s=true):aB d s=true↔d.length+1<s.length/\s.take d.length=d/\s[d.length]? = some 47:=by
 unfold aB;rw[List.isPrefixOf_iff_prefix];constructor
 .rintro ⟨t,rfl⟩;have h:t≠[]:=by
   rintro rfl;rw[List.append_nil]at a;exact yK a
  have b:=List.length_pos_iff.2 h;refine⟨by simp;omega,by simp,by simp⟩
 .rintro ⟨b,c,g⟩;refine⟨s.drop (d.length+1),?_⟩;have e:=List.take_append_drop (d.length+1) s;rw[List.take_add_one,c,g]at e;exact e
theorem iL (d s:B8) (w:World) (C:d.length<=10000000) (D:s.length<=10000000) :
  Calls Tryz.prog 154 #[S8 d,S8 s] w fun e G=>e=.returned (.bool (az d && (az s && aB d s)))/\Ext w G:=by
 have F:(⟨s.toArray⟩:ByteArray).toList=s:=Lib.toList_data _;have E:(⟨d.toArray⟩:ByteArray).toList=d:=Lib.toList_data _;go_enter Tryz.func154,Tryz.ntmps154;go_wp2_with fail;go_at_call 153;refine(dE d _ C).mono ?_;rintro e H ⟨rfl,h⟩
 cases i:az d
 .have a:Hid _:=i;clear i;go_wp2;go_ret;exact⟨an (by rw[a.out];rfl),h⟩
 have a:Hid _:=i;clear i;go_wp2_with fail;go_at_call 153;refine(dE s _ D).mono ?_;rintro e I ⟨rfl,j⟩
 cases g:az s
 .have b:Hid _:=g;clear g;go_wp2;go_ret;exact⟨an (by rw[a.out,b.out];rfl),h.trans j⟩
 have b:Hid _:=g;have q:Hid _:=@zp d s g;clear g
 by_cases y:d.length+1<s.length
 .have r:(d.length:Int)+1<(s.length:Int):=by omega
  have c:d.length<s.length:=by omega
  have l:((⟨s.toArray⟩:ByteArray).extract 0 d.length).toList=s.take d.length:=by
   rw[i9 ⟨s.toArray⟩ 0 d.length (Nat.zero_le _) (by show d.length<=s.length;omega)];simp[Lib.toList_data]
  have k:(⟨s.toArray⟩:ByteArray)[d.length]'(by show d.length<s.length;exact c)=s[d.length]:=rfl;obtain⟨n,t⟩:∃n,(((⟨s.toArray⟩:ByteArray).extract 0 d.length).toList==d)=n:=⟨_,rfl⟩;have x:Hid ((s.take d.length==d)=n):=by unfold Hid;rw[<-l];exact t
  have z:Hid _:=k;clear l k
  cases n with
  | true =>
   go_wp2;go_ret;refine⟨an ?_,h.trans j⟩;rw[a.out,b.out,Bool.true_and,Bool.true_and];have A:s.take d.length=d:=by simpa using x.out
   rw[Bool.eq_iff_iff,q.out,z.out];constructor
   .intro o;have B:s[d.length].toNat=47:=by have:=beq_iff_eq.1 o;omega
    refine⟨y,A,?_⟩;rw[List.getElem?_eq_getElem c];exact congrArg some (UInt8.toNat_inj.1 B)
   .rintro ⟨_,_,o⟩;rw[List.getElem?_eq_getElem c]at o;rw[Option.some.inj o];rfl
  | false =>
   have p:Hid (aB d s=false):=by
    unfold Hid
    cases u:aB d s with
    | false=>rfl
    | true =>
     have:=x.out;rw[(q.out.1 u).2.1]at this;simp at this
   go_wp2;go_ret;exact⟨an (by rw[a.out,b.out,p.out];rfl),h.trans j⟩
 .have r:¬(d.length:Int)+1<(s.length:Int):=by omega
  have p:Hid (aB d s=false):=by
   unfold Hid
   cases u:aB d s with
   | false=>rfl
   | true=>exact absurd (q.out.1 u).1 y
  go_wp2;go_ret;exact⟨an (by rw[a.out,b.out,p.out];rfl),h.trans j⟩
end
section
open Go Go.RowKit
def leT (a b:B8):Bool:=!ltB b a
theorem wk (a b c:B8) (h:leT a b=true) (d:leT b c=true):leT a c=true:=by
 unfold leT at *
 cases i:ltB c a with
 | false=>rfl
 | true =>
  exfalso;simp only[Bool.not_eq_true']at h d
  by_cases g:a=b
  .subst g;rw[i]at d;cases d
  .have j:=fZ h (fun e=>g e.symm);have k:=gg i j;rw[k]at d;cases d
theorem vZ (a b:B8):(leT a b || leT b a)=true:=by
 unfold leT
 cases c:ltB b a with
 | false=>rfl
 | true =>
  cases d:ltB a b with
  | false=>rfl
  | true =>
   have:=gg c d;have:=jh this;exact(this rfl).elim
theorem qZ {a b:B8} (d:leT a b=true) (c:leT b a=true):a=b:=by
 unfold leT at d c;simp only[Bool.not_eq_true']at d c
 by_cases h:a=b
 .exact h
 .have:=fZ d (fun e=>h e.symm);rw[this]at c;cases c
def upL (l:List B8):Prop:=l.Pairwise fun a b=>leT a b=true
def uP (l:List B8):List B8:=l.mergeSort leT
theorem oD (l:List B8):(uP l).Perm l:=List.mergeSort_perm l leT
theorem y' (l:List B8):upL (uP l):=List.pairwise_mergeSort wk vZ l
def iM:List B8->List B8
 | a::b::l=>if a=b then iM (b::l)else a::iM (b::l)
 | l=>l
theorem lN:∀(l:List B8) (x:B8),x∈iM l↔x∈l
 | [],x=>Iff.rfl
 | [a],x=>Iff.rfl
 | a::b::l,x=>by
  have c:=lN (b::l) x;unfold iM;split
  .rename_i h;subst h;rw[c];simp
  .rw [List.mem_cons,c,List.mem_cons (a:=x) (b:=a)]
def cM (l:List B8):Prop:=l.Pairwise fun a b=>ltB a b=true
theorem oA:∀ {l:List B8},upL l->cM (iM l)
 | [],_=>List.Pairwise.nil
 | [a],_=>List.pairwise_singleton _ _
 | a::b::l,h=>by
  have j:=List.pairwise_cons.1 h;have k:=oA j.2;unfold iM;split
  .exact k
  .rename_i c;refine List.pairwise_cons.2 ⟨fun x o=>?_,k⟩;have i:=(lN _ _).1 o;have d:=j.1 x i
   by_cases g:a=x
   .subst g;exfalso;rcases List.mem_cons.1 i with e | n
    .exact c e
    .exact c (qZ (j.1 b (by simp)) ((List.pairwise_cons.1 j.2).1 a n))
   .unfold leT at d;exact fZ (by simpa using d) (fun e=>g e.symm)
def cO (l:List B8):List B8:=iM (uP l)
variable {l:List B8}
theorem jK {x:B8}:x∈cO l↔x∈l:=(lN _ _).trans (oD l).mem_iff
theorem iQ (l:List B8):cM (cO l):=oA (y' l)
theorem rI:∀ {a b:List B8},cM a->cM b->(∀x,x∈a↔x∈b)->a=b
 | [],[],_,_,_=>rfl
 | [],y::b,_,_,h=>by have:=(h y).2 (by simp);cases this
 | x::a,[],_,_,h=>by have:=(h x).1 (by simp);cases this
 | x::a,y::b,q,r,h=>by
  have c:=List.pairwise_cons.1 q;have d:=List.pairwise_cons.1 r;have n:∀ {u v:B8},ltB u v=true->ltB v u=true->False:=fun g i=>jh (gg g i) rfl
  have o:x=y:=by
   rcases List.mem_cons.1 ((h x).1 (by simp))with g | g
   .exact g
   .rcases List.mem_cons.1 ((h y).2 (by simp))with i | i
    .exact i.symm
    .exact (n (c.1 _ i) (d.1 _ g)).elim
  subst o;rw[rI c.2 d.2 (fun z=>by
   have p:=h z;simp only[List.mem_cons]at p;constructor
   .intro j;rcases p.1 (.inr j)with e | l
    .subst e;exact(jh (c.1 _ j) rfl).elim
    .exact l
   .intro k;rcases p.2 (.inr k)with e | l
    .subst e;exact(jh (d.1 _ k) rfl).elim
    .exact l)]
theorem nB {r:List B8} (b:cM r) (a:∀x,x∈r↔x∈l):r=cO l:=rI b (iQ l) (fun x=>(a x).trans jK.symm)
theorem rQ (h:cM l):cO l=l:=(nB h (fun _=>Iff.rfl)).symm
theorem pW:∀(l:List B8),(iM l).length<=l.length
 | []=>Nat.le_refl _
 | [a]=>Nat.le_refl _
 | a::b::l=>by
  have c:=pW (b::l);unfold iM;split
  iterate 2
   .simp at c ⊢;omega
theorem xx (l:List B8):(cO l).length<=l.length:=Nat.le_trans (pW _) (Nat.le_of_eq (oD l).length_eq)
end
section
open Go Go.RowKit
variable {l:List B8} {x:B8} {k:Nat}
theorem o7 (h:cM l) (g:∀y∈l.take k,ltB y x=true) (i:∀y∈l.drop k,ltB x y=true):cM (l.take k++x::l.drop k):=by
 refine List.pairwise_append.2 ⟨List.Pairwise.sublist (List.take_sublist _ _) h,List.pairwise_cons.2 ⟨i,List.Pairwise.sublist (List.drop_sublist _ _) h⟩,fun a e b c=>?_⟩;rcases List.mem_cons.1 c with rfl | c
 .exact g a e
 .have d:=h;rw[<-List.take_append_drop k l]at d;exact(List.pairwise_append.1 d).2.2 a e b c
variable {i:Nat}
theorem qv (d:l[i]? = some x) (b:∀y∈(cO (l.take i)).take k,ltB y x=true) (c:∀y∈(cO (l.take i)).drop k,ltB x y=true) :
  cO (l.take (i+1))=(cO (l.take i)).take k++x::(cO (l.take i)).drop k:=by
 symm;refine nB (o7 (iQ _) b c) (fun z=>?_);have e:l.take (i+1)=l.take i++[x]:=by rw[List.take_add_one,d];rfl
 rw[e];have a:z∈cO (l.take i)↔z∈l.take i:=jK;rw[<-List.take_append_drop k (cO (l.take i)),List.mem_append]at a;simp only[List.mem_append,List.mem_cons,List.not_mem_nil,or_false];rw[<-a];constructor
 .rintro (h | h | h) <;> simp[h]
 .rintro ((h | h) | h) <;> simp[h]
theorem qw (b:l[i]? = some x) (h:x∈cO (l.take i)):cO (l.take (i+1))=cO (l.take i):=by
 symm;refine nB (iQ _) (fun z=>?_);have e:l.take (i+1)=l.take i++[x]:=by rw[List.take_add_one,b];rfl
 rw[e,jK];simp only[List.mem_append,List.mem_singleton];constructor
 .exact fun h=>.inl h
 .rintro (a | rfl)
  .exact a
  .exact jK.1 h
end
section
open Go Go.RowKit
end
end Go.Proofs.YtfabjgfmiaammaaGreatDoor
