/- Contracts of the program's functions and plain laws behind the card. Conditions: as each theorem states. -/
import Derived.Test.YtgfegpnmlkdjfaaGreatDoorZbi
import Derived.Test.YtgfegpnmlkdjfaaGreatDoorZag
import Derived.Test.YtgfegpnmlkdjfaaGreatDoorZaw
set_option linter.unusedVariables false
set_option linter.unusedSimpArgs false
set_option linter.unusedSectionVars false
set_option maxRecDepth 100000
set_option maxHeartbeats 64000000
namespace Go.Proofs.YtgfegpnmlkdjfaaGreatDoor
section
open Go Go.RowKit Go.Sort
structure Cv where
 c:Ck
 o:Value
 a:Value
 b:Value
def cvC (x:Cv):List Value:=[.int .i64 x.c.k,x.o,x.a,x.b]
def RdTx (w:World) (v:Value) (l:List B8):Prop:=IsStrs w v l/\Typed 9 w v
structure RdCv (w:World) (x:Cv):Prop where
 o:RdTx w x.o x.c.o
 a:RdTx w x.a x.c.a
 b:RdTx w x.b x.c.b
variable {w w':World} {v:Value} {l:List B8}
theorem RdTx.keep (h:RdTx w v l) (a:Keep 9 w w'):RdTx w' v l:=⟨Row.keep h.1 h.2 a,h.2.keep a⟩
theorem RdTx.ext (h:RdTx w v l) (a:Ext w w'):RdTx w' v l:=h.keep (Keep.GX a)
variable {x:Cv}
theorem RdCv.keep (h:RdCv w x) (a:Keep 9 w w'):RdCv w' x:=⟨h.o.keep a,h.a.keep a,h.b.keep a⟩
variable {n:Nat}
theorem RdTx.own {B:Nat} (h:w.ownsRow B 9 1 v n (l.map S8)) (a:n=l.length) (b:l.length<=100000):RdTx w v l:=by
 subst a;exact⟨Row.GW h (by omega),Typed.GW h⟩
def IsHd (w:World) (g c:Nat) (l:List B8):Prop:=RdTx w (.slice (some ⟨g,0,none⟩) l.length c) l
variable {g c i j:Nat}
theorem IsHd.cut (h:IsHd w g c l) (B:i<=j) (J:j<=l.length) (p:Nat) (D:c≠i->p=i):RdTx w (.slice (some ⟨g,p,none⟩) (j - i) (c - i)) (bQ l i j):=by
 obtain⟨⟨F,G,r,K,L,M,A⟩,E⟩:=h;cases r;have a:(bQ l i j).length=j - i:=by unfold bQ;rw[List.length_take,List.length_drop];omega
 obtain⟨H,I,y⟩:=E _ _ _ rfl;refine⟨?_,Typed.at y⟩;unfold IsStrs;rw[a];refine⟨_,_,rfl,by omega,by omega,by omega,fun d=>?_⟩;obtain⟨b,o,e,z⟩:=A (fun t=>by
  have x:l=[]:=by simpa using t
  rw[x]at d;apply d;unfold bQ;simp)
 cases e;have n:c≠i:=fun e=>by
  apply d;rw[List.map_eq_nil_iff];apply List.eq_nil_of_length_eq_zero;omega
 refine⟨g,p,rfl,fun k u q=>?_⟩;rw[D n];have:=z (i+k) u (by
  rw[<-q,List.getElem?_map,List.getElem?_map];unfold bQ;have C:k<j - i:=by
   have:=(List.getElem?_eq_some_iff.1 q).1;rw[List.length_map,a]at this;exact this
  rw[List.getElem?_take_of_lt C,List.getElem?_drop])
 rwa [Nat.zero_add]at this
theorem IsHd.ext (h:IsHd w g c l) (a:Ext w w'):IsHd w' g c l:=RdTx.ext h a
theorem n8 (l:List B8) (a:i<=j) (b:j<=l.length):(bQ l i j).length=j - i:=by unfold bQ;rw[List.length_take,List.length_drop];omega
theorem qv {m:Nat}:Value.slice (if c=i then some ⟨g,0,none⟩else some ⟨g,i,none⟩) n m=.slice (some ⟨g,if c=i then 0 else i,none⟩) n m:=by split <;> rfl
theorem vC:(Tryz.prog.info? 168).map (fun i=>(i.zero,i.size,i.bytes))=some (some (.agg #[.int .i64 0,.slice none 0 0,.slice none 0 0,.slice none 0 0]),4,80):=by kernel_rfl
section
variable {ops:Array Oper} {rest:List Oper} {o:Oper} {a:Act} {Q:Exit->Act->World->Prop} {w:World}
theorem DB (q:o.guard=none) (s x:Operand) (A:o.op=.call { callee:=.builtin .append,args:=#[s,x],argTypes:=#[163,163] })
  (b:Nat) (v:Value) (n:Nat) (xs:List Value) (B:a.eval s=v) (e:w.ownsRow b 168 4 v n xs)
  (g c:Nat) (k:Int) (u1 u2 u3:Value) (C:a.eval x=.slice (some ⟨g,0,none⟩) 1 c) {fr:Nat×Nat} (z:w.heap[g]? = some (.cells #[.int .i64 k,u1,u2,u3] 168 fr))
  (r:u1.oneCell'=true) (t:u2.oneCell'=true) (D:u3.oneCell'=true) (E:n<=10000000) (d:b<=w.heap.size)
  (h:∀p w',w'.ownsRow b 168 4 p (n+1) (xs++[.int .i64 k,u1,u2,u3])->w.grownBy w' v.ownBlock->wpList Tryz.prog ops Q rest (a.put o.dst p) w'):wpList Tryz.prog ops Q (o::rest) a w :=
 eY _ _ _ 4 80 Tryz.underlying163 vC rfl (by omega) q s x A b v n xs B e ⟨g,0,none⟩ 1 c [.int .i64 k,u1,u2,u3] C rfl (by simpa using bW z) (fun u y=>by simp at y;rcases y with rfl | rfl | rfl | rfl <;> first | rfl | assumption) (by omega) (by omega) d
  (fun p w' r t _=>h p w' r t)
end
theorem RdTx.one (h:RdTx w v l):v.oneCell'=true:=by
 obtain⟨⟨a,c,rfl,-⟩,-⟩:=h;rfl
def wkC (e b d a:Value) (i j k:Nat):Array Value:=#[e,b,d,.int .i64 i,.int .i64 j,.int .i64 k,a]
def slL (g n c:Nat):Value:=.slice (some ⟨g,0,none⟩) n c
structure IsWk (w0 w:World) (g:Nat) (vo va vb vout:Value) (s:Wk) (L:List Cv):Prop where
 row:w.heap[g]? = some (.cells (wkC vo va vb vout s.i s.j s.k) 196 (0,0))
 out:w.ownsRow w0.heap.size 168 4 vout L.length (L.flatMap cvC)
 eq:L.map Cv.c=s.out
 rd:∀x∈L,RdCv w x
 lo:w0.heap.size<=g
 ext:Ext w0 w
section
variable {w0 w w':World} {g:Nat} {vo va vb vout:Value} {s:Wk} {L:List Cv}
theorem IsWk.more (h:IsWk w0 w g vo va vb vout s L) (a:Ext w w'):IsWk w0 w' g vo va vb vout s L :=
 ⟨a.row h.row,az h.out a,h.eq,fun x b=>(h.rd x b).keep (Keep.GX a),h.lo,h.ext.trans a⟩
theorem IsWk.set (h:IsWk w0 w g vo va vb vout s L) (i j k:Nat) (a:w.grownBy w' (some g)) (b:w'.heap[g]? = some (.cells (wkC vo va vb vout i j k) 196 (0,0))):IsWk w0 w' g vo va vb vout ⟨i,j,k,s.out⟩ L:=by
 refine⟨b,cH h.out a (fun q n e d=>?_),h.eq,fun x o=>(h.rd x o).keep (Keep.G1 a h.row (by decide)),h.lo,h.ext.but a h.lo⟩;cases n;rw[h.row]at d;simp at d
theorem qF {a:Nat} {e:TypeId} {b:Nat} {xs:List Value} (h:w.ownsRow a e b v n xs):v.oneCell'=true:=by
 rcases h.2 with⟨c,-⟩ | ⟨j,i,d,c,-⟩ <;> rw[c] <;> rfl
variable {w1:World}
theorem IsWk.Ho (h:IsWk w0 w g vo va vb vout s L) (b:w.grownBy w1 vout.ownBlock):w1.heap[g]? = some (.cells (wkC vo va vb vout s.i s.j s.k) 196 (0,0)):=by
 have d:∀q,vout.ownBlock=some q->∃a,w.heap[q]? = some (.cells a 168 (0,0)):=fun q n=>(bO h.out q n).2
 rw[b.block g (Array.getElem?_eq_some_iff.1 h.row).1 (fun e=>?_)]
 .exact h.row
 .obtain ⟨o,k⟩:=d g e.symm;rw[h.row]at k;simp at k
variable {w2:World} {vout':Value}
theorem IsWk.app (h:IsWk w0 w g vo va vb vout s L) (x:Cv) (a:w.grownBy w1 vout.ownBlock) (B:w1.ownsRow w0.heap.size 168 4 vout' (L.length+1) (L.flatMap cvC++cvC x)) (C:RdCv w x)
  (b:w1.grownBy w2 (some g)) (p:w2.heap[g]? = some (.cells (wkC vo va vb vout' s.i s.j s.k) 196 (0,0))):IsWk w0 w2 g vo va vb vout' ⟨s.i,s.j,s.k,s.out++[x.c]⟩ (L++[x])/\Keep 9 w w2:=by
 have u:∀q,vout.ownBlock=some q->∃n,w.heap[q]? = some (.cells n 168 (0,0)):=fun q t=>(bO h.out q t).2
 have o:w1.heap[g]? = some (.cells (wkC vo va vb vout s.i s.j s.k) 196 (0,0)):=by
  rw[a.block g (Array.getElem?_eq_some_iff.1 h.row).1 (fun e=>?_)]
  .exact h.row
  .obtain ⟨D,z⟩:=u g e.symm;rw[h.row]at z;simp at z
 have d:Keep 9 w w1:=Keep.GW h.out a (by decide);have k:Keep 9 w1 w2:=Keep.G1 b o (by decide);refine⟨⟨p,?_,?_,fun y r=>?_,h.lo,?_⟩,d.trans k⟩
 .rw [List.length_append,List.length_singleton,List.flatMap_append,List.flatMap_singleton];refine cH B b (fun q t n A=>?_);cases t;rw[o]at A;simp at A
 .rw [List.map_append,h.eq];rfl
 .rcases List.mem_append.1 r with r | r
  .exact (h.rd y r).keep (d.trans k)
  .obtain rfl:=List.mem_singleton.1 r;exact C.keep (d.trans k)
 .exact (aA h.ext h.out a).but b h.lo
structure WkA (w0 w:World) (g:Nat) (vo va vb vout vnew:Value) (s:Wk) (L:List Cv) (x:Cv):Prop where
 row:w.heap[g]? = some (.cells (wkC vo va vb vout s.i s.j s.k) 196 (0,0))
 out:w.ownsRow w0.heap.size 168 4 vnew (L++[x]).length ((L++[x]).flatMap cvC)
 eq:L.map Cv.c=s.out
 rd:∀y∈L++[x],RdCv w y
 lo:w0.heap.size<=g
 ext:Ext w0 w
variable {vnew:Value}
theorem WkA.more (h:WkA w0 w g vo va vb vout vnew s L x) (a:Ext w w'):WkA w0 w' g vo va vb vout vnew s L x :=
 ⟨a.row h.row,az h.out a,h.eq,fun y b=>(h.rd y b).keep (Keep.GX a),h.lo,h.ext.trans a⟩
theorem IsWk.grow (h:IsWk w0 w g vo va vb vout s L) (x:Cv) (a:w.grownBy w1 vout.ownBlock) (e:w1.ownsRow w0.heap.size 168 4 vout' (L.length+1) (L.flatMap cvC++cvC x)) (k:RdCv w x):WkA w0 w1 g vo va vb vout vout' s L x/\Keep 9 w w1:=by
 have b:Keep 9 w w1:=Keep.GW h.out a (by decide);refine⟨⟨h.Ho a,?_,h.eq,fun y d=>?_,h.lo,aA h.ext h.out a⟩,b⟩
 .rw [List.length_append,List.length_singleton,List.flatMap_append,List.flatMap_singleton];exact e
 .rcases List.mem_append.1 d with d | d
  .exact (h.rd y d).keep b
  .obtain rfl:=List.mem_singleton.1 d;exact k.keep b
theorem WkA.store (h:WkA w0 w g vo va vb vout vnew s L x) (a:w.grownBy w2 (some g)) (b:w2.heap[g]? = some (.cells (wkC vo va vb vnew s.i s.j s.k) 196 (0,0))) :
  IsWk w0 w2 g vo va vb vnew ⟨s.i,s.j,s.k,s.out++[x.c]⟩ (L++[x]):=by
 refine⟨b,cH h.out a (fun q k e d=>?_),by rw[List.map_append,h.eq];rfl,fun y n=>(h.rd y n).keep (Keep.G1 a h.row (by decide)),h.lo,h.ext.but a h.lo⟩;cases k;rw[h.row]at d;simp at d
structure ToJ (w0:World) (g:Nat) (vo va vb vout:Value) (s:Wk) (L:List Cv) (c:Ck) (z10 z12 z14 z15 z16 z17:Option Value) (w:World):Prop where
 pre:z17=none->IsWk w0 w g vo va vb vout s L
 o:∀u,z10=some u->RdTx w u c.o
 a:∀u,z12=some u->RdTx w u c.a
 b:∀u,z14=some u->RdTx w u c.b
 ag:∀u,z15=some u->∃v1 v2 v3,u=.agg #[.int .i64 c.k,v1,v2,v3]/\RdCv w ⟨c,v1,v2,v3⟩
 sl:∀u,z16=some u->∃b7 v1 v2 v3,u=.slice (some ⟨b7,0,none⟩) 1 1/\(z17=none->w.heap[b7]? = some (.cells #[.int .i64 c.k,v1,v2,v3] 168 (0,0)))/\RdCv w ⟨c,v1,v2,v3⟩
 dn:∀u,z17=some u->∃x:Cv,x.c=c/\WkA w0 w g vo va vb vout u s L x
 ext:Ext w0 w
 row:w.heap[g]? = some (.cells (wkC vo va vb vout s.i s.j s.k) 196 (0,0))
section
variable {c:Ck} {z10 z12 z14 z15 z16 z17:Option Value}
theorem ToJ.start (h:IsWk w0 w g vo va vb vout s L):ToJ w0 g vo va vb vout s L c none none none none none none w :=
 ⟨fun _=>h,fun u h=>(by cases h),fun u h=>(by cases h),fun u h=>(by cases h),fun u h=>(by cases h),fun u h=>(by cases h),fun u h=>(by cases h),h.ext,h.row⟩
theorem ToJ.more (h:ToJ w0 g vo va vb vout s L c z10 z12 z14 z15 z16 z17 w) (b:Ext w w'):ToJ w0 g vo va vb vout s L c z10 z12 z14 z15 z16 z17 w' :=
 ⟨fun k=>(h.pre k).more b,fun u a=>(h.o u a).ext b,fun u a=>(h.a u a).ext b,fun u a=>(h.b u a).ext b,
  fun u a=>by obtain⟨n,o,p,d,e⟩:=h.ag u a;exact⟨n,o,p,d,e.keep (Keep.GX b)⟩,
  fun u a=>by obtain⟨q,n,o,p,d,e,r⟩:=h.sl u a;exact⟨q,n,o,p,d,fun k=>b.row (e k),r.keep (Keep.GX b)⟩,
  fun u a=>by obtain⟨x,d,e⟩:=h.dn u a;exact⟨x,d,e.more b⟩,h.ext.trans b,b.row h.row⟩
variable {u:Value}
theorem ToJ.IE (h:ToJ w0 g vo va vb vout s L c z10 z12 z14 z15 z16 z17 w) (a:RdTx w u c.o):ToJ w0 g vo va vb vout s L c (some u) z12 z14 z15 z16 z17 w :=
 { h with o:=fun v b=>by cases b;exact a }
theorem ToJ.Im (h:ToJ w0 g vo va vb vout s L c z10 z12 z14 z15 z16 z17 w) (b:RdTx w u c.a):ToJ w0 g vo va vb vout s L c z10 (some u) z14 z15 z16 z17 w :=
 { h with a:=fun v d=>by cases d;exact b }
theorem ToJ.Io (h:ToJ w0 g vo va vb vout s L c z10 z12 z14 z15 z16 z17 w) (a:RdTx w u c.b):ToJ w0 g vo va vb vout s L c z10 z12 (some u) z15 z16 z17 w :=
 { h with b:=fun v d=>by cases d;exact a }
variable {v1 v2 v3:Value}
theorem ToJ.Ip (h:ToJ w0 g vo va vb vout s L c z10 z12 z14 z15 z16 z17 w) (a:RdTx w v1 c.o) (b:RdTx w v2 c.a) (d:RdTx w v3 c.b):ToJ w0 g vo va vb vout s L c z10 z12 z14 (some (.agg #[.int .i64 c.k,v1,v2,v3])) z16 z17 w :=
 { h with ag:=fun v e=>by cases e;exact⟨v1,v2,v3,rfl,a,b,d⟩ }
theorem ToJ.IF (h:ToJ w0 g vo va vb vout s L c z10 z12 z14 z15 z16 z17 w) (a:RdCv w ⟨c,v1,v2,v3⟩) :
  ToJ w0 g vo va vb vout s L c z10 z12 z14 z15 (some (.slice (some ⟨w.heap.size,0,none⟩) 1 1)) z17 (w.alloc (.cells #[.int .i64 c.k,v1,v2,v3] 168)) :=
 { h.more ((Ext.refl _).alloc _)with sl:=fun v b=>by cases b;exact⟨_,v1,v2,v3,rfl,fun _=>ah _ _,a.keep (Keep.GX ((Ext.refl _).alloc _))⟩ }
theorem ToJ.IG (h:ToJ w0 g vo va vb vout s L c z10 z12 z14 z15 z16 none w) (a:z16=some u) (G:L.length<=10000) :
  ∃r w',(Builtin.append_ #[163,163] 163 #[vout,u]).run Tryz.prog w=.ok r w'/\ToJ w0 g vo va vb vout s L c z10 z12 z14 z15 z16 (some r) w':=by
 subst a;obtain⟨C,o,p,q,rfl,x,e⟩:=h.sl u rfl;have x:=x rfl;have A:=h.pre rfl;have k:Row w (.slice (some ⟨C,0,none⟩) 1 1) 1 [.int .i64 c.k,o,p,q]:=Row.new x (by omega) _ rfl;obtain⟨r,w',n,d,z,-⟩:=js 163 168 _ 4 80 Tryz.underlying163 vC rfl (by omega) w0.heap.size vout L.length _ A.out _ 1 _ k rfl
  (fun y D=>by
   simp only[List.mem_cons,List.not_mem_nil,or_false]at D;rcases D with rfl | rfl | rfl | rfl
   .rfl
   .exact RdTx.one e.o
   .exact RdTx.one e.a
   .exact RdTx.one e.b) (by omega) (by omega) A.ext.size
 obtain⟨t,b⟩:=A.grow ⟨c,o,p,q⟩ z d e;refine⟨r,w',n,fun B=>(by cases B),fun u a=>(h.o u a).keep b,fun u a=>(h.a u a).keep b,fun u a=>(h.b u a).keep b,fun u a=>?_,fun u a=>?_,fun u a=>?_,t.ext,t.row⟩
 .obtain ⟨o,p,q,E,F⟩:=h.ag u a;exact⟨o,p,q,E,F.keep b⟩
 .cases a;exact⟨C,o,p,q,rfl,fun B=>(by cases B),e.keep b⟩
 .cases a;exact⟨_,rfl,t⟩
end
theorem IsWk.len (h:IsWk w0 w g vo va vb vout s L):L.length=s.out.length:=by rw[<-h.eq,List.length_map]
end
theorem kX (v:Value) (l:List B8) (w:World) (z:IsStrs w v l) (u:l.length<=100000) :
  Calls Tryz.prog 80 #[v] w fun e w'=>∃b,e=.returned b/\RdTx w' b l/\Ext w w':=by
 obtain⟨a,c,rfl,A,C,D,o⟩:=z.get
 cases a with
 | none =>
  have k:l=[]:=by
   cases l with
   | nil=>rfl
   | cons x l=>obtain⟨_,_,h,-⟩:=o 0 (by simp);cases h
  subst k;refine(Tryz.slices_Clone_string_nil _ c w).mono ?_;rintro e w' ⟨rfl,rfl⟩;exact⟨_,rfl,⟨⟨none,0,rfl,Nat.le_refl _,by omega,by simp,fun h=>absurd rfl h⟩,Typed.nil _ _ _ _⟩,Ext.refl _⟩
 | some q =>
  cases l with
  | nil =>
   refine(Tryz.slices_Clone_string_zero q c w).mono ?_;rintro e w' ⟨b,rfl,d,-,g⟩;exact⟨b,rfl,RdTx.own (l:=[]) d rfl (by simp),g⟩
  | cons x l =>
   obtain⟨n,p,t,r⟩:=o 0 (by simp);cases t;have y:∀j,j<((x::l).map fun s:B8=>(⟨s.toArray⟩:ByteArray)).length->w.cell? ⟨n,p+j,none⟩=some (.string (((x::l).map fun s:B8=>(⟨s.toArray⟩:ByteArray)).getD j ByteArray.empty)):=fun j i=>by
    rw[List.length_map]at i;rw[r j i,List.getD_eq_getElem?_getD,List.getD_eq_getElem?_getD,List.getElem?_map,List.getElem?_eq_getElem i];rfl
   refine(Tryz.slices_Clone_string n p _ c ((x::l).map fun s:B8=>(⟨s.toArray⟩:ByteArray)) w (by rw[List.length_map];exact Nat.le_refl _) (by omega) y).mono ?_;rintro e w' ⟨b,rfl,d,-,g⟩;refine⟨b,rfl,RdTx.own (l:=x::l) (B:=w.heap.size) ?_ rfl u,g⟩;rw[List.take_of_length_le (by rw[List.length_map];exact Nat.le_refl _),List.map_map]at d;exact d
theorem zR {Z:World} {P M N F E cb:Nat} {d:Value} {s:Wk} {L:List Cv} {o a b:List B8} (i j k:Nat)
  (h:IsWk Z w g (slL P o.length F) (slL M a.length E) (slL N b.length cb) d s L) (ho:IsHd Z P F o) (ha:IsHd Z M E a) (hb:IsHd Z N cb b)
  (hi:s.i<=i/\i<=o.length) (n:s.j<=j/\j<=a.length) (t:s.k<=k/\k<=b.length) (c':o.length<=1000) (c5:a.length<=1000) (c6:b.length<=1000) (hL:L.length<=10000) :
  Calls Tryz.prog 143 #[.pointer (some ⟨g,0,none⟩),.int .i64 i,.int .i64 j,.int .i64 k] w fun e w'=>e=.returned (.tuple #[])/\∃a9 L',IsWk Z w' g (slL P o.length F) (slL M a.length E) (slL N b.length cb) a9 (toW o a b s i j k) L':=by
 have H:Hid _:=h;have HO:Hid (IsHd Z P F o):=ho;have HA:Hid (IsHd Z M E a):=ha;have HB:Hid (IsHd Z N cb b):=hb;obtain⟨c9,cq⟩:o.length<=F/\F<=9223372036854775807:=by obtain⟨⟨_,_,e,l1,l2,-⟩,-⟩:=ho;cases e;exact⟨l1,l2⟩
 obtain⟨c7,cm⟩:a.length<=E/\E<=9223372036854775807:=by obtain⟨⟨_,_,e,l1,l2,-⟩,-⟩:=ha;cases e;exact⟨l1,l2⟩
 obtain⟨c8,cp⟩:b.length<=cb/\cb<=9223372036854775807:=by obtain⟨⟨_,_,e,l1,l2,-⟩,-⟩:=hb;cases e;exact⟨l1,l2⟩
 have T:Hid _:=h.row;obtain⟨S,G,y,I⟩:=s;dsimp only at hi n t T;clear h ho ha hb;have y0:=(cell_of_row _ _ 0 _ _ _ T.out).trans rfl;have y1:=(cell_of_row _ _ 1 _ _ _ T.out).trans rfl;have y2:=(cell_of_row _ _ 2 _ _ _ T.out).trans rfl;have y3:=(cell_of_row _ _ 3 _ _ _ T.out).trans rfl;have y4:=(cell_of_row _ _ 4 _ _ _ T.out).trans rfl;have y5:=(cell_of_row _ _ 5 _ _ _ T.out).trans rfl;unfold slL at y0 y1 y2;have b2:(S:Int)<=(i:Int):=by omega
 have b5:(G:Int)<=(j:Int):=by omega
 have V:(y:Int)<=(k:Int):=by omega
 have b3:(i:Int)<=(F:Int):=by omega
 have b6:(j:Int)<=(E:Int):=by omega
 have aa:(k:Int)<=(cb:Int):=by omega
 go_enter Tryz.func143,Tryz.ntmps143;go_upto_region 0 with fail;apply ak 33 [_,_,.pointer (some ⟨g,0,none⟩),.slice (some ⟨P,0,none⟩) o.length F,_,_,_,.int .i64 S,_,undef,_,_,.pointer (some ⟨g,1,none⟩),.slice (some ⟨M,0,none⟩) a.length E,_,_,_,.int .i64 G,_,undef,_,_,.pointer (some ⟨g,2,none⟩),.slice (some ⟨N,0,none⟩) b.length cb,_,_,_,.int .i64 y,_,undef,undef,undef,undef] [none,none,none,none,none,none,none,none,none,some (fun u w'=>∃X,u=.slice (some ⟨P,X,none⟩) (i - S) (F - S)/\(F≠S->X=S)),none,none,none,none,none,none,none,none,none,some (fun u w'=>∃X,u=.slice (some ⟨M,X,none⟩) (j - G) (E - G)/\(E≠G->X=G)),none,none,none,none,none,none,none,none,none,some (fun u w'=>∃X,u=.slice (some ⟨N,X,none⟩) (k - y) (cb - y)/\(cb≠y->X=y)),some (fun u w'=>∃X,u=.slice (some ⟨P,X,none⟩) (i - S) (F - S)/\(F≠S->X=S)),some (fun u w'=>∃X,u=.slice (some ⟨M,X,none⟩) (j - G) (E - G)/\(E≠G->X=G)),some (fun u w'=>∃X,u=.slice (some ⟨N,X,none⟩) (k - y) (cb - y)/\(cb≠y->X=y))] [[],[0],[1],[2],[],[4],[5],[6],[],[3,7,8],[],[10],[11],[12],[],[14],[15],[16],[],[13,17,18],[],[20],[21],[22],[],[24],[25],[26],[],[23,27,28],[9],[19],[29]] (by kernel_rfl) (by kernel_rfl) (by simp[aq])
 .refine ⟨?_,?_,?_,?_,?_,?_,trivial⟩
  iterate 6
   .exact fun _ _ _ he h=>h
 .simp (maxSteps:=1000000)only[List.take_succ_cons,List.take_zero,ay,aB,af,Act.put,List.setIfInBounds_toArray,List.set_cons_zero,List.set_cons_succ,aE,aH,aq,List.getD_cons_zero,List.getD_cons_succ,and_true,true_and,forall_const];and_intros
  iterate 9 · intro J Y Q;intros;rename_i C;have f0:=Q.cell y0;have f1:=Q.cell y1;have f2:=Q.cell y2;have f3:=Q.cell y3;have f4:=Q.cell y4;have f5:=Q.cell y5;go_simp;exact C _ _ (Ext.refl _) rfl
  .intro J Y Q t R C;obtain⟨ai,V,aa⟩:=t;go_simp;rw[qv];exact C _ _ (Ext.refl _) ⟨_,rfl,fun h=>if_neg h⟩
  iterate 9 · intro J Y Q;intros;rename_i C;have f0:=Q.cell y0;have f1:=Q.cell y1;have f2:=Q.cell y2;have f3:=Q.cell y3;have f4:=Q.cell y4;have f5:=Q.cell y5;go_simp;exact C _ _ (Ext.refl _) rfl
  .intro J Y Q t R C;obtain⟨ai,V,aa⟩:=t;go_simp;rw[qv];exact C _ _ (Ext.refl _) ⟨_,rfl,fun h=>if_neg h⟩
  iterate 9 · intro J Y Q;intros;rename_i C;have f0:=Q.cell y0;have f1:=Q.cell y1;have f2:=Q.cell y2;have f3:=Q.cell y3;have f4:=Q.cell y4;have f5:=Q.cell y5;go_simp;exact C _ _ (Ext.refl _) rfl
  .intro J Y Q t R C;obtain⟨ai,V,aa⟩:=t;go_simp;rw[qv];exact C _ _ (Ext.refl _) ⟨_,rfl,fun h=>if_neg h⟩
  iterate 3
   .intro J Y Q t R C;go_simp;exact C _ _ (Ext.refl _) t
 intro J w2 bp t;simp only[aG,Nat.zero_add,Nat.reduceAdd,and_true]at t;have q9:=t.2.2.2.2.2.2.2.2.2.1;have cc:=t.2.2.2.2.2.2.2.2.2.2.2.2.2.2.2.2.2.2.2.1;have ce:=t.2.2.2.2.2.2.2.2.2.2.2.2.2.2.2.2.2.2.2.2.2.2.2.2.2.2.2.2.2.1;have cf:=t.2.2.2.2.2.2.2.2.2.2.2.2.2.2.2.2.2.2.2.2.2.2.2.2.2.2.2.2.2.2.1;have ci:=t.2.2.2.2.2.2.2.2.2.2.2.2.2.2.2.2.2.2.2.2.2.2.2.2.2.2.2.2.2.2.2.1;have cl:=t.2.2.2.2.2.2.2.2.2.2.2.2.2.2.2.2.2.2.2.2.2.2.2.2.2.2.2.2.2.2.2.2;simp(maxSteps:=1000000)only[List.take_succ_cons,List.take_zero,List.drop_succ_cons,List.drop_zero,af,Act.put,List.setIfInBounds_toArray,List.set_cons_zero,List.set_cons_succ,Nat.zero_add,Nat.reduceAdd,t];clear t;generalize J 9=x9 at *;generalize J 19=dq at *;generalize J 29=ds at *;generalize J 30=d0 at *;generalize J 31=d1 at *;generalize J 32=d2 at *;have bc:Hid (IsWk Z w2 g (slL P o.length F) (slL M a.length E) (slL N b.length cb) d ⟨S,G,y,I⟩ L):=H.out.more bp;obtain⟨o1,rfl,am⟩:=cf;obtain⟨o2,rfl,ao⟩:=ci;obtain⟨o3,rfl,au⟩:=cl;have am:∀w',Ext Z w'->RdTx w' (.slice (some ⟨P,o1,none⟩) (i - S) (F - S)) (bQ o S i):=fun w' hx=>(HO.out.ext hx).cut hi.1 hi.2 o1 am
 have ao:∀w',Ext Z w'->RdTx w' (.slice (some ⟨M,o2,none⟩) (j - G) (E - G)) (bQ a G j):=fun w' hx=>(HA.out.ext hx).cut n.1 n.2 o2 ao
 have au:∀w',Ext Z w'->RdTx w' (.slice (some ⟨N,o3,none⟩) (k - y) (cb - y)) (bQ b y k):=fun w' hx=>(HB.out.ext hx).cut t.1 t.2 o3 au
 have av:Hid ((bQ o S i).length=i - S):=n8 _ hi.1 hi.2;have a0:Hid ((bQ a G j).length=j - G):=n8 _ n.1 n.2;have a4:Hid ((bQ b y k).length=k - y):=n8 _ t.1 t.2;have ag:Hid (toW o a b ⟨S,G,y,I⟩ i j k=⟨i,j,k,if 0<(bQ o S i).length+(bQ a G j).length+(bQ b y k).length then I++[⟨fI (bQ o S i) (bQ a G j) (bQ b y k),bQ o S i,bQ a G j,bQ b y k⟩]else I⟩):=rfl;obtain⟨O,hO⟩:∃O,bQ o S i=O:=⟨_,rfl⟩;obtain⟨A,hA⟩:∃A,bQ a G j=A:=⟨_,rfl⟩;obtain⟨B,hB⟩:∃B,bQ b y k=B:=⟨_,rfl⟩;rw[hO]at am av ag;rw[hA]at ao a0 ag;rw[hB]at au a4 ag;obtain⟨p,hp⟩:∃p,i - S=p:=⟨_,rfl⟩;obtain⟨q,Q⟩:∃p,j - G=p:=⟨_,rfl⟩;obtain⟨r,hr⟩:∃p,k - y=p:=⟨_,rfl⟩;rw[hp]at am av ⊢;rw[Q]at ao a0 ⊢;rw[hr]at au a4 ⊢;have a':Hid _:=am;have ba:Hid _:=ao;have bb:Hid _:=au;have b8:p<=1000:=by omega
 have b9:q<=1000:=by omega
 have b':r<=1000:=by omega
 have cu:IntKind.i64.wrap ((p:Int)+(q:Int))=(p:Int)+(q:Int):=IntWalk.i64_in _ (by omega);have cv:IntKind.i64.wrap ((p:Int)+(q:Int)+(r:Int))=(p:Int)+(q:Int)+(r:Int):=IntWalk.i64_in _ (by omega);clear q9 cc ce am ao au hO hA hB hp Q hr bp y0 y1 y2 y3 y4 y5 b2 b5 V b3 b6 aa;have bk:wkC (slL P o.length F) (slL M a.length E) (slL N b.length cb) d i G y=((wkC (slL P o.length F) (slL M a.length E) (slL N b.length cb) d S G y).toList.take 3++[Value.int .i64 i]++(wkC (slL P o.length F) (slL M a.length E) (slL N b.length cb) d S G y).toList.drop (3+1)).toArray:=rfl;have bm:wkC (slL P o.length F) (slL M a.length E) (slL N b.length cb) d i j y=((wkC (slL P o.length F) (slL M a.length E) (slL N b.length cb) d i G y).toList.take 4++[Value.int .i64 j]++(wkC (slL P o.length F) (slL M a.length E) (slL N b.length cb) d i G y).toList.drop (4+1)).toArray:=rfl;have bo:wkC (slL P o.length F) (slL M a.length E) (slL N b.length cb) d i j k=((wkC (slL P o.length F) (slL M a.length E) (slL N b.length cb) d i j y).toList.take 5++[Value.int .i64 k]++(wkC (slL P o.length F) (slL M a.length E) (slL N b.length cb) d i j y).toList.drop (5+1)).toArray:=rfl;go_upto_region 2 with(first
  | (refine aP rfl 3 (.tmp 48) (.tmp 44) rfl g 3 rfl (.int .i64 i) rfl rfl _ (wkC (slL P o.length F) (slL M a.length E) (slL N b.length cb) d S G y) bc.out.row (by show _<=7;decide) (by kernel_rfl) _ bk ?_;intro wa U D;have bh:Hid (IsWk Z wa g (slL P o.length F) (slL M a.length E) (slL N b.length cb) d ⟨i,G,y,I⟩ L):=bc.out.set i G y D U;clear U D)
  | (refine aP rfl 3 (.tmp 50) (.tmp 45) rfl g 4 rfl (.int .i64 j) rfl rfl _ (wkC (slL P o.length F) (slL M a.length E) (slL N b.length cb) d i G y) bh.out.row (by show _<=7;decide) (by kernel_rfl) _ bm ?_;intro wb U D;have bi:Hid (IsWk Z wb g (slL P o.length F) (slL M a.length E) (slL N b.length cb) d ⟨i,j,y,I⟩ L):=bh.out.set i j y D U;clear U D)
  | (refine aP rfl 3 (.tmp 52) (.tmp 46) rfl g 5 rfl (.int .i64 k) rfl rfl _ (wkC (slL P o.length F) (slL M a.length E) (slL N b.length cb) d i j y) bi.out.row (by show _<=7;decide) (by kernel_rfl) _ bo ?_;intro wc U D;have a6:Hid (IsWk Z wc g (slL P o.length F) (slL M a.length E) (slL N b.length cb) d ⟨i,j,k,I⟩ L):=bi.out.set i j k D U;clear U D))
 clear bk bm bo;obtain⟨K,hK⟩:∃K,fI O A B=K:=⟨_,rfl⟩;rw[hK]at ag;have HK:Hid _:=hK;clear hK
 by_cases cs:(0:Int)<(p:Int)+(q:Int)+(r:Int)
 case neg =>
  go_wp2_with fail
  go_end0
  refine⟨rfl,d,L,?_⟩;rw[ag.out,if_neg (by rw[av.out,a0.out,a4.out];omega)];exact a6.out
 have b0:Hid (toW o a b ⟨S,G,y,I⟩ i j k=⟨i,j,k,I++[⟨K,O,A,B⟩]⟩):=by
  unfold Hid;rw[ag.out,if_pos (by rw[av.out,a0.out,a4.out];omega)]
 have c4:O.length<=1000:=by rw[av.out];exact b8
 have cx:A.length<=1000:=by rw[a0.out];exact b9
 have c0:B.length<=1000:=by rw[a4.out];exact b'
 have y6:=(cell_of_row _ _ 6 _ _ _ a6.out.row).trans rfl;go_upto_region 3 with fail;clear y6;apply bJ 18 (fun z w'=>ToJ Z g (slL P o.length F) (slL M a.length E) (slL N b.length cb) d ⟨i,j,k,I⟩ L ⟨K,O,A,B⟩ (z 10) (z 12) (z 14) (z 15) (z 16) (z 17) w') [false,false,false,false,false,false,false,false,false,false,true,false,true,false,true,true,true,true] [_,_,_,.pointer (some ⟨g,6,none⟩),d,_,_,_,.int .i64 K,_,undef,_,undef,_,undef,undef,undef,undef] [none,none,none,none,none,none,none,none,none,none,none,none,none,none,none,none,none,none] [[],[],[1],[2],[3],[],[],[],[5,6,7],[],[9],[],[11],[],[13],[8,10,12,14],[15],[4,16]] (by kernel_rfl) (by kernel_rfl) rfl
 .exact ToJ.start (a6.out.more ⟨rfl,rfl,rfl,Nat.le_refl _,fun _ _=>rfl⟩)
 .simp (maxSteps:=1000000)only[fC,eR,dm,dM,eG,List.getD_cons_zero,List.getD_cons_succ,Bool.false_eq_true,if_false,if_true,and_true,true_and,forall_const,Nat.zero_add,Nat.reduceAdd,List.take_succ_cons,List.take_zero,af,Act.put,List.setIfInBounds_toArray,List.set_cons_zero,List.set_cons_succ];and_intros
  iterate 8 · intro J z Y n;intros;rename_i C;have f6:=(cell_of_row _ _ 6 _ _ _ n.row).trans rfl;go_simp;exact C _ _ n rfl
  .intro J z Y n t R C;obtain⟨ai,V,aa⟩:=t;go_simp;exact(AX _ _ _ O A B _ (a'.out _ n.ext).1 (ba.out _ n.ext).1 (bb.out _ n.ext).1).mono (by rw[HK.out];rintro e' w8 ⟨rfl,ab⟩;exact⟨_,rfl,C _ _ (n.more ab) rfl⟩)
  .intro J z Y n;intros;rename_i C;have f6:=(cell_of_row _ _ 6 _ _ _ n.row).trans rfl;go_simp;exact C _ _ n rfl
  .intro J z Y n hz t R C;go_simp;exact(kX _ O _ (a'.out _ n.ext).1 (by omega)).mono (by rintro e' w8 ⟨v',rfl,W,ab⟩;exact⟨_,rfl,C _ _ ((n.more ab).IE W)⟩)
  .intro J z Y n;intros;rename_i C;have f6:=(cell_of_row _ _ 6 _ _ _ n.row).trans rfl;go_simp;exact C _ _ n rfl
  .intro J z Y n hz t R C;go_simp;exact(kX _ A _ (ba.out _ n.ext).1 (by omega)).mono (by rintro e' w8 ⟨v',rfl,W,ab⟩;exact⟨_,rfl,C _ _ ((n.more ab).Im W)⟩)
  .intro J z Y n;intros;rename_i C;have f6:=(cell_of_row _ _ 6 _ _ _ n.row).trans rfl;go_simp;exact C _ _ n rfl
  .intro J z Y n hz t R C;go_simp;exact(kX _ B _ (bb.out _ n.ext).1 (by omega)).mono (by rintro e' w8 ⟨v',rfl,W,ab⟩;exact⟨_,rfl,C _ _ ((n.more ab).Io W)⟩)
  .intro J z Y n hz t R C;obtain⟨ai,V,aa,b7⟩:=t;have r1:=n.o _ V;have r2:=n.a _ aa;have r3:=n.b _ b7;obtain⟨a1,c1,e1,_⟩:=id r1.1;obtain⟨a2,c2,e2,_⟩:=id r2.1;obtain⟨a3,c3,e3,_⟩:=id r3.1;go_simp;exact C _ _ (n.Ip (by rw[<-e1];exact r1) (by rw[<-e2];exact r2) (by rw[<-e3];exact r3))
  .intro J z Y n hz t R C;obtain⟨v1,v2,v3,he,a5⟩:=n.ag _ t;obtain⟨a1,c1,e1,_⟩:=id a5.o.1;obtain⟨a2,c2,e2,_⟩:=id a5.a.1;obtain⟨a3,c3,e3,_⟩:=id a5.b.1;dsimp only at e1 e2 e3;subst e1 e2 e3;go_simp;exact C _ _ (n.IF a5)
  .intro J z Y n hz t R C;obtain⟨ai,V⟩:=t;rw[hz]at n;obtain⟨v',w',hr,b4⟩:=n.IG V (by omega);apply ez (.tmp 66) (.tmp 78) 163 163 (v:=d) (xv:=J 16) (v':=v') (w':=w')
   iterate 2
    .rfl
   .exact ai
   .rfl
   .exact hr
   .exact C _ _ b4
 intro J w4 a7 t;simp only[fE,List.getD_cons_zero,List.getD_cons_succ,Bool.false_eq_true,if_false,if_true]at a7;simp only[df,Nat.zero_add,Nat.reduceAdd,and_true]at t;simp(maxSteps:=1000000)only[List.drop_succ_cons,List.drop_zero,Nat.zero_add,Nat.reduceAdd,List.take_succ_cons,List.take_zero,af,Act.put,List.setIfInBounds_toArray,List.set_cons_zero,List.set_cons_succ,t];clear t;generalize J 10=da at *;generalize J 12=dc at *;generalize J 14=dk at *;generalize J 15=dn at *;generalize J 16=dp at *;generalize J 17=x17 at *;obtain⟨x,bq,hA⟩:=a7.dn _ rfl;have ad:Hid _:=hA;have b1:Hid _:=bq;clear a7 hA bq;obtain⟨v',W⟩:∃v',v'=x17:=⟨_,rfl⟩;rw[<-W]at ad ⊢;clear W
 go_wp2_with (refine aP rfl 163 (.tmp 81) (.tmp 79) rfl g 6 rfl v' rfl (qF ad.out.out) _ (wkC (slL P o.length F) (slL M a.length E) (slL N b.length cb) d i j k) ad.out.row (by show _<=7;decide) (by kernel_rfl) (wkC (slL P o.length F) (slL M a.length E) (slL N b.length cb) v' i j k) rfl ?_;intro w6 U D;have bv:Hid _:=U;have bs:Hid _:=D;clear U D)
 go_end0
 have h9:=ad.out.store bs.out bv.out;exact⟨rfl,v',_,by rw[b0.out];rw[b1.out]at h9;exact h9⟩
end
section
open Go Go.RowKit Go.Sort
variable {v:Value}
theorem dE {c:Prop} [Decidable c] {e:Operand->Value} {R:Value->World->Prop} {o:Oper} {w:World} (d:TypeId) (x y:Operand) {g j:Nat} {a new:Array Value} {t:TypeId} (A:c) (D:o.op=.store d x y) (F:e x=.pointer (some ⟨g,j,none⟩)) (G:e y=v)
  (p:v.oneCell'=true) (B:w.heap[g]? = some (.cells a t (0,0))) (C:j+1<=a.size) (q:(Tryz.prog.info? d).map (·.size)=some 1) (b:new=(a.toList.take j++[v]++a.toList.drop (j+1)).toArray) (h:R undef (w.setRow g new)) :
  if c then dW Tryz.prog R ((execOp e o).run Tryz.prog w)else R undef w:=by
 rw[if_pos A];have r:=run_storeCells_at (P:=Tryz.prog) g j t [v] 0 a w B (by simpa using C) (fun u z=>by simp at z;subst z;exact p);have k:v.cells=#[v]:=by cases v <;> first | rfl | cases p
 have E:(storeVar d ⟨g,j,none⟩ v).run Tryz.prog w=.ok () (w.setRow g new):=by
  cases l:Tryz.prog.info? d with
  | none=>simp[l]at q
  | some i =>
   have n:i.size=1:=by simpa [l]using q
   simp only[Nat.add_zero,List.length_cons,List.length_nil,Nat.zero_add]at r;rw[b];simp[storeVar,sizeOf,typeInfo,l,k,n,r]
 unfold execOp;simp only[D,F,G,Instr.storeAt,Instr.sureAddr,Sem.run_bind,Sem.run_pure,Result.andThen_ok,E];exact h
def dL (n:Nat->Nat) (zs:Nat->Option Value) (i:Nat):Nat:=if zs i=none then n i else n i+1
structure S3 (w1:World) (g:Nat) (vo va vb vout:Value) (n:Nat->Nat) (zl za zs:Nat->Option Value) (w:World):Prop where
 gr:w1.grownBy w (some g)
 row:w.heap[g]? = some (.cells (wkC vo va vb vout (dL n zs 0) (dL n zs 1) (dL n zs 2)) 196 (0,0))
 l:∀i v,zl i=some v->v=.int .i64 (n i)
 a:∀i v,za i=some v->v=.int .i64 ((n i:Int)+1)
 oa:∀i,za i≠none->zl i≠none
 os:∀i,zs i≠none->za i≠none
section
variable {w1 w:World} {g:Nat} {vo va vb vout:Value} {n:Nat->Nat} {zl za zs:Nat->Option Value}
theorem S3.start (d:w1.grownBy w (some g)) (e:w.heap[g]? = some (.cells (wkC vo va vb vout (n 0) (n 1) (n 2)) 196 (0,0))) (c:∀i,zl i=none) (b:∀i,za i=none) (a:∀i,zs i=none):S3 w1 g vo va vb vout n zl za zs w :=
 ⟨d,by unfold dL;rw[if_pos (a 0),if_pos (a 1),if_pos (a 2)];exact e,fun i v h=>(by rw[c]at h;cases h),fun i v h=>(by rw[b]at h;cases h),fun i h=>absurd (b i) h,fun i h=>absurd (a i) h⟩
theorem S3.old (h:S3 w1 g vo va vb vout n zl za zs w) (i:Nat) (b:zl i=none):dL n zs i=n i:=by
 unfold dL;rw[if_pos]
 cases a:zs i with
 | none=>rfl
 | some v=>exact absurd b (h.oa i (h.os i (by rw[a];simp)))
theorem S3.Ha (h:S3 w1 g vo va vb vout n zl za zs w) (i:Nat) {a:Nat->Option Value} (c:∀j,a j=if j=i then some (.int .i64 (n i))else zl j):S3 w1 g vo va vb vout n a za zs w :=
 ⟨h.gr,h.row,fun j v b=>(by
  rw[c]at b;split at b
  .rename_i e;subst e;cases b;rfl
  .exact h.l j v b),h.a,fun j d=>(by
  rw[c];split
  .simp
  .exact h.oa j d),h.os⟩
variable {u:Value}
theorem S3.G8 (h:S3 w1 g vo va vb vout n zl za zs w) (i:Nat) (k:zl i=some u) {b:Nat->Option Value} (d:∀j,b j=if j=i then some (.int .i64 ((n i:Int)+1))else za j):S3 w1 g vo va vb vout n zl b zs w :=
 ⟨h.gr,h.row,h.l,fun j v c=>(by
  rw[d]at c;split at c
  .rename_i e;subst e;cases c;rfl
  .exact h.a j v c),fun j a=>(by
  rw[d]at a;split at a
  .rename_i e;subst e;rw[k];simp
  .exact h.oa j a),fun j a=>(by
  rw[d];split
  .simp
  .exact h.os j a)⟩
theorem S3.G9 (h:S3 w1 g vo va vb vout n zl za zs w) (i:Nat) (t:i<3) (r:za i=some u) (v:Value) {zs':Nat->Option Value} (q:∀j,zs' j=if j=i then some v else zs j) :
  u=.int .i64 ((n i:Int)+1)/\wkC vo va vb vout (dL n zs' 0) (dL n zs' 1) (dL n zs' 2)=((wkC vo va vb vout (dL n zs 0) (dL n zs 1) (dL n zs 2)).toList.take (3+i)++[u]++(wkC vo va vb vout (dL n zs 0) (dL n zs 1) (dL n zs 2)).toList.drop (3+i+1)).toArray /\
   S3 w1 g vo va vb vout n zl za zs' (w.setRow g (wkC vo va vb vout (dL n zs' 0) (dL n zs' 1) (dL n zs' 2))):=by
 have l:=h.a i u r;have c:∀j,dL n zs' j=if j=i then n i+1 else dL n zs j:=fun j=>by
  unfold dL;rw[q]
  by_cases a:j=i
  .subst a;simp
  .simp [a]
 have d:u=.int .i64 ((n i+1:Nat):Int):=by rw[l];rfl
 refine⟨l,?_,⟨?_,setRow_heap _ _ _ _ _ _ h.row,h.l,h.a,h.oa,fun j a=>?_⟩⟩
 .subst d;rw[c,c,c]
  match i,t with
  | 0,_=>rfl
  | 1,_=>rfl
  | 2,_=>rfl
 .have b:=aw w g (wkC vo va vb vout (dL n zs' 0) (dL n zs' 1) (dL n zs' 2));exact⟨b.os.trans h.gr.os,b.tape.trans h.gr.tape,b.output.trans h.gr.output,Nat.le_trans h.gr.size b.size,fun k o p=>(b.block k (Nat.lt_of_lt_of_le o h.gr.size) p).trans (h.gr.block k o p)⟩
 .rw [q]at a;split at a
  .rename_i e;subst e;rw[r];simp
  .exact h.os j a
end
def dQ (cs:Array Value) (a:Nat) (f:Nat->Value):Array Value:=cs.mapIdx fun j v=>if j=a+1 then f 0 else if j=a+2 then f 1 else if j=a+3 then f 2 else v
theorem dx (cs:Array Value) (a:Nat) (f:Nat->Value):(dQ cs a f).size=cs.size:=by simp[dQ]
theorem kh (cs:Array Value) (a:Nat) (f:Nat->Value) (j:Nat) (h:j<(dQ cs a f).size):(dQ cs a f)[j]=if j=a+1 then f 0 else if j=a+2 then f 1 else if j=a+3 then f 2 else cs[j]'(by rw[dx]at h;exact h):=Array.getElem_mapIdx h
variable {cs:Array Value} {off:Nat} {f:Nat->Value}
theorem Bj (h:∀i,i<3->cs[off+1+i]? = some (f i)):dQ cs off f=cs:=by
 refine Array.ext (dx _ _ _) (fun j k g=>?_);have a:=h 0 (by omega);have b:=h 1 (by omega);have c:=h 2 (by omega);rw[kh];have d:cs[j]? = some cs[j]:=Array.getElem?_eq_getElem g;split
 .rename_i e;subst e;rw[Nat.add_zero]at a;rw[d]at a;exact(Option.some.inj a).symm
 .split
  .rename_i e;subst e;rw[show off+1+1=off+2 by omega]at b;rw[d]at b;exact(Option.some.inj b).symm
  .split
   .rename_i e;subst e;rw[show off+1+2=off+3 by omega]at c;rw[d]at c;exact(Option.some.inj c).symm
   .rfl
variable {i:Nat}
theorem zz {d:Nat->Value} (g:i<3) (u:Value) (c:∀j,d j=if j=i then u else f j):(dQ cs off f).setIfInBounds (off+1+i) u=dQ cs off d:=by
 refine Array.ext (by simp[dQ]) (fun j k b=>?_);rw[Array.getElem_setIfInBounds (by rw[dx]at b ⊢;exact b)];rw[kh _ _ _ _ (by rw[dx]at b ⊢;exact b),kh,c,c,c]
 match i,g with
 | 0,_ =>
  by_cases h:j=off+1
  .subst h;simp
  .have a:¬off+1=j:=fun e=>h e.symm
   simp[h,a]
 | 1,_ =>
  by_cases h:j=off+2
  .subst h;simp
  .have a:¬off+1+1=j:=fun e=>h (by omega)
   simp[h,a]
 | 2,_ =>
  by_cases h:j=off+3
  .subst h;simp
  .have a:¬off+1+2=j:=fun e=>h (by omega)
   simp[h,a]
theorem Bi (a:i<3) (b:off+3<cs.size):(dQ cs off f)[off+1+i]? = some (f i):=by
 unfold dQ;rw[Array.getElem?_mapIdx,Array.getElem?_eq_getElem (by omega)]
 match i,a with
 | 0,_=>simp
 | 1,_=>simp
 | 2,_=>simp
def cw (old:Nat->Value) (a:Nat->Option Value) (i:Nat):Value:=(a i).getD (old i)
def gf (a:Nat->List B8) (x:B8) (b:Nat->Option Value) (i:Nat):List B8:=if b i=none then a i else a i++[x]
def eD (old:Nat->Value) (a zs:Nat->Option Value) (i:Nat):Value:=if zs i=none then old i else cw old a i
structure G5 (w1:World) (bs gq off:Nat) (cs:Array Value) (old:Nat->Value) (ls:Nat->List B8) (x:B8) (zl zb za zs:Nat->Option Value) (w:World):Prop where
 row:w.heap[gq]? = some (.cells (dQ cs off (eD old za zs)) 168 (0,0))
 own:∀i,i<3->w.ownsRow bs 9 1 (cw old za i) (gf ls x za i).length ((gf ls x za i).map S8)
 ne:∀i j,i<3->j<3->i≠j->∀p,(cw old za i).ownBlock=some p->(cw old za j).ownBlock≠some p
 l:∀i v,zl i=some v->v=old i
 ol:∀i,za i≠none->zl i≠none
 os:∀i,zs i≠none->za i≠none
 b:∀i v,zb i=some v->∃b7,v=.slice (some ⟨b7,0,none⟩) 1 1/\w.heap[b7]? = some (.cells #[S8 x] 9 (0,0))/\∀j,j<3->(cw old za j).ownBlock≠some b7
 ext:w1.os=w.os/\w1.tape=w.tape/\w1.output=w.output/\w1.heap.size<=w.heap.size
 fr:∀k,k<w1.heap.size->k≠gq->(∀i,i<3->(old i).ownBlock≠some k)->w.heap[k]? = w1.heap[k]?
section
variable {w1 w w':World} {bs gq off:Nat} {cs:Array Value} {old:Nat->Value} {ls:Nat->List B8} {x:B8} {zl zb za zs:Nat->Option Value}
theorem G5.start (a:Ext w1 w) (u:w.heap[gq]? = some (.cells cs 168 (0,0))) (o:∀i,i<3->cs[off+1+i]? = some (old i)) (t:∀i,i<3->w.ownsRow bs 9 1 (old i) (ls i).length ((ls i).map S8))
  (r:∀i j,i<3->j<3->i≠j->∀p,(old i).ownBlock=some p->(old j).ownBlock≠some p) (l:∀i,zl i=none) (n:∀i,zb i=none) (b:∀i,za i=none) (d:∀i,zs i=none):G5 w1 bs gq off cs old ls x zl zb za zs w:=by
 have c:cw old za=old:=by funext i;unfold cw;rw[b];rfl
 have e:gf ls x za=ls:=by funext i;unfold gf;rw[if_pos (b i)]
 have g:eD old za zs=old:=by funext i;unfold eD;rw[if_pos (d i)]
 refine⟨by rw[g,Bj o];exact u,by rw[c,e];exact t,by rw[c];exact r,fun i v h=>(by rw[l]at h;cases h),fun i h=>absurd (b i) h,fun i h=>absurd (d i) h,fun i v h=>(by rw[n]at h;cases h),⟨a.os.symm,a.tape.symm,a.output.symm,a.size⟩,fun k q _ _=>a.block k q⟩
theorem G5.IZ (h:G5 w1 bs gq off cs old ls x zl zb za zs w) (i:Nat) (b:zl i=none):eD old za zs i=old i:=by
 unfold eD;rw[if_pos]
 cases a:zs i with
 | none=>rfl
 | some v=>exact absurd b (h.ol i (h.os i (by rw[a];simp)))
theorem G5.cell (h:G5 w1 bs gq off cs old ls x zl zb za zs w) (i:Nat) (a:i<3) (b:off+3<cs.size) (c:zl i=none):w.cell? ⟨gq,off+1+i,none⟩=some (old i):=by
 rw[cell_of_row _ _ (off+1+i) _ _ _ h.row,Bi a b,h.IZ i c]
theorem G5.Ha (h:G5 w1 bs gq off cs old ls x zl zb za zs w) (i:Nat) {a:Nat->Option Value} (c:∀j,a j=if j=i then some (old i)else zl j):G5 w1 bs gq off cs old ls x a zb za zs w :=
 { h with
  l:=fun j v b=>by
   rw[c]at b;split at b
   .rename_i e;subst e;cases b;rfl
   .exact h.l j v b
  ol:=fun j d=>by
   rw[c];split
   .simp
   .exact h.ol j d }
theorem G5.Hh (h:G5 w1 bs gq off cs old ls x zl zb za zs w) (i:Nat) {b:Nat->Option Value} (p:∀j,b j=if j=i then some (.slice (some ⟨w.heap.size,0,none⟩) 1 1)else zb j):G5 w1 bs gq off cs old ls x zl b za zs (w.alloc (.cells #[S8 x] 9)):=by
 have a:Ext w (w.alloc (.cells #[S8 x] 9)):=(Ext.refl _).alloc _;refine⟨a.row h.row,fun j r=>az (h.own j r) a,h.ne,h.l,h.ol,h.os,fun j v c=>?_,⟨h.ext.1.trans a.os.symm,h.ext.2.1.trans a.tape.symm,h.ext.2.2.1.trans a.output.symm,Nat.le_trans h.ext.2.2.2 a.size⟩,fun k l d g=>(a.block k (Nat.lt_of_lt_of_le l h.ext.2.2.2)).trans (h.fr k l d g)⟩;rw[p]at c;split at c
 .cases c;refine⟨_,rfl,ah _ _,fun q t e=>?_⟩
  have:=((h.own q t).lt _ e).2;omega
 .obtain ⟨n,d,g,o⟩:=h.b j v c;exact⟨n,d,a.row g,o⟩
variable {u:Value}
theorem G5.G8 (h:G5 w1 bs gq off cs old ls x zl zb za zs w) (i:Nat) (E:i<3) (V:zl i=some u) (hv:zb i=some v) (S:za i=none) (hl:(ls i).length<=100000) (P:bs<=w1.heap.size) :
  ∃L w',(Builtin.append_ #[38,38] 38 #[u,v]).run Tryz.prog w=.ok L w'/\∀g:Nat->Option Value,(∀j,g j=if j=i then some L else za j)->G5 w1 bs gq off cs old ls x zl zb g zs w':=by
 obtain rfl:=h.l i u V;obtain⟨X,rfl,hb,aa⟩:=h.b i v hv;have Q:=h.own i E;have z:cw old za i=old i:=by unfold cw;rw[S];rfl
 have e2:gf ls x za i=ls i:=by unfold gf;rw[if_pos S]
 rw[z,e2]at Q;have I:Row w (.slice (some ⟨X,0,none⟩) 1 1) 1 [S8 x]:=Row.new hb (by omega) _ rfl;obtain⟨L,w',J,G,b,t⟩:=js 38 9 _ 1 16 Tryz.underlying38 eu rfl (by omega) bs (old i) (ls i).length _ Q _ 1 _ I rfl (fun y W=>by simp only[List.mem_singleton]at W;subst W;rfl) (by omega) (by omega) (Nat.le_trans P h.ext.2.2.2);refine⟨L,w',J,fun g r=>?_⟩;have M:∀j,cw old g j=if j=i then L else cw old za j:=fun j=>by
  unfold cw;rw[r]
  by_cases a:j=i
  .subst a;simp
  .simp [a]
 have Z:∀j,gf ls x g j=if j=i then ls i++[x]else gf ls x za j:=fun j=>by
  unfold gf;rw[r]
  by_cases a:j=i
  .subst a;simp
  .simp [a]
 have K:zs i=none:=by
  cases H:zs i with
  | none=>rfl
  | some q=>exact absurd S (h.os i (by rw[H];simp))
 have Y:eD old g zs=eD old za zs:=by
  funext j;unfold eD
  by_cases a:j=i
  .subst a;rw[if_pos K,if_pos K]
  .rw [M,if_neg a]
 have R:∀p,(old i).ownBlock=some p->∃A,w.heap[p]? = some (.cells A 9 (0,0)):=fun p d=>(bO Q p d).2
 have F:∀j,j<3->∀p,(cw old za j).ownBlock=some p->p<w.heap.size:=fun j a p d=>((h.own j a).lt p d).2
 refine⟨?_,fun j a=>?_,fun j k a n l p d=>?_,h.l,fun j a=>?_,fun j a=>?_,fun j q H=>?_,⟨h.ext.1.trans b.os.symm,h.ext.2.1.trans b.tape.symm,h.ext.2.2.1.trans b.output.symm,Nat.le_trans h.ext.2.2.2 b.size⟩,fun k n N C=>?_⟩
 .rw [Y,b.block gq (Array.getElem?_eq_some_iff.1 h.row).1 (fun e=>?_)]
  .exact h.row
  .obtain ⟨A,U⟩:=R gq e.symm;rw[h.row]at U;simp at U
 .rw [M,Z]
  by_cases c:j=i
  .subst c;rw[if_pos rfl,if_pos rfl,List.length_append,List.length_singleton,List.map_append];exact G
  .rw [if_neg c,if_neg c];refine(h.own j a).kept b ?_
   cases H:(cw old za j).ownBlock with
   | none=>exact .inl rfl
   | some p =>
    right;intro e;have:=h.ne j i a E c p H;rw[z]at this;exact this e.symm
 .rw [M]at d ⊢
  by_cases c:j=i
  .subst c;rw[if_pos rfl]at d;have o:¬k=j:=fun e=>l e.symm
   rw[if_neg o];rcases t with e | e
   .rw [e,<-z]at d;exact h.ne j k a n l p d
   .rw [e]at d;cases d;intro B;exact Nat.lt_irrefl _ (F k n _ B)
  .rw [if_neg c]at d
   by_cases o:k=i
   .subst o;rw[if_pos rfl];rcases t with e | e
    .rw [e,<-z];exact h.ne j k a n l p d
    .rw [e];intro B;cases B;exact Nat.lt_irrefl _ (F j a _ d)
   .rw [if_neg o];exact h.ne j k a n l p d
 .rw [r]at a;split at a
  .rename_i e;subst e;rw[V];simp
  .exact h.ol j a
 .rw [r];split
  .simp
  .exact h.os j a
 .obtain ⟨T,N,C,O⟩:=h.b j q H;have D:=(Array.getElem?_eq_some_iff.1 C).1;refine⟨T,N,?_,fun k n=>?_⟩
  .rw [b.block T D (fun e=>?_)]
   .exact C
   .have:=O i E;rw[z]at this;exact this e.symm
  .rw [M];split
   .rcases t with e | e
    .rw [e,<-z];exact O i E
    .rw [e];intro B;cases B;exact Nat.lt_irrefl _ D
   .exact O k n
 .rw [b.block k (Nat.lt_of_lt_of_le n h.ext.2.2.2) (fun e=>C i E e.symm)];exact h.fr k n N C
theorem G5.G9 (h:G5 w1 bs gq off cs old ls x zl zb za zs w) (i:Nat) (o:i<3) (t:za i=some u) (F:off+3<cs.size) (q:Value) {zs':Nat->Option Value} (y:∀j,zs' j=if j=i then some q else zs j) :
  u.oneCell'=true/\dQ cs off (eD old za zs')=((dQ cs off (eD old za zs)).toList.take (off+1+i)++[u]++(dQ cs off (eD old za zs)).toList.drop (off+1+i+1)).toArray/\G5 w1 bs gq off cs old ls x zl zb za zs' (w.setRow gq (dQ cs off (eD old za zs'))):=by
 have l:cw old za i=u:=by unfold cw;rw[t];rfl
 have c:u.oneCell'=true:=by rw[<-l];exact qF (h.own i o)
 have C:∀j,eD old za zs' j=if j=i then u else eD old za zs j:=fun j=>by
  unfold eD;rw[y]
  by_cases b:j=i
  .subst b;simp[l]
  .simp [b]
 have a:=aw w gq (dQ cs off (eD old za zs'));have g:∀j,j<3->(cw old za j).ownBlock≠some gq:=fun j b e=>by
  obtain⟨A,n⟩:=(bO (h.own j b) gq e).2;rw[h.row]at n;simp at n
 refine⟨c,?_,⟨setRow_heap _ _ _ _ _ _ h.row,fun j b=>?_,h.ne,h.l,h.ol,fun j b=>?_,fun j v E=>?_,⟨h.ext.1.trans a.os.symm,h.ext.2.1.trans a.tape.symm,h.ext.2.2.1.trans a.output.symm,Nat.le_trans h.ext.2.2.2 a.size⟩,fun k r c d=>?_⟩⟩
 .rw [<-zz o u C,kn _ (by rw[dx];omega)]
 .refine (h.own j b).kept a ?_
  cases D:(cw old za j).ownBlock with
  | none=>exact .inl rfl
  | some p=>exact .inr (fun e=>g j b (by rw[D];exact e))
 .rw [y]at b;split at b
  .rename_i e;subst e;rw[t];simp
  .exact h.os j b
 .obtain ⟨z,c,d,B⟩:=h.b j v E;refine⟨z,c,bI a d (fun e=>?_),B⟩;subst e;rw[h.row]at d;simp at d
 .rw [a.block k (Nat.lt_of_lt_of_le r h.ext.2.2.2) (fun e=>c (Option.some.inj e))];exact h.fr k r c d
end
end
end Go.Proofs.YtgfegpnmlkdjfaaGreatDoor
