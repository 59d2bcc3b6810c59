/- Contracts of the program's functions and plain laws behind the card. Conditions: as each theorem states. -/
import Derived.Test.YtgfegpnmlkdjfaaGreatDoorZav
import Derived.Test.YtgfegpnmlkdjfaaGreatDoorZaw
import Derived.Test.YtgfegpnmlkdjfaaGreatDoorZam
import Derived.Test.YtgfegpnmlkdjfaaGreatDoorZag
import Derived.Test.YtgfegpnmlkdjfaaGreatDoorZao
import Derived.Deep.DeepCutAuto
import Derived.Test.YtgfegpnmlkdjfaaGreatDoorZaj
import Derived.Test.YtgfegpnmlkdjfaaGreatDoorZaf
import Derived.Test.YtgfegpnmlkdjfaaGreatDoorZah
import Derived.Test.YtgfegpnmlkdjfaaGreatDoorZaq
import Derived.Lib.SliceRun
import Derived.Lib.SlKept
import Derived.Shelf.SlicesQ.IndexFunc
import Derived.Shelf.SlicesE.DeleteFunc
import Derived.Shelf.SlicesQ.Equal
import Derived.Shelf.SlSortCmp.NoneTotal
import Derived.Test.YtgfegpnmlkdjfaaGreatDoorZay
import Derived.Test.YtgfegpnmlkdjfaaGreatDoorZak
set_option linter.unusedVariables false
set_option linter.unusedSimpArgs false
set_option linter.unusedSectionVars false
set_option maxRecDepth 100000
set_option maxHeartbeats 64000000
namespace Go.Proofs.YtgfegpnmlkdjfaaGreatDoor
section
open Go Go.RowKit
def GA (n:Int) (o:Ob):Int:=if(bz o).2=0 then Fo n (bz o).1 else n
theorem yC (o:Ob):(bz o).1.length<=100000:=by
 unfold bz;split
 .rename_i c;obtain⟨k,i,b,l,a,e,d,h⟩:=o;have j:=tL c;unfold ew at c;dsimp only at j c ⊢;unfold k9 mV;dsimp only;rcases j with rfl | rfl | rfl
  .rw [if_pos rfl]at c;simp only[Bool.and_eq_true,decide_eq_true_eq]at c;rw[if_pos rfl,List.length_cons];omega
  .rw [if_neg (show ¬(2:Int)=1 by decide),if_pos rfl]at c;simp only[Bool.and_eq_true,eF,List.all_eq_true,decide_eq_true_eq]at c;have g:=oh b b.length c.2.1.1;have p:=cM (n:=b.length) (by unfold cF;omega);rw[List.take_length]at g;rw[if_neg (show ¬(2:Int)=1 by decide),if_pos rfl,List.length_cons,List.length_append];omega
  .rw [if_neg (show ¬(3:Int)=1 by decide),if_neg (show ¬(3:Int)=2 by decide),if_pos rfl]at c;simp only[Bool.and_eq_true,eX,iA,decide_eq_true_eq]at c;have g:=oI a a.length c.2.2.2.1.1;have p:=(my c.2.2.1).1;have q:=cM (n:=e.toNat) (by unfold cF;omega);have r:=cM (n:=d.toNat) (by unfold cF;omega);have t:=cM (n:=h.length) (by unfold cF;omega);rw[List.take_length]at g;rw[if_neg (show ¬(3:Int)=1 by decide),if_neg (show ¬(3:Int)=2 by decide)];simp only[List.length_cons,List.length_append];omega
 .simp
theorem ti (o:Ob):(bz o).1.length<=140737488355328:=Nat.le_trans (yC o) (by decide)
variable [Inhabited br] [KW:Inhabited fF]
end
section
open Go Go.RowKit
open Classical in
noncomputable abbrev Gu (w:World) (O:Nat->Prop) (b a:Nat):Inhabited fF:=⟨⟨fun k=>if ¬O k/\k≠b/\k≠a then w.heap[k]? else none,w.heap.size⟩⟩
def FrS (O a:Nat->Prop) (c b:Nat) (w w':World):Prop:=∀k,k<w.heap.size->¬O k->k≠c->k≠b->w'.heap[k]? = w.heap[k]?/\¬a k
section
variable {w0 w w':World} {S O O':Nat->Prop} {f:Value} {gs gc:Nat} {m m':Fs} {n n':Int}
theorem FrS.refl (O:Nat->Prop) (gs gc:Nat) (w:World):FrS O O gs gc w w:=fun k _ a _ _=>⟨rfl,a⟩
variable {w1:World}
theorem FrS.trans {l o p:Nat->Prop} {e t:World} (h:FrS l o gs gc w1 e) (g:FrS o p gs gc e t):FrS l p gs gc w1 t:=fun k i u q r=>by
 obtain⟨a,b⟩:=h k i u q r;have j:k<e.heap.size:=by
  have:e.heap[k]? = some (w1.heap[k]'i):=a.trans (Array.getElem?_eq_getElem i);exact(Array.getElem?_eq_some_iff.1 this).1
 obtain⟨c,d⟩:=g k j b q r;exact⟨c.trans a,d⟩
theorem FrS.ext (h:Ext w w1):FrS O O gs gc w w1:=fun k b a _ _=>⟨h.block k b,a⟩
theorem FrS.row (h:FrS O O' gs gc w w') {k:Nat} {o:Obj} (c:w.heap[k]? = some o) (g:¬O k) (d:k≠gs) (e:k≠gc):w'.heap[k]? = some o/\¬O' k:=by
 obtain⟨a,b⟩:=h k (Array.getElem?_eq_some_iff.1 c).1 g d e;exact⟨a.trans c,b⟩
end
section
variable [Inhabited br] [KW:Inhabited fF] {w0 w w':World} {S O O':Nat->Prop} {f:Value} {gs gc:Nat} {m m':Fs} {n n':Int}
end
end
section
open Go Go.RowKit Go.Sort
def knV (f:Fi):Value:=.agg #[.int .i64 f.time,S8 f.data]
section
variable {w0 w w':World} {O O':Nat->Prop} {gs gc gi gx:Nat} {ix:ae} {wr:Int}
end
def FrX (X O a:Nat->Prop) (w w':World):Prop:=∀k,k<w.heap.size->¬O k->¬X k->w'.heap[k]? = w.heap[k]?/\¬a k
section
variable {X Y O O1 O2 O':Nat->Prop} {w w1 w2 w':World} {gs gc:Nat}
theorem FrX.of (h:FrS O O' gs gc w w') (b:X gs) (c:X gc):FrX X O O' w w':=fun k g d a=>h k g d (fun e=>a (e▸b)) (fun e=>a (e▸c))
theorem FrX.ext (h:Ext w w1):FrX X O O w w1:=fun k b a _=>⟨h.block k b,a⟩
variable {k:Nat}
theorem FrX.lt (h:FrX X O O' w w') (a:k<w.heap.size) (b:¬O k) (c:¬X k):k<w'.heap.size:=by
 have:w'.heap[k]? = some (w.heap[k]'a):=(h k a b c).1.trans (Array.getElem?_eq_getElem a);exact(Array.getElem?_eq_some_iff.1 this).1
theorem FrX.trans (h:FrX X O O1 w w1) (g:FrX X O1 O2 w1 w2):FrX X O O2 w w2:=fun k j i e=>by
 obtain⟨a,b⟩:=h k j i e;obtain⟨c,d⟩:=g k (h.lt j i e) b e;exact⟨c.trans a,d⟩
theorem FrX.mono (h:FrX X O O' w w') (a:∀k,X k->Y k):FrX Y O O' w w':=fun k e b d=>h k e b (fun c=>d (a k c))
theorem FrX.but {b:Nat} (h:w.grownBy w' (some b)) (d:X b):FrX X O O w w':=fun k g a c=>⟨h.block k g (fun e=>c (by cases e;exact d)),a⟩
theorem FrX.row (h:FrX X O O' w w') {o:Obj} (c:w.heap[k]? = some o) (d:¬O k) (e:¬X k):w'.heap[k]? = some o/\¬O' k:=by
 obtain⟨a,b⟩:=h k (Array.getElem?_eq_some_iff.1 c).1 d e;exact⟨a.trans c,b⟩
end
def trM (m:Fs) (a:ae) (wr:Int) (p:B8) (f:Fi):Fs×Bool:=if zT a wr p f.time=true then((wY m (nf a p)).1,DR m (nf a p))else(m,false)
def kn0:Fi:=⟨0,[],0⟩
def Gk (a:ae) (p:B8):Fi:=(ax a p).getD kn0
variable [Inhabited br] [KW:Inhabited fF]
end
section
open Go Go.RowKit Go.Sort
theorem Cu:(Tryz.prog.info? 50).map (fun i=>(i.zero,i.size,i.bytes))=some (some (.agg #[S8 [],.int .i64 0,S8 []]),3,40):=by kernel_rfl
section
variable {ops:Array Oper} {rest:List Oper} {o:Oper} {a:Act} {Q:Exit->Act->World->Prop} {w:World}
theorem yb (p:o.guard=none) (s x:Operand) (F:o.op=.call { callee:=.builtin .append,args:=#[s,x],argTypes:=#[23,23] })
  (b:Nat) (v:Value) (n:Nat) (xs:List Value) (G:a.eval s=v) (i:w.ownsRow b 50 3 v n xs)
  (g c:Nat) (r:Rw) (H:a.eval x=.slice (some ⟨g,0,none⟩) 1 c) {fr:Nat×Nat} (D:w.heap[g]? = some (.cells #[S8 r.path,.int .i64 r.mode,S8 r.id] 50 fr))
  (J:n<=10000000) (d:b<=w.heap.size)
  (h:∀j l,l.ownsRow b 50 3 j (n+1) (xs++rwC r)->w.grownBy l v.ownBlock->(∀k,j.ownBlock=some k->v.ownBlock=some k\/w.heap.size<=k)->wpList Tryz.prog ops Q rest (a.put o.dst j) l):wpList Tryz.prog ops Q (o::rest) a w:=by
 obtain⟨I,E,t,y,z⟩:=info_parts Cu;exact wpList_append_own_at w p s x _ F b _ I _ 3 40 Tryz.underlying23 E t y z rfl (by omega) v n xs G i ⟨g,0,none⟩ 1 c (rwC r) H rfl (by simpa [rwC]using bW D) (fun u A=>by simp[rwC]at A;rcases A with rfl | rfl | rfl <;> rfl) (by unfold maxLen;omega) (by omega) d
  (fun j l B C _ e=>h j l B C (fun k q=>by
   rcases e with e | e
   .exact .inl (e.symm.trans q)
   .rw [e]at q;simp only[Option.some.injEq]at q;exact .inr (by omega)))
end
theorem Bs {w w':World} {v:Value} {n:Nat} {cs:List Value} (h:Row w v n cs) (l:∀q,v.ownBlock=some q->w'.heap[q]? = w.heap[q]?):Row w' v n cs:=by
 obtain⟨a,c,rfl,e,g,j,k⟩:=h;refine⟨a,c,rfl,e,g,j,fun r=>?_⟩;obtain⟨b,o,rfl,p⟩:=k r;refine⟨b,o,rfl,fun i u t=>?_⟩;have d:=p i u t;rw[World.cell?_of_block (w:=w) (w':=w') (a:=⟨b,o+i,none⟩) (l b rfl)];exact d
variable [Inhabited br] [KW:Inhabited fF]
end
section
open Go Go.Shelf Go.RowKit Go.Lib Go.Sort
instance:Inhabited Rw:=⟨zRw⟩
theorem CY (x:Rw):(rwC x).length=3:=rfl
theorem CZ (x:Rw):∀v∈rwC x,v.oneCell'=true:=by intro v a;simp[rwC]at a;rcases a with rfl | rfl | rfl <;> rfl
theorem ow (l:List Rw):(l.flatMap rwC).length=l.length*3:=by
 induction l with
 | nil=>rfl
 | cons c l a=>rw[List.flatMap_cons,List.length_append,a,List.length_cons];show 3+_=_;omega
theorem vv (l:List Rw) (j:Nat) (o:j<l.length*3):(l.flatMap rwC)[j]? = some (flatK rwC 3 l.toArray)[j]!:=by
 have a:j / 3<l.length:=by omega
 rw[get_flatK _ _ _ j (by simpa using o)];obtain⟨x,b⟩:∃x,l[j / 3]? = some x:=⟨_,List.getElem?_eq_getElem a⟩;have d:l.toArray[j / 3]! = x:=by
  rw[getElem!_pos l.toArray (j / 3) (by simpa using a)];rw[List.getElem?_eq_getElem a]at b;simpa using b
 rw[d];obtain⟨h,i,k⟩:=qz l _ x b;have g:j%3<3:=Nat.mod_lt _ (by omega);have e:j=3*(j / 3)+j%3:=(Nat.div_add_mod j 3).symm;obtain⟨c,n⟩:∃c,j%3=c:=⟨_,rfl⟩;rw[n]at g e ⊢;rw[e]
 match c,g with
 | 0,_=>exact h
 | 1,_=>exact i
 | 2,_=>exact k
section
variable {w W:World} {base g n cap:Nat} {e:TypeId}
variable {l:List Rw}
theorem mj (h:w.ownsRow base e 3 (.slice (some ⟨g,0,none⟩) n cap) n (l.flatMap rwC)):n=l.length/\base<=g/\n<=cap/\cap<=maxLen/\∃a,w.heap[g]? = some (.cells a e (0,0))/\a.size=cap*3/\a.toList.take (n*3)=l.flatMap rwC:=by
 have c:=h.1;rw[ow]at c;rcases h.2 with⟨b,-⟩ | ⟨r,q,a,b,d,i,j,k,o,p⟩
 .cases b
 .cases b;exact⟨by omega,d,j,k,a,i,o,p⟩
theorem zp (h:w.ownsRow base e 3 (.slice (some ⟨g,0,none⟩) n cap) n (l.flatMap rwC)):HoldsK rwC 3 w g 0 l.toArray:=by
 obtain⟨o,-,-,-,d,c,-,k⟩:=mj h;intro j i;have a:j<l.length*3:=by simpa using i
 have b:=vv l j a;rw[<-k,List.getElem?_take_of_lt (by omega),Array.getElem?_toList]at b;rw[Nat.zero_add];exact⟨by simp[World.cell?,c,b],by simp[World.frozen?,c]⟩
theorem Eb (h:w.ownsRow base e 3 (.slice (some ⟨g,0,none⟩) n cap) n (l.flatMap rwC)):g<w.heap.size:=by
 obtain⟨-,-,-,-,a,b,-⟩:=mj h;exact(Array.getElem?_eq_some_iff.1 b).1
variable {d:Array Rw}
theorem zL (S:SWK rwC 3 w g 0 d W):w.grownBy W (some g):=by
 obtain⟨m,c,rfl⟩:=S;refine⟨rfl,rfl,rfl,by rw[show(sortWorldK rwC 3 w g 0 m d c).heap.size=_ from size_grow _ _,size_putRowK];exact Nat.le_add_right _ _,fun k i b=>?_⟩;have a:¬g=k:=fun h=>b (by rw[h])
 show(((Go.Sort.ahead w m).heap.modify g _)++c)[k]? = _;rw[Array.getElem?_append_left (by simpa using i),Array.getElem?_modify,if_neg a];rfl
theorem Df (h:w.ownsRow base e 3 (.slice (some ⟨g,0,none⟩) n cap) n (l.flatMap rwC)) (S:SWK rwC 3 w g 0 d W) (i:d.size=l.length):W.ownsRow base e 3 (.slice (some ⟨g,0,none⟩) n cap) n (d.toList.flatMap rwC):=by
 obtain⟨y,k,b,o,a,r,c,-⟩:=mj h;obtain⟨m,z,rfl⟩:=S;have x:=(Array.getElem?_eq_some_iff.1 r).1;refine⟨by rw[ow,Array.length_toList,i,y],.inr ⟨g,cap,putCells _root_.id 0 (flatK rwC 3 d) a,rfl,k,?_,b,o,by simp[putCells,c],?_⟩⟩
 .show (((Go.Sort.ahead w m).heap.modify g _)++z)[g]? = _;rw[Array.getElem?_append_left (by simpa using x),Array.getElem?_modify,if_pos rfl];show(w.heap[g]?).map _=_;rw[r];rfl
 .apply List.ext_getElem?;intro j
  by_cases t:j<n*3
  .rw [List.getElem?_take_of_lt t,Array.getElem?_toList];have q:j<d.toList.length*3:=by rw[Array.length_toList,i];omega
   have u:=vv d.toList j q;rw[u];have p:j<a.size:=by
    rw[c];exact Nat.lt_of_lt_of_le t (Nat.mul_le_mul_right 3 b)
   simp only[putCells,Array.getElem?_mapIdx,Array.getElem?_eq_getElem p,Option.map_some];rw[if_pos ⟨Nat.zero_le _,by rw[Nat.zero_add,size_flatK,i];omega⟩];simp
  .rw [List.getElem?_eq_none (by rw[List.length_take];omega),List.getElem?_eq_none (by rw[ow,Array.length_toList,i];omega)]
end
end
section
open Go Go.Shelf Go.RowKit Go.Lib Go.Sort
def FlatW (w:World) (g:Nat) (F:Array Value) (W:World):Prop:=∃m a,W=grow (putRow _root_.id (Go.Sort.ahead w m) g 0 F) a
section
variable {w W:World} {g:Nat} {F:Array Value}
theorem FlatW.start (h:Holds _root_.id w g 0 F):FlatW w g F w:=⟨0,#[],by rw[grow_empty,ahead_zero,putRow_self _root_.id w g 0 F h]⟩
theorem FlatW.size (h:FlatW w g F W):w.heap.size<=W.heap.size:=by
 obtain⟨m,a,rfl⟩:=h;rw[size_grow];simp[putRow,mapBlock,ahead]
theorem FlatW.ext (h:FlatW w g F W) (e:g<w.heap.size) {c:World} (d:∃n a,c=grow (W.drewN n) a):FlatW w g F c:=by
 obtain⟨m,a,rfl⟩:=h;obtain⟨n,b,rfl⟩:=d;refine⟨m+n,a++b,?_⟩;rw[show(grow (putRow _root_.id (Go.Sort.ahead w m) g 0 F) a).drewN n=grow ((putRow _root_.id (Go.Sort.ahead w m) g 0 F).drewN n) a from rfl,grow_grow,Go.Proofs.putRow_drewN]
theorem FlatW.set (h:FlatW w g F W) (c:g<w.heap.size) (s:Nat) (a:List Value) (d:s+a.length<=F.size):FlatW w g (setMany F s a) (W.setCells g s a):=by
 obtain⟨m,b,rfl⟩:=h;refine⟨m,b,?_⟩;rw[setCells_grow b g a s _ (by simpa [putRow,mapBlock,ahead]using c)];have:=setCells_putRow (Go.Sort.ahead w m) g 0 a s F d;rw[Nat.zero_add]at this;rw[this]
theorem FlatW.holds (h:FlatW w g F W) (c:g<w.heap.size) {a:Array Value} (b:Holds _root_.id w g 0 a) (d:F.size=a.size):Holds _root_.id W g 0 F:=by
 obtain⟨m,e,rfl⟩:=h;exact holds_grow _root_.id _ e g 0 F (by simpa [putRow,mapBlock,ahead]using c) (holds_putRow _root_.id _ g 0 a F (holds_ahead _root_.id w m g 0 a b) d)
theorem FlatW.grown (h:FlatW w g F W):w.grownBy W (some g):=by
 obtain⟨m,d,rfl⟩:=h;refine⟨rfl,rfl,rfl,by rw[size_grow];simp[putRow,mapBlock,ahead],fun k c b=>?_⟩;have a:¬g=k:=fun h=>b (by rw[h])
 show(((Go.Sort.ahead w m).heap.modify g _)++d)[k]? = _;rw[Array.getElem?_append_left (by simpa using c),Array.getElem?_modify,if_neg a];rfl
theorem FlatW.cell (h:FlatW w g F W) {b:Nat} {v:Value} (d:w.cell? ⟨b,0,none⟩=some v) (c:b≠g):W.cell? ⟨b,0,none⟩=some v:=by
 have e:=World.block_lt_of_cell? _ _ d;rw[World.cell?_of_block (w:=w) (w':=W) (a:=⟨b,0,none⟩) (h.grown.block b e (by intro i;cases i;exact c rfl))];exact d
theorem FlatW.own {a n b i:Nat} {e:TypeId} {xs ys:List Value} (h:w.ownsRow a e 3 (.slice (some ⟨g,0,none⟩) n b) n xs) (S:FlatW w g F W) (hF:F.size=n*3) (y:i<=n) (A:ys.length=i*3) (z:∀j,j<i*3->ys[j]? = some F[j]!):W.ownsRow a e 3 (.slice (some ⟨g,0,none⟩) i b) i ys:=by
 rcases h.2 with⟨k,-⟩ | ⟨D,C,c,k,r,p,t,u,q,E⟩
 .cases k
 .cases k;obtain⟨m,B,rfl⟩:=S
  have x:=(Array.getElem?_eq_some_iff.1 p).1;refine⟨A,.inr ⟨g,b,putCells _root_.id 0 F c,rfl,r,?_,by omega,u,by simp[putCells,q],?_⟩⟩
  .show (((Go.Sort.ahead w m).heap.modify g _)++B)[g]? = _;rw[Array.getElem?_append_left (by simpa using x),Array.getElem?_modify,if_pos rfl];show(w.heap[g]?).map _=_;rw[p];rfl
  .apply List.ext_getElem?;intro j
   by_cases l:j<i*3
   .rw [List.getElem?_take_of_lt l,Array.getElem?_toList,z j l];have d:j<n*3:=Nat.lt_of_lt_of_le l (Nat.mul_le_mul_right 3 y);have o:j<c.size:=by
     rw[q];exact Nat.lt_of_lt_of_le d (Nat.mul_le_mul_right 3 t)
    simp only[putCells,Array.getElem?_mapIdx,Array.getElem?_eq_getElem o,Option.map_some];rw[if_pos ⟨Nat.zero_le _,by rw[Nat.zero_add,hF];exact d⟩];simp
   .rw [List.getElem?_eq_none (by rw[List.length_take];omega),List.getElem?_eq_none (by omega)]
end
section
variable {ops:Array Oper} {rest:List Oper} {o:Oper} {a:Act} {Q:Exit->Act->World->Prop} {w:World}
end
end
section
open Go Go.Shelf Go.RowKit Go.Lib Go.Sort
theorem uF {w d e:World} {g:Nat} (h:Ext w d) (a:d.grownBy e (some g)):w.grownBy e (some g) :=
 ⟨a.os.trans h.os,a.tape.trans h.tape,a.output.trans h.output,Nat.le_trans h.size a.size,fun k c b=>(a.block k (Nat.lt_of_lt_of_le c h.size) b).trans (h.block k c)⟩
end
section
open Go Go.Shelf Go.RowKit Go.Lib Go.Sort
def qt (x y:Rw):Int:=ep x.path y.path
theorem mT (x y:Rw):ltOf qt x y=ltB x.path y.path:=by
 unfold ltOf qt ep
 by_cases h:ltB x.path y.path=true
 .rw [if_pos h,h];rfl
 .rw [if_neg h];have:ltB x.path y.path=false:=by simpa using h
  rw[this]
  by_cases a:ltB y.path x.path=true
  .rw [if_pos a];rfl
  .rw [if_neg a];rfl
theorem Aw:SWO (ltOf qt):=by
 refine⟨fun x=>by rw[mT];exact fV _,fun x y z b a=>?_,fun x y z b a=>?_⟩
 .rw [mT]at b a ⊢;exact ed b a
 .rw [mT]at b a ⊢
  cases d:ltB x.path z.path with
  | false=>rfl
  | true =>
   by_cases c:x.path=y.path
   .rw [c,a]at d;cases d
   .have g:=jG b c;have e:=ed g d;rw[a]at e;cases e
end
section
open Go Go.Shelf Go.RowKit Go.Lib Go.Sort
end
section
open Go Go.Shelf Go.RowKit Go.Lib Go.Sort
def GF (x y:Rw):Bool:=x.path==y.path && (x.mode==y.mode && x.id==y.id)
end
section
open Go Go.RowKit Go.Sort
theorem gF (m:Int) (id:B8) (w:World):Calls Tryz.prog 40 #[.agg #[.int .i64 m,S8 id]] w fun e h=>e=.returned (.bool (bU (m,id)))/\Ext w h:=by
 have b:Ext w (w.alloc (.cells #[.int .i64 m,S8 id] 41)):=(Ext.refl _).alloc _
 by_cases a:m=1
 .subst a;go_enter Tryz.func40,Tryz.ntmps40;go_wp2;go_ret;exact⟨rfl,b⟩
 .have g:(m==1)=false:=by simpa using a
  have d:bU (m,id)=decide (m=2):=by unfold bU;simp[a]
  rw[d];go_enter Tryz.func40,Tryz.ntmps40;go_wp2;go_ret;exact⟨by by_cases c:m=2 <;> simp[c],b⟩
theorem uE (g h:Int) (a b:B8) (w:World):Calls Tryz.prog 62 #[.agg #[.int .i64 g,S8 a],.agg #[.int .i64 h,S8 b]] w fun e o=>e=.returned (.bool (grE (g,a) (h,b)))/\Ext w o:=by
 have k:Ext w ((w.alloc (.cells #[.int .i64 g,S8 a] 41)).alloc (.cells #[.int .i64 h,S8 b] 41)):=((Ext.refl _).alloc _).alloc _;have l:(⟨a.toArray⟩:ByteArray).toList=a:=Lib.toList_data _;have n:(⟨b.toArray⟩:ByteArray).toList=b:=Lib.toList_data _;rcases ke a b with⟨c,i,j⟩ | ⟨c,i⟩ | ⟨c,i,j⟩
 .have d:grE (g,a) (h,b)=true:=by unfold grE;rw[c];rfl
  rw[d];clear d c;go_enter Tryz.func62,Tryz.ntmps62;go_wp2;go_ret;exact⟨rfl,k⟩
 .have j:(a==b)=false:=by
   rw[beq_eq_false_iff_ne];rintro rfl;rw[gp,fV]at i;cases i
  have d:grE (g,a) (h,b)=false:=by unfold grE;rw[c,j];rfl
  rw[d];clear d c;go_enter Tryz.func62,Tryz.ntmps62;go_wp2;go_ret;exact⟨rfl,k⟩
 .have d:grE (g,a) (h,b)=decide (h<g):=by unfold grE;rw[c,j];rfl
  rw[d];clear d c;go_enter Tryz.func62,Tryz.ntmps62;go_wp2;go_ret;exact⟨rfl,k⟩
theorem zF (x y:Rw) (w:World):Calls Tryz.prog 51 #[.agg (rwC x).toArray,.agg (rwC y).toArray] w fun e a=>e=.returned (.int .i64 (qt x y))/\∃b,a=grow w b:=by
 show Calls Tryz.prog 51 #[.agg #[S8 x.path,.int .i64 x.mode,S8 x.id],.agg #[S8 y.path,.int .i64 y.mode,S8 y.id]] w _;go_enter Tryz.func51,Tryz.ntmps51
 go_wp2_with (go_at_call 30;go_must (refine(fU x.path y.path _).mono ?_;rintro e a ⟨rfl,rfl⟩))
 go_ret;exact⟨rfl,_,mM _ _ _ _ _⟩
def ntC (n:B8×Int):List Value:=[S8 n.1,.int .i64 n.2]
def nZ (x y:B8×Int):Int:=if x.1=y.1 then x.2 - y.2 else ep x.1 y.1
def F6 (n:B8×Int):Prop:=0<=n.2/\n.2<=10
theorem xq (x y:B8×Int) (w:World) (l:0<=x.2/\x.2<=10) (n:0<=y.2/\y.2<=10):Calls Tryz.prog 29 #[.agg (ntC x).toArray,.agg (ntC y).toArray] w fun e i=>e=.returned (.int .i64 (nZ x y))/\∃p,i=grow w p:=by
 obtain⟨a,d⟩:=x;obtain⟨b,g⟩:=y;dsimp only at l n;show Calls Tryz.prog 29 #[.agg #[S8 a,.int .i64 d],.agg #[S8 b,.int .i64 g]] w _;have j:(⟨a.toArray⟩:ByteArray).toList=a:=Lib.toList_data _;have k:(⟨b.toArray⟩:ByteArray).toList=b:=Lib.toList_data _
 by_cases c:a=b
 .have q:IntKind.i64.wrap (d - g)=d - g:=IntWalk.i64_in _ (by omega);have o:(a==b)=true:=by simpa using c
  have h:nZ (a,d) (b,g)=d - g:=by unfold nZ;rw[if_pos c]
  rw[h];clear c h;go_enter Tryz.func29,Tryz.ntmps29;go_wp2;go_ret;exact⟨rfl,_,mM _ _ _ _ _⟩
 .have o:(a==b)=false:=by simpa using c
  have h:nZ (a,d) (b,g)=ep a b:=by unfold nZ;rw[if_neg c]
  rw[h];clear c h;go_enter Tryz.func29,Tryz.ntmps29
  go_wp2_with (go_at_call 30;go_must (refine(fU a b _).mono ?_;rintro e i ⟨rfl,rfl⟩))
  go_ret;exact⟨rfl,_,mM _ _ _ _ _⟩
theorem lV (m:ae) (p:B8):fX bn (.agg #[.int .i64 0,S8 []]) m p=.agg #[.int .i64 (enL m p).1,S8 (enL m p).2]:=by
 unfold fX enL
 cases ax m p <;> rfl
theorem jA (g:Nat) (m:ae) (p:B8) (w:World) (h:IsMG bn w g m) (k:p.length<=1000000):Calls Tryz.prog 94 #[.map (some g),S8 p] w fun e n=>e=.returned (.bool (cE m p))/\Ext w n:=by
 obtain⟨a,-⟩:=h.Hd 59 41 _ Tryz.underlying59 (oN w) p k;rw[lV]at a;obtain⟨⟨j,i⟩,d⟩:∃q,enL m p=q:=⟨_,rfl⟩;obtain⟨b,c⟩:∃b,(ax m p).isSome=b:=⟨_,rfl⟩;rw[d,c]at a;dsimp only at a;have l:Ext w (w.alloc (.cells #[.int .i64 j,S8 i] 41)):=(Ext.refl _).alloc _;unfold cE;rw[c];clear c d h;go_enter Tryz.func94,Tryz.ntmps94;go_wp2;go_ret;exact⟨rfl,l⟩
theorem fH (v:Value) (l:List Rw) (w:World) (X:IsRws w v l) (hl:l.length<=1000000) (W:∀r∈l,r.path.length<=1000000) :
  Calls Tryz.prog 26 #[v] w fun e Y=>(∃g,e=.returned (.map (some g))/\IsMG bn Y g (byP l)/\w.heap.size<=g)/\Ext w Y:=by
 obtain⟨a,aa,rfl,l1,l2,l3,U⟩:=X.cells;have HG:Hid _:=U;have HS:Hid _:=W;have O:=@run_makeMap Tryz.prog;clear X U W;go_enter Tryz.func26,Tryz.ntmps26;go_upto_region 2 with fail;obtain⟨F,d⟩:∃F,F=w.alloc (.map #[] 0):=⟨_,rfl⟩;have I:Hid (Ext w F):=by rw[d];exact(Ext.refl _).alloc _
 have t:Hid (IsMG bn F w.heap.size []):=by rw[d];exact qB _ _
 rw[<-d];obtain⟨g,n⟩:∃g,w.heap.size=g:=⟨_,rfl⟩;have q:Hid _:=n;rw[n]at t ⊢;clear d n O;go_wp2_with fail;go_loopw [9] (fun i wr=>∃k:Nat,k<=l.length/\i=.int .i64 k/\Hid (IsMG bn wr g (byP (l.take k)))/\Hid (Ext w wr)) (fun i _=>l.length - (intOf i).toNat)
 case atStart=>exact⟨0,Nat.zero_le _,rfl,t,I⟩
 case round =>
 obtain⟨k,hk,rfl,G,y⟩:=hrel
 by_cases N:k<l.length
 case neg =>
  have M:k=l.length:=by omega
  subst M;have j:Hid (IsMG bn wr g (byP l)):=by have h9:=G.out;rwa [List.take_length]at h9
  go_wp2;go_ret;exact⟨⟨g,rfl,j.out,Nat.le_of_eq q.out⟩,y.out⟩
 obtain⟨x,E⟩:∃x,l[k]? = some x:=⟨_,List.getElem?_eq_getElem N⟩;obtain⟨bb,oo,rfl,Q,R,S⟩:=HG.out k x E;have y0:=y.out.cell Q;have y1:=y.out.cell R;have y2:=y.out.cell S;have P:=HS.out x (List.mem_of_getElem? E);have u:Hid _:=Aq E;have L:(byP (l.take k)).length<=1000000:=by have:=B9 (l.take k);rw[List.length_take]at this;omega
 obtain⟨m,V⟩:∃m,byP (l.take k)=m:=⟨_,rfl⟩;rw[V]at G L u;obtain⟨c,b,id⟩:=x;dsimp only at y0 y1 y2 P;have D:w.heap.size<=g:=Nat.le_of_eq q.out;clear Q R S E V;go_upto_region 5 with fail;obtain⟨p,h⟩:∃p,p=wr.alloc (.cells #[S8 c,.int .i64 b,S8 id] 50):=⟨_,rfl⟩;have o:Ext wr p:=by rw[h];exact(Ext.refl _).alloc _
 have z:p.heap[wr.heap.size]? = some (.cells #[S8 c,.int .i64 b,S8 id] 50 (0,0)):=by rw[h];exact ah _ _
 rw[<-h];have J:Hid (Ext w p):=y.out.trans o;have H:Hid (IsMG bn p g m):=G.out.ext o;obtain⟨z0,z1,z2⟩:=cD z;obtain⟨T,B⟩:∃T,wr.heap.size=T:=⟨_,rfl⟩;rw[B]at z0 z1 z2 ⊢;clear h o z B y0 y1 y2
 go_wp2_with (refine kK 59 41 Tryz.underlying59 rfl _ _ _ rfl H.out (by omega) rfl c (by omega) rfl ⟨b,id,0⟩ rfl ?_;intro Z C A)
 have j:Hid (IsMG bn Z g (byP (l.take (k+1)))):=by
  unfold Hid;rw[u.out];exact C
 have K:Hid (Ext w Z):=Ext.but J.out A D;clear z0 z1 z2 C A;go_wp2_with fail;go_roundw
 case rel=>exact⟨k+1,by omega,by go_num,j,K⟩
 case measure=>simp[intOf];omega
end
section
open Go Go.RowKit Go.Sort
theorem kJ {d:Func} {p q:Tmp} (h:d.results=#[.cell p 41,.cell q 41]) (c:Array Value) (w:World) (g k:Nat) (a b:En)
  (e:c.getD p undef=.pointer (some ⟨g,0,none⟩)) (i:c.getD q undef=.pointer (some ⟨k,0,none⟩))
  (n:w.heap[g]? = some (.cells #[.int .i64 a.1,S8 a.2] 41 (0,0))) (o:w.heap[k]? = some (.cells #[.int .i64 b.1,S8 b.2] 41 (0,0))) :
  (results d c).run Tryz.prog w=.ok (.tuple #[.agg #[.int .i64 a.1,S8 a.2],.agg #[.int .i64 b.1,S8 b.2]]) w:=by
 have j:=run_loadVar_row (P:=Tryz.prog) w g 41 41 #[.int .i64 a.1,S8 a.2] (0,0) _ n Tryz.underlying41 rfl aJ;have l:=run_loadVar_row (P:=Tryz.prog) w k 41 41 #[.int .i64 b.1,S8 b.2] (0,0) _ o Tryz.underlying41 rfl aJ;simp only[Array.getD_eq_getD_getElem?]at e i;simp only[results,h];simp[Sem.run_bind,Result.andThen,e,i,asAddr,j,l]
theorem lL (w:World) (a b c d:Obj):((((w.alloc a).alloc b).alloc c).alloc d).heap[w.heap.size]? = some a/\((((w.alloc a).alloc b).alloc c).alloc d).heap[w.heap.size+1]? = some b/\((((w.alloc a).alloc b).alloc c).alloc d).heap[w.heap.size+1+1]? = some c/\((((w.alloc a).alloc b).alloc c).alloc d).heap[w.heap.size+1+1+1]? = some d:=by
 have e:∀(w:World) (o:Obj),(w.alloc o).heap.size=w.heap.size+1:=fun w o=>Array.size_push _
 have j:Ext (w.alloc a) ((((w.alloc a).alloc b).alloc c).alloc d):=(((Ext.refl _).alloc _).alloc _).alloc _;have k:Ext ((w.alloc a).alloc b) ((((w.alloc a).alloc b).alloc c).alloc d):=((Ext.refl _).alloc _).alloc _;have l:Ext (((w.alloc a).alloc b).alloc c) ((((w.alloc a).alloc b).alloc c).alloc d):=(Ext.refl _).alloc _;have g:=ah (w.alloc a) b;have h:=ah ((w.alloc a).alloc b) c;have i:=ah (((w.alloc a).alloc b).alloc c) d;rw[e]at g;rw[e,e]at h;rw[e,e,e]at i;exact⟨j.row (ah w a),k.row g,l.row h,i⟩
theorem jY (d j:Int) (b i:B8) (w:World):Calls Tryz.prog 42 #[.agg #[.int .i64 d,S8 b],.agg #[.int .i64 j,S8 i]] w fun e T=>e=.returned (.tuple #[iR (aN (d,b) (j,i)).1,iR (aN (d,b) (j,i)).2])/\Ext w T:=by
 obtain⟨c,hc⟩:∃c,grE (d,b) (j,i)=c:=⟨_,rfl⟩;have HF:Hid (aN (d,b) (j,i)=if c=true then((d,b),(j,i))else((j,i),(d,b))):=by unfold Hid aN;rw[hc]
 have HC:Hid _:=hc;clear hc;go_enter Tryz.func42,Tryz.ntmps42;go_upto_region 1 with fail;obtain⟨G,y,H,z⟩:=lL w (.cells #[.int .i64 d,S8 b] 41) (.cells #[.int .i64 j,S8 i] 41) (.cells #[.int .i64 0,S8 []] 41) (.cells #[.int .i64 0,S8 []] 41);obtain⟨U,E⟩:∃U,U=(((w.alloc (.cells #[.int .i64 d,S8 b] 41)).alloc (.cells #[.int .i64 j,S8 i] 41)).alloc (.cells #[.int .i64 0,S8 []] 41)).alloc (.cells #[.int .i64 0,S8 []] 41):=⟨_,rfl⟩;have ao:Hid (Ext w U):=by rw[E];exact((((Ext.refl _).alloc _).alloc _).alloc _).alloc _
 rw[<-E]at G y H z ⊢;obtain⟨g0,D⟩:∃g,w.heap.size=g:=⟨_,rfl⟩;have M:Hid (w.heap.size<=g0):=Nat.le_of_eq D;rw[D]at G y H z ⊢;obtain⟨g1,O⟩:∃g,g0+1=g:=⟨_,rfl⟩;rw[O]at y H z ⊢;obtain⟨n,P⟩:∃g,g1+1=g:=⟨_,rfl⟩;rw[P]at H z ⊢;obtain⟨I,Q⟩:∃g,n+1=g:=⟨_,rfl⟩;rw[Q]at z ⊢;have aa:Hid _:=G;have ab:Hid _:=y;have ad:Hid _:=H;have ag:Hid _:=z;have K:Hid (w.heap.size<=n):=by have:=M.out;unfold Hid;omega
 have L:Hid (w.heap.size<=I):=by have:=M.out;unfold Hid;omega
 have t:Hid (I≠n):=by unfold Hid;omega
 have q:Hid (g0≠n):=by unfold Hid;omega
 have r:Hid (g1≠n):=by unfold Hid;omega
 have e0:=(cell_of_row _ _ 0 _ _ _ G).trans rfl;have e1:=(cell_of_row _ _ 1 _ _ _ G).trans rfl;have f0:=(cell_of_row _ _ 0 _ _ _ y).trans rfl;have f1:=(cell_of_row _ _ 1 _ _ _ y).trans rfl;clear E D O P Q G y H z;go_wp2_with fail;go_at_call 62;refine(uE d j b i U).mono ?_;rw[HC.out];rintro e wb ⟨rfl,k⟩;have N:Hid (Ext w wb):=ao.out.trans k;have d2:=k.row ad.out;have d3:=k.row ag.out;have V:=k.cell e0;have W:=k.cell e1;have X:=k.cell f0;have Y:=k.cell f1;have D0:Hid _:=k.row aa.out;have D1:Hid _:=k.row ab.out;have D2:Hid _:=d2;have D3:Hid _:=d3;clear e0 e1 f0 f1 k d2 d3
 cases c with
 | true =>
  have u:Hid (aN (d,b) (j,i)=((d,b),(j,i))):=HF.out;go_upto_region 2 with fail;apply kO (n) (.cells #[.int .i64 d,S8 b] 41 (0,0)) 3 [.agg #[.int .i64 d,S8 b],.agg #[.int .i64 j,S8 i],undef] [none,none,some (fun _ T=>T.heap[n]? = some (.cells #[.int .i64 d,S8 b] 41 (0,0)))] [[],[],[0]] (by kernel_rfl) (by kernel_rfl) (by simp[aq])
  .refine ⟨?_,trivial⟩
   .exact fun _ _ _ he h=>he.once h
  .simp (maxSteps:=1000000)only[List.take_succ_cons,List.take_zero,ay,aB,af,Act.put,List.setIfInBounds_toArray,List.set_cons_zero,List.set_cons_succ,aE,aH,aq,List.getD_cons_zero,List.getD_cons_succ,and_true,true_and,forall_const];and_intros
   iterate 2 · intro F wq p;intros;rename_i B;have c0:=p.cell V q.out;have c1:=p.cell W q.out;have c2:=p.cell X r.out;have c3:=p.cell Y r.out;go_simp;exact B _ _ (Late.refl _ _ _) rfl
   .intro F wq p o R B;obtain⟨A,a,C⟩:=p.at D2.out rfl;exact lI rfl 41 (.tmp 4) (.tmp 9) rfl n #[.int .i64 d,S8 b] rfl (by exact o) 41 A a aJ C (by simp[Value.oneCell']) (B _ _ (Late.store a) (setRow_heap _ _ _ _ _ _ a))
  intro F wc l o;simp only[aG,Nat.zero_add,Nat.reduceAdd,and_true]at o;have S:=o.2.2;simp(maxSteps:=1000000)only[List.take_succ_cons,List.take_zero,List.drop_succ_cons,List.drop_zero,af,Act.put,List.setIfInBounds_toArray,List.set_cons_zero,List.set_cons_succ,Nat.zero_add,Nat.reduceAdd,o];clear o;generalize F 2=x2 at *;have Z:Hid _:=S;have J:Hid _:=l.row D3.out t.out;have x:Hid (Ext w wc):=Ext.but N.out l.grown K.out;clear l S V W X Y
  go_wp2_with (refine wpList_store_row rfl 41 (.tmp 5) (.tmp 10) rfl I #[.int .i64 j,S8 i] rfl rfl 41 _ J.out aJ rfl (by simp[Value.oneCell']) ?_)
  refine bodyPost_ret (kJ rfl _ _ n I (d,b) (j,i) rfl rfl (bI (aw _ _ _) Z.out t.out.symm) (setRow_heap _ _ _ _ _ _ J.out)) rfl ?_;rw[u.out];exact⟨rfl,Ext.but x.out (aw _ _ _) L.out⟩
 | false =>
  have u:Hid (aN (d,b) (j,i)=((j,i),(d,b))):=HF.out;go_upto_region 3 with fail;apply kO (n) (.cells #[.int .i64 j,S8 i] 41 (0,0)) 3 [.agg #[.int .i64 j,S8 i],.agg #[.int .i64 d,S8 b],undef] [none,none,some (fun _ T=>T.heap[n]? = some (.cells #[.int .i64 j,S8 i] 41 (0,0)))] [[],[],[0]] (by kernel_rfl) (by kernel_rfl) (by simp[aq])
  .refine ⟨?_,trivial⟩
   .exact fun _ _ _ he h=>he.once h
  .simp (maxSteps:=1000000)only[List.take_succ_cons,List.take_zero,ay,aB,af,Act.put,List.setIfInBounds_toArray,List.set_cons_zero,List.set_cons_succ,aE,aH,aq,List.getD_cons_zero,List.getD_cons_succ,and_true,true_and,forall_const];and_intros
   iterate 2 · intro F wq p;intros;rename_i B;have c0:=p.cell V q.out;have c1:=p.cell W q.out;have c2:=p.cell X r.out;have c3:=p.cell Y r.out;go_simp;exact B _ _ (Late.refl _ _ _) rfl
   .intro F wq p o R B;obtain⟨A,a,C⟩:=p.at D2.out rfl;exact lI rfl 41 (.tmp 4) (.tmp 11) rfl n #[.int .i64 j,S8 i] rfl (by exact o) 41 A a aJ C (by simp[Value.oneCell']) (B _ _ (Late.store a) (setRow_heap _ _ _ _ _ _ a))
  intro F wc l o;simp only[aG,Nat.zero_add,Nat.reduceAdd,and_true]at o;have S:=o.2.2;simp(maxSteps:=1000000)only[List.take_succ_cons,List.take_zero,List.drop_succ_cons,List.drop_zero,af,Act.put,List.setIfInBounds_toArray,List.set_cons_zero,List.set_cons_succ,Nat.zero_add,Nat.reduceAdd,o];clear o;generalize F 2=x2 at *;have Z:Hid _:=S;have J:Hid _:=l.row D3.out t.out;have x:Hid (Ext w wc):=Ext.but N.out l.grown K.out;clear l S V W X Y
  go_wp2_with (refine wpList_store_row rfl 41 (.tmp 5) (.tmp 12) rfl I #[.int .i64 d,S8 b] rfl rfl 41 _ J.out aJ rfl (by simp[Value.oneCell']) ?_)
  refine bodyPost_ret (kJ rfl _ _ n I (j,i) (d,b) rfl rfl (bI (aw _ _ _) Z.out t.out.symm) (setRow_heap _ _ _ _ _ _ J.out)) rfl ?_;rw[u.out];exact⟨rfl,Ext.but x.out (aw _ _ _) L.out⟩
end
end Go.Proofs.YtgfegpnmlkdjfaaGreatDoor
