/- Contracts of the program's functions and plain laws behind the card. Conditions: as each theorem states. -/
import Derived.Test.YtgfegpnmlkdjfaaGreatDoorZac
import Derived.Maps.AppendAt
import Derived.Laws.LoneSync
import Derived.Deep.DeepCutAuto
import Derived.Sort.OwnSorted
import Derived.Sort.KeysCollected
set_option linter.unusedVariables false
set_option linter.unusedSimpArgs false
set_option linter.unusedSectionVars false
set_option maxRecDepth 100000
set_option maxHeartbeats 64000000
namespace Go.Proofs.YtgfegpnmlkdjfaaGreatDoor
section
open Go Go.RowKit
def Nu (w w':World) (k:Nat):Prop:=w.heap.size<=k/\k<w'.heap.size
variable {w w':World}
theorem Nu.nw {R:Nat->Prop} {k:Nat} (h:Nu w w' k):Nw R w w' k:=.inr h
theorem yq (v:Value) (l:B8) (w:World) (A:IsBytes w v l) (G:l.length<=140737488355328) :
  Calls Tryz.prog 159 #[v] w fun e w'=>(∃v,e=.returned v/\IsData (Nu w w') w' v l)/\Ext w w':=by
 obtain⟨a,d,rfl,D,E,F,p⟩:=A
 cases a with
 | none =>
  have z:l=[]:=by
   cases l with
   | nil=>rfl
   | cons x l=>obtain⟨b,o,j,_⟩:=p (by simp);cases j
  subst z;exact(Tryz.bytes_Clone_nil 0 d w).mono fun e w' ⟨j,t⟩=>⟨⟨_,j,by rw[t];exact IsData.nil _ _⟩,by rw[t];exact Ext.refl _⟩
 | some u =>
  refine(Tryz.bytes_Clone_at u l.length d (l.map fun x=>(x.toNat:Int)) w (by simp) (by omega) (fun i q=>?_)).mono fun e w' ⟨C,j,c,_,B⟩=>⟨⟨C,j,?_⟩,B⟩
  .have n:l≠[]:=by rintro rfl;simp at q
   obtain⟨b,o,h,y⟩:=p (by simpa using n);cases h;have g:(⟨b,o,none⟩:Addr).add i=⟨b,o+i,none⟩:=by unfold Addr.add;split <;> simp_all
   rw[g];refine y i _ ?_;simp[q]
  .rw [List.map_map]at c;exact⟨Row.GW c (by omega),TypB.GW c,fun k r=>⟨(c.lt k r).1,(c.lt k r).2⟩⟩
theorem cD {g:Nat} {a b c:Value} {t:TypeId} {fr:Nat×Nat} (h:w.heap[g]? = some (.cells #[a,b,c] t fr)) :
  w.cell? ⟨g,0,none⟩=some a/\w.cell? ⟨g,1,none⟩=some b/\w.cell? ⟨g,2,none⟩=some c:=by
 simp[World.cell?,h]
theorem iG (w:World) (p q:Obj):((w.alloc p).alloc q).heap[w.heap.size+1]? = some q:=by
 have:=ah (w.alloc p) q
 rwa [show(w.alloc p).heap.size=w.heap.size+1 by simp]at this
theorem IsFiles.ext {R:Nat->Prop} {b:Nat} {l:ae} (h:IsFiles R w b l) (a:Ext w w'):IsFiles R w' b l:=h.stay (a.block b h.lt) (KeepR.Hq (KeepB.GX a))
theorem IsData.ext {R:Nat->Prop} {v:Value} {l:B8} (h:IsData R w v l) (a:Ext w w'):IsData R w' v l:=h.keep (KeepB.GX a)
def Fj (R:Nat->Prop) (w:World) (a:Nat) (l:ae) (e:Ending) (w':World):Prop:=e=.returned (.tuple #[])/\IsFiles R w' a l/\w.grownBy w' (some a)
end
section
open Go Go.RowKit
variable {kl:Lit}
theorem Cy {a:Value} (h:keyOf Tryz.prog 9 a=some kl):∃x:ByteArray,a=.string x:=by
 cases a <;> simp[keyOf,mapKey,Tryz.underlying9]at h
 exact⟨_,rfl⟩
theorem Cz {x:ByteArray} (h:keyOf Tryz.prog 9 (.string x)=some kl):kl=.string x.data.toList:=by
 simp[keyOf,mapKey,Tryz.underlying9]at h;exact h.2.symm
def F5 (b:B8->Value) (l:ae):Prop:=∀p f,ax l p=some f->∃a c,b p=.slice a f.data.length c
section
variable {ops:Array Oper} {rest:List Oper} {o:Oper} {a:Act} {Q:Exit->Act->World->Prop} {w:World}
end
end
section
open Go Go.RowKit
def d8 (left:Lit->Bool) (l:ae):ae:=l.filter fun e=>left (.string e.1)
def fW (left:Lit->Bool) (p:B8):Lit->Bool:=fun z=>left z && !z.sameKey (.string p)
theorem lA (a b:B8):(Lit.string a).sameKey (.string b)=(a==b):=rfl
theorem iC {left:Lit->Bool} {p:B8} {f:Fi} (k:left (.string p)=true):∀ {l:ae},Rising l->ax l p=some f->(d8 left l).Perm ((p,f)::d8 (fW left p) l)
 | [],_,b=>by simp[ax]at b
 | e::l,r,b=>by
  obtain⟨o,q⟩:=List.pairwise_cons.1 r
  by_cases c:e.1=p
  .have d:e=(p,f):=by
    have:ax (e::l) p=some e.2:=by unfold ax;rw[List.find?_cons];simp[c]
    rw[this]at b;rw[<-Option.some.inj b,<-c]
   subst d;have a:d8 (fW left p) l=d8 left l:=by
    unfold d8;refine List.filter_congr fun x t=>?_
    have i:x.1≠p:=fun h=>iI (o x t) h.symm
    unfold fW;rw[lA];simp[i]
   unfold d8 at *;rw[List.filter_cons,if_pos k,List.filter_cons];have j:fW left p (.string p)=false:=by unfold fW;rw[lA];simp
   rw[if_neg (by simp[j]),a]
  .have g:ax l p=some f:=by
    have:ax (e::l) p=ax l p:=by
     unfold ax;rw[List.find?_cons];have:(e.1==p)=false:=by simpa using c
     rw[this]
    rwa [this]at b
   have n:=iC k q g;have j:fW left p (.string e.1)=left (.string e.1):=by
    unfold fW;rw[lA];simp[c]
   unfold d8 at *;rw[List.filter_cons,List.filter_cons,j];split
   .exact (List.Perm.cons e n).trans (List.Perm.swap _ _ _)
   .exact n
theorem lg {left:Lit->Bool} {l:ae} (h:∀k,left k=false):d8 left l=[]:=by
 unfold d8;rw[List.filter_eq_nil_iff];intro e _;simp[h]
def F8 (l:ae):Nat:=(l.map fun e=>e.2.data.length).sum
theorem pD (s t:ByteArray) (w:World):Calls Tryz.prog 88 #[.string s,.string t] w fun e a=>e=.returned (.bool (t.data.toList.isPrefixOf s.data.toList))/\a=w :=
 Tryz.strings_HasPrefix s t w
theorem Dl (p:B8):(⟨p.toArray⟩++⟨#[47]⟩:ByteArray).data.toList=p++[47]:=by simp[ByteArray.data_append]
def Fq (l:ae) (path a:B8):Bool:=l.any fun e=>!(e.1==a) && aD path e.1
end
section
open Go Go.RowKit
theorem AU (v:Value) (L:List B8) (c:B8) (w:World) (A:IsStrs w v L) (u:(Lib.join L c).length<=140737488355328) :
  Calls Tryz.prog 57 #[v,S8 c] w fun e n=>e=.returned (S8 (Lib.join L c))/\Ext w n:=by
 obtain⟨a,d,rfl,p,D,q,r⟩:=A
 cases L with
 | nil=>exact(Tryz.strings_Join_none a d ⟨c.toArray⟩ w).mono fun e n ⟨t,B⟩=>⟨t,by rw[B];exact Ext.refl _⟩
 | cons x L =>
  obtain⟨b,o,rfl,g⟩:=r (by simp);have i:(((x::L).map fun l=>(⟨l.toArray⟩:ByteArray)).map (·.data.toList))=x::L:=by
   rw[List.map_map];exact List.map_id _
  have h:=Tryz.strings_Join b o d ((x::L).map fun l=>(⟨l.toArray⟩:ByteArray)) ⟨c.toArray⟩ w (fun j y k=>g j _ (by
   rw[List.getElem?_map]at k ⊢;obtain⟨z,C,rfl⟩:=Option.map_eq_some_iff.1 k;rw[C];rfl)) (by
    have:=g 0 _ rfl;exact World.block_lt_of_cell? _ _ this) (by simpa using q) (by simpa using p) (by rw[i];exact u)
  rw[i,List.length_map]at h;exact h
theorem AV (a:B8):∀L:List B8,(Lib.join L a).length<=(L.map List.length).sum+L.length*a.length
 | []=>by simp[Lib.join_nil]
 | x::L=>by
  rw[Lib.join_cons];have:∀M:List B8,(Lib.joinTail a M).length=(M.map List.length).sum+M.length*a.length:=by
   intro M
   induction M with
   | nil=>simp[Lib.joinTail]
   | cons y M b =>
    unfold Lib.joinTail at *;simp only[List.map_cons,List.flatten_cons,List.length_append,List.sum_cons,List.length_cons,b,Nat.add_mul];omega
  simp only[List.length_append,this,List.map_cons,List.sum_cons,List.length_cons,Nat.add_mul];omega
theorem nU:∀(L:List Nat) (k:Nat),(L.take k).sum<=L.sum
 | [],k=>by simp
 | x::L,0=>by simp
 | x::L,k+1=>by have:=nU L k;simp;omega
theorem l9 (l:B8) (k:Nat):(Lib.join ((cut 47 l).take k) [47]).length<=2*l.length+2:=by
 have a:=AV [47] ((cut 47 l).take k);have c:=jX 47 l;have d:=gL 47 l;have b:=nU ((cut 47 l).map List.length) k;rw[<-List.map_take]at b;have e:=List.length_take_le k (cut 47 l);have g:((cut 47 l).take k).length<=(cut 47 l).length:=List.length_take_le' k (cut 47 l);simp only[List.length_cons,List.length_nil]at a;omega
theorem IsStrs.take {w:World} {a:Option Addr} {L:List B8} {c n:Nat} (h:IsStrs w (.slice a L.length c) L) (B:n<=L.length):IsStrs w (.slice a n c) (L.take n):=by
 obtain⟨y,g,j,z,p,A,q⟩:=h;simp only[Value.slice.injEq,true_and]at j;obtain⟨rfl,rfl⟩:=j;have t:(L.take n).length=n:=by rw[List.length_take];omega
 refine⟨a,c,by rw[t],by omega,p,by omega,fun e=>?_⟩;obtain⟨b,o,rfl,r⟩:=q (by
  intro l;have:L=[]:=by simpa using l
  subst this;simp at e)
 refine⟨b,o,rfl,fun i u k=>r i u ?_⟩;rw[List.getElem?_map]at k ⊢;obtain⟨x,d,rfl⟩:=Option.map_eq_some_iff.1 k;rw[List.getElem?_take]at d;split at d
 .rw [d];rfl
 .simp at d
def dI (l:B8):List B8:=if aR l then cut 47 l else[]
theorem uN (l:B8) (w:World) (q:Env w) (y:l.length<=10000000) :
  Calls Tryz.prog 56 #[S8 l] w fun e u=>(∃v,e=.returned v/\IsStrs u v (dI l)/\∀b,v.ownBlock=some b->w.heap.size<=b)/\Ext w u:=by
 have h:Hid _:=q;clear q;have r:dI l=if aR l then cut 47 l else[]:=rfl
 have p:Hid _:=r;clear r
 cases t:aR l with
 | true =>
  have j:Hid _:=t;go_enter Tryz.func56,Tryz.ntmps56
  go_wp2_with (first
   | (go_at_call 34;go_must (refine(tY l _ h.out (by omega)).mono ?_;rintro e z ⟨rfl,d⟩))
   | (go_at_call 53;go_must (refine(rK ⟨l.toArray⟩ 47 _ (h.out.ext d) (Nat.lt_of_le_of_lt y (by decide))).mono ?_;rintro e A ⟨v,rfl,n,g,o⟩;have i:Hid _:=g.2;clear g;have x:Hid _:=n;obtain⟨a,c,rfl,-⟩:=id n;clear n)))
  go_ret;exact⟨⟨_,rfl,by rw[p.out,if_pos j.out];exact x.out,fun b k=>Nat.le_trans d.size (i.out b k)⟩,d.trans o⟩
 | false =>
  have j:Hid _:=t;go_enter Tryz.func56,Tryz.ntmps56
  go_wp2_with (go_at_call 34;go_must (refine(tY l _ h.out (by omega)).mono ?_;rintro e z ⟨rfl,d⟩))
  go_ret;exact⟨⟨_,rfl,by rw[p.out,if_neg (by simp[j.out])];exact IsStrs.nil _,fun b k=>by cases k⟩,d⟩
theorem xz (l:B8) (w:World) (d:Env w) (g:l.length<=10000000) :
  Calls Tryz.prog 56 #[S8 l] w fun e a=>(∃v,e=.returned v/\IsStrs a v (dI l))/\Ext w a :=
 (uN l w d g).mono (by rintro e a ⟨⟨v,b,c,-⟩,h⟩;exact⟨⟨v,b,c⟩,h⟩)
def ey (L:List B8) (k:Nat):List B8:=(List.range k).map fun i=>Lib.join (L.take (i+1)) [47]
def cn (l:B8):List B8:=ey (dI l) ((dI l).length - 1)
theorem r8 (L:List B8) (k:Nat):ey L (k+1)=ey L k++[Lib.join (L.take (k+1)) [47]]:=by
 unfold ey;rw[List.range_succ,List.map_append];rfl
theorem pu (L:List B8) (k:Nat):(ey L k).length=k:=by simp[ey]
theorem nN (l:B8) (w:World) (y:Env w) (J:l.length<=10000000) :
  Calls Tryz.prog 36 #[S8 l] w fun e C=>(∃v,e=.returned v/\IsStrs C v (cn l))/\Ext w C:=by
 have D:Hid _:=y;have q:dI l=[]\/dI l=cut 47 l:=by unfold dI;split <;> simp
 have A:(dI l).length<=10000001:=by
  rcases q with h | h
  .rw [h];simp
  .rw [h];have:=(gL 47 l).2;omega
 have E:Hid (∀k,(Lib.join ((dI l).take k) [47]).length<=140737488355328):=fun k=>by
  rcases q with h | h
  .rw [h,List.take_nil,Lib.join_nil];simp
  .rw [h];have:=l9 l k;omega
 have G:Hid (cn l=ey (dI l) ((dI l).length - 1)):=rfl;generalize z:dI l=L at *;have F:Hid _:=z;clear y q z;go_enter Tryz.func36,Tryz.ntmps36
 go_wp2_with (go_at_call 56;go_must (refine(xz l _ D.out J).mono ?_;rw[F.out];rintro e x ⟨⟨v,rfl,t⟩,u⟩;have I:Hid _:=t;obtain⟨a,p,rfl,Q,R,S,-⟩:=id t;clear t))
 go_loopw [4,5] (fun v i wr=>∃k:Nat,k<=L.length - 1/\i=.int .i64 ((k+1:Nat):Int)/\wr.ownsRow x.heap.size 9 1 v k ((ey L k).map S8)/\Ext x wr) (fun _ i _=>L.length - (intOf i).toNat)
 case atStart=>exact⟨0,Nat.zero_le _,rfl,World.ownsRow_nil _ _ _ _,Ext.refl _⟩
 case round =>
  obtain⟨k,T,rfl,b,o⟩:=hrel;have N:=o.size
  by_cases K:k+1<L.length
  .have U:(0:Int)<=((k+1:Nat):Int):=by omega
   have V:((k+1:Nat):Int)<=(p:Int):=by omega
   go_wp2_with (first
    | (go_at_call 57;go_must (refine(AU _ (L.take (k+1)) [47] _ (IsStrs.take (IsStrs.ext I.out o) (by omega)) (E.out _)).mono ?_;rintro P O ⟨rfl,j⟩;have c:=az b j;have B:=j.size))
    | (at_builtin;go_must (refine gW rfl _ _ rfl x.heap.size _ k _ rfl (c.alloc _) O.heap.size 1 1 [Lib.join (L.take (k+1)) [47]] rfl rfl (ah _ _) (by omega) (by simp;omega) ?_;intro W X g r)))
   go_roundw
   case rel=>exact⟨k+1,by omega,by go_num,by rw[r8];exact g,aA ((o.trans j).alloc _) (c.alloc _) r⟩
   case measure=>simp[intOf];omega
  .have n:k=L.length - 1:=by omega
   have d:IsStrs wr u4 (cn l):=by
    rw[G.out,<-n];unfold IsStrs;rw[pu];exact Row.GW b (by omega)
   have H:Hid _:=d;have M:¬((k+1:Nat):Int)<(L.length:Int):=by omega
   clear d b n;go_wp2;go_ret;exact⟨⟨_,rfl,H.out⟩,u.trans o⟩
def mayP (l:ae) (path a:B8):Bool:=!((cn path).any fun p=>(ax l p).isSome && !(p==a)) && !(Fq l path a)
theorem r9 (l:B8):∀p∈cn l,p.length<=2*l.length+2:=by
 intro p a;unfold cn ey at a;obtain⟨i,_,rfl⟩:=List.mem_map.1 a;unfold dI;split
 .exact l9 l _
 .simp [Lib.join_nil]
end
section
open Go Go.RowKit
theorem Bw:(Tryz.prog.info? 3).map (·.size)=some 1:=by kernel_rfl
theorem pO:(Tryz.prog.info? 52).map (·.size)=some 1:=by kernel_rfl
section
variable {ops:Array Oper} {rest:List Oper} {o:Oper} {a:Act} {Q:Exit->Act->World->Prop} {w:World}
end
theorem OwnL.app {α:Type} {w':World} {t:TypeId} {a:Nat} {p q:List Value->α->Prop} {v':Value} {xs:List α} {b:List (List Value)} {c:List Value} {x:α} (g:Each p b xs)
  (h:w'.ownsRow 0 t a v' (xs.length+1) (b.flatten++c)) (d:∀c x,p c x->q c x) (e:q c x):OwnL w' t a q v' (xs++[x]) :=
 ⟨b++[c],by rw[List.flatten_append];simpa using h,(g.imp d).snoc e⟩
end
section
open Go Go.RowKit
def qh:Ch->Prop
 | .put p f=>aR p=true/\f.data.length<=20000
 | .mv s d=>aR s=true/\aR d=true/\s≠d
 | .del p=>aR p=true
structure OkM (m:Fs):Prop where
 Hm:m.now.length<=m.time
 Ii:m.sure.length<=m.time
 Ih:m.pend.length<=m.time
 Iu:m.sure.length+m.pend.length<=m.time
 He:m.users.length<=m.time
 Hr:∀e∈m.now,aR e.1=true/\e.2.data.length<=20000
 Hs:∀e∈m.sure,aR e.1=true/\e.2.data.length<=20000
 Hl:∀c∈m.pend,qh c
 fold:m.pend.foldl ap m.sure=m.now
 Ij:∀k s d,m.pend[k]? = some (.mv s d)->(ax ((m.pend.take k).foldl ap m.sure) s).isSome=true
theorem CP {p:B8} (h:aR p=true):p≠[]:=by
 rintro rfl
 revert h;decide
def ptr (g:Nat):Value:=.pointer (some ⟨g,0,none⟩)
end
section
open Go Go.RowKit
end
section
open Go Go.RowKit
section
variable {ops:Array Oper} {rest:List Oper} {o:Oper} {a:Act} {Q:Exit->Act->World->Prop} {w:World}
end
def Out (O:Nat->Prop) (w:World) (v:Value):Prop:=∀a n c,v=.slice (some a) n c->n≠0->¬O a.block\/IsU8 w a.block
variable {w w':World} {v:Value} {l:B8}
theorem IsBytes.fr {O:Nat->Prop} (h:IsBytes w v l) (x:Out O w v) (r:Fr O w w'):IsBytes w' v l:=by
 obtain⟨a,d,rfl,j,k,n,p⟩:=h;refine⟨a,d,rfl,j,k,n,fun e=>?_⟩;have t:l.length≠0:=fun g=>e (by rw[List.eq_nil_of_length_eq_zero g];rfl)
 obtain⟨b,o,rfl,q⟩:=p e;refine⟨b,o,rfl,fun i u y=>?_⟩;have c:=q i u y;rw[World.cell?_of_block (w:=w) (w':=w') (a:=⟨b,o+i,none⟩) (r.block b (World.block_lt_of_cell? _ _ c) (x _ _ _ rfl t))];exact c
theorem IsData.out {O R:Nat->Prop} (h:IsData R w v l):Out O w v:=fun a n c b _=>.inr (h.typed a n c b)
theorem Env.fr {O:Nat->Prop} (h:Env w) (b:Fr O w w') (d:∀k,O k->k≠0):Env w':=by
 obtain⟨m,a⟩:=h;exact⟨m,by rw[World.cell?_of_block (w:=w) (w':=w') (b.block _ (World.block_lt_of_cell? _ _ a) (.inl (fun c=>d _ c rfl)))];exact a⟩
end
section
open Go Go.RowKit
theorem uD (l:ae):∀a:List Ch,(a.foldl ap l).length<=l.length+a.length:=by
 intro a
 induction a generalizing l with
 | nil=>simp
 | cons c a b =>
  have d:=b (ap l c);have e:=lM l c;simp only[List.foldl_cons,List.length_cons];omega
end
section
open Go Go.RowKit
theorem iW (c:UInt8):∀(l r:B8),cut c (l++c::r)=cut c l++cut c r
 | [],r=>by simp[cut]
 | x::l,r=>by
  have d:=iW c l r;show cut c (x::(l++c::r))=cut c (x::l)++cut c r
  by_cases b:(x==c)=true
  .rw [cut,cut,if_pos b,if_pos b,d];rfl
  .rw [cut,cut,if_neg b,if_neg b,d]
   cases e:cut c l with
   | nil=>exact(iH c l e).elim
   | cons a t=>rfl
theorem oA (x:B8) (c:UInt8):Lib.join [x] [c]=x:=by simp[Lib.join,List.intercalate,List.intersperse]
theorem jC (x y:B8) (L:List B8) (c:UInt8):Lib.join (x::y::L) [c]=x++c::Lib.join (y::L) [c]:=by
 simp[Lib.join,List.intercalate,List.intersperse]
theorem oz (c:UInt8):∀l:B8,Lib.join (cut c l) [c]=l
 | []=>by simp[cut,oA]
 | x::l=>by
  have d:=oz c l;rw[cut]
  by_cases h:(x==c)=true
  .rw [if_pos h];have e:x=c:=by simpa using h
   subst e
   cases g:cut x l with
   | nil=>exact(iH x l g).elim
   | cons a t=>rw[g]at d;rw[jC,d];rfl
  .rw [if_neg h]
   cases g:cut c l with
   | nil=>exact(iH c l g).elim
   | cons a t =>
    rw[g]at d
    cases t with
    | nil=>rw[oA]at d ⊢;rw[d]
    | cons b t=>rw[jC]at d ⊢;simp[d]
theorem nH (c:UInt8):∀(A B:List B8),A≠[]->B≠[]->Lib.join (A++B) [c]=Lib.join A [c]++c::Lib.join B [c]
 | [],_,h,_=>(h rfl).elim
 | [x],[],_,h=>(h rfl).elim
 | [x],y::B,_,_=>by rw[oA];exact jC x y B c
 | x::y::A,B,_,a=>by
  have b:=nH c (y::A) B (by simp) a;show Lib.join (x::y::(A++B)) [c]=_;rw[jC,jC,show y::(A++B)=(y::A)++B from rfl,b];simp
theorem ko (d s:B8):aD d s=true↔∃r,s=d++47::r:=by
 unfold aD;rw[List.isPrefixOf_iff_prefix];constructor
 .rintro ⟨r,a⟩;exact⟨r,by rw[<-a];simp⟩
 .rintro ⟨r,a⟩;exact⟨r,by rw[a];simp⟩
variable {path:B8}
theorem kA {p:B8} (e:aR path=true):p∈cn path↔aD p path=true:=by
 unfold cn ey dI;rw[if_pos e,ko];constructor
 .intro h;obtain⟨i,d,rfl⟩:=List.mem_map.1 h;have a:=List.mem_range.1 d;refine⟨Lib.join ((cut 47 path).drop (i+1)) [47],?_⟩;rw[<-nH 47 _ _ (by intro b;have:=congrArg List.length b;simp at this;rw[this]at a;simp at a) (by intro b;have:=congrArg List.length b;simp at this;omega),List.take_append_drop,oz]
 .rintro ⟨r,rfl⟩;refine List.mem_map.2 ⟨(cut 47 p).length - 1,List.mem_range.2 ?_,?_⟩
  .have c:0<(cut 47 p).length:=List.length_pos_iff.2 (iH 47 p);have g:0<(cut 47 r).length:=List.length_pos_iff.2 (iH 47 r);rw[iW,List.length_append];omega
  .have c:0<(cut 47 p).length:=List.length_pos_iff.2 (iH 47 p);rw[iW,show(cut 47 p).length - 1+1=(cut 47 p).length by omega,List.take_left,oz]
variable {c:Ch}
theorem ou {l:ae} (h:∀e∈l,aR e.1=true/\e.2.data.length<=20000) (g:qh c):∀e∈ap l c,aR e.1=true/\e.2.data.length<=20000:=by
 intro e a
 cases c with
 | put p f =>
  rcases cG a with rfl | ⟨b,_⟩
  .exact g
  .exact h e b
 | mv s d =>
  unfold ap at a;simp only at a;split at a
  .rename_i x i;rcases cG a with rfl | ⟨b,_⟩
   .exact ⟨g.2.1,(h _ (du i)).2⟩
   .exact h e (List.mem_filter.1 b).1
  .exact h e a
 | del p=>exact h e (List.mem_filter.1 a).1
theorem wW {cs:List Ch}:∀ {l:ae},(∀e∈l,aR e.1=true/\e.2.data.length<=20000)->(∀c∈cs,qh c)->∀e∈cs.foldl ap l,aR e.1=true/\e.2.data.length<=20000:=by
 induction cs with
 | nil=>exact fun h _=>h
 | cons c cs g=>exact fun h a=>g (ou h (a c (by simp))) (fun d b=>a d (by simp[b]))
theorem BO (t:Nat) (h:qh c):qh (c.at t):=by
 cases c with
 | put p f=>exact h
 | mv s d=>exact h
 | del p=>exact h
variable {m:Fs}
theorem vK (h:OkM m) (j:qh c) (i:∀s d,c=.mv s d->(ax m.now s).isSome=true):OkM (gZ m c):=by
 have A:=lM m.now (c.at (m.time+1));have u:=h.Hm;have w:=h.Ii;have x:=h.Ih;have y:=h.He;have z:=h.Iu;refine⟨by simp only[gZ];omega,by simp only[gZ];omega,by simp only[gZ,List.length_append,List.length_cons,List.length_nil];omega,by simp only[gZ,List.length_append,List.length_cons,List.length_nil];omega,by simp only[gZ];omega,ou h.Hr (BO _ j),h.Hs,?_,?_,?_⟩
 .intro d b;rcases List.mem_append.1 b with b | b
  .exact h.Hl d b
  .rw [List.mem_singleton.1 b];exact BO _ j
 .show (m.pend++[c.at (m.time+1)]).foldl ap m.sure=ap m.now (c.at (m.time+1));rw[List.foldl_append,h.fold];rfl
 .intro k s d o;show(ax (((m.pend++[c.at (m.time+1)]).take k).foldl ap m.sure) s).isSome=true;have a:(m.pend++[c.at (m.time+1)])[k]? = some (.mv s d):=o;rw[List.getElem?_append]at a;split at a
  .rename_i q;rw[List.take_append_of_le_length (by omega)];exact h.Ij k s d a
  .rename_i n;have l:=(List.getElem?_eq_some_iff.1 a).1;have r:k - m.pend.length=0:=by simp at l;omega
   rw[r]at a;have e:c.at (m.time+1)=.mv s d:=by simpa using a
   have g:k=m.pend.length:=by omega
   subst g;rw[List.take_left,h.fold]
   cases c with
   | put p f=>cases e
   | mv B t=>exact i s d e
   | del p=>cases e
variable {mode:Int} {data:B8} {fits:Bool}
theorem vL (h:OkM m) (b:aR path=true) (a:data.length<=20000):OkM (eO m path mode data fits).1:=by
 unfold eO;split
 .exact h
 .split
  .exact h
  .exact vK h ⟨b,a⟩ (fun s d e=>by cases e)
theorem pt (h:OkM m):OkM (dh m path).1:=by
 unfold dh;split
 .exact h
 .split
  .exact h
  .rename_i a _;exact vK h (show aR path=true by simpa using a) (fun s d e=>by cases e)
theorem rr (h:OkM m):OkM (settle m) :=
 ⟨h.Hm,h.Hm,Nat.zero_le _,h.Hm,h.He,h.Hr,h.Hr,fun c a=>(by cases a),rfl,fun k s d b=>by simp[settle]at b⟩
theorem OkM.same {a:Fs} (h:OkM m) (e:a.now=m.now) (b:a.sure=m.sure) (c:a.pend=m.pend) (g:a.users.length<=a.time) (d:m.time<=a.time):OkM a:=by
 refine⟨by rw[e];exact Nat.le_trans h.Hm d,by rw[b];exact Nat.le_trans h.Ii d,by rw[c];exact Nat.le_trans h.Ih d,by rw[b,c];exact Nat.le_trans h.Iu d,g,by rw[e];exact h.Hr,by rw[b];exact h.Hs,by rw[c];exact h.Hl,by rw[e,b,c];exact h.fold,by rw[b,c];exact h.Ij⟩
theorem xT (h:iO path mode data=0):aR path=true/\1<=mode/\mode<=3/\data.length<=20000:=by
 unfold iO at h;split at h
 .cases h
 .split at h
  .cases h
  .split at h
   .cases h
   .rename_i a b c;refine⟨by simpa using a,by omega,by omega,by omega⟩
theorem zA (h:(eO m path mode data fits).2=0):eO m path mode data fits=(gZ m (.put path ⟨mode,data,0⟩),0):=by
 unfold eO at h ⊢
 by_cases a:(ax m.now path).isNone=true/\jJ m.now path []=false
 .rw [if_pos a]at h;cases h
 .rw [if_neg a]at h ⊢
  by_cases b:fits=false
  .rw [if_pos b]at h;cases h
  .rw [if_neg b]
theorem t8 (h:(dh m path).2=0):dh m path=(gZ m (.del path),0):=by
 unfold dh at h ⊢
 by_cases a:aR path=false
 .rw [if_pos a]at h;cases h
 .rw [if_neg a]at h ⊢
  by_cases b:(ax m.now path).isNone=true
  .rw [if_pos b]at h;cases h
  .rw [if_neg b]
theorem rF:m.time<=(eO m path mode data fits).1.time/\(eO m path mode data fits).1.time<=m.time+1:=by
 unfold eO;split
 .exact ⟨Nat.le_refl _,Nat.le_succ _⟩
 .split
  .exact ⟨Nat.le_refl _,Nat.le_succ _⟩
  .exact ⟨Nat.le_succ _,Nat.le_refl _⟩
theorem mz:m.time<=(dh m path).1.time/\(dh m path).1.time<=m.time+1:=by
 unfold dh;split
 .exact ⟨Nat.le_refl _,Nat.le_succ _⟩
 .split
  .exact ⟨Nat.le_refl _,Nat.le_succ _⟩
  .exact ⟨Nat.le_succ _,Nat.le_refl _⟩
theorem tT (h:OkM m):OkM (dA m path mode data).1:=by
 unfold dA;split
 .exact h
 .split
  .exact h
  .rename_i e;have a:=xT (by simpa using e);split
   .exact vL h a.1 a.2.2.2
   .rename_i d;have b:=zA (by simpa using d);have c:=rr (vL (mode:=mode) (fits:=true) h a.1 a.2.2.2);refine c.same rfl rfl rfl ?_ (Nat.le_refl _);have:=h.He;rw[b];simp only[settle,gZ,List.length_append,List.length_cons,List.length_nil];omega
theorem r7 (h:OkM m):OkM (dS m path).1:=by
 unfold dS;split
 .exact h
 .split
  .exact pt h
  .rename_i c;have a:=t8 (by simpa using c);have b:=rr (pt (path:=path) h);refine b.same rfl rfl rfl ?_ (Nat.le_refl _);have:=h.He;rw[a];simp only[settle,gZ,List.length_append,List.length_cons,List.length_nil];omega
theorem qQ:m.time<=(dA m path mode data).1.time/\(dA m path mode data).1.time<=m.time+1:=by
 unfold dA;split
 .exact ⟨Nat.le_refl _,Nat.le_succ _⟩
 .split
  .exact ⟨Nat.le_refl _,Nat.le_succ _⟩
  .split
   .exact rF
   .exact rF (m:=m) (path:=path) (mode:=mode) (data:=data) (fits:=true)
theorem p9:m.time<=(dS m path).1.time/\(dS m path).1.time<=m.time+1:=by
 unfold dS;split
 .exact ⟨Nat.le_refl _,Nat.le_succ _⟩
 .split
  .exact mz
  .exact mz (m:=m) (path:=path)
theorem uV (l:ae) (t:Int) (c:Option Ch):(pW l t c).length<=l.length+1/\(c=none->pW l t c=l):=by
 unfold pW;refine⟨?_,fun h=>by subst h;rfl⟩;split
 .split
  .exact lM _ _
  .omega
 .omega
theorem rX (a b:Int) (h:OkM m):(jw m a b).length<=m.time:=by
 unfold jw;have c:=uV ((m.pend.take (gQ m a)).foldl ap m.sure) b m.pend[gQ m a]?;have e:=uD m.sure (m.pend.take (gQ m a));have g:=h.Iu;have i:(m.pend.take (gQ m a)).length<=gQ m a:=List.length_take_le _ _
 by_cases j:gQ m a<m.pend.length
 .omega
 .have d:=c.2 (List.getElem?_eq_none (by omega));rw[d];have:gQ m a<=m.pend.length:=by unfold gQ;omega
  omega
theorem tm (a b:Int) (h:OkM m):∀e∈jw m a b,aR e.1=true/\e.2.data.length<=20000:=by
 have d:=wW (cs:=m.pend.take (gQ m a)) h.Hs (fun c g=>h.Hl c (List.mem_of_mem_take g));unfold jw pW;split
 .rename_i p f i;split
  .refine ou d ?_;have:=h.Hl _ (List.mem_of_getElem? i);refine⟨this.1,?_⟩;simp only[List.length_take];have:=this.2;omega
  .exact d
 .exact d
theorem Bd (a b:Int) (h:OkM m):OkM (jW m a b):=by
 unfold jW;split
 .exact h
 .have e:=rX a b h;have g:=tm a b h;exact⟨e,e,Nat.zero_le _,e,h.He,g,g,fun c i=>(by cases i),rfl,fun k s d j=>by simp at j⟩
theorem wO (m:Fs) (a b:Int):(jW m a b).time=m.time:=by
 unfold jW;split <;> rfl
def jz (m:Fs) (e:Ev):Fs :=
 if e.kind=1 then jW m e.keep e.G3 else if e.kind=4 then(dA m e.path e.mode e.data).1 else if e.kind=5 then(dS m e.path).1 else m
def AK (e:Ev):Int:=if e.kind=2 then 10 else if e.kind=3 then 11 else 0
theorem D9 (h:OkM m) (e:Ev):OkM (jz m e):=by
 unfold jz;split
 .exact Bd _ _ h
 .split
  .exact tT h
  .split
   .exact r7 h
   .exact h
theorem AM (m:Fs) (e:Ev):m.time<=(jz m e).time/\(jz m e).time<=m.time+1:=by
 unfold jz;split
 .rw [wO];exact⟨Nat.le_refl _,Nat.le_succ _⟩
 .split
  .exact qQ
  .split
   .exact p9
   .exact ⟨Nat.le_refl _,Nat.le_succ _⟩
theorem yI (n:Nat) (x:Fs×Bool×Bool) (e:Ev):lY n x e=if e.t≠n then x else(jz x.1 e,x.2.1 || AK e==10,x.2.2 || AK e==11):=by
 obtain⟨m,f,b⟩:=x;unfold lY jz AK;simp only
 by_cases a:e.t≠n
 .rw [if_pos a,if_pos a]
 .rw [if_neg a,if_neg a]
  by_cases c:e.kind=1
  .simp [c]
  .by_cases d:e.kind=2
   .simp [d]
   .by_cases g:e.kind=3
    .simp [g]
    .by_cases h:e.kind=4
     .simp [h]
     .by_cases i:e.kind=5
      .simp [i]
      .simp [c,d,g,h,i]
end
section
open Go Go.RowKit
end
section
open Go Go.RowKit
structure Ds (m:Fs):Prop where
 len:m.plan.length<=1000
 ev:∀e∈m.plan,I64 e.keep/\I64 e.G3/\e.path.length<=400
theorem AL (m:Fs) (e:Ev):(jz m e).plan=m.plan/\(jz m e).calls=m.calls/\(jz m e).room=m.room:=by
 unfold jz;split
 .unfold jW;split <;> exact⟨rfl,rfl,rfl⟩
 .split
  .unfold dA;split
   .exact ⟨rfl,rfl,rfl⟩
   .split
    .exact ⟨rfl,rfl,rfl⟩
    .split
     .unfold eO;split
      .exact ⟨rfl,rfl,rfl⟩
      .split <;> exact⟨rfl,rfl,rfl⟩
     .simp only[settle];unfold eO;split
      .exact ⟨rfl,rfl,rfl⟩
      .split <;> exact⟨rfl,rfl,rfl⟩
  .split
   .unfold dS;split
    .exact ⟨rfl,rfl,rfl⟩
    .split
     .unfold dh;split
      .exact ⟨rfl,rfl,rfl⟩
      .split <;> exact⟨rfl,rfl,rfl⟩
     .simp only[settle];unfold dh;split
      .exact ⟨rfl,rfl,rfl⟩
      .split <;> exact⟨rfl,rfl,rfl⟩
   .exact ⟨rfl,rfl,rfl⟩
structure Mid (m:Fs) (n:Nat) (x:Fs×Bool×Bool):Prop where
 ok:OkM x.1
 time:x.1.time<=m.time+n
 Hi:m.time<=x.1.time
 plan:x.1.plan=m.plan
 calls:x.1.calls=m.calls+1
 room:x.1.room=m.room
variable {m:Fs}
theorem Mid.next {n k:Nat} {x:Fs×Bool×Bool} (h:Mid m n x) (e:Ev):Mid m (n+if e.t=(k:Int)then 1 else 0) (lY k x e):=by
 rw[yI]
 by_cases a:e.t≠(k:Int)
 .rw [if_pos a,if_neg a];exact h
 .rw [if_neg a,if_pos (by simpa using a)];have c:=AM x.1 e;have b:=AL x.1 e;have:=h.time;have:=h.Hi;exact⟨D9 h.ok e,by simp only;omega,by simp only;omega,b.1.trans h.plan,b.2.1.trans h.calls,b.2.2.trans h.room⟩
theorem Mid.fold {m:Fs} (k:Nat):∀(l:List Ev) {n:Nat} {x:Fs×Bool×Bool},Mid m n x->Mid m (n+l.length) (l.foldl (lY k) x)
 | [],n,x,h=>h
 | e::l,n,x,h=>by
  have a:=Mid.fold k l (h.next (k:=k) e);refine⟨a.ok,?_,a.Hi,a.plan,a.calls,a.room⟩;have:=a.time;simp only[List.length_cons,List.foldl_cons];split at this <;> omega
def Cd (m:Fs):Fs:={ m with calls:=m.calls+1 }
theorem Mid.start (h:OkM m):Mid m 0 (Cd m,false,false):=⟨h.same rfl rfl rfl h.He (Nat.le_refl _),Nat.le_refl _,Nat.le_refl _,rfl,rfl,rfl⟩
end
section
open Go Go.RowKit
def Apart (S O:Nat->Prop) (w:World):Prop:=∀k,S k->¬O k/\k<w.heap.size
theorem Apart.next {S O:Nat->Prop} {w w':World} (h:Apart S O w) (c:w.heap.size<=w'.heap.size):Apart S (Nw O w w') w':=fun k b=>⟨fun a=>by
 rcases a with a | a
 .exact (h k b).1 a
 .have:=(h k b).2;omega,by have:=(h k b).2;omega⟩
def NoG (O:Nat->Prop):Prop:=∀k,O k->k≠0
end
section
open Go Go.RowKit
end
section
open Go Go.RowKit
def Eg (r:Fs×Bool×Int) (path:B8) (mode:Int) (data:B8) (only:Bool):Fs×Int :=
 if r.2.2≠0 then(r.1,r.2.2)else if iO path mode data≠0 then(r.1,iO path mode data)
 else if only=true/\(ax r.1.now path).isSome then(r.1,8)else eO r.1 path mode data (!r.2.1 && EI r.1 path data.length)
def jj (m:Fs) (path:B8) (mode:Int) (data:B8):Fs×Int:=Eg (cd m) path mode data true
def Ae (m:Fs) (path:B8) (mode:Int) (data:B8):Fs×Int:=Eg (cd m) path mode data false
def mvM (r:Fs×Bool×Int) (src dst:B8) (a:Bool):Fs×Int :=
 if r.2.2≠0 then(r.1,r.2.2)else if aR src=false\/aR dst=false then(r.1,6)
 else if(ax r.1.now src).isNone then(r.1,7)else if(ax r.1.now dst).isSome/\a=true then(r.1,8)
 else if src=dst then(r.1,0)else if(ax r.1.now dst).isNone/\jJ r.1.now dst src=false then(r.1,9)else(gZ r.1 (.mv src dst),0)
def iZ (m:Fs) (src dst:B8) (a:Bool):Fs×Int:=mvM (cd m) src dst a
def dX (m:Fs) (path:B8):Fs×Int:=if(cd m).2.2≠0 then((cd m).1,(cd m).2.2)else dh (cd m).1 path
def lG (m:Fs):Fs×Int:=if(cd m).2.2=0 then(settle (cd m).1,0)else((cd m).1,(cd m).2.2)
def qg:Fi:=⟨0,[],0⟩
def bF (m:Fs) (path:B8):Fs×Fi×Int :=
 if(cd m).2.2≠0 then((cd m).1,qg,(cd m).2.2)else if aR path=false then((cd m).1,qg,6)
 else match ax (cd m).1.now path with
  | some f=>((cd m).1,f,0)
  | none=>((cd m).1,qg,7)
def aX (l:ae):List B8:=l.map (·.1)
def cL (m:Fs) (a:B8):Fs×List B8×Int :=
 if(cd m).2.2≠0 then((cd m).1,[],(cd m).2.2)else if a=[]then((cd m).1,aX (cd m).1.now,0)
 else if aR a=false then((cd m).1,[],6)else((cd m).1,(aX (cd m).1.now).filter (aD a),0)
def Gl (m:Fs) (path:B8):Fi×Bool:=match ax m.now path with
 | some f=>(f,true)
 | none=>(qg,false)
structure Left (m m':Fs) (n:Nat):Prop where
 ok:OkM m'
 time:m'.time<=m.time+n
 Hi:m.time<=m'.time
 plan:m'.plan=m.plan
 room:m'.room=m.room
variable {n k:Nat}
theorem Left.trans {a b c:Fs} (h:Left a b n) (d:Left b c k):Left a c (n+k) :=
 ⟨d.ok,by have:=h.time;have:=d.time;omega,Nat.le_trans h.Hi d.Hi,d.plan.trans h.plan,d.room.trans h.room⟩
variable {m:Fs}
theorem Left.refl (h:OkM m):Left m m 0:=⟨h,Nat.le_refl _,Nat.le_refl _,rfl,rfl⟩
theorem Left.mono {a:Fs} (h:Left m a n) (b:n<=k):Left m a k:=⟨h.ok,Nat.le_trans h.time (by omega),h.Hi,h.plan,h.room⟩
end
section
open Go Go.RowKit
end
section
open Go Go.RowKit
end
section
open Go Go.RowKit
end
section
open Go Go.RowKit
theorem Nu.mono {a b w w':World} (c:a.heap.size<=w.heap.size) (d:w'.heap.size<=b.heap.size) {k:Nat} (h:Nu w w' k):Nu a b k:=⟨Nat.le_trans c h.1,Nat.lt_of_lt_of_le h.2 d⟩
end
end Go.Proofs.YtgfegpnmlkdjfaaGreatDoor
