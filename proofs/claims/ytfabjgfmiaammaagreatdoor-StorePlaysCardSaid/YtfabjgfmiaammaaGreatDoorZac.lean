/- Contracts of the program's functions and plain laws behind the card. Conditions: as each theorem states. -/
import Derived.Test.YtfabjgfmiaammaaGreatDoorZab
import Derived.Maps.AppendAt
import Derived.Laws.LoneSync
import Derived.Deep.DeepCutAuto
set_option linter.unusedVariables false
set_option linter.unusedSimpArgs false
set_option linter.unusedSectionVars false
set_option maxRecDepth 100000
set_option maxHeartbeats 64000000
namespace Go.Proofs.YtfabjgfmiaammaaGreatDoor
section
open Go Go.RowKit
theorem xJ (v:Value) (L:List B8) (c:B8) (w:World) (p:IsStrs w v L) (q:(Lib.join L c).length<=140737488355328) :
  Calls Tryz.prog 242 #[v,S8 c] w fun e g=>e=.returned (S8 (Lib.join L c))/\Ext w g:=by
 obtain⟨a,d,rfl,r,D,t,u⟩:=p
 cases L with
 | nil=>exact(Tryz.strings_Join_none a d ⟨c.toArray⟩ w).mono fun e g ⟨A,B⟩=>⟨A,by rw[B];exact Ext.refl _⟩
 | cons x L =>
  obtain⟨b,o,rfl,i⟩:=u (by simp);have k:(((x::L).map fun l=>(⟨l.toArray⟩:ByteArray)).map (·.data.toList))=x::L:=by
   rw[List.map_map];exact List.map_id _
  have h:=Tryz.strings_Join b o d ((x::L).map fun l=>(⟨l.toArray⟩:ByteArray)) ⟨c.toArray⟩ w (fun j y n=>i j _ (by
   rw[List.getElem?_map]at n ⊢;obtain⟨z,C,rfl⟩:=Option.map_eq_some_iff.1 n;rw[C];rfl)) (by
    have:=i 0 _ rfl;exact World.block_lt_of_cell? _ _ this) (by simpa using t) (by simpa using r) (by rw[k];exact q)
  rw[k,List.length_map]at h;exact h
theorem xK (a:B8):∀L:List B8,(Lib.join L a).length<=(L.map List.length).sum+L.length*a.length
 | []=>by simp[Lib.join_nil]
 | x::L=>by
  rw[Lib.join_cons];have:∀M:List B8,(Lib.joinTail a M).length=(M.map List.length).sum+M.length*a.length:=by
   intro M
   induction M with
   | nil=>simp[Lib.joinTail]
   | cons y M b =>
    unfold Lib.joinTail at *;simp only[List.map_cons,List.flatten_cons,List.length_append,List.sum_cons,List.length_cons,b,Nat.add_mul];omega
  simp only[List.length_append,this,List.map_cons,List.sum_cons,List.length_cons,Nat.add_mul];omega
theorem me:∀(L:List Nat) (k:Nat),(L.take k).sum<=L.sum
 | [],k=>by simp
 | x::L,0=>by simp
 | x::L,k+1=>by have:=me L k;simp;omega
theorem lc (l:B8) (k:Nat):(Lib.join ((cut 47 l).take k) [47]).length<=2*l.length+2:=by
 have a:=xK [47] ((cut 47 l).take k);have c:=jr 47 l;have d:=eZ 47 l;have b:=me ((cut 47 l).map List.length) k;rw[<-List.map_take]at b;have e:=List.length_take_le k (cut 47 l);have g:((cut 47 l).take k).length<=(cut 47 l).length:=List.length_take_le' k (cut 47 l);simp only[List.length_cons,List.length_nil]at a;omega
variable {w:World}
theorem IsStrs.take {a:Option Addr} {L:List B8} {c n:Nat} (h:IsStrs w (.slice a L.length c) L) (y:n<=L.length):IsStrs w (.slice a n c) (L.take n):=by
 obtain⟨z,g,j,A,l,B,p⟩:=h;simp only[Value.slice.injEq,true_and]at j;obtain⟨rfl,rfl⟩:=j;have q:(L.take n).length=n:=by rw[List.length_take];omega
 refine⟨a,c,by rw[q],by omega,l,by omega,fun e=>?_⟩;obtain⟨b,o,rfl,r⟩:=p (by
  intro t;have:L=[]:=by simpa using t
  subst this;simp at e)
 refine⟨b,o,rfl,fun i u k=>r i u ?_⟩;rw[List.getElem?_map]at k ⊢;obtain⟨x,d,rfl⟩:=Option.map_eq_some_iff.1 k;rw[List.getElem?_take]at d;split at d
 .rw [d];rfl
 .simp at d
def dV (l:B8):List B8:=if aC l then cut 47 l else[]
theorem tQ (l:B8) (w:World) (j:Env w) (q:l.length<=10000000) :
  Calls Tryz.prog 16 #[S8 l] w fun e k=>(∃v,e=.returned v/\IsStrs k v (dV l))/\Ext w k:=by
 have d:Hid _:=j;clear j;have n:dV l=if aC l then cut 47 l else[]:=rfl
 have o:Hid _:=n;clear n
 cases p:aC l with
 | true =>
  have g:Hid _:=p;go_enter Tryz.func16,Tryz.ntmps16
  go_wp2_with (first
   | (go_at_call 51;go_must (refine(dO l _ d.out (by omega)).mono ?_;rintro e r ⟨rfl,b⟩))
   | (go_at_call 52;go_must (refine(oU ⟨l.toArray⟩ 47 _ (d.out.ext b) (Nat.lt_of_le_of_lt q (by decide))).mono ?_;rintro e u ⟨v,rfl,h,-,i⟩;have t:Hid _:=h;obtain⟨a,c,rfl,-⟩:=id h;clear h)))
  go_ret;exact⟨⟨_,rfl,by rw[o.out,if_pos g.out];exact t.out⟩,b.trans i⟩
 | false =>
  have g:Hid _:=p;go_enter Tryz.func16,Tryz.ntmps16
  go_wp2_with (go_at_call 51;go_must (refine(dO l _ d.out (by omega)).mono ?_;rintro e r ⟨rfl,b⟩))
  go_ret;exact⟨⟨_,rfl,by rw[o.out,if_neg (by simp[g.out])];exact IsStrs.nil _⟩,b⟩
def ej (L:List B8) (k:Nat):List B8:=(List.range k).map fun i=>Lib.join (L.take (i+1)) [47]
def el (l:B8):List B8:=ej (dV l) ((dV l).length - 1)
theorem pW (L:List B8) (k:Nat):ej L (k+1)=ej L k++[Lib.join (L.take (k+1)) [47]]:=by
 unfold ej;rw[List.range_succ,List.map_append];rfl
theorem ns (L:List B8) (k:Nat):(ej L k).length=k:=by simp[ej]
theorem rM (l:B8) (w:World) (y:Env w) (D:l.length<=10000000) :
  Calls Tryz.prog 229 #[S8 l] w fun e z=>(∃v,e=.returned v/\IsStrs z v (el l))/\Ext w z:=by
 have E:Hid _:=y;have p:dV l=[]\/dV l=cut 47 l:=by unfold dV;split <;> simp
 have A:(dV l).length<=10000001:=by
  rcases p with h | h
  .rw [h];simp
  .rw [h];have:=(eZ 47 l).2;omega
 have F:Hid (∀k,(Lib.join ((dV l).take k) [47]).length<=140737488355328):=fun k=>by
  rcases p with h | h
  .rw [h,List.take_nil,Lib.join_nil];simp
  .rw [h];have:=lc l k;omega
 have G:Hid (el l=ej (dV l) ((dV l).length - 1)):=rfl;generalize B:dV l=L at *;have H:Hid _:=B;clear y p B;go_enter Tryz.func229,Tryz.ntmps229
 go_wp2_with (go_at_call 16;go_must (refine(tQ l _ E.out D).mono ?_;rw[H.out];rintro e q ⟨⟨v,rfl,r⟩,t⟩;have I:Hid _:=r;obtain⟨a,u,rfl,P,Q,R,-⟩:=id r;clear r))
 go_loopw [4,5] (fun v i wr=>∃k:Nat,k<=L.length - 1/\i=.int .i64 ((k+1:Nat):Int)/\wr.ownsRow q.heap.size 9 1 v k ((ej L k).map S8)/\Ext q wr) (fun _ i _=>L.length - (intOf i).toNat)
 case atStart=>exact⟨0,Nat.zero_le _,rfl,World.ownsRow_nil _ _ _ _,Ext.refl _⟩
 case round =>
  obtain⟨k,S,rfl,b,o⟩:=hrel;have J:=o.size
  by_cases K:k+1<L.length
  .have T:(0:Int)<=((k+1:Nat):Int):=by omega
   have U:((k+1:Nat):Int)<=(u:Int):=by omega
   go_wp2_with (first
    | (go_at_call 242;go_must (refine(xJ _ (L.take (k+1)) [47] _ (IsStrs.take (IsStrs.ext I.out o) (by omega)) (F.out _)).mono ?_;rintro V M ⟨rfl,g⟩;have c:=al b g;have C:=g.size))
    | (at_builtin;go_must (refine eO rfl _ _ rfl q.heap.size _ k _ rfl (c.alloc _) M.heap.size 1 1 [Lib.join (L.take (k+1)) [47]] rfl rfl (ab _ _) (by omega) (by simp;omega) ?_;intro W X j x)))
   go_roundw
   case rel=>exact⟨k+1,by omega,by go_num,by rw[pW];exact j,ai ((o.trans g).alloc _) (c.alloc _) x⟩
   case measure=>simp[intOf];omega
  .have n:k=L.length - 1:=by omega
   have d:IsStrs wr u4 (el l):=by
    rw[G.out,<-n];unfold IsStrs;rw[ns];exact Row.BM b (by omega)
   have N:Hid _:=d;have O:¬((k+1:Nat):Int)<(L.length:Int):=by omega
   clear d b n;go_wp2;go_ret;exact⟨⟨_,rfl,N.out⟩,t.trans o⟩
def kq (l:aq) (path a:B8):Bool:=!((el path).any fun p=>(ax l p).isSome && !(p==a)) && !(k' l path a)
theorem nt {α:Type} {f:α->Bool} {l:List α} {k:Nat} {x:α} (a:l[k]? = some x) (b:(l.take k).any f=false) (c:f x=false):(l.take (k+1)).any f=false:=by
 rw[List.take_add_one,a];simp only[List.any_append,b,Option.toList_some,List.any_cons,c,List.any_nil,Bool.or_false]
theorem pX (l:B8):∀p∈el l,p.length<=2*l.length+2:=by
 intro p a;unfold el ej at a;obtain⟨i,_,rfl⟩:=List.mem_map.1 a;unfold dV;split
 .exact lc l _
 .simp [Lib.join_nil]
theorem lT {R:Nat->Prop} {b:Nat} {l:aq} (path c:B8) (N:Env w) (O:IsFiles R w b l) (hp:path.length<=4000000) :
  Calls Tryz.prog 188 #[.map (some b),S8 path,S8 c] w fun e Y=>e=.returned (.bool (kq l path c))/\Ext w Y:=by
 have Z:Hid _:=N;have P:Hid _:=O;have HS:Hid _:=pX path;have Q:kq l path c=(!((el path).any fun p=>(ax l p).isSome && !(p==c)) && !(k' l path c)):=rfl;have S:Hid _:=Q;generalize T:el path=L at *;have HL:Hid _:=T;have ad:(⟨c.toArray⟩:ByteArray).toList=c:=Lib.toList_data _;clear N O T Q;go_enter Tryz.func188,Tryz.ntmps188
 go_wp2_with (go_at_call 229;go_must (refine(rM path _ Z.out (by omega)).mono ?_;rw[HL.out];rintro e w2 ⟨⟨v,rfl,U⟩,j⟩;obtain⟨a,au,rfl,h1,h2,h3,V⟩:=U.get;have H4:Hid _:=V;clear V U))
 go_loopw [14] (fun i wr=>∃k:Nat,k<=L.length/\i=.int .i64 k/\((L.take k).any fun p=>(ax l p).isSome && !(p==c))=false/\Ext w2 wr) (fun i _=>L.length - (intOf i).toNat)
 case atStart=>exact⟨0,Nat.zero_le _,rfl,rfl,Ext.refl _⟩
 case round =>
  obtain⟨k,hk,rfl,W,r⟩:=hrel;have F:Hid _:=W;clear W
  by_cases t:k<L.length
  .obtain ⟨q,E⟩:∃q,L[k]? = some q:=⟨_,List.getElem?_eq_getElem t⟩;obtain⟨bb,o,rfl,X⟩:=H4.out k t;have G:=r.cell (X k t);have z:L.getD k []=q:=by rw[List.getD_eq_getElem?_getD,E];rfl
   rw[z]at G;have a0:=HS.out q (List.mem_of_getElem? E);have a1:(⟨q.toArray⟩:ByteArray).toList=q:=Lib.toList_data _;have H:Hid _:=E;obtain⟨v,g,-,u,x⟩:=(P.out.ext (j.trans r)).B1 q (by omega);clear X z E
   cases d:ax l q with
   | none =>
    rw[d]at g;obtain rfl:=x d;have y:Hid _:=d;clear u x d;simp only[Option.isSome_none]at g;go_wp2;go_roundw
    case rel=>exact⟨k+1,by omega,by go_num,nt H.out F.out (by rw[y.out];rfl),r.alloc _⟩
    case measure=>simp[intOf];omega
   | some f =>
    rw[d]at g;obtain⟨sv,rfl,A⟩:=u f d;obtain⟨s1,s2,rfl,-⟩:=A.bytes;have y:Hid _:=d;clear u x d A;simp only[Option.isSome_some]at g
    by_cases h:q=c
    .have B:(q==c)=true:=by simpa using h
     have I:Hid _:=h;clear h;go_wp2;go_roundw
     case rel=>exact⟨k+1,by omega,by go_num,nt H.out F.out (by rw[I.out];simp),r.alloc _⟩
     case measure=>simp[intOf];omega
    .have B:(q==c)=false:=by simpa using h
     have C:kq l path c=false:=by
      rw[S.out];have:(L.any fun p=>(ax l p).isSome && !(p==c))=true:=List.any_eq_true.2 ⟨q,List.mem_of_getElem? H.out,by rw[y.out,B];rfl⟩;rw[this];rfl
     have J:Hid _:=C;clear C h;go_wp2;go_ret;exact⟨an J.out.symm,j.trans (r.alloc _)⟩
  .have n:(L.any fun p=>(ax l p).isSome && !(p==c))=false:=by
    have:=F.out
    rwa [List.take_of_length_le (by omega)]at this
   have D:kq l path c = !(k' l path c):=by rw[S.out,n];rfl
   have K:Hid _:=D;clear n D
   go_wp2_with (go_at_call 230;go_must (refine(zN path c (P.out.ext (j.trans r)) (by omega)).mono ?_;rintro e w3 ⟨rfl,M⟩))
   go_ret;exact⟨an K.out.symm,j.trans (r.trans M)⟩
theorem gY (path:B8) (mode:Int) (v:Value) (data:B8) (w:World) (l:Env w) (n:IsBytes w v data) (u:path.length<=10000000) :
  Calls Tryz.prog 133 #[S8 path,.int .i64 mode,v] w fun e q=>e=.returned (.int .i64 (bA path mode data))/\Ext w q:=by
 obtain⟨a,c,rfl,x,y,z,-⟩:=n.get;have g:Hid _:=l;have o:bA path mode data=if aC path=false then 6 else if mode<1\/3<mode then 1 else if 20000<data.length then 3 else 0:=rfl
 have h:Hid _:=o;clear l n o;go_enter Tryz.func133,Tryz.ntmps133
 cases i:aC path with
 | false =>
  have d:Hid _:=i
  go_wp2_with (go_at_call 51;go_must (refine(dO path _ g.out (by omega)).mono ?_;rintro e j ⟨rfl,b⟩))
  go_ret;exact⟨iz (by rw[h.out,if_pos d.out]),b⟩
 | true =>
  have d:Hid _:=i
  by_cases r:mode<1
  .go_wp2_with (go_at_call 51;go_must (refine(dO path _ g.out (by omega)).mono ?_;rintro e j ⟨rfl,b⟩))
   go_ret;exact⟨iz (by rw[h.out,if_neg (by simp[d.out]),if_pos (by omega)]),b⟩
  .by_cases t:3<mode
   .go_wp2_with (go_at_call 51;go_must (refine(dO path _ g.out (by omega)).mono ?_;rintro e j ⟨rfl,b⟩))
    go_ret;exact⟨iz (by rw[h.out,if_neg (by simp[d.out]),if_pos (by omega)]),b⟩
   .by_cases p:20000<data.length
    .have k:(20000:Int)<(data.length:Int):=by omega
     go_wp2_with (go_at_call 51;go_must (refine(dO path _ g.out (by omega)).mono ?_;rintro e j ⟨rfl,b⟩))
     go_ret;exact⟨iz (by rw[h.out,if_neg (by simp[d.out]),if_neg (by omega),if_pos p]),b⟩
    .have k:¬(20000:Int)<(data.length:Int):=by omega
     go_wp2_with (go_at_call 51;go_must (refine(dO path _ g.out (by omega)).mono ?_;rintro e j ⟨rfl,b⟩))
     go_ret;exact⟨iz (by rw[h.out,if_neg (by simp[d.out]),if_neg (by omega),if_neg p]),b⟩
end
section
open Go Go.RowKit
theorem zO:(Tryz.prog.info? 194).map (fun i=>(i.zero,i.size,i.bytes))=some (some (.agg #[S8 [],S8 [],.bool false,.int .i64 0,.slice none 0 0,.int .i64 0]),6,80):=by kernel_rfl
theorem eT:(Tryz.prog.info? 3).map (·.size)=some 1:=by kernel_rfl
theorem fg:(Tryz.prog.info? 37).map (·.size)=some 1:=by kernel_rfl
theorem eK:(Tryz.prog.info? 72).map (·.size)=some 1:=by kernel_rfl
theorem mG:(Tryz.prog.info? 42).map (·.size)=some 1:=by kernel_rfl
theorem fH:(Tryz.prog.info? 71).map (·.size)=some 1:=by kernel_rfl
theorem dW:(Tryz.prog.info? 4).map (·.size)=some 1:=by kernel_rfl
theorem dN:(Tryz.prog.info? 56).map (·.size)=some 3:=by kernel_rfl
section
variable {ops:Array Oper} {rest:List Oper} {o:Oper} {a:Act} {Q:Exit->Act->World->Prop} {w:World}
theorem u9 (q:o.guard=none) (s x:Operand) (B:o.op=.call { callee:=.builtin .append,args:=#[s,x],argTypes:=#[72,72] })
  (d:Nat) (v:Value) (n:Nat) (xs:List Value) (C:a.eval s=v) (i:w.ownsRow d 194 6 v n xs)
  (g c:Nat) (b:List Value) (D:a.eval x=.slice (some ⟨g,0,none⟩) 1 c) (E:b.length=6) {fr:Nat×Nat} (F:w.heap[g]? = some (.cells b.toArray 194 fr)) (r:b.all (·.oneCell')=true)
  (K:n<=100000000) (e:d<=w.heap.size)
  (h:∀j l,l.ownsRow d 194 6 j (n+1) (xs++b)->w.grownBy l v.ownBlock->(∀k,j.ownBlock=some k->v.ownBlock=some k\/w.heap.size<=k)->wpList Tryz.prog ops Q rest (a.put o.dst j) l):wpList Tryz.prog ops Q (o::rest) a w:=by
 obtain⟨G,H,t,y,z⟩:=info_parts zO;exact wpList_append_own_at w q s x _ B d _ G _ 6 80 Tryz.underlying72 H t y z rfl (by omega) v n xs C i ⟨g,0,none⟩ 1 c b D (by simpa using E) (by simpa using cP F) (fun u I=>List.all_eq_true.1 r u I) (by unfold maxLen;omega) (by omega) e
  (fun j l r J _ p=>h j l r J (fun k A=>by
   rcases p with p | p
   .exact .inl (p.symm.trans A)
   .rw [p]at A;simp only[Option.some.injEq]at A;exact .inr (by omega)))
end
theorem OwnL.app {α:Type} {w':World} {t:TypeId} {a:Nat} {p q:List Value->α->Prop} {v':Value} {xs:List α} {b:List (List Value)} {c:List Value} {x:α} (e:Each p b xs)
  (g:w'.ownsRow 0 t a v' (xs.length+1) (b.flatten++c)) (d:∀c x,p c x->q c x) (h:q c x):OwnL w' t a q v' (xs++[x]) :=
 ⟨b++[c],by rw[List.flatten_append];simpa using g,(e.imp d).snoc h⟩
variable {w:World} {p:Value} {m:Fs}
theorem mH {S O R:Nat->Prop} (q:B8) (f:Fi) (sv:Value) (h:IsFs S O R w p m) (i:q.length<=10000000) (hd:IsData R w sv f.data) (hl:m.now.length<=10000000) (cx:m.pend.length<=10000000) (ht:m.time<=10000000) :
  Calls Tryz.prog 189 #[p,.agg #[S8 q,S8 [],.bool true,.int .i64 f.mode,sv,.int .i64 f.time]] w fun e W=>e=.returned (.tuple #[])/\IsFs S (Nw O w W) (Nw R w W) W p (does m (.put q f))/\Fr O w W:=by
 obtain⟨g,gm,gd,vp,vl,vu,L,c0,rfl,hg,hO,hP,X,b8⟩:=h;obtain⟨E,F,rfl,-⟩:=hd.bytes;have P:Ext w (w.alloc (.cells #[S8 q,S8 [],.bool true,.int .i64 f.mode,.slice E f.data.length F,.int .i64 f.time] 194)):=(Ext.refl w).alloc _;have Q:=Ext.row P hg;have Y:=ab w (.cells #[S8 q,S8 [],.bool true,.int .i64 f.mode,.slice E f.data.length F,.int .i64 f.time] 194);have c8:=(Array.getElem?_eq_some_iff.1 hg).1;obtain⟨d0,d1,d2,d3,d4,d5,d6,d7,d8⟩:=ah Q;have H:w.heap.size≠g:=by omega
 have HD:Hid _:=hd;have b':Hid _:=P;have HP:Hid _:=hP;have HG:Hid _:=hg;have ca:Hid _:=Q;have cb:Hid _:=Y;clear hd P hP hg Q Y;go_enter Tryz.func189,Tryz.ntmps189
 go_wp2_with (first
  | (refine af rfl 3 (.tmp 10) (.tmp 8) rfl g 7 rfl (.int .i64 ((m.time:Int)+1)) rfl rfl _ _ ca.out (Nat.le_of_ble_eq_true rfl) eT (aZ m.room gm gd vp vl m.calls vu (m.time+1) m.down) (by simp) ?_;intro w2 Z I;obtain⟨a0,a1,a2,a3,a4,a5,a6,a7,a8⟩:=ah Z;have ad:=aS I cb.out H;obtain⟨b0,b1,b2,b3,b4,b5⟩:=cj ad;clear d0 d1 d2 d3 d4 d5 d6 d7 d8)
  | (refine af rfl 3 (.tmp 18) (.tmp 16) rfl w.heap.size 5 rfl (.int .i64 ((m.time+1:Nat):Int)) rfl rfl _ _ ad (Nat.le_of_ble_eq_true rfl) eT #[S8 q,S8 [],.bool true,.int .i64 f.mode,.slice E f.data.length F,.int .i64 ((m.time+1:Nat):Int)] (by simp) ?_;intro w3 au J;have a9:=aS J Z (Ne.symm H);obtain⟨e0,e1,e2,e3,e4,e5,e6,e7,e8⟩:=ah a9;obtain⟨f0,f1,f2,f3,f4,f5⟩:=cj au;clear a0 a1 a2 a3 a4 a5 a6 a7 a8 b0 b1 b2 b3 b4 b5))
 go_frame
 apply aj 5 [_,_,_,_,.agg #[S8 q,S8 [],.bool true,.int .i64 f.mode,.slice E f.data.length F,.int .i64 ((m.time+1:Nat):Int)]] [none,none,none,none,none] [[],[0],[1],[2],[]] (by kernel_rfl) (by kernel_rfl) (by simp[ak])
 .trivial
 .simp (maxSteps:=1000000)only[List.take_succ_cons,List.take_zero,aw,aA,aa,Act.put,List.setIfInBounds_toArray,List.set_cons_zero,List.set_cons_succ,aK,aO,ak,List.getD_cons_zero,List.getD_cons_succ,and_true,true_and,forall_const];and_intros
  iterate 5 · intro xs wq i;intros;rename_i hR;have c1:=i.cell e1;have c2:=i.cell f0;have c3:=i.cell f1;have c4:=i.cell f2;have c5:=i.cell f3;have c6:=i.cell f4;have c7:=i.cell f5;go_simp;exact hR _ _ (Ext.refl _) rfl
 intro xs w4 r d;simp only[aP,Nat.zero_add,Nat.reduceAdd,and_true]at d;simp(maxSteps:=1000000)only[List.take_succ_cons,List.take_zero,List.drop_succ_cons,List.drop_zero,aa,Act.put,List.setIfInBounds_toArray,List.set_cons_zero,List.set_cons_succ,Nat.zero_add,Nat.reduceAdd,d];clear d;have T:=(dT b'.out I).andThen J (fun j hj=>.inl (by cases hj;exact Nat.le_refl _));have a':=(HP.out.own HG.out T).ext r;have bb:=dU T r;have bd:=Ext.row r a9;have bh:=Ext.row r au;have bk:IsData R w4 (.slice E f.data.length F) f.data:=HD.out.BQ (cg bb (by rintro k d;simp at d;subst d;exact ao HG.out (by kernel_rfl)));have c9:=r.size;have t:Hid _:=a';have bl:Hid _:=bk;clear a' bk e0 e1 e2 e3 e4 e5 e6 e7 e8 f0 f1 f2 f3 f4 f5
 go_wp2_with (go_at_call 160;go_must (refine(qu q { f with time:=((m.time+1:Nat):Int) } (.slice E f.data.length F) t.out.now i bl.out (by omega)).mono ?_;rintro e w5 ⟨rfl,cc,y⟩;have bo:=cy bd (by exact(t.out.now.kind).choose_spec.choose_spec) (by simp);have bq:=cy bh (by exact(t.out.now.kind).choose_spec.choose_spec) (by simp);have K:=aS y bd bo;have br:=aS y bh bq;obtain⟨e0,e1,e2,e3,e4,e5,e6,e7,e8⟩:=ah K;obtain⟨f0,f1,f2,f3,f4,f5⟩:=cj br))
 have bs:=t.out.CV y cc;have ce:w.grownBy w5 none\/True:=.inr trivial;have bt:Hid _:=bs;obtain⟨c',n,o⟩:=bt.out.pend;obtain⟨pa,pc,rfl,-⟩:=Row.BM n (by omega);have cl:Hid _:=o;have bx:Fr O w w5:=((Fr.refl O w).step T (fun k d=>by cases d;exact .inl hO) (by rintro k d;cases d;exact ao HG.out (by kernel_rfl))).ext r |>.step y (fun k d=>by cases d;exact .inl HP.out.om) (by rintro k d;cases d;exact t.out.now.Cb);clear bs ce o;apply cE 7 0 (.pointer (some ⟨g,0,none⟩)) [.pointer (some ⟨g,0,none⟩),_,_,_,_,.agg #[S8 q,S8 [],.bool true,.int .i64 f.mode,.slice E f.data.length F,.int .i64 ((m.time:Int)+1)],undef] [none,none,none,none,none,none,some (fun u W=>∃k,u=.slice (some ⟨k,0,none⟩) 1 1/\W.heap[k]? = some (.cells #[S8 q,S8 [],.bool true,.int .i64 f.mode,.slice E f.data.length F,.int .i64 ((m.time:Int)+1)] 194 (0,0)))] [[],[],[1],[2],[3],[],[5]] (by kernel_rfl) (by kernel_rfl) (by simp[ak])
 .refine ⟨?_,trivial⟩
  .exact fun _ _ _ he ⟨k,h1,h3⟩=>⟨k,h1,he.row h3⟩
 .exact ⟨_,rfl,rfl,fun w=>by go_simp⟩
 .exact fun _=>rfl
 .simp (maxSteps:=1000000)only[List.take_succ_cons,List.take_zero,aw,aA,aa,Act.put,List.setIfInBounds_toArray,List.set_cons_zero,List.set_cons_succ,aK,aO,ak,List.getD_cons_zero,List.getD_cons_succ,and_true,true_and,forall_const];and_intros
  iterate 6 · intro xs wq i;intros;rename_i hR;have c1:=i.cell e3;have c2:=i.cell f0;have c3:=i.cell f1;have c4:=i.cell f2;have c5:=i.cell f3;have c6:=i.cell f4;have c7:=i.cell f5;go_simp;exact hR _ _ (Ext.refl _) rfl
  .intro xs wq i d R hR;go_simp;exact hR _ _ ((Ext.refl _).alloc _) ⟨_,rfl,ab _ _⟩
 intro xs w6 z d;simp only[aP,Nat.zero_add,Nat.reduceAdd,and_true]at d;have q6:=d.2.2.2.2.2.2;simp(maxSteps:=1000000)only[List.take_succ_cons,List.take_zero,List.drop_succ_cons,List.drop_zero,aa,Act.put,List.setIfInBounds_toArray,List.set_cons_zero,List.set_cons_succ,Nat.zero_add,Nat.reduceAdd,d];clear d;generalize xs 6=x6 at *;obtain⟨k6,rfl,cm⟩:=q6;have U:=al n z;have A:=Ext.row z K;have bS:=bt.out.ext z;have B:Hid _:=bS;clear n bS e0 e1 e2 e3 e4 e5 e6 e7 e8 f0 f1 f2 f3 f4 f5
 go_wp2_with (first
  | (at_builtin;go_must (refine u9 rfl _ _ rfl 0 _ m.pend.length _ rfl U k6 1 _ rfl rfl cm (by simp[Value.oneCell']) (by omega) (Nat.zero_le _) ?_;intro v7 M C l b6;obtain⟨va,vc,rfl⟩:=dw C (by omega);have D:M.heap[g]? = _:=(l.block g (Array.getElem?_eq_some_iff.1 A).1 (fun cn=>by obtain⟨co,cp,G⟩:=B.out.pend.typed g cn.symm;rw[A]at G;simp at G)).trans A))
  | (refine af rfl 72 (.tmp 34) (.tmp 32) rfl g 3 rfl (.slice (some ⟨va,0,none⟩) (m.pend.length+1) vc) rfl rfl _ _ D (Nat.le_of_ble_eq_true rfl) eK (aZ m.room gm gd (.slice (some ⟨va,0,none⟩) (m.pend.length+1) vc) vl m.calls vu (m.time+1) m.down) (by simp) ?_;intro w8 cq N))
 refine NoP.intro ?_
 go_end0
 have da:w.heap.size<=w6.heap.size:=by have:=bb.size;have:=y.size;have:=z.size;omega
 have V:∀k,Value.ownBlock (.slice pa m.pend.length pc)=some k->¬IsU8 w6 k:=fun k d=>by
  obtain⟨co,cp,G⟩:=B.out.pend.typed k d;exact ao G (by kernel_rfl)
 have dc:KeepR (On R w.heap.size) w6 M:=cg l V;have b7:KeepR R w5 M:=by
  have a:=KeepR.BS (R:=R) (KeepB.BO z);have b:KeepR R w6 M:=cg l V;exact KeepR.trans a b
 have cs:IsData R M (.slice E f.data.length F) f.data:=(bl.out.BQ (dG y t.out.now.Cb)).BQ b7;have ct:IsCh (On R w.heap.size) M [S8 q,S8 [],.bool true,.int .i64 f.mode,.slice E f.data.length F,.int .i64 ((m.time:Int)+1)] (.put q { f with time:=((m.time+1:Nat):Int) }) :=
  ⟨i,_,rfl,cs.mono (fun k d=>.inl d)⟩
 have cu:OwnL M 194 6 (IsCh (On R w.heap.size) M) (.slice (some ⟨va,0,none⟩) (m.pend.length+1) vc) (m.pend++[.put q { f with time:=((m.time+1:Nat):Int) }]) :=
  OwnL.app cl.out C (fun c x hx=>(hx.BQ b7).mono (fun k d=>.inl d)) ct
 have cv:=(B.out.mono (O':=On O w.heap.size) (R':=On R w.heap.size) (fun k d=>.inl d) (fun k d=>.inl d)).Ct l cu (fun k d=>by
  rcases b6 k d with h1 | h1
  .exact .inl (B.out.op k h1)
  .exact .inr (by omega))
 refine⟨rfl,IsFs.fit ⟨g,gm,gd,_,vl,vu,L,c0,rfl,cq,.inl hO,cv.own D N,X,b8⟩,?_⟩;exact((bx.ext z).step l (fun k d=>.inl (B.out.op k d)) V).step N (fun k d=>by cases d;exact .inl hO) (by rintro k d;cases d;exact ao D (by kernel_rfl))
theorem kt {S O R:Nat->Prop} (x y:B8) (c:Ch) (h:IsFs S O R w p m) (hc:∀R w,IsCh R w [S8 x,S8 y,.bool false,.int .i64 0,.slice none 0 0,.int .i64 0] c) (U:∀t,c.at t=c) (V:∀s d,c=.mv s d->(ax m.now s).isSome=true) (hl:m.now.length<=10000000) (cu:m.pend.length<=10000000) (ht:m.time<=10000000) :
  Calls Tryz.prog 189 #[p,.agg #[S8 x,S8 y,.bool false,.int .i64 0,.slice none 0 0,.int .i64 0]] w fun e T=>e=.returned (.tuple #[])/\IsFs S (Nw O w T) (Nw R w T) T p (does m c)/\Fr O w T:=by
 obtain⟨g,gm,gd,vp,vl,vu,L,c0,rfl,hg,hO,hP,W,bs⟩:=h;have J:Ext w (w.alloc (.cells #[S8 x,S8 y,.bool false,.int .i64 0,.slice none 0 0,.int .i64 0] 194)):=(Ext.refl w).alloc _;have K:=Ext.row J hg;have X:=ab w (.cells #[S8 x,S8 y,.bool false,.int .i64 0,.slice none 0 0,.int .i64 0] 194);have cv:=(Array.getElem?_eq_some_iff.1 hg).1;obtain⟨d0,d1,d2,d3,d4,d5,d6,d7,d8⟩:=ah K;have Y:w.heap.size≠g:=by omega
 have HC:Hid _:=hc;have bt:Hid _:=U;have bx:Hid _:=V;have bS:Hid _:=J;have HP:Hid _:=hP;have HG:Hid _:=hg;have b6:Hid _:=K;have b7:Hid _:=X;clear hc U V J hP hg K X;go_enter Tryz.func189,Tryz.ntmps189
 go_wp2_with ((refine af rfl 3 (.tmp 10) (.tmp 8) rfl g 7 rfl (.int .i64 ((m.time:Int)+1)) rfl rfl _ _ b6.out (Nat.le_of_ble_eq_true rfl) eT (aZ m.room gm gd vp vl m.calls vu (m.time+1) m.down) (by simp) ?_;intro w2 Z G;obtain⟨a0,a1,a2,a3,a4,a5,a6,a7,a8⟩:=ah Z;have ad:=aS G b7.out Y;obtain⟨b0,b1,b2,b3,b4,b5⟩:=cj ad;clear d0 d1 d2 d3 d4 d5 d6 d7 d8))
 apply aj 5 [_,_,_,_,.agg #[S8 x,S8 y,.bool false,.int .i64 0,.slice none 0 0,.int .i64 0]] [none,none,none,none,none] [[],[0],[1],[2],[]] (by kernel_rfl) (by kernel_rfl) (by simp[ak])
 .trivial
 .simp (maxSteps:=1000000)only[List.take_succ_cons,List.take_zero,aw,aA,aa,Act.put,List.setIfInBounds_toArray,List.set_cons_zero,List.set_cons_succ,aK,aO,ak,List.getD_cons_zero,List.getD_cons_succ,and_true,true_and,forall_const];and_intros
  iterate 5 · intro xs wq l;intros;rename_i hR;have c1:=l.cell a1;have c2:=l.cell b0;have c3:=l.cell b1;have c4:=l.cell b2;have c5:=l.cell b3;have c6:=l.cell b4;have c7:=l.cell b5;go_simp;exact hR _ _ (Ext.refl _) rfl
 intro xs w4 q i;simp only[aP,Nat.zero_add,Nat.reduceAdd,and_true]at i;simp(maxSteps:=1000000)only[List.take_succ_cons,List.take_zero,List.drop_succ_cons,List.drop_zero,aa,Act.put,List.setIfInBounds_toArray,List.set_cons_zero,List.set_cons_succ,Nat.zero_add,Nat.reduceAdd,i];clear i;have M:=dT bS.out G;have au:=(HP.out.own HG.out M).ext q;have b8:=dU M q;have a9:=Ext.row q Z;have a':=Ext.row q ad;have cx:=q.size;have z:Hid _:=au;clear au a0 a1 a2 a3 a4 a5 a6 a7 a8 b0 b1 b2 b3 b4 b5
 go_wp2_with (go_at_call 160;go_must (refine(mD c [S8 x,S8 y,.bool false,.int .i64 0,.slice none 0 0,.int .i64 0] z.out.now (HC.out _ _) bx.out (by omega)).mono ?_;rintro e w5 ⟨rfl,b',A⟩;have bb:=cy a9 (by exact(z.out.now.kind).choose_spec.choose_spec) (by simp);have bd:=cy a' (by exact(z.out.now.kind).choose_spec.choose_spec) (by simp);have H:=aS A a9 bb;have bh:=aS A a' bd;obtain⟨e0,e1,e2,e3,e4,e5,e6,e7,e8⟩:=ah H;obtain⟨f0,f1,f2,f3,f4,f5⟩:=cj bh))
 have bk:=z.out.CV A b';have ca:w.grownBy w5 none\/True:=.inr trivial;have bl:Hid _:=bk;obtain⟨c8,n,o⟩:=bl.out.pend;obtain⟨pa,pc,rfl,-⟩:=Row.BM n (by omega);have cb:Hid _:=o;have bo:Fr O w w5:=((Fr.refl O w).step M (fun k i=>by cases i;exact .inl hO) (by rintro k i;cases i;exact ao HG.out (by kernel_rfl))).ext q |>.step A (fun k i=>by cases i;exact .inl HP.out.om) (by rintro k i;cases i;exact z.out.now.Cb);clear bk ca o;apply cE 7 0 (.pointer (some ⟨g,0,none⟩)) [.pointer (some ⟨g,0,none⟩),_,_,_,_,.agg #[S8 x,S8 y,.bool false,.int .i64 0,.slice none 0 0,.int .i64 0],undef] [none,none,none,none,none,none,some (fun u T=>∃k,u=.slice (some ⟨k,0,none⟩) 1 1/\T.heap[k]? = some (.cells #[S8 x,S8 y,.bool false,.int .i64 0,.slice none 0 0,.int .i64 0] 194 (0,0)))] [[],[],[1],[2],[3],[],[5]] (by kernel_rfl) (by kernel_rfl) (by simp[ak])
 .refine ⟨?_,trivial⟩
  .exact fun _ _ _ he ⟨k,h1,h3⟩=>⟨k,h1,he.row h3⟩
 .exact ⟨_,rfl,rfl,fun w=>by go_simp⟩
 .exact fun _=>rfl
 .simp (maxSteps:=1000000)only[List.take_succ_cons,List.take_zero,aw,aA,aa,Act.put,List.setIfInBounds_toArray,List.set_cons_zero,List.set_cons_succ,aK,aO,ak,List.getD_cons_zero,List.getD_cons_succ,and_true,true_and,forall_const];and_intros
  iterate 6 · intro xs wq l;intros;rename_i hR;have c1:=l.cell e3;have c2:=l.cell f0;have c3:=l.cell f1;have c4:=l.cell f2;have c5:=l.cell f3;have c6:=l.cell f4;have c7:=l.cell f5;go_simp;exact hR _ _ (Ext.refl _) rfl
  .intro xs wq l i R hR;go_simp;exact hR _ _ ((Ext.refl _).alloc _) ⟨_,rfl,ab _ _⟩
 intro xs w6 r i;simp only[aP,Nat.zero_add,Nat.reduceAdd,and_true]at i;have q6:=i.2.2.2.2.2.2;simp(maxSteps:=1000000)only[List.take_succ_cons,List.take_zero,List.drop_succ_cons,List.drop_zero,aa,Act.put,List.setIfInBounds_toArray,List.set_cons_zero,List.set_cons_succ,Nat.zero_add,Nat.reduceAdd,i];clear i;generalize xs 6=x6 at *;obtain⟨k6,rfl,cc⟩:=q6;have N:=al n r;have B:=Ext.row r H;have bq:=bl.out.ext r;have C:Hid _:=bq;clear n bq e0 e1 e2 e3 e4 e5 e6 e7 e8 f0 f1 f2 f3 f4 f5
 go_wp2_with (first
  | (at_builtin;go_must (refine u9 rfl _ _ rfl 0 _ m.pend.length _ rfl N k6 1 _ rfl rfl cc (by simp[Value.oneCell']) (by omega) (Nat.zero_le _) ?_;intro v7 P D j br;obtain⟨va,vc,rfl⟩:=dw D (by omega);have E:P.heap[g]? = _:=(j.block g (Array.getElem?_eq_some_iff.1 B).1 (fun ce=>by obtain⟨cl,cm,F⟩:=C.out.pend.typed g ce.symm;rw[B]at F;simp at F)).trans B))
  | (refine af rfl 72 (.tmp 34) (.tmp 32) rfl g 3 rfl (.slice (some ⟨va,0,none⟩) (m.pend.length+1) vc) rfl rfl _ _ E (Nat.le_of_ble_eq_true rfl) eK (aZ m.room gm gd (.slice (some ⟨va,0,none⟩) (m.pend.length+1) vc) vl m.calls vu (m.time+1) m.down) (by simp) ?_;intro w8 cn I))
 refine NoP.intro ?_
 go_end0
 have c9:w.heap.size<=w6.heap.size:=by have:=b8.size;have:=A.size;have:=r.size;omega
 have Q:∀k,Value.ownBlock (.slice pa m.pend.length pc)=some k->¬IsU8 w6 k:=fun k i=>by
  obtain⟨cl,cm,F⟩:=C.out.pend.typed k i;exact ao F (by kernel_rfl)
 have c':KeepR (On R w.heap.size) w6 P:=cg j Q;have co:KeepR R w5 P:=by
  have a:=KeepR.BS (R:=R) (KeepB.BO r);have b:KeepR R w6 P:=cg j Q;exact KeepR.trans a b
 have cp:=HC.out (On R w.heap.size) P;have cq:OwnL P 194 6 (IsCh (On R w.heap.size) P) (.slice (some ⟨va,0,none⟩) (m.pend.length+1) vc) (m.pend++[c]) :=
  OwnL.app cb.out D (fun c x hx=>(hx.BQ co).mono (fun k i=>.inl i)) cp
 have cs:=(C.out.mono (O':=On O w.heap.size) (R':=On R w.heap.size) (fun k i=>.inl i) (fun k i=>.inl i)).Ct j cq (fun k i=>by
  rcases br k i with h1 | h1
  .exact .inl (C.out.op k h1)
  .exact .inr (by omega))
 have ct:does m c={ m with time:=m.time+1,now:=ap m.now c,pend:=m.pend++[c] }:=by unfold does;rw[bt.out]
 refine⟨rfl,?_,?_⟩
 .rw [ct];exact IsFs.fit ⟨g,gm,gd,_,vl,vu,L,c0,rfl,cn,.inl hO,cs.own E I,W,bs⟩
 exact((bo.ext r).step j (fun k i=>.inl (C.out.op k i)) Q).step I (fun k i=>by cases i;exact .inl hO) (by rintro k i;cases i;exact ao E (by kernel_rfl))
theorem qw {S O R:Nat->Prop} (c:Ch) (cs:List Value) (h:IsFs S O R w p m) (j:IsCh R w cs c) (b:∀s d,c=.mv s d->(ax m.now s).isSome=true) (k:m.now.length<=10000000) (a:m.pend.length<=10000000) (l:m.time<=10000000) :
  Calls Tryz.prog 189 #[p,.agg cs.toArray] w fun e i=>e=.returned (.tuple #[])/\IsFs S (Nw O w i) (Nw R w i) i p (does m c)/\Fr O w i:=by
 cases c with
 | put q f =>
  obtain⟨g,v,rfl,n⟩:=j;exact mH q f v h g n k a l
 | mv s d =>
  obtain⟨g,n,o,rfl⟩:=j;exact kt d s (.mv s d) h (fun _ _=>⟨g,n,o,rfl⟩) (fun _=>rfl) b k a l
 | del q =>
  obtain⟨g,rfl⟩:=j;exact kt q [] (.del q) h (fun _ _=>⟨g,rfl⟩) (fun _=>rfl) b k a l
end
section
open Go Go.RowKit
structure FsPost (S O R:Nat->Prop) (w:World) (p:Value) (m:Fs) (w':World):Prop where
 fs:IsFs S (Nw O w w') (Nw R w w') w' p m
 fr:Fr O w w'
variable {w wx w':World} {p:Value} {m:Fs}
theorem FsPost.BO {S O R:Nat->Prop} (b:Ext w wx) (h:FsPost S O (Nw R w wx) wx p m w'):FsPost S O R w p m w':=by
 refine⟨h.fs.mono (fun k a=>?_) (fun k a=>a.nw b.size h.fr.size),(Fr.BO b).trans (h.fr.mono fun k a=>.inl a)⟩;rcases a with a | a
 .exact .inl a
 .exact .inr ⟨Nat.le_trans b.size a.1,a.2⟩
variable {w1:World}
theorem FsPost.trans {S O R:Nat->Prop} {m1:Fs} (a:FsPost S O R w p m1 w1) (h:FsPost S (Nw O w w1) (Nw R w w1) w1 p m w'):FsPost S O R w p m w' :=
 ⟨h.fs.mono (fun k b=>b.nw a.fr.size h.fr.size) (fun k b=>b.nw a.fr.size h.fr.size),a.fr.trans h.fr⟩
theorem FsPost.same {S O R:Nat->Prop} (h:IsFs S O R w p m) (b:Ext w w'):FsPost S O R w p m w' :=
 ⟨(h.ext b).mono (fun k a=>.inl a) (fun k a=>.inl a),Fr.BO b⟩
theorem FsPost.ext {S O R:Nat->Prop} (h:FsPost S O R w p m w1) (a:Ext w1 w'):FsPost S O R w p m w' :=
 h.trans (FsPost.same h.fs a)
theorem FsPost.pre {S O R:Nat->Prop} (b:Ext w wx) (h:FsPost S O R wx p m w'):FsPost S O R w p m w':=FsPost.BO b ⟨h.fs.mono (fun k a=>a) (fun k a=>a.imp .inl id),h.fr⟩
def mI:Ch->Prop
 | .put p f=>aC p=true/\f.data.length<=20000
 | .mv s d=>aC s=true/\aC d=true/\s≠d
 | .del p=>aC p=true
structure OkM (m:Fs):Prop where
 BY:m.now.length<=m.time
 CR:m.sure.length<=m.time
 Ca:m.pend.length<=m.time
 C9:m.sure.length+m.pend.length<=m.time
 B6:m.users.length<=m.time
 Cg:∀e∈m.now,aC e.1=true/\e.2.data.length<=20000
 CT:∀e∈m.sure,aC e.1=true/\e.2.data.length<=20000
 Cu:∀c∈m.pend,mI c
 fold:m.pend.foldl ap m.sure=m.now
 Dc:∀k s d,m.pend[k]? = some (.mv s d)->(ax ((m.pend.take k).foldl ap m.sure) s).isSome=true
theorem nu {p:B8} (h:aC p=true):p.length<=200:=by
 unfold aC at h;simp only[Bool.and_eq_true,decide_eq_true_eq]at h;exact h.1
theorem oz {p:B8} (h:aC p=true):p≠[]:=by
 rintro rfl
 revert h;decide
theorem zP {l:aq} {n:Nat} (h:l.length<=n) (a:∀e∈l,e.2.data.length<=20000):cw l<=20000*n:=by
 have:cw l<=20000*l.length:=by
  unfold cw
  induction l with
  | nil=>simp
  | cons e l b =>
   have d:=a e (by simp);have g:=b (by simp at h;omega) (fun e c=>a e (by simp[c]));simp only[List.map_cons,List.sum_cons,List.length_cons,Nat.mul_add];omega
 exact Nat.le_trans this (Nat.mul_le_mul_left _ h)
theorem gD {S O R:Nat->Prop} (path:B8) (mode:Int) (v:Value) (data:B8) (fits:Bool) (Z:Env w) (h:IsFs S O R w p m) (z:OkM m) (ht:m.time<=9000000) (hp:path.length<=1000) (N:IsBytes w v data) (au:data.length<=20000) (D:kq m.now path []=ei m.now path []) :
  Calls Tryz.prog 134 #[p,S8 path,.int .i64 mode,v,.bool fits] w fun e w'=>e=.returned (.int .i64 (bj m path mode data fits).2)/\FsPost S O R w p (bj m path mode data fits).1 w':=by
 have H:Hid _:=h;obtain⟨g,gm,gd,vp,vl,vu,L,c0,rfl,P,hO,Q,-,-⟩:=h;obtain⟨d0,d1,d2,d3,d4,d5,d6,d7,d8⟩:=ah P;obtain⟨a0,q,-,A,B⟩:=Q.now.B1 path (by omega);have a1:=(Array.getElem?_eq_some_iff.1 P).1;have ad:g≠w.heap.size:=by omega
 have T:Hid _:=Z;have HV:Hid _:=N;have U:Hid _:=Q.now;have a2:Hid _:=z;have V:Hid _:=D;have hl:=z.BY;have a3:=z.Ca;obtain⟨a,c,rfl,-⟩:=N.get;clear P Q Z N z D;have E:∀fits,bj m path mode data fits=if(ax m.now path).isNone/\ei m.now path []=false then(m,9)else if fits=false then(m,10)else(does m (.put path ⟨mode,data,0⟩),0):=fun _=>rfl
 have i:Hid _:=E;clear E;have I:∀(J l y:World) (va:Option Addr) (vc:Nat),Ext w J->IsData (Nu J l) l (.slice va data.length vc) data->Ext J l->(IsFs S (Nw O l y) (Nw (Nw R w l) l y) y (.pointer (some ⟨g,0,none⟩)) (does m (.put path ⟨mode,data,0⟩))/\Fr O l y)->FsPost S O R w (.pointer (some ⟨g,0,none⟩)) (does m (.put path ⟨mode,data,0⟩)) y:=fun J l y va vc h1 _ h2 h3=>FsPost.BO (h1.trans h2) ⟨h3.1,h3.2⟩
 have K:Hid _:=I;clear I
 cases b:ax m.now path with
 | some f =>
  have j:bj m path mode data false=(m,10)/\bj m path mode data true=(does m (.put path ⟨mode,data,0⟩),0):=by rw[i.out,i.out,b];simp
  have n:Hid _:=j;rw[b]at q;obtain⟨sv,rfl,M⟩:=A f b;obtain⟨s1,s2,rfl,-⟩:=M.bytes;simp only[Option.isSome_some]at q;clear A B M b j
  cases fits with
  | false =>
   go_enter Tryz.func134,Tryz.ntmps134;go_wp2;go_ret;rw[n.out.1];exact⟨rfl,FsPost.same H.out ((Ext.refl _).alloc _)⟩
  | true =>
   go_enter Tryz.func134,Tryz.ntmps134
   go_wp2_with (first
    | (go_at_call 54;go_must (refine(eB _ data _ (IsBytes.ext HV.out ((Ext.refl _).alloc _)) (by omega)).mono ?_;rintro e l ⟨⟨v2,rfl,o⟩,d⟩;obtain⟨W,X,rfl,-⟩:=id o.bytes;have x:Hid _:=o;clear o))
    | (go_at_call 189;go_must (refine(mH (R:=Nw R w l) path ⟨mode,data,0⟩ (.slice W data.length X) (IsFs.mono (IsFs.ext H.out (((Ext.refl _).alloc _).trans d)) (fun k t=>t) (fun k t=>.inl t)) (by omega) (x.out.mono (fun k t=>.inr ⟨Nat.le_trans (by simp) t.1,t.2⟩)) (by omega) (by omega) (by omega)).mono ?_;rintro e y ⟨rfl,F,G⟩)))
   go_ret;rw[n.out.2];exact⟨rfl,K.out _ l y _ _ ((Ext.refl _).alloc _) x.out d ⟨F,G⟩⟩
 | none =>
  rw[b]at q;obtain rfl:=B b;simp only[Option.isSome_none]at q
  cases u:ei m.now path []with
  | false =>
   have j:bj m path mode data fits=(m,9):=by rw[i.out,b,u];simp
   have n:Hid _:=j;have C:Hid _:=u;clear A B b j u;go_enter Tryz.func134,Tryz.ntmps134
   go_wp2_with (go_at_call 188;go_must (refine(lT path [] (T.out.ext ((Ext.refl _).alloc _)) (U.out.ext ((Ext.refl _).alloc _)) (by omega)).mono ?_;rw[V.out,C.out];rintro e l ⟨rfl,d⟩))
   go_ret;rw[n.out];exact⟨rfl,FsPost.same H.out (((Ext.refl _).alloc _).trans d)⟩
  | true =>
   have j:bj m path mode data false=(m,10)/\bj m path mode data true=(does m (.put path ⟨mode,data,0⟩),0):=by rw[i.out,i.out,b,u];simp
   have n:Hid _:=j;have C:Hid _:=u;clear A B b j u
   cases fits with
   | false =>
    go_enter Tryz.func134,Tryz.ntmps134
    go_wp2_with (go_at_call 188;go_must (refine(lT path [] (T.out.ext ((Ext.refl _).alloc _)) (U.out.ext ((Ext.refl _).alloc _)) (by omega)).mono ?_;rw[V.out,C.out];rintro e l ⟨rfl,d⟩))
    go_ret;rw[n.out.1];exact⟨rfl,FsPost.same H.out (((Ext.refl _).alloc _).trans d)⟩
   | true =>
    go_enter Tryz.func134,Tryz.ntmps134
    go_wp2_with (first
     | (go_at_call 188;go_must (refine(lT path [] (T.out.ext ((Ext.refl _).alloc _)) (U.out.ext ((Ext.refl _).alloc _)) (by omega)).mono ?_;rw[V.out,C.out];rintro e J ⟨rfl,Y⟩;have r:=((Ext.refl _).alloc _).trans Y))
     | (go_at_call 54;go_must (refine(eB _ data _ (IsBytes.ext HV.out r) (by omega)).mono ?_;rintro e l ⟨⟨v2,rfl,o⟩,d⟩;obtain⟨W,X,rfl,-⟩:=id o.bytes;have x:Hid _:=o;clear o))
     | (go_at_call 189;go_must (refine(mH (R:=Nw R w l) path ⟨mode,data,0⟩ (.slice W data.length X) (IsFs.mono (IsFs.ext H.out (r.trans d)) (fun k t=>t) (fun k t=>.inl t)) (by omega) (x.out.mono (fun k t=>.inr ⟨Nat.le_trans r.size t.1,t.2⟩)) (by omega) (by omega) (by omega)).mono ?_;rintro e y ⟨rfl,F,G⟩)))
    go_ret;rw[n.out.2];exact⟨rfl,K.out _ l y _ _ r x.out d ⟨F,G⟩⟩
end
section
open Go Go.RowKit
variable {w:World} {p:Value} {m:Fs}
theorem AJ {S O R:Nat->Prop} (h:IsFs S O R w p m) :
  Calls Tryz.prog 66 #[p] w fun e b=>e=.returned (.bool (!m.down))/\b=w:=by
 obtain⟨g,d,i,j,k,l,L,n,rfl,a,o,c,-,-⟩:=h;obtain⟨q,r,t,u,x,y,z,A,B⟩:=ah a;clear a c;go_enter Tryz.func66,Tryz.ntmps66;go_wp2;go_ret;exact⟨rfl,rfl⟩
theorem zQ {S O R:Nat->Prop} (h:IsFs S O R w p m) :
  Calls Tryz.prog 60 #[p] w fun e b=>e=.returned (.int .i64 m.time)/\b=w:=by
 obtain⟨g,d,i,j,k,l,L,n,rfl,a,o,c,-,-⟩:=h;obtain⟨q,r,t,u,x,y,z,A,B⟩:=ah a;clear a c;go_enter Tryz.func60,Tryz.ntmps60;go_wp2;go_ret;exact⟨rfl,rfl⟩
theorem rN {S O R:Nat->Prop} (h:IsFs S O R w p m) (b:OkM m) (k:m.time<=9000000) :
  Calls Tryz.prog 64 #[p] w fun e i=>e=.returned (.int .i64 m.pend.length)/\i=w:=by
 obtain⟨g,l,n,o,q,r,L,t,rfl,c,u,d,-,-⟩:=h;obtain⟨j,a,-⟩:=d.pend;have:=b.Ca;obtain⟨x,y,rfl,-⟩:=Row.BM a (by omega);obtain⟨z,A,B,C,D,E,F,G,H⟩:=ah c;clear c d a b;go_enter Tryz.func64,Tryz.ntmps64;go_wp2;go_ret;exact⟨rfl,rfl⟩
variable {g:Nat} {c:Int}
theorem xL (a:w.cell? ⟨g,5,none⟩=some (.int .i64 c)):(callFunc 184 #[.pointer (some ⟨g,5,none⟩)]).run Tryz.prog w=.ok (.value (.int .i64 c)) w :=
 run_call_load (P:=Tryz.prog) Tryz.func184 (by kernel_rfl) (by kernel_rfl) (by kernel_rfl) .i64 (by kernel_rfl) a
theorem xM (a:w.cell? ⟨g,5,none⟩=some (.int .i64 c)) :
  Calls Tryz.prog 126 #[.pointer (some ⟨g,5,none⟩)] w fun e b=>e=.returned (.int .i64 c)/\b=w:=by
 have d:=xL a;go_enter Tryz.func126,Tryz.ntmps126;go_wp2;go_ret;exact⟨rfl,rfl⟩
theorem ld {S O R:Nat->Prop} (h:IsFs S O R w p m) :
  Calls Tryz.prog 58 #[p] w fun e a=>e=.returned (.int .i64 m.calls)/\a=w:=by
 obtain⟨g,i,j,k,l,n,L,o,rfl,b,q,c,-,-⟩:=h;obtain⟨r,t,u,x,y,d,z,A,B⟩:=ah b;clear b c;go_enter Tryz.func58,Tryz.ntmps58
 go_wp2_with (go_at_call 126;go_must (refine(xM d).mono ?_;rintro e a ⟨rfl,rfl⟩))
 go_ret;exact⟨rfl,rfl⟩
theorem tR {S O R:Nat->Prop} (h:IsFs S O R w p m) :
  Calls Tryz.prog 12 #[p] w fun e y=>e=.returned (.tuple #[])/\FsPost S O R w p (fd m) y:=by
 obtain⟨g,n,o,q,r,t,L,z,rfl,d,u,x,c,i⟩:=h;have j:Hid _:=d;have A:Hid _:=x;obtain⟨B,C,D,E,F,G,H,I,J⟩:=ah d;clear d x;go_enter Tryz.func12,Tryz.ntmps12
 go_wp2_with (refine af rfl 4 (.tmp 4) _ rfl g 8 rfl (.bool false) rfl rfl _ _ j.out (Nat.le_of_ble_eq_true rfl) dW (aZ m.room n o q r m.calls t m.time false) (by simp) ?_;intro K l a)
 go_end0
 exact⟨rfl,⟨g,n,o,q,r,t,L,z,rfl,l,.inl u,(A.out.own j.out a).mono (fun k b=>.inl b) (fun k b=>.inl b),c,i⟩,(Fr.refl O w).step a (fun k b=>by cases b;exact .inl u) (by rintro k b;cases b;exact ao j.out (by kernel_rfl))⟩
theorem ku {S O R:Nat->Prop} (h:IsFs S O R w p m) (M:m.now.length<=10000000) :
  Calls Tryz.prog 158 #[p] w fun e E=>e=.returned (.tuple #[])/\FsPost S O R w p (settle m) E:=by
 obtain⟨g,o,N,F,r,t,L,G,rfl,u,x,y,l,z⟩:=h;have H:Hid _:=u;have D:Hid _:=y;obtain⟨P,Q,T,U,V,W,X,Y,Z⟩:=ah u;have I:=y.now.lt;clear u y;go_enter Tryz.func158,Tryz.ntmps158
 go_wp2_with (first
  | (go_at_call 161;go_must (refine(eI D.out.now (by omega)).mono ?_;rintro e J ⟨⟨n,rfl,A,B⟩,d⟩;have i:=Ext.row d H.out))
  | (refine af rfl 71 (.tmp 9) (.tmp 7) rfl g 2 rfl (.map (some n)) rfl rfl _ _ i (Nat.le_of_ble_eq_true rfl) fH (aZ m.room o n F r m.calls t m.time m.down) (by simp) ?_;intro w3 j b)
  | (refine af rfl 72 (.tmp 12) _ rfl g 3 rfl (.slice none 0 0) rfl rfl _ _ j (Nat.le_of_ble_eq_true rfl) eK (aZ m.room o n (.slice none 0 0) r m.calls t m.time m.down) (by simp) ?_;intro w4 C c))
 go_end0
 have K:Parts S (On O w.heap.size) (On R w.heap.size) J o n (.slice none 0 0) r t m.now m.now [] L m.users:=by
  have q:=(D.out.ext d).mono (O':=On O w.heap.size) (R':=On R w.heap.size) (fun k a=>.inl a) (fun k a=>.inl a);exact⟨by omega,q.om,.inr A,q.now,B.mono (fun k a=>.inl a),⟨[],World.ownsRow_nil _ _ _ _,Each.nil _⟩,Inn.nil _ _ _,q.plan,q.ol,q.users,q.ou,q.off⟩
 refine⟨rfl,IsFs.fit ⟨g,o,n,_,r,t,L,G,rfl,C,.inl x,(K.own i b).own j c,l,z⟩,?_⟩;exact(((Fr.refl O w).ext d).step b (fun k a=>by cases a;exact .inl x) (by rintro k a;cases a;exact ao i (by kernel_rfl))).step c (fun k a=>by cases a;exact .inl x) (by rintro k a;cases a;exact ao j (by kernel_rfl))
theorem jM {S O R:Nat->Prop} (path:B8) (F:Env w) (h:IsFs S O R w p m) (t:OkM m) (ht:m.time<=9000000) (hp:path.length<=1000) :
  Calls Tryz.prog 156 #[p,S8 path] w fun e M=>e=.returned (.int .i64 (aD m path).2)/\FsPost S O R w p (aD m path).1 M:=by
 have z:Hid (IsFs S O R w p m):=h;have A:Hid _:=F;have hl:=t.BY;have N:=t.Ca;have r:aD m path=if aC path=false then(m,6)else if(ax m.now path).isNone then(m,7)else(does m (.del path),0):=rfl
 have l:Hid _:=r;obtain⟨g,gm,gd,vp,vl,vu,L,c0,rfl,G,hO,H,-,-⟩:=h;have I:Hid _:=G;have J:Hid _:=H.now;clear G H F r t
 cases b:aC path with
 | false =>
  have c:aD m path=(m,6):=by rw[l.out,if_pos b]
  have n:Hid _:=c;have q:Hid _:=b;clear c b;go_enter Tryz.func156,Tryz.ntmps156
  go_wp2_with (go_at_call 51;go_must (refine(dO path _ A.out (by omega)).mono ?_;rw[q.out];rintro e K ⟨rfl,a⟩))
  go_ret;rw[n.out];exact⟨rfl,FsPost.same z.out a⟩
 | true =>
  have q:Hid _:=b
  cases j:ax m.now path with
  | none =>
   have c:aD m path=(m,7):=by rw[l.out,if_neg (by simp[b]),if_pos (by rw[j];rfl)]
   have n:Hid _:=c;have o:Hid _:=j;clear c j b;go_enter Tryz.func156,Tryz.ntmps156
   go_wp2_with (go_at_call 51;go_must (refine(dO path _ A.out (by omega)).mono ?_;rw[q.out];rintro e K ⟨rfl,a⟩;obtain⟨P,Q,T,U,V,W,X,Y,Z⟩:=ah (Ext.row a I.out);obtain⟨B,i,-,-,u⟩:=(J.out.ext a).B1 path (by omega);obtain rfl:=u o.out;rw[o.out]at i;simp only[Option.isSome_none]at i;clear u))
   go_ret;rw[n.out];exact⟨rfl,FsPost.same z.out (a.trans ((Ext.refl _).alloc _))⟩
  | some f =>
   have c:aD m path=(does m (.del path),0):=by rw[l.out,if_neg (by simp[b]),if_neg (by rw[j];simp)]
   have n:Hid _:=c;have o:Hid _:=j;clear c j b;go_enter Tryz.func156,Tryz.ntmps156
   go_wp2_with (first
    | (go_at_call 51;go_must (refine(dO path _ A.out (by omega)).mono ?_;rw[q.out];rintro e K ⟨rfl,a⟩;obtain⟨P,Q,T,U,V,W,X,Y,Z⟩:=ah (Ext.row a I.out);obtain⟨B,i,-,x,-⟩:=(J.out.ext a).B1 path (by omega);obtain⟨sv,rfl,y⟩:=x f o.out;obtain⟨s1,s2,rfl,-⟩:=y.bytes;rw[o.out]at i;simp only[Option.isSome_some]at i;clear x y))
    | (go_at_call 189;go_must (refine(kt (R:=R) path [] (.del path) (IsFs.ext z.out (a.trans ((Ext.refl _).alloc _))) (fun _ _=>⟨by omega,rfl⟩) (fun _=>rfl) (fun s d hh=>by cases hh) (by omega) (by omega) (by omega)).mono ?_;rintro e w3 ⟨rfl,C,D⟩)))
   go_ret;rw[n.out];exact⟨rfl,FsPost.BO (a.trans ((Ext.refl _).alloc _)) ⟨C.mono (fun k E=>E) (fun k E=>E.imp .inl id),D⟩⟩
end
section
open Go Go.RowKit
theorem sY:(Tryz.prog.info? 121).map (fun i=>(i.zero,i.size,i.bytes))=some (some (.agg #[.int .i64 0,.int .i64 0,.int .i64 0,.int .i64 0,.int .i64 0,S8 [],.slice none 0 0]),7,80):=by kernel_rfl
section
variable {ops:Array Oper} {rest:List Oper} {o:Oper} {a:Act} {Q:Exit->Act->World->Prop} {w:World}
theorem vf (q:o.guard=none) (s x:Operand) (B:o.op=.call { callee:=.builtin .append,args:=#[s,x],argTypes:=#[42,42] })
  (d:Nat) (v:Value) (n:Nat) (xs:List Value) (C:a.eval s=v) (i:w.ownsRow d 121 7 v n xs)
  (g c:Nat) (b:List Value) (D:a.eval x=.slice (some ⟨g,0,none⟩) 1 c) (E:b.length=7) {fr:Nat×Nat} (F:w.heap[g]? = some (.cells b.toArray 121 fr)) (r:b.all (·.oneCell')=true)
  (K:n<=100000000) (e:d<=w.heap.size)
  (h:∀j l,l.ownsRow d 121 7 j (n+1) (xs++b)->w.grownBy l v.ownBlock->(∀k,j.ownBlock=some k->v.ownBlock=some k\/w.heap.size<=k)->wpList Tryz.prog ops Q rest (a.put o.dst j) l):wpList Tryz.prog ops Q (o::rest) a w:=by
 obtain⟨G,H,t,y,z⟩:=info_parts sY;exact wpList_append_own_at w q s x _ B d _ G _ 7 80 Tryz.underlying42 H t y z rfl (by omega) v n xs C i ⟨g,0,none⟩ 1 c b D (by simpa using E) (by simpa using cP F) (fun u I=>List.all_eq_true.1 r u I) (by unfold maxLen;omega) (by omega) e
  (fun j l r J _ p=>h j l r J (fun k A=>by
   rcases p with p | p
   .exact .inl (p.symm.trans A)
   .rw [p]at A;simp only[Option.some.injEq]at A;exact .inr (by omega)))
end
theorem vg {m:Fs} {path:B8} {mode:Int} {data:B8} {fits:Bool}:(bj m path mode data fits).1.now.length<=m.now.length+1/\(bj m path mode data fits).1.users=m.users/\(bj m path mode data fits).1.calls=m.calls:=by
 unfold bj;split
 .exact ⟨by simp,rfl,rfl⟩
 .split
  .exact ⟨by simp,rfl,rfl⟩
  .refine ⟨?_,rfl,rfl⟩;simp only[does];exact dS _ _
theorem lf {m:Fs} {path:B8}:(aD m path).1.now.length<=m.now.length+1/\(aD m path).1.users=m.users/\(aD m path).1.calls=m.calls:=by
 unfold aD;split
 .exact ⟨by simp,rfl,rfl⟩
 .split
  .exact ⟨by simp,rfl,rfl⟩
  .refine ⟨?_,rfl,rfl⟩;simp only[does];exact dS _ _
variable {w:World} {m:Fs}
theorem ny {S O R:Nat->Prop} {i p G:World} {g H I J:Nat} {K M D:Value} {t j:aq} {l:List Ch} {L a:List Ev} {h:Nat} {E:Nat} {cs:List Value} {u:List (List Value)} {e:Ev}
  (F:Ext w i) (Y:O g) (r:Parts S O R i H I K M D t j l L a) (Z:Each (IsEvR R i) u a) (y:p.ownsRow 0 121 7 (.slice (some ⟨h,0,none⟩) (a.length+1) E) (a.length+1) (u.flatten++cs)) (d:i.grownBy p D.ownBlock)
  (z:∀k,Value.ownBlock (.slice (some ⟨h,0,none⟩) (a.length+1) E)=some k->D.ownBlock=some k\/i.heap.size<=k) {N:Array Value} (A:p.heap[g]? = some (.cells N 79 (0,0))) (n:p.grownBy G (some g))
  (hc:IsEvR (fun k=>w.heap.size<=k) i cs e)
  (P:G.heap[g]? = some (.cells (aZ m.room H I K M m.calls (.slice (some ⟨h,0,none⟩) (a.length+1) E) m.time m.down) 79 (0,0)))
  (o:m.now=t) (h2:m.sure=j) (h3:m.pend=l) (h4:m.users=a++[e]) (Q:m.plan=L.filter (fun e=>decide ((J:Int)<e.t))) (T:J<=m.calls/\L.length<=1000):FsPost S O R w (.pointer (some ⟨g,0,none⟩)) m G:=by
 have B:∀k,D.ownBlock=some k->¬IsU8 i k:=fun k b=>by
  obtain⟨U,V,q⟩:=r.users.typed k b;exact ao q (by kernel_rfl)
 have C:∀R:Nat->Prop,KeepR R i p:=fun R=>cg d B
 have W:OwnL p 121 7 (IsEvR (On R w.heap.size) p) (.slice (some ⟨h,0,none⟩) (a.length+1) E) (a++[e]) :=
  OwnL.app Z y (fun c x F=>(F.BQ (C _)).mono (fun k b=>.inl b)) ((hc.BQ (C _)).mono (fun k b=>.inr b))
 have X:=(r.mono (O':=On O w.heap.size) (R':=On R w.heap.size) (fun k b=>.inl b) (fun k b=>.inl b)).Cx d W (fun k b=>by
  rcases z k b with o | o
  .exact .inl (r.ou k o)
  .exact .inr (Nat.le_trans F.size o)) (fun k b=>by
  rcases z k b with o | o
  .exact r.off k o
  .intro hv;obtain⟨U,V,q⟩:=r.plan.typed k hv;have:=(Array.getElem?_eq_some_iff.1 q).1;omega)
 subst o h2 h3;refine⟨IsFs.fit ⟨g,H,I,K,M,_,L,J,rfl,P,.inl Y,?_,Q,T⟩,?_⟩
 .rw [h4];exact X.own A n
 .exact (((Fr.refl O w).ext F).step d (fun k b=>.inl (r.ou k b)) B).step n (fun k b=>by cases b;exact .inl Y) (by rintro k b;cases b;exact ao A (by kernel_rfl))
def Out (O:Nat->Prop) (w:World) (v:Value):Prop:=∀a n c,v=.slice (some a) n c->n≠0->¬O a.block\/IsU8 w a.block
variable {w':World} {v:Value} {l:B8}
theorem IsBytes.fr {O:Nat->Prop} (h:IsBytes w v l) (g:Out O w v) (j:Fr O w w'):IsBytes w' v l:=by
 obtain⟨a,d,rfl,k,n,p,q⟩:=h;refine⟨a,d,rfl,k,n,p,fun e=>?_⟩;have r:l.length≠0:=fun t=>e (by rw[List.eq_nil_of_length_eq_zero t];rfl)
 obtain⟨b,o,rfl,x⟩:=q e;refine⟨b,o,rfl,fun i u y=>?_⟩;have c:=x i u y;rw[World.cell?_of_block (w:=w) (w':=w') (a:=⟨b,o+i,none⟩) (j.block b (World.block_lt_of_cell? _ _ c) (g _ _ _ rfl r))];exact c
theorem IsData.out {O R:Nat->Prop} (h:IsData R w v l):Out O w v:=fun a n c b _=>.inr (h.typed a n c b)
theorem Env.fr {O:Nat->Prop} (h:Env w) (b:Fr O w w') (c:∀k,O k->k≠2):Env w':=by
 obtain⟨m,a⟩:=h;exact⟨m,by rw[World.cell?_of_block (w:=w) (w':=w') (b.block _ (World.block_lt_of_cell? _ _ a) (.inl (fun d=>c _ d rfl)))];exact a⟩
variable {p:Value}
theorem kQ {S O R:Nat->Prop} (path:B8) (mode:Int) (v:Value) (data:B8) (hE:Env w) (h:IsFs S O R w p m) (I:OkM m) (ht:m.time<=9000000) (hp:path.length<=1000) (hv:IsBytes w v data) (c3:data.length<=140737488355328) (P:aC path=true->kq m.now path []=ei m.now path []) (a0:Out O w v) :
  Calls Tryz.prog 103 #[p,S8 path,.int .i64 mode,v] w fun e w'=>e=.returned (.int .i64 (aM m path mode data).2)/\FsPost S O R w p (aM m path mode data).1 w':=by
 have HH:Hid (IsFs S O R w p m):=h;have HE:Hid _:=hE;have HV:Hid _:=hv;have a1:Hid _:=I;have HM:Hid _:=P;have hl:=I.BY;have c5:=I.B6;have Q:aM m path mode data=if m.down then(m,12)else if bA path mode data≠0 then(m,bA path mode data)
  else if(bj m path mode data true).2≠0 then bj m path mode data true
  else({ settle (bj m path mode data true).1 with users:=m.users++[⟨m.calls,4,mode,0,0,path,data⟩] },0):=rfl
 have q:Hid _:=Q;obtain⟨a,c,rfl,-⟩:=hv.get;obtain⟨g,gm,gd,vp,vl,vu,L,c0,rfl,hg,hO,hP,-,-⟩:=h;obtain⟨d0,d1,d2,d3,d4,d5,d6,d7,d8⟩:=ah hg;clear hg hP hE Q I hv P
 cases y:m.down with
 | true =>
  have d:aM m path mode data=(m,12):=by rw[q.out,y];rfl
  have j:Hid _:=d;rw[y]at d8;clear d y;go_enter Tryz.func103,Tryz.ntmps103;go_wp2;go_ret;rw[j.out];exact⟨rfl,FsPost.same HH.out (Ext.refl _)⟩
 | false =>
  rw[y]at d8;have W:Hid _:=y;clear y;obtain⟨e1,b⟩:∃e1,bA path mode data=e1:=⟨_,rfl⟩;have X:Hid _:=b
  by_cases hz:e1=0
  .subst hz;obtain⟨Y,T⟩:aC path=true/\data.length<=20000:=by
    unfold bA at b;split at b
    .cases b
    .rename_i h1;split at b
     .cases b
     .split at b
      .cases b
      .exact ⟨by simpa using h1,by omega⟩
   have a2:Hid _:=Y;obtain⟨A,e2,z⟩:∃A e2,bj m path mode data true=(A,e2):=⟨_,_,rfl⟩;have a3:Hid _:=z;have n:=@vg m path mode data true;rw[z]at n;simp only at n;have bq:Hid _:=n.2.1;have br:Hid _:=n.2.2;have c6:=n.1
   by_cases J:e2=0
   .subst J;have d:aM m path mode data=({ settle A with users:=m.users++[⟨m.calls,4,mode,0,0,path,data⟩] },0):=by rw[q.out,W.out,b,z];simp
    have j:Hid _:=d;clear d b z n Y;go_enter Tryz.func103,Tryz.ntmps103
    go_wp2_with (first
     | (go_at_call 133;go_must (refine(gY path mode _ data _ HE.out HV.out (by omega)).mono ?_;rw[X.out];rintro e w2 ⟨rfl,i⟩))
     | (go_at_call 134;go_must (refine(gD path mode _ data true (HE.out.ext i) (IsFs.ext HH.out i) a1.out ht hp (IsBytes.ext HV.out i) T (HM.out a2.out)).mono ?_;rw[a3.out];rintro e w3 ⟨rfl,B⟩;have K:Hid _:=B;clear B))
     | (go_at_call 158;go_must (refine(ku K.out.fs (by omega)).mono ?_;rintro e w4 ⟨rfl,a4⟩;have bs:Hid _:=a4;clear a4)))
    have P4:=FsPost.pre i (FsPost.trans K.out bs.out);have a5:Hid _:=P4;have a6:=IsBytes.fr HV.out a0 P4.fr;have bt:Hid _:=a6;obtain⟨g4,bx,bS,b',ca,c7,L4,c4,cb,Z,cc,M,U,ce⟩:=P4.fs;cases cb;obtain⟨b0,b1,b2,b3,b4,b5,b6,b7,b8⟩:=ah Z;have cl:(settle A).users=m.users:=bq.out;have cm:(settle A).calls=m.calls:=br.out;rw[cl]at M;obtain⟨c8,o,r⟩:=M.users;obtain⟨ua,uc,rfl,-⟩:=Row.BM o (by omega);have cn:Hid _:=M;have co:Hid _:=r;have cp:Hid _:=Z;have a7:Hid _:=U;clear P4 a6 M r U Z d0 d1 d2 d3 d4 d5 d6 d7 d8 b0 b1 b2 b3 b4 b5 b7 b8;apply cE 13 0 (.pointer (some ⟨g,0,none⟩)) [.pointer (some ⟨g,0,none⟩),_,_,_,_,_,.int .i64 m.calls,_,_,_,undef,undef,undef] [none,none,none,none,none,none,none,none,none,none,some (fun u w'=>IsData (fun k=>w4.heap.size<=k) w' u data),some (fun u w'=>∃F G,u=.agg #[.int .i64 m.calls,.int .i64 4,.int .i64 mode,.int .i64 0,.int .i64 0,S8 path,.slice F data.length G]/\IsData (fun k=>w4.heap.size<=k) w' (.slice F data.length G) data),some (fun u w'=>∃k F G,u=.slice (some ⟨k,0,none⟩) 1 1/\w'.heap[k]? = some (.cells #[.int .i64 m.calls,.int .i64 4,.int .i64 mode,.int .i64 0,.int .i64 0,S8 path,.slice F data.length G] 121 (0,0))/\IsData (fun k=>w4.heap.size<=k) w' (.slice F data.length G) data)] [[],[],[1],[2],[3],[],[5],[],[],[],[9],[6,7,8,10],[11]] (by kernel_rfl) (by kernel_rfl) (by simp[ak])
    .refine ⟨?_,?_,?_,trivial⟩
     .exact fun _ _ _ he hu=>hu.ext he
     .exact fun _ _ _ he ⟨F,G,h1,h2⟩=>⟨F,G,h1,h2.ext he⟩
     .exact fun _ _ _ he ⟨k,F,G,h1,h3,h4⟩=>⟨k,F,G,h1,he.row h3,h4.ext he⟩
    .exact ⟨_,rfl,rfl,fun w=>by go_simp⟩
    .exact fun _=>rfl
    .simp (maxSteps:=1000000)only[List.take_succ_cons,List.take_zero,aw,aA,aa,Act.put,List.setIfInBounds_toArray,List.set_cons_zero,List.set_cons_succ,aK,aO,ak,List.getD_cons_zero,List.getD_cons_succ,and_true,true_and,forall_const];and_intros
     iterate 6 · intro N wq H;intros;rename_i C;have f6:=H.cell b6;go_simp;exact C _ _ (Ext.refl _) rfl
     .intro N wq H t R C;go_simp;exact(ld (IsFs.ext a5.out.fs H)).mono (by rw[cm];rintro e' w7 ⟨rfl,rfl⟩;exact⟨_,rfl,C _ _ (Ext.refl _) rfl⟩)
     iterate 3 · intro N wq H;intros;rename_i C;have f6:=H.cell b6;go_simp;exact C _ _ (Ext.refl _) rfl
     .intro N wq H t R C;go_simp;exact(eB _ data _ (IsBytes.ext bt.out H) (by omega)).mono (by rintro e' w7 ⟨⟨u,rfl,hu⟩,h2⟩;exact⟨_,rfl,C _ _ h2 (hu.mono (fun k t=>Nat.le_trans H.size t.1))⟩)
     .intro N wq H t R C;obtain⟨c9,c',dk,a8⟩:=t;obtain⟨qa,qc,cq,-⟩:=id a8.bytes;go_simp;exact C _ _ (Ext.refl _) ⟨_,_,rfl,cq▸a8⟩
     .intro N wq H t R C;obtain⟨F,G,dl,cs⟩:=t;go_simp;exact C _ _ ((Ext.refl _).alloc _) ⟨_,_,_,rfl,ab _ _,cs.ext ((Ext.refl _).alloc _)⟩
    intro N w6 D t;simp only[aP,Nat.zero_add,Nat.reduceAdd,and_true]at t;have dn:=t.2.2.2.2.2.2.2.2.2.2.1;have dq:=t.2.2.2.2.2.2.2.2.2.2.2.1;have ct:=t.2.2.2.2.2.2.2.2.2.2.2.2;simp(maxSteps:=1000000)only[List.take_succ_cons,List.take_zero,List.drop_succ_cons,List.drop_zero,aa,Act.put,List.setIfInBounds_toArray,List.set_cons_zero,List.set_cons_succ,Nat.zero_add,Nat.reduceAdd,t];clear t;generalize N 10=ds at *;generalize N 11=d9 at *;generalize N 12=d' at *;obtain⟨k6,da,dc,rfl,cu,a9⟩:=ct;have ad:=al o D;have au:=Ext.row D cp.out;have a':Hid _:=cn.out.ext D;have cv:Hid _:=a9;clear o a9 b6
    go_wp2_with (first
     | (at_builtin;go_must (refine vf rfl _ _ rfl 0 _ m.users.length _ rfl ad k6 1 _ rfl rfl cu (by simp[Value.oneCell']) (by omega) (Nat.zero_le _) ?_;intro v7 w7 E V bb;obtain⟨bd,bh,rfl⟩:=dw E (by omega);have bk:w7.heap[g]? = _:=(V.block g (Array.getElem?_eq_some_iff.1 au).1 (fun cx=>by obtain⟨ea,ec,bl⟩:=a'.out.users.typed g cx.symm;rw[au]at bl;simp at bl)).trans au))
     | (refine af rfl 42 (.tmp 44) (.tmp 42) rfl g 6 rfl (.slice (some ⟨bd,0,none⟩) (m.users.length+1) bh) rfl rfl _ _ bk (Nat.le_of_ble_eq_true rfl) mG (aZ (settle A).room bx bS b' ca (settle A).calls (.slice (some ⟨bd,0,none⟩) (m.users.length+1) bh) (settle A).time (settle A).down) (by simp) ?_;intro w8 c1 bo))
    refine NoP.intro ?_;go_wp2;go_ret;rw[j.out];refine⟨rfl,a5.out.trans ?_⟩;exact ny (m:={ settle A with users:=m.users++[⟨m.calls,4,mode,0,0,path,data⟩] }) (e:=⟨m.calls,4,mode,0,0,path,data⟩) D cc a'.out (Each.imp co.out (fun c x hx=>IsEvR.BQ hx (KeepR.BS (KeepB.BO D)))) E V bb bk bo ⟨_,rfl,cv.out,show path.length<=10000000 by omega⟩ c1 rfl rfl rfl rfl a7.out ce
   .have d:aM m path mode data=(A,e2):=by rw[q.out,W.out,b,z];simp[J]
    have j:Hid _:=d;have c2:(e2==0)=false:=by simpa using J
    clear d b z n Y J;go_enter Tryz.func103,Tryz.ntmps103
    go_wp2_with (first
     | (go_at_call 133;go_must (refine(gY path mode _ data _ HE.out HV.out (by omega)).mono ?_;rw[X.out];rintro e w2 ⟨rfl,i⟩))
     | (go_at_call 134;go_must (refine(gD path mode _ data true (HE.out.ext i) (IsFs.ext HH.out i) a1.out ht hp (IsBytes.ext HV.out i) T (HM.out a2.out)).mono ?_;rw[a3.out];rintro e w3 ⟨rfl,B⟩;have K:Hid _:=B;clear B)))
    go_ret;rw[j.out];exact⟨rfl,FsPost.pre i K.out⟩
  .have d:aM m path mode data=(m,e1):=by rw[q.out,W.out,b];simp[hz]
   have j:Hid _:=d;have c2:(e1==0)=false:=by simpa using hz
   clear d b hz;go_enter Tryz.func103,Tryz.ntmps103
   go_wp2_with (go_at_call 133;go_must (refine(gY path mode _ data _ HE.out HV.out (by omega)).mono ?_;rw[X.out];rintro e w2 ⟨rfl,i⟩))
   go_ret;rw[j.out];exact⟨rfl,FsPost.same HH.out i⟩
theorem jY {S O R:Nat->Prop} (path:B8) (hE:Env w) (h:IsFs S O R w p m) (A:OkM m) (ht:m.time<=9000000) (hp:path.length<=1000) :
  Calls Tryz.prog 105 #[p,S8 path] w fun e w'=>e=.returned (.int .i64 (aL m path).2)/\FsPost S O R w p (aL m path).1 w':=by
 have HH:Hid (IsFs S O R w p m):=h;have HE:Hid _:=hE;have P:Hid _:=A;have hl:=A.BY;have bS:=A.B6;have E:aL m path=if m.down then(m,12)else if(aD m path).2≠0 then aD m path
  else({ settle (aD m path).1 with users:=m.users++[⟨m.calls,5,0,0,0,path,[]⟩] },0):=rfl
 have o:Hid _:=E;obtain⟨g,gm,gd,vp,vl,vu,L,c0,rfl,hg,hO,hP,-,-⟩:=h;obtain⟨d0,d1,d2,d3,d4,d5,d6,d7,d8⟩:=ah hg;clear hg hP hE E A
 cases j:m.down with
 | true =>
  have a:aL m path=(m,12):=by rw[o.out,j];rfl
  have q:Hid _:=a;rw[j]at d8;clear a j;go_enter Tryz.func105,Tryz.ntmps105;go_wp2;go_ret;rw[q.out];exact⟨rfl,FsPost.same HH.out (Ext.refl _)⟩
 | false =>
  rw[j]at d8;have Q:Hid _:=j;clear j;obtain⟨r,T,n⟩:∃r T,aD m path=(r,T):=⟨_,_,rfl⟩;have U:Hid _:=n;have b:=@lf m path;rw[n]at b;simp only at b;have a4:Hid _:=b.2.1;have a5:Hid _:=b.2.2;have b':=b.1
  by_cases B:T=0
  .subst B;have a:aL m path=({ settle r with users:=m.users++[⟨m.calls,5,0,0,0,path,[]⟩] },0):=by rw[o.out,Q.out,n];simp
   have q:Hid _:=a;clear a n b;go_enter Tryz.func105,Tryz.ntmps105
   go_wp2_with (first
    | (go_at_call 156;go_must (refine(jM path HE.out HH.out P.out ht hp).mono ?_;rw[U.out];rintro e w3 ⟨rfl,t⟩;have C:Hid _:=t;clear t))
    | (go_at_call 158;go_must (refine(ku C.out.fs (by omega)).mono ?_;rintro e w4 ⟨rfl,V⟩;have a6:Hid _:=V;clear V)))
   have P4:=FsPost.trans C.out a6.out;have W:Hid _:=P4;obtain⟨g4,a7,a8,a9,a',ca,L4,c4,bb,H,bd,D,F,bh⟩:=P4.fs;cases bb;obtain⟨b0,b1,b2,b3,b4,b5,b6,b7,b8⟩:=ah H;have bk:(settle r).users=m.users:=a4.out;have bl:(settle r).calls=m.calls:=a5.out;rw[bk]at D;obtain⟨cb,d,i⟩:=D.users;obtain⟨ua,uc,rfl,-⟩:=Row.BM d (by omega);have bo:Hid _:=D;have bq:Hid _:=i;have br:Hid _:=H;have X:Hid _:=F;clear P4 D i F H d0 d1 d2 d3 d4 d5 d6 d7 d8 b0 b1 b2 b3 b4 b5 b7 b8;apply cE 10 0 (.pointer (some ⟨g,0,none⟩)) [.pointer (some ⟨g,0,none⟩),_,_,_,_,_,.int .i64 m.calls,_,.agg #[.int .i64 m.calls,.int .i64 5,.int .i64 0,.int .i64 0,.int .i64 0,S8 path,.slice none 0 0],undef] [none,none,none,none,none,none,none,none,none,some (fun u w'=>∃k,u=.slice (some ⟨k,0,none⟩) 1 1/\w'.heap[k]? = some (.cells #[.int .i64 m.calls,.int .i64 5,.int .i64 0,.int .i64 0,.int .i64 0,S8 path,.slice none 0 0] 121 (0,0)))] [[],[],[1],[2],[3],[],[5],[],[6,7],[8]] (by kernel_rfl) (by kernel_rfl) (by simp[ak])
   .refine ⟨?_,trivial⟩
    .exact fun _ _ _ he ⟨k,h1,h3⟩=>⟨k,h1,he.row h3⟩
   .exact ⟨_,rfl,rfl,fun w=>by go_simp⟩
   .exact fun _=>rfl
   .simp (maxSteps:=1000000)only[List.take_succ_cons,List.take_zero,aw,aA,aa,Act.put,List.setIfInBounds_toArray,List.set_cons_zero,List.set_cons_succ,aK,aO,ak,List.getD_cons_zero,List.getD_cons_succ,and_true,true_and,forall_const];and_intros
    iterate 6 · intro Y wq M;intros;rename_i I;have f6:=M.cell b6;go_simp;exact I _ _ (Ext.refl _) rfl
    .intro Y wq M N R I;go_simp;exact(ld (IsFs.ext W.out.fs M)).mono (by rw[bl];rintro e' w7 ⟨rfl,rfl⟩;exact⟨_,rfl,I _ _ (Ext.refl _) rfl⟩)
    iterate 2 · intro Y wq M;intros;rename_i I;have f6:=M.cell b6;go_simp;exact I _ _ (Ext.refl _) rfl
    .intro Y wq M N R I;go_simp;exact I _ _ ((Ext.refl _).alloc _) ⟨_,rfl,ab _ _⟩
   intro Y w6 y N;simp only[aP,Nat.zero_add,Nat.reduceAdd,and_true]at N;have q9:=N.2.2.2.2.2.2.2.2.2;simp(maxSteps:=1000000)only[List.take_succ_cons,List.take_zero,List.drop_succ_cons,List.drop_zero,aa,Act.put,List.setIfInBounds_toArray,List.set_cons_zero,List.set_cons_succ,Nat.zero_add,Nat.reduceAdd,N];clear N;generalize Y 9=x9 at *;obtain⟨k6,rfl,bs⟩:=q9;have J:=al d y;have K:=Ext.row y br.out;have Z:Hid _:=bo.out.ext y;clear d b6
   go_wp2_with (first
    | (at_builtin;go_must (refine vf rfl _ _ rfl 0 _ m.users.length _ rfl J k6 1 _ rfl rfl bs (by simp[Value.oneCell']) (by omega) (Nat.zero_le _) ?_;intro v7 w7 z G ad;obtain⟨au,a0,rfl⟩:=dw z (by omega);have a1:w7.heap[g]? = _:=(G.block g (Array.getElem?_eq_some_iff.1 K).1 (fun bt=>by obtain⟨cc,ce,a2⟩:=Z.out.users.typed g bt.symm;rw[K]at a2;simp at a2)).trans K))
    | (refine af rfl 42 (.tmp 29) (.tmp 27) rfl g 6 rfl (.slice (some ⟨au,0,none⟩) (m.users.length+1) a0) rfl rfl _ _ a1 (Nat.le_of_ble_eq_true rfl) mG (aZ (settle r).room a7 a8 a9 a' (settle r).calls (.slice (some ⟨au,0,none⟩) (m.users.length+1) a0) (settle r).time (settle r).down) (by simp) ?_;intro w8 bx a3))
   refine NoP.intro ?_;go_wp2;go_ret;rw[q.out];refine⟨rfl,W.out.trans ?_⟩;exact ny (m:={ settle r with users:=m.users++[⟨m.calls,5,0,0,0,path,[]⟩] }) (e:=⟨m.calls,5,0,0,0,path,[]⟩) y bd Z.out (Each.imp bq.out (fun c x hx=>IsEvR.BQ hx (KeepR.BS (KeepB.BO y)))) z G ad a1 a3 ⟨_,rfl,IsData.nil _ _,show path.length<=10000000 by omega⟩ bx rfl rfl rfl rfl X.out bh
  .have a:aL m path=(r,T):=by rw[o.out,Q.out,n];simp[B]
   have q:Hid _:=a;have cl:(T==0)=false:=by simpa using B
   clear a n b B;go_enter Tryz.func105,Tryz.ntmps105
   go_wp2_with (go_at_call 156;go_must (refine(jM path HE.out HH.out P.out ht hp).mono ?_;rw[U.out];rintro e w3 ⟨rfl,t⟩;have C:Hid _:=t;clear t))
   go_ret;rw[q.out];exact⟨rfl,C.out⟩
end
section
open Go Go.RowKit
theorem eU (m:Nat):∀(a:List (List Value)) (k j:Nat) (c:List Value) (u:Value),(∀c∈a,c.length=m)->a[k]? = some c->c[j]? = some u->a.flatten[m*k+j]? = some u
 | [],k,j,c,u,_,b,_=>by simp at b
 | d::a,0,j,c,u,g,b,e=>by
  have:d=c:=by simpa using b
  subst this;simp only[List.flatten_cons,Nat.mul_zero,Nat.zero_add];rw[List.getElem?_append_left (List.getElem?_eq_some_iff.1 e).1];exact e
 | d::a,k+1,j,c,u,g,b,e=>by
  have i:=g d (by simp);have l:=eU m a k j c u (fun c h=>g c (by simp[h])) (by simpa using b) e;simp only[List.flatten_cons];rw[List.getElem?_append_right (by rw[i,Nat.mul_add];omega),i];rw[show m*(k+1)+j - m=m*k+j by rw[Nat.mul_add];omega];exact l
variable {w:World} {c:Ch}
theorem IsCh.shape {R:Nat->Prop} {cs:List Value} (h:IsCh R w cs c):∃(p q:B8) (b:Bool) (mode time:Int) (a:Option Addr) (n e:Nat),cs=[S8 p,S8 q,.bool b,.int .i64 mode,.slice a n e,.int .i64 time]:=by
 cases c with
 | put p f =>
  obtain⟨_,v,rfl,g⟩:=h;obtain⟨a,e,rfl,_⟩:=g.bytes;exact⟨_,_,_,_,_,_,_,_,rfl⟩
 | mv s d=>obtain⟨_,_,_,rfl⟩:=h;exact⟨_,_,_,_,_,_,_,_,rfl⟩
 | del p=>obtain⟨_,rfl⟩:=h;exact⟨_,_,_,_,_,_,_,_,rfl⟩
theorem xN {R:Nat->Prop} {v:Value} {l:List Ch} (h:OwnL w 194 6 (IsCh R w) v l) (J:l.length<=10000000):∃a d,v=.slice a l.length d/\l.length<=d/\d<=9223372036854775807 /\
  ∀(k:Nat) c,l[k]? = some c->∃b A,a=some ⟨b,0,none⟩/\IsCh R w A c/\∀j u,A[j]? = some u->w.cell? ⟨b,k*6+j,none⟩=some u:=by
 obtain⟨e,o,q⟩:=h;obtain⟨B,n⟩:=o;have C:∀c∈e,c.length=6:=fun c y=>by
  obtain⟨i,r,rfl⟩:=List.mem_iff_getElem.1 y;have z:i<l.length:=by rw[<-q.1];exact r
  exact(q.2 i e[i] l[i] (List.getElem?_eq_getElem r) (List.getElem?_eq_getElem z)).length.1
 rcases n with⟨rfl,D⟩ | ⟨g,d,E,rfl,_,F,y,G,K,H⟩
 .refine ⟨none,0,by rw[D],by omega,by omega,fun k c t=>?_⟩;have:=(List.getElem?_eq_some_iff.1 t).1;omega
 .refine ⟨_,d,rfl,y,by unfold maxLen at G;omega,fun k c t=>?_⟩;have p:k<e.length:=by rw[q.1];exact(List.getElem?_eq_some_iff.1 t).1
  refine⟨g,e[k],rfl,q.2 k _ c (List.getElem?_eq_getElem p) t,fun j u I=>?_⟩;have x:=eU 6 e k j _ u C (List.getElem?_eq_getElem p) I;rw[<-H]at x;have r:=(List.getElem?_eq_some_iff.1 x).1;rw[List.getElem?_take_of_lt (by simp at r;omega)]at x;rw[Nat.mul_comm];simpa [World.cell?,F]using x
theorem jN (l:aq):∀a:List Ch,(a.foldl ap l).length<=l.length+a.length:=by
 intro a
 induction a generalizing l with
 | nil=>simp
 | cons c a b =>
  have d:=b (ap l c);have e:=dS l c;simp only[List.foldl_cons,List.length_cons];omega
variable {l:aq}
theorem o6 {cs:List Ch} {k:Nat} (h:cs[k]? = some c):(cs.take (k+1)).foldl ap l=ap ((cs.take k).foldl ap l) c:=by
 rw[List.take_add_one,h];simp[List.foldl_append]
theorem IsData.takeN {R:Nat->Prop} {a:Option Addr} {l:B8} {d n:Nat} (h:IsData R w (.slice a l.length d) l) (A:n<=l.length):IsBytes w (.slice a n d) (l.take n):=by
 obtain⟨B,j,k,C,q,D,r⟩:=h.bytes;simp only[Value.slice.injEq,true_and]at k;obtain⟨rfl,rfl⟩:=k;have t:(l.take n).length=n:=by rw[List.length_take];omega
 refine⟨a,d,by rw[t],by omega,q,by omega,fun g=>?_⟩;obtain⟨b,o,rfl,y⟩:=r (by
  intro z;have:l=[]:=by simpa using z
  subst this;simp at g)
 refine⟨b,o,rfl,fun i u p=>y i u ?_⟩;rw[List.getElem?_map]at p ⊢;obtain⟨x,e,rfl⟩:=Option.map_eq_some_iff.1 p;rw[List.getElem?_take]at e;split at e
 .rw [e];rfl
 .simp at e
variable {m:Fs}
theorem fh {S O R:Nat->Prop} {z h C D E:World} {g P d i F:Nat} {Q j n:Value} {L:List Ev} (A:O g) (Z:w.heap[g]? = some (.cells (aZ m.room P d Q j m.calls n m.time m.down) 79 (0,0)))
  (B:Parts S O R w P d Q j n m.now m.sure m.pend L m.users) (b:w.grownBy z (some d)) (G:IsFiles (On R w.heap.size) z d l) (o:Ext z h) (H:z.heap.size<=i) (I:IsFiles (On R w.heap.size) h i l)
  {T U:Array Value} (p:h.heap[g]? = some (.cells T 79 (0,0))) (r:h.grownBy C (some g)) (t:C.heap[g]? = some (.cells U 79 (0,0))) (u:C.grownBy D (some g)) {V:Array Value} (x:D.heap[g]? = some (.cells V 79 (0,0))) (y:D.grownBy E (some g))
  (J:E.heap[g]? = some (.cells (aZ m.room i d (.slice none 0 0) j m.calls n m.time true) 79 (0,0))) (K:m.plan=L.filter (fun e=>decide ((F:Int)<e.t))) (M:F<=m.calls/\L.length<=1000) :
  FsPost S O R w (.pointer (some ⟨g,0,none⟩)) { m with now:=l,sure:=l,pend:=[],down:=true } E:=by
 have W:=B.sure.lt;have N:=(B.mono (O':=On O w.heap.size) (R':=On R w.heap.size) (fun k a=>.inl a) (fun k a=>.inl a)).Da b G;have q:=N.ext o;have X:Parts S (On O w.heap.size) (On R w.heap.size) h i d (.slice none 0 0) j n l l [] L m.users :=
  ⟨by have:=b.size;omega,.inr (Nat.le_trans b.size H),q.od,I,q.sure,⟨[],World.ownsRow_nil _ _ _ _,Each.nil _⟩,Inn.nil _ _ _,q.plan,q.ol,q.users,q.ou,q.off⟩
 refine⟨IsFs.fit ⟨g,i,d,_,j,n,L,F,rfl,J,.inl A,((X.own p r).own t u).own x y,K,M⟩,?_⟩;have Y:Fr O w h:=((Fr.refl O w).step b (fun k a=>by cases a;exact .inl B.od) (by rintro k a;cases a;exact B.sure.Cb)).ext o;exact((Y.step r (fun k a=>by cases a;exact .inl A) (by rintro k a;cases a;exact ao p (by kernel_rfl))).step u (fun k a=>by cases a;exact .inl A) (by rintro k a;cases a;exact ao t (by kernel_rfl))).step y (fun k a=>by cases a;exact .inl A) (by rintro k a;cases a;exact ao x (by kernel_rfl))
theorem o7 {S O R:Nat->Prop} {p:Value} (t o:Int) (h:IsFs S O R w p m) (a1:OkM m) (ht:m.time<=9000000) (b3:I64 t) (b4:I64 o) :
  Calls Tryz.prog 107 #[p,.int .i64 t,.int .i64 o] w fun e w'=>e=.returned (.tuple #[])/\FsPost S O R w p (cS m t o) w':=by
 have HH:Hid (IsFs S O R w p m):=h;obtain⟨g,gm,F,vp,V,W,L,c0,rfl,hg,hO,hP,a5,a2⟩:=h;obtain⟨d0,d1,d2,d3,d4,d5,d6,d7,d8⟩:=ah hg;have fb:=a1.Ca;have fe:=a1.CR;obtain⟨pa,pc,rfl,e4,e5,a6⟩:=xN hP.pend (by omega);have HG:Hid _:=hg;have HP:Hid _:=hP;have bk:Hid _:=a6;have dc:Hid _:=a1.Dc;have dk:Hid _:=a1.Cu;have a3:Hid _:=a5;have X:cS m t o=if m.down then m else { m with now:=di m t o,sure:=di m t o,pend:=[],down:=true }:=rfl
 have b5:Hid _:=X;have dl:=(Array.getElem?_eq_some_iff.1 hg).1;have e6:g≠w.heap.size:=by omega
 have dn:=hP.sure.lt;unfold I64 at b3 b4
 cases ad:m.down with
 | true =>
  have a7:cS m t o=m:=by rw[X,ad];rfl
  have Y:Hid _:=a7;rw[ad]at d8;clear hg hP a6 a1 a5 X ad a7;go_enter Tryz.func107,Tryz.ntmps107;go_wp2;refine bodyPost_ret (results_none rfl _ _ _) rfl ?_;rw[Y.out];exact⟨rfl,FsPost.same HH.out (Ext.refl _)⟩
 | false =>
  obtain⟨N,hN⟩:∃N,dR m t=N:=⟨_,rfl⟩;have ff:N<=m.pend.length:=by rw[<-hN];unfold dR;omega
  have e7:min (max t 0) (m.pend.length:Int)=(N:Int):=by rw[<-hN];unfold dR;omega
  have a7:cS m t o={ m with now:=di m t o,sure:=di m t o,pend:=[],down:=true }:=by rw[X,ad];rfl
  have Y:Hid _:=a7;have b6:di m t o=dL ((m.pend.take N).foldl ap m.sure) o m.pend[N]?:=by unfold di;rw[hN]
  have a4:Hid _:=b6;rw[ad]at d8;have dq:Hid _:=ad;clear hg hP a6 a1 a5 X ad a7 b6 hN b5;go_enter Tryz.func107,Tryz.ntmps107;go_wp2;go_loopw [29] (fun i wr=>∃k:Nat,k<=N/\i=.int .i64 k/\IsFiles R wr F ((m.pend.take k).foldl ap m.sure)/\w.grownBy wr (some F)) (fun i _=>N - (intOf i).toNat)
  case atStart=>exact⟨0,Nat.zero_le _,rfl,HP.out.sure,⟨rfl,rfl,rfl,Nat.le_refl _,fun _ _ _=>rfl⟩⟩
  case round =>
   obtain⟨k,H,rfl,b7,bb⟩:=hrel;have au:Hid _:=b7;have J:Hid _:=bb;have bd:wr.heap[g]? = _:=(bb.block g dl (by
    have:=cy HG.out (by exact(HP.out.sure.kind).choose_spec.choose_spec) (by simp);simpa using this)).trans HG.out
   rw[dq.out]at bd;have I:Hid _:=bd;have ds:=jN m.sure (m.pend.take k);have b8:(m.pend.take k).length<=k:=List.length_take_le _ _;have fi:=bb.size;clear b7 bb
   by_cases fj:k<N
   .
    obtain⟨c,hc⟩:∃c,m.pend[k]? = some c:=⟨_,List.getElem?_eq_getElem (by omega)⟩;obtain⟨b,cs,rfl,U,l⟩:=bk.out k c hc;obtain⟨cp,cq,cb,cm,ct,ca,cn,Z,rfl⟩:=U.shape;have T:∀j u,w.cell? ⟨b,k*6+j,none⟩=some u->wr.cell? ⟨b,k*6+j,none⟩=some u:=fun j u hu=>by
     obtain⟨d9,d',bt⟩:=HP.out.pend.typed b rfl;rw[World.cell?_of_block (w:=w) (w':=wr) (a:=⟨b,k*6+j,none⟩) (J.out.block b (World.block_lt_of_cell? _ _ hu) (by
      have:=cy bt (by exact(HP.out.sure.kind).choose_spec.choose_spec) (by simp);simpa using this))]
     exact hu
    have x0:=T 0 _ (l 0 _ rfl);have x1:=T 1 _ (l 1 _ rfl);have x2:=T 2 _ (l 2 _ rfl);have x3:=T 3 _ (l 3 _ rfl);have x4:=T 4 _ (l 4 _ rfl);have x5:=T 5 _ (l 5 _ rfl);simp only[Nat.add_zero]at x0;have K:IsCh R wr [S8 cp,S8 cq,.bool cb,.int .i64 cm,.slice ca cn Z,.int .i64 ct] c:=U.BQ (cg J.out (by rintro k H;cases H;exact HP.out.sure.Cb));have ea:Hid _:=K;have HC:Hid _:=hc;have bl:∀s d,c=.mv s d->(ax ((m.pend.take k).foldl ap m.sure) s).isSome=true:=fun s d hh=>dc.out k s d (by rw[hc,hh])
    have ec:Hid _:=bl;have bx:Ext wr (wr.alloc (.cells #[S8 cp,S8 cq,.bool cb,.int .i64 cm,.slice ca cn Z,.int .i64 ct] 194)):=(Ext.refl wr).alloc _;obtain⟨y0,y1,y2,y3,y4,y5⟩:=cj (ab wr (.cells #[S8 cp,S8 cq,.bool cb,.int .i64 cm,.slice ca cn Z,.int .i64 ct] 194));obtain⟨z0,z1,z2,z3,z4,z5,z6,z7,z8⟩:=ah (Ext.row bx I.out);have ef:Hid _:=bx;clear T l U K bl hc bx bd z0 z1 z3 z4 z5 z6 z7 z8;go_wp2;apply aj 5 [_,_,_,_,.agg #[S8 cp,S8 cq,.bool cb,.int .i64 cm,.slice ca cn Z,.int .i64 ct]] [none,none,none,none,none] [[],[0],[1],[2],[]] (by kernel_rfl) (by kernel_rfl) (by simp[ak])
    .trivial
    .simp (maxSteps:=1000000)only[List.take_succ_cons,List.take_zero,aw,aA,aa,Act.put,List.setIfInBounds_toArray,List.set_cons_zero,List.set_cons_succ,aK,aO,ak,List.getD_cons_zero,List.getD_cons_succ,and_true,true_and,forall_const];and_intros
     iterate 5 · intro xs wq hq;intros;rename_i hR;have c1:=hq.cell z2;have c2:=hq.cell y0;have c3:=hq.cell y1;have c4:=hq.cell y2;have c5:=hq.cell y3;have c6:=hq.cell y4;have c7:=hq.cell y5;go_simp;exact hR _ _ (Ext.refl _) rfl
    intro xs w4 r H;simp only[aP,Nat.zero_add,Nat.reduceAdd,and_true]at H;simp(maxSteps:=1000000)only[List.take_succ_cons,List.take_zero,List.drop_succ_cons,List.drop_zero,aa,Act.put,List.setIfInBounds_toArray,List.set_cons_zero,List.set_cons_succ,Nat.zero_add,Nat.reduceAdd,H];clear H;have bS:=Ext.trans ef.out r
    go_wp2_with (go_at_call 160;go_must (refine(mD c [S8 cp,S8 cq,.bool cb,.int .i64 cm,.slice ca cn Z,.int .i64 ct] (au.out.ext bS) (IsCh.BQ ea.out (KeepR.BS (KeepB.BO bS))) ec.out (by omega)).mono ?_;rintro e w5 ⟨rfl,eg,x⟩))
    go_roundw
    case rel=>exact⟨k+1,by omega,by go_num,by rw[o6 HC.out];exact eg,(dU J.out bS).trans x⟩
    case measure=>simp[intOf];omega
   .have eh:k=N:=by omega
    subst eh;obtain⟨z0,z1,z2,z3,z4,z5,z6,z7,z8⟩:=ah I.out;clear bd
    by_cases ek:k<m.pend.length
    .have e8:(k:Int)<(m.pend.length:Int):=by omega
     obtain⟨c,hc⟩:∃c,m.pend[k]? = some c:=⟨_,List.getElem?_eq_getElem ek⟩;obtain⟨b,cs,rfl,U,l⟩:=bk.out k c hc;have T:∀j u,w.cell? ⟨b,k*6+j,none⟩=some u->wr.cell? ⟨b,k*6+j,none⟩=some u:=fun j u hu=>by
      obtain⟨d9,d',bt⟩:=HP.out.pend.typed b rfl;rw[World.cell?_of_block (w:=w) (w':=wr) (a:=⟨b,k*6+j,none⟩) (J.out.block b (World.block_lt_of_cell? _ _ hu) (by
       have:=cy bt (by exact(HP.out.sure.kind).choose_spec.choose_spec) (by simp);simpa using this))]
      exact hu
     have z:Hid _:=T;have HC:Hid _:=hc;have K:IsCh R wr cs c:=U.BQ (cg J.out (by rintro k H;cases H;exact HP.out.sure.Cb));clear T hc
     by_cases fk:o<0
     .have eo:¬(0:Int)<=o:=by omega
      have FF:Hid (IsFiles (On R w.heap.size) wr F ((m.pend.take k).foldl ap m.sure)):=au.out.mono (fun k H=>.inl H);have FW:Hid _:=J.out;have FG:Hid _:=I.out;have FL:Hid (((m.pend.take k).foldl ap m.sure).length<=100000000):=by unfold Hid;omega
      have FA:Hid (dL ((m.pend.take k).foldl ap m.sure) o m.pend[k]? = ((m.pend.take k).foldl ap m.sure)):=by
       unfold Hid;rw[HC.out]
       cases c with
       | put q f=>exact if_neg (by omega)
       | mv s d=>rfl
       | del q=>rfl
      clear l U K eo
      go_wp2_with (first
       | (go_at_call 161;go_must (refine(eI FF.out (by have:=FL.out;omega)).mono ?_;rintro e w4 ⟨⟨G,rfl,M,P⟩,r⟩;have A:=Ext.row r FG.out))
       | (refine af rfl 71 (.tmp 89) (.tmp 87) rfl g 1 rfl (.map (some G)) rfl rfl _ _ A (Nat.le_of_ble_eq_true rfl) fH (aZ m.room G F (.slice (some ⟨b,0,none⟩) m.pend.length pc) V m.calls W m.time false) (by simp) ?_;intro w5 x B)
       | (refine af rfl 72 (.tmp 92) _ rfl g 3 rfl (.slice none 0 0) rfl rfl _ _ x (Nat.le_of_ble_eq_true rfl) eK (aZ m.room G F (.slice none 0 0) V m.calls W m.time false) (by simp) ?_;intro w6 C D)
       | (refine af rfl 4 (.tmp 95) _ rfl g 8 rfl (.bool true) rfl rfl _ _ C (Nat.le_of_ble_eq_true rfl) dW (aZ m.room G F (.slice none 0 0) V m.calls W m.time true) (by simp) ?_;intro w7 Q E))
      go_end0
      rw[Y.out,a4.out,FA.out];exact⟨rfl,fh hO HG.out HP.out FW.out FF.out r M P A B x D C E Q a3.out a2⟩
     .have er:(0:Int)<=o:=by omega
      cases c with
      | put q f =>
       obtain⟨es,v,rfl,hd⟩:=K;obtain⟨fa,fc,rfl,-⟩:=id hd.bytes;have x0:=z.out 0 _ (l 0 _ rfl);have x1:=z.out 1 _ (l 1 _ rfl);have x2:=z.out 2 _ (l 2 _ rfl);have x3:=z.out 3 _ (l 3 _ rfl);have x4:=z.out 4 _ (l 4 _ rfl);have x5:=z.out 5 _ (l 5 _ rfl);simp only[Nat.add_zero]at x0;have HD:Hid _:=hd;have y:Ext wr (wr.alloc (.cells #[S8 q,S8 [],.bool true,.int .i64 f.mode,.slice fa f.data.length fc,.int .i64 f.time] 194)):=(Ext.refl wr).alloc _;obtain⟨y0,y1,y2,y3,y4,y5⟩:=cj (ab wr (.cells #[S8 q,S8 [],.bool true,.int .i64 f.mode,.slice fa f.data.length fc,.int .i64 f.time] 194));obtain⟨q0,q1,q2,q3,q4,q5,q6,q7,q8⟩:=ah (Ext.row y I.out);clear l U hd
       by_cases b8:o<(f.data.length:Int)
       .obtain ⟨n,rfl⟩:∃n:Nat,o=n:=⟨o.toNat,by omega⟩;have fl:n<f.data.length:=by omega
        have ev:((n:Int)).toNat=n:=by omega
        have bh:=HD.out.takeN (n:=n) (by omega);obtain⟨fn,fr,b',e9,-⟩:=id HD.out.bytes;simp only[Value.slice.injEq,true_and]at b';obtain⟨rfl,rfl⟩:=b';have fs:(n:Int)<=(fc:Int):=by omega
        have a0:(f.data.take n).length=n:=by rw[List.length_take];omega
        have b0:dL ((m.pend.take k).foldl ap m.sure) n m.pend[k]? = ap ((m.pend.take k).foldl ap m.sure) (.put q { f with data:=f.data.take n }):=by
         rw[HC.out];exact(if_pos ⟨er,b8⟩).trans (by rw[ev])
        obtain⟨td,ce⟩:∃td,f.data.take n=td:=⟨_,rfl⟩;rw[ce]at bh a0 b0;rw[show Value.slice fa n fc=.slice fa td.length fc by rw[a0]]at bh;have dn:td.length<=f.data.length:=by omega
        have ex:Hid _:=bh;have FA:Hid _:=b0;have ey:Hid _:=a0;have ft:Hid _:=y;clear bh a0 b0 ce y;have e':f.data.length<=20000:=(dk.out _ (List.mem_of_getElem? HC.out)).2;go_upto_region 10 with fail;obtain⟨wx,a8⟩:∃wx,wx=wr.alloc (.cells #[S8 q,S8 [],.bool true,.int .i64 f.mode,.slice fa f.data.length fc,.int .i64 f.time] 194):=⟨_,rfl⟩;have eE:Hid _:=a8;rw[<-a8]at y0 y1 y2 y3 y4 y5 q0 q1 q2 q3 q4 q5 q6 q7 q8;have b1:Ext wr wx:=by rw[a8];exact(Ext.refl _).alloc _
        have cl:wx.heap[wr.heap.size]? = some (.cells #[S8 q,S8 [],.bool true,.int .i64 f.mode,.slice fa f.data.length fc,.int .i64 f.time] 194 (0,0)):=by rw[a8];exact ab _ _
        have bo:IsBytes wx (.slice fa n fc) td:=by
         have:=IsBytes.ext ex.out b1
         rwa [ey.out]at this
        have eS:Hid _:=bo;clear a8 bo;rw[show wr.alloc (.cells #[S8 q,S8 [],.bool true,.int .i64 f.mode,.slice fa f.data.length fc,.int .i64 f.time] 194)=wx from eE.out.symm];go_wp2_with fail;go_at_call 54;refine(eB _ td _ eS.out (by omega)).mono ?_;rintro e w2 ⟨⟨v2,rfl,b2⟩,co⟩;obtain⟨ca,cc,rfl,-⟩:=id b2.bytes;have e0:Hid _:=b2;have bq:=co.row cl;have cu:=b1.trans co;clear b2 y0 y1 y2 y3 y4 y5 q0 q1 q2 q3 q4 q5 q6 q7 q8 cl
        go_wp2_with (refine af rfl 37 (.tmp 75) (.tmp 73) rfl wr.heap.size 4 rfl (.slice ca td.length cc) rfl rfl _ _ bq (Nat.le_of_ble_eq_true rfl) fg #[S8 q,S8 [],.bool true,.int .i64 f.mode,.slice ca td.length cc,.int .i64 f.time] (by simp) ?_;intro w3 e1 br)
        have bs:Ext wr w3:=Ext.but cu br (Nat.le_refl _);obtain⟨q0,q1,q2,q3,q4,q5,q6,q7,q8⟩:=ah (Ext.row bs I.out);obtain⟨y0,y1,y2,y3,y4,y5⟩:=cj e1;apply aj 5 [_,_,_,_,.agg #[S8 q,S8 [],.bool true,.int .i64 f.mode,.slice ca td.length cc,.int .i64 f.time]] [none,none,none,none,none] [[],[0],[1],[2],[]] (by kernel_rfl) (by kernel_rfl) (by simp[ak])
        .trivial
        .simp (maxSteps:=1000000)only[List.take_succ_cons,List.take_zero,aw,aA,aa,Act.put,List.setIfInBounds_toArray,List.set_cons_zero,List.set_cons_succ,aK,aO,ak,List.getD_cons_zero,List.getD_cons_succ,and_true,true_and,forall_const];and_intros
         iterate 5 · intro xs wq hq;intros;rename_i hR;have c1:=hq.cell q2;have c2:=hq.cell y0;have c3:=hq.cell y1;have c4:=hq.cell y2;have c5:=hq.cell y3;have c6:=hq.cell y4;have c7:=hq.cell y5;go_simp;exact hR _ _ (Ext.refl _) rfl
        intro xs w4 r H;simp only[aP,Nat.zero_add,Nat.reduceAdd,and_true]at H;simp(maxSteps:=1000000)only[List.take_succ_cons,List.take_zero,List.drop_succ_cons,List.drop_zero,aa,Act.put,List.setIfInBounds_toArray,List.set_cons_zero,List.set_cons_succ,Nat.zero_add,Nat.reduceAdd,H];clear H;have a9:=bs.trans r;have cv:IsData (On R w.heap.size) w4 (.slice ca td.length cc) td:=by
         have hu:¬IsU8 w2 wr.heap.size:=ao bq (by kernel_rfl);have h9:IsData (On R w.heap.size) w2 (.slice ca td.length cc) td:=e0.out.mono (fun k H=>.inr (by have:=H.1;have:=b1.size;omega));exact(h9.BQ (dG br hu)).ext r
        have e2:Hid _:=cv;have cx:Hid _:=Ext.row a9 I.out;have e3:Hid _:=dU J.out a9;have c8:Hid (IsFiles (On R w.heap.size) w4 F ((m.pend.take k).foldl ap m.sure)):=(au.out.ext a9).mono (fun k H=>.inl H);clear cv q0 q1 q2 q3 q4 q5 q6 q7 q8 y0 y1 y2 y3 y4 y5
        go_wp2_with (go_at_call 160;go_must (refine(mD (.put q { f with data:=td }) [S8 q,S8 [],.bool true,.int .i64 f.mode,.slice ca td.length cc,.int .i64 f.time] c8.out ⟨es,_,rfl,e2.out⟩ (fun s d h=>by cases h) (by omega)).mono ?_;rintro e w9 ⟨rfl,c9,c'⟩;have da:=cy cx.out (by exact(c8.out.kind).choose_spec.choose_spec) (by simp);have a':=aS c' cx.out da;obtain⟨q0,q1,q2,q3,q4,q5,q6,q7,q8⟩:=ah a';have FF:Hid _:=c9;have FG:Hid _:=a';have FW:Hid _:=e3.out.trans c';have FL:Hid ((ap ((m.pend.take k).foldl ap m.sure) (.put q { f with data:=td })).length<=100000000):=by have:=dS ((m.pend.take k).foldl ap m.sure) (.put q { f with data:=td });unfold Hid;omega))
        clear a' c9
        go_wp2_with (first
         | (go_at_call 161;go_must (refine(eI FF.out (by have:=FL.out;omega)).mono ?_;rintro e w4 ⟨⟨G,rfl,M,P⟩,r⟩;have A:=Ext.row r FG.out))
         | (refine af rfl 71 (.tmp 89) (.tmp 87) rfl g 1 rfl (.map (some G)) rfl rfl _ _ A (Nat.le_of_ble_eq_true rfl) fH (aZ m.room G F (.slice (some ⟨b,0,none⟩) m.pend.length pc) V m.calls W m.time false) (by simp) ?_;intro w5 x B)
         | (refine af rfl 72 (.tmp 92) _ rfl g 3 rfl (.slice none 0 0) rfl rfl _ _ x (Nat.le_of_ble_eq_true rfl) eK (aZ m.room G F (.slice none 0 0) V m.calls W m.time false) (by simp) ?_;intro w6 C D)
         | (refine af rfl 4 (.tmp 95) _ rfl g 8 rfl (.bool true) rfl rfl _ _ C (Nat.le_of_ble_eq_true rfl) dW (aZ m.room G F (.slice none 0 0) V m.calls W m.time true) (by simp) ?_;intro w7 Q E))
        go_end0
        rw[Y.out,a4.out,FA.out];exact⟨rfl,fh hO HG.out HP.out FW.out FF.out r M P A B x D C E Q a3.out a2⟩
       .have FA:Hid (dL ((m.pend.take k).foldl ap m.sure) o m.pend[k]? = ((m.pend.take k).foldl ap m.sure)):=by
         unfold Hid;rw[HC.out];exact if_neg (by omega)
        have FF:Hid (IsFiles (On R w.heap.size) (wr.alloc (.cells #[S8 q,S8 [],.bool true,.int .i64 f.mode,.slice fa f.data.length fc,.int .i64 f.time] 194)) F ((m.pend.take k).foldl ap m.sure)):=(au.out.ext y).mono (fun k H=>.inl H);have FW:Hid (w.grownBy (wr.alloc (.cells #[S8 q,S8 [],.bool true,.int .i64 f.mode,.slice fa f.data.length fc,.int .i64 f.time] 194)) (some F)):=dU J.out y;have FG:Hid _:=Ext.row y I.out;have FL:Hid (((m.pend.take k).foldl ap m.sure).length<=100000000):=by unfold Hid;omega
        clear y
        go_wp2_with (first
         | (go_at_call 161;go_must (refine(eI FF.out (by have:=FL.out;omega)).mono ?_;rintro e w4 ⟨⟨G,rfl,M,P⟩,r⟩;have A:=Ext.row r FG.out))
         | (refine af rfl 71 (.tmp 89) (.tmp 87) rfl g 1 rfl (.map (some G)) rfl rfl _ _ A (Nat.le_of_ble_eq_true rfl) fH (aZ m.room G F (.slice (some ⟨b,0,none⟩) m.pend.length pc) V m.calls W m.time false) (by simp) ?_;intro w5 x B)
         | (refine af rfl 72 (.tmp 92) _ rfl g 3 rfl (.slice none 0 0) rfl rfl _ _ x (Nat.le_of_ble_eq_true rfl) eK (aZ m.room G F (.slice none 0 0) V m.calls W m.time false) (by simp) ?_;intro w6 C D)
         | (refine af rfl 4 (.tmp 95) _ rfl g 8 rfl (.bool true) rfl rfl _ _ C (Nat.le_of_ble_eq_true rfl) dW (aZ m.room G F (.slice none 0 0) V m.calls W m.time true) (by simp) ?_;intro w7 Q E))
        go_end0
        rw[Y.out,a4.out,FA.out];exact⟨rfl,fh hO HG.out HP.out FW.out FF.out r M P A B x D C E Q a3.out a2⟩
      | mv s d =>
       obtain⟨h1,h2,h3,rfl⟩:=K;have x0:=z.out 0 _ (l 0 _ rfl);have x1:=z.out 1 _ (l 1 _ rfl);have x2:=z.out 2 _ (l 2 _ rfl);have x3:=z.out 3 _ (l 3 _ rfl);have x4:=z.out 4 _ (l 4 _ rfl);have x5:=z.out 5 _ (l 5 _ rfl);simp only[Nat.add_zero]at x0;have y:Ext wr (wr.alloc (.cells #[S8 d,S8 s,.bool false,.int .i64 0,.slice none 0 0,.int .i64 0] 194)):=(Ext.refl wr).alloc _;obtain⟨y0,y1,y2,y3,y4,y5⟩:=cj (ab wr (.cells #[S8 d,S8 s,.bool false,.int .i64 0,.slice none 0 0,.int .i64 0] 194));obtain⟨q0,q1,q2,q3,q4,q5,q6,q7,q8⟩:=ah (Ext.row y I.out);have FA:Hid (dL ((m.pend.take k).foldl ap m.sure) o m.pend[k]? = ((m.pend.take k).foldl ap m.sure)):=by unfold Hid;rw[HC.out];rfl
       have FF:Hid (IsFiles (On R w.heap.size) (wr.alloc (.cells #[S8 d,S8 s,.bool false,.int .i64 0,.slice none 0 0,.int .i64 0] 194)) F ((m.pend.take k).foldl ap m.sure)):=(au.out.ext y).mono (fun k H=>.inl H);have FW:Hid (w.grownBy (wr.alloc (.cells #[S8 d,S8 s,.bool false,.int .i64 0,.slice none 0 0,.int .i64 0] 194)) (some F)):=dU J.out y;have FG:Hid _:=Ext.row y I.out;have FL:Hid (((m.pend.take k).foldl ap m.sure).length<=100000000):=by unfold Hid;omega
       clear y;clear l U
       go_wp2_with (first
        | (go_at_call 161;go_must (refine(eI FF.out (by have:=FL.out;omega)).mono ?_;rintro e w4 ⟨⟨G,rfl,M,P⟩,r⟩;have A:=Ext.row r FG.out))
        | (refine af rfl 71 (.tmp 89) (.tmp 87) rfl g 1 rfl (.map (some G)) rfl rfl _ _ A (Nat.le_of_ble_eq_true rfl) fH (aZ m.room G F (.slice (some ⟨b,0,none⟩) m.pend.length pc) V m.calls W m.time false) (by simp) ?_;intro w5 x B)
        | (refine af rfl 72 (.tmp 92) _ rfl g 3 rfl (.slice none 0 0) rfl rfl _ _ x (Nat.le_of_ble_eq_true rfl) eK (aZ m.room G F (.slice none 0 0) V m.calls W m.time false) (by simp) ?_;intro w6 C D)
        | (refine af rfl 4 (.tmp 95) _ rfl g 8 rfl (.bool true) rfl rfl _ _ C (Nat.le_of_ble_eq_true rfl) dW (aZ m.room G F (.slice none 0 0) V m.calls W m.time true) (by simp) ?_;intro w7 Q E))
       go_end0
       rw[Y.out,a4.out,FA.out];exact⟨rfl,fh hO HG.out HP.out FW.out FF.out r M P A B x D C E Q a3.out a2⟩
      | del q =>
       obtain⟨h1,rfl⟩:=K;have x0:=z.out 0 _ (l 0 _ rfl);have x1:=z.out 1 _ (l 1 _ rfl);have x2:=z.out 2 _ (l 2 _ rfl);have x3:=z.out 3 _ (l 3 _ rfl);have x4:=z.out 4 _ (l 4 _ rfl);have x5:=z.out 5 _ (l 5 _ rfl);simp only[Nat.add_zero]at x0;have y:Ext wr (wr.alloc (.cells #[S8 q,S8 [],.bool false,.int .i64 0,.slice none 0 0,.int .i64 0] 194)):=(Ext.refl wr).alloc _;obtain⟨y0,y1,y2,y3,y4,y5⟩:=cj (ab wr (.cells #[S8 q,S8 [],.bool false,.int .i64 0,.slice none 0 0,.int .i64 0] 194));obtain⟨q0,q1,q2,q3,q4,q5,q6,q7,q8⟩:=ah (Ext.row y I.out);have FA:Hid (dL ((m.pend.take k).foldl ap m.sure) o m.pend[k]? = ((m.pend.take k).foldl ap m.sure)):=by unfold Hid;rw[HC.out];rfl
       have FF:Hid (IsFiles (On R w.heap.size) (wr.alloc (.cells #[S8 q,S8 [],.bool false,.int .i64 0,.slice none 0 0,.int .i64 0] 194)) F ((m.pend.take k).foldl ap m.sure)):=(au.out.ext y).mono (fun k H=>.inl H);have FW:Hid (w.grownBy (wr.alloc (.cells #[S8 q,S8 [],.bool false,.int .i64 0,.slice none 0 0,.int .i64 0] 194)) (some F)):=dU J.out y;have FG:Hid _:=Ext.row y I.out;have FL:Hid (((m.pend.take k).foldl ap m.sure).length<=100000000):=by unfold Hid;omega
       clear y;clear l U
       go_wp2_with (first
        | (go_at_call 161;go_must (refine(eI FF.out (by have:=FL.out;omega)).mono ?_;rintro e w4 ⟨⟨G,rfl,M,P⟩,r⟩;have A:=Ext.row r FG.out))
        | (refine af rfl 71 (.tmp 89) (.tmp 87) rfl g 1 rfl (.map (some G)) rfl rfl _ _ A (Nat.le_of_ble_eq_true rfl) fH (aZ m.room G F (.slice (some ⟨b,0,none⟩) m.pend.length pc) V m.calls W m.time false) (by simp) ?_;intro w5 x B)
        | (refine af rfl 72 (.tmp 92) _ rfl g 3 rfl (.slice none 0 0) rfl rfl _ _ x (Nat.le_of_ble_eq_true rfl) eK (aZ m.room G F (.slice none 0 0) V m.calls W m.time false) (by simp) ?_;intro w6 C D)
        | (refine af rfl 4 (.tmp 95) _ rfl g 8 rfl (.bool true) rfl rfl _ _ C (Nat.le_of_ble_eq_true rfl) dW (aZ m.room G F (.slice none 0 0) V m.calls W m.time true) (by simp) ?_;intro w7 Q E))
       go_end0
       rw[Y.out,a4.out,FA.out];exact⟨rfl,fh hO HG.out HP.out FW.out FF.out r M P A B x D C E Q a3.out a2⟩
    .have FF:Hid (IsFiles (On R w.heap.size) wr F ((m.pend.take k).foldl ap m.sure)):=au.out.mono (fun k H=>.inl H);have FW:Hid _:=J.out;have FG:Hid _:=I.out;have FL:Hid (((m.pend.take k).foldl ap m.sure).length<=100000000):=by unfold Hid;omega
     have FA:Hid (dL ((m.pend.take k).foldl ap m.sure) o m.pend[k]? = ((m.pend.take k).foldl ap m.sure)):=by
      have:m.pend[k]? = none:=List.getElem?_eq_none (by omega);unfold Hid;rw[this];rfl
     go_wp2_with (first
      | (go_at_call 161;go_must (refine(eI FF.out (by have:=FL.out;omega)).mono ?_;rintro e w4 ⟨⟨G,rfl,M,P⟩,r⟩;have A:=Ext.row r FG.out))
      | (refine af rfl 71 (.tmp 89) (.tmp 87) rfl g 1 rfl (.map (some G)) rfl rfl _ _ A (Nat.le_of_ble_eq_true rfl) fH (aZ m.room G F (.slice pa m.pend.length pc) V m.calls W m.time false) (by simp) ?_;intro w5 x B)
      | (refine af rfl 72 (.tmp 92) _ rfl g 3 rfl (.slice none 0 0) rfl rfl _ _ x (Nat.le_of_ble_eq_true rfl) eK (aZ m.room G F (.slice none 0 0) V m.calls W m.time false) (by simp) ?_;intro w6 C D)
      | (refine af rfl 4 (.tmp 95) _ rfl g 8 rfl (.bool true) rfl rfl _ _ C (Nat.le_of_ble_eq_true rfl) dW (aZ m.room G F (.slice none 0 0) V m.calls W m.time true) (by simp) ?_;intro w7 Q E))
     go_end0
     rw[Y.out,a4.out,FA.out];exact⟨rfl,fh hO HG.out HP.out FW.out FF.out r M P A B x D C E Q a3.out a2⟩
end
end Go.Proofs.YtfabjgfmiaammaaGreatDoor
