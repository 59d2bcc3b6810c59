/- Contracts of the program's functions and plain laws behind the card. Conditions: as each theorem states. -/
import Derived.Test.YtgfegpnmlkdjfaaGreatDoorZau
import Derived.Test.YtgfegpnmlkdjfaaGreatDoorZav
import Derived.Test.YtgfegpnmlkdjfaaGreatDoorZag
set_option linter.unusedVariables false
set_option linter.unusedSimpArgs false
set_option linter.unusedSectionVars false
set_option maxRecDepth 100000
set_option maxHeartbeats 64000000
namespace Go.Proofs.YtgfegpnmlkdjfaaGreatDoor
section
open Go Go.RowKit Go.Sort
end
section
open Go Go.RowKit Go.Sort
theorem dY (v:Value) (l:List Rw) (w:World) (z:IsRws w v l) :
  Calls Tryz.prog 8 #[v] w fun e F=>∃b,e=.returned (.bool b)/\F=w/\(b=true->l.length<=100/\∀r∈l,r.path.length<=400/\r.id.length<=400):=by
 obtain⟨a,C,rfl,K,L,M,y⟩:=z.cells;have A:Hid _:=y;clear z y;go_enter Tryz.func8,Tryz.ntmps8;go_wp2_with fail;go_loopw [3] (fun i wr=>∃k:Nat,k<=l.length/\k<=100/\i=.int .i64 k/\wr=w/\Hid (∀r∈l.take k,r.path.length<=400/\r.id.length<=400)) (fun i _=>l.length - (intOf i).toNat)
 case atStart=>exact⟨0,Nat.zero_le _,Nat.zero_le _,rfl,rfl,fun r d=>by simp at d⟩
 case round =>
 obtain⟨k,I,c,rfl,rfl,t⟩:=hrel
 by_cases p:k<l.length
 case neg =>
  have o:k=l.length:=by omega
  subst o;have B:Hid (∀r∈l,r.path.length<=400/\r.id.length<=400):=by have:=t.out;rwa [List.take_length]at this
  have g:Hid (decide ((l.length:Int)<=100)=true):=by rw[Hid,decide_eq_true_eq];omega
  go_wp2;go_ret;exact⟨true,by rw[<-g.out];rfl,rfl,fun _=>⟨c,B.out⟩⟩
 by_cases u:k<100
 case neg =>
  have E:k=100:=by omega
  subst E;have D:¬(l.length:Int)<=100:=by omega
  go_wp2;go_ret
  first | exact⟨false,rfl,rfl,fun h=>absurd h (by decide)⟩ | exact .inl ⟨rfl,rfl⟩
 obtain⟨x,q⟩:∃x,l[k]? = some x:=⟨_,List.getElem?_eq_getElem p⟩;obtain⟨G,N,rfl,O,-,P⟩:=A.out k x q;have n:Hid _:=cC q;clear q
 by_cases J:(400:Int)<(x.path.length:Int)
 .go_wp2;go_ret
  first | exact⟨false,rfl,rfl,fun h=>absurd h (by decide)⟩ | exact .inl ⟨rfl,rfl⟩
 by_cases H:(400:Int)<(x.id.length:Int)
 .go_wp2;go_ret
  first | exact⟨false,rfl,rfl,fun h=>absurd h (by decide)⟩ | exact .inl ⟨rfl,rfl⟩
 have j:Hid (∀r∈l.take (k+1),r.path.length<=400/\r.id.length<=400):=by
  unfold Hid;rw[n.out];intro r d;rcases List.mem_append.1 d with d | d
  .exact t.out r d
  .obtain rfl:r=x:=by simpa using d
   exact⟨by omega,by omega⟩
 go_wp2;go_roundw
 case rel=>exact⟨k+1,by omega,by omega,by go_num,trivial,j⟩
 case measure=>simp[intOf];omega
theorem jg (v:Value) (us:List Value) (b:List (List Rw)) (w:World) (hv:IsTbs w v us b) (hl:(ar b).length<=1000000) :
  Calls Tryz.prog 14 #[v] w fun e w'=>(∃Q,e=.returned Q/\w'.ownsRow w.heap.size 9 1 Q (bj (ar b)).length ((bj (ar b)).map S8))/\Ext w w':=by
 obtain⟨hr,C,H⟩:=hv;obtain⟨a,c,rfl,l1,l2,l3,hg⟩:=hr;rw[C]at l1 l3 ⊢;have W:Hid _:=C;have R:Hid _:=H;have HG:Hid _:=hg;clear C H hg;go_enter Tryz.func14,Tryz.ntmps14;go_wp2_with fail;go_loopw [3,10] (fun v i wr=>∃k:Nat,k<=b.length/\i=.int .i64 k/\Hid (wr.ownsRow w.heap.size 9 1 v (ar (b.take k)).length ((ar (b.take k)).map S8))/\Hid (Ext w wr)) (fun _ i _=>b.length - (intOf i).toNat)
 case atStart=>exact⟨0,Nat.zero_le _,rfl,World.ownsRow_nil _ _ _ _,Ext.refl _⟩
 case round =>
 obtain⟨k,hk,rfl,d,g⟩:=hrel;have ab:=mq b k
 by_cases J:k<b.length
 case neg =>
  have o:k=b.length:=by omega
  subst o;have B:IsStrs wr u3 (ar b):=by
   have y:=d.out;rw[List.take_length]at y;exact Row.GW y (by omega)
  have V:Hid _:=g.out.size;have N:=Af B hl;have X:Hid _:=N;obtain⟨sa,sc,he,-⟩:=B.get;subst he;clear B N;go_wp2_with fail;go_at_call 38;refine Calls.mono X.out ?_;rintro e w2 ⟨⟨Q,rfl,ho⟩,O⟩;have HO:Hid _:=World.ownsRow.mono ho V.out;have Y:Hid (Ext w w2):=g.out.trans O;clear ho O;go_wp2;go_ret;exact⟨⟨_,rfl,HO.out⟩,Y.out⟩
 obtain⟨l,z⟩:∃l,b[k]? = some l:=⟨_,List.getElem?_eq_getElem J⟩;obtain⟨u,n⟩:∃u,us[k]? = some u:=⟨_,List.getElem?_eq_getElem (by rw[W.out];exact J)⟩;obtain⟨bb,oo,rfl,hc⟩:=HG.out (by intro h0;rw[h0]at n;simp at n);have y1:=g.out.cell (hc k u n);have M:=R.out k u l n z;obtain⟨ra,rc,rfl,r1,r2,r3,L⟩:=M.cells;have U:Hid _:=L;have t:Hid _:=tZ z;have K:(ar (b.take k)).length+l.length<=1000000:=by
  have:=mq b (k+1);rw[t.out,List.length_append,List.length_map]at this;omega
 obtain⟨P,hP⟩:∃P,ar (b.take k)=P:=⟨_,rfl⟩;rw[hP]at d t ab K;have q:Hid (wr.ownsRow w.heap.size 9 1 u3 (P.length+0) ((P++(l.take 0).map (·.path)).map S8)):=by
  have y:=d.out;unfold Hid;rw[List.take_zero,List.map_nil,List.append_nil];exact y
 clear hc z n M L hP d;go_wp2_with fail;go_loopw [3,16] (fun v i wq=>∃j:Nat,j<=l.length/\i=.int .i64 j/\Hid (wq.ownsRow w.heap.size 9 1 v (P.length+j) ((P++(l.take j).map (·.path)).map S8))/\Hid (Ext w wq)) (fun _ i _=>l.length - (intOf i).toNat)
 case atStart=>exact⟨0,Nat.zero_le _,rfl,q,g⟩
 case round =>
 clear y1 q g;obtain⟨j,hj,rfl,d,g⟩:=hrel
 by_cases aa:j<l.length
 case neg =>
  have o:j=l.length:=by omega
  have T:Hid (wr.ownsRow w.heap.size 9 1 u3 (ar (b.take (k+1))).length ((ar (b.take (k+1))).map S8)):=by
   have y:=d.out;rw[o,List.take_length]at y;unfold Hid;rw[t.out,List.length_append,List.length_map];exact y
  clear o d;go_wp2_with fail;go_roundw
  case rel=>exact⟨k+1,by omega,by go_num,T,g⟩
  case measure=>simp[intOf];omega
 obtain⟨x,hx⟩:∃x,l[j]? = some x:=⟨_,List.getElem?_eq_getElem aa⟩;obtain⟨rb,ro,rfl,c0,c1,c2⟩:=U.out j x hx;have y0:=g.out.cell c0;have y1:=g.out.cell c1;have y2:=g.out.cell c2;have S:Hid _:=rZ hx;have r:(P++(l.take j).map (·.path)).length=P.length+j:=by rw[List.length_append,List.length_map,List.length_take];omega
 have ad:Hid _:=r;clear c0 c1 c2 hx r;go_upto_region 8 with fail;obtain⟨E,p⟩:∃E,E=wr.alloc (.cells #[S8 x.path,.int .i64 x.mode,S8 x.id] 50):=⟨_,rfl⟩;have D:Ext wr E:=by rw[p];exact(Ext.refl _).alloc _
 have G:E.heap[wr.heap.size]? = some (.cells #[S8 x.path,.int .i64 x.mode,S8 x.id] 50 (0,0)):=by rw[p];exact ah _ _
 rw[<-p];obtain⟨z0,z1,z2⟩:=cD G;have F:Hid (Ext w E):=g.out.trans D;have h:=az d.out D;have ag:=F.out.size;obtain⟨gi,I⟩:∃gi,wr.heap.size=gi:=⟨_,rfl⟩;rw[I]at z0 ⊢;clear p D G I z1 z2 y0 y1 y2
 go_wp2_with (at_builtin;go_must (refine gW rfl _ _ rfl w.heap.size _ (P.length+j) _ rfl (h.alloc _) E.heap.size 1 1 [x.path] rfl rfl (ah _ _) (by omega) (by simp;omega) ?_;intro Q w3 A Z))
 go_roundw
 case rel =>
  refine⟨j+1,by omega,by go_num,?_,aA (F.out.alloc _) (h.alloc _) Z⟩;unfold Hid;rw[S.out,<-List.append_assoc];exact A
 case measure=>simp[intOf];omega
theorem eB (v:Value) (l:List Rw) (p:B8) (w:World) (U:IsRws w v l) :
  Calls Tryz.prog 15 #[v,S8 p] w fun e w'=>e=.returned (iR (aj l p))/\Ext w w':=by
 obtain⟨a,W,rfl,l1,l2,l3,T⟩:=U.cells;have V:Hid _:=T;have Y:(⟨p.toArray⟩:ByteArray).toList=p:=Lib.toList_data _;clear U T;go_enter Tryz.func15,Tryz.ntmps15;go_upto_region 1 with fail;obtain⟨t,c⟩:∃t,t=w.alloc (.cells #[.int .i64 0,S8 []] 41):=⟨_,rfl⟩;have o:Hid (Ext w t):=by rw[c];exact(Ext.refl _).alloc _
 have u:Hid (t.heap[w.heap.size]? = some (.cells #[.int .i64 0,S8 []] 41 (0,0))):=by rw[c];exact ah _ _
 obtain⟨g,b⟩:∃g,w.heap.size=g:=⟨_,rfl⟩;have z:Hid _:=b;have A:Hid _:=c;rw[b]at u
 first | rw[<-c,b] | (rw[<-A.out,b])
 clear c b A;go_wp2_with fail;go_loopw [9] (fun i wr=>∃k:Nat,k<=l.length/\i=.int .i64 k/\Hid (Ext t wr)/\Hid (∀r∈l.take k,r.path≠p)) (fun i _=>l.length - (intOf i).toNat)
 case atStart=>exact⟨0,Nat.zero_le _,rfl,Ext.refl _,fun r X=>by simp at X⟩
 case round =>
 obtain⟨k,hk,rfl,h,G⟩:=hrel;have d:Hid _:=h.out.row u.out;have K:=d.out
 by_cases M:k<l.length
 case neg =>
  have L:k=l.length:=by omega
  subst L;have I:Hid (aj l p=(0,[])):=AF (by have:=G.out;rwa [List.take_length]at this)
  go_wp2_with (refine wpList_store_row rfl 41 (.tmp 4) (.tmp 20) rfl g #[.int .i64 0,S8 []] rfl rfl 41 _ d.out aJ rfl (by simp[Value.oneCell']) ?_)
  refine bodyPost_ret (results_cell_row rfl _ _ g 41 #[.int .i64 0,S8 []] (0,0) _ rfl (setRow_heap _ _ _ _ _ _ d.out) Tryz.underlying41 rfl aJ) rfl ?_;exact⟨by rw[I.out];rfl,Ext.but (o.out.trans h.out) (aw _ _ _) (Nat.le_of_eq z.out)⟩
 obtain⟨x,N⟩:∃x,l[k]? = some x:=⟨_,List.getElem?_eq_getElem M⟩;obtain⟨bb,oo,rfl,P,Q,R⟩:=V.out k x N;have n:=o.out.trans h.out;have y0:=n.cell P;have y1:=n.cell Q;have y2:=n.cell R;have Z:(⟨x.path.toArray⟩:ByteArray).toList=x.path:=Lib.toList_data _;have O:Hid _:=N;obtain⟨J,D⟩:∃J,(x.path==p)=J:=⟨_,rfl⟩;clear P Q R N n;go_upto_region 4 with fail;obtain⟨F,j⟩:∃F,F=wr.alloc (.cells #[S8 x.path,.int .i64 x.mode,S8 x.id] 50):=⟨_,rfl⟩;have q:Ext wr F:=by rw[j];exact(Ext.refl _).alloc _
 have C:F.heap[wr.heap.size]? = some (.cells #[S8 x.path,.int .i64 x.mode,S8 x.id] 50 (0,0)):=by rw[j];exact ah _ _
 rw[<-j];obtain⟨z0,z1,z2⟩:=cD C;have B:Hid (Ext t F):=h.out.trans q;have y:Hid _:=q.row d.out;obtain⟨S,E⟩:∃S,wr.heap.size=S:=⟨_,rfl⟩;rw[E]at z0 z1 z2 ⊢;clear j q C E y0 y1 y2 K
 cases J with
 | true =>
  obtain rfl:x.path=p:=by simpa using D
  have I:Hid (aj l x.path=(x.mode,x.id)):=DJ G.out O.out
  go_wp2_with (refine wpList_store_row rfl 41 (.tmp 4) (.tmp 18) rfl g #[.int .i64 x.mode,S8 x.id] rfl rfl 41 _ y.out aJ rfl (by simp[Value.oneCell']) ?_)
  refine bodyPost_ret (results_cell_row rfl _ _ g 41 #[.int .i64 x.mode,S8 x.id] (0,0) _ rfl (setRow_heap _ _ _ _ _ _ y.out) Tryz.underlying41 rfl aJ) rfl ?_;exact⟨by rw[I.out];rfl,Ext.but (o.out.trans B.out) (aw _ _ _) (Nat.le_of_eq z.out)⟩
 | false =>
  have H:Hid (∀r∈l.take (k+1),r.path≠p):=CH G.out O.out (by simpa using D);go_wp2;go_roundw
  case rel=>exact⟨k+1,by omega,by go_num,B,H⟩
  case measure=>simp[intOf];omega
def Fk (l:List B8) (e:Ending):Prop:=∃c:Bool,e=.returned (.bool c)/\(c=true↔dR l)
end
section
open Go Go.RowKit Go.Sort
variable {w:World}
theorem Dj {us:List Value} {a:List (List Rw)} (d:us.length=a.length) (e:us.length<=1000) (h:∀(k:Nat) (u:Value) (l:List Rw),us[k]? = some u->a[k]? = some l->IsRws w u l) :
  IsTbs (w.alloc (.cells us.toArray 23)) (.slice (some ⟨w.heap.size,0,none⟩) us.length us.length) us a :=
 ⟨Row.new (ah w _) (by omega) _ rfl,d,fun k u l b c=>(h k u l b c).ext ((Ext.refl _).alloc _)⟩
theorem xN {u v x:Value} {a b c:List Rw} (g:IsRws w u a) (h:IsRws w v b) (i:IsRws w x c):IsTbs (w.alloc (.cells #[u,v,x] 23)) (.slice (some ⟨w.heap.size,0,none⟩) 3 3) [u,v,x] [a,b,c] :=
 Dj (us:=[u,v,x]) rfl (by simp) (fun k y l d e=>by
  match k,d,e with
  | 0,d,e=>cases d;cases e;exact g
  | 1,d,e=>cases d;cases e;exact h
  | 2,d,e=>cases d;cases e;exact i
  | k+3,d,e=>simp at d)
end
end Go.Proofs.YtgfegpnmlkdjfaaGreatDoor
