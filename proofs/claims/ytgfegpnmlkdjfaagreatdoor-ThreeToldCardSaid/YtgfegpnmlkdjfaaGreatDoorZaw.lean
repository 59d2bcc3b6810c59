/- Contracts of the program's functions and plain laws behind the card. Conditions: as each theorem states. -/
import Derived.Test.YtgfegpnmlkdjfaaGreatDoorZas
import Derived.Lib.AppendStr
import Derived.Test.YtgfegpnmlkdjfaaGreatDoorZaf
import Derived.Deep.DeepCutAuto
set_option linter.unusedVariables false
set_option linter.unusedSimpArgs false
set_option linter.unusedSectionVars false
set_option maxRecDepth 100000
set_option maxHeartbeats 64000000
namespace Go.Proofs.YtgfegpnmlkdjfaaGreatDoor
section
open Go Go.RowKit
structure kD (o:Ob):Prop where
 items:uZ o.items
 IV:∀s∈o.parents,s.length<=140737488355328
 tree:o.tree.length<=10000000
 msg:o.msg.length<=10000000
theorem bt {w:World} {g:Nat} {a b c d e i j k:Value} {t:TypeId} {fr:Nat×Nat} (h:w.heap[g]? = some (.cells #[a,b,c,d,e,i,j,k] t fr)) :
  w.cell? ⟨g,0,none⟩=some a/\w.cell? ⟨g,1,none⟩=some b/\w.cell? ⟨g,2,none⟩=some c/\w.cell? ⟨g,3,none⟩=some d/\w.cell? ⟨g,4,none⟩=some e/\w.cell? ⟨g,5,none⟩=some i/\w.cell? ⟨g,6,none⟩=some j/\w.cell? ⟨g,7,none⟩=some k:=by
 simp[World.cell?,h]
theorem Bb (v:Value) (o:Ob) (w:World) (hv:IsOb w v o) (X:kD o) :
  Calls Tryz.prog 122 #[v] w fun e t=>e=.returned (.bool (ew o))/\Ext w t:=by
 obtain⟨vd,S,T,rfl,hd,hi,hp⟩:=hv;obtain⟨J,D⟩:∃J,J=w.alloc (.cells #[.int .i64 o.kind,vd,S,S8 o.tree,T,.int .i64 o.GZ,.int .i64 o.GY,S8 o.msg] 141):=⟨_,rfl⟩;have Z:Ext w J:=by rw[D];exact(Ext.refl _).alloc _
 have C:J.heap[w.heap.size]? = some (.cells #[.int .i64 o.kind,vd,S,S8 o.tree,T,.int .i64 o.GZ,.int .i64 o.GY,S8 o.msg] 141 (0,0)):=by rw[D];exact ah _ _
 obtain⟨gb,ai⟩:∃gb,w.heap.size=gb:=⟨_,rfl⟩;have A:Hid (∀t,Ext w t->Calls Tryz.prog 146 #[obV o vd S T] t fun e E=>e=.returned (.bool (ni o))/\Ext t E):=fun t Y=>tP o vd S T t (hp.ext Y)
 have K:Hid (∀t,Ext w t->Calls Tryz.prog 147 #[S] t fun e E=>e=.returned (.bool (eF o.items))/\Ext t E):=fun t Y=>tK S o.items t (hi.ext Y) X.items
 have L:Hid (∀t,Ext w t->Calls Tryz.prog 148 #[T] t fun e E=>e=.returned (.bool (eX o.parents))/\Ext t E):=fun t Y=>qA T o.parents t (hp.ext Y) X.IV
 obtain⟨da,dc,rfl,-,-,-,-⟩:=hd.get;obtain⟨ia,ic,rfl,-,-,-,-⟩:=hi.get;obtain⟨ao,am⟩:o.tree.length<=10000000/\o.msg.length<=10000000:=⟨X.tree,X.msg⟩;obtain⟨g,b,a,x,l,h,d,z⟩:=o;obtain⟨r,hr⟩:∃r,ew ⟨g,b,a,x,l,h,d,z⟩=r:=⟨_,rfl⟩;rw[hr];have HR:Hid _:=hr;obtain⟨nc,N⟩:∃c,ni ⟨g,b,a,x,l,h,d,z⟩=c:=⟨_,rfl⟩;rw[N]at A;have V:Hid _:=N;unfold obV at A ⊢;dsimp only at A K L C D ao am ⊢;obtain⟨io,M⟩:∃c,eF a=c:=⟨_,rfl⟩;rw[M]at K;have aa:Hid _:=M;obtain⟨po,O⟩:∃c,eX l=c:=⟨_,rfl⟩;rw[O]at L;have ab:Hid _:=O;rw[ai]at C;obtain⟨c0,c1,c2,c3,c4,c5,c6,c7⟩:=bt C;have k:Hid (Ext w J):=Z;have ag:Hid _:=D;have U:Hid _:=C;clear hd hi hp X hr N M O Z D C;go_enter Tryz.func122,Tryz.ntmps122;go_upto_region 1 with fail;rw[<-ag.out]
 by_cases F:g=1
 .have b1:(g==1)=true:=by simpa using F
  have n:Hid (r=(decide (b.length<=20000) && ((a.length==0) && nc))):=by rw[<-HR.out,<-V.out];unfold Hid ew;rw[if_pos F]
  clear F
  by_cases B:(b.length:Int)<=20000
  .by_cases H:a.length=0
   .have W:((a.length:Int)==0)=true:=by rw[beq_iff_eq];omega
    have j:Hid (r=nc):=by unfold Hid;rw[n.out,H,decide_eq_true (by omega:b.length<=20000)];rfl
    clear H;go_wp2_with fail;go_at_call 146;refine(A.out J k.out).mono ?_;rintro e Q ⟨rfl,p⟩;have q:Hid (Ext w Q):=k.out.trans p;clear p;go_wp2;go_ret;exact⟨aM j.out.symm,q.out⟩
   .have W:((a.length:Int)==0)=false:=by rw[beq_eq_false_iff_ne];omega
    have j:Hid (r=false):=by unfold Hid;rw[n.out,show(a.length==0)=false by simpa using H];simp
    clear H;go_wp2;go_ret;exact⟨aM j.out.symm,k.out⟩
  .have j:Hid (r=false):=by unfold Hid;rw[n.out,decide_eq_false (by omega:¬b.length<=20000)];rfl
   go_wp2;go_ret;exact⟨aM j.out.symm,k.out⟩
 have b1:(g==1)=false:=by simpa using F
 by_cases I:g=2
 .have b2:(g==2)=true:=by simpa using I
  have n:Hid (r=((b.length==0) && (io && nc))):=by rw[<-HR.out,<-V.out,<-aa.out];unfold Hid ew;rw[if_neg F,if_pos I]
  clear F I
  by_cases B:b.length=0
  .have W:((b.length:Int)==0)=true:=by rw[beq_iff_eq];omega
   have i:Hid (r=(io && nc)):=by unfold Hid;rw[n.out,B];rfl
   clear B;go_wp2_with fail;go_at_call 147;refine(K.out J k.out).mono ?_;rintro e Q ⟨rfl,p⟩;have q:Hid (Ext w Q):=k.out.trans p;have G:Hid _:=Ext.row p U.out;obtain⟨d0,d1,d2,d3,d4,d5,d6,d7⟩:=bt G.out;clear p
   cases io with
   | true =>
    have j:Hid (r=nc):=by unfold Hid;rw[i.out];rfl
    go_wp2_with fail;go_at_call 146;refine(A.out Q q.out).mono ?_;rintro e w2 ⟨rfl,y⟩;have u:Hid (Ext w w2):=q.out.trans y;clear y;go_wp2;go_ret;exact⟨aM j.out.symm,u.out⟩
   | false =>
    have j:Hid (r=false):=by unfold Hid;rw[i.out];rfl
    go_wp2;go_ret;exact⟨aM j.out.symm,q.out⟩
  .have W:((b.length:Int)==0)=false:=by rw[beq_eq_false_iff_ne];omega
   have j:Hid (r=false):=by unfold Hid;rw[n.out,show(b.length==0)=false by simpa using B];rfl
   clear B;go_wp2;go_ret;exact⟨aM j.out.symm,k.out⟩
 have b2:(g==2)=false:=by simpa using I
 by_cases R:g=3
 .have W:(g==3)=true:=by simpa using R
  have n:Hid (r=((b.length==0) && ((a.length==0) && (aO x && (po && ((decide (0<=h) && decide (h<=1099511627776)) && ((decide (0<=d) && decide (d<=255)) && iA z))))))):=by rw[<-HR.out,<-ab.out];unfold Hid ew;rw[if_neg F,if_neg I,if_pos R]
  clear F I R
  by_cases B:b.length=0
  case neg =>
   have b4:((b.length:Int)==0)=false:=by rw[beq_eq_false_iff_ne];omega
   have j:Hid (r=false):=by unfold Hid;rw[n.out,show(b.length==0)=false by simpa using B];rfl
   clear B;go_wp2;go_ret;exact⟨aM j.out.symm,k.out⟩
  have b4:((b.length:Int)==0)=true:=by rw[beq_iff_eq];omega
  by_cases H:a.length=0
  case neg =>
   have b5:((a.length:Int)==0)=false:=by rw[beq_eq_false_iff_ne];omega
   have j:Hid (r=false):=by unfold Hid;rw[n.out,show(a.length==0)=false by simpa using H];simp
   clear B H;go_wp2;go_ret;exact⟨aM j.out.symm,k.out⟩
  have b5:((a.length:Int)==0)=true:=by rw[beq_iff_eq];omega
  obtain⟨vt,P⟩:∃vt,aO x=vt:=⟨_,rfl⟩;have ad:Hid _:=P;have i:Hid (r=(vt && (po && ((decide (0<=h) && decide (h<=1099511627776)) && ((decide (0<=d) && decide (d<=255)) && iA z))))):=by unfold Hid;rw[n.out,B,H,P];rfl
  clear B H P;go_wp2_with fail;go_at_call 35;refine(kr x J (by omega)).mono ?_;rw[ad.out];rintro e Q ⟨rfl,p⟩;have q:Hid (Ext w Q):=k.out.trans p;have G:Hid _:=Ext.row p U.out;obtain⟨d0,d1,d2,d3,d4,d5,d6,d7⟩:=bt G.out;clear p
  cases vt with
  | false =>
   have j:Hid (r=false):=by unfold Hid;rw[i.out];rfl
   go_wp2;go_ret;exact⟨aM j.out.symm,q.out⟩
  | true =>
  go_wp2_with fail;go_at_call 148;refine(L.out Q q.out).mono ?_;rintro e w2 ⟨rfl,y⟩;have u:Hid (Ext w w2):=q.out.trans y;obtain⟨e0,e1,e2,e3,e4,e5,e6,e7⟩:=bt (Ext.row y G.out);clear y
  cases po with
  | false =>
   have j:Hid (r=false):=by unfold Hid;rw[i.out];rfl
   go_wp2;go_ret;exact⟨aM j.out.symm,u.out⟩
  | true =>
  by_cases h6:(0:Int)<=h
  case neg =>
   have j:Hid (r=false):=by unfold Hid;rw[i.out,decide_eq_false h6];rfl
   go_wp2;go_ret;exact⟨aM j.out.symm,u.out⟩
  by_cases h7:h<=1099511627776
  case neg =>
   have j:Hid (r=false):=by unfold Hid;rw[i.out,decide_eq_false h7];simp
   go_wp2;go_ret;exact⟨aM j.out.symm,u.out⟩
  by_cases h8:(0:Int)<=d
  case neg =>
   have j:Hid (r=false):=by unfold Hid;rw[i.out,decide_eq_false h8];simp
   go_wp2;go_ret;exact⟨aM j.out.symm,u.out⟩
  by_cases h9:d<=255
  case neg =>
   have j:Hid (r=false):=by unfold Hid;rw[i.out,decide_eq_false h9];simp
   go_wp2;go_ret;exact⟨aM j.out.symm,u.out⟩
  have j:Hid (r=iA z):=by unfold Hid;rw[i.out,decide_eq_true h6,decide_eq_true h7,decide_eq_true h8,decide_eq_true h9];rfl
  go_wp2_with fail;go_at_call 149;refine(xh z w2 (by omega)).mono ?_;rintro e w3 ⟨rfl,rfl⟩;go_wp2;go_ret;exact⟨aM j.out.symm,u.out⟩
 .have W:(g==3)=false:=by simpa using R
  have j:Hid (r=false):=by rw[<-HR.out];unfold Hid ew;rw[if_neg F,if_neg I,if_neg R]
  clear F I R;go_wp2;go_ret;exact⟨aM j.out.symm,k.out⟩
end
section
open Go Go.RowKit
abbrev U8s (l:B8):List Value:=l.map fun x=>.int .u8 x.toNat
theorem wi (l r:B8):U8s (l++r)=U8s l++U8s r:=List.map_append
variable {w w1:World}
theorem qZ {a:World} {g:Option Nat} (h:Ext w w1) (k:w1.grownBy a g):w.grownBy a g:=(h.grown.but g).trans k
def Near (w:World) (v v':Value):Prop:=∀k,v'.ownBlock=some k->v.ownBlock=some k\/w.heap.size<=k
variable {v v':Value}
theorem Near.of (h:v'.ownBlock=v.ownBlock\/v'.ownBlock=some w.heap.size):Near w v v':=fun k a=>by
 rcases h with h | h
 .exact .inl (h.symm.trans a)
 .rw [h]at a;cases a;exact .inr (Nat.le_refl _)
abbrev Ow (a:Nat) (w:World) (v:Value) (l:B8):Prop:=w.ownsRow a 5 1 v l.length (U8s l)
theorem nV (a:Nat) (o:TypeId) (v:Value) (l:B8) (c:Ow a w v l) (xv:Value) (r:B8) (d:IsBytes w xv r) (n:l.length+r.length<=1000000000) (b:a<=w.heap.size) :
  ∃v' e,(Builtin.append_ #[52,52] 52 #[v,xv]).run Tryz.prog w=.ok v' e/\Ow a e v' (l++r)/\w.grownBy e v.ownBlock/\Near w v v':=by
 obtain⟨v',e,j,g,h,i⟩:=js 52 5 (.int .u8 0) 1 1 Tryz.underlying52 jl rfl (by omega) a v l.length _ c xv r.length (U8s r) d (by simp) (fun u k=>by obtain⟨_,_,rfl⟩:=List.mem_map.1 k;rfl) (by omega) (by omega) b;exact⟨v',e,j,by unfold Ow;rw[List.length_append,wi];exact g,h,Near.of i⟩
theorem sL (d:Nat) (v:Value) (l:B8) (e:Ow d w v l) (r:B8) (V:l.length+r.length<=1000000000) (n:d<=w.heap.size) :
  ∃v' h,(Builtin.append_ #[52,9] 52 #[v,S8 r]).run Tryz.prog w=.ok v' h/\Ow d h v' (l++r)/\w.grownBy h v.ownBlock/\Near w v v':=by
 obtain⟨L,H,z,q,A⟩:=info_parts jl;have c:(⟨r.toArray⟩:ByteArray).size=r.length:=by simp[ByteArray.size]
 have B:∀b,w.ownsRow b 5 1 v l.length (U8s l)->b<=w.heap.size->∃v' h,(Builtin.append_ #[52,9] 52 #[v,S8 r]).run Tryz.prog w=.ok v' h/\h.ownsRow b 5 1 v' (l++r).length (U8s (l++r))/\w.grownBy h v.ownBlock:=fun b Q E=>by
  obtain⟨v',h,t,C,D,-⟩:=Lib.run_append_own_string (P:=Tryz.prog) w b 52 9 52 5 L Tryz.underlying52 Tryz.underlying9 H z q A v l.length _ Q ⟨r.toArray⟩ (by rw[c];unfold maxLen;omega) (by rw[c];omega) E;rw[c]at C;exact⟨v',h,t,by rw[List.length_append,wi];exact C,D⟩
 obtain⟨v',h,t,C,D⟩:=B d e n;refine⟨v',h,t,C,D,?_⟩;have N:=e;rcases e.2 with⟨rfl,T⟩ | ⟨g,i,x,rfl,R,S,U,F,G,K⟩
 .have J:l.length=0:=T;have I:l=[]:=List.eq_nil_of_length_eq_zero J;subst I;obtain⟨W,X,a,O,-⟩:=B w.heap.size (World.ownsRow_nil _ _ _ _) (Nat.le_refl _);rw[t]at a;cases a;exact fun k y=>.inr (O.lt k y).1
 .by_cases p:l.length+r.length<=i
  .have M:x.size=i:=by simpa using G
   have a:=Lib.run_append_room_string (P:=Tryz.prog) w 52 9 52 5 L Tryz.underlying52 Tryz.underlying9 H q g l.length i x S ⟨r.toArray⟩ (by rw[c];exact p) (by omega);rw[t]at a;cases a;exact fun k y=>.inl y
  .have o:∀j u,(U8s l)[j]? = some u->w.cell? ((⟨g,0,none⟩:Addr).add j)=some u:=N.cells (g:=g) rfl;have a:=Lib.run_append_grow_string (P:=Tryz.prog) w 52 9 52 5 L (.int .u8 0) Tryz.underlying52 Tryz.underlying9 H z ⟨g,0,none⟩ l.length i (U8s l) (by rw[q];simp) o ⟨r.toArray⟩ (by rw[c];unfold maxLen at F;omega) (by rw[c];omega) (by rw[A,c];exact growslice_fits (by omega) (by omega));rw[t]at a;cases a;exact fun k y=>by cases y;exact .inr (Nat.le_refl _)
section
variable {ops:Array Oper} {rest:List Oper} {o:Oper} {a:Act} {Q:Exit->Act->World->Prop} {w:World}
theorem sM (i:o.guard=none) (s x:Operand) (u:o.op=.call { callee:=.builtin .append,args:=#[s,x],argTypes:=#[52,52] }) (j:o.type=52)
  (b:Nat) (v:Value) (l:B8) (z:a.eval s=v) (d:Ow b w v l)
  (xv:Value) (r:B8) (A:a.eval x=xv) (e:IsBytes w xv r) (t:l.length+r.length<=1000000000) (c:b<=w.heap.size)
  (h:∀v' g,Ow b g v' (l++r)->w.grownBy g v.ownBlock->Near w v v'->wpList Tryz.prog ops Q rest (a.put o.dst v') g):wpList Tryz.prog ops Q (o::rest) a w:=by
 refine wpList_plain i fun K q=>?_
 obtain⟨v',g,y,k,n,p⟩:=nV b 52 v l d xv r e t c;unfold Oper.wp execOp;simp only[u,j,resolve,invoke,builtin,Sem.run_bind,Sem.run_pure,Result.andThen_ok,List.map_toArray,List.map_cons,List.map_nil,z,A,y];exact q _ _ (h v' g k n p)
theorem DC (g:o.guard=none) (s x:Operand) (t:o.op=.call { callee:=.builtin .append,args:=#[s,x],argTypes:=#[52,9] }) (i:o.type=52)
  (b:Nat) (v:Value) (l:B8) (y:a.eval s=v) (d:Ow b w v l)
  (r:B8) (z:a.eval x=S8 r) (q:l.length+r.length<=1000000000) (c:b<=w.heap.size)
  (h:∀v' e,Ow b e v' (l++r)->w.grownBy e v.ownBlock->Near w v v'->wpList Tryz.prog ops Q rest (a.put o.dst v') e):wpList Tryz.prog ops Q (o::rest) a w:=by
 refine wpList_plain g fun K p=>?_
 obtain⟨v',e,u,j,k,n⟩:=sL b v l d r q c;unfold Oper.wp execOp;simp only[t,i,resolve,invoke,builtin,Sem.run_bind,Sem.run_pure,Result.andThen_ok,List.map_toArray,List.map_cons,List.map_nil,y,z,u];exact p _ _ (h v' e j k n)
end
theorem Near.Hc (h:Near w1 v v') (b:w.heap.size<=w1.heap.size):Near w v v':=fun k a=>by
 rcases h k a with h | h
 .exact .inl h
 .exact .inr (Nat.le_trans b h)
theorem gS (v:Value) (l:B8) (n:Int) (a:Nat) (w:World) (d:Ow a w v l) (H:a<=w.heap.size) (I:l.length<=100000000) :
  Calls Tryz.prog 123 #[v,.int .i64 n] w fun e D=>∃v',e=.returned v'/\Ow a D v' (l++(putW n).1)/\w.grownBy D v.ownBlock/\Near w v v':=by
 have E:Hid _:=d;have o:(putW n).1.length<=9:=by
  unfold putW;split
  .simp
  .exact cM (by omega)
 have t:v=.slice none 0 0\/∃g c,v=.slice (some ⟨g,0,none⟩) l.length c:=by
  rcases d.2 with⟨h,-⟩ | ⟨g,c,F,h,-⟩
  .exact .inl h
  .exact .inr ⟨g,c,h⟩
 clear d;obtain⟨J,L,K,rfl⟩:∃b n c,v=.slice b n c:=by
  rcases t with h | ⟨g,c,h⟩
  iterate 2
   .exact ⟨_,_,_,h⟩
 clear t;have u:Hid _:=BH n w;obtain⟨⟨p,e⟩,B⟩:∃q,putW n=q:=⟨_,rfl⟩;rw[B]at o u ⊢;clear B;go_enter Tryz.func123,Tryz.ntmps123;go_wp2_with fail;go_at_call 150;refine Calls.mono u.out ?_;rintro G w1 ⟨⟨x,rfl,C⟩,j⟩;have y:Hid (IsBytes w1 x p):=by unfold Hid IsBytes;exact Row.GW C (by omega)
 have k:Hid (Ext w w1):=j;have r:=j.size;clear C j u
 try dsimp only at o ⊢
 go_wp2_with (at_builtin;go_must (refine sM rfl _ _ rfl rfl a _ l rfl (az E.out k.out) _ p rfl y.out (by omega) (by omega) ?_;intro v' M i z A))
 go_ret;exact⟨_,rfl,i,qZ k.out z,A.Hc r⟩
theorem lZ (v:Value) (l id:B8) (a:Nat) (w:World) (d:Ow a w v l) (L:a<=w.heap.size) (M:l.length<=100000000) (i:aO id=true) :
  Calls Tryz.prog 124 #[v,S8 id] w fun e G=>∃v',e=.returned v'/\Ow a G v' (l++cI id)/\w.grownBy G v.ownBlock/\Near w v v':=by
 have H:Hid _:=d;obtain⟨A,-⟩:=my i;obtain⟨N,P,O,rfl⟩:∃b n c,v=.slice b n c:=by
  rcases d.2 with⟨h,-⟩ | ⟨g,c,I,h,-⟩
  iterate 2
   .exact ⟨_,_,_,h⟩
 clear d;have C:id.length<=30000000:=by
  unfold aO at i
  cases t:aY id with
  | none=>rw[t]at i;cases i
  | some b =>
   rw[t]at i;have K:=(iN id t).1;have:b.length=32:=by simpa using i
   omega
 have u:aY id=some (cI id):=by
  unfold aO at i;unfold cI
  cases t:aY id with
  | none=>rw[t]at i;cases i
  | some b=>rfl
 have q:=rP id w (Nat.le_trans C (by decide));unfold gC at q;rw[u]at q;dsimp only at q;have y:Hid _:=q;obtain⟨p,E⟩:∃p,cI id=p:=⟨_,rfl⟩;rw[E]at A y ⊢;clear q E u i;go_enter Tryz.func124,Tryz.ntmps124;go_wp2_with fail;go_at_call 55;refine Calls.mono y.out ?_;rintro J w1 ⟨⟨x,rfl,F⟩,k⟩;have z:Hid (IsBytes w1 x p):=F;have o:Hid (Ext w w1):=k;have r:=k.size;clear F k y
 go_wp2_with (at_builtin;go_must (refine sM rfl _ _ rfl rfl a _ l rfl (az H.out o.out) _ p rfl z.out (by omega) (by omega) ?_;intro v' Q j B D))
 go_ret;exact⟨_,rfl,j,qZ o.out B,D.Hc r⟩
end
section
open Go Go.RowKit
structure ChJ (w0:World) (base:Nat) (v0:Value) (c:UInt8) (l0 l1 l2 l3:B8) (zl za zb zc:Option Value) (w:World):Prop where
 ext:w0.grownBy w v0.ownBlock
 cur:∃cv cl,((za=none/\zb=none/\zc=none/\cv=v0/\cl=l0)\/(za=some cv/\zb=none/\zc=none/\cl=l1)\/(za≠none/\zb=some cv/\zc=none/\cl=l2)\/(za≠none/\zb≠none/\zc=some cv/\cl=l3)) /\
  Ow base w cv cl/\Near w0 v0 cv/\∀u,zl=some u->∃g,u=.slice (some ⟨g,0,none⟩) 1 1/\w.heap[g]? = some (.cells #[.int .u8 c.toNat] 5 (0,0))/\cv.ownBlock≠some g
section
variable {w0 w w':World} {base:Nat} {v0 v':Value} {c:UInt8} {l0 l1 l2 l3:B8} {zl za zb zc:Option Value}
theorem ChJ.start (h:Ow base w0 v0 l0) (a:Ext w0 w):ChJ w0 base v0 c l0 l1 l2 l3 none none none none w :=
 ⟨a.grown.but _,v0,l0,.inl ⟨rfl,rfl,rfl,rfl,rfl⟩,az h a,fun k b=>.inl b,fun u d=>by cases d⟩
variable {x:Value}
theorem ChJ.cell {a:Addr} (h:ChJ w0 base v0 c l0 l1 l2 l3 zl za zb zc w) (b:v0.ownBlock≠some a.block) (d:w0.cell? a=some x):w.cell? a=some x:=by
 rw[World.cell?_of_block (h.ext.block _ (World.block_lt_of_cell? _ _ d) (fun e=>b e.symm))];exact d
theorem nY {d:Value} {g:Nat} (q:w0.grownBy w v0.ownBlock) (a:Near w0 v0 d) (l:w.grownBy w' d.ownBlock) (n:Near w d v'):w0.grownBy w' v0.ownBlock/\Near w0 v0 v'/\(∀g o,w.heap[g]? = some o->d.ownBlock≠some g->w'.heap[g]? = some o/\v'.ownBlock≠some g):=by
 refine⟨q.andThen l (fun j r=>?_),fun k t=>?_,fun g o p b=>?_⟩
 .rcases a j r with h | h
  .exact .inr h
  .exact .inl h
 .rcases n k t with h | h
  .exact a k h
  .exact .inr (Nat.le_trans q.size h)
 .have i:=(Array.getElem?_eq_some_iff.1 p).1;refine⟨(l.block g i (fun e=>b e.symm)).trans p,fun e=>?_⟩;rcases n g e with h | h
  .exact b h
  .omega
theorem ChJ.Hz (h:ChJ w0 base v0 c l0 l1 l2 l3 zl none zb zc w):Ow base w v0 l0:=by
 obtain⟨e,d,b,a,-⟩:=h.cur;rcases b with⟨-,-,-,rfl,rfl⟩ | ⟨h,-⟩ | ⟨h,-⟩ | ⟨h,-⟩
 .exact a
 .cases h
 iterate 2
  .exact absurd rfl h
theorem ChJ.G8 (h:ChJ w0 base v0 c l0 l1 l2 l3 zl none zb zc w) (p:Ow base w' v' l1) (l:w.grownBy w' v0.ownBlock) (o:Near w v0 v'):ChJ w0 base v0 c l0 l1 l2 l3 zl (some v') zb zc w':=by
 obtain⟨z,y,q,-,b,n⟩:=h.cur;rcases q with⟨-,j,k,rfl,rfl⟩ | ⟨h,-⟩ | ⟨h,-⟩ | ⟨h,-⟩
 .obtain ⟨t,x,i⟩:=nY (g:=0) h.ext b l o;refine⟨t,v',l1,.inr (.inl ⟨rfl,j,k,rfl⟩),p,x,fun u r=>?_⟩;obtain⟨g,e,d,a⟩:=n u r;exact⟨g,e,(i g _ d a).1,(i g _ d a).2⟩
 .cases h
 iterate 2
  .exact absurd rfl h
variable {u:Value}
theorem ChJ.Hx (h:ChJ w0 base v0 c l0 l1 l2 l3 zl za none zc w) (b:za=some u):Ow base w u l1:=by
 obtain⟨i,g,e,d,-⟩:=h.cur;rcases e with⟨a,-⟩ | ⟨a,-,-,rfl⟩ | ⟨-,a,-⟩ | ⟨-,a,-⟩
 .rw [b]at a;cases a
 .rw [b]at a;cases a;exact d
 .cases a
 .exact absurd rfl a
theorem ChJ.Hh (h:ChJ w0 base v0 c l0 l1 l2 l3 zl za none zc w) (d:za=some u) (q:Ow base w' v' l2) (n:w.grownBy w' u.ownBlock) (p:Near w u v'):ChJ w0 base v0 c l0 l1 l2 l3 zl za (some v') zc w':=by
 obtain⟨A,z,r,-,i,o⟩:=h.cur;rcases r with⟨a,-⟩ | ⟨a,-,l,rfl⟩ | ⟨-,a,-⟩ | ⟨-,a,-⟩
 .rw [d]at a;cases a
 .rw [d]at a;cases a;obtain⟨x,y,k⟩:=nY (g:=0) h.ext i n p;refine⟨x,v',l2,.inr (.inr (.inl ⟨by rw[d];simp,rfl,l,rfl⟩)),q,y,fun u t=>?_⟩;obtain⟨g,e,j,b⟩:=o u t;exact⟨g,e,(k g _ j b).1,(k g _ j b).2⟩
 .cases a
 .exact absurd rfl a
theorem ChJ.Hy (h:ChJ w0 base v0 c l0 l1 l2 l3 zl za zb none w) (b:zb=some u):Ow base w u l2:=by
 obtain⟨i,g,e,d,-⟩:=h.cur;rcases e with⟨-,a,-⟩ | ⟨-,a,-⟩ | ⟨-,a,-,rfl⟩ | ⟨-,-,a,-⟩
 iterate 2
  .rw [b]at a;cases a
 .rw [b]at a;cases a;exact d
 .cases a
theorem ChJ.ID (h:ChJ w0 base v0 c l0 l1 l2 l3 zl za zb none w) (b:zb=some u):Near w0 v0 u:=by
 obtain⟨i,g,e,-,d,-⟩:=h.cur;rcases e with⟨-,a,-⟩ | ⟨-,a,-⟩ | ⟨-,a,-,rfl⟩ | ⟨-,-,a,-⟩
 iterate 2
  .rw [b]at a;cases a
 .rw [b]at a;cases a;exact d
 .cases a
theorem ChJ.IW (h:ChJ w0 base v0 c l0 l1 l2 l3 zl za zb none w) (d:zb=some u) (q:Ow base w' v' l3) (n:w.grownBy w' u.ownBlock) (p:Near w u v'):ChJ w0 base v0 c l0 l1 l2 l3 zl za zb (some v') w':=by
 obtain⟨A,z,r,-,i,o⟩:=h.cur;rcases r with⟨-,a,-⟩ | ⟨-,a,-⟩ | ⟨l,a,-,rfl⟩ | ⟨-,-,a,-⟩
 iterate 2
  .rw [d]at a;cases a
 .rw [d]at a;cases a;obtain⟨x,y,k⟩:=nY (g:=0) h.ext i n p;refine⟨x,v',l3,.inr (.inr (.inr ⟨l,by rw[d];simp,rfl,rfl⟩)),q,y,fun u t=>?_⟩;obtain⟨g,e,j,b⟩:=o u t;exact⟨g,e,(k g _ j b).1,(k g _ j b).2⟩
 .cases a
theorem ChJ.IU (h:ChJ w0 base v0 c l0 l1 l2 l3 zl za zb zc w) (b:zc=some u):Ow base w u l3:=by
 obtain⟨i,g,e,d,-⟩:=h.cur;rcases e with⟨-,-,a,-⟩ | ⟨-,-,a,-⟩ | ⟨-,-,a,-⟩ | ⟨-,-,a,rfl⟩
 iterate 3
  .rw [b]at a;cases a
 .rw [b]at a;cases a;exact d
theorem ChJ.Ha (h:ChJ w0 base v0 c l0 l1 l2 l3 none za zb zc w):ChJ w0 base v0 c l0 l1 l2 l3 (some (.slice (some ⟨w.heap.size,0,none⟩) 1 1)) za zb zc (w.alloc (.cells #[.int .u8 c.toNat] 5)):=by
 obtain⟨i,g,j,b,a,l⟩:=h.cur;have d:Ext w (w.alloc (.cells #[.int .u8 c.toNat] 5)):=(Ext.refl w).alloc _;refine⟨h.ext.trans (d.grown.but _),i,g,j,az b d,a,fun u k=>?_⟩;cases k;exact⟨_,rfl,ah _ _,fun e=>by have:=(b.lt _ e).2;omega⟩
theorem ChJ.lit (h:ChJ w0 base v0 c l0 l1 l2 l3 zl za zb zc w) (a:zl=some u):IsBytes w u [c]:=by
 obtain⟨i,e,-,-,-,b⟩:=h.cur;obtain⟨g,rfl,d,-⟩:=b u a;exact Row.new d (by decide) _ rfl
theorem ChJ.size (h:ChJ w0 base v0 c l0 l1 l2 l3 zl za zb zc w):w0.heap.size<=w.heap.size:=h.ext.size
theorem ChJ.IM (h:ChJ w0 base v0 c l0 (l0++[c]) l2 l3 zl none zb zc w) (g:zl=some u) (e:base<=w0.heap.size) (j:l0.length<=100000000) :
  ∃v' w',(Builtin.append_ #[52,52] 52 #[v0,u]).run Tryz.prog w=.ok v' w'/\ChJ w0 base v0 c l0 (l0++[c]) l2 l3 zl (some v') zb zc w':=by
 obtain⟨v',w',i,a,b,d⟩:=nV base 52 v0 l0 h.Hz u [c] (h.lit g) (by simp;omega) (Nat.le_trans e h.size);exact⟨v',w',i,h.G8 a b d⟩
theorem ChJ.IN (h:ChJ w0 base v0 c l0 l1 (l1++[c]) l3 zl za none zc w) (i:zl=some x) (a:za=some u) (g:base<=w0.heap.size) (k:l1.length<=100000000) :
  ∃v' w',(Builtin.append_ #[52,52] 52 #[u,x]).run Tryz.prog w=.ok v' w'/\ChJ w0 base v0 c l0 l1 (l1++[c]) l3 zl za (some v') zc w':=by
 obtain⟨v',w',j,b,d,e⟩:=nV base 52 u l1 (h.Hx a) x [c] (h.lit i) (by simp;omega) (Nat.le_trans g h.size);exact⟨v',w',j,h.Hh a b d e⟩
theorem ChJ.IQ (h:ChJ w0 base v0 c l0 (l0++l1) l2 l3 zl none zb zc w) (e:base<=w0.heap.size) (j:l0.length<=100000000) (g:l1.length<=100000000) :
  ∃v' w',(Builtin.append_ #[52,9] 52 #[v0,S8 l1]).run Tryz.prog w=.ok v' w'/\ChJ w0 base v0 c l0 (l0++l1) l2 l3 zl (some v') zb zc w':=by
 obtain⟨v',w',i,a,b,d⟩:=sL base v0 l0 h.Hz l1 (by omega) (Nat.le_trans e h.size);exact⟨v',w',i,h.G8 a b d⟩
end
theorem ez {c:Prop} [Decidable c] {a:Operand->Value} {R:Value->World->Prop} {o:Oper} {w:World} (s x:Operand) (t u:TypeId) {v xv v':Value} {w':World} (g:c) (b:o.op=.call { callee:=.builtin .append,args:=#[s,x],argTypes:=#[t,u] })
  (e:a s=v) (i:a x=xv) (d:(Builtin.append_ #[t,u] o.type #[v,xv]).run Tryz.prog w=.ok v' w') (h:R v' w') :
  if c then dW Tryz.prog R ((execOp a o).run Tryz.prog w)else R undef w:=by
 rw[if_pos g];unfold execOp;simp only[b,resolve,invoke,builtin,Sem.run_bind,Sem.run_pure,Result.andThen_ok,List.map_toArray,List.map_cons,List.map_nil,e,i,d];exact h
end
section
open Go Go.RowKit
theorem Cl {x:Itm} (h:cP x=true):(dr x).length<=200:=by
 unfold cP at h;simp only[Bool.and_eq_true,decide_eq_true_eq]at h;have a:=tO h.2.2.1;have b:=(my h.2.2.2).1;have c:=cM (n:=x.name.length) (by unfold cF;omega);unfold dr;simp only[List.length_cons,List.length_append];omega
theorem oh:∀(l:List Itm) (k:Nat),(∀x∈l,cP x=true)->((l.take k).flatMap dr).length<=200*k
 | l,0,_=>by simp
 | [],k+1,_=>by simp
 | x::l,k+1,h=>by
  have b:=Cl (h x (by simp));have c:=oh l k (fun y a=>h y (by simp[a]));rw[List.take_succ_cons,List.flatMap_cons,List.length_append];omega
theorem CG {m:Int} (a:1<=m) (b:m<=4):IntKind.u8.wrap m=(((UInt8.ofNat m.toNat).toNat:Nat):Int):=by
 rw[IntKind.wrap_u8,UInt8.toNat_ofNat'];omega
theorem vT (n:Int) (a:0<=n) (h:n<=cF):(putW n).1=bf n.toNat:=by
 unfold putW;rw[if_neg (by omega)]
theorem oI:∀(l:List B8) (k:Nat),l.all aO=true->((l.take k).flatMap cI).length<=32*k
 | l,0,_=>by simp
 | [],k+1,_=>by simp
 | x::l,k+1,h=>by
  simp only[List.all_cons,Bool.and_eq_true]at h;have a:=(my h.1).1;have b:=oI l k h.2;rw[List.take_succ_cons,List.flatMap_cons,List.length_append];omega
theorem qG (n:Nat) (h:n<=cF):(putW (n:Int)).1=bf n:=by
 unfold putW;rw[if_neg (by omega)];rfl
theorem oD (v:Value) (o:Ob) (w:World) (hv:IsOb w v o) (hs:kD o) :
  Calls Tryz.prog 92 #[v] w fun e G=>(∃u,e=.returned (.tuple #[u,.int .i64 (bz o).2])/\Ow w.heap.size G u (bz o).1)/\Ext w G:=by
 have eg:=hv;obtain⟨vd,vi,vp,rfl,hd,hi,hp⟩:=hv;obtain⟨wa,bk⟩:∃wa,wa=w.alloc (.cells #[.int .i64 o.kind,vd,vi,S8 o.tree,vp,.int .i64 o.GZ,.int .i64 o.GY,S8 o.msg] 141):=⟨_,rfl⟩;have ca:Ext w wa:=by rw[bk];exact(Ext.refl _).alloc _
 have a6:wa.heap[w.heap.size]? = some (.cells #[.int .i64 o.kind,vd,vi,S8 o.tree,vp,.int .i64 o.GZ,.int .i64 o.GY,S8 o.msg] 141 (0,0)):=by rw[bk];exact ah _ _
 obtain⟨gb,fd⟩:∃gb,w.heap.size=gb:=⟨_,rfl⟩;have a1:Hid (Calls Tryz.prog 122 #[obV o vd vi vp] wa fun e G=>e=.returned (.bool (ew o))/\Ext wa G):=Bb _ o wa (eg.ext ca) hs;have HD:Hid (IsBytes w vd o.data):=hd;have HI:Hid (IsItms w vi o.items):=hi;have HP:Hid (IsStrs w vp o.parents):=hp;obtain⟨da,dc,rfl,-,-,-,-⟩:=hd.get;obtain⟨ia,ic,rfl,i1,i2,i3,dk⟩:=hi.get;have cc:Hid _:=dk;obtain⟨pa,pc,rfl,p1,p2,p3,ea⟩:=hp.get;have ci:Hid _:=ea;obtain⟨m0,b3⟩:∃m,ew o=m:=⟨_,rfl⟩;rw[b3]at a1;have Y:Hid _:=b3;unfold obV at a1;rw[fd]at a6;have el:Hid _:=a6;have e7:Hid (Ext w wa):=ca;have e4:Hid _:=bk;obtain⟨c0,c1,c2,c3,c4,c5,c6,c7⟩:=bt a6;obtain⟨⟨qb,qe⟩,hq⟩:∃q,bz o=q:=⟨_,rfl⟩;rw[hq];have HQ:Hid _:=hq;clear eg hd hi hp dk ea hs b3 a6 ca bk hq;go_enter Tryz.func92,Tryz.ntmps92;go_upto_region 1 with fail;rw[<-e4.out];go_wp2_with fail;go_at_call 122;refine Calls.mono a1.out ?_;rintro e9 p ⟨rfl,b9⟩;have E:Hid (Ext w p):=e7.out.trans b9;have bm:Hid _:=Ext.row b9 el.out;have fv:gb<p.heap.size:=(Array.getElem?_eq_some_iff.1 bm.out).1;obtain⟨d0,d1,d2,d3,d4,d5,d6,d7⟩:=bt bm.out;clear b9 a1
 cases m0 with
 | false =>
  obtain⟨rfl,rfl⟩:qb=[]/\qe=1:=by
   have y:=HQ.out;unfold bz at y;rw[Y.out]at y;exact⟨(Prod.mk.inj y).1.symm,(Prod.mk.inj y).2.symm⟩
  go_wp2;go_ret2;exact⟨⟨_,rfl,World.ownsRow_nil _ _ _ _⟩,E.out⟩
 | true =>
  obtain⟨ec,rfl⟩:qb=k9 o/\qe=0:=by
   have y:=HQ.out;unfold bz at y;rw[Y.out,if_pos rfl]at y;exact⟨(Prod.mk.inj y).1.symm,(Prod.mk.inj y).2.symm⟩
  have co:Hid _:=ec;clear ec HQ;clear c0 c1 c2 c3 c4 c5 c6 c7;obtain⟨ek,W,b,C,a,j,g,J⟩:=o;have r:=tL Y.out;have O:Hid (qb=k9 ⟨ek,W,b,C,a,j,g,J⟩):=co.out;clear co;dsimp only at r d0 d1 d2 d3 d4 d5 d6 d7 i1 i2 p1 p2 cc ci HD HI HP bm;rcases r with rfl | rfl | rfl
  .have gc:W.length<=20000:=by
    have y:=Y.out;unfold ew at y;rw[if_pos rfl]at y;simp only[Bool.and_eq_true,decide_eq_true_eq]at y;exact y.1
   have ab:Hid (qb=[1]++W):=O.out;have M:Hid (Ow p.heap.size (p.alloc (.cells #[.int .u8 1] 5)) (.slice (some ⟨p.heap.size,0,none⟩) 1 1) [1]):=World.ownsRow_lit p _ 1 (Nat.le_refl _) (by decide) rfl
   go_wp2_with (at_builtin;go_must (refine sM rfl _ _ rfl rfl p.heap.size _ [1] rfl M.out _ W rfl (IsBytes.ext HD.out (E.out.alloc _)) (by simp;omega) (by simp) ?_;intro v' w2 I a7 d9))
   go_ret2;exact⟨⟨_,rfl,by rw[ab.out];exact I.mono E.out.size⟩,E.out.trans (aA ((Ext.refl p).alloc _) M.out a7)⟩
  .have b4:b.length<=256/\∀x∈b,cP x=true:=by
    have y:=Y.out;unfold ew at y;rw[if_neg (show ¬(2:Int)=1 by decide),if_pos rfl]at y;simp only[Bool.and_eq_true,eF,List.all_eq_true,decide_eq_true_eq]at y;exact⟨y.2.1.2.2,y.2.1.1⟩
   obtain⟨gd,dn⟩:=b4;have ce:Hid _:=dn;have ab:Hid (qb=[2]++bf b.length++b.flatMap dr):=by
    unfold Hid;rw[O.out];show UInt8.ofNat 2::(bf b.length++b.flatMap dr)=_;simp
   have fm:=cM (n:=b.length) (by unfold cF;omega);have M:Hid (Ow p.heap.size (p.alloc (.cells #[.int .u8 2] 5)) (.slice (some ⟨p.heap.size,0,none⟩) 1 1) [2]):=World.ownsRow_lit p _ 1 (Nat.le_refl _) (by decide) rfl;clear dn O;go_wp2_with fail;go_at_call 123;refine(gS _ [2] b.length p.heap.size _ M.out (by simp) (by simp)).mono ?_;rintro e9 w2 ⟨v2,rfl,I,a7,d9⟩;rw[qG _ (by unfold cF;omega)]at I;have cf:Hid (Ow p.heap.size w2 v2 ([2]++bf b.length)):=I;have ad:Hid (Ext p w2):=aA ((Ext.refl p).alloc _) M.out a7;have e2:=ad.out.cell d2;clear I a7 d9 M;go_wp2_with fail;go_loopw [4,34] (fun v i wr=>∃k:Nat,k<=b.length/\i=.int .i64 k/\Hid (Ow p.heap.size wr v ([2]++bf b.length++(b.take k).flatMap dr))/\Hid (Ext p wr)) (fun _ i _=>b.length - (intOf i).toNat)
   case atStart=>exact⟨0,Nat.zero_le _,rfl,by unfold Hid;simpa using cf.out,ad⟩
   case round =>
   obtain⟨k,r,rfl,Z,S⟩:=hrel
   by_cases am:k<b.length
   .obtain ⟨x,hx⟩:∃x,b[k]? = some x:=⟨_,List.getElem?_eq_getElem am⟩;have ei:=ce.out x (List.mem_of_getElem? hx);have c8:=oh b k ce.out;have bs:Hid ((b.take (k+1)).flatMap dr=(b.take k).flatMap dr++dr x):=by
     unfold Hid;rw[List.take_add_one,hx];simp
    obtain⟨bb,oo,ff,cu,cv,cx⟩:=cc.out k x hx;subst ff;have y0:=S.out.cell (E.out.cell cu);have y1:=S.out.cell (E.out.cell cv);have y2:=S.out.cell (E.out.cell cx);obtain⟨P,Q⟩:∃l,[2]++bf b.length++(b.take k).flatMap dr=l:=⟨_,rfl⟩;have cs:P.length<=60000:=by rw[<-Q];simp only[List.length_append,List.length_cons,List.length_nil];omega
    have bo:Hid _:=Q;rw[Q]at Z;clear Q c8;obtain⟨X,name,id⟩:=x;have au:=ei;unfold cP at au;simp only[Bool.and_eq_true,decide_eq_true_eq]at au;obtain⟨dp,dq,d',eh⟩:=au;have gl:=tO d';have ds:=CG dp dq;obtain⟨cm,b0⟩:∃c,UInt8.ofNat X.toNat=c:=⟨_,rfl⟩;rw[b0]at ds;have e1:Hid _:=eh;have em:Hid (dr ⟨X,name,id⟩=[cm]++bf name.length++(name++cI id)):=by
     unfold Hid dr;rw[b0];simp
    dsimp only at y0 y1 y2;clear ei hx cu cv cx dp dq d' eh b0;go_upto_region 12 with fail;obtain⟨w4,bh⟩:∃w4,w4=wr.alloc (.cells #[.int .i64 X,S8 name,S8 id] 173):=⟨_,rfl⟩;have b':Ext wr w4:=by rw[bh];exact(Ext.refl _).alloc _
    have a5:w4.heap[wr.heap.size]? = some (.cells #[.int .i64 X,S8 name,S8 id] 173 (0,0)):=by rw[bh];exact ah _ _
    rw[<-bh];obtain⟨gi,c'⟩:∃gi,wr.heap.size=gi:=⟨_,rfl⟩;have bp:Hid (Ow p.heap.size w4 u4 P):=az Z.out b';have N:Hid (u4.ownBlock≠some gi):=fun e=>by have:=(Z.out.lt _ e).2;omega
    have cb:Hid (gi<w4.heap.size):=by
     have:=(Array.getElem?_eq_some_iff.1 a5).1;unfold Hid;omega
    rw[c']at a5 ⊢;obtain⟨z0,z1,z2⟩:=cD a5;have bv:Hid (Ext p w4):=S.out.trans b';have bc:=bv.out.size;clear bh b' a5 c' y0 y1 y2 Z S;apply bJ 10 (fun z G=>ChJ w4 p.heap.size u4 cm P (P++[cm]) (P++[cm]++bf name.length) [] (z 4) (z 5) (z 9) none G) [false,false,false,false,true,true,false,false,false,true] [_,_,_,.int .u8 cm.toNat,undef,undef,_,_,_,undef] [none,none,none,none,none,none,none,none,none,none] [[],[],[1],[2],[3],[0,4],[],[6],[7],[5,8]] (by kernel_rfl) (by kernel_rfl) rfl
    .exact ChJ.start bp.out ⟨rfl,rfl,rfl,Nat.le_refl _,fun _ _=>rfl⟩
    .simp (maxSteps:=1000000)only[fC,eR,dm,dM,eG,List.getD_cons_zero,List.getD_cons_succ,Bool.false_eq_true,if_false,if_true,and_true,true_and,forall_const,Nat.zero_add,Nat.reduceAdd,List.take_succ_cons,List.take_zero,af,Act.put,List.setIfInBounds_toArray,List.set_cons_zero,List.set_cons_succ];and_intros
     iterate 4 · intro t z F d;intros;rename_i A;have f0:=d.cell N.out z0;have f1:=d.cell N.out z1;go_simp;exact A _ _ d rfl
     .intro t z F d K r R A;rw[K]at d;go_simp;exact A _ _ d.Ha
     .intro t z F d K r R A;obtain⟨B,H⟩:=r;rw[K]at d;obtain⟨v',G,hr,ai⟩:=d.IM H bc (by omega);apply pH (.tmp 38) (.tmp 42) 52 (v:=t 0) (xv:=t 4) (v':=v') (w':=G)
      iterate 4
       .rfl
      .rw [B];exact hr
      .exact A _ _ ai
     iterate 3 · intro t z F d;intros;rename_i A;have f0:=d.cell N.out z0;have f1:=d.cell N.out z1;go_simp;exact A _ _ d rfl
     .intro t z F d K r R A;obtain⟨B,H⟩:=r;rw[K]at d;go_simp;exact(gS (t 5) (P++[cm]) name.length p.heap.size F (d.Hx B) (Nat.le_trans bc d.size) (by simp;omega)).mono (by rintro e' G ⟨v',rfl,T,h2,h3⟩;rw[qG _ (by unfold cF;omega)]at T;exact⟨_,rfl,A _ _ (d.Hh B T h2 h3)⟩)
    intro t w5 U r;simp only[fE,List.getD_cons_zero,List.getD_cons_succ,Bool.false_eq_true,if_false,if_true]at U;simp only[df,Nat.zero_add,Nat.reduceAdd,and_true]at r;simp(maxSteps:=1000000)only[List.drop_succ_cons,List.drop_zero,Nat.zero_add,Nat.reduceAdd,List.take_succ_cons,List.take_zero,af,Act.put,List.setIfInBounds_toArray,List.set_cons_zero,List.set_cons_succ,r];clear r;generalize t 4=x4 at *;generalize t 5=x5 at *;generalize t 9=x9 at *;have bq:Hid (Ow p.heap.size w5 x9 (P++[cm]++bf name.length)):=U.Hy rfl;have V:Hid (x9.ownBlock≠some gi):=fun e=>by
     rcases U.ID rfl gi e with h | h
     .exact N.out h
     .have:=cb.out;omega
    have t1:=U.cell N.out z1;have t2:=U.cell N.out z2;have cq:Hid (Ext p w5):=Below.grown bv.out U.ext bc (fun k r=>(bp.out.lt k r).1);have b6:=cq.out.size;obtain⟨L1,a3⟩:∃l,P++[cm]++bf name.length=l:=⟨_,rfl⟩;have fs:L1.length<=70000:=by
     have y:=cM (n:=name.length) (by unfold cF;omega);rw[<-a3];simp only[List.length_append,List.length_cons,List.length_nil];omega
    have eo:Hid _:=a3;rw[a3]at bq;clear a3 U z0 z1 z2 bp bv N cb bc;go_upto_region 13 with fail;apply bJ 7 (fun z G=>ChJ w5 p.heap.size x9 0 L1 (L1++name) (L1++name++cI id) [] none (z 3) (z 6) none G) [false,false,false,true,false,false,true] [_,_,_,undef,_,_,undef] [none,none,none,none,none,none,none] [[],[],[1],[0,2],[],[4],[3,5]] (by kernel_rfl) (by kernel_rfl) rfl
    .exact ChJ.start bq.out ⟨rfl,rfl,rfl,Nat.le_refl _,fun _ _=>rfl⟩
    .simp (maxSteps:=1000000)only[fC,eR,dm,dM,eG,List.getD_cons_zero,List.getD_cons_succ,Bool.false_eq_true,if_false,if_true,and_true,true_and,forall_const,Nat.zero_add,Nat.reduceAdd,List.take_succ_cons,List.take_zero,af,Act.put,List.setIfInBounds_toArray,List.set_cons_zero,List.set_cons_succ];and_intros
     iterate 3 · intro t z F d;intros;rename_i A;have f1:=d.cell V.out t1;have f2:=d.cell V.out t2;go_simp;exact A _ _ d rfl
     .intro t z F d K r R A;obtain⟨B,H⟩:=r;rw[K]at d;obtain⟨v',G,hr,ai⟩:=d.IQ b6 (by omega) (by omega);apply ez (.tmp 48) (.tmp 50) 52 9 (v:=t 0) (xv:=t 2) (v':=v') (w':=G)
      iterate 4
       .rfl
      .rw [B,H];exact hr
      .exact A _ _ ai
     iterate 2 · intro t z F d;intros;rename_i A;have f1:=d.cell V.out t1;have f2:=d.cell V.out t2;go_simp;exact A _ _ d rfl
     .intro t z F d K r R A;obtain⟨B,H⟩:=r;rw[K]at d;go_simp;exact(lZ (t 3) (L1++name) id p.heap.size F (d.Hx B) (Nat.le_trans b6 d.size) (by simp;omega) e1.out).mono (by rintro e' G ⟨v',rfl,T,h2,h3⟩;exact⟨_,rfl,A _ _ (d.Hh B T h2 h3)⟩)
    intro t w6 ba r;simp only[fE,List.getD_cons_zero,List.getD_cons_succ,Bool.false_eq_true,if_false,if_true]at ba;simp only[df,Nat.zero_add,Nat.reduceAdd,and_true]at r;simp(maxSteps:=1000000)only[List.drop_succ_cons,List.drop_zero,Nat.zero_add,Nat.reduceAdd,List.take_succ_cons,List.take_zero,af,Act.put,List.setIfInBounds_toArray,List.set_cons_zero,List.set_cons_succ,r];clear r;generalize t 3=x3 at *;generalize t 6=x6 at *;have e6:Hid (Ext p w6):=Below.grown cq.out ba.ext b6 (fun k r=>(bq.out.lt k r).1);have ev:Hid (Ow p.heap.size w6 x6 ([2]++bf b.length++(b.take (k+1)).flatMap dr)):=by
     have y:=ba.Hy rfl;unfold Hid;rw[bs.out,em.out];have e:[2]++bf b.length++((b.take k).flatMap dr++([cm]++bf name.length++(name++cI id)))=L1++name++cI id:=by
      rw[<-eo.out,<-bo.out];simp
     rw[e];exact y
    clear ba;go_wp2_with fail;go_roundw
    case rel=>exact⟨k+1,by omega,by go_num,ev,e6⟩
    case measure=>simp[intOf];omega
   .have b2:k=b.length:=by omega
    have e0:Hid (Ow p.heap.size wr u4 qb):=by
     have y:=Z.out;rw[b2,List.take_length]at y;unfold Hid;rw[ab.out];exact y
    clear r;go_wp2;go_ret2;exact⟨⟨_,rfl,e0.out.mono E.out.size⟩,E.out.trans S.out⟩
  .have b4:aO C=true/\((a.all aO=true/\a.length<=2)/\((0<=j/\j<=1099511627776)/\((0<=g/\g<=255)/\J.length<=200))):=by
    have y:=Y.out;unfold ew at y;rw[if_neg (show ¬(3:Int)=1 by decide),if_neg (show ¬(3:Int)=2 by decide),if_pos rfl]at y;simp only[Bool.and_eq_true,eX,iA,decide_eq_true_eq]at y;exact⟨y.2.2.1,⟨y.2.2.2.1.1,y.2.2.2.1.2.2⟩,y.2.2.2.2.1,y.2.2.2.2.2.1,y.2.2.2.2.2.2.2⟩
   obtain⟨b8,⟨eb,fm⟩,⟨gr,gs⟩,⟨f8,f'⟩,gh⟩:=b4;have e3:Hid _:=b8;have cl:Hid _:=eb;obtain⟨cp,b1⟩:∃c,UInt8.ofNat a.length=c:=⟨_,rfl⟩;have ga:IntKind.u8.wrap (a.length:Int)=(cp.toNat:Int):=by
    rw[<-b1,IntKind.wrap_u8,UInt8.toNat_ofNat'];omega
   have ab:Hid (qb=[3]++cI C++[cp]++a.flatMap cI++bf j.toNat++bf g.toNat++bf J.length++J):=by
    unfold Hid;rw[O.out,<-b1];show UInt8.ofNat 3::(cI C++(UInt8.ofNat a.length::(a.flatMap cI++(bf j.toNat++(bf g.toNat++(bf J.length++J))))))=_;simp
   have fx:=(my b8).1;clear b8 eb b1 O;obtain⟨wL,bi⟩:∃wL,wL=p.alloc (.cells #[.int .u8 3] 5):=⟨_,rfl⟩;have ao:Ext p wL:=by rw[bi];exact(Ext.refl _).alloc _
   have M:Hid (Ow p.heap.size wL (.slice (some ⟨p.heap.size,0,none⟩) 1 1) [3]):=by rw[bi];exact World.ownsRow_lit p _ 1 (Nat.le_refl _) (by decide) rfl
   have fa:Hid (Ext p wL):=ao;have l3:=ao.cell d3;have l4:=ao.cell d4;have b7:=ao.size;have av:Hid ((Value.slice (some ⟨p.heap.size,0,none⟩) 1 1).ownBlock≠some gb):=fun e=>by
    simp only[Value.ownBlock,Option.some.injEq]at e;omega
   have e5:Hid _:=bi;clear ao bi;go_upto_region 16 with fail;rw[<-e5.out];apply bJ 10 (fun z G=>ChJ wL p.heap.size (.slice (some ⟨p.heap.size,0,none⟩) 1 1) cp [3] ([3]++cI C) ([3]++cI C++[cp]) [] (z 8) (z 3) (z 9) none G) [false,false,false,true,false,false,false,false,true,true] [_,_,_,undef,_,_,_,.int .u8 cp.toNat,undef,undef] [none,none,none,none,none,none,none,none,none,none] [[],[],[1],[0,2],[],[4],[5],[6],[7],[3,8]] (by kernel_rfl) (by kernel_rfl) rfl
   .exact ChJ.start M.out ⟨rfl,rfl,rfl,Nat.le_refl _,fun _ _=>rfl⟩
   .simp (maxSteps:=1000000)only[fC,eR,dm,dM,eG,List.getD_cons_zero,List.getD_cons_succ,Bool.false_eq_true,if_false,if_true,and_true,true_and,forall_const,Nat.zero_add,Nat.reduceAdd,List.take_succ_cons,List.take_zero,af,Act.put,List.setIfInBounds_toArray,List.set_cons_zero,List.set_cons_succ];and_intros
    iterate 3 · intro t z F d;intros;rename_i A;have f3:=d.cell av.out l3;have f4:=d.cell av.out l4;go_simp;exact A _ _ d rfl
    .intro t z F d K r R A;obtain⟨B,H⟩:=r;rw[K]at d;go_simp;exact(lZ _ [3] C p.heap.size F d.Hz (Nat.le_trans b7 d.size) (by simp) e3.out).mono (by rintro e' G ⟨v',rfl,T,h2,h3⟩;exact⟨_,rfl,A _ _ (d.G8 T h2 h3)⟩)
    iterate 4 · intro t z F d;intros;rename_i A;have f3:=d.cell av.out l3;have f4:=d.cell av.out l4;go_simp;exact A _ _ d rfl
    .intro t z F d K r R A;rw[K]at d;go_simp;exact A _ _ d.Ha
    .intro t z F d K r R A;obtain⟨B,H⟩:=r;rw[K]at d;obtain⟨v',G,hr,ai⟩:=d.IN H B b7 (by simp;omega);apply pH (.tmp 60) (.tmp 65) 52 (v:=t 3) (xv:=t 8) (v':=v') (w':=G)
     iterate 4
      .rfl
     .exact hr
     .exact A _ _ ai
   intro t w2 a9 r;simp only[fE,List.getD_cons_zero,List.getD_cons_succ,Bool.false_eq_true,if_false,if_true]at a9;simp only[df,Nat.zero_add,Nat.reduceAdd,and_true]at r;simp(maxSteps:=1000000)only[List.drop_succ_cons,List.drop_zero,Nat.zero_add,Nat.reduceAdd,List.take_succ_cons,List.take_zero,af,Act.put,List.setIfInBounds_toArray,List.set_cons_zero,List.set_cons_succ,r];clear r;generalize t 3=x3 at *;generalize t 8=x8 at *;generalize t 9=x9 at *;have ad:Hid (Ext p w2):=Below.grown fa.out a9.ext b7 (fun k r=>(M.out.lt k r).1);have es:Hid (Ow p.heap.size w2 x9 ([3]++cI C++[cp])):=a9.Hy rfl;have m4:=ad.out.cell d4;clear a9 l3 l4;go_wp2_with fail;go_loopw [4,70] (fun v i wr=>∃k:Nat,k<=a.length/\i=.int .i64 k/\Hid (Ow p.heap.size wr v ([3]++cI C++[cp]++(a.take k).flatMap cI))/\Hid (Ext p wr)) (fun _ i _=>a.length - (intOf i).toNat)
   case atStart=>exact⟨0,Nat.zero_le _,rfl,by unfold Hid;simpa using es.out,ad⟩
   case round =>
   obtain⟨k,r,rfl,Z,S⟩:=hrel;have a0:Hid (([3]++cI C++[cp]++(a.take k).flatMap cI).length<=1000):=by
    unfold Hid;have y:=oI a k cl.out;simp only[List.length_append,List.length_cons,List.length_nil];omega
   by_cases am:k<a.length
   .obtain ⟨x,hx⟩:∃x,a[k]? = some x:=⟨_,List.getElem?_eq_getElem am⟩;obtain⟨bb,oo,fk,hc⟩:=ci.out k am;subst fk;have y1:=S.out.cell (E.out.cell (hc k am));rw[show a.getD k []=x by rw[List.getD_eq_getElem?_getD,hx];rfl]at y1;have fb:Hid (aO x=true):=List.all_eq_true.1 cl.out x (List.mem_of_getElem? hx);have bs:Hid ((a.take (k+1)).flatMap cI=(a.take k).flatMap cI++cI x):=by
     unfold Hid;rw[List.take_add_one,hx];simp
    have aa:=S.out.size;clear hx hc;go_wp2_with fail;go_at_call 124;refine(lZ _ _ x p.heap.size wr Z.out aa (by have:=a0.out;omega) fb.out).mono ?_;rintro e9 w3 ⟨v3,rfl,D,c9,fg⟩;have ag:Hid (Ext p w3):=aA S.out Z.out c9;have a2:Hid (Ow p.heap.size w3 v3 ([3]++cI C++[cp]++(a.take (k+1)).flatMap cI)):=by
     unfold Hid;rw[bs.out,<-List.append_assoc];exact D
    clear D c9 fg;go_wp2_with fail;go_roundw
    case rel=>exact⟨k+1,by omega,by go_num,a2,ag⟩
    case measure=>simp[intOf];omega
   .have b2:k=a.length:=by omega
    subst b2;rw[List.take_length]at Z a0;have n5:=S.out.cell d5;have n6:=S.out.cell d6;have n7:=S.out.cell d7;obtain⟨P,Q⟩:∃l,[3]++cI C++[cp]++a.flatMap cI=l:=⟨_,rfl⟩;rw[Q]at Z a0;have bo:Hid _:=Q;have cs:=a0.out;have L:Hid (u4.ownBlock≠some gb):=fun e=>by have:=(Z.out.lt _ e).1;omega
    have aa:=S.out.size;have gm:=cM (n:=j.toNat) (by unfold cF;omega);have go:=cM (n:=g.toNat) (by unfold cF;omega);have gq:=cM (n:=J.length) (by unfold cF;omega);clear Q r;go_upto_region 22 with fail;apply bJ 11 (fun z G=>ChJ wr p.heap.size u4 0 P (P++bf j.toNat) (P++bf j.toNat++bf g.toNat) (P++bf j.toNat++bf g.toNat++bf J.length) none (z 3) (z 6) (z 10) G) [false,false,false,true,false,false,true,false,false,false,true] [_,_,_,undef,_,_,undef,_,_,_,undef] [none,none,none,none,none,none,none,none,none,none,none] [[],[],[1],[0,2],[],[4],[3,5],[],[7],[8],[6,9]] (by kernel_rfl) (by kernel_rfl) rfl
    .exact ChJ.start Z.out ⟨rfl,rfl,rfl,Nat.le_refl _,fun _ _=>rfl⟩
    .simp (maxSteps:=1000000)only[fC,eR,dm,dM,eG,List.getD_cons_zero,List.getD_cons_succ,Bool.false_eq_true,if_false,if_true,and_true,true_and,forall_const,Nat.zero_add,Nat.reduceAdd,List.take_succ_cons,List.take_zero,af,Act.put,List.setIfInBounds_toArray,List.set_cons_zero,List.set_cons_succ];and_intros
     iterate 3 · intro t z F d;intros;rename_i A;have f5:=d.cell L.out n5;have f6:=d.cell L.out n6;have f7:=d.cell L.out n7;go_simp;exact A _ _ d rfl
     .intro t z F d K r R A;obtain⟨B,H⟩:=r;rw[K]at d;go_simp;exact(gS _ P j p.heap.size F d.Hz (Nat.le_trans aa d.size) (by omega)).mono (by rintro e' G ⟨v',rfl,T,h2,h3⟩;rw[vT _ (by omega) (by unfold cF;omega)]at T;exact⟨_,rfl,A _ _ (d.G8 T h2 h3)⟩)
     iterate 2 · intro t z F d;intros;rename_i A;have f5:=d.cell L.out n5;have f6:=d.cell L.out n6;have f7:=d.cell L.out n7;go_simp;exact A _ _ d rfl
     .intro t z F d K r R A;obtain⟨B,H⟩:=r;rw[K]at d;go_simp;exact(gS _ (P++bf j.toNat) g p.heap.size F (d.Hx B) (Nat.le_trans aa d.size) (by simp only[List.length_append];omega)).mono (by rintro e' G ⟨v',rfl,T,h2,h3⟩;rw[vT _ (by omega) (by unfold cF;omega)]at T;exact⟨_,rfl,A _ _ (d.Hh B T h2 h3)⟩)
     iterate 3 · intro t z F d;intros;rename_i A;have f5:=d.cell L.out n5;have f6:=d.cell L.out n6;have f7:=d.cell L.out n7;go_simp;exact A _ _ d rfl
     .intro t z F d K r R A;obtain⟨B,H⟩:=r;rw[K]at d;go_simp;exact(gS _ (P++bf j.toNat++bf g.toNat) J.length p.heap.size F (d.Hy B) (Nat.le_trans aa d.size) (by simp only[List.length_append];omega)).mono (by rintro e' G ⟨v',rfl,T,h2,h3⟩;rw[qG _ (by unfold cF;omega)]at T;exact⟨_,rfl,A _ _ (d.IW B T h2 h3)⟩)
    intro t w3 a' r;simp only[fE,List.getD_cons_zero,List.getD_cons_succ,Bool.false_eq_true,if_false,if_true]at a';simp only[df,Nat.zero_add,Nat.reduceAdd,and_true]at r;simp(maxSteps:=1000000)only[List.drop_succ_cons,List.drop_zero,Nat.zero_add,Nat.reduceAdd,List.take_succ_cons,List.take_zero,af,Act.put,List.setIfInBounds_toArray,List.set_cons_zero,List.set_cons_succ,r];clear r;generalize t 3=x3 at *;generalize t 6=x6 at *;generalize t 10=fr at *;have ag:Hid (Ext p w3):=Below.grown S.out a'.ext aa (fun k r=>(Z.out.lt k r).1);have D:=a'.IU rfl;obtain⟨L3,a4⟩:∃l,P++bf j.toNat++bf g.toNat++bf J.length=l:=⟨_,rfl⟩;have ft:L3.length<=1100:=by
     rw[<-a4];simp only[List.length_append];omega
    have er:Hid _:=a4;rw[a4]at D;have a2:Hid (Ow p.heap.size w3 fr L3):=D;have q7:=ag.out.cell d7;have fn:=ag.out.size;clear a4 D a' n5 n6 n7
    go_wp2_with (at_builtin;go_must (refine DC rfl _ _ rfl rfl p.heap.size _ L3 rfl a2.out J rfl (by omega) fn ?_;intro v' w4 b5 fc gj))
    go_ret2;refine⟨⟨_,rfl,?_⟩,E.out.trans (aA ag.out a2.out fc)⟩;have y:=b5.mono E.out.size;rw[ab.out,bo.out,er.out];exact y
end
end Go.Proofs.YtgfegpnmlkdjfaaGreatDoor
