/- Contracts of the program's functions and plain laws behind the card. Conditions: as each theorem states. -/
import Derived.Test.YtfabjgfmiaammaaGreatDoorYaz
import Derived.Lib.AppendStr
import Derived.Test.YtfabjgfmiaammaaGreatDoorYan
import Derived.Test.YtfabjgfmiaammaaGreatDoorYbc
import Derived.Deep.DeepCutAuto
set_option linter.unusedVariables false
set_option linter.unusedSimpArgs false
set_option linter.unusedSectionVars false
set_option maxRecDepth 100000
set_option maxHeartbeats 64000000
namespace Go.Proofs.YtfabjgfmiaammaaGreatDoor
section
open Go Go.RowKit
structure dv (o:Ob):Prop where
 items:gH o.items
 C1:∀s∈o.parents,s.length<=140737488355328
 tree:o.tree.length<=10000000
 msg:o.msg.length<=10000000
theorem ah {w:World} {g:Nat} {a b c d e i j k:Value} {t:TypeId} {fr:Nat×Nat} (h:w.heap[g]? = some (.cells #[a,b,c,d,e,i,j,k] t fr)) :
  w.cell? ⟨g,0,none⟩=some a/\w.cell? ⟨g,1,none⟩=some b/\w.cell? ⟨g,2,none⟩=some c/\w.cell? ⟨g,3,none⟩=some d/\w.cell? ⟨g,4,none⟩=some e/\w.cell? ⟨g,5,none⟩=some i/\w.cell? ⟨g,6,none⟩=some j/\w.cell? ⟨g,7,none⟩=some k:=by
 simp[World.cell?,h]
theorem yC (v:Value) (o:Ob) (w:World) (hv:IsOb w v o) (X:dv o) :
  Calls Tryz.prog 142 #[v] w fun e t=>e=.returned (.bool (bP o))/\Ext w t:=by
 obtain⟨vd,S,T,rfl,hd,hi,hp⟩:=hv;obtain⟨J,D⟩:∃J,J=w.alloc (.cells #[.int .i64 o.kind,vd,S,S8 o.tree,T,.int .i64 o.BU,.int .i64 o.BS,S8 o.msg] 41):=⟨_,rfl⟩;have Z:Ext w J:=by rw[D];exact(Ext.refl _).alloc _
 have C:J.heap[w.heap.size]? = some (.cells #[.int .i64 o.kind,vd,S,S8 o.tree,T,.int .i64 o.BU,.int .i64 o.BS,S8 o.msg] 41 (0,0)):=by rw[D];exact ae _ _
 obtain⟨gb,a1⟩:∃gb,w.heap.size=gb:=⟨_,rfl⟩;have A:Hid (∀t,Ext w t->Calls Tryz.prog 195 #[obV o vd S T] t fun e E=>e=.returned (.bool (gZ o))/\Ext t E):=fun t Y=>rp o vd S T t (hp.ext Y)
 have K:Hid (∀t,Ext w t->Calls Tryz.prog 196 #[S] t fun e E=>e=.returned (.bool (cI o.items))/\Ext t E):=fun t Y=>rj S o.items t (hi.ext Y) X.items
 have L:Hid (∀t,Ext w t->Calls Tryz.prog 197 #[T] t fun e E=>e=.returned (.bool (dJ o.parents))/\Ext t E):=fun t Y=>oR T o.parents t (hp.ext Y) X.C1
 obtain⟨da,dc,rfl,-,-,-,-⟩:=hd.get;obtain⟨ia,ic,rfl,-,-,-,-⟩:=hi.get;obtain⟨a3,a2⟩:o.tree.length<=10000000/\o.msg.length<=10000000:=⟨X.tree,X.msg⟩;obtain⟨g,b,a,x,l,h,d,z⟩:=o;obtain⟨r,hr⟩:∃r,bP ⟨g,b,a,x,l,h,d,z⟩=r:=⟨_,rfl⟩;rw[hr];have HR:Hid _:=hr;obtain⟨nc,N⟩:∃c,gZ ⟨g,b,a,x,l,h,d,z⟩=c:=⟨_,rfl⟩;rw[N]at A;have V:Hid _:=N;unfold obV at A ⊢;dsimp only at A K L C D a3 a2 ⊢;obtain⟨io,M⟩:∃c,cI a=c:=⟨_,rfl⟩;rw[M]at K;have aa:Hid _:=M;obtain⟨po,O⟩:∃c,dJ l=c:=⟨_,rfl⟩;rw[O]at L;have ad:Hid _:=O;rw[a1]at C;obtain⟨c0,c1,c2,c3,c4,c5,c6,c7⟩:=ah C;have k:Hid (Ext w J):=Z;have a0:Hid _:=D;have U:Hid _:=C;clear hd hi hp X hr N M O Z D C;go_enter Tryz.func142,Tryz.ntmps142;go_upto_region 1 with fail;rw[<-a0.out]
 by_cases F:g=1
 .have b1:(g==1)=true:=by simpa using F
  have n:Hid (r=(decide (b.length<=20000) && ((a.length==0) && nc))):=by rw[<-HR.out,<-V.out];unfold Hid bP;rw[if_pos F]
  clear F
  by_cases B:(b.length:Int)<=20000
  .by_cases H:a.length=0
   .have W:((a.length:Int)==0)=true:=by rw[beq_iff_eq];omega
    have j:Hid (r=nc):=by unfold Hid;rw[n.out,H,decide_eq_true (by omega:b.length<=20000)];rfl
    clear H;go_wp2_with fail;go_at_call 195;refine(A.out J k.out).mono ?_;rintro e Q ⟨rfl,p⟩;have q:Hid (Ext w Q):=k.out.trans p;clear p;go_wp2;go_ret;exact⟨an j.out.symm,q.out⟩
   .have W:((a.length:Int)==0)=false:=by rw[beq_eq_false_iff_ne];omega
    have j:Hid (r=false):=by unfold Hid;rw[n.out,show(a.length==0)=false by simpa using H];simp
    clear H;go_wp2;go_ret;exact⟨an j.out.symm,k.out⟩
  .have j:Hid (r=false):=by unfold Hid;rw[n.out,decide_eq_false (by omega:¬b.length<=20000)];rfl
   go_wp2;go_ret;exact⟨an j.out.symm,k.out⟩
 have b1:(g==1)=false:=by simpa using F
 by_cases I:g=2
 .have b2:(g==2)=true:=by simpa using I
  have n:Hid (r=((b.length==0) && (io && nc))):=by rw[<-HR.out,<-V.out,<-aa.out];unfold Hid bP;rw[if_neg F,if_pos I]
  clear F I
  by_cases B:b.length=0
  .have W:((b.length:Int)==0)=true:=by rw[beq_iff_eq];omega
   have i:Hid (r=(io && nc)):=by unfold Hid;rw[n.out,B];rfl
   clear B;go_wp2_with fail;go_at_call 196;refine(K.out J k.out).mono ?_;rintro e Q ⟨rfl,p⟩;have q:Hid (Ext w Q):=k.out.trans p;have G:Hid _:=Ext.row p U.out;obtain⟨d0,d1,d2,d3,d4,d5,d6,d7⟩:=ah G.out;clear p
   cases io with
   | true =>
    have j:Hid (r=nc):=by unfold Hid;rw[i.out];rfl
    go_wp2_with fail;go_at_call 195;refine(A.out Q q.out).mono ?_;rintro e w2 ⟨rfl,y⟩;have u:Hid (Ext w w2):=q.out.trans y;clear y;go_wp2;go_ret;exact⟨an j.out.symm,u.out⟩
   | false =>
    have j:Hid (r=false):=by unfold Hid;rw[i.out];rfl
    go_wp2;go_ret;exact⟨an j.out.symm,q.out⟩
  .have W:((b.length:Int)==0)=false:=by rw[beq_eq_false_iff_ne];omega
   have j:Hid (r=false):=by unfold Hid;rw[n.out,show(b.length==0)=false by simpa using B];rfl
   clear B;go_wp2;go_ret;exact⟨an j.out.symm,k.out⟩
 have b2:(g==2)=false:=by simpa using I
 by_cases R:g=3
 .have W:(g==3)=true:=by simpa using R
  have n:Hid (r=((b.length==0) && ((a.length==0) && (al x && (po && ((decide (0<=h) && decide (h<=1099511627776)) && ((decide (0<=d) && decide (d<=255)) && dS z))))))):=by rw[<-HR.out,<-ad.out];unfold Hid bP;rw[if_neg F,if_neg I,if_pos R]
  clear F I R
  by_cases B:b.length=0
  case neg =>
   have b4:((b.length:Int)==0)=false:=by rw[beq_eq_false_iff_ne];omega
   have j:Hid (r=false):=by unfold Hid;rw[n.out,show(b.length==0)=false by simpa using B];rfl
   clear B;go_wp2;go_ret;exact⟨an j.out.symm,k.out⟩
  have b4:((b.length:Int)==0)=true:=by rw[beq_iff_eq];omega
  by_cases H:a.length=0
  case neg =>
   have b5:((a.length:Int)==0)=false:=by rw[beq_eq_false_iff_ne];omega
   have j:Hid (r=false):=by unfold Hid;rw[n.out,show(a.length==0)=false by simpa using H];simp
   clear B H;go_wp2;go_ret;exact⟨an j.out.symm,k.out⟩
  have b5:((a.length:Int)==0)=true:=by rw[beq_iff_eq];omega
  obtain⟨vt,P⟩:∃vt,al x=vt:=⟨_,rfl⟩;have au:Hid _:=P;have i:Hid (r=(vt && (po && ((decide (0<=h) && decide (h<=1099511627776)) && ((decide (0<=d) && decide (d<=255)) && dS z))))):=by unfold Hid;rw[n.out,B,H,P];rfl
  clear B H P;go_wp2_with fail;go_at_call 17;refine(fp x J (by omega)).mono ?_;rw[au.out];rintro e Q ⟨rfl,p⟩;have q:Hid (Ext w Q):=k.out.trans p;have G:Hid _:=Ext.row p U.out;obtain⟨d0,d1,d2,d3,d4,d5,d6,d7⟩:=ah G.out;clear p
  cases vt with
  | false =>
   have j:Hid (r=false):=by unfold Hid;rw[i.out];rfl
   go_wp2;go_ret;exact⟨an j.out.symm,q.out⟩
  | true =>
  go_wp2_with fail;go_at_call 197;refine(L.out Q q.out).mono ?_;rintro e w2 ⟨rfl,y⟩;have u:Hid (Ext w w2):=q.out.trans y;obtain⟨e0,e1,e2,e3,e4,e5,e6,e7⟩:=ah (Ext.row y G.out);clear y
  cases po with
  | false =>
   have j:Hid (r=false):=by unfold Hid;rw[i.out];rfl
   go_wp2;go_ret;exact⟨an j.out.symm,u.out⟩
  | true =>
  by_cases h6:(0:Int)<=h
  case neg =>
   have j:Hid (r=false):=by unfold Hid;rw[i.out,decide_eq_false h6];rfl
   go_wp2;go_ret;exact⟨an j.out.symm,u.out⟩
  by_cases h7:h<=1099511627776
  case neg =>
   have j:Hid (r=false):=by unfold Hid;rw[i.out,decide_eq_false h7];simp
   go_wp2;go_ret;exact⟨an j.out.symm,u.out⟩
  by_cases h8:(0:Int)<=d
  case neg =>
   have j:Hid (r=false):=by unfold Hid;rw[i.out,decide_eq_false h8];simp
   go_wp2;go_ret;exact⟨an j.out.symm,u.out⟩
  by_cases h9:d<=255
  case neg =>
   have j:Hid (r=false):=by unfold Hid;rw[i.out,decide_eq_false h9];simp
   go_wp2;go_ret;exact⟨an j.out.symm,u.out⟩
  have j:Hid (r=dS z):=by unfold Hid;rw[i.out,decide_eq_true h6,decide_eq_true h7,decide_eq_true h8,decide_eq_true h9];rfl
  go_wp2_with fail;go_at_call 198;refine(uE z w2 (by omega)).mono ?_;rintro e w3 ⟨rfl,rfl⟩;go_wp2;go_ret;exact⟨an j.out.symm,u.out⟩
 .have W:(g==3)=false:=by simpa using R
  have j:Hid (r=false):=by rw[<-HR.out];unfold Hid bP;rw[if_neg F,if_neg I,if_neg R]
  clear F I R;go_wp2;go_ret;exact⟨an j.out.symm,k.out⟩
end
section
open Go Go.RowKit
abbrev U8s (l:B8):List Value:=l.map fun x=>.int .u8 x.toNat
theorem tV (l r:B8):U8s (l++r)=U8s l++U8s r:=List.map_append
variable {w w1:World}
theorem pB {a:World} {g:Option Nat} (h:Ext w w1) (k:w1.grownBy a g):w.grownBy a g:=(h.grown.but g).trans k
def Near (w:World) (v v':Value):Prop:=∀k,v'.ownBlock=some k->v.ownBlock=some k\/w.heap.size<=k
variable {v v':Value}
theorem Near.of (h:v'.ownBlock=v.ownBlock\/v'.ownBlock=some w.heap.size):Near w v v':=fun k a=>by
 rcases h with h | h
 .exact .inl (h.symm.trans a)
 .rw [h]at a;cases a;exact .inr (Nat.le_refl _)
abbrev Ow (a:Nat) (w:World) (v:Value) (l:B8):Prop:=w.ownsRow a 5 1 v l.length (U8s l)
theorem gJ (a:Nat) (o:TypeId) (v:Value) (l:B8) (c:Ow a w v l) (xv:Value) (r:B8) (d:IsBytes w xv r) (n:l.length+r.length<=1000000000) (b:a<=w.heap.size) :
  ∃v' e,(Builtin.append_ #[37,37] 37 #[v,xv]).run Tryz.prog w=.ok v' e/\Ow a e v' (l++r)/\w.grownBy e v.ownBlock/\Near w v v':=by
 obtain⟨v',e,j,g,h,i⟩:=gK 37 5 (.int .u8 0) 1 1 Tryz.underlying37 gO rfl (by omega) a v l.length _ c xv r.length (U8s r) d (by simp) (fun u k=>by obtain⟨_,_,rfl⟩:=List.mem_map.1 k;rfl) (by omega) (by omega) b;exact⟨v',e,j,by unfold Ow;rw[List.length_append,tV];exact g,h,Near.of i⟩
theorem mM (d:Nat) (v:Value) (l:B8) (e:Ow d w v l) (r:B8) (V:l.length+r.length<=1000000000) (n:d<=w.heap.size) :
  ∃v' h,(Builtin.append_ #[37,9] 37 #[v,S8 r]).run Tryz.prog w=.ok v' h/\Ow d h v' (l++r)/\w.grownBy h v.ownBlock/\Near w v v':=by
 obtain⟨L,H,z,q,A⟩:=info_parts gO;have c:(⟨r.toArray⟩:ByteArray).size=r.length:=by simp[ByteArray.size]
 have B:∀b,w.ownsRow b 5 1 v l.length (U8s l)->b<=w.heap.size->∃v' h,(Builtin.append_ #[37,9] 37 #[v,S8 r]).run Tryz.prog w=.ok v' h/\h.ownsRow b 5 1 v' (l++r).length (U8s (l++r))/\w.grownBy h v.ownBlock:=fun b Q E=>by
  obtain⟨v',h,t,C,D,-⟩:=Lib.run_append_own_string (P:=Tryz.prog) w b 37 9 37 5 L Tryz.underlying37 Tryz.underlying9 H z q A v l.length _ Q ⟨r.toArray⟩ (by rw[c];unfold maxLen;omega) (by rw[c];omega) E;rw[c]at C;exact⟨v',h,t,by rw[List.length_append,tV];exact C,D⟩
 obtain⟨v',h,t,C,D⟩:=B d e n;refine⟨v',h,t,C,D,?_⟩;have N:=e;rcases e.2 with⟨rfl,T⟩ | ⟨g,i,x,rfl,R,S,U,F,G,K⟩
 .have J:l.length=0:=T;have I:l=[]:=List.eq_nil_of_length_eq_zero J;subst I;obtain⟨W,X,a,O,-⟩:=B w.heap.size (World.ownsRow_nil _ _ _ _) (Nat.le_refl _);rw[t]at a;cases a;exact fun k y=>.inr (O.lt k y).1
 .by_cases p:l.length+r.length<=i
  .have M:x.size=i:=by simpa using G
   have a:=Lib.run_append_room_string (P:=Tryz.prog) w 37 9 37 5 L Tryz.underlying37 Tryz.underlying9 H q g l.length i x S ⟨r.toArray⟩ (by rw[c];exact p) (by omega);rw[t]at a;cases a;exact fun k y=>.inl y
  .have o:∀j u,(U8s l)[j]? = some u->w.cell? ((⟨g,0,none⟩:Addr).add j)=some u:=N.cells (g:=g) rfl;have a:=Lib.run_append_grow_string (P:=Tryz.prog) w 37 9 37 5 L (.int .u8 0) Tryz.underlying37 Tryz.underlying9 H z ⟨g,0,none⟩ l.length i (U8s l) (by rw[q];simp) o ⟨r.toArray⟩ (by rw[c];unfold maxLen at F;omega) (by rw[c];omega) (by rw[A,c];exact growslice_fits (by omega) (by omega));rw[t]at a;cases a;exact fun k y=>by cases y;exact .inr (Nat.le_refl _)
section
variable {ops:Array Oper} {rest:List Oper} {o:Oper} {a:Act} {Q:Exit->Act->World->Prop} {w:World}
theorem iY (i:o.guard=none) (s x:Operand) (u:o.op=.call { callee:=.builtin .append,args:=#[s,x],argTypes:=#[37,37] }) (j:o.type=37)
  (b:Nat) (v:Value) (l:B8) (z:a.eval s=v) (d:Ow b w v l)
  (xv:Value) (r:B8) (A:a.eval x=xv) (e:IsBytes w xv r) (t:l.length+r.length<=1000000000) (c:b<=w.heap.size)
  (h:∀v' g,Ow b g v' (l++r)->w.grownBy g v.ownBlock->Near w v v'->wpList Tryz.prog ops Q rest (a.put o.dst v') g):wpList Tryz.prog ops Q (o::rest) a w:=by
 refine wpList_plain i fun K q=>?_
 obtain⟨v',g,y,k,n,p⟩:=gJ b 37 v l d xv r e t c;unfold Oper.wp execOp;simp only[u,j,resolve,invoke,builtin,Sem.run_bind,Sem.run_pure,Result.andThen_ok,List.map_toArray,List.map_cons,List.map_nil,z,A,y];exact q _ _ (h v' g k n p)
theorem vj (g:o.guard=none) (s x:Operand) (t:o.op=.call { callee:=.builtin .append,args:=#[s,x],argTypes:=#[37,9] }) (i:o.type=37)
  (b:Nat) (v:Value) (l:B8) (y:a.eval s=v) (d:Ow b w v l)
  (r:B8) (z:a.eval x=S8 r) (q:l.length+r.length<=1000000000) (c:b<=w.heap.size)
  (h:∀v' e,Ow b e v' (l++r)->w.grownBy e v.ownBlock->Near w v v'->wpList Tryz.prog ops Q rest (a.put o.dst v') e):wpList Tryz.prog ops Q (o::rest) a w:=by
 refine wpList_plain g fun K p=>?_
 obtain⟨v',e,u,j,k,n⟩:=mM b v l d r q c;unfold Oper.wp execOp;simp only[t,i,resolve,invoke,builtin,Sem.run_bind,Sem.run_pure,Result.andThen_ok,List.map_toArray,List.map_cons,List.map_nil,y,z,u];exact p _ _ (h v' e j k n)
end
theorem Near.Cf (h:Near w1 v v') (b:w.heap.size<=w1.heap.size):Near w v v':=fun k a=>by
 rcases h k a with h | h
 .exact .inl h
 .exact .inr (Nat.le_trans b h)
theorem gD (v:Value) (l:B8) (n:Int) (a:Nat) (w:World) (d:Ow a w v l) (H:a<=w.heap.size) (I:l.length<=100000000) :
  Calls Tryz.prog 143 #[v,.int .i64 n] w fun e D=>∃v',e=.returned v'/\Ow a D v' (l++(putW n).1)/\w.grownBy D v.ownBlock/\Near w v v':=by
 have E:Hid _:=d;have o:(putW n).1.length<=9:=by
  unfold putW;split
  .simp
  .exact bH (by omega)
 have t:v=.slice none 0 0\/∃g c,v=.slice (some ⟨g,0,none⟩) l.length c:=by
  rcases d.2 with⟨h,-⟩ | ⟨g,c,F,h,-⟩
  .exact .inl h
  .exact .inr ⟨g,c,h⟩
 clear d;obtain⟨J,L,K,rfl⟩:∃b n c,v=.slice b n c:=by
  rcases t with h | ⟨g,c,h⟩
  iterate 2
   .exact ⟨_,_,_,h⟩
 clear t;have u:Hid _:=zw n w;obtain⟨⟨p,e⟩,B⟩:∃q,putW n=q:=⟨_,rfl⟩;rw[B]at o u ⊢;clear B;go_enter Tryz.func143,Tryz.ntmps143;go_wp2_with fail;go_at_call 199;refine Calls.mono u.out ?_;rintro G w1 ⟨⟨x,rfl,C⟩,j⟩;have y:Hid (IsBytes w1 x p):=by unfold Hid IsBytes;exact Row.BV C (by omega)
 have k:Hid (Ext w w1):=j;have r:=j.size;clear C j u
 try dsimp only at o ⊢
 go_wp2_with (at_builtin;go_must (refine iY rfl _ _ rfl rfl a _ l rfl (am E.out k.out) _ p rfl y.out (by omega) (by omega) ?_;intro v' M i z A))
 go_ret;exact⟨_,rfl,i,pB k.out z,A.Cf r⟩
theorem ln (v:Value) (l id:B8) (a:Nat) (w:World) (d:Ow a w v l) (L:a<=w.heap.size) (M:l.length<=100000000) (i:al id=true) :
  Calls Tryz.prog 144 #[v,S8 id] w fun e G=>∃v',e=.returned v'/\Ow a G v' (l++aQ id)/\w.grownBy G v.ownBlock/\Near w v v':=by
 have H:Hid _:=d;obtain⟨A,-⟩:=gF i;obtain⟨N,P,O,rfl⟩:∃b n c,v=.slice b n c:=by
  rcases d.2 with⟨h,-⟩ | ⟨g,c,I,h,-⟩
  iterate 2
   .exact ⟨_,_,_,h⟩
 clear d;have C:id.length<=30000000:=by
  unfold al at i
  cases t:aY id with
  | none=>rw[t]at i;cases i
  | some b =>
   rw[t]at i;have K:=(dN id t).1;have:b.length=32:=by simpa using i
   omega
 have u:aY id=some (aQ id):=by
  unfold al at i;unfold aQ
  cases t:aY id with
  | none=>rw[t]at i;cases i
  | some b=>rfl
 have q:=p6 id w (Nat.le_trans C (by decide));unfold dm at q;rw[u]at q;dsimp only at q;have y:Hid _:=q;obtain⟨p,E⟩:∃p,aQ id=p:=⟨_,rfl⟩;rw[E]at A y ⊢;clear q E u i;go_enter Tryz.func144,Tryz.ntmps144;go_wp2_with fail;go_at_call 53;refine Calls.mono y.out ?_;rintro J w1 ⟨⟨x,rfl,F⟩,k⟩;have z:Hid (IsBytes w1 x p):=F;have o:Hid (Ext w w1):=k;have r:=k.size;clear F k y
 go_wp2_with (at_builtin;go_must (refine iY rfl _ _ rfl rfl a _ l rfl (am H.out o.out) _ p rfl z.out (by omega) (by omega) ?_;intro v' Q j B D))
 go_ret;exact⟨_,rfl,j,pB o.out B,D.Cf r⟩
end
section
open Go Go.RowKit Go.Sort
theorem A8 (s:ByteArray) (w:World) (q:s.size<4294967281) :
  Calls Tryz.prog 202 #[.string s] w fun e l=>e=.returned (.bool (dS s.data.toList))/\l=w:=by
 go_enter Tryz.func202,Tryz.ntmps202;go_wp2
 go_loop [3] (fun i=>∃k:Nat,k<=s.size/\i=.int .i64 k/\(s.data.toList.take k).all okC=true) (fun i=>s.size - (intOf i).toNat)
 case atStart=>exact⟨0,Nat.zero_le _,rfl,rfl⟩
 case round =>
  obtain⟨k,p,rfl,h⟩:=hrel;have d:Hid _:=h;clear h
  by_cases b:k<s.size
  .by_cases n:(s[k].toNat:Int)<32
   .go_wp2;go_ret;exact⟨an (me b (by unfold okC;rw[decide_eq_false (by omega)];rfl)).symm,rfl⟩
   .by_cases o:(126:Int)<s[k].toNat
    .go_wp2;go_ret;exact⟨an (me b (by unfold okC;rw[decide_eq_false (by omega:¬s[k].toNat<=126)];simp)).symm,rfl⟩
    .go_wp2
     go_round
     case rel =>
      exact⟨k+1,by omega,by go_num,by rw[lT s k b,List.all_append,d.out];simp[okC];omega⟩
     case measure=>simp[intOf];omega
  .have c:k=s.size:=by omega
   have a:s.data.toList.all okC=true:=by
    have:=d.out
    rwa [c,List.take_of_length_le (by simp)]at this
   have j:Hid _:=a;clear a d c;go_wp2;go_ret;refine⟨an ?_,rfl⟩;show _=(s.data.toList.all okC && decide (s.data.toList.length<=200));rw[j.out];have g:s.data.toList.length=s.size:=by simp
   rw[g,Bool.true_and];exact decide_eq_decide.2 (by omega)
theorem yW (l:B8) (w:World) (a:l.length<4294967281) :
  Calls Tryz.prog 202 #[S8 l] w fun e b=>e=.returned (.bool (dS l))/\b=w:=A8 ⟨l.toArray⟩ w a
theorem sX (v:Value) (l:List B8) (w:World) (B:IsStrs w v l) (A:∀s∈l,s.length<=140737488355328) :
  Calls Tryz.prog 201 #[v] w fun e J=>e=.returned (.bool (l.all al))/\Ext w J:=by
 obtain⟨a,c,rfl,N,O,P,z⟩:=B.get;have F:Hid _:=z;have G:Hid _:=A;clear B z A;go_enter Tryz.func201,Tryz.ntmps201;go_wp2;go_loopw [3] (fun i wr=>∃k:Nat,k<=l.length/\i=.int .i64 k/\Hid ((l.take k).all al=true)/\Hid (Ext w wr)) (fun i _=>l.length - (intOf i).toNat)
 case atStart=>exact⟨0,Nat.zero_le _,rfl,rfl,Ext.refl _⟩
 case round =>
  obtain⟨k,M,rfl,u,p⟩:=hrel
  by_cases b:k<l.length
  .obtain ⟨x,n⟩:∃x,l[k]? = some x:=⟨_,List.getElem?_eq_getElem b⟩;obtain⟨L,Q,rfl,y⟩:=F.out k b;have I:=G.out x (List.mem_of_getElem? n);have C:=p.out.cell (y k b);rw[show l.getD k []=x by rw[List.getD_eq_getElem?_getD,n];rfl]at C;have g:Hid ((l.take (k+1)).all al=al x):=by
    unfold Hid;rw[List.take_add_one,n,List.all_append,u.out];simp
   have q:Hid (x∈l):=List.mem_of_getElem? n;obtain⟨t,d⟩:∃t,al x=t:=⟨_,rfl⟩;have h:Hid _:=d;rw[d]at g;clear d n y;go_wp2_with fail;go_at_call 87;refine(fC x wr (by omega)).mono ?_;rw[h.out];rintro e K ⟨rfl,o⟩;have j:Hid (Ext w K):=p.out.trans o;clear o C
   cases t with
   | false =>
    have E:Hid (l.all al=false):=by
     unfold Hid;rw[List.all_eq_false];exact⟨x,q.out,by rw[h.out];simp⟩
    go_wp2;go_ret;exact⟨an E.out.symm,j.out⟩
   | true =>
    go_wp2;go_roundw
    case rel=>exact⟨k+1,by omega,by go_num,g,j⟩
    case measure=>simp[intOf];omega
  .have r:k=l.length:=by omega
   subst r;have D:Hid (l.all al=true):=by have H:=u.out;rwa [List.take_length]at H
   go_wp2;go_ret;exact⟨an D.out.symm,p.out⟩
theorem zL (m:Nat) (h:m<=bi):bits BinOp.and IntKind.i64 (m:Int) 127=((m%128:Nat):Int):=by
 unfold bi at h;unfold bits;show IntKind.wrap .i64 ((BitVec.ofInt 64 (m:Int) &&& BitVec.ofInt 64 127).toNat:Int)=_;have e:(BitVec.ofInt 64 (m:Int) &&& BitVec.ofInt 64 127).toNat=m%128:=by
  rw[BitVec.toNat_and,BitVec.toNat_ofInt,BitVec.toNat_ofInt];have a:((m:Int)%((2 ^ 64:Nat):Int)).toNat=m:=by omega
  rw[a];exact Nat.and_two_pow_sub_one_eq_mod m 7
 rw[e];exact IntWalk.i64_in _ (by omega)
theorem A7:∀r:Fin 128,bits BinOp.or IntKind.i64 (r.val:Int) 128=(r.val:Int)+128:=by decide +kernel
theorem zQ (m:Nat):IntKind.u8.wrap (bits BinOp.or IntKind.i64 ((m%128:Nat):Int) 128)=((UInt8.ofNat (m%128+128)).toNat:Int):=by
 have h:=A7 ⟨m%128,by omega⟩;rw[show((m%128:Nat):Int)=(((⟨m%128,by omega⟩:Fin 128).val:Nat):Int)from rfl,h,IntKind.wrap_u8,UInt8.toNat_ofNat'];show(((m%128:Nat):Int)+128)%256=_;omega
theorem rJ (n:Int) (w:World) :
  Calls Tryz.prog 203 #[.int .i64 n] w fun e F=>(∃v,e=.returned (.tuple #[v,.int .i64 (putW n).2])/\F.ownsRow w.heap.size 5 1 v (putW n).1.length ((putW n).1.map fun x=>.int .u8 x.toNat))/\Ext w F:=by
 obtain⟨r,g⟩:∃r,putW n=r:=⟨_,rfl⟩;rw[g]
 by_cases H:n<0
 .have i:r=([],1):=by rw[<-g];unfold putW;rw[if_pos (.inl H)]
  subst i;clear g;go_enter Tryz.func203,Tryz.ntmps203;go_wp2;go_ret2;exact⟨⟨_,rfl,World.ownsRow_nil _ _ _ _⟩,Ext.refl _⟩
 by_cases u:(72057594037927936:Int)<n
 .have i:r=([],1):=by rw[<-g];unfold putW;rw[if_pos (.inr u)]
  subst i;clear g;go_enter Tryz.func203,Tryz.ntmps203;go_wp2;go_ret2;exact⟨⟨_,rfl,World.ownsRow_nil _ _ _ _⟩,Ext.refl _⟩
 obtain⟨n,rfl⟩:∃k:Nat,n=k:=⟨n.toNat,by omega⟩;have i:r=(ar n,0):=by rw[<-g];unfold putW;rw[if_neg (by unfold bi;omega)];rfl
 subst i;have E:n<=bi:=by unfold bi;omega
 have h:Hid _:=E;clear g E;go_enter Tryz.func203,Tryz.ntmps203;go_wp2;go_loopw [0,4] (fun C v wr=>∃(m:Nat) (l:B8),C=.int .i64 m/\m<=n/\Hid (ar n=l++ar m)/\Hid (wr.ownsRow w.heap.size 5 1 v l.length (l.map fun x=>.int .u8 x.toNat))/\Hid (Ext w wr)) (fun C _ _=>(intOf C).toNat)
 case atStart=>exact⟨n,[],rfl,Nat.le_refl _,rfl,World.ownsRow_nil _ _ _ _,Ext.refl _⟩
 case round =>
  obtain⟨m,l,rfl,L,t,o,p⟩:=hrel;have D:l.length<=9:=by
   have u:=bH (n:=n) h.out;rw[t.out,List.length_append]at u;omega
  by_cases A:127<m
  .have K:=zL m (by have:=h.out;omega);have b:=zQ m;obtain⟨c,y⟩:∃c,UInt8.ofNat (m%128+128)=c:=⟨_,rfl⟩;rw[y]at b;have G:Hid _:=y;have q:Hid _:=b;clear y b
   go_wp2_with (at_builtin;go_must (refine dP rfl _ _ rfl w.heap.size _ l.length _ rfl (am o.out ((Ext.refl _).alloc _)) wr.heap.size 1 1 [c] rfl rfl (fr:=(0,0)) (by show _=some (Obj.cells #[Value.int .u8 (c.toNat:Int)] _ _);rw[<-q.out];exact ae _ _) (by omega) (by have:=p.out.size;simp;omega) ?_;intro I J a d))
   go_roundw
   case rel =>
    refine⟨m / 128,l++[c],?_,by omega,?_,?_,?_⟩
    .go_num
    .unfold Hid;rw[t.out,gS A,G.out,List.append_assoc];rfl
    .unfold Hid;simpa using a
    .exact aj (p.out.alloc _) (am o.out ((Ext.refl _).alloc _)) d
   case measure=>simp[intOf];omega
  .have j:m<=127:=by omega
   have z:(wr.alloc (.cells #[.int .u8 m] 5)).heap[wr.heap.size]? = some (.cells (List.map (fun x:UInt8=>Value.int .u8 x.toNat) [UInt8.ofNat m]).toArray 5 (0,0)):=by
    rw[ae,List.map_cons,List.map_nil,<-A2 j]
   go_wp2_with (at_builtin;go_must (refine dP rfl _ _ rfl w.heap.size _ l.length _ rfl (am o.out ((Ext.refl _).alloc _)) wr.heap.size 1 1 [UInt8.ofNat m] rfl rfl z (by omega) (by have:=p.out.size;simp;omega) ?_;intro I J a d))
   go_ret2;have B:ar n=l++[UInt8.ofNat m]:=by rw[t.out,ei j]
   rw[B];exact⟨⟨_,rfl,by simpa using a⟩,aj (p.out.alloc _) (am o.out ((Ext.refl _).alloc _)) d⟩
theorem jn (n:Int) (w:World) :
  Calls Tryz.prog 146 #[.int .i64 n] w fun e g=>(∃v,e=.returned v/\g.ownsRow w.heap.size 5 1 v (putW n).1.length ((putW n).1.map fun x=>.int .u8 x.toNat))/\Ext w g:=by
 have a:Hid _:=rJ n w;obtain⟨⟨p,q⟩,b⟩:∃r,putW n=r:=⟨_,rfl⟩;rw[b]at a ⊢;clear b;go_enter Tryz.func146,Tryz.ntmps146;go_wp2_with fail;go_at_call 203;refine Calls.mono a.out ?_;rintro e h ⟨⟨v,rfl,c⟩,d⟩;have i:Hid (h.ownsRow w.heap.size 5 1 v p.length (p.map fun x=>.int .u8 x.toNat)):=c;have j:Hid (Ext w h):=d;clear c d a;go_wp2;go_ret;exact⟨⟨_,rfl,i.out⟩,j.out⟩
theorem nr (l:B8) (w:World) (o:l.length<=30000000) :
  Calls Tryz.prog 147 #[S8 l] w fun e k=>(∃v,e=.returned v/\IsBytes k v (aQ l))/\Ext w k:=by
 have a:=mF l w (Nat.le_trans o (by decide));unfold aQ;unfold dm at a
 cases g:aY l with
 | none =>
  rw[g]at a;have c:Hid _:=a;clear a g;go_enter Tryz.func147,Tryz.ntmps147;go_wp2_with fail;go_at_call 148;refine Calls.mono c.out ?_;rintro e h ⟨rfl,d⟩;have i:Hid (Ext w h):=d;clear d c;go_wp2;go_ret;exact⟨⟨_,rfl,IsBytes.nil _⟩,i.out⟩
 | some b =>
  rw[g]at a;have c:Hid _:=a;clear a g;go_enter Tryz.func147,Tryz.ntmps147;go_wp2_with fail;go_at_call 148;refine Calls.mono c.out ?_;rintro e h ⟨⟨v,rfl,j⟩,d⟩;have n:Hid (IsBytes h v b):=j;have i:Hid (Ext w h):=d;clear j d c;go_wp2;go_ret;exact⟨⟨_,rfl,n.out⟩,i.out⟩
end
section
open Go Go.RowKit Go.Sort
theorem uL (v:Value) (l:List Itm) (w:World) (hv:IsItms w v l) (hs:gH l) :
  Calls Tryz.prog 200 #[v] w fun e w'=>e=.returned (.bool (cI l))/\Ext w w':=by
 obtain⟨a,c,rfl,l1,l2,l3,hg⟩:=hv.get;have HG:Hid _:=hg;have HS:Hid _:=hs;clear hv hg hs;go_enter Tryz.func200,Tryz.ntmps200;go_wp2;go_loopw [3] (fun i wr=>∃k:Nat,k<=l.length/\i=.int .i64 k/\Hid (itT l k=true)/\Hid (Ext w wr)) (fun i _=>l.length - (intOf i).toNat)
 case atStart=>exact⟨0,Nat.zero_le _,rfl,rfl,Ext.refl _⟩
 case round =>
  obtain⟨k,hk,rfl,HT,H⟩:=hrel
  by_cases a1:k<l.length
  .obtain ⟨x,hx⟩:∃x,l[k]? = some x:=⟨_,List.getElem?_eq_getElem a1⟩;obtain⟨bb,oo,rfl,T,U,V⟩:=HG.out k x hx;obtain⟨a3,a2⟩:=HS.out x (List.mem_of_getElem? hx);have L:=qX hx;rw[HT.out,Bool.true_and]at L;have u:Hid _:=L;have D:Hid (∀j,k=j+1->wr.cell? ⟨bb,oo+j*3+1,none⟩=some (S8 (l.getD j iB).name)):=fun j hj=>by
    subst hj;have Y:j<l.length:=by omega
    obtain⟨b2,o2,W,-,F,-⟩:=HG.out j (l.getD j iB) (by rw[List.getD_eq_getElem?_getD,List.getElem?_eq_getElem Y];rfl);cases W;exact H.out.cell F
   have y0:=H.out.cell T;have y1:=H.out.cell U;have y2:=H.out.cell V;obtain⟨h,name,id⟩:=x;dsimp only at y0 y1 y2 a3 a2;clear L hx T U V;go_upto_region 5 with fail;obtain⟨C,E⟩:∃C,C=wr.alloc (.cells #[.int .i64 h,S8 name,S8 id] 138):=⟨_,rfl⟩;have N:Ext wr C:=by rw[E];exact(Ext.refl _).alloc _
   have I:C.heap[wr.heap.size]? = some (.cells #[.int .i64 h,S8 name,S8 id] 138 (0,0)):=by rw[E];exact ae _ _
   rw[<-E];obtain⟨gi,X⟩:∃gi,wr.heap.size=gi:=⟨_,rfl⟩;rw[X]at I ⊢;obtain⟨z0,z1,z2⟩:=bL I;have au:Hid (Ext w C):=H.out.trans N;have ad:Hid (∀j,k=j+1->C.cell? ⟨bb,oo+j*3+1,none⟩=some (S8 (l.getD j iB).name)):=fun j hj=>N.cell (D.out j hj)
   have v0:=fun d A=>cell_regrown z0 d A
   have v1:=fun d A=>cell_regrown z1 d A
   have v2:=fun d A=>cell_regrown z2 d A
   obtain⟨nb,J⟩:∃nb,bW name=nb:=⟨_,rfl⟩;obtain⟨vb,M⟩:∃vb,al id=vb:=⟨_,rfl⟩;have Q:Hid _:=J;have R:Hid _:=M;have t:Hid (∀d A,Calls Tryz.prog 155 #[S8 name] (grow (redrawn C d) A) fun e w'=>e=.returned (.bool nb)/\∃q:Regrown,w'=grow (redrawn C q.d) q.os):=fun d A =>
    (jF name _ (by omega)).mono (fun _ _ ⟨W,hw⟩=>⟨by rw[W,J],⟨d,A⟩,hw⟩)
   have y:Hid (∀d A,Calls Tryz.prog 87 #[S8 id] (grow (redrawn C d) A) fun e w'=>e=.returned (.bool vb)/\∃q:Regrown,w'=grow (redrawn C q.d) q.os):=fun d A=>Calls.regrown_of (by
    have F:=fC id (grow (redrawn C d) A) (by omega)
    rwa [M]at F)
   obtain⟨r,G⟩:∃c,itT l (k+1) = !c:=⟨!itT l (k+1),by simp⟩;have p:Hid _:=G;clear E N I X z0 z1 z2 y0 y1 y2 J M G D H;go_cut [49] (fun c wx=>c=.bool r/\Ext C wx)
   case first =>
    by_cases h1:h<1
    .have B:Hid (r=true):=jA p.out u.out (by unfold bM;rw[decide_eq_false (by omega:¬1<=h)];rfl);refine dg (by kernel_rfl) (by kernel_rfl) ?_
     repeat (refine dG (fun K g=>?_);go_simp;first | (refine g _ ?_;clear g K) | (apply Exists.intro;refine⟨fun _=>?_,g _ ?_⟩;(first | exact t.out _ _ | exact y.out _ _);clear g K))
     refine ej ?_;intro _ n;obtain⟨⟨O,osq⟩,b⟩:=n;subst b;go_wp2_with fail;go_meet
     case rel=>exact⟨by rw[B.out],Ext.B6 _ _ _⟩
    by_cases h2:4<h
    .have B:Hid (r=true):=jA p.out u.out (by unfold bM;rw[decide_eq_false (by omega:¬h<=4)];simp);refine dg (by kernel_rfl) (by kernel_rfl) ?_
     repeat (refine dG (fun K g=>?_);go_simp;first | (refine g _ ?_;clear g K) | (apply Exists.intro;refine⟨fun _=>?_,g _ ?_⟩;(first | exact t.out _ _ | exact y.out _ _);clear g K))
     refine ej ?_;intro _ n;obtain⟨⟨O,osq⟩,b⟩:=n;subst b;go_wp2_with fail;go_meet
     case rel=>exact⟨by rw[B.out],Ext.B6 _ _ _⟩
    cases nb with
    | false =>
     have B:Hid (r=true):=jA p.out u.out (by unfold bM;rw[Q.out];simp);refine dg (by kernel_rfl) (by kernel_rfl) ?_
     repeat (refine dG (fun K g=>?_);go_simp;first | (refine g _ ?_;clear g K) | (apply Exists.intro;refine⟨fun _=>?_,g _ ?_⟩;(first | exact t.out _ _ | exact y.out _ _);clear g K))
     refine ej ?_;intro _ n;obtain⟨⟨O,osq⟩,b⟩:=n;subst b;go_wp2_with fail;go_meet
     case rel=>exact⟨by rw[B.out],Ext.B6 _ _ _⟩
    | true =>
    cases vb with
    | false =>
     have B:Hid (r=true):=jA p.out u.out (by unfold bM;rw[R.out];simp);refine dg (by kernel_rfl) (by kernel_rfl) ?_
     repeat (refine dG (fun K g=>?_);go_simp;first | (refine g _ ?_;clear g K) | (apply Exists.intro;refine⟨fun _=>?_,g _ ?_⟩;(first | exact t.out _ _ | exact y.out _ _);clear g K))
     refine ej ?_;intro _ n;obtain⟨⟨O,osq⟩,b⟩:=n;subst b;go_wp2_with fail;go_meet
     case rel=>exact⟨by rw[B.out],Ext.B6 _ _ _⟩
    | true =>
    have P:Hid (bM ⟨h,name,id⟩=true):=by unfold Hid bM;rw[decide_eq_true (by omega:1<=h),decide_eq_true (by omega:h<=4),Q.out,R.out];rfl
    by_cases Z:k=0
    .have B:Hid (r=false):=nR p.out u.out P.out (by rw[Z];rfl);subst Z;refine dg (by kernel_rfl) (by kernel_rfl) ?_
     repeat (refine dG (fun K g=>?_);go_simp;first | (refine g _ ?_;clear g K) | (apply Exists.intro;refine⟨fun _=>?_,g _ ?_⟩;(first | exact t.out _ _ | exact y.out _ _);clear g K))
     refine ej ?_;intro _ n;obtain⟨⟨O,osq⟩,b⟩:=n;subst b;go_wp2_with fail;go_meet
     case rel=>exact⟨by rw[B.out],Ext.B6 _ _ _⟩
    .obtain ⟨j,rfl⟩:∃j,k=j+1:=⟨k - 1,by omega⟩;have a7:IntKind.i64.wrap (((j+1:Nat):Int) - 1)=(j:Int):=by rw[IntWalk.i64_in _ (by omega)];omega
     have y3:=ad.out j rfl;obtain⟨z,hz⟩:∃z,(l.getD j iB).name=z:=⟨_,rfl⟩;rw[hz]at y3;have v3:=fun d A=>cell_regrown y3 d A
     have a5:(0:Int)<((j+1:Nat):Int):=by omega
     have a4:IntKind.i64.wrap (j:Int)=(j:Int):=IntWalk.i64_in _ (by omega);have a6:(0:Int)<(j:Int)+1:=by omega
     have Y:j<l.length:=by omega
     have HZ:Hid _:=hz;clear hz y3;rcases jB name z with⟨o,hb,W⟩ | ⟨o,hb⟩ | ⟨o,hb,W⟩
     .have B:Hid (r=false):=nR p.out u.out P.out (by rw[show j+1 - 1=j from rfl,HZ.out,o];simp);clear o;refine dg (by kernel_rfl) (by kernel_rfl) ?_
      repeat (refine dG (fun K g=>?_);go_simp;first | (refine g _ ?_;clear g K) | (apply Exists.intro;refine⟨fun _=>?_,g _ ?_⟩;(first | exact t.out _ _ | exact y.out _ _);clear g K))
      refine ej ?_;intro _ n;obtain⟨⟨O,osq⟩,b⟩:=n;subst b;go_wp2_with fail;go_meet
      case rel=>exact⟨by rw[B.out],Ext.B6 _ _ _⟩
     iterate 2
      .have B:Hid (r=true):=vW p.out u.out (by rw[show j+1 - 1=j from rfl,HZ.out,o];simp);clear o;refine dg (by kernel_rfl) (by kernel_rfl) ?_
       repeat (refine dG (fun K g=>?_);go_simp;first | (refine g _ ?_;clear g K) | (apply Exists.intro;refine⟨fun _=>?_,g _ ?_⟩;(first | exact t.out _ _ | exact y.out _ _);clear g K))
       refine ej ?_;intro _ n;obtain⟨⟨O,osq⟩,b⟩:=n;subst b;go_wp2_with fail;go_meet
       case rel=>exact⟨by rw[B.out],Ext.B6 _ _ _⟩
   case rest =>
    obtain⟨rfl,aa⟩:=hcut;have S:Hid (Ext w wc):=au.out.trans aa;clear aa
    cases r with
    | true =>
     have HF:Hid (cI l=false):=tF (k:=k+1) (by rw[p.out];rfl);go_wp2;go_ret;exact⟨an HF.out.symm,S.out⟩
    | false =>
     have HP:Hid (itT l (k+1)=true):=by unfold Hid;rw[p.out];rfl
     go_wp2;go_roundw
     case rel=>exact⟨k+1,by omega,by go_num,HP,S⟩
     case measure=>simp[intOf];omega
  .have a0:k=l.length:=by omega
   have HF:Hid (cI l=decide (l.length<=256)):=by
    have F:=HT.out;unfold itT at F;rw[a0,List.take_length,Bool.and_eq_true]at F;unfold Hid cI;rw[F.1,F.2,Bool.true_and,Bool.true_and]
   clear hk;go_wp2;go_ret;refine⟨an ?_,H.out⟩;rw[HF.out];exact decide_eq_decide.2 (by omega)
end
end Go.Proofs.YtfabjgfmiaammaaGreatDoor
