/- Contracts of the program's functions and plain laws behind the card. Conditions: as each theorem states. -/
import Derived.Test.YtfabjgfmiaammaaGreatDoorYam
import Derived.Test.YtfabjgfmiaammaaGreatDoorYag
import Derived.Deep.Upon
set_option linter.unusedVariables false
set_option linter.unusedSimpArgs false
set_option linter.unusedSectionVars false
set_option maxRecDepth 100000
set_option maxHeartbeats 64000000
namespace Go.Proofs.YtfabjgfmiaammaaGreatDoor
section
open Go Go.RowKit
variable {w:World} {v:Value}
theorem lI {α:Type} {t:TypeId} {p:List Value->α->Prop} {xs:List α} (n:Nat) (G:∀c x,p c x->c.length=n) (A:0<n) (h:ReadL w t p v xs):∃a e,v=.slice a xs.length e/\xs.length<=e/\xs.length<=140737488355328/\e<=9223372036854775807 /\
  ∀(k:Nat) x,xs[k]? = some x->∃b o C,a=some ⟨b,o,none⟩/\p C x/\∀j u,C[j]? = some u->w.cell? ⟨b,o+k*n+j,none⟩=some u:=by
 obtain⟨d,⟨a,e,rfl,I,J,K,L⟩,N,r⟩:=h;refine⟨a,e,rfl,I,K,J,fun k x F=>?_⟩;have M:∀c∈d,c.length=n:=fun c y=>by
  obtain⟨i,E,rfl⟩:=List.mem_iff_getElem.1 y;have z:i<xs.length:=by rw[<-r.1];exact E
  exact G _ _ (r.2 i d[i] xs[i] (List.getElem?_eq_getElem E) (List.getElem?_eq_getElem z))
 have l:k<d.length:=by rw[r.1];exact(List.getElem?_eq_some_iff.1 F).1
 have g:=r.2 k _ x (List.getElem?_eq_getElem l) F;have D:=fun j u B=>fQ n d k j _ u M (List.getElem?_eq_getElem l) B
 obtain⟨b,o,rfl,y⟩:=L (by
  intro q;have H:(d[k])[0]? = some ((d[k])[0]'(by rw[G _ _ g];exact A)):=List.getElem?_eq_getElem _;have:=D 0 _ H;rw[q]at this;simp at this)
 refine⟨b,o,d[k],rfl,g,fun j u B=>?_⟩;have:=y _ _ (D j u B)
 rwa [Nat.add_assoc,Nat.mul_comm k n]
variable {w':World}
theorem Row.Dq {n:Nat} {cs:List Value} (h:Row w v n cs) (p:cs≠[]->∀k,v.ownBlock=some k->w'.heap[k]? = w.heap[k]?):Row w' v n cs:=by
 obtain⟨a,c,rfl,e,g,j,l⟩:=h;refine⟨a,c,rfl,e,g,j,fun d=>?_⟩;obtain⟨b,o,rfl,q⟩:=l d;refine⟨b,o,rfl,fun i u r=>?_⟩;rw[World.cell?_of_block (w:=w) (w':=w') (a:=⟨b,o+i,none⟩) (p d b rfl)];exact q i u r
def ReadO {α:Type} (w:World) (p:List Value->α->Prop) (v:Value) (xs:List α):Prop:=∃a:List (List Value),Row w v xs.length a.flatten/\(xs≠[]->∀k,v.ownBlock=some k->k<w.heap.size)/\Each p a xs
theorem ReadO.mono {α:Type} {p q:List Value->α->Prop} {xs:List α} (h:ReadO w p v xs) (b:∀c x,p c x->q c x):ReadO w q v xs:=by
 obtain⟨a,d,e,g⟩:=h;exact⟨a,d,e,g.imp b⟩
theorem ReadO.lt {α:Type} {p:List Value->α->Prop} {xs:List α} (h:ReadO w p v xs) (c:xs≠[]):∀k,v.ownBlock=some k->k<w.heap.size:=by
 obtain⟨a,d,b,e⟩:=h;exact b c
theorem ReadO.stay {α:Type} {p:List Value->α->Prop} {xs:List α} (h:ReadO w p v xs) (j:w.heap.size<=w'.heap.size) (g:xs≠[]->∀k,v.ownBlock=some k->w'.heap[k]? = w.heap[k]?):ReadO w' p v xs:=by
 obtain⟨a,d,e,c⟩:=h;refine⟨a,d.Dq (fun b=>g fun l=>b ?_),fun b k i=>Nat.lt_of_lt_of_le (e b k i) j,c⟩;have:a=[]:=List.eq_nil_of_length_eq_zero (by rw[c.1,l];rfl);rw[this];rfl
theorem jE {α:Type} {p:List Value->α->Prop} {xs:List α} (n:Nat) (F:∀c x,p c x->c.length=n) (z:0<n) (h:ReadO w p v xs):∃a e,v=.slice a xs.length e/\xs.length<=e/\xs.length<=140737488355328/\e<=9223372036854775807 /\
  ∀(k:Nat) x,xs[k]? = some x->∃b o B,a=some ⟨b,o,none⟩/\p B x/\∀j u,B[j]? = some u->w.cell? ⟨b,o+k*n+j,none⟩=some u:=by
 obtain⟨d,⟨a,e,rfl,H,I,J,K⟩,M,r⟩:=h;refine⟨a,e,rfl,H,J,I,fun k x E=>?_⟩;have L:∀c∈d,c.length=n:=fun c t=>by
  obtain⟨i,D,rfl⟩:=List.mem_iff_getElem.1 t;have y:i<xs.length:=by rw[<-r.1];exact D
  exact F _ _ (r.2 i d[i] xs[i] (List.getElem?_eq_getElem D) (List.getElem?_eq_getElem y))
 have l:k<d.length:=by rw[r.1];exact(List.getElem?_eq_some_iff.1 E).1
 have g:=r.2 k _ x (List.getElem?_eq_getElem l) E;have C:=fun j u A=>fQ n d k j _ u L (List.getElem?_eq_getElem l) A
 obtain⟨b,o,rfl,t⟩:=K (by
  intro q;have G:(d[k])[0]? = some ((d[k])[0]'(by rw[F _ _ g];exact z)):=List.getElem?_eq_getElem _;have:=C 0 _ G;rw[q]at this;simp at this)
 refine⟨b,o,d[k],rfl,g,fun j u A=>?_⟩;have:=t _ _ (C j u A)
 rwa [Nat.add_assoc,Nat.mul_comm k n]
variable {l:ax}
theorem cg {R:Nat->Prop} (h:bI R w v l):∃a d,v=.slice a l.length d/\l.length<=d/\l.length<=140737488355328/\d<=9223372036854775807 /\
  ∀(k:Nat) q f,l[k]? = some (q,f)->∃b o s c,a=some ⟨b,o,none⟩/\q.length<=10000000/\IsData R w (.slice s f.data.length c) f.data/\w.cell? ⟨b,o+k*4,none⟩=some (S8 q)/\w.cell? ⟨b,o+k*4+1,none⟩=some (.int .i64 f.mode)/\w.cell? ⟨b,o+k*4+2,none⟩=some (.slice s f.data.length c)/\w.cell? ⟨b,o+k*4+3,none⟩=some (.int .i64 f.time):=by
 obtain⟨a,d,i,j,n,p,r⟩:=lI 4 (fun c x z=>z.length.1) (by omega) h;refine⟨a,d,i,j,n,p,fun k q f u=>?_⟩;obtain⟨b,o,A,t,⟨y,B,rfl,g⟩,e⟩:=r k (q,f) u;obtain⟨s,c,rfl,-⟩:=id g.bytes;exact⟨b,o,s,c,t,y,g,e 0 _ rfl,e 1 _ rfl,e 2 _ rfl,e 3 _ rfl⟩
theorem tl (l:B8):(⟨l.toArray⟩:ByteArray).toList=l:=Lib.toList_data _
theorem fP {R:Nat->Prop} (p:B8) (B:bI R w v l) :
  Calls Tryz.prog 128 #[v,S8 p] w fun e w'=>(∃i:Int,e=.returned (.int .i64 i)/\oL l p i)/\Ext w w':=by
 obtain⟨a,E,rfl,J,K,L,A⟩:=cg B;have C:Hid _:=A;have H:=tl p;clear A B;go_enter Tryz.func128,Tryz.ntmps128;go_wp2;go_loopw [5] (fun i wr=>∃k:Nat,k<=l.length/\i=.int .i64 k/\(∀e∈l.take k,e.1≠p)/\Ext w wr) (fun i _=>l.length - (intOf i).toNat)
 case atStart=>exact⟨0,Nat.zero_le _,rfl,by simp,Ext.refl _⟩
 case round =>
  obtain⟨k,M,rfl,h,j⟩:=hrel;have r:Hid _:=h;clear h
  by_cases x:k<l.length
  .obtain ⟨⟨q,f⟩,d⟩:∃e,l[k]? = some e:=⟨_,List.getElem?_eq_getElem x⟩;obtain⟨b,o,s,c,rfl,G,F,z,-,-,-⟩:=C.out k q f d;replace z:=j.cell z;have n:Hid _:=d;have I:=tl q;clear F d;obtain⟨t,g⟩:∃t,(q==p)=t:=⟨_,rfl⟩
   cases t with
   | true =>
    go_wp2;go_ret;have y:q=p:=by simpa using g
    subst y;exact⟨⟨_,rfl,.inr ⟨k,f,rfl,n.out,tH r.out n.out⟩⟩,j⟩
   | false =>
    have D:Hid (q≠p):=by simpa [Hid]using g
    go_wp2;go_roundw
    case rel=>exact⟨k+1,by omega,by go_num,rO r.out n.out D.out,j⟩
    case measure=>simp[intOf];omega
  .have u:k=l.length:=by omega
   subst u;go_wp2;go_ret;have h:=r.out;rw[List.take_length]at h;exact⟨⟨_,rfl,.inl ⟨wC h,rfl⟩⟩,j⟩
theorem qd {R:Nat->Prop} (B:bI R w v l) (J:cV l<=1000000000000) :
  Calls Tryz.prog 127 #[v] w fun e w'=>e=.returned (.int .i64 (cV l))/\Ext w w':=by
 obtain⟨a,F,rfl,K,L,M,y⟩:=cg B;have C:Hid _:=y;obtain⟨U,p⟩:∃U,cV l=U:=⟨_,rfl⟩;have E:Hid _:=p;rw[p]at J;clear y B p;go_enter Tryz.func127,Tryz.ntmps127;go_wp2;go_loopw [3,4] (fun n i wr=>∃k m:Nat,k<=l.length/\i=.int .i64 k/\n=.int .i64 m/\m<=U/\cV (l.take k)=m/\Ext w wr) (fun _ i _=>l.length - (intOf i).toNat)
 case atStart=>exact⟨0,0,Nat.zero_le _,rfl,rfl,Nat.zero_le _,rfl,Ext.refl _⟩
 case round =>
  obtain⟨k,m,N,rfl,rfl,H,z,u⟩:=hrel;have j:Hid _:=z;clear z
  by_cases t:k<l.length
  .obtain ⟨⟨q,f⟩,g⟩:∃e,l[k]? = some e:=⟨_,List.getElem?_eq_getElem t⟩;obtain⟨b,o,s,c,rfl,I,G,-,-,x,-⟩:=C.out k q f g;replace x:=u.cell x;have d:=xz g;have h:=@rS l (k+1);rw[d,j.out,E.out]at h;rw[j.out]at d;dsimp only at d h;have D:Hid _:=d;clear G g d;go_wp2;go_roundw
   case rel=>exact⟨k+1,m+f.data.length,by omega,by go_num,by go_num,h,D.out,u⟩
   case measure=>simp[intOf];omega
  .have r:k=l.length:=by omega
   subst r;go_wp2;go_ret;have A:=j.out;rw[List.take_length]at A;exact⟨iJ (by rw[A]),u⟩
end
section
open Go Go.RowKit
theorem qW:(Tryz.prog.info? 164).map (fun i=>(i.zero,i.size,i.bytes))=some (some (.agg #[S8 [],.int .i64 0,.slice none 0 0,.int .i64 0]),4,56):=by kernel_rfl
def OwnRows (a:Nat) (R:Nat->Prop) (w:World) (v:Value) (l:ax):Prop:=∃b:List (List Value),w.ownsRow a 164 4 v l.length b.flatten/\Each (IsRowR R w) b l
variable {base:Nat} {w:World} {v:Value} {l:ax}
theorem OwnRows.rows {R:Nat->Prop} (h:OwnRows base R w v l) (d:l.length<=100000000):bI R w v l:=by
 obtain⟨a,b,c⟩:=h;exact⟨a,Row.BV b (by omega),Typed.BV b,c⟩
theorem OwnRows.lt {R:Nat->Prop} (h:OwnRows base R w v l) {k:Nat} (c:v.ownBlock=some k):base<=k/\k<w.heap.size:=by
 obtain⟨a,b,d⟩:=h;exact b.lt k c
variable {css:List (List Value)}
theorem Each.len {α:Type} {p:List Value->α->Prop} {xs:List α} (h:Each p css xs) {n:Nat} (e:∀c x,p c x->c.length=n):∀c∈css,c.length=n:=fun c d=>by
 obtain⟨i,b,rfl⟩:=List.mem_iff_getElem.1 d;have a:i<xs.length:=by rw[<-h.1];exact b
 exact e _ _ (h.2 i css[i] xs[i] (List.getElem?_eq_getElem b) (List.getElem?_eq_getElem a))
theorem qN {n:Nat}:∀ {css:List (List Value)},(∀c∈css,c.length=n)->css.flatten.length=css.length*n
 | [],_=>by simp
 | c::css,h=>by
  rw[List.flatten_cons,List.length_append,h c (by simp),qN (fun c a=>h c (by simp[a])),List.length_cons,Nat.add_mul];omega
theorem Each.one {α:Type} {p:List Value->α->Prop} {xs:List α} (h:Each p css xs) (g:∀c x,p c x->c.all (·.oneCell')=true):∀u∈css.flatten,u.oneCell'=true:=fun u b=>by
 obtain⟨c,e,b⟩:=List.mem_flatten.1 b;obtain⟨i,d,rfl⟩:=List.mem_iff_getElem.1 e;have a:i<xs.length:=by rw[<-h.1];exact d
 exact List.all_eq_true.1 (g _ _ (h.2 i css[i] xs[i] (List.getElem?_eq_getElem d) (List.getElem?_eq_getElem a))) u b
theorem Each.take {α:Type} {p:List Value->α->Prop} {xs:List α} (h:Each p css xs) (k:Nat):Each p (css.take k) (xs.take k):=by
 refine⟨by simp[h.1],fun i c x a b=>?_⟩;rw[List.getElem?_take]at a b;split at a
 .rename_i d;rw[if_pos d]at b;exact h.2 i c x a b
 .cases a
theorem Each.drop {α:Type} {p:List Value->α->Prop} {xs:List α} (h:Each p css xs) (k:Nat):Each p (css.drop k) (xs.drop k):=by
 refine⟨by simp[h.1],fun i c x a b=>?_⟩;rw[List.getElem?_drop]at a b;exact h.2 _ c x a b
theorem Each.append {α:Type} {p:List Value->α->Prop} {e:List (List Value)} {xs ys:List α} (h:Each p css xs) (k:Each p e ys):Each p (css++e) (xs++ys):=by
 refine⟨by simp[h.1,k.1],fun i c x b a=>?_⟩;rw[List.getElem?_append]at b a
 by_cases d:i<css.length
 .rw [if_pos d]at b;rw[if_pos (by rw[<-h.1];exact d)]at a;exact h.2 i c x b a
 .rw [if_neg d]at b;rw[if_neg (by rw[<-h.1];exact d)]at a;rw[<-h.1]at a;exact k.2 _ c x b a
theorem py {n:Nat}:∀ {css:List (List Value)} (k:Nat),(∀c∈css,c.length=n)->css.flatten.take (k*n)=(css.take k).flatten
 | css,0,_=>by simp
 | [],k+1,_=>by simp
 | c::css,k+1,h=>by
  have a:=h c (by simp);rw[List.flatten_cons,List.take_succ_cons,List.flatten_cons,List.take_append,<-py k (fun c a=>h c (by simp[a]))];rw[List.take_of_length_le (by rw[a,Nat.add_mul];omega),a,show(k+1)*n - n=k*n by rw[Nat.add_mul];omega]
theorem pw {n:Nat}:∀ {css:List (List Value)} (k:Nat),(∀c∈css,c.length=n)->css.flatten.drop (k*n)=(css.drop k).flatten
 | css,0,_=>by simp
 | [],k+1,_=>by simp
 | c::css,k+1,h=>by
  have a:=h c (by simp);rw[List.flatten_cons,List.drop_succ_cons,List.drop_append,<-pw k (fun c a=>h c (by simp[a]))];rw[List.drop_of_length_le (by rw[a,Nat.add_mul];omega),a,show(k+1)*n - n=k*n by rw[Nat.add_mul];omega,List.nil_append]
section
variable {ops:Array Oper} {rest:List Oper} {o:Oper} {a:Act} {Q:Exit->Act->World->Prop} {w:World}
theorem zO (p:o.guard=none) (s x:Operand) (y:o.op=.call { callee:=.builtin .append,args:=#[s,x],argTypes:=#[80,80] })
  (base:Nat) (v:Value) (n:Nat) (xs:List Value) (z:a.eval s=v) (e:w.ownsRow base 164 4 v n xs)
  (g c:Nat) (b:List Value) (B:a.eval x=.slice (some ⟨g,0,none⟩) 1 c) (t:b.length=4) {fr:Nat×Nat} (r:w.heap[g]? = some (.cells b.toArray 164 fr)) (k:b.all (·.oneCell')=true)
  (C:n<=100000000) (d:base<=w.heap.size)
  (h:∀j i,i.ownsRow base 164 4 j (n+1) (xs++b)->w.grownBy i v.ownBlock->wpList Tryz.prog ops Q rest (a.put o.dst j) i):wpList Tryz.prog ops Q (o::rest) a w :=
 gL _ _ _ 4 56 Tryz.underlying80 qW rfl (by omega) p s x y base v n _ z e ⟨g,0,none⟩ 1 c _ B (by simpa using t) (by simpa using cU r) (fun u A=>List.all_eq_true.1 k u A) (by omega) (by omega) d
  (fun j i k q _=>h j i k q)
end
theorem gq (base:Nat) (v:Value) (n:Nat) (xs:List Value) (e:w.ownsRow base 164 4 v n xs) (x:Value) (m:Nat) (d:List Value) (X:Row w x m d) (I:d.length=m*4) (Q:∀u∈d,u.oneCell'=true) (Y:n+m<=1000000000) (h:base<=w.heap.size) :
  ∃k r,(Builtin.append_ #[80,80] 80 #[v,x]).run Tryz.prog w=.ok k r/\r.ownsRow base 164 4 k (n+m) (xs++d)/\w.grownBy r v.ownBlock/\(k.ownBlock=v.ownBlock\/k.ownBlock=some w.heap.size):=by
 obtain⟨K,H,C,D,E⟩:=info_parts qW;obtain⟨a,p,rfl,Z,k2,k3,L⟩:=X
 cases a with
 | none =>
  have W:d=[]:=by
   cases d with
   | nil=>rfl
   | cons y l=>obtain⟨b,o,A,_⟩:=L (by simp);cases A
  subst W;have V:m=0:=by simp at I;omega
  subst V;obtain⟨F,M,t,rfl,B⟩:∃F M t,v=.slice F n t/\n<=t/\M=n:=by
   rcases e.2 with⟨rfl,O⟩ | ⟨g,c,N,rfl,_,_,z,_⟩
   .exact ⟨none,n,0,by rw[O],by omega,rfl⟩
   .exact ⟨_,n,c,rfl,z,rfl⟩
  refine⟨_,w,run_append_nothing w _ _ _ _ K Tryz.underlying80 H F n t B.1 _ (Src.ofNil w Tryz.underlying80 p),by simpa using e,⟨rfl,rfl,rfl,Nat.le_refl _,fun _ _ _=>rfl⟩,.inl rfl⟩
 | some G =>
  have i:∀j u,d[j]? = some u->w.cell? (G.add j)=some u:=fun j u J=>by
   obtain⟨b,o,A,z⟩:=L (by rintro rfl;simp at J);cases A;have q:(⟨b,o,none⟩:Addr).add j=⟨b,o+j,none⟩:=by unfold Addr.add;split <;> simp_all
   rw[q];exact z j u J
  obtain⟨k,r,R,S,T,_,U⟩:=run_append_own_at (P:=Tryz.prog) w base 80 80 164 K _ 4 56 Tryz.underlying80 H C D E rfl (by omega) v n xs e G m p d I i Q (by unfold maxLen;omega) (by omega) h;exact⟨k,r,R,S,T,U⟩
theorem ib {R:Nat->Prop} (p:B8) (U:bI R w v l) (hl:l.length<=10000000) :
  Calls Tryz.prog 194 #[v,S8 p] w fun e V=>(∃L,e=.returned L/\OwnRows w.heap.size R V L (ch l p))/\Ext w V:=by
 obtain⟨a,Y,rfl,h1,h2,h3,Q⟩:=cg U;have W:Hid _:=Q;have au:=tl p;clear Q U;go_enter Tryz.func194,Tryz.ntmps194;go_wp2;go_loopw [5,6] (fun K i wr=>∃(k n:Nat) (g:List (List Value)),k<=l.length/\i=.int .i64 k/\(ch (l.take k) p).length=n/\n<=k/\wr.ownsRow w.heap.size 164 4 K n g.flatten/\Each (IsRowR R w) g (ch (l.take k) p)/\Ext w wr) (fun _ i _=>l.length - (intOf i).toNat)
 case atStart=>exact⟨0,0,[],Nat.zero_le _,rfl,rfl,Nat.le_refl _,World.ownsRow_nil _ _ _ _,Each.nil _,Ext.refl _⟩
 case round =>
  obtain⟨k,n,g,hk,rfl,B,aa,d,h,j⟩:=hrel;have E:Hid _:=B;have D:Hid _:=h;clear B h
  by_cases I:k<l.length
  .obtain ⟨⟨q,f⟩,t⟩:∃e,l[k]? = some e:=⟨_,List.getElem?_eq_getElem I⟩;obtain⟨b,o,s,c,rfl,J,S,M,N,O,P⟩:=W.out k q f t;replace M:=j.cell M;replace N:=j.cell N;replace O:=j.cell O;replace P:=j.cell P;have C:Hid _:=vE (p:=p) t;have X:Hid (IsRowR R w [S8 q,.int .i64 f.mode,.slice s f.data.length c,.int .i64 f.time] (q,f)):=⟨J,_,rfl,S⟩;have a0:=tl q;have ad:=j.size;clear S t;obtain⟨F,A⟩:∃F,(q==p)=F:=⟨_,rfl⟩
   cases F with
   | true =>
    have y:Hid (q=p):=by simpa [Hid]using A
    go_wp2;go_roundw
    case rel=>exact⟨k+1,n,g,by omega,by go_num,by rw[C.out,if_pos y.out];exact E.out,by omega,d,by rw[C.out,if_pos y.out];exact D.out,j⟩
    case measure=>simp[intOf];omega
   | false =>
    have y:Hid (q≠p):=by simpa [Hid]using A
    go_wp2_with (at_builtin;go_must (refine zO rfl _ _ rfl w.heap.size _ n _ rfl (d.alloc _) wr.heap.size 1 [S8 q,.int .i64 f.mode,.slice s f.data.length c,.int .i64 f.time] rfl rfl (ae _ _) (by simp[Value.oneCell']) (by omega) (by simp;omega) ?_;intro L w3 u G))
    go_roundw
    case rel =>
     refine⟨k+1,n+1,g++[[S8 q,.int .i64 f.mode,.slice s f.data.length c,.int .i64 f.time]],by omega,by go_num,by rw[C.out,if_neg y.out,List.length_append,E.out];rfl,by omega,?_,by rw[C.out,if_neg y.out];exact Each.snoc D.out X.out,aj (j.alloc _) (d.alloc _) G⟩;rw[List.flatten_append];simpa using u
    case measure=>simp[intOf];omega
  .have H:k=l.length:=by omega
   subst H;have r:OwnRows w.heap.size R wr u5 (ch l p):=by
    have B:=E.out;have T:=D.out;rw[List.take_length]at B T;exact⟨g,by rw[B];exact d,Each.imp T (fun c x Z=>IsRowR.BZ Z (KeepR.B2 (KeepB.BX j)))⟩
   have z:Hid _:=r;clear r d;go_wp2;go_ret;exact⟨⟨_,rfl,z.out⟩,j⟩
end
section
open Go Go.RowKit
structure WithJ (w0:World) (nA nC:Nat) (A rowc C:List Value) (z0 z4 z8 z9 z13:Option Value) (w:World):Prop where
 ext:Ext w0 w
 C9:z13≠none->z9≠none
 o9:z9≠none->z4≠none/\z8≠none
 f13:∀v,z13=some v->w.ownsRow w0.heap.size 164 4 v (nA+1+nC) (A++rowc++C)
 f9:z13=none->∀v,z9=some v->w.ownsRow w0.heap.size 164 4 v (nA+1) (A++rowc)
 f4:z9=none->∀v,z4=some v->w.ownsRow w0.heap.size 164 4 v nA A
 f8:z9=none->∀v,z8=some v->∃g,v=.slice (some ⟨g,0,none⟩) 1 1/\w.heap[g]? = some (.cells rowc.toArray 164 (0,0))
 f0:z4=none->∀v,z0=some v->∃g,v=.slice (some ⟨g,0,none⟩) 0 0/\w.heap[g]? = some (.cells #[] 164 (0,0))/\w0.heap.size<=g
section
variable {w0:World} {nA nC:Nat} {A rowc C:List Value} {z0 z4 z8 z9 z13:Option Value} {w w':World} {u:Value}
theorem WithJ.more (h:WithJ w0 nA nC A rowc C z0 z4 z8 z9 z13 w) (c:Ext w w'):WithJ w0 nA nC A rowc C z0 z4 z8 z9 z13 w' :=
 ⟨h.ext.trans c,h.C9,h.o9,fun v a=>am (h.f13 v a) c,fun b v a=>am (h.f9 b v a) c,fun b v a=>am (h.f4 b v a) c,
  fun b v a=>by obtain⟨g,d,e⟩:=h.f8 b v a;exact⟨g,d,c.row e⟩,fun b v a=>by obtain⟨g,d,e,i⟩:=h.f0 b v a;exact⟨g,d,c.row e,i⟩⟩
theorem WithJ.start (b:Ext w0 w):WithJ w0 nA nC A rowc C none none none none none w :=
 ⟨b,fun h=>absurd rfl h,fun h=>absurd rfl h,fun v a=>(by cases a),fun _ v a=>(by cases a),fun _ v a=>(by cases a),fun _ v a=>(by cases a),fun _ v a=>(by cases a)⟩
theorem WithJ.DB (h:WithJ w0 nA nC A rowc C z0 z4 z8 z9 z13 w):WithJ w0 nA nC A rowc C (some (.slice (some ⟨w.heap.size,0,none⟩) 0 0)) z4 z8 z9 z13 (w.alloc (.cells #[] 164)):=by
 have k:=h.more ((Ext.refl w).alloc (.cells #[] 164));exact⟨k.ext,k.C9,k.o9,k.f13,k.f9,k.f4,k.f8,fun _ v a=>by cases a;exact⟨_,rfl,ae _ _,h.ext.size⟩⟩
theorem WithJ.C7 (h:WithJ w0 nA nC A rowc C z0 z4 z8 z9 z13 w):WithJ w0 nA nC A rowc C z0 z4 (some (.slice (some ⟨w.heap.size,0,none⟩) 1 1)) z9 z13 (w.alloc (.cells rowc.toArray 164)):=by
 have k:=h.more ((Ext.refl w).alloc (.cells rowc.toArray 164));exact⟨k.ext,k.C9,fun a=>⟨(k.o9 a).1,by simp⟩,k.f13,k.f9,k.f4,fun _ v b=>by cases b;exact⟨_,rfl,ae _ _⟩,k.f0⟩
theorem WithJ.nine (h:WithJ w0 nA nC A rowc C z0 z4 z8 z9 z13 w) (a:z4=none):z9=none:=by
 cases b:z9 with
 | none=>rfl
 | some v=>exact absurd a (h.o9 (by rw[b];simp)).1
theorem WithJ.CK (h:WithJ w0 nA nC A rowc C z0 z4 z8 z9 z13 w) (a:z9=none):z13=none:=by
 cases b:z13 with
 | none=>rfl
 | some v=>exact absurd a (h.C9 (by rw[b];simp))
theorem WithJ.DD {t:Value} (h:WithJ w0 nA nC A rowc C z0 z4 z8 z9 z13 w) (n:z0=some t) (o:z4=none) (d:rowc≠[]) (x:Value) (E:Row w x nA A) (D:A.length=nA*4) (z:∀u∈A,u.oneCell'=true) (H:nA<=100000000) :
  ∃e w',(Builtin.append_ #[80,80] 80 #[t,x]).run Tryz.prog w=.ok e w'/\WithJ w0 nA nC A rowc C z0 (some e) z8 z9 z13 w':=by
 subst n;subst o;obtain⟨g,rfl,q,k⟩:=h.f0 rfl _ rfl;have B:=h.nine rfl;subst B;have i:=h.CK rfl;subst i;have a:w.ownsRow w0.heap.size 164 4 (.slice (some ⟨g,0,none⟩) 0 0) 0 []:=⟨rfl,.inr ⟨g,0,#[],rfl,k,q,Nat.le_refl _,by unfold maxLen;omega,rfl,rfl⟩⟩;obtain⟨e,w',F,G,r,I⟩:=gq w0.heap.size _ 0 [] a x nA A E D z (by omega) h.ext.size;refine⟨e,w',F,⟨aj h.ext a r,fun c=>absurd rfl c,fun c=>absurd rfl c,fun v b=>(by cases b),fun _ v b=>(by cases b),fun _ v b=>?_,fun _ v b=>?_,fun c=>(by cases c)⟩⟩
 .cases b;simpa using G
 .obtain ⟨p,y,j⟩:=h.f8 rfl v b;have l:=cD j q (by simp[d]);exact⟨p,y,(r.block p (Array.getElem?_eq_some_iff.1 j).1 (by simpa [Value.ownBlock]using l)).trans j⟩
theorem WithJ.DF {k l:Value} (h:WithJ w0 nA nC A rowc C z0 z4 z8 z9 z13 w) (g:z4=some k) (i:z8=some l) (j:z9=none) (p:rowc.length=4) (n:∀u∈rowc,u.oneCell'=true) (y:nA<=100000000) :
  ∃c w',(Builtin.append_ #[80,80] 80 #[k,l]).run Tryz.prog w=.ok c w'/\WithJ w0 nA nC A rowc C z0 z4 z8 (some c) z13 w':=by
 subst g;subst i;subst j;have d:=h.CK rfl;subst d;have a:=h.f4 rfl _ rfl;obtain⟨x,rfl,o⟩:=h.f8 rfl _ rfl;obtain⟨c,w',q,r,t,z⟩:=gq w0.heap.size _ nA A a _ 1 rowc (Row.new o (by omega) _ rfl) (by rw[p]) n (by omega) h.ext.size;refine⟨c,w',q,⟨aj h.ext a t,fun b=>absurd rfl b,fun _=>⟨by simp,by simp⟩,fun v e=>(by cases e),fun _ v e=>?_,fun b=>(by cases b),fun b=>(by cases b),fun b=>(by cases b)⟩⟩
 cases e;exact r
theorem WithJ.Dp {i:Value} (h:WithJ w0 nA nC A rowc C z0 z4 z8 z9 z13 w) (g:z9=some i) (d:z13=none) (x:Value) (n:Row w x nC C) (k:C.length=nC*4) (j:∀u∈C,u.oneCell'=true) (r:nA+nC<=100000000) :
  ∃e w',(Builtin.append_ #[80,80] 80 #[i,x]).run Tryz.prog w=.ok e w'/\WithJ w0 nA nC A rowc C z0 z4 z8 z9 (some e) w':=by
 subst g;subst d;have a:=h.f9 rfl _ rfl;have c:=h.o9 (by simp);obtain⟨e,w',o,p,q,t⟩:=gq w0.heap.size _ (nA+1) (A++rowc) a x nC C n k j (by omega) h.ext.size;refine⟨e,w',o,⟨aj h.ext a q,fun _=>(by simp),fun _=>c,fun v l=>?_,fun b=>(by cases b),fun b=>(by cases b),fun b=>(by cases b),fun b=>absurd b c.1⟩⟩
 cases l;exact p
end
theorem kC:∀a b:B8,Op.bytesLess a b=ltB a b
 | [],[]=>by simp[Op.bytesLess,ltB]
 | _::_,[]=>by simp[Op.bytesLess,ltB]
 | [],_::_=>by simp[Op.bytesLess,ltB]
 | a::r,b::s=>by
  rw[Op.bytesLess,kC r s];unfold ltB;rw[Bool.eq_iff_iff];simp[List.cons_lt_cons_iff]
variable {w:World} {n k cap:Nat} {cs:List Value}
theorem Row.takeN {a:Option Addr} (m:Nat) (h:Row w (.slice a n cap) n cs) (y:k<=n) (z:cs.length=n*m):Row w (.slice a k cap) k (cs.take (k*m)):=by
 obtain⟨r,e,g,t,j,x,l⟩:=h;simp only[Value.slice.injEq,true_and]at g;obtain⟨rfl,rfl⟩:=g;refine⟨a,cap,rfl,by omega,j,by omega,fun d=>?_⟩;obtain⟨b,o,p,q⟩:=l (by rintro rfl;simp at d);refine⟨b,o,p,fun i u c=>q i u ?_⟩;rw[List.getElem?_take]at c;split at c
 .exact c
 .cases c
variable {b:Nat}
theorem Row.Dl (m:Nat) (h:Row w (.slice (some ⟨b,0,none⟩) n cap) n cs) (y:k<=n) (z:cs.length=n*m):Row w (.slice (some ⟨b,k*m,none⟩) (n - k) (cap - k)) (n - k) (cs.drop (k*m)):=by
 obtain⟨p,c,d,r,t,x,g⟩:=h;simp only[Value.slice.injEq,true_and]at d;obtain⟨rfl,rfl⟩:=d;refine⟨_,_,rfl,by omega,by omega,by omega,fun a=>⟨b,k*m,rfl,fun i u e=>?_⟩⟩;obtain⟨q,o,j,l⟩:=g (by rintro rfl;simp at a);cases j;rw[List.getElem?_drop]at e;have:=l _ u e
 rwa [Nat.zero_add]at this
theorem Row.CW (m:Nat) (h:Row w (.slice (some ⟨b,0,none⟩) n cap) n cs) (i:k<=n) (e:cs.length=n*m):Row w (.slice (if cap=k then some ⟨b,0,none⟩else some ⟨b,k*m,none⟩) (n - k) (cap - k)) (n - k) (cs.drop (k*m)):=by
 have g:=h.Dl m i e;split
 .rename_i r;obtain⟨j,c,d,l,o,p,q⟩:=h;simp only[Value.slice.injEq,true_and]at d;obtain⟨rfl,rfl⟩:=d;refine⟨_,_,rfl,by omega,by omega,by omega,fun a=>?_⟩;exfalso;apply a;rw[List.drop_eq_nil_iff,e];exact Nat.mul_le_mul_right _ (by omega)
 .exact g
variable {v:Value}
theorem cL {c:Prop} [Decidable c] {a:Operand->Value} {R:Value->World->Prop} {o:Oper} (s x:Operand) (t:TypeId) {xv v':Value} {w':World} (g:c) (b:o.op=.call { callee:=.builtin .append,args:=#[s,x],argTypes:=#[t,t] }) 
  (e:a s=v) (i:a x=xv) (d:(Builtin.append_ #[t,t] o.type #[v,xv]).run Tryz.prog w=.ok v' w') (h:R v' w') :
  if c then fB Tryz.prog R ((execOp a o).run Tryz.prog w)else R undef w:=by
 rw[if_pos g];unfold execOp;simp only[b,resolve,invoke,builtin,Sem.run_bind,Sem.run_pure,Result.andThen_ok,List.map_toArray,List.map_cons,List.map_nil,e,i,d];exact h
theorem rU {R:Nat->Prop} {l:ax} (p:B8) (f:Fi) (sv:Value) (hv:bI R w v l) (hl:l.length<=10000000) (hp:p.length<=10000000) (hd:IsData R w sv f.data) :
  Calls Tryz.prog 211 #[v,S8 p,.agg #[.int .i64 f.mode,sv,.int .i64 f.time]] w fun e P=>(∃V,e=.returned V/\OwnRows w.heap.size R P V (eA l p f))/\Ext w P:=by
 obtain⟨s1,s2,rfl,-⟩:=id hd.bytes;have HV:Hid _:=hv;have HD:Hid _:=hd;have b4:=tl p;have bS:=dL l p;obtain⟨wa,T⟩:∃wa,wa=w.alloc (.cells #[.int .i64 f.mode,.slice s1 f.data.length s2,.int .i64 f.time] 114):=⟨_,rfl⟩;have bk:Ext w wa:=by rw[T];exact(Ext.refl _).alloc _
 have a':wa.heap[w.heap.size]? = some (.cells #[.int .i64 f.mode,.slice s1 f.data.length s2,.int .i64 f.time] 114 (0,0)):=by rw[T];exact ae w _
 have bx:Hid _:=T;have a5:Hid _:=bk;have bs:Hid _:=a';clear hv hd T bk a';go_enter Tryz.func211,Tryz.ntmps211;go_wp2_with fail;rw[show w.alloc (.cells #[.int .i64 f.mode,.slice s1 f.data.length s2,.int .i64 f.time] 114)=wa from bx.out.symm];go_at_call 194;refine(ib p (ReadL.B4 HV.out a5.out) hl).mono ?_;rintro e w2 ⟨⟨v2,rfl,b3⟩,ad⟩;obtain⟨d,h,y⟩:=b3;obtain⟨D,hD⟩:∃D,ch l p=D:=⟨_,rfl⟩;rw[hD]at h y bS;have F:bI R w2 v2 D:=⟨d,Row.BV h (by omega),Typed.BV h,y⟩;obtain⟨a2,c2,rfl,h1,h2,h3,h4⟩:=cg F;have H:(a2=none/\D.length=0/\c2=0)\/∃g,a2=some ⟨g,0,none⟩:=by
  rcases h.2 with⟨B,h0⟩ | ⟨g,cap,b6,B,_⟩
  .simp only[Value.slice.injEq]at B;exact .inl ⟨B.1,h0,B.2.2⟩
  .simp only[Value.slice.injEq]at B;exact .inr ⟨g,B.1⟩
 have b5:Hid _:=F;have a1:Hid _:=h;have W:Hid _:=y;have Q:Hid _:=hD;have H4:Hid _:=h4;have a9:=ad.row bs.out;have a4:Hid _:=Ext.trans a5.out ad;clear F h y hD h4 ad;go_wp2_with fail;go_loopw [7] (fun i wr=>∃k:Nat,k<=D.length/\i=.int .i64 k/\(∀j e,j<k->D[j]? = some e->ltB e.1 p=true)/\wr=w2) (fun i _=>D.length - (intOf i).toNat)
 case atStart=>exact⟨0,Nat.zero_le _,rfl,fun j e a=>absurd a (Nat.not_lt_zero _),rfl⟩
 case round =>
  obtain⟨k,A,rfl,bd,rfl⟩:=hrel;have Y:Hid _:=bd;clear bd
  by_cases b2:k<D.length
  case' pos =>
   obtain⟨⟨q,f'⟩,aa⟩:∃e,D[k]? = some e:=⟨_,List.getElem?_eq_getElem b2⟩;obtain⟨b,o,s,c,a8,b8,hd,c0,-,-,-⟩:=H4.out k q f' aa;have b9:=tl q;have au:Hid _:=aa;clear hd aa;obtain⟨bq,J⟩:∃bq,ltB q p=bq:=⟨_,rfl⟩;have b7:Op.bytesLess q p=bq:=(kC q p).trans J;cases bq
   case' true =>
    have bt:Hid _:=J;clear J;subst a8;go_wp2;go_roundw
    case rel =>
     refine⟨k+1,by omega,by go_num,fun j e a B=>?_,trivial⟩
     by_cases b0:j=k
     .subst b0;rw[au.out]at B;cases B;exact bt.out
     .exact Y.out j e (by omega) B
    case measure=>simp[intOf];omega
   case' false =>
    have I:Hid (∀e,D[k]? = some e->ltB e.1 p=false):=fun e B=>by rw[au.out]at B;cases B;exact J
    clear J;subst a8;go_wp2_with fail
  case' neg =>
   have I:Hid (∀e,D[k]? = some e->ltB e.1 p=false):=fun e B=>by have:=(List.getElem?_eq_some_iff.1 B).1;omega
   go_wp2_with fail
  all_goals
   have a0:Hid _:=Y.out;clear H4 Y b4;have ba:d.flatten.length=D.length*4:=a1.out.1;have M:∀u∈d.flatten,u.oneCell'=true:=Each.one W.out (fun c x hx=>hx.length.2);have G:Hid _:=Row.BV a1.out (by omega);have hA:(d.flatten.take (k*4)).length=k*4:=by rw[List.length_take];omega
   have hC:(d.flatten.drop (k*4)).length=(D.length - k)*4:=by rw[List.length_drop];omega
   have a6:∀u∈d.flatten.take (k*4),u.oneCell'=true:=fun u hu=>M u (List.mem_of_mem_take hu)
   have a7:∀u∈d.flatten.drop (k*4),u.oneCell'=true:=fun u hu=>M u (List.mem_of_mem_drop hu)
   have HA:Hid _:=hA;have HC:Hid _:=hC;have bo:Hid _:=a6;have bv:Hid _:=a7;have X:Hid _:=ba;have a3:Hid _:=H;have br:Hid _:=a9;clear ba M hA hC a6 a7 H a9;apply aI 14 (fun z P=>WithJ wr k (D.length - k) (d.flatten.take (k*4)) [S8 p,.int .i64 f.mode,.slice s1 f.data.length s2,.int .i64 f.time] (d.flatten.drop (k*4)) (z 0) (z 4) (z 8) (z 9) (z 13) P) [true,false,false,false,true,false,false,false,true,true,false,false,false,true] [undef,_,_,undef,undef,_,_,_,undef,undef,_,_,undef,undef] [none,none,none,some (fun u=>Row wr u k (d.flatten.take (k*4))),none,none,none,none,none,none,none,none,some (fun u=>Row wr u (D.length - k) (d.flatten.drop (k*4))),none] [[],[],[],[1,2],[0,3],[],[],[5,6],[7],[4,8],[],[],[10,11],[9,12]] (by kernel_rfl) (by kernel_rfl) rfl
   .exact WithJ.start ⟨rfl,rfl,rfl,Nat.le_refl _,fun _ _=>rfl⟩
   .simp (maxSteps:=1000000)only[de,cN,bR,cG,cS,List.getD_cons_zero,List.getD_cons_succ,Bool.false_eq_true,if_false,if_true,and_true,true_and,forall_const,Nat.zero_add,Nat.reduceAdd,List.take_succ_cons,List.take_zero,ab,Act.put,List.setIfInBounds_toArray,List.set_cons_zero,List.set_cons_succ];and_intros
    .intro r z O a hz R t;go_simp;exact t _ _ a.DB
    iterate 2 · intro r z O a;intros;rename_i t;go_simp;exact t _ _ a rfl
    .intro r z O a A R t;obtain⟨C,E⟩:=A;have b1:k<=c2:=by omega
     rcases a3.out with⟨S,h0,h8⟩ | ⟨g9,S⟩
     .first | (exact absurd S (by simp)) | (cases S;subst h8;have L:k=0:=(by omega);subst L;go_simp;exact t _ _ a (Row.takeN 4 G.out (by omega) X.out))
     ·(cases S;go_simp;exact t _ _ a (Row.takeN 4 G.out (by omega) X.out))
    .intro r z O a hz A R t;obtain⟨C,E⟩:=A;obtain⟨V,P,hr,K⟩:=a.DD C hz (by simp) (r 3) (E.ext a.ext) HA.out bo.out (by omega);apply cL (.tmp 26) (.tmp 29) 80 (v:=r 0) (xv:=r 3) (v':=V) (w':=P)
     iterate 4
      .rfl
     .exact hr
     .exact t _ _ K
    .intro r z O a;intros;rename_i t;go_simp;exact t _ _ a rfl
    .intro r z O a R t;obtain⟨f0,f1,f2⟩:=bL (a.ext.row br.out);go_simp;exact t _ _ a rfl
    .intro r z O a;intros;rename_i t;go_simp;exact t _ _ a rfl
    .intro r z O a hz A R t;go_simp;exact t _ _ a.C7
    .intro r z O a hz A R t;obtain⟨C,E⟩:=A;obtain⟨V,P,hr,K⟩:=a.DF C E hz rfl (by simp[Value.oneCell']) (by omega);apply cL (.tmp 30) (.tmp 34) 80 (v:=r 4) (xv:=r 8) (v':=V) (w':=P)
     iterate 4
      .rfl
     .exact hr
     .exact t _ _ K
    iterate 2 · intro r z O a;intros;rename_i t;go_simp;exact t _ _ a rfl
    .intro r z O a A R t;obtain⟨C,E⟩:=A;have b1:k<=c2:=by omega
     rcases a3.out with⟨S,h0,h8⟩ | ⟨g9,S⟩
     .first | (exact absurd S (by simp)) | (cases S;subst h8;have L:k=0:=(by omega);subst L;go_simp;exact t _ _ a (by have:=G.out;rw[h0]at this;simp only[h0,Nat.sub_zero,Nat.zero_mul,List.drop_zero];exact this))
     ·(cases S;go_simp;exact t _ _ a (Row.CW 4 G.out (by omega) X.out))
    .intro r z O a hz A R t;obtain⟨C,E⟩:=A;obtain⟨V,P,hr,K⟩:=a.Dp C hz (r 12) (E.ext a.ext) HC.out bv.out (by omega);apply cL (.tmp 35) (.tmp 38) 80 (v:=r 9) (xv:=r 12) (v':=V) (w':=P)
     iterate 4
      .rfl
     .exact hr
     .exact t _ _ K
   intro r w3 Z A;simp only[di,List.getD_cons_zero,List.getD_cons_succ,Bool.false_eq_true,if_false,if_true]at Z;simp only[bV,Nat.zero_add,Nat.reduceAdd,and_true]at A;have q3:=A.2.2.1;have b':=A.2.2.2.2.2.2.2.2;simp(maxSteps:=1000000)only[List.drop_succ_cons,List.drop_zero,Nat.zero_add,Nat.reduceAdd,List.take_succ_cons,List.take_zero,ab,Act.put,List.setIfInBounds_toArray,List.set_cons_zero,List.set_cons_succ,A];clear A;generalize r 0=x0 at *;generalize r 3=x3 at *;generalize r 4=x4 at *;generalize r 8=x8 at *;generalize r 9=x9 at *;generalize r 12=ca at *;generalize r 13=cb at *;go_wp2;go_ret;have N:=Z.f13 _ rfl;have bh:=Z.ext;have h4:=Each.len W.out (fun c x hx=>hx.length.1);rw[py k h4,pw k h4]at N;have U:eA l p f=D.take k++(p,f)::D.drop k:=by
    have e:=Az (l:=l) (p:=p) (f:=f) (k:=k) (by rw[Q.out];omega) (by rw[Q.out];exact a0.out) (by rw[Q.out];exact I.out);rw[Q.out]at e;exact e
   have bl:Ext w w3:=Ext.trans a4.out bh;have bb:(D.take k++(p,f)::D.drop k).length=k+1+(D.length - k):=by simp;omega
   refine⟨⟨_,rfl,d.take k++[[S8 p,.int .i64 f.mode,.slice s1 f.data.length s2,.int .i64 f.time]]++d.drop k,?_,?_⟩,bl⟩
   .rw [U,bb,List.flatten_append,List.flatten_append];have:=jj N (Below.size a4.out);simpa using this
   .rw [U,show D.take k++(p,f)::D.drop k=D.take k++[(p,f)]++D.drop k by simp];have k2:Each (IsRowR R w3) d D:=Each.imp W.out (fun c x hc=>IsRowR.BZ hc (KeepR.B2 (KeepB.BX bh)));refine((Each.take k2 k).append (Each.snoc (Each.nil _) (c:=_) (x:=(p,f)) ⟨hp,_,rfl,IsData.ext HD.out bl⟩)).append (Each.drop k2 k)
end
end Go.Proofs.YtfabjgfmiaammaaGreatDoor
