/- Contracts of the program's functions and plain laws behind the card. Conditions: as each theorem states. -/
import Derived.Test.YtgfegpnmlkdjfaaGreatDoorZaa
import Derived.Deep.QuietTactic
import Derived.Lib.QuietBelow
import Derived.Test.YtgfegpnmlkdjfaaGreatDoorZac
import Derived.Test.YtgfegpnmlkdjfaaGreatDoorZab
import Derived.Deep.Upon
import Derived.Test.YtgfegpnmlkdjfaaGreatDoorZaf
import Derived.Lib.EndianBits
import Derived.Deep.DeepCutAuto
set_option linter.unusedVariables false
set_option linter.unusedSimpArgs false
set_option linter.unusedSectionVars false
set_option maxRecDepth 100000
set_option maxHeartbeats 64000000
namespace Go.Proofs.YtgfegpnmlkdjfaaGreatDoor
section
open Go Go.RowKit Go.Sort
structure QW (p:Prop):Prop where
 out:p
section
variable {P:Program} {ops:Array Oper} {C:World->Prop}
variable {a:Act}
theorem dz {Q:Act->Prop} (h:Q a):QW (wpQuiet P ops C Q [] a):=⟨wpQuiet_nil h⟩
theorem db {Q:Act->Prop} {o:Oper} {rest:List Oper}
  (h:∀K:Act->Prop,(∀a,QW (wpQuiet P ops C Q rest a)->K a)->if Region.wanted o (yielded ops a.tmps)then o.quiet P a C K else K (a.put o.dst undef)):QW (wpQuiet P ops C Q (o::rest) a) :=
 ⟨wpQuiet_step fun K b=>h K (fun a c=>b a c.out)⟩
theorem cr {id:Nat} {Q:Exit->Act->World->Prop} {w:World} {l:List Oper} (e:P.follows .mixedOrders=true) (d:Region.lexB .any l.toArray=true)
  (h:QW (wpQuiet P l.toArray (fun b=>∃p:Regrown,b=grow (redrawn w p.d) p.os) (fun c=>∀b,(∃p:Regrown,b=grow (redrawn w p.d) p.os)->Q .normal c b) l a)):(Code.region id l.toArray true).wp P Q a w :=
 wp_region_quiet_below e d h.out
end
theorem Ext.drawn (w:World) (n:Nat):Ext w (w.drewN n):=⟨rfl,rfl,rfl,Nat.le_refl _,fun _ _=>rfl⟩
theorem Ext.G4 (w:World) (d:Nat) (os:Array Obj):Ext w (grow (redrawn w d) os):=below_regrown w d os
end
section
open Go Go.RowKit
variable {w:World}
theorem js (T e:TypeId) (z:Value) (k bytes:Nat) (M:Tryz.prog.underlying T=some (.slice e)) (t:(Tryz.prog.info? e).map (fun i=>(i.zero,i.size,i.bytes))=some (some z,k,bytes)) (Q:z.cells.size=k) (L:0<k)
 (p:Nat) (v:Value) (n:Nat) (xs:List Value) (q:w.ownsRow p e k v n xs) (x:Value) (m:Nat) (d:List Value) (hx:Row w x m d) (V:d.length=m*k) (h1:∀u∈d,u.oneCell'=true) (hb:(n+m)*bytes<=140737488355328) (ab:n+m<=1000000000) (r:p<=w.heap.size) :
  ∃B F,(Builtin.append_ #[T,T] T #[v,x]).run Tryz.prog w=.ok B F/\F.ownsRow p e k B (n+m) (xs++d)/\w.grownBy F v.ownBlock/\(B.ownBlock=v.ownBlock\/B.ownBlock=some w.heap.size):=by
 obtain⟨X,U,N,E,O⟩:=info_parts t;obtain⟨a,C,rfl,k1,k2,k3,Y⟩:=hx
 cases a with
 | none =>
  have hn:d=[]:=by
   cases d with
   | nil=>rfl
   | cons y l=>obtain⟨b,o,J,_⟩:=Y (by simp);cases J
  subst hn;have hm:m=0:=by
   have H:m*k=0:=by simpa using V.symm
   rcases Nat.mul_eq_zero.1 H with h | h
   .exact h
   .omega
  subst hm;obtain⟨R,Z,G,rfl,K⟩:∃R Z G,v=.slice R n G/\n<=G/\Z=n:=by
   rcases q.2 with⟨rfl,H⟩ | ⟨g,c,aa,rfl,_,_,I,_⟩
   .exact ⟨none,n,0,by rw[H],by omega,rfl⟩
   .exact ⟨_,n,c,rfl,I,rfl⟩
  refine⟨_,w,run_append_nothing w _ _ _ _ X M U R n G K.1 _ (by rw[E];exact Src.ofNil w M C),by simpa using q,⟨rfl,rfl,rfl,Nat.le_refl _,fun _ _ _=>rfl⟩,.inl rfl⟩
 | some S =>
  have A:∀j u,d[j]? = some u->w.cell? (S.add j)=some u:=fun j u W=>by
   obtain⟨b,o,J,I⟩:=Y (by rintro rfl;simp at W);cases J;have D:(⟨b,o,none⟩:Addr).add j=⟨b,o+j,none⟩:=by unfold Addr.add;split <;> simp_all
   rw[D];exact I j u W
  obtain⟨B,F,h2,h3,h4,_,h5⟩:=run_append_own_at (P:=Tryz.prog) w p T T e X _ k bytes M U N E O Q L v n xs q S m C d V A h1 (by unfold maxLen;omega) hb r;exact⟨B,F,h2,h3,h4,h5⟩
section
variable {ops:Array Oper} {rest:List Oper} {o:Oper} {a:Act} {Q:Exit->Act->World->Prop} {w:World}
theorem gV (T e:TypeId) (z:Value) (b bytes:Nat) (M:Tryz.prog.underlying T=some (.slice e)) (j:(Tryz.prog.info? e).map (fun i=>(i.zero,i.size,i.bytes))=some (some z,b,bytes)) (B:z.cells.size=b) (y:0<b)
  (t:o.guard=none) (s x:Operand) (I:o.op=.call { callee:=.builtin .append,args:=#[s,x],argTypes:=#[T,T] }) (A:o.type=T)
  (d:Nat) (v:Value) (n:Nat) (xs:List Value) (L:a.eval s=v) (k:w.ownsRow d e b v n xs)
  (xv:Value) (m:Nat) (c:List Value) (N:a.eval x=xv) (l:Row w xv m c) (H:c.length=m*b) (C:∀u∈c,u.oneCell'=true) (G:(n+m)*bytes<=140737488355328) (r:n+m<=1000000000) (g:d<=w.heap.size)
  (h:∀q p,p.ownsRow d e b q (n+m) (xs++c)->w.grownBy p v.ownBlock->wpList Tryz.prog ops Q rest (a.put o.dst q) p):wpList Tryz.prog ops Q (o::rest) a w:=by
 refine wpList_plain t fun K F=>?_
 obtain⟨q,p,J,D,E,O⟩:=js T e z b bytes M j B y d v n xs k xv m c l H C G r g;unfold Oper.wp execOp;simp only[I,A,resolve,invoke,builtin,Sem.run_bind,Sem.run_pure,Result.andThen_ok,List.map_toArray,List.map_cons,List.map_nil,L,N,J];exact F _ _ (h q p D E)
end
variable {a:Option Addr} {cap:Nat} {l:B8}
theorem IsBytes.tail (k:Nat) (h:IsBytes w (.slice a l.length cap) l) (C:k<=l.length) (E:TypB w (.slice a l.length cap)) :
  ∀c,(a=none->c=none)->(cap≠k->∀b o,a=some ⟨b,o,none⟩->c=some ⟨b,o+k,none⟩)->IsBytes w (.slice c (l.length - k) (cap - k)) (l.drop k):=by
 obtain⟨y,j,p,z,A,B,r⟩:=h;simp only[Value.slice.injEq,true_and]at p;obtain⟨rfl,rfl⟩:=p;intro c D x;have d:(l.drop k).length=l.length - k:=List.length_drop;unfold IsBytes;rw[d];refine⟨c,cap - k,rfl,by omega,by omega,by omega,fun e=>?_⟩;have g:k<l.length:=by
  rcases Nat.lt_or_ge k l.length with h | h
  .exact h
  .rw [List.drop_eq_nil_of_le h]at e;simp at e
 obtain⟨b,o,rfl,t⟩:=r (by intro n;rw[List.map_eq_nil_iff]at n;subst n;simp at g);refine⟨b,o+k,x (by omega) b o rfl,fun i u q=>?_⟩;rw[List.getElem?_map,List.getElem?_drop]at q;have:=t (k+i) u (by rw[List.getElem?_map];exact q)
 rwa [<-Nat.add_assoc]at this
def tailV (a:Option Addr) (n c k:Nat):Value:=.slice (if c=k then a else Option.map (fun x=>{ block:=x.block,off:=x.off+k }) a) (n - k) (c - k)
theorem IsBytes.tailV (k:Nat) (h:IsBytes w (.slice a l.length cap) l) (j:k<=l.length) (e:TypB w (.slice a l.length cap)) :
  IsBytes w (tailV a l.length cap k) (l.drop k)/\TypB w (Go.Proofs.YtgfegpnmlkdjfaaGreatDoor.tailV a l.length cap k):=by
 constructor
 .refine h.tail k j e _ (fun n=>by subst n;simp) (fun d b o i=>by subst i;simp[d])
 .intro p r q c;unfold Go.Proofs.YtgfegpnmlkdjfaaGreatDoor.tailV at c;simp only[Value.slice.injEq]at c;obtain⟨c,-,-⟩:=c;split at c
  .subst c;exact e _ _ _ rfl
  .cases a with
   | none=>cases c
   | some g=>simp only[Option.map_some,Option.some.injEq]at c;subst c;exact e g _ _ rfl
theorem IsBytes.head (k:Nat) (h:IsBytes w (.slice a l.length cap) l) (z:k<=l.length):IsBytes w (.slice a k cap) (l.take k):=by
 obtain⟨r,g,n,t,x,y,p⟩:=h;simp only[Value.slice.injEq,true_and]at n;obtain⟨rfl,rfl⟩:=n;have c:(l.take k).length=k:=by rw[List.length_take];omega
 unfold IsBytes;rw[c];refine⟨a,cap,rfl,by omega,by omega,by omega,fun e=>?_⟩;obtain⟨b,o,rfl,q⟩:=p (by intro j;rw[List.map_eq_nil_iff]at j;subst j;simp at e);refine⟨b,o,rfl,fun i u d=>q i u ?_⟩;rw[List.getElem?_map,List.getElem?_take]at d;split at d
 .rw [List.getElem?_map];exact d
 .cases d
end
section
open Go Go.RowKit
theorem zo:∀r:Fin 256,bits BinOp.or IntKind.u8 (r.val:Int) 128=(((UInt8.ofNat (r.val%128+128)).toNat:Nat):Int):=by decide +kernel
theorem EP (m:Nat):bits BinOp.or IntKind.u8 ((m:Int)%256) 128=(((UInt8.ofNat (m%128+128)).toNat:Nat):Int):=by
 have h:=zo ⟨m%256,by omega⟩;rw[show(((⟨m%256,by omega⟩:Fin 256).val:Nat):Int)=(m:Int)%256 by simp]at h;rw[h];show(((UInt8.ofNat (m%256%128+128)).toNat:Nat):Int)=_;rw[show m%256%128=m%128 by omega]
theorem FB {m:Nat} (h:m<=127):(m:Int)=(((UInt8.ofNat m).toNat:Nat):Int):=by
 rw[UInt8.toNat_ofNat'];omega
theorem ut (n:Nat) (w:World) (A:n<=cF) :
  Calls Tryz.prog 167 #[.int .i64 n] w fun e y=>(∃v,e=.returned v/\y.ownsRow w.heap.size 5 1 v (bf n).length ((bf n).map fun x=>.int .u8 x.toNat))/\Ext w y:=by
 unfold cF at A;go_enter Tryz.func167,Tryz.ntmps167;go_wp2;go_loopw [0,3] (fun u v wr=>∃(m:Nat) (l:B8),u=.int .i64 m/\m<=n/\Hid (bf n=l++bf m)/\Hid (wr.ownsRow w.heap.size 5 1 v l.length (l.map fun x=>.int .u8 x.toNat))/\Hid (Ext w wr)) (fun u _ _=>(intOf u).toNat)
 case atStart=>exact⟨n,[],rfl,Nat.le_refl _,rfl,World.ownsRow_nil _ _ _ _,Ext.refl _⟩
 case round =>
  obtain⟨m,l,rfl,D,i,h,j⟩:=hrel
  by_cases q:127<m
  .have r:=EP m;obtain⟨c,o⟩:∃c,UInt8.ofNat (m%128+128)=c:=⟨_,rfl⟩;rw[o]at r;have z:Hid _:=o;have d:l.length<=9:=by
    have k:=cM (n:=n) (by unfold cF;omega);rw[i.out,List.length_append]at k;omega
   clear o
   go_wp2_with (at_builtin;go_must (refine eT rfl _ _ rfl w.heap.size _ l.length _ rfl (az h.out ((Ext.refl _).alloc _)) wr.heap.size 1 1 [c] rfl rfl (ah _ _) (by omega) (by have:=j.out.size;simp;omega) ?_;intro B C a b))
   go_roundw
   case rel =>
    refine⟨m / 128,l++[c],?_,by omega,?_,?_,?_⟩
    .go_num
    .unfold Hid;rw[i.out,t5 q,z.out,List.append_assoc];rfl
    .unfold Hid;simpa using a
    .exact aA (j.out.alloc _) (az h.out ((Ext.refl _).alloc _)) b
   case measure=>simp[intOf];omega
  .have g:m<=127:=by omega
   have p:(wr.alloc (.cells #[.int .u8 m] 5)).heap[wr.heap.size]? = some (.cells (List.map (fun x:UInt8=>Value.int .u8 x.toNat) [UInt8.ofNat m]).toArray 5 (0,0)):=by
    rw[ah,List.map_cons,List.map_nil,<-FB g]
   have d:l.length<=9:=by
    have k:=cM (n:=n) (by unfold cF;omega);rw[i.out,List.length_append]at k;omega
   go_wp2_with (at_builtin;go_must (refine eT rfl _ _ rfl w.heap.size _ l.length _ rfl (az h.out ((Ext.refl _).alloc _)) wr.heap.size 1 1 [UInt8.ofNat m] rfl rfl p (by omega) (by have:=j.out.size;simp;omega) ?_;intro B C a b))
   go_ret;have t:bf n=l++[UInt8.ofNat m]:=by rw[i.out,pE g]
   rw[t];exact⟨⟨_,rfl,by simpa using a⟩,aA (j.out.alloc _) (az h.out ((Ext.refl _).alloc _)) b⟩
theorem BH (n:Int) (w:World) :
  Calls Tryz.prog 150 #[.int .i64 n] w fun e g=>(∃v,e=.returned (.tuple #[v,.int .i64 (putW n).2])/\g.ownsRow w.heap.size 5 1 v (putW n).1.length ((putW n).1.map fun x=>.int .u8 x.toNat))/\Ext w g:=by
 obtain⟨r,a⟩:∃r,putW n=r:=⟨_,rfl⟩;rw[a]
 by_cases j:n<0
 .have b:r=([],1):=by rw[<-a];unfold putW;rw[if_pos (.inl j)]
  subst b;clear a;go_enter Tryz.func150,Tryz.ntmps150;go_wp2;go_ret2;exact⟨⟨_,rfl,World.ownsRow_nil _ _ _ _⟩,Ext.refl _⟩
 .by_cases l:(72057594037927936:Int)<n
  .have b:r=([],1):=by rw[<-a];unfold putW;rw[if_pos (.inr l)]
   subst b;clear a;go_enter Tryz.func150,Tryz.ntmps150;go_wp2;go_ret2;exact⟨⟨_,rfl,World.ownsRow_nil _ _ _ _⟩,Ext.refl _⟩
  .obtain ⟨k,rfl⟩:∃k:Nat,n=k:=⟨n.toNat,by omega⟩;have b:r=(bf k,0):=by rw[<-a];unfold putW;rw[if_neg (by unfold cF;omega)];rfl
   subst b;clear a;go_enter Tryz.func150,Tryz.ntmps150;go_wp2_with fail;go_at_call 167;refine(ut k w (by unfold cF;omega)).mono ?_;rintro e o ⟨⟨v,rfl,c⟩,d⟩;have h:Hid _:=c;have i:Hid (Ext w o):=d;clear c d;go_wp2;go_ret2;exact⟨⟨_,rfl,h.out⟩,i.out⟩
end
section
open Go Go.RowKit
theorem Cq (a b:Value) (c g:B8) (w:World) (U:IsBytes w a c) (V:IsBytes w b g) :
  Calls Tryz.prog 179 #[a,b] w fun e w'=>e=.returned (.bool (c==g))/\Ext w w':=by
 obtain⟨a1,c1,rfl,l1,l2,l3,A⟩:=U.get;obtain⟨a2,c2,rfl,k1,k2,k3,B⟩:=V.get;have Y:Hid _:=A;have Z:Hid _:=B;clear U V A B
 by_cases l:c.length=g.length
 .have D:((c.length:Int)==(g.length:Int))=true:=by rw[beq_iff_eq];omega
  have P:Hid _:=l;rw[<-l]at k1 k2;have HB:Hid (∀k,k<c.length->∃b o,a2=some ⟨b,o,none⟩/\(∀i,i<c.length->w.cell? ⟨b,o+i,none⟩=some (.int .u8 (g.getD i 0).toNat))):=by
   unfold Hid;rw[l];exact Z.out
  obtain⟨O,E⟩:∃O,g.length=O:=⟨_,rfl⟩;have j:O=c.length:=by omega
  rw[E,j];clear E D l j;go_enter Tryz.func179,Tryz.ntmps179;go_wp2;go_loopw [13] (fun i wr=>∃k:Nat,k<=c.length/\i=.int .i64 k/\c.take k=g.take k/\Ext w wr) (fun i _=>c.length - (intOf i).toNat)
  case atStart=>exact⟨0,Nat.zero_le _,rfl,by simp,Ext.refl _⟩
  case round =>
   obtain⟨k,K,rfl,G,L⟩:=hrel;have S:Hid _:=G;clear G
   by_cases d:k<c.length
   .obtain ⟨b1,o1,rfl,x⟩:=Y.out k d;obtain⟨b2,o2,rfl,y⟩:=HB.out k d;have W:=L.cell (x k d);have X:=L.cell (y k d);obtain⟨p,M⟩:∃p,c.getD k 0=p:=⟨_,rfl⟩;obtain⟨q,n⟩:∃q,g.getD k 0=q:=⟨_,rfl⟩;rw[M]at W;rw[n]at X;have Q:Hid (c[k]? = some p):=by
     unfold Hid;rw[List.getElem?_eq_getElem d,<-M];simp[d]
    have h:k<g.length:=by rw[<-P.out];exact d
    have R:Hid (g[k]? = some q):=by
     unfold Hid;rw[List.getElem?_eq_getElem h,<-n];simp[h]
    obtain⟨I,u⟩:∃I,((p.toNat:Int) != (q.toNat:Int)) = !I:=⟨(p.toNat:Int)==(q.toNat:Int),rfl⟩;have r:Hid _:=u;clear x y M n h;go_wp2_with fail;apply ak 9 [_,_,_,_,_,_,_,_,.bool (!I)] [none,none,none,none,none,none,none,none,none] [[],[],[0,1],[2],[],[],[4,5],[6],[3,7]] (by kernel_rfl) (by kernel_rfl) (by simp[aq])
    .trivial
    .simp (maxSteps:=1000000)only[List.take_succ_cons,List.take_zero,ay,aB,af,Act.put,List.setIfInBounds_toArray,List.set_cons_zero,List.set_cons_succ,aE,aH,aq,List.getD_cons_zero,List.getD_cons_succ,and_true,true_and,forall_const];and_intros
     iterate 9 · intro xs wq n;intros;rename_i hR;have f1:=n.cell W;have f2:=n.cell X;go_simp;exact hR _ _ (Ext.refl _) rfl
    intro xs w2 N K;simp only[aG,Nat.zero_add,Nat.reduceAdd,and_true]at K;simp(maxSteps:=1000000)only[List.take_succ_cons,List.take_zero,List.drop_succ_cons,List.drop_zero,af,Act.put,List.setIfInBounds_toArray,List.set_cons_zero,List.set_cons_succ,Nat.zero_add,Nat.reduceAdd,K];clear K;have H:=L.trans N;clear u
    cases I with
    | false =>
     have F:p≠q:=fun e=>by have J:=r.out;rw[e]at J;simp at J
     have t:Hid ((c==g)=false):=by
      unfold Hid;rw[beq_eq_false_iff_ne];intro e;have T:=Q.out;rw[e,R.out]at T;exact F (Option.some.inj T).symm
     clear F;go_wp2;go_ret;exact⟨aM t.out.symm,H⟩
    | true =>
     have z:p=q:=by
      have J:=r.out;simp at J;exact UInt8.toNat_inj.1 (by omega)
     have HE:Hid _:=z;clear z;go_wp2;go_roundw
     case rel=>exact⟨k+1,by omega,by go_num,by rw[List.take_add_one,List.take_add_one,Q.out,R.out,HE.out,S.out],H⟩
     case measure=>simp[intOf];omega
   .have C:c.length<=k:=by omega
    have t:Hid ((c==g)=true):=by
     have:=S.out;rw[List.take_of_length_le C,List.take_of_length_le (by rw[<-P.out];exact C)]at this;unfold Hid;simpa using this
    go_wp2;go_ret;exact⟨aM t.out.symm,L⟩
 .have D:((c.length:Int)==(g.length:Int))=false:=by rw[beq_eq_false_iff_ne];omega
  have t:Hid ((c==g)=false):=by
   unfold Hid;rw[beq_eq_false_iff_ne];intro e;exact l (by rw[e])
  clear l;go_enter Tryz.func179,Tryz.ntmps179;go_wp2;go_ret;exact⟨aM t.out.symm,Ext.refl _⟩
theorem xy (c:UInt8) (l:B8):dO (c::l)=if 127<c.toNat then dO l+1 else 0:=by
 unfold dO;rw[List.takeWhile_cons]
 by_cases h:127<c.toNat
 .rw [decide_eq_true h,if_pos rfl,if_pos h,List.length_cons]
 .rw [decide_eq_false h,if_neg h];rfl
theorem wI:∀r:Fin 256,bits BinOp.and IntKind.u8 (r.val:Int) 128=if 127<r.val then 128 else 0:=by decide +kernel
theorem oP (x:UInt8):bits BinOp.and IntKind.u8 (x.toNat:Int) 128=if 127<x.toNat then 128 else 0:=wI ⟨x.toNat,x.toNat_lt⟩
variable {x:UInt8}
theorem DA (h:127<x.toNat):(bits BinOp.and IntKind.u8 (x.toNat:Int) 128 != 0)=true:=by rw[oP,if_pos h];rfl
theorem B1 (h:¬127<x.toNat):(bits BinOp.and IntKind.u8 (x.toNat:Int) 128 != 0)=false:=by rw[oP,if_neg h];rfl
theorem wH:∀r:Fin 256,bits BinOp.and IntKind.u8 (r.val:Int) 127=((r.val%128:Nat):Int):=by decide +kernel
theorem Dz (x:UInt8):bits BinOp.and IntKind.u8 (x.toNat:Int) 127=((x.toNat%128:Nat):Int):=wH ⟨x.toNat,x.toNat_lt⟩
theorem wk:∀l:B8,fD l<128 ^ l.length
 | []=>by simp[fD]
 | c::l=>by
  have h:=wk l;have a:=Nat.mod_lt c.toNat (show 128>0 by omega);rw[List.length_cons,Nat.pow_succ];show c.toNat%128+128*fD l<_;omega
theorem rU:∀(l:B8) (c:UInt8),fD (l++[c])=fD l+c.toNat%128*128 ^ l.length
 | [],c=>by simp[fD]
 | x::l,c=>by
  show x.toNat%128+128*fD (l++[c])=x.toNat%128+128*fD l+c.toNat%128*128 ^ (l.length+1);rw[rU l c,Nat.pow_succ,Nat.mul_add,Nat.mul_comm (128 ^ l.length) 128,<-Nat.mul_assoc (c.toNat%128),Nat.mul_comm (c.toNat%128) 128,Nat.mul_assoc 128];omega
theorem Bh (i:Nat):(2:Nat) ^ (7*i)=128 ^ i:=by rw[Nat.pow_mul]
theorem Ad (n:Int) (a:0<=n) (b:n<2 ^ 63):IntKind.i64.wrap n=n:=IntWalk.i64_in _ (by omega)
theorem or7 {a i:Nat} (c:UInt8) (g:a<128 ^ i) (n:i<=8):bits BinOp.or IntKind.i64 (a:Int) (wrap64 ((c.toNat:Int)%128*2 ^ (7*i)))=((a+c.toNat%128*128 ^ i:Nat):Int):=by
 have q:=Nat.mod_lt c.toNat (show 128>0 by omega);have l:128 ^ i<=72057594037927936:=Nat.le_trans (Nat.pow_le_pow_right (by omega) n) (Nat.le_of_eq (by decide +kernel:128 ^ 8=72057594037927936));have o:c.toNat%128*128 ^ i<=127*72057594037927936:=Nat.mul_le_mul (by omega) l;have j:((c.toNat:Int)%128*2 ^ (7*i))=((c.toNat%128*128 ^ i:Nat):Int):=by
  rw[<-Bh];push_cast;rfl
 have k:wrap64 ((c.toNat%128*128 ^ i:Nat):Int)=((c.toNat%128*128 ^ i:Nat):Int):=by
  exact IntWalk.wrap64_in _ (by omega)
 rw[j,k];obtain⟨t,h⟩:∃t,c.toNat%128*128 ^ i=t:=⟨_,rfl⟩;have d:(t:Int)%2 ^ (7*i)=0:=by rw[<-h,<-Bh];push_cast;exact Int.mul_emod_left _ _
 have e:(a:Int)<2 ^ (7*i):=by rw[<-Bh]at g;exact_mod_cast g
 rw[h]at o ⊢;have p:a<72057594037927936:=by omega
 have b:(2:Int) ^ 63=9223372036854775808:=by decide +kernel
 rw[bits_join_low .i64 63 (by decide) Ad (7*i) _ _ (by omega) e (by rw[b];omega) (by omega) d (by rw[b];omega)];omega
theorem IsBytes.take {w:World} {a:Option Addr} {c:Nat} {b:B8} (h:IsBytes w (.slice a b.length c) b) {j:Nat} (B:j<=b.length):IsBytes w (.slice a j c) (b.take j):=by
 obtain⟨x,y,t,z,p,A,q⟩:=h;cases t;have l:(b.take j).length=j:=by rw[List.length_take];omega
 unfold IsBytes;rw[l];refine⟨a,c,rfl,by omega,p,by omega,fun d=>?_⟩;obtain⟨n,o,rfl,r⟩:=q (by
  intro e;rw[List.map_eq_nil_iff]at e;subst e;simp at d)
 refine⟨n,o,rfl,fun i u g=>?_⟩;have k:=(List.getElem?_eq_some_iff.1 g).1;rw[List.length_map,l]at k;refine r i u ?_;rw[List.getElem?_map]at g ⊢
 rwa [List.getElem?_take_of_lt k]at g
theorem A2 (l:B8):dO l<=l.length:=(List.takeWhile_prefix _).length_le
theorem BG (v:Value) (b:B8) (w:World) (H:IsBytes w v b) :
  Calls Tryz.prog 173 #[v,.int .i64 0] w fun e w'=>e=.returned (.tuple #[.int .i64 (gg b).1,.int .i64 (gg b).2.1,.int .i64 (gg b).2.2])/\Ext w w':=by
 have HV:Hid _:=H;obtain⟨a,c,rfl,l1,l2,l3,hg⟩:=H.get;have HG:Hid _:=hg;have av:=A2 b;obtain⟨q,hq⟩:∃q,gg b=q:=⟨_,rfl⟩;rw[hq];have U:Hid _:=hq;clear H hg hq;go_enter Tryz.func173,Tryz.ntmps173;go_wp2_with fail;go_loopw [7] (fun i wr=>∃k:Nat,k<=dO b/\i=.int .i64 k/\Hid (dO b=k+dO (b.drop k))/\Hid (Ext w wr)) (fun i _=>b.length - (intOf i).toNat)
 case atStart=>exact⟨0,Nat.zero_le _,rfl,(by unfold Hid;simp),Ext.refl _⟩
 case round =>
  obtain⟨k,hk,rfl,HM,o⟩:=hrel
  by_cases p:k<b.length
  .obtain ⟨x,t⟩:∃x,b[k]? = some x:=⟨_,List.getElem?_eq_getElem p⟩;have A:b.drop k=x::b.drop (k+1):=by
    rw[List.drop_eq_getElem_cons p];rw[List.getElem?_eq_getElem p]at t;rw[Option.some.inj t]
   have d:=HM.out;rw[A,xy]at d;obtain⟨bb,oo,rfl,G⟩:=HG.out k p;have y1:=o.out.cell (G k p);rw[show b.getD k 0=x by rw[List.getD_eq_getElem?_getD,t];rfl]at y1;have M:(k:Int)<(b.length:Int):=by omega
   by_cases F:127<x.toNat
   .have ab:(bits BinOp.and IntKind.u8 (x.toNat:Int) 128 != 0)=true:=DA F;rw[if_pos F]at d;have n:Hid _:=d;clear d F A t G;go_wp2_with fail;go_roundw
    case rel=>exact⟨k+1,by have:=n.out;omega,by go_num,(by unfold Hid;have:=n.out;omega),o⟩
    case measure=>simp[intOf];omega
   .have ab:(bits BinOp.and IntKind.u8 (x.toNat:Int) 128 != 0)=false:=B1 F;rw[if_neg F]at d;have n:Hid _:=d;have am:((k:Int)==(b.length:Int))=false:=by rw[beq_eq_false_iff_ne];omega
    clear d F A t G
    by_cases V:9<k+1
    .have r:Hid (q=(0,0,4)):=by
      unfold Hid;rw[<-U.out];have d:=n.out;unfold gg;rw[if_neg (by omega),if_pos (by omega)]
     go_wp2;go_ret3;exact⟨by rw[r.out];rfl,o.out⟩
    go_wp2_with fail;go_loopw [9,50] (fun g iv wr=>∃i:Nat,i<=k+1/\iv=.int .i64 i/\g=.int .i64 ((fD (b.take i):Nat):Int)/\Hid (Ext w wr)) (fun _ iv _=>k+1 - (intOf iv).toNat)
    case atStart=>exact⟨0,Nat.zero_le _,rfl,rfl,o⟩
    case round =>
     obtain⟨i,hi,rfl,rfl,o⟩:=hrel
     by_cases au:i<k+1
     .have B:i<b.length:=by omega
      obtain⟨x,t⟩:∃x,b[i]? = some x:=⟨_,List.getElem?_eq_getElem B⟩;obtain⟨_,_,he,G⟩:=HG.out i B;cases he;have y2:=o.out.cell (G i B);rw[show b.getD i 0=x by rw[List.getD_eq_getElem?_getD,t];rfl]at y2;have ao:=Dz x;obtain⟨g,j⟩:∃g,fD (b.take i)=g:=⟨_,rfl⟩;rw[j];have N:g<128 ^ i:=by
       have V:=wk (b.take i);rw[j,List.length_take,Nat.min_eq_left (by omega)]at V;exact V
      have P:=or7 x N (by omega);have S:fD (b.take (i+1))=g+x.toNat%128*128 ^ i:=by
       rw[List.take_add_one,t];show fD (b.take i++[x])=_;rw[rU,j,List.length_take,Nat.min_eq_left (by omega)]
      have Z:Hid _:=S;have X:Hid _:=P;clear S P N j t G;go_wp2_with fail;go_roundw
      case rel=>exact⟨i+1,by omega,by go_num,by rw[Z.out,<-X.out],o⟩
      case measure=>simp[intOf];omega
     .have ag:i=k+1:=by omega
      subst ag;have d:=n.out;have C:dO b=k:=by omega
      have a0:Hid _:=C;have ai:k+1<=b.length:=by omega
      have K:IsBytes wr (.slice (some ⟨bb,oo,none⟩) (k+1) c) (b.take (k+1)):=IsBytes.take (IsBytes.ext HV.out o.out) ai;have W:Hid _:=K;obtain⟨g,j⟩:∃g,fD (b.take (k+1))=g:=⟨_,rfl⟩;have a2:Hid _:=j;rw[j];have Q:q=if cF<g\/bf g≠b.take (k+1)then(0,0,4)else(g,k+1,0):=by
       rw[<-U.out];unfold gg;rw[C,if_neg (by omega),if_neg V,j]
      have z:Hid _:=Q;clear d K j Q C n U
      by_cases l:cF<g
      .have r:Hid (q=(0,0,4)):=by unfold Hid;rw[z.out,if_pos (.inl l)]
       have ad:(72057594037927936:Int)<(g:Int):=by unfold cF at l;omega
       clear l;go_wp2;go_ret3;exact⟨by rw[r.out];rfl,o.out⟩
      .have ad:¬(72057594037927936:Int)<(g:Int):=by unfold cF at l;omega
       have O:g<=cF:=by omega
       have y:Hid _:=O;have a4:¬(g:Int)<0:=by omega
       obtain⟨eq,L⟩:∃eq,(bf g==b.take (k+1))=eq:=⟨_,rfl⟩;have u:Hid _:=L;clear l O L;go_wp2_with fail;go_at_call 167;refine(ut g wr y.out).mono ?_;rintro e w1 ⟨⟨v,rfl,H⟩,E⟩;have R:IsBytes w1 v (bf g):=by unfold IsBytes;exact Row.GW H (by have:=cM y.out;omega)
       have Y:Hid _:=R;have I:Hid _:=IsBytes.ext W.out E;have aa:Hid (Ext w w1):=o.out.trans E;clear H R E;go_wp2_with fail;go_at_call 179;refine(Cq _ _ _ _ w1 Y.out I.out).mono ?_;rw[u.out];rintro e w2 ⟨rfl,T⟩;have J:Hid (Ext w w2):=aa.out.trans T;clear T
       cases eq with
       | true =>
        have r:Hid (q=(g,k+1,0)):=by
         unfold Hid;rw[z.out,if_neg];intro h;rcases h with h | h
         .have:=y.out;omega
         .exact h (by simpa using u.out)
        go_wp2;go_ret3;exact⟨by rw[r.out];rfl,J.out⟩
       | false =>
        have r:Hid (q=(0,0,4)):=by
         unfold Hid;rw[z.out,if_pos (.inr (by simpa using u.out))]
        go_wp2;go_ret3;exact⟨by rw[r.out];rfl,J.out⟩
  .have a3:k=b.length:=by omega
   have M:¬(k:Int)<(b.length:Int):=by omega
   have D:dO b=b.length:=by omega
   have a1:Hid _:=D;have am:((k:Int)==(b.length:Int))=true:=by rw[beq_iff_eq];omega
   have r:Hid (q=(0,0,2)):=by unfold Hid;rw[<-U.out];unfold gg;rw[if_pos D]
   clear D;go_wp2;go_ret3;exact⟨by rw[r.out];rfl,o.out⟩
end
section
open Go Go.RowKit
def enG (V:Fi->Value) (e:B8×Fi):Lit×DataW Value:=(.string e.1,.held (V e.2))
def cX (V:Fi->Value) (l:ae):DataW Value:=.map (l.map (enG V))
def fX (V:Fi->Value) (z:Value) (l:ae) (p:B8):Value:=match ax l p with
 | some f=>V f
 | none=>z
section
variable (V:Fi->Value)
theorem ld (p:B8):∀l:ae,(l.map (enG V)).filter (fun q=>!q.1.sameKey (.string p))=(bu l p).map (enG V)
 | []=>rfl
 | e::l=>by
  have a:=ld p l;unfold bu at a ⊢;have b:(enG V e).1.sameKey (.string p)=(e.1==p):=rfl;rw[List.map_cons,List.filter_cons,List.filter_cons,b];split
  .rw [List.map_cons,a]
  .exact a
theorem o7 (x:B8×Fi):∀l:ae,DataW.insert (enG V x) (l.map (enG V))=(dN x l).map (enG V)
 | []=>rfl
 | y::l=>by
  rw[List.map_cons,DataW.insert,dN];have a:(enG V x).1.before (enG V y).1=ltB x.1 y.1:=oQ _ _;rw[a];split
  .rfl
  .rw [o7 x l];rfl
theorem AA (l:ae) (p:B8) (f:Fi):(cX V l).put (.string p) (.held (V f))=cX V (aF l p f):=by
 unfold cX DataW.put aF;simp only;rw[ld];have:(Lit.string p,DataW.held (V f))=enG V (p,f):=rfl;rw[this,o7]
theorem tq (p:B8):∀l:ae,(l.map (enG V)).find? (fun q=>q.1.sameKey (.string p))=(l.find? fun e=>e.1==p).map (enG V)
 | []=>rfl
 | e::l=>by
  have a:(enG V e).1.sameKey (.string p)=(e.1==p):=rfl;rw[List.map_cons,List.find?_cons,List.find?_cons,a];cases e.1==p
  .exact tq p l
  .rfl
theorem qw (l:ae) (p:B8) (z:DataW Value):(cX V l).atKey (.string p) z=match ax l p with | some f=>.held (V f) | none=>z:=by
 unfold cX DataW.atKey ax;simp only;rw[tq]
 cases h:l.find? fun e=>e.1==p with
 | none=>rfl
 | some e=>rfl
theorem og (l:ae) (p:B8):Maps.has (cX V l) (.string p)=(ax l p).isSome:=by
 unfold cX;rw[Maps.has_eq,Bool.eq_iff_iff,List.any_eq_true];unfold ax;constructor
 .rintro ⟨q,c,b⟩;obtain⟨e,a,rfl⟩:=List.mem_map.1 c;have:e.1==p:=b;rw[Option.isSome_map,List.find?_isSome];exact⟨e,a,this⟩
 .intro h;rw[Option.isSome_map,List.find?_isSome]at h;obtain⟨e,a,b⟩:=h;exact⟨enG V e,List.mem_map.2 ⟨e,a,rfl⟩,b⟩
end
structure IsMG (V:Fi->Value) (w:World) (b:Nat) (l:ae):Prop where
 map:w.ownsMap Tryz.prog 9 gM b l.length (cX V l)
theorem qB (V:Fi->Value) (w:World):IsMG V (w.alloc (.map #[] 0)) w.heap.size []:=⟨World.ownsMap_made _ _ _ _⟩
section
variable {V:Fi->Value} {w w':World} {b:Nat} {l:ae}
theorem IsMG.stay (h:IsMG V w b l) (e:w'.heap[b]? = w.heap[b]?):IsMG V w' b l:=by
 obtain⟨c,a,g,F,i,d⟩:=h.map;exact⟨c,a,e.trans g,F,i,d⟩
theorem IsMG.lt (h:IsMG V w b l):b<w.heap.size:=h.map.lt
theorem IsMG.ext (h:IsMG V w b l) (a:Ext w w'):IsMG V w' b l:=h.stay (a.block _ h.lt)
theorem IsMG.Hu (h:IsMG V w b l):¬IsU8 w b:=by
 obtain⟨g,a,d,_⟩:=h.map;rintro⟨e,t,i,c,-⟩;rw[d]at c;cases c
theorem IsMG.kind (h:IsMG V w b l):∃c a,w.heap[b]? = some (.map c a):=by
 obtain⟨c,a,d,_⟩:=h.map;exact⟨c,a,d⟩
theorem IsMG.Hd (h:IsMG V w b l) (T E:TypeId) (z:Value) (i:Tryz.prog.underlying T=some (.map 9 E)) (a:(zeroValue E).run Tryz.prog w=.ok z w) (p:B8) (r:p.length<=1000000) :
  (Instr.lookup T (.map (some b)) (S8 p) true).run Tryz.prog w=.ok (.tuple #[fX V z l p,.bool (ax l p).isSome]) w/\(Instr.lookup T (.map (some b)) (S8 p) false).run Tryz.prog w=.ok (fX V z l p) w:=by
 have e:=h.map;obtain⟨v,t,g,c⟩:=e.look_ok iV i a rfl (m8 p (by omega));obtain⟨q,o,n,d⟩:=e.lookup iV i a rfl (m8 p (by omega));rw[qw]at c d;rw[og]at g;have a:(match ax l p with | some f=>DataW.held (V f) | none=>DataW.held z)=(DataW.held (fX V z l p):DataW Value):=by
  unfold fX
  cases ax l p <;> rfl
 rw[a]at c d;have j:v=fX V z l p:=DataW.held.inj (congrArg Prod.fst (Option.some.inj c));have k:q=fX V z l p:=DataW.held.inj (congrArg Prod.fst (Option.some.inj d));subst j;subst k;exact⟨g,n⟩
end
section
variable {ops:Array Oper} {rest:List Oper} {o:Oper} {a:Act} {Q:Exit->Act->World->Prop} {w:World} {V:Fi->Value}
theorem kK (T E:TypeId) (n:Tryz.prog.underlying T=some (.map 9 E)) (g:o.guard=none) (m x v:Operand) (i:o.op=Op.mapUpdate T m x v) {b:Nat} {l:ae} (r:IsMG V w b l) (A:l.length<=10000000)
  (u:a.eval m=.map (some b)) (p:B8) (B:p.length<=1000000) (z:a.eval x=S8 p) (f:Fi) (y:a.eval v=V f)
  (h:∀e,IsMG V e b (aF l p f)->w.grownBy e (some b)->wpList Tryz.prog ops Q rest (a.put o.dst undef) e):wpList Tryz.prog ops Q (o::rest) a w:=by
 refine wpList_mapUpdate_own w g m x v _ i _ _ iV n gM b _ _ u r.map (by unfold maxLen;omega) (S8 p) (V f) (.string p) z y (m8 p (by omega)) (.held (V f)) [] rfl ?_;intro e c t;rw[AA]at c;refine h e ⟨?_⟩ t;obtain⟨j,d,q,F,C,k⟩:=c;refine⟨j,d,q,F,?_,k⟩;have:Maps.size (cX V (aF l p f))=j.size:=by rw[k];simp[Maps.size,length_sorted]
 rw[<-this];simp[cX,Maps.size]
end
end
end Go.Proofs.YtgfegpnmlkdjfaaGreatDoor
