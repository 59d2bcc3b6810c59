/- Contracts of the program's functions and plain laws behind the card. Conditions: as each theorem states. -/
import Derived.Test.YtfabjgfmiaammaaGreatDoorYaa
import Derived.Deep.QuietTactic
import Derived.Lib.QuietBelow
import Derived.Test.YtfabjgfmiaammaaGreatDoorYac
import Derived.Test.YtfabjgfmiaammaaGreatDoorYab
import Derived.Deep.Upon
import Derived.Test.YtfabjgfmiaammaaGreatDoorYag
import Derived.Lib.EndianBits
import Derived.Deep.DeepCutAuto
import Derived.Test.YtfabjgfmiaammaaGreatDoorYad
set_option linter.unusedVariables false
set_option linter.unusedSimpArgs false
set_option linter.unusedSectionVars false
set_option maxRecDepth 100000
set_option maxHeartbeats 64000000
namespace Go.Proofs.YtfabjgfmiaammaaGreatDoor
section
open Go Go.RowKit Go.Sort
structure QW (p:Prop):Prop where
 out:p
section
variable {P:Program} {ops:Array Oper} {C:World->Prop}
variable {a:Act}
theorem ej {Q:Act->Prop} (h:Q a):QW (wpQuiet P ops C Q [] a):=⟨wpQuiet_nil h⟩
theorem dG {Q:Act->Prop} {o:Oper} {rest:List Oper}
  (h:∀K:Act->Prop,(∀a,QW (wpQuiet P ops C Q rest a)->K a)->if Region.wanted o (yielded ops a.tmps)then o.quiet P a C K else K (a.put o.dst undef)):QW (wpQuiet P ops C Q (o::rest) a) :=
 ⟨wpQuiet_step fun K b=>h K (fun a c=>b a c.out)⟩
theorem dg {id:Nat} {Q:Exit->Act->World->Prop} {w:World} {l:List Oper} (e:P.follows .mixedOrders=true) (d:Region.lexB .any l.toArray=true)
  (h:QW (wpQuiet P l.toArray (fun b=>∃p:Regrown,b=grow (redrawn w p.d) p.os) (fun c=>∀b,(∃p:Regrown,b=grow (redrawn w p.d) p.os)->Q .normal c b) l a)):(Code.region id l.toArray true).wp P Q a w :=
 wp_region_quiet_below e d h.out
end
theorem Ext.drawn (w:World) (n:Nat):Ext w (w.drewN n):=⟨rfl,rfl,rfl,Nat.le_refl _,fun _ _=>rfl⟩
theorem Ext.B6 (w:World) (d:Nat) (a:Array Obj):Ext w (grow (redrawn w d) a):=below_regrown w d a
end
section
open Go Go.RowKit
variable {w:World}
theorem gK (T e:TypeId) (z:Value) (k bytes:Nat) (M:Tryz.prog.underlying T=some (.slice e)) (t:(Tryz.prog.info? e).map (fun i=>(i.zero,i.size,i.bytes))=some (some z,k,bytes)) (Q:z.cells.size=k) (L:0<k)
 (p:Nat) (v:Value) (n:Nat) (xs:List Value) (q:w.ownsRow p e k v n xs) (x:Value) (m:Nat) (d:List Value) (hx:Row w x m d) (V:d.length=m*k) (h1:∀u∈d,u.oneCell'=true) (hb:(n+m)*bytes<=140737488355328) (au:n+m<=1000000000) (r:p<=w.heap.size) :
  ∃B F,(Builtin.append_ #[T,T] T #[v,x]).run Tryz.prog w=.ok B F/\F.ownsRow p e k B (n+m) (xs++d)/\w.grownBy F v.ownBlock/\(B.ownBlock=v.ownBlock\/B.ownBlock=some w.heap.size):=by
 obtain⟨X,U,N,E,O⟩:=info_parts t;obtain⟨a,C,rfl,k1,k2,k3,Y⟩:=hx
 cases a with
 | none =>
  have hn:d=[]:=by
   cases d with
   | nil=>rfl
   | cons y l=>obtain⟨b,o,J,_⟩:=Y (by simp);cases J
  subst hn;have hm:m=0:=by
   have H:m*k=0:=by simpa using V.symm
   rcases Nat.mul_eq_zero.1 H with h | h
   .exact h
   .omega
  subst hm;obtain⟨R,Z,G,rfl,K⟩:∃R Z G,v=.slice R n G/\n<=G/\Z=n:=by
   rcases q.2 with⟨rfl,H⟩ | ⟨g,c,aa,rfl,_,_,I,_⟩
   .exact ⟨none,n,0,by rw[H],by omega,rfl⟩
   .exact ⟨_,n,c,rfl,I,rfl⟩
  refine⟨_,w,run_append_nothing w _ _ _ _ X M U R n G K.1 _ (by rw[E];exact Src.ofNil w M C),by simpa using q,⟨rfl,rfl,rfl,Nat.le_refl _,fun _ _ _=>rfl⟩,.inl rfl⟩
 | some S =>
  have A:∀j u,d[j]? = some u->w.cell? (S.add j)=some u:=fun j u W=>by
   obtain⟨b,o,J,I⟩:=Y (by rintro rfl;simp at W);cases J;have D:(⟨b,o,none⟩:Addr).add j=⟨b,o+j,none⟩:=by unfold Addr.add;split <;> simp_all
   rw[D];exact I j u W
  obtain⟨B,F,h2,h3,h4,_,h5⟩:=run_append_own_at (P:=Tryz.prog) w p T T e X _ k bytes M U N E O Q L v n xs q S m C d V A h1 (by unfold maxLen;omega) hb r;exact⟨B,F,h2,h3,h4,h5⟩
section
variable {ops:Array Oper} {rest:List Oper} {o:Oper} {a:Act} {Q:Exit->Act->World->Prop} {w:World}
theorem tu (T e:TypeId) (z:Value) (b bytes:Nat) (M:Tryz.prog.underlying T=some (.slice e)) (j:(Tryz.prog.info? e).map (fun i=>(i.zero,i.size,i.bytes))=some (some z,b,bytes)) (B:z.cells.size=b) (y:0<b)
  (t:o.guard=none) (s x:Operand) (I:o.op=.call { callee:=.builtin .append,args:=#[s,x],argTypes:=#[T,T] }) (A:o.type=T)
  (d:Nat) (v:Value) (n:Nat) (xs:List Value) (L:a.eval s=v) (k:w.ownsRow d e b v n xs)
  (xv:Value) (m:Nat) (c:List Value) (N:a.eval x=xv) (l:Row w xv m c) (H:c.length=m*b) (C:∀u∈c,u.oneCell'=true) (G:(n+m)*bytes<=140737488355328) (r:n+m<=1000000000) (g:d<=w.heap.size)
  (h:∀q p,p.ownsRow d e b q (n+m) (xs++c)->w.grownBy p v.ownBlock->wpList Tryz.prog ops Q rest (a.put o.dst q) p):wpList Tryz.prog ops Q (o::rest) a w:=by
 refine wpList_plain t fun K F=>?_
 obtain⟨q,p,J,D,E,O⟩:=gK T e z b bytes M j B y d v n xs k xv m c l H C G r g;unfold Oper.wp execOp;simp only[I,A,resolve,invoke,builtin,Sem.run_bind,Sem.run_pure,Result.andThen_ok,List.map_toArray,List.map_cons,List.map_nil,L,N,J];exact F _ _ (h q p D E)
end
variable {a:Option Addr} {cap:Nat} {l:B8}
theorem IsBytes.tail (k:Nat) (h:IsBytes w (.slice a l.length cap) l) (C:k<=l.length) (E:TypB w (.slice a l.length cap)) :
  ∀c,(a=none->c=none)->(cap≠k->∀b o,a=some ⟨b,o,none⟩->c=some ⟨b,o+k,none⟩)->IsBytes w (.slice c (l.length - k) (cap - k)) (l.drop k):=by
 obtain⟨y,j,p,z,A,B,r⟩:=h;simp only[Value.slice.injEq,true_and]at p;obtain⟨rfl,rfl⟩:=p;intro c D x;have d:(l.drop k).length=l.length - k:=List.length_drop;unfold IsBytes;rw[d];refine⟨c,cap - k,rfl,by omega,by omega,by omega,fun e=>?_⟩;have g:k<l.length:=by
  rcases Nat.lt_or_ge k l.length with h | h
  .exact h
  .rw [List.drop_eq_nil_of_le h]at e;simp at e
 obtain⟨b,o,rfl,t⟩:=r (by intro n;rw[List.map_eq_nil_iff]at n;subst n;simp at g);refine⟨b,o+k,x (by omega) b o rfl,fun i u q=>?_⟩;rw[List.getElem?_map,List.getElem?_drop]at q;have:=t (k+i) u (by rw[List.getElem?_map];exact q)
 rwa [<-Nat.add_assoc]at this
def tailV (a:Option Addr) (n c k:Nat):Value:=.slice (if c=k then a else Option.map (fun x=>{ block:=x.block,off:=x.off+k }) a) (n - k) (c - k)
theorem IsBytes.tailV (k:Nat) (h:IsBytes w (.slice a l.length cap) l) (j:k<=l.length) (e:TypB w (.slice a l.length cap)) :
  IsBytes w (tailV a l.length cap k) (l.drop k)/\TypB w (Go.Proofs.YtfabjgfmiaammaaGreatDoor.tailV a l.length cap k):=by
 constructor
 .refine h.tail k j e _ (fun n=>by subst n;simp) (fun d b o i=>by subst i;simp[d])
 .intro p r q c;unfold Go.Proofs.YtfabjgfmiaammaaGreatDoor.tailV at c;simp only[Value.slice.injEq]at c;obtain⟨c,-,-⟩:=c;split at c
  .subst c;exact e _ _ _ rfl
  .cases a with
   | none=>cases c
   | some g=>simp only[Option.map_some,Option.some.injEq]at c;subst c;exact e g _ _ rfl
theorem IsBytes.head (k:Nat) (h:IsBytes w (.slice a l.length cap) l) (z:k<=l.length):IsBytes w (.slice a k cap) (l.take k):=by
 obtain⟨r,g,n,t,x,y,p⟩:=h;simp only[Value.slice.injEq,true_and]at n;obtain⟨rfl,rfl⟩:=n;have c:(l.take k).length=k:=by rw[List.length_take];omega
 unfold IsBytes;rw[c];refine⟨a,cap,rfl,by omega,by omega,by omega,fun e=>?_⟩;obtain⟨b,o,rfl,q⟩:=p (by intro j;rw[List.map_eq_nil_iff]at j;subst j;simp at e);refine⟨b,o,rfl,fun i u d=>q i u ?_⟩;rw[List.getElem?_map,List.getElem?_take]at d;split at d
 .rw [List.getElem?_map];exact d
 .cases d
end
section
open Go Go.RowKit
theorem wQ:∀r:Fin 256,bits BinOp.or IntKind.u8 (r.val:Int) 128=(((UInt8.ofNat (r.val%128+128)).toNat:Nat):Int):=by decide +kernel
theorem Bm (m:Nat):bits BinOp.or IntKind.u8 ((m:Int)%256) 128=(((UInt8.ofNat (m%128+128)).toNat:Nat):Int):=by
 have h:=wQ ⟨m%256,by omega⟩;rw[show(((⟨m%256,by omega⟩:Fin 256).val:Nat):Int)=(m:Int)%256 by simp]at h;rw[h];show(((UInt8.ofNat (m%256%128+128)).toNat:Nat):Int)=_;rw[show m%256%128=m%128 by omega]
theorem A2 {m:Nat} (h:m<=127):(m:Int)=(((UInt8.ofNat m).toNat:Nat):Int):=by
 rw[UInt8.toNat_ofNat'];omega
theorem rW (n:Nat) (w:World) (A:n<=bi) :
  Calls Tryz.prog 231 #[.int .i64 n] w fun e y=>(∃v,e=.returned v/\y.ownsRow w.heap.size 5 1 v (ar n).length ((ar n).map fun x=>.int .u8 x.toNat))/\Ext w y:=by
 unfold bi at A;go_enter Tryz.func231,Tryz.ntmps231;go_wp2;go_loopw [0,3] (fun u v wr=>∃(m:Nat) (l:B8),u=.int .i64 m/\m<=n/\Hid (ar n=l++ar m)/\Hid (wr.ownsRow w.heap.size 5 1 v l.length (l.map fun x=>.int .u8 x.toNat))/\Hid (Ext w wr)) (fun u _ _=>(intOf u).toNat)
 case atStart=>exact⟨n,[],rfl,Nat.le_refl _,rfl,World.ownsRow_nil _ _ _ _,Ext.refl _⟩
 case round =>
  obtain⟨m,l,rfl,D,i,h,j⟩:=hrel
  by_cases q:127<m
  .have r:=Bm m;obtain⟨c,o⟩:∃c,UInt8.ofNat (m%128+128)=c:=⟨_,rfl⟩;rw[o]at r;have z:Hid _:=o;have d:l.length<=9:=by
    have k:=bH (n:=n) (by unfold bi;omega);rw[i.out,List.length_append]at k;omega
   clear o
   go_wp2_with (at_builtin;go_must (refine dP rfl _ _ rfl w.heap.size _ l.length _ rfl (am h.out ((Ext.refl _).alloc _)) wr.heap.size 1 1 [c] rfl rfl (ae _ _) (by omega) (by have:=j.out.size;simp;omega) ?_;intro B C a b))
   go_roundw
   case rel =>
    refine⟨m / 128,l++[c],?_,by omega,?_,?_,?_⟩
    .go_num
    .unfold Hid;rw[i.out,gS q,z.out,List.append_assoc];rfl
    .unfold Hid;simpa using a
    .exact aj (j.out.alloc _) (am h.out ((Ext.refl _).alloc _)) b
   case measure=>simp[intOf];omega
  .have g:m<=127:=by omega
   have p:(wr.alloc (.cells #[.int .u8 m] 5)).heap[wr.heap.size]? = some (.cells (List.map (fun x:UInt8=>Value.int .u8 x.toNat) [UInt8.ofNat m]).toArray 5 (0,0)):=by
    rw[ae,List.map_cons,List.map_nil,<-A2 g]
   have d:l.length<=9:=by
    have k:=bH (n:=n) (by unfold bi;omega);rw[i.out,List.length_append]at k;omega
   go_wp2_with (at_builtin;go_must (refine dP rfl _ _ rfl w.heap.size _ l.length _ rfl (am h.out ((Ext.refl _).alloc _)) wr.heap.size 1 1 [UInt8.ofNat m] rfl rfl p (by omega) (by have:=j.out.size;simp;omega) ?_;intro B C a b))
   go_ret;have t:ar n=l++[UInt8.ofNat m]:=by rw[i.out,ei g]
   rw[t];exact⟨⟨_,rfl,by simpa using a⟩,aj (j.out.alloc _) (am h.out ((Ext.refl _).alloc _)) b⟩
theorem zw (n:Int) (w:World) :
  Calls Tryz.prog 199 #[.int .i64 n] w fun e g=>(∃v,e=.returned (.tuple #[v,.int .i64 (putW n).2])/\g.ownsRow w.heap.size 5 1 v (putW n).1.length ((putW n).1.map fun x=>.int .u8 x.toNat))/\Ext w g:=by
 obtain⟨r,a⟩:∃r,putW n=r:=⟨_,rfl⟩;rw[a]
 by_cases j:n<0
 .have b:r=([],1):=by rw[<-a];unfold putW;rw[if_pos (.inl j)]
  subst b;clear a;go_enter Tryz.func199,Tryz.ntmps199;go_wp2;go_ret2;exact⟨⟨_,rfl,World.ownsRow_nil _ _ _ _⟩,Ext.refl _⟩
 .by_cases l:(72057594037927936:Int)<n
  .have b:r=([],1):=by rw[<-a];unfold putW;rw[if_pos (.inr l)]
   subst b;clear a;go_enter Tryz.func199,Tryz.ntmps199;go_wp2;go_ret2;exact⟨⟨_,rfl,World.ownsRow_nil _ _ _ _⟩,Ext.refl _⟩
  .obtain ⟨k,rfl⟩:∃k:Nat,n=k:=⟨n.toNat,by omega⟩;have b:r=(ar k,0):=by rw[<-a];unfold putW;rw[if_neg (by unfold bi;omega)];rfl
   subst b;clear a;go_enter Tryz.func199,Tryz.ntmps199;go_wp2_with fail;go_at_call 231;refine(rW k w (by unfold bi;omega)).mono ?_;rintro e o ⟨⟨v,rfl,c⟩,d⟩;have h:Hid _:=c;have i:Hid (Ext w o):=d;clear c d;go_wp2;go_ret2;exact⟨⟨_,rfl,h.out⟩,i.out⟩
end
section
open Go Go.RowKit
theorem Ad (a b:Value) (c g:B8) (w:World) (U:IsBytes w a c) (V:IsBytes w b g) :
  Calls Tryz.prog 243 #[a,b] w fun e w'=>e=.returned (.bool (c==g))/\Ext w w':=by
 obtain⟨a1,c1,rfl,l1,l2,l3,A⟩:=U.get;obtain⟨a2,c2,rfl,k1,k2,k3,B⟩:=V.get;have Y:Hid _:=A;have Z:Hid _:=B;clear U V A B
 by_cases l:c.length=g.length
 .have D:((c.length:Int)==(g.length:Int))=true:=by rw[beq_iff_eq];omega
  have P:Hid _:=l;rw[<-l]at k1 k2;have HB:Hid (∀k,k<c.length->∃b o,a2=some ⟨b,o,none⟩/\(∀i,i<c.length->w.cell? ⟨b,o+i,none⟩=some (.int .u8 (g.getD i 0).toNat))):=by
   unfold Hid;rw[l];exact Z.out
  obtain⟨O,E⟩:∃O,g.length=O:=⟨_,rfl⟩;have j:O=c.length:=by omega
  rw[E,j];clear E D l j;go_enter Tryz.func243,Tryz.ntmps243;go_wp2;go_loopw [13] (fun i wr=>∃k:Nat,k<=c.length/\i=.int .i64 k/\c.take k=g.take k/\Ext w wr) (fun i _=>c.length - (intOf i).toNat)
  case atStart=>exact⟨0,Nat.zero_le _,rfl,by simp,Ext.refl _⟩
  case round =>
   obtain⟨k,K,rfl,G,L⟩:=hrel;have S:Hid _:=G;clear G
   by_cases d:k<c.length
   .obtain ⟨b1,o1,rfl,x⟩:=Y.out k d;obtain⟨b2,o2,rfl,y⟩:=HB.out k d;have W:=L.cell (x k d);have X:=L.cell (y k d);obtain⟨p,M⟩:∃p,c.getD k 0=p:=⟨_,rfl⟩;obtain⟨q,n⟩:∃q,g.getD k 0=q:=⟨_,rfl⟩;rw[M]at W;rw[n]at X;have Q:Hid (c[k]? = some p):=by
     unfold Hid;rw[List.getElem?_eq_getElem d,<-M];simp[d]
    have h:k<g.length:=by rw[<-P.out];exact d
    have R:Hid (g[k]? = some q):=by
     unfold Hid;rw[List.getElem?_eq_getElem h,<-n];simp[h]
    obtain⟨I,u⟩:∃I,((p.toNat:Int) != (q.toNat:Int)) = !I:=⟨(p.toNat:Int)==(q.toNat:Int),rfl⟩;have r:Hid _:=u;clear x y M n h;go_wp2_with fail;apply ak 9 [_,_,_,_,_,_,_,_,.bool (!I)] [none,none,none,none,none,none,none,none,none] [[],[],[0,1],[2],[],[],[4,5],[6],[3,7]] (by kernel_rfl) (by kernel_rfl) (by simp[aq])
    .trivial
    .simp (maxSteps:=1000000)only[List.take_succ_cons,List.take_zero,ay,aE,ab,Act.put,List.setIfInBounds_toArray,List.set_cons_zero,List.set_cons_succ,aN,aS,aq,List.getD_cons_zero,List.getD_cons_succ,and_true,true_and,forall_const];and_intros
     iterate 9 · intro xs wq n;intros;rename_i hR;have f1:=n.cell W;have f2:=n.cell X;go_simp;exact hR _ _ (Ext.refl _) rfl
    intro xs w2 N K;simp only[aU,Nat.zero_add,Nat.reduceAdd,and_true]at K;simp(maxSteps:=1000000)only[List.take_succ_cons,List.take_zero,List.drop_succ_cons,List.drop_zero,ab,Act.put,List.setIfInBounds_toArray,List.set_cons_zero,List.set_cons_succ,Nat.zero_add,Nat.reduceAdd,K];clear K;have H:=L.trans N;clear u
    cases I with
    | false =>
     have F:p≠q:=fun e=>by have J:=r.out;rw[e]at J;simp at J
     have t:Hid ((c==g)=false):=by
      unfold Hid;rw[beq_eq_false_iff_ne];intro e;have T:=Q.out;rw[e,R.out]at T;exact F (Option.some.inj T).symm
     clear F;go_wp2;go_ret;exact⟨an t.out.symm,H⟩
    | true =>
     have z:p=q:=by
      have J:=r.out;simp at J;exact UInt8.toNat_inj.1 (by omega)
     have HE:Hid _:=z;clear z;go_wp2;go_roundw
     case rel=>exact⟨k+1,by omega,by go_num,by rw[List.take_add_one,List.take_add_one,Q.out,R.out,HE.out,S.out],H⟩
     case measure=>simp[intOf];omega
   .have C:c.length<=k:=by omega
    have t:Hid ((c==g)=true):=by
     have:=S.out;rw[List.take_of_length_le C,List.take_of_length_le (by rw[<-P.out];exact C)]at this;unfold Hid;simpa using this
    go_wp2;go_ret;exact⟨an t.out.symm,L⟩
 .have D:((c.length:Int)==(g.length:Int))=false:=by rw[beq_eq_false_iff_ne];omega
  have t:Hid ((c==g)=false):=by
   unfold Hid;rw[beq_eq_false_iff_ne];intro e;exact l (by rw[e])
  clear l;go_enter Tryz.func243,Tryz.ntmps243;go_wp2;go_ret;exact⟨an t.out.symm,Ext.refl _⟩
theorem nX (c:UInt8) (l:B8):cK (c::l)=if 127<c.toNat then cK l+1 else 0:=by
 unfold cK;rw[List.takeWhile_cons]
 by_cases h:127<c.toNat
 .rw [decide_eq_true h,if_pos rfl,if_pos h,List.length_cons]
 .rw [decide_eq_false h,if_neg h];rfl
theorem uh:∀r:Fin 256,bits BinOp.and IntKind.u8 (r.val:Int) 128=if 127<r.val then 128 else 0:=by decide +kernel
theorem nF (x:UInt8):bits BinOp.and IntKind.u8 (x.toNat:Int) 128=if 127<x.toNat then 128 else 0:=uh ⟨x.toNat,x.toNat_lt⟩
variable {x:UInt8}
theorem AR (h:127<x.toNat):(bits BinOp.and IntKind.u8 (x.toNat:Int) 128 != 0)=true:=by rw[nF,if_pos h];rfl
theorem zM (h:¬127<x.toNat):(bits BinOp.and IntKind.u8 (x.toNat:Int) 128 != 0)=false:=by rw[nF,if_neg h];rfl
theorem ug:∀r:Fin 256,bits BinOp.and IntKind.u8 (r.val:Int) 127=((r.val%128:Nat):Int):=by decide +kernel
theorem vf (x:UInt8):bits BinOp.and IntKind.u8 (x.toNat:Int) 127=((x.toNat%128:Nat):Int):=ug ⟨x.toNat,x.toNat_lt⟩
theorem ph:∀l:B8,dR l<128 ^ l.length
 | []=>by simp[dR]
 | c::l=>by
  have h:=ph l;have a:=Nat.mod_lt c.toNat (show 128>0 by omega);rw[List.length_cons,Nat.pow_succ];show c.toNat%128+128*dR l<_;omega
theorem qf:∀(l:B8) (c:UInt8),dR (l++[c])=dR l+c.toNat%128*128 ^ l.length
 | [],c=>by simp[dR]
 | x::l,c=>by
  show x.toNat%128+128*dR (l++[c])=x.toNat%128+128*dR l+c.toNat%128*128 ^ (l.length+1);rw[qf l c,Nat.pow_succ,Nat.mul_add,Nat.mul_comm (128 ^ l.length) 128,<-Nat.mul_assoc (c.toNat%128),Nat.mul_comm (c.toNat%128) 128,Nat.mul_assoc 128];omega
theorem yO (i:Nat):(2:Nat) ^ (7*i)=128 ^ i:=by rw[Nat.pow_mul]
theorem qg (n:Int) (a:0<=n) (b:n<2 ^ 63):IntKind.i64.wrap n=n:=IntWalk.i64_in _ (by omega)
theorem or7 {a i:Nat} (c:UInt8) (g:a<128 ^ i) (n:i<=8):bits BinOp.or IntKind.i64 (a:Int) (wrap64 ((c.toNat:Int)%128*2 ^ (7*i)))=((a+c.toNat%128*128 ^ i:Nat):Int):=by
 have q:=Nat.mod_lt c.toNat (show 128>0 by omega);have l:128 ^ i<=72057594037927936:=Nat.le_trans (Nat.pow_le_pow_right (by omega) n) (Nat.le_of_eq (by decide +kernel:128 ^ 8=72057594037927936));have o:c.toNat%128*128 ^ i<=127*72057594037927936:=Nat.mul_le_mul (by omega) l;have j:((c.toNat:Int)%128*2 ^ (7*i))=((c.toNat%128*128 ^ i:Nat):Int):=by
  rw[<-yO];push_cast;rfl
 have k:wrap64 ((c.toNat%128*128 ^ i:Nat):Int)=((c.toNat%128*128 ^ i:Nat):Int):=by
  exact IntWalk.wrap64_in _ (by omega)
 rw[j,k];obtain⟨t,h⟩:∃t,c.toNat%128*128 ^ i=t:=⟨_,rfl⟩;have d:(t:Int)%2 ^ (7*i)=0:=by rw[<-h,<-yO];push_cast;exact Int.mul_emod_left _ _
 have e:(a:Int)<2 ^ (7*i):=by rw[<-yO]at g;exact_mod_cast g
 rw[h]at o ⊢;have p:a<72057594037927936:=by omega
 have b:(2:Int) ^ 63=9223372036854775808:=by decide +kernel
 rw[bits_join_low .i64 63 (by decide) qg (7*i) _ _ (by omega) e (by rw[b];omega) (by omega) d (by rw[b];omega)];omega
theorem IsBytes.take {w:World} {a:Option Addr} {c:Nat} {b:B8} (h:IsBytes w (.slice a b.length c) b) {j:Nat} (B:j<=b.length):IsBytes w (.slice a j c) (b.take j):=by
 obtain⟨x,y,t,z,p,A,q⟩:=h;cases t;have l:(b.take j).length=j:=by rw[List.length_take];omega
 unfold IsBytes;rw[l];refine⟨a,c,rfl,by omega,p,by omega,fun d=>?_⟩;obtain⟨n,o,rfl,r⟩:=q (by
  intro e;rw[List.map_eq_nil_iff]at e;subst e;simp at d)
 refine⟨n,o,rfl,fun i u g=>?_⟩;have k:=(List.getElem?_eq_some_iff.1 g).1;rw[List.length_map,l]at k;refine r i u ?_;rw[List.getElem?_map]at g ⊢
 rwa [List.getElem?_take_of_lt k]at g
theorem rl (l:B8):cK l<=l.length:=(List.takeWhile_prefix _).length_le
theorem zv (v:Value) (b:B8) (w:World) (H:IsBytes w v b) :
  Calls Tryz.prog 232 #[v,.int .i64 0] w fun e w'=>e=.returned (.tuple #[.int .i64 (cR b).1,.int .i64 (cR b).2.1,.int .i64 (cR b).2.2])/\Ext w w':=by
 have HV:Hid _:=H;obtain⟨a,c,rfl,l1,l2,l3,hg⟩:=H.get;have HG:Hid _:=hg;have a5:=rl b;obtain⟨q,hq⟩:∃q,cR b=q:=⟨_,rfl⟩;rw[hq];have U:Hid _:=hq;clear H hg hq;go_enter Tryz.func232,Tryz.ntmps232;go_wp2_with fail;go_loopw [7] (fun i wr=>∃k:Nat,k<=cK b/\i=.int .i64 k/\Hid (cK b=k+cK (b.drop k))/\Hid (Ext w wr)) (fun i _=>b.length - (intOf i).toNat)
 case atStart=>exact⟨0,Nat.zero_le _,rfl,(by unfold Hid;simp),Ext.refl _⟩
 case round =>
  obtain⟨k,hk,rfl,HM,o⟩:=hrel
  by_cases p:k<b.length
  .obtain ⟨x,t⟩:∃x,b[k]? = some x:=⟨_,List.getElem?_eq_getElem p⟩;have A:b.drop k=x::b.drop (k+1):=by
    rw[List.drop_eq_getElem_cons p];rw[List.getElem?_eq_getElem p]at t;rw[Option.some.inj t]
   have d:=HM.out;rw[A,nX]at d;obtain⟨bb,oo,rfl,G⟩:=HG.out k p;have y1:=o.out.cell (G k p);rw[show b.getD k 0=x by rw[List.getD_eq_getElem?_getD,t];rfl]at y1;have M:(k:Int)<(b.length:Int):=by omega
   by_cases F:127<x.toNat
   .have ad:(bits BinOp.and IntKind.u8 (x.toNat:Int) 128 != 0)=true:=AR F;rw[if_pos F]at d;have n:Hid _:=d;clear d F A t G;go_wp2_with fail;go_roundw
    case rel=>exact⟨k+1,by have:=n.out;omega,by go_num,(by unfold Hid;have:=n.out;omega),o⟩
    case measure=>simp[intOf];omega
   .have ad:(bits BinOp.and IntKind.u8 (x.toNat:Int) 128 != 0)=false:=zM F;rw[if_neg F]at d;have n:Hid _:=d;have a2:((k:Int)==(b.length:Int))=false:=by rw[beq_eq_false_iff_ne];omega
    clear d F A t G
    by_cases V:9<k+1
    .have r:Hid (q=(0,0,4)):=by
      unfold Hid;rw[<-U.out];have d:=n.out;unfold cR;rw[if_neg (by omega),if_pos (by omega)]
     go_wp2;go_ret3;exact⟨by rw[r.out];rfl,o.out⟩
    go_wp2_with fail;go_loopw [9,50] (fun g iv wr=>∃i:Nat,i<=k+1/\iv=.int .i64 i/\g=.int .i64 ((dR (b.take i):Nat):Int)/\Hid (Ext w wr)) (fun _ iv _=>k+1 - (intOf iv).toNat)
    case atStart=>exact⟨0,Nat.zero_le _,rfl,rfl,o⟩
    case round =>
     obtain⟨i,hi,rfl,rfl,o⟩:=hrel
     by_cases a4:i<k+1
     .have B:i<b.length:=by omega
      obtain⟨x,t⟩:∃x,b[i]? = some x:=⟨_,List.getElem?_eq_getElem B⟩;obtain⟨_,_,he,G⟩:=HG.out i B;cases he;have y2:=o.out.cell (G i B);rw[show b.getD i 0=x by rw[List.getD_eq_getElem?_getD,t];rfl]at y2;have a3:=vf x;obtain⟨g,j⟩:∃g,dR (b.take i)=g:=⟨_,rfl⟩;rw[j];have N:g<128 ^ i:=by
       have V:=ph (b.take i);rw[j,List.length_take,Nat.min_eq_left (by omega)]at V;exact V
      have P:=or7 x N (by omega);have S:dR (b.take (i+1))=g+x.toNat%128*128 ^ i:=by
       rw[List.take_add_one,t];show dR (b.take i++[x])=_;rw[qf,j,List.length_take,Nat.min_eq_left (by omega)]
      have Z:Hid _:=S;have X:Hid _:=P;clear S P N j t G;go_wp2_with fail;go_roundw
      case rel=>exact⟨i+1,by omega,by go_num,by rw[Z.out,<-X.out],o⟩
      case measure=>simp[intOf];omega
     .have a0:i=k+1:=by omega
      subst a0;have d:=n.out;have C:cK b=k:=by omega
      have a6:Hid _:=C;have a1:k+1<=b.length:=by omega
      have K:IsBytes wr (.slice (some ⟨bb,oo,none⟩) (k+1) c) (b.take (k+1)):=IsBytes.take (IsBytes.ext HV.out o.out) a1;have W:Hid _:=K;obtain⟨g,j⟩:∃g,dR (b.take (k+1))=g:=⟨_,rfl⟩;have a8:Hid _:=j;rw[j];have Q:q=if bi<g\/ar g≠b.take (k+1)then(0,0,4)else(g,k+1,0):=by
       rw[<-U.out];unfold cR;rw[C,if_neg (by omega),if_neg V,j]
      have z:Hid _:=Q;clear d K j Q C n U
      by_cases l:bi<g
      .have r:Hid (q=(0,0,4)):=by unfold Hid;rw[z.out,if_pos (.inl l)]
       have au:(72057594037927936:Int)<(g:Int):=by unfold bi at l;omega
       clear l;go_wp2;go_ret3;exact⟨by rw[r.out];rfl,o.out⟩
      .have au:¬(72057594037927936:Int)<(g:Int):=by unfold bi at l;omega
       have O:g<=bi:=by omega
       have y:Hid _:=O;have a':¬(g:Int)<0:=by omega
       obtain⟨eq,L⟩:∃eq,(ar g==b.take (k+1))=eq:=⟨_,rfl⟩;have u:Hid _:=L;clear l O L;go_wp2_with fail;go_at_call 231;refine(rW g wr y.out).mono ?_;rintro e w1 ⟨⟨v,rfl,H⟩,E⟩;have R:IsBytes w1 v (ar g):=by unfold IsBytes;exact Row.BV H (by have:=bH y.out;omega)
       have Y:Hid _:=R;have I:Hid _:=IsBytes.ext W.out E;have aa:Hid (Ext w w1):=o.out.trans E;clear H R E;go_wp2_with fail;go_at_call 243;refine(Ad _ _ _ _ w1 Y.out I.out).mono ?_;rw[u.out];rintro e w2 ⟨rfl,T⟩;have J:Hid (Ext w w2):=aa.out.trans T;clear T
       cases eq with
       | true =>
        have r:Hid (q=(g,k+1,0)):=by
         unfold Hid;rw[z.out,if_neg];intro h;rcases h with h | h
         .have:=y.out;omega
         .exact h (by simpa using u.out)
        go_wp2;go_ret3;exact⟨by rw[r.out];rfl,J.out⟩
       | false =>
        have r:Hid (q=(0,0,4)):=by
         unfold Hid;rw[z.out,if_pos (.inr (by simpa using u.out))]
        go_wp2;go_ret3;exact⟨by rw[r.out];rfl,J.out⟩
  .have a9:k=b.length:=by omega
   have M:¬(k:Int)<(b.length:Int):=by omega
   have D:cK b=b.length:=by omega
   have a7:Hid _:=D;have a2:((k:Int)==(b.length:Int))=true:=by rw[beq_iff_eq];omega
   have r:Hid (q=(0,0,2)):=by unfold Hid;rw[<-U.out];unfold cR;rw[if_pos D]
   clear D;go_wp2;go_ret3;exact⟨by rw[r.out];rfl,o.out⟩
end
section
open Go Go.RowKit
section
variable (V:Fi->Value)
end
section
variable {V:Fi->Value} {w w':World} {b:Nat} {l:ax}
end
section
variable {ops:Array Oper} {rest:List Oper} {o:Oper} {a:Act} {Q:Exit->Act->World->Prop} {w:World} {V:Fi->Value}
end
end
end Go.Proofs.YtfabjgfmiaammaaGreatDoor
