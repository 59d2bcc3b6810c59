/- Contracts of the program's functions and plain laws behind the card. Conditions: as each theorem states. -/
import Derived.Test.YtgfegpnmlkdjfaaGreatDoorZar
import Derived.Test.YtgfegpnmlkdjfaaGreatDoorZab
import Derived.Test.YtgfegpnmlkdjfaaGreatDoorZaw
set_option linter.unusedVariables false
set_option linter.unusedSimpArgs false
set_option linter.unusedSectionVars false
set_option maxRecDepth 100000
set_option maxHeartbeats 64000000
namespace Go.Proofs.YtgfegpnmlkdjfaaGreatDoor
section
open Go Go.RowKit
theorem Bp (v:Value) (l:B8) (w:World) (S:IsBytes w v l) (hl:l.length<=30000000) :
  Calls Tryz.prog 43 #[v] w fun e G=>e=.returned (S8 (dt l))/\Ext w G:=by
 obtain⟨a,X,rfl,M,N,H,O⟩:=S.get;have U:Hid _:=O;clear O S;go_enter Tryz.func43,Tryz.ntmps43;go_wp2;go_loopw [4,5] (fun v i wr=>∃k:Nat,k<=l.length/\i=.int .i64 k/\wr.ownsRow w.heap.size 5 1 v (2*k) ((dt (l.take k)).map fun x=>.int .u8 x.toNat)/\Ext w wr) (fun _ i _=>l.length - (intOf i).toNat)
 case atStart=>exact⟨0,Nat.zero_le _,rfl,World.ownsRow_nil _ _ _ _,Ext.refl _⟩
 case round =>
  obtain⟨k,d,rfl,p,F⟩:=hrel
  by_cases B:k<l.length
  .obtain ⟨b,o,rfl,Q⟩:=U.out k B;have A:=F.cell (Q k B);clear Q;generalize T:l.getD k 0=y at A;have W:Hid _:=T;clear T;have E:y.toNat<256:=y.toNat_lt;have P:bits BinOp.and IntKind.u8 (y.toNat:Int) 15=((y.toNat%16:Nat):Int):=BL _ E;have V:Hid _:=P;clear P;go_upto_region 6 with fail;apply ak 16 [_,_,_,_,.pointer (some ⟨b,o+k,none⟩),.int .u8 y.toNat,_,.int .u8 (aK.getD (y.toNat / 16) 0).toNat,_,_,_,.pointer (some ⟨b,o+k,none⟩),.int .u8 y.toNat,_,.int .u8 (aK.getD (y.toNat%16) 0).toNat,undef] [none,none,none,none,none,none,none,none,none,none,none,none,none,none,none,some (fun u G=>∃g,u=.slice (some ⟨g,0,none⟩) 2 2/\wr.heap.size<=g/\G.heap[g]? = some (.cells #[.int .u8 (aK.getD (y.toNat / 16) 0).toNat,.int .u8 (aK.getD (y.toNat%16) 0).toNat] 5 (0,0)))] [[],[],[],[],[2,3],[4],[5],[1,6],[],[],[],[9,10],[11],[12],[8,13],[7,14]] (by kernel_rfl) (by kernel_rfl) (by simp[aq])
   .refine ⟨?_,trivial⟩
    .exact fun u w G he ⟨g,M,N,H⟩=>⟨g,M,N,(he.block g (Array.getElem?_eq_some_iff.1 H).1).trans H⟩
   .simp (maxSteps:=1000000)only[List.take_succ_cons,List.take_zero,ay,aB,af,Act.put,List.setIfInBounds_toArray,List.set_cons_zero,List.set_cons_succ,aE,aH,aq,List.getD_cons_zero,List.getD_cons_succ,and_true,true_and,forall_const];and_intros
    iterate 4 · intro j r h;intros;rename_i c;go_simp;exact c _ _ (Ext.refl _) rfl
    .intro j r h d R c;obtain⟨t,z⟩:=d;go_simp;exact c _ _ (Ext.refl _) rfl
    .intro j r h d R c;have Y:=h.cell A;go_simp;exact c _ _ (Ext.refl _) rfl
    .intro j r h;intros;rename_i c;go_simp;exact c _ _ (Ext.refl _) rfl
    .intro j r h d R c;obtain⟨t,z⟩:=d;go_simp;rw[dif_pos ⟨by omega,by omega⟩];exact c _ _ (Ext.refl _) (yL y (by omega))
    iterate 3 · intro j r h;intros;rename_i c;go_simp;exact c _ _ (Ext.refl _) rfl
    .intro j r h d R c;obtain⟨t,z⟩:=d;go_simp;exact c _ _ (Ext.refl _) rfl
    .intro j r h d R c;have Y:=h.cell A;go_simp;exact c _ _ (Ext.refl _) rfl
    .intro j r h;intros;rename_i c;go_simp;exact c _ _ (Ext.refl _) rfl
    .intro j r h d R c;obtain⟨t,z⟩:=d;go_simp;rw[V.out,dif_pos ⟨by omega,by omega⟩];exact c _ _ (Ext.refl _) (yM y (by omega))
    .intro j r h d R c;obtain⟨t,z⟩:=d;go_simp;exact c _ _ ((Ext.refl _).alloc _) ⟨_,rfl,h.size,ah _ _⟩
   intro j w2 D d;simp only[aG,Nat.zero_add,Nat.reduceAdd,and_true]at d;have L:=d.2.2.2.2.2.2.2.2.2.2.2.2.2.2.2;simp(maxSteps:=1000000)only[List.take_succ_cons,List.take_zero,List.drop_succ_cons,List.drop_zero,af,Act.put,List.setIfInBounds_toArray,List.set_cons_zero,List.set_cons_succ,Nat.zero_add,Nat.reduceAdd,d];clear d;generalize j 15=ab at *;obtain⟨g,rfl,aa,I⟩:=L;have q:=az p D;have n:=kG (l.take k)
   go_wp2_with (at_builtin;refine eT rfl _ _ rfl w.heap.size _ (2*k) _ rfl q g 2 2 [aK.getD (y.toNat / 16) 0,aK.getD (y.toNat%16) 0] rfl rfl I (by omega) (by have:=(F.trans D).size;exact this) ?_;intro v' w3 C J)
   go_roundw
   case rel=>exact⟨k+1,by omega,by go_num,by rw[tF B W.out];exact C,aA (F.trans D) q J⟩
   case measure=>simp[intOf];omega
  .have K:k=l.length:=by omega
   subst K;rw[List.take_length]at p;have n:=kG l;have Z:=dK (l:=dt l) (by unfold IsBytes;rw[n];exact Row.GW p (by omega));clear n;go_wp2;go_ret;exact⟨rfl,F⟩
end
section
open Go Go.RowKit
def IsBss (w:World) (v:Value) (L:List B8):Prop:=∃a:List Value,a.length=L.length/\Row w v L.length a/\∀(k:Nat) u b,a[k]? = some u->L[k]? = some b->IsBytes w u b
theorem IsBss.get {w:World} {v:Value} {L:List B8} (h:IsBss w v L):∃a c,v=.slice a L.length c/\L.length<=c/\c<=9223372036854775807/\L.length<=140737488355328/\∀(k:Nat) b,L[k]? = some b->∃d g u,a=some ⟨d,g,none⟩/\w.cell? ⟨d,g+k,none⟩=some u/\IsBytes w u b:=by
 obtain⟨y,j,⟨a,c,rfl,n,o,p,q⟩,r⟩:=h;refine⟨a,c,rfl,n,o,p,fun k b i=>?_⟩;have x:=(List.getElem?_eq_some_iff.1 i).1;obtain⟨u,l⟩:∃u,y[k]? = some u:=⟨_,List.getElem?_eq_getElem (by omega)⟩;obtain⟨d,g,rfl,t⟩:=q (fun e=>by rw[e]at j;simp at j;omega);exact⟨d,g,u,rfl,t k u l,r k u b l i⟩
end
section
open Go Go.RowKit
variable {w:World} {bb oo:Nat} {l:B8}
theorem IsBytes.from {a:Nat} (k:Nat) (h:IsBytes w (.slice (some ⟨bb,oo,none⟩) l.length a) l) (C:k<=l.length) (j:Addr) (t:k<l.length->j=⟨bb,oo+k,none⟩):IsBytes w (.slice (some j) (l.length - k) (a - k)) (l.drop k):=by
 obtain⟨y,n,g,z,A,B,r⟩:=h;simp only[Value.slice.injEq,true_and]at g;obtain⟨rfl,rfl⟩:=g;have c:(l.drop k).length=l.length - k:=List.length_drop;unfold IsBytes;rw[c];refine⟨_,a - k,rfl,by omega,by omega,by omega,fun e=>?_⟩;have d:k<l.length:=by
  rcases Nat.lt_or_ge k l.length with h | h
  .exact h
  .rw [List.drop_eq_nil_of_le h]at e;simp at e
 obtain⟨b,o,g,x⟩:=r (by intro p;rw[List.map_eq_nil_iff]at p;subst p;simp at d);cases g;refine⟨bb,oo+k,by rw[t d],fun i u q=>?_⟩;rw[List.getElem?_map,List.getElem?_drop]at q;have:=x (k+i) u (by rw[List.getElem?_map];exact q)
 rwa [<-Nat.add_assoc]at this
def IsSrc (w:World) (g:Nat) (s:Src):Prop:=∃bb oo c,w.heap[g]? = some (.cells #[.slice (some ⟨bb,oo,none⟩) s.b.length c,.bool s.bad] 210 (0,0))/\IsBytes w (.slice (some ⟨bb,oo,none⟩) s.b.length c) s.b/\bb+2<g
variable {w':World} {g:Nat} {s:Src}
theorem IsSrc.ext (h:IsSrc w g s) (a:Ext w w'):IsSrc w' g s:=by
 obtain⟨bb,oo,c,b,d,e⟩:=h;exact⟨bb,oo,c,Ext.row a b,d.ext a,e⟩
theorem IsSrc.Hc {b:Option Nat} (h:IsSrc w g s) (d:w.grownBy w' b) (p:∀k,b=some k->g<k):IsSrc w' g s:=by
 obtain⟨bb,oo,c,j,o,q⟩:=h;have i:=(Array.getElem?_eq_some_iff.1 j).1;refine⟨bb,oo,c,(d.block g i (fun e=>by have:=p g e.symm;omega)).trans j,?_,q⟩
 cases b with
 | none=>exact IsBytes.ext o (Below.grown (Ext.refl w) d (Nat.le_refl _) (fun k t=>by cases t))
 | some k=>exact Row.but o d (fun a n c r=>by cases r;have:=p k rfl;show bb≠k;omega)
theorem kV {a b:Value} {t:TypeId} {fr:Nat×Nat} (h:w.heap[g]? = some (.cells #[a,b] t fr)):w.cell? ⟨g,0,none⟩=some a/\w.cell? ⟨g,1,none⟩=some b:=by
 simp[World.cell?,h]
theorem IsBytes.set {n c o:Nat} {x:Value} (h:IsBytes w (.slice (some ⟨bb,oo,none⟩) n c) l) (d:bb+2<g):IsBytes (w.setCell ⟨g,o,none⟩ x) (.slice (some ⟨bb,oo,none⟩) n c) l :=
 Row.but h (cW w g o x) (fun a n c b=>by cases b;show bb≠g;omega)
theorem jU (g:Nat) (s:Src) (n:Nat) (w:World) (h:IsSrc w g s) :
  Calls Tryz.prog 162 #[.pointer (some ⟨g,0,none⟩),.int .i64 n] w fun e w'=>∃v,e=.returned v/\IsBytes w' v (bG s n).2/\IsSrc w' g (bG s n).1/\w.grownBy w' (some g):=by
 obtain⟨bb,oo,c,r,y,u⟩:=h;obtain⟨I,J⟩:=kV r;have K:w.frozen? ⟨g,0,none⟩=false:=by simp[World.frozen?,r]
 have L:w.frozen? ⟨g,1,none⟩=false:=by simp[World.frozen?,r]
 have j:Hid _:=r;have i:Hid _:=y;have d:Hid _:=u;have A:s.b.length<=c:=by
  obtain⟨_,_,C,a,-⟩:=y;cases C;exact a
 have G:c<=9223372036854775807:=by
  obtain⟨_,_,C,-,a,-⟩:=y;cases C;exact a
 obtain⟨b,k⟩:=s;have i:Hid (IsBytes w (.slice (some ⟨bb,oo,none⟩) b.length c) b):=i.out;dsimp only at I J j A;obtain⟨⟨F,t⟩,E⟩:∃q,bG ⟨b,k⟩ n=q:=⟨_,rfl⟩;rw[E];have z:Hid _:=E;clear r y u E;go_enter Tryz.func162,Tryz.ntmps162
 cases k with
 | true =>
  obtain⟨rfl,rfl⟩:(⟨b,true⟩:Src)=F/\[]=t:=by
   have a:=z.out;unfold bG at a;rw[if_pos (.inl rfl)]at a;exact⟨(Prod.mk.inj a).1,(Prod.mk.inj a).2⟩
  go_wp2;go_ret;refine⟨_,rfl,IsBytes.nil _,⟨bb,oo,c,?_,IsBytes.set i.out d.out,d.out⟩,cW _ _ _ _⟩;rw[heap_setCell_same w g 1 _ _ _ j.out];simp
 | false =>
  by_cases M:b.length<n
  .have D:(b.length:Int)<(n:Int):=by omega
   obtain⟨rfl,rfl⟩:(⟨b,true⟩:Src)=F/\[]=t:=by
    have a:=z.out;unfold bG at a;rw[if_pos (.inr M)]at a;exact⟨(Prod.mk.inj a).1,(Prod.mk.inj a).2⟩
   go_wp2;go_ret;refine⟨_,rfl,IsBytes.nil _,⟨bb,oo,c,?_,IsBytes.set i.out d.out,d.out⟩,cW _ _ _ _⟩;rw[heap_setCell_same w g 1 _ _ _ j.out];simp
  .have D:¬(b.length:Int)<(n:Int):=by omega
   obtain⟨rfl,rfl⟩:(⟨b.drop n,false⟩:Src)=F/\b.take n=t:=by
    have a:=z.out;unfold bG at a;rw[if_neg (by simp;omega)]at a;exact⟨(Prod.mk.inj a).1,(Prod.mk.inj a).2⟩
   have N:n<=c:=by omega
   by_cases p:c=n
   .subst p;have B:b.length=c:=by omega
    go_wp2;go_ret;refine⟨_,rfl,?_,⟨bb,oo,0,?_,?_,d.out⟩,cW _ _ _ _⟩
    .exact (IsBytes.take i.out (by omega)).set d.out
    .rw [heap_setCell_same w g 0 _ _ _ j.out];simp[B]
    .rw [List.drop_eq_nil_of_le (by omega)];exact⟨_,0,rfl,Nat.le_refl _,by omega,by simp,fun h=>absurd rfl h⟩
   .have H:¬c=n:=p;go_wp2;go_ret;refine⟨_,rfl,?_,⟨bb,oo+n,c - n,?_,?_,d.out⟩,cW _ _ _ _⟩
    .exact (IsBytes.take i.out (by omega)).set d.out
    .rw [heap_setCell_same w g 0 _ _ _ j.out];simp
    .have a:=(IsBytes.from n i.out (by omega) ⟨bb,oo+n,none⟩ (fun _=>rfl)).set (g:=g) (o:=0) (x:=.slice (some ⟨bb,oo+n,none⟩) (b.length - n) (c - n)) d.out;rw[List.length_drop];exact a
theorem vN (g:Nat) (s:Src) (w:World) (h:IsSrc w g s) :
  Calls Tryz.prog 161 #[.pointer (some ⟨g,0,none⟩)] w fun e w'=>e=.returned (.int .i64 ((cz s).2:Nat))/\IsSrc w' g (cz s).1/\w.grownBy w' (some g):=by
 have n:Hid _:=jU g s 1 w h;obtain⟨⟨F,t⟩,j⟩:∃q,bG s 1=q:=⟨_,rfl⟩;have p:(cz s).1=F:=by unfold cz;rw[j]
 have u:(cz s).2=(t.headD 0).toNat:=by unfold cz;rw[j]
 have k:t.length<=1:=by
  have b:=congrArg Prod.snd j;unfold bG at b;split at b
  .dsimp only at b;rw[<-b];simp
  .dsimp only at b;rw[<-b,List.length_take];omega
 rw[j]at n;rw[p,u];clear j p u h;go_enter Tryz.func161,Tryz.ntmps161;go_wp2_with fail;go_at_call 162;refine Calls.mono n.out ?_;rintro H G ⟨v,rfl,D,C,B⟩;have i:Hid _:=C;have d:Hid _:=B;obtain⟨a,c,rfl,I,J,K,z⟩:=D.get;clear C B n D
 cases t with
 | nil =>
  go_wp2;go_ret;exact⟨rfl,i.out,d.out⟩
 | cons x r =>
  obtain⟨bb,oo,rfl,A⟩:=z 0 (by simp);have L:G.cell? ⟨bb,oo,none⟩=some (.int .u8 x.toNat):=A 0 (by simp);have E:r=[]:=by
   cases r with
   | nil=>rfl
   | cons y r=>simp at k
  subst E;have o:Hid (wrap64 (x.toNat:Int)=(x.toNat:Int)):=IntWalk.wrap64_in _ (by have:=x.toNat_lt;omega);clear z A k;go_wp2;go_ret;exact⟨ET o.out,i.out,d.out⟩
theorem mF (g:Nat) (s:Src) (w:World) (h:IsSrc w g s) :
  Calls Tryz.prog 163 #[.pointer (some ⟨g,0,none⟩)] w fun e w'=>e=.returned (S8 (bA s).2)/\IsSrc w' g (bA s).1/\w.grownBy w' (some g):=by
 have i:Hid _:=jU g s 32 w h;obtain⟨⟨A,t⟩,c⟩:∃q,bG s 32=q:=⟨_,rfl⟩;have n:(bA s).1=A:=by unfold bA;rw[c]
 have o:(bA s).2=dt t:=by unfold bA;rw[c]
 have z:t.length<=32:=by
  have a:=congrArg Prod.snd c;unfold bG at a;split at a
  .dsimp only at a;rw[<-a];simp
  .dsimp only at a;rw[<-a,List.length_take];omega
 rw[c]at i;rw[n,o];clear c n o h;go_enter Tryz.func163,Tryz.ntmps163;go_wp2_with fail;go_at_call 162;refine Calls.mono i.out ?_;rintro y B ⟨v,rfl,u,r,p⟩;have k:Hid _:=r;have j:Hid _:=p;have x:Hid _:=u;clear r p i u;go_wp2_with fail;go_at_call 125;refine(vz v t B x.out (by omega)).mono ?_;rintro y C ⟨rfl,d⟩;have b:Hid _:=d;clear d;go_wp2;go_ret;exact⟨rfl,IsSrc.ext k.out b.out,j.out.trans ((Ext.grown b.out).but _)⟩
theorem jS (g:Nat) (s:Src) (w:World) (h:IsSrc w g s) :
  Calls Tryz.prog 160 #[.pointer (some ⟨g,0,none⟩)] w fun e w'=>e=.returned (.int .i64 ((bl false s).2:Nat))/\IsSrc w' g (bl false s).1/\w.grownBy w' (some g):=by
 obtain⟨bb,oo,c,o,E,y⟩:=id h;have M:Hid (IsSrc w g s):=h;obtain⟨S,O⟩:=kV o;have F:=BG _ s.b w E;obtain⟨⟨n,en,A⟩,i⟩:∃q,gg s.b=q:=⟨_,rfl⟩;have j:bl false s=if A≠0 then(⟨s.b,true⟩,0)else((bG s en).1,n):=by
  unfold bl;rw[i];simp
 rw[i]at F;obtain⟨⟨J,r⟩,H⟩:∃q,bl false s=q:=⟨_,rfl⟩;rw[H]at j ⊢;have u:Hid _:=j;have G:Hid _:=F;have L:Hid _:=o;have K:Hid _:=E;have t:Hid _:=y;clear o E y F i j H h;go_enter Tryz.func160,Tryz.ntmps160;go_wp2_with fail;go_at_call 173;refine Calls.mono G.out ?_;rintro Q B ⟨rfl,k⟩;have b:Hid (Ext w B):=k;have p:Hid _:=Ext.row k L.out;have R:B.frozen? ⟨g,1,none⟩=false:=by simp[World.frozen?,p.out]
 have P:=b.out.cell O;clear k G
 try dsimp only
 by_cases a:A=0
 .have x:(A==0)=true:=by simpa using a
  obtain⟨z,rfl⟩:J=(bG s en).1/\r=n:=by
   have d:=u.out;rw[if_neg (by simpa using a)]at d;exact⟨(Prod.mk.inj d).1,(Prod.mk.inj d).2⟩
  have D:Hid _:=z;clear a z;go_wp2_with fail;go_at_call 162;refine(jU g s en B (IsSrc.ext M.out b.out)).mono ?_;rintro Q T ⟨v,rfl,-,I,o⟩;have N:Hid _:=I;have C:Hid _:=o;clear I o;go_wp2;go_ret;exact⟨rfl,by rw[D.out];exact N.out,((Ext.grown b.out).but _).trans C.out⟩
 .have x:(A==0)=false:=by simpa using a
  obtain⟨rfl,rfl⟩:J=⟨s.b,true⟩/\r=0:=by
   have d:=u.out;rw[if_pos a]at d;exact⟨(Prod.mk.inj d).1,(Prod.mk.inj d).2⟩
  clear a;go_wp2;go_ret;refine⟨rfl,⟨bb,oo,c,?_,IsBytes.set (IsBytes.ext K.out b.out) t.out,t.out⟩,((Ext.grown b.out).but _).trans (cW _ _ _ _)⟩;rw[heap_setCell_same B g 1 _ _ _ p.out];simp
end
end Go.Proofs.YtgfegpnmlkdjfaaGreatDoor
