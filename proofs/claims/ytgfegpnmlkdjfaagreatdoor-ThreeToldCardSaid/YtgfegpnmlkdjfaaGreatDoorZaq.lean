/- Contracts of the program's functions and plain laws behind the card. Conditions: as each theorem states. -/
import Derived.Test.YtgfegpnmlkdjfaaGreatDoorZap
import Derived.Test.YtgfegpnmlkdjfaaGreatDoorZam
import Derived.Test.YtgfegpnmlkdjfaaGreatDoorZak
import Derived.Test.YtgfegpnmlkdjfaaGreatDoorZag
import Derived.Test.YtgfegpnmlkdjfaaGreatDoorShelf
import Derived.Deep.Upon
import Derived.Test.YtgfegpnmlkdjfaaGreatDoorZae
import Derived.Test.YtgfegpnmlkdjfaaGreatDoorZai
set_option linter.unusedVariables false
set_option linter.unusedSimpArgs false
set_option linter.unusedSectionVars false
set_option maxRecDepth 100000
set_option maxHeartbeats 64000000
namespace Go.Proofs.YtgfegpnmlkdjfaaGreatDoor
section
open Go Go.RowKit
def AB (l:List Rw) (p:B8):List Rw:=l.filter fun r=>!(r.path==p)
def oE (l:List Rw) (p:B8) (e:Int×B8):List Rw:=AB l p++(if e.1=0 then[]else[⟨p,e.1,e.2⟩])
def cK (l:List Rw):Prop:=l.Pairwise fun a b=>ltB a.path b.path=true
def wA (l:List Rw) (p:B8) (e:Int×B8) (s:List Rw):Prop:=(∀x,x∈s↔x∈oE l p e)/\s.length=(oE l p e).length/\cK s
variable {l:List Rw} {p:B8} {x:Rw}
theorem tN:x∈AB l p↔x∈l/\x.path≠p:=by
 unfold AB;rw[List.mem_filter];simp
variable {e:Int×B8}
theorem ll:x∈oE l p e↔(x∈l/\x.path≠p)\/(e.1≠0/\x=⟨p,e.1,e.2⟩):=by
 unfold oE;rw[List.mem_append,tN]
 by_cases h:e.1=0
 iterate 2
  .simp [h]
theorem Bq (h:cK l):∀ {x y:Rw},x∈l->y∈l->x.path=y.path->x=y:=by
 induction l with
 | nil=>intro x y e;cases e
 | cons r l i =>
  have d:=List.pairwise_cons.1 h;intro x y e g c;rcases List.mem_cons.1 e with b | b
  .rcases List.mem_cons.1 g with a | a
   .rw [b,a]
   .rw [b]at c;exact(fp (d.1 _ a) c).elim
  .rcases List.mem_cons.1 g with a | a
   .rw [a]at c;exact(fp (d.1 _ b) c.symm).elim
   .exact i d.2 b a c
theorem mB:∀ {a b:List Rw},cK a->cK b->(∀x,x∈a↔x∈b)->a=b
 | [],[],_,_,_=>rfl
 | [],y::b,_,_,h=>by have:=(h y).2 (by simp);cases this
 | x::a,[],_,_,h=>by have:=(h x).1 (by simp);cases this
 | x::a,y::b,t,w,h=>by
  have c:=List.pairwise_cons.1 t;have d:=List.pairwise_cons.1 w;have o:∀ {u v:B8},ltB u v=true->ltB v u=true->False:=fun i g=>by rw[CC i]at g;cases g
  have q:x=y:=by
   rcases List.mem_cons.1 ((h x).1 (by simp))with i | i
   .exact i
   .rcases List.mem_cons.1 ((h y).2 (by simp))with g | g
    .exact g.symm
    .exact (o (c.1 _ g) (d.1 _ i)).elim
  subst q;rw[mB c.2 d.2 (fun z=>by
   have r:=h z;simp only[List.mem_cons]at r;constructor
   .intro j;rcases r.1 (.inr j)with e | n
    .subst e;exact(fp (c.1 _ j) rfl).elim
    .exact n
   .intro k;rcases r.2 (.inr k)with e | n
    .subst e;exact(fp (d.1 _ k) rfl).elim
    .exact n)]
theorem g8 (h:cK l) (b:x∈l):aj l x.path=(x.mode,x.id):=by
 unfold aj
 cases a:l.find? (fun r=>r.path==x.path)with
 | none=>exact((by simpa using List.find?_eq_none.1 a x b):False).elim
 | some r =>
  have c:r.path=x.path:=by simpa using List.find?_some a
  have d:=Bq h (List.mem_of_find?_eq_some a) b c;rw[d]
theorem eK (h:∀x∈l,x.path≠p):aj l p=(0,[]):=by
 unfold aj;rw[List.find?_eq_none.2 (fun r a=>by simpa using h r a)]
theorem gN (h:cK l) (p:B8):(∃x∈l,x.path=p/\aj l p=(x.mode,x.id))\/((∀x∈l,x.path≠p)/\aj l p=(0,[])):=by
 by_cases c:∃x∈l,x.path=p
 .obtain ⟨x,a,rfl⟩:=c;exact .inl ⟨x,a,rfl,g8 h a⟩
 .have a:∀x∈l,x.path≠p:=fun x b d=>c ⟨x,b,d⟩
  exact .inr ⟨a,eK a⟩
variable {s:List Rw}
theorem C' (b:wA l p e s):aj s p=if e.1=0 then(0,[])else e:=by
 by_cases h:e.1=0
 .rw [if_pos h];refine eK fun x d c=>?_
  rcases ll.1 ((b.1 x).1 d)with a | a
  .exact a.2 c
  .exact a.1 h
 .rw [if_neg h];exact g8 b.2.2 (x:=⟨p,e.1,e.2⟩) ((b.1 _).2 (ll.2 (.inr ⟨h,rfl⟩)))
theorem zG {q:B8} (j:cK l) (g:wA l p e s) (i:q≠p):aj s q=aj l q:=by
 rcases gN j q with⟨x,c,b,a⟩ | ⟨c,b⟩
 .have h:x∈s:=(g.1 x).2 (ll.2 (.inl ⟨c,by rw[b];exact i⟩));rw[a,<-b];exact g8 g.2.2 h
 .rw [b];refine eK fun x h d=>?_
  rcases ll.1 ((g.1 x).1 h)with a | a
  .exact c x a.1 d
  .rw [a.2]at d;exact i d.symm
end
section
open Go Go.RowKit
structure Tru (m:Fs) (ix:ae):Prop where
 ca:Ca m
 ix:∀p k,ax ix p=some k->k.time<=m.time/\∀f,ax m.now (et++p)=some f->f.time=k.time->k.data=mZ f.data
 tw:∀p f,ax m.now (et++p)=some f->f.time<=m.time
structure Gy (m:Fs) (pats:List B8) (rows:List Rw):Prop where
 eq:rows=(Em pats ((aX m.now).filter (aD wP))).map (E1 m.now)
 has:∀r∈rows,wy m.now r.id/\∃d,r.id=mZ d
theorem Tru.new {m:Fs} {b:ae} (h:Tru m b):Tru m []:=⟨h.ca,(fun p k a=>by cases a),h.tw⟩
end
section
open Go Go.RowKit Go.Sort Go.Lib
theorem mM (w:World) (a b:Array Value) (s t:TypeId):(w.alloc (.cells a s)).alloc (.cells b t)=grow w #[.cells a s,.cells b t]:=by
 unfold grow World.alloc;have h:∀(x:Array Obj) (p q:Obj),(x.push p).push q=x++#[p,q]:=fun x p q=>by rw[Array.push_eq_append,Array.push_eq_append,Array.append_assoc];rfl
 rw[h]
def nmB (b:Bool):B8:=if b then[97]else[]
def GC (b:Bool):Value:=S8 (nmB b)
def GK (x y:Bool):Int:=((nmB y).length:Int) - ((nmB x).length:Int)
end
section
open Go Go.RowKit
structure UJ (w0:World) (s:B8) (D:List B8) (z7 z11:Option Value) (w:World):Prop where
 ext:Ext w0 w
 I2:z11≠none->z7≠none
 f7:z11=none->∀v,z7=some v->w.ownsRow w0.heap.size 9 1 v 1 [S8 s]
 f11:∀v,z11=some v->w.ownsRow w0.heap.size 9 1 v (1+D.length) ([S8 s]++D.map S8)
section
variable {w0 w w':World} {s:B8} {D:List B8} {z7 z11:Option Value}
theorem UJ.more (h:UJ w0 s D z7 z11 w) (b:Ext w w'):UJ w0 s D z7 z11 w' :=
 ⟨h.ext.trans b,h.I2,fun c v a=>az (h.f7 c v a) b,fun v a=>az (h.f11 v a) b⟩
theorem UJ.start (b:Ext w0 w):UJ w0 s D none none w:=⟨b,fun h=>absurd rfl h,fun _ v a=>(by cases a),fun v a=>(by cases a)⟩
end
end
section
open Go Go.RowKit Go.Sort
structure ED (zs:List B8) (m:Nat):Prop where
 G2:dR (Lib.compactUpTo zs.toArray m)
 mem:∀x,x∈Lib.compactUpTo zs.toArray m↔x∈zs.take m
 last:0<m->(Lib.compactUpTo zs.toArray m).getLast? = some (zs.getD (m - 1) [])
variable {zs:List B8} {m:Nat}
theorem wN (h:m<zs.length):zs.toArray[m]! = zs.getD m []:=by
 rw[getElem!_pos zs.toArray m (by simpa using h),List.getD_eq_getElem?_getD,List.getElem?_eq_getElem h];rfl
theorem Dm (b:upL zs) (h:m+1<zs.length):leT (zs.getD m []) (zs.getD (m+1) [])=true:=by
 have a:=List.pairwise_iff_getElem.1 b m (m+1) (by omega) h (by omega);rw[List.getD_eq_getElem?_getD,List.getD_eq_getElem?_getD,List.getElem?_eq_getElem h,List.getElem?_eq_getElem (by omega:m<zs.length)];exact a
theorem zE {c:List B8} {z x:B8} (g:dR c) (j:c.getLast? = some z) (h:ltB z x=true):dR (c++[x]):=by
 obtain⟨d,rfl⟩:=List.getLast?_eq_some_iff.1 j;refine List.pairwise_append.2 ⟨g,List.pairwise_singleton _ _,fun a e b i=>?_⟩;rw[List.mem_singleton.1 i];rcases List.mem_append.1 e with e | e
 .exact fB ((List.pairwise_append.1 g).2.2 a e z (by simp)) h
 .rw [List.mem_singleton.1 e];exact h
theorem yu {zs:List B8} (o:upL zs):∀m,m<=zs.length->ED zs m
 | 0,_=>⟨List.Pairwise.nil,fun x=>by simp[Lib.compactUpTo],fun h=>by omega⟩
 | m+1,h=>by
  have c:=yu o m (by omega);have r:zs[m]? = some (zs.getD m []):=by rw[List.getD_eq_getElem?_getD,List.getElem?_eq_getElem (by omega:m<zs.length)];rfl
  have e:zs.take (m+1)=zs.take m++[zs.getD m []]:=by rw[List.take_add_one,r];rfl
  have i:=wN (zs:=zs) (m:=m) (by omega);have a:=Lib.compactUpTo_succ zs.toArray m
  cases b:Lib.keeps zs.toArray m with
  | true =>
   rw[b,if_pos rfl,i]at a;refine⟨?_,fun x=>?_,fun _=>?_⟩
   .rw [a]
    cases m with
    | zero=>exact List.pairwise_singleton _ _
    | succ q =>
     have d:=c.last (by omega);refine zE c.G2 d ?_;have j:=Dm o (m:=q) (by omega);rw[show q+1 - 1=q by omega];unfold Lib.keeps at b;rw[i,show q+1 - 1=q by omega,wN (by omega:q<zs.length)]at b;have l:zs.getD (q+1) []≠zs.getD q []:=by simpa using b
     cases k:ltB (zs.getD q []) (zs.getD (q+1) [])with
     | true=>rfl
     | false=>exact(l (jE (by unfold leT;rw[k];rfl) j)).elim
   .rw [a,e,List.mem_append,List.mem_append,c.mem]
   .rw [a];simp
  | false =>
   rw[b,if_neg (by simp),List.append_nil]at a;have p:m≠0:=by
    rintro rfl;simp[Lib.keeps]at b
   obtain⟨q,rfl⟩:∃q,m=q+1:=⟨m - 1,by omega⟩;unfold Lib.keeps at b;rw[i,show q+1 - 1=q by omega,wN (by omega:q<zs.length)]at b;have n:zs.getD (q+1) []=zs.getD q []:=by simpa using b
   have d:=c.last (by omega);rw[show q+1 - 1=q by omega]at d;refine⟨by rw[a];exact c.G2,fun x=>?_,fun _=>?_⟩
   .rw [a,e,List.mem_append,List.mem_singleton,n];constructor
    .intro g;exact .inl ((c.mem x).1 g)
    .rintro (g | rfl)
     .exact (c.mem x).2 g
     .exact List.mem_of_getLast? d
   .rw [a,show q+1+1 - 1=q+1 by omega,n];exact d
theorem Cf (l:List B8):Lib.compact (bB l)=bj l:=by
 have h:=yu (ik l) (bB l).length (Nat.le_refl _);refine oM h.G2 (fun x=>?_);have a:=h.mem x;rw[List.take_length]at a;exact a.trans (dy l).mem_iff
theorem DG (zs:List B8):(Lib.compact zs).length<=zs.length:=by
 unfold Lib.compact Lib.compactUpTo;rw[List.length_map];exact Nat.le_trans (List.length_filter_le _ _) (by simp)
variable {w:World} {base:Nat}
theorem Bg {e:TypeId} {g a n k:Nat} {xs:List Value} (h:w.ownsRow base e 1 (.slice (some ⟨g,0,none⟩) n a) n xs) (q:k<=n):w.ownsRow base e 1 (.slice (some ⟨g,0,none⟩) k a) k (xs.take k):=by
 obtain⟨r,⟨c,_⟩ | ⟨t,d,b,c,o,p,u,i,j,l⟩⟩:=h
 .cases c
 .cases c;refine⟨by rw[List.length_take,r];omega,.inr ⟨g,a,b,rfl,o,p,by omega,i,j,?_⟩⟩
  rw[Nat.mul_one,<-l,Nat.mul_one,List.take_take,Nat.min_eq_left q]
theorem qY (w:World):grow w #[]=w:=by
 unfold grow;simp
variable {v:Value}
theorem uC (b:w.ownsRow base 9 1 v zs.length (zs.map S8)) (E:zs.length<=10000000) :
  Calls Tryz.prog 60 #[v] w fun e d=>(∃u,e=.returned u/\d.ownsRow base 9 1 u (Lib.compact zs).length ((Lib.compact zs).map S8))/\w.grownBy d v.ownBlock:=by
 rcases b.2 with⟨rfl,y⟩ | ⟨g,h,x,rfl,a,t,l,z,A,B⟩
 .have D:zs=[]:=List.eq_nil_of_length_eq_zero (by simpa using y);subst D;exact(Tryz.slices_Compact_string_empty none 0 w).mono fun e d ⟨j,c⟩=>⟨⟨_,j,by rw[c];exact World.ownsRow_nil _ _ _ _⟩,by rw[c];exact⟨rfl,rfl,rfl,Nat.le_refl _,fun _ _ _=>rfl⟩⟩
 .refine (Tryz.slices_Compact_string g 0 h zs w (holds_of_block t (by simpa using B)) (by omega) l).mono ?_;rintro e d ⟨j,q,c⟩;have i:=DG zs;have k:(Lib.compact zs++List.replicate (zs.length - (Lib.compact zs).length) []).length=zs.length:=by simp;omega
  have r:=ownsRow_sorted (w:=w) (n:=q) (os:=#[]) (ss:=zs) (ts:=Lib.compact zs++List.replicate (zs.length - (Lib.compact zs).length) []) k a t l z A;rw[qY]at r;have p:=grownBy_sorted (w:=w) (g:=g) (n:=q) (os:=#[]) (Lib.compact zs++List.replicate (zs.length - (Lib.compact zs).length) []).toArray;rw[qY]at p;refine⟨⟨_,j,?_⟩,by rw[c];exact p⟩;rw[c];have o:=Bg r i;have C:((Lib.compact zs++List.replicate (zs.length - (Lib.compact zs).length) []).map encStr).take (Lib.compact zs).length=(Lib.compact zs).map S8:=by
   rw[List.map_append];exact List.take_left' (by simp)
  rw[C]at o;exact o
variable {l:List B8}
theorem oU (t:IsStrs w v l) (y:l.length<=10000000) :
  Calls Tryz.prog 80 #[v] w fun e g=>(∃i,e=.returned i/\g.ownsRow w.heap.size 9 1 i l.length (l.map S8))/\Ext w g:=by
 obtain⟨a,c,rfl,z,A,B,r⟩:=t.get
 cases l with
 | nil =>
  cases a with
  | none=>exact(Tryz.slices_Clone_string_nil 0 c w).mono fun e g ⟨d,u⟩=>⟨⟨_,d,World.ownsRow_nil _ _ _ _⟩,by rw[u];exact Ext.refl _⟩
  | some p=>exact(Tryz.slices_Clone_string_zero p c w).mono fun e g ⟨i,d,h,_,k⟩=>⟨⟨_,d,h⟩,k⟩
 | cons x l =>
  obtain⟨b,o,rfl,q⟩:=r 0 (by simp);refine(Tryz.slices_Clone_string b o (x::l).length c ((x::l).map fun s=>(⟨s.toArray⟩:ByteArray)) w (by simp) (by omega) (fun j n=>?_)).mono fun e g ⟨i,d,h,_,k⟩=>⟨⟨_,d,?_⟩,k⟩
  .rw [List.length_map]at n;rw[q j n,List.getD_eq_getElem?_getD,List.getD_eq_getElem?_getD,List.getElem?_map,List.getElem?_eq_getElem n];rfl
  .rw [List.take_of_length_le (by simp),List.map_map]at h;exact h
theorem mR:∀(N:Nat) (v:Value) (l:List B8) (w:World),l.length<=N->IsStrs w v l->l.length<=1000000 ->
  Calls Tryz.prog 52 #[v] w fun e n=>(∃X,e=.returned X/\n.ownsRow w.heap.size 9 1 X l.length ((bB l).map S8))/\Ext w n:=by
 intro N
 induction N with
 | zero =>
  intro v l w U t hl;have P:l.length=0:=by omega
  obtain⟨a,c,rfl,l1,l2,l3,-⟩:=t.get;have A:Hid (IsStrs w (.slice a l.length c) l):=t;have I:Hid (bB l=l):=pP (by omega);have D:(l.length:Int)<2:=by omega
  clear t P U;go_enter Tryz.func52,Tryz.ntmps52;go_wp2_with fail;go_at_call 80;refine(oU A.out (by omega)).mono ?_;rintro e w1 ⟨⟨v1,rfl,g⟩,i⟩;have z:Hid _:=g;have B:Hid _:=i;clear g i;go_wp2;go_ret;exact⟨⟨_,rfl,by rw[I.out];exact z.out⟩,B.out⟩
 | succ N V =>
  intro v l w U t hl;obtain⟨a,c,rfl,l1,l2,l3,E⟩:=t.get;have x:Hid _:=E;have A:Hid (IsStrs w (.slice a l.length c) l):=t;have S:Hid _:=V;clear t V E;go_enter Tryz.func52,Tryz.ntmps52
  by_cases Z:l.length<2
  .have D:(l.length:Int)<2:=by omega
   have I:Hid (bB l=l):=pP Z;go_wp2_with fail;go_at_call 80;refine(oU A.out (by omega)).mono ?_;rintro e w1 ⟨⟨v1,rfl,g⟩,i⟩;have z:Hid _:=g;have B:Hid _:=i;clear g i;go_wp2;go_ret;exact⟨⟨_,rfl,by rw[I.out];exact z.out⟩,B.out⟩
  .have D:¬(l.length:Int)<2:=by omega
   obtain⟨k,d⟩:∃k,l.length / 2=k:=⟨_,rfl⟩;have q:(l.length:Int) / 2=(k:Int):=by omega
   have aa:Int.tdiv (l.length:Int) 2=(k:Int):=by rw[Int.tdiv_eq_ediv_of_nonneg (by omega)];exact q
   have ab:0<k/\k<l.length:=by omega
   obtain⟨C,G,rfl,-⟩:=x.out 0 (by omega);have ag:k<=c:=by omega
   have ad:k<=l.length:=by omega
   have y:Hid ((bB (l.take k)).length+(bB (l.drop k)).length=l.length):=by unfold Hid;rw[di,di,List.length_take,List.length_drop];omega
   have J:Hid (bB (bB (l.take k)++bB (l.drop k))=bB l):=uS l k;have K:Hid (IsStrs w (.slice (some ⟨C,G,none⟩) k c) (l.take k)):=IsStrs.head k A.out (by omega);have L:Hid (IsStrs w (.slice (if c=k then some ⟨C,G,none⟩else some ⟨C,G+k,none⟩) (l.length - k) (c - k)) (l.drop k)):=IsStrs.tail k A.out (by omega) (if c=k then some ⟨C,G,none⟩else some ⟨C,G+k,none⟩) (fun h=>by cases h) (fun h b o e=>by rw[if_neg h];cases e;rfl);clear x;go_upto_region 4 with fail;apply ak 9 [_,_,_,undef,_,_,_,undef,undef] [none,none,none,some (fun u n=>IsStrs n u (bB (l.take k))),none,none,none,some (fun u n=>IsStrs n u (bB (l.drop k))),some (fun u n=>n.ownsRow w.heap.size 9 1 u l.length ((bB l).map S8))] [[],[],[0,1],[2],[],[],[4,5],[6],[3,7]] (by kernel_rfl) (by kernel_rfl) (by simp[aq])
   .refine ⟨?_,?_,?_,trivial⟩
    iterate 2
     .exact fun _ _ _ M Q=>Q.ext M
    .exact fun _ _ _ M Q=>az Q M
   .simp (maxSteps:=1000000)only[List.take_succ_cons,List.take_zero,ay,aB,af,Act.put,List.setIfInBounds_toArray,List.set_cons_zero,List.set_cons_succ,aE,aH,aq,List.getD_cons_zero,List.getD_cons_succ,and_true,true_and,forall_const];and_intros
    iterate 3 · intro p H r;intros;rename_i j;go_simp;exact j _ _ (Ext.refl _) rfl
    .intro p H r d R j;go_simp;exact(S.out _ _ _ (by rw[List.length_take];omega) (IsStrs.ext K.out r) (by rw[List.length_take];omega)).mono (by rintro T Y ⟨⟨v,rfl,g⟩,i⟩;exact⟨_,rfl,j _ _ i (pT g (by rw[di]) (by rw[List.length_take];omega))⟩)
    iterate 3 · intro p H r;intros;rename_i j;go_simp;exact j _ _ (Ext.refl _) rfl
    .intro p H r d R j;go_simp;exact(S.out _ _ _ (by rw[List.length_drop];omega) (IsStrs.ext L.out r) (by rw[List.length_drop];omega)).mono (by rintro T Y ⟨⟨v,rfl,g⟩,i⟩;exact⟨_,rfl,j _ _ i (pT g (by rw[di]) (by rw[List.length_drop];omega))⟩)
    .intro p H r d R j;obtain⟨O,q⟩:=d;go_simp;exact(xQ _ _ _ _ _ O q (ik _) (ik _) (by rw[y.out];omega)).mono (by rw[y.out,J.out];rintro T Y ⟨⟨v,rfl,g⟩,i⟩;exact⟨_,rfl,j _ _ i (World.ownsRow.mono g r.size)⟩)
   intro p w2 F d;simp only[aG,Nat.zero_add,Nat.reduceAdd,and_true]at d;have q3:=d.2.2.2.1;have q7:=d.2.2.2.2.2.2.2.1;have W:=d.2.2.2.2.2.2.2.2;simp(maxSteps:=1000000)only[List.take_succ_cons,List.take_zero,List.drop_succ_cons,List.drop_zero,af,Act.put,List.setIfInBounds_toArray,List.set_cons_zero,List.set_cons_succ,Nat.zero_add,Nat.reduceAdd,d];clear d;generalize p 3=x3 at *;generalize p 7=x7 at *;generalize p 8=x8 at *;have z:Hid _:=W;have B:Hid _:=F;clear F W;go_wp2;go_ret;exact⟨⟨_,rfl,z.out⟩,B.out⟩
theorem Af (h:IsStrs w v l) (z:l.length<=1000000) :
  Calls Tryz.prog 38 #[v] w fun e r=>(∃p,e=.returned p/\r.ownsRow w.heap.size 9 1 p (bj l).length ((bj l).map S8))/\Ext w r:=by
 obtain⟨a,y,rfl,D,E,F,-⟩:=h.get;have j:Hid _:=mR l.length _ l w (Nat.le_refl _) h z;have x:Hid (Lib.compact (bB l)=bj l):=Cf l;clear h;go_enter Tryz.func38,Tryz.ntmps38;go_wp2_with fail;go_at_call 52;refine Calls.mono j.out ?_;rintro e t ⟨⟨B,rfl,g⟩,o⟩;have i:Hid _:=uC (by rw[di];exact g) (by rw[di];omega);have k:Hid (Ext w t):=o;have u:Hid (t.ownsRow w.heap.size 9 1 B l.length ((bB l).map S8)):=g;clear g o j;go_wp2_with fail;go_at_call 60;refine Calls.mono i.out ?_;rw[x.out];rintro e C ⟨⟨G,rfl,b⟩,n⟩;have d:Hid (Ext w C):=Below.grown k.out n k.out.size (fun q A=>(World.ownsRow.lt u.out q A).1);have c:Hid _:=b;clear b n i;go_wp2;go_ret;exact⟨⟨_,rfl,c.out⟩,d.out⟩
end
section
open Go Go.RowKit
theorem wE (h:List UInt32) (l p:B8):aT h (l++p)=aT (aT h l).1 ((aT h l).2++p):=by
 fun_induction aT h l with
 | case1 h l a b =>
  rw[aT,if_pos (by rw[List.length_append];omega),List.take_append_of_le_length a,List.drop_append_of_le_length a];exact b
 | case2 h l a=>rfl
theorem Dd (l:B8):gB l=(aT dj (l++iT l.length)).1.flatMap ex:=by
 exact congrArg (fun x=>x.1.flatMap ex) (wE dj l _).symm
theorem CO (n:Nat):(n+(iT n).length)%64=0:=by
 unfold iT;rw[List.length_cons,List.length_append,List.length_replicate,show(be8 (8*n)).length=8 from rfl];unfold cY;omega
variable {l:B8} {at':Nat}
theorem ux {h:List UInt32} (a:at'+64<=l.length):aT h (l.drop at')=aT (fj h ((l.drop at').take 64)) (l.drop (at'+64)):=by
 rw[aT,if_pos (by rw[List.length_drop];omega),List.drop_drop]
theorem wF (h:List UInt32) (a:l.length<=at'):aT h (l.drop at')=(h,[]):=by
 rw[List.drop_eq_nil_of_le a,aT,if_neg (by simp)]
def PreW (W c:List UInt32) (i:Nat):Prop:=c.length=64/\∀j,j<i->c.getD j 0=W.getD j 0
variable {W c:List UInt32}
theorem PreW.set {i:Nat} (h:PreW W c i) (b:i<64):PreW W (c.set i (W.getD i 0)) (i+1):=by
 refine⟨by rw[List.length_set];exact h.1,fun j d=>?_⟩;rw[List.getD_eq_getElem?_getD,List.getElem?_set]
 by_cases a:i=j
 .rw [if_pos a,if_pos (by rw[h.1];exact b),a];rfl
 .rw [if_neg a,<-List.getD_eq_getElem?_getD];exact h.2 j (by omega)
theorem PreW.all (h:PreW W c 64) (d:W.length=64):c=W:=by
 refine List.ext_getElem (by rw[h.1,d]) (fun j a b=>?_);have:=h.2 j (by rw[h.1]at a;exact a);rw[List.getD_eq_getElem?_getD,List.getD_eq_getElem?_getD,List.getElem?_eq_getElem a,List.getElem?_eq_getElem b]at this;exact this
theorem jR (b:B8) {n j:Nat}:∀(d:Nat),n=j+1+d->(aQ b n).getD j 0=if j<16 then be4 b j else kt (aQ b j) j
 | 0,h=>by
  subst h;show(aQ b j++[_]).getD j 0=_;rw[List.getD_eq_getElem?_getD,List.getElem?_append_right (by rw[ee];omega),ee];simp
 | d+1,h=>by
  subst h;have a:=jR b (n:=j+1+d) (j:=j) d rfl;show(aQ b (j+1+d)++[_]).getD j 0=_;rw[List.getD_eq_getElem?_getD,List.getElem?_append_left (by rw[ee];omega),<-List.getD_eq_getElem?_getD];exact a
variable {j:Nat}
theorem je (b:B8) {n m:Nat} (a:j<n) (c:j<m):(aQ b n).getD j 0=(aQ b m).getD j 0:=by
 rw[jR b (n:=n) (j:=j) (n - j - 1) (by omega),jR b (n:=m) (j:=j) (m - j - 1) (by omega)]
theorem Bv (b:B8) (h:j<16):(aQ b 64).getD j 0=be4 b j:=by
 rw[jR b (n:=64) (j:=j) (64 - j - 1) (by omega),if_pos h]
theorem Bu (b:B8) (h:16<=j) (a:j<64):(aQ b 64).getD j 0=kt (aQ b 64) j:=by
 rw[jR b (n:=64) (j:=j) (64 - j - 1) (by omega),if_neg (by omega)];unfold kt;rw[je b (n:=j) (m:=64) (j:=j - 16) (by omega) (by omega),je b (n:=j) (m:=64) (j:=j - 15) (by omega) (by omega),je b (n:=j) (m:=64) (j:=j - 7) (by omega) (by omega),je b (n:=j) (m:=64) (j:=j - 2) (by omega) (by omega)]
theorem eC (x:UInt32) (n s:Nat) (w:World) (c:0<s) (a:s<32) (h:n+s=32) :
  Calls Tryz.prog 64 #[U32 x,.int .i64 (n:Int)] w fun e d=>e=.returned (U32 (bg x (UInt32.ofNat s)))/\∃q,d=w.drewN q:=by
 obtain rfl:n=32 - s:=by omega
 have g:(0:Int)<=((32 - s:Nat):Int):=by omega
 have i:((32 - s:Nat):Int)<=32:=by omega
 have j:IntKind.i64.wrap (32 - ((32 - s:Nat):Int))=(s:Int):=by rw[IntWalk.i64_in _ (by omega)];omega
 have k:(0:Int)<=(s:Int):=by omega
 have l:(s:Int)<=32:=by omega
 have b:Hid (Value.int IntKind.u32 (bits BinOp.or IntKind.u32 (↑x.toNat / 2 ^ (32 - s)) (↑x.toNat*2 ^ s%4294967296))=U32 (bg x (UInt32.ofNat s))):=by
  unfold Hid bg;rw[pN x s a,iB x (32 - s) (by omega),lN,zK s a,UInt32.or_comm]
 clear h;go_enter Tryz.func64,Tryz.ntmps64;go_wp2_with fail;go_quiet (fail);go_wp2;go_ret;exact⟨congrArg Ending.returned b.out,_,rfl⟩
theorem Fb (x:UInt32) (w:World):Calls Tryz.prog 64 #[U32 x,.int .i64 7] w fun e a=>e=.returned (U32 (bg x 25))/\∃q,a=w.drewN q:=eC x 7 25 w (by decide) (by decide) rfl
theorem Es (x:UInt32) (w:World):Calls Tryz.prog 64 #[U32 x,.int .i64 18] w fun e a=>e=.returned (U32 (bg x 14))/\∃q,a=w.drewN q:=eC x 18 14 w (by decide) (by decide) rfl
theorem Er (x:UInt32) (w:World):Calls Tryz.prog 64 #[U32 x,.int .i64 17] w fun e a=>e=.returned (U32 (bg x 15))/\∃q,a=w.drewN q:=eC x 17 15 w (by decide) (by decide) rfl
theorem Et (x:UInt32) (w:World):Calls Tryz.prog 64 #[U32 x,.int .i64 19] w fun e a=>e=.returned (U32 (bg x 13))/\∃q,a=w.drewN q:=eC x 19 13 w (by decide) (by decide) rfl
theorem Fa (x:UInt32) (w:World):Calls Tryz.prog 64 #[U32 x,.int .i64 6] w fun e a=>e=.returned (U32 (bg x 26))/\∃q,a=w.drewN q:=eC x 6 26 w (by decide) (by decide) rfl
theorem Eo (x:UInt32) (w:World):Calls Tryz.prog 64 #[U32 x,.int .i64 11] w fun e a=>e=.returned (U32 (bg x 21))/\∃q,a=w.drewN q:=eC x 11 21 w (by decide) (by decide) rfl
theorem Ew (x:UInt32) (w:World):Calls Tryz.prog 64 #[U32 x,.int .i64 25] w fun e a=>e=.returned (U32 (bg x 7))/\∃q,a=w.drewN q:=eC x 25 7 w (by decide) (by decide) rfl
theorem E' (x:UInt32) (w:World):Calls Tryz.prog 64 #[U32 x,.int .i64 2] w fun e a=>e=.returned (U32 (bg x 30))/\∃q,a=w.drewN q:=eC x 2 30 w (by decide) (by decide) rfl
theorem Ep (x:UInt32) (w:World):Calls Tryz.prog 64 #[U32 x,.int .i64 13] w fun e a=>e=.returned (U32 (bg x 19))/\∃q,a=w.drewN q:=eC x 13 19 w (by decide) (by decide) rfl
theorem Eu (x:UInt32) (w:World):Calls Tryz.prog 64 #[U32 x,.int .i64 22] w fun e a=>e=.returned (U32 (bg x 10))/\∃q,a=w.drewN q:=eC x 22 10 w (by decide) (by decide) rfl
theorem rW (w:World) :
  Calls Tryz.prog 63 #[] w fun e a=>∃g,e=.returned (.slice (some ⟨g,0,none⟩) 64 64)/\a.heap[g]? = some (.cells (dT.map U32).toArray 100 (0,0))/\g=w.heap.size/\Ext w a/\a.heap.size=g+1:=by
 go_enter Tryz.func63,Tryz.ntmps63;go_wp2;go_ret;exact⟨_,rfl,ah _ _,rfl,(Ext.refl _).alloc _,Array.size_push ..⟩
end
end Go.Proofs.YtgfegpnmlkdjfaaGreatDoor
