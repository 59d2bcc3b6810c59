/- Contracts of the program's functions and plain laws behind the card. Conditions: as each theorem states. -/
import Derived.Test.YtgfegpnmlkdjfaaGreatDoorZbq
import Derived.Test.YtgfegpnmlkdjfaaGreatDoorZbr
import Derived.Test.YtgfegpnmlkdjfaaGreatDoorZav
set_option linter.unusedVariables false
set_option linter.unusedSimpArgs false
set_option linter.unusedSectionVars false
set_option maxRecDepth 100000
set_option maxHeartbeats 64000000
namespace Go.Proofs.YtgfegpnmlkdjfaaGreatDoor
section
open Go Go.RowKit Go.Sort
def jN:Except Int ((List Rw×List (B8×Int))×ae)->List Rw
 | .ok y=>y.1.1
 | .error _=>[]
def jM:Except Int ((List Rw×List (B8×Int))×ae)->List B8
 | .ok y=>fo y.2
 | .error _=>[]
def xH:Except Int ((List Rw×List (B8×Int))×ae)->List (B8×Int)
 | .ok y=>y.1.2
 | .error _=>[]
def lz:Except Int ((List Rw×List (B8×Int))×ae)->Int
 | .ok _=>0
 | .error k=>k
structure Fl (w:World) (e:Ending) (M:Except Int ((List Rw×List (B8×Int))×ae)) (N:List (B8×Int)):Prop where
 perm:N.Perm (xH M)
 up:UpN N
 get:∃(ra:Option Addr) (rc:Nat) (xa:Option Addr) (xc:Nat) (na:Option Addr) (nc:Nat),e=.returned (.tuple #[.slice ra (jN M).length rc,.slice xa (jM M).length xc,.slice na N.length nc,.int .i64 (lz M)]) /\
  IsRws w (.slice ra (jN M).length rc) (jN M)/\IsBss w (.slice xa (jM M).length xc) (jM M)/\Row w (.slice na N.length nc) N.length (N.flatMap ntC)
variable {w:World}
theorem jq {e:Ending} {M:Except Int ((List Rw×List (B8×Int))×ae)} (h:xW w e M):∃N,Fl w e M N:=by
 cases M with
 | error k =>
  exact⟨[],⟨List.Perm.refl _,List.Pairwise.nil,none,0,none,0,none,0,h,Row.nil _,⟨[],rfl,Row.nil _,fun k u b l=>by simp at l⟩,Row.nil _⟩⟩
 | ok y =>
  obtain⟨A,x,z,N,rfl,c,d,i,j,g⟩:=h;obtain⟨p,q,rfl,-⟩:=c.get;obtain⟨r,t,rfl,-⟩:=d.get;have a:=g;obtain⟨n,o,rfl,-⟩:=g;exact⟨N,⟨i,j,p,q,r,t,n,o,rfl,c,d,a⟩⟩
theorem qs {v:Value} {l:List B8} (h:IsBss w v l):l.length<=140737488355328:=by
 obtain⟨c,b,a,-⟩:=h;exact a.len
theorem A3 (a b:B8×Int) (w:World):(binOp .neq 36 (.agg #[S8 a.1,.int .i64 a.2]) (.agg #[S8 b.1,.int .i64 b.2])).run Tryz.prog w=.ok (.bool (a != b)) w:=by
 have j:Tryz.prog.underlying 36=some (.struct (Tryz.prog.fieldsOf 36)):=by kernel_rfl
 have n:Tryz.prog.stoodInHeld 36=false:=by kernel_rfl
 rw[run_neq_struct,show(10000:Nat)=9999+1 from rfl,run_equalIn_agg w 9999 36 _ _ j n];simp only[Program.fieldsOf,Tryz.underlying36];go_simp;obtain⟨c,e⟩:=a;obtain⟨d,g⟩:=b;have k:(⟨c.toArray⟩:ByteArray).toList=c:=Lib.toList_data _;have l:(⟨d.toArray⟩:ByteArray).toList=d:=Lib.toList_data _
 by_cases h:c=d <;> by_cases i:e=g <;> simp[h,i,k,l]
theorem jP {e:Option Addr} {r n:Nat} {N:List (B8×Int)} {k:Nat} {x:B8×Int} (h:Row w (.slice e n r) n (N.flatMap ntC)) (l:N[k]? = some x):∃b o,e=some ⟨b,o,none⟩/\w.cell? ⟨b,o+k*2,none⟩=some (S8 x.1)/\w.cell? ⟨b,o+k*2+1,none⟩=some (.int .i64 x.2):=by
 obtain⟨p,t,i,-,-,-,g⟩:=h;cases i;obtain⟨a,c⟩:=qy N k x l;rw[Nat.mul_comm 2 k]at a c;obtain⟨q,u,rfl,d⟩:=g (by intro j;rw[j]at a;simp at a);exact⟨q,u,rfl,d _ _ a,by have:=d _ _ c;rwa [<-Nat.add_assoc]at this⟩
end
section
open Go Go.RowKit Go.Sort
theorem uM (B:Value) (N:List (B8×Int)) (p:B8) (w:World) (G:Row w B N.length (N.flatMap ntC)) :
  Calls Tryz.prog 20 #[B,S8 p] w fun e I=>e=.returned (.bool (N.contains (p,3)))/\Ext w I:=by
 have H:Hid (Row w B N.length (N.flatMap ntC)):=G;obtain⟨R,S,rfl,O,P,Q,-⟩:=G;have V:=tl p;go_enter Tryz.func20,Tryz.ntmps20;go_wp2_with fail;go_loopw [5] (fun i wr=>∃k:Nat,k<=N.length/\i=.int .i64 k/\Hid ((p,(3:Int))∉N.take k)/\Hid (Ext w wr)) (fun i _=>N.length - (intOf i).toNat)
 case atStart=>exact⟨0,Nat.zero_le _,rfl,by show _∉_;simp,Ext.refl _⟩
 case round =>
 obtain⟨k,M,rfl,C,c⟩:=hrel
 by_cases y:k<N.length
 case neg =>
  have u:k=N.length:=by omega
  subst u;have o:Hid (N.contains (p,(3:Int))=false):=by
   have a:=C.out;rw[List.take_length]at a;unfold Hid;simpa using a
  go_wp2;go_ret;exact⟨by rw[o.out];rfl,c.out⟩
 obtain⟨⟨q,j⟩,A⟩:∃x,N[k]? = some x:=⟨_,List.getElem?_eq_getElem y⟩;obtain⟨L,T,rfl,D,E⟩:=jP H.out A;have J:=c.out.cell D;have K:=c.out.cell E;dsimp only at J K;have h:Hid _:=A;clear A D E;have U:=tl q;obtain⟨r,t⟩:∃r,(q==p)=r:=⟨_,rfl⟩;have d:Hid _:=t;have g:Hid ((q,j)≠(p,3)->(p,(3:Int))∉N.take (k+1)):=by
  unfold Hid;intro z;rw[List.take_add_one,h.out,Option.toList_some];intro l;rcases List.mem_append.1 l with l | l
  .exact C.out l
  .have a:(p,(3:Int))=(q,j):=List.mem_singleton.1 l;exact z a.symm
 cases r with
 | true =>
  have n:Hid (q=p):=by
   have a:=d.out;unfold Hid;simpa using a
  by_cases F:j=3
  .have o:Hid (N.contains (p,(3:Int))=true):=by
    unfold Hid;rw[List.contains_iff_mem,<-n.out,<-F];exact List.mem_of_getElem? h.out
   go_wp2;go_ret;exact⟨by rw[o.out];rfl,c.out⟩
  .have b:Hid _:=g.out (fun e=>F (by cases e;rfl));go_wp2;go_roundw
   case rel=>exact⟨k+1,by omega,by go_num,b,c⟩
   case measure=>simp[intOf];omega
 | false =>
  have b:Hid _:=g.out (fun e=>by have a:=d.out;cases e;simp at a);go_wp2;go_roundw
  case rel=>exact⟨k+1,by omega,by go_num,b,c⟩
  case measure=>simp[intOf];omega
def wC (a:List Rw) (p:B8) (E:En) (e:Ending):Prop:=∃c,e=.returned (.bool c)/\(fT a p E->c=true)
theorem mH (vr:Value) (r:List Rw) (p:B8) (E:En) (w:World) (hv:IsRws w vr r) (hp:p.length<=100000) (C:E.2.length<=100000) :
  Calls Tryz.prog 17 #[vr,S8 p,.agg #[.int .i64 E.1,S8 E.2]] w fun e w'=>wC r p E e/\Ext w w':=by
 obtain⟨ra,rc,rfl,-⟩:=hv.get;have HR:Hid (IsRws w (.slice ra r.length rc) r):=hv;have ag:Hid (p.length<=100000):=hp;have ab:Hid (E.2.length<=100000):=C;clear hv hp C;obtain⟨b,a⟩:=E;dsimp only;go_enter Tryz.func17,Tryz.ntmps17;go_upto_region 1 with fail;obtain⟨D,u⟩:∃D,D=w.alloc (.cells #[.int .i64 b,S8 a] 41):=⟨_,rfl⟩;have o:Hid (Ext w D):=by rw[u];exact(Ext.refl _).alloc _
 have W:D.heap[w.heap.size]? = some (.cells #[.int .i64 b,S8 a] 41 (0,0)):=by rw[u];exact ah _ _
 rw[<-u];obtain⟨g,F⟩:∃g,w.heap.size=g:=⟨_,rfl⟩;rw[F]at W;rw[F];obtain⟨y,z⟩:=cZ W;have HB:Hid _:=W;clear u F W
 by_cases Y:b=0
 .subst Y;go_quiet (fail);go_wp2_with fail;go_ret;exact⟨⟨true,rfl,fun _=>rfl⟩,o.out.trans (Ext.drawn _ _)⟩
 have a1:(b==0)=false:=by simpa using Y
 have HZ:Hid _:=Y;clear Y;obtain⟨⟨V,U⟩,F⟩:∃q,aj r p=q:=⟨_,rfl⟩;have HG:Hid _:=F;obtain⟨T,A⟩:∃c,((V,U)==(b,a))=c:=⟨_,rfl⟩;have au:∀w:World,(binOp .eql 41 (.agg #[.int .i64 V,S8 U]) (.agg #[.int .i64 b,S8 a])).run Tryz.prog w=.ok (.bool T) w:=fun w=>by
  have:=gE (V,U) (b,a) w
  rwa [A]at this
 have Z:Hid _:=A;clear A F;apply ak 10 [_,.int .i64 b,.bool false,.bool false,_,_,.agg #[.int .i64 V,S8 U],.agg #[.int .i64 b,S8 a],.bool T,.bool T] [none,none,none,none,none,none,none,none,none,none] [[],[0],[1],[2],[3],[3],[3,4,5],[3],[3,6,7],[3,8]] (by kernel_rfl) (by kernel_rfl) (by simp[aq])
 .trivial
 .simp (maxSteps:=1000000)only[List.take_succ_cons,List.take_zero,ay,aB,af,Act.put,List.setIfInBounds_toArray,List.set_cons_zero,List.set_cons_succ,aE,aH,aq,List.getD_cons_zero,List.getD_cons_succ,and_true,true_and,forall_const];and_intros
  iterate 6 · intro x G d;intros;rename_i l;have f0:=d.cell y;have f1:=d.cell z;go_simp;exact l _ _ (Ext.refl _) rfl
  .intro x G d j R l;obtain⟨O,P,am⟩:=j;go_simp;exact(eB _ r p _ (HR.out.ext (o.out.trans d))).mono (by rw[HG.out];rintro e' w8 ⟨rfl,t⟩;exact⟨_,rfl,l _ _ t rfl⟩)
  iterate 3 · intro x G d;intros;rename_i l;have f0:=d.cell y;have f1:=d.cell z;go_simp;exact l _ _ (Ext.refl _) rfl
 intro x w1 Q j;simp only[aG,Nat.zero_add,Nat.reduceAdd,and_true]at j;simp(maxSteps:=1000000)only[List.take_succ_cons,List.take_zero,List.drop_succ_cons,List.drop_zero,af,Act.put,List.setIfInBounds_toArray,List.set_cons_zero,List.set_cons_succ,Nat.zero_add,Nat.reduceAdd,j];clear j;have I:Hid (Ext D w1):=Q;clear Q au a1 y z
 cases T with
 | true =>
  go_wp2_with fail;go_ret;exact⟨⟨true,rfl,fun _=>rfl⟩,o.out.trans I.out⟩
 | false =>
 go_wp2_with fail;go_loopw [7] (fun i wr=>∃k:Nat,k<=21/\i=.int .i64 k/\Hid (∀n,n<k->aj r (ct p a n)≠(b,a))/\Hid (Ext D wr)) (fun i _=>21 - (intOf i).toNat)
 case atStart=>exact⟨0,Nat.zero_le _,rfl,fun n hn=>absurd hn (Nat.not_lt_zero _),I.out⟩
 case round =>
 obtain⟨k,j,rfl,HT,HX⟩:=hrel;have K:Hid (Ext w wr):=o.out.trans HX.out
 by_cases a3:k<=20
 case neg =>
  have ao:k=21:=by omega
  subst ao;have ad:Hid (¬fT r p (b,a)):=by
   rintro(h | h | ⟨n,hn,h⟩)
   .exact HZ.out h
   .have M:=Z.out;rw[<-HG.out,h]at M;simp at M
   .exact HT.out n (by omega) h
  go_wp2;go_ret;exact⟨⟨false,rfl,fun h=>(ad.out h).elim⟩,K.out⟩
 have a2:(k:Int)<=20:=by omega
 obtain⟨y,z⟩:=cZ (HX.out.row HB.out);obtain⟨L,N⟩:∃L,ct p a k=L:=⟨_,rfl⟩;have H:Hid _:=N;obtain⟨⟨X,C⟩,hh⟩:∃q,aj r L=q:=⟨_,rfl⟩;have HH:Hid _:=hh;obtain⟨c2,B⟩:∃c,((X,C)==(b,a))=c:=⟨_,rfl⟩;have av:∀w:World,(binOp .eql 41 (.agg #[.int .i64 X,S8 C]) (.agg #[.int .i64 b,S8 a])).run Tryz.prog w=.ok (.bool c2) w:=fun w=>by
  have:=gE (X,C) (b,a) w
  rwa [B]at this
 have aa:Hid _:=B;clear B N hh;go_upto_region 6 with fail;apply ak 9 [_,_,_,S8 a,_,S8 L,.agg #[.int .i64 X,S8 C],.agg #[.int .i64 b,S8 a],.bool c2] [none,none,none,none,none,none,none,none,none] [[],[],[],[2],[],[1,3,4],[0,5],[],[6,7]] (by kernel_rfl) (by kernel_rfl) (by simp[aq])
 .trivial
 .simp (maxSteps:=1000000)only[List.take_succ_cons,List.take_zero,ay,aB,af,Act.put,List.setIfInBounds_toArray,List.set_cons_zero,List.set_cons_succ,aE,aH,aq,List.getD_cons_zero,List.getD_cons_succ,and_true,true_and,forall_const];and_intros
  iterate 5 · intro x G d;intros;rename_i l;have f0:=d.cell y;have f1:=d.cell z;go_simp;exact l _ _ (Ext.refl _) rfl
  .intro x G d j R l;obtain⟨O,P,am⟩:=j;go_simp;exact(qU p a k _ (by omega) ag.out ab.out).mono (by rw[H.out];rintro e' w8 ⟨rfl,t⟩;exact⟨_,rfl,l _ _ t rfl⟩)
  .intro x G d j R l;obtain⟨O,P⟩:=j;go_simp;exact(eB _ r L _ (HR.out.ext (K.out.trans d))).mono (by rw[HH.out];rintro e' w8 ⟨rfl,t⟩;exact⟨_,rfl,l _ _ t rfl⟩)
  iterate 2 · intro x G d;intros;rename_i l;have f0:=d.cell y;have f1:=d.cell z;go_simp;exact l _ _ (Ext.refl _) rfl
 intro x w2 S j;simp only[aG,Nat.zero_add,Nat.reduceAdd,and_true]at j;simp(maxSteps:=1000000)only[List.take_succ_cons,List.take_zero,List.drop_succ_cons,List.drop_zero,af,Act.put,List.setIfInBounds_toArray,List.set_cons_zero,List.set_cons_succ,Nat.zero_add,Nat.reduceAdd,j];clear j;have J:Hid (Ext D w2):=HX.out.trans S;clear S av y z
 cases c2 with
 | true =>
  go_wp2_with fail;go_ret;exact⟨⟨true,rfl,fun _=>rfl⟩,o.out.trans J.out⟩
 | false =>
  have ai:Hid (∀n,n<k+1->aj r (ct p a n)≠(b,a)):=by
   intro n hn
   by_cases a0:n=k
   .subst a0;rw[H.out,HH.out];have M:=aa.out;intro e;rw[e]at M;simp at M
   .exact HT.out n (by omega)
  go_wp2_with fail;go_roundw
  case rel=>exact⟨k+1,by omega,by go_num,ai,J⟩
  case measure=>simp[intOf];omega
end
end Go.Proofs.YtgfegpnmlkdjfaaGreatDoor
