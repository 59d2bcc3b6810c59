/- Contracts of the program's functions and plain laws behind the card. Conditions: as each theorem states. -/
import Derived.Test.YtgfegpnmlkdjfaaGreatDoorZah
import Derived.Test.YtgfegpnmlkdjfaaGreatDoorZam
import Derived.Test.YtgfegpnmlkdjfaaGreatDoorZao
import Derived.Test.YtgfegpnmlkdjfaaGreatDoorZac
import Derived.Test.YtgfegpnmlkdjfaaGreatDoorZaj
import Derived.Test.YtgfegpnmlkdjfaaGreatDoorZak
set_option linter.unusedVariables false
set_option linter.unusedSimpArgs false
set_option linter.unusedSectionVars false
set_option maxRecDepth 100000
set_option maxHeartbeats 64000000
namespace Go.Proofs.YtgfegpnmlkdjfaaGreatDoor
section
open Go Go.RowKit
def aj (l:List Rw) (p:B8):Int×B8:=match l.find? (fun r=>r.path==p)with
 | some r=>(r.mode,r.id)
 | none=>(0,[])
structure Chg where
 path:B8
 old:Int×B8
 new:Int×B8
def Ec (a b:List Rw):List B8:=bj (a.map (·.path)++b.map (·.path))
def Fp (a b:List Rw) (l:List B8):List Chg:=(l.filter fun p=>aj a p != aj b p).map fun p=>⟨p,aj a p,aj b p⟩
def Gr (a b:List Rw):List Chg:=Fp a b (Ec a b)
def C9 (n:Rw) (x:List Rw×Bool) (r:Rw):List Rw×Bool :=
 ((x.1++(if(!x.2 && !ltB r.path n.path)=true then[n]else[]))++(if r.path=n.path then[]else[r]),x.2 || !ltB r.path n.path)
def C8 (n:Rw) (x:List Rw×Bool):List Rw:=if x.2=true then x.1 else x.1++[n]
def FQ (l:List Rw) (n:Rw):List Rw:=C8 n (l.foldl (C9 n) ([],decide (n.mode=0)))
structure Tb (l:List Rw):Prop where
 G2:dR (l.map (·.path))
 mode:∀r∈l,r.mode≠0
theorem fV (a:B8):ltB a a=false:=by
 unfold ltB;rw[decide_eq_false_iff_not];exact List.lt_irrefl a
variable {a b:B8}
theorem ed {c:B8} (d:ltB a b=true) (e:ltB b c=true):ltB a c=true:=by
 unfold ltB at d e ⊢;rw[decide_eq_true_eq]at d e ⊢;exact List.lt_trans d e
theorem fp (h:ltB a b=true):a≠b:=fun e=>by rw[e,fV]at h;cases h
theorem CC (h:ltB a b=true):ltB b a=false:=by
 cases c:ltB b a with
 | false=>rfl
 | true=>have:=ed h c;rw[fV]at this;cases this
theorem jG (c:ltB a b=false) (d:a≠b):ltB b a=true:=by
 cases e:ltB b a with
 | true=>rfl
 | false=>exact(d (jE (by unfold leT;rw[e];rfl) (by unfold leT;rw[c];rfl))).elim
variable {r:Rw} {l:List Rw}
theorem Tb.tail (h:Tb (r::l)):Tb l:=⟨(List.pairwise_cons.1 h.G2).2,fun x a=>h.mode x (by simp[a])⟩
theorem Tb.head (h:Tb (r::l)):∀x∈l,ltB r.path x.path=true:=fun x a=>(List.pairwise_cons.1 h.G2).1 _ (List.mem_map.2 ⟨x,a,rfl⟩)
theorem AF {p:B8} (h:∀r∈l,r.path≠p):aj l p=(0,[]):=by
 unfold aj;rw[List.find?_eq_none.2 (fun r a=>by simpa using h r a)]
def Gd (p:B8) (l:List Rw):List Rw:=l.filter fun r=>ltB r.path p
def Gb (p:B8) (l:List Rw):List Rw:=l.filter fun r=>ltB p r.path
def Ge (a:List Rw) (L:List Chg):List Rw:=L.foldl (fun l c=>FQ l ⟨c.path,c.new.1,c.new.2⟩) a
end
section
open Go Go.RowKit
def zRw:Rw:=⟨[],0,[]⟩
variable {l:List Rw} {k:Nat} {x:Rw}
theorem DJ (h:∀r∈l.take k,r.path≠x.path) (d:l[k]? = some x):aj l x.path=(x.mode,x.id):=by
 obtain⟨b,a⟩:=List.getElem?_eq_some_iff.1 d;have e:l=l.take k++x::l.drop (k+1):=by
  rw[<-a,List.getElem_cons_drop,List.take_append_drop]
 unfold aj;rw[e,List.find?_append,List.find?_eq_none.2 (fun r c=>by simpa using h r c)];simp
theorem CH {p:B8} (h:∀r∈l.take k,r.path≠p) (c:l[k]? = some x) (b:x.path≠p):∀r∈l.take (k+1),r.path≠p:=by
 rw[List.take_add_one,c];intro r a;rcases List.mem_append.1 a with a | a
 .exact h r a
 .obtain rfl:r=x:=by simpa using a
  exact b
def Cm (m:ae) (r:Rw):ae:=if(ax m r.path).isSome=true then m else aF m r.path ⟨r.mode,r.id,0⟩
def GD (l:List Rw):ae:=l.foldl Cm []
theorem cC {α:Type} {l:List α} {x:α} (h:l[k]? = some x):l.take (k+1)=l.take k++[x]:=by rw[List.take_add_one,h];rfl
def ar (a:List (List Rw)):List B8:=a.flatMap fun l=>l.map (·.path)
theorem tZ {a:List (List Rw)} (h:a[k]? = some l):ar (a.take (k+1))=ar (a.take k)++l.map (·.path):=by
 unfold ar;rw[cC h,List.flatMap_append];simp
def FR (a b:List Rw) (p:B8):List Chg:=if(aj a p != aj b p)=true then[⟨p,aj a p,aj b p⟩]else[]
theorem qH {U:List B8} (h:dR U) {i j:Nat} {x y:B8} (d:U[i]? = some x) (e:U[j]? = some y) (a:i<j):ltB x y=true:=by
 obtain⟨b,rfl⟩:=List.getElem?_eq_some_iff.1 d;obtain⟨c,rfl⟩:=List.getElem?_eq_some_iff.1 e;exact List.pairwise_iff_getElem.1 h i j b c a
def FG (s:B8) (k:Nat):List B8:=((List.range k).filter fun i=>s.getD i 0==47).map s.take
def FH (s:B8):List B8:=if aR s=true then FG s s.length else[]
def dl (l:List Rw) (k:Nat) (x:Rw):Bool:=aR (et++x.path) && (decide (1<=x.mode) && (decide (x.mode<=3) && (aO x.id && (decide (k=0) || ltB (l.getD (k - 1) zRw).path x.path))))
def D5 (l:List Rw) (k:Nat) (x:Rw):Bool:=dl l k x && (FH x.path).all fun p=>(aj l p).1==0
def GN (l:List Rw):Bool:=decide (l.length<=256) && (List.range l.length).all fun k=>D5 l k (l.getD k zRw)
theorem mX (h:l[k]? = some x):l.getD k zRw=x:=by rw[List.getD_eq_getElem?_getD,h];rfl
end
section
open Go Go.RowKit Go.Sort
def iR (e:Int×B8):Value:=.agg #[.int .i64 e.1,S8 e.2]
theorem aJ:(Tryz.prog.info? 41).map (·.size)=some 2:=by kernel_rfl
theorem IsRws.cells {w:World} {v:Value} {l:List Rw} (h:IsRws w v l):∃a c,v=.slice a l.length c/\l.length<=c/\l.length<=140737488355328/\c<=9223372036854775807 /\
  ∀(k:Nat) x,l[k]? = some x->∃b o,a=some ⟨b,o,none⟩/\w.cell? ⟨b,o+k*3,none⟩=some (S8 x.path)/\w.cell? ⟨b,o+k*3+1,none⟩=some (.int .i64 x.mode)/\w.cell? ⟨b,o+k*3+1+1,none⟩=some (S8 x.id):=by
 obtain⟨a,c,q,i,j,n,r⟩:=h.get;refine⟨a,c,q,i,j,n,fun k x t=>?_⟩;obtain⟨b,o,p,d,e,g⟩:=r k x t;rw[Nat.mul_comm 3 k]at d e g;exact⟨b,o,p,d,e,g⟩
end
section
open Go Go.RowKit Go.Sort
theorem qW (x:Rw) (p:B8) (w:World) :
  Calls Tryz.prog 59 #[.agg #[S8 x.path,.int .i64 x.mode,S8 x.id],S8 p] w fun e i=>e=.returned (.int .i64 (ep x.path p))/\Ext w i:=by
 obtain⟨b,a⟩:∃b,b=w.alloc (.cells #[S8 x.path,.int .i64 x.mode,S8 x.id] 50):=⟨_,rfl⟩;have d:Ext w b:=by rw[a];exact(Ext.refl _).alloc _
 have c:b.heap[w.heap.size]? = some (.cells #[S8 x.path,.int .i64 x.mode,S8 x.id] 50 (0,0)):=by rw[a];exact ah _ _
 have h:Hid (Ext w b):=d;obtain⟨k,l,n⟩:=cD c;have g:Hid _:=a;clear d c a;go_enter Tryz.func59,Tryz.ntmps59;go_upto_region 1 with fail;rw[<-g.out];go_wp2_with fail;go_at_call 30;refine(fU x.path p b).mono ?_;rintro e j ⟨rfl,rfl⟩;go_wp2;go_ret;exact⟨rfl,h.out⟩
structure BsI (l:List Rw) (p:B8) (i j:Nat):Prop where
 le:i<=j
 len:j<=l.length
 lo:∀t x,t<i->l[t]? = some x->ltB x.path p=true
 hi:∀t x,j<=t->l[t]? = some x->ltB x.path p=false
theorem BsI.start (l:List Rw) (p:B8):BsI l p 0 l.length:=⟨Nat.zero_le _,Nat.le_refl _,fun t x h=>absurd h (Nat.not_lt_zero _),fun t x h a=>by have:=(List.getElem?_eq_some_iff.1 a).1;omega⟩
variable {l:List Rw} {p:B8} {i j h:Nat} {y:Rw}
theorem BsI.up (b:BsI l p i j) (g:dR (l.map (·.path))) (e:l[h]? = some y) (k:i<=h/\h<j) (d:ltB y.path p=true):BsI l p (h+1) j:=by
 refine⟨by omega,b.len,fun t x n c=>?_,b.hi⟩
 by_cases a:t=h
 .subst a;rw[e]at c;cases c;exact d
 .exact ed (qH g (i:=t) (j:=h) (by rw[List.getElem?_map,c];rfl) (by rw[List.getElem?_map,e];rfl) (by omega)) d
theorem BsI.down (b:BsI l p i j) (k:dR (l.map (·.path))) (e:l[h]? = some y) (n:i<=h/\h<j) (d:ltB y.path p=false):BsI l p i h:=by
 refine⟨by omega,by have:=b.len;omega,b.lo,fun t x o c=>?_⟩
 by_cases a:t=h
 .subst a;rw[e]at c;cases c;exact d
 .cases g:ltB x.path p with
  | false=>rfl
  | true =>
   have:=ed (qH k (i:=h) (j:=t) (by rw[List.getElem?_map,e];rfl) (by rw[List.getElem?_map,c];rfl) (by omega)) g;rw[d]at this;cases this
def fe (l:List Rw) (p:B8):Bool:=l.any fun r=>r.path==p
theorem BsI.found (b:BsI l p i i) (k:dR (l.map (·.path))) (e:l[i]? = some y):fe l p=(y.path==p):=by
 unfold fe;rw[Bool.eq_iff_iff,List.any_eq_true];constructor
 .rintro ⟨r,g,c⟩;obtain⟨t,n,rfl⟩:=List.mem_iff_getElem.1 g;have c:l[t].path=p:=by simpa using c
  have d:l[t]? = some l[t]:=List.getElem?_eq_getElem n;rcases Nat.lt_trichotomy t i with h | h | h
  .have:=b.lo t _ h d;rw[c,fV]at this;cases this
  .subst h;rw[e]at d;cases d;simpa using c
  .have a:=qH k (i:=i) (j:=t) (by rw[List.getElem?_map,e];rfl) (by rw[List.getElem?_map,d];rfl) h;have a:ltB y.path l[t].path=true:=a;rw[c]at a;rw[b.hi i y (Nat.le_refl _) e]at a;cases a
 .intro h;exact⟨y,List.mem_of_getElem? e,h⟩
theorem BsI.none (b:BsI l p l.length l.length):fe l p=false:=by
 unfold fe;rw[List.any_eq_false];intro r c;obtain⟨t,a,rfl⟩:=List.mem_iff_getElem.1 c;have:=b.lo t _ a (List.getElem?_eq_getElem a);have:=fp this;simpa using this
variable {a b:B8}
theorem DE:(decide (ep a b<0))=ltB a b:=by
 unfold ep
 cases c:ltB a b with
 | true=>simp
 | false =>
  cases d:ltB b a <;> simp
theorem DD:(ep a b==0)=(a==b):=by
 unfold ep
 cases d:ltB a b with
 | true =>
  have:=fp d;simp[this]
 | false =>
  cases c:ltB b a with
  | true =>
   have:=(fp c).symm;simp[this]
  | false =>
   have:a=b:=Classical.byContradiction fun h=>by have:=jG d h;rw[this]at c;cases c
   simp[this]
theorem uA (v:Value) (l:List Rw) (p:B8) (w:World) (X:IsRws w v l) (hl:l.length<=100000) (W:dR (l.map (·.path))) :
  Calls Tryz.prog 58 #[v,S8 p,.func (.func 59) #[] #[]] w fun e w'=>(∃i:Nat,e=.returned (.tuple #[.int .i64 i,.bool (fe l p)]))/\Ext w w':=by
 obtain⟨a,aa,rfl,l1,l2,l3,U⟩:=X.cells;have S:Hid _:=U;have H:Hid (dR (l.map (·.path))):=W;clear X U W;go_enter Tryz.func58,Tryz.ntmps58;go_wp2_with fail;go_loopw [9,10] (fun M N wr=>∃i j:Nat,Hid (BsI l p i j)/\M=.int .i64 i/\N=.int .i64 j/\Hid (Ext w wr)) (fun M N _=>(intOf N).toNat - (intOf M).toNat)
 case atStart=>exact⟨0,l.length,BsI.start l p,rfl,rfl,Ext.refl _⟩
 case round =>
 obtain⟨i,j,t,rfl,rfl,d⟩:=hrel;have ab:=t.out.le;have ad:=t.out.len
 by_cases ag:i<j
 case neg =>
  have D:i=j:=by omega
  subst D
  by_cases K:i<l.length
  case neg =>
   have J:i=l.length:=by omega
   subst J;have G:Hid _:=t.out.none;go_wp2;go_ret2;exact⟨⟨l.length,by rw[G.out];rfl⟩,d.out⟩
  obtain⟨y,r⟩:∃y,l[i]? = some y:=⟨_,List.getElem?_eq_getElem K⟩;obtain⟨Z,oo,rfl,x,z,A⟩:=S.out i y r;have P:=d.out.cell x;have Q:=d.out.cell z;have R:=d.out.cell A;have G:Hid _:=t.out.found H.out r;clear x z A r;obtain⟨c,o⟩:∃c,ep y.path p=c:=⟨_,rfl⟩;have E:Hid _:=o;have F:Hid ((c==0)=(y.path==p)):=by unfold Hid;rw[<-o];exact DD
  obtain⟨q,hq⟩:∃q,(c==0)=q:=⟨_,rfl⟩;have Y:Hid (fe l p=q):=by unfold Hid;rw[G.out,<-F.out,hq]
  clear o;go_wp2_with fail;go_at_call 59;refine(qW y p wr).mono ?_;rw[E.out];rintro e O ⟨rfl,b⟩;have g:Hid (Ext w O):=d.out.trans b;clear P Q R b;go_wp2;go_ret2;exact⟨⟨i,by rw[Y.out];rfl⟩,g.out⟩
 have L:IntKind.i64.wrap ((i:Int)+(j:Int))=(i:Int)+(j:Int):=IntWalk.i64_in _ (by omega);go_upto_region 5 with fail;obtain⟨h,V⟩:∃h:Nat,((i:Int)+(j:Int)) / 2=(h:Int):=⟨(i+j) / 2,by omega⟩;have k:i<=h/\h<j:=by omega
 rw[V];clear L V;obtain⟨k,C⟩:=k;have I:h<l.length:=by omega
 obtain⟨y,r⟩:∃y,l[h]? = some y:=⟨_,List.getElem?_eq_getElem I⟩;obtain⟨Z,oo,rfl,x,z,A⟩:=S.out h y r;have P:=d.out.cell x;have Q:=d.out.cell z;have R:=d.out.cell A;have T:Hid _:=r;obtain⟨c,o⟩:∃c,ep y.path p=c:=⟨_,rfl⟩;have E:Hid _:=o;have u:Hid (decide (c<0)=ltB y.path p):=by unfold Hid;rw[<-o];exact DE
 clear x z A r o;go_wp2_with fail;go_at_call 59;refine(qW y p wr).mono ?_;rw[E.out];rintro e O ⟨rfl,b⟩;have g:Hid (Ext w O):=d.out.trans b;clear P Q R b
 by_cases B:c<0
 .have n:Hid (BsI l p (h+1) j):=t.out.up H.out T.out ⟨k,C⟩ (by rw[<-u.out];exact decide_eq_true B);go_wp2_with fail;go_roundw
  case rel=>exact⟨h+1,j,n,by go_num,rfl,g⟩
  case measure=>simp[intOf];omega
 .have n:Hid (BsI l p i h):=t.out.down H.out T.out ⟨k,C⟩ (by rw[<-u.out];exact decide_eq_false B);go_wp2_with fail;go_roundw
  case rel=>exact⟨i,h,n,rfl,rfl,g⟩
  case measure=>simp[intOf];omega
theorem zQ (v:Value) (l:List Rw) (p:B8) (w:World) (b:IsRws w v l) (k:l.length<=100000) (c:dR (l.map (·.path))) :
  Calls Tryz.prog 37 #[v,S8 p] w fun e o=>(∃i:Nat,e=.returned (.tuple #[.int .i64 i,.bool (fe l p)]))/\Ext w o:=by
 have d:Hid _:=uA v l p w b k c;obtain⟨a,g,rfl,-⟩:=b.cells;clear b c;go_enter Tryz.func37,Tryz.ntmps37;go_wp2_with fail;go_at_call 58;refine Calls.mono d.out ?_;rintro e q ⟨⟨i,rfl⟩,n⟩;go_wp2;go_ret2;exact⟨⟨i,rfl⟩,n⟩
end
end Go.Proofs.YtgfegpnmlkdjfaaGreatDoor
