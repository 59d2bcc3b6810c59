/- Contracts of the program's functions and plain laws behind the card. Conditions: as each theorem states. -/
import Derived.Test.YtfabjgfmiaammaaGreatDoorYad
import Derived.Maps.AppendAt
set_option linter.unusedVariables false
set_option linter.unusedSimpArgs false
set_option linter.unusedSectionVars false
set_option maxRecDepth 100000
set_option maxHeartbeats 64000000
namespace Go.Proofs.YtfabjgfmiaammaaGreatDoor
section
open Go Go.RowKit
def eR (left:Lit->Bool) (l:ax):ax:=l.filter fun e=>left (.string e.1)
def fm (left:Lit->Bool) (p:B8):Lit->Bool:=fun z=>left z && !z.sameKey (.string p)
theorem kQ (a b:B8):(Lit.string a).sameKey (.string b)=(a==b):=rfl
theorem jY {left:Lit->Bool} {p:B8} {f:Fi} (k:left (.string p)=true):∀ {l:ax},Rising l->aA l p=some f->(eR left l).Perm ((p,f)::eR (fm left p) l)
 | [],_,b=>by simp[aA]at b
 | e::l,r,b=>by
  obtain⟨o,q⟩:=List.pairwise_cons.1 r
  by_cases c:e.1=p
  .have d:e=(p,f):=by
    have:aA (e::l) p=some e.2:=by unfold aA;rw[List.find?_cons];simp[c]
    rw[this]at b;rw[<-Option.some.inj b,<-c]
   subst d;have a:eR (fm left p) l=eR left l:=by
    unfold eR;refine List.filter_congr fun x t=>?_
    have i:x.1≠p:=fun h=>jh (o x t) h.symm
    unfold fm;rw[kQ];simp[i]
   unfold eR at *;rw[List.filter_cons,if_pos k,List.filter_cons];have j:fm left p (.string p)=false:=by unfold fm;rw[kQ];simp
   rw[if_neg (by simp[j]),a]
  .have g:aA l p=some f:=by
    have:aA (e::l) p=aA l p:=by
     unfold aA;rw[List.find?_cons];have:(e.1==p)=false:=by simpa using c
     rw[this]
    rwa [this]at b
   have n:=jY k q g;have j:fm left p (.string e.1)=left (.string e.1):=by
    unfold fm;rw[kQ];simp[c]
   unfold eR at *;rw[List.filter_cons,List.filter_cons,j];split
   .exact (List.Perm.cons e n).trans (List.Perm.swap _ _ _)
   .exact n
variable {left:Lit->Bool} {l:ax}
theorem nS (h:∀k,left k=false):eR left l=[]:=by
 unfold eR;rw[List.filter_eq_nil_iff];intro e _;simp[h]
theorem lu (b:B8->Value) (c:Rising l):eR (Maps.has (dat b l)) l=l:=by
 unfold eR;rw[List.filter_eq_self];intro e a;rw[tv];unfold aA;rw[Option.isSome_map,List.find?_isSome];exact⟨e,a,by simp⟩
variable {w:World}
theorem ao {g:Nat} {a b c d e i j k l:Value} {t:TypeId} {fr:Nat×Nat} (h:w.heap[g]? = some (.cells #[a,b,c,d,e,i,j,k,l] t fr)) :
  w.cell? ⟨g,0,none⟩=some a/\w.cell? ⟨g,1,none⟩=some b/\w.cell? ⟨g,2,none⟩=some c/\w.cell? ⟨g,3,none⟩=some d/\w.cell? ⟨g,4,none⟩=some e/\w.cell? ⟨g,5,none⟩=some i/\w.cell? ⟨g,6,none⟩=some j/\w.cell? ⟨g,7,none⟩=some k/\w.cell? ⟨g,8,none⟩=some l:=by
 simp[World.cell?,h]
def jg (l:ax):Nat:=(l.map fun e=>e.2.data.length).sum
theorem sG {a:ax} (h:l.Perm a):jg l=jg a:=by
 unfold jg;exact(h.map _).sum_nat
theorem zu {S O R:Nat->Prop} {p:Value} {m:Fs} (h:IsFs S O R w p m) (hu:cV m.now<=1000000000000000) :
  Calls Tryz.prog 62 #[p] w fun e w'=>e=.returned (.int .i64 (cV m.now))/\Ext w w':=by
 obtain⟨g,B,gd,vp,vl,vu,L,c0,rfl,V,-,Q,-⟩:=h;obtain⟨E,h0,D,b,T⟩:=Q.now;have z:=IsFiles.sliced T;obtain⟨d0,d1,d2,d3,d4,d5,d6,d7,d8⟩:=ao V;have a0:=b.lt;have HS:Hid _:=z;have Z:Hid _:=E;have a:=lu D E;have X:Hid _:=a;have aa:Hid _:=mQ D m.now;obtain⟨U,F⟩:∃U,cV m.now=U:=⟨_,rfl⟩;have HU:Hid _:=F;rw[F]at hu ⊢;clear z E T a h0 V Q F;go_enter Tryz.func62,Tryz.ntmps62
 go_wp2_with (first
  | (at_range;refine wpList_range_own _ rfl _ 71 rfl 9 56 fI Tryz.underlying71 _ B _ _ rfl b ?_;intro w0 y H a3)
  | go_in)
 go_frame
 go_loopw [3] (fun n wr=>∃(left:Lit->Bool) (l k:Nat),wr.ranges Tryz.prog 9 eQ B w.heap.size m.now.length (dat D m.now) left l/\n=.int .i64 k/\k+jg (eR left m.now)=U/\Ext w wr)
  (fun _ wr=>wr.rangeLeft B w.heap.size)
 case atStart=>exact⟨_,_,0,y,rfl,by rw[X.out,Nat.zero_add];exact HU.out,Below.grown (Below.refl _ _) H (Nat.le_refl _) (fun j J=>by cases J)⟩
 case round =>
  obtain⟨left,l,k,x,rfl,W,C⟩:=hrel;have P:Hid _:=W;clear W
  go_wp2_with (first
   | (at_next;refine iG rfl _ rfl B w.heap.size _ D m.now _ _ rfl x HS.out ?_ ?_)
   | go_in)
  .intro a1 r;have K:k=U:=by have:=P.out;rw[nS r]at this;simpa [jg]using this
   clear r;go_wp2;go_ret;exact⟨iJ (by rw[K]),C⟩
  .intro q f ad c w1 o t N u G d M I a4 a2;have A:=jY (f:=f) u Z.out t;have i:k+f.data.length+jg (eR (fm left q) m.now)=U:=by
    have:=P.out;rw[sG A]at this;simp only[jg,List.map_cons,List.sum_cons]at this ⊢;omega
   have Y:Hid _:=i;have au:k+f.data.length<=U:=by omega
   clear t N G A i u;go_wp2;go_roundw
   case rel=>exact⟨_,o,k+f.data.length,d.alloc _,by go_num,Y.out,(Below.grown C I C.size (fun j J=>by cases J;exact Nat.le_refl _)).alloc (by have:=C.size;omega) _⟩
   case measure=>rw[(d.alloc _).left_eq,x.left_eq];exact M
theorem kL (s t:ByteArray) (w:World):Calls Tryz.prog 116 #[.string s,.string t] w fun e a=>e=.returned (.bool (t.data.toList.isPrefixOf s.data.toList))/\a=w :=
 Tryz.strings_HasPrefix s t w
theorem tW (p:B8):(⟨p.toArray⟩++⟨#[47]⟩:ByteArray).data.toList=p++[47]:=by simp[ByteArray.data_append]
def lh (l:ax) (path a:B8):Bool:=l.any fun e=>!(e.1==a) && aB path e.1
theorem mI {p q:B8} (h:fm left p (.string q)=false):left (.string q)=false\/q=p:=by
 unfold fm at h;rw[kQ]at h
 by_cases a:q=p
 .exact .inr a
 .exact .inl (by simpa [a]using h)
theorem zZ {R:Nat->Prop} {b:Nat} (path a:B8) (hf:IsFiles R w b l) (hp:path.length<=10000000) :
  Calls Tryz.prog 230 #[.map (some b),S8 path,S8 a] w fun e T=>e=.returned (.bool (lh l path a))/\Ext w T:=by
 obtain⟨W,V,G,p,X⟩:=hf;have F:=IsFiles.sliced X;have aa:=p.lt;have HS:Hid _:=F;have H0:Hid _:=V;have n:=lu G W;have Z:Hid (∀e∈l,Maps.has (dat G l) (.string e.1)=true):=fun e i=>by
  rw[<-n]at i;simpa using(List.mem_filter.1 i).2
 have a0:(⟨a.toArray⟩:ByteArray).toList=a:=Lib.toList_data _;have a3:(path.length:Int)<=10000000:=by omega
 clear F W X n V;go_enter Tryz.func230,Tryz.ntmps230
 go_wp2_with (first
  | (at_range;refine wpList_range_own _ rfl _ 71 rfl 9 56 fI Tryz.underlying71 _ b _ _ rfl p ?_;intro w0 E M a4)
  | go_in)
 go_frame
 go_loopw [7] (fun _ wr=>∃(left:Lit->Bool) (x:Nat),wr.ranges Tryz.prog 9 eQ b w.heap.size l.length (dat G l) left x/\(∀e∈l,left (.string e.1)=false->(!(e.1==a) && aB path e.1)=false)/\Ext w wr)
  (fun _ wr=>wr.rangeLeft b w.heap.size)
 case atStart=>exact⟨_,_,E,(fun e i d=>by rw[Z.out e i]at d;cases d),Below.grown (Below.refl _ _) M (Nat.le_refl _) (fun j O=>by cases O)⟩
 case round =>
  obtain⟨left,x,t,Y,S⟩:=hrel;have H:Hid _:=Y;clear Y
  go_wp2_with (first
   | (at_next;refine iG rfl _ rfl b w.heap.size _ G l _ _ rfl t HS.out ?_ ?_)
   | go_in)
  .intro au z;have D:lh l path a=false:=by
    unfold lh;rw[List.any_eq_false];intro e i;rw[H.out e i (z _)];simp
   have HN:Hid _:=D;clear z D;go_wp2;go_ret;exact⟨an HN.out.symm,S⟩
  .intro q f ad c w1 k A Q P K g C N a5 a2;have o:=fd A;have u:Ext w w1:=Below.grown S N S.size (fun j O=>by cases O;exact Nat.le_refl _);have a1:(⟨q.toArray⟩:ByteArray).toList=q:=Lib.toList_data _;have HM:Hid _:=o;have r:=tW path;clear A Q K P o
   by_cases h:q=a
   .have L:(q==a)=true:=by simpa using h
    have I:Hid _:=h;clear h;go_wp2;go_roundw
    case rel=>exact⟨_,k,g,(fun e i d=>by
     rcases mI d with d | d
     .exact H.out e i d
     .rw [d,I.out];simp),u⟩
    case measure=>rw[g.left_eq,t.left_eq];exact C
   .have L:(q==a)=false:=by simpa using h
    have I:Hid _:=h;clear h;obtain⟨B,J⟩:∃B,aB path q=B:=⟨_,rfl⟩;have U:Hid _:=J;have y:(path++[47]).isPrefixOf q=B:=J;clear J
    cases B with
    | true =>
     go_wp2_with (go_at_call 116;go_must (refine(kL _ _ _).mono ?_;rw[r,y];rintro e T ⟨rfl,rfl⟩))
     go_ret;refine⟨an (Eq.symm ?_),u⟩;unfold lh;rw[List.any_eq_true];refine⟨_,HM.out,?_⟩;have h2:=I.out;have h3:=U.out;simp only;rw[h3];simpa using h2
    | false =>
     go_wp2_with (go_at_call 116;go_must (refine(kL _ _ _).mono ?_;rw[r,y];rintro e T ⟨rfl,rfl⟩))
     go_roundw
     case rel=>exact⟨_,k,g,(fun e i d=>by
      rcases mI d with d | d
      .exact H.out e i d
      .rw [d,U.out];simp),u⟩
     case measure=>rw[g.left_eq,t.left_eq];exact C
end
section
open Go Go.RowKit
theorem yn (v:Value) (L:List B8) (c:B8) (w:World) (A:IsStrs w v L) (u:(Lib.join L c).length<=140737488355328) :
  Calls Tryz.prog 242 #[v,S8 c] w fun e n=>e=.returned (S8 (Lib.join L c))/\Ext w n:=by
 obtain⟨a,d,rfl,p,D,q,r⟩:=A
 cases L with
 | nil=>exact(Tryz.strings_Join_none a d ⟨c.toArray⟩ w).mono fun e n ⟨t,B⟩=>⟨t,by rw[B];exact Ext.refl _⟩
 | cons x L =>
  obtain⟨b,o,rfl,g⟩:=r (by simp);have i:(((x::L).map fun l=>(⟨l.toArray⟩:ByteArray)).map (·.data.toList))=x::L:=by
   rw[List.map_map];exact List.map_id _
  have h:=Tryz.strings_Join b o d ((x::L).map fun l=>(⟨l.toArray⟩:ByteArray)) ⟨c.toArray⟩ w (fun j y k=>g j _ (by
   rw[List.getElem?_map]at k ⊢;obtain⟨z,C,rfl⟩:=Option.map_eq_some_iff.1 k;rw[C];rfl)) (by
    have:=g 0 _ rfl;exact World.block_lt_of_cell? _ _ this) (by simpa using q) (by simpa using p) (by rw[i];exact u)
  rw[i,List.length_map]at h;exact h
theorem yo (a:B8):∀L:List B8,(Lib.join L a).length<=(L.map List.length).sum+L.length*a.length
 | []=>by simp[Lib.join_nil]
 | x::L=>by
  rw[Lib.join_cons];have:∀M:List B8,(Lib.joinTail a M).length=(M.map List.length).sum+M.length*a.length:=by
   intro M
   induction M with
   | nil=>simp[Lib.joinTail]
   | cons y M b =>
    unfold Lib.joinTail at *;simp only[List.map_cons,List.flatten_cons,List.length_append,List.sum_cons,List.length_cons,b,Nat.add_mul];omega
  simp only[List.length_append,this,List.map_cons,List.sum_cons,List.length_cons,Nat.add_mul];omega
theorem mJ:∀(L:List Nat) (k:Nat),(L.take k).sum<=L.sum
 | [],k=>by simp
 | x::L,0=>by simp
 | x::L,k+1=>by have:=mJ L k;simp;omega
theorem lq (l:B8) (k:Nat):(Lib.join ((cut 47 l).take k) [47]).length<=2*l.length+2:=by
 have a:=yo [47] ((cut 47 l).take k);have c:=jx 47 l;have d:=fA 47 l;have b:=mJ ((cut 47 l).map List.length) k;rw[<-List.map_take]at b;have e:=List.length_take_le k (cut 47 l);have g:((cut 47 l).take k).length<=(cut 47 l).length:=List.length_take_le' k (cut 47 l);simp only[List.length_cons,List.length_nil]at a;omega
variable {w:World}
theorem IsStrs.take {a:Option Addr} {L:List B8} {c n:Nat} (h:IsStrs w (.slice a L.length c) L) (B:n<=L.length):IsStrs w (.slice a n c) (L.take n):=by
 obtain⟨y,g,j,z,p,A,q⟩:=h;simp only[Value.slice.injEq,true_and]at j;obtain⟨rfl,rfl⟩:=j;have t:(L.take n).length=n:=by rw[List.length_take];omega
 refine⟨a,c,by rw[t],by omega,p,by omega,fun e=>?_⟩;obtain⟨b,o,rfl,r⟩:=q (by
  intro l;have:L=[]:=by simpa using l
  subst this;simp at e)
 refine⟨b,o,rfl,fun i u k=>r i u ?_⟩;rw[List.getElem?_map]at k ⊢;obtain⟨x,d,rfl⟩:=Option.map_eq_some_iff.1 k;rw[List.getElem?_take]at d;split at d
 .rw [d];rfl
 .simp at d
def cj (l:B8):List B8:=if az l then cut 47 l else[]
theorem mD (l:B8) (w:World) (q:Env w) (y:l.length<=10000000) :
  Calls Tryz.prog 16 #[S8 l] w fun e u=>(∃v,e=.returned v/\IsStrs u v (cj l)/\∀b,v.ownBlock=some b->w.heap.size<=b)/\Ext w u:=by
 have h:Hid _:=q;clear q;have r:cj l=if az l then cut 47 l else[]:=rfl
 have p:Hid _:=r;clear r
 cases t:az l with
 | true =>
  have j:Hid _:=t;go_enter Tryz.func16,Tryz.ntmps16
  go_wp2_with (first
   | (go_at_call 51;go_must (refine(ee l _ h.out (by omega)).mono ?_;rintro e z ⟨rfl,d⟩))
   | (go_at_call 52;go_must (refine(pY ⟨l.toArray⟩ 47 _ (h.out.ext d) (Nat.lt_of_le_of_lt y (by decide))).mono ?_;rintro e A ⟨v,rfl,n,g,o⟩;have i:Hid _:=g.2;clear g;have x:Hid _:=n;obtain⟨a,c,rfl,-⟩:=id n;clear n)))
  go_ret;exact⟨⟨_,rfl,by rw[p.out,if_pos j.out];exact x.out,fun b k=>Nat.le_trans d.size (i.out b k)⟩,d.trans o⟩
 | false =>
  have j:Hid _:=t;go_enter Tryz.func16,Tryz.ntmps16
  go_wp2_with (go_at_call 51;go_must (refine(ee l _ h.out (by omega)).mono ?_;rintro e z ⟨rfl,d⟩))
  go_ret;exact⟨⟨_,rfl,by rw[p.out,if_neg (by simp[j.out])];exact IsStrs.nil _,fun b k=>by cases k⟩,d⟩
theorem uF (l:B8) (w:World) (d:Env w) (g:l.length<=10000000) :
  Calls Tryz.prog 16 #[S8 l] w fun e a=>(∃v,e=.returned v/\IsStrs a v (cj l))/\Ext w a :=
 (mD l w d g).mono (by rintro e a ⟨⟨v,b,c,-⟩,h⟩;exact⟨⟨v,b,c⟩,h⟩)
def ez (L:List B8) (k:Nat):List B8:=(List.range k).map fun i=>Lib.join (L.take (i+1)) [47]
def ew (l:B8):List B8:=ez (cj l) ((cj l).length - 1)
theorem qp (L:List B8) (k:Nat):ez L (k+1)=ez L k++[Lib.join (L.take (k+1)) [47]]:=by
 unfold ez;rw[List.range_succ,List.map_append];rfl
theorem n9 (L:List B8) (k:Nat):(ez L k).length=k:=by simp[ez]
theorem sL (l:B8) (w:World) (y:Env w) (J:l.length<=10000000) :
  Calls Tryz.prog 229 #[S8 l] w fun e C=>(∃v,e=.returned v/\IsStrs C v (ew l))/\Ext w C:=by
 have D:Hid _:=y;have q:cj l=[]\/cj l=cut 47 l:=by unfold cj;split <;> simp
 have A:(cj l).length<=10000001:=by
  rcases q with h | h
  .rw [h];simp
  .rw [h];have:=(fA 47 l).2;omega
 have E:Hid (∀k,(Lib.join ((cj l).take k) [47]).length<=140737488355328):=fun k=>by
  rcases q with h | h
  .rw [h,List.take_nil,Lib.join_nil];simp
  .rw [h];have:=lq l k;omega
 have G:Hid (ew l=ez (cj l) ((cj l).length - 1)):=rfl;generalize z:cj l=L at *;have F:Hid _:=z;clear y q z;go_enter Tryz.func229,Tryz.ntmps229
 go_wp2_with (go_at_call 16;go_must (refine(uF l _ D.out J).mono ?_;rw[F.out];rintro e x ⟨⟨v,rfl,t⟩,u⟩;have I:Hid _:=t;obtain⟨a,p,rfl,Q,R,S,-⟩:=id t;clear t))
 go_loopw [4,5] (fun v i wr=>∃k:Nat,k<=L.length - 1/\i=.int .i64 ((k+1:Nat):Int)/\wr.ownsRow x.heap.size 9 1 v k ((ez L k).map S8)/\Ext x wr) (fun _ i _=>L.length - (intOf i).toNat)
 case atStart=>exact⟨0,Nat.zero_le _,rfl,World.ownsRow_nil _ _ _ _,Ext.refl _⟩
 case round =>
  obtain⟨k,T,rfl,b,o⟩:=hrel;have N:=o.size
  by_cases K:k+1<L.length
  .have U:(0:Int)<=((k+1:Nat):Int):=by omega
   have V:((k+1:Nat):Int)<=(p:Int):=by omega
   go_wp2_with (first
    | (go_at_call 242;go_must (refine(yn _ (L.take (k+1)) [47] _ (IsStrs.take (IsStrs.ext I.out o) (by omega)) (E.out _)).mono ?_;rintro P O ⟨rfl,j⟩;have c:=am b j;have B:=j.size))
    | (at_builtin;go_must (refine fq rfl _ _ rfl x.heap.size _ k _ rfl (c.alloc _) O.heap.size 1 1 [Lib.join (L.take (k+1)) [47]] rfl rfl (ae _ _) (by omega) (by simp;omega) ?_;intro W X g r)))
   go_roundw
   case rel=>exact⟨k+1,by omega,by go_num,by rw[qp];exact g,aj ((o.trans j).alloc _) (c.alloc _) r⟩
   case measure=>simp[intOf];omega
  .have n:k=L.length - 1:=by omega
   have d:IsStrs wr u4 (ew l):=by
    rw[G.out,<-n];unfold IsStrs;rw[n9];exact Row.BV b (by omega)
   have H:Hid _:=d;have M:¬((k+1:Nat):Int)<(L.length:Int):=by omega
   clear d b n;go_wp2;go_ret;exact⟨⟨_,rfl,H.out⟩,u.trans o⟩
def kD (l:ax) (path a:B8):Bool:=!((ew path).any fun p=>(aA l p).isSome && !(p==a)) && !(lh l path a)
theorem nG {α:Type} {f:α->Bool} {l:List α} {k:Nat} {x:α} (c:l[k]? = some x) (a:(l.take k).any f=false) (b:f x=false):(l.take (k+1)).any f=false:=by
 rw[List.take_add_one,c];simp only[List.any_append,a,Option.toList_some,List.any_cons,b,List.any_nil,Bool.or_false]
theorem qr (l:B8):∀p∈ew l,p.length<=2*l.length+2:=by
 intro p a;unfold ew ez at a;obtain⟨i,_,rfl⟩:=List.mem_map.1 a;unfold cj;split
 .exact lq l _
 .simp [Lib.join_nil]
theorem ma {R:Nat->Prop} {b:Nat} {l:ax} (path c:B8) (Q:Env w) (V:IsFiles R w b l) (hp:path.length<=4000000) :
  Calls Tryz.prog 188 #[.map (some b),S8 path,S8 c] w fun e w'=>e=.returned (.bool (kD l path c))/\Ext w w':=by
 have Z:Hid _:=Q;have N:Hid _:=V;have HS:Hid _:=qr path;have T:kD l path c=(!((ew path).any fun p=>(aA l p).isSome && !(p==c)) && !(lh l path c)):=rfl;have O:Hid _:=T;generalize S:ew path=L at *;have HL:Hid _:=S;have ad:(⟨c.toArray⟩:ByteArray).toList=c:=Lib.toList_data _;clear Q V S T;go_enter Tryz.func188,Tryz.ntmps188
 go_wp2_with (go_at_call 229;go_must (refine(sL path _ Z.out (by omega)).mono ?_;rw[HL.out];rintro e w2 ⟨⟨v,rfl,X⟩,j⟩;obtain⟨a,aa,rfl,h1,h2,h3,P⟩:=X.get;have Y:Hid _:=P;clear P X))
 go_loopw [14] (fun i wr=>∃k:Nat,k<=L.length/\i=.int .i64 k/\((L.take k).any fun p=>(aA l p).isSome && !(p==c))=false/\Ext w2 wr) (fun i _=>L.length - (intOf i).toNat)
 case atStart=>exact⟨0,Nat.zero_le _,rfl,rfl,Ext.refl _⟩
 case round =>
  obtain⟨k,hk,rfl,W,y⟩:=hrel;have G:Hid _:=W;clear W
  by_cases t:k<L.length
  .obtain ⟨q,E⟩:∃q,L[k]? = some q:=⟨_,List.getElem?_eq_getElem t⟩;obtain⟨bb,o,rfl,U⟩:=Y.out k t;have K:=y.cell (U k t);have A:L.getD k []=q:=by rw[List.getD_eq_getElem?_getD,E];rfl
   rw[A]at K;have a0:=HS.out q (List.mem_of_getElem? E);have au:(⟨q.toArray⟩:ByteArray).toList=q:=Lib.toList_data _;have I:Hid _:=E;obtain⟨v,g,-,u,x⟩:=(N.out.ext (j.trans y)).Ca q (by omega);clear U A E
   cases d:aA l q with
   | none =>
    rw[d]at g;obtain rfl:=x d;have r:Hid _:=d;clear u x d;simp only[Option.isSome_none]at g;go_wp2;go_roundw
    case rel=>exact⟨k+1,by omega,by go_num,nG I.out G.out (by rw[r.out];rfl),y.alloc _⟩
    case measure=>simp[intOf];omega
   | some f =>
    rw[d]at g;obtain⟨sv,rfl,D⟩:=u f d;obtain⟨s1,s2,rfl,-⟩:=D.bytes;have r:Hid _:=d;clear u x d D;simp only[Option.isSome_some]at g
    by_cases h:q=c
    .have z:(q==c)=true:=by simpa using h
     have J:Hid _:=h;clear h;go_wp2;go_roundw
     case rel=>exact⟨k+1,by omega,by go_num,nG I.out G.out (by rw[J.out];simp),y.alloc _⟩
     case measure=>simp[intOf];omega
    .have z:(q==c)=false:=by simpa using h
     have C:kD l path c=false:=by
      rw[O.out];have:(L.any fun p=>(aA l p).isSome && !(p==c))=true:=List.any_eq_true.2 ⟨q,List.mem_of_getElem? I.out,by rw[r.out,z];rfl⟩;rw[this];rfl
     have H:Hid _:=C;clear C h;go_wp2;go_ret;exact⟨an H.out.symm,j.trans (y.alloc _)⟩
  .have n:(L.any fun p=>(aA l p).isSome && !(p==c))=false:=by
    have:=G.out
    rwa [List.take_of_length_le (by omega)]at this
   have B:kD l path c = !(lh l path c):=by rw[O.out,n];rfl
   have F:Hid _:=B;clear n B
   go_wp2_with (go_at_call 230;go_must (refine(zZ path c (N.out.ext (j.trans y)) (by omega)).mono ?_;rintro e w3 ⟨rfl,M⟩))
   go_ret;exact⟨an F.out.symm,j.trans (y.trans M)⟩
theorem iz (path:B8) (mode:Int) (v:Value) (data:B8) (w:World) (l:Env w) (p:IsBytes w v data) (z:path.length<=10000000) :
  Calls Tryz.prog 133 #[S8 path,.int .i64 mode,v] w fun e t=>e=.returned (.int .i64 (bE path mode data))/\Ext w t:=by
 obtain⟨a,c,rfl,u,x,y,-⟩:=p.get;have g:Hid _:=l;have n:bE path mode data=if az path=false then 6 else if mode<1\/3<mode then 1 else if 20000<data.length then 3 else 0:=rfl
 have h:Hid _:=n;clear l p n;go_enter Tryz.func133,Tryz.ntmps133
 cases i:az path with
 | false =>
  have d:Hid _:=i
  go_wp2_with (go_at_call 51;go_must (refine(ee path _ g.out (by omega)).mono ?_;rintro e j ⟨rfl,b⟩))
  go_ret;exact⟨iJ (by rw[h.out,if_pos d.out]),b⟩
 | true =>
  have d:Hid _:=i
  by_cases q:mode<1
  .go_wp2_with (go_at_call 51;go_must (refine(ee path _ g.out (by omega)).mono ?_;rintro e j ⟨rfl,b⟩))
   go_ret;exact⟨iJ (by rw[h.out,if_neg (by simp[d.out]),if_pos (by omega)]),b⟩
  .by_cases r:3<mode
   .go_wp2_with (go_at_call 51;go_must (refine(ee path _ g.out (by omega)).mono ?_;rintro e j ⟨rfl,b⟩))
    go_ret;exact⟨iJ (by rw[h.out,if_neg (by simp[d.out]),if_pos (by omega)]),b⟩
   .by_cases o:20000<data.length
    .have k:(20000:Int)<(data.length:Int):=by omega
     go_wp2_with (go_at_call 51;go_must (refine(ee path _ g.out (by omega)).mono ?_;rintro e j ⟨rfl,b⟩))
     go_ret;exact⟨iJ (by rw[h.out,if_neg (by simp[d.out]),if_neg (by omega),if_pos o]),b⟩
    .have k:¬(20000:Int)<(data.length:Int):=by omega
     go_wp2_with (go_at_call 51;go_must (refine(ee path _ g.out (by omega)).mono ?_;rintro e j ⟨rfl,b⟩))
     go_ret;exact⟨iJ (by rw[h.out,if_neg (by simp[d.out]),if_neg (by omega),if_neg o]),b⟩
end
section
open Go Go.RowKit
theorem Aj:(Tryz.prog.info? 194).map (fun i=>(i.zero,i.size,i.bytes))=some (some (.agg #[S8 [],S8 [],.bool false,.int .i64 0,.slice none 0 0,.int .i64 0]),6,80):=by kernel_rfl
theorem fh:(Tryz.prog.info? 3).map (·.size)=some 1:=by kernel_rfl
theorem fD:(Tryz.prog.info? 37).map (·.size)=some 1:=by kernel_rfl
theorem eT:(Tryz.prog.info? 72).map (·.size)=some 1:=by kernel_rfl
theorem nt:(Tryz.prog.info? 42).map (·.size)=some 1:=by kernel_rfl
theorem fV:(Tryz.prog.info? 71).map (·.size)=some 1:=by kernel_rfl
theorem em:(Tryz.prog.info? 4).map (·.size)=some 1:=by kernel_rfl
theorem dU:(Tryz.prog.info? 56).map (·.size)=some 3:=by kernel_rfl
section
variable {ops:Array Oper} {rest:List Oper} {o:Oper} {a:Act} {Q:Exit->Act->World->Prop} {w:World}
theorem vg (r:o.guard=none) (s x:Operand) (F:o.op=.call { callee:=.builtin .append,args:=#[s,x],argTypes:=#[72,72] })
  (d:Nat) (v:Value) (n:Nat) (xs:List Value) (G:a.eval s=v) (j:w.ownsRow d 194 6 v n xs)
  (g c:Nat) (b:List Value) (I:a.eval x=.slice (some ⟨g,0,none⟩) 1 c) (E:b.length=6) {fr:Nat×Nat} (C:w.heap[g]? = some (.cells b.toArray 194 fr)) (q:b.all (·.oneCell')=true)
  (K:n<=100000000) (e:d<=w.heap.size)
  (h:∀l p,p.ownsRow d 194 6 l (n+1) (xs++b)->w.grownBy p v.ownBlock->(∀k,l.ownBlock=some k->v.ownBlock=some k\/w.heap.size<=k)->wpList Tryz.prog ops Q rest (a.put o.dst l) p):wpList Tryz.prog ops Q (o::rest) a w:=by
 obtain⟨J,D,y,z,A⟩:=info_parts Aj;exact wpList_append_own_at w r s x _ F d _ J _ 6 80 Tryz.underlying72 D y z A rfl (by omega) v n xs G j ⟨g,0,none⟩ 1 c b I (by simpa using E) (by simpa using cU C) (fun u H=>List.all_eq_true.1 q u H) (by unfold maxLen;omega) (by omega) e
  (fun l p q B _ i=>h l p q B (fun k t=>by
   rcases i with i | i
   .exact .inl (i.symm.trans t)
   .rw [i]at t;simp only[Option.some.injEq]at t;exact .inr (by omega)))
end
theorem OwnL.app {α:Type} {w':World} {t:TypeId} {a:Nat} {p q:List Value->α->Prop} {v':Value} {xs:List α} {b:List (List Value)} {c:List Value} {x:α} (g:Each p b xs)
  (h:w'.ownsRow 0 t a v' (xs.length+1) (b.flatten++c)) (d:∀c x,p c x->q c x) (e:q c x):OwnL w' t a q v' (xs++[x]) :=
 ⟨b++[c],by rw[List.flatten_append];simpa using h,(g.imp d).snoc e⟩
variable {w:World} {p:Value} {m:Fs}
theorem mR {S O R:Nat->Prop} (q:B8) (f:Fi) (sv:Value) (h:IsFs S O R w p m) (i:q.length<=10000000) (hd:IsData R w sv f.data) (hl:m.now.length<=10000000) (cv:m.pend.length<=10000000) (ht:m.time<=10000000) :
  Calls Tryz.prog 189 #[p,.agg #[S8 q,S8 [],.bool true,.int .i64 f.mode,sv,.int .i64 f.time]] w fun e W=>e=.returned (.tuple #[])/\IsFs S (Nw O w W) (Nw R w W) W p (does m (.put q f))/\Fr O w W:=by
 obtain⟨g,gm,gd,vp,vl,vu,L,c0,rfl,hg,hO,hP,bv,ce⟩:=h;obtain⟨E,F,rfl,-⟩:=hd.bytes;have V:Ext w (w.alloc (.cells #[S8 q,S8 [],.bool true,.int .i64 f.mode,.slice E f.data.length F,.int .i64 f.time] 194)):=(Ext.refl w).alloc _;have Q:=Ext.row V hg;have a':=ae w (.cells #[S8 q,S8 [],.bool true,.int .i64 f.mode,.slice E f.data.length F,.int .i64 f.time] 194);have cu:=(Array.getElem?_eq_some_iff.1 hg).1;obtain⟨d0,d1,d2,d3,d4,d5,d6,d7,d8⟩:=ao Q;have H:w.heap.size≠g:=by omega
 have HD:Hid _:=hd;have b9:Hid _:=V;have HP:Hid _:=hP;have HG:Hid _:=hg;have b8:Hid _:=Q;have b6:Hid _:=a';clear hd V hP hg Q a';go_enter Tryz.func189,Tryz.ntmps189
 go_wp2_with (first
  | (refine ag rfl 3 (.tmp 10) (.tmp 8) rfl g 7 rfl (.int .i64 ((m.time:Int)+1)) rfl rfl _ _ b8.out (Nat.le_of_ble_eq_true rfl) fh (bc m.room gm gd vp vl m.calls vu (m.time+1) m.down) (by simp) ?_;intro w2 bo J;obtain⟨a0,a1,a2,a3,a4,a5,a6,a7,a8⟩:=ao bo;have ba:=aV J b6.out H;obtain⟨b0,b1,b2,b3,b4,b5⟩:=cA ba;clear d0 d1 d2 d3 d4 d5 d6 d7 d8)
  | (refine ag rfl 3 (.tmp 18) (.tmp 16) rfl w.heap.size 5 rfl (.int .i64 ((m.time+1:Nat):Int)) rfl rfl _ _ ba (Nat.le_of_ble_eq_true rfl) fh #[S8 q,S8 [],.bool true,.int .i64 f.mode,.slice E f.data.length F,.int .i64 ((m.time+1:Nat):Int)] (by simp) ?_;intro w3 bb K;have bq:=aV K bo (Ne.symm H);obtain⟨e0,e1,e2,e3,e4,e5,e6,e7,e8⟩:=ao bq;obtain⟨Z,f1,f2,f3,f4,f5⟩:=cA bb;clear a0 a1 a2 a3 a4 a5 a6 a7 a8 b0 b1 b2 b3 b4 b5))
 go_frame
 apply ak 5 [_,_,_,_,.agg #[S8 q,S8 [],.bool true,.int .i64 f.mode,.slice E f.data.length F,.int .i64 ((m.time+1:Nat):Int)]] [none,none,none,none,none] [[],[0],[1],[2],[]] (by kernel_rfl) (by kernel_rfl) (by simp[aq])
 .trivial
 .simp (maxSteps:=1000000)only[List.take_succ_cons,List.take_zero,ay,aE,ab,Act.put,List.setIfInBounds_toArray,List.set_cons_zero,List.set_cons_succ,aN,aS,aq,List.getD_cons_zero,List.getD_cons_succ,and_true,true_and,forall_const];and_intros
  iterate 5 · intro xs wq i;intros;rename_i hR;have c1:=i.cell e1;have c2:=i.cell Z;have c3:=i.cell f1;have c4:=i.cell f2;have c5:=i.cell f3;have c6:=i.cell f4;have c7:=i.cell f5;go_simp;exact hR _ _ (Ext.refl _) rfl
 intro xs w4 y d;simp only[aU,Nat.zero_add,Nat.reduceAdd,and_true]at d;simp(maxSteps:=1000000)only[List.take_succ_cons,List.take_zero,List.drop_succ_cons,List.drop_zero,ab,Act.put,List.setIfInBounds_toArray,List.set_cons_zero,List.set_cons_succ,Nat.zero_add,Nat.reduceAdd,d];clear d;have P:=(dZ b9.out J).andThen K (fun j hj=>.inl (by cases hj;exact Nat.le_refl _));have aa:=(HP.out.own HG.out P).ext y;have a9:=dX P y;have br:=Ext.row y bq;have bd:=Ext.row y bb;have bk:IsData R w4 (.slice E f.data.length F) f.data:=HD.out.BZ (cw a9 (by rintro k d;simp at d;subst d;exact aw HG.out (by kernel_rfl)));have cx:=y.size;have r:Hid _:=aa;have X:Hid _:=bk;clear aa bk e0 e1 e2 e3 e4 e5 e6 e7 e8 Z f1 f2 f3 f4 f5
 go_wp2_with (go_at_call 160;go_must (refine(ri q { f with time:=((m.time+1:Nat):Int) } (.slice E f.data.length F) r.out.now i X.out (by omega)).mono ?_;rintro e w5 ⟨rfl,co,t⟩;have bs:=cD br (by exact(r.out.now.kind).choose_spec.choose_spec) (by simp);have bt:=cD bd (by exact(r.out.now.kind).choose_spec.choose_spec) (by simp);have I:=aV t br bs;have bh:=aV t bd bt;obtain⟨e0,e1,e2,e3,e4,e5,e6,e7,e8⟩:=ao I;obtain⟨Z,f1,f2,f3,f4,f5⟩:=cA bh))
 have ad:=r.out.CX t co;have cc:w.grownBy w5 none\/True:=.inr trivial;have Y:Hid _:=ad;obtain⟨ct,n,o⟩:=Y.out.pend;obtain⟨pa,pc,rfl,-⟩:=Row.BV n (by omega);have b7:Hid _:=o;have bl:Fr O w w5:=((Fr.refl O w).step P (fun k d=>by cases d;exact .inl hO) (by rintro k d;cases d;exact aw HG.out (by kernel_rfl))).ext y |>.step t (fun k d=>by cases d;exact .inl HP.out.om) (by rintro k d;cases d;exact r.out.now.Cj);clear ad cc o;apply cP 7 0 (.pointer (some ⟨g,0,none⟩)) [.pointer (some ⟨g,0,none⟩),_,_,_,_,.agg #[S8 q,S8 [],.bool true,.int .i64 f.mode,.slice E f.data.length F,.int .i64 ((m.time:Int)+1)],undef] [none,none,none,none,none,none,some (fun u W=>∃k,u=.slice (some ⟨k,0,none⟩) 1 1/\W.heap[k]? = some (.cells #[S8 q,S8 [],.bool true,.int .i64 f.mode,.slice E f.data.length F,.int .i64 ((m.time:Int)+1)] 194 (0,0)))] [[],[],[1],[2],[3],[],[5]] (by kernel_rfl) (by kernel_rfl) (by simp[aq])
 .refine ⟨?_,trivial⟩
  .exact fun _ _ _ he ⟨k,h1,h3⟩=>⟨k,h1,he.row h3⟩
 .exact ⟨_,rfl,rfl,fun w=>by go_simp⟩
 .exact fun _=>rfl
 .simp (maxSteps:=1000000)only[List.take_succ_cons,List.take_zero,ay,aE,ab,Act.put,List.setIfInBounds_toArray,List.set_cons_zero,List.set_cons_succ,aN,aS,aq,List.getD_cons_zero,List.getD_cons_succ,and_true,true_and,forall_const];and_intros
  iterate 6 · intro xs wq i;intros;rename_i hR;have c1:=i.cell e3;have c2:=i.cell Z;have c3:=i.cell f1;have c4:=i.cell f2;have c5:=i.cell f3;have c6:=i.cell f4;have c7:=i.cell f5;go_simp;exact hR _ _ (Ext.refl _) rfl
  .intro xs wq i d R hR;go_simp;exact hR _ _ ((Ext.refl _).alloc _) ⟨_,rfl,ae _ _⟩
 intro xs w6 z d;simp only[aU,Nat.zero_add,Nat.reduceAdd,and_true]at d;have q6:=d.2.2.2.2.2.2;simp(maxSteps:=1000000)only[List.take_succ_cons,List.take_zero,List.drop_succ_cons,List.drop_zero,ab,Act.put,List.setIfInBounds_toArray,List.set_cons_zero,List.set_cons_succ,Nat.zero_add,Nat.reduceAdd,d];clear d;generalize xs 6=x6 at *;obtain⟨k6,rfl,cq⟩:=q6;have T:=am n z;have B:=Ext.row z I;have au:=Y.out.ext z;have A:Hid _:=au;clear n au e0 e1 e2 e3 e4 e5 e6 e7 e8 Z f1 f2 f3 f4 f5
 go_wp2_with (first
  | (at_builtin;go_must (refine vg rfl _ _ rfl 0 _ m.pend.length _ rfl T k6 1 _ rfl rfl cq (by simp[Value.oneCell']) (by omega) (Nat.zero_le _) ?_;intro v7 N D l bx;obtain⟨va,vc,rfl⟩:=dD D (by omega);have C:N.heap[g]? = _:=(l.block g (Array.getElem?_eq_some_iff.1 B).1 (fun cn=>by obtain⟨b',ca,G⟩:=A.out.pend.typed g cn.symm;rw[B]at G;simp at G)).trans B))
  | (refine ag rfl 72 (.tmp 34) (.tmp 32) rfl g 3 rfl (.slice (some ⟨va,0,none⟩) (m.pend.length+1) vc) rfl rfl _ _ C (Nat.le_of_ble_eq_true rfl) eT (bc m.room gm gd (.slice (some ⟨va,0,none⟩) (m.pend.length+1) vc) vl m.calls vu (m.time+1) m.down) (by simp) ?_;intro w8 cp M))
 refine NoP.intro ?_
 go_end0
 have c8:w.heap.size<=w6.heap.size:=by have:=a9.size;have:=t.size;have:=z.size;omega
 have U:∀k,Value.ownBlock (.slice pa m.pend.length pc)=some k->¬IsU8 w6 k:=fun k d=>by
  obtain⟨b',ca,G⟩:=A.out.pend.typed k d;exact aw G (by kernel_rfl)
 have c9:KeepR (On R w.heap.size) w6 N:=cw l U;have bS:KeepR R w5 N:=by
  have a:=KeepR.B2 (R:=R) (KeepB.BX z);have b:KeepR R w6 N:=cw l U;exact KeepR.trans a b
 have cm:IsData R N (.slice E f.data.length F) f.data:=(X.out.BZ (dM t r.out.now.Cj)).BZ bS;have cl:IsCh (On R w.heap.size) N [S8 q,S8 [],.bool true,.int .i64 f.mode,.slice E f.data.length F,.int .i64 ((m.time:Int)+1)] (.put q { f with time:=((m.time+1:Nat):Int) }) :=
  ⟨i,_,rfl,cm.mono (fun k d=>.inl d)⟩
 have cs:OwnL N 194 6 (IsCh (On R w.heap.size) N) (.slice (some ⟨va,0,none⟩) (m.pend.length+1) vc) (m.pend++[.put q { f with time:=((m.time+1:Nat):Int) }]) :=
  OwnL.app b7.out D (fun c x hx=>(hx.BZ bS).mono (fun k d=>.inl d)) cl
 have cb:=(A.out.mono (O':=On O w.heap.size) (R':=On R w.heap.size) (fun k d=>.inl d) (fun k d=>.inl d)).Cz l cs (fun k d=>by
  rcases bx k d with h1 | h1
  .exact .inl (A.out.op k h1)
  .exact .inr (by omega))
 refine⟨rfl,IsFs.fit ⟨g,gm,gd,_,vl,vu,L,c0,rfl,cp,.inl hO,cb.own C M,bv,ce⟩,?_⟩;exact((bl.ext z).step l (fun k d=>.inl (A.out.op k d)) U).step M (fun k d=>by cases d;exact .inl hO) (by rintro k d;cases d;exact aw C (by kernel_rfl))
theorem kt {S O R:Nat->Prop} (x y:B8) (c:Ch) (h:IsFs S O R w p m) (hc:∀R w,IsCh R w [S8 x,S8 y,.bool false,.int .i64 0,.slice none 0 0,.int .i64 0] c) (Z:∀t,c.at t=c) (bh:∀s d,c=.mv s d->(aA m.now s).isSome=true) (hl:m.now.length<=10000000) (ct:m.pend.length<=10000000) (ht:m.time<=10000000) :
  Calls Tryz.prog 189 #[p,.agg #[S8 x,S8 y,.bool false,.int .i64 0,.slice none 0 0,.int .i64 0]] w fun e T=>e=.returned (.tuple #[])/\IsFs S (Nw O w T) (Nw R w T) T p (does m c)/\Fr O w T:=by
 obtain⟨g,gm,gd,vp,vl,vu,L,c0,rfl,hg,hO,hP,bo,ca⟩:=h;have P:Ext w (w.alloc (.cells #[S8 x,S8 y,.bool false,.int .i64 0,.slice none 0 0,.int .i64 0] 194)):=(Ext.refl w).alloc _;have K:=Ext.row P hg;have aa:=ae w (.cells #[S8 x,S8 y,.bool false,.int .i64 0,.slice none 0 0,.int .i64 0] 194);have cs:=(Array.getElem?_eq_some_iff.1 hg).1;obtain⟨d0,d1,d2,d3,d4,d5,d6,d7,d8⟩:=ao K;have a':w.heap.size≠g:=by omega
 have HC:Hid _:=hc;have br:Hid _:=Z;have bx:Hid _:=bh;have bS:Hid _:=P;have HP:Hid _:=hP;have HG:Hid _:=hg;have bv:Hid _:=K;have bs:Hid _:=aa;clear hc Z bh P hP hg K aa;go_enter Tryz.func189,Tryz.ntmps189
 go_wp2_with ((refine ag rfl 3 (.tmp 10) (.tmp 8) rfl g 7 rfl (.int .i64 ((m.time:Int)+1)) rfl rfl _ _ bv.out (Nat.le_of_ble_eq_true rfl) fh (bc m.room gm gd vp vl m.calls vu (m.time+1) m.down) (by simp) ?_;intro w2 bb H;obtain⟨a0,a1,a2,a3,a4,a5,a6,a7,a8⟩:=ao bb;have ad:=aV H bs.out a';obtain⟨b0,b1,b2,b3,b4,b5⟩:=cA ad;clear d0 d1 d2 d3 d4 d5 d6 d7 d8))
 apply ak 5 [_,_,_,_,.agg #[S8 x,S8 y,.bool false,.int .i64 0,.slice none 0 0,.int .i64 0]] [none,none,none,none,none] [[],[0],[1],[2],[]] (by kernel_rfl) (by kernel_rfl) (by simp[aq])
 .trivial
 .simp (maxSteps:=1000000)only[List.take_succ_cons,List.take_zero,ay,aE,ab,Act.put,List.setIfInBounds_toArray,List.set_cons_zero,List.set_cons_succ,aN,aS,aq,List.getD_cons_zero,List.getD_cons_succ,and_true,true_and,forall_const];and_intros
  iterate 5 · intro xs wq l;intros;rename_i Y;have c1:=l.cell a1;have c2:=l.cell b0;have c3:=l.cell b1;have c4:=l.cell b2;have c5:=l.cell b3;have c6:=l.cell b4;have c7:=l.cell b5;go_simp;exact Y _ _ (Ext.refl _) rfl
 intro xs w4 q i;simp only[aU,Nat.zero_add,Nat.reduceAdd,and_true]at i;simp(maxSteps:=1000000)only[List.take_succ_cons,List.take_zero,List.drop_succ_cons,List.drop_zero,ab,Act.put,List.setIfInBounds_toArray,List.set_cons_zero,List.set_cons_succ,Nat.zero_add,Nat.reduceAdd,i];clear i;have J:=dZ bS.out H;have V:=(HP.out.own HG.out J).ext q;have b9:=dX J q;have bd:=Ext.row q bb;have au:=Ext.row q ad;have cu:=q.size;have z:Hid _:=V;clear V a0 a1 a2 a3 a4 a5 a6 a7 a8 b0 b1 b2 b3 b4 b5
 go_wp2_with (go_at_call 160;go_must (refine(nf c [S8 x,S8 y,.bool false,.int .i64 0,.slice none 0 0,.int .i64 0] z.out.now (HC.out _ _) bx.out (by omega)).mono ?_;rintro e w5 ⟨rfl,cl,B⟩;have bk:=cD bd (by exact(z.out.now.kind).choose_spec.choose_spec) (by simp);have bl:=cD au (by exact(z.out.now.kind).choose_spec.choose_spec) (by simp);have G:=aV B bd bk;have a9:=aV B au bl;obtain⟨e0,e1,e2,e3,e4,e5,e6,e7,e8⟩:=ao G;obtain⟨f0,f1,f2,f3,f4,f5⟩:=cA a9))
 have W:=z.out.CX B cl;have b':w.grownBy w5 none\/True:=.inr trivial;have U:Hid _:=W;obtain⟨cq,n,o⟩:=U.out.pend;obtain⟨pa,pc,rfl,-⟩:=Row.BV n (by omega);have bt:Hid _:=o;have ba:Fr O w w5:=((Fr.refl O w).step J (fun k i=>by cases i;exact .inl hO) (by rintro k i;cases i;exact aw HG.out (by kernel_rfl))).ext q |>.step B (fun k i=>by cases i;exact .inl HP.out.om) (by rintro k i;cases i;exact z.out.now.Cj);clear W b' o;apply cP 7 0 (.pointer (some ⟨g,0,none⟩)) [.pointer (some ⟨g,0,none⟩),_,_,_,_,.agg #[S8 x,S8 y,.bool false,.int .i64 0,.slice none 0 0,.int .i64 0],undef] [none,none,none,none,none,none,some (fun u T=>∃k,u=.slice (some ⟨k,0,none⟩) 1 1/\T.heap[k]? = some (.cells #[S8 x,S8 y,.bool false,.int .i64 0,.slice none 0 0,.int .i64 0] 194 (0,0)))] [[],[],[1],[2],[3],[],[5]] (by kernel_rfl) (by kernel_rfl) (by simp[aq])
 .refine ⟨?_,trivial⟩
  .exact fun _ _ _ he ⟨k,h1,h3⟩=>⟨k,h1,he.row h3⟩
 .exact ⟨_,rfl,rfl,fun w=>by go_simp⟩
 .exact fun _=>rfl
 .simp (maxSteps:=1000000)only[List.take_succ_cons,List.take_zero,ay,aE,ab,Act.put,List.setIfInBounds_toArray,List.set_cons_zero,List.set_cons_succ,aN,aS,aq,List.getD_cons_zero,List.getD_cons_succ,and_true,true_and,forall_const];and_intros
  iterate 6 · intro xs wq l;intros;rename_i Y;have c1:=l.cell e3;have c2:=l.cell f0;have c3:=l.cell f1;have c4:=l.cell f2;have c5:=l.cell f3;have c6:=l.cell f4;have c7:=l.cell f5;go_simp;exact Y _ _ (Ext.refl _) rfl
  .intro xs wq l i R Y;go_simp;exact Y _ _ ((Ext.refl _).alloc _) ⟨_,rfl,ae _ _⟩
 intro xs w6 r i;simp only[aU,Nat.zero_add,Nat.reduceAdd,and_true]at i;have q6:=i.2.2.2.2.2.2;simp(maxSteps:=1000000)only[List.take_succ_cons,List.take_zero,List.drop_succ_cons,List.drop_zero,ab,Act.put,List.setIfInBounds_toArray,List.set_cons_zero,List.set_cons_succ,Nat.zero_add,Nat.reduceAdd,i];clear i;generalize xs 6=x6 at *;obtain⟨k6,rfl,cn⟩:=q6;have M:=am n r;have C:=Ext.row r G;have X:=U.out.ext r;have A:Hid _:=X;clear n X e0 e1 e2 e3 e4 e5 e6 e7 e8 f0 f1 f2 f3 f4 f5
 go_wp2_with (first
  | (at_builtin;go_must (refine vg rfl _ _ rfl 0 _ m.pend.length _ rfl M k6 1 _ rfl rfl cn (by simp[Value.oneCell']) (by omega) (Nat.zero_le _) ?_;intro v7 Q E j bq;obtain⟨va,vc,rfl⟩:=dD E (by omega);have D:Q.heap[g]? = _:=(j.block g (Array.getElem?_eq_some_iff.1 C).1 (fun ce=>by obtain⟨b6,b7,F⟩:=A.out.pend.typed g ce.symm;rw[C]at F;simp at F)).trans C))
  | (refine ag rfl 72 (.tmp 34) (.tmp 32) rfl g 3 rfl (.slice (some ⟨va,0,none⟩) (m.pend.length+1) vc) rfl rfl _ _ D (Nat.le_of_ble_eq_true rfl) eT (bc m.room gm gd (.slice (some ⟨va,0,none⟩) (m.pend.length+1) vc) vl m.calls vu (m.time+1) m.down) (by simp) ?_;intro w8 cm I))
 refine NoP.intro ?_
 go_end0
 have cv:w.heap.size<=w6.heap.size:=by have:=b9.size;have:=B.size;have:=r.size;omega
 have N:∀k,Value.ownBlock (.slice pa m.pend.length pc)=some k->¬IsU8 w6 k:=fun k i=>by
  obtain⟨b6,b7,F⟩:=A.out.pend.typed k i;exact aw F (by kernel_rfl)
 have cx:KeepR (On R w.heap.size) w6 Q:=cw j N;have cp:KeepR R w5 Q:=by
  have a:=KeepR.B2 (R:=R) (KeepB.BX r);have b:KeepR R w6 Q:=cw j N;exact KeepR.trans a b
 have cb:=HC.out (On R w.heap.size) Q;have co:OwnL Q 194 6 (IsCh (On R w.heap.size) Q) (.slice (some ⟨va,0,none⟩) (m.pend.length+1) vc) (m.pend++[c]) :=
  OwnL.app bt.out E (fun c x hx=>(hx.BZ cp).mono (fun k i=>.inl i)) cb
 have b8:=(A.out.mono (O':=On O w.heap.size) (R':=On R w.heap.size) (fun k i=>.inl i) (fun k i=>.inl i)).Cz j co (fun k i=>by
  rcases bq k i with h1 | h1
  .exact .inl (A.out.op k h1)
  .exact .inr (by omega))
 have cc:does m c={ m with time:=m.time+1,now:=ap m.now c,pend:=m.pend++[c] }:=by unfold does;rw[br.out]
 refine⟨rfl,?_,?_⟩
 .rw [cc];exact IsFs.fit ⟨g,gm,gd,_,vl,vu,L,c0,rfl,cm,.inl hO,b8.own D I,bo,ca⟩
 exact((ba.ext r).step j (fun k i=>.inl (A.out.op k i)) N).step I (fun k i=>by cases i;exact .inl hO) (by rintro k i;cases i;exact aw D (by kernel_rfl))
theorem qJ {S O R:Nat->Prop} (c:Ch) (cs:List Value) (h:IsFs S O R w p m) (k:IsCh R w cs c) (g:∀s d,c=.mv s d->(aA m.now s).isSome=true) (l:m.now.length<=10000000) (a:m.pend.length<=10000000) (n:m.time<=10000000) :
  Calls Tryz.prog 189 #[p,.agg cs.toArray] w fun e i=>e=.returned (.tuple #[])/\IsFs S (Nw O w i) (Nw R w i) i p (does m c)/\Fr O w i:=by
 cases c with
 | put q f =>
  obtain⟨b,v,rfl,j⟩:=k;exact mR q f v h b j l a n
 | mv s d =>
  obtain⟨b,j,o,rfl⟩:=k;exact kt d s (.mv s d) h (fun _ _=>⟨b,j,o,rfl⟩) (fun _=>rfl) g l a n
 | del q =>
  obtain⟨b,rfl⟩:=k;exact kt q [] (.del q) h (fun _ _=>⟨b,rfl⟩) (fun _=>rfl) g l a n
end
section
open Go Go.RowKit
structure FsPost (S O R:Nat->Prop) (w:World) (p:Value) (m:Fs) (w':World):Prop where
 fs:IsFs S (Nw O w w') (Nw R w w') w' p m
 fr:Fr O w w'
variable {w wx w':World} {p:Value} {m:Fs}
theorem FsPost.BX {S O R:Nat->Prop} (b:Ext w wx) (h:FsPost S O (Nw R w wx) wx p m w'):FsPost S O R w p m w':=by
 refine⟨h.fs.mono (fun k a=>?_) (fun k a=>a.nw b.size h.fr.size),(Fr.BX b).trans (h.fr.mono fun k a=>.inl a)⟩;rcases a with a | a
 .exact .inl a
 .exact .inr ⟨Nat.le_trans b.size a.1,a.2⟩
variable {w1:World}
theorem FsPost.trans {S O R:Nat->Prop} {m1:Fs} (a:FsPost S O R w p m1 w1) (h:FsPost S (Nw O w w1) (Nw R w w1) w1 p m w'):FsPost S O R w p m w' :=
 ⟨h.fs.mono (fun k b=>b.nw a.fr.size h.fr.size) (fun k b=>b.nw a.fr.size h.fr.size),a.fr.trans h.fr⟩
theorem FsPost.same {S O R:Nat->Prop} (h:IsFs S O R w p m) (b:Ext w w'):FsPost S O R w p m w' :=
 ⟨(h.ext b).mono (fun k a=>.inl a) (fun k a=>.inl a),Fr.BX b⟩
theorem FsPost.ext {S O R:Nat->Prop} (h:FsPost S O R w p m w1) (a:Ext w1 w'):FsPost S O R w p m w' :=
 h.trans (FsPost.same h.fs a)
theorem FsPost.pre {S O R:Nat->Prop} (b:Ext w wx) (h:FsPost S O R wx p m w'):FsPost S O R w p m w':=FsPost.BX b ⟨h.fs.mono (fun k a=>a) (fun k a=>a.imp .inl id),h.fr⟩
def mL:Ch->Prop
 | .put p f=>az p=true/\f.data.length<=20000
 | .mv s d=>az s=true/\az d=true/\s≠d
 | .del p=>az p=true
structure OkM (m:Fs):Prop where
 B7:m.now.length<=m.time
 CO:m.sure.length<=m.time
 Cn:m.pend.length<=m.time
 C8:m.sure.length+m.pend.length<=m.time
 Cg:m.users.length<=m.time
 Cl:∀e∈m.now,az e.1=true/\e.2.data.length<=20000
 CN:∀e∈m.sure,az e.1=true/\e.2.data.length<=20000
 CA:∀c∈m.pend,mL c
 fold:m.pend.foldl ap m.sure=m.now
 De:∀k s d,m.pend[k]? = some (.mv s d)->(aA ((m.pend.take k).foldl ap m.sure) s).isSome=true
theorem kK {p:B8} (h:az p=true):p.length<=200:=by
 unfold az at h;simp only[Bool.and_eq_true,decide_eq_true_eq]at h;exact h.1
theorem oY {p:B8} (h:az p=true):p≠[]:=by
 rintro rfl
 revert h;decide
theorem AM {l:ax} {n:Nat} (h:l.length<=n) (a:∀e∈l,e.2.data.length<=20000):cV l<=20000*n:=by
 have:cV l<=20000*l.length:=by
  unfold cV
  induction l with
  | nil=>simp
  | cons e l c =>
   have d:=a e (by simp);have g:=c (by simp at h;omega) (fun e b=>a e (by simp[b]));simp only[List.map_cons,List.sum_cons,List.length_cons,Nat.mul_add];omega
 exact Nat.le_trans this (Nat.mul_le_mul_left _ h)
theorem gT {S O R:Nat->Prop} (path:B8) (mode:Int) (v:Value) (data:B8) (fits:Bool) (hE:Env w) (h:IsFs S O R w p m) (A:OkM m) (ht:m.time<=9000000) (hp:path.length<=1000) (X:IsBytes w v data) (au:data.length<=20000) (E:kD m.now path []=et m.now path []) :
  Calls Tryz.prog 134 #[p,S8 path,.int .i64 mode,v,.bool fits] w fun e w'=>e=.returned (.int .i64 (bu m path mode data fits).2)/\FsPost S O R w p (bu m path mode data fits).1 w':=by
 have I:Hid _:=h;obtain⟨g,gm,gd,vp,vl,vu,L,c0,rfl,W,hO,V,-,-⟩:=h;obtain⟨d0,d1,d2,d3,d4,d5,d6,d7,d8⟩:=ao W;obtain⟨a2,q,-,B,C⟩:=V.now.Ca path (by omega);have a0:=(Array.getElem?_eq_some_iff.1 W).1;have aa:g≠w.heap.size:=by omega
 have N:Hid _:=hE;have Z:Hid _:=X;have P:Hid _:=V.now;have ad:Hid _:=A;have Q:Hid _:=E;have hl:=A.B7;have a1:=A.Cn;obtain⟨a,c,rfl,-⟩:=X.get;clear W V hE X A E;have D:∀fits,bu m path mode data fits=if(aA m.now path).isNone/\et m.now path []=false then(m,9)else if fits=false then(m,10)else(does m (.put path ⟨mode,data,0⟩),0):=fun _=>rfl
 have i:Hid _:=D;clear D;have J:∀(M l y:World) (va:Option Addr) (vc:Nat),Ext w M->IsData (Nu M l) l (.slice va data.length vc) data->Ext M l->(IsFs S (Nw O l y) (Nw (Nw R w l) l y) y (.pointer (some ⟨g,0,none⟩)) (does m (.put path ⟨mode,data,0⟩))/\Fr O l y)->FsPost S O R w (.pointer (some ⟨g,0,none⟩)) (does m (.put path ⟨mode,data,0⟩)) y:=fun M l y va vc h1 _ h2 h3=>FsPost.BX (h1.trans h2) ⟨h3.1,h3.2⟩
 have H:Hid _:=J;clear J
 cases b:aA m.now path with
 | some f =>
  have j:bu m path mode data false=(m,10)/\bu m path mode data true=(does m (.put path ⟨mode,data,0⟩),0):=by rw[i.out,i.out,b];simp
  have n:Hid _:=j;rw[b]at q;obtain⟨sv,rfl,K⟩:=B f b;obtain⟨s1,s2,rfl,-⟩:=K.bytes;simp only[Option.isSome_some]at q;clear B C K b j
  cases fits with
  | false =>
   go_enter Tryz.func134,Tryz.ntmps134;go_wp2;go_ret;rw[n.out.1];exact⟨rfl,FsPost.same I.out ((Ext.refl _).alloc _)⟩
  | true =>
   go_enter Tryz.func134,Tryz.ntmps134
   go_wp2_with (first
    | (go_at_call 54;go_must (refine(eL _ data _ (IsBytes.ext Z.out ((Ext.refl _).alloc _)) (by omega)).mono ?_;rintro e l ⟨⟨v2,rfl,o⟩,d⟩;obtain⟨T,U,rfl,-⟩:=id o.bytes;have x:Hid _:=o;clear o))
    | (go_at_call 189;go_must (refine(mR (R:=Nw R w l) path ⟨mode,data,0⟩ (.slice T data.length U) (IsFs.mono (IsFs.ext I.out (((Ext.refl _).alloc _).trans d)) (fun k t=>t) (fun k t=>.inl t)) (by omega) (x.out.mono (fun k t=>.inr ⟨Nat.le_trans (by simp) t.1,t.2⟩)) (by omega) (by omega) (by omega)).mono ?_;rintro e y ⟨rfl,F,G⟩)))
   go_ret;rw[n.out.2];exact⟨rfl,H.out _ l y _ _ ((Ext.refl _).alloc _) x.out d ⟨F,G⟩⟩
 | none =>
  rw[b]at q;obtain rfl:=C b;simp only[Option.isSome_none]at q
  cases u:et m.now path []with
  | false =>
   have j:bu m path mode data fits=(m,9):=by rw[i.out,b,u];simp
   have n:Hid _:=j;have z:Hid _:=u;clear B C b j u;go_enter Tryz.func134,Tryz.ntmps134
   go_wp2_with (go_at_call 188;go_must (refine(ma path [] (N.out.ext ((Ext.refl _).alloc _)) (P.out.ext ((Ext.refl _).alloc _)) (by omega)).mono ?_;rw[Q.out,z.out];rintro e l ⟨rfl,d⟩))
   go_ret;rw[n.out];exact⟨rfl,FsPost.same I.out (((Ext.refl _).alloc _).trans d)⟩
  | true =>
   have j:bu m path mode data false=(m,10)/\bu m path mode data true=(does m (.put path ⟨mode,data,0⟩),0):=by rw[i.out,i.out,b,u];simp
   have n:Hid _:=j;have z:Hid _:=u;clear B C b j u
   cases fits with
   | false =>
    go_enter Tryz.func134,Tryz.ntmps134
    go_wp2_with (go_at_call 188;go_must (refine(ma path [] (N.out.ext ((Ext.refl _).alloc _)) (P.out.ext ((Ext.refl _).alloc _)) (by omega)).mono ?_;rw[Q.out,z.out];rintro e l ⟨rfl,d⟩))
    go_ret;rw[n.out.1];exact⟨rfl,FsPost.same I.out (((Ext.refl _).alloc _).trans d)⟩
   | true =>
    go_enter Tryz.func134,Tryz.ntmps134
    go_wp2_with (first
     | (go_at_call 188;go_must (refine(ma path [] (N.out.ext ((Ext.refl _).alloc _)) (P.out.ext ((Ext.refl _).alloc _)) (by omega)).mono ?_;rw[Q.out,z.out];rintro e M ⟨rfl,Y⟩;have r:=((Ext.refl _).alloc _).trans Y))
     | (go_at_call 54;go_must (refine(eL _ data _ (IsBytes.ext Z.out r) (by omega)).mono ?_;rintro e l ⟨⟨v2,rfl,o⟩,d⟩;obtain⟨T,U,rfl,-⟩:=id o.bytes;have x:Hid _:=o;clear o))
     | (go_at_call 189;go_must (refine(mR (R:=Nw R w l) path ⟨mode,data,0⟩ (.slice T data.length U) (IsFs.mono (IsFs.ext I.out (r.trans d)) (fun k t=>t) (fun k t=>.inl t)) (by omega) (x.out.mono (fun k t=>.inr ⟨Nat.le_trans r.size t.1,t.2⟩)) (by omega) (by omega) (by omega)).mono ?_;rintro e y ⟨rfl,F,G⟩)))
    go_ret;rw[n.out.2];exact⟨rfl,H.out _ l y _ _ r x.out d ⟨F,G⟩⟩
end
end Go.Proofs.YtfabjgfmiaammaaGreatDoor
