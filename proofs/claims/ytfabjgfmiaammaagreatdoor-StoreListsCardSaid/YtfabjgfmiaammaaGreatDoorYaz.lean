/- Contracts of the program's functions and plain laws behind the card. Conditions: as each theorem states. -/
import Derived.Test.YtfabjgfmiaammaaGreatDoorYan
import Derived.Test.YtfabjgfmiaammaaGreatDoorYah
import Derived.Test.YtfabjgfmiaammaaGreatDoorYap
import Derived.Test.YtfabjgfmiaammaaGreatDoorYaw
import Derived.Deep.DeepCutAuto
set_option linter.unusedVariables false
set_option linter.unusedSimpArgs false
set_option linter.unusedSectionVars false
set_option maxRecDepth 100000
set_option maxHeartbeats 64000000
namespace Go.Proofs.YtfabjgfmiaammaaGreatDoor
section
open Go Go.RowKit Go.Sort
def okC (c:UInt8):Bool:=decide (32<=c.toNat) && decide (c.toNat<=126)
variable {k:Nat}
theorem me {s:ByteArray} (h:k<s.size) (a:okC s[k]=false):dS s.data.toList=false:=by
 unfold dS;rw[Bool.and_eq_false_iff];refine .inl (List.all_eq_false.2 ⟨s[k],?_,by show ¬okC _=true;rw[a];simp⟩);have:s.data.toList[k]? = some s[k]:=by
  rw[List.getElem?_eq_getElem (by simpa using h)];rfl
 exact List.mem_of_getElem? this
theorem yv (s:ByteArray) (w:World) (q:s.size<4294967281) :
  Calls Tryz.prog 198 #[.string s] w fun e l=>e=.returned (.bool (dS s.data.toList))/\l=w:=by
 go_enter Tryz.func198,Tryz.ntmps198;go_wp2
 go_loop [6] (fun i=>∃k:Nat,k<=s.size/\i=.int .i64 k/\(s.data.toList.take k).all okC=true) (fun i=>s.size - (intOf i).toNat)
 case atStart=>exact⟨0,Nat.zero_le _,rfl,rfl⟩
 case round =>
  obtain⟨k,p,rfl,h⟩:=hrel;have d:Hid _:=h;clear h
  by_cases b:k<s.size
  .by_cases n:(s[k].toNat:Int)<32
   .go_wp2;go_ret;exact⟨an (me b (by unfold okC;rw[decide_eq_false (by omega)];rfl)).symm,rfl⟩
   .by_cases o:(126:Int)<s[k].toNat
    .go_wp2;go_ret;exact⟨an (me b (by unfold okC;rw[decide_eq_false (by omega:¬s[k].toNat<=126)];simp)).symm,rfl⟩
    .go_wp2
     go_round
     case rel =>
      exact⟨k+1,by omega,by go_num,by rw[lT s k b,List.all_append,d.out];simp[okC];omega⟩
     case measure=>simp[intOf];omega
  .have c:k=s.size:=by omega
   have a:s.data.toList.all okC=true:=by
    have:=d.out
    rwa [c,List.take_of_length_le (by simp)]at this
   have j:Hid _:=a;clear a d c;go_wp2;go_ret;refine⟨an ?_,rfl⟩;show _=(s.data.toList.all okC && decide (s.data.toList.length<=200));rw[j.out];have g:s.data.toList.length=s.size:=by simp
   rw[g,Bool.true_and];exact decide_eq_decide.2 (by omega)
theorem uE (l:B8) (w:World) (a:l.length<4294967281) :
  Calls Tryz.prog 198 #[S8 l] w fun e b=>e=.returned (.bool (dS l))/\b=w:=yv ⟨l.toArray⟩ w a
theorem ox:∀(l:List B8) (a b:B8),bJ (l++[a,b])=(bJ (l++[a]) && ltB a b)
 | [],a,b=>by simp[bJ]
 | [x],a,b=>by simp[bJ]
 | x::y::l,a,b=>by
  have h:=ox (y::l) a b;show(ltB x y && bJ (y::l++[a,b]))=(ltB x y && bJ (y::l++[a]) && ltB a b);rw[h,Bool.and_assoc]
variable {l:List B8}
theorem oy {a b:B8} (e:l[k]? = some a) (g:l[k+1]? = some b):bJ (l.take (k+2))=(bJ (l.take (k+1)) && ltB a b):=by
 have c:l.take (k+1)=l.take k++[a]:=by rw[List.take_add_one,e];rfl
 have d:l.take (k+2)=l.take k++[a,b]:=by rw[List.take_add_one,g,c,List.append_assoc];rfl
 rw[c,d,ox]
theorem lM:∀(l:List B8) (k:Nat),bJ l=true->bJ (l.take k)=true
 | [],k,_=>by rw[List.take_nil];rfl
 | [x],k,_=>by cases k <;> simp[bJ]
 | x::y::l,0,_=>rfl
 | x::y::l,1,_=>rfl
 | x::y::l,k+2,h=>by
  have h:(ltB x y && bJ (y::l))=true:=h;rw[Bool.and_eq_true]at h;have a:=lM (y::l) (k+1) h.2;show(ltB x y && bJ (y::(l.take k)))=true;rw[h.1];exact a
def kI (l:List B8) (k:Nat):Bool:=(l.take k).all al && bJ (l.take k)
theorem ru (h:kI l k=false):dJ l=false:=by
 unfold kI at h;unfold dJ;rw[Bool.and_eq_false_iff]at h ⊢;rcases h with h | h
 .left;rw[List.all_eq_false]at h ⊢;obtain⟨x,c,b⟩:=h;exact⟨x,List.mem_of_mem_take c,b⟩
 .right;rw[Bool.and_eq_false_iff];left
  cases a:bJ l with
  | false=>rfl
  | true=>rw[lM l k a]at h;cases h
theorem wR {x:B8} (a:l[k]? = some x):kI l (k+1)=(kI l k && (al x && (decide (k=0) || ltB (l.getD (k - 1) []) x))):=by
 unfold kI;have b:l.take (k+1)=l.take k++[x]:=by rw[List.take_add_one,a];rfl
 rw[b,List.all_append];simp only[List.all_cons,List.all_nil,Bool.and_true]
 cases k with
 | zero=>simp[bJ]
 | succ j =>
  have d:j<l.length:=by have:=(List.getElem?_eq_some_iff.1 a).1;omega
  have e:l[j]? = some (l.getD j []):=by rw[List.getD_eq_getElem?_getD,List.getElem?_eq_getElem d];rfl
  have c:=oy e a;rw[b]at c;rw[c];simp only[Nat.add_one_sub_one,Nat.add_eq_zero_iff,Nat.one_ne_zero,and_false,decide_false,Bool.false_or]
  cases(l.take (j+1)).all al <;> cases al x <;> cases bJ (l.take (j+1)) <;> cases ltB (l.getD j []) x <;> rfl
theorem jB (x y:B8):(ltB y x=true/\Op.bytesLess x y=false/\(x==y)=false)\/(ltB y x=false/\Op.bytesLess x y=true)\/(ltB y x=false/\Op.bytesLess x y=false/\(x==y)=true):=by
 rw[kC]
 cases a:ltB y x with
 | true =>
  refine .inl ⟨rfl,pK a,?_⟩;rw[beq_eq_false_iff_ne];exact fun e=>(jh a) e.symm
 | false =>
  by_cases b:x=y
  .subst b;exact .inr (.inr ⟨rfl,by rw[a],by simp⟩)
  .exact .inr (.inl ⟨rfl,fZ a (fun e=>b e.symm)⟩)
theorem oR (v:Value) (l:List B8) (w:World) (L:IsStrs w v l) (K:∀s∈l,s.length<=140737488355328) :
  Calls Tryz.prog 197 #[v] w fun e U=>e=.returned (.bool (dJ l))/\Ext w U:=by
 obtain⟨a,c,rfl,Y,Z,l3,J⟩:=L.get;have N:Hid _:=J;have O:Hid _:=K;clear L J K;go_enter Tryz.func197,Tryz.ntmps197;go_wp2;go_loopw [7] (fun i wr=>∃k:Nat,k<=l.length/\i=.int .i64 k/\Hid (kI l k=true)/\Hid (Ext w wr)) (fun i _=>l.length - (intOf i).toNat)
 case atStart=>exact⟨0,Nat.zero_le _,rfl,rfl,Ext.refl _⟩
 case round =>
  obtain⟨k,Q,rfl,H,A⟩:=hrel
  by_cases b:k<l.length
  .obtain ⟨x,t⟩:∃x,l[k]? = some x:=⟨_,List.getElem?_eq_getElem b⟩;obtain⟨X,oo,rfl,B⟩:=N.out k b;have T:=O.out x (List.mem_of_getElem? t);have G:=A.out.cell (B k b);rw[show l.getD k []=x by rw[List.getD_eq_getElem?_getD,t];rfl]at G;have d:=wR t;rw[H.out,Bool.true_and]at d;obtain⟨F,o⟩:∃F,al x=F:=⟨_,rfl⟩;rw[o]at d;have y:Hid _:=o;have n:Hid _:=d;have M:Hid _:=B;clear d o t B;go_wp2_with fail;go_at_call 17;refine(fp x wr (by omega)).mono ?_;rw[y.out];rintro e V ⟨rfl,p⟩;have g:Hid (Ext w V):=A.out.trans p;have y2:=p.cell G;clear p G
   cases F with
   | false =>
    have q:Hid (dJ l=false):=ru (k:=k+1) (by rw[n.out];rfl);go_wp2;go_ret;exact⟨an q.out.symm,g.out⟩
   | true =>
    by_cases C:k=0
    .subst C;have u:Hid (kI l 1=true):=by unfold Hid;rw[n.out];rfl
     go_wp2;go_roundw
     case rel=>exact⟨1,by omega,by go_num,u,g⟩
     case measure=>simp[intOf];omega
    .obtain ⟨j,rfl⟩:∃j,k=j+1:=⟨k - 1,by omega⟩;have S:IntKind.i64.wrap (((j+1:Nat):Int) - 1)=(j:Int):=by rw[IntWalk.i64_in _ (by omega)];omega
     have W:=g.out.cell (M.out j (by omega));obtain⟨z,E⟩:∃z,l.getD j []=z:=⟨_,rfl⟩;rw[E]at W;have d:=n.out;rw[show j+1 - 1=j from rfl,E]at d;have h:Hid _:=d;have R:(0:Int)<((j+1:Nat):Int):=by omega
     clear E d;rcases jB x z with⟨b,I,P⟩ | ⟨b,I⟩ | ⟨b,I,P⟩
     .have u:Hid (kI l (j+1+1)=true):=by unfold Hid;rw[h.out,b];simp
      clear b;go_wp2;go_roundw
      case rel=>exact⟨j+1+1,by omega,by go_num,u,g⟩
      case measure=>simp[intOf];omega
     iterate 2
      .have q:Hid (dJ l=false):=ru (k:=j+1+1) (by rw[h.out,b];simp);clear b;go_wp2;go_ret;exact⟨an q.out.symm,g.out⟩
  .have D:k=l.length:=by omega
   have q:Hid (dJ l=decide (l.length<=2)):=by
    have r:=H.out;unfold kI at r;rw[D,List.take_length,Bool.and_eq_true]at r;unfold Hid dJ;rw[r.1,r.2,Bool.true_and,Bool.true_and]
   clear Q;go_wp2;go_ret;refine⟨an ?_,A.out⟩;rw[q.out];exact decide_eq_decide.2 (by omega)
def itC (x:Itm):List Value:=[.int .i64 x.mode,S8 x.name,S8 x.id]
def IsItms (w:World) (v:Value) (l:List Itm):Prop:=Row w v l.length (l.flatMap itC)
abbrev obV (o:Ob) (a b c:Value):Value:=.agg #[.int .i64 o.kind,a,b,S8 o.tree,c,.int .i64 o.BU,.int .i64 o.BS,S8 o.msg]
def IsOb (w:World) (v:Value) (o:Ob):Prop:=∃a b c,v=obV o a b c/\IsBytes w a o.data/\IsItms w b o.items/\IsStrs w c o.parents
variable {w w':World} {v:Value}
theorem IsItms.ext {l:List Itm} (h:IsItms w v l) (a:Ext w w'):IsItms w' v l:=Row.ext h a
theorem IsOb.ext {o:Ob} (h:IsOb w v o) (a:Ext w w'):IsOb w' v o:=by
 obtain⟨e,g,i,rfl,b,c,d⟩:=h;exact⟨e,g,i,rfl,b.ext a,c.ext a,d.ext a⟩
theorem tA:∀(l:List Itm) (k:Nat) (x:Itm),l[k]? = some x->(l.flatMap itC)[3*k]? = some (.int .i64 x.mode)/\(l.flatMap itC)[3*k+1]? = some (S8 x.name)/\(l.flatMap itC)[3*k+2]? = some (S8 x.id)
 | [],k,x,h=>by simp at h
 | y::l,0,x,h=>by
  simp only[List.getElem?_cons_zero,Option.some.injEq]at h;subst h;exact⟨rfl,rfl,rfl⟩
 | y::l,k+1,x,h=>by
  simp only[List.getElem?_cons_succ]at h;have a:=tA l k x h;rw[List.flatMap_cons];have e:itC y=[.int .i64 y.mode,S8 y.name,S8 y.id]:=rfl;rw[e,show 3*(k+1)=3*k+1+1+1 by omega];exact a
theorem IsItms.get {l:List Itm} (h:IsItms w v l):∃a c,v=.slice a l.length c/\l.length<=c/\l.length<=140737488355328/\c<=9223372036854775807 /\
  ∀k x,l[k]? = some x->∃b o,a=some ⟨b,o,none⟩/\w.cell? ⟨b,o+k*3,none⟩=some (.int .i64 x.mode)/\w.cell? ⟨b,o+k*3+1,none⟩=some (S8 x.name)/\w.cell? ⟨b,o+k*3+2,none⟩=some (S8 x.id):=by
 obtain⟨a,c,rfl,n,p,q,r⟩:=h;refine⟨a,c,rfl,n,q,p,fun k x t=>?_⟩;obtain⟨d,i,j⟩:=tA l k x t;obtain⟨b,o,rfl,g⟩:=r (by intro e;rw[e]at d;simp at d);refine⟨b,o,rfl,?_,?_,?_⟩
 .have:=g _ _ d;rwa [Nat.mul_comm]at this
 .have:=g _ _ i;rwa [Nat.mul_comm,<-Nat.add_assoc]at this
 .have:=g _ _ j;rwa [Nat.mul_comm,<-Nat.add_assoc]at this
theorem rp (o:Ob) (G H E:Value) (w:World) (D:IsStrs w E o.parents) :
  Calls Tryz.prog 195 #[obV o G H E] w fun e w'=>e=.returned (.bool (gZ o))/\Ext w w':=by
 obtain⟨x,q,l,d,a,c,b,h⟩:=o;obtain⟨L,M,rfl,I,J,K,-⟩:=D.get;obtain⟨r,y⟩:∃r,gZ ⟨x,q,l,d,a,c,b,h⟩=r:=⟨_,rfl⟩;rw[y];have u:((d==[]) && ((a.length==0) && ((c==0) && ((b==0) && (h==[])))))=r:=y;have n:Hid _:=u;clear y u D;unfold obV;dsimp only;go_enter Tryz.func195,Tryz.ntmps195
 by_cases i:d=[]
 .have z:(d==([]:B8))=true:=by simpa using i
  by_cases j:a.length=0
  .have F:((a.length:Int)==0)=true:=by rw[beq_iff_eq];omega
   by_cases k:c=0
   .have A:(c==0)=true:=by simpa using k
    by_cases p:b=0
    .have B:(b==0)=true:=by simpa using p
     by_cases t:h=[]
     .have C:(h==([]:B8))=true:=by simpa using t
      have g:Hid (r=true):=by unfold Hid;rw[<-n.out,i,j,k,p,t];rfl
      clear i j k p t;go_wp2;go_ret;exact⟨an g.out.symm,(Ext.refl w).alloc _⟩
     .have C:(h==([]:B8))=false:=by simpa using t
      have g:Hid (r=false):=by unfold Hid;rw[<-n.out,C];simp
      clear i j k p t;go_wp2;go_ret;exact⟨an g.out.symm,(Ext.refl w).alloc _⟩
    .have B:(b==0)=false:=by simpa using p
     have g:Hid (r=false):=by unfold Hid;rw[<-n.out,B];simp
     clear i j k p;go_wp2;go_ret;exact⟨an g.out.symm,(Ext.refl w).alloc _⟩
   .have A:(c==0)=false:=by simpa using k
    have g:Hid (r=false):=by unfold Hid;rw[<-n.out,A];simp
    clear i j k;go_wp2;go_ret;exact⟨an g.out.symm,(Ext.refl w).alloc _⟩
  .have F:((a.length:Int)==0)=false:=by rw[beq_eq_false_iff_ne];omega
   have g:Hid (r=false):=by unfold Hid;rw[<-n.out,show(a.length==0)=false by simpa using j];simp
   clear i j;go_wp2;go_ret;exact⟨an g.out.symm,(Ext.refl w).alloc _⟩
 .have z:(d==([]:B8))=false:=by simpa using i
  have g:Hid (r=false):=by unfold Hid;rw[<-n.out,z];simp
  clear i;go_wp2;go_ret;exact⟨an g.out.symm,(Ext.refl w).alloc _⟩
end
section
open Go Go.RowKit Go.Sort
def itT (l:List Itm) (k:Nat):Bool:=(l.take k).all bM && bJ ((l.take k).map (·.name))
variable {l:List Itm} {k:Nat}
theorem tF (h:itT l k=false):cI l=false:=by
 unfold itT at h;unfold cI;rw[Bool.and_eq_false_iff]at h ⊢;rcases h with h | h
 .left;rw[List.all_eq_false]at h ⊢;obtain⟨x,d,c⟩:=h;exact⟨x,List.mem_of_mem_take d,c⟩
 .right;rw[Bool.and_eq_false_iff];left
  cases b:bJ (l.map (·.name))with
  | false=>rfl
  | true =>
   have a:=lM (l.map (·.name)) k b;rw[<-List.map_take,h]at a;cases a
def iB:Itm:=⟨0,[],[]⟩
variable {x:Itm}
theorem qX (a:l[k]? = some x):itT l (k+1)=(itT l k && (bM x && (decide (k=0) || ltB (l.getD (k - 1) iB).name x.name))):=by
 unfold itT;have b:l.take (k+1)=l.take k++[x]:=by rw[List.take_add_one,a];rfl
 cases k with
 | zero =>
  rw[b];simp[bJ]
 | succ j =>
  have g:j<l.length:=by have:=(List.getElem?_eq_some_iff.1 a).1;omega
  have h:l[j]? = some (l.getD j iB):=by rw[List.getD_eq_getElem?_getD,List.getElem?_eq_getElem g];rfl
  have d:(l.map (·.name))[j]? = some (l.getD j iB).name:=by rw[List.getElem?_map,h];rfl
  have e:(l.map (·.name))[j+1]? = some x.name:=by rw[List.getElem?_map,a];rfl
  have c:=oy d e;rw[<-List.map_take,<-List.map_take]at c;rw[c,b,List.all_append];simp only[List.all_cons,List.all_nil,Bool.and_true,Nat.add_one_sub_one,Nat.add_eq_zero_iff,Nat.one_ne_zero,and_false,decide_false,Bool.false_or]
  cases(l.take (j+1)).all bM <;> cases bM x <;> cases bJ ((l.take (j+1)).map (·.name)) <;> cases ltB (l.getD j iB).name x.name <;> rfl
variable {t r b:Bool}
theorem jA (h:t = !r) (a:t=(bM x && b)) (c:bM x=false):r=true:=by
 rw[c,Bool.false_and]at a;rw[a]at h;cases r
 .cases h
 .rfl
theorem vW (h:t = !r) (a:t=(bM x && b)) (c:b=false):r=true:=by
 rw[c,Bool.and_false]at a;rw[a]at h;cases r
 .cases h
 .rfl
theorem nR (h:t = !r) (a:t=(bM x && b)) (d:bM x=true) (c:b=true):r=false:=by
 rw[d,c]at a;rw[a]at h;cases r
 .rfl
 .cases h
def gH (l:List Itm):Prop:=∀x∈l,x.name.length<=140737488355328/\x.id.length<=140737488355328
theorem rj (v:Value) (l:List Itm) (w:World) (hv:IsItms w v l) (hs:gH l) :
  Calls Tryz.prog 196 #[v] w fun e w'=>e=.returned (.bool (cI l))/\Ext w w':=by
 obtain⟨a,c,rfl,l1,l2,l3,hg⟩:=hv.get;have HG:Hid _:=hg;have HS:Hid _:=hs;clear hv hg hs;go_enter Tryz.func196,Tryz.ntmps196;go_wp2;go_loopw [7] (fun i wr=>∃k:Nat,k<=l.length/\i=.int .i64 k/\Hid (itT l k=true)/\Hid (Ext w wr)) (fun i _=>l.length - (intOf i).toNat)
 case atStart=>exact⟨0,Nat.zero_le _,rfl,rfl,Ext.refl _⟩
 case round =>
  obtain⟨k,hk,rfl,HT,H⟩:=hrel
  by_cases a1:k<l.length
  .obtain ⟨x,hx⟩:∃x,l[k]? = some x:=⟨_,List.getElem?_eq_getElem a1⟩;obtain⟨bb,oo,rfl,T,U,V⟩:=HG.out k x hx;obtain⟨a3,a2⟩:=HS.out x (List.mem_of_getElem? hx);have L:=qX hx;rw[HT.out,Bool.true_and]at L;have u:Hid _:=L;have D:Hid (∀j,k=j+1->wr.cell? ⟨bb,oo+j*3+1,none⟩=some (S8 (l.getD j iB).name)):=fun j hj=>by
    subst hj;have Y:j<l.length:=by omega
    obtain⟨b2,o2,W,-,F,-⟩:=HG.out j (l.getD j iB) (by rw[List.getD_eq_getElem?_getD,List.getElem?_eq_getElem Y];rfl);cases W;exact H.out.cell F
   have y0:=H.out.cell T;have y1:=H.out.cell U;have y2:=H.out.cell V;obtain⟨h,name,id⟩:=x;dsimp only at y0 y1 y2 a3 a2;clear L hx T U V;go_upto_region 4 with fail;obtain⟨C,E⟩:∃C,C=wr.alloc (.cells #[.int .i64 h,S8 name,S8 id] 130):=⟨_,rfl⟩;have N:Ext wr C:=by rw[E];exact(Ext.refl _).alloc _
   have I:C.heap[wr.heap.size]? = some (.cells #[.int .i64 h,S8 name,S8 id] 130 (0,0)):=by rw[E];exact ae _ _
   rw[<-E];obtain⟨gi,X⟩:∃gi,wr.heap.size=gi:=⟨_,rfl⟩;rw[X]at I ⊢;obtain⟨z0,z1,z2⟩:=bL I;have au:Hid (Ext w C):=H.out.trans N;have ad:Hid (∀j,k=j+1->C.cell? ⟨bb,oo+j*3+1,none⟩=some (S8 (l.getD j iB).name)):=fun j hj=>N.cell (D.out j hj)
   have v0:=fun d A=>cell_regrown z0 d A
   have v1:=fun d A=>cell_regrown z1 d A
   have v2:=fun d A=>cell_regrown z2 d A
   obtain⟨nb,J⟩:∃nb,bW name=nb:=⟨_,rfl⟩;obtain⟨vb,M⟩:∃vb,al id=vb:=⟨_,rfl⟩;have Q:Hid _:=J;have R:Hid _:=M;have t:Hid (∀d A,Calls Tryz.prog 120 #[S8 name] (grow (redrawn C d) A) fun e w'=>e=.returned (.bool nb)/\∃q:Regrown,w'=grow (redrawn C q.d) q.os):=fun d A =>
    (ni name _ (by omega)).mono (fun _ _ ⟨W,hw⟩=>⟨by rw[W,J],⟨d,A⟩,hw⟩)
   have y:Hid (∀d A,Calls Tryz.prog 17 #[S8 id] (grow (redrawn C d) A) fun e w'=>e=.returned (.bool vb)/\∃q:Regrown,w'=grow (redrawn C q.d) q.os):=fun d A=>Calls.regrown_of (by
    have F:=fp id (grow (redrawn C d) A) (by omega)
    rwa [M]at F)
   obtain⟨r,G⟩:∃c,itT l (k+1) = !c:=⟨!itT l (k+1),by simp⟩;have p:Hid _:=G;clear E N I X z0 z1 z2 y0 y1 y2 J M G D H;go_cut [46] (fun c wx=>c=.bool r/\Ext C wx)
   case first =>
    by_cases h1:h<1
    .have B:Hid (r=true):=jA p.out u.out (by unfold bM;rw[decide_eq_false (by omega:¬1<=h)];rfl);refine dg (by kernel_rfl) (by kernel_rfl) ?_
     repeat (refine dG (fun K g=>?_);go_simp;first | (refine g _ ?_;clear g K) | (apply Exists.intro;refine⟨fun _=>?_,g _ ?_⟩;(first | exact t.out _ _ | exact y.out _ _);clear g K))
     refine ej ?_;intro _ n;obtain⟨⟨O,osq⟩,b⟩:=n;subst b;go_wp2_with fail;go_meet
     case rel=>exact⟨by rw[B.out],Ext.B6 _ _ _⟩
    by_cases h2:4<h
    .have B:Hid (r=true):=jA p.out u.out (by unfold bM;rw[decide_eq_false (by omega:¬h<=4)];simp);refine dg (by kernel_rfl) (by kernel_rfl) ?_
     repeat (refine dG (fun K g=>?_);go_simp;first | (refine g _ ?_;clear g K) | (apply Exists.intro;refine⟨fun _=>?_,g _ ?_⟩;(first | exact t.out _ _ | exact y.out _ _);clear g K))
     refine ej ?_;intro _ n;obtain⟨⟨O,osq⟩,b⟩:=n;subst b;go_wp2_with fail;go_meet
     case rel=>exact⟨by rw[B.out],Ext.B6 _ _ _⟩
    cases nb with
    | false =>
     have B:Hid (r=true):=jA p.out u.out (by unfold bM;rw[Q.out];simp);refine dg (by kernel_rfl) (by kernel_rfl) ?_
     repeat (refine dG (fun K g=>?_);go_simp;first | (refine g _ ?_;clear g K) | (apply Exists.intro;refine⟨fun _=>?_,g _ ?_⟩;(first | exact t.out _ _ | exact y.out _ _);clear g K))
     refine ej ?_;intro _ n;obtain⟨⟨O,osq⟩,b⟩:=n;subst b;go_wp2_with fail;go_meet
     case rel=>exact⟨by rw[B.out],Ext.B6 _ _ _⟩
    | true =>
    cases vb with
    | false =>
     have B:Hid (r=true):=jA p.out u.out (by unfold bM;rw[R.out];simp);refine dg (by kernel_rfl) (by kernel_rfl) ?_
     repeat (refine dG (fun K g=>?_);go_simp;first | (refine g _ ?_;clear g K) | (apply Exists.intro;refine⟨fun _=>?_,g _ ?_⟩;(first | exact t.out _ _ | exact y.out _ _);clear g K))
     refine ej ?_;intro _ n;obtain⟨⟨O,osq⟩,b⟩:=n;subst b;go_wp2_with fail;go_meet
     case rel=>exact⟨by rw[B.out],Ext.B6 _ _ _⟩
    | true =>
    have P:Hid (bM ⟨h,name,id⟩=true):=by unfold Hid bM;rw[decide_eq_true (by omega:1<=h),decide_eq_true (by omega:h<=4),Q.out,R.out];rfl
    by_cases Z:k=0
    .have B:Hid (r=false):=nR p.out u.out P.out (by rw[Z];rfl);subst Z;refine dg (by kernel_rfl) (by kernel_rfl) ?_
     repeat (refine dG (fun K g=>?_);go_simp;first | (refine g _ ?_;clear g K) | (apply Exists.intro;refine⟨fun _=>?_,g _ ?_⟩;(first | exact t.out _ _ | exact y.out _ _);clear g K))
     refine ej ?_;intro _ n;obtain⟨⟨O,osq⟩,b⟩:=n;subst b;go_wp2_with fail;go_meet
     case rel=>exact⟨by rw[B.out],Ext.B6 _ _ _⟩
    .obtain ⟨j,rfl⟩:∃j,k=j+1:=⟨k - 1,by omega⟩;have a7:IntKind.i64.wrap (((j+1:Nat):Int) - 1)=(j:Int):=by rw[IntWalk.i64_in _ (by omega)];omega
     have y3:=ad.out j rfl;obtain⟨z,hz⟩:∃z,(l.getD j iB).name=z:=⟨_,rfl⟩;rw[hz]at y3;have v3:=fun d A=>cell_regrown y3 d A
     have a5:(0:Int)<((j+1:Nat):Int):=by omega
     have a4:IntKind.i64.wrap (j:Int)=(j:Int):=IntWalk.i64_in _ (by omega);have a6:(0:Int)<(j:Int)+1:=by omega
     have Y:j<l.length:=by omega
     have HZ:Hid _:=hz;clear hz y3;rcases jB name z with⟨o,hb,W⟩ | ⟨o,hb⟩ | ⟨o,hb,W⟩
     .have B:Hid (r=false):=nR p.out u.out P.out (by rw[show j+1 - 1=j from rfl,HZ.out,o];simp);clear o;refine dg (by kernel_rfl) (by kernel_rfl) ?_
      repeat (refine dG (fun K g=>?_);go_simp;first | (refine g _ ?_;clear g K) | (apply Exists.intro;refine⟨fun _=>?_,g _ ?_⟩;(first | exact t.out _ _ | exact y.out _ _);clear g K))
      refine ej ?_;intro _ n;obtain⟨⟨O,osq⟩,b⟩:=n;subst b;go_wp2_with fail;go_meet
      case rel=>exact⟨by rw[B.out],Ext.B6 _ _ _⟩
     iterate 2
      .have B:Hid (r=true):=vW p.out u.out (by rw[show j+1 - 1=j from rfl,HZ.out,o];simp);clear o;refine dg (by kernel_rfl) (by kernel_rfl) ?_
       repeat (refine dG (fun K g=>?_);go_simp;first | (refine g _ ?_;clear g K) | (apply Exists.intro;refine⟨fun _=>?_,g _ ?_⟩;(first | exact t.out _ _ | exact y.out _ _);clear g K))
       refine ej ?_;intro _ n;obtain⟨⟨O,osq⟩,b⟩:=n;subst b;go_wp2_with fail;go_meet
       case rel=>exact⟨by rw[B.out],Ext.B6 _ _ _⟩
   case rest =>
    obtain⟨rfl,aa⟩:=hcut;have S:Hid (Ext w wc):=au.out.trans aa;clear aa
    cases r with
    | true =>
     have HF:Hid (cI l=false):=tF (k:=k+1) (by rw[p.out];rfl);go_wp2;go_ret;exact⟨an HF.out.symm,S.out⟩
    | false =>
     have HP:Hid (itT l (k+1)=true):=by unfold Hid;rw[p.out];rfl
     go_wp2;go_roundw
     case rel=>exact⟨k+1,by omega,by go_num,HP,S⟩
     case measure=>simp[intOf];omega
  .have a0:k=l.length:=by omega
   have HF:Hid (cI l=decide (l.length<=256)):=by
    have F:=HT.out;unfold itT at F;rw[a0,List.take_length,Bool.and_eq_true]at F;unfold Hid cI;rw[F.1,F.2,Bool.true_and,Bool.true_and]
   clear hk;go_wp2;go_ret;refine⟨an ?_,H.out⟩;rw[HF.out];exact decide_eq_decide.2 (by omega)
end
end Go.Proofs.YtfabjgfmiaammaaGreatDoor
