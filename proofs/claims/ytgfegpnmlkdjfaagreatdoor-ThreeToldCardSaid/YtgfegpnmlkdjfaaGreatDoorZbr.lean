/- Contracts of the program's functions and plain laws behind the card. Conditions: as each theorem states. -/
import Derived.Test.YtgfegpnmlkdjfaaGreatDoorZbl
import Derived.Test.YtgfegpnmlkdjfaaGreatDoorZav
import Derived.Test.YtgfegpnmlkdjfaaGreatDoorZax
import Derived.Test.YtgfegpnmlkdjfaaGreatDoorZbq
import Derived.Test.YtgfegpnmlkdjfaaGreatDoorZbn
import Derived.Test.YtgfegpnmlkdjfaaGreatDoorZaj
set_option linter.unusedVariables false
set_option linter.unusedSimpArgs false
set_option linter.unusedSectionVars false
set_option maxRecDepth 100000
set_option maxHeartbeats 64000000
namespace Go.Proofs.YtgfegpnmlkdjfaaGreatDoor
section
open Go Go.RowKit Go.Sort
theorem pU {l:List B8} {k:Nat} {x:B8} (h:l[k]? = some x):l.take (k+1)=l.take k++[x]:=by
 rw[List.take_add_one,h];rfl
theorem lW (v:Value) (l:List B8) (w:World) (I:IsBss w v l) :
  Calls Tryz.prog 7 #[v] w fun e U=>∃b,e=.returned (.bool b)/\U=w/\(b=true->l.length<=40/\∀x∈l,x.length<=1500):=by
 obtain⟨a,L,rfl,Z,l2,l3,G⟩:=I.get;have J:Hid _:=G;clear I G;go_enter Tryz.func7,Tryz.ntmps7;go_wp2_with fail;go_loopw [3,4] (fun n i wr=>∃k m:Nat,k<=l.length/\k<=40/\i=.int .i64 k/\n=.int .i64 m/\m<=24000/\wr=w/\Hid (∀x∈l.take k,x.length<=1500)) (fun _ i _=>l.length - (intOf i).toNat)
 case atStart=>exact⟨0,0,Nat.zero_le _,Nat.zero_le _,rfl,rfl,Nat.zero_le _,rfl,fun x o=>by simp at o⟩
 case round =>
 obtain⟨k,m,W,g,rfl,rfl,X,rfl,E⟩:=hrel
 by_cases A:k<l.length
 case neg =>
  have z:k=l.length:=by omega
  subst z;have K:Hid (∀x∈l,x.length<=1500):=by have:=E.out;rwa [List.take_length]at this
  obtain⟨c,N⟩:∃c,decide ((m:Int)<=6000)=c:=⟨_,rfl⟩;have H:(l.length:Int)<=40:=by omega
  go_wp2;go_ret;exact⟨c,by rw[<-N];rfl,rfl,fun _=>⟨g,K.out⟩⟩
 by_cases M:k<40
 case neg =>
  have T:k=40:=by omega
  subst T;have O:¬(l.length:Int)<=40:=by omega
  go_wp2;go_ret
  first | exact⟨false,rfl,rfl,fun h=>by cases h⟩ | exact .inl ⟨rfl,rfl⟩
 obtain⟨x,o⟩:∃x,l[k]? = some x:=⟨_,List.getElem?_eq_getElem A⟩;obtain⟨V,oo,u,rfl,y0,D⟩:=J.out k x o;obtain⟨ua,uc,rfl,-⟩:=D.get;have t:Hid _:=pU o;have S:=Row.len D;clear o D;obtain⟨d,y⟩:∃d,min x.length 6001=d:=⟨_,rfl⟩;obtain⟨p,B⟩:∃p,min (m+d) 24000=p:=⟨_,rfl⟩;have P:min (x.length:Int) 6001=(d:Int):=by omega
 have Q:min ((m:Int)+d) 24000=(p:Int):=by omega
 have F:d<=6001:=by omega
 have C:p<=24000:=by omega
 have R:IntKind.i64.wrap ((m:Int)+(d:Int))=(m:Int)+d:=IntWalk.i64_in _ (by omega);clear y B
 by_cases Y:(1500:Int)<(x.length:Int)
 .go_wp2;go_ret
  first | exact⟨false,rfl,rfl,fun h=>by cases h⟩ | exact .inl ⟨rfl,rfl⟩
 have q:Hid (∀x∈l.take (k+1),x.length<=1500):=by
  unfold Hid;rw[t.out];intro r j;rcases List.mem_append.1 j with j | j
  .exact E.out r j
  .obtain rfl:r=x:=by simpa using j
   omega
 go_wp2;go_roundw
 case rel=>exact⟨k+1,p,by omega,by omega,by go_num,rfl,C,trivial,q⟩
 case measure=>simp[intOf];omega
theorem yX (q K:Value) (a b:List B8) (w:World) (n:IsBss w q a) (o:IsBss w K b) (z:a=b) :
  Calls Tryz.prog 12 #[q,K] w fun e W=>e=.returned (.bool true)/\Ext w W:=by
 subst z;obtain⟨Y,ac,rfl,l1,l2,l3,j⟩:=n.get;obtain⟨ba,bc,rfl,-,m2,m3,l⟩:=o.get;have r:Hid _:=j;have t:Hid _:=l;clear n o j l;go_enter Tryz.func12,Tryz.ntmps12;go_wp2_with fail;go_loopw [5] (fun i wr=>∃k:Nat,k<=a.length/\i=.int .i64 k/\Hid (Ext w wr)) (fun i _=>a.length - (intOf i).toNat)
 case atStart=>exact⟨0,Nat.zero_le _,rfl,Ext.refl _⟩
 case round =>
 obtain⟨k,g,rfl,d⟩:=hrel
 by_cases B:k<a.length
 case neg =>
  have A:k=a.length:=by omega
  subst A;go_wp2;go_ret;exact⟨rfl,d.out⟩
 obtain⟨x,E⟩:∃x,a[k]? = some x:=⟨_,List.getElem?_eq_getElem B⟩;obtain⟨Z,ao,u,rfl,I,C⟩:=r.out k x E;obtain⟨bb,bo,v,rfl,J,D⟩:=t.out k x E;have F:=d.out.cell I;have H:=d.out.cell J;have M:Hid (IsBytes wr u x):=C.ext d.out;have N:Hid (IsBytes wr v x):=D.ext d.out;obtain⟨T,U,rfl,-⟩:=C.get;obtain⟨q,V,rfl,-⟩:=D.get;clear E C D I J;go_upto_region 6 with fail;apply ak 10 [_,_,_,.slice T x.length U,_,_,_,.slice q x.length V,.bool true,.bool false] [none,none,none,none,none,none,none,none,none,none] [[],[],[0,1],[2],[],[],[4,5],[6],[3,7],[8]] (by kernel_rfl) (by kernel_rfl) (by simp[aq])
 .trivial
 .simp (maxSteps:=1000000)only[List.take_succ_cons,List.take_zero,ay,aB,af,Act.put,List.setIfInBounds_toArray,List.set_cons_zero,List.set_cons_succ,aE,aH,aq,List.getD_cons_zero,List.getD_cons_succ,and_true,true_and,forall_const];and_intros
  iterate 8 · intro G L c;intros;rename_i h;have O:=c.cell F;have P:=c.cell H;go_simp;exact h _ _ (Ext.refl _) rfl
  .intro G L c g R h;obtain⟨Q,S⟩:=g;go_simp;exact(uB _ _ x x _ (M.out.ext c) (N.out.ext c)).mono (by rw[beq_self_eq_true];rintro e' w8 ⟨rfl,rfl⟩;exact⟨_,rfl,h _ _ (Ext.refl _) rfl⟩)
  .intro G L c;intros;rename_i h;have O:=c.cell F;have P:=c.cell H;go_simp;exact h _ _ (Ext.refl _) rfl
 intro G X p g;simp only[aG,Nat.zero_add,Nat.reduceAdd,and_true]at g;simp(maxSteps:=1000000)only[List.take_succ_cons,List.take_zero,List.drop_succ_cons,List.drop_zero,af,Act.put,List.setIfInBounds_toArray,List.set_cons_zero,List.set_cons_succ,Nat.zero_add,Nat.reduceAdd,g];clear g;have y:Hid (Ext w X):=d.out.trans p;clear F H p;go_wp2_with fail;go_roundw
 case rel=>exact⟨k+1,by omega,by go_num,y⟩
 case measure=>simp[intOf];omega
theorem xg (K:Value) (l:List B8) (id:B8) (w:World) (J:IsBss w K l) (I:∀x∈l,x.length<=10000000) :
  Calls Tryz.prog 16 #[K,S8 id] w fun e N=>e=.returned (.bool ((l.map aC).contains id))/\Ext w N:=by
 obtain⟨P,ac,rfl,T,U,V,g⟩:=J.get;have p:Hid _:=g;have L:Hid _:=I;clear J g I;have X:=tl id;go_enter Tryz.func16,Tryz.ntmps16;go_wp2_with fail;go_loopw [5] (fun i wr=>∃k:Nat,k<=l.length/\i=.int .i64 k/\Hid (id∉(l.take k).map aC)/\Hid (Ext w wr)) (fun i _=>l.length - (intOf i).toNat)
 case atStart=>exact⟨0,Nat.zero_le _,rfl,by show id∉_;simp,Ext.refl _⟩
 case round =>
 obtain⟨k,S,rfl,F,n⟩:=hrel
 by_cases B:k<l.length
 case neg =>
  have A:k=l.length:=by omega
  subst A;have q:Hid ((l.map aC).contains id=false):=by
   have a:=F.out;rw[List.take_length]at a;unfold Hid;simpa using a
  go_wp2;go_ret;exact⟨by rw[q.out];rfl,n.out⟩
 obtain⟨x,o⟩:∃x,l[k]? = some x:=⟨_,List.getElem?_eq_getElem B⟩;obtain⟨Q,R,u,rfl,G,D⟩:=p.out k x o;have x0:=n.out.cell G;have M:Hid (IsBytes wr u x):=D.ext n.out;have t:Hid (x.length<=10000000):=L.out x (List.mem_of_getElem? o);obtain⟨Y,Z,rfl,-⟩:=D.get;have d:Hid _:=o;clear o D G;go_wp2_with fail;go_at_call 21;refine(ii _ x wr M.out t.out).mono ?_;obtain⟨s,C⟩:∃s,aC x=s:=⟨_,rfl⟩;have E:Hid _:=C;rw[C];clear C;rintro e O ⟨rfl,j⟩;have c:Hid (Ext w O):=n.out.trans j;clear j;have W:=tl s;obtain⟨y,z⟩:∃y,(s==id)=y:=⟨_,rfl⟩;have b:Hid _:=z
 cases y with
 | true =>
  have q:Hid ((l.map aC).contains id=true):=by
   have a:s=id:=by simpa using b.out
   unfold Hid;rw[List.contains_iff_mem,<-a,<-E.out];exact List.mem_map.2 ⟨x,List.mem_of_getElem? d.out,rfl⟩
  go_wp2_with fail;go_ret;exact⟨by rw[q.out];rfl,c.out⟩
 | false =>
  have r:Hid (id∉(l.take (k+1)).map aC):=by
   unfold Hid;rw[pU d.out,List.map_append];intro h;rcases List.mem_append.1 h with h | h
   .exact F.out h
   .have a:id=s:=by rw[<-E.out];simpa using h
    have H:=b.out;rw[a]at H;simp at H
  go_wp2_with fail;go_roundw
  case rel=>exact⟨k+1,by omega,by go_num,r,c⟩
  case measure=>simp[intOf];omega
end
section
open Go Go.RowKit Go.Sort
theorem oZ {a b:En} (h:a≠b):aN b a=aN a b:=by
 obtain⟨j,c⟩:=a;obtain⟨k,d⟩:=b;unfold aN grE;dsimp only
 by_cases i:c=d
 .subst i;have p:j≠k:=fun e=>h (by rw[e])
  rw[fV];simp only[Bool.false_or,beq_self_eq_true,Bool.true_and,decide_eq_true_eq]
  by_cases g:j<k
  .rw [if_pos g,if_neg (by omega)]
  .rw [if_neg g,if_pos (by omega)]
 .have l:(c==d)=false:=by simpa using i
  have n:(d==c)=false:=by simpa using fun e:d=c=>i e.symm
  rw[l,n];simp only[Bool.false_and,Bool.or_false]
  cases g:ltB c d with
  | true=>rw[if_pos rfl,kf g,if_neg (by simp)]
  | false =>
   have o:=jG g i;rw[o,if_neg (by simp),if_pos rfl]
theorem zf (o a b:En):dg o b a=dg o a b:=by
 unfold dg;have h:((b.1=2/\a.1=2)\/((b.1=2\/a.1=2)/\o.1≠2))=((a.1=2/\b.1=2)\/((a.1=2\/b.1=2)/\o.1≠2)):=by
  rw[and_comm (a:=b.1=2),or_comm (a:=b.1=2) (b:=a.1=2)]
 simp only[h]
def Zer (e:En):Prop:=e.1=0->e=(0,[])
theorem zw {o a b:En} (j:Zer a) (k:Zer b):al o b a=al o a b:=by
 unfold al
 by_cases c:a=b
 .subst c;rfl
 .rw [if_neg (fun e=>c e.symm),if_neg c]
  by_cases d:o=a
  .have g:¬o=b:=fun e=>c (d.symm.trans e)
   rw[if_neg g,if_pos d,if_pos d]
  .by_cases g:o=b
   .rw [if_pos g,if_neg d,if_pos g]
   .rw [if_neg g,if_neg d,if_neg d,if_neg g]
    by_cases h:a.1=0
    .have i:¬b.1=0:=fun e=>c ((j h).trans (k e).symm)
     rw[if_neg i,if_pos h,if_pos h]
    .rw [if_neg h,if_neg h,oZ c,zf,show(bU o && (bU b && bU a))=(bU o && (bU a && bU b))by rw[Bool.and_comm (bU b)]]
theorem zC (l:List B8) (o a b:B8):(cB l [o,b,a]=none↔cB l [o,a,b]=none)/\∀r,cB l [o,a,b]=some r->∃x y z,r=[x,y,z]/\cB l [o,b,a]=some [x,z,y]:=by
 unfold cB cB cB cB
 cases eJ l o <;> cases eJ l a <;> cases eJ l b <;> simp
 exact⟨_,_,_,⟨rfl,rfl,rfl⟩,rfl,rfl,rfl⟩
theorem wQ (o a b:B8):(bV [o,b,a]=none↔bV [o,a,b]=none)/\∀r,bV [o,a,b]=some r->∃x y z,r=[x,y,z]/\bV [o,b,a]=some [x,z,y]:=by
 unfold bV bV bV bV
 cases ip o <;> cases ip a <;> cases ip b <;> simp
 exact⟨_,_,_,⟨rfl,rfl,rfl⟩,rfl,rfl,rfl⟩
theorem zP (l:List B8) (o a b:B8):cj l o b a=cj l o a b:=by
 have t:(∃k,dG l [o,b,a]=.error k/\dG l [o,a,b]=.error k)\/∃x y z,dG l [o,a,b]=.ok [x,y,z]/\dG l [o,b,a]=.ok [x,z,y]:=by
  obtain⟨n,p⟩:=zC l o a b;unfold dG
  cases j:cB l [o,a,b]with
  | none=>rw[n.2 j];exact .inl ⟨7,rfl,rfl⟩
  | some r =>
   obtain⟨x,y,z,rfl,q⟩:=p r j;rw[q];dsimp only;obtain⟨u,w⟩:=wQ x y z
   cases i:bV [x,y,z]with
   | none=>rw[u.2 i];exact .inl ⟨4,rfl,rfl⟩
   | some d =>
    obtain⟨B,C,D,rfl,A⟩:=w d i;rw[A];exact .inr ⟨B,C,D,rfl,rfl⟩
 unfold cj;rcases t with⟨k,c,g⟩ | ⟨x,y,z,c,g⟩
 .rw [c,g]
 .rw [c,g];dsimp only
  by_cases h:a=b
  .rw [if_pos h,if_pos h.symm]
  .rw [if_neg h,if_neg (fun e=>h e.symm)];show(match dH x z y with | none=>wD.no | some m=>_)=match dH x y z with | none=>wD.no | some m=>_
   rw[uJ x z y]
variable {l:List B8}
theorem pV {o a b:B8} (h:cj l o a b=.same):a=b:=by
 unfold cj at h;split at h
 .cases h
 .split at h
  .assumption
  .split at h
   .cases h
   .split at h <;> cases h
variable {o a b:ae}
theorem xE (j:∀p,Zer (enL a p)) (k:∀p,Zer (enL b p)) (s:Mg×ae) (p:B8):cA l o b a s p=cA l o a b s p:=by
 have g:=zw (o:=enL o p) (j p) (k p);have q:(al (enL o p) (enL a p) (enL b p)).2=3\/(al (enL o p) (enL a p) (enL b p)).2=5->aN (enL b p) (enL a p)=aN (enL a p) (enL b p):=fun h=>oZ fun e=>by
  rw[e]at h;unfold al at h;rw[if_pos rfl]at h;rcases h with h | h <;> cases h
 have i:(al (enL o p) (enL a p) (enL b p)).2=3\/(al (enL o p) (enL a p) (enL b p)).2=5->dC s.1 p (enL b p) (enL a p)=dC s.1 p (enL a p) (enL b p):=fun h=>by unfold dC;rw[q h]
 have n:aU o b a s.1 p=aU o a b s.1 p:=by
  unfold aU;rw[g]
  by_cases d:(al (enL o p) (enL a p) (enL b p)).2=5
  .rw [if_pos d,if_pos d,i (.inr d)]
  .rw [if_neg d,if_neg d]
 unfold cA;rw[g,zP l (enL o p).2 (enL a p).2 (enL b p).2,n]
 by_cases c:(al (enL o p) (enL a p) (enL b p)).2=3
 .rw [if_pos c,if_pos c,i (.inl c)]
  cases r:cj l (enL o p).2 (enL a p).2 (enL b p).2 with
  | same=>rw[pV r]
  | _=>rfl
 .rw [if_neg c,if_neg c]
theorem nS {l:List B8} {o a b:ae} (c:∀p,Zer (enL a p)) (d:∀p,Zer (enL b p)):∀(P:List B8) (s:Mg×ae),bX l o b a P s=bX l o a b P s
 | [],s=>rfl
 | p::P,s=>by
  unfold bX;rw[xE c d]
  cases cA l o a b s p with
  | error k=>rfl
  | ok y=>exact nS c d P y
theorem yG (o a b c:ae) (p:B8):cV o b a c p=cV o a b c p:=by
 unfold cV;rw[show(cE b p || (cE a p || de c p))=(cE a p || (cE b p || de c p))by cases cE a p <;> cases cE b p <;> rfl]
theorem lx (o a b c:ae) (r:Rw):∀k,aV o b a c r k=aV o a b c r k
 | 0=>rfl
 | k+1=>by unfold aV;rw[yG,lx o a b c r k]
theorem nu (o a b:ae):∀(l:List Rw) (c:ae),a8 o b a l c=a8 o a b l c
 | [],c=>rfl
 | r::l,c=>by
  unfold a8;rw[lx]
  cases aV o a b c r 21 with
  | none=>rfl
  | some z=>exact nu o a b l z
theorem lp (o a b:ae):∀(L:List Rw) (c:ae) (n:List (B8×Int)),be o b a L c n=be o a b L c n
 | [],c,n=>rfl
 | r::L,c,n=>by
  unfold be;rw[lx,lp o a b L c n]
  cases aV o a b (bu c r.path) r 21 with
  | none=>rfl
  | some z=>dsimp only;rw[lp o a b L z _]
theorem xY (c:∀p,Zer (enL a p)) (d:∀p,Zer (enL b p)) (P:List B8):eM l o b a P=eM l o a b P:=by
 unfold eM;rw[nS c d]
 cases bX l o a b P (⟨[],[],[]⟩,[])with
 | error k=>rfl
 | ok y =>
  dsimp only;rw[nu]
  cases a8 o a b y.1.GV y.1.out with
  | none=>rfl
  | some e=>unfold iD;dsimp only;rw[lp]
theorem xF (o a b:List Rw):bj (ar [o,b,a])=bj (ar [o,a,b]) :=
 oJ (jh _) (jh _) fun x=>by
  rw[dd,dd];unfold ar;simp only[List.flatMap_cons,List.flatMap_nil,List.append_nil,List.mem_append];rw[or_comm (a:=x∈b.map (·.path))]
theorem wt {a:List Rw} (h:an a=true) (p:B8):Zer (enL (byP a) p):=by
 rw[cN (aZ h).1];exact oq h
theorem uL (l:List B8) (o a b:List Rw):bR l o b a=bR l o a b:=by
 unfold bR;rw[show(an o && (an b && an a))=(an o && (an a && an b))by rw[Bool.and_comm (an b)]]
 by_cases h:(an o && (an a && an b))=true
 .rw [if_pos h,if_pos h,xF];have c:=h;simp only[Bool.and_eq_true]at c;rw[xY (wt c.2.1) (wt c.2.2)]
 .rw [if_neg h,if_neg h]
theorem wj:∀ {a b:List (B8×Int)},UpN a->UpN b->a.Perm b->a=b
 | [],b,_,_,h=>by have:=h.length_eq;exact(List.eq_nil_of_length_eq_zero this.symm).symm
 | x::a,[],_,_,h=>by have:=h.length_eq;simp at this
 | x::a,y::b,p,q,h=>by
  have g:=List.pairwise_cons.1 p;have i:=List.pairwise_cons.1 q;have e:∀x y:B8×Int,ltN x y=false->ltN y x=false->x=y:=fun x y c d=>by
   unfold ltN at c d;simp only[Bool.or_eq_false_iff,Bool.and_eq_false_iff,decide_eq_false_iff_not]at c d;have l:x.1=y.1:=Classical.byContradiction fun k=>by
    have:=jG c.1 k;rw[d.1]at this;cases this
   have r:=c.2.resolve_left (fun j=>j l);have t:=d.2.resolve_left (fun j=>j l.symm);exact Prod.ext l (by omega)
  have n:x=y:=by
   have c:x∈y::b:=h.subset (by simp);have d:y∈x::a:=h.symm.subset (by simp);rcases List.mem_cons.1 c with c | c
   .exact c
   .rcases List.mem_cons.1 d with d | d
    .exact d.symm
    .exact e _ _ (i.1 _ c) (g.1 _ d)
  subst n;rw[wj g.2 i.2 (List.perm_cons x |>.1 h)]
end
section
open Go Go.RowKit Go.Sort
def gJ (o a b:ae) (q:B8):Prop:=cE o q=true\/cE a q=true\/cE b q=true
def Dr (p:B8) (e:Fi):Prop:=aR (et++p)=true/\1<=e.mode/\e.mode<=3/\aO e.data=true
structure Inv (o a b out:ae):Prop where
 G2:Rising out
 IA:∀e∈out,∀f∈out,aD e.1 f.1=true->gJ o a b e.1/\gJ o a b f.1
 ok:∀e∈out,Dr e.1 e.2
variable {q:B8}
theorem yJ {m:ae} (h:cE m q=false):ax m q=none:=by
 unfold cE at h
 cases a:ax m q with
 | none=>rfl
 | some f=>rw[a]at h;cases h
variable {out:ae} {p:B8}
theorem Dk:de out p=true↔∃e∈out,aD p e.1=true:=by
 unfold de;rw[List.any_eq_true]
theorem mN:de out p=false↔∀e∈out,aD p e.1=false:=by
 unfold de;rw[List.any_eq_false];constructor
 iterate 2
  .intro h e a;simpa using h e a
variable {o a b:ae}
theorem ox (h:cV o a b out q=true) :
  aR (et++q)=true/\ax out q=none/\¬gJ o a b q/\de out q=false/\∀e∈out,aD e.1 q=false:=by
 unfold cV at h;simp only[Bool.and_eq_true,Bool.not_eq_true',Bool.or_eq_false_iff,List.all_eq_true]at h;obtain⟨⟨c,g,i,j,k,l⟩,n⟩:=h;refine⟨c,yJ g,?_,l,fun e r=>?_⟩
 .rintro (h | h | h)
  .rw [i]at h;cases h
  .rw [j]at h;cases h
  .rw [k]at h;cases h
 .cases u:aD e.1 q with
  | false=>rfl
  | true =>
   have d:=n e.1 ((kA (pw c)).2 u);have w:=yJ d;exfalso;have:cE out e.1=true:=by
    unfold cE ax
    cases t:List.find? (fun x=>x.1==e.1) out with
    | none=>exact absurd (List.find?_eq_none.1 t e r) (by simp)
    | some y=>rfl
   rw[d]at this;cases this
theorem i9 {o a b out:ae} {r:Rw}:∀(k:Nat) (c:ae),k<=21->aV o a b out r k=some c->∃n,n<=20/\cV o a b out (ct r.path r.id n)=true/\c=aF out (ct r.path r.id n) (fiE (r.mode,r.id))
 | 0,c,_,h=>by cases h
 | k+1,c,e,h=>by
  unfold aV at h;split at h
  .rename_i d;cases h;exact⟨20 - k,by omega,d,rfl⟩
  .exact i9 k c (by omega) h
theorem Inv.put (h:Inv o a b out) {f:Fi} (l:cV o a b out q=true) (k:1<=f.mode/\f.mode<=3/\aO f.data=true):Inv o a b (aF out q f):=by
 obtain⟨g,n,r,i,j⟩:=ox l;refine⟨h.G2.put _ _,fun x c y e d=>?_,fun x c=>?_⟩
 .rcases cG c with rfl | ⟨c,-⟩
  .rcases cG e with rfl | ⟨e,-⟩
   .rw [fP]at d;cases d
   .rw [mN.1 i y e]at d;cases d
  .rcases cG e with rfl | ⟨e,-⟩
   .rw [j x c]at d;cases d
   .exact h.IA x c y e d
 .rcases cG c with rfl | ⟨c,-⟩
  .exact ⟨g,k⟩
  .exact h.ok x c
theorem Inv.del (h:Inv o a b out) (q:B8):Inv o a b (bu out q) :=
 ⟨h.G2.del q,fun x c y d=>h.IA x (fN.1 c).1 y (fN.1 d).1,fun x c=>h.ok x (fN.1 c).1⟩
def sF (r:Rw):Prop:=1<=r.mode/\r.mode<=3/\aO r.id=true
def Dp (R:ae) (r:Rw):Prop:=∃n,n<=20/\ax R (ct r.path r.id n)=some (fiE (r.mode,r.id))
theorem oV {o a b:ae}:∀(l:List Rw) (out c:ae),Inv o a b out->(∀r∈l,sF r)->a8 o a b l out=some c ->
  Inv o a b c/\(∀q f,ax out q=some f->ax c q=some f)/\(∀q,gJ o a b q->ax c q=ax out q)/\∀r∈l,∃n,n<=20/\¬gJ o a b (ct r.path r.id n)/\ax c (ct r.path r.id n)=some (fiE (r.mode,r.id))
 | [],out,c,j,_,h=>by cases h;exact⟨j,fun _ _ h=>h,fun _ _=>rfl,fun r i=>by cases i⟩
 | r::l,out,c,j,i,h=>by
  cases k:aV o a b out r 21 with
  | none=>rw[fy k]at h;cases h
  | some z =>
   rw[fz k]at h;obtain⟨n,A,w,rfl⟩:=i9 21 z (Nat.le_refl _) k;obtain⟨E,t,u,F,G⟩:=ox w;obtain⟨B,y,C,D⟩:=oV l _ c (j.put (f:=fiE (r.mode,r.id)) w (i r List.mem_cons_self)) (fun x g=>i x (List.mem_cons_of_mem _ g)) h;refine⟨B,fun q f d=>y q f ?_,fun q d=>?_,fun x g=>?_⟩
   .rw [cQ (fun e=>by rw[e,d]at t;cases t)];exact d
   .rw [C q d,cQ (fun e=>u (by rw[e];exact d))]
   .rcases List.mem_cons.1 g with rfl | g
    .exact ⟨n,A,u,y _ _ (dv _ _ _)⟩
    .exact D x g
theorem mi {o a b:ae}:∀(L:List Rw) (out:ae) (n:List (B8×Int)) (y:ae×List (B8×Int)),Inv o a b out->cK L->(∀r∈L,ax out r.path=some (fiE (r.mode,r.id))/\sF r)->(∀e∈out,(∀r∈L,r.path≠e.1)->de out e.1=false)->be o a b L out n=some y ->
  Inv o a b y.1/\(∀e∈y.1,de y.1 e.1=false)/\∃u:List Rw,y.2=n++u.map (fun r=>(r.path,3))/\u.Sublist L /\
   (∀r∈u,gJ o a b r.path/\(∃f∈out,gJ o a b f.1/\aD r.path f.1=true)/\ax y.1 r.path=none/\Dp y.1 r) /\
   (∀q f,(∀r∈u,r.path≠q)->ax out q=some f->ax y.1 q=some f)/\(∀q,gJ o a b q->ax out q=none->ax y.1 q=none)
 | [],out,n,y,G,_,_,N,h=>by
  cases h;exact⟨G,fun e k=>N e k (fun r I=>by cases I),[],by simp,List.Sublist.refl _,fun r I=>(by cases I),fun q f _ i=>i,fun q _ i=>i⟩
 | r::L,out,n,y,G,I,H,N,h=>by
  have B:=List.pairwise_cons.1 I
  by_cases j:de out r.path=true
  .cases U:aV o a b (bu out r.path) r 21 with
   | none=>rw[iy j U]at h;cases h
   | some z =>
    rw[kg j U]at h;obtain⟨n9,T,hf,rfl⟩:=i9 21 z (Nat.le_refl _) U;obtain⟨f1,f2,K,f4,f5⟩:=ox hf;obtain⟨g,hg,F⟩:=Dk.1 j;have W:(r.path,fiE (r.mode,r.id))∈out:=du (H r List.mem_cons_self).1;obtain⟨t1,t2⟩:=G.IA _ W g hg F;have R:ct r.path r.id n9≠r.path:=fun e=>K (by rw[e];exact t1)
    have t:∀q f,q≠r.path->ax out q=some f->ax (aF (bu out r.path) (ct r.path r.id n9) (fiE (r.mode,r.id))) q=some f:=fun q f i C=>by
     have M:ax (bu out r.path) q=some f:=by rw[jF (fun e=>i e.symm)];exact C
     rw[cQ (fun e=>by rw[e,M]at f2;cases f2)];exact M
    obtain⟨X,Y,u,Z,i4,O,P,Q⟩:=mi L _ (n++[(r.path,3)]) y ((G.del _).put (f:=fiE (r.mode,r.id)) hf (H r List.mem_cons_self).2) B.2 (fun x c=>⟨t _ _ (fun e=>fp (B.1 x c) e.symm) (H x (List.mem_cons_of_mem _ c)).1,(H x (List.mem_cons_of_mem _ c)).2⟩) (fun e k A=>by
     rw[mN];intro f d;rcases cG k with rfl | ⟨k,-⟩
     .rcases cG d with rfl | ⟨d,-⟩
      .exact fP _
      .exact mN.1 f4 f d
     .rcases cG d with rfl | ⟨d,-⟩
      .exact f5 e k
      .have D:=fN.1 k;refine mN.1 (N e D.1 (fun x c=>?_)) f (fN.1 d).1;rcases List.mem_cons.1 c with rfl | c
       .exact fun J=>D.2 J.symm
       .exact A x c) h
    refine⟨X,Y,r::u,by rw[Z,List.append_assoc];rfl,i4.cons_cons r,fun x c=>?_,fun q f i C=>?_,fun q i C=>?_⟩
    .rcases List.mem_cons.1 c with rfl | c
     .refine ⟨t1,⟨g,hg,t2,F⟩,Q _ t1 (by rw[cQ R,kH]),n9,T,P _ _ (fun r' V e=>?_) (dv _ _ _)⟩;exact K (by rw[<-e];exact(O r' V).1)
     .obtain ⟨k1,⟨f,w,E,S⟩,k3,k4⟩:=O x c;refine⟨k1,⟨f,?_,E,S⟩,k3,k4⟩;rcases cG w with rfl | ⟨w,-⟩
      .exact absurd E K
      .exact (fN.1 w).1
    .exact P q f (fun x c=>i x (List.mem_cons_of_mem _ c)) (t q f (fun e=>i r List.mem_cons_self e.symm) C)
    .refine Q q i ?_;rw[cQ (fun e=>K (by rw[e];exact i))]
     by_cases e:r.path=q
     .rw [e,kH]
     .rw [jF e];exact C
  .have l:de out r.path=false:=by simpa using j
   rw[iK l]at h;obtain⟨X,Y,u,Z,i4,O,P,Q⟩:=mi L out n y G B.2 (fun x c=>H x (List.mem_cons_of_mem _ c)) (fun e k A=>by
    by_cases J:r.path=e.1
    .rw [<-J];exact l
    .exact N e k (fun x c=>(List.mem_cons.1 c).elim (fun M=>by rw[M];exact J) (A x))) h
   exact⟨X,Y,u,Z,i4.cons r,O,P,Q⟩
end
section
open Go Go.RowKit Go.Sort
section
variable (l:List B8) (o a b:ae)
def bx (p:B8):En:=if(al (enL o p) (enL a p) (enL b p)).2=3 then match cj l (enL o p).2 (enL a p).2 (enL b p).2 with
  | .same=>((al (enL o p) (enL a p) (enL b p)).1.1,(enL a p).2)
  | .made x=>((al (enL o p) (enL a p) (enL b p)).1.1,aC x)
  | _=>(aN (enL a p) (enL b p)).1
 else(al (enL o p) (enL a p) (enL b p)).1
def e8 (p:B8):Bool:=decide ((al (enL o p) (enL a p) (enL b p)).2=5) || (decide ((al (enL o p) (enL a p) (enL b p)).2=3) && match cj l (enL o p).2 (enL a p).2 (enL b p).2 with
  | .no=>true
  | _=>false)
def fS (m:ae) (p:B8) (e:En):ae:=if e.1=0 then m else aF m p (fiE e)
def cpX (p:B8):List Rw:=if e8 l o a b p=true then[⟨p,(aN (enL a p) (enL b p)).2.1,(aN (enL a p) (enL b p)).2.2⟩]else[]
def ntX (p:B8):List (B8×Int):=if e8 l o a b p=true then[(p,1)]else if(al (enL o p) (enL a p) (enL b p)).2=4 then[(p,2)]else[]
def fK (p:B8):Option B8:=if(al (enL o p) (enL a p) (enL b p)).2=3 then match cj l (enL o p).2 (enL a p).2 (enL b p).2 with
  | .made x=>some x
  | _=>none
 else none
def mdX (m:ae) (p:B8):ae:=match fK l o a b p with
 | some x=>aF m (aC x) (fiD x)
 | none=>m
end
variable {o a b:En}
theorem mu (h:(al o a b).2=5):(al o a b).1=(aN a b).1/\a.1≠0/\b.1≠0:=by
 unfold al at h ⊢;split at h
 .cases h
 .split at h
  .cases h
  .split at h
   .cases h
   .split at h
    .cases h
    .split at h
     .cases h
     .split at h
      .cases h
      .rename_i e g i c d j;rw[if_neg e,if_neg g,if_neg i,if_neg c,if_neg d,if_neg j];exact⟨rfl,c,d⟩
theorem fQ (h:(al o a b).2=3):a≠b/\o≠a/\o≠b/\bU o=true/\bU a=true/\bU b=true/\(al o a b).1.1=dg o a b:=by
 have c:=rD h;obtain⟨d,g,i⟩:=oH h;refine⟨fun e=>?_,fun e=>?_,fun e=>?_,d,g,i,by rw[c]⟩
 .rw [e]at h;unfold al at h;rw[if_pos rfl]at h;cases h
 .unfold al at h;split at h
  .cases h
  .first | (cases h;done) | (rw[if_pos e]at h;cases h)
 .unfold al at h;split at h
  .cases h
  .split at h
   .cases h
   .first | (cases h;done) | (rw[if_pos e]at h;cases h)
theorem ln (o a b:En):dg o a b=1\/dg o a b=2:=by
 unfold dg;split
 .exact .inr rfl
 .exact .inl rfl
theorem il {e:En} (h:bU e=true):e.1=1\/e.1=2:=by
 unfold bU at h;simpa using h
theorem g9 (a b:En):(aN a b=(a,b))\/(aN a b=(b,a)):=by
 unfold aN;split
 .exact .inl rfl
 .exact .inr rfl
theorem xD {l:List B8} {o a b:ae} {s y:Mg×ae} {p:B8} (h:cA l o a b s p=.ok y):y=(⟨fS s.1.out p (bx l o a b p),s.1.GV++cpX l o a b p,s.1.notes++ntX l o a b p⟩,mdX l o a b s.2 p):=by
 rcases kB h with⟨c,rfl⟩ | ⟨c,w⟩
 .have i:bx l o a b p=(al (enL o p) (enL a p) (enL b p)).1:=by unfold bx;rw[if_neg c]
  have g:mdX l o a b s.2 p=s.2:=by unfold mdX fK;rw[if_neg c]
  rw[i,g];unfold aU cpX ntX
  by_cases j:(al (enL o p) (enL a p) (enL b p)).2=5
  .have d:e8 l o a b p=true:=by unfold e8;rw[j];rfl
   obtain⟨r,t,u⟩:=mu j;rw[if_pos j,d,if_pos rfl,if_pos rfl,r];unfold dC fS;have n:¬(aN (enL a p) (enL b p)).1.1=0:=by
    rcases g9 (enL a p) (enL b p)with h | h <;> rw[h]
    .exact t
    .exact u
   rw[if_neg n]
  .have d:¬e8 l o a b p=true:=by unfold e8;simp[j,c]
   rw[if_neg j,if_neg d,if_neg d,List.append_nil];unfold fS;congr 2;split
   .rfl
   .rw [List.append_nil]
 .obtain ⟨C,D,E,F,z,A,B⟩:=fQ c;have j:¬(al (enL o p) (enL a p) (enL b p)).2=5:=by rw[c];decide
  have q:¬(al (enL o p) (enL a p) (enL b p)).2=4:=by rw[c];decide
  have k:¬(al (enL o p) (enL a p) (enL b p)).1.1=0:=by rw[B];rcases ln (enL o p) (enL a p) (enL b p)with h | h <;> rw[h] <;> decide
  rcases w with⟨e,rfl⟩ | ⟨e,rfl⟩ | ⟨x,e,rfl⟩
  .have d:e8 l o a b p=true:=by unfold e8;rw[c,e];rfl
   have i:bx l o a b p=(aN (enL a p) (enL b p)).1:=by unfold bx;rw[if_pos c,e]
   have g:mdX l o a b s.2 p=s.2:=by unfold mdX fK;rw[if_pos c,e]
   rw[i,g];unfold cpX ntX;rw[d,if_pos rfl,if_pos rfl];unfold dC fS;have n:¬(aN (enL a p) (enL b p)).1.1=0:=by
    rcases g9 (enL a p) (enL b p)with h | h <;> rw[h]
    .rcases il z with h | h <;> (dsimp only;rw[h];decide)
    .rcases il A with h | h <;> (dsimp only;rw[h];decide)
   rw[if_neg n]
  .have d:¬e8 l o a b p=true:=by unfold e8;rw[c,e];decide
   have i:bx l o a b p=((al (enL o p) (enL a p) (enL b p)).1.1,(enL a p).2):=by unfold bx;rw[if_pos c,e]
   have g:mdX l o a b s.2 p=s.2:=by unfold mdX fK;rw[if_pos c,e]
   rw[i,g];unfold cpX ntX;rw[if_neg d,if_neg d,if_neg q,List.append_nil,List.append_nil];unfold fS;rw[if_neg k]
  .have d:¬e8 l o a b p=true:=by unfold e8;rw[c,e];simp
   have i:bx l o a b p=((al (enL o p) (enL a p) (enL b p)).1.1,aC x):=by unfold bx;rw[if_pos c,e]
   have g:mdX l o a b s.2 p=aF s.2 (aC x) (fiD x):=by unfold mdX fK;rw[if_pos c,e]
   rw[i,g];unfold cpX ntX;rw[if_neg d,if_neg d,if_neg q,List.append_nil,List.append_nil];unfold fS;rw[if_neg k]
theorem nR {l:List B8} {o a b:ae}:∀(P:List B8) (s y:Mg×ae),bX l o a b P s=.ok y ->
  y=(⟨P.foldl (fun m p=>fS m p (bx l o a b p)) s.1.out,s.1.GV++P.flatMap (cpX l o a b),s.1.notes++P.flatMap (ntX l o a b)⟩,P.foldl (mdX l o a b) s.2)
 | [],s,y,h=>by cases h;simp
 | p::P,s,y,h=>by
  unfold bX at h
  cases c:cA l o a b s p with
  | error q=>rw[c]at h;cases h
  | ok z =>
   rw[c]at h;have d:=nR P z y h;rw[d,xD c];simp[List.flatMap_cons,List.append_assoc]
theorem tx {f:B8->En}:∀(P:List B8) (m:ae),Rising m->Rising (P.foldl (fun m p=>fS m p (f p)) m)/\∀q,ax (P.foldl (fun m p=>fS m p (f p)) m) q=if q∈P/\(f q).1≠0 then some (fiE (f q))else ax m q
 | [],m,h=>⟨h,fun q=>by rw[if_neg (by rintro⟨d,-⟩;cases d)];rfl⟩
 | p::P,m,h=>by
  have g:Rising (fS m p (f p)):=by
   unfold fS;split
   .exact h
   .exact h.put _ _
  obtain⟨j,k⟩:=tx (f:=f) P _ g;refine⟨j,fun q=>?_⟩;rw[List.foldl_cons,k q]
  by_cases c:(f q).1≠0
  .by_cases d:q∈P
   .rw [if_pos ⟨d,c⟩,if_pos ⟨List.mem_cons_of_mem _ d,c⟩]
   .rw [if_neg (fun a=>d a.1)]
    by_cases b:q=p
    .subst b;rw[if_pos ⟨List.mem_cons_self,c⟩];unfold fS;rw[if_neg c,dv]
    .rw [if_neg (fun a=>(List.mem_cons.1 a.1).elim b d)];unfold fS;split
     .rfl
     .exact cQ (fun a=>b a.symm)
  .rw [if_neg (fun a=>c a.2),if_neg (fun a=>c a.2)];have e:(f q).1=0:=Classical.not_not.1 c;unfold fS;split
   .rfl
   .rename_i i;exact cQ (fun a=>i (by rw[a];exact e))
theorem mW {l:List B8} {o a b:ae}:∀(P:List B8) (m:ae),(∀e∈P.foldl (mdX l o a b) m,e∈m\/∃p∈P,fK l o a b p=some e.2.data/\e.1=aC e.2.data)/\(∀p∈P,∀x,fK l o a b p=some x->∃e∈P.foldl (mdX l o a b) m,e.1=aC x)/\∀e∈m,∃d∈P.foldl (mdX l o a b) m,d.1=e.1
 | [],m=>⟨fun e c=>.inl c,fun p y=>(by cases y),fun e c=>⟨e,c,rfl⟩⟩
 | p::P,m=>by
  obtain⟨z,A,w⟩:=mW P (mdX l o a b m p);rw[List.foldl_cons];have B:∀x,fK l o a b p=some x->∃e∈mdX l o a b m p,e.1=aC x:=fun x i=>by
   unfold mdX;rw[i];exact⟨_,du (dv m (aC x) (fiD x)),rfl⟩
  have C:∀e∈m,∃d∈mdX l o a b m p,d.1=e.1:=fun e c=>by
   unfold mdX;split
   .rename_i x i
    by_cases u:aC x=e.1
    .exact ⟨_,du (dv m (aC x) (fiD x)),u⟩
    .refine ⟨e,?_,rfl⟩;unfold aF;rw[jK];exact .inr (fN.2 ⟨c,fun r=>u r.symm⟩)
   .exact ⟨e,c,rfl⟩
  refine⟨fun e c=>?_,fun q n x i=>?_,fun e c=>?_⟩
  .rcases z e c with h | ⟨q,n,j,k⟩
   .unfold mdX at h;split at h
    .rename_i x i;rcases cG h with rfl | ⟨h,-⟩
     .exact .inr ⟨p,List.mem_cons_self,i,rfl⟩
     .exact .inl h
    .exact .inl h
   .exact .inr ⟨q,List.mem_cons_of_mem _ n,j,k⟩
  .rcases List.mem_cons.1 n with rfl | n
   .obtain ⟨e,c,j⟩:=B x i;obtain⟨d,g,k⟩:=w e c;exact⟨d,g,k.trans j⟩
   .exact A q n x i
  .obtain ⟨r,t,j⟩:=C e c;obtain⟨d,g,k⟩:=w r t;exact⟨d,g,k.trans j⟩
end
section
open Go Go.RowKit Go.Sort
def FitN (e:En):Prop:=e=(0,[])\/(1<=e.1/\e.1<=3/\aO e.2=true)
variable {e:En}
theorem FitN.I4 (h:FitN e):Zer e:=fun a=>by
 rcases h with h | ⟨h,-⟩
 .exact h
 .omega
theorem FitN.fit (h:FitN e) (a:e.1≠0):1<=e.1/\e.1<=3/\aO e.2=true:=by
 rcases h with h | h
 .rw [h]at a;exact absurd rfl a
 .exact h
variable {l:List Rw}
theorem kM (h:an l=true) {x:Rw} (d:x∈l):aR (et++x.path)=true/\1<=x.mode/\x.mode<=3/\aO x.id=true:=by
 obtain⟨k,c⟩:=List.getElem?_of_mem d;have a:=qM h c;unfold cO at a;have b:=((Bool.and_eq_true _ _).mp a).1;unfold dl at b;simp only[Bool.and_eq_true,decide_eq_true_eq]at b;exact⟨b.1,b.2.1,b.2.2.1,b.2.2.2.1⟩
theorem jk (h:an l=true) (p:B8):FitN (aj l p)/\((aj l p).1≠0->∃x∈l,x.path=p):=by
 rcases gN (aZ h).1 p with⟨x,b,c,a⟩ | ⟨-,a⟩
 .rw [a];exact⟨.inr (kM h b).2,fun _=>⟨x,b,c⟩⟩
 .rw [a];exact⟨.inl rfl,fun d=>absurd rfl d⟩
theorem zu (o a b:En):(al o a b).2=3\/(al o a b).1=a\/(al o a b).1=b:=by
 unfold al
 repeat' split
 all_goals first
  | exact .inr (.inl rfl)
  | exact .inr (.inr rfl)
  | exact .inl rfl
  | (rcases g9 a b with h | h <;> rw[h] <;> first | exact .inr (.inl rfl) | exact .inr (.inr rfl))
variable {o a b:ae} {p:B8}
theorem Bo {l:List B8}:bx l o a b p=enL a p\/bx l o a b p=enL b p\/((al (enL o p) (enL a p) (enL b p)).2=3/\(bx l o a b p).1=dg (enL o p) (enL a p) (enL b p)/\((bx l o a b p).2=(enL a p).2\/∃x,(bx l o a b p).2=aC x)):=by
 unfold bx
 by_cases c:(al (enL o p) (enL a p) (enL b p)).2=3
 .rw [if_pos c];have d:=(fQ c).2.2.2.2.2.2;split
  .exact .inr (.inr ⟨c,d,.inl rfl⟩)
  .exact .inr (.inr ⟨c,d,.inr ⟨_,rfl⟩⟩)
  .rcases g9 (enL a p) (enL b p)with h | h <;> rw[h]
   .exact .inl rfl
   .exact .inr (.inl rfl)
 .rw [if_neg c];rcases zu (enL o p) (enL a p) (enL b p)with h | h | h
  .exact absurd h c
  .exact .inl h
  .exact .inr (.inl h)
theorem vU {l:List B8} (c:FitN (enL a p)) (j:FitN (enL b p)):FitN (bx l o a b p)/\((bx l o a b p).1≠0->(enL a p).1≠0\/(enL b p).1≠0):=by
 rcases Bo (l:=l) (o:=o) (a:=a) (b:=b) (p:=p)with h | h | ⟨i,e,g⟩
 .rw [h];exact⟨c,.inl⟩
 .rw [h];exact⟨j,.inr⟩
 .have k:=(fQ i).2.2.2.2.1;have d:(enL a p).1≠0:=by rcases il k with h | h <;> rw[h] <;> decide
  refine⟨.inr ?_,fun _=>.inl d⟩;rw[e];refine⟨?_,?_,?_⟩
  iterate 2
   .rcases ln (enL o p) (enL a p) (enL b p)with h | h <;> rw[h] <;> decide
  .rcases g with h | ⟨x,h⟩
   .rw [h];exact(c.fit d).2.2
   .rw [h];exact zH x
def fT (R:List Rw) (p:B8) (e:En):Prop:=e.1=0\/aj R p=e\/∃n,n<=20/\aj R (ct p e.2 n)=e
def lJ (R:List Rw) (md:ae) (x y z:En) (p:B8):Prop:=(bU x=true/\bU y=true/\bU z=true/\y≠z/\x≠y/\x≠z)/\(y.2=z.2\/∃e∈md,e.1=(aj R p).2)
structure Ag (o a b:List Rw) (y:(List Rw×List (B8×Int))×ae):Prop where
 may:an y.1.1=true
 nodup:y.1.2.Nodup
 notes:∀x∈y.1.2,x.1∈ar [o,a,b]/\(x.2=1\/x.2=2\/x.2=3)
 IX:∀p∈ar [o,a,b],(al (aj o p) (aj a p) (aj b p)).2=1\/(al (aj o p) (aj a p) (aj b p)).2=2->(p,(3:Int))∉y.1.2->aj y.1.1 p=(al (aj o p) (aj a p) (aj b p)).1
 IS:∀e∈y.2,∃r∈y.1.1,r.id=e.1
 up:Rising y.2
 id:∀e∈y.2,e.1=aC e.2.data
 keep:∀p∈ar [o,a,b],lJ y.1.1 y.2 (aj o p) (aj a p) (aj b p) p\/((aj o p≠aj a p->fT y.1.1 p (aj a p))/\(aj o p≠aj b p->fT y.1.1 p (aj b p)))
variable {m:ae}
theorem jv (h:Rising m) (q:B8):aj (aI m) q=enL m q:=by
 unfold enL
 cases c:ax m q with
 | some f =>
  have g:(⟨q,f.mode,f.data⟩:Rw)∈aI m:=List.mem_map.2 ⟨(q,f),du c,rfl⟩;exact g8 (gU h) g
 | none =>
  refine eK fun x i d=>?_
  obtain⟨e,a,rfl⟩:=List.mem_map.1 i;have b:=jn h a;rw[show e.1=q from d,c]at b;cases b
variable {q:B8}
theorem kZ (h:ax m q=some (fiE e)):enL m q=e:=by
 unfold enL;rw[h];rfl
theorem AD (h:ax m q=none):enL m q=(0,[]):=by
 unfold enL;rw[h]
theorem Cs (h:an l=true):cE (byP l) q=true↔(aj l q).1≠0:=by
 rw[<-cN (aZ h).1];unfold cE enL;have i:∀(l:List Rw) (m:ae),(∀r∈l,r.mode≠0)->(∀e∈m,e.2.mode≠0)->∀e∈l.foldl (fun m r=>aF m r.path (fiE (r.mode,r.id))) m,e.2.mode≠0:=by
  intro l
  induction l with
  | nil=>intro m _ c e a;exact c e a
  | cons r l j =>
   intro m d c e a;refine j _ (fun x b=>d x (List.mem_cons_of_mem _ b)) (fun x b=>?_) e a;rcases cG b with rfl | ⟨b,-⟩
   .exact d r List.mem_cons_self
   .exact c x b
 cases g:ax (byP l) q with
 | none=>simp
 | some f =>
  have:=i l [] (aZ h).2 (fun e a=>by cases a) _ (du g);simpa using this
theorem El (h:Rising m) (G:∀e∈m,Dr e.1 e.2) (L:∀e∈m,de m e.1=false) (J:m.length<=256):an (aI m)=true:=by
 have K:=gU h;rw[vZ (l:=aI m) fun k x B=>?_]
 .exact decide_eq_true (by rw[show(aI m).length=m.length from List.length_map _];exact J)
 have u:=List.mem_of_getElem? B;obtain⟨e,y,a⟩:=List.mem_map.1 u;obtain⟨I,j⟩:=List.getElem?_eq_some_iff.1 B;obtain⟨C,D,E,F⟩:=G e y;have A:x.path=e.1:=by rw[<-a]
 have c:aR (et++x.path)=true:=by rw[A];exact C
 unfold cO;rw[Bool.and_eq_true];constructor
 .unfold dl;simp only[Bool.and_eq_true,Bool.or_eq_true,decide_eq_true_eq];refine⟨c,by rw[<-a];exact D,by rw[<-a];exact E,by rw[<-a];exact F,?_⟩
  by_cases M:k=0
  .exact .inl M
  .right;have b:k - 1<(aI m).length:=by omega
   have d:=List.pairwise_iff_getElem.1 K (k - 1) k b I (by omega);rw[mX (List.getElem?_eq_getElem b),<-j];exact d
 .rw [List.all_eq_true];intro p n
  cases z:fe ((aI m).take k) p with
  | false=>rfl
  | true =>
   unfold fe at z;obtain⟨r,o,q⟩:=List.any_eq_true.1 z;have t:r.path=p:=by simpa using q
   obtain⟨g,H,i⟩:=List.mem_map.1 (List.mem_of_mem_take o);have w:=mN.1 (L g H) e y;have d:=(kA (pw c)).1 n;rw[show g.1=p by rw[<-t,<-i],<-A,d]at w;cases w
theorem tR {l:List B8} {o a b:ae}:∀ {P:List B8},P.Nodup->(P.flatMap (ntX l o a b)).Nodup/\∀x∈P.flatMap (ntX l o a b),x.1∈P/\(x.2=1\/x.2=2)
 | [],_=>⟨List.nodup_nil,fun x c=>by cases c⟩
 | p::P,h=>by
  have i:=List.nodup_cons.1 h;obtain⟨k,d⟩:=tR (l:=l) (o:=o) (a:=a) (b:=b) i.2;have g:∀x∈ntX l o a b p,x.1=p/\(x.2=1\/x.2=2):=fun x c=>by
   unfold ntX at c;split at c
   .obtain rfl:=List.mem_singleton.1 c;exact⟨rfl,.inl rfl⟩
   .split at c
    .obtain rfl:=List.mem_singleton.1 c;exact⟨rfl,.inr rfl⟩
    .cases c
  have n:(ntX l o a b p).Nodup:=by
   unfold ntX;split
   .simp
   .split <;> simp
  rw[List.flatMap_cons];refine⟨List.nodup_append.2 ⟨n,k,fun x c y j e=>?_⟩,fun x c=>?_⟩
  .subst e;exact i.1 (by rw[<-(g x c).1];exact(d x j).1)
  .rcases List.mem_append.1 c with c | c
   .rw [(g x c).1];exact⟨List.mem_cons_self,(g x c).2⟩
   .exact ⟨List.mem_cons_of_mem _ (d x c).1,(d x c).2⟩
end
end Go.Proofs.YtgfegpnmlkdjfaaGreatDoor
