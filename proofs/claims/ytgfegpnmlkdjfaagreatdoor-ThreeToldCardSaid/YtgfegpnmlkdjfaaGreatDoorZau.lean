/- Contracts of the program's functions and plain laws behind the card. Conditions: as each theorem states. -/
import Derived.Test.YtgfegpnmlkdjfaaGreatDoorZap
import Derived.Test.YtgfegpnmlkdjfaaGreatDoorZag
import Derived.Test.YtgfegpnmlkdjfaaGreatDoorZas
import Derived.Deep.DeepCutAuto
import Derived.Test.YtgfegpnmlkdjfaaGreatDoorZaj
import Derived.Test.YtgfegpnmlkdjfaaGreatDoorZai
import Derived.Lib.SlBytesConst
import Derived.Test.YtgfegpnmlkdjfaaGreatDoorZak
import Derived.Test.YtgfegpnmlkdjfaaGreatDoorZae
set_option linter.unusedVariables false
set_option linter.unusedSimpArgs false
set_option linter.unusedSectionVars false
set_option maxRecDepth 100000
set_option maxHeartbeats 64000000
namespace Go.Proofs.YtgfegpnmlkdjfaaGreatDoor
section
open Go Go.RowKit Go.Sort
variable {l:List Rw} {k:Nat} {x:Rw} {r:Bool}
theorem pF {b:Bool} (h:dl l k x = !r) (a:dl l k x=false):r=true:=by
 rw[a]at h;cases r
 .cases h
 .rfl
theorem zB (h:dl l k x = !r) (a:dl l k x=true):r=false:=by
 rw[a]at h;cases r
 .rfl
 .cases h
theorem pG {a b c d e:Bool} (g:aR (et++x.path)=a) (h:decide (1<=x.mode)=b) (i:decide (x.mode<=3)=c) (j:aO x.id=d) (n:(decide (k=0) || ltB (l.getD (k - 1) zRw).path x.path)=e):dl l k x=(a && (b && (c && (d && e)))):=by
 unfold dl;rw[g,h,i,j,n]
end
section
open Go Go.RowKit
section
variable {w0 w w':World} {S O:Nat->Prop} {f:Value} {m m':Fs} {n:Nat}
end
theorem Dc (a b:B8):((⟨a.toArray⟩:ByteArray)++⟨b.toArray⟩).data.toList=a++b:=by rw[ByteArray.data_append];simp
end
section
open Go Go.RowKit
def Ey (d s:B8):Bool:=aR d && (aR s && aD d s)
variable [Inhabited br]
end
section
open Go Go.RowKit Go.Sort
def cO (l:List Rw) (k:Nat) (x:Rw):Bool:=dl l k x && (cn x.path).all fun p=>!fe (l.take k) p
def an (l:List Rw):Bool:=((List.range l.length).all fun k=>cO l k (l.getD k zRw)) && decide (l.length<=256)
variable {l:List Rw} {k:Nat} {x:Rw}
theorem ui (h:l[k]? = some x) (a:cO l k x=false):an l=false:=by
 unfold an;have b:=(List.getElem?_eq_some_iff.1 h).1;have:((List.range l.length).all fun k=>cO l k (l.getD k zRw))=false:=by
  rw[List.all_eq_false];exact⟨k,List.mem_range.2 b,by rw[mX h,a];simp⟩
 rw[this,Bool.false_and]
theorem Dh (h:l[k]? = some x) (a:dl l k x=false):an l=false:=ui h (by unfold cO;rw[a];rfl)
theorem Di {p:B8} (h:l[k]? = some x) (b:p∈cn x.path) (a:fe (l.take k) p=true):an l=false:=by
 refine ui h ?_;unfold cO;have:((cn x.path).all fun p=>!fe (l.take k) p)=false:=by
  rw[List.all_eq_false];exact⟨p,b,by simp[a]⟩
 rw[this,Bool.and_false]
theorem vZ (h:∀k x,l[k]? = some x->cO l k x=true):an l=decide (l.length<=256):=by
 unfold an;have:((List.range l.length).all fun k=>cO l k (l.getD k zRw))=true:=by
  rw[List.all_eq_true];intro k a;have a:=List.mem_range.1 a;have b:l[k]? = some l[k]:=List.getElem?_eq_getElem a;rw[mX b];exact h _ _ b
 rw[this,Bool.true_and]
theorem qM (h:an l=true) (b:l[k]? = some x):cO l k x=true:=by
 cases a:cO l k x with
 | true=>rfl
 | false=>rw[ui b a]at h;cases h
theorem BQ (h:∀j x,j<k->l[j]? = some x->dl l j x=true) {i j:Nat} {y:Rw} (q:i<j) (t:j<k) (c:l[i]? = some x) (a:l[j]? = some y):ltB x.path y.path=true:=by
 have n:∀i x y,i+1<k->l[i]? = some x->l[i+1]? = some y->ltB x.path y.path=true:=fun i x y g c a=>by
  have e:=h _ _ g a;unfold dl at e;simp only[Bool.and_eq_true,Bool.or_eq_true,decide_eq_true_eq]at e;have b:=e.2.2.2.2;rw[show i+1 - 1=i by omega,mX c]at b;rcases b with b | b
  .omega
  .exact b
 have p:∀(d i:Nat) (x y:Rw),i+1+d<k->l[i]? = some x->l[i+1+d]? = some y->ltB x.path y.path=true:=by
  intro d
  induction d with
  | zero=>exact n
  | succ d r =>
   intro i x y g c a;have u:=(List.getElem?_eq_some_iff.1 a).1;have o:l[i+1+d]? = some l[i+1+d]:=List.getElem?_eq_getElem (by omega);exact ed (r i x _ (by omega) c o) (n (i+1+d) _ y g o a)
 exact p (j - i - 1) i x y (by omega) c (by rw[show i+1+(j - i - 1)=j by omega];exact a)
theorem CU (h:∀j x,j<k->l[j]? = some x->dl l j x=true):dR ((l.take k).map (·.path)):=by
 refine List.pairwise_iff_getElem.2 fun i j b c a=>?_
 rw[List.length_map,List.length_take]at b c;rw[List.getElem_map,List.getElem_map,List.getElem_take,List.getElem_take];exact BQ h a (by omega) (List.getElem?_eq_getElem (by omega)) (List.getElem?_eq_getElem (by omega))
theorem IsRws.take {w:World} {a:Option Addr} {c:Nat} (h:IsRws w (.slice a l.length c) l) (C:k<=l.length):IsRws w (.slice a k c) (l.take k):=by
 obtain⟨z,j,e,A,q,B,r⟩:=h;simp only[Value.slice.injEq,true_and]at e;obtain⟨rfl,rfl⟩:=e;have d:(l.take k).length=k:=by rw[List.length_take];omega
 unfold IsRws;rw[d];refine⟨a,c,rfl,by omega,q,by omega,fun g=>?_⟩;obtain⟨b,o,t,y⟩:=r (fun n=>g (by
  have:l=[]:=by
   cases l with
   | nil=>rfl
   | cons x l=>rw[List.flatMap_cons]at n;simp[rwC]at n
  subst this;simp))
 refine⟨b,o,t,fun i u p=>y i u ?_⟩;have e:l.flatMap rwC=(l.take k).flatMap rwC++(l.drop k).flatMap rwC:=by rw[<-List.flatMap_append,List.take_append_drop]
 rw[e,List.getElem?_append_left (List.getElem?_eq_some_iff.1 p).1];exact p
theorem eS (v:Value) (l:List Rw) (w:World) (hE:Env w) (hv:IsRws w v l) (hl:l.length<=100000) (hs:∀r∈l,r.path.length<=400/\r.id.length<=400) :
  Calls Tryz.prog 13 #[v] w fun e w'=>e=.returned (.bool (an l))/\Ext w w':=by
 have HV:Hid (IsRws w v l):=hv;obtain⟨a,c,rfl,l1,l2,l3,hg⟩:=hv.cells;have HG:Hid _:=hg;have HS:Hid _:=hs;clear hv hg hs;have HE:Hid (Env w):=hE;clear hE;go_enter Tryz.func13,Tryz.ntmps13;go_wp2_with fail;go_loopw [11] (fun i wr=>∃k:Nat,k<=l.length/\i=.int .i64 k/\Hid (∀j x,j<k->l[j]? = some x->cO l j x=true)/\Hid (Ext w wr)) (fun i _=>l.length - (intOf i).toNat)
 case atStart=>exact⟨0,Nat.zero_le _,rfl,fun j x O=>absurd O (Nat.not_lt_zero _),Ext.refl _⟩
 case round =>
 obtain⟨k,hk,rfl,HT,I⟩:=hrel
 by_cases bs:k<l.length
 case neg =>
  have HF:Hid (an l=decide (l.length<=256)):=vZ (fun j x G=>HT.out j x (by have:=(List.getElem?_eq_some_iff.1 G).1;omega) G);go_wp2;go_ret;refine⟨aM ?_,I.out⟩;rw[HF.out];exact decide_eq_decide.2 (by omega)
 obtain⟨x,G⟩:∃x,l[k]? = some x:=⟨_,List.getElem?_eq_getElem bs⟩;obtain⟨bb,oo,rfl,a3,a4,a5⟩:=HG.out k x G;obtain⟨b0,bv⟩:=HS.out x (List.mem_of_getElem? G);have HK:Hid (l[k]? = some x):=G;have L:Hid (∀j,k=j+1->wr.cell? ⟨bb,oo+j*3,none⟩=some (S8 (l.getD j zRw).path)):=fun j O=>by
  subst O;have F:j<l.length:=by omega
  obtain⟨b2,o2,he,J,-⟩:=HG.out j (l.getD j zRw) (by rw[List.getD_eq_getElem?_getD,List.getElem?_eq_getElem F];rfl);cases he;exact I.out.cell J
 have y0:=I.out.cell a3;have y1:=I.out.cell a4;have y2:=I.out.cell a5;obtain⟨h,t,id⟩:=x;dsimp only at y0 y1 y2 b0 bv;clear G a3 a4 a5;go_upto_region 4 with fail;obtain⟨H,N⟩:∃H,H=wr.alloc (.cells #[S8 h,.int .i64 t,S8 id] 50):=⟨_,rfl⟩;have aa:Ext wr H:=by rw[N];exact(Ext.refl _).alloc _
 have M:H.heap[wr.heap.size]? = some (.cells #[S8 h,.int .i64 t,S8 id] 50 (0,0)):=by rw[N];exact ah _ _
 rw[<-N];obtain⟨gi,a6⟩:∃gi,wr.heap.size=gi:=⟨_,rfl⟩;rw[a6]at M ⊢;obtain⟨z0,z1,z2⟩:=cD M;have a0:Hid (Ext w H):=I.out.trans aa;have ai:Hid (∀j,k=j+1->H.cell? ⟨bb,oo+j*3,none⟩=some (S8 (l.getD j zRw).path)):=fun j O=>aa.cell (L.out j O)
 have bh:Hid _:=M;have v0:=fun d D=>cell_regrown z0 d D
 have v1:=fun d D=>cell_regrown z1 d D
 have v2:=fun d D=>cell_regrown z2 d D
 obtain⟨nb,W⟩:∃nb,aR (et++h)=nb:=⟨_,rfl⟩;obtain⟨vb,Z⟩:∃vb,aO id=vb:=⟨_,rfl⟩;have ag:Hid _:=W;have av:Hid _:=Z;have B:Hid (∀d D,Calls Tryz.prog 34 #[.string (⟨#[119,47]⟩++⟨h.toArray⟩)] (grow (redrawn H d) D) fun e w'=>e=.returned (.bool nb)/\∃q:Regrown,w'=grow (redrawn H q.d) q.os):=fun d D=>Calls.regrown_of (by
  have J:=tY (et++h) (grow (redrawn H d) D) (HE.out.ext (a0.out.trans (Ext.G4 _ _ _))) (by simp[et];omega);rw[W]at J;exact J)
 have C:Hid (∀d D,Calls Tryz.prog 35 #[S8 id] (grow (redrawn H d) D) fun e w'=>e=.returned (.bool vb)/\∃q:Regrown,w'=grow (redrawn H q.d) q.os):=fun d D=>Calls.regrown_of (by
  have J:=kr id (grow (redrawn H d) D) (by omega)
  rwa [Z]at J)
 obtain⟨A,Q⟩:∃c,dl l k ⟨h,t,id⟩ = !c:=⟨!dl l k ⟨h,t,id⟩,by simp⟩;have y:Hid _:=Q;clear N aa M a6 z0 z1 z2 y0 y1 y2 W Z Q L I;have b1:¬9223372036854775807<2+h.length:=by omega
 go_cut [54] (fun c wx=>c=.bool A/\Ext H wx)
 case first =>
  cases nb with
  | false =>
   have E:Hid (A=true):=pF (b:=true) y.out ((pG ag.out rfl rfl rfl rfl).trans (by simp));refine cr (by kernel_rfl) (by kernel_rfl) ?_
   repeat (refine db (fun K n=>?_);go_simp;first | (refine n _ ?_;clear n K) | (apply Exists.intro;refine⟨fun _=>?_,n _ ?_⟩;(first | exact B.out _ _ | exact C.out _ _);clear n K))
   refine dz ?_;intro _ o;obtain⟨⟨dq,osq⟩,g⟩:=o;subst g;go_wp2_with fail;go_meet
   case rel=>exact⟨by rw[E.out],Ext.G4 _ _ _⟩
  | true =>
  by_cases h1:t<1
  .have E:Hid (A=true):=pF (b:=true) y.out ((pG rfl (decide_eq_false (by dsimp only;omega)) rfl rfl rfl).trans (by simp));refine cr (by kernel_rfl) (by kernel_rfl) ?_
   repeat (refine db (fun K n=>?_);go_simp;first | (refine n _ ?_;clear n K) | (apply Exists.intro;refine⟨fun _=>?_,n _ ?_⟩;(first | exact B.out _ _ | exact C.out _ _);clear n K))
   refine dz ?_;intro _ o;obtain⟨⟨dq,osq⟩,g⟩:=o;subst g;go_wp2_with fail;go_meet
   case rel=>exact⟨by rw[E.out],Ext.G4 _ _ _⟩
  by_cases h2:3<t
  .have E:Hid (A=true):=pF (b:=true) y.out ((pG rfl rfl (decide_eq_false (by dsimp only;omega)) rfl rfl).trans (by simp));refine cr (by kernel_rfl) (by kernel_rfl) ?_
   repeat (refine db (fun K n=>?_);go_simp;first | (refine n _ ?_;clear n K) | (apply Exists.intro;refine⟨fun _=>?_,n _ ?_⟩;(first | exact B.out _ _ | exact C.out _ _);clear n K))
   refine dz ?_;intro _ o;obtain⟨⟨dq,osq⟩,g⟩:=o;subst g;go_wp2_with fail;go_meet
   case rel=>exact⟨by rw[E.out],Ext.G4 _ _ _⟩
  cases vb with
  | false =>
   have E:Hid (A=true):=pF (b:=true) y.out ((pG rfl rfl rfl av.out rfl).trans (by simp));refine cr (by kernel_rfl) (by kernel_rfl) ?_
   repeat (refine db (fun K n=>?_);go_simp;first | (refine n _ ?_;clear n K) | (apply Exists.intro;refine⟨fun _=>?_,n _ ?_⟩;(first | exact B.out _ _ | exact C.out _ _);clear n K))
   refine dz ?_;intro _ o;obtain⟨⟨dq,osq⟩,g⟩:=o;subst g;go_wp2_with fail;go_meet
   case rel=>exact⟨by rw[E.out],Ext.G4 _ _ _⟩
  | true =>
  have R:Hid (∀e:Bool,(decide (k=0) || ltB (l.getD (k - 1) zRw).path h)=e->dl l k ⟨h,t,id⟩=e):=fun e he=>(pG ag.out (decide_eq_true (by dsimp only;omega)) (decide_eq_true (by dsimp only;omega)) av.out he).trans (by simp)
  by_cases a7:k=0
  .have E:Hid (A=false):=zB y.out (R.out true (by rw[a7];rfl));subst a7;refine cr (by kernel_rfl) (by kernel_rfl) ?_
   repeat (refine db (fun K n=>?_);go_simp;first | (refine n _ ?_;clear n K) | (apply Exists.intro;refine⟨fun _=>?_,n _ ?_⟩;(first | exact B.out _ _ | exact C.out _ _);clear n K))
   refine dz ?_;intro _ o;obtain⟨⟨dq,osq⟩,g⟩:=o;subst g;go_wp2_with fail;go_meet
   case rel=>exact⟨by rw[E.out],Ext.G4 _ _ _⟩
  .obtain ⟨j,rfl⟩:∃j,k=j+1:=⟨k - 1,by omega⟩;have b7:IntKind.i64.wrap (((j+1:Nat):Int) - 1)=(j:Int):=by rw[IntWalk.i64_in _ (by omega)];omega
   have y3:=ai.out j rfl;obtain⟨z,hz⟩:∃z,(l.getD j zRw).path=z:=⟨_,rfl⟩;rw[hz]at y3;have v3:=fun d D=>cell_regrown y3 d D
   have b4:(0:Int)<((j+1:Nat):Int):=by omega
   have b3:IntKind.i64.wrap (j:Int)=(j:Int):=IntWalk.i64_in _ (by omega);have b5:(0:Int)<(j:Int)+1:=by omega
   have F:j<l.length:=by omega
   have HZ:Hid _:=hz;clear hz y3;rcases ke h z with⟨u,hb,he⟩ | ⟨u,hb⟩ | ⟨u,hb,he⟩
   .have E:Hid (A=false):=zB y.out (R.out true (by rw[show j+1 - 1=j from rfl,HZ.out,u];simp));clear u;refine cr (by kernel_rfl) (by kernel_rfl) ?_
    repeat (refine db (fun K n=>?_);go_simp;first | (refine n _ ?_;clear n K) | (apply Exists.intro;refine⟨fun _=>?_,n _ ?_⟩;(first | exact B.out _ _ | exact C.out _ _);clear n K))
    refine dz ?_;intro _ o;obtain⟨⟨dq,osq⟩,g⟩:=o;subst g;go_wp2_with fail;go_meet
    case rel=>exact⟨by rw[E.out],Ext.G4 _ _ _⟩
   iterate 2
    .have E:Hid (A=true):=pF (b:=true) y.out (R.out false (by rw[show j+1 - 1=j from rfl,HZ.out,u];simp));clear u;refine cr (by kernel_rfl) (by kernel_rfl) ?_
     repeat (refine db (fun K n=>?_);go_simp;first | (refine n _ ?_;clear n K) | (apply Exists.intro;refine⟨fun _=>?_,n _ ?_⟩;(first | exact B.out _ _ | exact C.out _ _);clear n K))
     refine dz ?_;intro _ o;obtain⟨⟨dq,osq⟩,g⟩:=o;subst g;go_wp2_with fail;go_meet
     case rel=>exact⟨by rw[E.out],Ext.G4 _ _ _⟩
 case rest =>
 obtain⟨rfl,ab⟩:=hcut;have T:Hid (Ext w wc):=a0.out.trans ab;have a2:=ab.row bh.out;clear ab
 cases A with
 | true =>
  have HF:Hid (an l=false):=Dh HK.out (by rw[y.out];rfl);go_wp2;go_ret;exact⟨aM HF.out.symm,T.out⟩
 | false =>
 obtain⟨z0,z1,z2⟩:=cD a2;clear a2 z1 z2 v0 v1 v2 B C ai;have bk:Hid (dR ((l.take k).map (·.path))):=CU (fun j x O G=>by
  have J:=HT.out j x O G;unfold cO at J;exact((Bool.and_eq_true _ _).mp J).1)
 go_wp2_with fail;go_at_call 36;refine(nN h _ (HE.out.ext T.out) (by omega)).mono ?_;rintro e w5 ⟨⟨vP,rfl,hP⟩,ba⟩;obtain⟨pa,pc,rfl,p1,p2,p3,a'⟩:=hP.get;have am:Hid _:=a';obtain⟨P,U⟩:∃P,cn h=P:=⟨_,rfl⟩;have au:Hid _:=U;rw[U]at am p1 p2 ⊢;have S:Hid (Ext w w5):=T.out.trans ba;clear hP a' U ba z0;go_wp2_with fail;go_loopw [59] (fun i wq=>∃j:Nat,j<=P.length/\i=.int .i64 j/\Hid (∀p∈P.take j,fe (l.take k) p=false)/\Hid (Ext w5 wq)) (fun i _=>P.length - (intOf i).toNat)
 case atStart=>exact⟨0,Nat.zero_le _,rfl,fun p X=>by simp at X,Ext.refl _⟩
 case round =>
 obtain⟨j,O,rfl,HZ,I⟩:=hrel
 by_cases F:j<P.length
 case neg =>
  have bm:Hid (∀i x,i<k+1->l[i]? = some x->cO l i x=true):=fun i x hi G=>by
   by_cases bq:i=k
   .subst bq;rw[HK.out]at G;cases G;unfold cO;rw[y.out,Bool.not_false,Bool.true_and,au.out,List.all_eq_true];have J:=HZ.out;rw[List.take_of_length_le (by omega)]at J;exact fun p X=>by simp[J p X]
   .exact HT.out i x (by omega) G
  have bo:Hid (Ext w wr):=S.out.trans I.out;go_wp2_with fail;go_roundw
  case rel=>exact⟨k+1,by omega,by go_num,bm,bo⟩
  case measure=>simp[intOf];omega
 obtain⟨pb,po,rfl,a9⟩:=am.out j F;have u1:=I.out.cell (a9 j F);obtain⟨p,X⟩:∃p,P[j]? = some p:=⟨_,List.getElem?_eq_getElem F⟩;rw[show P.getD j []=p by rw[List.getD_eq_getElem?_getD,X];rfl]at u1;have ao:Hid _:=X;obtain⟨hb,V⟩:∃q,fe (l.take k) p=q:=⟨_,rfl⟩;have ad:Hid _:=V;have b6:k<=c:=by omega
 have Y:=zQ _ (l.take k) p wr ((HV.out.ext (S.out.trans I.out)).take (by omega)) (by rw[List.length_take];omega) bk.out;rw[V]at Y;have bi:Hid _:=Y;clear a9 X V Y;go_wp2_with fail;go_at_call 37;refine Calls.mono bi.out ?_;rintro e w6 ⟨⟨ix,rfl⟩,bc⟩;have a1:Hid (Ext w5 w6):=I.out.trans bc;clear bc u1
 cases hb with
 | false =>
  have bp:Hid (∀p∈P.take (j+1),fe (l.take k) p=false):=fun q hq=>by
   rw[cC ao.out]at hq;rcases List.mem_append.1 hq with hq | hq
   .exact HZ.out q hq
   .obtain rfl:q=p:=by simpa using hq
    exact ad.out
  go_wp2;go_roundw
  case rel=>exact⟨j+1,by omega,by go_num,bp,a1⟩
  case measure=>simp[intOf];omega
 | true =>
  have HF:Hid (an l=false):=Di HK.out (by rw[au.out];exact List.mem_of_getElem? ao.out) ad.out;go_wp2;go_ret;exact⟨aM HF.out.symm,S.out.trans a1.out⟩
end
end Go.Proofs.YtgfegpnmlkdjfaaGreatDoor
