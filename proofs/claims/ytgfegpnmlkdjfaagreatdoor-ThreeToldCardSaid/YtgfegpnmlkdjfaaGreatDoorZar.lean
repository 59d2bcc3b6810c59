/- Contracts of the program's functions and plain laws behind the card. Conditions: as each theorem states. -/
import Derived.Test.YtgfegpnmlkdjfaaGreatDoorZag
import Derived.Test.YtgfegpnmlkdjfaaGreatDoorZae
import Derived.Test.YtgfegpnmlkdjfaaGreatDoorZaq
import Derived.Test.YtgfegpnmlkdjfaaGreatDoorZan
import Derived.Laws.CopyOwn
import Derived.Deep.Onto
set_option linter.unusedVariables false
set_option linter.unusedSimpArgs false
set_option linter.unusedSectionVars false
set_option maxRecDepth 100000
set_option maxHeartbeats 64000000
namespace Go.Proofs.YtgfegpnmlkdjfaaGreatDoor
section
open Go Go.RowKit Go.Sort
section
variable {ops:Array Oper} {rest:List Oper} {o:Oper} {a:Act} {Q:Exit->Act->World->Prop} {w:World}
theorem nh (V:Fi->Value) (t:o.guard=none) (H:Operand) (D:o.op=Op.next H false) (b r n:Nat) (l:ae) (left:Lit->Bool) (d:Nat)
  (u:a.eval H=.pointer (some ⟨r,0,none⟩)) (h:w.ranges Tryz.prog 9 gM b r n (cX V l) left d)
  (e:d=0->(∀I,left I=false)->wpList Tryz.prog ops Q rest (a.put o.dst (.tuple #[.bool false])) w)
  (g:∀(p:B8) (f:Fi) (w':World) (c:Nat),ax l p=some f->left (.string p)=true ->
   w'.ranges Tryz.prog 9 gM b r n (cX V l) (fun z=>left z && !z.sameKey (.string p)) c->c<d->w.grownBy w' (some r)->w'.heap.size=w.heap.size ->
   (Instr.entry (.pointer (some ⟨r,0,none⟩))).run Tryz.prog w'=.ok (.tuple #[S8 p,V f]) w' ->
   wpList Tryz.prog ops Q rest (a.put o.dst (.tuple #[.bool true,S8 p,V f])) w') :
  wpList Tryz.prog ops Q (o::rest) a w:=by
 refine wpList_next_ranges w t H D 9 iV gM Value.string (id:Value->Value) (fun O I A=>Cy A) (fun v y _=>⟨v,rfl⟩) b r n (cX V l) left d u h e ?_;intro x v I y w' c k M N j E C L F q;obtain rfl:=Cz k;have K:y.1=.held v:=by
  have:some (DataW.held v,([]:List MemPlace))=some y:=N;rw[<-Option.some.inj this]
 have B:∃f,ax l x.data.toList=some f:=by
  cases A:ax l x.data.toList with
  | some f=>exact⟨f,rfl⟩
  | none =>
   have i:=j .nil;rw[qw,A,K]at i;cases i
 obtain⟨f,J⟩:=B;have G:v=V f:=by
  have i:=j .nil;rw[qw,J,K]at i;exact(DataW.held.inj i).symm
 subst G;exact g x.data.toList f w' c J M E C L F q
end
theorem l' (V:Fi->Value) {l:ae}:d8 (Maps.has (cX V l)) l=l:=by
 unfold d8;rw[List.filter_eq_self];intro e a;rw[og];unfold ax;rw[Option.isSome_map,List.find?_isSome];exact⟨e,a,by simp⟩
theorem xI (V:Fi->Value) (b:Nat) (l:ae) (w:World) (hr:Rising l) (hm:IsMG V w b l) (hl:l.length<=100000) (hp:∀p∈aX l,p.length<=1000000) (hV:∀p f,ax l p=some f->∃a n c,V f=.slice a n c) :
  Calls Tryz.prog 32 #[.map (some b)] w fun e w'=>(∃a c,e=.returned (.slice a l.length c))/\Ext w w':=by
 have d:=hm.map;have a7:=hm.lt;have HM:Hid (IsMG V w b l):=hm;have HR:Hid (Rising l):=hr;have HP:Hid (∀p∈aX l,p.length<=1000000):=hp;have HA:Hid _:=l' V (l:=l);clear hr hp hm;go_enter Tryz.func32,Tryz.ntmps32
 go_wp2_with (first
  | (at_range;refine wpList_range_own _ rfl _ 61 rfl 9 52 iV Tryz.underlying61 _ b _ _ rfl d ?_;intro w0 ad bc bs)
  | go_in)
 go_frame
 go_loopw [3] (fun sv wr=>∃(left:Lit->Bool) (R:Nat) (C:List B8),wr.ranges Tryz.prog 9 gM b w.heap.size l.length (cX V l) left R/\wr.ownsRow w.heap.size 9 1 sv C.length (C.map S8)/\(C++aX (d8 left l)).Perm (aX l)/\Ext w wr)
  (fun _ wr=>wr.rangeLeft b w.heap.size)
 case atStart=>exact⟨_,_,[],ad,World.ownsRow_nil _ _ _ _,by rw[HA.out];exact List.Perm.refl _,Below.grown (Below.refl _ _) bc (Nat.le_refl _) (fun j X=>by cases X)⟩
 case round =>
  obtain⟨left,R,C,K,d,I,hx⟩:=hrel;have P:Hid _:=I;have bp:C.length<=l.length:=by
   have:=I.length_eq;simp only[List.length_append,aX,List.length_map]at this;omega
  have E:Hid _:=d;clear I d
  go_wp2_with (at_next;refine nh V rfl _ rfl b w.heap.size _ l _ _ rfl K ?_ ?_)
  .intro bq Y;have H:C.Perm (aX l):=by
    have:=P.out;rw[lg Y]at this;simpa [aX]using this
   have Z:C.length=l.length:=by have:=H.length_eq;simpa [aX]using this
   have a3:Hid (C.Perm (aX l)):=H;have D:Hid (C.length=l.length):=Z;have a6:Hid (Ext w wr):=hx;have N:Hid (IsStrs wr _ C):=Row.GW E.out (by omega);obtain⟨ca,cc,T,-⟩:=N.out.get;subst T;clear Y H Z hx;go_wp2_with fail;go_at_call 52;have bk:C.length<=1000000:=by have:=D.out;omega
   refine(mR C.length _ C wr (Nat.le_refl _) N.out bk).mono ?_;rintro e M ⟨⟨v2,rfl,au⟩,o⟩;have a4:Hid (IsStrs M v2 (bB C)):=by
    have h9:=Row.GW au (by omega);unfold Hid IsStrs;rw[di];exact h9
   obtain⟨sa,sc,U,s1,s2,s3,ai⟩:=a4.out.get;have a5:Hid _:=ai;rw[di,D.out]at U s1;subst U;have Q:Hid (Ext w M):=a6.out.trans o;have a1:Hid (IsMG V M b l):=HM.out.ext Q.out;clear au o ai s2;go_wp2_with fail;go_loopw [5,21] (fun sv i wq=>∃(k:Nat) (xs:List Value),k<=l.length/\i=.int .i64 k/\Hid (wq.ownsRow M.heap.size 52 1 sv k xs)/\Hid (Ext M wq)) (fun _ i _=>l.length - (intOf i).toNat)
   case atStart=>exact⟨0,[],Nat.zero_le _,rfl,World.ownsRow_nil _ _ _ _,Ext.refl _⟩
   case round =>
   obtain⟨k,xs,hk,rfl,O,r⟩:=hrel
   by_cases G:k<l.length
   case neg =>
    have bi:k=l.length:=by omega
    subst bi;obtain⟨ra,rc,T,-⟩:=Row.GW O.out (by omega);subst T;go_wp2;go_ret;exact⟨⟨_,_,rfl⟩,Q.out.trans r.out⟩
   have F:k<(bB C).length:=by rw[di,D.out];exact G
   obtain⟨q,hq⟩:∃q,(bB C)[k]? = some q:=⟨_,List.getElem?_eq_getElem F⟩;obtain⟨bb,oo,rfl,hc⟩:=a5.out k F;have y1:=r.out.cell (hc k F);rw[show(bB C).getD k []=q by rw[List.getD_eq_getElem?_getD,hq];rfl]at y1;have J:q∈aX l:=a3.out.mem_iff.1 ((dy C).mem_iff.1 (List.mem_of_getElem? hq));have bm:=HP.out q J;obtain⟨f,hf⟩:∃f,ax l q=some f:=Option.isSome_iff_exists.1 (by unfold ax;rw[Option.isSome_map,List.find?_isSome];obtain⟨e,T,a9⟩:=List.mem_map.1 J;exact⟨e,T,by simp[a9]⟩);obtain⟨va,vn,vc,av⟩:=hV q f hf;have y:=((a1.out.ext r.out).Hd 61 52 (.slice none 0 0) Tryz.underlying61 (by kernel_rfl) q bm).2;rw[show fX V (.slice none 0 0) l q=.slice va vn vc by unfold fX;rw[hf];exact av]at y;have d:=O.out;have ao:=r.out.size;clear hc hq J hf av
   go_wp2_with (at_builtin;go_must (refine eY 22 52 (.slice none 0 0) 1 24 Tryz.underlying22 (by kernel_rfl) rfl (by omega) rfl _ _ rfl M.heap.size _ k xs rfl (d.alloc _) ⟨wr.heap.size,0,none⟩ 1 1 [.slice va vn vc] rfl rfl (bW (ah _ _)) (by simp[Value.oneCell']) (by omega) (by omega) (by simp;omega) ?_;intro v' w3 h bh _))
   go_roundw
   case rel=>exact⟨k+1,_,by omega,by go_num,h,aA (r.out.alloc _) (d.alloc _) bh⟩
   case measure=>simp[intOf];omega
  .intro q f w1 S y aa ag G W bo a';have am:=iC (f:=f) aa HR.out y;have B:((C++[q])++aX (d8 (fW left q) l)).Perm (aX l):=by
    refine List.Perm.trans ?_ P.out;rw[List.append_assoc];refine List.Perm.append_left C ?_;exact(List.Perm.map Prod.fst am).symm
   have a2:Hid _:=B;have ab:=row_ne_iter E.out K;have u:=World.ownsRow.kept E.out W (.inr ab.symm);have a0:Ext w w1:=Below.grown hx W hx.size (fun j X=>by cases X;exact Nat.le_refl _);have L:Ext w1 (w1.alloc (.cells #[S8 q] 9)):=(Ext.refl _).alloc _;have g:=az u L;have o:=a0.trans L;have ao:w.heap.size<=(w1.alloc (.cells #[S8 q] 9)).heap.size:=o.size;have x:=ag.alloc (.cells #[S8 q] 9);have A:Hid _:=row_ne_iter g x;have z:Hid _:=row_ne_low g a7;obtain⟨fv,ba⟩:∃fv,V f=fv:=⟨_,rfl⟩;rw[ba]at a';clear y am B aa ab u a0 L bo
   go_wp2_with (at_builtin;go_must (refine gW rfl _ _ rfl w.heap.size _ C.length C rfl g w1.heap.size 1 1 [q] rfl rfl (ah _ _) (by omega) ao ?_);intro v' w3 h t)
   go_roundw
   case rel=>exact⟨_,S,C++[q],x.kept t z.out A.out,by rw[List.length_append];exact h,a2.out,Below.grown o t o.size (fun j X=>(g.lt j X).1)⟩
   case measure=>rw[(x.kept t z.out A.out).left_eq,K.left_eq];exact G
end
section
open Go Go.RowKit
theorem yt (v:Value) (l:B8) (w:World) (i:IsBytes w v l) :
  Calls Tryz.prog 25 #[v] w fun e D=>(∃y,e=.returned y/\D.ownsRow w.heap.size 5 1 y l.length (l.map fun x=>.int .u8 x.toNat))/\Ext w D:=by
 have P:=i.len;obtain⟨a,k,rfl,M,N,O,n⟩:=id i;have C:Ext w (w.alloc (.cells #[] 5)):=(Ext.refl w).alloc _;have c:(w.alloc (.cells #[] 5)).ownsRow w.heap.size 5 1 (.slice (some ⟨w.heap.size,0,none⟩) 0 0) 0 []:=⟨rfl,.inr ⟨w.heap.size,0,#[],rfl,Nat.le_refl _,ah _ _,Nat.le_refl _,by unfold maxLen;omega,rfl,rfl⟩⟩
 cases l with
 | nil =>
  have z:Hid ((w.alloc (.cells #[] 5)).ownsRow w.heap.size 5 1 (.slice (some ⟨w.heap.size,0,none⟩) 0 0) 0 []):=c;clear i n c;go_enter Tryz.func25,Tryz.ntmps25
  cases a with
  | none =>
   go_wp2;go_ret;exact⟨⟨_,rfl,z.out⟩,(Ext.refl _).alloc _⟩
  | some J =>
   go_wp2;go_ret;exact⟨⟨_,rfl,z.out⟩,(Ext.refl _).alloc _⟩
 | cons x t =>
  obtain⟨b,o,rfl,B⟩:=n (by simp);generalize H:x::t=L at *;have d:∀(j:Nat) u,(L.map fun x=>Value.int .u8 x.toNat)[j]? = some u->(w.alloc (.cells #[] 5)).cell? ((⟨b,o,none⟩:Addr).add j)=some u:=by
   intro j u q;have h:(⟨b,o,none⟩:Addr).add j=⟨b,o+j,none⟩:=by unfold Addr.add;split <;> simp_all
   rw[h];exact C.cell (B j u q)
  have G:Hid _:=d;clear B d n i H;go_enter Tryz.func25,Tryz.ntmps25
  go_wp2_with (at_builtin;(refine eY _ _ _ 1 1 Tryz.underlying52 jl rfl (by omega) rfl _ _ rfl w.heap.size _ 0 _ rfl c ⟨b,o,none⟩ L.length k (L.map fun x=>Value.int .u8 x.toNat) rfl (by simp) G.out (by intro u q;obtain⟨_,_,rfl⟩:=List.mem_map.1 q;rfl) (by omega) (by omega) (by simp) ?_);intro y E g p _;obtain⟨I,K,rfl,-⟩:=Row.GW g (by omega);have F:Hid (E.ownsRow w.heap.size 5 1 _ L.length (L.map fun x=>.int .u8 x.toNat)):=(by have A:=g;rw[List.nil_append,Nat.zero_add]at A;exact A);have r:Ext w E:=aA C c p)
  go_ret;exact⟨⟨_,rfl,F.out⟩,r⟩
end
end Go.Proofs.YtgfegpnmlkdjfaaGreatDoor
