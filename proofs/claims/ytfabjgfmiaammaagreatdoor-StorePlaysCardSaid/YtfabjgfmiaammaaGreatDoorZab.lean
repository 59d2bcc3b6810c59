/- Contracts of the program's functions and plain laws behind the card. Conditions: as each theorem states. -/
import Derived.Test.YtfabjgfmiaammaaGreatDoorZaa
import Derived.Deep.QuietTactic
import Derived.Lib.QuietBelow
import Derived.Great.BuildSlice
import Derived.Maps.RangeWalk
import Derived.Maps.OwnSet
import Derived.Maps.Ext
set_option linter.unusedVariables false
set_option linter.unusedSimpArgs false
set_option linter.unusedSectionVars false
set_option maxRecDepth 100000
set_option maxHeartbeats 64000000
namespace Go.Proofs.YtfabjgfmiaammaaGreatDoor
section
open Go Go.RowKit
theorem zy:∀n:Nat,n<256->bits BinOp.and IntKind.u8 (n:Int) 15=((n%16:Nat):Int):=by decide +kernel
theorem uV (y:UInt8) (h:(y.toNat:Int) / 16<16):Value.int .u8 ((aR.toArray[((y.toNat:Int) / 16).toNat]'(by simp[aR];omega)).toNat:Int)=.int .u8 (aR.getD (y.toNat / 16) 0).toNat:=by
 have e:((y.toNat:Int) / 16).toNat=y.toNat / 16:=by omega
 have a:y.toNat / 16<aR.length:=by have:=y.toNat_lt;simp[aR];omega
 simp only[e,List.getElem_toArray,List.getD_eq_getElem?_getD,a,List.getElem?_eq_getElem,Option.getD_some]
theorem uW (y:UInt8) (h:((y.toNat%16:Nat):Int)<16):Value.int .u8 ((aR.toArray[(((y.toNat%16:Nat):Int)).toNat]'(by simp[aR];omega)).toNat:Int)=.int .u8 (aR.getD (y.toNat%16) 0).toNat:=by
 have e:(((y.toNat%16:Nat):Int)).toNat=y.toNat%16:=by omega
 have a:y.toNat%16<aR.length:=by simp[aR];omega
 simp only[e,List.getElem_toArray,List.getD_eq_getElem?_getD,a,List.getElem?_eq_getElem,Option.getD_some]
variable {l:B8} {k:Nat} {y:UInt8}
theorem qr (h:k<l.length) (a:l.getD k 0=y):bX (l.take (k+1))=bX (l.take k)++[aR.getD (y.toNat / 16) 0,aR.getD (y.toNat%16) 0]:=by
 rw[List.take_succ_eq_append_getElem h];have:l[k]=y:=by rw[<-a];simp[h]
 simp[bX,this]
theorem sM (v:Value) (l:B8) (w:World) (J:IsBytes w v l) (hl:l.length<=30000000) :
  Calls Tryz.prog 55 #[v] w fun e B=>e=.returned (S8 (bX l))/\Ext w B:=by
 obtain⟨a,Q,rfl,K,L,E,M⟩:=J.get;have S:Hid _:=M;clear M J;go_enter Tryz.func55,Tryz.ntmps55;go_wp2;go_loopw [3,8] (fun v i wr=>∃k:Nat,k<=l.length/\i=.int .i64 k/\wr.ownsRow w.heap.size 5 1 v (2*k) ((bX (l.take k)).map fun x=>.int .u8 x.toNat)/\Ext w wr) (fun _ i _=>l.length - (intOf i).toNat)
 case atStart=>exact⟨0,Nat.zero_le _,rfl,World.ownsRow_nil _ _ _ _,Ext.refl _⟩
 case round =>
  obtain⟨k,j,rfl,c,C⟩:=hrel
  by_cases p:k<l.length
  .obtain ⟨b,o,rfl,N⟩:=S.out k p;have F:=C.cell (N k p);clear N;generalize O:l.getD k 0=y at F;have T:Hid _:=O;clear O;have q:y.toNat<256:=y.toNat_lt;have P:bits BinOp.and IntKind.u8 (y.toNat:Int) 15=((y.toNat%16:Nat):Int):=zy _ q;have U:Hid _:=P;clear P;go_wp2;apply aj 8 [_,_,_,.int .u8 (aR.getD (y.toNat / 16) 0).toNat,_,_,.int .u8 (aR.getD (y.toNat%16) 0).toNat,undef] [none,none,none,none,none,none,none,some (fun u B=>∃g,u=.slice (some ⟨g,0,none⟩) 2 2/\wr.heap.size<=g/\B.heap[g]? = some (.cells #[.int .u8 (aR.getD (y.toNat / 16) 0).toNat,.int .u8 (aR.getD (y.toNat%16) 0).toNat] 5 (0,0)))] [[],[],[1],[2],[],[4],[5],[3,6]] (by kernel_rfl) (by kernel_rfl) (by simp[ak])
   .refine ⟨?_,trivial⟩
    .exact fun u w B V ⟨g,K,L,E⟩=>⟨g,K,L,(V.block g (Array.getElem?_eq_some_iff.1 E).1).trans E⟩
   .simp (maxSteps:=1000000)only[List.take_succ_cons,List.take_zero,aw,aA,aa,Act.put,List.setIfInBounds_toArray,List.set_cons_zero,List.set_cons_succ,aK,aO,ak,List.getD_cons_zero,List.getD_cons_succ,and_true,true_and,forall_const];and_intros
    iterate 3 · intro z D A;intros;rename_i n;go_simp;exact n _ _ (Ext.refl _) rfl
    .intro z D A j R n;go_simp;rw[dif_pos ⟨by omega,by omega⟩];exact n _ _ (Ext.refl _) (uV y (by omega))
    iterate 2 · intro z D A;intros;rename_i n;go_simp;exact n _ _ (Ext.refl _) rfl
    .intro z D A j R n;go_simp;rw[U.out,dif_pos ⟨by omega,by omega⟩];exact n _ _ (Ext.refl _) (uW y (by omega))
    .intro z D A j R n;obtain⟨W,X⟩:=j;go_simp;exact n _ _ ((Ext.refl _).alloc _) ⟨_,rfl,A.size,ab _ _⟩
   intro z w2 r j;simp only[aP,Nat.zero_add,Nat.reduceAdd,and_true]at j;have Y:=j.2.2.2.2.2.2.2;simp(maxSteps:=1000000)only[List.take_succ_cons,List.take_zero,List.drop_succ_cons,List.drop_zero,aa,Act.put,List.setIfInBounds_toArray,List.set_cons_zero,List.set_cons_succ,Nat.zero_add,Nat.reduceAdd,j];clear j;generalize z 7=x7 at *;obtain⟨g,rfl,Z,G⟩:=Y;have d:=al c r;have h:=jV (l.take k)
   go_wp2_with (at_builtin;refine dH rfl _ _ rfl w.heap.size _ (2*k) _ rfl d g 2 2 [aR.getD (y.toNat / 16) 0,aR.getD (y.toNat%16) 0] rfl rfl G (by omega) (by have:=(C.trans r).size;exact this) ?_;intro v' w3 t H)
   go_roundw
   case rel=>exact⟨k+1,by omega,by go_num,by rw[qr p T.out];exact t,ai (C.trans r) d H⟩
   case measure=>simp[intOf];omega
  .have I:k=l.length:=by omega
   subst I;rw[List.take_length]at c;have h:=jV l;have ad:=dr (l:=bX l) (by unfold IsBytes;rw[h];exact Row.BM c (by omega));clear h;go_wp2;go_ret;exact⟨rfl,C⟩
theorem uX:∀n:Fin 256,Lib.indexByte aR (UInt8.ofNat n)=if bn (UInt8.ofNat n)<16 then(bn (UInt8.ofNat n):Int)else -1:=by decide +kernel
theorem no (c:UInt8):Lib.indexByte aR c=if bn c<16 then(bn c:Int)else -1:=by
 have:=uX ⟨c.toNat,c.toNat_lt⟩;simpa using this
theorem BF:∀a b:Fin 16,bits BinOp.or IntKind.i64 ((a.val:Int)*16) (b.val:Int)=(a.val:Int)*16+b.val:=by decide +kernel
variable {x:UInt8}
theorem lQ {i:Int} {n:Nat} (a:i=n) (b:l.getD n 0=x) (h:i.toNat<(⟨l.toArray⟩:ByteArray).size):Value.int .u8 (((⟨l.toArray⟩:ByteArray)[i.toNat]).toNat:Int)=.int .u8 x.toNat:=by
 subst a;have c:n<l.length:=h;have:(⟨l.toArray⟩:ByteArray)[(n:Int).toNat]=l[n]:=rfl;rw[this,<-b];simp[c]
theorem uY (l:B8) (x:UInt8) {r:Int} (a:Lib.indexByte l x=r):Value.int .i64 (Lib.indexByte l ((x.toNat:Int).toNat.toUInt8))=.int .i64 r:=by
 rw[<-a];simp
theorem oV (x y:UInt8) (l:B8):aW (x::y::l)=if bn x<16/\bn y<16 then(aW l).map (UInt8.ofNat (16*bn x+bn y) :: ·)else none:=rfl
theorem iY:∀(a b:B8),a.length%2=0->aW (a++b)=(aW a).bind fun x=>(aW b).map (x ++ ·)
 | [],b,_=>by simp[aW]
 | [x],b,h=>by simp at h
 | x::y::a,b,h=>by
  have d:=iY a b (by simp only[List.length_cons]at h;omega);rw[List.cons_append,List.cons_append,oV,oV,d]
  by_cases c:bn x<16/\bn y<16
  .rw [if_pos c,if_pos c]
   cases aW a with
   | none=>rfl
   | some r=>cases aW b <;> rfl
  .rw [if_neg c,if_neg c];rfl
theorem oW (h:l.length%2=1):aW l=none:=by
 cases a:aW l with
 | none=>rfl
 | some b=>have:=(dE l a).1;omega
variable {bs:B8}
theorem kh (h:2*k+1<l.length) (c:l.getD (2*k) 0=x) (d:l.getD (2*k+1) 0=y) (e:aW (l.take (2*k))=some bs) :
  l.take (2*(k+1))=l.take (2*k)++[x,y]/\aW (l.take (2*(k+1)))=(if bn x<16/\bn y<16 then some (bs++[UInt8.ofNat (16*bn x+bn y)])else none):=by
 have b:l.take (2*(k+1))=l.take (2*k)++[x,y]:=by
  have g:l[2*k]? = some x:=by rw[<-c];simp[List.getD_eq_getElem?_getD,show 2*k<l.length by omega]
  have i:l[2*k+1]? = some y:=by rw[<-d];simp[List.getD_eq_getElem?_getD,h]
  rw[show 2*(k+1)=2*k+1+1 by omega,List.take_add_one,List.take_add_one,g,i,List.append_assoc];rfl
 refine⟨b,?_⟩;rw[b,iY _ _ (by rw[List.length_take];omega),e]
 by_cases a:bn x<16/\bn y<16
 .rw [if_pos a];simp[aW,a.1,a.2]
 .rw [if_neg a];simp only[aW,if_neg a];rfl
theorem iA (h:2*k+1<l.length) (b:l.getD (2*k) 0=x) (c:l.getD (2*k+1) 0=y) (d:aW (l.take (2*k))=some bs) (e:¬(bn x<16/\bn y<16)):aW l=none:=by
 obtain⟨g,a⟩:=kh h b c d;rw[if_neg e]at a;have:=iY (l.take (2*(k+1))) (l.drop (2*(k+1))) (by rw[List.length_take];omega);rw[List.take_append_drop,a]at this;exact this
def de (l:B8) (w:World) (e:Ending) (w':World):Prop :=
 (match aW l with
  | some b=>∃v,e=.returned (.tuple #[v,.bool true])/\IsBytes w' v b
  | none=>e=.returned (.tuple #[.slice none 0 0,.bool false]))/\Ext w w'
theorem oX (l:B8) (w:World) (hl:l.length<=140737488355328) :
  Calls Tryz.prog 53 #[S8 l] w (de l w):=by
 have hd:(⟨l.toArray⟩:ByteArray).toList=l:=Lib.toList_data _
 by_cases t:l.length%2=0
 .obtain ⟨m,D⟩:∃m,l.length=2*m:=⟨l.length / 2,by omega⟩;have u:(l.length:Int).tmod 2=0:=by
   rw[D];exact Int.tmod_eq_zero_of_dvd ⟨(m:Int),by push_cast;rfl⟩
  have HM:Hid _:=D;clear t;go_enter Tryz.func53,Tryz.ntmps53;go_wp2;clear u;go_loopw [4,5] (fun v i wr=>∃(k:Nat) (B:B8),2*k<=l.length/\i=.int .i64 (2*k)/\B.length=k/\Hid (aW (l.take (2*k))=some B)/\wr.ownsRow w.heap.size 5 1 v k (B.map fun x=>.int .u8 x.toNat)/\Ext w wr) (fun _ i _=>l.length - (intOf i).toNat)
  case atStart=>exact⟨0,[],Nat.zero_le _,rfl,rfl,rfl,World.ownsRow_nil _ _ _ _,Ext.refl _⟩
  case round =>
   obtain⟨k,B,q,rfl,E,O,g,hx⟩:=hrel;have D:=HM.out
   by_cases a6:2*k<l.length
   .have n:2*k+1<l.length:=by omega
    have a7:2*(k:Int)<(l.length:Int):=by omega
    have a8:(2*(k:Int)+1)<(l.length:Int):=by omega
    have F:IntKind.i64.wrap (2*(k:Int)+1)=2*(k:Int)+1:=IntWalk.i64_in _ (by omega);have HW:Hid _:=F;obtain⟨x,G⟩:∃x,l.getD (2*k) 0=x:=⟨_,rfl⟩;obtain⟨y,H⟩:∃y,l.getD (2*k+1) 0=y:=⟨_,rfl⟩;have P:Hid _:=G;have Q:Hid _:=H;obtain⟨r,S⟩:∃r,Lib.indexByte aR x=r:=⟨_,rfl⟩;obtain⟨s,T⟩:∃s,Lib.indexByte aR y=s:=⟨_,rfl⟩;have U:Hid _:=S;have V:Hid _:=T;have a:=no x;have b:=no y;rw[S]at a;rw[T]at b;have W:Hid _:=a;have X:Hid _:=b;clear F D G H S T a b;go_wp2;apply aj 9 [_,_,.int .u8 x.toNat,.int .i64 r,_,_,_,.int .u8 y.toNat,.int .i64 s] [none,none,none,none,none,none,none,none,none] [[],[],[0,1],[2],[],[],[5],[4,6],[7]] (by kernel_rfl) (by kernel_rfl) (by simp[ak])
    .trivial
    .simp (maxSteps:=1000000)only[List.take_succ_cons,List.take_zero,aw,aA,aa,Act.put,List.setIfInBounds_toArray,List.set_cons_zero,List.set_cons_succ,aK,aO,ak,List.getD_cons_zero,List.getD_cons_succ,and_true,true_and,forall_const];and_intros
     iterate 2 · intro C I J;intros;rename_i o;go_simp;exact o _ _ (Ext.refl _) rfl
     .intro C I J q R o;obtain⟨Y,Z⟩:=q;go_simp;rw[dif_pos (by omega)];exact o _ _ (Ext.refl _) (lQ (by omega) P.out (by show(2*(k:Int)).toNat<l.length;omega))
     .intro C I J q R o;go_simp;refine(Tryz.strings_IndexByte ⟨aR.toArray⟩ x.toNat _).mono ?_;rintro e w2 ⟨rfl,rfl⟩;exact⟨_,rfl,o _ _ (Ext.refl _) (uY _ x U.out)⟩
     iterate 3 · intro C I J;intros;rename_i o;go_simp;exact o _ _ (Ext.refl _) rfl
     .intro C I J q R o;obtain⟨Y,Z⟩:=q;go_simp;simp only[HW.out];rw[dif_pos ⟨by omega,by omega⟩];exact o _ _ (Ext.refl _) (lQ (by omega) Q.out (by show(2*(k:Int)+1).toNat<l.length;omega))
     .intro C I J q R o;go_simp;refine(Tryz.strings_IndexByte ⟨aR.toArray⟩ y.toNat _).mono ?_;rintro e w2 ⟨rfl,rfl⟩;exact⟨_,rfl,o _ _ (Ext.refl _) (uY _ y V.out)⟩
    intro C w2 K q;simp only[aP,Nat.zero_add,Nat.reduceAdd,and_true]at q;simp(maxSteps:=1000000)only[List.take_succ_cons,List.take_zero,List.drop_succ_cons,List.drop_zero,aa,Act.put,List.setIfInBounds_toArray,List.set_cons_zero,List.set_cons_succ,Nat.zero_add,Nat.reduceAdd,q];clear q;have a:=W.out;have b:=X.out;have j:=Ext.trans hx K
    by_cases c:bn x<16
    .rw [if_pos c]at a
     by_cases d:bn y<16
     .rw [if_pos d]at b;obtain⟨z,hz⟩:∃z,UInt8.ofNat (16*bn x+bn y)=z:=⟨_,rfl⟩;have a9:bits BinOp.or IntKind.i64 (r*16) s%256=(z.toNat:Int):=by
       have:=BF ⟨bn x,c⟩ ⟨bn y,d⟩;simp only at this;rw[a,b,this,<-hz];simp only[UInt8.toNat_ofNat'];omega
      have HZ:Hid _:=hz;have L:¬r<0:=by omega
      have ad:¬s<0:=by omega
      have a4:r<16:=by omega
      have a5:s<16:=by omega
      have au:Hid _:=c;have a0:Hid _:=d;have p:=al g K;have a':=j.size;clear a b hz c d g
      go_wp2_with (at_builtin;go_must (refine dH rfl _ _ rfl w.heap.size _ k _ rfl (p.alloc _) w2.heap.size 1 1 [z] rfl rfl (ab _ _) (by omega) (by simp;omega) ?_;intro v' w3 A a1))
      go_roundw
      case rel=>exact⟨k+1,B++[z],by omega,by go_num,by simp[E],by unfold Hid;rw[(kh n P.out Q.out O.out).2,if_pos ⟨au.out,a0.out⟩,HZ.out],by simpa using A,ai (j.alloc _) (p.alloc _) a1⟩
      case measure=>simp[intOf];omega
     .rw [if_neg d]at b;have M:Hid _:=iA n P.out Q.out O.out (fun h=>d h.2);have L:¬r<0:=by omega
      have ad:s<0:=by omega
      clear a b c d;go_wp2;go_ret2;unfold de;rw[M.out];exact⟨rfl,j⟩
    .rw [if_neg c]at a;have M:Hid _:=iA n P.out Q.out O.out (fun h=>c h.1);have L:r<0:=by omega
     clear a b c;go_wp2;go_ret2;unfold de;rw[M.out];exact⟨rfl,j⟩
   .have hg:¬(2*(k:Int))<(l.length:Int):=by omega
    have N:2*k=l.length:=by omega
    have hu:=O.out;rw[N,List.take_length]at hu;have a2:Hid _:=hu;have hb:IsBytes wr u4 B:=by
     unfold IsBytes;rw[E];exact Row.BM g (by omega)
    have a3:Hid _:=hb;clear hb g hu N D;go_wp2;go_ret2;unfold de;rw[a2.out];exact⟨⟨_,rfl,a3.out⟩,hx⟩
 .have ho:l.length%2=1:=by omega
  have u:(l.length:Int).tmod 2=1:=by rw[Int.tmod_eq_emod_of_nonneg (by omega)];omega
  have M:Hid _:=oW ho;clear t ho;go_enter Tryz.func53,Tryz.ntmps53;go_wp2;go_ret2;unfold de;rw[M.out];exact⟨rfl,Ext.refl _⟩
theorem fQ (l:B8) (w:World) (r:l.length<=140737488355328) :
  Calls Tryz.prog 17 #[S8 l] w fun e t=>e=.returned (.bool (av l))/\Ext w t:=by
 go_enter Tryz.func17,Tryz.ntmps17;go_wp2_with fail;go_at_call 53;refine(oX l w r).mono ?_;rintro e x ⟨h,o⟩;have i:Hid (av l=match aW l with | some b=>b.length==32 | none=>false):=rfl
 cases a:aW l with
 | none =>
  rw[a]at h;have j:Hid (av l=false):=by unfold Hid;rw[i.out,a]
  subst h;clear a i;go_wp2;go_ret;exact⟨by rw[j.out];rfl,o⟩
 | some b =>
  rw[a]at h;obtain⟨v,rfl,p⟩:=h;obtain⟨z,A,rfl,-⟩:=id p;have q:av l=(b.length==32):=by rw[i.out,a]
  have c:=(dE l a).1;have d:(((b.length:Nat):Int)==32)=av l:=by
   rw[q]
   by_cases g:b.length=32
   .rw [g];rfl
   .have u:(b.length==32)=false:=by simpa using g
    rw[u];simp only[beq_eq_false_iff_ne,ne_eq];omega
  have n:Hid _:=d;clear a i q p d c;go_wp2;go_ret;exact⟨by rw[<-n.out];rfl,o⟩
end
section
open Go Go.RowKit Go.Sort
structure QW (p:Prop):Prop where
 out:p
section
variable {P:Program} {ops:Array Oper} {C:World->Prop}
variable {a:Act}
theorem dQ {Q:Act->Prop} (h:Q a):QW (wpQuiet P ops C Q [] a):=⟨wpQuiet_nil h⟩
theorem dy {Q:Act->Prop} {o:Oper} {rest:List Oper}
  (h:∀K:Act->Prop,(∀a,QW (wpQuiet P ops C Q rest a)->K a)->if Region.wanted o (yielded ops a.tmps)then o.quiet P a C K else K (a.put o.dst undef)):QW (wpQuiet P ops C Q (o::rest) a) :=
 ⟨wpQuiet_step fun K b=>h K (fun a c=>b a c.out)⟩
theorem cU {id:Nat} {Q:Exit->Act->World->Prop} {w:World} {l:List Oper} (c:P.follows .mixedOrders=true) (d:Region.lexB .any l.toArray=true)
  (h:QW (wpQuiet P l.toArray (fun b=>∃p:Regrown,b=grow (redrawn w p.d) p.os) (fun e=>∀b,(∃p:Regrown,b=grow (redrawn w p.d) p.os)->Q .normal e b) l a)):(Code.region id l.toArray true).wp P Q a w :=
 wp_region_quiet_below c d h.out
end
theorem Ext.drawn (w:World) (n:Nat):Ext w (w.drewN n):=⟨rfl,rfl,rfl,Nat.le_refl _,fun _ _=>rfl⟩
theorem Ext.BX (w:World) (d:Nat) (a:Array Obj):Ext w (grow (redrawn w d) a):=below_regrown w d a
end
section
open Go Go.RowKit
variable {c:UInt8}
theorem qs:∀ {l:B8},(∀x∈l,x≠c)->cut c l=[l]
 | [],_=>rfl
 | x::l,h=>by
  have a:(x==c)=false:=by simpa using h x (by simp)
  unfold cut;rw[if_neg (by simp[a]),qs (fun y b=>h y (by simp[b]))]
theorem uZ:∀ {p q:B8},(∀x∈p,x≠c)->cut c (p++c::q)=p::cut c q
 | [],q,_=>by simp[cut]
 | x::p,q,h=>by
  have a:(x==c)=false:=by simpa using h x (by simp)
  have b:=uZ (p:=p) (q:=q) (fun y d=>h y (by simp[d]));show cut c (x::(p++c::q))=_;rw[cut,if_neg (by simp[a]),b]
def Cutting (c:UInt8) (l:B8) (k j:Nat) (L:List B8):Prop:=j<=k/\cut c l=L++cut c (l.drop j)/\∀x∈(l.drop j).take (k - j),x≠c
theorem Cutting.start (c:UInt8) (l:B8):Cutting c l 0 0 []:=⟨Nat.le_refl _,rfl,by simp⟩
variable {l:B8} {k j:Nat} {L:List B8}
theorem Cutting.step (h:Cutting c l k j L) (b:k<l.length) (d:l[k]≠c):Cutting c l (k+1) j L:=by
 obtain⟨i,e,g⟩:=h;refine⟨by omega,e,fun x a=>?_⟩;rw[show k+1 - j=(k - j)+1 by omega,List.take_add_one]at a;rcases List.mem_append.1 a with a | a
 .exact g x a
 .rw [List.getElem?_drop,show j+(k - j)=k by omega,List.getElem?_eq_getElem b]at a;have:x=l[k]:=by simpa using a
  rw[this];exact d
theorem Cutting.piece (h:Cutting c l k j L) (a:k<l.length) (b:l[k]=c):Cutting c l (k+1) (k+1) (L++[(l.drop j).take (k - j)]):=by
 obtain⟨n,d,g⟩:=h;refine⟨Nat.le_refl _,?_,by simp⟩;have i:l.drop j=(l.drop j).take (k - j)++c::l.drop (k+1):=by
  have e:=(List.take_append_drop (k - j) (l.drop j)).symm;rw[List.drop_drop,show j+(k - j)=k by omega,List.drop_eq_getElem_cons a,b]at e;exact e
 rw[d,List.append_assoc];congr 1;rw[List.singleton_append,<-uZ g];exact congrArg (cut c) i
theorem Cutting.last (h:Cutting c l l.length j L):cut c l=L++[(l.drop j).take (l.length - j)]:=by
 obtain⟨e,b,a⟩:=h;have d:(l.drop j).take (l.length - j)=l.drop j:=List.take_of_length_le (by simp);rw[d]at a ⊢;rw[b,qs a]
theorem iZ (s:ByteArray) (i j:Nat) (h:i<=j) (a:j<=s.size):s.extract i j=⟨((s.data.toList.drop i).take (j - i)).toArray⟩:=by
 apply ByteArray.ext;apply Array.toList_inj.1;simp[ByteArray.data_extract]
def xG (c:UInt8) (l:B8) (k j:Nat) (L:List B8):Prop:=(k<=l.length/\Cutting c l k j L)\/(k=l.length+1/\L=cut c l)
theorem tP (s:ByteArray) (c:UInt8) (w:World) (Q:s.size<=10000000) :
  Calls Tryz.prog 210 #[.string s,.int .u8 c.toNat] w fun e z=>∃v,e=.returned v/\IsStrs z v (cut c s.data.toList)/\Typed 9 z v/\Ext w z:=by
 have r:s.data.toList.length=s.size:=by simp
 have b:Hid _:=r;clear r;go_enter Tryz.func210,Tryz.ntmps210;go_wp2;go_loopw [5,6,7] (fun v f i wr=>∃(k j:Nat) (L:List B8),i=.int .i64 k/\f=.int .i64 j/\k<=s.size+1/\j<=k/\L.length<=k/\xG c s.data.toList k j L/\wr.ownsRow w.heap.size 9 1 v L.length (L.map S8)/\Ext w wr) (fun _ _ i _=>s.size+1 - (intOf i).toNat)
 case atStart=>exact⟨0,0,[],rfl,rfl,by omega,by omega,Nat.le_refl _,.inl ⟨Nat.zero_le _,Cutting.start _ _⟩,World.ownsRow_nil _ _ _ _,Ext.refl _⟩
 case round =>
  obtain⟨k,j,L,rfl,rfl,R,A,H,hrel,a,t⟩:=hrel;have B:Hid _:=hrel;clear hrel;have I:=t.size
  by_cases g:k=s.size+1
  .have n:IsStrs wr u5 (cut c s.data.toList)/\Typed 9 wr u5:=by
    rcases B.out with⟨S,_⟩ | ⟨_,J⟩
    .have:=b.out;omega
    .rw [<-J];exact⟨Row.BM a (by omega),Typed.BM a⟩
   have o:Hid _:=n;have K:¬(k:Int)<=(s.size:Int):=by omega
   clear n a g;go_wp2;go_ret;exact⟨_,rfl,o.out.1,o.out.2,t⟩
  .have C:k<=s.size:=by omega
   have G:Cutting c s.data.toList k j L:=by
    rcases B.out with⟨_,h⟩ | ⟨h,_⟩
    .exact h
    .have:=b.out;omega
   have D:Hid _:=G;have M:=iZ s j k A C;clear G g B
   by_cases u:k=s.size
   .subst u
    go_wp2_with (at_builtin;go_must (refine eO rfl _ _ rfl w.heap.size _ L.length L rfl (a.alloc _) wr.heap.size 1 1 [(s.data.toList.drop j).take (s.size - j)] rfl rfl (ab _ _) (by omega) (by simp;omega) ?_;intro N O d p))
    go_roundw
    case rel =>
     refine⟨s.size+1,s.size+1,L++[(s.data.toList.drop j).take (s.size - j)],by go_num,by go_num,by omega,by omega,by simp;omega,.inr ⟨by rw[b.out],?_⟩,by simpa using d,ai (t.alloc _) (a.alloc _) p⟩;have:=D.out;rw[<-b.out]at this;rw[Cutting.last this,b.out]
    case measure=>simp[intOf]
   .have l:k<s.size:=by omega
    have P:((k:Int)==(s.size:Int))=false:=by simp;omega
    have x:s.data.toList[k]'(by rw[b.out];exact l)=s[k]:=rfl;have y:Hid _:=x;clear x
    by_cases q:s[k]=c
    .have E:((s[k].toNat:Int)==(c.toNat:Int))=true:=by simp[q]
     have F:Hid _:=q;clear q
     go_wp2_with (at_builtin;go_must (refine eO rfl _ _ rfl w.heap.size _ L.length L rfl (a.alloc _) wr.heap.size 1 1 [(s.data.toList.drop j).take (k - j)] rfl rfl (ab _ _) (by omega) (by simp;omega) ?_;intro N O d p))
     go_roundw
     case rel =>
      exact⟨k+1,k+1,L++[(s.data.toList.drop j).take (k - j)],by go_num,by go_num,by omega,by omega,by simp;omega,.inl ⟨by rw[b.out];exact l,Cutting.piece D.out (by rw[b.out];exact l) (y.out.trans F.out)⟩,by simpa using d,ai (t.alloc _) (a.alloc _) p⟩
     case measure=>simp[intOf];omega
    .have E:((s[k].toNat:Int)==(c.toNat:Int))=false:=by
      rw[beq_eq_false_iff_ne];intro h;exact q (UInt8.toNat_inj.1 (by omega))
     have F:Hid _:=q;clear q;go_wp2;go_roundw
     case rel =>
      exact⟨k+1,j,L,by go_num,rfl,by omega,by omega,by omega,.inl ⟨by rw[b.out];exact l,Cutting.step D.out (by rw[b.out];exact l) (by rw[y.out];exact F.out)⟩,a,t⟩
     case measure=>simp[intOf];omega
theorem zG (s:ByteArray) (w:World) (A:s.size<=140737488355328) :
  Calls Tryz.prog 155 #[.string s] w fun e x=>e=.returned (.bool (bR s.data.toList))/\x=w:=by
 have a:s.data.toList.length=s.size:=by simp
 by_cases B:s.size<1
 .have d:Hid (bR s.data.toList=false):=by
   have:s.data.toList=[]:=List.eq_nil_of_length_eq_zero (by omega);unfold Hid;rw[this];decide
  have l:(s.size:Int)<1:=by omega
  clear a;go_enter Tryz.func155,Tryz.ntmps155;go_wp2;go_ret;exact⟨an d.out.symm,rfl⟩
 by_cases y:64<s.size
 .have d:Hid (bR s.data.toList=false):=by
   unfold Hid bR;rw[a];simp;omega
  have l:¬(s.size:Int)<1:=by omega
  have n:64<(s.size:Int):=by omega
  clear a;go_enter Tryz.func155,Tryz.ntmps155;go_wp2;go_ret;exact⟨an d.out.symm,rfl⟩
 have l:¬(s.size:Int)<1:=by omega
 have n:¬64<(s.size:Int):=by omega
 cases o:(s.toList==[46])with
 | true =>
  have d:Hid (bR s.data.toList=false):=by
   rw[Lib.toList_data]at o;have:s.data.toList=[46]:=by simpa using o
   unfold Hid;rw[this];decide
  clear a;go_enter Tryz.func155,Tryz.ntmps155;go_wp2;go_ret;exact⟨an d.out.symm,rfl⟩
 | false =>
  cases g:(s.toList==[46,46])with
  | true =>
   have d:Hid (bR s.data.toList=false):=by
    rw[Lib.toList_data]at g;have:s.data.toList=[46,46]:=by simpa using g
    unfold Hid;rw[this];decide
   clear a;go_enter Tryz.func155,Tryz.ntmps155;go_wp2;go_ret;exact⟨an d.out.symm,rfl⟩
  | false =>
   have d:Hid (s.data.toList.any fp=false->bR s.data.toList=true):=by
    intro b;rw[Lib.toList_data]at o g;unfold bR;rw[b,o,g,a];have:s.data.toList≠[]:=fun h=>by rw[h]at a;simp at a;omega
    have c:s.data.toList.isEmpty=false:=by cases h:s.data.toList <;> simp_all
    have p:decide (s.size<=64)=true:=by simp;omega
    rw[c,p];rfl
   clear a;go_enter Tryz.func155,Tryz.ntmps155;go_wp2
   go_loop [3] (fun i=>∃k:Nat,k<=s.size/\i=.int .i64 k/\(s.data.toList.take k).any fp=false) (fun i=>s.size - (intOf i).toNat)
   case atStart=>exact⟨0,Nat.zero_le _,rfl,rfl⟩
   case round =>
    obtain⟨k,C,rfl,t⟩:=hrel;have u:Hid _:=t;clear t
    by_cases j:k<s.size
    .by_cases D:(s[k].toNat:Int)<33
     .go_wp2;go_ret;exact⟨an (gA j (iN (by omega))).symm,rfl⟩
     .by_cases E:(126:Int)<s[k].toNat
      .go_wp2;go_ret;exact⟨an (gA j (iN (by omega))).symm,rfl⟩
      .by_cases c:(s[k].toNat:Int)=47
       .have p:((s[k].toNat:Int)==47)=true:=beq_iff_eq.2 c;have q:Hid _:=c;clear c;go_wp2;go_ret;have c:=q.out;exact⟨an (gA j (iN (by omega))).symm,rfl⟩
       .have p:((s[k].toNat:Int)==47)=false:=beq_eq_false_iff_ne.2 c;have q:Hid _:=c;clear c;go_wp2
        go_round
        case rel =>
         have c:=q.out;exact⟨k+1,by omega,by go_num,qm j u.out (ow (by omega) (by omega) c)⟩
        case measure=>simp[intOf];omega
    .have r:k=s.size:=by omega
     have b:s.data.toList.any fp=false:=by
      have:=u.out
      rwa [r,List.take_of_length_le (by simp)]at this
     have z:Hid _:=d.out b;clear b;go_wp2;go_ret;exact⟨an z.out.symm,rfl⟩
theorem jt (l:B8) (w:World) (a:l.length<=140737488355328) :
  Calls Tryz.prog 155 #[S8 l] w fun e b=>e=.returned (.bool (bR l))/\b=w:=zG ⟨l.toArray⟩ w a
theorem zH (s:ByteArray) (w:World) (C:s.size<=10000000) :
  Calls Tryz.prog 153 #[.string s] w (qp s.data.toList w):=by
 have j:=(eZ 47 s.data.toList).2;have g:s.data.toList.length=s.size:=by simp
 have d:=fun x=>@oT 47 s.data.toList x
 rw[g]at j d
 by_cases M:(200:Int)<(s.size:Int)
 .go_enter Tryz.func153,Tryz.ntmps153;clear j d g;go_wp2;go_ret;exact⟨an (by rw[kg];simp;omega),Ext.refl _⟩
 have H:=kg s;have D:Hid _:=d;have p:Hid _:=H;clear H g d;go_enter Tryz.func153,Tryz.ntmps153;go_wp2_with fail;go_at_call 210;refine(tP s 47 _ C).mono ?_;rintro e N ⟨v,rfl,q,-,r⟩;obtain⟨a,E,rfl,O,P,Q,t⟩:=q.get;generalize F:cut 47 s.data.toList=L at *;clear q F;have G:Hid _:=t;clear t;go_wp2_with fail
 go_loop [4] (fun i=>∃k:Nat,k<=L.length/\i=.int .i64 k/\(L.take k).all bR=true) (fun i=>L.length - (intOf i).toNat)
 case atStart=>exact⟨0,Nat.zero_le _,rfl,rfl⟩
 case round =>
  obtain⟨k,R,rfl,u⟩:=hrel;have y:Hid _:=u;clear u
  by_cases c:k<L.length
  .obtain ⟨b,o,rfl,z⟩:=G.out k c;have l:=z k c;clear z;have I:=D.out _ (mB c);obtain⟨x,h⟩:∃x,x=L.getD k []:=⟨_,rfl⟩;rw[<-h]at I l;have A:Hid _:=h;clear h
   cases B:bR x with
   | true =>
    have n:Hid _:=B
    go_wp2_with (go_at_call 155;go_must (refine(jt _ _ ?_).mono ?_;omega;rintro e J ⟨rfl,rfl⟩))
    go_round
    case rel=>exact⟨k+1,by omega,by go_num,qn c y.out (by rw[<-A.out];exact n.out)⟩
    case measure=>simp[intOf];omega
   | false =>
    have n:Hid _:=B
    go_wp2_with (go_at_call 155;go_must (refine(jt _ _ ?_).mono ?_;omega;rintro e J ⟨rfl,rfl⟩))
    go_ret;exact⟨an (by rw[p.out,uU c (by rw[<-A.out];exact n.out)];simp),r⟩
  .go_wp2_with fail;go_ret;refine⟨an ?_,r⟩;have:=y.out;rw[List.take_of_length_le (by omega)]at this;rw[p.out,this];have K:decide (s.size<=200)=true:=by rw[decide_eq_true_eq];omega
   rw[K,Bool.true_and,Bool.true_and,decide_eq_decide];omega
theorem dv (l:B8) (w:World) (a:l.length<=10000000) :
  Calls Tryz.prog 153 #[S8 l] w fun e b=>e=.returned (.bool (aC l))/\Ext w b:=zH ⟨l.toArray⟩ w a
end
section
open Go Go.RowKit
theorem ae (w:World) (g:Nat) (cs:Array Value):w.grownBy (w.setRow g cs) (some g):=by
 refine⟨rfl,rfl,rfl,by simp[World.setRow],fun k c b=>?_⟩;have a:g≠k:=fun e=>b (by rw[e])
 simp[World.setRow,Array.getElem?_modify,a]
theorem aH (w:World) (g i:Nat) (v:Value):w.grownBy (w.setCell ⟨g,i,none⟩ v) (some g):=by
 refine⟨rfl,rfl,rfl,by simp[World.setCell],fun k b a=>?_⟩;exact Below.heap_setCell _ _ _ _ (by rintro rfl;exact a rfl)
variable {w w1:World} {g:Nat}
theorem Ext.but {a:World} (h:Ext w w1) (b:w1.grownBy a (some g)) (d:w.heap.size<=g):Ext w a :=
 Below.grown h b h.size (fun k c=>by simp at c;omega)
theorem Ext.setRow (h:Ext w w1) (g:Nat) (cs:Array Value) (a:w.heap.size<=g):Ext w (w1.setRow g cs):=h.but (ae _ _ _) a
variable {w':World} {o:Obj}
theorem Ext.row (h:Ext w w') (a:w.heap[g]? = some o):w'.heap[g]? = some o :=
 (h.block g (Array.getElem?_eq_some_iff.1 a).1).trans a
theorem aS {k:Nat} (h:w.grownBy w' (some g)) (b:w.heap[k]? = some o) (a:k≠g):w'.heap[k]? = some o :=
 (h.block k (Array.getElem?_eq_some_iff.1 b).1 (by simpa using a)).trans b
theorem dw {b:Nat} {e:TypeId} {c:Nat} {v:Value} {n:Nat} {xs:List Value} (h:w.ownsRow b e c v n xs) (i:0<n):∃g a,v=.slice (some ⟨g,0,none⟩) n a:=by
 obtain⟨_,⟨_,rfl⟩ | ⟨g,a,d,rfl,_⟩⟩:=h
 .omega
 .exact ⟨g,a,rfl⟩
theorem bK {c:Func} {p u:Tmp} {b:TypeId} (h:c.results=#[.cell p b,.tmp u]) (a:Array Value) (w:World) (g:Nat) (t:TypeId) (cs:Array Value) (fr:Nat×Nat) (d:Array Field) (v:Value)
  (e:a.getD p undef=.pointer (some ⟨g,0,none⟩)) (i:a.getD u undef=v) (j:w.heap[g]? = some (.cells cs t fr))
  (k:Tryz.prog.underlying b=some (.struct d)) (l:(Tryz.prog.info? b).map (·.size)=some cs.size) :
  (results c a).run Tryz.prog w=.ok (.tuple #[.agg cs,v]) w:=by
 rw[results_cell_tmp h,e,i];simp[asAddr,run_loadVar_row w g t b cs fr _ j k rfl l,Result.andThen]
section
variable {ops:Array Oper} {rest:List Oper} {o:Oper} {a:Act} {Q:Exit->Act->World->Prop} {w:World}
theorem af (d:o.guard=none) (c:TypeId) (x y:Operand) (z:o.op=.store c x y) (g j:Nat) (A:a.eval x=.pointer (some ⟨g,j,none⟩)) (v:Value) (B:a.eval y=v) (l:v.oneCell'=true)
  (t:TypeId) (cur:Array Value) (n:w.heap[g]? = some (.cells cur t (0,0))) (C:j+1<=cur.size) (p:(Tryz.prog.info? c).map (·.size)=some 1) (new:Array Value) (b:new=(cur.toList.take j++[v]++cur.toList.drop (j+1)).toArray)
  (h:∀w',w'.heap[g]? = some (.cells new t (0,0))->w.grownBy w' (some g)->wpList Tryz.prog ops Q rest (a.put o.dst undef) w'):wpList Tryz.prog ops Q (o::rest) a w :=
 wpList_plain d fun _ D=>by
  have q:=run_storeCells_at (P:=Tryz.prog) g j t [v] 0 cur w n (by simpa using C) (fun u r=>by simp at r;subst r;exact l);have E:v.cells=#[v]:=by cases v <;> first | rfl | cases l
  have F:(storeVar c ⟨g,j,none⟩ v).run Tryz.prog w=.ok () (w.setRow g new):=by
   cases e:Tryz.prog.info? c with
   | none=>simp[e]at p
   | some i =>
    have k:i.size=1:=by simpa [e]using p
    simp only[Nat.add_zero,List.length_cons,List.length_nil,Nat.zero_add]at q;rw[b];simp[storeVar,sizeOf,typeInfo,e,E,k,q]
  unfold Oper.wp execOp;simp only[z,A,B,Instr.storeAt,Instr.sureAddr,Sem.run_bind,Sem.run_pure,Result.andThen_ok,F];exact D _ _ (h _ (setRow_heap _ _ _ _ _ _ n) (ae _ _ _))
end
end
section
open Go Go.RowKit
def I64 (n:Int):Prop:=-9223372036854775808<=n/\n<=9223372036854775807
structure Ev where
 (t kind mode keep BN:Int)
 (path data:B8)
structure Fi where
 (mode:Int)
 (data:B8)
 (time:Int)
inductive Ch where
 | put (p:B8) (f:Fi)
 | mv (s d:B8)
 | del (p:B8)
abbrev aq:=List (B8×Fi)
def ltB (a b:B8):Bool:=decide (a<b)
def ax (l:aq) (p:B8):Option Fi:=(l.find? fun e=>e.1==p).map (·.2)
def b9 (l:aq) (p:B8):aq:=l.filter fun e=>!(e.1==p)
def fF (x:B8×Fi):aq->aq
 | []=>[x]
 | y::r=>if ltB x.1 y.1 then x::y::r else y::fF x r
def ee (l:aq) (p:B8) (f:Fi):aq:=fF (p,f) (b9 l p)
def ap (l:aq):Ch->aq
 | .put p f=>ee l p f
 | .mv s d=>match ax l s with
  | some x=>ee (b9 l s) d x
  | none=>l
 | .del p=>b9 l p
def aF (d s:B8):Bool:=(d++[47]).isPrefixOf s
def ei (l:aq) (path a:B8):Bool:=!(l.any fun e=>!(e.1==a) && (aF e.1 path || aF path e.1))
def cw (l:aq):Nat:=(l.map fun e=>e.2.data.length).sum
structure Fs where
 (room:Int)
 (now sure:aq)
 (pend:List Ch)
 (plan:List Ev)
 (calls:Nat)
 (users:List Ev)
 (time:Nat)
 (down:Bool)
def Ch.at (c:Ch) (t:Nat):Ch:=match c with
 | .put p f=>.put p { f with time:=t }
 | c=>c
def does (m:Fs) (c:Ch):Fs:={ m with time:=m.time+1,now:=ap m.now (c.at (m.time+1)),pend:=m.pend++[c.at (m.time+1)] }
def bA (path:B8) (mode:Int) (data:B8):Int :=
 if aC path=false then 6 else if mode<1\/3<mode then 1 else if 20000<data.length then 3 else 0
def bj (m:Fs) (path:B8) (mode:Int) (data:B8) (fits:Bool):Fs×Int :=
 if(ax m.now path).isNone/\ei m.now path []=false then(m,9)else if fits=false then(m,10)else(does m (.put path ⟨mode,data,0⟩),0)
def fY (l:aq) (path:B8):Nat:=match ax l path with
 | some f=>f.data.length
 | none=>0
def fA (m:Fs) (path:B8) (n:Nat):Bool:=decide ((n:Int)<=m.room - cw m.now+fY m.now path)
def aD (m:Fs) (path:B8):Fs×Int :=
 if aC path=false then(m,6)else if(ax m.now path).isNone then(m,7)else(does m (.del path),0)
def fd (m:Fs):Fs:={ m with down:=false }
def gP (m:Fs) (l:List Ev):Fs:={ m with plan:=l.filter fun e=>decide ((m.calls:Int)<e.t) }
def settle (m:Fs):Fs:={ m with sure:=m.now,pend:=[] }
def aM (m:Fs) (path:B8) (mode:Int) (data:B8):Fs×Int :=
 if m.down then(m,12)else if bA path mode data≠0 then(m,bA path mode data)
 else if(bj m path mode data true).2≠0 then bj m path mode data true
 else({ settle (bj m path mode data true).1 with users:=m.users++[⟨m.calls,4,mode,0,0,path,data⟩] },0)
def aL (m:Fs) (path:B8):Fs×Int :=
 if m.down then(m,12)else if(aD m path).2≠0 then aD m path
 else({ settle (aD m path).1 with users:=m.users++[⟨m.calls,5,0,0,0,path,[]⟩] },0)
def dL (l:aq) (a:Int):Option Ch->aq
 | some (.put p f)=>if 0<=a/\a<f.data.length then ap l (.put p { f with data:=f.data.take a.toNat })else l
 | _=>l
def dR (m:Fs) (a:Int):Nat:=min a.toNat m.pend.length
def di (m:Fs) (a b:Int):aq:=dL ((m.pend.take (dR m a)).foldl ap m.sure) b m.pend[dR m a]?
def cS (m:Fs) (a b:Int):Fs :=
 if m.down then m else { m with now:=di m a b,sure:=di m a b,pend:=[],down:=true }
def bC (n:Nat) (x:Fs×Bool×Bool) (e:Ev):Fs×Bool×Bool :=
 if e.t≠n then x
 else if e.kind=1 then(cS x.1 e.keep e.BN,x.2)
 else if e.kind=2 then(x.1,true,x.2.2)
 else if e.kind=3 then(x.1,x.2.1,true)
 else if e.kind=4 then((aM x.1 e.path e.mode e.data).1,x.2)
 else if e.kind=5 then((aL x.1 e.path).1,x.2)
 else x
def aB (m:Fs):Fs×Bool×Int :=
 let r:=m.plan.foldl (bC (m.calls+1)) ({ m with calls:=m.calls+1 },false,false)
 (r.1,r.2.1,if r.1.down then 12 else if r.2.2 then 11 else 0)
theorem mC {x e:B8×Fi}:∀ {l:aq},e∈fF x l↔e=x\/e∈l
 | []=>by simp[fF]
 | y::r=>by
  unfold fF;split
  .simp
  .simp only[List.mem_cons,mC (l:=r)];constructor
   iterate 2
    .rintro (h | h | h) <;> simp[h]
theorem l9 (x:B8×Fi):∀l:aq,(fF x l).length=l.length+1
 | []=>rfl
 | y::r=>by
  unfold fF;split
  .rfl
  .simp [l9 x r]
theorem dF (l:aq) (p:B8):(b9 l p).length<=l.length:=List.length_filter_le _ _
theorem gQ (l:aq) (p:B8) (f:Fi):(ee l p f).length<=l.length+1:=by
 unfold ee;rw[l9];have:=dF l p;omega
theorem dS (l:aq) (c:Ch):(ap l c).length<=l.length+1:=by
 cases c with
 | put p f=>exact gQ l p f
 | mv s d =>
  unfold ap;simp only;split
  .rename_i x _;have a:=gQ (b9 l s) d x;have b:=dF l s;omega
  .omega
 | del p=>have:=dF l p;show(b9 l p).length<=_;omega
end
section
open Go Go.RowKit
structure Fr (O:Nat->Prop) (w w':World):Prop where
 os:w'.os=w.os
 tape:w'.tape=w.tape
 output:w'.output=w.output
 size:w.heap.size<=w'.heap.size
 block:∀k,k<w.heap.size->(¬O k\/IsU8 w k)->w'.heap[k]? = w.heap[k]?
def Nw (O:Nat->Prop) (w w':World) (k:Nat):Prop:=O k\/(w.heap.size<=k/\k<w'.heap.size)
theorem Fr.refl (O:Nat->Prop) (w:World):Fr O w w:=⟨rfl,rfl,rfl,Nat.le_refl _,fun _ _ _=>rfl⟩
variable {w w':World} {k:Nat}
theorem IsU8.fr {O:Nat->Prop} (h:Fr O w w') (a:IsU8 w k):IsU8 w' k:=a.same (h.block k a.lt (.inr a))
variable {a:World}
theorem Fr.trans {O:Nat->Prop} {b c:World} (h:Fr O a b) (k:Fr (Nw O a b) b c):Fr O a c :=
 ⟨k.os.trans h.os,k.tape.trans h.tape,k.output.trans h.output,Nat.le_trans h.size k.size,fun i g d=>by
  have j:=h.block i g d;rw[<-j];refine k.block i (Nat.lt_of_lt_of_le g h.size) ?_;rcases d with d | l
  .exact .inl (fun e=>by rcases e with e | e;exact d e;omega)
  .exact .inr (l.fr h)⟩
theorem Fr.mono {O O':Nat->Prop} (h:Fr O w w') (a:∀k,O k->O' k):Fr O' w w' :=
 ⟨h.os,h.tape,h.output,h.size,fun k b c=>h.block k b (c.imp (fun d e=>d (a k e)) id)⟩
theorem Fr.BO {O:Nat->Prop} (h:Ext w w'):Fr O w w':=⟨h.os,h.tape,h.output,h.size,fun k a _=>h.block k a⟩
variable {g:Nat}
theorem Fr.BR {O:Nat->Prop} (h:w.grownBy w' (some g)) (c:O g) (d:¬IsU8 w g):Fr O w w' :=
 ⟨h.os,h.tape,h.output,h.size,fun k e a=>h.block k e (by
  rintro b;simp only[Option.some.injEq]at b;subst b;rcases a with a | a
  .exact a c
  .exact d a)⟩
theorem Fr.keep {O:Nat->Prop} (h:Fr O w w'):KeepB w w':=⟨h.size,fun k a=>h.block k a.lt (.inr a)⟩
theorem Fr.row {O:Nat->Prop} (h:Fr O w w') {o:Obj} (a:w.heap[k]? = some o) (b:¬O k):w'.heap[k]? = some o :=
 (h.block k (Array.getElem?_eq_some_iff.1 a).1 (.inl b)).trans a
theorem Nw.nw {O:Nat->Prop} {b c:World} (h:a.heap.size<=b.heap.size) (e:b.heap.size<=c.heap.size) (d:Nw (Nw O a b) b c k):Nw O a c k:=by
 rcases d with(d | d) | d
 .exact .inl d
 .exact .inr ⟨d.1,by omega⟩
 .exact .inr ⟨by omega,d.2⟩
theorem Nw.fst {O:Nat->Prop} {b c:World} (e:b.heap.size<=c.heap.size) (d:Nw O a b k):Nw O a c k:=by
 rcases d with d | d
 .exact .inl d
 .exact .inr ⟨d.1,by omega⟩
theorem Ext.B5 {O:Nat->Prop} {b:World} (a:Ext b w) (h:Fr O w w') (d:∀k,O k->b.heap.size<=k):Ext b w' :=
 ⟨h.os.trans a.os,h.tape.trans a.tape,h.output.trans a.output,Nat.le_trans a.size h.size,fun k c=>(h.block k (Nat.lt_of_lt_of_le c a.size) (.inl (fun e=>by have:=d k e;omega))).trans (a.block k c)⟩
def Inn (R:Nat->Prop) (v:Value):Prop:=∀k,v.ownBlock=some k->R k
variable {v:Value}
theorem Inn.mono {R R':Nat->Prop} (h:Inn R v) (a:∀k,R k->R' k):Inn R' v:=fun k b=>a k (h k b)
theorem Inn.nil (R:Nat->Prop) (n c:Nat):Inn R (.slice none n c):=fun k a=>by simp[Value.ownBlock]at a
structure IsData (R:Nat->Prop) (w:World) (v:Value) (l:B8):Prop where
 bytes:IsBytes w v l
 typed:TypB w v
 CK:Inn R v
theorem IsData.mono {R R':Nat->Prop} {l:B8} (h:IsData R w v l) (a:∀k,R k->R' k):IsData R' w v l:=⟨h.bytes,h.typed,h.CK.mono a⟩
theorem IsData.keep {R:Nat->Prop} {l:B8} (h:IsData R w v l) (k:KeepB w w'):IsData R w' v l:=⟨Row.B2 h.bytes h.typed k,h.typed.keep k,h.CK⟩
theorem IsData.nil (R:Nat->Prop) (w:World):IsData R w (.slice none 0 0) []:=⟨Row.nil _,TypB.nil _ _ _,Inn.nil _ _ _⟩
def KeepR (R:Nat->Prop) (w w':World):Prop:=w.heap.size<=w'.heap.size/\∀k,R k->IsU8 w k->w'.heap[k]? = w.heap[k]?
theorem KeepR.BS {R:Nat->Prop} (h:KeepB w w'):KeepR R w w':=⟨h.1,fun k _ a=>h.2 k a⟩
theorem KeepR.trans {R:Nat->Prop} {b c:World} (h:KeepR R a b) (k:KeepR R b c):KeepR R a c:=⟨Nat.le_trans h.1 k.1,fun i d e=>(k.2 i d (e.same (h.2 i d e))).trans (h.2 i d e)⟩
theorem IsData.BQ {R:Nat->Prop} {l:B8} (h:IsData R w v l) (p:KeepR R w w'):IsData R w' v l:=by
 obtain⟨⟨a,d,rfl,t,x,y,z⟩,q,e⟩:=h;refine⟨⟨a,d,rfl,t,x,y,fun A=>?_⟩,fun B n c g=>?_,e⟩
 .obtain ⟨b,o,rfl,C⟩:=z A;refine⟨b,o,rfl,fun i u D=>?_⟩;have j:=C i u D;rw[World.cell?_of_block (w:=w) (w':=w') (a:=⟨b,o+i,none⟩) (p.2 _ (e b rfl) (q ⟨b,o,none⟩ _ _ rfl))];exact j
 .have r:=q B n c g;simp only[Value.slice.injEq]at g;obtain⟨rfl,-⟩:=g;exact r.same (p.2 _ (e _ rfl) r)
def eH (v:Value):Option (DataW Value×List MemPlace):=some (.held v,[])
abbrev fiV (f:Fi) (v:Value):Value:=.agg #[.int .i64 f.mode,v,.int .i64 f.time]
def dat (b:B8->Value) (l:aq):DataW Value:=.map (l.map fun e=>(.string e.1,.held (fiV e.2 (b e.1))))
def Rising:aq->Prop:=List.Pairwise fun a b=>ltB a.1 b.1=true
structure IsFiles (R:Nat->Prop) (w:World) (b:Nat) (l:aq):Prop where
 CP:Rising l
 short:∀e∈l,e.1.length<=10000000
 map:∃sl:B8->Value,w.ownsMap Tryz.prog 9 eH b l.length (dat sl l)/\∀e∈l,IsData R w (sl e.1) e.2.data
variable {b:Nat} {l:aq}
theorem IsFiles.mono {R R':Nat->Prop} (h:IsFiles R w b l) (a:∀k,R k->R' k):IsFiles R' w b l:=by
 obtain⟨c,d,g,i,j⟩:=h;exact⟨c,d,g,i,fun e n=>(j e n).mono a⟩
theorem IsFiles.stay {R:Nat->Prop} (h:IsFiles R w b l) (d:w'.heap[b]? = w.heap[b]?) (g:KeepR R w w'):IsFiles R w' b l:=by
 obtain⟨i,j,n,⟨o,a,c,F,p,q⟩,r⟩:=h;exact⟨i,j,n,⟨o,a,d.trans c,F,p,q⟩,fun e c=>(r e c).BQ g⟩
theorem IsFiles.lt {R:Nat->Prop} (h:IsFiles R w b l):b<w.heap.size:=by
 obtain⟨_,_,c,a,_⟩:=h;exact a.lt
theorem IsFiles.Cb {R:Nat->Prop} (h:IsFiles R w b l):¬IsU8 w b:=by
 obtain⟨_,_,e,⟨g,a,d,_⟩,_⟩:=h;rintro⟨i,t,j,c,-⟩;rw[d]at c;cases c
def IsCh (R:Nat->Prop) (w:World) (cs:List Value):Ch->Prop
 | .put p f=>p.length<=10000000/\∃v,cs=[S8 p,S8 [],.bool true,.int .i64 f.mode,v,.int .i64 f.time]/\IsData R w v f.data
 | .mv s d=>s.length<=10000000/\d.length<=10000000/\s≠[]/\cs=[S8 d,S8 s,.bool false,.int .i64 0,.slice none 0 0,.int .i64 0]
 | .del p=>p.length<=10000000/\cs=[S8 p,S8 [],.bool false,.int .i64 0,.slice none 0 0,.int .i64 0]
variable {cs:List Value} {c:Ch}
theorem IsCh.mono {R R':Nat->Prop} (h:IsCh R w cs c) (a:∀k,R k->R' k):IsCh R' w cs c:=by
 cases c with
 | put p f =>
  obtain⟨b,v,e,g⟩:=h;exact⟨b,v,e,g.mono a⟩
 | mv s d=>exact h
 | del p=>exact h
theorem IsCh.BQ {R:Nat->Prop} (h:IsCh R w cs c) (a:KeepR R w w'):IsCh R w' cs c:=by
 cases c with
 | put p f =>
  obtain⟨b,v,e,g⟩:=h;exact⟨b,v,e,g.BQ a⟩
 | mv s d=>exact h
 | del p=>exact h
theorem IsCh.length {R:Nat->Prop} (h:IsCh R w cs c):cs.length=6/\cs.all (·.oneCell')=true:=by
 cases c with
 | put p f =>
  obtain⟨_,v,rfl,a⟩:=h;obtain⟨_,_,rfl,_⟩:=a.bytes;exact⟨rfl,by simp[Value.oneCell']⟩
 | mv s d=>obtain⟨_,_,_,rfl⟩:=h;exact⟨rfl,by simp[Value.oneCell']⟩
 | del p=>obtain⟨_,rfl⟩:=h;exact⟨rfl,by simp[Value.oneCell']⟩
def IsEvR (R:Nat->Prop) (w:World) (cs:List Value) (e:Ev):Prop:=∃d,cs=[.int .i64 e.t,.int .i64 e.kind,.int .i64 e.mode,.int .i64 e.keep,.int .i64 e.BN,S8 e.path,d]/\IsData R w d e.data/\e.path.length<=10000000
variable {e:Ev}
theorem IsEvR.mono {R R':Nat->Prop} (h:IsEvR R w cs e) (a:∀k,R k->R' k):IsEvR R' w cs e:=by
 obtain⟨v,b,d,g⟩:=h;exact⟨v,b,d.mono a,g⟩
theorem IsEvR.BQ {R:Nat->Prop} (h:IsEvR R w cs e) (a:KeepR R w w'):IsEvR R w' cs e:=by
 obtain⟨v,b,d,g⟩:=h;exact⟨v,b,d.BQ a,g⟩
theorem IsEvR.length {R:Nat->Prop} (h:IsEvR R w cs e):cs.length=7/\cs.all (·.oneCell')=true:=by
 obtain⟨v,rfl,a,_⟩:=h;obtain⟨_,_,rfl,_⟩:=a.bytes;exact⟨rfl,by simp[Value.oneCell']⟩
def Each {α:Type} (p:List Value->α->Prop) (d:List (List Value)) (xs:List α):Prop:=d.length=xs.length/\∀(i:Nat) c x,d[i]? = some c->xs[i]? = some x->p c x
theorem Each.nil {α:Type} (p:List Value->α->Prop):Each p [] []:=⟨rfl,fun i c x a=>by simp at a⟩
variable {css:List (List Value)}
theorem Each.imp {α:Type} {p q:List Value->α->Prop} {xs:List α} (h:Each p css xs) (a:∀c x,p c x->q c x):Each q css xs:=⟨h.1,fun i c x b d=>a c x (h.2 i c x b d)⟩
theorem Each.snoc {α:Type} {p:List Value->α->Prop} {xs:List α} (h:Each p css xs) {c:List Value} {x:α} (k:p c x):Each p (css++[c]) (xs++[x]):=by
 refine⟨by simp[h.1],fun i d y a b=>?_⟩;rw[List.getElem?_append]at a b
 by_cases e:i<css.length
 .rw [if_pos e]at a;rw[if_pos (by rw[<-h.1];exact e)]at b;exact h.2 i d y a b
 .rw [if_neg e]at a;rw[if_neg (by rw[<-h.1];exact e)]at b;have l:=(List.getElem?_eq_some_iff.1 a).1;have j:i - css.length=0:=by simp at l;omega
  have g:i - xs.length=0:=by rw[<-h.1];exact j
  rw[j]at a;rw[g]at b;have n:c=d:=by simpa using a
  have o:x=y:=by simpa using b
  rw[<-n,<-o];exact k
def OwnL {α:Type} (w:World) (t:TypeId) (d:Nat) (p:List Value->α->Prop) (v:Value) (xs:List α):Prop:=∃css:List (List Value),w.ownsRow 0 t d v xs.length css.flatten/\Each p css xs
def ReadL {α:Type} (w:World) (t:TypeId) (p:List Value->α->Prop) (v:Value) (xs:List α):Prop:=∃css:List (List Value),Row w v xs.length css.flatten/\Typed t w v/\Each p css xs
structure Parts (S O R:Nat->Prop) (w:World) (gm gd:Nat) (vp vl vu:Value) (now sure:aq) (pend:List Ch) (L users:List Ev):Prop where
 ne:gm≠gd
 om:O gm
 od:O gd
 now:IsFiles R w gm now
 sure:IsFiles R w gd sure
 pend:OwnL w 194 6 (IsCh R w) vp pend
 op:Inn O vp
 plan:ReadL w 121 (IsEvR R w) vl L
 ol:Inn S vl
 users:OwnL w 121 7 (IsEvR R w) vu users
 ou:Inn O vu
 off:∀k,vu.ownBlock=some k->vl.ownBlock≠some k
abbrev aZ (h:Int) (j n:Nat) (o p:Value) (d:Nat) (q:Value) (time:Nat) (i:Bool):Array Value:=#[.int .i64 h,.map (some j),.map (some n),o,p,.int .i64 d,q,.int .i64 time,.bool i]
def IsFs (S O R:Nat->Prop) (w:World) (p:Value) (m:Fs):Prop:=∃(g d h:Nat) (i j n:Value) (L:List Ev) (o:Nat),p=.pointer (some ⟨g,0,none⟩) /\
  w.heap[g]? = some (.cells (aZ m.room d h i j m.calls n m.time m.down) 79 (0,0))/\O g/\Parts S O R w d h i j n m.now m.sure m.pend L m.users/\m.plan=L.filter (fun e=>decide ((o:Int)<e.t))/\o<=m.calls/\L.length<=1000
variable {t:TypeId}
theorem ReadL.mono {α:Type} {p q:List Value->α->Prop} {xs:List α} (h:ReadL w t p v xs) (a:∀c x,p c x->q c x):ReadL w t q v xs:=by
 obtain⟨b,d,e,g⟩:=h;exact⟨b,d,e,g.imp a⟩
variable {size:Nat}
theorem OwnL.mono {α:Type} {p q:List Value->α->Prop} {xs:List α} (h:OwnL w t size p v xs) (a:∀c x,p c x->q c x):OwnL w t size q v xs:=by
 obtain⟨b,d,e⟩:=h;exact⟨b,d,e.imp a⟩
theorem OwnL.stay {α:Type} {p:List Value->α->Prop} {xs:List α} (h:OwnL w t size p v xs) (d:∀k,v.ownBlock=some k->w'.heap[k]? = w.heap[k]?):OwnL w' t size p v xs:=by
 obtain⟨a,⟨e,i⟩,j⟩:=h;refine⟨a,⟨e,i.imp id ?_⟩,j⟩;rintro⟨g,b,c,rfl,l,n,o⟩;exact⟨g,b,c,rfl,l,(d g rfl).trans n,o⟩
theorem Row.stay {n:Nat} (h:Row w v n cs) (e:∀k,v.ownBlock=some k->w'.heap[k]? = w.heap[k]?):Row w' v n cs:=by
 obtain⟨a,d,rfl,g,j,l,p⟩:=h;refine⟨a,d,rfl,g,j,l,fun q=>?_⟩;obtain⟨b,o,rfl,r⟩:=p q;refine⟨b,o,rfl,fun i u t=>?_⟩;rw[World.cell?_of_block (w:=w) (w':=w') (a:=⟨b,o+i,none⟩) (e b rfl)];exact r i u t
theorem Typed.stay {e:TypeId} (h:Typed e w v) (d:∀k,v.ownBlock=some k->w'.heap[k]? = w.heap[k]?):Typed e w' v:=fun a n c b=>by
 obtain⟨g,i,j⟩:=h a n c b;subst b;exact⟨g,i,(d a.block rfl).trans j⟩
theorem ReadL.stay {α:Type} {p:List Value->α->Prop} {xs:List α} (h:ReadL w t p v xs) (b:∀k,v.ownBlock=some k->w'.heap[k]? = w.heap[k]?):ReadL w' t p v xs:=by
 obtain⟨a,c,d,e⟩:=h;exact⟨a,c.stay b,d.stay b,e⟩
variable {gm gd:Nat} {vp vl vu:Value} {now sure:aq} {pend:List Ch} {L users:List Ev}
theorem Parts.mono {S O O' R R':Nat->Prop} (h:Parts S O R w gm gd vp vl vu now sure pend L users) (d:∀k,O k->O' k) (a:∀k,R k->R' k):Parts S O' R' w gm gd vp vl vu now sure pend L users :=
 ⟨h.ne,d _ h.om,d _ h.od,h.now.mono a,h.sure.mono a,h.pend.mono (fun c x b=>b.mono a),h.op.mono d,h.plan.mono (fun c x b=>b.mono a),h.ol,h.users.mono (fun c x b=>b.mono a),h.ou.mono d,h.off⟩
theorem OwnL.lt {α:Type} {q:List Value->α->Prop} {xs:List α} (h:OwnL w t size q v xs):∀k,v.ownBlock=some k->k<w.heap.size:=by
 obtain⟨a,b,_⟩:=h;exact fun k c=>(b.lt k c).2
theorem OwnL.typed {α:Type} {q:List Value->α->Prop} {xs:List α} (h:OwnL w t size q v xs):∀k,v.ownBlock=some k->∃cs d,w.heap[k]? = some (.cells cs t d):=by
 obtain⟨e,⟨_,i⟩,_⟩:=h;intro k b;rcases i with⟨rfl,_⟩ | ⟨g,j,a,rfl,_,l,_⟩
 .simp [Value.ownBlock]at b
 .have:g=k:=by simpa [Value.ownBlock]using b
  subst this;exact⟨a,(0,0),l⟩
theorem ReadL.typed {α:Type} {p:List Value->α->Prop} {xs:List α} (h:ReadL w t p v xs):∀k,v.ownBlock=some k->∃cs d,w.heap[k]? = some (.cells cs t d):=by
 obtain⟨e,_,g,_⟩:=h;intro k b
 cases v with
 | slice a n c =>
  cases a with
  | none=>simp[Value.ownBlock]at b
  | some a =>
   have:a.block=k:=by simpa [Value.ownBlock]using b
   subst this;exact g a n c rfl
 | _=>simp[Value.ownBlock]at b
theorem IsFiles.kind {R:Nat->Prop} (h:IsFiles R w b l):∃c a,w.heap[b]? = some (.map c a):=by
 obtain⟨_,_,e,⟨c,a,d,_⟩,_⟩:=h;exact⟨c,a,d⟩
theorem Parts.stay {S O R:Nat->Prop} (h:Parts S O R w gm gd vp vl vu now sure pend L users)
  (d:w'.heap[gm]? = w.heap[gm]?) (e:w'.heap[gd]? = w.heap[gd]?) (g:∀k,vp.ownBlock=some k->w'.heap[k]? = w.heap[k]?) (i:∀k,vl.ownBlock=some k->w'.heap[k]? = w.heap[k]?) (j:∀k,vu.ownBlock=some k->w'.heap[k]? = w.heap[k]?) (a:KeepR R w w') :
  Parts S O R w' gm gd vp vl vu now sure pend L users :=
 ⟨h.ne,h.om,h.od,h.now.stay d a,h.sure.stay e a,(h.pend.stay g).mono (fun c x b=>b.BQ a),h.op,(h.plan.stay i).mono (fun c x b=>b.BQ a),h.ol,(h.users.stay j).mono (fun c x b=>b.BQ a),h.ou,h.off⟩
theorem Parts.CC {S O R:Nat->Prop} (h:Parts S O R w gm gd vp vl vu now sure pend L users)
  (b:∀k,O k->k<w.heap.size->w'.heap[k]? = w.heap[k]?) (c:∀k,S k->k<w.heap.size->w'.heap[k]? = w.heap[k]?) (d:KeepR R w w'):Parts S O R w' gm gd vp vl vu now sure pend L users :=
 h.stay (b _ h.om h.now.lt) (b _ h.od h.sure.lt) (fun k a=>b k (h.op k a) (h.pend.lt k a)) (fun k a=>c k (h.ol k a) (by obtain⟨g,i,e⟩:=h.plan.typed k a;exact(Array.getElem?_eq_some_iff.1 e).1)) (fun k a=>b k (h.ou k a) (h.users.lt k a)) d
theorem Parts.ext {S O R:Nat->Prop} (h:Parts S O R w gm gd vp vl vu now sure pend L users) (b:Ext w w'):Parts S O R w' gm gd vp vl vu now sure pend L users :=
 h.CC (fun k _ a=>b.block k a) (fun k _ a=>b.block k a) (KeepR.BS (KeepB.BO b))
variable {row:Option Nat}
theorem cg {R:Nat->Prop} (b:w.grownBy w' row) (d:∀k,row=some k->¬IsU8 w k):KeepR R w w' :=
 ⟨b.size,fun k _ c=>b.block k c.lt (fun a=>d k a.symm c)⟩
theorem cy {a:Nat} {x y:Obj} (e:w.heap[a]? = some x) (d:w.heap[b]? = some y) (c:x≠y):a≠b:=by
 rintro rfl;rw[e]at d;exact c (Option.some.inj d)
variable {fr:Nat×Nat}
theorem ao {cs:Array Value} (h:w.heap[k]? = some (.cells cs t fr)) (b:jU Tryz.prog 5 Tryz.prog.depth t=false):¬IsU8 w k:=by
 rintro⟨d,i,e,a,g⟩;rw[h]at a;simp only[Option.some.injEq,Obj.cells.injEq]at a;rw[a.2.1,g]at b;cases b
theorem Parts.own {S O R:Nat->Prop} (h:Parts S O R w gm gd vp vl vu now sure pend L users)
 {cs:Array Value} (e:w.heap[g]? = some (.cells cs 79 fr)) (i:w.grownBy w' (some g)):Parts S O R w' gm gd vp vl vu now sure pend L users:=by
 obtain⟨q,r,n⟩:=h.now.kind;obtain⟨t,u,o⟩:=h.sure.kind;have b:∀k,(∃x,w.heap[k]? = some x/\x≠Obj.cells cs 79 fr)->w'.heap[k]? = w.heap[k]?:=fun k ⟨x,a,p⟩=>i.block k (Array.getElem?_eq_some_iff.1 a).1 (by simpa using cy a e p)
 refine h.stay (b _ ⟨_,n,by simp⟩) (b _ ⟨_,o,by simp⟩) (fun k d=>?_) (fun k d=>?_) (fun k d=>?_) (cg i (by rintro k j;simp at j;subst j;exact ao e (by kernel_rfl)))
 .obtain ⟨l,f,a⟩:=h.pend.typed k d;exact b k ⟨_,a,by simp⟩
 .obtain ⟨l,f,a⟩:=h.plan.typed k d;exact b k ⟨_,a,by simp⟩
 .obtain ⟨l,f,a⟩:=h.users.typed k d;exact b k ⟨_,a,by simp⟩
theorem Parts.CV {S O R:Nat->Prop} (h:Parts S O R w gm gd vp vl vu now sure pend L users)
  (g:w.grownBy w' (some gm)) {b:aq} (o:IsFiles R w' gm b):Parts S O R w' gm gd vp vl vu b sure pend L users:=by
 obtain⟨q,r,p⟩:=h.now.kind;have d:KeepR R w w':=cg g (by rintro k d;simp at d;subst d;exact h.now.Cb);have i:∀k,(∃j t l,w.heap[k]? = some (Obj.cells j t l))->w'.heap[k]? = w.heap[k]?:=fun k ⟨j,t,l,a⟩=>g.block k (Array.getElem?_eq_some_iff.1 a).1 (by simpa using cy a p (by simp))
 refine⟨h.ne,h.om,h.od,o,h.sure.stay (g.block _ h.sure.lt (by simpa using h.ne.symm)) d,(h.pend.stay (fun k e=>?_)).mono (fun c x a=>a.BQ d),h.op,(h.plan.stay (fun k e=>?_)).mono (fun c x a=>a.BQ d),h.ol,(h.users.stay (fun k e=>?_)).mono (fun c x a=>a.BQ d),h.ou,h.off⟩
 .obtain ⟨n,f,a⟩:=h.pend.typed k e;exact i k ⟨_,_,_,a⟩
 .obtain ⟨n,f,a⟩:=h.plan.typed k e;exact i k ⟨_,_,_,a⟩
 .obtain ⟨n,f,a⟩:=h.users.typed k e;exact i k ⟨_,_,_,a⟩
theorem Parts.Da {S O R:Nat->Prop} (h:Parts S O R w gm gd vp vl vu now sure pend L users)
  (g:w.grownBy w' (some gd)) {b:aq} (o:IsFiles R w' gd b):Parts S O R w' gm gd vp vl vu now b pend L users:=by
 obtain⟨q,r,p⟩:=h.sure.kind;have d:KeepR R w w':=cg g (by rintro k d;simp at d;subst d;exact h.sure.Cb);have i:∀k,(∃j t l,w.heap[k]? = some (Obj.cells j t l))->w'.heap[k]? = w.heap[k]?:=fun k ⟨j,t,l,a⟩=>g.block k (Array.getElem?_eq_some_iff.1 a).1 (by simpa using cy a p (by simp))
 refine⟨h.ne,h.om,h.od,h.now.stay (g.block _ h.now.lt (by simpa using h.ne)) d,o,(h.pend.stay (fun k e=>?_)).mono (fun c x a=>a.BQ d),h.op,(h.plan.stay (fun k e=>?_)).mono (fun c x a=>a.BQ d),h.ol,(h.users.stay (fun k e=>?_)).mono (fun c x a=>a.BQ d),h.ou,h.off⟩
 .obtain ⟨n,f,a⟩:=h.pend.typed k e;exact i k ⟨_,_,_,a⟩
 .obtain ⟨n,f,a⟩:=h.plan.typed k e;exact i k ⟨_,_,_,a⟩
 .obtain ⟨n,f,a⟩:=h.users.typed k e;exact i k ⟨_,_,_,a⟩
theorem Parts.Ct {S O R:Nat->Prop} (h:Parts S O R w gm gd vp vl vu now sure pend L users)
  (p:w.grownBy w' vp.ownBlock) {d:Value} {b:List Ch} (l:OwnL w' 194 6 (IsCh R w') d b) (r:Inn O d):Parts S O R w' gm gd d vl vu now sure b L users:=by
 obtain⟨z,A,t⟩:=h.now.kind;obtain⟨B,C,u⟩:=h.sure.kind;have e:KeepR R w w':=cg p (fun k e=>by obtain⟨g,i,a⟩:=h.pend.typed k e;exact ao a (by kernel_rfl));have j:∀k,(∃x,w.heap[k]? = some x/\∀g i,x≠Obj.cells g 194 i)->w'.heap[k]? = w.heap[k]?:=fun k ⟨x,a,l⟩=>p.block k (Array.getElem?_eq_some_iff.1 a).1 (fun n=>by
  obtain⟨g,i,q⟩:=h.pend.typed k n.symm;rw[a]at q;exact l g i (Option.some.inj q))
 refine⟨h.ne,h.om,h.od,h.now.stay (j _ ⟨_,t,by simp⟩) e,h.sure.stay (j _ ⟨_,u,by simp⟩) e,l,r,(h.plan.stay (fun k o=>?_)).mono (fun c x a=>a.BQ e),h.ol,(h.users.stay (fun k o=>?_)).mono (fun c x a=>a.BQ e),h.ou,h.off⟩
 .obtain ⟨y,f,a⟩:=h.plan.typed k o;exact j k ⟨_,a,by simp⟩
 .obtain ⟨y,f,a⟩:=h.users.typed k o;exact j k ⟨_,a,by simp⟩
theorem Parts.Cx {S O R:Nat->Prop} (h:Parts S O R w gm gd vp vl vu now sure pend L users)
  (o:w.grownBy w' vu.ownBlock) {d:Value} {a:List Ev} (p:OwnL w' 121 7 (IsEvR R w') d a) (t:Inn O d) (i:∀k,d.ownBlock=some k->vl.ownBlock≠some k):Parts S O R w' gm gd vp vl d now sure pend L a:=by
 obtain⟨A,B,u⟩:=h.now.kind;obtain⟨C,D,y⟩:=h.sure.kind;have g:KeepR R w w':=cg o (fun k g=>by obtain⟨j,l,b⟩:=h.users.typed k g;exact ao b (by kernel_rfl));have q:∀k,(∃x,w.heap[k]? = some x/\∀j l,x≠Obj.cells j 121 l)->w'.heap[k]? = w.heap[k]?:=fun k ⟨x,b,p⟩=>o.block k (Array.getElem?_eq_some_iff.1 b).1 (fun e=>by
  obtain⟨j,l,r⟩:=h.users.typed k e.symm;rw[b]at r;exact p j l (Option.some.inj r))
 refine⟨h.ne,h.om,h.od,h.now.stay (q _ ⟨_,u,by simp⟩) g,h.sure.stay (q _ ⟨_,y,by simp⟩) g,(h.pend.stay (fun k n=>?_)).mono (fun c x b=>b.BQ g),h.op,(h.plan.stay (fun k n=>?_)).mono (fun c x b=>b.BQ g),h.ol,p,t,i⟩
 .obtain ⟨z,f,b⟩:=h.pend.typed k n;exact q k ⟨_,b,by simp⟩
 .obtain ⟨z,f,b⟩:=h.plan.typed k n;exact o.block k (Array.getElem?_eq_some_iff.1 b).1 (fun e=>h.off k e.symm n)
def On (O:Nat->Prop) (n:Nat) (k:Nat):Prop:=O k\/n<=k
theorem IsData.bound {R:Nat->Prop} {l:B8} (h:IsData R w v l):IsData (fun k=>R k/\k<w.heap.size) w v l :=
 ⟨h.bytes,h.typed,fun k d=>⟨h.CK k d,by
  cases v with
  | slice a n c =>
   cases a with
   | none=>simp[Value.ownBlock]at d
   | some a =>
    have e:=h.typed a n c rfl;have:a.block=k:=by simpa [Value.ownBlock]using d
    subst this;exact e.lt
  | _=>simp[Value.ownBlock]at d⟩⟩
theorem IsCh.bound {R:Nat->Prop} (h:IsCh R w cs c):IsCh (fun k=>R k/\k<w.heap.size) w cs c:=by
 cases c with
 | put p f =>
  obtain⟨a,v,b,e⟩:=h;exact⟨a,v,b,e.bound⟩
 | mv s d=>exact h
 | del p=>exact h
theorem IsEvR.bound {R:Nat->Prop} (h:IsEvR R w cs e):IsEvR (fun k=>R k/\k<w.heap.size) w cs e:=by
 obtain⟨v,a,b,d⟩:=h;exact⟨v,a,b.bound,d⟩
theorem IsFiles.bound {R:Nat->Prop} (h:IsFiles R w b l):IsFiles (fun k=>R k/\k<w.heap.size) w b l:=by
 obtain⟨a,c,d,g,i⟩:=h;exact⟨a,c,d,g,fun e j=>(i e j).bound⟩
theorem Parts.bound {S O R:Nat->Prop} (h:Parts S O R w gm gd vp vl vu now sure pend L users) :
  Parts S (fun k=>O k/\k<w.heap.size) (fun k=>R k/\k<w.heap.size) w gm gd vp vl vu now sure pend L users :=
 ⟨h.ne,⟨h.om,h.now.lt⟩,⟨h.od,h.sure.lt⟩,h.now.bound,h.sure.bound,h.pend.mono (fun c x a=>a.bound),fun k b=>⟨h.op k b,h.pend.lt k b⟩,h.plan.mono (fun c x a=>a.bound),h.ol,h.users.mono (fun c x a=>a.bound),fun k b=>⟨h.ou k b,h.users.lt k b⟩,h.off⟩
variable {p:Value} {m:Fs}
theorem IsFs.mono {S O O' R R':Nat->Prop} (h:IsFs S O R w p m) (a:∀k,O k->O' k) (b:∀k,R k->R' k):IsFs S O' R' w p m:=by
 obtain⟨g,c,d,e,i,j,L,l,n,o,q,r,t⟩:=h;exact⟨g,c,d,e,i,j,L,l,n,o,a _ q,r.mono a b,t⟩
theorem IsFs.fit {S O R:Nat->Prop} (h:IsFs S (On O w.heap.size) (On R w.heap.size) w' p m):IsFs S (Nw O w w') (Nw R w w') w' p m:=by
 obtain⟨g,e,i,j,l,n,L,o,q,c,r,t,u⟩:=h;have a:=(Array.getElem?_eq_some_iff.1 c).1;have b:∀(S:Nat->Prop) k,On S w.heap.size k/\k<w'.heap.size->Nw S w w' k:=fun S k d=>d.1.imp id (fun h=>⟨h,d.2⟩)
 exact⟨g,e,i,j,l,n,L,o,q,c,b O g ⟨r,a⟩,t.bound.mono (b O) (b R),u⟩
theorem IsFs.stay {S O R:Nat->Prop} (h:IsFs S O R w p m) (a:∀k,O k->k<w.heap.size->w'.heap[k]? = w.heap[k]?) (d:∀k,S k->k<w.heap.size->w'.heap[k]? = w.heap[k]?) (e:KeepR R w w'):IsFs S O R w' p m:=by
 obtain⟨g,i,j,l,n,o,L,q,r,b,c,t,u⟩:=h;exact⟨g,i,j,l,n,o,L,q,r,(a g c (Array.getElem?_eq_some_iff.1 b).1).trans b,c,t.CC a d e,u⟩
theorem IsFs.other {S O O' R:Nat->Prop} (h:IsFs S O R w p m) (b:Fr O' w w') (d:∀k,O k->¬O' k) (e:∀k,S k->¬O' k):IsFs S O R w' p m :=
 h.stay (fun k c a=>b.block k a (.inl (d k c))) (fun k c a=>b.block k a (.inl (e k c))) (KeepR.BS b.keep)
theorem IsFs.ext {S O R:Nat->Prop} (h:IsFs S O R w p m) (b:Ext w w'):IsFs S O R w' p m :=
 h.stay (fun k _ a=>b.block k a) (fun k _ a=>b.block k a) (KeepR.BS (KeepB.BO b))
variable {w1 w2:World}
theorem Fr.step {O:Nat->Prop} (h:Fr O w w1) (a:w1.grownBy w2 row) (e:∀k,row=some k->O k\/w.heap.size<=k) (g:∀k,row=some k->¬IsU8 w1 k):Fr O w w2 :=
 h.trans ⟨a.os,a.tape,a.output,a.size,fun k d b=>a.block k d (fun c=>by
  rcases b with b | b
  .exact b ((e k c.symm).imp id (fun h=>⟨h,d⟩))
  .exact g k c.symm b)⟩
theorem Fr.ext {O:Nat->Prop} (h:Fr O w w1) (a:Ext w1 w2):Fr O w w2:=h.trans (Fr.BO a)
end
section
open Go Go.RowKit
theorem np:∀a b:B8,bytesBefore a b=ltB a b
 | [],[]=>by simp[bytesBefore,ltB]
 | [],_::_=>by simp[bytesBefore,ltB]
 | _::_,[]=>by simp[bytesBefore,ltB]
 | a::r,b::s=>by
  rw[bytesBefore,np r s];unfold ltB;rw[Bool.eq_iff_iff];simp[List.cons_lt_cons_iff]
theorem fB:Maps.Keyed Tryz.prog 9:=Maps.string_keyed Tryz.underlying9
theorem jW (p:B8) (h:p.length<=10000000):keyOf Tryz.prog 9 (S8 p)=some (.string p):=by
 have a:p.length<=maxLen:=by unfold maxLen;omega
 simp[keyOf,mapKey,Tryz.underlying9,ByteArray.size,a]
theorem sN (w:World):(zeroValue 56).run Tryz.prog w=.ok (.agg #[.int .i64 0,.slice none 0 0,.int .i64 0]) w:=by kernel_rfl
def en (a:B8->Value) (e:B8×Fi):Lit×DataW Value:=(.string e.1,.held (fiV e.2 (a e.1)))
theorem jX (a:B8->Value) (l:aq):dat a l=.map (l.map (en a)):=rfl
def ki (a:B8->Value) (p:B8) (v:Value):B8->Value:=fun q=>if q=p then v else a q
theorem kZ (a:B8->Value) (p:B8):∀l:aq,(l.map (en a)).filter (fun q=>!q.1.sameKey (.string p))=(b9 l p).map (en a)
 | []=>rfl
 | e::l=>by
  have b:=kZ a p l;unfold b9 at b ⊢;have c:(en a e).1.sameKey (.string p)=(e.1==p):=rfl;rw[List.map_cons,List.filter_cons,List.filter_cons,c];split
  .rw [List.map_cons,b]
  .exact b
theorem sQ (a:B8->Value) (p:B8) (v:Value):∀l:aq,(∀e∈l,e.1≠p)->l.map (en (ki a p v))=l.map (en a)
 | [],_=>rfl
 | e::l,h=>by
  rw[List.map_cons,List.map_cons,sQ a p v l (fun e b=>h e (by simp[b]))];congr 1;unfold en ki;rw[if_neg (h e (by simp))]
theorem oY (a:B8->Value) (x:B8×Fi):∀l:aq,DataW.insert (en a x) (l.map (en a))=(fF x l).map (en a)
 | []=>rfl
 | y::l=>by
  rw[List.map_cons,DataW.insert,fF];have b:(en a x).1.before (en a y).1=ltB x.1 y.1:=np _ _;rw[b];split
  .rfl
  .rw [oY a x l];rfl
theorem lR (l:aq) (p:B8):∀e∈b9 l p,e.1≠p:=by
 intro e a;have:=(List.mem_filter.1 a).2;simpa using this
theorem zI (a:B8->Value) (l:aq) (p:B8) (f:Fi) (v:Value):(dat a l).put (.string p) (.held (fiV f v))=dat (ki a p v) (ee l p f):=by
 rw[jX,jX];unfold DataW.put ee;simp only;rw[kZ,<-sQ a p v _ (lR l p)];have:(Lit.string p,DataW.held (fiV f v))=en (ki a p v) (p,f):=by simp[en,ki]
 rw[this,oY]
theorem zJ (a:B8->Value) (l:aq) (p:B8):(dat a l).del (.string p)=dat a (b9 l p):=by
 rw[jX,jX];unfold DataW.del;simp only;rw[kZ]
theorem sR (a:B8->Value) (p:B8):∀l:aq,(l.map (en a)).find? (fun q=>q.1.sameKey (.string p))=(l.find? fun e=>e.1==p).map (en a)
 | []=>rfl
 | e::l=>by
  have b:(en a e).1.sameKey (.string p)=(e.1==p):=rfl;rw[List.map_cons,List.find?_cons,List.find?_cons,b];cases e.1==p
  .exact sR a p l
  .rfl
theorem qt (a:B8->Value) (l:aq) (p:B8) (z:DataW Value):(dat a l).atKey (.string p) z=match ax l p with | some f=>.held (fiV f (a p)) | none=>z:=by
 rw[jX];unfold DataW.atKey ax;simp only;rw[sR]
 cases h:l.find? fun e=>e.1==p with
 | none=>rfl
 | some e =>
  have:e.1=p:=by simpa using List.find?_some h
  subst this;rfl
theorem sT (c:B8->Value) (l:aq) (p:B8):Maps.has (dat c l) (.string p)=(ax l p).isSome:=by
 rw[jX,Maps.has_eq,Bool.eq_iff_iff,List.any_eq_true];unfold ax;constructor
 .rintro ⟨q,d,a⟩;obtain⟨e,b,rfl⟩:=List.mem_map.1 d;have:e.1==p:=a;rw[Option.isSome_map,List.find?_isSome];exact⟨e,b,this⟩
 .intro h;rw[Option.isSome_map,List.find?_isSome]at h;obtain⟨e,b,a⟩:=h;exact⟨en c e,List.mem_map.2 ⟨e,b,rfl⟩,a⟩
variable {l:aq} {p:B8} {f:Fi}
theorem fG (h:ax l p=some f):(p,f)∈l:=by
 unfold ax at h;obtain⟨e,a,rfl⟩:=Option.map_eq_some_iff.1 h;have b:=List.mem_of_find?_eq_some a;have c:e.1=p:=by simpa using List.find?_some a
 rw[<-c];exact b
variable {a:B8}
theorem fR {b c:B8} (h:ltB a b=true) (k:ltB b c=true):ltB a c=true:=by
 unfold ltB at *;simp only[decide_eq_true_eq]at *;exact List.lt_trans h k
theorem fS {b:B8} (h:ltB a b=false) (c:a≠b):ltB b a=true:=by
 unfold ltB at *;simp only[decide_eq_true_eq,decide_eq_false_iff_not]at *;exact Std.lt_of_le_of_ne (List.not_lt.1 h) (Ne.symm c)
theorem gX {b:B8} (h:ltB a b=true):a≠b:=by
 rintro rfl;unfold ltB at h;simp at h;exact absurd h (List.lt_irrefl a)
theorem Rising.del (h:Rising l) (p:B8):Rising (b9 l p):=List.Pairwise.filter _ h
theorem Rising.ins {x:B8×Fi}:∀ {l:aq},Rising l->(∀e∈l,e.1≠x.1)->Rising (fF x l)
 | [],_,_=>by simp[fF,Rising]
 | y::l,h,d=>by
  obtain⟨g,i⟩:=List.pairwise_cons.1 h;unfold fF;split
  .rename_i b;exact List.pairwise_cons.2 ⟨fun e a=>by
    rcases List.mem_cons.1 a with rfl | a
    .exact b
    .exact fR b (g e a),h⟩
  .rename_i b;have c:=fS (by simpa using b) (fun e=>d y (by simp) e.symm);refine List.pairwise_cons.2 ⟨fun e a=>?_,Rising.ins i (fun e a=>d e (by simp[a]))⟩;rcases mC.1 a with rfl | a
   .exact c
   .exact g e a
theorem Rising.put (h:Rising l) (p:B8) (f:Fi):Rising (ee l p f):=Rising.ins (h.del p) (lR l p)
theorem kj {e:B8×Fi} (h:e∈ee l p f):e=(p,f)\/(e∈l/\e.1≠p):=by
 rcases mC.1 h with h | h
 .exact .inl h
 .exact .inr ⟨(List.mem_filter.1 h).1,lR l p e h⟩
variable {w:World} {b:Nat}
theorem IsFiles.B1 {R:Nat->Prop} (h:IsFiles R w b l) (p:B8) (e:p.length<=10000000) :
  ∃v,(Instr.lookup 71 (.map (some b)) (S8 p) true).run Tryz.prog w=.ok (.tuple #[v,.bool (ax l p).isSome]) w/\(Instr.lookup 71 (.map (some b)) (S8 p) false).run Tryz.prog w=.ok v w /\
   (∀f,ax l p=some f->∃g,v=fiV f g/\IsData R w g f.data)/\(ax l p=none->v=.agg #[.int .i64 0,.slice none 0 0,.int .i64 0]):=by
 obtain⟨_,_,i,j,q⟩:=h;obtain⟨v,y,k,a⟩:=j.look_ok fB Tryz.underlying71 (sN w) rfl (jW p e);obtain⟨c,r,t,n⟩:=j.lookup fB Tryz.underlying71 (sN w) rfl (jW p e);rw[qt]at a n;have d:c=v:=by
  have u:(some (DataW.held v,([]:List MemPlace))).map (·.1)=(some (DataW.held c,([]:List MemPlace))).map (·.1):=by
   show(eH v).map (·.1)=(eH c).map (·.1);rw[a,n];rfl
  simpa using u.symm
 subst d;rw[sT]at k;refine⟨c,k,t,fun f o=>?_,fun x=>?_⟩
 .rw [o]at a;have:DataW.held c=DataW.held (fiV f (i p)):=congrArg Prod.fst (Option.some.inj a);exact⟨i p,DataW.held.inj this,q _ (fG o)⟩
 .rw [x]at a;have:DataW.held c=DataW.held _:=congrArg Prod.fst (Option.some.inj a);exact DataW.held.inj this
theorem dG {R:Nat->Prop} {w':World} (c:w.grownBy w' (some b)) (e:¬IsU8 w b):KeepR R w w' :=
 ⟨c.size,fun k _ d=>c.block k d.lt (by
  rintro a;simp only[Option.some.injEq]at a;subst a;exact e d)⟩
section
variable {ops:Array Oper} {rest:List Oper} {o:Oper} {a:Act} {Q:Exit->Act->World->Prop} {w:World}
theorem oZ (k:o.guard=none) (m x v:Operand) (n:o.op=Op.mapUpdate 71 m x v) {R:Nat->Prop} (r:IsFiles R w b l) (N:l.length<=100000000)
  (C:a.eval m=.map (some b)) (p:B8) (t:p.length<=10000000) (D:a.eval x=S8 p) (f:Fi) (i:Value) (E:a.eval v=fiV f i) (G:IsData R w i f.data)
  (h:∀j,IsFiles R j b (ee l p f)->w.grownBy j (some b)->wpList Tryz.prog ops Q rest (a.put o.dst undef) j):wpList Tryz.prog ops Q (o::rest) a w:=by
 have H:=r.Cb;obtain⟨I,J,u,K,L⟩:=r;refine wpList_mapUpdate_own w k m x v _ n _ _ fB Tryz.underlying71 eH b _ _ C K (by unfold maxLen;omega) (S8 p) (fiV f i) (.string p) D E (jW p t) (.held (fiV f i)) [] rfl ?_;intro j c y;rw[zI]at c;have z:KeepR R w j:=dG y H;refine h j ⟨I.put p f,fun e d=>?_,ki u p i,?_,fun e d=>?_⟩ y
 .rcases kj d with rfl | ⟨d,_⟩
  .exact t
  .exact J e d
 .obtain ⟨A,g,M,F,O,B⟩:=c;refine⟨A,g,M,F,?_,B⟩;have:Maps.size (dat (ki u p i) (ee l p f))=A.size:=by rw[B];simp[Maps.size,length_sorted]
  rw[<-this];simp[dat,Maps.size]
 .rcases kj d with rfl | ⟨d,q⟩
  .simp only[ki,if_pos];exact G.BQ z
  .simp only[ki,if_neg q];exact(L e d).BQ z
theorem o0 (i:o.guard=none) (m x:Operand) (j:o.op=Op.call { callee:=Callee.builtin Builtin.delete,args:=#[m,x],argTypes:=#[71,9] }) {R:Nat->Prop} (n:IsFiles R w b l)
  (y:a.eval m=.map (some b)) (p:B8) (z:p.length<=10000000) (A:a.eval x=S8 p)
  (h:∀g,IsFiles R g b (b9 l p)->w.grownBy g (some b)->wpList Tryz.prog ops Q rest (a.put o.dst (.tuple #[])) g):wpList Tryz.prog ops Q (o::rest) a w:=by
 have B:=n.Cb;obtain⟨C,D,q,E,G⟩:=n;refine wpList_delete_own w i m x _ _ j _ fB Tryz.underlying71 eH b _ _ y E (S8 p) (.string p) A (jW p z) ?_;intro g c H;have r:=H.grown;rw[zJ]at c;have I:KeepR R w g:=dG r B;refine h g ⟨C.del p,fun e k=>D e (List.mem_filter.1 k).1,q,?_,fun e k=>(G e (List.mem_filter.1 k).1).BQ I⟩ r;obtain⟨t,d,J,F,K,u⟩:=c;refine⟨t,d,J,F,?_,u⟩;have:Maps.size (dat q (b9 l p))=t.size:=by rw[u];simp[Maps.size,length_sorted]
 rw[<-this];simp[dat,Maps.size]
end
end
section
open Go Go.RowKit
def Nu (w w':World) (k:Nat):Prop:=w.heap.size<=k/\k<w'.heap.size
theorem eB (v:Value) (l:B8) (w:World) (y:IsBytes w v l) (E:l.length<=140737488355328) :
  Calls Tryz.prog 54 #[v] w fun e d=>(∃v,e=.returned v/\IsData (Nu w d) d v l)/\Ext w d:=by
 obtain⟨a,g,rfl,F,G,H,q⟩:=y
 cases a with
 | none =>
  have z:l=[]:=by
   cases l with
   | nil=>rfl
   | cons x l=>obtain⟨b,o,h,_⟩:=q (by simp);cases h
  subst z;exact(Tryz.bytes_Clone_nil 0 g w).mono fun e d ⟨h,r⟩=>⟨⟨_,h,by rw[r];exact IsData.nil _ _⟩,by rw[r];exact Ext.refl _⟩
 | some A =>
  refine(Tryz.bytes_Clone_at A l.length g (l.map fun x=>(x.toNat:Int)) w (by simp) (by omega) (fun i t=>?_)).mono fun e d ⟨B,h,c,_,C⟩=>⟨⟨B,h,?_⟩,C⟩
  .have p:l≠[]:=by rintro rfl;simp at t
   obtain⟨b,o,j,D⟩:=q (by simpa using p);cases j;have n:(⟨b,o,none⟩:Addr).add i=⟨b,o+i,none⟩:=by unfold Addr.add;split <;> simp_all
   rw[n];refine D i _ ?_;simp[t]
  .rw [List.map_map]at c;exact⟨Row.BM c (by omega),TypB.BM c,fun k u=>⟨(c.lt k u).1,(c.lt k u).2⟩⟩
variable {w:World} {g:Nat} {v0 v1 v2:Value} {t:TypeId} {fr:Nat×Nat}
theorem cj {a b c:Value} (h:w.heap[g]? = some (.cells #[v0,v1,v2,a,b,c] t fr)) :
  w.cell? ⟨g,0,none⟩=some v0/\w.cell? ⟨g,1,none⟩=some v1/\w.cell? ⟨g,2,none⟩=some v2/\w.cell? ⟨g,3,none⟩=some a/\w.cell? ⟨g,4,none⟩=some b/\w.cell? ⟨g,5,none⟩=some c:=by
 simp[World.cell?,h]
theorem bE (h:w.heap[g]? = some (.cells #[v0,v1,v2] t fr)) :
  w.cell? ⟨g,0,none⟩=some v0/\w.cell? ⟨g,1,none⟩=some v1/\w.cell? ⟨g,2,none⟩=some v2:=by
 simp[World.cell?,h]
theorem ju (w:World) (p q:Obj):((w.alloc p).alloc q).heap[w.heap.size+1]? = some q:=by
 have:=ab (w.alloc p) q
 rwa [show(w.alloc p).heap.size=w.heap.size+1 by simp]at this
variable {w1 w2:World}
theorem dT (h:Ext w w1) (a:w1.grownBy w2 (some g)):w.grownBy w2 (some g) :=
 ⟨a.os.trans h.os,a.tape.trans h.tape,a.output.trans h.output,Nat.le_trans h.size a.size,fun k b c=>(a.block k (Nat.lt_of_lt_of_le b h.size) c).trans (h.block k b)⟩
theorem dU (a:w.grownBy w1 (some g)) (h:Ext w1 w2):w.grownBy w2 (some g) :=
 ⟨h.os.trans a.os,h.tape.trans a.tape,h.output.trans a.output,Nat.le_trans a.size h.size,fun k b c=>(h.block k (Nat.lt_of_lt_of_le b a.size)).trans (a.block k b c)⟩
variable {w':World} {l:aq}
theorem IsFiles.ext {R:Nat->Prop} {b:Nat} (h:IsFiles R w b l) (a:Ext w w'):IsFiles R w' b l:=h.stay (a.block b h.lt) (KeepR.BS (KeepB.BO a))
theorem IsData.ext {R:Nat->Prop} {v:Value} {l:B8} (h:IsData R w v l) (a:Ext w w'):IsData R w' v l:=h.keep (KeepB.BO a)
def km (R:Nat->Prop) (w:World) (a:Nat) (l:aq) (e:Ending) (w':World):Prop:=e=.returned (.tuple #[])/\IsFiles R w' a l/\w.grownBy w' (some a)
variable {gm:Nat}
theorem qu {R:Nat->Prop} (p:B8) (f:Fi) (e:Value) (h:IsFiles R w gm l) (j:p.length<=10000000) (a:IsData R w e f.data) (k:l.length<=100000000) :
  Calls Tryz.prog 160 #[.map (some gm),.agg #[S8 p,S8 [],.bool true,.int .i64 f.mode,e,.int .i64 f.time]] w (km R w gm (ee l p f)):=by
 have n:Hid _:=h;have q:Hid _:=a;obtain⟨r,u,rfl,-⟩:=a.bytes;clear h a;go_enter Tryz.func160,Tryz.ntmps160;have i:∀o:Obj,Ext w (w.alloc o):=fun o=>(Ext.refl w).alloc o
 have b:Hid _:=i;clear i
 go_wp2_with (at_mapUpdate;refine oZ rfl _ _ _ rfl (n.out.ext (b.out _)) k rfl p j rfl f _ rfl (q.out.ext (b.out _)) ?_;intro x c d)
 go_end0
 exact⟨rfl,c,dT (b.out _) d⟩
theorem xH {R:Nat->Prop} (p:B8) (c:IsFiles R w gm l) (h:p.length<=10000000) :
  Calls Tryz.prog 160 #[.map (some gm),.agg #[S8 p,S8 [],.bool false,.int .i64 0,.slice none 0 0,.int .i64 0]] w (km R w gm (b9 l p)):=by
 have i:Hid _:=c;clear c;go_enter Tryz.func160,Tryz.ntmps160;have d:∀o:Obj,Ext w (w.alloc o):=fun o=>(Ext.refl w).alloc o
 have e:Hid _:=d;clear d
 go_wp2_with (at_delete;refine o0 rfl _ _ rfl (i.out.ext (e.out _)) rfl p h rfl ?_;intro j a b)
 go_end0
 exact⟨rfl,a,dT (e.out _) b⟩
theorem zK {R:Nat->Prop} (s d:B8) (f:Fi) (p:IsFiles R w gm l) (C:s.length<=10000000) (I:d.length<=10000000) (q:s≠[]) (h:ax l s=some f) (N:l.length<=100000000) :
  Calls Tryz.prog 160 #[.map (some gm),.agg #[S8 d,S8 s,.bool false,.int .i64 0,.slice none 0 0,.int .i64 0]] w (km R w gm (ee (b9 l s) d f)):=by
 have b:Ext w (w.alloc (.cells #[S8 d,S8 s,.bool false,.int .i64 0,.slice none 0 0,.int .i64 0] 194)):=(Ext.refl w).alloc _;have i:=ab w (.cells #[S8 d,S8 s,.bool false,.int .i64 0,.slice none 0 0,.int .i64 0] 194);have J:=p.lt;have c:=p.ext b;obtain⟨v,-,D,E,-⟩:=c.B1 s C;obtain⟨O,rfl,e⟩:=E f h;obtain⟨F,G,rfl,-⟩:=e.bytes;have H:Hid _:=c;have K:Hid _:=e;have r:Hid _:=i;have L:(⟨s.toArray⟩:ByteArray).toList=s:=Lib.toList_data _;have P:s.isEmpty=false:=by cases s <;> simp_all
 have M:=dF l s;have j:w.heap.size≠gm:=by omega
 have k:∀(W:World) (o:Obj),Ext W (W.alloc o):=fun W o=>(Ext.refl W).alloc o
 have n:Hid _:=k;have u:Hid _:=b;clear c E e k p h q i b;go_enter Tryz.func160,Tryz.ntmps160
 go_wp2_with (first
  | (at_delete;go_must (refine o0 rfl _ _ rfl (H.out.ext (n.out _ _)) rfl s C rfl ?_;intro Q x a;have y:=(a.block w.heap.size (by simp;omega) (by simpa using j)).trans (Ext.row (n.out _ _) r.out);obtain⟨S,T,U,V,X,Y⟩:=cj y;have z:=(a.block (w.heap.size+1) (by simp) (by simp;omega)).trans (ju w _ (.cells #[.int .i64 f.mode,.slice F f.data.length G,.int .i64 f.time] 56));obtain⟨Z,e1,e2⟩:=bE z))
  | (at_mapUpdate;go_must (refine oZ rfl _ _ _ rfl x (by omega) rfl d I rfl f (.slice F f.data.length G) rfl ((K.out.ext (n.out _ _)).BQ (dG a (H.out.ext (n.out _ _)).Cb)) ?_;intro w4 A B)))
 go_end0
 exact⟨rfl,A,dT u.out ((dT (n.out _ _) a).trans B)⟩
theorem mD {R:Nat->Prop} (c:Ch) (cs:List Value) (b:IsFiles R w gm l) (e:IsCh R w cs c) (h:∀s d,c=.mv s d->(ax l s).isSome=true) (j:l.length<=100000000) :
  Calls Tryz.prog 160 #[.map (some gm),.agg cs.toArray] w (km R w gm (ap l c)):=by
 cases c with
 | put p f =>
  obtain⟨a,v,rfl,i⟩:=e;exact qu p f v b a i j
 | mv s d =>
  obtain⟨a,i,n,rfl⟩:=e;obtain⟨f,k⟩:=Option.isSome_iff_exists.1 (h s d rfl);have:ap l (.mv s d)=ee (b9 l s) d f:=by
   show(match ax l s with | some x=>ee (b9 l s) d x | none=>l)=_;rw[k]
  rw[this];exact zK s d f b a i n k j
 | del p =>
  obtain⟨a,rfl⟩:=e;exact xH p b a
end
section
open Go Go.RowKit
variable {kl:Lit}
theorem zL {a:Value} (h:keyOf Tryz.prog 9 a=some kl):∃x:ByteArray,a=.string x:=by
 cases a <;> simp[keyOf,mapKey,Tryz.underlying9]at h
 exact⟨_,rfl⟩
theorem zM {x:ByteArray} (h:keyOf Tryz.prog 9 (.string x)=some kl):kl=.string x.data.toList:=by
 simp[keyOf,mapKey,Tryz.underlying9]at h;exact h.2.symm
def u0 (b:B8->Value) (l:aq):Prop:=∀p f,ax l p=some f->∃a c,b p=.slice a f.data.length c
section
variable {ops:Array Oper} {rest:List Oper} {o:Oper} {a:Act} {Q:Exit->Act->World->Prop} {w:World}
theorem iB (B:o.guard=none) (C:Operand) (D:o.op=Op.next C false) (b r n:Nat) (q:B8->Value) (l:aq) (left:Lit->Bool) (e:Nat)
  (E:a.eval C=.pointer (some ⟨r,0,none⟩)) (h:w.ranges Tryz.prog 9 eH b r n (dat q l) left e) (P:u0 q l)
  (g:e=0->(∀kl,left kl=false)->wpList Tryz.prog ops Q rest (a.put o.dst (.tuple #[.bool false])) w)
  (i:∀(p:B8) (f:Fi) (j:Option Addr) (c:Nat) (w':World) (d:Nat),ax l p=some f->q p=.slice j f.data.length c->left (.string p)=true->(∀F,(dat q l).atKey (.string p) F=.held (.agg #[.int .i64 f.mode,.slice j f.data.length c,.int .i64 f.time])) ->
   w'.ranges Tryz.prog 9 eH b r n (dat q l) (fun z=>left z && !z.sameKey (.string p)) d->d<e->w.grownBy w' (some r)->w'.heap.size=w.heap.size ->
   (Instr.entry (.pointer (some ⟨r,0,none⟩))).run Tryz.prog w'=.ok (.tuple #[S8 p,.agg #[.int .i64 f.mode,.slice j f.data.length c,.int .i64 f.time]]) w' ->
   wpList Tryz.prog ops Q rest (a.put o.dst (.tuple #[.bool true,S8 p,.agg #[.int .i64 f.mode,.slice j f.data.length c,.int .i64 f.time]])) w') :
  wpList Tryz.prog ops Q (o::rest) a w:=by
 refine wpList_next_ranges w B C D 9 fB eH Value.string (id:Value->Value) (fun R kl G=>zL G) (fun v y _=>⟨v,rfl⟩) b r n (dat q l) left e E h g ?_;intro x v kl y w' d t S T k H I U J K;obtain rfl:=zM t;have L:y.1=.held v:=by
  have:some (DataW.held v,([]:List MemPlace))=some y:=T;rw[<-Option.some.inj this]
 have M:∃f,ax l x.data.toList=some f:=by
  cases G:ax l x.data.toList with
  | some f=>exact⟨f,rfl⟩
  | none =>
   have u:=k .nil;rw[qt,G,L]at u;cases u
 obtain⟨f,N⟩:=M;obtain⟨j,c,A⟩:=P _ f N;have O:v=.agg #[.int .i64 f.mode,.slice j f.data.length c,.int .i64 f.time]:=by
  have u:=k .nil;rw[qt,N,L,A]at u;exact(DataW.held.inj u).symm
 subst O;exact i x.data.toList f j c w' d N A S (fun F=>by rw[k F,L]) H I U J K
end
theorem mF (a:B8->Value) (l:aq):Maps.size (dat a l)=l.length:=by simp[dat,Maps.size]
variable {w:World} {b:Nat} {sl:B8->Value} {l:aq}
theorem xI {n:Nat} (h:w.ownsMap Tryz.prog 9 eH b n (dat sl l)):w.ownsMap Tryz.prog 9 eH b l.length (dat sl l):=by
 obtain⟨c,a,e,F,g,d⟩:=h;refine⟨c,a,e,F,?_,d⟩;have:Maps.size (dat sl l)=c.size:=by rw[d];simp[Maps.size,length_sorted]
 rw[<-this,mF];exact Nat.le_refl _
theorem IsFiles.sliced {R:Nat->Prop} (h:∀e∈l,IsData R w (sl e.1) e.2.data):u0 sl l:=fun p f d=>by
 obtain⟨a,c,g,_⟩:=(h _ (fG d)).bytes;exact⟨a,c,g⟩
theorem eI {R:Nat->Prop} (W:IsFiles R w b l) (O:l.length<=100000000) :
  Calls Tryz.prog 161 #[.map (some b)] w fun e P=>(∃g,e=.returned (.map (some g))/\w.heap.size<=g/\IsFiles R P g l)/\Ext w P:=by
 obtain⟨X,Q,sl,h,H⟩:=W;have u:=IsFiles.sliced H;have Y:=@run_makeMap Tryz.prog;have Z:=h.lt;have e1:(w.alloc (.map #[] 0)).heap.size=w.heap.size+1:=by simp
 have HD:Hid _:=H;have HS:Hid _:=u;have S:Hid _:=Q;have x:=mF sl l;have I:Hid _:=x;clear H u Q x;go_enter Tryz.func161,Tryz.ntmps161
 go_wp2_with (first
  | (at_range;refine wpList_range_own _ rfl _ 71 rfl 9 56 fB Tryz.underlying71 _ b _ _ rfl (h.alloc _) ?_;intro w0 i y J)
  | go_in)
 go_frame
 rw[e1]at i J ⊢;go_loopw [4] (fun _ wr=>∃(left:Lit->Bool) (n:Nat) (k:DataW Value),wr.ranges Tryz.prog 9 eH b (w.heap.size+1) l.length (dat sl l) left n/\n<=l.length /\
   wr.ownsMap Tryz.prog 9 eH w.heap.size (l.length - n) k/\Maps.Agree k (dat sl l) left/\Ext w wr)
  (fun _ wr=>wr.rangeLeft b (w.heap.size+1))
 case atStart =>
  rw[I.out]at i;exact⟨_,_,.map [],i,Nat.le_refl _,((World.ownsMap_made _ _ _ _).kept y (by simp)).mono (Nat.zero_le _),Maps.agree_start (dat sl l),((Below.refl _ _).alloc (Nat.le_refl _) _).grown y (by simp) (fun j z=>by cases z)⟩
 case round =>
  obtain⟨left,n,k,A,au,a,T,d⟩:=hrel
  go_wp2_with (first
   | (at_next;refine iB rfl _ rfl b (w.heap.size+1) _ sl l _ _ rfl A HS.out ?_ ?_)
   | go_in)
  .intro K L;go_wp2;go_ret;subst K;have e:=Maps.agree_end T L (a.canon fB) (h.canon fB);subst e;exact⟨⟨_,rfl,Nat.le_refl _,X,S.out,sl,xI a,fun e he=>(HD.out e he).ext d⟩,d⟩
  .intro p f U c w1 B q C a0 D E M F a1 a2;have r:=a.kept F (by simp);have V:=S.out _ (fG q);simp only at V;have HL:Hid _:=q;have a3:Hid _:=C;have N:Hid _:=D;have a4:=d.size;clear q C D
   go_wp2_with (first
    | (at_mapUpdate;refine wpList_mapUpdate_own _ rfl _ _ _ 71 rfl 9 56 fB Tryz.underlying71 _ w.heap.size _ _ rfl (r.alloc _) (by unfold maxLen;omega) _ _ _ rfl rfl (jW p V) (.held (.agg #[.int .i64 f.mode,.slice U f.data.length c,.int .i64 f.time])) [] rfl ?_;intro w2 t G;go_frame)
    | go_in)
   have o:=(E.alloc (.cells #[.int .i64 f.mode,.slice U f.data.length c,.int .i64 f.time] 56)).kept G (fun e=>by have:=Option.some.inj e;omega) (fun e=>by have:=Option.some.inj e;omega);go_roundw
   case rel =>
    exact⟨_,B,_,o,by omega,t.mono (by omega),Maps.agree_step T a.isMap trivial N.out,
     Below.grown (Below.alloc (Below.grown d F d.size (fun j z=>by cases z;exact Nat.le_succ _)) (by have:=d.size;omega) _) G (by simp;omega) (fun j z=>by cases z;exact Nat.le_refl _)⟩
   case measure=>rw[o.left_eq,A.left_eq];exact M
end
section
open Go Go.RowKit
def eJ (left:Lit->Bool) (l:aq):aq:=l.filter fun e=>left (.string e.1)
def eR (left:Lit->Bool) (p:B8):Lit->Bool:=fun z=>left z && !z.sameKey (.string p)
theorem kn (a b:B8):(Lit.string a).sameKey (.string b)=(a==b):=rfl
variable {left:Lit->Bool} {p:B8}
theorem jL {f:Fi} (k:left (.string p)=true):∀ {l:aq},Rising l->ax l p=some f->(eJ left l).Perm ((p,f)::eJ (eR left p) l)
 | [],_,b=>by simp[ax]at b
 | e::l,o,b=>by
  obtain⟨q,r⟩:=List.pairwise_cons.1 o
  by_cases c:e.1=p
  .have d:e=(p,f):=by
    have:ax (e::l) p=some e.2:=by unfold ax;rw[List.find?_cons];simp[c]
    rw[this]at b;rw[<-Option.some.inj b,<-c]
   subst d;have a:eJ (eR left p) l=eJ left l:=by
    unfold eJ;refine List.filter_congr fun x t=>?_
    have g:x.1≠p:=fun h=>gX (q x t) h.symm
    unfold eR;rw[kn];simp[g]
   unfold eJ at *;rw[List.filter_cons,if_pos k,List.filter_cons];have i:eR left p (.string p)=false:=by unfold eR;rw[kn];simp
   rw[if_neg (by simp[i]),a]
  .have j:ax l p=some f:=by
    have:ax (e::l) p=ax l p:=by
     unfold ax;rw[List.find?_cons];have:(e.1==p)=false:=by simpa using c
     rw[this]
    rwa [this]at b
   have n:=jL k r j;have i:eR left p (.string e.1)=left (.string e.1):=by
    unfold eR;rw[kn];simp[c]
   unfold eJ at *;rw[List.filter_cons,List.filter_cons,i];split
   .exact (List.Perm.cons e n).trans (List.Perm.swap _ _ _)
   .exact n
variable {l:aq}
theorem nr (h:∀k,left k=false):eJ left l=[]:=by
 unfold eJ;rw[List.filter_eq_nil_iff];intro e _;simp[h]
theorem k7 (a:B8->Value) (c:Rising l):eJ (Maps.has (dat a l)) l=l:=by
 unfold eJ;rw[List.filter_eq_self];intro e b;rw[sT];unfold ax;rw[Option.isSome_map,List.find?_isSome];exact⟨e,b,by simp⟩
variable {w:World}
theorem ah {g:Nat} {a b c d e i j k l:Value} {t:TypeId} {fr:Nat×Nat} (h:w.heap[g]? = some (.cells #[a,b,c,d,e,i,j,k,l] t fr)) :
  w.cell? ⟨g,0,none⟩=some a/\w.cell? ⟨g,1,none⟩=some b/\w.cell? ⟨g,2,none⟩=some c/\w.cell? ⟨g,3,none⟩=some d/\w.cell? ⟨g,4,none⟩=some e/\w.cell? ⟨g,5,none⟩=some i/\w.cell? ⟨g,6,none⟩=some j/\w.cell? ⟨g,7,none⟩=some k/\w.cell? ⟨g,8,none⟩=some l:=by
 simp[World.cell?,h]
def i8 (l:aq):Nat:=(l.map fun e=>e.2.data.length).sum
theorem rL {a:aq} (h:l.Perm a):i8 l=i8 a:=by
 unfold i8;exact(h.map _).sum_nat
theorem qv {S O R:Nat->Prop} {p:Value} {m:Fs} (h:IsFs S O R w p m) (X:cw m.now<=1000000000000000) :
  Calls Tryz.prog 62 #[p] w fun e Y=>e=.returned (.int .i64 (cw m.now))/\Ext w Y:=by
 obtain⟨g,B,gd,vp,vl,vu,L,c0,rfl,P,-,Q,-⟩:=h;obtain⟨E,Z,C,a,T⟩:=Q.now;have l:=IsFiles.sliced T;obtain⟨d0,d1,d2,d3,d4,d5,d6,d7,d8⟩:=ah P;have au:=a.lt;have HS:Hid _:=l;have HR:Hid _:=E;have b:=k7 C E;have HA:Hid _:=b;have a0:Hid _:=mF C m.now;obtain⟨U,F⟩:∃U,cw m.now=U:=⟨_,rfl⟩;have HU:Hid _:=F;rw[F]at X ⊢;clear l E T b Z P Q F;go_enter Tryz.func62,Tryz.ntmps62
 go_wp2_with (first
  | (at_range;refine wpList_range_own _ rfl _ 71 rfl 9 56 fB Tryz.underlying71 _ B _ _ rfl a ?_;intro w0 o G a1)
  | go_in)
 go_frame
 go_loopw [3] (fun n wr=>∃(left:Lit->Bool) (r k:Nat),wr.ranges Tryz.prog 9 eH B w.heap.size m.now.length (dat C m.now) left r/\n=.int .i64 k/\k+i8 (eJ left m.now)=U/\Ext w wr)
  (fun _ wr=>wr.rangeLeft B w.heap.size)
 case atStart=>exact⟨_,_,0,o,rfl,by rw[HA.out,Nat.zero_add];exact HU.out,Below.grown (Below.refl _ _) G (Nat.le_refl _) (fun j H=>by cases H)⟩
 case round =>
  obtain⟨left,r,k,t,rfl,V,D⟩:=hrel;have W:Hid _:=V;clear V
  go_wp2_with (first
   | (at_next;refine iB rfl _ rfl B w.heap.size _ C m.now _ _ rfl t HS.out ?_ ?_)
   | go_in)
  .intro a2 u;have I:k=U:=by have:=W.out;rw[nr u]at this;simpa [i8]using this
   clear u;go_wp2;go_ret;exact⟨iz (by rw[I]),D⟩
  .intro q f ad c w1 x y J z K d M N a3 a4;have A:=jL (f:=f) z HR.out y;have i:k+f.data.length+i8 (eJ (eR left q) m.now)=U:=by
    have:=W.out;rw[rL A]at this;simp only[i8,List.map_cons,List.sum_cons]at this ⊢;omega
   have HM:Hid _:=i;have a5:k+f.data.length<=U:=by omega
   clear y J K A i z;go_wp2;go_roundw
   case rel=>exact⟨_,x,k+f.data.length,d.alloc _,by go_num,HM.out,(Below.grown D N D.size (fun j H=>by cases H;exact Nat.le_refl _)).alloc (by have:=D.size;omega) _⟩
   case measure=>rw[(d.alloc _).left_eq,t.left_eq];exact M
theorem ko (s t:ByteArray) (w:World):Calls Tryz.prog 116 #[.string s,.string t] w fun e a=>e=.returned (.bool (t.data.toList.isPrefixOf s.data.toList))/\a=w :=
 Tryz.strings_HasPrefix s t w
theorem sX (p:B8):(⟨p.toArray⟩++⟨#[47]⟩:ByteArray).data.toList=p++[47]:=by simp[ByteArray.data_append]
def k' (l:aq) (path a:B8):Bool:=l.any fun e=>!(e.1==a) && aF path e.1
theorem ma {q:B8} (h:eR left p (.string q)=false):left (.string q)=false\/q=p:=by
 unfold eR at h;rw[kn]at h
 by_cases a:q=p
 .exact .inr a
 .exact .inl (by simpa [a]using h)
theorem zN {R:Nat->Prop} {b:Nat} (path a:B8) (Z:IsFiles R w b l) (hp:path.length<=10000000) :
  Calls Tryz.prog 230 #[.map (some b),S8 path,S8 a] w fun e H=>e=.returned (.bool (k' l path a))/\Ext w H:=by
 obtain⟨U,V,G,k,W⟩:=Z;have x:=IsFiles.sliced W;have au:=k.lt;have HS:Hid _:=x;have H0:Hid _:=V;have n:=k7 G U;have HA:Hid (∀e∈l,Maps.has (dat G l) (.string e.1)=true):=fun e i=>by
  rw[<-n]at i;simpa using(List.mem_filter.1 i).2
 have a0:(⟨a.toArray⟩:ByteArray).toList=a:=Lib.toList_data _;have a1:(path.length:Int)<=10000000:=by omega
 clear x U W n V;go_enter Tryz.func230,Tryz.ntmps230
 go_wp2_with (first
  | (at_range;refine wpList_range_own _ rfl _ 71 rfl 9 56 fB Tryz.underlying71 _ b _ _ rfl k ?_;intro w0 y I a2)
  | go_in)
 go_frame
 go_loopw [7] (fun _ wr=>∃(left:Lit->Bool) (z:Nat),wr.ranges Tryz.prog 9 eH b w.heap.size l.length (dat G l) left z/\(∀e∈l,left (.string e.1)=false->(!(e.1==a) && aF path e.1)=false)/\Ext w wr)
  (fun _ wr=>wr.rangeLeft b w.heap.size)
 case atStart=>exact⟨_,_,y,(fun e i d=>by rw[HA.out e i]at d;cases d),Below.grown (Below.refl _ _) I (Nat.le_refl _) (fun j J=>by cases J)⟩
 case round =>
  obtain⟨left,z,t,X,K⟩:=hrel;have L:Hid _:=X;clear X
  go_wp2_with (first
   | (at_next;refine iB rfl _ rfl b w.heap.size _ G l _ _ rfl t HS.out ?_ ?_)
   | go_in)
  .intro a3 A;have C:k' l path a=false:=by
    unfold k';rw[List.any_eq_false];intro e i;rw[L.out e i (A _)];simp
   have HN:Hid _:=C;clear A C;go_wp2;go_ret;exact⟨an HN.out.symm,K⟩
  .intro q f ad c w1 o D M N O g E P a4 a5;have p:=fG D;have u:Ext w w1:=Below.grown K P K.size (fun j J=>by cases J;exact Nat.le_refl _);have a6:(⟨q.toArray⟩:ByteArray).toList=q:=Lib.toList_data _;have HM:Hid _:=p;have r:=sX path;clear D M O N p
   by_cases h:q=a
   .have Q:(q==a)=true:=by simpa using h
    have S:Hid _:=h;clear h;go_wp2;go_roundw
    case rel=>exact⟨_,o,g,(fun e i d=>by
     rcases ma d with d | d
     .exact L.out e i d
     .rw [d,S.out];simp),u⟩
    case measure=>rw[g.left_eq,t.left_eq];exact E
   .have Q:(q==a)=false:=by simpa using h
    have S:Hid _:=h;clear h;obtain⟨B,T⟩:∃B,aF path q=B:=⟨_,rfl⟩;have Y:Hid _:=T;have F:(path++[47]).isPrefixOf q=B:=T;clear T
    cases B with
    | true =>
     go_wp2_with (go_at_call 116;go_must (refine(ko _ _ _).mono ?_;rw[r,F];rintro e H ⟨rfl,rfl⟩))
     go_ret;refine⟨an (Eq.symm ?_),u⟩;unfold k';rw[List.any_eq_true];refine⟨_,HM.out,?_⟩;have h2:=S.out;have h3:=Y.out;simp only;rw[h3];simpa using h2
    | false =>
     go_wp2_with (go_at_call 116;go_must (refine(ko _ _ _).mono ?_;rw[r,F];rintro e H ⟨rfl,rfl⟩))
     go_roundw
     case rel=>exact⟨_,o,g,(fun e i d=>by
      rcases ma d with d | d
      .exact L.out e i d
      .rw [d,Y.out];simp),u⟩
     case measure=>rw[g.left_eq,t.left_eq];exact E
end
end Go.Proofs.YtfabjgfmiaammaaGreatDoor
