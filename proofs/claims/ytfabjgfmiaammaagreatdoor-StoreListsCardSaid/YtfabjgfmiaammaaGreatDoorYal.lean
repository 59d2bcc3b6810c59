/- Contracts of the program's functions and plain laws behind the card. Conditions: as each theorem states. -/
import Derived.Test.YtfabjgfmiaammaaGreatDoorYak
import Derived.Sort.OwnSorted
import Derived.Sort.KeysCollected
import Derived.Shelf.SlicesE.DeleteFunc
import Derived.Lib.SliceRun
import Derived.Test.YtfabjgfmiaammaaGreatDoorYae
import Derived.Test.YtfabjgfmiaammaaGreatDoorYah
set_option linter.unusedVariables false
set_option linter.unusedSimpArgs false
set_option linter.unusedSectionVars false
set_option maxRecDepth 100000
set_option maxHeartbeats 64000000
namespace Go.Proofs.YtfabjgfmiaammaaGreatDoor
section
open Go Go.RowKit
variable {w:World}
theorem Nu.mono {a b w':World} (c:a.heap.size<=w.heap.size) (d:w'.heap.size<=b.heap.size) {k:Nat} (h:Nu w w' k):Nu a b k:=⟨Nat.le_trans c h.1,Nat.lt_of_lt_of_le h.2 d⟩
variable {l:ax}
theorem IsFiles.C2 {R:Nat->Prop} {b:Nat} (h:IsFiles R w b l) (p:B8) (o:p.length<=10000000) :
  ∃(g:Fi) (a:Option Addr) (c:Nat) (n:Bool),(Instr.lookup 71 (.map (some b)) (S8 p) true).run Tryz.prog w=.ok (.tuple #[.agg #[.int .i64 g.mode,.slice a g.data.length c,.int .i64 g.time],.bool n]) w/\IsData R w (.slice a g.data.length c) g.data /\
   (match aA l p with | some f=>(f,true) | none=>(cE,false))=(g,n):=by
 obtain⟨q,d,-,j,k⟩:=h.Ca p o
 cases e:aA l p with
 | some f =>
  rw[e]at d;obtain⟨r,rfl,i⟩:=j f e;obtain⟨a,c,rfl,-⟩:=id i.bytes;exact⟨f,a,c,true,d,i,rfl⟩
 | none =>
  rw[e]at d;obtain rfl:=k e;exact⟨cE,none,0,false,d,IsData.nil _ _,rfl⟩
variable {p:Value} {m:Fs}
theorem rz {S O R:Nat->Prop} (path:B8) (h:IsFs S O R w p m) (hp:path.length<=10000000) :
  Calls Tryz.prog 18 #[p,S8 path] w fun e P=>(∃v,e=.returned (.tuple #[fiV (cz m path).1 v,.bool (cz m path).2])/\IsData (Nu w P) P v (cz m path).1.data)/\Ext w P:=by
 obtain⟨g,gm,gd,vp,vl,vu,L,c0,rfl,T,-,Q,-⟩:=h;have n:Ext w (w.alloc (.cells #[.int .i64 0,.slice none 0 0,.int .i64 0] 56)):=(Ext.refl _).alloc _;obtain⟨X,d1,Y,Z,d4,d5,d6,d7,d8⟩:=ao (Ext.row n T);obtain⟨b,a,c,V,U,G,E⟩:=(Q.now.ext n).C2 path hp;have J:Hid (cz m path=(b,V)):=E;have HD:Hid _:=G;have aa:=G.bytes.len;rw[J.out];obtain⟨q,j⟩:∃q,q=(w.alloc (.cells #[.int .i64 0,.slice none 0 0,.int .i64 0] 56)).alloc (.cells #[.int .i64 b.mode,.slice a b.data.length c,.int .i64 b.time] 56):=⟨_,rfl⟩;have l:Ext (w.alloc (.cells #[.int .i64 0,.slice none 0 0,.int .i64 0] 56)) q:=by rw[j];exact(Ext.refl _).alloc _
 have t:q.heap[w.heap.size+1]? = some (.cells #[.int .i64 b.mode,.slice a b.data.length c,.int .i64 b.time] 56 (0,0)):=by rw[j];exact jv _ _ _
 have z:q.heap[w.heap.size]? = some (.cells #[.int .i64 0,.slice none 0 0,.int .i64 0] 56 (0,0)):=l.row (ae _ _);obtain⟨y0,y1,y2⟩:=bL t;have W:Hid (IsData R q (.slice a b.data.length c) b.data):=G.ext l;have K:Hid _:=j;have F:=n.trans l;have ad:w.heap.size+2<=q.heap.size:=by rw[j];simp
 clear j T Q G E n l X Y Z d4 d5 d6 d7 d8;go_enter Tryz.func18,Tryz.ntmps18;go_upto_region 2 with fail;rw[show(w.alloc (.cells #[.int .i64 0,.slice none 0 0,.int .i64 0] 56)).alloc (.cells #[.int .i64 b.mode,.slice a b.data.length c,.int .i64 b.time] 56)=q from K.out.symm];go_wp2_with fail;go_at_call 54;refine(eL _ b.data _ W.out.bytes (by omega)).mono ?_;rintro e w2 ⟨⟨v2,rfl,r⟩,u⟩;obtain⟨x,y,rfl,-⟩:=id r.bytes;have I:Hid _:=r;have o:=u.row t;have A:=u.row z;have D:w.heap.size≠w.heap.size+1:=by omega
 clear r t z y0 y1 y2
 go_wp2_with (first
  | (refine ag rfl 37 (.tmp 20) (.tmp 19) rfl (w.heap.size+1) 1 rfl (.slice x b.data.length y) rfl rfl _ _ o (Nat.le_of_ble_eq_true rfl) fD #[.int .i64 b.mode,.slice x b.data.length y,.int .i64 b.time] (by simp) ?_;intro H M i;have d:=aV i A D)
  | (refine wpList_load_row rfl 56 (.tmp 6) rfl (w.heap.size+1) rfl 56 _ (0,0) _ M Tryz.underlying56 rfl dU ?_)
  | (refine wpList_store_row rfl 56 (.tmp 4) (.tmp 21) rfl w.heap.size #[.int .i64 b.mode,.slice x b.data.length y,.int .i64 b.time] rfl rfl 56 _ d dU rfl (by simp[Value.oneCell']) ?_))
 refine bodyPost_ret (bN rfl _ _ w.heap.size 56 #[.int .i64 b.mode,.slice x b.data.length y,.int .i64 b.time] (0,0) _ (.bool V) rfl rfl (setRow_heap _ _ _ _ _ _ d) Tryz.underlying56 dU) rfl ?_;have B:KeepB w2 H:=KeepB.B1 i o (by kernel_rfl);have C:KeepB H (H.setRow w.heap.size #[.int .i64 b.mode,.slice x b.data.length y,.int .i64 b.time]):=KeepB.B1 (af _ _ _) d (by kernel_rfl);have N:Ext w H:=Ext.but (F.trans u) i (by omega);refine⟨⟨_,rfl,(I.out.keep (B.trans C)).mono (fun k hk=>Nu.mono (by omega) (Nat.le_trans B.1 C.1) hk)⟩,N.setRow _ _ (Nat.le_refl _)⟩
theorem ze {a:Nat} {v:Value} {d:List B8} (b:w.ownsRow a 9 1 v d.length (d.map S8)) (y:d.length<=10000000) :
  Calls Tryz.prog 50 #[v] w fun e i=>e=.returned (.tuple #[])/\i.ownsRow a 9 1 v d.length ((d.mergeSort Go.leB).map S8)/\w.grownBy i v.ownBlock:=by
 rcases b.2 with⟨rfl,p⟩ | ⟨g,j,o,rfl,c,k,q,r,t,u⟩
 .have x:d=[]:=List.eq_nil_of_length_eq_zero (by simpa using p);subst x;exact(Tryz.slices_Sort_string_none none 0 w).mono fun e i ⟨l,h⟩=>⟨l,by rw[h,List.mergeSort_nil];exact b,by rw[h];exact⟨rfl,rfl,rfl,Nat.le_refl _,fun _ _ _=>rfl⟩⟩
 .refine (Tryz.slices_Sort_string g 0 j d w (holds_of_block k (by simpa using u)) (Array.getElem?_eq_some_iff.1 k).1 (by omega)).mono fun e i ⟨l,n,z,h⟩=>⟨l,?_,?_⟩
  .rw [h];exact ownsRow_sorted (by simp) c k q r t
  .rw [h];exact grownBy_sorted _
theorem ry (h:Rising l):(aM l).mergeSort Go.leB=aM l:=by
 have j:∀a b c:B8,Go.leB a b=true->Go.leB b c=true->Go.leB a c=true:=fun a b c d e=>by simp only[Go.leB,decide_eq_true_eq]at *;exact List.le_trans d e
 have i:∀a b:B8,(Go.leB a b || Go.leB b a)=true:=fun a b=>by simp only[Go.leB,Bool.or_eq_true,decide_eq_true_eq];exact List.le_total a b
 refine List.Perm.eq_of_pairwise (le:=fun a b=>Go.leB a b=true) (fun a b _ _ d e=>?_) (List.pairwise_mergeSort j i _) ?_ (List.mergeSort_perm _ _)
 .simp only[Go.leB,decide_eq_true_eq]at d e;exact List.le_antisymm d e
 .unfold aM;refine List.pairwise_map.2 (h.imp fun {a b} g=>?_);simp only[Go.leB,decide_eq_true_eq];exact List.le_of_lt (by simpa [ltB]using g)
theorem lG {S O R:Nat->Prop} (h:IsFs S O R w p m) (hl:m.now.length<=10000000) :
  Calls Tryz.prog 15 #[p] w fun e w'=>(∃v,e=.returned v/\w'.ownsRow w.heap.size 9 1 v m.now.length ((aM m.now).map S8))/\Ext w w':=by
 obtain⟨g,Z,gd,vp,vl,vu,L,c0,rfl,hg,-,hP,-⟩:=h;obtain⟨h1,h0,sl,b,hd⟩:=hP.now;have V:=IsFiles.sliced hd;obtain⟨d0,d1,d2,d3,d4,d5,d6,d7,d8⟩:=ao hg;have a2:=b.lt;have HS:Hid _:=V;have HR:Hid _:=h1;have r:=lu sl h1;have HA:Hid _:=r;have a0:Hid _:=ry h1;clear V h1 hd r h0 hg hP d0 d2 d3 d4 d5 d6 d7 d8;go_enter Tryz.func15,Tryz.ntmps15
 go_wp2_with (first
  | (at_range;refine wpList_range_own _ rfl _ 71 rfl 9 56 fI Tryz.underlying71 _ Z _ _ rfl b ?_;intro w0 T a3 bb)
  | go_in)
 go_frame
 go_loopw [3] (fun sv wr=>∃(left:Lit->Bool) (E:Nat) (C:List B8),wr.ranges Tryz.prog 9 eQ Z w.heap.size m.now.length (dat sl m.now) left E/\wr.ownsRow w.heap.size 9 1 sv C.length (C.map S8)/\(C++aM (eR left m.now)).Perm (aM m.now)/\Ext w wr)
  (fun _ wr=>wr.rangeLeft Z w.heap.size)
 case atStart=>exact⟨_,_,[],T,World.ownsRow_nil _ _ _ _,by rw[HA.out];exact List.Perm.refl _,Below.grown (Below.refl _ _) a3 (Nat.le_refl _) (fun j H=>by cases H)⟩
 case round =>
  obtain⟨left,E,C,z,b,y,hx⟩:=hrel;have D:Hid _:=y;have a9:C.length<=m.now.length:=by
   have:=y.length_eq;simp only[List.length_append,aM,List.length_map]at this;omega
  have l:Hid _:=b;clear y b
  go_wp2_with (at_next;refine iG rfl _ rfl Z w.heap.size _ sl m.now _ _ rfl z HS.out ?_ ?_)
  .intro a' I;have x:C.Perm (aM m.now):=by
    have:=D.out;rw[nS I]at this;simpa [aM]using this
   have N:C.mergeSort Go.leB=aM m.now:=(Go.mergeSort_of_perm x).trans a0.out;have J:C.length=m.now.length:=by have:=x.length_eq;simpa [aM]using this
   have au:Hid _:=N;have aa:Hid _:=J;clear I x N J
   go_wp2_with (go_at_call 50;go_must (refine(ze l.out (by omega)).mono ?_;rintro e w5 ⟨rfl,Q,a4⟩))
   go_ret;rw[au.out,aa.out]at Q;exact⟨⟨_,rfl,Q⟩,Below.grown hx a4 hx.size (fun q hq=>(World.ownsRow.lt l.out q hq).1)⟩
  .intro q f ad c Y F K a7 M a1 U a5 G a6 ba;have W:=jY (f:=f) M HR.out K;have t:((C++[q])++aM (eR (fm left q) m.now)).Perm (aM m.now):=by
    refine List.Perm.trans ?_ D.out;rw[List.append_assoc];refine List.Perm.append_left C ?_;exact(List.Perm.map Prod.fst W).symm
   have HM:Hid _:=t;have P:=row_ne_iter l.out z;have i:=World.ownsRow.kept l.out G (.inr P.symm);have X:Ext w Y:=Below.grown hx G hx.size (fun j H=>by cases H;exact Nat.le_refl _);have B:Ext Y (Y.alloc (.cells #[S8 q] 9)):=(Ext.refl _).alloc _;have a:=am i B;have A:=X.trans B;have a8:w.heap.size<=(Y.alloc (.cells #[S8 q] 9)).heap.size:=A.size;have k:=U.alloc (.cells #[S8 q] 9);have o:Hid _:=row_ne_iter a k;have n:Hid _:=row_ne_low a a2;clear K a7 a1 W t M P i X B a6
   go_wp2_with (at_builtin;go_must (refine fq rfl _ _ rfl w.heap.size _ C.length C rfl a Y.heap.size 1 1 [q] rfl rfl (ae _ _) (by omega) a8 ?_);intro v' w3 u d)
   go_roundw
   case rel=>exact⟨_,F,C++[q],k.kept d n.out o.out,by rw[List.length_append];exact u,HM.out,Below.grown A d A.size (fun j H=>(a.lt j H).1)⟩
   case measure=>rw[(k.kept d n.out o.out).left_eq,z.left_eq];exact a5
end
section
open Go Go.RowKit Go.Sort Go.Shelf
theorem mK (dir x:B8) (B:Nat) (W:World) (g:dir.length<=10000000) (d:W.cell? ⟨B,0,none⟩=some (S8 dir)) :
  FnGives Tryz.prog 115 #[.pointer (some ⟨B,0,none⟩)] #[S8 x] (.bool (!aB dir x)) W:=by
 show Calls Tryz.prog 115 #[S8 x,.pointer (some ⟨B,0,none⟩)] W _;have b:(dir++[47]).isPrefixOf x=aB dir x:=rfl;obtain⟨u,a⟩:∃u,aB dir x=u:=⟨_,rfl⟩;have c:Hid _:=b.trans a;rw[a];clear b a;go_enter Tryz.func115,Tryz.ntmps115
 go_wp2_with (go_at_call 116;go_must (refine(kL _ _ _).mono ?_;rw[tW,show(⟨x.toArray⟩:ByteArray).data.toList=x from rfl,c.out];rintro e h ⟨rfl,rfl⟩))
 go_ret;exact⟨rfl,0,rfl⟩
variable {w:World}
theorem rD {g n:Nat} (d:Array B8):w.grownBy (putRow encStr (Sort.ahead w n) g 0 d) (some g):=by
 refine⟨rfl,rfl,rfl,by simp[Sort.ahead],fun k b a=>?_⟩;have:g≠k:=fun e=>a (by rw[e])
 simp[putRow,mapBlock,Sort.ahead,Array.getElem?_modify,this]
theorem vV (f:Value) (w:World) :
  Calls Tryz.prog 164 #[.slice none 0 0,f] w fun e a=>e=.returned (.int .i64 (-1))/\a=w:=by
 go_enter Tryz.func164,Tryz.ntmps164;go_wp2
 go_loop [8] (fun i=>i=.int .i64 0) (fun _=>0)
 case atStart=>rfl
 case round =>
  subst hrel;go_wp2;go_ret;exact⟨rfl,rfl⟩
theorem vG (f:Value) (w:World) :
  Calls Tryz.prog 114 #[.slice none 0 0,f] w fun e a=>e=.returned (.slice none 0 0)/\a=w:=by
 go_enter Tryz.func114,Tryz.ntmps114
 go_wp2_with (go_at_call 164;go_must (refine(vV _ _).mono ?_;rintro e a ⟨rfl,rfl⟩))
 go_ret;exact⟨rfl,rfl⟩
theorem vF (dir:B8) (B:Nat) {b:Nat} {v:Value} {a:List B8} (I:dir.length<=10000000) (z:w.cell? ⟨B,0,none⟩=some (S8 dir)) (Y:B<b) (j:w.ownsRow b 9 1 v a.length (a.map S8)) (Z:a.length<=10000000) :
  Calls Tryz.prog 114 #[v,.func (.func 115) #[] #[.pointer (some ⟨B,0,none⟩)]] w fun e o=>(∃G,e=.returned G/\IsStrs o G (a.filter (aB dir))/\∀k,G.ownBlock=some k->b<=k)/\w.grownBy o v.ownBlock:=by
 rcases j.2 with⟨rfl,M⟩ | ⟨g,d,K,rfl,y,t,N,O,X,P⟩
 .have T:a=[]:=List.eq_nil_of_length_eq_zero (by simpa using M);subst T;exact(vG _ w).mono fun e o ⟨A,l⟩=>⟨⟨_,A,by rw[l];exact IsStrs.nil w,fun k D=>by simp[Value.ownBlock]at D⟩,by rw[l];exact⟨rfl,rfl,rfl,Nat.le_refl _,fun _ _ _=>rfl⟩⟩
 .have H:=holds_of_block t (by simpa using P);have L:∀args w,(callFunc 115 args).run Tryz.prog w=.ok (.enter 115 args) w:=enters_of Tryz.func115 (by kernel_rfl) rfl;have h:B<w.heap.size:=World.block_lt_of_cell? _ _ z;have E:B≠g:=by omega
  have S:PredAt Tryz.prog 115 #[.pointer (some ⟨B,0,none⟩)] encStr (fun x=>!aB dir x) w:=fun W x t=>mK dir x B W I ((t.cell (p:=⟨B,0,none⟩) h).trans z)
  have F:PredOver Tryz.prog 115 #[.pointer (some ⟨B,0,none⟩)] encStr (fun x=>!aB dir x) g 0 a.toArray.size w:=fun n os V x _=>mK dir x B _ I (by
   unfold sortWorld;rw[cell?_grow _ _ _ (by show B<(putRow _ _ _ _ _).heap.size;rw[size_putRow];exact h),cell?_putRow_other _ _ g 0 _ _ (Or.inl E)];exact z)
  have c:=AnyE.slices_DeleteFunc Tryz.laysDel encStr (fun _=>rfl) (fun x=>!aB dir x) 115 #[.pointer (some ⟨B,0,none⟩)] L [] Tryz.zeroValue9 g 0 d a.toArray w S F H (by simp;omega) (by simpa using N);have C:(a.toArray.toList.filter fun x=>!(fun x=>!aB dir x) x)=a.filter (aB dir):=by simp
  rw[C,show a.toArray.size=a.length from rfl]at c;refine Calls.mono c fun e o ⟨A,q,l⟩=>⟨⟨_,A,?_,fun k D=>?_⟩,?_⟩
  .have R:(a.filter (aB dir)).length<=a.length:=List.length_filter_le _ _;refine⟨_,d,rfl,by omega,by unfold maxLen at O;omega,by omega,fun _=>⟨g,0,rfl,fun i u U=>?_⟩⟩;obtain⟨x,J,rfl⟩:=(by simpa [List.getElem?_map]using U:∃x,(a.filter (aB dir))[i]? = some x/\S8 x=u);have Q:=(List.getElem?_eq_some_iff.1 J).1;rw[l];have r:Holds encStr (Sort.ahead w q) g 0 a.toArray:=H;rw[cell?_putRow encStr (Sort.ahead w q) g 0 a.toArray _ r (by simp;omega) i (by simp;omega)];congr 1;have:((a.filter (aB dir))++List.replicate (a.length - (a.filter (aB dir)).length) [])[i]? = some x:=by rw[List.getElem?_append_left Q];exact J
   simp[this]
  .have:g=k:=by simpa [Value.ownBlock]using D
   omega
  .rw [l];exact rD _
end
section
open Go Go.RowKit
variable {w:World} {p:Value} {m:Fs}
theorem FsIn.ext {S O R:Nat->Prop} {c:World} (h:FsIn S O R w p m) (b:Ext w c):FsIn S O R c p m :=
 ⟨h.env.ext b,h.fs.ext b,h.ok,h.plan,h.time,h.calls,h.Co,fun k a=>⟨(h.apart k a).1,Nat.lt_of_lt_of_le (h.apart k a).2 b.size⟩,fun k a=>Nat.lt_of_lt_of_le (h.low k a) b.size,h.Cc,h.Cd⟩
variable {w1:World} {m1:Fs} {b:Nat} {v:Value}
theorem FsPost.cell {S O R:Nat->Prop} (h:FsPost S O R w p m1 w1) {o:Nat} (c:w.cell? ⟨b,o,none⟩=some v) (d:¬O b):w1.cell? ⟨b,o,none⟩=some v:=by
 rw[World.cell?_of_block (w:=w) (w':=w1) (a:=⟨b,o,none⟩) (h.fr.block b (World.block_lt_of_cell? _ _ c) (.inl d))];exact c
theorem FsPost.row {S O R:Nat->Prop} (h:FsPost S O R w p m1 w1) {o:Obj} (c:w.heap[b]? = some o) (a:¬O b):w1.heap[b]? = some o:=h.fr.row c a
theorem oF {a:Nat} {L:List B8} {n:Nat} (h:w.ownsRow a 9 1 v n (L.map S8)) (c:n=L.length) (d:n<=10000000):IsStrs w v L:=by
 subst c;exact Row.BV h (by omega)
theorem wt {S O R:Nat->Prop} (dir:B8) (h:FsIn S O R w p m) (hp:dir.length<=400) :
  Calls Tryz.prog 48 #[p,S8 dir] w fun e w'=>(∃v,e=.returned (.tuple #[v,.int .i64 (bg m dir).2.2])/\IsStrs w' v (bg m dir).2.1/\∃wq,FsPost S O R w p (bg m dir).1 wq/\Ext wq w'/\∀k,v.ownBlock=some k->wq.heap.size<=k):=by
 obtain⟨m1,r,o,j⟩:∃m1 r o,av m=(m1,r,o):=⟨_,_,_,rfl⟩;have A:=ci h.ok h.plan;rw[j]at A;have t:bg m dir=if o≠0 then(m1,[],o)else if dir=[]then(m1,aM m1.now,0)else if az dir=false then(m1,[],6)else(m1,(aM m1.now).filter (aB dir),0):=by unfold bg;rw[j]
 have a:Hid _:=t;have P:Hid _:=j;have H:Hid _:=A;have a8:=h.time;have a1:=h.calls;obtain⟨u,i⟩:∃u,u=w.alloc (.cells #[S8 dir] 9):=⟨_,rfl⟩;have E:Ext w u:=by rw[i];exact(Ext.refl _).alloc _
 have I:u.cell? ⟨w.heap.size,0,none⟩=some (S8 dir):=by rw[i];exact(cell_of_row _ _ 0 _ _ _ (ae w _)).trans rfl
 have a6:w.heap.size<u.heap.size:=by rw[i];simp
 have Q:Hid (¬O w.heap.size):=fun ho=>by have:=h.low _ ho;omega
 have x:Hid _:=h.ext E;have U:Hid _:=i;have V:Hid _:=E;have a7:(⟨dir.toArray⟩:ByteArray).toList=dir:=Lib.toList_data _;clear t j A h i E;go_enter Tryz.func48,Tryz.ntmps48;go_wp2_with fail;rw[show w.alloc (.cells #[S8 dir] 9)=u from U.out.symm];go_at_call 113;refine(dI x.out.env x.out.fs x.out.ok x.out.plan (by omega) (by omega) x.out.Co x.out.apart).mono ?_;rw[P.out];rintro e w1 ⟨rfl,z⟩;have N:Hid (FsPost S O R u p m1 w1):=z;have M:Hid (FsPost S O R w p m1 w1):=FsPost.pre V.out z;have W:=z.cell I Q.out;have n:m1.now.length<=10000000:=by
  have z:OkM m1:=H.out.1.ok;have h2:m1.time<=m.time+1000:=H.out.1.time;have:=z.B7;omega
 have J:(aM m1.now).length=m1.now.length:=by simp[aM]
 have y:Hid _:=J;have a4:u.heap.size<=w1.heap.size:=z.fr.size;clear z I J
 by_cases g:o=0
 .subst g
  by_cases l:dir=[]
  .subst l;have d:Hid (bg m []=(m1,aM m1.now,0)):=a.out;clear a
   go_wp2_with (go_at_call 15;go_must (refine(lG N.out.fs n).mono ?_;rintro e L ⟨⟨v,rfl,F⟩,c⟩))
   go_ret2;rw[d.out];exact⟨_,rfl,oF F y.out.symm n,w1,M.out,c,fun k B=>(World.ownsRow.lt F k B).1⟩
  .have a3:dir.isEmpty=false:=by cases dir <;> simp_all
   have a2:(dir==[])=false:=by simpa using l
   have au:Hid _:=l;obtain⟨pd,C⟩:∃pd,az dir=pd:=⟨_,rfl⟩;have T:Hid _:=C;rw[C,if_neg (by simp),if_neg l]at a;clear C;go_wp2_with fail;go_at_call 51;refine(ee dir _ (x.out.Cw N.out) (by omega)).mono ?_;rw[T.out];rintro e L ⟨rfl,c⟩;have X:=c.cell W;have H2:Hid _:=N.out.ext c;have G:Hid _:=M.out.ext c;have a5:=c.size
   cases pd with
   | false =>
    have d:Hid (bg m dir=(m1,[],6)):=a.out;clear a c;go_wp2;go_ret2;rw[d.out];exact⟨_,rfl,IsStrs.nil _,L,G.out,Ext.refl _,fun k B=>by simp[Value.ownBlock]at B⟩
   | true =>
    have d:Hid (bg m dir=(m1,(aM m1.now).filter (aB dir),0)):=a.out;clear a c
    go_wp2_with (first
     | (go_at_call 15;go_must (refine(lG H2.out.fs n).mono ?_;rintro e w3 ⟨⟨v,rfl,F⟩,D⟩;rw[<-y.out]at F;have Y:=D.cell X;have HV:Hid _:=F;clear F))
     | (go_at_call 114;go_must (refine(vF dir w.heap.size (by omega) Y (by omega) HV.out (by rw[y.out];exact n)).mono ?_;rintro e w4 ⟨⟨v4,rfl,ad,aa⟩,Z⟩)))
    go_ret2;rw[d.out];have K:Ext L w4:=Below.grown D Z D.size (fun q hq=>(World.ownsRow.lt HV.out q hq).1);exact⟨_,rfl,ad,L,G.out,K,fun k B=>by have:=aa k B;omega⟩
 .have hb:(o==0)=false:=by simpa using g
  have a0:(o != 0)=true:=by simpa using g
  have d:Hid (bg m dir=(m1,[],o)):=by unfold Hid;rw[a.out];simp[g]
  clear g a;go_wp2;go_ret2;rw[d.out];exact⟨_,rfl,IsStrs.nil _,w1,M.out,Ext.refl _,fun k B=>by simp[Value.ownBlock]at B⟩
theorem rf {S O R:Nat->Prop} (dir:B8) (h:FsIn S O R w p m) (a:dir.length<=400) :
  Calls Tryz.prog 48 #[p,S8 dir] w fun e c=>(∃v,e=.returned (.tuple #[v,.int .i64 (bg m dir).2.2])/\IsStrs c v (bg m dir).2.1/\∀k,v.ownBlock=some k->w.heap.size<=k)/\FsPost S O R w p (bg m dir).1 c:=by
 refine(wt dir h a).mono ?_;rintro e c ⟨v,d,j,n,a,l,i⟩;exact⟨⟨v,d,j,fun k g=>Nat.le_trans a.fr.size (i k g)⟩,a.ext l⟩
theorem jD {S O R:Nat->Prop} {g:Nat} {cs cur:Array Value} (h:FsPost S O R w p m1 w1) (q:w1.heap[g]? = some (.cells cur 56 (0,0))) (l:g=w.heap.size):FsPost S O R w p m1 (w1.setRow g cs):=by
 subst l;have c:=af w1 w.heap.size cs;obtain⟨g,D,C,K,J,M,L,A,rfl,l,E,e,u,t⟩:=h.fs;have G:=cD l q (by simp);obtain⟨T,N,H⟩:=e.now.kind;obtain⟨U,P,I⟩:=e.sure.kind;have i:∀k,(∃x,w1.heap[k]? = some x/\∀cs B,x≠Obj.cells cs 56 B)->(w1.setRow w.heap.size cs).heap[k]? = w1.heap[k]?:=fun k ⟨x,a,F⟩=>c.block k (Array.getElem?_eq_some_iff.1 a).1 (fun j=>by
  simp only[Option.some.injEq]at j;subst j;rw[q]at a;exact F cur (0,0) (Option.some.inj a).symm)
 have r:=e.stay (i _ ⟨_,H,by simp⟩) (i _ ⟨_,I,by simp⟩) (fun k o=>by obtain⟨z,f,a⟩:=e.pend.typed k o;exact i k ⟨_,a,by simp⟩) (fun k o=>by obtain⟨z,f,a⟩:=e.plan.typed k o;exact i k ⟨_,a,by simp⟩) (fun k o=>by obtain⟨z,f,a⟩:=e.users.typed k o;exact i k ⟨_,a,by simp⟩) (cw c (by rintro k d;cases d;exact aw q (by kernel_rfl)));have y:(w1.setRow w.heap.size cs).heap.size=w1.heap.size:=by simp[World.setRow]
 have n:∀(Q:Nat->Prop) k,Nw Q w w1 k->Nw Q w (w1.setRow w.heap.size cs) k:=fun Q k d=>d.imp id (fun h=>⟨h.1,by rw[y];exact h.2⟩)
 refine⟨IsFs.mono ⟨g,D,C,K,J,M,L,A,rfl,(i g ⟨_,l,by simp⟩).trans l,E,r,u,t⟩ (n O) (n R),h.fr.step c (fun k d=>by cases d;exact .inr (Nat.le_refl _)) (by rintro k d;cases d;exact aw q (by kernel_rfl))⟩
theorem rE {S O R:Nat->Prop} (path:B8) (h:FsIn S O R w p m) (hp:path.length<=400) :
  Calls Tryz.prog 101 #[p,S8 path] w fun e w'=>(∃v,e=.returned (.tuple #[fiV (aF m path).2.1 v,.int .i64 (aF m path).2.2])/\IsData (Nu w w') w' v (aF m path).2.1.data)/\FsPost S O R w p (aF m path).1 w':=by
 obtain⟨m1,y,o,t⟩:∃m1 y o,av m=(m1,y,o):=⟨_,_,_,rfl⟩;have C:=ci h.ok h.plan;rw[t]at C;have z:aF m path=if o≠0 then(m1,cE,o)else if az path=false then(m1,cE,6)else match aA m1.now path with | some f=>(m1,f,0) | none=>(m1,cE,7):=by
  unfold aF;rw[t]
  all_goals (dsimp only;cases aA m1.now path <;> rfl)
 have a:Hid _:=z;have T:Hid _:=t;have a0:Hid _:=C;have a7:=h.time;have a2:=h.calls;obtain⟨A,n⟩:∃A,A=w.alloc (.cells #[.int .i64 0,.slice none 0 0,.int .i64 0] 56):=⟨_,rfl⟩;have F:Ext w A:=by rw[n];exact(Ext.refl _).alloc _
 have L:A.heap[w.heap.size]? = some (.cells #[.int .i64 0,.slice none 0 0,.int .i64 0] 56 (0,0)):=by rw[n];exact ae w _
 have a6:w.heap.size<A.heap.size:=by rw[n];simp
 have U:Hid (¬O w.heap.size):=fun ho=>by have:=h.low _ ho;omega
 have B:Hid _:=h.ext F;have X:Hid _:=n;have Z:Hid _:=F;clear z t C h n F;go_enter Tryz.func101,Tryz.ntmps101;go_wp2_with fail;rw[show w.alloc (.cells #[.int .i64 0,.slice none 0 0,.int .i64 0] 56)=A from X.out.symm];go_at_call 113;refine(dI B.out.env B.out.fs B.out.ok B.out.plan (by omega) (by omega) B.out.Co B.out.apart).mono ?_;rw[T.out];rintro e w1 ⟨rfl,K⟩;have H1:Hid (FsPost S O R A p m1 w1):=K;have H0:Hid (FsPost S O R w p m1 w1):=FsPost.pre Z.out K;have q:=K.row L U.out;have a3:A.heap.size<=w1.heap.size:=K.fr.size;clear K L
 by_cases l:o=0
 .subst l;obtain⟨pd,D⟩:∃pd,az path=pd:=⟨_,rfl⟩;have V:Hid _:=D;rw[D,if_neg (by simp)]at a;clear D;go_wp2_with fail;go_at_call 51;refine(ee path _ (B.out.Cw H1.out) (by omega)).mono ?_;rw[V.out];rintro e w2 ⟨rfl,i⟩;have r:=i.row q;have H2:Hid _:=H1.out.ext i;have G:Hid _:=H0.out.ext i;have a4:=i.size
  cases pd with
  | false =>
   have d:Hid (aF m path=(m1,cE,6)):=a.out;clear a i
   go_wp2_with (refine wpList_store_row rfl 56 (.tmp 4) (.tmp 22) rfl w.heap.size #[.int .i64 0,.slice none 0 0,.int .i64 0] rfl rfl 56 _ r dU rfl (by simp[Value.oneCell']) ?_)
   refine bodyPost_ret (bN rfl _ _ w.heap.size 56 #[.int .i64 0,.slice none 0 0,.int .i64 0] (0,0) _ (.int .i64 6) rfl rfl (setRow_heap _ _ _ _ _ _ r) Tryz.underlying56 dU) rfl ?_;rw[d.out];exact⟨⟨_,rfl,IsData.nil _ _⟩,jD G.out r rfl⟩
  | true =>
   have j:Hid (aF m path=(m1,(cz m1 path).1,if(cz m1 path).2 then 0 else 7)):=by
    unfold Hid cz;rw[a.out,if_neg (by simp)]
    cases aA m1.now path <;> rfl
   have P:Hid ((cz m1 path).2=false->(cz m1 path).1=cE):=by
    unfold Hid cz
    cases aA m1.now path <;> simp
   obtain⟨c,ok,E⟩:∃c ok,cz m1 path=(c,ok):=⟨_,_,rfl⟩;have W:Hid _:=E;rw[E]at j P;clear a i E;go_wp2_with fail;go_at_call 18;refine(rz path H2.out.fs (by omega)).mono ?_;rw[W.out];rintro e N ⟨⟨v,rfl,hv⟩,u⟩;obtain⟨I,J,rfl,-⟩:=id hv.bytes;have aa:=u.row r;have HV:Hid _:=hv;have Q:Hid _:=G.out.ext u;have a5:=u.size;have x:Ext N (N.alloc (.cells #[.int .i64 c.mode,.slice I c.data.length J,.int .i64 c.time] 56)):=(Ext.refl _).alloc _;have g:=x.row aa;have ad:=ae N (.cells #[.int .i64 c.mode,.slice I c.data.length J,.int .i64 c.time] 56);have H:Hid _:=Q.out.ext x;have Y:Hid _:=x;clear hv u x
   cases ok with
   | false =>
    have au:c=cE:=P.out rfl;subst au;have d:Hid (aF m path=(m1,cE,7)):=j.out;clear j P
    go_wp2_with (refine wpList_store_row rfl 56 (.tmp 4) (.tmp 31) rfl w.heap.size #[.int .i64 0,.slice none 0 0,.int .i64 0] rfl rfl 56 _ g dU rfl (by simp[Value.oneCell']) ?_)
    refine bodyPost_ret (bN rfl _ _ w.heap.size 56 #[.int .i64 0,.slice none 0 0,.int .i64 0] (0,0) _ (.int .i64 7) rfl rfl (setRow_heap _ _ _ _ _ _ g) Tryz.underlying56 dU) rfl ?_;rw[d.out];exact⟨⟨_,rfl,IsData.nil _ _⟩,jD H.out g rfl⟩
   | true =>
    have d:Hid (aF m path=(m1,c,0)):=j.out;clear j P
    go_wp2_with (first
     | (refine wpList_load_row rfl 56 (.tmp 8) rfl N.heap.size rfl 56 _ (0,0) _ ad Tryz.underlying56 rfl dU ?_)
     | (refine wpList_store_row rfl 56 (.tmp 4) (.tmp 32) rfl w.heap.size #[.int .i64 c.mode,.slice I c.data.length J,.int .i64 c.time] rfl rfl 56 _ g dU rfl (by simp[Value.oneCell']) ?_))
    refine bodyPost_ret (bN rfl _ _ w.heap.size 56 #[.int .i64 c.mode,.slice I c.data.length J,.int .i64 c.time] (0,0) _ (.int .i64 0) rfl rfl (setRow_heap _ _ _ _ _ _ g) Tryz.underlying56 dU) rfl ?_;rw[d.out];have M:KeepB N _:=(KeepB.BX Y.out).trans (KeepB.B1 (af _ w.heap.size #[.int .i64 c.mode,.slice I c.data.length J,.int .i64 c.time]) g (by kernel_rfl));exact⟨⟨_,rfl,(HV.out.keep M).mono (fun k hk=>Nu.mono (by omega) M.1 hk)⟩,jD H.out g rfl⟩
 .have hb:(o==0)=false:=by simpa using l
  have a1:(o != 0)=true:=by simpa using l
  have d:Hid (aF m path=(m1,cE,o)):=by unfold Hid;rw[a.out];simp[l]
  clear l a
  go_wp2_with (refine wpList_store_row rfl 56 (.tmp 4) (.tmp 17) rfl w.heap.size #[.int .i64 0,.slice none 0 0,.int .i64 0] rfl rfl 56 _ q dU rfl (by simp[Value.oneCell']) ?_)
  refine bodyPost_ret (bN rfl _ _ w.heap.size 56 #[.int .i64 0,.slice none 0 0,.int .i64 0] (0,0) _ (.int .i64 o) rfl rfl (setRow_heap _ _ _ _ _ _ q) Tryz.underlying56 dU) rfl ?_;rw[d.out];exact⟨⟨_,rfl,IsData.nil _ _⟩,jD H0.out q rfl⟩
end
section
open Go Go.RowKit
variable {w:World}
theorem uG {e:TypeId} {a:Nat}:(w.alloc (.cells #[] e)).ownsRow w.heap.size e a (.slice (some ⟨w.heap.size,0,none⟩) 0 0) 0 [] :=
 ⟨by simp,.inr ⟨w.heap.size,0,#[],rfl,Nat.le_refl _,ae _ _,Nat.le_refl _,Nat.zero_le _,by simp,by simp⟩⟩
theorem AP (b o i:Nat):(⟨b,o,none⟩:Addr).add i=⟨b,o+i,none⟩:=by unfold Addr.add;split <;> simp_all
theorem vB {v:Value} {n:Nat} {xs:List Value} (J:Row w v n xs) (q:xs.length=n*7) (B:∀u∈xs,u.oneCell'=true) (M:n<=10000000) :
  Calls Tryz.prog 112 #[v] w fun e D=>(∃z,e=.returned z/\D.ownsRow w.heap.size 121 7 z n xs)/\Ext w D:=by
 obtain⟨a,g,rfl,O,P,Q,y⟩:=J;have N:∀W:World,(binOp .eql 42 (.slice a n g) (.slice none 0 0)).run Tryz.prog W=.ok (.bool a.isNone) W:=fun W=>Go.Lib.run_eql_slice_nil W _ _ a n g 0 0 Tryz.underlying42
 cases a with
 | none =>
  have K:xs=[]:=by
   cases xs with
   | nil=>rfl
   | cons x l=>obtain⟨b,o,i,_⟩:=y (by simp);cases i
  subst K;have r:n=0:=by simp at q;omega
  subst r;go_enter Tryz.func112,Tryz.ntmps112;go_wp2;go_ret;exact⟨⟨_,rfl,World.ownsRow_nil _ _ _ _⟩,Ext.refl _⟩
 | some A =>
  have h:Ext w (w.alloc (.cells #[] 121)):=(Ext.refl _).alloc _;have c:∀j u,xs[j]? = some u->(w.alloc (.cells #[] 121)).cell? (A.add j)=some u:=fun j u C=>by
   obtain⟨b,o,i,H⟩:=y (by rintro rfl;simp at C);cases i;rw[AP];exact h.cell (H j u C)
  have G:Hid _:=c;have E:Hid _:=B;have F:Hid _:=q;clear c y B q;go_enter Tryz.func112,Tryz.ntmps112
  go_wp2_with (at_builtin;go_must (refine gL _ _ _ 7 80 Tryz.underlying42 tD rfl (by omega) rfl _ _ rfl w.heap.size _ 0 [] rfl uG A n g xs rfl F.out G.out E.out (by omega) (by omega) (by simp) ?_);intro z L d p _)
  simp only[Nat.zero_add,List.nil_append]at d;have t:Ext w L:=Below.grown h p h.size (fun k I=>by cases I;exact Nat.le_refl _);go_wp2;go_ret;exact⟨⟨_,rfl,d⟩,t⟩
end
section
open Go Go.RowKit
theorem qO (m:Nat):∀(a:List (List Value)) (k j:Nat) (c:List Value) (u:Value),(∀c∈a,c.length=m)->a[k]? = some c->j<m->a.flatten.set (m*k+j) u=(a.set k (c.set j u)).flatten
 | [],k,j,c,u,_,b,_=>by simp at b
 | d::a,0,j,c,u,e,b,i=>by
  have:d=c:=by simpa using b
  subst this;have g:=e d (by simp);simp only[List.flatten_cons,Nat.mul_zero,Nat.zero_add,List.set_cons_zero];rw[List.set_append_left _ _ (by omega)]
 | d::a,k+1,j,c,u,e,b,i=>by
  have g:=e d (by simp);have l:=qO m a k j c u (fun c h=>e c (by simp[h])) (by simpa using b) i;simp only[List.flatten_cons,List.set_cons_succ];rw[List.set_append_right _ _ (by rw[g,Nat.mul_add];omega),g,show m*(k+1)+j - m=m*k+j by rw[Nat.mul_add];omega,l]
def OwnE (a:Nat) (w:World) (v:Value) (L:List Ev):Prop:=∃b:List (List Value),w.ownsRow a 121 7 v L.length b.flatten/\Each (IsEvR (fun k=>a<=k/\k<w.heap.size) w) b L
def IsEvB (w:World) (cs:List Value) (e:Ev):Prop:=∃a,cs=[.int .i64 e.t,.int .i64 e.kind,.int .i64 e.mode,.int .i64 e.keep,.int .i64 e.BW,S8 e.path,a]/\IsBytes w a e.data/\e.path.length<=10000000
variable {w:World}
theorem IsEvB.length {cs:List Value} {e:Ev} (h:IsEvB w cs e):cs.length=7/\cs.all (·.oneCell')=true:=by
 obtain⟨v,rfl,a,_⟩:=h;obtain⟨_,_,rfl,_⟩:=a;exact⟨rfl,by simp[Value.oneCell']⟩
def km (w:World) (v:Value) (L:List Ev):Prop:=∃a:List (List Value),Row w v L.length a.flatten/\Each (IsEvB w) a L
variable {v:Value} {L:List Ev}
theorem uI (h:km w v L):∃a:List (List Value),Row w v L.length a.flatten/\Each (IsEvB w) a L/\a.flatten.length=L.length*7/\(∀u∈a.flatten,u.oneCell'=true)/\(∀c∈a,c.length=7):=by
 obtain⟨a,n,e⟩:=h;have g:∀c∈a,c.length=7/\c.all (·.oneCell')=true:=fun c b=>by
  obtain⟨i,o,rfl⟩:=List.mem_iff_getElem.1 b;have j:i<L.length:=by rw[<-e.1];exact o
  exact(e.2 i a[i] L[i] (List.getElem?_eq_getElem o) (List.getElem?_eq_getElem j)).length
 refine⟨a,n,e,?_,fun u k=>?_,fun c b=>(g c b).1⟩
 .rw [List.length_flatten,<-e.1];have:∀l:List (List Value),(∀c∈l,c.length=7)->(l.map List.length).sum=l.length*7:=fun l=>by
   induction l with
   | nil=>intro _;rfl
   | cons c l q =>
    intro h;have n:=h c (by simp);have r:=q (fun d p=>h d (by simp[p]));simp only[List.map_cons,List.sum_cons,List.length_cons];omega
  exact this a (fun c b=>(g c b).1)
 .obtain ⟨c,b,k⟩:=List.mem_flatten.1 k;exact List.all_eq_true.1 (g c b).2 u k
theorem mO (h:km w v L) (hl:L.length<=100000) :
  Calls Tryz.prog 47 #[v] w fun e w'=>(∃v',e=.returned v'/\OwnE w.heap.size w' v' L)/\Ext w w':=by
 obtain⟨P,r,d,S,F,Q⟩:=uI h;obtain⟨a,ba,rfl,-⟩:=id r;have HC:Hid _:=vB r S F (by omega);have ad:Hid _:=d;have H7:Hid _:=Q;have y:=d.1;clear h r d S F Q;go_enter Tryz.func47,Tryz.ntmps47
 go_wp2_with (go_at_call 112;go_must (refine Calls.mono HC.out ?_;rintro e w1 ⟨⟨v1,rfl,q⟩,a8⟩;obtain⟨a1,D,rfl,-⟩:=Row.BV q (by omega)))
 go_loopw [8] (fun i wr=>∃(k:Nat) (b:List (List Value)),k<=L.length/\i=.int .i64 k/\b.length=L.length/\(∀c∈b,c.length=7)/\wr.ownsRow w.heap.size 121 7 (.slice a1 L.length D) L.length b.flatten /\
   (∀(j:Nat) c e,b[j]? = some c->L[j]? = some e->(j<k->IsEvR (fun k=>w.heap.size<=k/\k<wr.heap.size) wr c e)/\(k<=j->IsEvB w c e))/\Ext w wr) (fun i _=>L.length - (intOf i).toNat)
 case atStart=>exact⟨0,P,Nat.zero_le _,rfl,y,H7.out,q,fun j c e t he=>⟨fun h=>absurd h (Nat.not_lt_zero _),fun _=>ad.out.2 j c e t he⟩,a8⟩
 case round =>
  obtain⟨k,b,O,rfl,y,Q,G,E,hx⟩:=hrel;have o:Hid _:=E;have H:Hid _:=Q;have u:Hid _:=G;clear E Q G
  by_cases a7:k<L.length
  .obtain ⟨e,K⟩:∃e,L[k]? = some e:=⟨_,List.getElem?_eq_getElem a7⟩;obtain⟨c,z⟩:∃c,b[k]? = some c:=⟨_,List.getElem?_eq_getElem (by omega)⟩;have a4:=(o.out k c e z K).2 (Nat.le_refl _);obtain⟨vd,rfl,hd,W⟩:=a4;obtain⟨d1,d2,rfl,-⟩:=id hd;obtain⟨g,a9,U⟩:=dD u.out (by omega);simp only[Value.slice.injEq,true_and]at U;obtain⟨rfl,rfl⟩:=U;have p:wr.cell? ⟨g,k*7+6,none⟩=some (.slice d1 e.data.length d2):=by
    rw[World.ownsRow.cellAt u.out (k*7+6) (by omega),Nat.mul_comm k 7];exact fQ 7 b k 6 _ _ H.out z rfl
   have HD:Hid _:=hd;have a0:Hid _:=K;have au:Hid _:=z;have a2:Hid _:=W;have bb:=hd.len;clear hd K z W;go_wp2_with fail;go_at_call 54;refine(eL _ e.data _ (IsBytes.ext HD.out hx) (by omega)).mono ?_;rintro x w2 ⟨⟨v2,rfl,J⟩,A⟩;obtain⟨c1,c2,rfl,-⟩:=id J.bytes;have aa:Hid _:=J;have l:=am u.out A;have bd:=World.ownsRow.frozenAt l (k*7+6);have Z:=A.cell p;have C:Hid _:=l;clear J l p;go_wp2;go_roundw
   case rel =>
    obtain⟨V,T⟩:=World.ownsRow.stored C.out (k*7+6) (.slice c1 e.data.length c2);rw[show k*7+6=7*k+6 by omega,qO 7 b k 6 _ _ H.out au.out (by omega)]at V;obtain⟨N,n,a',R,a3,a5,-⟩:∃(N:Nat) (n:Nat) (I:Array Value),(Value.slice (some ⟨g,0,none⟩) L.length D)=.slice (some ⟨N,0,none⟩) L.length n/\w.heap.size<=N/\w2.heap[N]? = some (.cells I 121 (0,0))/\True:=by
     rcases C.out.2 with⟨h9,_⟩ | ⟨N,n,I,h9,hb,hg,_⟩
     .cases h9
     .exact ⟨N,n,I,h9,hb,hg,trivial⟩
    simp only[Value.slice.injEq,Option.some.injEq,Addr.mk.injEq,and_true,true_and]at R;obtain⟨rfl,rfl⟩:=R;have B:=KeepB.B1 T a5 (by kernel_rfl);have M:=(KeepB.BX A).trans B;have Y:Ext w _:=Ext.but (hx.trans A) T a3;rw[show k*7+6=7*k+6 by omega]at B M Y;refine⟨k+1,b.set k [.int .i64 e.t,.int .i64 e.kind,.int .i64 e.mode,.int .i64 e.keep,.int .i64 e.BW,S8 e.path,.slice c1 e.data.length c2],by omega,by go_num,by rw[List.length_set];exact y,fun c t=>?_,?_,?_,?_⟩
    .rcases List.mem_or_eq_of_mem_set t with h | h
     .exact H.out c h
     .rw [h];rfl
    .rw [show k*7+6=7*k+6 by omega];exact V
    .rw [show k*7+6=7*k+6 by omega];intro j c f t hf
     by_cases hj:j=k
     .subst hj;rw[List.getElem?_set_self (by omega)]at t;cases t;rw[a0.out]at hf;cases hf;refine⟨fun _=>⟨_,rfl,?_,a2.out⟩,fun h=>by omega⟩;exact(aa.out.keep B).mono (fun k O=>⟨Nat.le_trans hx.size O.1,Nat.lt_of_lt_of_le O.2 B.1⟩)
     .rw [List.getElem?_set_ne (fun h=>hj h.symm)]at t;have:=o.out j c f t hf;exact⟨fun h=>((this.1 (by omega)).BZ (KeepR.B2 M)).mono (fun k O=>⟨O.1,Nat.lt_of_lt_of_le O.2 M.1⟩),fun h=>this.2 (by omega)⟩
    .rw [show k*7+6=7*k+6 by omega];exact Y
   case measure=>simp[intOf];omega
  .have a6:k=L.length:=by omega
   subst a6;go_wp2;go_ret;exact⟨⟨_,rfl,b,u.out,y,fun i c x t X=>(o.out i c x t X).1 (List.getElem?_eq_some_iff.1 X).1⟩,hx⟩
theorem OwnE.CH {a:Nat} (h:OwnE a w v L) (e:L.length<=10000000):ReadL w 121 (IsEvR (fun k=>a<=k/\k<w.heap.size) w) v L:=by
 obtain⟨b,c,d⟩:=h;exact⟨b,Row.BV c (by omega),Typed.BV c,d⟩
theorem rB {S O R:Nat->Prop} {p:Value} {m:Fs} (h:IsFs S O R w p m) (q:∀k,O k->k<w.heap.size) (T:km w v L) (X:L.length<=1000) :
  Calls Tryz.prog 11 #[p,v] w fun e r=>e=.returned (.tuple #[])/\IsFs (Nu w r) O (Nw R w r) r p (eG m L)/\Fr O w r:=by
 have U:Hid _:=mO T (by omega);obtain⟨g,B,A,I,vl,J,L0,c0,rfl,Q,N,P,G,W⟩:=h;have M:Hid _:=P;have V:Hid _:=Q;clear T P Q G;go_enter Tryz.func11,Tryz.ntmps11
 go_wp2_with (first
  | (go_at_call 47;go_must (refine Calls.mono U.out ?_;rintro e K ⟨⟨v2,rfl,n⟩,i⟩;obtain⟨u,y,rfl,-⟩:=Row.BV n.choose_spec.1 (by omega);have l:=Ext.row i V.out;have j:Hid _:=n;clear n))
  | (refine ag rfl 42 (.tmp 8) (.tmp 6) rfl g 4 rfl (.slice u L.length y) rfl rfl _ _ l (Nat.le_of_ble_eq_true rfl) nt (bc m.room B A I (.slice u L.length y) m.calls J m.time m.down) (by simp) ?_;intro t E b))
 go_end0
 have D:=M.out.ext i;have Y:=i.size;have H:=OwnE.CH j.out (by omega);have Z:¬IsU8 K g:=aw l (by kernel_rfl);have o:Parts (Nu w t) O (Nw R w t) K B A I (.slice u L.length y) J m.now m.sure m.pend L m.users:=by
  have h9:K.heap.size<=t.heap.size:=b.size;have d:=D.mono (O':=O) (R':=Nw R w t) (fun k a=>a) (fun k a=>.inl a);refine⟨d.ne,d.om,d.od,d.now,d.sure,d.pend,d.op,H.mono (fun c x hx=>IsEvR.mono hx (fun k a=>.inr ⟨a.1,by omega⟩)),fun k a=>?_,d.users,d.ou,fun k a F=>?_⟩
  .obtain ⟨z,C,_⟩:=j.out;have:=C.lt k a;exact⟨this.1,by omega⟩
  .obtain ⟨z,C,_⟩:=j.out;have h2:=C.lt k F;have h3:=q k (M.out.ou k a);omega
 refine⟨rfl,⟨g,B,A,I,_,J,L,m.calls,rfl,E,N,o.own l b,rfl,Nat.le_refl _,X⟩,?_⟩;exact((Fr.refl O w).ext i).step b (fun k a=>by cases a;exact .inl N) (by rintro k a;cases a;exact Z)
end
section
open Go Go.RowKit
def fU (a:Int):Fs:=⟨a,[],[],[],[],0,[],0,false⟩
theorem nN (R:Nat->Prop) (w:World):IsFiles R (w.alloc (.map #[] 0)) w.heap.size [] :=
 ⟨List.Pairwise.nil,fun e a=>by simp at a,fun _=>.slice none 0 0,World.ownsMap_made _ _ _ _,fun e a=>by simp at a⟩
theorem wH (a:Int):OkM (fU a)/\fH (fU a):=by
 refine⟨⟨Nat.le_refl _,Nat.le_refl _,Nat.le_refl _,Nat.le_refl _,Nat.le_refl _,?_,?_,?_,rfl,?_⟩,⟨Nat.zero_le _,?_⟩⟩
 iterate 2
  .intro e b;cases b
 .intro c g;cases g
 .intro k s d h;simp[fU]at h
 .intro e b;cases b
def zI (a:Int) (w:World) (e:Ending) (w':World):Prop:=(∃p,e=.returned (.tuple #[p,.int .i64 0])/\IsFs (fun _=>False) (Nu w w') (fun _=>False) w' p (fU a))/\Ext w w'
theorem tN (a:Int) (w:World) (o:0<=a) (p:a<=1073741824) :
  Calls Tryz.prog 7 #[.int .i64 a] w (zI a w):=by
 have n:=@run_makeMap Tryz.prog;go_enter Tryz.func7,Tryz.ntmps7;go_wp2;go_ret2;have d:Ext w (w.alloc (.map #[] 0)):=(Ext.refl _).alloc _;have c:Ext (w.alloc (.map #[] 0)) ((w.alloc (.map #[] 0)).alloc (.map #[] 0)):=(Ext.refl _).alloc _;have b:Ext ((w.alloc (.map #[] 0)).alloc (.map #[] 0)) (((w.alloc (.map #[] 0)).alloc (.map #[] 0)).alloc (.cells (bc a w.heap.size (w.heap.size+1) (.slice none 0 0) (.slice none 0 0) 0 (.slice none 0 0) 0 false) 79)):=(Ext.refl _).alloc _;have g:=ae ((w.alloc (.map #[] 0)).alloc (.map #[] 0)) (.cells (bc a w.heap.size (w.heap.size+1) (.slice none 0 0) (.slice none 0 0) 0 (.slice none 0 0) 0 false) 79);have h:(w.alloc (.map #[] 0)).heap.size=w.heap.size+1:=by simp
 have i:((w.alloc (.map #[] 0)).alloc (.map #[] 0)).heap.size=w.heap.size+2:=by simp
 have j:=(nN (fun _=>False) w).ext (c.trans b);have e:=(nN (fun _=>False) (w.alloc (.map #[] 0))).ext b;rw[h]at e;rw[i]at g;have q:(((w.alloc (.map #[] 0)).alloc (.map #[] 0)).alloc (.cells (bc a w.heap.size (w.heap.size+1) (.slice none 0 0) (.slice none 0 0) 0 (.slice none 0 0) 0 false) 79)).heap.size=w.heap.size+3:=by simp
 refine⟨⟨_,rfl,w.heap.size+2,w.heap.size,w.heap.size+1,.slice none 0 0,.slice none 0 0,.slice none 0 0,[],0,by simp,g,⟨by omega,by simp <;> omega⟩,?_,rfl,Nat.le_refl _,Nat.zero_le _⟩,(d.trans c).trans b⟩;exact⟨by omega,⟨by omega,by simp <;> omega⟩,⟨by omega,by simp <;> omega⟩,j,e,⟨[],World.ownsRow_nil _ _ _ _,Each.nil _⟩,Inn.nil _ _ _,⟨[],Row.nil _,Typed.nil _ _ _ _,Each.nil _⟩,Inn.nil _ _ _,⟨[],World.ownsRow_nil _ _ _ _,Each.nil _⟩,Inn.nil _ _ _,fun k l=>by simp[Value.ownBlock]at l⟩
end
section
open Go Go.RowKit
theorem jj {w:World} {a base':Nat} {e:TypeId} {b:Nat} {v:Value} {n:Nat} {xs:List Value} (h:w.ownsRow a e b v n xs) (l:base'<=a):w.ownsRow base' e b v n xs:=by
 refine⟨h.1,h.2.imp id ?_⟩;rintro⟨g,c,d,i,j,k⟩;exact⟨g,c,d,i,Nat.le_trans l j,k⟩
end
section
open Go Go.RowKit
theorem xp (s:Nat) (c:s<32):(32:UInt32) - UInt32.ofNat s=UInt32.ofNat (32 - s):=by
 apply UInt32.toNat_inj.1;have a:(UInt32.ofNat s).toNat=s:=by simp;omega
 have b:(UInt32.ofNat (32 - s)).toNat=32 - s:=by simp;omega
 rw[UInt32.toNat_sub_of_le _ _ (by rw[UInt32.le_iff_toNat_le,a];show s<=32;omega),a,b];rfl
theorem eC (x:UInt32) (k s:Nat) (w:World) (c:0<s) (a:s<32) (n:bits BinOp.and IntKind.u64 (IntKind.u64.wrap (-(k:Int))) 31=(s:Int)) :
  Calls Tryz.prog 224 #[U32 x,.int .i64 (-(k:Int))] w fun e d=>e=.returned (U32 (bB x (UInt32.ofNat s)))/\d=w:=by
 have g:(0:Int)<=(s:Int):=by omega
 have h:(s:Int)<=32:=by omega
 have i:IntKind.u64.wrap (32 - (s:Int))=((32 - s:Nat):Int):=by rw[IntWalk.u64_in _ (by omega)];omega
 have j:(0:Int)<=((32 - s:Nat):Int):=by omega
 have l:((32 - s:Nat):Int)<=32:=by omega
 have b:Hid (Value.int IntKind.u32 (bits BinOp.or IntKind.u32 (↑x.toNat*2 ^ s%4294967296) (↑x.toNat / 2 ^ (32 - s)))=U32 (bB x (UInt32.ofNat s))):=by
  unfold Hid bB;rw[oC x s a,hZ x (32 - s) (by omega),lf,xp s a]
 go_enter Tryz.func224,Tryz.ntmps224;go_wp2;go_ret;exact⟨congrArg Ending.returned b.out,rfl⟩
theorem BQ (x:UInt32) (w:World):Calls Tryz.prog 224 #[U32 x,.int .i64 (-6)] w fun e a=>e=.returned (U32 (bB x 26))/\a=w:=eC x 6 26 w (by decide) (by decide) (by decide +kernel)
theorem Bo (x:UInt32) (w:World):Calls Tryz.prog 224 #[U32 x,.int .i64 (-11)] w fun e a=>e=.returned (U32 (bB x 21))/\a=w:=eC x 11 21 w (by decide) (by decide) (by decide +kernel)
theorem Bu (x:UInt32) (w:World):Calls Tryz.prog 224 #[U32 x,.int .i64 (-25)] w fun e a=>e=.returned (U32 (bB x 7))/\a=w:=eC x 25 7 w (by decide) (by decide) (by decide +kernel)
theorem BP (x:UInt32) (w:World):Calls Tryz.prog 224 #[U32 x,.int .i64 (-2)] w fun e a=>e=.returned (U32 (bB x 30))/\a=w:=eC x 2 30 w (by decide) (by decide) (by decide +kernel)
theorem Bp (x:UInt32) (w:World):Calls Tryz.prog 224 #[U32 x,.int .i64 (-13)] w fun e a=>e=.returned (U32 (bB x 19))/\a=w:=eC x 13 19 w (by decide) (by decide) (by decide +kernel)
theorem Bt (x:UInt32) (w:World):Calls Tryz.prog 224 #[U32 x,.int .i64 (-22)] w fun e a=>e=.returned (U32 (bB x 10))/\a=w:=eC x 22 10 w (by decide) (by decide) (by decide +kernel)
theorem BR (x:UInt32) (w:World):Calls Tryz.prog 224 #[U32 x,.int .i64 (-7)] w fun e a=>e=.returned (U32 (bB x 25))/\a=w:=eC x 7 25 w (by decide) (by decide) (by decide +kernel)
theorem Br (x:UInt32) (w:World):Calls Tryz.prog 224 #[U32 x,.int .i64 (-18)] w fun e a=>e=.returned (U32 (bB x 14))/\a=w:=eC x 18 14 w (by decide) (by decide) (by decide +kernel)
theorem Bq (x:UInt32) (w:World):Calls Tryz.prog 224 #[U32 x,.int .i64 (-17)] w fun e a=>e=.returned (U32 (bB x 15))/\a=w:=eC x 17 15 w (by decide) (by decide) (by decide +kernel)
theorem Bs (x:UInt32) (w:World):Calls Tryz.prog 224 #[U32 x,.int .i64 (-19)] w fun e a=>e=.returned (U32 (bB x 13))/\a=w:=eC x 19 13 w (by decide) (by decide) (by decide +kernel)
end
end Go.Proofs.YtfabjgfmiaammaaGreatDoor
