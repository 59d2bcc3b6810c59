/- Contracts of the program's functions and plain laws behind the card. Conditions: as each theorem states. -/
import Derived.Test.YtgfegpnmlkdjfaaGreatDoorZbk
import Derived.Test.YtgfegpnmlkdjfaaGreatDoorZbl
import Derived.Test.YtgfegpnmlkdjfaaGreatDoorZav
import Derived.Test.YtgfegpnmlkdjfaaGreatDoorZbf
import Derived.Test.YtgfegpnmlkdjfaaGreatDoorZas
import Derived.Lib.LaidTab
import Derived.Stop.LaidErr
set_option linter.unusedVariables false
set_option linter.unusedSimpArgs false
set_option linter.unusedSectionVars false
set_option maxRecDepth 100000
set_option maxHeartbeats 64000000
namespace Go.Proofs.YtgfegpnmlkdjfaaGreatDoor
section
open Go Go.RowKit Go.Sort
def eJ (l:List B8) (id:B8):Option B8:=l.find? fun x=>aC x==id
variable {l:List B8}
theorem zJ {id:B8} {k:Nat} {x:B8} (c:l[k]? = some x) (a:eJ l id=eJ (l.drop k) id):(aC x=id->eJ l id=some x)/\(aC x≠id->eJ l id=eJ (l.drop (k+1)) id):=by
 obtain⟨b,rfl⟩:=List.getElem?_eq_some_iff.1 c;rw[List.drop_eq_getElem_cons b]at a;unfold eJ at a ⊢;rw[List.find?_cons]at a;constructor
 .intro h;rw[a,show(aC l[k]==id)=true by simpa using h]
 .intro h;rw[a,show(aC l[k]==id)=false by simpa using h]
def Du (w:World):Option B8->Ending->Prop
 | none,e=>e=.returned (.tuple #[.slice none 0 0,.bool false])
 | some x,e=>∃v,e=.returned (.tuple #[v,.bool true])/\IsBytes w v x/\TypB w v
theorem By [Inhabited br] {w:World} {E F G:Nat} {v I:Value} (id:B8) (L:w.heap[E]? = some (.cells #[v] 22 (0,0))) (M:w.heap[F]? = some (.cells #[.bool false] 4 (0,0))) (N:w.heap[G]? = some (.cells #[I] 38 (0,0)))
  (T:IsBss w v l) (O:IsStrs w I (l.map aC)) (hl:l.length<=100000) :
  Calls Tryz.prog 24 #[S8 id,.pointer (some ⟨E,0,none⟩),.pointer (some ⟨F,0,none⟩),.pointer (some ⟨G,0,none⟩)] w fun e U=>Du U (eJ l id) e/\Ext w U:=by
 have V:w.cell? ⟨E,0,none⟩=some v:=(cell_of_row _ _ 0 _ _ _ L).trans rfl;have y2:w.cell? ⟨F,0,none⟩=some (.bool false):=(cell_of_row _ _ 0 _ _ _ M).trans rfl;have W:w.cell? ⟨G,0,none⟩=some I:=(cell_of_row _ _ 0 _ _ _ N).trans rfl;obtain⟨av,cv,rfl,l1,l2,l3,p⟩:=T.get;obtain⟨ai,ci,rfl,k1,k2,k3,o⟩:=O.get;have A:Hid _:=p;have g:Hid _:=o;obtain⟨n,Q⟩:∃n,l.length=n:=⟨_,rfl⟩;have P:(l.map aC).length=n:=by rw[List.length_map,Q]
 rw[P]at W g;rw[Q]at V;obtain⟨R,H⟩:∃R,eJ l id=R:=⟨_,rfl⟩;have K:Hid _:=H;rw[H];clear L M N T O p o k1 k2 k3 l1 l2 l3 H P;go_enter Tryz.func24,Tryz.ntmps24;go_wp2_with fail;go_loopw [7] (fun i wr=>∃k:Nat,k<=n/\i=.int .i64 k/\Hid (eJ l id=eJ (l.drop k) id)/\Hid (Ext w wr)) (fun i _=>n - (intOf i).toNat)
 case atStart=>exact⟨0,Nat.zero_le _,rfl,rfl,Ext.refl _⟩
 case round =>
 obtain⟨k,hk,rfl,B,a⟩:=hrel;have z1:=a.out.cell V;have z2:=a.out.cell y2;have z3:=a.out.cell W
 by_cases aa:(k:Int)<(n:Int)
 case neg =>
  have Y:Hid (R=none):=by
   unfold Hid;rw[<-K.out,B.out,List.drop_of_length_le (by omega)];rfl
  go_wp2_with fail;go_ret2;exact⟨by rw[Y.out];rfl,a.out⟩
 obtain⟨x,y⟩:∃x,l[k]? = some x:=⟨_,List.getElem?_eq_getElem (by omega)⟩;obtain⟨bb,oo,u,rfl,S,r⟩:=A.out k x y;obtain⟨bi,oi,rfl,h⟩:=g.out k (by omega);have z4:=a.out.cell S;have X:=a.out.cell (h k (by omega));rw[show(l.map aC).getD k []=aC x by rw[List.getD_eq_getElem?_getD,List.getElem?_map,y];rfl]at X;obtain⟨sx,q⟩:∃s,aC x=s:=⟨_,rfl⟩;have z:Hid _:=zJ y B.out;rw[q]at X z;have C:Hid (IsBytes wr u x):=Row.ext r a.out;obtain⟨c,Z⟩:∃c,(sx==id)=c:=⟨_,rfl⟩;have J:Hid _:=Z;clear h r S y q B
 cases c with
 | true =>
  have b:Hid (R=some x):=by unfold Hid;rw[<-K.out];exact z.out.1 (by simpa using J.out)
  go_wp2_with fail;go_at_call 25;refine(yr _ x wr C.out).mono ?_;rintro e w9 ⟨⟨v9,rfl,j⟩,t⟩;have d:Hid _:=j;have D:Hid (Ext w w9):=a.out.trans t;clear j t;go_wp2_with fail;go_ret2;exact⟨by rw[b.out];exact⟨_,rfl,d.out.bytes,d.out.typed⟩,D.out⟩
 | false =>
  have b:Hid (eJ l id=eJ (l.drop (k+1)) id):=z.out.2 (by simpa using J.out);go_wp2_with fail;go_roundw
  case rel=>exact⟨k+1,by omega,by go_num,b,a⟩
  case measure=>simp[intOf] <;> omega
end
section
open Go Go.RowKit Go.Sort
def cB (l:List B8):List B8->Option (List B8)
 | []=>some []
 | id::r=>(eJ l id).bind fun x=>(cB l r).map (x :: ·)
def ip (b:B8):Option B8:=if(gD b).2=0/\(gD b).1.kind=1 then some (gD b).1.data else none
def bV:List B8->Option (List B8)
 | []=>some []
 | b::r=>(ip b).bind fun x=>(bV r).map (x :: ·)
def dG (l a:List B8):Except Int (List B8):=match cB l a with
 | none=>.error 7
 | some r=>match bV r with
  | none=>.error 4
  | some d=>.ok d
theorem rH {l:List B8}:∀ {a r:List B8},cB l a=some r->∀x∈r,x∈l
 | [],r,h=>by cases h;intro x b;cases b
 | id::a,r,h=>by
  unfold cB at h
  cases d:eJ l id with
  | none=>rw[d]at h;cases h
  | some y =>
   rw[d]at h
   cases c:cB l a with
   | none=>rw[c]at h;cases h
   | some z =>
    rw[c]at h;simp only[Option.bind_some,Option.map_some,Option.some.injEq]at h;subst h;intro x b;rcases List.mem_cons.1 b with rfl | b
    .exact List.mem_of_find?_eq_some d
    .exact rH c x b
def OwBss (w:World) (a:Nat) (v:Value) (L:List B8):Prop:=∃c:List Value,c.length=L.length/\w.ownsRow a 52 1 v L.length c/\∀(k:Nat) u b,c[k]? = some u->L[k]? = some b->IsBytes w u b/\TypB w u
variable {w w':World} {base:Nat} {v:Value}
theorem yU {n:Nat} {xs:List Value} (b:w.ownsRow base 52 1 v n xs) (a:w.grownBy w' v.ownBlock):KeepB w w':=by
 rcases b.2 with⟨c,-⟩ | ⟨i,h,d,c,j,e,l⟩
 .rw [c]at a;exact⟨a.size,fun k g=>a.block k g.lt (by simp[Value.ownBlock])⟩
 .rw [c]at a;exact KeepB.G1 a e (by kernel_rfl)
theorem OwBss.nil (w:World) (base:Nat):OwBss w base (.slice none 0 0) []:=⟨[],rfl,World.ownsRow_nil _ _ _ _,fun k u b h=>(by simp at h)⟩
variable {L:List B8}
theorem OwBss.ext (h:OwBss w base v L) (a:Ext w w'):OwBss w' base v L:=by
 obtain⟨j,g,i,c⟩:=h;exact⟨j,g,az i a,fun k u b e d=>⟨Row.ext (c k u b e d).1 a,(c k u b e d).2.keep (KeepB.GX a)⟩⟩
theorem OwBss.mono {b a:Nat} (h:OwBss w b v L) (g:a<=b):OwBss w a v L:=by
 obtain⟨i,c,d,e⟩:=h;exact⟨i,c,World.ownsRow.mono d g,e⟩
theorem OwBss.Ir (h:OwBss w base v L) (j:L.length<=100000):IsBss w v L:=by
 obtain⟨i,a,c,d⟩:=h;exact⟨i,a,Row.GW c (by omega),fun k u b g e=>(d k u b g e).1⟩
theorem OwBss.push {v' u:Value} {L d:List _} {b:B8} (l:d.length=L.length) (p:w.ownsRow base 52 1 v L.length d) (q:∀(k:Nat) u b,d[k]? = some u->L[k]? = some b->IsBytes w u b/\TypB w u)
  (t:IsBytes w u b) (n:TypB w u) (a:w'.ownsRow base 52 1 v' (L.length+1) (d++[u])) (r:w.grownBy w' v.ownBlock):OwBss w' base v' (L++[b]):=by
 have e:=yU p r;refine⟨d++[u],by simp[l],by rw[List.length_append,List.length_singleton];exact a,fun k x y g c=>?_⟩
 by_cases i:k<L.length
 .rw [List.getElem?_append_left (by omega)]at g;rw[List.getElem?_append_left i]at c;obtain⟨o,j⟩:=q k x y g c;exact⟨Row.G' o j e,j.keep e⟩
 .have h:k=L.length:=by
   have:=(List.getElem?_eq_some_iff.1 c).1;rw[List.length_append,List.length_singleton]at this;omega
  subst h;rw[List.getElem?_append_right (Nat.le_refl _),Nat.sub_self]at c;rw[List.getElem?_append_right (by omega),l,Nat.sub_self]at g;cases g;cases c;exact⟨Row.G' t n e,n.keep e⟩
theorem IsObT.kind {o:Ob} (h:IsObT w v o):∃b d e,v=.agg #[.int .i64 o.kind,b,d,S8 o.tree,e,.int .i64 o.GZ,.int .i64 o.GY,S8 o.msg]/\IsBytes w b o.data/\TypB w b/\(∃a c,b=.slice a o.data.length c)/\(∃a n c,d=.slice a n c)/\(∃a n c,e=.slice a n c):=by
 obtain⟨b,d,e,rfl,g,i,j,k,l,p⟩:=h;refine⟨b,d,e,rfl,g,k,?_,?_,?_⟩
 .obtain ⟨a,c,rfl,-⟩:=id g;exact⟨a,c,rfl⟩
 .obtain ⟨a,c,rfl,-⟩:=id i;exact⟨a,_,c,rfl⟩
 .obtain ⟨a,c,rfl,-⟩:=id j;exact⟨a,_,c,rfl⟩
def xU (w:World) (base:Nat):Except Int (List B8)->Ending->Prop
 | .error k,e=>e=.returned (.tuple #[.slice none 0 0,.int .i64 k])
 | .ok d,e=>∃v,e=.returned (.tuple #[v,.int .i64 0])/\OwBss w base v d
theorem wK [Inhabited br] {F:Value} {l n:List B8} (hF:IsSrcF w F l false) (hv:IsStrs w v n) (hl:l.length<=100000) (hs:∀x∈l,x.length<=10000000) (hi:n.length<=1000) :
  Calls Tryz.prog 90 #[F,v] w fun e w'=>xU w' w.heap.size (dG l n) e/\Ext w w':=by
 obtain⟨b1,b2,b3,sv,co,rfl,q1,q2,q3,q4,q5⟩:=hF.get;obtain⟨a,c,rfl,l1,l2,l3,hg⟩:=hv.get;have HG:Hid _:=hg;have a6:Hid (∀w' id,Ext w w'->Calls Tryz.prog 24 #[S8 id,.pointer (some ⟨b1,0,none⟩),.pointer (some ⟨b2,0,none⟩),.pointer (some ⟨b3,0,none⟩)] w' fun e bv=>Du bv (eJ l id) e/\Ext w' bv):=fun w' id hx =>
  By id (hx.row q1) (hx.row q2) (hx.row q3) (q4.ext hx) (Row.ext q5 hx) hl
 obtain⟨R,hR⟩:∃R,dG l n=R:=⟨_,rfl⟩;have HR:Hid _:=hR;rw[hR];clear hF hv hg q1 q2 q3 q4 q5 hR;go_enter Tryz.func90,Tryz.ntmps90;go_wp2_with fail;go_loopw [6,18] (fun rv i wr=>∃(k:Nat) (g:List B8),k<=n.length/\i=.int .i64 k/\g.length=k/\Hid (OwBss wr w.heap.size rv g)/\Hid (cB l n=(cB l (n.drop k)).map (g ++ ·))/\Hid (Ext w wr)) (fun _ i _=>n.length - (intOf i).toNat)
 case atStart=>exact⟨0,[],Nat.zero_le _,rfl,rfl,OwBss.nil _ _,by unfold Hid;rw[List.drop_zero];cases cB l n <;> simp,Ext.refl _⟩
 case round =>
 obtain⟨k,g,hk,rfl,L,T,H,HX⟩:=hrel
 by_cases bk:(k:Int)<(n.length:Int)
 case pos =>
  obtain⟨id,hid⟩:∃x,n[k]? = some x:=⟨_,List.getElem?_eq_getElem (by omega)⟩;obtain⟨bb,oo,rfl,hc⟩:=HG.out k (by omega);have y1:=HX.out.cell (hc k (by omega));rw[show n.getD k []=id by rw[List.getD_eq_getElem?_getD,hid];rfl]at y1;have B:Hid (n.drop k=id::n.drop (k+1)):=by
   unfold Hid;obtain⟨V,rfl⟩:=List.getElem?_eq_some_iff.1 hid;exact List.drop_eq_getElem_cons V
  clear hc hid;go_wp2_with fail;refine(a6.out wr id HX.out).mono ?_;rintro e w2 ⟨a0,Z⟩;obtain⟨S,hS⟩:∃S,eJ l id=S:=⟨_,rfl⟩;rw[hS]at a0;have a5:Hid _:=hS;have ao:Hid (Ext w w2):=HX.out.trans Z;clear hS y1
  cases S with
  | none =>
   have G:Hid (R=.error 7):=by
    unfold Hid;rw[<-HR.out];unfold dG;rw[H.out,B.out];unfold cB;rw[a5.out];rfl
   obtain rfl:e=_:=a0;clear Z;go_wp2_with fail;go_ret2;exact⟨by rw[G.out];rfl,ao.out⟩
  | some x =>
   obtain⟨u,rfl,A,bq⟩:=a0;obtain⟨ua,uc,rfl,-⟩:=_root_.id A;have am:Hid _:=A;have b':Hid _:=bq;have b9:Hid (cB l n=(cB l (n.drop (k+1))).map ((g++[x]) ++ ·)):=by
    unfold Hid;rw[H.out,B.out]
    conv=>lhs;unfold cB
    rw[a5.out]
    cases cB l (n.drop (k+1))with
    | none=>rfl
    | some z=>simp
   obtain⟨vs,V,h2,h3⟩:=T.out.ext Z;have H1:Hid _:=V;have H2:Hid (w2.ownsRow w.heap.size 52 1 u6 k vs):=by rw[<-L];exact h2
   have H3:Hid _:=h3;have M:w.heap.size<=(w2.alloc (.cells #[.slice ua x.length uc] 52)).heap.size:=(ao.out.alloc _).size;clear V h2 h3 A bq Z T H
   go_wp2_with (at_builtin;go_must (refine eY 22 52 (.slice none 0 0) 1 24 Tryz.underlying22 (by kernel_rfl) rfl (by omega) rfl _ _ rfl w.heap.size _ k vs rfl (az H2.out ((Ext.refl _).alloc _)) ⟨w2.heap.size,0,none⟩ 1 1 [.slice ua x.length uc] rfl rfl (bW (ah _ _)) (by simp[Value.oneCell']) (by omega) (by omega) M ?_;intro v' w3 N au _))
   have a3:Hid (OwBss w3 w.heap.size v' (g++[x])):=by
    have o:Ext w2 (w2.alloc (.cells #[.slice ua x.length uc] 52)):=(Ext.refl _).alloc _;exact OwBss.push (w:=w2.alloc (.cells #[.slice ua x.length uc] 52)) H1.out (by rw[L];exact az H2.out o) (fun k u b hu Q=>⟨Row.ext (H3.out k u b hu Q).1 o,(H3.out k u b hu Q).2.keep (KeepB.GX o)⟩) (Row.ext am.out o) (TypB.keep b'.out (KeepB.GX o)) (by rw[L];exact N) au
   have ca:Hid (Ext w w3):=aA (ao.out.alloc _) (az H2.out ((Ext.refl _).alloc _)) au;clear N au M;go_roundw
   case rel=>exact⟨k+1,g++[x],by omega,by go_num,by simp[L],a3.out,b9,ca.out⟩
   case measure=>simp[intOf] <;> omega
 have bi:k=n.length:=by omega
 have a4:Hid (cB l n=some g):=by
  unfold Hid;rw[H.out,bi,List.drop_length];unfold cB;simp
 have ad:=T.out.Ir (by omega);obtain⟨ra,rc,rfl,r1,r2,r3,bo⟩:=ad.get;have b7:Hid _:=bo;have ai:Hid (R=match bV g with | none=>.error 4 | some d=>.ok d):=by
  unfold Hid;rw[<-HR.out];unfold dG;rw[a4.out]
 have b5:Hid (∀x∈g,x.length<=10000000):=fun x hx=>hs x (rH a4.out x hx)
 obtain⟨D,rfl⟩:∃D:World,D=wr:=⟨_,rfl⟩;have cm:g.length<=1000:=by omega
 clear ad bo T H L bi;go_wp2_with fail;clear bk hk;go_loopw [7,37] (fun rv i wr=>∃(k:Nat) (p:List B8),k<=g.length/\i=.int .i64 k/\p.length=k/\Hid (OwBss wr D.heap.size rv p)/\Hid (bV g=(bV (g.drop k)).map (p ++ ·))/\Hid (Ext D wr)) (fun _ i _=>g.length - (intOf i).toNat)
 case atStart=>exact⟨0,[],Nat.zero_le _,rfl,rfl,OwBss.nil _ _,by unfold Hid;rw[List.drop_zero];cases bV g <;> simp,Ext.refl _⟩
 case round =>
 obtain⟨j,p,hj,rfl,X,ag,E,U⟩:=hrel;have cc:Hid (Ext w wr):=HX.out.trans U.out
 by_cases bk:(j:Int)<(g.length:Int)
 case neg =>
  have ce:j=g.length:=by omega
  have b8:Hid (R=.ok p):=by
   unfold Hid;rw[ai.out,E.out,ce,List.drop_length];unfold bV;simp
  go_wp2_with fail;go_ret2;exact⟨by rw[b8.out];exact⟨_,rfl,ag.out.mono HX.out.size⟩,cc.out⟩
 obtain⟨b,Q⟩:∃x,g[j]? = some x:=⟨_,List.getElem?_eq_getElem (by omega)⟩;obtain⟨bb,oo,u,rfl,hu,A⟩:=b7.out j b Q;obtain⟨ua,uc,rfl,-⟩:=id A;have y1:=U.out.cell hu;have am:Hid (IsBytes wr (.slice ua b.length uc) b):=Row.ext A U.out;have b0:Hid (b.length<=10000000):=b5.out b (List.mem_of_getElem? Q);have B:Hid (g.drop j=b::g.drop (j+1)):=by
  unfold Hid;obtain⟨V,rfl⟩:=List.getElem?_eq_some_iff.1 Q;exact List.drop_eq_getElem_cons V
 clear A hu Q;go_wp2_with fail;go_at_call 117;refine(Ba _ b wr am.out b0.out).mono ?_;obtain⟨⟨ob,ec⟩,hq⟩:∃q,gD b=q:=⟨_,rfl⟩;rw[hq];have HQ:Hid _:=hq;clear hq y1;rintro e w6 ⟨⟨uo,rfl,bm⟩,a2⟩;obtain⟨vd,vi,vp,rfl,a1,bp,⟨J,K,rfl⟩,⟨ia,bs,ic,rfl⟩,⟨pa,pn,pc,rfl⟩⟩:=bm.kind;obtain⟨kd,t,oi,ot,op,os,oa,om⟩:=ob;dsimp only at a1;have a':Hid (IsBytes w6 (.slice J t.length K) t):=a1;have a7:Hid (TypB w6 (.slice J t.length K)):=bp;have bc:Hid (Ext D w6):=U.out.trans a2;have aa:Hid (OwBss w6 D.heap.size u7 p):=ag.out.ext a2;clear bm a1 bp a2;dsimp only;go_upto_region 14 with fail;obtain⟨r,Y⟩:∃r,r=w6.alloc (.cells #[.int .i64 kd,.slice J t.length K,.slice ia bs ic,S8 ot,.slice pa pn pc,.int .i64 os,.int .i64 oa,S8 om] 141):=⟨_,rfl⟩;have P:Ext w6 r:=by rw[Y];exact(Ext.refl _).alloc _
 have W:r.heap[w6.heap.size]? = some (.cells #[.int .i64 kd,.slice J t.length K,.slice ia bs ic,S8 ot,.slice pa pn pc,.int .i64 os,.int .i64 oa,S8 om] 141 (0,0)):=by rw[Y];exact ah _ _
 rw[<-Y];obtain⟨gi,bh⟩:∃q,w6.heap.size=q:=⟨_,rfl⟩;rw[bh]at W ⊢;have z0:r.cell? ⟨gi,0,none⟩=some (.int .i64 kd):=(cell_of_row _ _ 0 _ _ _ W).trans rfl;have z1:r.cell? ⟨gi,1,none⟩=some (.slice J t.length K):=(cell_of_row _ _ 1 _ _ _ W).trans rfl;have ba:Hid (IsBytes r (.slice J t.length K) t):=Row.ext a'.out P;have a9:Hid (TypB r (.slice J t.length K)):=a7.out.keep (KeepB.GX P);have I:Hid (Ext D r):=bc.out.trans P;have ab:Hid (OwBss r D.heap.size u7 p):=aa.out.ext P;clear Y P W bh a' a7 bc aa ag
 by_cases y:ec=0
 case neg =>
  have ci:(ec != 0)=true:=by simpa using y
  have G:Hid (R=.error 4):=by
   unfold Hid;rw[ai.out,E.out,B.out];unfold bV ip;rw[HQ.out,if_neg (fun h=>y h.1)];rfl
  clear y;go_wp2_with fail;go_ret2;exact⟨by rw[G.out];rfl,HX.out.trans I.out⟩
 have ci:(ec != 0)=false:=by simpa using y
 by_cases C:kd=1
 case neg =>
  have cf:(kd != 1)=true:=by simpa using C
  have G:Hid (R=.error 4):=by
   unfold Hid;rw[ai.out,E.out,B.out];unfold bV ip;rw[HQ.out,if_neg (fun h=>C h.2)];rfl
  clear y C;go_wp2_with fail;go_ret2;exact⟨by rw[G.out];rfl,HX.out.trans I.out⟩
 have cf:(kd != 1)=false:=by simpa using C
 have b4:Hid (bV g=(bV (g.drop (j+1))).map ((p++[t]) ++ ·)):=by
  unfold Hid;rw[E.out,B.out]
  conv=>lhs;unfold bV ip
  rw[HQ.out,if_pos ⟨y,C⟩]
  cases bV (g.drop (j+1))with
  | none=>rfl
  | some z=>simp
 obtain⟨vs,V,h2,h3⟩:=ab.out;have H1:Hid _:=V;have H2:Hid (r.ownsRow D.heap.size 52 1 u7 j vs):=by rw[<-X];exact h2
 have H3:Hid _:=h3;have cl:Hid (Ext w r):=HX.out.trans I.out;have M:D.heap.size<=(r.alloc (.cells #[.slice J t.length K] 52)).heap.size:=(I.out.alloc _).size;clear V h2 h3 y C E ab
 go_wp2_with (at_builtin;go_must (refine eY 22 52 (.slice none 0 0) 1 24 Tryz.underlying22 (by kernel_rfl) rfl (by omega) rfl _ _ rfl D.heap.size _ j vs rfl (az H2.out ((Ext.refl _).alloc _)) ⟨r.heap.size,0,none⟩ 1 1 [.slice J t.length K] rfl rfl (bW (ah _ _)) (by simp[Value.oneCell']) (by omega) (by omega) M ?_;intro v' w9 O av _))
 have o:Ext r (r.alloc (.cells #[.slice J t.length K] 52)):=(Ext.refl _).alloc _;have b6:Hid (OwBss w9 D.heap.size v' (p++[t])) :=
  OwBss.push (w:=r.alloc (.cells #[.slice J t.length K] 52)) H1.out (by rw[X];exact az H2.out o) (fun k u b hu Q=>⟨Row.ext (H3.out k u b hu Q).1 o,(H3.out k u b hu Q).2.keep (KeepB.GX o)⟩) (Row.ext ba.out o) (TypB.keep a9.out (KeepB.GX o)) (by rw[X];exact O) av
 have cb:Hid (Ext D w9):=aA (I.out.alloc _) (az H2.out o) av;clear O av M o;go_roundw
 case rel=>exact⟨j+1,p++[t],by omega,by go_num,by simp[X],b6.out,b4,cb.out⟩
 case measure=>simp[intOf] <;> omega
end
section
open Go Go.ChangeShapes Go.WideShapes Go.ChangeAt Go.RowKit Go.Deep
def BB:List Int:=dj.map fun x=>(x.toNat:Int)
def BC:List Int:=dT.map fun x=>(x.toNat:Int)
theorem E7:Rows.laid_marline_sha_squares=(Lib.tabData .u32 BB:DataW Unit):=by kernel_rfl
theorem E8:Rows.laid_marline_sha_cubes=(Lib.tabData .u32 BC:DataW Unit):=by kernel_rfl
variable {W:World}
theorem sR {name:String} {zs:List Int} {g:Nat} {zero:Array Value} {t:TypeId} (d:W.ShapedOpen Tryz.prog) (h:Lib.TabIs Tryz.prog W name .u32 zs) (e:Tryz.prog.globalNamed name=some g) (a:g<Tryz.prog.globals.size)
  (c:((begin Tryz.prog (fun _ _=>0) default).world.heap[g]?).bind Obj.row? = some (zero,t)):W.heap[g]? = some (.cells (zs.map fun z=>Value.int .u32 z).toArray t (0,0)):=by
 obtain⟨i,b,-,-⟩:=d.1 g zero t a c;unfold Lib.TabIs World.var? at h;rw[e]at h;simp only[Option.bind_some,b,Option.some.injEq]at h;rw[b,h]
theorem qx {x:String×DataW Unit} {rest:List (String×DataW Unit)}
  (j : laidMet Tryz.prog (x :: ("marline/sha.cubes", Rows.laid_marline_sha_cubes) :: ("marline/sha.squares", Rows.laid_marline_sha_squares) :: rest) W) (e : W.ShapedOpen Tryz.prog) : EnvS W := by
 have a:=laidMet.tail j;have d:=laidMet.tail a;rw[E8]at a;rw[E7]at d;have l:=Lib.tabIs_of_head (g:=4) (by kernel_rfl) (by kernel_rfl) Tryz.underlying229 Tryz.underlying100 (by kernel_rfl) (by kernel_rfl) a;have k:=Lib.tabIs_of_head (g:=3) (by kernel_rfl) (by kernel_rfl) Tryz.underlying103 Tryz.underlying100 (by kernel_rfl) (by kernel_rfl) d;have c:=sR (g:=4) (zero:=(List.replicate 64 (.int .u32 0)).toArray) (t:=229) e l (by kernel_rfl) (of_decide_eq_true (by kernel_rfl)) (by kernel_rfl);have b:=sR (g:=3) (zero:=(List.replicate 8 (.int .u32 0)).toArray) (t:=103) e k (by kernel_rfl) (of_decide_eq_true (by kernel_rfl)) (by kernel_rfl);have i:(BC.map fun z=>Value.int .u32 z)=dT.map U32:=by unfold BC;rw[List.map_map];rfl
 have h:(BB.map fun z=>Value.int .u32 z)=dj.map U32:=by unfold BB;rw[List.map_map];rfl
 rw[i]at c;rw[h]at b;exact⟨⟨_,b⟩,⟨_,c⟩⟩
end
end Go.Proofs.YtgfegpnmlkdjfaaGreatDoor
