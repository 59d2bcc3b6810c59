/- Contracts of the program's functions and plain laws behind the card. Conditions: as each theorem states. -/
import Derived.Test.YtgfegpnmlkdjfaaGreatDoorZbj
import Derived.Test.YtgfegpnmlkdjfaaGreatDoorZbd
set_option linter.unusedVariables false
set_option linter.unusedSimpArgs false
set_option linter.unusedSectionVars false
set_option maxRecDepth 100000
set_option maxHeartbeats 64000000
namespace Go.Proofs.YtgfegpnmlkdjfaaGreatDoor
section
open Go Go.RowKit Go.Sort
theorem lK:∀(l:List Ck) (c:Ck) (x:B8),bC (l++[c]) x=l++[ql c x]
 | [],c,x=>rfl
 | [d],c,x=>rfl
 | d::e::l,c,x=>by
  show bC (d::e::(l++[c])) x=d::e::(l++[ql c x]);unfold bC;rw[show e::(l++[c])=(e::l)++[c]from rfl,lK (e::l) c x];rfl
structure Grow (w0 ws w:World) (L':List Cv) (x:Cv):Prop where
 rd:∀y∈L',RdCv ws y
 keep:Keep 9 ws w
 lo:w0.heap.size<=ws.heap.size
 own:∀i,i<3->w.ownsRow ws.heap.size 9 1 (p3 x.o x.a x.b undef i) (p3 x.c.o x.c.a x.c.b [] i).length ((p3 x.c.o x.c.a x.c.b [] i).map S8)
 ne:∀i j,i<3->j<3->i≠j->∀p,(p3 x.o x.a x.b undef i).ownBlock=some p->(p3 x.o x.a x.b undef j).ownBlock≠some p
section
variable {w0 ws w w':World} {L':List Cv} {x:Cv} {g:Nat} {vo va vb vout:Value} {s:Wk}
theorem Grow.more (h:Grow w0 ws w L' x) (a:Ext w w'):Grow w0 ws w' L' x :=
 ⟨h.rd,h.keep.trans (Keep.GX a),h.lo,fun i b=>az (h.own i b) a,h.ne⟩
variable {cs:Array Value}
theorem Grow.set (h:Grow w0 ws w L' x) (c:w.heap[g]? = some (.cells cs 196 (0,0))) (b:w.grownBy w' (some g)):Grow w0 ws w' L' x :=
 ⟨h.rd,h.keep.trans (Keep.G1 b c (by decide)),h.lo,fun i e=>cH (h.own i e) b (fun q j d a=>by
  cases j;rw[c]at a
  simp at a),h.ne⟩
theorem Grow.new (h:IsWk w0 w g vo va vb vout s (L'++[x])) (d:x=⟨⟨1,[],[],[]⟩,.slice none 0 0,.slice none 0 0,.slice none 0 0⟩):Grow w0 w w L' x:=by
 subst d;have c:∀i,i<3->(p3 (.slice none 0 0) (.slice none 0 0) (.slice none 0 0) undef i:Value)=.slice none 0 0:=fun i a=>match i,a with
  | 0,_=>rfl
  | 1,_=>rfl
  | 2,_=>rfl
 have k:∀i,i<3->(p3 [] [] [] [] i:List B8)=[]:=fun i a=>match i,a with
  | 0,_=>rfl
  | 1,_=>rfl
  | 2,_=>rfl
 refine⟨fun y l=>h.rd y (List.mem_append_left _ l),Keep.refl _ _,h.ext.size,fun i a=>?_,fun i j a n e p b=>?_⟩
 .dsimp only;rw[c i a,k i a];exact World.ownsRow_nil _ _ _ _
 .dsimp only at b;rw[c i a]at b;cases b
variable {L:List Cv}
theorem BN (b:cs.toList.take ((L++[x]).length*4)=(L++[x]).flatMap cvC) (d:(L.length+1)*4<=cs.size) (j:Nat) (c:j<4):cs[L.length*4+j]? = (cvC x)[j]?:=by
 have a:=iY cvC 4 (fun _=>rfl) (L++[x]) L.length j x (by simp) c;rw[<-b,List.getElem?_take_of_lt (by rw[List.length_append,List.length_singleton];omega)]at a;rw[<-a,Array.getElem?_toList]
theorem rE (cs:Array Value) (a:Nat) (f:Nat->Value):(dQ cs a f).toList.length=cs.size:=by simp[dQ]
theorem Bm {x':Cv} {f:Nat->Value} (d:cs.toList.take ((L++[x]).length*4)=(L++[x]).flatMap cvC) (t:(L.length+1)*4<=cs.size) (q:x'.c.k=x.c.k) (n:f 0=x'.o) (o:f 1=x'.a) (p:f 2=x'.b) :
  (dQ cs (L.length*4) f).toList.take ((L++[x']).length*4)=(L++[x']).flatMap cvC:=by
 have a:∀(y:Cv),((L++[y]).flatMap cvC).length=(L.length+1)*4:=fun y=>by
  have:∀l:List Cv,(l.flatMap cvC).length=l.length*4:=by
   intro l
   induction l with
   | nil=>rfl
   | cons z l u=>rw[List.flatMap_cons,List.length_append,u,List.length_cons];show 4+_=_;omega
  rw[this,List.length_append,List.length_singleton]
 apply List.ext_getElem?;intro j
 by_cases e:j<(L.length+1)*4
 .rw [List.getElem?_take_of_lt (by rw[List.length_append,List.length_singleton];exact e),Array.getElem?_toList,Array.getElem?_eq_getElem (by rw[dx];omega),kh]
  by_cases b:j<L.length*4
  .rw [if_neg (by omega),if_neg (by omega),if_neg (by omega)];have k:((L++[x]).flatMap cvC)[j]? = some cs[j]:=by
    rw[<-d,List.getElem?_take_of_lt (by rw[List.length_append,List.length_singleton];exact e),Array.getElem?_toList,Array.getElem?_eq_getElem (by omega)]
   rw[<-k,List.flatMap_append,List.flatMap_append];have h:(L.flatMap cvC).length=L.length*4:=by
    have:=a x;rw[List.flatMap_append,List.length_append]at this;have A:([x].flatMap cvC).length=4:=rfl;omega
   rw[List.getElem?_append_left (by rw[h];exact b),List.getElem?_append_left (by rw[h];exact b)]
  .obtain ⟨r,rfl⟩:∃r,j=L.length*4+r:=⟨j - L.length*4,by omega⟩;have c:r<4:=by omega
   rw[iY cvC 4 (fun _=>rfl) (L++[x']) L.length r x' (by simp) c];have i:=BN d t r c;rw[Array.getElem?_eq_getElem (by omega)]at i
   match r,c with
   | 0,_ =>
    rw[if_neg (by omega),if_neg (by omega),if_neg (by omega)];rw[i];show some (Value.int .i64 x.c.k)=some (Value.int .i64 x'.c.k);rw[q]
   | 1,_=>rw[if_pos rfl,n];rfl
   | 2,_=>rw[if_neg (by omega),if_pos rfl,o];rfl
   | 3,_=>rw[if_neg (by omega),if_neg (by omega),if_pos rfl,p];rfl
 .rw [List.getElem?_eq_none (by rw[List.length_take,rE,List.length_append,List.length_singleton];omega),List.getElem?_eq_none (by rw[a];omega)]
theorem Ea {B:Nat} {v:Value} (h:w.ownsRow B 168 4 v (L++[x]).length ((L++[x]).flatMap cvC)):∃b a cs,v=.slice (some ⟨b,0,none⟩) (L.length+1) a/\B<=b/\w.heap[b]? = some (.cells cs 168 (0,0))/\L.length+1<=a/\a<=maxLen/\cs.size=a*4/\cs.toList.take ((L++[x]).length*4)=(L++[x]).flatMap cvC:=by
 have l:(L++[x]).length=L.length+1:=by simp
 rcases h.2 with⟨-,c⟩ | ⟨b,a,cs,d,c,e,n,i,j,k⟩
 .omega
 .refine ⟨b,a,cs,by rw[d,l],c,e,by omega,i,j,k⟩
variable {gq:Nat} {line:B8} {zl zb za zs:Nat->Option Value}
theorem G5.begin {b:World} {e a:Nat} {old:Nat->Value} {d:Nat->List B8} (c:Ext b w) (u:b.heap[gq]? = some (.cells cs 168 (0,0))) (o:∀i,i<3->cs[a+1+i]? = some (old i)) (t:∀i,i<3->b.ownsRow e 9 1 (old i) (d i).length ((d i).map S8))
  (r:∀i j,i<3->j<3->i≠j->∀p,(old i).ownBlock=some p->(old j).ownBlock≠some p) (h:∀i,zl i=none) (k:∀i,zb i=none) (l:∀i,za i=none) (n:∀i,zs i=none):G5 b e gq a cs old d line zl zb za zs w :=
 G5.start c (c.row u) o (fun i q=>az (t i q) c) r h k l n
theorem G5.done {z t:World} {l:Nat} {n:List Cv} {i j k:Nat} {V:List Ck}
  (h:IsWk w0 z g vo va vb (.slice (some ⟨gq,0,none⟩) (n.length+1) l) ⟨i,j,k,V⟩ (n++[x])) (r:Grow w0 ws z n x) (B:z.heap[gq]? = some (.cells cs 168 (0,0))) (I:w0.heap.size<=gq) (S:n.length+1<=l) (G:l<=maxLen) (L:cs.size=l*4)
  (M:cs.toList.take ((n++[x]).length*4)=(n++[x]).flatMap cvC) (b:G5 z ws.heap.size gq (n.length*4) cs (p3 x.o x.a x.b undef) (p3 x.c.o x.c.a x.c.b []) line zl zb za zs t)
  (O:zs 0≠none) (P:zs 1≠none) (Q:zs 2≠none) (hb:x.c.o.length<=50000/\x.c.a.length<=50000/\x.c.b.length<=50000) :
  ∃W,IsWk w0 t g vo va vb (.slice (some ⟨gq,0,none⟩) (n.length+1) l) ⟨i,j,k,bC V line⟩ (n++[W])/\Grow w0 ws t n W:=by
 have X:=b.os 0 O;have Y:=b.os 1 P;have Z:=b.os 2 Q;refine⟨⟨ql x.c line,cw (p3 x.o x.a x.b undef) za 0,cw (p3 x.o x.a x.b undef) za 1,cw (p3 x.o x.a x.b undef) za 2⟩,?_⟩;have J:∀i,i<3->∀k,(p3 x.o x.a x.b undef i).ownBlock=some k->ws.heap.size<=k/\∃A,z.heap[k]? = some (.cells A 9 (0,0)):=fun i a k o=>bO (r.own i a) k o
 have E:∀k,k<w0.heap.size->t.heap[k]? = z.heap[k]?:=fun k o=>b.fr k (Nat.lt_of_lt_of_le o h.ext.size) (by omega) (fun i a e=>by
  have:=(J i a k e).1;have:=r.lo;omega)
 have N:Ext w0 t:=⟨b.ext.1.symm.trans h.ext.os,b.ext.2.1.symm.trans h.ext.tape,b.ext.2.2.1.symm.trans h.ext.output,Nat.le_trans h.ext.size b.ext.2.2.2,fun k o=>(E k o).trans (h.ext.block k o)⟩;have D:Keep 9 ws t:=⟨Nat.le_trans r.keep.1 b.ext.2.2.2,fun k c fr o=>by
  have q:=r.keep.2 k c fr o;have aa:=(Array.getElem?_eq_some_iff.1 o).1;rw[b.fr k (Array.getElem?_eq_some_iff.1 q).1 (fun e=>by subst e;rw[B]at q;simp at q) (fun i a e=>by
   have:=(J i a k e).1;omega)]
  exact q⟩
 have d:∀i,i<3->t.ownsRow ws.heap.size 9 1 (p3 (cw (p3 x.o x.a x.b undef) za 0) (cw (p3 x.o x.a x.b undef) za 1) (cw (p3 x.o x.a x.b undef) za 2) undef i) (p3 (x.c.o++[line]) (x.c.a++[line]) (x.c.b++[line]) [] i).length ((p3 (x.c.o++[line]) (x.c.a++[line]) (x.c.b++[line]) [] i).map S8):=fun i a=>by
  have u:=b.own i a
  match i,a with
  | 0,_=>rw[show gf (p3 x.c.o x.c.a x.c.b []) line za 0=x.c.o++[line]by unfold gf;rw[if_neg X];rfl]at u;exact u
  | 1,_=>rw[show gf (p3 x.c.o x.c.a x.c.b []) line za 1=x.c.a++[line]by unfold gf;rw[if_neg Y];rfl]at u;exact u
  | 2,_=>rw[show gf (p3 x.c.o x.c.a x.c.b []) line za 2=x.c.b++[line]by unfold gf;rw[if_neg Z];rfl]at u;exact u
 refine⟨⟨?_,?_,?_,fun y F=>?_,h.lo,N⟩,⟨r.rd,D,r.lo,d,fun i j a C H p K=>?_⟩⟩
 .rw [b.fr g (Array.getElem?_eq_some_iff.1 h.row).1 (fun e=>by have:=h.row;rw[e,B]at this;simp at this) (fun i a e=>by
   obtain⟨-,A,R⟩:=J i a g e;rw[h.row]at R;simp at R)]
  exact h.row
 .have T:(n++[(⟨ql x.c line,cw (p3 x.o x.a x.b undef) za 0,cw (p3 x.o x.a x.b undef) za 1,cw (p3 x.o x.a x.b undef) za 2⟩:Cv)]).length=n.length+1:=by simp
  have U:=Bm (x':=⟨ql x.c line,cw (p3 x.o x.a x.b undef) za 0,cw (p3 x.o x.a x.b undef) za 1,cw (p3 x.o x.a x.b undef) za 2⟩) (f:=eD (p3 x.o x.a x.b undef) za zs) M (by omega) rfl (by unfold eD;rw[if_neg O]) (by unfold eD;rw[if_neg P]) (by unfold eD;rw[if_neg Q]);refine⟨?_,.inr ⟨gq,l,_,by rw[T],I,b.row,by omega,G,by rw[dx];exact L,U⟩⟩;rw[<-U,List.length_take,rE,T];omega
 .rw [List.map_append];have:=h.eq;dsimp only at this;rw[<-this,List.map_append];exact(lK _ _ _).symm
 .rcases List.mem_append.1 F with F | F
  .exact (r.rd y F).keep D
  .obtain rfl:=List.mem_singleton.1 F;exact⟨RdTx.own (d 0 (by omega)) rfl (by show(x.c.o++[line]).length<=_;simp;omega),RdTx.own (d 1 (by omega)) rfl (by show(x.c.a++[line]).length<=_;simp;omega),RdTx.own (d 2 (by omega)) rfl (by show(x.c.b++[line]).length<=_;simp;omega)⟩
 .have e:∀i,i<3->(p3 (cw (p3 x.o x.a x.b undef) za 0) (cw (p3 x.o x.a x.b undef) za 1) (cw (p3 x.o x.a x.b undef) za 2) undef i)=cw (p3 x.o x.a x.b undef) za i:=fun i a=>match i,a with
   | 0,_=>rfl
   | 1,_=>rfl
   | 2,_=>rfl
  dsimp only at K ⊢;rw[e i a]at K;rw[e j C];exact b.ne i j a C H p K
end
end
section
open Go Go.RowKit Go.Sort
theorem ug {P w:World} {g U ga gb S ca cb:Nat} {E:Value} {s:Wk} {L:List Cv} {o a b:List B8} (gr:Bool)
  (h:IsWk P w g (slL U o.length S) (slL ga a.length ca) (slL gb b.length cb) E s L) (ho:IsHd P U S o) (hi:s.i<o.length) (hb:s.i<=1000/\s.j<=1000/\s.k<=1000) (c':o.length<=1000) (hL:L.length<=10000) (am:∀c∈s.out,c.o.length<=5000/\c.a.length<=5000/\c.b.length<=5000)
  (hG:gr=true->∃ws W x,L=W++[x]/\Grow P ws w W x) :
  Calls Tryz.prog 144 #[.pointer (some ⟨g,0,none⟩),.bool gr] w fun e V=>e=.returned (.tuple #[])/\∃bq ws W x,IsWk P V g (slL U o.length S) (slL ga a.length ca) (slL gb b.length cb) bq (eQ o s gr) (W++[x])/\Grow P ws V W x:=by
 have H:Hid _:=h;obtain⟨J,M,N,C⟩:=s;dsimp only at hi hb am;have bv:Hid _:=am;have HG:Hid _:=hG;obtain⟨D,X⟩:∃x,o.getD J []=x:=⟨_,rfl⟩;have a1:Hid (eQ o ⟨J,M,N,C⟩ gr=⟨J+1,M+1,N+1,bC (if gr=true then C else C++[⟨1,[],[],[]⟩]) D⟩):=by unfold Hid eQ;rw[<-X]
 have cf:Hid (∀V,Ext P V->V.cell? ⟨U,J,none⟩=some (S8 D)):=fun V hx=>by
  obtain⟨⟨a9,c9,e9,l1,l2,l3,hg⟩,ht⟩:=ho.ext hx;cases e9;obtain⟨bb,oo,e,hc⟩:=hg (fun h0=>by rw[List.map_eq_nil_iff]at h0;rw[h0]at hi;simp at hi);cases e;have h9:=hc J (S8 D) (by rw[List.getElem?_map,List.getElem?_eq_getElem hi,<-X,List.getD_eq_getElem?_getD,List.getElem?_eq_getElem hi];rfl)
  rwa [Nat.zero_add]at h9
 obtain⟨c8,c7⟩:o.length<=S/\S<=9223372036854775807:=by obtain⟨⟨_,_,e,l1,l2,-⟩,-⟩:=ho;cases e;exact⟨l1,l2⟩
 have ad:Hid _:=h.row;dsimp only at ad;clear h ho X am hG;have y0:=(cell_of_row _ _ 0 _ _ _ ad.out).trans rfl;have y3:=(cell_of_row _ _ 3 _ _ _ ad.out).trans rfl;unfold slL at y0;have b7:=cf.out w H.out.ext;have cp:(J:Int)<(o.length:Int):=by omega
 go_enter Tryz.func144,Tryz.ntmps144;go_upto_region 0 with fail;apply ak 10 [_,_,.pointer (some ⟨g,0,none⟩),.slice (some ⟨U,0,none⟩) o.length S,_,_,_,.int .i64 J,_,S8 D] [none,none,none,none,none,none,none,none,none,none] [[],[0],[1],[2],[],[4],[5],[6],[3,7],[8]] (by kernel_rfl) (by kernel_rfl) (by simp[aq])
 .trivial
 .simp (maxSteps:=1000000)only[List.take_succ_cons,List.take_zero,ay,aB,af,Act.put,List.setIfInBounds_toArray,List.set_cons_zero,List.set_cons_succ,aE,aH,aq,List.getD_cons_zero,List.getD_cons_succ,and_true,true_and,forall_const];and_intros
  iterate 10 · intro k r hq;intros;rename_i l;have f0:=hq.cell y0;have f3:=hq.cell y3;have f1:=hq.cell b7;go_simp;exact l _ _ (Ext.refl _) rfl
 intro k w2 bp p;simp only[aG,Nat.zero_add,Nat.reduceAdd,and_true]at p;simp(maxSteps:=1000000)only[List.take_succ_cons,List.take_zero,List.drop_succ_cons,List.drop_zero,af,Act.put,List.setIfInBounds_toArray,List.set_cons_zero,List.set_cons_succ,Nat.zero_add,Nat.reduceAdd,p];clear p;have a2:Hid (IsWk P w2 g (slL U o.length S) (slL ga a.length ca) (slL gb b.length cb) E ⟨J,M,N,C⟩ L):=H.out.more bp;have ba:Hid (gr=true->∃ws W x,L=W++[x]/\Grow P ws w2 W x):=fun e=>by
  obtain⟨ws,W,x,h1,h2⟩:=HG.out e;exact⟨ws,W,x,h1,h2.more bp⟩
 have ab:Hid _:=a2.out.row;dsimp only at ab;clear y0 y3 b7 cp bp;have cv:IntKind.i64.wrap ((J:Int)+1)=(J:Int)+1:=IntWalk.i64_in _ (by omega);have cx:IntKind.i64.wrap ((M:Int)+1)=(M:Int)+1:=IntWalk.i64_in _ (by omega);have c0:IntKind.i64.wrap ((N:Int)+1)=(N:Int)+1:=IntWalk.i64_in _ (by omega);go_upto_region 1 with fail;apply bJ 27 (fun z V=>S3 w2 g (slL U o.length S) (slL ga a.length ca) (slL gb b.length cb) E (p3 J M N 0) (p3 (z 6) (z 11) (z 16) none) (p3 (z 7) (z 12) (z 17) none) (p3 (z 20) (z 23) (z 26) none) V) [false,false,false,false,false,false,true,true,false,false,false,true,true,false,false,false,true,true,false,false,true,false,false,true,false,false,true] [_,_,_,_,_,.pointer (some ⟨g,3,none⟩),undef,undef,_,_,.pointer (some ⟨g,4,none⟩),undef,undef,_,_,.pointer (some ⟨g,5,none⟩),undef,undef,_,.pointer (some ⟨g,3,none⟩),undef,_,.pointer (some ⟨g,4,none⟩),undef,_,.pointer (some ⟨g,5,none⟩),undef] [none,none,none,none,none,none,none,none,none,none,none,none,none,none,none,none,none,none,none,none,none,none,none,none,none,none,none] [[],[],[],[],[3],[4],[5],[6],[],[8],[9],[10],[11],[],[13],[14],[15],[16],[0],[18],[7,19],[1],[21],[12,22],[2],[24],[17,25]] (by kernel_rfl) (by kernel_rfl) rfl
 .exact S3.start ⟨rfl,rfl,rfl,Nat.le_refl _,fun _ _ _=>rfl⟩ ab.out (fun i=>by match i with | 0=>rfl | 1=>rfl | 2=>rfl | _+3=>rfl) (fun i=>by match i with | 0=>rfl | 1=>rfl | 2=>rfl | _+3=>rfl) (fun i=>by match i with | 0=>rfl | 1=>rfl | 2=>rfl | _+3=>rfl)
 .simp (maxSteps:=1000000)only[fC,eR,dm,dM,eG,List.getD_cons_zero,List.getD_cons_succ,Bool.false_eq_true,if_false,if_true,and_true,true_and,forall_const,Nat.zero_add,Nat.reduceAdd,List.take_succ_cons,List.take_zero,af,Act.put,List.setIfInBounds_toArray,List.set_cons_zero,List.set_cons_succ];and_intros
  iterate 6 · intro k z r d;intros;rename_i l;go_simp;exact l _ _ d rfl
  .intro k z r d F p R l;have f:=(cell_of_row _ _ 3 _ _ _ d.row).trans (congrArg (fun n:Nat=>some (Value.int .i64 n)) (d.old 0 F));go_simp;exact l _ _ (d.Ha 0 (gz _ _ _ _ _))
  .intro k z r d F p R l;have e:k 6=.int .i64 (J:Int):=d.l 0 _ p;go_simp;exact l _ _ (d.G8 0 p (gz _ _ _ _ _))
  iterate 3 · intro k z r d;intros;rename_i l;go_simp;exact l _ _ d rfl
  .intro k z r d F p R l;have f:=(cell_of_row _ _ 4 _ _ _ d.row).trans (congrArg (fun n:Nat=>some (Value.int .i64 n)) (d.old 1 F));go_simp;exact l _ _ (d.Ha 1 (ib _ _ _ _ _))
  .intro k z r d F p R l;have e:k 11=.int .i64 (M:Int):=d.l 1 _ p;go_simp;exact l _ _ (d.G8 1 p (ib _ _ _ _ _))
  iterate 3 · intro k z r d;intros;rename_i l;go_simp;exact l _ _ d rfl
  .intro k z r d F p R l;have f:=(cell_of_row _ _ 5 _ _ _ d.row).trans (congrArg (fun n:Nat=>some (Value.int .i64 n)) (d.old 2 F));go_simp;exact l _ _ (d.Ha 2 (ie _ _ _ _ _))
  .intro k z r d F p R l;have e:k 16=.int .i64 (N:Int):=d.l 2 _ p;go_simp;exact l _ _ (d.G8 2 p (ie _ _ _ _ _))
  iterate 2 · intro k z r d;intros;rename_i l;go_simp;exact l _ _ d rfl
  .intro k z r d F p R l;obtain⟨y,A⟩:=p;obtain⟨e,B,u⟩:=d.G9 0 (by decide) y undef (zs':=p3 (some undef) (z 23) (z 26) none) (gz _ _ _ _ _);apply dE 3 (.tmp 35) (.tmp 23) (g:=g) (j:=3) (v:=k 7) (t:=196)
   iterate 2
    .rfl
   .exact A
   .rfl
   .rw [e];rfl
   .exact d.row
   .show _<=7;decide
   .kernel_rfl
   .exact B
   .exact l _ _ u
  iterate 2 · intro k z r d;intros;rename_i l;go_simp;exact l _ _ d rfl
  .intro k z r d F p R l;obtain⟨y,A⟩:=p;obtain⟨e,B,u⟩:=d.G9 1 (by decide) y undef (zs':=p3 (z 20) (some undef) (z 26) none) (ib _ _ _ _ _);apply dE 3 (.tmp 37) (.tmp 28) (g:=g) (j:=4) (v:=k 12) (t:=196)
   iterate 2
    .rfl
   .exact A
   .rfl
   .rw [e];rfl
   .exact d.row
   .show _<=7;decide
   .kernel_rfl
   .exact B
   .exact l _ _ u
  iterate 2 · intro k z r d;intros;rename_i l;go_simp;exact l _ _ d rfl
  .intro k z r d F p R l;obtain⟨y,A⟩:=p;obtain⟨e,B,u⟩:=d.G9 2 (by decide) y undef (zs':=p3 (z 20) (z 23) (some undef) none) (ie _ _ _ _ _);apply dE 3 (.tmp 39) (.tmp 33) (g:=g) (j:=5) (v:=k 17) (t:=196)
   iterate 2
    .rfl
   .exact A
   .rfl
   .rw [e];rfl
   .exact d.row
   .show _<=7;decide
   .kernel_rfl
   .exact B
   .exact l _ _ u
 intro k w3 ai p;simp only[fE,List.getD_cons_zero,List.getD_cons_succ,Bool.false_eq_true,if_false,if_true]at ai;simp only[df,Nat.zero_add,Nat.reduceAdd,and_true]at p;simp(maxSteps:=1000000)only[List.drop_succ_cons,List.drop_zero,Nat.zero_add,Nat.reduceAdd,List.take_succ_cons,List.take_zero,af,Act.put,List.setIfInBounds_toArray,List.set_cons_zero,List.set_cons_succ,p];clear p;generalize k 6=x6 at *;generalize k 7=x7 at *;generalize k 11=da at *;generalize k 12=dc at *;generalize k 16=c3 at *;generalize k 17=x17 at *;generalize k 20=c4 at *;generalize k 23=c5 at *;generalize k 26=c6 at *;have au:w3.heap[g]? = some (.cells (wkC (slL U o.length S) (slL ga a.length ca) (slL gb b.length cb) E (J+1) (M+1) (N+1)) 196 (0,0)):=ai.row;have aa:Hid (IsWk P w3 g (slL U o.length S) (slL ga a.length ca) (slL gb b.length cb) E ⟨J+1,M+1,N+1,C⟩ L):=a2.out.set _ _ _ ai.gr au;have bc:Hid (gr=true->∃ws W x,L=W++[x]/\Grow P ws w3 W x):=fun e=>by
  obtain⟨ws,W,x,h1,h2⟩:=ba.out e;exact⟨ws,W,x,h1,h2.set ab.out ai.gr⟩
 clear ai au cv cx c0;cases gr
 case' false =>
  have Q:Hid (IsWk P (w3.alloc (.cells #[.int .i64 1,.slice none 0 0,.slice none 0 0,.slice none 0 0] 168)) g (slL U o.length S) (slL ga a.length ca) (slL gb b.length cb) E ⟨J+1,M+1,N+1,C⟩ L):=aa.out.more ((Ext.refl _).alloc _);have y6:w3.cell? ⟨g,6,none⟩=some E:=(cell_of_row _ _ 6 _ _ _ aa.out.row).trans rfl;go_upto_region 4 with(first
   | (at_builtin;go_must (refine DB rfl _ _ rfl P.heap.size E L.length _ rfl Q.out.out w3.heap.size 1 1 (.slice none 0 0) (.slice none 0 0) (.slice none 0 0) rfl (fr:=(0,0)) (ah _ _) rfl rfl rfl (by omega) Q.out.ext.size ?_;intro vc w5 ao b5;have bk:Hid _:=ao;have bh:Hid _:=b5;clear ao b5))
   | (refine aP rfl 163 (.tmp 51) (.tmp 49) rfl g 6 rfl vc rfl (qF bk.out) _ (wkC (slL U o.length S) (slL ga a.length ca) (slL gb b.length cb) E (J+1) (M+1) (N+1)) (Q.out.Ho bh.out) (by show _<=7;decide) (by kernel_rfl) (wkC (slL U o.length S) (slL ga a.length ca) (slL gb b.length cb) vc (J+1) (M+1) (N+1)) rfl ?_;intro wc b6 a7;have b0:Hid _:=b6;have Z:Hid _:=a7;clear b6 a7))
  clear y6;obtain⟨G,a4⟩:∃G:Cv,G=⟨⟨1,[],[],[]⟩,.slice none 0 0,.slice none 0 0,.slice none 0 0⟩:=⟨_,rfl⟩;have a':Hid (IsWk P wc g (slL U o.length S) (slL ga a.length ca) (slL gb b.length cb) vc ⟨J+1,M+1,N+1,C++[⟨1,[],[],[]⟩]⟩ (L++[G])):=by
   rw[a4];have nl:RdTx (w3.alloc (.cells #[.int .i64 1,.slice none 0 0,.slice none 0 0,.slice none 0 0] 168)) (.slice none 0 0) []:=⟨⟨none,0,rfl,Nat.le_refl _,by omega,by simp,fun h=>absurd rfl h⟩,Typed.nil _ _ _ _⟩;exact(Q.out.app ⟨⟨1,[],[],[]⟩,.slice none 0 0,.slice none 0 0,.slice none 0 0⟩ bh.out bk.out ⟨nl,nl,nl⟩ Z.out b0.out).1
  obtain⟨oc,Y⟩:∃oc,oc=C++[⟨1,[],[],[]⟩]:=⟨_,rfl⟩;rw[<-Y]at a';obtain⟨q,T⟩:∃q,q=L:=⟨_,rfl⟩;obtain⟨K,av⟩:∃K:World,K=wc:=⟨_,rfl⟩;have HC:Hid (IsWk P wc g (slL U o.length S) (slL ga a.length ca) (slL gb b.length cb) vc ⟨J+1,M+1,N+1,oc⟩ (q++[G])):=by rw[T];exact a'
  have bi:Hid (Grow P K wc q G):=by rw[av];exact Grow.new HC.out a4
  have b1:Hid (eQ o ⟨J,M,N,C⟩ false=⟨J+1,M+1,N+1,bC oc D⟩):=by
   unfold Hid;rw[a1.out,if_neg (by simp),Y]
  have a5:G.c.o.length<=5000/\G.c.a.length<=5000/\G.c.b.length<=5000:=by rw[a4];exact⟨Nat.zero_le _,Nat.zero_le _,Nat.zero_le _⟩
  have cl:q.length<=10000:=by rw[T];exact hL
  have b':K.heap.size<=wc.heap.size:=by rw[av];exact Nat.le_refl _
  clear a4 Y T av a' Q aa bc a2 ba a1 bk bh Z b0
 case' true =>
  go_upto_region 4 with fail;obtain⟨K,q,G,T,bm⟩:=bc.out rfl;obtain⟨wc,rfl⟩:∃wc:World,wc=w3:=⟨_,rfl⟩;obtain⟨oc,Y⟩:∃oc,oc=C:=⟨_,rfl⟩;obtain⟨vc,rfl⟩:∃vc,vc=E:=⟨_,rfl⟩;have HC:Hid (IsWk P wc g (slL U o.length S) (slL ga a.length ca) (slL gb b.length cb) vc ⟨J+1,M+1,N+1,oc⟩ (q++[G])):=by rw[<-T,Y];exact aa.out
  have bi:Hid (Grow P K wc q G):=bm;have b1:Hid (eQ o ⟨J,M,N,C⟩ true=⟨J+1,M+1,N+1,bC oc D⟩):=by
   unfold Hid;rw[a1.out,if_pos rfl,Y]
  have a5:G.c.o.length<=5000/\G.c.a.length<=5000/\G.c.b.length<=5000:=bv.out G.c (by
   have h9:=aa.out.eq;dsimp only at h9;rw[<-h9,T];simp)
  have cl:q.length<=10000:=by rw[T,List.length_append]at hL;omega
  have b':K.heap.size<=wc.heap.size:=bm.keep.1;clear bm Y T aa bc a2 ba a1
 all_goals
  obtain⟨I,a3,cs,rfl,cq,b4,b3,cm,cu,b9⟩:=Ea HC.out.out;have b2:Hid _:=b9;have bs:Hid _:=b4;have y6:wc.cell? ⟨g,6,none⟩=some (.slice (some ⟨I,0,none⟩) (q.length+1) a3):=(cell_of_row _ _ 6 _ _ _ HC.out.row).trans rfl;have c1:IntKind.i64.wrap ((q.length:Int)+1 - 1)=(q.length:Int):=by rw[IntWalk.i64_in _ (by omega)];omega
  have c2:IntKind.i64.wrap (q.length:Int)=(q.length:Int):=IntWalk.i64_in _ (by omega);have b8:(q.length:Int)<(q.length:Int)+1:=by omega
  clear b9 b4;apply ak 11 [_,_,.pointer (some ⟨g,6,none⟩),.slice (some ⟨I,0,none⟩) (q.length+1) a3,_,_,.pointer (some ⟨g,6,none⟩),.slice (some ⟨I,0,none⟩) (q.length+1) a3,_,.int .i64 q.length,.pointer (some ⟨I,q.length*4,none⟩)] [none,none,none,none,none,none,none,none,none,none,none] [[],[0],[1],[2],[],[4],[5],[6],[7],[8],[3,9]] (by kernel_rfl) (by kernel_rfl) (by simp[aq])
  .trivial
  .simp (maxSteps:=1000000)only[List.take_succ_cons,List.take_zero,ay,aB,af,Act.put,List.setIfInBounds_toArray,List.set_cons_zero,List.set_cons_succ,aE,aH,aq,List.getD_cons_zero,List.getD_cons_succ,and_true,true_and,forall_const];and_intros
   iterate 11 · intro k r hq;intros;rename_i l;have f6:=hq.cell y6;go_simp;exact l _ _ (Ext.refl _) rfl
  intro k w6 a0 p;simp only[aG,Nat.zero_add,Nat.reduceAdd,and_true]at p;simp(maxSteps:=1000000)only[List.take_succ_cons,List.take_zero,List.drop_succ_cons,List.drop_zero,af,Act.put,List.setIfInBounds_toArray,List.set_cons_zero,List.set_cons_succ,Nat.zero_add,Nat.reduceAdd,p];clear p;have cc:Hid (IsWk P w6 g (slL U o.length S) (slL ga a.length ca) (slL gb b.length cb) (.slice (some ⟨I,0,none⟩) (q.length+1) a3) ⟨J+1,M+1,N+1,oc⟩ (q++[G])):=HC.out.more a0;have Z:Hid (Grow P K w6 q G):=bi.out.more a0;have a6:Hid (w6.heap[I]? = some (.cells cs 168 (0,0))):=a0.row bs.out;have O:Hid (q.length*4+3<cs.size):=by unfold Hid;omega
  have ag:Hid (K.heap.size<=w6.heap.size):=Nat.le_trans b' a0.size;have ce:Hid (∀i,i<3->cs[q.length*4+1+i]? = some (p3 G.o G.a G.b undef i)):=fun i hi=>by
   have h9:=BN b2.out (by omega) (1+i) (by omega);rw[<-Nat.add_assoc]at h9;rw[h9]
   match i,hi with
   | 0,_=>rfl
   | 1,_=>rfl
   | 2,_=>rfl
  clear y6 c1 c2 b8 a0 HC bi bs;go_upto_region 5 with fail;apply bJ 33 (fun z V=>G5 w6 K.heap.size I (q.length*4) cs (p3 G.o G.a G.b undef) (p3 G.c.o G.c.a G.c.b []) D (p3 (z 6) (z 13) (z 20) none) (p3 (z 8) (z 15) (z 22) none) (p3 (z 9) (z 16) (z 23) none) (p3 (z 26) (z 29) (z 32) none) V) [false,false,false,false,false,false,true,false,true,true,false,false,false,true,false,true,true,false,false,false,true,false,true,true,false,false,true,false,false,true,false,false,true] [_,_,_,_,.pointer (some ⟨I,q.length*4,none⟩),.pointer (some ⟨I,q.length*4+1,none⟩),undef,S8 D,undef,undef,_,.pointer (some ⟨I,q.length*4,none⟩),.pointer (some ⟨I,q.length*4+2,none⟩),undef,S8 D,undef,undef,_,.pointer (some ⟨I,q.length*4,none⟩),.pointer (some ⟨I,q.length*4+3,none⟩),undef,S8 D,undef,undef,.pointer (some ⟨I,q.length*4,none⟩),.pointer (some ⟨I,q.length*4+1,none⟩),undef,.pointer (some ⟨I,q.length*4,none⟩),.pointer (some ⟨I,q.length*4+2,none⟩),undef,.pointer (some ⟨I,q.length*4,none⟩),.pointer (some ⟨I,q.length*4+3,none⟩),undef] [none,none,none,none,none,none,none,none,none,none,none,none,none,none,none,none,none,none,none,none,none,none,none,none,none,none,none,none,none,none,none,none,none] [[],[],[],[],[3],[4],[5],[],[7],[6,8],[],[10],[11],[12],[],[14],[13,15],[],[17],[18],[19],[],[21],[20,22],[0],[24],[9,25],[1],[27],[16,28],[2],[30],[23,31]] (by kernel_rfl) (by kernel_rfl) rfl
  .exact G5.begin ⟨rfl,rfl,rfl,Nat.le_refl _,fun _ _=>rfl⟩ a6.out ce.out Z.out.own Z.out.ne (fun i=>by match i with | 0=>rfl | 1=>rfl | 2=>rfl | _+3=>rfl) (fun i=>by match i with | 0=>rfl | 1=>rfl | 2=>rfl | _+3=>rfl) (fun i=>by match i with | 0=>rfl | 1=>rfl | 2=>rfl | _+3=>rfl) (fun i=>by match i with | 0=>rfl | 1=>rfl | 2=>rfl | _+3=>rfl)
  .simp (maxSteps:=1000000)only[fC,eR,dm,dM,eG,List.getD_cons_zero,List.getD_cons_succ,Bool.false_eq_true,if_false,if_true,and_true,true_and,forall_const,Nat.zero_add,Nat.reduceAdd,List.take_succ_cons,List.take_zero,af,Act.put,List.setIfInBounds_toArray,List.set_cons_zero,List.set_cons_succ];and_intros
   iterate 6 · intro k z r d;intros;rename_i l;go_simp;exact l _ _ d rfl
   .intro k z r d F p R l;have f:r.cell? ⟨I,q.length*4+1,none⟩=some G.o:=d.cell 0 (by decide) O.out F;go_simp;exact l _ _ (d.Ha 0 (gz _ _ _ _ _))
   .intro k z r d;intros;rename_i l;go_simp;exact l _ _ d rfl
   .intro k z r d F p R l;go_simp;exact l _ _ (d.Hh 0 (gz _ _ _ _ _))
   .intro k z r d F p R l;obtain⟨y,A⟩:=p;obtain⟨v',V,hr,u⟩:=d.G8 0 (by decide) y A F (Nat.le_trans a5.1 (by decide)) ag.out;apply ez (.tmp 69) (.tmp 71) 38 38 (v:=k 6) (xv:=k 8) (v':=v') (w':=V)
    iterate 4
     .rfl
    .exact hr
    .exact l _ _ (u _ (gz _ _ _ _ _))
   iterate 3 · intro k z r d;intros;rename_i l;go_simp;exact l _ _ d rfl
   .intro k z r d F p R l;have f:r.cell? ⟨I,q.length*4+2,none⟩=some G.a:=d.cell 1 (by decide) O.out F;go_simp;exact l _ _ (d.Ha 1 (ib _ _ _ _ _))
   .intro k z r d;intros;rename_i l;go_simp;exact l _ _ d rfl
   .intro k z r d F p R l;go_simp;exact l _ _ (d.Hh 1 (ib _ _ _ _ _))
   .intro k z r d F p R l;obtain⟨y,A⟩:=p;obtain⟨v',V,hr,u⟩:=d.G8 1 (by decide) y A F (Nat.le_trans a5.2.1 (by decide)) ag.out;apply ez (.tmp 76) (.tmp 78) 38 38 (v:=k 13) (xv:=k 15) (v':=v') (w':=V)
    iterate 4
     .rfl
    .exact hr
    .exact l _ _ (u _ (ib _ _ _ _ _))
   iterate 3 · intro k z r d;intros;rename_i l;go_simp;exact l _ _ d rfl
   .intro k z r d F p R l;have f:r.cell? ⟨I,q.length*4+3,none⟩=some G.b:=d.cell 2 (by decide) O.out F;go_simp;exact l _ _ (d.Ha 2 (ie _ _ _ _ _))
   .intro k z r d;intros;rename_i l;go_simp;exact l _ _ d rfl
   .intro k z r d F p R l;go_simp;exact l _ _ (d.Hh 2 (ie _ _ _ _ _))
   .intro k z r d F p R l;obtain⟨y,A⟩:=p;obtain⟨v',V,hr,u⟩:=d.G8 2 (by decide) y A F (Nat.le_trans a5.2.2 (by decide)) ag.out;apply ez (.tmp 83) (.tmp 85) 38 38 (v:=k 20) (xv:=k 22) (v':=v') (w':=V)
    iterate 4
     .rfl
    .exact hr
    .exact l _ _ (u _ (ie _ _ _ _ _))
   iterate 2 · intro k z r d;intros;rename_i l;go_simp;exact l _ _ d rfl
   .intro k z r d F p R l;obtain⟨y,A⟩:=p;obtain⟨e,B,u⟩:=d.G9 0 (by decide) y O.out undef (zs':=p3 (some undef) (z 29) (z 32) none) (gz _ _ _ _ _);apply dE 38 (.tmp 88) (.tmp 72) (g:=I) (j:=q.length*4+1) (v:=k 9) (t:=168)
    iterate 2
     .rfl
    .exact A
    .rfl
    .exact e
    .exact d.row
    .have h9:=O.out;rw[dx];omega
    .kernel_rfl
    .exact B
    .exact l _ _ u
   iterate 2 · intro k z r d;intros;rename_i l;go_simp;exact l _ _ d rfl
   .intro k z r d F p R l;obtain⟨y,A⟩:=p;obtain⟨e,B,u⟩:=d.G9 1 (by decide) y O.out undef (zs':=p3 (z 26) (some undef) (z 32) none) (ib _ _ _ _ _);apply dE 38 (.tmp 90) (.tmp 79) (g:=I) (j:=q.length*4+2) (v:=k 16) (t:=168)
    iterate 2
     .rfl
    .exact A
    .rfl
    .exact e
    .exact d.row
    .have h9:=O.out;rw[dx];omega
    .kernel_rfl
    .exact B
    .exact l _ _ u
   iterate 2 · intro k z r d;intros;rename_i l;go_simp;exact l _ _ d rfl
   .intro k z r d F p R l;obtain⟨y,A⟩:=p;obtain⟨e,B,u⟩:=d.G9 2 (by decide) y O.out undef (zs':=p3 (z 26) (z 29) (some undef) none) (ie _ _ _ _ _);apply dE 38 (.tmp 92) (.tmp 86) (g:=I) (j:=q.length*4+3) (v:=k 23) (t:=168)
    iterate 2
     .rfl
    .exact A
    .rfl
    .exact e
    .exact d.row
    .have h9:=O.out;rw[dx];omega
    .kernel_rfl
    .exact B
    .exact l _ _ u
  intro k w7 bo p;simp only[fE,List.getD_cons_zero,List.getD_cons_succ,Bool.false_eq_true,if_false,if_true]at bo;simp only[df,Nat.zero_add,Nat.reduceAdd,and_true]at p;simp(maxSteps:=1000000)only[List.drop_succ_cons,List.drop_zero,Nat.zero_add,Nat.reduceAdd,List.take_succ_cons,List.take_zero,af,Act.put,List.setIfInBounds_toArray,List.set_cons_zero,List.set_cons_succ,p];clear p;generalize k 6=x6 at *;generalize k 8=x8 at *;generalize k 9=x9 at *;generalize k 13=dk at *;generalize k 15=dn at *;generalize k 16=c3 at *;generalize k 20=c4 at *;generalize k 22=dp at *;generalize k 23=c5 at *;generalize k 26=c6 at *;generalize k 29=dq at *;generalize k 32=ds at *;obtain⟨x',h1,h2⟩:=G5.done cc.out Z.out a6.out cq b3 cm cu b2.out bo (by simp[p3]) (by simp[p3]) (by simp[p3]) ⟨by omega,by omega,by omega⟩;have ci:Hid _:=h1;have ab:Hid _:=h2;clear h1 h2 bo;go_wp2_with fail
  go_end0
  exact⟨rfl,_,_,_,x',by rw[b1.out];exact ci.out,ab.out⟩
end
section
open Go Go.RowKit Go.Sort
def fR (m:Nat) (l:List Ck):Prop:=∀c∈l,c.o.length<=m/\c.a.length<=m/\c.b.length<=m
theorem qu (l:List B8) (i j:Nat):(bQ l i j).length<=l.length:=by unfold bQ;rw[List.length_take,List.length_drop];omega
variable {m:Nat} {o a b:List B8}
theorem qr {w:Wk} (h:fR m w.out) (l:o.length<=m) (e:a.length<=m) (g:b.length<=m) (i j k:Nat):fR m (toW o a b w i j k).out:=by
 unfold toW;dsimp only;split
 .intro c d;rcases List.mem_append.1 d with d | d
  .exact h c d
  .obtain rfl:=List.mem_singleton.1 d;exact⟨Nat.le_trans (qu _ _ _) l,Nat.le_trans (qu _ _ _) e,Nat.le_trans (qu _ _ _) g⟩
 .exact h
theorem lO {m:Nat} {x:B8}:∀ {l:List Ck},fR m l->fR (m+1) (bC l x)
 | [],h=>fun c g=>by cases g
 | [d],h=>fun c g=>by
  obtain rfl:=List.mem_singleton.1 g;have:=h d List.mem_cons_self;refine⟨?_,?_,?_⟩
  .show (d.o++[x]).length<=_;simp;omega
  .show (d.a++[x]).length<=_;simp;omega
  .show (d.b++[x]).length<=_;simp;omega
 | d::e::l,h=>fun c g=>by
  unfold bC at g;rcases List.mem_cons.1 g with rfl | g
  .have:=h c List.mem_cons_self;omega
  .exact lO (fun y i=>h y (List.mem_cons_of_mem _ i)) c g
theorem sT {l:List Ck} (h:fR m l):fR m (l++[⟨1,[],[],[]⟩]):=fun c d=>by
 rcases List.mem_append.1 d with d | d
 .exact h c d
 .obtain rfl:=List.mem_singleton.1 d;exact⟨Nat.zero_le _,Nat.zero_le _,Nat.zero_le _⟩
theorem ye {p q:List Int} {s:Wk×Bool} (h:fR m s.1.out) (i:o.length<=m) (d:a.length<=m) (e:b.length<=m) (n:Nat):fR (m+1) (dV o a b p q s n).1.out:=by
 unfold dV;split
 .intro c g;have:=h c g;omega
 .split
  .exact lO (sT (qr h i d e _ _ _))
  .show fR (m+1) (bC _ _);refine lO ?_;split
   .exact h
   .exact sT h
theorem ju (o a b:List B8) (n:Nat):ck o a b (n+1)=dV o a b (bE o.length (aL o a 0 0)) (bE o.length (aL o b 0 0)) (ck o a b n) n:=by
 unfold ck;rw[List.range_succ,List.foldl_append];rfl
theorem kW (o a b:List B8) (k:o.length<=1000) (g:a.length<=1000) (i:b.length<=1000):∀n,n<=o.length->qi o a b (bE o.length (aL o a 0 0)) (bE o.length (aL o b 0 0)) n (ck o a b n)/\fR (1000+n) (ck o a b n).1.out
 | 0,_=>⟨BI _ _ _ _ _,fun c j=>by cases j⟩
 | n+1,h=>by
  obtain⟨d,e⟩:=kW o a b k g i n (by omega);rw[ju];exact⟨Do (i' o a) (i' o b) d (by omega),ye e (by omega) (by omega) (by omega) n⟩
def ChunksR (w w':World) (o a b:List B8) (e:Ending):Prop :=
 if 200<o.length\/200<a.length\/200<b.length then e=.returned (.tuple #[.slice none 0 0,.int .i64 14])
 else ∃(v:Value) (L:List Cv),e=.returned (.tuple #[v,.int .i64 0])/\w'.ownsRow w.heap.size 168 4 v L.length (L.flatMap cvC)/\(∀x∈L,RdCv w' x)/\L.map Cv.c=dB o a b
variable {w w':World} {e:Ending}
theorem ChunksR.bad (h:200<o.length\/200<a.length\/200<b.length) (c:e=.returned (.tuple #[.slice none 0 0,.int .i64 14])):ChunksR w w' o a b e:=by unfold ChunksR;rw[if_pos h];exact c
theorem ChunksR.Ht (h:¬(200<o.length\/200<a.length\/200<b.length)) {v:Value} {L:List Cv} (i:e=.returned (.tuple #[v,.int .i64 0])) (c:w'.ownsRow w.heap.size 168 4 v L.length (L.flatMap cvC)) (d:∀x∈L,RdCv w' x) (g:L.map Cv.c=dB o a b):ChunksR w w' o a b e:=by unfold ChunksR;rw[if_neg h];exact⟨v,L,i,c,d,g⟩
variable {g:Nat}
theorem RowJ.cell {b:World} {n:Nat} {f:Nat->Int} (h:RowJ b w g n f) {i:Nat} (a:i<n):w.cell? ⟨g,i,none⟩=some (.int .i64 (f i)) :=
 (cell_of_row _ _ i _ _ _ h.row).trans (vV a)
theorem IsHd.strs {c:Nat} {l:List B8} (h:IsHd w g c l):IsStrs w (slL g l.length c) l:=h.1
end
end Go.Proofs.YtgfegpnmlkdjfaaGreatDoor
