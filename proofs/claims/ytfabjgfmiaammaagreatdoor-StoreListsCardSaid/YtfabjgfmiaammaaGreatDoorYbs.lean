/- Contracts of the program's functions and plain laws behind the card. Conditions: as each theorem states. -/
import Derived.Test.YtfabjgfmiaammaaGreatDoorYbn
import Derived.Test.YtfabjgfmiaammaaGreatDoorYbl
import Derived.Test.YtfabjgfmiaammaaGreatDoorYbq
import Derived.Test.YtfabjgfmiaammaaGreatDoorYbj
import Derived.Test.YtfabjgfmiaammaaGreatDoorYbk
import Derived.Test.YtfabjgfmiaammaaGreatDoorYbc
import Derived.Deep.QuietTactic
import Derived.BigQuiet
set_option linter.unusedVariables false
set_option linter.unusedSimpArgs false
set_option linter.unusedSectionVars false
set_option maxRecDepth 100000
set_option maxHeartbeats 64000000
namespace Go.Proofs.YtfabjgfmiaammaaGreatDoor
section
open Go Go.RowKit
structure ApC (wB:World) (e:TypeId) (size base:Nat) (v:Value) (n:Nat) (cs news:List Value) (keep:List (Nat×Obj)) (zl za:Option Value) (w:World):Prop where
 kp:∀k o,(k,o)∈keep->w.heap[k]? = some o
 Cp:za=none->w.ownsRow base e size v n cs
 Cv:∀u,za=some u->w.ownsRow base e size u (n+1) (cs++news)
 lit:∀u,zl=some u->za=none->∃gl,u=.slice (some ⟨gl,0,none⟩) 1 1/\base<=gl/\w.heap[gl]? = some (.cells news.toArray e (0,0))
 sz:base<=w.heap.size
 ext:Ext wB w
section
variable {wB w w':World} {e:TypeId} {size base:Nat} {v:Value} {n:Nat} {cs news:List Value} {keep:List (Nat×Obj)} {zl za:Option Value}
theorem ApC.start (c:∀k o,(k,o)∈keep->w.heap[k]? = some o) (d:w.ownsRow base e size v n cs) (g:base<=w.heap.size) (h:Ext wB w) (a:Ext w w'):ApC wB e size base v n cs news keep none none w' :=
 ⟨fun k o i=>Ext.row a (c k o i),fun _=>am d a,fun u b=>(by cases b),fun u b=>(by cases b),Nat.le_trans g a.size,h.trans a⟩
variable {x1 x2 x3:Nat} {o1 o2 o3:Obj}
theorem ApC.k1 (h:ApC wB e size base v n cs news [(x1,o1),(x2,o2),(x3,o3)] zl za w):w.heap[x1]? = some o1:=h.kp _ _ (by simp)
theorem ApC.k2 (h:ApC wB e size base v n cs news [(x1,o1),(x2,o2),(x3,o3)] zl za w):w.heap[x2]? = some o2:=h.kp _ _ (by simp)
theorem ApC.k3 (h:ApC wB e size base v n cs news [(x1,o1),(x2,o2),(x3,o3)] zl za w):w.heap[x3]? = some o3:=h.kp _ _ (by simp)
theorem ApC.Cx (h:ApC wB e size base v n cs news keep none za w):ApC wB e size base v n cs news keep (some (.slice (some ⟨w.heap.size,0,none⟩) 1 1)) za (w.alloc (.cells news.toArray e)):=by
 have a:Ext w (w.alloc (.cells news.toArray e)):=(Ext.refl w).alloc _;exact⟨fun k o d=>Ext.row a (h.kp k o d),fun c=>am (h.Cp c) a,fun u b=>am (h.Cv u b) a,fun u b c=>(by cases b;exact⟨_,rfl,h.sz,ae _ _⟩),Nat.le_trans h.sz a.size,h.ext.trans a⟩
theorem ApC.app {u:Value} {T:TypeId} {z:Value} {bytes:Nat} (h:ApC wB e size base v n cs news keep zl none w) (a:zl=some u) (D:wB.heap.size<=base) (q:∀k o,(k,o)∈keep->k<base)
  (I:Tryz.prog.underlying T=some (.slice e)) (b:(Tryz.prog.info? e).map (fun i=>(i.zero,i.size,i.bytes))=some (some z,size,bytes)) (x:z.cells.size=size) (r:0<size) (G:news.length=1*size) (B:∀u∈news,u.oneCell'=true) (E:(n+1)*bytes<=140737488355328) (p:n+1<=1000000000) :
  ∃g w',(Builtin.append_ #[T,T] T #[v,u]).run Tryz.prog w=.ok g w'/\ApC wB e size base v n cs news keep zl (some g) w':=by
 obtain⟨J,rfl,F,d⟩:=h.lit u a rfl;obtain⟨g,w',H,C,l,K⟩:=gK T e z size bytes I b x r base v n cs (h.Cp rfl) _ 1 news (Row.new d (by decide) _ rfl) G B E p h.sz;have c:∀k,v.ownBlock=some k->base<=k:=fun k a=>((h.Cp rfl).lt k a).1
 have j:∀k o,k<base->w.heap[k]? = some o->w'.heap[k]? = some o:=fun k o a y=>(l.block k (Array.getElem?_eq_some_iff.1 y).1 (fun e=>by have:=c k e.symm;omega)).trans y
 exact⟨g,w',H,fun k o a=>j k o (q k o a) (h.kp k o a),fun t=>(by cases t),fun u A=>(by cases A;exact C),fun u A t=>(by cases t),Nat.le_trans h.sz l.size,Below.grown h.ext l h.ext.size (fun k a=>Nat.le_trans D (c k a))⟩
end
theorem uR {α:Type} {l:List α} {k:Nat} {e:α} (h:l[k]? = some e):l.take (k+1)=l.take k++[e]:=by rw[List.take_add_one,h];rfl
theorem u9 (w:World) (a b:Obj):((w.alloc a).alloc b).heap[w.heap.size]? = some a/\((w.alloc a).alloc b).heap[w.heap.size+1]? = some b/\Ext w ((w.alloc a).alloc b)/\((w.alloc a).alloc b).heap.size=w.heap.size+1+1:=by
 have c:=dO w a;have d:=dO (w.alloc a) b;have e:Ext (w.alloc a) ((w.alloc a).alloc b):=(Ext.refl _).alloc _;refine⟨Ext.row e (ae w a),?_,((Ext.refl w).alloc a).alloc b,by rw[d,c]⟩;have h:=ae (w.alloc a) b
 rwa [c]at h
structure PlS (w:World) (gb g2 g3:Nat) (cb c2 c3:Array Value) (v:Value) (n:Nat) (cs:List Value) (wr:World):Prop where
 rb:wr.heap[gb]? = some (.cells cb 41 (0,0))
 r2:wr.heap[g2]? = some (.cells c2 95 (0,0))
 r3:wr.heap[g3]? = some (.cells c3 95 (0,0))
 own:wr.ownsRow (g3+1) 138 3 v n cs
 sz:g3+1<=wr.heap.size
 ext:Ext w wr
 lt:w.heap.size=gb/\gb+1=g2/\g2+1=g3
theorem PlS.put {w wr:World} {g e a:Nat} {cb c d c6:Array Value} {v:Value} {n:Nat} {cs:List Value} (h:PlS w g e a cb c d v n cs wr) (j:Nat) (x:Value) (i:d.setIfInBounds j x=c6):PlS w g e a cb c c6 v n cs (wr.setCell ⟨a,j,none⟩ x):=by
 obtain⟨p,q,r⟩:=h.lt;have b:=aH wr a j x;refine⟨aV b h.rb (by omega),aV b h.r2 (by omega),?_,h.own.kept b ?_,Nat.le_trans h.sz b.size,Ext.but h.ext b (by omega),h.lt⟩
 .rw [heap_setCell_same wr a j _ _ _ h.r3,i]
 .cases o:v.ownBlock with
  | none=>exact .inl rfl
  | some k=>exact .inr (fun l=>by cases l;have:=(h.own.lt _ o).1;omega)
theorem oe (v:Value) (o:Ob) (w:World) (hv:IsOb w v o) (bs:o.items.length<=1000000) :
  Calls Tryz.prog 34 #[v] w fun e w'=>(∃u,e=.returned u/\IsOb w' u o)/\Ext w w':=by
 obtain⟨vd,vi,vp,rfl,d1,d2,d3⟩:=hv;have D1:Hid (IsBytes w vd o.data):=d1;have D3:Hid (IsStrs w vp o.parents):=d3;obtain⟨d,j,rfl,t1,t2,t3,-⟩:=id d1.get;obtain⟨ia,Y,rfl,s1,s2,s3,hi⟩:=id d2.get;obtain⟨l,p,rfl,r1,r2,r3,-⟩:=id d3.get;have HI:Hid _:=hi;clear d1 d2 d3 hi;obtain⟨O,H⟩:∃O,O=(w.alloc (.cells (obC o.kind (.slice d o.data.length j) (.slice ia o.items.length Y) o.tree (.slice l o.parents.length p) o.BU o.BS o.msg) 41)).alloc (.cells (obC 0 (.slice none 0 0) (.slice none 0 0) [] (.slice none 0 0) 0 0 []) 95):=⟨_,rfl⟩;obtain⟨a1,a2,W,t⟩:=u9 w (.cells (obC o.kind (.slice d o.data.length j) (.slice ia o.items.length Y) o.tree (.slice l o.parents.length p) o.BU o.BS o.msg) 41) (.cells (obC 0 (.slice none 0 0) (.slice none 0 0) [] (.slice none 0 0) 0 0 []) 95);rw[<-H]at a1 a2 W t;obtain⟨M,U⟩:∃g,w.heap.size=g:=⟨_,rfl⟩;have a7:Hid (w.heap.size=M):=U;rw[U]at a1 a2 t;obtain⟨y,T⟩:∃g,M+1=g:=⟨_,rfl⟩;have a6:Hid (M+1=y):=T;rw[T]at a2 t;have Q:Hid _:=a1;have aa:Hid _:=a2;have a0:Hid (Ext w O):=W;have au:Hid (O.heap.size=y+1):=t;unfold obC at H;clear a1 a2 W t;go_enter Tryz.func34,Tryz.ntmps34;go_upto_region 1 with fail;rw[<-H];clear H U T;obtain⟨c0,c1,c2,c3,c4,c5,c6,c7⟩:=ah Q.out;have t:=au.out;go_upto_region 2 with fail;obtain⟨w3,B⟩:∃w3,w3=O.alloc (.cells (obC o.kind (.slice d o.data.length j) (.slice none 0 0) o.tree (.slice l o.parents.length p) o.BU o.BS o.msg) 95):=⟨_,rfl⟩;have I:Ext O w3:=by rw[B];exact(Ext.refl _).alloc _
 have G:w3.heap[O.heap.size]? = some (.cells (obC o.kind (.slice d o.data.length j) (.slice none 0 0) o.tree (.slice l o.parents.length p) o.BU o.BS o.msg) 95 (0,0)):=by rw[B];exact ae _ _
 have V:w3.heap.size=O.heap.size+1:=by rw[B];exact dO _ _
 unfold obC at B;rw[<-B];clear B;rw[t]at G V;obtain⟨F,a4⟩:∃g,y+1=g:=⟨_,rfl⟩;rw[a4]at G V ⊢;have HS:Hid (PlS w M y F (obC o.kind (.slice d o.data.length j) (.slice ia o.items.length Y) o.tree (.slice l o.parents.length p) o.BU o.BS o.msg) (obC 0 (.slice none 0 0) (.slice none 0 0) [] (.slice none 0 0) 0 0 []) (obC o.kind (.slice d o.data.length j) (.slice none 0 0) o.tree (.slice l o.parents.length p) o.BU o.BS o.msg) (.slice none 0 0) 0 [] w3) :=
  ⟨Ext.row I Q.out,Ext.row I aa.out,G,World.ownsRow_nil _ _ _ _,by omega,a0.out.trans I,by have:=a7.out;have:=a6.out;omega⟩
 clear c0 c1 c2 c3 c4 c5 c6 c7 t I G V a4 Q aa a0 au;go_wp2_with fail;go_loopw [4] (fun i wr=>∃(k:Nat) (v:Value),k<=o.items.length/\i=.int .i64 k/\Hid (PlS w M y F (obC o.kind (.slice d o.data.length j) (.slice ia o.items.length Y) o.tree (.slice l o.parents.length p) o.BU o.BS o.msg) (obC 0 (.slice none 0 0) (.slice none 0 0) [] (.slice none 0 0) 0 0 []) (obC o.kind (.slice d o.data.length j) v o.tree (.slice l o.parents.length p) o.BU o.BS o.msg) v k ((o.items.take k).flatMap itC) wr)) (fun i _=>o.items.length - (intOf i).toNat)
 case atStart=>exact⟨0,.slice none 0 0,Nat.zero_le _,rfl,HS.out⟩
 case round =>
 obtain⟨k,v,A,rfl,q⟩:=hrel
 by_cases bq:k<o.items.length
 .obtain ⟨x,hx⟩:∃x,o.items[k]? = some x:=⟨_,List.getElem?_eq_getElem bq⟩;obtain⟨bb,oo,rfl,h0,h1,h2⟩:=HI.out k x hx;have a8:Hid _:=hx;have Y0:Hid _:=h0;have Y1:Hid _:=h1;have Y2:Hid _:=h2;have b2:=(ah q.out.rb).2.2.1;obtain⟨l1,l2,l3⟩:=q.out.lt;have ad:Hid (∀k Z,(k,Z)∈[(M,Obj.cells (obC o.kind (.slice d o.data.length j) (.slice (some ⟨bb,oo,none⟩) o.items.length Y) o.tree (.slice l o.parents.length p) o.BU o.BS o.msg) 41 (0,0)),(y,Obj.cells (obC 0 (.slice none 0 0) (.slice none 0 0) [] (.slice none 0 0) 0 0 []) 95 (0,0)),(F,Obj.cells (obC o.kind (.slice d o.data.length j) v o.tree (.slice l o.parents.length p) o.BU o.BS o.msg) 95 (0,0))]->k<F+1/\wr.heap[k]? = some Z):=fun k Z A=>by
   simp only[List.mem_cons,Prod.mk.injEq,List.not_mem_nil,or_false]at A;rcases A with⟨rfl,rfl⟩ | ⟨rfl,rfl⟩ | ⟨rfl,rfl⟩
   .exact ⟨by omega,q.out.rb⟩
   .exact ⟨by omega,q.out.r2⟩
   .exact ⟨by omega,q.out.r3⟩
  have hB:w.heap.size<=F+1:=by omega
  obtain⟨N,name,id⟩:=x;clear hx h0 h1 h2;go_upto_region 5 with fail;apply aI 24 (fun z w'=>ApC w 138 3 (F+1) v k ((o.items.take k).flatMap itC) (itC ⟨N,name,id⟩) [(M,Obj.cells (obC o.kind (.slice d o.data.length j) (.slice (some ⟨bb,oo,none⟩) o.items.length Y) o.tree (.slice l o.parents.length p) o.BU o.BS o.msg) 41 (0,0)),(y,Obj.cells (obC 0 (.slice none 0 0) (.slice none 0 0) [] (.slice none 0 0) 0 0 []) 95 (0,0)),(F,Obj.cells (obC o.kind (.slice d o.data.length j) v o.tree (.slice l o.parents.length p) o.BU o.BS o.msg) 95 (0,0))] (z 21) (z 22) w') [false,false,false,false,false,false,false,false,false,false,false,false,false,false,false,false,false,false,false,false,false,true,true,false] [_,v,_,_,_,_,_,_,_,_,_,_,_,_,_,_,_,_,_,_,.agg #[.int .i64 N,S8 name,S8 id],undef,undef,_] [none,none,none,none,none,none,none,none,none,none,none,none,none,none,none,none,none,none,none,none,none,none,none,none] [[],[0],[],[2],[],[3,4],[5],[6],[],[8],[],[9,10],[11],[12],[],[14],[],[15,16],[17],[18],[7,13,19],[20],[1,21],[]] (by kernel_rfl) (by kernel_rfl) rfl
  .exact ApC.start (fun k Z A=>(ad.out k Z A).2) q.out.own q.out.sz q.out.ext ⟨rfl,rfl,rfl,Nat.le_refl _,fun _ _=>rfl⟩
  .simp (maxSteps:=1000000)only[de,cN,bR,cG,cS,List.getD_cons_zero,List.getD_cons_succ,Bool.false_eq_true,if_false,if_true,and_true,true_and,forall_const,Nat.zero_add,Nat.reduceAdd,List.take_succ_cons,List.take_zero,ab,Act.put,List.setIfInBounds_toArray,List.set_cons_zero,List.set_cons_succ];and_intros
   iterate 21 · intro P z wq b;intros;rename_i S;have f2:=(ah b.k1).2.2.1;have f3:=(ah b.k3).2.2.1;have e0:=b.ext.cell Y0.out;have e1:=b.ext.cell Y1.out;have e2:=b.ext.cell Y2.out;go_simp;exact S _ _ b rfl
   .intro P z wq b hz A R S;rw[hz]at b;go_simp;exact S _ _ b.Cx
   .intro P z wq b hz A R S;obtain⟨bl,bo⟩:=A;rw[hz]at b;obtain⟨v',w',hr,bk⟩:=b.app bo hB (fun k Z A=>(ad.out k Z A).1) Tryz.underlying93 pE rfl (by omega) rfl (by simp[itC,Value.oneCell']) (by omega) (by omega);apply eB (.tmp 28) (.tmp 48) 93 93 (v:=P 1) (xv:=P 21) (v':=v') (w':=w')
    iterate 4
     .rfl
    .rw [bl];exact hr
    .exact S _ _ bk
   .intro P z wq b;intros;rename_i S;have f2:=(ah b.k1).2.2.1;have f3:=(ah b.k3).2.2.1;have e0:=b.ext.cell Y0.out;have e1:=b.ext.cell Y1.out;have e2:=b.ext.cell Y2.out;go_simp;exact S _ _ b rfl
  intro P wd r A;simp only[di,List.getD_cons_zero,List.getD_cons_succ,Bool.false_eq_true,if_false,if_true]at r;simp only[bV,Nat.zero_add,Nat.reduceAdd,and_true]at A;simp(maxSteps:=1000000)only[List.drop_succ_cons,List.drop_zero,Nat.zero_add,Nat.reduceAdd,List.take_succ_cons,List.take_zero,ab,Act.put,List.setIfInBounds_toArray,List.set_cons_zero,List.set_cons_succ,A];clear A;generalize P 21=bt at *;generalize P 22=E at *;have C:PlS w M y F (obC o.kind (.slice d o.data.length j) (.slice (some ⟨bb,oo,none⟩) o.items.length Y) o.tree (.slice l o.parents.length p) o.BU o.BS o.msg) (obC 0 (.slice none 0 0) (.slice none 0 0) [] (.slice none 0 0) 0 0 []) (obC o.kind (.slice d o.data.length j) v o.tree (.slice l o.parents.length p) o.BU o.BS o.msg) E (k+1) ((o.items.take (k+1)).flatMap itC) wd:=by
   refine⟨r.k1,r.k2,r.k3,?_,r.sz,r.ext,q.out.lt⟩;have h9:=r.Cv E rfl;rw[uR a8.out,List.flatMap_append,List.flatMap_singleton];exact h9
  have y6:=(ah C.r3).2.2.1;have br:wd.frozen? ⟨F,2,none⟩=false:=by simp[World.frozen?,C.r3]
  have a':Hid _:=C.put 2 E (c6:=(obC o.kind (.slice d o.data.length j) E o.tree (.slice l o.parents.length p) o.BU o.BS o.msg)) rfl;obtain⟨xa,xn,xc,rfl⟩:∃J L K,E=.slice J L K:=by
   rcases C.own.2 with⟨h,-⟩ | ⟨g,c,bh,h,-⟩
   iterate 2
    .exact ⟨_,_,_,h⟩
  clear r C;go_wp2_with fail;go_roundw
  case rel=>exact⟨k+1,_,by omega,by go_num,a'.out⟩
  case measure=>simp[intOf];omega
 .obtain rfl:k=o.items.length:=by omega
  have D:=q.out.own;rw[List.take_of_length_le (Nat.le_refl _)]at D;obtain⟨J,L,K,rfl⟩:∃J L K,v=.slice J L K:=by
   rcases D.2 with⟨h,-⟩ | ⟨g,c,bh,h,-⟩
   iterate 2
    .exact ⟨_,_,_,h⟩
  obtain⟨b0,b1,b2,b3,b4,b5,b6,b7⟩:=ah q.out.rb;obtain⟨q0,q1,q2,q3,q4,q5,q6,q7⟩:=ah q.out.r3;have a3:=q.out.r2;have ba:Hid (Row wr (.slice J L K) o.items.length (o.items.flatMap itC)):=Row.BV D (by omega);have a5:Hid (∀a n cc,Value.slice J L K=.slice (some a) n cc->y≠a.block):=fun a n cc he=>by
   have h8:=(D.lt a.block (by rw[he];rfl)).1;have:=q.out.lt;omega
  have bd:Hid (Ext w wr):=q.out.ext;have a9:Hid (w.heap.size<=y):=by have:=q.out.lt;show w.heap.size<=y;omega
  clear D q
  go_wp2_with (refine wpList_store_row rfl 95 (.tmp 2) (.tmp 51) rfl y (obC o.kind (.slice d o.data.length j) (.slice J L K) o.tree (.slice l o.parents.length p) o.BU o.BS o.msg) rfl rfl 95 _ a3 bK rfl (by simp[Value.oneCell']) ?_)
  refine bodyPost_ret (results_cell_row rfl _ _ y 95 (obC o.kind (.slice d o.data.length j) (.slice J L K) o.tree (.slice l o.parents.length p) o.BU o.BS o.msg) (0,0) _ rfl (setRow_heap _ _ _ _ _ _ a3) Tryz.underlying95 rfl bK) rfl ?_;have X:Ext w (wr.setRow y (obC o.kind (.slice d o.data.length j) (.slice J L K) o.tree (.slice l o.parents.length p) o.BU o.BS o.msg)):=Ext.but bd.out (af _ _ _) a9.out;exact⟨⟨_,rfl,_,_,_,rfl,IsBytes.ext D1.out X,Row.but ba.out (af _ _ _) (fun a n cc he h=>a5.out a n cc he h.symm),IsStrs.ext D3.out X⟩,X⟩
end
section
open Go Go.RowKit
variable [Inhabited bf]
theorem sZ {K w:World} {O:Nat->Prop} {x:Value} {C:Nat} {m:Fs} {n:Int} {k:Nat} (v:Value) (o:Ob) (h:Sr K O w x C m n) (hg:Good k m) (hk:k<=59900) (hv:IsOb w v o) (hs:dv o) (V:0<=n) (W:n<=100000) :
  Calls Tryz.prog 33 #[.pointer (some ⟨C,0,none⟩),v] w fun e w'=>e=.returned (.tuple #[S8 (dj m o).2.1,.int .i64 (dj m o).2.2])/\SrPost K O x C (dj m o).1 (fN n o) w w':=by
 have H:Hid (Sr K O w x C m n):=h;have HG:Hid (Good k m):=hg;obtain⟨L,M,N,rfl,hd,hi,hp⟩:=hv;obtain⟨y,g⟩:∃y,y=w.alloc (.cells #[.int .i64 o.kind,L,M,S8 o.tree,N,.int .i64 o.BU,.int .i64 o.BS,S8 o.msg] 95):=⟨_,rfl⟩;have c:Ext w y:=by rw[g];exact(Ext.refl _).alloc _
 have p:y.heap[w.heap.size]? = some (.cells #[.int .i64 o.kind,L,M,S8 o.tree,N,.int .i64 o.BU,.int .i64 o.BS,S8 o.msg] 95 (0,0)):=by rw[g];exact ae _ _
 have d:Hid _:=jk (obV o L M N) o y ⟨L,M,N,rfl,hd.ext c,hi.ext c,hp.ext c⟩ hs;obtain⟨gb,U⟩:∃gb,w.heap.size=gb:=⟨_,rfl⟩;rw[U]at p;obtain⟨c0,c1,c2,c3,c4,c5,c6,c7⟩:=ah p;have S:Hid (Ext w y):=c;have R:Hid _:=g;obtain⟨⟨b,l⟩,G⟩:∃q,aW o=q:=⟨_,rfl⟩;have F:dj m o=if l≠0 then(m,[],l)else bQ m b:=by unfold dj;rw[G]
 have B:Hid _:=F;obtain⟨Y,t⟩:∃q,fN n o=q:=⟨_,rfl⟩;have E:Y=if l=0 then oZ n b else n:=by rw[<-t];unfold fN;rw[G];rfl
 have A:Hid _:=E;obtain⟨⟨m2,id,e2⟩,r⟩:∃q,dj m o=q:=⟨_,rfl⟩;have z:Hid _:=r;have aa:b.length<=100000:=by
  have hb:(aW o).1.length<=100000:=ik o;rw[G]at hb;exact hb
 rw[G]at d;rw[r,t];unfold obV at d ⊢;clear h hg hd hi hp g c p F r G hs t E;go_enter Tryz.func33,Tryz.ntmps33;go_upto_region 1 with fail;rw[<-R.out];go_wp2_with fail;go_at_call 86;refine Calls.mono d.out ?_;rintro e9 Z ⟨⟨u,rfl,X⟩,J⟩;have j:Hid (Ext w Z):=S.out.trans J;have H1:Hid (Sr K O Z x C m n):=H.out.more j.out;have HU:Hid (Arg K Z u b):=.inr ⟨by unfold IsBytes;exact Row.BV X (by omega),TypB.BV X⟩;clear J X d
 try dsimp only
 by_cases a:l=0
 .have D:(l != 0)=false:=by simpa using a
  have P:Hid (bQ m b=(m2,id,e2)):=by
   unfold Hid;rw[<-z.out,B.out,if_neg (by simpa using a)]
  have i:Hid (Y=oZ n b):=by unfold Hid;rw[A.out,if_pos a]
  have T:=rN u b H1.out HG.out hk HU.out (by omega) V W;rw[P.out,<-i.out]at T;have HC:Hid _:=T;clear T a;go_wp2_with fail;go_at_call 30;refine Calls.mono HC.out ?_;rintro e9 w2 ⟨rfl,I⟩;have Q:Hid _:=I;clear I HC;go_wp2;go_ret2;exact⟨rfl,SrPost.pre H.out j.out Q.out⟩
 .have D:(l != 0)=true:=by simpa using a
  have i:Hid (Y=n):=by unfold Hid;rw[A.out,if_neg a]
  obtain⟨rfl,rfl,rfl⟩:m=m2/\[]=id/\l=e2:=by
   have h9:=B.out;rw[if_pos a,z.out]at h9;have h8:=Prod.mk.inj h9;have h7:=Prod.mk.inj h8.2;exact⟨h8.1.symm,h7.1.symm,h7.2.symm⟩
  clear a;go_wp2;go_ret2;exact⟨rfl,by rw[i.out];exact SrPost.refl H.out j.out⟩
end
section
open Go Go.RowKit
theorem xe (u v:Value) (o:Ob) (w:World) (hu:IsOb w u o) (hv:IsOb w v o) :
  Calls Tryz.prog 39 #[u,v] w fun e w'=>e=.returned (.bool true)/\Ext w w':=by
 obtain⟨vd,vi,vp,rfl,V,d2,W⟩:=hu;obtain⟨ud,ui,up,rfl,X,e2,Y⟩:=hv;have D1:Hid (IsBytes w vd o.data):=V;have D3:Hid (IsStrs w vp o.parents):=W;have E1:Hid (IsBytes w ud o.data):=X;have E3:Hid (IsStrs w up o.parents):=Y;obtain⟨da,dc,rfl,-⟩:=id V.get;obtain⟨ia,ic,rfl,s1,s2,s3,hi⟩:=id d2.get;obtain⟨pa,pc,rfl,-⟩:=id W.get;obtain⟨F,G,rfl,-⟩:=id X.get;obtain⟨L,M,rfl,t1,t2,t3,hj⟩:=id e2.get;obtain⟨N,O,rfl,-⟩:=id Y.get;have HI:Hid _:=hi;have HJ:Hid _:=hj;clear V d2 W X e2 Y hi hj;obtain⟨y,p⟩:∃y,y=(w.alloc (.cells (obC o.kind (.slice da o.data.length dc) (.slice ia o.items.length ic) o.tree (.slice pa o.parents.length pc) o.BU o.BS o.msg) 95)).alloc (.cells (obC o.kind (.slice F o.data.length G) (.slice L o.items.length M) o.tree (.slice N o.parents.length O) o.BU o.BS o.msg) 95):=⟨_,rfl⟩;obtain⟨Q,E,A,n⟩:=u9 w (.cells (obC o.kind (.slice da o.data.length dc) (.slice ia o.items.length ic) o.tree (.slice pa o.parents.length pc) o.BU o.BS o.msg) 95) (.cells (obC o.kind (.slice F o.data.length G) (.slice L o.items.length M) o.tree (.slice N o.parents.length O) o.BU o.BS o.msg) 95);rw[<-p]at Q E A n;obtain⟨gb,I⟩:∃g,w.heap.size=g:=⟨_,rfl⟩;rw[I]at Q E n;obtain⟨g2,H⟩:∃g,gb+1=g:=⟨_,rfl⟩;rw[H]at E n;have B:Hid _:=Q;have C:Hid _:=E;have j:Hid (Ext w y):=A;unfold obC at p;clear Q E A n;obtain⟨r,q,a,P,c,l,h,aa⟩:=o;dsimp only at *;have tt:=tl P;have tm:=tl aa;go_enter Tryz.func39,Tryz.ntmps39;go_upto_region 1 with fail;rw[<-p];clear p I H;obtain⟨c0,c1,c2,c3,c4,c5,c6,c7⟩:=ah B.out;obtain⟨b0,b1,b2,b3,b4,b5,b6,b7⟩:=ah C.out;have n0:(r != r)=false:=by simp
 have n5:(l != l)=false:=by simp
 have n6:(h != h)=false:=by simp
 go_wp2_with fail;go_at_call 31;refine(cY _ _ _ _ y (IsBytes.ext D1.out j.out) (IsBytes.ext E1.out j.out)).mono ?_;rw[show(q==q)=true from by simp];rintro ex w3 ⟨rfl,J⟩;rw[J];clear J;go_wp2_with fail;go_at_call 25;refine(jJ _ _ _ _ y (IsStrs.ext D3.out j.out) (IsStrs.ext E3.out j.out)).mono ?_;rw[show(c==c)=true from by simp];rintro ex w3 ⟨rfl,b⟩;have S:Hid (Ext y w3):=b;replace c5:=b.cell c5;replace c6:=b.cell c6;replace c7:=b.cell c7;replace b5:=b.cell b5;replace b6:=b.cell b6;replace b7:=b.cell b7;clear b c0 c1 c2 c3 c4 b0 b1 b2 b3 b4;go_wp2_with fail;go_loopw [5] (fun i wr=>∃(k:Nat),k<=a.length/\i=.int .i64 k/\Hid (Ext y wr)) (fun i _=>a.length - (intOf i).toNat)
 case atStart=>exact⟨0,Nat.zero_le _,rfl,S.out⟩
 case round =>
 obtain⟨k,hk,rfl,D⟩:=hrel;have c2:=D.out.cell (ah B.out).2.2.1;have b2:=D.out.cell (ah C.out).2.2.1
 by_cases Z:k<a.length
 .obtain ⟨x,hx⟩:∃x,a[k]? = some x:=⟨_,List.getElem?_eq_getElem Z⟩;obtain⟨bb,oo,rfl,h0,h1,h2⟩:=HI.out k x hx;obtain⟨ad,au,rfl,k0,k1,k2⟩:=HJ.out k x hx;have d:=j.out.trans D.out;have y0:=d.cell h0;have y1:=d.cell h1;have y2:=d.cell h2;have z0:=d.cell k0;have z1:=d.cell k1;have z2:=d.cell k2;obtain⟨t,name,id⟩:=x;dsimp only at y0 y1 y2 z0 z1 z2;have m0:(t != t)=false:=by simp
  have tn:=tl name;have ti:=tl id;clear hx h0 h1 h2 k0 k1 k2 d;go_upto_region 6 with fail;go_quiet (fail);obtain⟨R,z⟩:∃R,R=wr.drewN nq:=⟨_,rfl⟩;have K:Ext wr R:=by rw[z];exact Ext.drawn _ _
  rw[<-z];have T:Hid (Ext y R):=D.out.trans K;clear z K;go_wp2_with fail;go_roundw
  case rel=>exact⟨k+1,by omega,by go_num,T.out⟩
  case measure=>simp[intOf];omega
 .obtain rfl:k=a.length:=by omega
  have U:Hid (Ext w wr):=j.out.trans D.out;go_wp2;go_ret;exact⟨rfl,U.out⟩
end
end Go.Proofs.YtfabjgfmiaammaaGreatDoor
