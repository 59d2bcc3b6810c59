/- Contracts of the program's functions and plain laws behind the card. Conditions: as each theorem states. -/
import Derived.Test.YtgfegpnmlkdjfaaGreatDoorZaz
import Derived.Test.YtgfegpnmlkdjfaaGreatDoorZau
import Derived.Test.YtgfegpnmlkdjfaaGreatDoorZar
set_option linter.unusedVariables false
set_option linter.unusedSimpArgs false
set_option linter.unusedSectionVars false
set_option maxRecDepth 100000
set_option maxHeartbeats 64000000
namespace Go.Proofs.YtgfegpnmlkdjfaaGreatDoor
section
open Go Go.RowKit Go.Sort
theorem bN {P:Program} {c:Func} {p u:Tmp} {b:TypeId} (h:c.results=#[.cell p b,.tmp u]) (a:Array Value) (w:World) (g:Nat) (t:TypeId) (cs:Array Value) (fr:Nat×Nat) (d:TypeDesc)
  (k:a.getD p undef=.pointer (some ⟨g,0,none⟩)) (i:w.heap[g]? = some (.cells cs t fr))
  (l:P.underlying b=some d) (e:(match d with | .struct _ | .array _ _=>true | _=>false)=true) (j:(P.info? b).map (·.size)=some cs.size) :
  (results c a).run P w=.ok (.tuple #[.agg cs,a.getD u undef]) w:=by
 rw[results_cell_tmp h,k];simp[asAddr,run_loadVar_row w g t b cs fr d i l e j]
theorem vR {o a b:En} {d g i j k t1 t2 t3:Bool} (l:(a==b)=d) (n:(o==a)=g) (p:(o==b)=i) (q:(a.1==0)=j) (r:(b.1==0)=k) (t:(bU o && (bU a && bU b))=(t1 && (t2 && t3))) :
  al o a b=if d=true then(a,1)else if g=true then(b,2)else if i=true then(a,2)else if j=true then(b,4)else if k=true then(a,4)else if(t1 && (t2 && t3))=true then((dg o a b,[]),3)else((aN a b).1,5):=by
 have e:∀(x y:En) (c:Bool),(x==y)=c->((x=y)↔c=true):=fun x y c h=>by rw[<-h];simp
 have f:∀(x:Int) (c:Bool),(x==0)=c->((x=0)↔c=true):=fun x c h=>by rw[<-h];simp
 unfold al;rw[t];simp only[e _ _ _ l,e _ _ _ n,e _ _ _ p,f _ _ q,f _ _ r]
theorem oG (x d i:Int) (u h j:B8) (w:World) (hk:(al (x,u) (d,h) (i,j)).2≠3) :
  Calls Tryz.prog 19 #[.agg #[.int .i64 x,S8 u],.agg #[.int .i64 d,S8 h],.agg #[.int .i64 i,S8 j]] w fun e Y=>e=.returned (.tuple #[iR (al (x,u) (d,h) (i,j)).1,.int .i64 (al (x,u) (d,h) (i,j)).2])/\Ext w Y:=by
 obtain⟨c1,h1⟩:∃c,((d,h)==(i,j))=c:=⟨_,rfl⟩;obtain⟨c2,h2⟩:∃c,((x,u)==(d,h))=c:=⟨_,rfl⟩;obtain⟨c3,h3⟩:∃c,((x,u)==(i,j))=c:=⟨_,rfl⟩;obtain⟨c4,h4⟩:∃c,(d==0)=c:=⟨_,rfl⟩;obtain⟨c5,h5⟩:∃c,(i==0)=c:=⟨_,rfl⟩;obtain⟨t1,T⟩:∃c,bU (x,u)=c:=⟨_,rfl⟩;obtain⟨t2,U⟩:∃c,bU (d,h)=c:=⟨_,rfl⟩;obtain⟨t3,V⟩:∃c,bU (i,j)=c:=⟨_,rfl⟩;have N:Hid _:=vR (o:=(x,u)) (a:=(d,h)) (b:=(i,j)) h1 h2 h3 h4 h5 (t1:=t1) (t2:=t2) (t3:=t3) (by rw[T,U,V]);have hk:Hid (¬((if c1=true then((d,h),(1:Int))else if c2=true then((i,j),2)else if c3=true then((d,h),2)else if c4=true then((i,j),4)else if c5=true then((d,h),4)else if(t1 && (t2 && t3))=true then((dg (x,u) (d,h) (i,j),[]),3)else((aN (d,h) (i,j)).1,5)).2=3)):=by
  unfold Hid;rw[<-N.out];exact hk
 have q1:∀w:World,(binOp .eql 41 (.agg #[.int .i64 d,S8 h]) (.agg #[.int .i64 i,S8 j])).run Tryz.prog w=.ok (.bool c1) w:=fun w=>by have:=gE (d,h) (i,j) w;rwa [h1]at this
 have q2:∀w:World,(binOp .eql 41 (.agg #[.int .i64 x,S8 u]) (.agg #[.int .i64 d,S8 h])).run Tryz.prog w=.ok (.bool c2) w:=fun w=>by have:=gE (x,u) (d,h) w;rwa [h2]at this
 have q3:∀w:World,(binOp .eql 41 (.agg #[.int .i64 x,S8 u]) (.agg #[.int .i64 i,S8 j])).run Tryz.prog w=.ok (.bool c3) w:=fun w=>by have:=gE (x,u) (i,j) w;rwa [h3]at this
 have a1:Hid _:=T;have a2:Hid _:=U;have a3:Hid _:=V;clear h1 h2 h3 T U V;go_enter Tryz.func19,Tryz.ntmps19;go_upto_region 1 with fail;obtain⟨Z,Q,P,R⟩:=lL w (.cells #[.int .i64 x,S8 u] 41) (.cells #[.int .i64 d,S8 h] 41) (.cells #[.int .i64 i,S8 j] 41) (.cells #[.int .i64 0,S8 []] 41);obtain⟨G,X⟩:∃G,G=(((w.alloc (.cells #[.int .i64 x,S8 u] 41)).alloc (.cells #[.int .i64 d,S8 h] 41)).alloc (.cells #[.int .i64 i,S8 j] 41)).alloc (.cells #[.int .i64 0,S8 []] 41):=⟨_,rfl⟩;have A:Hid (Ext w G):=by rw[X];exact((((Ext.refl _).alloc _).alloc _).alloc _).alloc _
 rw[<-X]at Z Q P R ⊢;obtain⟨g0,S⟩:∃g,w.heap.size=g:=⟨_,rfl⟩;have a0:Hid (w.heap.size<=g0):=Nat.le_of_eq S;rw[S]at Z Q P R ⊢;obtain⟨g1,ad⟩:∃g,g0+1=g:=⟨_,rfl⟩;rw[ad]at Q P R ⊢;obtain⟨g2,ag⟩:∃g,g1+1=g:=⟨_,rfl⟩;rw[ag]at P R ⊢;obtain⟨r,ao⟩:∃g,g2+1=g:=⟨_,rfl⟩;rw[ao]at R ⊢;have bc:Hid _:=Z;have bh:Hid _:=Q;have bk:Hid _:=P;have p:Hid _:=R;have y:Hid (w.heap.size<=r):=by have:=a0.out;unfold Hid;omega
 have bo:Hid (r≠g0/\r≠g1/\r≠g2):=by unfold Hid;omega
 have e0:=(cell_of_row _ _ 0 _ _ _ Z).trans rfl;have e1:=(cell_of_row _ _ 1 _ _ _ Z).trans rfl;have f0:=(cell_of_row _ _ 0 _ _ _ Q).trans rfl;have f1:=(cell_of_row _ _ 1 _ _ _ Q).trans rfl;have k0:=(cell_of_row _ _ 0 _ _ _ P).trans rfl;have k1:=(cell_of_row _ _ 1 _ _ _ P).trans rfl;clear X S ad ag ao Z Q P R
 cases c1 with
 | true =>
  go_wp2_with (refine wpList_store_row rfl 41 (.tmp 6) (.tmp 14) rfl r #[.int .i64 d,S8 h] rfl rfl 41 _ p.out aJ rfl (by simp[Value.oneCell']) ?_)
  refine bodyPost_ret (bN rfl _ _ r 41 #[.int .i64 d,S8 h] (0,0) _ rfl (setRow_heap _ _ _ _ _ _ p.out) Tryz.underlying41 rfl aJ) rfl ?_;rw[N.out];exact⟨rfl,Ext.but A.out (aw _ _ _) y.out⟩
 | false =>
 cases c2 with
 | true =>
  go_wp2_with (refine wpList_store_row rfl 41 (.tmp 6) (.tmp 19) rfl r #[.int .i64 i,S8 j] rfl rfl 41 _ p.out aJ rfl (by simp[Value.oneCell']) ?_)
  refine bodyPost_ret (bN rfl _ _ r 41 #[.int .i64 i,S8 j] (0,0) _ rfl (setRow_heap _ _ _ _ _ _ p.out) Tryz.underlying41 rfl aJ) rfl ?_;rw[N.out];exact⟨rfl,Ext.but A.out (aw _ _ _) y.out⟩
 | false =>
 cases c3 with
 | true =>
  go_wp2_with (refine wpList_store_row rfl 41 (.tmp 6) (.tmp 24) rfl r #[.int .i64 d,S8 h] rfl rfl 41 _ p.out aJ rfl (by simp[Value.oneCell']) ?_)
  refine bodyPost_ret (bN rfl _ _ r 41 #[.int .i64 d,S8 h] (0,0) _ rfl (setRow_heap _ _ _ _ _ _ p.out) Tryz.underlying41 rfl aJ) rfl ?_;rw[N.out];exact⟨rfl,Ext.but A.out (aw _ _ _) y.out⟩
 | false =>
 cases c4 with
 | true =>
  go_wp2_with (refine wpList_store_row rfl 41 (.tmp 6) (.tmp 29) rfl r #[.int .i64 i,S8 j] rfl rfl 41 _ p.out aJ rfl (by simp[Value.oneCell']) ?_)
  refine bodyPost_ret (bN rfl _ _ r 41 #[.int .i64 i,S8 j] (0,0) _ rfl (setRow_heap _ _ _ _ _ _ p.out) Tryz.underlying41 rfl aJ) rfl ?_;rw[N.out];exact⟨rfl,Ext.but A.out (aw _ _ _) y.out⟩
 | false =>
 cases c5 with
 | true =>
  go_wp2_with (refine wpList_store_row rfl 41 (.tmp 6) (.tmp 34) rfl r #[.int .i64 d,S8 h] rfl rfl 41 _ p.out aJ rfl (by simp[Value.oneCell']) ?_)
  refine bodyPost_ret (bN rfl _ _ r 41 #[.int .i64 d,S8 h] (0,0) _ rfl (setRow_heap _ _ _ _ _ _ p.out) Tryz.underlying41 rfl aJ) rfl ?_;rw[N.out];exact⟨rfl,Ext.but A.out (aw _ _ _) y.out⟩
 | false =>
 go_upto_region 11 with fail;have aa:Hid (∀W,Calls Tryz.prog 40 #[.agg #[.int .i64 x,S8 u]] W fun e Y=>e=.returned (.bool t1)/\Ext W Y):=fun W=>by have:=gF x u W;rwa [a1.out]at this
 have ab:Hid (∀W,Calls Tryz.prog 40 #[.agg #[.int .i64 d,S8 h]] W fun e Y=>e=.returned (.bool t2)/\Ext W Y):=fun W=>by have:=gF d h W;rwa [a2.out]at this
 have av:Hid (∀W,Calls Tryz.prog 40 #[.agg #[.int .i64 i,S8 j]] W fun e Y=>e=.returned (.bool t3)/\Ext W Y):=fun W=>by have:=gF i j W;rwa [a3.out]at this
 cases t1 with
 | false =>
  go_wp2_with fail;go_at_call 40;refine(aa.out _).mono ?_;rintro e w1 ⟨rfl,L⟩;have k:Hid (Ext G w1):=L;have a4:=k.out.cell e0;have a5:=k.out.cell e1;have a9:=k.out.cell f0;have a':=k.out.cell f1;have u10:=k.out.cell k0;have u11:=k.out.cell k1;clear L;have I:Hid (al (x,u) (d,h) (i,j)=((aN (d,h) (i,j)).1,5)):=N.out;have HY:Hid _:=k.out;go_wp2_with fail;go_at_call 42;refine(jY d i h j _).mono ?_;obtain⟨⟨⟨F,E⟩,⟨lm,li⟩⟩,t⟩:∃q,aN (d,h) (i,j)=q:=⟨_,rfl⟩;rw[t];have H:Hid _:=t;unfold iR;dsimp only;rintro e wf ⟨rfl,C⟩;have J:Hid (Ext G wf):=k.out.trans C;clear C t;go_upto_region 14 with fail;obtain⟨D,n⟩:∃D,D=(wf.alloc (.cells #[.int .i64 F,S8 E] 41)).alloc (.cells #[.int .i64 lm,S8 li] 41):=⟨_,rfl⟩;have B:Hid (Ext G D):=by rw[n];exact(J.out.alloc _).alloc _
  have K:D.heap[wf.heap.size]? = some (.cells #[.int .i64 F,S8 E] 41 (0,0)):=by rw[n];exact((Ext.refl _).alloc _).row (ah _ _)
  have v0:=(cell_of_row _ _ 0 _ _ _ K).trans rfl;have v1:=(cell_of_row _ _ 1 _ _ _ K).trans rfl;have O:Hid (D.heap[r]? = some (.cells #[.int .i64 0,S8 []] 41 (0,0))):=B.out.row p.out;rw[<-n];clear n K
  go_wp2_with (refine wpList_store_row rfl 41 (.tmp 6) (.tmp 57) rfl r #[.int .i64 F,S8 E] rfl rfl 41 _ O.out aJ rfl (by simp[Value.oneCell']) ?_)
  refine bodyPost_ret (bN rfl _ _ r 41 #[.int .i64 F,S8 E] (0,0) _ rfl (setRow_heap _ _ _ _ _ _ O.out) Tryz.underlying41 rfl aJ) rfl ?_;rw[I.out,H.out];exact⟨rfl,Ext.but (A.out.trans B.out) (aw _ _ _) y.out⟩
 | true =>
 go_wp2_with fail;go_at_call 40;refine(aa.out _).mono ?_;rintro e w1 ⟨rfl,L⟩;have k:Hid (Ext G w1):=L;have a4:=k.out.cell e0;have a5:=k.out.cell e1;have a9:=k.out.cell f0;have a':=k.out.cell f1;have u10:=k.out.cell k0;have u11:=k.out.cell k1;clear L
 cases t2 with
 | false =>
  go_wp2_with fail;go_at_call 40;refine(ab.out _).mono ?_;rintro e w2 ⟨rfl,M⟩;have l:Hid (Ext G w2):=k.out.trans M;have a6:=l.out.cell e0;have a7:=l.out.cell e1;have ba:=l.out.cell f0;have bb:=l.out.cell f1;have u20:=l.out.cell k0;have u21:=l.out.cell k1;clear M;have I:Hid (al (x,u) (d,h) (i,j)=((aN (d,h) (i,j)).1,5)):=N.out;have HY:Hid _:=l.out;go_wp2_with fail;go_at_call 42;refine(jY d i h j _).mono ?_;obtain⟨⟨⟨F,E⟩,⟨lm,li⟩⟩,t⟩:∃q,aN (d,h) (i,j)=q:=⟨_,rfl⟩;rw[t];have H:Hid _:=t;unfold iR;dsimp only;rintro e wf ⟨rfl,C⟩;have J:Hid (Ext G wf):=l.out.trans C;clear C t;go_upto_region 14 with fail;obtain⟨D,n⟩:∃D,D=(wf.alloc (.cells #[.int .i64 F,S8 E] 41)).alloc (.cells #[.int .i64 lm,S8 li] 41):=⟨_,rfl⟩;have B:Hid (Ext G D):=by rw[n];exact(J.out.alloc _).alloc _
  have K:D.heap[wf.heap.size]? = some (.cells #[.int .i64 F,S8 E] 41 (0,0)):=by rw[n];exact((Ext.refl _).alloc _).row (ah _ _)
  have v0:=(cell_of_row _ _ 0 _ _ _ K).trans rfl;have v1:=(cell_of_row _ _ 1 _ _ _ K).trans rfl;have O:Hid (D.heap[r]? = some (.cells #[.int .i64 0,S8 []] 41 (0,0))):=B.out.row p.out;rw[<-n];clear n K
  go_wp2_with (refine wpList_store_row rfl 41 (.tmp 6) (.tmp 57) rfl r #[.int .i64 F,S8 E] rfl rfl 41 _ O.out aJ rfl (by simp[Value.oneCell']) ?_)
  refine bodyPost_ret (bN rfl _ _ r 41 #[.int .i64 F,S8 E] (0,0) _ rfl (setRow_heap _ _ _ _ _ _ O.out) Tryz.underlying41 rfl aJ) rfl ?_;rw[I.out,H.out];exact⟨rfl,Ext.but (A.out.trans B.out) (aw _ _ _) y.out⟩
 | true =>
 go_wp2_with fail;go_at_call 40;refine(ab.out _).mono ?_;rintro e w2 ⟨rfl,M⟩;have l:Hid (Ext G w2):=k.out.trans M;have a6:=l.out.cell e0;have a7:=l.out.cell e1;have ba:=l.out.cell f0;have bb:=l.out.cell f1;have u20:=l.out.cell k0;have u21:=l.out.cell k1;clear M
 cases t3 with
 | false =>
  go_wp2_with fail;go_at_call 40;refine(av.out _).mono ?_;rintro e w3 ⟨rfl,au⟩;have z:Hid (Ext G w3):=l.out.trans au;have bp:=z.out.cell e0;have bq:=z.out.cell e1;have bv:=z.out.cell f0;have b4:=z.out.cell f1;have u30:=z.out.cell k0;have u31:=z.out.cell k1;clear au;have I:Hid (al (x,u) (d,h) (i,j)=((aN (d,h) (i,j)).1,5)):=N.out;have HY:Hid _:=z.out;go_wp2_with fail;go_at_call 42;refine(jY d i h j _).mono ?_;obtain⟨⟨⟨F,E⟩,⟨lm,li⟩⟩,t⟩:∃q,aN (d,h) (i,j)=q:=⟨_,rfl⟩;rw[t];have H:Hid _:=t;unfold iR;dsimp only;rintro e wf ⟨rfl,C⟩;have J:Hid (Ext G wf):=z.out.trans C;clear C t;go_upto_region 14 with fail;obtain⟨D,n⟩:∃D,D=(wf.alloc (.cells #[.int .i64 F,S8 E] 41)).alloc (.cells #[.int .i64 lm,S8 li] 41):=⟨_,rfl⟩;have B:Hid (Ext G D):=by rw[n];exact(J.out.alloc _).alloc _
  have K:D.heap[wf.heap.size]? = some (.cells #[.int .i64 F,S8 E] 41 (0,0)):=by rw[n];exact((Ext.refl _).alloc _).row (ah _ _)
  have v0:=(cell_of_row _ _ 0 _ _ _ K).trans rfl;have v1:=(cell_of_row _ _ 1 _ _ _ K).trans rfl;have O:Hid (D.heap[r]? = some (.cells #[.int .i64 0,S8 []] 41 (0,0))):=B.out.row p.out;rw[<-n];clear n K
  go_wp2_with (refine wpList_store_row rfl 41 (.tmp 6) (.tmp 57) rfl r #[.int .i64 F,S8 E] rfl rfl 41 _ O.out aJ rfl (by simp[Value.oneCell']) ?_)
  refine bodyPost_ret (bN rfl _ _ r 41 #[.int .i64 F,S8 E] (0,0) _ rfl (setRow_heap _ _ _ _ _ _ O.out) Tryz.underlying41 rfl aJ) rfl ?_;rw[I.out,H.out];exact⟨rfl,Ext.but (A.out.trans B.out) (aw _ _ _) y.out⟩
 | true=>exact absurd rfl hk.out
end
section
open Go Go.RowKit Go.Sort
theorem mA:∀n:Nat,Lib.repeatL [126] n=List.replicate n (126:UInt8)
 | 0=>rfl
 | n+1=>by rw[Lib.repeatL,mA n,List.replicate_succ];rfl
theorem Ay (p id:B8) (M n:Nat) (d:M=min id.length 8) :
  (((⟨p.toArray⟩:ByteArray)++⟨#[126]⟩)++(⟨id.toArray⟩:ByteArray).extract 0 M)++⟨(Lib.repeatL [126] n).toArray⟩=⟨(ct p id n).toArray⟩:=by
 have e:∀a b:ByteArray,a.data=b.data->a=b:=fun a b h=>by cases a;cases b;cases h;rfl
 apply e;rw[ByteArray.data_append,ByteArray.data_append,ByteArray.data_append,ByteArray.data_extract,mA];have c:(id.toArray.extract 0 M).toList=id.take 8:=by
  rw[d];simp[List.take_eq_take_iff]
  try omega
 apply Array.toList_inj.1;simp only[Array.toList_append,c];unfold ct;rfl
theorem qU (p id:B8) (n:Nat) (w:World) (S:n<=100) (T:p.length<=100000) (Q:id.length<=100000) :
  Calls Tryz.prog 39 #[S8 p,S8 id,.int .i64 n] w fun e u=>e=.returned (S8 (ct p id n))/\Ext w u:=by
 obtain⟨M,B⟩:∃M,M=min id.length 8:=⟨_,rfl⟩;have J:Hid _:=B;have C:min (id.length:Int) 8=(M:Int):=by omega
 have D:(M:Int)<=(id.length:Int):=by omega
 have E:(if(0:Int)>(n:Int)then(0:Int)else(n:Int))=(n:Int):=by rw[if_neg (by omega)]
 have F:min (n:Int) 100=(n:Int):=by omega
 have q:(Lib.repeatL [126] n).length=n:=by rw[mA];simp
 have G:¬9223372036854775807<p.length+1:=by omega
 have H:¬9223372036854775807<p.length+1+min M id.length:=by omega
 have I:¬9223372036854775807<p.length+1+min M id.length+(Lib.repeatL [126] n).length:=by omega
 have K:Hid (∀W,Calls Tryz.prog 61 #[.string ⟨#[126]⟩,.int .i64 n] W fun e u=>e=.returned (.string ⟨(Lib.repeatL [126] n).toArray⟩)/\Ext W u):=fun W=>Tryz.strings_Repeat ⟨#[126]⟩ n W (by omega) (by show 1*n<=_;omega)
 have h:Hid _:=C;have i:Hid _:=D;have j:Hid _:=E;have k:Hid _:=F;have L:Hid _:=G;have N:Hid _:=H;have O:Hid _:=I;clear B C D E F G H I q;go_enter Tryz.func39,Tryz.ntmps39;go_upto_region 1 with fail;apply ak 13 [S8 p,.string ((⟨p.toArray⟩:ByteArray)++⟨#[126]⟩),S8 id,S8 id,.int .i64 id.length,.int .i64 M,.string ((⟨id.toArray⟩:ByteArray).extract 0 M),.string (((⟨p.toArray⟩:ByteArray)++⟨#[126]⟩)++(⟨id.toArray⟩:ByteArray).extract 0 M),.int .i64 n,.int .i64 n,.int .i64 n,.string ⟨(Lib.repeatL [126] n).toArray⟩,.string ((((⟨p.toArray⟩:ByteArray)++⟨#[126]⟩)++(⟨id.toArray⟩:ByteArray).extract 0 M)++⟨(Lib.repeatL [126] n).toArray⟩)] [none,none,none,none,none,none,none,none,none,none,none,none,none] [[],[0],[],[],[3],[4],[2,5],[1,6],[],[8],[9],[10],[7,11]] (by kernel_rfl) (by kernel_rfl) (by simp[aq])
 .trivial
 .simp (maxSteps:=1000000)only[List.take_succ_cons,List.take_zero,ay,aB,af,Act.put,List.setIfInBounds_toArray,List.set_cons_zero,List.set_cons_succ,aE,aH,aq,List.getD_cons_zero,List.getD_cons_succ,and_true,true_and,forall_const];and_intros
  .intro c g d;intros;rename_i a;have x:=h.out;have y:=i.out;have z:=j.out;have A:=k.out;go_simp;exact a _ _ (Ext.refl _) rfl
  .intro c g d b R a;go_simp;rw[if_neg L.out];exact a _ _ (Ext.refl _) rfl
  iterate 5 · intro c g d;intros;rename_i a;have x:=h.out;have y:=i.out;have z:=j.out;have A:=k.out;go_simp;exact a _ _ (Ext.refl _) rfl
  .intro c g d b R a;obtain⟨l,o⟩:=b;go_simp;rw[if_neg N.out];exact a _ _ (Ext.refl _) rfl
  iterate 3 · intro c g d;intros;rename_i a;have x:=h.out;have y:=i.out;have z:=j.out;have A:=k.out;go_simp;exact a _ _ (Ext.refl _) rfl
  .intro c g d b R a;go_simp;exact(K.out _).mono (by rintro P V ⟨rfl,t⟩;exact⟨_,rfl,a _ _ t rfl⟩)
  .intro c g d b R a;obtain⟨l,o⟩:=b;go_simp;rw[if_neg O.out];exact a _ _ (Ext.refl _) rfl
 intro c U r b;simp only[aG,Nat.zero_add,Nat.reduceAdd,and_true]at b;simp(maxSteps:=1000000)only[List.take_succ_cons,List.take_zero,List.drop_succ_cons,List.drop_zero,af,Act.put,List.setIfInBounds_toArray,List.set_cons_zero,List.set_cons_succ,Nat.zero_add,Nat.reduceAdd,b];clear b;rw[Ay p id M n J.out];go_wp2;go_ret;exact⟨rfl,r⟩
end
section
open Go Go.RowKit Go.Sort
def mdV (f:Fi):Value:=if f.time<0 then .slice none 0 0 else .slice (some ⟨f.time.toNat,0,none⟩) f.data.length f.mode.toNat
variable {w w':World}
theorem hZ {k:Option Nat} {t:TypeId} (g:w.grownBy w' k) (j:∀q,k=some q->∃a,w.heap[q]? = some (.cells a t (0,0))) (c:jB Tryz.prog 5 Tryz.prog.depth t=false):KeepB w w' :=
 ⟨g.size,fun q h=>g.block q h.lt (fun e=>by
  obtain⟨a,i⟩:=j q e.symm;obtain⟨l,o,n,b,d⟩:=h;rw[i]at b;simp only[Option.some.injEq,Obj.cells.injEq]at b;rw[<-b.2.1,c]at d
  cases d)⟩
def MdOk (w:World) (md:ae):Prop:=∀e∈md,IsBytes w (mdV e.2) e.2.data/\TypB w (mdV e.2)
theorem MdOk.keep {md:ae} (h:MdOk w md) (b:KeepB w w'):MdOk w' md:=fun e a=>⟨Row.G' (h e a).1 (h e a).2 b,TypB.keep (h e a).2 b⟩
structure MB where
 go:Nat
 ga:Nat
 gb:Nat
 gm:Nat
 G6:Nat
 src:Value
 md:ae
def mrC (x:MB) (a b:Value):Array Value:=#[x.src,.map (some x.go),.map (some x.ga),.map (some x.gb),.map (some x.G6),a,.map (some x.gm),b]
structure IsMer (w:World) (g B:Nat) (x:MB) (vc vn:Value) (o a b:ae) (s:Mg):Prop where
 row:w.heap[g]? = some (.cells (mrC x vc vn) 63 (0,0))
 mo:IsMG bn w x.go o
 ma:IsMG bn w x.ga a
 mb:IsMG bn w x.gb b
 G7:IsMG bn w x.G6 s.out
 mm:IsMG mdV w x.gm x.md
 Hk:MdOk w x.md
 cp:w.ownsRow B 50 3 vc s.GV.length (s.GV.flatMap rwC)
 nt:w.ownsRow B 36 2 vn s.notes.length (s.notes.flatMap ntC)
 lo:B<=g/\B<=x.G6
 ne:x.go≠x.G6/\x.ga≠x.G6/\x.gb≠x.G6/\x.gm≠x.G6
 G2:Rising s.out
 nm:B<=x.gm/\x.go≠x.gm/\x.ga≠x.gm/\x.gb≠x.gm
section
variable {w w':World} {g B:Nat} {x:MB} {vc vn:Value} {o a b:ae} {s:Mg}
theorem IsMer.ext (h:IsMer w g B x vc vn o a b s) (c:Ext w w'):IsMer w' g B x vc vn o a b s :=
 ⟨c.row h.row,h.mo.ext c,h.ma.ext c,h.mb.ext c,h.G7.ext c,h.mm.ext c,h.Hk.keep (KeepB.GX c),az h.cp c,az h.nt c,h.lo,h.ne,h.G2,h.nm⟩
theorem IsMer.f0 (h:IsMer w g B x vc vn o a b s):w.cell? ⟨g,1,none⟩=some (.map (some x.go)):=(cell_of_row _ _ 1 _ _ _ h.row).trans rfl
theorem IsMer.f1 (h:IsMer w g B x vc vn o a b s):w.cell? ⟨g,2,none⟩=some (.map (some x.ga)):=(cell_of_row _ _ 2 _ _ _ h.row).trans rfl
theorem IsMer.f2 (h:IsMer w g B x vc vn o a b s):w.cell? ⟨g,3,none⟩=some (.map (some x.gb)):=(cell_of_row _ _ 3 _ _ _ h.row).trans rfl
theorem IsMer.f4 (h:IsMer w g B x vc vn o a b s):w.cell? ⟨g,4,none⟩=some (.map (some x.G6)):=(cell_of_row _ _ 4 _ _ _ h.row).trans rfl
theorem IsMer.f5 (h:IsMer w g B x vc vn o a b s):w.cell? ⟨g,5,none⟩=some vc:=(cell_of_row _ _ 5 _ _ _ h.row).trans rfl
theorem IsMer.f6 (h:IsMer w g B x vc vn o a b s):w.cell? ⟨g,6,none⟩=some (.map (some x.gm)):=(cell_of_row _ _ 6 _ _ _ h.row).trans rfl
theorem IsMer.f7 (h:IsMer w g B x vc vn o a b s):w.cell? ⟨g,7,none⟩=some vn:=(cell_of_row _ _ 7 _ _ _ h.row).trans rfl
end
theorem AW {left:Lit->Bool} {p q:B8} (h:(left (.string q) && !(Lit.string q).sameKey (.string p))=false):left (.string q)=false\/q=p:=by
 rw[lA]at h
 by_cases a:q=p
 .exact .inr a
 .exact .inl (by simpa [a]using h)
theorem pX {g B:Nat} {x:MB} {vc vn:Value} {o a b:ae} {s:Mg} (path:B8) (h:IsMer w g B x vc vn o a b s) (hp:path.length<=10000000) :
  Calls Tryz.prog 68 #[.pointer (some ⟨g,0,none⟩),S8 path] w fun e w'=>e=.returned (.bool (de s.out path))/\Ext w w':=by
 obtain⟨l,T⟩:∃l,s.out=l:=⟨_,rfl⟩;have C:=h.G7;have R:=h.f4;rw[T]at C ⊢;obtain⟨p,y⟩:∃p,x.G6=p:=⟨_,rfl⟩;rw[y]at C R;have E:=C.map;have X:=C.lt;have U:Hid (∀e∈l,Maps.has (cX bn l) (.string e.1)=true):=fun e n=>by
  rw[og];unfold ax;rw[Option.isSome_map,List.find?_isSome];exact⟨e,n,by simp⟩
 have aa:(path.length:Int)<=10000000:=by omega
 clear h T y C;go_enter Tryz.func68,Tryz.ntmps68
 go_wp2_with (first
  | (at_range;refine wpList_range_own _ rfl _ 59 rfl 9 41 iV Tryz.underlying59 _ p _ _ rfl E ?_;intro w0 G J ab)
  | go_in)
 clear R
 go_frame
 go_loopw [11] (fun _ wr=>∃(left:Lit->Bool) (r:Nat),wr.ranges Tryz.prog 9 gM p w.heap.size l.length (cX bn l) left r/\(∀e∈l,left (.string e.1)=false->aD path e.1=false)/\Ext w wr)
  (fun _ wr=>wr.rangeLeft p w.heap.size)
 case atStart=>exact⟨_,_,G,(fun e n d=>by rw[U.out e n]at d;cases d),Below.grown (Below.refl _ _) J (Nat.le_refl _) (fun j L=>by cases L)⟩
 case round =>
  obtain⟨left,r,F,S,O⟩:=hrel;have Q:Hid _:=S;clear S
  go_wp2_with (first
   | (at_next;refine nh bn rfl _ rfl p w.heap.size _ l _ _ rfl F ?_ ?_)
   | go_in)
  .intro Y z;have D:de l path=false:=by
    unfold de;rw[List.any_eq_false];intro e n;rw[Q.out e n (z _)];simp
   have W:Hid _:=D;clear z D;go_wp2;go_ret;exact⟨aM W.out.symm,O⟩
  .intro q f w1 t A N i M K ad Z;have c:=du A;have H:Ext w w1:=Below.grown O K O.size (fun j L=>by cases L;exact Nat.le_refl _);have V:Hid _:=c;have k:=Dl path;clear A N c;obtain⟨B,I⟩:∃B,aD path q=B:=⟨_,rfl⟩;have P:Hid _:=I;have u:(path++[47]).isPrefixOf q=B:=I;clear I
   cases B with
   | true =>
    go_wp2_with (go_at_call 88;go_must (refine(pD _ _ _).mono ?_;rw[k,u];rintro e w' ⟨rfl,rfl⟩))
    go_ret;refine⟨aM (Eq.symm ?_),H⟩;unfold de;rw[List.any_eq_true];exact⟨_,V.out,P.out⟩
   | false =>
    go_wp2_with (go_at_call 88;go_must (refine(pD _ _ _).mono ?_;rw[k,u];rintro e w' ⟨rfl,rfl⟩))
    go_roundw
    case rel=>exact⟨_,t,i,(fun e n d=>by
     rcases AW d with d | d
     .exact Q.out e n d
     .rw [d];exact P.out),H⟩
    case measure=>rw[i.left_eq,F.left_eq];exact M
end
section
open Go Go.RowKit Go.Sort
theorem yF {w:World} {g B:Nat} {x:MB} {vc vn:Value} {o a b:ae} {s:Mg} (path:B8) (hE:Env w) (h:IsMer w g B x vc vn o a b s) (hp:path.length<=100000) :
  Calls Tryz.prog 67 #[.pointer (some ⟨g,0,none⟩),S8 path] w fun e l=>e=.returned (.bool (cV o a b s.out path))/\Ext w l:=by
 have H:Hid _:=h;have HE:Hid (Env w):=hE;obtain⟨b0,h0⟩:∃c,aR (et++path)=c:=⟨_,rfl⟩;obtain⟨b1,h1⟩:∃c,cE s.out path=c:=⟨_,rfl⟩;obtain⟨b2,h2⟩:∃c,cE o path=c:=⟨_,rfl⟩;obtain⟨b3,h3⟩:∃c,cE a path=c:=⟨_,rfl⟩;obtain⟨b4,h4⟩:∃c,cE b path=c:=⟨_,rfl⟩;obtain⟨b5,h5⟩:∃c,de s.out path=c:=⟨_,rfl⟩;have A:Hid (cV o a b s.out path=((b0 && !(b1 || (b2 || (b3 || (b4 || b5))))) && (cn path).all fun q=>!cE s.out q)):=by unfold Hid cV;rw[h0,h1,h2,h3,h4,h5]
 have av:(path.length:Int)<=100000:=by omega
 have C0:Hid (∀W,Ext w W->Calls Tryz.prog 34 #[.string (⟨#[119,47]⟩++⟨path.toArray⟩)] W fun e l=>e=.returned (.bool b0)/\Ext W l):=fun W p=>by
  have d:=tX (⟨#[119,47]⟩++⟨path.toArray⟩) W (HE.out.ext p) (by rw[ByteArray.size_append];show 2+path.toArray.size<_;rw[List.size_toArray];omega);rw[show((⟨#[119,47]⟩:ByteArray)++⟨path.toArray⟩).data.toList=et++path from Dc [119,47] path]at d;unfold sG at d
  rwa [h0]at d
 have C1:Hid (∀W,Ext w W->Calls Tryz.prog 94 #[.map (some x.G6),S8 path] W fun e l=>e=.returned (.bool b1)/\Ext W l):=fun W p=>by have d:=jA x.G6 s.out path W (H.out.G7.ext p) (by omega);rwa [h1]at d
 have C2:Hid (∀W,Ext w W->Calls Tryz.prog 94 #[.map (some x.go),S8 path] W fun e l=>e=.returned (.bool b2)/\Ext W l):=fun W p=>by have d:=jA x.go o path W (H.out.mo.ext p) (by omega);rwa [h2]at d
 have C3:Hid (∀W,Ext w W->Calls Tryz.prog 94 #[.map (some x.ga),S8 path] W fun e l=>e=.returned (.bool b3)/\Ext W l):=fun W p=>by have d:=jA x.ga a path W (H.out.ma.ext p) (by omega);rwa [h3]at d
 have C4:Hid (∀W,Ext w W->Calls Tryz.prog 94 #[.map (some x.gb),S8 path] W fun e l=>e=.returned (.bool b4)/\Ext W l):=fun W p=>by have d:=jA x.gb b path W (H.out.mb.ext p) (by omega);rwa [h4]at d
 have C5:Hid (∀W,Ext w W->Calls Tryz.prog 68 #[.pointer (some ⟨g,0,none⟩),S8 path] W fun e l=>e=.returned (.bool b5)/\Ext W l):=fun W p=>by have d:=pX path (H.out.ext p) (by omega);rwa [h5]at d
 have au:Hid (Ext w w):=Ext.refl w;clear h hE h0 h1 h2 h3 h4 h5;go_enter Tryz.func67,Tryz.ntmps67;go_wp2_with fail;go_at_call 34;refine(C0.out _ (Ext.refl _)).mono ?_;rintro e w1 ⟨rfl,N⟩;have t:Hid (Ext w w1):=N;have e4:=(H.out.ext t.out).f4;clear N
 cases b0 with
 | false =>
  have j:Hid (cV o a b s.out path=false):=by unfold Hid;rw[A.out];simp
  go_wp2;go_ret;exact⟨aM j.out.symm,t.out⟩
 | true =>
 go_wp2_with fail;go_at_call 94;refine(C1.out _ t.out).mono ?_;rintro e w2 ⟨rfl,O⟩;have u:Hid (Ext w w2):=t.out.trans O;have e1:=(H.out.ext u.out).f0;clear O
 cases b1 with
 | true =>
  have j:Hid (cV o a b s.out path=false):=by unfold Hid;rw[A.out];simp
  go_wp2;go_ret;exact⟨aM j.out.symm,u.out⟩
 | false =>
 go_wp2_with fail;go_at_call 94;refine(C2.out _ u.out).mono ?_;rintro e w3 ⟨rfl,Q⟩;have y:Hid (Ext w w3):=u.out.trans Q;have e2:=(H.out.ext y.out).f1;clear Q
 cases b2 with
 | true =>
  have j:Hid (cV o a b s.out path=false):=by unfold Hid;rw[A.out];simp
  go_wp2;go_ret;exact⟨aM j.out.symm,y.out⟩
 | false =>
 go_wp2_with fail;go_at_call 94;refine(C3.out _ y.out).mono ?_;rintro e w4 ⟨rfl,R⟩;have z:Hid (Ext w w4):=y.out.trans R;have e3:=(H.out.ext z.out).f2;clear R
 cases b3 with
 | true =>
  have j:Hid (cV o a b s.out path=false):=by unfold Hid;rw[A.out];simp
  go_wp2;go_ret;exact⟨aM j.out.symm,z.out⟩
 | false =>
 go_wp2_with fail;go_at_call 94;refine(C4.out _ z.out).mono ?_;rintro e w5 ⟨rfl,S⟩;have D:Hid (Ext w w5):=z.out.trans S;clear S
 cases b4 with
 | true =>
  have j:Hid (cV o a b s.out path=false):=by unfold Hid;rw[A.out];simp
  go_wp2;go_ret;exact⟨aM j.out.symm,D.out⟩
 | false =>
 go_wp2_with fail;go_at_call 68;refine(C5.out _ D.out).mono ?_;rintro e w6 ⟨rfl,T⟩;have E:Hid (Ext w w6):=D.out.trans T;clear T
 cases b5 with
 | true =>
  have j:Hid (cV o a b s.out path=false):=by unfold Hid;rw[A.out];simp
  go_wp2;go_ret;exact⟨aM j.out.symm,E.out⟩
 | false =>
 have C:Hid (cV o a b s.out path=(cn path).all fun q=>!cE s.out q):=by unfold Hid;rw[A.out];rfl
 obtain⟨P,Y⟩:∃P,cn path=P:=⟨_,rfl⟩;have ad:Hid (∀q∈P,q.length<=1000000):=fun q n=>by rw[<-Y]at n;have:=r9 path q n;omega
 have ag:Hid _:=Y;rw[Y]at C;clear Y e1 e2 e3 e4;go_wp2_with fail;go_at_call 36;refine(nN path w6 (HE.out.ext E.out) (by omega)).mono ?_;rw[ag.out];rintro e Z ⟨⟨v,rfl,hv⟩,U⟩;have F:Hid (Ext w Z):=E.out.trans U;have HV:Hid (IsStrs Z v P):=hv;obtain⟨pa,pc,rfl,p1,p2,p3,M⟩:=hv.get;have ab:Hid _:=M;clear hv U M;go_wp2_with fail;go_loopw [51] (fun i wr=>∃k:Nat,k<=P.length/\i=.int .i64 k/\Hid (Ext Z wr)/\Hid (∀q∈P.take k,cE s.out q=false)) (fun i _=>P.length - (intOf i).toNat)
 case atStart=>exact⟨0,Nat.zero_le _,rfl,Ext.refl _,fun q n=>by simp at n⟩
 case round =>
 obtain⟨k,hk,rfl,X,HN⟩:=hrel
 by_cases G:k<P.length
 case neg =>
  have ao:k=P.length:=by omega
  subst ao;have j:Hid (cV o a b s.out path=true):=by
   unfold Hid;rw[C.out,List.all_eq_true];intro q n;have d:=HN.out;rw[List.take_length]at d;rw[d q n];rfl
  go_wp2;go_ret;exact⟨aM j.out.symm,F.out.trans X.out⟩
 obtain⟨q,n⟩:∃q,P[k]? = some q:=⟨_,List.getElem?_eq_getElem G⟩;obtain⟨bb,oo,rfl,hc⟩:=ab.out k G;have y0:=X.out.cell (hc k G);rw[show P.getD k []=q by rw[List.getD_eq_getElem?_getD,n];rfl]at y0;have K:Hid (Ext w wr):=F.out.trans X.out;have e4:=(H.out.ext K.out).f4;have a0:=ad.out q (List.mem_of_getElem? n);have am:Hid _:=cC n;have ai:Hid (q∈P):=List.mem_of_getElem? n;clear hc n;obtain⟨c,L⟩:∃c,cE s.out q=c:=⟨_,rfl⟩;have HC:Hid _:=L;clear L;go_wp2_with fail;go_at_call 94;refine(jA x.G6 s.out q wr (H.out.G7.ext K.out) (by omega)).mono ?_;rw[HC.out];rintro e w8 ⟨rfl,V⟩;have J:Hid (Ext Z w8):=X.out.trans V;clear V e4 y0
 cases c with
 | true =>
  have j:Hid (cV o a b s.out path=false):=by
   unfold Hid;rw[C.out,List.all_eq_false];exact⟨q,ai.out,by rw[HC.out];simp⟩
  go_wp2;go_ret;exact⟨aM j.out.symm,F.out.trans J.out⟩
 | false =>
  have aa:Hid (∀r∈P.take (k+1),cE s.out r=false):=fun r I=>by
   rw[am.out]at I;rcases List.mem_append.1 I with I | I
   .exact HN.out r I
   .obtain rfl:r=q:=by simpa using I
    exact HC.out
  go_wp2_with fail;go_roundw
  case rel=>exact⟨k+1,by omega,by go_num,J,aa⟩
  case measure=>simp[intOf];omega
end
section
open Go Go.RowKit Go.Sort
variable {w w':World} {n:Nat}
theorem jp {a:Nat} {e:TypeId} {b:Nat} {v:Value} {xs:List Value} {k:Nat} (h:w.ownsRow a e b v n xs) (u:w.grownBy w' (some k)) (x:∃i g,w.heap[k]? = some (.map i g)):w'.ownsRow a e b v n xs:=by
 refine⟨h.1,?_⟩;rcases h.2 with o | ⟨l,j,c,p,q,d,r⟩
 .exact .inl o
 .obtain ⟨i,g,y⟩:=x;refine .inr ⟨l,j,c,p,q,?_,r⟩;exact bI u d (fun t=>by subst t;rw[y]at d;cases d)
theorem tD (h:Ext w w') (k:Option Nat):w.grownBy w' k:=⟨h.os,h.tape,h.output,h.size,fun i a _=>h.block i a⟩
section
variable {w w':World} {g B:Nat} {x:MB} {vc vn:Value} {o a b:ae} {s:Mg}
theorem IsMer.I1 (h:IsMer w g B x vc vn o a b s):g≠x.G6:=by
 obtain⟨i,e,d⟩:=h.G7.kind;intro c;have:=h.row;rw[c,d]at this;cases this
theorem IsMer.Hg (h:IsMer w g B x vc vn o a b s) (d:w.grownBy w' (some x.G6)) {c:ae} (t:IsMG bn w' x.G6 c) (u:Rising c):IsMer w' g B x vc vn o a b ⟨c,s.GV,s.notes⟩:=by
 have i:∀ {V:Fi->Value} {k:Nat} {l:ae},IsMG V w k l->k≠x.G6->IsMG V w' k l:=fun {V k l} p j=>p.stay (d.block k p.lt (by simpa using j))
 exact⟨bI d h.row h.I1,i h.mo h.ne.1,i h.ma h.ne.2.1,i h.mb h.ne.2.2.1,t,i h.mm h.ne.2.2.2,h.Hk.keep ⟨d.size,fun q r=>d.block q r.lt (fun e=>h.G7.Hu (by cases e;exact r))⟩,jp h.cp d h.G7.kind,jp h.nt d h.G7.kind,h.lo,h.ne,u,h.nm⟩
end
theorem zy (o a b c:ae) (r:Rw) (e:n<21) (h:cV o a b c (ct r.path r.id n)=true):aV o a b c r (21 - n)=some (aF c (ct r.path r.id n) (fiE (r.mode,r.id))):=by
 obtain⟨k,d⟩:∃k,21 - n=k+1:=⟨20 - n,by omega⟩;rw[d,aV,show 20 - k=n by omega,if_pos h]
theorem zx (o a b c:ae) (r:Rw) (e:n<21) (h:cV o a b c (ct r.path r.id n)=false):aV o a b c r (21 - n)=aV o a b c r (21 - (n+1)):=by
 obtain⟨k,d⟩:∃k,21 - n=k+1:=⟨20 - n,by omega⟩;rw[d,aV,show 20 - k=n by omega,if_neg (by rw[h];simp),show 21 - (n+1)=k by omega]
theorem qT (p id:B8) (n:Nat):(ct p id n).length<=p.length+9+n:=by
 unfold ct;simp only[List.length_append,List.length_take,List.length_replicate,List.length_singleton];omega
def EQ (m:Option ae) (d:ae):ae:=match m with | some f=>f | none=>d
def EG (m:Option ae):Int:=match m with | some _=>0 | none=>14
theorem lv {g B:Nat} {x:MB} {vc vn:Value} {o a b:ae} {s:Mg} (r:Rw) (hE:Env w) (h:IsMer w g B x vc vn o a b s) (hp:r.path.length<=50000) (hi:r.id.length<=50000) (hl:s.out.length<=1000000) :
  Calls Tryz.prog 46 #[.pointer (some ⟨g,0,none⟩),.agg #[S8 r.path,.int .i64 r.mode,S8 r.id]] w fun e w'=>e=.returned (.int .i64 (EG (aV o a b s.out r 21)))/\IsMer w' g B x vc vn o a b ⟨EQ (aV o a b s.out r 21) s.out,s.GV,s.notes⟩/\w.grownBy w' (some x.G6):=by
 have H:Hid _:=h;have HE:Hid (Env w):=hE;clear h hE;obtain⟨j,k,d⟩:=r;dsimp only at hp hi ⊢;go_enter Tryz.func46,Tryz.ntmps46;go_upto_region 1 with fail;obtain⟨E,l⟩:∃E,E=w.alloc (.cells #[S8 j,.int .i64 k,S8 d] 50):=⟨_,rfl⟩;have X:Hid (Ext w E):=by rw[l];exact(Ext.refl _).alloc _
 have A:E.heap[w.heap.size]? = some (.cells #[S8 j,.int .i64 k,S8 d] 50 (0,0)):=by rw[l];exact ah _ _
 rw[<-l];obtain⟨Y,K⟩:∃Y,w.heap.size=Y:=⟨_,rfl⟩;rw[K]at A ⊢;have F:Hid _:=A;clear l K A;go_wp2_with fail;go_loopw [7] (fun i wr=>∃n:Nat,n<=21/\i=.int .i64 n/\Hid (Ext E wr)/\Hid (aV o a b s.out ⟨j,k,d⟩ 21=aV o a b s.out ⟨j,k,d⟩ (21 - n))) (fun i _=>21 - (intOf i).toNat)
 case atStart=>exact⟨0,Nat.zero_le _,rfl,Ext.refl _,rfl⟩
 case round =>
 obtain⟨n,hn,rfl,W,S⟩:=hrel;have z:Hid (Ext w wr):=X.out.trans W.out
 by_cases L:n<21
 case neg =>
  have ab:n=21:=by omega
  subst ab;have HR:Hid (aV o a b s.out ⟨j,k,d⟩ 21=none):=S.out;go_wp2;go_ret;rw[HR.out];exact⟨rfl,H.out.ext z.out,tD z.out _⟩
 have ag:(n:Int)<21:=by omega
 obtain⟨N,O,P⟩:=cD (W.out.row F.out);go_wp2_with fail;go_at_call 39;refine(qU j d n wr (by omega) (by omega) (by omega)).mono ?_;obtain⟨q,t⟩:∃q,ct j d n=q:=⟨_,rfl⟩;have ad:=qT j d n;rw[t]at ad ⊢;have V:Hid _:=t;rintro e w2 ⟨rfl,C⟩;have u:Hid (Ext w w2):=z.out.trans C;have G:Hid (Ext E w2):=W.out.trans C;clear t C N O P;obtain⟨c,hc⟩:∃c,cV o a b s.out q=c:=⟨_,rfl⟩;have Q:Hid _:=hc;clear hc;go_wp2_with fail;go_at_call 67;refine(yF q (HE.out.ext u.out) (H.out.ext u.out) (by omega)).mono ?_;rw[Q.out];rintro e w3 ⟨rfl,D⟩;have I:Hid (Ext w w3):=u.out.trans D;have p:Hid (Ext E w3):=G.out.trans D;clear D
 cases c with
 | false =>
  have T:Hid (aV o a b s.out ⟨j,k,d⟩ 21=aV o a b s.out ⟨j,k,d⟩ (21 - (n+1))):=by
   unfold Hid;rw[S.out];exact zx o a b s.out ⟨j,k,d⟩ L (by show cV o a b s.out (ct j d n)=false;rw[V.out];exact Q.out)
  go_wp2_with fail;go_roundw
  case rel=>exact⟨n+1,by omega,by go_num,p,T⟩
  case measure=>simp[intOf];omega
 | true =>
  have U:Hid (aV o a b s.out ⟨j,k,d⟩ 21=some (aF s.out q (fiE (k,d)))):=by
   unfold Hid;rw[S.out,<-V.out];exact zy o a b s.out ⟨j,k,d⟩ L (by show cV o a b s.out (ct j d n)=true;rw[V.out];exact Q.out)
  have y4:=(H.out.ext I.out).f4;obtain⟨N,O,P⟩:=cD (p.out.row F.out);go_upto_region 6 with fail;apply ak 7 [.pointer (some ⟨g,0,none⟩),.pointer (some ⟨g,0,none⟩),.pointer (some ⟨g,4,none⟩),.map (some x.G6),S8 q,.pointer (some ⟨Y,1,none⟩),.agg #[.int .i64 k,S8 d]] [none,none,none,none,none,none,none] [[],[0],[1],[2],[],[],[5]] (by kernel_rfl) (by kernel_rfl) (by simp[aq])
  .trivial
  .simp (maxSteps:=1000000)only[List.take_succ_cons,List.take_zero,ay,aB,af,Act.put,List.setIfInBounds_toArray,List.set_cons_zero,List.set_cons_succ,aE,aH,aq,List.getD_cons_zero,List.getD_cons_succ,and_true,true_and,forall_const];and_intros
   iterate 7 · intro xs wq t;intros;rename_i hR;have f0:=t.cell y4;have f1:=t.cell N;have f2:=t.cell O;have f3:=t.cell P;go_simp;exact hR _ _ (Ext.refl _) rfl
  intro xs w4 M Z;simp only[aG,Nat.zero_add,Nat.reduceAdd,and_true]at Z;simp(maxSteps:=1000000)only[List.take_succ_cons,List.take_zero,List.drop_succ_cons,List.drop_zero,af,Act.put,List.setIfInBounds_toArray,List.set_cons_zero,List.set_cons_succ,Nat.zero_add,Nat.reduceAdd,Z];clear Z;have y:Hid (Ext w w4):=I.out.trans M;have R:Hid (IsMG bn w4 x.G6 s.out):=(H.out.ext y.out).G7;clear M y4 N O P
  go_wp2_with (refine kK 59 41 Tryz.underlying59 rfl _ _ _ rfl R.out (by omega) rfl q (by omega) rfl ⟨k,d,0⟩ rfl ?_;intro w5 aa J)
  go_ret;rw[U.out];exact⟨rfl,(H.out.ext y.out).Hg J aa (H.out.G2.put _ _),uF y.out J⟩
end
section
open Go Go.Shelf Go.RowKit Go.Lib Go.Sort
theorem uf (v:Value) (l:List Rw) (c:Nat) (w:World) (h:w.ownsRow c 50 3 v l.length (l.flatMap rwC)) (R:l.length<=1000000) :
  Calls Tryz.prog 50 #[v,.func (.func 51) #[] #[]] w fun e o=>e=.returned (.tuple #[])/\∃s:List Rw,s.Perm l/\(s.Pairwise fun a b=>ltB b.path a.path=false)/\o.ownsRow c 50 3 v s.length (s.flatMap rwC)/\w.grownBy o v.ownBlock:=by
 rcases h.2 with⟨rfl,L⟩ | ⟨g,t,J,rfl,-⟩
 .obtain rfl:l=[]:=List.eq_nil_of_length_eq_zero L;exact(AnyF.slices_SortFunc_none { Tryz.laysSortR with } none 0 _ w).mono fun e o ⟨q,r⟩=>⟨q,[],List.Perm.refl _,List.Pairwise.nil,World.ownsRow_nil _ _ _ _,by rw[r];exact⟨rfl,rfl,rfl,Nat.le_refl _,fun _ _ _=>rfl⟩⟩
 .have O:=Eb h;have K:∀args w,(callFunc 51 args).run Tryz.prog w=.ok (.enter 51 args) w:=enters_of Tryz.func51 (by kernel_rfl) rfl;have p:CmpLays Tryz.prog 51 #[] rwC 3 qt g 0 l.toArray.size w:=fun m I Q N x y=>(zF x y _).mono fun e o ⟨q,C,r⟩=>⟨q,0,C,r⟩
  have H:l.toArray.size=l.length:=by simp
  have F:=AnyQ.slices_SortFunc Tryz.laysSortR 3 (fun w=>Tryz.isAgg50 w) (fun w=>Tryz.sizeOf50 w) rwC CY CZ qt Aw 51 #[] g 0 t l.toArray w K p (zp h) O (by omega);rw[H]at F;refine Calls.mono F fun e o ⟨q,k,n,I,G,B,r⟩=>?_
  have S:SWK rwC 3 w g 0 k o:=⟨n,I,r⟩;have d:k.size=l.length:=by rw[G.1,H]
  refine⟨q,k.toList,?_,?_,?_,zL S⟩
  .have D:=G.2.2;rw[Array.extract_eq_self_of_le (by omega),Array.extract_eq_self_of_le (by omega)]at D;exact D
  .rw [List.pairwise_iff_getElem];intro i j P A z;have E:=B i j (Nat.zero_le _) z (by rw[Array.length_toList,d]at A;exact A);rw[mT,getElem!_pos k j (by simpa using A),getElem!_pos k i (by simpa using P)]at E;simpa using E
  .have M:=Df h S d;have u:k.toList.length=l.length:=by rw[Array.length_toList,d]
   rw[u];exact M
theorem xJ {l:ae} (h:Rising l):cK (aI l):=by
 unfold cK aI;rw[List.pairwise_map];exact h
theorem Da {s l:List Rw} (d:cK l) (e:s.Perm l) (n:s.Pairwise fun a b=>ltB b.path a.path=false):s=l:=by
 have j:l.Pairwise fun a b=>a.path≠b.path:=List.Pairwise.imp (fun h=>fp h) d
 have c:s.Pairwise fun a b=>a.path≠b.path:=(List.Perm.pairwise_iff (fun h=>Ne.symm h) e).2 j
 exact mB (List.Pairwise.imp₂ (fun a b g i=>jG g (fun k=>i k.symm)) n c) d (fun x=>e.mem_iff)
theorem mD {w:World} {g B:Nat} {x:MB} {vc vn:Value} {o a b:ae} {s:Mg} (h:IsMer w g B x vc vn o a b s) (hl:s.out.length<=100000) :
  Calls Tryz.prog 31 #[.pointer (some ⟨g,0,none⟩)] w fun e w'=>(∃v,e=.returned v/\w'.ownsRow w.heap.size 50 3 v s.out.length ((aI s.out).flatMap rwC))/\Ext w w':=by
 obtain⟨l,au⟩:∃l,s.out=l:=⟨_,rfl⟩;have hm:=h.G7;have hr:=h.G2;have e4:=h.f4;rw[au]at hm hr hl ⊢;obtain⟨R,Z⟩:∃R,x.G6=R:=⟨_,rfl⟩;rw[Z]at hm e4;have i:=hm.map;have bc:=hm.lt;have HR:Hid (Rising l):=hr;have HA:Hid _:=l' bn (l:=l);clear h au Z hm hr;go_enter Tryz.func31,Tryz.ntmps31
 go_wp2_with (first
  | (at_range;refine wpList_range_own _ rfl _ 59 rfl 9 41 iV Tryz.underlying59 _ R _ _ rfl i ?_;intro w0 a0 bh bq)
  | go_in)
 clear e4
 go_frame
 go_loopw [3] (fun sv wr=>∃(left:Lit->Bool) (H:Nat) (C:List Rw),wr.ranges Tryz.prog 9 gM R w.heap.size l.length (cX bn l) left H/\wr.ownsRow w.heap.size 50 3 sv C.length (C.flatMap rwC)/\(C++aI (d8 left l)).Perm (aI l)/\Ext w wr)
  (fun _ wr=>wr.rangeLeft R w.heap.size)
 case atStart=>exact⟨_,_,[],a0,World.ownsRow_nil _ _ _ _,by rw[HA.out];exact List.Perm.refl _,Below.grown (Below.refl _ _) bh (Nat.le_refl _) (fun j hj=>by cases hj)⟩
 case round =>
  obtain⟨left,H,C,M,i,L,hx⟩:=hrel;have T:Hid _:=L;have bm:C.length<=l.length:=by
   have:=L.length_eq;simp only[List.length_append,aI,List.length_map]at this;omega
  have y:Hid _:=i;clear L i
  go_wp2_with (at_next;refine nh bn rfl _ rfl R w.heap.size _ l _ _ rfl M ?_ ?_)
  .intro bp ad;have av:C.Perm (aI l):=by
    have:=T.out;rw[lg ad]at this;simpa [aI]using this
   have a6:Hid (C.Perm (aI l)):=av;have a':Hid (Ext w wr):=hx;clear ad av hx;go_wp2_with fail;go_at_call 50;refine(uf _ C w.heap.size wr y.out (by omega)).mono ?_;rintro e u ⟨rfl,S,X,Y,W,V⟩;have ba:=Da (xJ HR.out) (X.trans a6.out) Y;subst ba;have a7:Hid _:=W;have bb:Ext w u:=aA a'.out y.out V;clear X Y V W;go_wp2;go_ret;have hO:=a7.out;rw[show(aI l).length=l.length by simp[aI]]at hO;exact⟨⟨_,rfl,hO⟩,bb⟩
  .intro q f Q E ag am G ai J bi aa;have a1:=iC (f:=f) am HR.out ag;obtain⟨t,r,ft⟩:=f;have F:((C++[(⟨q,t,r⟩:Rw)])++aI (d8 (fW left q) l)).Perm (aI l):=by
    refine List.Perm.trans ?_ T.out;rw[List.append_assoc];refine List.Perm.append_left C ?_;exact(List.Perm.map (fun e:B8×Fi=>(⟨e.1,e.2.mode,e.2.data⟩:Rw)) a1).symm
   have a4:Hid _:=F;have ao:=row_ne_iter y.out M;have n:=World.ownsRow.kept y.out J (.inr ao.symm);have a2:Ext w Q:=Below.grown hx J hx.size (fun j hj=>by cases hj;exact Nat.le_refl _);have ab:(Instr.entry (.pointer (some ⟨w.heap.size,0,none⟩))).run Tryz.prog Q=.ok (.tuple #[S8 q,.agg #[.int .i64 t,S8 r]]) Q:=aa;have a9:Hid (Ext w Q):=a2;have a5:Hid _:=n;have d:=G.alloc (.cells #[.int .i64 t,S8 r] 41);have a3:Hid (E<H):=ai;clear ag a1 F am ao n a2 bi aa J G ai;go_upto_region 5 with fail;obtain⟨u,z⟩:∃u,u=Q.alloc (.cells #[.int .i64 t,S8 r] 41):=⟨_,rfl⟩;have N:Ext Q u:=by rw[z];exact(Ext.refl _).alloc _
   have I:u.heap[Q.heap.size]? = some (.cells #[.int .i64 t,S8 r] 41 (0,0)):=by rw[z];exact ah _ _
   rw[<-z]at d ⊢;have z0:=(cell_of_row _ _ 0 _ _ _ I).trans rfl;have z1:=(cell_of_row _ _ 1 _ _ _ I).trans rfl;have P:Ext u (u.alloc (.cells #[S8 q,.int .i64 t,S8 r] 50)):=(Ext.refl _).alloc _;have c:=az a5.out (N.trans P);have O:=(a9.out.trans N).trans P;have bk:w.heap.size<=(u.alloc (.cells #[S8 q,.int .i64 t,S8 r] 50)).heap.size:=O.size;have p:=d.alloc (.cells #[S8 q,.int .i64 t,S8 r] 50);have D:Hid _:=row_ne_iter c p;have A:Hid _:=row_ne_low c bc;have U:Hid _:=O;clear z N I P d O ab
   go_wp2_with (at_builtin;go_must (refine yb rfl _ _ rfl w.heap.size _ C.length _ rfl c u.heap.size 1 ⟨q,t,r⟩ rfl (ah _ _) (by omega) bk ?_;intro v' w3 K k _))
   go_roundw
   case rel=>exact⟨_,E,C++[⟨q,t,r⟩],p.kept k A.out D.out,by rw[List.length_append,List.flatMap_append];exact K,a4.out,Below.grown U.out k U.out.size (fun j hj=>(c.lt j hj).1)⟩
   case measure=>rw[(p.kept k A.out D.out).left_eq,M.left_eq];exact a3.out
end
end Go.Proofs.YtgfegpnmlkdjfaaGreatDoor
