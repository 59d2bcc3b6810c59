/- Contracts of the program's functions and plain laws behind the card. Conditions: as each theorem states. -/
import Derived.Test.YtfabjgfmiaammaaGreatDoorYao
import Derived.Test.YtfabjgfmiaammaaGreatDoorYah
import Derived.Test.YtfabjgfmiaammaaGreatDoorYaq
import Derived.Laws.CopyOwn
import Derived.Deep.Onto
set_option linter.unusedVariables false
set_option linter.unusedSimpArgs false
set_option linter.unusedSectionVars false
set_option maxRecDepth 100000
set_option maxHeartbeats 64000000
namespace Go.Proofs.YtfabjgfmiaammaaGreatDoor
section
open Go Go.RowKit
variable {cb:Nat} {st:List UInt32} {rest:Value} {n:Int}
theorem fR (h:st.length=8):(bm cb st rest n)[9]? = some rest/\(bm cb st rest n)[10]? = some (Value.int .i64 n):=by
 obtain⟨a,b,c,d,e,g,i,j,rfl⟩:=gY h;exact⟨rfl,rfl⟩
theorem mw {new:Value} (h:st.length=8):bm cb st new n=((bm cb st rest n).toList.take 9++[new]++(bm cb st rest n).toList.drop (9+1)).toArray:=by
 obtain⟨a,b,c,d,e,g,i,j,rfl⟩:=gY h;rfl
theorem qS {new:Int} (h:st.length=8):bm cb st rest new=((bm cb st rest n).toList.take 10++[Value.int .i64 new]++(bm cb st rest n).toList.drop (10+1)).toArray:=by
 obtain⟨a,b,c,d,e,g,i,j,rfl⟩:=gY h;rfl
theorem pk (v:Value) (l:B8) (w:World) (y:IsBytes w v l) (F:l.length<=140737488355328) :
  Calls Tryz.prog 54 #[v] w fun e k=>(∃v,e=.returned v/\k.ownsRow w.heap.size 5 1 v l.length (l.map fun x=>.int .u8 x.toNat))/\Ext w k:=by
 obtain⟨a,d,rfl,C,D,E,p⟩:=y
 cases a with
 | none =>
  have u:l=[]:=by
   cases l with
   | nil=>rfl
   | cons x l=>obtain⟨b,o,j,_⟩:=p (by simp);cases j
  subst u;exact(Tryz.bytes_Clone_nil 0 d w).mono fun e k ⟨j,z⟩=>⟨⟨_,j,World.ownsRow_nil _ _ _ _⟩,by rw[z];exact Ext.refl _⟩
 | some r =>
  refine(Tryz.bytes_Clone_at r l.length d (l.map fun x=>(x.toNat:Int)) w (by simp) (by omega) (fun i q=>?_)).mono fun e k ⟨B,j,c,_,A⟩=>⟨⟨B,j,?_⟩,A⟩
  .have n:l≠[]:=by rintro rfl;simp at q
   obtain⟨b,o,h,t⟩:=p (by simpa using n);cases h;have g:(⟨b,o,none⟩:Addr).add i=⟨b,o+i,none⟩:=by unfold Addr.add;split <;> simp_all
   rw[g];refine t i _ ?_;simp[q]
  .rw [List.map_map]at c;exact c
structure Wr (w wr:World) (hb cb:Nat) (goal:List UInt32×B8) (n:Int) (st:List UInt32) (rv:Value) (r:B8):Prop where
 fr:Fr (fun k=>k=hb) w wr
 BY:st.length=8
 cells:wr.heap[hb]? = some (.cells (bm cb st rv n) 221 (0,0))
 bytes:IsBytes wr rv r
 Dx:TypB wr rv
 len:r.length<=20000000
 goal:be st r=goal
def restLen (w:World) (a:Nat):Nat:=match w.cell? ⟨a,9,none⟩with
 | some (.slice _ n _)=>n
 | _=>0
theorem Wr.restLen {w wr:World} {c:Nat} {b:List UInt32×B8} {e:Value} {r:B8} (h:Wr w wr c cb b n st e r):restLen wr c=r.length:=by
 obtain⟨a,d,rfl,-⟩:=id h.bytes;unfold Go.Proofs.YtfabjgfmiaammaaGreatDoor.restLen;rw[(cell_of_row _ _ 9 _ _ _ h.cells).trans (fR h.BY).1]
theorem qi (i cb:Nat) (st:List UInt32) (I v:Value) (r b:B8) (n:Nat) (o:List Value) (w:World) (z:st.length=8) (ho:o.length=3) (bs:i≠cb) (hn:n<=1000000000)
  (C:w.heap[i]? = some (.cells (bm cb st I n) 221 (0,0))) (hc:w.heap[cb]? = some (.cells (eb o) 219 (0,0))) (hr:IsBytes w I r) (bt:TypB w I) (hv:IsBytes w v b) (bb:Out (fun k=>k=i) w v) (b5:r.length<=10000000) (hl:b.length<=10000000) :
  Calls Tryz.prog 124 #[.pointer (some ⟨i,0,none⟩),v] w fun e w'=>e=.returned (.tuple #[])/\∃(A:List UInt32) (G:Value) (r':B8),Wr w w' i cb (be st (r++b)) (n+b.length) A G r'/\(A,r')=be st (r++b):=by
 obtain⟨a,a5,rfl,h1,h2,h3,-⟩:=hv.get;have HC:Hid _:=hc;have HR:Hid _:=hr;have HV:Hid _:=hv;have bl:Hid _:=bb;have J:Hid _:=z;have HO:Hid _:=ho;have HG:Hid _:=C;have c9:w.cell? ⟨i,9,none⟩=some I:=(cell_of_row _ _ 9 _ _ _ C).trans (fR z).1;have bo:w.cell? ⟨i,10,none⟩=some (.int .i64 (n:Int)):=(cell_of_row _ _ 10 _ _ _ C).trans (fR z).2;have bx:(bm cb st I (n:Int)).size=11:=by rw[gX,z]
 have X:=qS (cb:=cb) (rest:=I) (n:=(n:Int)) (new:=(n:Int)+b.length) z;clear hc hr hv bb z ho;go_enter Tryz.func124,Tryz.ntmps124;go_upto_region 1 with(refine ag rfl 3 (.tmp 12) (.tmp 10) rfl i 10 rfl (.int .i64 ((n:Int)+b.length)) rfl rfl _ _ C (by omega) fh (bm cb st I ((n:Int)+b.length)) X ?_;intro w2 Z V);have U:Fr (fun k=>k=i) w w2:=(Fr.refl _ w).step V (fun j E=>by cases E;exact .inl rfl) (by rintro j E;cases E;exact mf C);have d9:w2.cell? ⟨i,9,none⟩=some I:=(cell_of_row _ _ 9 _ _ _ Z).trans (fR J.out).1;have B:Hid _:=U;have bh:Hid _:=Z;clear Z V U c9 bo X C;have a1:Hid (IsBytes w2 I r):=Row.B' HR.out bt B.out.keep;go_wp2_with fail;go_at_call 54;refine(pk I r w2 a1.out (by omega)).mono ?_;rintro e w3 ⟨⟨v3,rfl,F⟩,S⟩;have a2:Hid (IsBytes w3 (.slice a b.length a5) b):=IsBytes.ext (IsBytes.fr (O:=fun k=>k=i) HV.out bl.out B.out) S;have q:Hid (w3.ownsRow w2.heap.size 5 1 v3 r.length (r.map fun x:UInt8=>Value.int .u8 (x.toNat:Int))):=F;have a4:Hid _:=S;have bv:=S.size;clear F S
 go_wp2_with first | (at_builtin;go_must (refine tu _ _ _ 1 1 Tryz.underlying37 gO rfl (by omega) rfl _ _ rfl rfl w2.heap.size v3 r.length (r.map fun x:UInt8=>Value.int .u8 (x.toNat:Int)) rfl q.out (.slice a b.length a5) b.length (b.map fun x:UInt8=>Value.int .u8 (x.toNat:Int)) rfl a2.out (by simp) (by intro u hu;obtain⟨_,_,rfl⟩:=List.mem_map.1 hu;rfl) (by omega) (by omega) bv ?_;intro v4 w4 l W;rw[<-List.map_append]at l;have ad:Ext w2 w4:=aj a4.out q.out W;have a9:v4.oneCell'=true:=(by rcases l.2 with⟨rfl,_⟩ | ⟨g,c,b2,rfl,_⟩ <;> rfl);have N:=Ext.row ad bh.out)) | (refine ag rfl 37 (.tmp 22) (.tmp 20) rfl i 9 rfl v4 rfl a9 _ _ N (by rw[gX,J.out];omega) fD (bm cb st v4 ((n:Int)+b.length)) (mw J.out) ?_;intro w5 a7 D)
 have Y:Wr w w5 i cb (be st (r++b)) ((n:Int)+b.length) st v4 (r++b):=by
  have hk:KeepB w4 w5:=KeepB.B1 D N (by kernel_rfl);have ba:TypB w4 v4:=TypB.BV l;refine⟨(B.out.ext ad).step D (fun j E=>by cases E;exact .inl rfl) (by rintro j E;cases E;exact mf N),J.out,a7,?_,ba.keep hk,by rw[List.length_append];omega,rfl⟩;have a':=Row.BV l (by omega);unfold IsBytes;rw[List.length_append];exact a'.B' ba hk
 have a3:Hid _:=Y;clear Y a7 D N a9 ad W l d9 bx a4 q a2 a1
 go_frame
 go_loopw [] (fun wr=>∃(A:List UInt32) (G:Value) (r':B8),Wr w wr i cb (be st (r++b)) ((n:Int)+b.length) A G r') (fun wr=>restLen wr i)
 case atStart=>exact⟨st,v4,r++b,a3.out⟩
 case round =>
  obtain⟨s6,r6,p,t⟩:=hrel;have d:Hid _:=t;have bk:Hid _:=t.restLen;obtain⟨K,L,rfl,k1,k2,k3,-⟩:=t.bytes.get;have e9:wr.cell? ⟨i,9,none⟩=some (.slice K p.length L):=(cell_of_row _ _ 9 _ _ _ t.cells).trans (fR t.BY).1;have b4:=t.len;clear t
  by_cases Q:64<=p.length
  .go_wp2_with fail;go_at_call 182;refine(As i cb s6 (.slice K p.length L) (.slice K 64 L) ((n:Int)+b.length) (p.take 64) o wr d.out.BY HO.out d.out.cells (d.out.fr.row HC.out (fun h=>bs h.symm)) (IsBytes.head 64 d.out.bytes Q) (by rw[List.length_take];omega)).mono ?_;rintro e w7 ⟨rfl,P,M⟩;have R:(eW s6 (p.take 64)).length=8:=oS d.out.BY;have a0:Hid _:=R;have b3:w7.cell? ⟨i,9,none⟩=some (.slice K p.length L):=(cell_of_row _ _ 9 _ _ _ P).trans (fR R).1;have b1:Hid _:=M;have T:∀H,H.heap[i]? = some (.cells (bm cb (eW s6 (p.take 64)) (tailV K p.length L 64) ((n:Int)+b.length)) 221 (0,0))->w7.grownBy H (some i) ->
     (∃(A:List UInt32) (G:Value) (r':B8),Wr w H i cb (be st (r++b)) ((n:Int)+b.length) A G r')/\restLen H i<restLen wr i:=by
    intro H aa y;have a8:KeepB wr H:=M.keep.trans (KeepB.B1 y P (by kernel_rfl));have bq:IsBytes H (.slice K p.length L) p:=Row.B' d.out.bytes d.out.Dx a8;have bS:TypB H (.slice K p.length L):=d.out.Dx.keep a8;obtain⟨br,b0⟩:=IsBytes.tailV 64 bq Q bS;have bd:Wr w H i cb (be st (r++b)) ((n:Int)+b.length) (eW s6 (p.take 64)) (tailV K p.length L 64) (p.drop 64):=by
     refine⟨(d.out.fr.trans (M.mono fun k hk=>.inl hk)).step y (fun j E=>by cases E;exact .inl rfl) (by rintro j E;cases E;exact mf P),R,aa,br,b0,by rw[List.length_drop];omega,?_⟩;have C:=d.out.goal;rw[be,if_pos Q]at C;exact C
    refine⟨⟨_,_,_,bd⟩,?_⟩;rw[bd.restLen,bk.out,List.length_drop];omega
   have au:Hid _:=T;clear M R e9 T
   go_wp2_with (refine ag rfl 37 _ _ rfl i 9 rfl (tailV K p.length L 64) rfl rfl _ _ P (by rw[gX,a0.out];omega) fD _ (mw a0.out) ?_;intro H aa y)
   all_goals exact au.out H aa y
  .go_wp2_with fail
   go_end0
   have C:be s6 p=(s6,p):=by rw[be,if_neg Q]
   exact⟨rfl,s6,_,p,d.out,C.symm.trans d.out.goal⟩
end
section
open Go Go.RowKit
theorem xR (c cb:Nat) (st:List UInt32) (rv:Value) (r:B8) (n:Nat) (w:World) (z:st.length=8)
  (d:w.heap[c]? = some (.cells (bm cb st rv n) 221 (0,0))) (X:IsBytes w rv r) (aa:r.length<=10000000) :
  Calls Tryz.prog 183 #[.pointer (some ⟨c,0,none⟩)] w fun e q=>(∃(g:Nat) (o:Value),e=.returned (.pointer (some ⟨g,0,none⟩))/\w.heap.size<=g/\q.heap[g]? = some (.cells (bm cb st o n) 221 (0,0))/\IsBytes q o r/\TypB q o)/\Ext w q:=by
 obtain⟨G,H,I,J,K,L,M,N,rfl⟩:=gY z;obtain⟨a,y,rfl,h1,h2,h3,-⟩:=X.get;have HG:Hid _:=d;have HR:Hid (IsBytes w (.slice a r.length y) r):=X;have D:w.cell? ⟨c,0,none⟩=some (.pointer (some ⟨cb,0,none⟩)):=(cell_of_row _ _ 0 _ _ _ d).trans rfl;have Y:w.cell? ⟨c,1,none⟩=some (U32 G):=(cell_of_row _ _ 1 _ _ _ d).trans rfl;have Z:w.cell? ⟨c,2,none⟩=some (U32 H):=(cell_of_row _ _ 2 _ _ _ d).trans rfl;have c3:w.cell? ⟨c,3,none⟩=some (U32 I):=(cell_of_row _ _ 3 _ _ _ d).trans rfl;have c4:w.cell? ⟨c,4,none⟩=some (U32 J):=(cell_of_row _ _ 4 _ _ _ d).trans rfl;have c5:w.cell? ⟨c,5,none⟩=some (U32 K):=(cell_of_row _ _ 5 _ _ _ d).trans rfl;have c6:w.cell? ⟨c,6,none⟩=some (U32 L):=(cell_of_row _ _ 6 _ _ _ d).trans rfl;have c7:w.cell? ⟨c,7,none⟩=some (U32 M):=(cell_of_row _ _ 7 _ _ _ d).trans rfl;have c8:w.cell? ⟨c,8,none⟩=some (U32 N):=(cell_of_row _ _ 8 _ _ _ d).trans rfl;have E:w.cell? ⟨c,9,none⟩=some (.slice a r.length y):=(cell_of_row _ _ 9 _ _ _ d).trans rfl;have F:w.cell? ⟨c,10,none⟩=some (.int .i64 (n:Int)):=(cell_of_row _ _ 10 _ _ _ d).trans rfl;clear X d z;go_enter Tryz.func183,Tryz.ntmps183;go_wp2_with fail;apply ak 17 [_,_,_,_,_,_,_,.agg #[U32 G,U32 H,U32 I,U32 J,U32 K,U32 L,U32 M,U32 N],_,_,_,_,undef,_,_,_,_] [none,none,none,none,none,none,none,none,none,none,none,none,some (fun u q=>q.ownsRow w.heap.size 5 1 u r.length (r.map fun x=>.int .u8 x.toNat)),none,none,none,none] [[],[0],[1],[2],[],[4],[5],[6],[],[8],[9],[10],[11],[],[13],[14],[15]] (by kernel_rfl) (by kernel_rfl) (by simp[aq])
 .refine ⟨?_,trivial⟩
  .exact fun _ _ _ he h=>am h he
 .simp (maxSteps:=1000000)only[List.take_succ_cons,List.take_zero,ay,aE,ab,Act.put,List.setIfInBounds_toArray,List.set_cons_zero,List.set_cons_succ,aN,aS,aq,List.getD_cons_zero,List.getD_cons_succ,and_true,true_and,forall_const];and_intros
  iterate 7 · intro t S b;intros;rename_i j;have f0:=b.cell D;have U:=b.cell E;have V:=b.cell F;go_simp;exact j _ _ (Ext.refl _) rfl
  .intro t S b p R j;have f1:=b.cell Y;have U:=b.cell Z;have V:=b.cell c3;have f4:=b.cell c4;have f5:=b.cell c5;have f6:=b.cell c6;have f7:=b.cell c7;have f8:=b.cell c8;go_simp;exact j _ _ (Ext.refl _) rfl
  iterate 4 · intro t S b;intros;rename_i j;have f0:=b.cell D;have U:=b.cell E;have V:=b.cell F;go_simp;exact j _ _ (Ext.refl _) rfl
  .intro t S b p R j;go_simp;exact(pk _ r _ (HR.out.ext b) (by omega)).mono (by rintro e' w4 ⟨⟨v2,rfl,h1⟩,h3⟩;exact⟨_,rfl,j _ _ h3 (jj h1 b.size)⟩)
  iterate 4 · intro t S b;intros;rename_i j;have f0:=b.cell D;have U:=b.cell E;have V:=b.cell F;go_simp;exact j _ _ (Ext.refl _) rfl
 intro t C A p;simp only[aU,Nat.zero_add,Nat.reduceAdd,and_true]at p;have l:=p.2.2.2.2.2.2.2.2.2.2.2.2.1;simp(maxSteps:=1000000)only[List.take_succ_cons,List.take_zero,List.drop_succ_cons,List.drop_zero,ab,Act.put,List.setIfInBounds_toArray,List.set_cons_zero,List.set_cons_succ,Nat.zero_add,Nat.reduceAdd,p];clear p;generalize t 12=ad at *;obtain⟨O,P,rfl,-⟩:=Row.BV l (by omega);have T:Hid (C.ownsRow w.heap.size 5 1 (.slice O r.length P) r.length (r.map fun x=>.int .u8 x.toNat)):=l;clear l D E F Y Z c3 c4 c5 c6 c7 c8;go_wp2_with fail;obtain⟨Q,i⟩:∃Q,Q=C.alloc (.cells (bm cb [G,H,I,J,K,L,M,N] (.slice O r.length P) n) 221):=⟨_,rfl⟩;have B:Ext C Q:=by rw[i];exact(Ext.refl _).alloc _
 have W:Q.heap[C.heap.size]? = some (.cells (bm cb [G,H,I,J,K,L,M,N] (.slice O r.length P) n) 221 (0,0)):=by rw[i];exact ae _ _
 have k:=am T.out B;go_ret;refine⟨⟨C.heap.size,.slice O r.length P,rfl,A.size,?_,?_,?_⟩,?_⟩
 .exact i▸W
 .exact i▸Row.BV k (by omega)
 .exact i▸TypB.BV k
 .exact i▸A.trans B
end
section
open Go Go.RowKit
def qz:Value->Nat
 | .slice _ n _=>n
 | _=>0
theorem tS (n:Nat):cW n<64:=by unfold cW;omega
variable {k:Nat}
theorem tR {n:Nat} (a:k<=cW n):(n+(1+k))%64=56↔k=cW n:=by
 unfold cW at a ⊢;omega
def gR (n k:Nat):B8:=128::List.replicate (cW n) 0++(be8 (8*n)).take k
theorem lF (n:Nat):gR n 8=iC n:=rfl
theorem pN (n:Nat) (h:k<8):gR n (k+1)=gR n k++[UInt8.ofNat (8*n / 2 ^ (56 - 8*k))]:=by
 unfold gR;rw[List.append_assoc];congr 1;rcases(by omega:k=0\/k=1\/k=2\/k=3\/k=4\/k=5\/k=6\/k=7)with rfl | rfl | rfl | rfl | rfl | rfl | rfl | rfl <;> rfl
theorem no (n:Nat) (h:k<=8):(gR n k).length=1+cW n+k:=by
 unfold gR;rw[List.length_append,List.length_cons,List.length_replicate,List.length_take,show(be8 (8*n)).length=8 from rfl];omega
theorem mN (x:UInt32) (k:Nat) (a:k<32):(x.toNat:Int) / (2 ^ k:Int)%256=((UInt8.ofNat (x >>> UInt32.ofNat k).toNat).toNat:Int):=by
 rw[hZ x k a];generalize(x >>> UInt32.ofNat k).toNat=m;rw[UInt8.toNat_ofNat'];exact(Int.natCast_emod m 256).symm
theorem zf (hb cb:Nat) (st:List UInt32) (rv:Value) (r:B8) (n:Nat) (o:List Value) (w:World) (W:st.length=8) (ho:o.length=3) (hn:n<=10000000)
  (hg:w.heap[hb]? = some (.cells (bm cb st rv n) 221 (0,0))) (hc:w.heap[cb]? = some (.cells (eb o) 219 (0,0))) (hr:IsBytes w rv r) (ca:r.length<=10000000) :
  Calls Tryz.prog 125 #[.pointer (some ⟨hb,0,none⟩)] w fun e w'=>(∃v,e=.returned v/\w'.ownsRow w.heap.size 5 1 v 32 (((be st (r++iC n)).1.flatMap eu).map fun x=>.int .u8 x.toNat))/\Ext w w':=by
 have HC:Hid _:=hc;have HR:Hid (IsBytes w rv r):=hr;have Z:Hid _:=W;have HO:Hid _:=ho;have HG:Hid _:=hg;have co:=(Array.getElem?_eq_some_iff.1 hc).1;have au:w.cell? ⟨hb,10,none⟩=some (.int .i64 (n:Int)):=(cell_of_row _ _ 10 _ _ _ hg).trans (fR W).2;clear hc hr W ho hg;go_enter Tryz.func125,Tryz.ntmps125;go_upto_region 2 with(go_at_call 183;go_must (refine(xR hb cb st rv r n w Z.out HG.out HR.out ca).mono ?_;rintro e l ⟨⟨g,M,rfl,b7,a4,a7,a9⟩,K⟩));have bh:Hid _:=a4;have bq:Hid (IsBytes l M r):=a7;have br:Hid (TypB l M):=a9;have aa:Hid (Ext w l):=K;have b5:=K.cell au;have cs:=K.size;clear a4 a7 a9 K au;go_wp2_with fail;have a':Ext l (l.alloc (.cells #[.int .u8 128] 5)):=(Ext.refl _).alloc _;have E:(l.alloc (.cells #[.int .u8 128] 5)).ownsRow l.heap.size 5 1 (.slice (some ⟨l.heap.size,0,none⟩) 1 1) (1+0) ((128::List.replicate 0 0:B8).map fun x=>.int .u8 x.toNat):=⟨rfl,.inr ⟨l.heap.size,1,#[.int .u8 128],rfl,Nat.le_refl _,ae _ _,Nat.le_refl _,by unfold maxLen;omega,rfl,rfl⟩⟩;have cq:=tS n;have bx:Hid _:=a';have P:Hid ((l.alloc (.cells #[.int .u8 128] 5)).ownsRow l.heap.size 5 1 (.slice (some ⟨l.heap.size,0,none⟩) 1 1) (1+0) ((128::List.replicate 0 0:B8).map fun x=>.int .u8 x.toNat)):=E;clear a' E;go_loopw [5] (fun pv wr=>∃k:Nat,k<=cW n/\wr.ownsRow l.heap.size 5 1 pv (1+k) ((128::List.replicate k 0:B8).map fun x=>.int .u8 x.toNat)/\Ext l wr) (fun pv _=>65 - qz pv)
 case atStart=>exact⟨0,Nat.zero_le _,P.out,bx.out⟩
 case round =>
  obtain⟨k,hk,d,C⟩:=hrel;have D:Hid (wr.ownsRow l.heap.size 5 1 u5 (1+k) ((128::List.replicate k 0:B8).map fun x=>.int .u8 x.toNat)):=d;obtain⟨pa,pc,rfl,-⟩:=Row.BV d (by omega);have HX:Hid (Ext l wr):=C;have a8:=C.size;have cn:=C.cell b5;clear d C;have a2:=tR hk
  by_cases a5:k=cW n
  .have hm:(((n:Int)+(1+k:Nat))%64 != 56)=false:=by simp;omega
   clear a2;go_wp2_with fail;have bl:Hid _:=a5;clear a5 hm;generalize(((n:Int)+(1+(cW n:Int)))%64 != 56)=dc;generalize((n:Int)+(1+(cW n:Int)))%64=da;generalize(n:Int)+(1+(cW n:Int))=c';generalize(1+(cW n:Int))=c9;go_loopw [5,31] (fun pv i wr=>∃k:Nat,k<=8/\i=.int .i64 k/\wr.ownsRow l.heap.size 5 1 pv (1+cW n+k) ((gR n k).map fun x=>.int .u8 x.toNat)/\Ext l wr) (fun _ i _=>8 - (intOf i).toNat)
   case atStart=>exact⟨0,by omega,rfl,by unfold gR;rw[List.take_zero,List.append_nil,<-bl.out];exact D.out,HX.out⟩
   case round =>
    obtain⟨q,hq,rfl,d,C⟩:=hrel;have y:Hid (wr.ownsRow l.heap.size 5 1 u5 (1+cW n+q) ((gR n q).map fun x=>.int .u8 x.toNat)):=d;obtain⟨pa,pc,rfl,-⟩:=Row.BV d (by omega);have B:Hid (Ext l wr):=C;have a8:=C.size;clear d C
    by_cases t:q<8
    .have A:((n:Int)*8 / 2 ^ (56 - 8*q)%256)=((UInt8.ofNat (8*n / 2 ^ (56 - 8*q))).toNat:Int):=by
      rw[UInt8.toNat_ofNat',Nat.mul_comm 8 n];push_cast;rfl
     have ce:Hid _:=A;have bo:Hid _:=pN n t;generalize hz:UInt8.ofNat (8*n / 2 ^ (56 - 8*q))=z at A;have HZ:Hid _:=hz;have bt:Hid _:=A;clear A hz
     go_wp2_with (at_builtin;go_must (refine dP rfl _ _ rfl l.heap.size _ (1+cW n+q) (gR n q) rfl (y.out.alloc _) wr.heap.size 1 1 [z] rfl rfl (fr:=(0,0)) (by show _=some (Obj.cells #[Value.int .u8 (z.toNat:Int)] _ _);rw[<-bt.out];exact ae _ _) (by omega) (by simp;omega) ?_;intro v' w3 h U))
     go_roundw
     case rel=>exact⟨q+1,by omega,by go_num,by rw[bo.out,HZ.out];exact h,aj (B.out.alloc _) (y.out.alloc _) U⟩
     case measure=>simp[intOf];omega
    .have b':q=8:=by omega
     subst b';have cu:=a8;have bk:Hid (wr.heap[g]? = some (.cells (bm cb st M n) 221 (0,0))):=Ext.row B.out bh.out;have bb:Hid (wr.heap[cb]? = some (.cells (eb o) 219 (0,0))):=Ext.row B.out (Ext.row aa.out HC.out);have bv:Hid (IsBytes wr (.slice pa (1+cW n+8) pc) (iC n)):=by
      have G:=Row.BV y.out (by omega);unfold Hid IsBytes;rw[<-lF,no n (Nat.le_refl 8)];exact G
     have bs:Hid (TypB wr (.slice pa (1+cW n+8) pc)):=TypB.BV y.out;have cp:(iC n).length=1+cW n+8:=no n (Nat.le_refl 8);go_upto_region 12 with(go_at_call 124;go_must (refine(qi g cb st M _ r (iC n) n o wr Z.out HO.out (by omega) (by omega) bk.out bb.out (bq.out.ext B.out) (TypB.keep br.out (KeepB.BX B.out)) bv.out (fun a n c he _=>.inr (bs.out a n c he)) (by omega) (by omega)).mono ?_;rintro e H ⟨rfl,cc,c0,r5,J,a1⟩));have O:(be st (r++iC n)).1=cc:=by rw[<-a1]
     have N:Hid _:=O;have X:Ext w H:=Ext.Cb (aa.out.trans B.out) J.fr (fun k hk=>by cases hk;exact b7);obtain⟨i0,i1,i2,i3,i4,i5,i6,i7,rfl⟩:=gY J.BY;have p:=J.cells;have c1:H.cell? ⟨g,1,none⟩=some (U32 i0):=(cell_of_row _ _ 1 _ _ _ p).trans rfl;have c2:H.cell? ⟨g,2,none⟩=some (U32 i1):=(cell_of_row _ _ 2 _ _ _ p).trans rfl;have c3:H.cell? ⟨g,3,none⟩=some (U32 i2):=(cell_of_row _ _ 3 _ _ _ p).trans rfl;have c4:H.cell? ⟨g,4,none⟩=some (U32 i3):=(cell_of_row _ _ 4 _ _ _ p).trans rfl;have c5:H.cell? ⟨g,5,none⟩=some (U32 i4):=(cell_of_row _ _ 5 _ _ _ p).trans rfl;have c6:H.cell? ⟨g,6,none⟩=some (U32 i5):=(cell_of_row _ _ 6 _ _ _ p).trans rfl;have c7:H.cell? ⟨g,7,none⟩=some (U32 i6):=(cell_of_row _ _ 7 _ _ _ p).trans rfl;have c8:H.cell? ⟨g,8,none⟩=some (U32 i7):=(cell_of_row _ _ 8 _ _ _ p).trans rfl;have bS:Hid (Ext w H):=X;have ct:=X.size;clear a1 O J p X;go_wp2_with fail;generalize hF:(#[U32 i0,U32 i1,U32 i2,U32 i3,U32 i4,U32 i5,U32 i6,U32 i7]:Array Value)=F;generalize hL:[i0,i1,i2,i3,i4,i5,i6,i7]=L at N;have a6:L.length=8:=by subst hL;rfl
     have a0:∀j,j<8->F[j]? = some (U32 (L.getD j 0)):=by
      intro j hj;subst hF hL;rcases(by omega:j=0\/j=1\/j=2\/j=3\/j=4\/j=5\/j=6\/j=7)with rfl | rfl | rfl | rfl | rfl | rfl | rfl | rfl <;> rfl
     have bd:Hid _:=a0;have I:Hid _:=a6;clear hF hL a0 a6 c1 c2 c3 c4 c5 c6 c7 c8;go_loopw [7,51] (fun ov i wr=>∃k:Nat,k<=8/\i=.int .i64 k/\wr.ownsRow w.heap.size 5 1 ov (4*k) (((L.take k).flatMap eu).map fun x=>.int .u8 x.toNat)/\Ext w wr) (fun _ i _=>8 - (intOf i).toNat)
     case atStart=>exact⟨0,by omega,rfl,World.ownsRow_nil _ _ _ _,bS.out⟩
     case round =>
      obtain⟨j,hj,rfl,d,C⟩:=hrel;have u:Hid (wr.ownsRow w.heap.size 5 1 u7 (4*j) (((L.take j).flatMap eu).map fun x=>.int .u8 x.toNat)):=d;obtain⟨ja,jc,rfl,-⟩:=Row.BV d (by omega);have ad:Hid (Ext w wr):=C;have cl:=C.size;clear d C
      by_cases t:j<8
      .have b8:=mz wr (bd.out j t) t;generalize ba:L.getD j 0=x at b8;have b0:Hid _:=ba;obtain⟨b1,Q⟩:∃b,UInt8.ofNat (x >>> 24).toNat=b:=⟨_,rfl⟩;obtain⟨b2,R⟩:∃b,UInt8.ofNat (x >>> 16).toNat=b:=⟨_,rfl⟩;obtain⟨b3,S⟩:∃b,UInt8.ofNat (x >>> 8).toNat=b:=⟨_,rfl⟩;obtain⟨b4,T⟩:∃b,UInt8.ofNat x.toNat=b:=⟨_,rfl⟩;have f1:(x.toNat:Int) / 16777216%256=(b1.toNat:Int):=by rw[<-Q];exact mN x 24 (by decide)
       have f2:(x.toNat:Int) / 65536%256=(b2.toNat:Int):=by rw[<-R];exact mN x 16 (by decide)
       have f3:(x.toNat:Int) / 256%256=(b3.toNat:Int):=by rw[<-S];exact mN x 8 (by decide)
       have f4:(x.toNat:Int)%256=(b4.toNat:Int):=by rw[<-T,UInt8.toNat_ofNat'];exact(Int.natCast_emod _ 256).symm
       have Y:Hid (eu x=[b1,b2,b3,b4]):=by unfold Hid eu;rw[Q,R,S,T]
       clear Q R S T ba;have a3:((L.take j).flatMap eu).length=4*j:=by
        have G:=u.out.1;simpa using G
       have cm:Hid _:=a3;clear a3
       go_wp2_with (at_builtin;go_must (refine dP rfl _ _ rfl w.heap.size _ (4*j) ((L.take j).flatMap eu) rfl (u.out.alloc _) wr.heap.size 4 4 [b1,b2,b3,b4] rfl rfl (fr:=(0,0)) (ae _ _) (by omega) (by simp;omega) ?_;intro v' w6 V b6))
       go_roundw
       case rel =>
        refine⟨j+1,by omega,by go_num,?_,aj (ad.out.alloc _) (u.out.alloc _) b6⟩;have G:(L.take (j+1)).flatMap eu=(L.take j).flatMap eu++[b1,b2,b3,b4]:=by
         rw[List.take_add_one,List.flatMap_append,List.getElem?_eq_getElem (by rw[I.out];exact t)];congr 1;have h8:L[j]'(by rw[I.out];exact t)=x:=by
          rw[<-b0.out,List.getD_eq_getElem?_getD,List.getElem?_eq_getElem (by rw[I.out];exact t)];rfl
         rw[h8];simpa using Y.out
        rw[G];exact V
       case measure=>simp[intOf];omega
      .have b9:j=8:=by omega
       subst b9;go_wp2_with fail;go_ret;have G:=u.out;rw[List.take_of_length_le (by rw[I.out];omega),<-N.out]at G;exact⟨⟨_,rfl,G⟩,ad.out⟩
  .have hm:(((n:Int)+(1+k:Nat))%64 != 56)=true:=by simp;omega
   clear a2
   go_wp2_with (at_builtin;go_must (refine dP rfl _ _ rfl l.heap.size _ (1+k) (128::List.replicate k 0) rfl (D.out.alloc _) wr.heap.size 1 1 [0] rfl rfl (ae _ _) (by omega) (by simp;omega) ?_;intro v' w3 h U))
   go_roundw
   case rel=>exact⟨k+1,by omega,by have G:(128::List.replicate k 0++[0]:B8)=128::List.replicate (k+1) 0:=(by rw[List.replicate_succ',List.cons_append]);rw[G]at h;exact h,aj (HX.out.alloc _) (D.out.alloc _) U⟩
   case measure =>
    obtain⟨cv,cx,rfl,-⟩:=Row.BV h (by omega);simp[qz];omega
end
section
open Go Go.RowKit
theorem ij (v:Value) (l:B8) (w:World) (i:IsBytes w v l) :
  Calls Tryz.prog 29 #[v] w fun e D=>(∃y,e=.returned y/\D.ownsRow w.heap.size 5 1 y l.length (l.map fun x=>.int .u8 x.toNat))/\Ext w D:=by
 have P:=i.len;obtain⟨a,k,rfl,M,N,O,n⟩:=id i;have C:Ext w (w.alloc (.cells #[] 5)):=(Ext.refl w).alloc _;have c:(w.alloc (.cells #[] 5)).ownsRow w.heap.size 5 1 (.slice (some ⟨w.heap.size,0,none⟩) 0 0) 0 []:=⟨rfl,.inr ⟨w.heap.size,0,#[],rfl,Nat.le_refl _,ae _ _,Nat.le_refl _,by unfold maxLen;omega,rfl,rfl⟩⟩
 cases l with
 | nil =>
  have z:Hid ((w.alloc (.cells #[] 5)).ownsRow w.heap.size 5 1 (.slice (some ⟨w.heap.size,0,none⟩) 0 0) 0 []):=c;clear i n c;go_enter Tryz.func29,Tryz.ntmps29
  cases a with
  | none =>
   go_wp2;go_ret;exact⟨⟨_,rfl,z.out⟩,(Ext.refl _).alloc _⟩
  | some J =>
   go_wp2;go_ret;exact⟨⟨_,rfl,z.out⟩,(Ext.refl _).alloc _⟩
 | cons x t =>
  obtain⟨b,o,rfl,B⟩:=n (by simp);generalize H:x::t=L at *;have d:∀(j:Nat) u,(L.map fun x=>Value.int .u8 x.toNat)[j]? = some u->(w.alloc (.cells #[] 5)).cell? ((⟨b,o,none⟩:Addr).add j)=some u:=by
   intro j u q;have h:(⟨b,o,none⟩:Addr).add j=⟨b,o+j,none⟩:=by unfold Addr.add;split <;> simp_all
   rw[h];exact C.cell (B j u q)
  have G:Hid _:=d;clear B d n i H;go_enter Tryz.func29,Tryz.ntmps29
  go_wp2_with (at_builtin;(refine gL _ _ _ 1 1 Tryz.underlying37 gO rfl (by omega) rfl _ _ rfl w.heap.size _ 0 _ rfl c ⟨b,o,none⟩ L.length k (L.map fun x=>Value.int .u8 x.toNat) rfl (by simp) G.out (by intro u q;obtain⟨_,_,rfl⟩:=List.mem_map.1 q;rfl) (by omega) (by omega) (by simp) ?_);intro y E g p _;obtain⟨I,K,rfl,-⟩:=Row.BV g (by omega);have F:Hid (E.ownsRow w.heap.size 5 1 _ L.length (L.map fun x=>.int .u8 x.toNat)):=(by have A:=g;rw[List.nil_append,Nat.zero_add]at A;exact A);have r:Ext w E:=aj C c p)
  go_ret;exact⟨⟨_,rfl,F.out⟩,r⟩
end
end Go.Proofs.YtfabjgfmiaammaaGreatDoor
