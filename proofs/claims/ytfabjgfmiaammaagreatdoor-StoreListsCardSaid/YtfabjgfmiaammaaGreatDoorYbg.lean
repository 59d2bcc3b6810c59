/- Contracts of the program's functions and plain laws behind the card. Conditions: as each theorem states. -/
import Derived.Test.YtfabjgfmiaammaaGreatDoorYbb
import Derived.Test.YtfabjgfmiaammaaGreatDoorYbc
import Derived.Test.YtfabjgfmiaammaaGreatDoorYbe
import Derived.Test.YtfabjgfmiaammaaGreatDoorYag
set_option linter.unusedVariables false
set_option linter.unusedSimpArgs false
set_option linter.unusedSectionVars false
set_option maxRecDepth 100000
set_option maxHeartbeats 64000000
namespace Go.Proofs.YtfabjgfmiaammaaGreatDoor
section
open Go Go.RowKit
def fF (n:Int) (b:B8):Int:=if 20000<b.length then n else n+1
theorem fw (a b:Value) (c d:B8) (w:World) (i:IsBytes w a c) (j:IsBytes w b d) :
  Calls Tryz.prog 76 #[a,b] w fun e k=>e=.returned (.bool (c==d))/\k=w:=by
 have q:=dA i;have r:=dA j;have t:=tl c;have u:=tl d;obtain⟨l,o,rfl,-⟩:=i;obtain⟨n,p,rfl,-⟩:=j;obtain⟨h,g⟩:∃h,(c==d)=h:=⟨_,rfl⟩;rw[g];go_enter Tryz.func76,Tryz.ntmps76;go_wp2;go_ret;exact⟨by first | rfl | exact an (by assumption),rfl⟩
variable {w0 w:World} {v:Value}
theorem Aw {O:Nat->Prop} {l:B8} (h:IsBytes w0 v l) (q:∀k,O k->w0.heap.size<=k):Out O w v:=by
 obtain⟨a,i,rfl,A,B,C,j⟩:=h;intro z n c u g;cases u;refine .inl fun y=>?_
 cases d:l with
 | nil=>rw[d]at g;exact g rfl
 | cons x r =>
  obtain⟨b,o,e,t⟩:=j (by rw[d];simp);cases e;have:=World.block_lt_of_cell? _ _ (t 0 (.int .u8 x.toNat) (by rw[d];rfl));have p:=q _ y;simp only at this p;omega
def Arg (w0 w:World) (v:Value) (b:B8):Prop:=IsBytes w0 v b\/IsBytes w v b/\TypB w v
variable {b:B8}
theorem Arg.keep {w':World} (h:Arg w0 w v b) (c:KeepB w w'):Arg w0 w' v b:=by
 rcases h with h | ⟨d,a⟩
 .exact .inl h
 .exact .inr ⟨Row.B' d a c,a.keep c⟩
theorem Arg.bytes (h:Arg w0 w v b) (a:Ext w0 w):IsBytes w v b:=by
 rcases h with h | h
 .exact IsBytes.ext h a
 .exact h.1
theorem Arg.out {O:Nat->Prop} (h:Arg w0 w v b) (d:∀k,O k->w0.heap.size<=k):Out O w v:=by
 rcases h with h | h
 .exact Aw h d
 .exact fun a n c e _=>.inr (h.2 a n c e)
variable [Inhabited bf] [KW:Inhabited cZ]
variable {f:Value} {gs gc k:Nat} {m:Fs} {n:Int}
theorem iD {S O:Nat->Prop} (v:Value) (b:B8) (h:St w0 S O w f gs gc m n) (hE:Env w0) (hS:EnvS w0) (hg:Good k m) (t:k<=79800) (bk:0<=n) (bl:n<=100000) (hv:Arg w0 w v b) (hb:b.length<=140737488355328) :
  Calls Tryz.prog 24 #[.pointer (some ⟨gs,0,none⟩),v] w fun e w'=>∃(O':Nat->Prop) (n':Int),e=.returned (.tuple #[S8 (bQ m b).2.1,.int .i64 (bQ m b).2.2])/\n'=fF n b/\St w0 S O' w' f gs gc (bQ m b).1 n':=by
 have H:Hid (St w0 S O w f gs gc m n):=h;have HE:Hid (Env w0):=hE;have HS:Hid (EnvS w0):=hS;have HG:Hid (Good k m):=hg;have HA:Hid (Arg w0 w v b):=hv;have br:(aR b).length<=100:=by rw[o8];omega
 have b1:(ai (aR b)).length<=400:=by unfold ai;simp;omega
 obtain⟨g,rfl⟩:∃g,f=.pointer (some ⟨g,0,none⟩):=by
  obtain⟨g,gm,gd,vp,vl,vu,L,c0,bo,-⟩:=h.one.fs;exact⟨g,bo⟩
 obtain⟨s0,t0,rfl,-⟩:=id (hv.bytes h.one.ext);clear h hE hS hg hv;go_enter Tryz.func24,Tryz.ntmps24
 by_cases P:20000<b.length
 case pos =>
  have bh:decide ((20000:Int)<(b.length:Int))=true:=decide_eq_true (by omega);have q:bQ m b=(m,[],3):=by unfold bQ;rw[if_pos P]
  have Q:Hid _:=q;clear q;go_wp2;go_ret2;rw[Q.out];exact⟨_,_,rfl,(by unfold fF;rw[if_pos P]),H.out⟩
 have bh:decide ((20000:Int)<(b.length:Int))=false:=decide_eq_false (by omega);go_wp2_with fail;go_at_call 73;refine(jS _ b w (HA.out.bytes H.out.one.ext) (by omega)).mono ?_;rintro e w1 ⟨⟨u1,rfl,ba⟩,a'⟩;have a4:Hid _:=ba;have W:Hid _:=a';have bs:2<=w.heap.size:=by have:=H.out.one.ext.size;have:=HS.out.two;omega
 clear ba a';go_wp2_with fail;go_at_call 74;refine(kz w w1 b u1 (EnvS.ext HS.out (H.out.one.ext.trans W.out)) bs W.out a4.out (by omega)).mono ?_;rintro e w2 ⟨rfl,a1⟩;have H2:Hid (St w0 S O w2 (.pointer (some ⟨g,0,none⟩)) gs gc m n):=St.more H.out a1;have bd:Hid (Arg w0 w2 (.slice s0 b.length t0) b):=Arg.keep HA.out (KeepB.BX a1);clear a1 a4 W H;go_wp2_with fail;go_at_call 75;obtain⟨⟨y,A,Y⟩,hr⟩:∃q,aF m (ai (aR b))=q:=⟨_,rfl⟩;have F:Hid _:=hr;have a0:=wY (aR b) H2.out HE.out HG.out (by omega) bk bl br;rw[hr]at a0;refine a0.mono ?_;rintro e w3 ⟨v3,O3,rfl,a6,a8,h3⟩;have j:Hid (Arg w0 w3 (.slice s0 b.length t0) b):=Arg.keep bd.out a8;clear a8;obtain⟨n',a9⟩:∃n',n+1=n':=⟨_,rfl⟩;have K:Hid (n'=fF n b):=by unfold Hid fF;rw[if_neg P];exact a9.symm
 rw[a9]at h3;have i:Hid (St w0 S O3 w3 (.pointer (some ⟨g,0,none⟩)) gs gc y n'):=h3;have J:Hid (IsBytes w3 v3 A.data):=a6;clear hr a0 a6 h3 H2
 try dsimp only
 by_cases l:Y=0
 case pos =>
  subst l
  by_cases u:A.data=b
  case pos =>
   have au:(A.data==b)=true:=by simpa using u
   have q:bQ m b=(y,aR b,0):=by
    unfold bQ;rw[if_neg P,F.out,if_pos ⟨rfl,u⟩]
   have Q:Hid _:=q;clear q u;go_wp2_with fail;go_at_call 76;refine(fw _ _ _ _ _ J.out (j.out.bytes i.out.one.ext)).mono ?_;rintro e T ⟨rfl,rfl⟩;rw[au];go_wp2;go_ret2;rw[Q.out];exact⟨_,_,rfl,K.out,i.out⟩
  have au:(A.data==b)=false:=by simpa using u
  go_wp2_with fail;go_at_call 76;refine(fw _ _ _ _ _ J.out (j.out.bytes i.out.one.ext)).mono ?_;rintro e T ⟨rfl,rfl⟩;rw[au];go_wp2_with fail;have a7:A.data.length<=10000000:=by have:=jl (p:=ai (aR b)) HG.out.ok HG.out.plan;rw[F.out]at this;simp only at this;omega
  go_at_call 73;refine(jS _ A.data T J.out a7).mono ?_;rintro e w5 ⟨⟨u5,rfl,bb⟩,o⟩;have a5:Hid _:=bb;have X:Hid _:=o;have bt:2<=T.heap.size:=by have:=i.out.one.ext.size;have:=tx HE.out;have:=HS.out.two;omega
  clear bb o;go_wp2_with fail;go_at_call 74;refine(kz T w5 A.data u5 (EnvS.ext HS.out (i.out.one.ext.trans X.out)) bt X.out a5.out a7).mono ?_;rintro e w6 ⟨rfl,a2⟩;have I:Hid (St w0 S O3 w6 (.pointer (some ⟨g,0,none⟩)) gs gc y n'):=St.more i.out a2;have a3:Hid (Arg w0 w6 (.slice s0 b.length t0) b):=Arg.keep j.out (KeepB.BX a2);clear a2 a5 X i J j;have j:Hid (Arg w0 w6 (.slice s0 b.length t0) b):=a3.out;clear a3;have t1:=tl (aR b);have t2:=tl (aR A.data)
  by_cases x:aR A.data=aR b
  case pos =>
   have bq:(aR A.data==aR b)=true:=by simpa using x
   have q:bQ m b=(y,[],5):=by
    unfold bQ;rw[if_neg P,F.out,if_neg (fun h=>u h.2),if_pos ⟨rfl,x⟩]
   have Q:Hid _:=q;clear q x u;go_wp2;go_ret2;rw[Q.out];exact⟨_,_,rfl,K.out,I.out⟩
  have bq:(aR A.data==aR b)=false:=by simpa using x
  have c:Hid (bQ m b=df (bG y bO 1 b) (aR b)):=by
   unfold Hid bQ;rw[if_neg P,F.out,if_neg (fun h=>u h.2),if_neg (fun h=>x h.2),if_neg (fun h=>h.1 rfl)]
  have i:Hid (St w0 S O3 w6 (.pointer (some ⟨g,0,none⟩)) gs gc y n'):=I;clear I u x;have z:Hid (Good (k+1) y):=by have:=eM HG.out (ai (aR b));rw[F.out]at this;exact this
  clear F;have d1:w6.cell? ⟨gs,0,none⟩=some (.pointer (some ⟨g,0,none⟩)):=(cell_of_row _ _ 0 _ _ _ i.out.row).trans rfl;go_wp2_with fail;go_at_call 77;refine(lW bO 1 _ b (One.fin i.out.one HE.out z.out (by omega)) (by decide) (j.out.bytes i.out.one.ext) (j.out.out (fun k t=>(i.out.one.lo k t).1))).mono ?_;rintro e w7 ⟨rfl,B⟩;have Z:=St.post i.out B;obtain⟨⟨E,M⟩,r⟩:∃q,bG y bO 1 b=q:=⟨_,rfl⟩;have a:=c.out;rw[r]at Z a ⊢;have V:Hid (Good (k+2) E):=by have:=gA z.out bO 1 b;rw[r]at this;exact this
  have G:Hid (St w0 S _ w7 (.pointer (some ⟨g,0,none⟩)) gs gc E n'):=Z;clear B r Z c i
  try dsimp only
  by_cases d:M=0
  case neg =>
   have ad:(M==0)=false:=by simpa using d
   have aa:(M != 0)=true:=by simpa using d
   have q:bQ m b=(E,[],M):=a.trans (by unfold df;rw[if_pos d]);have Q:Hid _:=q;clear q a d;go_wp2;go_ret2;rw[Q.out];exact⟨_,_,rfl,K.out,G.out⟩
  subst d;have d0:w7.cell? ⟨gs,0,none⟩=some (.pointer (some ⟨g,0,none⟩)):=(cell_of_row _ _ 0 _ _ _ G.out.row).trans rfl;have c:Hid _:=a;clear a;go_upto_region 14 with fail;apply ak 6 [_,_,_,.pointer (some ⟨g,0,none⟩),_,S8 (ai (aR b))] [none,none,none,none,none,none] [[],[0],[1],[2],[],[4]] (by kernel_rfl) (by kernel_rfl) (by simp[aq])
  .trivial
  .simp (maxSteps:=1000000)only[List.take_succ_cons,List.take_zero,ay,aE,ab,Act.put,List.setIfInBounds_toArray,List.set_cons_zero,List.set_cons_succ,aN,aS,aq,List.getD_cons_zero,List.getD_cons_succ,and_true,true_and,forall_const];and_intros
   iterate 5 · intro xs wq u;intros;rename_i hR;have f0:=u.cell d0;go_simp;exact hR _ _ (Ext.refl _) rfl
   .intro xs wq u t R hR;go_simp;exact(iH (aR b) _ (by omega)).mono (by rintro e' w7 ⟨rfl,rfl⟩;exact⟨_,rfl,hR _ _ (Ext.refl _) rfl⟩)
  intro xs w8 o t;simp only[aU,Nat.zero_add,Nat.reduceAdd,and_true]at t;simp(maxSteps:=1000000)only[List.take_succ_cons,List.take_zero,List.drop_succ_cons,List.drop_zero,ab,Act.put,List.setIfInBounds_toArray,List.set_cons_zero,List.set_cons_succ,Nat.zero_add,Nat.reduceAdd,t];clear t;have U:Hid (St w0 S _ w8 (.pointer (some ⟨g,0,none⟩)) gs gc E n'):=St.more G.out o;clear o d0 G;go_wp2_with fail;go_at_call 78;refine(nh bO (ai (aR b)) (One.fin U.out.one HE.out V.out (by omega)) (by decide) (by omega)).mono ?_;rintro e w9 ⟨rfl,C⟩;have h6:=St.post U.out C;obtain⟨⟨m3,N⟩,D⟩:∃q,aP E bO (ai (aR b)) false=q:=⟨_,rfl⟩;have a:=c.out;unfold df at a;rw[if_neg (by simp)]at a;simp only[]at a;rw[D]at h6 a ⊢;have I:Hid (St w0 S _ w9 (.pointer (some ⟨g,0,none⟩)) gs gc m3 n'):=h6;clear C D h6 c U
  try dsimp only
  by_cases d:N=0
  case neg =>
   have ad:(N==0)=false:=by simpa using d
   have aa:(N != 0)=true:=by simpa using d
   have q:bQ m b=(m3,[],N):=a.trans (by rw[if_pos d]);have Q:Hid _:=q;clear q a d;go_wp2;go_ret2;rw[Q.out];exact⟨_,_,rfl,K.out,I.out⟩
  subst d;have q:bQ m b=(m3,aR b,0):=a.trans (by rw[if_neg (by simp)]);have Q:Hid _:=q;clear q a;go_wp2;go_ret2;rw[Q.out];exact⟨_,_,rfl,K.out,I.out⟩
 have bv:(Y==0)=false:=by simpa using l
 have bx:(Y != 0)=true:=by simpa using l
 by_cases h7:Y=7
 case neg =>
  have b0:(Y != 7)=true:=by simpa using h7
  have bS:(Y==7)=false:=by simpa using h7
  have q:bQ m b=(y,[],Y):=by
   unfold bQ;rw[if_neg P,F.out,if_neg (fun h=>l h.1),if_neg (fun h=>l h.1),if_pos ⟨l,h7⟩]
  have Q:Hid _:=q;clear q;go_wp2;go_ret2;rw[Q.out];exact⟨_,_,rfl,K.out,i.out⟩
 subst h7;have c:Hid (bQ m b=df (bG y bO 1 b) (aR b)):=by
  unfold Hid bQ;rw[if_neg P,F.out,if_neg (fun h=>l h.1),if_neg (fun h=>l h.1),if_neg (fun h=>h.2 rfl)]
 have z:Hid (Good (k+1) y):=by have:=eM HG.out (ai (aR b));rw[F.out]at this;exact this
 clear F;have d1:w3.cell? ⟨gs,0,none⟩=some (.pointer (some ⟨g,0,none⟩)):=(cell_of_row _ _ 0 _ _ _ i.out.row).trans rfl;go_wp2_with fail;go_at_call 77;refine(lW bO 1 _ b (One.fin i.out.one HE.out z.out (by omega)) (by decide) (j.out.bytes i.out.one.ext) (j.out.out (fun k t=>(i.out.one.lo k t).1))).mono ?_;rintro e T ⟨rfl,B⟩;have Z:=St.post i.out B;obtain⟨⟨E,M⟩,r⟩:∃q,bG y bO 1 b=q:=⟨_,rfl⟩;have a:=c.out;rw[r]at Z a ⊢;have V:Hid (Good (k+2) E):=by have:=gA z.out bO 1 b;rw[r]at this;exact this
 have G:Hid (St w0 S _ T (.pointer (some ⟨g,0,none⟩)) gs gc E n'):=Z;clear B r Z c i
 try dsimp only
 by_cases d:M=0
 case neg =>
  have ad:(M==0)=false:=by simpa using d
  have aa:(M != 0)=true:=by simpa using d
  have q:bQ m b=(E,[],M):=a.trans (by unfold df;rw[if_pos d]);have Q:Hid _:=q;clear q a d;go_wp2;go_ret2;rw[Q.out];exact⟨_,_,rfl,K.out,G.out⟩
 subst d;have d0:T.cell? ⟨gs,0,none⟩=some (.pointer (some ⟨g,0,none⟩)):=(cell_of_row _ _ 0 _ _ _ G.out.row).trans rfl;have c:Hid _:=a;clear a;go_upto_region 14 with fail;apply ak 6 [_,_,_,.pointer (some ⟨g,0,none⟩),_,S8 (ai (aR b))] [none,none,none,none,none,none] [[],[0],[1],[2],[],[4]] (by kernel_rfl) (by kernel_rfl) (by simp[aq])
 .trivial
 .simp (maxSteps:=1000000)only[List.take_succ_cons,List.take_zero,ay,aE,ab,Act.put,List.setIfInBounds_toArray,List.set_cons_zero,List.set_cons_succ,aN,aS,aq,List.getD_cons_zero,List.getD_cons_succ,and_true,true_and,forall_const];and_intros
  iterate 5 · intro xs wq u;intros;rename_i hR;have f0:=u.cell d0;go_simp;exact hR _ _ (Ext.refl _) rfl
  .intro xs wq u t R hR;go_simp;exact(iH (aR b) _ (by omega)).mono (by rintro e' T ⟨rfl,rfl⟩;exact⟨_,rfl,hR _ _ (Ext.refl _) rfl⟩)
 intro xs w5 o t;simp only[aU,Nat.zero_add,Nat.reduceAdd,and_true]at t;simp(maxSteps:=1000000)only[List.take_succ_cons,List.take_zero,List.drop_succ_cons,List.drop_zero,ab,Act.put,List.setIfInBounds_toArray,List.set_cons_zero,List.set_cons_succ,Nat.zero_add,Nat.reduceAdd,t];clear t;have U:Hid (St w0 S _ w5 (.pointer (some ⟨g,0,none⟩)) gs gc E n'):=St.more G.out o;clear o d0 G;go_wp2_with fail;go_at_call 78;refine(nh bO (ai (aR b)) (One.fin U.out.one HE.out V.out (by omega)) (by decide) (by omega)).mono ?_;rintro e w6 ⟨rfl,C⟩;have h6:=St.post U.out C;obtain⟨⟨m3,N⟩,D⟩:∃q,aP E bO (ai (aR b)) false=q:=⟨_,rfl⟩;have a:=c.out;unfold df at a;rw[if_neg (by simp)]at a;simp only[]at a;rw[D]at h6 a ⊢;have I:Hid (St w0 S _ w6 (.pointer (some ⟨g,0,none⟩)) gs gc m3 n'):=h6;clear C D h6 c U
 try dsimp only
 by_cases d:N=0
 case neg =>
  have ad:(N==0)=false:=by simpa using d
  have aa:(N != 0)=true:=by simpa using d
  have q:bQ m b=(m3,[],N):=a.trans (by rw[if_pos d]);have Q:Hid _:=q;clear q a d;go_wp2;go_ret2;rw[Q.out];exact⟨_,_,rfl,K.out,I.out⟩
 subst d;have q:bQ m b=(m3,aR b,0):=a.trans (by rw[if_neg (by simp)]);have Q:Hid _:=q;clear q a;go_wp2;go_ret2;rw[Q.out];exact⟨_,_,rfl,K.out,I.out⟩
theorem lR {S O:Nat->Prop} (v:Value) (b:B8) (h:St w0 S O w f gs gc m n) (i:Env w0) (j:EnvS w0) (p:Good k m) (q:k<=79800) (a:0<=n) (c:n<=100000) (t:Arg w0 w v b) (l:b.length<=140737488355328) :
  Calls Tryz.prog 24 #[.pointer (some ⟨gs,0,none⟩),v] w fun e g=>∃(O':Nat->Prop) (n':Int),e=.returned (.tuple #[S8 (bQ m b).2.1,.int .i64 (bQ m b).2.2])/\(n<=n'/\n'<=n+1)/\St w0 S O' g f gs gc (bQ m b).1 n' :=
 (iD v b h i j p q a c t l).mono fun e g ⟨O',n',o,r,d⟩=>⟨O',n',o,by subst r;unfold fF;split <;> omega,d⟩
end
section
open Go Go.RowKit
def cF:B8:=[115,47,111]
def eP:B8:=[115,47,111,47]
def dx (l:List B8):List B8:=(l.map fun p=>Lib.trimPrefix p eP).filter al
def aK (m:Fs):Fs×List B8×Int:=if(bg m cF).2.2≠0 then((bg m cF).1,[],(bg m cF).2.2)else((bg m cF).1,dx (bg m cF).2.1,0)
theorem xr (s:B8) (w:World):Calls Tryz.prog 49 #[S8 s,S8 eP] w fun e a=>e=.returned (S8 (Lib.trimPrefix s eP))/\a=w :=
 Tryz.strings_TrimPrefix ⟨s.toArray⟩ ⟨eP.toArray⟩ w
variable {k:Nat}
theorem yj {b:List B8} {s:B8} (h:b[k]? = some s):dx (b.take (k+1))=dx (b.take k)++(if al (Lib.trimPrefix s eP)=true then[Lib.trimPrefix s eP]else[]):=by
 obtain⟨c,rfl⟩:=(List.getElem?_eq_some_iff.1 h);unfold dx;rw[List.take_succ_eq_append_getElem c,List.map_append,List.filter_append]
 by_cases a:al (Lib.trimPrefix b[k] eP)=true
 .rw [if_pos a,List.map_cons,List.map_nil,List.filter_cons_of_pos a,List.filter_nil]
 .rw [if_neg a,List.map_cons,List.map_nil,List.filter_cons_of_neg a,List.filter_nil]
theorem Ai (a:List B8):(dx a).length<=a.length:=by
 unfold dx;exact Nat.le_trans (List.length_filter_le _ _) (by simp)
variable [Inhabited bf] [KW:Inhabited cZ]
variable {w0 w:World} {f:Value} {gs gc:Nat} {m:Fs} {n:Int}
theorem kf {S O:Nat->Prop} (h:St w0 S O w f gs gc m n) (hE:Env w0) (u:Good k m) (N:k<=79800) :
  Calls Tryz.prog 13 #[.pointer (some ⟨gs,0,none⟩)] w fun e w'=>∃(O':Nat->Prop) (v:Value),e=.returned (.tuple #[v,.int .i64 (aK m).2.2])/\(∃V,w.heap.size<=V/\(∀k,O' k->k<V)/\w'.ownsRow V 9 1 v (aK m).2.1.length ((aK m).2.1.map S8))/\(aK m).2.1.length<=10000000/\St w0 S O' w' f gs gc (aK m).1 n:=by
 have H:Hid (St w0 S O w f gs gc m n):=h;obtain⟨g,rfl⟩:∃g,f=.pointer (some ⟨g,0,none⟩):=by
  obtain⟨g,gm,gd,vp,vl,vu,L,c0,Z,-⟩:=h.one.fs;exact⟨g,Z⟩
 have l:=One.fin h.one hE u (by omega);have y:Hid _:=nU (dir:=cF) u.ok u.plan;have o:=yq (dir:=cF) u.ok u.plan l.time;have R:Hid _:=rf cF l (by decide);have d0:w.cell? ⟨gs,0,none⟩=some (.pointer (some ⟨g,0,none⟩)):=(cell_of_row _ _ 0 _ _ _ h.row).trans rfl;obtain⟨⟨m1,b,M⟩,hr⟩:∃q,bg m cF=q:=⟨_,rfl⟩;rw[hr]at R y o;have HR:Hid _:=hr;have U:Hid (∀s∈b,s.length<=200):=y;have Y:b.length<=7001000:=o;clear h hE u l hr o y
 try dsimp only
 go_enter Tryz.func13,Tryz.ntmps13;go_wp2_with fail;go_at_call 48;refine Calls.mono R.out ?_;rintro e E ⟨⟨v,rfl,hv,-⟩,B⟩;have J:Hid (St w0 S _ E (.pointer (some ⟨g,0,none⟩)) gs gc m1 n):=St.post H.out B;have F:Hid (w.heap.size<=E.heap.size):=B.fr.size;have HV:Hid (IsStrs E v b):=hv;obtain⟨a,ad,rfl,l1,l2,l3,-⟩:=hv.get;clear B hv H R d0
 try dsimp only
 by_cases r:M=0
 case neg =>
  have a0:(M==0)=false:=by simpa using r
  have au:(M != 0)=true:=by simpa using r
  have q:aK m=(m1,[],M):=by unfold aK;rw[HR.out];exact if_pos r
  have Q:Hid _:=q;clear q;go_wp2;go_ret2;rw[Q.out];exact⟨_,_,rfl,⟨_,F.out,fun k N=>(J.out.one.lo k N).2,World.ownsRow_nil _ _ _ _⟩,Nat.zero_le _,J.out⟩
 subst r;have q:aK m=(m1,dx b,0):=by unfold aK;rw[HR.out];exact if_neg (by simp)
 have Q:Hid _:=q;clear q;go_wp2;go_loopw [6,23] (fun v i wr=>∃(k n:Nat),k<=b.length/\i=.int .i64 k/\Hid ((dx (b.take k)).length=n)/\wr.ownsRow E.heap.size 9 1 v n ((dx (b.take k)).map S8)/\Ext E wr) (fun _ i _=>b.length - (intOf i).toNat)
 case atStart=>exact⟨0,0,Nat.zero_le _,rfl,rfl,World.ownsRow_nil _ _ _ _,Ext.refl _⟩
 case round =>
  obtain⟨k,P,a1,rfl,K,d,hx⟩:=hrel;have a2:P<=b.length:=by rw[<-K.out];exact Nat.le_trans (Ai _) (List.length_take_le' _ _)
  by_cases z:k<b.length
  .obtain ⟨s,x⟩:∃s,b[k]? = some s:=⟨_,List.getElem?_eq_getElem z⟩;have a3:=U.out s (List.mem_of_getElem? x);obtain⟨_,_,he,-,-,-,u⟩:=(IsStrs.ext HV.out hx).get;cases he;obtain⟨bb,oo,rfl,hc⟩:=u k z;have y1:=hc k z;rw[show b.getD k []=s by rw[List.getD_eq_getElem?_getD,x];rfl]at y1;obtain⟨t,ht⟩:∃t,Lib.trimPrefix s eP=t:=⟨_,rfl⟩;have C:=yj x;have aa:=zm s eP;rw[ht]at C aa;have p:Hid _:=C;have HT:Hid _:=ht;obtain⟨nb,G⟩:∃nb,al t=nb:=⟨_,rfl⟩;have j:Hid _:=G;clear C ht G x u hc;go_wp2_with fail;go_at_call 49;refine Calls.mono (xr s wr) ?_;rw[HT.out];rintro e w3 ⟨rfl,rfl⟩;go_wp2_with fail;go_at_call 17;refine(fp t _ (by omega)).mono ?_;rw[j.out];rintro e w4 ⟨rfl,I⟩;have c:=am d I;have D:=hx.trans I;have a4:=D.size
   cases nb with
   | true =>
    go_wp2_with (at_builtin;go_must (refine fq rfl _ _ rfl E.heap.size _ P _ rfl (c.alloc _) w4.heap.size 1 1 [t] rfl rfl (ae _ _) (by omega) (by simp;omega) ?_;intro v' w3 A W))
    go_roundw
    case rel =>
     refine⟨k+1,P+1,by omega,by go_num,?_,?_,aj (D.alloc _) (c.alloc _) W⟩
     .unfold Hid;rw[p.out,j.out,if_pos rfl,List.length_append,K.out];rfl
     .rw [p.out,j.out,if_pos rfl];exact A
    case measure=>simp[intOf];omega
   | false =>
    go_wp2;go_roundw
    case rel=>exact⟨k+1,P,by omega,by go_num,by unfold Hid;rw[p.out,j.out,if_neg (by simp),List.append_nil];exact K.out,by rw[p.out,j.out,if_neg (by simp),List.append_nil];exact c,D⟩
    case measure=>simp[intOf];omega
  .have X:k=b.length:=by omega
   subst X;have hn:=K.out;rw[List.take_length]at d hn;subst hn;have T:Hid (wr.ownsRow E.heap.size 9 1 _ (dx b).length ((dx b).map S8)):=d;have H2:Hid _:=St.more J.out hx;clear d;go_wp2;go_ret2;rw[Q.out];exact⟨_,_,rfl,⟨_,F.out,fun k N=>(J.out.one.lo k N).2,T.out⟩,by show(dx b).length<=10000000;omega,H2.out⟩
theorem kg {S O:Nat->Prop} (h:St w0 S O w f gs gc m n) (g:Env w0) (i:Good k m) (j:k<=79800) :
  Calls Tryz.prog 13 #[.pointer (some ⟨gs,0,none⟩)] w fun e b=>∃(O':Nat->Prop) (v:Value),e=.returned (.tuple #[v,.int .i64 (aK m).2.2])/\IsStrs b v (aK m).2.1/\St w0 S O' b f gs gc (aK m).1 n/\Typed 9 b v:=(kf h g i j).mono (by
 rintro e b ⟨O',v,c,⟨l,-,-,a⟩,o,d⟩;exact⟨O',v,c,Row.BV a (by omega),d,Typed.BV a⟩)
theorem qu {S O:Nat->Prop} (h:St w0 S O w f gs gc m n) (g:Env w0) (i:Good k m) (j:k<=79800) :
  Calls Tryz.prog 13 #[.pointer (some ⟨gs,0,none⟩)] w fun e a=>∃(O':Nat->Prop) (v:Value),e=.returned (.tuple #[v,.int .i64 (aK m).2.2])/\IsStrs a v (aK m).2.1/\St w0 S O' a f gs gc (aK m).1 n :=
 (kg h g i j).mono (by rintro e a ⟨O',v,b,c,d,-⟩;exact⟨O',v,b,c,d⟩)
end
section
open Go Go.RowKit
structure ChJ (w0:World) (base:Nat) (v0:Value) (c:UInt8) (l0 l1 l2 l3:B8) (zl za zb zc:Option Value) (w:World):Prop where
 ext:w0.grownBy w v0.ownBlock
 cur:∃cv cl,((za=none/\zb=none/\zc=none/\cv=v0/\cl=l0)\/(za=some cv/\zb=none/\zc=none/\cl=l1)\/(za≠none/\zb=some cv/\zc=none/\cl=l2)\/(za≠none/\zb≠none/\zc=some cv/\cl=l3)) /\
  Ow base w cv cl/\Near w0 v0 cv/\∀u,zl=some u->∃g,u=.slice (some ⟨g,0,none⟩) 1 1/\w.heap[g]? = some (.cells #[.int .u8 c.toNat] 5 (0,0))/\cv.ownBlock≠some g
section
variable {w0 w w':World} {base:Nat} {v0 v':Value} {c:UInt8} {l0 l1 l2 l3:B8} {zl za zb zc:Option Value}
theorem ChJ.start (h:Ow base w0 v0 l0) (a:Ext w0 w):ChJ w0 base v0 c l0 l1 l2 l3 none none none none w :=
 ⟨a.grown.but _,v0,l0,.inl ⟨rfl,rfl,rfl,rfl,rfl⟩,am h a,fun k b=>.inl b,fun u d=>by cases d⟩
variable {x:Value}
theorem ChJ.cell {a:Addr} (h:ChJ w0 base v0 c l0 l1 l2 l3 zl za zb zc w) (b:v0.ownBlock≠some a.block) (d:w0.cell? a=some x):w.cell? a=some x:=by
 rw[World.cell?_of_block (h.ext.block _ (World.block_lt_of_cell? _ _ d) (fun e=>b e.symm))];exact d
theorem fM {d:Value} {g:Nat} (q:w0.grownBy w v0.ownBlock) (a:Near w0 v0 d) (l:w.grownBy w' d.ownBlock) (n:Near w d v'):w0.grownBy w' v0.ownBlock/\Near w0 v0 v'/\(∀g o,w.heap[g]? = some o->d.ownBlock≠some g->w'.heap[g]? = some o/\v'.ownBlock≠some g):=by
 refine⟨q.andThen l (fun j r=>?_),fun k t=>?_,fun g o p b=>?_⟩
 .rcases a j r with h | h
  .exact .inr h
  .exact .inl h
 .rcases n k t with h | h
  .exact a k h
  .exact .inr (Nat.le_trans q.size h)
 .have i:=(Array.getElem?_eq_some_iff.1 p).1;refine⟨(l.block g i (fun e=>b e.symm)).trans p,fun e=>?_⟩;rcases n g e with h | h
  .exact b h
  .omega
theorem ChJ.CR (h:ChJ w0 base v0 c l0 l1 l2 l3 zl none zb zc w):Ow base w v0 l0:=by
 obtain⟨e,d,b,a,-⟩:=h.cur;rcases b with⟨-,-,-,rfl,rfl⟩ | ⟨h,-⟩ | ⟨h,-⟩ | ⟨h,-⟩
 .exact a
 .cases h
 iterate 2
  .exact absurd rfl h
theorem ChJ.CU (h:ChJ w0 base v0 c l0 l1 l2 l3 zl none zb zc w) (p:Ow base w' v' l1) (l:w.grownBy w' v0.ownBlock) (o:Near w v0 v'):ChJ w0 base v0 c l0 l1 l2 l3 zl (some v') zb zc w':=by
 obtain⟨z,y,q,-,b,n⟩:=h.cur;rcases q with⟨-,j,k,rfl,rfl⟩ | ⟨h,-⟩ | ⟨h,-⟩ | ⟨h,-⟩
 .obtain ⟨t,x,i⟩:=fM (g:=0) h.ext b l o;refine⟨t,v',l1,.inr (.inl ⟨rfl,j,k,rfl⟩),p,x,fun u r=>?_⟩;obtain⟨g,e,d,a⟩:=n u r;exact⟨g,e,(i g _ d a).1,(i g _ d a).2⟩
 .cases h
 iterate 2
  .exact absurd rfl h
variable {u:Value}
theorem ChJ.CP (h:ChJ w0 base v0 c l0 l1 l2 l3 zl za none zc w) (b:za=some u):Ow base w u l1:=by
 obtain⟨i,g,e,d,-⟩:=h.cur;rcases e with⟨a,-⟩ | ⟨a,-,-,rfl⟩ | ⟨-,a,-⟩ | ⟨-,a,-⟩
 .rw [b]at a;cases a
 .rw [b]at a;cases a;exact d
 .cases a
 .exact absurd rfl a
theorem ChJ.CV (h:ChJ w0 base v0 c l0 l1 l2 l3 zl za none zc w) (d:za=some u) (q:Ow base w' v' l2) (n:w.grownBy w' u.ownBlock) (p:Near w u v'):ChJ w0 base v0 c l0 l1 l2 l3 zl za (some v') zc w':=by
 obtain⟨A,z,r,-,i,o⟩:=h.cur;rcases r with⟨a,-⟩ | ⟨a,-,l,rfl⟩ | ⟨-,a,-⟩ | ⟨-,a,-⟩
 .rw [d]at a;cases a
 .rw [d]at a;cases a;obtain⟨x,y,k⟩:=fM (g:=0) h.ext i n p;refine⟨x,v',l2,.inr (.inr (.inl ⟨by rw[d];simp,rfl,l,rfl⟩)),q,y,fun u t=>?_⟩;obtain⟨g,e,j,b⟩:=o u t;exact⟨g,e,(k g _ j b).1,(k g _ j b).2⟩
 .cases a
 .exact absurd rfl a
theorem ChJ.CF (h:ChJ w0 base v0 c l0 l1 l2 l3 zl za zb none w) (b:zb=some u):Ow base w u l2:=by
 obtain⟨i,g,e,d,-⟩:=h.cur;rcases e with⟨-,a,-⟩ | ⟨-,a,-⟩ | ⟨-,a,-,rfl⟩ | ⟨-,-,a,-⟩
 iterate 2
  .rw [b]at a;cases a
 .rw [b]at a;cases a;exact d
 .cases a
theorem ChJ.Dm (h:ChJ w0 base v0 c l0 l1 l2 l3 zl za zb none w) (b:zb=some u):Near w0 v0 u:=by
 obtain⟨i,g,e,-,d,-⟩:=h.cur;rcases e with⟨-,a,-⟩ | ⟨-,a,-⟩ | ⟨-,a,-,rfl⟩ | ⟨-,-,a,-⟩
 iterate 2
  .rw [b]at a;cases a
 .rw [b]at a;cases a;exact d
 .cases a
theorem ChJ.DG (h:ChJ w0 base v0 c l0 l1 l2 l3 zl za zb none w) (d:zb=some u) (q:Ow base w' v' l3) (n:w.grownBy w' u.ownBlock) (p:Near w u v'):ChJ w0 base v0 c l0 l1 l2 l3 zl za zb (some v') w':=by
 obtain⟨A,z,r,-,i,o⟩:=h.cur;rcases r with⟨-,a,-⟩ | ⟨-,a,-⟩ | ⟨l,a,-,rfl⟩ | ⟨-,-,a,-⟩
 iterate 2
  .rw [d]at a;cases a
 .rw [d]at a;cases a;obtain⟨x,y,k⟩:=fM (g:=0) h.ext i n p;refine⟨x,v',l3,.inr (.inr (.inr ⟨l,by rw[d];simp,rfl,rfl⟩)),q,y,fun u t=>?_⟩;obtain⟨g,e,j,b⟩:=o u t;exact⟨g,e,(k g _ j b).1,(k g _ j b).2⟩
 .cases a
theorem ChJ.CQ (h:ChJ w0 base v0 c l0 l1 l2 l3 zl za zb zc w) (b:zc=some u):Ow base w u l3:=by
 obtain⟨i,g,e,d,-⟩:=h.cur;rcases e with⟨-,-,a,-⟩ | ⟨-,-,a,-⟩ | ⟨-,-,a,-⟩ | ⟨-,-,a,rfl⟩
 iterate 3
  .rw [b]at a;cases a
 .rw [b]at a;cases a;exact d
theorem ChJ.Cx (h:ChJ w0 base v0 c l0 l1 l2 l3 none za zb zc w):ChJ w0 base v0 c l0 l1 l2 l3 (some (.slice (some ⟨w.heap.size,0,none⟩) 1 1)) za zb zc (w.alloc (.cells #[.int .u8 c.toNat] 5)):=by
 obtain⟨i,g,j,b,a,l⟩:=h.cur;have d:Ext w (w.alloc (.cells #[.int .u8 c.toNat] 5)):=(Ext.refl w).alloc _;refine⟨h.ext.trans (d.grown.but _),i,g,j,am b d,a,fun u k=>?_⟩;cases k;exact⟨_,rfl,ae _ _,fun e=>by have:=(b.lt _ e).2;omega⟩
theorem ChJ.lit (h:ChJ w0 base v0 c l0 l1 l2 l3 zl za zb zc w) (a:zl=some u):IsBytes w u [c]:=by
 obtain⟨i,e,-,-,-,b⟩:=h.cur;obtain⟨g,rfl,d,-⟩:=b u a;exact Row.new d (by decide) _ rfl
theorem ChJ.size (h:ChJ w0 base v0 c l0 l1 l2 l3 zl za zb zc w):w0.heap.size<=w.heap.size:=h.ext.size
theorem ChJ.CI (h:ChJ w0 base v0 c l0 (l0++[c]) l2 l3 zl none zb zc w) (g:zl=some u) (e:base<=w0.heap.size) (j:l0.length<=100000000) :
  ∃v' w',(Builtin.append_ #[37,37] 37 #[v0,u]).run Tryz.prog w=.ok v' w'/\ChJ w0 base v0 c l0 (l0++[c]) l2 l3 zl (some v') zb zc w':=by
 obtain⟨v',w',i,a,b,d⟩:=gJ base 37 v0 l0 h.CR u [c] (h.lit g) (by simp;omega) (Nat.le_trans e h.size);exact⟨v',w',i,h.CU a b d⟩
theorem ChJ.CJ (h:ChJ w0 base v0 c l0 l1 (l1++[c]) l3 zl za none zc w) (i:zl=some x) (a:za=some u) (g:base<=w0.heap.size) (k:l1.length<=100000000) :
  ∃v' w',(Builtin.append_ #[37,37] 37 #[u,x]).run Tryz.prog w=.ok v' w'/\ChJ w0 base v0 c l0 l1 (l1++[c]) l3 zl za (some v') zc w':=by
 obtain⟨v',w',j,b,d,e⟩:=gJ base 37 u l1 (h.CP a) x [c] (h.lit i) (by simp;omega) (Nat.le_trans g h.size);exact⟨v',w',j,h.CV a b d e⟩
theorem ChJ.CZ (h:ChJ w0 base v0 c l0 (l0++l1) l2 l3 zl none zb zc w) (e:base<=w0.heap.size) (j:l0.length<=100000000) (g:l1.length<=100000000) :
  ∃v' w',(Builtin.append_ #[37,9] 37 #[v0,S8 l1]).run Tryz.prog w=.ok v' w'/\ChJ w0 base v0 c l0 (l0++l1) l2 l3 zl (some v') zb zc w':=by
 obtain⟨v',w',i,a,b,d⟩:=mM base v0 l0 h.CR l1 (by omega) (Nat.le_trans e h.size);exact⟨v',w',i,h.CU a b d⟩
end
theorem eB {c:Prop} [Decidable c] {a:Operand->Value} {R:Value->World->Prop} {o:Oper} {w:World} (s x:Operand) (t u:TypeId) {v xv v':Value} {w':World} (g:c) (b:o.op=.call { callee:=.builtin .append,args:=#[s,x],argTypes:=#[t,u] })
  (e:a s=v) (i:a x=xv) (d:(Builtin.append_ #[t,u] o.type #[v,xv]).run Tryz.prog w=.ok v' w') (h:R v' w') :
  if c then fB Tryz.prog R ((execOp a o).run Tryz.prog w)else R undef w:=by
 rw[if_pos g];unfold execOp;simp only[b,resolve,invoke,builtin,Sem.run_bind,Sem.run_pure,Result.andThen_ok,List.map_toArray,List.map_cons,List.map_nil,e,i,d];exact h
end
end Go.Proofs.YtfabjgfmiaammaaGreatDoor
