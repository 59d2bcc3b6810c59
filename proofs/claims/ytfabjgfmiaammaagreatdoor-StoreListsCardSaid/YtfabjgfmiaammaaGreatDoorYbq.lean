/- Contracts of the program's functions and plain laws behind the card. Conditions: as each theorem states. -/
import Derived.Test.YtfabjgfmiaammaaGreatDoorYay
import Derived.Test.YtfabjgfmiaammaaGreatDoorYbb
import Derived.Test.YtfabjgfmiaammaaGreatDoorYbo
import Derived.Test.YtfabjgfmiaammaaGreatDoorYan
import Derived.Test.YtfabjgfmiaammaaGreatDoorYbc
import Derived.Test.YtfabjgfmiaammaaGreatDoorYbg
set_option linter.unusedVariables false
set_option linter.unusedSimpArgs false
set_option linter.unusedSectionVars false
set_option maxRecDepth 100000
set_option maxHeartbeats 64000000
namespace Go.Proofs.YtfabjgfmiaammaaGreatDoor
section
open Go Go.RowKit
theorem o0 (v:Value) (l:B8) (w:World) (h:IsBytes w v l) (n:l.length<=10000000) :
  Calls Tryz.prog 81 #[v] w fun e o=>e=.returned (S8 (aR l))/\Ext w o:=by
 have k:Hid (IsBytes w v l):=h;clear h;go_enter Tryz.func81,Tryz.ntmps81
 go_wp2_with (first
  | (go_at_call 138;go_must (refine(yY v l w k.out n).mono ?_;rintro e j ⟨⟨i,rfl,a⟩,d⟩;have b:=tU l;have c:IsBytes j i (fW l):=by unfold IsBytes;rw[b];exact Row.BV a (by omega)))
  | (go_at_call 137;go_must (refine(kO i (fW l) j c (by omega)).mono ?_;rintro e p ⟨rfl,g⟩)))
 go_ret;exact⟨rfl,d.trans g⟩
end
section
open Go Go.RowKit
variable [Inhabited bf]
theorem tY {id:B8} (h:al id=true):id.length=64:=by
 unfold al at h
 cases a:aY id with
 | none=>rw[a]at h;cases h
 | some b =>
  rw[a]at h;have c:=(dN id a).1;have:b.length=32:=by simpa using h
  omega
variable {w:World}
theorem qL {a:Fi} {c:Option Addr} {d:Nat}:∀b,b=(w.alloc (.cells #[.int .i64 0,.slice none 0 0,.int .i64 0] 114)).setRow w.heap.size #[.int .i64 a.mode,.slice c a.data.length d,.int .i64 a.time] ->
  b.heap[w.heap.size]? = some (.cells #[.int .i64 a.mode,.slice c a.data.length d,.int .i64 a.time] 114 (0,0))/\Ext w b:=fun b e=>by
 subst e;exact⟨setRow_heap _ _ _ _ _ _ (ae _ _),Ext.but ((Ext.refl _).alloc _) (af _ _ _) (Nat.le_refl _)⟩
variable {w0:World} {x:Value} {gy k:Nat} {m:Fs} {n:Int}
theorem ns {O:Nat->Prop} (id:B8) (h:Sr w0 O w x gy m n) (hg:Good k m) (hk:k<=60000) (hid:id.length<=10000000) (a':0<=n) (ba:n<=100000) :
  Calls Tryz.prog 36 #[.pointer (some ⟨gy,0,none⟩),S8 id] w fun e w'=>(∃v,e=.returned (.tuple #[v,.int .i64 (bj m id).2.2])/\IsBytes w' v (bj m id).2.1/\TypB w' v)/\SrPost w0 O x gy (bj m id).1 (ck n id) w w':=by
 have H:Hid (Sr w0 O w x gy m n):=h;have HG:Hid (Good k m):=hg;obtain⟨vb,a5⟩:∃c,al id=c:=⟨_,rfl⟩;have i:Hid _:=a5;obtain⟨⟨m2,Y,Z⟩,J⟩:∃q,bj m id=q:=⟨_,rfl⟩;have E:Hid _:=J;rw[J];obtain⟨n2,K⟩:∃x,ck n id=x:=⟨_,rfl⟩;have S:Hid _:=K;rw[K];clear h hg J a5 K;go_enter Tryz.func36,Tryz.ntmps36;go_wp2_with fail;go_at_call 87;refine(fC id w (by omega)).mono ?_;rw[i.out];rintro e9 w1 ⟨rfl,a6⟩;have G:Hid (Ext w w1):=a6;clear a6
 cases vb with
 | false =>
  obtain⟨rfl,rfl,rfl⟩:m=m2/\[]=Y/\6=Z:=by
   have j:=E.out;unfold bj at j;rw[if_pos i.out]at j;have d:=Prod.mk.inj j;exact⟨d.1,(Prod.mk.inj d.2).1,(Prod.mk.inj d.2).2⟩
  have hn:n2=n:=by rw[<-S.out];unfold ck;rw[i.out];rfl
  have R:Hid _:=hn;clear hn;go_wp2;go_ret2;exact⟨⟨_,rfl,IsBytes.nil _,TypB.nil _ _ _⟩,by rw[R.out];exact SrPost.refl H.out G.out⟩
 | true =>
  have bk:=tY i.out;have hn:n2=n+1:=by rw[<-S.out];unfold ck;rw[i.out];rfl
  have R:Hid _:=hn;obtain⟨⟨t,a,u⟩,hr⟩:∃q,aF m (ai id)=q:=⟨_,rfl⟩;have a1:bj m id=if u≠0 then(t,[],u)else if aR a.data≠id then(t,[],5)else(t,a.data,0):=by
   unfold bj;rw[if_neg (by rw[i.out];simp),hr]
  have Q:Hid _:=a1;have M:=pZ (ai id) (H.out.more G.out) HG.out hk (by unfold ai;simp;omega) a' ba;have aa:=jl (p:=ai id) HG.out.ok HG.out.plan;rw[hr]at M aa;simp only at aa;have a8:Hid _:=M;clear hr M a1 hn;go_wp2_with fail;go_at_call 82;refine Calls.mono a8.out ?_;rintro e9 B ⟨⟨v2,rfl,I,a4⟩,a2⟩;obtain⟨z,A,rfl,-⟩:=_root_.id I;have P:Hid (IsBytes B (.slice z a.data.length A) a.data):=I;have W:Hid (TypB B (.slice z a.data.length A)):=a4;have T:Hid (SrPost w0 O x gy t (n+1) w B):=SrPost.pre H.out G.out a2;clear I a4 a2;go_upto_region 4 with(refine wpList_store_row rfl 114 (.tmp 6) (.tmp 16) rfl B.heap.size #[.int .i64 a.mode,.slice z a.data.length A,.int .i64 a.time] rfl rfl 114 _ (ae _ _) cB rfl (by simp[Value.oneCell']) ?_);obtain⟨C,N⟩:∃C,C=(B.alloc (.cells #[.int .i64 0,.slice none 0 0,.int .i64 0] 114)).setRow B.heap.size #[.int .i64 a.mode,.slice z a.data.length A,.int .i64 a.time]:=⟨_,rfl⟩;rw[<-N];obtain⟨L,o⟩:=qL C N;obtain⟨c0,c1,c2⟩:=bL L;have bh:Hid (Ext B C):=o;have F:Hid (SrPost w0 O x gy t (n+1) w C):=T.out.ext o;have D:Hid (IsBytes C (.slice z a.data.length A) a.data):=IsBytes.ext P.out o;have X:Hid (TypB C (.slice z a.data.length A)):=W.out.keep (KeepB.BX o);have V:Hid _:=L;obtain⟨gf,a0⟩:∃g,B.heap.size=g:=⟨_,rfl⟩;rw[a0]at c0 c1 c2 V ⊢;clear N L o a0 T P W
  by_cases b:u=0
  case neg =>
   have ad:(u==0)=false:=by simpa using b
   have au:(u != 0)=true:=by simpa using b
   obtain⟨rfl,rfl,rfl⟩:t=m2/\[]=Y/\u=Z:=by
    have j:=Q.out;rw[E.out,if_pos b]at j;have d:=Prod.mk.inj j;exact⟨d.1.symm,(Prod.mk.inj d.2).1.symm,(Prod.mk.inj d.2).2.symm⟩
   clear b;go_wp2;go_ret2;exact⟨⟨_,rfl,IsBytes.nil _,TypB.nil _ _ _⟩,by rw[R.out];exact F.out⟩
  have ad:(u==0)=true:=by simpa using b
  have au:(u != 0)=false:=by simpa using b
  have l:Hid ((m2,Y,Z)=if aR a.data≠id then(t,[],5)else(t,a.data,0)):=by
   unfold Hid;rw[<-E.out,Q.out,if_neg (by simpa using b)]
  subst b;go_wp2_with fail;go_at_call 81;refine(o0 _ a.data C D.out (by omega)).mono ?_;rintro e9 w4 ⟨rfl,r⟩;have U:Hid (SrPost w0 O x gy t (n+1) w w4):=F.out.ext r;have a7:Hid (IsBytes w4 (.slice z a.data.length A) a.data):=IsBytes.ext D.out r;have a9:Hid (TypB w4 (.slice z a.data.length A)):=X.out.keep (KeepB.BX r);obtain⟨f0,f1,f2⟩:=bL (Ext.row r V.out);clear r F D X c0 c1 c2;obtain⟨sx,a3⟩:∃s,aR a.data=s:=⟨_,rfl⟩;rw[a3]at l ⊢;clear a3
  by_cases y:sx=id
  .have bb:(sx==id)=true:=by simpa using y
   have bd:(sx != id)=false:=by simpa using y
   obtain⟨rfl,rfl,rfl⟩:t=m2/\a.data=Y/\0=Z:=by
    have j:=l.out;rw[if_neg (by simpa using y)]at j;have d:=Prod.mk.inj j;exact⟨d.1.symm,(Prod.mk.inj d.2).1.symm,(Prod.mk.inj d.2).2.symm⟩
   clear y;go_wp2;go_ret2;exact⟨⟨_,rfl,a7.out,a9.out⟩,by rw[R.out];exact U.out⟩
  .have bb:(sx==id)=false:=by simpa using y
   have bd:(sx != id)=true:=by simpa using y
   obtain⟨rfl,rfl,rfl⟩:t=m2/\[]=Y/\5=Z:=by
    have j:=l.out;rw[if_pos y]at j;have d:=Prod.mk.inj j;exact⟨d.1.symm,(Prod.mk.inj d.2).1.symm,(Prod.mk.inj d.2).2.symm⟩
   clear y;go_wp2;go_ret2;exact⟨⟨_,rfl,IsBytes.nil _,TypB.nil _ _ _⟩,by rw[R.out];exact U.out⟩
theorem y9 {O:Nat->Prop} (id:B8) (h:Sr w0 O w x gy m n) (o:Good k m) (y:k<=60000) (hid:id.length<=10000000) (j:0<=n) (l:n<=100000) :
  Calls Tryz.prog 40 #[.pointer (some ⟨gy,0,none⟩),S8 id] w fun e z=>e=.returned (.bool (gM m id))/\SrPost w0 O x gy (bj m id).1 (ck n id) w z:=by
 have d:Hid _:=ns id h o y hid j l;obtain⟨⟨C,A,g⟩,a⟩:∃q,bj m id=q:=⟨_,rfl⟩;have p:gM m id=decide (g=0):=by unfold gM;rw[a]
 rw[p];rw[a]at d ⊢;obtain⟨u,i⟩:∃b,(g==0)=b:=⟨_,rfl⟩;have c:decide (g=0)=u:=by rw[<-i];rfl
 rw[c];clear p a h o c;go_enter Tryz.func40,Tryz.ntmps40;go_wp2_with fail;go_at_call 36;refine Calls.mono d.out ?_;rintro B D ⟨⟨v,rfl,-,-⟩,r⟩;have t:Hid _:=r;clear r d;go_wp2;go_ret;exact⟨rfl,t.out⟩
theorem xg {O:Nat->Prop} (id:B8) (h:Sr w0 O w x gy m n) (B:Good k m) (F:k<=60000) (hid:id.length<=10000000) :
  Calls Tryz.prog 43 #[.pointer (some ⟨gy,0,none⟩),S8 id] w fun e I=>e=.returned (.int .i64 (dB m id).2)/\SrPost w0 O x gy (dB m id).1 n w I:=by
 have H:Hid (Sr w0 O w x gy m n):=h;have D:Hid (Good k m):=B;obtain⟨g,rfl⟩:∃g,x=.pointer (some ⟨g,0,none⟩):=h.ref.ptr;obtain⟨G,p⟩:∃c,al id=c:=⟨_,rfl⟩;have a:Hid _:=p;obtain⟨⟨C,A⟩,i⟩:∃q,dB m id=q:=⟨_,rfl⟩;have j:Hid _:=i;rw[i];clear h B i p;go_enter Tryz.func43,Tryz.ntmps43;go_wp2_with fail;go_at_call 87;refine(fC id w (by omega)).mono ?_;rw[a.out];rintro K z ⟨rfl,r⟩;have d:Hid (Ext w z):=r;clear r
 cases G with
 | false =>
  obtain⟨rfl,rfl⟩:m=C/\6=A:=by
   have b:=j.out;unfold dB at b;rw[if_pos a.out]at b;exact⟨(Prod.mk.inj b).1,(Prod.mk.inj b).2⟩
  go_wp2;go_ret;exact⟨rfl,SrPost.refl H.out d.out⟩
 | true =>
  have E:=tY a.out;have y:Hid (bD m (ai id)=(C,A)):=by
   have b:=j.out;unfold dB at b;rw[if_neg (by rw[a.out];simp)]at b;exact b
  have t:Hid (Sr w0 O z (.pointer (some ⟨g,0,none⟩)) gy m n):=H.out.more d.out;have J:z.cell? ⟨gy,0,none⟩=some (.pointer (some ⟨g,0,none⟩)):=(cell_of_row _ _ 0 _ _ _ t.out.row).trans rfl;have l:Hid _:=jW (ai id) (Sr.B5 t.out D.out F) (by unfold ai;simp;omega);rw[y.out]at l;go_wp2_with fail;go_at_call 94;refine Calls.mono l.out ?_;rintro e L ⟨rfl,o⟩;have u:Hid _:=SrPost.pre H.out d.out (Sr.post t.out o);clear o;go_wp2;go_ret;exact⟨rfl,u.out⟩
theorem uO {O:Nat->Prop} (h:Sr w0 O w x gy m n) (z:Good k m) (B:k<=60000) :
  Calls Tryz.prog 45 #[.pointer (some ⟨gy,0,none⟩)] w fun e C=>e=.returned (.int .i64 (dW m).2)/\SrPost w0 O x gy (dW m).1 n w C:=by
 have H:Hid (Sr w0 O w x gy m n):=h;obtain⟨g,rfl⟩:∃g,x=.pointer (some ⟨g,0,none⟩):=h.ref.ptr;have E:w.cell? ⟨gy,0,none⟩=some (.pointer (some ⟨g,0,none⟩)):=(cell_of_row _ _ 0 _ _ _ h.row).trans rfl;obtain⟨⟨t,d⟩,c⟩:∃q,bD m bO=q:=⟨_,rfl⟩;have b:dW m=if d≠7 then(t,d)else(t,0):=by unfold dW;rw[c]
 have o:Hid _:=jW bO (Sr.B5 H.out z B) (by decide);rw[c]at o;obtain⟨⟨A,y⟩,p⟩:∃q,dW m=q:=⟨_,rfl⟩;rw[p]at b ⊢;have j:Hid _:=b;clear h z c p b;go_enter Tryz.func45,Tryz.ntmps45;go_wp2_with fail;go_at_call 94;refine Calls.mono o.out ?_;rintro e D ⟨rfl,r⟩;have l:Hid (SrPost w0 O (.pointer (some ⟨g,0,none⟩)) gy t n w D):=Sr.post H.out r;clear r
 by_cases i:d=7
 .have u:(d==7)=true:=by simpa using i
  obtain⟨rfl,rfl⟩:t=A/\0=y:=by
   have a:=j.out;rw[if_neg (by simpa using i)]at a;exact⟨(Prod.mk.inj a).1.symm,(Prod.mk.inj a).2.symm⟩
  subst i;go_wp2;go_ret;exact⟨rfl,l.out⟩
 .have u:(d==7)=false:=by simpa using i
  obtain⟨rfl,rfl⟩:t=A/\d=y:=by
   have a:=j.out;rw[if_pos i]at a;exact⟨(Prod.mk.inj a).1.symm,(Prod.mk.inj a).2.symm⟩
  clear i;go_wp2;go_ret;exact⟨rfl,l.out⟩
end
section
open Go Go.RowKit
variable [Inhabited bf]
def oZ (n:Int) (b:B8):Int:=if 20000<b.length then n else n+1
theorem rN {u w:World} {O:Nat->Prop} {x:Value} {l:Nat} {m:Fs} {n:Int} {k:Nat} (v:Value) (b:B8) (h:Sr u O w x l m n) (hg:Good k m) (I:k<=59900) (hv:Arg u w v b) (hl:b.length<=140737488355328) (cp:0<=n) (cq:n<=100000) :
  Calls Tryz.prog 30 #[.pointer (some ⟨l,0,none⟩),v] w fun e w'=>e=.returned (.tuple #[S8 (bQ m b).2.1,.int .i64 (bQ m b).2.2])/\SrPost u O x l (bQ m b).1 (oZ n b) w w':=by
 have H:Hid (Sr u O w x l m n):=h;have HG:Hid (Good k m):=hg;have HA:Hid (Arg u w v b):=hv;obtain⟨g,rfl⟩:∃g,x=.pointer (some ⟨g,0,none⟩):=h.ref.ptr;obtain⟨s0,t0,rfl,-⟩:=id (hv.bytes h.ext);obtain⟨⟨D,C,B⟩,br⟩:∃q,bQ m b=q:=⟨_,rfl⟩;have bd:Hid _:=br;obtain⟨nn,bq⟩:∃q,oZ n b=q:=⟨_,rfl⟩;have a8:Hid _:=bq;rw[br,bq];clear h hg hv br bq;go_enter Tryz.func30,Tryz.ntmps30
 by_cases i:20000<b.length
 .have co:(b.length:Int)>20000:=by omega
  obtain⟨rfl,rfl,rfl⟩:m=D/\[]=C/\3=B:=by
   have a:=bd.out;unfold bQ at a;rw[if_pos i]at a;have c:=Prod.mk.inj a;exact⟨c.1,(Prod.mk.inj c.2).1,(Prod.mk.inj c.2).2⟩
  have o:Hid (nn=n):=by rw[<-a8.out];unfold oZ;exact if_pos i
  clear i;go_wp2;go_ret2;exact⟨rfl,by rw[o.out];exact SrPost.refl H.out (Ext.refl _)⟩
 .have co:¬(b.length:Int)>20000:=by omega
  have o:Hid (nn=n+1):=by rw[<-a8.out];unfold oZ;exact if_neg i
  obtain⟨d,a5⟩:∃s,aR b=s:=⟨_,rfl⟩;have a4:Hid (d.length=64):=by rw[<-a5];exact o8 b
  obtain⟨⟨z,j,S⟩,hr⟩:∃q,aF m (ai d)=q:=⟨_,rfl⟩;have a3:Hid ((D,C,B)=if S=0/\j.data=b then(z,d,0)else if S=0/\aR j.data=d then(z,[],5)else if S≠0/\S≠7 then(z,[],S)else df (bG z bO 1 b) d):=by
   have a:=bd.out;unfold bQ at a;rw[if_neg i,a5,hr]at a;exact a.symm
  have ca:∀w',Sr u O w' (.pointer (some ⟨g,0,none⟩)) l m n->Calls Tryz.prog 82 #[.pointer (some ⟨l,0,none⟩),S8 (ai d)] w' fun e bx=>(∃v,e=.returned (.tuple #[fiV j v,.int .i64 S])/\IsBytes bx v j.data/\TypB bx v)/\SrPost u O (.pointer (some ⟨g,0,none⟩)) l z (n+1) w' bx:=fun w' h'=>by
   have a:=pZ (ai d) h' HG.out (by omega) (by unfold ai;rw[List.length_append,a4.out];decide) cp cq;rw[hr]at a;exact a
  have cn:Hid _:=ca;have b8:=jl (p:=ai d) HG.out.ok HG.out.plan;rw[hr]at b8;simp only at b8;have a2:Hid (Good (k+1) z):=by
   have a:=eM HG.out (ai d);rw[hr]at a;exact a
  have b3:Hid _:=o0 (.slice s0 b.length t0) b w (HA.out.bytes H.out.ext) (by omega);rw[a5]at b3;clear i hr ca a5 bd;go_wp2_with fail;go_at_call 81;refine Calls.mono b3.out ?_;rintro e w1 ⟨rfl,ce⟩;have b7:Hid (Ext w w1):=ce;have cv:d.length<=64:=by have:=a4.out;omega
  clear ce;go_wp2_with fail;go_at_call 82;refine(cn.out w1 (H.out.more b7.out)).mono ?_;rintro e9 w2 ⟨⟨v2,rfl,bh,cc⟩,b'⟩;obtain⟨va,vc,rfl,-⟩:=_root_.id bh;have bS:Hid (IsBytes w2 (.slice va j.data.length vc) j.data):=bh;have b6:Hid (TypB w2 (.slice va j.data.length vc)):=cc;have b4:Hid (SrPost u O (.pointer (some ⟨g,0,none⟩)) l z (n+1) w w2):=SrPost.pre H.out b7.out b';clear bh cc b';go_upto_region 5 with(refine wpList_store_row rfl 114 (.tmp 7) (.tmp 19) rfl w2.heap.size #[.int .i64 j.mode,.slice va j.data.length vc,.int .i64 j.time] rfl rfl 114 _ (ae _ _) cB rfl (by simp[Value.oneCell']) ?_);obtain⟨w3,bt⟩:∃w3,w3=(w2.alloc (.cells #[.int .i64 0,.slice none 0 0,.int .i64 0] 114)).setRow w2.heap.size #[.int .i64 j.mode,.slice va j.data.length vc,.int .i64 j.time]:=⟨_,rfl⟩;rw[<-bt];obtain⟨bs,a6⟩:=qL w3 bt;obtain⟨c0,c1,c2⟩:=bL bs;have P:Hid (SrPost u O (.pointer (some ⟨g,0,none⟩)) l z (n+1) w w3):=b4.out.ext a6;have b0:Hid (IsBytes w3 (.slice va j.data.length vc) j.data):=IsBytes.ext bS.out a6;have cx:Hid (TypB w3 (.slice va j.data.length vc)):=b6.out.keep (KeepB.BX a6);have cm:Hid _:=bs;have a9:Hid (Arg u w3 (.slice s0 b.length t0) b):=HA.out.keep P.out.keep;obtain⟨gf,b9⟩:∃g,w2.heap.size=g:=⟨_,rfl⟩;rw[b9]at c0 c1 c2 cm ⊢;clear bt bs a6 b9 b4 bS b6
  by_cases y:S=0
  case pos =>
   subst y;obtain⟨eq,bo⟩:∃q,(j.data==b)=q:=⟨_,rfl⟩;have b2:Hid _:=bo;have b1:Hid _:=cY (.slice va j.data.length vc) (.slice s0 b.length t0) j.data b w3 b0.out (a9.out.bytes (P.out.choose_spec.1.ext));rw[bo]at b1;clear bo;go_wp2_with fail;go_at_call 31;refine Calls.mono b1.out ?_;rintro e w4 ⟨rfl,rfl⟩
   cases eq with
   | true =>
    obtain⟨rfl,rfl,rfl⟩:D=z/\C=d/\B=0:=by
     have a:=a3.out;rw[if_pos ⟨by first | rfl | trivial,by simpa using b2.out⟩]at a;have c:=Prod.mk.inj a;exact⟨c.1,(Prod.mk.inj c.2).1,(Prod.mk.inj c.2).2⟩
    go_wp2;go_ret2;exact⟨rfl,by rw[o.out];exact P.out⟩
   | false =>
   have Y:Hid ((D,C,B)=if aR j.data=d then(z,[],5)else df (bG z bO 1 b) d):=by
    have a:=a3.out;rw[if_neg (fun h=>by have:=b2.out;rw[h.2]at this;simp at this)]at a;unfold Hid;rw[a]
    by_cases hq:aR j.data=d
    .rw [if_pos ⟨by first | rfl | trivial,hq⟩,if_pos hq]
    .rw [if_neg (fun h=>hq h.2),if_neg (fun h=>by first | exact h.1 rfl | (simp at h;done)),if_neg hq]
   have a7:Hid _:=o0 (.slice va j.data.length vc) j.data w4 b0.out (by omega);obtain⟨s2,cb⟩:∃s,aR j.data=s:=⟨_,rfl⟩;rw[cb]at a7 Y;clear cb;go_wp2_with fail;go_at_call 81;refine Calls.mono a7.out ?_;rintro e w5 ⟨rfl,bv⟩;have b5:Hid (SrPost u O (.pointer (some ⟨g,0,none⟩)) l z (n+1) w w5):=P.out.ext bv;have cl:Hid (Arg u w5 (.slice s0 b.length t0) b):=a9.out.keep (KeepB.BX bv);clear bv c0 c1 c2
   by_cases hq:s2=d
   .have cs:(s2==d)=true:=by simpa using hq
    obtain⟨rfl,rfl,rfl⟩:D=z/\C=[]/\B=5:=by
     have a:=Y.out;rw[if_pos hq]at a;have c:=Prod.mk.inj a;exact⟨c.1,(Prod.mk.inj c.2).1,(Prod.mk.inj c.2).2⟩
    clear hq;go_wp2;go_ret2;exact⟨rfl,by rw[o.out];exact b5.out⟩
   have cs:(s2==d)=false:=by simpa using hq
   have U:Hid (df (bG z bO 1 b) d=(D,C,B)):=by
    have a:=Y.out;rw[if_neg hq]at a;exact a.symm
   clear hq;obtain⟨O6,h6,L,ad⟩:=b5.out;obtain⟨G,N⟩:∃G,G=w5:=⟨_,rfl⟩;rw[<-N]at h6 L ⊢;have J:Hid (Sr u O6 G (.pointer (some ⟨g,0,none⟩)) l z (n+1)):=h6;have V:Hid (Fr (fun k=>O k\/k=l) w G):=L;have W:Hid (∀k,O6 k->O k\/w.heap.size<=k):=ad;have T:Hid (Arg u G (.slice s0 b.length t0) b):=by rw[N];exact cl.out
   clear h6 L ad N;have HW:Hid _:=kX bO 1 (.slice s0 b.length t0) b (Sr.B5 J.out a2.out (by omega)) (by decide) (T.out.bytes J.out.ext) (T.out.out (fun k I=>(J.out.lo k I).1));obtain⟨⟨R,Z⟩,A⟩:∃q,bG z bO 1 b=q:=⟨_,rfl⟩;rw[A]at HW;have E:Hid (df (R,Z) d=(D,C,B)):=by
    unfold Hid;rw[<-U.out,A]
   have ba:Hid (Good (k+2) R):=by
    have a:=gA a2.out bO 1 b;rw[A]at a;exact a
   have d0:G.cell? ⟨l,0,none⟩=some (.pointer (some ⟨g,0,none⟩)):=(cell_of_row _ _ 0 _ _ _ J.out.row).trans rfl;clear A;go_wp2_with fail;go_at_call 83;refine Calls.mono HW.out ?_;rintro e w7 ⟨rfl,a0⟩;have K:Hid (SrPost u O6 (.pointer (some ⟨g,0,none⟩)) l R (n+1) G w7):=Sr.post J.out a0;clear a0 d0
   by_cases r:Z=0
   case neg =>
    have bk:(Z==0)=false:=by simpa using r
    have bl:(Z != 0)=true:=by simpa using r
    obtain⟨rfl,rfl,rfl⟩:R=D/\[]=C/\Z=B:=by
     have a:=E.out;unfold df at a;rw[if_pos r]at a;have c:=Prod.mk.inj a;exact⟨c.1,(Prod.mk.inj c.2).1,(Prod.mk.inj c.2).2⟩
    clear r;go_wp2;go_ret2;exact⟨rfl,by rw[o.out];exact SrPost.trans V.out W.out (fun k I=>(J.out.lo k I).2) K.out⟩
   subst r;obtain⟨O7,h7,aa,au⟩:=K.out;have H7:Hid (Sr u O7 w7 (.pointer (some ⟨g,0,none⟩)) l R (n+1)):=h7;have a':Hid _:=aa;have bb:Hid (∀k,O7 k->O6 k\/G.heap.size<=k):=au;have HM:Hid _:=lD bO (ai d) (Sr.B5 H7.out ba.out (by omega)) (by decide) (by unfold ai;rw[List.length_append,a4.out];decide);obtain⟨⟨m3,Q⟩,M⟩:∃q,aP R bO (ai d) false=q:=⟨_,rfl⟩;rw[M]at HM;have F:Hid ((D,C,B)=if Q≠0 then(m3,[],Q)else(m3,d,0)):=by
    have a:=E.out;unfold df at a;rw[if_neg (by simp),M]at a;exact a.symm
   have d0:w7.cell? ⟨l,0,none⟩=some (.pointer (some ⟨g,0,none⟩)):=(cell_of_row _ _ 0 _ _ _ H7.out.row).trans rfl;clear M h7 aa au K;go_wp2_with fail;go_at_call 84;refine Calls.mono HM.out ?_;rintro e w8 ⟨rfl,a1⟩;have X:Hid (SrPost u O (.pointer (some ⟨g,0,none⟩)) l m3 (n+1) w w8):=SrPost.trans V.out W.out (fun k I=>(J.out.lo k I).2) (SrPost.trans a'.out bb.out (fun k I=>(H7.out.lo k I).2) (Sr.post H7.out a1));clear a1 d0
   by_cases t:Q=0
   .subst t;obtain⟨rfl,rfl,rfl⟩:D=m3/\C=d/\B=0:=by
     have a:=F.out;rw[if_neg (by simp)]at a;have c:=Prod.mk.inj a;exact⟨c.1,(Prod.mk.inj c.2).1,(Prod.mk.inj c.2).2⟩
    go_wp2;go_ret2;exact⟨rfl,by rw[o.out];exact X.out⟩
   .have bk:(Q==0)=false:=by simpa using t
    have bl:(Q != 0)=true:=by simpa using t
    obtain⟨rfl,rfl,rfl⟩:D=m3/\C=[]/\B=Q:=by
     have a:=F.out;rw[if_pos t]at a;have c:=Prod.mk.inj a;exact⟨c.1,(Prod.mk.inj c.2).1,(Prod.mk.inj c.2).2⟩
    clear t;go_wp2;go_ret2;exact⟨rfl,by rw[o.out];exact X.out⟩
  have ct:(S==0)=false:=by simpa using y
  have cu:(S != 0)=true:=by simpa using y
  by_cases h7:S=7
  case neg =>
   have c3:(S != 7)=true:=by simpa using h7
   obtain⟨rfl,rfl,rfl⟩:D=z/\C=[]/\B=S:=by
    have a:=a3.out;rw[if_neg (fun h=>y h.1),if_neg (fun h=>y h.1),if_pos ⟨y,h7⟩]at a;have c:=Prod.mk.inj a;exact⟨c.1,(Prod.mk.inj c.2).1,(Prod.mk.inj c.2).2⟩
   clear y h7;go_wp2;go_ret2;exact⟨rfl,by rw[o.out];exact P.out⟩
  case pos =>
   subst h7;have U:Hid (df (bG z bO 1 b) d=(D,C,B)):=by
    have a:=a3.out;rw[if_neg (fun h=>y h.1),if_neg (fun h=>y h.1),if_neg (fun h=>h.2 rfl)]at a;exact a.symm
   clear y c0 c1 c2;obtain⟨O6,h6,L,ad⟩:=P.out;obtain⟨G,N⟩:∃G,G=w3:=⟨_,rfl⟩;rw[<-N]at h6 L ⊢;have J:Hid (Sr u O6 G (.pointer (some ⟨g,0,none⟩)) l z (n+1)):=h6;have V:Hid (Fr (fun k=>O k\/k=l) w G):=L;have W:Hid (∀k,O6 k->O k\/w.heap.size<=k):=ad;have T:Hid (Arg u G (.slice s0 b.length t0) b):=by rw[N];exact a9.out
   clear h6 L ad N;have HW:Hid _:=kX bO 1 (.slice s0 b.length t0) b (Sr.B5 J.out a2.out (by omega)) (by decide) (T.out.bytes J.out.ext) (T.out.out (fun k I=>(J.out.lo k I).1));obtain⟨⟨R,Z⟩,A⟩:∃q,bG z bO 1 b=q:=⟨_,rfl⟩;rw[A]at HW;have E:Hid (df (R,Z) d=(D,C,B)):=by
    unfold Hid;rw[<-U.out,A]
   have ba:Hid (Good (k+2) R):=by
    have a:=gA a2.out bO 1 b;rw[A]at a;exact a
   have d0:G.cell? ⟨l,0,none⟩=some (.pointer (some ⟨g,0,none⟩)):=(cell_of_row _ _ 0 _ _ _ J.out.row).trans rfl;clear A;go_wp2_with fail;go_at_call 83;refine Calls.mono HW.out ?_;rintro e w7 ⟨rfl,a0⟩;have K:Hid (SrPost u O6 (.pointer (some ⟨g,0,none⟩)) l R (n+1) G w7):=Sr.post J.out a0;clear a0 d0
   by_cases r:Z=0
   case neg =>
    have bk:(Z==0)=false:=by simpa using r
    have bl:(Z != 0)=true:=by simpa using r
    obtain⟨rfl,rfl,rfl⟩:R=D/\[]=C/\Z=B:=by
     have a:=E.out;unfold df at a;rw[if_pos r]at a;have c:=Prod.mk.inj a;exact⟨c.1,(Prod.mk.inj c.2).1,(Prod.mk.inj c.2).2⟩
    clear r;go_wp2;go_ret2;exact⟨rfl,by rw[o.out];exact SrPost.trans V.out W.out (fun k I=>(J.out.lo k I).2) K.out⟩
   subst r;obtain⟨O7,h7,aa,au⟩:=K.out;have H7:Hid (Sr u O7 w7 (.pointer (some ⟨g,0,none⟩)) l R (n+1)):=h7;have a':Hid _:=aa;have bb:Hid (∀k,O7 k->O6 k\/G.heap.size<=k):=au;have HM:Hid _:=lD bO (ai d) (Sr.B5 H7.out ba.out (by omega)) (by decide) (by unfold ai;rw[List.length_append,a4.out];decide);obtain⟨⟨m3,Q⟩,M⟩:∃q,aP R bO (ai d) false=q:=⟨_,rfl⟩;rw[M]at HM;have F:Hid ((D,C,B)=if Q≠0 then(m3,[],Q)else(m3,d,0)):=by
    have a:=E.out;unfold df at a;rw[if_neg (by simp),M]at a;exact a.symm
   have d0:w7.cell? ⟨l,0,none⟩=some (.pointer (some ⟨g,0,none⟩)):=(cell_of_row _ _ 0 _ _ _ H7.out.row).trans rfl;clear M h7 aa au K;go_wp2_with fail;go_at_call 84;refine Calls.mono HM.out ?_;rintro e w8 ⟨rfl,a1⟩;have X:Hid (SrPost u O (.pointer (some ⟨g,0,none⟩)) l m3 (n+1) w w8):=SrPost.trans V.out W.out (fun k I=>(J.out.lo k I).2) (SrPost.trans a'.out bb.out (fun k I=>(H7.out.lo k I).2) (Sr.post H7.out a1));clear a1 d0
   by_cases t:Q=0
   .subst t;obtain⟨rfl,rfl,rfl⟩:D=m3/\C=d/\B=0:=by
     have a:=F.out;rw[if_neg (by simp)]at a;have c:=Prod.mk.inj a;exact⟨c.1,(Prod.mk.inj c.2).1,(Prod.mk.inj c.2).2⟩
    go_wp2;go_ret2;exact⟨rfl,by rw[o.out];exact X.out⟩
   .have bk:(Q==0)=false:=by simpa using t
    have bl:(Q != 0)=true:=by simpa using t
    obtain⟨rfl,rfl,rfl⟩:D=m3/\C=[]/\B=Q:=by
     have a:=F.out;rw[if_pos t]at a;have c:=Prod.mk.inj a;exact⟨c.1,(Prod.mk.inj c.2).1,(Prod.mk.inj c.2).2⟩
    clear t;go_wp2;go_ret2;exact⟨rfl,by rw[o.out];exact X.out⟩
end
end Go.Proofs.YtfabjgfmiaammaaGreatDoor
