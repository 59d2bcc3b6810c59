/- Contracts of the program's functions and plain laws behind the card. Conditions: as each theorem states. -/
import Derived.Test.YtfabjgfmiaammaaGreatDoorYbq
import Derived.Test.YtfabjgfmiaammaaGreatDoorYbo
import Derived.Test.YtfabjgfmiaammaaGreatDoorYbg
import Derived.Test.YtfabjgfmiaammaaGreatDoorYbr
import Derived.Test.YtfabjgfmiaammaaGreatDoorYau
import Derived.Test.YtfabjgfmiaammaaGreatDoorYbc
import Derived.Test.YtfabjgfmiaammaaGreatDoorYbs
set_option linter.unusedVariables false
set_option linter.unusedSimpArgs false
set_option linter.unusedSectionVars false
set_option maxRecDepth 100000
set_option maxHeartbeats 64000000
namespace Go.Proofs.YtfabjgfmiaammaaGreatDoor
section
open Go Go.RowKit Go.Sort
theorem xT:∀n:Fin 256,bw (UInt8.ofNat n)<16->33<=(UInt8.ofNat n).toNat/\(UInt8.ofNat n).toNat<=126/\(UInt8.ofNat n).toNat≠47/\(UInt8.ofNat n).toNat≠46:=by decide +kernel
theorem uU {s:B8} (h:al s=true):bW s=true:=by
 have d:s.length=64/\∀c∈s,bw c<16:=by
  unfold al at h
  cases g:aY s with
  | none=>rw[g]at h;cases h
  | some b =>
   rw[g]at h;have p:=dN s g;have:b.length=32:=by simpa using h
   exact⟨by omega,p.2⟩
 obtain⟨a,r⟩:=d;unfold bW;have j:s.any fE=false:=by
  rw[List.any_eq_false];intro c q;have i:=xT ⟨c.toNat,c.toNat_lt⟩;have e:UInt8.ofNat (⟨c.toNat,c.toNat_lt⟩:Fin 256).val=c:=by simp
  rw[e]at i;obtain⟨t,u,w,-⟩:=i (r c q);rw[oN (by omega) (by omega) (by omega)];simp
 have k:s.isEmpty=false:=by cases s with | nil=>simp at a | cons x l=>rfl
 have n:(s==[46])=false:=by simpa using fun e=>by rw[e]at a;simp at a
 have o:(s==[46,46])=false:=by simpa using fun e=>by rw[e]at a;simp at a
 rw[j,k,n,o];simp[a]
theorem nP {a:List B8} (h:∀p∈a,aB cF p=true):(dw a cF.length).filter al=dx a:=by
 unfold dw dx;rw[List.filter_filter];have e:a.map (fun p=>p.drop (cF.length+1))=a.map fun p=>Lib.trimPrefix p eP:=by
  refine List.map_congr_left fun p b=>?_
  obtain⟨r,rfl⟩:=(fo _ _).1 (h p b);unfold Lib.trimPrefix;have:Lib.hasPrefix (cF++47::r) eP=true:=by
   unfold Lib.hasPrefix;rw[List.isPrefixOf_iff_prefix];exact⟨r,by simp[cF,eP]⟩
  rw[if_pos this];simp[cF,eP]
 rw[e];refine List.filter_congr fun s _=>?_
 cases c:al s with
 | false=>simp
 | true=>simp[uU c]
theorem oQ:∀(d a b:B8),ltB (d++a) (d++b)=ltB a b
 | [],_,_=>rfl
 | x::d,a,b=>by
  have c:=oQ d a b;unfold ltB at c ⊢;rw[List.cons_append,List.cons_append,<-c,Bool.eq_iff_iff];simp[List.cons_lt_cons_iff]
variable {l:List B8} {dir:B8}
theorem se (h:∀p∈l,aB dir p=true) (j:cM l):cM (dw l dir.length):=by
 unfold cM dw;refine List.Pairwise.filter _ ?_;rw[List.pairwise_map];refine List.Pairwise.imp_of_mem (fun {a b} g i c=>?_) j;obtain⟨r,rfl⟩:=(fo _ _).1 (h a g);obtain⟨s,rfl⟩:=(fo _ _).1 (h b i);rw[oQ]at c;have e:∀t:B8,(dir++47::t).drop (dir.length+1)=t:=fun t=>by simp
 rw[e,e];have d:=oQ [47] r s;exact d.symm.trans c
variable {m:Fs}
theorem wy (c:Rising (av m).1.now) (b:dir≠[]):cM (bg m dir).2.1/\∀p∈(bg m dir).2.1,aB dir p=true:=by
 unfold bg;split
 .exact ⟨List.Pairwise.nil,fun p a=>by cases a⟩
 .try rw[if_neg b]
  split
  .exact ⟨List.Pairwise.nil,fun p a=>by cases a⟩
  .refine ⟨?_,fun p a=>(List.mem_filter.1 a).2⟩;unfold cM aM;refine List.Pairwise.filter _ ?_;rw[List.pairwise_map];exact c
theorem xw (h:∀p∈l,aB dir p=true) (c:∀s∈l,s.length<=200):∀s∈l,s.length<=100000/\dir.length+1<=s.length:=fun s a=>by
 obtain⟨r,b⟩:=(fo _ _).1 (h s a);refine⟨by have:=c s a;omega,by rw[b];simp⟩
theorem qI {n:Nat} (c:∀s∈l,s.length<=200):∀s∈dw l n,s.length<=100000:=fun s a=>by
 obtain⟨p,b,rfl⟩:=List.mem_map.1 (List.mem_filter.1 a).1;have:=c p b;rw[List.length_drop];omega
theorem qU (h:∀p∈l,aB cF p=true) (a:cM l):cM (dx l):=by
 rw[<-nP h];exact List.Pairwise.filter _ (se h a)
variable [Inhabited bf]
theorem xi {w0 w:World} {O:Nat->Prop} {x:Value} {G:Nat} {n:Int} {k:Nat} (h:Sr w0 O w x G m n) (A:Good k m) (hk:k<=10000) (hr:Rising (av m).1.now) :
  Calls Tryz.prog 41 #[.pointer (some ⟨G,0,none⟩)] w fun e w'=>(∃v,e=.returned (.tuple #[v,.int .i64 (aK m).2.2])/\IsStrs w' v (aK m).2.1)/\SrPost w0 O x G (aK m).1 n w w':=by
 have H:Hid (Sr w0 O w x G m n):=h;obtain⟨g,rfl⟩:∃g,x=.pointer (some ⟨g,0,none⟩):=h.ref.ptr;have d0:w.cell? ⟨G,0,none⟩=some (.pointer (some ⟨g,0,none⟩)):=(cell_of_row _ _ 0 _ _ _ h.row).trans rfl;have HS:Hid _:=nU (dir:=cF) A.ok A.plan;have HL:Hid ((bg m cF).2.1.length<=900000):=by
  have hl:=(ci A.ok A.plan).1;have hn:=hl.ok.B7;have ht:=A.time;have bd:=hl.time;have P:(aM (av m).1.now).length<=900000:=by unfold aM;rw[List.length_map];omega
  unfold Hid bg;split
  .simp
  .rw [if_neg (by decide)];split
   .simp
   .exact Nat.le_trans (List.length_filter_le _ _) P
 have HR:Hid _:=pI cF (Sr.B5 H.out A (by omega)) (by decide);have d:Hid _:=wy (dir:=cF) hr (by decide);obtain⟨⟨Y,l,N⟩,E⟩:∃q,bg m cF=q:=⟨_,rfl⟩;obtain⟨⟨mS,lS,eS⟩,F⟩:∃q,aK m=q:=⟨_,rfl⟩;have M:Hid ((mS,lS,eS)=if N≠0 then(Y,[],N)else(Y,dx l,0)):=by
  unfold Hid;rw[<-F];unfold aK;rw[E]
 rw[F];rw[E]at HR HS HL d;clear E h hr A F;go_enter Tryz.func41,Tryz.ntmps41;go_wp2_with fail;go_at_call 90;refine Calls.mono HR.out ?_;rintro e w1 ⟨⟨v,rfl,hv⟩,S⟩;have a8:l.length<=900000:=HL.out;have U:IsStrs w1 v l:=hv;have HV:Hid (IsStrs w1 v l):=U;have HP:Hid (SrPost w0 O (.pointer (some ⟨g,0,none⟩)) G Y n w w1):=Sr.post H.out S;clear hv U S HR d0
 by_cases h0:N=0
 case neg =>
  have b1:(N != 0)=true:=by simpa using h0
  obtain⟨rfl,rfl,rfl⟩:mS=Y/\lS=[]/\eS=N:=by
   have u:=M.out;rw[if_pos h0]at u;have c:=Prod.mk.inj u;exact⟨c.1,(Prod.mk.inj c.2).1,(Prod.mk.inj c.2).2⟩
  clear h0;go_wp2;go_ret2;exact⟨⟨_,rfl,Row.nil _⟩,HP.out⟩
 subst h0;have I:Hid (mS=Y/\lS=dx l/\eS=0):=by
  have u:=M.out;rw[if_neg (by simp)]at u;have c:=Prod.mk.inj u;exact⟨c.1,(Prod.mk.inj c.2).1,(Prod.mk.inj c.2).2⟩
 have o:Hid _:=nP d.out.2;have aa:Hid (cM (dx l)):=qU d.out.2 d.out.1;obtain⟨D,hD⟩:∃D,dw l cF.length=D:=⟨_,rfl⟩;have ad:Hid (∀s∈D,s.length<=100000):=by rw[<-hD];exact qI (n:=cF.length) HS.out
 have a7:=nL l cF.length;rw[hD]at o a7;have y:Hid _:=uo cF HV.out (xw d.out.2 HS.out) (by decide) (by omega);rw[hD]at y;clear hD;go_wp2_with fail;go_at_call 91;refine Calls.mono y.out ?_;rintro e Z ⟨⟨v2,rfl,ho⟩,W⟩;have HO:Hid (IsStrs Z v2 D):=Row.BV ho (by omega);have a1:Hid _:=SrPost.ext HP.out W;obtain⟨da,dc,rfl,l1,l2,l3,Q⟩:=HO.out.get;have au:Hid _:=Q;clear ho W Q y;go_wp2_with fail;go_loopw [7,8] (fun v i wr=>∃(k n:Nat),k<=D.length/\i=.int .i64 k/\Hid (((D.take k).filter al).length=n)/\Hid (wr.ownsRow Z.heap.size 9 1 v n (((D.take k).filter al).map S8))/\Hid (Ext Z wr)) (fun _ i _=>D.length - (intOf i).toNat)
 case atStart=>exact⟨0,0,Nat.zero_le _,rfl,rfl,World.ownsRow_nil _ _ _ _,Ext.refl _⟩
 case round =>
 obtain⟨k,q,hk,rfl,J,L,HX⟩:=hrel;have a9:q<=D.length:=by rw[<-J.out];exact Nat.le_trans (List.length_filter_le _ _) (List.length_take_le' _ _)
 by_cases B:k<D.length
 case pos =>
  obtain⟨s,r⟩:∃s,D[k]? = some s:=⟨_,List.getElem?_eq_getElem B⟩;have ba:=ad.out s (List.mem_of_getElem? r);obtain⟨bb,oo,rfl,hc⟩:=au.out k B;have y1:=HX.out.cell (hc k B);rw[show D.getD k []=s by rw[List.getD_eq_getElem?_getD,r];rfl]at y1;have T:(D.take (k+1)).filter al=(D.take k).filter al++(if al s=true then[s]else[]):=by
   rw[List.take_add_one,r,List.filter_append];simp only[Option.toList_some,List.filter_cons,List.filter_nil]
  have p:Hid _:=T;have HY:Hid _:=y1;obtain⟨vb,V⟩:∃b,al s=b:=⟨_,rfl⟩;have j:Hid _:=V;clear hc r T V;go_wp2_with fail;go_at_call 87;refine(fC s wr (by omega)).mono ?_;rw[j.out];rintro e w4 ⟨rfl,t⟩;have y1:=t.cell HY.out;have z:Hid (Ext Z w4):=HX.out.trans t;have a:=am L.out t;have a':=z.out.size;clear t
  cases vb with
  | false =>
   go_wp2_with fail;go_roundw
   case rel=>exact⟨k+1,q,by omega,by go_num,by unfold Hid;rw[p.out,j.out];simpa using J.out,by unfold Hid;rw[p.out,j.out];simpa using a,z.out⟩
   case measure=>simp[intOf];omega
  | true =>
   go_wp2_with (at_builtin;go_must (refine fq rfl _ _ rfl Z.heap.size _ q ((D.take k).filter al) rfl (a.alloc _) w4.heap.size 1 1 [s] rfl rfl (ae _ _) (by omega) (by simp;omega) ?_);intro v' w5 C a4)
   go_roundw
   case rel=>exact⟨k+1,q+1,by omega,by go_num,by unfold Hid;rw[p.out,j.out];simpa using J.out,by unfold Hid;rw[p.out,j.out];exact C,aj (z.out.alloc _) (a.alloc _) a4⟩
   case measure=>simp[intOf];omega
 have a6:k=D.length:=by omega
 subst a6;have K:Hid (IsStrs wr u7 (dx l)):=by
  have u:=Row.BV L.out (by omega);rw[List.take_length,o.out]at u;have c:=J.out;rw[List.take_length,o.out]at c;unfold Hid IsStrs;rw[c];exact u
 have a5:(dx l).length<=1000000:=by
  have c:=J.out;rw[List.take_length,o.out]at c;omega
 have a3:Hid _:=SrPost.ext a1.out HX.out;obtain⟨ua,uc,rfl,-⟩:=K.out.get;have HU:Hid _:=xd K.out a5;rw[rQ aa.out]at HU;go_wp2_with fail;go_at_call 92;refine Calls.mono HU.out ?_;rintro e w6 ⟨⟨v6,rfl,R⟩,X⟩;have a0:Hid (IsStrs w6 v6 (dx l)):=Row.BV R (by omega);have a2:Hid _:=SrPost.ext a3.out X;clear R X;go_wp2;go_ret2;obtain⟨e1,e2,e3⟩:=I.out;rw[e1,e2,e3];exact⟨⟨_,rfl,a0.out⟩,a2.out⟩
end
section
open Go Go.RowKit
def eH (m:Fs) (x:Mop):Fs :=
 if x.kind=0 then(bQ m x.b).1
 else if x.kind=1 then(dj m x.o).1
 else if x.kind=2\/x.kind=3\/x.kind=4 then(bj m x.id).1
 else if x.kind=5 then(aK m).1
 else if x.kind=6 then(dB m x.id).1
 else if x.kind=7 then(dW m).1
 else fL m x.f
def eV (n:Int) (x:Mop):Int :=
 if x.kind=0 then fF n x.b
 else if x.kind=1 then fN n x.o
 else if x.kind=2\/x.kind=3\/x.kind=4 then ck n x.id
 else n
theorem zV (n:Int) (x:Mop):n<=eV n x/\eV n x<=n+1:=by
 unfold eV fN fF ck
 repeat' split
 all_goals omega
variable {n k:Nat} {m:Fs}
theorem Good.up (h:Good n m) (a:n<=k):Good k m:=Good.mono h a
theorem vN (h:Good n m) (id:B8):Good (n+1) (bj m id).1:=by
 have a:=eM h (ai id);unfold bj;split
 .exact h.up (by omega)
 .split
  .exact a
  .split
   iterate 2
    .exact a
theorem sI (m:Fs):(aK m).1=(av m).1:=by
 unfold aK;split <;> exact nd ..
variable {x:Mop}
theorem uy (h:Good n m) (a:jP x.f):Good (n+3) (eH m x):=by
 unfold eH;split
 .exact im h x.b
 .split
  .unfold dj;split
   .exact h.up (by omega)
   .exact im h _
  .split
   .exact (vN h x.id).up (by omega)
   .split
    .rw [sI];exact(jz h).up (by omega)
    .split
     .unfold dB;split
      .exact h.up (by omega)
      .exact (mu h _).up (by omega)
     .split
      .unfold dW;split
       iterate 2
        .exact (mu h _).up (by omega)
      .exact (xm h a).up (by omega)
variable {w0 w:World} {gs gc gy:Nat}
theorem Tw.cast {K:List (Nat×Obj)} [Inhabited bf] [g:Inhabited cZ] {f x:Value} {m1 a:Fs} {b c:Int} (h:Tw w0 K w f x gs gc gy m1 m1 b b) (d:a=m1) (e:c=b):Tw w0 K w f x gs gc gy a a c c:=by rw[d,e];exact h
variable [Inhabited bf] [KW:Inhabited cZ]
theorem xf (c3:∀k,cJ k=none) {W xv:Value} {n:Int} {cs:List Value} (hT:Tw w0 [] w W xv gs gc gy m m n n) (hB:Ext cy w0) (hE:Env w0) (cx:EnvS w0) (hg:Good k m) (Z:k<=9000) (a0:0<=n) (d7:n<=90000)
  (ho:IsMop w0 cs x) (ce:iA x.o) (hid:x.id.length<=400) (co:dv x.o) (cl:jP x.f) :
  Calls Tryz.prog 10 #[W,xv,.pointer (some ⟨gs,0,none⟩),.pointer (some ⟨gy,0,none⟩),.agg cs.toArray] w fun e l=>e=.returned (.bool true)/\Tw w0 [] l W xv gs gc gy (eH m x) (eH m x) (eV n x) (eV n x):=by
 obtain⟨i,b,a,id,g⟩:=x;dsimp only at ce hid co cl;obtain⟨vb,vd,vi,vp,fs,rfl,o1,o2,o3,o4,o5⟩:=ho;have O5:Hid (IsOpn w0 fs g):=o5;have O1:Hid (OldB vb b):=o1;obtain⟨L,M,rfl,-⟩:=_root_.id o1.bytes;obtain⟨N,P,rfl,-⟩:=_root_.id o2;obtain⟨Q,T,rfl,-⟩:=_root_.id o3;obtain⟨U,V,rfl,-⟩:=_root_.id o4;obtain⟨ve,vl,rfl,hd,cm⟩:=_root_.id o5;obtain⟨d1,d2,rfl,-⟩:=_root_.id hd.bytes;obtain⟨_,⟨q1,q2,rfl,-⟩,-⟩:=_root_.id cm;dsimp only at o1 o2 o3 o4 hd cm O1 O5;have c0:b.length<=140737488355328:=o1.bytes.len;have dl:Hid (IsOb w0 (obV a (.slice N a.data.length P) (.slice Q a.items.length T) (.slice U a.parents.length V)) a):=⟨_,_,_,rfl,o2,o3,o4⟩;have HE:Hid (Env w0):=hE;have a':Hid (EnvS w0):=cx;have HG:Hid (Good k m):=hg;have y:Hid (∀k,cJ k=none):=c3;have HB:Hid (Ext cy w0):=hB;have cq:Hid (dv a):=co;have dn:Hid (iA a):=ce;have dq:Hid (jP g):=cl;clear o1 o2 o3 o4 o5 hd cm hE cx hg c3 hB co ce cl;obtain⟨I,b7⟩:∃I,I=w.alloc (.cells #[.int .i64 i,.slice L b.length M,.int .i64 a.kind,.slice N a.data.length P,.slice Q a.items.length T,S8 a.tree,.slice U a.parents.length V,.int .i64 a.BU,.int .i64 a.BS,S8 a.msg,S8 id,.int .i64 g.kind,.int .i64 g.mode,.int .i64 g.keep,.int .i64 g.BW,S8 g.path,S8 g.dest,.slice d1 g.data.length d2,.slice q1 g.plan.length q2] 46):=⟨_,rfl⟩;have c9:Ext w I:=by rw[b7];exact(Ext.refl _).alloc _
 have c5:I.heap[w.heap.size]? = some (.cells #[.int .i64 i,.slice L b.length M,.int .i64 a.kind,.slice N a.data.length P,.slice Q a.items.length T,S8 a.tree,.slice U a.parents.length V,.int .i64 a.BU,.int .i64 a.BS,S8 a.msg,S8 id,.int .i64 g.kind,.int .i64 g.mode,.int .i64 g.keep,.int .i64 g.BW,S8 g.path,S8 g.dest,.slice d1 g.data.length d2,.slice q1 g.plan.length q2] 46 (0,0)):=by rw[b7];exact ae _ _
 obtain⟨o,cb⟩:∃g,w.heap.size=g:=⟨_,rfl⟩;have t:Hid (Tw w0 [(o,.cells #[.int .i64 i,.slice L b.length M,.int .i64 a.kind,.slice N a.data.length P,.slice Q a.items.length T,S8 a.tree,.slice U a.parents.length V,.int .i64 a.BU,.int .i64 a.BS,S8 a.msg,S8 id,.int .i64 g.kind,.int .i64 g.mode,.int .i64 g.keep,.int .i64 g.BW,S8 g.path,S8 g.dest,.slice d1 g.data.length d2,.slice q1 g.plan.length q2] 46 (0,0))] I W xv gs gc gy m m n n):=hT.new c9 (Nat.le_of_eq cb) (by rw[<-cb];exact c5);clear hT c9 c5;go_enter Tryz.func10,Tryz.ntmps10;go_upto_region 1 with fail;rw[<-b7];clear b7 cb;have z0:=(cell_of_row _ _ 0 _ _ _ t.out.row).trans rfl
 by_cases h0:i=0
 .as_aux_lemma =>
  subst h0;have B:Hid (eH m ⟨0,b,a,id,g⟩=(bQ m b).1):=if_pos rfl;have C:Hid (eV n ⟨0,b,a,id,g⟩=(fF n b)):=if_pos rfl;have a6:Hid (∀l,Ext w0 l->IsBytes l (.slice L b.length M) b):=fun l hx=>IsBytes.ext (O1.out.bytes.ext HB.out) hx
  have z1:I.cell? ⟨o,1,none⟩=some (.slice L b.length M):=(cell_of_row _ _ 1 _ _ _ t.out.row).trans rfl;obtain⟨⟨H,hs,er⟩,d⟩:∃q,bQ m b=q:=⟨_,rfl⟩;have HQ:Hid _:=d;clear d;go_wp2_with fail;go_at_call 29;refine(ij _ b I (a6.out _ t.out.ext)).mono ?_;rintro ex w1 ⟨⟨c',rfl,bt⟩,c6⟩;have ct:Hid (Tw w0 [(o,.cells #[.int .i64 0,.slice L b.length M,.int .i64 a.kind,.slice N a.data.length P,.slice Q a.items.length T,S8 a.tree,.slice U a.parents.length V,.int .i64 a.BU,.int .i64 a.BS,S8 a.msg,S8 id,.int .i64 g.kind,.int .i64 g.mode,.int .i64 g.keep,.int .i64 g.BW,S8 g.path,S8 g.dest,.slice d1 g.data.length d2,.slice q1 g.plan.length q2] 46 (0,0))] w1 W xv gs gc gy m m n n):=t.out.more c6;have a7:Hid (IsBytes w1 c' b/\TypB w1 c'):=⟨by unfold IsBytes;exact Row.BV bt (by omega),TypB.BV bt⟩;obtain⟨a1,c1,rfl,-⟩:=_root_.id a7.out.1;clear bt c6 z0 z1 t;have D:Hid _:=Tw.prog y.out HE.out ct.out (F:=24) (args:=#[.pointer (some ⟨gs,0,none⟩),.slice a1 b.length c1]) (R:=fun e l=>e=.returned (.tuple #[S8 hs,.int .i64 er])) (m':=H) (n':=fF n b) (fun K S b5 r=>(iD (KW:=K) _ b r HE.out a'.out HG.out (by omega) a0 (by omega) (.inr a7.out) c0).mono (by
   rw[HQ.out];rintro e l ⟨G,n',he,hn,aa⟩;subst hn;exact⟨G,he,aa⟩))
  go_wp2_with fail;go_at_call 24;refine Calls.mono D.out ?_;rintro ex A ⟨rfl,p,bq⟩;have j:Hid (Tw w0 [(o,.cells #[.int .i64 0,.slice L b.length M,.int .i64 a.kind,.slice N a.data.length P,.slice Q a.items.length T,S8 a.tree,.slice U a.parents.length V,.int .i64 a.BU,.int .i64 a.BS,S8 a.msg,S8 id,.int .i64 g.kind,.int .i64 g.mode,.int .i64 g.keep,.int .i64 g.BW,S8 g.path,S8 g.dest,.slice d1 g.data.length d2,.slice q1 g.plan.length q2] 46 (0,0))] A W xv gs gc gy H m (fF n b) n):=p;have ba:Hid (IsBytes A (.slice a1 b.length c1) b/\TypB A (.slice a1 b.length c1)):=⟨Row.B' a7.out.1 a7.out.2 bq,a7.out.2.keep bq⟩;have z1:A.cell? ⟨o,1,none⟩=some (.slice L b.length M):=(cell_of_row _ _ 1 _ _ _ j.out.row).trans rfl;clear p bq ct a7 D;have D:Hid _:=Tw.doc y.out j.out (F:=30) (args:=#[.pointer (some ⟨gy,0,none⟩),.slice L b.length M]) (R:=fun e l=>e=.returned (.tuple #[S8 hs,.int .i64 er])) (m':=H) (n':=fF n b) (fun G r=>by
   have X:=rN (.slice L b.length M) b r HG.out (by omega) (.inl (a6.out w0 (Ext.refl _))) c0 a0 (by omega);rw[HQ.out]at X;exact X)
  go_wp2_with fail;go_at_call 30;refine Calls.mono D.out ?_;rintro ex w3 ⟨rfl,ad,b9,-,-⟩;have E:Hid (Tw w0 [(o,.cells #[.int .i64 0,.slice L b.length M,.int .i64 a.kind,.slice N a.data.length P,.slice Q a.items.length T,S8 a.tree,.slice U a.parents.length V,.int .i64 a.BU,.int .i64 a.BS,S8 a.msg,S8 id,.int .i64 g.kind,.int .i64 g.mode,.int .i64 g.keep,.int .i64 g.BW,S8 g.path,S8 g.dest,.slice d1 g.data.length d2,.slice q1 g.plan.length q2] 46 (0,0))] w3 W xv gs gc gy H H (fF n b) (fF n b)):=ad;have cp:Hid (IsBytes w3 (.slice a1 b.length c1) b):=Row.B' ba.out.1 ba.out.2 b9;have z1:w3.cell? ⟨o,1,none⟩=some (.slice L b.length M):=(cell_of_row _ _ 1 _ _ _ E.out.row).trans rfl;clear ad b9 j ba D;have th:=tl hs;have bk:(er==er)=true:=by simp
  go_wp2_with fail;go_at_call 31;refine(cY _ _ b b w3 cp.out (a6.out w3 E.out.ext)).mono ?_;rw[show(b==b)=true from by simp];rintro ex w4 ⟨rfl,b0⟩;rw[b0];clear b0;go_wp2;go_ret;exact⟨rfl,Tw.cast (by rw[HQ.out];exact E.out.drop) B.out C.out⟩
 by_cases h1:i=1
 .as_aux_lemma =>
  subst h1;have B:Hid (eH m ⟨1,b,a,id,g⟩=(dj m a).1):=(if_neg h0).trans (if_pos rfl);have C:Hid (eV n ⟨1,b,a,id,g⟩=(fN n a)):=(if_neg h0).trans (if_pos rfl);have a6:Hid (∀l,Ext w0 l->IsOb l (obV a (.slice N a.data.length P) (.slice Q a.items.length T) (.slice U a.parents.length V)) a):=fun l hx=>IsOb.ext dl.out hx
  have z2:I.cell? ⟨o,2,none⟩=some (.int .i64 a.kind):=(cell_of_row _ _ 2 _ _ _ t.out.row).trans rfl;have z3:I.cell? ⟨o,3,none⟩=some (.slice N a.data.length P):=(cell_of_row _ _ 3 _ _ _ t.out.row).trans rfl;have z4:I.cell? ⟨o,4,none⟩=some (.slice Q a.items.length T):=(cell_of_row _ _ 4 _ _ _ t.out.row).trans rfl;have z5:I.cell? ⟨o,5,none⟩=some (S8 a.tree):=(cell_of_row _ _ 5 _ _ _ t.out.row).trans rfl;have z6:I.cell? ⟨o,6,none⟩=some (.slice U a.parents.length V):=(cell_of_row _ _ 6 _ _ _ t.out.row).trans rfl;have z7:I.cell? ⟨o,7,none⟩=some (.int .i64 a.BU):=(cell_of_row _ _ 7 _ _ _ t.out.row).trans rfl;have z8:I.cell? ⟨o,8,none⟩=some (.int .i64 a.BS):=(cell_of_row _ _ 8 _ _ _ t.out.row).trans rfl;have z9:I.cell? ⟨o,9,none⟩=some (S8 a.msg):=(cell_of_row _ _ 9 _ _ _ t.out.row).trans rfl;have da:Hid (IsOb I (obV a (.slice N a.data.length P) (.slice Q a.items.length T) (.slice U a.parents.length V)) a):=a6.out I t.out.ext;obtain⟨⟨H,hs,er⟩,d⟩:∃q,dj m a=q:=⟨_,rfl⟩;have HQ:Hid _:=d;clear d;have D:Hid _:=Tw.prog y.out HE.out t.out (F:=32) (args:=#[.pointer (some ⟨gs,0,none⟩),.agg #[.int .i64 a.kind,.slice N a.data.length P,.slice Q a.items.length T,S8 a.tree,.slice U a.parents.length V,.int .i64 a.BU,.int .i64 a.BS,S8 a.msg]]) (R:=fun e l=>e=.returned (.tuple #[S8 hs,.int .i64 er])) (m':=H) (n':=fN n a) (fun K S b5 r=>(nu (KW:=K) _ a r HE.out a'.out HG.out (by omega) a0 (by omega) da.out cq.out).mono (by
   rw[HQ.out];rintro e l ⟨G,n',he,hn,aa⟩;subst hn;exact⟨G,he,aa⟩))
  go_wp2_with fail;go_at_call 32;refine Calls.mono D.out ?_;rintro ex A ⟨rfl,p,-⟩;have j:Hid (Tw w0 [(o,.cells #[.int .i64 1,.slice L b.length M,.int .i64 a.kind,.slice N a.data.length P,.slice Q a.items.length T,S8 a.tree,.slice U a.parents.length V,.int .i64 a.BU,.int .i64 a.BS,S8 a.msg,S8 id,.int .i64 g.kind,.int .i64 g.mode,.int .i64 g.keep,.int .i64 g.BW,S8 g.path,S8 g.dest,.slice d1 g.data.length d2,.slice q1 g.plan.length q2] 46 (0,0))] A W xv gs gc gy H m (fN n a) n):=p;clear p z0 z2 z3 z4 z5 z6 z7 z8 z9 t D;have z2:A.cell? ⟨o,2,none⟩=some (.int .i64 a.kind):=(cell_of_row _ _ 2 _ _ _ j.out.row).trans rfl;have z3:A.cell? ⟨o,3,none⟩=some (.slice N a.data.length P):=(cell_of_row _ _ 3 _ _ _ j.out.row).trans rfl;have z4:A.cell? ⟨o,4,none⟩=some (.slice Q a.items.length T):=(cell_of_row _ _ 4 _ _ _ j.out.row).trans rfl;have z5:A.cell? ⟨o,5,none⟩=some (S8 a.tree):=(cell_of_row _ _ 5 _ _ _ j.out.row).trans rfl;have z6:A.cell? ⟨o,6,none⟩=some (.slice U a.parents.length V):=(cell_of_row _ _ 6 _ _ _ j.out.row).trans rfl;have z7:A.cell? ⟨o,7,none⟩=some (.int .i64 a.BU):=(cell_of_row _ _ 7 _ _ _ j.out.row).trans rfl;have z8:A.cell? ⟨o,8,none⟩=some (.int .i64 a.BS):=(cell_of_row _ _ 8 _ _ _ j.out.row).trans rfl;have z9:A.cell? ⟨o,9,none⟩=some (S8 a.msg):=(cell_of_row _ _ 9 _ _ _ j.out.row).trans rfl;go_wp2_with fail;go_at_call 34;refine(oe _ a A (a6.out A j.out.ext) (by have:=dn.out.items;omega)).mono ?_;rintro ex w3 ⟨⟨u,rfl,hu⟩,a9⟩;have E:Hid (Tw w0 [(o,.cells #[.int .i64 1,.slice L b.length M,.int .i64 a.kind,.slice N a.data.length P,.slice Q a.items.length T,S8 a.tree,.slice U a.parents.length V,.int .i64 a.BU,.int .i64 a.BS,S8 a.msg,S8 id,.int .i64 g.kind,.int .i64 g.mode,.int .i64 g.keep,.int .i64 g.BW,S8 g.path,S8 g.dest,.slice d1 g.data.length d2,.slice q1 g.plan.length q2] 46 (0,0))] w3 W xv gs gc gy H m (fN n a) n):=j.out.more a9;have HU:Hid (IsOb w3 u a):=hu;clear hu a9 z2 z3 z4 z5 z6 z7 z8 z9 j;have D:Hid _:=Tw.doc y.out E.out (F:=33) (args:=#[.pointer (some ⟨gy,0,none⟩),u]) (R:=fun e l=>e=.returned (.tuple #[S8 hs,.int .i64 er])) (m':=H) (n':=fN n a) (fun G r=>by
   have X:=sZ u a r HG.out (by omega) HU.out cq.out a0 (by omega);rw[HQ.out]at X;exact X)
  go_wp2_with fail;go_at_call 33;refine Calls.mono D.out ?_;rintro ex w4 ⟨rfl,bh,-,-,-⟩;have b':Hid (Tw w0 [(o,.cells #[.int .i64 1,.slice L b.length M,.int .i64 a.kind,.slice N a.data.length P,.slice Q a.items.length T,S8 a.tree,.slice U a.parents.length V,.int .i64 a.BU,.int .i64 a.BS,S8 a.msg,S8 id,.int .i64 g.kind,.int .i64 g.mode,.int .i64 g.keep,.int .i64 g.BW,S8 g.path,S8 g.dest,.slice d1 g.data.length d2,.slice q1 g.plan.length q2] 46 (0,0))] w4 W xv gs gc gy H H (fN n a) (fN n a)):=bh;clear bh E D;have th:=tl hs;have bk:(er==er)=true:=by simp
  go_wp2;go_ret;exact⟨rfl,Tw.cast (by rw[HQ.out];exact b'.out.drop) B.out C.out⟩
 by_cases h2:i=2
 .as_aux_lemma =>
  subst h2;have B:Hid (eH m ⟨2,b,a,id,g⟩=(bj m id).1):=(if_neg h0).trans ((if_neg h1).trans (if_pos (.inl rfl)));have C:Hid (eV n ⟨2,b,a,id,g⟩=(ck n id)):=(if_neg h0).trans ((if_neg h1).trans (if_pos (.inl rfl)));have au:I.cell? ⟨o,10,none⟩=some (S8 id):=(cell_of_row _ _ 10 _ _ _ t.out.row).trans rfl;have b4:Hid ((bj m id).2.1.length<=10000000):=qP HG.out id;obtain⟨⟨H,bs,er⟩,d⟩:∃q,bj m id=q:=⟨_,rfl⟩;have HQ:Hid _:=d;rw[d]at b4;clear d;have D:Hid _:=Tw.prog y.out HE.out t.out (F:=35) (args:=#[.pointer (some ⟨gs,0,none⟩),S8 id]) (R:=fun e l=>∃v,e=.returned (.tuple #[v,.int .i64 er])/\IsBytes l v bs/\TypB l v) (m':=H) (n':=ck n id) (fun K S b5 r=>(jr (KW:=K) id r HE.out a'.out HG.out (by omega) a0 (by omega) (by omega)).mono (by
   rw[HQ.out];rintro e l ⟨v,G,n',he,hv,-,hn,aa⟩;subst hn;exact⟨G,⟨v,he,hv⟩,aa⟩))
  go_wp2_with fail;go_at_call 35;refine Calls.mono D.out ?_;rintro ex A ⟨⟨v,rfl,hv,bx⟩,p,-⟩;have j:Hid (Tw w0 [(o,.cells #[.int .i64 2,.slice L b.length M,.int .i64 a.kind,.slice N a.data.length P,.slice Q a.items.length T,S8 a.tree,.slice U a.parents.length V,.int .i64 a.BU,.int .i64 a.BS,S8 a.msg,S8 id,.int .i64 g.kind,.int .i64 g.mode,.int .i64 g.keep,.int .i64 g.BW,S8 g.path,S8 g.dest,.slice d1 g.data.length d2,.slice q1 g.plan.length q2] 46 (0,0))] A W xv gs gc gy H m (ck n id) n):=p;have HV:Hid (IsBytes A v bs/\TypB A v):=⟨hv,bx⟩;clear p hv bx z0 au t D;have au:A.cell? ⟨o,10,none⟩=some (S8 id):=(cell_of_row _ _ 10 _ _ _ j.out.row).trans rfl;have D:Hid _:=Tw.doc y.out j.out (F:=36) (args:=#[.pointer (some ⟨gy,0,none⟩),S8 id]) (R:=fun e l=>∃v,e=.returned (.tuple #[v,.int .i64 er])/\IsBytes l v bs/\TypB l v) (m':=H) (n':=ck n id) (fun G r=>by
   have X:=ns id r HG.out (by omega) (by omega) a0 (by omega);rw[HQ.out]at X;exact X)
  go_wp2_with fail;go_at_call 36;refine Calls.mono D.out ?_;rintro ex w3 ⟨⟨u,rfl,hu,-⟩,ad,bo,-,-⟩;have E:Hid (Tw w0 [(o,.cells #[.int .i64 2,.slice L b.length M,.int .i64 a.kind,.slice N a.data.length P,.slice Q a.items.length T,S8 a.tree,.slice U a.parents.length V,.int .i64 a.BU,.int .i64 a.BS,S8 a.msg,S8 id,.int .i64 g.kind,.int .i64 g.mode,.int .i64 g.keep,.int .i64 g.BW,S8 g.path,S8 g.dest,.slice d1 g.data.length d2,.slice q1 g.plan.length q2] 46 (0,0))] w3 W xv gs gc gy H H (ck n id) (ck n id)):=ad;have a8:Hid (IsBytes w3 v bs):=Row.B' HV.out.1 HV.out.2 bo;have HU:Hid (IsBytes w3 u bs):=hu;clear ad hu bo j D HV au;have bk:(er==er)=true:=by simp
  go_wp2_with fail;go_at_call 31;refine(cY _ _ bs bs w3 a8.out HU.out).mono ?_;rw[show(bs==bs)=true from by simp];rintro ex w4 ⟨rfl,b0⟩;rw[b0];clear b0;go_wp2;go_ret;exact⟨rfl,Tw.cast (by rw[HQ.out];exact E.out.drop) B.out C.out⟩
 by_cases h3:i=3
 .as_aux_lemma =>
  subst h3;have B:Hid (eH m ⟨3,b,a,id,g⟩=(bj m id).1):=(if_neg h0).trans ((if_neg h1).trans (if_pos (.inr (.inl rfl))));have C:Hid (eV n ⟨3,b,a,id,g⟩=(ck n id)):=(if_neg h0).trans ((if_neg h1).trans (if_pos (.inr (.inl rfl))));have au:I.cell? ⟨o,10,none⟩=some (S8 id):=(cell_of_row _ _ 10 _ _ _ t.out.row).trans rfl;have b4:Hid ((bj m id).2.1.length<=10000000):=qP HG.out id;obtain⟨⟨c,eo⟩,d⟩:∃q,gB m id=q:=⟨_,rfl⟩;have dc:Hid (c.items.length<=1000000):=by
   have X:=sn m id;rw[d]at X;exact X
  have HQ:Hid _:=d;clear d;obtain⟨⟨S,O,G,bv⟩,-⟩:(Tw w0 [(o,.cells #[.int .i64 3,.slice L b.length M,.int .i64 a.kind,.slice N a.data.length P,.slice Q a.items.length T,S8 a.tree,.slice U a.parents.length V,.int .i64 a.BU,.int .i64 a.BS,S8 a.msg,S8 id,.int .i64 g.kind,.int .i64 g.mode,.int .i64 g.keep,.int .i64 g.BW,S8 g.path,S8 g.dest,.slice d1 g.data.length d2,.slice q1 g.plan.length q2] 46 (0,0))] I W xv gs gc gy m m n n)/\True:=⟨t.out,trivial⟩;have D:Hid (Calls Tryz.prog 37 #[.pointer (some ⟨gs,0,none⟩),S8 id] I fun e l=>(∃u,e=.returned (.tuple #[u,.int .i64 eo])/\IsObT l u c)/\Tw w0 [(o,.cells #[.int .i64 3,.slice L b.length M,.int .i64 a.kind,.slice N a.data.length P,.slice Q a.items.length T,S8 a.tree,.slice U a.parents.length V,.int .i64 a.BU,.int .i64 a.BS,S8 a.msg,S8 id,.int .i64 g.kind,.int .i64 g.mode,.int .i64 g.keep,.int .i64 g.BW,S8 g.path,S8 g.dest,.slice d1 g.data.length d2,.slice q1 g.plan.length q2] 46 (0,0))] l W xv gs gc gy (bj m id).1 m (ck n id) n/\KeepB I l):=by
   have X:=sj y.out id bv.st HE.out a'.out HG.out (by omega) a0 (by omega) (by omega) b4.out;rw[HQ.out]at X;exact X.mono (by rintro e l ⟨hr,hp⟩;exact⟨hr,bv.C' y.out hp⟩)
  clear bv;go_wp2_with fail;go_at_call 37;refine Calls.mono D.out ?_;rintro ex A ⟨⟨v,rfl,hv⟩,p,-⟩;obtain⟨vd,vi,vp,rfl,r1,r2,r3,r4,r5,r6⟩:=_root_.id hv;obtain⟨y1,y2,rfl,-⟩:=_root_.id r1;obtain⟨y3,y4,rfl,-⟩:=_root_.id r2;obtain⟨y5,y6,rfl,-⟩:=_root_.id r3;obtain⟨w3,bS⟩:∃w3,w3=A.alloc (.cells (obC c.kind (.slice y1 c.data.length y2) (.slice y3 c.items.length y4) c.tree (.slice y5 c.parents.length y6) c.BU c.BS c.msg) 41):=⟨_,rfl⟩;have a9:Ext A w3:=by rw[bS];exact(Ext.refl _).alloc _
  have c4:w3.heap[A.heap.size]? = some (.cells (obC c.kind (.slice y1 c.data.length y2) (.slice y3 c.items.length y4) c.tree (.slice y5 c.parents.length y6) c.BU c.BS c.msg) 41 (0,0)):=by rw[bS];exact ae _ _
  obtain⟨ga,b6⟩:∃g,A.heap.size=g:=⟨_,rfl⟩;have E:Hid (Tw w0 ((ga,.cells (obC c.kind (.slice y1 c.data.length y2) (.slice y3 c.items.length y4) c.tree (.slice y5 c.parents.length y6) c.BU c.BS c.msg) 41 (0,0))::[(o,.cells #[.int .i64 3,.slice L b.length M,.int .i64 a.kind,.slice N a.data.length P,.slice Q a.items.length T,S8 a.tree,.slice U a.parents.length V,.int .i64 a.BU,.int .i64 a.BS,S8 a.msg,S8 id,.int .i64 g.kind,.int .i64 g.mode,.int .i64 g.keep,.int .i64 g.BW,S8 g.path,S8 g.dest,.slice d1 g.data.length d2,.slice q1 g.plan.length q2] 46 (0,0))]) w3 W xv gs gc gy (bj m id).1 m (ck n id) n):=p.new a9 (Nat.le_of_eq b6) (by rw[<-b6];exact c4);have a8:Hid (IsObT w3 (obV c (.slice y1 c.data.length y2) (.slice y3 c.items.length y4) (.slice y5 c.parents.length y6)) c):=IsObT.ext hv a9;unfold obC at bS;clear p hv r1 r2 r3 r4 r5 r6 a9 c4 z0 au t D;unfold obV;go_upto_region 17 with fail;rw[<-bS]
  try rw[b6]
  clear bS b6;have au:w3.cell? ⟨o,10,none⟩=some (S8 id):=(cell_of_row _ _ 10 _ _ _ E.out.drop.row).trans rfl;have D:Hid _:=Tw.doc y.out E.out (F:=38) (args:=#[.pointer (some ⟨gy,0,none⟩),S8 id]) (R:=fun e l=>∃u,e=.returned (.tuple #[u,.int .i64 eo])/\IsOb l u c) (m':=(bj m id).1) (n':=ck n id) (fun G r=>by
   have X:=sY id r HG.out (by omega) (by omega) a0 (by omega) b4.out;rw[HQ.out]at X;exact X)
  go_wp2_with fail;go_at_call 38;refine Calls.mono D.out ?_;rintro ex w4 ⟨⟨u,rfl,hu⟩,bh,bo,c2,br⟩;obtain⟨vd,vi,vp,rfl,r1,r2,r3⟩:=_root_.id hu;obtain⟨x1,x2,rfl,-⟩:=_root_.id r1;obtain⟨x3,x4,rfl,-⟩:=_root_.id r2;obtain⟨x5,x6,rfl,-⟩:=_root_.id r3;have cv:Hid (IsOb w4 (obV c (.slice y1 c.data.length y2) (.slice y3 c.items.length y4) (.slice y5 c.parents.length y6)) c):=IsObT.kept a8.out bo c2 br;obtain⟨w5,b3⟩:∃w5,w5=w4.alloc (.cells (obC c.kind (.slice x1 c.data.length x2) (.slice x3 c.items.length x4) c.tree (.slice x5 c.parents.length x6) c.BU c.BS c.msg) 95):=⟨_,rfl⟩;have b8:Ext w4 w5:=by rw[b3];exact(Ext.refl _).alloc _
  have cn:w5.heap[w4.heap.size]? = some (.cells (obC c.kind (.slice x1 c.data.length x2) (.slice x3 c.items.length x4) c.tree (.slice x5 c.parents.length x6) c.BU c.BS c.msg) 95 (0,0)):=by rw[b3];exact ae _ _
  obtain⟨gz,cc⟩:∃g,w4.heap.size=g:=⟨_,rfl⟩;rw[cc]at cn;have cu:Hid (Tw w0 ((ga,.cells (obC c.kind (.slice y1 c.data.length y2) (.slice y3 c.items.length y4) c.tree (.slice y5 c.parents.length y6) c.BU c.BS c.msg) 41 (0,0))::[(o,.cells #[.int .i64 3,.slice L b.length M,.int .i64 a.kind,.slice N a.data.length P,.slice Q a.items.length T,S8 a.tree,.slice U a.parents.length V,.int .i64 a.BU,.int .i64 a.BS,S8 a.msg,S8 id,.int .i64 g.kind,.int .i64 g.mode,.int .i64 g.keep,.int .i64 g.BW,S8 g.path,S8 g.dest,.slice d1 g.data.length d2,.slice q1 g.plan.length q2] 46 (0,0))]) w5 W xv gs gc gy (bj m id).1 (bj m id).1 (ck n id) (ck n id)):=bh.more b8;have d4:Hid (IsOb w5 (obV c (.slice y1 c.data.length y2) (.slice y3 c.items.length y4) (.slice y5 c.parents.length y6)) c):=IsOb.ext cv.out b8;have d3:Hid (IsOb w5 (obV c (.slice x1 c.data.length x2) (.slice x3 c.items.length x4) (.slice x5 c.parents.length x6)) c):=IsOb.ext hu b8;have d0:Hid _:=cn;unfold obC at b3;clear bh hu r1 r2 r3 bo c2 br b8 cn au E D a8 cv;unfold obV;go_upto_region 18 with fail;rw[<-b3]
  try rw[cc]
  clear b3 cc;obtain⟨s0,s1,s2,s3,s4,s5,s6,s7⟩:=ah cu.out.row;obtain⟨t0,t1,t2,t3,t4,t5,t6,t7⟩:=ah d0.out;have bk:(eo==eo)=true:=by simp
  apply ak 9 [obV c (.slice y1 c.data.length y2) (.slice y3 c.items.length y4) (.slice y5 c.parents.length y6),undef,obV c (.slice x1 c.data.length x2) (.slice x3 c.items.length x4) (.slice x5 c.parents.length x6),.bool true,_,_,_,_,.bool true] [none,some (fun u l=>IsOb l u c),none,none,none,none,none,none,none] [[],[0],[],[1,2],[3],[4],[4],[4,5,6],[4,7]] (by kernel_rfl) (by kernel_rfl) (by simp[aq])
  .refine ⟨?_,trivial⟩
   .exact fun _ _ _ he hu=>IsOb.ext hu he
  .simp (maxSteps:=1000000)only[List.take_succ_cons,List.take_zero,ay,aE,ab,Act.put,List.setIfInBounds_toArray,List.set_cons_zero,List.set_cons_succ,aN,aS,aq,List.getD_cons_zero,List.getD_cons_succ,and_true,true_and,forall_const];and_intros
   .intro xs wq d;intros;rename_i Y;have f0:=d.cell s0;have f1:=d.cell s1;have f2:=d.cell s2;have f3:=d.cell s3;have f4:=d.cell s4;have f5:=d.cell s5;have f6:=d.cell s6;have f7:=d.cell s7;have h0:=d.cell t0;have h1:=d.cell t1;have h2:=d.cell t2;have h3:=d.cell t3;have h4:=d.cell t4;have h5:=d.cell t5;have h6:=d.cell t6;have h7:=d.cell t7;go_simp;exact Y _ _ (Ext.refl _) rfl
   .intro xs wq d Z R Y;go_simp;exact(oe _ c wq (IsOb.ext d4.out d) dc.out).mono (by rintro e' l ⟨⟨u,rfl,hu⟩,hx⟩;exact⟨_,rfl,Y _ _ hx hu⟩)
   .intro xs wq d;intros;rename_i Y;have f0:=d.cell s0;have f1:=d.cell s1;have f2:=d.cell s2;have f3:=d.cell s3;have f4:=d.cell s4;have f5:=d.cell s5;have f6:=d.cell s6;have f7:=d.cell s7;have h0:=d.cell t0;have h1:=d.cell t1;have h2:=d.cell t2;have h3:=d.cell t3;have h4:=d.cell t4;have h5:=d.cell t5;have h6:=d.cell t6;have h7:=d.cell t7;go_simp;exact Y _ _ (Ext.refl _) rfl
   .intro xs wq d Z R Y;obtain⟨a2,a4⟩:=Z;go_simp;exact(xe _ _ c wq a2 (IsOb.ext d3.out d)).mono (by rintro e' l ⟨rfl,hx⟩;exact⟨_,rfl,Y _ _ hx rfl⟩)
   iterate 5 · intro xs wq d;intros;rename_i Y;have f0:=d.cell s0;have f1:=d.cell s1;have f2:=d.cell s2;have f3:=d.cell s3;have f4:=d.cell s4;have f5:=d.cell s5;have f6:=d.cell s6;have f7:=d.cell s7;have h0:=d.cell t0;have h1:=d.cell t1;have h2:=d.cell t2;have h3:=d.cell t3;have h4:=d.cell t4;have h5:=d.cell t5;have h6:=d.cell t6;have h7:=d.cell t7;go_simp;exact Y _ _ (Ext.refl _) rfl
  intro xs w6 c8 Z;simp only[aU,Nat.zero_add,Nat.reduceAdd,and_true]at Z;have q1:=Z.2.1;simp(maxSteps:=1000000)only[List.take_succ_cons,List.take_zero,List.drop_succ_cons,List.drop_zero,ab,Act.put,List.setIfInBounds_toArray,List.set_cons_zero,List.set_cons_succ,Nat.zero_add,Nat.reduceAdd,Z];clear Z;generalize xs 1=x1 at *;have d5:Hid (Ext w5 w6):=c8;clear c8;go_wp2;go_ret;exact⟨rfl,Tw.cast ((cu.out.more d5.out).drop.drop) B.out C.out⟩
 by_cases h4:i=4
 .as_aux_lemma =>
  subst h4;have B:Hid (eH m ⟨4,b,a,id,g⟩=(bj m id).1):=(if_neg h0).trans ((if_neg h1).trans (if_pos (.inr (.inr rfl))));have C:Hid (eV n ⟨4,b,a,id,g⟩=(ck n id)):=(if_neg h0).trans ((if_neg h1).trans (if_pos (.inr (.inr rfl))));have au:I.cell? ⟨o,10,none⟩=some (S8 id):=(cell_of_row _ _ 10 _ _ _ t.out.row).trans rfl;have bd:Hid (∀K (S O1:Nat->Prop) (wX:World),St (KW:=K) w0 S O1 wX W gs gc m n->Calls Tryz.prog 20 #[.pointer (some ⟨gs,0,none⟩),S8 id] wX fun e l=>∃G:Nat->Prop,e=.returned (.bool (gM m id))/\St (KW:=K) w0 S G l W gs gc (bj m id).1 (ck n id)):=fun K S O1 wX hs=>(lQ (KW:=K) id hs HE.out a'.out HG.out (by omega) a0 (by omega) (by omega)).mono (by
   rintro e l ⟨G,n',he,-,hn,aa⟩;subst hn;exact⟨G,he,aa⟩)
  have bb:Hid (∀(G:Nat->Prop) (wX:World),Sr w0 G wX xv gy m n->Calls Tryz.prog 40 #[.pointer (some ⟨gy,0,none⟩),S8 id] wX fun e l=>e=.returned (.bool (gM m id))/\SrPost w0 G xv gy (bj m id).1 (ck n id) wX l):=fun G wX hs=>y9 id hs HG.out (by omega) (by omega) a0 (by omega)
  obtain⟨hb,bl⟩:∃q,gM m id=q:=⟨_,rfl⟩;rw[bl]at bd bb;clear bl;have d6:(hb==hb)=true:=by simp
  go_upto_region 20 with fail;apply aI 9 (fun z l=>twJ w0 [(o,.cells #[.int .i64 4,.slice L b.length M,.int .i64 a.kind,.slice N a.data.length P,.slice Q a.items.length T,S8 a.tree,.slice U a.parents.length V,.int .i64 a.BU,.int .i64 a.BS,S8 a.msg,S8 id,.int .i64 g.kind,.int .i64 g.mode,.int .i64 g.keep,.int .i64 g.BW,S8 g.path,S8 g.dest,.slice d1 g.data.length d2,.slice q1 g.plan.length q2] 46 (0,0))] W xv gs gc gy m (bj m id).1 n (ck n id) (.bool hb) (z 3) (z 7) l) [false,false,false,true,false,false,false,true,false] [_,_,_,undef,_,_,_,undef,.bool true] [none,none,none,none,none,none,none,none,none] [[],[],[1],[0,2],[],[],[5],[4,6],[3,7]] (by kernel_rfl) (by kernel_rfl) rfl
  .exact twJ.start (t.out.more ⟨rfl,rfl,rfl,Nat.le_refl _,fun _ _=>rfl⟩)
  .simp (maxSteps:=1000000)only[de,cN,bR,cG,cS,List.getD_cons_zero,List.getD_cons_succ,Bool.false_eq_true,if_false,if_true,and_true,true_and,forall_const,Nat.zero_add,Nat.reduceAdd,List.take_succ_cons,List.take_zero,ab,Act.put,List.setIfInBounds_toArray,List.set_cons_zero,List.set_cons_succ];and_intros
   iterate 3 · intro xs z wq J;intros;rename_i Y;have ca:wq.cell? ⟨o,10,none⟩=some (S8 id):=(cell_of_row _ _ 10 _ _ _ J.row).trans rfl;go_simp;exact Y _ _ J rfl
   .intro xs z wq J hz Z R Y;obtain⟨a2,a4⟩:=Z;rw[hz]at J;go_simp;exact(J.prog y.out HE.out bd.out).mono (by rintro e' l ⟨rfl,h⟩;exact⟨_,rfl,Y _ _ h⟩)
   iterate 3 · intro xs z wq J;intros;rename_i Y;have ca:wq.cell? ⟨o,10,none⟩=some (S8 id):=(cell_of_row _ _ 10 _ _ _ J.row).trans rfl;go_simp;exact Y _ _ J rfl
   .intro xs z wq J hz Z R Y;obtain⟨a2,a4⟩:=Z;rw[hz]at J;go_simp;exact(J.doc y.out bb.out).mono (by rintro e' l ⟨rfl,h⟩;exact⟨_,rfl,Y _ _ h⟩)
   .intro xs z wq J Z R Y;obtain⟨a2,a4⟩:=Z;have g3:=J.Dg a2;have g7:=J.Dh a4;rw[g3,g7];go_simp;exact Y _ _ J rfl
  intro xs A a5 Z;simp only[di,List.getD_cons_zero,List.getD_cons_succ,Bool.false_eq_true,if_false,if_true]at a5;simp only[bV,Nat.zero_add,Nat.reduceAdd,and_true]at Z;simp(maxSteps:=1000000)only[List.drop_succ_cons,List.drop_zero,Nat.zero_add,Nat.reduceAdd,List.take_succ_cons,List.take_zero,ab,Act.put,List.setIfInBounds_toArray,List.set_cons_zero,List.set_cons_succ,Z];clear Z;generalize xs 3=x3 at *;generalize xs 7=x7 at *;have j:Hid (Tw w0 [(o,.cells #[.int .i64 4,.slice L b.length M,.int .i64 a.kind,.slice N a.data.length P,.slice Q a.items.length T,S8 a.tree,.slice U a.parents.length V,.int .i64 a.BU,.int .i64 a.BS,S8 a.msg,S8 id,.int .i64 g.kind,.int .i64 g.mode,.int .i64 g.keep,.int .i64 g.BW,S8 g.path,S8 g.dest,.slice d1 g.data.length d2,.slice q1 g.plan.length q2] 46 (0,0))] A W xv gs gc gy (bj m id).1 (bj m id).1 (ck n id) (ck n id)):=a5.both;clear a5 z0 au;go_wp2;go_ret;exact⟨rfl,Tw.cast (j.out.drop) B.out C.out⟩
 have a3:¬(i=2\/i=3\/i=4):=by omega
 by_cases h5:i=5
 .as_aux_lemma =>
  subst h5;have B:Hid (eH m ⟨5,b,a,id,g⟩=(aK m).1):=(if_neg h0).trans ((if_neg h1).trans ((if_neg a3).trans (if_pos rfl)));have C:Hid (eV n ⟨5,b,a,id,g⟩=n):=(if_neg h0).trans ((if_neg h1).trans (if_neg a3));obtain⟨⟨H,ls,er⟩,d⟩:∃q,aK m=q:=⟨_,rfl⟩;have HQ:Hid _:=d;have dk:Hid (H=(av m).1):=by
   have X:=uC m;rw[d]at X;exact X
  clear d;have D:Hid _:=Tw.prog y.out HE.out t.out (F:=13) (args:=#[.pointer (some ⟨gs,0,none⟩)]) (R:=fun e l=>∃v,e=.returned (.tuple #[v,.int .i64 er])/\IsStrs l v ls/\Typed 9 l v) (m':=H) (n':=n) (fun K S b5 r=>(kg (KW:=K) r HE.out HG.out (by omega)).mono (by
   rw[HQ.out];rintro e l ⟨G,v,he,hv,aa,ht⟩;exact⟨G,⟨v,he,hv,ht⟩,aa⟩))
  go_wp2_with fail;go_at_call 13;refine Calls.mono D.out ?_;rintro ex A ⟨⟨v,rfl,hv,bx⟩,p,-⟩;have j:Hid (Tw w0 [(o,.cells #[.int .i64 5,.slice L b.length M,.int .i64 a.kind,.slice N a.data.length P,.slice Q a.items.length T,S8 a.tree,.slice U a.parents.length V,.int .i64 a.BU,.int .i64 a.BS,S8 a.msg,S8 id,.int .i64 g.kind,.int .i64 g.mode,.int .i64 g.keep,.int .i64 g.BW,S8 g.path,S8 g.dest,.slice d1 g.data.length d2,.slice q1 g.plan.length q2] 46 (0,0))] A W xv gs gc gy H m n n):=p;have HV:Hid (IsStrs A v ls/\Typed 9 A v):=⟨hv,bx⟩;have ds:Hid (Rising (av m).1.now):=by
   obtain⟨S,O,G,bv⟩:=p;have X:=bv.st.one.fs.CS.1;rw[dk.out]at X;exact X
  clear p hv bx z0 t D;have D:Hid _:=Tw.doc y.out j.out (F:=41) (args:=#[.pointer (some ⟨gy,0,none⟩)]) (R:=fun e l=>∃v,e=.returned (.tuple #[v,.int .i64 er])/\IsStrs l v ls) (m':=H) (n':=n) (fun G r=>by
   have X:=xi r HG.out (by omega) ds.out;rw[HQ.out]at X;exact X)
  go_wp2_with fail;go_at_call 41;refine Calls.mono D.out ?_;rintro ex w3 ⟨⟨u,rfl,hu⟩,ad,-,-,br⟩;have E:Hid (Tw w0 [(o,.cells #[.int .i64 5,.slice L b.length M,.int .i64 a.kind,.slice N a.data.length P,.slice Q a.items.length T,S8 a.tree,.slice U a.parents.length V,.int .i64 a.BU,.int .i64 a.BS,S8 a.msg,S8 id,.int .i64 g.kind,.int .i64 g.mode,.int .i64 g.keep,.int .i64 g.BW,S8 g.path,S8 g.dest,.slice d1 g.data.length d2,.slice q1 g.plan.length q2] 46 (0,0))] w3 W xv gs gc gy H H n n):=ad;have a8:Hid (IsStrs w3 v ls):=Row.keep HV.out.1 HV.out.2 br;have HU:Hid (IsStrs w3 u ls):=hu;clear ad hu br j D HV;have bk:(er==er)=true:=by simp
  go_wp2_with fail;go_at_call 25;refine(jJ _ _ ls ls w3 a8.out HU.out).mono ?_;rw[show(ls==ls)=true from by simp];rintro ex w4 ⟨rfl,c7⟩;have b':Hid (Tw w0 [(o,.cells #[.int .i64 5,.slice L b.length M,.int .i64 a.kind,.slice N a.data.length P,.slice Q a.items.length T,S8 a.tree,.slice U a.parents.length V,.int .i64 a.BU,.int .i64 a.BS,S8 a.msg,S8 id,.int .i64 g.kind,.int .i64 g.mode,.int .i64 g.keep,.int .i64 g.BW,S8 g.path,S8 g.dest,.slice d1 g.data.length d2,.slice q1 g.plan.length q2] 46 (0,0))] w4 W xv gs gc gy H H n n):=E.out.more c7;clear c7 E;go_wp2;go_ret;exact⟨rfl,Tw.cast (by rw[HQ.out];exact b'.out.drop) B.out C.out⟩
 by_cases h6:i=6
 .as_aux_lemma =>
  subst h6;have B:Hid (eH m ⟨6,b,a,id,g⟩=(dB m id).1):=(if_neg h0).trans ((if_neg h1).trans ((if_neg a3).trans ((if_neg h5).trans (if_pos rfl))));have C:Hid (eV n ⟨6,b,a,id,g⟩=n):=(if_neg h0).trans ((if_neg h1).trans (if_neg a3));have au:I.cell? ⟨o,10,none⟩=some (S8 id):=(cell_of_row _ _ 10 _ _ _ t.out.row).trans rfl;have bd:Hid (∀K (S O1:Nat->Prop) (wX:World),St (KW:=K) w0 S O1 wX W gs gc m n->Calls Tryz.prog 42 #[.pointer (some ⟨gs,0,none⟩),S8 id] wX fun e l=>∃G:Nat->Prop,e=.returned (.int .i64 (dB m id).2)/\St (KW:=K) w0 S G l W gs gc (dB m id).1 n):=fun K S O1 wX hs=>(qt (KW:=K) id hs HE.out HG.out (by omega) (by omega)).mono (by
   rintro e l ⟨G,he,aa⟩;exact⟨G,he,aa⟩)
  have bb:Hid (∀(G:Nat->Prop) (wX:World),Sr w0 G wX xv gy m n->Calls Tryz.prog 43 #[.pointer (some ⟨gy,0,none⟩),S8 id] wX fun e l=>e=.returned (.int .i64 (dB m id).2)/\SrPost w0 G xv gy (dB m id).1 n wX l):=fun G wX hs=>xg id hs HG.out (by omega) (by omega)
  obtain⟨hb,bl⟩:∃q,(dB m id).2=q:=⟨_,rfl⟩;rw[bl]at bd bb;clear bl;have d6:(hb==hb)=true:=by simp
  go_upto_region 26 with fail;apply aI 9 (fun z l=>twJ w0 [(o,.cells #[.int .i64 6,.slice L b.length M,.int .i64 a.kind,.slice N a.data.length P,.slice Q a.items.length T,S8 a.tree,.slice U a.parents.length V,.int .i64 a.BU,.int .i64 a.BS,S8 a.msg,S8 id,.int .i64 g.kind,.int .i64 g.mode,.int .i64 g.keep,.int .i64 g.BW,S8 g.path,S8 g.dest,.slice d1 g.data.length d2,.slice q1 g.plan.length q2] 46 (0,0))] W xv gs gc gy m (dB m id).1 n n (.int .i64 hb) (z 3) (z 7) l) [false,false,false,true,false,false,false,true,false] [_,_,_,undef,_,_,_,undef,.bool true] [none,none,none,none,none,none,none,none,none] [[],[],[1],[0,2],[],[],[5],[4,6],[3,7]] (by kernel_rfl) (by kernel_rfl) rfl
  .exact twJ.start (t.out.more ⟨rfl,rfl,rfl,Nat.le_refl _,fun _ _=>rfl⟩)
  .simp (maxSteps:=1000000)only[de,cN,bR,cG,cS,List.getD_cons_zero,List.getD_cons_succ,Bool.false_eq_true,if_false,if_true,and_true,true_and,forall_const,Nat.zero_add,Nat.reduceAdd,List.take_succ_cons,List.take_zero,ab,Act.put,List.setIfInBounds_toArray,List.set_cons_zero,List.set_cons_succ];and_intros
   iterate 3 · intro xs z wq J;intros;rename_i Y;have ca:wq.cell? ⟨o,10,none⟩=some (S8 id):=(cell_of_row _ _ 10 _ _ _ J.row).trans rfl;go_simp;exact Y _ _ J rfl
   .intro xs z wq J hz Z R Y;obtain⟨a2,a4⟩:=Z;rw[hz]at J;go_simp;exact(J.prog y.out HE.out bd.out).mono (by rintro e' l ⟨rfl,h⟩;exact⟨_,rfl,Y _ _ h⟩)
   iterate 3 · intro xs z wq J;intros;rename_i Y;have ca:wq.cell? ⟨o,10,none⟩=some (S8 id):=(cell_of_row _ _ 10 _ _ _ J.row).trans rfl;go_simp;exact Y _ _ J rfl
   .intro xs z wq J hz Z R Y;obtain⟨a2,a4⟩:=Z;rw[hz]at J;go_simp;exact(J.doc y.out bb.out).mono (by rintro e' l ⟨rfl,h⟩;exact⟨_,rfl,Y _ _ h⟩)
   .intro xs z wq J Z R Y;obtain⟨a2,a4⟩:=Z;have g3:=J.Dg a2;have g7:=J.Dh a4;rw[g3,g7];go_simp;exact Y _ _ J rfl
  intro xs A a5 Z;simp only[di,List.getD_cons_zero,List.getD_cons_succ,Bool.false_eq_true,if_false,if_true]at a5;simp only[bV,Nat.zero_add,Nat.reduceAdd,and_true]at Z;simp(maxSteps:=1000000)only[List.drop_succ_cons,List.drop_zero,Nat.zero_add,Nat.reduceAdd,List.take_succ_cons,List.take_zero,ab,Act.put,List.setIfInBounds_toArray,List.set_cons_zero,List.set_cons_succ,Z];clear Z;generalize xs 3=x3 at *;generalize xs 7=x7 at *;have j:Hid (Tw w0 [(o,.cells #[.int .i64 6,.slice L b.length M,.int .i64 a.kind,.slice N a.data.length P,.slice Q a.items.length T,S8 a.tree,.slice U a.parents.length V,.int .i64 a.BU,.int .i64 a.BS,S8 a.msg,S8 id,.int .i64 g.kind,.int .i64 g.mode,.int .i64 g.keep,.int .i64 g.BW,S8 g.path,S8 g.dest,.slice d1 g.data.length d2,.slice q1 g.plan.length q2] 46 (0,0))] A W xv gs gc gy (dB m id).1 (dB m id).1 n n):=a5.both;clear a5 z0 au;go_wp2;go_ret;exact⟨rfl,Tw.cast (j.out.drop) B.out C.out⟩
 by_cases h7:i=7
 .as_aux_lemma =>
  subst h7;have B:Hid (eH m ⟨7,b,a,id,g⟩=(dW m).1):=(if_neg h0).trans ((if_neg h1).trans ((if_neg a3).trans ((if_neg h5).trans ((if_neg h6).trans (if_pos rfl)))));have C:Hid (eV n ⟨7,b,a,id,g⟩=n):=(if_neg h0).trans ((if_neg h1).trans (if_neg a3));obtain⟨⟨H,er⟩,d⟩:∃q,dW m=q:=⟨_,rfl⟩;have HQ:Hid _:=d;clear d;have D:Hid _:=Tw.prog y.out HE.out t.out (F:=44) (args:=#[.pointer (some ⟨gs,0,none⟩)]) (R:=fun e l=>e=.returned (.int .i64 er)) (m':=H) (n':=n) (fun K S b5 r=>(pf (KW:=K) r HE.out HG.out (by omega)).mono (by
   rw[HQ.out];rintro e l ⟨G,he,aa⟩;exact⟨G,he,aa⟩))
  go_wp2_with fail;go_at_call 44;refine Calls.mono D.out ?_;rintro ex A ⟨rfl,p,-⟩;have j:Hid (Tw w0 [(o,.cells #[.int .i64 7,.slice L b.length M,.int .i64 a.kind,.slice N a.data.length P,.slice Q a.items.length T,S8 a.tree,.slice U a.parents.length V,.int .i64 a.BU,.int .i64 a.BS,S8 a.msg,S8 id,.int .i64 g.kind,.int .i64 g.mode,.int .i64 g.keep,.int .i64 g.BW,S8 g.path,S8 g.dest,.slice d1 g.data.length d2,.slice q1 g.plan.length q2] 46 (0,0))] A W xv gs gc gy H m n n):=p;clear p z0 t D;have D:Hid _:=Tw.doc y.out j.out (F:=45) (args:=#[.pointer (some ⟨gy,0,none⟩)]) (R:=fun e l=>e=.returned (.int .i64 er)) (m':=H) (n':=n) (fun G r=>by
   have X:=uO r HG.out (by omega);rw[HQ.out]at X;exact X)
  go_wp2_with fail;go_at_call 45;refine Calls.mono D.out ?_;rintro ex w3 ⟨rfl,ad,-,-,-⟩;have E:Hid (Tw w0 [(o,.cells #[.int .i64 7,.slice L b.length M,.int .i64 a.kind,.slice N a.data.length P,.slice Q a.items.length T,S8 a.tree,.slice U a.parents.length V,.int .i64 a.BU,.int .i64 a.BS,S8 a.msg,S8 id,.int .i64 g.kind,.int .i64 g.mode,.int .i64 g.keep,.int .i64 g.BW,S8 g.path,S8 g.dest,.slice d1 g.data.length d2,.slice q1 g.plan.length q2] 46 (0,0))] w3 W xv gs gc gy H H n n):=ad;clear ad j D;have bk:(er==er)=true:=by simp
  go_wp2;go_ret;exact⟨rfl,Tw.cast (by rw[HQ.out];exact E.out.drop) B.out C.out⟩
 have B:Hid (eH m ⟨i,b,a,id,g⟩=(fL m g)):=(if_neg h0).trans ((if_neg h1).trans ((if_neg a3).trans ((if_neg h5).trans ((if_neg h6).trans (if_neg h7)))));have C:Hid (eV n ⟨i,b,a,id,g⟩=n):=(if_neg h0).trans ((if_neg h1).trans (if_neg a3));have f0:(i==0)=false:=by simpa using h0
 have f1:(i==1)=false:=by simpa using h1
 have f2:(i==2)=false:=by simpa using h2
 have f3:(i==3)=false:=by simpa using h3
 have f4:(i==4)=false:=by simpa using h4
 have f5:(i==5)=false:=by simpa using h5
 have f6:(i==6)=false:=by simpa using h6
 have f7:(i==7)=false:=by simpa using h7
 clear h0 h1 h2 h3 h4 h5 h6 h7;have d8:I.cell? ⟨o,11,none⟩=some (.int .i64 g.kind):=(cell_of_row _ _ 11 _ _ _ t.out.row).trans rfl;have d9:I.cell? ⟨o,12,none⟩=some (.int .i64 g.mode):=(cell_of_row _ _ 12 _ _ _ t.out.row).trans rfl;have d':I.cell? ⟨o,13,none⟩=some (.int .i64 g.keep):=(cell_of_row _ _ 13 _ _ _ t.out.row).trans rfl;have ea:I.cell? ⟨o,14,none⟩=some (.int .i64 g.BW):=(cell_of_row _ _ 14 _ _ _ t.out.row).trans rfl;have ec:I.cell? ⟨o,15,none⟩=some (S8 g.path):=(cell_of_row _ _ 15 _ _ _ t.out.row).trans rfl;have ef:I.cell? ⟨o,16,none⟩=some (S8 g.dest):=(cell_of_row _ _ 16 _ _ _ t.out.row).trans rfl;have eg:I.cell? ⟨o,17,none⟩=some (.slice d1 g.data.length d2):=(cell_of_row _ _ 17 _ _ _ t.out.row).trans rfl;have eh:I.cell? ⟨o,18,none⟩=some (.slice q1 g.plan.length q2):=(cell_of_row _ _ 18 _ _ _ t.out.row).trans rfl;go_wp2_with fail;go_at_call 46;refine(Tw.does y.out t.out HE.out HG.out (by omega) O5.out dq.out).mono ?_;rintro ex A ⟨rfl,p⟩;have j:Hid _:=p;clear p;go_wp2;go_ret;exact⟨rfl,Tw.cast (j.out) B.out C.out⟩
end
end Go.Proofs.YtfabjgfmiaammaaGreatDoor
