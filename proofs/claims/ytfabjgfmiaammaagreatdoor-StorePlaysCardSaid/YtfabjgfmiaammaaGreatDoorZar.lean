/- Contracts of the program's functions and plain laws behind the card. Conditions: as each theorem states. -/
import Derived.Test.YtfabjgfmiaammaaGreatDoorZan
import Derived.Test.YtfabjgfmiaammaaGreatDoorZaq
import Derived.Test.YtfabjgfmiaammaaGreatDoorZai
import Derived.Test.YtfabjgfmiaammaaGreatDoorZab
import Derived.Deep.QuietTactic
import Derived.BigQuiet
import Derived.Test.YtfabjgfmiaammaaGreatDoorZam
import Derived.Test.YtfabjgfmiaammaaGreatDoorZak
import Derived.Deep.MidRow
set_option linter.unusedVariables false
set_option linter.unusedSimpArgs false
set_option linter.unusedSectionVars false
set_option maxRecDepth 100000
set_option maxHeartbeats 64000000
namespace Go.Proofs.YtfabjgfmiaammaaGreatDoor
section
open Go Go.RowKit Go.Sort
theorem ze:∀n:Fin 256,bn (UInt8.ofNat n)<16->33<=(UInt8.ofNat n).toNat/\(UInt8.ofNat n).toNat<=126/\(UInt8.ofNat n).toNat≠47/\(UInt8.ofNat n).toNat≠46:=by decide +kernel
theorem uM {s:B8} (h:av s=true):bR s=true:=by
 have d:s.length=64/\∀c∈s,bn c<16:=by
  unfold av at h
  cases g:aW s with
  | none=>rw[g]at h;cases h
  | some b =>
   rw[g]at h;have j:=dE s g;have:b.length=32:=by simpa using h
   exact⟨by omega,j.2⟩
 obtain⟨a,k⟩:=d;unfold bR;have n:s.any fp=false:=by
  rw[List.any_eq_false];intro c o;have i:=ze ⟨c.toNat,c.toNat_lt⟩;have e:UInt8.ofNat (⟨c.toNat,c.toNat_lt⟩:Fin 256).val=c:=by simp
  rw[e]at i;obtain⟨t,u,w,-⟩:=i (k c o);rw[ow (by omega) (by omega) (by omega)];simp
 have p:s.isEmpty=false:=by cases s with | nil=>simp at a | cons x l=>rfl
 have q:(s==[46])=false:=by simpa using fun e=>by rw[e]at a;simp at a
 have r:(s==[46,46])=false:=by simpa using fun e=>by rw[e]at a;simp at a
 rw[n,p,q,r];simp[a]
theorem nY {a:List B8} (h:∀p∈a,aF dB p=true):(dp a dB.length).filter av=eL a:=by
 unfold dp eL;rw[List.filter_filter];have e:a.map (fun p=>p.drop (dB.length+1))=a.map fun p=>Lib.trimPrefix p gI:=by
  refine List.map_congr_left fun p b=>?_
  obtain⟨r,rfl⟩:=(gZ _ _).1 (h p b);unfold Lib.trimPrefix;have:Lib.hasPrefix (dB++47::r) gI=true:=by
   unfold Lib.hasPrefix;rw[List.isPrefixOf_iff_prefix];exact⟨r,by simp[dB,gI]⟩
  rw[if_pos this];simp[dB,gI]
 rw[e];refine List.filter_congr fun s _=>?_
 cases c:av s with
 | false=>simp
 | true=>simp[uM c]
theorem oP:∀(d a b:B8),ltB (d++a) (d++b)=ltB a b
 | [],_,_=>rfl
 | x::d,a,b=>by
  have c:=oP d a b;unfold ltB at c ⊢;rw[List.cons_append,List.cons_append,<-c,Bool.eq_iff_iff];simp[List.cons_lt_cons_iff]
variable {l:List B8} {dir:B8}
theorem sI (h:∀p∈l,aF dir p=true) (d:cQ l):cQ (dp l dir.length):=by
 unfold cQ dp;refine List.Pairwise.filter _ ?_;rw[List.pairwise_map];refine List.Pairwise.imp_of_mem (fun {a b} g i c=>?_) d;obtain⟨r,rfl⟩:=(gZ _ _).1 (h a g);obtain⟨s,rfl⟩:=(gZ _ _).1 (h b i);rw[oP]at c;have e:∀t:B8,(dir++47::t).drop (dir.length+1)=t:=fun t=>by simp
 rw[e,e];have j:=oP [47] r s;exact j.symm.trans c
variable {m:Fs}
theorem xb (b:Rising (aB m).1.now) (c:dir≠[]):cQ (bm m dir).2.1/\∀p∈(bm m dir).2.1,aF dir p=true:=by
 unfold bm;split
 .exact ⟨List.Pairwise.nil,fun p a=>by cases a⟩
 .try rw[if_neg c]
  split
  .exact ⟨List.Pairwise.nil,fun p a=>by cases a⟩
  .refine ⟨?_,fun p a=>(List.mem_filter.1 a).2⟩;unfold cQ aG;refine List.Pairwise.filter _ ?_;rw[List.pairwise_map];exact b
theorem xd (h:∀p∈l,aF dir p=true) (b:∀s∈l,s.length<=200):∀s∈l,s.length<=100000/\dir.length+1<=s.length:=fun s a=>by
 obtain⟨r,c⟩:=(gZ _ _).1 (h s a);refine⟨by have:=b s a;omega,by rw[c];simp⟩
theorem rF {n:Nat} (a:∀s∈l,s.length<=200):∀s∈dp l n,s.length<=100000:=fun s b=>by
 obtain⟨p,c,rfl⟩:=List.mem_map.1 (List.mem_filter.1 b).1;have:=a p c;rw[List.length_drop];omega
theorem zf (h:∀p∈l,aF dB p=true) (a:cQ l):cQ (eL l):=by
 rw[<-nY h];exact List.Pairwise.filter _ (sI h a)
variable [Inhabited bc]
theorem xe {w0 w:World} {O:Nat->Prop} {x:Value} {G:Nat} {n:Int} {k:Nat} (h:Sr w0 O w x G m n) (y:Good k m) (hk:k<=10000) (hr:Rising (aB m).1.now) :
  Calls Tryz.prog 41 #[.pointer (some ⟨G,0,none⟩)] w fun e w'=>(∃v,e=.returned (.tuple #[v,.int .i64 (aY m).2.2])/\IsStrs w' v (aY m).2.1)/\SrPost w0 O x G (aY m).1 n w w':=by
 have H:Hid (Sr w0 O w x G m n):=h;obtain⟨g,rfl⟩:∃g,x=.pointer (some ⟨g,0,none⟩):=h.ref.ptr;have d0:w.cell? ⟨G,0,none⟩=some (.pointer (some ⟨g,0,none⟩)):=(cell_of_row _ _ 0 _ _ _ h.row).trans rfl;have HS:Hid _:=nI (dir:=dB) y.ok y.plan;have HL:Hid ((bm m dB).2.1.length<=900000):=by
  have hl:=(cd y.ok y.plan).1;have hn:=hl.ok.BY;have ht:=y.time;have a9:=hl.time;have I:(aG (aB m).1.now).length<=900000:=by unfold aG;rw[List.length_map];omega
  unfold Hid bm;split
  .simp
  .rw [if_neg (by decide)];split
   .simp
   .exact Nat.le_trans (List.length_filter_le _ _) I
 have HR:Hid _:=pF dB (Sr.BW H.out y (by omega)) (by decide);have d:Hid _:=xb (dir:=dB) hr (by decide);obtain⟨⟨J,j,K⟩,z⟩:∃q,bm m dB=q:=⟨_,rfl⟩;obtain⟨⟨mS,lS,eS⟩,A⟩:∃q,aY m=q:=⟨_,rfl⟩;have L:Hid ((mS,lS,eS)=if K≠0 then(J,[],K)else(J,eL j,0)):=by
  unfold Hid;rw[<-A];unfold aY;rw[z]
 rw[A];rw[z]at HR HS HL d;clear z h hr y A;go_enter Tryz.func41,Tryz.ntmps41;go_wp2_with fail;go_at_call 90;refine Calls.mono HR.out ?_;rintro e w1 ⟨⟨v,rfl,hv⟩,M⟩;have a':j.length<=900000:=HL.out;have N:IsStrs w1 v j:=hv;have HV:Hid (IsStrs w1 v j):=N;have HP:Hid (SrPost w0 O (.pointer (some ⟨g,0,none⟩)) G J n w w1):=Sr.post H.out M;clear hv N M HR d0
 by_cases h0:K=0
 case neg =>
  have b1:(K != 0)=true:=by simpa using h0
  obtain⟨rfl,rfl,rfl⟩:mS=J/\lS=[]/\eS=K:=by
   have u:=L.out;rw[if_pos h0]at u;have c:=Prod.mk.inj u;exact⟨c.1,(Prod.mk.inj c.2).1,(Prod.mk.inj c.2).2⟩
  clear h0;go_wp2;go_ret2;exact⟨⟨_,rfl,Row.nil _⟩,HP.out⟩
 subst h0;have P:Hid (mS=J/\lS=eL j/\eS=0):=by
  have u:=L.out;rw[if_neg (by simp)]at u;have c:=Prod.mk.inj u;exact⟨c.1,(Prod.mk.inj c.2).1,(Prod.mk.inj c.2).2⟩
 have o:Hid _:=nY d.out.2;have ad:Hid (cQ (eL j)):=zf d.out.2 d.out.1;obtain⟨D,hD⟩:∃D,dp j dB.length=D:=⟨_,rfl⟩;have au:Hid (∀s∈D,s.length<=100000):=by rw[<-hD];exact rF (n:=dB.length) HS.out
 have a0:=nX j dB.length;rw[hD]at o a0;have B:Hid _:=uL dB HV.out (xd d.out.2 HS.out) (by decide) (by omega);rw[hD]at B;clear hD;go_wp2_with fail;go_at_call 91;refine Calls.mono B.out ?_;rintro e Q ⟨⟨v2,rfl,ho⟩,R⟩;have HO:Hid (IsStrs Q v2 D):=Row.BM ho (by omega);have a1:Hid _:=SrPost.ext HP.out R;obtain⟨da,dc,rfl,l1,l2,l3,S⟩:=HO.out.get;have a2:Hid _:=S;clear ho R S B;go_wp2_with fail;go_loopw [7,8] (fun v i wr=>∃(k n:Nat),k<=D.length/\i=.int .i64 k/\Hid (((D.take k).filter av).length=n)/\Hid (wr.ownsRow Q.heap.size 9 1 v n (((D.take k).filter av).map S8))/\Hid (Ext Q wr)) (fun _ i _=>D.length - (intOf i).toNat)
 case atStart=>exact⟨0,0,Nat.zero_le _,rfl,rfl,World.ownsRow_nil _ _ _ _,Ext.refl _⟩
 case round =>
 obtain⟨k,q,hk,rfl,T,U,HX⟩:=hrel;have bd:q<=D.length:=by rw[<-T.out];exact Nat.le_trans (List.length_filter_le _ _) (List.length_take_le' _ _)
 by_cases C:k<D.length
 case pos =>
  obtain⟨s,p⟩:∃s,D[k]? = some s:=⟨_,List.getElem?_eq_getElem C⟩;have bh:=au.out s (List.mem_of_getElem? p);obtain⟨bb,oo,rfl,hc⟩:=a2.out k C;have y1:=HX.out.cell (hc k C);rw[show D.getD k []=s by rw[List.getD_eq_getElem?_getD,p];rfl]at y1;have V:(D.take (k+1)).filter av=(D.take k).filter av++(if av s=true then[s]else[]):=by
   rw[List.take_add_one,p,List.filter_append];simp only[Option.toList_some,List.filter_cons,List.filter_nil]
  have r:Hid _:=V;have HY:Hid _:=y1;obtain⟨vb,W⟩:∃b,av s=b:=⟨_,rfl⟩;have l:Hid _:=W;clear hc p V W;go_wp2_with fail;go_at_call 87;refine(fo s wr (by omega)).mono ?_;rw[l.out];rintro e w4 ⟨rfl,t⟩;have y1:=t.cell HY.out;have E:Hid (Ext Q w4):=HX.out.trans t;have a:=al U.out t;have bk:=E.out.size;clear t
  cases vb with
  | false =>
   go_wp2_with fail;go_roundw
   case rel=>exact⟨k+1,q,by omega,by go_num,by unfold Hid;rw[r.out,l.out];simpa using T.out,by unfold Hid;rw[r.out,l.out];simpa using a,E.out⟩
   case measure=>simp[intOf];omega
  | true =>
   go_wp2_with (at_builtin;go_must (refine eO rfl _ _ rfl Q.heap.size _ q ((D.take k).filter av) rfl (a.alloc _) w4.heap.size 1 1 [s] rfl rfl (ab _ _) (by omega) (by simp;omega) ?_);intro v' w5 F a3)
   go_roundw
   case rel=>exact⟨k+1,q+1,by omega,by go_num,by unfold Hid;rw[r.out,l.out];simpa using T.out,by unfold Hid;rw[r.out,l.out];exact F,ai (E.out.alloc _) (a.alloc _) a3⟩
   case measure=>simp[intOf];omega
 have a4:k=D.length:=by omega
 subst a4;have X:Hid (IsStrs wr u7 (eL j)):=by
  have u:=Row.BM U.out (by omega);rw[List.take_length,o.out]at u;have c:=T.out;rw[List.take_length,o.out]at c;unfold Hid IsStrs;rw[c];exact u
 have a5:(eL j).length<=1000000:=by
  have c:=T.out;rw[List.take_length,o.out]at c;omega
 have a6:Hid _:=SrPost.ext a1.out HX.out;obtain⟨ua,uc,rfl,-⟩:=X.out.get;have HU:Hid _:=wR X.out a5;rw[rC ad.out]at HU;go_wp2_with fail;go_at_call 92;refine Calls.mono HU.out ?_;rintro e w6 ⟨⟨v6,rfl,Y⟩,Z⟩;have a7:Hid (IsStrs w6 v6 (eL j)):=Row.BM Y (by omega);have a8:Hid _:=SrPost.ext a6.out Z;clear Y Z;go_wp2;go_ret2;obtain⟨e1,e2,e3⟩:=P.out;rw[e1,e2,e3];exact⟨⟨_,rfl,a7.out⟩,a8.out⟩
end
section
open Go Go.RowKit
variable {w:World} {m:Fs}
theorem IsFs.CP {S O R:Nat->Prop} {p:Value} (h:IsFs S O R w p m):Rising m.now/\(∀e∈m.now,e.1.length<=10000000)/\∃g,p=.pointer (some ⟨g,0,none⟩):=by
 obtain⟨g,b,c,d,i,j,L,k,rfl,-,-,a,-⟩:=h;exact⟨a.now.CP,a.now.short,g,rfl⟩
theorem pS {e:B8×Fi}:∀ {l:aq} {k:Nat},Rising l->l[k]? = some e->ax l e.1=some e.2
 | [],k,_,a=>by simp at a
 | y::r,0,_,a=>by
  have:y=e:=by simpa using a
  subst this;unfold ax;simp
 | y::r,k+1,h,a=>by
  obtain⟨d,g⟩:=List.pairwise_cons.1 h;have b:r[k]? = some e:=by simpa using a
  have c:=gX (d e (List.mem_of_getElem? b));have i:(y.1==e.1)=false:=by simpa using c
  have:=pS g b;unfold ax at *;rw[List.find?_cons,i];exact this
variable {l:aq} {k:Nat} {p:B8}
theorem xf (h:(aG l)[k]? = some p):∃f,l[k]? = some (p,f):=by
 unfold aG at h;rw[List.getElem?_map]at h;obtain⟨e,a,rfl⟩:=Option.map_eq_some_iff.1 h;exact⟨e.2,a⟩
theorem Aw {f:Fi} (h:Rising m.now) (a:m.now[k]? = some (p,f)):cF m p=(f,true):=by
 unfold cF;rw[pS h a]
theorem uN {b:Nat} {v:Value} (h:w.ownsRow b 9 1 v l.length ((aG l).map S8)) (a:l.length<=10000000):IsStrs w v (aG l):=by
 have:=Row.BM h (by omega);have e:(aG l).length=l.length:=by simp[aG]
 unfold IsStrs;rw[e];exact this
end
section
open Go Go.RowKit
variable [Inhabited bc]
variable {w:World}
theorem nZ {cs:List Value} {e:Ev} (h:IsEvB w cs e):cs.length=7:=by
 obtain⟨v,rfl,-⟩:=h;rfl
theorem jI {v:Value} {l:List Ev} (h:ReadB w v l):∃a g,v=.slice a l.length g/\l.length<=g/\l.length<=140737488355328/\g<=9223372036854775807 /\
  ∀(k:Nat) e,l[k]? = some e->∃b o y,a=some ⟨b,o,none⟩/\IsEvB w y e/\∀j u,y[j]? = some u->w.cell? ⟨b,o+k*7+j,none⟩=some u:=by
 obtain⟨d,⟨a,g,rfl,C,D,E,F⟩,q⟩:=h;refine⟨a,g,rfl,C,E,D,fun k e z=>?_⟩;have G:∀c∈d,c.length=7:=fun c r=>by
  obtain⟨i,A,rfl⟩:=List.mem_iff_getElem.1 r;have t:i<l.length:=by rw[<-q.1];exact A
  exact nZ (q.2 i d[i] l[i] (List.getElem?_eq_getElem A) (List.getElem?_eq_getElem t))
 have n:k<d.length:=by rw[q.1];exact(List.getElem?_eq_some_iff.1 z).1
 have p:=q.2 k _ e (List.getElem?_eq_getElem n) z;have B:=fun j u x=>eU 7 d k j _ u G (List.getElem?_eq_getElem n) x
 obtain⟨b,o,rfl,r⟩:=F (by
  intro H;have I:(d[k])[0]? = some ((d[k])[0]'(by rw[nZ p];omega)):=List.getElem?_eq_getElem _;have:=B 0 _ I;rw[H]at this;simp at this)
 refine⟨b,o,d[k],rfl,p,fun j u x=>?_⟩;have:=r _ _ (B j u x)
 rwa [Nat.add_assoc,Nat.mul_comm k 7]
theorem zg {S O R O' R':Nat->Prop} {f x:Value} {m:Fs} (hf:IsFs S O R w f m) (a:IsRef O' R' w x m) (l:OkM m) (ht:m.time<=4000000) (cq:m.users.length<=90000) :
  Calls Tryz.prog 23 #[f,x] w fun e w'=>e=.returned (.bool true)/\Ext w w':=by
 obtain⟨Y,Z,gf,rfl⟩:=hf.CP;obtain⟨gx,rfl⟩:=a.ptr;have HF:Hid _:=hf;have HX:Hid _:=a;have HR:Hid _:=Y;have HS:Hid _:=Z;have bt:Hid _:=l;have ad:=gg l (by omega);have au:Hid _:=ad;have cs:=l.BY;have ct:=l.Ca;have cu:=l.B6;obtain⟨U,hU⟩:∃U,cw m.now=U:=⟨_,rfl⟩;have HU:Hid _:=hU;clear hf a Y Z l ad hU;go_enter Tryz.func23,Tryz.ntmps23;go_wp2_with fail;go_at_call 58;refine(ld HF.out).mono ?_;rintro e w1 ⟨rfl,rfl⟩;go_wp2_with fail;go_at_call 59;refine(um HX.out).mono ?_;rintro e w1 ⟨rfl,rfl⟩;go_wp2_with fail;go_at_call 60;refine(zQ HF.out).mono ?_;rintro e w1 ⟨rfl,rfl⟩;go_wp2_with fail;go_at_call 61;refine(yp HX.out).mono ?_;rintro e w1 ⟨rfl,rfl⟩;go_wp2_with fail;go_at_call 62;refine(qv HF.out (by have:=au.out;omega)).mono ?_;rw[HU.out];rintro e w1 ⟨rfl,B⟩;go_wp2_with fail;go_at_call 63;refine(un (IsRef.ext HX.out B) (by have:=au.out;omega)).mono ?_;rw[HU.out];rintro e w2 ⟨rfl,a0⟩;have g:=B.trans a0;have q:Hid _:=IsFs.ext HF.out g;have r:Hid _:=IsRef.ext HX.out g;go_wp2_with fail;go_at_call 64;refine(rN q.out bt.out (by omega)).mono ?_;rintro e w3 ⟨rfl,rfl⟩;go_wp2_with fail;go_at_call 65;refine(rf r.out (by omega)).mono ?_;rintro e w3 ⟨rfl,rfl⟩;go_wp2_with fail;go_at_call 66;refine(AJ q.out).mono ?_;rintro e w3 ⟨rfl,rfl⟩;go_wp2_with fail;go_at_call 67;refine(Af r.out).mono ?_;rintro e w3 ⟨rfl,rfl⟩;go_wp2_with fail;go_at_call 15;refine(ll q.out (by omega)).mono ?_;rintro e w4 ⟨⟨v1,rfl,a5⟩,C⟩;have D:=uN a5 (by omega);obtain⟨a1,c1,rfl,l1,l2,l3,-⟩:=D.get;have a6:Hid _:=D;clear a5 D;go_wp2_with fail;go_at_call 68;refine(ul (IsRef.ext r.out C) (by omega)).mono ?_;rintro e w5 ⟨⟨v2,rfl,F⟩,t⟩;obtain⟨a2,c2,rfl,-⟩:=F.get;have bx:Hid _:=F;clear F;go_wp2_with fail;go_at_call 25;refine(ib _ _ _ _ _ (IsStrs.ext a6.out t) bx.out).mono ?_;rw[show(aG m.now==aG m.now)=true by simp];rintro e w6 ⟨rfl,G⟩;have h:=(C.trans t).trans G;have a7:Hid _:=IsFs.ext q.out h;have a8:Hid _:=IsRef.ext r.out h;have bS:Hid _:=IsStrs.ext (IsStrs.ext a6.out t) G;have H:(aG m.now).length=m.now.length:=by simp[aG]
 have I:Hid _:=H;rw[H]at l1 l2 ⊢;have A:=g.trans h;have a9:Hid _:=A;clear H C t G h B a0 g A;go_wp2_with fail;go_loopw [6] (fun i wr=>∃k:Nat,k<=m.now.length/\i=.int .i64 k/\Ext w6 wr) (fun i _=>m.now.length - (intOf i).toNat)
 case atStart=>exact⟨0,Nat.zero_le _,rfl,Ext.refl _⟩
 case round =>
  obtain⟨k,hk,rfl,a⟩:=hrel
  by_cases J:k<m.now.length
  .obtain ⟨p,hp⟩:∃p,(aG m.now)[k]? = some p:=⟨_,List.getElem?_eq_getElem (by rw[I.out];exact J)⟩;obtain⟨b,K⟩:=xf hp;obtain⟨_,_,he,-,-,-,hg⟩:=(IsStrs.ext bS.out a).get;cases he;obtain⟨bb,oo,rfl,hc⟩:=hg k (by rw[I.out];exact J);have y1:=hc k (by rw[I.out];exact J);rw[show(aG m.now).getD k []=p by rw[List.getD_eq_getElem?_getD,hp];rfl]at y1;have b0:p.length<=10000000:=HS.out _ (List.mem_of_getElem? K);have a':Hid _:=Aw HR.out K;have HA:Hid _:=IsFs.ext a7.out a;have HB:Hid _:=IsRef.ext a8.out a;clear hp K hg hc;go_wp2_with fail;go_at_call 18;refine(qD p HA.out b0).mono ?_;rw[a'.out];rintro e w7 ⟨⟨u1,rfl,L⟩,c⟩;obtain⟨s1,t1,rfl,-⟩:=id L.bytes;have b1:Hid _:=L;have b2:Hid _:=IsRef.ext HB.out c;have y2:=c.cell y1;clear L;dsimp only;go_upto_region 10 with fail
   obtain⟨T,u⟩:∃T,T=w7.alloc (.cells #[.int .i64 b.mode,.slice s1 b.data.length t1,.int .i64 b.time] 56):=⟨_,rfl⟩;rw[<-u];have d:Ext w7 T:=by rw[u];exact(Ext.refl _).alloc _
   have bd:T.heap[w7.heap.size]? = some (.cells #[.int .i64 b.mode,.slice s1 b.data.length t1,.int .i64 b.time] 56 (0,0)):=by rw[u];exact ab _ _
   have y3:=d.cell y2;clear u;go_wp2_with fail;go_at_call 69;refine(pD p (IsRef.ext b2.out d)).mono ?_;rw[a'.out];rintro e w9 ⟨⟨u2,rfl,M⟩,N⟩;obtain⟨s2,t2,rfl,-⟩:=id M.bytes;have b3:Hid _:=M;have bh:=N.row bd;clear M bd;dsimp only;go_upto_region 11 with fail;obtain⟨V,y⟩:∃V,V=w9.alloc (.cells #[.int .i64 b.mode,.slice s2 b.data.length t2,.int .i64 b.time] 114):=⟨_,rfl⟩;rw[<-y];have z:Ext w9 V:=by rw[y];exact(Ext.refl _).alloc _
   have bk:V.heap[w9.heap.size]? = some (.cells #[.int .i64 b.mode,.slice s2 b.data.length t2,.int .i64 b.time] 114 (0,0)):=by rw[y];exact ab _ _
   have bl:=z.row bh;obtain⟨x0,x1,x2⟩:=bE bl;obtain⟨z0,z1,z2⟩:=bE bk;have o:=(d.trans N).trans z;have b6:Hid (IsBytes V (.slice s1 b.data.length t1) b.data):=(IsData.ext b1.out o).bytes;have b7:Hid (IsBytes V (.slice s2 b.data.length t2) b.data):=(IsData.ext b3.out z).bytes;have b8:Hid _:=(a.trans c).trans o;clear y bh bk bl o z N d c y1 y2 y3;go_wp2_with fail;go_at_call 70;refine(vX b _ _ _ b6.out b7.out).mono ?_;rintro e wb ⟨rfl,b'⟩;go_wp2;go_roundw
   case rel=>exact⟨k+1,by omega,by go_num,Ext.trans b8.out b'⟩
   case measure=>simp[intOf];omega
  .have HA:Hid _:=IsFs.ext a7.out a;have HB:Hid _:=IsRef.ext a8.out a;have ca:Hid _:=Ext.trans a9.out a;clear a;go_wp2_with fail;go_at_call 71;refine(xT HA.out (by omega)).mono ?_;rintro e w7 ⟨⟨v3,rfl,bo⟩,c⟩;have P:=(OwnE.Cv bo (by omega)).read;obtain⟨a3,c3,rfl,q1,q2,q3,-⟩:=jI P;have cb:Hid _:=P;clear bo P;go_wp2_with fail;go_at_call 72;refine(vW (IsRef.ext HB.out c) (by omega)).mono ?_;rintro e T ⟨⟨v4,rfl,Q⟩,d⟩;obtain⟨a4,c4,rfl,r1,r2,r3,-⟩:=jI Q;have cc:Hid _:=Q;have ce:Hid _:=ReadB.ext cb.out d;have cl:Hid _:=Ext.trans (Ext.trans ca.out c) d;clear Q c d;go_wp2_with fail;go_loopw [13] (fun i wr=>∃k:Nat,k<=m.users.length/\i=.int .i64 k/\Ext T wr) (fun i _=>m.users.length - (intOf i).toNat)
   case atStart=>exact⟨0,Nat.zero_le _,rfl,Ext.refl _⟩
   case round =>
    obtain⟨n,hn,rfl,a⟩:=hrel
    by_cases bq:n<m.users.length
    .obtain ⟨E,he⟩:∃e,m.users[n]? = some e:=⟨_,List.getElem?_eq_getElem bq⟩;obtain⟨_,_,cm,-,-,-,g5⟩:=jI (ReadB.ext ce.out a);cases cm;obtain⟨_,_,cn,-,-,-,g4⟩:=jI (ReadB.ext cc.out a);cases cn;obtain⟨b5,o5,cv,rfl,⟨d5,rfl,br,-⟩,W⟩:=g5 n E he;obtain⟨b4,o4,cx,rfl,⟨d4,rfl,bs,-⟩,X⟩:=g4 n E he;have x0:=W 0 _ rfl;have x1:=W 1 _ rfl;have x2:=W 2 _ rfl;have x5:=W 5 _ rfl;have x6:=W 6 _ rfl;have y0:=X 0 _ rfl;have y1:=X 1 _ rfl;have y2:=X 2 _ rfl;have y5:=X 5 _ rfl;have y6:=X 6 _ rfl;simp only[Nat.add_zero]at x0 y0;have co:Hid (∀j,Calls Tryz.prog 31 #[d5,d4] (wr.drewN j) fun e w'=>e=.returned (.bool true)/\w'=wr.drewN j):=fun j=>by
      have:=cD d5 d4 E.data E.data (wr.drewN j) (IsBytes.ext br (Ext.drawn _ _)) (IsBytes.ext bs (Ext.drawn _ _))
      rwa [show(E.data==E.data)=true by simp]at this
     have cp:Hid _:=a;clear br bs W X g5 g4 he a;go_upto_region 19 with fail;go_quiet (first | (go_at_call 31;exact Calls.quiet_of_same (co.out _)));go_wp2;go_roundw
     case rel=>exact⟨n+1,by omega,by go_num,Ext.trans cp.out (Ext.drawn _ _)⟩
     case measure=>simp[intOf];omega
    .go_wp2;go_ret;exact⟨rfl,Ext.trans cl.out a⟩
end
section
open Go Go.RowKit
def eM (m:Fs) (x:Mop):Fs :=
 if x.kind=0 then(bM m x.b).1
 else if x.kind=1 then(dd m x.o).1
 else if x.kind=2\/x.kind=3\/x.kind=4 then(bB m x.id).1
 else if x.kind=5 then(aY m).1
 else if x.kind=6 then(du m x.id).1
 else if x.kind=7 then(dZ m).1
 else fC m x.f
def fO (n:Int) (x:Mop):Int :=
 if x.kind=0 then fw n x.b
 else if x.kind=1 then fM n x.o
 else if x.kind=2\/x.kind=3\/x.kind=4 then ch n x.id
 else n
theorem Ax (n:Int) (x:Mop):n<=fO n x/\fO n x<=n+1:=by
 unfold fO fM fw ch
 repeat' split
 all_goals omega
variable {n k:Nat} {m:Fs}
theorem Good.up (h:Good n m) (a:n<=k):Good k m:=Good.mono h a
theorem xg (h:Good n m) (id:B8):Good (n+1) (bB m id).1:=by
 have a:=eC h (ar id);unfold bB;split
 .exact h.up (by omega)
 .split
  .exact a
  .split
   iterate 2
    .exact a
theorem sJ (m:Fs):(aY m).1=(aB m).1:=by
 unfold aY;split <;> exact mQ ..
variable {x:Mop}
theorem uO (h:Good n m) (a:jR x.f):Good (n+3) (eM m x):=by
 unfold eM;split
 .exact ie h x.b
 .split
  .unfold dd;split
   .exact h.up (by omega)
   .exact ie h _
  .split
   .exact (xg h x.id).up (by omega)
   .split
    .rw [sJ];exact(py h).up (by omega)
    .split
     .unfold du;split
      .exact h.up (by omega)
      .exact (mq h _).up (by omega)
     .split
      .unfold dZ;split
       iterate 2
        .exact (mq h _).up (by omega)
      .exact (vH h a).up (by omega)
variable {w0 w:World} {gs gc gy:Nat}
theorem Tw.cast {K:List (Nat×Obj)} [Inhabited bc] [g:Inhabited cT] {f x:Value} {m1 a:Fs} {b c:Int} (h:Tw w0 K w f x gs gc gy m1 m1 b b) (d:a=m1) (e:c=b):Tw w0 K w f x gs gc gy a a c c:=by rw[d,e];exact h
variable [Inhabited bc] [KW:Inhabited cT]
theorem xh (cv:∀k,cL k=none) {W xv:Value} {n:Int} {cs:List Value} (hT:Tw w0 [] w W xv gs gc gy m m n n) (hB:Ext ci w0) (hE:Env w0) (cx:EnvS w0) (hg:Good k m) (Z:k<=9000) (a2:0<=n) (ea:n<=90000)
  (ho:IsMop w0 cs x) (ce:iy x.o) (hid:x.id.length<=400) (cl:dm x.o) (cm:jR x.f) :
  Calls Tryz.prog 10 #[W,xv,.pointer (some ⟨gs,0,none⟩),.pointer (some ⟨gy,0,none⟩),.agg cs.toArray] w fun e l=>e=.returned (.bool true)/\Tw w0 [] l W xv gs gc gy (eM m x) (eM m x) (fO n x) (fO n x):=by
 obtain⟨i,b,a,id,g⟩:=x;dsimp only at ce hid cl cm;obtain⟨vb,vd,vi,vp,fs,rfl,o1,o2,o3,o4,o5⟩:=ho;have O5:Hid (IsOpn w0 fs g):=o5;have O1:Hid (OldB vb b):=o1;obtain⟨L,M,rfl,-⟩:=_root_.id o1.bytes;obtain⟨N,P,rfl,-⟩:=_root_.id o2;obtain⟨Q,T,rfl,-⟩:=_root_.id o3;obtain⟨U,V,rfl,-⟩:=_root_.id o4;obtain⟨ve,vl,rfl,hd,cn⟩:=_root_.id o5;obtain⟨d1,d2,rfl,-⟩:=_root_.id hd.bytes;obtain⟨_,⟨q1,q2,rfl,-⟩,-⟩:=_root_.id cn;dsimp only at o1 o2 o3 o4 hd cn O1 O5;have c0:b.length<=140737488355328:=o1.bytes.len;have dn:Hid (IsOb w0 (obV a (.slice N a.data.length P) (.slice Q a.items.length T) (.slice U a.parents.length V)) a):=⟨_,_,_,rfl,o2,o3,o4⟩;have HE:Hid (Env w0):=hE;have bb:Hid (EnvS w0):=cx;have HG:Hid (Good k m):=hg;have y:Hid (∀k,cL k=none):=cv;have HB:Hid (Ext ci w0):=hB;have c2:Hid (dm a):=cl;have dq:Hid (iy a):=ce;have ds:Hid (jR g):=cm;clear o1 o2 o3 o4 o5 hd cn hE cx hg cv hB cl ce cm;obtain⟨I,b7⟩:∃I,I=w.alloc (.cells #[.int .i64 i,.slice L b.length M,.int .i64 a.kind,.slice N a.data.length P,.slice Q a.items.length T,S8 a.tree,.slice U a.parents.length V,.int .i64 a.BL,.int .i64 a.I,S8 a.msg,S8 id,.int .i64 g.kind,.int .i64 g.mode,.int .i64 g.keep,.int .i64 g.BN,S8 g.path,S8 g.dest,.slice d1 g.data.length d2,.slice q1 g.plan.length q2] 46):=⟨_,rfl⟩;have c3:Ext w I:=by rw[b7];exact(Ext.refl _).alloc _
 have c4:I.heap[w.heap.size]? = some (.cells #[.int .i64 i,.slice L b.length M,.int .i64 a.kind,.slice N a.data.length P,.slice Q a.items.length T,S8 a.tree,.slice U a.parents.length V,.int .i64 a.BL,.int .i64 a.I,S8 a.msg,S8 id,.int .i64 g.kind,.int .i64 g.mode,.int .i64 g.keep,.int .i64 g.BN,S8 g.path,S8 g.dest,.slice d1 g.data.length d2,.slice q1 g.plan.length q2] 46 (0,0)):=by rw[b7];exact ab _ _
 obtain⟨o,co⟩:∃g,w.heap.size=g:=⟨_,rfl⟩;have t:Hid (Tw w0 [(o,.cells #[.int .i64 i,.slice L b.length M,.int .i64 a.kind,.slice N a.data.length P,.slice Q a.items.length T,S8 a.tree,.slice U a.parents.length V,.int .i64 a.BL,.int .i64 a.I,S8 a.msg,S8 id,.int .i64 g.kind,.int .i64 g.mode,.int .i64 g.keep,.int .i64 g.BN,S8 g.path,S8 g.dest,.slice d1 g.data.length d2,.slice q1 g.plan.length q2] 46 (0,0))] I W xv gs gc gy m m n n):=hT.new c3 (Nat.le_of_eq co) (by rw[<-co];exact c4);clear hT c3 c4;go_enter Tryz.func10,Tryz.ntmps10;go_upto_region 1 with fail;rw[<-b7];clear b7 co;have z0:=(cell_of_row _ _ 0 _ _ _ t.out.row).trans rfl
 by_cases h0:i=0
 .as_aux_lemma =>
  subst h0;have B:Hid (eM m ⟨0,b,a,id,g⟩=(bM m b).1):=if_pos rfl;have C:Hid (fO n ⟨0,b,a,id,g⟩=(fw n b)):=if_pos rfl;have a7:Hid (∀l,Ext w0 l->IsBytes l (.slice L b.length M) b):=fun l hx=>IsBytes.ext (O1.out.bytes.ext HB.out) hx
  have z1:I.cell? ⟨o,1,none⟩=some (.slice L b.length M):=(cell_of_row _ _ 1 _ _ _ t.out.row).trans rfl;obtain⟨⟨G,hs,er⟩,d⟩:∃q,bM m b=q:=⟨_,rfl⟩;have HQ:Hid _:=d;clear d;go_wp2_with fail;go_at_call 29;refine(ij _ b I (a7.out _ t.out.ext)).mono ?_;rintro ex w1 ⟨⟨c5,rfl,bd⟩,c6⟩;have c7:Hid (Tw w0 [(o,.cells #[.int .i64 0,.slice L b.length M,.int .i64 a.kind,.slice N a.data.length P,.slice Q a.items.length T,S8 a.tree,.slice U a.parents.length V,.int .i64 a.BL,.int .i64 a.I,S8 a.msg,S8 id,.int .i64 g.kind,.int .i64 g.mode,.int .i64 g.keep,.int .i64 g.BN,S8 g.path,S8 g.dest,.slice d1 g.data.length d2,.slice q1 g.plan.length q2] 46 (0,0))] w1 W xv gs gc gy m m n n):=t.out.more c6;have a8:Hid (IsBytes w1 c5 b/\TypB w1 c5):=⟨by unfold IsBytes;exact Row.BM bd (by omega),TypB.BM bd⟩;obtain⟨a1,c1,rfl,-⟩:=_root_.id a8.out.1;clear bd c6 z0 z1 t;have D:Hid _:=Tw.prog y.out HE.out c7.out (F:=24) (args:=#[.pointer (some ⟨gs,0,none⟩),.slice a1 b.length c1]) (R:=fun e l=>e=.returned (.tuple #[S8 hs,.int .i64 er])) (m':=G) (n':=fw n b) (fun K S b8 p=>(iu (KW:=K) _ b p HE.out bb.out HG.out (by omega) a2 (by omega) (.inr a8.out) c0).mono (by
   rw[HQ.out];rintro e l ⟨H,n',he,hn,ad⟩;subst hn;exact⟨H,he,ad⟩))
  go_wp2_with fail;go_at_call 24;refine Calls.mono D.out ?_;rintro ex A ⟨rfl,r,bh⟩;have j:Hid (Tw w0 [(o,.cells #[.int .i64 0,.slice L b.length M,.int .i64 a.kind,.slice N a.data.length P,.slice Q a.items.length T,S8 a.tree,.slice U a.parents.length V,.int .i64 a.BL,.int .i64 a.I,S8 a.msg,S8 id,.int .i64 g.kind,.int .i64 g.mode,.int .i64 g.keep,.int .i64 g.BN,S8 g.path,S8 g.dest,.slice d1 g.data.length d2,.slice q1 g.plan.length q2] 46 (0,0))] A W xv gs gc gy G m (fw n b) n):=r;have bk:Hid (IsBytes A (.slice a1 b.length c1) b/\TypB A (.slice a1 b.length c1)):=⟨Row.B2 a8.out.1 a8.out.2 bh,a8.out.2.keep bh⟩;have z1:A.cell? ⟨o,1,none⟩=some (.slice L b.length M):=(cell_of_row _ _ 1 _ _ _ j.out.row).trans rfl;clear r bh c7 a8 D;have D:Hid _:=Tw.doc y.out j.out (F:=30) (args:=#[.pointer (some ⟨gy,0,none⟩),.slice L b.length M]) (R:=fun e l=>e=.returned (.tuple #[S8 hs,.int .i64 er])) (m':=G) (n':=fw n b) (fun H p=>by
   have X:=ry (.slice L b.length M) b p HG.out (by omega) (.inl (a7.out w0 (Ext.refl _))) c0 a2 (by omega);rw[HQ.out]at X;exact X)
  go_wp2_with fail;go_at_call 30;refine Calls.mono D.out ?_;rintro ex w3 ⟨rfl,au,cc,-,-⟩;have E:Hid (Tw w0 [(o,.cells #[.int .i64 0,.slice L b.length M,.int .i64 a.kind,.slice N a.data.length P,.slice Q a.items.length T,S8 a.tree,.slice U a.parents.length V,.int .i64 a.BL,.int .i64 a.I,S8 a.msg,S8 id,.int .i64 g.kind,.int .i64 g.mode,.int .i64 g.keep,.int .i64 g.BN,S8 g.path,S8 g.dest,.slice d1 g.data.length d2,.slice q1 g.plan.length q2] 46 (0,0))] w3 W xv gs gc gy G G (fw n b) (fw n b)):=au;have c8:Hid (IsBytes w3 (.slice a1 b.length c1) b):=Row.B2 bk.out.1 bk.out.2 cc;have z1:w3.cell? ⟨o,1,none⟩=some (.slice L b.length M):=(cell_of_row _ _ 1 _ _ _ E.out.row).trans rfl;clear au cc j bk D;have th:=tl hs;have bl:(er==er)=true:=by simp
  go_wp2_with fail;go_at_call 31;refine(cD _ _ b b w3 c8.out (a7.out w3 E.out.ext)).mono ?_;rw[show(b==b)=true from by simp];rintro ex w4 ⟨rfl,bo⟩;rw[bo];clear bo;go_wp2;go_ret;exact⟨rfl,Tw.cast (by rw[HQ.out];exact E.out.drop) B.out C.out⟩
 by_cases h1:i=1
 .as_aux_lemma =>
  subst h1;have B:Hid (eM m ⟨1,b,a,id,g⟩=(dd m a).1):=(if_neg h0).trans (if_pos rfl);have C:Hid (fO n ⟨1,b,a,id,g⟩=(fM n a)):=(if_neg h0).trans (if_pos rfl);have a7:Hid (∀l,Ext w0 l->IsOb l (obV a (.slice N a.data.length P) (.slice Q a.items.length T) (.slice U a.parents.length V)) a):=fun l hx=>IsOb.ext dn.out hx
  have z2:I.cell? ⟨o,2,none⟩=some (.int .i64 a.kind):=(cell_of_row _ _ 2 _ _ _ t.out.row).trans rfl;have z3:I.cell? ⟨o,3,none⟩=some (.slice N a.data.length P):=(cell_of_row _ _ 3 _ _ _ t.out.row).trans rfl;have z4:I.cell? ⟨o,4,none⟩=some (.slice Q a.items.length T):=(cell_of_row _ _ 4 _ _ _ t.out.row).trans rfl;have z5:I.cell? ⟨o,5,none⟩=some (S8 a.tree):=(cell_of_row _ _ 5 _ _ _ t.out.row).trans rfl;have z6:I.cell? ⟨o,6,none⟩=some (.slice U a.parents.length V):=(cell_of_row _ _ 6 _ _ _ t.out.row).trans rfl;have z7:I.cell? ⟨o,7,none⟩=some (.int .i64 a.BL):=(cell_of_row _ _ 7 _ _ _ t.out.row).trans rfl;have z8:I.cell? ⟨o,8,none⟩=some (.int .i64 a.I):=(cell_of_row _ _ 8 _ _ _ t.out.row).trans rfl;have z9:I.cell? ⟨o,9,none⟩=some (S8 a.msg):=(cell_of_row _ _ 9 _ _ _ t.out.row).trans rfl;have d0:Hid (IsOb I (obV a (.slice N a.data.length P) (.slice Q a.items.length T) (.slice U a.parents.length V)) a):=a7.out I t.out.ext;obtain⟨⟨G,hs,er⟩,d⟩:∃q,dd m a=q:=⟨_,rfl⟩;have HQ:Hid _:=d;clear d;have D:Hid _:=Tw.prog y.out HE.out t.out (F:=32) (args:=#[.pointer (some ⟨gs,0,none⟩),.agg #[.int .i64 a.kind,.slice N a.data.length P,.slice Q a.items.length T,S8 a.tree,.slice U a.parents.length V,.int .i64 a.BL,.int .i64 a.I,S8 a.msg]]) (R:=fun e l=>e=.returned (.tuple #[S8 hs,.int .i64 er])) (m':=G) (n':=fM n a) (fun K S b8 p=>(mZ (KW:=K) _ a p HE.out bb.out HG.out (by omega) a2 (by omega) d0.out c2.out).mono (by
   rw[HQ.out];rintro e l ⟨H,n',he,hn,ad⟩;subst hn;exact⟨H,he,ad⟩))
  go_wp2_with fail;go_at_call 32;refine Calls.mono D.out ?_;rintro ex A ⟨rfl,r,-⟩;have j:Hid (Tw w0 [(o,.cells #[.int .i64 1,.slice L b.length M,.int .i64 a.kind,.slice N a.data.length P,.slice Q a.items.length T,S8 a.tree,.slice U a.parents.length V,.int .i64 a.BL,.int .i64 a.I,S8 a.msg,S8 id,.int .i64 g.kind,.int .i64 g.mode,.int .i64 g.keep,.int .i64 g.BN,S8 g.path,S8 g.dest,.slice d1 g.data.length d2,.slice q1 g.plan.length q2] 46 (0,0))] A W xv gs gc gy G m (fM n a) n):=r;clear r z0 z2 z3 z4 z5 z6 z7 z8 z9 t D;have z2:A.cell? ⟨o,2,none⟩=some (.int .i64 a.kind):=(cell_of_row _ _ 2 _ _ _ j.out.row).trans rfl;have z3:A.cell? ⟨o,3,none⟩=some (.slice N a.data.length P):=(cell_of_row _ _ 3 _ _ _ j.out.row).trans rfl;have z4:A.cell? ⟨o,4,none⟩=some (.slice Q a.items.length T):=(cell_of_row _ _ 4 _ _ _ j.out.row).trans rfl;have z5:A.cell? ⟨o,5,none⟩=some (S8 a.tree):=(cell_of_row _ _ 5 _ _ _ j.out.row).trans rfl;have z6:A.cell? ⟨o,6,none⟩=some (.slice U a.parents.length V):=(cell_of_row _ _ 6 _ _ _ j.out.row).trans rfl;have z7:A.cell? ⟨o,7,none⟩=some (.int .i64 a.BL):=(cell_of_row _ _ 7 _ _ _ j.out.row).trans rfl;have z8:A.cell? ⟨o,8,none⟩=some (.int .i64 a.I):=(cell_of_row _ _ 8 _ _ _ j.out.row).trans rfl;have z9:A.cell? ⟨o,9,none⟩=some (S8 a.msg):=(cell_of_row _ _ 9 _ _ _ j.out.row).trans rfl;go_wp2_with fail;go_at_call 34;refine(nW _ a A (a7.out A j.out.ext) (by have:=dq.out.items;omega)).mono ?_;rintro ex w3 ⟨⟨u,rfl,hu⟩,a9⟩;have E:Hid (Tw w0 [(o,.cells #[.int .i64 1,.slice L b.length M,.int .i64 a.kind,.slice N a.data.length P,.slice Q a.items.length T,S8 a.tree,.slice U a.parents.length V,.int .i64 a.BL,.int .i64 a.I,S8 a.msg,S8 id,.int .i64 g.kind,.int .i64 g.mode,.int .i64 g.keep,.int .i64 g.BN,S8 g.path,S8 g.dest,.slice d1 g.data.length d2,.slice q1 g.plan.length q2] 46 (0,0))] w3 W xv gs gc gy G m (fM n a) n):=j.out.more a9;have HU:Hid (IsOb w3 u a):=hu;clear hu a9 z2 z3 z4 z5 z6 z7 z8 z9 j;have D:Hid _:=Tw.doc y.out E.out (F:=33) (args:=#[.pointer (some ⟨gy,0,none⟩),u]) (R:=fun e l=>e=.returned (.tuple #[S8 hs,.int .i64 er])) (m':=G) (n':=fM n a) (fun H p=>by
   have X:=so u a p HG.out (by omega) HU.out c2.out a2 (by omega);rw[HQ.out]at X;exact X)
  go_wp2_with fail;go_at_call 33;refine Calls.mono D.out ?_;rintro ex w4 ⟨rfl,bq,-,-,-⟩;have cp:Hid (Tw w0 [(o,.cells #[.int .i64 1,.slice L b.length M,.int .i64 a.kind,.slice N a.data.length P,.slice Q a.items.length T,S8 a.tree,.slice U a.parents.length V,.int .i64 a.BL,.int .i64 a.I,S8 a.msg,S8 id,.int .i64 g.kind,.int .i64 g.mode,.int .i64 g.keep,.int .i64 g.BN,S8 g.path,S8 g.dest,.slice d1 g.data.length d2,.slice q1 g.plan.length q2] 46 (0,0))] w4 W xv gs gc gy G G (fM n a) (fM n a)):=bq;clear bq E D;have th:=tl hs;have bl:(er==er)=true:=by simp
  go_wp2;go_ret;exact⟨rfl,Tw.cast (by rw[HQ.out];exact cp.out.drop) B.out C.out⟩
 by_cases h2:i=2
 .as_aux_lemma =>
  subst h2;have B:Hid (eM m ⟨2,b,a,id,g⟩=(bB m id).1):=(if_neg h0).trans ((if_neg h1).trans (if_pos (.inl rfl)));have C:Hid (fO n ⟨2,b,a,id,g⟩=(ch n id)):=(if_neg h0).trans ((if_neg h1).trans (if_pos (.inl rfl)));have a0:I.cell? ⟨o,10,none⟩=some (S8 id):=(cell_of_row _ _ 10 _ _ _ t.out.row).trans rfl;have b':Hid ((bB m id).2.1.length<=10000000):=ru HG.out id;obtain⟨⟨G,bs,er⟩,d⟩:∃q,bB m id=q:=⟨_,rfl⟩;have HQ:Hid _:=d;rw[d]at b';clear d;have D:Hid _:=Tw.prog y.out HE.out t.out (F:=35) (args:=#[.pointer (some ⟨gs,0,none⟩),S8 id]) (R:=fun e l=>∃v,e=.returned (.tuple #[v,.int .i64 er])/\IsBytes l v bs/\TypB l v) (m':=G) (n':=ch n id) (fun K S b8 p=>(ji (KW:=K) id p HE.out bb.out HG.out (by omega) a2 (by omega) (by omega)).mono (by
   rw[HQ.out];rintro e l ⟨v,H,n',he,hv,-,hn,ad⟩;subst hn;exact⟨H,⟨v,he,hv⟩,ad⟩))
  go_wp2_with fail;go_at_call 35;refine Calls.mono D.out ?_;rintro ex A ⟨⟨v,rfl,hv,br⟩,r,-⟩;have j:Hid (Tw w0 [(o,.cells #[.int .i64 2,.slice L b.length M,.int .i64 a.kind,.slice N a.data.length P,.slice Q a.items.length T,S8 a.tree,.slice U a.parents.length V,.int .i64 a.BL,.int .i64 a.I,S8 a.msg,S8 id,.int .i64 g.kind,.int .i64 g.mode,.int .i64 g.keep,.int .i64 g.BN,S8 g.path,S8 g.dest,.slice d1 g.data.length d2,.slice q1 g.plan.length q2] 46 (0,0))] A W xv gs gc gy G m (ch n id) n):=r;have HV:Hid (IsBytes A v bs/\TypB A v):=⟨hv,br⟩;clear r hv br z0 a0 t D;have a0:A.cell? ⟨o,10,none⟩=some (S8 id):=(cell_of_row _ _ 10 _ _ _ j.out.row).trans rfl;have D:Hid _:=Tw.doc y.out j.out (F:=36) (args:=#[.pointer (some ⟨gy,0,none⟩),S8 id]) (R:=fun e l=>∃v,e=.returned (.tuple #[v,.int .i64 er])/\IsBytes l v bs/\TypB l v) (m':=G) (n':=ch n id) (fun H p=>by
   have X:=m5 id p HG.out (by omega) (by omega) a2 (by omega);rw[HQ.out]at X;exact X)
  go_wp2_with fail;go_at_call 36;refine Calls.mono D.out ?_;rintro ex w3 ⟨⟨u,rfl,hu,-⟩,au,bt,-,-⟩;have E:Hid (Tw w0 [(o,.cells #[.int .i64 2,.slice L b.length M,.int .i64 a.kind,.slice N a.data.length P,.slice Q a.items.length T,S8 a.tree,.slice U a.parents.length V,.int .i64 a.BL,.int .i64 a.I,S8 a.msg,S8 id,.int .i64 g.kind,.int .i64 g.mode,.int .i64 g.keep,.int .i64 g.BN,S8 g.path,S8 g.dest,.slice d1 g.data.length d2,.slice q1 g.plan.length q2] 46 (0,0))] w3 W xv gs gc gy G G (ch n id) (ch n id)):=au;have a':Hid (IsBytes w3 v bs):=Row.B2 HV.out.1 HV.out.2 bt;have HU:Hid (IsBytes w3 u bs):=hu;clear au hu bt j D HV a0;have bl:(er==er)=true:=by simp
  go_wp2_with fail;go_at_call 31;refine(cD _ _ bs bs w3 a'.out HU.out).mono ?_;rw[show(bs==bs)=true from by simp];rintro ex w4 ⟨rfl,bo⟩;rw[bo];clear bo;go_wp2;go_ret;exact⟨rfl,Tw.cast (by rw[HQ.out];exact E.out.drop) B.out C.out⟩
 by_cases h3:i=3
 .as_aux_lemma =>
  subst h3;have B:Hid (eM m ⟨3,b,a,id,g⟩=(bB m id).1):=(if_neg h0).trans ((if_neg h1).trans (if_pos (.inr (.inl rfl))));have C:Hid (fO n ⟨3,b,a,id,g⟩=(ch n id)):=(if_neg h0).trans ((if_neg h1).trans (if_pos (.inr (.inl rfl))));have a0:I.cell? ⟨o,10,none⟩=some (S8 id):=(cell_of_row _ _ 10 _ _ _ t.out.row).trans rfl;have b':Hid ((bB m id).2.1.length<=10000000):=ru HG.out id;obtain⟨⟨c,eo⟩,d⟩:∃q,gu m id=q:=⟨_,rfl⟩;have d3:Hid (c.items.length<=1000000):=by
   have X:=su m id;rw[d]at X;exact X
  have HQ:Hid _:=d;clear d;obtain⟨⟨S,O,H,bx⟩,-⟩:(Tw w0 [(o,.cells #[.int .i64 3,.slice L b.length M,.int .i64 a.kind,.slice N a.data.length P,.slice Q a.items.length T,S8 a.tree,.slice U a.parents.length V,.int .i64 a.BL,.int .i64 a.I,S8 a.msg,S8 id,.int .i64 g.kind,.int .i64 g.mode,.int .i64 g.keep,.int .i64 g.BN,S8 g.path,S8 g.dest,.slice d1 g.data.length d2,.slice q1 g.plan.length q2] 46 (0,0))] I W xv gs gc gy m m n n)/\True:=⟨t.out,trivial⟩;have D:Hid (Calls Tryz.prog 37 #[.pointer (some ⟨gs,0,none⟩),S8 id] I fun e l=>(∃u,e=.returned (.tuple #[u,.int .i64 eo])/\IsObT l u c)/\Tw w0 [(o,.cells #[.int .i64 3,.slice L b.length M,.int .i64 a.kind,.slice N a.data.length P,.slice Q a.items.length T,S8 a.tree,.slice U a.parents.length V,.int .i64 a.BL,.int .i64 a.I,S8 a.msg,S8 id,.int .i64 g.kind,.int .i64 g.mode,.int .i64 g.keep,.int .i64 g.BN,S8 g.path,S8 g.dest,.slice d1 g.data.length d2,.slice q1 g.plan.length q2] 46 (0,0))] l W xv gs gc gy (bB m id).1 m (ch n id) n/\KeepB I l):=by
   have X:=sy y.out id bx.st HE.out bb.out HG.out (by omega) a2 (by omega) (by omega) b'.out;rw[HQ.out]at X;exact X.mono (by rintro e l ⟨hr,hp⟩;exact⟨hr,bx.C8 y.out hp⟩)
  clear bx;go_wp2_with fail;go_at_call 37;refine Calls.mono D.out ?_;rintro ex A ⟨⟨v,rfl,hv⟩,r,-⟩;obtain⟨vd,vi,vp,rfl,r1,r2,r3,r4,r5,r6⟩:=_root_.id hv;obtain⟨y1,y2,rfl,-⟩:=_root_.id r1;obtain⟨y3,y4,rfl,-⟩:=_root_.id r2;obtain⟨y5,y6,rfl,-⟩:=_root_.id r3;obtain⟨w3,bS⟩:∃w3,w3=A.alloc (.cells (obC c.kind (.slice y1 c.data.length y2) (.slice y3 c.items.length y4) c.tree (.slice y5 c.parents.length y6) c.BL c.I c.msg) 41):=⟨_,rfl⟩;have a9:Ext A w3:=by rw[bS];exact(Ext.refl _).alloc _
  have c9:w3.heap[A.heap.size]? = some (.cells (obC c.kind (.slice y1 c.data.length y2) (.slice y3 c.items.length y4) c.tree (.slice y5 c.parents.length y6) c.BL c.I c.msg) 41 (0,0)):=by rw[bS];exact ab _ _
  obtain⟨ga,ca⟩:∃g,A.heap.size=g:=⟨_,rfl⟩;have E:Hid (Tw w0 ((ga,.cells (obC c.kind (.slice y1 c.data.length y2) (.slice y3 c.items.length y4) c.tree (.slice y5 c.parents.length y6) c.BL c.I c.msg) 41 (0,0))::[(o,.cells #[.int .i64 3,.slice L b.length M,.int .i64 a.kind,.slice N a.data.length P,.slice Q a.items.length T,S8 a.tree,.slice U a.parents.length V,.int .i64 a.BL,.int .i64 a.I,S8 a.msg,S8 id,.int .i64 g.kind,.int .i64 g.mode,.int .i64 g.keep,.int .i64 g.BN,S8 g.path,S8 g.dest,.slice d1 g.data.length d2,.slice q1 g.plan.length q2] 46 (0,0))]) w3 W xv gs gc gy (bB m id).1 m (ch n id) n):=r.new a9 (Nat.le_of_eq ca) (by rw[<-ca];exact c9);have a':Hid (IsObT w3 (obV c (.slice y1 c.data.length y2) (.slice y3 c.items.length y4) (.slice y5 c.parents.length y6)) c):=IsObT.ext hv a9;unfold obC at bS;clear r hv r1 r2 r3 r4 r5 r6 a9 c9 z0 a0 t D;unfold obV;go_upto_region 17 with fail;rw[<-bS]
  try rw[ca]
  clear bS ca;have a0:w3.cell? ⟨o,10,none⟩=some (S8 id):=(cell_of_row _ _ 10 _ _ _ E.out.drop.row).trans rfl;have D:Hid _:=Tw.doc y.out E.out (F:=38) (args:=#[.pointer (some ⟨gy,0,none⟩),S8 id]) (R:=fun e l=>∃u,e=.returned (.tuple #[u,.int .i64 eo])/\IsOb l u c) (m':=(bB m id).1) (n':=ch n id) (fun H p=>by
   have X:=sF id p HG.out (by omega) (by omega) a2 (by omega) b'.out;rw[HQ.out]at X;exact X)
  go_wp2_with fail;go_at_call 38;refine Calls.mono D.out ?_;rintro ex w4 ⟨⟨u,rfl,hu⟩,bq,bt,c',b0⟩;obtain⟨vd,vi,vp,rfl,r1,r2,r3⟩:=_root_.id hu;obtain⟨x1,x2,rfl,-⟩:=_root_.id r1;obtain⟨x3,x4,rfl,-⟩:=_root_.id r2;obtain⟨x5,x6,rfl,-⟩:=_root_.id r3;have da:Hid (IsOb w4 (obV c (.slice y1 c.data.length y2) (.slice y3 c.items.length y4) (.slice y5 c.parents.length y6)) c):=IsObT.kept a'.out bt c' b0;obtain⟨w5,b3⟩:∃w5,w5=w4.alloc (.cells (obC c.kind (.slice x1 c.data.length x2) (.slice x3 c.items.length x4) c.tree (.slice x5 c.parents.length x6) c.BL c.I c.msg) 95):=⟨_,rfl⟩;have cb:Ext w4 w5:=by rw[b3];exact(Ext.refl _).alloc _
  have cq:w5.heap[w4.heap.size]? = some (.cells (obC c.kind (.slice x1 c.data.length x2) (.slice x3 c.items.length x4) c.tree (.slice x5 c.parents.length x6) c.BL c.I c.msg) 95 (0,0)):=by rw[b3];exact ab _ _
  obtain⟨gz,ct⟩:∃g,w4.heap.size=g:=⟨_,rfl⟩;rw[ct]at cq;have dc:Hid (Tw w0 ((ga,.cells (obC c.kind (.slice y1 c.data.length y2) (.slice y3 c.items.length y4) c.tree (.slice y5 c.parents.length y6) c.BL c.I c.msg) 41 (0,0))::[(o,.cells #[.int .i64 3,.slice L b.length M,.int .i64 a.kind,.slice N a.data.length P,.slice Q a.items.length T,S8 a.tree,.slice U a.parents.length V,.int .i64 a.BL,.int .i64 a.I,S8 a.msg,S8 id,.int .i64 g.kind,.int .i64 g.mode,.int .i64 g.keep,.int .i64 g.BN,S8 g.path,S8 g.dest,.slice d1 g.data.length d2,.slice q1 g.plan.length q2] 46 (0,0))]) w5 W xv gs gc gy (bB m id).1 (bB m id).1 (ch n id) (ch n id)):=bq.more cb;have d4:Hid (IsOb w5 (obV c (.slice y1 c.data.length y2) (.slice y3 c.items.length y4) (.slice y5 c.parents.length y6)) c):=IsOb.ext da.out cb;have d5:Hid (IsOb w5 (obV c (.slice x1 c.data.length x2) (.slice x3 c.items.length x4) (.slice x5 c.parents.length x6)) c):=IsOb.ext hu cb;have d6:Hid _:=cq;unfold obC at b3;clear bq hu r1 r2 r3 bt c' b0 cb cq a0 E D a' da;unfold obV;go_upto_region 18 with fail;rw[<-b3]
  try rw[ct]
  clear b3 ct;obtain⟨s0,s1,s2,s3,s4,s5,s6,s7⟩:=ag dc.out.row;obtain⟨t0,t1,t2,t3,t4,t5,t6,t7⟩:=ag d6.out;have bl:(eo==eo)=true:=by simp
  apply aj 9 [obV c (.slice y1 c.data.length y2) (.slice y3 c.items.length y4) (.slice y5 c.parents.length y6),undef,obV c (.slice x1 c.data.length x2) (.slice x3 c.items.length x4) (.slice x5 c.parents.length x6),.bool true,_,_,_,_,.bool true] [none,some (fun u l=>IsOb l u c),none,none,none,none,none,none,none] [[],[0],[],[1,2],[3],[4],[4],[4,5,6],[4,7]] (by kernel_rfl) (by kernel_rfl) (by simp[ak])
  .refine ⟨?_,trivial⟩
   .exact fun _ _ _ he hu=>IsOb.ext hu he
  .simp (maxSteps:=1000000)only[List.take_succ_cons,List.take_zero,aw,aA,aa,Act.put,List.setIfInBounds_toArray,List.set_cons_zero,List.set_cons_succ,aK,aO,ak,List.getD_cons_zero,List.getD_cons_succ,and_true,true_and,forall_const];and_intros
   .intro xs wq d;intros;rename_i Y;have f0:=d.cell s0;have f1:=d.cell s1;have f2:=d.cell s2;have f3:=d.cell s3;have f4:=d.cell s4;have f5:=d.cell s5;have f6:=d.cell s6;have f7:=d.cell s7;have h0:=d.cell t0;have h1:=d.cell t1;have h2:=d.cell t2;have h3:=d.cell t3;have h4:=d.cell t4;have h5:=d.cell t5;have h6:=d.cell t6;have h7:=d.cell t7;go_simp;exact Y _ _ (Ext.refl _) rfl
   .intro xs wq d Z R Y;go_simp;exact(nW _ c wq (IsOb.ext d4.out d) d3.out).mono (by rintro e' l ⟨⟨u,rfl,hu⟩,hx⟩;exact⟨_,rfl,Y _ _ hx hu⟩)
   .intro xs wq d;intros;rename_i Y;have f0:=d.cell s0;have f1:=d.cell s1;have f2:=d.cell s2;have f3:=d.cell s3;have f4:=d.cell s4;have f5:=d.cell s5;have f6:=d.cell s6;have f7:=d.cell s7;have h0:=d.cell t0;have h1:=d.cell t1;have h2:=d.cell t2;have h3:=d.cell t3;have h4:=d.cell t4;have h5:=d.cell t5;have h6:=d.cell t6;have h7:=d.cell t7;go_simp;exact Y _ _ (Ext.refl _) rfl
   .intro xs wq d Z R Y;obtain⟨a3,a4⟩:=Z;go_simp;exact(wY _ _ c wq a3 (IsOb.ext d5.out d)).mono (by rintro e' l ⟨rfl,hx⟩;exact⟨_,rfl,Y _ _ hx rfl⟩)
   iterate 5 · intro xs wq d;intros;rename_i Y;have f0:=d.cell s0;have f1:=d.cell s1;have f2:=d.cell s2;have f3:=d.cell s3;have f4:=d.cell s4;have f5:=d.cell s5;have f6:=d.cell s6;have f7:=d.cell s7;have h0:=d.cell t0;have h1:=d.cell t1;have h2:=d.cell t2;have h3:=d.cell t3;have h4:=d.cell t4;have h5:=d.cell t5;have h6:=d.cell t6;have h7:=d.cell t7;go_simp;exact Y _ _ (Ext.refl _) rfl
  intro xs w6 dk Z;simp only[aP,Nat.zero_add,Nat.reduceAdd,and_true]at Z;have q1:=Z.2.1;simp(maxSteps:=1000000)only[List.take_succ_cons,List.take_zero,List.drop_succ_cons,List.drop_zero,aa,Act.put,List.setIfInBounds_toArray,List.set_cons_zero,List.set_cons_succ,Nat.zero_add,Nat.reduceAdd,Z];clear Z;generalize xs 1=x1 at *;have d7:Hid (Ext w5 w6):=dk;clear dk;go_wp2;go_ret;exact⟨rfl,Tw.cast ((dc.out.more d7.out).drop.drop) B.out C.out⟩
 by_cases h4:i=4
 .as_aux_lemma =>
  subst h4;have B:Hid (eM m ⟨4,b,a,id,g⟩=(bB m id).1):=(if_neg h0).trans ((if_neg h1).trans (if_pos (.inr (.inr rfl))));have C:Hid (fO n ⟨4,b,a,id,g⟩=(ch n id)):=(if_neg h0).trans ((if_neg h1).trans (if_pos (.inr (.inr rfl))));have a0:I.cell? ⟨o,10,none⟩=some (S8 id):=(cell_of_row _ _ 10 _ _ _ t.out.row).trans rfl;have b4:Hid (∀K (S O1:Nat->Prop) (wX:World),St (KW:=K) w0 S O1 wX W gs gc m n->Calls Tryz.prog 20 #[.pointer (some ⟨gs,0,none⟩),S8 id] wX fun e l=>∃H:Nat->Prop,e=.returned (.bool (kK m id))/\St (KW:=K) w0 S H l W gs gc (bB m id).1 (ch n id)):=fun K S O1 wX hs=>(rr (KW:=K) id hs HE.out bb.out HG.out (by omega) a2 (by omega) (by omega)).mono (by
   rintro e l ⟨H,n',he,-,hn,ad⟩;subst hn;exact⟨H,he,ad⟩)
  have b5:Hid (∀(H:Nat->Prop) (wX:World),Sr w0 H wX xv gy m n->Calls Tryz.prog 40 #[.pointer (some ⟨gy,0,none⟩),S8 id] wX fun e l=>e=.returned (.bool (kK m id))/\SrPost w0 H xv gy (bB m id).1 (ch n id) wX l):=fun H wX hs=>yU id hs HG.out (by omega) (by omega) a2 (by omega)
  obtain⟨hb,b6⟩:∃q,kK m id=q:=⟨_,rfl⟩;rw[b6]at b4 b5;clear b6;have d8:(hb==hb)=true:=by simp
  go_upto_region 20 with fail;apply aI 9 (fun z l=>twJ w0 [(o,.cells #[.int .i64 4,.slice L b.length M,.int .i64 a.kind,.slice N a.data.length P,.slice Q a.items.length T,S8 a.tree,.slice U a.parents.length V,.int .i64 a.BL,.int .i64 a.I,S8 a.msg,S8 id,.int .i64 g.kind,.int .i64 g.mode,.int .i64 g.keep,.int .i64 g.BN,S8 g.path,S8 g.dest,.slice d1 g.data.length d2,.slice q1 g.plan.length q2] 46 (0,0))] W xv gs gc gy m (bB m id).1 n (ch n id) (.bool hb) (z 3) (z 7) l) [false,false,false,true,false,false,false,true,false] [_,_,_,undef,_,_,_,undef,.bool true] [none,none,none,none,none,none,none,none,none] [[],[],[1],[0,2],[],[],[5],[4,6],[3,7]] (by kernel_rfl) (by kernel_rfl) rfl
  .exact twJ.start (t.out.more ⟨rfl,rfl,rfl,Nat.le_refl _,fun _ _=>rfl⟩)
  .simp (maxSteps:=1000000)only[cY,cG,bP,cA,cN,List.getD_cons_zero,List.getD_cons_succ,Bool.false_eq_true,if_false,if_true,and_true,true_and,forall_const,Nat.zero_add,Nat.reduceAdd,List.take_succ_cons,List.take_zero,aa,Act.put,List.setIfInBounds_toArray,List.set_cons_zero,List.set_cons_succ];and_intros
   iterate 3 · intro xs z wq J;intros;rename_i Y;have cu:wq.cell? ⟨o,10,none⟩=some (S8 id):=(cell_of_row _ _ 10 _ _ _ J.row).trans rfl;go_simp;exact Y _ _ J rfl
   .intro xs z wq J hz Z R Y;obtain⟨a3,a4⟩:=Z;rw[hz]at J;go_simp;exact(J.prog y.out HE.out b4.out).mono (by rintro e' l ⟨rfl,h⟩;exact⟨_,rfl,Y _ _ h⟩)
   iterate 3 · intro xs z wq J;intros;rename_i Y;have cu:wq.cell? ⟨o,10,none⟩=some (S8 id):=(cell_of_row _ _ 10 _ _ _ J.row).trans rfl;go_simp;exact Y _ _ J rfl
   .intro xs z wq J hz Z R Y;obtain⟨a3,a4⟩:=Z;rw[hz]at J;go_simp;exact(J.doc y.out b5.out).mono (by rintro e' l ⟨rfl,h⟩;exact⟨_,rfl,Y _ _ h⟩)
   .intro xs z wq J Z R Y;obtain⟨a3,a4⟩:=Z;have g3:=J.Dh a3;have g7:=J.Dg a4;rw[g3,g7];go_simp;exact Y _ _ J rfl
  intro xs A a6 Z;simp only[cX,List.getD_cons_zero,List.getD_cons_succ,Bool.false_eq_true,if_false,if_true]at a6;simp only[bU,Nat.zero_add,Nat.reduceAdd,and_true]at Z;simp(maxSteps:=1000000)only[List.drop_succ_cons,List.drop_zero,Nat.zero_add,Nat.reduceAdd,List.take_succ_cons,List.take_zero,aa,Act.put,List.setIfInBounds_toArray,List.set_cons_zero,List.set_cons_succ,Z];clear Z;generalize xs 3=x3 at *;generalize xs 7=x7 at *;have j:Hid (Tw w0 [(o,.cells #[.int .i64 4,.slice L b.length M,.int .i64 a.kind,.slice N a.data.length P,.slice Q a.items.length T,S8 a.tree,.slice U a.parents.length V,.int .i64 a.BL,.int .i64 a.I,S8 a.msg,S8 id,.int .i64 g.kind,.int .i64 g.mode,.int .i64 g.keep,.int .i64 g.BN,S8 g.path,S8 g.dest,.slice d1 g.data.length d2,.slice q1 g.plan.length q2] 46 (0,0))] A W xv gs gc gy (bB m id).1 (bB m id).1 (ch n id) (ch n id)):=a6.both;clear a6 z0 a0;go_wp2;go_ret;exact⟨rfl,Tw.cast (j.out.drop) B.out C.out⟩
 have a5:¬(i=2\/i=3\/i=4):=by omega
 by_cases h5:i=5
 .as_aux_lemma =>
  subst h5;have B:Hid (eM m ⟨5,b,a,id,g⟩=(aY m).1):=(if_neg h0).trans ((if_neg h1).trans ((if_neg a5).trans (if_pos rfl)));have C:Hid (fO n ⟨5,b,a,id,g⟩=n):=(if_neg h0).trans ((if_neg h1).trans (if_neg a5));obtain⟨⟨G,ls,er⟩,d⟩:∃q,aY m=q:=⟨_,rfl⟩;have HQ:Hid _:=d;have d9:Hid (G=(aB m).1):=by
   have X:=uz m;rw[d]at X;exact X
  clear d;have D:Hid _:=Tw.prog y.out HE.out t.out (F:=13) (args:=#[.pointer (some ⟨gs,0,none⟩)]) (R:=fun e l=>∃v,e=.returned (.tuple #[v,.int .i64 er])/\IsStrs l v ls/\Typed 9 l v) (m':=G) (n':=n) (fun K S b8 p=>(j9 (KW:=K) p HE.out HG.out (by omega)).mono (by
   rw[HQ.out];rintro e l ⟨H,v,he,hv,ad,ht⟩;exact⟨H,⟨v,he,hv,ht⟩,ad⟩))
  go_wp2_with fail;go_at_call 13;refine Calls.mono D.out ?_;rintro ex A ⟨⟨v,rfl,hv,br⟩,r,-⟩;have j:Hid (Tw w0 [(o,.cells #[.int .i64 5,.slice L b.length M,.int .i64 a.kind,.slice N a.data.length P,.slice Q a.items.length T,S8 a.tree,.slice U a.parents.length V,.int .i64 a.BL,.int .i64 a.I,S8 a.msg,S8 id,.int .i64 g.kind,.int .i64 g.mode,.int .i64 g.keep,.int .i64 g.BN,S8 g.path,S8 g.dest,.slice d1 g.data.length d2,.slice q1 g.plan.length q2] 46 (0,0))] A W xv gs gc gy G m n n):=r;have HV:Hid (IsStrs A v ls/\Typed 9 A v):=⟨hv,br⟩;have d':Hid (Rising (aB m).1.now):=by
   obtain⟨S,O,H,bx⟩:=r;have X:=bx.st.one.fs.CP.1;rw[d9.out]at X;exact X
  clear r hv br z0 t D;have D:Hid _:=Tw.doc y.out j.out (F:=41) (args:=#[.pointer (some ⟨gy,0,none⟩)]) (R:=fun e l=>∃v,e=.returned (.tuple #[v,.int .i64 er])/\IsStrs l v ls) (m':=G) (n':=n) (fun H p=>by
   have X:=xe p HG.out (by omega) d'.out;rw[HQ.out]at X;exact X)
  go_wp2_with fail;go_at_call 41;refine Calls.mono D.out ?_;rintro ex w3 ⟨⟨u,rfl,hu⟩,au,-,-,b0⟩;have E:Hid (Tw w0 [(o,.cells #[.int .i64 5,.slice L b.length M,.int .i64 a.kind,.slice N a.data.length P,.slice Q a.items.length T,S8 a.tree,.slice U a.parents.length V,.int .i64 a.BL,.int .i64 a.I,S8 a.msg,S8 id,.int .i64 g.kind,.int .i64 g.mode,.int .i64 g.keep,.int .i64 g.BN,S8 g.path,S8 g.dest,.slice d1 g.data.length d2,.slice q1 g.plan.length q2] 46 (0,0))] w3 W xv gs gc gy G G n n):=au;have a':Hid (IsStrs w3 v ls):=Row.keep HV.out.1 HV.out.2 b0;have HU:Hid (IsStrs w3 u ls):=hu;clear au hu b0 j D HV;have bl:(er==er)=true:=by simp
  go_wp2_with fail;go_at_call 25;refine(ib _ _ ls ls w3 a'.out HU.out).mono ?_;rw[show(ls==ls)=true from by simp];rintro ex w4 ⟨rfl,dl⟩;have cp:Hid (Tw w0 [(o,.cells #[.int .i64 5,.slice L b.length M,.int .i64 a.kind,.slice N a.data.length P,.slice Q a.items.length T,S8 a.tree,.slice U a.parents.length V,.int .i64 a.BL,.int .i64 a.I,S8 a.msg,S8 id,.int .i64 g.kind,.int .i64 g.mode,.int .i64 g.keep,.int .i64 g.BN,S8 g.path,S8 g.dest,.slice d1 g.data.length d2,.slice q1 g.plan.length q2] 46 (0,0))] w4 W xv gs gc gy G G n n):=E.out.more dl;clear dl E;go_wp2;go_ret;exact⟨rfl,Tw.cast (by rw[HQ.out];exact cp.out.drop) B.out C.out⟩
 by_cases h6:i=6
 .as_aux_lemma =>
  subst h6;have B:Hid (eM m ⟨6,b,a,id,g⟩=(du m id).1):=(if_neg h0).trans ((if_neg h1).trans ((if_neg a5).trans ((if_neg h5).trans (if_pos rfl))));have C:Hid (fO n ⟨6,b,a,id,g⟩=n):=(if_neg h0).trans ((if_neg h1).trans (if_neg a5));have a0:I.cell? ⟨o,10,none⟩=some (S8 id):=(cell_of_row _ _ 10 _ _ _ t.out.row).trans rfl;have b4:Hid (∀K (S O1:Nat->Prop) (wX:World),St (KW:=K) w0 S O1 wX W gs gc m n->Calls Tryz.prog 42 #[.pointer (some ⟨gs,0,none⟩),S8 id] wX fun e l=>∃H:Nat->Prop,e=.returned (.int .i64 (du m id).2)/\St (KW:=K) w0 S H l W gs gc (du m id).1 n):=fun K S O1 wX hs=>(p8 (KW:=K) id hs HE.out HG.out (by omega) (by omega)).mono (by
   rintro e l ⟨H,he,ad⟩;exact⟨H,he,ad⟩)
  have b5:Hid (∀(H:Nat->Prop) (wX:World),Sr w0 H wX xv gy m n->Calls Tryz.prog 43 #[.pointer (some ⟨gy,0,none⟩),S8 id] wX fun e l=>e=.returned (.int .i64 (du m id).2)/\SrPost w0 H xv gy (du m id).1 n wX l):=fun H wX hs=>wK id hs HG.out (by omega) (by omega)
  obtain⟨hb,b6⟩:∃q,(du m id).2=q:=⟨_,rfl⟩;rw[b6]at b4 b5;clear b6;have d8:(hb==hb)=true:=by simp
  go_upto_region 26 with fail;apply aI 9 (fun z l=>twJ w0 [(o,.cells #[.int .i64 6,.slice L b.length M,.int .i64 a.kind,.slice N a.data.length P,.slice Q a.items.length T,S8 a.tree,.slice U a.parents.length V,.int .i64 a.BL,.int .i64 a.I,S8 a.msg,S8 id,.int .i64 g.kind,.int .i64 g.mode,.int .i64 g.keep,.int .i64 g.BN,S8 g.path,S8 g.dest,.slice d1 g.data.length d2,.slice q1 g.plan.length q2] 46 (0,0))] W xv gs gc gy m (du m id).1 n n (.int .i64 hb) (z 3) (z 7) l) [false,false,false,true,false,false,false,true,false] [_,_,_,undef,_,_,_,undef,.bool true] [none,none,none,none,none,none,none,none,none] [[],[],[1],[0,2],[],[],[5],[4,6],[3,7]] (by kernel_rfl) (by kernel_rfl) rfl
  .exact twJ.start (t.out.more ⟨rfl,rfl,rfl,Nat.le_refl _,fun _ _=>rfl⟩)
  .simp (maxSteps:=1000000)only[cY,cG,bP,cA,cN,List.getD_cons_zero,List.getD_cons_succ,Bool.false_eq_true,if_false,if_true,and_true,true_and,forall_const,Nat.zero_add,Nat.reduceAdd,List.take_succ_cons,List.take_zero,aa,Act.put,List.setIfInBounds_toArray,List.set_cons_zero,List.set_cons_succ];and_intros
   iterate 3 · intro xs z wq J;intros;rename_i Y;have cu:wq.cell? ⟨o,10,none⟩=some (S8 id):=(cell_of_row _ _ 10 _ _ _ J.row).trans rfl;go_simp;exact Y _ _ J rfl
   .intro xs z wq J hz Z R Y;obtain⟨a3,a4⟩:=Z;rw[hz]at J;go_simp;exact(J.prog y.out HE.out b4.out).mono (by rintro e' l ⟨rfl,h⟩;exact⟨_,rfl,Y _ _ h⟩)
   iterate 3 · intro xs z wq J;intros;rename_i Y;have cu:wq.cell? ⟨o,10,none⟩=some (S8 id):=(cell_of_row _ _ 10 _ _ _ J.row).trans rfl;go_simp;exact Y _ _ J rfl
   .intro xs z wq J hz Z R Y;obtain⟨a3,a4⟩:=Z;rw[hz]at J;go_simp;exact(J.doc y.out b5.out).mono (by rintro e' l ⟨rfl,h⟩;exact⟨_,rfl,Y _ _ h⟩)
   .intro xs z wq J Z R Y;obtain⟨a3,a4⟩:=Z;have g3:=J.Dh a3;have g7:=J.Dg a4;rw[g3,g7];go_simp;exact Y _ _ J rfl
  intro xs A a6 Z;simp only[cX,List.getD_cons_zero,List.getD_cons_succ,Bool.false_eq_true,if_false,if_true]at a6;simp only[bU,Nat.zero_add,Nat.reduceAdd,and_true]at Z;simp(maxSteps:=1000000)only[List.drop_succ_cons,List.drop_zero,Nat.zero_add,Nat.reduceAdd,List.take_succ_cons,List.take_zero,aa,Act.put,List.setIfInBounds_toArray,List.set_cons_zero,List.set_cons_succ,Z];clear Z;generalize xs 3=x3 at *;generalize xs 7=x7 at *;have j:Hid (Tw w0 [(o,.cells #[.int .i64 6,.slice L b.length M,.int .i64 a.kind,.slice N a.data.length P,.slice Q a.items.length T,S8 a.tree,.slice U a.parents.length V,.int .i64 a.BL,.int .i64 a.I,S8 a.msg,S8 id,.int .i64 g.kind,.int .i64 g.mode,.int .i64 g.keep,.int .i64 g.BN,S8 g.path,S8 g.dest,.slice d1 g.data.length d2,.slice q1 g.plan.length q2] 46 (0,0))] A W xv gs gc gy (du m id).1 (du m id).1 n n):=a6.both;clear a6 z0 a0;go_wp2;go_ret;exact⟨rfl,Tw.cast (j.out.drop) B.out C.out⟩
 by_cases h7:i=7
 .as_aux_lemma =>
  subst h7;have B:Hid (eM m ⟨7,b,a,id,g⟩=(dZ m).1):=(if_neg h0).trans ((if_neg h1).trans ((if_neg a5).trans ((if_neg h5).trans ((if_neg h6).trans (if_pos rfl)))));have C:Hid (fO n ⟨7,b,a,id,g⟩=n):=(if_neg h0).trans ((if_neg h1).trans (if_neg a5));obtain⟨⟨G,er⟩,d⟩:∃q,dZ m=q:=⟨_,rfl⟩;have HQ:Hid _:=d;clear d;have D:Hid _:=Tw.prog y.out HE.out t.out (F:=44) (args:=#[.pointer (some ⟨gs,0,none⟩)]) (R:=fun e l=>e=.returned (.int .i64 er)) (m':=G) (n':=n) (fun K S b8 p=>(oH (KW:=K) p HE.out HG.out (by omega)).mono (by
   rw[HQ.out];rintro e l ⟨H,he,ad⟩;exact⟨H,he,ad⟩))
  go_wp2_with fail;go_at_call 44;refine Calls.mono D.out ?_;rintro ex A ⟨rfl,r,-⟩;have j:Hid (Tw w0 [(o,.cells #[.int .i64 7,.slice L b.length M,.int .i64 a.kind,.slice N a.data.length P,.slice Q a.items.length T,S8 a.tree,.slice U a.parents.length V,.int .i64 a.BL,.int .i64 a.I,S8 a.msg,S8 id,.int .i64 g.kind,.int .i64 g.mode,.int .i64 g.keep,.int .i64 g.BN,S8 g.path,S8 g.dest,.slice d1 g.data.length d2,.slice q1 g.plan.length q2] 46 (0,0))] A W xv gs gc gy G m n n):=r;clear r z0 t D;have D:Hid _:=Tw.doc y.out j.out (F:=45) (args:=#[.pointer (some ⟨gy,0,none⟩)]) (R:=fun e l=>e=.returned (.int .i64 er)) (m':=G) (n':=n) (fun H p=>by
   have X:=uC p HG.out (by omega);rw[HQ.out]at X;exact X)
  go_wp2_with fail;go_at_call 45;refine Calls.mono D.out ?_;rintro ex w3 ⟨rfl,au,-,-,-⟩;have E:Hid (Tw w0 [(o,.cells #[.int .i64 7,.slice L b.length M,.int .i64 a.kind,.slice N a.data.length P,.slice Q a.items.length T,S8 a.tree,.slice U a.parents.length V,.int .i64 a.BL,.int .i64 a.I,S8 a.msg,S8 id,.int .i64 g.kind,.int .i64 g.mode,.int .i64 g.keep,.int .i64 g.BN,S8 g.path,S8 g.dest,.slice d1 g.data.length d2,.slice q1 g.plan.length q2] 46 (0,0))] w3 W xv gs gc gy G G n n):=au;clear au j D;have bl:(er==er)=true:=by simp
  go_wp2;go_ret;exact⟨rfl,Tw.cast (by rw[HQ.out];exact E.out.drop) B.out C.out⟩
 have B:Hid (eM m ⟨i,b,a,id,g⟩=(fC m g)):=(if_neg h0).trans ((if_neg h1).trans ((if_neg a5).trans ((if_neg h5).trans ((if_neg h6).trans (if_neg h7)))));have C:Hid (fO n ⟨i,b,a,id,g⟩=n):=(if_neg h0).trans ((if_neg h1).trans (if_neg a5));have f0:(i==0)=false:=by simpa using h0
 have f1:(i==1)=false:=by simpa using h1
 have f2:(i==2)=false:=by simpa using h2
 have f3:(i==3)=false:=by simpa using h3
 have f4:(i==4)=false:=by simpa using h4
 have f5:(i==5)=false:=by simpa using h5
 have f6:(i==6)=false:=by simpa using h6
 have f7:(i==7)=false:=by simpa using h7
 clear h0 h1 h2 h3 h4 h5 h6 h7;have ec:I.cell? ⟨o,11,none⟩=some (.int .i64 g.kind):=(cell_of_row _ _ 11 _ _ _ t.out.row).trans rfl;have ef:I.cell? ⟨o,12,none⟩=some (.int .i64 g.mode):=(cell_of_row _ _ 12 _ _ _ t.out.row).trans rfl;have eg:I.cell? ⟨o,13,none⟩=some (.int .i64 g.keep):=(cell_of_row _ _ 13 _ _ _ t.out.row).trans rfl;have eh:I.cell? ⟨o,14,none⟩=some (.int .i64 g.BN):=(cell_of_row _ _ 14 _ _ _ t.out.row).trans rfl;have ek:I.cell? ⟨o,15,none⟩=some (S8 g.path):=(cell_of_row _ _ 15 _ _ _ t.out.row).trans rfl;have es:I.cell? ⟨o,16,none⟩=some (S8 g.dest):=(cell_of_row _ _ 16 _ _ _ t.out.row).trans rfl;have ev:I.cell? ⟨o,17,none⟩=some (.slice d1 g.data.length d2):=(cell_of_row _ _ 17 _ _ _ t.out.row).trans rfl;have ey:I.cell? ⟨o,18,none⟩=some (.slice q1 g.plan.length q2):=(cell_of_row _ _ 18 _ _ _ t.out.row).trans rfl;go_wp2_with fail;go_at_call 46;refine(Tw.does y.out t.out HE.out HG.out (by omega) O5.out ds.out).mono ?_;rintro ex A ⟨rfl,r⟩;have j:Hid _:=r;clear r;go_wp2;go_ret;exact⟨rfl,Tw.cast (j.out) B.out C.out⟩
end
section
open Go Go.RowKit
variable [Inhabited bc] [KW:Inhabited cT]
variable {w:World} {g:Nat} {c:Int}
theorem xi (a:w.cell? ⟨g,0,none⟩=some (.int .i64 c)):(callFunc 184 #[.pointer (some ⟨g,0,none⟩)]).run Tryz.prog w=.ok (.value (.int .i64 c)) w :=
 run_call_load (P:=Tryz.prog) Tryz.func184 (by kernel_rfl) (by kernel_rfl) (by kernel_rfl) .i64 (by kernel_rfl) a
theorem xj (a:w.cell? ⟨g,0,none⟩=some (.int .i64 c)) :
  Calls Tryz.prog 126 #[.pointer (some ⟨g,0,none⟩)] w fun e b=>e=.returned (.int .i64 c)/\b=w:=by
 have d:=xi a;go_enter Tryz.func126,Tryz.ntmps126;go_wp2;go_ret;exact⟨rfl,rfl⟩
theorem n9 (a:w.heap[g]? = some (.cells #[.int .i64 c] 133 (0,0))) :
  Calls Tryz.prog 57 #[.pointer (some ⟨g,0,none⟩)] w fun e b=>e=.returned (.int .i64 c)/\b=w:=by
 have d:w.cell? ⟨g,0,none⟩=some (.int .i64 c):=(cell_of_row _ _ 0 _ _ _ a).trans rfl;clear a;go_enter Tryz.func57,Tryz.ntmps57
 go_wp2_with (go_at_call 126;go_must (refine(xj d).mono ?_;rintro e b ⟨rfl,rfl⟩))
 go_ret;exact⟨rfl,rfl⟩
theorem xm {j:World} {S O:Nat->Prop} {f:Value} {a b:Nat} {m:Fs} {n:Int} (h:St j S O w f a b m n) :
  Calls Tryz.prog 22 #[.pointer (some ⟨a,0,none⟩)] w fun e k=>e=.returned (.int .i64 n)/\Ext w k:=by
 have l:w.cell? ⟨a,1,none⟩=some (.pointer (some ⟨b,0,none⟩)):=(cell_of_row _ _ 1 _ _ _ h.row).trans rfl;have d:Hid _:=n9 h.BZ;clear h;go_enter Tryz.func22,Tryz.ntmps22;go_wp2_with fail;go_at_call 57;refine Calls.mono d.out ?_;rintro o p ⟨rfl,i⟩;rw[i];clear i d;go_wp2;go_ret;exact⟨rfl,Ext.refl _⟩
end
section
open Go Go.RowKit
variable [Inhabited bc] [KW:Inhabited cT]
section
variable {w0 w:World} {K:List (Nat×Obj)} {f x:Value} {gs gc gy:Nat} {m:Fs} {n:Int} {k:Nat}
theorem m9 (h:Tw w0 K w f x gs gc gy m m n n):Calls Tryz.prog 22 #[.pointer (some ⟨gs,0,none⟩)] w fun e a=>e=.returned (.int .i64 n)/\Ext w a:=by
 obtain⟨S,O,b,h⟩:=h;exact xm h.st
theorem oQ (h:Tw w0 K w f x gs gc gy m m n n):w.cell? ⟨gy,1,none⟩=some (.int .i64 n):=by
 obtain⟨S,O,a,h⟩:=h;exact(cell_of_row _ _ 1 _ _ _ h.sr.row).trans rfl
theorem oR (h:Tw w0 K w f x gs gc gy m m n n) (a:Good k m) (c:k<=1000):Calls Tryz.prog 23 #[f,x] w fun e b=>e=.returned (.bool true)/\Ext w b:=by
 obtain⟨S,O,d,h⟩:=h;have g:=a.time;have i:=a.ok.B6;exact zg h.st.one.fs h.sr.ref a.ok (by omega) (by omega)
end
theorem Two2.Df {w b c:World} {S O O':Nat->Prop} {f x:Value} {m:Fs} (h:Two b S O O' c f x m) (d:Ext w b) (e:Ext ci w):Two w S O O' c f x m:=by
 have g:=d.size;exact⟨e,d.trans h.ext,h.fs,h.ref,fun k a=>by have:=h.lo k a;omega,fun k a=>by have:=h.Cn k a;omega,fun k a=>by have:=h.Cc k a;omega,h.B9,h.BU⟩
theorem sK (ct:∀k,cL k=none) (M:Int) (v:Value) (l:List Mop) (w:World) (hB:Ext ci w) (hE:Env w) (cu:EnvS w) (hv:lI w v l) (hi:∀x∈l,I64 x.f.keep/\I64 x.f.BN/\∀e∈x.f.plan,I64 e.keep/\I64 e.BN) (cv:∀x∈l,gK x.o.items/\∀s∈x.o.parents,s.length<=140737488355328) :
  Calls Tryz.prog 4 #[.int .i64 M,v] w fun e G=>e=.returned (.bool true)/\Ext w G:=by
 obtain⟨a,bd,rfl,h1,h2,h3,h4⟩:=nT hv;have HV:Hid _:=hv;have H4:Hid _:=h4;have HI:Hid _:=hi;have cx:Hid _:=cv;have HE:Hid (Env w):=hE;have bh:Hid (EnvS w):=cu;have HB:Hid (Ext ci w):=hB;have bt:Hid (∀k,cL k=none):=ct;clear h4 hv hi cv hE cu hB ct;go_enter Tryz.func4,Tryz.ntmps4;go_wp2_with fail;go_at_call 5;refine(iI w HE.out bh.out).mono ?_;rintro ex w1 ⟨rfl,b7⟩;go_wp2_with fail;go_at_call 6;refine(yM b7 HV.out).mono ?_;rintro ex w2 ⟨⟨fb,rfl,c1⟩,c2⟩;have ad:Hid (Ext w w2):=b7.trans c2;have dq:Hid _:=c1;clear b7 c2 c1
 cases fb with
 | false =>
  go_wp2_with fail;go_at_call 5;refine(iI w2 (HE.out.ext ad.out) (bh.out.ext ad.out)).mono ?_;rintro ex w3 ⟨rfl,a1⟩;have b':Hid (Ext w w3):=ad.out.trans a1;clear a1;go_wp2;go_ret;exact⟨rfl,b'.out⟩
 | true =>
 have bl:Hid (wG l):=dq.out rfl;have c3:Hid (∀x∈l,jR x.f):=fun x X=>by
  have h9:=Ao bl.out.fs (fun o ho=>by
   obtain⟨y,hy,rfl⟩:=List.mem_map.1 ho;exact HI.out y hy)
  exact h9.2 x.f (List.mem_map.2 ⟨x,X,rfl⟩)
 have eg:l.length<=60:=bl.out.len;go_wp2_with fail;go_at_call 7
 by_cases au:M<0\/1073741824<M
 .refine (AL M _ au).mono ?_;rintro ex w3 ⟨rfl,bo⟩;rw[bo];clear bo;go_wp2_with fail;go_at_call 8;refine(Ag M _ au).mono ?_;rintro ex w3 ⟨rfl,bo⟩;rw[bo];clear bo au;go_wp2_with fail;go_at_call 5;refine(iI w2 (HE.out.ext ad.out) (bh.out.ext ad.out)).mono ?_;rintro ex w3 ⟨rfl,a1⟩;have b':Hid (Ext w w3):=ad.out.trans a1;clear a1;go_wp2;go_ret;exact⟨rfl,b'.out⟩
 have bx:0<=M:=by omega
 have bS:M<=1073741824:=by omega
 refine(tb M _ bx bS).mono ?_;rintro ex w3 ⟨⟨p,rfl,hf⟩,a1⟩;go_wp2_with fail;go_at_call 8;refine(yr M _ bx bS).mono ?_;rintro ex w4 ⟨⟨q,rfl,b⟩,c4⟩;have ca:Hid (Two w _ _ _ w4 p q (eV M)):=Two2.Df (Two2.fresh hf a1 b c4 (HB.out.trans ad.out)) ad.out HB.out;obtain⟨Y,rfl⟩:∃g,p=.pointer (some ⟨g,0,none⟩):=by
  obtain⟨g,gm,gd,vp,vl,vu,L,H,ds,-⟩:=hf;exact⟨g,ds⟩
 obtain⟨T,rfl⟩:=b.ptr;have c5:Hid (Good 0 (eV M)):=qN bx bS;clear hf b a1 c4 au bx bS ad;go_wp2_with fail;go_at_call 9;refine(jB (Two2.CZ ca.out) bt.out).mono ?_;rintro ex w5 ⟨gs,gc,rfl,a2,-,a3,a4,a5⟩;obtain⟨w6,P⟩:∃w6,w6=w5.alloc (.cells #[.pointer (some ⟨T,0,none⟩),.int .i64 0] 36):=⟨_,rfl⟩;have a6:Ext w5 w6:=by rw[P];exact(Ext.refl _).alloc _
 obtain⟨Z,U⟩:∃g,w5.heap.size=g:=⟨_,rfl⟩;have HT:Hid (Tw w [] w6 (.pointer (some ⟨Y,0,none⟩)) (.pointer (some ⟨T,0,none⟩)) gs gc Z (eV M) (eV M) 0 0):=oK ca.out a2 a3 a4 a5 a6 (Nat.le_of_eq U) (by rw[<-U,P];exact ab _ _);clear a2 a3 a6 a4 a5 ca;go_upto_region 10 with fail;rw[<-P];clear P U;go_wp2_with fail;go_loopw [9,10,11] (fun s y i wr=>∃(k gs gc Z:Nat) (m:Fs) (n:Int),k<=l.length/\i=.int .i64 k/\s=.pointer (some ⟨gs,0,none⟩)/\y=.pointer (some ⟨Z,0,none⟩)/\Hid (Tw w [] wr (.pointer (some ⟨Y,0,none⟩)) (.pointer (some ⟨T,0,none⟩)) gs gc Z m m n n)/\Hid (Good (3*k) m)/\Hid (0<=n/\n<=k)) (fun _ _ i _=>l.length - (intOf i).toNat)
 case atStart=>exact⟨0,gs,gc,Z,eV M,0,Nat.zero_le _,rfl,rfl,rfl,HT.out,c5.out,by omega,by omega⟩
 case round =>
 clear HT c5;obtain⟨k,gs,gc,Z,m,n,d,rfl,rfl,rfl,HT,HG,HN⟩:=hrel
 by_cases cb:k<l.length
 .obtain ⟨E,he⟩:∃e,l[k]? = some e:=⟨_,List.getElem?_eq_getElem cb⟩;obtain⟨bk,ok,cs,rfl,c6,hc⟩:=H4.out k E he;have d0:Hid (IsMop w cs E):=c6;have b3:Hid (E∈l):=List.mem_of_getElem? he;have b4:Hid (iy E.o/\E.id.length<=400):=bl.out.each E b3.out;have d3:Hid (dm E.o):=⟨(cx.out E b3.out).1,(cx.out E b3.out).2,by have:=b4.out.1.tree;omega,by have:=b4.out.1.msg;omega⟩;have c7:Hid (jR E.f):=c3.out E b3.out;obtain⟨vb,vd,vi,vp,fs,rfl,o1,o2,o3,o4,o5⟩:=c6;obtain⟨b1,b2,rfl,-⟩:=id o1.bytes;obtain⟨e1,e2,rfl,-⟩:=id o2;obtain⟨i1,i2,rfl,-⟩:=id o3;obtain⟨p1,p2,rfl,-⟩:=id o4;obtain⟨ve,vl,rfl,hd,c8⟩:=id o5;obtain⟨d1,d2,rfl,-⟩:=id hd.bytes;obtain⟨_,⟨q1,q2,rfl,-⟩,-⟩:=id c8;have HC:Hid _:=hc;have cc:Hid (Good (3*(k+1)) (eM m E)):=(uO HG.out c7.out).up (by omega);have b5:Hid (Good (3*(k+1)) m):=HG.out.up (by omega);clear he o1 o2 o3 o4 o5 hd c8 hc;have H:=HT.out.ext.cell (HC.out 0 _ rfl);simp only[Nat.add_zero]at H
  by_cases hA:0<=E.kind/\E.kind<=8
  .as_aux_lemma =>
   obtain⟨a0,a8⟩:=hA;have b8:¬(8:Int)<E.kind:=by omega
   have b0:¬E.kind<0:=by omega
   obtain⟨m1,ce⟩:∃q,eM m E=q:=⟨_,rfl⟩;obtain⟨n1,cl⟩:∃q,fO n E=q:=⟨_,rfl⟩;have d4:Hid (0<=n1/\n1<=(k+1:Nat)):=by
    have h9:=Ax n E;have h8:=HN.out;rw[cl]at h9;unfold Hid;omega
   have d5:Hid (∀G,Tw w [] G (.pointer (some ⟨Y,0,none⟩)) (.pointer (some ⟨T,0,none⟩)) gs gc Z m m n n->Calls Tryz.prog 10 #[.pointer (some ⟨Y,0,none⟩),.pointer (some ⟨T,0,none⟩),.pointer (some ⟨gs,0,none⟩),.pointer (some ⟨Z,0,none⟩),.agg #[.int .i64 E.kind,.slice b1 E.b.length b2,.int .i64 E.o.kind,.slice e1 E.o.data.length e2,.slice i1 E.o.items.length i2,S8 E.o.tree,.slice p1 E.o.parents.length p2,.int .i64 E.o.BL,.int .i64 E.o.I,S8 E.o.msg,S8 E.id,.int .i64 E.f.kind,.int .i64 E.f.mode,.int .i64 E.f.keep,.int .i64 E.f.BN,S8 E.f.path,S8 E.f.dest,.slice d1 E.f.data.length d2,.slice q1 E.f.plan.length q2]] G fun e a9=>e=.returned (.bool true)/\Tw w [] a9 (.pointer (some ⟨Y,0,none⟩)) (.pointer (some ⟨T,0,none⟩)) gs gc Z m1 m1 n1 n1):=fun G h=>by
    have h9:=xh bt.out h HB.out HE.out bh.out HG.out (by omega) HN.out.1 (by have:=HN.out.2;omega) d0.out b4.out.1 b4.out.2 d3.out c7.out;rw[ce,cl]at h9;exact h9
   rw[ce]at cc;obtain⟨A,bq⟩:∃A:World->Prop,A=fun G=>Tw w [] G (.pointer (some ⟨Y,0,none⟩)) (.pointer (some ⟨T,0,none⟩)) gs gc Z m m n n:=⟨_,rfl⟩
   obtain⟨B,a7⟩:∃B:World->Prop,B=fun G=>Tw w [] G (.pointer (some ⟨Y,0,none⟩)) (.pointer (some ⟨T,0,none⟩)) gs gc Z m1 m1 n1 n1:=⟨_,rfl⟩
   obtain⟨AG,b6⟩:∃u:Value,u=.agg #[.int .i64 E.kind,.slice b1 E.b.length b2,.int .i64 E.o.kind,.slice e1 E.o.data.length e2,.slice i1 E.o.items.length i2,S8 E.o.tree,.slice p1 E.o.parents.length p2,.int .i64 E.o.BL,.int .i64 E.o.I,S8 E.o.msg,S8 E.id,.int .i64 E.f.kind,.int .i64 E.f.mode,.int .i64 E.f.keep,.int .i64 E.f.BN,S8 E.f.path,S8 E.f.dest,.slice d1 E.f.data.length d2,.slice q1 E.f.plan.length q2]:=⟨_,rfl⟩;have eh:Hid _:=b6;have d6:Hid (∀G,B G->Tw w [] G (.pointer (some ⟨Y,0,none⟩)) (.pointer (some ⟨T,0,none⟩)) gs gc Z m1 m1 n1 n1):=fun G h=>by rw[a7]at h;exact h
   have d7:Hid (∀G,A G->Calls Tryz.prog 10 #[.pointer (some ⟨Y,0,none⟩),.pointer (some ⟨T,0,none⟩),.pointer (some ⟨gs,0,none⟩),.pointer (some ⟨Z,0,none⟩),AG] G fun e a9=>e=.returned (.bool true)/\B a9):=fun G h=>by
    rw[bq]at h;rw[b6,a7];exact d5.out G h
   have c9:Hid (∀w G,A w->Ext w G->A G):=fun w1 G h X=>by rw[bq]at h ⊢;exact h.more X
   have c':Hid (∀w G,B w->Ext w G->B G):=fun w1 G h X=>by rw[a7]at h ⊢;exact h.more X
   have cm:Hid (∀G,A G->Ext w G):=fun G h=>by rw[bq]at h;exact h.ext
   have cn:Hid (∀G,B G->Ext w G):=fun G h=>by rw[a7]at h;exact h.ext
   have d8:Hid (∀G,Ext wr G->A G):=fun G X=>by rw[bq];exact HT.out.more X
   have d9:Hid (∀G,B G->Calls Tryz.prog 22 #[.pointer (some ⟨gs,0,none⟩)] G fun e a9=>e=.returned (.int .i64 n1)/\Ext G a9):=fun G h=>by rw[a7]at h;exact m9 h
   have d':Hid (∀G,B G->G.cell? ⟨Z,1,none⟩=some (.int .i64 n1)):=fun G h=>by rw[a7]at h;exact oQ h
   have ea:Hid (∀G,B G->Calls Tryz.prog 23 #[.pointer (some ⟨Y,0,none⟩),.pointer (some ⟨T,0,none⟩)] G fun e a9=>e=.returned (.bool true)/\Ext G a9):=fun G h=>by rw[a7]at h;exact oR h cc.out (by omega)
   have ec:Hid (∀G,Ext w G->(Instr.loadAt 46 (.pointer (some ⟨bk,ok+k*19,none⟩))).run Tryz.prog G=.ok AG G):=fun G X=>by
    rw[b6];exact run_loadAt_mid G bk (ok+k*19) 46 _ _ (fun j v hv=>X.cell (HC.out j v hv)) Tryz.underlying46 rfl (by show _=some 19;kernel_rfl)
   clear bq a7 b6;have a':Hid (k<l.length):=cb;have da:(k:Int)<(l.length:Int):=by omega
   clear ce cl;go_upto_region 15 with fail;clear H;apply aI 45 (fun z G=>PJ A B (z 26) (z 27) (z 28) (z 29) (z 30) (z 38) (z 39) G) [false,false,false,false,false,false,false,false,false,false,false,false,false,false,false,false,false,false,false,false,false,false,false,false,false,false,true,true,true,true,true,false,false,false,false,false,false,false,true,true,false,false,false,false,false] [.pointer (some ⟨gs,0,none⟩),.bool false,.bool false,.slice (some ⟨bk,ok,none⟩) l.length bd,.int .i64 k,.pointer (some ⟨bk,ok+k*19,none⟩),.pointer (some ⟨bk,ok+k*19,none⟩),.int .i64 E.kind,.bool true,.bool true,.slice (some ⟨bk,ok,none⟩) l.length bd,.int .i64 k,.pointer (some ⟨bk,ok+k*19,none⟩),.pointer (some ⟨bk,ok+k*19,none⟩),.int .i64 E.kind,.bool true,.bool true,.bool true,.pointer (some ⟨Y,0,none⟩),.pointer (some ⟨T,0,none⟩),.pointer (some ⟨gs,0,none⟩),.pointer (some ⟨Z,0,none⟩),.slice (some ⟨bk,ok,none⟩) l.length bd,.int .i64 k,.pointer (some ⟨bk,ok+k*19,none⟩),AG,undef,undef,undef,undef,undef,.pointer (some ⟨gs,0,none⟩),.int .i64 n1,.pointer (some ⟨Z,0,none⟩),.pointer (some ⟨Z,0,none⟩),.pointer (some ⟨Z,1,none⟩),.int .i64 n1,.bool false,undef,undef,.pointer (some ⟨Y,0,none⟩),.pointer (some ⟨T,0,none⟩),.bool true,.bool false,.bool false] [none,none,none,none,none,none,none,none,none,none,none,none,none,none,none,none,none,none,none,none,none,none,none,none,none,none,none,none,none,none,none,none,none,none,none,none,none,none,none,none,none,none,none,none,none] [[],[0],[1],[2],[2],[2,3,4],[2,5],[2,6],[2,7],[2,8],[9],[9],[9,10,11],[9,12],[9,13],[9,14],[2,9,15],[2,16],[17],[17],[17],[17],[17],[17],[17,22,23],[17,24],[17,18,19,20,21,25],[17,26],[2,17,27],[2,28],[29],[30],[30,31],[30],[30,33],[30,34],[30,35],[30,32,36],[30,37],[38],[39],[39],[39,40,41],[39,42],[39,43]] (by kernel_rfl) (by kernel_rfl) rfl
   .exact PJ.start (d8.out _ ⟨rfl,rfl,rfl,Nat.le_refl _,fun _ _=>rfl⟩)
   .simp (maxSteps:=1000000)only[cY,cG,bP,cA,cN,List.getD_cons_zero,List.getD_cons_succ,Bool.false_eq_true,if_false,if_true,and_true,true_and,forall_const,Nat.zero_add,Nat.reduceAdd,List.take_succ_cons,List.take_zero,aa,Act.put,List.setIfInBounds_toArray,List.set_cons_zero,List.set_cons_succ];and_intros
    iterate 7 · as_aux_lemma=>intro C z D F;intros;rename_i c;go_simp;exact c _ _ F rfl
    .as_aux_lemma =>
     intro C z D F d R c;obtain⟨r,t⟩:=d;have I:=(F.ext cm.out cn.out).cell (HC.out 0 _ rfl);simp only[Nat.add_zero]at I;go_simp;exact c _ _ F rfl
    iterate 6 · as_aux_lemma=>intro C z D F;intros;rename_i c;go_simp;exact c _ _ F rfl
    .as_aux_lemma =>
     intro C z D F d R c;obtain⟨r,t⟩:=d;have I:=(F.ext cm.out cn.out).cell (HC.out 0 _ rfl);simp only[Nat.add_zero]at I;go_simp;exact c _ _ F rfl
    iterate 10 · as_aux_lemma=>intro C z D F;intros;rename_i c;go_simp;exact c _ _ F rfl
    .as_aux_lemma =>
     intro C z D F d R c;obtain⟨r,t⟩:=d;have hl:=ec.out D (F.ext cm.out cn.out);apply sf 46 (.tmp 99) (p:=.pointer (some ⟨bk,ok+k*19,none⟩)) (u:=AG)
     .first | (rw[r];rfl) | (go_simp;done)
     .rfl
     .first | exact t | (rw[t];rfl) | (go_simp;done)
     .exact hl
     .exact c _ _ F rfl
    .as_aux_lemma =>
     intro C z D F hz d R c;obtain⟨r,t,N,dc,dk,dl⟩:=d;rw[hz]at F;go_simp;exact(d7.out D (F.d0 rfl)).mono (by rintro e' G ⟨rfl,h⟩;exact⟨_,rfl,c _ _ (F.Dl h)⟩)
    .as_aux_lemma =>
     intro C z D F hz d R c;obtain⟨r,t⟩:=d;rw[hz]at F;have g:=(F.d1 _ t).1;rw[g];go_simp;exact c _ _ (F.Dv t)
    .as_aux_lemma =>
     intro C z D F hz d R c;obtain⟨r,t,N⟩:=d;rw[hz]at F;have g:=(F.CB _ N).1;rw[g];go_simp;exact c _ _ (F.Dn N)
    .as_aux_lemma =>
     intro C z D F hz d R c;obtain⟨r,t⟩:=d;rw[hz]at F;have g:=(F.CA _ t).1;rw[g];go_simp;exact c _ _ (F.Dj t)
    .as_aux_lemma =>
     intro C z D F hz d R c;rw[hz]at F;have g:=(F.Cz _ d).1;rw[g];go_simp;exact c _ _ (F.Dp d)
    .as_aux_lemma =>
     intro C z D F d R c;have g:=(F.Cj _ d).1;rw[g];go_simp;exact c _ _ F rfl
    .as_aux_lemma =>
     intro C z D F d R c;obtain⟨r,t⟩:=d;have hb:=F.after (F.Cj _ r).2;have g:=(F.Cj _ r).1;rw[g];go_simp;exact(d9.out D hb).mono (by rintro e' G ⟨rfl,X⟩;exact⟨_,rfl,c _ _ (F.more c9.out c'.out X) rfl⟩)
    .as_aux_lemma =>
     intro C z D F d R c;have g:=(F.Cj _ d).1;rw[g];go_simp;exact c _ _ F rfl
    iterate 2
     .as_aux_lemma =>
      intro C z D F d R c;obtain⟨r,t⟩:=d;have g:=(F.Cj _ r).1;rw[g];go_simp;exact c _ _ F rfl
    .as_aux_lemma =>
     intro C z D F d R c;obtain⟨r,t⟩:=d;have K:=d'.out D (F.after (F.Cj _ r).2);have g:=(F.Cj _ r).1;rw[g];go_simp;exact c _ _ F rfl
    .as_aux_lemma =>
     intro C z D F d R c;obtain⟨r,t,N⟩:=d;have g:=(F.Cj _ r).1;rw[g];go_simp;exact c _ _ F (by simp)
    .as_aux_lemma =>
     intro C z D F hz d R c;obtain⟨r,t⟩:=d;rw[hz]at F;have g:=(F.Cj _ r).1;rw[g];go_simp;exact c _ _ (F.Dt r)
    .as_aux_lemma =>
     intro C z D F hz d R c;rw[hz]at F;have g:=(F.Cy _ d).1;rw[g];go_simp;exact c _ _ (F.Ds d)
    iterate 2
     .as_aux_lemma =>
      intro C z D F d R c;have g:=(F.Cs _ d).1;rw[g];go_simp;exact c _ _ F rfl
    .as_aux_lemma =>
     intro C z D F d R c;obtain⟨r,t,N⟩:=d;have hb:=F.after (F.Cs _ r).2;have g:=(F.Cs _ r).1;rw[g];go_simp;exact(ea.out D hb).mono (by rintro e' G ⟨rfl,X⟩;exact⟨_,rfl,c _ _ (F.more c9.out c'.out X) rfl⟩)
    iterate 2
     .as_aux_lemma =>
      intro C z D F d R c;obtain⟨r,t⟩:=d;have g:=(F.Cs _ r).1;rw[g];go_simp;exact c _ _ F rfl
   intro C wz co d;simp only[cX,List.getD_cons_zero,List.getD_cons_succ,Bool.false_eq_true,if_false,if_true]at co;simp only[bU,Nat.zero_add,Nat.reduceAdd,and_true]at d;simp(maxSteps:=1000000)only[List.drop_succ_cons,List.drop_zero,Nat.zero_add,Nat.reduceAdd,List.take_succ_cons,List.take_zero,aa,Act.put,List.setIfInBounds_toArray,List.set_cons_zero,List.set_cons_succ,d];clear d;generalize C 26=ek at *;generalize C 27=eo at *;generalize C 28=er at *;generalize C 29=es at *;generalize C 30=ev at *;generalize C 38=ey at *;generalize C 39=eE at *;have br:Hid (Tw w [] wz (.pointer (some ⟨Y,0,none⟩)) (.pointer (some ⟨T,0,none⟩)) gs gc Z m1 m1 n1 n1):=d6.out _ co.end;clear co;go_wp2_with fail;go_roundw
   case rel=>exact⟨k+1,gs,gc,Z,m1,n1,a'.out,by go_num,rfl,rfl,br.out,cc.out,d4.out⟩
   case measure=>have:=a'.out;simp[intOf];omega
  .have a':Hid (k<l.length):=cb;have da:(k:Int)<(l.length:Int):=by omega
   obtain⟨S,O,O',h2⟩:=HT.out.two;have H2:Hid (Two w S O O' wr (.pointer (some ⟨Y,0,none⟩)) (.pointer (some ⟨T,0,none⟩)) m):=h2;have hB:(8:Int)<E.kind\/¬(8:Int)<E.kind/\E.kind<0:=by omega
   clear hA h2;rcases hB with b8 | ⟨b8,b0⟩
   .as_aux_lemma =>
    have b0:(0:Int)<=E.kind:=by omega
    have cp:Hid (¬E.kind<=(8:Int)):=by unfold Hid;omega
    go_wp2_with fail;go_at_call 9;refine(jB (Two2.CZ H2.out) bt.out).mono ?_;rintro ex w5 ⟨V,bb,rfl,a2,-,a3,a4,a5⟩;obtain⟨w6,P⟩:∃w6,w6=w5.alloc (.cells #[.pointer (some ⟨T,0,none⟩),.int .i64 0] 36):=⟨_,rfl⟩;have a6:Ext w5 w6:=by rw[P];exact(Ext.refl _).alloc _
    obtain⟨Q,U⟩:∃g,w5.heap.size=g:=⟨_,rfl⟩;have W:Hid (Tw w [] w6 (.pointer (some ⟨Y,0,none⟩)) (.pointer (some ⟨T,0,none⟩)) V bb Q m m 0 0):=oK H2.out a2 a3 a4 a5 a6 (Nat.le_of_eq U) (by rw[<-U,P];exact ab _ _);clear a2 a3 a6 a4 a5 H;go_upto_region 15 with fail;rw[<-P];clear P U HT H2;have H:=W.out.ext.cell (HC.out 0 _ rfl);simp only[Nat.add_zero]at H;have J:=oQ W.out;apply aj 45 [.pointer (some ⟨V,0,none⟩),.bool false,.bool false,.slice (some ⟨bk,ok,none⟩) l.length bd,.int .i64 k,.pointer (some ⟨bk,ok+k*19,none⟩),.pointer (some ⟨bk,ok+k*19,none⟩),.int .i64 E.kind,.bool true,.bool true,.slice (some ⟨bk,ok,none⟩) l.length bd,.int .i64 k,.pointer (some ⟨bk,ok+k*19,none⟩),.pointer (some ⟨bk,ok+k*19,none⟩),.int .i64 E.kind,.bool false,.bool false,.bool false,undef,undef,undef,undef,undef,undef,undef,undef,undef,undef,.bool false,.bool false,.bool false,.pointer (some ⟨V,0,none⟩),.int .i64 0,.pointer (some ⟨Q,0,none⟩),.pointer (some ⟨Q,0,none⟩),.pointer (some ⟨Q,1,none⟩),.int .i64 0,.bool false,.bool false,.bool false,.pointer (some ⟨Y,0,none⟩),.pointer (some ⟨T,0,none⟩),.bool true,.bool false,.bool false] [none,none,none,none,none,none,none,none,none,none,none,none,none,none,none,none,none,none,none,none,none,none,none,none,none,none,none,none,none,none,none,none,none,none,none,none,none,none,none,none,none,none,none,none,none] [[],[0],[1],[2],[2],[2,3,4],[2,5],[2,6],[2,7],[2,8],[9],[9],[9,10,11],[9,12],[9,13],[9,14],[2,9,15],[2,16],[17],[17],[17],[17],[17],[17],[17,22,23],[17,24],[17,18,19,20,21,25],[17,26],[2,17,27],[2,28],[29],[30],[30,31],[30],[30,33],[30,34],[30,35],[30,32,36],[30,37],[38],[39],[39],[39,40,41],[39,42],[39,43]] (by kernel_rfl) (by kernel_rfl) (by simp[ak])
    .trivial
    .simp (maxSteps:=1000000)only[List.take_succ_cons,List.take_zero,aw,aA,aa,Act.put,List.setIfInBounds_toArray,List.set_cons_zero,List.set_cons_succ,aK,aO,ak,List.getD_cons_zero,List.getD_cons_succ,and_true,true_and,forall_const];and_intros
     .as_aux_lemma =>
      intro C D b R c;have I:=b.cell H;have K:=b.cell J;go_simp;exact c _ _ (Ext.refl _) rfl
     iterate 4
      .as_aux_lemma =>
       intro C D b d R c;have I:=b.cell H;have K:=b.cell J;go_simp;exact c _ _ (Ext.refl _) rfl
     .as_aux_lemma =>
      intro C D b d R c;obtain⟨r,t,N⟩:=d;have I:=b.cell H;have K:=b.cell J;go_simp;exact c _ _ (Ext.refl _) rfl
     iterate 4
      .as_aux_lemma =>
       intro C D b d R c;obtain⟨r,t⟩:=d;have I:=b.cell H;have K:=b.cell J;go_simp;exact c _ _ (Ext.refl _) rfl
     iterate 2
      .as_aux_lemma =>
       intro C D b d R c;have I:=b.cell H;have K:=b.cell J;go_simp;exact c _ _ (Ext.refl _) rfl
     .as_aux_lemma =>
      intro C D b d R c;obtain⟨r,t,N⟩:=d;have I:=b.cell H;have K:=b.cell J;go_simp;exact c _ _ (Ext.refl _) rfl
     iterate 2
      .as_aux_lemma =>
       intro C D b d R c;obtain⟨r,t⟩:=d;have I:=b.cell H;have K:=b.cell J;go_simp;exact c _ _ (Ext.refl _) rfl
     .as_aux_lemma =>
      intro C D b d R c;obtain⟨r,t⟩:=d;have I:=b.cell H;have K:=b.cell J;go_simp;exact c _ _ (Ext.refl _) (by rw[decide_eq_false (by have:=cp.out;omega)])
     .as_aux_lemma =>
      intro C D b d R c;obtain⟨r,t,N⟩:=d;have I:=b.cell H;have K:=b.cell J;go_simp;exact c _ _ (Ext.refl _) rfl
     .as_aux_lemma =>
      intro C D b d R c;obtain⟨r,t⟩:=d;have I:=b.cell H;have K:=b.cell J;go_simp;exact c _ _ (Ext.refl _) rfl
     iterate 6
      .as_aux_lemma =>
       intro C D b d R c;have I:=b.cell H;have K:=b.cell J;go_simp;exact c _ _ (Ext.refl _) rfl
     .as_aux_lemma =>
      intro C D b d R c;obtain⟨r,t,N⟩:=d;have I:=b.cell H;have K:=b.cell J;go_simp;exact c _ _ (Ext.refl _) rfl
     .as_aux_lemma =>
      intro C D b d R c;obtain⟨r,t⟩:=d;have I:=b.cell H;have K:=b.cell J;go_simp;exact c _ _ (Ext.refl _) rfl
     .as_aux_lemma =>
      intro C D b d R c;obtain⟨r,t,N,dc,dk,dl⟩:=d;have I:=b.cell H;have K:=b.cell J;go_simp;exact c _ _ (Ext.refl _) rfl
     .as_aux_lemma =>
      intro C D b d R c;obtain⟨r,t⟩:=d;have I:=b.cell H;have K:=b.cell J;go_simp;exact c _ _ (Ext.refl _) rfl
     .as_aux_lemma =>
      intro C D b d R c;obtain⟨r,t,N⟩:=d;have I:=b.cell H;have K:=b.cell J;go_simp;exact c _ _ (Ext.refl _) rfl
     .as_aux_lemma =>
      intro C D b d R c;obtain⟨r,t⟩:=d;have I:=b.cell H;have K:=b.cell J;go_simp;exact c _ _ (Ext.refl _) rfl
     iterate 2
      .as_aux_lemma =>
       intro C D b d R c;have I:=b.cell H;have K:=b.cell J;go_simp;exact c _ _ (Ext.refl _) rfl
     .as_aux_lemma =>
      intro C D b d R c;obtain⟨r,t⟩:=d;go_simp;exact(m9 (W.out.more b)).mono (by rintro e' G ⟨rfl,X⟩;exact⟨_,rfl,c _ _ X rfl⟩)
     .as_aux_lemma =>
      intro C D b d R c;have I:=b.cell H;have K:=b.cell J;go_simp;exact c _ _ (Ext.refl _) rfl
     iterate 3
      .as_aux_lemma =>
       intro C D b d R c;obtain⟨r,t⟩:=d;have I:=b.cell H;have K:=b.cell J;go_simp;exact c _ _ (Ext.refl _) rfl
     .as_aux_lemma =>
      intro C D b d R c;obtain⟨r,t,N⟩:=d;have I:=b.cell H;have K:=b.cell J;go_simp;exact c _ _ (Ext.refl _) rfl
     .as_aux_lemma =>
      intro C D b d R c;obtain⟨r,t⟩:=d;have I:=b.cell H;have K:=b.cell J;go_simp;exact c _ _ (Ext.refl _) rfl
     iterate 3
      .as_aux_lemma =>
       intro C D b d R c;have I:=b.cell H;have K:=b.cell J;go_simp;exact c _ _ (Ext.refl _) rfl
     .as_aux_lemma =>
      intro C D b d R c;obtain⟨r,t,N⟩:=d;go_simp;exact(oR (W.out.more b) b5.out (by omega)).mono (by rintro e' G ⟨rfl,X⟩;exact⟨_,rfl,c _ _ X rfl⟩)
     iterate 2
      .as_aux_lemma =>
       intro C D b d R c;obtain⟨r,t⟩:=d;have I:=b.cell H;have K:=b.cell J;go_simp;exact c _ _ (Ext.refl _) rfl
    intro C wz bs d;simp only[aP,Nat.zero_add,Nat.reduceAdd,and_true]at d;simp(maxSteps:=1000000)only[List.take_succ_cons,List.take_zero,List.drop_succ_cons,List.drop_zero,aa,Act.put,List.setIfInBounds_toArray,List.set_cons_zero,List.set_cons_succ,Nat.zero_add,Nat.reduceAdd,d];clear d;have br:Hid (Tw w [] wz (.pointer (some ⟨Y,0,none⟩)) (.pointer (some ⟨T,0,none⟩)) V bb Q m m 0 0):=W.out.more bs;clear bs H J;go_wp2_with fail;go_roundw
    case rel=>exact⟨k+1,V,bb,Q,m,0,a'.out,by go_num,rfl,rfl,br.out,b5.out,by omega,by omega⟩
    case measure=>have:=a'.out;simp[intOf];omega
   .as_aux_lemma =>
    have cp:Hid (¬(0:Int)<=E.kind):=by unfold Hid;omega
    go_wp2_with fail;go_at_call 9;refine(jB (Two2.CZ H2.out) bt.out).mono ?_;rintro ex w5 ⟨V,bb,rfl,a2,-,a3,a4,a5⟩;obtain⟨w6,P⟩:∃w6,w6=w5.alloc (.cells #[.pointer (some ⟨T,0,none⟩),.int .i64 0] 36):=⟨_,rfl⟩;have a6:Ext w5 w6:=by rw[P];exact(Ext.refl _).alloc _
    obtain⟨Q,U⟩:∃g,w5.heap.size=g:=⟨_,rfl⟩;have W:Hid (Tw w [] w6 (.pointer (some ⟨Y,0,none⟩)) (.pointer (some ⟨T,0,none⟩)) V bb Q m m 0 0):=oK H2.out a2 a3 a4 a5 a6 (Nat.le_of_eq U) (by rw[<-U,P];exact ab _ _);clear a2 a3 a6 a4 a5 H;go_upto_region 15 with fail;rw[<-P];clear P U HT H2;have H:=W.out.ext.cell (HC.out 0 _ rfl);simp only[Nat.add_zero]at H;have J:=oQ W.out;apply aj 45 [.pointer (some ⟨V,0,none⟩),.bool false,.bool false,.slice (some ⟨bk,ok,none⟩) l.length bd,.int .i64 k,.pointer (some ⟨bk,ok+k*19,none⟩),.pointer (some ⟨bk,ok+k*19,none⟩),.int .i64 E.kind,.bool false,.bool false,undef,undef,undef,undef,undef,undef,.bool false,.bool false,undef,undef,undef,undef,undef,undef,undef,undef,undef,undef,.bool false,.bool false,.bool false,.pointer (some ⟨V,0,none⟩),.int .i64 0,.pointer (some ⟨Q,0,none⟩),.pointer (some ⟨Q,0,none⟩),.pointer (some ⟨Q,1,none⟩),.int .i64 0,.bool false,.bool false,.bool false,.pointer (some ⟨Y,0,none⟩),.pointer (some ⟨T,0,none⟩),.bool true,.bool false,.bool false] [none,none,none,none,none,none,none,none,none,none,none,none,none,none,none,none,none,none,none,none,none,none,none,none,none,none,none,none,none,none,none,none,none,none,none,none,none,none,none,none,none,none,none,none,none] [[],[0],[1],[2],[2],[2,3,4],[2,5],[2,6],[2,7],[2,8],[9],[9],[9,10,11],[9,12],[9,13],[9,14],[2,9,15],[2,16],[17],[17],[17],[17],[17],[17],[17,22,23],[17,24],[17,18,19,20,21,25],[17,26],[2,17,27],[2,28],[29],[30],[30,31],[30],[30,33],[30,34],[30,35],[30,32,36],[30,37],[38],[39],[39],[39,40,41],[39,42],[39,43]] (by kernel_rfl) (by kernel_rfl) (by simp[ak])
    .trivial
    .simp (maxSteps:=1000000)only[List.take_succ_cons,List.take_zero,aw,aA,aa,Act.put,List.setIfInBounds_toArray,List.set_cons_zero,List.set_cons_succ,aK,aO,ak,List.getD_cons_zero,List.getD_cons_succ,and_true,true_and,forall_const];and_intros
     .as_aux_lemma =>
      intro C D b R c;have I:=b.cell H;have K:=b.cell J;go_simp;exact c _ _ (Ext.refl _) rfl
     iterate 4
      .as_aux_lemma =>
       intro C D b d R c;have I:=b.cell H;have K:=b.cell J;go_simp;exact c _ _ (Ext.refl _) rfl
     .as_aux_lemma =>
      intro C D b d R c;obtain⟨r,t,N⟩:=d;have I:=b.cell H;have K:=b.cell J;go_simp;exact c _ _ (Ext.refl _) rfl
     iterate 2
      .as_aux_lemma =>
       intro C D b d R c;obtain⟨r,t⟩:=d;have I:=b.cell H;have K:=b.cell J;go_simp;exact c _ _ (Ext.refl _) rfl
     .as_aux_lemma =>
      intro C D b d R c;obtain⟨r,t⟩:=d;have I:=b.cell H;have K:=b.cell J;go_simp;exact c _ _ (Ext.refl _) (by rw[decide_eq_false (by have:=cp.out;omega)])
     .as_aux_lemma =>
      intro C D b d R c;obtain⟨r,t⟩:=d;have I:=b.cell H;have K:=b.cell J;go_simp;exact c _ _ (Ext.refl _) rfl
     iterate 2
      .as_aux_lemma =>
       intro C D b d R c;have I:=b.cell H;have K:=b.cell J;go_simp;exact c _ _ (Ext.refl _) rfl
     .as_aux_lemma =>
      intro C D b d R c;obtain⟨r,t,N⟩:=d;have I:=b.cell H;have K:=b.cell J;go_simp;exact c _ _ (Ext.refl _) rfl
     iterate 3
      .as_aux_lemma =>
       intro C D b d R c;obtain⟨r,t⟩:=d;have I:=b.cell H;have K:=b.cell J;go_simp;exact c _ _ (Ext.refl _) rfl
     .as_aux_lemma =>
      intro C D b d R c;obtain⟨r,t,N⟩:=d;have I:=b.cell H;have K:=b.cell J;go_simp;exact c _ _ (Ext.refl _) rfl
     .as_aux_lemma =>
      intro C D b d R c;obtain⟨r,t⟩:=d;have I:=b.cell H;have K:=b.cell J;go_simp;exact c _ _ (Ext.refl _) rfl
     iterate 6
      .as_aux_lemma =>
       intro C D b d R c;have I:=b.cell H;have K:=b.cell J;go_simp;exact c _ _ (Ext.refl _) rfl
     .as_aux_lemma =>
      intro C D b d R c;obtain⟨r,t,N⟩:=d;have I:=b.cell H;have K:=b.cell J;go_simp;exact c _ _ (Ext.refl _) rfl
     .as_aux_lemma =>
      intro C D b d R c;obtain⟨r,t⟩:=d;have I:=b.cell H;have K:=b.cell J;go_simp;exact c _ _ (Ext.refl _) rfl
     .as_aux_lemma =>
      intro C D b d R c;obtain⟨r,t,N,dc,dk,dl⟩:=d;have I:=b.cell H;have K:=b.cell J;go_simp;exact c _ _ (Ext.refl _) rfl
     .as_aux_lemma =>
      intro C D b d R c;obtain⟨r,t⟩:=d;have I:=b.cell H;have K:=b.cell J;go_simp;exact c _ _ (Ext.refl _) rfl
     .as_aux_lemma =>
      intro C D b d R c;obtain⟨r,t,N⟩:=d;have I:=b.cell H;have K:=b.cell J;go_simp;exact c _ _ (Ext.refl _) rfl
     .as_aux_lemma =>
      intro C D b d R c;obtain⟨r,t⟩:=d;have I:=b.cell H;have K:=b.cell J;go_simp;exact c _ _ (Ext.refl _) rfl
     iterate 2
      .as_aux_lemma =>
       intro C D b d R c;have I:=b.cell H;have K:=b.cell J;go_simp;exact c _ _ (Ext.refl _) rfl
     .as_aux_lemma =>
      intro C D b d R c;obtain⟨r,t⟩:=d;go_simp;exact(m9 (W.out.more b)).mono (by rintro e' G ⟨rfl,X⟩;exact⟨_,rfl,c _ _ X rfl⟩)
     .as_aux_lemma =>
      intro C D b d R c;have I:=b.cell H;have K:=b.cell J;go_simp;exact c _ _ (Ext.refl _) rfl
     iterate 3
      .as_aux_lemma =>
       intro C D b d R c;obtain⟨r,t⟩:=d;have I:=b.cell H;have K:=b.cell J;go_simp;exact c _ _ (Ext.refl _) rfl
     .as_aux_lemma =>
      intro C D b d R c;obtain⟨r,t,N⟩:=d;have I:=b.cell H;have K:=b.cell J;go_simp;exact c _ _ (Ext.refl _) rfl
     .as_aux_lemma =>
      intro C D b d R c;obtain⟨r,t⟩:=d;have I:=b.cell H;have K:=b.cell J;go_simp;exact c _ _ (Ext.refl _) rfl
     iterate 3
      .as_aux_lemma =>
       intro C D b d R c;have I:=b.cell H;have K:=b.cell J;go_simp;exact c _ _ (Ext.refl _) rfl
     .as_aux_lemma =>
      intro C D b d R c;obtain⟨r,t,N⟩:=d;go_simp;exact(oR (W.out.more b) b5.out (by omega)).mono (by rintro e' G ⟨rfl,X⟩;exact⟨_,rfl,c _ _ X rfl⟩)
     iterate 2
      .as_aux_lemma =>
       intro C D b d R c;obtain⟨r,t⟩:=d;have I:=b.cell H;have K:=b.cell J;go_simp;exact c _ _ (Ext.refl _) rfl
    intro C wz bs d;simp only[aP,Nat.zero_add,Nat.reduceAdd,and_true]at d;simp(maxSteps:=1000000)only[List.take_succ_cons,List.take_zero,List.drop_succ_cons,List.drop_zero,aa,Act.put,List.setIfInBounds_toArray,List.set_cons_zero,List.set_cons_succ,Nat.zero_add,Nat.reduceAdd,d];clear d;have br:Hid (Tw w [] wz (.pointer (some ⟨Y,0,none⟩)) (.pointer (some ⟨T,0,none⟩)) V bb Q m m 0 0):=W.out.more bs;clear bs H J;go_wp2_with fail;go_roundw
    case rel=>exact⟨k+1,V,bb,Q,m,0,a'.out,by go_num,rfl,rfl,br.out,b5.out,by omega,by omega⟩
    case measure=>have:=a'.out;simp[intOf];omega
 .obtain rfl:k=l.length:=by omega
  have cq:Hid (Ext w wr):=HT.out.ext;go_wp2_with fail;go_at_call 5;refine(iI wr (HE.out.ext cq.out) (bh.out.ext cq.out)).mono ?_;rintro ex w7 ⟨rfl,dn⟩;have ef:Hid (Ext w w7):=cq.out.trans dn;clear dn;go_wp2;go_ret;exact⟨rfl,ef.out⟩
end
end Go.Proofs.YtfabjgfmiaammaaGreatDoor
