/- Contracts of the program's functions and plain laws behind the card. Conditions: as each theorem states. -/
import Derived.Test.YtfabjgfmiaammaaGreatDoorYbt
import Derived.Test.YtfabjgfmiaammaaGreatDoorYat
import Derived.Test.YtfabjgfmiaammaaGreatDoorYbr
import Derived.Test.YtfabjgfmiaammaaGreatDoorYbi
import Derived.Test.YtfabjgfmiaammaaGreatDoorYbj
import Derived.Test.YtfabjgfmiaammaaGreatDoorYbo
import Derived.Deep.MidRow
import Derived.Deep.DeepCutAuto
set_option linter.unusedVariables false
set_option linter.unusedSimpArgs false
set_option linter.unusedSectionVars false
set_option maxRecDepth 100000
set_option maxHeartbeats 64000000
namespace Go.Proofs.YtfabjgfmiaammaaGreatDoor
section
open Go Go.RowKit
def mZ:List B8->Bool
 | [a,b,c]=>a==[115] && (b==[111] && al c)
 | _=>false
def gC (p:B8):Bool:=mZ (cj p)
def Up (m:Fs):Prop:=m.down=false/\m.plan=[]
variable {m:Fs}
theorem nD (h:Up m):av m=({ m with calls:=m.calls+1 },false,0):=by
 unfold av;simp[h.1,h.2]
theorem rR (h:Up m):Up (av m).1/\(av m).1.now=m.now:=by rw[nD h];exact⟨h,rfl⟩
theorem zr (m:Fs):Up (dH (eG m [])):=⟨rfl,rfl⟩
theorem zq (h:Up m):aK m=((av m).1,dx ((aM m.now).filter (aB cF)),0):=by
 have a:bg m cF=((av m).1,(aM m.now).filter (aB cF),0):=by
  unfold bg;rw[nD h];rfl
 unfold aK;rw[a];rfl
variable {id:B8}
theorem Bl (h:al id=true):∀x∈id,x≠47:=fun x b e=>by
 have a:=(iy h).2 x b;rw[e]at a
 revert a
 decide
theorem pD (h:al id=true) (b:az (ai id)=true):cj (ai id)=[[115],[111],id]:=by
 unfold cj;rw[if_pos b];have a:=mP (c:=47) (Bl h);unfold ai;show cut 47 (115::47::111::47::id)=_;simp[cut,a]
variable {p:B8}
theorem oP (i:az p=true):gC p=true↔∃id,al id=true/\p=ai id:=by
 constructor
 .intro h;unfold gC mZ at h;split at h
  .rename_i a b c e;simp only[Bool.and_eq_true,beq_iff_eq]at h;obtain⟨rfl,rfl,d⟩:=h;refine⟨c,d,?_⟩;unfold cj at e;rw[if_pos i]at e;have g:=ky 47 p;rw[e]at g;rw[<-g];simp[Lib.join,ai]
  .cases h
 .rintro ⟨id,d,rfl⟩;unfold gC;rw[pD d i];simp[mZ,d]
theorem kU (id:B8):Lib.trimPrefix (ai id) eP=id:=by
 unfold Lib.trimPrefix ai;rw[if_pos (by simp[Lib.hasPrefix,eP])];rfl
theorem uS (h:aB cF p=true):ai (Lib.trimPrefix p eP)=p:=by
 obtain⟨r,rfl⟩:=(fo _ _).1 h;have e:cF++47::r=ai r:=rfl;rw[e,kU]
theorem vR (c:az p=true):gC p=(aB cF p && al (Lib.trimPrefix p eP)):=by
 rw[Bool.eq_iff_iff,oP c,Bool.and_eq_true];constructor
 .rintro ⟨id,d,rfl⟩;exact⟨(fo _ _).2 ⟨id,rfl⟩,by rw[kU];exact d⟩
 .rintro ⟨a,b⟩;exact⟨_,b,(uS a).symm⟩
theorem m5:∀ {l:List B8},(∀p∈l,az p=true)->dx (l.filter (aB cF))=(l.filter gC).map fun p=>Lib.trimPrefix p eP
 | [],_=>rfl
 | p::l,h=>by
  have d:=m5 (l:=l) (fun q e=>h q (by simp[e]));have c:=vR (h p (by simp));unfold dx at d ⊢;rw[List.filter_cons,List.filter_cons]
  by_cases a:aB cF p=true
  .rw [if_pos a,List.map_cons,List.filter_cons,d]
   by_cases b:al (Lib.trimPrefix p eP)=true
   .rw [if_pos b,if_pos (by rw[c,a,b];rfl),List.map_cons]
   .rw [if_neg b,if_neg (by rw[c,a];simpa using b)]
  .rw [if_neg a,d,if_neg (by rw[c];simp[a])]
variable {l:List B8}
theorem vT (h:∀p∈l,az p=true):(dx (l.filter (aB cF))).length=l.countP gC:=by
 rw[m5 h,List.length_map,List.countP_eq_length_filter]
theorem Ah (h:∀p∈l,az p=true) (a:ai id∈l) (b:al id=true):(dx (l.filter (aB cF))).contains id=true:=by
 rw[List.contains_iff_mem,m5 h];exact List.mem_map.2 ⟨ai id,List.mem_filter.2 ⟨a,(oP (h _ a)).2 ⟨id,b,rfl⟩⟩,kU id⟩
theorem r9 {k:Nat} (h:l[k]? = some p):(l.take (k+1)).countP gC=(l.take k).countP gC+if gC p=true then 1 else 0:=by
 rw[List.take_add_one,h,List.countP_append];simp
theorem AL (h:Up m) (b:OkM m) (p:al id=true) (l:ai id∈aM m.now):gM m id=(aR (cz m (ai id)).1.data==id)/\(bj m id).1=(av m).1:=by
 obtain⟨e,g,a⟩:=List.mem_map.1 l;have c:az (ai id)=true:=by rw[<-a];exact(b.Cl e g).1
 have j:(aA m.now (ai id)).isSome=true:=lB.2 ⟨e,g,a⟩;obtain⟨f,i⟩:=Option.isSome_iff_exists.1 j;have n:aF m (ai id)=((av m).1,f,0):=by
  unfold aF;rw[nD h];simp[c,i]
 have d:cz m (ai id)=(f,true):=by unfold cz;rw[i]
 have k:bj m id=if aR f.data≠id then((av m).1,[],5)else((av m).1,f.data,0):=by
  unfold bj;rw[n];simp[p]
 unfold gM;rw[k,d]
 by_cases o:aR f.data=id
 iterate 2
  .simp [o]
end
section
open Go Go.RowKit
structure FreeS (O:Nat->Prop) (gs gc:Nat) (w:World) (v:Value) (L:List B8):Prop where
 strs:IsStrs w v L
 fr:∀b,v.ownBlock=some b->b<w.heap.size/\¬O b/\b≠gs/\b≠gc
variable {w w':World} {L:List B8}
theorem xo {v:Value} (h:IsStrs w v L) (k:∀b,v.ownBlock=some b->w'.heap[b]? = w.heap[b]?):IsStrs w' v L:=by
 obtain⟨a,c,rfl,d,e,g,j⟩:=h;refine⟨a,c,rfl,d,e,g,fun n=>?_⟩;obtain⟨b,o,rfl,l⟩:=j n;refine⟨b,o,rfl,fun i u p=>?_⟩;rw[World.cell?_of_block (w:=w) (w':=w') (a:=⟨b,o+i,none⟩) (k b rfl)];exact l i u p
section
variable {O O':Nat->Prop} {gs gc:Nat} {w w':World} {v:Value} {L:List B8}
theorem FreeS.ext (h:FreeS O gs gc w v L) (c:Ext w w'):FreeS O gs gc w' v L :=
 ⟨IsStrs.ext h.strs c,fun b a=>⟨Nat.lt_of_lt_of_le (h.fr b a).1 c.size,(h.fr b a).2⟩⟩
theorem FreeS.Dc (h:FreeS O gs gc w v L) (i:FrS O O' gs gc w w'):FreeS O' gs gc w' v L:=by
 refine⟨xo h.strs (fun b g=>?_),fun b g=>?_⟩
 .obtain ⟨d,e,a,c⟩:=h.fr b g;exact(i b d e a c).1
 .obtain ⟨d,e,a,c⟩:=h.fr b g;obtain⟨j,k⟩:=i.row (Array.getElem?_eq_getElem d) e a c;exact⟨(Array.getElem?_eq_some_iff.1 j).1,k,a,c⟩
end
section
variable {A B F:World->Prop} {u:Option Value} {hb:Bool} {w w':World}
structure LJ (A B F:World->Prop) (hb:Bool) (u:Option Value) (w:World):Prop where
 f:F w
 pre:u=none->A w
 post:∀v,u=some v->v=.bool hb/\B w
theorem LJ.more (h:LJ A B F hb u w) (b:∀w w',A w->Ext w w'->A w') (c:∀w w',B w->Ext w w'->B w') (hF:∀w w',F w->Ext w w'->F w') (a:Ext w w'):LJ A B F hb u w' :=
 ⟨hF _ _ h.f a,fun e=>b _ _ (h.pre e) a,fun v e=>⟨(h.post v e).1,c _ _ (h.post v e).2 a⟩⟩
theorem LJ.set (a:B w') (hF:F w'):LJ A B F hb (some (.bool hb)) w':=⟨hF,fun e=>(by cases e),fun v e=>(by cases e;exact⟨rfl,a⟩)⟩
end
variable [Inhabited bf] [KW:Inhabited cZ]
variable {w0:World} {f:Value} {m:Fs}
theorem AF {S O:Nat->Prop} {e d:Nat} {m':Fs} {n:Int} (c:∀k,cJ k=none) (h:St w0 S O w f e d m n) (g:IsFs (Nu w w') O (Nw (fun k=>k<w.heap.size) w w') w' f m') (b:Fr O w w'):St w0 (Nu w w') O w' f e d m' n:=by
 have p:=b.size;have l:=h.lt;have j:=h.one.ext.size;exact⟨⟨Ext.Cb h.one.ext b (fun k a=>(h.one.lo k a).1),g.mono (fun _ h=>h) (fun k a=>by rcases a with a | a <;> omega),fun k a=>⟨(h.one.lo k a).1,by have:=(h.one.lo k a).2;omega⟩,fun k a=>⟨by have:=a.1;omega,a.2⟩,fun k a i=>by have:=(h.one.lo k i).2;have:=a.1;omega⟩,
  b.row h.row h.out.1,b.row h.B9 h.out.2.1,h.lo,⟨h.out.1,h.out.2.1,fun a=>by have:=a.1;omega,fun a=>by have:=a.1;omega⟩,fun k o a=>(by rw[c]at a;cases a),ir c _⟩
theorem Ao {ops:Array Oper} {rest:List Oper} {c:Oper} {a:Act} {Q:Exit->Act->World->Prop} (p:Region.wanted c (yielded ops a.tmps)=true) (e:TypeId) (x:Operand) (l:c.op=.load e x)
  (b o:Nat) (q:a.eval x=.pointer (some ⟨b,o,none⟩)) (cs:List Value) (d:TypeDesc) (i:w.rangeAt b o cs)
  (n:Tryz.prog.underlying e=some d) (j:d.isRow=true) (k:(Tryz.prog.info? e).map (·.size)=some cs.length)
  (h:wpList Tryz.prog ops Q rest (a.put c.dst (.agg cs.toArray)) w):wpList Tryz.prog ops Q (c::rest) a w :=
 wpList_step fun K g=>by
  simp only[p,if_true];exact wp_load_mid e x l b o q cs d i n j k (g _ _ h)
theorem zk (h:L.length=3):∃a b c,L=[a,b,c]:=by
 match L,h with
 | [a,b,c],_=>exact⟨a,b,c,rfl⟩
theorem Ag (h:L.length≠3):mZ L=false:=by
 unfold mZ;split
 .exact (h rfl).elim
 .rfl
theorem Two2.Dj {c:World} {S O O':Nat->Prop} {x:Value} (h:Two w0 S O O' c f x m) (b:Ext w w0) (d:Ext cy w):Two w S O O' c f x m:=by
 have e:=b.size;exact⟨d,b.trans h.ext,h.fs,h.ref,fun k a=>by have:=h.lo k a;omega,fun k a=>by have:=h.Cu k a;omega,fun k a=>by have:=h.Cm k a;omega,h.Ci,h.B3⟩
theorem sJ (f':∀k,cJ k=none) (v:Value) (l:List Mop) (w:World) (hB:Ext cy w) (hE:Env w) (f3:EnvS w) (hv:k' w v l) (hi:∀x∈l,I64 x.f.keep/\I64 x.f.BW/\∀e∈x.f.plan,I64 e.keep/\I64 e.BW) (go:∀x∈l,gH x.o.items/\∀s∈x.o.parents,s.length<=140737488355328) :
  Calls Tryz.prog 3 #[v] w fun e w'=>e=.returned (.bool true)/\Ext w w':=by
 obtain⟨a,io,rfl,V,h2,h3,h4⟩:=nW hv;have HV:Hid _:=hv;have H4:Hid _:=h4;have HI:Hid _:=hi;have fv:Hid _:=go;have HE:Hid (Env w):=hE;have bS:Hid (EnvS w):=f3;have HB:Hid (Ext cy w):=hB;have cu:Hid (∀k,cJ k=none):=f';clear h4 hv hi go hE f3 hB f';go_enter Tryz.func3,Tryz.ntmps3;go_wp2_with fail;go_at_call 5;refine(kv w HE.out bS.out).mono ?_;rintro ex w1 ⟨rfl,eS⟩;go_wp2_with fail;go_at_call 6;refine(xX eS HV.out).mono ?_;rintro ex w2 ⟨⟨fb,rfl,f5⟩,gv⟩;have b':Hid (Ext w w2):=eS.trans gv;have d3:Hid _:=f5;clear eS gv f5
 cases fb with
 | false =>
  go_wp2_with fail;go_at_call 5;refine(kv w2 (HE.out.ext b'.out) (bS.out.ext b'.out)).mono ?_;rintro ex w3 ⟨rfl,N⟩;have hO:Hid (Ext w w3):=b'.out.trans N;clear N;go_wp2;go_ret;exact⟨rfl,hO.out⟩
 | true =>
 have cc:Hid (uY l):=d3.out rfl;have fe:Hid (∀x∈l,jP x.f):=fun x W=>by
  have h9:=Ac cc.out.fs (fun o ho=>by
   obtain⟨y,hy,rfl⟩:=List.mem_map.1 ho;exact HI.out y hy)
  exact h9.2 x.f (List.mem_map.2 ⟨x,W,rfl⟩)
 have ic:l.length<=60:=cc.out.len;go_wp2_with fail;go_at_call 7;refine(tN 268435456 _ (by decide) (by decide)).mono ?_;rintro ex w3 ⟨⟨p,rfl,hf⟩,N⟩;go_wp2_with fail;go_at_call 8;refine(yy 268435456 _ (by decide) (by decide)).mono ?_;rintro ex w4 ⟨⟨q,rfl,hq⟩,co⟩;have eg:Hid (Two w _ _ _ w4 p q (fU 268435456)):=Two2.Dj (Two2.fresh hf N hq co (HB.out.trans b'.out)) b'.out HB.out;obtain⟨gf,rfl⟩:∃g,p=.pointer (some ⟨g,0,none⟩):=by
  obtain⟨g,gm,gd,vp,vl,vu,L,c0,bt,-⟩:=hf;exact⟨g,bt⟩
 obtain⟨gx,rfl⟩:=hq.ptr;have e8:Hid (Good 0 (fU 268435456)):=qR (by decide) (by decide);clear hf hq N co b';generalize fU 268435456=M0 at *;go_wp2_with fail;go_at_call 9;refine(pL (Two2.DA eg.out) cu.out).mono ?_;rintro ex w5 ⟨r,u,rfl,M,-,a4,f6,f7⟩;obtain⟨Q,au⟩:∃Q,Q=w5.alloc (.cells #[.pointer (some ⟨gx,0,none⟩),.int .i64 0] 36):=⟨_,rfl⟩;have X:Ext w5 Q:=by rw[au];exact(Ext.refl _).alloc _
 obtain⟨gy,er⟩:∃g,w5.heap.size=g:=⟨_,rfl⟩;have HT:Hid (Tw w [] Q (.pointer (some ⟨gf,0,none⟩)) (.pointer (some ⟨gx,0,none⟩)) r u gy M0 M0 0 0):=AK eg.out M a4 f6 f7 X (Nat.le_of_eq er) (by rw[<-er,au];exact ae _ _);clear M a4 X f6 f7 eg;go_upto_region 10 with fail;rw[<-au];clear au er;go_wp2_with fail;go_loopw [9] (fun i wr=>∃(k:Nat) (m:Fs) (n:Int),k<=l.length/\i=.int .i64 k/\Hid (Tw w [] wr (.pointer (some ⟨gf,0,none⟩)) (.pointer (some ⟨gx,0,none⟩)) r u gy m m n n)/\Hid (Good (3*k) m)/\Hid (0<=n/\n<=k)) (fun i _=>l.length - (intOf i).toNat)
 case atStart=>exact⟨0,M0,0,Nat.zero_le _,rfl,HT.out,e8.out,by omega,by omega⟩
 case round =>
 clear HT e8;obtain⟨k,m,n,J,rfl,HT,HG,HN⟩:=hrel
 by_cases bq:k<l.length
 .as_aux_lemma =>
  obtain⟨E,he⟩:∃e,l[k]? = some e:=⟨_,List.getElem?_eq_getElem bq⟩;obtain⟨bk,ok,cs,rfl,gb,hc⟩:=H4.out k E he;have hD:Hid (IsMop w cs E):=gb;have cq:Hid (E∈l):=List.mem_of_getElem? he;have cx:Hid (iA E.o/\E.id.length<=400):=cc.out.each E cq.out;have c3:Hid (dv E.o):=⟨(fv.out E cq.out).1,(fv.out E cq.out).2,by have:=cx.out.1.tree;omega,by have:=cx.out.1.msg;omega⟩;have fc:Hid (jP E.f):=fe.out E cq.out;obtain⟨vb,vd,vi,vp,fs,rfl,o1,o2,o3,o4,o5⟩:=gb;obtain⟨b1,b2,rfl,-⟩:=id o1.bytes;obtain⟨e1,e2,rfl,-⟩:=id o2;obtain⟨i1,i2,rfl,-⟩:=id o3;obtain⟨p1,p2,rfl,-⟩:=id o4;obtain⟨ve,vl,rfl,hd,c7⟩:=id o5;obtain⟨d1,d2,rfl,-⟩:=id hd.bytes;obtain⟨_,⟨q1,q2,rfl,-⟩,-⟩:=id c7;have HC:Hid _:=hc;have d5:Hid (Good (3*(k+1)) (eH m E)):=(uy HG.out fc.out).up (by omega);have fa:Hid (Good (3*(k+1)) m):=HG.out.up (by omega);clear he o1 o2 o3 o4 o5 hd c7 hc;have c0:=HT.out.ext.cell (HC.out 0 _ rfl);simp only[Nat.add_zero]at c0;have b4:Hid (k<l.length):=bq
  by_cases hA:0<=E.kind/\E.kind<=8
  .obtain ⟨a0,a8⟩:=hA;have g0:=HT.out.ext;have hT:Hid (Ext w wr):=g0;have hl:Hid (Calls Tryz.prog 10 #[.pointer (some ⟨gf,0,none⟩),.pointer (some ⟨gx,0,none⟩),.pointer (some ⟨r,0,none⟩),.pointer (some ⟨gy,0,none⟩),(.agg #[.int .i64 E.kind,.slice b1 E.b.length b2,.int .i64 E.o.kind,.slice e1 E.o.data.length e2,.slice i1 E.o.items.length i2,S8 E.o.tree,.slice p1 E.o.parents.length p2,.int .i64 E.o.BU,.int .i64 E.o.BS,S8 E.o.msg,S8 E.id,.int .i64 E.f.kind,.int .i64 E.f.mode,.int .i64 E.f.keep,.int .i64 E.f.BW,S8 E.f.path,S8 E.f.dest,.slice d1 E.f.data.length d2,.slice q1 E.f.plan.length q2])] wr fun e c8=>e=.returned (.bool true)/\Tw w [] c8 (.pointer (some ⟨gf,0,none⟩)) (.pointer (some ⟨gx,0,none⟩)) r u gy (eH m E) (eH m E) (eV n E) (eV n E)) :=
    xf cu.out HT.out HB.out HE.out bS.out HG.out (by omega) HN.out.1 (by have:=HN.out.2;omega) hD.out cx.out.1 cx.out.2 c3.out fc.out
   have a5:Hid (0<=eV n E/\eV n E<=(k+1:Nat)):=by
    have h9:=zV n E;have h8:=HN.out;unfold Hid;omega
   clear g0
   go_wp2_with (refine Ao rfl 46 (.tmp 81) rfl bk (ok+k*19) rfl _ _ (fun j v hv=>Ext.cell hT.out (HC.out j v hv)) Tryz.underlying46 rfl (by show _=some 19;kernel_rfl) ?_)
   go_at_call 10;refine Calls.mono hl.out ?_;rintro ex w7 ⟨rfl,f4⟩;have hM:Hid _:=f4;clear f4;go_wp2;go_roundw
   case rel=>exact⟨k+1,_,_,b4.out,by go_num,hM.out,d5.out,a5.out⟩
   case measure=>have:=b4.out;simp[intOf];omega
  .have a5:Hid (0<=n/\n<=(k+1:Nat)):=by have:=HN.out;unfold Hid;omega
   have hB:E.kind<0\/¬E.kind<0/\¬E.kind<=8:=by omega
   clear hA;rcases hB with b0 | ⟨b0,b8⟩
   .have b9:¬0<=E.kind:=by omega
    go_wp2;go_roundw
    case rel=>exact⟨k+1,_,_,b4.out,by go_num,HT.out,fa.out,a5.out⟩
    case measure=>have:=b4.out;simp[intOf];omega
   .have b9:0<=E.kind:=by omega
    have b7:(8:Int)<E.kind:=by omega
    go_wp2;go_roundw
    case rel=>exact⟨k+1,_,_,b4.out,by go_num,HT.out,fa.out,a5.out⟩
    case measure=>have:=b4.out;simp[intOf];omega
 .obtain rfl:k=l.length:=by omega
  obtain⟨S,O,Oy,gr⟩:=HT.out;have HS:Hid (St w S O wr (.pointer (some ⟨gf,0,none⟩)) r u m n):=gr.st;have b3:Hid (Good (3*l.length) (dH (eG m []))):=mr (pA HG.out (by simp) (fun e he=>by cases he));have eh:Hid (Up (dH (eG m []))):=zr m;clear gr HT HG;go_wp2_with fail;go_at_call 11;refine(rB HS.out.one.fs (fun k J=>(HS.out.one.lo k J).2) (wW _) (by simp)).mono ?_;rintro ex w7 ⟨rfl,hf,H⟩;have ec:Hid (St w (Nu wr w7) O w7 (.pointer (some ⟨gf,0,none⟩)) r u (eG m []) n):=AF cu.out HS.out hf H;clear hf H HS;go_wp2_with fail;go_at_call 12;refine(ow ec.out.one.fs).mono ?_;rintro ex w8 ⟨rfl,gi⟩;have c2:Hid (St w (Nu wr w7) (Nw O w7 w8) w8 (.pointer (some ⟨gf,0,none⟩)) r u (dH (eG m [])) n):=St.post ec.out gi;clear gi ec;generalize dH (eG m [])=m8 at *;generalize Nu wr w7=G at *;generalize Nw O w7 w8=O8 at *;have bl:=rR eh.out;have cl:=kf c2.out HE.out b3.out (by omega);rw[zq eh.out]at cl;obtain⟨P,hP⟩:∃P,aM m8.now=P:=⟨_,rfl⟩;have d8:Hid (∀p∈P,az p=true):=fun p hp=>by
   rw[<-hP]at hp;obtain⟨e,he,rfl⟩:=List.mem_map.1 hp;exact(b3.out.ok.Cl e he).1
  have fn:Hid (cM P):=by
   have h9:=c2.out.one.fs.CS.1;unfold Hid cM;rw[<-hP];unfold aM;rw[List.pairwise_map];exact h9
  have iv:P.length<=50000:=by
   have V:=b3.out.ok.B7;have h2:=b3.out.time;rw[<-hP];unfold aM;rw[List.length_map];omega
  rw[hP]at cl;obtain⟨d,a'⟩:∃I,dx (P.filter (aB cF))=I:=⟨_,rfl⟩;have g':Hid (d.length=P.countP gC):=by rw[<-a'];exact vT d8.out
  have ht:Hid (∀id,ai id∈P->al id=true->d.contains id=true):=fun id hm hv=>by rw[<-a'];exact Ah d8.out hm hv
  have fl:Hid (bJ d=true):=by
   rw[<-a'];exact(iK _).2 (qU (fun p hp=>(List.mem_filter.1 hp).2) (List.Pairwise.filter _ fn.out))
  have e9:Hid (Good (3*l.length+1) (av m8).1):=jz b3.out;rw[a']at cl;have cm:Hid (aM (av m8).1.now=P):=by rw[bl.2];exact hP
  have fx:Hid (Up (av m8).1):=bl.1;generalize(av m8).1=m9 at *;have HL:Hid _:=cl;clear cl a' hP bl fn eh b3;go_wp2_with fail;go_at_call 13;refine Calls.mono HL.out ?_;rintro ex w9 ⟨O9,va,rfl,⟨bs,hX,gh,K⟩,f9,M⟩;have fu:Hid (St w G O9 w9 (.pointer (some ⟨gf,0,none⟩)) r u m9 n):=M;have dk:Hid (FreeS O9 r u w9 va d):=by
   have ga:=c2.out.lt;refine⟨Row.BV K (by omega),fun b hb=>?_⟩;have h9:=World.ownsRow.lt K b hb;exact⟨h9.2,fun ho=>by have:=gh b ho;omega,by omega,by omega⟩
  have il:Hid _:=f9;clear hX gh K f9 M HL c2;go_wp2_with fail;go_at_call 14;refine(oz va d _ dk.out.strs).mono ?_;rw[fl.out];rintro ex wa ⟨rfl,e0⟩;have a7:Hid (St w G O9 wa (.pointer (some ⟨gf,0,none⟩)) r u m9 n):=fu.out.more e0;have c9:Hid (FreeS O9 r u wa va d):=dk.out.ext e0;clear e0 fu dk;have br:m9.now.length<=10000000:=by
   have V:=cm.out;have h2:(aM m9.now).length=m9.now.length:=by simp[aM]
   rw[<-h2,V];omega
  go_wp2_with fail;go_at_call 15;refine(lG a7.out.one.fs br).mono ?_;have da:m9.now.length=P.length:=by rw[<-cm.out];simp[aM]
  rw[cm.out,da];rintro ex wb ⟨⟨vp,rfl,K⟩,e3⟩;have c3:Hid (St w G O9 wb (.pointer (some ⟨gf,0,none⟩)) r u m9 n):=a7.out.more e3;have dl:Hid (FreeS O9 r u wb va d):=c9.out.ext e3;have d':Hid (FreeS O9 r u wb vp P):=by
   have ga:=a7.out.lt;refine⟨Row.BV K (by omega),fun b hb=>?_⟩;have h9:=World.ownsRow.lt K b hb;exact⟨h9.2,fun ho=>by have:=(a7.out.one.lo b ho).2;omega,by omega,by omega⟩
  obtain⟨pa,pc,rfl,p1,p2,p3,-⟩:=d'.out.strs.get;obtain⟨aa,ac,rfl,a1,a2,a3,-⟩:=dl.out.strs.get;have a5:Hid (0<=n/\n<=60):=by have:=HN.out;unfold Hid;omega
  have c':Hid (Good 200 m9):=e9.out.up (by omega);clear e3 K a7 c9 e9 br da fl HN;go_wp2_with fail;go_loopw [13,14] (fun c i wr=>∃(j nb:Nat) (T:Nat->Prop) (U:Fs) (nj:Int),j<=P.length/\i=.int .i64 j/\c=.int .i64 nb/\Hid (nb=(P.take j).countP gC)/\Hid (St w G T wr (.pointer (some ⟨gf,0,none⟩)) r u U nj)/\Hid (Good (200+j) U)/\Hid (Up U/\aM U.now=P)/\Hid (0<=nj/\nj<=60+j)/\Hid (FreeS T r u wr (.slice aa d.length ac) d)/\Hid (FreeS T r u wr (.slice pa P.length pc) P)) (fun _ i _=>P.length - (intOf i).toNat)
  case atStart=>exact⟨0,0,O9,m9,n,Nat.zero_le _,rfl,rfl,rfl,c3.out,c'.out,⟨fx.out,cm.out⟩,⟨a5.out.1,by have:=a5.out.2;omega⟩,dl.out,d'.out⟩
  case round =>
  clear c3 c' fx cm a5 dl d';obtain⟨j,nb,T,U,nj,C,rfl,rfl,cv,HS,HG,HU,HN,HA,HQ⟩:=hrel
  by_cases bq:j<P.length
  .have i3:nb<=P.length:=by rw[cv.out];exact Nat.le_trans List.countP_le_length (List.length_take_le' _ _)
   obtain⟨p,bt⟩:∃p,P[j]? = some p:=⟨_,List.getElem?_eq_getElem bq⟩;have a6:Hid (az p=true):=d8.out p (List.mem_of_getElem? bt);have ff:Hid (p∈P):=List.mem_of_getElem? bt;have ef:Hid (((P.take (j+1)).countP gC)=nb+if gC p=true then 1 else 0):=by rw[cv.out];exact r9 bt
   have c7:=kK a6.out;obtain⟨_,_,he,-,-,-,hg⟩:=HQ.out.strs.get;cases he;obtain⟨bb,oo,rfl,hc⟩:=hg j bq;have y1:=hc j bq;rw[show P.getD j []=p by rw[List.getD_eq_getElem?_getD,bt];rfl]at y1;have ct:Hid (j<P.length):=bq;clear hg hc bt;go_wp2_with fail;go_at_call 16;refine(mD p wr (HE.out.ext HS.out.one.ext) (by omega)).mono ?_;rintro ex w3 ⟨⟨vq,rfl,eE,H⟩,N⟩;have fr:Hid (St w G T w3 (.pointer (some ⟨gf,0,none⟩)) r u U nj):=HS.out.more N;have e4:Hid (FreeS T r u w3 (.slice aa d.length ac) d):=HA.out.ext N;have fj:Hid (FreeS T r u w3 (.slice (some ⟨bb,oo,none⟩) P.length pc) P):=HQ.out.ext N;have d0:Hid (∀b,vq.ownBlock=some b->wr.heap.size<=b):=H;have hC:Hid ((∀k,T k->k<wr.heap.size)/\r<wr.heap.size/\u<wr.heap.size):=⟨fun k J=>(HS.out.one.lo k J).2,HS.out.lt⟩;have fz:Hid (IsStrs w3 vq (cj p)):=eE;have y3:=N.cell y1;obtain⟨qa,qc,rfl,q1,q2,q3,gl⟩:=eE.get;obtain⟨hb,a9⟩:∃b,gC p=b:=⟨_,rfl⟩;have ce:Hid (mZ (cj p)=hb):=a9;rw[a9]at ef;have b6:Hid _:=gl;have cp:Hid (∀x∈cj p,x.length<=200):=fun x W=>by
    unfold cj at W;rw[if_pos a6.out]at W;exact Nat.le_trans (lg 47 p W) c7
   obtain⟨nl,br⟩:∃n,(cj p).length=n:=⟨_,rfl⟩;rw[br];rw[br]at fz d0 b6 q1 q2;have b5:Hid _:=br;clear N H eE y1 HS HA HQ gl br;go_upto_region 26 with fail;go_cut [136] (fun c wx=>c=.bool hb/\Ext w3 wx)
   case first =>
    have a9:mZ (cj p)=hb:=ce.out
    by_cases h3:nl=3
    .subst h3;obtain⟨a,b,c,bx⟩:=zk b5.out;have iE:=cp.out c (by rw[bx];simp);rw[bx]at a9;obtain⟨Y,qo,rfl,qh⟩:=b6.out 0 (by omega);have z0:=qh 0 (by omega);have z1:=qh 1 (by omega);have z2:=qh 2 (by omega);rw[bx]at z0 z1 z2;have z0:w3.cell? ⟨Y,qo,none⟩=some (S8 a):=z0;have z1:w3.cell? ⟨Y,qo+1,none⟩=some (S8 b):=z1;have z2:w3.cell? ⟨Y,qo+2,none⟩=some (S8 c):=z2;obtain⟨ba,hV⟩:∃t,(a==([115]:B8))=t:=⟨_,rfl⟩;obtain⟨b2,hU⟩:∃t,(b==([111]:B8))=t:=⟨_,rfl⟩;obtain⟨bv,eo⟩:∃t,al c=t:=⟨_,rfl⟩;have hh:(ba && (b2 && bv))=hb:=by rw[<-hV,<-hU,<-eo];exact a9
     have g9:Hid _:=eo;clear a9 qh bx eo b6 cp ce b5
     cases ba with
     | false =>
      obtain rfl:hb=false:=hh.symm;go_wp2_with fail;go_meet
      case rel=>exact⟨rfl,Ext.refl _⟩
     | true =>
      cases b2 with
      | false =>
       obtain rfl:hb=false:=hh.symm;go_wp2_with fail;go_meet
       case rel=>exact⟨rfl,Ext.refl _⟩
      | true =>
       obtain rfl:bv=hb:=hh;go_wp2_with fail;go_at_call 17;refine(fp c _ (by omega)).mono ?_;rw[g9.out];rintro ex w4 ⟨rfl,co⟩;have hQ:Hid _:=co;clear co;go_wp2_with fail;go_meet
       case rel=>exact⟨rfl,hQ.out⟩
    .have it:((nl:Int)==3)=false:=by rw[beq_eq_false_iff_ne];omega
     obtain rfl:hb=false:=by rw[<-a9];exact Ag (by rw[b5.out];exact h3)
     clear a9 b6 cp ce b5;go_wp2_with fail;go_meet
     case rel=>exact⟨rfl,Ext.refl _⟩
   case rest =>
    obtain⟨rfl,cb⟩:=hcut;have f2:Hid (Ext w3 wc):=cb;have c4:Hid (St w G T wc (.pointer (some ⟨gf,0,none⟩)) r u U nj):=fr.out.more cb;have dn:Hid (FreeS T r u wc (.slice aa d.length ac) d):=e4.out.ext cb;have ea:Hid (FreeS T r u wc (.slice (some ⟨bb,oo,none⟩) P.length pc) P):=fj.out.ext cb;have y4:=cb.cell y3;clear cb y3 fr e4 fj
    cases hb with
    | false =>
     have d7:Hid (0<=nj/\nj<=60+(j+1:Nat)):=by have:=HN.out;unfold Hid;omega
     go_wp2_with fail;go_roundw
     case rel=>exact⟨j+1,nb,T,U,nj,ct.out,by go_num,rfl,ef.out.symm,c4.out,HG.out.up (by omega),HU.out,d7.out,dn.out,ea.out⟩
     case measure=>have:=ct.out;simp[intOf];omega
    | true =>
     obtain⟨id,hv,ad⟩:=(oP a6.out).1 ce.out;have ey:cj p=[[115],[111],id]:=by
      rw[ad];exact pD hv (by rw[<-ad];exact a6.out)
     obtain rfl:3=nl:=by rw[<-b5.out,ey];rfl
     obtain⟨Y,qo,rfl,qh⟩:=b6.out 0 (by omega);have z2:=qh 2 (by omega);rw[ey]at z2;have z2:wc.cell? ⟨Y,qo+2,none⟩=some (S8 id):=f2.out.cell z2;have ia:=(iy hv).1;have hw:Hid (ai id∈aM U.now):=by rw[HU.out.2,<-ad];exact ff.out
     have ha:Hid (d.contains id=true):=ht.out id (by rw[<-ad];exact ff.out) hv;obtain⟨⟨Z,i4⟩,c6⟩:∃q,cz U p=q:=⟨_,rfl⟩;have cn:=AL HU.out.1 HG.out.ok hv hw.out;rw[<-ad,c6]at cn;obtain⟨sh,ev⟩:∃q,aR Z.data=q:=⟨_,rfl⟩;obtain⟨bh,hW⟩:∃q,(sh==id)=q:=⟨_,rfl⟩;have d6:Hid (gM U id=bh/\(bj U id).1=(av U).1):=by rw[<-hW,<-ev];exact cn
     have d9:Hid _:=rz p c4.out.one.fs (by omega);rw[c6]at d9;have hK:Hid _:=ev;have hH:Hid (Y<wc.heap.size/\¬T Y/\Y≠r/\Y≠u):=by
      have V:=d0.out Y rfl;obtain⟨h2,h3,h4⟩:=hC.out;have h5:=World.block_lt_of_cell? _ _ z2;exact⟨h5,fun ho=>by have:=h2 Y ho;omega,by omega,by omega⟩
     have i0:Z.data.length<=20000:=by
      have V:=c6;unfold cz at V
      cases hq:aA U.now p with
      | none=>rw[hq]at V;cases V;exact Nat.zero_le _
      | some g=>rw[hq]at V;cases V;exact(HG.out.ok.Cl _ (fd hq)).2
     clear c6 cn ev qh ey ad hv f2 b6 b5 ce d0 cp fz a6;go_wp2_with fail;go_at_call 18;refine Calls.mono d9.out ?_;rintro ex w5 ⟨⟨v,rfl,hd⟩,a4⟩;have hY:=hd.bytes;obtain⟨s1,t1,rfl,-⟩:=hY;have e7:Hid (IsData _ w5 (.slice s1 Z.data.length t1) Z.data):=hd;have g5:=a4.cell z2;have ih:=a4.size;have c1:Hid (St w G T w5 (.pointer (some ⟨gf,0,none⟩)) r u U nj):=c4.out.more a4;have e5:Hid (FreeS T r u w5 (.slice aa d.length ac) d):=dn.out.ext a4;have fk:Hid (FreeS T r u w5 (.slice (some ⟨bb,oo,none⟩) P.length pc) P):=ea.out.ext a4;clear a4 hd z2 y4 c4 dn ea d9
     try dsimp only
     go_upto_region 29 with fail;obtain⟨Q,au⟩:∃Q,Q=w5.alloc (.cells #[.int .i64 Z.mode,.slice s1 Z.data.length t1,.int .i64 Z.time] 56):=⟨_,rfl⟩;have X:Ext w5 Q:=by rw[au];exact(Ext.refl _).alloc _
     have c5:Q.heap[w5.heap.size]? = some (.cells #[.int .i64 Z.mode,.slice s1 Z.data.length t1,.int .i64 Z.time] 56 (0,0)):=by rw[au];exact ae _ _
     rw[<-au];obtain⟨gz,f8⟩:∃g,w5.heap.size=g:=⟨_,rfl⟩;rw[f8]at c5 ⊢;have hs:Hid (gz<Q.heap.size/\¬T gz/\gz≠r/\gz≠u):=by
      have V:=(Array.getElem?_eq_some_iff.1 c5).1;have h2:=c1.out.lt;exact⟨V,fun ho=>by have:=(c1.out.one.lo gz ho).2;omega,by omega,by omega⟩
     have ft:Hid (St w G T Q (.pointer (some ⟨gf,0,none⟩)) r u U nj):=c1.out.more X;have dc:Hid (FreeS T r u Q (.slice aa d.length ac) d):=e5.out.ext X;have hG:Hid (FreeS T r u Q (.slice (some ⟨bb,oo,none⟩) P.length pc) P):=fk.out.ext X;have ds:Hid (IsData _ Q (.slice s1 Z.data.length t1) Z.data):=IsData.ext e7.out X;have z6:=X.cell g5;have h':=X.size;obtain⟨-,zz,-⟩:=bL c5;obtain⟨F,hF⟩:∃F:World->Prop,F=fun w'=>w'.cell? ⟨Y,qo+2,none⟩=some (S8 id)/\w'.cell? ⟨gz,1,none⟩=some (.slice s1 Z.data.length t1)/\IsBytes w' (.slice s1 Z.data.length t1) Z.data/\IsStrs w' (.slice aa d.length ac) d/\Ext w w':=⟨_,rfl⟩
     obtain⟨A,hA⟩:∃A:World->Prop,A=fun w'=>Ext Q w':=⟨_,rfl⟩
     obtain⟨B,hB⟩:∃B:World->Prop,B=fun w'=>∃(O':Nat->Prop) (n':Int),St w G O' w' (.pointer (some ⟨gf,0,none⟩)) r u (av U).1 n'/\(nj<=n'/\n'<=nj+1)/\FrS T O' r u Q w'/\KeepB Q w':=⟨_,rfl⟩
     have bd:Hid (∀w',F w'->w'.cell? ⟨Y,qo+2,none⟩=some (S8 id)/\w'.cell? ⟨gz,1,none⟩=some (.slice s1 Z.data.length t1)/\IsBytes w' (.slice s1 Z.data.length t1) Z.data/\IsStrs w' (.slice aa d.length ac) d/\Ext w w'):=fun w' h=>by rw[hF]at h;exact h
     have hr:Hid (F Q):=by rw[hF];exact⟨z6,zz,ds.out.bytes,dc.out.strs,ft.out.one.ext⟩
     have d4:Hid (∀w w',F w->Ext w w'->F w'):=fun w1 w2 h W=>by
      rw[hF]at h ⊢;obtain⟨V,h2,h3,h4,h5⟩:=h;exact⟨W.cell V,W.cell h2,IsBytes.ext h3 W,IsStrs.ext h4 W,h5.trans W⟩
     have dq:Hid (∀w w',A w->Ext w w'->A w'):=fun w1 w2 h W=>by rw[hA]at h ⊢;exact Ext.trans h W
     have g6:Hid (A Q):=by rw[hA];exact Ext.refl _
     have e6:Hid (∀w w',B w->Ext w w'->B w'):=fun w1 w2 h W=>by
      rw[hB]at h ⊢;obtain⟨O',n',V,h2,h3,h4⟩:=h;exact⟨O',n',V.more W,h2,h3.trans (FrS.ext W),h4.trans (KeepB.BX W)⟩
     have d3:Hid (∀w',B w'->F w'):=fun w' h=>by
      rw[hB]at h;rw[hF];obtain⟨O',n',V,h2,h3,h4⟩:=h;obtain⟨k1,k2,k3,k4⟩:=hH.out;obtain⟨g1,g2,g3,g4⟩:=hs.out;exact⟨(World.cell?_of_block (w:=Q) (w':=w') (a:=⟨Y,qo+2,none⟩) (h3 Y (by omega) k2 k3 k4).1).trans z6,(World.cell?_of_block (w:=Q) (w':=w') (a:=⟨gz,1,none⟩) (h3 gz g1 g2 g3 g4).1).trans zz,Row.B' ds.out.bytes ds.out.typed h4,(dc.out.Dc h3).strs,V.one.ext⟩
     have hu:Hid (∀w',A w'->Calls Tryz.prog 20 #[.pointer (some ⟨r,0,none⟩),S8 id] w' fun e c8=>e=.returned (.bool bh)/\B c8):=fun w' h=>by
      rw[hA]at h;rw[hB];refine(yg cu.out id (ft.out.more h) HE.out bS.out HG.out (by omega) HN.out.1 (by have:=HN.out.2;omega) (by omega)).mono ?_;rintro e c8 ⟨O',n',he,h6,hn,M,H⟩;rw[d6.out.1]at he;rw[d6.out.2]at M;exact⟨he,O',n',M,hn,(FrS.ext h).trans H,(KeepB.BX h).trans h6⟩
     have g8:Hid (∀w',B w'->∃(O':Nat->Prop) (n':Int),St w G O' w' (.pointer (some ⟨gf,0,none⟩)) r u (av U).1 n'/\(nj<=n'/\n'<=nj+1)/\FrS T O' r u Q w'/\KeepB Q w'):=fun w' h=>by rw[hB]at h;exact h
     have q9:3<=qc:=q1;clear hF hA hB au X c5 g5 z6 zz f8 h' c1 e5 fk e7 d6;apply aI 21 (fun z w'=>LJ A B F bh (z 11) w') [false,false,false,false,false,false,false,false,false,false,false,true,false,false,false,false,false,false,false,false,false] [.slice aa d.length ac,.slice (some ⟨Y,qo,none⟩) 3 qc,.pointer (some ⟨Y,qo+2,none⟩),S8 id,.bool true,.bool false,.bool false,.pointer (some ⟨r,0,none⟩),.slice (some ⟨Y,qo,none⟩) 3 qc,.pointer (some ⟨Y,qo+2,none⟩),S8 id,undef,.pointer (some ⟨gz,1,none⟩),.slice s1 Z.data.length t1,S8 sh,.slice (some ⟨Y,qo,none⟩) 3 qc,.pointer (some ⟨Y,qo+2,none⟩),S8 id,.bool bh,.bool false,.bool false] [none,none,none,none,none,none,none,none,none,none,none,none,none,none,none,none,none,none,none,none,none] [[],[],[1],[2],[0,3],[4],[5],[6],[6],[6,8],[6,9],[6,7,10],[6],[6,12],[6,13],[6],[6,15],[6,16],[6,14,17],[6,11,18],[6,19]] (by kernel_rfl) (by kernel_rfl) rfl
     .exact ⟨d4.out _ _ hr.out ⟨rfl,rfl,rfl,Nat.le_refl _,fun _ _=>rfl⟩,fun _=>dq.out _ _ g6.out ⟨rfl,rfl,rfl,Nat.le_refl _,fun _ _=>rfl⟩,fun v e=>by cases e⟩
     .simp (maxSteps:=1000000)only[de,cN,bR,cG,cS,List.getD_cons_zero,List.getD_cons_succ,Bool.false_eq_true,if_false,if_true,and_true,true_and,forall_const,Nat.zero_add,Nat.reduceAdd,List.take_succ_cons,List.take_zero,ab,Act.put,List.setIfInBounds_toArray,List.set_cons_zero,List.set_cons_succ];and_intros
      iterate 3 · intro xs z wq C;intros;rename_i D;go_simp;exact D _ _ C rfl
      .intro xs z wq C J R D;have f0:=(bd.out _ C.f).1;go_simp;exact D _ _ C rfl
      .intro xs z wq C J R D;obtain⟨ca,bo⟩:=J;go_simp;exact(Af _ d id wq (bd.out _ C.f).2.2.2.1).mono (by rintro e' w' ⟨rfl,W⟩;exact⟨_,rfl,D _ _ (C.more dq.out e6.out d4.out W) (by rw[ha.out])⟩)
      iterate 5 · intro xs z wq C;intros;rename_i D;go_simp;exact D _ _ C rfl
      .intro xs z wq C J R D;obtain⟨ca,bo⟩:=J;have f0:=(bd.out _ C.f).1;go_simp;exact D _ _ C rfl
      .intro xs z wq C hz J R D;obtain⟨ca,bo,h0⟩:=J;rw[hz]at C;go_simp;exact(hu.out wq (C.pre rfl)).mono (by rintro e' w' ⟨rfl,h⟩;exact⟨_,rfl,D _ _ (LJ.set h (d3.out _ h))⟩)
      .intro xs z wq C;intros;rename_i D;go_simp;exact D _ _ C rfl
      .intro xs z wq C J R D;obtain⟨ca,bo⟩:=J;have f1:=(bd.out _ C.f).2.1;go_simp;exact D _ _ C rfl
      .intro xs z wq C J R D;obtain⟨ca,bo⟩:=J;go_simp;exact(vS _ Z.data wq (bS.out.ext (bd.out _ C.f).2.2.2.2) (bd.out _ C.f).2.2.1 (by omega)).mono (by rw[hK.out];rintro e' w' ⟨rfl,W⟩;exact⟨_,rfl,D _ _ (C.more dq.out e6.out d4.out W) rfl⟩)
      iterate 2 · intro xs z wq C;intros;rename_i D;go_simp;exact D _ _ C rfl
      .intro xs z wq C J R D;obtain⟨ca,bo⟩:=J;have f0:=(bd.out _ C.f).1;go_simp;exact D _ _ C rfl
      .intro xs z wq C;intros;rename_i D;go_simp;exact D _ _ C rfl
      .intro xs z wq C J R D;obtain⟨ca,bo,h0⟩:=J;have g:=(C.post _ bo).1;rw[g];go_simp;exact D _ _ C rfl
      .intro xs z wq C;intros;rename_i D;go_simp;exact D _ _ C rfl
     intro xs wz es J;simp only[di,List.getD_cons_zero,List.getD_cons_succ,Bool.false_eq_true,if_false,if_true]at es;simp only[bV,Nat.zero_add,Nat.reduceAdd,and_true]at J;simp(maxSteps:=1000000)only[List.drop_succ_cons,List.drop_zero,Nat.zero_add,Nat.reduceAdd,List.take_succ_cons,List.take_zero,ab,Act.put,List.setIfInBounds_toArray,List.set_cons_zero,List.set_cons_succ,J];clear J;generalize xs 11=i5 at *;obtain⟨O',n',M,h7,H,-⟩:=g8.out _ (es.post _ rfl).2;have hL:Hid (St w G O' wz (.pointer (some ⟨gf,0,none⟩)) r u (av U).1 n'):=M;have g7:Hid (FreeS O' r u wz (.slice aa d.length ac) d):=dc.out.Dc H;have hJ:Hid (FreeS O' r u wz (.slice (some ⟨bb,oo,none⟩) P.length pc) P):=hG.out.Dc H;have d7:Hid (0<=n'/\n'<=60+(j+1:Nat)):=by have:=HN.out;unfold Hid;omega
     have d5:Hid (Good (200+(j+1)) (av U).1):=jz HG.out;have hN:Hid (Up (av U).1/\aM (av U).1.now=P):=by
      have V:=rR HU.out.1;exact⟨V.1,by rw[V.2];exact HU.out.2⟩
     clear es M h7 H;go_wp2_with fail;go_roundw
     case rel=>exact⟨j+1,nb+1,O',_,n',ct.out,by go_num,by go_num,ef.out.symm,hL.out,d5.out,hN.out,d7.out,g7.out,hJ.out⟩
     case measure=>have:=ct.out;simp[intOf];omega
  .obtain rfl:j=P.length:=by omega
   obtain rfl:nb=d.length:=by rw[cv.out,List.take_length];exact g'.out.symm
   have ek:Hid (Ext w wr):=HS.out.one.ext;clear cv HS HG HU HN HA HQ;go_wp2_with fail;go_at_call 5;refine(kv wr (HE.out.ext ek.out) (bS.out.ext ek.out)).mono ?_;rintro ex w7 ⟨rfl,gw⟩;have hS:Hid (Ext w w7):=ek.out.trans gw;clear gw;go_wp2;go_ret;exact⟨rfl,hS.out⟩
end
end Go.Proofs.YtfabjgfmiaammaaGreatDoor
