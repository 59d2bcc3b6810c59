/- Contracts of the program's functions and plain laws behind the card. Conditions: as each theorem states. -/
import Derived.Test.YtfabjgfmiaammaaGreatDoorZac
import Derived.Sort.OwnSorted
import Derived.Sort.KeysCollected
import Derived.Shelf.SlicesE.DeleteFunc
import Derived.Lib.SliceRun
set_option linter.unusedVariables false
set_option linter.unusedSimpArgs false
set_option linter.unusedSectionVars false
set_option maxRecDepth 100000
set_option maxHeartbeats 64000000
namespace Go.Proofs.YtfabjgfmiaammaaGreatDoor
section
open Go Go.RowKit
theorem kv (c:UInt8):∀(l r:B8),cut c (l++c::r)=cut c l++cut c r
 | [],r=>by simp[cut]
 | x::l,r=>by
  have d:=kv c l r;show cut c (x::(l++c::r))=cut c (x::l)++cut c r
  by_cases b:(x==c)=true
  .rw [cut,cut,if_pos b,if_pos b,d];rfl
  .rw [cut,cut,if_neg b,if_neg b,d]
   cases e:cut c l with
   | nil=>exact(fX c l e).elim
   | cons a t=>rfl
theorem mJ (x:B8) (c:UInt8):Lib.join [x] [c]=x:=by simp[Lib.join,List.intercalate,List.intersperse]
theorem i9 (x y:B8) (L:List B8) (c:UInt8):Lib.join (x::y::L) [c]=x++c::Lib.join (y::L) [c]:=by
 simp[Lib.join,List.intercalate,List.intersperse]
theorem mK (c:UInt8):∀l:B8,Lib.join (cut c l) [c]=l
 | []=>by simp[cut,mJ]
 | x::l=>by
  have d:=mK c l;rw[cut]
  by_cases h:(x==c)=true
  .rw [if_pos h];have e:x=c:=by simpa using h
   subst e
   cases g:cut x l with
   | nil=>exact(fX x l g).elim
   | cons a t=>rw[g]at d;rw[i9,d];rfl
  .rw [if_neg h]
   cases g:cut c l with
   | nil=>exact(fX c l g).elim
   | cons a t =>
    rw[g]at d
    cases t with
    | nil=>rw[mJ]at d ⊢;rw[d]
    | cons b t=>rw[i9]at d ⊢;simp[d]
theorem mf (c:UInt8):∀(A B:List B8),A≠[]->B≠[]->Lib.join (A++B) [c]=Lib.join A [c]++c::Lib.join B [c]
 | [],_,h,_=>(h rfl).elim
 | [x],[],_,h=>(h rfl).elim
 | [x],y::B,_,_=>by rw[mJ];exact i9 x y B c
 | x::y::A,B,_,a=>by
  have b:=mf c (y::A) B (by simp) a;show Lib.join (x::y::(A++B)) [c]=_;rw[i9,i9,show y::(A++B)=(y::A)++B from rfl,b];simp
theorem gZ (d s:B8):aF d s=true↔∃r,s=d++47::r:=by
 unfold aF;rw[List.isPrefixOf_iff_prefix];constructor
 .rintro ⟨r,a⟩;exact⟨r,by rw[<-a];simp⟩
 .rintro ⟨r,a⟩;exact⟨r,by rw[a];simp⟩
variable {path p:B8}
theorem mg (c:aC path=true):p∈el path↔aF p path=true:=by
 unfold el ej dV;rw[if_pos c,gZ];constructor
 .intro h;obtain⟨i,d,rfl⟩:=List.mem_map.1 h;have a:=List.mem_range.1 d;refine⟨Lib.join ((cut 47 path).drop (i+1)) [47],?_⟩;rw[<-mf 47 _ _ (by intro b;have:=congrArg List.length b;simp at this;rw[this]at a;simp at a) (by intro b;have:=congrArg List.length b;simp at this;omega),List.take_append_drop,mK]
 .rintro ⟨r,rfl⟩;refine List.mem_map.2 ⟨(cut 47 p).length - 1,List.mem_range.2 ?_,?_⟩
  .have e:0<(cut 47 p).length:=List.length_pos_iff.2 (fX 47 p);have g:0<(cut 47 r).length:=List.length_pos_iff.2 (fX 47 r);rw[kv,List.length_append];omega
  .have e:0<(cut 47 p).length:=List.length_pos_iff.2 (fX 47 p);rw[kv,show(cut 47 p).length - 1+1=(cut 47 p).length by omega,List.take_left,mK]
variable {l:aq}
theorem o8:(ax l p).isSome=true↔∃e∈l,e.1=p:=by
 unfold ax;rw[Option.isSome_map,List.find?_isSome];simp
theorem i' (d:B8) (g:aC path=true):kq l path d=ei l path d:=by
 unfold kq ei k';rw[<-Bool.not_or];congr 1;rw[Bool.eq_iff_iff];simp only[Bool.or_eq_true,List.any_eq_true,Bool.and_eq_true,Bool.not_eq_true',beq_eq_false_iff_ne];constructor
 .rintro (⟨p,b,c,a⟩ | ⟨e,b,c,a⟩)
  .obtain ⟨e,h,rfl⟩:=o8.1 c;exact⟨e,h,a,.inl ((mg g).1 b)⟩
  .exact ⟨e,b,c,.inr a⟩
 .rintro ⟨e,b,c,a | a⟩
  .exact .inl ⟨e.1,(mg g).2 a,o8.2 ⟨e,b,rfl⟩,c⟩
  .exact .inr ⟨e,b,c,a⟩
variable {c:Ch}
theorem mL (h:∀e∈l,aC e.1=true/\e.2.data.length<=20000) (g:mI c):∀e∈ap l c,aC e.1=true/\e.2.data.length<=20000:=by
 intro e a
 cases c with
 | put p f =>
  rcases kj a with rfl | ⟨b,_⟩
  .exact g
  .exact h e b
 | mv s d =>
  unfold ap at a;simp only at a;split at a
  .rename_i x i;rcases kj a with rfl | ⟨b,_⟩
   .exact ⟨g.2.1,(h _ (fG i)).2⟩
   .exact h e (List.mem_filter.1 b).1
  .exact h e a
 | del p=>exact h e (List.mem_filter.1 a).1
theorem tS {cs:List Ch}:∀ {l:aq},(∀e∈l,aC e.1=true/\e.2.data.length<=20000)->(∀c∈cs,mI c)->∀e∈cs.foldl ap l,aC e.1=true/\e.2.data.length<=20000:=by
 induction cs with
 | nil=>exact fun h _=>h
 | cons c cs b=>exact fun h a=>b (mL h (a c (by simp))) (fun d g=>a d (by simp[g]))
theorem zz (t:Nat) (h:mI c):mI (c.at t):=by
 cases c with
 | put p f=>exact h
 | mv s d=>exact h
 | del p=>exact h
variable {m:Fs}
theorem oA (h:OkM m) (j:mI c) (g:∀s d,c=.mv s d->(ax m.now s).isSome=true):OkM (does m c):=by
 have t:=dS m.now (c.at (m.time+1));have u:=h.BY;have w:=h.CR;have x:=h.Ca;have y:=h.B6;have z:=h.C9;refine⟨by simp only[does];omega,by simp only[does];omega,by simp only[does,List.length_append,List.length_cons,List.length_nil];omega,by simp only[does,List.length_append,List.length_cons,List.length_nil];omega,by simp only[does];omega,mL h.Cg (zz _ j),h.CT,?_,?_,?_⟩
 .intro d b;rcases List.mem_append.1 b with b | b
  .exact h.Cu d b
  .rw [List.mem_singleton.1 b];exact zz _ j
 .show (m.pend++[c.at (m.time+1)]).foldl ap m.sure=ap m.now (c.at (m.time+1));rw[List.foldl_append,h.fold];rfl
 .intro k s d l;show(ax (((m.pend++[c.at (m.time+1)]).take k).foldl ap m.sure) s).isSome=true;have a:(m.pend++[c.at (m.time+1)])[k]? = some (.mv s d):=l;rw[List.getElem?_append]at a;split at a
  .rename_i n;rw[List.take_append_of_le_length (by omega)];exact h.Dc k s d a
  .rename_i o;have q:=(List.getElem?_eq_some_iff.1 a).1;have r:k - m.pend.length=0:=by simp at q;omega
   rw[r]at a;have e:c.at (m.time+1)=.mv s d:=by simpa using a
   have i:k=m.pend.length:=by omega
   subst i;rw[List.take_left,h.fold]
   cases c with
   | put p f=>cases e
   | mv A B=>exact g s d e
   | del p=>cases e
variable {mode:Int} {data:B8} {fits:Bool}
theorem sZ (h:OkM m) (a:aC path=true) (b:data.length<=20000):OkM (bj m path mode data fits).1:=by
 unfold bj;split
 .exact h
 .split
  .exact h
  .exact oA h ⟨a,b⟩ (fun s d e=>by cases e)
theorem nz (h:OkM m):OkM (aD m path).1:=by
 unfold aD;split
 .exact h
 .split
  .exact h
  .rename_i a _;exact oA h (show aC path=true by simpa using a) (fun s d e=>by cases e)
theorem lg (h:OkM m):OkM (settle m) :=
 ⟨h.BY,h.BY,Nat.zero_le _,h.BY,h.B6,h.Cg,h.Cg,fun c a=>(by cases a),rfl,fun k s d b=>by simp[settle]at b⟩
theorem OkM.same {m':Fs} (h:OkM m) (d:m'.now=m.now) (a:m'.sure=m.sure) (b:m'.pend=m.pend) (e:m'.users.length<=m'.time) (c:m.time<=m'.time):OkM m':=by
 refine⟨by rw[d];exact Nat.le_trans h.BY c,by rw[a];exact Nat.le_trans h.CR c,by rw[b];exact Nat.le_trans h.Ca c,by rw[a,b];exact Nat.le_trans h.C9 c,e,by rw[d];exact h.Cg,by rw[a];exact h.CT,by rw[b];exact h.Cu,by rw[d,a,b];exact h.fold,by rw[a,b];exact h.Dc⟩
theorem fZ (h:bA path mode data=0):aC path=true/\1<=mode/\mode<=3/\data.length<=20000:=by
 unfold bA at h;split at h
 .cases h
 .split at h
  .cases h
  .split at h
   .cases h
   .rename_i a b c;refine⟨by simpa using a,by omega,by omega,by omega⟩
theorem vh (h:(bj m path mode data fits).2=0):bj m path mode data fits=(does m (.put path ⟨mode,data,0⟩),0):=by
 unfold bj at h ⊢
 by_cases a:(ax m.now path).isNone=true/\ei m.now path []=false
 .rw [if_pos a]at h;cases h
 .rw [if_neg a]at h ⊢
  by_cases b:fits=false
  .rw [if_pos b]at h;cases h
  .rw [if_neg b]
theorem qx (h:(aD m path).2=0):aD m path=(does m (.del path),0):=by
 unfold aD at h ⊢
 by_cases a:aC path=false
 .rw [if_pos a]at h;cases h
 .rw [if_neg a]at h ⊢
  by_cases b:(ax m.now path).isNone=true
  .rw [if_pos b]at h;cases h
  .rw [if_neg b]
theorem pf:m.time<=(bj m path mode data fits).1.time/\(bj m path mode data fits).1.time<=m.time+1:=by
 unfold bj;split
 .exact ⟨Nat.le_refl _,Nat.le_succ _⟩
 .split
  .exact ⟨Nat.le_refl _,Nat.le_succ _⟩
  .exact ⟨Nat.le_succ _,Nat.le_refl _⟩
theorem lh:m.time<=(aD m path).1.time/\(aD m path).1.time<=m.time+1:=by
 unfold aD;split
 .exact ⟨Nat.le_refl _,Nat.le_succ _⟩
 .split
  .exact ⟨Nat.le_refl _,Nat.le_succ _⟩
  .exact ⟨Nat.le_succ _,Nat.le_refl _⟩
theorem qy (h:OkM m):OkM (aM m path mode data).1:=by
 unfold aM;split
 .exact h
 .split
  .exact h
  .rename_i c;have a:=fZ (by simpa using c);split
   .exact sZ h a.1 a.2.2.2
   .rename_i d;have b:=vh (by simpa using d);have e:=lg (sZ (mode:=mode) (fits:=true) h a.1 a.2.2.2);refine e.same rfl rfl rfl ?_ (Nat.le_refl _);have:=h.B6;rw[b];simp only[settle,does,List.length_append,List.length_cons,List.length_nil];omega
theorem pY (h:OkM m):OkM (aL m path).1:=by
 unfold aL;split
 .exact h
 .split
  .exact nz h
  .rename_i b;have a:=qx (by simpa using b);have c:=lg (nz (path:=path) h);refine c.same rfl rfl rfl ?_ (Nat.le_refl _);have:=h.B6;rw[a];simp only[settle,does,List.length_append,List.length_cons,List.length_nil];omega
theorem oB:m.time<=(aM m path mode data).1.time/\(aM m path mode data).1.time<=m.time+1:=by
 unfold aM;split
 .exact ⟨Nat.le_refl _,Nat.le_succ _⟩
 .split
  .exact ⟨Nat.le_refl _,Nat.le_succ _⟩
  .split
   .exact pf
   .exact pf (m:=m) (path:=path) (mode:=mode) (data:=data) (fits:=true)
theorem nB:m.time<=(aL m path).1.time/\(aL m path).1.time<=m.time+1:=by
 unfold aL;split
 .exact ⟨Nat.le_refl _,Nat.le_succ _⟩
 .split
  .exact lh
  .exact lh (m:=m) (path:=path)
theorem rO (l:aq) (t:Int) (c:Option Ch):(dL l t c).length<=l.length+1/\(c=none->dL l t c=l):=by
 unfold dL;refine⟨?_,fun h=>by subst h;rfl⟩;split
 .split
  .exact dS _ _
  .omega
 .omega
theorem pZ (a b:Int) (h:OkM m):(di m a b).length<=m.time:=by
 unfold di;have c:=rO ((m.pend.take (dR m a)).foldl ap m.sure) b m.pend[dR m a]?;have e:=jN m.sure (m.pend.take (dR m a));have g:=h.C9;have i:(m.pend.take (dR m a)).length<=dR m a:=List.length_take_le _ _
 by_cases j:dR m a<m.pend.length
 .omega
 .have d:=c.2 (List.getElem?_eq_none (by omega));rw[d];have:dR m a<=m.pend.length:=by unfold dR;omega
  omega
theorem qz (a b:Int) (h:OkM m):∀e∈di m a b,aC e.1=true/\e.2.data.length<=20000:=by
 have d:=tS (cs:=m.pend.take (dR m a)) h.CT (fun c g=>h.Cu c (List.mem_of_mem_take g));unfold di dL;split
 .rename_i p f i;split
  .refine mL d ?_;have:=h.Cu _ (List.mem_of_getElem? i);refine⟨this.1,?_⟩;simp only[List.length_take];have:=this.2;omega
  .exact d
 .exact d
theorem xO (a b:Int) (h:OkM m):OkM (cS m a b):=by
 unfold cS;split
 .exact h
 .have e:=pZ a b h;have g:=qz a b h;exact⟨e,e,Nat.zero_le _,e,h.B6,g,g,fun c i=>(by cases i),rfl,fun k s d j=>by simp at j⟩
theorem tT (m:Fs) (a b:Int):(cS m a b).time=m.time:=by
 unfold cS;split <;> rfl
def em (m:Fs) (e:Ev):Fs :=
 if e.kind=1 then cS m e.keep e.BN else if e.kind=4 then(aM m e.path e.mode e.data).1 else if e.kind=5 then(aL m e.path).1 else m
def fI (e:Ev):Int:=if e.kind=2 then 10 else if e.kind=3 then 11 else 0
theorem vj (h:OkM m) (e:Ev):OkM (em m e):=by
 unfold em;split
 .exact xO _ _ h
 .split
  .exact qy h
  .split
   .exact pY h
   .exact h
theorem mM (m:Fs) (e:Ev):m.time<=(em m e).time/\(em m e).time<=m.time+1:=by
 unfold em;split
 .rw [tT];exact⟨Nat.le_refl _,Nat.le_succ _⟩
 .split
  .exact oB
  .split
   .exact nB
   .exact ⟨Nat.le_refl _,Nat.le_succ _⟩
theorem hI (n:Nat) (x:Fs×Bool×Bool) (e:Ev):bC n x e=if e.t≠n then x else(em x.1 e,x.2.1 || fI e==10,x.2.2 || fI e==11):=by
 obtain⟨m,f,b⟩:=x;unfold bC em fI;simp only
 by_cases a:e.t≠n
 .rw [if_pos a,if_pos a]
 .rw [if_neg a,if_neg a]
  by_cases c:e.kind=1
  .simp [c]
  .by_cases d:e.kind=2
   .simp [d]
   .by_cases g:e.kind=3
    .simp [g]
    .by_cases h:e.kind=4
     .simp [h]
     .by_cases i:e.kind=5
      .simp [i]
      .simp [c,d,g,h,i]
end
section
open Go Go.RowKit
theorem rP {S O R:Nat->Prop} {w:World} {p:Value} {m:Fs} (e:Ev) (cs:List Value) (N:Env w) (h:IsFs S O R w p m) (z:OkM m) (H:m.time<=9000000) (Z:IsEvR R w cs e) (l:I64 e.keep) (n:I64 e.BN) (I:e.path.length<=400) :
  Calls Tryz.prog 163 #[p,.agg cs.toArray] w fun x w'=>x=.returned (.int .i64 (fI e))/\FsPost S O R w p (em m e) w':=by
 obtain⟨vd,rfl,A,-⟩:=Z;obtain⟨t,a,d,g,i,b,c⟩:=e;obtain⟨P,Q,rfl,-⟩:=id A.bytes;simp only at A l n I ⊢;have J:=A.bytes.len;have B:Ext w (w.alloc (.cells #[.int .i64 t,.int .i64 a,.int .i64 d,.int .i64 g,.int .i64 i,S8 b,.slice P c.length Q] 121)):=(Ext.refl _).alloc _;have r:Hid _:=h.ext B;have T:Hid _:=A.ext B;have U:Hid _:=N.ext B;have u:Hid _:=B;have o:Hid _:=z;have j:Hid (em m ⟨t,a,d,g,i,b,c⟩=if a=1 then cS m g i else if a=4 then(aM m b d c).1 else if a=5 then(aL m b).1 else m):=rfl;have k:Hid (fI ⟨t,a,d,g,i,b,c⟩=if a=2 then 10 else if a=3 then 11 else 0):=rfl;obtain⟨M,V⟩:∃M,em m ⟨t,a,d,g,i,b,c⟩=M:=⟨_,rfl⟩;obtain⟨C,W⟩:∃C,fI ⟨t,a,d,g,i,b,c⟩=C:=⟨_,rfl⟩;rw[V]at j ⊢;rw[W]at k ⊢;clear V W h A N B z
 by_cases q:a=1
 .subst q;obtain rfl:cS m g i=M:=j.out.symm;obtain rfl:(0:Int)=C:=k.out.symm;clear j k;go_enter Tryz.func163,Tryz.ntmps163
  go_wp2_with (go_at_call 107;go_must (refine(o7 g i r.out o.out H l n).mono ?_;rintro e X ⟨rfl,D⟩))
  go_ret;exact⟨rfl,FsPost.pre u.out D⟩
 .have F:(a==1)=false:=by simpa using q
  by_cases y:a=2
  .subst y;obtain rfl:m=M:=j.out.symm;obtain rfl:(10:Int)=C:=k.out.symm;clear j k q F;go_enter Tryz.func163,Tryz.ntmps163;go_wp2;go_ret;exact⟨rfl,FsPost.pre u.out (FsPost.same r.out (Ext.refl _))⟩
  .have K:(a==2)=false:=by simpa using y
   by_cases E:a=3
   .subst E;obtain rfl:m=M:=j.out.symm;obtain rfl:(11:Int)=C:=k.out.symm;clear j k q F y K;go_enter Tryz.func163,Tryz.ntmps163;go_wp2;go_ret;exact⟨rfl,FsPost.pre u.out (FsPost.same r.out (Ext.refl _))⟩
   .have Y:(a==3)=false:=by simpa using E
    by_cases G:a=4
    .subst G;obtain rfl:(aM m b d c).1=M:=j.out.symm;obtain rfl:(0:Int)=C:=k.out.symm;clear j k q F y K E Y;go_enter Tryz.func163,Tryz.ntmps163
     go_wp2_with (go_at_call 103;go_must (refine(kQ b d (.slice P c.length Q) c U.out r.out o.out H (by omega) T.out.bytes J (fun hp=>i' _ hp) T.out.out).mono ?_;rintro e X ⟨rfl,D⟩))
     go_ret;exact⟨rfl,FsPost.pre u.out D⟩
    .have b4:(a==4)=false:=by simpa using G
     by_cases L:a=5
     .subst L;obtain rfl:(aL m b).1=M:=j.out.symm;obtain rfl:(0:Int)=C:=k.out.symm;clear j k q F y K E Y G b4;go_enter Tryz.func163,Tryz.ntmps163
      go_wp2_with (go_at_call 105;go_must (refine(jY b U.out r.out o.out H (by omega)).mono ?_;rintro e X ⟨rfl,D⟩))
      go_ret;exact⟨rfl,FsPost.pre u.out D⟩
     .have b5:(a==5)=false:=by simpa using L
      obtain rfl:m=M:=(j.out.trans (by rw[if_neg q,if_neg G,if_neg L])).symm;obtain rfl:(0:Int)=C:=(k.out.trans (by rw[if_neg y,if_neg E])).symm;clear j k;go_enter Tryz.func163,Tryz.ntmps163;go_wp2;go_ret;exact⟨rfl,FsPost.pre u.out (FsPost.same r.out (Ext.refl _))⟩
end
section
open Go Go.RowKit
structure fy (m:Fs):Prop where
 len:m.plan.length<=1000
 ev:∀e∈m.plan,I64 e.keep/\I64 e.BN/\e.path.length<=400
theorem kw (m:Fs) (e:Ev):(em m e).plan=m.plan/\(em m e).calls=m.calls/\(em m e).room=m.room:=by
 unfold em;split
 .unfold cS;split <;> exact⟨rfl,rfl,rfl⟩
 .split
  .unfold aM;split
   .exact ⟨rfl,rfl,rfl⟩
   .split
    .exact ⟨rfl,rfl,rfl⟩
    .split
     .unfold bj;split
      .exact ⟨rfl,rfl,rfl⟩
      .split <;> exact⟨rfl,rfl,rfl⟩
     .simp only[settle];unfold bj;split
      .exact ⟨rfl,rfl,rfl⟩
      .split <;> exact⟨rfl,rfl,rfl⟩
  .split
   .unfold aL;split
    .exact ⟨rfl,rfl,rfl⟩
    .split
     .unfold aD;split
      .exact ⟨rfl,rfl,rfl⟩
      .split <;> exact⟨rfl,rfl,rfl⟩
     .simp only[settle];unfold aD;split
      .exact ⟨rfl,rfl,rfl⟩
      .split <;> exact⟨rfl,rfl,rfl⟩
   .exact ⟨rfl,rfl,rfl⟩
theorem jO {α β:Type} (f:β->α->β) (p:α->Bool):∀(l:List α) (x:β),(∀y e,p e=false->f y e=y)->(l.filter p).foldl f x=l.foldl f x
 | [],_,_=>rfl
 | e::l,x,h=>by
  by_cases a:p e=true
  .rw [List.filter_cons_of_pos a,List.foldl_cons,List.foldl_cons,jO f p l _ h]
  .rw [List.filter_cons_of_neg a,List.foldl_cons,h x e (by simpa using a),jO f p l _ h]
theorem tU (e:Ev):fI e=0\/fI e=10\/fI e=11:=by
 unfold fI;split
 .exact .inr (.inl rfl)
 .split
  .exact .inr (.inr rfl)
  .exact .inl rfl
structure Mid (m:Fs) (n:Nat) (x:Fs×Bool×Bool):Prop where
 ok:OkM x.1
 time:x.1.time<=m.time+n
 Ci:m.time<=x.1.time
 plan:x.1.plan=m.plan
 calls:x.1.calls=m.calls+1
 room:x.1.room=m.room
variable {m:Fs}
theorem Mid.next {n k:Nat} {x:Fs×Bool×Bool} (h:Mid m n x) (e:Ev):Mid m (n+if e.t=(k:Int)then 1 else 0) (bC k x e):=by
 rw[hI]
 by_cases a:e.t≠(k:Int)
 .rw [if_pos a,if_neg a];exact h
 .rw [if_neg a,if_pos (by simpa using a)];have c:=mM x.1 e;have b:=kw x.1 e;have:=h.time;have:=h.Ci;exact⟨vj h.ok e,by simp only;omega,by simp only;omega,b.1.trans h.plan,b.2.1.trans h.calls,b.2.2.trans h.room⟩
theorem Mid.fold (k:Nat):∀(l:List Ev) {n:Nat} {x:Fs×Bool×Bool},Mid m n x->Mid m (n+l.length) (l.foldl (bC k) x)
 | [],n,x,h=>h
 | e::l,n,x,h=>by
  have a:=Mid.fold k l (h.next (k:=k) e);refine⟨a.ok,?_,a.Ci,a.plan,a.calls,a.room⟩;have:=a.time;simp only[List.length_cons,List.foldl_cons];split at this <;> omega
def cB (m:Fs):Fs:={ m with calls:=m.calls+1 }
theorem Mid.start (h:OkM m):Mid m 0 (cB m,false,false):=⟨h.same rfl rfl rfl h.B6 (Nat.le_refl _),Nat.le_refl _,Nat.le_refl _,rfl,rfl,rfl⟩
theorem qA (h:OkM m):∃x:Fs×Bool×Bool,Mid m m.plan.length x/\(aB m).1=x.1:=by
 have:=Mid.fold (m.calls+1) m.plan (Mid.start h);rw[Nat.zero_add]at this;exact⟨_,this,rfl⟩
variable {w:World}
theorem xP {R:Nat->Prop} {v:Value} {l:List Ev} (h:ReadL w 121 (IsEvR R w) v l):∃a g,v=.slice a l.length g/\l.length<=g/\l.length<=140737488355328/\g<=9223372036854775807 /\
  ∀(k:Nat) e,l[k]? = some e->∃b o y,a=some ⟨b,o,none⟩/\IsEvR R w y e/\∀j u,y[j]? = some u->w.cell? ⟨b,o+k*7+j,none⟩=some u:=by
 obtain⟨d,⟨a,g,rfl,C,D,E,F⟩,J,q⟩:=h;refine⟨a,g,rfl,C,E,D,fun k e z=>?_⟩;have G:∀c∈d,c.length=7:=fun c r=>by
  obtain⟨i,A,rfl⟩:=List.mem_iff_getElem.1 r;have t:i<l.length:=by rw[<-q.1];exact A
  exact(q.2 i d[i] l[i] (List.getElem?_eq_getElem A) (List.getElem?_eq_getElem t)).length.1
 have n:k<d.length:=by rw[q.1];exact(List.getElem?_eq_some_iff.1 z).1
 have p:=q.2 k _ e (List.getElem?_eq_getElem n) z;have B:=fun j u x=>eU 7 d k j _ u G (List.getElem?_eq_getElem n) x
 obtain⟨b,o,rfl,r⟩:=F (by
  intro H;have I:(d[k])[0]? = some ((d[k])[0]'(by rw[p.length.1];omega)):=List.getElem?_eq_getElem _;have:=B 0 _ I;rw[H]at this;simp at this)
 refine⟨b,o,d[k],rfl,p,fun j u x=>?_⟩;have:=r _ _ (B j u x)
 rwa [Nat.add_assoc,Nat.mul_comm k 7]
variable {g:Nat} {c:Int}
theorem zR (a:w.cell? ⟨g,5,none⟩=some (.int .i64 c)) (b:w.frozen? ⟨g,5,none⟩=false) (d:0<=c) (e:c<=1000000000) :
  (callFunc 187 #[.pointer (some ⟨g,5,none⟩),.int .i64 1]).run Tryz.prog w=.ok (.value (.int .i64 (c+1))) (w.setCell ⟨g,5,none⟩ (.int .i64 (c+1))) :=
 run_call_add (P:=Tryz.prog) Tryz.func187 (by kernel_rfl) (by kernel_rfl) (by kernel_rfl) .i64 (by kernel_rfl) (y:=1) (s:=c+1) a b (by
  have:=IntWalk.i64_in (c+1) (by omega);simp[go_sem,this])
theorem s8 (a:w.cell? ⟨g,5,none⟩=some (.int .i64 c)) (b:w.frozen? ⟨g,5,none⟩=false) (d:0<=c) (h:c<=1000000000) :
  Calls Tryz.prog 131 #[.pointer (some ⟨g,5,none⟩),.int .i64 1] w fun e i=>e=.returned (.int .i64 (c+1))/\i=w.setCell ⟨g,5,none⟩ (.int .i64 (c+1)):=by
 have j:=zR a b d h;go_enter Tryz.func131,Tryz.ntmps131;go_wp2;go_ret;exact⟨rfl,rfl⟩
end
section
open Go Go.RowKit
def zA (S O:Nat->Prop) (w:World):Prop:=∀k,S k->¬O k/\k<w.heap.size
def NoG (O:Nat->Prop):Prop:=∀k,O k->k≠2
theorem vk {n a:Nat} {L:List Ev} {k:Nat} {e:Ev} (h:L[k]? = some e) (c:a<n):((L.take (k+1)).filter fun e=>decide ((a:Int)<e.t)).length=((L.take k).filter fun e=>decide ((a:Int)<e.t)).length+(if(a:Int)<e.t then 1 else 0):=by
 rw[List.take_add_one,h,Option.toList_some,List.filter_append,List.length_append];congr 1
 by_cases b:(a:Int)<e.t
 .rw [if_pos b,List.filter_cons_of_pos (by simpa using b)];rfl
 .rw [if_neg b,List.filter_cons_of_neg (by simpa using b)];rfl
theorem dA {S O R:Nat->Prop} {w:World} {p:Value} {m:Fs} (hE:Env w) (h:IsFs S O R w p m) (au:OkM m) (a0:fy m) (ht:m.time<=8000000) (cv:m.calls<=10000000) (hG:NoG O) (hA:zA S O w) :
  Calls Tryz.prog 113 #[p] w fun e w'=>e=.returned (.tuple #[.bool (aB m).2.1,.int .i64 (aB m).2.2])/\FsPost S O R w p (aB m).1 w':=by
 have HH:Hid _:=h;obtain⟨g,gm,gd,vp,vl,vu,L,c0,rfl,V,hO,hP,H,bt,bS⟩:=h;obtain⟨d0,d1,d2,d3,d4,d5,d6,d7,d8⟩:=ah V;have b0:w.frozen? ⟨g,5,none⟩=false:=by simp[World.frozen?,V]
 have HG:Hid _:=V;have HP:Hid _:=hP;have HE:Hid _:=hE;have HA:Hid _:=hA;have b1:Hid _:=hG;have a1:Hid _:=a0;have b2:Hid _:=au;have a2:Hid _:=H;obtain⟨a,b3,rfl,l1,l2,l3,M⟩:=xP hP.plan;have a3:Hid _:=M;have a4:∀b o,a=some ⟨b,o,none⟩->S b:=fun b o hh=>hP.ol b (by rw[hh];rfl)
 have b4:Hid _:=a4;obtain⟨w1,I⟩:∃w1,w1=w.setCell ⟨g,5,none⟩ (.int .i64 ((m.calls:Int)+1)):=⟨_,rfl⟩;have W:w1.heap[g]? = some (.cells (aZ m.room gm gd vp (.slice a L.length b3) (m.calls+1) vu m.time m.down) 79 (0,0)):=by
  rw[I,heap_setCell_same w g 5 _ _ _ V];simp
 have N:w.grownBy w1 (some g):=by rw[I];exact aH _ _ _ _
 have a5:FsPost S O R w (.pointer (some ⟨g,0,none⟩)) (cB m) w1:=by
  refine⟨⟨g,gm,gd,vp,_,vu,L,c0,rfl,W,.inl hO,(hP.own V N).mono (fun k z=>.inl z) (fun k z=>.inl z),H,Nat.le_succ_of_le bt,bS⟩,(Fr.refl O w).step N (fun k z=>by cases z;exact .inl hO) (by rintro k z;cases z;exact ao V (by kernel_rfl))⟩
 have b5:Hid _:=I;have b6:Hid _:=a5;obtain⟨x0,x1,x2,x3,x4,x5,x6,x7,x8⟩:=ah W;have X:Hid (aB m=((L.foldl (bC (m.calls+1)) (cB m,false,false)).1,(L.foldl (bC (m.calls+1)) (cB m,false,false)).2.1,if(L.foldl (bC (m.calls+1)) (cB m,false,false)).1.down then 12 else if(L.foldl (bC (m.calls+1)) (cB m,false,false)).2.2 then 11 else 0)):=by
  have b7:m.plan.foldl (bC (m.calls+1)) (cB m,false,false)=L.foldl (bC (m.calls+1)) (cB m,false,false):=by
   rw[H,jO (bC (m.calls+1)) _ L _ (fun y e he=>by
    rw[hI,if_pos];intro h0;simp only[decide_eq_false_iff_not]at he;omega)]
  rw[<-b7];rfl
 clear V hP hE hA hG a0 au H M a4 I a5 W;go_enter Tryz.func113,Tryz.ntmps113
 go_wp2_with (go_at_call 131;go_must (refine(s8 d5 b0 (by omega) (by omega)).mono ?_;rintro e w' ⟨rfl,rfl⟩;rw[show w.setCell ⟨g,5,none⟩ (.int .i64 ((m.calls:Int)+1))=w1 from b5.out.symm]))
 go_loopw [5,6,18] (fun fu br i wr=>∃(k:Nat) (x:Fs×Bool×Bool),k<=L.length/\i=.int .i64 k/\fu=.bool x.2.1/\br=.bool x.2.2/\x=(L.take k).foldl (bC (m.calls+1)) (cB m,false,false)/\FsPost S O R w (.pointer (some ⟨g,0,none⟩)) x.1 wr/\Mid m ((L.take k).filter fun e=>decide ((c0:Int)<e.t)).length x) (fun _ _ i _=>L.length - (intOf i).toNat)
 case atStart=>exact⟨0,(cB m,false,false),Nat.zero_le _,rfl,rfl,rfl,rfl,b6.out,Mid.start b2.out⟩
 case round =>
  obtain⟨k,⟨q,Y,P⟩,z,rfl,rfl,rfl,hx,hf,Q⟩:=hrel;have a6:Hid _:=hx;have HF:Hid _:=hf;have r:Hid _:=Q;clear hx hf Q
  by_cases b8:k<L.length
  .
   obtain⟨e,B⟩:∃e,L[k]? = some e:=⟨_,List.getElem?_eq_getElem b8⟩;obtain⟨b,o,cs,rfl,a7,D⟩:=a3.out k e B;have b':=b4.out b o rfl;have c:∀j u,cs[j]? = some u->wr.cell? ⟨b,o+k*7+j,none⟩=some u:=fun j u hu=>by
    have a8:=D j u hu;rw[World.cell?_of_block (w:=w) (w':=wr) (a:=⟨b,o+k*7+j,none⟩) (HF.out.fr.block b (World.block_lt_of_cell? _ _ a8) (.inl (HA.out b b').1))];exact a8
   have E:IsEvR (Nw R w wr) wr cs e:=(a7.BQ (KeepR.BS HF.out.fr.keep)).mono (fun k z=>.inl z);have ca:Hid _:=E;have cb:Hid _:=B;obtain⟨vd,rfl,hd,-⟩:=id E;obtain⟨q1,q2,rfl,-⟩:=id hd.bytes;have y0:=c 0 _ rfl;have y1:=c 1 _ rfl;have y2:=c 2 _ rfl;have y3:=c 3 _ rfl;have y4:=c 4 _ rfl;have y5:=c 5 _ rfl;have y6:=c 6 _ rfl;simp only[Nat.add_zero]at y0;have T:=vk (n:=m.calls+1) B (show c0<m.calls+1 by omega);have U:Hid _:=T;have F:(L.take (k+1)).foldl (bC (m.calls+1)) (cB m,false,false)=bC (m.calls+1) (q,Y,P) e:=by
    rw[List.take_add_one,B,Option.toList_some,List.foldl_append,<-a6.out];rfl
   have a9:Hid _:=F;have a':Ext wr (wr.alloc (.cells #[.int .i64 e.t,.int .i64 e.kind,.int .i64 e.mode,.int .i64 e.keep,.int .i64 e.BN,S8 e.path,.slice q1 e.data.length q2] 121)):=(Ext.refl _).alloc _;have J:Hid _:=a';clear a7 D c E hd T F a' B
   by_cases d:e.t=(m.calls:Int)+1
   .have cc:(e.t==(m.calls:Int)+1)=true:=by simpa using d
    have ce:(e.t != (m.calls:Int)+1)=false:=by simpa using d
    have bb:Hid _:=d;have bd:e∈m.plan:=by
     rw[a2.out];exact List.mem_filter.2 ⟨List.mem_of_getElem? cb.out,by simp only[decide_eq_true_eq];omega⟩
    have G:=a1.out.ev e bd;have bh:((L.take k).filter fun e=>decide ((c0:Int)<e.t)).length<=1000:=by
     have A:=a1.out.len;rw[a2.out]at A;exact Nat.le_trans ((List.take_sublist k L).filter _).length_le A
    have cl:q.time<=9000000:=by
     have h9:q.time<=m.time+_:=r.out.time;omega
    have l:Hid (FsPost S O R w (.pointer (some ⟨g,0,none⟩)) q (wr.alloc (.cells #[.int .i64 e.t,.int .i64 e.kind,.int .i64 e.mode,.int .i64 e.keep,.int .i64 e.BN,S8 e.path,.slice q1 e.data.length q2] 121))):=HF.out.ext J.out;have bk:Hid (IsEvR (Nw R w (wr.alloc (.cells #[.int .i64 e.t,.int .i64 e.kind,.int .i64 e.mode,.int .i64 e.keep,.int .i64 e.BN,S8 e.path,.slice q1 e.data.length q2] 121))) (wr.alloc (.cells #[.int .i64 e.t,.int .i64 e.kind,.int .i64 e.mode,.int .i64 e.keep,.int .i64 e.BN,S8 e.path,.slice q1 e.data.length q2] 121)) [.int .i64 e.t,.int .i64 e.kind,.int .i64 e.mode,.int .i64 e.keep,.int .i64 e.BN,S8 e.path,.slice q1 e.data.length q2] e):=(IsEvR.BQ ca.out (KeepR.BS (KeepB.BO J.out))).mono (fun k z=>z.fst J.out.size);have t:Hid (bC (m.calls+1) (q,Y,P) e=(em q e,Y || fI e==10,P || fI e==11)):=by
     unfold Hid;rw[hI,if_neg (by simp;omega)]
    have cm:Hid (Mid m ((L.take (k+1)).filter fun e=>decide ((c0:Int)<e.t)).length (bC (m.calls+1) (q,Y,P) e)):=by
     have A:=r.out.next (k:=m.calls+1) e
     rw[if_pos (by omega)]at A;rw[U.out,if_pos (by omega)];exact A
    have bl:Hid _:=tU e;obtain⟨C,hC⟩:∃C,fI e=C:=⟨_,rfl⟩;rw[hC]at bl t;clear d bd bh;have cn:Hid _:=hC;clear hC;rcases bl.out with rfl | rfl | rfl
    iterate 3
     .go_wp2_with (go_at_call 163;go_must (refine(rP e [.int .i64 e.t,.int .i64 e.kind,.int .i64 e.mode,.int .i64 e.keep,.int .i64 e.BN,S8 e.path,.slice q1 e.data.length q2] (HE.out.fr l.out.fr b1.out) l.out.fs r.out.ok cl bk.out G.1 G.2.1 G.2.2).mono ?_;rw[cn.out];rintro x2 w2 ⟨rfl,h2⟩;have co:Hid _:=FsPost.trans l.out h2;clear h2))
      go_roundw
      case rel=>exact⟨k+1,bC (m.calls+1) (q,Y,P) e,by omega,by go_num,by rw[t.out];simp,by rw[t.out];simp,a9.out.symm,by rw[t.out];exact co.out,cm.out⟩
      case measure=>simp[intOf];omega
   .have cc:(e.t==(m.calls:Int)+1)=false:=by simpa using d
    have ce:(e.t != (m.calls:Int)+1)=true:=by simpa using d
    have bb:Hid _:=d;clear d;go_wp2;go_roundw
    case rel =>
     refine⟨k+1,(q,Y,P),by omega,by go_num,rfl,rfl,?_,HF.out.ext J.out,?_⟩
     .rw [a9.out,hI,if_pos (by have:=bb.out;simp;omega)]
     .have A:=r.out;refine⟨A.ok,?_,A.Ci,A.plan,A.calls,A.room⟩;rw[U.out];have:=A.time;omega
    case measure=>simp[intOf];omega
  .have cp:k=L.length:=by omega
   subst cp;have Z:=a6.out;rw[List.take_length]at Z;rw[<-Z]at X;have K:Hid (aB m=(q,Y,if q.down then 12 else if P then 11 else 0)):=X.out;have cq:IsFs S (Nw O w wr) (Nw R w wr) wr (.pointer (some ⟨g,0,none⟩)) q:=HF.out.fs;have ad:Hid (FsPost S O R w (.pointer (some ⟨g,0,none⟩)) q wr):=HF.out;obtain⟨g',cx,c1,c2,c3,c4,L',c5,G,bo,c6,ct,bq,cu⟩:=cq;cases G;obtain⟨z0,z1,z2,z3,z4,z5,z6,z7,z8⟩:=ah bo;obtain⟨dn,bs⟩:∃dn,q.down=dn:=⟨_,rfl⟩;rw[bs]at z8 K;clear Z ct bo bq bs X
   cases dn with
   | true =>
    go_wp2;go_ret2;rw[K.out];exact⟨rfl,ad.out⟩
   | false =>
    cases P with
    | true =>
     go_wp2;go_ret2;rw[K.out];exact⟨rfl,ad.out⟩
    | false =>
     go_wp2;go_ret2;rw[K.out];exact⟨rfl,ad.out⟩
end
section
open Go Go.RowKit
structure FsIn (S O R:Nat->Prop) (w:World) (p:Value) (m:Fs):Prop where
 env:Env w
 fs:IsFs S O R w p m
 ok:OkM m
 plan:fy m
 time:m.time<=7000000
 calls:m.calls<=9000000
 Ce:NoG O
 apart:zA S O w
 low:∀k,O k->k<w.heap.size
 B4:0<=m.room
 B3:m.room<=1073741824
variable {m:Fs}
theorem gg (h:OkM m) (b:m.time<=9000000):cw m.now<=180000000000:=by
 have:=zP h.BY (fun e a=>(h.Cg e a).2);omega
theorem vm (h:OkM m) (path:B8):fY m.now path<=20000:=by
 unfold fY;split
 .rename_i f a;exact(h.Cg _ (fG a)).2
 .omega
variable {w:World}
theorem tV {R:Nat->Prop} {l:aq} {path:B8} {v:Value} {D:Nat} (b:fY l path=D) (g:∀f,ax l path=some f->∃e,v=fiV f e/\IsData R w e f.data) (h:ax l path=none->v=.agg #[.int .i64 0,.slice none 0 0,.int .i64 0]) :
  ∃i a c j,v=.agg #[.int .i64 i,.slice a D c,.int .i64 j]:=by
 unfold fY at b
 cases d:ax l path with
 | some f =>
  rw[d]at b;obtain⟨e,rfl,k⟩:=g f d;obtain⟨a,c,rfl,-⟩:=k.bytes;exact⟨f.mode,a,c,f.time,by rw[<-b]⟩
 | none =>
  rw[d]at b;subst b;exact⟨0,none,0,0,h d⟩
theorem qB {S O R:Nat->Prop} {p:Value} (path:B8) (n:Nat) (h:IsFs S O R w p m) (l:OkM m) (V:m.time<=9000000) (z:0<=m.room) (A:m.room<=1073741824) (W:path.length<=10000000) :
  Calls Tryz.prog 135 #[p,S8 path,.int .i64 n] w fun e X=>e=.returned (.bool (fA m path n))/\Ext w X:=by
 have Y:Hid _:=h;obtain⟨g,gm,gd,vp,vl,vu,L,c0,rfl,I,hO,J,-,-⟩:=h;obtain⟨t,B,Z,d3,d4,d5,d6,d7,d8⟩:=ah I;have HF:Hid _:=J.now;have hu:=gg l V;have C:=vm l path;obtain⟨U,x⟩:∃U:Nat,cw m.now=U:=⟨_,rfl⟩;obtain⟨D,y⟩:∃D:Nat,fY m.now path=D:=⟨_,rfl⟩;have K:Hid _:=x;have HD:Hid _:=y;rw[x]at hu;rw[y]at C;obtain⟨r,E⟩:∃r:Int,m.room=r:=⟨_,rfl⟩;rw[E]at t z A;have k:fA m path n=decide ((n:Int)<=r - U+D):=by unfold fA;rw[x,y,E]
 have q:Hid _:=k;clear I J l x y E k d3 d4 d5 d6 d7 d8 Z;go_enter Tryz.func135,Tryz.ntmps135;go_wp2_with fail;have ad:IntKind.i64.wrap (r - (U:Int))=r - (U:Int):=IntWalk.i64_in _ (by omega);have au:IntKind.i64.wrap (r - (U:Int)+(D:Int))=r - (U:Int)+(D:Int):=IntWalk.i64_in _ (by omega);apply aj 18 [_,_,_,_,_,_,.int .i64 U,.int .i64 (r - U),_,_,_,_,_,undef,undef,.int .i64 D,.int .i64 (r - U+D),.bool (decide ((n:Int)<=r - U+D))] [none,none,none,none,none,none,none,none,none,none,none,none,none,some (fun u _=>∃M a c N,u=.agg #[.int .i64 M,.slice a D c,.int .i64 N]),some (fun u _=>∃a c,u=.slice a D c),none,none,none] [[],[],[1],[2],[3],[],[5],[4,6],[],[8],[9],[10],[],[11,12],[13],[14],[7,15],[0,16]] (by kernel_rfl) (by kernel_rfl) (by simp[ak])
 .refine ⟨?_,?_,trivial⟩
  iterate 2
   .exact fun _ _ _ _ h=>h
 .simp (maxSteps:=1000000)only[List.take_succ_cons,List.take_zero,aw,aA,aa,Act.put,List.setIfInBounds_toArray,List.set_cons_zero,List.set_cons_succ,aK,aO,ak,List.getD_cons_zero,List.getD_cons_succ,and_true,true_and,forall_const];and_intros
  iterate 6 · intro j o b;intros;rename_i i;have P:=b.cell t;have Q:=b.cell B;go_simp;exact i _ _ (Ext.refl _) rfl
  .intro j o b d R i;go_simp;exact(qv (IsFs.ext Y.out b) (by have:=K.out;omega)).mono (by rw[K.out];rintro e' w4 ⟨rfl,h2⟩;exact⟨_,rfl,i _ _ h2 rfl⟩)
  iterate 6 · intro j o b;intros;rename_i i;have P:=b.cell t;have Q:=b.cell B;go_simp;exact i _ _ (Ext.refl _) rfl
  .intro j o b d R i;obtain⟨a0,a1⟩:=d;obtain⟨v,-,T,F,G⟩:=(IsFiles.ext HF.out b).B1 path W;have hz:=tV HD.out F G;go_simp;exact i _ _ (Ext.refl _) hz
  .intro j o b d R i;obtain⟨M,a,c,N,d⟩:=d;go_simp;exact i _ _ (Ext.refl _) ⟨_,_,rfl⟩
  .intro j o b d R i;obtain⟨a,c,d⟩:=d;go_simp;exact i _ _ (Ext.refl _) rfl
  iterate 2 · intro j o b;intros;rename_i i;have P:=b.cell t;have Q:=b.cell B;go_simp;exact i _ _ (Ext.refl _) rfl
 intro j w2 H d;simp only[aP,Nat.zero_add,Nat.reduceAdd,and_true]at d;have a2:=d.2.2.2.2.2.2.2.2.2.2.2.2.2.1;have a3:=d.2.2.2.2.2.2.2.2.2.2.2.2.2.2.1;simp(maxSteps:=1000000)only[List.take_succ_cons,List.take_zero,List.drop_succ_cons,List.drop_zero,aa,Act.put,List.setIfInBounds_toArray,List.set_cons_zero,List.set_cons_succ,Nat.zero_add,Nat.reduceAdd,d];clear d;generalize j 13=a4 at *;generalize j 14=a5 at *;go_wp2;go_ret;rw[q.out];exact⟨rfl,H⟩
end
section
open Go Go.RowKit
def jP (r:Fs×Bool×Int) (path:B8) (mode:Int) (data:B8) (only:Bool):Fs×Int :=
 if r.2.2≠0 then(r.1,r.2.2)else if bA path mode data≠0 then(r.1,bA path mode data)
 else if only=true/\(ax r.1.now path).isSome then(r.1,8)else bj r.1 path mode data (!r.2.1 && fA r.1 path data.length)
def bY (m:Fs) (path:B8) (mode:Int) (data:B8):Fs×Int:=jP (aB m) path mode data true
def bD (m:Fs) (path:B8) (mode:Int) (data:B8):Fs×Int:=jP (aB m) path mode data false
def mvM (r:Fs×Bool×Int) (src dst:B8) (a:Bool):Fs×Int :=
 if r.2.2≠0 then(r.1,r.2.2)else if aC src=false\/aC dst=false then(r.1,6)
 else if(ax r.1.now src).isNone then(r.1,7)else if(ax r.1.now dst).isSome/\a=true then(r.1,8)
 else if src=dst then(r.1,0)else if(ax r.1.now dst).isNone/\ei r.1.now dst src=false then(r.1,9)else(does r.1 (.mv src dst),0)
def aN (m:Fs) (src dst:B8) (a:Bool):Fs×Int:=mvM (aB m) src dst a
def bz (m:Fs) (path:B8):Fs×Int:=if(aB m).2.2≠0 then((aB m).1,(aB m).2.2)else aD (aB m).1 path
def dg (m:Fs):Fs×Int:=if(aB m).2.2=0 then(settle (aB m).1,0)else((aB m).1,(aB m).2.2)
def cz:Fi:=⟨0,[],0⟩
def aE (m:Fs) (path:B8):Fs×Fi×Int :=
 if(aB m).2.2≠0 then((aB m).1,cz,(aB m).2.2)else if aC path=false then((aB m).1,cz,6)
 else match ax (aB m).1.now path with
  | some f=>((aB m).1,f,0)
  | none=>((aB m).1,cz,7)
def aG (l:aq):List B8:=l.map (·.1)
def bm (m:Fs) (dir:B8):Fs×List B8×Int :=
 if(aB m).2.2≠0 then((aB m).1,[],(aB m).2.2)else if dir=[]then((aB m).1,aG (aB m).1.now,0)
 else if aC dir=false then((aB m).1,[],6)else((aB m).1,(aG (aB m).1.now).filter (aF dir),0)
def cF (m:Fs) (path:B8):Fi×Bool:=match ax m.now path with
 | some f=>(f,true)
 | none=>(cz,false)
structure Left (m m':Fs) (n:Nat):Prop where
 ok:OkM m'
 time:m'.time<=m.time+n
 Ci:m.time<=m'.time
 plan:m'.plan=m.plan
 room:m'.room=m.room
variable {n k:Nat}
theorem Left.trans {a b c:Fs} (h:Left a b n) (d:Left b c k):Left a c (n+k) :=
 ⟨d.ok,by have:=h.time;have:=d.time;omega,Nat.le_trans h.Ci d.Ci,d.plan.trans h.plan,d.room.trans h.room⟩
variable {m:Fs}
theorem Left.refl (h:OkM m):Left m m 0:=⟨h,Nat.le_refl _,Nat.le_refl _,rfl,rfl⟩
theorem Left.mono {m':Fs} (h:Left m m' n) (a:n<=k):Left m m' k:=⟨h.ok,Nat.le_trans h.time (by omega),h.Ci,h.plan,h.room⟩
theorem cd (h:OkM m) (b:fy m):Left m (aB m).1 1000/\(aB m).1.calls=m.calls+1:=by
 obtain⟨x,a,c⟩:=qA h;rw[c];have:=b.len;exact⟨⟨a.ok,by have:=a.time;omega,a.Ci,a.plan,a.room⟩,a.calls⟩
theorem li {c:Ch} (h:OkM m) (b:mI c) (a:∀s d,c=.mv s d->(ax m.now s).isSome=true):Left m (does m c) 1:=⟨oA h b a,Nat.le_refl _,Nat.le_succ _,rfl,rfl⟩
variable {path:B8}
theorem vo {mode:Int} {data:B8} {fits:Bool} (h:OkM m) (a:aC path=true) (b:data.length<=20000):Left m (bj m path mode data fits).1 1:=by
 unfold bj;split
 .exact (Left.refl h).mono (by omega)
 .split
  .exact (Left.refl h).mono (by omega)
  .exact li h ⟨a,b⟩ (fun s d e=>by cases e)
theorem qC (h:OkM m):Left m (aD m path).1 1:=by
 unfold aD;split
 .exact (Left.refl h).mono (by omega)
 .split
  .exact (Left.refl h).mono (by omega)
  .rename_i a _;exact li h (show aC path=true by simpa using a) (fun s d e=>by cases e)
theorem rQ (h:OkM m):Left m (settle m) 0:=⟨lg h,Nat.le_refl _,Nat.le_refl _,rfl,rfl⟩
end
section
open Go Go.RowKit
variable {w:World} {p:Value} {m:Fs}
theorem FsIn.Cq {S O R:Nat->Prop} {a:World} {m1:Fs} (h:FsIn S O R w p m) (b:FsPost S O R w p m1 a):Env a:=h.env.fr b.fr h.Ce
theorem tW {S O R:Nat->Prop} (path:B8) (mode:Int) (v:Value) (data:B8) (h:FsIn S O R w p m) (hp:path.length<=400) (hv:IsBytes w v data) (A:Out O w v) :
  Calls Tryz.prog 95 #[p,S8 path,.int .i64 mode,v] w fun e w'=>e=.returned (.int .i64 (bY m path mode data).2)/\FsPost S O R w p (bY m path mode data).1 w':=by
 obtain⟨d,i,B,x⟩:∃d i B,aB m=(d,i,B):=⟨_,_,_,rfl⟩;have E:=cd h.ok h.plan;rw[x]at E;have C:bY m path mode data=if B≠0 then(d,B)else if bA path mode data≠0 then(d,bA path mode data)else if true=true/\(ax d.now path).isSome then(d,8)else bj d path mode data (!i && fA d path data.length):=by unfold bY jP;rw[x]
 have b:Hid _:=C;have N:Hid _:=x;have F:Hid _:=E;have l:Hid _:=h;have HV:Hid _:=hv;have HO:Hid _:=A;have a2:=h.time;have a3:=h.calls;obtain⟨a,c,rfl,-⟩:=hv.get;obtain⟨g,ad⟩:∃g,p=.pointer (some ⟨g,0,none⟩):=by
  obtain⟨g,gm,gd,vp,vl,vu,L,c0,G,-⟩:=h.fs;exact⟨g,G⟩
 subst ad;clear C x E h hv A
 by_cases o:B=0
 .subst o;obtain⟨M,q⟩:∃M,bA path mode data=M:=⟨_,rfl⟩;have HW:Hid _:=q;rw[q]at b;go_enter Tryz.func95,Tryz.ntmps95;go_wp2_with fail;go_at_call 113;refine(dA l.out.env l.out.fs l.out.ok l.out.plan (by omega) (by omega) l.out.Ce l.out.apart).mono ?_;rw[N.out];rintro e w1 ⟨rfl,Z⟩;have P:Hid (FsPost S O R w (.pointer (some ⟨g,0,none⟩)) d w1):=Z;have r:Hid (OkM d):=F.out.1.ok;have a1:d.time<=m.time+1000:=F.out.1.time;have t:d.room=m.room:=F.out.1.room;have Q:Hid _:=t;clear Z t;go_wp2_with fail;go_at_call 133;refine(gY path mode (.slice a data.length c) data _ (l.out.Cq P.out) (IsBytes.fr HV.out HO.out P.out.fr) (by omega)).mono ?_;rw[HW.out];rintro e w2 ⟨rfl,H⟩
  by_cases u:M=0
  .subst u;have T:=fZ q;have y:Hid _:=T;obtain⟨g',a4,a5,a6,a7,a8,L',a9,G,U,a',V,-,-⟩:=(FsPost.ext P.out H).fs;cases G;obtain⟨z0,z1,z2,z3,z4,z5,z6,z7,z8⟩:=ah U;obtain⟨bb,n,-,I,J⟩:=V.now.B1 path (by omega);have D:Hid (FsPost S O R w (.pointer (some ⟨g,0,none⟩)) d w2):=FsPost.ext P.out H;have W:Hid _:=l.out.Cq D.out;have X:Hid _:=IsBytes.fr HV.out HO.out D.out.fr;clear U V q T
   cases j:ax d.now path with
   | some f =>
    rw[j]at n;obtain⟨sv,rfl,Y⟩:=I f j;obtain⟨s1,s2,rfl,-⟩:=Y.bytes;simp only[Option.isSome_some]at n;have k:Hid (bY m path mode data=(d,8)):=by unfold Hid;rw[b.out,j];simp
    clear I J Y j b;go_wp2;go_ret;rw[k.out];exact⟨rfl,D.out.ext ((Ext.refl _).alloc _)⟩
   | none =>
    rw[j]at n;obtain rfl:=J j;simp only[Option.isSome_none]at n;have k:Hid (bY m path mode data=bj d path mode data (!i && fA d path data.length)):=by unfold Hid;rw[b.out,j];simp
    clear I J j b
    cases i with
    | true =>
     have K:Hid (bY m path mode data=bj d path mode data false):=k.out;go_wp2_with fail;go_at_call 134;refine(gD path mode (.slice a data.length c) data false (W.out.ext ((Ext.refl _).alloc _)) (IsFs.ext D.out.fs ((Ext.refl _).alloc _)) r.out (by omega) (by omega) (IsBytes.ext X.out ((Ext.refl _).alloc _)) y.out.2.2.2 (i' _ y.out.1)).mono ?_;rintro e w4 ⟨rfl,h4⟩;go_wp2;go_ret;rw[K.out];exact⟨rfl,D.out.trans (FsPost.pre ((Ext.refl _).alloc _) h4)⟩
    | false =>
     have K:Hid (bY m path mode data=bj d path mode data (fA d path data.length)):=k.out;go_wp2_with fail;go_at_call 135;refine(qB path data.length (IsFs.ext D.out.fs ((Ext.refl _).alloc _)) r.out (by omega) (by rw[Q.out];exact l.out.B4) (by rw[Q.out];exact l.out.B3) (by omega)).mono ?_;rintro e w3 ⟨rfl,au⟩;generalize fA d path data.length=ft at *;have z:Hid _:=((Ext.refl w2).alloc _).trans au;go_wp2_with fail;go_at_call 134;refine(gD path mode (.slice a data.length c) data ft (W.out.ext z.out) (IsFs.ext D.out.fs z.out) r.out (by omega) (by omega) (IsBytes.ext X.out z.out) y.out.2.2.2 (i' _ y.out.1)).mono ?_;rintro e w4 ⟨rfl,h4⟩;go_wp2;go_ret;rw[K.out];exact⟨rfl,D.out.trans (FsPost.pre z.out h4)⟩
  .have hb:(M==0)=false:=by simpa using u
   have a0:(M != 0)=true:=by simpa using u
   have k:Hid (bY m path mode data=(d,M)):=by unfold Hid;rw[b.out];simp[u]
   clear u q b;go_wp2;go_ret;rw[k.out];exact⟨rfl,FsPost.ext P.out H⟩
 .have hb:(B==0)=false:=by simpa using o
  have a0:(B != 0)=true:=by simpa using o
  have k:Hid (bY m path mode data=(d,B)):=by unfold Hid;rw[b.out];simp[o]
  clear o b;go_enter Tryz.func95,Tryz.ntmps95
  go_wp2_with (go_at_call 113;go_must (refine(dA l.out.env l.out.fs l.out.ok l.out.plan (by omega) (by omega) l.out.Ce l.out.apart).mono ?_;rw[N.out];rintro e w1 ⟨rfl,Z⟩))
  go_ret;rw[k.out];exact⟨rfl,Z⟩
theorem lj {S O R:Nat->Prop} (path:B8) (mode:Int) (v:Value) (data:B8) (h:FsIn S O R w p m) (hp:path.length<=400) (Q:IsBytes w v data) (y:Out O w v) :
  Calls Tryz.prog 77 #[p,S8 path,.int .i64 mode,v] w fun e w'=>e=.returned (.int .i64 (bD m path mode data).2)/\FsPost S O R w p (bD m path mode data).1 w':=by
 obtain⟨d,i,z,t⟩:∃d i z,aB m=(d,i,z):=⟨_,_,_,rfl⟩;have B:=cd h.ok h.plan;rw[t]at B;have A:bD m path mode data=if z≠0 then(d,z)else if bA path mode data≠0 then(d,bA path mode data)else bj d path mode data (!i && fA d path data.length):=by unfold bD jP;rw[t];simp only[Bool.false_eq_true,false_and,if_false]
 have b:Hid _:=A;have G:Hid _:=t;have C:Hid _:=B;have j:Hid _:=h;have Y:Hid _:=Q;have Z:Hid _:=y;have au:=h.time;have a0:=h.calls;obtain⟨a,c,rfl,-⟩:=Q.get;obtain⟨g,T⟩:∃g,p=.pointer (some ⟨g,0,none⟩):=by
  obtain⟨g,gm,gd,vp,vl,vu,L,c0,U,-⟩:=h.fs;exact⟨g,U⟩
 subst T;clear A t B h Q y
 by_cases l:z=0
 .subst l;obtain⟨F,n⟩:∃F,bA path mode data=F:=⟨_,rfl⟩;have HW:Hid _:=n;rw[n]at b;go_enter Tryz.func77,Tryz.ntmps77;go_wp2_with fail;go_at_call 113;refine(dA j.out.env j.out.fs j.out.ok j.out.plan (by omega) (by omega) j.out.Ce j.out.apart).mono ?_;rw[G.out];rintro e w1 ⟨rfl,N⟩;have P:Hid (FsPost S O R w (.pointer (some ⟨g,0,none⟩)) d w1):=N;have o:Hid (OkM d):=C.out.1.ok;have ad:d.time<=m.time+1000:=C.out.1.time;have q:d.room=m.room:=C.out.1.room;have H:Hid _:=q;clear N q;go_wp2_with fail;go_at_call 133;refine(gY path mode (.slice a data.length c) data _ (j.out.Cq P.out) (IsBytes.fr Y.out Z.out P.out.fr) (by omega)).mono ?_;rw[HW.out];rintro e w2 ⟨rfl,I⟩
  by_cases r:F=0
  .subst r;have J:=fZ n;have u:Hid _:=J;have D:Hid (FsPost S O R w (.pointer (some ⟨g,0,none⟩)) d w2):=FsPost.ext P.out I;have K:Hid _:=j.out.Cq D.out;have M:Hid _:=IsBytes.fr Y.out Z.out D.out.fr;clear n J;have k:Hid (bD m path mode data=bj d path mode data (!i && fA d path data.length)):=by unfold Hid;rw[b.out];simp
   clear b
   cases i with
   | true =>
    have E:Hid (bD m path mode data=bj d path mode data false):=k.out;go_wp2_with fail;go_at_call 134;refine(gD path mode (.slice a data.length c) data false K.out D.out.fs o.out (by omega) (by omega) M.out u.out.2.2.2 (i' _ u.out.1)).mono ?_;rintro e w4 ⟨rfl,V⟩;go_wp2;go_ret;rw[E.out];exact⟨rfl,D.out.trans V⟩
   | false =>
    have E:Hid (bD m path mode data=bj d path mode data (fA d path data.length)):=k.out;go_wp2_with fail;go_at_call 135;refine(qB path data.length D.out.fs o.out (by omega) (by rw[H.out];exact j.out.B4) (by rw[H.out];exact j.out.B3) (by omega)).mono ?_;rintro e w3 ⟨rfl,W⟩;generalize fA d path data.length=ft at *;have x:Hid _:=W;go_wp2_with fail;go_at_call 134;refine(gD path mode (.slice a data.length c) data ft (K.out.ext x.out) (IsFs.ext D.out.fs x.out) o.out (by omega) (by omega) (IsBytes.ext M.out x.out) u.out.2.2.2 (i' _ u.out.1)).mono ?_;rintro e w4 ⟨rfl,V⟩;go_wp2;go_ret;rw[E.out];exact⟨rfl,D.out.trans (FsPost.pre x.out V)⟩
  .have hb:(F==0)=false:=by simpa using r
   have X:(F != 0)=true:=by simpa using r
   have k:Hid (bD m path mode data=(d,F)):=by unfold Hid;rw[b.out];simp[r]
   clear r n b;go_wp2;go_ret;rw[k.out];exact⟨rfl,FsPost.ext P.out I⟩
 .have hb:(z==0)=false:=by simpa using l
  have X:(z != 0)=true:=by simpa using l
  have k:Hid (bD m path mode data=(d,z)):=by unfold Hid;rw[b.out];simp[l]
  clear l b;go_enter Tryz.func77,Tryz.ntmps77
  go_wp2_with (go_at_call 113;go_must (refine(dA j.out.env j.out.fs j.out.ok j.out.plan (by omega) (by omega) j.out.Ce j.out.apart).mono ?_;rw[G.out];rintro e w1 ⟨rfl,N⟩))
  go_ret;rw[k.out];exact⟨rfl,N⟩
end
section
open Go Go.RowKit
variable {w:World} {p:Value} {m:Fs}
theorem kx {S O R:Nat->Prop} (path:B8) (h:FsIn S O R w p m) (E:path.length<=400) :
  Calls Tryz.prog 93 #[p,S8 path] w fun e z=>e=.returned (.int .i64 (bz m path).2)/\FsPost S O R w p (bz m path).1 z:=by
 obtain⟨d,i,j,g⟩:∃d i j,aB m=(d,i,j):=⟨_,_,_,rfl⟩;have l:=cd h.ok h.plan;rw[g]at l;have k:bz m path=if j≠0 then(d,j)else aD d path:=by unfold bz;rw[g]
 have b:Hid _:=k;have o:Hid _:=g;have q:Hid _:=l;have a:Hid _:=h;have A:=h.time;have B:=h.calls;clear k g l h
 by_cases c:j=0
 .subst c;have x:d.time<=m.time+1000:=q.out.1.time;have r:Hid (OkM d):=q.out.1.ok;have n:Hid (bz m path=aD d path):=b.out;go_enter Tryz.func93,Tryz.ntmps93
  go_wp2_with (first
   | (go_at_call 113;go_must (refine(dA a.out.env a.out.fs a.out.ok a.out.plan (by omega) (by omega) a.out.Ce a.out.apart).mono ?_;rw[o.out];rintro e y ⟨rfl,t⟩;have u:Hid (FsPost S O R w p d y):=t;clear t))
   | (go_at_call 156;go_must (refine(jM path (a.out.Cq u.out) u.out.fs r.out (by omega) (by omega)).mono ?_;rintro e F ⟨rfl,C⟩)))
  go_ret;rw[n.out];exact⟨rfl,u.out.trans C⟩
 .have G:(j==0)=false:=by simpa using c
  have D:(j != 0)=true:=by simpa using c
  have n:Hid (bz m path=(d,j)):=by unfold Hid;rw[b.out];simp[c]
  clear c b;go_enter Tryz.func93,Tryz.ntmps93
  go_wp2_with (go_at_call 113;go_must (refine(dA a.out.env a.out.fs a.out.ok a.out.plan (by omega) (by omega) a.out.Ce a.out.apart).mono ?_;rw[o.out];rintro e y ⟨rfl,t⟩))
  go_ret;rw[n.out];exact⟨rfl,t⟩
theorem xQ {S O R:Nat->Prop} (h:FsIn S O R w p m) :
  Calls Tryz.prog 99 #[p] w fun e z=>e=.returned (.int .i64 (dg m).2)/\FsPost S O R w p (dg m).1 z:=by
 obtain⟨d,i,j,g⟩:∃d i j,aB m=(d,i,j):=⟨_,_,_,rfl⟩;have l:=cd h.ok h.plan;rw[g]at l;have k:dg m=if j=0 then(settle d,0)else(d,j):=by unfold dg;rw[g]
 have b:Hid _:=k;have q:Hid _:=g;have r:Hid _:=l;have a:Hid _:=h;have A:=h.time;have B:=h.calls;clear k g l h
 by_cases c:j=0
 .subst c;have t:d.now.length<=10000000:=by
   have o:OkM d:=r.out.1.ok;have u:d.time<=m.time+1000:=r.out.1.time;have:=o.BY;omega
  have n:Hid (dg m=(settle d,0)):=b.out;go_enter Tryz.func99,Tryz.ntmps99
  go_wp2_with (first
   | (go_at_call 113;go_must (refine(dA a.out.env a.out.fs a.out.ok a.out.plan (by omega) (by omega) a.out.Ce a.out.apart).mono ?_;rw[q.out];rintro e x ⟨rfl,o⟩;have y:Hid (FsPost S O R w p d x):=o;clear o))
   | (go_at_call 158;go_must (refine(ku y.out.fs t).mono ?_;rintro e D ⟨rfl,u⟩)))
  go_ret;rw[n.out];exact⟨rfl,y.out.trans u⟩
 .have E:(j==0)=false:=by simpa using c
  have C:(j != 0)=true:=by simpa using c
  have n:Hid (dg m=(d,j)):=by unfold Hid;rw[b.out];simp[c]
  clear c b;go_enter Tryz.func99,Tryz.ntmps99
  go_wp2_with (go_at_call 113;go_must (refine(dA a.out.env a.out.fs a.out.ok a.out.plan (by omega) (by omega) a.out.Ce a.out.apart).mono ?_;rw[q.out];rintro e x ⟨rfl,o⟩))
  go_ret;rw[n.out];exact⟨rfl,o⟩
end
section
open Go Go.RowKit
variable {w:World} {p:Value} {m:Fs}
theorem vr {S O R:Nat->Prop} (src dst:B8) (a:Bool) (h:FsIn S O R w p m) (hs:src.length<=400) (hd:dst.length<=400) :
  Calls Tryz.prog 136 #[p,S8 src,S8 dst,.bool a] w fun e w'=>e=.returned (.int .i64 (aN m src dst a).2)/\FsPost S O R w p (aN m src dst a).1 w':=by
 obtain⟨c,C,D,B⟩:∃c C D,aB m=(c,C,D):=⟨_,_,_,rfl⟩;have H:=cd h.ok h.plan;rw[B]at H;have E:aN m src dst a=if D≠0 then(c,D)else if aC src=false\/aC dst=false then(c,6)
   else if(ax c.now src).isNone then(c,7)else if(ax c.now dst).isSome/\a=true then(c,8)
   else if src=dst then(c,0)else if(ax c.now dst).isNone/\ei c.now dst src=false then(c,9)else(does c (.mv src dst),0):=by unfold aN mvM;rw[B]
 have k:Hid _:=E;have X:Hid _:=B;have Y:Hid _:=H;have t:Hid _:=h;have bh:=h.time;have bk:=h.calls;obtain⟨g,a5⟩:∃g,p=.pointer (some ⟨g,0,none⟩):=by
  obtain⟨g,gm,gd,vp,vl,vu,L,c0,I,-⟩:=h.fs;exact⟨g,I⟩
 subst a5;have bl:(⟨src.toArray⟩:ByteArray).toList=src:=Lib.toList_data _;have bo:(⟨dst.toArray⟩:ByteArray).toList=dst:=Lib.toList_data _;clear E B H h
 by_cases A:D=0
 .subst A;have bd:c.time<=m.time+1000:=Y.out.1.time;have y:Hid (OkM c):=Y.out.1.ok;obtain⟨ps,J⟩:∃ps,aC src=ps:=⟨_,rfl⟩;obtain⟨pd,K⟩:∃pd,aC dst=pd:=⟨_,rfl⟩;have M:Hid _:=J;have Z:Hid _:=K;rw[J,K]at k;clear J K;go_enter Tryz.func136,Tryz.ntmps136;go_wp2_with fail;go_at_call 113;refine(dA t.out.env t.out.fs t.out.ok t.out.plan (by omega) (by omega) t.out.Ce t.out.apart).mono ?_;rw[X.out];rintro e w1 ⟨rfl,h1⟩;have H1:Hid (FsPost S O R w (.pointer (some ⟨g,0,none⟩)) c w1):=h1;clear h1;go_wp2_with fail;go_at_call 51;refine(dO src _ (t.out.Cq H1.out) (by omega)).mono ?_;rw[M.out];rintro e w2 ⟨rfl,ad⟩;have H2:Hid (FsPost S O R w (.pointer (some ⟨g,0,none⟩)) c w2):=FsPost.ext H1.out ad;clear ad
  cases ps with
  | false =>
   have j:Hid (aN m src dst a=(c,6)):=by unfold Hid;rw[k.out];simp
   clear k;go_wp2;go_ret;rw[j.out];exact⟨rfl,H2.out⟩
  | true =>
   go_wp2_with fail;go_at_call 51;refine(dO dst _ (t.out.Cq H2.out) (by omega)).mono ?_;rw[Z.out];rintro e w3 ⟨rfl,au⟩;have F:Hid (FsPost S O R w (.pointer (some ⟨g,0,none⟩)) c w3):=FsPost.ext H2.out au;clear au
   cases pd with
   | false =>
    have j:Hid (aN m src dst a=(c,6)):=by unfold Hid;rw[k.out];simp
    clear k;go_wp2;go_ret;rw[j.out];exact⟨rfl,F.out⟩
   | true =>
    obtain⟨g',br,bs,bt,bx,bS,L',b0,I,N,b1,P,-,-⟩:=F.out.fs;cases I;obtain⟨z0,z1,z2,z3,z4,z5,z6,z7,z8⟩:=ah N;obtain⟨b2,z,-,Q,T⟩:=P.now.B1 src (by omega);have HN:Hid _:=P.now;have U:Hid _:=N;clear N P
    cases n:ax c.now src with
    | none =>
     rw[n]at z;obtain rfl:=T n;simp only[Option.isSome_none]at z;have j:Hid (aN m src dst a=(c,7)):=by unfold Hid;rw[k.out,n];simp
     have o:Ext w3 (w3.alloc (.cells #[.int .i64 0,.slice none 0 0,.int .i64 0] 56)):=(Ext.refl _).alloc _;obtain⟨q0,q1,q2,q3,q4,q5,q6,q7,q8⟩:=ah (Ext.row o U.out);obtain⟨a0,i,-,u,x⟩:=(HN.out.ext o).B1 dst (by omega);have q:Hid _:=o;clear Q T n k o q0 q2 q3 q4 q5 q6 q7 q8
     cases b:ax c.now dst with
     | none =>
      rw[b]at i;obtain rfl:=x b;simp only[Option.isSome_none]at i;clear u x b;go_wp2;go_ret;rw[j.out];exact⟨rfl,FsPost.ext F.out (Ext.alloc q.out _)⟩
     | some W =>
      rw[b]at i;obtain⟨a6,rfl,r⟩:=u W b;obtain⟨r1,r2,rfl,-⟩:=r.bytes;simp only[Option.isSome_some]at i;clear u x b r;go_wp2;go_ret;rw[j.out];exact⟨rfl,FsPost.ext F.out (Ext.alloc q.out _)⟩
    | some f =>
     rw[n]at z;obtain⟨sv,rfl,a1⟩:=Q f n;obtain⟨s1,s2,rfl,-⟩:=a1.bytes;simp only[Option.isSome_some]at z;have o:Ext w3 (w3.alloc (.cells #[.int .i64 f.mode,.slice s1 f.data.length s2,.int .i64 f.time] 56)):=(Ext.refl _).alloc _;obtain⟨q0,q1,q2,q3,q4,q5,q6,q7,q8⟩:=ah (Ext.row o U.out);obtain⟨a0,i,-,u,x⟩:=(HN.out.ext o).B1 dst (by omega);have q:Hid _:=o;have G:Hid ((ax c.now src).isSome=true):=by unfold Hid;rw[n];rfl
     have l:Hid (aN m src dst a=if(ax c.now dst).isSome/\a=true then(c,8)
       else if src=dst then(c,0)else if(ax c.now dst).isNone/\ei c.now dst src=false then(c,9)else(does c (.mv src dst),0)):=by unfold Hid;rw[k.out,n];simp
     clear Q T a1 k o q0 q2 q3 q4 q5 q6 q7 q8
     cases b:ax c.now dst with
     | some W =>
      rw[b]at i;obtain⟨a6,rfl,r⟩:=u W b;obtain⟨r1,r2,rfl,-⟩:=r.bytes;simp only[Option.isSome_some]at i;rw[b]at l;clear u x r n b
      cases a with
      | true =>
       have j:Hid (aN m src dst true=(c,8)):=by unfold Hid;rw[l.out];simp
       clear l;go_wp2;go_ret;rw[j.out];exact⟨rfl,FsPost.ext F.out (Ext.alloc q.out _)⟩
      | false =>
       obtain⟨bq,a2⟩:∃bq,(src==dst)=bq:=⟨_,rfl⟩
       cases bq with
       | true =>
        have j:Hid (aN m src dst false=(c,0)):=by unfold Hid;rw[l.out,if_neg (by simp),if_pos (by simpa using a2)]
        clear l;go_wp2;go_ret;rw[j.out];exact⟨rfl,FsPost.ext F.out (Ext.alloc q.out _)⟩
       | false =>
        have j:Hid (aN m src dst false=(does c (.mv src dst),0)):=by unfold Hid;rw[l.out,if_neg (by simp),if_neg (by simpa using a2),if_neg (by simp)]
        clear l;have H4:Hid _:=FsPost.ext F.out (Ext.alloc q.out (.cells #[.int .i64 W.mode,.slice r1 W.data.length r2,.int .i64 W.time] 56))
        go_wp2_with (go_at_call 189;go_must (refine(qw (.mv src dst) [S8 dst,S8 src,.bool false,.int .i64 0,.slice none 0 0,.int .i64 0] (FsPost.fs H4.out) ⟨by omega,by omega,oz M.out,rfl⟩ (fun s d e=>by cases e;exact G.out) (by have:=y.out.BY;omega) (by have:=y.out.Ca;omega) (by omega)).mono ?_;rintro e w5 ⟨rfl,h5,a7⟩))
        go_ret;rw[j.out];exact⟨rfl,FsPost.trans H4.out ⟨h5,a7⟩⟩
     | none =>
      rw[b]at i;obtain rfl:=x b;simp only[Option.isSome_none]at i;rw[b]at l;have a8:(src==dst)=false:=by
       rw[beq_eq_false_iff_ne];intro e;rw[e,b]at n;cases n
      have a3:Hid (src≠dst):=beq_eq_false_iff_ne.1 a8;clear u x n b;have H4:Hid _:=FsPost.ext F.out (Ext.alloc q.out (.cells #[.int .i64 0,.slice none 0 0,.int .i64 0] 56));have a9:Hid _:=IsFiles.ext HN.out (Ext.alloc q.out (.cells #[.int .i64 0,.slice none 0 0,.int .i64 0] 56));obtain⟨t0,t1,t2,t3,t4,t5,t6,t7,t8⟩:=ah (Ext.row (Ext.alloc q.out (.cells #[.int .i64 0,.slice none 0 0,.int .i64 0] 56)) U.out);obtain⟨my,V⟩:∃my,ei c.now dst src=my:=⟨_,rfl⟩;have a':Hid (kq c.now dst src=my):=(i' src Z.out).trans V;rw[V]at l;clear V t0 t2 t3 t4 t5 t6 t7 t8;go_wp2_with fail;go_at_call 188;refine(lT dst src (t.out.Cq H4.out) a9.out (by omega)).mono ?_;rw[a'.out];rintro e w5 ⟨rfl,a4⟩;have H5:Hid (FsPost S O R w (.pointer (some ⟨g,0,none⟩)) c w5):=FsPost.ext H4.out a4;clear a4
      cases my with
      | false =>
       have j:Hid (aN m src dst a=(c,9)):=by unfold Hid;rw[l.out,if_neg (by simp),if_neg a3.out];simp
       clear l;go_wp2;go_ret;rw[j.out];exact⟨rfl,H5.out⟩
      | true =>
       have j:Hid (aN m src dst a=(does c (.mv src dst),0)):=by unfold Hid;rw[l.out,if_neg (by simp),if_neg a3.out];simp
       clear l
       go_wp2_with (go_at_call 189;go_must (refine(qw (.mv src dst) [S8 dst,S8 src,.bool false,.int .i64 0,.slice none 0 0,.int .i64 0] H5.out.fs ⟨by omega,by omega,oz M.out,rfl⟩ (fun s d e=>by cases e;exact G.out) (by have:=y.out.BY;omega) (by have:=y.out.Ca;omega) (by omega)).mono ?_;rintro e w6 ⟨rfl,h6,bb⟩))
       go_ret;rw[j.out];exact⟨rfl,FsPost.trans H5.out ⟨h6,bb⟩⟩
 .have hb:(D==0)=false:=by simpa using A
  have b3:(D != 0)=true:=by simpa using A
  have j:Hid (aN m src dst a=(c,D)):=by unfold Hid;rw[k.out];simp[A]
  clear A k;go_enter Tryz.func136,Tryz.ntmps136
  go_wp2_with (go_at_call 113;go_must (refine(dA t.out.env t.out.fs t.out.ok t.out.plan (by omega) (by omega) t.out.Ce t.out.apart).mono ?_;rw[X.out];rintro e w1 ⟨rfl,h1⟩))
  go_ret;rw[j.out];exact⟨rfl,h1⟩
theorem mN {S O R:Nat->Prop} (src dst:B8) (h:FsIn S O R w p m) (a:src.length<=400) (b:dst.length<=400) :
  Calls Tryz.prog 78 #[p,S8 src,S8 dst] w fun e c=>e=.returned (.int .i64 (aN m src dst false).2)/\FsPost S O R w p (aN m src dst false).1 c:=by
 have d:Hid _:=vr src dst false h a b;clear h;go_enter Tryz.func78,Tryz.ntmps78
 go_wp2_with (go_at_call 136;go_must (refine Calls.mono d.out ?_;rintro e i ⟨rfl,g⟩))
 go_ret;exact⟨rfl,g⟩
theorem rR {S O R:Nat->Prop} (src dst:B8) (h:FsIn S O R w p m) (a:src.length<=400) (b:dst.length<=400) :
  Calls Tryz.prog 97 #[p,S8 src,S8 dst] w fun e c=>e=.returned (.int .i64 (aN m src dst true).2)/\FsPost S O R w p (aN m src dst true).1 c:=by
 have d:Hid _:=vr src dst true h a b;clear h;go_enter Tryz.func97,Tryz.ntmps97
 go_wp2_with (go_at_call 136;go_must (refine Calls.mono d.out ?_;rintro e i ⟨rfl,g⟩))
 go_ret;exact⟨rfl,g⟩
end
section
open Go Go.RowKit
variable {w:World}
theorem Nu.mono {a b w':World} (c:a.heap.size<=w.heap.size) (d:w'.heap.size<=b.heap.size) {k:Nat} (h:Nu w w' k):Nu a b k:=⟨Nat.le_trans c h.1,Nat.lt_of_lt_of_le h.2 d⟩
variable {l:aq}
theorem IsFiles.C4 {R:Nat->Prop} {b:Nat} (h:IsFiles R w b l) (p:B8) (o:p.length<=10000000) :
  ∃(g:Fi) (a:Option Addr) (c:Nat) (n:Bool),(Instr.lookup 71 (.map (some b)) (S8 p) true).run Tryz.prog w=.ok (.tuple #[.agg #[.int .i64 g.mode,.slice a g.data.length c,.int .i64 g.time],.bool n]) w/\IsData R w (.slice a g.data.length c) g.data /\
   (match ax l p with | some f=>(f,true) | none=>(cz,false))=(g,n):=by
 obtain⟨q,d,-,j,k⟩:=h.B1 p o
 cases e:ax l p with
 | some f =>
  rw[e]at d;obtain⟨r,rfl,i⟩:=j f e;obtain⟨a,c,rfl,-⟩:=id i.bytes;exact⟨f,a,c,true,d,i,rfl⟩
 | none =>
  rw[e]at d;obtain rfl:=k e;exact⟨cz,none,0,false,d,IsData.nil _ _,rfl⟩
variable {p:Value} {m:Fs}
theorem qD {S O R:Nat->Prop} (path:B8) (h:IsFs S O R w p m) (W:path.length<=10000000) :
  Calls Tryz.prog 18 #[p,S8 path] w fun e I=>(∃v,e=.returned (.tuple #[fiV (cF m path).1 v,.bool (cF m path).2])/\IsData (Nu w I) I v (cF m path).1.data)/\Ext w I:=by
 obtain⟨g,gm,gd,vp,vl,vu,L,c0,rfl,Q,-,T,-⟩:=h;have l:Ext w (w.alloc (.cells #[.int .i64 0,.slice none 0 0,.int .i64 0] 56)):=(Ext.refl _).alloc _;obtain⟨X,d1,Y,Z,d4,d5,d6,d7,d8⟩:=ah (Ext.row l Q);obtain⟨b,a,c,U,V,G,x⟩:=(T.now.ext l).C4 path W;have J:Hid (cF m path=(b,U)):=x;have HD:Hid _:=G;have ad:=G.bytes.len;rw[J.out];obtain⟨o,d⟩:∃o,o=(w.alloc (.cells #[.int .i64 0,.slice none 0 0,.int .i64 0] 56)).alloc (.cells #[.int .i64 b.mode,.slice a b.data.length c,.int .i64 b.time] 56):=⟨_,rfl⟩;have n:Ext (w.alloc (.cells #[.int .i64 0,.slice none 0 0,.int .i64 0] 56)) o:=by rw[d];exact(Ext.refl _).alloc _
 have r:o.heap[w.heap.size+1]? = some (.cells #[.int .i64 b.mode,.slice a b.data.length c,.int .i64 b.time] 56 (0,0)):=by rw[d];exact ju _ _ _
 have y:o.heap[w.heap.size]? = some (.cells #[.int .i64 0,.slice none 0 0,.int .i64 0] 56 (0,0)):=n.row (ab _ _);obtain⟨y0,y1,y2⟩:=bE r;have HB:Hid (IsData R o (.slice a b.data.length c) b.data):=G.ext n;have K:Hid _:=d;have z:=l.trans n;have au:w.heap.size+2<=o.heap.size:=by rw[d];simp
 clear d Q T G x l n X Y Z d4 d5 d6 d7 d8;go_enter Tryz.func18,Tryz.ntmps18;go_upto_region 2 with fail;rw[show(w.alloc (.cells #[.int .i64 0,.slice none 0 0,.int .i64 0] 56)).alloc (.cells #[.int .i64 b.mode,.slice a b.data.length c,.int .i64 b.time] 56)=o from K.out.symm];go_wp2_with fail;go_at_call 54;refine(eB _ b.data _ HB.out.bytes (by omega)).mono ?_;rintro e w2 ⟨⟨v2,rfl,t⟩,u⟩;obtain⟨A,B,rfl,-⟩:=id t.bytes;have M:Hid _:=t;have q:=u.row r;have C:=u.row y;have D:w.heap.size≠w.heap.size+1:=by omega
 clear t r y y0 y1 y2
 go_wp2_with (first
  | (refine af rfl 37 (.tmp 20) (.tmp 19) rfl (w.heap.size+1) 1 rfl (.slice A b.data.length B) rfl rfl _ _ q (Nat.le_of_ble_eq_true rfl) fg #[.int .i64 b.mode,.slice A b.data.length B,.int .i64 b.time] (by simp) ?_;intro H N i;have j:=aS i C D)
  | (refine wpList_load_row rfl 56 (.tmp 6) rfl (w.heap.size+1) rfl 56 _ (0,0) _ N Tryz.underlying56 rfl dN ?_)
  | (refine wpList_store_row rfl 56 (.tmp 4) (.tmp 21) rfl w.heap.size #[.int .i64 b.mode,.slice A b.data.length B,.int .i64 b.time] rfl rfl 56 _ j dN rfl (by simp[Value.oneCell']) ?_))
 refine bodyPost_ret (bK rfl _ _ w.heap.size 56 #[.int .i64 b.mode,.slice A b.data.length B,.int .i64 b.time] (0,0) _ (.bool U) rfl rfl (setRow_heap _ _ _ _ _ _ j) Tryz.underlying56 dN) rfl ?_;have E:KeepB w2 H:=KeepB.BR i q (by kernel_rfl);have F:KeepB H (H.setRow w.heap.size #[.int .i64 b.mode,.slice A b.data.length B,.int .i64 b.time]):=KeepB.BR (ae _ _ _) j (by kernel_rfl);have P:Ext w H:=Ext.but (z.trans u) i (by omega);refine⟨⟨_,rfl,(M.out.keep (E.trans F)).mono (fun k hk=>Nu.mono (by omega) (Nat.le_trans E.1 F.1) hk)⟩,P.setRow _ _ (Nat.le_refl _)⟩
theorem xR {a:Nat} {v:Value} {c:List B8} (b:w.ownsRow a 9 1 v c.length (c.map S8)) (y:c.length<=10000000) :
  Calls Tryz.prog 50 #[v] w fun e i=>e=.returned (.tuple #[])/\i.ownsRow a 9 1 v c.length ((c.mergeSort Go.leB).map S8)/\w.grownBy i v.ownBlock:=by
 rcases b.2 with⟨rfl,o⟩ | ⟨g,j,p,rfl,d,k,q,r,t,u⟩
 .have x:c=[]:=List.eq_nil_of_length_eq_zero (by simpa using o);subst x;exact(Tryz.slices_Sort_string_none none 0 w).mono fun e i ⟨l,h⟩=>⟨l,by rw[h,List.mergeSort_nil];exact b,by rw[h];exact⟨rfl,rfl,rfl,Nat.le_refl _,fun _ _ _=>rfl⟩⟩
 .refine (Tryz.slices_Sort_string g 0 j c w (holds_of_block k (by simpa using u)) (Array.getElem?_eq_some_iff.1 k).1 (by omega)).mono fun e i ⟨l,n,z,h⟩=>⟨l,?_,?_⟩
  .rw [h];exact ownsRow_sorted (by simp) d k q r t
  .rw [h];exact grownBy_sorted _
theorem qE (h:Rising l):(aG l).mergeSort Go.leB=aG l:=by
 have j:∀a b c:B8,Go.leB a b=true->Go.leB b c=true->Go.leB a c=true:=fun a b c d e=>by simp only[Go.leB,decide_eq_true_eq]at *;exact List.le_trans d e
 have g:∀a b:B8,(Go.leB a b || Go.leB b a)=true:=fun a b=>by simp only[Go.leB,Bool.or_eq_true,decide_eq_true_eq];exact List.le_total a b
 refine List.Perm.eq_of_pairwise (le:=fun a b=>Go.leB a b=true) (fun a b _ _ d e=>?_) (List.pairwise_mergeSort j g _) ?_ (List.mergeSort_perm _ _)
 .simp only[Go.leB,decide_eq_true_eq]at d e;exact List.le_antisymm d e
 .unfold aG;refine List.pairwise_map.2 (h.imp fun {a b} i=>?_);simp only[Go.leB,decide_eq_true_eq];exact List.le_of_lt (by simpa [ltB]using i)
theorem ll {S O R:Nat->Prop} (h:IsFs S O R w p m) (hl:m.now.length<=10000000) :
  Calls Tryz.prog 15 #[p] w fun e w'=>(∃v,e=.returned v/\w'.ownsRow w.heap.size 9 1 v m.now.length ((aG m.now).map S8))/\Ext w w':=by
 obtain⟨g,Z,gd,vp,vl,vu,L,c0,rfl,hg,-,hP,-⟩:=h;obtain⟨h1,h0,sl,b,hd⟩:=hP.now;have D:=IsFiles.sliced hd;obtain⟨d0,d1,d2,d3,d4,d5,d6,d7,d8⟩:=ah hg;have au:=b.lt;have HS:Hid _:=D;have HR:Hid _:=h1;have n:=k7 sl h1;have HA:Hid _:=n;have a0:Hid _:=qE h1;clear D h1 hd n h0 hg hP d0 d2 d3 d4 d5 d6 d7 d8;go_enter Tryz.func15,Tryz.ntmps15
 go_wp2_with (first
  | (at_range;refine wpList_range_own _ rfl _ 71 rfl 9 56 fB Tryz.underlying71 _ Z _ _ rfl b ?_;intro w0 E a1 a')
  | go_in)
 go_frame
 go_loopw [3] (fun sv wr=>∃(left:Lit->Bool) (F:Nat) (C:List B8),wr.ranges Tryz.prog 9 eH Z w.heap.size m.now.length (dat sl m.now) left F/\wr.ownsRow w.heap.size 9 1 sv C.length (C.map S8)/\(C++aG (eJ left m.now)).Perm (aG m.now)/\Ext w wr)
  (fun _ wr=>wr.rangeLeft Z w.heap.size)
 case atStart=>exact⟨_,_,[],E,World.ownsRow_nil _ _ _ _,by rw[HA.out];exact List.Perm.refl _,Below.grown (Below.refl _ _) a1 (Nat.le_refl _) (fun j G=>by cases G)⟩
 case round =>
  obtain⟨left,F,C,u,b,x,hx⟩:=hrel;have H:Hid _:=x;have bb:C.length<=m.now.length:=by
   have:=x.length_eq;simp only[List.length_append,aG,List.length_map]at this;omega
  have l:Hid _:=b;clear x b
  go_wp2_with (at_next;refine iB rfl _ rfl Z w.heap.size _ sl m.now _ _ rfl u HS.out ?_ ?_)
  .intro bd I;have y:C.Perm (aG m.now):=by
    have:=H.out;rw[nr I]at this;simpa [aG]using this
   have J:C.mergeSort Go.leB=aG m.now:=(Go.mergeSort_of_perm y).trans a0.out;have K:C.length=m.now.length:=by have:=y.length_eq;simpa [aG]using this
   have a2:Hid _:=J;have a3:Hid _:=K;clear I y J K
   go_wp2_with (go_at_call 50;go_must (refine(xR l.out (by omega)).mono ?_;rintro e w5 ⟨rfl,M,a4⟩))
   go_ret;rw[a2.out,a3.out]at M;exact⟨⟨_,rfl,M⟩,Below.grown hx a4 hx.size (fun q hq=>(World.ownsRow.lt l.out q hq).1)⟩
  .intro q f ad c N P Q a5 T a6 U a7 V a8 bh;have W:=jL (f:=f) T HR.out Q;have o:((C++[q])++aG (eJ (eR left q) m.now)).Perm (aG m.now):=by
    refine List.Perm.trans ?_ H.out;rw[List.append_assoc];refine List.Perm.append_left C ?_;exact(List.Perm.map Prod.fst W).symm
   have HM:Hid _:=o;have X:=row_ne_iter l.out u;have d:=World.ownsRow.kept l.out V (.inr X.symm);have Y:Ext w N:=Below.grown hx V hx.size (fun j G=>by cases G;exact Nat.le_refl _);have z:Ext N (N.alloc (.cells #[S8 q] 9)):=(Ext.refl _).alloc _;have a:=al d z;have A:=Y.trans z;have a9:w.heap.size<=(N.alloc (.cells #[S8 q] 9)).heap.size:=A.size;have i:=U.alloc (.cells #[S8 q] 9);have r:Hid _:=row_ne_iter a i;have t:Hid _:=row_ne_low a au;clear Q a5 a6 W o T X d Y z a8
   go_wp2_with (at_builtin;go_must (refine eO rfl _ _ rfl w.heap.size _ C.length C rfl a N.heap.size 1 1 [q] rfl rfl (ab _ _) (by omega) a9 ?_);intro v' w3 B k)
   go_roundw
   case rel=>exact⟨_,P,C++[q],i.kept k t.out r.out,by rw[List.length_append];exact B,HM.out,Below.grown A k A.size (fun j G=>(a.lt j G).1)⟩
   case measure=>rw[(i.kept k t.out r.out).left_eq,u.left_eq];exact a7
end
section
open Go Go.RowKit Go.Sort Go.Shelf
theorem mh (dir x:B8) (B:Nat) (W:World) (d:dir.length<=10000000) (g:W.cell? ⟨B,0,none⟩=some (S8 dir)) :
  FnGives Tryz.prog 115 #[.pointer (some ⟨B,0,none⟩)] #[S8 x] (.bool (!aF dir x)) W:=by
 show Calls Tryz.prog 115 #[S8 x,.pointer (some ⟨B,0,none⟩)] W _;have b:(dir++[47]).isPrefixOf x=aF dir x:=rfl;obtain⟨u,a⟩:∃u,aF dir x=u:=⟨_,rfl⟩;have c:Hid _:=b.trans a;rw[a];clear b a;go_enter Tryz.func115,Tryz.ntmps115
 go_wp2_with (go_at_call 116;go_must (refine(ko _ _ _).mono ?_;rw[sX,show(⟨x.toArray⟩:ByteArray).data.toList=x from rfl,c.out];rintro e h ⟨rfl,rfl⟩))
 go_ret;exact⟨rfl,0,rfl⟩
variable {w:World}
theorem qF {g n:Nat} (d:Array B8):w.grownBy (putRow encStr (Sort.ahead w n) g 0 d) (some g):=by
 refine⟨rfl,rfl,rfl,by simp[Sort.ahead],fun k b a=>?_⟩;have:g≠k:=fun e=>a (by rw[e])
 simp[putRow,mapBlock,Sort.ahead,Array.getElem?_modify,this]
theorem vv (f:Value) (w:World) :
  Calls Tryz.prog 164 #[.slice none 0 0,f] w fun e a=>e=.returned (.int .i64 (-1))/\a=w:=by
 go_enter Tryz.func164,Tryz.ntmps164;go_wp2
 go_loop [8] (fun i=>i=.int .i64 0) (fun _=>0)
 case atStart=>rfl
 case round =>
  subst hrel;go_wp2;go_ret;exact⟨rfl,rfl⟩
theorem vw (f:Value) (w:World) :
  Calls Tryz.prog 114 #[.slice none 0 0,f] w fun e a=>e=.returned (.slice none 0 0)/\a=w:=by
 go_enter Tryz.func114,Tryz.ntmps114
 go_wp2_with (go_at_call 164;go_must (refine(vv _ _).mono ?_;rintro e a ⟨rfl,rfl⟩))
 go_ret;exact⟨rfl,rfl⟩
theorem vy (dir:B8) (B:Nat) {b:Nat} {v:Value} {a:List B8} (H:dir.length<=10000000) (r:w.cell? ⟨B,0,none⟩=some (S8 dir)) (V:B<b) (d:w.ownsRow b 9 1 v a.length (a.map S8)) (X:a.length<=10000000) :
  Calls Tryz.prog 114 #[v,.func (.func 115) #[] #[.pointer (some ⟨B,0,none⟩)]] w fun e o=>(∃t,e=.returned t/\IsStrs o t (a.filter (aF dir))/\∀k,t.ownBlock=some k->b<=k)/\w.grownBy o v.ownBlock:=by
 rcases d.2 with⟨rfl,K⟩ | ⟨g,h,L,rfl,y,z,M,N,Y,O⟩
 .have P:a=[]:=List.eq_nil_of_length_eq_zero (by simpa using K);subst P;exact(vw _ w).mono fun e o ⟨A,j⟩=>⟨⟨_,A,by rw[j];exact IsStrs.nil w,fun k C=>by simp[Value.ownBlock]at C⟩,by rw[j];exact⟨rfl,rfl,rfl,Nat.le_refl _,fun _ _ _=>rfl⟩⟩
 .have I:=holds_of_block z (by simpa using O);have Q:∀args w,(callFunc 115 args).run Tryz.prog w=.ok (.enter 115 args) w:=enters_of Tryz.func115 (by kernel_rfl) rfl;have l:B<w.heap.size:=World.block_lt_of_cell? _ _ r;have D:B≠g:=by omega
  have R:PredAt Tryz.prog 115 #[.pointer (some ⟨B,0,none⟩)] encStr (fun x=>!aF dir x) w:=fun W x z=>mh dir x B W H ((z.cell (p:=⟨B,0,none⟩) l).trans r)
  have E:PredOver Tryz.prog 115 #[.pointer (some ⟨B,0,none⟩)] encStr (fun x=>!aF dir x) g 0 a.toArray.size w:=fun n Z dk x _=>mh dir x B _ H (by
   unfold sortWorld;rw[cell?_grow _ _ _ (by show B<(putRow _ _ _ _ _).heap.size;rw[size_putRow];exact l),cell?_putRow_other _ _ g 0 _ _ (Or.inl D)];exact r)
  have c:=AnyE.slices_DeleteFunc Tryz.laysDel encStr (fun _=>rfl) (fun x=>!aF dir x) 115 #[.pointer (some ⟨B,0,none⟩)] Q [] Tryz.zeroValue9 g 0 h a.toArray w R E I (by simp;omega) (by simpa using M);have F:(a.toArray.toList.filter fun x=>!(fun x=>!aF dir x) x)=a.filter (aF dir):=by simp
  rw[F,show a.toArray.size=a.length from rfl]at c;refine Calls.mono c fun e o ⟨A,q,j⟩=>⟨⟨_,A,?_,fun k C=>?_⟩,?_⟩
  .have S:(a.filter (aF dir)).length<=a.length:=List.length_filter_le _ _;refine⟨_,h,rfl,by omega,by unfold maxLen at N;omega,by omega,fun _=>⟨g,0,rfl,fun i u T=>?_⟩⟩;obtain⟨x,J,rfl⟩:=(by simpa [List.getElem?_map]using T:∃x,(a.filter (aF dir))[i]? = some x/\S8 x=u);have U:=(List.getElem?_eq_some_iff.1 J).1;rw[j];have G:Holds encStr (Sort.ahead w q) g 0 a.toArray:=I;rw[cell?_putRow encStr (Sort.ahead w q) g 0 a.toArray _ G (by simp;omega) i (by simp;omega)];congr 1;have:((a.filter (aF dir))++List.replicate (a.length - (a.filter (aF dir)).length) [])[i]? = some x:=by rw[List.getElem?_append_left U];exact J
   simp[this]
  .have:g=k:=by simpa [Value.ownBlock]using C
   omega
  .rw [j];exact qF _
end
section
open Go Go.RowKit
variable {w:World} {p:Value} {m:Fs}
theorem FsIn.ext {S O R:Nat->Prop} {c:World} (h:FsIn S O R w p m) (a:Ext w c):FsIn S O R c p m :=
 ⟨h.env.ext a,h.fs.ext a,h.ok,h.plan,h.time,h.calls,h.Ce,fun k b=>⟨(h.apart k b).1,Nat.lt_of_lt_of_le (h.apart k b).2 a.size⟩,fun k b=>Nat.lt_of_lt_of_le (h.low k b) a.size,h.B4,h.B3⟩
variable {w1:World} {m1:Fs} {b:Nat} {v:Value}
theorem FsPost.cell {S O R:Nat->Prop} (h:FsPost S O R w p m1 w1) {o:Nat} (c:w.cell? ⟨b,o,none⟩=some v) (d:¬O b):w1.cell? ⟨b,o,none⟩=some v:=by
 rw[World.cell?_of_block (w:=w) (w':=w1) (a:=⟨b,o,none⟩) (h.fr.block b (World.block_lt_of_cell? _ _ c) (.inl d))];exact c
theorem FsPost.row {S O R:Nat->Prop} (h:FsPost S O R w p m1 w1) {o:Obj} (a:w.heap[b]? = some o) (c:¬O b):w1.heap[b]? = some o:=h.fr.row a c
theorem ky {a:Nat} {L:List B8} {n:Nat} (h:w.ownsRow a 9 1 v n (L.map S8)) (c:n=L.length) (d:n<=10000000):IsStrs w v L:=by
 subst c;exact Row.BM h (by omega)
theorem vz {S O R:Nat->Prop} (dir:B8) (h:FsIn S O R w p m) (hp:dir.length<=400) :
  Calls Tryz.prog 48 #[p,S8 dir] w fun e w'=>(∃v,e=.returned (.tuple #[v,.int .i64 (bm m dir).2.2])/\IsStrs w' v (bm m dir).2.1/\∃M,FsPost S O R w p (bm m dir).1 M/\Ext M w'/\∀k,v.ownBlock=some k->M.heap.size<=k):=by
 obtain⟨m1,o,r,j⟩:∃m1 o r,aB m=(m1,o,r):=⟨_,_,_,rfl⟩;have x:=cd h.ok h.plan;rw[j]at x;have t:bm m dir=if r≠0 then(m1,[],r)else if dir=[]then(m1,aG m1.now,0)else if aC dir=false then(m1,[],6)else(m1,(aG m1.now).filter (aF dir),0):=by unfold bm;rw[j]
 have a:Hid _:=t;have N:Hid _:=j;have G:Hid _:=x;have a2:=h.time;have a3:=h.calls;obtain⟨u,g⟩:∃u,u=w.alloc (.cells #[S8 dir] 9):=⟨_,rfl⟩;have y:Ext w u:=by rw[g];exact(Ext.refl _).alloc _
 have H:u.cell? ⟨w.heap.size,0,none⟩=some (S8 dir):=by rw[g];exact(cell_of_row _ _ 0 _ _ _ (ab w _)).trans rfl
 have a4:w.heap.size<u.heap.size:=by rw[g];simp
 have P:Hid (¬O w.heap.size):=fun ho=>by have:=h.low _ ho;omega
 have z:Hid _:=h.ext y;have Q:Hid _:=g;have T:Hid _:=y;have a5:(⟨dir.toArray⟩:ByteArray).toList=dir:=Lib.toList_data _;clear t j x h g y;go_enter Tryz.func48,Tryz.ntmps48;go_wp2_with fail;rw[show w.alloc (.cells #[S8 dir] 9)=u from Q.out.symm];go_at_call 113;refine(dA z.out.env z.out.fs z.out.ok z.out.plan (by omega) (by omega) z.out.Ce z.out.apart).mono ?_;rw[N.out];rintro e w1 ⟨rfl,A⟩;have U:Hid (FsPost S O R u p m1 w1):=A;have V:Hid (FsPost S O R w p m1 w1):=FsPost.pre T.out A;have W:=A.cell H P.out;have l:m1.now.length<=10000000:=by
  have A:OkM m1:=G.out.1.ok;have h2:m1.time<=m.time+1000:=G.out.1.time;have:=A.BY;omega
 have I:(aG m1.now).length=m1.now.length:=by simp[aG]
 have B:Hid _:=I;have a6:u.heap.size<=w1.heap.size:=A.fr.size;clear A H I
 by_cases i:r=0
 .subst i
  by_cases n:dir=[]
  .subst n;have d:Hid (bm m []=(m1,aG m1.now,0)):=a.out;clear a
   go_wp2_with (go_at_call 15;go_must (refine(ll U.out.fs l).mono ?_;rintro e L ⟨⟨v,rfl,F⟩,c⟩))
   go_ret2;rw[d.out];exact⟨_,rfl,ky F B.out.symm l,w1,V.out,c,fun k C=>(World.ownsRow.lt F k C).1⟩
  .have a7:dir.isEmpty=false:=by cases dir <;> simp_all
   have a8:(dir==[])=false:=by simpa using n
   have a9:Hid _:=n;obtain⟨X,D⟩:∃X,aC dir=X:=⟨_,rfl⟩;have Y:Hid _:=D;rw[D,if_neg (by simp),if_neg n]at a;clear D;go_wp2_with fail;go_at_call 51;refine(dO dir _ (z.out.Cq U.out) (by omega)).mono ?_;rw[Y.out];rintro e L ⟨rfl,c⟩;have Z:=c.cell W;have H2:Hid _:=U.out.ext c;have J:Hid _:=V.out.ext c;have a':=c.size
   cases X with
   | false =>
    have d:Hid (bm m dir=(m1,[],6)):=a.out;clear a c;go_wp2;go_ret2;rw[d.out];exact⟨_,rfl,IsStrs.nil _,L,J.out,Ext.refl _,fun k C=>by simp[Value.ownBlock]at C⟩
   | true =>
    have d:Hid (bm m dir=(m1,(aG m1.now).filter (aF dir),0)):=a.out;clear a c
    go_wp2_with (first
     | (go_at_call 15;go_must (refine(ll H2.out.fs l).mono ?_;rintro e w3 ⟨⟨v,rfl,F⟩,E⟩;rw[<-B.out]at F;have ad:=E.cell Z;have HV:Hid _:=F;clear F))
     | (go_at_call 114;go_must (refine(vy dir w.heap.size (by omega) ad (by omega) HV.out (by rw[B.out];exact l)).mono ?_;rintro e w4 ⟨⟨v4,rfl,au,a0⟩,a1⟩)))
    go_ret2;rw[d.out];have K:Ext L w4:=Below.grown E a1 E.size (fun q hq=>(World.ownsRow.lt HV.out q hq).1);exact⟨_,rfl,au,L,J.out,K,fun k C=>by have:=a0 k C;omega⟩
 .have hb:(r==0)=false:=by simpa using i
  have bb:(r != 0)=true:=by simpa using i
  have d:Hid (bm m dir=(m1,[],r)):=by unfold Hid;rw[a.out];simp[i]
  clear i a;go_wp2;go_ret2;rw[d.out];exact⟨_,rfl,IsStrs.nil _,w1,V.out,Ext.refl _,fun k C=>by simp[Value.ownBlock]at C⟩
theorem qG {S O R:Nat->Prop} (dir:B8) (h:FsIn S O R w p m) (a:dir.length<=400) :
  Calls Tryz.prog 48 #[p,S8 dir] w fun e c=>(∃v,e=.returned (.tuple #[v,.int .i64 (bm m dir).2.2])/\IsStrs c v (bm m dir).2.1/\∀k,v.ownBlock=some k->w.heap.size<=k)/\FsPost S O R w p (bm m dir).1 c:=by
 refine(vz dir h a).mono ?_;rintro e c ⟨v,d,g,n,a,i,j⟩;exact⟨⟨v,d,g,fun k l=>Nat.le_trans a.fr.size (j k l)⟩,a.ext i⟩
theorem jv {S O R:Nat->Prop} {g:Nat} {cs cur:Array Value} (h:FsPost S O R w p m1 w1) (q:w1.heap[g]? = some (.cells cur 56 (0,0))) (j:g=w.heap.size):FsPost S O R w p m1 (w1.setRow g cs):=by
 subst j;have c:=ae w1 w.heap.size cs;obtain⟨g,A,B,C,D,E,L,F,rfl,j,G,e,r,t⟩:=h.fs;have H:=cy j q (by simp);obtain⟨N,P,I⟩:=e.now.kind;obtain⟨T,U,J⟩:=e.sure.kind;have i:∀k,(∃x,w1.heap[k]? = some x/\∀cs K,x≠Obj.cells cs 56 K)->(w1.setRow w.heap.size cs).heap[k]? = w1.heap[k]?:=fun k ⟨x,a,M⟩=>c.block k (Array.getElem?_eq_some_iff.1 a).1 (fun l=>by
  simp only[Option.some.injEq]at l;subst l;rw[q]at a;exact M cur (0,0) (Option.some.inj a).symm)
 have u:=e.stay (i _ ⟨_,I,by simp⟩) (i _ ⟨_,J,by simp⟩) (fun k n=>by obtain⟨z,f,a⟩:=e.pend.typed k n;exact i k ⟨_,a,by simp⟩) (fun k n=>by obtain⟨z,f,a⟩:=e.plan.typed k n;exact i k ⟨_,a,by simp⟩) (fun k n=>by obtain⟨z,f,a⟩:=e.users.typed k n;exact i k ⟨_,a,by simp⟩) (cg c (by rintro k d;cases d;exact ao q (by kernel_rfl)));have y:(w1.setRow w.heap.size cs).heap.size=w1.heap.size:=by simp[World.setRow]
 have o:∀(Q:Nat->Prop) k,Nw Q w w1 k->Nw Q w (w1.setRow w.heap.size cs) k:=fun Q k d=>d.imp id (fun h=>⟨h.1,by rw[y];exact h.2⟩)
 refine⟨IsFs.mono ⟨g,A,B,C,D,E,L,F,rfl,(i g ⟨_,j,by simp⟩).trans j,G,u,r,t⟩ (o O) (o R),h.fr.step c (fun k d=>by cases d;exact .inr (Nat.le_refl _)) (by rintro k d;cases d;exact ao q (by kernel_rfl))⟩
theorem qH {S O R:Nat->Prop} (path:B8) (h:FsIn S O R w p m) (hp:path.length<=400) :
  Calls Tryz.prog 101 #[p,S8 path] w fun e Q=>(∃v,e=.returned (.tuple #[fiV (aE m path).2.1 v,.int .i64 (aE m path).2.2])/\IsData (Nu w Q) Q v (aE m path).2.1.data)/\FsPost S O R w p (aE m path).1 Q:=by
 obtain⟨m1,y,o,q⟩:∃m1 y o,aB m=(m1,y,o):=⟨_,_,_,rfl⟩;have B:=cd h.ok h.plan;rw[q]at B;have z:aE m path=if o≠0 then(m1,cz,o)else if aC path=false then(m1,cz,6)else match ax m1.now path with | some f=>(m1,f,0) | none=>(m1,cz,7):=by
  unfold aE;rw[q]
  all_goals (dsimp only;cases ax m1.now path <;> rfl)
 have a:Hid _:=z;have T:Hid _:=q;have a4:Hid _:=B;have a5:=h.time;have a6:=h.calls;obtain⟨A,j⟩:∃A,A=w.alloc (.cells #[.int .i64 0,.slice none 0 0,.int .i64 0] 56):=⟨_,rfl⟩;have C:Ext w A:=by rw[j];exact(Ext.refl _).alloc _
 have G:A.heap[w.heap.size]? = some (.cells #[.int .i64 0,.slice none 0 0,.int .i64 0] 56 (0,0)):=by rw[j];exact ab w _
 have a7:w.heap.size<A.heap.size:=by rw[j];simp
 have U:Hid (¬O w.heap.size):=fun ho=>by have:=h.low _ ho;omega
 have D:Hid _:=h.ext C;have V:Hid _:=j;have W:Hid _:=C;clear z q B h j C;go_enter Tryz.func101,Tryz.ntmps101;go_wp2_with fail;rw[show w.alloc (.cells #[.int .i64 0,.slice none 0 0,.int .i64 0] 56)=A from V.out.symm];go_at_call 113;refine(dA D.out.env D.out.fs D.out.ok D.out.plan (by omega) (by omega) D.out.Ce D.out.apart).mono ?_;rw[T.out];rintro e w1 ⟨rfl,H⟩;have H1:Hid (FsPost S O R A p m1 w1):=H;have H0:Hid (FsPost S O R w p m1 w1):=FsPost.pre W.out H;have r:=H.row G U.out;have a8:A.heap.size<=w1.heap.size:=H.fr.size;clear H G
 by_cases l:o=0
 .subst l;obtain⟨X,E⟩:∃X,aC path=X:=⟨_,rfl⟩;have Y:Hid _:=E;rw[E,if_neg (by simp)]at a;clear E;go_wp2_with fail;go_at_call 51;refine(dO path _ (D.out.Cq H1.out) (by omega)).mono ?_;rw[Y.out];rintro e w2 ⟨rfl,i⟩;have t:=i.row r;have H2:Hid _:=H1.out.ext i;have I:Hid _:=H0.out.ext i;have a9:=i.size
  cases X with
  | false =>
   have d:Hid (aE m path=(m1,cz,6)):=a.out;clear a i
   go_wp2_with (refine wpList_store_row rfl 56 (.tmp 4) (.tmp 22) rfl w.heap.size #[.int .i64 0,.slice none 0 0,.int .i64 0] rfl rfl 56 _ t dN rfl (by simp[Value.oneCell']) ?_)
   refine bodyPost_ret (bK rfl _ _ w.heap.size 56 #[.int .i64 0,.slice none 0 0,.int .i64 0] (0,0) _ (.int .i64 6) rfl rfl (setRow_heap _ _ _ _ _ _ t) Tryz.underlying56 dN) rfl ?_;rw[d.out];exact⟨⟨_,rfl,IsData.nil _ _⟩,jv I.out t rfl⟩
  | true =>
   have n:Hid (aE m path=(m1,(cF m1 path).1,if(cF m1 path).2 then 0 else 7)):=by
    unfold Hid cF;rw[a.out,if_neg (by simp)]
    cases ax m1.now path <;> rfl
   have P:Hid ((cF m1 path).2=false->(cF m1 path).1=cz):=by
    unfold Hid cF
    cases ax m1.now path <;> simp
   obtain⟨c,Z,F⟩:∃c Z,cF m1 path=(c,Z):=⟨_,_,rfl⟩;have ad:Hid _:=F;rw[F]at n P;clear a i F;go_wp2_with fail;go_at_call 18;refine(qD path H2.out.fs (by omega)).mono ?_;rw[ad.out];rintro e J ⟨⟨v,rfl,hv⟩,u⟩;obtain⟨K,L,rfl,-⟩:=id hv.bytes;have au:=u.row t;have HV:Hid _:=hv;have a0:Hid _:=I.out.ext u;have a':=u.size;have x:Ext J (J.alloc (.cells #[.int .i64 c.mode,.slice K c.data.length L,.int .i64 c.time] 56)):=(Ext.refl _).alloc _;have g:=x.row au;have a1:=ab J (.cells #[.int .i64 c.mode,.slice K c.data.length L,.int .i64 c.time] 56);have M:Hid _:=a0.out.ext x;have a2:Hid _:=x;clear hv u x
   cases Z with
   | false =>
    have a3:c=cz:=P.out rfl;subst a3;have d:Hid (aE m path=(m1,cz,7)):=n.out;clear n P
    go_wp2_with (refine wpList_store_row rfl 56 (.tmp 4) (.tmp 31) rfl w.heap.size #[.int .i64 0,.slice none 0 0,.int .i64 0] rfl rfl 56 _ g dN rfl (by simp[Value.oneCell']) ?_)
    refine bodyPost_ret (bK rfl _ _ w.heap.size 56 #[.int .i64 0,.slice none 0 0,.int .i64 0] (0,0) _ (.int .i64 7) rfl rfl (setRow_heap _ _ _ _ _ _ g) Tryz.underlying56 dN) rfl ?_;rw[d.out];exact⟨⟨_,rfl,IsData.nil _ _⟩,jv M.out g rfl⟩
   | true =>
    have d:Hid (aE m path=(m1,c,0)):=n.out;clear n P
    go_wp2_with (first
     | (refine wpList_load_row rfl 56 (.tmp 8) rfl J.heap.size rfl 56 _ (0,0) _ a1 Tryz.underlying56 rfl dN ?_)
     | (refine wpList_store_row rfl 56 (.tmp 4) (.tmp 32) rfl w.heap.size #[.int .i64 c.mode,.slice K c.data.length L,.int .i64 c.time] rfl rfl 56 _ g dN rfl (by simp[Value.oneCell']) ?_))
    refine bodyPost_ret (bK rfl _ _ w.heap.size 56 #[.int .i64 c.mode,.slice K c.data.length L,.int .i64 c.time] (0,0) _ (.int .i64 0) rfl rfl (setRow_heap _ _ _ _ _ _ g) Tryz.underlying56 dN) rfl ?_;rw[d.out];have N:KeepB J _:=(KeepB.BO a2.out).trans (KeepB.BR (ae _ w.heap.size #[.int .i64 c.mode,.slice K c.data.length L,.int .i64 c.time]) g (by kernel_rfl));exact⟨⟨_,rfl,(HV.out.keep N).mono (fun k hk=>Nu.mono (by omega) N.1 hk)⟩,jv M.out g rfl⟩
 .have hb:(o==0)=false:=by simpa using l
  have bb:(o != 0)=true:=by simpa using l
  have d:Hid (aE m path=(m1,cz,o)):=by unfold Hid;rw[a.out];simp[l]
  clear l a
  go_wp2_with (refine wpList_store_row rfl 56 (.tmp 4) (.tmp 17) rfl w.heap.size #[.int .i64 0,.slice none 0 0,.int .i64 0] rfl rfl 56 _ r dN rfl (by simp[Value.oneCell']) ?_)
  refine bodyPost_ret (bK rfl _ _ w.heap.size 56 #[.int .i64 0,.slice none 0 0,.int .i64 0] (0,0) _ (.int .i64 o) rfl rfl (setRow_heap _ _ _ _ _ _ r) Tryz.underlying56 dN) rfl ?_;rw[d.out];exact⟨⟨_,rfl,IsData.nil _ _⟩,jv H0.out r rfl⟩
end
section
open Go Go.RowKit
variable {w:World}
theorem tX {e:TypeId} {a:Nat}:(w.alloc (.cells #[] e)).ownsRow w.heap.size e a (.slice (some ⟨w.heap.size,0,none⟩) 0 0) 0 [] :=
 ⟨by simp,.inr ⟨w.heap.size,0,#[],rfl,Nat.le_refl _,ab _ _,Nat.le_refl _,Nat.zero_le _,by simp,by simp⟩⟩
theorem AK (b o i:Nat):(⟨b,o,none⟩:Addr).add i=⟨b,o+i,none⟩:=by unfold Addr.add;split <;> simp_all
theorem vA {v:Value} {n:Nat} {xs:List Value} (E:Row w v n xs) (i:xs.length=n*7) (A:∀u∈xs,u.oneCell'=true) (M:n<=10000000) :
  Calls Tryz.prog 112 #[v] w fun e B=>(∃p,e=.returned p/\B.ownsRow w.heap.size 121 7 p n xs)/\Ext w B:=by
 obtain⟨a,g,rfl,N,O,P,q⟩:=E;have Q:∀W:World,(binOp .eql 42 (.slice a n g) (.slice none 0 0)).run Tryz.prog W=.ok (.bool a.isNone) W:=fun W=>Go.Lib.run_eql_slice_nil W _ _ a n g 0 0 Tryz.underlying42
 cases a with
 | none =>
  have F:xs=[]:=by
   cases xs with
   | nil=>rfl
   | cons x l=>obtain⟨b,o,r,_⟩:=q (by simp);cases r
  subst F;have t:n=0:=by simp at i;omega
  subst t;go_enter Tryz.func112,Tryz.ntmps112;go_wp2;go_ret;exact⟨⟨_,rfl,World.ownsRow_nil _ _ _ _⟩,Ext.refl _⟩
 | some C =>
  have h:Ext w (w.alloc (.cells #[] 121)):=(Ext.refl _).alloc _;have c:∀j u,xs[j]? = some u->(w.alloc (.cells #[] 121)).cell? (C.add j)=some u:=fun j u D=>by
   obtain⟨b,o,r,G⟩:=q (by rintro rfl;simp at D);cases r;rw[AK];exact h.cell (G j u D)
  have H:Hid _:=c;have I:Hid _:=A;have J:Hid _:=i;clear c q A i;go_enter Tryz.func112,Tryz.ntmps112
  go_wp2_with (at_builtin;go_must (refine gB _ _ _ 7 80 Tryz.underlying42 sY rfl (by omega) rfl _ _ rfl w.heap.size _ 0 [] rfl tX C n g xs rfl J.out H.out I.out (by omega) (by omega) (by simp) ?_);intro p K d y _)
  simp only[Nat.zero_add,List.nil_append]at d;have z:Ext w K:=Below.grown h y h.size (fun k L=>by cases L;exact Nat.le_refl _);go_wp2;go_ret;exact⟨⟨_,rfl,d⟩,z⟩
end
section
open Go Go.RowKit
theorem qI (m:Nat):∀(a:List (List Value)) (k j:Nat) (c:List Value) (u:Value),(∀c∈a,c.length=m)->a[k]? = some c->j<m->a.flatten.set (m*k+j) u=(a.set k (c.set j u)).flatten
 | [],k,j,c,u,_,b,_=>by simp at b
 | d::a,0,j,c,u,e,b,i=>by
  have:d=c:=by simpa using b
  subst this;have g:=e d (by simp);simp only[List.flatten_cons,Nat.mul_zero,Nat.zero_add,List.set_cons_zero];rw[List.set_append_left _ _ (by omega)]
 | d::a,k+1,j,c,u,e,b,i=>by
  have g:=e d (by simp);have l:=qI m a k j c u (fun c h=>e c (by simp[h])) (by simpa using b) i;simp only[List.flatten_cons,List.set_cons_succ];rw[List.set_append_right _ _ (by rw[g,Nat.mul_add];omega),g,show m*(k+1)+j - m=m*k+j by rw[Nat.mul_add];omega,l]
def OwnE (a:Nat) (w:World) (v:Value) (L:List Ev):Prop:=∃b:List (List Value),w.ownsRow a 121 7 v L.length b.flatten/\Each (IsEvR (fun k=>a<=k/\k<w.heap.size) w) b L
def IsEvB (w:World) (cs:List Value) (e:Ev):Prop:=∃a,cs=[.int .i64 e.t,.int .i64 e.kind,.int .i64 e.mode,.int .i64 e.keep,.int .i64 e.BN,S8 e.path,a]/\IsBytes w a e.data/\e.path.length<=10000000
variable {w:World} {cs:List Value} {e:Ev}
theorem IsEvR.read {R:Nat->Prop} (h:IsEvR R w cs e):IsEvB w cs e:=by
 obtain⟨v,a,b,c⟩:=h;exact⟨v,a,b.bytes,c⟩
theorem IsEvB.length (h:IsEvB w cs e):cs.length=7/\cs.all (·.oneCell')=true:=by
 obtain⟨v,rfl,a,_⟩:=h;obtain⟨_,_,rfl,_⟩:=a;exact⟨rfl,by simp[Value.oneCell']⟩
variable {w':World}
theorem IsEvB.ext (h:IsEvB w cs e) (a:Ext w w'):IsEvB w' cs e:=by
 obtain⟨v,b,c,d⟩:=h;exact⟨v,b,c.ext a,d⟩
def ReadB (w:World) (v:Value) (L:List Ev):Prop:=∃a:List (List Value),Row w v L.length a.flatten/\Each (IsEvB w) a L
variable {v:Value} {L:List Ev}
theorem ReadB.ext (h:ReadB w v L) (b:Ext w w'):ReadB w' v L:=by
 obtain⟨a,d,g⟩:=h;exact⟨a,d.ext b,g.imp (fun c x i=>i.ext b)⟩
theorem OwnL.read {R:Nat->Prop} (h:OwnL w 121 7 (IsEvR R w) v L) (i:L.length<=10000000):ReadB w v L:=by
 obtain⟨a,b,d⟩:=h;exact⟨a,Row.BM b (by omega),d.imp (fun c x g=>g.read)⟩
theorem ReadL.read {R:Nat->Prop} (h:ReadL w 121 (IsEvR R w) v L):ReadB w v L:=by
 obtain⟨a,b,_,d⟩:=h;exact⟨a,b,d.imp (fun c x g=>g.read)⟩
theorem tY (h:ReadB w v L):∃a:List (List Value),Row w v L.length a.flatten/\Each (IsEvB w) a L/\a.flatten.length=L.length*7/\(∀u∈a.flatten,u.oneCell'=true)/\(∀c∈a,c.length=7):=by
 obtain⟨a,o,g⟩:=h;have j:∀c∈a,c.length=7/\c.all (·.oneCell')=true:=fun c b=>by
  obtain⟨i,p,rfl⟩:=List.mem_iff_getElem.1 b;have k:i<L.length:=by rw[<-g.1];exact p
  exact(g.2 i a[i] L[i] (List.getElem?_eq_getElem p) (List.getElem?_eq_getElem k)).length
 refine⟨a,o,g,?_,fun u n=>?_,fun c b=>(j c b).1⟩
 .rw [List.length_flatten,<-g.1];have:∀l:List (List Value),(∀c∈l,c.length=7)->(l.map List.length).sum=l.length*7:=fun l=>by
   induction l with
   | nil=>intro _;rfl
   | cons c l q =>
    intro h;have o:=h c (by simp);have t:=q (fun d r=>h d (by simp[r]));simp only[List.map_cons,List.sum_cons,List.length_cons];omega
  exact this a (fun c b=>(j c b).1)
 .obtain ⟨c,b,n⟩:=List.mem_flatten.1 n;exact List.all_eq_true.1 (j c b).2 u n
theorem jb (h:ReadB w v L) (hl:L.length<=100000) :
  Calls Tryz.prog 47 #[v] w fun e w'=>(∃v',e=.returned v'/\OwnE w.heap.size w' v' L)/\Ext w w':=by
 obtain⟨P,o,d,Q,C,R⟩:=tY h;obtain⟨a,bh,rfl,-⟩:=id o;have HC:Hid _:=vA o Q C (by omega);have au:Hid _:=d;have H7:Hid _:=R;have u:=d.1;clear h o d Q C R;go_enter Tryz.func47,Tryz.ntmps47
 go_wp2_with (go_at_call 112;go_must (refine Calls.mono HC.out ?_;rintro e w1 ⟨⟨v1,rfl,p⟩,a0⟩;obtain⟨a1,D,rfl,-⟩:=Row.BM p (by omega)))
 go_loopw [8] (fun i wr=>∃(k:Nat) (b:List (List Value)),k<=L.length/\i=.int .i64 k/\b.length=L.length/\(∀c∈b,c.length=7)/\wr.ownsRow w.heap.size 121 7 (.slice a1 L.length D) L.length b.flatten /\
   (∀(j:Nat) c e,b[j]? = some c->L[j]? = some e->(j<k->IsEvR (fun k=>w.heap.size<=k/\k<wr.heap.size) wr c e)/\(k<=j->IsEvB w c e))/\Ext w wr) (fun i _=>L.length - (intOf i).toNat)
 case atStart=>exact⟨0,P,Nat.zero_le _,rfl,u,H7.out,p,fun j c e t he=>⟨fun h=>absurd h (Nat.not_lt_zero _),fun _=>au.out.2 j c e t he⟩,a0⟩
 case round =>
  obtain⟨k,b,N,rfl,u,R,E,F,Z⟩:=hrel;have q:Hid _:=F;have H:Hid _:=R;have y:Hid _:=E;clear F R E
  by_cases a2:k<L.length
  .obtain ⟨e,I⟩:∃e,L[k]? = some e:=⟨_,List.getElem?_eq_getElem a2⟩;obtain⟨c,z⟩:∃c,b[k]? = some c:=⟨_,List.getElem?_eq_getElem (by omega)⟩;have a3:=(q.out k c e z I).2 (Nat.le_refl _);obtain⟨vd,rfl,hd,S⟩:=a3;obtain⟨d1,d2,rfl,-⟩:=id hd;obtain⟨g,bb,T⟩:=dw y.out (by omega);simp only[Value.slice.injEq,true_and]at T;obtain⟨rfl,rfl⟩:=T;have r:wr.cell? ⟨g,k*7+6,none⟩=some (.slice d1 e.data.length d2):=by
    rw[World.ownsRow.cellAt y.out (k*7+6) (by omega),Nat.mul_comm k 7];exact eU 7 b k 6 _ _ H.out z rfl
   have HD:Hid _:=hd;have a4:Hid _:=I;have a5:Hid _:=z;have a6:Hid _:=S;have bk:=hd.len;clear hd I z S;go_wp2_with fail;go_at_call 54;refine(eB _ e.data _ (IsBytes.ext HD.out Z) (by omega)).mono ?_;rintro x w2 ⟨⟨v2,rfl,J⟩,A⟩;obtain⟨c1,c2,rfl,-⟩:=id J.bytes;have a7:Hid _:=J;have l:=al y.out A;have bl:=World.ownsRow.frozenAt l (k*7+6);have ad:=A.cell r;have G:Hid _:=l;clear J l r;go_wp2;go_roundw
   case rel =>
    obtain⟨U,V⟩:=World.ownsRow.stored G.out (k*7+6) (.slice c1 e.data.length c2);rw[show k*7+6=7*k+6 by omega,qI 7 b k 6 _ _ H.out a5.out (by omega)]at U;obtain⟨O,n,bd,W,a8,a9,-⟩:∃(O:Nat) (n:Nat) (K:Array Value),(Value.slice (some ⟨g,0,none⟩) L.length D)=.slice (some ⟨O,0,none⟩) L.length n/\w.heap.size<=O/\w2.heap[O]? = some (.cells K 121 (0,0))/\True:=by
     rcases G.out.2 with⟨h9,_⟩ | ⟨O,n,K,h9,hb,hg,_⟩
     .cases h9
     .exact ⟨O,n,K,h9,hb,hg,trivial⟩
    simp only[Value.slice.injEq,Option.some.injEq,Addr.mk.injEq,and_true,true_and]at W;obtain⟨rfl,rfl⟩:=W;have B:=KeepB.BR V a9 (by kernel_rfl);have M:=(KeepB.BO A).trans B;have X:Ext w _:=Ext.but (Z.trans A) V a8;rw[show k*7+6=7*k+6 by omega]at B M X;refine⟨k+1,b.set k [.int .i64 e.t,.int .i64 e.kind,.int .i64 e.mode,.int .i64 e.keep,.int .i64 e.BN,S8 e.path,.slice c1 e.data.length c2],by omega,by go_num,by rw[List.length_set];exact u,fun c t=>?_,?_,?_,?_⟩
    .rcases List.mem_or_eq_of_mem_set t with h | h
     .exact H.out c h
     .rw [h];rfl
    .rw [show k*7+6=7*k+6 by omega];exact U
    .rw [show k*7+6=7*k+6 by omega];intro j c f t hf
     by_cases hj:j=k
     .subst hj;rw[List.getElem?_set_self (by omega)]at t;cases t;rw[a4.out]at hf;cases hf;refine⟨fun _=>⟨_,rfl,?_,a6.out⟩,fun h=>by omega⟩;exact(a7.out.keep B).mono (fun k N=>⟨Nat.le_trans Z.size N.1,Nat.lt_of_lt_of_le N.2 B.1⟩)
     .rw [List.getElem?_set_ne (fun h=>hj h.symm)]at t;have:=q.out j c f t hf;exact⟨fun h=>((this.1 (by omega)).BQ (KeepR.BS M)).mono (fun k N=>⟨N.1,Nat.lt_of_lt_of_le N.2 M.1⟩),fun h=>this.2 (by omega)⟩
    .rw [show k*7+6=7*k+6 by omega];exact X
   case measure=>simp[intOf];omega
  .have a':k=L.length:=by omega
   subst a';go_wp2;go_ret;exact⟨⟨_,rfl,b,y.out,u,fun i c x t Y=>(q.out i c x t Y).1 (List.getElem?_eq_some_iff.1 Y).1⟩,Z⟩
theorem OwnE.Cv {a:Nat} (h:OwnE a w v L) (g:L.length<=10000000):ReadL w 121 (IsEvR (fun k=>a<=k/\k<w.heap.size) w) v L:=by
 obtain⟨b,c,d⟩:=h;exact⟨b,Row.BM c (by omega),Typed.BM c,d⟩
variable {p:Value} {m:Fs}
theorem xS {S O R:Nat->Prop} (h:IsFs S O R w p m) (o:∀k,O k->k<w.heap.size) (K:ReadB w v L) (T:L.length<=1000) :
  Calls Tryz.prog 11 #[p,v] w fun e w'=>e=.returned (.tuple #[])/\IsFs (Nu w w') O (Nw R w w') w' p (gP m L)/\Fr O w w':=by
 have U:Hid _:=jb K (by omega);obtain⟨g,t,u,y,vl,z,L0,c0,rfl,M,N,P,A,V⟩:=h;have Q:Hid _:=P;have W:Hid _:=M;clear K P M A;go_enter Tryz.func11,Tryz.ntmps11
 go_wp2_with (first
  | (go_at_call 47;go_must (refine Calls.mono U.out ?_;rintro e B ⟨⟨v2,rfl,j⟩,d⟩;obtain⟨C,D,rfl,-⟩:=Row.BM j.choose_spec.1 (by omega);have l:=Ext.row d W.out;have n:Hid _:=j;clear j))
  | (refine af rfl 42 (.tmp 8) (.tmp 6) rfl g 4 rfl (.slice C L.length D) rfl rfl _ _ l (Nat.le_of_ble_eq_true rfl) mG (aZ m.room t u y (.slice C L.length D) m.calls z m.time m.down) (by simp) ?_;intro r E b))
 go_end0
 have F:=Q.out.ext d;have X:=d.size;have G:=OwnE.Cv n.out (by omega);have Y:¬IsU8 B g:=ao l (by kernel_rfl);have q:Parts (Nu w r) O (Nw R w r) B t u y (.slice C L.length D) z m.now m.sure m.pend L m.users:=by
  have h9:B.heap.size<=r.heap.size:=b.size;have i:=F.mono (O':=O) (R':=Nw R w r) (fun k a=>a) (fun k a=>.inl a);refine⟨i.ne,i.om,i.od,i.now,i.sure,i.pend,i.op,G.mono (fun c x Z=>IsEvR.mono Z (fun k a=>.inr ⟨a.1,by omega⟩)),fun k a=>?_,i.users,i.ou,fun k a H=>?_⟩
  .obtain ⟨I,J,_⟩:=n.out;have:=J.lt k a;exact⟨this.1,by omega⟩
  .obtain ⟨I,J,_⟩:=n.out;have h2:=J.lt k H;have h3:=o k (Q.out.ou k a);omega
 refine⟨rfl,⟨g,t,u,y,_,z,L,m.calls,rfl,E,N,q.own l b,rfl,Nat.le_refl _,T⟩,?_⟩;exact((Fr.refl O w).ext d).step b (fun k a=>by cases a;exact .inl N) (by rintro k a;cases a;exact Y)
theorem xT {S O R:Nat->Prop} (h:IsFs S O R w p m) (j:m.users.length<=100000) :
  Calls Tryz.prog 71 #[p] w fun e w'=>(∃c,e=.returned c/\OwnE w.heap.size w' c m.users)/\Ext w w':=by
 obtain⟨g,l,n,o,q,r,L,t,rfl,d,u,i,-,-⟩:=h;obtain⟨x,y,z,A,B,C,D,E,F⟩:=ah d;have k:Hid _:=jb (i.users.read (by omega)) j;clear i d;go_enter Tryz.func71,Tryz.ntmps71
 go_wp2_with (go_at_call 47;go_must (refine Calls.mono k.out ?_;rintro e G ⟨⟨H,rfl,a⟩,b⟩))
 go_ret;exact⟨⟨_,rfl,a⟩,b⟩
end
end Go.Proofs.YtfabjgfmiaammaaGreatDoor
