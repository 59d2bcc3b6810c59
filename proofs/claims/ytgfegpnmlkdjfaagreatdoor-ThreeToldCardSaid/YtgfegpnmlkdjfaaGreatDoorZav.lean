/- Contracts of the program's functions and plain laws behind the card. Conditions: as each theorem states. -/
import Derived.Test.YtgfegpnmlkdjfaaGreatDoorZas
import Derived.Test.YtgfegpnmlkdjfaaGreatDoorZae
import Derived.Test.YtgfegpnmlkdjfaaGreatDoorZau
import Derived.Test.YtgfegpnmlkdjfaaGreatDoorZam
import Derived.Test.YtgfegpnmlkdjfaaGreatDoorZaf
import Derived.Test.YtgfegpnmlkdjfaaGreatDoorZai
import Derived.Test.YtgfegpnmlkdjfaaGreatDoorZak
import Derived.Test.YtgfegpnmlkdjfaaGreatDoorZaj
import Derived.Test.YtgfegpnmlkdjfaaGreatDoorZaq
import Derived.Test.YtgfegpnmlkdjfaaGreatDoorZag
import Derived.Laws.StructEq
set_option linter.unusedVariables false
set_option linter.unusedSimpArgs false
set_option linter.unusedSectionVars false
set_option maxRecDepth 100000
set_option maxHeartbeats 64000000
namespace Go.Proofs.YtgfegpnmlkdjfaaGreatDoor
section
open Go Go.RowKit
def F2 (d m s:Int) (a:Value) (id:B8) (n:Int):Array Value:=#[.int .u32 d,.int .i32 m,.int .u32 s,a,S8 id,.int .i64 n]
end
section
open Go Go.RowKit
structure fF where
 H':Nat->Option Obj
 low:Nat
def EL [a:Inhabited fF]:Nat->Option Obj:=(default:fF).H'
open Classical in
noncomputable def GL [a:Inhabited fF]:Nat:=if ∀k,EL k=none then 0 else(default:fF).low
variable [KW:Inhabited fF]
section
variable {w0 w w':World} {S O:Nat->Prop} {f:Value} {gs gc:Nat} {m m':Fs} {n:Int}
end
variable [Inhabited br]
section
variable {w0 w1 w w':World} {S O:Nat->Prop} {f:Value} {gs gc:Nat} {m m1:Fs} {n er:Int} {fx:Fi} {z6 z7 z8 z10 z11:Option Value}
end
end
section
open Go Go.RowKit
def NewOr (w:World) (v v':Value):Prop:=∀k,v'.ownBlock=some k->v.ownBlock=some k\/w.heap.size<=k
end
section
open Go Go.RowKit
variable [Inhabited br]
section
variable {ops:Array Oper} {rest:List Oper} {o:Oper} {a:Act} {Q:Exit->Act->World->Prop} {w:World}
end
variable {w:World} {c:Ch}
theorem IsOp.ext {R:Nat->Prop} {w':World} {cs:List Value} (h:IsOp R w cs c) (a:Ext w w'):IsOp R w' cs c:=h.Hb (KeepR.Hq (KeepB.GX a))
theorem IsOp.GZ {R:Nat->Prop} {b:Int} {p q:B8} {mode time t2:Int} {a:Option Addr} {n d:Nat} {t:Nat} (h:IsOp R w [.int .i64 b,S8 p,S8 q,.int .i64 mode,.slice a n d,.int .i64 time] c)
  (i:(b=1/\∃f,c=.put q f/\p=[]/\f.mode=mode/\f.data.length=n/\f.time=time)\/(b≠1/\∀t,c.at t=c)) (e:t2=if b=1 then(t:Int)else time) :
  IsOp R w [.int .i64 b,S8 p,S8 q,.int .i64 mode,.slice a n d,.int .i64 t2] (c.at t):=by
 rcases i with⟨rfl,f,rfl,rfl,rfl,rfl,rfl⟩ | ⟨i,g⟩
 .obtain ⟨k,v,j,l⟩:=h;rw[if_pos rfl]at e;subst e;simp only[List.cons.injEq,true_and,and_true]at j;exact⟨k,_,rfl,j▸l⟩
 .rw [if_neg i]at e;rw[g,e];exact h
end
section
open Go Go.RowKit
end
section
open Go Go.RowKit
variable [Inhabited br]
section
variable {ops:Array Oper} {rest:List Oper} {o:Oper} {a:Act} {Q:Exit->Act->World->Prop} {w:World}
end
end
section
open Go Go.RowKit
variable [Inhabited br]
theorem yr (v:Value) (l:B8) (w:World) (q:IsBytes w v l) :
  Calls Tryz.prog 25 #[v] w fun e F=>(∃r,e=.returned r/\IsData (Nu w F) F r l)/\Ext w F:=by
 have T:=q.len;obtain⟨a,y,rfl,Q,R,S,z⟩:=id q;have I:Ext w (w.alloc (.cells #[] 5)):=(Ext.refl w).alloc _
 cases l with
 | nil =>
  have n:IsData (Nu w (w.alloc (.cells #[] 5))) (w.alloc (.cells #[] 5)) (.slice (some ⟨w.heap.size,0,none⟩) 0 0) [] :=
   ⟨⟨_,0,rfl,Nat.le_refl _,by omega,by simp,fun h=>absurd rfl h⟩,TypB.at (ah _ _),fun k C=>by
    have:w.heap.size=k:=by simpa [Value.ownBlock]using C
    subst this;exact⟨Nat.le_refl _,by simp⟩⟩
  have g:Hid _:=n;clear q z n;go_enter Tryz.func25,Tryz.ntmps25
  cases a with
  | none =>
   go_wp2;go_ret;exact⟨⟨_,rfl,g.out⟩,(Ext.refl _).alloc _⟩
  | some O =>
   go_wp2;go_ret;exact⟨⟨_,rfl,g.out⟩,(Ext.refl _).alloc _⟩
 | cons x t =>
  obtain⟨b,o,rfl,H⟩:=z (by simp);generalize M:x::t=L at *;have i:(w.alloc (.cells #[] 5)).ownsRow w.heap.size 5 1 (.slice (some ⟨w.heap.size,0,none⟩) 0 0) 0 []:=⟨rfl,.inr ⟨w.heap.size,0,#[],rfl,Nat.le_refl _,ah _ _,Nat.le_refl _,by unfold maxLen;omega,rfl,rfl⟩⟩;have d:∀(j:Nat) u,(L.map fun x=>Value.int .u8 x.toNat)[j]? = some u->(w.alloc (.cells #[] 5)).cell? ((⟨b,o,none⟩:Addr).add j)=some u:=by
   intro j u D;have p:(⟨b,o,none⟩:Addr).add j=⟨b,o+j,none⟩:=by unfold Addr.add;split <;> simp_all
   rw[p];exact I.cell (H j u D)
  have K:Hid _:=d;clear H d z q M;go_enter Tryz.func25,Tryz.ntmps25
  go_wp2_with (at_builtin;(refine eY _ _ _ 1 1 Tryz.underlying52 jl rfl (by omega) rfl _ _ rfl w.heap.size _ 0 _ rfl i ⟨b,o,none⟩ L.length y (L.map fun x=>Value.int .u8 x.toNat) rfl (by simp) K.out (by intro u D;obtain⟨_,_,rfl⟩:=List.mem_map.1 D;rfl) (by omega) (by omega) (by simp) ?_);intro r G c B _;have A:IsData (Nu w G) G r L:=⟨Row.GW (by simpa using c) (by omega),TypB.GW c,fun k C=>c.lt k C⟩;obtain⟨N,P,rfl,-⟩:=id A.bytes;have J:Hid _:=A;have E:Ext w G:=aA I i B;clear A c)
  go_ret;exact⟨⟨_,rfl,J.out⟩,E⟩
def Gn (m:Fs) (path:B8) (mode:Int) (data:B8) (only a:Bool) (b:Int):Fs×Int :=
 if iO path mode data≠0 then(m,iO path mode data)else if only=true/\(ax m.now path).isSome then(m,8)
 else eO m path mode data (!a && decide ((data.length:Int)<=b - ej m.now+eW m.now path))
end
section
open Go Go.RowKit
variable [Inhabited br]
theorem NewOr.Ia {O:Nat->Prop} {w w':World} {v v':Value} (h:NewOr w v v') (c:Inn O v) (d:∀k,v'.ownBlock=some k->k<w'.heap.size):Inn (Nw O w w') v':=fun k a=>(h k a).imp (c k) (fun b=>⟨b,d k a⟩)
end
section
open Go Go.RowKit
variable [Inhabited br]
section
variable {ops:Array Oper} {rest:List Oper} {o:Oper} {a:Act} {Q:Exit->Act->World->Prop} {w:World}
end
end
section
open Go Go.RowKit
variable [Inhabited br]
end
section
open Go Go.RowKit
variable [Inhabited br]
end
section
open Go Go.RowKit
variable [Inhabited br]
end
section
open Go Go.RowKit
variable [Inhabited br]
end
section
open Go Go.RowKit
variable [Inhabited br]
def Gi (a q:B8):Bool:=a==[] || aD a q
end
section
open Go Go.RowKit
variable [Inhabited br]
section
variable {O R:Nat->Prop} {w:World} {p:Value} {m:Fs}
end
end
section
open Go Go.RowKit
variable [Inhabited br]
section
variable {ops:Array Oper} {rest:List Oper} {o:Oper} {a:Act} {Q:Exit->Act->World->Prop} {w:World}
end
end
section
open Go Go.RowKit
theorem uB (a b:Value) (c d:B8) (w:World) (i:IsBytes w a c) (j:IsBytes w b d) :
  Calls Tryz.prog 33 #[a,b] w fun e k=>e=.returned (.bool (c==d))/\k=w:=by
 have q:=dK i;have r:=dK j;have t:=tl c;have u:=tl d;obtain⟨l,o,rfl,-⟩:=i;obtain⟨n,p,rfl,-⟩:=j;obtain⟨h,g⟩:∃h,(c==d)=h:=⟨_,rfl⟩;rw[g];go_enter Tryz.func33,Tryz.ntmps33;go_wp2;go_ret;exact⟨by first | rfl | exact aM (by assumption),rfl⟩
theorem Cr (a:Value) (b:List B8) (s:B8) (w:World) (A:IsStrs w a b) :
  Calls Tryz.prog 18 #[a,S8 s] w fun e D=>e=.returned (.bool (b.contains s))/\Ext w D:=by
 obtain⟨F,H,rfl,J,K,L,j⟩:=A.get;have B:Hid _:=j;have O:=tl s;clear A j;go_enter Tryz.func18,Tryz.ntmps18;go_wp2;go_loopw [5] (fun i wr=>∃k:Nat,k<=b.length/\i=.int .i64 k/\s∉b.take k/\Ext w wr) (fun i _=>b.length - (intOf i).toNat)
 case atStart=>exact⟨0,Nat.zero_le _,rfl,by simp,Ext.refl _⟩
 case round =>
  obtain⟨k,I,rfl,l,n⟩:=hrel;have y:Hid _:=l;clear l
  by_cases c:k<b.length
  .obtain ⟨G,M,rfl,h⟩:=B.out k c;have E:=n.cell (h k c);obtain⟨p,u⟩:∃p,b.getD k []=p:=⟨_,rfl⟩;rw[u]at E;have x:Hid (b[k]? = some p):=by
    unfold Hid;rw[List.getElem?_eq_getElem c,<-u];simp[c]
   have N:=tl p;obtain⟨q,r⟩:∃q,(p==s)=q:=⟨_,rfl⟩;have g:Hid _:=r;clear h u
   cases q with
   | true =>
    have o:Hid (b.contains s=true):=by
     have:p=s:=by simpa using g.out
     unfold Hid;rw[List.contains_iff_mem,<-this];exact List.mem_of_getElem? x.out
    go_wp2;go_ret;exact⟨aM o.out.symm,n⟩
   | false =>
    go_wp2;go_roundw
    case rel =>
     refine⟨k+1,by omega,by go_num,fun d=>?_,n⟩;rw[List.take_add_one,x.out,Option.toList_some]at d;rcases List.mem_append.1 d with d | d
     .exact y.out d
     .have:s=p:=by simpa using d
      have z:=g.out;rw[this]at z;simp at z
    case measure=>simp[intOf];omega
  .have t:b.length<=k:=by omega
   have o:Hid (b.contains s=false):=by
    have:=y.out;rw[List.take_of_length_le t]at this;unfold Hid
    cases C:b.contains s with
    | false=>rfl
    | true=>exact absurd (List.contains_iff_mem.1 C) this
   go_wp2;go_ret;exact⟨aM o.out.symm,n⟩
def Fg (f g:Fi) (w:World) (e:Ending) (w':World):Prop:=(∃r:Bool,e=.returned (.bool r)/\(f=g->r=true))/\Ext w w'
end
section
open Go Go.RowKit
def Fo (n:Int) (b:B8):Int:=if 20000<b.length then n else n+1
theorem kE (a b:Value) (c d:B8) (w:World) (i:IsBytes w a c) (j:IsBytes w b d) :
  Calls Tryz.prog 139 #[a,b] w fun e k=>e=.returned (.bool (c==d))/\k=w:=by
 have q:=dK i;have r:=dK j;have t:=tl c;have u:=tl d;obtain⟨l,o,rfl,-⟩:=i;obtain⟨n,p,rfl,-⟩:=j;obtain⟨h,g⟩:∃h,(c==d)=h:=⟨_,rfl⟩;rw[g];go_enter Tryz.func139,Tryz.ntmps139;go_wp2;go_ret;exact⟨by first | rfl | exact aM (by assumption),rfl⟩
variable {w0 w:World} {v:Value}
theorem CN {O:Nat->Prop} {l:B8} (h:IsBytes w0 v l) (q:∀k,O k->w0.heap.size<=k):Out O w v:=by
 obtain⟨a,i,rfl,A,B,C,j⟩:=h;intro z n c u g;cases u;refine .inl fun y=>?_
 cases d:l with
 | nil=>rw[d]at g;exact g rfl
 | cons x r =>
  obtain⟨b,o,e,t⟩:=j (by rw[d];simp);cases e;have:=World.block_lt_of_cell? _ _ (t 0 (.int .u8 x.toNat) (by rw[d];rfl));have p:=q _ y;simp only at this p;omega
def Arg (w0 w:World) (v:Value) (b:B8):Prop:=IsBytes w0 v b\/IsBytes w v b/\TypB w v
variable {b:B8}
theorem Arg.keep {w':World} (h:Arg w0 w v b) (c:KeepB w w'):Arg w0 w' v b:=by
 rcases h with h | ⟨d,a⟩
 .exact .inl h
 .exact .inr ⟨Row.G' d a c,a.keep c⟩
theorem Arg.bytes (h:Arg w0 w v b) (a:Ext w0 w):IsBytes w v b:=by
 rcases h with h | h
 .exact IsBytes.ext h a
 .exact h.1
theorem Arg.out {O:Nat->Prop} (h:Arg w0 w v b) (d:∀k,O k->w0.heap.size<=k):Out O w v:=by
 rcases h with h | h
 .exact CN h d
 .exact fun a n c e _=>.inr (h.2 a n c e)
variable [Inhabited br] [KW:Inhabited fF]
end
section
open Go Go.RowKit
def tf:B8:=[115,47,111]
def Ft:B8:=[115,47,111,47]
def Fy (l:List B8):List B8:=(l.map fun p=>Lib.trimPrefix p Ft).filter aO
def E5 (m:Fs):Fs×List B8×Int:=if(cL m tf).2.2≠0 then((cL m tf).1,[],(cL m tf).2.2)else((cL m tf).1,Fy (cL m tf).2.1,0)
variable [Inhabited br] [KW:Inhabited fF]
end
section
open Go Go.RowKit
def xB:B8:=aC [120]
def sm0:Fs:=A4 1000
def sm1:Fs:=(Bk sm0 [120]).1
def sm2:Fs:=(Bk sm1 [120]).1
section
variable [Inhabited br] [KW:Inhabited fF]
end
end
section
open Go Go.RowKit
structure ScN (N:Nat) (x:Sc):Prop where
 rows:x.rows.length<=N
 I5:x.rows.length<=256
 ix:x.ix.length<=N
 n:x.n<=N
def qs0:Fs:=A4 10000
def qs1:Fs:=(nk qs0 (sr [113])).1
def qs2:Fs:=(dA qs1 [119,47,97] 1 [113]).1
def qa:Sc×Int:=pL qs2 [] 0 []
def qb:Sc×Int:=pL qa.1.m qa.1.ix qa.1.m.time []
def qs5:Fs:=(dA qb.1.m [118] 1 []).1
def qc:Sc×Int:=pL qs5 qb.1.ix qb.1.m.time []
def qd:Sc×Int:=pL qc.1.m qc.1.ix qc.1.m.time []
def WN (k:Nat) (m:Fs):Prop:=((aX m.now).filter (aD wP)).length<=k
variable {k:Nat} {m:Fs}
theorem WN.goes {a:Fs} (h:WN k m) (b:Goes m a):WN k a:=by
 unfold WN at h ⊢;rw[b.same.2];exact h
theorem WN.mono {n:Nat} (h:WN k m) (a:k<=n):WN n m:=Nat.le_trans h a
end
section
open Go Go.RowKit Go.Sort
structure IsTbs (w:World) (v:Value) (us:List Value) (ls:List (List Rw)):Prop where
 row:Row w v us.length us
 len:us.length=ls.length
 each:∀(k:Nat) (u:Value) (l:List Rw),us[k]? = some u->ls[k]? = some l->IsRws w u l
theorem IsTbs.ext {w w':World} {v:Value} {us:List Value} {b:List (List Rw)} (h:IsTbs w v us b) (a:Ext w w'):IsTbs w' v us b :=
 ⟨h.row.ext a,h.len,fun k u l c d=>(h.each k u l c d).ext a⟩
theorem mq (a:List (List Rw)) (k:Nat):(ar (a.take k)).length<=(ar a).length:=by
 unfold ar;have h:a.flatMap (fun l=>l.map (·.path))=(a.take k).flatMap (fun l=>l.map (·.path))++(a.drop k).flatMap (fun l=>l.map (·.path)):=by
  rw[<-List.flatMap_append,List.take_append_drop]
 rw[h,List.length_append];omega
theorem rZ {l:List Rw} {j:Nat} {x:Rw} (h:l[j]? = some x):(l.take (j+1)).map (·.path)=(l.take j).map (·.path)++[x.path]:=by rw[cC h,List.map_append];rfl
end
section
open Go Go.RowKit Go.Sort
def bn (f:Fi):Value:=.agg #[.int .i64 f.mode,S8 f.data]
theorem oN (w:World):(zeroValue 41).run Tryz.prog w=.ok (.agg #[.int .i64 0,S8 []]) w:=by kernel_rfl
end
section
open Go Go.RowKit Go.Sort
def chC (c:Chg):List Value:=[S8 c.path,.int .i64 c.old.1,S8 c.old.2,.int .i64 c.new.1,S8 c.new.2]
def IsChs (w:World) (v:Value) (l:List Chg):Prop:=Row w v l.length (l.flatMap chC)
variable {w:World} {v:Value} {l:List Chg}
theorem IsChs.ext {w':World} (h:IsChs w v l) (a:Ext w w'):IsChs w' v l:=Row.ext h a
theorem vw:∀(l:List Chg) (k:Nat) (x:Chg),l[k]? = some x->(l.flatMap chC)[k*5]? = some (S8 x.path)/\(l.flatMap chC)[k*5+1]? = some (.int .i64 x.old.1)/\(l.flatMap chC)[k*5+2]? = some (S8 x.old.2)/\(l.flatMap chC)[k*5+3]? = some (.int .i64 x.new.1)/\(l.flatMap chC)[k*5+4]? = some (S8 x.new.2)
 | [],k,x,h=>by simp at h
 | y::l,0,x,h=>by
  simp only[List.getElem?_cons_zero,Option.some.injEq]at h;subst h;exact⟨rfl,rfl,rfl,rfl,rfl⟩
 | y::l,k+1,x,h=>by
  have a:=vw l k x (by simpa using h);have e:(y::l).flatMap chC=S8 y.path::.int .i64 y.old.1::S8 y.old.2::.int .i64 y.new.1::S8 y.new.2::l.flatMap chC:=by rw[List.flatMap_cons];rfl
  rw[e,show(k+1)*5=k*5+1+1+1+1+1 by omega];exact a
theorem IsChs.get (h:IsChs w v l):∃a c,v=.slice a l.length c/\l.length<=c/\l.length<=140737488355328/\c<=9223372036854775807 /\
  ∀(k:Nat) x,l[k]? = some x->∃b o,a=some ⟨b,o,none⟩/\w.cell? ⟨b,o+k*5,none⟩=some (S8 x.path)/\w.cell? ⟨b,o+k*5+1,none⟩=some (.int .i64 x.old.1)/\w.cell? ⟨b,o+k*5+1+1,none⟩=some (S8 x.old.2)/\w.cell? ⟨b,o+k*5+3,none⟩=some (.int .i64 x.new.1)/\w.cell? ⟨b,o+k*5+3+1,none⟩=some (S8 x.new.2):=by
 obtain⟨a,c,rfl,q,r,t,u⟩:=h;refine⟨a,c,rfl,q,t,r,fun k x z=>?_⟩;obtain⟨e,g,i,j,n⟩:=vw l k x z;obtain⟨b,o,y,d⟩:=u (fun p=>by rw[p]at e;simp at e);exact⟨b,o,y,d _ _ e,by have:=d _ _ g;rwa [<-Nat.add_assoc]at this,by have:=d _ _ i;rwa [<-Nat.add_assoc]at this,by have:=d _ _ j;rwa [<-Nat.add_assoc]at this,by have:=d _ _ n;rwa [<-Nat.add_assoc]at this⟩
theorem ng (a b:Int×B8) (w:World):(binOp .neq 41 (.agg #[.int .i64 a.1,S8 a.2]) (.agg #[.int .i64 b.1,S8 b.2])).run Tryz.prog w=.ok (.bool (a != b)) w:=by
 have j:Tryz.prog.underlying 41=some (.struct (Tryz.prog.fieldsOf 41)):=by kernel_rfl
 have o:Tryz.prog.stoodInHeld 41=false:=by kernel_rfl
 rw[run_neq_struct,show(10000:Nat)=9999+1 from rfl,run_equalIn_agg w 9999 41 _ _ j o];simp only[Program.fieldsOf,Tryz.underlying41];go_simp;obtain⟨e,c⟩:=a;obtain⟨g,d⟩:=b;have k:(⟨c.toArray⟩:ByteArray).toList=c:=Lib.toList_data _;have n:(⟨d.toArray⟩:ByteArray).toList=d:=Lib.toList_data _
 by_cases h:e=g <;> by_cases i:c=d <;> simp[h,i,k,n]
theorem gE (a b:Int×B8) (w:World):(binOp .eql 41 (.agg #[.int .i64 a.1,S8 a.2]) (.agg #[.int .i64 b.1,S8 b.2])).run Tryz.prog w=.ok (.bool (a==b)) w:=by
 have j:Tryz.prog.underlying 41=some (.struct (Tryz.prog.fieldsOf 41)):=by kernel_rfl
 have o:Tryz.prog.stoodInHeld 41=false:=by kernel_rfl
 rw[run_eql_struct,show(10000:Nat)=9999+1 from rfl,run_equalIn_agg w 9999 41 _ _ j o];simp only[Program.fieldsOf,Tryz.underlying41];go_simp;obtain⟨e,c⟩:=a;obtain⟨g,d⟩:=b;have k:(⟨c.toArray⟩:ByteArray).toList=c:=Lib.toList_data _;have n:(⟨d.toArray⟩:ByteArray).toList=d:=Lib.toList_data _
 by_cases h:e=g <;> by_cases i:c=d <;> simp[h,i,k,n]
section
variable {ops:Array Oper} {rest:List Oper} {o:Oper} {a:Act} {Q:Exit->Act->World->Prop} {w:World}
end
end
section
open Go Go.RowKit Go.Sort
variable {w:World} {g:Nat} {t:TypeId}
theorem bY {c:Prop} [Decidable c] {b:Operand->Value} {R:Value->World->Prop} {o:Oper} (d:TypeId) (x y:Operand) {cells old:Array Value} (i:c) (l:o.op=.store d x y) (n:b x=.pointer (some ⟨g,0,none⟩)) (p:b y=.agg cells)
  (j:w.heap[g]? = some (.cells old t (0,0))) (k:(Tryz.prog.info? d).map (·.size)=some cells.size) (a:old.size=cells.size) (e:cells.all (·.oneCell')=true) (h:R undef (w.setRow g cells)) :
  if c then dW Tryz.prog R ((execOp b o).run Tryz.prog w)else R undef w:=by
 rw[if_pos i];unfold execOp;simp only[l,n,p,Instr.storeAt,Instr.sureAddr,Sem.run_bind,Sem.run_pure,Result.andThen_ok,run_storeVar_row w g t d old cells j k a e];exact h
theorem cZ {a b:Value} {fr:Nat×Nat} (h:w.heap[g]? = some (.cells #[a,b] t fr)):w.cell? ⟨g,0,none⟩=some a/\w.cell? ⟨g,1,none⟩=some b :=
 ⟨(cell_of_row _ _ 0 _ _ _ h).trans rfl,(cell_of_row _ _ 1 _ _ _ h).trans rfl⟩
structure SJ (w0:World) (e1 e2:Array Value) (z12 z13 z14 z15:Option Value) (w:World):Prop where
 ext:Ext w0 w
 Iw:z14≠none->z12≠none
 Ix:z15≠none->z13≠none
 f12:∀v,z12=some v->∃g,v=.pointer (some ⟨g,0,none⟩)/\w0.heap.size<=g/\w.heap[g]? = some (.cells (if z14=none then #[.int .i64 0,S8 []]else e1) 41 (0,0))
 f13:∀v,z13=some v->∃g,v=.pointer (some ⟨g,0,none⟩)/\w0.heap.size<=g/\w.heap[g]? = some (.cells (if z15=none then #[.int .i64 0,S8 []]else e2) 41 (0,0))
 ne:∀g h,z12=some (.pointer (some ⟨g,0,none⟩))->z13=some (.pointer (some ⟨h,0,none⟩))->g≠h
section
variable {w0 w w':World} {e1 e2:Array Value} {z12 z13 z14 z15:Option Value}
theorem SJ.start (c:Ext w0 w):SJ w0 e1 e2 none none none none w:=⟨c,fun h=>absurd rfl h,fun h=>absurd rfl h,fun v a=>(by cases a),fun v a=>(by cases a),fun g h b=>(by cases b)⟩
theorem SJ.more (h:SJ w0 e1 e2 z12 z13 z14 z15 w) (e:Ext w w'):SJ w0 e1 e2 z12 z13 z14 z15 w' :=
 ⟨h.ext.trans e,h.Iw,h.Ix,fun v d=>by obtain⟨g,a,b,c⟩:=h.f12 v d;exact⟨g,a,b,e.row c⟩,fun v d=>by obtain⟨g,a,b,c⟩:=h.f13 v d;exact⟨g,a,b,e.row c⟩,h.ne⟩
theorem SJ.Im (h:SJ w0 e1 e2 z12 z13 z14 z15 w) (n:z12=none):SJ w0 e1 e2 (some (.pointer (some ⟨w.heap.size,0,none⟩))) z13 z14 z15 (w.alloc (.cells #[.int .i64 0,S8 []] 41)):=by
 have k:=h.more ((Ext.refl w).alloc (.cells #[.int .i64 0,S8 []] 41));have d:z14=none:=by
  cases j:z14 with
  | none=>rfl
  | some v=>exact absurd n (h.Iw (by rw[j];simp))
 refine⟨k.ext,fun _=>by simp,k.Ix,fun v l=>by cases l;exact⟨_,rfl,h.ext.size,by rw[if_pos d];exact ah _ _⟩,k.f13,fun g p e i=>?_⟩;cases e;obtain⟨o,a,b,c⟩:=h.f13 _ i;cases a;have:=(Array.getElem?_eq_some_iff.1 c).1;omega
variable {v:Value}
theorem SJ.Io (h:SJ w0 e1 e2 z12 z13 z14 z15 w) (d:z12=some v) (k:z14=none):∃g,v=.pointer (some ⟨g,0,none⟩)/\w.heap[g]? = some (.cells #[.int .i64 0,S8 []] 41 (0,0))/\∀u,SJ w0 e1 e2 z12 z13 (some u) z15 (w.setRow g e1):=by
 obtain⟨g,rfl,o,l⟩:=h.f12 _ d;rw[if_pos k]at l;have i:=aw w g e1;refine⟨g,rfl,l,fun u=>⟨Ext.but h.ext i o,fun _=>by rw[d];simp,h.Ix,fun v j=>?_,fun v j=>?_,h.ne⟩⟩
 .rw [d]at j;cases j;exact⟨g,rfl,o,by rw[if_neg (by simp)];exact setRow_heap _ _ _ _ _ _ l⟩
 .obtain ⟨n,a,b,c⟩:=h.f13 v j;subst a;exact⟨n,rfl,b,bI i c (fun e=>h.ne g n d j e.symm)⟩
theorem SJ.Ip (h:SJ w0 e1 e2 z12 z13 z14 z15 w) (d:z13=some v) (k:z15=none):∃g,v=.pointer (some ⟨g,0,none⟩)/\w.heap[g]? = some (.cells #[.int .i64 0,S8 []] 41 (0,0))/\∀u,SJ w0 e1 e2 z12 z13 z14 (some u) (w.setRow g e2):=by
 obtain⟨g,rfl,o,l⟩:=h.f13 _ d;rw[if_pos k]at l;have i:=aw w g e2;refine⟨g,rfl,l,fun u=>⟨Ext.but h.ext i o,h.Iw,fun _=>by rw[d];simp,fun v j=>?_,fun v j=>?_,h.ne⟩⟩
 .obtain ⟨n,a,b,c⟩:=h.f12 v j;subst a;exact⟨n,rfl,b,bI i c (fun e=>h.ne n g j d e)⟩
 .rw [d]at j;cases j;exact⟨g,rfl,o,by rw[if_neg (by simp)];exact setRow_heap _ _ _ _ _ _ l⟩
end
section
variable {ops:Array Oper} {rest:List Oper} {o:Oper} {a:Act} {Q:Exit->Act->World->Prop} {w:World}
end
end
end Go.Proofs.YtgfegpnmlkdjfaaGreatDoor
