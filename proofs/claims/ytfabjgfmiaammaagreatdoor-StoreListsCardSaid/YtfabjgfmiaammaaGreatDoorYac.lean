/- Contracts of the program's functions and plain laws behind the card. Conditions: as each theorem states. -/
import Derived.Test.YtfabjgfmiaammaaGreatDoorYab
import Derived.Lib.Split
import Derived.Lib.SplitLaws
import Derived.BigQuiet
import Derived.Lib.SlBytesRow
import Derived.Great.BuildSlice
set_option linter.unusedVariables false
set_option linter.unusedSimpArgs false
set_option linter.unusedSectionVars false
set_option maxRecDepth 100000
set_option maxHeartbeats 64000000
namespace Go.Proofs.YtfabjgfmiaammaaGreatDoor
section
open Go Go.RowKit
def cut (c:UInt8):B8->List B8
 | []=>[[]]
 | x::l=>if x==c then[]::cut c l else match cut c l with
  | h::t=>(x::h)::t
  | []=>[[x]]
theorem gu (c:UInt8) (l:B8):cut c l≠[]:=by
 cases l with
 | nil=>simp[cut]
 | cons x l =>
  unfold cut;split
  .simp
  .split <;> simp
theorem qV (b c:UInt8) (l:B8) (h:b≠c):Lib.index (b::l) [c]=if Lib.index l [c] == -1 then -1 else Lib.index l [c]+1:=by
 have a:([c]:B8).isPrefixOf (b::l)=false:=by simp[List.isPrefixOf,Ne.symm h]
 rw[Lib.index,a];simp
theorem oE (c:UInt8):∀l:B8,Lib.splitK [c] 0 (Lib.count l [c]) l=cut c l
 | []=>by rw[Lib.count_miss (by simp[Lib.index])];rfl
 | x::l=>by
  have i:=oE c l
  by_cases h:x=c
  .subst h;have a:Lib.index (x::l) [x]=((0:Nat):Int):=by rw[Lib.index];simp[List.isPrefixOf]
   rw[Lib.count_cons_eq,Nat.add_comm,Lib.splitK,a];simp[cut,i]
  .rw [Lib.count_cons_ne x c l h];unfold cut;rw[if_neg (by simpa using h),<-i]
   by_cases o:Lib.index l [c] = -1
   .rw [Lib.count_miss o];simp[Lib.splitK]
   .have k:=Lib.index_ge l [c];obtain⟨j,g⟩:∃j:Nat,Lib.index l [c]=j:=⟨(Lib.index l [c]).toNat,by omega⟩;have d:¬(Lib.index l [c] == -1)=true:=fun e=>by have:=beq_iff_eq.1 e;omega
    have a:Lib.index (x::l) [c]=((j+1:Nat):Int):=by rw[qV x c l h,if_neg d,g];omega
    have b:¬(Lib.index (x::l) [c] == -1)=true:=fun e=>by have:=beq_iff_eq.1 e;omega
    obtain⟨n,p⟩:∃n,Lib.count l [c]=n+1:=⟨_,by rw[Lib.count_hit (by simp) g,Nat.add_comm]⟩;rw[p,Lib.splitK,if_neg b,Lib.splitK,if_neg d,a,g];simp
theorem jx (c:UInt8):∀l:B8,((cut c l).map List.length).sum+(cut c l).length=l.length+1
 | []=>by simp[cut]
 | x::l=>by
  have b:=jx c l;unfold cut;split
  .simp;omega
  .split
   .rename_i h t a;rw[a]at b;simp at b ⊢;omega
   .rename_i a;exact absurd a (gu c l)
theorem fA (c:UInt8) (l:B8):1<=(cut c l).length/\(cut c l).length<=l.length+1:=by
 have a:=jx c l;have b:(cut c l).length≠0:=fun h=>gu c l (List.eq_nil_of_length_eq_zero h)
 omega
theorem qm {l:List Nat} {x:Nat} (h:x∈l):x<=l.sum:=by
 induction l with
 | nil=>simp at h
 | cons a l b =>
  rcases List.mem_cons.1 h with rfl | h
  .simp
  .have:=b h;simp;omega
theorem lg (c:UInt8) (l:B8) {x:B8} (h:x∈cut c l):x.length<=l.length:=by
 have a:=jx c l;have b:=qm (List.mem_map.2 ⟨x,h,rfl⟩:x.length∈(cut c l).map List.length);have d:=(fA c l).1;omega
theorem pY (s:ByteArray) (c:UInt8) (w:World) (j:Env w) (o:s.size<4294967281) :
  Calls Tryz.prog 52 #[.string s,.string ⟨#[c]⟩] w fun e g=>∃v,e=.returned v/\IsStrs g v (cut c s.data.toList)/\(Typed 9 g v/\∀b,v.ownBlock=some b->w.heap.size<=b)/\Ext w g:=by
 obtain⟨m,n⟩:=j.Dd;refine(Tryz.strings_Split s ⟨#[c]⟩ m w o n (Nat.le_refl 1)).mono ?_;rintro e g ⟨rfl,rfl⟩;have d:=Lib.splitB_all ⟨#[c]⟩ (Nat.le_refl 1) 0 _ s rfl;have a:=Lib.splitB_data ⟨#[c]⟩ 0 (Lib.countB s ⟨#[c]⟩) s;have hcut:Lib.splitK [c] 0 (Lib.countB s ⟨#[c]⟩) s.data.toList=cut c s.data.toList:=oE c _;have p:s.data.toList.length=s.size:=by simp
 have l:=(fA c s.data.toList).2;have h:(Lib.splitB ⟨#[c]⟩ 0 (Lib.countB s ⟨#[c]⟩) s).map (·.data.toList)=cut c s.data.toList:=a.trans hcut;have i:Lib.countB s ⟨#[c]⟩+1=(cut c s.data.toList).length:=by rw[<-h,List.length_map,d]
 refine⟨_,rfl,?_,⟨Typed.at (ae _ _),fun b k=>by cases k;exact Nat.le_refl _⟩,(Ext.refl w).alloc _⟩;unfold IsStrs;rw[i];refine Row.new (ae _ _) (by omega) _ ?_;simp only;rw[<-h,List.map_map];apply List.map_congr_left;intro x _;rfl
end
section
open Go Go.RowKit
def fE (c:UInt8):Bool:=decide (c.toNat<33) || (decide (126<c.toNat) || decide (c.toNat=47))
def bW (l:B8):Bool:=!(l.any fE) && (!l.isEmpty && (decide (l.length<=64) && (!(l==[46]) && !(l==[46,46]))))
def az (l:B8):Bool:=decide (l.length<=200) && ((cut 47 l).all bW && decide ((cut 47 l).length<=8))
variable {c:UInt8}
theorem oN (a:¬(c.toNat:Int)<33) (b:¬(126:Int)<c.toNat) (d:¬(c.toNat:Int)=47):fE c=false:=by
 unfold fE;simp only[Bool.or_eq_false_iff,decide_eq_false_iff_not];omega
theorem iT (h:(c.toNat:Int)<33\/(126:Int)<c.toNat\/(c.toNat:Int)=47):fE c=true:=by
 unfold fE;simp only[Bool.or_eq_true,decide_eq_true_eq];omega
variable {s:ByteArray} {k:Nat}
theorem gP (h:k<s.size) (a:fE s[k]=true):bW s.data.toList=false:=by
 have:s.data.toList.any fE=true:=List.any_eq_true.2 ⟨s[k],by
  have:s[k]=s.data[k]'h:=rfl;rw[this];simp,a⟩
 simp[bW,this]
theorem lT (s:ByteArray) (k:Nat) (h:k<s.size):s.data.toList.take (k+1)=s.data.toList.take k++[s[k]]:=by
 rw[List.take_succ_eq_append_getElem (by simpa using h)];rfl
theorem qC (h:k<s.size) (a:(s.data.toList.take k).any fE=false) (b:fE s[k]=false):(s.data.toList.take (k+1)).any fE=false:=by
 rw[lT s k h];simp only[List.any_append,a,List.any_cons,b,List.any_nil,Bool.or_false]
theorem A5 (s:ByteArray) (w:World) (x:s.size<=140737488355328) :
  Calls Tryz.prog 120 #[.string s] w fun e q=>e=.returned (.bool (bW s.data.toList))/\q=w:=by
 go_enter Tryz.func120,Tryz.ntmps120;go_wp2
 go_loop [6] (fun i=>∃k:Nat,k<=s.size/\i=.int .i64 k/\(s.data.toList.take k).any fE=false) (fun i=>s.size - (intOf i).toNat)
 case atStart=>exact⟨0,Nat.zero_le _,rfl,rfl⟩
 case round =>
  obtain⟨k,u,rfl,j⟩:=hrel;have h:Hid _:=j;clear j
  by_cases c:k<s.size
  .by_cases r:(s[k].toNat:Int)<33
   .go_wp2;go_ret;exact⟨an (gP c (iT (by omega))).symm,rfl⟩
   .by_cases t:(126:Int)<s[k].toNat
    .go_wp2;go_ret;exact⟨an (gP c (iT (by omega))).symm,rfl⟩
    .by_cases b:(s[k].toNat:Int)=47
     .have n:((s[k].toNat:Int)==47)=true:=beq_iff_eq.2 b;have g:Hid _:=b;clear b;go_wp2;go_ret;have b:=g.out;exact⟨an (gP c (iT (by omega))).symm,rfl⟩
     .have n:((s[k].toNat:Int)==47)=false:=beq_eq_false_iff_ne.2 b;have g:Hid _:=b;clear b;go_wp2
      go_round
      case rel =>
       have b:=g.out;exact⟨k+1,by omega,by go_num,qC c h.out (oN (by omega) (by omega) b)⟩
      case measure=>simp[intOf];omega
  .have d:k=s.size:=by omega
   have a:s.data.toList.any fE=false:=by
    have:=h.out
    rwa [d,List.take_of_length_le (by simp)]at this
   have l:Hid _:=a;clear a h d;go_wp2
   all_goals
    go_ret;refine⟨an ?_,rfl⟩;have a:=l.out;rw[Lib.toList_data]at *;have p:s.data.toList.length=s.size:=by simp
    unfold bW;rw[a]
    by_cases o:s.size<=64 <;> first | (exfalso;omega) | (simp_all [Bool.and_assoc];done) | (simp_all;omega)
theorem ni (l:B8) (w:World) (a:l.length<=140737488355328) :
  Calls Tryz.prog 120 #[S8 l] w fun e b=>e=.returned (.bool (bW l))/\b=w:=A5 ⟨l.toArray⟩ w a
theorem kJ (s:ByteArray):az s.data.toList=(decide (s.size<=200) && ((cut 47 s.data.toList).all bW && decide ((cut 47 s.data.toList).length<=8))):=by simp[az]
variable {l:List B8}
theorem mW (h:k<l.length):l.getD k []∈l:=by
 simp[h]
theorem qB (h:k<l.length) (b:(l.take k).all bW=true) (a:bW (l.getD k [])=true):(l.take (k+1)).all bW=true:=by
 rw[List.take_succ_eq_append_getElem h];simp only[List.getD_eq_getElem?_getD,h,List.getElem?_eq_getElem,Option.getD_some]at a;simp only[List.all_append,b,List.all_cons,a,List.all_nil,Bool.and_true]
theorem u0 (h:k<l.length) (a:bW (l.getD k [])=false):l.all bW=false:=by
 rw[List.all_eq_false];exact⟨_,mW h,by rw[a];simp⟩
def qA (l:B8) (w:World) (e:Ending) (w':World):Prop:=e=.returned (.bool (az l))/\Ext w w'
theorem yJ (s:ByteArray) (w:World) (z:Env w) (K:s.size<4294967281) :
  Calls Tryz.prog 51 #[.string s] w (qA s.data.toList w):=by
 have j:=(fA 47 s.data.toList).2;have g:s.data.toList.length=s.size:=by simp
 have d:=fun x=>@lg 47 s.data.toList x
 rw[g]at j d
 by_cases P:(200:Int)<(s.size:Int)
 .go_enter Tryz.func51,Tryz.ntmps51;clear j d g;go_wp2;go_ret;exact⟨an (by rw[kJ];simp;omega),Ext.refl _⟩
 have H:=kJ s;have E:Hid _:=d;have q:Hid _:=H;clear H g d;go_enter Tryz.func51,Tryz.ntmps51;go_wp2_with fail;refine(pY s 47 _ z K).mono ?_;rintro e N ⟨v,rfl,C,-,p⟩;obtain⟨a,F,rfl,Q,R,S,u⟩:=C.get;generalize I:cut 47 s.data.toList=L at *;clear C I;have D:Hid _:=u;have O:Hid (Env N):=z.ext p;clear u;go_wp2_with fail
 go_loop [13] (fun i=>∃k:Nat,k<=L.length/\i=.int .i64 k/\(L.take k).all bW=true) (fun i=>L.length - (intOf i).toNat)
 case atStart=>exact⟨0,Nat.zero_le _,rfl,rfl⟩
 case round =>
  obtain⟨k,T,rfl,B⟩:=hrel;have r:Hid _:=B;clear B
  by_cases c:k<L.length
  .obtain ⟨b,o,rfl,A⟩:=D.out k c;have n:=A k c;clear A;have J:=E.out _ (mW c);obtain⟨x,h⟩:∃x,x=L.getD k []:=⟨_,rfl⟩;rw[<-h]at J n;have t:Hid _:=h;clear h
   cases y:bW x with
   | true =>
    have l:Hid _:=y
    go_wp2_with (go_at_call 120;go_must (refine(ni _ _ ?_).mono ?_;omega;rintro e M ⟨rfl,rfl⟩))
    go_round
    case rel=>exact⟨k+1,by omega,by go_num,qB c r.out (by rw[<-t.out];exact l.out)⟩
    case measure=>simp[intOf];omega
   | false =>
    have l:Hid _:=y
    go_wp2_with (go_at_call 120;go_must (refine(ni _ _ ?_).mono ?_;omega;rintro e M ⟨rfl,rfl⟩))
    go_ret;exact⟨an (by rw[q.out,u0 c (by rw[<-t.out];exact l.out)];simp),p⟩
  .go_wp2_with fail;go_ret;refine⟨an ?_,p⟩;have:=r.out;rw[List.take_of_length_le (by omega)]at this;rw[q.out,this];have G:decide (s.size<=200)=true:=by rw[decide_eq_true_eq];omega
   rw[G,Bool.true_and,Bool.true_and,decide_eq_decide];omega
theorem ee (l:B8) (w:World) (a:Env w) (b:l.length<4294967281) :
  Calls Tryz.prog 51 #[S8 l] w fun e c=>e=.returned (.bool (az l))/\Ext w c:=yJ ⟨l.toArray⟩ w a b
end
section
open Go Go.RowKit
variable {w:World} {fr:Nat×Nat}
theorem cU {g:Nat} {cs:Array Value} {t:TypeId} (h:w.heap[g]? = some (.cells cs t fr)):∀j u,cs.toList[j]? = some u->w.cell? ((⟨g,0,none⟩:Addr).add j)=some u:=by
 intro j u c;have a:cs[j]? = some u:=by simpa using c
 by_cases b:j=0
 .subst b;simp[World.cell?,h,Addr.add,a]
 .simp [World.cell?,h,Addr.add,b,a]
variable {v:Value}
theorem aj {wr d:World} {e:TypeId} {b:Nat} {n:Nat} {xs:List Value} (c:Ext w wr) (a:wr.ownsRow w.heap.size e b v n xs) (g:wr.grownBy d v.ownBlock):Ext w d :=
 Below.grown c g c.size (fun k h=>(a.lt k h).1)
section
variable {ops:Array Oper} {rest:List Oper} {o:Oper} {a:Act} {Q:Exit->Act->World->Prop} {w:World}
theorem gL (t e:TypeId) (z:Value) (b bytes:Nat) (O:Tryz.prog.underlying t=some (.slice e)) (l:(Tryz.prog.info? e).map (fun i=>(i.zero,i.size,i.bytes))=some (some z,b,bytes)) (E:z.cells.size=b) (A:0<b)
  (y:o.guard=none) (s x:Operand) (M:o.op=.call { callee:=.builtin .append,args:=#[s,x],argTypes:=#[t,t] })
  (g:Nat) (v:Value) (n:Nat) (xs:List Value) (N:a.eval s=v) (q:w.ownsRow g e b v n xs)
  (r:Addr) (m c:Nat) (d:List Value) (P:a.eval x=.slice (some r) m c) (L:d.length=m*b) (p:∀j u,d[j]? = some u->w.cell? (r.add j)=some u) (H:∀u∈d,u.oneCell'=true)
  (I:(n+m)*bytes<=140737488355328) (J:n+m<=140737488355328) (k:g<=w.heap.size)
  (h:∀F G,G.ownsRow g e b F (n+m) (xs++d)->w.grownBy G v.ownBlock->(F=.slice none 0 0↔v=.slice none 0 0/\m=0)->wpList Tryz.prog ops Q rest (a.put o.dst F) G):wpList Tryz.prog ops Q (o::rest) a w:=by
 obtain⟨R,K,B,C,D⟩:=info_parts l;exact wpList_append_own w y s x t M g e R z b bytes O K B C D E A v n xs N q r m c d P L p H (by unfold maxLen;omega) I k h
end
theorem gO:(Tryz.prog.info? 5).map (fun i=>(i.zero,i.size,i.bytes))=some (some (.int .u8 0),1,1):=by kernel_rfl
theorem jd:(Tryz.prog.info? 9).map (fun i=>(i.zero,i.size,i.bytes))=some (some (S8 []),1,16):=by kernel_rfl
section
variable {ops:Array Oper} {rest:List Oper} {o:Oper} {a:Act} {Q:Exit->Act->World->Prop} {w:World}
theorem dP (p:o.guard=none) (s x:Operand) (A:o.op=.call { callee:=.builtin .append,args:=#[s,x],argTypes:=#[37,37] })
  (b:Nat) (v:Value) (n:Nat) (l:B8) (B:a.eval s=v) (i:w.ownsRow b 5 1 v n (l.map fun x=>.int .u8 x.toNat))
  (g m c:Nat) (d:B8) (D:a.eval x=.slice (some ⟨g,0,none⟩) m c) (z:d.length=m) (y:w.heap[g]? = some (.cells (d.map fun x=>Value.int .u8 x.toNat).toArray 5 fr))
  (t:n+m<=140737488355328) (e:b<=w.heap.size)
  (h:∀k j,j.ownsRow b 5 1 k (n+m) ((l++d).map fun x=>.int .u8 x.toNat)->w.grownBy j v.ownBlock->wpList Tryz.prog ops Q rest (a.put o.dst k) j):wpList Tryz.prog ops Q (o::rest) a w :=
 gL _ _ _ 1 1 Tryz.underlying37 gO rfl (by omega) p s x A b v n _ B i ⟨g,0,none⟩ m c _ D (by simpa using z) (cU y) (by intro u C;obtain⟨_,_,rfl⟩:=List.mem_map.1 C;rfl) (by omega) t e
  (fun k j q r _=>h k j (by rw[List.map_append];exact q) r)
theorem fq (p:o.guard=none) (s x:Operand) (z:o.op=.call { callee:=.builtin .append,args:=#[s,x],argTypes:=#[39,39] })
  (b:Nat) (v:Value) (n:Nat) (l:List B8) (A:a.eval s=v) (i:w.ownsRow b 9 1 v n (l.map S8))
  (g m c:Nat) (d:List B8) (C:a.eval x=.slice (some ⟨g,0,none⟩) m c) (y:d.length=m) (t:w.heap[g]? = some (.cells (d.map S8).toArray 9 fr))
  (D:n+m<=1000000000) (e:b<=w.heap.size)
  (h:∀k j,j.ownsRow b 9 1 k (n+m) ((l++d).map S8)->w.grownBy j v.ownBlock->wpList Tryz.prog ops Q rest (a.put o.dst k) j):wpList Tryz.prog ops Q (o::rest) a w :=
 gL _ _ _ 1 16 Tryz.underlying39 jd rfl (by omega) p s x z b v n _ A i ⟨g,0,none⟩ m c _ C (by simpa using y) (cU t) (by intro u B;obtain⟨_,_,rfl⟩:=List.mem_map.1 B;rfl) (by omega) (by omega) e
  (fun k j q r _=>h k j (by rw[List.map_append];exact q) r)
end
theorem dA {l:B8} (h:IsBytes w v l):(convert 37 9 v).run Tryz.prog w=.ok (S8 l) w:=by
 obtain⟨a,c,rfl,q,r,t,g⟩:=h
 cases l with
 | nil =>
  cases a with
  | none=>exact run_convert_bytes_nil w 37 5 Tryz.underlying37 Tryz.underlying5 _ _ 9 Tryz.underlying9
  | some e =>
   rw[run_convert_bytes_string w 37 9 5 _ _ _ Tryz.underlying37 Tryz.underlying5 Tryz.underlying9,run_bytesToString w e _ c [] (by simpa using run_loadCells_list (P:=Tryz.prog) w e [] (by intro j v p;simp at p))];rfl
 | cons x l =>
  obtain⟨b,o,rfl,k⟩:=g (by simp);exact Lib.run_convert_whole w 37 5 9 Tryz.underlying37 Tryz.underlying5 Tryz.underlying9 b o ⟨(x::l).toArray⟩ (fun i n=>k i _ (by
   have d:i<(x::l).length:=n;rw[List.getElem?_map,List.getElem?_eq_getElem d];rfl)) c
end
section
open Go Go.RowKit
theorem mP {c:UInt8}:∀ {l:B8},(∀x∈l,x≠c)->cut c l=[l]
 | [],_=>rfl
 | x::l,h=>by
  have a:(x==c)=false:=by simpa using h x (by simp)
  unfold cut;rw[if_neg (by simp[a]),mP (fun y b=>h y (by simp[b]))]
theorem vD {c:UInt8}:∀ {p q:B8},(∀x∈p,x≠c)->cut c (p++c::q)=p::cut c q
 | [],q,_=>by simp[cut]
 | x::p,q,h=>by
  have a:(x==c)=false:=by simpa using h x (by simp)
  have d:=vD (p:=p) (q:=q) (fun y b=>h y (by simp[b]));show cut c (x::(p++c::q))=_;rw[cut,if_neg (by simp[a]),d]
def Cutting (c:UInt8) (l:B8) (k j:Nat) (L:List B8):Prop:=j<=k/\cut c l=L++cut c (l.drop j)/\∀x∈(l.drop j).take (k - j),x≠c
theorem Cutting.start (c:UInt8) (l:B8):Cutting c l 0 0 []:=⟨Nat.le_refl _,rfl,by simp⟩
variable {c:UInt8} {l:B8} {k j:Nat} {L:List B8}
theorem Cutting.step (h:Cutting c l k j L) (g:k<l.length) (e:l[k]≠c):Cutting c l (k+1) j L:=by
 obtain⟨i,b,d⟩:=h;refine⟨by omega,b,fun x a=>?_⟩;rw[show k+1 - j=(k - j)+1 by omega,List.take_add_one]at a;rcases List.mem_append.1 a with a | a
 .exact d x a
 .rw [List.getElem?_drop,show j+(k - j)=k by omega,List.getElem?_eq_getElem g]at a;have:x=l[k]:=by simpa using a
  rw[this];exact e
theorem Cutting.piece (h:Cutting c l k j L) (g:k<l.length) (d:l[k]=c):Cutting c l (k+1) (k+1) (L++[(l.drop j).take (k - j)]):=by
 obtain⟨n,a,b⟩:=h;refine⟨Nat.le_refl _,?_,by simp⟩;have i:l.drop j=(l.drop j).take (k - j)++c::l.drop (k+1):=by
  have e:=(List.take_append_drop (k - j) (l.drop j)).symm;rw[List.drop_drop,show j+(k - j)=k by omega,List.drop_eq_getElem_cons g,d]at e;exact e
 rw[a,List.append_assoc];congr 1;rw[List.singleton_append,<-vD b];exact congrArg (cut c) i
theorem Cutting.last (h:Cutting c l l.length j L):cut c l=L++[(l.drop j).take (l.length - j)]:=by
 obtain⟨e,b,a⟩:=h;have d:(l.drop j).take (l.length - j)=l.drop j:=List.take_of_length_le (by simp);rw[d]at a ⊢;rw[b,mP a]
theorem i9 (s:ByteArray) (i j:Nat) (h:i<=j) (a:j<=s.size):s.extract i j=⟨((s.data.toList.drop i).take (j - i)).toArray⟩:=by
 apply ByteArray.ext;apply Array.toList_inj.1;simp[ByteArray.data_extract]
def xJ (c:UInt8) (l:B8) (k j:Nat) (L:List B8):Prop:=(k<=l.length/\Cutting c l k j L)\/(k=l.length+1/\L=cut c l)
theorem uN (s:ByteArray) (c:UInt8) (w:World) (T:s.size<=10000000) :
  Calls Tryz.prog 210 #[.string s,.int .u8 c.toNat] w fun e G=>∃v,e=.returned v/\IsStrs G v (cut c s.data.toList)/\Typed 9 G v/\Ext w G:=by
 have y:s.data.toList.length=s.size:=by simp
 have b:Hid _:=y;clear y;go_enter Tryz.func210,Tryz.ntmps210;go_wp2;go_loopw [5,6,7] (fun v f i wr=>∃(k j:Nat) (L:List B8),i=.int .i64 k/\f=.int .i64 j/\k<=s.size+1/\j<=k/\L.length<=k/\xJ c s.data.toList k j L/\wr.ownsRow w.heap.size 9 1 v L.length (L.map S8)/\Ext w wr) (fun _ _ i _=>s.size+1 - (intOf i).toNat)
 case atStart=>exact⟨0,0,[],rfl,rfl,by omega,by omega,Nat.le_refl _,.inl ⟨Nat.zero_le _,Cutting.start _ _⟩,World.ownsRow_nil _ _ _ _,Ext.refl _⟩
 case round =>
  obtain⟨k,j,L,rfl,rfl,S,E,J,hrel,a,z⟩:=hrel;have C:Hid _:=hrel;clear hrel;have O:=z.size
  by_cases g:k=s.size+1
  .have p:IsStrs wr u5 (cut c s.data.toList)/\Typed 9 wr u5:=by
    rcases C.out with⟨R,_⟩ | ⟨_,I⟩
    .have:=b.out;omega
    .rw [<-I];exact⟨Row.BV a (by omega),Typed.BV a⟩
   have o:Hid _:=p;have N:¬(k:Int)<=(s.size:Int):=by omega
   clear p a g;go_wp2;go_ret;exact⟨_,rfl,o.out.1,o.out.2,z⟩
  .have F:k<=s.size:=by omega
   have H:Cutting c s.data.toList k j L:=by
    rcases C.out with⟨_,h⟩ | ⟨h,_⟩
    .exact h
    .have:=b.out;omega
   have A:Hid _:=H;have K:=i9 s j k E F;clear H g C
   by_cases u:k=s.size
   .subst u
    go_wp2_with (at_builtin;go_must (refine fq rfl _ _ rfl w.heap.size _ L.length L rfl (a.alloc _) wr.heap.size 1 1 [(s.data.toList.drop j).take (s.size - j)] rfl rfl (ae _ _) (by omega) (by simp;omega) ?_;intro P Q d q))
    go_roundw
    case rel =>
     refine⟨s.size+1,s.size+1,L++[(s.data.toList.drop j).take (s.size - j)],by go_num,by go_num,by omega,by omega,by simp;omega,.inr ⟨by rw[b.out],?_⟩,by simpa using d,aj (z.alloc _) (a.alloc _) q⟩;have:=A.out;rw[<-b.out]at this;rw[Cutting.last this,b.out]
    case measure=>simp[intOf]
   .have n:k<s.size:=by omega
    have M:((k:Int)==(s.size:Int))=false:=by simp;omega
    have x:s.data.toList[k]'(by rw[b.out];exact n)=s[k]:=rfl;have t:Hid _:=x;clear x
    by_cases r:s[k]=c
    .have D:((s[k].toNat:Int)==(c.toNat:Int))=true:=by simp[r]
     have B:Hid _:=r;clear r
     go_wp2_with (at_builtin;go_must (refine fq rfl _ _ rfl w.heap.size _ L.length L rfl (a.alloc _) wr.heap.size 1 1 [(s.data.toList.drop j).take (k - j)] rfl rfl (ae _ _) (by omega) (by simp;omega) ?_;intro P Q d q))
     go_roundw
     case rel =>
      exact⟨k+1,k+1,L++[(s.data.toList.drop j).take (k - j)],by go_num,by go_num,by omega,by omega,by simp;omega,.inl ⟨by rw[b.out];exact n,Cutting.piece A.out (by rw[b.out];exact n) (t.out.trans B.out)⟩,by simpa using d,aj (z.alloc _) (a.alloc _) q⟩
     case measure=>simp[intOf];omega
    .have D:((s[k].toNat:Int)==(c.toNat:Int))=false:=by
      rw[beq_eq_false_iff_ne];intro h;exact r (UInt8.toNat_inj.1 (by omega))
     have B:Hid _:=r;clear r;go_wp2;go_roundw
     case rel =>
      exact⟨k+1,j,L,by go_num,rfl,by omega,by omega,by omega,.inl ⟨by rw[b.out];exact n,Cutting.step A.out (by rw[b.out];exact n) (by rw[t.out];exact B.out)⟩,a,z⟩
     case measure=>simp[intOf];omega
theorem AB (s:ByteArray) (w:World) (E:s.size<=140737488355328) :
  Calls Tryz.prog 155 #[.string s] w fun e z=>e=.returned (.bool (bW s.data.toList))/\z=w:=by
 have a:s.data.toList.length=s.size:=by simp
 by_cases A:s.size<1
 .have d:Hid (bW s.data.toList=false):=by
   have:s.data.toList=[]:=List.eq_nil_of_length_eq_zero (by omega);unfold Hid;rw[this];decide
  have l:(s.size:Int)<1:=by omega
  clear a;go_enter Tryz.func155,Tryz.ntmps155;go_wp2;go_ret;exact⟨an d.out.symm,rfl⟩
 by_cases y:64<s.size
 .have d:Hid (bW s.data.toList=false):=by
   unfold Hid bW;rw[a];simp;omega
  have l:¬(s.size:Int)<1:=by omega
  have n:64<(s.size:Int):=by omega
  clear a;go_enter Tryz.func155,Tryz.ntmps155;go_wp2;go_ret;exact⟨an d.out.symm,rfl⟩
 have l:¬(s.size:Int)<1:=by omega
 have n:¬64<(s.size:Int):=by omega
 cases o:(s.toList==[46])with
 | true =>
  have d:Hid (bW s.data.toList=false):=by
   rw[Lib.toList_data]at o;have:s.data.toList=[46]:=by simpa using o
   unfold Hid;rw[this];decide
  clear a;go_enter Tryz.func155,Tryz.ntmps155;go_wp2;go_ret;exact⟨an d.out.symm,rfl⟩
 | false =>
  cases g:(s.toList==[46,46])with
  | true =>
   have d:Hid (bW s.data.toList=false):=by
    rw[Lib.toList_data]at g;have:s.data.toList=[46,46]:=by simpa using g
    unfold Hid;rw[this];decide
   clear a;go_enter Tryz.func155,Tryz.ntmps155;go_wp2;go_ret;exact⟨an d.out.symm,rfl⟩
  | false =>
   have d:Hid (s.data.toList.any fE=false->bW s.data.toList=true):=by
    intro b;rw[Lib.toList_data]at o g;unfold bW;rw[b,o,g,a];have:s.data.toList≠[]:=fun h=>by rw[h]at a;simp at a;omega
    have c:s.data.toList.isEmpty=false:=by cases h:s.data.toList <;> simp_all
    have q:decide (s.size<=64)=true:=by simp;omega
    rw[c,q];rfl
   clear a;go_enter Tryz.func155,Tryz.ntmps155;go_wp2
   go_loop [3] (fun i=>∃k:Nat,k<=s.size/\i=.int .i64 k/\(s.data.toList.take k).any fE=false) (fun i=>s.size - (intOf i).toNat)
   case atStart=>exact⟨0,Nat.zero_le _,rfl,rfl⟩
   case round =>
    obtain⟨k,D,rfl,u⟩:=hrel;have t:Hid _:=u;clear u
    by_cases j:k<s.size
    .by_cases B:(s[k].toNat:Int)<33
     .go_wp2;go_ret;exact⟨an (gP j (iT (by omega))).symm,rfl⟩
     .by_cases C:(126:Int)<s[k].toNat
      .go_wp2;go_ret;exact⟨an (gP j (iT (by omega))).symm,rfl⟩
      .by_cases c:(s[k].toNat:Int)=47
       .have q:((s[k].toNat:Int)==47)=true:=beq_iff_eq.2 c;have p:Hid _:=c;clear c;go_wp2;go_ret;have c:=p.out;exact⟨an (gP j (iT (by omega))).symm,rfl⟩
       .have q:((s[k].toNat:Int)==47)=false:=beq_eq_false_iff_ne.2 c;have p:Hid _:=c;clear c;go_wp2
        go_round
        case rel =>
         have c:=p.out;exact⟨k+1,by omega,by go_num,qC j t.out (oN (by omega) (by omega) c)⟩
        case measure=>simp[intOf];omega
    .have r:k=s.size:=by omega
     have b:s.data.toList.any fE=false:=by
      have:=t.out
      rwa [r,List.take_of_length_le (by simp)]at this
     have x:Hid _:=d.out b;clear b;go_wp2;go_ret;exact⟨an x.out.symm,rfl⟩
theorem jF (l:B8) (w:World) (a:l.length<=140737488355328) :
  Calls Tryz.prog 155 #[S8 l] w fun e b=>e=.returned (.bool (bW l))/\b=w:=AB ⟨l.toArray⟩ w a
theorem AC (s:ByteArray) (w:World) (J:s.size<=10000000) :
  Calls Tryz.prog 153 #[.string s] w (qA s.data.toList w):=by
 have j:=(fA 47 s.data.toList).2;have g:s.data.toList.length=s.size:=by simp
 have d:=fun x=>@lg 47 s.data.toList x
 rw[g]at j d
 by_cases M:(200:Int)<(s.size:Int)
 .go_enter Tryz.func153,Tryz.ntmps153;clear j d g;go_wp2;go_ret;exact⟨an (by rw[kJ];simp;omega),Ext.refl _⟩
 have H:=kJ s;have D:Hid _:=d;have p:Hid _:=H;clear H g d;go_enter Tryz.func153,Tryz.ntmps153;go_wp2_with fail;go_at_call 210;refine(uN s 47 _ J).mono ?_;rintro e R ⟨v,rfl,A,-,B⟩;obtain⟨a,E,rfl,N,O,P,t⟩:=A.get;generalize G:cut 47 s.data.toList=L at *;clear A G;have C:Hid _:=t;clear t;go_wp2_with fail
 go_loop [4] (fun i=>∃k:Nat,k<=L.length/\i=.int .i64 k/\(L.take k).all bW=true) (fun i=>L.length - (intOf i).toNat)
 case atStart=>exact⟨0,Nat.zero_le _,rfl,rfl⟩
 case round =>
  obtain⟨k,Q,rfl,z⟩:=hrel;have q:Hid _:=z;clear z
  by_cases c:k<L.length
  .obtain ⟨b,o,rfl,y⟩:=C.out k c;have n:=y k c;clear y;have I:=D.out _ (mW c);obtain⟨x,h⟩:∃x,x=L.getD k []:=⟨_,rfl⟩;rw[<-h]at I n;have r:Hid _:=h;clear h
   cases u:bW x with
   | true =>
    have l:Hid _:=u
    go_wp2_with (go_at_call 155;go_must (refine(jF _ _ ?_).mono ?_;omega;rintro e K ⟨rfl,rfl⟩))
    go_round
    case rel=>exact⟨k+1,by omega,by go_num,qB c q.out (by rw[<-r.out];exact l.out)⟩
    case measure=>simp[intOf];omega
   | false =>
    have l:Hid _:=u
    go_wp2_with (go_at_call 155;go_must (refine(jF _ _ ?_).mono ?_;omega;rintro e K ⟨rfl,rfl⟩))
    go_ret;exact⟨an (by rw[p.out,u0 c (by rw[<-r.out];exact l.out)];simp),B⟩
  .go_wp2_with fail;go_ret;refine⟨an ?_,B⟩;have:=q.out;rw[List.take_of_length_le (by omega)]at this;rw[p.out,this];have F:decide (s.size<=200)=true:=by rw[decide_eq_true_eq];omega
   rw[F,Bool.true_and,Bool.true_and,decide_eq_decide];omega
theorem dE (l:B8) (w:World) (a:l.length<=10000000) :
  Calls Tryz.prog 153 #[S8 l] w fun e b=>e=.returned (.bool (az l))/\Ext w b:=AC ⟨l.toArray⟩ w a
end
section
open Go Go.RowKit
theorem af (w:World) (g:Nat) (cs:Array Value):w.grownBy (w.setRow g cs) (some g):=by
 refine⟨rfl,rfl,rfl,by simp[World.setRow],fun k c b=>?_⟩;have a:g≠k:=fun e=>b (by rw[e])
 simp[World.setRow,Array.getElem?_modify,a]
theorem aH (w:World) (g i:Nat) (v:Value):w.grownBy (w.setCell ⟨g,i,none⟩ v) (some g):=by
 refine⟨rfl,rfl,rfl,by simp[World.setCell],fun k b a=>?_⟩;exact Below.heap_setCell _ _ _ _ (by rintro rfl;exact a rfl)
variable {w w1:World} {g:Nat}
theorem Ext.but {a:World} (h:Ext w w1) (b:w1.grownBy a (some g)) (d:w.heap.size<=g):Ext w a :=
 Below.grown h b h.size (fun k c=>by simp at c;omega)
theorem Ext.setRow (h:Ext w w1) (g:Nat) (cs:Array Value) (a:w.heap.size<=g):Ext w (w1.setRow g cs):=h.but (af _ _ _) a
variable {w':World} {o:Obj}
theorem Ext.row (h:Ext w w') (a:w.heap[g]? = some o):w'.heap[g]? = some o :=
 (h.block g (Array.getElem?_eq_some_iff.1 a).1).trans a
theorem aV {k:Nat} (h:w.grownBy w' (some g)) (b:w.heap[k]? = some o) (a:k≠g):w'.heap[k]? = some o :=
 (h.block k (Array.getElem?_eq_some_iff.1 b).1 (by simpa using a)).trans b
theorem dD {b:Nat} {e:TypeId} {c:Nat} {v:Value} {n:Nat} {xs:List Value} (h:w.ownsRow b e c v n xs) (i:0<n):∃g a,v=.slice (some ⟨g,0,none⟩) n a:=by
 obtain⟨_,⟨_,rfl⟩ | ⟨g,a,d,rfl,_⟩⟩:=h
 .omega
 .exact ⟨g,a,rfl⟩
theorem bN {c:Func} {p u:Tmp} {b:TypeId} (h:c.results=#[.cell p b,.tmp u]) (a:Array Value) (w:World) (g:Nat) (t:TypeId) (cs:Array Value) (fr:Nat×Nat) (d:Array Field) (v:Value)
  (j:a.getD p undef=.pointer (some ⟨g,0,none⟩)) (l:a.getD u undef=v) (e:w.heap[g]? = some (.cells cs t fr))
  (k:Tryz.prog.underlying b=some (.struct d)) (i:(Tryz.prog.info? b).map (·.size)=some cs.size) :
  (results c a).run Tryz.prog w=.ok (.tuple #[.agg cs,v]) w:=by
 rw[results_cell_tmp h,j,l];simp[asAddr,run_loadVar_row w g t b cs fr _ e k rfl i,Result.andThen]
section
variable {ops:Array Oper} {rest:List Oper} {o:Oper} {a:Act} {Q:Exit->Act->World->Prop} {w:World}
theorem ag (d:o.guard=none) (c:TypeId) (x y:Operand) (C:o.op=.store c x y) (g j:Nat) (E:a.eval x=.pointer (some ⟨g,j,none⟩)) (v:Value) (F:a.eval y=v) (l:v.oneCell'=true)
  (t:TypeId) (cur:Array Value) (n:w.heap[g]? = some (.cells cur t (0,0))) (B:j+1<=cur.size) (p:(Tryz.prog.info? c).map (·.size)=some 1) (new:Array Value) (b:new=(cur.toList.take j++[v]++cur.toList.drop (j+1)).toArray)
  (h:∀w',w'.heap[g]? = some (.cells new t (0,0))->w.grownBy w' (some g)->wpList Tryz.prog ops Q rest (a.put o.dst undef) w'):wpList Tryz.prog ops Q (o::rest) a w :=
 wpList_plain d fun _ z=>by
  have q:=run_storeCells_at (P:=Tryz.prog) g j t [v] 0 cur w n (by simpa using B) (fun u r=>by simp at r;subst r;exact l);have A:v.cells=#[v]:=by cases v <;> first | rfl | cases l
  have D:(storeVar c ⟨g,j,none⟩ v).run Tryz.prog w=.ok () (w.setRow g new):=by
   cases e:Tryz.prog.info? c with
   | none=>simp[e]at p
   | some i =>
    have k:i.size=1:=by simpa [e]using p
    simp only[Nat.add_zero,List.length_cons,List.length_nil,Nat.zero_add]at q;rw[b];simp[storeVar,sizeOf,typeInfo,e,A,k,q]
  unfold Oper.wp execOp;simp only[C,E,F,Instr.storeAt,Instr.sureAddr,Sem.run_bind,Sem.run_pure,Result.andThen_ok,D];exact z _ _ (h _ (setRow_heap _ _ _ _ _ _ n) (af _ _ _))
end
end
section
open Go Go.RowKit
def I64 (n:Int):Prop:=-9223372036854775808<=n/\n<=9223372036854775807
structure Ev where
 (t kind mode keep BW:Int)
 (path data:B8)
structure Fi where
 (mode:Int)
 (data:B8)
 (time:Int)
inductive Ch where
 | put (p:B8) (f:Fi)
 | mv (s d:B8)
 | del (p:B8)
abbrev ax:=List (B8×Fi)
def ltB (a b:B8):Bool:=decide (a<b)
def aA (l:ax) (p:B8):Option Fi:=(l.find? fun e=>e.1==p).map (·.2)
def ch (l:ax) (p:B8):ax:=l.filter fun e=>!(e.1==p)
def fT (x:B8×Fi):ax->ax
 | []=>[x]
 | y::r=>if ltB x.1 y.1 then x::y::r else y::fT x r
def eA (l:ax) (p:B8) (f:Fi):ax:=fT (p,f) (ch l p)
def ap (l:ax):Ch->ax
 | .put p f=>eA l p f
 | .mv s d=>match aA l s with
  | some x=>eA (ch l s) d x
  | none=>l
 | .del p=>ch l p
def aB (d s:B8):Bool:=(d++[47]).isPrefixOf s
def et (l:ax) (path a:B8):Bool:=!(l.any fun e=>!(e.1==a) && (aB e.1 path || aB path e.1))
def cV (l:ax):Nat:=(l.map fun e=>e.2.data.length).sum
structure Fs where
 (room:Int)
 (now sure:ax)
 (pend:List Ch)
 (plan:List Ev)
 (calls:Nat)
 (users:List Ev)
 (time:Nat)
 (down:Bool)
def Ch.at (c:Ch) (t:Nat):Ch:=match c with
 | .put p f=>.put p { f with time:=t }
 | c=>c
def does (m:Fs) (c:Ch):Fs:={ m with time:=m.time+1,now:=ap m.now (c.at (m.time+1)),pend:=m.pend++[c.at (m.time+1)] }
def bE (path:B8) (mode:Int) (data:B8):Int :=
 if az path=false then 6 else if mode<1\/3<mode then 1 else if 20000<data.length then 3 else 0
def bu (m:Fs) (path:B8) (mode:Int) (data:B8) (fits:Bool):Fs×Int :=
 if(aA m.now path).isNone/\et m.now path []=false then(m,9)else if fits=false then(m,10)else(does m (.put path ⟨mode,data,0⟩),0)
def gE (l:ax) (path:B8):Nat:=match aA l path with
 | some f=>f.data.length
 | none=>0
def fJ (m:Fs) (path:B8) (n:Nat):Bool:=decide ((n:Int)<=m.room - cV m.now+gE m.now path)
def aG (m:Fs) (path:B8):Fs×Int :=
 if az path=false then(m,6)else if(aA m.now path).isNone then(m,7)else(does m (.del path),0)
def dH (m:Fs):Fs:={ m with down:=false }
def eG (m:Fs) (l:List Ev):Fs:={ m with plan:=l.filter fun e=>decide ((m.calls:Int)<e.t) }
def settle (m:Fs):Fs:={ m with sure:=m.now,pend:=[] }
def aO (m:Fs) (path:B8) (mode:Int) (data:B8):Fs×Int :=
 if m.down then(m,12)else if bE path mode data≠0 then(m,bE path mode data)
 else if(bu m path mode data true).2≠0 then bu m path mode data true
 else({ settle (bu m path mode data true).1 with users:=m.users++[⟨m.calls,4,mode,0,0,path,data⟩] },0)
def aL (m:Fs) (path:B8):Fs×Int :=
 if m.down then(m,12)else if(aG m path).2≠0 then aG m path
 else({ settle (aG m path).1 with users:=m.users++[⟨m.calls,5,0,0,0,path,[]⟩] },0)
def dT (l:ax) (a:Int):Option Ch->ax
 | some (.put p f)=>if 0<=a/\a<f.data.length then ap l (.put p { f with data:=f.data.take a.toNat })else l
 | _=>l
def ed (m:Fs) (a:Int):Nat:=min a.toNat m.pend.length
def du (m:Fs) (a b:Int):ax:=dT ((m.pend.take (ed m a)).foldl ap m.sure) b m.pend[ed m a]?
def cX (m:Fs) (a b:Int):Fs :=
 if m.down then m else { m with now:=du m a b,sure:=du m a b,pend:=[],down:=true }
def bF (n:Nat) (x:Fs×Bool×Bool) (e:Ev):Fs×Bool×Bool :=
 if e.t≠n then x
 else if e.kind=1 then(cX x.1 e.keep e.BW,x.2)
 else if e.kind=2 then(x.1,true,x.2.2)
 else if e.kind=3 then(x.1,x.2.1,true)
 else if e.kind=4 then((aO x.1 e.path e.mode e.data).1,x.2)
 else if e.kind=5 then((aL x.1 e.path).1,x.2)
 else x
def av (m:Fs):Fs×Bool×Int :=
 let r:=m.plan.foldl (bF (m.calls+1)) ({ m with calls:=m.calls+1 },false,false)
 (r.1,r.2.1,if r.1.down then 12 else if r.2.2 then 11 else 0)
theorem ng {x e:B8×Fi}:∀ {l:ax},e∈fT x l↔e=x\/e∈l
 | []=>by simp[fT]
 | y::r=>by
  unfold fT;split
  .simp
  .simp only[List.mem_cons,ng (l:=r)];constructor
   iterate 2
    .rintro (h | h | h) <;> simp[h]
theorem mA (x:B8×Fi):∀l:ax,(fT x l).length=l.length+1
 | []=>rfl
 | y::r=>by
  unfold fT;split
  .rfl
  .simp [mA x r]
theorem dL (l:ax) (p:B8):(ch l p).length<=l.length:=List.length_filter_le _ _
theorem hI (l:ax) (p:B8) (f:Fi):(eA l p f).length<=l.length+1:=by
 unfold eA;rw[mA];have:=dL l p;omega
theorem dV (l:ax) (c:Ch):(ap l c).length<=l.length+1:=by
 cases c with
 | put p f=>exact hI l p f
 | mv s d =>
  unfold ap;simp only;split
  .rename_i x _;have a:=hI (ch l s) d x;have b:=dL l s;omega
  .omega
 | del p=>have:=dL l p;show(ch l p).length<=_;omega
end
end Go.Proofs.YtfabjgfmiaammaaGreatDoor
