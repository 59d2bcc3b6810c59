/- Contracts of the program's functions and plain laws behind the card. Conditions: as each theorem states. -/
import Derived.Test.YtgfegpnmlkdjfaaGreatDoorZab
import Derived.Lib.Split
import Derived.Lib.SplitLaws
import Derived.BigQuiet
import Derived.Lib.SlBytesRow
import Derived.Great.BuildSlice
import Derived.Maps.RangeWalk
import Derived.Maps.OwnSet
import Derived.Maps.Ext
set_option linter.unusedVariables false
set_option linter.unusedSimpArgs false
set_option linter.unusedSectionVars false
set_option maxRecDepth 100000
set_option maxHeartbeats 64000000
namespace Go.Proofs.YtgfegpnmlkdjfaaGreatDoor
section
open Go Go.RowKit
def cut (c:UInt8):B8->List B8
 | []=>[[]]
 | x::l=>if x==c then[]::cut c l else match cut c l with
  | h::t=>(x::h)::t
  | []=>[[x]]
theorem iH (c:UInt8) (l:B8):cut c l≠[]:=by
 cases l with
 | nil=>simp[cut]
 | cons x l =>
  unfold cut;split
  .simp
  .split <;> simp
theorem tG (b c:UInt8) (l:B8) (h:b≠c):Lib.index (b::l) [c]=if Lib.index l [c] == -1 then -1 else Lib.index l [c]+1:=by
 have a:([c]:B8).isPrefixOf (b::l)=false:=by simp[List.isPrefixOf,Ne.symm h]
 rw[Lib.index,a];simp
theorem pQ (c:UInt8):∀l:B8,Lib.splitK [c] 0 (Lib.count l [c]) l=cut c l
 | []=>by rw[Lib.count_miss (by simp[Lib.index])];rfl
 | x::l=>by
  have i:=pQ c l
  by_cases h:x=c
  .subst h;have a:Lib.index (x::l) [x]=((0:Nat):Int):=by rw[Lib.index];simp[List.isPrefixOf]
   rw[Lib.count_cons_eq,Nat.add_comm,Lib.splitK,a];simp[cut,i]
  .rw [Lib.count_cons_ne x c l h];unfold cut;rw[if_neg (by simpa using h),<-i]
   by_cases o:Lib.index l [c] = -1
   .rw [Lib.count_miss o];simp[Lib.splitK]
   .have k:=Lib.index_ge l [c];obtain⟨j,g⟩:∃j:Nat,Lib.index l [c]=j:=⟨(Lib.index l [c]).toNat,by omega⟩;have d:¬(Lib.index l [c] == -1)=true:=fun e=>by have:=beq_iff_eq.1 e;omega
    have a:Lib.index (x::l) [c]=((j+1:Nat):Int):=by rw[tG x c l h,if_neg d,g];omega
    have b:¬(Lib.index (x::l) [c] == -1)=true:=fun e=>by have:=beq_iff_eq.1 e;omega
    obtain⟨n,p⟩:∃n,Lib.count l [c]=n+1:=⟨_,by rw[Lib.count_hit (by simp) g,Nat.add_comm]⟩;rw[p,Lib.splitK,if_neg b,Lib.splitK,if_neg d,a,g];simp
theorem jX (c:UInt8):∀l:B8,((cut c l).map List.length).sum+(cut c l).length=l.length+1
 | []=>by simp[cut]
 | x::l=>by
  have b:=jX c l;unfold cut;split
  .simp;omega
  .split
   .rename_i h t a;rw[a]at b;simp at b ⊢;omega
   .rename_i a;exact absurd a (iH c l)
theorem gL (c:UInt8) (l:B8):1<=(cut c l).length/\(cut c l).length<=l.length+1:=by
 have a:=jX c l;have b:(cut c l).length≠0:=fun h=>iH c l (List.eq_nil_of_length_eq_zero h)
 omega
theorem rY {l:List Nat} {x:Nat} (h:x∈l):x<=l.sum:=by
 induction l with
 | nil=>simp at h
 | cons a l b =>
  rcases List.mem_cons.1 h with rfl | h
  .simp
  .have:=b h;simp;omega
theorem yw (c:UInt8) (l:B8) {x:B8} (h:x∈cut c l):x.length<=l.length:=by
 have a:=jX c l;have b:=rY (List.mem_map.2 ⟨x,h,rfl⟩:x.length∈(cut c l).map List.length);have d:=(gL c l).1;omega
theorem rK (s:ByteArray) (c:UInt8) (w:World) (j:Env w) (o:s.size<4294967281) :
  Calls Tryz.prog 53 #[.string s,.string ⟨#[c]⟩] w fun e g=>∃v,e=.returned v/\IsStrs g v (cut c s.data.toList)/\(Typed 9 g v/\∀b,v.ownBlock=some b->w.heap.size<=b)/\Ext w g:=by
 obtain⟨m,n⟩:=j.Iv;refine(Tryz.strings_Split s ⟨#[c]⟩ m w o n (Nat.le_refl 1)).mono ?_;rintro e g ⟨rfl,rfl⟩;have d:=Lib.splitB_all ⟨#[c]⟩ (Nat.le_refl 1) 0 _ s rfl;have a:=Lib.splitB_data ⟨#[c]⟩ 0 (Lib.countB s ⟨#[c]⟩) s;have hcut:Lib.splitK [c] 0 (Lib.countB s ⟨#[c]⟩) s.data.toList=cut c s.data.toList:=pQ c _;have p:s.data.toList.length=s.size:=by simp
 have l:=(gL c s.data.toList).2;have h:(Lib.splitB ⟨#[c]⟩ 0 (Lib.countB s ⟨#[c]⟩) s).map (·.data.toList)=cut c s.data.toList:=a.trans hcut;have i:Lib.countB s ⟨#[c]⟩+1=(cut c s.data.toList).length:=by rw[<-h,List.length_map,d]
 refine⟨_,rfl,?_,⟨Typed.at (ah _ _),fun b k=>by cases k;exact Nat.le_refl _⟩,(Ext.refl w).alloc _⟩;unfold IsStrs;rw[i];refine Row.new (ah _ _) (by omega) _ ?_;simp only;rw[<-h,List.map_map];apply List.map_congr_left;intro x _;rfl
end
section
open Go Go.RowKit
def gX (c:UInt8):Bool:=decide (c.toNat<33) || (decide (126<c.toNat) || decide (c.toNat=47))
def bM (l:B8):Bool:=!(l.any gX) && (!l.isEmpty && (decide (l.length<=64) && (!(l==[46]) && !(l==[46,46]))))
def aR (l:B8):Bool:=decide (l.length<=200) && ((cut 47 l).all bM && decide ((cut 47 l).length<=8))
variable {c:UInt8}
theorem B4 (a:¬(c.toNat:Int)<33) (b:¬(126:Int)<c.toNat) (d:¬(c.toNat:Int)=47):gX c=false:=by
 unfold gX;simp only[Bool.or_eq_false_iff,decide_eq_false_iff_not];omega
theorem qp (h:(c.toNat:Int)<33\/(126:Int)<c.toNat\/(c.toNat:Int)=47):gX c=true:=by
 unfold gX;simp only[Bool.or_eq_true,decide_eq_true_eq];omega
variable {s:ByteArray} {k:Nat}
theorem oC (h:k<s.size) (a:gX s[k]=true):bM s.data.toList=false:=by
 have:s.data.toList.any gX=true:=List.any_eq_true.2 ⟨s[k],by
  have:s[k]=s.data[k]'h:=rfl;rw[this];simp,a⟩
 simp[bM,this]
theorem rN (s:ByteArray) (k:Nat) (h:k<s.size):s.data.toList.take (k+1)=s.data.toList.take k++[s[k]]:=by
 rw[List.take_succ_eq_append_getElem (by simpa using h)];rfl
theorem Ao (h:k<s.size) (a:(s.data.toList.take k).any gX=false) (b:gX s[k]=false):(s.data.toList.take (k+1)).any gX=false:=by
 rw[rN s k h];simp only[List.any_append,a,List.any_cons,b,List.any_nil,Bool.or_false]
theorem D7 (s:ByteArray) (w:World) (x:s.size<=140737488355328) :
  Calls Tryz.prog 54 #[.string s] w fun e q=>e=.returned (.bool (bM s.data.toList))/\q=w:=by
 go_enter Tryz.func54,Tryz.ntmps54;go_wp2
 go_loop [6] (fun i=>∃k:Nat,k<=s.size/\i=.int .i64 k/\(s.data.toList.take k).any gX=false) (fun i=>s.size - (intOf i).toNat)
 case atStart=>exact⟨0,Nat.zero_le _,rfl,rfl⟩
 case round =>
  obtain⟨k,u,rfl,j⟩:=hrel;have h:Hid _:=j;clear j
  by_cases c:k<s.size
  .by_cases r:(s[k].toNat:Int)<33
   .go_wp2;go_ret;exact⟨aM (oC c (qp (by omega))).symm,rfl⟩
   .by_cases t:(126:Int)<s[k].toNat
    .go_wp2;go_ret;exact⟨aM (oC c (qp (by omega))).symm,rfl⟩
    .by_cases b:(s[k].toNat:Int)=47
     .have n:((s[k].toNat:Int)==47)=true:=beq_iff_eq.2 b;have g:Hid _:=b;clear b;go_wp2;go_ret;have b:=g.out;exact⟨aM (oC c (qp (by omega))).symm,rfl⟩
     .have n:((s[k].toNat:Int)==47)=false:=beq_eq_false_iff_ne.2 b;have g:Hid _:=b;clear b;go_wp2
      go_round
      case rel =>
       have b:=g.out;exact⟨k+1,by omega,by go_num,Ao c h.out (B4 (by omega) (by omega) b)⟩
      case measure=>simp[intOf];omega
  .have d:k=s.size:=by omega
   have a:s.data.toList.any gX=false:=by
    have:=h.out
    rwa [d,List.take_of_length_le (by simp)]at this
   have l:Hid _:=a;clear a h d;go_wp2
   all_goals
    go_ret;refine⟨aM ?_,rfl⟩;have a:=l.out;rw[Lib.toList_data]at *;have p:s.data.toList.length=s.size:=by simp
    unfold bM;rw[a]
    by_cases o:s.size<=64 <;> first | (exfalso;omega) | (simp_all [Bool.and_assoc];done) | (simp_all;omega)
theorem oB (l:B8) (w:World) (a:l.length<=140737488355328) :
  Calls Tryz.prog 54 #[S8 l] w fun e b=>e=.returned (.bool (bM l))/\b=w:=D7 ⟨l.toArray⟩ w a
theorem tW (s:ByteArray):aR s.data.toList=(decide (s.size<=200) && ((cut 47 s.data.toList).all bM && decide ((cut 47 s.data.toList).length<=8))):=by simp[aR]
variable {l:List B8}
theorem tC (h:k<l.length):l.getD k []∈l:=by
 simp[h]
theorem An (h:k<l.length) (b:(l.take k).all bM=true) (a:bM (l.getD k [])=true):(l.take (k+1)).all bM=true:=by
 rw[List.take_succ_eq_append_getElem h];simp only[List.getD_eq_getElem?_getD,h,List.getElem?_eq_getElem,Option.getD_some]at a;simp only[List.all_append,b,List.all_cons,a,List.all_nil,Bool.and_true]
theorem Dx (h:k<l.length) (a:bM (l.getD k [])=false):l.all bM=false:=by
 rw[List.all_eq_false];exact⟨_,tC h,by rw[a];simp⟩
def sG (l:B8) (w:World) (e:Ending) (w':World):Prop:=e=.returned (.bool (aR l))/\Ext w w'
theorem tX (s:ByteArray) (w:World) (z:Env w) (K:s.size<4294967281) :
  Calls Tryz.prog 34 #[.string s] w (sG s.data.toList w):=by
 have j:=(gL 47 s.data.toList).2;have g:s.data.toList.length=s.size:=by simp
 have d:=fun x=>@yw 47 s.data.toList x
 rw[g]at j d
 by_cases P:(200:Int)<(s.size:Int)
 .go_enter Tryz.func34,Tryz.ntmps34;clear j d g;go_wp2;go_ret;exact⟨aM (by rw[tW];simp;omega),Ext.refl _⟩
 have H:=tW s;have E:Hid _:=d;have q:Hid _:=H;clear H g d;go_enter Tryz.func34,Tryz.ntmps34;go_wp2_with fail;refine(rK s 47 _ z K).mono ?_;rintro e N ⟨v,rfl,C,-,p⟩;obtain⟨a,F,rfl,Q,R,S,u⟩:=C.get;generalize I:cut 47 s.data.toList=L at *;clear C I;have D:Hid _:=u;have O:Hid (Env N):=z.ext p;clear u;go_wp2_with fail
 go_loop [13] (fun i=>∃k:Nat,k<=L.length/\i=.int .i64 k/\(L.take k).all bM=true) (fun i=>L.length - (intOf i).toNat)
 case atStart=>exact⟨0,Nat.zero_le _,rfl,rfl⟩
 case round =>
  obtain⟨k,T,rfl,B⟩:=hrel;have r:Hid _:=B;clear B
  by_cases c:k<L.length
  .obtain ⟨b,o,rfl,A⟩:=D.out k c;have n:=A k c;clear A;have J:=E.out _ (tC c);obtain⟨x,h⟩:∃x,x=L.getD k []:=⟨_,rfl⟩;rw[<-h]at J n;have t:Hid _:=h;clear h
   cases y:bM x with
   | true =>
    have l:Hid _:=y
    go_wp2_with (go_at_call 54;go_must (refine(oB _ _ ?_).mono ?_;omega;rintro e M ⟨rfl,rfl⟩))
    go_round
    case rel=>exact⟨k+1,by omega,by go_num,An c r.out (by rw[<-t.out];exact l.out)⟩
    case measure=>simp[intOf];omega
   | false =>
    have l:Hid _:=y
    go_wp2_with (go_at_call 54;go_must (refine(oB _ _ ?_).mono ?_;omega;rintro e M ⟨rfl,rfl⟩))
    go_ret;exact⟨aM (by rw[q.out,Dx c (by rw[<-t.out];exact l.out)];simp),p⟩
  .go_wp2_with fail;go_ret;refine⟨aM ?_,p⟩;have:=r.out;rw[List.take_of_length_le (by omega)]at this;rw[q.out,this];have G:decide (s.size<=200)=true:=by rw[decide_eq_true_eq];omega
   rw[G,Bool.true_and,Bool.true_and,decide_eq_decide];omega
theorem tY (l:B8) (w:World) (a:Env w) (b:l.length<4294967281) :
  Calls Tryz.prog 34 #[S8 l] w fun e c=>e=.returned (.bool (aR l))/\Ext w c:=tX ⟨l.toArray⟩ w a b
end
section
open Go Go.RowKit
variable {w:World} {fr:Nat×Nat}
theorem bW {g:Nat} {cs:Array Value} {t:TypeId} (h:w.heap[g]? = some (.cells cs t fr)):∀j u,cs.toList[j]? = some u->w.cell? ((⟨g,0,none⟩:Addr).add j)=some u:=by
 intro j u c;have a:cs[j]? = some u:=by simpa using c
 by_cases b:j=0
 .subst b;simp[World.cell?,h,Addr.add,a]
 .simp [World.cell?,h,Addr.add,b,a]
variable {v:Value}
theorem aA {wr d:World} {e:TypeId} {b:Nat} {n:Nat} {xs:List Value} (c:Ext w wr) (a:wr.ownsRow w.heap.size e b v n xs) (g:wr.grownBy d v.ownBlock):Ext w d :=
 Below.grown c g c.size (fun k h=>(a.lt k h).1)
section
variable {ops:Array Oper} {rest:List Oper} {o:Oper} {a:Act} {Q:Exit->Act->World->Prop} {w:World}
theorem eY (t e:TypeId) (z:Value) (b bytes:Nat) (O:Tryz.prog.underlying t=some (.slice e)) (l:(Tryz.prog.info? e).map (fun i=>(i.zero,i.size,i.bytes))=some (some z,b,bytes)) (E:z.cells.size=b) (A:0<b)
  (y:o.guard=none) (s x:Operand) (M:o.op=.call { callee:=.builtin .append,args:=#[s,x],argTypes:=#[t,t] })
  (g:Nat) (v:Value) (n:Nat) (xs:List Value) (N:a.eval s=v) (q:w.ownsRow g e b v n xs)
  (r:Addr) (m c:Nat) (d:List Value) (P:a.eval x=.slice (some r) m c) (L:d.length=m*b) (p:∀j u,d[j]? = some u->w.cell? (r.add j)=some u) (H:∀u∈d,u.oneCell'=true)
  (I:(n+m)*bytes<=140737488355328) (J:n+m<=140737488355328) (k:g<=w.heap.size)
  (h:∀F G,G.ownsRow g e b F (n+m) (xs++d)->w.grownBy G v.ownBlock->(F=.slice none 0 0↔v=.slice none 0 0/\m=0)->wpList Tryz.prog ops Q rest (a.put o.dst F) G):wpList Tryz.prog ops Q (o::rest) a w:=by
 obtain⟨R,K,B,C,D⟩:=info_parts l;exact wpList_append_own w y s x t M g e R z b bytes O K B C D E A v n xs N q r m c d P L p H (by unfold maxLen;omega) I k h
end
theorem jl:(Tryz.prog.info? 5).map (fun i=>(i.zero,i.size,i.bytes))=some (some (.int .u8 0),1,1):=by kernel_rfl
theorem eu:(Tryz.prog.info? 9).map (fun i=>(i.zero,i.size,i.bytes))=some (some (S8 []),1,16):=by kernel_rfl
section
variable {ops:Array Oper} {rest:List Oper} {o:Oper} {a:Act} {Q:Exit->Act->World->Prop} {w:World}
theorem eT (p:o.guard=none) (s x:Operand) (A:o.op=.call { callee:=.builtin .append,args:=#[s,x],argTypes:=#[52,52] })
  (b:Nat) (v:Value) (n:Nat) (l:B8) (B:a.eval s=v) (i:w.ownsRow b 5 1 v n (l.map fun x=>.int .u8 x.toNat))
  (g m c:Nat) (d:B8) (D:a.eval x=.slice (some ⟨g,0,none⟩) m c) (z:d.length=m) (y:w.heap[g]? = some (.cells (d.map fun x=>Value.int .u8 x.toNat).toArray 5 fr))
  (t:n+m<=140737488355328) (e:b<=w.heap.size)
  (h:∀k j,j.ownsRow b 5 1 k (n+m) ((l++d).map fun x=>.int .u8 x.toNat)->w.grownBy j v.ownBlock->wpList Tryz.prog ops Q rest (a.put o.dst k) j):wpList Tryz.prog ops Q (o::rest) a w :=
 eY _ _ _ 1 1 Tryz.underlying52 jl rfl (by omega) p s x A b v n _ B i ⟨g,0,none⟩ m c _ D (by simpa using z) (bW y) (by intro u C;obtain⟨_,_,rfl⟩:=List.mem_map.1 C;rfl) (by omega) t e
  (fun k j q r _=>h k j (by rw[List.map_append];exact q) r)
theorem gW (p:o.guard=none) (s x:Operand) (z:o.op=.call { callee:=.builtin .append,args:=#[s,x],argTypes:=#[38,38] })
  (b:Nat) (v:Value) (n:Nat) (l:List B8) (A:a.eval s=v) (i:w.ownsRow b 9 1 v n (l.map S8))
  (g m c:Nat) (d:List B8) (C:a.eval x=.slice (some ⟨g,0,none⟩) m c) (y:d.length=m) (t:w.heap[g]? = some (.cells (d.map S8).toArray 9 fr))
  (D:n+m<=1000000000) (e:b<=w.heap.size)
  (h:∀k j,j.ownsRow b 9 1 k (n+m) ((l++d).map S8)->w.grownBy j v.ownBlock->wpList Tryz.prog ops Q rest (a.put o.dst k) j):wpList Tryz.prog ops Q (o::rest) a w :=
 eY _ _ _ 1 16 Tryz.underlying38 eu rfl (by omega) p s x z b v n _ A i ⟨g,0,none⟩ m c _ C (by simpa using y) (bW t) (by intro u B;obtain⟨_,_,rfl⟩:=List.mem_map.1 B;rfl) (by omega) (by omega) e
  (fun k j q r _=>h k j (by rw[List.map_append];exact q) r)
end
theorem dK {l:B8} (h:IsBytes w v l):(convert 52 9 v).run Tryz.prog w=.ok (S8 l) w:=by
 obtain⟨a,c,rfl,q,r,t,g⟩:=h
 cases l with
 | nil =>
  cases a with
  | none=>exact run_convert_bytes_nil w 52 5 Tryz.underlying52 Tryz.underlying5 _ _ 9 Tryz.underlying9
  | some e =>
   rw[run_convert_bytes_string w 52 9 5 _ _ _ Tryz.underlying52 Tryz.underlying5 Tryz.underlying9,run_bytesToString w e _ c [] (by simpa using run_loadCells_list (P:=Tryz.prog) w e [] (by intro j v p;simp at p))];rfl
 | cons x l =>
  obtain⟨b,o,rfl,k⟩:=g (by simp);exact Lib.run_convert_whole w 52 5 9 Tryz.underlying52 Tryz.underlying5 Tryz.underlying9 b o ⟨(x::l).toArray⟩ (fun i n=>k i _ (by
   have d:i<(x::l).length:=n;rw[List.getElem?_map,List.getElem?_eq_getElem d];rfl)) c
end
section
open Go Go.RowKit
theorem te {c:UInt8}:∀ {l:B8},(∀x∈l,x≠c)->cut c l=[l]
 | [],_=>rfl
 | x::l,h=>by
  have a:(x==c)=false:=by simpa using h x (by simp)
  unfold cut;rw[if_neg (by simp[a]),te (fun y b=>h y (by simp[b]))]
theorem yv {c:UInt8}:∀ {p q:B8},(∀x∈p,x≠c)->cut c (p++c::q)=p::cut c q
 | [],q,_=>by simp[cut]
 | x::p,q,h=>by
  have a:(x==c)=false:=by simpa using h x (by simp)
  have d:=yv (p:=p) (q:=q) (fun y b=>h y (by simp[b]));show cut c (x::(p++c::q))=_;rw[cut,if_neg (by simp[a]),d]
def Cutting (c:UInt8) (l:B8) (k j:Nat) (L:List B8):Prop:=j<=k/\cut c l=L++cut c (l.drop j)/\∀x∈(l.drop j).take (k - j),x≠c
theorem Cutting.start (c:UInt8) (l:B8):Cutting c l 0 0 []:=⟨Nat.le_refl _,rfl,by simp⟩
variable {c:UInt8} {l:B8} {k j:Nat} {L:List B8}
theorem Cutting.step (h:Cutting c l k j L) (g:k<l.length) (e:l[k]≠c):Cutting c l (k+1) j L:=by
 obtain⟨i,b,d⟩:=h;refine⟨by omega,b,fun x a=>?_⟩;rw[show k+1 - j=(k - j)+1 by omega,List.take_add_one]at a;rcases List.mem_append.1 a with a | a
 .exact d x a
 .rw [List.getElem?_drop,show j+(k - j)=k by omega,List.getElem?_eq_getElem g]at a;have:x=l[k]:=by simpa using a
  rw[this];exact e
theorem Cutting.piece (h:Cutting c l k j L) (g:k<l.length) (d:l[k]=c):Cutting c l (k+1) (k+1) (L++[(l.drop j).take (k - j)]):=by
 obtain⟨n,a,b⟩:=h;refine⟨Nat.le_refl _,?_,by simp⟩;have i:l.drop j=(l.drop j).take (k - j)++c::l.drop (k+1):=by
  have e:=(List.take_append_drop (k - j) (l.drop j)).symm;rw[List.drop_drop,show j+(k - j)=k by omega,List.drop_eq_getElem_cons g,d]at e;exact e
 rw[a,List.append_assoc];congr 1;rw[List.singleton_append,<-yv b];exact congrArg (cut c) i
theorem Cutting.last (h:Cutting c l l.length j L):cut c l=L++[(l.drop j).take (l.length - j)]:=by
 obtain⟨e,b,a⟩:=h;have d:(l.drop j).take (l.length - j)=l.drop j:=List.take_of_length_le (by simp);rw[d]at a ⊢;rw[b,te a]
def Fm (c:UInt8) (l:B8) (k j:Nat) (L:List B8):Prop:=(k<=l.length/\Cutting c l k j L)\/(k=l.length+1/\L=cut c l)
end
section
open Go Go.RowKit
theorem aw (w:World) (g:Nat) (cs:Array Value):w.grownBy (w.setRow g cs) (some g):=by
 refine⟨rfl,rfl,rfl,by simp[World.setRow],fun k c b=>?_⟩;have a:g≠k:=fun e=>b (by rw[e])
 simp[World.setRow,Array.getElem?_modify,a]
theorem cW (w:World) (g i:Nat) (v:Value):w.grownBy (w.setCell ⟨g,i,none⟩ v) (some g):=by
 refine⟨rfl,rfl,rfl,by simp[World.setCell],fun k b a=>?_⟩;exact Below.heap_setCell _ _ _ _ (by rintro rfl;exact a rfl)
variable {w w1:World} {g:Nat}
theorem Ext.but {a:World} (h:Ext w w1) (b:w1.grownBy a (some g)) (d:w.heap.size<=g):Ext w a :=
 Below.grown h b h.size (fun k c=>by simp at c;omega)
theorem Ext.setRow (h:Ext w w1) (g:Nat) (cs:Array Value) (a:w.heap.size<=g):Ext w (w1.setRow g cs):=h.but (aw _ _ _) a
variable {w':World} {o:Obj}
theorem Ext.row (h:Ext w w') (a:w.heap[g]? = some o):w'.heap[g]? = some o :=
 (h.block g (Array.getElem?_eq_some_iff.1 a).1).trans a
theorem bI {k:Nat} (h:w.grownBy w' (some g)) (b:w.heap[k]? = some o) (a:k≠g):w'.heap[k]? = some o :=
 (h.block k (Array.getElem?_eq_some_iff.1 b).1 (by simpa using a)).trans b
theorem iL {b:Nat} {e:TypeId} {c:Nat} {v:Value} {n:Nat} {xs:List Value} (h:w.ownsRow b e c v n xs) (i:0<n):∃g a,v=.slice (some ⟨g,0,none⟩) n a:=by
 obtain⟨_,⟨_,rfl⟩ | ⟨g,a,d,rfl,_⟩⟩:=h
 .omega
 .exact ⟨g,a,rfl⟩
section
variable {ops:Array Oper} {rest:List Oper} {o:Oper} {a:Act} {Q:Exit->Act->World->Prop} {w:World}
theorem aP (e:o.guard=none) (d:TypeId) (x y:Operand) (D:o.op=.store d x y) (g j:Nat) (F:a.eval x=.pointer (some ⟨g,j,none⟩)) (v:Value) (G:a.eval y=v) (n:v.oneCell'=true)
  (t:TypeId) (b:Array Value) (p:w.heap[g]? = some (.cells b t (0,0))) (C:j+1<=b.size) (q:(Tryz.prog.info? d).map (·.size)=some 1) (new:Array Value) (c:new=(b.toList.take j++[v]++b.toList.drop (j+1)).toArray)
  (h:∀w',w'.heap[g]? = some (.cells new t (0,0))->w.grownBy w' (some g)->wpList Tryz.prog ops Q rest (a.put o.dst undef) w'):wpList Tryz.prog ops Q (o::rest) a w :=
 wpList_plain e fun _ A=>by
  have r:=run_storeCells_at (P:=Tryz.prog) g j t [v] 0 b w p (by simpa using C) (fun u z=>by simp at z;subst z;exact n);have B:v.cells=#[v]:=by cases v <;> first | rfl | cases n
  have E:(storeVar d ⟨g,j,none⟩ v).run Tryz.prog w=.ok () (w.setRow g new):=by
   cases k:Tryz.prog.info? d with
   | none=>simp[k]at q
   | some i =>
    have l:i.size=1:=by simpa [k]using q
    simp only[Nat.add_zero,List.length_cons,List.length_nil,Nat.zero_add]at r;rw[c];simp[storeVar,sizeOf,typeInfo,k,B,l,r]
  unfold Oper.wp execOp;simp only[D,F,G,Instr.storeAt,Instr.sureAddr,Sem.run_bind,Sem.run_pure,Result.andThen_ok,E];exact A _ _ (h _ (setRow_heap _ _ _ _ _ _ p) (aw _ _ _))
end
end
section
open Go Go.RowKit
def I64 (n:Int):Prop:=-9223372036854775808<=n/\n<=9223372036854775807
structure Ev where
 (t kind mode keep G3:Int)
 (path data:B8)
structure Fi where
 (mode:Int)
 (data:B8)
 (time:Int)
inductive Ch where
 | put (p:B8) (f:Fi)
 | mv (s d:B8)
 | del (p:B8)
abbrev ae:=List (B8×Fi)
def ltB (a b:B8):Bool:=decide (a<b)
def ax (l:ae) (p:B8):Option Fi:=(l.find? fun e=>e.1==p).map (·.2)
def bu (l:ae) (p:B8):ae:=l.filter fun e=>!(e.1==p)
def dN (x:B8×Fi):ae->ae
 | []=>[x]
 | y::r=>if ltB x.1 y.1 then x::y::r else y::dN x r
def aF (l:ae) (p:B8) (f:Fi):ae:=dN (p,f) (bu l p)
def ap (l:ae):Ch->ae
 | .put p f=>aF l p f
 | .mv s d=>match ax l s with
  | some x=>aF (bu l s) d x
  | none=>l
 | .del p=>bu l p
def aD (d s:B8):Bool:=(d++[47]).isPrefixOf s
def jJ (l:ae) (path a:B8):Bool:=!(l.any fun e=>!(e.1==a) && (aD e.1 path || aD path e.1))
def ej (l:ae):Nat:=(l.map fun e=>e.2.data.length).sum
structure Fs where
 (room:Int)
 (now sure:ae)
 (pend:List Ch)
 (plan:List Ev)
 (calls:Nat)
 (users:List Ev)
 (time:Nat)
 (down:Bool)
def Ch.at (c:Ch) (t:Nat):Ch:=match c with
 | .put p f=>.put p { f with time:=t }
 | c=>c
def gZ (m:Fs) (c:Ch):Fs:={ m with time:=m.time+1,now:=ap m.now (c.at (m.time+1)),pend:=m.pend++[c.at (m.time+1)] }
def iO (path:B8) (mode:Int) (data:B8):Int :=
 if aR path=false then 6 else if mode<1\/3<mode then 1 else if 20000<data.length then 3 else 0
def eO (m:Fs) (path:B8) (mode:Int) (data:B8) (fits:Bool):Fs×Int :=
 if(ax m.now path).isNone/\jJ m.now path []=false then(m,9)else if fits=false then(m,10)else(gZ m (.put path ⟨mode,data,0⟩),0)
def eW (l:ae) (path:B8):Nat:=match ax l path with
 | some f=>f.data.length
 | none=>0
def EI (m:Fs) (path:B8) (n:Nat):Bool:=decide ((n:Int)<=m.room - ej m.now+eW m.now path)
def dh (m:Fs) (path:B8):Fs×Int :=
 if aR path=false then(m,6)else if(ax m.now path).isNone then(m,7)else(gZ m (.del path),0)
def CV (m:Fs):Fs:={ m with down:=false }
def ES (m:Fs) (l:List Ev):Fs:={ m with plan:=l.filter fun e=>decide ((m.calls:Int)<e.t) }
def settle (m:Fs):Fs:={ m with sure:=m.now,pend:=[] }
def dA (m:Fs) (path:B8) (mode:Int) (data:B8):Fs×Int :=
 if m.down then(m,12)else if iO path mode data≠0 then(m,iO path mode data)
 else if(eO m path mode data true).2≠0 then eO m path mode data true
 else({ settle (eO m path mode data true).1 with users:=m.users++[⟨m.calls,4,mode,0,0,path,data⟩] },0)
def dS (m:Fs) (path:B8):Fs×Int :=
 if m.down then(m,12)else if(dh m path).2≠0 then dh m path
 else({ settle (dh m path).1 with users:=m.users++[⟨m.calls,5,0,0,0,path,[]⟩] },0)
def pW (l:ae) (a:Int):Option Ch->ae
 | some (.put p f)=>if 0<=a/\a<f.data.length then ap l (.put p { f with data:=f.data.take a.toNat })else l
 | _=>l
def gQ (m:Fs) (a:Int):Nat:=min a.toNat m.pend.length
def jw (m:Fs) (a b:Int):ae:=pW ((m.pend.take (gQ m a)).foldl ap m.sure) b m.pend[gQ m a]?
def jW (m:Fs) (a b:Int):Fs :=
 if m.down then m else { m with now:=jw m a b,sure:=jw m a b,pend:=[],down:=true }
def lY (n:Nat) (x:Fs×Bool×Bool) (e:Ev):Fs×Bool×Bool :=
 if e.t≠n then x
 else if e.kind=1 then(jW x.1 e.keep e.G3,x.2)
 else if e.kind=2 then(x.1,true,x.2.2)
 else if e.kind=3 then(x.1,x.2.1,true)
 else if e.kind=4 then((dA x.1 e.path e.mode e.data).1,x.2)
 else if e.kind=5 then((dS x.1 e.path).1,x.2)
 else x
def cd (m:Fs):Fs×Bool×Int :=
 let r:=m.plan.foldl (lY (m.calls+1)) ({ m with calls:=m.calls+1 },false,false)
 (r.1,r.2.1,if r.1.down then 12 else if r.2.2 then 11 else 0)
theorem dv (l:ae) (p:B8) (f:Fi):ax (aF l p f) p=some f:=by
 have h:∀r:ae,(∀e∈r,(e.1==p)=false)->(dN (p,f) r).find? (fun e=>e.1==p)=some (p,f):=by
  intro r
  induction r with
  | nil=>intro _;simp[dN]
  | cons y r c =>
   intro b;unfold dN;split
   .simp
   .rw [List.find?_cons,b y (by simp)];exact c (fun e a=>b e (by simp[a]))
 unfold ax aF;rw[h _ (fun e a=>by simpa using(List.mem_filter.1 a).2)];rfl
theorem jK {x e:B8×Fi}:∀ {l:ae},e∈dN x l↔e=x\/e∈l
 | []=>by simp[dN]
 | y::r=>by
  unfold dN;split
  .simp
  .simp only[List.mem_cons,jK (l:=r)];constructor
   .rintro (h | h | h) <;> simp[h]
   .rintro (h | h | h) <;> simp[h]
theorem nG (x:B8×Fi):∀l:ae,(dN x l).length=l.length+1
 | []=>rfl
 | y::r=>by
  unfold dN;split
  .rfl
  .simp [nG x r]
theorem iq (l:ae) (p:B8):(bu l p).length<=l.length:=List.length_filter_le _ _
theorem bL (l:ae) (p:B8) (f:Fi):(aF l p f).length<=l.length+1:=by
 unfold aF;rw[nG];have:=iq l p;omega
theorem lM (l:ae) (c:Ch):(ap l c).length<=l.length+1:=by
 cases c with
 | put p f=>exact bL l p f
 | mv s d =>
  unfold ap;simp only;split
  .rename_i x _;have a:=bL (bu l s) d x;have b:=iq l s;omega
  .omega
 | del p=>have:=iq l p;show(bu l p).length<=_;omega
end
section
open Go Go.RowKit
structure Fr (O:Nat->Prop) (w w':World):Prop where
 os:w'.os=w.os
 tape:w'.tape=w.tape
 output:w'.output=w.output
 size:w.heap.size<=w'.heap.size
 block:∀k,k<w.heap.size->(¬O k\/IsU8 w k)->w'.heap[k]? = w.heap[k]?
def Nw (O:Nat->Prop) (w w':World) (k:Nat):Prop:=O k\/(w.heap.size<=k/\k<w'.heap.size)
theorem Fr.refl (O:Nat->Prop) (w:World):Fr O w w:=⟨rfl,rfl,rfl,Nat.le_refl _,fun _ _ _=>rfl⟩
variable {w w':World} {k:Nat}
theorem IsU8.fr {O:Nat->Prop} (h:Fr O w w') (a:IsU8 w k):IsU8 w' k:=a.same (h.block k a.lt (.inr a))
variable {a c:World}
theorem Fr.trans {O:Nat->Prop} {b:World} (h:Fr O a b) (k:Fr (Nw O a b) b c):Fr O a c :=
 ⟨k.os.trans h.os,k.tape.trans h.tape,k.output.trans h.output,Nat.le_trans h.size k.size,fun i g d=>by
  have j:=h.block i g d;rw[<-j];refine k.block i (Nat.lt_of_lt_of_le g h.size) ?_;rcases d with d | l
  .exact .inl (fun e=>by rcases e with e | e;exact d e;omega)
  .exact .inr (l.fr h)⟩
theorem Fr.mono {O a:Nat->Prop} (h:Fr O w w') (g:∀k,O k->a k):Fr a w w' :=
 ⟨h.os,h.tape,h.output,h.size,fun k d e=>h.block k d (e.imp (fun b c=>b (g k c)) id)⟩
theorem Fr.GX {O:Nat->Prop} (h:Ext w w'):Fr O w w':=⟨h.os,h.tape,h.output,h.size,fun k a _=>h.block k a⟩
theorem Fr.G1 {O:Nat->Prop} {g:Nat} (h:w.grownBy w' (some g)) (c:O g) (e:¬IsU8 w g):Fr O w w' :=
 ⟨h.os,h.tape,h.output,h.size,fun k d b=>h.block k d (by
  rintro a;simp only[Option.some.injEq]at a;subst a;rcases b with b | b
  .exact b c
  .exact e b)⟩
theorem Fr.keep {O:Nat->Prop} (h:Fr O w w'):KeepB w w':=⟨h.size,fun k a=>h.block k a.lt (.inr a)⟩
theorem Fr.row {O:Nat->Prop} (h:Fr O w w') {o:Obj} (a:w.heap[k]? = some o) (b:¬O k):w'.heap[k]? = some o :=
 (h.block k (Array.getElem?_eq_some_iff.1 a).1 (.inl b)).trans a
theorem Nw.mono {O a:Nat->Prop} (h:∀k,O k->a k) (b:Nw O w w' k):Nw a w w' k:=b.imp (h k) id
theorem Nw.old {O:Nat->Prop} (h:O k):Nw O w w' k:=.inl h
theorem Nw.nw {O:Nat->Prop} {b:World} (h:a.heap.size<=b.heap.size) (e:b.heap.size<=c.heap.size) (d:Nw (Nw O a b) b c k):Nw O a c k:=by
 rcases d with(d | d) | d
 .exact .inl d
 .exact .inr ⟨d.1,by omega⟩
 .exact .inr ⟨by omega,d.2⟩
theorem Nw.fst {O:Nat->Prop} {b:World} (e:b.heap.size<=c.heap.size) (d:Nw O a b k):Nw O a c k:=by
 rcases d with d | d
 .exact .inl d
 .exact .inr ⟨d.1,by omega⟩
theorem Ext.Hv {O:Nat->Prop} {b:World} (a:Ext b w) (h:Fr O w w') (e:∀k,O k->b.heap.size<=k):Ext b w' :=
 ⟨h.os.trans a.os,h.tape.trans a.tape,h.output.trans a.output,Nat.le_trans a.size h.size,fun k c=>(h.block k (Nat.lt_of_lt_of_le c a.size) (.inl (fun d=>by have:=e k d;omega))).trans (a.block k c)⟩
def Inn (R:Nat->Prop) (v:Value):Prop:=∀k,v.ownBlock=some k->R k
variable {v:Value}
theorem Inn.mono {R a:Nat->Prop} (h:Inn R v) (c:∀k,R k->a k):Inn a v:=fun k b=>c k (h k b)
theorem Inn.nil (R:Nat->Prop) (n c:Nat):Inn R (.slice none n c):=fun k b=>by simp[Value.ownBlock]at b
structure IsData (R:Nat->Prop) (w:World) (v:Value) (l:B8):Prop where
 bytes:IsBytes w v l
 typed:TypB w v
 Ia:Inn R v
theorem IsData.mono {R a:Nat->Prop} {l:B8} (h:IsData R w v l) (b:∀k,R k->a k):IsData a w v l:=⟨h.bytes,h.typed,h.Ia.mono b⟩
theorem IsData.keep {R:Nat->Prop} {l:B8} (h:IsData R w v l) (k:KeepB w w'):IsData R w' v l:=⟨Row.G' h.bytes h.typed k,h.typed.keep k,h.Ia⟩
theorem IsData.nil (R:Nat->Prop) (w:World):IsData R w (.slice none 0 0) []:=⟨Row.nil _,TypB.nil _ _ _,Inn.nil _ _ _⟩
def KeepR (R:Nat->Prop) (w w':World):Prop:=w.heap.size<=w'.heap.size/\∀k,R k->IsU8 w k->w'.heap[k]? = w.heap[k]?
theorem KeepR.Hq {R:Nat->Prop} (h:KeepB w w'):KeepR R w w':=⟨h.1,fun k _ a=>h.2 k a⟩
theorem KeepR.trans {R:Nat->Prop} {b:World} (h:KeepR R a b) (k:KeepR R b c):KeepR R a c:=⟨Nat.le_trans h.1 k.1,fun i e d=>(k.2 i e (d.same (h.2 i e d))).trans (h.2 i e d)⟩
theorem IsData.Hb {R:Nat->Prop} {l:B8} (h:IsData R w v l) (q:KeepR R w w'):IsData R w' v l:=by
 obtain⟨⟨a,d,rfl,x,y,z,A⟩,r,j⟩:=h;refine⟨⟨a,d,rfl,x,y,z,fun C=>?_⟩,fun t n c g=>?_,j⟩
 .obtain ⟨b,o,rfl,B⟩:=A C;refine⟨b,o,rfl,fun i u D=>?_⟩;have e:=B i u D;rw[World.cell?_of_block (w:=w) (w':=w') (a:=⟨b,o+i,none⟩) (q.2 _ (j b rfl) (r ⟨b,o,none⟩ _ _ rfl))];exact e
 .have p:=r t n c g;simp only[Value.slice.injEq]at g;obtain⟨rfl,-⟩:=g;exact p.same (q.2 _ (j _ rfl) p)
def gM (v:Value):Option (DataW Value×List MemPlace):=some (.held v,[])
abbrev fiV (f:Fi) (v:Value):Value:=.agg #[.int .i64 f.mode,v,.int .i64 f.time]
def dat (b:B8->Value) (l:ae):DataW Value:=.map (l.map fun e=>(.string e.1,.held (fiV e.2 (b e.1))))
def Rising:ae->Prop:=List.Pairwise fun a b=>ltB a.1 b.1=true
structure IsFiles (R:Nat->Prop) (w:World) (b:Nat) (l:ae):Prop where
 G2:Rising l
 short:∀e∈l,e.1.length<=10000000
 map:∃sl:B8->Value,w.ownsMap Tryz.prog 9 gM b l.length (dat sl l)/\∀e∈l,IsData R w (sl e.1) e.2.data
variable {b:Nat} {l:ae}
theorem IsFiles.mono {R a:Nat->Prop} (h:IsFiles R w b l) (n:∀k,R k->a k):IsFiles a w b l:=by
 obtain⟨d,c,o,g,i⟩:=h;exact⟨d,c,o,g,fun e j=>(i e j).mono n⟩
theorem IsFiles.stay {R:Nat->Prop} (h:IsFiles R w b l) (o:w'.heap[b]? = w.heap[b]?) (p:KeepR R w w'):IsFiles R w' b l:=by
 obtain⟨i,g,r,⟨d,a,c,F,q,n⟩,j⟩:=h;exact⟨i,g,r,⟨d,a,o.trans c,F,q,n⟩,fun e c=>(j e c).Hb p⟩
theorem IsFiles.lt {R:Nat->Prop} (h:IsFiles R w b l):b<w.heap.size:=by
 obtain⟨_,_,c,a,_⟩:=h;exact a.lt
theorem IsFiles.Hu {R:Nat->Prop} (h:IsFiles R w b l):¬IsU8 w b:=by
 obtain⟨_,_,j,⟨g,a,d,_⟩,_⟩:=h;rintro⟨e,t,i,c,-⟩;rw[d]at c;cases c
def IsCh (R:Nat->Prop) (w:World) (cs:List Value):Ch->Prop
 | .put p f=>p.length<=10000000/\∃v,cs=[S8 p,S8 [],.bool true,.int .i64 f.mode,v,.int .i64 f.time]/\IsData R w v f.data
 | .mv s d=>s.length<=10000000/\d.length<=10000000/\s≠[]/\cs=[S8 d,S8 s,.bool false,.int .i64 0,.slice none 0 0,.int .i64 0]
 | .del p=>p.length<=10000000/\cs=[S8 p,S8 [],.bool false,.int .i64 0,.slice none 0 0,.int .i64 0]
variable {cs:List Value}
theorem IsCh.mono {R b:Nat->Prop} {c:Ch} (h:IsCh R w cs c) (j:∀k,R k->b k):IsCh b w cs c:=by
 cases c with
 | put p f =>
  obtain⟨e,v,g,i⟩:=h;exact⟨e,v,g,i.mono j⟩
 | mv s d=>exact h
 | del p=>exact h
theorem IsCh.Hb {R:Nat->Prop} {c:Ch} (h:IsCh R w cs c) (i:KeepR R w w'):IsCh R w' cs c:=by
 cases c with
 | put p f =>
  obtain⟨b,v,e,g⟩:=h;exact⟨b,v,e,g.Hb i⟩
 | mv s d=>exact h
 | del p=>exact h
theorem IsCh.length {R:Nat->Prop} {c:Ch} (h:IsCh R w cs c):cs.length=6/\cs.all (·.oneCell')=true:=by
 cases c with
 | put p f =>
  obtain⟨_,v,rfl,b⟩:=h;obtain⟨_,_,rfl,_⟩:=b.bytes;exact⟨rfl,by simp[Value.oneCell']⟩
 | mv s d=>obtain⟨_,_,_,rfl⟩:=h;exact⟨rfl,by simp[Value.oneCell']⟩
 | del p=>obtain⟨_,rfl⟩:=h;exact⟨rfl,by simp[Value.oneCell']⟩
def IsEvR (R:Nat->Prop) (w:World) (cs:List Value) (e:Ev):Prop:=∃d,cs=[.int .i64 e.t,.int .i64 e.kind,.int .i64 e.mode,.int .i64 e.keep,.int .i64 e.G3,S8 e.path,d]/\IsData R w d e.data/\e.path.length<=10000000
variable {e:Ev}
theorem IsEvR.mono {R a:Nat->Prop} (h:IsEvR R w cs e) (g:∀k,R k->a k):IsEvR a w cs e:=by
 obtain⟨v,b,c,d⟩:=h;exact⟨v,b,c.mono g,d⟩
theorem IsEvR.Hb {R:Nat->Prop} (h:IsEvR R w cs e) (d:KeepR R w w'):IsEvR R w' cs e:=by
 obtain⟨v,a,b,c⟩:=h;exact⟨v,a,b.Hb d,c⟩
theorem IsEvR.length {R:Nat->Prop} (h:IsEvR R w cs e):cs.length=7/\cs.all (·.oneCell')=true:=by
 obtain⟨v,rfl,a,_⟩:=h;obtain⟨_,_,rfl,_⟩:=a.bytes;exact⟨rfl,by simp[Value.oneCell']⟩
def Each {α:Type} (p:List Value->α->Prop) (d:List (List Value)) (xs:List α):Prop:=d.length=xs.length/\∀(i:Nat) c x,d[i]? = some c->xs[i]? = some x->p c x
theorem Each.nil {α:Type} (p:List Value->α->Prop):Each p [] []:=⟨rfl,fun i c x a=>by simp at a⟩
variable {css:List (List Value)}
theorem Each.imp {α:Type} {p q:List Value->α->Prop} {xs:List α} (h:Each p css xs) (b:∀c x,p c x->q c x):Each q css xs:=⟨h.1,fun i c x d e=>b c x (h.2 i c x d e)⟩
theorem Each.snoc {α:Type} {p:List Value->α->Prop} {xs:List α} (h:Each p css xs) {c:List Value} {x:α} (q:p c x):Each p (css++[c]) (xs++[x]):=by
 refine⟨by simp[h.1],fun i d y b e=>?_⟩;rw[List.getElem?_append]at b e
 by_cases g:i<css.length
 .rw [if_pos g]at b;rw[if_pos (by rw[<-h.1];exact g)]at e;exact h.2 i d y b e
 .rw [if_neg g]at b;rw[if_neg (by rw[<-h.1];exact g)]at e;have o:=(List.getElem?_eq_some_iff.1 b).1;have k:i - css.length=0:=by simp at o;omega
  have j:i - xs.length=0:=by rw[<-h.1];exact k
  rw[k]at b;rw[j]at e;have l:c=d:=by simpa using b
  have n:x=y:=by simpa using e
  rw[<-l,<-n];exact q
def OwnL {α:Type} (w:World) (t:TypeId) (d:Nat) (p:List Value->α->Prop) (v:Value) (xs:List α):Prop:=∃css:List (List Value),w.ownsRow 0 t d v xs.length css.flatten/\Each p css xs
def ReadL {α:Type} (w:World) (t:TypeId) (p:List Value->α->Prop) (v:Value) (xs:List α):Prop:=∃css:List (List Value),Row w v xs.length css.flatten/\Typed t w v/\Each p css xs
abbrev F1 (h:Int) (j i:Nat) (o n:Value) (d:Nat) (p:Value) (time:Nat) (g:Bool):Array Value:=#[.int .i64 h,.map (some j),.map (some i),o,n,.int .i64 d,p,.int .i64 time,.bool g]
variable {t:TypeId}
theorem ReadL.mono {α:Type} {p q:List Value->α->Prop} {xs:List α} (h:ReadL w t p v xs) (d:∀c x,p c x->q c x):ReadL w t q v xs:=by
 obtain⟨b,e,g,i⟩:=h;exact⟨b,e,g,i.imp d⟩
variable {size:Nat}
theorem OwnL.mono {α:Type} {p q:List Value->α->Prop} {xs:List α} (h:OwnL w t size p v xs) (d:∀c x,p c x->q c x):OwnL w t size q v xs:=by
 obtain⟨b,e,g⟩:=h;exact⟨b,e,g.imp d⟩
theorem OwnL.stay {α:Type} {p:List Value->α->Prop} {xs:List α} (h:OwnL w t size p v xs) (n:∀k,v.ownBlock=some k->w'.heap[k]? = w.heap[k]?):OwnL w' t size p v xs:=by
 obtain⟨b,⟨o,d⟩,e⟩:=h;refine⟨b,⟨o,d.imp id ?_⟩,e⟩;rintro⟨g,a,c,rfl,i,j,l⟩;exact⟨g,a,c,rfl,i,(n g rfl).trans j,l⟩
theorem Row.stay {n:Nat} (h:Row w v n cs) (l:∀k,v.ownBlock=some k->w'.heap[k]? = w.heap[k]?):Row w' v n cs:=by
 obtain⟨a,c,rfl,d,e,g,j⟩:=h;refine⟨a,c,rfl,d,e,g,fun q=>?_⟩;obtain⟨b,o,rfl,p⟩:=j q;refine⟨b,o,rfl,fun i u r=>?_⟩;rw[World.cell?_of_block (w:=w) (w':=w') (a:=⟨b,o+i,none⟩) (l b rfl)];exact p i u r
theorem Typed.stay {e:TypeId} (h:Typed e w v) (i:∀k,v.ownBlock=some k->w'.heap[k]? = w.heap[k]?):Typed e w' v:=fun a n c b=>by
 obtain⟨d,g,j⟩:=h a n c b;subst b;exact⟨d,g,(i a.block rfl).trans j⟩
theorem ReadL.stay {α:Type} {p:List Value->α->Prop} {xs:List α} (h:ReadL w t p v xs) (b:∀k,v.ownBlock=some k->w'.heap[k]? = w.heap[k]?):ReadL w' t p v xs:=by
 obtain⟨a,c,d,e⟩:=h;exact⟨a,c.stay b,d.stay b,e⟩
theorem Inn.of {O a:Nat->Prop} (h:Inn O v) (c:∀k,v.ownBlock=some k->O k->a k):Inn a v:=fun k b=>c k b (h k b)
theorem OwnL.lt {α:Type} {q:List Value->α->Prop} {xs:List α} (h:OwnL w t size q v xs):∀k,v.ownBlock=some k->k<w.heap.size:=by
 obtain⟨a,c,_⟩:=h;exact fun k b=>(c.lt k b).2
theorem OwnL.typed {α:Type} {q:List Value->α->Prop} {xs:List α} (h:OwnL w t size q v xs):∀k,v.ownBlock=some k->∃cs e,w.heap[k]? = some (.cells cs t e):=by
 obtain⟨d,⟨_,i⟩,_⟩:=h;intro k b;rcases i with⟨rfl,_⟩ | ⟨g,c,a,rfl,_,j,_⟩
 .simp [Value.ownBlock]at b
 .have:g=k:=by simpa [Value.ownBlock]using b
  subst this;exact⟨a,(0,0),j⟩
theorem ReadL.typed {α:Type} {p:List Value->α->Prop} {xs:List α} (h:ReadL w t p v xs):∀k,v.ownBlock=some k->∃cs e,w.heap[k]? = some (.cells cs t e):=by
 obtain⟨d,_,g,_⟩:=h;intro k b
 cases v with
 | slice a n c =>
  cases a with
  | none=>simp[Value.ownBlock]at b
  | some a =>
   have:a.block=k:=by simpa [Value.ownBlock]using b
   subst this;exact g a n c rfl
 | _=>simp[Value.ownBlock]at b
theorem IsFiles.kind {R:Nat->Prop} (h:IsFiles R w b l):∃c a,w.heap[b]? = some (.map c a):=by
 obtain⟨_,_,e,⟨c,a,d,_⟩,_⟩:=h;exact⟨c,a,d⟩
theorem nX {cs:Array Value} {fr:Nat×Nat} (h:w.heap[k]? = some (.cells cs t fr)) (b:jB Tryz.prog 5 Tryz.prog.depth t=false):¬IsU8 w k:=by
 rintro⟨c,g,d,a,e⟩;rw[h]at a;simp only[Option.some.injEq,Obj.cells.injEq]at a;rw[a.2.1,e]at b;cases b
def On (O:Nat->Prop) (n:Nat) (k:Nat):Prop:=O k\/n<=k
variable {w1 w2:World}
theorem Fr.step {O:Nat->Prop} {a:Option Nat} (h:Fr O w w1) (c:w1.grownBy w2 a) (g:∀k,a=some k->O k\/w.heap.size<=k) (i:∀k,a=some k->¬IsU8 w1 k):Fr O w w2 :=
 h.trans ⟨c.os,c.tape,c.output,c.size,fun k e d=>c.block k e (fun b=>by
  rcases d with d | d
  .exact d ((g k b.symm).imp id (fun h=>⟨h,e⟩))
  .exact i k b.symm d)⟩
theorem Fr.ext {O:Nat->Prop} (h:Fr O w w1) (a:Ext w1 w2):Fr O w w2:=h.trans (Fr.GX a)
end
section
open Go Go.RowKit
theorem oQ:∀a b:B8,bytesBefore a b=ltB a b
 | [],[]=>by simp[bytesBefore,ltB]
 | [],_::_=>by simp[bytesBefore,ltB]
 | _::_,[]=>by simp[bytesBefore,ltB]
 | a::r,b::s=>by
  rw[bytesBefore,oQ r s];unfold ltB;rw[Bool.eq_iff_iff];simp[List.cons_lt_cons_iff]
theorem iV:Maps.Keyed Tryz.prog 9:=Maps.string_keyed Tryz.underlying9
theorem m8 (p:B8) (h:p.length<=10000000):keyOf Tryz.prog 9 (S8 p)=some (.string p):=by
 have a:p.length<=maxLen:=by unfold maxLen;omega
 simp[keyOf,mapKey,Tryz.underlying9,ByteArray.size,a]
def en (a:B8->Value) (e:B8×Fi):Lit×DataW Value:=(.string e.1,.held (fiV e.2 (a e.1)))
def GU (a:B8->Value) (p:B8) (v:Value):B8->Value:=fun q=>if q=p then v else a q
theorem vh (l:ae) (p:B8):∀e∈bu l p,e.1≠p:=by
 intro e a;have:=(List.mem_filter.1 a).2;simpa using this
variable {l:ae} {p:B8} {f:Fi}
theorem du (h:ax l p=some f):(p,f)∈l:=by
 unfold ax at h;obtain⟨e,a,rfl⟩:=Option.map_eq_some_iff.1 h;have b:=List.mem_of_find?_eq_some a;have c:e.1=p:=by simpa using List.find?_some a
 rw[<-c];exact b
variable {a b:B8}
theorem fB {c:B8} (h:ltB a b=true) (k:ltB b c=true):ltB a c=true:=by
 unfold ltB at *;simp only[decide_eq_true_eq]at *;exact List.lt_trans h k
theorem iJ (h:ltB a b=false) (c:a≠b):ltB b a=true:=by
 unfold ltB at *;simp only[decide_eq_true_eq,decide_eq_false_iff_not]at *;exact Std.lt_of_le_of_ne (List.not_lt.1 h) (Ne.symm c)
theorem iI (h:ltB a b=true):a≠b:=by
 rintro rfl;unfold ltB at h;simp at h;exact absurd h (List.lt_irrefl a)
theorem Rising.del (h:Rising l) (p:B8):Rising (bu l p):=List.Pairwise.filter _ h
theorem Rising.ins {x:B8×Fi}:∀ {l:ae},Rising l->(∀e∈l,e.1≠x.1)->Rising (dN x l)
 | [],_,_=>by simp[dN,Rising]
 | y::l,h,g=>by
  obtain⟨d,i⟩:=List.pairwise_cons.1 h;unfold dN;split
  .rename_i b;exact List.pairwise_cons.2 ⟨fun e a=>by
    rcases List.mem_cons.1 a with rfl | a
    .exact b
    .exact fB b (d e a),h⟩
  .rename_i b;have c:=iJ (by simpa using b) (fun e=>g y (by simp) e.symm);refine List.pairwise_cons.2 ⟨fun e a=>?_,Rising.ins i (fun e a=>g e (by simp[a]))⟩;rcases jK.1 a with rfl | a
   .exact c
   .exact d e a
theorem Rising.put (h:Rising l) (p:B8) (f:Fi):Rising (aF l p f):=Rising.ins (h.del p) (vh l p)
theorem Rising.ap (h:Rising l) (c:Ch):Rising (ap l c):=by
 cases c with
 | put p f=>exact h.put p f
 | mv s d =>
  show Rising (match ax l s with | some x=>aF (bu l s) d x | none=>l);split
  .exact (h.del s).put d _
  .exact h
 | del p=>exact h.del p
theorem cG {e:B8×Fi} (h:e∈aF l p f):e=(p,f)\/(e∈l/\e.1≠p):=by
 rcases jK.1 h with h | h
 .exact .inl h
 .exact .inr ⟨(List.mem_filter.1 h).1,vh l p e h⟩
section
variable {ops:Array Oper} {rest:List Oper} {o:Oper} {a:Act} {Q:Exit->Act->World->Prop} {w:World}
end
end
end Go.Proofs.YtgfegpnmlkdjfaaGreatDoor
