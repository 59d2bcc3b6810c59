/- Contracts of the program's functions and plain laws behind the card. Conditions: as each theorem states. -/
import Derived.Test.YtfabjgfmiaammaaGreatDoorYaf
import Derived.Laws.LoneSync
set_option linter.unusedVariables false
set_option linter.unusedSimpArgs false
set_option linter.unusedSectionVars false
set_option maxRecDepth 100000
set_option maxHeartbeats 64000000
namespace Go.Proofs.YtfabjgfmiaammaaGreatDoor
section
open Go Go.RowKit
variable {w:World} {g:Nat} {c:Int}
theorem yt (a:w.cell? ⟨g,5,none⟩=some (.int .i64 c)):(callFunc 184 #[.pointer (some ⟨g,5,none⟩)]).run Tryz.prog w=.ok (.value (.int .i64 c)) w :=
 run_call_load (P:=Tryz.prog) Tryz.func184 (by kernel_rfl) (by kernel_rfl) (by kernel_rfl) .i64 (by kernel_rfl) a
theorem yr (a:w.cell? ⟨g,5,none⟩=some (.int .i64 c)) :
  Calls Tryz.prog 126 #[.pointer (some ⟨g,5,none⟩)] w fun e b=>e=.returned (.int .i64 c)/\b=w:=by
 have d:=yt a;go_enter Tryz.func126,Tryz.ntmps126;go_wp2;go_ret;exact⟨rfl,rfl⟩
variable {p:Value} {m:Fs}
theorem pi {S O R:Nat->Prop} (h:IsFs S O R w p m) :
  Calls Tryz.prog 58 #[p] w fun e b=>e=.returned (.int .i64 m.calls)/\b=w:=by
 obtain⟨g,y,x,B,A,C,L,j,rfl,a,z,i,-,-⟩:=h;obtain⟨k,l,n,o,q,d,r,t,u⟩:=ao a;clear a i;go_enter Tryz.func58,Tryz.ntmps58
 go_wp2_with (go_at_call 126;go_must (refine(yr d).mono ?_;rintro e b ⟨rfl,rfl⟩))
 go_ret;exact⟨rfl,rfl⟩
theorem ow {S O R:Nat->Prop} (h:IsFs S O R w p m) :
  Calls Tryz.prog 12 #[p] w fun e B=>e=.returned (.tuple #[])/\FsPost S O R w p (dH m) B:=by
 obtain⟨g,q,o,x,u,y,L,A,rfl,l,r,t,d,j⟩:=h;have i:Hid _:=l;have z:Hid _:=t;obtain⟨C,D,E,F,G,H,I,J,K⟩:=ao l;clear l t;go_enter Tryz.func12,Tryz.ntmps12
 go_wp2_with (refine ag rfl 4 (.tmp 4) _ rfl g 8 rfl (.bool false) rfl rfl _ _ i.out (Nat.le_of_ble_eq_true rfl) em (bc m.room q o x u m.calls y m.time false) (by simp) ?_;intro M n a)
 go_end0
 exact⟨rfl,⟨g,q,o,x,u,y,L,A,rfl,n,.inl r,(z.out.own i.out a).mono (fun k b=>.inl b) (fun k b=>.inl b),d,j⟩,(Fr.refl O w).step a (fun k b=>by cases b;exact .inl r) (by rintro k b;cases b;exact aw i.out (by kernel_rfl))⟩
theorem kR {S O R:Nat->Prop} (h:IsFs S O R w p m) (hl:m.now.length<=10000000) :
  Calls Tryz.prog 158 #[p] w fun e K=>e=.returned (.tuple #[])/\FsPost S O R w p (settle m) K:=by
 obtain⟨g,r,Z,J,t,u,L,H,rfl,B,x,y,o,z⟩:=h;have F:Hid _:=B;have E:Hid _:=y;obtain⟨N,P,Q,T,U,V,W,X,Y⟩:=ao B;have I:=y.now.lt;clear B y;go_enter Tryz.func158,Tryz.ntmps158
 go_wp2_with (first
  | (go_at_call 161;go_must (refine(eO E.out.now (by omega)).mono ?_;rintro e M ⟨⟨n,rfl,D,A⟩,l⟩;have i:=Ext.row l F.out))
  | (refine ag rfl 71 (.tmp 9) (.tmp 7) rfl g 2 rfl (.map (some n)) rfl rfl _ _ i (Nat.le_of_ble_eq_true rfl) fV (bc m.room r n J t m.calls u m.time m.down) (by simp) ?_;intro w3 j b)
  | (refine ag rfl 72 (.tmp 12) _ rfl g 3 rfl (.slice none 0 0) rfl rfl _ _ j (Nat.le_of_ble_eq_true rfl) eT (bc m.room r n (.slice none 0 0) t m.calls u m.time m.down) (by simp) ?_;intro w4 C d))
 go_end0
 have G:Parts S (On O w.heap.size) (On R w.heap.size) M r n (.slice none 0 0) t u m.now m.now [] L m.users:=by
  have q:=(E.out.ext l).mono (O':=On O w.heap.size) (R':=On R w.heap.size) (fun k a=>.inl a) (fun k a=>.inl a);exact⟨by omega,q.om,.inr D,q.now,A.mono (fun k a=>.inl a),⟨[],World.ownsRow_nil _ _ _ _,Each.nil _⟩,Inn.nil _ _ _,q.plan,q.ol,q.users,q.ou,q.off⟩
 refine⟨rfl,IsFs.fit ⟨g,r,n,_,t,u,L,H,rfl,C,.inl x,(G.own i b).own j d,o,z⟩,?_⟩;exact(((Fr.refl O w).ext l).step b (fun k a=>by cases a;exact .inl x) (by rintro k a;cases a;exact aw i (by kernel_rfl))).step d (fun k a=>by cases a;exact .inl x) (by rintro k a;cases a;exact aw j (by kernel_rfl))
theorem jX {S O R:Nat->Prop} (path:B8) (I:Env w) (h:IsFs S O R w p m) (u:OkM m) (ht:m.time<=9000000) (hp:path.length<=1000) :
  Calls Tryz.prog 156 #[p,S8 path] w fun e w'=>e=.returned (.int .i64 (aG m path).2)/\FsPost S O R w p (aG m path).1 w':=by
 have B:Hid (IsFs S O R w p m):=h;have A:Hid _:=I;have hl:=u.B7;have aa:=u.Cn;have t:aG m path=if az path=false then(m,6)else if(aA m.now path).isNone then(m,7)else(does m (.del path),0):=rfl
 have o:Hid _:=t;obtain⟨g,gm,gd,vp,vl,vu,L,c0,rfl,K,hO,J,-,-⟩:=h;have H:Hid _:=K;have G:Hid _:=J.now;clear K J I t u
 cases i:az path with
 | false =>
  have b:aG m path=(m,6):=by rw[o.out,if_pos i]
  have n:Hid _:=b;have r:Hid _:=i;clear b i;go_enter Tryz.func156,Tryz.ntmps156
  go_wp2_with (go_at_call 51;go_must (refine(ee path _ A.out (by omega)).mono ?_;rw[r.out];rintro e M ⟨rfl,a⟩))
  go_ret;rw[n.out];exact⟨rfl,FsPost.same B.out a⟩
 | true =>
  have r:Hid _:=i
  cases l:aA m.now path with
  | none =>
   have b:aG m path=(m,7):=by rw[o.out,if_neg (by simp[i]),if_pos (by rw[l];rfl)]
   have n:Hid _:=b;have q:Hid _:=l;clear b l i;go_enter Tryz.func156,Tryz.ntmps156
   go_wp2_with (go_at_call 51;go_must (refine(ee path _ A.out (by omega)).mono ?_;rw[r.out];rintro e M ⟨rfl,a⟩;obtain⟨N,P,Q,T,U,V,W,X,Y⟩:=ao (Ext.row a H.out);obtain⟨F,j,-,-,z⟩:=(G.out.ext a).Ca path (by omega);obtain rfl:=z q.out;rw[q.out]at j;simp only[Option.isSome_none]at j;clear z))
   go_ret;rw[n.out];exact⟨rfl,FsPost.same B.out (a.trans ((Ext.refl _).alloc _))⟩
  | some f =>
   have b:aG m path=(does m (.del path),0):=by rw[o.out,if_neg (by simp[i]),if_neg (by rw[l];simp)]
   have n:Hid _:=b;have q:Hid _:=l;clear b l i;go_enter Tryz.func156,Tryz.ntmps156
   go_wp2_with (first
    | (go_at_call 51;go_must (refine(ee path _ A.out (by omega)).mono ?_;rw[r.out];rintro e M ⟨rfl,a⟩;obtain⟨N,P,Q,T,U,V,W,X,Y⟩:=ao (Ext.row a H.out);obtain⟨F,j,-,y,-⟩:=(G.out.ext a).Ca path (by omega);obtain⟨sv,rfl,x⟩:=y f q.out;obtain⟨s1,s2,rfl,-⟩:=x.bytes;rw[q.out]at j;simp only[Option.isSome_some]at j;clear y x))
    | (go_at_call 189;go_must (refine(kt (R:=R) path [] (.del path) (IsFs.ext B.out (a.trans ((Ext.refl _).alloc _))) (fun _ _=>⟨by omega,rfl⟩) (fun _=>rfl) (fun s d Z=>by cases Z) (by omega) (by omega) (by omega)).mono ?_;rintro e w3 ⟨rfl,C,E⟩)))
   go_ret;rw[n.out];exact⟨rfl,FsPost.BX (a.trans ((Ext.refl _).alloc _)) ⟨C.mono (fun k D=>D) (fun k D=>D.imp .inl id),E⟩⟩
end
section
open Go Go.RowKit
theorem tD:(Tryz.prog.info? 121).map (fun i=>(i.zero,i.size,i.bytes))=some (some (.agg #[.int .i64 0,.int .i64 0,.int .i64 0,.int .i64 0,.int .i64 0,S8 [],.slice none 0 0]),7,80):=by kernel_rfl
section
variable {ops:Array Oper} {rest:List Oper} {o:Oper} {a:Act} {Q:Exit->Act->World->Prop} {w:World}
theorem vh (r:o.guard=none) (s x:Operand) (F:o.op=.call { callee:=.builtin .append,args:=#[s,x],argTypes:=#[42,42] })
  (d:Nat) (v:Value) (n:Nat) (xs:List Value) (G:a.eval s=v) (j:w.ownsRow d 121 7 v n xs)
  (g c:Nat) (b:List Value) (I:a.eval x=.slice (some ⟨g,0,none⟩) 1 c) (E:b.length=7) {fr:Nat×Nat} (C:w.heap[g]? = some (.cells b.toArray 121 fr)) (q:b.all (·.oneCell')=true)
  (K:n<=100000000) (e:d<=w.heap.size)
  (h:∀l p,p.ownsRow d 121 7 l (n+1) (xs++b)->w.grownBy p v.ownBlock->(∀k,l.ownBlock=some k->v.ownBlock=some k\/w.heap.size<=k)->wpList Tryz.prog ops Q rest (a.put o.dst l) p):wpList Tryz.prog ops Q (o::rest) a w:=by
 obtain⟨J,D,y,z,A⟩:=info_parts tD;exact wpList_append_own_at w r s x _ F d _ J _ 7 80 Tryz.underlying42 D y z A rfl (by omega) v n xs G j ⟨g,0,none⟩ 1 c b I (by simpa using E) (by simpa using cU C) (fun u H=>List.all_eq_true.1 q u H) (by unfold maxLen;omega) (by omega) e
  (fun l p q B _ i=>h l p q B (fun k t=>by
   rcases i with i | i
   .exact .inl (i.symm.trans t)
   .rw [i]at t;simp only[Option.some.injEq]at t;exact .inr (by omega)))
end
theorem wU {m:Fs} {path:B8} {mode:Int} {data:B8} {fits:Bool}:(bu m path mode data fits).1.now.length<=m.now.length+1/\(bu m path mode data fits).1.users=m.users/\(bu m path mode data fits).1.calls=m.calls:=by
 unfold bu;split
 .exact ⟨by simp,rfl,rfl⟩
 .split
  .exact ⟨by simp,rfl,rfl⟩
  .refine ⟨?_,rfl,rfl⟩;simp only[does];exact dV _ _
theorem lK {m:Fs} {path:B8}:(aG m path).1.now.length<=m.now.length+1/\(aG m path).1.users=m.users/\(aG m path).1.calls=m.calls:=by
 unfold aG;split
 .exact ⟨by simp,rfl,rfl⟩
 .split
  .exact ⟨by simp,rfl,rfl⟩
  .refine ⟨?_,rfl,rfl⟩;simp only[does];exact dV _ _
variable {w:World} {m:Fs}
theorem oI {S O R:Nat->Prop} {o q X:World} {g M K H:Nat} {W V E:Value} {C n:ax} {l:List Ch} {L a:List Ev} {h:Nat} {F:Nat} {cs:List Value} {t:List (List Value)} {e:Ev}
  (D:Ext w o) (Y:O g) (r:Parts S O R o M K W V E C n l L a) (he:Each (IsEvR R o) t a) (y:q.ownsRow 0 121 7 (.slice (some ⟨h,0,none⟩) (a.length+1) F) (a.length+1) (t.flatten++cs)) (d:o.grownBy q E.ownBlock)
  (A:∀k,Value.ownBlock (.slice (some ⟨h,0,none⟩) (a.length+1) F)=some k->E.ownBlock=some k\/o.heap.size<=k) {G:Array Value} (u:q.heap[g]? = some (.cells G 79 (0,0))) (j:q.grownBy X (some g))
  (hc:IsEvR (fun k=>w.heap.size<=k) o cs e)
  (Q:X.heap[g]? = some (.cells (bc m.room M K W V m.calls (.slice (some ⟨h,0,none⟩) (a.length+1) F) m.time m.down) 79 (0,0)))
  (i:m.now=C) (Z:m.sure=n) (h3:m.pend=l) (h4:m.users=a++[e]) (U:m.plan=L.filter (fun e=>decide ((H:Int)<e.t))) (P:H<=m.calls/\L.length<=1000):FsPost S O R w (.pointer (some ⟨g,0,none⟩)) m X:=by
 have z:∀k,E.ownBlock=some k->¬IsU8 o k:=fun k b=>by
  obtain⟨I,J,p⟩:=r.users.typed k b;exact aw p (by kernel_rfl)
 have B:∀R:Nat->Prop,KeepR R o q:=fun R=>cw d z
 have T:OwnL q 121 7 (IsEvR (On R w.heap.size) q) (.slice (some ⟨h,0,none⟩) (a.length+1) F) (a++[e]) :=
  OwnL.app he y (fun c x D=>(D.BZ (B _)).mono (fun k b=>.inl b)) ((hc.BZ (B _)).mono (fun k b=>.inr b))
 have N:=(r.mono (O':=On O w.heap.size) (R':=On R w.heap.size) (fun k b=>.inl b) (fun k b=>.inl b)).CB d T (fun k b=>by
  rcases A k b with i | i
  .exact .inl (r.ou k i)
  .exact .inr (Nat.le_trans D.size i)) (fun k b=>by
  rcases A k b with i | i
  .exact r.off k i
  .intro hv;obtain⟨I,J,p⟩:=r.plan.typed k hv;have:=(Array.getElem?_eq_some_iff.1 p).1;omega)
 subst i Z h3;refine⟨IsFs.fit ⟨g,M,K,W,V,_,L,H,rfl,Q,.inl Y,?_,U,P⟩,?_⟩
 .rw [h4];exact N.own u j
 .exact (((Fr.refl O w).ext D).step d (fun k b=>.inl (r.ou k b)) z).step j (fun k b=>by cases b;exact .inl Y) (by rintro k b;cases b;exact aw u (by kernel_rfl))
def Out (O:Nat->Prop) (w:World) (v:Value):Prop:=∀a n c,v=.slice (some a) n c->n≠0->¬O a.block\/IsU8 w a.block
variable {w':World} {v:Value} {l:B8}
theorem IsBytes.fr {O:Nat->Prop} (h:IsBytes w v l) (x:Out O w v) (r:Fr O w w'):IsBytes w' v l:=by
 obtain⟨a,d,rfl,j,k,n,p⟩:=h;refine⟨a,d,rfl,j,k,n,fun e=>?_⟩;have t:l.length≠0:=fun g=>e (by rw[List.eq_nil_of_length_eq_zero g];rfl)
 obtain⟨b,o,rfl,q⟩:=p e;refine⟨b,o,rfl,fun i u y=>?_⟩;have c:=q i u y;rw[World.cell?_of_block (w:=w) (w':=w') (a:=⟨b,o+i,none⟩) (r.block b (World.block_lt_of_cell? _ _ c) (x _ _ _ rfl t))];exact c
theorem IsData.out {O R:Nat->Prop} (h:IsData R w v l):Out O w v:=fun a n c b _=>.inr (h.typed a n c b)
theorem Env.fr {O:Nat->Prop} (h:Env w) (b:Fr O w w') (d:∀k,O k->k≠2):Env w':=by
 obtain⟨m,a⟩:=h;exact⟨m,by rw[World.cell?_of_block (w:=w) (w':=w') (b.block _ (World.block_lt_of_cell? _ _ a) (.inl (fun c=>d _ c rfl)))];exact a⟩
variable {p:Value}
theorem k7 {S O R:Nat->Prop} (path:B8) (mode:Int) (v:Value) (data:B8) (hE:Env w) (h:IsFs S O R w p m) (K:OkM m) (ht:m.time<=9000000) (hp:path.length<=1000) (hv:IsBytes w v data) (c2:data.length<=140737488355328) (U:az path=true->kD m.now path []=et m.now path []) (a':Out O w v) :
  Calls Tryz.prog 103 #[p,S8 path,.int .i64 mode,v] w fun e w'=>e=.returned (.int .i64 (aO m path mode data).2)/\FsPost S O R w p (aO m path mode data).1 w':=by
 have HH:Hid (IsFs S O R w p m):=h;have HE:Hid _:=hE;have HV:Hid _:=hv;have a0:Hid _:=K;have HM:Hid _:=U;have hl:=K.B7;have c7:=K.Cg;have P:aO m path mode data=if m.down then(m,12)else if bE path mode data≠0 then(m,bE path mode data)
  else if(bu m path mode data true).2≠0 then bu m path mode data true
  else({ settle (bu m path mode data true).1 with users:=m.users++[⟨m.calls,4,mode,0,0,path,data⟩] },0):=rfl
 have q:Hid _:=P;obtain⟨a,c,rfl,-⟩:=hv.get;obtain⟨g,gm,gd,vp,vl,vu,L,c0,rfl,hg,hO,hP,-,-⟩:=h;obtain⟨d0,d1,d2,d3,d4,d5,d6,d7,d8⟩:=ao hg;clear hg hP hE P K hv U
 cases y:m.down with
 | true =>
  have d:aO m path mode data=(m,12):=by rw[q.out,y];rfl
  have j:Hid _:=d;rw[y]at d8;clear d y;go_enter Tryz.func103,Tryz.ntmps103;go_wp2;go_ret;rw[j.out];exact⟨rfl,FsPost.same HH.out (Ext.refl _)⟩
 | false =>
  rw[y]at d8;have W:Hid _:=y;clear y;obtain⟨e1,b⟩:∃e1,bE path mode data=e1:=⟨_,rfl⟩;have X:Hid _:=b
  by_cases hz:e1=0
  .subst hz;obtain⟨ad,Q⟩:az path=true/\data.length<=20000:=by
    unfold bE at b;split at b
    .cases b
    .rename_i h1;split at b
     .cases b
     .split at b
      .cases b
      .exact ⟨by simpa using h1,by omega⟩
   have a2:Hid _:=ad;obtain⟨E,e2,z⟩:∃E e2,bu m path mode data true=(E,e2):=⟨_,_,rfl⟩;have au:Hid _:=z;have o:=@wU m path mode data true;rw[z]at o;simp only at o;have bt:Hid _:=o.2.1;have bs:Hid _:=o.2.2;have c8:=o.1
   by_cases M:e2=0
   .subst M;have d:aO m path mode data=({ settle E with users:=m.users++[⟨m.calls,4,mode,0,0,path,data⟩] },0):=by rw[q.out,W.out,b,z];simp
    have j:Hid _:=d;clear d b z o ad;go_enter Tryz.func103,Tryz.ntmps103
    go_wp2_with (first
     | (go_at_call 133;go_must (refine(iz path mode _ data _ HE.out HV.out (by omega)).mono ?_;rw[X.out];rintro e w2 ⟨rfl,i⟩))
     | (go_at_call 134;go_must (refine(gT path mode _ data true (HE.out.ext i) (IsFs.ext HH.out i) a0.out ht hp (IsBytes.ext HV.out i) Q (HM.out a2.out)).mono ?_;rw[au.out];rintro e w3 ⟨rfl,B⟩;have I:Hid _:=B;clear B))
     | (go_at_call 158;go_must (refine(kR I.out.fs (by omega)).mono ?_;rintro e w4 ⟨rfl,a6⟩;have bq:Hid _:=a6;clear a6)))
    have P4:=FsPost.pre i (FsPost.trans I.out bq.out);have a1:Hid _:=P4;have ba:=IsBytes.fr HV.out a' P4.fr;have bx:Hid _:=ba;obtain⟨g4,b9,bS,cu,ct,dl,L4,c4,cn,Y,b',J,V,ca⟩:=P4.fs;cases cn;obtain⟨b0,b1,b2,b3,b4,b5,b6,b7,b8⟩:=ao Y;have cp:(settle E).users=m.users:=bt.out;have cb:(settle E).calls=m.calls:=bs.out;rw[cp]at J;obtain⟨cx,n,r⟩:=J.users;obtain⟨ua,uc,rfl,-⟩:=Row.BV n (by omega);have bv:Hid _:=J;have bo:Hid _:=r;have br:Hid _:=Y;have a3:Hid _:=V;clear P4 ba J r V Y d0 d1 d2 d3 d4 d5 d6 d7 d8 b0 b1 b2 b3 b4 b5 b7 b8;apply cP 13 0 (.pointer (some ⟨g,0,none⟩)) [.pointer (some ⟨g,0,none⟩),_,_,_,_,_,.int .i64 m.calls,_,_,_,undef,undef,undef] [none,none,none,none,none,none,none,none,none,none,some (fun u w'=>IsData (fun k=>w4.heap.size<=k) w' u data),some (fun u w'=>∃G H,u=.agg #[.int .i64 m.calls,.int .i64 4,.int .i64 mode,.int .i64 0,.int .i64 0,S8 path,.slice G data.length H]/\IsData (fun k=>w4.heap.size<=k) w' (.slice G data.length H) data),some (fun u w'=>∃k G H,u=.slice (some ⟨k,0,none⟩) 1 1/\w'.heap[k]? = some (.cells #[.int .i64 m.calls,.int .i64 4,.int .i64 mode,.int .i64 0,.int .i64 0,S8 path,.slice G data.length H] 121 (0,0))/\IsData (fun k=>w4.heap.size<=k) w' (.slice G data.length H) data)] [[],[],[1],[2],[3],[],[5],[],[],[],[9],[6,7,8,10],[11]] (by kernel_rfl) (by kernel_rfl) (by simp[aq])
    .refine ⟨?_,?_,?_,trivial⟩
     .exact fun _ _ _ he hu=>hu.ext he
     .exact fun _ _ _ he ⟨G,H,h1,h2⟩=>⟨G,H,h1,h2.ext he⟩
     .exact fun _ _ _ he ⟨k,G,H,h1,h3,h4⟩=>⟨k,G,H,h1,he.row h3,h4.ext he⟩
    .exact ⟨_,rfl,rfl,fun w=>by go_simp⟩
    .exact fun _=>rfl
    .simp (maxSteps:=1000000)only[List.take_succ_cons,List.take_zero,ay,aE,ab,Act.put,List.setIfInBounds_toArray,List.set_cons_zero,List.set_cons_succ,aN,aS,aq,List.getD_cons_zero,List.getD_cons_succ,and_true,true_and,forall_const];and_intros
     iterate 6 · intro N wq F;intros;rename_i A;have f6:=F.cell b6;go_simp;exact A _ _ (Ext.refl _) rfl
     .intro N wq F t R A;go_simp;exact(pi (IsFs.ext a1.out.fs F)).mono (by rw[cb];rintro e' w7 ⟨rfl,rfl⟩;exact⟨_,rfl,A _ _ (Ext.refl _) rfl⟩)
     iterate 3 · intro N wq F;intros;rename_i A;have f6:=F.cell b6;go_simp;exact A _ _ (Ext.refl _) rfl
     .intro N wq F t R A;go_simp;exact(eL _ data _ (IsBytes.ext bx.out F) (by omega)).mono (by rintro e' w7 ⟨⟨u,rfl,hu⟩,h2⟩;exact⟨_,rfl,A _ _ h2 (hu.mono (fun k t=>Nat.le_trans F.size t.1))⟩)
     .intro N wq F t R A;obtain⟨c3,c5,c6,a9⟩:=t;obtain⟨qa,qc,co,-⟩:=id a9.bytes;go_simp;exact A _ _ (Ext.refl _) ⟨_,_,rfl,co▸a9⟩
     .intro N wq F t R A;obtain⟨G,H,c9,cc⟩:=t;go_simp;exact A _ _ ((Ext.refl _).alloc _) ⟨_,_,_,rfl,ae _ _,cc.ext ((Ext.refl _).alloc _)⟩
    intro N w6 D t;simp only[aU,Nat.zero_add,Nat.reduceAdd,and_true]at t;have c':=t.2.2.2.2.2.2.2.2.2.2.1;have dk:=t.2.2.2.2.2.2.2.2.2.2.2.1;have cs:=t.2.2.2.2.2.2.2.2.2.2.2.2;simp(maxSteps:=1000000)only[List.take_succ_cons,List.take_zero,List.drop_succ_cons,List.drop_zero,ab,Act.put,List.setIfInBounds_toArray,List.set_cons_zero,List.set_cons_succ,Nat.zero_add,Nat.reduceAdd,t];clear t;generalize N 10=dn at *;generalize N 11=dq at *;generalize N 12=ds at *;obtain⟨k6,da,dc,rfl,cm,a5⟩:=cs;have aa:=am n D;have Z:=Ext.row D br.out;have a4:Hid _:=bv.out.ext D;have bl:Hid _:=a5;clear n a5 b6
    go_wp2_with (first
     | (at_builtin;go_must (refine vh rfl _ _ rfl 0 _ m.users.length _ rfl aa k6 1 _ rfl rfl cm (by simp[Value.oneCell']) (by omega) (Nat.zero_le _) ?_;intro v7 w7 C T bb;obtain⟨bh,bk,rfl⟩:=dD C (by omega);have a7:w7.heap[g]? = _:=(T.block g (Array.getElem?_eq_some_iff.1 Z).1 (fun ce=>by obtain⟨cv,c1,bd⟩:=a4.out.users.typed g ce.symm;rw[Z]at bd;simp at bd)).trans Z))
     | (refine ag rfl 42 (.tmp 44) (.tmp 42) rfl g 6 rfl (.slice (some ⟨bh,0,none⟩) (m.users.length+1) bk) rfl rfl _ _ a7 (Nat.le_of_ble_eq_true rfl) nt (bc (settle E).room b9 bS cu ct (settle E).calls (.slice (some ⟨bh,0,none⟩) (m.users.length+1) bk) (settle E).time (settle E).down) (by simp) ?_;intro w8 cl a8))
    refine NoP.intro ?_;go_wp2;go_ret;rw[j.out];refine⟨rfl,a1.out.trans ?_⟩;exact oI (m:={ settle E with users:=m.users++[⟨m.calls,4,mode,0,0,path,data⟩] }) (e:=⟨m.calls,4,mode,0,0,path,data⟩) D b' a4.out (Each.imp bo.out (fun c x hx=>IsEvR.BZ hx (KeepR.B2 (KeepB.BX D)))) C T bb a7 a8 ⟨_,rfl,bl.out,show path.length<=10000000 by omega⟩ cl rfl rfl rfl rfl a3.out ca
   .have d:aO m path mode data=(E,e2):=by rw[q.out,W.out,b,z];simp[M]
    have j:Hid _:=d;have cq:(e2==0)=false:=by simpa using M
    clear d b z o ad M;go_enter Tryz.func103,Tryz.ntmps103
    go_wp2_with (first
     | (go_at_call 133;go_must (refine(iz path mode _ data _ HE.out HV.out (by omega)).mono ?_;rw[X.out];rintro e w2 ⟨rfl,i⟩))
     | (go_at_call 134;go_must (refine(gT path mode _ data true (HE.out.ext i) (IsFs.ext HH.out i) a0.out ht hp (IsBytes.ext HV.out i) Q (HM.out a2.out)).mono ?_;rw[au.out];rintro e w3 ⟨rfl,B⟩;have I:Hid _:=B;clear B)))
    go_ret;rw[j.out];exact⟨rfl,FsPost.pre i I.out⟩
  .have d:aO m path mode data=(m,e1):=by rw[q.out,W.out,b];simp[hz]
   have j:Hid _:=d;have cq:(e1==0)=false:=by simpa using hz
   clear d b hz;go_enter Tryz.func103,Tryz.ntmps103
   go_wp2_with (go_at_call 133;go_must (refine(iz path mode _ data _ HE.out HV.out (by omega)).mono ?_;rw[X.out];rintro e w2 ⟨rfl,i⟩))
   go_ret;rw[j.out];exact⟨rfl,FsPost.same HH.out i⟩
theorem kh {S O R:Nat->Prop} (path:B8) (hE:Env w) (h:IsFs S O R w p m) (C:OkM m) (ht:m.time<=9000000) (hp:path.length<=1000) :
  Calls Tryz.prog 105 #[p,S8 path] w fun e w'=>e=.returned (.int .i64 (aL m path).2)/\FsPost S O R w p (aL m path).1 w':=by
 have HH:Hid (IsFs S O R w p m):=h;have HE:Hid _:=hE;have T:Hid _:=C;have hl:=C.B7;have bx:=C.Cg;have E:aL m path=if m.down then(m,12)else if(aG m path).2≠0 then aG m path
  else({ settle (aG m path).1 with users:=m.users++[⟨m.calls,5,0,0,0,path,[]⟩] },0):=rfl
 have q:Hid _:=E;obtain⟨g,gm,gd,vp,vl,vu,L,c0,rfl,hg,hO,hP,-,-⟩:=h;obtain⟨d0,d1,d2,d3,d4,d5,d6,d7,d8⟩:=ao hg;clear hg hP hE E C
 cases j:m.down with
 | true =>
  have a:aL m path=(m,12):=by rw[q.out,j];rfl
  have o:Hid _:=a;rw[j]at d8;clear a j;go_enter Tryz.func105,Tryz.ntmps105;go_wp2;go_ret;rw[o.out];exact⟨rfl,FsPost.same HH.out (Ext.refl _)⟩
 | false =>
  rw[j]at d8;have P:Hid _:=j;clear j;obtain⟨z,X,n⟩:∃z X,aG m path=(z,X):=⟨_,_,rfl⟩;have Q:Hid _:=n;have d:=@lK m path;rw[n]at d;simp only at d;have a6:Hid _:=d.2.1;have a5:Hid _:=d.2.2;have bS:=d.1
  by_cases D:X=0
  .subst D;have a:aL m path=({ settle z with users:=m.users++[⟨m.calls,5,0,0,0,path,[]⟩] },0):=by rw[q.out,P.out,n];simp
   have o:Hid _:=a;clear a n d;go_enter Tryz.func105,Tryz.ntmps105
   go_wp2_with (first
    | (go_at_call 156;go_must (refine(jX path HE.out HH.out T.out ht hp).mono ?_;rw[Q.out];rintro e w3 ⟨rfl,r⟩;have A:Hid _:=r;clear r))
    | (go_at_call 158;go_must (refine(kR A.out.fs (by omega)).mono ?_;rintro e w4 ⟨rfl,Y⟩;have a3:Hid _:=Y;clear Y)))
   have P4:=FsPost.trans A.out a3.out;have U:Hid _:=P4;obtain⟨g4,a9,a8,br,bq,b',L4,c4,bl,I,a',B,G,ba⟩:=P4.fs;cases bl;obtain⟨b0,b1,b2,b3,b4,b5,b6,b7,b8⟩:=ao I;have bo:(settle z).users=m.users:=a6.out;have bb:(settle z).calls=m.calls:=a5.out;rw[bo]at B;obtain⟨bt,b,i⟩:=B.users;obtain⟨ua,uc,rfl,-⟩:=Row.BV b (by omega);have a7:Hid _:=B;have a2:Hid _:=i;have a4:Hid _:=I;have V:Hid _:=G;clear P4 B i G I d0 d1 d2 d3 d4 d5 d6 d7 d8 b0 b1 b2 b3 b4 b5 b7 b8;apply cP 10 0 (.pointer (some ⟨g,0,none⟩)) [.pointer (some ⟨g,0,none⟩),_,_,_,_,_,.int .i64 m.calls,_,.agg #[.int .i64 m.calls,.int .i64 5,.int .i64 0,.int .i64 0,.int .i64 0,S8 path,.slice none 0 0],undef] [none,none,none,none,none,none,none,none,none,some (fun u w'=>∃k,u=.slice (some ⟨k,0,none⟩) 1 1/\w'.heap[k]? = some (.cells #[.int .i64 m.calls,.int .i64 5,.int .i64 0,.int .i64 0,.int .i64 0,S8 path,.slice none 0 0] 121 (0,0)))] [[],[],[1],[2],[3],[],[5],[],[6,7],[8]] (by kernel_rfl) (by kernel_rfl) (by simp[aq])
   .refine ⟨?_,trivial⟩
    .exact fun _ _ _ he ⟨k,h1,h3⟩=>⟨k,h1,he.row h3⟩
   .exact ⟨_,rfl,rfl,fun w=>by go_simp⟩
   .exact fun _=>rfl
   .simp (maxSteps:=1000000)only[List.take_succ_cons,List.take_zero,ay,aE,ab,Act.put,List.setIfInBounds_toArray,List.set_cons_zero,List.set_cons_succ,aN,aS,aq,List.getD_cons_zero,List.getD_cons_succ,and_true,true_and,forall_const];and_intros
    iterate 6 · intro xs wq N;intros;rename_i H;have f6:=N.cell b6;go_simp;exact H _ _ (Ext.refl _) rfl
    .intro xs wq N M R H;go_simp;exact(pi (IsFs.ext U.out.fs N)).mono (by rw[bb];rintro e' w7 ⟨rfl,rfl⟩;exact⟨_,rfl,H _ _ (Ext.refl _) rfl⟩)
    iterate 2 · intro xs wq N;intros;rename_i H;have f6:=N.cell b6;go_simp;exact H _ _ (Ext.refl _) rfl
    .intro xs wq N M R H;go_simp;exact H _ _ ((Ext.refl _).alloc _) ⟨_,rfl,ae _ _⟩
   intro xs w6 y M;simp only[aU,Nat.zero_add,Nat.reduceAdd,and_true]at M;have q9:=M.2.2.2.2.2.2.2.2.2;simp(maxSteps:=1000000)only[List.take_succ_cons,List.take_zero,List.drop_succ_cons,List.drop_zero,ab,Act.put,List.setIfInBounds_toArray,List.set_cons_zero,List.set_cons_succ,Nat.zero_add,Nat.reduceAdd,M];clear M;generalize xs 9=x9 at *;obtain⟨k6,rfl,bk⟩:=q9;have K:=am b y;have J:=Ext.row y a4.out;have W:Hid _:=a7.out.ext y;clear b b6
   go_wp2_with (first
    | (at_builtin;go_must (refine vh rfl _ _ rfl 0 _ m.users.length _ rfl K k6 1 _ rfl rfl bk (by simp[Value.oneCell']) (by omega) (Nat.zero_le _) ?_;intro v7 w7 t F ad;obtain⟨a0,a1,rfl⟩:=dD t (by omega);have Z:w7.heap[g]? = _:=(F.block g (Array.getElem?_eq_some_iff.1 J).1 (fun bd=>by obtain⟨bs,bv,au⟩:=W.out.users.typed g bd.symm;rw[J]at au;simp at au)).trans J))
    | (refine ag rfl 42 (.tmp 29) (.tmp 27) rfl g 6 rfl (.slice (some ⟨a0,0,none⟩) (m.users.length+1) a1) rfl rfl _ _ Z (Nat.le_of_ble_eq_true rfl) nt (bc (settle z).room a9 a8 br bq (settle z).calls (.slice (some ⟨a0,0,none⟩) (m.users.length+1) a1) (settle z).time (settle z).down) (by simp) ?_;intro w8 bh aa))
   refine NoP.intro ?_;go_wp2;go_ret;rw[o.out];refine⟨rfl,U.out.trans ?_⟩;exact oI (m:={ settle z with users:=m.users++[⟨m.calls,5,0,0,0,path,[]⟩] }) (e:=⟨m.calls,5,0,0,0,path,[]⟩) y a' W.out (Each.imp a2.out (fun c x hx=>IsEvR.BZ hx (KeepR.B2 (KeepB.BX y)))) t F ad Z aa ⟨_,rfl,IsData.nil _ _,show path.length<=10000000 by omega⟩ bh rfl rfl rfl rfl V.out ba
  .have a:aL m path=(z,X):=by rw[q.out,P.out,n];simp[D]
   have o:Hid _:=a;have b9:(X==0)=false:=by simpa using D
   clear a n d D;go_enter Tryz.func105,Tryz.ntmps105
   go_wp2_with (go_at_call 156;go_must (refine(jX path HE.out HH.out T.out ht hp).mono ?_;rw[Q.out];rintro e w3 ⟨rfl,r⟩;have A:Hid _:=r;clear r))
   go_ret;rw[o.out];exact⟨rfl,A.out⟩
end
end Go.Proofs.YtfabjgfmiaammaaGreatDoor
