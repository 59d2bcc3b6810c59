/- Contracts of the program's functions and plain laws behind the card. Conditions: as each theorem states. -/
import Derived.Test.YtfabjgfmiaammaaGreatDoorZar
import Derived.Test.YtfabjgfmiaammaaGreatDoorZas
set_option linter.unusedVariables false
set_option linter.unusedSimpArgs false
set_option linter.unusedSectionVars false
set_option maxRecDepth 100000
set_option maxHeartbeats 64000000
namespace Go.Proofs.YtfabjgfmiaammaaGreatDoor.storePlays
section
open Go Go.ChangeShapes Go.WideShapes Go.ChangeAt Go.RowKit Go.Deep
theorem contract (H:Type) (enc:TypeId×Value->H) (W:World) (k:Nat) (args:Array Value) (w S:List (DataW H)) (b:List MemPlace)
  (a:∀(j:Nat) t v,Tryz.f4.params[j]? = some t->args[j]? = some v->Value.okWide Tryz.prog W .any k t v)
  (T:DataW.Whole enc Tryz.prog Tryz.f4.params.toList Rows.storePlaysSpec.vars false W args.toList w S b)
  (l:(DataW.weightsEach Tryz.prog (Tryz.f4.params.toList++(OpenSpec.ofChange Rows.storePlaysSpec).bare.plain.varTypes Tryz.prog) (w++S)).all (·<=reachBytes)=true)
  (U:laidMetH Tryz.prog Rows.storePlaysRow.laid W) (V:W.ShapedOpen Tryz.prog) :
  Calls Tryz.prog 4 args W fun e X=>∃v,e=.returned v/\Rows.storePlaysSpec.post enc Tryz.prog Tryz.f4 false true false false W args v X:=by
 have g:=T;obtain⟨p,q,n,hV,rfl,ad,au⟩:=T;have i:DataW.TrodAll enc Tryz.prog W 0 (fun _=>true) true Tryz.f4.params.toList args.toList w p:=n;obtain⟨rfl,rfl⟩:=trodVars_none hV;clear n;simp only[List.append_nil]at g;have hE:Env W:=A' V;have y:EnvS W:=AD (by rw[MakeChecks.laidMetH_plain _ _ _ (by kernel_rfl)]at U;exact U) V
 letI:Inhabited bc:=⟨⟨W⟩⟩
 have z:ci=W:=rfl;have A:Ext ci W:=Ext.refl W;have o:=i;have B:∀x∈p,x.block<W.heap.size:=fun x r=>by simpa using g.lt x (by simpa using r)
 rw[Tryz.params4]at i a l;obtain⟨Y,a0,d0,a1,p0,q0,C,D,E,h0,i⟩:=trodAll_cons i;obtain⟨F,a2,d1,a3,p1,q1,G,I,J,h1,i⟩:=trodAll_cons i;obtain⟨K,L,M⟩:=trodAll_nil i;subst K L M;subst J I G;subst E D;obtain rfl:args=#[Y,F]:=by cases args;simp_all
 clear C;have N:=a 0 3 Y rfl rfl;obtain⟨c,rfl,-,-,O⟩:=open_int Tryz.underlying3 N h0;have P:I64 c:=xo O;have Q:=a 1 22 F rfl rfl;obtain⟨os,R,d⟩:=zq (j:=1) z Q h1 l rfl rfl;refine(sK (KW:=⟨⟨fun _=>none,0⟩⟩) (fun _=>rfl) c F os W A hE y R (fun x r=>(d x r).1) (fun x r=>(d x r).2)).mono fun e X ⟨he,Z⟩=>?_
 subst he;have u:=kS tM Z o B (by rw[Tryz.params4];exact fun t ht=>by simp only[List.mem_cons,List.not_mem_nil,or_false]at ht;rcases ht with rfl | rfl <;> exact⟨by kernel_rfl,of_decide_eq_true (by kernel_rfl)⟩);exact⟨_,rfl,_,_,_,[],_,[],g,trodAll_mk1 (shut_bool Tryz.underlying4 _),u,rfl,Z.frame _,fun h=>by cases h⟩
theorem xz (a:Os):laidMetH Tryz.prog Rows.storePlaysRow.laid ((World.laidAll Tryz.prog a Rows.storePlaysRow.laid).forCall (fun _ _=>0) ⟨#[],#[.int .i64 0,.slice none 0 0],[]⟩).memory:=by
 rw[MakeChecks.laidMetH_plain _ _ _ (by kernel_rfl)];exact laidMet_laidAll _ (by kernel_rfl) (by kernel_rfl)
theorem Bd (b:Os) {H:Type} (enc:TypeId×Value->H):∃a,DataW.whole enc Tryz.prog ((World.laidAll Tryz.prog b Rows.storePlaysRow.laid).forCall (fun _ _=>0) ⟨#[],#[.int .i64 0,.slice none 0 0],[]⟩).memory Tryz.f4.params.toList Rows.storePlaysSpec.vars false #[.int .i64 0,.slice none 0 0].toList 8=some ([.lit (.int .i64 0),.nil],[],a) :=
 ⟨[],by kernel_rfl⟩
theorem lifted (c:Os) (a:c.Started) (H:Type) (enc:TypeId×Value->H) (F:Stop.Interp) :
  ReturnsInHanded {} Tryz.checked c 4 .any ((OpenSpec.ofChange Rows.storePlaysSpec).preRow enc Tryz.prog Tryz.f4 Rows.storePlaysRow.domain false Rows.storePlaysRow.laid) (((OpenSpec.ofChange Rows.storePlaysSpec).at F).post enc Tryz.prog Tryz.f4 false true false false):=by
 obtain⟨g,i⟩:=Bd c enc;refine returnsInHanded_of_row (C:=Tryz.checked) (s:=OpenSpec.ofChange Rows.storePlaysSpec) own a (by kernel_rfl) Tryz.func4
  (witness_row_at (enc:=enc) (C:=Tryz.checked) false (World.laidAll Tryz.prog c Rows.storePlaysRow.laid) #[.int .i64 0,.slice none 0 0] (World.laidAll_os _ _ _) (by kernel_rfl) (by kernel_rfl) (by kernel_rfl)
   (OpenSpec.preRow_of_cond 8 i (by kernel_rfl) (fun k j=>by cases j) (by kernel_rfl) (xz c))) ?_
 intro W d args l n b e o _ _ h p q _;exact contract H enc W d args l n b e o h p q
theorem Bu:Rows.storePlaysRow.wf (OpenSpec.ofChange Rows.storePlaysSpec)=true:=by kernel_rfl
theorem Bv:mapsRowed Tryz.prog=true:=by kernel_rfl
theorem Bw:Tryz.f4.params.all (Tryz.prog.readableRec ·)=true:=by kernel_rfl
theorem Bx:Tryz.prog.inPlace 4=Rows.storePlaysRow.inPlace:=by kernel_rfl
theorem By:Tryz.prog.unfollowed 4=Rows.storePlaysRow.unfollowed:=by kernel_rfl
theorem Bz:Tryz.prog.recurses 4=Rows.storePlaysRow.recurses:=by kernel_rfl
theorem BA:Tryz.prog.varsNamed 4=Rows.storePlaysRow.named:=by kernel_rfl
theorem BB:Tryz.prog.plainKeys=Rows.storePlaysRow.plainKeys:=by kernel_rfl
theorem BC:Tryz.prog.stopsHeard=true:=by kernel_rfl
theorem BD:Tryz.prog.mayEnter=true:=by kernel_rfl
theorem BE:Tryz.prog.liftsFinal=Rows.storePlaysRow.lifted:=by kernel_rfl
theorem zE:joinedFacts Tryz.prog 4 Tryz.f4 Rows.storePlaysSpec Rows.storePlaysRow=true:=by
 unfold joinedFacts;rw[Bu,tM,Bv,Bw,Bx,By,Bz,BA,BB,BC,BD,BE];simp only[beq_self_eq_true,Bool.true_and,Bool.and_true]
 kernel_rfl
theorem closed:joinedFacts Tryz.pinned.checked.prog 4 Tryz.f4 (OpenSpec.ofChange Rows.storePlaysSpec).bare Rows.storePlaysRow=true:=zE
theorem AE:Tryz.f4.isInstance Tryz.pinned.checked.prog Rows.storePlaysRow.origin Rows.storePlaysRow.targs:=of_decide_eq_true (by kernel_rfl)
theorem AF:Tryz.f4.isWrapper Tryz.pinned.checked.prog Rows.storePlaysRow.wrapper Rows.storePlaysRow.mainSum:=by unfold Func.isWrapper;first | (rw[if_pos (by decide +kernel)];kernel_rfl) | (rw[if_neg (by decide +kernel)];exact⟨rfl,rfl⟩)
theorem said:Rows.StorePlaysSaid :=
 OpenClaim.holds_of_cond 4 Tryz.f4 rfl rfl rfl rfl rfl rfl rfl ⟨rfl,rfl,rfl,rfl,rfl⟩ rfl rfl rfl rfl rfl (by kernel_rfl) Tryz.func4 closed
  AE AF
  (fun c a H b _ F=>by rw[OpenClaim.pre_eq_preRow];exact lifted c a H b F)
theorem plain (f : FuncId) (a : Func) (e : Tryz.pinned.checked.prog.funcNamed "marline/marlaw7.StorePlays" = some f) (b : Tryz.pinned.checked.prog.funcs[f]? = some a) :
  false=Tryz.pinned.checked.prog.looks []/\∀(j:Nat) t,a.params[j]? = some t->Tryz.pinned.checked.prog.wantsStandIn t=false:=by
 obtain rfl : f = 4 := Option.some.inj ((show Tryz.prog.funcNamed "marline/marlaw7.StorePlays" = some 4 by kernel_rfl).symm.trans e) |>.symm;obtain rfl:a=Tryz.f4:=(Option.some.inj (Tryz.func4.symm.trans b)).symm;refine⟨by kernel_rfl,fun j t c=>?_⟩;rw[Tryz.params4]at c;have d:t∈[3,22]:=by simpa using Array.mem_of_getElem? c
 simp only[List.mem_cons,List.not_mem_nil,or_false]at d;rcases d with rfl | rfl
 .exact (show Tryz.prog.wantsStandIn 3=false by kernel_rfl)
 .exact (show Tryz.prog.wantsStandIn 22=false by kernel_rfl)
theorem card:Rows.StorePlaysCardSaid :=
 Claim7.holds_tied_plain_at .later [] _ _ _ _ said (fun _ h=>by cases h) (by kernel_rfl) (fun _ h=>by cases h) storePlays_row_tie rfl ⟨rfl,rfl⟩ (by kernel_rfl) rfl plain (by kernel_rfl)
end
end Go.Proofs.YtfabjgfmiaammaaGreatDoor.storePlays
