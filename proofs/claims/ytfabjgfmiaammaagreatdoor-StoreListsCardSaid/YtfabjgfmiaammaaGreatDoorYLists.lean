/- Contracts of the program's functions and plain laws behind the card. Conditions: as each theorem states. -/
import Derived.Test.YtfabjgfmiaammaaGreatDoorYbu
import Derived.Test.YtfabjgfmiaammaaGreatDoorYbp
import Derived.Test.YtfabjgfmiaammaaGreatDoorYbr
set_option linter.unusedVariables false
set_option linter.unusedSimpArgs false
set_option linter.unusedSectionVars false
set_option maxRecDepth 100000
set_option maxHeartbeats 64000000
namespace Go.Proofs.YtfabjgfmiaammaaGreatDoor.storeLists
section
open Go Go.ChangeShapes Go.WideShapes Go.ChangeAt Go.RowKit Go.Deep
theorem contract (H:Type) (enc:TypeId×Value->H) (W:World) (g:Nat) (args:Array Value) (u M:List (DataW H)) (a:List MemPlace)
  (c:∀(j:Nat) t v,Tryz.f3.params[j]? = some t->args[j]? = some v->Value.okWide Tryz.prog W .any g t v)
  (P:DataW.Whole enc Tryz.prog Tryz.f3.params.toList Rows.storeListsSpec.vars false W args.toList u M a)
  (o:(DataW.weightsEach Tryz.prog (Tryz.f3.params.toList++(OpenSpec.ofChange Rows.storeListsSpec).bare.plain.varTypes Tryz.prog) (u++M)).all (·<=reachBytes)=true)
  (N:laidMetH Tryz.prog Rows.storeListsRow.laid W) (O:W.ShapedOpen Tryz.prog) :
  Calls Tryz.prog 3 args W fun e L=>∃v,e=.returned v/\Rows.storeListsSpec.post enc Tryz.prog Tryz.f3 false true false false W args v L:=by
 have d:=P;obtain⟨p,q,k,V,rfl,Y,Z⟩:=P;have i:DataW.TrodAll enc Tryz.prog W 0 (fun _=>true) true Tryz.f3.params.toList args.toList u p:=k;obtain⟨rfl,rfl⟩:=trodVars_none V;clear k;simp only[List.append_nil]at d;have U:Env W:=AU O;have z:EnvS W:=Ab (by rw[MakeChecks.laidMetH_plain _ _ _ (by kernel_rfl)]at N;exact N) O
 letI:Inhabited bf:=⟨⟨W⟩⟩
 have y:cy=W:=rfl;have w:Ext cy W:=Ext.refl W;have l:=i;have C:∀x∈p,x.block<W.heap.size:=fun x r=>by simpa using d.lt x (by simpa using r)
 rw[Tryz.params3]at i c o;obtain⟨K,aa,d0,S,p0,q0,A,B,I,T,i⟩:=trodAll_cons i;obtain⟨D,E,F⟩:=trodAll_nil i;subst D E F;subst I B;obtain rfl:args=#[K]:=by cases args;simp_all
 clear A;have J:=c 0 22 K rfl rfl;obtain⟨os,G,b⟩:=xN (j:=0) y J T o rfl rfl;refine((sJ (KW:=⟨⟨fun _=>none,0⟩⟩) (fun _=>rfl) K os W w U z G (fun x r=>(b x r).1) (fun x r=>(b x r).2))).mono fun e L ⟨X,Q⟩=>?_
 subst X;have n:=kZ tG Q l C (by rw[Tryz.params3];exact fun t R=>by simp only[List.mem_cons,List.not_mem_nil,or_false]at R;rcases R with rfl <;> exact⟨by kernel_rfl,of_decide_eq_true (by kernel_rfl)⟩);exact⟨_,rfl,_,_,_,[],_,[],d,trodAll_mk1 (shut_bool Tryz.underlying4 _),n,rfl,Q.frame _,fun h=>by cases h⟩
theorem yp (a:Os):laidMetH Tryz.prog Rows.storeListsRow.laid ((World.laidAll Tryz.prog a Rows.storeListsRow.laid).forCall (fun _ _=>0) ⟨#[],#[.slice none 0 0],[]⟩).memory:=by
 rw[MakeChecks.laidMetH_plain _ _ _ (by kernel_rfl)];exact laidMet_laidAll _ (by kernel_rfl) (by kernel_rfl)
theorem Bn (b:Os) {H:Type} (enc:TypeId×Value->H):∃a,DataW.whole enc Tryz.prog ((World.laidAll Tryz.prog b Rows.storeListsRow.laid).forCall (fun _ _=>0) ⟨#[],#[.slice none 0 0],[]⟩).memory Tryz.f3.params.toList Rows.storeListsSpec.vars false #[.slice none 0 0].toList 8=some ([.nil],[],a) :=
 ⟨[],by kernel_rfl⟩
theorem lifted (e:Os) (a:e.Started) (H:Type) (enc:TypeId×Value->H) (F:Stop.Interp) :
  ReturnsInHanded {} Tryz.checked e 3 .any ((OpenSpec.ofChange Rows.storeListsSpec).preRow enc Tryz.prog Tryz.f3 Rows.storeListsRow.domain false Rows.storeListsRow.laid) (((OpenSpec.ofChange Rows.storeListsSpec).at F).post enc Tryz.prog Tryz.f3 false true false false):=by
 obtain⟨g,q⟩:=Bn e enc;refine returnsInHanded_of_row (C:=Tryz.checked) (s:=OpenSpec.ofChange Rows.storeListsSpec) own a (by kernel_rfl) Tryz.func3
  (witness_row_at (enc:=enc) (C:=Tryz.checked) false (World.laidAll Tryz.prog e Rows.storeListsRow.laid) #[.slice none 0 0] (World.laidAll_os _ _ _) (by kernel_rfl) (by kernel_rfl) (by kernel_rfl)
   (OpenSpec.preRow_of_cond 8 q (by kernel_rfl) (fun k p=>by cases p) (by kernel_rfl) (yp e))) ?_
 intro W c args i j b d o _ _ h l n _;exact contract H enc W c args i j b d o h l n
theorem BM:Rows.storeListsRow.wf (OpenSpec.ofChange Rows.storeListsSpec)=true:=by kernel_rfl
theorem BF:mapsRowed Tryz.prog=true:=by kernel_rfl
theorem BI:Tryz.f3.params.all (Tryz.prog.readableRec ·)=true:=by kernel_rfl
theorem BC:Tryz.prog.inPlace 3=Rows.storeListsRow.inPlace:=by kernel_rfl
theorem BK:Tryz.prog.unfollowed 3=Rows.storeListsRow.unfollowed:=by kernel_rfl
theorem BH:Tryz.prog.recurses 3=Rows.storeListsRow.recurses:=by kernel_rfl
theorem BL:Tryz.prog.varsNamed 3=Rows.storeListsRow.named:=by kernel_rfl
theorem BG:Tryz.prog.plainKeys=Rows.storeListsRow.plainKeys:=by kernel_rfl
theorem BJ:Tryz.prog.stopsHeard=true:=by kernel_rfl
theorem BE:Tryz.prog.mayEnter=true:=by kernel_rfl
theorem BD:Tryz.prog.liftsFinal=Rows.storeListsRow.lifted:=by kernel_rfl
theorem zU:joinedFacts Tryz.prog 3 Tryz.f3 Rows.storeListsSpec Rows.storeListsRow=true:=by
 unfold joinedFacts;rw[BM,tG,BF,BI,BC,BK,BH,BL,BG,BJ,BE,BD];simp only[beq_self_eq_true,Bool.true_and,Bool.and_true]
 kernel_rfl
theorem closed:joinedFacts Tryz.pinned.checked.prog 3 Tryz.f3 (OpenSpec.ofChange Rows.storeListsSpec).bare Rows.storeListsRow=true:=zU
theorem AX:Tryz.f3.isInstance Tryz.pinned.checked.prog Rows.storeListsRow.origin Rows.storeListsRow.targs:=of_decide_eq_true (by kernel_rfl)
theorem AY:Tryz.f3.isWrapper Tryz.pinned.checked.prog Rows.storeListsRow.wrapper Rows.storeListsRow.mainSum:=by unfold Func.isWrapper;first | (rw[if_pos (by decide +kernel)];kernel_rfl) | (rw[if_neg (by decide +kernel)];exact⟨rfl,rfl⟩)
theorem said:Rows.StoreListsSaid :=
 OpenClaim.holds_of_cond 3 Tryz.f3 rfl rfl rfl rfl rfl rfl rfl ⟨rfl,rfl,rfl,rfl,rfl⟩ rfl rfl rfl rfl rfl (by kernel_rfl) Tryz.func3 closed
  AX AY
  (fun c a H b _ F=>by rw[OpenClaim.pre_eq_preRow];exact lifted c a H b F)
theorem plain (f : FuncId) (a : Func) (e : Tryz.pinned.checked.prog.funcNamed "marline/marlaw7.StoreLists" = some f) (b : Tryz.pinned.checked.prog.funcs[f]? = some a) :
  false=Tryz.pinned.checked.prog.looks []/\∀(j:Nat) t,a.params[j]? = some t->Tryz.pinned.checked.prog.wantsStandIn t=false:=by
 obtain rfl : f = 3 := Option.some.inj ((show Tryz.prog.funcNamed "marline/marlaw7.StoreLists" = some 3 by kernel_rfl).symm.trans e) |>.symm;obtain rfl:a=Tryz.f3:=(Option.some.inj (Tryz.func3.symm.trans b)).symm;refine⟨by kernel_rfl,fun j t d=>?_⟩;rw[Tryz.params3]at d;have c:t∈[22]:=by simpa using Array.mem_of_getElem? d
 simp only[List.mem_cons,List.not_mem_nil,or_false]at c;rcases c with rfl
 .exact (show Tryz.prog.wantsStandIn 22=false by kernel_rfl)
theorem card:Rows.StoreListsCardSaid :=
 Claim7.holds_tied_plain_at .later [] _ _ _ _ said (fun _ h=>by cases h) (by kernel_rfl) (fun _ h=>by cases h) storeLists_row_tie rfl ⟨rfl,rfl⟩ (by kernel_rfl) rfl plain (by kernel_rfl)
end
end Go.Proofs.YtfabjgfmiaammaaGreatDoor.storeLists
