import Derived.Test.YtoiocfngjchdiaaGreatDoorT11
import Derived.Test.YtoiocfngjchdiaaGreatDoorT12
import Derived.Test.YtoiocfngjchdiaaGreatDoorT13
import Derived.Test.YtoiocfngjchdiaaGreatDoorT14
import Derived.Test.YtoiocfngjchdiaaGreatDoorT15
import Derived.Test.YtoiocfngjchdiaaGreatDoorT16
import Derived.Test.YtoiocfngjchdiaaGreatDoorT17
set_option linter.all false
namespace Go.Proofs.YtoiocfngjchdiaaGreatDoor
open Go.Proofs.YtoiocfngjchdiaaGreatDoor Go.AM Go.RowKit Go.ChangeShapes Go.WideShapes Go.ChangeAt
noncomputable abbrev wArgs:Array Value:=#[.slice none 0 0,.slice none 0 0,.int .i64 0]
theorem mj(os:Os){H:Type}(enc:TypeId×Value->H) :
  (Rows.OpenSpec.upto Rows.preludeStepsSpec).preRow enc Tryz.prog Tryz.f4 Rows.preludeStepsUptoRow.domain false Rows.preludeStepsUptoRow.laid ((nA os).forCall (λ_ _=>0) ⟨#[],wArgs,[]⟩).memory wArgs:=by
 have hw:(DataW.whole enc Tryz.prog ((nA os).forCall (λ_ _=>0) ⟨#[],wArgs,[]⟩).memory Tryz.f4.params.toList Rows.preludeStepsSpec.vars false wArgs.toList 8).map (λx=>(x.1,x.2.1)) =
   some ([.nil,.nil,.lit (.int .i64 0)],[]):=by kernel_rfl
 obtain⟨⟨x1,x2,x3⟩,hx,Lz⟩:=Ap.1 hw;simp only[Bz] at Lz;obtain⟨rfl,rfl⟩:=Lz;exact OpenSpec.preRow_of_cond 8 hx (by kernel_rfl) (λk hk=>by cases hk;kernel_rfl) (by kernel_rfl) (aC1 os _)
set_option maxRecDepth 100000 in
theorem lifted(E:∀B0,Env Tryz.prog ans B0 (@kD A1))(os:Os)(started:os.Started)(H:Type)(enc:TypeId×Value->H)(F:Stop.Interp) :
  ReturnsInHanded {} Tryz.checked os 4 .any ((Rows.OpenSpec.upto Rows.preludeStepsSpec).preRow enc Tryz.prog Tryz.f4 Rows.preludeStepsUptoRow.domain false Rows.preludeStepsUptoRow.laid) (((Rows.OpenSpec.upto Rows.preludeStepsSpec).at F).post enc Tryz.prog Tryz.f4 false true false false):=by
 refine returnsInHanded_of_row (C:=Tryz.checked) (s:=Rows.OpenSpec.upto Rows.preludeStepsSpec) aYQ started (by kernel_rfl) Tryz.func4
  (witness_row_atRef (enc:=enc) (C:=Tryz.checked) false (nA os) wArgs rfl (by kernel_rfl) (by kernel_rfl) (by kernel_rfl) (mj os enc)) ?_
 intro W base args ds gs before DM hW _ CI _ hL XN _;exact aB6 E H enc W base args ds gs before DM hW (CI _ rfl) hL XN
set_option maxRecDepth 100000 in
theorem closed:joinedFacts Tryz.prog 4 Tryz.f4 (Rows.OpenSpec.upto Rows.preludeStepsSpec).bare Rows.preludeStepsUptoRow=true:=by
 unfold joinedFacts;simp only[Ac];refine⟨⟨⟨⟨⟨⟨⟨⟨⟨⟨⟨⟨⟨⟨⟨⟨⟨⟨⟨⟨⟨⟨⟨⟨⟨⟨⟨⟨⟨⟨⟨?_,aSk⟩,aYC⟩,?_⟩,?_⟩,?_⟩,?_⟩,?_⟩,?_⟩,aMc⟩,aYD⟩,aYB⟩,aMb⟩,?_⟩,?_⟩,?_⟩,?_⟩,?_⟩,?_⟩,?_⟩,?_⟩,?_⟩,aSj⟩,?_⟩,aMa⟩,aL9⟩,aSl⟩,aSm⟩,?_⟩,?_⟩,?_⟩,?_⟩;all_goals kernel_rfl
theorem said(E:∀B0,Env Tryz.prog ans B0 (@kD A1)):Rows.PreludeStepsUptoSaid :=
 OpenClaim.holds_of_cond 4 Tryz.f4 rfl rfl rfl rfl rfl rfl rfl ⟨rfl,rfl,rfl,rfl,rfl⟩ rfl rfl rfl rfl rfl (by kernel_rfl) Tryz.func4 closed
  (Ed (by kernel_rfl)) (by unfold Func.isWrapper;first|(rw[Bu (by decide +kernel)];kernel_rfl)|(rw[Bc (by decide +kernel)];exact⟨rfl,rfl⟩))
  (λos started H enc _ F=>by rw[OpenClaim.pre_eq_preRow];exact lifted E os started H enc F)
theorem plain (f:FuncId) (fn:Func) (hf:Tryz.pinned.checked.prog.funcNamed "restitch/restitchlaw26.PreludeSteps"=some f) (Hh:Tryz.pinned.checked.prog.funcs[f]?=some fn) :
  true=Tryz.pinned.checked.prog.looks []/\∀(j:Nat) t,fn.params[j]?=some t->Tryz.pinned.checked.prog.wantsStandIn t=false:=by
 obtain rfl:f=4:=Bp ((show Tryz.prog.funcNamed "restitch/restitchlaw26.PreludeSteps"=some 4 by kernel_rfl).symm.trans hf) |>.symm;obtain rfl:fn=Tryz.f4:=(Bp (Tryz.func4.symm.trans Hh)).symm;refine⟨by kernel_rfl,λj t ht=>?_⟩;rw[Tryz.params4] at ht
 have:=Gn ht
 simp only[List.mem_toArray,Au,Cz,Eh] at this;rcases this with rfl|rfl|rfl
 ·exact(show Tryz.prog.wantsStandIn 43=false by kernel_rfl)
 ·exact(show Tryz.prog.wantsStandIn 43=false by kernel_rfl)
 ·exact(show Tryz.prog.wantsStandIn 3=false by kernel_rfl)
theorem card(E:∀B0,Env Tryz.prog ans B0 (@kD A1)):Rows.PreludeStepsUptoCardSaid :=
 Claim7.holds_tied_plain_at .later [] _ _ _ _ (said E) (λ_ h=>by cases h) (by kernel_rfl) (λ_ h=>by cases h) aAR rfl ⟨rfl,rfl⟩ (by kernel_rfl) rfl plain (by kernel_rfl)
theorem prelude_steps:Rows.PreludeStepsUptoCardSaid:=card aYx
end Go.Proofs.YtoiocfngjchdiaaGreatDoor
