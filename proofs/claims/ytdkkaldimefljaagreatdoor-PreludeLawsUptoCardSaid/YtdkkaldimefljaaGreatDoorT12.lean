import Derived.Test.YtdkkaldimefljaaGreatDoorT05
import Derived.Test.YtdkkaldimefljaaGreatDoorT06
import Derived.Test.YtdkkaldimefljaaGreatDoorT07
import Derived.Test.YtdkkaldimefljaaGreatDoorT08
import Derived.Test.YtdkkaldimefljaaGreatDoorT09
import Derived.Test.YtdkkaldimefljaaGreatDoorT10
import Derived.Test.YtdkkaldimefljaaGreatDoorT11
set_option linter.all false
namespace Go.Proofs.YtdkkaldimefljaaGreatDoor
open Go.Proofs.YtdkkaldimefljaaGreatDoor Go.AM Go.RowKit Go.ChangeShapes Go.WideShapes Go.ChangeAt
noncomputable abbrev wArgs:Array Value:=#[.agg #[.slice none 0 0,.slice none 0 0,.slice none 0 0,.int .i64 0]]
theorem wy(os:Os){H:Type}(enc:TypeId×Value->H) :
  (Rows.OpenSpec.upto Rows.preludeLawsSpec).preRow enc Tryz.prog Tryz.f4 Rows.preludeLawsUptoRow.domain false Rows.preludeLawsUptoRow.laid ((oU os).forCall (λ_ _=>0) ⟨#[],wArgs,[]⟩).memory wArgs:=by
 have hw:(DataW.whole enc Tryz.prog ((oU os).forCall (λ_ _=>0) ⟨#[],wArgs,[]⟩).memory Tryz.f4.params.toList Rows.preludeLawsSpec.vars false wArgs.toList 8).map (λx=>(x.1,x.2.1)) =
   some ([.agg [.nil,.nil,.nil,.lit (.int .i64 0)]],[]):=by kernel_rfl
 obtain⟨⟨x1,x2,x3⟩,hx,Mh⟩:=Al.1 hw;simp only[Bp] at Mh;obtain⟨rfl,rfl⟩:=Mh;exact OpenSpec.preRow_of_cond 8 hx (by kernel_rfl) (λk hk=>by cases hk;kernel_rfl) (by kernel_rfl) (aEQ os _)
set_option maxRecDepth 100000 in
theorem lifted(E:∀B0,Env Tryz.prog ans B0 (@jU A1))(os:Os)(started:os.Started)(H:Type)(enc:TypeId×Value->H)(F:Stop.Interp) :
  ReturnsInHanded {} Tryz.checked os 4 .any ((Rows.OpenSpec.upto Rows.preludeLawsSpec).preRow enc Tryz.prog Tryz.f4 Rows.preludeLawsUptoRow.domain false Rows.preludeLawsUptoRow.laid) (((Rows.OpenSpec.upto Rows.preludeLawsSpec).at F).post enc Tryz.prog Tryz.f4 false true false false):=by
 refine returnsInHanded_of_row (C:=Tryz.checked) (s:=Rows.OpenSpec.upto Rows.preludeLawsSpec) aRs started (by kernel_rfl) Tryz.func4
  (witness_row_atRef (enc:=enc) (C:=Tryz.checked) false (oU os) wArgs rfl (by kernel_rfl) (by kernel_rfl) (by kernel_rfl) (wy os enc)) ?_
 intro W base args ds gs before LH hW _ CD _ hL PN _;exact aD9 E H enc W base args ds gs before LH hW (CD _ rfl) hL PN
set_option maxRecDepth 100000 in
theorem closed:joinedFacts Tryz.prog 4 Tryz.f4 (Rows.OpenSpec.upto Rows.preludeLawsSpec).bare Rows.preludeLawsUptoRow=true:=by
 unfold joinedFacts;simp only[Ac];refine⟨⟨⟨⟨⟨⟨⟨⟨⟨⟨⟨⟨⟨⟨⟨⟨⟨⟨⟨⟨⟨⟨⟨⟨⟨⟨⟨⟨⟨⟨⟨?_,aOM⟩,aRg⟩,?_⟩,?_⟩,?_⟩,?_⟩,?_⟩,?_⟩,aLH⟩,aRh⟩,aRf⟩,aLG⟩,?_⟩,?_⟩,?_⟩,?_⟩,?_⟩,?_⟩,?_⟩,?_⟩,?_⟩,aOL⟩,?_⟩,aLF⟩,aLE⟩,aON⟩,aOO⟩,?_⟩,?_⟩,?_⟩,?_⟩;all_goals kernel_rfl
theorem said(E:∀B0,Env Tryz.prog ans B0 (@jU A1)):Rows.PreludeLawsUptoSaid :=
 OpenClaim.holds_of_cond 4 Tryz.f4 rfl rfl rfl rfl rfl rfl rfl ⟨rfl,rfl,rfl,rfl,rfl⟩ rfl rfl rfl rfl rfl (by kernel_rfl) Tryz.func4 closed
  (Et (by kernel_rfl)) (by unfold Func.isWrapper;first|(rw[Bo (by decide +kernel)];kernel_rfl)|(rw[Ax (by decide +kernel)];exact⟨rfl,rfl⟩))
  (λos started H enc _ F=>by rw[OpenClaim.pre_eq_preRow];exact lifted E os started H enc F)
theorem plain (f:FuncId) (fn:Func) (hf:Tryz.pinned.checked.prog.funcNamed "restitch/restitchlaw26.PreludeLaws"=some f) (GC:Tryz.pinned.checked.prog.funcs[f]?=some fn) :
  true=Tryz.pinned.checked.prog.looks []/\∀(j:Nat) t,fn.params[j]?=some t->Tryz.pinned.checked.prog.wantsStandIn t=false:=by
 obtain rfl:f=4:=Ap ((show Tryz.prog.funcNamed "restitch/restitchlaw26.PreludeLaws"=some 4 by kernel_rfl).symm.trans hf) |>.symm;obtain rfl:fn=Tryz.f4:=(Ap (Tryz.func4.symm.trans GC)).symm;refine⟨by kernel_rfl,λj t ht=>?_⟩;rw[Tryz.params4] at ht
 have:=Gb ht
 simp only[List.mem_toArray,Bb,Ce,Eb] at this;subst this;exact(show Tryz.prog.wantsStandIn 35=false by kernel_rfl)
theorem card(E:∀B0,Env Tryz.prog ans B0 (@jU A1)):Rows.PreludeLawsUptoCardSaid :=
 Claim7.holds_tied_plain_at .later [] _ _ _ _ (said E) (λ_ h=>by cases h) (by kernel_rfl) (λ_ h=>by cases h) aER rfl ⟨rfl,rfl⟩ (by kernel_rfl) rfl plain (by kernel_rfl)
theorem prelude_laws:Rows.PreludeLawsUptoCardSaid:=card aRa
end Go.Proofs.YtdkkaldimefljaaGreatDoor
