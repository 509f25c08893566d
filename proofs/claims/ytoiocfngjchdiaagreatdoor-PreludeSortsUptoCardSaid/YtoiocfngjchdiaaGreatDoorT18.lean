import Derived.Test.YtoiocfngjchdiaaGreatDoorT11
import Derived.Test.YtoiocfngjchdiaaGreatDoorT12
import Derived.Test.YtoiocfngjchdiaaGreatDoorT13
import Derived.Test.YtoiocfngjchdiaaGreatDoorT14
import Derived.Test.YtoiocfngjchdiaaGreatDoorT15
import Derived.Test.YtoiocfngjchdiaaGreatDoorT16
import Derived.Test.YtoiocfngjchdiaaGreatDoorT17
set_option linter.all false
namespace Go.Proofs.YtoiocfngjchdiaaGreatDoor
open Go.Proofs.YtoiocfngjchdiaaGreatDoor Go.AM Go.RowKit Go.ChangeShapes Go.WideShapes Go.ChangeAt
noncomputable abbrev oh:Array Value:=#[.slice none 0 0]
theorem nS(os:Os){H:Type}(enc:TypeId×Value->H) :
  (Rows.OpenSpec.upto Rows.preludeSortsSpec).preRow enc Tryz.prog Tryz.f5 Rows.preludeSortsUptoRow.domain false Rows.preludeSortsUptoRow.laid ((gR os).forCall (λ_ _=>0) ⟨#[],oh,[]⟩).memory oh:=by
 have hw:(DataW.whole enc Tryz.prog ((gR os).forCall (λ_ _=>0) ⟨#[],oh,[]⟩).memory Tryz.f5.params.toList Rows.preludeSortsSpec.vars false oh.toList 8).map (λx=>(x.1,x.2.1)) =
   some ([.nil],[]):=by kernel_rfl
 obtain⟨⟨x1,x2,a7J⟩,hx,KW⟩:=Aq.1 hw;simp only[Bq] at KW;obtain⟨rfl,rfl⟩:=KW;exact OpenSpec.preRow_of_cond 8 hx (by kernel_rfl) (λk hk=>by cases hk;kernel_rfl) (by kernel_rfl) (a1B os _)
set_option maxRecDepth 100000 in
theorem lifted(os:Os)(started:os.Started)(H:Type)(enc:TypeId×Value->H)(F:Stop.Interp) :
  ReturnsInHanded {} Tryz.checked os 5 .any ((Rows.OpenSpec.upto Rows.preludeSortsSpec).preRow enc Tryz.prog Tryz.f5 Rows.preludeSortsUptoRow.domain false Rows.preludeSortsUptoRow.laid) (((Rows.OpenSpec.upto Rows.preludeSortsSpec).at F).post enc Tryz.prog Tryz.f5 false true false false):=by
 refine returnsInHanded_of_row (C:=Tryz.checked) (s:=Rows.OpenSpec.upto Rows.preludeSortsSpec) Zk started (by kernel_rfl) Tryz.func5
  (witness_row_atRef (enc:=enc) (C:=Tryz.checked) false (gR os) oh rfl (by kernel_rfl) (by kernel_rfl) (by kernel_rfl) (nS os enc)) ?_
 intro W base args ds gs before DV hW _ CI _ hL Rg _;exact a03 H enc W base args ds gs before DV hW (CI _ rfl) hL Rg
set_option maxRecDepth 100000 in
theorem closed:joinedFacts Tryz.prog 5 Tryz.f5 (Rows.OpenSpec.upto Rows.preludeSortsSpec).bare Rows.preludeSortsUptoRow=true:=by
 unfold joinedFacts;simp only[Ac];refine⟨⟨⟨⟨⟨⟨⟨⟨⟨⟨⟨⟨⟨⟨⟨⟨⟨⟨⟨⟨⟨⟨⟨⟨⟨⟨⟨⟨⟨⟨⟨?_,aKx⟩,Z7⟩,?_⟩,?_⟩,?_⟩,?_⟩,?_⟩,?_⟩,zd⟩,Z6⟩,Z8⟩,zc⟩,?_⟩,?_⟩,?_⟩,?_⟩,?_⟩,?_⟩,?_⟩,?_⟩,?_⟩,aKw⟩,?_⟩,zb⟩,y_⟩,aKy⟩,aKz⟩,?_⟩,?_⟩,?_⟩,?_⟩;all_goals kernel_rfl
theorem said:Rows.PreludeSortsUptoSaid :=
 OpenClaim.holds_of_cond 5 Tryz.f5 rfl rfl rfl rfl rfl rfl rfl ⟨rfl,rfl,rfl,rfl,rfl⟩ rfl rfl rfl rfl rfl (by kernel_rfl) Tryz.func5 closed
  (Eu (by kernel_rfl)) (by unfold Func.isWrapper;first|(rw[Br (by decide +kernel)];kernel_rfl)|(rw[Bf (by decide +kernel)];exact⟨rfl,rfl⟩))
  (λos started H enc _ F=>by rw[OpenClaim.pre_eq_preRow];exact lifted os started H enc F)
theorem plain (f:FuncId) (fn:Func) (hf:Tryz.pinned.checked.prog.funcNamed "restitch/restitchlaw26.PreludeSorts"=some f) (HU:Tryz.pinned.checked.prog.funcs[f]?=some fn) :
  true=Tryz.pinned.checked.prog.looks []/\∀(j:Nat) t,fn.params[j]?=some t->Tryz.pinned.checked.prog.wantsStandIn t=false:=by
 obtain rfl:f=5:=Bp ((show Tryz.prog.funcNamed "restitch/restitchlaw26.PreludeSorts"=some 5 by kernel_rfl).symm.trans hf) |>.symm;obtain rfl:fn=Tryz.f5:=(Bp (Tryz.func5.symm.trans HU)).symm;refine⟨by kernel_rfl,λj t ht=>?_⟩;rw[Tryz.params5] at ht
 have:=Ei ht
 simp only[List.mem_toArray,As,Dg,Ep] at this;subst this;exact(show Tryz.prog.wantsStandIn 43=false by kernel_rfl)
theorem card:Rows.PreludeSortsUptoCardSaid :=
 Claim7.holds_tied_plain_at .later [] _ _ _ _ said (λ_ h=>by cases h) (by kernel_rfl) (λ_ h=>by cases h) a0p rfl ⟨rfl,rfl⟩ (by kernel_rfl) rfl plain (by kernel_rfl)
theorem prelude_sorts:Rows.PreludeSortsUptoCardSaid:=card
end Go.Proofs.YtoiocfngjchdiaaGreatDoor
