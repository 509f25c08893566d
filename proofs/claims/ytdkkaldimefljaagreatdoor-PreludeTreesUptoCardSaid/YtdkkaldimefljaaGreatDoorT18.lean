import Derived.Test.YtdkkaldimefljaaGreatDoorT11
import Derived.Test.YtdkkaldimefljaaGreatDoorT12
import Derived.Test.YtdkkaldimefljaaGreatDoorT13
import Derived.Test.YtdkkaldimefljaaGreatDoorT14
import Derived.Test.YtdkkaldimefljaaGreatDoorT15
import Derived.Test.YtdkkaldimefljaaGreatDoorT16
import Derived.Test.YtdkkaldimefljaaGreatDoorT17
set_option linter.all false
section
namespace Go.Proofs.YtdkkaldimefljaaGreatDoor
open Go.Proofs.YtdkkaldimefljaaGreatDoor Go.AM Go.RowKit Go.ChangeShapes Go.WideShapes Go.ChangeAt
noncomputable abbrev wArgs:Array Value:=#[.slice none 0 0,.int .i64 0]
theorem iv (os:Os) {H:Type} (enc:TypeId×Value→H) :
  (Rows.OpenSpec.upto Rows.preludeTreesSpec).preRow enc Tryz.prog Tryz.f3 Rows.preludeTreesUptoRow.domain false Rows.preludeTreesUptoRow.laid ((mQ os).forCall (fun _ _=>0) ⟨#[],wArgs,[]⟩).memory wArgs:=by
 have hw:(DataW.whole enc Tryz.prog ((mQ os).forCall (fun _ _=>0) ⟨#[],wArgs,[]⟩).memory Tryz.f3.params.toList Rows.preludeTreesSpec.vars false wArgs.toList 8).map (fun x=>(x.1,x.2.1)) =
   some ([.nil,.lit (.int .i64 0)],[]):=by kernel_rfl
 obtain ⟨⟨x1,x2,x3⟩,hx,hx1⟩:=Option.map_eq_some_iff.1 hw;simp only[Prod.mk.injEq] at hx1;obtain ⟨rfl,rfl⟩:=hx1;exact OpenSpec.preRow_of_cond 8 hx (by kernel_rfl) (fun k hk=>by cases hk;kernel_rfl) (by kernel_rfl) (aCA os _)
set_option maxRecDepth 100000 in
theorem lifted (E:∀ B0,Env Tryz.prog ans B0 (@jS A1)) (os:Os) (started:os.Started) (H:Type) (enc:TypeId×Value→H) (F:Stop.Interp) :
  ReturnsInHanded {} Tryz.checked os 3 .any ((Rows.OpenSpec.upto Rows.preludeTreesSpec).preRow enc Tryz.prog Tryz.f3 Rows.preludeTreesUptoRow.domain false Rows.preludeTreesUptoRow.laid) (((Rows.OpenSpec.upto Rows.preludeTreesSpec).at F).post enc Tryz.prog Tryz.f3 false true false false):=by
 refine returnsInHanded_of_row (C:=Tryz.checked) (s:=Rows.OpenSpec.upto Rows.preludeTreesSpec) aNG started (by kernel_rfl) Tryz.func3
  (witness_row_atRef (enc:=enc) (C:=Tryz.checked) false (mQ os) wArgs rfl (by kernel_rfl) (by kernel_rfl) (by kernel_rfl) (iv os enc)) ?_
 intro W base args ds gs before hval hW _ hcond _ hL hsh _;exact aAq E H enc W base args ds gs before hval hW (hcond _ rfl) hL hsh
set_option maxRecDepth 100000 in
theorem closed:joinedFacts Tryz.prog 3 Tryz.f3 (Rows.OpenSpec.upto Rows.preludeTreesSpec).bare Rows.preludeTreesUptoRow=true:=by
 unfold joinedFacts;simp only[Bool.and_eq_true];refine ⟨⟨⟨⟨⟨⟨⟨⟨⟨⟨⟨⟨⟨⟨⟨⟨⟨⟨⟨⟨⟨⟨⟨⟨⟨⟨⟨⟨⟨⟨⟨?_,aJ6⟩,aLH⟩,?_⟩,?_⟩,?_⟩,?_⟩,?_⟩,?_⟩,aHp⟩,aKn⟩,aMN⟩,aHA⟩,?_⟩,?_⟩,?_⟩,?_⟩,?_⟩,?_⟩,?_⟩,?_⟩,?_⟩,aI5⟩,?_⟩,aGw⟩,aHW⟩,aIs⟩,aJJ⟩,?_⟩,?_⟩,?_⟩,?_⟩;all_goals kernel_rfl
theorem said (E:∀ B0,Env Tryz.prog ans B0 (@jS A1)):Rows.PreludeTreesUptoSaid :=
 OpenClaim.holds_of_cond 3 Tryz.f3 rfl rfl rfl rfl rfl rfl rfl ⟨rfl,rfl,rfl,rfl,rfl⟩ rfl rfl rfl rfl rfl (by kernel_rfl) Tryz.func3 closed
  (of_decide_eq_true (by kernel_rfl)) (by unfold Func.isWrapper;first|(rw[if_pos (by decide +kernel)];kernel_rfl)|(rw[if_neg (by decide +kernel)];exact ⟨rfl,rfl⟩))
  (fun os started H enc _ F=>by rw[OpenClaim.pre_eq_preRow];exact lifted E os started H enc F)
theorem plain (f:FuncId) (fn:Func) (hf:Tryz.pinned.checked.prog.funcNamed "restitch/restitchlaw26.PreludeTrees"=some f) (hfn:Tryz.pinned.checked.prog.funcs[f]?=some fn) :
  true=Tryz.pinned.checked.prog.looks []∧∀ (j:Nat) t,fn.params[j]?=some t→Tryz.pinned.checked.prog.wantsStandIn t=false:=by
 obtain rfl:f=3:=Option.some.inj ((show Tryz.prog.funcNamed "restitch/restitchlaw26.PreludeTrees"=some 3 by kernel_rfl).symm.trans hf) |>.symm;obtain rfl:fn=Tryz.f3:=(Option.some.inj (Tryz.func3.symm.trans hfn)).symm;refine ⟨by kernel_rfl,fun j t ht=>?_⟩;rw[Tryz.params3] at ht
 have:=Array.mem_of_getElem? ht
 simp only[List.mem_toArray,List.mem_cons,List.not_mem_nil,or_false] at this;rcases this with rfl|rfl
 ·exact (show Tryz.prog.wantsStandIn 22=false by kernel_rfl)
 ·exact (show Tryz.prog.wantsStandIn 3=false by kernel_rfl)
theorem card (E:∀ B0,Env Tryz.prog ans B0 (@jS A1)):Rows.PreludeTreesUptoCardSaid :=
 Claim7.holds_tied_plain_at .later [] _ _ _ _ (said E) (fun _ h=>by cases h) (by kernel_rfl) (fun _ h=>by cases h) trees_tie rfl ⟨rfl,rfl⟩ (by kernel_rfl) rfl plain (by kernel_rfl)
theorem prelude_trees:Rows.PreludeTreesUptoCardSaid:=card aKD
end Go.Proofs.YtdkkaldimefljaaGreatDoor
end
