import Derived.Test.YtdkkaldimefljaaGreatDoorX41
import Derived.Test.YtdkkaldimefljaaGreatDoorX35
import Derived.Test.YtdkkaldimefljaaGreatDoorX36
import Derived.Test.YtdkkaldimefljaaGreatDoorX37
import Derived.Test.YtdkkaldimefljaaGreatDoorX38
import Derived.Test.YtdkkaldimefljaaGreatDoorX39
import Derived.Test.YtdkkaldimefljaaGreatDoorX40
set_option linter.all false
section
namespace Go.Proofs.YtdkkaldimefljaaGreatDoor
open Go.Proofs.YtdkkaldimefljaaGreatDoor Go.AM Go.RowKit Go.ChangeShapes Go.WideShapes Go.ChangeAt
noncomputable abbrev wArgs : Array Value := #[.slice none 0 0, .agg #[.string ⟨#[]⟩, .int .i64 0, .slice none 0 0]]
theorem witness_row (os : Os) {H : Type} (enc : TypeId × Value → H) :
    (Rows.OpenSpec.upto Rows.preludeListsSpec).preRow enc Tryz.prog Tryz.f5 Rows.preludeListsUptoRow.domain false Rows.preludeListsUptoRow.laid ((laidWorld os).forCall (fun _ _ => 0) ⟨#[], wArgs, []⟩).memory wArgs := by
  have hw : (DataW.whole enc Tryz.prog ((laidWorld os).forCall (fun _ _ => 0) ⟨#[], wArgs, []⟩).memory Tryz.f5.params.toList Rows.preludeListsSpec.vars false wArgs.toList 8).map (fun x => (x.1, x.2.1)) =
      some ([.nil, .agg [.lit (.string []), .lit (.int .i64 0), .nil]], []) := by kernel_rfl
  obtain ⟨⟨x1, x2, x3⟩, hx, hx1⟩ := Option.map_eq_some_iff.1 hw
  simp only [Prod.mk.injEq] at hx1
  obtain ⟨rfl, rfl⟩ := hx1
  exact OpenSpec.preRow_of_cond 8 hx (by kernel_rfl) (fun k hk => by cases hk; kernel_rfl) (by kernel_rfl) (laid_met os _)
set_option maxRecDepth 100000 in
theorem lifted (E : ∀ B0, Env Tryz.prog ans B0 prims) (os : Os) (started : os.Started) (H : Type) (enc : TypeId × Value → H) (F : Stop.Interp) :
    ReturnsInHanded {} Tryz.checked os 5 .any ((Rows.OpenSpec.upto Rows.preludeListsSpec).preRow enc Tryz.prog Tryz.f5 Rows.preludeListsUptoRow.domain false Rows.preludeListsUptoRow.laid) (((Rows.OpenSpec.upto Rows.preludeListsSpec).at F).post enc Tryz.prog Tryz.f5 false true false false) := by
  refine returnsInHanded_of_row (C := Tryz.checked) (s := Rows.OpenSpec.upto Rows.preludeListsSpec) ownK started (by kernel_rfl) Tryz.func5
    (witness_row_atRef (enc := enc) (C := Tryz.checked) false (laidWorld os) wArgs rfl (by kernel_rfl) (by kernel_rfl) (by kernel_rfl) (witness_row os enc)) ?_
  intro W base args ds gs before hval hW _ hcond _ hL hsh _
  exact contract E H enc W base args ds gs before hval hW (hcond _ rfl) hL hsh
set_option maxRecDepth 100000 in
theorem closed : joinedFacts Tryz.prog 5 Tryz.f5 (Rows.OpenSpec.upto Rows.preludeListsSpec).bare Rows.preludeListsUptoRow = true := by
  unfold joinedFacts
  simp only [Bool.and_eq_true]
  refine ⟨⟨⟨⟨⟨⟨⟨⟨⟨⟨⟨⟨⟨⟨⟨⟨⟨⟨⟨⟨⟨⟨⟨⟨⟨⟨⟨⟨⟨⟨⟨?_, jLaid⟩, jRow⟩, ?_⟩, ?_⟩, ?_⟩, ?_⟩, ?_⟩, ?_⟩, jPlace⟩, jUnf⟩, jRec⟩, jNamed⟩, ?_⟩, ?_⟩, ?_⟩, ?_⟩, ?_⟩, ?_⟩, ?_⟩, ?_⟩, ?_⟩, jKeys⟩, ?_⟩, jHeard⟩, jEnter⟩, jLift⟩, jMake⟩, ?_⟩, ?_⟩, ?_⟩, ?_⟩
  all_goals kernel_rfl
theorem said (E : ∀ B0, Env Tryz.prog ans B0 prims) : Rows.PreludeListsUptoSaid :=
  OpenClaim.holds_of_cond 5 Tryz.f5 rfl rfl rfl rfl rfl rfl rfl ⟨rfl, rfl, rfl, rfl, rfl⟩ rfl rfl rfl rfl rfl (by kernel_rfl) Tryz.func5 closed
    (of_decide_eq_true (by kernel_rfl)) (by unfold Func.isWrapper; first | (rw [if_pos (by decide +kernel)]; kernel_rfl) | (rw [if_neg (by decide +kernel)]; exact ⟨rfl, rfl⟩))
    (fun os started H enc _ F => by rw [OpenClaim.pre_eq_preRow]; exact lifted E os started H enc F)
theorem plain (f : FuncId) (fn : Func) (hf : Tryz.pinned.checked.prog.funcNamed "restitch/restitchlaw26.PreludeLists" = some f) (hfn : Tryz.pinned.checked.prog.funcs[f]? = some fn) :
    true = Tryz.pinned.checked.prog.looks [] ∧ ∀ (j : Nat) t, fn.params[j]? = some t → Tryz.pinned.checked.prog.wantsStandIn t = false := by
  obtain rfl : f = 5 := Option.some.inj ((show Tryz.prog.funcNamed "restitch/restitchlaw26.PreludeLists" = some 5 by kernel_rfl).symm.trans hf) |>.symm
  obtain rfl : fn = Tryz.f5 := (Option.some.inj (Tryz.func5.symm.trans hfn)).symm
  refine ⟨by kernel_rfl, fun j t ht => ?_⟩
  rw [Tryz.params5] at ht
  have := Array.mem_of_getElem? ht
  simp only [List.mem_toArray, List.mem_cons, List.not_mem_nil, or_false] at this
  rcases this with rfl | rfl
  · exact (show Tryz.prog.wantsStandIn 25 = false by kernel_rfl)
  · exact (show Tryz.prog.wantsStandIn 27 = false by kernel_rfl)
theorem card (E : ∀ B0, Env Tryz.prog ans B0 prims) : Rows.PreludeListsUptoCardSaid :=
  Claim7.holds_tied_plain_at .later [] _ _ _ _ (said E) (fun _ h => by cases h) (by kernel_rfl) (fun _ h => by cases h) preludeListsUpto_row_tie rfl ⟨rfl, rfl⟩ (by kernel_rfl) rfl plain (by kernel_rfl)
theorem prelude_lists : Rows.PreludeListsUptoCardSaid := card env
end Go.Proofs.YtdkkaldimefljaaGreatDoor
end
