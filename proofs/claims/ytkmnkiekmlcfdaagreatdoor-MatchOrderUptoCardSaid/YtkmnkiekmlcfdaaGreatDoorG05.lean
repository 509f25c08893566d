/- The function MatchOrder of the program returns true whenever it is called with arguments that the given statement MatchOrderUptoCardSaid describes.
Conditions: those that the statement itself names (a started world, arguments laid as its row says and no larger than its row says); nothing else is assumed. -/
import Derived.Test.YtkmnkiekmlcfdaaGreatDoorG04
import Derived.Test.YtkmnkiekmlcfdaaGreatDoorP04
import Derived.Test.YtkmnkiekmlcfdaaGreatDoorB06
import Derived.Test.YtkmnkiekmlcfdaaGreatDoorC09
set_option linter.all false
set_option linter.unusedVariables false
set_option linter.unusedSimpArgs false
set_option linter.unusedSectionVars false
set_option linter.unnecessarySimpa false
section
namespace Go.Proofs.YtkmnkiekmlcfdaaGreatDoor
open Go.AM Go.RowKit Go.ChangeShapes Go.WideShapes Go.ChangeAt
noncomputable abbrev wArgs:Array Value:=#[.agg #[.slice none 0 0,.string ⟨#[]⟩,.slice none 0 0,.slice none 0 0],.agg #[.int .i64 0,.string ⟨#[]⟩,.slice none 0 0],.int .i64 0]
theorem witness_row (os:Os) {H:Type} (enc:TypeId×Value→H) :
  (Rows.OpenSpec.upto Rows.matchOrderSpec).preRow enc Tryz.prog Tryz.f4 Rows.matchOrderUptoRow.domain false Rows.matchOrderUptoRow.laid ((laidWorld os).forCall (fun _ _=>0) ⟨#[],wArgs,[]⟩).memory wArgs:=by
 have hw:(DataW.whole enc Tryz.prog ((laidWorld os).forCall (fun _ _=>0) ⟨#[],wArgs,[]⟩).memory Tryz.f4.params.toList Rows.matchOrderSpec.vars false wArgs.toList 8).map (fun x=>(x.1,x.2.1)) =
   some ([.agg [.nil,.agg [.lit (.string []),.nil],.nil],.agg [.lit (.int .i64 0),.lit (.string []),.nil],.lit (.int .i64 0)],[]):=by kernel_rfl
 obtain ⟨⟨x1,x2,x3⟩,hx,hx1⟩:=Option.map_eq_some_iff.1 hw
 simp only[Prod.mk.injEq] at hx1
 obtain ⟨rfl,rfl⟩:=hx1
 exact OpenSpec.preRow_of_cond 8 hx (by kernel_rfl) (fun k hk=>by cases hk;kernel_rfl) (by kernel_rfl) (laid_met os _)
set_option maxRecDepth 100000 in
theorem lifted (E:∀ B0,Env Tryz.prog ans B0 (prims kdF)) (os:Os) (started:os.Started) (H:Type) (enc:TypeId×Value→H) (F:Stop.Interp) :
  ReturnsInHanded {} Tryz.checked os 4 .any ((Rows.OpenSpec.upto Rows.matchOrderSpec).preRow enc Tryz.prog Tryz.f4 Rows.matchOrderUptoRow.domain false Rows.matchOrderUptoRow.laid) (((Rows.OpenSpec.upto Rows.matchOrderSpec).at F).post enc Tryz.prog Tryz.f4 false true false false):=by
 refine returnsInHanded_of_row (C:=Tryz.checked) (s:=Rows.OpenSpec.upto Rows.matchOrderSpec) ownK started (by kernel_rfl) Tryz.func4
  (witness_row_atRef (enc:=enc) (C:=Tryz.checked) false (laidWorld os) wArgs rfl (by kernel_rfl) (by kernel_rfl) (by kernel_rfl) (witness_row os enc)) ?_
 intro W base args ds gs before hval hW _ hcond _ hL hsh _
 exact contract E H enc W base args ds gs before hval hW (hcond _ rfl) hL hsh
theorem said (E:∀ B0,Env Tryz.prog ans B0 (prims kdF)):Rows.MatchOrderUptoSaid :=
 OpenClaim.holds_of_cond 4 Tryz.f4 rfl rfl rfl rfl rfl rfl rfl ⟨rfl,rfl,rfl,rfl,rfl⟩ rfl rfl rfl rfl rfl (by kernel_rfl) Tryz.func4 (by kernel_rfl)
  (of_decide_eq_true (by kernel_rfl)) (by unfold Func.isWrapper;first|(rw[if_pos (by decide +kernel)];kernel_rfl)|(rw[if_neg (by decide +kernel)];exact ⟨rfl,rfl⟩))
  (fun os started H enc _ F=>by rw[OpenClaim.pre_eq_preRow];exact lifted E os started H enc F)
theorem plain (f:FuncId) (fn:Func) (hf:Tryz.pinned.checked.prog.funcNamed "restitch/restitchlaw05.MatchOrder"=some f) (hfn:Tryz.pinned.checked.prog.funcs[f]?=some fn) :
  true=Tryz.pinned.checked.prog.looks []∧∀ (j:Nat) t,fn.params[j]?=some t→Tryz.pinned.checked.prog.wantsStandIn t=false:=by
 obtain rfl:f=4:=Option.some.inj ((show Tryz.prog.funcNamed "restitch/restitchlaw05.MatchOrder"=some 4 by kernel_rfl).symm.trans hf) |>.symm
 obtain rfl:fn=Tryz.f4:=(Option.some.inj (Tryz.func4.symm.trans hfn)).symm
 refine ⟨by kernel_rfl,fun j t ht=>?_⟩
 rw[Tryz.params4] at ht
 have:=Array.mem_of_getElem? ht
 simp only[List.mem_toArray,List.mem_cons,List.not_mem_nil,or_false] at this
 rcases this with rfl|rfl|rfl
 ·exact (show Tryz.prog.wantsStandIn 28=false by kernel_rfl)
 ·exact (show Tryz.prog.wantsStandIn 30=false by kernel_rfl)
 ·exact (show Tryz.prog.wantsStandIn 3=false by kernel_rfl)
theorem card (E:∀ B0,Env Tryz.prog ans B0 (prims kdF)):Rows.MatchOrderUptoCardSaid :=
 Claim7.holds_tied_plain_at .later [] _ _ _ _ (said E) (fun _ h=>by cases h) (by kernel_rfl) (fun _ h=>by cases h) matchOrderUpto_row_tie rfl ⟨rfl,rfl⟩ (by kernel_rfl) rfl plain (by kernel_rfl)
end Go.Proofs.YtkmnkiekmlcfdaaGreatDoor
end
section
namespace Go.Proofs.YtkmnkiekmlcfdaaGreatDoor
open Go.AM
set_option maxRecDepth 100000
theorem hmul (n:Nat) (u:World) (hn:n≤16):Calls Tryz.prog 178 #[.int .u64 1,.int .u64 n] u fun e w'=>e=.returned (.tuple #[.int .u64 0,.int .u64 n])∧w'=u:=by
 have h:=Tryz.bits_Mul 1 n (by omega) (by omega) u
 have e1:1 * n / 18446744073709551616=0:=by omega
 have e2:1 * n % 18446744073709551616=n:=by omega
 rw[e1,e2] at h
 exact h
theorem envF (B0:Nat):Env Tryz.prog ans B0 (prims kdF):=mkEnv fun f args res h=>by
 unfold prims at h
 cases h1:Nat.beq f 163 with
 |true =>
  obtain rfl:=Nat.eq_of_beq_eq_true h1
  simp only[h1,cond_true] at h
  split at h
  ·rename_i s
   cases h
   exact (p163 s).prim (by simp [lok,lokF])
  ·cases h
 |false =>
 simp only[h1,cond_false] at h
 cases h2:Nat.beq f 106 with
 |true =>
  obtain rfl:=Nat.eq_of_beq_eq_true h2
  simp only[h2,cond_true] at h
  split at h
  ·rename_i xs
   cases hx:rowsOk 1 xs with
   |false=>rw[hx] at h;cases h
   |true =>
    rw[hx] at h
    cases h
    exact (p106 hx).prim (by simp [lok,lokF])
  ·cases h
 |false =>
 simp only[h2,cond_false] at h
 cases h3:Nat.beq f 150 with
 |true =>
  obtain rfl:=Nat.eq_of_beq_eq_true h3
  simp only[h3,cond_true] at h
  split at h
  ·rename_i xs
   cases hx:rowsOk 3 xs with
   |false=>rw[hx] at h;cases h
   |true =>
    rw[hx] at h
    cases h
    exact (p150 hx).prim (by simp [lok,lokF])
  ·cases h
 |false =>
 simp only[h3,cond_false] at h
 cases h4:Nat.beq f 68 with
 |true =>
  obtain rfl:=Nat.eq_of_beq_eq_true h4
  simp only[h4,cond_true] at h
  split at h
  ·rename_i v
   cases hv:vOk 200 v with
   |false=>rw[hv] at h;cases h
   |true =>
    rw[hv] at h
    cases h
    exact ((p68 200).2 v hv).prim (fun a ha=>by simp at ha;subst ha;exact lok_vOk hv)
  ·cases h
 |false =>
 simp only[h4,cond_false] at h
 cases h5:Nat.beq f 174 with
 |true =>
  obtain rfl:=Nat.eq_of_beq_eq_true h5
  simp only[h5,cond_true] at h
  split at h
  ·rename_i x n
   cases hx:Nat.beq x.cells.length 3&&decide (0≤n)&&decide (n≤16) with
   |false=>rw[hx] at h;cases h
   |true =>
    rw[hx] at h
    cases h
    simp only[Bool.and_eq_true,decide_eq_true_eq] at hx
    obtain ⟨⟨hx,h0⟩,h16⟩:=hx
    have hp:=(p174 hmul (Nat.eq_of_beq_eq_true hx) n.toNat (by omega)).prim (ans:=ans) (B0:=B0) (by simp [lok,lokF])
    rw[show ((n.toNat:Nat):Int)=n by omega] at hp
    exact hp
  ·cases h
 |false=>rw[h5] at h;cases h
theorem match_order:Rows.MatchOrderUptoCardSaid:=card envF
end Go.Proofs.YtkmnkiekmlcfdaaGreatDoor
end
