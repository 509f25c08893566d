import Derived.Test.YtoiocfngjchdiaaGreatDoorT08
set_option linter.all false
set_option maxRecDepth 1000000
set_option maxHeartbeats 0
noncomputable section
namespace Go.CM
open Go.AM Go.Proofs.YtoiocfngjchdiaaGreatDoor
def giL:List (Nat×GT):=[(192,MZ),(23,.ar (qn 22) 55 (.int .i64 0))]
def a0M:List (Nat×V):=[(209,.rr .e),(210,.rr .e),(211,.rr .e)]
noncomputable def feC:Q->CF:=Tf Go.Proofs.Tryz.prog giL a0M
noncomputable def sa:C:=match fk Go.Proofs.Tryz.prog 30 with|.mk b _=>b|_=>.bad
theorem a5s:Lj (TH (c7++[cU [111] lB])) .nil (qn 8) (λv h nx=>mH [.agg [v],.rr .e] .e .nil λtm=>run feC 20000 (qn 30) false none [] tm (.code sa .nil) [] h nx)=.ok (.int .i64 0):=by kernel_rfl
def isS(v:V):Bool :=
 match v with
 |.rr x=>(match x with
  |.sl o a b=>o.beq (qn 22)&&Nat.beq a 0&&Nat.beq b 55
  |_=>false)
 |_=>false
theorem a5t:Lj (TH (c7++[cU [111] lB])) .nil (qn 8) (λv _ _=>.ok (.bool (isS v)))=.ok (.bool true):=by kernel_rfl
theorem a6e{v:V}(h:isS v=true):v=.rr (.sl (qn 22) 0 55):=by
 unfold isS at h
 split at h
 ·split at h
  ·rw[Ac,Ac] at h
   rw[Q.beq_iff.1 h.1.1,Aa h.1.2,Aa h.2]
  ·cases h
 ·cases h
end Go.CM
end
