import Derived.Test.YtoiocfngjchdiaaGreatDoorK00
import Derived.Test.YtoiocfngjchdiaaGreatDoorA09
set_option linter.all false
set_option maxRecDepth 1000000
set_option maxHeartbeats 0
noncomputable section
namespace Go.CM
open Go.AM Go.Proofs.YtoiocfngjchdiaaGreatDoor
def AllP{α:Type}(p:α->Prop):List α->Prop
 |[]=>True
 |x::l=>p x/\AllP p l
theorem AllP.mem{α:Type}{p:α->Prop}:∀{l:List α},AllP p l->∀x∈l,p x
 |y::l,h,x,hx=>by
  rcases Au.1 hx with rfl|hx
  ·exact h.1
  ·exact h.2.mem x hx
def sV(s:List UInt8):V:=.str s.length (packL s)
def KdR(p:List UInt8×Int):Prop:=runF fe26 1000 (qn 192) [sV p.1] (qn 8)=.ok (.int .i64 p.2)
def TyR(p:List UInt8×TyD):Prop:=runF fe26 1000 (qn 37) [sV p.1] (qn 8)=.ok (.tup [p.2.enc.v,.bool true])
def PlR(p:List UInt8×TyD):Prop:=runF fe26 1000 (qn 46) [sV p.1] (qn 8)=.ok (.bool true)
theorem kq{p:List UInt8×Int}(h:runF fe26 1000 (qn 192) [sV p.1] (qn 8)=.ok (.int .i64 p.2):=by kernel_rfl):KdR p:=h
theorem tq{p:List UInt8×TyD}(h:runF fe26 1000 (qn 37) [sV p.1] (qn 8)=.ok (.tup [p.2.enc.v,.bool true]):=by kernel_rfl):TyR p:=h
theorem pq{p:List UInt8×TyD}(h:runF fe26 1000 (qn 46) [sV p.1] (qn 8)=.ok (.bool true):=by kernel_rfl):PlR p:=h
theorem kd_runs:AllP KdR kdTab:=⟨kq,kq,kq,kq,kq,kq,kq,kq,kq,kq,kq,kq,kq,kq,kq,kq,kq,kq,kq,kq,kq,kq,kq,kq,kq,kq,kq,kq,kq,kq,kq,kq,kq,kq,kq,kq,kq,kq,kq,kq,kq,kq,kq,kq,kq,kq,kq,kq,kq,kq,kq,kq,kq,kq,kq,kq,kq,kq,kq,kq,kq,kq,kq,kq,kq,kq,kq,kq,kq,kq,kq,kq,kq,kq,kq,kq,kq,kq,kq,kq,kq,kq,kq,kq,kq,kq,trivial⟩
theorem ty_runs:AllP TyR tyTab:=⟨tq,tq,tq,tq,tq,tq,tq,tq,tq,tq,tq,trivial⟩
theorem pl_runs:AllP PlR tyTab:=⟨pq,pq,pq,pq,pq,pq,pq,pq,pq,pq,pq,trivial⟩
end Go.CM
end
