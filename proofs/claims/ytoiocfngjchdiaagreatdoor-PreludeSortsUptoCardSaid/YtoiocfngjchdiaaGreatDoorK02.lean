import Derived.Test.YtoiocfngjchdiaaGreatDoorK00
import Derived.Test.YtoiocfngjchdiaaGreatDoorA09
set_option linter.all false
set_option maxRecDepth 1000000
set_option maxHeartbeats 0
noncomputable section
namespace Go.CM
open Go.AM Go.Proofs.YtoiocfngjchdiaaGreatDoor
def sX{α:Type}(p:α->Prop):List α->Prop
 |[]=>True
 |x::l=>p x/\sX p l
theorem sX.mem{α:Type}{p:α->Prop}:∀{l:List α},sX p l->∀x∈l,p x
 |y::l,h,x,hx=>by
  rcases As.1 hx with rfl|hx
  ·exact h.1
  ·exact h.2.mem x hx
def sV(s:List UInt8):V:=.str s.length (cC s)
def xw(p:List UInt8×Int):Prop:=my lw 1000 (qn 192) [sV p.1] (qn 8)=.ok (.int .i64 p.2)
def xy(p:List UInt8×ah):Prop:=my lw 1000 (qn 37) [sV p.1] (qn 8)=.ok (.aj [p.2.enc.v,.bool true])
def xx(p:List UInt8×ah):Prop:=my lw 1000 (qn 46) [sV p.1] (qn 8)=.ok (.bool true)
theorem kq{p:List UInt8×Int}(h:my lw 1000 (qn 192) [sV p.1] (qn 8)=.ok (.int .i64 p.2):=by kernel_rfl):xw p:=h
theorem tq{p:List UInt8×ah}(h:my lw 1000 (qn 37) [sV p.1] (qn 8)=.ok (.aj [p.2.enc.v,.bool true]):=by kernel_rfl):xy p:=h
theorem pq{p:List UInt8×ah}(h:my lw 1000 (qn 46) [sV p.1] (qn 8)=.ok (.bool true):=by kernel_rfl):xx p:=h
theorem a6l:sX xw sE:=⟨kq,kq,kq,kq,kq,kq,kq,kq,kq,kq,kq,kq,kq,kq,kq,kq,kq,kq,kq,kq,kq,kq,kq,kq,kq,kq,kq,kq,kq,kq,kq,kq,kq,kq,kq,kq,kq,kq,kq,kq,kq,kq,kq,kq,kq,kq,kq,kq,kq,kq,kq,kq,kq,kq,kq,kq,kq,kq,kq,kq,kq,kq,kq,kq,kq,kq,kq,kq,kq,kq,kq,kq,kq,kq,kq,kq,kq,kq,kq,kq,kq,kq,kq,kq,kq,kq,trivial⟩
theorem a7m:sX xy tO:=⟨tq,tq,tq,tq,tq,tq,tq,tq,tq,tq,tq,trivial⟩
theorem a6K:sX xx tO:=⟨pq,pq,pq,pq,pq,pq,pq,pq,pq,pq,pq,trivial⟩
end Go.CM
end
