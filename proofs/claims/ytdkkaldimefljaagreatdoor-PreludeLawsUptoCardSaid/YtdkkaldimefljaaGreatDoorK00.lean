import Derived.Test.YtdkkaldimefljaaGreatDoorF02
import Derived.Test.YtdkkaldimefljaaGreatDoorC07
import Derived.Test.YtdkkaldimefljaaGreatDoorProg
set_option linter.all false
set_option maxRecDepth 1000000
set_option maxHeartbeats 0
noncomputable section
namespace Go.CM
def fe26:Q->CF:=SO Go.Proofs.Tryz.prog
theorem aCa:Go.Proofs.Tryz.prog.follows .mixedOrders=true:=by kernel_rfl
theorem dz:Go.Proofs.Tryz.prog.globals.size=8:=by kernel_rfl
theorem aOE:aJI Go.Proofs.Tryz.prog=true:=by kernel_rfl
def isMk:CF->Bool
 |.mk _ _=>true
 |_=>false
theorem aHD{c:CF}(h:isMk c=true):∃b rs,c=.mk b rs:=by
 cases c with
 |mk b rs=>exact⟨b,rs,rfl⟩
 |none=>cases h
 |ext n=>cases h
theorem call26{g n:Nat}{vs:List V}{us:List Value}{v:V}(hc:isMk (compF Go.Proofs.Tryz.prog g)=true)(hv:∀J:Rho,VRs J vs us)(e:runF fe26 (n+1) (qn g) vs (qn 8)=.ok v)(w:World)(hw:8<=w.heap.size)(c:Frame)(cs:List Frame) :
  ∃(w':World)(J':Rho)(h':T O)(nx':Q)(u:Value)(x:V),Steps Go.Proofs.Tryz.prog (lone (Frame.enter Go.Proofs.Tryz.prog g ⟨us⟩ .normal) (c::cs) w) (lone (c.finish u) cs w')/\HR Go.Proofs.Tryz.prog w J' h' nx' w'/\VR J' x u/\fin x h'=v:=by
 obtain⟨body,rs,hc⟩:=aHD hc;have D5:fe26 (qn g)=.mk body rs:=by simp only[fe26,SO,eP];exact hc
 obtain⟨m,hm⟩:=aIG (n:=n) D5 e;exact aF3 (fe:=fe26) aCa (aLS _) (aLj aOE) hc hv (by rw[dz];exact hm) w (by rw[dz];exact hw) c cs
end Go.CM
end
