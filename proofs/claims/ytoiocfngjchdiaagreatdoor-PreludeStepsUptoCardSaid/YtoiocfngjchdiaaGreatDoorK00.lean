import Derived.Test.YtoiocfngjchdiaaGreatDoorProg
import Derived.Test.YtoiocfngjchdiaaGreatDoorF02
import Derived.Test.YtoiocfngjchdiaaGreatDoorC07
set_option linter.all false
set_option maxRecDepth 1000000
set_option maxHeartbeats 0
noncomputable section
namespace Go.CM
def fe26:Q->CF:=Qo Go.Proofs.Tryz.prog
theorem follows26:Go.Proofs.Tryz.prog.follows .mixedOrders=true:=by kernel_rfl
theorem globals26:Go.Proofs.Tryz.prog.globals.size=8:=by kernel_rfl
theorem ext26:aJa Go.Proofs.Tryz.prog=true:=by kernel_rfl
def isMk:CF->Bool
 |.mk _ _=>true
 |_=>false
theorem aF3{c:CF}(h:isMk c=true):∃b rs,c=.mk b rs:=by
 cases c with
 |mk b rs=>exact⟨b,rs,rfl⟩
 |_=>cases h
theorem call26{g n:Nat}{vs:List V}{us:List Value}{v:V}(hc:isMk (compF Go.Proofs.Tryz.prog g)=true)(hv:∀J:Rho,VRs J vs us)(e:runF fe26 (n+1) (qn g) vs (qn 8)=.ok v)(w:World)(hw:8<=w.heap.size)(c:Frame)(cs:List Frame) :
  ∃(w':World)(J':Rho)(h':T O)(nx':Q)(u:Value)(x:V),Steps Go.Proofs.Tryz.prog (lone (Frame.enter Go.Proofs.Tryz.prog g ⟨us⟩ .normal) (c::cs) w) (lone (c.finish u) cs w')/\HR Go.Proofs.Tryz.prog (ur Go.Proofs.Tryz.prog w) J' h' nx' w'/\VR J' x u/\fin x h'=v:=by
 obtain⟨body,rs,hc⟩:=aF3 hc;have CT:fe26 (qn g)=.mk body rs:=by simp only[fe26,Qo,dX];exact hc
 obtain⟨m,hm⟩:=aHf (n:=n) CT e;exact aD4 (fe:=fe26) w follows26 (aMp _ _) (ext_ok ext26) hc hv (by rw[globals26];exact hm) (by rw[globals26];exact hw) c cs
theorem fin_bool{x:V}{h:T O}{b:Bool}(e:fin x h=.bool b):x=.bool b:=by
 unfold fin at e
 split at e
 ·cases e
 ·cases e
 ·split at e<;>cases e
 ·cases e;rfl
 ·cases e
 ·cases e
theorem fin_int{x:V}{h:T O}{k:IntKind}{n:Int}(e:fin x h=.int k n):x=.int k n:=by
 unfold fin at e
 split at e
 ·cases e
 ·cases e
 ·split at e<;>cases e
 ·cases e
 ·cases e;rfl
 ·cases e
end Go.CM
end
