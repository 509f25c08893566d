import Derived.Test.YtoiocfngjchdiaaGreatDoorProg
import Derived.Test.YtoiocfngjchdiaaGreatDoorF02
import Derived.Test.YtoiocfngjchdiaaGreatDoorC07
set_option linter.all false
set_option maxRecDepth 1000000
set_option maxHeartbeats 0
noncomputable section
namespace Go.CM
def lw:Q->CF:=R6 Go.Proofs.Tryz.prog
theorem a0L:Go.Proofs.Tryz.prog.follows .mixedOrders=true:=by kernel_rfl
theorem vv:Go.Proofs.Tryz.prog.globals.size=8:=by kernel_rfl
theorem a0H:aKs Go.Proofs.Tryz.prog=true:=by kernel_rfl
def pk:CF->Bool
 |.mk _ _=>true
 |_=>false
theorem aGY{c:CF}(h:pk c=true):∃b rs,c=.mk b rs:=by
 cases c with
 |mk b rs=>exact⟨b,rs,rfl⟩
 |_=>cases h
theorem call26{g n:Nat}{vs:List V}{us:List Value}{v:V}(hc:pk (fk Go.Proofs.Tryz.prog g)=true)(hv:∀J:ak,a_ J vs us)(e:my lw (n+1) (qn g) vs (qn 8)=.ok v)(w:World)(hw:8<=w.heap.size)(c:Frame)(cs:List Frame) :
  ∃(w':World)(J':ak)(h':T O)(nx':Q)(u:Value)(x:V),Steps Go.Proofs.Tryz.prog (lone (Frame.enter Go.Proofs.Tryz.prog g ⟨us⟩ .normal) (c::cs) w) (lone (c.finish u) cs w')/\HR Go.Proofs.Tryz.prog (yg Go.Proofs.Tryz.prog w) J' h' nx' w'/\VR J' x u/\fin x h'=v:=by
 obtain⟨body,rs,hc⟩:=aGY hc;have C4:lw (qn g)=.mk body rs:=by simp only[lw,R6,dY];exact hc
 obtain⟨m,hm⟩:=aIe (n:=n) C4 e;exact aEX (fe:=lw) w a0L (aNI _ _) (a0I a0H) hc hv (by rw[vv];exact hm) (by rw[vv];exact hw) c cs
theorem a0J{x:V}{h:T O}{b:Bool}(e:fin x h=.bool b):x=.bool b:=by
 unfold fin at e
 split at e
 ·cases e
 ·cases e
 ·split at e<;>cases e
 ·cases e;rfl
 ·cases e
 ·cases e
theorem a0K{x:V}{h:T O}{k:IntKind}{n:Int}(e:fin x h=.int k n):x=.int k n:=by
 unfold fin at e
 split at e
 ·cases e
 ·cases e
 ·split at e<;>cases e
 ·cases e
 ·cases e;rfl
 ·cases e
end Go.CM
end
