import Derived.Test.YtdkkaldimefljaaGreatDoorK02
set_option linter.all false
noncomputable section
namespace Go.CM
set_option maxRecDepth 1000000 in
theorem aRl:isMk (compF Go.Proofs.Tryz.prog 6)=true:=by kernel_rfl
theorem fin_bool{x:V}{h:T O}{b:Bool}(e:fin x h=.bool b):x=.bool b:=by
 unfold fin at e
 split at e
 ·cases e
 ·split at e<;>cases e
 ·cases e;rfl
 ·cases e
 ·cases e
theorem sane26_ok(w:World)(hw:8<=w.heap.size)(c:Frame)(cs:List Frame) :
  ∃w':World,Steps Go.Proofs.Tryz.prog (lone (Frame.enter Go.Proofs.Tryz.prog 6 #[] .normal) (c::cs) w) (lone (c.finish (.bool true)) cs w')/\w.heap.size<=w'.heap.size/\(∀b,b<w.heap.size->w'.heap[b]?=w.heap[b]?)/\w'.os=w.os/\w'.tape=w.tape/\w'.output=w.output:=by
 obtain⟨w',J',h',nx',u,x,h1,h2,h3,h4⟩:=call26 (n:=999) aRl (λ_=>.nil) zh w hw c cs;rw[fin_bool h4] at h3;rw[h3.inv_bool] at h1;exact⟨w',h1,h2.size,h2.old,h2.os,h2.tape,h2.output⟩
end Go.CM
end
