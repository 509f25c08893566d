/- Part C08 of the proof of one law of the program. -/
import Derived.Test.YtkmnkiekmlcfdaaGreatDoorC07
set_option linter.all false
set_option linter.unusedVariables false
set_option linter.unusedSimpArgs false
set_option linter.unusedSectionVars false
set_option linter.unnecessarySimpa false
section
namespace Go.Proofs.YtkmnkiekmlcfdaaGreatDoor
open Go.AM Go.RowKit
set_option maxRecDepth 100000
set_option maxHeartbeats 4000000
def frD (b3 b4:Nat):Frame:={ fr173 with defers:=[dfr b3 b4] }
theorem good173 (s:List UInt8) (at_:Nat) (X L:List AVal) (h4:XK Tryz.prog ans CL LL 173 q4 ⟨[.val (.str s),.val (.loc 3 0),.val (.loc 0 0),.val (.loc 1 0),.dead,.val (.func 179 [.loc 4 0]),.dead],⟨[.box [.own 4 []],zeroW,.map wordM,.box [.val (.str s),.val (.int .i64 0),.val (.amap 2),.own 2 []],.box [.val (.loc 3 0)]],0⟩⟩ rec_ =
   some (.norm,⟨[.val (.str s),.val (.loc 3 0),.val (.loc 0 0),.val (.loc 1 0),.dead,.val (.func 179 [.loc 4 0]),.dead],⟨[.box [.own 4 L],zeroW,.map wordM,.box [.val (.str s),.val (.int .i64 (at_:Nat)),.val (.amap 2),.own 2 X],.box [.val (.loc 3 0)]],0⟩⟩)) :
  PureT Tryz.prog 173 [.str s] [.cptr (.agg []),.slice L,.agg [.int .i64 0,.int .i64 0]]:=by
 refine ⟨⟨_,Tryz.func173,by kernel_rfl⟩,fun w Ψ vs hw hl ha c cs=>?_⟩
 have ha0:=ha 0 _ rfl
 have hvs:=vs1 hl rfl
 generalize vs.getD 0 undef=v0 at ha0 hvs
 subst hvs
 cases ha0
 obtain ⟨w3,Ψ3,ρ3,ow3,tm3,b3,b4,A3,F3,r3,r4,S3⟩:=pre173 s hw (c::cs)
 have hcf:=cfW_ok (envL w.heap.size)
 have hlp:=lpW_ok (envL w.heap.size)
 have hdr:DrawnOK Tryz.prog ans CL:=(envL w.heap.size).drawn _ cfW_prim
 obtain ⟨ex,st',hk,w4,Ψ4,ρ4,ow4,tm4,ds4,A4,M4,F4,p4,_,S4⟩:=XK_ok hcf hlp hdr q4 (b:=frD b3 b4) (cs:=c::cs) (items:=[.inBlock 0,.code q5]) (fid:=173) (B1:=w.heap.size) rfl (.inl rfl) A3 ⟨[],rfl,.nil _ _ _⟩ F3.size h4
 simp only[rec_,Option.some.injEq,Prod.mk.injEq] at hk
 obtain ⟨rfl,rfl⟩:=hk
 have A4:At Tryz.prog ans 173 w.heap.size w4 Ψ4 ρ4 ow4 _ tm4:=A4
 have S4:Steps Tryz.prog _ _:=S4
 obtain ⟨c3,c4,a,l,k,T3,T4,T⟩:=two2 A4.rel.objs rfl rfl
 have q3':c3=b3:=Option.some.inj (T.r3.symm.trans (p4 0 b3 r3))
 have q4':c4=b4:=Option.some.inj (T.r4.symm.trans (p4 1 b4 r4))
 subst q3' q4'
 have hsz:tm4.size=19:=by have:=A4.rel.size;rw[an173] at this;exact this
 have sl2:=A4.rel.slots 2
 have sl3:=A4.rel.slots 3
 have sl4:=A4.rel.slots 4
 rw[an173] at sl2 sl3 sl4
 have v3:tm4.getD 3 undef=.pointer (some ⟨c3,0,none⟩):=by
  cases sl3 with
  |val _ _ h=>exact hdE _ _ _ _ h T.r3
 have v4:tm4.getD 4 undef=.pointer (some ⟨c4,0,none⟩):=by
  cases sl4 with
  |val _ _ h=>exact hdE _ _ _ _ h T.r4
 have v2:∃ b,tm4.getD 2 undef=.pointer (some ⟨b,0,none⟩):=by
  generalize tm4.getD 2 undef=u at sl2
  cases sl2 with
  |val _ _ h =>
   cases h with
   |loc _ _ b h=>exact ⟨b,rfl⟩
 have e19:=arr19 tm4 hsz
 rw[v3,v4] at e19
 have hr:=r6_wp (tm4.getD 0 undef) (tm4.getD 1 undef) (tm4.getD 2 undef) (tm4.getD 5 undef) (tm4.getD 6 undef) (tm4.getD 7 undef) (tm4.getD 8 undef) (tm4.getD 9 undef) (tm4.getD 10 undef) (tm4.getD 11 undef) (tm4.getD 12 undef) (tm4.getD 13 undef) (tm4.getD 14 undef) (tm4.getD 15 undef) (tm4.getD 16 undef) (tm4.getD 17 undef) (tm4.getD 18 undef) c3 c4 a l k 0 0 T3 T4 (0,0) (0,0) ds4 w4 T.ne T.h3 T.h4 (froz T.h3) (froz T.h4) (froz T.h4)
 rw[←e19] at hr
 obtain ⟨e,a5,w5,⟨rfl,hh,ho,ht,hout,g2,g3,g4,hds⟩,todo,S5⟩:=hr (frD c3 c4) [] (c::cs)
 have F5:Fr w4 Ψ4 ow4 w5 Ψ4 ow4:=Fr.heap hh ho ht hout
 obtain ⟨w6,S6,k1,k2,k3,k4,k5⟩:=marks_pop (P:=Tryz.prog) (cs:=c::cs) (fr:={ (frD c3 c4).at a5 todo with mode:=.returning }) (M4.mono F5) (by simp) hds
 have hb3:=(k2 c3 (.inr (.inl (by rw[T.o3];simp)))).trans ((by rw[hh]:w5.heap[c3]?=w4.heap[c3]?).trans T.h3)
 have hb4:=(k2 c4 (.inr (.inl (by rw[T.o4];simp)))).trans ((by rw[hh]:w5.heap[c4]?=w4.heap[c4]?).trans T.h4)
 have F6:=((F3.trans F4).trans F5).kept (w':=w6) (Nat.le_refl _) k1 k2 k3 k4 k5
 have R6:=((A4.rest).kept (w':=w5) (B1:=w.heap.size) (by rw[hh]) (fun x _=>by rw[hh])).kept k1 k2
 obtain ⟨b2,v2⟩:=v2
 have L6:=leave173 (tm:=a5.tmps) (todo:=todo) (u:=.returning) (by simp) cs ((catch_idle (.pointer (some ⟨c3,0,none⟩)) (.pointer (some ⟨c4,0,none⟩)) w6).mono fun e u' w1 ⟨h1,h2,h3⟩=>⟨h1,by rw[h2];rfl,h3⟩) (res173 hb3 hb4 g3 g4) c
 rw[g2,v2] at L6
 refine ⟨w6,Ψ4,[.pointer (some ⟨b2,0,none⟩),.slice a l k,.agg ⟨[.int .i64 0,.int .i64 0]⟩],⟨F6.le,F6.size,F6.keep,fun b hb=>absurd rfl hb,F6.os,F6.tape,F6.output⟩,R6.wsat,rfl,fun i x u h1 h2=>?_,?_⟩
 ·match i with
  |0=>cases h1;cases h2;exact .cptr _ _ _ fun j c h=>by simp [AVal.cells] at h
  |1=>cases h1;cases h2;exact T.rel
  |2=>cases h1;cases h2;exact .agg _ _ rfl (fun i c h=>by
    match i with
    |0=>cases h;rfl
    |1=>cases h;rfl
    |i+2=>cases h) (fun i c v h1 h2=>by
    match i with
    |0=>cases h1;cases h2;exact .int _ _
    |1=>cases h1;cases h2;exact .int _ _
    |i+2=>cases h1)
  |i+3=>cases h1
 ·refine S3.trans ((Steps.one stepR_block).trans (S4.trans ((Steps.one stepR_inBlock).trans (S5.trans (S6.trans L6)))))
end Go.Proofs.YtkmnkiekmlcfdaaGreatDoor
end
section
namespace Go.Proofs.YtkmnkiekmlcfdaaGreatDoor
open Go.AM Go.RowKit
set_option maxRecDepth 100000
set_option maxHeartbeats 4000000
theorem setCell_off {w:World} {b o x:Nat} {v:Value} (h:x≠b):(w.setCell ⟨b,o,none⟩ v).heap[x]?=w.heap[x]?:=by
 simp only[World.setCell,Array.getElem?_modify]
 rw[if_neg (fun e=>h e.symm)]
theorem setCell_on {w:World} {b o:Nat} {v:Value} {cs:Array Value} {T:TypeId} {fr:Nat×Nat} (h:w.heap[b]?=some (.cells cs T fr)):(w.setCell ⟨b,o,none⟩ v).heap[b]?=some (.cells (cs.setIfInBounds o v) T fr):=by
 simp only[World.setCell,Array.getElem?_modify,if_true,h,Option.map_some,Option.isSome_none,Bool.false_eq_true,if_false]
theorem wsat_same {w w':World} {Ψ:HT} (h:WSat Ψ w) (hk:∀ x o c,Ψ x o c→w'.heap[x]?=w.heap[x]?):WSat Ψ w':=⟨h.glob,by
 obtain ⟨cs,t,fr,h1,h2⟩:=h.len5
 exact ⟨cs,t,fr,(hk 5 _ _ (h.glob.pow 0 (by omega))).trans h1,h2⟩,fun b o c e=>by
 obtain ⟨h1,v,h2,h3⟩:=h.sat b o c e
 exact ⟨h1,v,(cell_congr (hk b o c e) o).trans h2,h3⟩⟩
theorem pan173 (s:List UInt8) (at_:Nat) (X L:List AVal) (a e:Int) (h4:XK Tryz.prog ans CL LL 173 q4 ⟨[.val (.str s),.val (.loc 3 0),.val (.loc 0 0),.val (.loc 1 0),.dead,.val (.func 179 [.loc 4 0]),.dead],⟨[.box [.own 4 []],zeroW,.map wordM,.box [.val (.str s),.val (.int .i64 0),.val (.amap 2),.own 2 []],.box [.val (.loc 3 0)]],0⟩⟩ rec_ =
   some (.pan (wrongE a e),⟨[.val (.str s),.val (.loc 3 0),.val (.loc 0 0),.val (.loc 1 0),.dead,.val (.func 179 [.loc 4 0]),.dead],stS s L at_ X⟩)) :
  PureT Tryz.prog 173 [.str s] [.cptr (.agg []),.slice [],.agg [.int .i64 a,.int .i64 e]]:=by
 refine ⟨⟨_,Tryz.func173,by kernel_rfl⟩,fun w Ψ vs hw hl ha c cs=>?_⟩
 have ha0:=ha 0 _ rfl
 have hvs:=vs1 hl rfl
 generalize vs.getD 0 undef=v0 at ha0 hvs
 subst hvs
 cases ha0
 obtain ⟨w3,Ψ3,ρ3,ow3,tm3,b3,b4,A3,F3,r3,r4,S3⟩:=pre173 s hw (c::cs)
 have hcf:=cfW_ok (envL w.heap.size)
 obtain ⟨ex,st',hk,_,hpan⟩:=rangeFunc_okP hcf (b:=frD b3 b4) (cs:=c::cs) (items:=[.inBlock 0,.code q5]) (fid:=173) (B1:=w.heap.size) rfl rfl A3 ⟨[],rfl,.nil _ _ _⟩ F3.size h4
 simp only[rec_,Option.some.injEq,Prod.mk.injEq] at hk
 obtain ⟨rfl,rfl⟩:=hk
 obtain ⟨sto',s0,w4,Ψ4,ρ4,ow4,ds4,hst,R4,M4,F4,p4,_,v,k,hv,S4⟩:=hpan _ rfl
 have hso:sto'=stS s L at_ X:=by cases hst;rfl
 subst hso
 obtain ⟨c3,c4,aa,l,kk,T3,T4,T⟩:=two2 (L:=L) R4.objs rfl rfl
 have q3':c3=b3:=Option.some.inj (T.r3.symm.trans (p4 0 b3 r3))
 have q4':c4=b4:=Option.some.inj (T.r4.symm.trans (p4 1 b4 r4))
 subst q3' q4'
 have sl2:=R4.slots 2
 have sl3:=R4.slots 3
 have sl4:=R4.slots 4
 rw[an173] at sl2 sl3 sl4
 have v3:tm3.getD 3 undef=.pointer (some ⟨c3,0,none⟩):=by
  cases sl3 with
  |val _ _ h=>exact hdE _ _ _ _ h T.r3
 have v4:tm3.getD 4 undef=.pointer (some ⟨c4,0,none⟩):=by
  cases sl4 with
  |val _ _ h=>exact hdE _ _ _ _ h T.r4
 have v2:∃ b,tm3.getD 2 undef=.pointer (some ⟨b,0,none⟩):=by
  generalize tm3.getD 2 undef=u at sl2
  cases sl2 with
  |val _ _ h =>
   cases h with
   |loc _ _ b h=>exact ⟨b,rfl⟩
 have hve:v=.iface 193 (.agg #[.int .i64 a,.int .i64 e]):=by
  unfold wrongE at hv
  cases hv with
  |iface _ _ v h =>
  cases h with
  |agg _ vs hl _ hx =>
  match vs,hl with
  |[u,u'],_ =>
  have x0:=hx 0 _ _ rfl rfl
  have x1:=hx 1 _ _ rfl rfl
  cases x0
  cases x1
  rfl
 subst hve
 obtain ⟨w6,S6,k1,k2,k3,k4,k5⟩:=marks_pop (P:=Tryz.prog) (cs:=c::cs) (fr:={ (frD c3 c4).atR ⟨tm3,ds4⟩ k with mode:=.panicking [{ v:=.iface 193 (.agg #[.int .i64 a,.int .i64 e]),recovered:=false }] }) M4 (by simp) rfl
 have hb3:=(k2 c3 (.inr (.inl (by rw[T.o3];simp)))).trans T.h3
 have hb4:=(k2 c4 (.inr (.inl (by rw[T.o4];simp)))).trans T.h4
 have F6:=(F3.trans F4).kept (w':=w6) (Nat.le_refl _) k1 k2 k3 k4 k5
 have R6:AM.Rest ans w.heap.size w6 Ψ4 ρ4 ow4 _:=AM.Rest.kept ⟨R4.wsat,R4.objs,R4.lt⟩ k1 k2
 obtain ⟨b2,v2⟩:=v2
 have hlt3:=(Array.getElem?_eq_some_iff.1 hb3).1
 have hlt4:=(Array.getElem?_eq_some_iff.1 hb4).1
 obtain ⟨w7,hw7⟩:∃ w7,w7=(((((w6.alloc (.cells #[.int .i64 a,.int .i64 e] 193 (0,0))).drew).setCell ⟨c3,0,none⟩ (.slice none 0 0)).setCell ⟨c4,0,none⟩ (.int .i64 a)).setCell ⟨c4,1,none⟩ (.int .i64 e)):=⟨_,rfl⟩
 have hA:∀ x,x < w6.heap.size→(w6.alloc (.cells #[.int .i64 a,.int .i64 e] 193 (0,0))).drew.heap[x]?=w6.heap[x]?:=fun x hx=>AM.heap_alloc_old _ hx
 have hoff:∀ x,x < w6.heap.size→x≠c3→x≠c4→w7.heap[x]?=w6.heap[x]?:=fun x hx h3 h4=>by
  rw[hw7,setCell_off h4,setCell_off h4,setCell_off h3,hA x hx]
 have hh3:w7.heap[c3]?=some (.cells #[.slice none 0 0] T3 (0,0)):=by
  rw[hw7,setCell_off T.ne,setCell_off T.ne,setCell_on ((hA c3 hlt3).trans hb3)]
  rfl
 have hh4:w7.heap[c4]?=some (.cells #[.int .i64 a,.int .i64 e] T4 (0,0)):=by
  rw[hw7,setCell_on (setCell_on (((setCell_off T.ne.symm).trans (hA c4 hlt4)).trans hb4))]
  rfl
 have hsz:w6.heap.size≤w7.heap.size:=by
  rw[hw7,World.size_setCell,World.size_setCell,World.size_setCell]
  show _≤(w6.alloc _).heap.size
  rw[World.size_alloc];omega
 have L6:=leave173 (tm:=tm3) (todo:=k) (u:=.panicking [{ v:=.iface 193 (.agg #[.int .i64 a,.int .i64 e]),recovered:=false }]) (by simp) cs ((catch_panicking c3 c4 aa l kk 0 0 a e T3 T4 (0,0) (0,0) w6 T.ne hb3 hb4 (froz hb3) (froz hb4) (froz hb4)).mono fun e u' w1 ⟨h1,h2,h3⟩=>⟨h1,by rw[h2];rfl,h3.trans hw7.symm⟩) (res173 hh3 hh4 v3 v4) c
 rw[v2] at L6
 refine ⟨w7,Ψ4,[.pointer (some ⟨b2,0,none⟩),.slice none 0 0,.agg ⟨[.int .i64 a,.int .i64 e]⟩],⟨F6.le,Nat.le_trans F6.size hsz,fun b hb ho=>?_,fun b hb=>absurd rfl hb,?_,?_,?_⟩,wsat_same R6.wsat fun x o c hx=>?_,rfl,fun i x u h1 h2=>?_,?_⟩
 ·have:=F6.keep b hb ho
  refine ⟨(hoff b (by have:=F6.size;omega) (fun e=>?_) (fun e=>?_)).trans this.1,this.2⟩
  ·have:=T.g3;omega
  ·have:=T.g4;omega
 ·rw[←F6.os,hw7];rfl
 ·rw[←F6.tape,hw7];rfl
 ·rw[←F6.output,hw7];rfl
 ·refine hoff x (R6.wsat.lt hx) (fun e=>?_) (fun e=>?_)
  ·rw[e,T.f3] at hx;exact hx
  ·rw[e,T.f4] at hx;exact hx
 ·match i with
  |0=>cases h1;cases h2;exact .cptr _ _ _ fun j c h=>by simp [AVal.cells] at h
  |1=>cases h1;cases h2;exact .slice [] none 0 0 0 rfl (Nat.le_refl _) (fun i x e=>by simp at e)
  |2=>cases h1;cases h2;exact .agg _ _ rfl (fun i c h=>by
    match i with
    |0=>cases h;rfl
    |1=>cases h;rfl
    |i+2=>cases h) (fun i c v h1 h2=>by
    match i with
    |0=>cases h1;cases h2;exact .int _ _
    |1=>cases h1;cases h2;exact .int _ _
    |i+2=>cases h1)
  |i+3=>cases h1
 ·exact S3.trans ((Steps.one stepR_block).trans (S4.trans (S6.trans L6)))
end Go.Proofs.YtkmnkiekmlcfdaaGreatDoor
end
