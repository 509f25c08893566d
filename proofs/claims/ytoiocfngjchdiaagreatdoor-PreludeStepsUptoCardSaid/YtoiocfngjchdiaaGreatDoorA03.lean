import Derived.Test.YtoiocfngjchdiaaGreatDoorA02
import Derived.Laws.Slices
import Derived.Laws.Strings2
import Derived.MapKept
set_option linter.all false
namespace Go.AM
variable {P:Program}{ans:FuncId->AF}{an:AF}{w:World}{B0:Nat}{Ψ:HT}{J:List Nat}{ow:Own}{tmps:Array Value}{R:Type}{r:R}
variable {tm:List Slot}{rs:RS}{m:Machine}{mk mp:Value->World->Machine}{kp:AVal->RS->Option R}{k:Slot->RS->Option R}{ds:List Deferred}
variable {drawn AA tk:Bool}{D1:List Nat}{cf:aJ}{dst:Option Nat}{ty:TypeId}{pos:String}{AJ:Array Edge}{gd:Option (Nat×Bool)}
abbrev ev(tmps:Array Value)(ds:List Deferred):Operand->Value:=(⟨tmps,ds⟩:Act).eval
structure Ex (P:Program) (tmps:Array Value) (ds:List Deferred) (w:World) (o:Oper) (m:Machine) (mk:Value->World->Machine):Prop where
 val:∀v w',(execOp (ev tmps ds) o).run P w=.ok (.value v) w'->Steps P m (mk v w')
 skip:∀w',(execOp (ev tmps ds) o).run P w=.ok .skip w'->Steps P m (mk undef w')
theorem nW{d:Bool}{l:List Nat}{p:Place}{K:Option R}(e:bM d l p K=some r):K=some r:=by
 unfold bM at e
 split at e
 ·exact e
 ·split at e
  ·exact(aA e).2
  ·exact(aA e).2
theorem il{d:Bool}{p:Place}{K:Option R}(e:fV d p K=some r):K=some r:=by
 unfold fV at e
 split at e
 ·exact e
 ·split at e
  ·exact e
  ·cases e
theorem aGI(h:Rel P ans B0 w Ψ J ow an (sl an tm rs) tmps rs.sto.objs){x:Operand}(X:Ex P tmps ds w ⟨dst,.move x,ty,pos,AJ,gd⟩ m mk)(e:aB P ans an drawn AA D1 cf tm tk ⟨dst,.move x,ty,pos,AJ,gd⟩ rs kp k=some r):Goal P ans an w B0 Ψ J ow tmps tm rs dst m mk mp kp k r :=
 aDc (ds:=ds) h (by simpa only[aB] using e) (X.val _ _ (by simp[execOp]))
theorem aAC(h:Rel P ans B0 w Ψ J ow an (sl an tm rs) tmps rs.sto.objs){x:Operand}(X:Ex P tmps ds w ⟨dst,.assign x,ty,pos,AJ,gd⟩ m mk)(e:aB P ans an drawn AA D1 cf tm tk ⟨dst,.assign x,ty,pos,AJ,gd⟩ rs kp k=some r):Goal P ans an w B0 Ψ J ow tmps tm rs dst m mk mp kp k r :=
 aDc (ds:=ds) h (by simpa only[aB] using e) (X.val _ _ (by simp[execOp]))
theorem aGJ(h:Rel P ans B0 w Ψ J ow an (sl an tm rs) tmps rs.sto.objs){c a b:Operand}(X:Ex P tmps ds w ⟨dst,.pick c a b,ty,pos,AJ,gd⟩ m mk)(e:aB P ans an drawn AA D1 cf tm tk ⟨dst,.pick c a b,ty,pos,AJ,gd⟩ rs kp k=some r):Goal P ans an w B0 Ψ J ow tmps tm rs dst m mk mp kp k r:=by
 simp only[aB] at e;obtain⟨t,hs,_⟩:=bG (ds:=ds) h c;obtain⟨tt,e,hc,_⟩:=yW hs e;cases tt with
 |true =>
  obtain⟨u,hu,_⟩:=bG (ds:=ds) h a;exact wm h hu (pU h a) e (X.val _ _ (by simp[execOp,ev,hc,Go.asBool]))
 |false =>
  obtain⟨u,hu,_⟩:=bG (ds:=ds) h b;exact wm h hu (pU h b) e (X.val _ _ (by simp[execOp,ev,hc,Go.asBool]))
theorem newLocal{z:List Cell}{vs:List Value}{T:TypeId}{d:Nat}(hd:dst=some d)(hl:an.loc.contains d=true){BO:Own}(hF:Fr w Ψ ow w Ψ BO){rs1:RS}(h1:Rel P ans B0 w Ψ J BO an (sl an tm rs1) tmps rs1.sto.objs)(A7:rs1.sto=rs.sto)
  (hz:CsRel w B0 Ψ J BO false an.nt z vs) (e:k (.box z) rs1=some r) (hs:Steps P m (mk (.pointer (some ⟨w.heap.size,0,none⟩)) (w.alloc (.cells ⟨vs⟩ T)))):Goal P ans an w B0 Ψ J ow tmps tm rs dst m mk mp kp k r:=by
 obtain⟨a1,a2,a3⟩:=aMt (T:=T) h1 hz;exact .inl ⟨_,_,_,_,_,J,_,e,a1,a2,(λu o he=>by cases he),(λcs _=>⟨d,hd,hl⟩),hF.trans a3,aG _,by rw[A7];exact StoLe.refl _,hs⟩
theorem aDj(h:Rel P ans B0 w Ψ J ow an (sl an tm rs) tmps rs.sto.objs){z:List Cell}{vs:List Value}{T:TypeId}{BO:Own}(AP:rs.sto.lo<=rs.sto.objs.length)(hF:Fr w Ψ ow w Ψ BO){rs1:RS}(h1:Rel P ans B0 w Ψ J BO an (sl an tm rs1) tmps rs1.sto.objs)(A7:rs1.sto=rs.sto)
  (hz:CsRel w B0 Ψ J BO false an.nt z vs) (e:k (.val (.loc rs1.sto.objs.length 0)) { rs1 with sto:={ rs1.sto with objs:=rs1.sto.objs++[.box z] } }=some r)
  (hs:Steps P m (mk (.pointer (some ⟨w.heap.size,0,none⟩)) (w.alloc (.cells ⟨vs⟩ T)))):Goal P ans an w B0 Ψ J ow tmps tm rs dst m mk mp kp k r:=by
 have hl:=h1.objs.1;have Ki:∀b,BO b≠none->b<w.heap.size:=h1.lt
 let B5:=ren BO false an.nt true rs1.sto.objs.length 0
 have hn:ORel (w.alloc (.cells ⟨vs⟩ T)) B0 Ψ (J++[w.heap.size]) (oset B5 w.heap.size (some (true,rs1.sto.objs.length,0))) ans rs1.sto.objs.length (.box z) w.heap.size:=by
  refine .box _ _ ⟨by simp[oset],h.base,h.wsat.none_of_ge (Af _),vs,T,heap_alloc_new _,?_⟩;refine hz.mono Ψ.le_refl ?_ ?_
  ·rw[Bs (by simp[hl])];exact dW _ _
  ·intro b s hb
   have BB:=Ki b (by simp[hb]);exact⟨by simp[oset,show ¬b=w.heap.size by omega,B5,ren,hb],heap_alloc_old _ BB,λ_ h=>h⟩
 obtain⟨g1,g2⟩:=zG (o:=.cells ⟨vs⟩ T) h1 B5 (λb hb=>mM _ hb) (λkk i hk=>gI _ _ _ hk) hn;refine .inl ⟨_,_,_,_,Ψ,J++[w.heap.size],_,e,g1,?_,(λu o he=>by cases he),(λcs he=>by cases he),hF.trans g2,dW _ _,?_,hs⟩
 ·refine .val _ _ (.loc _ _ _ ?_)
  rw[Bi (by rw[hl];exact Af _)];simp[hl]
 ·rw[A7]
  exact⟨rfl,by simp,λi hi=>by rw[Az (by omega)]⟩
theorem aDs(h:Rel P ans B0 w Ψ J ow an (sl an tm rs) tmps rs.sto.objs){t:TypeId}(AP:rs.sto.lo<=rs.sto.objs.length)(X:Ex P tmps ds w ⟨dst,.alloc t,ty,pos,AJ,gd⟩ m mk)(e:aB P ans an drawn AA D1 cf tm tk ⟨dst,.alloc t,ty,pos,AJ,gd⟩ rs kp k=some r):Goal P ans an w B0 Ψ J ow tmps tm rs dst m mk mp kp k r:=by
 simp only[aB] at e;obtain⟨z,hz,e⟩:=aH e;obtain⟨s,_,e⟩:=aH e;obtain⟨_,e⟩:=aA e;obtain⟨v,hv,Ic⟩:=oC (w:=w) (B0:=B0) (Ψ:=Ψ) (J:=J) (ow:=ow) hz false an.nt
 have BA:(execOp (ev tmps ds) ⟨dst,.alloc t,ty,pos,AJ,gd⟩).run P w=.ok (.value (.pointer (some ⟨w.heap.size,0,none⟩))) (w.alloc (.cells ⟨v.cells.toList⟩ t)):=by
  simp[execOp,Instr.alloc,aU hv,newVar,newRow]
 cases dst with
 |none=>simp at e
 |some d =>
  simp only at e
  split at e
  ·exact newLocal rfl (by assumption) (Fr.refl _ _ _) h rfl Ic e (X.val _ _ BA)
  ·exact aDj h AP (Fr.refl _ _ _) h rfl Ic e (X.val _ _ BA)
theorem aMu(h:Rel P ans B0 w Ψ J ow an (sl an tm rs) tmps rs.sto.objs){z:List Cell}{vs:List Value}{T:TypeId}{BO:Own}(hF:Fr w Ψ ow w Ψ BO){rs1:RS}(h1:Rel P ans B0 w Ψ J BO an (sl an tm rs1) tmps rs1.sto.objs)(A7:rs1.sto=rs.sto)
  (hz:CsRel w B0 Ψ J BO false an.nt z vs) (hf:z.all lQ=true) (e:k (.val (.cptr (.agg (z.map Cell.get)))) rs1=some r)
  (hs:Steps P m (mk (.pointer (some ⟨w.heap.size,0,none⟩)) (w.alloc (.cells ⟨vs⟩ T)))):Goal P ans an w B0 Ψ J ow tmps tm rs dst m mk mp kp k r:=by
 have hτ:∀off c,(λoff=>(z.map Cell.get)[off]?) off=some c->flat c=true/\∃v,(w.alloc (.cells ⟨vs⟩ T)).cell? ⟨w.heap.size,off,none⟩=some v/\VRel Ψ [] c v:=λoff c hc=>by
  simp only[Av,Ap] at hc;obtain⟨cc,Jz,rfl⟩:=hc;have Tc:=As.1 hf cc (Ba Jz);simp only[lQ,Ac] at Tc;have EI:off<vs.length:=by rw[<-hz.1];exact(Ab.1 Jz).1
  refine⟨Tc.1,vs[off],by rw[cell_of_heap (heap_alloc_new _)];simp[EI],?_⟩;exact((hz.2 off cc vs[off] Jz (by simp[EI])).get).2.flat Tc.1
 have hR:=h1.alloc (o:=.cells ⟨vs⟩ T) (τ:=λoff=>(z.map Cell.get)[off]?) (id:=none) hτ;have JA:=Fr.alloc (ow:=BO) (o:=.cells ⟨vs⟩ T) (τ:=λoff=>(z.map Cell.get)[off]?) (id:=none) h1.wsat
 have hoo:oset BO w.heap.size none=BO:=by
  funext b;unfold oset;split
  ·subst_vars
   cases e1:BO w.heap.size with
   |none=>rfl
   |some y=>have:=h1.lt w.heap.size (by simp[e1]);omega
  ·rfl
 rw[hoo] at hR JA;refine .inl ⟨_,rs1,_,_,_,J,BO,e,hR,.val _ _ (.cptr _ _ 0 λj c hc=>?_),(λu o he=>by cases he),(λcs he=>by cases he),hF.trans JA,aG _,by rw[A7];exact StoLe.refl _,hs⟩;simp only[AVal.cells] at hc;simpa[fD] using hc
theorem aMM(h:Rel P ans B0 w Ψ J ow an (sl an tm rs) tmps rs.sto.objs){t:TypeId}{x:Operand}(AP:rs.sto.lo<=rs.sto.objs.length)(X:Ex P tmps ds w ⟨dst,.box t x,ty,pos,AJ,gd⟩ m mk)(e:aB P ans an drawn AA D1 cf tm tk ⟨dst,.box t x,ty,pos,AJ,gd⟩ rs kp k=some r):Goal P ans an w B0 Ψ J ow tmps tm rs dst m mk mp kp k r:=by
 simp only[aB] at e;obtain⟨cs,rs1,BO,e,h1,CK,hF,A7,_,_⟩:=fc (ds:=ds) h an.nt e;obtain⟨s,_,e⟩:=aH e;obtain⟨_,e⟩:=aA e
 have BA:(execOp (ev tmps ds) ⟨dst,.box t x,ty,pos,AJ,gd⟩).run P w=.ok (.value (.pointer (some ⟨w.heap.size,0,none⟩))) (w.alloc (.cells ⟨(ev tmps ds x).cells.toList⟩ t)):=by
  simp[execOp,Instr.box,newVar,newRow]
 cases dst with
 |none=>simp at e
 |some d =>
  simp only at e
  split at e
  ·exact newLocal rfl (by assumption) hF h1 A7 CK e (X.val _ _ BA)
  ·split at e
   ·rename_i I1
    exact aMu h hF h1 A7 CK (Bool.and_eq_true_iff.1 I1).2 e (X.val _ _ BA)
   ·obtain⟨_,e⟩:=aA e
    exact aDj h AP hF h1 A7 CK e (X.val _ _ BA)
theorem aDu(h:Rel P ans B0 w Ψ J ow an (sl an tm rs) tmps rs.sto.objs){t:TypeId}{parts:Array (Nat×Operand)}(X:Ex P tmps ds w ⟨dst,.build t parts,ty,pos,AJ,gd⟩ m mk)(e:aB P ans an drawn AA D1 cf tm tk ⟨dst,.build t parts,ty,pos,AJ,gd⟩ rs kp k=some r):Goal P ans an w B0 Ψ J ow tmps tm rs dst m mk mp kp k r:=by
 simp only[aB] at e;obtain⟨z,hz,e⟩:=aH e
 have fin:∀{place:Nat->Option (Nat×Nat)}{l:List (Nat×AVal)}{cs:List Cell},l.length=parts.toList.length ->
   (∀(n:Nat)(p:Nat×AVal)(q:Nat×Operand),l[n]?=some p->parts.toList[n]?=some q->p.1=q.1/\VRel Ψ J p.2 (ev tmps ds q.2))->eY place z l=some cs->k (.cells cs) rs=some r ->
   (∀zv,(P.info? t).bind (·.zero)=some zv->P.built t (parts.map λ(i,x)=>(i,ev tmps ds x)).toList=Instr.fill place zv.cells (parts.map λ(i,x)=>(i,ev tmps ds x)).toList)->Goal P ans an w B0 Ψ J ow tmps tm rs dst m mk mp kp k r:=λhl hr hf hk hb=>by
  obtain⟨vs,BA,CK⟩:=aBS (ds:=ds) h hz hl hr hf hb;exact .plain h hk (.cells _ _ CK) (λ_ _ e=>by cases e) (λ_ e=>by cases e) (X.val _ _ (by simp[execOp,BA]))
 split at e
 ·rename_i fs hu
  obtain⟨l,e,hl,hr⟩:=mW (ds:=ds) h e;obtain⟨places,hp,e⟩:=aH e;obtain⟨cs,hf,e⟩:=aH e;refine fin hl hr hf e λzv IM=>?_
  cases hi:P.info? t with
  |none=>simp[hi] at IM
  |some it =>
   simp[hi] at IM;simp[Program.built,hi,hu,IM,hp]
 ·rename_i n el hu
  obtain⟨l,e,hl,hr⟩:=mW (ds:=ds) h e;obtain⟨s,hs,e⟩:=aH e;obtain⟨cs,hf,e⟩:=aH e;refine fin hl hr hf e λzv IM=>?_
  cases hi:P.info? t with
  |none=>simp[hi] at IM
  |some it =>
   simp[hi] at IM;cases Jx:P.info? el with
   |none=>simp[aP,Jx] at hs
   |some ie =>
    simp[aP,Jx] at hs;simp[Program.built,hi,hu,IM,Jx,hs]
 ·cases e
theorem yF(h:Rel P ans B0 w Ψ J ow an (sl an tm rs) tmps rs.sto.objs){t:TypeId}{len:Nat}{parts:Array (Nat×Operand)}(X:Ex P tmps ds w ⟨dst,.buildSlice t len parts,ty,pos,AJ,gd⟩ m mk)(e:aB P ans an drawn AA D1 cf tm tk ⟨dst,.buildSlice t len parts,ty,pos,AJ,gd⟩ rs kp k=some r):Goal P ans an w B0 Ψ J ow tmps tm rs dst m mk mp kp k r:=by
 simp only[aB] at e;obtain⟨el,J9,e⟩:=aH e;obtain⟨s,hs,e⟩:=aH e;obtain⟨hg,e⟩:=aA e;obtain⟨l,e,hl,hr⟩:=mW (ds:=ds) h e;obtain⟨z,hz,e⟩:=aH e;obtain⟨ES,e⟩:=aA e;obtain⟨xs,hf,e⟩:=aH e
 have hu:P.underlying t=some (.slice el):=by
  unfold aO at J9
  split at J9
  ·rename_i e' he;cases J9;exact he
  ·cases J9
 simp only[Ac] at hg ES;obtain⟨v,w',Z',BA,hR,hS,hF⟩:=x8 (ds:=ds) h hu hs (by simpa[Ct] using hg.1) (Ad hg.2) hz (Aa ES.1) ES.2 hl hr hf;exact .inl ⟨_,rs,v,w',Z',J,ow,e,hR,hS,(λu o he=>by cases he),(λcs he=>by cases he),hF,aG _,StoLe.refl _,X.val _ _ (by simp[execOp,BA])⟩
theorem aGH(h:Rel P ans B0 w Ψ J ow an (sl an tm rs) tmps rs.sto.objs){t:TypeId}{a:Operand}(X:Ex P tmps ds w ⟨dst,.load t a,ty,pos,AJ,gd⟩ m mk)(e:aB P ans an drawn AA D1 cf tm tk ⟨dst,.load t a,ty,pos,AJ,gd⟩ rs kp k=some r):Goal P ans an w B0 Ψ J ow tmps tm rs dst m mk mp kp k r:=by
 simp only[aB] at e;obtain⟨p,e,hp⟩:=iP (ds:=ds) h e;have e:=il (nW e);obtain⟨cs,off,b,o,e,hv,hrd,MS,JV⟩:=hH h hp e;obtain⟨s,hs,e⟩:=aH e;obtain⟨agg,D4,e⟩:=aH e;have BA:∀v,(loadVar t ⟨b,o,none⟩).run P w=.ok v w->Steps P m (mk v w):=λv hl=>X.val _ _ (by simp[execOp,Instr.loadAt,ev,hv,Instr.sureAddr,hl])
 cases agg with
 |true =>
  simp only at e;obtain⟨x,hx,e⟩:=aH e;obtain⟨v,hl,OS⟩:=jg (P:=P) hrd D4 hs hx;exact .val h e OS (BA v hl)
 |false =>
  simp only at e
  replace e:=(aA e).2
  have one:∀c,cs[off]?=some c->k (.val c.get) rs=some r->Goal P ans an w B0 Ψ J ow tmps tm rs dst m mk mp kp k r:=λc hc e=>by
   obtain⟨v,hl,OS⟩:=jh (P:=P) hrd D4 hc;exact .val h e OS (BA v hl)
  cases CK:cs[off]? with
  |none=>cases tk<;>simp[CK] at e
  |some c =>
   cases c with
   |val c=>cases tk<;>exact one _ CK (by simpa[CK] using e)
   |own sz xs =>
    cases tk with
    |false=>exact one _ CK (by simpa[CK] using e)
    |true =>
     simp only[CK] at e;obtain⟨u,hu,_,XI⟩:=hrd 0 _ (by simpa using CK);have HN:w.cell? ⟨b,o,none⟩=some u:=by simpa using hu
     have A7:=BA u (run_loadVar_one D4 HN);cases p with
     |loc t' o' =>
      obtain⟨l1,l2,l3,l4⟩:=MS t' o' rfl;simp only[bR] at e;subst l2;obtain⟨g1,g2⟩:=aEc h l1 l4 l3 CK HN;refine .inl ⟨_,_,_,w,Ψ,J,_,e,?_,.own _ _ _ g2,(λu o he=>by cases he),(λcs he=>by cases he),?_,aG _,StoLe.refl _,A7⟩
      ·rw[show sl an tm (rs.put t' (.box (cs.set off (.val (.slice xs)))))=upd (sl an tm rs) t' (.box (cs.set off (.val (.slice xs)))) from eK _ _ _ _ _];exact g1
      ·exact⟨Ψ.le_refl,Af _,λ_ _ _=>⟨rfl,λ_=>rfl⟩,λb hb=>.inl (nK hb),rfl,rfl,rfl⟩
     |obj i o' =>
      obtain⟨l1,l2,l3,l4⟩:=JV i o' rfl;simp only[bR] at e;obtain⟨hg,e⟩:=aA e;simp only[Ac] at hg;subst l2;obtain⟨g1,g2⟩:=aEd h l1 l3 l4 CK HN;refine .inl ⟨_,_,_,w,Ψ,J,_,e,g1,.own _ _ _ g2,(λu o he=>by cases he),(λcs he=>by cases he),?_,aG _,⟨rfl,by simp,λj hj=>?_⟩,A7⟩
      ·exact⟨Ψ.le_refl,Af _,λ_ _ _=>⟨rfl,λ_=>rfl⟩,λb hb=>.inl (nK hb),rfl,rfl,rfl⟩
      ·have:=Ad hg.1
       simp[Cb,show ¬i=j by omega]
     |imm x=>simp[bR] at e
theorem gl{t:TypeId}{a x:Operand}{k:RS->Option R}(e:ov P t an.keep tm rs a x k=some r):∃i j ty f g b e',A6 an.keep tm rs a=.val (.loc i 1)/\A6 an.keep tm rs x=.val (.iface ty (.loc j 0)) /\
  rs.sto.objs[i]?=some (.box [.val (.str f),.val .nilif,.val e'])/\rs.sto.objs[j]?=some (.box [.val (.str g),.val b,.val (.loc i 0)])/\aP P t=some 1/\i<j/\rs.sto.lo<=i/\flat e'=true/\flat b=true /\
  k { rs with sto:={ rs.sto with objs:=(rs.sto.objs.set i (.frz (.rc ty f g b e'))).set j (.frz (.cptr (.agg [.str g,b,.rc ty f g b e']))) } }=some r:=by
 unfold ov at e
 split at e
 ·rename_i i ty j h1 h2
  split at e
  ·rename_i f e' g b i' h3 h4
   obtain⟨s,hs,e1⟩:=aH e;obtain⟨hg,e2⟩:=aA e1;clear e e1;simp only[Ac] at hg;obtain⟨⟨⟨⟨⟨g1,g2⟩,g3⟩,g4⟩,g5⟩,g6⟩:=hg;obtain rfl:=Aa g1;obtain rfl:=Aa g2;exact⟨i,j,ty,f,g,b,e',h1,h2,h3,h4,hs,by simpa[Ct] using g3,Ad g4,g5,g6,e2⟩
  ·cases e
 ·cases e
theorem aLC(h:Rel P ans B0 w Ψ J ow an (sl an tm rs) tmps rs.sto.objs){t:TypeId}{a x:Operand}(X:Ex P tmps ds w ⟨dst,.store t a x,ty,pos,AJ,gd⟩ m mk)
  (e:ov P t an.keep tm rs a x (λAX=>k .dead AX)=some r):Goal P ans an w B0 Ψ J ow tmps tm rs dst m mk mp kp k r:=by
 obtain⟨i,j,tI,f,g,y,z,ha,hx,hi,hj,hs,Gw,AP,I1,MZ,e⟩:=gl e;obtain⟨ta,Sx,_⟩:=bG (ds:=ds) h a;obtain⟨tx,CC,_⟩:=bG (ds:=ds) h x;rw[ha] at Sx;rw[hx] at CC;obtain⟨bi,I4,oi⟩:=h.objs.2 i _ hi;obtain⟨bj,NH,oj⟩:=h.objs.2 j _ hj
 have hva:ev tmps ds a=.pointer (some ⟨bi,1,none⟩):=by
  show(⟨tmps,ds⟩:Act).eval a=_;generalize(⟨tmps,ds⟩:Act).eval a=u at Sx;cases Sx with|val _ _ hv=>cases hv with|loc _ _ b hb=>rw[I4] at hb;cases hb;rfl
 have LU:ev tmps ds x=.iface tI (.pointer (some ⟨bj,0,none⟩)):=by
  show(⟨tmps,ds⟩:Act).eval x=_;generalize(⟨tmps,ds⟩:Act).eval x=u at CC;cases CC with|val _ _ hv=>cases hv with|iface _ _ u hu=>cases hu with|loc _ _ b hb=>rw[NH] at hb;cases hb;rfl
 cases oi with
 |box _ _ oi =>
 cases oj with
 |box _ _ oj =>
 obtain⟨wi,_,fi,vi,Ti,gi,li,ri⟩:=oi;obtain⟨wj,_,fj,vj,Tj,gj,lj,rj⟩:=oj
 match vi,li with
 |[v0,v1,v2],_ =>
 match vj,lj with
 |[u0,u1,u2],_ =>
 have c0:v0=.string ⟨⟨f⟩⟩:=by have:=ri 0 _ _ rfl rfl;cases this with|val _ _ _ hv=>cases hv;rfl
 have c2:VRel Ψ [] z v2:=by have:=ri 2 _ _ rfl rfl;cases this with|val _ _ _ hv=>exact hv.flat I1
 have d0:u0=.string ⟨⟨g⟩⟩:=by have:=rj 0 _ _ rfl rfl;cases this with|val _ _ _ hv=>cases hv;rfl
 have d1:VRel Ψ [] y u1:=by have:=rj 1 _ _ rfl rfl;cases this with|val _ _ _ hv=>exact hv.flat MZ
 have d2:u2=.pointer (some ⟨bi,0,none⟩):=by
  have:=rj 2 _ _ rfl rfl
  cases this with|val _ _ _ hv=>cases hv with|loc _ _ b hb =>
   rw[Bh] at hb
   split at hb
   ·rw[I4] at hb;cases hb;rfl
   ·cases hb
 subst c0 d0 d2;have BD:bi≠bj:=λe0=>by rw[e0,wj] at wi;cases wi;omega
 have TU:bi<w.heap.size:=(Ai.1 gi).1;have Od:bj<w.heap.size:=(Ai.1 gj).1
 let vN:Value:=.iface tI (.pointer (some ⟨bj,0,none⟩))
 let w':World:=w.putObj bi (.cells ⟨[.string ⟨⟨f⟩⟩,vN,v2]⟩ Ti (0,0))
 have hw'i:w'.heap[bi]?=some (.cells ⟨[.string ⟨⟨f⟩⟩,vN,v2]⟩ Ti (0,0)):=World.putObj_heap_same TU;have F6:∀b,b≠bi->w'.heap[b]?=w.heap[b]?:=λb hb=>Bk (λe0=>hb e0.symm)
 have BC:w'.heap.size=w.heap.size:=by simp[w',World.putObj]
 have A7:Steps P m (mk undef w'):=by
  refine X.skip _ ?_
  have:=eQ (P:=P) (t:=t) (o:=1) (v:=vN) hs gi (λu hu=>by simp[vN,Value.cells] at hu;subst hu;rfl) (by simp[vN,Value.cells])
  simp only[ev] at hva LU;simp[execOp,Instr.storeAt,hva,LU,Instr.sureAddr];simp only[vN] at this;simp[this,w',vN,overwrite,Value.cells]
 let R:AVal:=.rc tI f g y z
 let Z':HT:=λb o c=>Ψ b o c\/(b=bi/\(R0 tI f g y z).cells[o]?=some c)\/(b=bj/\[AVal.str g,y,R][o]?=some c)
 have hΨ:Ψ.le Z':=λb o c hc=>.inl hc
 have Ks:∀b,b≠bi->b≠bj->∀o,Z' b o=Ψ b o:=λb h1 h2 o=>by
  funext c;exact propext ⟨λhc=>by rcases hc with hc|⟨e0,_⟩|⟨e0,_⟩;exact hc;exact absurd e0 h1;exact absurd e0 h2,.inl⟩
 have hR:VRel Z' [] R (.pointer (some ⟨bi,0,none⟩)):=.rc _ _ _ _ _ bi 0 λq c hc=>.inr (.inl ⟨rfl,by simpa using hc⟩)
 have hC:VRel Z' [] (.cptr (.agg [.str g,y,R])) (.pointer (some ⟨bj,0,none⟩)):=.cptr _ bj 0 λq c hc=>.inr (.inr ⟨rfl,by simpa[AVal.cells] using hc⟩)
 have Jg:∀o,w'.cell? ⟨bi,o,none⟩=[Value.string ⟨⟨f⟩⟩,vN,v2][o]?:=λo=>cell_of_heap hw'i o
 have Jf:∀o,w'.cell? ⟨bj,o,none⟩=[Value.string ⟨⟨g⟩⟩,u1,.pointer (some ⟨bi,0,none⟩)][o]?:=λo=>cell_of_heap ((F6 bj (λe0=>BD e0.symm)).trans gj) o
 have CH:∀b o c,Ψ b o c->b≠bi/\b≠bj:=λb o c hc=>⟨λe0=>by subst e0;rw[fi o] at hc;exact hc,λe0=>by subst e0;rw[fj o] at hc;exact hc⟩
 have hw:WSat Z' w':=⟨by rw[BC];exact h.wsat.size8,λb o c hc=>by
  rcases hc with hc|⟨rfl,hc⟩|⟨rfl,hc⟩
  ·obtain⟨h1,v,h2,h3⟩:=h.wsat.sat b o c hc
   exact⟨h1,v,(cell_congr (F6 b (CH b o c hc).1) o).trans h2,h3.mono hΨ (aG _)⟩
  ·rw[Jg]
   match o with
   |0=>cases hc;exact⟨rfl,_,rfl,.str _⟩
   |1=>cases hc;exact⟨rfl,_,rfl,.iface _ _ _ hC⟩
   |2=>cases hc;exact⟨I1,_,rfl,c2.mono hΨ (aG _)⟩
   |o+3=>cases hc
  ·rw[Jf]
   match o with
   |0=>cases hc;exact⟨rfl,_,rfl,.str _⟩
   |1=>cases hc;exact⟨MZ,_,rfl,d1.mono hΨ (aG _)⟩
   |2=>cases hc;exact⟨rfl,_,rfl,hR⟩
   |o+3=>cases hc⟩
 let AQ:Own:=λb=>if b=bi\/b=bj then none else ow b
 have CA:∀kk q,(kk=false\/q≠i/\q≠j)->Same w Ψ ow w' Z' AQ kk q kk q:=λkk q hq b s hb=>by
  have h1:b≠bi:=λe0=>by subst e0;rw[wi] at hb;cases hb;rcases hq with hq|hq;cases hq;exact hq.1 rfl
  have h2:b≠bj:=λe0=>by subst e0;rw[wj] at hb;cases hb;rcases hq with hq|hq;cases hq;exact hq.2 rfl
  exact⟨by simp[AQ,h1,h2,hb],F6 b h1,λo ho=>by rw[Ks b h1 h2 o];exact ho⟩
 have Js:OsRel w' B0 Z' J AQ ans ((rs.sto.objs.set i (.frz R)).set j (.frz (.cptr (.agg [.str g,y,R])))):=by
  refine⟨by simp[h.objs.1],λq o ho=>?_⟩;rw[Cb] at ho
  split at ho
  ·rename_i hq
   subst hq
   split at ho
   ·cases ho;exact⟨bj,NH,.frz _ _ hC⟩
   ·cases ho
  ·rename_i hq
   rw[Cb] at ho
   split at ho
   ·rename_i Jq
    subst Jq
    split at ho
    ·cases ho;exact⟨bi,I4,.frz _ _ hR⟩
    ·cases ho
   ·rename_i Jq
    obtain⟨b,h1,h2⟩:=h.objs.2 q o ho;exact⟨b,h1,h2.mono hΨ (aG _) (CA true q (.inr ⟨λe0=>Jq e0.symm,λe0=>hq e0.symm⟩))⟩
 have M9:Rel P ans B0 w' Z' J AQ an (sl an tm rs) tmps ((rs.sto.objs.set i (.frz R)).set j (.frz (.cptr (.agg [.str g,y,R])))) :=
  ⟨h.size,hw,λq=>(h.slots q).mono hΨ (aG _) (CA false q (.inl rfl)) (λ_ _ _=>rfl),h.refs,h.boxes,Js,λb hb=>by
   have:ow b≠none:=λe0=>hb (by simp only[AQ];split<;>first|rfl|exact e0)
   rw[BC];exact h.lt b this,by rw[BC];exact h.base,h.hi⟩
 refine .inl ⟨.dead,_,undef,w',Z',J,AQ,e,M9,.dead _,(λu o he=>by cases he),(λcs he=>by cases he),⟨hΨ,by rw[BC];exact Af _,λb hb Hj=>?_,λb hb=>.inl λe0=>hb (by simp only[AQ];split<;>first|rfl|exact e0),rfl,rfl,rfl⟩,aG _,⟨rfl,by simp,λq hq=>?_⟩,A7⟩
 ·have h1:b≠bi:=λe0=>by subst e0;rw[wi] at Hj;cases Hj
  have h2:b≠bj:=λe0=>by subst e0;rw[wj] at Hj;cases Hj
  exact⟨F6 b h1,Ks b h1 h2⟩
 ·show((rs.sto.objs.set i _).set j _)[q]?=_
  rw[Dj (by omega),Dj (by omega)]
theorem aDx(h:Rel P ans B0 w Ψ J ow an (sl an tm rs) tmps rs.sto.objs){t:TypeId}{a x:Operand}(X:Ex P tmps ds w ⟨dst,.store t a x,ty,pos,AJ,gd⟩ m mk)(e:aB P ans an drawn AA D1 cf tm tk ⟨dst,.store t a x,ty,pos,AJ,gd⟩ rs kp k=some r):Goal P ans an w B0 Ψ J ow tmps tm rs dst m mk mp kp k r:=by
 simp only[aB] at e;cases tk with
 |true=>exact aLC h X (aA e).2
 |false =>
 simp only at e;obtain⟨p,e,hp⟩:=iP (ds:=ds) h e;have e:=nW e;obtain⟨cs,off,b,o,e,hv,hrd,MS,JV⟩:=hH h hp e;obtain⟨s,hs,e⟩:=aH e;obtain⟨new,rs1,BO,e,h1,hn,hF,A7,CA,H4⟩:=uL (ds:=ds) h an.nt e;obtain⟨hg,e⟩:=aA e;simp only[Ac] at hg;have Jv:new.length=s:=Aa hg.1;have hle:off+s<=cs.length:=Ad hg.2;have E0:(ev tmps ds x).cells.size=s:=by rw[<-Jv,hn.1];simp
 have BA:∀vs T,w.heap[b]?=some (.cells ⟨vs⟩ T (0,0))->cs.length=vs.length->off=o->Steps P m (mk undef (w.putObj b (.cells ⟨overwrite vs o (ev tmps ds x).cells.toList⟩ T (0,0)))):=λvs T hh hl ho=>by
  refine X.skip _ ?_
  have:=eQ (P:=P) (t:=t) (o:=o) (v:=ev tmps ds x) (by rw[E0];exact hs) hh hn.one (by rw[E0];omega)
  simp[execOp,Instr.storeAt,ev,hv,Instr.sureAddr];simp[ev] at this;simp[this]
 cases p with
 |loc t' o' =>
  obtain⟨l1,l2,l3,l4⟩:=MS t' o' rfl;simp only[bR] at e;subst l2;have OL:=H4 t' cs l1;obtain⟨b1,b2,b3,vs,T,b4,b5⟩:=l3;have FG:=h1.slots t';rw[OL,l4] at FG;cases FG with
  |box _ _ E8 =>
   obtain⟨c1,c2,c3,CE,T',c4,c5⟩:=E8;have hR:=aAT h1 OL l4 ⟨c1,c2,c3,CE,T',c4,c5⟩ c4 c5 hn (by rw[Jv];exact hle);refine .inl ⟨.dead,_,undef,w.putObj b (.cells ⟨overwrite CE off (ev tmps ds x).cells.toList⟩ T' (0,0)),Ψ,J,ren BO false an.nt false t' off,e,?_,.dead _,(λu o he=>by cases he),(λcs he=>by cases he),hF.trans (Fr.put (by simp[c1]) (λx hx=>mM _ hx)),aG _,by show StoLe rs.sto rs1.sto;rw[A7];exact StoLe.refl _,BA CE T' c4 c5.1 rfl⟩;rw[show sl an tm (rs1.put t' (.box (setCells cs off new)))=upd (sl an tm rs1) t' (.box (setCells cs off new)) from eK _ _ _ _ _];exact hR
 |obj i o' =>
  obtain⟨l1,l2,l3,l4⟩:=JV i o' rfl;simp only[bR] at e;obtain⟨ES,e⟩:=aA e;simp only[Ac] at ES;subst l2;have OL:rs1.sto.objs[i]?=some (.box cs):=by rw[A7];exact l1
  obtain⟨b',BB,MI⟩:=h1.objs.2 i _ OL;obtain rfl:b=b':=by rw[l3] at BB;exact Bp BB
  cases MI with
  |box _ _ E8 =>
   obtain⟨c1,c2,c3,CE,T',c4,c5⟩:=E8;have hR:=aAU h1 OL l3 ⟨c1,c2,c3,CE,T',c4,c5⟩ c4 c5 hn (by rw[Jv];exact hle) ES.2;refine .inl ⟨.dead,_,undef,w.putObj b (.cells ⟨overwrite CE off (ev tmps ds x).cells.toList⟩ T' (0,0)),Ψ,J,ren BO false an.nt true i off,e,hR,.dead _,(λu o he=>by cases he),(λcs he=>by cases he),hF.trans (Fr.put (by simp[c1]) (λx hx=>mM _ hx)),aG _,⟨by rw[<-A7],by rw[<-A7];simp,λj hj=>?_⟩,BA CE T' c4 c5.1 rfl⟩
   have:=Ad ES.1
   rw[A7] at this;rw[<-A7];simp[Cb,show ¬i=j by omega]
 |imm y=>simp[bR] at e
theorem ju(h:Rel P ans B0 w Ψ J ow an (sl an tm rs) tmps rs.sto.objs){x:Operand}(X:Ex P tmps ds w ⟨dst,.nilCheck x,ty,pos,AJ,gd⟩ m mk)(e:aB P ans an drawn AA D1 cf tm tk ⟨dst,.nilCheck x,ty,pos,AJ,gd⟩ rs kp k=some r):Goal P ans an w B0 Ψ J ow tmps tm rs dst m mk mp kp k r:=by
 simp only[aB] at e;obtain⟨t,hs,ht⟩:=bG (ds:=ds) h x;have JT:∀a,ev tmps ds x=.pointer (some a)->Steps P m (mk (.pointer (some a)) w):=λa ha=>X.val _ _ (by simp[execOp,ha])
 split at e
 ·rename_i cs BK
  split at e
  ·rename_i t'
   obtain rfl:=ht t' rfl;have hop':sl an tm rs t=.box cs:=BK;have Gq:=h.slots t;rw[hop'] at Gq;have hv:ev tmps ds (.tmp t)=tmps.getD t undef:=rfl;generalize hg:tmps.getD t undef=v at Gq;cases Gq with
   |box _ b hb=>exact .plain h e (.ref t 0 b hg) (λu o he=>by cases he;exact⟨cs,hop'⟩) (λ_ he=>by cases he) (JT _ (by rw[hv,hg]))
  ·cases e
 ·rename_i u o BK
  rw[BK] at hs;have HP:=pU h x u o BK;generalize hg:(⟨tmps,ds⟩:Act).eval x=v at hs;cases hs with
  |ref _ _ b hb=>exact .plain h e (.ref u o b hb) (λu' o' he=>by cases he;exact HP) (λ_ he=>by cases he) (JT _ hg)
 ·rename_i i o BK
  rw[BK] at hs;generalize hg:(⟨tmps,ds⟩:Act).eval x=v at hs;cases hs with
  |val _ _ hv =>
   cases hv with
   |loc _ _ b hb=>exact .val h e (.loc i o b hb) (JT _ hg)
 ·rename_i y BK
  rw[BK] at hs;generalize hg:(⟨tmps,ds⟩:Act).eval x=v at hs;cases hs with
  |val _ _ hv =>
   cases hv with
   |cptr _ b o hb=>exact .val h e (.cptr y b o hb) (JT _ hg)
 ·rename_i t' f a y z BK
  rw[BK] at hs;generalize hg:(⟨tmps,ds⟩:Act).eval x=v at hs;cases hs with
  |val _ _ hv =>
   cases hv with
   |rc _ _ _ _ _ b o hb=>exact .val h e (.rc t' f a y z b o hb) (JT _ hg)
 ·rename_i f cs BK
  rw[BK] at hs;generalize hg:(⟨tmps,ds⟩:Act).eval x=v at hs;cases hs with
  |val _ _ hv =>
   cases hv with
   |func _ _ vs hl hx=>exact .val h e (.func f cs vs hl hx) (X.val _ _ (by simp[execOp,ev,hg]))
 ·cases e
theorem iy{t:TypeId}(h:e7 P t=true):∃e,P.underlying t=some (.slice e):=by
 unfold e7 at h;split at h
 ·exact⟨_,by assumption⟩
 ·cases h
theorem vQ{t:TypeId}(h:pM P t=true):∃e,P.underlying t=some (.interface e):=by
 unfold pM at h;split at h
 ·exact⟨_,by assumption⟩
 ·cases h
theorem pe{t:TypeId}(h:br P t=true):P.underlying t=some .bool:=by
 unfold br at h;split at h
 ·assumption
 ·cases h
theorem mZ{t:TypeId}(h:rG P t=true):∃e,P.underlying t=some (.pointer e):=by
 unfold rG at h;split at h
 ·exact⟨_,by assumption⟩
 ·cases h
theorem bO{t:TypeId}{x y:Value}{d:TypeDesc}{b:Bool}(hu:P.underlying t=some d)
  (h:∀n,(Op.equalIn (n+1) t x y).run P w=.ok b w):(Op.equal t x y).run P w=.ok b w:=h 9999
theorem aEX{op:BinOp}{t:TypeId}{ox oy:Operand}{a b c:AVal}{va vb:Value}(ha:VRel Ψ J a va)(hb:VRel Ψ J b vb)(ht:gP P t a=true)(e:gN op a b=some c) :
  (eqGuard op t ox oy va vb).run P w=.ok () w/\∃v,(binOp op t va vb).run P w=.ok v w/\VRel Ψ J c v:=by
 cases ha with
 |int kd n =>
  cases hb with
  |int Hc n' =>
   simp only[gN] at e
   split at e
   ·subst_vars
    refine⟨by rw[eqGuard_at_int];rfl,?_⟩;cases op<;>simp only[Al,reduceCtorEq] at e
    case rem =>
     split at e
     ·cases e
     ·rename_i h0
      cases e;exact⟨_,by simp[binOp,Op.intDiv,h0],.int _ _⟩
    case shl =>
     split at e
     ·cases e
     ·rename_i h0
      cases e;exact⟨_,by simp[binOp,Op.shift,h0],.int _ _⟩
    all_goals (subst e;first
     |exact⟨_,by simp[binOp,Op.intArith],.int _ _⟩
     |exact⟨_,by simp[binOp,Op.intCmp],.bool _⟩)
   ·cases e
  |_=>simp[gN] at e
 |str s =>
  cases hb with
  |str s' =>
   refine⟨by rw[eqGuard_at_string];rfl,?_⟩;cases op<;>simp only[gN,Al,reduceCtorEq] at e
   all_goals (subst e;exact⟨_,by simp[binOp,Op.stringOp,ByteArray.toList_eq],.bool _⟩)
  |_=>simp[gN] at e
 |bool x =>
  cases hb with
  |bool y =>
   have hu:=pe ht;have he:(Op.equal t (.bool x) (.bool y)).run P w=.ok (x==y) w:=bO hu λn=>by simp[Op.equalIn,run_underlying hu]
   refine⟨by rw[eqGuard_at_bool];rfl,?_⟩;cases op<;>simp only[gN,Al,reduceCtorEq] at e
   all_goals (subst e;exact⟨_,by simp only[binOp,Sem.run_bind,he,Result.andThen_ok];rfl,.bool _⟩)
  |_=>simp[gN] at e
 |nilif =>
  cases hb with
  |iface d u vu HN =>
   obtain⟨el,hu⟩:=vQ ht;have he:(Op.equal t .nilIface (.iface d vu)).run P w=.ok false w:=bO hu λn=>by simp[Op.equalIn,run_underlying hu]
   refine⟨by rw[eqGuard_nil_iface];rfl,?_⟩;cases op<;>simp only[gN,Al,reduceCtorEq] at e
   all_goals (subst e;exact⟨_,by simp only[binOp,Sem.run_bind,he,Result.andThen_ok];rfl,.bool _⟩)
  |_=>simp[gN] at e
 |iface d u vu HN =>
  cases hb with
  |nilif =>
   obtain⟨el,hu⟩:=vQ ht;have he:(Op.equal t (.iface d vu) .nilIface).run P w=.ok false w:=bO hu λn=>by simp[Op.equalIn,run_underlying hu]
   refine⟨by rw[eqGuard_at_iface];rfl,?_⟩;cases op<;>simp only[gN,Al,reduceCtorEq] at e
   all_goals (subst e;exact⟨_,by simp only[binOp,Sem.run_bind,he,Result.andThen_ok];rfl,.bool _⟩)
  |_=>simp[gN] at e
 |nilptr =>
  cases hb with
  |nilptr =>
   obtain⟨el,hu⟩:=mZ ht;have he:(Op.equal t (.pointer none) (.pointer none)).run P w=.ok true w:=bO hu λn=>by simp[Op.equalIn,run_underlying hu]
   refine⟨by rw[eqGuard_at_pointer];rfl,?_⟩;cases op<;>simp only[gN,Al,reduceCtorEq] at e
   all_goals (subst e;exact⟨_,by simp only[binOp,Sem.run_bind,he,Result.andThen_ok];rfl,.bool _⟩)
  |_=>simp[gN] at e
 |cptr x bb oo hx =>
  cases hb with
  |nilptr =>
   obtain⟨el,hu⟩:=mZ ht;have he:(Op.equal t (.pointer (some ⟨bb,oo,none⟩)) (.pointer none)).run P w=.ok false w:=bO hu λn=>by simp[Op.equalIn,run_underlying hu]
   refine⟨by rw[eqGuard_at_pointer];rfl,?_⟩;cases op<;>simp only[gN,Al,reduceCtorEq] at e
   all_goals (subst e;exact⟨_,by simp only[binOp,Sem.run_bind,he,Result.andThen_ok];rfl,.bool _⟩)
  |_=>simp[gN] at e
 |rc t0 f0 a0 x0 e0 bb oo hx =>
  cases hb with
  |nilptr =>
   obtain⟨el,hu⟩:=mZ ht;have he:(Op.equal t (.pointer (some ⟨bb,oo,none⟩)) (.pointer none)).run P w=.ok false w:=bO hu λn=>by simp[Op.equalIn,run_underlying hu]
   refine⟨by rw[eqGuard_at_pointer];rfl,?_⟩;cases op<;>simp only[gN,Al,reduceCtorEq] at e
   all_goals (subst e;exact⟨_,by simp only[binOp,Sem.run_bind,he,Result.andThen_ok];rfl,.bool _⟩)
  |_=>simp[gN] at e
 |loc i off bb hi =>
  cases hb with
  |nilptr =>
   obtain⟨el,hu⟩:=mZ ht;have he:(Op.equal t (.pointer (some ⟨bb,off,none⟩)) (.pointer none)).run P w=.ok false w:=bO hu λn=>by simp[Op.equalIn,run_underlying hu]
   refine⟨by rw[eqGuard_at_pointer];rfl,?_⟩;cases op<;>simp only[gN,Al,reduceCtorEq] at e
   all_goals (subst e;exact⟨_,by simp only[binOp,Sem.run_bind,he,Result.andThen_ok];rfl,.bool _⟩)
  |_=>simp[gN] at e
 |slice=>simp[gP] at ht
 |agg=>simp[gP] at ht
 |nilfunc=>simp[gP] at ht
 |nilmap=>simp[gP] at ht
 |amap=>simp[gP] at ht
 |yld=>simp[gP] at ht
 |func=>simp[gP] at ht
 |opq=>simp[gP] at ht
 |raw=>simp[gP] at ht
theorem yE{y:Operand}(h:dP y=true):∃a b,y=.const (.slice none a b):=by
 unfold dP at h;split at h
 ·exact⟨_,_,rfl⟩
 ·cases h
theorem yD{y:Operand}(h:isNilIface y=true):y=.const .nilIface:=by
 unfold isNilIface at h;split at h
 ·rfl
 ·cases h
theorem qd{t:Nat}{s:Slot}{v:Value}(hs:SRel w B0 Ψ J ow tmps t s v){b:Bool}(e:cN s=some b):(∃l c,b=true/\v=.slice none l c)\/∃a l c,b=false/\v=.slice (some a) l c:=by
 have SO:∀{x:AVal}{xs:List AVal}{J:List Nat},VRel Ψ J (.slice (x::xs)) v->∃a l c,v=.slice (some a) l c:=λh=>by
  cases h with
  |slice _ a len cap s hl hc hx =>
   obtain⟨_,b,o,rfl,_⟩:=hx 0 _ rfl;exact⟨_,_,_,rfl⟩
 cases hs with
 |dead=>simp[cN] at e
 |tup=>simp[cN] at e
 |cells=>simp[cN] at e
 |box=>simp[cN] at e
 |ref=>simp[cN] at e
 |nl=>simp[cN] at e;exact .inl ⟨_,_,e,rfl⟩
 |nn xs a n c h=>simp[cN] at e;exact .inr ⟨_,_,_,e,rfl⟩
 |val x v h =>
  cases x with
  |slice xs=>cases xs with
   |nil=>simp[cN] at e
   |cons x xs=>simp[cN] at e;obtain⟨a,l,c,rfl⟩:=SO h;exact .inr ⟨_,_,_,e,rfl⟩
  |_=>simp[cN] at e
 |own sz xs v h=>cases xs with
  |nil=>simp[cN] at e
  |cons x xs=>simp[cN] at e;obtain⟨a,l,c,rfl⟩:=SO h.rel;exact .inr ⟨_,_,_,e,rfl⟩
 |full xs a n h=>cases xs with
  |nil=>simp[cN] at e
  |cons x xs=>simp[cN] at e;obtain⟨a',l,c,he⟩:=SO h;cases he;exact .inr ⟨_,_,_,e,rfl⟩
theorem aDt(h:Rel P ans B0 w Ψ J ow an (sl an tm rs) tmps rs.sto.objs){op:BinOp}{t:TypeId}{x y:Operand}{fl:_}(X:Ex P tmps ds w ⟨dst,.binOp op t x y fl,ty,pos,AJ,gd⟩ m mk)(e:aB P ans an drawn AA D1 cf tm tk ⟨dst,.binOp op t x y fl,ty,pos,AJ,gd⟩ rs kp k=some r):Goal P ans an w B0 Ψ J ow tmps tm rs dst m mk mp kp k r:=by
 simp only[aB] at e;obtain⟨tx,CC,_⟩:=bG (ds:=ds) h x;obtain⟨tY,Sr,_⟩:=bG (ds:=ds) h y
 have fin:∀v,(eqGuard op t x y (ev tmps ds x) (ev tmps ds y)).run P w=.ok () w->(binOp op t (ev tmps ds x) (ev tmps ds y)).run P w=.ok v w->Steps P m (mk v w):=λv h1 h2 =>
  X.val _ _ (by simp[execOp,h1,h2])
 have nils:(op=.eql\/op=.neq)->dP y=true->∀b,cN (A6 an.keep tm rs x)=some b->e7 P t=true->k (.val (.bool (if op=.eql then b else !b))) rs=some r->Goal P ans an w B0 Ψ J ow tmps tm rs dst m mk mp kp k r:=λBK hy b hb Gq hk=>by
  obtain⟨l',c',rfl⟩:=yE hy;obtain⟨el,hu⟩:=iy Gq;have hvy:ev tmps ds (.const (.slice none l' c'))=.slice none l' c':=rfl
  have hq:(Op.equal t (ev tmps ds x) (.slice none l' c')).run P w=.ok b w/\∃a l c,ev tmps ds x=.slice a l c:=by
   rcases qd CC hb with⟨l,c,rfl,hv⟩|⟨a,l,c,rfl,hv⟩
   ·exact⟨bO hu λn=>by simp[ev,hv,Op.equalIn,run_underlying hu],_,_,_,hv⟩
   ·exact⟨bO hu λn=>by simp[ev,hv,Op.equalIn,run_underlying hu],_,_,_,hv⟩
  obtain⟨hq,a,l,c,hv⟩:=hq;refine .val h hk (.bool _) (fin _ (by rw[hv,eqGuard_at_slice];rfl) ?_);rcases BK with rfl|rfl
  ·rw[hv] at hq ⊢;rw[hvy];simp only[binOp,Sem.run_bind,hq,Result.andThen_ok];rfl
  ·rw[hv] at hq ⊢;rw[hvy];simp only[binOp,Sem.run_bind,hq,Result.andThen_ok];rfl
 have nilf:(op=.eql\/op=.neq)->isNilIface y=true->A6 an.keep tm rs x=.val .nilif->pM P t=true->k (.val (.bool (if op=.eql then true else false))) rs=some r->Goal P ans an w B0 Ψ J ow tmps tm rs dst m mk mp kp k r:=λBK hy hx RE hk=>by
  obtain rfl:=yD hy;obtain⟨el,hu⟩:=vQ RE;have hvy:ev tmps ds (.const .nilIface)=.nilIface:=rfl
  have LU:ev tmps ds x=.nilIface:=by
   rw[hx] at CC;generalize hg:(⟨tmps,ds⟩:Act).eval x=v at CC;cases CC with|val _ _ hv=>cases hv;exact hg
  have hq:(Op.equal t .nilIface .nilIface).run P w=.ok true w:=bO hu λn=>by simp[Op.equalIn,run_underlying hu]
  refine .val h hk (.bool _) (fin _ (by rw[LU,hvy,eqGuard_nil_constR];rfl) ?_);rcases BK with rfl|rfl
  ·rw[LU,hvy];simp only[binOp,Sem.run_bind,hq,Result.andThen_ok];rfl
  ·rw[LU,hvy];simp only[binOp,Sem.run_bind,hq,Result.andThen_ok];rfl
 have gen:DQ (A6 an.keep tm rs x) (λa=>DQ (A6 an.keep tm rs y) λb=>aL (gP P t a) ((gN op a b).bind λv=>k (.val v) rs))=some r->Goal P ans an w B0 Ψ J ow tmps tm rs dst m mk mp kp k r:=λe=>by
  obtain⟨a,e,ha⟩:=lU CC e;obtain⟨b,e,hb⟩:=lU Sr e;obtain⟨hg,e⟩:=aA e;obtain⟨c,hc,e⟩:=aH e;obtain⟨h1,v,h2,h3⟩:=aEX (w:=w) (ox:=x) (oy:=y) ha hb hg hc;exact .val h e h3 (fin _ h1 h2)
 split at e
 ·rename_i hn
  obtain⟨hg,e⟩:=aA e;obtain⟨b,hb,e⟩:=aH e;exact nils (.inl rfl) hn b hb hg (by simpa using e)
 ·rename_i hn
  obtain⟨hg,e⟩:=aA e;obtain⟨b,hb,e⟩:=aH e;exact nils (.inr rfl) hn b hb hg (by simpa using e)
 ·split at e
  ·obtain⟨hg,e⟩:=aA e
   exact nilf (.inl rfl) (by assumption) (by assumption) hg (by simpa using e)
  ·obtain⟨hg,e⟩:=aA e
   exact nilf (.inr rfl) (by assumption) (by assumption) hg (by simpa using e)
  ·exact gen e
theorem aGK(h:Rel P ans B0 w Ψ J ow an (sl an tm rs) tmps rs.sto.objs){op:UnOp}{t:TypeId}{x:Operand}(X:Ex P tmps ds w ⟨dst,.unOp op t x,ty,pos,AJ,gd⟩ m mk)(e:aB P ans an drawn AA D1 cf tm tk ⟨dst,.unOp op t x,ty,pos,AJ,gd⟩ rs kp k=some r):Goal P ans an w B0 Ψ J ow tmps tm rs dst m mk mp kp k r:=by
 simp only[aB] at e;obtain⟨tx,CC,_⟩:=bG (ds:=ds) h x
 split at e
 ·rename_i b hx
  rw[hx] at CC;generalize hg:(⟨tmps,ds⟩:Act).eval x=v at CC;cases CC with
  |val _ _ hv=>cases hv with
   |bool=>exact .val h e (.bool _) (X.val _ _ (by simp[execOp,ev,hg,Op.unary]))
 ·cases e
theorem zl(hw:WSat Ψ w){x u:AVal}{b o off s:Nat}{agg:Bool}(h:∀(j:Nat)(c:AVal),x.cells[j]?=some c->Ψ b (o+j) c)(hu:partOf agg x.cells off s=some u) :
  VRel Ψ J (.cptr u) (.pointer (some ⟨b,o+off,none⟩)):=by
 refine .cptr u b _ λj c hc=>?_
 cases agg with
 |false =>
  simp only[partOf,Bj,Dm] at hu;have h1:=h off u hu;have h2:=jM (hw.sat _ _ _ h1).1;rw[fB h2] at hc;cases j with
  |zero=>simp at hc;subst hc;exact h1
  |succ j=>simp at hc
 |true =>
  simp only[partOf,Ds] at hu;cases hle:Nat.ble (off+s) x.cells.length with
  |false=>simp[hle] at hu
  |true =>
   simp[hle] at hu;subst hu;simp only[AVal.cells] at hc;rw[Bh] at hc
   split at hc
   ·rw[Eb] at hc
    have:=h _ c hc
    rwa [<-Dc] at this
   ·cases hc
def di(rs:RS)(p:Place)(off s:Nat)(agg:Option Bool)(k:Slot->RS->Option R):Option R :=
 match p with
 |.loc t o=>k (.ref t (o+off)) rs
 |.obj i o=>k (.val (.loc i (o+off))) rs
 |.imm v=>agg.bind λagg=>(partOf agg v.cells off s).bind λu=>k (.val (.cptr u)) rs
theorem km(h:Rel P ans B0 w Ψ J ow an (sl an tm rs) tmps rs.sto.objs){p:Place}{v:Value}(hp:QT Ψ J tmps (sl an tm rs) p v){off s:Nat}{agg:Option Bool}(e:di rs p off s agg k=some r) :
  ∃b o,v=.pointer (some ⟨b,o,none⟩)/\(Steps P m (mk (.pointer (some ⟨b,o+off,none⟩)) w)->Goal P ans an w B0 Ψ J ow tmps tm rs dst m mk mp kp k r):=by
 cases p with
 |loc t o =>
  obtain⟨cs,b,h1,h2,h3⟩:=hp;exact⟨b,o,h3,λhs=>.plain h e (.ref t _ b h2) (λu o' he=>by cases he;exact⟨cs,h1⟩) (λ_ he=>by cases he) hs⟩
 |obj i o =>
  obtain⟨b,h1,h2⟩:=hp;exact⟨b,o,h2,λhs=>.val h e (.loc i _ b h1) hs⟩
 |imm x =>
  simp only[QT] at hp;simp only[di] at e;obtain⟨a,_,e⟩:=aH e;obtain⟨u,hu,e⟩:=aH e;cases hp with
  |cptr _ b o hb=>exact⟨b,o,rfl,λhs=>.val h e (zl h.wsat hb hu) hs⟩
theorem DJ{t:TypeId}{f:Nat}{o:Nat×TypeId}(h:AD P t f=some o):∃fs fl,P.underlying t=some (.struct fs)/\fs[f]?=some fl/\fl.offset=o.1/\fl.type=o.2:=by
 unfold AD at h
 split at h
 ·rename_i fs hu
  simp only[Ap] at h;obtain⟨fl,h1,rfl⟩:=h;exact⟨fs,fl,hu,h1,rfl,rfl⟩
 ·cases h
theorem ct(h:Rel P ans B0 w Ψ J ow an (sl an tm rs) tmps rs.sto.objs){t:TypeId}{x:Operand}{f:Nat}(X:Ex P tmps ds w ⟨dst,.fieldAddr t x f,ty,pos,AJ,gd⟩ m mk)(e:aB P ans an drawn AA D1 cf tm tk ⟨dst,.fieldAddr t x f,ty,pos,AJ,gd⟩ rs kp k=some r):Goal P ans an w B0 Ψ J ow tmps tm rs dst m mk mp kp k r:=by
 simp only[aB] at e;obtain⟨ot,hf,e⟩:=aH e;obtain⟨s,hs,e⟩:=aH e;obtain⟨hg,e⟩:=aA e;obtain⟨p,e,hp⟩:=iP (ds:=ds) h e;obtain⟨fs,fl,h1,h2,h3,h4⟩:=DJ hf;have e':di rs p ot.1 s (aM P ot.2) k=some r:=by cases p<;>exact e
 obtain⟨b,o,hv,MX⟩:=km (m:=m) (mk:=mk) (mp:=mp) (kp:=kp) (dst:=dst) h hp e';refine MX (X.val _ _ ?_)
 have Gr:¬s=0:=by have:0<s:=by simpa[Ct] using hg
                  omega
 simp[execOp,ev,hv,Instr.fieldAt,run_underlying h1,h2,Instr.sureAddr,fieldPlace,h4,run_sizeOf hs,Gr,cE,h3]
theorem cu(h:Rel P ans B0 w Ψ J ow an (sl an tm rs) tmps rs.sto.objs){t:TypeId}{x ix:Operand}(X:Ex P tmps ds w ⟨dst,.indexAddr t x ix,ty,pos,AJ,gd⟩ m mk)(e:aB P ans an drawn AA D1 cf tm tk ⟨dst,.indexAddr t x ix,ty,pos,AJ,gd⟩ rs kp k=some r):Goal P ans an w B0 Ψ J ow tmps tm rs dst m mk mp kp k r:=by
 simp only[aB] at e;obtain⟨tx,CC,_⟩:=bG (ds:=ds) h x;obtain⟨ti,XM,_⟩:=bG (ds:=ds) h ix
 split at e
 ·rename_i el hu
  obtain⟨xs,e,E0⟩:=sY CC e;obtain⟨kk,n,e,hn⟩:=j5 XM e;obtain⟨s,hs,e⟩:=aH e;obtain⟨hg,e⟩:=aA e;obtain⟨v,hv,e⟩:=aH e;obtain⟨ES,e2⟩:=aA e;have h0:0<=n:=by simpa using hg
  have CK:v.cells.length=s:=Aa ES;generalize ER:(⟨tmps,ds⟩:Act).eval x=vx at E0;cases E0 with
  |slice _ a len cap s' hl hc hx =>
   obtain⟨h1,b,o,rfl,h3⟩:=hx _ v hv;have AL:n.toNat < len:=by rw[<-hl];exact(Ab.1 hv).1
   have IW:s'=s:=by rw[<-h1,CK]
   subst IW;refine .val h e2 (.cptr v b (o+n.toNat * s') λj c hj=>h3 j c hj) (X.val _ _ ?_);simp[execOp,ev,ER,hn,Instr.indexAt,asIntOf,run_underlying hu,h0,show n<(len:Int) by omega,run_sizeOf hs,cE]
 ·rename_i len el hu
  obtain⟨p,e,hp⟩:=iP (ds:=ds) h e;obtain⟨kk,n,e,hn⟩:=j5 XM e;obtain⟨s,hs,e⟩:=aH e;obtain⟨hg,e⟩:=aA e;simp only[Ac,Cf] at hg;have e':di rs p (n.toNat * s) s (aM P el) k=some r:=by cases p<;>exact e
  obtain⟨b,o,hv,MX⟩:=km (m:=m) (mk:=mk) (mp:=mp) (kp:=kp) (dst:=dst) h hp e';refine MX (X.val _ _ ?_);simp[execOp,ev,hv,hn,Instr.indexAt,asIntOf,run_underlying hu,Instr.sureAddr,hg.1,hg.2,run_sizeOf hs,cE]
 ·cases e
theorem rP(h:Rel P ans B0 w Ψ J ow an (sl an tm rs) tmps rs.sto.objs){t:TypeId}{x:Operand}(X:Ex P tmps ds w ⟨dst,.makeInterface t x,ty,pos,AJ,gd⟩ m mk)(e:aB P ans an drawn AA D1 cf tm tk ⟨dst,.makeInterface t x,ty,pos,AJ,gd⟩ rs kp k=some r):Goal P ans an w B0 Ψ J ow tmps tm rs dst m mk mp kp k r:=by
 simp only[aB] at e;obtain⟨tx,CC,_⟩:=bG (ds:=ds) h x
 split at e
 ·cases e
 ·rename_i d hd hu
  obtain⟨y,e,hy⟩:=lU CC e;refine .val h e (.iface t y _ hy) (X.val _ _ ?_);simp only[execOp,Instr.makeInterface,Sem.run_bind,run_underlying hu,Result.andThen_ok];cases d<;>first|rfl|exact absurd rfl (hd _)
 ·cases e
theorem yG(h:Rel P ans B0 w Ψ J ow an (sl an tm rs) tmps rs.sto.objs){xt t:TypeId}{ok:Bool}{x:Operand}(X:Ex P tmps ds w ⟨dst,.typeAssert x xt t ok,ty,pos,AJ,gd⟩ m mk)(e:aB P ans an drawn AA D1 cf tm tk ⟨dst,.typeAssert x xt t ok,ty,pos,AJ,gd⟩ rs kp k=some r):Goal P ans an w B0 Ψ J ow tmps tm rs dst m mk mp kp k r:=by
 simp only[aB] at e;obtain⟨tx,CC,_⟩:=bG (ds:=ds) h x
 split at e
 ·cases e
 ·rename_i d hd hu
  obtain⟨z,hz,e1⟩:=aH e;clear e;simp only[zeroOf,Cv] at hz;obtain⟨zv,Iv,IQ⟩:=hz;have hz1':(P.info? t).bind (·.zero)=some zv:=by obtain⟨ti,a1,a2⟩:=Iv;rw[a1];exact a2
  have Ic:=aU (P:=P) (w:=w) hz1';have IM:VRel Ψ J z zv:=iO IQ;generalize hg:(⟨tmps,ds⟩:Act).eval x=u at CC;have BA:∀u',(Instr.typeAssert u xt t ok).run P w=.ok u' w->Steps P m (mk u' w):=λu' h'=>X.val _ _ (by simp[execOp,ev,hg,h'])
  have two:∀{y:AVal}{v:Value}{b:Bool},VRel Ψ J y v->SRel w B0 Ψ J ow tmps an.nt (.tup [y,.bool b]) (.tuple #[v,.bool b]):=λ{y v b} hy=>.tup [y,.bool b] [v,.bool b] rfl λi c u h1 h2=>by
   match i with
   |0=>cases h1;cases h2;exact hy
   |1=>cases h1;cases h2;exact .bool _
   |i+2=>cases h1
  split at e1
  ·rename_i BK
   obtain⟨D3,e⟩:=aA e1;clear e1;subst D3;rw[BK] at CC;cases CC with
   |val _ _ hv=>cases hv with
    |nilif=>exact .plain h e (two IM) (λu o he=>by cases he) (λ_ he=>by cases he) (BA _ (by cases d<;>first|exact absurd rfl (hd _)|simp[Instr.typeAssert,run_underlying hu,Ic]))
  ·rename_i ut y BK
   rw[BK] at CC;cases CC with
   |val _ _ hv=>cases hv with
    |iface _ _ v hv =>
     split at e1
     ·rename_i hb
      have e:=e1;clear e1;obtain rfl:=Aa hb;cases ok with
      |true=>exact .plain h e (two hv) (λu o he=>by cases he) (λ_ he=>by cases he) (BA _ (by cases d<;>first|exact absurd rfl (hd _)|simp[Instr.typeAssert,run_underlying hu]))
      |false=>exact .val h e hv (BA _ (by cases d<;>first|exact absurd rfl (hd _)|simp[Instr.typeAssert,run_underlying hu]))
     ·rename_i hb
      have BD:ut≠t:=λe0=>by rw[e0,Cj] at hb;cases hb
      obtain⟨D3,e⟩:=aA e1;clear e1;subst D3;exact .plain h e (two IM) (λu o he=>by cases he) (λ_ he=>by cases he) (BA _ (by cases d<;>first|exact absurd rfl (hd _)|simp[Instr.typeAssert,run_underlying hu,Ic,BD]))
  ·cases e1
 ·cases e
theorem uT(h:Rel P ans B0 w Ψ J ow an (sl an tm rs) tmps rs.sto.objs):∀{xs:List Operand}{k:List AVal->Option R},lZ an.keep tm rs xs k=some r ->
  ∃l,k l=some r/\l.length=xs.length/\∀(i:Nat) c v,l[i]?=some c->(xs.map (ev tmps ds))[i]?=some v->VRel Ψ J c v
 |[],k,e=>⟨[],e,rfl,λi c v hc=>by simp at hc⟩
 |x::xs,k,e=>by
  obtain⟨tx,CC,_⟩:=bG (ds:=ds) h x;simp only[lZ] at e;obtain⟨y,e,hy⟩:=lU CC e;obtain⟨l,e,h1,h2⟩:=uT h e;refine⟨y::l,e,by simp[h1],λi c v hc hv=>?_⟩;cases i with
  |zero=>simp at hc hv;subst hc;subst hv;exact hy
  |succ i=>simp only[Bv,Bb] at hc hv;exact h2 i c v hc hv
theorem jt(h:Rel P ans B0 w Ψ J ow an (sl an tm rs) tmps rs.sto.objs){fn:Fn}{first caps:Array Operand}(X:Ex P tmps ds w ⟨dst,.makeFunc fn first caps,ty,pos,AJ,gd⟩ m mk)(e:aB P ans an drawn AA D1 cf tm tk ⟨dst,.makeFunc fn first caps,ty,pos,AJ,gd⟩ rs kp k=some r):Goal P ans an w B0 Ψ J ow tmps tm rs dst m mk mp kp k r:=by
 simp only[aB] at e
 split at e
 ·rename_i f hf
  obtain⟨l,e,h1,h2⟩:=uT (ds:=ds) h e
  have CT:first=#[]:=by
   apply Cp;simpa using hf
  subst CT;refine .val h e (.func f l (caps.toList.map (ev tmps ds)) (by simp[h1]) h2) (X.val _ _ ?_)
  have:caps.map (ev tmps ds)=⟨caps.toList.map (ev tmps ds)⟩:=by apply Cp;simp
  simp[execOp,Instr.makeFunc,this]
 ·cases e
theorem qh(h:Rel P ans B0 w Ψ J ow an (sl an tm rs) tmps rs.sto.objs){t:Operand}{i:Nat}(X:Ex P tmps ds w ⟨dst,.extract t i,ty,pos,AJ,gd⟩ m mk)(e:aB P ans an drawn AA D1 cf tm tk ⟨dst,.extract t i,ty,pos,AJ,gd⟩ rs kp k=some r):Goal P ans an w B0 Ψ J ow tmps tm rs dst m mk mp kp k r:=by
 simp only[aB] at e;obtain⟨tx,CC,_⟩:=bG (ds:=ds) h t
 split at e
 ·rename_i vs hx
  obtain⟨v,hv,e⟩:=aH e;rw[hx] at CC;generalize ER:(⟨tmps,ds⟩:Act).eval t=vx at CC;cases CC with
  |tup _ us hl hr =>
   have hi:i<us.length:=by rw[<-hl];exact(Ab.1 hv).1
   exact .val h e (hr i v us[i] hv (by simp[hi])) (X.val _ _ (by simp[execOp,ev,ER,Instr.extract,hi]))
 ·cases e
theorem nG(h:Rel P ans B0 w Ψ J ow an (sl an tm rs) tmps rs.sto.objs){x:Option Operand}{d:Int}{k:Int->Option R}(e:iY an.keep tm rs x d k=some r) :
  ∃n,k n=some r/\((x=none/\n=d)\/∃y kd,x=some y/\ev tmps ds y=.int kd n):=by
 cases x with
 |none=>exact⟨d,e,.inl ⟨rfl,rfl⟩⟩
 |some y =>
  obtain⟨tx,CC,_⟩:=bG (ds:=ds) h y;obtain⟨kd,n,e,hv⟩:=j5 CC e;exact⟨n,e,.inr ⟨y,kd,rfl,hv⟩⟩
theorem jF{isS:Bool}{len cap:Nat}{lo hi:Option Operand}{l h:Int}(hl:(lo=none/\l=0)\/∃y kd,lo=some y/\ev tmps ds y=.int kd l)(hh:(hi=none/\h=len)\/∃y kd,hi=some y/\ev tmps ds y=.int kd h)
  (h0:0<=l) (h1:l<=h) (h2:h<=len) (h3:len<=cap):(Instr.sliceBounds isS len cap (lo.map (ev tmps ds)) (hi.map (ev tmps ds)) none).run P w=.ok (l.toNat,h.toNat,cap) w:=by
 have eh:(h.toNat:Int)=h:=Int.toNat_of_nonneg (by omega);have h4:h<=(cap:Int):=by omega
 rcases hl with⟨rfl,rfl⟩|⟨y,kd,rfl,hy⟩<;>rcases hh with⟨rfl,rfl⟩|⟨z,Hc,rfl,hz⟩
 ·simp[Instr.sliceBounds]
 ·simp[Instr.sliceBounds,hz,run_sliceBound,h4,show 0<=h by omega]
 ·simp[Instr.sliceBounds,hy,run_sliceBound,h0,h1]
 ·simp[Instr.sliceBounds,hy,hz,run_sliceBound,h0,h4,eh,h1,show 0<=h by omega]
theorem mO{len cap:Nat}{lo:Option Operand}{l h:Int}{z u:Operand}{kz ku:IntKind}(hl:(lo=none/\l=0)\/∃y kd,lo=some y/\ev tmps ds y=.int kd l)(hz:ev tmps ds z=.int kz h)(hu:ev tmps ds u=.int ku h)
  (h0:0<=l) (h1:l<=h) (h2:h<=len) (h3:len<=cap):(Instr.sliceBounds true len cap (lo.map (ev tmps ds)) (some (ev tmps ds z)) (some (ev tmps ds u))).run P w=.ok (l.toNat,h.toNat,h.toNat) w:=by
 have eh:(h.toNat:Int)=h:=Int.toNat_of_nonneg (by omega);have h4:h<=(cap:Int):=by omega
 rcases hl with⟨rfl,rfl⟩|⟨y,kd,rfl,hy⟩
 ·simp[Instr.sliceBounds,hz,hu,run_sliceBound,h4,show 0<=h by omega,eh]
 ·simp[Instr.sliceBounds,hy,hz,hu,run_sliceBound,h0,h4,eh,h1,show 0<=h by omega]
theorem VRel.cut{J':List Nat}{xs:List AVal}{a:Option Addr}{len cap sz l h:Nat}(hx:VRel Ψ J (.slice xs) (.slice a len cap))(h1:l<=h)(h2:h<=xs.length)(hd:bh sz ((xs.take h).drop l)=true)(M:Nat)(hM:h<=M) :
  VRel Ψ J' (.slice ((xs.take h).drop l)) (.slice (if M=l then a else a.map (·.add (l*sz))) (h-l) (M-l)):=by
 cases hx with
 |slice _ _ _ _ s hl hc hx =>
  refine .slice _ _ _ _ s (by simp;omega) (by omega) λi x hi=>?_
  have hlen:i<((xs.take h).drop l).length:=(Ab.1 hi).1;simp only[List.length_drop,Dw] at hlen;rw[Eb,Bh,Bu (by omega)] at hi;obtain⟨g1,b,o,rfl,g2⟩:=hx (l+i) x hi
  have IW:s=sz:=by
   have hl0:l<xs.length:=by omega
   obtain⟨g3,_⟩:=hx l xs[l] (by simp[hl0])
   have HX:(xs.take h).drop l=xs[l]::(xs.take h).drop (l+1):=by
    rw[Dv (by simp;omega)];simp
   rw[HX] at hd;rw[<-g3];exact Aa hd
  subst IW;refine⟨g1,b,o+l*s,?_,λj c hj=>?_⟩
  ·rw[Bc (by omega)]
   simp[cE]
  ·have:=g2 j c hj
   rw[show o+l*s+i*s+j=o+(l+i)*s+j by rw[Cr];omega];exact this
theorem aDw(h:Rel P ans B0 w Ψ J ow an (sl an tm rs) tmps rs.sto.objs){t:TypeId}{x:Operand}{lo hi mx:Option Operand}(X:Ex P tmps ds w ⟨dst,.slice t x lo hi mx,ty,pos,AJ,gd⟩ m mk)(e:aB P ans an drawn AA D1 cf tm tk ⟨dst,.slice t x lo hi mx,ty,pos,AJ,gd⟩ rs kp k=some r):Goal P ans an w B0 Ψ J ow tmps tm rs dst m mk mp kp k r:=by
 simp only[aB] at e;obtain⟨tx,CC,_⟩:=bG (ds:=ds) h x
 split at e
 ·rename_i hu
  split at e
  ·rename_i s hx
   obtain⟨l,e,hl⟩:=nG (ds:=ds) h e;obtain⟨hh,e,Lc⟩:=nG (ds:=ds) h e;obtain⟨hg,e⟩:=aA e;simp only[Ac,Cf] at hg;rw[hx] at CC;generalize ER:(⟨tmps,ds⟩:Act).eval x=vx at CC;cases CC with
   |val _ _ hv=>cases hv with
    |str =>
     have hb:=jF (P:=P) (w:=w) (isS:=false) (len:=s.length) (cap:=s.length) hl Lc hg.1.1 hg.1.2 hg.2 (Af _);have BC:(⟨⟨s⟩⟩:ByteArray).size=s.length:=rfl
     have hex:(⟨⟨s⟩⟩:ByteArray).extract l.toNat hh.toNat=⟨⟨(s.take hh.toNat).drop l.toNat⟩⟩:=by
      have:=ByteArray.extract_mk s l.toNat hh.toNat
      rw[show(⟨⟨s⟩⟩:ByteArray)=ByteArray.mk s.toArray from rfl,this,List.drop_take]
     exact .val h e (.str _) (X.val _ _ (by simp[execOp,ev,ER,Instr.sliceAt,Instr.slice,run_underlying hu,BC];simp[ev] at hb;simp[hb,hex]))
  ·cases e
 ·rename_i el hu
  obtain⟨sz,BC,e⟩:=aH e;obtain⟨xs,e,E0⟩:=sY CC e;obtain⟨l,e,hl⟩:=nG (ds:=ds) h e;obtain⟨hh,e,Lc⟩:=nG (ds:=ds) h e;have ID:=E0;generalize ER:(⟨tmps,ds⟩:Act).eval x=vx at E0 ID;cases E0 with
  |slice _ a len cap s' hlen hc hx =>
   rw[hlen] at Lc;cases mx with
   |none =>
    simp only[e9] at e;obtain⟨hg,e⟩:=aA e;simp only[Ac,Cf] at hg;obtain⟨⟨⟨g1,g2⟩,g3⟩,g4⟩:=hg;rw[hlen] at g3;have hb:=jF (P:=P) (w:=w) (isS:=true) (len:=len) (cap:=cap) hl Lc g1 g2 g3 hc;refine .val h e (ID.cut (J':=J) (sz:=sz) (by omega) (by omega) g4 cap (by omega)) (X.val _ _ ?_);simp only[ev] at hb;simp[execOp,ev,ER,Instr.sliceAt,Instr.slice,run_underlying hu,hb,run_sizeOf BC]
   |some u =>
    simp only at e;obtain⟨tu,hsu,_⟩:=bG (ds:=ds) h u;obtain⟨ku,mm,e,hum⟩:=j5 hsu e;obtain⟨Qz,e⟩:=aA e;have Qz:mm=hh:=by simpa using Qz
    subst Qz;rcases Lc with⟨rfl,_⟩|⟨z,kz,rfl,hz⟩
    ·cases e
    ·simp only[e9] at e
     obtain⟨hg,e⟩:=aA e;simp only[Ac,Cf] at hg;obtain⟨⟨⟨g1,g2⟩,g3⟩,g4⟩:=hg;rw[hlen] at g3;have hb:=mO (P:=P) (w:=w) (len:=len) (cap:=cap) hl hz hum g1 g2 g3 hc;refine .plain h e (.full _ _ _ (ID.cut (J':=[]) (sz:=sz) (by omega) (by omega) g4 mm.toNat (Af _))) (λ_ _ e=>by cases e) (λ_ e=>by cases e) (X.val _ _ ?_);simp only[ev] at hb;simp[execOp,ev,ER,Instr.sliceAt,Instr.slice,run_underlying hu,hb,run_sizeOf BC]
 ·cases e
theorem bytes_beq(a b:List UInt8):((⟨⟨a⟩⟩:ByteArray)==⟨⟨b⟩⟩)=(a==b):=by
 show((⟨a⟩:Array UInt8)==⟨b⟩)=(a==b)
 simp
theorem run_getObj{b:Nat}{o:Obj}(h:w.heap[b]?=some o)(hn:∀c t f,o≠.cells c t f):(getObj b).run P w=.ok o w:=by
 simp[getObj,Sem.run,h]
 try(cases o<;>simp_all)
theorem run_setObj{b:Nat}{o o':Obj}(h:w.heap[b]?=some o)(hn:∀c t f,o≠.cells c t f):(setObj b o').run P w=.ok () (w.putObj b o'):=by
 simp[setObj,Sem.run,h,World.putObj]
theorem aDv(h:Rel P ans B0 w Ψ J ow an (sl an tm rs) tmps rs.sto.objs){x:Operand}(X:∀v,(execOp (ev tmps ds) ⟨dst,.panic x,ty,pos,AJ,gd⟩).run P w=.halt (.panic v) w->Steps P m (mp v w))(e:aB P ans an drawn AA D1 cf tm tk ⟨dst,.panic x,ty,pos,AJ,gd⟩ rs kp k=some r):Goal P ans an w B0 Ψ J ow tmps tm rs dst m mk mp kp k r:=by
 simp only[aB] at e
 split at e
 ·rename_i t v hx
  obtain⟨tx,CC,_⟩:=bG (ds:=ds) h x;rw[hx] at CC;generalize ER:(⟨tmps,ds⟩:Act).eval x=vx at CC;cases CC with
  |val _ _ hv =>
   have GZ:=hv;cases hv with
   |iface _ _ u hu =>
    exact .inr ⟨_,rs,_,w,Ψ,J,ow,e,h,GZ,Fr.refl _ _ _,aG _,StoLe.refl _,X _ (by simp[execOp,ev,ER,Instr.panic])⟩
 ·cases e
end Go.AM
