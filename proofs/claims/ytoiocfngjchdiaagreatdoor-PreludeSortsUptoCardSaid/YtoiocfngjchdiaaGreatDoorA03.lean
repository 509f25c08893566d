import Derived.Test.YtoiocfngjchdiaaGreatDoorA02
import Derived.Laws.Slices
import Derived.Laws.Strings2
import Derived.MapKept
set_option linter.all false
namespace Go.AM
variable {P:Program}{ans:FuncId->AF}{an:AF}{w:World}{B0:Nat}{Ψ:HT}{J:List Nat}{ow:Own}{tmps:Array Value}{R:Type}{r:R}
variable {tm:List Slot}{rs:RS}{m:Machine}{mk mp:Value->World->Machine}{kp:ae->RS->Option R}{k:Slot->RS->Option R}{ds:List Deferred}
variable {drawn AA tk:Bool}{EB:List Nat}{cf:aI}{dst:Option Nat}{ty:TypeId}{pos:String}{AK:Array Edge}{gd:Option (Nat×Bool)}
abbrev ev(tmps:Array Value)(ds:List Deferred):Operand->Value:=(⟨tmps,ds⟩:Act).eval
structure Ex (P:Program) (tmps:Array Value) (ds:List Deferred) (w:World) (o:Oper) (m:Machine) (mk:Value->World->Machine):Prop where
 val:∀v w',(execOp (ev tmps ds) o).run P w=.ok (.value v) w'->Steps P m (mk v w')
 skip:∀w',(execOp (ev tmps ds) o).run P w=.ok .skip w'->Steps P m (mk undef w')
theorem a1O{d:Bool}{l:List Nat}{p:Place}{K:Option R}(e:bO d l p K=some r):K=some r:=by
 unfold bO at e
 split at e
 ·exact e
 ·split at e
  ·exact(aB e).2
  ·exact(aB e).2
theorem a6u{d:Bool}{p:Place}{K:Option R}(e:gC d p K=some r):K=some r:=by
 unfold gC at e
 split at e
 ·exact e
 ·split at e
  ·exact e
  ·cases e
theorem aHH(h:Rel P ans B0 w Ψ J ow an (sl an tm rs) tmps rs.sto.objs){x:Operand}(X:Ex P tmps ds w ⟨dst,.move x,ty,pos,AK,gd⟩ m mk)(e:aC P ans an drawn AA EB cf tm tk ⟨dst,.move x,ty,pos,AK,gd⟩ rs kp k=some r):Goal P ans an w B0 Ψ J ow tmps tm rs dst m mk mp kp k r :=
 y1 (ds:=ds) h (by simpa only[aC] using e) (X.val _ _ (by simp[execOp]))
theorem aBu(h:Rel P ans B0 w Ψ J ow an (sl an tm rs) tmps rs.sto.objs){x:Operand}(X:Ex P tmps ds w ⟨dst,.assign x,ty,pos,AK,gd⟩ m mk)(e:aC P ans an drawn AA EB cf tm tk ⟨dst,.assign x,ty,pos,AK,gd⟩ rs kp k=some r):Goal P ans an w B0 Ψ J ow tmps tm rs dst m mk mp kp k r :=
 y1 (ds:=ds) h (by simpa only[aC] using e) (X.val _ _ (by simp[execOp]))
theorem aHI(h:Rel P ans B0 w Ψ J ow an (sl an tm rs) tmps rs.sto.objs){c a b:Operand}(X:Ex P tmps ds w ⟨dst,.pick c a b,ty,pos,AK,gd⟩ m mk)(e:aC P ans an drawn AA EB cf tm tk ⟨dst,.pick c a b,ty,pos,AK,gd⟩ rs kp k=some r):Goal P ans an w B0 Ψ J ow tmps tm rs dst m mk mp kp k r:=by
 simp only[aC] at e;obtain⟨t,hs,_⟩:=bH (ds:=ds) h c;obtain⟨tt,e,hc,_⟩:=a3M hs e;cases tt with
 |true =>
  obtain⟨u,hu,_⟩:=bH (ds:=ds) h a;exact zh h hu (qP h a) e (X.val _ _ (by simp[execOp,ev,hc,Go.asBool]))
 |false =>
  obtain⟨u,hu,_⟩:=bH (ds:=ds) h b;exact zh h hu (qP h b) e (X.val _ _ (by simp[execOp,ev,hc,Go.asBool]))
theorem newLocal{z:List Cell}{vs:List Value}{T:TypeId}{d:Nat}(hd:dst=some d)(hl:an.loc.contains d=true){BR:Own}(hF:Fr w Ψ ow w Ψ BR){rs1:RS}(h1:Rel P ans B0 w Ψ J BR an (sl an tm rs1) tmps rs1.sto.objs)(A8:rs1.sto=rs.sto)
  (hz:ie w B0 Ψ J BR false an.nt z vs) (e:k (.box z) rs1=some r) (hs:Steps P m (mk (.pointer (some ⟨w.heap.size,0,none⟩)) (w.alloc (.cells ⟨vs⟩ T)))):Goal P ans an w B0 Ψ J ow tmps tm rs dst m mk mp kp k r:=by
 obtain⟨a1,a2,a3⟩:=aNM (T:=T) h1 hz;exact .inl ⟨_,_,_,_,_,J,_,e,a1,a2,(λu o he=>by cases he),(λcs _=>⟨d,hd,hl⟩),hF.trans a3,aG _,by rw[A8];exact gr.refl _,hs⟩
theorem zS(h:Rel P ans B0 w Ψ J ow an (sl an tm rs) tmps rs.sto.objs){z:List Cell}{vs:List Value}{T:TypeId}{BR:Own}(AP:rs.sto.lo<=rs.sto.objs.length)(hF:Fr w Ψ ow w Ψ BR){rs1:RS}(h1:Rel P ans B0 w Ψ J BR an (sl an tm rs1) tmps rs1.sto.objs)(A8:rs1.sto=rs.sto)
  (hz:ie w B0 Ψ J BR false an.nt z vs) (e:k (.val (.loc rs1.sto.objs.length 0)) { rs1 with sto:={ rs1.sto with objs:=rs1.sto.objs++[.box z] } }=some r)
  (hs:Steps P m (mk (.pointer (some ⟨w.heap.size,0,none⟩)) (w.alloc (.cells ⟨vs⟩ T)))):Goal P ans an w B0 Ψ J ow tmps tm rs dst m mk mp kp k r:=by
 have hl:=h1.objs.1;have KA:∀b,BR b≠none->b<w.heap.size:=h1.lt
 let CG:=fE BR false an.nt true rs1.sto.objs.length 0
 have hn:m6 (w.alloc (.cells ⟨vs⟩ T)) B0 Ψ (J++[w.heap.size]) (oset CG w.heap.size (some (true,rs1.sto.objs.length,0))) ans rs1.sto.objs.length (.box z) w.heap.size:=by
  refine .box _ _ ⟨by simp[oset],h.base,h.b_.vO (Ae _),vs,T,heap_alloc_new _,?_⟩;refine hz.mono Ψ.le_refl ?_ ?_
  ·rw[Bz (by simp[hl])];exact eD _ _
  ·intro b s hb
   have BC:=KA b (by simp[hb]);exact⟨by simp[oset,show ¬b=w.heap.size by omega,CG,fE,hb],heap_alloc_old _ BC,λ_ h=>h⟩
 obtain⟨g1,g2⟩:=a0h (o:=.cells ⟨vs⟩ T) h1 CG (λb hb=>lT _ hb) (λkk i hk=>eV _ _ _ hk) hn;refine .inl ⟨_,_,_,_,Ψ,J++[w.heap.size],_,e,g1,?_,(λu o he=>by cases he),(λcs he=>by cases he),hF.trans g2,eD _ _,?_,hs⟩
 ·refine .val _ _ (.loc _ _ _ ?_)
  rw[Bm (by rw[hl];exact Ae _)];simp[hl]
 ·rw[A8]
  exact⟨rfl,by simp,λi hi=>by rw[Az (by omega)]⟩
theorem aEm(h:Rel P ans B0 w Ψ J ow an (sl an tm rs) tmps rs.sto.objs){t:TypeId}(AP:rs.sto.lo<=rs.sto.objs.length)(X:Ex P tmps ds w ⟨dst,.alloc t,ty,pos,AK,gd⟩ m mk)(e:aC P ans an drawn AA EB cf tm tk ⟨dst,.alloc t,ty,pos,AK,gd⟩ rs kp k=some r):Goal P ans an w B0 Ψ J ow tmps tm rs dst m mk mp kp k r:=by
 simp only[aC] at e;obtain⟨z,hz,e⟩:=aH e;obtain⟨s,_,e⟩:=aH e;obtain⟨_,e⟩:=aB e;obtain⟨v,hv,ID⟩:=a1R (w:=w) (B0:=B0) (Ψ:=Ψ) (J:=J) (ow:=ow) hz false an.nt
 have A9:(execOp (ev tmps ds) ⟨dst,.alloc t,ty,pos,AK,gd⟩).run P w=.ok (.value (.pointer (some ⟨w.heap.size,0,none⟩))) (w.alloc (.cells ⟨v.cells.toList⟩ t)):=by
  simp[execOp,Instr.alloc,aS hv,newVar,newRow]
 cases dst with
 |none=>simp at e
 |some d =>
  simp only at e
  split at e
  ·exact newLocal rfl (by assumption) (Fr.refl _ _ _) h rfl ID e (X.val _ _ A9)
  ·exact zS h AP (Fr.refl _ _ _) h rfl ID e (X.val _ _ A9)
theorem aNN(h:Rel P ans B0 w Ψ J ow an (sl an tm rs) tmps rs.sto.objs){z:List Cell}{vs:List Value}{T:TypeId}{BR:Own}(hF:Fr w Ψ ow w Ψ BR){rs1:RS}(h1:Rel P ans B0 w Ψ J BR an (sl an tm rs1) tmps rs1.sto.objs)(A8:rs1.sto=rs.sto)
  (hz:ie w B0 Ψ J BR false an.nt z vs) (hf:z.all mF=true) (e:k (.val (.ay (.agg (z.map Cell.get)))) rs1=some r)
  (hs:Steps P m (mk (.pointer (some ⟨w.heap.size,0,none⟩)) (w.alloc (.cells ⟨vs⟩ T)))):Goal P ans an w B0 Ψ J ow tmps tm rs dst m mk mp kp k r:=by
 have hτ:∀off c,(λoff=>(z.map Cell.get)[off]?) off=some c->flat c=true/\∃v,(w.alloc (.cells ⟨vs⟩ T)).cell? ⟨w.heap.size,off,none⟩=some v/\am Ψ [] c v:=λoff c hc=>by
  simp only[Aw,Aq] at hc;obtain⟨cc,Ka,rfl⟩:=hc;have U5:=Au.1 hf cc (Be Ka);simp only[mF,Ac] at U5;have EP:off<vs.length:=by rw[<-hz.1];exact(Ab.1 Ka).1
  refine⟨U5.1,vs[off],by rw[cell_of_heap (heap_alloc_new _)];simp[EP],?_⟩;exact((hz.2 off cc vs[off] Ka (by simp[EP])).get).2.flat U5.1
 have hR:=h1.alloc (o:=.cells ⟨vs⟩ T) (τ:=λoff=>(z.map Cell.get)[off]?) (id:=none) hτ;have Ja:=Fr.alloc (ow:=BR) (o:=.cells ⟨vs⟩ T) (τ:=λoff=>(z.map Cell.get)[off]?) (id:=none) h1.b_
 have q_:oset BR w.heap.size none=BR:=by
  funext b;unfold oset;split
  ·subst_vars
   cases e1:BR w.heap.size with
   |none=>rfl
   |some y=>have:=h1.lt w.heap.size (by simp[e1]);omega
  ·rfl
 rw[q_] at hR Ja;refine .inl ⟨_,rs1,_,_,_,J,BR,e,hR,.val _ _ (.ay _ _ 0 λj c hc=>?_),(λu o he=>by cases he),(λcs he=>by cases he),hF.trans Ja,aG _,by rw[A8];exact gr.refl _,hs⟩;simp only[ae.cells] at hc;simpa[fM] using hc
theorem aOa(h:Rel P ans B0 w Ψ J ow an (sl an tm rs) tmps rs.sto.objs){t:TypeId}{x:Operand}(AP:rs.sto.lo<=rs.sto.objs.length)(X:Ex P tmps ds w ⟨dst,.box t x,ty,pos,AK,gd⟩ m mk)(e:aC P ans an drawn AA EB cf tm tk ⟨dst,.box t x,ty,pos,AK,gd⟩ rs kp k=some r):Goal P ans an w B0 Ψ J ow tmps tm rs dst m mk mp kp k r:=by
 simp only[aC] at e;obtain⟨cs,rs1,BR,e,h1,CU,hF,A8,_,_⟩:=a6h (ds:=ds) h an.nt e;obtain⟨s,_,e⟩:=aH e;obtain⟨_,e⟩:=aB e
 have A9:(execOp (ev tmps ds) ⟨dst,.box t x,ty,pos,AK,gd⟩).run P w=.ok (.value (.pointer (some ⟨w.heap.size,0,none⟩))) (w.alloc (.cells ⟨(ev tmps ds x).cells.toList⟩ t)):=by
  simp[execOp,Instr.box,newVar,newRow]
 cases dst with
 |none=>simp at e
 |some d =>
  simp only at e
  split at e
  ·exact newLocal rfl (by assumption) hF h1 A8 CU e (X.val _ _ A9)
  ·split at e
   ·rename_i Iv
    exact aNN h hF h1 A8 CU (Bool.and_eq_true_iff.1 Iv).2 e (X.val _ _ A9)
   ·obtain⟨_,e⟩:=aB e
    exact zS h AP hF h1 A8 CU e (X.val _ _ A9)
theorem aEo(h:Rel P ans B0 w Ψ J ow an (sl an tm rs) tmps rs.sto.objs){t:TypeId}{parts:Array (Nat×Operand)}(X:Ex P tmps ds w ⟨dst,.build t parts,ty,pos,AK,gd⟩ m mk)(e:aC P ans an drawn AA EB cf tm tk ⟨dst,.build t parts,ty,pos,AK,gd⟩ rs kp k=some r):Goal P ans an w B0 Ψ J ow tmps tm rs dst m mk mp kp k r:=by
 simp only[aC] at e;obtain⟨z,hz,e⟩:=aH e
 have fin:∀{place:Nat->Option (Nat×Nat)}{l:List (Nat×ae)}{cs:List Cell},l.length=parts.toList.length ->
   (∀(n:Nat)(p:Nat×ae)(q:Nat×Operand),l[n]?=some p->parts.toList[n]?=some q->p.1=q.1/\am Ψ J p.2 (ev tmps ds q.2))->fB place z l=some cs->k (.cells cs) rs=some r ->
   (∀zv,(P.info? t).bind (·.zero)=some zv->P.built t (parts.map λ(i,x)=>(i,ev tmps ds x)).toList=Instr.fill place zv.cells (parts.map λ(i,x)=>(i,ev tmps ds x)).toList)->Goal P ans an w B0 Ψ J ow tmps tm rs dst m mk mp kp k r:=λhl hr hf hk hb=>by
  obtain⟨vs,A9,CU⟩:=aCH (ds:=ds) h hz hl hr hf hb;exact .plain h hk (.cells _ _ CU) (λ_ _ e=>by cases e) (λ_ e=>by cases e) (X.val _ _ (by simp[execOp,A9]))
 split at e
 ·rename_i fs hu
  obtain⟨l,e,hl,hr⟩:=nU (ds:=ds) h e;obtain⟨places,hp,e⟩:=aH e;obtain⟨cs,hf,e⟩:=aH e;refine fin hl hr hf e λzv Ih=>?_
  cases hi:P.info? t with
  |none=>simp[hi] at Ih
  |some it =>
   simp[hi] at Ih;simp[Program.built,hi,hu,Ih,hp]
 ·rename_i n el hu
  obtain⟨l,e,hl,hr⟩:=nU (ds:=ds) h e;obtain⟨s,hs,e⟩:=aH e;obtain⟨cs,hf,e⟩:=aH e;refine fin hl hr hf e λzv Ih=>?_
  cases hi:P.info? t with
  |none=>simp[hi] at Ih
  |some it =>
   simp[hi] at Ih;cases K8:P.info? el with
   |none=>simp[aU,K8] at hs
   |some a6b =>
    simp[aU,K8] at hs;simp[Program.built,hi,hu,Ih,K8,hs]
 ·cases e
theorem a7T(h:Rel P ans B0 w Ψ J ow an (sl an tm rs) tmps rs.sto.objs){t:TypeId}{len:Nat}{parts:Array (Nat×Operand)}(X:Ex P tmps ds w ⟨dst,.buildSlice t len parts,ty,pos,AK,gd⟩ m mk)(e:aC P ans an drawn AA EB cf tm tk ⟨dst,.buildSlice t len parts,ty,pos,AK,gd⟩ rs kp k=some r):Goal P ans an w B0 Ψ J ow tmps tm rs dst m mk mp kp k r:=by
 simp only[aC] at e;obtain⟨el,KG,e⟩:=aH e;obtain⟨s,hs,e⟩:=aH e;obtain⟨hg,e⟩:=aB e;obtain⟨l,e,hl,hr⟩:=nU (ds:=ds) h e;obtain⟨z,hz,e⟩:=aH e;obtain⟨EF,e⟩:=aB e;obtain⟨xs,hf,e⟩:=aH e
 have hu:P.underlying t=some (.slice el):=by
  unfold aQ at KG
  split at KG
  ·rename_i e' he;cases KG;exact he
  ·cases KG
 simp only[Ac] at hg EF;obtain⟨v,w',Z',A9,hR,hS,hF⟩:=a7Z (ds:=ds) h hu hs (by simpa[Cy] using hg.1) (Ad hg.2) hz (Aa EF.1) EF.2 hl hr hf;exact .inl ⟨_,rs,v,w',Z',J,ow,e,hR,hS,(λu o he=>by cases he),(λcs he=>by cases he),hF,aG _,gr.refl _,X.val _ _ (by simp[execOp,A9])⟩
theorem aHG(h:Rel P ans B0 w Ψ J ow an (sl an tm rs) tmps rs.sto.objs){t:TypeId}{a:Operand}(X:Ex P tmps ds w ⟨dst,.load t a,ty,pos,AK,gd⟩ m mk)(e:aC P ans an drawn AA EB cf tm tk ⟨dst,.load t a,ty,pos,AK,gd⟩ rs kp k=some r):Goal P ans an w B0 Ψ J ow tmps tm rs dst m mk mp kp k r:=by
 simp only[aC] at e;obtain⟨p,e,hp⟩:=jG (ds:=ds) h e;have e:=a6u (a1O e);obtain⟨cs,off,b,o,e,hv,fc,Mm,Jx⟩:=iM h hp e;obtain⟨s,hs,e⟩:=aH e;obtain⟨agg,EG,e⟩:=aH e;have A9:∀v,(loadVar t ⟨b,o,none⟩).run P w=.ok v w->Steps P m (mk v w):=λv hl=>X.val _ _ (by simp[execOp,Instr.loadAt,ev,hv,Instr.sureAddr,hl])
 cases agg with
 |true =>
  simp only at e;obtain⟨x,hx,e⟩:=aH e;obtain⟨v,hl,Ou⟩:=a1D (P:=P) fc EG hs hx;exact .val h e Ou (A9 v hl)
 |false =>
  simp only at e
  replace e:=(aB e).2
  have one:∀c,cs[off]?=some c->k (.val c.get) rs=some r->Goal P ans an w B0 Ψ J ow tmps tm rs dst m mk mp kp k r:=λc hc e=>by
   obtain⟨v,hl,Ou⟩:=a1F (P:=P) fc EG hc;exact .val h e Ou (A9 v hl)
  cases CU:cs[off]? with
  |none=>cases tk<;>simp[CU] at e
  |some c =>
   cases c with
   |val c=>cases tk<;>exact one _ CU (by simpa[CU] using e)
   |own sz xs =>
    cases tk with
    |false=>exact one _ CU (by simpa[CU] using e)
    |true =>
     simp only[CU] at e;obtain⟨u,hu,_,YD⟩:=fc 0 _ (by simpa using CU);have Hh:w.cell? ⟨b,o,none⟩=some u:=by simpa using hu
     have A8:=A9 u (u_ EG Hh);cases p with
     |loc t' o' =>
      obtain⟨l1,l2,l3,l4⟩:=Mm t' o' rfl;simp only[bS] at e;subst l2;obtain⟨g1,g2⟩:=aE6 h l1 l4 l3 CU Hh;refine .inl ⟨_,_,_,w,Ψ,J,_,e,?_,.own _ _ _ g2,(λu o he=>by cases he),(λcs he=>by cases he),?_,aG _,gr.refl _,A8⟩
      ·rw[show sl an tm (rs.put t' (.box (cs.set off (.val (.slice xs)))))=jl (sl an tm rs) t' (.box (cs.set off (.val (.slice xs)))) from dJ _ _ _ _ _];exact g1
      ·exact⟨Ψ.le_refl,Ae _,λ_ _ _=>⟨rfl,λ_=>rfl⟩,λb hb=>.inl (oE hb),rfl,rfl,rfl⟩
     |obj i o' =>
      obtain⟨l1,l2,l3,l4⟩:=Jx i o' rfl;simp only[bS] at e;obtain⟨hg,e⟩:=aB e;simp only[Ac] at hg;subst l2;obtain⟨g1,g2⟩:=aE7 h l1 l3 l4 CU Hh;refine .inl ⟨_,_,_,w,Ψ,J,_,e,g1,.own _ _ _ g2,(λu o he=>by cases he),(λcs he=>by cases he),?_,aG _,⟨rfl,by simp,λj hj=>?_⟩,A8⟩
      ·exact⟨Ψ.le_refl,Ae _,λ_ _ _=>⟨rfl,λ_=>rfl⟩,λb hb=>.inl (oE hb),rfl,rfl,rfl⟩
      ·have:=Ad hg.1
       simp[Ce,show ¬i=j by omega]
     |kc x=>simp[bS] at e
theorem a1g{t:TypeId}{a x:Operand}{k:RS->Option R}(e:th P t an.keep tm rs a x k=some r):∃i j ty f g b e',AZ an.keep tm rs a=.val (.loc i 1)/\AZ an.keep tm rs x=.val (.iface ty (.loc j 0)) /\
  rs.sto.objs[i]?=some (.box [.val (.str f),.val .fh,.val e'])/\rs.sto.objs[j]?=some (.box [.val (.str g),.val b,.val (.loc i 0)])/\aU P t=some 1/\i<j/\rs.sto.lo<=i/\flat e'=true/\flat b=true /\
  k { rs with sto:={ rs.sto with objs:=(rs.sto.objs.set i (.fw (.rc ty f g b e'))).set j (.fw (.ay (.agg [.str g,b,.rc ty f g b e']))) } }=some r:=by
 unfold th at e
 split at e
 ·rename_i i ty j h1 h2
  split at e
  ·rename_i f e' g b i' h3 h4
   obtain⟨s,hs,e1⟩:=aH e;obtain⟨hg,e2⟩:=aB e1;clear e e1;simp only[Ac] at hg;obtain⟨⟨⟨⟨⟨g1,g2⟩,g3⟩,g4⟩,g5⟩,g6⟩:=hg;obtain rfl:=Aa g1;obtain rfl:=Aa g2;exact⟨i,j,ty,f,g,b,e',h1,h2,h3,h4,hs,by simpa[Cy] using g3,Ad g4,g5,g6,e2⟩
  ·cases e
 ·cases e
theorem aMW(h:Rel P ans B0 w Ψ J ow an (sl an tm rs) tmps rs.sto.objs){t:TypeId}{a x:Operand}(X:Ex P tmps ds w ⟨dst,.store t a x,ty,pos,AK,gd⟩ m mk)
  (e:th P t an.keep tm rs a x (λrs'=>k .dead rs')=some r):Goal P ans an w B0 Ψ J ow tmps tm rs dst m mk mp kp k r:=by
 obtain⟨i,j,tI,f,g,y,z,ha,hx,hi,hj,hs,HS,AP,Iv,Ms,e⟩:=a1g e;obtain⟨ta,UB,_⟩:=bH (ds:=ds) h a;obtain⟨tx,CK,_⟩:=bH (ds:=ds) h x;rw[ha] at UB;rw[hx] at CK;obtain⟨bi,Ix,oi⟩:=h.objs.2 i _ hi;obtain⟨bj,Nd,oj⟩:=h.objs.2 j _ hj
 have hva:ev tmps ds a=.pointer (some ⟨bi,1,none⟩):=by
  show(⟨tmps,ds⟩:Act).eval a=_;generalize(⟨tmps,ds⟩:Act).eval a=u at UB;cases UB with|val _ _ hv=>cases hv with|loc _ _ b hb=>rw[Ix] at hb;cases hb;rfl
 have Ln:ev tmps ds x=.iface tI (.pointer (some ⟨bj,0,none⟩)):=by
  show(⟨tmps,ds⟩:Act).eval x=_;generalize(⟨tmps,ds⟩:Act).eval x=u at CK;cases CK with|val _ _ hv=>cases hv with|iface _ _ u hu=>cases hu with|loc _ _ b hb=>rw[Nd] at hb;cases hb;rfl
 cases oi with
 |box _ _ oi =>
 cases oj with
 |box _ _ oj =>
 obtain⟨wi,_,fi,vi,Ti,gi,li,ri⟩:=oi;obtain⟨wj,_,fj,vj,Tj,gj,lj,rj⟩:=oj
 match vi,li with
 |[v0,v1,v2],_ =>
 match vj,lj with
 |[u0,u1,u2],_ =>
 have c0:v0=.string ⟨⟨f⟩⟩:=by have:=ri 0 _ _ rfl rfl;cases this with|val _ _ _ hv=>cases hv;rfl
 have c2:am Ψ [] z v2:=by have:=ri 2 _ _ rfl rfl;cases this with|val _ _ _ hv=>exact hv.flat Iv
 have d0:u0=.string ⟨⟨g⟩⟩:=by have:=rj 0 _ _ rfl rfl;cases this with|val _ _ _ hv=>cases hv;rfl
 have d1:am Ψ [] y u1:=by have:=rj 1 _ _ rfl rfl;cases this with|val _ _ _ hv=>exact hv.flat Ms
 have d2:u2=.pointer (some ⟨bi,0,none⟩):=by
  have:=rj 2 _ _ rfl rfl
  cases this with|val _ _ _ hv=>cases hv with|loc _ _ b hb =>
   rw[Bl] at hb
   split at hb
   ·rw[Ix] at hb;cases hb;rfl
   ·cases hb
 subst c0 d0 d2;have BA:bi≠bj:=λe0=>by rw[e0,wj] at wi;cases wi;omega
 have a4Z:bi<w.heap.size:=(An.1 gi).1;have PU:bj<w.heap.size:=(An.1 gj).1
 let vN:Value:=.iface tI (.pointer (some ⟨bj,0,none⟩))
 let w':World:=w.putObj bi (.cells ⟨[.string ⟨⟨f⟩⟩,vN,v2]⟩ Ti (0,0))
 have a53:w'.heap[bi]?=some (.cells ⟨[.string ⟨⟨f⟩⟩,vN,v2]⟩ Ti (0,0)):=World.putObj_heap_same a4Z;have GS:∀b,b≠bi->w'.heap[b]?=w.heap[b]?:=λb hb=>Bn (λe0=>hb e0.symm)
 have BD:w'.heap.size=w.heap.size:=by simp[w',World.putObj]
 have A8:Steps P m (mk undef w'):=by
  refine X.skip _ ?_
  have:=eW (P:=P) (t:=t) (o:=1) (v:=vN) hs gi (λu hu=>by simp[vN,Value.cells] at hu;subst hu;rfl) (by simp[vN,Value.cells])
  simp only[ev] at hva Ln;simp[execOp,Instr.storeAt,hva,Ln,Instr.sureAddr];simp only[vN] at this;simp[this,w',vN,overwrite,Value.cells]
 let R:ae:=.rc tI f g y z
 let Z':HT:=λb o c=>Ψ b o c\/(b=bi/\(SK tI f g y z).cells[o]?=some c)\/(b=bj/\[ae.str g,y,R][o]?=some c)
 have hΨ:Ψ.le Z':=λb o c hc=>.inl hc
 have LV:∀b,b≠bi->b≠bj->∀o,Z' b o=Ψ b o:=λb h1 h2 o=>by
  funext c;exact propext ⟨λhc=>by rcases hc with hc|⟨e0,_⟩|⟨e0,_⟩;exact hc;exact absurd e0 h1;exact absurd e0 h2,.inl⟩
 have hR:am Z' [] R (.pointer (some ⟨bi,0,none⟩)):=.rc _ _ _ _ _ bi 0 λq c hc=>.inr (.inl ⟨rfl,by simpa using hc⟩)
 have hC:am Z' [] (.ay (.agg [.str g,y,R])) (.pointer (some ⟨bj,0,none⟩)):=.ay _ bj 0 λq c hc=>.inr (.inr ⟨rfl,by simpa[ae.cells] using hc⟩)
 have KN:∀o,w'.cell? ⟨bi,o,none⟩=[Value.string ⟨⟨f⟩⟩,vN,v2][o]?:=λo=>cell_of_heap a53 o
 have KM:∀o,w'.cell? ⟨bj,o,none⟩=[Value.string ⟨⟨g⟩⟩,u1,.pointer (some ⟨bi,0,none⟩)][o]?:=λo=>cell_of_heap ((GS bj (λe0=>BA e0.symm)).trans gj) o
 have CS:∀b o c,Ψ b o c->b≠bi/\b≠bj:=λb o c hc=>⟨λe0=>by subst e0;rw[fi o] at hc;exact hc,λe0=>by subst e0;rw[fj o] at hc;exact hc⟩
 have hw:c_ Z' w':=⟨by rw[BD];exact h.b_.kS,λb o c hc=>by
  rcases hc with hc|⟨rfl,hc⟩|⟨rfl,hc⟩
  ·obtain⟨h1,v,h2,h3⟩:=h.b_.sat b o c hc
   exact⟨h1,v,(m8 (GS b (CS b o c hc).1) o).trans h2,h3.mono hΨ (aG _)⟩
  ·rw[KN]
   match o with
   |0=>cases hc;exact⟨rfl,_,rfl,.str _⟩
   |1=>cases hc;exact⟨rfl,_,rfl,.iface _ _ _ hC⟩
   |2=>cases hc;exact⟨Iv,_,rfl,c2.mono hΨ (aG _)⟩
   |o+3=>cases hc
  ·rw[KM]
   match o with
   |0=>cases hc;exact⟨rfl,_,rfl,.str _⟩
   |1=>cases hc;exact⟨Ms,_,rfl,d1.mono hΨ (aG _)⟩
   |2=>cases hc;exact⟨rfl,_,rfl,hR⟩
   |o+3=>cases hc⟩
 let AO:Own:=λb=>if b=bi\/b=bj then none else ow b
 have B6:∀kk q,(kk=false\/q≠i/\q≠j)->e_ w Ψ ow w' Z' AO kk q kk q:=λkk q hq b s hb=>by
  have h1:b≠bi:=λe0=>by subst e0;rw[wi] at hb;cases hb;rcases hq with hq|hq;cases hq;exact hq.1 rfl
  have h2:b≠bj:=λe0=>by subst e0;rw[wj] at hb;cases hb;rcases hq with hq|hq;cases hq;exact hq.2 rfl
  exact⟨by simp[AO,h1,h2,hb],GS b h1,λo ho=>by rw[LV b h1 h2 o];exact ho⟩
 have K4:i_ w' B0 Z' J AO ans ((rs.sto.objs.set i (.fw R)).set j (.fw (.ay (.agg [.str g,y,R])))):=by
  refine⟨by simp[h.objs.1],λq o ho=>?_⟩;rw[Ce] at ho
  split at ho
  ·rename_i hq
   subst hq
   split at ho
   ·cases ho;exact⟨bj,Nd,.fw _ _ hC⟩
   ·cases ho
  ·rename_i hq
   rw[Ce] at ho
   split at ho
   ·rename_i Ju
    subst Ju
    split at ho
    ·cases ho;exact⟨bi,Ix,.fw _ _ hR⟩
    ·cases ho
   ·rename_i Ju
    obtain⟨b,h1,h2⟩:=h.objs.2 q o ho;exact⟨b,h1,h2.mono hΨ (aG _) (B6 true q (.inr ⟨λe0=>Ju e0.symm,λe0=>hq e0.symm⟩))⟩
 have NA:Rel P ans B0 w' Z' J AO an (sl an tm rs) tmps ((rs.sto.objs.set i (.fw R)).set j (.fw (.ay (.agg [.str g,y,R])))) :=
  ⟨h.size,hw,λq=>(h.dr q).mono hΨ (aG _) (B6 false q (.inl rfl)) (λ_ _ _=>rfl),h.refs,h.boxes,K4,λb hb=>by
   have:ow b≠none:=λe0=>hb (by simp only[AO];split<;>first|rfl|exact e0)
   rw[BD];exact h.lt b this,by rw[BD];exact h.base,h.hi⟩
 refine .inl ⟨.dead,_,undef,w',Z',J,AO,e,NA,.dead _,(λu o he=>by cases he),(λcs he=>by cases he),⟨hΨ,by rw[BD];exact Ae _,λb hb IJ=>?_,λb hb=>.inl λe0=>hb (by simp only[AO];split<;>first|rfl|exact e0),rfl,rfl,rfl⟩,aG _,⟨rfl,by simp,λq hq=>?_⟩,A8⟩
 ·have h1:b≠bi:=λe0=>by subst e0;rw[wi] at IJ;cases IJ
  have h2:b≠bj:=λe0=>by subst e0;rw[wj] at IJ;cases IJ
  exact⟨GS b h1,LV b h1 h2⟩
 ·show((rs.sto.objs.set i _).set j _)[q]?=_
  rw[Dm (by omega),Dm (by omega)]
theorem aEr(h:Rel P ans B0 w Ψ J ow an (sl an tm rs) tmps rs.sto.objs){t:TypeId}{a x:Operand}(X:Ex P tmps ds w ⟨dst,.store t a x,ty,pos,AK,gd⟩ m mk)(e:aC P ans an drawn AA EB cf tm tk ⟨dst,.store t a x,ty,pos,AK,gd⟩ rs kp k=some r):Goal P ans an w B0 Ψ J ow tmps tm rs dst m mk mp kp k r:=by
 simp only[aC] at e;cases tk with
 |true=>exact aMW h X (aB e).2
 |false =>
 simp only at e;obtain⟨p,e,hp⟩:=jG (ds:=ds) h e;have e:=a1O e;obtain⟨cs,off,b,o,e,hv,fc,Mm,Jx⟩:=iM h hp e;obtain⟨s,hs,e⟩:=aH e;obtain⟨new,rs1,BR,e,h1,hn,hF,A8,B6,Hu⟩:=a2E (ds:=ds) h an.nt e;obtain⟨hg,e⟩:=aB e;simp only[Ac] at hg;have J8:new.length=s:=Aa hg.1;have hle:off+s<=cs.length:=Ad hg.2;have EC:(ev tmps ds x).cells.size=s:=by rw[<-J8,hn.1];simp
 have A9:∀vs T,w.heap[b]?=some (.cells ⟨vs⟩ T (0,0))->cs.length=vs.length->off=o->Steps P m (mk undef (w.putObj b (.cells ⟨overwrite vs o (ev tmps ds x).cells.toList⟩ T (0,0)))):=λvs T hh hl ho=>by
  refine X.skip _ ?_
  have:=eW (P:=P) (t:=t) (o:=o) (v:=ev tmps ds x) (by rw[EC];exact hs) hh hn.one (by rw[EC];omega)
  simp[execOp,Instr.storeAt,ev,hv,Instr.sureAddr];simp[ev] at this;simp[this]
 cases p with
 |loc t' o' =>
  obtain⟨l1,l2,l3,l4⟩:=Mm t' o' rfl;simp only[bS] at e;subst l2;have Om:=Hu t' cs l1;obtain⟨b1,b2,b3,vs,T,b4,b5⟩:=l3;have FW:=h1.dr t';rw[Om,l4] at FW;cases FW with
  |box _ _ GG =>
   obtain⟨c1,c2,c3,CL,T',c4,c5⟩:=GG;have hR:=aBK h1 Om l4 ⟨c1,c2,c3,CL,T',c4,c5⟩ c4 c5 hn (by rw[J8];exact hle);refine .inl ⟨.dead,_,undef,w.putObj b (.cells ⟨overwrite CL off (ev tmps ds x).cells.toList⟩ T' (0,0)),Ψ,J,fE BR false an.nt false t' off,e,?_,.dead _,(λu o he=>by cases he),(λcs he=>by cases he),hF.trans (Fr.put (by simp[c1]) (λx hx=>lT _ hx)),aG _,by show gr rs.sto rs1.sto;rw[A8];exact gr.refl _,A9 CL T' c4 c5.1 rfl⟩;rw[show sl an tm (rs1.put t' (.box (setCells cs off new)))=jl (sl an tm rs1) t' (.box (setCells cs off new)) from dJ _ _ _ _ _];exact hR
 |obj i o' =>
  obtain⟨l1,l2,l3,l4⟩:=Jx i o' rfl;simp only[bS] at e;obtain⟨EF,e⟩:=aB e;simp only[Ac] at EF;subst l2;have Om:rs1.sto.objs[i]?=some (.box cs):=by rw[A8];exact l1
  obtain⟨b',BC,Ly⟩:=h1.objs.2 i _ Om;obtain rfl:b=b':=by rw[l3] at BC;exact Bp BC
  cases Ly with
  |box _ _ GG =>
   obtain⟨c1,c2,c3,CL,T',c4,c5⟩:=GG;have hR:=aBL h1 Om l3 ⟨c1,c2,c3,CL,T',c4,c5⟩ c4 c5 hn (by rw[J8];exact hle) EF.2;refine .inl ⟨.dead,_,undef,w.putObj b (.cells ⟨overwrite CL off (ev tmps ds x).cells.toList⟩ T' (0,0)),Ψ,J,fE BR false an.nt true i off,e,hR,.dead _,(λu o he=>by cases he),(λcs he=>by cases he),hF.trans (Fr.put (by simp[c1]) (λx hx=>lT _ hx)),aG _,⟨by rw[<-A8],by rw[<-A8];simp,λj hj=>?_⟩,A9 CL T' c4 c5.1 rfl⟩
   have:=Ad EF.1
   rw[A8] at this;rw[<-A8];simp[Ce,show ¬i=j by omega]
 |kc y=>simp[bS] at e
theorem a6D(h:Rel P ans B0 w Ψ J ow an (sl an tm rs) tmps rs.sto.objs){x:Operand}(X:Ex P tmps ds w ⟨dst,.nilCheck x,ty,pos,AK,gd⟩ m mk)(e:aC P ans an drawn AA EB cf tm tk ⟨dst,.nilCheck x,ty,pos,AK,gd⟩ rs kp k=some r):Goal P ans an w B0 Ψ J ow tmps tm rs dst m mk mp kp k r:=by
 simp only[aC] at e;obtain⟨t,hs,ht⟩:=bH (ds:=ds) h x;have Jv:∀a,ev tmps ds x=.pointer (some a)->Steps P m (mk (.pointer (some a)) w):=λa ha=>X.val _ _ (by simp[execOp,ha])
 split at e
 ·rename_i cs BI
  split at e
  ·rename_i t'
   obtain rfl:=ht t' rfl;have BN:sl an tm rs t=.box cs:=BI;have FC:=h.dr t;rw[BN] at FC;have hv:ev tmps ds (.tmp t)=tmps.getD t undef:=rfl;generalize hg:tmps.getD t undef=v at FC;cases FC with
   |box _ b hb=>exact .plain h e (.ref t 0 b hg) (λu o he=>by cases he;exact⟨cs,BN⟩) (λ_ he=>by cases he) (Jv _ (by rw[hv,hg]))
  ·cases e
 ·rename_i u o BI
  rw[BI] at hs;have Hk:=qP h x u o BI;generalize hg:(⟨tmps,ds⟩:Act).eval x=v at hs;cases hs with
  |ref _ _ b hb=>exact .plain h e (.ref u o b hb) (λu' o' he=>by cases he;exact Hk) (λ_ he=>by cases he) (Jv _ hg)
 ·rename_i i o BI
  rw[BI] at hs;generalize hg:(⟨tmps,ds⟩:Act).eval x=v at hs;cases hs with
  |val _ _ hv =>
   cases hv with
   |loc _ _ b hb=>exact .val h e (.loc i o b hb) (Jv _ hg)
 ·rename_i y BI
  rw[BI] at hs;generalize hg:(⟨tmps,ds⟩:Act).eval x=v at hs;cases hs with
  |val _ _ hv =>
   cases hv with
   |ay _ b o hb=>exact .val h e (.ay y b o hb) (Jv _ hg)
 ·rename_i t' f a y z BI
  rw[BI] at hs;generalize hg:(⟨tmps,ds⟩:Act).eval x=v at hs;cases hs with
  |val _ _ hv =>
   cases hv with
   |rc _ _ _ _ _ b o hb=>exact .val h e (.rc t' f a y z b o hb) (Jv _ hg)
 ·rename_i f cs BI
  rw[BI] at hs;generalize hg:(⟨tmps,ds⟩:Act).eval x=v at hs;cases hs with
  |val _ _ hv =>
   cases hv with
   |func _ _ vs hl hx=>exact .val h e (.func f cs vs hl hx) (X.val _ _ (by simp[execOp,ev,hg]))
 ·cases e
theorem a6v{t:TypeId}(h:fD P t=true):∃e,P.underlying t=some (.slice e):=by
 unfold fD at h;split at h
 ·exact⟨_,by assumption⟩
 ·cases h
theorem wR{t:TypeId}(h:qI P t=true):∃e,P.underlying t=some (.interface e):=by
 unfold qI at h;split at h
 ·exact⟨_,by assumption⟩
 ·cases h
theorem a7k{t:TypeId}(h:ei P t=true):P.underlying t=some .bool:=by
 unfold ei at h;split at h
 ·assumption
 ·cases h
theorem nY{t:TypeId}(h:rZ P t=true):∃e,P.underlying t=some (.pointer e):=by
 unfold rZ at h;split at h
 ·exact⟨_,by assumption⟩
 ·cases h
theorem bP{t:TypeId}{x y:Value}{d:TypeDesc}{b:Bool}(hu:P.underlying t=some d)
  (h:∀n,(Op.equalIn (n+1) t x y).run P w=.ok b w):(Op.equal t x y).run P w=.ok b w:=h 9999
theorem aFQ{op:BinOp}{t:TypeId}{ox oy:Operand}{a b c:ae}{va vb:Value}(ha:am Ψ J a va)(hb:am Ψ J b vb)(ht:hH P t a=true)(e:gZ op a b=some c) :
  (eqGuard op t ox oy va vb).run P w=.ok () w/\∃v,(binOp op t va vb).run P w=.ok v w/\am Ψ J c v:=by
 cases ha with
 |int kd n =>
  cases hb with
  |int IC n' =>
   simp only[gZ] at e
   split at e
   ·subst_vars
    refine⟨by rw[eqGuard_at_int];rfl,?_⟩;cases op<;>simp only[Am,reduceCtorEq] at e
    case rem =>
     split at e
     ·cases e
     ·rename_i h0
      cases e;exact⟨_,by simp[binOp,Op.intDiv,h0],.int _ _⟩
    case shl =>
     split at e
     ·cases e
     ·rename_i h0
      cases e;exact⟨_,by simp[binOp,Op.shift,h0],.int _ _⟩
    all_goals (subst e;first
     |exact⟨_,by simp[binOp,Op.intArith],.int _ _⟩
     |exact⟨_,by simp[binOp,Op.intCmp],.bool _⟩)
   ·cases e
  |_=>simp[gZ] at e
 |str s =>
  cases hb with
  |str s' =>
   refine⟨by rw[eqGuard_at_string];rfl,?_⟩;cases op<;>simp only[gZ,Am,reduceCtorEq] at e
   all_goals (subst e;exact⟨_,by simp[binOp,Op.stringOp,ByteArray.toList_eq],.bool _⟩)
  |_=>simp[gZ] at e
 |bool x =>
  cases hb with
  |bool y =>
   have hu:=a7k ht;have he:(Op.equal t (.bool x) (.bool y)).run P w=.ok (x==y) w:=bP hu λn=>by simp[Op.equalIn,run_underlying hu]
   refine⟨by rw[eqGuard_at_bool];rfl,?_⟩;cases op<;>simp only[gZ,Am,reduceCtorEq] at e
   all_goals (subst e;exact⟨_,by simp only[binOp,Sem.run_bind,he,Result.andThen_ok];rfl,.bool _⟩)
  |_=>simp[gZ] at e
 |fh =>
  cases hb with
  |iface d u vu Hh =>
   obtain⟨el,hu⟩:=wR ht;have he:(Op.equal t .nilIface (.iface d vu)).run P w=.ok false w:=bP hu λn=>by simp[Op.equalIn,run_underlying hu]
   refine⟨by rw[eqGuard_nil_iface];rfl,?_⟩;cases op<;>simp only[gZ,Am,reduceCtorEq] at e
   all_goals (subst e;exact⟨_,by simp only[binOp,Sem.run_bind,he,Result.andThen_ok];rfl,.bool _⟩)
  |_=>simp[gZ] at e
 |iface d u vu Hh =>
  cases hb with
  |fh =>
   obtain⟨el,hu⟩:=wR ht;have he:(Op.equal t (.iface d vu) .nilIface).run P w=.ok false w:=bP hu λn=>by simp[Op.equalIn,run_underlying hu]
   refine⟨by rw[eqGuard_at_iface];rfl,?_⟩;cases op<;>simp only[gZ,Am,reduceCtorEq] at e
   all_goals (subst e;exact⟨_,by simp only[binOp,Sem.run_bind,he,Result.andThen_ok];rfl,.bool _⟩)
  |_=>simp[gZ] at e
 |cW =>
  cases hb with
  |cW =>
   obtain⟨el,hu⟩:=nY ht;have he:(Op.equal t (.pointer none) (.pointer none)).run P w=.ok true w:=bP hu λn=>by simp[Op.equalIn,run_underlying hu]
   refine⟨by rw[eqGuard_at_pointer];rfl,?_⟩;cases op<;>simp only[gZ,Am,reduceCtorEq] at e
   all_goals (subst e;exact⟨_,by simp only[binOp,Sem.run_bind,he,Result.andThen_ok];rfl,.bool _⟩)
  |_=>simp[gZ] at e
 |ay x bb oo hx =>
  cases hb with
  |cW =>
   obtain⟨el,hu⟩:=nY ht;have he:(Op.equal t (.pointer (some ⟨bb,oo,none⟩)) (.pointer none)).run P w=.ok false w:=bP hu λn=>by simp[Op.equalIn,run_underlying hu]
   refine⟨by rw[eqGuard_at_pointer];rfl,?_⟩;cases op<;>simp only[gZ,Am,reduceCtorEq] at e
   all_goals (subst e;exact⟨_,by simp only[binOp,Sem.run_bind,he,Result.andThen_ok];rfl,.bool _⟩)
  |_=>simp[gZ] at e
 |rc t0 f0 a0 x0 e0 bb oo hx =>
  cases hb with
  |cW =>
   obtain⟨el,hu⟩:=nY ht;have he:(Op.equal t (.pointer (some ⟨bb,oo,none⟩)) (.pointer none)).run P w=.ok false w:=bP hu λn=>by simp[Op.equalIn,run_underlying hu]
   refine⟨by rw[eqGuard_at_pointer];rfl,?_⟩;cases op<;>simp only[gZ,Am,reduceCtorEq] at e
   all_goals (subst e;exact⟨_,by simp only[binOp,Sem.run_bind,he,Result.andThen_ok];rfl,.bool _⟩)
  |_=>simp[gZ] at e
 |loc i off bb hi =>
  cases hb with
  |cW =>
   obtain⟨el,hu⟩:=nY ht;have he:(Op.equal t (.pointer (some ⟨bb,off,none⟩)) (.pointer none)).run P w=.ok false w:=bP hu λn=>by simp[Op.equalIn,run_underlying hu]
   refine⟨by rw[eqGuard_at_pointer];rfl,?_⟩;cases op<;>simp only[gZ,Am,reduceCtorEq] at e
   all_goals (subst e;exact⟨_,by simp only[binOp,Sem.run_bind,he,Result.andThen_ok];rfl,.bool _⟩)
  |_=>simp[gZ] at e
 |slice=>simp[hH] at ht
 |agg=>simp[hH] at ht
 |kQ=>simp[hH] at ht
 |ld=>simp[hH] at ht
 |ln=>simp[hH] at ht
 |bN=>simp[hH] at ht
 |func=>simp[hH] at ht
 |ko=>simp[hH] at ht
 |raw=>simp[hH] at ht
theorem a7S{y:Operand}(h:dV y=true):∃a b,y=.const (.slice none a b):=by
 unfold dV at h;split at h
 ·exact⟨_,_,rfl⟩
 ·cases h
theorem a7R{y:Operand}(h:isNilIface y=true):y=.const .nilIface:=by
 unfold isNilIface at h;split at h
 ·rfl
 ·cases h
theorem a7p{t:Nat}{s:Slot}{v:Value}(hs:bX w B0 Ψ J ow tmps t s v){b:Bool}(e:cO s=some b):(∃l c,b=true/\v=.slice none l c)\/∃a l c,b=false/\v=.slice (some a) l c:=by
 have TK:∀{x:ae}{xs:List ae}{J:List Nat},am Ψ J (.slice (x::xs)) v->∃a l c,v=.slice (some a) l c:=λh=>by
  cases h with
  |slice _ a len cap s hl hc hx =>
   obtain⟨_,b,o,rfl,_⟩:=hx 0 _ rfl;exact⟨_,_,_,rfl⟩
 cases hs with
 |dead=>simp[cO] at e
 |aj=>simp[cO] at e
 |cells=>simp[cO] at e
 |box=>simp[cO] at e
 |ref=>simp[cO] at e
 |nl=>simp[cO] at e;exact .inl ⟨_,_,e,rfl⟩
 |nn xs a n c h=>simp[cO] at e;exact .inr ⟨_,_,_,e,rfl⟩
 |val x v h =>
  cases x with
  |slice xs=>cases xs with
   |nil=>simp[cO] at e
   |cons x xs=>simp[cO] at e;obtain⟨a,l,c,rfl⟩:=TK h;exact .inr ⟨_,_,_,e,rfl⟩
  |_=>simp[cO] at e
 |own sz xs v h=>cases xs with
  |nil=>simp[cO] at e
  |cons x xs=>simp[cO] at e;obtain⟨a,l,c,rfl⟩:=TK h.rel;exact .inr ⟨_,_,_,e,rfl⟩
 |full xs a n h=>cases xs with
  |nil=>simp[cO] at e
  |cons x xs=>simp[cO] at e;obtain⟨a',l,c,he⟩:=TK h;cases he;exact .inr ⟨_,_,_,e,rfl⟩
theorem aEn(h:Rel P ans B0 w Ψ J ow an (sl an tm rs) tmps rs.sto.objs){op:BinOp}{t:TypeId}{x y:Operand}{fl:_}(X:Ex P tmps ds w ⟨dst,.binOp op t x y fl,ty,pos,AK,gd⟩ m mk)(e:aC P ans an drawn AA EB cf tm tk ⟨dst,.binOp op t x y fl,ty,pos,AK,gd⟩ rs kp k=some r):Goal P ans an w B0 Ψ J ow tmps tm rs dst m mk mp kp k r:=by
 simp only[aC] at e;obtain⟨tx,CK,_⟩:=bH (ds:=ds) h x;obtain⟨tY,Tw,_⟩:=bH (ds:=ds) h y
 have fin:∀v,(eqGuard op t x y (ev tmps ds x) (ev tmps ds y)).run P w=.ok () w->(binOp op t (ev tmps ds x) (ev tmps ds y)).run P w=.ok v w->Steps P m (mk v w):=λv h1 h2 =>
  X.val _ _ (by simp[execOp,h1,h2])
 have jk:(op=.eql\/op=.neq)->dV y=true->∀b,cO (AZ an.keep tm rs x)=some b->fD P t=true->k (.val (.bool (if op=.eql then b else !b))) rs=some r->Goal P ans an w B0 Ψ J ow tmps tm rs dst m mk mp kp k r:=λBI hy b hb FC hk=>by
  obtain⟨l',c',rfl⟩:=a7S hy;obtain⟨el,hu⟩:=a6v FC;have tB:ev tmps ds (.const (.slice none l' c'))=.slice none l' c':=rfl
  have hq:(Op.equal t (ev tmps ds x) (.slice none l' c')).run P w=.ok b w/\∃a l c,ev tmps ds x=.slice a l c:=by
   rcases a7p CK hb with⟨l,c,rfl,hv⟩|⟨a,l,c,rfl,hv⟩
   ·exact⟨bP hu λn=>by simp[ev,hv,Op.equalIn,run_underlying hu],_,_,_,hv⟩
   ·exact⟨bP hu λn=>by simp[ev,hv,Op.equalIn,run_underlying hu],_,_,_,hv⟩
  obtain⟨hq,a,l,c,hv⟩:=hq;refine .val h hk (.bool _) (fin _ (by rw[hv,eqGuard_at_slice];rfl) ?_);rcases BI with rfl|rfl
  ·rw[hv] at hq ⊢;rw[tB];simp only[binOp,Sem.run_bind,hq,Result.andThen_ok];rfl
  ·rw[hv] at hq ⊢;rw[tB];simp only[binOp,Sem.run_bind,hq,Result.andThen_ok];rfl
 have nf:(op=.eql\/op=.neq)->isNilIface y=true->AZ an.keep tm rs x=.val .fh->qI P t=true->k (.val (.bool (if op=.eql then true else false))) rs=some r->Goal P ans an w B0 Ψ J ow tmps tm rs dst m mk mp kp k r:=λBI hy hx Rs hk=>by
  obtain rfl:=a7R hy;obtain⟨el,hu⟩:=wR Rs;have tB:ev tmps ds (.const .nilIface)=.nilIface:=rfl
  have Ln:ev tmps ds x=.nilIface:=by
   rw[hx] at CK;generalize hg:(⟨tmps,ds⟩:Act).eval x=v at CK;cases CK with|val _ _ hv=>cases hv;exact hg
  have hq:(Op.equal t .nilIface .nilIface).run P w=.ok true w:=bP hu λn=>by simp[Op.equalIn,run_underlying hu]
  refine .val h hk (.bool _) (fin _ (by rw[Ln,tB,eqGuard_nil_constR];rfl) ?_);rcases BI with rfl|rfl
  ·rw[Ln,tB];simp only[binOp,Sem.run_bind,hq,Result.andThen_ok];rfl
  ·rw[Ln,tB];simp only[binOp,Sem.run_bind,hq,Result.andThen_ok];rfl
 have gen:DS (AZ an.keep tm rs x) (λa=>DS (AZ an.keep tm rs y) λb=>aJ (hH P t a) ((gZ op a b).bind λv=>k (.val v) rs))=some r->Goal P ans an w B0 Ψ J ow tmps tm rs dst m mk mp kp k r:=λe=>by
  obtain⟨a,e,ha⟩:=lE CK e;obtain⟨b,e,hb⟩:=lE Tw e;obtain⟨hg,e⟩:=aB e;obtain⟨c,hc,e⟩:=aH e;obtain⟨h1,v,h2,h3⟩:=aFQ (w:=w) (ox:=x) (oy:=y) ha hb hg hc;exact .val h e h3 (fin _ h1 h2)
 split at e
 ·rename_i hn
  obtain⟨hg,e⟩:=aB e;obtain⟨b,hb,e⟩:=aH e;exact jk (.inl rfl) hn b hb hg (by simpa using e)
 ·rename_i hn
  obtain⟨hg,e⟩:=aB e;obtain⟨b,hb,e⟩:=aH e;exact jk (.inr rfl) hn b hb hg (by simpa using e)
 ·split at e
  ·obtain⟨hg,e⟩:=aB e
   exact nf (.inl rfl) (by assumption) (by assumption) hg (by simpa using e)
  ·obtain⟨hg,e⟩:=aB e
   exact nf (.inr rfl) (by assumption) (by assumption) hg (by simpa using e)
  ·exact gen e
theorem aHJ(h:Rel P ans B0 w Ψ J ow an (sl an tm rs) tmps rs.sto.objs){op:UnOp}{t:TypeId}{x:Operand}(X:Ex P tmps ds w ⟨dst,.unOp op t x,ty,pos,AK,gd⟩ m mk)(e:aC P ans an drawn AA EB cf tm tk ⟨dst,.unOp op t x,ty,pos,AK,gd⟩ rs kp k=some r):Goal P ans an w B0 Ψ J ow tmps tm rs dst m mk mp kp k r:=by
 simp only[aC] at e;obtain⟨tx,CK,_⟩:=bH (ds:=ds) h x
 split at e
 ·rename_i b hx
  rw[hx] at CK;generalize hg:(⟨tmps,ds⟩:Act).eval x=v at CK;cases CK with
  |val _ _ hv=>cases hv with
   |bool=>exact .val h e (.bool _) (X.val _ _ (by simp[execOp,ev,hg,Op.unary]))
 ·cases e
theorem aAQ(hw:c_ Ψ w){x u:ae}{b o off s:Nat}{agg:Bool}(h:∀(j:Nat)(c:ae),x.cells[j]?=some c->Ψ b (o+j) c)(hu:partOf agg x.cells off s=some u) :
  am Ψ J (.ay u) (.pointer (some ⟨b,o+off,none⟩)):=by
 refine .ay u b _ λj c hc=>?_
 cases agg with
 |false =>
  simp only[partOf,Bg,Dk] at hu;have h1:=h off u hu;have h2:=j6 (hw.sat _ _ _ h1).1;rw[fK h2] at hc;cases j with
  |zero=>simp at hc;subst hc;exact h1
  |succ j=>simp at hc
 |true =>
  simp only[partOf,Dq] at hu;cases hle:Nat.ble (off+s) x.cells.length with
  |false=>simp[hle] at hu
  |true =>
   simp[hle] at hu;subst hu;simp only[ae.cells] at hc;rw[Bl] at hc
   split at hc
   ·rw[Ee] at hc
    have:=h _ c hc
    rwa [<-De] at this
   ·cases hc
def fy(rs:RS)(p:Place)(off s:Nat)(agg:Option Bool)(k:Slot->RS->Option R):Option R :=
 match p with
 |.loc t o=>k (.ref t (o+off)) rs
 |.obj i o=>k (.val (.loc i (o+off))) rs
 |.kc v=>agg.bind λagg=>(partOf agg v.cells off s).bind λu=>k (.val (.ay u)) rs
theorem a14(h:Rel P ans B0 w Ψ J ow an (sl an tm rs) tmps rs.sto.objs){p:Place}{v:Value}(hp:RD Ψ J tmps (sl an tm rs) p v){off s:Nat}{agg:Option Bool}(e:fy rs p off s agg k=some r) :
  ∃b o,v=.pointer (some ⟨b,o,none⟩)/\(Steps P m (mk (.pointer (some ⟨b,o+off,none⟩)) w)->Goal P ans an w B0 Ψ J ow tmps tm rs dst m mk mp kp k r):=by
 cases p with
 |loc t o =>
  obtain⟨cs,b,h1,h2,h3⟩:=hp;exact⟨b,o,h3,λhs=>.plain h e (.ref t _ b h2) (λu o' he=>by cases he;exact⟨cs,h1⟩) (λ_ he=>by cases he) hs⟩
 |obj i o =>
  obtain⟨b,h1,h2⟩:=hp;exact⟨b,o,h2,λhs=>.val h e (.loc i _ b h1) hs⟩
 |kc x =>
  simp only[RD] at hp;simp only[fy] at e;obtain⟨a,_,e⟩:=aH e;obtain⟨u,hu,e⟩:=aH e;cases hp with
  |ay _ b o hb=>exact⟨b,o,rfl,λhs=>.val h e (aAQ h.b_ hb hu) hs⟩
theorem DR{t:TypeId}{f:Nat}{o:Nat×TypeId}(h:AD P t f=some o):∃fs fl,P.underlying t=some (.struct fs)/\fs[f]?=some fl/\fl.offset=o.1/\fl.type=o.2:=by
 unfold AD at h
 split at h
 ·rename_i fs hu
  simp only[Aq] at h;obtain⟨fl,h1,rfl⟩:=h;exact⟨fs,fl,hu,h1,rfl,rfl⟩
 ·cases h
theorem a5x(h:Rel P ans B0 w Ψ J ow an (sl an tm rs) tmps rs.sto.objs){t:TypeId}{x:Operand}{f:Nat}(X:Ex P tmps ds w ⟨dst,.fieldAddr t x f,ty,pos,AK,gd⟩ m mk)(e:aC P ans an drawn AA EB cf tm tk ⟨dst,.fieldAddr t x f,ty,pos,AK,gd⟩ rs kp k=some r):Goal P ans an w B0 Ψ J ow tmps tm rs dst m mk mp kp k r:=by
 simp only[aC] at e;obtain⟨ot,hf,e⟩:=aH e;obtain⟨s,hs,e⟩:=aH e;obtain⟨hg,e⟩:=aB e;obtain⟨p,e,hp⟩:=jG (ds:=ds) h e;obtain⟨fs,fl,h1,h2,h3,h4⟩:=DR hf;have e':fy rs p ot.1 s (aW P ot.2) k=some r:=by cases p<;>exact e
 obtain⟨b,o,hv,Mr⟩:=a14 (m:=m) (mk:=mk) (mp:=mp) (kp:=kp) (dst:=dst) h hp e';refine Mr (X.val _ _ ?_)
 have G4:¬s=0:=by have:0<s:=by simpa[Cy] using hg
                  omega
 simp[execOp,ev,hv,Instr.fieldAt,run_underlying h1,h2,Instr.sureAddr,fieldPlace,h4,run_sizeOf hs,G4,cH,h3]
theorem a5z(h:Rel P ans B0 w Ψ J ow an (sl an tm rs) tmps rs.sto.objs){t:TypeId}{x ix:Operand}(X:Ex P tmps ds w ⟨dst,.indexAddr t x ix,ty,pos,AK,gd⟩ m mk)(e:aC P ans an drawn AA EB cf tm tk ⟨dst,.indexAddr t x ix,ty,pos,AK,gd⟩ rs kp k=some r):Goal P ans an w B0 Ψ J ow tmps tm rs dst m mk mp kp k r:=by
 simp only[aC] at e;obtain⟨tx,CK,_⟩:=bH (ds:=ds) h x;obtain⟨ti,YG,_⟩:=bH (ds:=ds) h ix
 split at e
 ·rename_i el hu
  obtain⟨xs,e,EC⟩:=uO CK e;obtain⟨kk,n,e,hn⟩:=kN YG e;obtain⟨s,hs,e⟩:=aH e;obtain⟨hg,e⟩:=aB e;obtain⟨v,hv,e⟩:=aH e;obtain⟨EF,e2⟩:=aB e;have h0:0<=n:=by simpa using hg
  have CU:v.cells.length=s:=Aa EF;generalize EZ:(⟨tmps,ds⟩:Act).eval x=vx at EC;cases EC with
  |slice _ a len cap s' hl hc hx =>
   obtain⟨h1,b,o,rfl,h3⟩:=hx _ v hv;have AL:n.toNat < len:=by rw[<-hl];exact(Ab.1 hv).1
   have Io:s'=s:=by rw[<-h1,CU]
   subst Io;refine .val h e2 (.ay v b (o+n.toNat * s') λj c hj=>h3 j c hj) (X.val _ _ ?_);simp[execOp,ev,EZ,hn,Instr.indexAt,asIntOf,run_underlying hu,h0,show n<(len:Int) by omega,run_sizeOf hs,cH]
 ·rename_i len el hu
  obtain⟨p,e,hp⟩:=jG (ds:=ds) h e;obtain⟨kk,n,e,hn⟩:=kN YG e;obtain⟨s,hs,e⟩:=aH e;obtain⟨hg,e⟩:=aB e;simp only[Ac,Cj] at hg;have e':fy rs p (n.toNat * s) s (aW P el) k=some r:=by cases p<;>exact e
  obtain⟨b,o,hv,Mr⟩:=a14 (m:=m) (mk:=mk) (mp:=mp) (kp:=kp) (dst:=dst) h hp e';refine Mr (X.val _ _ ?_);simp[execOp,ev,hv,hn,Instr.indexAt,asIntOf,run_underlying hu,Instr.sureAddr,hg.1,hg.2,run_sizeOf hs,cH]
 ·cases e
theorem a61(h:Rel P ans B0 w Ψ J ow an (sl an tm rs) tmps rs.sto.objs){t:TypeId}{x:Operand}(X:Ex P tmps ds w ⟨dst,.makeInterface t x,ty,pos,AK,gd⟩ m mk)(e:aC P ans an drawn AA EB cf tm tk ⟨dst,.makeInterface t x,ty,pos,AK,gd⟩ rs kp k=some r):Goal P ans an w B0 Ψ J ow tmps tm rs dst m mk mp kp k r:=by
 simp only[aC] at e;obtain⟨tx,CK,_⟩:=bH (ds:=ds) h x
 split at e
 ·cases e
 ·rename_i d hd hu
  obtain⟨y,e,hy⟩:=lE CK e;refine .val h e (.iface t y _ hy) (X.val _ _ ?_);simp only[execOp,Instr.makeInterface,Sem.run_bind,run_underlying hu,Result.andThen_ok];cases d<;>first|rfl|exact absurd rfl (hd _)
 ·cases e
theorem a7U(h:Rel P ans B0 w Ψ J ow an (sl an tm rs) tmps rs.sto.objs){xt t:TypeId}{ok:Bool}{x:Operand}(X:Ex P tmps ds w ⟨dst,.typeAssert x xt t ok,ty,pos,AK,gd⟩ m mk)(e:aC P ans an drawn AA EB cf tm tk ⟨dst,.typeAssert x xt t ok,ty,pos,AK,gd⟩ rs kp k=some r):Goal P ans an w B0 Ψ J ow tmps tm rs dst m mk mp kp k r:=by
 simp only[aC] at e;obtain⟨tx,CK,_⟩:=bH (ds:=ds) h x
 split at e
 ·cases e
 ·rename_i d hd hu
  obtain⟨z,hz,e1⟩:=aH e;clear e;simp only[zeroOf,Da] at hz;obtain⟨zv,Ik,Ij⟩:=hz;have xh:(P.info? t).bind (·.zero)=some zv:=by obtain⟨ti,a1,a2⟩:=Ik;rw[a1];exact a2
  have ID:=aS (P:=P) (w:=w) xh;have Ih:am Ψ J z zv:=jF Ij;generalize hg:(⟨tmps,ds⟩:Act).eval x=u at CK;have A9:∀u',(Instr.typeAssert u xt t ok).run P w=.ok u' w->Steps P m (mk u' w):=λu' h'=>X.val _ _ (by simp[execOp,ev,hg,h'])
  have two:∀{y:ae}{v:Value}{b:Bool},am Ψ J y v->bX w B0 Ψ J ow tmps an.nt (.aj [y,.bool b]) (.tuple #[v,.bool b]):=λ{y v b} hy=>.aj [y,.bool b] [v,.bool b] rfl λi c u h1 h2=>by
   match i with
   |0=>cases h1;cases h2;exact hy
   |1=>cases h1;cases h2;exact .bool _
   |i+2=>cases h1
  split at e1
  ·rename_i BI
   obtain⟨EE,e⟩:=aB e1;clear e1;subst EE;rw[BI] at CK;cases CK with
   |val _ _ hv=>cases hv with
    |fh=>exact .plain h e (two Ih) (λu o he=>by cases he) (λ_ he=>by cases he) (A9 _ (by cases d<;>first|exact absurd rfl (hd _)|simp[Instr.typeAssert,run_underlying hu,ID]))
  ·rename_i ut y BI
   rw[BI] at CK;cases CK with
   |val _ _ hv=>cases hv with
    |iface _ _ v hv =>
     split at e1
     ·rename_i hb
      have e:=e1;clear e1;obtain rfl:=Aa hb;cases ok with
      |true=>exact .plain h e (two hv) (λu o he=>by cases he) (λ_ he=>by cases he) (A9 _ (by cases d<;>first|exact absurd rfl (hd _)|simp[Instr.typeAssert,run_underlying hu]))
      |false=>exact .val h e hv (A9 _ (by cases d<;>first|exact absurd rfl (hd _)|simp[Instr.typeAssert,run_underlying hu]))
     ·rename_i hb
      have BA:ut≠t:=λe0=>by rw[e0,Ci] at hb;cases hb
      obtain⟨EE,e⟩:=aB e1;clear e1;subst EE;exact .plain h e (two Ih) (λu o he=>by cases he) (λ_ he=>by cases he) (A9 _ (by cases d<;>first|exact absurd rfl (hd _)|simp[Instr.typeAssert,run_underlying hu,ID,BA]))
  ·cases e1
 ·cases e
theorem vR(h:Rel P ans B0 w Ψ J ow an (sl an tm rs) tmps rs.sto.objs):∀{xs:List Operand}{k:List ae->Option R},mM an.keep tm rs xs k=some r ->
  ∃l,k l=some r/\l.length=xs.length/\∀(i:Nat) c v,l[i]?=some c->(xs.map (ev tmps ds))[i]?=some v->am Ψ J c v
 |[],k,e=>⟨[],e,rfl,λi c v hc=>by simp at hc⟩
 |x::xs,k,e=>by
  obtain⟨tx,CK,_⟩:=bH (ds:=ds) h x;simp only[mM] at e;obtain⟨y,e,hy⟩:=lE CK e;obtain⟨l,e,h1,h2⟩:=vR h e;refine⟨y::l,e,by simp[h1],λi c v hc hv=>?_⟩;cases i with
  |zero=>simp at hc hv;subst hc;subst hv;exact hy
  |succ i=>simp only[Ca,Ba] at hc hv;exact h2 i c v hc hv
theorem a6C(h:Rel P ans B0 w Ψ J ow an (sl an tm rs) tmps rs.sto.objs){fn:Fn}{first caps:Array Operand}(X:Ex P tmps ds w ⟨dst,.makeFunc fn first caps,ty,pos,AK,gd⟩ m mk)(e:aC P ans an drawn AA EB cf tm tk ⟨dst,.makeFunc fn first caps,ty,pos,AK,gd⟩ rs kp k=some r):Goal P ans an w B0 Ψ J ow tmps tm rs dst m mk mp kp k r:=by
 simp only[aC] at e
 split at e
 ·rename_i f hf
  obtain⟨l,e,h1,h2⟩:=vR (ds:=ds) h e
  have C4:first=#[]:=by
   apply Cr;simpa using hf
  subst C4;refine .val h e (.func f l (caps.toList.map (ev tmps ds)) (by simp[h1]) h2) (X.val _ _ ?_)
  have:caps.map (ev tmps ds)=⟨caps.toList.map (ev tmps ds)⟩:=by apply Cr;simp
  simp[execOp,Instr.makeFunc,this]
 ·cases e
theorem a7q(h:Rel P ans B0 w Ψ J ow an (sl an tm rs) tmps rs.sto.objs){t:Operand}{i:Nat}(X:Ex P tmps ds w ⟨dst,.extract t i,ty,pos,AK,gd⟩ m mk)(e:aC P ans an drawn AA EB cf tm tk ⟨dst,.extract t i,ty,pos,AK,gd⟩ rs kp k=some r):Goal P ans an w B0 Ψ J ow tmps tm rs dst m mk mp kp k r:=by
 simp only[aC] at e;obtain⟨tx,CK,_⟩:=bH (ds:=ds) h t
 split at e
 ·rename_i vs hx
  obtain⟨v,hv,e⟩:=aH e;rw[hx] at CK;generalize EZ:(⟨tmps,ds⟩:Act).eval t=vx at CK;cases CK with
  |aj _ us hl hr =>
   have hi:i<us.length:=by rw[<-hl];exact(Ab.1 hv).1
   exact .val h e (hr i v us[i] hv (by simp[hi])) (X.val _ _ (by simp[execOp,ev,EZ,Instr.extract,hi]))
 ·cases e
theorem n9(h:Rel P ans B0 w Ψ J ow an (sl an tm rs) tmps rs.sto.objs){x:Option Operand}{d:Int}{k:Int->Option R}(e:jQ an.keep tm rs x d k=some r) :
  ∃n,k n=some r/\((x=none/\n=d)\/∃y kd,x=some y/\ev tmps ds y=.int kd n):=by
 cases x with
 |none=>exact⟨d,e,.inl ⟨rfl,rfl⟩⟩
 |some y =>
  obtain⟨tx,CK,_⟩:=bH (ds:=ds) h y;obtain⟨kd,n,e,hv⟩:=kN CK e;exact⟨n,e,.inr ⟨y,kd,rfl,hv⟩⟩
theorem jU{isS:Bool}{len cap:Nat}{lo hi:Option Operand}{l h:Int}(hl:(lo=none/\l=0)\/∃y kd,lo=some y/\ev tmps ds y=.int kd l)(hh:(hi=none/\h=len)\/∃y kd,hi=some y/\ev tmps ds y=.int kd h)
  (h0:0<=l) (h1:l<=h) (h2:h<=len) (h3:len<=cap):(Instr.sliceBounds isS len cap (lo.map (ev tmps ds)) (hi.map (ev tmps ds)) none).run P w=.ok (l.toNat,h.toNat,cap) w:=by
 have eh:(h.toNat:Int)=h:=Int.toNat_of_nonneg (by omega);have h4:h<=(cap:Int):=by omega
 rcases hl with⟨rfl,rfl⟩|⟨y,kd,rfl,hy⟩<;>rcases hh with⟨rfl,rfl⟩|⟨z,IC,rfl,hz⟩
 ·simp[Instr.sliceBounds]
 ·simp[Instr.sliceBounds,hz,run_sliceBound,h4,show 0<=h by omega]
 ·simp[Instr.sliceBounds,hy,run_sliceBound,h0,h1]
 ·simp[Instr.sliceBounds,hy,hz,run_sliceBound,h0,h4,eh,h1,show 0<=h by omega]
theorem nJ{len cap:Nat}{lo:Option Operand}{l h:Int}{z u:Operand}{kz ku:IntKind}(hl:(lo=none/\l=0)\/∃y kd,lo=some y/\ev tmps ds y=.int kd l)(hz:ev tmps ds z=.int kz h)(hu:ev tmps ds u=.int ku h)
  (h0:0<=l) (h1:l<=h) (h2:h<=len) (h3:len<=cap):(Instr.sliceBounds true len cap (lo.map (ev tmps ds)) (some (ev tmps ds z)) (some (ev tmps ds u))).run P w=.ok (l.toNat,h.toNat,h.toNat) w:=by
 have eh:(h.toNat:Int)=h:=Int.toNat_of_nonneg (by omega);have h4:h<=(cap:Int):=by omega
 rcases hl with⟨rfl,rfl⟩|⟨y,kd,rfl,hy⟩
 ·simp[Instr.sliceBounds,hz,hu,run_sliceBound,h4,show 0<=h by omega,eh]
 ·simp[Instr.sliceBounds,hy,hz,hu,run_sliceBound,h0,h4,eh,h1,show 0<=h by omega]
theorem am.cut{J':List Nat}{xs:List ae}{a:Option Addr}{len cap sz l h:Nat}(hx:am Ψ J (.slice xs) (.slice a len cap))(h1:l<=h)(h2:h<=xs.length)(hd:eb sz ((xs.take h).drop l)=true)(M:Nat)(hM:h<=M) :
  am Ψ J' (.slice ((xs.take h).drop l)) (.slice (if M=l then a else a.map (·.add (l*sz))) (h-l) (M-l)):=by
 cases hx with
 |slice _ _ _ _ s hl hc hx =>
  refine .slice _ _ _ _ s (by simp;omega) (by omega) λi x hi=>?_
  have hlen:i<((xs.take h).drop l).length:=(Ab.1 hi).1;simp only[List.length_drop,Dz] at hlen;rw[Ee,Bl,Br (by omega)] at hi;obtain⟨g1,b,o,rfl,g2⟩:=hx (l+i) x hi
  have Io:s=sz:=by
   have hl0:l<xs.length:=by omega
   obtain⟨g3,_⟩:=hx l xs[l] (by simp[hl0])
   have Hq:(xs.take h).drop l=xs[l]::(xs.take h).drop (l+1):=by
    rw[Dy (by simp;omega)];simp
   rw[Hq] at hd;rw[<-g3];exact Aa hd
  subst Io;refine⟨g1,b,o+l*s,?_,λj c hj=>?_⟩
  ·rw[Bf (by omega)]
   simp[cH]
  ·have:=g2 j c hj
   rw[show o+l*s+i*s+j=o+(l+i)*s+j by rw[Co];omega];exact this
theorem aEq(h:Rel P ans B0 w Ψ J ow an (sl an tm rs) tmps rs.sto.objs){t:TypeId}{x:Operand}{lo hi mx:Option Operand}(X:Ex P tmps ds w ⟨dst,.slice t x lo hi mx,ty,pos,AK,gd⟩ m mk)(e:aC P ans an drawn AA EB cf tm tk ⟨dst,.slice t x lo hi mx,ty,pos,AK,gd⟩ rs kp k=some r):Goal P ans an w B0 Ψ J ow tmps tm rs dst m mk mp kp k r:=by
 simp only[aC] at e;obtain⟨tx,CK,_⟩:=bH (ds:=ds) h x
 split at e
 ·rename_i hu
  split at e
  ·rename_i s hx
   obtain⟨l,e,hl⟩:=n9 (ds:=ds) h e;obtain⟨hh,e,MD⟩:=n9 (ds:=ds) h e;obtain⟨hg,e⟩:=aB e;simp only[Ac,Cj] at hg;rw[hx] at CK;generalize EZ:(⟨tmps,ds⟩:Act).eval x=vx at CK;cases CK with
   |val _ _ hv=>cases hv with
    |str =>
     have hb:=jU (P:=P) (w:=w) (isS:=false) (len:=s.length) (cap:=s.length) hl MD hg.1.1 hg.1.2 hg.2 (Ae _);have BD:(⟨⟨s⟩⟩:ByteArray).size=s.length:=rfl
     have hex:(⟨⟨s⟩⟩:ByteArray).extract l.toNat hh.toNat=⟨⟨(s.take hh.toNat).drop l.toNat⟩⟩:=by
      have:=ByteArray.extract_mk s l.toNat hh.toNat
      rw[show(⟨⟨s⟩⟩:ByteArray)=ByteArray.mk s.toArray from rfl,this,List.drop_take]
     exact .val h e (.str _) (X.val _ _ (by simp[execOp,ev,EZ,Instr.sliceAt,Instr.slice,run_underlying hu,BD];simp[ev] at hb;simp[hb,hex]))
  ·cases e
 ·rename_i el hu
  obtain⟨sz,BD,e⟩:=aH e;obtain⟨xs,e,EC⟩:=uO CK e;obtain⟨l,e,hl⟩:=n9 (ds:=ds) h e;obtain⟨hh,e,MD⟩:=n9 (ds:=ds) h e;have I5:=EC;generalize EZ:(⟨tmps,ds⟩:Act).eval x=vx at EC I5;cases EC with
  |slice _ a len cap s' hlen hc hx =>
   rw[hlen] at MD;cases mx with
   |none =>
    simp only[fH] at e;obtain⟨hg,e⟩:=aB e;simp only[Ac,Cj] at hg;obtain⟨⟨⟨g1,g2⟩,g3⟩,g4⟩:=hg;rw[hlen] at g3;have hb:=jU (P:=P) (w:=w) (isS:=true) (len:=len) (cap:=cap) hl MD g1 g2 g3 hc;refine .val h e (I5.cut (J':=J) (sz:=sz) (by omega) (by omega) g4 cap (by omega)) (X.val _ _ ?_);simp only[ev] at hb;simp[execOp,ev,EZ,Instr.sliceAt,Instr.slice,run_underlying hu,hb,run_sizeOf BD]
   |some u =>
    simp only at e;obtain⟨a8E,hsu,_⟩:=bH (ds:=ds) h u;obtain⟨ku,mm,e,hum⟩:=kN hsu e;obtain⟨Rn,e⟩:=aB e;have Rn:mm=hh:=by simpa using Rn
    subst Rn;rcases MD with⟨rfl,_⟩|⟨z,kz,rfl,hz⟩
    ·cases e
    ·simp only[fH] at e
     obtain⟨hg,e⟩:=aB e;simp only[Ac,Cj] at hg;obtain⟨⟨⟨g1,g2⟩,g3⟩,g4⟩:=hg;rw[hlen] at g3;have hb:=nJ (P:=P) (w:=w) (len:=len) (cap:=cap) hl hz hum g1 g2 g3 hc;refine .plain h e (.full _ _ _ (I5.cut (J':=[]) (sz:=sz) (by omega) (by omega) g4 mm.toNat (Ae _))) (λ_ _ e=>by cases e) (λ_ e=>by cases e) (X.val _ _ ?_);simp only[ev] at hb;simp[execOp,ev,EZ,Instr.sliceAt,Instr.slice,run_underlying hu,hb,run_sizeOf BD]
 ·cases e
theorem bytes_beq(a b:List UInt8):((⟨⟨a⟩⟩:ByteArray)==⟨⟨b⟩⟩)=(a==b):=by
 show((⟨a⟩:Array UInt8)==⟨b⟩)=(a==b)
 simp
theorem mf{b:Nat}{o:Obj}(h:w.heap[b]?=some o)(hn:∀c t f,o≠.cells c t f):(getObj b).run P w=.ok o w:=by
 simp[getObj,Sem.run,h]
 try(cases o<;>simp_all)
theorem qj{b:Nat}{o o':Obj}(h:w.heap[b]?=some o)(hn:∀c t f,o≠.cells c t f):(setObj b o').run P w=.ok () (w.putObj b o'):=by
 simp[setObj,Sem.run,h,World.putObj]
theorem aEp(h:Rel P ans B0 w Ψ J ow an (sl an tm rs) tmps rs.sto.objs){x:Operand}(X:∀v,(execOp (ev tmps ds) ⟨dst,.panic x,ty,pos,AK,gd⟩).run P w=.halt (.panic v) w->Steps P m (mp v w))(e:aC P ans an drawn AA EB cf tm tk ⟨dst,.panic x,ty,pos,AK,gd⟩ rs kp k=some r):Goal P ans an w B0 Ψ J ow tmps tm rs dst m mk mp kp k r:=by
 simp only[aC] at e
 split at e
 ·rename_i t v hx
  obtain⟨tx,CK,_⟩:=bH (ds:=ds) h x;rw[hx] at CK;generalize EZ:(⟨tmps,ds⟩:Act).eval x=vx at CK;cases CK with
  |val _ _ hv =>
   have HF:=hv;cases hv with
   |iface _ _ u hu =>
    exact .inr ⟨_,rs,_,w,Ψ,J,ow,e,h,HF,Fr.refl _ _ _,aG _,gr.refl _,X _ (by simp[execOp,ev,EZ,Instr.panic])⟩
 ·cases e
end Go.AM
