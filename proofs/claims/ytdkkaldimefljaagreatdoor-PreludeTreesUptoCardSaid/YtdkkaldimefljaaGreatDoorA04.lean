import Derived.Test.YtdkkaldimefljaaGreatDoorA03
import Derived.Laws.Entries
import Derived.Laws.Strings
import Derived.Laws.Slices
set_option linter.all false
section
namespace Go.AM
variable {P:Program} {ans:FuncId→Ann} {an:Ann} {w:World} {B0:Nat} {Ψ:HT} {ρ:List Nat} {ow:Own} {tmps:Array Value} {R:Type} {r:R}
variable {tm:List Slot} {rs:RS} {m:Machine} {mk mp:Value→World→Machine} {kp:AVal→RS→Option R} {k:Slot→RS→Option R} {ds:List Deferred}
variable {drawn prot tk:Bool} {lcl:List Nat} {cf:aO} {dst:Option Nat} {ty:TypeId} {pos:String} {aft:Array Edge} {gd:Option (Nat×Bool)}
abbrev ev (tmps:Array Value) (ds:List Deferred):Operand→Value:=(⟨tmps,ds⟩:Act).eval
structure Ex (P:Program) (tmps:Array Value) (ds:List Deferred) (w:World) (o:Oper) (m:Machine) (mk:Value→World→Machine):Prop where
 val:∀ v w',(execOp (ev tmps ds) o).run P w=.ok (.value v) w'→Steps P m (mk v w')
 skip:∀ w',(execOp (ev tmps ds) o).run P w=.ok .skip w'→Steps P m (mk undef w')
theorem nG {d:Bool} {l:List Nat} {p:Place} {K:Option R} (e:bQ d l p K=some r):K=some r:=by
 unfold bQ at e
 split at e
 ·exact e
 ·split at e
  ·exact (aA e).2
  ·exact (aA e).2
theorem aEx (h:Rel P ans B0 w Ψ ρ ow an (sl an tm rs) tmps rs.sto.objs) {x:Operand} (X:Ex P tmps ds w ⟨dst,.move x,ty,pos,aft,gd⟩ m mk) (e:aB P ans an drawn prot lcl cf tm tk ⟨dst,.move x,ty,pos,aft,gd⟩ rs kp k=some r):Goal P ans an w B0 Ψ ρ ow tmps tm rs dst m mk mp kp k r :=
 aCM (ds:=ds) h (by simpa only [aB] using e) (X.val _ _ (by simp [execOp]))
theorem zr (h:Rel P ans B0 w Ψ ρ ow an (sl an tm rs) tmps rs.sto.objs) {x:Operand} (X:Ex P tmps ds w ⟨dst,.assign x,ty,pos,aft,gd⟩ m mk) (e:aB P ans an drawn prot lcl cf tm tk ⟨dst,.assign x,ty,pos,aft,gd⟩ rs kp k=some r):Goal P ans an w B0 Ψ ρ ow tmps tm rs dst m mk mp kp k r :=
 aCM (ds:=ds) h (by simpa only [aB] using e) (X.val _ _ (by simp [execOp]))
theorem aE2 (h:Rel P ans B0 w Ψ ρ ow an (sl an tm rs) tmps rs.sto.objs) {c a b:Operand} (X:Ex P tmps ds w ⟨dst,.pick c a b,ty,pos,aft,gd⟩ m mk) (e:aB P ans an drawn prot lcl cf tm tk ⟨dst,.pick c a b,ty,pos,aft,gd⟩ rs kp k=some r):Goal P ans an w B0 Ψ ρ ow tmps tm rs dst m mk mp kp k r:=by
 simp only[aB] at e;obtain ⟨t,hs,_⟩:=bH (ds:=ds) h c;obtain ⟨tt,e,hc,_⟩:=yV hs e;cases tt with
 |true =>
  obtain ⟨u,hu,_⟩:=bH (ds:=ds) h a;exact sj h hu (pC h a) e (X.val _ _ (by simp [execOp,ev,hc,Go.asBool]))
 |false =>
  obtain ⟨u,hu,_⟩:=bH (ds:=ds) h b;exact sj h hu (pC h b) e (X.val _ _ (by simp [execOp,ev,hc,Go.asBool]))
theorem newLocal {z:List Cell} {vs:List Value} {T:TypeId} {d:Nat} (hd:dst=some d) (hl:an.loc.contains d=true) {ow1:Own} (hF:Fr w Ψ ow w Ψ ow1) {rs1:RS} (h1:Rel P ans B0 w Ψ ρ ow1 an (sl an tm rs1) tmps rs1.sto.objs) (hst:rs1.sto=rs.sto)
  (hz:CsRel w B0 Ψ ρ ow1 false an.nt z vs) (e:k (.box z) rs1=some r) (hs:Steps P m (mk (.pointer (some ⟨w.heap.size,0,none⟩)) (w.alloc (.cells ⟨vs⟩ T)))):Goal P ans an w B0 Ψ ρ ow tmps tm rs dst m mk mp kp k r:=by
 obtain ⟨a1,a2,a3⟩:=aHB (T:=T) h1 hz;exact .inl ⟨_,_,_,_,_,ρ,_,e,a1,a2,(fun u o he=>by cases he),(fun cs _=>⟨d,hd,hl⟩),hF.trans a3,aG _,by rw[hst];exact StoLe.refl _,hs⟩
theorem aCx (h:Rel P ans B0 w Ψ ρ ow an (sl an tm rs) tmps rs.sto.objs) {z:List Cell} {vs:List Value} {T:TypeId} {ow1:Own} (hlo:rs.sto.lo≤rs.sto.objs.length) (hF:Fr w Ψ ow w Ψ ow1) {rs1:RS} (h1:Rel P ans B0 w Ψ ρ ow1 an (sl an tm rs1) tmps rs1.sto.objs) (hst:rs1.sto=rs.sto)
  (hz:CsRel w B0 Ψ ρ ow1 false an.nt z vs) (e:k (.val (.loc rs1.sto.objs.length 0)) { rs1 with sto:={ rs1.sto with objs:=rs1.sto.objs++[.box z] } }=some r)
  (hs:Steps P m (mk (.pointer (some ⟨w.heap.size,0,none⟩)) (w.alloc (.cells ⟨vs⟩ T)))):Goal P ans an w B0 Ψ ρ ow tmps tm rs dst m mk mp kp k r:=by
 have hl:=h1.objs.1;have hlt1:∀ b,ow1 b≠none→b < w.heap.size:=h1.lt
 let ow2:=ren ow1 false an.nt true rs1.sto.objs.length 0
 have hn:ORel (w.alloc (.cells ⟨vs⟩ T)) B0 Ψ (ρ++[w.heap.size]) (oset ow2 w.heap.size (some (true,rs1.sto.objs.length,0))) ans rs1.sto.objs.length (.box z) w.heap.size:=by
  refine .box _ _ ⟨by simp [oset],h.base,h.wsat.none_of_ge (Nat.le_refl _),vs,T,heap_alloc_new _,?_⟩;refine hz.mono Ψ.le_refl ?_ ?_
  ·rw[List.take_of_length_le (by simp [hl])];exact dP _ _
  ·intro b s hb
   have hb':=hlt1 b (by simp [hb]);exact ⟨by simp [oset,show ¬ b=w.heap.size by omega,ow2,ren,hb],heap_alloc_old _ hb',fun _ h=>h⟩
 obtain ⟨g1,g2⟩:=qO (o:=.cells ⟨vs⟩ T) h1 ow2 (fun b hb=>j5 _ hb) (fun kk i hk=>eS _ _ _ hk) hn;refine .inl ⟨_,_,_,_,Ψ,ρ++[w.heap.size],_,e,g1,?_,(fun u o he=>by cases he),(fun cs he=>by cases he),hF.trans g2,dP _ _,?_,hs⟩
 ·refine .val _ _ (.loc _ _ _ ?_)
  rw[List.getElem?_append_right (by rw[hl];exact Nat.le_refl _)];simp [hl]
 ·rw[hst]
  exact ⟨rfl,by simp,fun i hi=>by rw[List.getElem?_append_left (by omega)]⟩
theorem aAu (h:Rel P ans B0 w Ψ ρ ow an (sl an tm rs) tmps rs.sto.objs) {t:TypeId} (hlo:rs.sto.lo≤rs.sto.objs.length) (X:Ex P tmps ds w ⟨dst,.alloc t,ty,pos,aft,gd⟩ m mk) (e:aB P ans an drawn prot lcl cf tm tk ⟨dst,.alloc t,ty,pos,aft,gd⟩ rs kp k=some r):Goal P ans an w B0 Ψ ρ ow tmps tm rs dst m mk mp kp k r:=by
 simp only[aB] at e;obtain ⟨z,hz,e⟩:=aC e;obtain ⟨s,_,e⟩:=aC e;obtain ⟨_,e⟩:=aA e;obtain ⟨v,hv,hzr⟩:=nO (w:=w) (B0:=B0) (Ψ:=Ψ) (ρ:=ρ) (ow:=ow) hz false an.nt
 have hrun:(execOp (ev tmps ds) ⟨dst,.alloc t,ty,pos,aft,gd⟩).run P w=.ok (.value (.pointer (some ⟨w.heap.size,0,none⟩))) (w.alloc (.cells ⟨v.cells.toList⟩ t)):=by
  simp [execOp,Instr.alloc,aQ hv,newVar,newRow]
 cases dst with
 |none=>simp at e
 |some d =>
  simp only at e
  split at e
  ·exact newLocal rfl (by assumption) (Fr.refl _ _ _) h rfl hzr e (X.val _ _ hrun)
  ·exact aCx h hlo (Fr.refl _ _ _) h rfl hzr e (X.val _ _ hrun)
theorem aG5 (h:Rel P ans B0 w Ψ ρ ow an (sl an tm rs) tmps rs.sto.objs) {t:TypeId} {x:Operand} (hlo:rs.sto.lo≤rs.sto.objs.length) (X:Ex P tmps ds w ⟨dst,.box t x,ty,pos,aft,gd⟩ m mk) (e:aB P ans an drawn prot lcl cf tm tk ⟨dst,.box t x,ty,pos,aft,gd⟩ rs kp k=some r):Goal P ans an w B0 Ψ ρ ow tmps tm rs dst m mk mp kp k r:=by
 simp only[aB] at e;obtain ⟨cs,rs1,ow1,e,h1,hcs,hF,hst,_,_⟩:=ma (ds:=ds) h an.nt e;obtain ⟨s,_,e⟩:=aC e;obtain ⟨_,e⟩:=aA e
 have hrun:(execOp (ev tmps ds) ⟨dst,.box t x,ty,pos,aft,gd⟩).run P w=.ok (.value (.pointer (some ⟨w.heap.size,0,none⟩))) (w.alloc (.cells ⟨(ev tmps ds x).cells.toList⟩ t)):=by
  simp [execOp,Instr.box,newVar,newRow]
 cases dst with
 |none=>simp at e
 |some d =>
  simp only at e
  split at e
  ·exact newLocal rfl (by assumption) hF h1 hst hcs e (X.val _ _ hrun)
  ·obtain ⟨_,e⟩:=aA e
   exact aCx h hlo hF h1 hst hcs e (X.val _ _ hrun)
theorem aBu (h:Rel P ans B0 w Ψ ρ ow an (sl an tm rs) tmps rs.sto.objs) {t:TypeId} {parts:Array (Nat×Operand)} (X:Ex P tmps ds w ⟨dst,.build t parts,ty,pos,aft,gd⟩ m mk) (e:aB P ans an drawn prot lcl cf tm tk ⟨dst,.build t parts,ty,pos,aft,gd⟩ rs kp k=some r):Goal P ans an w B0 Ψ ρ ow tmps tm rs dst m mk mp kp k r:=by
 simp only[aB] at e;obtain ⟨z,hz,e⟩:=aC e
 have fin:∀ {place:Nat→Option (Nat×Nat)} {l:List (Nat×AVal)} {cs:List Cell},l.length=parts.toList.length →
   (∀ (n:Nat) (p:Nat×AVal) (q:Nat×Operand),l[n]?=some p→parts.toList[n]?=some q→p.1=q.1∧VRel Ψ ρ p.2 (ev tmps ds q.2))→rX place z l=some cs→k (.cells cs) rs=some r →
   (∀ zv,(P.info? t).bind (·.zero)=some zv→P.built t (parts.map fun (i,x)=>(i,ev tmps ds x)).toList=Instr.fill place zv.cells (parts.map fun (i,x)=>(i,ev tmps ds x)).toList)→Goal P ans an w B0 Ψ ρ ow tmps tm rs dst m mk mp kp k r:=fun hl hr hf hk hb=>by
  obtain ⟨vs,hrun,hcs⟩:=aA5 (ds:=ds) h hz hl hr hf hb;exact .plain h hk (.cells _ _ hcs) (fun _ _ e=>by cases e) (fun _ e=>by cases e) (X.val _ _ (by simp [execOp,hrun]))
 split at e
 ·rename_i fs hu
  obtain ⟨l,e,hl,hr⟩:=mY (ds:=ds) h e;obtain ⟨places,hp,e⟩:=aC e;obtain ⟨cs,hf,e⟩:=aC e;refine fin hl hr hf e fun zv hzv=>?_
  cases hi:P.info? t with
  |none=>simp [hi] at hzv
  |some it =>
   simp [hi] at hzv;simp [Program.built,hi,hu,hzv,hp]
 ·rename_i n el hu
  obtain ⟨l,e,hl,hr⟩:=mY (ds:=ds) h e;obtain ⟨s,hs,e⟩:=aC e;obtain ⟨cs,hf,e⟩:=aC e;refine fin hl hr hf e fun zv hzv=>?_
  cases hi:P.info? t with
  |none=>simp [hi] at hzv
  |some it =>
   simp [hi] at hzv;cases hie:P.info? el with
   |none=>simp [aZ,hie] at hs
   |some ie =>
    simp [aZ,hie] at hs;simp [Program.built,hi,hu,hzv,hie,hs]
 ·cases e
theorem wX (h:Rel P ans B0 w Ψ ρ ow an (sl an tm rs) tmps rs.sto.objs) {t:TypeId} {len:Nat} {parts:Array (Nat×Operand)} (X:Ex P tmps ds w ⟨dst,.buildSlice t len parts,ty,pos,aft,gd⟩ m mk) (e:aB P ans an drawn prot lcl cf tm tk ⟨dst,.buildSlice t len parts,ty,pos,aft,gd⟩ rs kp k=some r):Goal P ans an w B0 Ψ ρ ow tmps tm rs dst m mk mp kp k r:=by
 simp only[aB] at e;obtain ⟨el,hel,e⟩:=aC e;obtain ⟨s,hs,e⟩:=aC e;obtain ⟨hg,e⟩:=aA e;obtain ⟨l,e,hl,hr⟩:=mY (ds:=ds) h e;obtain ⟨z,hz,e⟩:=aC e;obtain ⟨hg2,e⟩:=aA e;obtain ⟨xs,hf,e⟩:=aC e
 have hu:P.underlying t=some (.slice el):=by
  unfold aR at hel
  split at hel
  ·rename_i e' he;cases hel;exact he
  ·cases hel
 simp only[Bool.and_eq_true] at hg hg2;obtain ⟨v,w',Ψ',hrun,hR,hS,hF⟩:=xJ (ds:=ds) h hu hs (by simpa [Nat.blt_eq] using hg.1) (Nat.le_of_ble_eq_true hg.2) hz (Nat.eq_of_beq_eq_true hg2.1) hg2.2 hl hr hf;exact .inl ⟨_,rs,v,w',Ψ',ρ,ow,e,hR,hS,(fun u o he=>by cases he),(fun cs he=>by cases he),hF,aG _,StoLe.refl _,X.val _ _ (by simp [execOp,hrun])⟩
theorem aEC (h:Rel P ans B0 w Ψ ρ ow an (sl an tm rs) tmps rs.sto.objs) {t:TypeId} {a:Operand} (X:Ex P tmps ds w ⟨dst,.load t a,ty,pos,aft,gd⟩ m mk) (e:aB P ans an drawn prot lcl cf tm tk ⟨dst,.load t a,ty,pos,aft,gd⟩ rs kp k=some r):Goal P ans an w B0 Ψ ρ ow tmps tm rs dst m mk mp kp k r:=by
 simp only[aB] at e;obtain ⟨p,e,hp⟩:=jG (ds:=ds) h e;have e:=nG e;obtain ⟨cs,off,b,o,e,hv,hrd,hloc,hobj⟩:=iJ h hp e;obtain ⟨s,hs,e⟩:=aC e;obtain ⟨agg,hagg,e⟩:=aC e;have hrun:∀ v,(loadVar t ⟨b,o,none⟩).run P w=.ok v w→Steps P m (mk v w):=fun v hl=>X.val _ _ (by simp [execOp,Instr.loadAt,ev,hv,Instr.sureAddr,hl])
 cases agg with
 |true =>
  simp only at e;obtain ⟨x,hx,e⟩:=aC e;obtain ⟨v,hl,hvr⟩:=jq (P:=P) hrd hagg hs hx;exact .val h e hvr (hrun v hl)
 |false =>
  simp only at e
  replace e:=(aA e).2
  have one:∀ c,cs[off]?=some c→k (.val c.get) rs=some r→Goal P ans an w B0 Ψ ρ ow tmps tm rs dst m mk mp kp k r:=fun c hc e=>by
   obtain ⟨v,hl,hvr⟩:=im (P:=P) hrd hagg hc;exact .val h e hvr (hrun v hl)
  cases hcs:cs[off]? with
  |none=>cases tk <;> simp [hcs] at e
  |some c =>
   cases c with
   |val c=>cases tk <;> exact one _ hcs (by simpa [hcs] using e)
   |own sz xs =>
    cases tk with
    |false=>exact one _ hcs (by simpa [hcs] using e)
    |true =>
     simp only[hcs] at e;obtain ⟨u,hu,_,hur⟩:=hrd 0 _ (by simpa using hcs);have hu':w.cell? ⟨b,o,none⟩=some u:=by simpa using hu
     have hst:=hrun u (run_loadVar_one hagg hu');cases p with
     |loc t' o' =>
      obtain ⟨l1,l2,l3,l4⟩:=hloc t' o' rfl;simp only[bV] at e;subst l2;obtain ⟨g1,g2⟩:=aBJ h l1 l4 l3 hcs hu';refine .inl ⟨_,_,_,w,Ψ,ρ,_,e,?_,.own _ _ _ g2,(fun u o he=>by cases he),(fun cs he=>by cases he),?_,aG _,StoLe.refl _,hst⟩
      ·rw[show sl an tm (rs.put t' (.box (cs.set off (.val (.slice xs)))))=upd (sl an tm rs) t' (.box (cs.set off (.val (.slice xs)))) from dG _ _ _ _ _];exact g1
      ·exact ⟨Ψ.le_refl,Nat.le_refl _,fun _ _ _=>⟨rfl,fun _=>rfl⟩,fun b hb=>.inl (j6 hb),rfl,rfl,rfl⟩
     |obj i o' =>
      obtain ⟨l1,l2,l3,l4⟩:=hobj i o' rfl;simp only[bV] at e;obtain ⟨hg,e⟩:=aA e;simp only[Bool.and_eq_true] at hg;subst l2;obtain ⟨g1,g2⟩:=ik h l1 l3 l4 hcs hu';refine .inl ⟨_,_,_,w,Ψ,ρ,_,e,g1,.own _ _ _ g2,(fun u o he=>by cases he),(fun cs he=>by cases he),?_,aG _,⟨rfl,by simp,fun j hj=>?_⟩,hst⟩
      ·exact ⟨Ψ.le_refl,Nat.le_refl _,fun _ _ _=>⟨rfl,fun _=>rfl⟩,fun b hb=>.inl (j6 hb),rfl,rfl,rfl⟩
      ·have:=Nat.le_of_ble_eq_true hg.1
       simp [List.getElem?_set,show ¬ i=j by omega]
     |imm x=>simp [bV] at e
theorem aAL (h:Rel P ans B0 w Ψ ρ ow an (sl an tm rs) tmps rs.sto.objs) {t:TypeId} {a x:Operand} (X:Ex P tmps ds w ⟨dst,.store t a x,ty,pos,aft,gd⟩ m mk) (e:aB P ans an drawn prot lcl cf tm tk ⟨dst,.store t a x,ty,pos,aft,gd⟩ rs kp k=some r):Goal P ans an w B0 Ψ ρ ow tmps tm rs dst m mk mp kp k r:=by
 simp only[aB] at e;obtain ⟨p,e,hp⟩:=jG (ds:=ds) h e;have e:=nG e;obtain ⟨cs,off,b,o,e,hv,hrd,hloc,hobj⟩:=iJ h hp e;obtain ⟨s,hs,e⟩:=aC e;obtain ⟨new,rs1,ow1,e,h1,hn,hF,hst,hsame,hbox⟩:=tP (ds:=ds) h an.nt e;obtain ⟨hg,e⟩:=aA e;simp only[Bool.and_eq_true] at hg;have hnl:new.length=s:=Nat.eq_of_beq_eq_true hg.1;have hle:off+s≤cs.length:=Nat.le_of_ble_eq_true hg.2;have hxs:(ev tmps ds x).cells.size=s:=by rw[←hnl,hn.1];simp
 have hrun:∀ vs T,w.heap[b]?=some (.cells ⟨vs⟩ T (0,0))→cs.length=vs.length→off=o→Steps P m (mk undef (w.putObj b (.cells ⟨overwrite vs o (ev tmps ds x).cells.toList⟩ T (0,0)))):=fun vs T hh hl ho=>by
  refine X.skip _ ?_
  have:=eV (P:=P) (t:=t) (o:=o) (v:=ev tmps ds x) (by rw[hxs];exact hs) hh hn.one (by rw[hxs];omega)
  simp [execOp,Instr.storeAt,ev,hv,Instr.sureAddr];simp [ev] at this;simp [this]
 cases p with
 |loc t' o' =>
  obtain ⟨l1,l2,l3,l4⟩:=hloc t' o' rfl;simp only[bV] at e;subst l2;have l1':=hbox t' cs l1;obtain ⟨b1,b2,b3,vs,T,b4,b5⟩:=l3;have hslot:=h1.slots t';rw[l1',l4] at hslot;cases hslot with
  |box _ _ hb1 =>
   obtain ⟨c1,c2,c3,vs',T',c4,c5⟩:=hb1;have hR:=xo h1 l1' l4 ⟨c1,c2,c3,vs',T',c4,c5⟩ c4 c5 hn (by rw[hnl];exact hle);refine .inl ⟨.dead,_,undef,w.putObj b (.cells ⟨overwrite vs' off (ev tmps ds x).cells.toList⟩ T' (0,0)),Ψ,ρ,ren ow1 false an.nt false t' off,e,?_,.dead _,(fun u o he=>by cases he),(fun cs he=>by cases he),hF.trans (Fr.put (by simp [c1]) (fun x hx=>j5 _ hx)),aG _,by show StoLe rs.sto rs1.sto;rw[hst];exact StoLe.refl _,hrun vs' T' c4 c5.1 rfl⟩;rw[show sl an tm (rs1.put t' (.box (setCells cs off new)))=upd (sl an tm rs1) t' (.box (setCells cs off new)) from dG _ _ _ _ _];exact hR
 |obj i o' =>
  obtain ⟨l1,l2,l3,l4⟩:=hobj i o' rfl;simp only[bV] at e;obtain ⟨hg2,e⟩:=aA e;simp only[Bool.and_eq_true] at hg2;subst l2;have l1':rs1.sto.objs[i]?=some (.box cs):=by rw[hst];exact l1
  obtain ⟨b',hb',hor⟩:=h1.objs.2 i _ l1';obtain rfl:b=b':=by rw[l3] at hb';exact Option.some.inj hb'
  cases hor with
  |box _ _ hb1 =>
   obtain ⟨c1,c2,c3,vs',T',c4,c5⟩:=hb1;have hR:=xW h1 l1' l3 ⟨c1,c2,c3,vs',T',c4,c5⟩ c4 c5 hn (by rw[hnl];exact hle) hg2.2;refine .inl ⟨.dead,_,undef,w.putObj b (.cells ⟨overwrite vs' off (ev tmps ds x).cells.toList⟩ T' (0,0)),Ψ,ρ,ren ow1 false an.nt true i off,e,hR,.dead _,(fun u o he=>by cases he),(fun cs he=>by cases he),hF.trans (Fr.put (by simp [c1]) (fun x hx=>j5 _ hx)),aG _,⟨by rw[←hst],by rw[←hst];simp,fun j hj=>?_⟩,hrun vs' T' c4 c5.1 rfl⟩
   have:=Nat.le_of_ble_eq_true hg2.1
   rw[hst] at this;rw[←hst];simp [List.getElem?_set,show ¬ i=j by omega]
 |imm y=>simp [bV] at e
theorem mc (h:Rel P ans B0 w Ψ ρ ow an (sl an tm rs) tmps rs.sto.objs) {x:Operand} (X:Ex P tmps ds w ⟨dst,.nilCheck x,ty,pos,aft,gd⟩ m mk) (e:aB P ans an drawn prot lcl cf tm tk ⟨dst,.nilCheck x,ty,pos,aft,gd⟩ rs kp k=some r):Goal P ans an w B0 Ψ ρ ow tmps tm rs dst m mk mp kp k r:=by
 simp only[aB] at e;obtain ⟨t,hs,ht⟩:=bH (ds:=ds) h x;have hptr:∀ a,ev tmps ds x=.pointer (some a)→Steps P m (mk (.pointer (some a)) w):=fun a ha=>X.val _ _ (by simp [execOp,ha])
 split at e
 ·rename_i cs hop
  split at e
  ·rename_i t'
   obtain rfl:=ht t' rfl;have hop':sl an tm rs t=.box cs:=hop;have hsl:=h.slots t;rw[hop'] at hsl;have hv:ev tmps ds (.tmp t)=tmps.getD t undef:=rfl;generalize hg:tmps.getD t undef=v at hsl;cases hsl with
   |box _ b hb=>exact .plain h e (.ref t 0 b hg) (fun u o he=>by cases he;exact ⟨cs,hop'⟩) (fun _ he=>by cases he) (hptr _ (by rw[hv,hg]))
  ·cases e
 ·rename_i u o hop
  rw[hop] at hs;have href:=pC h x u o hop;generalize hg:(⟨tmps,ds⟩:Act).eval x=v at hs;cases hs with
  |ref _ _ b hb=>exact .plain h e (.ref u o b hb) (fun u' o' he=>by cases he;exact href) (fun _ he=>by cases he) (hptr _ hg)
 ·rename_i i o hop
  rw[hop] at hs;generalize hg:(⟨tmps,ds⟩:Act).eval x=v at hs;cases hs with
  |val _ _ hv =>
   cases hv with
   |loc _ _ b hb=>exact .val h e (.loc i o b hb) (hptr _ hg)
 ·rename_i y hop
  rw[hop] at hs;generalize hg:(⟨tmps,ds⟩:Act).eval x=v at hs;cases hs with
  |val _ _ hv =>
   cases hv with
   |cptr _ b o hb=>exact .val h e (.cptr y b o hb) (hptr _ hg)
 ·rename_i f cs hop
  rw[hop] at hs;generalize hg:(⟨tmps,ds⟩:Act).eval x=v at hs;cases hs with
  |val _ _ hv =>
   cases hv with
   |func _ _ vs hl hx=>exact .val h e (.func f cs vs hl hx) (X.val _ _ (by simp [execOp,ev,hg]))
 ·cases e
end Go.AM
end
section
namespace Go.AM
variable {P:Program} {ans:FuncId→Ann} {an:Ann} {w:World} {B0:Nat} {Ψ:HT} {ρ:List Nat} {ow:Own} {tmps:Array Value} {R:Type} {r:R}
variable {tm:List Slot} {rs:RS} {m:Machine} {mk mp:Value→World→Machine} {kp:AVal→RS→Option R} {k:Slot→RS→Option R} {ds:List Deferred}
variable {drawn prot tk:Bool} {lcl:List Nat} {cf:aO} {dst:Option Nat} {ty:TypeId} {pos:String} {aft:Array Edge} {gd:Option (Nat×Bool)}
theorem ig {t:TypeId} (h:fB P t=true):∃ e,P.underlying t=some (.slice e):=by
 unfold fB at h;split at h
 ·exact ⟨_,by assumption⟩
 ·cases h
theorem wN {t:TypeId} (h:oJ P t=true):∃ e,P.underlying t=some (.interface e):=by
 unfold oJ at h;split at h
 ·exact ⟨_,by assumption⟩
 ·cases h
theorem qd {t:TypeId} (h:zP P t=true):P.underlying t=some .bool:=by
 unfold zP at h;split at h
 ·assumption
 ·cases h
theorem qT {t:TypeId} (h:u6 P t=true):∃ e,P.underlying t=some (.pointer e):=by
 unfold u6 at h;split at h
 ·exact ⟨_,by assumption⟩
 ·cases h
theorem bU {t:TypeId} {x y:Value} {d:TypeDesc} {b:Bool} (hu:P.underlying t=some d)
  (h:∀ n,(Op.equalIn (n+1) t x y).run P w=.ok b w):(Op.equal t x y).run P w=.ok b w:=h 9999
theorem aEb {op:BinOp} {t:TypeId} {ox oy:Operand} {a b c:AVal} {va vb:Value} (ha:VRel Ψ ρ a va) (hb:VRel Ψ ρ b vb) (ht:iM P t a=true) (e:iQ op a b=some c) :
  (eqGuard op t ox oy va vb).run P w=.ok () w∧∃ v,(binOp op t va vb).run P w=.ok v w∧VRel Ψ ρ c v:=by
 cases ha with
 |int kd n =>
  cases hb with
  |int kd' n' =>
   simp only[iQ] at e
   split at e
   ·subst_vars
    refine ⟨by rw[eqGuard_at_int];rfl,?_⟩;cases op <;> simp only[Option.some.injEq,reduceCtorEq] at e
    case rem =>
     split at e
     ·cases e
     ·rename_i h0
      cases e;exact ⟨_,by simp [binOp,Op.intDiv,h0],.int _ _⟩
    all_goals (subst e;first
     |exact ⟨_,by simp [binOp,Op.intArith],.int _ _⟩
     |exact ⟨_,by simp [binOp,Op.intCmp],.bool _⟩)
   ·cases e
  |_=>simp [iQ] at e
 |str s =>
  cases hb with
  |str s' =>
   refine ⟨by rw[eqGuard_at_string];rfl,?_⟩;cases op <;> simp only[iQ,Option.some.injEq,reduceCtorEq] at e
   all_goals (subst e;exact ⟨_,by simp [binOp,Op.stringOp,ByteArray.toList_eq],.bool _⟩)
  |_=>simp [iQ] at e
 |bool x =>
  cases hb with
  |bool y =>
   have hu:=qd ht;have he:(Op.equal t (.bool x) (.bool y)).run P w=.ok (x==y) w:=bU hu fun n=>by simp [Op.equalIn,run_underlying hu]
   refine ⟨by rw[eqGuard_at_bool];rfl,?_⟩;cases op <;> simp only[iQ,Option.some.injEq,reduceCtorEq] at e
   all_goals (subst e;exact ⟨_,by simp only[binOp,Sem.run_bind,he,Result.andThen_ok];rfl,.bool _⟩)
  |_=>simp [iQ] at e
 |nilif =>
  cases hb with
  |iface d u vu hu' =>
   obtain ⟨el,hu⟩:=wN ht;have he:(Op.equal t .nilIface (.iface d vu)).run P w=.ok false w:=bU hu fun n=>by simp [Op.equalIn,run_underlying hu]
   refine ⟨by rw[eqGuard_nil_iface];rfl,?_⟩;cases op <;> simp only[iQ,Option.some.injEq,reduceCtorEq] at e
   all_goals (subst e;exact ⟨_,by simp only[binOp,Sem.run_bind,he,Result.andThen_ok];rfl,.bool _⟩)
  |_=>simp [iQ] at e
 |iface d u vu hu' =>
  cases hb with
  |nilif =>
   obtain ⟨el,hu⟩:=wN ht;have he:(Op.equal t (.iface d vu) .nilIface).run P w=.ok false w:=bU hu fun n=>by simp [Op.equalIn,run_underlying hu]
   refine ⟨by rw[eqGuard_at_iface];rfl,?_⟩;cases op <;> simp only[iQ,Option.some.injEq,reduceCtorEq] at e
   all_goals (subst e;exact ⟨_,by simp only[binOp,Sem.run_bind,he,Result.andThen_ok];rfl,.bool _⟩)
  |_=>simp [iQ] at e
 |nilptr =>
  cases hb with
  |nilptr =>
   obtain ⟨el,hu⟩:=qT ht;have he:(Op.equal t (.pointer none) (.pointer none)).run P w=.ok true w:=bU hu fun n=>by simp [Op.equalIn,run_underlying hu]
   refine ⟨by rw[eqGuard_at_pointer];rfl,?_⟩;cases op <;> simp only[iQ,Option.some.injEq,reduceCtorEq] at e
   all_goals (subst e;exact ⟨_,by simp only[binOp,Sem.run_bind,he,Result.andThen_ok];rfl,.bool _⟩)
  |_=>simp [iQ] at e
 |cptr x bb oo hx =>
  cases hb with
  |nilptr =>
   obtain ⟨el,hu⟩:=qT ht;have he:(Op.equal t (.pointer (some ⟨bb,oo,none⟩)) (.pointer none)).run P w=.ok false w:=bU hu fun n=>by simp [Op.equalIn,run_underlying hu]
   refine ⟨by rw[eqGuard_at_pointer];rfl,?_⟩;cases op <;> simp only[iQ,Option.some.injEq,reduceCtorEq] at e
   all_goals (subst e;exact ⟨_,by simp only[binOp,Sem.run_bind,he,Result.andThen_ok];rfl,.bool _⟩)
  |_=>simp [iQ] at e
 |loc i off bb hi =>
  cases hb with
  |nilptr =>
   obtain ⟨el,hu⟩:=qT ht;have he:(Op.equal t (.pointer (some ⟨bb,off,none⟩)) (.pointer none)).run P w=.ok false w:=bU hu fun n=>by simp [Op.equalIn,run_underlying hu]
   refine ⟨by rw[eqGuard_at_pointer];rfl,?_⟩;cases op <;> simp only[iQ,Option.some.injEq,reduceCtorEq] at e
   all_goals (subst e;exact ⟨_,by simp only[binOp,Sem.run_bind,he,Result.andThen_ok];rfl,.bool _⟩)
  |_=>simp [iQ] at e
 |slice=>simp [iM] at ht
 |agg=>simp [iM] at ht
 |nilfunc=>simp [iM] at ht
 |nilmap=>simp [iM] at ht
 |amap=>simp [iM] at ht
 |yld=>simp [iM] at ht
 |func=>simp [iM] at ht
 |opq=>simp [iM] at ht
theorem xI {y:Operand} (h:dR y=true):∃ a b,y=.const (.slice none a b):=by
 unfold dR at h;split at h
 ·exact ⟨_,_,rfl⟩
 ·cases h
theorem wY {y:Operand} (h:isNilIface y=true):y=.const .nilIface:=by
 unfold isNilIface at h;split at h
 ·rfl
 ·cases h
theorem oa {t:Nat} {s:Slot} {v:Value} (hs:SRel w B0 Ψ ρ ow tmps t s v) {b:Bool} (e:cQ s=some b):(∃ l c,b=true∧v=.slice none l c)∨∃ a l c,b=false∧v=.slice (some a) l c:=by
 have slc:∀ {x:AVal} {xs:List AVal} {ρ:List Nat},VRel Ψ ρ (.slice (x::xs)) v→∃ a l c,v=.slice (some a) l c:=fun h=>by
  cases h with
  |slice _ a len cap s hl hc hx =>
   obtain ⟨_,b,o,rfl,_⟩:=hx 0 _ rfl;exact ⟨_,_,_,rfl⟩
 cases hs with
 |dead=>simp [cQ] at e
 |tup=>simp [cQ] at e
 |cells=>simp [cQ] at e
 |box=>simp [cQ] at e
 |ref=>simp [cQ] at e
 |nl=>simp [cQ] at e;exact .inl ⟨_,_,e,rfl⟩
 |nn xs a n c h=>simp [cQ] at e;exact .inr ⟨_,_,_,e,rfl⟩
 |val x v h =>
  cases x with
  |slice xs=>cases xs with
   |nil=>simp [cQ] at e
   |cons x xs=>simp [cQ] at e;obtain ⟨a,l,c,rfl⟩:=slc h;exact .inr ⟨_,_,_,e,rfl⟩
  |_=>simp [cQ] at e
 |own sz xs v h=>cases xs with
  |nil=>simp [cQ] at e
  |cons x xs=>simp [cQ] at e;obtain ⟨a,l,c,rfl⟩:=slc h.rel;exact .inr ⟨_,_,_,e,rfl⟩
 |full xs a n h=>cases xs with
  |nil=>simp [cQ] at e
  |cons x xs=>simp [cQ] at e;obtain ⟨a',l,c,he⟩:=slc h;cases he;exact .inr ⟨_,_,_,e,rfl⟩
theorem aCE (h:Rel P ans B0 w Ψ ρ ow an (sl an tm rs) tmps rs.sto.objs) {op:BinOp} {t:TypeId} {x y:Operand} {fl:_} (X:Ex P tmps ds w ⟨dst,.binOp op t x y fl,ty,pos,aft,gd⟩ m mk) (e:aB P ans an drawn prot lcl cf tm tk ⟨dst,.binOp op t x y fl,ty,pos,aft,gd⟩ rs kp k=some r):Goal P ans an w B0 Ψ ρ ow tmps tm rs dst m mk mp kp k r:=by
 simp only[aB] at e;obtain ⟨tx,hsx,_⟩:=bH (ds:=ds) h x;obtain ⟨tY,hsy,_⟩:=bH (ds:=ds) h y
 have fin:∀ v,(eqGuard op t x y (ev tmps ds x) (ev tmps ds y)).run P w=.ok () w→(binOp op t (ev tmps ds x) (ev tmps ds y)).run P w=.ok v w→Steps P m (mk v w):=fun v h1 h2 =>
  X.val _ _ (by simp [execOp,h1,h2])
 have nils:(op=.eql∨op=.neq)→dR y=true→∀ b,cQ (opS an.keep tm rs x)=some b→fB P t=true→k (.val (.bool (if op=.eql then b else !b))) rs=some r→Goal P ans an w B0 Ψ ρ ow tmps tm rs dst m mk mp kp k r:=fun hop hy b hb hsl hk=>by
  obtain ⟨l',c',rfl⟩:=xI hy;obtain ⟨el,hu⟩:=ig hsl;have hvy:ev tmps ds (.const (.slice none l' c'))=.slice none l' c':=rfl
  have hq:(Op.equal t (ev tmps ds x) (.slice none l' c')).run P w=.ok b w∧∃ a l c,ev tmps ds x=.slice a l c:=by
   rcases oa hsx hb with ⟨l,c,rfl,hv⟩|⟨a,l,c,rfl,hv⟩
   ·exact ⟨bU hu fun n=>by simp [ev,hv,Op.equalIn,run_underlying hu],_,_,_,hv⟩
   ·exact ⟨bU hu fun n=>by simp [ev,hv,Op.equalIn,run_underlying hu],_,_,_,hv⟩
  obtain ⟨hq,a,l,c,hv⟩:=hq;refine .val h hk (.bool _) (fin _ (by rw[hv,eqGuard_at_slice];rfl) ?_);rcases hop with rfl|rfl
  ·rw[hv] at hq ⊢;rw[hvy];simp only[binOp,Sem.run_bind,hq,Result.andThen_ok];rfl
  ·rw[hv] at hq ⊢;rw[hvy];simp only[binOp,Sem.run_bind,hq,Result.andThen_ok];rfl
 have nilf:(op=.eql∨op=.neq)→isNilIface y=true→opS an.keep tm rs x=.val .nilif→oJ P t=true→k (.val (.bool (if op=.eql then true else false))) rs=some r→Goal P ans an w B0 Ψ ρ ow tmps tm rs dst m mk mp kp k r:=fun hop hy hx hit hk=>by
  obtain rfl:=wY hy;obtain ⟨el,hu⟩:=wN hit;have hvy:ev tmps ds (.const .nilIface)=.nilIface:=rfl
  have hvx:ev tmps ds x=.nilIface:=by
   rw[hx] at hsx;generalize hg:(⟨tmps,ds⟩:Act).eval x=v at hsx;cases hsx with|val _ _ hv=>cases hv;exact hg
  have hq:(Op.equal t .nilIface .nilIface).run P w=.ok true w:=bU hu fun n=>by simp [Op.equalIn,run_underlying hu]
  refine .val h hk (.bool _) (fin _ (by rw[hvx,hvy,eqGuard_nil_constR];rfl) ?_);rcases hop with rfl|rfl
  ·rw[hvx,hvy];simp only[binOp,Sem.run_bind,hq,Result.andThen_ok];rfl
  ·rw[hvx,hvy];simp only[binOp,Sem.run_bind,hq,Result.andThen_ok];rfl
 have gen:asV (opS an.keep tm rs x) (fun a=>asV (opS an.keep tm rs y) fun b=>aJ (iM P t a) ((iQ op a b).bind fun v=>k (.val v) rs))=some r→Goal P ans an w B0 Ψ ρ ow tmps tm rs dst m mk mp kp k r:=fun e=>by
  obtain ⟨a,e,ha⟩:=iG hsx e;obtain ⟨b,e,hb⟩:=iG hsy e;obtain ⟨hg,e⟩:=aA e;obtain ⟨c,hc,e⟩:=aC e;obtain ⟨h1,v,h2,h3⟩:=aEb (w:=w) (ox:=x) (oy:=y) ha hb hg hc;exact .val h e h3 (fin _ h1 h2)
 split at e
 ·rename_i hn
  obtain ⟨hg,e⟩:=aA e;obtain ⟨b,hb,e⟩:=aC e;exact nils (.inl rfl) hn b hb hg (by simpa using e)
 ·rename_i hn
  obtain ⟨hg,e⟩:=aA e;obtain ⟨b,hb,e⟩:=aC e;exact nils (.inr rfl) hn b hb hg (by simpa using e)
 ·split at e
  ·obtain ⟨hg,e⟩:=aA e
   exact nilf (.inl rfl) (by assumption) (by assumption) hg (by simpa using e)
  ·obtain ⟨hg,e⟩:=aA e
   exact nilf (.inr rfl) (by assumption) (by assumption) hg (by simpa using e)
  ·exact gen e
theorem aDE (h:Rel P ans B0 w Ψ ρ ow an (sl an tm rs) tmps rs.sto.objs) {op:UnOp} {t:TypeId} {x:Operand} (X:Ex P tmps ds w ⟨dst,.unOp op t x,ty,pos,aft,gd⟩ m mk) (e:aB P ans an drawn prot lcl cf tm tk ⟨dst,.unOp op t x,ty,pos,aft,gd⟩ rs kp k=some r):Goal P ans an w B0 Ψ ρ ow tmps tm rs dst m mk mp kp k r:=by
 simp only[aB] at e;obtain ⟨tx,hsx,_⟩:=bH (ds:=ds) h x
 split at e
 ·rename_i b hx
  rw[hx] at hsx;generalize hg:(⟨tmps,ds⟩:Act).eval x=v at hsx;cases hsx with
  |val _ _ hv=>cases hv with
   |bool=>exact .val h e (.bool _) (X.val _ _ (by simp [execOp,ev,hg,Op.unary]))
 ·rename_i kd n hx
  rw[hx] at hsx;generalize hg:(⟨tmps,ds⟩:Act).eval x=v at hsx;cases hsx with
  |val _ _ hv=>cases hv with
   |int=>exact .val h e (.int _ _) (X.val _ _ (by simp [execOp,ev,hg,Op.unary,Op.intArith]))
 ·cases e
theorem qq (h:Rel P ans B0 w Ψ ρ ow an (sl an tm rs) tmps rs.sto.objs) {src dt:TypeId} {x:Operand} (X:Ex P tmps ds w ⟨dst,.convert src dt x,ty,pos,aft,gd⟩ m mk) (e:aB P ans an drawn prot lcl cf tm tk ⟨dst,.convert src dt x,ty,pos,aft,gd⟩ rs kp k=some r):Goal P ans an w B0 Ψ ρ ow tmps tm rs dst m mk mp kp k r:=by
 simp only[aB] at e;obtain ⟨tx,hsx,_⟩:=bH (ds:=ds) h x
 split at e
 ·rename_i k1 kd h1 h2
  obtain ⟨kk,n,e,hv⟩:=eM hsx e;exact .val h e (.int _ _) (X.val _ _ (by simp [execOp,ev,hv,convert,run_underlying h1,run_underlying h2,Conv.intToInt]))
 ·rename_i h1 h2
  split at e
  ·rename_i s hx
   rw[hx] at hsx;generalize hg:(⟨tmps,ds⟩:Act).eval x=v at hsx;cases hsx with
   |val _ _ hv=>cases hv with
    |str=>exact .val h e (.str _) (X.val _ _ (by simp [execOp,ev,hg,convert,run_underlying h1,run_underlying h2]))
  ·cases e
 ·cases e
theorem vG {t:TypeId} {cs:List AVal} {vs:Array Value} {off s:Nat} {agg:Bool} {u:AVal} (h:VRel Ψ ρ (.agg cs) (.agg vs)) (h1:bC P t=some agg) (h2:aZ P t=some s) (hu:partOf agg cs off s=some u) :
  ∃ v,(part t vs off).run P w=.ok v w∧VRel Ψ ρ u v:=by
 cases h with
 |agg _ vs hl hk hx =>
  cases agg with
  |false =>
   simp only[partOf,Bool.false_eq_true,if_false] at hu;have hi:off < vs.length:=by rw[←hl];exact (List.getElem?_eq_some_iff.1 hu).1
   exact ⟨vs[off],by simp [part,cR h1,hi],hx off u _ hu (by simp [hi])⟩
  |true =>
   simp only[partOf,if_true] at hu;cases hle:Nat.ble (off+s) cs.length with
   |false=>simp [hle] at hu
   |true =>
    simp [hle] at hu;subst hu;have hle':=Nat.le_of_ble_eq_true hle;refine ⟨.agg ⟨(vs.drop off).take s⟩,by simp [part,cR h1,run_sizeOf h2,List.extract_eq_take_drop],.agg _ _ (by simp [hl]) (fun i c hc=>?_) (fun i c v hc hv=>?_)⟩
    ·rw[List.getElem?_take] at hc
     split at hc
     ·rw[List.getElem?_drop] at hc;exact hk _ c hc
     ·cases hc
    ·rw[List.getElem?_take] at hc hv
     split at hc
     ·rename_i hi
      rw[if_pos hi] at hv;rw[List.getElem?_drop] at hc hv;exact hx _ c v hc hv
     ·cases hc
theorem za (hw:WSat Ψ w) {x u:AVal} {b o off s:Nat} {agg:Bool} (h:∀ (j:Nat) (c:AVal),x.cells[j]?=some c→Ψ b (o+j) c) (hu:partOf agg x.cells off s=some u) :
  VRel Ψ ρ (.cptr u) (.pointer (some ⟨b,o+off,none⟩)):=by
 refine .cptr u b _ fun j c hc=>?_
 cases agg with
 |false =>
  simp only[partOf,Bool.false_eq_true,if_false] at hu;have h1:=h off u hu;have h2:=jW (hw.sat _ _ _ h1).1;rw[fK h2] at hc;cases j with
  |zero=>simp at hc;subst hc;exact h1
  |succ j=>simp at hc
 |true =>
  simp only[partOf,if_true] at hu;cases hle:Nat.ble (off+s) x.cells.length with
  |false=>simp [hle] at hu
  |true =>
   simp [hle] at hu;subst hu;simp only[AVal.cells] at hc;rw[List.getElem?_take] at hc
   split at hc
   ·rw[List.getElem?_drop] at hc
    have:=h _ c hc
    rwa [←Nat.add_assoc] at this
   ·cases hc
def bg (rs:RS) (p:Place) (off s:Nat) (agg:Option Bool) (k:Slot→RS→Option R):Option R :=
 match p with
 |.loc t o=>k (.ref t (o+off)) rs
 |.obj i o=>k (.val (.loc i (o+off))) rs
 |.imm v=>agg.bind fun agg=>(partOf agg v.cells off s).bind fun u=>k (.val (.cptr u)) rs
theorem ji (h:Rel P ans B0 w Ψ ρ ow an (sl an tm rs) tmps rs.sto.objs) {p:Place} {v:Value} (hp:aCH Ψ ρ tmps (sl an tm rs) p v) {off s:Nat} {agg:Option Bool} (e:bg rs p off s agg k=some r) :
  ∃ b o,v=.pointer (some ⟨b,o,none⟩)∧(Steps P m (mk (.pointer (some ⟨b,o+off,none⟩)) w)→Goal P ans an w B0 Ψ ρ ow tmps tm rs dst m mk mp kp k r):=by
 cases p with
 |loc t o =>
  obtain ⟨cs,b,h1,h2,h3⟩:=hp;exact ⟨b,o,h3,fun hs=>.plain h e (.ref t _ b h2) (fun u o' he=>by cases he;exact ⟨cs,h1⟩) (fun _ he=>by cases he) hs⟩
 |obj i o =>
  obtain ⟨b,h1,h2⟩:=hp;exact ⟨b,o,h2,fun hs=>.val h e (.loc i _ b h1) hs⟩
 |imm x =>
  simp only[aCH] at hp;simp only[bg] at e;obtain ⟨a,_,e⟩:=aC e;obtain ⟨u,hu,e⟩:=aC e;cases hp with
  |cptr _ b o hb=>exact ⟨b,o,rfl,fun hs=>.val h e (za h.wsat hb hu) hs⟩
theorem fieldAt?_ok {t:TypeId} {f:Nat} {o:Nat×TypeId} (h:fieldAt? P t f=some o):∃ fs fl,P.underlying t=some (.struct fs)∧fs[f]?=some fl∧fl.offset=o.1∧fl.type=o.2:=by
 unfold fieldAt? at h
 split at h
 ·rename_i fs hu
  simp only[Option.map_eq_some_iff] at h;obtain ⟨fl,h1,rfl⟩:=h;exact ⟨fs,fl,hu,h1,rfl,rfl⟩
 ·cases h
theorem ak (h:Rel P ans B0 w Ψ ρ ow an (sl an tm rs) tmps rs.sto.objs) {t:TypeId} {x:Operand} {f:Nat} (X:Ex P tmps ds w ⟨dst,.fieldAddr t x f,ty,pos,aft,gd⟩ m mk) (e:aB P ans an drawn prot lcl cf tm tk ⟨dst,.fieldAddr t x f,ty,pos,aft,gd⟩ rs kp k=some r):Goal P ans an w B0 Ψ ρ ow tmps tm rs dst m mk mp kp k r:=by
 simp only[aB] at e;obtain ⟨ot,hf,e⟩:=aC e;obtain ⟨s,hs,e⟩:=aC e;obtain ⟨hg,e⟩:=aA e;obtain ⟨p,e,hp⟩:=jG (ds:=ds) h e;obtain ⟨fs,fl,h1,h2,h3,h4⟩:=fieldAt?_ok hf;have e':bg rs p ot.1 s (bC P ot.2) k=some r:=by cases p <;> exact e
 obtain ⟨b,o,hv,hgo⟩:=ji (m:=m) (mk:=mk) (mp:=mp) (kp:=kp) (dst:=dst) h hp e';refine hgo (X.val _ _ ?_)
 have hs0:¬ s=0:=by have:0 < s:=by simpa [Nat.blt_eq] using hg
                    omega
 simp [execOp,ev,hv,Instr.fieldAt,run_underlying h1,h2,Instr.sureAddr,fieldPlace,h4,run_sizeOf hs,hs0,cD,h3]
theorem aAX (h:Rel P ans B0 w Ψ ρ ow an (sl an tm rs) tmps rs.sto.objs) {t:TypeId} {x:Operand} {f:Nat} (X:Ex P tmps ds w ⟨dst,.field t x f,ty,pos,aft,gd⟩ m mk) (e:aB P ans an drawn prot lcl cf tm tk ⟨dst,.field t x f,ty,pos,aft,gd⟩ rs kp k=some r):Goal P ans an w B0 Ψ ρ ow tmps tm rs dst m mk mp kp k r:=by
 simp only[aB] at e;obtain ⟨tx,hsx,_⟩:=bH (ds:=ds) h x;obtain ⟨ot,hf,e⟩:=aC e;obtain ⟨s,hs,e⟩:=aC e;obtain ⟨agg,ha,e⟩:=aC e;obtain ⟨fs,fl,h1,h2,h3,h4⟩:=fieldAt?_ok hf
 split at e
 ·rename_i cs hx
  obtain ⟨u,hu,e⟩:=aC e;rw[hx] at hsx;generalize hg:(⟨tmps,ds⟩:Act).eval x=v at hsx;cases hsx with
  |val _ _ hv =>
   have hv':=hv;cases hv with
   |agg _ vs hl hk hxx =>
    obtain ⟨z,hz,hzr⟩:=vG (P:=P) (w:=w) hv' ha hs hu;exact .val h e hzr (X.val _ _ (by simp [execOp,ev,hg,Instr.field,run_underlying h1,h2,asAgg,h4,h3,hz]))
 ·cases e
theorem y9 (h:Rel P ans B0 w Ψ ρ ow an (sl an tm rs) tmps rs.sto.objs) {t:TypeId} {x ix:Operand} (X:Ex P tmps ds w ⟨dst,.indexAddr t x ix,ty,pos,aft,gd⟩ m mk) (e:aB P ans an drawn prot lcl cf tm tk ⟨dst,.indexAddr t x ix,ty,pos,aft,gd⟩ rs kp k=some r):Goal P ans an w B0 Ψ ρ ow tmps tm rs dst m mk mp kp k r:=by
 simp only[aB] at e;obtain ⟨tx,hsx,_⟩:=bH (ds:=ds) h x;obtain ⟨ti,hsi,_⟩:=bH (ds:=ds) h ix
 split at e
 ·rename_i el hu
  obtain ⟨xs,e,hxs⟩:=sO hsx e;obtain ⟨kk,n,e,hn⟩:=eM hsi e;obtain ⟨s,hs,e⟩:=aC e;obtain ⟨hg,e⟩:=aA e;obtain ⟨v,hv,e⟩:=aC e;obtain ⟨hg2,e2⟩:=aA e;have h0:0≤n:=by simpa using hg
  have hcs:v.cells.length=s:=Nat.eq_of_beq_eq_true hg2;generalize hgx:(⟨tmps,ds⟩:Act).eval x=vx at hxs;cases hxs with
  |slice _ a len cap s' hl hc hx =>
   obtain ⟨h1,b,o,rfl,h3⟩:=hx _ v hv;have hlt:n.toNat < len:=by rw[←hl];exact (List.getElem?_eq_some_iff.1 hv).1
   have hss:s'=s:=by rw[←h1,hcs]
   subst hss;refine .val h e2 (.cptr v b (o+n.toNat * s') fun j c hj=>h3 j c hj) (X.val _ _ ?_);simp [execOp,ev,hgx,hn,Instr.indexAt,asIntOf,run_underlying hu,h0,show n < (len:Int) by omega,run_sizeOf hs,cD]
 ·rename_i len el hu
  obtain ⟨p,e,hp⟩:=jG (ds:=ds) h e;obtain ⟨kk,n,e,hn⟩:=eM hsi e;obtain ⟨s,hs,e⟩:=aC e;obtain ⟨hg,e⟩:=aA e;simp only[Bool.and_eq_true,decide_eq_true_eq] at hg;have e':bg rs p (n.toNat * s) s (bC P el) k=some r:=by cases p <;> exact e
  obtain ⟨b,o,hv,hgo⟩:=ji (m:=m) (mk:=mk) (mp:=mp) (kp:=kp) (dst:=dst) h hp e';refine hgo (X.val _ _ ?_);simp [execOp,ev,hv,hn,Instr.indexAt,asIntOf,run_underlying hu,Instr.sureAddr,hg.1,hg.2,run_sizeOf hs,cD]
 ·cases e
theorem aB7 (h:Rel P ans B0 w Ψ ρ ow an (sl an tm rs) tmps rs.sto.objs) {t:TypeId} {x ix:Operand} (X:Ex P tmps ds w ⟨dst,.index t x ix,ty,pos,aft,gd⟩ m mk) (e:aB P ans an drawn prot lcl cf tm tk ⟨dst,.index t x ix,ty,pos,aft,gd⟩ rs kp k=some r):Goal P ans an w B0 Ψ ρ ow tmps tm rs dst m mk mp kp k r:=by
 simp only[aB] at e;obtain ⟨tx,hsx,_⟩:=bH (ds:=ds) h x;obtain ⟨ti,hsi,_⟩:=bH (ds:=ds) h ix
 split at e
 ·rename_i s hu hx
  obtain ⟨kk,n,e,hn⟩:=eM hsi e;obtain ⟨hg,e⟩:=aA e;obtain ⟨b,hb,e⟩:=aC e;have h0:0≤n:=by simpa using hg
  rw[hx] at hsx;generalize hgx:(⟨tmps,ds⟩:Act).eval x=vx at hsx;cases hsx with
  |val _ _ hv=>cases hv with
   |str =>
    have hlt:n.toNat < s.length:=(List.getElem?_eq_some_iff.1 hb).1
    have hbb:(⟨⟨s⟩⟩:ByteArray)[n.toNat]?=some b:=by
     have hsz:n.toNat < (⟨⟨s⟩⟩:ByteArray).size:=hlt;rw[ByteArray.getElem?_lt' _ _ hsz]
     have:s[n.toNat]=b:=(List.getElem?_eq_some_iff.1 hb).2
     rw[←this];rfl
    exact .val h e (.int _ _) (X.val _ _ (by simp [execOp,ev,hgx,hn,Instr.index,asIntOf,run_underlying hu,h0,hbb]))
 ·rename_i len el cs hu hx
  obtain ⟨kk,n,e,hn⟩:=eM hsi e;obtain ⟨s,hs,e⟩:=aC e;obtain ⟨agg,ha,e⟩:=aC e;obtain ⟨hg,e⟩:=aA e;simp only[Bool.and_eq_true,decide_eq_true_eq] at hg;obtain ⟨u,hu',e⟩:=aC e;rw[hx] at hsx;generalize hgx:(⟨tmps,ds⟩:Act).eval x=vx at hsx;cases hsx with
  |val _ _ hv =>
   have hv':=hv;cases hv with
   |agg _ vs hl hk hxx =>
    obtain ⟨z,hz,hzr⟩:=vG (P:=P) (w:=w) hv' ha hs hu';exact .val h e hzr (X.val _ _ (by simp [execOp,ev,hgx,hn,Instr.index,asIntOf,run_underlying hu,hg.1,hg.2,run_sizeOf hs,hz]))
 ·rename_i len el cs hu hx
  obtain ⟨kk,n,e,hn⟩:=eM hsi e;obtain ⟨s,hs,e⟩:=aC e;obtain ⟨agg,ha,e⟩:=aC e;obtain ⟨hg,e⟩:=aA e;simp only[Bool.and_eq_true,decide_eq_true_eq] at hg;obtain ⟨u,hu',e⟩:=aC e;rw[hx] at hsx;generalize hgx:(⟨tmps,ds⟩:Act).eval x=vx at hsx;cases hsx with
  |cells _ vs hv =>
   obtain ⟨z,hz,hzr⟩:=vG (P:=P) (w:=w) hv.agg ha hs hu';exact .val h e hzr (X.val _ _ (by simp [execOp,ev,hgx,hn,Instr.index,asIntOf,run_underlying hu,hg.1,hg.2,run_sizeOf hs,hz]))
 ·cases e
theorem qG (h:Rel P ans B0 w Ψ ρ ow an (sl an tm rs) tmps rs.sto.objs) {t:TypeId} {x:Operand} (X:Ex P tmps ds w ⟨dst,.makeInterface t x,ty,pos,aft,gd⟩ m mk) (e:aB P ans an drawn prot lcl cf tm tk ⟨dst,.makeInterface t x,ty,pos,aft,gd⟩ rs kp k=some r):Goal P ans an w B0 Ψ ρ ow tmps tm rs dst m mk mp kp k r:=by
 simp only[aB] at e;obtain ⟨tx,hsx,_⟩:=bH (ds:=ds) h x
 split at e
 ·cases e
 ·rename_i d hd hu
  obtain ⟨y,e,hy⟩:=iG hsx e;refine .val h e (.iface t y _ hy) (X.val _ _ ?_);simp only[execOp,Instr.makeInterface,Sem.run_bind,run_underlying hu,Result.andThen_ok];cases d <;> first|rfl|exact absurd rfl (hd _)
 ·cases e
theorem gk (h:Rel P ans B0 w Ψ ρ ow an (sl an tm rs) tmps rs.sto.objs):∀ {xs:List Operand} {k:List AVal→Option R},nM an.keep tm rs xs k=some r →
  ∃ l,k l=some r∧l.length=xs.length∧∀ (i:Nat) c v,l[i]?=some c→(xs.map (ev tmps ds))[i]?=some v→VRel Ψ ρ c v
 |[],k,e=>⟨[],e,rfl,fun i c v hc=>by simp at hc⟩
 |x::xs,k,e=>by
  obtain ⟨tx,hsx,_⟩:=bH (ds:=ds) h x;simp only[nM] at e;obtain ⟨y,e,hy⟩:=iG hsx e;obtain ⟨l,e,h1,h2⟩:=gk h e;refine ⟨y::l,e,by simp [h1],fun i c v hc hv=>?_⟩;cases i with
  |zero=>simp at hc hv;subst hc;subst hv;exact hy
  |succ i=>simp only[List.getElem?_cons_succ,List.map_cons] at hc hv;exact h2 i c v hc hv
theorem jd (h:Rel P ans B0 w Ψ ρ ow an (sl an tm rs) tmps rs.sto.objs) {fn:Fn} {first caps:Array Operand} (X:Ex P tmps ds w ⟨dst,.makeFunc fn first caps,ty,pos,aft,gd⟩ m mk) (e:aB P ans an drawn prot lcl cf tm tk ⟨dst,.makeFunc fn first caps,ty,pos,aft,gd⟩ rs kp k=some r):Goal P ans an w B0 Ψ ρ ow tmps tm rs dst m mk mp kp k r:=by
 simp only[aB] at e
 split at e
 ·rename_i f hf
  obtain ⟨l,e,h1,h2⟩:=gk (ds:=ds) h e
  have hfe:first=#[]:=by
   apply Array.ext';simpa using hf
  subst hfe;refine .val h e (.func f l (caps.toList.map (ev tmps ds)) (by simp [h1]) h2) (X.val _ _ ?_)
  have:caps.map (ev tmps ds)=⟨caps.toList.map (ev tmps ds)⟩:=by apply Array.ext';simp
  simp [execOp,Instr.makeFunc,this]
 ·cases e
theorem ov (h:Rel P ans B0 w Ψ ρ ow an (sl an tm rs) tmps rs.sto.objs) {t:Operand} {i:Nat} (X:Ex P tmps ds w ⟨dst,.extract t i,ty,pos,aft,gd⟩ m mk) (e:aB P ans an drawn prot lcl cf tm tk ⟨dst,.extract t i,ty,pos,aft,gd⟩ rs kp k=some r):Goal P ans an w B0 Ψ ρ ow tmps tm rs dst m mk mp kp k r:=by
 simp only[aB] at e;obtain ⟨tx,hsx,_⟩:=bH (ds:=ds) h t
 split at e
 ·rename_i vs hx
  obtain ⟨v,hv,e⟩:=aC e;rw[hx] at hsx;generalize hgx:(⟨tmps,ds⟩:Act).eval t=vx at hsx;cases hsx with
  |tup _ us hl hr =>
   have hi:i < us.length:=by rw[←hl];exact (List.getElem?_eq_some_iff.1 hv).1
   exact .val h e (hr i v us[i] hv (by simp [hi])) (X.val _ _ (by simp [execOp,ev,hgx,Instr.extract,hi]))
 ·cases e
end Go.AM
end
