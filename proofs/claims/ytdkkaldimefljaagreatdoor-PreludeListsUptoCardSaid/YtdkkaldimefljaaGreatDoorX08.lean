import Derived.Test.YtdkkaldimefljaaGreatDoorX07
set_option linter.all false
section
namespace Go.AM
variable {P:Program} {ans:FuncId→Ann} {w:World} {B0:Nat} {Ψ:HT} {ρ:List Nat} {ow:Own} {tmps:Array Value}
variable {ds:List Deferred} {cf:Oracle} {lp:LpOracle} {fid:FuncId} {B1:Nat} {b:Frame} {cs:List Frame} {items:List Item} {st:St} {pr:Prims}
def setAll (T:Array Value) (ps:List Nat) (vs:List Value):Array Value:=(ps.zip vs).foldl (fun t (p:Nat×Value)=>t.setIfInBounds p.1 p.2) T
theorem setAll_size:∀ (ps:List Nat) (vs:List Value) (T:Array Value),(setAll T ps vs).size=T.size
 |[],vs,T=>rfl
 |p::ps,[],T=>rfl
 |p::ps,v::vs,T=>by
  show (setAll (T.setIfInBounds p v) ps vs).size=T.size
  rw[setAll_size];simp
theorem alook_append (l r:List (Nat×Slot)) (t:Nat):alook (l++r) t=match alook l t with|some s=>some s|none=>alook r t:=by
 induction l with
 |nil=>rfl
 |cons p l ih =>
  obtain ⟨k,s⟩:=p
  simp only[List.cons_append,alook]
  cases Nat.beq k t with
  |true=>rfl
  |false=>exact ih
theorem params_ok:∀ (ps:List Nat) (args:List Slot) (vs:List Value) (T:Array Value),args.length=ps.length→vs.length=ps.length→(∀ (i:Nat) s u,args[i]?=some s→vs[i]?=some u→∃ x,s=.val x∧VRel Ψ ρ x u)→∀ t,
  match alook (ps.zip args).reverse t with
  |some s=>∃ x u,s=.val x∧VRel Ψ ρ x u∧t∈ps∧(t < T.size→(setAll T ps vs).getD t undef=u)
  |none=>(setAll T ps vs).getD t undef=T.getD t undef
 |[],args,vs,T,h1,h2,h,t=>by simp [alook,setAll]
 |p::ps,[],vs,T,h1,h2,h,t=>by simp at h1
 |p::ps,a::args,[],T,h1,h2,h,t=>by simp at h2
 |p::ps,a::args,v::vs,T,h1,h2,h,t=>by
  have ih:=params_ok ps args vs (T.setIfInBounds p v) (by simpa using h1) (by simpa using h2) (fun i s u hs hu=>h (i+1) s u (by simpa using hs) (by simpa using hu)) t
  have hset:setAll T (p::ps) (v::vs)=setAll (T.setIfInBounds p v) ps vs:=rfl
  rw[hset]
  rw[show ((p::ps).zip (a::args)).reverse=(ps.zip args).reverse++[(p,a)] by simp,alook_append]
  cases hl:alook (ps.zip args).reverse t with
  |some s =>
   rw[hl] at ih
   obtain ⟨x,u,g1,g2,g3,g4⟩:=ih
   exact ⟨x,u,g1,g2,by simp [g3],fun ht=>g4 (by simpa using ht)⟩
  |none =>
   rw[hl] at ih
   simp only at ih ⊢
   simp only[alook]
   cases hp:Nat.beq p t with
   |true =>
    have hpt:=Nat.eq_of_beq_eq_true hp
    subst hpt
    obtain ⟨x,hx,hv⟩:=h 0 a v rfl rfl
    refine ⟨x,v,hx,hv,by simp,fun ht=>?_⟩
    rw[ih,getD_set _ _ _ _ ht,if_pos rfl]
   |false =>
    simp only[cond_false]
    rw[ih]
    have hne:t≠p:=fun e=>by subst e;rw[show Nat.beq t t=true from Nat.beq_refl t] at hp;cases hp
    simp [Array.getD_eq_getD_getElem?,Array.getElem?_setIfInBounds_ne (Ne.symm hne)]
theorem snap_any {w':World} {ρ':List Nat} {ow':Own} {tmps':Array Value} {t:Nat} {s:Slot} {v:Value} (h:SRel w 0 Ψ ρ ow tmps t s v) (hs:snapSlot s=s) (hp:pre ρ ρ'):SRel w' B0 Ψ ρ' ow' tmps' t s v:=by
 cases h with
 |dead=>exact .dead _
 |val x v h=>exact .val x v (h.mono Ψ.le_refl hp)
 |full xs a n h=>exact .full xs a n h
 |nl=>exact .nl
 |nn xs a n c h=>exact .nn xs a n c h
 |tup=>cases hs
 |own=>cases hs
 |cells=>cases hs
 |box=>cases hs
 |ref=>cases hs
theorem snap_mem {tm:List Slot} (h:∀ s∈tm,snapSlot s=s) (ks:List Nat) (t:Nat):snapSlot (tlook ks tm t)=tlook ks tm t:=by
 rcases tlook_mem (ks:=ks) (tm:=tm) (t:=t) with h1|h1
 ·rw[h1];rfl
 ·exact h _ h1
theorem loopAt_ok {R:Type} {r:R} {sto:Sto} {i:Nat} {k:ALoop→Option R} (h:loopAt sto i k=some r):∃ l,sto.objs[i]?=some (.loop l)∧k l=some r:=by
 unfold loopAt at h
 split at h
 ·exact ⟨_,by assumption,h⟩
 ·cases h
theorem loop_of {sto:Sto} (h:OsRel w B0 Ψ ρ ow ans sto.objs) {i lb:Nat} {l:ALoop} (ho:sto.objs[i]?=some (.loop l)) (hl:ρ[i]?=some lb) :
  ∃ rr,w.heap[lb]?=some (.loop rr)∧ow lb=some (true,i,0)∧B0≤lb∧(∀ o,Ψ lb o=hno)∧LoopRel w Ψ (ρ.take (i+1)) ans l rr:=by
 obtain ⟨b,h1,h2⟩:=h.2 i _ ho
 obtain rfl:b=lb:=by rw[hl] at h1;exact (Option.some.inj h1).symm
 cases h2 with
 |loop _ _ rr a1 a2 a3 a4 a5=>exact ⟨rr,a1,a2,a3,a4,a5⟩
theorem LoopRel.put {w':World} {l l':ALoop} {rr rr':Loop} (h:LoopRel w Ψ ρ ans l rr) (h1:l'={ l with state:=l'.state,pend:=l'.pend }) (h2:rr'={ rr with state:=l'.state,pending:=l'.pend }):LoopRel w' Ψ ρ ans l' rr':=by
 rw[h1,h2]
 refine ⟨rfl,rfl,h.fn,h.params,h.assign,h.body,h.size,fun t=>?_,h.snap,h.hi⟩
 exact (h.slots t).mono Ψ.le_refl (pre_refl _) (fun b s hb=>by cases hb) (fun _ _ _=>rfl)
theorem Rest.setLoop {sto:Sto} (h:Rest ans B0 w Ψ ρ ow sto) {i lb:Nat} {l l':ALoop} {rr rr':Loop} (ho:sto.objs[i]?=some (.loop l)) (hl:ρ[i]?=some lb) (hrr:w.heap[lb]?=some (.loop rr)) (hown:ow lb=some (true,i,0)) (h0:B0≤lb) (hf:∀ o,Ψ lb o=hno)
  (hlr:LoopRel w Ψ (ρ.take (i+1)) ans l rr) (h1:l'={ l with state:=l'.state,pend:=l'.pend }) (h2:rr'={ rr with state:=l'.state,pending:=l'.pend }) :
  Rest ans B0 (w.putObj lb (.loop rr')) Ψ ρ ow (AM.setLoop sto i l')∧Fr w Ψ ow (w.putObj lb (.loop rr')) Ψ ow∧(∀ kk j,¬ (kk=true∧j=i)→Same w Ψ ow (w.putObj lb (.loop rr')) Ψ ow kk j kk j):=by
 have hlt:lb < w.heap.size:=(Array.getElem?_eq_some_iff.1 hrr).1
 have same:∀ kk j,¬ (kk=true∧j=i)→Same w Ψ ow (w.putObj lb (.loop rr')) Ψ ow kk j kk j:=fun kk j hk b' s hb' =>
  ⟨hb',World.putObj_heap_other (fun e=>by subst e;rw[hown] at hb';simp only[Option.some.injEq,Prod.mk.injEq] at hb';exact hk ⟨hb'.1.symm,hb'.2.1.symm⟩),fun _ h=>h⟩
 refine ⟨⟨h.wsat.put hf,?_,fun x hx=>by rw[World.putObj_size];exact h.lt x hx⟩,Fr.put (by simp [hown]) (fun _ h=>h),same⟩
 exact h.objs.set (List.getElem?_eq_some_iff.1 ho).1 hl (.loop _ _ rr' (World.putObj_heap_same hlt) hown h0 hf (hlr.put h1 h2)) fun j hj=>same true j (by simp [hj])
theorem yldStep_ok (hcf:CfOK P ans B0 cf) (hlp:LpOK P ans B0 lp) (hdr:DrawnOK P ans cf) {i:Nat} {args:List Slot} {sto:Sto} {res:ARes} {sto':Sto} (e:callStep P ans pr cf lp (.yld i) args sto=some (res,sto')) :
  ∃ al,sto.objs[i]?=some (.loop al)∧args.length=al.params.size∧∀ w Ψ ρ ow vs,CallPre ans B0 w Ψ ρ ow args vs sto→∀ l rr,ρ[i]?=some l→w.heap[l]?=some (.loop rr)→∀ c cs,
   CallPost P ans B0 w Ψ ρ ow sto c cs (lone (Frame.round l rr.fn ((rr.params.zip vs).foldl (fun t (p,a)=>t.setIfInBounds p a) rr.tmps) rr.assign rr.body .normal) (c::cs) w) res sto':=by
 simp only[callStep] at e
 obtain ⟨al,hal,e⟩:=loopAt_ok e
 split at e
 case h_2=>cases e
 rename_i hready
 obtain ⟨hg,e⟩:=guardB_ok e
 simp only[Bool.and_eq_true] at hg
 obtain ⟨⟨⟨⟨⟨⟨g1,g2⟩,g3⟩,g4⟩,g5⟩,g6⟩,g7⟩:=hg
 have hsize:args.length=al.params.size:=Nat.eq_of_beq_eq_true g2
 have hloi:sto.lo≤i:=Nat.le_of_ble_eq_true g1
 refine ⟨al,hal,hsize,fun w Ψ ρ ow vs hpre l rr hl hrr c cs=>?_⟩
 obtain ⟨rr',hrr',hown,h0,hf,hlr⟩:=loop_of hpre.objs hal hl
 obtain rfl:rr=rr':=by rw[hrr] at hrr';exact Obj.loop.inj (Option.some.inj hrr')
 obtain ⟨fn,hfn⟩:=Option.isSome_iff_exists.1 g6
 let b:Frame:={ (default:Frame) with fn:=rr.fn,kind:=.normal,roundOf:=some l }
 have hbfn:b.fn=al.fn:=hlr.fn
 let T:=setAll rr.tmps rr.params.toList vs.toList
 have hround:Frame.round l rr.fn ((rr.params.zip vs).foldl (fun t (p,a)=>t.setIfInBounds p a) rr.tmps) rr.assign rr.body .normal=b.atR ⟨T,[]⟩ [.code al.assign,.beginRound,.code al.body]:=by
  have hT:(rr.params.zip vs).foldl (fun t (p,a)=>t.setIfInBounds p a) rr.tmps=T:=by
   simp only[T,setAll]
   rw[←Array.foldl_toList,Array.toList_zip]
  rw[hT,←hlr.assign,←hlr.body]
  rfl
 have hround':lone (Frame.round l rr.fn ((rr.params.zip vs).foldl (fun t (p,a)=>t.setIfInBounds p a) rr.tmps) rr.assign rr.body .normal) (c::cs) w=lone (b.atR ⟨T,[]⟩ [.code al.assign,.beginRound,.code al.body]) (c::cs) w:=by rw[hround]
 rw[hround']
 have hTs:T.size=(ans al.fn).nt:=by rw[setAll_size];exact hlr.size
 have hil:i < sto.objs.length:=(List.getElem?_eq_some_iff.1 hal).1
 have hpar:=params_ok (Ψ:=Ψ) (ρ:=ρ) rr.params.toList args vs.toList rr.tmps (by rw[hlr.params];simpa using hsize) (by rw[hlr.params];have:=hpre.size;simp;omega) (fun j s u hs hu=>by
  have hv:=List.all_eq_true.1 g5 s (List.mem_of_getElem? hs)
  have hsr:=hpre.args j s hs
  have hvu:vs.getD j undef=u:=by simp [Array.getD_eq_getD_getElem?,show vs[j]?=some u by simpa using hu]
  rw[hvu] at hsr
  cases hsr with
  |val x u h=>exact ⟨x,rfl,h⟩
  |_=>simp [Slot.isVal] at hv)
 have hA:At P ans al.fn B0 w Ψ ρ ow ⟨setParams (ans al.fn).keep al.tm (al.params.toList.zip args),sto⟩ T:=by
  have hslot:∀ t,tlook (ans al.fn).keep (setParams (ans al.fn).keep al.tm (al.params.toList.zip args)) t=.dead∨(SRel w B0 Ψ ρ ow T t (tlook (ans al.fn).keep (setParams (ans al.fn).keep al.tm (al.params.toList.zip args)) t) (T.getD t undef)∧t < (ans al.fn).nt∧snapSlot (tlook (ans al.fn).keep (setParams (ans al.fn).keep al.tm (al.params.toList.zip args)) t)=tlook (ans al.fn).keep (setParams (ans al.fn).keep al.tm (al.params.toList.zip args)) t):=fun t=>by
   unfold setParams
   rcases tlook_commit (ans al.fn).keep al.tm (al.params.toList.zip args).reverse t with h1|h1
   ·exact .inl h1
   ·have hp:=hpar t
    rw[hlr.params] at hp
    rw[h1]
    cases hl2:alook (al.params.toList.zip args).reverse t with
    |some s =>
     rw[hl2] at hp
     obtain ⟨x,u,rfl,hx,hm,hu⟩:=hp
     have htn:t < (ans al.fn).nt:=by
      have:=List.all_eq_true.1 g7 t hm
      simpa [Nat.blt_eq] using this
     right
     refine ⟨?_,htn,rfl⟩
     have:T.getD t undef=u:=by simp only[T,hlr.params];exact hu (by rw[hlr.size];exact htn)
     rw[this];exact .val x u hx
    |none =>
     rw[hl2] at hp
     simp only at hp ⊢
     rcases Nat.lt_or_ge t (ans al.fn).nt with htn|htn
     ·right
      refine ⟨?_,htn,snap_mem hlr.snap _ t⟩
      have:T.getD t undef=rr.tmps.getD t undef:=by simp only[T,hlr.params];exact hp
      rw[this]
      exact snap_any (hlr.slots t) (snap_mem hlr.snap _ t) pre_take'
     ·exact .inl (hlr.hi t htn)
  have hns:∀ t u o,tlook (ans al.fn).keep (setParams (ans al.fn).keep al.tm (al.params.toList.zip args)) t≠.ref u o:=fun t u o he=>by
   rcases hslot t with h1|⟨_,_,h1⟩
   ·rw[h1] at he;cases he
   ·rw[he] at h1;cases h1
  refine ⟨⟨hTs,hpre.wsat,fun t=>?_,fun d u o he=>absurd he (hns d u o),fun t cs' he=>?_,hpre.objs,hpre.lt,hpre.base,fun t ht=>?_⟩,?_,hpre.lo⟩
  ·rcases hslot t with h1|⟨h1,_,_⟩
   ·show SRel w B0 Ψ ρ ow T t (tlook (ans al.fn).keep (setParams (ans al.fn).keep al.tm (al.params.toList.zip args)) t) _
    rw[h1];exact .dead _
   ·exact h1
  ·have he':tlook (ans al.fn).keep (setParams (ans al.fn).keep al.tm (al.params.toList.zip args)) t=.box cs':=he
   rcases hslot t with h1|⟨_,_,h1⟩
   ·rw[h1] at he';cases he'
   ·rw[he'] at h1;cases h1
  ·show tlook (ans al.fn).keep (setParams (ans al.fn).keep al.tm (al.params.toList.zip args)) t=.dead
   rcases hslot t with h1|⟨_,h1,_⟩
   ·exact h1
   ·omega
  ·exact noRef.commit fun s hs u o he=>by have:=hlr.snap s hs;rw[he] at this;cases this
 obtain ⟨ex,st1,he1,w1,Ψ1,ρ1,ow1,tmps1,ds1,a1,a2,a3,a4,a5,a6⟩:=XK_ok hcf hlp hdr al.assign (b:=b) (cs:=c::cs) (items:=[.beginRound,.code al.body]) (fid:=al.fn) (B1:=w.heap.size) hbfn (.inr g3) hA (Marks.nil w ow w.heap.size) (Nat.le_refl _) e
 cases ex with
 |exit=>cases he1
 |ret=>cases he1
 |pan=>cases he1
 |norm =>
 simp only at he1
 obtain ⟨l1,ho1,he1⟩:=loopAt_ok he1
 split at he1
 case h_2=>cases he1
 rename_i hready1
 have a1:At P ans al.fn B0 w1 Ψ1 ρ1 ow1 st1 tmps1:=a1
 have hl1:ρ1[i]?=some l:=a4 i l hl
 obtain ⟨rr1,hrr1,hown1,h01,hf1,hlr1⟩:=loop_of a1.rel.objs ho1 hl1
 let l1b:ALoop:={ l1 with state:=.busy }
 have hset1:=a1.rest.setLoop (l':=l1b) (rr':={ rr1 with state:=.busy }) ho1 hl1 hrr1 hown1 h01 hf1 hlr1 rfl (by
  show ({ rr1 with state:=.busy }:Loop)={ rr1 with state:=.busy,pending:=l1.pend }
  rw[←hlr1.pend])
 have hbegin:=run_beginRound (P:=P) hrr1 (by rw[hlr1.state];exact hready1)
 let w1b:=w1.putObj l (.loop { rr1 with state:=.busy })
 have hAb:At P ans al.fn B0 w1b Ψ1 ρ1 ow1 { st1 with sto:=setLoop st1.sto i l1b } tmps1 :=
  ⟨⟨a1.rel.size,hset1.1.wsat,fun t=>(a1.rel.slots t).mono Ψ1.le_refl (pre_refl _) (hset1.2.2 false t (by simp)) (fun _ _ _=>rfl),a1.rel.refs,a1.rel.boxes,hset1.1.objs,hset1.1.lt,by have:=a1.rel.base;simpa [w1b] using this,a1.rel.hi⟩,a1.nr,by simp only[setLoop,List.length_set];exact a1.lo⟩
 have hM1:=a2.mono hset1.2.1
 obtain ⟨ex,st2,he2,w2,Ψ2,ρ2,ow2,tmps2,ds2,c1,c2,c3,c4,c5,c6⟩:=XK_ok hcf hlp hdr al.body (b:=b) (cs:=c::cs) (items:=[]) (fid:=al.fn) (B1:=w.heap.size) hbfn (.inr g4) hAb hM1 (Nat.le_trans a3.size hset1.2.1.size) he1
 have hsteps0:Steps P (lone (b.atR ⟨T,[]⟩ [.code al.assign,.beginRound,.code al.body]) (c::cs) w) (lone (b.atR ⟨tmps1,ds1⟩ [.code al.body]) (c::cs) w1b) :=
  Steps.trans a6 (.one (stepR_beginRound (b:=b) rfl hbegin))
 have hFr:Fr w Ψ ow w2 Ψ2 ow2:=(a3.trans hset1.2.1).trans c3
 have hpre2:pre ρ ρ2:=pre_trans a4 c4
 have hsto1:StoLe sto (setLoop st1.sto i l1b):=⟨a5.lo,by simp only[setLoop,List.length_set];exact a5.len,fun j hj=>by
  simp only[setLoop]
  rw[List.getElem?_set,if_neg (by omega)];exact a5.keep j hj⟩
 have hsto2:StoLe sto st2.sto:=hsto1.trans c5
 have hρl:ρ.length=sto.objs.length:=hpre.objs.1
 have fin:∀ (jump:Option Code) (l2:ALoop),st2.sto.objs[i]?=some (.loop l2)→Rest ans B0 w2 Ψ2 ρ2 ow2 st2.sto→res=.ret (.val (.bool jump.isNone))→sto'=cut sto.objs.length (setLoop st2.sto i { l2 with state:=if jump.isNone then .ready else .done,pend:=jump }) →
   (∀ w3,(Instr.endRound l jump).run P w2=.ok (.bool jump.isNone) w3→Steps P (lone (b.atR ⟨tmps1,ds1⟩ [.code al.body]) (c::cs) w1b) (lone (c.finish (.bool jump.isNone)) cs w3)) →
   CallPost P ans B0 w Ψ ρ ow sto c cs (lone (b.atR ⟨T,[]⟩ [.code al.assign,.beginRound,.code al.body]) (c::cs) w) res sto':=fun jump l2 hol2 hrest hres hsto hst=>by
  have hl2:ρ2[i]?=some l:=c4 i l hl1
  obtain ⟨rr2,hrr2,hown2,h02,hf2,hlr2⟩:=loop_of hrest.objs hol2 hl2
  let l3:ALoop:={ l2 with state:=if jump.isNone then .ready else .done,pend:=jump }
  have hset2:=hrest.setLoop (l':=l3) (rr':={ rr2 with state:=if jump.isNone then .ready else .done,pending:=jump }) hol2 hl2 hrr2 hown2 h02 hf2 hlr2 rfl rfl
  have hend:=run_endRound (P:=P) jump hrr2
  have hn:sto.objs.length≤(setLoop st2.sto i l3).objs.length:=by simp only[setLoop,List.length_set];exact hsto2.len
  subst hres hsto
  refine ⟨w2.putObj l (.loop { rr2 with state:=if jump.isNone then .ready else .done,pending:=jump }),Ψ2,ρ2.take sto.objs.length,ow2,hFr.trans hset2.2.1,pre_of_take (ρ2:=ρ2) hpre2 hρl.symm (by rw[List.take_take,Nat.min_self]),hset2.1.wsat,hset2.1.objs.front _ hn,hset2.1.lt,⟨hsto2.lo,?_,fun j hj=>?_⟩,rfl,.bool jump.isNone,.val _ _ (.bool _),hsteps0.trans (hst _ hend)⟩
  ·show sto.objs.length≤((setLoop st2.sto i l3).objs.take sto.objs.length).length
   rw[List.length_take];omega
  ·show ((setLoop st2.sto i l3).objs.take sto.objs.length)[j]?=_
   rw[List.getElem?_take,if_pos (by omega)]
   simp only[setLoop]
   rw[List.getElem?_set,if_neg (by omega)];exact hsto2.keep j hj
 cases ex with
 |norm =>
  simp only at he2
  obtain ⟨l2,ho2,he2⟩:=loopAt_ok he2
  simp only[Option.some.injEq,Prod.mk.injEq] at he2
  exact fin none l2 ho2 (AtE.rest c1) he2.1.symm he2.2.symm fun w3 hend=>Steps.trans c6 (.one (stepR_round_end (b:=b) rfl rfl hend))
 |ret =>
  simp only at he2
  obtain ⟨l2,ho2,he2⟩:=loopAt_ok he2
  simp only[Option.some.injEq,Prod.mk.injEq] at he2
  obtain ⟨k,hk⟩:=c6
  exact fin (some .ret) l2 ho2 (AtE.rest c1) he2.1.symm he2.2.symm fun w3 hend=>hk.trans (.one (stepR_round_ret (b:=b) rfl rfl hend))
 |exit id =>
  simp only at he2
  obtain ⟨l2,ho2,he2⟩:=loopAt_ok he2
  simp only[Option.some.injEq,Prod.mk.injEq] at he2
  obtain ⟨k,hx,hk⟩:=c6
  exact fin (some (.exit id)) l2 ho2 (AtE.rest c1) he2.1.symm he2.2.symm fun w3 hend=>hk.trans (.one (stepR_round_exit (b:=b) rfl rfl hx hend))
 |pan x =>
  simp only[Option.some.injEq,Prod.mk.injEq] at he2
  obtain ⟨rfl,rfl⟩:=he2
  obtain ⟨v,k,hv,hs⟩:=c6
  obtain ⟨w3,p1,p2,p3,p4,p5,p6⟩:=marks_pop (P:=P) (cs:=c::cs) (fr:={ b.atR ⟨tmps2,ds2⟩ k with mode:=.panicking [{ v,recovered:=false }] }) c2 (by simp) rfl
  have hr2:=Rest.kept c1 p2 p3
  refine ⟨w3,Ψ2,ρ2,ow2,hFr.kept (Nat.le_refl _) p2 p3 p4 p5 p6,hpre2,hr2.wsat,hr2.objs,hr2.lt,hsto2,v,hv,(hsteps0.trans (hs.trans p1)).trans (.one (step_leave_panicked ⟨rfl,rfl,fn,?_⟩))⟩
  show P.funcs[rr.fn]?=some fn
  rw[hlr.fn];exact hfn
structure Env (P:Program) (ans:FuncId→Ann) (B0:Nat) (pr:Prims):Prop where
 prim:∀ f args res,pr f args=some (some res)→(∃ F,P.funcs[f]?=some F∧F.body.isSome=true)∧∀ sto w Ψ ρ ow vs,CallPre ans B0 w Ψ ρ ow args vs sto→∀ c cs,CallPost P ans B0 w Ψ ρ ow sto c cs (lone (Frame.enter P f vs .normal) (c::cs) w) res sto
 names:∀ (f:Nat) (F:Func),P.funcs[f]?=some F→F.body.isSome=true→F.name≠ "runtime.NumGoroutine"
 drawn:∀ cf,PrimCf ans cf→DrawnOK P ans cf
theorem callStep_ok (E:Env P ans B0 pr) (hcf:CfOK P ans B0 cf) (hlp:LpOK P ans B0 lp) (hpc:PrimCf ans cf):CfOK P ans B0 (callStep P ans pr cf lp) where
 fn:=fun f args sto res sto' e=>by
  cases hpr:pr f args with
  |some o =>
   cases o with
   |none=>simp [callStep,hpr] at e
   |some r0 =>
    simp only[callStep,hpr,Option.bind_some,Option.map_eq_some_iff] at e
    obtain ⟨s0,hs0,he⟩:=e
    cases r0 with
    |pan v=>cases hs0
    |ret s =>
    obtain ⟨_,hs0⟩:=guardB_ok hs0
    cases hs0
    cases he
    obtain ⟨⟨F,h1,h2⟩,h3⟩:=E.prim _ _ _ hpr
    exact ⟨⟨F,h1,h2,E.names _ _ h1 h2⟩,fun w Ψ ρ ow vs hp c cs=>h3 sto w Ψ ρ ow vs hp c cs⟩
  |none =>
   obtain ⟨⟨F,h1,h2⟩,h3⟩:=fnStep_ok hcf hlp (E.drawn cf hpc) hpr e
   exact ⟨⟨F,h1,h2,E.names _ _ h1 h2⟩,fun w Ψ ρ ow vs hp c cs=>(h3 w Ψ ρ ow vs hp (c::cs)).post⟩
 yld:=fun i args sto res sto' e=>yldStep_ok hcf hlp (E.drawn cf hpc) e
theorem run_prim:∀ n,PrimCf ans (run P ans pr n).1
 |0=>fun f args _=>⟨none,by simp,fun sto=>rfl⟩
 |n+1=>fun f args h=>by
  cases hp:pr f args with
  |none=>exact ⟨none,by simp,fun sto=>by simp [run,callStep,hp,h]⟩
  |some o =>
   refine ⟨o.bind primOk,fun s hs=>?_,fun sto=>by simp [run,callStep,hp]⟩
   obtain ⟨r,_,hs⟩:=bind_ok hs
   cases r with
   |pan v=>cases hs
   |ret s'=>obtain ⟨hg,hs⟩:=guardB_ok hs;cases hs;exact hg
theorem run_ok (E:Env P ans B0 pr):∀ n,CfOK P ans B0 (run P ans pr n).1∧LpOK P ans B0 (run P ans pr n).2
 |0=>⟨⟨fun f args sto res sto' e=>by simp [run] at e,fun i args sto res sto' e=>by simp [run] at e⟩,fun fid c st e st' h=>by simp [run] at h⟩
 |n+1=>by
  obtain ⟨h1,h2⟩:=run_ok E n
  exact ⟨callStep_ok E h1 h2 (run_prim n),loopStep_ok h1 h2 (E.drawn _ (run_prim n))⟩
theorem run_calls (E:Env P ans B0 pr) {n:Nat} {f:FuncId} {args:List Slot} {sto:Sto} {res:ARes} {sto':Sto} (hpr:pr f args=none) (e:(run P ans pr (n+1)).1 (.fn f) args sto=some (res,sto')) {vs:Array Value} (hpre:CallPre ans B0 w Ψ ρ ow args vs sto) :
  Calls P f vs w fun e w'=>∃ Ψ' ρ' ow',Fr w Ψ ow w' Ψ' ow'∧WSat Ψ' w'∧match res with
   |.ret s=>∃ v,e=.returned v∧SRel w' B0 Ψ' ρ' ow' #[] 0 s v
   |.pan x=>∃ v,e=.panicked [{ v,recovered:=false }]∧VRel Ψ' ρ' x v:=by
 intro cs
 obtain ⟨h1,h2⟩:=run_ok E n
 obtain ⟨w',Ψ',ρ',ow',fr,a1,a2,a3,a4,a5,a6,a7,a8,a9⟩:=(fnStep_ok h1 h2 (E.drawn _ (run_prim n)) hpr e).2 w Ψ ρ ow vs hpre cs
 cases res with
 |ret s =>
  obtain ⟨_,v,hs,hl⟩:=a9
  exact ⟨.returned v,w',fr,⟨Ψ',ρ',ow',a1,a3,v,rfl,hs⟩,a7,a8,hl⟩
 |pan x =>
  obtain ⟨v,hs,hl⟩:=a9
  exact ⟨.panicked _,w',fr,⟨Ψ',ρ',ow',a1,a3,v,rfl,hs⟩,a7,a8,hl⟩
end Go.AM
end
section
namespace Go.AM
variable {P:Program} {ans:FuncId→Ann} {an:Ann} {R:Type} {r:R}
variable {tm:List Slot} {rs1 rs2:RS} {k1:Slot→RS→Option R} {ops:Array Oper} {prot tk:Bool} {cf:Oracle} {o:Oper}
def agS (s1 s2:Slot):Prop:=s2=s1∨∃ c1 c2,s1=.box c1∧s2=.box c2
theorem agS.eq {s1 s2:Slot} (h:agS s1 s2) (hn:∀ c,s1≠.box c):s2=s1:=by
 rcases h with h|⟨c1,c2,h,_⟩
 ·exact h
 ·exact absurd h (hn c1)
theorem asV_two {s1 s2:Slot} (h:agS s1 s2) {k:AVal→Option R} (e:asV s1 k=some r):∃ x,k x=some r∧∀ (R2:Type) (k2:AVal→Option R2),asV s2 k2=k2 x:=by
 have hs:=h.eq (fun c he=>by subst he;simp [asV] at e)
 subst hs
 unfold asV at e
 split at e <;> first|exact ⟨_,e,fun R2 k2=>rfl⟩|cases e
theorem asSl_two {s1 s2:Slot} (h:agS s1 s2) {k:List AVal→Option R} (e:asSl s1 k=some r):∃ x,k x=some r∧∀ (R2:Type) (k2:List AVal→Option R2),asSl s2 k2=k2 x:=by
 have hs:=h.eq (fun c he=>by subst he;simp [asSl] at e)
 subst hs
 unfold asSl at e
 split at e <;> first|exact ⟨_,e,fun R2 k2=>rfl⟩|cases e
theorem asInt_two {s1 s2:Slot} (h:agS s1 s2) {k:IntKind→Int→Option R} (e:asInt s1 k=some r):∃ a b,k a b=some r∧∀ (R2:Type) (k2:IntKind→Int→Option R2),asInt s2 k2=k2 a b:=by
 have hs:=h.eq (fun c he=>by subst he;simp [asInt] at e)
 subst hs
 unfold asInt at e
 split at e <;> first|exact ⟨_,_,e,fun R2 k2=>rfl⟩|cases e
theorem asBool_two {s1 s2:Slot} (h:agS s1 s2) {k:Bool→Option R} (e:asBool s1 k=some r):∃ b,k b=some r∧∀ (R2:Type) (k2:Bool→Option R2),asBool s2 k2=k2 b:=by
 have hs:=h.eq (fun c he=>by subst he;simp [asBool] at e)
 subst hs
 unfold asBool at e
 split at e
 ·rename_i b
  refine ⟨b,by cases b <;> simpa using e,fun R2 k2=>by cases b <;> rfl⟩
 ·cases e
theorem mv_two {s1 s2:Slot} (h:agS s1 s2) {k:Slot→Option R} (e:mv s1 k=some r):∃ x,k x=some r∧(∀ (R2:Type) (k2:Slot→Option R2),mv s2 k2=k2 x)∧∀ u y,x=.ref u y→s1=.ref u y:=by
 have hs:=h.eq (fun c he=>by subst he;simp [mv] at e)
 subst hs
 unfold mv at e
 split at e <;> first|exact ⟨_,e,fun R2 k2=>rfl,fun u y he=>by cases he;rfl⟩|exact ⟨_,e,fun R2 k2=>rfl,fun u y he=>by cases he⟩|cases e
theorem guardB_true {b:Bool} (h:b=true) (k:Option R):guardB b k=k:=by subst h;rfl
def objAg (o1 o2:Option AObj):Prop:=o2=o1∨∃ c1 c2,o1=some (.box c1)∧o2=some (.box c2)∧c2.map Cell.get=c1.map Cell.get
structure stoAg (a b:Sto):Prop where
 lo:b.lo=a.lo
 len:b.objs.length=a.objs.length
 objs:∀ i:Nat,objAg a.objs[i]? b.objs[i]?
theorem stoAg.refl (a:Sto):stoAg a a:=⟨rfl,rfl,fun _=>.inl rfl⟩
structure Agr (ans:FuncId→Ann) (an:Ann) (tm:List Slot) (ops:Array Oper) (prot tk:Bool) (o:Oper) (rs1 rs2:RS):Prop where
 opd:∀ x∈o.op.operands.toList,agS (opS an.keep tm rs1 x) (opS an.keep tm rs2 x)
 rb:∀ u∈rdB an.loc ops o,∀ c,rs1.look an.keep tm u=.box c→∃ c2,rs2.look an.keep tm u=.box c2∧c2.map Cell.get=c.map Cell.get
 wb:∀ u,(u∈wrB an.loc ops o∨u∈tkB an.loc ops tk o)→rs2.look an.keep tm u=rs1.look an.keep tm u
 sto:match clsOf ans an.loc ops prot tk o with
  |.p=>True
  |.r=>stoAg rs1.sto rs2.sto
  |_=>rs2.sto=rs1.sto
structure Eff (ans:FuncId→Ann) (an:Ann) (tm:List Slot) (ops:Array Oper) (prot tk:Bool) (o:Oper) (rs1:RS) (s:Slot) (puts:List (Nat×Slot)) (g:Sto→Sto):Prop where
 keys:∀ p∈puts,p.1∈cons an.keep tk o∨(p.1∈wrB an.loc ops o∧∃ c c',rs1.look an.keep tm p.1=.box c∧p.2=.box c')∨(p.1∈tkB an.loc ops tk o∧∃ c c',rs1.look an.keep tm p.1=.box c∧p.2=.box c'∧c'.map Cell.get=c.map Cell.get)
 vals:∀ p∈puts,∀ u x,p.2≠.ref u x
 ref:∀ u x,s=.ref u x→addrTmp o=some u∨∃ t∈rdS ops o,∃ y,rs1.look an.keep tm t=.ref u y
 sto:match clsOf ans an.loc ops prot tk o with
  |.t=>stoAg rs1.sto (g rs1.sto)
  |.w=>True
  |.x=>True
  |_=>g=id
def Two (P:Program) (ans:FuncId→Ann) (an:Ann) (tm:List Slot) (ops:Array Oper) (prot tk:Bool) (cf:Oracle) (o:Oper) (rs1 rs2:RS) (k1:Slot→RS→Option R) (r:R):Prop :=
 ∃ s puts g,k1 s ⟨puts++rs1.sc,g rs1.sto⟩=some r∧(∀ (R2:Type) (kp2:AVal→RS→Option R2) (k2:Slot→RS→Option R2),stepK P ans an true prot (rootS an.loc ops.toList ops.size (addrOf o)) cf tm tk o rs2 kp2 k2=k2 s ⟨puts++rs2.sc,g rs2.sto⟩)∧Eff ans an tm ops prot tk o rs1 s puts g
theorem Two.plain {s:Slot} (hk:k1 s rs1=some r) (h2:∀ (R2:Type) (kp2:AVal→RS→Option R2) (k2:Slot→RS→Option R2),stepK P ans an true prot (rootS an.loc ops.toList ops.size (addrOf o)) cf tm tk o rs2 kp2 k2=k2 s rs2)
  (hr:∀ u x,s=.ref u x→addrTmp o=some u∨∃ t∈rdS ops o,∃ y,rs1.look an.keep tm t=.ref u y):Two P ans an tm ops prot tk cf o rs1 rs2 k1 r :=
 ⟨s,[],id,hk,h2,by simp,by simp,hr,by split <;> first|rfl|trivial|exact stoAg.refl _⟩
theorem Two.val {x:AVal} (hk:k1 (.val x) rs1=some r) (h2:∀ (R2:Type) (kp2:AVal→RS→Option R2) (k2:Slot→RS→Option R2),stepK P ans an true prot (rootS an.loc ops.toList ops.size (addrOf o)) cf tm tk o rs2 kp2 k2=k2 (.val x) rs2):Two P ans an tm ops prot tk cf o rs1 rs2 k1 r :=
 .plain hk h2 (fun u x he=>by cases he)
variable {dst:Option Nat} {ty:TypeId} {pos:String} {aft:Array Edge} {gd:Option (Nat×Bool)}
theorem two_unOp {op:UnOp} {t:TypeId} {x:Operand} (h:Agr ans an tm ops prot tk ⟨dst,.unOp op t x,ty,pos,aft,gd⟩ rs1 rs2) {kp:AVal→RS→Option R} {l:List Nat} (e:stepK P ans an true prot l cf tm tk ⟨dst,.unOp op t x,ty,pos,aft,gd⟩ rs1 kp k1=some r):Two P ans an tm ops prot tk cf ⟨dst,.unOp op t x,ty,pos,aft,gd⟩ rs1 rs2 k1 r:=by
 have hx:=h.opd x (by simp [Op.operands])
 simp only[stepK] at e
 split at e
 ·rename_i b hb
  have h2:=hx.eq (by rw[hb];simp)
  rw[hb] at h2
  exact .val e (fun R2 kp2 k2=>by simp only[stepK,h2])
 ·rename_i kd n hb
  have h2:=hx.eq (by rw[hb];simp)
  rw[hb] at h2
  exact .val e (fun R2 kp2 k2=>by simp only[stepK,h2])
 ·cases e
theorem two_convert {src dt:TypeId} {x:Operand} (h:Agr ans an tm ops prot tk ⟨dst,.convert src dt x,ty,pos,aft,gd⟩ rs1 rs2) {kp:AVal→RS→Option R} {l:List Nat} (e:stepK P ans an true prot l cf tm tk ⟨dst,.convert src dt x,ty,pos,aft,gd⟩ rs1 kp k1=some r):Two P ans an tm ops prot tk cf ⟨dst,.convert src dt x,ty,pos,aft,gd⟩ rs1 rs2 k1 r:=by
 have hx:=h.opd x (by simp [Op.operands])
 simp only[stepK] at e
 split at e
 ·rename_i k1' kd hu1 hu2
  obtain ⟨a,b,e,h2⟩:=asInt_two hx e
  exact .val e (fun R2 kp2 k2=>by simp only[stepK,hu1,hu2,h2])
 ·rename_i hu1 hu2
  split at e
  ·rename_i s hb
   have h2:=hx.eq (by rw[hb];simp)
   rw[hb] at h2
   exact .val e (fun R2 kp2 k2=>by simp only[stepK,hu1,hu2,h2])
  ·cases e
 ·cases e
theorem two_pick {c a b:Operand} (h:Agr ans an tm ops prot tk ⟨dst,.pick c a b,ty,pos,aft,gd⟩ rs1 rs2) {kp:AVal→RS→Option R} {l:List Nat} (e:stepK P ans an true prot l cf tm tk ⟨dst,.pick c a b,ty,pos,aft,gd⟩ rs1 kp k1=some r):Two P ans an tm ops prot tk cf ⟨dst,.pick c a b,ty,pos,aft,gd⟩ rs1 rs2 k1 r:=by
 have hc:=h.opd c (by simp [Op.operands])
 have ha:=h.opd a (by simp [Op.operands])
 have hb:=h.opd b (by simp [Op.operands])
 simp only[stepK] at e
 obtain ⟨t,e,h2⟩:=asBool_two hc e
 have hm:∀ x,x∈[a,b]→∀ u y,opS an.keep tm rs1 x=.ref u y→∃ t∈rdS ops ⟨dst,.pick c a b,ty,pos,aft,gd⟩,∃ y,rs1.look an.keep tm t=.ref u y:=fun x hx u y he=>by
  cases x with
  |tmp t =>
   refine ⟨t,?_,y,he⟩
   simp only[rdS,Op.operands,List.mem_append]
   left
   simp only[List.mem_filterMap]
   refine ⟨.tmp t,?_,rfl⟩
   simp at hx ⊢
   rcases hx with hx|hx
   ·simp [hx]
   ·simp [hx]
  |const v =>
   simp only[opS,constS] at he
   split at he
   ·cases he
   ·split at he <;> cases he
  |global=>simp [opS] at he
  |func=>simp [opS] at he
 cases t with
 |true =>
  obtain ⟨x,e,h3,h4⟩:=mv_two ha e
  exact .plain e (fun R2 kp2 k2=>by simp only[stepK,h2,h3]) (fun u y he=>.inr (hm a (by simp) u y (h4 u y he)))
 |false =>
  obtain ⟨x,e,h3,h4⟩:=mv_two hb e
  exact .plain e (fun R2 kp2 k2=>by simp only[stepK,h2,h3]) (fun u y he=>.inr (hm b (by simp) u y (h4 u y he)))
theorem two_field {t:TypeId} {x:Operand} {f:Nat} (h:Agr ans an tm ops prot tk ⟨dst,.field t x f,ty,pos,aft,gd⟩ rs1 rs2) {kp:AVal→RS→Option R} {l:List Nat} (e:stepK P ans an true prot l cf tm tk ⟨dst,.field t x f,ty,pos,aft,gd⟩ rs1 kp k1=some r):Two P ans an tm ops prot tk cf ⟨dst,.field t x f,ty,pos,aft,gd⟩ rs1 rs2 k1 r:=by
 have hx:=h.opd x (by simp [Op.operands])
 simp only[stepK] at e
 obtain ⟨ot,hf,e⟩:=bind_ok e
 obtain ⟨s,hs,e⟩:=bind_ok e
 obtain ⟨agg,ha,e⟩:=bind_ok e
 split at e
 ·rename_i cs hb
  obtain ⟨u,hu,e⟩:=bind_ok e
  have h2:=hx.eq (by rw[hb];simp)
  rw[hb] at h2
  exact .val e (fun R2 kp2 k2=>by simp only[stepK,hf,hs,ha,h2,hu,Option.bind_some])
 ·cases e
theorem two_extract {x:Operand} {i:Nat} (h:Agr ans an tm ops prot tk ⟨dst,.extract x i,ty,pos,aft,gd⟩ rs1 rs2) {kp:AVal→RS→Option R} {l:List Nat} (e:stepK P ans an true prot l cf tm tk ⟨dst,.extract x i,ty,pos,aft,gd⟩ rs1 kp k1=some r):Two P ans an tm ops prot tk cf ⟨dst,.extract x i,ty,pos,aft,gd⟩ rs1 rs2 k1 r:=by
 have hx:=h.opd x (by simp [Op.operands])
 simp only[stepK] at e
 split at e
 ·rename_i vs hb
  obtain ⟨u,hu,e⟩:=bind_ok e
  have h2:=hx.eq (by rw[hb];simp)
  rw[hb] at h2
  exact .val e (fun R2 kp2 k2=>by simp only[stepK,h2,hu,Option.bind_some])
 ·cases e
theorem two_makeInterface {t:TypeId} {x:Operand} (h:Agr ans an tm ops prot tk ⟨dst,.makeInterface t x,ty,pos,aft,gd⟩ rs1 rs2) {kp:AVal→RS→Option R} {l:List Nat} (e:stepK P ans an true prot l cf tm tk ⟨dst,.makeInterface t x,ty,pos,aft,gd⟩ rs1 kp k1=some r):Two P ans an tm ops prot tk cf ⟨dst,.makeInterface t x,ty,pos,aft,gd⟩ rs1 rs2 k1 r:=by
 have hx:=h.opd x (by simp [Op.operands])
 simp only[stepK] at e
 split at e
 ·cases e
 ·rename_i d hd hu
  obtain ⟨v,e,h2⟩:=asV_two hx e
  refine .val e (fun R2 kp2 k2=>?_)
  simp only[stepK,hu]
  exact h2 _ _
 ·cases e
theorem two_index {t:TypeId} {x ix:Operand} (h:Agr ans an tm ops prot tk ⟨dst,.index t x ix,ty,pos,aft,gd⟩ rs1 rs2) {kp:AVal→RS→Option R} {l:List Nat} (e:stepK P ans an true prot l cf tm tk ⟨dst,.index t x ix,ty,pos,aft,gd⟩ rs1 kp k1=some r):Two P ans an tm ops prot tk cf ⟨dst,.index t x ix,ty,pos,aft,gd⟩ rs1 rs2 k1 r:=by
 have hx:=h.opd x (by simp [Op.operands])
 have hi:=h.opd ix (by simp [Op.operands])
 simp only[stepK] at e
 split at e
 ·rename_i s hu hb
  obtain ⟨kd,n,e,h3⟩:=asInt_two hi e
  obtain ⟨hg,e⟩:=guardB_ok e
  obtain ⟨u,hu',e⟩:=bind_ok e
  have h2:=hx.eq (by rw[hb];simp)
  rw[hb] at h2
  exact .val e (fun R2 kp2 k2=>by simp only[stepK,hu,h2,h3,guardB_true hg,hu',Option.bind_some])
 ·rename_i len el cs hu hb
  obtain ⟨kd,n,e,h3⟩:=asInt_two hi e
  obtain ⟨s,hs,e⟩:=bind_ok e
  obtain ⟨agg,ha,e⟩:=bind_ok e
  obtain ⟨hg,e⟩:=guardB_ok e
  obtain ⟨u,hu',e⟩:=bind_ok e
  have h2:=hx.eq (by rw[hb];simp)
  rw[hb] at h2
  exact .val e (fun R2 kp2 k2=>by simp only[stepK,hu,h2,h3,hs,ha,guardB_true hg,hu',Option.bind_some])
 ·rename_i len el cs hu hb
  obtain ⟨kd,n,e,h3⟩:=asInt_two hi e
  obtain ⟨s,hs,e⟩:=bind_ok e
  obtain ⟨agg,ha,e⟩:=bind_ok e
  obtain ⟨hg,e⟩:=guardB_ok e
  obtain ⟨u,hu',e⟩:=bind_ok e
  have h2:=hx.eq (by rw[hb];simp)
  rw[hb] at h2
  exact .val e (fun R2 kp2 k2=>by simp only[stepK,hu,h2,h3,hs,ha,guardB_true hg,hu',Option.bind_some])
 ·cases e
end Go.AM
end
section
namespace Go.AM
variable {P:Program} {ans:FuncId→Ann} {an:Ann} {R:Type} {r:R}
variable {tm:List Slot} {rs1 rs2:RS} {k1:Slot→RS→Option R} {ops:Array Oper} {prot tk:Bool} {cf:Oracle} {o:Oper}
variable {dst:Option Nat} {ty:TypeId} {pos:String} {aft:Array Edge} {gd:Option (Nat×Bool)} {kp:AVal→RS→Option R} {l:List Nat}
theorem elemsA_two:∀ {ps:List (Nat×Operand)} {k:List (Nat×AVal)→Option R},(∀ p∈ps,agS (opS an.keep tm rs1 p.2) (opS an.keep tm rs2 p.2))→elemsA an.keep tm rs1 ps k=some r→∃ l,k l=some r∧∀ (R2:Type) (k2:List (Nat×AVal)→Option R2),elemsA an.keep tm rs2 ps k2=k2 l
 |[],k,h,e=>⟨[],e,fun R2 k2=>rfl⟩
 |(i,x)::ps,k,h,e=>by
  simp only[elemsA] at e
  obtain ⟨v,e,h2⟩:=asV_two (h (i,x) (by simp)) e
  obtain ⟨l,e,h3⟩:=elemsA_two (fun p hp=>h p (by simp [hp])) e
  exact ⟨(i,v)::l,e,fun R2 k2=>by simp only[elemsA,h2,h3]⟩
theorem capsA_two:∀ {xs:List Operand} {k:List AVal→Option R},(∀ x∈xs,agS (opS an.keep tm rs1 x) (opS an.keep tm rs2 x))→capsA an.keep tm rs1 xs k=some r→∃ l,k l=some r∧∀ (R2:Type) (k2:List AVal→Option R2),capsA an.keep tm rs2 xs k2=k2 l
 |[],k,h,e=>⟨[],e,fun R2 k2=>rfl⟩
 |x::xs,k,h,e=>by
  simp only[capsA] at e
  obtain ⟨v,e,h2⟩:=asV_two (h x (by simp)) e
  obtain ⟨l,e,h3⟩:=capsA_two (fun p hp=>h p (by simp [hp])) e
  exact ⟨v::l,e,fun R2 k2=>by simp only[capsA,h2,h3]⟩
theorem optInt_two {x:Option Operand} {d:Int} {k:Int→Option R} (h:∀ y,x=some y→agS (opS an.keep tm rs1 y) (opS an.keep tm rs2 y)) (e:optInt an.keep tm rs1 x d k=some r):∃ n,k n=some r∧∀ (R2:Type) (k2:Int→Option R2),optInt an.keep tm rs2 x d k2=k2 n:=by
 cases x with
 |none=>exact ⟨d,e,fun R2 k2=>rfl⟩
 |some y =>
  simp only[optInt] at e
  obtain ⟨a,b,e,h2⟩:=asInt_two (h y rfl) e
  exact ⟨b,e,fun R2 k2=>by simp only[optInt,h2]⟩
theorem asPlace_two {x:Operand} {k:Place→Option R} (h:agS (opS an.keep tm rs1 x) (opS an.keep tm rs2 x)) (e:asPlace x (opS an.keep tm rs1 x) k=some r) :
  ∃ p,k p=some r∧(∀ (R2:Type) (k2:Place→Option R2),asPlace x (opS an.keep tm rs2 x) k2=k2 p)∧(∀ u y,p=.loc u y→x=.tmp u∨opS an.keep tm rs1 x=.ref u y):=by
 rcases h with h|⟨c1,c2,h1,h2⟩
 ·rw[h]
  unfold asPlace at e
  split at e
  ·split at e
   ·rename_i t hb
    exact ⟨_,e,fun R2 k2=>by simp only[asPlace,hb],fun u y he=>by cases he;exact .inl rfl⟩
   ·cases e
  ·rename_i hb
   exact ⟨_,e,fun R2 k2=>by simp only[asPlace,hb],fun u y he=>by cases he;exact .inr hb⟩
  ·rename_i hb
   exact ⟨_,e,fun R2 k2=>by simp only[asPlace,hb],fun u y he=>by cases he⟩
  ·rename_i hb
   exact ⟨_,e,fun R2 k2=>by simp only[asPlace,hb],fun u y he=>by cases he⟩
  ·cases e
 ·rw[h1] at e
  simp only[asPlace] at e
  split at e
  ·exact ⟨_,e,fun R2 k2=>by simp only[asPlace,h2],fun u y he=>by cases he;exact .inl rfl⟩
  ·cases e
theorem mem_rdS {x:Operand} {t:Nat} {o:Oper} (h:x=.tmp t) (hx:x∈o.op.operands.toList):t∈rdS ops o:=by
 subst h
 simp only[rdS,List.mem_append]
 left
 simp only[List.mem_filterMap]
 exact ⟨.tmp t,hx,rfl⟩
theorem opS_tmp {x:Operand} {rs:RS} {u y:Nat} (h:opS an.keep tm rs x=.ref u y):∃ t,x=.tmp t∧rs.look an.keep tm t=.ref u y:=by
 cases x with
 |tmp t=>exact ⟨t,rfl,h⟩
 |const v =>
  simp only[opS,constS] at h
  split at h
  ·cases h
  ·split at h <;> cases h
 |global=>simp [opS] at h
 |func=>simp [opS] at h
theorem two_build {t:TypeId} {parts:Array (Nat×Operand)} (h:Agr ans an tm ops prot tk ⟨dst,.build t parts,ty,pos,aft,gd⟩ rs1 rs2) (e:stepK P ans an true prot l cf tm tk ⟨dst,.build t parts,ty,pos,aft,gd⟩ rs1 kp k1=some r):Two P ans an tm ops prot tk cf ⟨dst,.build t parts,ty,pos,aft,gd⟩ rs1 rs2 k1 r:=by
 have hp:∀ p∈parts.toList,agS (opS an.keep tm rs1 p.2) (opS an.keep tm rs2 p.2):=fun p hp=>h.opd p.2 (by simp only[Op.operands,List.mem_map];exact ⟨p,hp,rfl⟩)
 simp only[stepK] at e
 obtain ⟨z,hz,e⟩:=bind_ok e
 split at e
 ·rename_i fs hu
  obtain ⟨l,e,h2⟩:=elemsA_two hp e
  obtain ⟨places,hpl,e⟩:=bind_ok e
  obtain ⟨cs,hf,e⟩:=bind_ok e
  exact .plain e (fun R2 kp2 k2=>by simp only[stepK,hz,hu,h2,hpl,hf,Option.bind_some]) (fun u x he=>by cases he)
 ·rename_i n el hu
  obtain ⟨l,e,h2⟩:=elemsA_two hp e
  obtain ⟨s,hs,e⟩:=bind_ok e
  obtain ⟨cs,hf,e⟩:=bind_ok e
  exact .plain e (fun R2 kp2 k2=>by simp only[stepK,hz,hu,h2,hs,hf,Option.bind_some]) (fun u x he=>by cases he)
 ·cases e
theorem two_buildSlice {t:TypeId} {len:Nat} {parts:Array (Nat×Operand)} (h:Agr ans an tm ops prot tk ⟨dst,.buildSlice t len parts,ty,pos,aft,gd⟩ rs1 rs2) (e:stepK P ans an true prot l cf tm tk ⟨dst,.buildSlice t len parts,ty,pos,aft,gd⟩ rs1 kp k1=some r):Two P ans an tm ops prot tk cf ⟨dst,.buildSlice t len parts,ty,pos,aft,gd⟩ rs1 rs2 k1 r:=by
 have hp:∀ p∈parts.toList,agS (opS an.keep tm rs1 p.2) (opS an.keep tm rs2 p.2):=fun p hp=>h.opd p.2 (by simp only[Op.operands,List.mem_map];exact ⟨p,hp,rfl⟩)
 simp only[stepK] at e
 obtain ⟨el,hel,e⟩:=bind_ok e
 obtain ⟨s,hs,e⟩:=bind_ok e
 obtain ⟨hg,e⟩:=guardB_ok e
 obtain ⟨l,e,h2⟩:=elemsA_two hp e
 obtain ⟨z,hz,e⟩:=bind_ok e
 obtain ⟨hg2,e⟩:=guardB_ok e
 obtain ⟨xs,hf,e⟩:=bind_ok e
 exact .plain e (fun R2 kp2 k2=>by simp only[stepK,hel,hs,guardB_true hg,h2,hz,guardB_true hg2,hf,Option.bind_some]) (fun u x he=>by cases he)
theorem two_makeFunc {fn:Fn} {first caps:Array Operand} (h:Agr ans an tm ops prot tk ⟨dst,.makeFunc fn first caps,ty,pos,aft,gd⟩ rs1 rs2) (e:stepK P ans an true prot l cf tm tk ⟨dst,.makeFunc fn first caps,ty,pos,aft,gd⟩ rs1 kp k1=some r):Two P ans an tm ops prot tk cf ⟨dst,.makeFunc fn first caps,ty,pos,aft,gd⟩ rs1 rs2 k1 r:=by
 have hp:∀ p∈caps.toList,agS (opS an.keep tm rs1 p) (opS an.keep tm rs2 p):=fun p hp=>h.opd p (by simp only[Op.operands,Array.toList_append,List.mem_append];exact .inr hp)
 simp only[stepK] at e
 split at e
 ·rename_i f hf
  obtain ⟨l,e,h2⟩:=capsA_two hp e
  exact .val e (fun R2 kp2 k2=>by simp only[stepK,hf,h2])
 ·cases e
theorem two_slice {t:TypeId} {x:Operand} {lo hi mx:Option Operand} (h:Agr ans an tm ops prot tk ⟨dst,.slice t x lo hi mx,ty,pos,aft,gd⟩ rs1 rs2) (e:stepK P ans an true prot l cf tm tk ⟨dst,.slice t x lo hi mx,ty,pos,aft,gd⟩ rs1 kp k1=some r):Two P ans an tm ops prot tk cf ⟨dst,.slice t x lo hi mx,ty,pos,aft,gd⟩ rs1 rs2 k1 r:=by
 have hx:=h.opd x (by simp [Op.operands])
 have hlo:∀ y,lo=some y→agS (opS an.keep tm rs1 y) (opS an.keep tm rs2 y):=fun y hy=>h.opd y (by subst hy;simp [Op.operands])
 have hhi:∀ y,hi=some y→agS (opS an.keep tm rs1 y) (opS an.keep tm rs2 y):=fun y hy=>h.opd y (by subst hy;simp [Op.operands])
 have hmx:∀ y,mx=some y→agS (opS an.keep tm rs1 y) (opS an.keep tm rs2 y):=fun y hy=>h.opd y (by subst hy;simp [Op.operands])
 simp only[stepK] at e
 split at e
 ·rename_i hu
  split at e
  ·rename_i s hb
   obtain ⟨a,e,h3⟩:=optInt_two hlo e
   obtain ⟨b,e,h4⟩:=optInt_two hhi e
   obtain ⟨hg,e⟩:=guardB_ok e
   have h2:=hx.eq (by rw[hb];simp)
   rw[hb] at h2
   exact .val e (fun R2 kp2 k2=>by simp only[stepK,hu,h2,h3,h4,guardB_true hg])
  ·cases e
 ·rename_i el hu
  obtain ⟨sz,hsz,e⟩:=bind_ok e
  obtain ⟨xs,e,h2⟩:=asSl_two hx e
  obtain ⟨a,e,h3⟩:=optInt_two hlo e
  obtain ⟨b,e,h4⟩:=optInt_two hhi e
  cases mx with
  |none =>
   simp only[sliceCut] at e
   obtain ⟨hg,e⟩:=guardB_ok e
   exact .val e (fun R2 kp2 k2=>by simp only[stepK,hu,hsz,Option.bind_some,h2,h3,h4,sliceCut,guardB_true hg];rfl)
  |some u =>
   simp only at e
   obtain ⟨ku,mm,e,h5⟩:=asInt_two (hmx u rfl) e
   obtain ⟨hg1,e⟩:=guardB_ok e
   cases hi with
   |none=>cases e
   |some z =>
    simp only[sliceCut] at e
    obtain ⟨hg,e⟩:=guardB_ok e
    exact .plain e (fun R2 kp2 k2=>by simp only[stepK,hu,hsz,Option.bind_some,h2,h3,h4,h5,guardB_true hg1,sliceCut,guardB_true hg,if_true]) (fun u x he=>by cases he)
 ·cases e
end Go.AM
end
