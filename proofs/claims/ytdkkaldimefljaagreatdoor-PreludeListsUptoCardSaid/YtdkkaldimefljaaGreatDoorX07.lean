import Derived.Test.YtdkkaldimefljaaGreatDoorX06
import Derived.RangeFuncLeaves
set_option linter.all false
section
namespace Go.AM
variable {P:Program} {ans:FuncId→Ann} {w:World} {B0:Nat} {Ψ:HT} {ρ:List Nat} {ow:Own} {tmps:Array Value}
variable {ds:List Deferred} {cf:Oracle} {lp:LpOracle} {fid:FuncId} {B1:Nat} {b:Frame} {cs:List Frame} {items:List Item} {st:St}
def DrawnOK (P:Program) (ans:FuncId→Ann) (cf:Oracle):Prop :=
 P.follows .mixedOrders=true∧∀ (R:Type) (fid:FuncId) (tm:List Slot) (rid:Nat) (ops:Array Oper) (kn:RS→Option R) (rs:RS) (r:R),drawOk ans (ans fid) rid ops=true→noX ans (ans fid) rid ops=true→noRef tm→rs.sc=[] →
  (∀ rs1 rs2:RS,(∀ t,alook rs1.sc t=alook rs2.sc t)→rs1.sto=rs2.sto→kn rs1=kn rs2)→opsS P ans (ans fid) true cf tm rid ops (fun _ _=>none) kn (List.range ops.size) rs=some r →
  ∀ t,opsS P ans (ans fid) true cf tm rid ops (fun _ _=>none) kn (Region.linearise .any ops t) rs=some r
def PrimCf (ans:FuncId→Ann) (cf:Oracle):Prop:=∀ f args,(ans f).prim=true→∃ o:Option Slot,(∀ s,o=some s→slotLok 0 s=true)∧∀ sto,cf (.fn f) args sto=o.map fun s=>(.ret s,sto)
theorem commit_congr (sc sc':List (Nat×Slot)) (h:∀ t,alook sc t=alook sc' t):∀ (ks:List Nat) (tm:List Slot),commit ks tm sc=commit ks tm sc'
 |[],tm=>by cases tm <;> rfl
 |k::ks,[]=>rfl
 |k::ks,s::ss=>by simp only[commit,h k,commit_congr sc sc' h ks ss]
theorem At.world {w1:World} (h:At P ans fid B0 w Ψ ρ ow st tmps) (e:w1.heap=w.heap):At P ans fid B0 w1 Ψ ρ ow st tmps:=⟨h.rel.heap e,h.nr,h.lo⟩
theorem XEnd.out {sto:Sto} {items':List Item} {m:Machine} {e:AExit} {st':St} (h:XEnd P ans fid B0 B1 w Ψ ρ ow sto b cs items' m e st') (he:e≠.norm) (hx:∀ id,e=.exit id→exitTo id items'=exitTo id items):XEnd P ans fid B0 B1 w Ψ ρ ow sto b cs items m e st':=by
 obtain ⟨w',Ψ',ρ',ow',tmps',ds',h1,h2,h3,h4,h5,h6⟩:=h
 refine ⟨w',Ψ',ρ',ow',tmps',ds',h1,h2,h3,h4,h5,?_⟩
 cases e with
 |norm=>exact absurd rfl he
 |exit id=>obtain ⟨k,a1,a2⟩:=h6;exact ⟨k,a1.trans (hx id rfl),a2⟩
 |ret=>exact h6
 |pan x=>exact h6
def XPan (P:Program) (ans:FuncId→Ann) (fid:FuncId) (B0 B1:Nat) (w:World) (Ψ:HT) (ρ:List Nat) (ow:Own) (st:St) (b:Frame) (cs:List Frame) (m:Machine) (tmps:Array Value) (x:AVal) (st':St):Prop :=
 ∃ sto' s0 w' Ψ' ρ' ow' ds',st'={ st with sto:=sto' }∧Rel P ans B0 w' Ψ' ρ' ow' (ans fid) (sl (ans fid) st.tm ⟨[],s0⟩) tmps sto'.objs∧Marks w' ow' B1 b ds'∧Fr w Ψ ow w' Ψ' ow'∧pre ρ ρ'∧StoLe st.sto sto' ∧
  ∃ v k,VRel Ψ' ρ' x v∧Steps P m (lone { b.atR ⟨tmps,ds'⟩ k with mode:=.panicking [{ v,recovered:=false }] } cs w')
theorem rangeFunc_okP (hcf:CfOK P ans B0 cf) {R:Type} {r:R} {K:AExit→St→Option R} {f:Operand} {params:Array Tmp} {assign body:Code} (hb:b.fn=fid) (hro:b.roundOf=none) (h:At P ans fid B0 w Ψ ρ ow st tmps) (hm:Marks w ow B1 b ds) (hB:B1≤w.heap.size)
  (e:XK P ans cf lp fid (.rangeFunc f params assign body) st K=some r):∃ ex st',K ex st'=some r∧XEnd P ans fid B0 B1 w Ψ ρ ow st.sto b cs items (lone (b.atR ⟨tmps,ds⟩ (.code (.rangeFunc f params assign body)::items)) cs w) ex st'∧∀ x,ex=.pan x→XPan P ans fid B0 B1 w Ψ ρ ow st b cs (lone (b.atR ⟨tmps,ds⟩ (.code (.rangeFunc f params assign body)::items)) cs w) tmps x st':=by
 simp only[XK] at e
 split at e
 case h_2=>cases e
 rename_i g caps hf
 obtain ⟨⟨res,sto'⟩,hc,e⟩:=bind_ok e
 obtain ⟨tf,hsf,_⟩:=opS_rel (ds:=ds) h.rel f
 rw[hf] at hsf
 generalize hgx:(⟨tmps,ds⟩:Act).eval f=vf at hsf
 cases hsf with
 |val _ _ hv =>
 cases hv with
 |func _ _ cv hcl hcv =>
 let rec0:Loop:={ state:=.ready,pending:=none,fn:=b.fn,tmps:=tmps,params:=params,assign:=assign,body:=body,defers:=w.heap.size }
 let w1:=w.alloc (.deferred (some []))
 let w2:=w1.alloc (.loop rec0)
 let n:=st.sto.objs.length
 let l:=w.heap.size+1
 let al:ALoop:=⟨fid,st.tm.map snapSlot,params,assign,body,none,.ready⟩
 have hsz1:w1.heap.size=w.heap.size+1:=by simp [w1]
 have hoo:oset ow w.heap.size none=ow:=by
  funext b;unfold oset;split
  ·subst_vars
   cases e1:ow w.heap.size with
   |none=>rfl
   |some y=>have:=h.rel.lt w.heap.size (by simp [e1]);omega
  ·rfl
 have hR1:=h.rel.alloc (o:=.deferred (some [])) (τ:=fun _=>none) (id:=none) (fun off c hc=>by cases hc)
 have hF1:=Fr.alloc (ow:=ow) (o:=.deferred (some [])) (τ:=fun _=>none) (id:=none) h.rel.wsat
 rw[hset_none h.rel.wsat,hoo] at hR1 hF1
 change Rel P ans B0 w1 Ψ ρ ow (ans fid) _ tmps st.sto.objs at hR1
 change Fr w Ψ ow w1 Ψ ow at hF1
 have hρl:ρ.length=n:=h.rel.objs.1
 have hnew:ORel w2 B0 Ψ (ρ++[w1.heap.size]) (oset ow w1.heap.size (some (true,n,0))) ans n (.loop al) w1.heap.size:=by
  refine .loop al _ rec0 (heap_alloc_new _) (by simp [oset]) hR1.base (hR1.wsat.none_of_ge (Nat.le_refl _)) ⟨rfl,rfl,hb,rfl,rfl,rfl,h.rel.size,fun t=>?_,fun s hs=>?_,fun t ht=>?_⟩
  ·show SRel w2 0 Ψ _ _ tmps t (tlook (ans fid).keep (st.tm.map snapSlot) t) (tmps.getD t undef)
   rw[tlook_map _ rfl]
   refine (h.rel.slots t).snap Ψ.le_refl ?_
   rw[List.take_of_length_le (by simp [hρl])];exact pre_append _ _
  ·obtain ⟨s0,_,rfl⟩:=List.mem_map.1 hs;exact snap_snap s0
  ·show tlook (ans fid).keep (st.tm.map snapSlot) t=.dead
   rw[tlook_map _ rfl]
   have:=h.rel.hi t ht
   rw[show tlook (ans fid).keep st.tm t=.dead from this];rfl
 obtain ⟨hR2,hF2⟩:=newObj_ok (ob:=.loop al) (o:=.loop rec0) hR1 ow (fun b hb=>hb) (fun kk i _=>Same.refl _ _ _ _ _) hnew
 change Rel P ans B0 w2 Ψ (ρ++[w1.heap.size]) _ (ans fid) _ tmps (st.sto.objs++[AObj.loop al]) at hR2
 change Fr w1 Ψ ow w2 Ψ _ at hF2
 rw[hsz1] at hR2 hF2
 have hFw:Fr w Ψ ow w2 Ψ (oset ow l (some (true,n,0))):=hF1.trans hF2
 let sto1:Sto:={ st.sto with objs:=st.sto.objs++[.loop al] }
 let ow2:=oset ow l (some (true,n,0))
 have hR2':Rel P ans B0 w2 Ψ (ρ++[l]) ow2 (ans fid) (sl (ans fid) st.tm ⟨[],sto1⟩) tmps sto1.objs:=hR2
 have hyl:(ρ++[l])[n]?=some l:=by rw[List.getElem?_append_right (by rw[hρl];exact Nat.le_refl _)];simp [hρl]
 have hpre:=argsPre (ds:=ds) hR2' sto1 rfl (by show st.sto.lo≤(st.sto.objs++[AObj.loop al]).length;have:=h.lo;simp;omega) (l:=[.val (.yld n)]) (xs:=[.const (.func (.yield l) #[] #[])]) rfl (by simp [Slot.free])
  (fun j s x hj hx=>by
   cases j with
   |zero=>simp at hj hx;subst hj;subst hx;exact .val _ _ (.yld n l hyl)
   |succ j=>simp at hj) hcl (fun i c v h1 h2=>(hcv i c v h1 h2).mono Ψ.le_refl (pre_append _ _))
 let mk:List Deferred:=[{ target:=.collected w.heap.size,args:=#[] }]
 let fr:Frame:=b.atR ⟨tmps,mk++ds⟩ (.inRangeFunc l::items)
 obtain ⟨F,hF1',hF2',hF3'⟩:=(hcf.fn _ _ _ _ _ hc).1
 obtain ⟨w',Ψ',ρ',owr,hFc,hpc,hwc,hoc,hltc,hsc,hres⟩:=(hcf.fn _ _ _ _ _ hc).2 w2 Ψ (ρ++[l]) _ _ hpre fr cs
 obtain ⟨hR3,hF3⟩:=callBack hR2' hFc hpc hwc hpc hoc hltc
 have hstep:step P (lone (b.atR ⟨tmps,ds⟩ (.code (.rangeFunc f params assign body)::items)) cs w)=.next (lone (Frame.enter P g ⟨[.func (.yield l) #[] #[]]++cv⟩ .normal) (fr::cs) w2):=by
  obtain ⟨bd,hbd⟩:=Option.isSome_iff_exists.1 hF2'
  refine stepR_rangeFunc (a:=⟨tmps,ds⟩) (l:=l) (mark:=mk) (w₁:=w2) (w₁':=w2) (d:=⟨.fn (.func g) ⟨cv⟩,#[.func (.yield l) #[] #[]]⟩) ?_ ?_ ?_
  ·rw[hro,run_enterLoop_outer]
  ·simp [resolve,hgx,Deferred.ofValue,rangeCall];rfl
  ·simp [invoke,callFunc,hF1',hF3',hbd]
 have hmarks:Marks w' (owOut (ans fid).nt ow2 owr) B1 b (mk++ds):=by
  obtain ⟨ms,hds,hm⟩:=hm
  refine ⟨mk++ms,by rw[hds,List.append_assoc],?_⟩
  have h2:MarksL w2 ow2 B1 (mk++ms):=by
   have h1:MarksL w2 ow2 B1 ms:=hm.mono hFw
   refine ⟨fun d hd=>?_,?_⟩
   ·rcases List.mem_append.1 hd with hd|hd
    ·simp only[mk,List.mem_singleton] at hd
     subst hd
     refine ⟨w.heap.size,rfl,?_,?_,hB⟩
     ·exact (heap_alloc_old _ (by rw[hsz1];omega)).trans (heap_alloc_new _)
     ·show oset ow l _ w.heap.size=none
      unfold oset
      rw[if_neg (by show ¬ w.heap.size=w.heap.size+1;omega)]
      cases e1:ow w.heap.size with
      |none=>rfl
      |some y=>have:=h.rel.lt w.heap.size (by simp [e1]);omega
    ·exact h1.all d hd
   ·refine List.pairwise_append.2 ⟨by simp [mk],h1.nodup,fun d hd d' hd' he=>?_⟩
    simp only[mk,List.mem_singleton] at hd
    subst hd
    obtain ⟨D,g1,g2,_⟩:=hm.all d' hd'
    rw[g1] at he
    have:=(Array.getElem?_eq_some_iff.1 g2).1
    cases he
    omega
  exact h2.mono hF3
 cases res with
 |pan x =>
  obtain ⟨v,hv,hsteps⟩:=hres
  have hsl:StoLe st.sto sto':=⟨hsc.lo,by have:=hsc.len;simp [sto1] at this;show st.sto.objs.length≤sto'.objs.length;omega,fun i hi=>by
   rw[hsc.keep i hi];show (st.sto.objs++[AObj.loop al])[i]?=_;rw[List.getElem?_append_left (by have:=h.lo;omega)]⟩
  refine ⟨.pan x,{ st with sto:=sto' },e,⟨w',Ψ',ρ',_,tmps,mk++ds,⟨hR3.wsat,hR3.objs,hR3.lt⟩,hmarks,hFw.trans hF3,pre_trans (pre_append _ _) hpc,hsl,v,_,hv,(Steps.one hstep).trans hsteps⟩,fun y hy=>?_⟩
  cases hy
  exact ⟨sto',_,w',Ψ',ρ',_,mk++ds,rfl,hR3,hmarks,hFw.trans hF3,pre_trans (pre_append _ _) hpc,hsl,v,_,hv,(Steps.one hstep).trans hsteps⟩
 |ret s =>
  obtain ⟨_,v,_,hsteps⟩:=hres
  simp only at e
  split at e
  case h_2=>cases e
  rename_i al' hal'
  obtain ⟨bl,hbl,hor⟩:=hR3.objs.2 n _ hal'
  have hbl':bl=l:=by
   have:=hpc n l hyl
   rw[hbl] at this;exact Option.some.inj this
  subst hbl'
  cases hor with
  |loop _ _ rr hrr ho0 h00 hff hlr =>
  have fin:∀ (jump:Option Code) (ex:AExit),al'.state≠.busy→al'.pend=jump→K ex { st with sto:={ sto' with objs:=sto'.objs.take n } }=some r →
    (∀ (w3:World),Arr P Ψ' ρ b cs items (lone (b.atR ⟨tmps,mk++ds⟩ ((jump.map Item.code).toList++items)) cs w3) tmps (mk++ds) w3 ex)→(∀ x,ex≠.pan x) →
    ∃ ex st',K ex st'=some r∧XEnd P ans fid B0 B1 w Ψ ρ ow st.sto b cs items (lone (b.atR ⟨tmps,ds⟩ (.code (.rangeFunc f params assign body)::items)) cs w) ex st'∧∀ x,ex=.pan x→XPan P ans fid B0 B1 w Ψ ρ ow st b cs (lone (b.atR ⟨tmps,ds⟩ (.code (.rangeFunc f params assign body)::items)) cs w) tmps x st':=fun jump ex hbusy hjump hK harr hnp=>by
   let w3:=w'.putObj l (.loop { rr with state:=.exhausted })
   have hend:(Instr.endLoop l).run P w'=.ok jump w3:=by
    rw[show jump=rr.pending by rw[hlr.pend,hjump]]
    exact run_endLoop hrr (by rw[hlr.state];exact hbusy)
   have hstep2:=stepR_endRangeFunc (P:=P) (b:=b) (a:=⟨tmps,mk++ds⟩) (k:=items) (cs:=cs) hend
   have hρ'l:ρ'.length=sto'.objs.length:=hR3.objs.1
   have hnl:n+1≤sto'.objs.length:=by have:=hsc.len;simp [sto1] at this;exact this
   have hpρ:pre ρ ρ':=pre_trans (pre_append _ _) hpc
   have htake:ρ'.take n=ρ:=by rw[pre_take_eq hpρ (by omega),List.take_of_length_le (by omega)]
   have hos:=hR3.objs.front n (by omega)
   rw[htake] at hos
   have same:∀ kk i,¬ (kk=true∧i=n)→Same w' Ψ' (owOut (ans fid).nt ow2 owr) w3 Ψ' (owOut (ans fid).nt ow2 owr) kk i kk i:=fun kk i hk b' s hb' =>
    ⟨hb',World.putObj_heap_other (fun e=>by subst e;rw[ho0] at hb';simp only[Option.some.injEq,Prod.mk.injEq] at hb';exact hk ⟨hb'.1.symm,hb'.2.1.symm⟩),fun _ h=>h⟩
   have hlt3:∀ x,owOut (ans fid).nt ow2 owr x≠none→x < w3.heap.size:=fun x hx=>by
    have:=hR3.lt x hx
    simpa [w3] using this
   have hR4:Rel P ans B0 w3 Ψ' ρ (owOut (ans fid).nt ow2 owr) (ans fid) (sl (ans fid) st.tm ⟨[],{ sto' with objs:=sto'.objs.take n }⟩) tmps (sto'.objs.take n):=by
    refine ⟨h.rel.size,hR3.wsat.put hff,fun u=>?_,h.rel.refs,h.rel.boxes,?_,hlt3,by have:=hR3.base;simpa [w3] using this,h.rel.hi⟩
    ·have hF:Fr w Ψ ow w' Ψ' (owOut (ans fid).nt ow2 owr):=hFw.trans hF3
     have hsl:=h.rel.slots u
     rcases Nat.lt_or_ge u (ans fid).nt with hu|hu
     ·refine hsl.mono hF.le (pre_refl _) (fun b' s hb'=>?_) (fun _ _ _=>rfl)
      have hb2:ow2 b'=some (false,u,s):=by
       have hlt:=h.rel.lt b' (by simp [hb'])
       show oset ow l _ b'=_
       unfold oset;rw[if_neg (by show ¬ b'=w.heap.size+1;omega)];exact hb'
      have hbl':=h.rel.lt b' (by simp [hb'])
      have hb2lt:b' < w2.heap.size:=Nat.lt_of_lt_of_le hbl' hFw.size
      have hin:owIn (ans fid).nt ow2 b'=none:=by
       simp only[owIn,hb2];rw[if_neg (by omega)]
      have hr0:owr b'=none:=by
       cases e2:owr b' with
       |none=>rfl
       |some x=>rcases hFc.own b' (by simp [e2]) with h5|h5
                ·exact absurd hin h5
                ·omega
      have hk:=hFc.keep b' hb2lt hin
      have hbne:b'≠l:=by show b'≠w.heap.size+1;omega
      refine ⟨by simp [owOut,hr0,hb2,hu],?_,fun o ho=>?_⟩
      ·rw[show w3.heap[b']?=w'.heap[b']? from World.putObj_heap_other hbne,hk.1]
       exact (heap_alloc_old _ (by rw[hsz1];omega)).trans (heap_alloc_old _ hbl')
      ·rw[hk.2 o];exact ho
     ·show SRel w3 B0 Ψ' ρ (owOut (ans fid).nt ow2 owr) tmps u (sl (ans fid) st.tm ⟨[],st.sto⟩ u) (tmps.getD u undef)
      rw[h.rel.hi u hu];exact .dead _
    ·exact hos.mono Ψ'.le_refl fun i hi=>same true i (by simp at hi;simp;omega)
   have hFr4:Fr w' Ψ' (owOut (ans fid).nt ow2 owr) w3 Ψ' (owOut (ans fid).nt ow2 owr):=Fr.put (by simp [ho0]) (fun _ h=>h)
   have hatE:AtE P ans fid B0 w3 Ψ' ρ (owOut (ans fid).nt ow2 owr) { st with sto:={ sto' with objs:=sto'.objs.take n } } tmps ex:=by
    have hA:At P ans fid B0 w3 Ψ' ρ (owOut (ans fid).nt ow2 owr) { st with sto:={ sto' with objs:=sto'.objs.take n } } tmps:=⟨hR4,h.nr,by
     show sto'.lo≤(sto'.objs.take n).length
     have h1:=hsc.lo;have h2:=h.lo
     rw[List.length_take,show min n sto'.objs.length=n by omega,h1];exact h2⟩
    cases ex with
    |pan x=>exact absurd rfl (hnp x)
    |norm=>exact hA
    |exit=>exact hA
    |ret=>exact hA
   refine ⟨ex,_,hK,⟨w3,Ψ',ρ,_,tmps,mk++ds,hatE,hmarks.mono hFr4,(hFw.trans hF3).trans hFr4,pre_refl _,⟨hsc.lo,by simp;omega,fun i hi=>?_⟩,?_⟩,fun x hx=>absurd hx (hnp x)⟩
   ·show (sto'.objs.take n)[i]?=_
    have:=h.lo
    rw[List.getElem?_take,if_pos (by omega),hsc.keep i hi]
    show (st.sto.objs++[AObj.loop al])[i]?=_
    rw[List.getElem?_append_left (by omega)]
   ·refine (harr w3).head ((Steps.one hstep).trans (hsteps.trans ?_))
    rw[show fr.finish v=b.atR ⟨tmps,mk++ds⟩ (.endRangeFunc l::items) from finish_atR_inRangeFunc l v]
    exact .one hstep2
  split at e
  ·rename_i hs hp
   exact fin none .norm (by rw[hs];simp) hp e (fun w3=>Steps.refl _ _) (by simp)
  ·rename_i hs hp
   exact fin (some .ret) .ret (by rw[hs];simp) hp e (fun w3=>⟨items,Steps.refl _ _⟩) (by simp)
  ·rename_i id hs hp
   exact fin (some (.exit id)) (.exit id) (by rw[hs];simp) hp e (fun w3=>⟨items,rfl,Steps.refl _ _⟩) (by simp)
  ·cases e
theorem rangeFunc_ok (hcf:CfOK P ans B0 cf) {R:Type} {r:R} {K:AExit→St→Option R} {f:Operand} {params:Array Tmp} {assign body:Code} (hb:b.fn=fid) (hro:b.roundOf=none) (h:At P ans fid B0 w Ψ ρ ow st tmps) (hm:Marks w ow B1 b ds) (hB:B1≤w.heap.size)
  (e:XK P ans cf lp fid (.rangeFunc f params assign body) st K=some r):∃ ex st',K ex st'=some r∧XEnd P ans fid B0 B1 w Ψ ρ ow st.sto b cs items (lone (b.atR ⟨tmps,ds⟩ (.code (.rangeFunc f params assign body)::items)) cs w) ex st':=by
 obtain ⟨ex,st',h1,h2,_⟩:=rangeFunc_okP (items:=items) (cs:=cs) hcf hb hro h hm hB e
 exact ⟨ex,st',h1,h2⟩
theorem XK_ok (hcf:CfOK P ans B0 cf) (hlp:LpOK P ans B0 lp) (hdr:DrawnOK P ans cf) {R:Type} {r:R}:∀ (c:Code) {K:AExit→St→Option R} {st:St} {w:World} {Ψ:HT} {ρ:List Nat} {ow:Own} {tmps:Array Value} {ds:List Deferred} {items:List Item},b.fn=fid→(b.roundOf=none∨noRange c=true)→At P ans fid B0 w Ψ ρ ow st tmps→Marks w ow B1 b ds→B1≤w.heap.size →
  XK P ans cf lp fid c st K=some r→∃ e st',K e st'=some r∧XEnd P ans fid B0 B1 w Ψ ρ ow st.sto b cs items (lone (b.atR ⟨tmps,ds⟩ (.code c::items)) cs w) e st'
 |.skip,K,st,w,Ψ,ρ,ow,tmps,ds,items,hb,hr,h,hm,hB,e=>⟨.norm,st,e,w,Ψ,ρ,ow,tmps,ds,h,hm,Fr.refl _ _ _,pre_refl _,StoLe.refl _,.one stepR_skip⟩
 |.label l,K,st,w,Ψ,ρ,ow,tmps,ds,items,hb,hr,h,hm,hB,e=>⟨.norm,st,e,w,Ψ,ρ,ow,tmps,ds,h,hm,Fr.refl _ _ _,pre_refl _,StoLe.refl _,.one stepR_label⟩
 |.exit id,K,st,w,Ψ,ρ,ow,tmps,ds,items,hb,hr,h,hm,hB,e=>⟨.exit id,st,e,w,Ψ,ρ,ow,tmps,ds,h,hm,Fr.refl _ _ _,pre_refl _,StoLe.refl _,items,rfl,Steps.refl _ _⟩
 |.ret,K,st,w,Ψ,ρ,ow,tmps,ds,items,hb,hr,h,hm,hB,e=>⟨.ret,st,e,w,Ψ,ρ,ow,tmps,ds,h,hm,Fr.refl _ _ _,pre_refl _,StoLe.refl _,items,Steps.refl _ _⟩
 |.seq x y,K,st,w,Ψ,ρ,ow,tmps,ds,items,hb,hr,h,hm,hB,e=>by
  simp only[XK] at e
  have hrx:b.roundOf=none∨noRange x=true:=hr.imp id fun h=>by simp only[noRange,Bool.and_eq_true] at h;exact h.1
  have hry:b.roundOf=none∨noRange y=true:=hr.imp id fun h=>by simp only[noRange,Bool.and_eq_true] at h;exact h.2
  obtain ⟨e1,st1,h1,hx⟩:=XK_ok hcf hlp hdr x (items:=.code y::items) hb hrx h hm hB e
  have hx:=hx.head (.one stepR_seq)
  cases e1 with
  |norm =>
   obtain ⟨w1,Ψ1,ρ1,ow1,tmps1,ds1,a1,a2,a3,a4,a5,a6⟩:=hx
   obtain ⟨e2,st2,h2,hy⟩:=XK_ok hcf hlp hdr y (items:=items) hb hry a1 a2 (Nat.le_trans hB a3.size) h1
   exact ⟨e2,st2,h2,(hy.pre a3 a4 a5).head a6⟩
  |exit id=>exact ⟨_,_,h1,hx.out (by simp) (fun id' _=>rfl)⟩
  |ret=>exact ⟨_,_,h1,hx.out (by simp) (fun id' _=>rfl)⟩
  |pan v=>exact ⟨_,_,h1,hx.out (by simp) (fun id' _=>rfl)⟩
 |.cond c x y,K,st,w,Ψ,ρ,ow,tmps,ds,items,hb,hr,h,hm,hB,e=>by
  simp only[XK] at e
  obtain ⟨tc,hsc,_⟩:=opS_rel (ds:=ds) h.rel c
  obtain ⟨t,e,hv,_⟩:=asBool_ok hsc e
  have hrx:b.roundOf=none∨noRange x=true:=hr.imp id fun h=>by simp only[noRange,Bool.and_eq_true] at h;exact h.1
  have hry:b.roundOf=none∨noRange y=true:=hr.imp id fun h=>by simp only[noRange,Bool.and_eq_true] at h;exact h.2
  have hs:=stepR_cond (P:=P) (b:=b) (a:=⟨tmps,ds⟩) (k:=items) (cs:=cs) (w:=w) (x:=x) (y:=y) hv
  cases t with
  |true =>
   obtain ⟨e2,st2,h2,hy⟩:=XK_ok hcf hlp hdr x (items:=items) hb hrx h hm hB e
   exact ⟨e2,st2,h2,hy.head (.one hs)⟩
  |false =>
   obtain ⟨e2,st2,h2,hy⟩:=XK_ok hcf hlp hdr y (items:=items) hb hry h hm hB e
   exact ⟨e2,st2,h2,hy.head (.one hs)⟩
 |.block id c,K,st,w,Ψ,ρ,ow,tmps,ds,items,hb,hr,h,hm,hB,e=>by
  simp only[XK] at e
  have hrc:b.roundOf=none∨noRange c=true:=hr.imp (fun h=>h) fun h=>by simpa only [noRange] using h
  obtain ⟨e1,st1,h1,hx⟩:=XK_ok hcf hlp hdr c (items:=.inBlock id::items) hb hrc h hm hB e
  have hx:=hx.head (.one stepR_block)
  cases e1 with
  |norm =>
   obtain ⟨w1,Ψ1,ρ1,ow1,tmps1,ds1,a1,a2,a3,a4,a5,a6⟩:=hx
   exact ⟨.norm,st1,h1,w1,Ψ1,ρ1,ow1,tmps1,ds1,a1,a2,a3,a4,a5,Steps.trans a6 (.one stepR_inBlock)⟩
  |exit id' =>
   simp only at h1
   cases hid:Nat.beq id' id with
   |true =>
    rw[hid] at h1
    have hid':=Nat.eq_of_beq_eq_true hid
    subst hid'
    obtain ⟨w1,Ψ1,ρ1,ow1,tmps1,ds1,a1,a2,a3,a4,a5,k,a6,a7⟩:=hx
    refine ⟨.norm,st1,h1,w1,Ψ1,ρ1,ow1,tmps1,ds1,a1,a2,a3,a4,a5,Steps.trans a7 (.one (stepR_exit ?_))⟩
    rw[a6];simp [exitTo]
   |false =>
    rw[hid] at h1
    refine ⟨_,_,h1,hx.out (by simp) (fun id2 he=>?_)⟩
    cases he
    have:¬ id=id':=fun h=>by subst h;rw[show Nat.beq id id=true from Nat.beq_refl id] at hid;cases hid
    simp [exitTo,this]
  |ret=>exact ⟨_,_,h1,hx.out (by simp) (fun id' he=>by cases he)⟩
  |pan v=>exact ⟨_,_,h1,hx.out (by simp) (fun id' he=>by cases he)⟩
 |.scope c,K,st,w,Ψ,ρ,ow,tmps,ds,items,hb,hr,h,hm,hB,e=>by
  simp only[XK] at e
  have hrc:b.roundOf=none∨noRange c=true:=hr.imp (fun h=>h) fun h=>by simpa only [noRange] using h
  obtain ⟨e1,st1,h1,hx⟩:=XK_ok hcf hlp hdr c (items:=.inScope c::items) hb hrc h hm hB e
  have hx:=hx.head (.one stepR_scope)
  cases e1 with
  |norm =>
   obtain ⟨w1,Ψ1,ρ1,ow1,tmps1,ds1,a1,a2,a3,a4,a5,a6⟩:=hx
   exact ⟨.norm,st1,h1,w1,Ψ1,ρ1,ow1,tmps1,ds1,a1,a2,a3,a4,a5,Steps.trans a6 (.one stepR_inScope)⟩
  |exit id'=>exact ⟨_,_,h1,hx.out (by simp) (fun id' _=>rfl)⟩
  |ret=>exact ⟨_,_,h1,hx.out (by simp) (fun id' he=>by cases he)⟩
  |pan v=>exact ⟨_,_,h1,hx.out (by simp) (fun id' he=>by cases he)⟩
 |.loop c,K,st,w,Ψ,ρ,ow,tmps,ds,items,hb,hr,h,hm,hB,e=>by
  simp only[XK] at e
  obtain ⟨⟨e1,st1⟩,hl,e⟩:=bind_ok e
  have hrc:b.roundOf=none∨noRange c=true:=hr.imp (fun h=>h) fun h=>by simpa only [noRange] using h
  obtain ⟨hA,hs⟩:=h.head c
  have:=hlp _ _ _ _ _ hl B1 w Ψ ρ ow tmps ds b cs items hb hrc hA hm hB
  rw[hs] at this
  exact ⟨e1,st1,e,this.head (.one stepR_loop)⟩
 |.region id ops false,K,st,w,Ψ,ρ,ow,tmps,ds,items,hb,hr,h,hm,hB,e=>by
  simp only[XK] at e
  rw[opsK_range] at e
  rcases opsS_ok (ds:=ds) (b:=b) (items:=items) (cs:=cs) hcf h.nr (rs:=⟨[],st.sto⟩) h.rel h.lo e with ⟨rs',w',Ψ',ρ',ow',tmps',a1,a2,a3,a4,a5,a6⟩|⟨x,rs',v,w',Ψ',ρ',ow',tmps',todo',a1,a2,a3,a4,a5,a6,a7⟩
  ·exact ⟨.norm,_,a1,w',Ψ',ρ',ow',tmps',ds,At.commit h.nr a2 (by rw[a5.lo];exact Nat.le_trans h.lo a5.len) rfl,hm.mono a3,a3,a4,a5,(Steps.one stepR_region).trans (a6.trans (.one stepR_region_end))⟩
  ·exact ⟨.pan x,_,a1,w',Ψ',ρ',ow',tmps',ds,⟨a2.wsat,a2.objs,a2.lt⟩,hm.mono a4,a4,a5,a6,v,todo',a3,(Steps.one stepR_region).trans a7⟩
 |.region id ops true,K,st,w,Ψ,ρ,ow,tmps,ds,items,hb,hr,h,hm,hB,e=>by
  simp only[XK] at e
  obtain ⟨hg,e⟩:=guardB_ok e
  simp only[Bool.and_eq_true] at hg
  rw[opsK_range] at e
  have e:=hdr.2 R fid st.tm id ops _ ⟨[],st.sto⟩ r hg.1 hg.2 h.nr rfl (fun rs1 rs2 h1 h2=>by rw[commit_congr _ _ h1,h2]) e (w.tape w.drawn (.order b.fn id))
  rw[show Region.linearise .any ops (w.tape w.drawn (.order b.fn id))=Region.schedule (P.follows .mixedOrders) ops (w.tape w.drawn (.order b.fn id)) by simp [Region.schedule,hdr.1]] at e
  let w1:World:={ w with drawn:=w.drawn+1 }
  have hw1:w1.heap=w.heap:=rfl
  have hF1:Fr w Ψ ow w1 Ψ ow:=Fr.heap rfl rfl rfl rfl
  have h1:=h.world hw1
  rcases opsS_ok (ds:=ds) (b:=b) (items:=items) (cs:=cs) hcf h.nr (rs:=⟨[],st.sto⟩) h1.rel h1.lo e with ⟨rs',w',Ψ',ρ',ow',tmps',a1,a2,a3,a4,a5,a6⟩|⟨x,rs',v,w',Ψ',ρ',ow',tmps',todo',a1,a2,a3,a4,a5,a6,a7⟩
  ·exact ⟨.norm,_,a1,w',Ψ',ρ',ow',tmps',ds,At.commit h.nr a2 (by rw[a5.lo];exact Nat.le_trans h.lo a5.len) rfl,hm.mono (hF1.trans a3),hF1.trans a3,a4,a5,(Steps.one stepR_region_draw).trans (a6.trans (.one stepR_region_end))⟩
  ·cases a1
 |.rangeFunc f params assign body,K,st,w,Ψ,ρ,ow,tmps,ds,items,hb,hr,h,hm,hB,e=>by
  refine rangeFunc_ok hcf hb (hr.resolve_right (by simp [noRange])) h hm hB e
 |.goto _,K,st,w,Ψ,ρ,ow,tmps,ds,items,hb,hr,h,hm,hB,e=>by simp [XK] at e
 |.refuse _,K,st,w,Ψ,ρ,ow,tmps,ds,items,hb,hr,h,hm,hB,e=>by simp [XK] at e
theorem loopStep_ok (hcf:CfOK P ans B0 cf) (hlp:LpOK P ans B0 lp) (hdr:DrawnOK P ans cf):LpOK P ans B0 (loopStep P ans cf lp):=by
 intro fid c st e st' hl B1 w Ψ ρ ow tmps ds b cs items hb hr h hm hB
 obtain ⟨e1,st1,h1,hx⟩:=XK_ok hcf hlp hdr c (b:=b) (cs:=cs) (items:=.inLoop c::items) hb hr h hm hB hl
 cases e1 with
 |norm =>
  obtain ⟨w1,Ψ1,ρ1,ow1,tmps1,ds1,a1,a2,a3,a4,a5,a6⟩:=hx
  obtain ⟨hA,hs⟩:=At.head a1 c
  have:=hlp _ _ _ _ _ h1 B1 w1 Ψ1 ρ1 ow1 tmps1 ds1 b cs items hb hr hA a2 (Nat.le_trans hB a3.size)
  rw[hs] at this
  exact (this.pre a3 a4 a5).head (Steps.trans a6 (.one stepR_inLoop))
 |exit id=>simp only[Option.some.injEq,Prod.mk.injEq] at h1;obtain ⟨rfl,rfl⟩:=h1;exact hx.out (by simp) (fun id' _=>rfl)
 |ret=>simp only[Option.some.injEq,Prod.mk.injEq] at h1;obtain ⟨rfl,rfl⟩:=h1;exact hx.out (by simp) (fun id' _=>rfl)
 |pan v=>simp only[Option.some.injEq,Prod.mk.injEq] at h1;obtain ⟨rfl,rfl⟩:=h1;exact hx.out (by simp) (fun id' _=>rfl)
end Go.AM
end
section
namespace Go.AM
variable {P:Program} {ans:FuncId→Ann} {w:World} {B0:Nat} {Ψ:HT} {ρ:List Nat} {ow:Own} {tmps:Array Value}
variable {ds:List Deferred} {cf:Oracle} {lp:LpOracle} {fid:FuncId} {B1:Nat} {b:Frame} {cs:List Frame} {items:List Item} {st:St}
theorem marks_popL {base:List Deferred}:∀ {ds:List Deferred} {w:World} {fr:Frame},MarksL w ow B1 ds→fr.mode≠.run→fr.defers=ds++base →
  ∃ w',Steps P (lone fr cs w) (lone { fr with defers:=base } cs w')∧w'.heap.size=w.heap.size∧(∀ x,(x < B1∨ow x≠none∨∃ o v,w.cell? ⟨x,o,none⟩=some v)→w'.heap[x]?=w.heap[x]?)∧w'.os=w.os∧w'.tape=w.tape∧w'.output=w.output
 |[],w,fr,h,hm,hd=>⟨w,by rw[show ({ fr with defers:=base }:Frame)=fr by rw[show base=fr.defers from hd.symm]];exact Steps.refl _ _,rfl,fun _ _=>rfl,rfl,rfl,rfl⟩
 |d::ds,w,fr,h,hm,hd=>by
  obtain ⟨D,h1,h2,h3,h4⟩:=h.all d (by simp)
  have hlt:D < w.heap.size:=(Array.getElem?_eq_some_iff.1 h2).1
  have hstep:=step_collected (P:=P) (cs:=cs) hm hd h1 (run_takeDeferred h2)
  let w1:=w.putObj D (.deferred none)
  have hM:MarksL w1 ow B1 ds:=by
   have hn:=List.pairwise_cons.1 h.nodup
   refine ⟨fun d' hd'=>?_,hn.2⟩
   obtain ⟨D',g1,g2,g3,g4⟩:=h.all d' (by simp [hd'])
   refine ⟨D',g1,?_,g3,g4⟩
   rw[World.putObj_heap_other];exact g2
   intro he;subst he
   exact hn.1 d' hd' (by rw[h1,g1])
  obtain ⟨w',a1,a2,a3,a4,a5,a6⟩:=marks_popL (base:=base) (fr:={ fr with defers:=ds++base }) hM hm rfl
  refine ⟨w',(Steps.one hstep).trans a1,by rw[a2];simp [w1],fun x hx=>?_,a4,a5,a6⟩
  have hxD:x≠D:=by
   rintro rfl
   rcases hx with hx|hx|⟨o,v,hx⟩
   ·omega
   ·exact hx h3
   ·simp [World.cell?,h2] at hx
  have hw1:w1.heap[x]?=w.heap[x]?:=World.putObj_heap_other hxD
  rw[a3 x,hw1]
  rcases hx with hx|hx|⟨o,v,hx⟩
  ·exact .inl hx
  ·exact .inr (.inl hx)
  ·exact .inr (.inr ⟨o,v,by rw[cell_congr hw1];exact hx⟩)
theorem marks_pop {b:Frame} {ds:List Deferred} {w:World} {fr:Frame} (h:Marks w ow B1 b ds) (hm:fr.mode≠.run) (hd:fr.defers=ds) :
  ∃ w',Steps P (lone fr cs w) (lone { fr with defers:=b.defers } cs w')∧w'.heap.size=w.heap.size∧(∀ x,(x < B1∨ow x≠none∨∃ o v,w.cell? ⟨x,o,none⟩=some v)→w'.heap[x]?=w.heap[x]?)∧w'.os=w.os∧w'.tape=w.tape∧w'.output=w.output:=by
 obtain ⟨ms,h1,h2⟩:=h
 exact marks_popL h2 hm (hd.trans h1)
theorem Rest.kept {sto:Sto} {w':World} (h:Rest ans B0 w Ψ ρ ow sto) (hs:w'.heap.size=w.heap.size) (hk:∀ x,(x < B1∨ow x≠none∨∃ o v,w.cell? ⟨x,o,none⟩=some v)→w'.heap[x]?=w.heap[x]?):Rest ans B0 w' Ψ ρ ow sto :=
 ⟨⟨by rw[hs];exact h.wsat.size8,fun b o c e=>by
   obtain ⟨h1,v,h2,h3⟩:=h.wsat.sat b o c e
   exact ⟨h1,v,(cell_congr (hk b (.inr (.inr ⟨o,v,h2⟩))) o).trans h2,h3⟩⟩,h.objs.mono Ψ.le_refl fun i _ b s hb=>⟨hb,hk b (.inr (.inl (by simp [hb]))),fun _ h=>h⟩,fun b hb=>by rw[hs];exact h.lt b hb⟩
theorem At.kept {w':World} (h:At P ans fid B0 w Ψ ρ ow st tmps) (hs:w'.heap.size=w.heap.size) (hk:∀ x,(x < B1∨ow x≠none∨∃ o v,w.cell? ⟨x,o,none⟩=some v)→w'.heap[x]?=w.heap[x]?):At P ans fid B0 w' Ψ ρ ow st tmps:=by
 have hr:=h.rest.kept hs hk
 exact ⟨⟨h.rel.size,hr.wsat,fun t=>(h.rel.slots t).mono Ψ.le_refl (pre_refl _) (fun b s hb=>⟨hb,hk b (.inr (.inl (by simp [hb]))),fun _ h=>h⟩) (fun _ _ _=>rfl),h.rel.refs,h.rel.boxes,hr.objs,hr.lt,by rw[hs];exact h.rel.base,h.rel.hi⟩,h.nr,h.lo⟩
theorem Fr.kept {w0:World} {Ψ0:HT} {ow0:Own} {w':World} (h:Fr w0 Ψ0 ow0 w Ψ ow) (hB:w0.heap.size≤B1) (hs:w'.heap.size=w.heap.size) (hk:∀ x,(x < B1∨ow x≠none∨∃ o v,w.cell? ⟨x,o,none⟩=some v)→w'.heap[x]?=w.heap[x]?)
  (h1:w'.os=w.os) (h2:w'.tape=w.tape) (h3:w'.output=w.output):Fr w0 Ψ0 ow0 w' Ψ ow :=
 ⟨h.le,by rw[hs];exact h.size,fun b hb ho=>⟨(hk b (.inl (by omega))).trans (h.keep b hb ho).1,(h.keep b hb ho).2⟩,h.own,h1.trans h.os,h2.trans h.tape,h3.trans h.output⟩
def resOf (tmps:Array Value):ResultVar→Sem Value
 |.tmp t=>pure (tmps.getD t undef)
 |.cell a t=>do loadVar t (←asAddr (tmps.getD a undef))
theorem resK_ok {an:Ann} {tm:List Slot} {sto:Sto} (h:Rel P ans B0 w Ψ ρ ow an (sl an tm ⟨[],sto⟩) tmps sto.objs) {R:Type} {r:R}:∀ {rl:List ResultVar} {k:List AVal→Option R},resK P an tm rl sto k=some r →
  ∃ xs us,k xs=some r∧(rl.mapM (resOf tmps)).run P w=.ok us w∧xs.length=us.length∧∀ (i:Nat) x u,xs[i]?=some x→us[i]?=some u→VRel Ψ ρ x u
 |[],k,e=>⟨[],[],e,by simp,rfl,fun i x u hx=>by simp at hx⟩
 |.tmp t::rl,k,e=>by
  simp only[resK] at e
  obtain ⟨x,e,hx⟩:=asV_ok (h.slots t) e
  obtain ⟨xs,us,h1,h2,h3,h4⟩:=resK_ok h e
  refine ⟨x::xs,tmps.getD t undef::us,h1,by simp [List.mapM_cons,resOf,h2],by simp [h3],fun i y u hy hu=>?_⟩
  cases i with
  |zero=>simp only[List.getElem?_cons_zero,Option.some.injEq] at hy hu;subst hy;subst hu;exact hx
  |succ i=>simp only[List.getElem?_cons_succ] at hy hu;exact h4 i y u hy hu
 |.cell a t::rl,k,e=>by
  simp only[resK] at e
  obtain ⟨p,e,hp⟩:=asPlace_ok (ds:=[]) h (x:=.tmp a) (rs:=⟨[],sto⟩) e
  obtain ⟨cs,off,b,o,e,hv,hrd,_,_⟩:=cellsOfPlace_ok h hp e
  obtain ⟨s,hs,e⟩:=bind_ok e
  obtain ⟨agg,hagg,e⟩:=bind_ok e
  obtain ⟨hg,e⟩:=guardB_ok e
  obtain ⟨x,hx,e⟩:=bind_ok e
  obtain ⟨xs,us,h1,h2,h3,h4⟩:=resK_ok h e
  have hload:∃ v,(loadVar t ⟨b,o,none⟩).run P w=.ok v w∧VRel Ψ ρ x v:=by
   cases agg with
   |true=>exact load_agg (P:=P) hrd hagg hs hx
   |false =>
    simp only[partOf,Bool.false_eq_true,if_false,List.getElem?_map,Option.map_eq_some_iff] at hx
    obtain ⟨c,hc,rfl⟩:=hx
    exact load_one (P:=P) hrd hagg hc
  obtain ⟨v,hl,hvr⟩:=hload
  have hv':tmps.getD a undef=.pointer (some ⟨b,o,none⟩):=hv
  refine ⟨x::xs,v::us,h1,?_,by simp [h3],fun i y u hy hu=>?_⟩
  ·simp only[List.mapM_cons,resOf,hv',Sem.run_bind]
   simp [asAddr,hl,h2]
  ·cases i with
   |zero=>simp only[List.getElem?_cons_zero,Option.some.injEq] at hy hu;subst hy;subst hu;exact hvr
   |succ i=>simp only[List.getElem?_cons_succ] at hy hu;exact h4 i y u hy hu
def tupOf:List Value→Value
 |[u]=>u
 |us=>.tuple ⟨us⟩
theorem results_run {fn:Func} {us:List Value} (h:(fn.results.toList.mapM (resOf tmps)).run P w=.ok us w):(results fn tmps).run P w=.ok (tupOf us) w:=by
 have h0:fn.results=fn.results.toList.toArray:=by simp
 have hf:∀ rl:List ResultVar,(rl.toArray.mapM (resOf tmps))=Functor.map List.toArray (rl.mapM (resOf tmps)):=fun rl=>List.mapM_toArray
 have hr:results fn tmps=(do let vs ←fn.results.mapM (resOf tmps);pure (if h:vs.size=1 then vs[0] else .tuple vs)):=by
  unfold results
  congr 1
 rw[hr,h0,hf]
 simp only[Sem.run_bind,map_eq_pure_bind,bind_assoc,h,Result.andThen_ok,pure_bind,Sem.run_pure]
 match us with
 |[]=>rfl
 |[u]=>rfl
 |u::u'::us=>simp [tupOf]
theorem trim_ok {n:Nat} {s:Slot} {v:Value} {sto:Sto} (hs:SRel w B0 Ψ ρ ow #[] 0 s v) (hf:s.free=true) (ho:OsRel w B0 Ψ ρ ow ans sto.objs) (hn:n≤sto.objs.length) :
  ∃ ρ',SRel w B0 Ψ ρ' ow #[] 0 s v∧OsRel w B0 Ψ ρ' ow ans (trim n s sto).objs∧(trim n s sto).lo=sto.lo∧n≤(trim n s sto).objs.length∧(∀ i,i < n→(trim n s sto).objs[i]?=sto.objs[i]?)∧ρ'.take n=ρ.take n:=by
 unfold trim
 cases hl:slotLok n s with
 |true=>exact ⟨ρ.take n,hs.lokS hf hl,ho.front n hn,rfl,by show n≤(sto.objs.take n).length;rw[List.length_take];omega,fun i hi=>by show (sto.objs.take n)[i]?=_;rw[List.getElem?_take,if_pos hi],by rw[List.take_take,Nat.min_self]⟩
 |false=>exact ⟨ρ,hs,ho,rfl,hn,fun _ _=>rfl,rfl⟩
theorem finish_ok (h:At P ans fid B0 w Ψ ρ ow st tmps) {fn:Func} {n:Nat} {res:ARes} {sto':Sto} (hn:n≤st.sto.objs.length) (e:finish P (ans fid) fn n st=some (res,sto')) :
  ∃ s v ρ' ow',res=.ret s∧s.free=true∧(results fn tmps).run P w=.ok v w∧SRel w B0 Ψ ρ' ow' #[] 0 s v∧OsRel w B0 Ψ ρ' ow' ans sto'.objs∧Fr w Ψ ow w Ψ ow'∧(∀ b,ow' b≠none→ow b≠none)∧sto'.lo=st.sto.lo∧n≤sto'.objs.length∧(∀ i,i < n→sto'.objs[i]?=st.sto.objs[i]?)∧ρ'.take n=ρ.take n:=by
 have gen:∀ {x:AVal} {v:Value},VRel Ψ ρ x v→(results fn tmps).run P w=.ok v w→res=.ret (.val x)→sto'=trim n (.val x) st.sto→∃ s v ρ' ow',res=.ret s∧s.free=true∧(results fn tmps).run P w=.ok v w∧SRel w B0 Ψ ρ' ow' #[] 0 s v∧OsRel w B0 Ψ ρ' ow' ans sto'.objs∧Fr w Ψ ow w Ψ ow'∧(∀ b,ow' b≠none→ow b≠none)∧sto'.lo=st.sto.lo∧n≤sto'.objs.length∧(∀ i,i < n→sto'.objs[i]?=st.sto.objs[i]?)∧ρ'.take n=ρ.take n:=fun hx hr he hs=>by
  subst hs
  obtain ⟨ρ',a1,a2,a3,a4,a5,a6⟩:=trim_ok (s:=.val _) (.val _ _ hx) rfl h.rel.objs hn
  exact ⟨_,_,ρ',ow,he,rfl,hr,a1,a2,Fr.refl _ _ _,fun _ h=>h,a3,a4,a5,a6⟩
 have many:∀ rl,fn.results.toList=rl→(resK P (ans fid) st.tm rl st.sto fun vs=>match vs with|[v]=>some (ARes.ret (.val v),trim n (.val v) st.sto)|vs=>some (.ret (.tup vs),trim n (.tup vs) st.sto))=some (res,sto')→∃ s v ρ' ow',res=.ret s∧s.free=true∧(results fn tmps).run P w=.ok v w∧SRel w B0 Ψ ρ' ow' #[] 0 s v∧OsRel w B0 Ψ ρ' ow' ans sto'.objs∧Fr w Ψ ow w Ψ ow'∧(∀ b,ow' b≠none→ow b≠none)∧sto'.lo=st.sto.lo∧n≤sto'.objs.length∧(∀ i,i < n→sto'.objs[i]?=st.sto.objs[i]?)∧ρ'.take n=ρ.take n:=fun rl hrl e=>by
  obtain ⟨xs,us,h1,h2,h3,h4⟩:=resK_ok h.rel e
  rw[←hrl] at h2
  have hrun:=results_run h2
  have tup:∀ xs us,tupOf us=.tuple ⟨us⟩→xs.length=us.length→(∀ (i:Nat) x u,xs[i]?=some x→us[i]?=some u→VRel Ψ ρ x u)→(results fn tmps).run P w=.ok (tupOf us) w→some (ARes.ret (.tup xs),trim n (.tup xs) st.sto)=some (res,sto') →
    ∃ s v ρ' ow',res=.ret s∧s.free=true∧(results fn tmps).run P w=.ok v w∧SRel w B0 Ψ ρ' ow' #[] 0 s v∧OsRel w B0 Ψ ρ' ow' ans sto'.objs∧Fr w Ψ ow w Ψ ow'∧(∀ b,ow' b≠none→ow b≠none)∧sto'.lo=st.sto.lo∧n≤sto'.objs.length∧(∀ i,i < n→sto'.objs[i]?=st.sto.objs[i]?)∧ρ'.take n=ρ.take n:=fun xs us he h3 h4 hrun h1=>by
   simp only[Option.some.injEq,Prod.mk.injEq] at h1
   obtain ⟨rfl,rfl⟩:=h1
   rw[he] at hrun
   obtain ⟨ρ',a1,a2,a3,a4,a5,a6⟩:=trim_ok (s:=.tup xs) (v:=.tuple ⟨us⟩) (.tup xs us h3 h4) rfl h.rel.objs hn
   exact ⟨_,_,ρ',ow,rfl,rfl,hrun,a1,a2,Fr.refl _ _ _,fun _ h=>h,a3,a4,a5,a6⟩
  match xs,us,h1,h3,h4,hrun with
  |[],[],h1,h3,h4,hrun=>exact tup [] [] rfl rfl h4 hrun h1
  |[x],[u],h1,h3,h4,hrun =>
   simp only[Option.some.injEq,Prod.mk.injEq] at h1
   exact gen (h4 0 x u rfl rfl) hrun h1.1.symm h1.2.symm
  |x::x'::xs,u::u'::us,h1,h3,h4,hrun=>exact tup (x::x'::xs) (u::u'::us) rfl h3 h4 hrun h1
 unfold finish at e
 split at e
 ·rename_i t hor hres
  have h1:(results fn tmps).run P w=.ok (tmps.getD t undef) w:=results_run (us:=[tmps.getD t undef]) (by rw[hres];simp [resOf])
  have hsl:=h.rel.slots t
  split at e
  ·rename_i sz xs hop
   have hop':sl (ans fid) st.tm ⟨[],st.sto⟩ t=.own sz xs:=hop
   rw[hop'] at hsl
   simp only[Option.some.injEq,Prod.mk.injEq] at e
   obtain ⟨rfl,rfl⟩:=e
   have htn:t < (ans fid).nt:=h.rel.lt_of (by rw[hop'];simp)
   have hs2:SRel w B0 Ψ ρ (ren ow false t false 0 0) #[] 0 (.own sz xs) (tmps.getD t undef):=by
    refine hsl.mono Ψ.le_refl (pre_refl _) (ren_same _ _ _) (fun _ _ he=>by cases he)
   obtain ⟨ρ',a1,a2,a3,a4,a5,a6⟩:=trim_ok (ow:=ren ow false t false 0 0) hs2 rfl (h.rel.objs.mono Ψ.le_refl fun i _=>ren_other _ _ _ (by simp)) hn
   exact ⟨_,_,ρ',_,rfl,rfl,h1,a1,a2,Fr.ren _ _ _,fun _ h=>ren_ne _ h,a3,a4,a5,a6⟩
  ·rename_i hop
   have hop':sl (ans fid) st.tm ⟨[],st.sto⟩ t=.nl:=hop
   rw[hop'] at hsl
   simp only[Option.some.injEq,Prod.mk.injEq] at e
   obtain ⟨rfl,rfl⟩:=e
   have hs2:SRel w B0 Ψ ρ ow #[] 0 .nl (tmps.getD t undef):=by
    generalize tmps.getD t undef=v at hsl
    cases hsl with|nl=>exact .nl
   obtain ⟨ρ',a1,a2,a3,a4,a5,a6⟩:=trim_ok hs2 rfl h.rel.objs hn
   exact ⟨_,_,ρ',ow,rfl,rfl,h1,a1,a2,Fr.refl _ _ _,fun _ h=>h,a3,a4,a5,a6⟩
  ·obtain ⟨x,e,hx⟩:=asV_ok hsl e
   simp only[Option.some.injEq,Prod.mk.injEq] at e
   exact gen hx h1 e.1.symm e.2.symm
 ·exact many _ rfl e
end Go.AM
end
section
namespace Go.AM
variable {P:Program} {ans:FuncId→Ann} {w:World} {B0:Nat} {Ψ:HT} {ρ:List Nat} {ow:Own} {tmps:Array Value}
variable {ds:List Deferred} {cf:Oracle} {lp:LpOracle} {fid:FuncId} {B1:Nat} {b:Frame} {cs:List Frame} {items:List Item} {st:St} {pr:Prims}
theorem tlook_self (g:Nat→Slot):∀ (ks:List Nat) (t:Nat),tlook ks (ks.map g) t=.dead∨tlook ks (ks.map g) t=g t
 |[],t=>.inl rfl
 |k::ks,t=>by
  simp only[List.map_cons,tlook]
  cases hk:Nat.beq k t with
  |true=>have:=Nat.eq_of_beq_eq_true hk;subst this;exact .inr rfl
  |false=>exact tlook_self g ks t
theorem enter_at {f:FuncId} {args:List Slot} {vs:Array Value} {sto:Sto} (h:CallPre ans B0 w Ψ ρ ow args vs sto) (hnt:args.length≤(ans f).nt) :
  At P ans f B0 w Ψ ρ ow ⟨(ans f).keep.map fun t=>(args[t]?).getD .dead,sto⟩ (vs++Array.replicate ((ans f).nt - vs.size) undef):=by
 have hE:∀ t,tlook (ans f).keep ((ans f).keep.map fun t=>(args[t]?).getD .dead) t=.dead∨∃ s,args[t]?=some s∧tlook (ans f).keep ((ans f).keep.map fun t=>(args[t]?).getD .dead) t=s:=fun t=>by
  rcases tlook_self (fun t=>(args[t]?).getD .dead) (ans f).keep t with h1|h1
  ·exact .inl h1
  ·cases ha:args[t]? with
   |none=>left;rw[h1,ha];rfl
   |some s=>right;exact ⟨s,rfl,by rw[h1,ha];rfl⟩
 have hfree:∀ (t:Nat) (s:Slot),args[t]?=some s→s.free=true:=fun t s ha=>h.free s (List.mem_of_getElem? ha)
 refine ⟨⟨?_,h.wsat,fun t=>?_,fun d u o e=>?_,fun t c e=>?_,h.objs,h.lt,h.base,fun t ht=>?_⟩,fun s hs u o he=>?_,h.lo⟩
 ·have:=h.size;simp;omega
 ·show SRel w B0 Ψ ρ ow _ t (tlook (ans f).keep ((ans f).keep.map fun t=>(args[t]?).getD .dead) t) _
  rcases hE t with h1|⟨s,ha,h1⟩
  ·rw[h1];exact .dead _
  ·rw[h1]
   have hlt:t < vs.size:=by rw[←h.size];exact (List.getElem?_eq_some_iff.1 ha).1
   have hv:(vs++Array.replicate ((ans f).nt - vs.size) undef).getD t undef=vs.getD t undef:=by
    simp only[Array.getD_eq_getD_getElem?,Array.getElem?_append_left hlt]
   rw[hv]
   exact (h.args t s ha).free_tmps (hfree t s ha)
 ·have e':tlook (ans f).keep ((ans f).keep.map fun t=>(args[t]?).getD .dead) d=.ref u o:=e
  rcases hE d with h1|⟨s,ha,h1⟩
  ·rw[h1] at e';cases e'
  ·rw[h1] at e';have:=hfree d s ha;rw[e'] at this;cases this
 ·have e':tlook (ans f).keep ((ans f).keep.map fun t=>(args[t]?).getD .dead) t=.box c:=e
  rcases hE t with h1|⟨s,ha,h1⟩
  ·rw[h1] at e';cases e'
  ·rw[h1] at e';have:=hfree t s ha;rw[e'] at this;cases this
 ·show tlook (ans f).keep ((ans f).keep.map fun t=>(args[t]?).getD .dead) t=.dead
  rcases hE t with h1|⟨s,ha,h1⟩
  ·exact h1
  ·have:=(List.getElem?_eq_some_iff.1 ha).1;omega
 ·obtain ⟨t,_,rfl⟩:=List.mem_map.1 hs
  cases ha:args[t]? with
  |none=>rw[ha] at he;cases he
  |some s=>rw[ha] at he;have:=hfree t s ha;rw[show s=.ref u o from he] at this;cases this
def Leave (P:Program) (ans:FuncId→Ann) (B0:Nat) (w:World) (Ψ:HT) (ρ:List Nat) (ow:Own) (sto:Sto) (f:FuncId) (cs:List Frame) (m:Machine) (res:ARes) (sto':Sto):Prop :=
 ∃ w' Ψ' ρ' ow' fr,Fr w Ψ ow w' Ψ' ow'∧pre ρ ρ'∧WSat Ψ' w'∧OsRel w' B0 Ψ' ρ' ow' ans sto'.objs∧(∀ b,ow' b≠none→b < w'.heap.size)∧StoLe sto sto'∧Steps P m (lone fr cs w')∧fr.fn=f ∧
  match res with
  |.ret s=>s.free=true∧∃ v,SRel w' B0 Ψ' ρ' ow' #[] 0 s v∧fr.leaving P w' (.returned v)
  |.pan x=>∃ v,VRel Ψ' ρ' x v∧fr.leaving P w' (.panicked [{ v,recovered:=false }])
theorem Leave.post {sto:Sto} {f:FuncId} {c:Frame} {m:Machine} {res:ARes} {sto':Sto} (h:Leave P ans B0 w Ψ ρ ow sto f (c::cs) m res sto'):CallPost P ans B0 w Ψ ρ ow sto c cs m res sto':=by
 obtain ⟨w',Ψ',ρ',ow',fr,h1,h2,h3,h4,h5,h6,h7,h8,h9⟩:=h
 refine ⟨w',Ψ',ρ',ow',h1,h2,h3,h4,h5,h6,?_⟩
 cases res with
 |ret s=>obtain ⟨hf,v,hs,hl⟩:=h9;exact ⟨hf,v,hs,h7.trans (.one (step_leave_returned hl))⟩
 |pan x=>obtain ⟨v,hs,hl⟩:=h9;exact ⟨v,hs,h7.trans (.one (step_leave_panicked hl))⟩
theorem pre_of_take {ρ ρ' ρ2:List Nat} {n:Nat} (hp:pre ρ ρ2) (hn:n=ρ.length) (h:ρ'.take n=ρ2.take n):pre ρ ρ':=by
 subst hn
 rw[pre_take_eq hp (Nat.le_refl _),List.take_of_length_le (Nat.le_refl _)] at h
 intro i x hx
 have hi:=(List.getElem?_eq_some_iff.1 hx).1
 have:(ρ'.take ρ.length)[i]?=some x:=by rw[h];exact hx
 rw[List.getElem?_take,if_pos hi] at this
 exact this
theorem fnStep_ok (hcf:CfOK P ans B0 cf) (hlp:LpOK P ans B0 lp) (hdr:DrawnOK P ans cf) {f:FuncId} {args:List Slot} {sto:Sto} {res:ARes} {sto':Sto} (hpr:pr f args=none) (e:callStep P ans pr cf lp (.fn f) args sto=some (res,sto')) :
  (∃ F,P.funcs[f]?=some F∧F.body.isSome=true)∧∀ w Ψ ρ ow vs,CallPre ans B0 w Ψ ρ ow args vs sto→∀ cs,Leave P ans B0 w Ψ ρ ow sto f cs (lone (Frame.enter P f vs .normal) cs w) res sto':=by
 simp only[callStep,hpr] at e
 cases hprim:(ans f).prim with
 |true=>rw[hprim] at e;cases e
 |false =>
 rw[hprim] at e
 simp only[cond_false] at e
 split at e
 ·cases e
 rename_i fn hfn
 split at e
 ·cases e
 rename_i c hbody
 obtain ⟨hg,e⟩:=guardB_ok e
 simp only[Bool.and_eq_true] at hg
 have hnt:fn.ntmps=(ans f).nt:=Nat.eq_of_beq_eq_true hg.1
 have hal:args.length≤(ans f).nt:=by rw[←hnt];exact Nat.le_of_ble_eq_true hg.2
 refine ⟨⟨fn,hfn,by simp [hbody]⟩,fun w Ψ ρ ow vs hpre cs=>?_⟩
 let b:Frame:={ (default:Frame) with fn:=f,kind:=.normal,roundOf:=none }
 have henter:Frame.enter P f vs .normal=b.atR ⟨vs++Array.replicate ((ans f).nt - vs.size) undef,[]⟩ [.code c]:=by
  simp [Frame.enter,Frame.atR,hfn,hbody,b,hnt]
 rw[henter]
 have hρl:=hpre.objs.1
 obtain ⟨ex,st',he,w1,Ψ1,ρ1,ow1,tmps1,ds1,a1,a2,a3,a4,a5,a6⟩:=XK_ok hcf hlp hdr c (b:=b) (cs:=cs) (items:=[]) (fid:=f) (B1:=w.heap.size) rfl (.inl rfl) (enter_at (P:=P) hpre hal) (Marks.nil w ow w.heap.size) (Nat.le_refl _) e
 have hlo:=hpre.lo
 have hlen:sto.objs.length≤st'.sto.objs.length:=a5.len
 have hret:At P ans f B0 w1 Ψ1 ρ1 ow1 st' tmps1→finish P (ans f) fn sto.objs.length st'=some (res,sto')→(∃ k,Steps P (lone (b.atR ⟨vs++Array.replicate ((ans f).nt - vs.size) undef,[]⟩ [.code c]) cs w) (lone { b.atR ⟨tmps1,ds1⟩ k with mode:=.returning } cs w1)) →
   Leave P ans B0 w Ψ ρ ow sto f cs (lone (b.atR ⟨vs++Array.replicate ((ans f).nt - vs.size) undef,[]⟩ [.code c]) cs w) res sto':=fun hA hfin ⟨k,hs⟩=>by
  obtain ⟨w2,p1,p2,p3,p4,p5,p6⟩:=marks_pop (P:=P) (cs:=cs) (fr:={ b.atR ⟨tmps1,ds1⟩ k with mode:=.returning }) a2 (by simp) rfl
  have hA2:=hA.kept p2 p3
  obtain ⟨s,v,ρ2,ow2,q1,q2,q3,q4,q5,q6,q6b,q7,q8,q9,q10⟩:=finish_ok hA2 hlen hfin
  subst q1
  refine ⟨w2,Ψ1,ρ2,ow2,_,(a3.kept (Nat.le_refl _) p2 p3 p4 p5 p6).trans q6,pre_of_take a4 hρl.symm q10,hA2.rel.wsat,q5,fun b hb=>?_,⟨q7.trans a5.lo,q8,fun i hi=>(q9 i (by omega)).trans (a5.keep i hi)⟩,hs.trans p1,rfl,q2,v,q4,rfl,rfl,rfl,fn,hfn,q3⟩
  exact hA2.rel.lt b (q6b b hb)
 cases ex with
 |norm=>exact hret a1 he ⟨[],Steps.trans a6 (.one (stepR_end rfl))⟩
 |ret=>obtain ⟨k,hk⟩:=a6;exact hret a1 he ⟨_,hk.trans (.one (stepR_ret rfl))⟩
 |exit id=>cases he
 |pan x =>
  simp only[Option.some.injEq,Prod.mk.injEq] at he
  obtain ⟨rfl,rfl⟩:=he
  obtain ⟨v,k,hv,hs⟩:=a6
  obtain ⟨w2,p1,p2,p3,p4,p5,p6⟩:=marks_pop (P:=P) (cs:=cs) (fr:={ b.atR ⟨tmps1,ds1⟩ k with mode:=.panicking [{ v,recovered:=false }] }) a2 (by simp) rfl
  have hr2:=Rest.kept a1 p2 p3
  exact ⟨w2,Ψ1,ρ1,ow1,_,a3.kept (Nat.le_refl _) p2 p3 p4 p5 p6,a4,hr2.wsat,hr2.objs,hr2.lt,a5,hs.trans p1,rfl,v,hv,rfl,rfl,fn,hfn⟩
end Go.AM
end
