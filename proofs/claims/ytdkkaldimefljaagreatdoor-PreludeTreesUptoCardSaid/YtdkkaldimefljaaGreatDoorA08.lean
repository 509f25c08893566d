import Derived.Test.YtdkkaldimefljaaGreatDoorA07
set_option linter.all false
section
namespace Go.AM
variable {P:Program} {ans:FuncId→Ann} {w:World} {B0:Nat} {Ψ:HT} {ρ:List Nat} {ow:Own} {tmps:Array Value}
theorem wE:∀ (ks:List Nat) (tm:List Slot) (t:Nat),t∉ks→tlook ks tm t=.dead
 |[],tm,t,_=>by cases tm <;> rfl
 |k::ks,[],t,_=>rfl
 |k::ks,s::ss,t,h=>by
  simp only[List.mem_cons,not_or] at h
  have hk:Nat.beq k t=false:=by
   cases hb:Nat.beq k t with
   |false=>rfl
   |true=>exact absurd (Nat.eq_of_beq_eq_true hb).symm h.1
  simp only[tlook,hk,cond_false];exact wE ks ss t h.2
theorem aGQ {fid:FuncId} {st:St} {R:Type} {r:R} {K:bM→St→Option R} {b:Frame} {ds:List Deferred} {items:List Item} {cs:List Frame} {id:Nat} {ops:Array Oper} (hmx:P.follows .mixedOrders=true) (h:At P ans fid B0 w Ψ ρ ow st tmps)
  (e:uA P (ans fid) ops.toList st K=some r) :
  ∃ st' w' Ψ' ow' tmps',K .norm st'=some r∧At P ans fid B0 w' Ψ' ρ ow' st' tmps'∧Fr w Ψ ow w' Ψ' ow'∧StoLe st.sto st'.sto ∧
   Steps P (lone (b.atR ⟨tmps,ds⟩ (.code (.region id ops true)::items)) cs w) (lone (b.atR ⟨tmps',ds⟩ items) cs w'):=by
 obtain ⟨s,el,z0,sz,z,zc,i,ccs,xs,M,hK,_⟩:=mn e;have hA:=jr M.shape;obtain ⟨zv,zl,z1,hlit⟩:=aBn (P:=P) M.un M.szq M.pos M.le M.zero M.zl M.zcl M.const M.cl M.ccl;have hsl:∀ t,sl (ans fid) st.tm ⟨[],st.sto⟩ t=tlook (ans fid).keep st.tm t:=fun _=>rfl
 let wd:World:={ w with drawn:=w.drawn+1 }
 have hwd:wd.heap=w.heap:=rfl;have R1:=h.rel.heap hwd;have F1:Fr w Ψ ow wd Ψ ow:=Fr.heap rfl rfl rfl rfl
 let zb:Obj:=.cells ⟨zv⟩ el
 let wA:=wd.alloc zb
 have hoo:oset ow wd.heap.size none=ow:=by
  funext x;unfold oset;split
  ·subst_vars
   cases e1:ow wd.heap.size with
   |none=>rfl
   |some y=>have:=R1.lt wd.heap.size (by simp [e1]);omega
  ·rfl
 have R2:=R1.alloc (o:=zb) (τ:=fun _=>none) (id:=none) (fun off c hc=>by cases hc);have F2:=Fr.alloc (ow:=ow) (o:=zb) (τ:=fun _=>none) (id:=none) R1.wsat;rw[mZ R1.wsat,hoo] at R2 F2
 change Rel P ans B0 wA Ψ ρ ow (ans fid) _ tmps st.sto.objs at R2
 change Fr wd Ψ ow wA Ψ ow at F2
 have hs2:=R2.slots 2;rw[hsl,M.t2] at hs2
 obtain ⟨b2,hρ2,hp2⟩:∃ b2,ρ[i]?=some b2∧tmps.getD 2 undef=.pointer (some ⟨b2,0,none⟩):=by
  generalize tmps.getD 2 undef=v at hs2;cases hs2 with
  |val _ _ hv=>cases hv with
   |loc _ _ b2 hb=>exact ⟨b2,hb,rfl⟩
 obtain ⟨b2',hρ2',hor⟩:=R2.objs.2 i _ M.obj;obtain rfl:b2=b2':=by rw[hρ2] at hρ2';exact Option.some.inj hρ2'
 cases hor with
 |box _ _ hB2 =>
 obtain ⟨c1,c2,c3,vs2,T2,c4,c5⟩:=hB2;have hB2:BoxRel wA B0 Ψ (ρ.take (i+1)) ow true i [.own sz xs] b2:=⟨c1,c2,c3,vs2,T2,c4,c5⟩
 match vs2,c5.1 with
 |[sv],_ =>
 have hb2lt:b2 < wd.heap.size:=R1.lt b2 (by rw[c1];simp);have hb2w:wd.heap[b2]?=some (.cells ⟨[sv]⟩ T2 (0,0)):=(heap_alloc_old zb hb2lt).symm.trans c4;have hs5:=R2.slots 5;rw[hsl,M.t5] at hs5
 obtain ⟨b5,hp5,hB5⟩:∃ b5,tmps.getD 5 undef=.pointer (some ⟨b5,0,none⟩)∧BoxRel wA B0 Ψ ρ ow false 5 ccs b5:=by
  generalize tmps.getD 5 undef=v at hs5;cases hs5 with
  |box _ b5 hb=>exact ⟨b5,rfl,hb⟩
 obtain ⟨d1,d2,d3,vv,T5,d4,d5⟩:=hB5;have hb5lt:b5 < wd.heap.size:=R1.lt b5 (by rw[d1];simp);have hb5w:wd.heap[b5]?=some (.cells ⟨vv⟩ T5 (0,0)):=(heap_alloc_old zb hb5lt).symm.trans d4;have vl:vv.length=sz:=by rw[←d5.1,M.csl]
 have v1:∀ u∈vv,oneC u=true:=d5.one
 have vr:∀ (p:Nat) c u,(ccs.map Cell.get)[p]?=some c→vv[p]?=some u→flat c=true∧VRel Ψ [] c u:=fun p c u hc hu=>by
  have hfl:flat c=true:=List.all_eq_true.1 M.csc c (List.mem_of_getElem? hc);refine ⟨hfl,?_⟩;rw[List.getElem?_map,Option.map_eq_some_iff] at hc;obtain ⟨cc,hcc,rfl⟩:=hc
  have:=d5.2 p cc u hcc hu
  cases this with
  |val c u h1 h2=>exact h2.flat hfl
  |own sz' xs' u h2=>exact h2.rel
 obtain ⟨R3,O3⟩:=ik (j:=0) R2 M.obj hρ2 hB2 rfl ((cell_of_heap c4 0).trans rfl);have F3:Fr wA Ψ ow wA Ψ (dZ ow (true,i,0+1) (false,(ans fid).nt,1)):=⟨Ψ.le_refl,Nat.le_refl _,fun _ _ _=>⟨rfl,fun _=>rfl⟩,fun x hx=>.inl (j6 hx),rfl,rfl,rfl⟩
 generalize how3:dZ ow (true,i,0+1) (false,(ans fid).nt,1)=ow3 at R3 O3 F3;obtain ⟨sa,sLen,sCap,hsv,_⟩:=O3.rest;have hsl3:xs.length=sLen:=by have:=O3.rel;rw[hsv] at this;cases this with|slice _ _ _ _ _ hl _ _=>exact hl
 subst hsl3;have hzero:=M.zero;simp only[zeroOf,Option.bind_eq_some_iff] at hzero;obtain ⟨zval,⟨ti,hti,hzz⟩,hzv⟩:=hzero;have hz1:(P.info? el).bind (·.zero)=some zval:=by rw[hti];exact hzz
 have hzs:zval.cells.size=sz:=by have:=(fA (Ψ:=Ψ) (ρ:=ρ) hzv).cells.1;rw[←this,M.zl]
 have hn0:wA.heap[wd.heap.size]?=some zb:=heap_alloc_new zb
 have hpend:=fun ty=>ic (ys:=[.agg (ccs.map Cell.get)]) (n:=1) (yv:=vv) (zv:=zv) (xa:=some ⟨wd.heap.size,0,none⟩) (xcap:=1) (ts:=#[s,s]) (ty:=ty) (t1:=s) (t2:=s) (e:=el) (e2:=el) R3 O3
  (fun y hy=>by rw[List.mem_singleton.1 hy];simpa [AVal.cells] using M.csl) rfl (by omega) (by rw[vl];omega) v1 (fun p c u hc hu=>vr p c u (by simpa [aM,AVal.cells] using hc) hu) (by rw[zl];omega) z1
  (fun w1 hw1=>cT (by rw[zl];omega) fun p v hv=>by
   rw[Nat.zero_add,cell_congr (w:=wA) (by rw[hw1]) p,cell_of_heap hn0];exact hv) rfl rfl M.un M.un M.szq M.pos hz1 hzs M.by1 M.by0 M.room
 obtain ⟨bb,oo,cap,cl,E',w1,w2,Ψ',ow4,hrun,hb,hole,hw2,R4,O4,F4,hown,hold,howold⟩:=hpend 0;have happ:∀ ty,(Builtin.append_ #[s,s] ty #[sv,.slice (some ⟨wd.heap.size,0,none⟩) 1 1]).run P wA=.ok (.slice (some ⟨bb,oo,none⟩) (xs.length+1) cap) w1:=fun ty=>hrun
 have hb2A:b2 < wA.heap.size:=(Array.getElem?_eq_some_iff.1 c4).1
 have hne:bb≠b2:=fun he=>by
  rw[he,howold b2 hb2A,←how3] at hown;simp [dZ,c1] at hown
 have hb2w1:w1.heap[b2]?=some (.cells ⟨[sv]⟩ T2 (0,0)):=(hold b2 (Ne.symm hne) hb2A).trans c4;have hb2w2:w2.heap[b2]?=some (.cells ⟨[sv]⟩ T2 (0,0)):=by rw[hw2];exact (World.putObj_heap_other (Ne.symm hne)).trans hb2w1
 have hilt:i < st.sto.objs.length:=(List.getElem?_eq_some_iff.1 M.obj).1;have hobj4:(st.sto.objs.set i (.box ([Cell.own sz xs].set 0 (.val (.slice xs)))))[i]?=some (.box [.val (.slice xs)]):=by simp [hilt]
 obtain ⟨b2',hρ4,hor4⟩:=R4.objs.2 i _ hobj4;obtain rfl:b2=b2':=by rw[hρ2] at hρ4;exact Option.some.inj hρ4
 cases hor4 with
 |box _ _ hB4 =>
 obtain ⟨f1,f2,f3,vs4,T4,f4,f5⟩:=hB4;have hB4:BoxRel w2 B0 Ψ' (ρ.take (i+1)) ow4 true i [.val (.slice xs)] b2:=⟨f1,f2,f3,vs4,T4,f4,f5⟩
 have hnew:CsRel w2 B0 Ψ' ρ ow4 false (ans fid).nt [.own sz (xs++[.agg (ccs.map Cell.get)])] [.slice (some ⟨bb,oo,none⟩) (xs.length+1) cap]:=⟨rfl,fun j c v hc hv=>by
  cases j with
  |zero=>cases hc;cases hv;exact .own _ _ _ O4
  |succ j=>simp at hc⟩
 rw[hb2w2] at f4;cases f4;have R5:=xW (off:=0) R4 hobj4 hρ2 hB4 hb2w2 f5 hnew (by simp) (by simp [setCells,Cell.lok]);have F5:Fr w2 Ψ' ow4 (w2.putObj b2 (.cells ⟨overwrite [sv] 0 [.slice (some ⟨bb,oo,none⟩) (xs.length+1) cap]⟩ T2 (0,0))) Ψ' (ren ow4 false (ans fid).nt true i 0):=Fr.put (by rw[f1];simp) (fun x hx=>j5 _ hx);have hsz14:14≤tmps.size:=by rw[h.rel.size];exact M.nt
 have hcell2:∀ w':World,(w'=wd∨w'=wd.alloc zb)→w'.heap[b2]?=some (.cells ⟨[sv]⟩ T2 (0,0)):=fun w' hw=>by rcases hw with rfl|rfl <;> assumption
 have hcell5:∀ w':World,(w'=wd∨w'=wd.alloc zb)→w'.heap[b5]?=some (.cells ⟨vv⟩ T5 (0,0)):=fun w' hw=>by rcases hw with rfl|rfl <;> assumption
 have hIn:yT P tmps wd s el z0 sv (.agg ⟨vv⟩) xs.length zb :=
  ⟨hsz14,fun w' hw=>⟨_,hp2,run_loadVar_one M.ag1 ((cell_of_heap (hcell2 w' hw) 0).trans rfl)⟩,fun w' hw=>⟨_,hp5,run_loadVar_agg M.ag (by rw[M.szq,vl]) (fun j v hv=>by rw[Nat.zero_add,cell_of_heap (hcell5 w' hw)];exact hv)⟩,⟨sa,sCap,hsv⟩,M.un,hlit wd⟩
 obtain ⟨p,hp,q,hq,hord⟩:=hA.orders (w.tape w.drawn (.order b.fn id));obtain ⟨tm1,hst1,S1⟩:=aDV (fb:=b) (ds:=ds) (k:=items) (cs:=cs) (rest:=q) hA hIn hp;obtain ⟨tm2,hts,htsame,S2⟩:=aAn (fb:=b) (ds:=ds) (k:=items) (cs:=cs) hA hsz14 M.un M.s1 (by rw[M.szq,vl]) v1 hst1 happ hb (by rw[vl];exact hole) hp2 hb2w1 hne hq;have hw2':w1.putObj bb (.cells ⟨overwrite cl (oo+xs.length * vv.length) vv⟩ E' (0,0))=w2:=by rw[hw2,vl]
 rw[hw2'] at S2
 have hstart:Steps P (lone (b.atR ⟨tmps,ds⟩ (.code (.region id ops true)::items)) cs w) (lone (b.atR ⟨tmps,ds⟩ (.inRegion ops (p++q)::items)) cs wd):=by
  have:=Steps.one (stepR_region_draw (P:=P) (b:=b) (a:=⟨tmps,ds⟩) (k:=items) (cs:=cs) (w:=w) (ops:=ops) (id:=id))
  rw[show Region.schedule (P.follows .mixedOrders) ops (w.tape w.drawn (.order b.fn id))=p++q by rw[←hord];simp [Region.schedule,hmx]] at this;exact this
 have dJ:(st.sto.objs.set i (.box ([Cell.own sz xs].set 0 (.val (.slice xs))))).set i (.box (setCells [.val (.slice xs)] 0 [.own sz (xs++[.agg (ccs.map Cell.get)])]))=st.sto.objs.set i (.box [.own sz (xs++[.agg (ccs.map Cell.get)])]):=by
  rw[List.set_set];rfl
 rw[dJ] at R5;refine ⟨_,_,Ψ',_,tm2,hK,⟨?_,h.nr,?_⟩,F1.trans (F2.trans (F3.trans (F4.trans F5))),⟨rfl,by simp,fun j hj=>?_⟩,hstart.trans (S1.trans (S2.trans (.one stepR_region_end)))⟩
 ·refine ⟨by rw[hts];exact R5.size,R5.wsat,fun t=>?_,R5.refs,R5.boxes,R5.objs,R5.lt,R5.base,R5.hi⟩
  have hts:=R5.slots t;show SRel _ B0 Ψ' ρ _ tm2 t (tlook (ans fid).keep st.tm t) (tm2.getD t undef)
  change SRel _ B0 Ψ' ρ _ tmps t (tlook (ans fid).keep st.tm t) (tmps.getD t undef) at hts
  by_cases ht:t < 8∨14≤t
  ·rw[htsame t ht]
   exact hts.mono Ψ'.le_refl (aG _) (Same.refl _ _ _ _ _) (fun u o he=>absurd he (h.nr.tlook _ _ _ _))
  ·have hk:t∉(ans fid).keep:=M.keep t (by
    have:t=8∨t=9∨t=10∨t=11∨t=12∨t=13:=by omega
    simpa using this)
   have hd:tlook (ans fid).keep st.tm t=.dead:=wE _ _ _ hk;rw[hd];exact .dead _
 ·show st.sto.lo≤(st.sto.objs.set i _).length
  rw[List.length_set];exact h.lo
 ·show (st.sto.objs.set i _)[j]?=st.sto.objs[j]?
  rw[List.getElem?_set_ne (by have:=M.lo;omega)]
end Go.AM
end
section
namespace Go.AM
variable {P:Program} {ans:FuncId→Ann} {w:World} {B0:Nat} {Ψ:HT} {ρ:List Nat} {ow:Own} {tmps:Array Value}
variable {ds:List Deferred} {cf:aO} {lp:aT} {fid:FuncId} {B1:Nat} {b:Frame} {cs:List Frame} {items:List Item} {st:St}
def mO (P:Program) (ans:FuncId→Ann) (cf:aO):Prop :=
 P.follows .mixedOrders=true∧∀ (R:Type) (fid:FuncId) (tm:List Slot) (rid:Nat) (ops:Array Oper) (kn:RS→Option R) (rs:RS) (r:R),qR ans (ans fid) rid ops=true→noX ans (ans fid) rid ops=true→noRef tm→rs.sc=[] →
  (∀ rs1 rs2:RS,(∀ t,bZ rs1.sc t=bZ rs2.sc t)→rs1.sto=rs2.sto→kn rs1=kn rs2)→iL P ans (ans fid) true cf tm rid ops (fun _ _=>none) kn (List.range ops.size) rs=some r →
  ∀ t,iL P ans (ans fid) true cf tm rid ops (fun _ _=>none) kn (Region.linearise .any ops t) rs=some r
def iD (ans:FuncId→Ann) (cf:aO):Prop:=∀ f args,(ans f).prim=true→∃ o:Option Slot,(∀ s,o=some s→cH 0 s=true)∧∀ sto,cf (.fn f) args sto=o.map fun s=>(.ret s,sto)
theorem pF (sc sc':List (Nat×Slot)) (h:∀ t,bZ sc t=bZ sc' t):∀ (ks:List Nat) (tm:List Slot),commit ks tm sc=commit ks tm sc'
 |[],tm=>by cases tm <;> rfl
 |k::ks,[]=>rfl
 |k::ks,s::ss=>by simp only[commit,h k,pF sc sc' h ks ss]
theorem At.world {w1:World} (h:At P ans fid B0 w Ψ ρ ow st tmps) (e:w1.heap=w.heap):At P ans fid B0 w1 Ψ ρ ow st tmps:=⟨h.rel.heap e,h.nr,h.lo⟩
theorem XEnd.out {sto:Sto} {items':List Item} {m:Machine} {e:bM} {st':St} (h:XEnd P ans fid B0 B1 w Ψ ρ ow sto b cs items' m e st') (he:e≠.norm) (hx:∀ id,e=.exit id→exitTo id items'=exitTo id items):XEnd P ans fid B0 B1 w Ψ ρ ow sto b cs items m e st':=by
 obtain ⟨w',Ψ',ρ',ow',tmps',ds',h1,h2,h3,h4,h5,h6⟩:=h;refine ⟨w',Ψ',ρ',ow',tmps',ds',h1,h2,h3,h4,h5,?_⟩;cases e with
 |norm=>exact absurd rfl he
 |exit id=>obtain ⟨k,a1,a2⟩:=h6;exact ⟨k,a1.trans (hx id rfl),a2⟩
 |ret=>exact h6
 |pan x=>exact h6
def aIt (P:Program) (ans:FuncId→Ann) (fid:FuncId) (B0 B1:Nat) (w:World) (Ψ:HT) (ρ:List Nat) (ow:Own) (st:St) (b:Frame) (cs:List Frame) (m:Machine) (tmps:Array Value) (x:AVal) (st':St):Prop :=
 ∃ sto' s0 w' Ψ' ρ' ow' ds',st'={ st with sto:=sto' }∧Rel P ans B0 w' Ψ' ρ' ow' (ans fid) (sl (ans fid) st.tm ⟨[],s0⟩) tmps sto'.objs∧Marks w' ow' B1 b ds'∧Fr w Ψ ow w' Ψ' ow'∧pre ρ ρ'∧StoLe st.sto sto' ∧
  ∃ v k,VRel Ψ' ρ' x v∧Steps P m (lone { b.atR ⟨tmps,ds'⟩ k with mode:=.panicking [{ v,recovered:=false }] } cs w')
theorem w9 (hcf:lS P ans B0 cf) {R:Type} {r:R} {K:bM→St→Option R} {f:Operand} {params:Array Tmp} {assign body:Code} (hb:b.fn=fid) (hro:b.roundOf=none) (h:At P ans fid B0 w Ψ ρ ow st tmps) (hm:Marks w ow B1 b ds) (hB:B1≤w.heap.size)
  (e:XK P ans cf lp fid (.rangeFunc f params assign body) st K=some r):∃ ex st',K ex st'=some r∧XEnd P ans fid B0 B1 w Ψ ρ ow st.sto b cs items (lone (b.atR ⟨tmps,ds⟩ (.code (.rangeFunc f params assign body)::items)) cs w) ex st'∧∀ x,ex=.pan x→aIt P ans fid B0 B1 w Ψ ρ ow st b cs (lone (b.atR ⟨tmps,ds⟩ (.code (.rangeFunc f params assign body)::items)) cs w) tmps x st':=by
 simp only[XK] at e
 split at e
 case h_2=>cases e
 rename_i g caps hf;obtain ⟨⟨res,sto'⟩,hc,e⟩:=aC e;obtain ⟨tf,hsf,_⟩:=bH (ds:=ds) h.rel f;rw[hf] at hsf;generalize hgx:(⟨tmps,ds⟩:Act).eval f=vf at hsf;cases hsf with
 |val _ _ hv =>
 cases hv with
 |func _ _ cv hcl hcv =>
 let rec0:Loop:={ state:=.ready,pending:=none,fn:=b.fn,tmps:=tmps,params:=params,assign:=assign,body:=body,defers:=w.heap.size }
 let w1:=w.alloc (.deferred (some []))
 let w2:=w1.alloc (.loop rec0)
 let n:=st.sto.objs.length
 let l:=w.heap.size+1
 let al:iP:=⟨fid,st.tm.map dM,params,assign,body,none,.ready⟩
 have hsz1:w1.heap.size=w.heap.size+1:=by simp [w1]
 have hoo:oset ow w.heap.size none=ow:=by
  funext b;unfold oset;split
  ·subst_vars
   cases e1:ow w.heap.size with
   |none=>rfl
   |some y=>have:=h.rel.lt w.heap.size (by simp [e1]);omega
  ·rfl
 have hR1:=h.rel.alloc (o:=.deferred (some [])) (τ:=fun _=>none) (id:=none) (fun off c hc=>by cases hc);have hF1:=Fr.alloc (ow:=ow) (o:=.deferred (some [])) (τ:=fun _=>none) (id:=none) h.rel.wsat;rw[mZ h.rel.wsat,hoo] at hR1 hF1
 change Rel P ans B0 w1 Ψ ρ ow (ans fid) _ tmps st.sto.objs at hR1
 change Fr w Ψ ow w1 Ψ ow at hF1
 have hρl:ρ.length=n:=h.rel.objs.1
 have hnew:ORel w2 B0 Ψ (ρ++[w1.heap.size]) (oset ow w1.heap.size (some (true,n,0))) ans n (.loop al) w1.heap.size:=by
  refine .loop al _ rec0 (heap_alloc_new _) (by simp [oset]) hR1.base (hR1.wsat.none_of_ge (Nat.le_refl _)) ⟨rfl,rfl,hb,rfl,rfl,rfl,h.rel.size,fun t=>?_,fun s hs=>?_,fun t ht=>?_⟩
  ·show SRel w2 0 Ψ _ _ tmps t (tlook (ans fid).keep (st.tm.map dM) t) (tmps.getD t undef)
   rw[qB _ rfl];refine (h.rel.slots t).snap Ψ.le_refl ?_;rw[List.take_of_length_le (by simp [hρl])];exact dP _ _
  ·obtain ⟨s0,_,rfl⟩:=List.mem_map.1 hs;exact zn s0
  ·show tlook (ans fid).keep (st.tm.map dM) t=.dead
   rw[qB _ rfl]
   have:=h.rel.hi t ht
   rw[show tlook (ans fid).keep st.tm t=.dead from this];rfl
 obtain ⟨hR2,hF2⟩:=qO (ob:=.loop al) (o:=.loop rec0) hR1 ow (fun b hb=>hb) (fun kk i _=>Same.refl _ _ _ _ _) hnew
 change Rel P ans B0 w2 Ψ (ρ++[w1.heap.size]) _ (ans fid) _ tmps (st.sto.objs++[AObj.loop al]) at hR2
 change Fr w1 Ψ ow w2 Ψ _ at hF2
 rw[hsz1] at hR2 hF2;have hFw:Fr w Ψ ow w2 Ψ (oset ow l (some (true,n,0))):=hF1.trans hF2
 let sto1:Sto:={ st.sto with objs:=st.sto.objs++[.loop al] }
 let ow2:=oset ow l (some (true,n,0))
 have hR2':Rel P ans B0 w2 Ψ (ρ++[l]) ow2 (ans fid) (sl (ans fid) st.tm ⟨[],sto1⟩) tmps sto1.objs:=hR2;have hyl:(ρ++[l])[n]?=some l:=by rw[List.getElem?_append_right (by rw[hρl];exact Nat.le_refl _)];simp [hρl]
 have hpre:=zG (ds:=ds) hR2' sto1 rfl (by show st.sto.lo≤(st.sto.objs++[AObj.loop al]).length;have:=h.lo;simp;omega) (l:=[.val (.yld n)]) (xs:=[.const (.func (.yield l) #[] #[])]) rfl (by simp [Slot.free])
  (fun j s x hj hx=>by
   cases j with
   |zero=>simp at hj hx;subst hj;subst hx;exact .val _ _ (.yld n l hyl)
   |succ j=>simp at hj) hcl (fun i c v h1 h2=>(hcv i c v h1 h2).mono Ψ.le_refl (dP _ _))
 let mk:List Deferred:=[{ target:=.collected w.heap.size,args:=#[] }]
 let fr:Frame:=b.atR ⟨tmps,mk++ds⟩ (.inRangeFunc l::items)
 obtain ⟨F,hF1',hF2',hF3'⟩:=(hcf.fn _ _ _ _ _ hc).1;obtain ⟨w',Ψ',ρ',owr,hFc,hpc,hwc,hoc,hltc,hsc,hres⟩:=(hcf.fn _ _ _ _ _ hc).2 w2 Ψ (ρ++[l]) _ _ hpre fr cs;obtain ⟨hR3,hF3⟩:=wP hR2' hFc hpc hwc hpc hoc hltc
 have hstep:step P (lone (b.atR ⟨tmps,ds⟩ (.code (.rangeFunc f params assign body)::items)) cs w)=.next (lone (Frame.enter P g ⟨[.func (.yield l) #[] #[]]++cv⟩ .normal) (fr::cs) w2):=by
  obtain ⟨bd,hbd⟩:=Option.isSome_iff_exists.1 hF2';refine stepR_rangeFunc (a:=⟨tmps,ds⟩) (l:=l) (mark:=mk) (w₁:=w2) (w₁':=w2) (d:=⟨.fn (.func g) ⟨cv⟩,#[.func (.yield l) #[] #[]]⟩) ?_ ?_ ?_
  ·rw[hro,run_enterLoop_outer]
  ·simp [resolve,hgx,Deferred.ofValue,rangeCall];rfl
  ·simp [invoke,callFunc,hF1',hF3',hbd]
 have hmarks:Marks w' (eY (ans fid).nt ow2 owr) B1 b (mk++ds):=by
  obtain ⟨ms,hds,hm⟩:=hm;refine ⟨mk++ms,by rw[hds,List.append_assoc],?_⟩
  have h2:MarksL w2 ow2 B1 (mk++ms):=by
   have h1:MarksL w2 ow2 B1 ms:=hm.mono hFw;refine ⟨fun d hd=>?_,?_⟩
   ·rcases List.mem_append.1 hd with hd|hd
    ·simp only[mk,List.mem_singleton] at hd
     subst hd;refine ⟨w.heap.size,rfl,?_,?_,hB⟩
     ·exact (heap_alloc_old _ (by rw[hsz1];omega)).trans (heap_alloc_new _)
     ·show oset ow l _ w.heap.size=none
      unfold oset;rw[if_neg (by show ¬ w.heap.size=w.heap.size+1;omega)];cases e1:ow w.heap.size with
      |none=>rfl
      |some y=>have:=h.rel.lt w.heap.size (by simp [e1]);omega
    ·exact h1.all d hd
   ·refine List.pairwise_append.2 ⟨by simp [mk],h1.nodup,fun d hd d' hd' he=>?_⟩
    simp only[mk,List.mem_singleton] at hd;subst hd;obtain ⟨D,g1,g2,_⟩:=hm.all d' hd';rw[g1] at he
    have:=(Array.getElem?_eq_some_iff.1 g2).1
    cases he;omega
  exact h2.mono hF3
 cases res with
 |pan x =>
  obtain ⟨v,hv,hsteps⟩:=hres
  have hsl:StoLe st.sto sto':=⟨hsc.lo,by have:=hsc.len;simp [sto1] at this;show st.sto.objs.length≤sto'.objs.length;omega,fun i hi=>by
   rw[hsc.keep i hi];show (st.sto.objs++[AObj.loop al])[i]?=_;rw[List.getElem?_append_left (by have:=h.lo;omega)]⟩
  refine ⟨.pan x,{ st with sto:=sto' },e,⟨w',Ψ',ρ',_,tmps,mk++ds,⟨hR3.wsat,hR3.objs,hR3.lt⟩,hmarks,hFw.trans hF3,gN (dP _ _) hpc,hsl,v,_,hv,(Steps.one hstep).trans hsteps⟩,fun y hy=>?_⟩;cases hy;exact ⟨sto',_,w',Ψ',ρ',_,mk++ds,rfl,hR3,hmarks,hFw.trans hF3,gN (dP _ _) hpc,hsl,v,_,hv,(Steps.one hstep).trans hsteps⟩
 |ret s =>
  obtain ⟨_,v,_,hsteps⟩:=hres;simp only at e
  split at e
  case h_2=>cases e
  rename_i al' hal';obtain ⟨bl,hbl,hor⟩:=hR3.objs.2 n _ hal'
  have hbl':bl=l:=by
   have:=hpc n l hyl
   rw[hbl] at this;exact Option.some.inj this
  subst hbl';cases hor with
  |loop _ _ rr hrr ho0 h00 hff hlr =>
  have fin:∀ (jump:Option Code) (ex:bM),al'.state≠.busy→al'.pend=jump→K ex { st with sto:={ sto' with objs:=sto'.objs.take n } }=some r →
    (∀ (w3:World),Arr P Ψ' ρ b cs items (lone (b.atR ⟨tmps,mk++ds⟩ ((jump.map Item.code).toList++items)) cs w3) tmps (mk++ds) w3 ex)→(∀ x,ex≠.pan x) →
    ∃ ex st',K ex st'=some r∧XEnd P ans fid B0 B1 w Ψ ρ ow st.sto b cs items (lone (b.atR ⟨tmps,ds⟩ (.code (.rangeFunc f params assign body)::items)) cs w) ex st'∧∀ x,ex=.pan x→aIt P ans fid B0 B1 w Ψ ρ ow st b cs (lone (b.atR ⟨tmps,ds⟩ (.code (.rangeFunc f params assign body)::items)) cs w) tmps x st':=fun jump ex hbusy hjump hK harr hnp=>by
   let w3:=w'.putObj l (.loop { rr with state:=.exhausted })
   have hend:(Instr.endLoop l).run P w'=.ok jump w3:=by
    rw[show jump=rr.pending by rw[hlr.pend,hjump]];exact run_endLoop hrr (by rw[hlr.state];exact hbusy)
   have hstep2:=stepR_endRangeFunc (P:=P) (b:=b) (a:=⟨tmps,mk++ds⟩) (k:=items) (cs:=cs) hend;have hρ'l:ρ'.length=sto'.objs.length:=hR3.objs.1;have hnl:n+1≤sto'.objs.length:=by have:=hsc.len;simp [sto1] at this;exact this
   have hpρ:pre ρ ρ':=gN (dP _ _) hpc;have htake:ρ'.take n=ρ:=by rw[jX hpρ (by omega),List.take_of_length_le (by omega)]
   have hos:=hR3.objs.front n (by omega);rw[htake] at hos
   have same:∀ kk i,¬ (kk=true∧i=n)→Same w' Ψ' (eY (ans fid).nt ow2 owr) w3 Ψ' (eY (ans fid).nt ow2 owr) kk i kk i:=fun kk i hk b' s hb' =>
    ⟨hb',World.putObj_heap_other (fun e=>by subst e;rw[ho0] at hb';simp only[Option.some.injEq,Prod.mk.injEq] at hb';exact hk ⟨hb'.1.symm,hb'.2.1.symm⟩),fun _ h=>h⟩
   have hlt3:∀ x,eY (ans fid).nt ow2 owr x≠none→x < w3.heap.size:=fun x hx=>by
    have:=hR3.lt x hx
    simpa [w3] using this
   have hR4:Rel P ans B0 w3 Ψ' ρ (eY (ans fid).nt ow2 owr) (ans fid) (sl (ans fid) st.tm ⟨[],{ sto' with objs:=sto'.objs.take n }⟩) tmps (sto'.objs.take n):=by
    refine ⟨h.rel.size,hR3.wsat.put hff,fun u=>?_,h.rel.refs,h.rel.boxes,?_,hlt3,by have:=hR3.base;simpa [w3] using this,h.rel.hi⟩
    ·have hF:Fr w Ψ ow w' Ψ' (eY (ans fid).nt ow2 owr):=hFw.trans hF3
     have hsl:=h.rel.slots u;rcases Nat.lt_or_ge u (ans fid).nt with hu|hu
     ·refine hsl.mono hF.le (aG _) (fun b' s hb'=>?_) (fun _ _ _=>rfl)
      have hb2:ow2 b'=some (false,u,s):=by
       have hlt:=h.rel.lt b' (by simp [hb']);show oset ow l _ b'=_;unfold oset;rw[if_neg (by show ¬ b'=w.heap.size+1;omega)];exact hb'
      have hbl':=h.rel.lt b' (by simp [hb']);have hb2lt:b' < w2.heap.size:=Nat.lt_of_lt_of_le hbl' hFw.size
      have hin:oP (ans fid).nt ow2 b'=none:=by
       simp only[oP,hb2];rw[if_neg (by omega)]
      have hr0:owr b'=none:=by
       cases e2:owr b' with
       |none=>rfl
       |some x=>rcases hFc.own b' (by simp [e2]) with h5|h5
                ·exact absurd hin h5
                ·omega
      have hk:=hFc.keep b' hb2lt hin;have hbne:b'≠l:=by show b'≠w.heap.size+1;omega
      refine ⟨by simp [eY,hr0,hb2,hu],?_,fun o ho=>?_⟩
      ·rw[show w3.heap[b']?=w'.heap[b']? from World.putObj_heap_other hbne,hk.1]
       exact (heap_alloc_old _ (by rw[hsz1];omega)).trans (heap_alloc_old _ hbl')
      ·rw[hk.2 o];exact ho
     ·show SRel w3 B0 Ψ' ρ (eY (ans fid).nt ow2 owr) tmps u (sl (ans fid) st.tm ⟨[],st.sto⟩ u) (tmps.getD u undef)
      rw[h.rel.hi u hu];exact .dead _
    ·exact hos.mono Ψ'.le_refl fun i hi=>same true i (by simp at hi;simp;omega)
   have hFr4:Fr w' Ψ' (eY (ans fid).nt ow2 owr) w3 Ψ' (eY (ans fid).nt ow2 owr):=Fr.put (by simp [ho0]) (fun _ h=>h)
   have hatE:AtE P ans fid B0 w3 Ψ' ρ (eY (ans fid).nt ow2 owr) { st with sto:={ sto' with objs:=sto'.objs.take n } } tmps ex:=by
    have hA:At P ans fid B0 w3 Ψ' ρ (eY (ans fid).nt ow2 owr) { st with sto:={ sto' with objs:=sto'.objs.take n } } tmps:=⟨hR4,h.nr,by
     show sto'.lo≤(sto'.objs.take n).length;have h1:=hsc.lo;have h2:=h.lo;rw[List.length_take,show min n sto'.objs.length=n by omega,h1];exact h2⟩
    cases ex with
    |pan x=>exact absurd rfl (hnp x)
    |norm=>exact hA
    |exit=>exact hA
    |ret=>exact hA
   refine ⟨ex,_,hK,⟨w3,Ψ',ρ,_,tmps,mk++ds,hatE,hmarks.mono hFr4,(hFw.trans hF3).trans hFr4,aG _,⟨hsc.lo,by simp;omega,fun i hi=>?_⟩,?_⟩,fun x hx=>absurd hx (hnp x)⟩
   ·show (sto'.objs.take n)[i]?=_
    have:=h.lo
    rw[List.getElem?_take,if_pos (by omega),hsc.keep i hi];show (st.sto.objs++[AObj.loop al])[i]?=_;rw[List.getElem?_append_left (by omega)]
   ·refine (harr w3).head ((Steps.one hstep).trans (hsteps.trans ?_))
    rw[show fr.finish v=b.atR ⟨tmps,mk++ds⟩ (.endRangeFunc l::items) from finish_atR_inRangeFunc l v];exact .one hstep2
  split at e
  ·rename_i hs hp
   exact fin none .norm (by rw[hs];simp) hp e (fun w3=>Steps.refl _ _) (by simp)
  ·rename_i hs hp
   exact fin (some .ret) .ret (by rw[hs];simp) hp e (fun w3=>⟨items,Steps.refl _ _⟩) (by simp)
  ·rename_i id hs hp
   exact fin (some (.exit id)) (.exit id) (by rw[hs];simp) hp e (fun w3=>⟨items,rfl,Steps.refl _ _⟩) (by simp)
  ·cases e
theorem cu (hcf:lS P ans B0 cf) {R:Type} {r:R} {K:bM→St→Option R} {f:Operand} {params:Array Tmp} {assign body:Code} (hb:b.fn=fid) (hro:b.roundOf=none) (h:At P ans fid B0 w Ψ ρ ow st tmps) (hm:Marks w ow B1 b ds) (hB:B1≤w.heap.size)
  (e:XK P ans cf lp fid (.rangeFunc f params assign body) st K=some r):∃ ex st',K ex st'=some r∧XEnd P ans fid B0 B1 w Ψ ρ ow st.sto b cs items (lone (b.atR ⟨tmps,ds⟩ (.code (.rangeFunc f params assign body)::items)) cs w) ex st':=by
 obtain ⟨ex,st',h1,h2,_⟩:=w9 (items:=items) (cs:=cs) hcf hb hro h hm hB e;exact ⟨ex,st',h1,h2⟩
theorem nJ (hcf:lS P ans B0 cf) (hlp:oi P ans B0 lp) (hdr:mO P ans cf) {R:Type} {r:R}:∀ (c:Code) {K:bM→St→Option R} {st:St} {w:World} {Ψ:HT} {ρ:List Nat} {ow:Own} {tmps:Array Value} {ds:List Deferred} {items:List Item},b.fn=fid→(b.roundOf=none∨cB c=true)→At P ans fid B0 w Ψ ρ ow st tmps→Marks w ow B1 b ds→B1≤w.heap.size →
  XK P ans cf lp fid c st K=some r→∃ e st',K e st'=some r∧XEnd P ans fid B0 B1 w Ψ ρ ow st.sto b cs items (lone (b.atR ⟨tmps,ds⟩ (.code c::items)) cs w) e st'
 |.skip,K,st,w,Ψ,ρ,ow,tmps,ds,items,hb,hr,h,hm,hB,e=>⟨.norm,st,e,w,Ψ,ρ,ow,tmps,ds,h,hm,Fr.refl _ _ _,aG _,StoLe.refl _,.one stepR_skip⟩
 |.label l,K,st,w,Ψ,ρ,ow,tmps,ds,items,hb,hr,h,hm,hB,e=>⟨.norm,st,e,w,Ψ,ρ,ow,tmps,ds,h,hm,Fr.refl _ _ _,aG _,StoLe.refl _,.one stepR_label⟩
 |.exit id,K,st,w,Ψ,ρ,ow,tmps,ds,items,hb,hr,h,hm,hB,e=>⟨.exit id,st,e,w,Ψ,ρ,ow,tmps,ds,h,hm,Fr.refl _ _ _,aG _,StoLe.refl _,items,rfl,Steps.refl _ _⟩
 |.ret,K,st,w,Ψ,ρ,ow,tmps,ds,items,hb,hr,h,hm,hB,e=>⟨.ret,st,e,w,Ψ,ρ,ow,tmps,ds,h,hm,Fr.refl _ _ _,aG _,StoLe.refl _,items,Steps.refl _ _⟩
 |.seq x y,K,st,w,Ψ,ρ,ow,tmps,ds,items,hb,hr,h,hm,hB,e=>by
  simp only[XK] at e;have hrx:b.roundOf=none∨cB x=true:=hr.imp id fun h=>by simp only[cB,Bool.and_eq_true] at h;exact h.1
  have hry:b.roundOf=none∨cB y=true:=hr.imp id fun h=>by simp only[cB,Bool.and_eq_true] at h;exact h.2
  obtain ⟨e1,st1,h1,hx⟩:=nJ hcf hlp hdr x (items:=.code y::items) hb hrx h hm hB e;have hx:=hx.head (.one stepR_seq);cases e1 with
  |norm =>
   obtain ⟨w1,Ψ1,ρ1,ow1,tmps1,ds1,a1,a2,a3,a4,a5,a6⟩:=hx;obtain ⟨e2,st2,h2,hy⟩:=nJ hcf hlp hdr y (items:=items) hb hry a1 a2 (Nat.le_trans hB a3.size) h1;exact ⟨e2,st2,h2,(hy.pre a3 a4 a5).head a6⟩
  |exit id=>exact ⟨_,_,h1,hx.out (by simp) (fun id' _=>rfl)⟩
  |ret=>exact ⟨_,_,h1,hx.out (by simp) (fun id' _=>rfl)⟩
  |pan v=>exact ⟨_,_,h1,hx.out (by simp) (fun id' _=>rfl)⟩
 |.cond c x y,K,st,w,Ψ,ρ,ow,tmps,ds,items,hb,hr,h,hm,hB,e=>by
  simp only[XK] at e;obtain ⟨tc,hsc,_⟩:=bH (ds:=ds) h.rel c;obtain ⟨t,e,hv,_⟩:=yV hsc e;have hrx:b.roundOf=none∨cB x=true:=hr.imp id fun h=>by simp only[cB,Bool.and_eq_true] at h;exact h.1
  have hry:b.roundOf=none∨cB y=true:=hr.imp id fun h=>by simp only[cB,Bool.and_eq_true] at h;exact h.2
  have hs:=stepR_cond (P:=P) (b:=b) (a:=⟨tmps,ds⟩) (k:=items) (cs:=cs) (w:=w) (x:=x) (y:=y) hv;cases t with
  |true =>
   obtain ⟨e2,st2,h2,hy⟩:=nJ hcf hlp hdr x (items:=items) hb hrx h hm hB e;exact ⟨e2,st2,h2,hy.head (.one hs)⟩
  |false =>
   obtain ⟨e2,st2,h2,hy⟩:=nJ hcf hlp hdr y (items:=items) hb hry h hm hB e;exact ⟨e2,st2,h2,hy.head (.one hs)⟩
 |.block id c,K,st,w,Ψ,ρ,ow,tmps,ds,items,hb,hr,h,hm,hB,e=>by
  simp only[XK] at e;have hrc:b.roundOf=none∨cB c=true:=hr.imp (fun h=>h) fun h=>by simpa only [cB] using h
  obtain ⟨e1,st1,h1,hx⟩:=nJ hcf hlp hdr c (items:=.inBlock id::items) hb hrc h hm hB e;have hx:=hx.head (.one stepR_block);cases e1 with
  |norm =>
   obtain ⟨w1,Ψ1,ρ1,ow1,tmps1,ds1,a1,a2,a3,a4,a5,a6⟩:=hx;exact ⟨.norm,st1,h1,w1,Ψ1,ρ1,ow1,tmps1,ds1,a1,a2,a3,a4,a5,Steps.trans a6 (.one stepR_inBlock)⟩
  |exit id' =>
   simp only at h1;cases hid:Nat.beq id' id with
   |true =>
    rw[hid] at h1;have hid':=Nat.eq_of_beq_eq_true hid;subst hid';obtain ⟨w1,Ψ1,ρ1,ow1,tmps1,ds1,a1,a2,a3,a4,a5,k,a6,a7⟩:=hx;refine ⟨.norm,st1,h1,w1,Ψ1,ρ1,ow1,tmps1,ds1,a1,a2,a3,a4,a5,Steps.trans a7 (.one (stepR_exit ?_))⟩;rw[a6];simp [exitTo]
   |false =>
    rw[hid] at h1;refine ⟨_,_,h1,hx.out (by simp) (fun id2 he=>?_)⟩;cases he
    have:¬ id=id':=fun h=>by subst h;rw[show Nat.beq id id=true from Nat.beq_refl id] at hid;cases hid
    simp [exitTo,this]
  |ret=>exact ⟨_,_,h1,hx.out (by simp) (fun id' he=>by cases he)⟩
  |pan v=>exact ⟨_,_,h1,hx.out (by simp) (fun id' he=>by cases he)⟩
 |.scope c,K,st,w,Ψ,ρ,ow,tmps,ds,items,hb,hr,h,hm,hB,e=>by
  simp only[XK] at e;have hrc:b.roundOf=none∨cB c=true:=hr.imp (fun h=>h) fun h=>by simpa only [cB] using h
  obtain ⟨e1,st1,h1,hx⟩:=nJ hcf hlp hdr c (items:=.inScope c::items) hb hrc h hm hB e;have hx:=hx.head (.one lV);cases e1 with
  |norm =>
   obtain ⟨w1,Ψ1,ρ1,ow1,tmps1,ds1,a1,a2,a3,a4,a5,a6⟩:=hx;exact ⟨.norm,st1,h1,w1,Ψ1,ρ1,ow1,tmps1,ds1,a1,a2,a3,a4,a5,Steps.trans a6 (.one jZ)⟩
  |exit id'=>exact ⟨_,_,h1,hx.out (by simp) (fun id' _=>rfl)⟩
  |ret=>exact ⟨_,_,h1,hx.out (by simp) (fun id' he=>by cases he)⟩
  |pan v=>exact ⟨_,_,h1,hx.out (by simp) (fun id' he=>by cases he)⟩
 |.loop c,K,st,w,Ψ,ρ,ow,tmps,ds,items,hb,hr,h,hm,hB,e=>by
  simp only[XK] at e;obtain ⟨⟨e1,st1⟩,hl,e⟩:=aC e;have hrc:b.roundOf=none∨cB c=true:=hr.imp (fun h=>h) fun h=>by simpa only [cB] using h
  obtain ⟨hA,hs⟩:=h.head c
  have:=hlp _ _ _ _ _ hl B1 w Ψ ρ ow tmps ds b cs items hb hrc hA hm hB
  rw[hs] at this;exact ⟨e1,st1,e,this.head (.one stepR_loop)⟩
 |.region id ops false,K,st,w,Ψ,ρ,ow,tmps,ds,items,hb,hr,h,hm,hB,e=>by
  simp only[XK] at e;rw[n9] at e;rcases pE (ds:=ds) (b:=b) (items:=items) (cs:=cs) hcf h.nr (rs:=⟨[],st.sto⟩) h.rel h.lo e with ⟨rs',w',Ψ',ρ',ow',tmps',a1,a2,a3,a4,a5,a6⟩|⟨x,rs',v,w',Ψ',ρ',ow',tmps',todo',a1,a2,a3,a4,a5,a6,a7⟩
  ·exact ⟨.norm,_,a1,w',Ψ',ρ',ow',tmps',ds,At.commit h.nr a2 (by rw[a5.lo];exact Nat.le_trans h.lo a5.len) rfl,hm.mono a3,a3,a4,a5,(Steps.one stepR_region).trans (a6.trans (.one stepR_region_end))⟩
  ·exact ⟨.pan x,_,a1,w',Ψ',ρ',ow',tmps',ds,⟨a2.wsat,a2.objs,a2.lt⟩,hm.mono a4,a4,a5,a6,v,todo',a3,(Steps.one stepR_region).trans a7⟩
 |.region id ops true,K,st,w,Ψ,ρ,ow,tmps,ds,items,hb,hr,h,hm,hB,e=>by
  simp only[XK] at e;cases hmac:vR (ans fid) id with
  |true =>
   rw[hmac] at e;obtain ⟨st',w',Ψ',ow',tmps',a1,a2,a3,a4,a6⟩:=aGQ (ds:=ds) (b:=b) (items:=items) (cs:=cs) (id:=id) hdr.1 h e;exact ⟨.norm,st',a1,w',Ψ',ρ,ow',tmps',ds,a2,hm.mono a3,a3,aG _,a4,a6⟩
  |false =>
  rw[hmac] at e;simp only[cond_false] at e;obtain ⟨hg,e⟩:=aA e;simp only[Bool.and_eq_true] at hg;rw[n9] at e;have e:=hdr.2 R fid st.tm id ops _ ⟨[],st.sto⟩ r hg.1 hg.2 h.nr rfl (fun rs1 rs2 h1 h2=>by rw[pF _ _ h1,h2]) e (w.tape w.drawn (.order b.fn id));rw[show Region.linearise .any ops (w.tape w.drawn (.order b.fn id))=Region.schedule (P.follows .mixedOrders) ops (w.tape w.drawn (.order b.fn id)) by simp [Region.schedule,hdr.1]] at e
  let w1:World:={ w with drawn:=w.drawn+1 }
  have hw1:w1.heap=w.heap:=rfl;have hF1:Fr w Ψ ow w1 Ψ ow:=Fr.heap rfl rfl rfl rfl;have h1:=h.world hw1;rcases pE (ds:=ds) (b:=b) (items:=items) (cs:=cs) hcf h.nr (rs:=⟨[],st.sto⟩) h1.rel h1.lo e with ⟨rs',w',Ψ',ρ',ow',tmps',a1,a2,a3,a4,a5,a6⟩|⟨x,rs',v,w',Ψ',ρ',ow',tmps',todo',a1,a2,a3,a4,a5,a6,a7⟩
  ·exact ⟨.norm,_,a1,w',Ψ',ρ',ow',tmps',ds,At.commit h.nr a2 (by rw[a5.lo];exact Nat.le_trans h.lo a5.len) rfl,hm.mono (hF1.trans a3),hF1.trans a3,a4,a5,(Steps.one stepR_region_draw).trans (a6.trans (.one stepR_region_end))⟩
  ·cases a1
 |.rangeFunc f params assign body,K,st,w,Ψ,ρ,ow,tmps,ds,items,hb,hr,h,hm,hB,e=>by
  refine cu hcf hb (hr.resolve_right (by simp [cB])) h hm hB e
 |.goto _,K,st,w,Ψ,ρ,ow,tmps,ds,items,hb,hr,h,hm,hB,e=>by simp [XK] at e
 |.refuse _,K,st,w,Ψ,ρ,ow,tmps,ds,items,hb,hr,h,hm,hB,e=>by simp [XK] at e
theorem gl (hcf:lS P ans B0 cf) (hlp:oi P ans B0 lp) (hdr:mO P ans cf):oi P ans B0 (iB P ans cf lp):=by
 intro fid c st e st' hl B1 w Ψ ρ ow tmps ds b cs items hb hr h hm hB;obtain ⟨e1,st1,h1,hx⟩:=nJ hcf hlp hdr c (b:=b) (cs:=cs) (items:=.inLoop c::items) hb hr h hm hB hl;cases e1 with
 |norm =>
  obtain ⟨w1,Ψ1,ρ1,ow1,tmps1,ds1,a1,a2,a3,a4,a5,a6⟩:=hx;obtain ⟨hA,hs⟩:=At.head a1 c
  have:=hlp _ _ _ _ _ h1 B1 w1 Ψ1 ρ1 ow1 tmps1 ds1 b cs items hb hr hA a2 (Nat.le_trans hB a3.size)
  rw[hs] at this;exact (this.pre a3 a4 a5).head (Steps.trans a6 (.one stepR_inLoop))
 |exit id=>simp only[Option.some.injEq,Prod.mk.injEq] at h1;obtain ⟨rfl,rfl⟩:=h1;exact hx.out (by simp) (fun id' _=>rfl)
 |ret=>simp only[Option.some.injEq,Prod.mk.injEq] at h1;obtain ⟨rfl,rfl⟩:=h1;exact hx.out (by simp) (fun id' _=>rfl)
 |pan v=>simp only[Option.some.injEq,Prod.mk.injEq] at h1;obtain ⟨rfl,rfl⟩:=h1;exact hx.out (by simp) (fun id' _=>rfl)
end Go.AM
end
