/- Part B03 of the proof of one law of the program. -/
import Derived.Test.YtkmnkiekmlcfdaaGreatDoorA07
import Derived.Below
set_option linter.all false
section
namespace Go.AM
open Go.RowKit
variable {P:Program} {ans:FuncId→Ann} {B0:Nat}
def PureOK (P:Program) (f:FuncId) (args:List AVal) (res:AVal):Prop :=
 (∃ F,P.funcs[f]?=some F∧F.body.isSome=true)∧∀ (w:World) (Ψ:HT) (vs:Array Value),WSat Ψ w→args.length=vs.size→(∀ (i:Nat) a,args[i]?=some a→VRel Ψ [] a (vs.getD i undef)) →
  ∀ c cs,∃ w' Ψ' v,Fr w Ψ (fun _=>none) w' Ψ' (fun _=>none)∧WSat Ψ' w'∧VRel Ψ' [] res v∧Steps P (lone (Frame.enter P f vs .normal) (c::cs) w) (lone (c.finish v) cs w')
theorem PureOK.prim {f:FuncId} {args:List AVal} {res:AVal} (h:PureOK P f args res) (hl:∀ a∈args,lok 0 a=true):(∃ F,P.funcs[f]?=some F∧F.body.isSome=true) ∧
  ∀ sto w Ψ ρ ow vs,CallPre ans B0 w Ψ ρ ow (args.map .val) vs sto→∀ c cs,CallPost P ans B0 w Ψ ρ ow sto c cs (lone (Frame.enter P f vs .normal) (c::cs) w) (.ret (.val res)) sto:=by
 refine ⟨h.1,fun sto w Ψ ρ ow vs hp c cs=>?_⟩
 obtain ⟨w',Ψ',v,hf,hw,hv,hs⟩:=h.2 w Ψ vs hp.wsat (by simpa using hp.size) (fun i a ha=>by
  have h1:=hp.args i (.val a) (by simp [ha]);have h2:=hl a (List.mem_of_getElem? ha);cases h1 with
  |val _ _ h1=>simpa using h1.lok h2) c cs
 have hfr:Fr w Ψ ow w' Ψ' ow:=⟨hf.le,hf.size,fun b hb _=>hf.keep b hb rfl,fun b hb=>.inl hb,hf.os,hf.tape,hf.output⟩
 refine ⟨w',Ψ',ρ,ow,hfr,pre_refl _,hw,hp.objs.mono hf.le fun i _ b s hb=>?_,fun b hb=>Nat.lt_of_lt_of_le (hp.lt b hb) hf.size,⟨rfl,Nat.le_refl _,fun _ _=>rfl⟩,rfl,v,.val _ _ (hv.mono (HT.le_refl _) (pre_nil _)),hs⟩;have hb':=hp.lt b (by simp [hb])
 have:=hf.keep b hb' rfl
 exact ⟨hb,this.1,fun o ho=>by rw[this.2 o];exact ho⟩
theorem callPre0 {w:World} {Ψ:HT} {args:List Slot} {vs:Array Value} (hw:WSat Ψ w) (hl:args.length=vs.size) (hf:∀ s∈args,s.free=true) (ha:∀ (i:Nat) s,args[i]?=some s→SRel w w.heap.size Ψ [] (fun _=>none) #[] i s (vs.getD i undef)):CallPre ans w.heap.size w Ψ [] (fun _=>none) args vs ⟨[],0⟩ :=
 ⟨hw,Nat.le_refl _,fun b h=>absurd rfl h,hl,hf,ha,⟨rfl,fun i o h=>by simp at h⟩,Nat.le_refl _⟩
theorem callPost0 {w:World} {Ψ:HT} {c:Frame} {cs:List Frame} {m:Machine} {res:AVal} (h:CallPost P ans w.heap.size w Ψ [] (fun _=>none) ⟨[],0⟩ c cs m (.ret (.val res)) ⟨[],0⟩) :
  ∃ w' Ψ' v,Fr w Ψ (fun _=>none) w' Ψ' (fun _=>none)∧WSat Ψ' w'∧VRel Ψ' [] res v∧Steps P m (lone (c.finish v) cs w'):=by
 obtain ⟨w',Ψ',ρ',ow',hf,_,hw,ho,_,_,_,v,hs,hst⟩:=h;have hρ:ρ'=[]:=List.length_eq_zero_iff.1 ho.1;subst hρ;refine ⟨w',Ψ',v,⟨hf.le,hf.size,hf.keep,fun b hb=>absurd rfl hb,hf.os,hf.tape,hf.output⟩,hw,?_,hst⟩;cases hs with
 |val _ _ h=>exact h
theorem wsat_below {w w':World} {Ψ:HT} (hw:WSat Ψ w) (hb:Below w.heap.size w w'):WSat Ψ w':=⟨hw.glob,by
 obtain ⟨cs,t,fr,h1,h2⟩:=hw.len5;exact ⟨cs,t,fr,(hb.block 5 (hw.lt (hw.glob.pow 0 (by omega)))).trans h1,h2⟩,fun b o c e=>by
 obtain ⟨h1,v,h2,h3⟩:=hw.sat b o c e;exact ⟨h1,v,(cell_congr (hb.block b (hw.lt e)) o).trans h2,h3⟩⟩
theorem fr_below {w w':World} {Ψ:HT} (hb:Below w.heap.size w w'):Fr w Ψ (fun _=>none) w' Ψ (fun _=>none) :=
 ⟨HT.le_refl _,hb.size,fun b h _=>⟨hb.block b h,fun _=>rfl⟩,fun b h=>absurd rfl h,hb.os,hb.tape,hb.output⟩
theorem steps_of_calls {f:FuncId} {vs:Array Value} {w:World} {R:Value→World→Prop} (h:Calls P f vs w fun e w'=>∃ v,e=.returned v∧R v w') (c:Frame) (cs:List Frame) :
  ∃ w' v,R v w'∧Steps P (lone (Frame.enter P f vs .normal) (c::cs) w) (lone (c.finish v) cs w'):=by
 obtain ⟨e,w',fr,⟨v,rfl,hr⟩,hc,_,hl⟩:=h (c::cs);exact ⟨w',v,hr,Steps.trans hc (.one (step_leave_returned hl))⟩
theorem PureOK.ofCalls {f:FuncId} {args:List AVal} {res:AVal} (hF:∃ F,P.funcs[f]?=some F∧F.body.isSome=true)
  (h:∀ (w:World) (Ψ:HT) (vs:Array Value),WSat Ψ w→args.length=vs.size→(∀ (i:Nat) a,args[i]?=some a→VRel Ψ [] a (vs.getD i undef)) →
   Calls P f vs w fun e w'=>∃ v,e=.returned v∧VRel Ψ [] res v∧Below w.heap.size w w'):PureOK P f args res:=by
 refine ⟨hF,fun w Ψ vs hw hl ha c cs=>?_⟩;obtain ⟨w',v,⟨hv,hb⟩,hs⟩:=steps_of_calls (h w Ψ vs hw hl ha) c cs;exact ⟨w',Ψ,v,fr_below hb,wsat_below hw hb,hv,hs⟩
end Go.AM
end
section
namespace Go.AM
variable {P:Program} {ans:FuncId→Ann} {B0:Nat} {cf:Oracle} {lp:LpOracle} {pr:Prims}
def bodyStep (P:Program) (ans:FuncId→Ann) (cf:Oracle) (lp:LpOracle) (f:FuncId) (args:List Slot) (sto:Sto):Option (ARes×Sto) :=
 match P.funcs[f]? with
 |none=>none
 |some fn =>
  match fn.body with
  |none=>none
  |some c=>guardB (Nat.beq fn.ntmps (ans f).nt&&Nat.ble args.length fn.ntmps) <| XK P ans cf lp f c ⟨(ans f).keep.map fun t=>(args[t]?).getD .dead,sto⟩ fun e st =>
   match e with
   |.norm=>finish P (ans f) fn sto.objs.length st
   |.ret=>finish P (ans f) fn sto.objs.length st
   |.pan v=>some (.pan v,st.sto)
   |.exit _=>none
theorem bodyStep_ok (hcf:CfOK P ans B0 cf) (hlp:LpOK P ans B0 lp) (hdr:DrawnOK P ans cf) {f:FuncId} {args:List Slot} {sto:Sto} {res:ARes} {sto':Sto} (e:bodyStep P ans cf lp f args sto=some (res,sto')) :
  (∃ F,P.funcs[f]?=some F∧F.body.isSome=true)∧∀ w Ψ ρ ow vs,CallPre ans B0 w Ψ ρ ow args vs sto→∀ cs,Leave P ans B0 w Ψ ρ ow sto f cs (lone (Frame.enter P f vs .normal) cs w) res sto':=by
 simp only[bodyStep] at e
 split at e
 ·cases e
 rename_i fn hfn
 split at e
 ·cases e
 rename_i c hbody;obtain ⟨hg,e⟩:=guardB_ok e;simp only[Bool.and_eq_true] at hg;have hnt:fn.ntmps=(ans f).nt:=Nat.eq_of_beq_eq_true hg.1;have hal:args.length≤(ans f).nt:=by rw[←hnt];exact Nat.le_of_ble_eq_true hg.2
 refine ⟨⟨fn,hfn,by simp [hbody]⟩,fun w Ψ ρ ow vs hpre cs=>?_⟩
 let b:Frame:={ (default:Frame) with fn:=f,kind:=.normal,roundOf:=none }
 have henter:Frame.enter P f vs .normal=b.atR ⟨vs++Array.replicate ((ans f).nt - vs.size) undef,[]⟩ [.code c]:=by
  simp [Frame.enter,Frame.atR,hfn,hbody,b,hnt]
 rw[henter];have hρl:=hpre.objs.1;obtain ⟨ex,st',he,w1,Ψ1,ρ1,ow1,tmps1,ds1,a1,a2,a3,a4,a5,a6⟩:=XK_ok hcf hlp hdr c (b:=b) (cs:=cs) (items:=[]) (fid:=f) (B1:=w.heap.size) rfl (.inl rfl) (enter_at (P:=P) hpre hal) (Marks.nil w ow w.heap.size) (Nat.le_refl _) e;have hlo:=hpre.lo;have hlen:sto.objs.length≤st'.sto.objs.length:=a5.len
 have hret:At P ans f B0 w1 Ψ1 ρ1 ow1 st' tmps1→finish P (ans f) fn sto.objs.length st'=some (res,sto')→(∃ k,Steps P (lone (b.atR ⟨vs++Array.replicate ((ans f).nt - vs.size) undef,[]⟩ [.code c]) cs w) (lone { b.atR ⟨tmps1,ds1⟩ k with mode:=.returning } cs w1)) →
   Leave P ans B0 w Ψ ρ ow sto f cs (lone (b.atR ⟨vs++Array.replicate ((ans f).nt - vs.size) undef,[]⟩ [.code c]) cs w) res sto':=fun hA hfin ⟨k,hs⟩=>by
  obtain ⟨w2,p1,p2,p3,p4,p5,p6⟩:=marks_pop (P:=P) (cs:=cs) (fr:={ b.atR ⟨tmps1,ds1⟩ k with mode:=.returning }) a2 (by simp) rfl;have hA2:=hA.kept p2 p3;obtain ⟨s,v,ρ2,ow2,q1,q2,q3,q4,q5,q6,q6b,q7,q8,q9,q10⟩:=finish_ok hA2 hlen hfin;subst q1;refine ⟨w2,Ψ1,ρ2,ow2,_,(a3.kept (Nat.le_refl _) p2 p3 p4 p5 p6).trans q6,pre_of_take a4 hρl.symm q10,hA2.rel.wsat,q5,fun b hb=>?_,⟨q7.trans a5.lo,q8,fun i hi=>(q9 i (by omega)).trans (a5.keep i hi)⟩,hs.trans p1,rfl,q2,v,q4,rfl,rfl,rfl,fn,hfn,q3⟩;exact hA2.rel.lt b (q6b b hb)
 cases ex with
 |norm=>exact hret a1 he ⟨[],Steps.trans a6 (.one (stepR_end rfl))⟩
 |ret=>obtain ⟨k,hk⟩:=a6;exact hret a1 he ⟨_,hk.trans (.one (stepR_ret rfl))⟩
 |exit id=>cases he
 |pan x =>
  simp only[Option.some.injEq,Prod.mk.injEq] at he;obtain ⟨rfl,rfl⟩:=he;obtain ⟨v,k,hv,hs⟩:=a6;obtain ⟨w2,p1,p2,p3,p4,p5,p6⟩:=marks_pop (P:=P) (cs:=cs) (fr:={ b.atR ⟨tmps1,ds1⟩ k with mode:=.panicking [{ v,recovered:=false }] }) a2 (by simp) rfl;have hr2:=Rest.kept a1 p2 p3;exact ⟨w2,Ψ1,ρ1,ow1,_,a3.kept (Nat.le_refl _) p2 p3 p4 p5 p6,a4,hr2.wsat,hr2.objs,hr2.lt,a5,hs.trans p1,rfl,v,hv,rfl,rfl,fn,hfn⟩
theorem cfW_ok (E:Env P ans B0 pr):CfOK P ans B0 (cfW P ans pr) where
 fn:=fun f args sto res sto' e=>by
  obtain ⟨n,hn⟩:=cfW_some.1 e;exact (run_ok E n).1.fn _ _ _ _ _ hn
 yld:=fun i args sto res sto' e=>by
  obtain ⟨n,hn⟩:=cfW_some.1 e;exact (run_ok E n).1.yld _ _ _ _ _ hn
theorem lpW_ok (E:Env P ans B0 pr):LpOK P ans B0 (lpW P ans pr):=fun fid c st e st' h=>by
 obtain ⟨n,hn⟩:=lpW_some.1 h;exact (run_ok E n).2 fid c st e st' hn
theorem cfW_prim:PrimCf ans (cfW P ans pr):=fun f args h=>by
 cases hp:pr f args with
 |none=>exact ⟨none,by simp,fun sto=>by rw[cfW_eq];simp [callStep,hp,h]⟩
 |some o =>
  refine ⟨o.bind primOk,fun s hs=>?_,fun sto=>by rw[cfW_eq];simp [callStep,hp]⟩;obtain ⟨r,_,hs⟩:=bind_ok hs;cases r with
  |pan v=>cases hs
  |ret s'=>obtain ⟨hg,hs⟩:=guardB_ok hs;cases hs;exact hg
theorem body_post (E:∀ B0,Env P ans B0 pr) {f:FuncId} {args:List Slot} {res:AVal} (e:bodyStep P ans (cfW P ans pr) (lpW P ans pr) f args ⟨[],0⟩=some (.ret (.val res),⟨[],0⟩)) :
  (∃ F,P.funcs[f]?=some F∧F.body.isSome=true)∧∀ (w:World) (Ψ:HT) (vs:Array Value),CallPre ans w.heap.size w Ψ [] (fun _=>none) args vs ⟨[],0⟩→∀ c cs,∃ w' Ψ' v,Fr w Ψ (fun _=>none) w' Ψ' (fun _=>none)∧WSat Ψ' w'∧VRel Ψ' [] res v∧Steps P (lone (Frame.enter P f vs .normal) (c::cs) w) (lone (c.finish v) cs w'):=by
 have key:=fun B0=>bodyStep_ok (cfW_ok (E B0)) (lpW_ok (E B0)) ((E B0).drawn _ cfW_prim) e
 exact ⟨(key 0).1,fun w Ψ vs hp c cs=>callPost0 ((key w.heap.size).2 w Ψ [] (fun _=>none) vs hp (c::cs)).post⟩
theorem tBody {fn:Func} {f:FuncId} {args:List Slot} {c:Code} {tm:List Slot} {sto:Sto} {x:ARes×Sto} (h2:P.funcs[f]?=some fn) (hb:fn.body=some c) (hg:(Nat.beq fn.ntmps (ans f).nt&&Nat.ble args.length fn.ntmps)=true) (ht:((ans f).keep.map fun t=>(args[t]?).getD .dead)=tm)
  (k:XK P ans cf lp f c ⟨tm,sto⟩ (KF P ans f fn sto.objs.length)=some x):bodyStep P ans cf lp f args sto=some x:=by
 subst ht;simp only[bodyStep,h2,hb,hg,guardB,cond_true];exact k
theorem PureOK.ofBody (E:∀ B0,Env P ans B0 pr) {f:FuncId} {args:List AVal} {res:AVal} (e:bodyStep P ans (cfW P ans pr) (lpW P ans pr) f (args.map .val) ⟨[],0⟩=some (.ret (.val res),⟨[],0⟩)):PureOK P f args res:=by
 have key:=body_post E e;refine ⟨key.1,fun w Ψ vs hw hl ha c cs=>key.2 w Ψ vs (callPre0 hw (by simpa using hl) (fun s hs=>?_) (fun i s hs=>?_)) c cs⟩
 ·obtain ⟨a,_,rfl⟩:=List.mem_map.1 hs;rfl
 ·rw[List.getElem?_map,Option.map_eq_some_iff] at hs
  obtain ⟨a,ha',rfl⟩:=hs;exact .val _ _ (ha i a ha')
end Go.AM
end
