import Derived.Test.YtoiocfngjchdiaaGreatDoorC06
import Derived.Lib.Bytealg
set_option linter.all false
noncomputable section
namespace Go.CM
section
variable {P:Program}{w0:cL}{w w':World}{J J':ak}{h h':T O}{nx nx':Q}{tm:T V}{tmps:Array Value}{r v:V}{ops:Array Oper}{n β:Nat}{f:Q}{dk:Bool}{rd:Option Q}{ds:List Df}{k:K}{cs:List Fr}{fr b:Frame}{frs:List Frame}{c0:Frame}{cs0:List Frame}{ih:FQ}{fe:Q->CF}{ks:List Item}{AV:List Deferred}
section steps
variable {a:Act}{g:Operand}{ps:Array Tmp}{assign body:Code}{l:Nat}{mark:List Deferred}{w₁ w₁' w₂:World}{d:Deferred}{cs:List Frame}
theorem a72{u:Value}(he:(Instr.enterLoop b.fn a.tmps ps assign body b.roundOf).run P w=.ok (l,mark) w₁)(B7:(resolve a.eval (rangeCall g l) 0).run P w₁=.ok d w₁')(hinv:(invoke d.target d.args).run P w₁'=.ok (.value u) w₂) :
  step P (lone (b.atR a (.code (.rangeFunc g ps assign body)::ks)) cs w)=.next (lone ((b.atR { a with defers:=mark++a.defers } (.inRangeFunc l::ks)).finish u) cs w₂) :=
 step_lone_go (by
  have GD:=Frame.eval_atR b { a with defers:=mark++a.defers } (.inRangeFunc l::ks);simp only[Frame.atR] at GD;have Jt:Sem.run P (resolve ({ tmps:=a.tmps,defers:=mark++a.defers }:Act).eval { callee:=.value g,args:=#[.const (.func (.yield l) #[] #[])],argTypes:=#[] } 0) w₁=.ok d w₁':=B7;simp[stepG,stepG.exec,Frame.atR,Sem.runT_eq,he,GStep.bare_after,stepG.apply,GD,Sem.run_bind,Jt,hinv,Result.andThen])
theorem a71{l':Nat}{gg:FuncId}{tt:Array Value}{x y:Code}(he:(Instr.enterLoop b.fn a.tmps ps assign body b.roundOf).run P w=.ok (l,mark) w₁)(B7:(resolve a.eval (rangeCall g l) 0).run P w₁=.ok d w₁')(hinv:(invoke d.target d.args).run P w₁'=.ok (.round l' gg tt x y) w₂) :
  step P (lone (b.atR a (.code (.rangeFunc g ps assign body)::ks)) cs w)=.next (lone (Frame.round l' gg tt x y .normal) (b.atR { a with defers:=mark++a.defers } (.inRangeFunc l::ks)::cs) w₂) :=
 step_lone_go (by
  have GD:=Frame.eval_atR b { a with defers:=mark++a.defers } (.inRangeFunc l::ks);simp only[Frame.atR] at GD;have Jt:Sem.run P (resolve ({ tmps:=a.tmps,defers:=mark++a.defers }:Act).eval { callee:=.value g,args:=#[.const (.func (.yield l) #[] #[])],argTypes:=#[] } 0) w₁=.ok d w₁':=B7;simp[stepG,stepG.exec,Frame.atR,Sem.runT_eq,he,GStep.bare_after,stepG.apply,GD,Sem.run_bind,Jt,hinv,Result.andThen])
end steps
theorem Z_(C4:j_ P w0 fe)(hx:mG P)(G:Good P w0 ih){g:Operand}{ps:Array Tmp}{assign body:Code}{w2:World}{J2:ak}{h2:T O}{n2:Q}{gq:Q}{fs caps:List V}{ua ub:List Value}{lq:Q}{bl N:Nat}{mark:List Deferred}{FP:List Df}
  (C:Ctx P w0 w2 J2 h2 β n2 f dk rd FP cs frs b (mark++AV)) (hk:KS P (nt P f.nat) k ks) (hT:TR J2 (nt P f.nat) tm tmps) (hg:ev tmps AV g=.func (.func gq.nat) ⟨ua⟩ ⟨ub⟩) (h1:a_ J2 fs ua) (h3:a_ J2 caps ub) (hl:J2 lq=some (bl,N))
  (he:(Instr.enterLoop b.fn tmps ps assign body b.roundOf).run P w=.ok (bl,mark) w2)
  (e:fZ fe ih gq (fs++(.bN lq::caps)) false (.mk f dk rd FP tm (.mn lq k)::cs) h2 n2=.ok v) :
  cb P w0 (lone (b.atR ⟨tmps,AV⟩ (.code (.rangeFunc g ps assign body)::ks)) (frs++c0::cs0) w) c0 cs0 v:=by
 have e':cY fe ih (.fn gq fs caps) [.bN lq] (.mk f dk rd FP tm (.mn lq k)::cs) h2 n2=.ok v:=by
  simp only[cY,eS];exact e
 have II:VR J2 (.fn gq fs caps) (.func (.func gq.nat) ⟨ua⟩ ⟨ub⟩):=.fn _ _ _ _ _ h1.1 h3.1 h1.2 h3.2;have HE:a_ J2 [.bN lq] [.func (.yield bl) #[] #[]]:=.cons (.bN _ _ _ hl) .nil
 have hS:lh P J2 h2 (.mk f dk rd FP tm (.mn lq k)::cs) (b.atR ⟨tmps,mark++AV⟩ (.inRangeFunc bl::ks)::frs) n2.nat :=
  .cons J2 J2 h2 h2 f dk rd FP tm _ cs _ frs β n2.nat n2 ⟨C.le,b,mark++AV,tmps,_,C.B,C.D,C.rn,.mn lq bl N k ks hl hk,hT,rfl⟩ (Ae _) (ec.refl _ _ _) C.S
 obtain⟨dd,LQ,D1⟩:=jJ (c0:=c0) (cs0:=cs0) C4 hx G C.H II HE hS e'
 have B7:(resolve (ev tmps AV) (rangeCall g bl) 0).run P w2=.ok dd w2:=by
  rw[<-LQ];simp[resolve,rangeCall,hg];rfl
 rcases D1 with⟨gg,all,i1,i2⟩|⟨ll,gg,tt,x,y,i1,i2⟩|⟨x,u,i1,i2,i3⟩
 ·exact cb.steps (Steps.one (stepR_rangeFunc (a:=⟨tmps,AV⟩) he B7 i1)) i2
 ·exact cb.steps (Steps.one (a71 (a:=⟨tmps,AV⟩) he B7 i1)) i2
 ·refine cb.steps (Steps.one (a72 (a:=⟨tmps,AV⟩) he B7 i1)) ?_
  simp only[mQ] at i3;exact C.go (fr:=b.atR ⟨tmps,mark++AV⟩ (.endRangeFunc bl::ks)) G (.oZ lq bl N k ks hl hk) ⟨hT,rfl⟩ i3
theorem aTm(C4:j_ P w0 fe)(hx:mG P)(G:Good P w0 ih){g:Operand}{ps:Array Tmp}{assign body:Code}(C:Ctx P w0 w J h β nx f dk rd ds cs frs b AV)(hk:KS P (nt P f.nat) k ks)(hT:TR J (nt P f.nat) tm tmps)
  (e:mA ih f dk rd ds tm (cZ P (nt P f.nat) (.rangeFunc g ps assign body)) k cs h nx fe=.ok v):cb P w0 (lone (b.atR ⟨tmps,AV⟩ (.code (.rangeFunc g ps assign body)::ks)) (frs++c0::cs0) w) c0 cs0 v:=by
 simp only[cZ] at e
 split at e
 ·rename_i YH
  have PF:∀t∈ps.toList,t<nt P f.nat:=λt ht=>dR ((Au.1 YH) t ht)
  simp only[mA] at e;obtain⟨fv,LN,e⟩:=fJ e;have II:=iT (ds:=AV) C.H.jt (λt _=>hT.rel t) LN
  split at e
  case h_2=>cases e
  rename_i gq fs caps;obtain⟨ua,ub,hg,h1,h3⟩:=II.uu;have D0:=C.H.fresh nx (Ae _);have hS1:nx.succ.nat=nx.nat+1:=Q.kl _;rw[eS] at e;cases rd with
  |none =>
   simp only[c8,dC] at e
   have DI:b.roundOf=none:=by
    have:=C.B.ro
    cases GF:b.roundOf with
    |none=>rfl
    |some bl=>rw[GF] at this;exact this.elim
   obtain⟨H1,K1⟩:=C.H.make (x:=.deferred (some [])) (N:=0) (ob:=.kg false) (.kg false _ _ C.H.size (AM.heap_alloc_new _));have LQ:(J.set nx w.heap.size 0) nx=some (w.heap.size,0):=ak.nh
   let r0:Loop:={ state:=.ready,pending:=none,fn:=b.fn,tmps:=tmps,params:=ps,assign:=assign,body:=body,defers:=w.heap.size }
   let w1:=w.alloc (.deferred (some []))
   have a4N:=H1.fresh nx.succ (Ae _);have F0:=ak.mz (b:=w1.heap.size) (N:=0) a4N
   have CW:LR P ((J.set nx w.heap.size 0).set nx.succ w1.heap.size 0) (.mk 0 .none (qn f.nat) tm (ps.toList.map qn) (cZ P (nt P f.nat) assign) (cZ P (nt P f.nat) body) nx) r0 :=
    LR.mk 0 .none f.nat tm nx r0 0 .ready .none C.B.fn (hT.mono (ak.le_trans K1.le F0)) PF (F0 _ _ LQ)
   rw[iF] at CW;obtain⟨H2,K2⟩:=H1.make (x:=.loop r0) (N:=0) (.loop _ r0 _ _ H1.size (AM.heap_alloc_new _) CW)
   have Sz:ec β J h ((J.set nx w.heap.size 0).set nx.succ w1.heap.size 0) ((h.put .dead (.kg false) nx).put .dead (.loop (.mk 0 .none f tm (ps.toList.map qn) (cZ P (nt P f.nat) assign) (cZ P (nt P f.nat) body) nx)) nx.succ) :=
    (K1.down C.le).trans (K2.down (by have:=C.le;omega))
   have C2:=C.keep H2 (by rw[Q.kl,Q.kl];omega) Sz;have a4d:=mg.ml nx w.heap.size 0 ds AV (F0 _ _ LQ) C2.D;have C3:Ctx P w0 _ _ _ β _ f dk none (.ml nx::ds) cs frs b ([{ target:=.collected w.heap.size,args:=#[] }]++AV):=⟨C2.H,C2.le,C2.B,a4d,λh0=>absurd rfl h0,C2.S⟩
   refine Z_ C4 hx G C3 hk (hT.mono Sz.le) hg (h1.mono Sz.le) (h3.mono Sz.le) (lq:=nx.succ) (bl:=w1.heap.size) (N:=0) ak.nh ?_ e;rw[DI,run_enterLoop_outer];simp[w1,r0]
  |some lo =>
   simp only[bW] at e;obtain⟨st,pend,fn,tm',Xi,QZ,Gw,CH,DA,e⟩:=fF e;simp only[c8,dC] at e;have DI:=C.B.ro;cases GF:b.roundOf with
   |none=>rw[GF] at DI;exact DI.elim
   |some blo =>
   rw[GF] at DI;obtain⟨No,AP⟩:=DI;obtain⟨r,hw,CW,hB,AL⟩:=C.H.loop AP DA;cases CW with
   |mk _ _ GH _ _ _ N' a1 a2 a3 a4 a5 a6 =>
   let r0:Loop:={ state:=.ready,pending:=none,fn:=b.fn,tmps:=tmps,params:=ps,assign:=assign,body:=body,defers:=r.defers }
   have F0:=ak.mz (b:=w.heap.size) (N:=0) D0
   have CW:LR P (J.set nx w.heap.size 0) (.mk 0 .none (qn f.nat) tm (ps.toList.map qn) (cZ P (nt P f.nat) assign) (cZ P (nt P f.nat) body) CH) r0 :=
    LR.mk 0 .none f.nat tm CH r0 N' .ready .none C.B.fn (hT.mono F0) PF (F0 _ _ a6)
   rw[iF] at CW;obtain⟨H2,K2⟩:=C.H.make (x:=.loop r0) (N:=0) (.loop _ r0 _ _ C.H.size (AM.heap_alloc_new _) CW);have C2:=C.keep H2 (by rw[Q.kl];omega) (K2.down C.le);have C3:Ctx P w0 _ _ _ β _ f dk (some lo) ds cs frs b ([]++AV):=C2;refine Z_ C4 hx G C3 hk (hT.mono K2.le) hg (h1.mono K2.le) (h3.mono K2.le) (lq:=nx) (bl:=w.heap.size) (N:=0) ak.nh ?_ e;rw[GF];simp[Instr.enterLoop,Sem.run_bind,run_getLoop hw,run_newObj_alloc,Result.andThen,r0]
 ·cases e
theorem aMp(G:Good P w0 ih){l:Q}{bl N:Nat}(C:Ctx P w0 w J h β nx f dk rd ds cs frs b AV)(hk:KS P (nt P f.nat) k ks)(hT:TR J (nt P f.nat) tm tmps)(hl:J l=some (bl,N))
  (e:aC fe ih f dk rd ds tm (.oZ l k) cs h nx=.ok v):cb P w0 (lone (b.atR ⟨tmps,AV⟩ (.endRangeFunc bl::ks)) (frs++c0::cs0) w) c0 cs0 v:=by
 simp only[aC,bW] at e;obtain⟨st,pend,fn,tm',ps,B3,body,CH,DA,e⟩:=fF e;obtain⟨A8,e⟩:=bQ e;rw[c8] at e;obtain⟨r,hw,CW,hB,AL⟩:=C.H.loop hl DA;cases CW with
 |mk _ _ GH _ _ _ N' h1 h2 h3 h4 h5 h6 =>
 have Hm:r.state≠.busy:=λhb=>by rw[hb] at h1;cases h1;cases A8
 have KC:LR P J (.mk 3 pend (qn GH) tm' (r.params.toList.map qn) (cZ P (nt P GH) r.assign) (cZ P (nt P GH) r.body) CH) { r with state:=.exhausted } :=
  LR.mk 3 pend GH tm' CH { r with state:=.exhausted } N' .exhausted h2 h3 h4 h5 h6
 obtain⟨H',K⟩:=C.H.gv hl DA hB AL KC;have C':=C.keep H' (Ae _) (K.down C.le);refine cb.steps (Steps.one (stepR_endRangeFunc (a:=⟨tmps,AV⟩) (run_endLoop hw Hm))) ?_
 have main:∀jp,JR pend jp->cb P w0 (lone (b.atR ⟨tmps,AV⟩ ((jp.map Item.code).toList++ks)) (frs++c0::cs0) (w.putObj bl (.loop { r with state:=.exhausted }))) c0 cs0 v:=λjp hj=>by
  cases hj with
  |none=>exact C'.plain G hk hT e
  |ret=>exact C'.plain G (.code .ret _ _ hk) hT e
  |exit id=>exact C'.plain G (.code (.exit id) _ _ hk) hT e
 exact main _ h2
theorem aCp(G:Good P w0 ih)(C:Ctx P w0 w J h β nx f dk rd ds cs frs b AV)(hk:KS P (nt P f.nat) k ks)(hT:TR J (nt P f.nat) tm tmps)
  (e:aC fe ih f dk rd ds tm (.begin k) cs h nx=.ok v):cb P w0 (lone (b.atR ⟨tmps,AV⟩ (.beginRound::ks)) (frs++c0::cs0) w) c0 cs0 v:=by
 simp only[aC] at e
 split at e
 ·cases e
 rename_i l;rw[bW] at e;obtain⟨st,pend,fn,tm',ps,B3,body,CH,DA,e⟩:=fF e;obtain⟨A8,e⟩:=bQ e;rw[c8] at e;have DI:=C.B.ro;cases GF:b.roundOf with
 |none=>rw[GF] at DI;exact DI.elim
 |some bl =>
 rw[GF] at DI;obtain⟨N,hl⟩:=DI;obtain⟨r,hw,CW,hB,AL⟩:=C.H.loop hl DA;cases CW with
 |mk _ _ GH _ _ _ N' h1 h2 h3 h4 h5 h6 =>
 have fc:r.state=.ready:=by
  have:=Aa A8
  subst this
  revert h1
  cases r.state<;>intro h1<;>first|rfl|cases h1
 have KC:LR P J (.mk 1 pend (qn GH) tm' (r.params.toList.map qn) (cZ P (nt P GH) r.assign) (cZ P (nt P GH) r.body) CH) { r with state:=.busy } :=
  LR.mk 1 pend GH tm' CH { r with state:=.busy } N' .busy h2 h3 h4 h5 h6
 obtain⟨H',K⟩:=C.H.gv hl DA hB AL KC;have C':=C.keep H' (Ae _) (K.down C.le);exact cb.steps (Steps.one (stepR_beginRound (a:=⟨tmps,AV⟩) GF (run_beginRound hw fc))) (C'.plain G hk hT e)
end
section
open Go.AM (k8 rG iJ mf qj run_underlying)
variable {P:Program}{w0:cL}{w w':World}{J J':ak}{h h':T O}{nx nx':Q}{tm:T V}{tmps:Array Value}{r v:V}{ops:Array Oper}{n β:Nat}{f:Q}{dk:Bool}{rd:Option Q}{ds:List Df}{k:K}{cs:List Fr}{fr b:Frame}{frs:List Frame}{c0:Frame}{cs0:List Frame}{ih:FQ}{fe:Q->CF}{ks:List Item}{AV:List Deferred}
theorem kA(H:HR P w0 J h nx w)(hT:TR J n tm tmps):∀{rl:List ResultVar}{rs:List RV}{k:List V->aa},sY P rl=some rs->fG tm h rs k=.ok r->∃vs us,k vs=.ok r/\(rl.mapM (k8 tmps)).run P w=.ok us w/\a_ J vs us
 |[],rs,k,hc,e=>by
  simp only[sY,Am] at hc;subst hc;exact⟨[],[],e,by simp,.nil⟩
 |.tmp t::rl,rs,k,hc,e=>by
  simp only[sY,Aq] at hc;obtain⟨rs',hc,rfl⟩:=hc;simp only[fG,dI] at e;obtain⟨vs,us,h1,h2,h3⟩:=kA H hT hc e;refine⟨_,tmps.getD t Go.undef::us,h1,?_,.cons (hT.rel t) h3⟩;simp only[Es,k8,Sem.run_bind];simp[h2]
 |.cell a t::rl,rs,k,hc,e=>by
  simp only[sY] at hc;obtain⟨g,hg,DB⟩:=dQ hc;obtain⟨s,hs,Rx⟩:=dQ DB
  split at Rx
  ·rename_i az
   simp only[Aq] at Rx;obtain⟨rs',YS,rfl⟩:=Rx;simp only[fG,dI] at e;obtain⟨o,off,ho,e⟩:=bw e;have hp:=hT.rel a;rw[show tm.at a=.ptr o off from ho] at hp;obtain⟨b,N,hv,hb⟩:=hp.ns;cases g with
   |true =>
    simp only at e;obtain⟨m,tt,h1,h2,e3⟩:=ek e;obtain⟨vs,g1,g2,g3,g4⟩:=H.cells hb h1 h2;obtain⟨CL,us,i1,i2,i3⟩:=kA H hT YS e3;refine⟨_,.agg ⟨vs⟩::us,i1,?_,.cons (g3.agg g4) i3⟩;simp only[Es,k8,Sem.run_bind,hv];simp[asAddr,AM.v5 (P:=P) hg (by rw[g1];exact hs) g2,i2]
   |false =>
    simp only at e;obtain⟨m,tt,h1,h2,e3⟩:=zm e;obtain⟨u,g1,g2,_⟩:=H.cell hb h1 h2;obtain⟨CL,us,i1,i2,i3⟩:=kA H hT YS e3;refine⟨_,u::us,i1,?_,.cons g2 i3⟩;simp only[Es,k8,Sem.run_bind,hv];simp[asAddr,AM.u_ hg g1,i2]
  ·cases Rx
theorem aEf{vs:List V}{us:List Value}(hv:a_ J vs us):VR J (SY vs) (rG us):=by
 match vs,us,hv with
 |[],us,hv=>rw[hv.k_];exact .aj [] [] rfl (λi c v h=>by simp at h)
 |[x],us,hv =>
  obtain⟨u,RN,rfl,h1,h2⟩:=hv.k6;rw[h2.k_];exact h1
 |x::y::vs,us,hv =>
  obtain⟨u,RN,rfl,h1,h2⟩:=hv.k6;obtain⟨u2,us2,rfl,h3,h4⟩:=h2.k6;exact .aj _ _ hv.1 hv.2
end
section
open Go.AM (rG iJ)
variable {P:Program}{w0:cL}{w w':World}{J J':ak}{h h':T O}{nx nx':Q}{tm:T V}{tmps:Array Value}{r v:V}{ops:Array Oper}{n β:Nat}{f:Q}{dk:Bool}{rd:Option Q}{ds:List Df}{k:K}{cs:List Fr}{fr b:Frame}{frs:List Frame}{c0:Frame}{cs0:List Frame}{ih:FQ}{fe:Q->CF}{ks:List Item}{AV:List Deferred}
theorem aIc{cf:CF}{k:List RV->aa}{r:V}(e:Vc cf k=.ok r):∃rs,k rs=.ok r/\((∃body,cf=.mk body rs)\/∃v body,cf=.nb v body rs):=by
 cases cf<;>first|exact⟨_,e,.inl ⟨_,rfl⟩⟩|exact⟨_,e,.inr ⟨_,_,rfl⟩⟩|cases e
theorem aId(C4:j_ P w0 fe)(G:Good P w0 ih)(C:Ctx P w0 w J h β nx f dk rd ds cs frs b AV)(hT:TR J (nt P f.nat) tm tmps)
  (e:vn fe ih f dk rd ds tm cs h nx=.ok v):cb P w0 (lone { b.atR ⟨tmps,AV⟩ ks with mode:=.returning } (frs++c0::cs0) w) c0 cs0 v:=by
 have hD:=C.D;have JY:∀{x:Df}{DQ:List Df},ds=x::DQ->rd≠none->DQ=[]:=λh0 h1=>by have:=C.rn h1;rw[h0] at this;cases this
 cases hD with
 |ml q bl N DQ EV hq hr =>
  simp only[vn,bW] at e
  split at e
  ·rename_i DA
   rw[c8] at e;have hO:=C.H.obj q bl N hq;rw[DA] at hO;cases hO with
   |kg _ _ _ hB hw =>
   simp only[Bg,Dk] at hw;have AL:=(An.1 hw).1;obtain⟨H',K⟩:=C.H.vW (y:=.deferred none) (x':=.kg true) hq DA rfl (λ_ _ _ _ _ _ e=>by cases e) rfl (λ_ _ _ _ _ _ e=>by cases e) hB (.kg true _ _ hB (by simpa using World.putObj_heap_same AL));have C':=C.keep H' (Ae _) (K.down C.le);have C2:Ctx P w0 _ J _ β nx f dk rd DQ cs frs b EV:=⟨C'.H,C'.le,C'.B,hr,JY rfl,C'.S⟩
   refine cb.steps (Steps.one (step_collected (r:=bl) (calls:=[]) (ds:=EV) (d:={ target:=.collected bl,args:=#[] }) (by simp) rfl rfl (run_takeDeferred hw))) ?_;exact C2.go G (.iN ks) ⟨hT,rfl⟩ e
  ·cases e
 |call g cs1 av cv DQ EV hv hr =>
  simp only[vn] at e;unfold fZ at e;rw[lJ] at e
  split at e
  ·cases e
  ·split at e<;>cases e
  ·split at e<;>cases e
  case' h_4 =>
   rename_i v0 body rs BO;obtain⟨EU,_⟩:=j_.nb C4 BO;simp only at e
   split at e
   ·cases e
  case' h_5 =>
   rename_i body rs BO;have EU:fk P g=.mk body rs:=j_.mk C4 BO
  all_goals
   obtain⟨fn,cc,g1,g2,g3,g4,_⟩:=mO EU
   have hS:lh P J h (.mk f dk rd DQ tm .iN::cs) ({ b.atR ⟨tmps,EV⟩ ks with mode:=.returning }::frs) nx.nat :=
    .cons J J h h f dk rd DQ tm _ cs _ frs β nx.nat nx ⟨C.le,b,EV,tmps,_,C.B,hr,JY rfl,.iN ks,hT,rfl⟩ (Ae _) (ec.refl _ _ _) C.S
   have DO:(⟨av⟩:Array Value)++⟨cv⟩=⟨av++cv⟩:=by apply Cr;simp
   have hinv:(invoke (.fn (.func g) ⟨cv⟩) ⟨av⟩).run P w=.ok (.enter g ⟨av++cv⟩) w:=by
    simp only[invoke,DO];simp[callFunc,g1,g2,g3];intro hn;rw[hn] at g3;simp at g3
   refine cb.steps (Steps.one (Go.step_defer (ds:=EV) (d:={ target:=.fn (.func g) ⟨cv⟩,args:=⟨av⟩ }) (by simp) rfl rfl hinv)) ?_
   have:=qE (dk:=true) (c0:=c0) (cs0:=cs0) G C.H hv hS EU e
   simp only[Dq] at this;exact this
 |nil =>
  simp only[vn] at e;rw[lJ] at e;obtain⟨rs,e,BO⟩:=aIc e
  obtain⟨body,EU⟩:∃body,fk P f.nat=.mk body rs:=by
   rcases BO with⟨body,h0⟩|⟨v0,body,h0⟩
   ·exact⟨body,j_.mk C4 (g:=f.nat) (by rw[iF];exact h0)⟩
   ·exact⟨body,(j_.nb C4 (g:=f.nat) (by rw[iF];exact h0)).1⟩
  ·obtain⟨fn,cc,g1,g2,g3,g4,_⟩:=mO EU
   obtain⟨vs,us,e1,r1,r2⟩:=kA C.H hT g4 e;have B7:=iJ r1;have Rk:=aEf r2;have hS:=C.S;have HU:({ b.atR ⟨tmps,[]⟩ ks with mode:=.returning }:Frame).fn=f.nat:=C.B.fn;have US:({ b.atR ⟨tmps,[]⟩ ks with mode:=.returning }:Frame).kind=if dk then .deferred else .normal:=C.B.kind
   have Mr:({ b.atR ⟨tmps,[]⟩ ks with mode:=.returning }:Frame).going P w (.returned (rG us)):=⟨rfl,rfl,fn,by rw[HU];exact g1,B7⟩
   split at e1
   ·cases hS
    split at e1
    ·rename_i Rw
     cases e1;exact⟨w,J,h,nx,rG us,_,Steps.one (step_leave_returned ⟨rfl,rfl,by rw[US];rfl,fn,by rw[HU];exact g1,B7⟩),C.H,Rk,rfl⟩
    ·cases e1
   ·cases hS with
    |cons J0 _ h0 _ f' Nm Jk DQ DZ k' BX MM I8 β0 _ mq hf hn hK hs =>
    split at e1
    ·refine cb.steps (Steps.one (step_leave_returned ⟨rfl,rfl,by rw[US];rfl,fn,by rw[HU];exact g1,B7⟩)) ?_
     exact uQ G C.H hf (Bi hn C.le) hK hs Rk e1
    ·split at e1
     ·rename_i f2 IL Hz FP DZ heq
      cases heq;obtain⟨hle,b2,a5e,CC,X,hB2,hD2,a4Q,hW,hC⟩:=hf;cases hW with
      |iN ks2 =>
      obtain⟨hT2,rfl⟩:=hC;have ES:β0<=nx.nat:=Bi hle (Bi hn C.le);have C2:Ctx P w0 w J h β0 nx f' Nm Jk DQ _ I8 b2 a5e:=⟨C.H,ES,hB2.mono hK.le,hD2.mono hK.le,a4Q,hs⟩
      refine cb.steps (Steps.one (step_going_returned (by rw[US];rfl) Mr)) ?_;exact C2.go G (.iN ks2) ⟨hT2.mono hK.le,rfl⟩ e1
     ·cases e1
end
section
variable {P:Program}{w0:cL}{ih:FQ}{fe:Q->CF}
theorem aA3(hm:P.follows .mixedOrders=true)(C4:j_ P w0 fe)(hx:mG P)(G:Good P w0 ih):Good P w0 (aC fe ih):=by
 intro w J β f dk rd ds tm k cs h nx v fr frs c0 cs0 e H hF hS;obtain⟨hle,b,AV,tmps,X,hB,hD,JY,hC,hX⟩:=hF;have C:Ctx P w0 w J h β nx f dk rd ds cs frs b AV:=⟨H,hle,hB,hD,JY,hS⟩
 cases hC with
 |plain k ks hk =>
  obtain⟨hT,rfl⟩:=hX;cases hk with
  |nil =>
   simp only[aC] at e
   split at e
   ·have DI:b.roundOf=none:=by
     have:=hB.ro
     cases GF:b.roundOf with
     |none=>rfl
     |some bl=>rw[GF] at this;exact this.elim
    exact cb.steps (Steps.one (stepR_end DI)) (C.go G (.iN []) ⟨hT,rfl⟩ e)
   ·exact dp G C rfl .none rfl (λhb I3 hr=>stepR_round_end hb I3 hr) e
  |code c k ks hk =>
   by_cases Rh:∃x ps B3 body,c=.rangeFunc x ps B3 body
   ·obtain⟨x,ps,B3,body,rfl⟩:=Rh
    exact aTm C4 hx G C hk hT e
   ·exact aCS hm G C hk hT (λx ps B3 body hc=>Rh ⟨x,ps,B3,body,hc⟩) e
  |n_ id k ks hk=>exact cb.steps (Steps.one stepR_inBlock) (C.plain G hk hT e)
  |lp c k ks hk=>exact cb.steps (Steps.one stepR_inLoop) (C.plain G (.code c _ _ (.lp c _ _ hk)) hT e)
  |sc c k ks hk=>exact cb.steps (Steps.one kG) (C.plain G hk hT e)
  |begin k ks hk=>exact aCp (fe:=fe) G C hk hT e
 |sync ops i k ks hi hk =>
  obtain⟨hT,rfl⟩:=hX;exact a7x C4 hx G C hi hk hT e
 |drawn ops pl E r qf k ks hk =>
  obtain⟨hL,rfl⟩:=hX;exact a6J C4 hx G C hk hL e
 |oZ l bl N k ks hl hk =>
  obtain⟨hT,rfl⟩:=hX;exact aMp (fe:=fe) G C hk hT hl e
 |bad l k=>exact(x6 (show k7 fe ih f dk rd ds tm (.op fA::l) k cs h nx=.ok v from e)).elim
 |iN ks =>
  obtain⟨hT,rfl⟩:=hX;exact aId C4 G C hT e
theorem a1j(hm:P.follows .mixedOrders=true)(C4:j_ P w0 fe)(hx:mG P):∀n,Good P w0 (run fe n)
 |0=>by
  intro w J β f dk rd ds tm k cs h nx v fr frs c0 cs0 e;cases e
 |n+1=>aA3 hm C4 hx (a1j hm C4 hx n)
end
section
variable {P:Program}{fe:Q->CF}
theorem aNI(P:Program)(w0:cL):j_ P w0 (R6 P):=λg=>.inr (.inl (by simp only[R6,dY]))
def Pa:List (Nat×GT)->Nat->CF->CF
 |[],_,c=>c
 |(a,t)::l,n,c=>(match Nat.beq a n with
  |true=>.tr t
  |false=>Pa l n c)
def dy:List (Nat×V)->Nat->CF->CF
 |[],_,c=>c
 |(a,v)::l,n,c=>(match Nat.beq a n with
  |true=>(match c with
   |.mk b rs=>.nb v b rs
   |c=>c)
  |false=>dy l n c)
def Tf(P:Program)(l:List (Nat×GT))(lg:List (Nat×V))(q:Q):CF:=Pa l q.nat (dy lg q.nat (fk P q.nat))
theorem a6w(P:Program)(w0:cL)(l:List (Nat×GT))(lg:List (Nat×V))(h:∀p∈l,zH P w0 p.1 p.2)(hg:∀p∈lg,tV P w0 p.1 p.2):j_ P w0 (Tf P l lg):=λg=>by
 unfold Tf;rw[dY]
 have h2:dy lg g (fk P g)=fk P g\/∃v body rs,dy lg g (fk P g)=.nb v body rs/\fk P g=.mk body rs/\tV P w0 g v:=by
  induction lg with
  |nil=>exact .inl rfl
  |cons p lg ih =>
   obtain⟨a,v⟩:=p;simp only[dy];split
   ·rename_i hb
    obtain rfl:=Aa hb;cases hc:fk P a with
    |mk body rs=>exact .inr ⟨v,body,rs,rfl,rfl,hg _ (List.mem_cons_self ..)⟩
    |_=>exact .inl rfl
   ·exact ih λp hp=>hg p (Ek _ hp)
 have h1:Pa l g (dy lg g (fk P g))=dy lg g (fk P g)\/∃t,Pa l g (dy lg g (fk P g))=.tr t/\zH P w0 g t:=by
  generalize dy lg g (fk P g)=c;induction l with
  |nil=>exact .inl rfl
  |cons p l ih =>
   obtain⟨a,t⟩:=p;simp only[Pa];split
   ·rename_i hb
    obtain rfl:=Aa hb;exact .inr ⟨t,rfl,h _ (List.mem_cons_self ..)⟩
   ·exact ih λp hp=>h p (Ek _ hp)
 rcases h1 with h1|h1
 ·rw[h1]
  rcases h2 with h2|h2
  ·exact .inr (.inl h2)
  ·exact .inr (.inr (.inr h2))
 ·exact .inr (.inr (.inl h1))
theorem a2n{w0:cL}(hm:P.follows .mixedOrders=true)(C4:j_ P w0 fe)(hx:mG P){g n:Nat}{body:C}{rs:List RV}{v:V}(hc:fk P g=.mk body rs){vs:List V}{us:List Value}{w:World}{J0:ak}{h0:T O}{mq:Q}(H:HR P w0 J0 h0 mq w)(hv:a_ J0 vs us)
  (e:mH vs .e .nil (λtm=>run fe n (qn g) false none [] tm (.code body .nil) [] h0 mq)=.ok v) (c:Frame) (cs:List Frame) :
  ∃(w':World)(J':ak)(h':T O)(nx':Q)(u:Value)(x:V),Steps P (lone (Frame.enter P g ⟨us⟩ .normal) (c::cs) w) (lone (c.finish u) cs w')/\HR P w0 J' h' nx' w'/\VR J' x u/\fin x h'=v :=
 qE (P:=P) (w0:=w0) (w:=w) (vs:=vs) (us:=us) (dk:=false) (cs:=[]) (frs:=[]) (c0:=c) (cs0:=cs) (v:=v) (a1j hm C4 hx n) H hv (.nil _ _ _) hc e
def OQ(P:Program):ak:=λq=>if q.nat < P.globals.size then some (q.nat,0) else none
def yg(P:Program)(w:World):cL:=⟨w,OQ P⟩
theorem gHR(w:World)(hw:P.globals.size<=w.heap.size):HR P (yg P w) (OQ P) .nil (qn P.globals.size) w:=by
 have h0:∀q b N,OQ P q=some (b,N)->q.nat < P.globals.size/\b=q.nat:=λq b N h=>by
  simp only[OQ] at h
  split at h
  ·simp at h;exact⟨by assumption,h.1.symm⟩
  ·cases h
 have DA:∀q,(T.nil:T O).ob q=.dead:=λq=>T.get_nil _ _
 exact⟨Ae _,λ_ _=>rfl,rfl,rfl,rfl,λg hg=>⟨0,by simp[OQ,dY,hg]⟩,λq hq=>by rw[dY] at hq;simp[OQ];exact hq,λq b N h=>by obtain⟨h1,rfl⟩:=h0 q b N h;omega,
   λq b N _=>by rw[DA];exact .dead _ _,λq q' b N N' _ _ _=>by rw[DA];trivial,λq _=>DA q,ak.le_refl _⟩
theorem aEX(w:World)(hm:P.follows .mixedOrders=true)(C4:j_ P (yg P w) fe)(hx:mG P){g n:Nat}{body:C}{rs:List RV}{v:V}(hc:fk P g=.mk body rs){vs:List V}{us:List Value}(hv:∀J:ak,a_ J vs us)(e:mH vs .e .nil (λtm=>run fe n (qn g) false none [] tm (.code body .nil) [] .nil (qn P.globals.size))=.ok v)
  (hw:P.globals.size<=w.heap.size) (c:Frame) (cs:List Frame) :
  ∃(w':World)(J':ak)(h':T O)(nx':Q)(u:Value)(x:V),Steps P (lone (Frame.enter P g ⟨us⟩ .normal) (c::cs) w) (lone (c.finish u) cs w')/\HR P (yg P w) J' h' nx' w'/\VR J' x u/\fin x h'=v :=
 a2n hm C4 hx hc (gHR w hw) (hv _) e c cs
end
section
open Go.Lib (indexByte countByte indexByte_ge run_indexByteString run_countString)
variable {P:Program}
theorem a1b(c:UInt8):∀(l:List UInt8)(i:Nat)(k:Int->aa),tC c.toNat l.length (cC l) i k=k (if indexByte l c=-1 then -1 else i+indexByte l c)
 |[],i,k=>by simp[tC,indexByte]
 |b::l,i,k=>by
  have hb:b.toNat < 256:=b.toNat_lt;have h1:(b.toNat+256*cC l)%256=b.toNat:=by omega
  have h2:(b.toNat+256*cC l)/256=cC l:=by omega
  simp only[Ak,tC,cC,h1,h2,aF];by_cases sr:b=c
  ·subst sr
   simp[indexByte]
  ·have BA:b.toNat.beq c.toNat=false:=by
    cases hq:b.toNat.beq c.toNat with
    |false=>rfl
    |true=>exact absurd (Fy.1 (Aa hq)) sr
   rw[BA];simp only;rw[a1b c l (i+1) k];congr 1;have ww:(b==c)=false:=by simpa using sr
   have Iu:=indexByte_ge l c;simp only[indexByte,ww,Bg,Dk,Cb];by_cases hi:indexByte l c=-1
   ·simp[hi]
   ·rw[Bf hi,Bf hi,Bf (by omega)];omega
theorem db(c:UInt8):∀(l:List UInt8)(n:Nat)(k:Nat->aa),yY c.toNat l.length (cC l) n k=k (n+countByte l c)
 |[],n,k=>by simp[yY,countByte]
 |b::l,n,k=>by
  have hb:b.toNat < 256:=b.toNat_lt;have h1:(b.toNat+256*cC l)%256=b.toNat:=by omega
  have h2:(b.toNat+256*cC l)/256=cC l:=by omega
  simp only[Ak,yY,cC,h1,h2,aF];by_cases sr:b=c
  ·subst sr
   simp only[Ci];rw[db b l (n+1) k];simp[countByte];congr 1;omega
  ·have BA:b.toNat.beq c.toNat=false:=by
    cases hq:b.toNat.beq c.toNat with
    |false=>rfl
    |true=>exact absurd (Fy.1 (Aa hq)) sr
   rw[BA];simp only;rw[db c l n k];simp[countByte,sr]
theorem a2R{v:V}{k:Nat->aa}{r:V}(h:Sd v k=.ok r):∃c,v=.int .u8 (.ofNat c)/\c<256/\k c=.ok r:=by
 cases v<;>try(cases h;done)
 rename_i kd n;cases kd<;>try(cases h;done)
 cases n<;>try(cases h;done)
 obtain⟨h1,h2⟩:=bQ h;exact⟨_,rfl,dR h1,h2⟩
def zY(fn:Func):Bool:=fn.name== "internal/bytealg.IndexByteString"||fn.name== "internal/bytealg.CountString"||fn.name== "internal/abi.NoEscape"
def aKs(P:Program):Bool:=P.funcs.toList.all λfn=>fn.body.isSome||!zY fn||(fn.origin== ""||fn.origin==fn.name)
theorem mq:Extern.allNextRows.lookup "internal/bytealg.IndexByteString"=none:=by kernel_rfl
theorem nx1:Extern.allNextRows.lookup "internal/bytealg.CountString"=none:=by kernel_rfl
theorem nx2:Extern.allNextRows.lookup "internal/abi.NoEscape"=none:=by kernel_rfl
theorem nxe:Extern.allNextRows.lookup ""=none:=by kernel_rfl
theorem gn0:Extern.allGenericRows.lookup "internal/bytealg.IndexByteString"=none:=by kernel_rfl
theorem gn1:Extern.allGenericRows.lookup "internal/bytealg.CountString"=none:=by kernel_rfl
theorem gn2:Extern.allGenericRows.lookup "internal/abi.NoEscape"=none:=by kernel_rfl
theorem tn0:Extern.allTypedRows.lookup "internal/bytealg.IndexByteString"=none:=by kernel_rfl
theorem tn1:Extern.allTypedRows.lookup "internal/bytealg.CountString"=none:=by kernel_rfl
theorem tn2:Extern.allTypedRows.lookup "internal/abi.NoEscape"=none:=by kernel_rfl
theorem rw0:Extern.allRows.lookup "internal/bytealg.IndexByteString"=some Extern.BytealgIndexByte.indexByte:=by kernel_rfl
theorem rw1:Extern.allRows.lookup "internal/bytealg.CountString"=some Extern.BytealgCount.count:=by kernel_rfl
theorem rw2:Extern.allRows.lookup "internal/abi.NoEscape"=some Extern.AbiNoEscape.same:=by kernel_rfl
theorem a7P {fn:Func} (h1:Extern.allNextRows.lookup fn.name=none) (h2:fn.origin= ""\/fn.origin=fn.name):Extern.findNext fn=none:=by
 unfold Extern.findNext;rcases h2 with h2|h2<;>simp[h2,h1,nxe]
theorem aAY{fn:Func}{e:Array Value->Sem Value}(h1:Extern.allGenericRows.lookup fn.name=none)(h2:Extern.allTypedRows.lookup fn.name=none)(h3:Extern.allRows.lookup fn.name=some e):Extern.find fn=some e:=by
 unfold Extern.find;simp[h1,h2,h3]
theorem a0I(HV:aKs P=true):mG P:=by
 intro g m hc w J vs us k v hv e;unfold fk at hc
 split at hc
 ·cases hc
 ·rename_i fn hf
  split at hc
  ·rename_i hb
   have Ly:zY fn=true->fn.origin= ""\/fn.origin=fn.name:=λUK=>by
    have:=(Au.1 HV) fn (by
     obtain⟨h1,h2⟩:=An.1 hf;rw[<-h2];simp)
    rw[hb,UK] at this;simpa using this
   have run:∀{en:Array Value->Sem Value}{u:Value},zY fn=true->(fn.name== "runtime.NumGoroutine")=false->Extern.allNextRows.lookup fn.name=none->Extern.allGenericRows.lookup fn.name=none->Extern.allTypedRows.lookup fn.name=none->Extern.allRows.lookup fn.name=some en ->
     (en ⟨us⟩).run P w=.ok u w->(callFunc g ⟨us⟩).run P w=.ok (.value u) w:=λUK hn h1 h2 h3 h4 h5=>by
    rw[run_callFunc_extern hf hn (by rw[hb];rfl) (a7P h1 (Ly UK)) (aAY h2 h3 h4),h5];rfl
   have two:∀{a b:V},a_ J [a,b] us->∃ua ub,us=[ua,ub]/\VR J a ua/\VR J b ub:=λh=>by
    obtain⟨ua,us1,rfl,h1,h2⟩:=h.k6;obtain⟨ub,us2,rfl,h3,h4⟩:=h2.k6;rw[h4.k_];exact⟨ua,ub,rfl,h1,h3⟩
   split at hc
   ·rename_i hn
    cases hc;have hn:=Cb.1 hn;simp only[dw] at e
    split at e
    ·rename_i x y
     obtain⟨ux,uy,rfl,hx,hy⟩:=two hv;obtain⟨l,s,rfl,e⟩:=rR e;obtain⟨c,rfl,AL,e⟩:=a2R e;obtain⟨bs,rfl,rfl,rfl⟩:=hx.l_;have hy:=hy.kj;subst hy;have Ka:(UInt8.ofNat c).toNat=c:=by simp;omega
     rw[<-Ka,a1b] at e;refine⟨_,.int .i64 (indexByte bs (UInt8.ofNat c)),e,?_,run (by unfold zY;rw[hn];decide) (by rw[hn];decide) (by rw[hn];exact mq) (by rw[hn];exact gn0) (by rw[hn];exact tn0) (by rw[hn];exact rw0) ?_⟩
     ·have:(if indexByte bs (UInt8.ofNat c)=-1 then -1 else((0:Nat):Int)+indexByte bs (UInt8.ofNat c))=indexByte bs (UInt8.ofNat c):=by
       split
       ·rename_i h;exact h.symm
       ·simp
      rw[this];exact .int _ _
     ·rw[show(Int.ofNat c)=((c:Nat):Int) from rfl]
      have:=run_indexByteString (P:=P) ⟨⟨bs⟩⟩ (c:Int) w
      simpa using this
    ·cases e
   ·rename_i hn _
    cases hc;have hn:=Cb.1 hn;simp only[dw] at e
    split at e
    ·rename_i x y
     obtain⟨ux,uy,rfl,hx,hy⟩:=two hv;obtain⟨l,s,rfl,e⟩:=rR e;obtain⟨c,rfl,AL,e⟩:=a2R e;obtain⟨bs,rfl,rfl,rfl⟩:=hx.l_;have hy:=hy.kj;subst hy;have Ka:(UInt8.ofNat c).toNat=c:=by simp;omega
     rw[<-Ka,db,Bs] at e;refine⟨_,.int .i64 (countByte bs (UInt8.ofNat c)),e,.int _ _,run (by unfold zY;rw[hn];decide) (by rw[hn];decide) (by rw[hn];exact nx1) (by rw[hn];exact gn1) (by rw[hn];exact tn1) (by rw[hn];exact rw1) ?_⟩;rw[show(Int.ofNat c)=((c:Nat):Int) from rfl]
     have:=run_countString (P:=P) ⟨⟨bs⟩⟩ (c:Int) w
     simpa using this
    ·cases e
   ·rename_i hn _ _
    cases hc;have hn:=Cb.1 hn;simp only[dw] at e
    split at e
    ·rename_i x
     obtain⟨u,us1,rfl,h1,h2⟩:=hv.k6;rw[h2.k_] at run ⊢;exact⟨_,u,e,h1,run (by unfold zY;rw[hn];decide) (by rw[hn];decide) (by rw[hn];exact nx2) (by rw[hn];exact gn2) (by rw[hn];exact tn2) (by rw[hn];exact rw2) (by rfl)⟩
    ·cases e
   ·cases hc
  ·split at hc
   ·cases hc
   ·split at hc<;>cases hc
end
end Go.CM
end
