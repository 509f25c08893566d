import Derived.Test.YtoiocfngjchdiaaGreatDoorC06
import Derived.Lib.Bytealg
set_option linter.all false
noncomputable section
namespace Go.CM
section
variable {P:Program}{w0:Base}{w w':World}{J J':Rho}{h h':T O}{nx nx':Q}{tm:T V}{tmps:Array Value}{r v:V}{ops:Array Oper}{n β:Nat}{f:Q}{dk:Bool}{rd:Option Q}{ds:List Df}{k:K}{cs:List Fr}{fr b:Frame}{frs:List Frame}{c0:Frame}{cs0:List Frame}{ih:E9}{fe:Q->CF}{ks:List Item}{AU:List Deferred}
section steps
variable {a:Act}{g:Operand}{ps:Array Tmp}{assign body:Code}{l:Nat}{mark:List Deferred}{w₁ w₁' w₂:World}{d:Deferred}{cs:List Frame}
theorem yL{u:Value}(he:(Instr.enterLoop b.fn a.tmps ps assign body b.roundOf).run P w=.ok (l,mark) w₁)(B6:(resolve a.eval (rangeCall g l) 0).run P w₁=.ok d w₁')(hinv:(invoke d.target d.args).run P w₁'=.ok (.value u) w₂) :
  step P (lone (b.atR a (.code (.rangeFunc g ps assign body)::ks)) cs w)=.next (lone ((b.atR { a with defers:=mark++a.defers } (.inRangeFunc l::ks)).finish u) cs w₂) :=
 step_lone_go (by
  have FX:=Frame.eval_atR b { a with defers:=mark++a.defers } (.inRangeFunc l::ks);simp only[Frame.atR] at FX;have JS:Sem.run P (resolve ({ tmps:=a.tmps,defers:=mark++a.defers }:Act).eval { callee:=.value g,args:=#[.const (.func (.yield l) #[] #[])],argTypes:=#[] } 0) w₁=.ok d w₁':=B6;simp[stepG,stepG.exec,Frame.atR,Sem.runT_eq,he,GStep.bare_after,stepG.apply,FX,Sem.run_bind,JS,hinv,Result.andThen])
theorem yK{l':Nat}{gg:FuncId}{tt:Array Value}{x y:Code}(he:(Instr.enterLoop b.fn a.tmps ps assign body b.roundOf).run P w=.ok (l,mark) w₁)(B6:(resolve a.eval (rangeCall g l) 0).run P w₁=.ok d w₁')(hinv:(invoke d.target d.args).run P w₁'=.ok (.round l' gg tt x y) w₂) :
  step P (lone (b.atR a (.code (.rangeFunc g ps assign body)::ks)) cs w)=.next (lone (Frame.round l' gg tt x y .normal) (b.atR { a with defers:=mark++a.defers } (.inRangeFunc l::ks)::cs) w₂) :=
 step_lone_go (by
  have FX:=Frame.eval_atR b { a with defers:=mark++a.defers } (.inRangeFunc l::ks);simp only[Frame.atR] at FX;have JS:Sem.run P (resolve ({ tmps:=a.tmps,defers:=mark++a.defers }:Act).eval { callee:=.value g,args:=#[.const (.func (.yield l) #[] #[])],argTypes:=#[] } 0) w₁=.ok d w₁':=B6;simp[stepG,stepG.exec,Frame.atR,Sem.runT_eq,he,GStep.bare_after,stepG.apply,FX,Sem.run_bind,JS,hinv,Result.andThen])
end steps
theorem Zg(CT:FeOK P w0 fe)(hx:lS P)(G:Good P w0 ih){g:Operand}{ps:Array Tmp}{assign body:Code}{w2:World}{J2:Rho}{h2:T O}{n2:Q}{gq:Q}{fs caps:List V}{ua ub:List Value}{lq:Q}{bl N:Nat}{mark:List Deferred}{E5:List Df}
  (C:Ctx P w0 w2 J2 h2 β n2 f dk rd E5 cs frs b (mark++AU)) (hk:KS P (nt P f.nat) k ks) (hT:TR J2 (nt P f.nat) tm tmps) (hg:ev tmps AU g=.func (.func gq.nat) ⟨ua⟩ ⟨ub⟩) (h1:VRs J2 fs ua) (h3:VRs J2 caps ub) (hl:J2 lq=some (bl,N))
  (he:(Instr.enterLoop b.fn tmps ps assign body b.roundOf).run P w=.ok (bl,mark) w2)
  (e:fS fe ih gq (fs++(.yld lq::caps)) false (.mk f dk rd E5 tm (.inrf lq k)::cs) h2 n2=.ok v) :
  Final P w0 (lone (b.atR ⟨tmps,AU⟩ (.code (.rangeFunc g ps assign body)::ks)) (frs++c0::cs0) w) c0 cs0 v:=by
 have e':cR fe ih (.fn gq fs caps) [.yld lq] (.mk f dk rd E5 tm (.inrf lq k)::cs) h2 n2=.ok v:=by
  simp only[cR,eN];exact e
 have Hg:VR J2 (.fn gq fs caps) (.func (.func gq.nat) ⟨ua⟩ ⟨ub⟩):=.fn _ _ _ _ _ h1.1 h3.1 h1.2 h3.2;have GY:VRs J2 [.yld lq] [.func (.yield bl) #[] #[]]:=.cons (.yld _ _ _ hl) .nil
 have hS:StkR P J2 h2 (.mk f dk rd E5 tm (.inrf lq k)::cs) (b.atR ⟨tmps,mark++AU⟩ (.inRangeFunc bl::ks)::frs) n2.nat :=
  .cons J2 J2 h2 h2 f dk rd E5 tm _ cs _ frs β n2.nat n2 ⟨C.le,b,mark++AU,tmps,_,C.B,C.D,C.rn,.inrf lq bl N k ks hl hk,hT,rfl⟩ (Af _) (Keep.refl _ _ _) C.S
 obtain⟨dd,Km,DT⟩:=iR (c0:=c0) (cs0:=cs0) CT hx G C.H Hg GY hS e'
 have B6:(resolve (ev tmps AU) (rangeCall g bl) 0).run P w2=.ok dd w2:=by
  rw[<-Km];simp[resolve,rangeCall,hg];rfl
 rcases DT with⟨gg,all,i1,i2⟩|⟨ll,gg,tt,x,y,i1,i2⟩|⟨x,u,i1,i2,i3⟩
 ·exact Final.steps (Steps.one (stepR_rangeFunc (a:=⟨tmps,AU⟩) he B6 i1)) i2
 ·exact Final.steps (Steps.one (yK (a:=⟨tmps,AU⟩) he B6 i1)) i2
 ·refine Final.steps (Steps.one (yL (a:=⟨tmps,AU⟩) he B6 i1)) ?_
  simp only[l8] at i3;exact C.go (fr:=b.atR ⟨tmps,mark++AU⟩ (.endRangeFunc bl::ks)) G (.erf lq bl N k ks hl hk) ⟨hT,rfl⟩ i3
theorem aTg(CT:FeOK P w0 fe)(hx:lS P)(G:Good P w0 ih){g:Operand}{ps:Array Tmp}{assign body:Code}(C:Ctx P w0 w J h β nx f dk rd ds cs frs b AU)(hk:KS P (nt P f.nat) k ks)(hT:TR J (nt P f.nat) tm tmps)
  (e:lJ ih f dk rd ds tm (cS P (nt P f.nat) (.rangeFunc g ps assign body)) k cs h nx fe=.ok v):Final P w0 (lone (b.atR ⟨tmps,AU⟩ (.code (.rangeFunc g ps assign body)::ks)) (frs++c0::cs0) w) c0 cs0 v:=by
 simp only[cS] at e
 split at e
 ·rename_i XO
  have O2:∀t∈ps.toList,t<nt P f.nat:=λt ht=>dM ((As.1 XO) t ht)
  simp only[lJ] at e;obtain⟨fv,Kk,e⟩:=fA e;have Hg:=hY (ds:=AU) C.H.glob (λt _=>hT.rel t) Kk
  split at e
  case h_2=>cases e
  rename_i gq fs caps;obtain⟨ua,ub,hg,h1,h3⟩:=Hg.inv_fn;have DS:=C.H.fresh nx (Af _);have hS1:nx.succ.nat=nx.nat+1:=Q.nat_succ _;rw[eN] at e;cases rd with
  |none =>
   simp only[cT,cY] at e
   have DA:b.roundOf=none:=by
    have:=C.B.ro
    cases FY:b.roundOf with
    |none=>rfl
    |some bl=>rw[FY] at this;exact this.elim
   obtain⟨H1,K1⟩:=C.H.make (x:=.deferred (some [])) (N:=0) (ob:=.dfd false) (.dfd false _ _ C.H.size (AM.heap_alloc_new _));have Km:(J.set nx w.heap.size 0) nx=some (w.heap.size,0):=Rho.set_same
   let r0:Loop:={ state:=.ready,pending:=none,fn:=b.fn,tmps:=tmps,params:=ps,assign:=assign,body:=body,defers:=w.heap.size }
   let w1:=w.alloc (.deferred (some []))
   have Ta:=H1.fresh nx.succ (Af _);have FJ:=Rho.set_le (b:=w1.heap.size) (N:=0) Ta
   have C1:LR P ((J.set nx w.heap.size 0).set nx.succ w1.heap.size 0) (.mk 0 .none (qn f.nat) tm (ps.toList.map qn) (cS P (nt P f.nat) assign) (cS P (nt P f.nat) body) nx) r0 :=
    LR.mk 0 .none f.nat tm nx r0 0 .ready .none C.B.fn (hT.mono (Rho.le_trans K1.le FJ)) O2 (FJ _ _ Km)
   rw[gX] at C1;obtain⟨H2,K2⟩:=H1.make (x:=.loop r0) (N:=0) (.loop _ r0 _ _ H1.size (AM.heap_alloc_new _) C1)
   have SB:Keep β J h ((J.set nx w.heap.size 0).set nx.succ w1.heap.size 0) ((h.put .dead (.dfd false) nx).put .dead (.loop (.mk 0 .none f tm (ps.toList.map qn) (cS P (nt P f.nat) assign) (cS P (nt P f.nat) body) nx)) nx.succ) :=
    (K1.down C.le).trans (K2.down (by have:=C.le;omega))
   have C2:=C.keep H2 (by rw[Q.nat_succ,Q.nat_succ];omega) SB;have D2:=DsR.coll nx w.heap.size 0 ds AU (FJ _ _ Km) C2.D;have C3:Ctx P w0 _ _ _ β _ f dk none (.coll nx::ds) cs frs b ([{ target:=.collected w.heap.size,args:=#[] }]++AU):=⟨C2.H,C2.le,C2.B,D2,λh0=>absurd rfl h0,C2.S⟩
   refine Zg CT hx G C3 hk (hT.mono SB.le) hg (h1.mono SB.le) (h3.mono SB.le) (lq:=nx.succ) (bl:=w1.heap.size) (N:=0) Rho.set_same ?_ e;rw[DA,run_enterLoop_outer];simp[w1,r0]
  |some lo =>
   simp only[bV] at e;obtain⟨st,pend,fn,tm',Wn,Pm,GQ,B8,C0,e⟩:=e8 e;simp only[cT,cY] at e;have DA:=C.B.ro;cases FY:b.roundOf with
   |none=>rw[FY] at DA;exact DA.elim
   |some blo =>
   rw[FY] at DA;obtain⟨No,AP⟩:=DA;obtain⟨r,hw,C1,hB,AL⟩:=C.H.loop AP C0;cases C1 with
   |mk _ _ FZ _ _ _ N' a1 a2 a3 a4 a5 a6 =>
   let r0:Loop:={ state:=.ready,pending:=none,fn:=b.fn,tmps:=tmps,params:=ps,assign:=assign,body:=body,defers:=r.defers }
   have FJ:=Rho.set_le (b:=w.heap.size) (N:=0) DS
   have C1:LR P (J.set nx w.heap.size 0) (.mk 0 .none (qn f.nat) tm (ps.toList.map qn) (cS P (nt P f.nat) assign) (cS P (nt P f.nat) body) B8) r0 :=
    LR.mk 0 .none f.nat tm B8 r0 N' .ready .none C.B.fn (hT.mono FJ) O2 (FJ _ _ a6)
   rw[gX] at C1;obtain⟨H2,K2⟩:=C.H.make (x:=.loop r0) (N:=0) (.loop _ r0 _ _ C.H.size (AM.heap_alloc_new _) C1);have C2:=C.keep H2 (by rw[Q.nat_succ];omega) (K2.down C.le);have C3:Ctx P w0 _ _ _ β _ f dk (some lo) ds cs frs b ([]++AU):=C2;refine Zg CT hx G C3 hk (hT.mono K2.le) hg (h1.mono K2.le) (h3.mono K2.le) (lq:=nx) (bl:=w.heap.size) (N:=0) Rho.set_same ?_ e;rw[FY];simp[Instr.enterLoop,Sem.run_bind,run_getLoop hw,run_newObj_alloc,Result.andThen,r0]
 ·cases e
theorem aK6(G:Good P w0 ih){l:Q}{bl N:Nat}(C:Ctx P w0 w J h β nx f dk rd ds cs frs b AU)(hk:KS P (nt P f.nat) k ks)(hT:TR J (nt P f.nat) tm tmps)(hl:J l=some (bl,N))
  (e:aB fe ih f dk rd ds tm (.erf l k) cs h nx=.ok v):Final P w0 (lone (b.atR ⟨tmps,AU⟩ (.endRangeFunc bl::ks)) (frs++c0::cs0) w) c0 cs0 v:=by
 simp only[aB,bV] at e;obtain⟨st,pend,fn,tm',ps,BV,body,B8,C0,e⟩:=e8 e;obtain⟨A7,e⟩:=bP e;rw[cT] at e;obtain⟨r,hw,C1,hB,AL⟩:=C.H.loop hl C0;cases C1 with
 |mk _ _ FZ _ _ _ N' h1 h2 h3 h4 h5 h6 =>
 have HU:r.state≠.busy:=λhb=>by rw[hb] at h1;cases h1;cases A7
 have JZ:LR P J (.mk 3 pend (qn FZ) tm' (r.params.toList.map qn) (cS P (nt P FZ) r.assign) (cS P (nt P FZ) r.body) B8) { r with state:=.exhausted } :=
  LR.mk 3 pend FZ tm' B8 { r with state:=.exhausted } N' .exhausted h2 h3 h4 h5 h6
 obtain⟨H',K⟩:=C.H.setLoop hl C0 hB AL JZ;have C':=C.keep H' (Af _) (K.down C.le);refine Final.steps (Steps.one (stepR_endRangeFunc (a:=⟨tmps,AU⟩) (run_endLoop hw HU))) ?_
 have main:∀jp,JR pend jp->Final P w0 (lone (b.atR ⟨tmps,AU⟩ ((jp.map Item.code).toList++ks)) (frs++c0::cs0) (w.putObj bl (.loop { r with state:=.exhausted }))) c0 cs0 v:=λjp hj=>by
  cases hj with
  |none=>exact C'.plain G hk hT e
  |ret=>exact C'.plain G (.code .ret _ _ hk) hT e
  |exit id=>exact C'.plain G (.code (.exit id) _ _ hk) hT e
 exact main _ h2
theorem aBA(G:Good P w0 ih)(C:Ctx P w0 w J h β nx f dk rd ds cs frs b AU)(hk:KS P (nt P f.nat) k ks)(hT:TR J (nt P f.nat) tm tmps)
  (e:aB fe ih f dk rd ds tm (.begin k) cs h nx=.ok v):Final P w0 (lone (b.atR ⟨tmps,AU⟩ (.beginRound::ks)) (frs++c0::cs0) w) c0 cs0 v:=by
 simp only[aB] at e
 split at e
 ·cases e
 rename_i l;rw[bV] at e;obtain⟨st,pend,fn,tm',ps,BV,body,B8,C0,e⟩:=e8 e;obtain⟨A7,e⟩:=bP e;rw[cT] at e;have DA:=C.B.ro;cases FY:b.roundOf with
 |none=>rw[FY] at DA;exact DA.elim
 |some bl =>
 rw[FY] at DA;obtain⟨N,hl⟩:=DA;obtain⟨r,hw,C1,hB,AL⟩:=C.H.loop hl C0;cases C1 with
 |mk _ _ FZ _ _ _ N' h1 h2 h3 h4 h5 h6 =>
 have hrd:r.state=.ready:=by
  have:=Aa A7
  subst this
  revert h1
  cases r.state<;>intro h1<;>first|rfl|cases h1
 have JZ:LR P J (.mk 1 pend (qn FZ) tm' (r.params.toList.map qn) (cS P (nt P FZ) r.assign) (cS P (nt P FZ) r.body) B8) { r with state:=.busy } :=
  LR.mk 1 pend FZ tm' B8 { r with state:=.busy } N' .busy h2 h3 h4 h5 h6
 obtain⟨H',K⟩:=C.H.setLoop hl C0 hB AL JZ;have C':=C.keep H' (Af _) (K.down C.le);exact Final.steps (Steps.one (stepR_beginRound (a:=⟨tmps,AU⟩) FY (run_beginRound hw hrd))) (C'.plain G hk hT e)
end
section
open Go.AM (lO xN jS run_getObj run_setObj run_underlying)
variable {P:Program}{w0:Base}{w w':World}{J J':Rho}{h h':T O}{nx nx':Q}{tm:T V}{tmps:Array Value}{r v:V}{ops:Array Oper}{n β:Nat}{f:Q}{dk:Bool}{rd:Option Q}{ds:List Df}{k:K}{cs:List Fr}{fr b:Frame}{frs:List Frame}{c0:Frame}{cs0:List Frame}{ih:E9}{fe:Q->CF}{ks:List Item}{AU:List Deferred}
theorem jR(H:HR P w0 J h nx w)(hT:TR J n tm tmps):∀{rl:List ResultVar}{rs:List RV}{k:List V->Res},r7 P rl=some rs->fL tm h rs k=.ok r->∃vs us,k vs=.ok r/\(rl.mapM (lO tmps)).run P w=.ok us w/\VRs J vs us
 |[],rs,k,hc,e=>by
  simp only[r7,Al] at hc;subst hc;exact⟨[],[],e,by simp,.nil⟩
 |.tmp t::rl,rs,k,hc,e=>by
  simp only[r7,Ap] at hc;obtain⟨AX,hc,rfl⟩:=hc;simp only[fL,dD] at e;obtain⟨vs,us,h1,h2,h3⟩:=jR H hT hc e;refine⟨_,tmps.getD t Go.undef::us,h1,?_,.cons (hT.rel t) h3⟩;simp only[Eo,lO,Sem.run_bind];simp[h2]
 |.cell a t::rl,rs,k,hc,e=>by
  simp only[r7] at hc;obtain⟨g,hg,CV⟩:=dL hc;obtain⟨s,hs,RI⟩:=dL CV
  split at RI
  ·rename_i hgs
   simp only[Ap] at RI;obtain⟨AX,X1,rfl⟩:=RI;simp only[fL,dD] at e;obtain⟨o,off,ho,e⟩:=zY e;have hp:=hT.rel a;rw[show tm.at a=.ptr o off from ho] at hp;obtain⟨b,N,hv,hb⟩:=hp.inv_ptr;cases g with
   |true =>
    simp only at e;obtain⟨m,tt,h1,h2,e3⟩:=bu e;obtain⟨vs,g1,g2,g3,g4⟩:=H.cells hb h1 h2;obtain⟨CE,us,i1,i2,i3⟩:=jR H hT X1 e3;refine⟨_,.agg ⟨vs⟩::us,i1,?_,.cons (g3.agg g4) i3⟩;simp only[Eo,lO,Sem.run_bind,hv];simp[asAddr,AM.run_loadVar_agg (P:=P) hg (by rw[g1];exact hs) g2,i2]
   |false =>
    simp only at e;obtain⟨m,tt,h1,h2,e3⟩:=aC3 e;obtain⟨u,g1,g2,_⟩:=H.cell hb h1 h2;obtain⟨CE,us,i1,i2,i3⟩:=jR H hT X1 e3;refine⟨_,u::us,i1,?_,.cons g2 i3⟩;simp only[Eo,lO,Sem.run_bind,hv];simp[asAddr,AM.run_loadVar_one hg g1,i2]
  ·cases RI
theorem aDl{vs:List V}{us:List Value}(hv:VRs J vs us):VR J (Rf vs) (xN us):=by
 match vs,us,hv with
 |[],us,hv=>rw[hv.inv_nil];exact .tup [] [] rfl (λi c v h=>by simp at h)
 |[x],us,hv =>
  obtain⟨u,Qc,rfl,h1,h2⟩:=hv.inv_cons;rw[h2.inv_nil];exact h1
 |x::y::vs,us,hv =>
  obtain⟨u,Qc,rfl,h1,h2⟩:=hv.inv_cons;obtain⟨u2,us2,rfl,h3,h4⟩:=h2.inv_cons;exact .tup _ _ hv.1 hv.2
end
section
open Go.AM (xN jS)
variable {P:Program}{w0:Base}{w w':World}{J J':Rho}{h h':T O}{nx nx':Q}{tm:T V}{tmps:Array Value}{r v:V}{ops:Array Oper}{n β:Nat}{f:Q}{dk:Bool}{rd:Option Q}{ds:List Df}{k:K}{cs:List Fr}{fr b:Frame}{frs:List Frame}{c0:Frame}{cs0:List Frame}{ih:E9}{fe:Q->CF}{ks:List Item}{AU:List Deferred}
theorem aHd{cf:CF}{k:List RV->Res}{r:V}(e:UU cf k=.ok r):∃rs,k rs=.ok r/\((∃body,cf=.mk body rs)\/∃v body,cf=.gor v body rs):=by
 cases cf<;>first|exact⟨_,e,.inl ⟨_,rfl⟩⟩|exact⟨_,e,.inr ⟨_,_,rfl⟩⟩|cases e
theorem aHe(CT:FeOK P w0 fe)(G:Good P w0 ih)(C:Ctx P w0 w J h β nx f dk rd ds cs frs b AU)(hT:TR J (nt P f.nat) tm tmps)
  (e:rh fe ih f dk rd ds tm cs h nx=.ok v):Final P w0 (lone { b.atR ⟨tmps,AU⟩ ks with mode:=.returning } (frs++c0::cs0) w) c0 cs0 v:=by
 have hD:=C.D;have Iw:∀{x:Df}{DH:List Df},ds=x::DH->rd≠none->DH=[]:=λh0 h1=>by have:=C.rn h1;rw[h0] at this;cases this
 cases hD with
 |coll q bl N DH EN hq hr =>
  simp only[rh,bV] at e
  split at e
  ·rename_i C0
   rw[cT] at e;have hO:=C.H.obj q bl N hq;rw[C0] at hO;cases hO with
   |dfd _ _ _ hB hw =>
   simp only[Bj,Dm] at hw;have AL:=(Ai.1 hw).1;obtain⟨H',K⟩:=C.H.putMap (y:=.deferred none) (x':=.dfd true) hq C0 rfl (λ_ _ _ _ _ _ e=>by cases e) rfl (λ_ _ _ _ _ _ e=>by cases e) hB (.dfd true _ _ hB (by simpa using World.putObj_heap_same AL));have C':=C.keep H' (Af _) (K.down C.le);have C2:Ctx P w0 _ J _ β nx f dk rd DH cs frs b EN:=⟨C'.H,C'.le,C'.B,hr,Iw rfl,C'.S⟩
   refine Final.steps (Steps.one (step_collected (r:=bl) (calls:=[]) (ds:=EN) (d:={ target:=.collected bl,args:=#[] }) (by simp) rfl rfl (run_takeDeferred hw))) ?_;exact C2.go G (.rtn ks) ⟨hT,rfl⟩ e
  ·cases e
 |call g cs1 av cv DH EN hv hr =>
  simp only[rh] at e;unfold fS at e;rw[kQ] at e
  split at e
  ·cases e
  ·split at e<;>cases e
  ·split at e<;>cases e
  case' h_4 =>
   rename_i v0 body rs BQ;obtain⟨EM,_⟩:=FeOK.gor CT BQ;simp only at e
   split at e
   ·cases e
  case' h_5 =>
   rename_i body rs BQ;have EM:compF P g=.mk body rs:=FeOK.mk CT BQ
  all_goals
   obtain⟨fn,cc,g1,g2,g3,g4,_⟩:=l5 EM
   have hS:StkR P J h (.mk f dk rd DH tm .rtn::cs) ({ b.atR ⟨tmps,EN⟩ ks with mode:=.returning }::frs) nx.nat :=
    .cons J J h h f dk rd DH tm _ cs _ frs β nx.nat nx ⟨C.le,b,EN,tmps,_,C.B,hr,Iw rfl,.rtn ks,hT,rfl⟩ (Af _) (Keep.refl _ _ _) C.S
   have DF:(⟨av⟩:Array Value)++⟨cv⟩=⟨av++cv⟩:=by apply Cp;simp
   have hinv:(invoke (.fn (.func g) ⟨cv⟩) ⟨av⟩).run P w=.ok (.enter g ⟨av++cv⟩) w:=by
    simp only[invoke,DF];simp[callFunc,g1,g2,g3];intro hn;rw[hn] at g3;simp at g3
   refine Final.steps (Steps.one (Go.step_defer (ds:=EN) (d:={ target:=.fn (.func g) ⟨cv⟩,args:=⟨av⟩ }) (by simp) rfl rfl hinv)) ?_
   have:=pF (dk:=true) (c0:=c0) (cs0:=cs0) G C.H hv hS EM e
   simp only[Ds] at this;exact this
 |nil =>
  simp only[rh] at e;rw[kQ] at e;obtain⟨rs,e,BQ⟩:=aHd e
  obtain⟨body,EM⟩:∃body,compF P f.nat=.mk body rs:=by
   rcases BQ with⟨body,h0⟩|⟨v0,body,h0⟩
   ·exact⟨body,FeOK.mk CT (g:=f.nat) (by rw[gX];exact h0)⟩
   ·exact⟨body,(FeOK.gor CT (g:=f.nat) (by rw[gX];exact h0)).1⟩
  ·obtain⟨fn,cc,g1,g2,g3,g4,_⟩:=l5 EM
   obtain⟨vs,us,e1,r1,r2⟩:=jR C.H hT g4 e;have B6:=jS r1;have Qx:=aDl r2;have hS:=C.S;have Hh:({ b.atR ⟨tmps,[]⟩ ks with mode:=.returning }:Frame).fn=f.nat:=C.B.fn;have TO:({ b.atR ⟨tmps,[]⟩ ks with mode:=.returning }:Frame).kind=if dk then .deferred else .normal:=C.B.kind
   have MX:({ b.atR ⟨tmps,[]⟩ ks with mode:=.returning }:Frame).going P w (.returned (xN us)):=⟨rfl,rfl,fn,by rw[Hh];exact g1,B6⟩
   split at e1
   ·cases hS
    split at e1
    ·rename_i RH
     cases e1;exact⟨w,J,h,nx,xN us,_,Steps.one (step_leave_returned ⟨rfl,rfl,by rw[TO];rfl,fn,by rw[Hh];exact g1,B6⟩),C.H,Qx,rfl⟩
    ·cases e1
   ·cases hS with
    |cons J0 _ h0 _ f' NO JJ DH EV k' BT Mf IG β0 _ nx0 hf hn hK hs =>
    split at e1
    ·refine Final.steps (Steps.one (step_leave_returned ⟨rfl,rfl,by rw[TO];rfl,fn,by rw[Hh];exact g1,B6⟩)) ?_
     exact tH G C.H hf (Bg hn C.le) hK hs Qx e1
    ·split at e1
     ·rename_i f2 Hl H9 E5 EV heq
      cases heq;obtain⟨hle,b2,UR,B3,X,hB2,hD2,Sz,hW,hC⟩:=hf;cases hW with
      |rtn ks2 =>
      obtain⟨hT2,rfl⟩:=hC;have EK:β0<=nx.nat:=Bg hle (Bg hn C.le);have C2:Ctx P w0 w J h β0 nx f' NO JJ DH _ IG b2 UR:=⟨C.H,EK,hB2.mono hK.le,hD2.mono hK.le,Sz,hs⟩
      refine Final.steps (Steps.one (step_going_returned (by rw[TO];rfl) MX)) ?_;exact C2.go G (.rtn ks2) ⟨hT2.mono hK.le,rfl⟩ e1
     ·cases e1
end
section
variable {P:Program}{w0:Base}{ih:E9}{fe:Q->CF}
theorem zz(hm:P.follows .mixedOrders=true)(CT:FeOK P w0 fe)(hx:lS P)(G:Good P w0 ih):Good P w0 (aB fe ih):=by
 intro w J β f dk rd ds tm k cs h nx v fr frs c0 cs0 e H hF hS;obtain⟨hle,b,AU,tmps,X,hB,hD,Iw,hC,hX⟩:=hF;have C:Ctx P w0 w J h β nx f dk rd ds cs frs b AU:=⟨H,hle,hB,hD,Iw,hS⟩
 cases hC with
 |plain k ks hk =>
  obtain⟨hT,rfl⟩:=hX;cases hk with
  |nil =>
   simp only[aB] at e
   split at e
   ·have DA:b.roundOf=none:=by
     have:=hB.ro
     cases FY:b.roundOf with
     |none=>rfl
     |some bl=>rw[FY] at this;exact this.elim
    exact Final.steps (Steps.one (stepR_end DA)) (C.go G (.rtn []) ⟨hT,rfl⟩ e)
   ·exact aw G C rfl .none rfl (λhb IB hr=>stepR_round_end hb IB hr) e
  |code c k ks hk =>
   by_cases Qu:∃x ps BV body,c=.rangeFunc x ps BV body
   ·obtain⟨x,ps,BV,body,rfl⟩:=Qu
    exact aTg CT hx G C hk hT e
   ·exact aB4 hm G C hk hT (λx ps BV body hc=>Qu ⟨x,ps,BV,body,hc⟩) e
  |blk id k ks hk=>exact Final.steps (Steps.one stepR_inBlock) (C.plain G hk hT e)
  |lp c k ks hk=>exact Final.steps (Steps.one stepR_inLoop) (C.plain G (.code c _ _ (.lp c _ _ hk)) hT e)
  |sc c k ks hk=>exact Final.steps (Steps.one jY) (C.plain G hk hT e)
  |begin k ks hk=>exact aBA (fe:=fe) G C hk hT e
 |sync ops i k ks hi hk =>
  obtain⟨hT,rfl⟩:=hX;exact qv CT hx G C hi hk hT e
 |drawn ops pl E r qf k ks hk =>
  obtain⟨hL,rfl⟩:=hX;exact kh CT hx G C hk hL e
 |erf l bl N k ks hl hk =>
  obtain⟨hT,rfl⟩:=hX;exact aK6 (fe:=fe) G C hk hT hl e
 |bad l k=>exact(wU (show kF fe ih f dk rd ds tm (.op eX::l) k cs h nx=.ok v from e)).elim
 |rtn ks =>
  obtain⟨hT,rfl⟩:=hX;exact aHe CT G C hT e
theorem gx(hm:P.follows .mixedOrders=true)(CT:FeOK P w0 fe)(hx:lS P):∀n,Good P w0 (run fe n)
 |0=>by
  intro w J β f dk rd ds tm k cs h nx v fr frs c0 cs0 e;cases e
 |n+1=>zz hm CT hx (gx hm CT hx n)
end
section
variable {P:Program}{fe:Q->CF}
theorem aMp(P:Program)(w0:Base):FeOK P w0 (Qo P):=λg=>.inr (.inl (by simp only[Qo,dX]))
def Ov:List (Nat×GT)->Nat->CF->CF
 |[],_,c=>c
 |(a,t)::l,n,c=>(match Nat.beq a n with
  |true=>.giv t
  |false=>Ov l n c)
def bc:List (Nat×V)->Nat->CF->CF
 |[],_,c=>c
 |(a,v)::l,n,c=>(match Nat.beq a n with
  |true=>(match c with
   |.mk b rs=>.gor v b rs
   |c=>c)
  |false=>bc l n c)
def Sa(P:Program)(l:List (Nat×GT))(lg:List (Nat×V))(q:Q):CF:=Ov l q.nat (bc lg q.nat (compF P q.nat))
theorem mkG_ok(P:Program)(w0:Base)(l:List (Nat×GT))(lg:List (Nat×V))(h:∀p∈l,yQ P w0 p.1 p.2)(hg:∀p∈lg,GorOK P w0 p.1 p.2):FeOK P w0 (Sa P l lg):=λg=>by
 unfold Sa;rw[dX]
 have h2:bc lg g (compF P g)=compF P g\/∃v body rs,bc lg g (compF P g)=.gor v body rs/\compF P g=.mk body rs/\GorOK P w0 g v:=by
  induction lg with
  |nil=>exact .inl rfl
  |cons p lg ih =>
   obtain⟨a,v⟩:=p;simp only[bc];split
   ·rename_i hb
    obtain rfl:=Aa hb;cases hc:compF P a with
    |mk body rs=>exact .inr ⟨v,body,rs,rfl,rfl,hg _ (List.mem_cons_self ..)⟩
    |_=>exact .inl rfl
   ·exact ih λp hp=>hg p (Eg _ hp)
 have h1:Ov l g (bc lg g (compF P g))=bc lg g (compF P g)\/∃t,Ov l g (bc lg g (compF P g))=.giv t/\yQ P w0 g t:=by
  generalize bc lg g (compF P g)=c;induction l with
  |nil=>exact .inl rfl
  |cons p l ih =>
   obtain⟨a,t⟩:=p;simp only[Ov];split
   ·rename_i hb
    obtain rfl:=Aa hb;exact .inr ⟨t,rfl,h _ (List.mem_cons_self ..)⟩
   ·exact ih λp hp=>h p (Eg _ hp)
 rcases h1 with h1|h1
 ·rw[h1]
  rcases h2 with h2|h2
  ·exact .inr (.inl h2)
  ·exact .inr (.inr (.inr h2))
 ·exact .inr (.inr (.inl h1))
theorem run_callH{w0:Base}(hm:P.follows .mixedOrders=true)(CT:FeOK P w0 fe)(hx:lS P){g n:Nat}{body:C}{rs:List RV}{v:V}(hc:compF P g=.mk body rs){vs:List V}{us:List Value}{w:World}{J0:Rho}{h0:T O}{nx0:Q}(H:HR P w0 J0 h0 nx0 w)(hv:VRs J0 vs us)
  (e:lT vs .e .nil (λtm=>run fe n (qn g) false none [] tm (.code body .nil) [] h0 nx0)=.ok v) (c:Frame) (cs:List Frame) :
  ∃(w':World)(J':Rho)(h':T O)(nx':Q)(u:Value)(x:V),Steps P (lone (Frame.enter P g ⟨us⟩ .normal) (c::cs) w) (lone (c.finish u) cs w')/\HR P w0 J' h' nx' w'/\VR J' x u/\fin x h'=v :=
 pF (P:=P) (w0:=w0) (w:=w) (vs:=vs) (us:=us) (dk:=false) (cs:=[]) (frs:=[]) (c0:=c) (cs0:=cs) (v:=v) (gx hm CT hx n) H hv (.nil _ _ _) hc e
def zx(P:Program):Rho:=λq=>if q.nat < P.globals.size then some (q.nat,0) else none
def ur(P:Program)(w:World):Base:=⟨w,zx P⟩
theorem gHR(w:World)(hw:P.globals.size<=w.heap.size):HR P (ur P w) (zx P) .nil (qn P.globals.size) w:=by
 have h0:∀q b N,zx P q=some (b,N)->q.nat < P.globals.size/\b=q.nat:=λq b N h=>by
  simp only[zx] at h
  split at h
  ·simp at h;exact⟨by assumption,h.1.symm⟩
  ·cases h
 have C0:∀q,(T.nil:T O).ob q=.dead:=λq=>T.get_nil _ _
 exact⟨Af _,λ_ _=>rfl,rfl,rfl,rfl,λg hg=>⟨0,by simp[zx,dX,hg]⟩,λq hq=>by rw[dX] at hq;simp[zx];exact hq,λq b N h=>by obtain⟨h1,rfl⟩:=h0 q b N h;omega,
   λq b N _=>by rw[C0];exact .dead _ _,λq q' b N N' _ _ _=>by rw[C0];trivial,λq _=>C0 q,Rho.le_refl _⟩
theorem aD4(w:World)(hm:P.follows .mixedOrders=true)(CT:FeOK P (ur P w) fe)(hx:lS P){g n:Nat}{body:C}{rs:List RV}{v:V}(hc:compF P g=.mk body rs){vs:List V}{us:List Value}(hv:∀J:Rho,VRs J vs us)(e:lT vs .e .nil (λtm=>run fe n (qn g) false none [] tm (.code body .nil) [] .nil (qn P.globals.size))=.ok v)
  (hw:P.globals.size<=w.heap.size) (c:Frame) (cs:List Frame) :
  ∃(w':World)(J':Rho)(h':T O)(nx':Q)(u:Value)(x:V),Steps P (lone (Frame.enter P g ⟨us⟩ .normal) (c::cs) w) (lone (c.finish u) cs w')/\HR P (ur P w) J' h' nx' w'/\VR J' x u/\fin x h'=v :=
 run_callH hm CT hx hc (gHR w hw) (hv _) e c cs
end
section
open Go.Lib (indexByte countByte indexByte_ge run_indexByteString run_countString)
variable {P:Program}
theorem ga(c:UInt8):∀(l:List UInt8)(i:Nat)(k:Int->Res),sA c.toNat l.length (packL l) i k=k (if indexByte l c=-1 then -1 else i+indexByte l c)
 |[],i,k=>by simp[sA,indexByte]
 |b::l,i,k=>by
  have hb:b.toNat < 256:=b.toNat_lt;have h1:(b.toNat+256*packL l)%256=b.toNat:=by omega
  have h2:(b.toNat+256*packL l)/256=packL l:=by omega
  simp only[An,sA,packL,h1,h2,aF];by_cases hbc:b=c
  ·subst hbc
   simp[indexByte]
  ·have BD:b.toNat.beq c.toNat=false:=by
    cases hq:b.toNat.beq c.toNat with
    |false=>rfl
    |true=>exact absurd (Fp.1 (Aa hq)) hbc
   rw[BD];simp only;rw[ga c l (i+1) k];congr 1;have hbe:(b==c)=false:=by simpa using hbc
   have J8:=indexByte_ge l c;simp only[indexByte,hbe,Bj,Dm,Bx];by_cases hi:indexByte l c=-1
   ·simp[hi]
   ·rw[Bc hi,Bc hi,Bc (by omega)];omega
theorem aj(c:UInt8):∀(l:List UInt8)(n:Nat)(k:Nat->Res),x9 c.toNat l.length (packL l) n k=k (n+countByte l c)
 |[],n,k=>by simp[x9,countByte]
 |b::l,n,k=>by
  have hb:b.toNat < 256:=b.toNat_lt;have h1:(b.toNat+256*packL l)%256=b.toNat:=by omega
  have h2:(b.toNat+256*packL l)/256=packL l:=by omega
  simp only[An,x9,packL,h1,h2,aF];by_cases hbc:b=c
  ·subst hbc
   simp only[Cj];rw[aj b l (n+1) k];simp[countByte];congr 1;omega
  ·have BD:b.toNat.beq c.toNat=false:=by
    cases hq:b.toNat.beq c.toNat with
    |false=>rfl
    |true=>exact absurd (Fp.1 (Aa hq)) hbc
   rw[BD];simp only;rw[aj c l n k];simp[countByte,hbc]
theorem sq{v:V}{k:Nat->Res}{r:V}(h:Rv v k=.ok r):∃c,v=.int .u8 (.ofNat c)/\c<256/\k c=.ok r:=by
 cases v<;>try(cases h;done)
 rename_i kd n;cases kd<;>try(cases h;done)
 cases n<;>try(cases h;done)
 obtain⟨h1,h2⟩:=bP h;exact⟨_,rfl,dM h1,h2⟩
def y5(fn:Func):Bool:=fn.name== "internal/bytealg.IndexByteString"||fn.name== "internal/bytealg.CountString"||fn.name== "internal/abi.NoEscape"
def aJa(P:Program):Bool:=P.funcs.toList.all λfn=>fn.body.isSome||!y5 fn||(fn.origin== ""||fn.origin==fn.name)
theorem nx0:Extern.allNextRows.lookup "internal/bytealg.IndexByteString"=none:=by kernel_rfl
theorem nx1:Extern.allNextRows.lookup "internal/bytealg.CountString"=none:=by kernel_rfl
theorem nx2:Extern.allNextRows.lookup "internal/abi.NoEscape"=none:=by kernel_rfl
theorem nxe:Extern.allNextRows.lookup ""=none:=by kernel_rfl
theorem gn0:Extern.allGenericRows.lookup "internal/bytealg.IndexByteString"=none:=by kernel_rfl
theorem gn1:Extern.allGenericRows.lookup "internal/bytealg.CountString"=none:=by kernel_rfl
theorem gn2:Extern.allGenericRows.lookup "internal/abi.NoEscape"=none:=by kernel_rfl
theorem tn0:Extern.allTypedRows.lookup "internal/bytealg.IndexByteString"=none:=by kernel_rfl
theorem tn1:Extern.allTypedRows.lookup "internal/bytealg.CountString"=none:=by kernel_rfl
theorem tn2:Extern.allTypedRows.lookup "internal/abi.NoEscape"=none:=by kernel_rfl
theorem rw0:Extern.allRows.lookup "internal/bytealg.IndexByteString"=some Extern.BytealgIndexByte.indexByte:=by kernel_rfl
theorem rw1:Extern.allRows.lookup "internal/bytealg.CountString"=some Extern.BytealgCount.count:=by kernel_rfl
theorem rw2:Extern.allRows.lookup "internal/abi.NoEscape"=some Extern.AbiNoEscape.same:=by kernel_rfl
theorem yB {fn:Func} (h1:Extern.allNextRows.lookup fn.name=none) (h2:fn.origin= ""\/fn.origin=fn.name):Extern.findNext fn=none:=by
 unfold Extern.findNext;rcases h2 with h2|h2<;>simp[h2,h1,nxe]
theorem zt{fn:Func}{e:Array Value->Sem Value}(h1:Extern.allGenericRows.lookup fn.name=none)(h2:Extern.allTypedRows.lookup fn.name=none)(h3:Extern.allRows.lookup fn.name=some e):Extern.find fn=some e:=by
 unfold Extern.find;simp[h1,h2,h3]
theorem ext_ok(Hi:aJa P=true):lS P:=by
 intro g m hc w J vs us k v hv e;unfold compF at hc
 split at hc
 ·cases hc
 ·rename_i fn hf
  split at hc
  ·rename_i hb
   have MI:y5 fn=true->fn.origin= ""\/fn.origin=fn.name:=λTF=>by
    have:=(As.1 Hi) fn (by
     obtain⟨h1,h2⟩:=Ai.1 hf;rw[<-h2];simp)
    rw[hb,TF] at this;simpa using this
   have run:∀{en:Array Value->Sem Value}{u:Value},y5 fn=true->(fn.name== "runtime.NumGoroutine")=false->Extern.allNextRows.lookup fn.name=none->Extern.allGenericRows.lookup fn.name=none->Extern.allTypedRows.lookup fn.name=none->Extern.allRows.lookup fn.name=some en ->
     (en ⟨us⟩).run P w=.ok u w->(callFunc g ⟨us⟩).run P w=.ok (.value u) w:=λTF hn h1 h2 h3 h4 h5=>by
    rw[run_callFunc_extern hf hn (by rw[hb];rfl) (yB h1 (MI TF)) (zt h2 h3 h4),h5];rfl
   have two:∀{a b:V},VRs J [a,b] us->∃ua ub,us=[ua,ub]/\VR J a ua/\VR J b ub:=λh=>by
    obtain⟨ua,us1,rfl,h1,h2⟩:=h.inv_cons;obtain⟨ub,us2,rfl,h3,h4⟩:=h2.inv_cons;rw[h4.inv_nil];exact⟨ua,ub,rfl,h1,h3⟩
   split at hc
   ·rename_i hn
    cases hc;have hn:=Bx.1 hn;simp only[az] at e
    split at e
    ·rename_i x y
     obtain⟨ux,uy,rfl,hx,hy⟩:=two hv;obtain⟨l,s,rfl,e⟩:=qX e;obtain⟨c,rfl,AL,e⟩:=sq e;obtain⟨bs,rfl,rfl,rfl⟩:=hx.inv_str;have hy:=hy.inv_int;subst hy;have Jz:(UInt8.ofNat c).toNat=c:=by simp;omega
     rw[<-Jz,ga] at e;refine⟨_,.int .i64 (indexByte bs (UInt8.ofNat c)),e,?_,run (by unfold y5;rw[hn];decide) (by rw[hn];decide) (by rw[hn];exact nx0) (by rw[hn];exact gn0) (by rw[hn];exact tn0) (by rw[hn];exact rw0) ?_⟩
     ·have:(if indexByte bs (UInt8.ofNat c)=-1 then -1 else((0:Nat):Int)+indexByte bs (UInt8.ofNat c))=indexByte bs (UInt8.ofNat c):=by
       split
       ·rename_i h;exact h.symm
       ·simp
      rw[this];exact .int _ _
     ·rw[show(Int.ofNat c)=((c:Nat):Int) from rfl]
      have:=run_indexByteString (P:=P) ⟨⟨bs⟩⟩ (c:Int) w
      simpa using this
    ·cases e
   ·rename_i hn _
    cases hc;have hn:=Bx.1 hn;simp only[az] at e
    split at e
    ·rename_i x y
     obtain⟨ux,uy,rfl,hx,hy⟩:=two hv;obtain⟨l,s,rfl,e⟩:=qX e;obtain⟨c,rfl,AL,e⟩:=sq e;obtain⟨bs,rfl,rfl,rfl⟩:=hx.inv_str;have hy:=hy.inv_int;subst hy;have Jz:(UInt8.ofNat c).toNat=c:=by simp;omega
     rw[<-Jz,aj,Bo] at e;refine⟨_,.int .i64 (countByte bs (UInt8.ofNat c)),e,.int _ _,run (by unfold y5;rw[hn];decide) (by rw[hn];decide) (by rw[hn];exact nx1) (by rw[hn];exact gn1) (by rw[hn];exact tn1) (by rw[hn];exact rw1) ?_⟩;rw[show(Int.ofNat c)=((c:Nat):Int) from rfl]
     have:=run_countString (P:=P) ⟨⟨bs⟩⟩ (c:Int) w
     simpa using this
    ·cases e
   ·rename_i hn _ _
    cases hc;have hn:=Bx.1 hn;simp only[az] at e
    split at e
    ·rename_i x
     obtain⟨u,us1,rfl,h1,h2⟩:=hv.inv_cons;rw[h2.inv_nil] at run ⊢;exact⟨_,u,e,h1,run (by unfold y5;rw[hn];decide) (by rw[hn];decide) (by rw[hn];exact nx2) (by rw[hn];exact gn2) (by rw[hn];exact tn2) (by rw[hn];exact rw2) (by rfl)⟩
    ·cases e
   ·cases hc
  ·split at hc
   ·cases hc
   ·split at hc<;>cases hc
end
end Go.CM
end
