import Derived.Test.YtdkkaldimefljaaGreatDoorC06
import Derived.Lib.Bytealg
set_option linter.all false
noncomputable section
namespace Go.CM
section
variable {P:Program}{w0 w w':World}{J J':Rho}{h h':T O}{nx nx':Q}{tm:T V}{tmps:Array Value}{r v:V}{ops:Array Oper}{n β:Nat}{f:Q}{dk:Bool}{rd:Option Q}{ds:List Df}{k:K}{cs:List Fr}{fr b:Frame}{frs:List Frame}{c0:Frame}{cs0:List Frame}{ih:E9}{fe:Q->CF}{ks:List Item}{AU:List Deferred}
section steps
variable {a:Act}{g:Operand}{ps:Array Tmp}{assign body:Code}{l:Nat}{mark:List Deferred}{w₁ w₁' w₂:World}{d:Deferred}{cs:List Frame}
theorem bw{u:Value}(he:(Instr.enterLoop b.fn a.tmps ps assign body b.roundOf).run P w=.ok (l,mark) w₁)(CB:(resolve a.eval (rangeCall g l) 0).run P w₁=.ok d w₁')(hinv:(invoke d.target d.args).run P w₁'=.ok (.value u) w₂) :
  step P (lone (b.atR a (.code (.rangeFunc g ps assign body)::ks)) cs w)=.next (lone ((b.atR { a with defers:=mark++a.defers } (.inRangeFunc l::ks)).finish u) cs w₂) :=
 step_lone_go (by
  have Ip:=Frame.eval_atR b { a with defers:=mark++a.defers } (.inRangeFunc l::ks);simp only[Frame.atR] at Ip;have Jh:Sem.run P (resolve ({ tmps:=a.tmps,defers:=mark++a.defers }:Act).eval { callee:=.value g,args:=#[.const (.func (.yield l) #[] #[])],argTypes:=#[] } 0) w₁=.ok d w₁':=CB;simp[stepG,stepG.exec,Frame.atR,Sem.runT_eq,he,GStep.bare_after,stepG.apply,Ip,Sem.run_bind,Jh,hinv,Result.andThen])
theorem bu{l':Nat}{gg:FuncId}{tt:Array Value}{x y:Code}(he:(Instr.enterLoop b.fn a.tmps ps assign body b.roundOf).run P w=.ok (l,mark) w₁)(CB:(resolve a.eval (rangeCall g l) 0).run P w₁=.ok d w₁')(hinv:(invoke d.target d.args).run P w₁'=.ok (.round l' gg tt x y) w₂) :
  step P (lone (b.atR a (.code (.rangeFunc g ps assign body)::ks)) cs w)=.next (lone (Frame.round l' gg tt x y .normal) (b.atR { a with defers:=mark++a.defers } (.inRangeFunc l::ks)::cs) w₂) :=
 step_lone_go (by
  have Ip:=Frame.eval_atR b { a with defers:=mark++a.defers } (.inRangeFunc l::ks);simp only[Frame.atR] at Ip;have Jh:Sem.run P (resolve ({ tmps:=a.tmps,defers:=mark++a.defers }:Act).eval { callee:=.value g,args:=#[.const (.func (.yield l) #[] #[])],argTypes:=#[] } 0) w₁=.ok d w₁':=CB;simp[stepG,stepG.exec,Frame.atR,Sem.runT_eq,he,GStep.bare_after,stepG.apply,Ip,Sem.run_bind,Jh,hinv,Result.andThen])
end steps
theorem aJ5(D5:xA P fe)(hx:pT P)(G:Good P ih){g:Operand}{ps:Array Tmp}{assign body:Code}{w2:World}{J2:Rho}{h2:T O}{n2:Q}{gq:Q}{fs caps:List V}{ua ub:List Value}{lq:Q}{bl N:Nat}{mark:List Deferred}{E8:List Df}
  (C:Ctx P w0 w2 J2 h2 β n2 f dk rd E8 cs frs b (mark++AU)) (hk:KS P (nt P f.nat) k ks) (hT:TR J2 (nt P f.nat) tm tmps) (hg:ev tmps AU g=.func (.func gq.nat) ⟨ua⟩ ⟨ub⟩) (h1:VRs J2 fs ua) (h3:VRs J2 caps ub) (hl:J2 lq=some (bl,N))
  (he:(Instr.enterLoop b.fn tmps ps assign body b.roundOf).run P w=.ok (bl,mark) w2)
  (e:iQ fe ih gq (fs++(.yld lq::caps)) false (.mk f dk rd E8 tm (.inrf lq k)::cs) h2 n2=.ok v) :
  Final P w0 (lone (b.atR ⟨tmps,AU⟩ (.code (.rangeFunc g ps assign body)::ks)) (frs++c0::cs0) w) c0 cs0 v:=by
 have e':dJ fe ih (.fn gq fs caps) [.yld lq] (.mk f dk rd E8 tm (.inrf lq k)::cs) h2 n2=.ok v:=by
  simp only[dJ,fL];exact e
 have Hs:VR J2 (.fn gq fs caps) (.func (.func gq.nat) ⟨ua⟩ ⟨ub⟩):=.fn _ _ _ _ _ h1.1 h3.1 h1.2 h3.2;have DK:VRs J2 [.yld lq] [.func (.yield bl) #[] #[]]:=.cons (.yld _ _ _ hl) .nil
 have hS:StkR P J2 h2 (.mk f dk rd E8 tm (.inrf lq k)::cs) (b.atR ⟨tmps,mark++AU⟩ (.inRangeFunc bl::ks)::frs) n2.nat :=
  .cons J2 J2 h2 h2 f dk rd E8 tm _ cs _ frs β n2.nat n2 ⟨C.le,b,mark++AU,tmps,_,C.B,C.D,C.rn,.inrf lq bl N k ks hl hk,hT,rfl⟩ (Ae _) (Keep.refl _ _ _) C.S
 obtain⟨dd,IC,NN⟩:=lL (c0:=c0) (cs0:=cs0) D5 hx G C.H Hs DK hS e'
 have CB:(resolve (ev tmps AU) (rangeCall g bl) 0).run P w2=.ok dd w2:=by
  rw[<-IC];simp[resolve,rangeCall,hg];rfl
 rcases NN with⟨gg,all,i1,i2⟩|⟨ll,gg,tt,x,y,i1,i2⟩|⟨x,u,i1,i2,i3⟩
 ·exact Final.steps (Steps.one (stepR_rangeFunc (a:=⟨tmps,AU⟩) he CB i1)) i2
 ·exact Final.steps (Steps.one (bu (a:=⟨tmps,AU⟩) he CB i1)) i2
 ·refine Final.steps (Steps.one (bw (a:=⟨tmps,AU⟩) he CB i1)) ?_
  simp only[qR] at i3;exact C.go (fr:=b.atR ⟨tmps,mark++AU⟩ (.endRangeFunc bl::ks)) G (.erf lq bl N k ks hl hk) ⟨hT,rfl⟩ i3
theorem aPp(D5:xA P fe)(hx:pT P)(G:Good P ih){g:Operand}{ps:Array Tmp}{assign body:Code}(C:Ctx P w0 w J h β nx f dk rd ds cs frs b AU)(hk:KS P (nt P f.nat) k ks)(hT:TR J (nt P f.nat) tm tmps)
  (e:mS ih f dk rd ds tm (dF P (nt P f.nat) (.rangeFunc g ps assign body)) k cs h nx fe=.ok v):Final P w0 (lone (b.atR ⟨tmps,AU⟩ (.code (.rangeFunc g ps assign body)::ks)) (frs++c0::cs0) w) c0 cs0 v:=by
 simp only[dF] at e
 split at e
 ·rename_i hps
  have PW:∀t∈ps.toList,t<nt P f.nat:=λt ht=>dH ((An.1 hps) t ht)
  simp only[mS] at e;obtain⟨fv,L5,e⟩:=eF e;have Hs:=fV (ds:=AU) C.H.glob (λt _=>hT.rel t) L5
  split at e
  case h_2=>cases e
  rename_i gq fs caps;obtain⟨ua,ub,hg,h1,h3⟩:=Hs.inv_fn;have D4:=C.H.fresh nx (Ae _);have hS1:nx.succ.nat=nx.nat+1:=Q.nat_succ _;rw[fL] at e;cases rd with
  |none =>
   simp only[cM,eD] at e
   have C6:b.roundOf=none:=by
    have:=C.B.ro
    cases E7:b.roundOf with
    |none=>rfl
    |some bl=>rw[E7] at this;exact this.elim
   obtain⟨H1,K1⟩:=C.H.make (x:=.deferred (some [])) (N:=0) (ob:=.dfd false) (.dfd false _ _ C.H.size (AM.heap_alloc_new _));have IC:(J.set nx w.heap.size 0) nx=some (w.heap.size,0):=Rho.set_same
   let r0:Loop:={ state:=.ready,pending:=none,fn:=b.fn,tmps:=tmps,params:=ps,assign:=assign,body:=body,defers:=w.heap.size }
   let w1:=w.alloc (.deferred (some []))
   have WA:=H1.fresh nx.succ (Ae _);have D3:=Rho.set_le (b:=w1.heap.size) (N:=0) WA
   have CY:LR P ((J.set nx w.heap.size 0).set nx.succ w1.heap.size 0) (.mk 0 .none (qn f.nat) tm (ps.toList.map qn) (dF P (nt P f.nat) assign) (dF P (nt P f.nat) body) nx) r0 :=
    LR.mk 0 .none f.nat tm nx r0 0 .ready .none C.B.fn (hT.mono (Rho.le_trans K1.le D3)) PW (D3 _ _ IC)
   rw[qI] at CY;obtain⟨H2,K2⟩:=H1.make (x:=.loop r0) (N:=0) (.loop _ r0 _ _ H1.size (AM.heap_alloc_new _) CY)
   have U6:Keep β J h ((J.set nx w.heap.size 0).set nx.succ w1.heap.size 0) ((h.put .dead (.dfd false) nx).put .dead (.loop (.mk 0 .none f tm (ps.toList.map qn) (dF P (nt P f.nat) assign) (dF P (nt P f.nat) body) nx)) nx.succ) :=
    (K1.down C.le).trans (K2.down (by have:=C.le;omega))
   have C2:=C.keep H2 (by rw[Q.nat_succ,Q.nat_succ];omega) U6;have D2:=DsR.coll nx w.heap.size 0 ds AU (D3 _ _ IC) C2.D;have C3:Ctx P w0 _ _ _ β _ f dk none (.coll nx::ds) cs frs b ([{ target:=.collected w.heap.size,args:=#[] }]++AU):=⟨C2.H,C2.le,C2.B,D2,λh0=>absurd rfl h0,C2.S⟩
   refine aJ5 D5 hx G C3 hk (hT.mono U6.le) hg (h1.mono U6.le) (h3.mono U6.le) (lq:=nx.succ) (bl:=w1.heap.size) (N:=0) Rho.set_same ?_ e;rw[C6,run_enterLoop_outer];simp[w1,r0]
  |some lo =>
   simp only[bV] at e;obtain⟨st,pend,fn,BA,ps',RH,GS,B8,BP,e⟩:=gF e;simp only[cM,eD] at e;have C6:=C.B.ro;cases E7:b.roundOf with
   |none=>rw[E7] at C6;exact C6.elim
   |some blo =>
   rw[E7] at C6;obtain⟨No,AW⟩:=C6;obtain⟨r,hw,CY,hB,AR⟩:=C.H.loop AW BP;cases CY with
   |mk _ _ F8 _ _ _ N' a1 a2 a3 a4 a5 a6 =>
   let r0:Loop:={ state:=.ready,pending:=none,fn:=b.fn,tmps:=tmps,params:=ps,assign:=assign,body:=body,defers:=r.defers }
   have D3:=Rho.set_le (b:=w.heap.size) (N:=0) D4
   have CY:LR P (J.set nx w.heap.size 0) (.mk 0 .none (qn f.nat) tm (ps.toList.map qn) (dF P (nt P f.nat) assign) (dF P (nt P f.nat) body) B8) r0 :=
    LR.mk 0 .none f.nat tm B8 r0 N' .ready .none C.B.fn (hT.mono D3) PW (D3 _ _ a6)
   rw[qI] at CY;obtain⟨H2,K2⟩:=C.H.make (x:=.loop r0) (N:=0) (.loop _ r0 _ _ C.H.size (AM.heap_alloc_new _) CY);have C2:=C.keep H2 (by rw[Q.nat_succ];omega) (K2.down C.le);have C3:Ctx P w0 _ _ _ β _ f dk (some lo) ds cs frs b ([]++AU):=C2;refine aJ5 D5 hx G C3 hk (hT.mono K2.le) hg (h1.mono K2.le) (h3.mono K2.le) (lq:=nx) (bl:=w.heap.size) (N:=0) Rho.set_same ?_ e;rw[E7];simp[Instr.enterLoop,Sem.run_bind,run_getLoop hw,run_newObj_alloc,Result.andThen,r0]
 ·cases e
theorem aLh(G:Good P ih){l:Q}{bl N:Nat}(C:Ctx P w0 w J h β nx f dk rd ds cs frs b AU)(hk:KS P (nt P f.nat) k ks)(hT:TR J (nt P f.nat) tm tmps)(hl:J l=some (bl,N))
  (e:aD fe ih f dk rd ds tm (.erf l k) cs h nx=.ok v):Final P w0 (lone (b.atR ⟨tmps,AU⟩ (.endRangeFunc bl::ks)) (frs++c0::cs0) w) c0 cs0 v:=by
 simp only[aD,bV] at e;obtain⟨st,pend,fn,BA,ps,BW,body,B8,BP,e⟩:=gF e;obtain⟨A7,e⟩:=bW e;rw[cM] at e;obtain⟨r,hw,CY,hB,AR⟩:=C.H.loop hl BP;cases CY with
 |mk _ _ F8 _ _ _ N' h1 h2 h3 h4 h5 h6 =>
 have GZ:r.state≠.busy:=λhb=>by rw[hb] at h1;cases h1;cases A7
 have Jo:LR P J (.mk 3 pend (qn F8) BA (r.params.toList.map qn) (dF P (nt P F8) r.assign) (dF P (nt P F8) r.body) B8) { r with state:=.exhausted } :=
  LR.mk 3 pend F8 BA B8 { r with state:=.exhausted } N' .exhausted h2 h3 h4 h5 h6
 obtain⟨H',K⟩:=C.H.setLoop hl BP hB AR Jo;have C':=C.keep H' (Ae _) (K.down C.le);refine Final.steps (Steps.one (stepR_endRangeFunc (a:=⟨tmps,AU⟩) (run_endLoop hw GZ))) ?_
 have main:∀jp,JR pend jp->Final P w0 (lone (b.atR ⟨tmps,AU⟩ ((jp.map Item.code).toList++ks)) (frs++c0::cs0) (w.putObj bl (.loop { r with state:=.exhausted }))) c0 cs0 v:=λjp hj=>by
  cases hj with
  |none=>exact C'.plain G hk hT e
  |ret=>exact C'.plain G (.code .ret _ _ hk) hT e
  |exit id=>exact C'.plain G (.code (.exit id) _ _ hk) hT e
 exact main _ h2
theorem aDE(G:Good P ih)(C:Ctx P w0 w J h β nx f dk rd ds cs frs b AU)(hk:KS P (nt P f.nat) k ks)(hT:TR J (nt P f.nat) tm tmps)
  (e:aD fe ih f dk rd ds tm (.begin k) cs h nx=.ok v):Final P w0 (lone (b.atR ⟨tmps,AU⟩ (.beginRound::ks)) (frs++c0::cs0) w) c0 cs0 v:=by
 simp only[aD] at e
 split at e
 ·cases e
 rename_i l;rw[bV] at e;obtain⟨st,pend,fn,BA,ps,BW,body,B8,BP,e⟩:=gF e;obtain⟨A7,e⟩:=bW e;rw[cM] at e;have C6:=C.B.ro;cases E7:b.roundOf with
 |none=>rw[E7] at C6;exact C6.elim
 |some bl =>
 rw[E7] at C6;obtain⟨N,hl⟩:=C6;obtain⟨r,hw,CY,hB,AR⟩:=C.H.loop hl BP;cases CY with
 |mk _ _ F8 _ _ _ N' h1 h2 h3 h4 h5 h6 =>
 have hrd:r.state=.ready:=by
  have:=Aa A7
  subst this
  revert h1
  cases r.state<;>intro h1<;>first|rfl|cases h1
 have Jo:LR P J (.mk 1 pend (qn F8) BA (r.params.toList.map qn) (dF P (nt P F8) r.assign) (dF P (nt P F8) r.body) B8) { r with state:=.busy } :=
  LR.mk 1 pend F8 BA B8 { r with state:=.busy } N' .busy h2 h3 h4 h5 h6
 obtain⟨H',K⟩:=C.H.setLoop hl BP hB AR Jo;have C':=C.keep H' (Ae _) (K.down C.le);exact Final.steps (Steps.one (stepR_beginRound (a:=⟨tmps,AU⟩) E7 (run_beginRound hw hrd))) (C'.plain G hk hT e)
end
section
open Go.AM (lZ sK jG run_getObj run_setObj run_underlying)
variable {P:Program}{w0 w w':World}{J J':Rho}{h h':T O}{nx nx':Q}{tm:T V}{tmps:Array Value}{r v:V}{ops:Array Oper}{n β:Nat}{f:Q}{dk:Bool}{rd:Option Q}{ds:List Df}{k:K}{cs:List Fr}{fr b:Frame}{frs:List Frame}{c0:Frame}{cs0:List Frame}{ih:E9}{fe:Q->CF}{ks:List Item}{AU:List Deferred}
theorem MR.erase{es:List (V×V)}{AD:List MapEntry}(h:MR J es AD)(j:Nat):MR J (es.eraseIdx j) (AD.eraseIdx j):=by
 have hl:=h.len;refine⟨by simp only[List.length_eraseIdx,hl],λi p e h1 h2=>?_,λi p e h1 h2=>?_⟩
 ·rw[Hi] at h1 h2
  split at h1
  ·rename_i hi;rw[Bo hi] at h2;exact h.key _ _ _ h1 h2
  ·rename_i hi;rw[Ax hi] at h2;exact h.key _ _ _ h1 h2
 ·rw[Hi] at h1 h2
  split at h1
  ·rename_i hi;rw[Bo hi] at h2;exact h.val _ _ _ h1 h2
  ·rename_i hi;rw[Ax hi] at h2;exact h.val _ _ _ h1 h2
theorem aAs(H:HR P w0 J h nx w){s:KK}{t:TypeId}{x:V}{ux:Value}(hk:KT P s t)(hx:VR J x ux) :
  ∀{es:List (V×V)}{AD:List MapEntry}{i:Nat}{k:List (V×V)->AA},MR J es AD->ig s h x es k=.ok r ->
  (k es=.ok r/\(Instr.findAsking t ux AD i).run P w=.ok none w/\∀d r',P.underlying t=some d->Instr.findNow d ux AD i=some r'->r'=none) \/
   ∃j u,j<AD.length/\k (es.eraseIdx j)=.ok r/\(Instr.findAsking t ux AD i).run P w=.ok (some (i+j,u)) w/\∀d r',P.underlying t=some d->Instr.findNow d ux AD i=some r'->r'=some (i+j,u)
 |[],[],i,k,hm,e=>.inl ⟨e,by simp[Instr.findAsking],λd r' _ h=>by simp[Instr.findNow] at h;exact h.symm⟩
 |[],_::_,i,k,hm,e=>by have:=hm.len;simp at this
 |_::_,[],i,k,hm,e=>by have:=hm.len;simp at this
 |(y,v)::es,en::AD,i,k,hm,e=>by
  simp only[ig] at e;obtain⟨b,e,s1,s2,s3⟩:=yT H hk hx (hm.key 0 (y,v) en rfl rfl) e;have LI:MR J es AD:=⟨by have:=hm.len;simpa using this,λi p e h1 h2=>hm.key (i+1) p e (by simpa using h1) (by simpa using h2),λi p e h1 h2=>hm.val (i+1) p e (by simpa using h1) (by simpa using h2)⟩
  cases b with
  |true =>
   refine .inr ⟨0,en.val,by simp,e,by simp[Instr.findAsking,s1],λd r' hd h=>?_⟩;simp only[Instr.findNow] at h
   split at h
   ·simpa using h.symm
   ·rename_i hs;have:=s2 d _ hd hs;cases this
   ·cases h
  |false =>
   have now:∀d r',P.underlying t=some d->Instr.findNow d ux (en::AD) i=some r'->Instr.findNow d ux AD (i+1)=some r':=λd r' hd h=>by
    simp only[Instr.findNow] at h
    split at h
    ·rename_i hs;have:=s2 d _ hd hs;cases this
    ·exact h
    ·cases h
   rcases aAs H hk hx (i:=i+1) LI e with⟨f1,f3,f4⟩|⟨j,u,f1,f2,f5,f6⟩
   ·exact .inl ⟨f1,by simp[Instr.findAsking,s1,f3],λd r' hd h=>f4 d r' hd (now d r' hd h)⟩
   ·refine .inr ⟨j+1,u,by simp;omega,f2,?_,λd r' hd h=>?_⟩
    ·rw[show i+(j+1)=i+1+j by omega];simp[Instr.findAsking,s1,f5]
    ·rw[show i+(j+1)=i+1+j by omega];exact f6 d r' hd (now d r' hd h)
theorem aB8(AD:List MapEntry){j:Nat}(hj:j<AD.length):(⟨AD⟩:Array MapEntry).eraseIdxIfInBounds j=⟨AD.eraseIdx j⟩:=by
 apply Cg;simp[Array.eraseIdxIfInBounds,hj,Array.toList_eraseIdx]
theorem aLe(H:HR P w0 J h nx w){s:KK}{m key:V}{um uk:Value}{ts:Array TypeId}{ty t el:TypeId}{cb:Array Bool}{k:T O->AA}(ht:ts[0]?=some t)(hm:tZ P t=some (s,el))(hv:VR J m um)(hk:VR J key uk)
  (e:hY s key (match(generalizing:=false) m with
   |.map o=>gO o h λob=>rW ob λes=>ig s h key es λes'=>pO (.mapd es') o h k
   |_=>.bad 97)=.ok r) :
  ∃h' w' u,k h'=.ok r/\(invoke (.builtin .delete ts ty cb) #[um,uk]).run P w=.ok (.value u) w'/\HR P w0 J h' nx w'/\Keep nx.nat J h J h':=by
 obtain⟨e4,NI⟩:=rU e;cases m<;>simp only at e4<;>first|cases e4|skip
 rename_i o;rw[bV] at e4;obtain⟨es,B3,e5⟩:=rX e4;obtain⟨b,N,rfl,hb⟩:=hv.inv_map;obtain⟨AD,cl,g1,g2,g3,g4⟩:=H.map' hb B3;obtain⟨kt,hu,FZ⟩:=wS hm;obtain⟨d,hd⟩:=FZ.desc;have AR:=(Ad.1 g1).1;have BI:=run_getObj (P:=P) g1 (by simp);have dA:=λo'=>run_setObj (P:=P) (o':=o') g1 (by simp)
 have EB:=λbb=>run_checkKey (w:=w) FZ hk NI bb 9998
 have put:∀es' ents',MR J es' ents'->HR P w0 J (h.put .dead (.mapd es') o) nx (w.putObj b (.map ⟨ents'⟩ cl))/\Keep nx.nat J h J (h.put .dead (.mapd es') o):=λes' ents' JH=>by
  rcases B3 with B3|B3
  ·exact H.putMap hb B3 rfl (λ_ _ _ _ _ _ e=>by cases e) rfl (λ_ _ _ _ _ _ e=>by cases e) g3 (.mapd _ _ _ _ _ g3 (World.putObj_heap_same AR) JH)
  ·exact H.putMap hb B3 rfl (λ_ _ _ _ _ _ e=>by cases e) rfl (λ_ _ _ _ _ _ e=>by cases e) g3 (.mapd _ _ _ _ _ g3 (World.putObj_heap_same AR) JH)
 rcases aAs (i:=0) H FZ hk g2 e5 with⟨f1,f3,f4⟩|⟨j,u,f1,f2,f5,f6⟩
 ·rw[cM] at f1
  have G0:=run_findKey hd f3 f4;obtain⟨p1,p2⟩:=put es AD g2;refine⟨_,_,.tuple #[],f1,?_,p1,p2⟩;simp[invoke,builtin,Builtin.delete_,ht,run_underlying hu,BI,EB,G0,dA]
 ·rw[cM] at f2
  have G0:=run_findKey hd f5 f6;obtain⟨p1,p2⟩:=put _ _ (g2.erase j);refine⟨_,_,.tuple #[],f2,?_,p1,p2⟩;rw[<-aB8 AD f1];simp[invoke,builtin,Builtin.delete_,ht,run_underlying hu,BI,EB,G0,dA]
theorem kX(H:HR P w0 J h nx w)(hT:TR J n tm tmps):∀{rl:List ResultVar}{rs:List RV}{k:List V->AA},u3 P rl=some rs->iV tm h rs k=.ok r->∃vs us,k vs=.ok r/\(rl.mapM (lZ tmps)).run P w=.ok us w/\VRs J vs us
 |[],rs,k,hc,e=>by
  simp only[u3,Ak] at hc;subst hc;exact⟨[],[],e,by simp,.nil⟩
 |.tmp t::rl,rs,k,hc,e=>by
  simp only[u3,Al] at hc;obtain⟨rs',hc,rfl⟩:=hc;simp only[iV,dZ] at e;obtain⟨vs,us,h1,h2,h3⟩:=kX H hT hc e;refine⟨_,tmps.getD t Go.undef::us,h1,?_,.cons (hT.rel t) h3⟩;simp only[Fk,lZ,Sem.run_bind];simp[h2]
 |.cell a t::rl,rs,k,hc,e=>by
  simp only[u3] at hc;obtain⟨g,hg,EO⟩:=dC hc;obtain⟨s,hs,Si⟩:=dC EO
  split at Si
  ·rename_i hgs
   simp only[Al] at Si;obtain⟨rs',hcr,rfl⟩:=Si;simp only[iV,dZ] at e;obtain⟨o,off,ho,e⟩:=l7 e;have hp:=hT.rel a;rw[show tm.at a=.ptr o off from ho] at hp;obtain⟨b,N,hv,hb⟩:=hp.inv_ptr;cases g with
   |true =>
    simp only at e;obtain⟨m,tt,h1,h2,e3⟩:=mh e;obtain⟨vs,g1,g2,g3,g4⟩:=H.cells hb h1 h2;obtain⟨B7,us,i1,i2,i3⟩:=kX H hT hcr e3;refine⟨_,.agg ⟨vs⟩::us,i1,?_,.cons (g3.agg g4) i3⟩;simp only[Fk,lZ,Sem.run_bind,hv];simp[asAddr,AM.run_loadVar_agg (P:=P) hg (by rw[g1];exact hs) g2,i2]
   |false =>
    simp only at e;obtain⟨m,tt,h1,h2,e3⟩:=aEU e;obtain⟨u,g1,g2,_⟩:=H.cell hb h1 h2;obtain⟨B7,us,i1,i2,i3⟩:=kX H hT hcr e3;refine⟨_,u::us,i1,?_,.cons g2 i3⟩;simp only[Fk,lZ,Sem.run_bind,hv];simp[asAddr,AM.run_loadVar_one hg g1,i2]
  ·cases Si
theorem aFf{vs:List V}{us:List Value}(hv:VRs J vs us):VR J (Tp vs) (sK us):=by
 match vs,us,hv with
 |[],us,hv=>rw[hv.inv_nil];exact .tup [] [] rfl (λi c v h=>by simp at h)
 |[x],us,hv =>
  obtain⟨u,Oa,rfl,h1,h2⟩:=hv.inv_cons;rw[h2.inv_nil];exact h1
 |x::y::vs,us,hv =>
  obtain⟨u,Oa,rfl,h1,h2⟩:=hv.inv_cons;obtain⟨u2,Uf,rfl,h3,h4⟩:=h2.inv_cons;exact .tup _ _ hv.1 hv.2
end
section
open Go.AM (sK jG)
variable {P:Program}{w0 w w':World}{J J':Rho}{h h':T O}{nx nx':Q}{tm:T V}{tmps:Array Value}{r v:V}{ops:Array Oper}{n β:Nat}{f:Q}{dk:Bool}{rd:Option Q}{ds:List Df}{k:K}{cs:List Fr}{fr b:Frame}{frs:List Frame}{c0:Frame}{cs0:List Frame}{ih:E9}{fe:Q->CF}{ks:List Item}{AU:List Deferred}
theorem pS{fr:Frame}{cs:List Frame}{d:Deferred}{ds:List Deferred}{u:Value}{bb:Builtin}{ts:Array TypeId}{ty:TypeId}{cb:Array Bool}(hm:fr.mode=.returning)(hd:fr.defers=d::ds)(ht:d.target=.builtin bb ts ty cb)(hi:(invoke d.target d.args).run P w=.ok (.value u) w') :
  step P (lone fr cs w)=.next (lone { fr with defers:=ds } cs w'):=by
 obtain⟨t,a⟩:=d;simp only at ht hi;subst ht;refine step_lone_go ?_;simp[stepG,unwind,callDeferred,hm,hd,hi]
theorem aIF(D5:xA P fe)(G:Good P ih)(C:Ctx P w0 w J h β nx f dk rd ds cs frs b AU)(hT:TR J (nt P f.nat) tm tmps)
  (e:nw fe ih f dk rd ds tm cs h nx=.ok v):Final P w0 (lone { b.atR ⟨tmps,AU⟩ ks with mode:=.returning } (frs++c0::cs0) w) c0 cs0 v:=by
 have hD:=C.D;have LN:∀{x:Df}{DE:List Df},ds=x::DE->rd≠none->DE=[]:=λh0 h1=>by have:=C.rn h1;rw[h0] at this;cases this
 cases hD with
 |coll q bl N DE DT hq hr =>
  simp only[nw,bV] at e
  split at e
  ·rename_i BP
   rw[cM] at e;have hO:=C.H.obj q bl N hq;rw[BP] at hO;cases hO with
   |dfd _ _ _ hB hw =>
   simp only[Bc,Dd] at hw;have AR:=(Ad.1 hw).1;obtain⟨H',K⟩:=C.H.putMap (y:=.deferred none) (x':=.dfd true) hq BP rfl (λ_ _ _ _ _ _ e=>by cases e) rfl (λ_ _ _ _ _ _ e=>by cases e) hB (.dfd true _ _ hB (by simpa using World.putObj_heap_same AR));have C':=C.keep H' (Ae _) (K.down C.le);have C2:Ctx P w0 _ J _ β nx f dk rd DE cs frs b DT:=⟨C'.H,C'.le,C'.B,hr,LN rfl,C'.S⟩
   refine Final.steps (Steps.one (step_collected (r:=bl) (calls:=[]) (ds:=DT) (d:={ target:=.collected bl,args:=#[] }) (by simp) rfl rfl (run_takeDeferred hw))) ?_;exact C2.go G (.rtn ks) ⟨hT,rfl⟩ e
  ·cases e
 |call g cs1 av cv DE DT hv hr =>
  simp only[nw] at e;unfold iQ at e;rw[oM] at e
  split at e
  ·cases e
  ·split at e<;>cases e
  ·rename_i body rs BK
   have hcf':compF P g=.mk body rs:=by
    rcases D5 g with h0|h0
    ·rw[h0] at BK;cases BK
    ·rw[<-h0];exact BK
   obtain⟨fn,cc,g1,g2,g3,g4,_⟩:=rP hcf'
   have hS:StkR P J h (.mk f dk rd DE tm .rtn::cs) ({ b.atR ⟨tmps,DT⟩ ks with mode:=.returning }::frs) nx.nat :=
    .cons J J h h f dk rd DE tm _ cs _ frs β nx.nat nx ⟨C.le,b,DT,tmps,_,C.B,hr,LN rfl,.rtn ks,hT,rfl⟩ (Ae _) (Keep.refl _ _ _) C.S
   have C1:(⟨av⟩:Array Value)++⟨cv⟩=⟨av++cv⟩:=by apply Cg;simp
   have hinv:(invoke (.fn (.func g) ⟨cv⟩) ⟨av⟩).run P w=.ok (.enter g ⟨av++cv⟩) w:=by
    simp only[invoke,C1];simp[callFunc,g1,g2,g3];intro hn;rw[hn] at g3;simp at g3
   refine Final.steps (Steps.one (Go.step_defer (ds:=DT) (d:={ target:=.fn (.func g) ⟨cv⟩,args:=⟨av⟩ }) (by simp) rfl rfl hinv)) ?_
   have:=yA (dk:=true) (c0:=c0) (cs0:=cs0) G C.H hv hS hcf' e
   simp only[Dk] at this;exact this
 |del s m key ts ty cb t el um uk DE DT ht hm hv hk hr =>
  simp only[nw] at e;obtain⟨h',w',u,e1,hi,H',K⟩:=aLe (ty:=ty) (cb:=cb) C.H ht hm hv hk e;have C':=C.keep H' (Ae _) (K.down C.le);have C2:Ctx P w0 _ J _ β nx f dk rd DE cs frs b DT:=⟨C'.H,C'.le,C'.B,hr,LN rfl,C'.S⟩
  refine Final.steps (Steps.one (pS (ds:=DT) (d:={ target:=.builtin .delete ts ty cb,args:=#[um,uk] }) rfl rfl rfl hi)) ?_;exact C2.go G (.rtn ks) ⟨hT,rfl⟩ e1
 |nil =>
  simp only[nw] at e;rw[oM] at e
  split at e
  ·cases e
  ·cases e
  ·rename_i body rs BK
   have hcf':compF P f.nat=.mk body rs:=by
    rcases D5 f.nat with h0|h0
    ·rw[qI] at h0;rw[h0] at BK;cases BK
    ·rw[qI] at h0;rw[<-h0];exact BK
   obtain⟨fn,cc,g1,g2,g3,g4,_⟩:=rP hcf';obtain⟨vs,us,e1,r1,r2⟩:=kX C.H hT g4 e;have CB:=jG r1;have ME:=aFf r2;have hS:=C.S;have GC:({ b.atR ⟨tmps,[]⟩ ks with mode:=.returning }:Frame).fn=f.nat:=C.B.fn;have Vq:({ b.atR ⟨tmps,[]⟩ ks with mode:=.returning }:Frame).kind=if dk then .deferred else .normal:=C.B.kind
   have Pe:({ b.atR ⟨tmps,[]⟩ ks with mode:=.returning }:Frame).going P w (.returned (sK us)):=⟨rfl,rfl,fn,by rw[GC];exact g1,CB⟩
   split at e1
   ·cases hS
    split at e1
    ·rename_i Sf
     cases e1;exact⟨w,J,h,nx,sK us,_,Steps.one (step_leave_returned ⟨rfl,rfl,by rw[Vq];rfl,fn,by rw[GC];exact g1,CB⟩),C.H,ME,rfl⟩
    ·cases e1
   ·cases hS with
    |cons J0 _ h0 _ f' Sr Kx DE CU k' BZ Lh IH β0 _ nx0 hf hn hK hs =>
    split at e1
    ·refine Final.steps (Steps.one (step_leave_returned ⟨rfl,rfl,by rw[Vq];rfl,fn,by rw[GC];exact g1,CB⟩)) ?_
     exact aAx G C.H hf (Bj hn C.le) hK hs ME e1
    ·split at e1
     ·rename_i f2 Ht H6 E8 CU heq
      cases heq;obtain⟨hle,b2,Wm,EU,X,QF,hD2,V2,hW,hC⟩:=hf;cases hW with
      |rtn ks2 =>
      obtain⟨hT2,rfl⟩:=hC;have EG:β0<=nx.nat:=Bj hle (Bj hn C.le);have C2:Ctx P w0 w J h β0 nx f' Sr Kx DE _ IH b2 Wm:=⟨C.H,EG,QF.mono hK.le,hD2.mono hK.le,V2,hs⟩
      refine Final.steps (Steps.one (step_going_returned (by rw[Vq];rfl) Pe)) ?_;exact C2.go G (.rtn ks2) ⟨hT2.mono hK.le,rfl⟩ e1
     ·cases e1
end
section
variable {P:Program}{ih:E9}{fe:Q->CF}
theorem aCd(hm:P.follows .mixedOrders=true)(D5:xA P fe)(hx:pT P)(G:Good P ih):Good P (aD fe ih):=by
 intro w0 w J β f dk rd ds tm k cs h nx v fr frs c0 cs0 e H hF hS;obtain⟨hle,b,AU,tmps,X,hB,hD,LN,hC,hX⟩:=hF;have C:Ctx P w0 w J h β nx f dk rd ds cs frs b AU:=⟨H,hle,hB,hD,LN,hS⟩
 cases hC with
 |plain k ks hk =>
  obtain⟨hT,rfl⟩:=hX;cases hk with
  |nil =>
   simp only[aD] at e
   split at e
   ·have C6:b.roundOf=none:=by
     have:=hB.ro
     cases E7:b.roundOf with
     |none=>rfl
     |some bl=>rw[E7] at this;exact this.elim
    exact Final.steps (Steps.one (stepR_end C6)) (C.go G (.rtn []) ⟨hT,rfl⟩ e)
   ·exact jn G C rfl .none rfl (λhb GA hr=>stepR_round_end hb GA hr) e
  |code c k ks hk =>
   by_cases SZ:∃x ps BW body,c=.rangeFunc x ps BW body
   ·obtain⟨x,ps,BW,body,rfl⟩:=SZ
    exact aPp D5 hx G C hk hT e
   ·exact aD6 hm G C hk hT (λx ps BW body hc=>SZ ⟨x,ps,BW,body,hc⟩) e
  |blk id k ks hk=>exact Final.steps (Steps.one stepR_inBlock) (C.plain G hk hT e)
  |lp c k ks hk=>exact Final.steps (Steps.one stepR_inLoop) (C.plain G (.code c _ _ (.lp c _ _ hk)) hT e)
  |sc c k ks hk=>exact Final.steps (Steps.one lE) (C.plain G hk hT e)
  |begin k ks hk=>exact aDE (fe:=fe) G C hk hT e
 |sync ops i k ks hi hk =>
  obtain⟨hT,rfl⟩:=hX;exact ze D5 hx G C hi hk hT e
 |drawn ops pl E r qf k ks hk =>
  obtain⟨hL,rfl⟩:=hX;exact ve D5 hx G C hk hL e
 |erf l bl N k ks hl hk =>
  obtain⟨hT,rfl⟩:=hX;exact aLh (fe:=fe) G C hk hT hl e
 |bad l k=>exact(zP (show lW fe ih f dk rd ds tm (.op fY::l) k cs h nx=.ok v from e)).elim
 |rtn ks =>
  obtain⟨hT,rfl⟩:=hX;exact aIF D5 G C hT e
theorem rq(hm:P.follows .mixedOrders=true)(D5:xA P fe)(hx:pT P):∀n,Good P (run fe n)
 |0=>by
  intro w0 w J β f dk rd ds tm k cs h nx v fr frs c0 cs0 e;cases e
 |n+1=>aCd hm D5 hx (rq hm D5 hx n)
end
section
variable {P:Program}{fe:Q->CF}
theorem aLS(P:Program):xA P (SO P):=λg=>.inr (by simp only[SO,eP])
theorem aF3(hm:P.follows .mixedOrders=true)(D5:xA P fe)(hx:pT P){g n:Nat}{body:C}{rs:List RV}{v:V}(hc:compF P g=.mk body rs){vs:List V}{us:List Value}(hv:∀J:Rho,VRs J vs us)(e:xJ vs .e .nil (λtm=>run fe n (qn g) false none [] tm (.code body .nil) [] .nil (qn P.globals.size))=.ok v)
  (w:World) (hw:P.globals.size<=w.heap.size) (c:Frame) (cs:List Frame) :
  ∃(w':World)(J':Rho)(h':T O)(nx':Q)(u:Value)(x:V),Steps P (lone (Frame.enter P g ⟨us⟩ .normal) (c::cs) w) (lone (c.finish u) cs w')/\HR P w J' h' nx' w'/\VR J' x u/\fin x h'=v:=by
 let J0:Rho:=λq=>if q.nat < P.globals.size then some (q.nat,0) else none
 have h0:∀q b N,J0 q=some (b,N)->q.nat < P.globals.size/\b=q.nat:=λq b N h=>by
  simp only[J0] at h
  split at h
  ·simp at h;exact⟨by assumption,h.1.symm⟩
  ·cases h
 have BP:∀q,(T.nil:T O).ob q=.dead:=λq=>T.get_nil _ _
 have H:HR P w J0 .nil (qn P.globals.size) w :=
  ⟨Ae _,λ_ _=>rfl,rfl,rfl,rfl,λg hg=>⟨0,by simp[J0,eP,hg]⟩,λq hq=>by rw[eP] at hq;simp[J0];exact hq,λq b N h=>by obtain⟨h1,rfl⟩:=h0 q b N h;omega,
   λq b N _=>by rw[BP];exact .dead _ _,λq q' b N N' _ _ _=>by rw[BP];trivial,λq _=>BP q⟩
 exact yA (P:=P) (w0:=w) (w:=w) (vs:=vs) (us:=us) (dk:=false) (cs:=[]) (frs:=[]) (c0:=c) (cs0:=cs) (v:=v) (rq hm D5 hx n) H (hv J0) (.nil _ _ _) hc e
end
section
open Go.Lib (indexByte countByte indexByte_ge run_indexByteString run_countString)
variable {P:Program}
theorem ri(c:UInt8):∀(l:List UInt8)(i:Nat)(k:Int->AA),vC c.toNat l.length (packL l) i k=k (if indexByte l c=-1 then -1 else i+indexByte l c)
 |[],i,k=>by simp[vC,indexByte]
 |b::l,i,k=>by
  have hb:b.toNat < 256:=b.toNat_lt;have h1:(b.toNat+256*packL l)%256=b.toNat:=by omega
  have h2:(b.toNat+256*packL l)/256=packL l:=by omega
  simp only[Ay,vC,packL,h1,h2,aH];by_cases hbc:b=c
  ·subst hbc
   simp[indexByte]
  ·have BD:b.toNat.beq c.toNat=false:=by
    cases hq:b.toNat.beq c.toNat with
    |false=>rfl
    |true=>exact absurd (Gw.1 (Aa hq)) hbc
   rw[BD];simp only;rw[ri c l (i+1) k];congr 1;have hbe:(b==c)=false:=by simpa using hbc
   have I3:=indexByte_ge l c;simp only[indexByte,hbe,Bc,Dd,Dq];by_cases hi:indexByte l c=-1
   ·simp[hi]
   ·rw[Ax hi,Ax hi,Ax (by omega)];omega
theorem gy(c:UInt8):∀(l:List UInt8)(n:Nat)(k:Nat->AA),ba c.toNat l.length (packL l) n k=k (n+countByte l c)
 |[],n,k=>by simp[ba,countByte]
 |b::l,n,k=>by
  have hb:b.toNat < 256:=b.toNat_lt;have h1:(b.toNat+256*packL l)%256=b.toNat:=by omega
  have h2:(b.toNat+256*packL l)/256=packL l:=by omega
  simp only[Ay,ba,packL,h1,h2,aH];by_cases hbc:b=c
  ·subst hbc
   simp only[Cs];rw[gy b l (n+1) k];simp[countByte];congr 1;omega
  ·have BD:b.toNat.beq c.toNat=false:=by
    cases hq:b.toNat.beq c.toNat with
    |false=>rfl
    |true=>exact absurd (Gw.1 (Aa hq)) hbc
   rw[BD];simp only;rw[gy c l n k];simp[countByte,hbc]
theorem aAd{v:V}{k:Nat->AA}{r:V}(h:Tu v k=.ok r):∃c,v=.int .u8 (.ofNat c)/\c<256/\k c=.ok r:=by
 cases v<;>try(cases h;done)
 rename_i kd n;cases kd<;>try(cases h;done)
 cases n<;>try(cases h;done)
 obtain⟨h1,h2⟩:=bW h;exact⟨_,rfl,dH h1,h2⟩
def dj(fn:Func):Bool:=fn.name== "internal/bytealg.IndexByteString"||fn.name== "internal/bytealg.CountString"||fn.name== "internal/abi.NoEscape"
def aJI(P:Program):Bool:=P.funcs.toList.all λfn=>fn.body.isSome||!dj fn||(fn.origin== ""||fn.origin==fn.name)
theorem nx0:Extern.allNextRows.lookup "internal/bytealg.IndexByteString"=none:=by kernel_rfl
theorem nx1:Extern.allNextRows.lookup "internal/bytealg.CountString"=none:=by kernel_rfl
theorem nx2:Extern.allNextRows.lookup "internal/abi.NoEscape"=none:=by kernel_rfl
theorem nxe:Extern.allNextRows.lookup ""=none:=by kernel_rfl
theorem gn0:Extern.allGenericRows.lookup "internal/bytealg.IndexByteString"=none:=by kernel_rfl
theorem gn1:Extern.allGenericRows.lookup "internal/bytealg.CountString"=none:=by kernel_rfl
theorem gn2:Extern.allGenericRows.lookup "internal/abi.NoEscape"=none:=by kernel_rfl
theorem tn0:Extern.allTypedRows.lookup "internal/bytealg.IndexByteString"=none:=by kernel_rfl
theorem tn1:Extern.allTypedRows.lookup "internal/bytealg.CountString"=none:=by kernel_rfl
theorem tn2:Extern.allTypedRows.lookup "internal/abi.NoEscape"=none:=by kernel_rfl
theorem rw0:Extern.allRows.lookup "internal/bytealg.IndexByteString"=some Extern.BytealgIndexByte.indexByte:=by kernel_rfl
theorem rw1:Extern.allRows.lookup "internal/bytealg.CountString"=some Extern.BytealgCount.count:=by kernel_rfl
theorem rw2:Extern.allRows.lookup "internal/abi.NoEscape"=some Extern.AbiNoEscape.same:=by kernel_rfl
theorem bj {fn:Func} (h1:Extern.allNextRows.lookup fn.name=none) (h2:fn.origin= ""\/fn.origin=fn.name):Extern.findNext fn=none:=by
 unfold Extern.findNext;rcases h2 with h2|h2<;>simp[h2,h1,nxe]
theorem aB9{fn:Func}{e:Array Value->Sem Value}(h1:Extern.allGenericRows.lookup fn.name=none)(h2:Extern.allTypedRows.lookup fn.name=none)(h3:Extern.allRows.lookup fn.name=some e):Extern.find fn=some e:=by
 unfold Extern.find;simp[h1,h2,h3]
theorem aLj(EB:aJI P=true):pT P:=by
 intro g m hc w J vs us k v hv e;unfold compF at hc
 split at hc
 ·cases hc
 ·rename_i fn hf
  split at hc
  ·rename_i hb
   have KM:dj fn=true->fn.origin= ""\/fn.origin=fn.name:=λP5=>by
    have:=(An.1 EB) fn (by
     obtain⟨h1,h2⟩:=Ad.1 hf;rw[<-h2];simp)
    rw[hb,P5] at this;simpa using this
   have run:∀{en:Array Value->Sem Value}{u:Value},dj fn=true->(fn.name== "runtime.NumGoroutine")=false->Extern.allNextRows.lookup fn.name=none->Extern.allGenericRows.lookup fn.name=none->Extern.allTypedRows.lookup fn.name=none->Extern.allRows.lookup fn.name=some en ->
     (en ⟨us⟩).run P w=.ok u w->(callFunc g ⟨us⟩).run P w=.ok (.value u) w:=λP5 hn h1 h2 h3 h4 h5=>by
    rw[run_callFunc_extern hf hn (by rw[hb];rfl) (bj h1 (KM P5)) (aB9 h2 h3 h4),h5];rfl
   have two:∀{a b:V},VRs J [a,b] us->∃ua ub,us=[ua,ub]/\VR J a ua/\VR J b ub:=λh=>by
    obtain⟨ua,Ug,rfl,h1,h2⟩:=h.inv_cons;obtain⟨ub,Uf,rfl,h3,h4⟩:=h2.inv_cons;rw[h4.inv_nil];exact⟨ua,ub,rfl,h1,h3⟩
   split at hc
   ·rename_i hn
    cases hc;have hn:=Dq.1 hn;simp only[jr] at e
    split at e
    ·rename_i x y
     obtain⟨ux,uy,rfl,hx,hy⟩:=two hv;obtain⟨l,s,rfl,e⟩:=qP e;obtain⟨c,rfl,AR,e⟩:=aAd e;obtain⟨bs,rfl,rfl,rfl⟩:=hx.inv_str;have hy:=hy.inv_int;subst hy;have BU:(UInt8.ofNat c).toNat=c:=by simp;omega
     rw[<-BU,ri] at e;refine⟨_,.int .i64 (indexByte bs (UInt8.ofNat c)),e,?_,run (by unfold dj;rw[hn];decide) (by rw[hn];decide) (by rw[hn];exact nx0) (by rw[hn];exact gn0) (by rw[hn];exact tn0) (by rw[hn];exact rw0) ?_⟩
     ·have:(if indexByte bs (UInt8.ofNat c)=-1 then -1 else((0:Nat):Int)+indexByte bs (UInt8.ofNat c))=indexByte bs (UInt8.ofNat c):=by
       split
       ·rename_i h;exact h.symm
       ·simp
      rw[this];exact .int _ _
     ·rw[show(Int.ofNat c)=((c:Nat):Int) from rfl]
      have:=run_indexByteString (P:=P) ⟨⟨bs⟩⟩ (c:Int) w
      simpa using this
    ·cases e
   ·rename_i hn _
    cases hc;have hn:=Dq.1 hn;simp only[jr] at e
    split at e
    ·rename_i x y
     obtain⟨ux,uy,rfl,hx,hy⟩:=two hv;obtain⟨l,s,rfl,e⟩:=qP e;obtain⟨c,rfl,AR,e⟩:=aAd e;obtain⟨bs,rfl,rfl,rfl⟩:=hx.inv_str;have hy:=hy.inv_int;subst hy;have BU:(UInt8.ofNat c).toNat=c:=by simp;omega
     rw[<-BU,gy,Bn] at e;refine⟨_,.int .i64 (countByte bs (UInt8.ofNat c)),e,.int _ _,run (by unfold dj;rw[hn];decide) (by rw[hn];decide) (by rw[hn];exact nx1) (by rw[hn];exact gn1) (by rw[hn];exact tn1) (by rw[hn];exact rw1) ?_⟩;rw[show(Int.ofNat c)=((c:Nat):Int) from rfl]
     have:=run_countString (P:=P) ⟨⟨bs⟩⟩ (c:Int) w
     simpa using this
    ·cases e
   ·rename_i hn _ _
    cases hc;have hn:=Dq.1 hn;simp only[jr] at e
    split at e
    ·rename_i x
     obtain⟨u,Ug,rfl,h1,h2⟩:=hv.inv_cons;rw[h2.inv_nil] at run ⊢;exact⟨_,u,e,h1,run (by unfold dj;rw[hn];decide) (by rw[hn];decide) (by rw[hn];exact nx2) (by rw[hn];exact gn2) (by rw[hn];exact tn2) (by rw[hn];exact rw2) (by rfl)⟩
    ·cases e
   ·cases hc
  ·split at hc
   ·cases hc
   ·split at hc<;>cases hc
end
end Go.CM
end
