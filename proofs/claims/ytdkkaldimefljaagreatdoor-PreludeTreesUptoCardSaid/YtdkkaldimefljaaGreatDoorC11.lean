import Derived.Test.YtdkkaldimefljaaGreatDoorC10
import Derived.RangeFuncIn
import Derived.Test.YtdkkaldimefljaaGreatDoorA09
import Derived.RangeFuncLeaves
import Derived.Lib.Bytealg
import Derived.Laws.Externs
import Derived.KernelRfl
set_option linter.all false
noncomputable section
namespace Go.CM
variable {P:Program} {w0 w w':World} {ρ ρ':Rho} {h h':T O} {nx nx':Q} {tm:T V} {tmps:Array Value} {r v:V} {ops:Array Oper} {n β:Nat} {f:Q} {dk:Bool} {rd:Option Q} {ds:List Df} {k:K} {cs:List Fr} {fr b:Frame} {frs:List Frame} {c0:Frame} {cs0:List Frame} {ih:Run} {fe:Q→CF} {ks:List Item} {dds:List Deferred}
section steps
variable {a:Act} {g:Operand} {ps:Array Tmp} {assign body:Code} {l:Nat} {mark:List Deferred} {w₁ w₁' w₂:World} {d:Deferred} {cs:List Frame}
theorem xA {u:Value} (he:(Instr.enterLoop b.fn a.tmps ps assign body b.roundOf).run P w=.ok (l,mark) w₁) (hres:(resolve a.eval (rangeCall g l) 0).run P w₁=.ok d w₁') (hinv:(invoke d.target d.args).run P w₁'=.ok (.value u) w₂) :
  step P (lone (b.atR a (.code (.rangeFunc g ps assign body)::ks)) cs w)=.next (lone ((b.atR { a with defers:=mark++a.defers } (.inRangeFunc l::ks)).finish u) cs w₂) :=
 step_lone_go (by
  have hev:=Frame.eval_atR b { a with defers:=mark++a.defers } (.inRangeFunc l::ks);simp only[Frame.atR] at hev;have hres':Sem.run P (resolve ({ tmps:=a.tmps,defers:=mark++a.defers }:Act).eval { callee:=.value g,args:=#[.const (.func (.yield l) #[] #[])],argTypes:=#[] } 0) w₁=.ok d w₁':=hres;simp [stepG,stepG.exec,Frame.atR,Sem.runT_eq,he,GStep.bare_after,stepG.apply,hev,Sem.run_bind,hres',hinv,Result.andThen])
theorem xN {l':Nat} {gg:FuncId} {tt:Array Value} {x y:Code} (he:(Instr.enterLoop b.fn a.tmps ps assign body b.roundOf).run P w=.ok (l,mark) w₁) (hres:(resolve a.eval (rangeCall g l) 0).run P w₁=.ok d w₁') (hinv:(invoke d.target d.args).run P w₁'=.ok (.round l' gg tt x y) w₂) :
  step P (lone (b.atR a (.code (.rangeFunc g ps assign body)::ks)) cs w)=.next (lone (Frame.round l' gg tt x y .normal) (b.atR { a with defers:=mark++a.defers } (.inRangeFunc l::ks)::cs) w₂) :=
 step_lone_go (by
  have hev:=Frame.eval_atR b { a with defers:=mark++a.defers } (.inRangeFunc l::ks);simp only[Frame.atR] at hev;have hres':Sem.run P (resolve ({ tmps:=a.tmps,defers:=mark++a.defers }:Act).eval { callee:=.value g,args:=#[.const (.func (.yield l) #[] #[])],argTypes:=#[] } 0) w₁=.ok d w₁':=hres;simp [stepG,stepG.exec,Frame.atR,Sem.runT_eq,he,GStep.bare_after,stepG.apply,hev,Sem.run_bind,hres',hinv,Result.andThen])
end steps
theorem aFk (hfe:uE P fe) (hx:nE P) (G:Good P ih) {g:Operand} {ps:Array Tmp} {assign body:Code} {w2:World} {ρ2:Rho} {h2:T O} {n2:Q} {gq:Q} {fs caps:List V} {ua ub:List Value} {lq:Q} {bl N:Nat} {mark:List Deferred} {ds2:List Df}
  (C:Ctx P w0 w2 ρ2 h2 β n2 f dk rd ds2 cs frs b (mark++dds)) (hk:KS P (nt P f.nat) k ks) (hT:TR ρ2 (nt P f.nat) tm tmps) (hg:ev tmps dds g=.func (.func gq.nat) ⟨ua⟩ ⟨ub⟩) (h1:VRs ρ2 fs ua) (h3:VRs ρ2 caps ub) (hl:ρ2 lq=some (bl,N))
  (he:(Instr.enterLoop b.fn tmps ps assign body b.roundOf).run P w=.ok (bl,mark) w2)
  (e:gK fe ih gq (fs++(.yld lq::caps)) false (.mk f dk rd ds2 tm (.inrf lq k)::cs) h2 n2=.ok v) :
  Final P w0 (lone (b.atR ⟨tmps,dds⟩ (.code (.rangeFunc g ps assign body)::ks)) (frs++c0::cs0) w) c0 cs0 v:=by
 have e':dD fe ih (.fn gq fs caps) [.yld lq] (.mk f dk rd ds2 tm (.inrf lq k)::cs) h2 n2=.ok v:=by
  simp only[dD,eX];exact e
 have hfv:VR ρ2 (.fn gq fs caps) (.func (.func gq.nat) ⟨ua⟩ ⟨ub⟩):=.fn _ _ _ _ _ h1.1 h3.1 h1.2 h3.2;have hvs:VRs ρ2 [.yld lq] [.func (.yield bl) #[] #[]]:=.cons (.yld _ _ _ hl) .nil
 have hS:StkR P ρ2 h2 (.mk f dk rd ds2 tm (.inrf lq k)::cs) (b.atR ⟨tmps,mark++dds⟩ (.inRangeFunc bl::ks)::frs) n2.nat :=
  .cons ρ2 ρ2 h2 h2 f dk rd ds2 tm _ cs _ frs β n2.nat n2 ⟨C.le,b,mark++dds,tmps,_,C.B,C.D,C.rn,.inrf lq bl N k ks hl hk,hT,rfl⟩ (Nat.le_refl _) (Keep.refl _ _ _) C.S
 obtain ⟨dd,hd1,hd2⟩:=kI (c0:=c0) (cs0:=cs0) hfe hx G C.H hfv hvs hS e'
 have hres:(resolve (ev tmps dds) (rangeCall g bl) 0).run P w2=.ok dd w2:=by
  rw[←hd1];simp [resolve,rangeCall,hg];rfl
 rcases hd2 with ⟨gg,all,i1,i2⟩|⟨ll,gg,tt,x,y,i1,i2⟩|⟨x,u,i1,i2,i3⟩
 ·exact Final.steps (Steps.one (stepR_rangeFunc (a:=⟨tmps,dds⟩) he hres i1)) i2
 ·exact Final.steps (Steps.one (xN (a:=⟨tmps,dds⟩) he hres i1)) i2
 ·refine Final.steps (Steps.one (xA (a:=⟨tmps,dds⟩) he hres i1)) ?_
  simp only[nX] at i3;exact C.go (fr:=b.atR ⟨tmps,mark++dds⟩ (.endRangeFunc bl::ks)) G (.erf lq bl N k ks hl hk) ⟨hT,rfl⟩ i3
theorem aJT (hfe:uE P fe) (hx:nE P) (G:Good P ih) {g:Operand} {ps:Array Tmp} {assign body:Code} (C:Ctx P w0 w ρ h β nx f dk rd ds cs frs b dds) (hk:KS P (nt P f.nat) k ks) (hT:TR ρ (nt P f.nat) tm tmps)
  (e:lI ih f dk rd ds tm (cU P (nt P f.nat) (.rangeFunc g ps assign body)) k cs h nx fe=.ok v):Final P w0 (lone (b.atR ⟨tmps,dds⟩ (.code (.rangeFunc g ps assign body)::ks)) (frs++c0::cs0) w) c0 cs0 v:=by
 simp only[cU] at e
 split at e
 ·rename_i hps
  have hps':∀ t∈ps.toList,t < nt P f.nat:=fun t ht=>cZ ((List.all_eq_true.1 hps) t ht)
  simp only[lI] at e;obtain ⟨fv,hf1,e⟩:=dK e;have hfv:=eZ (ds:=dds) C.H.glob (fun t _=>hT.rel t) hf1
  split at e
  case h_2=>cases e
  rename_i gq fs caps;obtain ⟨ua,ub,hg,h1,h3⟩:=hfv.inv_fn;have hfr:=C.H.fresh nx (Nat.le_refl _);have hS1:nx.succ.nat=nx.nat+1:=Q.nat_succ _;rw[eX] at e;cases rd with
  |none =>
   simp only[cK,dO] at e
   have hro:b.roundOf=none:=by
    have:=C.B.ro
    cases hbr:b.roundOf with
    |none=>rfl
    |some bl=>rw[hbr] at this;exact this.elim
   obtain ⟨H1,K1⟩:=C.H.make (x:=.deferred (some [])) (N:=0) (ob:=.dfd false) (.dfd false _ _ C.H.size (AM.heap_alloc_new _));have hd1:(ρ.set nx w.heap.size 0) nx=some (w.heap.size,0):=Rho.set_same
   let r0:Loop:={ state:=.ready,pending:=none,fn:=b.fn,tmps:=tmps,params:=ps,assign:=assign,body:=body,defers:=w.heap.size }
   let w1:=w.alloc (.deferred (some []))
   have hfr1:=H1.fresh nx.succ (Nat.le_refl _);have hle2:=Rho.set_le (b:=w1.heap.size) (N:=0) hfr1
   have hlr:LR P ((ρ.set nx w.heap.size 0).set nx.succ w1.heap.size 0) (.mk 0 .none (qn f.nat) tm (ps.toList.map qn) (cU P (nt P f.nat) assign) (cU P (nt P f.nat) body) nx) r0 :=
    LR.mk 0 .none f.nat tm nx r0 0 .ready .none C.B.fn (hT.mono (Rho.le_trans K1.le hle2)) hps' (hle2 _ _ hd1)
   rw[nT] at hlr;obtain ⟨H2,K2⟩:=H1.make (x:=.loop r0) (N:=0) (.loop _ r0 _ _ H1.size (AM.heap_alloc_new _) hlr)
   have K12:Keep β ρ h ((ρ.set nx w.heap.size 0).set nx.succ w1.heap.size 0) ((h.put .dead (.dfd false) nx).put .dead (.loop (.mk 0 .none f tm (ps.toList.map qn) (cU P (nt P f.nat) assign) (cU P (nt P f.nat) body) nx)) nx.succ) :=
    (K1.down C.le).trans (K2.down (by have:=C.le;omega))
   have C2:=C.keep H2 (by rw[Q.nat_succ,Q.nat_succ];omega) K12;have D2:=DsR.coll nx w.heap.size 0 ds dds (hle2 _ _ hd1) C2.D;have C3:Ctx P w0 _ _ _ β _ f dk none (.coll nx::ds) cs frs b ([{ target:=.collected w.heap.size,args:=#[] }]++dds):=⟨C2.H,C2.le,C2.B,D2,fun h0=>absurd rfl h0,C2.S⟩
   refine aFk hfe hx G C3 hk (hT.mono K12.le) hg (h1.mono K12.le) (h3.mono K12.le) (lq:=nx.succ) (bl:=w1.heap.size) (N:=0) Rho.set_same ?_ e;rw[hro,run_enterLoop_outer];simp [w1,r0]
  |some lo =>
   simp only[bS] at e;obtain ⟨st,pend,fn,tm',ps',asg',body',dfs,hob,e⟩:=fF e;simp only[cK,dO] at e;have hro:=C.B.ro;cases hbr:b.roundOf with
   |none=>rw[hbr] at hro;exact hro.elim
   |some blo =>
   rw[hbr] at hro;obtain ⟨No,hlo⟩:=hro;obtain ⟨r,hw,hlr,hB,hlt⟩:=C.H.loop hlo hob;cases hlr with
   |mk _ _ fn' _ _ _ N' a1 a2 a3 a4 a5 a6 =>
   let r0:Loop:={ state:=.ready,pending:=none,fn:=b.fn,tmps:=tmps,params:=ps,assign:=assign,body:=body,defers:=r.defers }
   have hle2:=Rho.set_le (b:=w.heap.size) (N:=0) hfr
   have hlr:LR P (ρ.set nx w.heap.size 0) (.mk 0 .none (qn f.nat) tm (ps.toList.map qn) (cU P (nt P f.nat) assign) (cU P (nt P f.nat) body) dfs) r0 :=
    LR.mk 0 .none f.nat tm dfs r0 N' .ready .none C.B.fn (hT.mono hle2) hps' (hle2 _ _ a6)
   rw[nT] at hlr;obtain ⟨H2,K2⟩:=C.H.make (x:=.loop r0) (N:=0) (.loop _ r0 _ _ C.H.size (AM.heap_alloc_new _) hlr);have C2:=C.keep H2 (by rw[Q.nat_succ];omega) (K2.down C.le);have C3:Ctx P w0 _ _ _ β _ f dk (some lo) ds cs frs b ([]++dds):=C2;refine aFk hfe hx G C3 hk (hT.mono K2.le) hg (h1.mono K2.le) (h3.mono K2.le) (lq:=nx) (bl:=w.heap.size) (N:=0) Rho.set_same ?_ e;rw[hbr];simp [Instr.enterLoop,Sem.run_bind,run_getLoop hw,run_newObj_alloc,Result.andThen,r0]
 ·cases e
theorem aFY (G:Good P ih) {l:Q} {bl N:Nat} (C:Ctx P w0 w ρ h β nx f dk rd ds cs frs b dds) (hk:KS P (nt P f.nat) k ks) (hT:TR ρ (nt P f.nat) tm tmps) (hl:ρ l=some (bl,N))
  (e:aB fe ih f dk rd ds tm (.erf l k) cs h nx=.ok v):Final P w0 (lone (b.atR ⟨tmps,dds⟩ (.endRangeFunc bl::ks)) (frs++c0::cs0) w) c0 cs0 v:=by
 simp only[aB,bS] at e;obtain ⟨st,pend,fn,tm',ps,asg,body,dfs,hob,e⟩:=fF e;obtain ⟨hst,e⟩:=bR e;rw[cK] at e;obtain ⟨r,hw,hlr,hB,hlt⟩:=C.H.loop hl hob;cases hlr with
 |mk _ _ fn' _ _ _ N' h1 h2 h3 h4 h5 h6 =>
 have hnb:r.state≠.busy:=fun hb=>by rw[hb] at h1;cases h1;cases hst
 have hlr':LR P ρ (.mk 3 pend (qn fn') tm' (r.params.toList.map qn) (cU P (nt P fn') r.assign) (cU P (nt P fn') r.body) dfs) { r with state:=.exhausted } :=
  LR.mk 3 pend fn' tm' dfs { r with state:=.exhausted } N' .exhausted h2 h3 h4 h5 h6
 obtain ⟨H',K⟩:=C.H.setLoop hl hob hB hlt hlr';have C':=C.keep H' (Nat.le_refl _) (K.down C.le);refine Final.steps (Steps.one (stepR_endRangeFunc (a:=⟨tmps,dds⟩) (run_endLoop hw hnb))) ?_
 have main:∀ jp,JR pend jp→Final P w0 (lone (b.atR ⟨tmps,dds⟩ ((jp.map Item.code).toList++ks)) (frs++c0::cs0) (w.putObj bl (.loop { r with state:=.exhausted }))) c0 cs0 v:=fun jp hj=>by
  cases hj with
  |none=>exact C'.plain G hk hT e
  |ret=>exact C'.plain G (.code .ret _ _ hk) hT e
  |exit id=>exact C'.plain G (.code (.exit id) _ _ hk) hT e
 exact main _ h2
theorem aAK (G:Good P ih) (C:Ctx P w0 w ρ h β nx f dk rd ds cs frs b dds) (hk:KS P (nt P f.nat) k ks) (hT:TR ρ (nt P f.nat) tm tmps)
  (e:aB fe ih f dk rd ds tm (.begin k) cs h nx=.ok v):Final P w0 (lone (b.atR ⟨tmps,dds⟩ (.beginRound::ks)) (frs++c0::cs0) w) c0 cs0 v:=by
 simp only[aB] at e
 split at e
 ·cases e
 rename_i l;rw[bS] at e;obtain ⟨st,pend,fn,tm',ps,asg,body,dfs,hob,e⟩:=fF e;obtain ⟨hst,e⟩:=bR e;rw[cK] at e;have hro:=C.B.ro;cases hbr:b.roundOf with
 |none=>rw[hbr] at hro;exact hro.elim
 |some bl =>
 rw[hbr] at hro;obtain ⟨N,hl⟩:=hro;obtain ⟨r,hw,hlr,hB,hlt⟩:=C.H.loop hl hob;cases hlr with
 |mk _ _ fn' _ _ _ N' h1 h2 h3 h4 h5 h6 =>
 have hrd:r.state=.ready:=by
  have:=Nat.eq_of_beq_eq_true hst
  subst this
  revert h1
  cases r.state <;> intro h1 <;> first|rfl|cases h1
 have hlr':LR P ρ (.mk 1 pend (qn fn') tm' (r.params.toList.map qn) (cU P (nt P fn') r.assign) (cU P (nt P fn') r.body) dfs) { r with state:=.busy } :=
  LR.mk 1 pend fn' tm' dfs { r with state:=.busy } N' .busy h2 h3 h4 h5 h6
 obtain ⟨H',K⟩:=C.H.setLoop hl hob hB hlt hlr';have C':=C.keep H' (Nat.le_refl _) (K.down C.le);exact Final.steps (Steps.one (stepR_beginRound (a:=⟨tmps,dds⟩) hbr (run_beginRound hw hrd))) (C'.plain G hk hT e)
end Go.CM
end
noncomputable section
namespace Go.CM
open Go.AM (kK pY hH run_getObj run_setObj run_underlying)
variable {P:Program} {w0 w w':World} {ρ ρ':Rho} {h h':T O} {nx nx':Q} {tm:T V} {tmps:Array Value} {r v:V} {ops:Array Oper} {n β:Nat} {f:Q} {dk:Bool} {rd:Option Q} {ds:List Df} {k:K} {cs:List Fr} {fr b:Frame} {frs:List Frame} {c0:Frame} {cs0:List Frame} {ih:Run} {fe:Q→CF} {ks:List Item} {dds:List Deferred}
theorem MR.erase {es:List (V×V)} {ents:List MapEntry} (h:MR ρ es ents) (j:Nat):MR ρ (es.eraseIdx j) (ents.eraseIdx j):=by
 have hl:=h.len;refine ⟨by simp only[List.length_eraseIdx,hl],fun i p e h1 h2=>?_,fun i p e h1 h2=>?_⟩
 ·rw[List.getElem?_eraseIdx] at h1 h2
  split at h1
  ·rename_i hi;rw[if_pos hi] at h2;exact h.key _ _ _ h1 h2
  ·rename_i hi;rw[if_neg hi] at h2;exact h.key _ _ _ h1 h2
 ·rw[List.getElem?_eraseIdx] at h1 h2
  split at h1
  ·rename_i hi;rw[if_pos hi] at h2;exact h.val _ _ _ h1 h2
  ·rename_i hi;rw[if_neg hi] at h2;exact h.val _ _ _ h1 h2
theorem tr (H:HR P w0 ρ h nx w) {s:KK} {t:TypeId} {x:V} {ux:Value} (hk:KT P s t) (hx:VR ρ x ux) :
  ∀ {es:List (V×V)} {ents:List MapEntry} {i:Nat} {k:List (V×V)→Res},MR ρ es ents→aj s h x es k=.ok r →
  (k es=.ok r∧(Instr.findAsking t ux ents i).run P w=.ok none w∧∀ d r',P.underlying t=some d→Instr.findNow d ux ents i=some r'→r'=none) ∨
   ∃ j u,j < ents.length∧k (es.eraseIdx j)=.ok r∧(Instr.findAsking t ux ents i).run P w=.ok (some (i+j,u)) w∧∀ d r',P.underlying t=some d→Instr.findNow d ux ents i=some r'→r'=some (i+j,u)
 |[],[],i,k,hm,e=>.inl ⟨e,by simp [Instr.findAsking],fun d r' _ h=>by simp [Instr.findNow] at h;exact h.symm⟩
 |[],_::_,i,k,hm,e=>by have:=hm.len;simp at this
 |_::_,[],i,k,hm,e=>by have:=hm.len;simp at this
 |(y,v)::es,en::ents,i,k,hm,e=>by
  simp only[aj] at e;obtain ⟨b,e,s1,s2,s3⟩:=uT H hk hx (hm.key 0 (y,v) en rfl rfl) e;have htl:MR ρ es ents:=⟨by have:=hm.len;simpa using this,fun i p e h1 h2=>hm.key (i+1) p e (by simpa using h1) (by simpa using h2),fun i p e h1 h2=>hm.val (i+1) p e (by simpa using h1) (by simpa using h2)⟩
  cases b with
  |true =>
   refine .inr ⟨0,en.val,by simp,e,by simp [Instr.findAsking,s1],fun d r' hd h=>?_⟩;simp only[Instr.findNow] at h
   split at h
   ·simpa using h.symm
   ·rename_i hs;have:=s2 d _ hd hs;cases this
   ·cases h
  |false =>
   have now:∀ d r',P.underlying t=some d→Instr.findNow d ux (en::ents) i=some r'→Instr.findNow d ux ents (i+1)=some r':=fun d r' hd h=>by
    simp only[Instr.findNow] at h
    split at h
    ·rename_i hs;have:=s2 d _ hd hs;cases this
    ·exact h
    ·cases h
   rcases tr H hk hx (i:=i+1) htl e with ⟨f1,f3,f4⟩|⟨j,u,f1,f2,f5,f6⟩
   ·exact .inl ⟨f1,by simp [Instr.findAsking,s1,f3],fun d r' hd h=>f4 d r' hd (now d r' hd h)⟩
   ·refine .inr ⟨j+1,u,by simp;omega,f2,?_,fun d r' hd h=>?_⟩
    ·rw[show i+(j+1)=i+1+j by omega];simp [Instr.findAsking,s1,f5]
    ·rw[show i+(j+1)=i+1+j by omega];exact f6 d r' hd (now d r' hd h)
theorem yd (ents:List MapEntry) {j:Nat} (hj:j < ents.length):(⟨ents⟩:Array MapEntry).eraseIdxIfInBounds j=⟨ents.eraseIdx j⟩:=by
 apply Array.ext';simp [Array.eraseIdxIfInBounds,hj,Array.toList_eraseIdx]
theorem aHu (H:HR P w0 ρ h nx w) {s:KK} {m key:V} {um uk:Value} {ts:Array TypeId} {ty t el:TypeId} {cb:Array Bool} {k:T O→Res} (ht:ts[0]?=some t) (hm:qZ P t=some (s,el)) (hv:VR ρ m um) (hk:VR ρ key uk)
  (e:fU s key (match (generalizing:=false) m with
   |.map o=>gO o h fun ob=>pP ob fun es=>aj s h key es fun es'=>pO (.mapd es') o h k
   |_=>.bad 97)=.ok r) :
  ∃ h' w' u,k h'=.ok r∧(invoke (.builtin .delete ts ty cb) #[um,uk]).run P w=.ok (.value u) w'∧HR P w0 ρ h' nx w'∧Keep nx.nat ρ h ρ h':=by
 obtain ⟨e4,hkf⟩:=oV e;cases m <;> simp only at e4 <;> first|cases e4|skip
 rename_i o;rw[bS] at e4;obtain ⟨es,hes,e5⟩:=oR e4;obtain ⟨b,N,rfl,hb⟩:=hv.inv_map;obtain ⟨ents,cl,g1,g2,g3,g4⟩:=H.map' hb hes;obtain ⟨kt,hu,hkt⟩:=sF hm;obtain ⟨d,hd⟩:=hkt.desc;have hlt:=(Array.getElem?_eq_some_iff.1 g1).1;have hget:=run_getObj (P:=P) g1 (by simp);have dJ:=fun o'=>run_setObj (P:=P) (o':=o') g1 (by simp)
 have hck:=fun bb=>run_checkKey (w:=w) hkt hk hkf bb 9998
 have put:∀ es' ents',MR ρ es' ents'→HR P w0 ρ (h.put .dead (.mapd es') o) nx (w.putObj b (.map ⟨ents'⟩ cl))∧Keep nx.nat ρ h ρ (h.put .dead (.mapd es') o):=fun es' ents' hmr=>by
  rcases hes with hes|hes
  ·exact H.putMap hb hes rfl (fun _ _ _ _ _ _ e=>by cases e) rfl (fun _ _ _ _ _ _ e=>by cases e) g3 (.mapd _ _ _ _ _ g3 (World.putObj_heap_same hlt) hmr)
  ·exact H.putMap hb hes rfl (fun _ _ _ _ _ _ e=>by cases e) rfl (fun _ _ _ _ _ _ e=>by cases e) g3 (.mapd _ _ _ _ _ g3 (World.putObj_heap_same hlt) hmr)
 rcases tr (i:=0) H hkt hk g2 e5 with ⟨f1,f3,f4⟩|⟨j,u,f1,f2,f5,f6⟩
 ·rw[cK] at f1
  have hfk:=run_findKey hd f3 f4;obtain ⟨p1,p2⟩:=put es ents g2;refine ⟨_,_,.tuple #[],f1,?_,p1,p2⟩;simp [invoke,builtin,Builtin.delete_,ht,run_underlying hu,hget,hck,hfk,dJ]
 ·rw[cK] at f2
  have hfk:=run_findKey hd f5 f6;obtain ⟨p1,p2⟩:=put _ _ (g2.erase j);refine ⟨_,_,.tuple #[],f2,?_,p1,p2⟩;rw[←yd ents f1];simp [invoke,builtin,Builtin.delete_,ht,run_underlying hu,hget,hck,hfk,dJ]
theorem jQ (H:HR P w0 ρ h nx w) (hT:TR ρ n tm tmps):∀ {rl:List ResultVar} {rs:List RV} {k:List V→Res},rM P rl=some rs→gP tm h rs k=.ok r→∃ vs us,k vs=.ok r∧(rl.mapM (kK tmps)).run P w=.ok us w∧VRs ρ vs us
 |[],rs,k,hc,e=>by
  simp only[rM,Option.some.injEq] at hc;subst hc;exact ⟨[],[],e,by simp,.nil⟩
 |.tmp t::rl,rs,k,hc,e=>by
  simp only[rM,Option.map_eq_some_iff] at hc;obtain ⟨rs',hc,rfl⟩:=hc;simp only[gP,dL] at e;obtain ⟨vs,us,h1,h2,h3⟩:=jQ H hT hc e;refine ⟨_,tmps.getD t Go.undef::us,h1,?_,.cons (hT.rel t) h3⟩;simp only[List.mapM_cons,kK,Sem.run_bind];simp [h2]
 |.cell a t::rl,rs,k,hc,e=>by
  simp only[rM] at hc;obtain ⟨g,hg,hc2⟩:=cS hc;obtain ⟨s,hs,hc3⟩:=cS hc2
  split at hc3
  ·rename_i hgs
   simp only[Option.map_eq_some_iff] at hc3;obtain ⟨rs',hcr,rfl⟩:=hc3;simp only[gP,dL] at e;obtain ⟨o,off,ho,e⟩:=kN e;have hp:=hT.rel a;rw[show tm.at a=.ptr o off from ho] at hp;obtain ⟨b,N,hv,hb⟩:=hp.inv_ptr;cases g with
   |true =>
    simp only at e;obtain ⟨m,tt,h1,h2,e3⟩:=bw e;obtain ⟨vs,g1,g2,g3,g4⟩:=H.cells hb h1 h2;obtain ⟨vs',us,i1,i2,i3⟩:=jQ H hT hcr e3;refine ⟨_,.agg ⟨vs⟩::us,i1,?_,.cons (g3.agg g4) i3⟩;simp only[List.mapM_cons,kK,Sem.run_bind,hv];simp [asAddr,AM.run_loadVar_agg (P:=P) hg (by rw[g1];exact hs) g2,i2]
   |false =>
    simp only at e;obtain ⟨m,tt,h1,h2,e3⟩:=aBa e;obtain ⟨u,g1,g2,_⟩:=H.cell hb h1 h2;obtain ⟨vs',us,i1,i2,i3⟩:=jQ H hT hcr e3;refine ⟨_,u::us,i1,?_,.cons g2 i3⟩;simp only[List.mapM_cons,kK,Sem.run_bind,hv];simp [asAddr,AM.run_loadVar_one hg g1,i2]
  ·cases hc3
theorem aBv {vs:List V} {us:List Value} (hv:VRs ρ vs us):VR ρ (aDs vs) (pY us):=by
 match vs,us,hv with
 |[],us,hv=>rw[hv.inv_nil];exact .tup [] [] rfl (fun i c v h=>by simp at h)
 |[x],us,hv =>
  obtain ⟨u,us',rfl,h1,h2⟩:=hv.inv_cons;rw[h2.inv_nil];exact h1
 |x::y::vs,us,hv =>
  obtain ⟨u,us',rfl,h1,h2⟩:=hv.inv_cons;obtain ⟨u2,us2,rfl,h3,h4⟩:=h2.inv_cons;exact .tup _ _ hv.1 hv.2
end Go.CM
end
noncomputable section
namespace Go.CM
open Go.AM (pY hH)
variable {P:Program} {w0 w w':World} {ρ ρ':Rho} {h h':T O} {nx nx':Q} {tm:T V} {tmps:Array Value} {r v:V} {ops:Array Oper} {n β:Nat} {f:Q} {dk:Bool} {rd:Option Q} {ds:List Df} {k:K} {cs:List Fr} {fr b:Frame} {frs:List Frame} {c0:Frame} {cs0:List Frame} {ih:Run} {fe:Q→CF} {ks:List Item} {dds:List Deferred}
theorem m9 {fr:Frame} {cs:List Frame} {d:Deferred} {ds:List Deferred} {u:Value} {bb:Builtin} {ts:Array TypeId} {ty:TypeId} {cb:Array Bool} (hm:fr.mode=.returning) (hd:fr.defers=d::ds) (ht:d.target=.builtin bb ts ty cb) (hi:(invoke d.target d.args).run P w=.ok (.value u) w') :
  step P (lone fr cs w)=.next (lone { fr with defers:=ds } cs w'):=by
 obtain ⟨t,a⟩:=d;simp only at ht hi;subst ht;refine step_lone_go ?_;simp [stepG,unwind,callDeferred,hm,hd,hi]
theorem aC3 (hfe:uE P fe) (G:Good P ih) (C:Ctx P w0 w ρ h β nx f dk rd ds cs frs b dds) (hT:TR ρ (nt P f.nat) tm tmps)
  (e:ez fe ih f dk rd ds tm cs h nx=.ok v):Final P w0 (lone { b.atR ⟨tmps,dds⟩ ks with mode:=.returning } (frs++c0::cs0) w) c0 cs0 v:=by
 have hD:=C.D;have hrn:∀ {x:Df} {ds':List Df},ds=x::ds'→rd≠none→ds'=[]:=fun h0 h1=>by have:=C.rn h1;rw[h0] at this;cases this
 cases hD with
 |coll q bl N ds' dds' hq hr =>
  simp only[ez,bS] at e
  split at e
  ·rename_i hob
   rw[cK] at e;have hO:=C.H.obj q bl N hq;rw[hob] at hO;cases hO with
   |dfd _ _ _ hB hw =>
   simp only[Bool.false_eq_true,if_false] at hw;have hlt:=(Array.getElem?_eq_some_iff.1 hw).1;obtain ⟨H',K⟩:=C.H.putMap (y:=.deferred none) (x':=.dfd true) hq hob rfl (fun _ _ _ _ _ _ e=>by cases e) rfl (fun _ _ _ _ _ _ e=>by cases e) hB (.dfd true _ _ hB (by simpa using World.putObj_heap_same hlt));have C':=C.keep H' (Nat.le_refl _) (K.down C.le);have C2:Ctx P w0 _ ρ _ β nx f dk rd ds' cs frs b dds':=⟨C'.H,C'.le,C'.B,hr,hrn rfl,C'.S⟩
   refine Final.steps (Steps.one (step_collected (r:=bl) (calls:=[]) (ds:=dds') (d:={ target:=.collected bl,args:=#[] }) (by simp) rfl rfl (run_takeDeferred hw))) ?_;exact C2.go G (.rtn ks) ⟨hT,rfl⟩ e
  ·cases e
 |call g cs1 av cv ds' dds' hv hr =>
  simp only[ez] at e;unfold gK at e;rw[mU] at e
  split at e
  ·cases e
  ·split at e <;> cases e
  ·rename_i body rs hcf
   have hcf':compF P g=.mk body rs:=by
    rcases hfe g with h0|h0
    ·rw[h0] at hcf;cases hcf
    ·rw[←h0];exact hcf
   obtain ⟨fn,cc,g1,g2,g3,g4,_⟩:=oK hcf'
   have hS:StkR P ρ h (.mk f dk rd ds' tm .rtn::cs) ({ b.atR ⟨tmps,dds'⟩ ks with mode:=.returning }::frs) nx.nat :=
    .cons ρ ρ h h f dk rd ds' tm _ cs _ frs β nx.nat nx ⟨C.le,b,dds',tmps,_,C.B,hr,hrn rfl,.rtn ks,hT,rfl⟩ (Nat.le_refl _) (Keep.refl _ _ _) C.S
   have harr:(⟨av⟩:Array Value)++⟨cv⟩=⟨av++cv⟩:=by apply Array.ext';simp
   have hinv:(invoke (.fn (.func g) ⟨cv⟩) ⟨av⟩).run P w=.ok (.enter g ⟨av++cv⟩) w:=by
    simp only[invoke,harr];simp [callFunc,g1,g2,g3];intro hn;rw[hn] at g3;simp at g3
   refine Final.steps (Steps.one (Go.step_defer (ds:=dds') (d:={ target:=.fn (.func g) ⟨cv⟩,args:=⟨av⟩ }) (by simp) rfl rfl hinv)) ?_
   have:=uU (dk:=true) (c0:=c0) (cs0:=cs0) G C.H hv hS hcf' e
   simp only[if_true] at this;exact this
 |del s m key ts ty cb t el um uk ds' dds' ht hm hv hk hr =>
  simp only[ez] at e;obtain ⟨h',w',u,e1,hi,H',K⟩:=aHu (ty:=ty) (cb:=cb) C.H ht hm hv hk e;have C':=C.keep H' (Nat.le_refl _) (K.down C.le);have C2:Ctx P w0 _ ρ _ β nx f dk rd ds' cs frs b dds':=⟨C'.H,C'.le,C'.B,hr,hrn rfl,C'.S⟩
  refine Final.steps (Steps.one (m9 (ds:=dds') (d:={ target:=.builtin .delete ts ty cb,args:=#[um,uk] }) rfl rfl rfl hi)) ?_;exact C2.go G (.rtn ks) ⟨hT,rfl⟩ e1
 |nil =>
  simp only[ez] at e;rw[mU] at e
  split at e
  ·cases e
  ·cases e
  ·rename_i body rs hcf
   have hcf':compF P f.nat=.mk body rs:=by
    rcases hfe f.nat with h0|h0
    ·rw[nT] at h0;rw[h0] at hcf;cases hcf
    ·rw[nT] at h0;rw[←h0];exact hcf
   obtain ⟨fn,cc,g1,g2,g3,g4,_⟩:=oK hcf';obtain ⟨vs,us,e1,r1,r2⟩:=jQ C.H hT g4 e;have hres:=hH r1;have hov:=aBv r2;have hS:=C.S;have hfn:({ b.atR ⟨tmps,[]⟩ ks with mode:=.returning }:Frame).fn=f.nat:=C.B.fn;have hkd:({ b.atR ⟨tmps,[]⟩ ks with mode:=.returning }:Frame).kind=if dk then .deferred else .normal:=C.B.kind
   have hgo:({ b.atR ⟨tmps,[]⟩ ks with mode:=.returning }:Frame).going P w (.returned (pY us)):=⟨rfl,rfl,fn,by rw[hfn];exact g1,hres⟩
   split at e1
   ·cases hS
    split at e1
    ·rename_i hdk
     cases e1;exact ⟨w,ρ,h,nx,pY us,_,Steps.one (step_leave_returned ⟨rfl,rfl,by rw[hkd];rfl,fn,by rw[hfn];exact g1,hres⟩),C.H,hov,rfl⟩
    ·cases e1
   ·cases hS with
    |cons ρ0 _ h0 _ f' dk' rd' ds' tm2 k' cs' fr' frs' β0 _ nx0 hf hn hK hs =>
    split at e1
    ·refine Final.steps (Steps.one (step_leave_returned ⟨rfl,rfl,by rw[hkd];rfl,fn,by rw[hfn];exact g1,hres⟩)) ?_
     exact uq G C.H hf (Nat.le_trans hn C.le) hK hs hov e1
    ·split at e1
     ·rename_i f2 dk2 rd2 ds2 tm2 heq
      cases heq;obtain ⟨hle,b2,dds2,tmps2,X,hB2,hD2,hrn2,hW,hC⟩:=hf;cases hW with
      |rtn ks2 =>
      obtain ⟨hT2,rfl⟩:=hC;have hle':β0≤nx.nat:=Nat.le_trans hle (Nat.le_trans hn C.le);have C2:Ctx P w0 w ρ h β0 nx f' dk' rd' ds' _ frs' b2 dds2:=⟨C.H,hle',hB2.mono hK.le,hD2.mono hK.le,hrn2,hs⟩
      refine Final.steps (Steps.one (step_going_returned (by rw[hkd];rfl) hgo)) ?_;exact C2.go G (.rtn ks2) ⟨hT2.mono hK.le,rfl⟩ e1
     ·cases e1
end Go.CM
end
noncomputable section
namespace Go.CM
variable {P:Program} {ih:Run} {fe:Q→CF}
theorem xz (hm:P.follows .mixedOrders=true) (hfe:uE P fe) (hx:nE P) (G:Good P ih):Good P (aB fe ih):=by
 intro w0 w ρ β f dk rd ds tm k cs h nx v fr frs c0 cs0 e H hF hS;obtain ⟨hle,b,dds,tmps,X,hB,hD,hrn,hC,hX⟩:=hF;have C:Ctx P w0 w ρ h β nx f dk rd ds cs frs b dds:=⟨H,hle,hB,hD,hrn,hS⟩
 cases hC with
 |plain k ks hk =>
  obtain ⟨hT,rfl⟩:=hX;cases hk with
  |nil =>
   simp only[aB] at e
   split at e
   ·have hro:b.roundOf=none:=by
     have:=hB.ro
     cases hbr:b.roundOf with
     |none=>rfl
     |some bl=>rw[hbr] at this;exact this.elim
    exact Final.steps (Steps.one (stepR_end hro)) (C.go G (.rtn []) ⟨hT,rfl⟩ e)
   ·exact au G C rfl .none rfl (fun hb hkk hr=>stepR_round_end hb hkk hr) e
  |code c k ks hk =>
   by_cases hrf:∃ x ps asg body,c=.rangeFunc x ps asg body
   ·obtain ⟨x,ps,asg,body,rfl⟩:=hrf
    exact aJT hfe hx G C hk hT e
   ·exact aAI hm G C hk hT (fun x ps asg body hc=>hrf ⟨x,ps,asg,body,hc⟩) e
  |blk id k ks hk=>exact Final.steps (Steps.one stepR_inBlock) (C.plain G hk hT e)
  |lp c k ks hk=>exact Final.steps (Steps.one stepR_inLoop) (C.plain G (.code c _ _ (.lp c _ _ hk)) hT e)
  |sc c k ks hk=>exact Final.steps (Steps.one jZ) (C.plain G hk hT e)
  |begin k ks hk=>exact aAK (fe:=fe) G C hk hT e
 |sync ops i k ks hi hk =>
  obtain ⟨hT,rfl⟩:=hX;exact nh hfe hx G C hi hk hT e
 |drawn ops pl E r qf k ks hk =>
  obtain ⟨hL,rfl⟩:=hX;exact jn hfe hx G C hk hL e
 |erf l bl N k ks hl hk =>
  obtain ⟨hT,rfl⟩:=hX;exact aFY (fe:=fe) G C hk hT hl e
 |bad l k=>exact (sW (show j8 fe ih f dk rd ds tm (.op fC::l) k cs h nx=.ok v from e)).elim
 |rtn ks =>
  obtain ⟨hT,rfl⟩:=hX;exact aC3 hfe G C hT e
theorem jh (hm:P.follows .mixedOrders=true) (hfe:uE P fe) (hx:nE P):∀ n,Good P (run fe n)
 |0=>by
  intro w0 w ρ β f dk rd ds tm k cs h nx v fr frs c0 cs0 e;cases e
 |n+1=>xz hm hfe hx (jh hm hfe hx n)
end Go.CM
end
noncomputable section
namespace Go.CM
variable {P:Program} {fe:Q→CF}
theorem aHZ (P:Program):uE P (mkT P):=fun g=>.inr (by simp only[mkT,dY])
theorem aB8 (hm:P.follows .mixedOrders=true) (hfe:uE P fe) (hx:nE P) {g n:Nat} {body:C} {rs:List RV} {v:V} (hc:compF P g=.mk body rs) {vs:List V} {us:List Value} (hv:∀ ρ:Rho,VRs ρ vs us) (e:uG vs .e .nil (fun tm=>run fe n (qn g) false none [] tm (.code body .nil) [] .nil (qn P.globals.size))=.ok v)
  (w:World) (hw:P.globals.size≤w.heap.size) (c:Frame) (cs:List Frame) :
  ∃ (w':World) (ρ':Rho) (h':T O) (nx':Q) (u:Value) (x:V),Steps P (lone (Frame.enter P g ⟨us⟩ .normal) (c::cs) w) (lone (c.finish u) cs w')∧HR P w ρ' h' nx' w'∧VR ρ' x u∧fin x h'=v:=by
 let ρ0:Rho:=fun q=>if q.nat < P.globals.size then some (q.nat,0) else none
 have h0:∀ q b N,ρ0 q=some (b,N)→q.nat < P.globals.size∧b=q.nat:=fun q b N h=>by
  simp only[ρ0] at h
  split at h
  ·simp at h;exact ⟨by assumption,h.1.symm⟩
  ·cases h
 have hob:∀ q,(T.nil:T O).ob q=.dead:=fun q=>T.get_nil _ _
 have H:HR P w ρ0 .nil (qn P.globals.size) w :=
  ⟨Nat.le_refl _,fun _ _=>rfl,rfl,rfl,rfl,fun g hg=>⟨0,by simp [ρ0,dY,hg]⟩,fun q hq=>by rw[dY] at hq;simp [ρ0];exact hq,fun q b N h=>by obtain ⟨h1,rfl⟩:=h0 q b N h;omega,
   fun q b N _=>by rw[hob];exact .dead _ _,fun q q' b N N' _ _ _=>by rw[hob];trivial,fun q _=>hob q⟩
 exact uU (P:=P) (w0:=w) (w:=w) (vs:=vs) (us:=us) (dk:=false) (cs:=[]) (frs:=[]) (c0:=c) (cs0:=cs) (v:=v) (jh hm hfe hx n) H (hv ρ0) (.nil _ _ _) hc e
end Go.CM
end
noncomputable section
namespace Go.CM
open Go.Lib (indexByte countByte indexByte_ge run_indexByteString run_countString)
variable {P:Program}
theorem lh (c:UInt8):∀ (l:List UInt8) (i:Nat) (k:Int→Res),rS c.toNat l.length (packL l) i k=k (if indexByte l c=-1 then -1 else i+indexByte l c)
 |[],i,k=>by simp [rS,indexByte]
 |b::l,i,k=>by
  have hb:b.toNat < 256:=b.toNat_lt;have h1:(b.toNat+256 * packL l) % 256=b.toNat:=by omega
  have h2:(b.toNat+256 * packL l) / 256=packL l:=by omega
  simp only[List.length_cons,rS,packL,h1,h2,aF];by_cases hbc:b=c
  ·subst hbc
   simp [indexByte]
  ·have hne:b.toNat.beq c.toNat=false:=by
    cases hq:b.toNat.beq c.toNat with
    |false=>rfl
    |true=>exact absurd (UInt8.toNat_inj.1 (Nat.eq_of_beq_eq_true hq)) hbc
   rw[hne];simp only;rw[lh c l (i+1) k];congr 1;have hbe:(b==c)=false:=by simpa using hbc
   have hge:=indexByte_ge l c;simp only[indexByte,hbe,Bool.false_eq_true,if_false,beq_iff_eq];by_cases hi:indexByte l c=-1
   ·simp [hi]
   ·rw[if_neg hi,if_neg hi,if_neg (by omega)];omega
theorem dr (c:UInt8):∀ (l:List UInt8) (n:Nat) (k:Nat→Res),wZ c.toNat l.length (packL l) n k=k (n+countByte l c)
 |[],n,k=>by simp [wZ,countByte]
 |b::l,n,k=>by
  have hb:b.toNat < 256:=b.toNat_lt;have h1:(b.toNat+256 * packL l) % 256=b.toNat:=by omega
  have h2:(b.toNat+256 * packL l) / 256=packL l:=by omega
  simp only[List.length_cons,wZ,packL,h1,h2,aF];by_cases hbc:b=c
  ·subst hbc
   simp only[Nat.beq_refl];rw[dr b l (n+1) k];simp [countByte];congr 1;omega
  ·have hne:b.toNat.beq c.toNat=false:=by
    cases hq:b.toNat.beq c.toNat with
    |false=>rfl
    |true=>exact absurd (UInt8.toNat_inj.1 (Nat.eq_of_beq_eq_true hq)) hbc
   rw[hne];simp only;rw[dr c l n k];simp [countByte,hbc]
theorem wq {v:V} {k:Nat→Res} {r:V} (h:aEv v k=.ok r):∃ c,v=.int .u8 (.ofNat c)∧c < 256∧k c=.ok r:=by
 cases v <;> try (cases h;done)
 rename_i kd n;cases kd <;> try (cases h;done)
 cases n <;> try (cases h;done)
 obtain ⟨h1,h2⟩:=bR h;exact ⟨_,rfl,cZ h1,h2⟩
def yY (fn:Func):Bool:=fn.name== "internal/bytealg.IndexByteString"||fn.name== "internal/bytealg.CountString"||fn.name== "internal/abi.NoEscape"
def aFn (P:Program):Bool:=P.funcs.toList.all fun fn=>fn.body.isSome||!yY fn||(fn.origin== ""||fn.origin==fn.name)
theorem nx0:Extern.allNextRows.lookup "internal/bytealg.IndexByteString"=none:=by kernel_rfl
theorem nx1:Extern.allNextRows.lookup "internal/bytealg.CountString"=none:=by kernel_rfl
theorem nx2:Extern.allNextRows.lookup "internal/abi.NoEscape"=none:=by kernel_rfl
theorem nxe:Extern.allNextRows.lookup ""=none:=by kernel_rfl
theorem gn0:Extern.allGenericRows.lookup "internal/bytealg.IndexByteString"=none:=by kernel_rfl
theorem gn1:Extern.allGenericRows.lookup "internal/bytealg.CountString"=none:=by kernel_rfl
theorem gn2:Extern.allGenericRows.lookup "internal/abi.NoEscape"=none:=by kernel_rfl
theorem tn0:Extern.allTypedRows.lookup "internal/bytealg.IndexByteString"=none:=by kernel_rfl
theorem tn1:Extern.allTypedRows.lookup "internal/bytealg.CountString"=none:=by kernel_rfl
theorem tn2:Extern.allTypedRows.lookup "internal/abi.NoEscape"=none:=by kernel_rfl
theorem rw0:Extern.allRows.lookup "internal/bytealg.IndexByteString"=some Extern.BytealgIndexByte.indexByte:=by kernel_rfl
theorem rw1:Extern.allRows.lookup "internal/bytealg.CountString"=some Extern.BytealgCount.count:=by kernel_rfl
theorem rw2:Extern.allRows.lookup "internal/abi.NoEscape"=some Extern.AbiNoEscape.same:=by kernel_rfl
theorem xB {fn:Func} (h1:Extern.allNextRows.lookup fn.name=none) (h2:fn.origin= ""∨fn.origin=fn.name):Extern.findNext fn=none:=by
 unfold Extern.findNext;rcases h2 with h2|h2 <;> simp [h2,h1,nxe]
theorem xw {fn:Func} {e:Array Value→Sem Value} (h1:Extern.allGenericRows.lookup fn.name=none) (h2:Extern.allTypedRows.lookup fn.name=none) (h3:Extern.allRows.lookup fn.name=some e):Extern.find fn=some e:=by
 unfold Extern.find;simp [h1,h2,h3]
theorem aGe (hck:aFn P=true):nE P:=by
 intro g m hc w ρ vs us k v hv e;unfold compF at hc
 split at hc
 ·cases hc
 ·rename_i fn hf
  split at hc
  ·rename_i hb
   have hor:yY fn=true→fn.origin= ""∨fn.origin=fn.name:=fun hnm=>by
    have:=(List.all_eq_true.1 hck) fn (by
     obtain ⟨h1,h2⟩:=Array.getElem?_eq_some_iff.1 hf;rw[←h2];simp)
    rw[hb,hnm] at this;simpa using this
   have run:∀ {en:Array Value→Sem Value} {u:Value},yY fn=true→(fn.name== "runtime.NumGoroutine")=false→Extern.allNextRows.lookup fn.name=none→Extern.allGenericRows.lookup fn.name=none→Extern.allTypedRows.lookup fn.name=none→Extern.allRows.lookup fn.name=some en →
     (en ⟨us⟩).run P w=.ok u w→(callFunc g ⟨us⟩).run P w=.ok (.value u) w:=fun hnm hn h1 h2 h3 h4 h5=>by
    rw[run_callFunc_extern hf hn (by rw[hb];rfl) (xB h1 (hor hnm)) (xw h2 h3 h4),h5];rfl
   have two:∀ {a b:V},VRs ρ [a,b] us→∃ ua ub,us=[ua,ub]∧VR ρ a ua∧VR ρ b ub:=fun h=>by
    obtain ⟨ua,us1,rfl,h1,h2⟩:=h.inv_cons;obtain ⟨ub,us2,rfl,h3,h4⟩:=h2.inv_cons;rw[h4.inv_nil];exact ⟨ua,ub,rfl,h1,h3⟩
   split at hc
   ·rename_i hn
    cases hc;have hn:=beq_iff_eq.1 hn;simp only[eg] at e
    split at e
    ·rename_i x y
     obtain ⟨ux,uy,rfl,hx,hy⟩:=two hv;obtain ⟨l,s,rfl,e⟩:=oG e;obtain ⟨c,rfl,hlt,e⟩:=wq e;obtain ⟨bs,rfl,rfl,rfl⟩:=hx.inv_str;have hy:=hy.inv_int;subst hy;have hcc:(UInt8.ofNat c).toNat=c:=by simp;omega
     rw[←hcc,lh] at e;refine ⟨_,.int .i64 (indexByte bs (UInt8.ofNat c)),e,?_,run (by unfold yY;rw[hn];decide) (by rw[hn];decide) (by rw[hn];exact nx0) (by rw[hn];exact gn0) (by rw[hn];exact tn0) (by rw[hn];exact rw0) ?_⟩
     ·have:(if indexByte bs (UInt8.ofNat c)=-1 then -1 else ((0:Nat):Int)+indexByte bs (UInt8.ofNat c))=indexByte bs (UInt8.ofNat c):=by
       split
       ·rename_i h;exact h.symm
       ·simp
      rw[this];exact .int _ _
     ·rw[show (Int.ofNat c)=((c:Nat):Int) from rfl]
      have:=run_indexByteString (P:=P) ⟨⟨bs⟩⟩ (c:Int) w
      simpa using this
    ·cases e
   ·rename_i hn _
    cases hc;have hn:=beq_iff_eq.1 hn;simp only[eg] at e
    split at e
    ·rename_i x y
     obtain ⟨ux,uy,rfl,hx,hy⟩:=two hv;obtain ⟨l,s,rfl,e⟩:=oG e;obtain ⟨c,rfl,hlt,e⟩:=wq e;obtain ⟨bs,rfl,rfl,rfl⟩:=hx.inv_str;have hy:=hy.inv_int;subst hy;have hcc:(UInt8.ofNat c).toNat=c:=by simp;omega
     rw[←hcc,dr,Nat.zero_add] at e;refine ⟨_,.int .i64 (countByte bs (UInt8.ofNat c)),e,.int _ _,run (by unfold yY;rw[hn];decide) (by rw[hn];decide) (by rw[hn];exact nx1) (by rw[hn];exact gn1) (by rw[hn];exact tn1) (by rw[hn];exact rw1) ?_⟩;rw[show (Int.ofNat c)=((c:Nat):Int) from rfl]
     have:=run_countString (P:=P) ⟨⟨bs⟩⟩ (c:Int) w
     simpa using this
    ·cases e
   ·rename_i hn _ _
    cases hc;have hn:=beq_iff_eq.1 hn;simp only[eg] at e
    split at e
    ·rename_i x
     obtain ⟨u,us1,rfl,h1,h2⟩:=hv.inv_cons;rw[h2.inv_nil] at run ⊢;exact ⟨_,u,e,h1,run (by unfold yY;rw[hn];decide) (by rw[hn];decide) (by rw[hn];exact nx2) (by rw[hn];exact gn2) (by rw[hn];exact tn2) (by rw[hn];exact rw2) (by rfl)⟩
    ·cases e
   ·cases hc
  ·split at hc
   ·cases hc
   ·split at hc <;> cases hc
end Go.CM
end
