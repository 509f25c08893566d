import Derived.Test.YtdkkaldimefljaaGreatDoorC05
set_option linter.all false
noncomputable section
namespace Go.CM
section
variable {P:Program}{w0 w:World}{J J':Rho}{h h':T O}{nx nx':Q}{tm:T V}{tmps:Array Value}{v:V}{ops:Array Oper}{n β:Nat}{f:Q}{dk:Bool}{rd:Option Q}{ds:List Df}{k:K}{cs:List Fr}{fr b:Frame}{frs:List Frame}{c0:Frame}{cs0:List Frame}{ih:E9}
theorem TR.put{x:V}{u:Value}{d:Option Nat}(hT:TR J n tm tmps)(hd:∀y,d=some y->y<n)(hv:VR J x u):TR J n (wE tm d x) (pR tmps d u):=by
 refine⟨by rw[uN];exact hT.size,λt=>?_⟩;rw[hZ,zO (λy hy=>Bx (hd y hy) hT.size)];split
 ·exact hv
 ·exact hT.rel t
theorem yG{a:Act}{i:Nat}{o:Oper}{rest:List Nat}{ks:List Item}{u:Value}{tmps:Array Value}{AU:List Deferred}(ho:ops[i]?=some o):(b.atR ⟨tmps,AU⟩ (.inRegion ops (i::rest)::ks)).finish u=b.atR ⟨pR tmps o.dst u,AU⟩ (.inRegion ops rest::ks):=by
 rw[Frame.finish_atR,ho,<-put_eq];rfl
theorem aEI{ob:OB}(hw:LC ob=true):ob≠.p .bad:=λe=>by subst e;cases hw
theorem aEd{i:Nat}{o:Oper}(ho:ops[i]?=some o):ops.toList.drop i=o::ops.toList.drop (i+1):=by
 have hi:i<ops.toList.length:=by simpa using(Ad.1 ho).1
 rw[Cc hi];congr 1
 have:=(Ad.1 ho).2
 simpa using this
theorem aAx(G:Good P ih)(H:HR P w0 J' h' nx' w){J0:Rho}{h0:T O}{nx0:Q}{x:V}{u:Value}(W:WR P J0 h0 β nx0 f dk rd ds tm k fr)(hn:nx0.nat<=nx'.nat)(hK:Keep nx0.nat J0 h0 J' h')(hS:StkR P J' h' cs frs β)(hv:VR J' x u)
  (e:qR ih (.mk f dk rd ds tm k) cs x h' nx'=.ok v):Final P w0 (lone (fr.finish u) (frs++c0::cs0) w) c0 cs0 v:=by
 obtain⟨hle,b,AU,tmps,C,hB,hD,LN,hW,hC⟩:=W;have EG:β<=nx'.nat:=Bj hle hn;have X:Ctx P w0 w J' h' β nx' f dk rd ds cs frs b AU:=⟨H,EG,hB.mono hK.le,hD.mono hK.le,LN,hS⟩
 cases hW with
 |sync ops i o d g ob k ks ho hc hw hk =>
  obtain⟨hT,rfl⟩:=hC;obtain⟨_,hd,hx,_⟩:=fA hc (OQ (aEI hw));simp only[qR] at e;rw[hd,eX] at e;rw[yG (a:=⟨tmps,AU⟩) ho];have hi:=(Ad.1 ho).1;exact X.go G (.sync ops (i+1) k ks hi hk) ⟨(hT.mono hK.le).put hx hv,rfl⟩ e
 |drawn ops i o d g ob pl E r qf k ks ho hc hw hk =>
  obtain⟨hL,rfl⟩:=hC;obtain⟨hb,hd,hx,_⟩:=fA hc (OQ (aEI hw));simp only[qR] at e;rw[hd,eX] at e;rw[yG (a:=⟨tmps,AU⟩) ho];exact X.go G (.drawn ops pl (E ||| 2^i) r qf k ks hk) ⟨hL.sync ho (by unfold Iz;rw[<-hb,hw];rfl) hx hn hK hv,rfl⟩ e
 |inrf l bl N k ks hl hk =>
  obtain⟨hT,rfl⟩:=hC;simp only[qR] at e;exact X.go G (.erf l bl N k ks (hK.le _ _ hl) hk) ⟨hT.mono hK.le,rfl⟩ e
 |rtn ks=>simp only[qR] at e;cases e
theorem jn{l:Q}{AU:List Deferred}(G:Good P ih)(C:Ctx P w0 w J h β nx f dk rd ds cs frs b AU)(hrd:rd=some l){j:Jump}{jc:Option Code}(hj:JR j jc){bb:Bool}(JK:bb=jc.isNone){a:Act}{todo:List Item}
  (BV:∀{bl:Nat}{u:Value}{w':World}{c:Frame}{cs:List Frame},b.roundOf=some bl->b.kind=.normal->(Instr.endRound bl jc).run P w=.ok u w'->step P (lone (b.atR a todo) (c::cs) w)=.next (lone (c.finish u) cs w'))
  (e:qz ih l j bb cs h nx=.ok v):Final P w0 (lone (b.atR a todo) (frs++c0::cs0) w) c0 cs0 v:=by
 refine aHh C hrd hj JK BV (λ{c BZ Lh IH w' h' u x} h1 h2 H' hK hv e'=>?_) e;subst h1;subst h2;have hS:=C.S;cases hS with
 |cons J0 _ hh0 _ f' Sr Kx DE CU k' _ _ _ β0 _ nx0 hf hn hK0 hs =>
 exact aAx G H' hf (Bj hn C.le) (hK0.trans (hK.down (Bj hn C.le))) (hs.mono (hK.down (Bj hf.le (Bj hn C.le)))) hv e'
theorem aGJ{AU:List Deferred}(C:Ctx P w0 w J h β nx f dk rd ds cs frs b AU){d:Nat}:Ctx P w0 { w with drawn:=d } J h β nx f dk rd ds cs frs b AU:=⟨C.H.drawn d,C.le,C.B,C.D,C.rn,C.S⟩
theorem yq{r:List Nat}:∀{D:Nat->Prop},Ordr ops D r->r.Nodup/\(∀i∈r,i<ops.size/\¬D i)/\∀i,i<ops.size->D i\/i∈r:=by
 induction r with
 |nil =>
  intro D h;cases h with|nil h=>exact⟨List.nodup_nil,by simp,λi hi=>.inl (h i hi)⟩
 |cons i r ih =>
  intro D h;cases h with
  |cons hi hn he hr =>
  obtain⟨h1,h2,h3⟩:=ih hr;refine⟨Eo.2 ⟨λhm=>(h2 i hm).2 (.inr rfl),h1⟩,λj hj=>?_,λj hj=>?_⟩
  ·rcases Bb.1 hj with rfl|hj
   ·exact⟨hi,hn⟩
   ·exact⟨(h2 j hj).1,λhD=>(h2 j hj).2 (.inl hD)⟩
  ·rcases h3 j hj with(h4|rfl)|h4
   ·exact .inl h4
   ·exact .inr (by simp)
   ·exact .inr (by simp[h4])
theorem aD6{fe:Q->CF}{AU:List Deferred}{c:Code}{ks:List Item}(hm:P.follows .mixedOrders=true)(G:Good P ih)(C:Ctx P w0 w J h β nx f dk rd ds cs frs b AU)(hk:KS P (nt P f.nat) k ks)(hT:TR J (nt P f.nat) tm tmps)
  (SZ:∀x ps BW body,c≠.rangeFunc x ps BW body) (e:mS ih f dk rd ds tm (dF P (nt P f.nat) c) k cs h nx fe=.ok v):Final P w0 (lone (b.atR ⟨tmps,AU⟩ (.code c::ks)) (frs++c0::cs0) w) c0 cs0 v:=by
 cases c with
 |skip=>exact Final.steps (Steps.one stepR_skip) (C.plain G hk hT e)
 |label l=>exact Final.steps (Steps.one stepR_label) (C.plain G hk hT e)
 |seq x y=>exact Final.steps (Steps.one stepR_seq) (C.plain G (.code x _ _ (.code y _ _ hk)) hT e)
 |block id c=>exact Final.steps (Steps.one stepR_block) (C.plain G (.code c _ _ (.blk id _ _ hk)) hT e)
 |loop c=>exact Final.steps (Steps.one stepR_loop) (C.plain G (.code c _ _ (.lp c _ _ hk)) hT e)
 |scope c=>exact Final.steps (Steps.one oF) (C.plain G (.code c _ _ (.sc c _ _ hk)) hT e)
 |cond x y z =>
  simp only[dF,mS] at e;obtain⟨c,h1,e1⟩:=eF e;have hc:=fV (ds:=AU) C.H.glob (λt _=>hT.rel t) h1;obtain⟨bb,JK,e2⟩:=xO e1;subst JK;refine Final.steps (Steps.one (stepR_cond (a:=⟨tmps,AU⟩) hc.inv_bool)) ?_;cases bb with
  |true=>exact C.plain G (.code y _ _ hk) hT e2
  |false=>exact C.plain G (.code z _ _ hk) hT e2
 |exit id =>
  simp only[dF,mS] at e;rcases aEo hk e with⟨k',PA,h1,h2,h3⟩|⟨h1,h2⟩
  ·exact Final.steps (Steps.one (stepR_exit h2)) (C.plain G h3 hT h1)
  ·split at h1
   ·cases h1
   ·exact jn G C rfl (.exit id) rfl (λhb GA hr=>stepR_round_exit hb GA h2 hr) h1
 |ret =>
  simp only[dF,mS] at e
  split at e
  ·have C6:=C.B.ro
   cases E7:b.roundOf with
   |some bl=>rw[E7] at C6;exact C6.elim
   |none=>exact Final.steps (Steps.one (stepR_ret E7)) (C.go G (.rtn _) ⟨hT,rfl⟩ e)
  ·exact jn G C rfl .ret rfl (λhb GA hr=>stepR_round_ret hb GA hr) e
 |region id ops draw =>
  cases draw with
  |false =>
   refine Final.steps (Steps.one stepR_region) ?_
   have:=Cur.sync (P:=P) (J:=J) (h:=h) (β:=β) (nx:=nx) (tm:=tm) ops 0 k ks (En _) hk
   rw[Ee,Nat.sub_zero] at this;exact C.go G this ⟨hT,by rw[List.range_eq_range']⟩ e
  |true =>
   simp only[dF,mS] at e;refine Final.steps (Steps.one stepR_region_draw) ?_;have C':=aGJ (d:=w.drawn+1) C;unfold aFO at e;simp only at e
   split at e
   ·rename_i hg
    simp only[Ac] at hg;obtain⟨⟨⟨g1,g2⟩,g3⟩,g4⟩:=hg
    have hE:pc ops:=λi o ho e he hb=>by
     have:=dh g2 i o (by rw[Bq];exact ho) e he hb
     omega
    have hr:=bt (P:=P) hm hE (w.tape w.drawn (.order b.fn id));obtain⟨r1,r2,r3⟩:=yq hr;have hL:=LZ.start (h:=h) (β:=β) (nx:=nx) hT ⟨Aa g1,hE,g3⟩ g4 hr r1 (λi hi=>(r2 i hi).1) (λi hi=>(r3 i hi).resolve_left (λh=>h)) (λ_=>none);exact C'.go G (.drawn ops _ 0 _ _ k ks hk) ⟨hL,rfl⟩ e
   ·exact C'.go G (tmps:=tmps) (.bad [] k) trivial e
 |rangeFunc x ps BW body=>exact absurd rfl (SZ _ _ _ _)
 |goto l=>cases e
 |refuse why=>cases e
end
section
variable {P:Program}{w0 w:World}{J J':Rho}{h h':T O}{nx nx':Q}{tm:T V}{tmps:Array Value}{v:V}{ops:Array Oper}{n β:Nat}{f:Q}{dk:Bool}{rd:Option Q}{ds:List Df}{k:K}{cs:List Fr}{fr b:Frame}{frs:List Frame}{c0:Frame}{cs0:List Frame}{ih:E9}{fe:Q->CF}
def xA(P:Program)(fe:Q->CF):Prop:=∀g:Nat,fe (qn g)=.none\/fe (qn g)=compF P g
def pT(P:Program):Prop:=∀(g:Nat)(m:Nat),compF P g=.ext m->∀(w:World)(J:Rho)(vs:List V)(us:List Value)(k:V->AA)(v:V),VRs J vs us->jr m vs k=.ok v->∃x u,k x=.ok v/\VR J x u/\(callFunc g ⟨us⟩).run P w=.ok (.value u) w
theorem rP{g:Nat}{body:C}{rs:List RV}(h:compF P g=.mk body rs):∃fn c,P.funcs[g]?=some fn/\fn.body=some c/\(fn.name== "runtime.NumGoroutine")=false/\u3 P fn.results.toList=some rs/\body=dF P fn.ntmps c:=by
 unfold compF at h
 split at h
 ·cases h
 ·rename_i fn hf
  split at h
  ·split at h<;>cases h
  ·rename_i c hc
   split at h
   ·cases h
   ·rename_i hn
    split at h
    ·cases h
    ·rename_i rs' V1
     cases h;exact⟨fn,c,hf,hc,hn,V1,rfl⟩
theorem nt_of{g:Nat}{fn:Func}(h:P.funcs[g]?=some fn):nt P g=fn.ntmps:=by simp[nt,h]
theorem aCs{vs:List V}{us:List Value}(hv:VRs J vs us)(m:Nat)(hm:us.length+m>=n):TR J n (dP vs 0 .nil) (⟨us⟩++Array.replicate m Go.undef):=by
 refine⟨by simp;omega,λt=>?_⟩;rw[jF];have hl:=hv.1;by_cases ht:t<vs.length
 ·rw[Bo ⟨by omega,by omega⟩,Af,Gz (by simp;omega)]
  have htu:t<us.length:=by omega
  have:=hv.2 t vs[t] us[t] (by simp[ht]) (by simp[htu])
  simpa[Br,ht,htu] using this
 ·rw[Ax (by omega),Af]
  have h1:(T.nil:T V).at t=V.undef:=T.get_nil _ _;rw[h1];by_cases h2:t<us.length+m
  ·rw[Array.getElem?_append_right (by simp;omega)]
   simp only[Ea];split
   ·exact VR.undef
   ·exact VR.undef
  ·rw[Hj (by simp;omega)]
   exact VR.undef
theorem yA{g:Nat}{vs:List V}{us:List Value}{body:C}{rs:List RV}(G:Good P ih)(H:HR P w0 J h nx w)(hv:VRs J vs us)(hS:StkR P J h cs frs nx.nat)(hc:compF P g=.mk body rs)
  (e:(xJ vs .e .nil λtm=>ih (qn g) dk none [] tm (.code body .nil) cs h nx)=.ok v):Final P w0 (lone (Frame.enter P g ⟨us⟩ (if dk then .deferred else .normal)) (frs++c0::cs0) w) c0 cs0 v:=by
 obtain⟨fn,c,h1,h2,h3,h4,rfl⟩:=rP hc;rw[lG,show(Q.e:Q)=qn 0 from rfl,xN] at e;have Jk:=nt_of h1;have hT:=aCs (n:=nt P g) hv ((fn.ntmps)-us.length) (by omega)
 let b:Frame:={ fn:=g,tmps:=#[],todo:=[],defers:=[],mode:=.run,kind:=if dk then .deferred else .normal }
 have X:Ctx P w0 w J h nx.nat nx (qn g) dk none [] cs frs b []:=⟨H,Ae _,⟨by simp[b,eP],rfl,trivial,λh=>absurd rfl h⟩,.nil,λ_=>rfl,hS⟩
 have D4:Frame.enter P g ⟨us⟩ (if dk then .deferred else .normal)=b.atR ⟨⟨us⟩++Array.replicate (fn.ntmps-us.length) Go.undef,[]⟩ [.code c]:=by
  simp[Frame.enter,Frame.atR,h1,h2,b]
 rw[D4];refine X.plain (tm:=dP vs 0 .nil) G (.code c _ _ .nil) ?_ ?_
 ·rw[eP];exact hT
 ·rw[eP,Jk];exact e
theorem aA6:∀{ps:List Nat}{vs:List V}{us:List Value}{tm:T V}{tmps:Array Value}{k:T V->AA},VRs J vs us->TR J n tm tmps->(∀t∈ps,t<n)->yy (ps.map qn) vs tm k=.ok v ->
  ∃BA,k BA=.ok v/\ps.length=us.length/\TR J n BA ((ps.zip us).foldl (λtmps (t,a)=>tmps.setIfInBounds t a) tmps)
 |[],[],us,tm,tmps,k,hv,hT,hp,e=>by rw[hv.inv_nil];exact⟨tm,e,rfl,hT⟩
 |[],_::_,us,tm,tmps,k,hv,hT,hp,e=>by cases e
 |_::_,[],us,tm,tmps,k,hv,hT,hp,e=>by cases e
 |p::ps,x::vs,us,tm,tmps,k,hv,hT,hp,e=>by
  obtain⟨u,Oa,rfl,h1,h2⟩:=hv.inv_cons;simp only[Aw,yy,U1] at e;have OD:TR J n (tm.put V.undef x (qn p)) (tmps.setIfInBounds p u):=hT.put (d:=some p) (λy hy=>by cases hy;exact hp p (by simp)) h1;obtain⟨BA,a1,a2,a3⟩:=aA6 h2 OD (λt ht=>hp t (by simp[ht])) e;exact⟨BA,a1,by simp[a2],a3⟩
theorem lL{fv:V}{uf:Value}{vs:List V}{us:List Value}{c:Fr}(D5:xA P fe)(hx:pT P)(G:Good P ih)(H:HR P w0 J h nx w)(Hs:VR J fv uf)(hv:VRs J vs us)(hS:StkR P J h (c::cs) (fr::frs) nx.nat)(e:dJ fe ih fv vs (c::cs) h nx=.ok v) :
  ∃d,(Deferred.ofValue uf ⟨us⟩).run P w=.ok d w /\
   ((∃g all,(invoke d.target d.args).run P w=.ok (.enter g all) w/\Final P w0 (lone (Frame.enter P g all .normal) (fr::(frs++c0::cs0)) w) c0 cs0 v) \/
    (∃l g tmps x y,(invoke d.target d.args).run P w=.ok (.round l g tmps x y) w/\Final P w0 (lone (Frame.round l g tmps x y .normal) (fr::(frs++c0::cs0)) w) c0 cs0 v) \/
    ∃x u,(invoke d.target d.args).run P w=.ok (.value u) w/\VR J x u/\qR ih c cs x h nx=.ok v):=by
 cases fv<;>simp only[dJ] at e<;>first|cases e|skip
 ·rename_i f fs caps
  obtain⟨ua,ub,rfl,h1,h2⟩:=Hs.inv_fn;rw[fL,fL] at e;have CN:VRs J (fs++(vs++caps)) (ua++(us++ub)):=h1.append (hv.append h2);refine⟨{ target:=.fn (.func f.nat) ⟨ub⟩,args:=⟨ua⟩++⟨us⟩ },by simp[Deferred.ofValue],?_⟩;have C1:((⟨ua⟩:Array Value)++⟨us⟩)++⟨ub⟩=⟨ua++(us++ub)⟩:=by apply Cg;simp
  unfold iQ at e;rw[oM] at e
  split at e
  ·cases e
  ·rename_i m BK
   have hcf':compF P f.nat=.ext m:=by
    rcases D5 f.nat with h0|h0
    ·rw[qI] at h0;rw[h0] at BK;cases BK
    ·rw[qI] at h0;rw[<-h0];exact BK
   simp only at e;obtain⟨x,u,a1,a2,a3⟩:=hx f.nat m hcf' w J _ _ _ _ CN e;refine .inr (.inr ⟨x,u,?_,a2,a1⟩);simp only[invoke,C1];exact a3
  ·rename_i body rs BK
   have hcf':compF P f.nat=.mk body rs:=by
    rcases D5 f.nat with h0|h0
    ·rw[qI] at h0;rw[h0] at BK;cases BK
    ·rw[qI] at h0;rw[<-h0];exact BK
   obtain⟨fn,cc,g1,g2,g3,g4,_⟩:=rP hcf';refine .inl ⟨f.nat,⟨ua++(us++ub)⟩,?_,?_⟩
   ·simp only[invoke,C1]
    simp[callFunc,g1,g2,g3];intro hn;rw[hn] at g3;simp at g3
   ·have:=yA (dk:=false) (c0:=c0) (cs0:=cs0) G H CN hS hcf' (by rw[qI];exact e)
    simpa using this
 ·rename_i l
  obtain⟨bl,N,rfl,hl⟩:=Hs.inv_yld;rw[bV] at e;obtain⟨st,pend,fn,BA,ps,BW,body,B8,BP,e1⟩:=gF e;obtain⟨r,hw,CY,hB,AR⟩:=H.loop hl BP;cases CY with
  |mk _ _ F8 _ _ _ N' h1 h2 h3 h4 h5 h6 =>
  obtain⟨CU,a1,a2,a3⟩:=aA6 hv h4 h5 e1;refine⟨{ target:=.fn (.yield bl) #[],args:=#[]++⟨us⟩ },by simp[Deferred.ofValue],.inr (.inl ⟨bl,r.fn,(r.params.zip ⟨us⟩).foldl (λtmps (t,a)=>tmps.setIfInBounds t a) r.tmps,r.assign,r.body,?_,?_⟩)⟩
  ·have BG:us.length=r.params.size:=by rw[<-a2];simp
   simp[invoke,Instr.yield,run_getLoop hw,BG]
  ·let b:Frame:={ fn:=r.fn,tmps:=#[],todo:=[],defers:=[],mode:=.run,kind:=.normal,roundOf:=some bl }
   have X:Ctx P w0 w J h nx.nat nx (qn F8) false (some l) [] (c::cs) (fr::frs) b []:=⟨H,Ae _,⟨by simp[b,eP,h3],rfl,⟨N,hl⟩,λ_=>rfl⟩,.nil,λ_=>rfl,hS⟩
   have D4:∀tt,Frame.round bl r.fn tt r.assign r.body .normal=b.atR ⟨tt,[]⟩ [.code r.assign,.beginRound,.code r.body]:=λtt=>by simp[Frame.round,Frame.atR,b]
   rw[D4]
   have:=X.plain (c0:=c0) (cs0:=cs0) (v:=v) (tm:=CU) (tmps:=(r.params.zip ⟨us⟩).foldl (λtmps (t,a)=>tmps.setIfInBounds t a) r.tmps) G (.code r.assign _ _ (.begin _ _ (.code r.body _ _ .nil))) (by
    rw[eP]
    have hz:(r.params.zip ⟨us⟩).foldl (λtmps (t,a)=>tmps.setIfInBounds t a) r.tmps=(r.params.toList.zip us).foldl (λtmps (t,a)=>tmps.setIfInBounds t a) r.tmps:=by
     rw[<-Eg];simp
    rw[hz];exact a3) (by rw[eP];exact a1)
   exact this
end
section
open Go.AM (dI fR kI mN)
variable {P:Program}{w0 w:World}{J J':Rho}{h h':T O}{nx nx':Q}{tm:T V}{tmps:Array Value}{v:V}{ops:Array Oper}{n β:Nat}{f:Q}{dk:Bool}{rd:Option Q}{ds:List Df}{k:K}{cs:List Fr}{fr b:Frame}{frs:List Frame}{c0:Frame}{cs0:List Frame}{ih:E9}{fe:Q->CF}{i:Nat}{o:Oper}{rest:List Nat}{l:List PS}{ks:List Item}{AU:List Deferred}
theorem step_defer{a:Act}{d:Deferred}{w':World}{cs:List Frame}(ho:ops[i]?=some o)(hw:Region.wanted o (yielded ops a.tmps)=true)(hb:b.roundOf=none)(hr:(execOp a.eval o).run P w=.ok (.defer d) w') :
  step P (lone (b.atR a (.inRegion ops (i::rest)::ks)) cs w)=.next (lone (b.atR ((⟨a.tmps,d::a.defers⟩:Act).put o.dst Go.undef) (.inRegion ops rest::ks)) cs w'):=by
 refine step_lone_go ?_;have h:=Frame.finish_atR b ⟨a.tmps,d::a.defers⟩ ops i rest ks Go.undef;rw[ho] at h;rw[stepGR_op ho hw,hb,Oper.semAt_none];have h2:({ b.atR a (.inRegion ops (i::rest)::ks) with defers:=d::(b.atR a (.inRegion ops (i::rest)::ks)).defers }:Frame)=b.atR ⟨a.tmps,d::a.defers⟩ (.inRegion ops (i::rest)::ks):=rfl;simp only[stepG.apply,hr,Dk,Dd,h2,h];simp[hr,h2,h]
theorem od{a:Act}{w':World}{cs:List Frame}(ho:ops[i]?=some o)(hw:Region.wanted o (yielded ops a.tmps)=true)(hd:∀c,o.op≠.defer c)(hb:b.roundOf=none)(hr:(execOp a.eval o).run P w=.ok .recover w')
  (ht:tryRecover (b.atR a (.inRegion ops (i::rest)::ks)) cs=none) :
  step P (lone (b.atR a (.inRegion ops (i::rest)::ks)) cs w)=.next (lone (b.atR (a.put o.dst .nilIface) (.inRegion ops rest::ks)) cs w'):=by
 refine step_lone_go ?_;have h:=Frame.finish_atR b a ops i rest ks .nilIface;rw[ho] at h;have AX:(b.atR a (.inRegion ops (i::rest)::ks)).roundOf=none:=hb;rw[stepGR_op ho hw,Oper.semAt_eq _ _ _ hd];simp[stepG.apply,hr,h,AX,ht]
structure Pt (P:Program) (n:Nat) (ops:Array Oper) (J:Rho) (h:T O) (β:Nat) (nx:Q) (tm:T V) (tmps:Array Value) (i:Nat) (o:Oper) (rest:List Nat) (l:List PS) (k:K) (ks:List Item):Prop where
 ho:ops[i]?=some o
 size:n<=tmps.size
 rd:∀t,(kU ops o).testBit t=true->VR J (tm.at t) (tmps.getD t Go.undef)
 go:∀(J':Rho)(h':T O)(nx':Q)(v:V)(u:Value),nx.nat<=nx'.nat->Keep nx.nat J h J' h'->VR J' v u->(∀x,o.dst=some x->x<n) ->
  ∃C:Array Value->List Deferred->Frame->Frame->Prop,Cur P J' h' β nx' n (wE tm o.dst v) (.reg l k) C/\∀b AU,C (pR tmps o.dst u) AU b (b.atR ⟨pR tmps o.dst u,AU⟩ (.inRegion ops rest::ks))
 wt:∀d g ob,gR P n ops o=.mk d g ob->LC ob=true->∃C:Array Value->List Deferred->Frame->Frame->Prop,Wt P J h β nx n tm (.reg (.op (.mk d g ob)::l) k) C/\∀b AU,C tmps AU b (b.atR ⟨tmps,AU⟩ (.inRegion ops (i::rest)::ks))
theorem Pt.sync(hT:TR J n tm tmps)(ho:ops[i]?=some o)(hk:KS P n k ks):Pt P n ops J h β nx tm tmps i o (List.range' (i+1) (ops.size-(i+1))) ((ops.toList.drop (i+1)).map λo=>.op (gR P n ops o)) k ks :=
 ⟨ho,hT.size,λt _=>hT.rel t,λ_ _ _ _ _ _ hK hv hx=>⟨_,.sync ops (i+1) k ks (Ad.1 ho).1 hk,λ_ _=>⟨(hT.mono hK.le).put hx hv,rfl⟩⟩,
  λd g ob hc hw=>⟨_,.sync ops i o d g ob k ks ho hc hw hk,λ_ _=>⟨hT,rfl⟩⟩⟩
theorem Pt.drawn{pl:List Pl}{E:Nat}{r:List Nat}{qf:Nat->Option Q}(L:LZ P n ops J h β nx tm tmps (.run i::pl) E (i::r) qf)(ho:ops[i]?=some o)(hw:Iz P o=true)(hk:KS P n k ks):Pt P n ops J h β nx tm tmps i o r (pl.map (zd P n ops)) k ks :=
 ⟨ho,L.size,λt ht=>L.reads ho ht (λ_=>by obtain⟨_,_,h1,_⟩:=xX L.ck;exact h1),λ_ _ _ _ _ hn hK hv hx=>⟨_,.drawn ops pl _ r qf k ks hk,λ_ _=>⟨L.sync ho hw hx hn hK hv,rfl⟩⟩,
  λd g ob hc C4=>⟨_,.drawn ops i o d g ob pl E r qf k ks ho hc C4 hk,λ_ _=>⟨L,rfl⟩⟩⟩
theorem aBc{d:Option Q}{g:Option (Q×Bool)}{ob:OB}(e:lW fe ih f dk rd ds tm (.op (.mk d g ob)::l) k cs h nx=.ok v) :
  (iI g tm=some true/\FV fe ih f dk rd ds tm d ob l (.op (.mk d g ob)::l) k cs h nx=.ok v)\/(iI g tm=some false/\g≠none/\rB d V.undef tm (λBA=>ih f dk rd ds BA (.reg l k) cs h nx)=.ok v):=by
 unfold lW at e;cases g with
 |none=>exact .inl ⟨rfl,e⟩
 |some qw =>
  obtain⟨q,want⟩:=qw;simp only[dZ] at e;simp only[iI]
  split at e
  ·rename_i t ht
   rw[ht]
   split at e
   ·rename_i hb;exact .inl ⟨by simp[hb],e⟩
   ·rename_i hb;exact .inr ⟨by simp[hb],by simp,e⟩
  ·rename_i ht;rw[ht];exact .inr ⟨rfl,by simp,e⟩
  ·cases e
def kd(b:OB):Nat :=
 match b with
 |.p _=>0|.a _=>0|.w _=>0|.call _ _=>1|.dfr _ _=>2|.dfd _ _ _=>3|.rcv=>4|.inv _ _ _=>5
theorem qV(o:Option PB):kd (H7 o)=0:=by cases o<;>rfl
theorem aEL(o:Option AB):kd (KD o)=0:=by cases o<;>rfl
theorem qW(o:Option WB):kd (KC o)=0:=by cases o<;>rfl
theorem sk(h1:∀c,o.op≠.call c)(h2:∀c,o.op≠.defer c):kd (bY P o)=0:=by
 obtain⟨dst,op,ty,pos,AH,A8⟩:=o
 cases op<;>simp only[bY]<;>first
  |rfl
  |exact qV _
  |exact aEL _
  |exact qW _
  |(exact absurd rfl (h1 _))
  |(exact absurd rfl (h2 _))
  |(repeat' split)<;>first|rfl|exact qV _|exact aEL _|exact qW _
theorem xq{x:X}{xs:List X}(hb:bY P o=.call x xs):∃c fo,o.op=.call c/\c.callee=.value fo/\x=aE P fo/\xs=c.args.toList.map (aE P):=by
 by_cases h1:∃c,o.op=.call c
 ·obtain⟨c,hc⟩:=h1
  refine⟨c,?_⟩;simp only[bY,hc] at hb;unfold gZ at hb
  split at hb
  ·rename_i fo hf
   cases hb;exact⟨fo,hc,hf,rfl,rfl⟩
  ·cases hb
  ·exfalso
   have hk:=Ar kd hb
   revert hk
   repeat' split
   all_goals first|(rw[qV];simp[kd];done)|(rw[qW];simp[kd];done)|(simp[kd];done)
 ·exfalso
  by_cases h2:∃c,o.op=.defer c
  ·obtain⟨c,hc⟩:=h2
   simp only[bY,hc] at hb;have hk:=Ar kd hb
   revert hk
   repeat' split
   all_goals simp[kd]
  ·have:=sk (P:=P) (λc hc=>h1 ⟨c,hc⟩) (λc hc=>h2 ⟨c,hc⟩)
   rw[hb] at this;cases this
theorem aCf{ms:List (Nat×Q)}{x:X}{xs:List X}(hb:bY P o=.inv ms x xs):∃c fo name,o.op=.call c/\c.callee=.invoke fo name/\ms=jD P name P.types.size/\x=aE P fo/\xs=c.args.toList.map (aE P):=by
 by_cases h1:∃c,o.op=.call c
 ·obtain⟨c,hc⟩:=h1
  refine⟨c,?_⟩;simp only[bY,hc] at hb;unfold gZ at hb
  split at hb
  ·cases hb
  ·rename_i fo name hf
   cases hb;exact⟨fo,name,hc,hf,rfl,rfl,rfl⟩
  ·exfalso
   have hk:=Ar kd hb
   revert hk
   repeat' split
   all_goals first|(rw[qV];simp[kd];done)|(rw[qW];simp[kd];done)|(simp[kd];done)
 ·exfalso
  by_cases h2:∃c,o.op=.defer c
  ·obtain⟨c,hc⟩:=h2
   simp only[bY,hc] at hb;have hk:=Ar kd hb
   revert hk
   repeat' split
   all_goals simp[kd]
  ·have:=sk (P:=P) (λc hc=>h1 ⟨c,hc⟩) (λc hc=>h2 ⟨c,hc⟩)
   rw[hb] at this;cases this
theorem ud{t:Nat}{k:Q->AA}{v:V}:∀{ms:List (Nat×Q)},rY t ms k=.ok v->∃f,(t,f)∈ms/\k f=.ok v
 |[],e=>by cases e
 |(u,f)::ms,e=>by
  simp only[rY] at e
  split at e
  ·rename_i hb
   have:=Aa hb
   subst this;exact⟨f,by simp,e⟩
  ·obtain⟨g,h1,h2⟩:=ud e
   exact⟨g,by simp[h1],h2⟩
theorem nW{name:String}{t:Nat}{f:Q}:∀{n:Nat},(t,f)∈jD P name n->∃u,wV P name u=some (t,f)
 |0,h=>by simp[jD] at h
 |n+1,h=>by
  simp only[jD] at h
  split at h
  ·rename_i p hp
   rcases Bb.1 h with rfl|h
   ·exact⟨n,hp⟩
   ·exact nW h
  ·exact nW h
theorem yu{name:String}{u t:Nat}{f:Q}(h:wV P name u=some (t,f))(n:Nat)(x:Value):(method (n+1) t x name).run P w=.ok (f.nat,x) w:=by
 unfold wV at h;obtain⟨i,hi,h⟩:=dC h;obtain⟨m,hm,h⟩:=dC h;obtain⟨d,hd,h⟩:=dC h;obtain⟨fp,hf,h⟩:=dC h;obtain⟨fi,fb⟩:=fp
 have D0:(typeInfo t).run P w=.ok i w\/u≠t:=by
  by_cases hut:u=t
  ·subst hut;exact .inl (by simp[typeInfo,hi])
  ·exact .inr hut
 have key:∀(hp:m.path.isEmpty=true),u=t->qn fi=f->(∀wr,(receiverAt t (.val x) fb wr).run P w=.ok x w)->(method (n+1) t x name).run P w=.ok (f.nat,x) w:=by
  intro hp he hq V3;subst he;subst hq;have hpe:m.path=#[]:=by simpa using hp
  rcases D0 with D0|D0
  ·simp only[method,Sem.run_bind,D0,Result.andThen_ok,hm]
   simp[hpe,follow,hf,eP,V3]
  ·exact absurd rfl D0
 cases hp:m.path.isEmpty with
 |false=>rw[hp] at h;cases d<;>cases fb<;>cases h
 |true =>
  rw[hp] at h
  cases d<;>cases fb<;>first
   |(cases h;done)
   |(cases h;exact key hp rfl rfl λwr=>by simp[receiverAt,run_underlying hd,Place.get])
theorem aB4{x:X}{xs:List X}(hb:bY P o=.dfr x xs):∃c fo,o.op=.defer c/\c.callee=.value fo/\x=aE P fo/\xs=c.args.toList.map (aE P):=by
 by_cases h1:∃c,o.op=.defer c
 ·obtain⟨c,hc⟩:=h1
  refine⟨c,?_⟩;simp only[bY,hc] at hb
  split at hb
  ·rename_i fo hf
   cases hb;exact⟨fo,hc,hf,rfl,rfl⟩
  ·exfalso
   have hk:=Ar kd hb
   revert hk
   repeat' split
   all_goals simp[kd]
  ·cases hb
 ·exfalso
  by_cases h2:∃c,o.op=.call c
  ·obtain⟨c,hc⟩:=h2
   simp only[bY,hc] at hb;have hk:=Ar kd hb
   revert hk
   unfold gZ
   repeat' split
   all_goals first|(rw[qV];simp[kd];done)|(rw[qW];simp[kd];done)|(simp[kd];done)
  ·have:=sk (P:=P) (λc hc=>h2 ⟨c,hc⟩) (λc hc=>h1 ⟨c,hc⟩)
   rw[hb] at this;cases this
theorem aB3{s:KK}{x y:X}(hb:bY P o=.dfd s x y):∃c m key t ts el,o.op=.defer c/\c.callee=.builtin .delete/\c.args.toList=[m,key]/\c.argTypes.toList=t::ts/\tZ P t=some (s,el)/\x=aE P m/\y=aE P key:=by
 by_cases h1:∃c,o.op=.defer c
 ·obtain⟨c,hc⟩:=h1
  simp only[bY,hc] at hb
  split at hb
  ·cases hb
  ·rename_i hf
   split at hb
   ·rename_i m key t ts ha ht
    split at hb
    ·rename_i s' el hm
     cases hb;exact⟨c,m,key,t,ts,el,hc,hf,ha,ht,hm,rfl,rfl⟩
    ·cases hb
   ·cases hb
  ·cases hb
 ·exfalso
  by_cases h2:∃c,o.op=.call c
  ·obtain⟨c,hc⟩:=h2
   simp only[bY,hc] at hb;have hk:=Ar kd hb
   revert hk
   unfold gZ
   repeat' split
   all_goals first|(rw[qV];simp[kd];done)|(rw[qW];simp[kd];done)|(simp[kd];done)
  ·have:=sk (P:=P) (λc hc=>h2 ⟨c,hc⟩) (λc hc=>h1 ⟨c,hc⟩)
   rw[hb] at this;cases this
theorem aCu(hb:bY P o=.rcv):∃c,o.op=.call c/\c.callee=.builtin .recover/\c.args.toList=[]:=by
 by_cases h1:∃c,o.op=.call c
 ·obtain⟨c,hc⟩:=h1
  refine⟨c,hc,?_⟩;simp only[bY,hc] at hb;unfold gZ at hb
  split at hb
  ·cases hb
  ·cases hb
  ·rename_i bb hf
   have hk:=Ar kd hb
   split at hb
   all_goals first
    |(rename_i ha;exact⟨hf,ha⟩)
    |(exfalso;clear hb;revert hk;(repeat' split)<;>first|contradiction|(simp_all;done)|(rw[qV];simp[kd];done)|(rw[qW];simp[kd];done)|(simp[kd];done))
 ·exfalso
  by_cases h2:∃c,o.op=.defer c
  ·obtain⟨c,hc⟩:=h2
   simp only[bY,hc] at hb;have hk:=Ar kd hb
   revert hk
   repeat' split
   all_goals simp[kd]
  ·have:=sk (P:=P) (λc hc=>h1 ⟨c,hc⟩) (λc hc=>h2 ⟨c,hc⟩)
   rw[hb] at this;cases this
theorem wj(hB:FB P J f dk none b)(hS:StkR P J h cs frs β)(e:RP dk cs (.ok v)=.ok v){a:Act}{todo:List Item}{BZ:List Frame}:tryRecover (b.atR a todo) (frs++c0::BZ)=none:=by
 have hk:(b.atR a todo).kind=if dk then .deferred else .normal:=hB.kind
 unfold tryRecover;rw[hk];cases dk with
 |false=>rfl
 |true =>
  cases hS with
  |nil=>cases e
  |cons J0 _ h0 _ f' Sr Kx DE CU k' _ Lh IH β0 _ nx0 hf hn hK hs =>
   simp only[Dl,Dk];obtain⟨_,b',DT,tmps',C,_,_,_,hW,hC⟩:=hf;cases hW with
   |rtn ks=>rw[hC.2]
   |_=>cases e
theorem aJ2(D5:xA P fe)(hx:pT P)(G:Good P ih)(C:Ctx P w0 w J h β nx f dk rd ds cs frs b AU)(p:Pt P (nt P f.nat) ops J h β nx tm tmps i o rest l k ks)
  (e:lW fe ih f dk rd ds tm (.op (gR P (nt P f.nat) ops o)::l) k cs h nx=.ok v):Final P w0 (lone (b.atR ⟨tmps,AU⟩ (.inRegion ops (i::rest)::ks)) (frs++c0::cs0) w) c0 cs0 v:=by
 obtain⟨d,g,ob,hc⟩:∃d g ob,gR P (nt P f.nat) ops o=.mk d g ob:=by
  cases h0:gR P (nt P f.nat) ops o with|mk d g ob=>exact⟨d,g,ob,rfl⟩
 rw[hc] at e;have ho:=p.ho
 have Kl:∀{w':World}{J':Rho}{h':T O}{nx':Q}{x:V}{u:Value}{DE:List Df}{DT:List Deferred},HR P w0 J' h' nx' w'->nx.nat<=nx'.nat->Keep nx.nat J h J' h'->VR J' x u->(∀x,o.dst=some x->x<nt P f.nat)->DsR P J' DE DT->(rd≠none->DE=[]) ->
   ih f dk rd DE (wE tm o.dst x) (.reg l k) cs h' nx'=.ok v->Final P w0 (lone (b.atR ⟨pR tmps o.dst u,DT⟩ (.inRegion ops rest::ks)) (frs++c0::cs0) w') c0 cs0 v:=by
  intro w' J' h' nx' x u DE DT H' hn hK hv hd hD LN e';obtain⟨X,hX,hC⟩:=p.go J' h' nx' x u hn hK hv hd;have C':Ctx P w0 w' J' h' β nx' f dk rd DE cs frs b DT:=⟨H',Bj C.le hn,C.B.mono hK.le,hD,LN,C.S.mono (hK.down C.le)⟩
  exact C'.go G hX (hC b DT) e'
 rcases aBc e with⟨hg,e1⟩|⟨hg,Vy,e1⟩
 ·have GZ:ob≠.p .bad:=λe0=>by subst e0;cases e1
  obtain⟨hb,hd,GV,Pf⟩:=fA hc (OQ GZ);have B2:=uU Pf p.size (λj want t h1 h2=>p.rd t (pF h1 h2)) hg;have hT:XR J tm tmps o.op.operands.toList:=λt ht=>p.rd t (aFW ht)
  subst hd;cases ob with
  |p pb =>
   simp only[FV] at e1;obtain⟨x,e2,u,hu,hv⟩:=aFG (ds:=AU) C.H hb.symm hT e1;rw[eX] at e2;refine Final.steps (Steps.one (dI (a:=⟨tmps,AU⟩) ho B2 (y9 hb.symm e1) hu)) ?_;rw[put_eq];exact Kl C.H (Ae _) (Keep.refl _ _ _) hv GV C.D C.rn e2
  |a ab =>
   simp only[FV] at e1;obtain⟨oo,mk,_,e2,hA⟩:=aDj (ds:=AU) C.H hb.symm hT e1;obtain⟨x,N,u,a4,a5⟩:=hA.run;obtain⟨a6,a7⟩:=a5 nx (C.H.fresh nx (Ae _));rw[cM,eX,eD] at e2;obtain⟨H',hK⟩:=C.H.make a6;refine Final.steps (Steps.one (dI (a:=⟨tmps,AU⟩) ho B2 (y8 hb.symm) a4)) ?_;rw[put_eq];exact Kl H' (by rw[Q.nat_succ];omega) hK a7 GV (C.D.mono hK.le) C.rn e2
  |w wb =>
   simp only[FV] at e1;obtain⟨x,h',nx',e2,w',J',u,hu,hv,H',hK,hn⟩:=aNb (ds:=AU) C.H hb.symm hT e1;rw[eX] at e2;rcases hu with hu|⟨hu,rfl⟩
   ·refine Final.steps (Steps.one (dI (a:=⟨tmps,AU⟩) ho B2 (zA hb.symm) hu)) ?_
    rw[put_eq];exact Kl H' hn hK hv GV (C.D.mono hK.le) C.rn e2
   ·refine Final.steps (Steps.one (fR (a:=⟨tmps,AU⟩) ho B2 (zA hb.symm) hu)) ?_
    rw[put_eq];exact Kl H' hn hK hv GV (C.D.mono hK.le) C.rn e2
  |call x xs =>
   obtain⟨c,fo,h1,h2,rfl,rfl⟩:=xq hb.symm;simp only[FV] at e1;have hops:o.op.operands=#[fo]++c.args:=by rw[h1];simp[Op.operands,Call.operands,h2]
   obtain⟨fv,L5,e2⟩:=eF e1;have Hs:=fV (ds:=AU) C.H.glob (hT.sub (λy hy=>by rw[hops];simp at hy;simp[hy])) L5;obtain⟨vs,Jd,e3⟩:=uV e2;have DK:=pJ (ds:=AU) C.H.glob (hT.sub (λy hy=>by rw[hops];simp at hy;simp[hy])) Jd;obtain⟨W,hW,WU⟩:=p.wt _ _ _ hc rfl
   have hS:StkR P J h (.mk f dk rd ds tm (.reg (.op (.mk (o.dst.map qn) g (.call (aE P fo) (c.args.toList.map (aE P))))::l) k)::cs) (b.atR ⟨tmps,AU⟩ (.inRegion ops (i::rest)::ks)::frs) nx.nat :=
    .cons J J h h f dk rd ds tm _ cs _ frs β nx.nat nx ⟨C.le,b,AU,tmps,W,C.B,C.D,C.rn,hW,WU b AU⟩ (Ae _) (Keep.refl _ _ _) C.S
   obtain⟨dd,IC,NN⟩:=lL (c0:=c0) (cs0:=cs0) D5 hx G C.H Hs DK hS e3;have GM:∀c',o.op≠.defer c':=λc' CA=>by rw[h1] at CA;cases CA
   have C1:c.args.map (ev tmps AU)=⟨c.args.toList.map (ev tmps AU)⟩:=by apply Cg;simp
   have hex:∀{r:Result Next},(invoke dd.target dd.args).run P w=r->(execOp (ev tmps AU) o).run P w=r:=λ{r} hr=>by
    simp only[execOp,h1,resolve,h2,C1,Sem.run_bind,IC,Result.andThen_ok,hr]
   rcases NN with⟨gg,all,i1,i2⟩|⟨ll,gg,tt,x,y,i1,i2⟩|⟨x,u,i1,i2,i3⟩
   ·exact Final.steps (Steps.one (kI (a:=⟨tmps,AU⟩) ho B2 GM (hex i1))) i2
   ·exact Final.steps (Steps.one (mN (a:=⟨tmps,AU⟩) ho B2 GM (hex i1))) i2
   ·refine Final.steps (Steps.one (dI (a:=⟨tmps,AU⟩) ho B2 GM (hex i1))) ?_
    rw[put_eq];simp only[qR,eX] at i3;exact Kl C.H (Ae _) (Keep.refl _ _ _) i2 GV C.D C.rn i3
  |inv ms x xs =>
   obtain⟨c,fo,name,h1,h2,rfl,rfl,rfl⟩:=aCf hb.symm;simp only[FV] at e1;have hops:o.op.operands=#[fo]++c.args:=by rw[h1];simp[Op.operands,Call.operands,h2]
   obtain⟨fv,L5,e2⟩:=eF e1;have Hs:=fV (ds:=AU) C.H.glob (hT.sub (λy hy=>by rw[hops];simp at hy;simp[hy])) L5;obtain⟨vs,Jd,e3⟩:=uV e2;have DK:=pJ (ds:=AU) C.H.glob (hT.sub (λy hy=>by rw[hops];simp at hy;simp[hy])) Jd;unfold XV at e3
   split at e3
   ·rename_i t u0
    obtain⟨u',EA,Mj⟩:∃u',ev tmps AU fo=.iface t u'/\VR J u0 u':=by
     generalize ev tmps AU fo=uu at Hs;cases Hs with|ifc _ _ v' FW=>exact⟨v',rfl,FW⟩
    obtain⟨g',Vk,e4⟩:=ud e3;obtain⟨tt,hm2⟩:=nW Vk;obtain⟨W,hW,WU⟩:=p.wt _ _ _ hc rfl
    have hS:StkR P J h (.mk f dk rd ds tm (.reg (.op (.mk (o.dst.map qn) g (.inv (jD P name P.types.size) (aE P fo) (c.args.toList.map (aE P))))::l) k)::cs) (b.atR ⟨tmps,AU⟩ (.inRegion ops (i::rest)::ks)::frs) nx.nat :=
     .cons J J h h f dk rd ds tm _ cs _ frs β nx.nat nx ⟨C.le,b,AU,tmps,W,C.B,C.D,C.rn,hW,WU b AU⟩ (Ae _) (Keep.refl _ _ _) C.S
    have GC:VR J (.fn g' [] []) (.func (.func g'.nat) #[] #[]):=.fn g' [] [] [] [] rfl rfl (λi c v h=>by simp at h) (λi c v h=>by simp at h);obtain⟨dd,IC,NN⟩:=lL (c0:=c0) (cs0:=cs0) D5 hx G C.H GC (VRs.cons Mj DK) hS e4;have GM:∀c',o.op≠.defer c':=λc' CA=>by rw[h1] at CA;cases CA
    have C1:c.args.map (ev tmps AU)=⟨c.args.toList.map (ev tmps AU)⟩:=by apply Cg;simp
    have MO:dd={ target:=.fn (.func g'.nat) #[],args:=⟨u'::c.args.toList.map (ev tmps AU)⟩ }:=by
     simp[Deferred.ofValue] at IC;exact IC.symm
    subst MO
    have hex:∀{r:Result Next},(invoke (.fn (.func g'.nat) #[]) ⟨u'::c.args.toList.map (ev tmps AU)⟩).run P w=r->(execOp (ev tmps AU) o).run P w=r:=λ{r} hr=>by
     have CR:0<Made.depth:=by decide
     obtain⟨nn,KO⟩:∃nn,P.types.size+Made.depth=nn+1:=⟨P.types.size+Made.depth-1,by omega⟩
     have MI:=yu (w:=w) hm2 nn u';rw[<-KO] at MI;have hprog:(program).run P w=.ok P w:=rfl;simp only[invoke] at hr;simp only[execOp,h1,resolve,h2,C1,EA,Sem.run_bind,Sem.run_pure,Result.andThen_ok,invoke,callMethod];have GW:List.take c.args.size (List.map (ev tmps AU) c.args.toList)=List.map (ev tmps AU) c.args.toList:=Ci (by simp);simp[hprog,MI,GW];simpa using hr
    rcases NN with⟨gg,all,i1,i2⟩|⟨ll,gg,tt,x,y,i1,i2⟩|⟨x,u,i1,i2,i3⟩
    ·exact Final.steps (Steps.one (kI (a:=⟨tmps,AU⟩) ho B2 GM (hex i1))) i2
    ·exact Final.steps (Steps.one (mN (a:=⟨tmps,AU⟩) ho B2 GM (hex i1))) i2
    ·refine Final.steps (Steps.one (dI (a:=⟨tmps,AU⟩) ho B2 GM (hex i1))) ?_
     rw[put_eq];simp only[qR,eX] at i3;exact Kl C.H (Ae _) (Keep.refl _ _ _) i2 GV C.D C.rn i3
   ·cases e3
  |dfr x xs =>
   obtain⟨c,fo,h1,h2,rfl,rfl⟩:=aB4 hb.symm;simp only[FV] at e1
   split at e1
   ·cases e1
   have hops:o.op.operands=#[fo]++c.args:=by rw[h1];simp[Op.operands,Call.operands,h2]
   obtain⟨fv,L5,e2⟩:=eF e1;have Hs:=fV (ds:=AU) C.H.glob (hT.sub (λy hy=>by rw[hops];simp at hy;simp[hy])) L5;obtain⟨vs,Jd,e3⟩:=uV e2;have DK:=pJ (ds:=AU) C.H.glob (hT.sub (λy hy=>by rw[hops];simp at hy;simp[hy])) Jd
   split at e3
   ·rename_i g' fs caps
    obtain⟨ua,ub,hfu,h3,h4⟩:=Hs.inv_fn;rw[fL,fL,eX] at e3;have C1:c.args.map (ev tmps AU)=⟨c.args.toList.map (ev tmps AU)⟩:=by apply Cg;simp
    have C6:b.roundOf=none:=by
     have:=C.B.ro
     cases E7:b.roundOf with
     |none=>rfl
     |some bl=>rw[E7] at this;exact this.elim
    have hex:(execOp (ev tmps AU) o).run P w=.ok (.defer { target:=.fn (.func g'.nat) ⟨ub⟩,args:=⟨ua⟩++⟨c.args.toList.map (ev tmps AU)⟩ }) w:=by
     simp[execOp,h1,resolve,h2,C1,hfu,Deferred.ofValue]
    refine Final.steps (Steps.one (step_defer (a:=⟨tmps,AU⟩) ho B2 C6 hex)) ?_;rw[put_eq];have CN:VRs J (fs++(vs++caps)) ((ua++c.args.toList.map (ev tmps AU))++ub):=by rw[As];exact h3.append (DK.append h4)
    have hD:=DsR.call g'.nat _ _ _ ds AU CN C.D;rw[qI] at hD;have harr2:((⟨ua⟩:Array Value)++⟨c.args.toList.map (ev tmps AU)⟩)=⟨ua++c.args.toList.map (ev tmps AU)⟩:=by apply Cg;simp
    rw[harr2];exact Kl C.H (Ae _) (Keep.refl _ _ _) VR.undef GV hD (λh0=>absurd rfl h0) e3
   ·cases e3
  |dfd s x y =>
   obtain⟨c,m,key,t,ts,el,h1,h2,h3,h4,h5,rfl,rfl⟩:=aB3 hb.symm;simp only[FV] at e1
   split at e1
   ·cases e1
   have hops:o.op.operands=c.args:=by rw[h1];simp[Op.operands,Call.operands,h2]
   have BQ:c.args=#[m,key]:=by apply Cg;simp[h3]
   obtain⟨mv,Vk,e2⟩:=eF e1;have hmv:=fV (ds:=AU) C.H.glob (hT.sub (λy hy=>by rw[hops,BQ];simp at hy;simp[hy])) Vk;obtain⟨kv,hk1,e3⟩:=eF e2;have HJ:=fV (ds:=AU) C.H.glob (hT.sub (λy hy=>by rw[hops,BQ];simp at hy;simp[hy])) hk1;rw[eX] at e3
   have C6:b.roundOf=none:=by
    have:=C.B.ro
    cases E7:b.roundOf with
    |none=>rfl
    |some bl=>rw[E7] at this;exact this.elim
   have hex:(execOp (ev tmps AU) o).run P w=.ok (.defer { target:=.builtin .delete c.argTypes o.type (c.args.map fun|.const _=>true|_=>false),args:=#[ev tmps AU m,ev tmps AU key] }) w:=by
    simp[execOp,h1,resolve,h2,BQ];exact⟨by cases m<;>rfl,by cases key<;>rfl⟩
   refine Final.steps (Steps.one (step_defer (a:=⟨tmps,AU⟩) ho B2 C6 hex)) ?_;rw[put_eq];have hD:=DsR.del s mv kv c.argTypes o.type (c.args.map fun|.const _=>true|_=>false) t el _ _ ds AU (by rw[<-Bq,h4];rfl) h5 hmv HJ C.D;exact Kl C.H (Ae _) (Keep.refl _ _ _) VR.undef GV hD (λh0=>absurd rfl h0) e3
  |rcv =>
   obtain⟨c,h1,h2,h3⟩:=aCu hb.symm;simp only[FV] at e1
   split at e1
   ·cases e1
   have BQ:c.args=#[]:=by apply Cg;simp[h3]
   have C6:b.roundOf=none:=by
    have:=C.B.ro
    cases E7:b.roundOf with
    |none=>rfl
    |some bl=>rw[E7] at this;exact this.elim
   have GM:∀c',o.op≠.defer c':=λc' CA=>by rw[h1] at CA;cases CA
   have hex:(execOp (ev tmps AU) o).run P w=.ok .recover w:=by
    simp[execOp,h1,resolve,h2,BQ,invoke,builtin]
   obtain⟨r1,r2⟩:RP dk cs (.ok v)=.ok v/\rB (o.dst.map qn) .nili tm (λBA=>ih f dk none ds BA (.reg l k) cs h nx)=.ok v:=by
    unfold RP at e1 ⊢
    split at e1
    ·exact⟨rfl,e1⟩
    ·split at e1
     ·exact⟨rfl,e1⟩
     ·cases e1
   refine Final.steps (Steps.one (od (a:=⟨tmps,AU⟩) ho B2 GM C6 hex (wj C.B C.S r1))) ?_;rw[put_eq];rw[eX] at r2;exact Kl C.H (Ae _) (Keep.refl _ _ _) VR.nili GV C.D C.rn r2
 ·obtain⟨hb,hd,GV,Pf⟩:=fA hc (λe0=>by unfold fY at e0;cases e0;exact Vy rfl)
  have B2:=uU Pf p.size (λj want t h1 h2=>p.rd t (pF h1 h2)) hg;rw[hd,eX] at e1;refine Final.steps (Steps.one (stepR_op_skip (a:=⟨tmps,AU⟩) (by rw[ho];simp[B2]))) ?_;rw[ho,Ai,put_eq];exact Kl C.H (Ae _) (Keep.refl _ _ _) VR.undef GV C.D C.rn e1
end
section
variable {P:Program}{w0 w:World}{J J':Rho}{h h':T O}{nx nx':Q}{tm:T V}{tmps:Array Value}{r v:V}{ops:Array Oper}{n β:Nat}{f:Q}{dk:Bool}{rd:Option Q}{ds:List Df}{k:K}{cs:List Fr}{fr b:Frame}{frs:List Frame}{c0:Frame}{cs0:List Frame}{ih:E9}{fe:Q->CF}{i:Nat}{o:Oper}{rest:List Nat}{l:List PS}{ks:List Item}{AU:List Deferred}
theorem xV{sz:Nat}:∀{ps:List (Nat×X)}{t:T V}{k:T V->AA},vY tm sz ps t k=.ok r->∃t',(∀k',vY tm sz ps t k'=k' t')/\k t'=.ok r
 |[],t,k,e=>⟨t,λ_=>rfl,e⟩
 |(i,x)::ps,t,k,e=>by
  simp only[vY] at e;obtain⟨c,h1,e⟩:=eF e;obtain⟨l,hl,e⟩:=tC e;rw[cI] at e;obtain⟨hg,e⟩:=bW e;rw[dT] at e;obtain⟨t',h2,h3⟩:=xV e;refine⟨t',λk'=>?_,h3⟩;simp only[vY];rw[fW h1,ib hl,cI,hg];simp only[gd,dT];exact h2 k'
theorem pw{b:AB}{k:O->(Q->V)->AA}(e:aK b tm k=.ok r):∃ob mk,AE b tm ob mk/\k ob mk=.ok r:=by
 cases b with
 |al ty n t=>exact⟨_,_,λ_=>rfl,e⟩
 |bx ty n x =>
  simp only[aK] at e;obtain⟨c,h1,e⟩:=eF e;obtain⟨l,hl,e⟩:=tC e;rw[cI] at e;obtain⟨hg,e⟩:=bW e;rw[dT] at e;exact⟨_,_,λk'=>by simp only[aK,fW h1,ib hl,cI,hg,gd,dT],e⟩
 |bsl ty sz len t ps =>
  simp only[aK] at e;obtain⟨t',h1,h2⟩:=xV e;rw[aH] at h2;exact⟨_,_,λk'=>by simp only[aK];rw[h1,aH],h2⟩
 |mkm=>exact⟨_,_,λ_=>rfl,e⟩
 |mks ty sz z len cap =>
  simp only[aK] at e;obtain⟨a,ha,e⟩:=eF e;obtain⟨kl,ln,hl,e⟩:=jJ e;obtain⟨b,hb,e⟩:=eF e;obtain⟨kc,cn,hc,e⟩:=jJ e;obtain⟨hg,e⟩:=bW e;rw[pL,aH] at e;exact⟨_,_,λk'=>by simp only[aK,fW ha,fW hb,hl,hc,H3,hg,gd,pL,aH],e⟩
def Le(h h':T O):Prop:=∀q,h.ob q=.dead\/h'.ob q=h.ob q
theorem Le.of(hl:Le h h'){q:Q}(hq:h.ob q≠.dead):h'.ob q=h.ob q:=(hl q).resolve_left hq
theorem ns{k:Nat->T V->AA}(hl:Le h h'){q:Q}(e:br (h.ob q) k=.ok r):h'.ob q=h.ob q:=hl.of λhd=>by rw[hd] at e;cases e
theorem aAN{k:List (V×V)->AA}(hl:Le h h'){q:Q}(e:rW (h.ob q) k=.ok r):h'.ob q=h.ob q:=hl.of λhd=>by rw[hd] at e;cases e
theorem aEl(hl:Le h h'){o o':Q}{a a':Nat}{k k':Bool->AA}(hk:∀b,k b=.ok r->k' b=.ok r)(e:Ib h o a o' a' k=.ok r):Ib h' o a o' a' k'=.ok r:=by
 have lone:∀q,yZ (h.ob q)=true->h'.ob q=h.ob q:=λq hq=>hl.of λhd=>by rw[hd] at hq;cases hq
 unfold Ib at e ⊢;cases ho:o.beq o' with
 |true =>
  rw[ho] at e;simp only at e ⊢;cases ha:Nat.beq a a' with
  |true=>rw[ha] at e;exact hk _ e
  |false =>
   rw[ha] at e;simp only[bV] at e ⊢;obtain⟨h1,h2⟩:=bW e;rw[lone _ h1,h1];exact hk _ h2
 |false =>
  rw[ho] at e;simp only[bV] at e ⊢;obtain⟨h1,h2⟩:=bW e;have h3:=h1;rw[Ac] at h3;rw[lone _ h3.1,lone _ h3.2,h1];exact hk _ h2
theorem aB7{f:FK}{x y:V}{k k':Bool->AA}(hk:∀b,k b=.ok r->k' b=.ok r)(e:hU f x y k=.ok r):hU f x y k'=.ok r:=by
 unfold hU at e ⊢
 split at e
 ·split at e
  ·split at e
   ·exact hk _ e
   ·cases e
  ·cases e
 ·split at e
  ·split at e
   ·exact hk _ e
   ·cases e
  ·cases e
 ·split at e
  ·split at e
   ·obtain⟨h1,h2⟩:=bW e
    simp only[h1];exact hk _ h2
   ·cases e
  ·cases e
theorem yB:∀{fs:List FK}{l m:List V}{k k':Bool->AA},(∀b,k b=.ok r->k' b=.ok r)->gK fs l m k=.ok r->gK fs l m k'=.ok r
 |[],[],[],k,k',hk,e=>hk _ e
 |f::fs,x::xs,y::ys,k,k',hk,e=>by
  simp only[gK] at e ⊢;refine aB7 (λb hb=>?_) e;cases b with
  |true=>exact yB hk hb
  |false=>exact hk _ hb
 |[],_::_,_,_,_,_,e=>by cases e
 |[],[],_::_,_,_,_,e=>by cases e
 |_::_,[],_,_,_,_,e=>by cases e
 |_::_,_::_,[],_,_,_,e=>by cases e
theorem aEN(hl:Le h h'){s:KK}{x y:V}{k k':Bool->AA}(hk:∀b,k b=.ok r->k' b=.ok r)(e:eC s h x y k=.ok r):eC s h' x y k'=.ok r:=by
 unfold eC at e ⊢
 split at e
 ·split at e
  ·split at e
   ·exact hk _ e
   ·cases e
  ·cases e
 ·split at e
  ·split at e
   ·obtain⟨h1,h2⟩:=bW e
    simp only[h1];exact hk _ h2
   ·cases e
  ·cases e
 ·split at e
  ·split at e
   ·exact yB hk e
   ·cases e
  ·cases e
 ·split at e
  ·split at e
   ·exact aEl hl hk e
   ·cases e
  ·cases e
theorem yF(hl:Le h h'){s:KK}{x:V}:∀{es:List (V×V)}{k:V->AA}{kn:AA},fZ s h x es k kn=.ok r->fZ s h' x es k kn=.ok r
 |[],_,_,e=>e
 |(y,v)::es,k,kn,e=>by
  simp only[fZ] at e ⊢;refine aEN hl (λb hb=>?_) e;cases b with
  |true=>exact hb
  |false=>exact yF hl hb
theorem aLf(hl:Le h h'){m:EqM}{a b:V}{k:Bool->AA}(e:GR m h a b k=.ok r):GR m h' a b k=.ok r:=by
 cases m<;>simp only[GR] at e ⊢<;>first|exact e|skip
 split at e
 ·exact e
 ·split at e
  ·exact e
  ·exact aEl hl (λ_ hb=>hb) e
  ·cases e
 ·cases e
theorem yh{s:KK}{x:V}{k:AA}(e:hY s x k=.ok r):k=.ok r/\∀k',hY s x k'=k':=by
 unfold hY at e ⊢
 split at e
 ·split at e
  ·rw[cI,cI] at e
   obtain⟨h1,h2⟩:=bW e;refine⟨h2,λk'=>?_⟩;simp only[cI,h1,gd]
  ·cases e
 ·exact⟨e,λ_=>rfl⟩
theorem aOW(hl:Le h h'){pb:PB}{k:V->AA}(e:pK pb tm h k=.ok r):pK pb tm h' k=.ok r:=by
  cases pb
  case eq neg m x y =>
   simp only[pK] at e ⊢;obtain⟨a,ha,e⟩:=eF e;obtain⟨b,hb,e⟩:=eF e;rw[fW ha,fW hb];exact aLf hl e
  case ctu x =>
   simp only[pK] at e ⊢;obtain⟨a,ha,e⟩:=eF e;rw[fW ha]
   split at e
   ·exact e
   ·rw[bV] at e ⊢
    rw[ns hl e];exact e
   ·cases e
  case cfu ty n x =>
   simp only[pK] at e ⊢;obtain⟨a,ha,e⟩:=eF e;rw[fW ha]
   split at e
   ·exact e
   ·rename_i o off
    rw[bV] at e ⊢;rw[hl.of (q:=o) λhd=>by rw[hd] at e;cases e];exact e
   ·cases e
  case ld1 x =>
   simp only[pK] at e ⊢;obtain⟨a,ha,e⟩:=eF e;rw[fW ha];obtain⟨o,off,rfl,e⟩:=l7 e;simp only[II] at e ⊢;unfold J8 at e ⊢;rw[bV] at e ⊢;rw[ns hl e];exact e
  case ldn n x =>
   simp only[pK] at e ⊢;obtain⟨a,ha,e⟩:=eF e;rw[fW ha];obtain⟨o,off,rfl,e⟩:=l7 e;simp only[II] at e ⊢;unfold nP at e ⊢;rw[bV] at e ⊢;rw[ns hl e];exact e
  case lk s ok z m key =>
   simp only[pK] at e ⊢;obtain⟨a,ha,e⟩:=eF e;obtain⟨b,hb,e⟩:=eF e;rw[fW ha,fW hb];obtain⟨e,hc⟩:=yh e;rw[hc]
   split at e
   ·exact e
   ·rw[bV] at e ⊢
    rw[aAN hl e];obtain⟨es,B3,e⟩:=rX e;have hm:∀kk:List (V×V)->AA,rW (h.ob _) kk=kk es:=λkk=>by rcases B3 with B3|B3<;>rw[B3]<;>rfl
    rw[hm];cases ok with
    |true=>exact yF hl e
    |false=>exact yF hl e
   ·cases e
  case lenM x =>
   simp only[pK] at e ⊢;obtain⟨a,ha,e⟩:=eF e;rw[fW ha]
   split at e
   ·exact e
   ·rw[bV] at e ⊢
    rw[aAN hl e];exact e
   ·cases e
  all_goals exact(aA3 (by rfl) h h').symm.trans e
theorem Le.made{ob:O}(hd:h.ob nx=.dead):Le h (h.put .dead ob nx):=λq=>by
 rw[cB];split
 ·subst_vars;exact .inl hd
 ·exact .inr rfl
end
section
variable {P:Program}{w0 w w':World}{J J':Rho}{h h':T O}{nx nx':Q}{tm:T V}{tmps:Array Value}{r v:V}{ops:Array Oper}{n β:Nat}{f:Q}{dk:Bool}{rd:Option Q}{ds:List Df}{k:K}{cs:List Fr}{fr b:Frame}{frs:List Frame}{c0:Frame}{cs0:List Frame}{ih:E9}{fe:Q->CF}{i:Nat}{o:Oper}{rest:List Nat}{l:List PS}{ks:List Item}{AU:List Deferred}
theorem Ctx.keep(C:Ctx P w0 w J h β nx f dk rd ds cs frs b AU)(H':HR P w0 J' h' nx' w')(hn:nx.nat<=nx'.nat)(K:Keep β J h J' h'):Ctx P w0 w' J' h' β nx' f dk rd ds cs frs b AU :=
 ⟨H',Bj C.le hn,C.B.mono K.le,C.D.mono K.le,C.rn,C.S.mono K⟩
theorem ze(D5:xA P fe)(hx:pT P)(G:Good P ih)(C:Ctx P w0 w J h β nx f dk rd ds cs frs b AU)(hi:i<=ops.size)(hk:KS P (nt P f.nat) k ks)(hT:TR J (nt P f.nat) tm tmps)
  (e:lW fe ih f dk rd ds tm ((ops.toList.drop i).map λo=>.op (gR P (nt P f.nat) ops o)) k cs h nx=.ok v):Final P w0 (lone (b.atR ⟨tmps,AU⟩ (.inRegion ops (List.range' i (ops.size-i))::ks)) (frs++c0::cs0) w) c0 cs0 v:=by
 by_cases AR:i<ops.size
 ·have ho:ops[i]?=some ops[i]:=by simp[AR]
  rw[aEd ho,Aw] at e
  have hr:List.range' i (ops.size-i)=i::List.range' (i+1) (ops.size-(i+1)):=by
   obtain⟨m,hm⟩:∃m,ops.size-i=m+1:=⟨ops.size-i-1,by omega⟩
   rw[hm,Gu,show ops.size-(i+1)=m by omega]
  rw[hr];exact aJ2 D5 hx G C (Pt.sync hT ho hk) e
 ·have hr:ops.size-i=0:=by omega
  rw[hr,List.range'_zero];have hd:ops.toList.drop i=[]:=Dn (by simp;omega);rw[hd] at e;exact Final.steps (Steps.one stepR_region_end) (C.plain G hk hT e)
theorem aFZ{g:Option (Q×Bool)}{pb:PB}{q:Q}(e:lW fe ih f dk rd ds tm (.chk g pb q::l) k cs h nx=.ok v):ih f dk rd ds tm (.reg l k) cs h nx=.ok v/\(iI g tm=some true->pK pb tm h .ok=.ok (tm.get V.undef q)):=by
 have key:(pK pb tm h λv=>gV q tm λu=>gd (MW v u) 93 (ih f dk rd ds tm (.reg l k) cs h nx))=.ok v->ih f dk rd ds tm (.reg l k) cs h nx=.ok v/\pK pb tm h .ok=.ok (tm.get V.undef q):=λe=>by
  obtain⟨x,h1,h2⟩:=sB e;rw[dZ] at h2;obtain⟨h3,h4⟩:=bW h2;rw[<-aLg h3];exact⟨h4,h1⟩
 unfold lW at e;cases g with
 |none=>exact⟨(key e).1,λ_=>(key e).2⟩
 |some qw =>
  obtain⟨q',want⟩:=qw;simp only[dZ] at e;simp only[iI]
  split at e
  ·rename_i t ht
   rw[ht]
   split at e
   ·have:=key (by rw[<-e];simp only[dZ]);exact⟨this.1,λ_=>this.2⟩
   ·rename_i hb;exact⟨e,λh=>by simp[hb] at h⟩
  ·rename_i ht;rw[ht];exact⟨e,λh=>by simp at h⟩
  ·cases e
theorem zP(e:lW fe ih f dk rd ds tm (.op fY::l) k cs h nx=.ok v):False:=by cases e
theorem ve{pl:List Pl}{E:Nat}{r:List Nat}{qf:Nat->Option Q}(D5:xA P fe)(hx:pT P)(G:Good P ih)(C:Ctx P w0 w J h β nx f dk rd ds cs frs b AU)(hk:KS P (nt P f.nat) k ks)(L:LZ P (nt P f.nat) ops J h β nx tm tmps pl E r qf)
  (e:lW fe ih f dk rd ds tm (pl.map (zd P (nt P f.nat) ops)) k cs h nx=.ok v):Final P w0 (lone (b.atR ⟨tmps,AU⟩ (.inRegion ops r::ks)) (frs++c0::cs0) w) c0 cs0 v:=by
 cases pl with
 |nil =>
  have CN:=L.atEnd;have L0:=L;rw[<-Bv r] at L0;obtain⟨w',J',tmps',s,H',K,L'⟩:=LZ.catchAll (ds:=AU) b ks (frs++c0::cs0) L0 CN C.H;rw[Bv] at s;refine Final.steps (s.trans (Steps.one stepR_region_end)) ?_;exact(C.keep H' (Ae _) K).plain G hk L'.done e
 |cons p pl =>
 rw[Aw] at e;cases p with
 |chk i =>
  simp only[zd] at e
  split at e
  ·rename_i o ho
   split at e
   ·rename_i q g pb hc
    obtain⟨e1,e2⟩:=aFZ e
    have L':=L.chk (λo' d g' pb' DL CA hp=>by
     rw[ho] at DL;cases DL;rw[hc] at CA;simp only[CO.mk.injEq,OB.p.injEq] at CA;obtain⟨rfl,rfl,rfl⟩:=CA;by_cases hb:CO.mk (some q) g (.p pb)=fY
     ·cases hb
     obtain⟨_,hd,_,_⟩:=fA hc hb;cases GF:o.dst with
     |none=>rw[GF] at hd;cases hd
     |some x =>
      rw[GF] at hd;cases hd;exact⟨x,rfl,e2 hp⟩)
    exact C.go G (.drawn ops pl E r qf k ks hk) ⟨L',rfl⟩ e1
   ·exact(zP e).elim
  ·exact(zP e).elim
 |run i =>
  obtain⟨fI,hfI,_⟩:=xX L.ck;have BG:i<ops.size:=by rw[<-L.sc.len];exact(Ab.1 hfI).1
  obtain⟨o,ho⟩:∃o,ops[i]?=some o:=⟨ops[i],by simp[BG]⟩
  simp only[zd,ho] at e;cases hw:Iz P o with
  |true =>
   obtain⟨r1,r2,rfl,PU⟩:=L.ahead ho hw;obtain⟨w',J',tmps',s,H',K,L'⟩:=LZ.catchAll (ds:=AU) b ks (frs++c0::cs0) L PU C.H;exact Final.steps s (aJ2 D5 hx G (C.keep H' (Ae _) K) (Pt.drawn L' ho hw hk) e)
  |false =>
   have IA:LC (bY P o)=false:=by
    unfold Iz at hw;rw[Dv] at hw;exact hw.1
   obtain⟨d,g,ob,hc⟩:∃d g ob,gR P (nt P f.nat) ops o=.mk d g ob:=by
    cases h0:gR P (nt P f.nat) ops o with|mk d g ob=>exact⟨d,g,ob,rfl⟩
   rw[hc] at e;rcases aBc e with⟨hg,e1⟩|⟨hg,Vy,e1⟩
   ·have GZ:ob≠.p .bad:=λe0=>by subst e0;cases e1
    obtain⟨hb,hd,GV,Pf⟩:=fA hc (OQ GZ);rw[<-hb] at IA;cases ob with
    |p pb =>
     simp only[FV] at e1;obtain⟨x,h1,h2⟩:=sB e1;rw[hd,eX] at h2
     have L':=L.eager (nx':=nx) (h':=h) (v:=x) (qf':=λj=>if j=i then none else qf j) ho hw (Ae _) (λ_ _=>rfl) (.inl rfl) (λj hj=>by simp[hj]) (λq hq=>by simp at hq)
      ⟨d,g,_,hc,OQ GZ,.inr ⟨hg,.inl ⟨pb,rfl,h1⟩⟩⟩ (λ_ _ _ _ _ _ he _=>he)
     exact C.go G (.drawn ops pl _ r _ k ks hk) ⟨L',rfl⟩ h2
    |a ab =>
     simp only[FV] at e1;obtain⟨oo,mk,hA,h2⟩:=pw e1;rw[cM,hd,eX,eD] at h2;have D4:=C.H.fresh nx (Ae _);have LW:nx.nat<=nx.succ.nat:=by rw[Q.nat_succ];omega
     have AR:nx.nat < nx.succ.nat:=by rw[Q.nat_succ];omega
     have L':=L.eager (nx':=nx.succ) (h':=h.put .dead oo nx) (v:=mk nx) (qf':=λj=>if j=i then some nx else qf j) ho hw LW (λq hq=>by rw[cB,Ax (λe=>by subst e;omega)])
      (.inr λpb PY=>by rw[<-hb] at PY;cases PY) (λj hj=>by simp[hj]) (λq hq=>by
       simp at hq;subst hq;exact⟨AR,λj hj DZ hq=>by have:=L.ql j hj DZ _ hq;omega⟩)
      ⟨d,g,_,hc,OQ GZ,.inr ⟨hg,.inr ⟨ab,oo,mk,nx,rfl,hA,by simp,D4,by rw[cB,Bo rfl],C.le,AR,rfl⟩⟩⟩ (λ_ _ _ _ _ _ he _=>aOW (Le.made (C.H.dead nx (Ae _))) he)
     have C':=C.keep (C.H.pend D4 oo LW AR) LW ⟨Rho.le_refl _,λq hq hn=>⟨hn,by rw[cB,Ax (λe=>by subst e;have:=C.le;omega)]⟩⟩;exact C'.go G (.drawn ops pl _ r _ k ks hk) ⟨L',rfl⟩ h2
    |w wb=>cases IA
    |call x xs=>cases IA
    |inv ms x xs=>cases IA
    |dfr x xs=>cases IA
    |dfd s x y=>cases IA
    |rcv=>cases IA
   ·have GZ:CO.mk d g ob≠fY:=λe0=>by unfold fY at e0;cases e0;exact Vy rfl
    obtain⟨hb,hd,GV,Pf⟩:=fA hc GZ;rw[hd,eX] at e1
    have L':=L.eager (nx':=nx) (h':=h) (v:=V.undef) (qf':=λj=>if j=i then none else qf j) ho hw (Ae _) (λ_ _=>rfl) (.inl rfl) (λj hj=>by simp[hj]) (λq hq=>by simp at hq)
     ⟨d,g,_,hc,GZ,.inl ⟨hg,rfl⟩⟩ (λ_ _ _ _ _ _ he _=>he)
    exact C.go G (.drawn ops pl _ r _ k ks hk) ⟨L',rfl⟩ e1
end
end Go.CM
end
