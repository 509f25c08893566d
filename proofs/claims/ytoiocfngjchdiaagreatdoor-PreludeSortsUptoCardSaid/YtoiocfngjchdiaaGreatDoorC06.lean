import Derived.Test.YtoiocfngjchdiaaGreatDoorC05
set_option linter.all false
noncomputable section
namespace Go.CM
section
variable {P:Program}{w0:cL}{w:World}{J J':ak}{h h':T O}{nx nx':Q}{tm:T V}{tmps:Array Value}{v:V}{ops:Array Oper}{n β:Nat}{f:Q}{dk:Bool}{rd:Option Q}{ds:List Df}{k:K}{cs:List Fr}{fr b:Frame}{frs:List Frame}{c0:Frame}{cs0:List Frame}{ih:FQ}
theorem TR.put{x:V}{u:Value}{d:Option Nat}(hT:TR J n tm tmps)(hd:∀y,d=some y->y<n)(hv:VR J x u):TR J n (uJ tm d x) (oK tmps d u):=by
 refine⟨by rw[sK];exact hT.size,λt=>?_⟩;rw[gE,xY (λy hy=>Bt (hd y hy) hT.size)];split
 ·exact hv
 ·exact hT.rel t
theorem a2M{a:Act}{i:Nat}{o:Oper}{rest:List Nat}{ks:List Item}{u:Value}{tmps:Array Value}{AV:List Deferred}(ho:ops[i]?=some o):(b.atR ⟨tmps,AV⟩ (.inRegion ops (i::rest)::ks)).finish u=b.atR ⟨oK tmps o.dst u,AV⟩ (.inRegion ops rest::ks):=by
 rw[Frame.finish_atR,ho,<-put_eq];rfl
theorem y8{ob:OB}(hw:LD ob=true):ob≠.p .bad:=λe=>by subst e;cases hw
theorem aCX{i:Nat}{o:Oper}(ho:ops[i]?=some o):ops.toList.drop i=o::ops.toList.drop (i+1):=by
 have hi:i<ops.toList.length:=by simpa using(An.1 ho).1
 rw[Dy hi];congr 1
 have:=(An.1 ho).2
 simpa using this
theorem uQ(G:Good P w0 ih)(H:HR P w0 J' h' nx' w){J0:ak}{h0:T O}{mq:Q}{x:V}{u:Value}(W:WR P J0 h0 β mq f dk rd ds tm k fr)(hn:mq.nat<=nx'.nat)(hK:ec mq.nat J0 h0 J' h')(hS:lh P J' h' cs frs β)(hv:VR J' x u)
  (e:mQ ih (.mk f dk rd ds tm k) cs x h' nx'=.ok v):cb P w0 (lone (fr.finish u) (frs++c0::cs0) w) c0 cs0 v:=by
 obtain⟨hle,b,AV,tmps,C,hB,hD,JY,hW,hC⟩:=W;have ES:β<=nx'.nat:=Bi hle hn;have X:Ctx P w0 w J' h' β nx' f dk rd ds cs frs b AV:=⟨H,ES,hB.mono hK.le,hD.mono hK.le,JY,hS⟩
 cases hW with
 |sync ops i o d g ob k ks ho hc hw hk =>
  obtain⟨hT,rfl⟩:=hC;obtain⟨_,hd,hx,_⟩:=eO hc (Nx (y8 hw));simp only[mQ] at e;rw[hd,eU] at e;rw[a2M (a:=⟨tmps,AV⟩) ho];have hi:=(An.1 ho).1;exact X.go G (.sync ops (i+1) k ks hi hk) ⟨(hT.mono hK.le).put hx hv,rfl⟩ e
 |drawn ops i o d g ob pl E r qf k ks ho hc hw hk =>
  obtain⟨hL,rfl⟩:=hC;obtain⟨hb,hd,hx,_⟩:=eO hc (Nx (y8 hw));simp only[mQ] at e;rw[hd,eU] at e;rw[a2M (a:=⟨tmps,AV⟩) ho];exact X.go G (.drawn ops pl (E ||| 2^i) r qf k ks hk) ⟨hL.sync ho (by unfold JS;rw[<-hb,hw];rfl) hx hn hK hv,rfl⟩ e
 |mn l bl N k ks hl hk =>
  obtain⟨hT,rfl⟩:=hC;simp only[mQ] at e;exact X.go G (.oZ l bl N k ks (hK.le _ _ hl) hk) ⟨hT.mono hK.le,rfl⟩ e
 |iN ks=>simp only[mQ] at e;cases e
theorem dp{l:Q}{AV:List Deferred}(G:Good P w0 ih)(C:Ctx P w0 w J h β nx f dk rd ds cs frs b AV)(fc:rd=some l){j:Jump}{jc:Option Code}(hj:JR j jc){bb:Bool}(MH:bb=jc.isNone){a:Act}{todo:List Item}
  (BW:∀{bl:Nat}{u:Value}{w':World}{c:Frame}{cs:List Frame},b.roundOf=some bl->b.kind=.normal->(Instr.endRound bl jc).run P w=.ok u w'->step P (lone (b.atR a todo) (c::cs) w)=.next (lone (c.finish u) cs w'))
  (e:jv ih l j bb cs h nx=.ok v):cb P w0 (lone (b.atR a todo) (frs++c0::cs0) w) c0 cs0 v:=by
 refine aGs C fc hj MH BW (λ{c BX MM I8 w' h' u x} h1 h2 H' hK hv e'=>?_) e;subst h1;subst h2;have hS:=C.S;cases hS with
 |cons J0 _ hh0 _ f' Nm Jk DQ DZ k' _ _ _ β0 _ mq hf hn um hs =>
 exact uQ G H' hf (Bi hn C.le) (um.trans (hK.down (Bi hn C.le))) (hs.mono (hK.down (Bi hf.le (Bi hn C.le)))) hv e'
theorem aFL{AV:List Deferred}(C:Ctx P w0 w J h β nx f dk rd ds cs frs b AV){d:Nat}:Ctx P w0 { w with drawn:=d } J h β nx f dk rd ds cs frs b AV:=⟨C.H.drawn d,C.le,C.B,C.D,C.rn,C.S⟩
theorem a7r{r:List Nat}:∀{D:Nat->Prop},mi ops D r->r.Nodup/\(∀i∈r,i<ops.size/\¬D i)/\∀i,i<ops.size->D i\/i∈r:=by
 induction r with
 |nil =>
  intro D h;cases h with|nil h=>exact⟨List.nodup_nil,by simp,λi hi=>.inl (h i hi)⟩
 |cons i r ih =>
  intro D h;cases h with
  |cons hi hn he hr =>
  obtain⟨h1,h2,h3⟩:=ih hr;refine⟨Ed.2 ⟨λhm=>(h2 i hm).2 (.inr rfl),h1⟩,λj hj=>?_,λj hj=>?_⟩
  ·rcases As.1 hj with rfl|hj
   ·exact⟨hi,hn⟩
   ·exact⟨(h2 j hj).1,λhD=>(h2 j hj).2 (.inl hD)⟩
  ·rcases h3 j hj with(h4|rfl)|h4
   ·exact .inl h4
   ·exact .inr (by simp)
   ·exact .inr (by simp[h4])
theorem aCS{fe:Q->CF}{AV:List Deferred}{c:Code}{ks:List Item}(hm:P.follows .mixedOrders=true)(G:Good P w0 ih)(C:Ctx P w0 w J h β nx f dk rd ds cs frs b AV)(hk:KS P (nt P f.nat) k ks)(hT:TR J (nt P f.nat) tm tmps)
  (Rh:∀x ps B3 body,c≠.rangeFunc x ps B3 body) (e:mA ih f dk rd ds tm (cZ P (nt P f.nat) c) k cs h nx fe=.ok v):cb P w0 (lone (b.atR ⟨tmps,AV⟩ (.code c::ks)) (frs++c0::cs0) w) c0 cs0 v:=by
 cases c with
 |skip=>exact cb.steps (Steps.one stepR_skip) (C.plain G hk hT e)
 |label l=>exact cb.steps (Steps.one stepR_label) (C.plain G hk hT e)
 |seq x y=>exact cb.steps (Steps.one stepR_seq) (C.plain G (.code x _ _ (.code y _ _ hk)) hT e)
 |block id c=>exact cb.steps (Steps.one stepR_block) (C.plain G (.code c _ _ (.n_ id _ _ hk)) hT e)
 |loop c=>exact cb.steps (Steps.one stepR_loop) (C.plain G (.code c _ _ (.lp c _ _ hk)) hT e)
 |scope c=>exact cb.steps (Steps.one nM) (C.plain G (.code c _ _ (.sc c _ _ hk)) hT e)
 |cond x y z =>
  simp only[cZ,mA] at e;obtain⟨c,h1,e1⟩:=fJ e;have hc:=iT (ds:=AV) C.H.jt (λt _=>hT.rel t) h1;obtain⟨bb,MH,e2⟩:=vD e1;subst MH;refine cb.steps (Steps.one (stepR_cond (a:=⟨tmps,AV⟩) hc.od)) ?_;cases bb with
  |true=>exact C.plain G (.code y _ _ hk) hT e2
  |false=>exact C.plain G (.code z _ _ hk) hT e2
 |exit id =>
  simp only[cZ,mA] at e;rcases aC7 hk e with⟨k',On,h1,h2,h3⟩|⟨h1,h2⟩
  ·exact cb.steps (Steps.one (stepR_exit h2)) (C.plain G h3 hT h1)
  ·split at h1
   ·cases h1
   ·exact dp G C rfl (.exit id) rfl (λhb I3 hr=>stepR_round_exit hb I3 h2 hr) h1
 |ret =>
  simp only[cZ,mA] at e
  split at e
  ·have DI:=C.B.ro
   cases GF:b.roundOf with
   |some bl=>rw[GF] at DI;exact DI.elim
   |none=>exact cb.steps (Steps.one (stepR_ret GF)) (C.go G (.iN _) ⟨hT,rfl⟩ e)
  ·exact dp G C rfl .ret rfl (λhb I3 hr=>stepR_round_ret hb I3 hr) e
 |region id ops draw =>
  cases draw with
  |false =>
   refine cb.steps (Steps.one stepR_region) ?_
   have:=ov.sync (P:=P) (J:=J) (h:=h) (β:=β) (nx:=nx) (tm:=tm) ops 0 k ks (Dr _) hk
   rw[Gh,Gq] at this;exact C.go G this ⟨hT,by rw[List.range_eq_range']⟩ e
  |true =>
   simp only[cZ,mA] at e;refine cb.steps (Steps.one stepR_region_draw) ?_;have C':=aFL (d:=w.drawn+1) C;unfold zD at e;simp only at e
   split at e
   ·rename_i hg
    simp only[Ac] at hg;obtain⟨⟨⟨g1,g2⟩,g3⟩,g4⟩:=hg
    have hE:iz ops:=λi o ho e he hb=>by
     have:=a3Q g2 i o (by rw[Cp];exact ho) e he hb
     omega
    have hr:=a70 (P:=P) hm hE (w.tape w.drawn (.order b.fn id));obtain⟨r1,r2,r3⟩:=a7r hr;have hL:=LZ.start (h:=h) (β:=β) (nx:=nx) hT ⟨Aa g1,hE,g3⟩ g4 hr r1 (λi hi=>(r2 i hi).1) (λi hi=>(r3 i hi).resolve_left (λh=>h)) (λ_=>none);exact C'.go G (.drawn ops _ 0 _ _ k ks hk) ⟨hL,rfl⟩ e
   ·exact C'.go G (tmps:=tmps) (.bad [] k) trivial e
 |rangeFunc x ps B3 body=>exact absurd rfl (Rh _ _ _ _)
 |goto l=>cases e
 |refuse why=>cases e
end
section
variable {P:Program}{w0:cL}{w:World}{J J':ak}{h h':T O}{nx nx':Q}{tm:T V}{tmps:Array Value}{v:V}{ops:Array Oper}{n β:Nat}{f:Q}{dk:Bool}{rd:Option Q}{ds:List Df}{k:K}{cs:List Fr}{fr b:Frame}{frs:List Frame}{c0:Frame}{cs0:List Frame}{ih:FQ}{fe:Q->CF}
structure qz (w w':World):Prop where
 size:w.heap.size<=w'.heap.size
 old:∀b,b<w.heap.size->w'.heap[b]?=w.heap[b]?
 os:w'.os=w.os
 tape:w'.tape=w.tape
 output:w'.output=w.output
theorem HR.grow{w':World}(H:HR P w0 J h nx w)(g:qz w w'):HR P w0 J h nx w' :=
 ⟨Bi H.size g.size,λb hb=>(g.old b (Bt hb H.size)).trans (H.old b hb),g.os.trans H.os,g.tape.trans H.tape,g.output.trans H.output,H.jt,H.fresh,λq b N e=>Bt (H.lt q b N e) g.size,
  λq b N e=>(H.obj q b N e).mono (ak.le_refl _) (g.old b (H.lt q b N e)),H.sep,H.dead,H.base⟩
def zH(P:Program)(w0:cL)(g:Nat)(t:GT):Prop:=(∃fn,P.funcs[g]?=some fn/\fn.body.isSome=true/\(fn.name== "runtime.NumGoroutine")=false) /\
 ∀(w:World)(J:ak)(vs:List V)(us:List Value)(k:V->aa)(r:V),P.globals.size<=w.heap.size->qz w0.toWorld w->w0.v3.le J->a_ J vs us->OP t vs k=.ok r ->
  ∃x u,k x=.ok r/\VR J x u/\∀c cs,∃w',qz w w'/\Steps P (lone (Frame.enter P g ⟨us⟩ .normal) (c::cs) w) (lone (c.finish u) cs w')
def tV(P:Program)(w0:cL)(g:Nat)(v:V):Prop :=
 ∀(w:World)(J:ak)(us:List Value),P.globals.size<=w.heap.size->qz w0.toWorld w->w0.v3.le J->a_ J [.rr .e] us ->
  ∃u,VR J v u/\∀c cs,∃w',qz w w'/\Steps P (lone (Frame.enter P g ⟨us⟩ .normal) (c::cs) w) (lone (c.finish u) cs w')
def j_(P:Program)(w0:cL)(fe:Q->CF):Prop:=∀g:Nat,fe (qn g)=.none\/fe (qn g)=fk P g\/(∃t,fe (qn g)=.tr t/\zH P w0 g t)\/∃v body rs,fe (qn g)=.nb v body rs/\fk P g=.mk body rs/\tV P w0 g v
theorem aAP{g:Nat}{v:V}{body:C}{rs:List RV}(h:fk P g=.nb v body rs):False:=by
 unfold fk at h
 repeat' split at h
 all_goals cases h
theorem j_.mk(C4:j_ P w0 fe){g:Nat}{body:C}{rs:List RV}(h:fe (qn g)=.mk body rs):fk P g=.mk body rs:=by
 rcases C4 g with h0|h0|⟨t,h0,_⟩|⟨v,b,r,h0,_⟩
 ·rw[h0] at h;cases h
 ·rw[<-h0];exact h
 ·rw[h0] at h;cases h
 ·rw[h0] at h;cases h
theorem j_.nb(C4:j_ P w0 fe){g:Nat}{v:V}{body:C}{rs:List RV}(h:fe (qn g)=.nb v body rs):fk P g=.mk body rs/\tV P w0 g v:=by
 rcases C4 g with h0|h0|⟨t,h0,_⟩|⟨v,b,r,h0,h1⟩
 ·rw[h0] at h;cases h
 ·rw[h0] at h;exact(aAP h).elim
 ·rw[h0] at h;cases h
 ·rw[h0] at h;cases h;exact h1
theorem aNp{args:List V}(h:Tp args=true):args=[.rr .e]:=by
 unfold Tp at h
 split at h
 ·rfl
 ·cases h
theorem aAO{g:Nat}{t:GT}(h:fk P g=.tr t):False:=by
 unfold fk at h
 repeat' split at h
 all_goals cases h
def mG(P:Program):Prop:=∀(g:Nat)(m:Nat),fk P g=.ext m->∀(w:World)(J:ak)(vs:List V)(us:List Value)(k:V->aa)(v:V),a_ J vs us->dw m vs k=.ok v->∃x u,k x=.ok v/\VR J x u/\(callFunc g ⟨us⟩).run P w=.ok (.value u) w
theorem mO{g:Nat}{body:C}{rs:List RV}(h:fk P g=.mk body rs):∃fn c,P.funcs[g]?=some fn/\fn.body=some c/\(fn.name== "runtime.NumGoroutine")=false/\sY P fn.results.toList=some rs/\body=cZ P fn.ntmps c:=by
 unfold fk at h
 split at h
 ·cases h
 ·rename_i fn hf
  split at h
  ·split at h<;>cases h
  ·rename_i c hc
   split at h
   ·cases h
   ·rename_i hn
    split at h
    ·cases h
    ·rename_i rs' UE
     cases h;exact⟨fn,c,hf,hc,hn,UE,rfl⟩
theorem ny{g:Nat}{fn:Func}(h:P.funcs[g]?=some fn):nt P g=fn.ntmps:=by simp[nt,h]
theorem aBz{vs:List V}{us:List Value}(hv:a_ J vs us)(m:Nat)(hm:us.length+m>=n):TR J n (dK vs 0 .nil) (⟨us⟩++Array.replicate m Go.undef):=by
 refine⟨by simp;omega,λt=>?_⟩;rw[iE];have hl:=hv.1;by_cases ht:t<vs.length
 ·rw[Br ⟨by omega,by omega⟩,Af,Gc (by simp;omega)]
  have YF:t<us.length:=by omega
  have:=hv.2 t vs[t] us[t] (by simp[ht]) (by simp[YF])
  simpa[Bw,ht,YF] using this
 ·rw[Bf (by omega),Af]
  have h1:(T.nil:T V).at t=V.undef:=T.get_nil _ _;rw[h1];by_cases h2:t<us.length+m
  ·rw[Array.getElem?_append_right (by simp;omega)]
   simp only[Dp];split
   ·exact VR.undef
   ·exact VR.undef
  ·rw[Gn (by simp;omega)]
   exact VR.undef
theorem qE{g:Nat}{vs:List V}{us:List Value}{body:C}{rs:List RV}(G:Good P w0 ih)(H:HR P w0 J h nx w)(hv:a_ J vs us)(hS:lh P J h cs frs nx.nat)(hc:fk P g=.mk body rs)
  (e:(mH vs .e .nil λtm=>ih (qn g) dk none [] tm (.code body .nil) cs h nx)=.ok v):cb P w0 (lone (Frame.enter P g ⟨us⟩ (if dk then .deferred else .normal)) (frs++c0::cs0) w) c0 cs0 v:=by
 obtain⟨fn,c,h1,h2,h3,h4,rfl⟩:=mO hc;rw[kL,show(Q.e:Q)=qn 0 from rfl,vC] at e;have K6:=ny h1;have hT:=aBz (n:=nt P g) hv ((fn.ntmps)-us.length) (by omega)
 let b:Frame:={ fn:=g,tmps:=#[],todo:=[],defers:=[],mode:=.run,kind:=if dk then .deferred else .normal }
 have X:Ctx P w0 w J h nx.nat nx (qn g) dk none [] cs frs b []:=⟨H,Ae _,⟨by simp[b,dY],rfl,trivial,λh=>absurd rfl h⟩,.nil,λ_=>rfl,hS⟩
 have D0:Frame.enter P g ⟨us⟩ (if dk then .deferred else .normal)=b.atR ⟨⟨us⟩++Array.replicate (fn.ntmps-us.length) Go.undef,[]⟩ [.code c]:=by
  simp[Frame.enter,Frame.atR,h1,h2,b]
 rw[D0];refine X.plain (tm:=dK vs 0 .nil) G (.code c _ _ .nil) ?_ ?_
 ·rw[dY];exact hT
 ·rw[dY,K6];exact e
theorem a38:∀{ps:List Nat}{vs:List V}{us:List Value}{tm:T V}{tmps:Array Value}{k:T V->aa},a_ J vs us->TR J n tm tmps->(∀t∈ps,t<n)->vd (ps.map qn) vs tm k=.ok v ->
  ∃tm',k tm'=.ok v/\ps.length=us.length/\TR J n tm' ((ps.zip us).foldl (λtmps (t,a)=>tmps.setIfInBounds t a) tmps)
 |[],[],us,tm,tmps,k,hv,hT,hp,e=>by rw[hv.k_];exact⟨tm,e,rfl,hT⟩
 |[],_::_,us,tm,tmps,k,hv,hT,hp,e=>by cases e
 |_::_,[],us,tm,tmps,k,hv,hT,hp,e=>by cases e
 |p::ps,x::vs,us,tm,tmps,k,hv,hT,hp,e=>by
  obtain⟨u,RN,rfl,h1,h2⟩:=hv.k6;simp only[Ba,vd,zr] at e;have Ng:TR J n (tm.put V.undef x (qn p)) (tmps.setIfInBounds p u):=hT.put (d:=some p) (λy hy=>by cases hy;exact hp p (by simp)) h1;obtain⟨tm',a1,a2,a3⟩:=a38 h2 Ng (λt ht=>hp t (by simp[ht])) e;exact⟨tm',a1,by simp[a2],a3⟩
theorem jJ{fv:V}{a2A:Value}{vs:List V}{us:List Value}{c:Fr}(C4:j_ P w0 fe)(hx:mG P)(G:Good P w0 ih)(H:HR P w0 J h nx w)(II:VR J fv a2A)(hv:a_ J vs us)(hS:lh P J h (c::cs) (fr::frs) nx.nat)(e:cY fe ih fv vs (c::cs) h nx=.ok v) :
  ∃d,(Deferred.ofValue a2A ⟨us⟩).run P w=.ok d w /\
   ((∃g all,(invoke d.target d.args).run P w=.ok (.enter g all) w/\cb P w0 (lone (Frame.enter P g all .normal) (fr::(frs++c0::cs0)) w) c0 cs0 v) \/
    (∃l g tmps x y,(invoke d.target d.args).run P w=.ok (.round l g tmps x y) w/\cb P w0 (lone (Frame.round l g tmps x y .normal) (fr::(frs++c0::cs0)) w) c0 cs0 v) \/
    ∃x u,(invoke d.target d.args).run P w=.ok (.value u) w/\VR J x u/\mQ ih c cs x h nx=.ok v):=by
 cases fv<;>simp only[cY] at e<;>first|cases e|skip
 ·rename_i f fs caps
  obtain⟨ua,ub,rfl,h1,h2⟩:=II.uu;rw[eS,eS] at e;have CA:a_ J (fs++(vs++caps)) (ua++(us++ub)):=h1.append (hv.append h2);refine⟨{ target:=.fn (.func f.nat) ⟨ub⟩,args:=⟨ua⟩++⟨us⟩ },by simp[Deferred.ofValue],?_⟩;have DO:((⟨ua⟩:Array Value)++⟨us⟩)++⟨ub⟩=⟨ua++(us++ub)⟩:=by apply Cr;simp
  unfold fZ at e;rw[lJ] at e
  split at e
  ·cases e
  ·rename_i m BO
   have EU:fk P f.nat=.ext m:=by
    rcases C4 f.nat with h0|h0|⟨t,h0,_⟩|⟨v,b,r,h0,_⟩
    ·rw[iF] at h0;rw[h0] at BO;cases BO
    ·rw[iF] at h0;rw[<-h0];exact BO
    ·rw[iF] at h0;rw[h0] at BO;cases BO
    ·rw[iF] at h0;rw[h0] at BO;cases BO
   simp only at e;obtain⟨x,u,a1,a2,a3⟩:=hx f.nat m EU w J _ _ _ _ CA e;refine .inr (.inr ⟨x,u,?_,a2,a1⟩);simp only[invoke,DO];exact a3
  ·rename_i t BO
   obtain⟨⟨fn,g1,g2,g3⟩,a5R⟩:zH P w0 f.nat t:=by
    rcases C4 f.nat with h0|h0|⟨t',h0,hg⟩|⟨v,b,r,h0,_⟩
    ·rw[iF] at h0;rw[h0] at BO;cases BO
    ·rw[iF] at h0;rw[h0] at BO;exact(aAO BO).elim
    ·rw[iF] at h0;rw[h0] at BO;cases BO;exact hg
    ·rw[iF] at h0;rw[h0] at BO;cases BO
   simp only at e
   have BD:P.globals.size<=w.heap.size:=by
    rcases Ff P.globals.size with h0|h0
    ·omega
    ·obtain⟨N,hN⟩:=H.jt (P.globals.size-1) (by omega)
     have:=H.lt _ _ _ hN
     omega
   obtain⟨x,u,a1,a2,a3⟩:=a5R w J _ _ _ _ BD ⟨H.size,H.old,H.os,H.tape,H.output⟩ H.base CA e;refine .inl ⟨f.nat,⟨ua++(us++ub)⟩,?_,?_⟩
   ·simp only[invoke,DO]
    have U9:¬fn.body=none:=λh0=>by rw[h0] at g2;cases g2
    have J7:¬fn.name= "runtime.NumGoroutine":=by simpa using g3
    simp[callFunc,g1,U9,J7]
   ·obtain⟨w',U0,A8⟩:=a3 fr (frs++c0::cs0)
    refine cb.steps A8 ?_;cases hS with
    |cons J0 _ hh0 _ f' Nm Jk DQ DZ k' _ _ _ β0 _ mq hf hn um hs=>exact uQ G (H.grow U0) hf hn um hs a2 a1
  ·rename_i v0 body rs BO
   obtain⟨EU,Mr⟩:=j_.nb C4 (g:=f.nat) (by rw[iF];exact BO);obtain⟨fn,cc,g1,g2,g3,g4,_⟩:=mO EU;refine .inl ⟨f.nat,⟨ua++(us++ub)⟩,?_,?_⟩
   ·simp only[invoke,DO]
    simp[callFunc,g1,g2,g3];intro hn;rw[hn] at g3;simp at g3
   ·simp only at e
    split at e
    ·rename_i hE
     rw[aNp hE] at CA
     have BD:P.globals.size<=w.heap.size:=by
      rcases Ff P.globals.size with h0|h0
      ·omega
      ·obtain⟨N,hN⟩:=H.jt (P.globals.size-1) (by omega)
       have:=H.lt _ _ _ hN
       omega
     obtain⟨u,a2,a3⟩:=Mr w J _ BD ⟨H.size,H.old,H.os,H.tape,H.output⟩ H.base CA;obtain⟨w',U0,A8⟩:=a3 fr (frs++c0::cs0);refine cb.steps A8 ?_;cases hS with
     |cons J0 _ hh0 _ f' Nm Jk DQ DZ k' _ _ _ β0 _ mq hf hn um hs=>exact uQ G (H.grow U0) hf hn um hs a2 e
    ·have:=qE (dk:=false) (c0:=c0) (cs0:=cs0) G H CA hS EU (by rw[iF];exact e)
     simpa using this
  ·rename_i body rs BO
   have EU:fk P f.nat=.mk body rs:=j_.mk C4 (g:=f.nat) (by rw[iF];exact BO);obtain⟨fn,cc,g1,g2,g3,g4,_⟩:=mO EU;refine .inl ⟨f.nat,⟨ua++(us++ub)⟩,?_,?_⟩
   ·simp only[invoke,DO]
    simp[callFunc,g1,g2,g3];intro hn;rw[hn] at g3;simp at g3
   ·have:=qE (dk:=false) (c0:=c0) (cs0:=cs0) G H CA hS EU (by rw[iF];exact e)
    simpa using this
 ·rename_i l
  obtain⟨bl,N,rfl,hl⟩:=II.a0W;rw[bW] at e;obtain⟨st,pend,fn,tm',ps,B3,body,CH,DA,e1⟩:=fF e;obtain⟨r,hw,CW,hB,AL⟩:=H.loop hl DA;cases CW with
  |mk _ _ GH _ _ _ N' h1 h2 h3 h4 h5 h6 =>
  obtain⟨DZ,a1,a2,a3⟩:=a38 hv h4 h5 e1;refine⟨{ target:=.fn (.yield bl) #[],args:=#[]++⟨us⟩ },by simp[Deferred.ofValue],.inr (.inl ⟨bl,r.fn,(r.params.zip ⟨us⟩).foldl (λtmps (t,a)=>tmps.setIfInBounds t a) r.tmps,r.assign,r.body,?_,?_⟩)⟩
  ·have BD:us.length=r.params.size:=by rw[<-a2];simp
   simp[invoke,Instr.yield,run_getLoop hw,BD]
  ·let b:Frame:={ fn:=r.fn,tmps:=#[],todo:=[],defers:=[],mode:=.run,kind:=.normal,roundOf:=some bl }
   have X:Ctx P w0 w J h nx.nat nx (qn GH) false (some l) [] (c::cs) (fr::frs) b []:=⟨H,Ae _,⟨by simp[b,dY,h3],rfl,⟨N,hl⟩,λ_=>rfl⟩,.nil,λ_=>rfl,hS⟩
   have D0:∀tt,Frame.round bl r.fn tt r.assign r.body .normal=b.atR ⟨tt,[]⟩ [.code r.assign,.beginRound,.code r.body]:=λtt=>by simp[Frame.round,Frame.atR,b]
   rw[D0]
   have:=X.plain (c0:=c0) (cs0:=cs0) (v:=v) (tm:=DZ) (tmps:=(r.params.zip ⟨us⟩).foldl (λtmps (t,a)=>tmps.setIfInBounds t a) r.tmps) G (.code r.assign _ _ (.begin _ _ (.code r.body _ _ .nil))) (by
    rw[dY]
    have hz:(r.params.zip ⟨us⟩).foldl (λtmps (t,a)=>tmps.setIfInBounds t a) r.tmps=(r.params.toList.zip us).foldl (λtmps (t,a)=>tmps.setIfInBounds t a) r.tmps:=by
     rw[<-Du];simp
    rw[hz];exact a3) (by rw[dY];exact a1)
   exact this
end
section
open Go.AM (c9 eY jW lZ)
variable {P:Program}{w0:cL}{w:World}{J J':ak}{h h':T O}{nx nx':Q}{tm:T V}{tmps:Array Value}{v:V}{ops:Array Oper}{n β:Nat}{f:Q}{dk:Bool}{rd:Option Q}{ds:List Df}{k:K}{cs:List Fr}{fr b:Frame}{frs:List Frame}{c0:Frame}{cs0:List Frame}{ih:FQ}{fe:Q->CF}{i:Nat}{o:Oper}{rest:List Nat}{l:List PS}{ks:List Item}{AV:List Deferred}
theorem step_defer{a:Act}{d:Deferred}{w':World}{cs:List Frame}(ho:ops[i]?=some o)(hw:Region.wanted o (yielded ops a.tmps)=true)(hb:b.roundOf=none)(hr:(execOp a.eval o).run P w=.ok (.defer d) w') :
  step P (lone (b.atR a (.inRegion ops (i::rest)::ks)) cs w)=.next (lone (b.atR ((⟨a.tmps,d::a.defers⟩:Act).put o.dst Go.undef) (.inRegion ops rest::ks)) cs w'):=by
 refine step_lone_go ?_;have h:=Frame.finish_atR b ⟨a.tmps,d::a.defers⟩ ops i rest ks Go.undef;rw[ho] at h;rw[stepGR_op ho hw,hb,Oper.semAt_none];have h2:({ b.atR a (.inRegion ops (i::rest)::ks) with defers:=d::(b.atR a (.inRegion ops (i::rest)::ks)).defers }:Frame)=b.atR ⟨a.tmps,d::a.defers⟩ (.inRegion ops (i::rest)::ks):=rfl;simp only[stepG.apply,hr,Dq,Dk,h2,h];simp[hr,h2,h]
theorem a5J{a:Act}{w':World}{cs:List Frame}(ho:ops[i]?=some o)(hw:Region.wanted o (yielded ops a.tmps)=true)(hd:∀c,o.op≠.defer c)(hb:b.roundOf=none)(hr:(execOp a.eval o).run P w=.ok .recover w')
  (ht:tryRecover (b.atR a (.inRegion ops (i::rest)::ks)) cs=none) :
  step P (lone (b.atR a (.inRegion ops (i::rest)::ks)) cs w)=.next (lone (b.atR (a.put o.dst .nilIface) (.inRegion ops rest::ks)) cs w'):=by
 refine step_lone_go ?_;have h:=Frame.finish_atR b a ops i rest ks .nilIface;rw[ho] at h;have BC:(b.atR a (.inRegion ops (i::rest)::ks)).roundOf=none:=hb;rw[stepGR_op ho hw,Oper.semAt_eq _ _ _ hd];simp[stepG.apply,hr,h,BC,ht]
structure Pt (P:Program) (n:Nat) (ops:Array Oper) (J:ak) (h:T O) (β:Nat) (nx:Q) (tm:T V) (tmps:Array Value) (i:Nat) (o:Oper) (rest:List Nat) (l:List PS) (k:K) (ks:List Item):Prop where
 ho:ops[i]?=some o
 size:n<=tmps.size
 rd:∀t,(j9 ops o).testBit t=true->VR J (tm.at t) (tmps.getD t Go.undef)
 go:∀(J':ak)(h':T O)(nx':Q)(v:V)(u:Value),nx.nat<=nx'.nat->ec nx.nat J h J' h'->VR J' v u->(∀x,o.dst=some x->x<n) ->
  ∃C:Array Value->List Deferred->Frame->Frame->Prop,ov P J' h' β nx' n (uJ tm o.dst v) (.reg l k) C/\∀b AV,C (oK tmps o.dst u) AV b (b.atR ⟨oK tmps o.dst u,AV⟩ (.inRegion ops rest::ks))
 wt:∀d g ob,fR P n ops o=.mk d g ob->LD ob=true->∃C:Array Value->List Deferred->Frame->Frame->Prop,Wt P J h β nx n tm (.reg (.op (.mk d g ob)::l) k) C/\∀b AV,C tmps AV b (b.atR ⟨tmps,AV⟩ (.inRegion ops (i::rest)::ks))
theorem Pt.sync(hT:TR J n tm tmps)(ho:ops[i]?=some o)(hk:KS P n k ks):Pt P n ops J h β nx tm tmps i o (List.range' (i+1) (ops.size-(i+1))) ((ops.toList.drop (i+1)).map λo=>.op (fR P n ops o)) k ks :=
 ⟨ho,hT.size,λt _=>hT.rel t,λ_ _ _ _ _ _ hK hv hx=>⟨_,.sync ops (i+1) k ks (An.1 ho).1 hk,λ_ _=>⟨(hT.mono hK.le).put hx hv,rfl⟩⟩,
  λd g ob hc hw=>⟨_,.sync ops i o d g ob k ks ho hc hw hk,λ_ _=>⟨hT,rfl⟩⟩⟩
theorem Pt.drawn{pl:List Pl}{E:Nat}{r:List Nat}{qf:Nat->Option Q}(L:LZ P n ops J h β nx tm tmps (.run i::pl) E (i::r) qf)(ho:ops[i]?=some o)(hw:JS P o=true)(hk:KS P n k ks):Pt P n ops J h β nx tm tmps i o r (pl.map (vg P n ops)) k ks :=
 ⟨ho,L.size,λt ht=>L.reads ho ht (λ_=>by obtain⟨_,_,h1,_⟩:=vV L.ck;exact h1),λ_ _ _ _ _ hn hK hv hx=>⟨_,.drawn ops pl _ r qf k ks hk,λ_ _=>⟨L.sync ho hw hx hn hK hv,rfl⟩⟩,
  λd g ob hc DX=>⟨_,.drawn ops i o d g ob pl E r qf k ks ho hc DX hk,λ_ _=>⟨L,rfl⟩⟩⟩
theorem a4c{d:Option Q}{g:Option (Q×Bool)}{ob:OB}(e:k7 fe ih f dk rd ds tm (.op (.mk d g ob)::l) k cs h nx=.ok v) :
  (gJ g tm=some true/\G3 fe ih f dk rd ds tm d ob l (.op (.mk d g ob)::l) k cs h nx=.ok v)\/(gJ g tm=some false/\g≠none/\qV d V.undef tm (λtm'=>ih f dk rd ds tm' (.reg l k) cs h nx)=.ok v):=by
 unfold k7 at e;cases g with
 |none=>exact .inl ⟨rfl,e⟩
 |some qw =>
  obtain⟨q,want⟩:=qw;simp only[dI] at e;simp only[gJ]
  split at e
  ·rename_i t ht
   rw[ht]
   split at e
   ·rename_i hb;exact .inl ⟨by simp[hb],e⟩
   ·rename_i hb;exact .inr ⟨by simp[hb],by simp,e⟩
  ·rename_i ht;rw[ht];exact .inr ⟨rfl,by simp,e⟩
  ·cases e
def kd(b:OB):Nat :=
 match b with
 |.p _=>0|.a _=>0|.w _=>0|.call _ _=>1|.dfr _ _=>2|.rcv=>4|.inv _ _ _=>5
theorem r6(o:Option PB):kd (IA o)=0:=by cases o<;>rfl
theorem zj(o:Option AB):kd (Ky o)=0:=by cases o<;>rfl
theorem r7(o:Option WB):kd (Lh o)=0:=by cases o<;>rfl
theorem yn(h1:∀c,o.op≠.call c)(h2:∀c,o.op≠.defer c):kd (bU P o)=0:=by
 obtain⟨dst,op,ty,pos,AK,BE⟩:=o
 cases op<;>simp only[bU]<;>first
  |rfl
  |exact r6 _
  |exact zj _
  |exact r7 _
  |(exact absurd rfl (h1 _))
  |(exact absurd rfl (h2 _))
  |(repeat' split)<;>first|rfl|exact r6 _|exact zj _|exact r7 _
theorem a66{x:X}{xs:List X}(hb:bU P o=.call x xs):∃c fo,o.op=.call c/\c.callee=.value fo/\x=aE P fo/\xs=c.args.toList.map (aE P):=by
 by_cases h1:∃c,o.op=.call c
 ·obtain⟨c,hc⟩:=h1
  refine⟨c,?_⟩;simp only[bU,hc] at hb;unfold hU at hb
  split at hb
  ·rename_i fo hf
   cases hb;exact⟨fo,hc,hf,rfl,rfl⟩
  ·cases hb
  ·exfalso
   have hk:=Dd kd hb
   revert hk
   repeat' split
   all_goals first|(rw[r6];simp[kd];done)|(rw[r7];simp[kd];done)|(simp[kd];done)
 ·exfalso
  by_cases h2:∃c,o.op=.defer c
  ·obtain⟨c,hc⟩:=h2
   simp only[bU,hc] at hb;have hk:=Dd kd hb
   revert hk
   repeat' split
   all_goals simp[kd]
  ·have:=yn (P:=P) (λc hc=>h1 ⟨c,hc⟩) (λc hc=>h2 ⟨c,hc⟩)
   rw[hb] at this;cases this
theorem aA6{ms:List (Nat×Q)}{x:X}{xs:List X}(hb:bU P o=.inv ms x xs):∃c fo name,o.op=.call c/\c.callee=.invoke fo name/\ms=iB P name P.types.size/\x=aE P fo/\xs=c.args.toList.map (aE P):=by
 by_cases h1:∃c,o.op=.call c
 ·obtain⟨c,hc⟩:=h1
  refine⟨c,?_⟩;simp only[bU,hc] at hb;unfold hU at hb
  split at hb
  ·cases hb
  ·rename_i fo name hf
   cases hb;exact⟨fo,name,hc,hf,rfl,rfl,rfl⟩
  ·exfalso
   have hk:=Dd kd hb
   revert hk
   repeat' split
   all_goals first|(rw[r6];simp[kd];done)|(rw[r7];simp[kd];done)|(simp[kd];done)
 ·exfalso
  by_cases h2:∃c,o.op=.defer c
  ·obtain⟨c,hc⟩:=h2
   simp only[bU,hc] at hb;have hk:=Dd kd hb
   revert hk
   repeat' split
   all_goals simp[kd]
  ·have:=yn (P:=P) (λc hc=>h1 ⟨c,hc⟩) (λc hc=>h2 ⟨c,hc⟩)
   rw[hb] at this;cases this
theorem a1M{t:Nat}{k:Q->aa}{v:V}:∀{ms:List (Nat×Q)},qL t ms k=.ok v->∃f,(t,f)∈ms/\k f=.ok v
 |[],e=>by cases e
 |(u,f)::ms,e=>by
  simp only[qL] at e
  split at e
  ·rename_i hb
   have:=Aa hb
   subst this;exact⟨f,by simp,e⟩
  ·obtain⟨g,h1,h2⟩:=a1M e
   exact⟨g,by simp[h1],h2⟩
theorem nD{name:String}{t:Nat}{f:Q}:∀{n:Nat},(t,f)∈iB P name n->∃u,uZ P name u=some (t,f)
 |0,h=>by simp[iB] at h
 |n+1,h=>by
  simp only[iB] at h
  split at h
  ·rename_i p hp
   rcases As.1 h with rfl|h
   ·exact⟨n,hp⟩
   ·exact nD h
  ·exact nD h
theorem a7s{name:String}{u t:Nat}{f:Q}(h:uZ P name u=some (t,f))(n:Nat)(x:Value):(method (n+1) t x name).run P w=.ok (f.nat,x) w:=by
 unfold uZ at h;obtain⟨i,hi,h⟩:=dQ h;obtain⟨m,hm,h⟩:=dQ h;obtain⟨d,hd,h⟩:=dQ h;obtain⟨fp,hf,h⟩:=dQ h;obtain⟨fi,fb⟩:=fp
 have HN:(typeInfo t).run P w=.ok i w\/u≠t:=by
  by_cases hut:u=t
  ·subst hut;exact .inl (by simp[typeInfo,hi])
  ·exact .inr hut
 have key:∀(hp:m.path.isEmpty=true),u=t->qn fi=f->(∀wr,(receiverAt t (.val x) fb wr).run P w=.ok x w)->(method (n+1) t x name).run P w=.ok (f.nat,x) w:=by
  intro hp he hq M9;subst he;subst hq;have w7:m.path=#[]:=by simpa using hp
  rcases HN with HN|HN
  ·simp only[method,Sem.run_bind,HN,Result.andThen_ok,hm]
   simp[w7,follow,hf,dY,M9]
  ·exact absurd rfl HN
 cases hp:m.path.isEmpty with
 |false=>rw[hp] at h;cases d<;>cases fb<;>cases h
 |true =>
  rw[hp] at h
  cases d<;>cases fb<;>first
   |(cases h;done)
   |(cases h;exact key hp rfl rfl λwr=>by simp[receiverAt,run_underlying hd,Place.get])
theorem aAT{x:X}{xs:List X}(hb:bU P o=.dfr x xs):∃c fo,o.op=.defer c/\c.callee=.value fo/\x=aE P fo/\xs=c.args.toList.map (aE P):=by
 by_cases h1:∃c,o.op=.defer c
 ·obtain⟨c,hc⟩:=h1
  refine⟨c,?_⟩;simp only[bU,hc] at hb
  split at hb
  ·rename_i fo hf
   cases hb;exact⟨fo,hc,hf,rfl,rfl⟩
  ·cases hb
 ·exfalso
  by_cases h2:∃c,o.op=.call c
  ·obtain⟨c,hc⟩:=h2
   simp only[bU,hc] at hb;have hk:=Dd kd hb
   revert hk
   unfold hU
   repeat' split
   all_goals first|(rw[r6];simp[kd];done)|(rw[r7];simp[kd];done)|(simp[kd];done)
  ·have:=yn (P:=P) (λc hc=>h2 ⟨c,hc⟩) (λc hc=>h1 ⟨c,hc⟩)
   rw[hb] at this;cases this
theorem aBB(hb:bU P o=.rcv):∃c,o.op=.call c/\c.callee=.builtin .recover/\c.args.toList=[]:=by
 by_cases h1:∃c,o.op=.call c
 ·obtain⟨c,hc⟩:=h1
  refine⟨c,hc,?_⟩;simp only[bU,hc] at hb;unfold hU at hb
  split at hb
  ·cases hb
  ·cases hb
  ·rename_i bb hf
   have hk:=Dd kd hb
   split at hb
   all_goals first
    |(rename_i ha;exact⟨hf,ha⟩)
    |(exfalso;clear hb;revert hk;(repeat' split)<;>first|contradiction|(simp_all;done)|(rw[r6];simp[kd];done)|(rw[r7];simp[kd];done)|(simp[kd];done))
 ·exfalso
  by_cases h2:∃c,o.op=.defer c
  ·obtain⟨c,hc⟩:=h2
   simp only[bU,hc] at hb;have hk:=Dd kd hb
   revert hk
   repeat' split
   all_goals simp[kd]
  ·have:=yn (P:=P) (λc hc=>h1 ⟨c,hc⟩) (λc hc=>h2 ⟨c,hc⟩)
   rw[hb] at this;cases this
theorem a6Q(hB:FB P J f dk none b)(hS:lh P J h cs frs β)(e:Qh dk cs (.ok v)=.ok v){a:Act}{todo:List Item}{BX:List Frame}:tryRecover (b.atR a todo) (frs++c0::BX)=none:=by
 have hk:(b.atR a todo).kind=if dk then .deferred else .normal:=hB.kind
 unfold tryRecover;rw[hk];cases dk with
 |false=>rfl
 |true =>
  cases hS with
  |nil=>cases e
  |cons J0 _ h0 _ f' Nm Jk DQ DZ k' _ MM I8 β0 _ mq hf hn hK hs =>
   simp only[Cw,Dq];obtain⟨_,b',EV,tmps',C,_,_,_,hW,hC⟩:=hf;cases hW with
   |iN ks=>rw[hC.2]
   |_=>cases e
theorem Y'(C4:j_ P w0 fe)(hx:mG P)(G:Good P w0 ih)(C:Ctx P w0 w J h β nx f dk rd ds cs frs b AV)(p:Pt P (nt P f.nat) ops J h β nx tm tmps i o rest l k ks)
  (e:k7 fe ih f dk rd ds tm (.op (fR P (nt P f.nat) ops o)::l) k cs h nx=.ok v):cb P w0 (lone (b.atR ⟨tmps,AV⟩ (.inRegion ops (i::rest)::ks)) (frs++c0::cs0) w) c0 cs0 v:=by
 obtain⟨d,g,ob,hc⟩:∃d g ob,fR P (nt P f.nat) ops o=.mk d g ob:=by
  cases h0:fR P (nt P f.nat) ops o with|mk d g ob=>exact⟨d,g,ob,rfl⟩
 rw[hc] at e;have ho:=p.ho
 have L7:∀{w':World}{J':ak}{h':T O}{nx':Q}{x:V}{u:Value}{DQ:List Df}{EV:List Deferred},HR P w0 J' h' nx' w'->nx.nat<=nx'.nat->ec nx.nat J h J' h'->VR J' x u->(∀x,o.dst=some x->x<nt P f.nat)->mg P J' DQ EV->(rd≠none->DQ=[]) ->
   ih f dk rd DQ (uJ tm o.dst x) (.reg l k) cs h' nx'=.ok v->cb P w0 (lone (b.atR ⟨oK tmps o.dst u,EV⟩ (.inRegion ops rest::ks)) (frs++c0::cs0) w') c0 cs0 v:=by
  intro w' J' h' nx' x u DQ EV H' hn hK hv hd hD JY e';obtain⟨X,hX,hC⟩:=p.go J' h' nx' x u hn hK hv hd;have C':Ctx P w0 w' J' h' β nx' f dk rd DQ cs frs b EV:=⟨H',Bi C.le hn,C.B.mono hK.le,hD,JY,C.S.mono (hK.down C.le)⟩
  exact C'.go G hX (hC b EV) e'
 rcases a4c e with⟨hg,e1⟩|⟨hg,U1,e1⟩
 ·have Hm:ob≠.p .bad:=λe0=>by subst e0;cases e1
  obtain⟨hb,hd,HM,PW⟩:=eO hc (Nx Hm);have CE:=sS PW p.size (λj want t h1 h2=>p.rd t (oD h1 h2)) hg;have hT:XR J tm tmps o.op.operands.toList:=λt ht=>p.rd t (zO ht)
  subst hd;cases ob with
  |p pb =>
   simp only[G3] at e1;obtain⟨x,e2,u,hu,hv⟩:=zC (ds:=AV) C.H hb.symm hT e1;rw[eU] at e2;refine cb.steps (Steps.one (c9 (a:=⟨tmps,AV⟩) ho CE (a2V hb.symm e1) hu)) ?_;rw[put_eq];exact L7 C.H (Ae _) (ec.refl _ _ _) hv HM C.D C.rn e2
  |a ab =>
   simp only[G3] at e1;obtain⟨oo,mk,_,e2,hA⟩:=yj (ds:=AV) C.H hb.symm hT e1;obtain⟨x,N,u,a4,a5⟩:=hA.run;obtain⟨a6,a7⟩:=a5 nx (C.H.fresh nx (Ae _));rw[c8,eU,dC] at e2;obtain⟨H',hK⟩:=C.H.make a6;refine cb.steps (Steps.one (c9 (a:=⟨tmps,AV⟩) ho CE (a2U hb.symm) a4)) ?_;rw[put_eq];exact L7 H' (by rw[Q.kl];omega) hK a7 HM (C.D.mono hK.le) C.rn e2
  |w wb =>
   simp only[G3] at e1;obtain⟨x,h',nx',e2,w',J',u,hu,hv,H',hK,hn⟩:=aPx (ds:=AV) C.H hb.symm hT e1;rw[eU] at e2;rcases hu with hu|⟨hu,rfl⟩
   ·refine cb.steps (Steps.one (c9 (a:=⟨tmps,AV⟩) ho CE (a2W hb.symm) hu)) ?_
    rw[put_eq];exact L7 H' hn hK hv HM (C.D.mono hK.le) C.rn e2
   ·refine cb.steps (Steps.one (eY (a:=⟨tmps,AV⟩) ho CE (a2W hb.symm) hu)) ?_
    rw[put_eq];exact L7 H' hn hK hv HM (C.D.mono hK.le) C.rn e2
  |call x xs =>
   obtain⟨c,fo,h1,h2,rfl,rfl⟩:=a66 hb.symm;simp only[G3] at e1;have np:o.op.operands=#[fo]++c.args:=by rw[h1];simp[Op.operands,Call.operands,h2]
   obtain⟨fv,LN,e2⟩:=fJ e1;have II:=iT (ds:=AV) C.H.jt (hT.sub (λy hy=>by rw[np];simp at hy;simp[hy])) LN;obtain⟨vs,Lq,e3⟩:=sT e2;have HE:=oH (ds:=AV) C.H.jt (hT.sub (λy hy=>by rw[np];simp at hy;simp[hy])) Lq;obtain⟨W,hW,Ud⟩:=p.wt _ _ _ hc rfl
   have hS:lh P J h (.mk f dk rd ds tm (.reg (.op (.mk (o.dst.map qn) g (.call (aE P fo) (c.args.toList.map (aE P))))::l) k)::cs) (b.atR ⟨tmps,AV⟩ (.inRegion ops (i::rest)::ks)::frs) nx.nat :=
    .cons J J h h f dk rd ds tm _ cs _ frs β nx.nat nx ⟨C.le,b,AV,tmps,W,C.B,C.D,C.rn,hW,Ud b AV⟩ (Ae _) (ec.refl _ _ _) C.S
   obtain⟨dd,LQ,D1⟩:=jJ (c0:=c0) (cs0:=cs0) C4 hx G C.H II HE hS e3;have G6:∀c',o.op≠.defer c':=λc' C6=>by rw[h1] at C6;cases C6
   have DO:c.args.map (ev tmps AV)=⟨c.args.toList.map (ev tmps AV)⟩:=by apply Cr;simp
   have hex:∀{r:Result Next},(invoke dd.target dd.args).run P w=r->(execOp (ev tmps AV) o).run P w=r:=λ{r} hr=>by
    simp only[execOp,h1,resolve,h2,DO,Sem.run_bind,LQ,Result.andThen_ok,hr]
   rcases D1 with⟨gg,all,i1,i2⟩|⟨ll,gg,tt,x,y,i1,i2⟩|⟨x,u,i1,i2,i3⟩
   ·exact cb.steps (Steps.one (jW (a:=⟨tmps,AV⟩) ho CE G6 (hex i1))) i2
   ·exact cb.steps (Steps.one (lZ (a:=⟨tmps,AV⟩) ho CE G6 (hex i1))) i2
   ·refine cb.steps (Steps.one (c9 (a:=⟨tmps,AV⟩) ho CE G6 (hex i1))) ?_
    rw[put_eq];simp only[mQ,eU] at i3;exact L7 C.H (Ae _) (ec.refl _ _ _) i2 HM C.D C.rn i3
  |inv ms x xs =>
   obtain⟨c,fo,name,h1,h2,rfl,rfl,rfl⟩:=aA6 hb.symm;simp only[G3] at e1;have np:o.op.operands=#[fo]++c.args:=by rw[h1];simp[Op.operands,Call.operands,h2]
   obtain⟨fv,LN,e2⟩:=fJ e1;have II:=iT (ds:=AV) C.H.jt (hT.sub (λy hy=>by rw[np];simp at hy;simp[hy])) LN;obtain⟨vs,Lq,e3⟩:=sT e2;have HE:=oH (ds:=AV) C.H.jt (hT.sub (λy hy=>by rw[np];simp at hy;simp[hy])) Lq;unfold Vg at e3
   split at e3
   ·rename_i t u0
    obtain⟨u',Hh,YD⟩:∃u',ev tmps AV fo=.iface t u'/\VR J u0 u':=by
     generalize ev tmps AV fo=a2B at II;cases II with|kh _ _ v' HF=>exact⟨v',rfl,HF⟩
    obtain⟨g',hm1,e4⟩:=a1M e3;obtain⟨tt,hm2⟩:=nD hm1;obtain⟨W,hW,Ud⟩:=p.wt _ _ _ hc rfl
    have hS:lh P J h (.mk f dk rd ds tm (.reg (.op (.mk (o.dst.map qn) g (.inv (iB P name P.types.size) (aE P fo) (c.args.toList.map (aE P))))::l) k)::cs) (b.atR ⟨tmps,AV⟩ (.inRegion ops (i::rest)::ks)::frs) nx.nat :=
     .cons J J h h f dk rd ds tm _ cs _ frs β nx.nat nx ⟨C.le,b,AV,tmps,W,C.B,C.D,C.rn,hW,Ud b AV⟩ (Ae _) (ec.refl _ _ _) C.S
    have HU:VR J (.fn g' [] []) (.func (.func g'.nat) #[] #[]):=.fn g' [] [] [] [] rfl rfl (λi c v h=>by simp at h) (λi c v h=>by simp at h);obtain⟨dd,LQ,D1⟩:=jJ (c0:=c0) (cs0:=cs0) C4 hx G C.H HU (a_.cons YD HE) hS e4;have G6:∀c',o.op≠.defer c':=λc' C6=>by rw[h1] at C6;cases C6
    have DO:c.args.map (ev tmps AV)=⟨c.args.toList.map (ev tmps AV)⟩:=by apply Cr;simp
    have Na:dd={ target:=.fn (.func g'.nat) #[],args:=⟨u'::c.args.toList.map (ev tmps AV)⟩ }:=by
     simp[Deferred.ofValue] at LQ;exact LQ.symm
    subst Na
    have hex:∀{r:Result Next},(invoke (.fn (.func g'.nat) #[]) ⟨u'::c.args.toList.map (ev tmps AV)⟩).run P w=r->(execOp (ev tmps AV) o).run P w=r:=λ{r} hr=>by
     have CR:0<Made.depth:=by decide
     obtain⟨nn,J7⟩:∃nn,P.types.size+Made.depth=nn+1:=⟨P.types.size+Made.depth-1,by omega⟩
     have Ho:=a7s (w:=w) hm2 nn u';rw[<-J7] at Ho;have w_:(program).run P w=.ok P w:=rfl;simp only[invoke] at hr;simp only[execOp,h1,resolve,h2,DO,Hh,Sem.run_bind,Sem.run_pure,Result.andThen_ok,invoke,callMethod];have GB:List.take c.args.size (List.map (ev tmps AV) c.args.toList)=List.map (ev tmps AV) c.args.toList:=Bz (by simp);simp[w_,Ho,GB];simpa using hr
    rcases D1 with⟨gg,all,i1,i2⟩|⟨ll,gg,tt,x,y,i1,i2⟩|⟨x,u,i1,i2,i3⟩
    ·exact cb.steps (Steps.one (jW (a:=⟨tmps,AV⟩) ho CE G6 (hex i1))) i2
    ·exact cb.steps (Steps.one (lZ (a:=⟨tmps,AV⟩) ho CE G6 (hex i1))) i2
    ·refine cb.steps (Steps.one (c9 (a:=⟨tmps,AV⟩) ho CE G6 (hex i1))) ?_
     rw[put_eq];simp only[mQ,eU] at i3;exact L7 C.H (Ae _) (ec.refl _ _ _) i2 HM C.D C.rn i3
   ·cases e3
  |dfr x xs =>
   obtain⟨c,fo,h1,h2,rfl,rfl⟩:=aAT hb.symm;simp only[G3] at e1
   split at e1
   ·cases e1
   have np:o.op.operands=#[fo]++c.args:=by rw[h1];simp[Op.operands,Call.operands,h2]
   obtain⟨fv,LN,e2⟩:=fJ e1;have II:=iT (ds:=AV) C.H.jt (hT.sub (λy hy=>by rw[np];simp at hy;simp[hy])) LN;obtain⟨vs,Lq,e3⟩:=sT e2;have HE:=oH (ds:=AV) C.H.jt (hT.sub (λy hy=>by rw[np];simp at hy;simp[hy])) Lq
   split at e3
   ·rename_i g' fs caps
    obtain⟨ua,ub,hfu,h3,h4⟩:=II.uu;rw[eS,eS,eU] at e3;have DO:c.args.map (ev tmps AV)=⟨c.args.toList.map (ev tmps AV)⟩:=by apply Cr;simp
    have DI:b.roundOf=none:=by
     have:=C.B.ro
     cases GF:b.roundOf with
     |none=>rfl
     |some bl=>rw[GF] at this;exact this.elim
    have hex:(execOp (ev tmps AV) o).run P w=.ok (.defer { target:=.fn (.func g'.nat) ⟨ub⟩,args:=⟨ua⟩++⟨c.args.toList.map (ev tmps AV)⟩ }) w:=by
     simp[execOp,h1,resolve,h2,DO,hfu,Deferred.ofValue]
    refine cb.steps (Steps.one (step_defer (a:=⟨tmps,AV⟩) ho CE DI hex)) ?_;rw[put_eq];have CA:a_ J (fs++(vs++caps)) ((ua++c.args.toList.map (ev tmps AV))++ub):=by rw[Aj];exact h3.append (HE.append h4)
    have hD:=mg.call g'.nat _ _ _ ds AV CA C.D;rw[iF] at hD;have a5N:((⟨ua⟩:Array Value)++⟨c.args.toList.map (ev tmps AV)⟩)=⟨ua++c.args.toList.map (ev tmps AV)⟩:=by apply Cr;simp
    rw[a5N];exact L7 C.H (Ae _) (ec.refl _ _ _) VR.undef HM hD (λh0=>absurd rfl h0) e3
   ·cases e3
  |rcv =>
   obtain⟨c,h1,h2,h3⟩:=aBB hb.symm;simp only[G3] at e1
   split at e1
   ·cases e1
   have B9:c.args=#[]:=by apply Cr;simp[h3]
   have DI:b.roundOf=none:=by
    have:=C.B.ro
    cases GF:b.roundOf with
    |none=>rfl
    |some bl=>rw[GF] at this;exact this.elim
   have G6:∀c',o.op≠.defer c':=λc' C6=>by rw[h1] at C6;cases C6
   have hex:(execOp (ev tmps AV) o).run P w=.ok .recover w:=by
    simp[execOp,h1,resolve,h2,B9,invoke,builtin]
   obtain⟨r1,r2⟩:Qh dk cs (.ok v)=.ok v/\qV (o.dst.map qn) .lz tm (λtm'=>ih f dk none ds tm' (.reg l k) cs h nx)=.ok v:=by
    unfold Qh at e1 ⊢
    split at e1
    ·exact⟨rfl,e1⟩
    ·split at e1
     ·exact⟨rfl,e1⟩
     ·cases e1
   refine cb.steps (Steps.one (a5J (a:=⟨tmps,AV⟩) ho CE G6 DI hex (a6Q C.B C.S r1))) ?_;rw[put_eq];rw[eU] at r2;exact L7 C.H (Ae _) (ec.refl _ _ _) VR.lz HM C.D C.rn r2
 ·obtain⟨hb,hd,HM,PW⟩:=eO hc (λe0=>by unfold fA at e0;cases e0;exact U1 rfl)
  have CE:=sS PW p.size (λj want t h1 h2=>p.rd t (oD h1 h2)) hg;rw[hd,eU] at e1;refine cb.steps (Steps.one (stepR_op_skip (a:=⟨tmps,AV⟩) (by rw[ho];simp[CE]))) ?_;rw[ho,Ar,put_eq];exact L7 C.H (Ae _) (ec.refl _ _ _) VR.undef HM C.D C.rn e1
end
section
variable {P:Program}{w0:cL}{w:World}{J J':ak}{h h':T O}{nx nx':Q}{tm:T V}{tmps:Array Value}{r v:V}{ops:Array Oper}{n β:Nat}{f:Q}{dk:Bool}{rd:Option Q}{ds:List Df}{k:K}{cs:List Fr}{fr b:Frame}{frs:List Frame}{c0:Frame}{cs0:List Frame}{ih:FQ}{fe:Q->CF}{i:Nat}{o:Oper}{rest:List Nat}{l:List PS}{ks:List Item}{AV:List Deferred}
theorem a2H{sz:Nat}:∀{ps:List (Nat×X)}{t:T V}{k:T V->aa},uF tm sz ps t k=.ok r->∃t',(∀k',uF tm sz ps t k'=k' t')/\k t'=.ok r
 |[],t,k,e=>⟨t,λ_=>rfl,e⟩
 |(i,x)::ps,t,k,e=>by
  simp only[uF] at e;obtain⟨c,h1,e⟩:=fJ e;obtain⟨l,hl,e⟩:=rV e;rw[cK] at e;obtain⟨hg,e⟩:=bQ e;rw[dB] at e;obtain⟨t',h2,h3⟩:=a2H e;refine⟨t',λk'=>?_,h3⟩;simp only[uF];rw[kH h1,di hl,cK,hg];simp only[gd,dB];exact h2 k'
theorem a0X{b:AB}{k:O->(Q->V)->aa}(e:aK b tm k=.ok r):∃ob mk,AE b tm ob mk/\k ob mk=.ok r:=by
 cases b with
 |al ty n t=>exact⟨_,_,λ_=>rfl,e⟩
 |bx ty n x =>
  simp only[aK] at e;obtain⟨c,h1,e⟩:=fJ e;obtain⟨l,hl,e⟩:=rV e;rw[cK] at e;obtain⟨hg,e⟩:=bQ e;rw[dB] at e;exact⟨_,_,λk'=>by simp only[aK,kH h1,di hl,cK,hg,gd,dB],e⟩
 |bsl ty sz len t ps =>
  simp only[aK] at e;obtain⟨t',h1,h2⟩:=a2H e;rw[aF] at h2;exact⟨_,_,λk'=>by simp only[aK];rw[h1,aF],h2⟩
 |mkm=>exact⟨_,_,λ_=>rfl,e⟩
 |mks ty sz z len cap=>cases(show aa.bad 140=.ok r from e)
def Le(h h':T O):Prop:=∀q,h.ob q=.dead\/h'.ob q=h.ob q
theorem Le.of(hl:Le h h'){q:Q}(hq:h.ob q≠.dead):h'.ob q=h.ob q:=(hl q).resolve_left hq
theorem xD{k:Nat->T V->aa}(hl:Le h h'){q:Q}(e:fq (h.ob q) k=.ok r):h'.ob q=h.ob q:=hl.of λhd=>by rw[hd] at e;cases e
theorem zL{k:Nat->T V->aa}(hl:Le h h'){q:Q}(e:NW (h.ob q) k=.ok r):h'.ob q=h.ob q:=hl.of λhd=>by rw[hd] at e;cases e
theorem a3V{k:List (V×V)->aa}(hl:Le h h'){q:Q}(e:wZ (h.ob q) k=.ok r):h'.ob q=h.ob q:=hl.of λhd=>by rw[hd] at e;cases e
theorem yp(hl:Le h h'){o o':Q}{a a':Nat}{k k':Bool->aa}(hk:∀b,k b=.ok r->k' b=.ok r)(e:JA h o a o' a' k=.ok r):JA h' o a o' a' k'=.ok r:=by
 have lone:∀q,wX (h.ob q)=true->h'.ob q=h.ob q:=λq hq=>hl.of λhd=>by rw[hd] at hq;cases hq
 unfold JA at e ⊢;cases ho:o.beq o' with
 |true =>
  rw[ho] at e;simp only at e ⊢;cases ha:Nat.beq a a' with
  |true=>rw[ha] at e;exact hk _ e
  |false =>
   rw[ha] at e;simp only[bW] at e ⊢;obtain⟨h1,h2⟩:=bQ e;rw[lone _ h1,h1];exact hk _ h2
 |false =>
  rw[ho] at e;simp only[bW] at e ⊢;obtain⟨h1,h2⟩:=bQ e;have h3:=h1;rw[Ac] at h3;rw[lone _ h3.1,lone _ h3.2,h1];exact hk _ h2
theorem aAV{f:FK}{x y:V}{k k':Bool->aa}(hk:∀b,k b=.ok r->k' b=.ok r)(e:gA f x y k=.ok r):gA f x y k'=.ok r:=by
 unfold gA at e ⊢
 split at e
 ·split at e
  ·split at e
   ·exact hk _ e
   ·cases e
  ·cases e
 ·split at e
  ·split at e
   ·exact hk _ e
   ·cases e
  ·cases e
 ·split at e
  ·split at e
   ·obtain⟨h1,h2⟩:=bQ e
    simp only[h1];exact hk _ h2
   ·cases e
  ·cases e
theorem a2C:∀{fs:List FK}{l m:List V}{k k':Bool->aa},(∀b,k b=.ok r->k' b=.ok r)->fL fs l m k=.ok r->fL fs l m k'=.ok r
 |[],[],[],k,k',hk,e=>hk _ e
 |f::fs,x::xs,y::ys,k,k',hk,e=>by
  simp only[fL] at e ⊢;refine aAV (λb hb=>?_) e;cases b with
  |true=>exact a2C hk hb
  |false=>exact hk _ hb
 |[],_::_,_,_,_,_,e=>by cases e
 |[],[],_::_,_,_,_,e=>by cases e
 |_::_,[],_,_,_,_,e=>by cases e
 |_::_,_::_,[],_,_,_,e=>by cases e
theorem aDR(hl:Le h h'){s:KK}{x y:V}{k k':Bool->aa}(hk:∀b,k b=.ok r->k' b=.ok r)(e:gK s h x y k=.ok r):gK s h' x y k'=.ok r:=by
 unfold gK at e ⊢
 split at e
 ·split at e
  ·split at e
   ·exact hk _ e
   ·cases e
  ·cases e
 ·split at e
  ·split at e
   ·obtain⟨h1,h2⟩:=bQ e
    simp only[h1];exact hk _ h2
   ·cases e
  ·cases e
 ·split at e
  ·split at e
   ·exact a2C hk e
   ·cases e
  ·cases e
 ·split at e
  ·split at e
   ·exact yp hl hk e
   ·cases e
  ·cases e
theorem wE(hl:Le h h'){s:KK}{x:V}:∀{es:List (V×V)}{k:V->aa}{kn:aa},kR s h x es k kn=.ok r->kR s h' x es k kn=.ok r
 |[],_,_,e=>e
 |(y,v)::es,k,kn,e=>by
  simp only[kR] at e ⊢;refine aDR hl (λb hb=>?_) e;cases b with
  |true=>exact hb
  |false=>exact wE hl hb
theorem aMn(hl:Le h h'){m:oz}{a b:V}{k:Bool->aa}(e:Gv m h a b k=.ok r):Gv m h' a b k=.ok r:=by
 cases m<;>simp only[Gv] at e ⊢<;>first|exact e|skip
 split at e
 ·exact e
 ·split at e
  ·exact e
  ·exact yp hl (λ_ hb=>hb) e
  ·cases e
 ·cases e
theorem a7l{s:KK}{x:V}{k:aa}(e:jO s x k=.ok r):k=.ok r/\∀k',jO s x k'=k':=by
 unfold jO at e ⊢
 split at e
 ·split at e
  ·rw[cK,cK] at e
   obtain⟨h1,h2⟩:=bQ e;refine⟨h2,λk'=>?_⟩;simp only[cK,h1,gd]
  ·cases e
 ·exact⟨e,λ_=>rfl⟩
theorem aSZ(hl:Le h h'){pb:PB}{k:V->aa}(e:pK pb tm h k=.ok r):pK pb tm h' k=.ok r:=by
  cases pb
  case eq neg m x y =>
   simp only[pK] at e ⊢;obtain⟨a,ha,e⟩:=fJ e;obtain⟨b,hb,e⟩:=fJ e;rw[kH ha,kH hb];exact aMn hl e
  case ctu x=>cases(show aa.bad 140=.ok r from e)
  case cfu ty n x=>cases(show aa.bad 140=.ok r from e)
  case ld1 x =>
   simp only[pK] at e ⊢;obtain⟨a,ha,e⟩:=fJ e;rw[kH ha];rcases pU e with⟨o,off,rfl,e⟩|⟨y,rfl,e⟩
   ·simp only[vG] at e ⊢
    unfold Jn at e ⊢;rw[bW] at e ⊢;rw[xD hl e];exact e
   ·simp only[vG] at e ⊢
    cases y<;>simp only[Li] at e ⊢<;>first|cases e|skip
    rw[bW] at e ⊢;rw[zL hl e];exact e
  case ldn n x =>
   simp only[pK] at e ⊢;obtain⟨a,ha,e⟩:=fJ e;rw[kH ha];rcases pU e with⟨o,off,rfl,e⟩|⟨y,rfl,e⟩
   ·simp only[vG] at e ⊢
    unfold mW at e ⊢;rw[bW] at e ⊢;rw[xD hl e];exact e
   ·simp only[vG] at e ⊢
    cases y<;>simp only[tv,eo] at e ⊢<;>first|cases e|skip
    rw[bW] at e ⊢;rw[zL hl e];exact e
  case lk s ok z m key =>
   simp only[pK] at e ⊢;obtain⟨a,ha,e⟩:=fJ e;obtain⟨b,hb,e⟩:=fJ e;rw[kH ha,kH hb];obtain⟨e,hc⟩:=a7l e;rw[hc]
   split at e
   ·exact e
   ·rw[bW] at e ⊢
    rw[a3V hl e];obtain⟨es,D8,e⟩:=uX e;have hm:∀kk:List (V×V)->aa,wZ (h.ob _) kk=kk es:=λkk=>by rcases D8 with D8|D8<;>rw[D8]<;>rfl
    rw[hm];cases ok with
    |true=>exact wE hl e
    |false=>exact wE hl e
   ·cases e
  case lenM x =>
   simp only[pK] at e ⊢;obtain⟨a,ha,e⟩:=fJ e;rw[kH ha]
   split at e
   ·exact e
   ·rw[bW] at e ⊢
    rw[a3V hl e];exact e
   ·cases e
  all_goals exact(a36 (by rfl) h h').symm.trans e
theorem Le.made{ob:O}(hd:h.ob nx=.dead):Le h (h.put .dead ob nx):=λq=>by
 rw[bZ];split
 ·subst_vars;exact .inl hd
 ·exact .inr rfl
end
section
variable {P:Program}{w0:cL}{w w':World}{J J':ak}{h h':T O}{nx nx':Q}{tm:T V}{tmps:Array Value}{r v:V}{ops:Array Oper}{n β:Nat}{f:Q}{dk:Bool}{rd:Option Q}{ds:List Df}{k:K}{cs:List Fr}{fr b:Frame}{frs:List Frame}{c0:Frame}{cs0:List Frame}{ih:FQ}{fe:Q->CF}{i:Nat}{o:Oper}{rest:List Nat}{l:List PS}{ks:List Item}{AV:List Deferred}
theorem Ctx.keep(C:Ctx P w0 w J h β nx f dk rd ds cs frs b AV)(H':HR P w0 J' h' nx' w')(hn:nx.nat<=nx'.nat)(K:ec β J h J' h'):Ctx P w0 w' J' h' β nx' f dk rd ds cs frs b AV :=
 ⟨H',Bi C.le hn,C.B.mono K.le,C.D.mono K.le,C.rn,C.S.mono K⟩
theorem a7x(C4:j_ P w0 fe)(hx:mG P)(G:Good P w0 ih)(C:Ctx P w0 w J h β nx f dk rd ds cs frs b AV)(hi:i<=ops.size)(hk:KS P (nt P f.nat) k ks)(hT:TR J (nt P f.nat) tm tmps)
  (e:k7 fe ih f dk rd ds tm ((ops.toList.drop i).map λo=>.op (fR P (nt P f.nat) ops o)) k cs h nx=.ok v):cb P w0 (lone (b.atR ⟨tmps,AV⟩ (.inRegion ops (List.range' i (ops.size-i))::ks)) (frs++c0::cs0) w) c0 cs0 v:=by
 by_cases AL:i<ops.size
 ·have ho:ops[i]?=some ops[i]:=by simp[AL]
  rw[aCX ho,Ba] at e
  have hr:List.range' i (ops.size-i)=i::List.range' (i+1) (ops.size-(i+1)):=by
   obtain⟨m,hm⟩:∃m,ops.size-i=m+1:=⟨ops.size-i-1,by omega⟩
   rw[hm,Fs,show ops.size-(i+1)=m by omega]
  rw[hr];exact Y' C4 hx G C (Pt.sync hT ho hk) e
 ·have hr:ops.size-i=0:=by omega
  rw[hr,List.range'_zero];have hd:ops.toList.drop i=[]:=List.drop_eq_nil_of_le (by simp;omega);rw[hd] at e;exact cb.steps (Steps.one stepR_region_end) (C.plain G hk hT e)
theorem aET{g:Option (Q×Bool)}{pb:PB}{q:Q}(e:k7 fe ih f dk rd ds tm (.lu g pb q::l) k cs h nx=.ok v):ih f dk rd ds tm (.reg l k) cs h nx=.ok v/\(gJ g tm=some true->pK pb tm h .ok=.ok (tm.get V.undef q)):=by
 have key:(pK pb tm h λv=>gV q tm λu=>gd (MN v u) 93 (ih f dk rd ds tm (.reg l k) cs h nx))=.ok v->ih f dk rd ds tm (.reg l k) cs h nx=.ok v/\pK pb tm h .ok=.ok (tm.get V.undef q):=λe=>by
  obtain⟨x,h1,h2⟩:=qS e;rw[dI] at h2;obtain⟨h3,h4⟩:=bQ h2;rw[<-aMo h3];exact⟨h4,h1⟩
 unfold k7 at e;cases g with
 |none=>exact⟨(key e).1,λ_=>(key e).2⟩
 |some qw =>
  obtain⟨q',want⟩:=qw;simp only[dI] at e;simp only[gJ]
  split at e
  ·rename_i t ht
   rw[ht]
   split at e
   ·have:=key (by rw[<-e];simp only[dI]);exact⟨this.1,λ_=>this.2⟩
   ·rename_i hb;exact⟨e,λh=>by simp[hb] at h⟩
  ·rename_i ht;rw[ht];exact⟨e,λh=>by simp at h⟩
  ·cases e
theorem x6(e:k7 fe ih f dk rd ds tm (.op fA::l) k cs h nx=.ok v):False:=by cases e
theorem a6J{pl:List Pl}{E:Nat}{r:List Nat}{qf:Nat->Option Q}(C4:j_ P w0 fe)(hx:mG P)(G:Good P w0 ih)(C:Ctx P w0 w J h β nx f dk rd ds cs frs b AV)(hk:KS P (nt P f.nat) k ks)(L:LZ P (nt P f.nat) ops J h β nx tm tmps pl E r qf)
  (e:k7 fe ih f dk rd ds tm (pl.map (vg P (nt P f.nat) ops)) k cs h nx=.ok v):cb P w0 (lone (b.atR ⟨tmps,AV⟩ (.inRegion ops r::ks)) (frs++c0::cs0) w) c0 cs0 v:=by
 cases pl with
 |nil =>
  have CA:=L.atEnd;have L0:=L;rw[<-Ao r] at L0;obtain⟨w',J',tmps',s,H',K,L'⟩:=LZ.v_ (ds:=AV) b ks (frs++c0::cs0) L0 CA C.H;rw[Ao] at s;refine cb.steps (s.trans (Steps.one stepR_region_end)) ?_;exact(C.keep H' (Ae _) K).plain G hk L'.done e
 |cons p pl =>
 rw[Ba] at e;cases p with
 |lu i =>
  simp only[vg] at e
  split at e
  ·rename_i o ho
   split at e
   ·rename_i q g pb hc
    obtain⟨e1,e2⟩:=aET e
    have L':=L.lu (λo' d g' pb' FM C6 hp=>by
     rw[ho] at FM;cases FM;rw[hc] at C6;simp only[CO.mk.injEq,OB.p.injEq] at C6;obtain⟨rfl,rfl,rfl⟩:=C6;by_cases hb:CO.mk (some q) g (.p pb)=fA
     ·cases hb
     obtain⟨_,hd,_,_⟩:=eO hc hb;cases GV:o.dst with
     |none=>rw[GV] at hd;cases hd
     |some x =>
      rw[GV] at hd;cases hd;exact⟨x,rfl,e2 hp⟩)
    exact C.go G (.drawn ops pl E r qf k ks hk) ⟨L',rfl⟩ e1
   ·exact(x6 e).elim
  ·exact(x6 e).elim
 |run i =>
  obtain⟨fI,hfI,_⟩:=vV L.ck;have BD:i<ops.size:=by rw[<-L.sc.len];exact(Ab.1 hfI).1
  obtain⟨o,ho⟩:∃o,ops[i]?=some o:=⟨ops[i],by simp[BD]⟩
  simp only[vg,ho] at e;cases hw:JS P o with
  |true =>
   obtain⟨r1,r2,rfl,Ma⟩:=L.ahead ho hw;obtain⟨w',J',tmps',s,H',K,L'⟩:=LZ.v_ (ds:=AV) b ks (frs++c0::cs0) L Ma C.H;exact cb.steps s (Y' C4 hx G (C.keep H' (Ae _) K) (Pt.drawn L' ho hw hk) e)
  |false =>
   have JJ:LD (bU P o)=false:=by
    unfold JS at hw;rw[Fc] at hw;exact hw.1
   obtain⟨d,g,ob,hc⟩:∃d g ob,fR P (nt P f.nat) ops o=.mk d g ob:=by
    cases h0:fR P (nt P f.nat) ops o with|mk d g ob=>exact⟨d,g,ob,rfl⟩
   rw[hc] at e;rcases a4c e with⟨hg,e1⟩|⟨hg,U1,e1⟩
   ·have Hm:ob≠.p .bad:=λe0=>by subst e0;cases e1
    obtain⟨hb,hd,HM,PW⟩:=eO hc (Nx Hm);rw[<-hb] at JJ;cases ob with
    |p pb =>
     simp only[G3] at e1;obtain⟨x,h1,h2⟩:=qS e1;rw[hd,eU] at h2
     have L':=L.eager (nx':=nx) (h':=h) (v:=x) (qf':=λj=>if j=i then none else qf j) ho hw (Ae _) (λ_ _=>rfl) (.inl rfl) (λj hj=>by simp[hj]) (λq hq=>by simp at hq)
      ⟨d,g,_,hc,Nx Hm,.inr ⟨hg,.inl ⟨pb,rfl,h1⟩⟩⟩ (λ_ _ _ _ _ _ he _=>he)
     exact C.go G (.drawn ops pl _ r _ k ks hk) ⟨L',rfl⟩ h2
    |a ab =>
     simp only[G3] at e1;obtain⟨oo,mk,hA,h2⟩:=a0X e1;rw[c8,hd,eU,dC] at h2;have D0:=C.H.fresh nx (Ae _);have LK:nx.nat<=nx.succ.nat:=by rw[Q.kl];omega
     have AL:nx.nat < nx.succ.nat:=by rw[Q.kl];omega
     have L':=L.eager (nx':=nx.succ) (h':=h.put .dead oo nx) (v:=mk nx) (qf':=λj=>if j=i then some nx else qf j) ho hw LK (λq hq=>by rw[bZ,Bf (λe=>by subst e;omega)])
      (.inr λpb YI=>by rw[<-hb] at YI;cases YI) (λj hj=>by simp[hj]) (λq hq=>by
       simp at hq;subst hq;exact⟨AL,λj hj DY hq=>by have:=L.ql j hj DY _ hq;omega⟩)
      ⟨d,g,_,hc,Nx Hm,.inr ⟨hg,.inr ⟨ab,oo,mk,nx,rfl,hA,by simp,D0,by rw[bZ,Br rfl],C.le,AL,rfl⟩⟩⟩ (λ_ _ _ _ _ _ he _=>aSZ (Le.made (C.H.dead nx (Ae _))) he)
     have C':=C.keep (C.H.pend D0 oo LK AL) LK ⟨ak.le_refl _,λq hq hn=>⟨hn,by rw[bZ,Bf (λe=>by subst e;have:=C.le;omega)]⟩⟩;exact C'.go G (.drawn ops pl _ r _ k ks hk) ⟨L',rfl⟩ h2
    |w wb=>cases JJ
    |call x xs=>cases JJ
    |inv ms x xs=>cases JJ
    |dfr x xs=>cases JJ
    |rcv=>cases JJ
   ·have Hm:CO.mk d g ob≠fA:=λe0=>by unfold fA at e0;cases e0;exact U1 rfl
    obtain⟨hb,hd,HM,PW⟩:=eO hc Hm;rw[hd,eU] at e1
    have L':=L.eager (nx':=nx) (h':=h) (v:=V.undef) (qf':=λj=>if j=i then none else qf j) ho hw (Ae _) (λ_ _=>rfl) (.inl rfl) (λj hj=>by simp[hj]) (λq hq=>by simp at hq)
     ⟨d,g,_,hc,Hm,.inl ⟨hg,rfl⟩⟩ (λ_ _ _ _ _ _ he _=>he)
    exact C.go G (.drawn ops pl _ r _ k ks hk) ⟨L',rfl⟩ e1
end
end Go.CM
end
