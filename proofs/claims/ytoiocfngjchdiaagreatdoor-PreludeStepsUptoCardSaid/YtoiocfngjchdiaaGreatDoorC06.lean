import Derived.Test.YtoiocfngjchdiaaGreatDoorC05
set_option linter.all false
noncomputable section
namespace Go.CM
section
variable {P:Program}{w0:Base}{w:World}{J J':Rho}{h h':T O}{nx nx':Q}{tm:T V}{tmps:Array Value}{v:V}{ops:Array Oper}{n β:Nat}{f:Q}{dk:Bool}{rd:Option Q}{ds:List Df}{k:K}{cs:List Fr}{fr b:Frame}{frs:List Frame}{c0:Frame}{cs0:List Frame}{ih:E9}
theorem TR.put{x:V}{u:Value}{d:Option Nat}(hT:TR J n tm tmps)(hd:∀y,d=some y->y<n)(hv:VR J x u):TR J n (sR tm d x) (nS tmps d u):=by
 refine⟨by rw[rS];exact hT.size,λt=>?_⟩;rw[fX,wT (λy hy=>Bt (hd y hy) hT.size)];split
 ·exact hv
 ·exact hT.rel t
theorem vF{a:Act}{i:Nat}{o:Oper}{rest:List Nat}{ks:List Item}{u:Value}{tmps:Array Value}{AU:List Deferred}(ho:ops[i]?=some o):(b.atR ⟨tmps,AU⟩ (.inRegion ops (i::rest)::ks)).finish u=b.atR ⟨nS tmps o.dst u,AU⟩ (.inRegion ops rest::ks):=by
 rw[Frame.finish_atR,ho,<-put_eq];rfl
theorem aCQ{ob:OB}(hw:K7 ob=true):ob≠.p .bad:=λe=>by subst e;cases hw
theorem aB9{i:Nat}{o:Oper}(ho:ops[i]?=some o):ops.toList.drop i=o::ops.toList.drop (i+1):=by
 have hi:i<ops.toList.length:=by simpa using(Ai.1 ho).1
 rw[Dv hi];congr 1
 have:=(Ai.1 ho).2
 simpa using this
theorem tH(G:Good P w0 ih)(H:HR P w0 J' h' nx' w){J0:Rho}{h0:T O}{nx0:Q}{x:V}{u:Value}(W:WR P J0 h0 β nx0 f dk rd ds tm k fr)(hn:nx0.nat<=nx'.nat)(hK:Keep nx0.nat J0 h0 J' h')(hS:StkR P J' h' cs frs β)(hv:VR J' x u)
  (e:l8 ih (.mk f dk rd ds tm k) cs x h' nx'=.ok v):Final P w0 (lone (fr.finish u) (frs++c0::cs0) w) c0 cs0 v:=by
 obtain⟨hle,b,AU,tmps,C,hB,hD,Iw,hW,hC⟩:=W;have EK:β<=nx'.nat:=Bg hle hn;have X:Ctx P w0 w J' h' β nx' f dk rd ds cs frs b AU:=⟨H,EK,hB.mono hK.le,hD.mono hK.le,Iw,hS⟩
 cases hW with
 |sync ops i o d g ob k ks ho hc hw hk =>
  obtain⟨hT,rfl⟩:=hC;obtain⟨_,hd,hx,_⟩:=eI hc (NW (aCQ hw));simp only[l8] at e;rw[hd,eP] at e;rw[vF (a:=⟨tmps,AU⟩) ho];have hi:=(Ai.1 ho).1;exact X.go G (.sync ops (i+1) k ks hi hk) ⟨(hT.mono hK.le).put hx hv,rfl⟩ e
 |drawn ops i o d g ob pl E r qf k ks ho hc hw hk =>
  obtain⟨hL,rfl⟩:=hC;obtain⟨hb,hd,hx,_⟩:=eI hc (NW (aCQ hw));simp only[l8] at e;rw[hd,eP] at e;rw[vF (a:=⟨tmps,AU⟩) ho];exact X.go G (.drawn ops pl (E ||| 2^i) r qf k ks hk) ⟨hL.sync ho (by unfold Ir;rw[<-hb,hw];rfl) hx hn hK hv,rfl⟩ e
 |inrf l bl N k ks hl hk =>
  obtain⟨hT,rfl⟩:=hC;simp only[l8] at e;exact X.go G (.erf l bl N k ks (hK.le _ _ hl) hk) ⟨hT.mono hK.le,rfl⟩ e
 |rtn ks=>simp only[l8] at e;cases e
theorem aw{l:Q}{AU:List Deferred}(G:Good P w0 ih)(C:Ctx P w0 w J h β nx f dk rd ds cs frs b AU)(hrd:rd=some l){j:Jump}{jc:Option Code}(hj:JR j jc){bb:Bool}(Lg:bb=jc.isNone){a:Act}{todo:List Item}
  (BS:∀{bl:Nat}{u:Value}{w':World}{c:Frame}{cs:List Frame},b.roundOf=some bl->b.kind=.normal->(Instr.endRound bl jc).run P w=.ok u w'->step P (lone (b.atR a todo) (c::cs) w)=.next (lone (c.finish u) cs w'))
  (e:fw ih l j bb cs h nx=.ok v):Final P w0 (lone (b.atR a todo) (frs++c0::cs0) w) c0 cs0 v:=by
 refine aFz C hrd hj Lg BS (λ{c BT Mf IG w' h' u x} h1 h2 H' hK hv e'=>?_) e;subst h1;subst h2;have hS:=C.S;cases hS with
 |cons J0 _ hh0 _ f' NO JJ DH EV k' _ _ _ β0 _ nx0 hf hn hK0 hs =>
 exact tH G H' hf (Bg hn C.le) (hK0.trans (hK.down (Bg hn C.le))) (hs.mono (hK.down (Bg hf.le (Bg hn C.le)))) hv e'
theorem aET{AU:List Deferred}(C:Ctx P w0 w J h β nx f dk rd ds cs frs b AU){d:Nat}:Ctx P w0 { w with drawn:=d } J h β nx f dk rd ds cs frs b AU:=⟨C.H.drawn d,C.le,C.B,C.D,C.rn,C.S⟩
theorem qk{r:List Nat}:∀{D:Nat->Prop},Ordr ops D r->r.Nodup/\(∀i∈r,i<ops.size/\¬D i)/\∀i,i<ops.size->D i\/i∈r:=by
 induction r with
 |nil =>
  intro D h;cases h with|nil h=>exact⟨List.nodup_nil,by simp,λi hi=>.inl (h i hi)⟩
 |cons i r ih =>
  intro D h;cases h with
  |cons hi hn he hr =>
  obtain⟨h1,h2,h3⟩:=ih hr;refine⟨Ea.2 ⟨λhm=>(h2 i hm).2 (.inr rfl),h1⟩,λj hj=>?_,λj hj=>?_⟩
  ·rcases Au.1 hj with rfl|hj
   ·exact⟨hi,hn⟩
   ·exact⟨(h2 j hj).1,λhD=>(h2 j hj).2 (.inl hD)⟩
  ·rcases h3 j hj with(h4|rfl)|h4
   ·exact .inl h4
   ·exact .inr (by simp)
   ·exact .inr (by simp[h4])
theorem aB4{fe:Q->CF}{AU:List Deferred}{c:Code}{ks:List Item}(hm:P.follows .mixedOrders=true)(G:Good P w0 ih)(C:Ctx P w0 w J h β nx f dk rd ds cs frs b AU)(hk:KS P (nt P f.nat) k ks)(hT:TR J (nt P f.nat) tm tmps)
  (Qu:∀x ps BV body,c≠.rangeFunc x ps BV body) (e:lJ ih f dk rd ds tm (cS P (nt P f.nat) c) k cs h nx fe=.ok v):Final P w0 (lone (b.atR ⟨tmps,AU⟩ (.code c::ks)) (frs++c0::cs0) w) c0 cs0 v:=by
 cases c with
 |skip=>exact Final.steps (Steps.one stepR_skip) (C.plain G hk hT e)
 |label l=>exact Final.steps (Steps.one stepR_label) (C.plain G hk hT e)
 |seq x y=>exact Final.steps (Steps.one stepR_seq) (C.plain G (.code x _ _ (.code y _ _ hk)) hT e)
 |block id c=>exact Final.steps (Steps.one stepR_block) (C.plain G (.code c _ _ (.blk id _ _ hk)) hT e)
 |loop c=>exact Final.steps (Steps.one stepR_loop) (C.plain G (.code c _ _ (.lp c _ _ hk)) hT e)
 |scope c=>exact Final.steps (Steps.one mQ) (C.plain G (.code c _ _ (.sc c _ _ hk)) hT e)
 |cond x y z =>
  simp only[cS,lJ] at e;obtain⟨c,h1,e1⟩:=fA e;have hc:=hY (ds:=AU) C.H.glob (λt _=>hT.rel t) h1;obtain⟨bb,Lg,e2⟩:=uK e1;subst Lg;refine Final.steps (Steps.one (stepR_cond (a:=⟨tmps,AU⟩) hc.inv_bool)) ?_;cases bb with
  |true=>exact C.plain G (.code y _ _ hk) hT e2
  |false=>exact C.plain G (.code z _ _ hk) hT e2
 |exit id =>
  simp only[cS,lJ] at e;rcases aCj hk e with⟨k',OM,h1,h2,h3⟩|⟨h1,h2⟩
  ·exact Final.steps (Steps.one (stepR_exit h2)) (C.plain G h3 hT h1)
  ·split at h1
   ·cases h1
   ·exact aw G C rfl (.exit id) rfl (λhb IB hr=>stepR_round_exit hb IB h2 hr) h1
 |ret =>
  simp only[cS,lJ] at e
  split at e
  ·have DA:=C.B.ro
   cases FY:b.roundOf with
   |some bl=>rw[FY] at DA;exact DA.elim
   |none=>exact Final.steps (Steps.one (stepR_ret FY)) (C.go G (.rtn _) ⟨hT,rfl⟩ e)
  ·exact aw G C rfl .ret rfl (λhb IB hr=>stepR_round_ret hb IB hr) e
 |region id ops draw =>
  cases draw with
  |false =>
   refine Final.steps (Steps.one stepR_region) ?_
   have:=Cur.sync (P:=P) (J:=J) (h:=h) (β:=β) (nx:=nx) (tm:=tm) ops 0 k ks (Di _) hk
   rw[Fx,Gh] at this;exact C.go G this ⟨hT,by rw[List.range_eq_range']⟩ e
  |true =>
   simp only[cS,lJ] at e;refine Final.steps (Steps.one stepR_region_draw) ?_;have C':=aET (d:=w.drawn+1) C;unfold aDO at e;simp only at e
   split at e
   ·rename_i hg
    simp only[Ac] at hg;obtain⟨⟨⟨g1,g2⟩,g3⟩,g4⟩:=hg
    have hE:eg ops:=λi o ho e he hb=>by
     have:=y3 g2 i o (by rw[Cn];exact ho) e he hb
     omega
    have hr:=yJ (P:=P) hm hE (w.tape w.drawn (.order b.fn id));obtain⟨r1,r2,r3⟩:=qk hr;have hL:=LZ.start (h:=h) (β:=β) (nx:=nx) hT ⟨Aa g1,hE,g3⟩ g4 hr r1 (λi hi=>(r2 i hi).1) (λi hi=>(r3 i hi).resolve_left (λh=>h)) (λ_=>none);exact C'.go G (.drawn ops _ 0 _ _ k ks hk) ⟨hL,rfl⟩ e
   ·exact C'.go G (tmps:=tmps) (.bad [] k) trivial e
 |rangeFunc x ps BV body=>exact absurd rfl (Qu _ _ _ _)
 |goto l=>cases e
 |refuse why=>cases e
end
section
variable {P:Program}{w0:Base}{w:World}{J J':Rho}{h h':T O}{nx nx':Q}{tm:T V}{tmps:Array Value}{v:V}{ops:Array Oper}{n β:Nat}{f:Q}{dk:Bool}{rd:Option Q}{ds:List Df}{k:K}{cs:List Fr}{fr b:Frame}{frs:List Frame}{c0:Frame}{cs0:List Frame}{ih:E9}{fe:Q->CF}
structure Grw (w w':World):Prop where
 size:w.heap.size<=w'.heap.size
 old:∀b,b<w.heap.size->w'.heap[b]?=w.heap[b]?
 os:w'.os=w.os
 tape:w'.tape=w.tape
 output:w'.output=w.output
theorem HR.grow{w':World}(H:HR P w0 J h nx w)(g:Grw w w'):HR P w0 J h nx w' :=
 ⟨Bg H.size g.size,λb hb=>(g.old b (Bt hb H.size)).trans (H.old b hb),g.os.trans H.os,g.tape.trans H.tape,g.output.trans H.output,H.glob,H.fresh,λq b N e=>Bt (H.lt q b N e) g.size,
  λq b N e=>(H.obj q b N e).mono (Rho.le_refl _) (g.old b (H.lt q b N e)),H.sep,H.dead,H.base⟩
def yQ(P:Program)(w0:Base)(g:Nat)(t:GT):Prop:=(∃fn,P.funcs[g]?=some fn/\fn.body.isSome=true/\(fn.name== "runtime.NumGoroutine")=false) /\
 ∀(w:World)(J:Rho)(vs:List V)(us:List Value)(k:V->Res)(r:V),P.globals.size<=w.heap.size->Grw w0.toWorld w->w0.rho.le J->VRs J vs us->zy t vs k=.ok r ->
  ∃x u,k x=.ok r/\VR J x u/\∀c cs,∃w',Grw w w'/\Steps P (lone (Frame.enter P g ⟨us⟩ .normal) (c::cs) w) (lone (c.finish u) cs w')
def GorOK(P:Program)(w0:Base)(g:Nat)(v:V):Prop :=
 ∀(w:World)(J:Rho)(us:List Value),P.globals.size<=w.heap.size->Grw w0.toWorld w->w0.rho.le J->VRs J [.rr .e] us ->
  ∃u,VR J v u/\∀c cs,∃w',Grw w w'/\Steps P (lone (Frame.enter P g ⟨us⟩ .normal) (c::cs) w) (lone (c.finish u) cs w')
def FeOK(P:Program)(w0:Base)(fe:Q->CF):Prop:=∀g:Nat,fe (qn g)=.none\/fe (qn g)=compF P g\/(∃t,fe (qn g)=.giv t/\yQ P w0 g t)\/∃v body rs,fe (qn g)=.gor v body rs/\compF P g=.mk body rs/\GorOK P w0 g v
theorem zk{g:Nat}{v:V}{body:C}{rs:List RV}(h:compF P g=.gor v body rs):False:=by
 unfold compF at h
 repeat' split at h
 all_goals cases h
theorem FeOK.mk(CT:FeOK P w0 fe){g:Nat}{body:C}{rs:List RV}(h:fe (qn g)=.mk body rs):compF P g=.mk body rs:=by
 rcases CT g with h0|h0|⟨t,h0,_⟩|⟨v,b,r,h0,_⟩
 ·rw[h0] at h;cases h
 ·rw[<-h0];exact h
 ·rw[h0] at h;cases h
 ·rw[h0] at h;cases h
theorem FeOK.gor(CT:FeOK P w0 fe){g:Nat}{v:V}{body:C}{rs:List RV}(h:fe (qn g)=.gor v body rs):compF P g=.mk body rs/\GorOK P w0 g v:=by
 rcases CT g with h0|h0|⟨t,h0,_⟩|⟨v,b,r,h0,h1⟩
 ·rw[h0] at h;cases h
 ·rw[h0] at h;exact(zk h).elim
 ·rw[h0] at h;cases h
 ·rw[h0] at h;cases h;exact h1
theorem aL7{args:List V}(h:Sj args=true):args=[.rr .e]:=by
 unfold Sj at h
 split at h
 ·rfl
 ·cases h
theorem zj{g:Nat}{t:GT}(h:compF P g=.giv t):False:=by
 unfold compF at h
 repeat' split at h
 all_goals cases h
def lS(P:Program):Prop:=∀(g:Nat)(m:Nat),compF P g=.ext m->∀(w:World)(J:Rho)(vs:List V)(us:List Value)(k:V->Res)(v:V),VRs J vs us->az m vs k=.ok v->∃x u,k x=.ok v/\VR J x u/\(callFunc g ⟨us⟩).run P w=.ok (.value u) w
theorem l5{g:Nat}{body:C}{rs:List RV}(h:compF P g=.mk body rs):∃fn c,P.funcs[g]?=some fn/\fn.body=some c/\(fn.name== "runtime.NumGoroutine")=false/\r7 P fn.results.toList=some rs/\body=cS P fn.ntmps c:=by
 unfold compF at h
 split at h
 ·cases h
 ·rename_i fn hf
  split at h
  ·split at h<;>cases h
  ·rename_i c hc
   split at h
   ·cases h
   ·rename_i hn
    split at h
    ·cases h
    ·rename_i AX Sy
     cases h;exact⟨fn,c,hf,hc,hn,Sy,rfl⟩
theorem nt_of{g:Nat}{fn:Func}(h:P.funcs[g]?=some fn):nt P g=fn.ntmps:=by simp[nt,h]
theorem aAG{vs:List V}{us:List Value}(hv:VRs J vs us)(m:Nat)(hm:us.length+m>=n):TR J n (dE vs 0 .nil) (⟨us⟩++Array.replicate m Go.undef):=by
 refine⟨by simp;omega,λt=>?_⟩;rw[gW];have hl:=hv.1;by_cases ht:t<vs.length
 ·rw[Bu ⟨by omega,by omega⟩,Ae,Fu (by simp;omega)]
  have XL:t<us.length:=by omega
  have:=hv.2 t vs[t] us[t] (by simp[ht]) (by simp[XL])
  simpa[Br,ht,XL] using this
 ·rw[Bc (by omega),Ae]
  have h1:(T.nil:T V).at t=V.undef:=T.get_nil _ _;rw[h1];by_cases h2:t<us.length+m
  ·rw[Array.getElem?_append_right (by simp;omega)]
   simp only[Dl];split
   ·exact VR.undef
   ·exact VR.undef
  ·rw[Gf (by simp;omega)]
   exact VR.undef
theorem pF{g:Nat}{vs:List V}{us:List Value}{body:C}{rs:List RV}(G:Good P w0 ih)(H:HR P w0 J h nx w)(hv:VRs J vs us)(hS:StkR P J h cs frs nx.nat)(hc:compF P g=.mk body rs)
  (e:(lT vs .e .nil λtm=>ih (qn g) dk none [] tm (.code body .nil) cs h nx)=.ok v):Final P w0 (lone (Frame.enter P g ⟨us⟩ (if dk then .deferred else .normal)) (frs++c0::cs0) w) c0 cs0 v:=by
 obtain⟨fn,c,h1,h2,h3,h4,rfl⟩:=l5 hc;rw[j4,show(Q.e:Q)=qn 0 from rfl,uJ] at e;have Ju:=nt_of h1;have hT:=aAG (n:=nt P g) hv ((fn.ntmps)-us.length) (by omega)
 let b:Frame:={ fn:=g,tmps:=#[],todo:=[],defers:=[],mode:=.run,kind:=if dk then .deferred else .normal }
 have X:Ctx P w0 w J h nx.nat nx (qn g) dk none [] cs frs b []:=⟨H,Af _,⟨by simp[b,dX],rfl,trivial,λh=>absurd rfl h⟩,.nil,λ_=>rfl,hS⟩
 have DS:Frame.enter P g ⟨us⟩ (if dk then .deferred else .normal)=b.atR ⟨⟨us⟩++Array.replicate (fn.ntmps-us.length) Go.undef,[]⟩ [.code c]:=by
  simp[Frame.enter,Frame.atR,h1,h2,b]
 rw[DS];refine X.plain (tm:=dE vs 0 .nil) G (.code c _ _ .nil) ?_ ?_
 ·rw[dX];exact hT
 ·rw[dX,Ju];exact e
theorem xg:∀{ps:List Nat}{vs:List V}{us:List Value}{tm:T V}{tmps:Array Value}{k:T V->Res},VRs J vs us->TR J n tm tmps->(∀t∈ps,t<n)->qq (ps.map qn) vs tm k=.ok v ->
  ∃tm',k tm'=.ok v/\ps.length=us.length/\TR J n tm' ((ps.zip us).foldl (λtmps (t,a)=>tmps.setIfInBounds t a) tmps)
 |[],[],us,tm,tmps,k,hv,hT,hp,e=>by rw[hv.inv_nil];exact⟨tm,e,rfl,hT⟩
 |[],_::_,us,tm,tmps,k,hv,hT,hp,e=>by cases e
 |_::_,[],us,tm,tmps,k,hv,hT,hp,e=>by cases e
 |p::ps,x::vs,us,tm,tmps,k,hv,hT,hp,e=>by
  obtain⟨u,Qc,rfl,h1,h2⟩:=hv.inv_cons;simp only[Bb,qq,xe] at e;have NJ:TR J n (tm.put V.undef x (qn p)) (tmps.setIfInBounds p u):=hT.put (d:=some p) (λy hy=>by cases hy;exact hp p (by simp)) h1;obtain⟨tm',a1,a2,a3⟩:=xg h2 NJ (λt ht=>hp t (by simp[ht])) e;exact⟨tm',a1,by simp[a2],a3⟩
theorem iR{fv:V}{uf:Value}{vs:List V}{us:List Value}{c:Fr}(CT:FeOK P w0 fe)(hx:lS P)(G:Good P w0 ih)(H:HR P w0 J h nx w)(Hg:VR J fv uf)(hv:VRs J vs us)(hS:StkR P J h (c::cs) (fr::frs) nx.nat)(e:cR fe ih fv vs (c::cs) h nx=.ok v) :
  ∃d,(Deferred.ofValue uf ⟨us⟩).run P w=.ok d w /\
   ((∃g all,(invoke d.target d.args).run P w=.ok (.enter g all) w/\Final P w0 (lone (Frame.enter P g all .normal) (fr::(frs++c0::cs0)) w) c0 cs0 v) \/
    (∃l g tmps x y,(invoke d.target d.args).run P w=.ok (.round l g tmps x y) w/\Final P w0 (lone (Frame.round l g tmps x y .normal) (fr::(frs++c0::cs0)) w) c0 cs0 v) \/
    ∃x u,(invoke d.target d.args).run P w=.ok (.value u) w/\VR J x u/\l8 ih c cs x h nx=.ok v):=by
 cases fv<;>simp only[cR] at e<;>first|cases e|skip
 ·rename_i f fs caps
  obtain⟨ua,ub,rfl,h1,h2⟩:=Hg.inv_fn;rw[eN,eN] at e;have B7:VRs J (fs++(vs++caps)) (ua++(us++ub)):=h1.append (hv.append h2);refine⟨{ target:=.fn (.func f.nat) ⟨ub⟩,args:=⟨ua⟩++⟨us⟩ },by simp[Deferred.ofValue],?_⟩;have DF:((⟨ua⟩:Array Value)++⟨us⟩)++⟨ub⟩=⟨ua++(us++ub)⟩:=by apply Cp;simp
  unfold fS at e;rw[kQ] at e
  split at e
  ·cases e
  ·rename_i m BQ
   have EM:compF P f.nat=.ext m:=by
    rcases CT f.nat with h0|h0|⟨t,h0,_⟩|⟨v,b,r,h0,_⟩
    ·rw[gX] at h0;rw[h0] at BQ;cases BQ
    ·rw[gX] at h0;rw[<-h0];exact BQ
    ·rw[gX] at h0;rw[h0] at BQ;cases BQ
    ·rw[gX] at h0;rw[h0] at BQ;cases BQ
   simp only at e;obtain⟨x,u,a1,a2,a3⟩:=hx f.nat m EM w J _ _ _ _ B7 e;refine .inr (.inr ⟨x,u,?_,a2,a1⟩);simp only[invoke,DF];exact a3
  ·rename_i t BQ
   obtain⟨⟨fn,g1,g2,g3⟩,hgiv⟩:yQ P w0 f.nat t:=by
    rcases CT f.nat with h0|h0|⟨t',h0,hg⟩|⟨v,b,r,h0,_⟩
    ·rw[gX] at h0;rw[h0] at BQ;cases BQ
    ·rw[gX] at h0;rw[h0] at BQ;exact(zj BQ).elim
    ·rw[gX] at h0;rw[h0] at BQ;cases BQ;exact hg
    ·rw[gX] at h0;rw[h0] at BQ;cases BQ
   simp only at e
   have BC:P.globals.size<=w.heap.size:=by
    rcases Fa P.globals.size with h0|h0
    ·omega
    ·obtain⟨N,hN⟩:=H.glob (P.globals.size-1) (by omega)
     have:=H.lt _ _ _ hN
     omega
   obtain⟨x,u,a1,a2,a3⟩:=hgiv w J _ _ _ _ BC ⟨H.size,H.old,H.os,H.tape,H.output⟩ H.base B7 e;refine .inl ⟨f.nat,⟨ua++(us++ub)⟩,?_,?_⟩
   ·simp only[invoke,DF]
    have Th:¬fn.body=none:=λh0=>by rw[h0] at g2;cases g2
    have Iy:¬fn.name= "runtime.NumGoroutine":=by simpa using g3
    simp[callFunc,g1,Th,Iy]
   ·obtain⟨w',TX,A7⟩:=a3 fr (frs++c0::cs0)
    refine Final.steps A7 ?_;cases hS with
    |cons J0 _ hh0 _ f' NO JJ DH EV k' _ _ _ β0 _ nx0 hf hn hK0 hs=>exact tH G (H.grow TX) hf hn hK0 hs a2 a1
  ·rename_i v0 body rs BQ
   obtain⟨EM,MX⟩:=FeOK.gor CT (g:=f.nat) (by rw[gX];exact BQ);obtain⟨fn,cc,g1,g2,g3,g4,_⟩:=l5 EM;refine .inl ⟨f.nat,⟨ua++(us++ub)⟩,?_,?_⟩
   ·simp only[invoke,DF]
    simp[callFunc,g1,g2,g3];intro hn;rw[hn] at g3;simp at g3
   ·simp only at e
    split at e
    ·rename_i hE
     rw[aL7 hE] at B7
     have BC:P.globals.size<=w.heap.size:=by
      rcases Fa P.globals.size with h0|h0
      ·omega
      ·obtain⟨N,hN⟩:=H.glob (P.globals.size-1) (by omega)
       have:=H.lt _ _ _ hN
       omega
     obtain⟨u,a2,a3⟩:=MX w J _ BC ⟨H.size,H.old,H.os,H.tape,H.output⟩ H.base B7;obtain⟨w',TX,A7⟩:=a3 fr (frs++c0::cs0);refine Final.steps A7 ?_;cases hS with
     |cons J0 _ hh0 _ f' NO JJ DH EV k' _ _ _ β0 _ nx0 hf hn hK0 hs=>exact tH G (H.grow TX) hf hn hK0 hs a2 e
    ·have:=pF (dk:=false) (c0:=c0) (cs0:=cs0) G H B7 hS EM (by rw[gX];exact e)
     simpa using this
  ·rename_i body rs BQ
   have EM:compF P f.nat=.mk body rs:=FeOK.mk CT (g:=f.nat) (by rw[gX];exact BQ);obtain⟨fn,cc,g1,g2,g3,g4,_⟩:=l5 EM;refine .inl ⟨f.nat,⟨ua++(us++ub)⟩,?_,?_⟩
   ·simp only[invoke,DF]
    simp[callFunc,g1,g2,g3];intro hn;rw[hn] at g3;simp at g3
   ·have:=pF (dk:=false) (c0:=c0) (cs0:=cs0) G H B7 hS EM (by rw[gX];exact e)
    simpa using this
 ·rename_i l
  obtain⟨bl,N,rfl,hl⟩:=Hg.inv_yld;rw[bV] at e;obtain⟨st,pend,fn,tm',ps,BV,body,B8,C0,e1⟩:=e8 e;obtain⟨r,hw,C1,hB,AL⟩:=H.loop hl C0;cases C1 with
  |mk _ _ FZ _ _ _ N' h1 h2 h3 h4 h5 h6 =>
  obtain⟨EV,a1,a2,a3⟩:=xg hv h4 h5 e1;refine⟨{ target:=.fn (.yield bl) #[],args:=#[]++⟨us⟩ },by simp[Deferred.ofValue],.inr (.inl ⟨bl,r.fn,(r.params.zip ⟨us⟩).foldl (λtmps (t,a)=>tmps.setIfInBounds t a) r.tmps,r.assign,r.body,?_,?_⟩)⟩
  ·have BC:us.length=r.params.size:=by rw[<-a2];simp
   simp[invoke,Instr.yield,run_getLoop hw,BC]
  ·let b:Frame:={ fn:=r.fn,tmps:=#[],todo:=[],defers:=[],mode:=.run,kind:=.normal,roundOf:=some bl }
   have X:Ctx P w0 w J h nx.nat nx (qn FZ) false (some l) [] (c::cs) (fr::frs) b []:=⟨H,Af _,⟨by simp[b,dX,h3],rfl,⟨N,hl⟩,λ_=>rfl⟩,.nil,λ_=>rfl,hS⟩
   have DS:∀tt,Frame.round bl r.fn tt r.assign r.body .normal=b.atR ⟨tt,[]⟩ [.code r.assign,.beginRound,.code r.body]:=λtt=>by simp[Frame.round,Frame.atR,b]
   rw[DS]
   have:=X.plain (c0:=c0) (cs0:=cs0) (v:=v) (tm:=EV) (tmps:=(r.params.zip ⟨us⟩).foldl (λtmps (t,a)=>tmps.setIfInBounds t a) r.tmps) G (.code r.assign _ _ (.begin _ _ (.code r.body _ _ .nil))) (by
    rw[dX]
    have hz:(r.params.zip ⟨us⟩).foldl (λtmps (t,a)=>tmps.setIfInBounds t a) r.tmps=(r.params.toList.zip us).foldl (λtmps (t,a)=>tmps.setIfInBounds t a) r.tmps:=by
     rw[<-Dq];simp
    rw[hz];exact a3) (by rw[dX];exact a1)
   exact this
end
section
open Go.AM (dI eS lD lE)
variable {P:Program}{w0:Base}{w:World}{J J':Rho}{h h':T O}{nx nx':Q}{tm:T V}{tmps:Array Value}{v:V}{ops:Array Oper}{n β:Nat}{f:Q}{dk:Bool}{rd:Option Q}{ds:List Df}{k:K}{cs:List Fr}{fr b:Frame}{frs:List Frame}{c0:Frame}{cs0:List Frame}{ih:E9}{fe:Q->CF}{i:Nat}{o:Oper}{rest:List Nat}{l:List PS}{ks:List Item}{AU:List Deferred}
theorem step_defer{a:Act}{d:Deferred}{w':World}{cs:List Frame}(ho:ops[i]?=some o)(hw:Region.wanted o (yielded ops a.tmps)=true)(hb:b.roundOf=none)(hr:(execOp a.eval o).run P w=.ok (.defer d) w') :
  step P (lone (b.atR a (.inRegion ops (i::rest)::ks)) cs w)=.next (lone (b.atR ((⟨a.tmps,d::a.defers⟩:Act).put o.dst Go.undef) (.inRegion ops rest::ks)) cs w'):=by
 refine step_lone_go ?_;have h:=Frame.finish_atR b ⟨a.tmps,d::a.defers⟩ ops i rest ks Go.undef;rw[ho] at h;rw[stepGR_op ho hw,hb,Oper.semAt_none];have h2:({ b.atR a (.inRegion ops (i::rest)::ks) with defers:=d::(b.atR a (.inRegion ops (i::rest)::ks)).defers }:Frame)=b.atR ⟨a.tmps,d::a.defers⟩ (.inRegion ops (i::rest)::ks):=rfl;simp only[stepG.apply,hr,Ds,Dm,h2,h];simp[hr,h2,h]
theorem dp{a:Act}{w':World}{cs:List Frame}(ho:ops[i]?=some o)(hw:Region.wanted o (yielded ops a.tmps)=true)(hd:∀c,o.op≠.defer c)(hb:b.roundOf=none)(hr:(execOp a.eval o).run P w=.ok .recover w')
  (ht:tryRecover (b.atR a (.inRegion ops (i::rest)::ks)) cs=none) :
  step P (lone (b.atR a (.inRegion ops (i::rest)::ks)) cs w)=.next (lone (b.atR (a.put o.dst .nilIface) (.inRegion ops rest::ks)) cs w'):=by
 refine step_lone_go ?_;have h:=Frame.finish_atR b a ops i rest ks .nilIface;rw[ho] at h;have BB:(b.atR a (.inRegion ops (i::rest)::ks)).roundOf=none:=hb;rw[stepGR_op ho hw,Oper.semAt_eq _ _ _ hd];simp[stepG.apply,hr,h,BB,ht]
structure Pt (P:Program) (n:Nat) (ops:Array Oper) (J:Rho) (h:T O) (β:Nat) (nx:Q) (tm:T V) (tmps:Array Value) (i:Nat) (o:Oper) (rest:List Nat) (l:List PS) (k:K) (ks:List Item):Prop where
 ho:ops[i]?=some o
 size:n<=tmps.size
 rd:∀t,(jQ ops o).testBit t=true->VR J (tm.at t) (tmps.getD t Go.undef)
 go:∀(J':Rho)(h':T O)(nx':Q)(v:V)(u:Value),nx.nat<=nx'.nat->Keep nx.nat J h J' h'->VR J' v u->(∀x,o.dst=some x->x<n) ->
  ∃C:Array Value->List Deferred->Frame->Frame->Prop,Cur P J' h' β nx' n (sR tm o.dst v) (.reg l k) C/\∀b AU,C (nS tmps o.dst u) AU b (b.atR ⟨nS tmps o.dst u,AU⟩ (.inRegion ops rest::ks))
 wt:∀d g ob,fH P n ops o=.mk d g ob->K7 ob=true->∃C:Array Value->List Deferred->Frame->Frame->Prop,Wt P J h β nx n tm (.reg (.op (.mk d g ob)::l) k) C/\∀b AU,C tmps AU b (b.atR ⟨tmps,AU⟩ (.inRegion ops (i::rest)::ks))
theorem Pt.sync(hT:TR J n tm tmps)(ho:ops[i]?=some o)(hk:KS P n k ks):Pt P n ops J h β nx tm tmps i o (List.range' (i+1) (ops.size-(i+1))) ((ops.toList.drop (i+1)).map λo=>.op (fH P n ops o)) k ks :=
 ⟨ho,hT.size,λt _=>hT.rel t,λ_ _ _ _ _ _ hK hv hx=>⟨_,.sync ops (i+1) k ks (Ai.1 ho).1 hk,λ_ _=>⟨(hT.mono hK.le).put hx hv,rfl⟩⟩,
  λd g ob hc hw=>⟨_,.sync ops i o d g ob k ks ho hc hw hk,λ_ _=>⟨hT,rfl⟩⟩⟩
theorem Pt.drawn{pl:List Pl}{E:Nat}{r:List Nat}{qf:Nat->Option Q}(L:LZ P n ops J h β nx tm tmps (.run i::pl) E (i::r) qf)(ho:ops[i]?=some o)(hw:Ir P o=true)(hk:KS P n k ks):Pt P n ops J h β nx tm tmps i o r (pl.map (qu P n ops)) k ks :=
 ⟨ho,L.size,λt ht=>L.reads ho ht (λ_=>by obtain⟨_,_,h1,_⟩:=uV L.ck;exact h1),λ_ _ _ _ _ hn hK hv hx=>⟨_,.drawn ops pl _ r qf k ks hk,λ_ _=>⟨L.sync ho hw hx hn hK hv,rfl⟩⟩,
  λd g ob hc DO=>⟨_,.drawn ops i o d g ob pl E r qf k ks ho hc DO hk,λ_ _=>⟨L,rfl⟩⟩⟩
theorem xm{d:Option Q}{g:Option (Q×Bool)}{ob:OB}(e:kF fe ih f dk rd ds tm (.op (.mk d g ob)::l) k cs h nx=.ok v) :
  (gB g tm=some true/\GI fe ih f dk rd ds tm d ob l (.op (.mk d g ob)::l) k cs h nx=.ok v)\/(gB g tm=some false/\g≠none/\qB d V.undef tm (λtm'=>ih f dk rd ds tm' (.reg l k) cs h nx)=.ok v):=by
 unfold kF at e;cases g with
 |none=>exact .inl ⟨rfl,e⟩
 |some qw =>
  obtain⟨q,want⟩:=qw;simp only[dD] at e;simp only[gB]
  split at e
  ·rename_i t ht
   rw[ht]
   split at e
   ·rename_i hb;exact .inl ⟨by simp[hb],e⟩
   ·rename_i hb;exact .inr ⟨by simp[hb],by simp,e⟩
  ·rename_i ht;rw[ht];exact .inr ⟨rfl,by simp,e⟩
  ·cases e
def kd(b:OB):Nat :=
 match b with
 |.p _=>0|.a _=>0|.w _=>0|.call _ _=>1|.dfr _ _=>2|.rcv=>4|.inv _ _ _=>5
theorem rH(o:Option PB):kd (Ha o)=0:=by cases o<;>rfl
theorem aCW(o:Option AB):kd (KZ o)=0:=by cases o<;>rfl
theorem rI(o:Option WB):kd (LM o)=0:=by cases o<;>rfl
theorem vg(h1:∀c,o.op≠.call c)(h2:∀c,o.op≠.defer c):kd (bT P o)=0:=by
 obtain⟨dst,op,ty,pos,AJ,BE⟩:=o
 cases op<;>simp only[bT]<;>first
  |rfl
  |exact rH _
  |exact aCW _
  |exact rI _
  |(exact absurd rfl (h1 _))
  |(exact absurd rfl (h2 _))
  |(repeat' split)<;>first|rfl|exact rH _|exact aCW _|exact rI _
theorem nw{x:X}{xs:List X}(hb:bT P o=.call x xs):∃c fo,o.op=.call c/\c.callee=.value fo/\x=aE P fo/\xs=c.args.toList.map (aE P):=by
 by_cases h1:∃c,o.op=.call c
 ·obtain⟨c,hc⟩:=h1
  refine⟨c,?_⟩;simp only[bT,hc] at hb;unfold gR at hb
  split at hb
  ·rename_i fo hf
   cases hb;exact⟨fo,hc,hf,rfl,rfl⟩
  ·cases hb
  ·exfalso
   have hk:=Dp kd hb
   revert hk
   repeat' split
   all_goals first|(rw[rH];simp[kd];done)|(rw[rI];simp[kd];done)|(simp[kd];done)
 ·exfalso
  by_cases h2:∃c,o.op=.defer c
  ·obtain⟨c,hc⟩:=h2
   simp only[bT,hc] at hb;have hk:=Dp kd hb
   revert hk
   repeat' split
   all_goals simp[kd]
  ·have:=vg (P:=P) (λc hc=>h1 ⟨c,hc⟩) (λc hc=>h2 ⟨c,hc⟩)
   rw[hb] at this;cases this
theorem aAc{ms:List (Nat×Q)}{x:X}{xs:List X}(hb:bT P o=.inv ms x xs):∃c fo name,o.op=.call c/\c.callee=.invoke fo name/\ms=gT P name P.types.size/\x=aE P fo/\xs=c.args.toList.map (aE P):=by
 by_cases h1:∃c,o.op=.call c
 ·obtain⟨c,hc⟩:=h1
  refine⟨c,?_⟩;simp only[bT,hc] at hb;unfold gR at hb
  split at hb
  ·cases hb
  ·rename_i fo name hf
   cases hb;exact⟨fo,name,hc,hf,rfl,rfl,rfl⟩
  ·exfalso
   have hk:=Dp kd hb
   revert hk
   repeat' split
   all_goals first|(rw[rH];simp[kd];done)|(rw[rI];simp[kd];done)|(simp[kd];done)
 ·exfalso
  by_cases h2:∃c,o.op=.defer c
  ·obtain⟨c,hc⟩:=h2
   simp only[bT,hc] at hb;have hk:=Dp kd hb
   revert hk
   repeat' split
   all_goals simp[kd]
  ·have:=vg (P:=P) (λc hc=>h1 ⟨c,hc⟩) (λc hc=>h2 ⟨c,hc⟩)
   rw[hb] at this;cases this
theorem jr{t:Nat}{k:Q->Res}{v:V}:∀{ms:List (Nat×Q)},pQ t ms k=.ok v->∃f,(t,f)∈ms/\k f=.ok v
 |[],e=>by cases e
 |(u,f)::ms,e=>by
  simp only[pQ] at e
  split at e
  ·rename_i hb
   have:=Aa hb
   subst this;exact⟨f,by simp,e⟩
  ·obtain⟨g,h1,h2⟩:=jr e
   exact⟨g,by simp[h1],h2⟩
theorem mL{name:String}{t:Nat}{f:Q}:∀{n:Nat},(t,f)∈gT P name n->∃u,uC P name u=some (t,f)
 |0,h=>by simp[gT] at h
 |n+1,h=>by
  simp only[gT] at h
  split at h
  ·rename_i p hp
   rcases Au.1 h with rfl|h
   ·exact⟨n,hp⟩
   ·exact mL h
  ·exact mL h
theorem qm{name:String}{u t:Nat}{f:Q}(h:uC P name u=some (t,f))(n:Nat)(x:Value):(method (n+1) t x name).run P w=.ok (f.nat,x) w:=by
 unfold uC at h;obtain⟨i,hi,h⟩:=dL h;obtain⟨m,hm,h⟩:=dL h;obtain⟨d,hd,h⟩:=dL h;obtain⟨fp,hf,h⟩:=dL h;obtain⟨fi,fb⟩:=fp
 have G9:(typeInfo t).run P w=.ok i w\/u≠t:=by
  by_cases hut:u=t
  ·subst hut;exact .inl (by simp[typeInfo,hi])
  ·exact .inr hut
 have key:∀(hp:m.path.isEmpty=true),u=t->qn fi=f->(∀wr,(receiverAt t (.val x) fb wr).run P w=.ok x w)->(method (n+1) t x name).run P w=.ok (f.nat,x) w:=by
  intro hp he hq MF;subst he;subst hq;have hpe:m.path=#[]:=by simpa using hp
  rcases G9 with G9|G9
  ·simp only[method,Sem.run_bind,G9,Result.andThen_ok,hm]
   simp[hpe,follow,hf,dX,MF]
  ·exact absurd rfl G9
 cases hp:m.path.isEmpty with
 |false=>rw[hp] at h;cases d<;>cases fb<;>cases h
 |true =>
  rw[hp] at h
  cases d<;>cases fb<;>first
   |(cases h;done)
   |(cases h;exact key hp rfl rfl λwr=>by simp[receiverAt,run_underlying hd,Place.get])
theorem zn{x:X}{xs:List X}(hb:bT P o=.dfr x xs):∃c fo,o.op=.defer c/\c.callee=.value fo/\x=aE P fo/\xs=c.args.toList.map (aE P):=by
 by_cases h1:∃c,o.op=.defer c
 ·obtain⟨c,hc⟩:=h1
  refine⟨c,?_⟩;simp only[bT,hc] at hb
  split at hb
  ·rename_i fo hf
   cases hb;exact⟨fo,hc,hf,rfl,rfl⟩
  ·cases hb
 ·exfalso
  by_cases h2:∃c,o.op=.call c
  ·obtain⟨c,hc⟩:=h2
   simp only[bT,hc] at hb;have hk:=Dp kd hb
   revert hk
   unfold gR
   repeat' split
   all_goals first|(rw[rH];simp[kd];done)|(rw[rI];simp[kd];done)|(simp[kd];done)
  ·have:=vg (P:=P) (λc hc=>h2 ⟨c,hc⟩) (λc hc=>h1 ⟨c,hc⟩)
   rw[hb] at this;cases this
theorem aAI(hb:bT P o=.rcv):∃c,o.op=.call c/\c.callee=.builtin .recover/\c.args.toList=[]:=by
 by_cases h1:∃c,o.op=.call c
 ·obtain⟨c,hc⟩:=h1
  refine⟨c,hc,?_⟩;simp only[bT,hc] at hb;unfold gR at hb
  split at hb
  ·cases hb
  ·cases hb
  ·rename_i bb hf
   have hk:=Dp kd hb
   split at hb
   all_goals first
    |(rename_i ha;exact⟨hf,ha⟩)
    |(exfalso;clear hb;revert hk;(repeat' split)<;>first|contradiction|(simp_all;done)|(rw[rH];simp[kd];done)|(rw[rI];simp[kd];done)|(simp[kd];done))
 ·exfalso
  by_cases h2:∃c,o.op=.defer c
  ·obtain⟨c,hc⟩:=h2
   simp only[bT,hc] at hb;have hk:=Dp kd hb
   revert hk
   repeat' split
   all_goals simp[kd]
  ·have:=vg (P:=P) (λc hc=>h1 ⟨c,hc⟩) (λc hc=>h2 ⟨c,hc⟩)
   rw[hb] at this;cases this
theorem ly(hB:FB P J f dk none b)(hS:StkR P J h cs frs β)(e:Pw dk cs (.ok v)=.ok v){a:Act}{todo:List Item}{BT:List Frame}:tryRecover (b.atR a todo) (frs++c0::BT)=none:=by
 have hk:(b.atR a todo).kind=if dk then .deferred else .normal:=hB.kind
 unfold tryRecover;rw[hk];cases dk with
 |false=>rfl
 |true =>
  cases hS with
  |nil=>cases e
  |cons J0 _ h0 _ f' NO JJ DH EV k' _ Mf IG β0 _ nx0 hf hn hK hs =>
   simp only[De,Ds];obtain⟨_,b',EN,tmps',C,_,_,_,hW,hC⟩:=hf;cases hW with
   |rtn ks=>rw[hC.2]
   |_=>cases e
theorem Zk(CT:FeOK P w0 fe)(hx:lS P)(G:Good P w0 ih)(C:Ctx P w0 w J h β nx f dk rd ds cs frs b AU)(p:Pt P (nt P f.nat) ops J h β nx tm tmps i o rest l k ks)
  (e:kF fe ih f dk rd ds tm (.op (fH P (nt P f.nat) ops o)::l) k cs h nx=.ok v):Final P w0 (lone (b.atR ⟨tmps,AU⟩ (.inRegion ops (i::rest)::ks)) (frs++c0::cs0) w) c0 cs0 v:=by
 obtain⟨d,g,ob,hc⟩:∃d g ob,fH P (nt P f.nat) ops o=.mk d g ob:=by
  cases h0:fH P (nt P f.nat) ops o with|mk d g ob=>exact⟨d,g,ob,rfl⟩
 rw[hc] at e;have ho:=p.ho
 have LF:∀{w':World}{J':Rho}{h':T O}{nx':Q}{x:V}{u:Value}{DH:List Df}{EN:List Deferred},HR P w0 J' h' nx' w'->nx.nat<=nx'.nat->Keep nx.nat J h J' h'->VR J' x u->(∀x,o.dst=some x->x<nt P f.nat)->DsR P J' DH EN->(rd≠none->DH=[]) ->
   ih f dk rd DH (sR tm o.dst x) (.reg l k) cs h' nx'=.ok v->Final P w0 (lone (b.atR ⟨nS tmps o.dst u,EN⟩ (.inRegion ops rest::ks)) (frs++c0::cs0) w') c0 cs0 v:=by
  intro w' J' h' nx' x u DH EN H' hn hK hv hd hD Iw e';obtain⟨X,hX,hC⟩:=p.go J' h' nx' x u hn hK hv hd;have C':Ctx P w0 w' J' h' β nx' f dk rd DH cs frs b EN:=⟨H',Bg C.le hn,C.B.mono hK.le,hD,Iw,C.S.mono (hK.down C.le)⟩
  exact C'.go G hX (hC b EN) e'
 rcases xm e with⟨hg,e1⟩|⟨hg,TY,e1⟩
 ·have HU:ob≠.p .bad:=λe0=>by subst e0;cases e1
  obtain⟨hb,hd,G8,Of⟩:=eI hc (NW HU);have B4:=rY Of p.size (λj want t h1 h2=>p.rd t (nJ h1 h2)) hg;have hT:XR J tm tmps o.op.operands.toList:=λt ht=>p.rd t (aDX ht)
  subst hd;cases ob with
  |p pb =>
   simp only[GI] at e1;obtain⟨x,e2,u,hu,hv⟩:=aDJ (ds:=AU) C.H hb.symm hT e1;rw[eP] at e2;refine Final.steps (Steps.one (dI (a:=⟨tmps,AU⟩) ho B4 (wH hb.symm e1) hu)) ?_;rw[put_eq];exact LF C.H (Af _) (Keep.refl _ _ _) hv G8 C.D C.rn e2
  |a ab =>
   simp only[GI] at e1;obtain⟨oo,mk,_,e2,hA⟩:=aBc (ds:=AU) C.H hb.symm hT e1;obtain⟨x,N,u,a4,a5⟩:=hA.run;obtain⟨a6,a7⟩:=a5 nx (C.H.fresh nx (Af _));rw[cT,eP,cY] at e2;obtain⟨H',hK⟩:=C.H.make a6;refine Final.steps (Steps.one (dI (a:=⟨tmps,AU⟩) ho B4 (wG hb.symm) a4)) ?_;rw[put_eq];exact LF H' (by rw[Q.nat_succ];omega) hK a7 G8 (C.D.mono hK.le) C.rn e2
  |w wb =>
   simp only[GI] at e1;obtain⟨x,h',nx',e2,w',J',u,hu,hv,H',hK,hn⟩:=aNU (ds:=AU) C.H hb.symm hT e1;rw[eP] at e2;rcases hu with hu|⟨hu,rfl⟩
   ·refine Final.steps (Steps.one (dI (a:=⟨tmps,AU⟩) ho B4 (wJ hb.symm) hu)) ?_
    rw[put_eq];exact LF H' hn hK hv G8 (C.D.mono hK.le) C.rn e2
   ·refine Final.steps (Steps.one (eS (a:=⟨tmps,AU⟩) ho B4 (wJ hb.symm) hu)) ?_
    rw[put_eq];exact LF H' hn hK hv G8 (C.D.mono hK.le) C.rn e2
  |call x xs =>
   obtain⟨c,fo,h1,h2,rfl,rfl⟩:=nw hb.symm;simp only[GI] at e1;have hops:o.op.operands=#[fo]++c.args:=by rw[h1];simp[Op.operands,Call.operands,h2]
   obtain⟨fv,Kk,e2⟩:=fA e1;have Hg:=hY (ds:=AU) C.H.glob (hT.sub (λy hy=>by rw[hops];simp at hy;simp[hy])) Kk;obtain⟨vs,LW,e3⟩:=rZ e2;have GY:=nP (ds:=AU) C.H.glob (hT.sub (λy hy=>by rw[hops];simp at hy;simp[hy])) LW;obtain⟨W,hW,To⟩:=p.wt _ _ _ hc rfl
   have hS:StkR P J h (.mk f dk rd ds tm (.reg (.op (.mk (o.dst.map qn) g (.call (aE P fo) (c.args.toList.map (aE P))))::l) k)::cs) (b.atR ⟨tmps,AU⟩ (.inRegion ops (i::rest)::ks)::frs) nx.nat :=
    .cons J J h h f dk rd ds tm _ cs _ frs β nx.nat nx ⟨C.le,b,AU,tmps,W,C.B,C.D,C.rn,hW,To b AU⟩ (Af _) (Keep.refl _ _ _) C.S
   obtain⟨dd,Km,DT⟩:=iR (c0:=c0) (cs0:=cs0) CT hx G C.H Hg GY hS e3;have GL:∀c',o.op≠.defer c':=λc' CW=>by rw[h1] at CW;cases CW
   have DF:c.args.map (ev tmps AU)=⟨c.args.toList.map (ev tmps AU)⟩:=by apply Cp;simp
   have hex:∀{r:Result Next},(invoke dd.target dd.args).run P w=r->(execOp (ev tmps AU) o).run P w=r:=λ{r} hr=>by
    simp only[execOp,h1,resolve,h2,DF,Sem.run_bind,Km,Result.andThen_ok,hr]
   rcases DT with⟨gg,all,i1,i2⟩|⟨ll,gg,tt,x,y,i1,i2⟩|⟨x,u,i1,i2,i3⟩
   ·exact Final.steps (Steps.one (lD (a:=⟨tmps,AU⟩) ho B4 GL (hex i1))) i2
   ·exact Final.steps (Steps.one (lE (a:=⟨tmps,AU⟩) ho B4 GL (hex i1))) i2
   ·refine Final.steps (Steps.one (dI (a:=⟨tmps,AU⟩) ho B4 GL (hex i1))) ?_
    rw[put_eq];simp only[l8,eP] at i3;exact LF C.H (Af _) (Keep.refl _ _ _) i2 G8 C.D C.rn i3
  |inv ms x xs =>
   obtain⟨c,fo,name,h1,h2,rfl,rfl,rfl⟩:=aAc hb.symm;simp only[GI] at e1;have hops:o.op.operands=#[fo]++c.args:=by rw[h1];simp[Op.operands,Call.operands,h2]
   obtain⟨fv,Kk,e2⟩:=fA e1;have Hg:=hY (ds:=AU) C.H.glob (hT.sub (λy hy=>by rw[hops];simp at hy;simp[hy])) Kk;obtain⟨vs,LW,e3⟩:=rZ e2;have GY:=nP (ds:=AU) C.H.glob (hT.sub (λy hy=>by rw[hops];simp at hy;simp[hy])) LW;unfold Uz at e3
   split at e3
   ·rename_i t u0
    obtain⟨u',HN,XI⟩:∃u',ev tmps AU fo=.iface t u'/\VR J u0 u':=by
     generalize ev tmps AU fo=uu at Hg;cases Hg with|ifc _ _ v' GZ=>exact⟨v',rfl,GZ⟩
    obtain⟨g',hm1,e4⟩:=jr e3;obtain⟨tt,hm2⟩:=mL hm1;obtain⟨W,hW,To⟩:=p.wt _ _ _ hc rfl
    have hS:StkR P J h (.mk f dk rd ds tm (.reg (.op (.mk (o.dst.map qn) g (.inv (gT P name P.types.size) (aE P fo) (c.args.toList.map (aE P))))::l) k)::cs) (b.atR ⟨tmps,AU⟩ (.inRegion ops (i::rest)::ks)::frs) nx.nat :=
     .cons J J h h f dk rd ds tm _ cs _ frs β nx.nat nx ⟨C.le,b,AU,tmps,W,C.B,C.D,C.rn,hW,To b AU⟩ (Af _) (Keep.refl _ _ _) C.S
    have Hh:VR J (.fn g' [] []) (.func (.func g'.nat) #[] #[]):=.fn g' [] [] [] [] rfl rfl (λi c v h=>by simp at h) (λi c v h=>by simp at h);obtain⟨dd,Km,DT⟩:=iR (c0:=c0) (cs0:=cs0) CT hx G C.H Hh (VRs.cons XI GY) hS e4;have GL:∀c',o.op≠.defer c':=λc' CW=>by rw[h1] at CW;cases CW
    have DF:c.args.map (ev tmps AU)=⟨c.args.toList.map (ev tmps AU)⟩:=by apply Cp;simp
    have ND:dd={ target:=.fn (.func g'.nat) #[],args:=⟨u'::c.args.toList.map (ev tmps AU)⟩ }:=by
     simp[Deferred.ofValue] at Km;exact Km.symm
    subst ND
    have hex:∀{r:Result Next},(invoke (.fn (.func g'.nat) #[]) ⟨u'::c.args.toList.map (ev tmps AU)⟩).run P w=r->(execOp (ev tmps AU) o).run P w=r:=λ{r} hr=>by
     have CG:0<Made.depth:=by decide
     obtain⟨nn,Iy⟩:∃nn,P.types.size+Made.depth=nn+1:=⟨P.types.size+Made.depth-1,by omega⟩
     have HV:=qm (w:=w) hm2 nn u';rw[<-Iy] at HV;have hprog:(program).run P w=.ok P w:=rfl;simp only[invoke] at hr;simp only[execOp,h1,resolve,h2,DF,HN,Sem.run_bind,Sem.run_pure,Result.andThen_ok,invoke,callMethod];have FV:List.take c.args.size (List.map (ev tmps AU) c.args.toList)=List.map (ev tmps AU) c.args.toList:=Bs (by simp);simp[hprog,HV,FV];simpa using hr
    rcases DT with⟨gg,all,i1,i2⟩|⟨ll,gg,tt,x,y,i1,i2⟩|⟨x,u,i1,i2,i3⟩
    ·exact Final.steps (Steps.one (lD (a:=⟨tmps,AU⟩) ho B4 GL (hex i1))) i2
    ·exact Final.steps (Steps.one (lE (a:=⟨tmps,AU⟩) ho B4 GL (hex i1))) i2
    ·refine Final.steps (Steps.one (dI (a:=⟨tmps,AU⟩) ho B4 GL (hex i1))) ?_
     rw[put_eq];simp only[l8,eP] at i3;exact LF C.H (Af _) (Keep.refl _ _ _) i2 G8 C.D C.rn i3
   ·cases e3
  |dfr x xs =>
   obtain⟨c,fo,h1,h2,rfl,rfl⟩:=zn hb.symm;simp only[GI] at e1
   split at e1
   ·cases e1
   have hops:o.op.operands=#[fo]++c.args:=by rw[h1];simp[Op.operands,Call.operands,h2]
   obtain⟨fv,Kk,e2⟩:=fA e1;have Hg:=hY (ds:=AU) C.H.glob (hT.sub (λy hy=>by rw[hops];simp at hy;simp[hy])) Kk;obtain⟨vs,LW,e3⟩:=rZ e2;have GY:=nP (ds:=AU) C.H.glob (hT.sub (λy hy=>by rw[hops];simp at hy;simp[hy])) LW
   split at e3
   ·rename_i g' fs caps
    obtain⟨ua,ub,hfu,h3,h4⟩:=Hg.inv_fn;rw[eN,eN,eP] at e3;have DF:c.args.map (ev tmps AU)=⟨c.args.toList.map (ev tmps AU)⟩:=by apply Cp;simp
    have DA:b.roundOf=none:=by
     have:=C.B.ro
     cases FY:b.roundOf with
     |none=>rfl
     |some bl=>rw[FY] at this;exact this.elim
    have hex:(execOp (ev tmps AU) o).run P w=.ok (.defer { target:=.fn (.func g'.nat) ⟨ub⟩,args:=⟨ua⟩++⟨c.args.toList.map (ev tmps AU)⟩ }) w:=by
     simp[execOp,h1,resolve,h2,DF,hfu,Deferred.ofValue]
    refine Final.steps (Steps.one (step_defer (a:=⟨tmps,AU⟩) ho B4 DA hex)) ?_;rw[put_eq];have B7:VRs J (fs++(vs++caps)) ((ua++c.args.toList.map (ev tmps AU))++ub):=by rw[Aj];exact h3.append (GY.append h4)
    have hD:=DsR.call g'.nat _ _ _ ds AU B7 C.D;rw[gX] at hD;have harr2:((⟨ua⟩:Array Value)++⟨c.args.toList.map (ev tmps AU)⟩)=⟨ua++c.args.toList.map (ev tmps AU)⟩:=by apply Cp;simp
    rw[harr2];exact LF C.H (Af _) (Keep.refl _ _ _) VR.undef G8 hD (λh0=>absurd rfl h0) e3
   ·cases e3
  |rcv =>
   obtain⟨c,h1,h2,h3⟩:=aAI hb.symm;simp only[GI] at e1
   split at e1
   ·cases e1
   have CQ:c.args=#[]:=by apply Cp;simp[h3]
   have DA:b.roundOf=none:=by
    have:=C.B.ro
    cases FY:b.roundOf with
    |none=>rfl
    |some bl=>rw[FY] at this;exact this.elim
   have GL:∀c',o.op≠.defer c':=λc' CW=>by rw[h1] at CW;cases CW
   have hex:(execOp (ev tmps AU) o).run P w=.ok .recover w:=by
    simp[execOp,h1,resolve,h2,CQ,invoke,builtin]
   obtain⟨r1,r2⟩:Pw dk cs (.ok v)=.ok v/\qB (o.dst.map qn) .nili tm (λtm'=>ih f dk none ds tm' (.reg l k) cs h nx)=.ok v:=by
    unfold Pw at e1 ⊢
    split at e1
    ·exact⟨rfl,e1⟩
    ·split at e1
     ·exact⟨rfl,e1⟩
     ·cases e1
   refine Final.steps (Steps.one (dp (a:=⟨tmps,AU⟩) ho B4 GL DA hex (ly C.B C.S r1))) ?_;rw[put_eq];rw[eP] at r2;exact LF C.H (Af _) (Keep.refl _ _ _) VR.nili G8 C.D C.rn r2
 ·obtain⟨hb,hd,G8,Of⟩:=eI hc (λe0=>by unfold eX at e0;cases e0;exact TY rfl)
  have B4:=rY Of p.size (λj want t h1 h2=>p.rd t (nJ h1 h2)) hg;rw[hd,eP] at e1;refine Final.steps (Steps.one (stepR_op_skip (a:=⟨tmps,AU⟩) (by rw[ho];simp[B4]))) ?_;rw[ho,Aq,put_eq];exact LF C.H (Af _) (Keep.refl _ _ _) VR.undef G8 C.D C.rn e1
end
section
variable {P:Program}{w0:Base}{w:World}{J J':Rho}{h h':T O}{nx nx':Q}{tm:T V}{tmps:Array Value}{r v:V}{ops:Array Oper}{n β:Nat}{f:Q}{dk:Bool}{rd:Option Q}{ds:List Df}{k:K}{cs:List Fr}{fr b:Frame}{frs:List Frame}{c0:Frame}{cs0:List Frame}{ih:E9}{fe:Q->CF}{i:Nat}{o:Oper}{rest:List Nat}{l:List PS}{ks:List Item}{AU:List Deferred}
theorem uR{sz:Nat}:∀{ps:List (Nat×X)}{t:T V}{k:T V->Res},sM tm sz ps t k=.ok r->∃t',(∀k',sM tm sz ps t k'=k' t')/\k t'=.ok r
 |[],t,k,e=>⟨t,λ_=>rfl,e⟩
 |(i,x)::ps,t,k,e=>by
  simp only[sM] at e;obtain⟨c,h1,e⟩:=fA e;obtain⟨l,hl,e⟩:=rB e;rw[cJ] at e;obtain⟨hg,e⟩:=bP e;rw[cV] at e;obtain⟨t',h2,h3⟩:=uR e;refine⟨t',λk'=>?_,h3⟩;simp only[sM];rw[jZ h1,ao hl,cJ,hg];simp only[gd,cV];exact h2 k'
theorem eo{b:AB}{k:O->(Q->V)->Res}(e:aK b tm k=.ok r):∃ob mk,AE b tm ob mk/\k ob mk=.ok r:=by
 cases b with
 |al ty n t=>exact⟨_,_,λ_=>rfl,e⟩
 |bx ty n x =>
  simp only[aK] at e;obtain⟨c,h1,e⟩:=fA e;obtain⟨l,hl,e⟩:=rB e;rw[cJ] at e;obtain⟨hg,e⟩:=bP e;rw[cV] at e;exact⟨_,_,λk'=>by simp only[aK,jZ h1,ao hl,cJ,hg,gd,cV],e⟩
 |bsl ty sz len t ps =>
  simp only[aK] at e;obtain⟨t',h1,h2⟩:=uR e;rw[aF] at h2;exact⟨_,_,λk'=>by simp only[aK];rw[h1,aF],h2⟩
 |mkm=>exact⟨_,_,λ_=>rfl,e⟩
 |mks ty sz z len cap=>cases(show Res.bad 140=.ok r from e)
def Le(h h':T O):Prop:=∀q,h.ob q=.dead\/h'.ob q=h.ob q
theorem Le.of(hl:Le h h'){q:Q}(hq:h.ob q≠.dead):h'.ob q=h.ob q:=(hl q).resolve_left hq
theorem xp{k:Nat->T V->Res}(hl:Le h h'){q:Q}(e:db (h.ob q) k=.ok r):h'.ob q=h.ob q:=hl.of λhd=>by rw[hd] at e;cases e
theorem aDU{k:Nat->T V->Res}(hl:Le h h'){q:Q}(e:Mt (h.ob q) k=.ok r):h'.ob q=h.ob q:=hl.of λhd=>by rw[hd] at e;cases e
theorem wa{k:List (V×V)->Res}(hl:Le h h'){q:Q}(e:v5 (h.ob q) k=.ok r):h'.ob q=h.ob q:=hl.of λhd=>by rw[hd] at e;cases e
theorem aCg(hl:Le h h'){o o':Q}{a a':Nat}{k k':Bool->Res}(hk:∀b,k b=.ok r->k' b=.ok r)(e:I6 h o a o' a' k=.ok r):I6 h' o a o' a' k'=.ok r:=by
 have lone:∀q,vY (h.ob q)=true->h'.ob q=h.ob q:=λq hq=>hl.of λhd=>by rw[hd] at hq;cases hq
 unfold I6 at e ⊢;cases ho:o.beq o' with
 |true =>
  rw[ho] at e;simp only at e ⊢;cases ha:Nat.beq a a' with
  |true=>rw[ha] at e;exact hk _ e
  |false =>
   rw[ha] at e;simp only[bV] at e ⊢;obtain⟨h1,h2⟩:=bP e;rw[lone _ h1,h1];exact hk _ h2
 |false =>
  rw[ho] at e;simp only[bV] at e ⊢;obtain⟨h1,h2⟩:=bP e;have h3:=h1;rw[Ac] at h3;rw[lone _ h3.1,lone _ h3.2,h1];exact hk _ h2
theorem zp{f:FK}{x y:V}{k k':Bool->Res}(hk:∀b,k b=.ok r->k' b=.ok r)(e:fT f x y k=.ok r):fT f x y k'=.ok r:=by
 unfold fT at e ⊢
 split at e
 ·split at e
  ·split at e
   ·exact hk _ e
   ·cases e
  ·cases e
 ·split at e
  ·split at e
   ·exact hk _ e
   ·cases e
  ·cases e
 ·split at e
  ·split at e
   ·obtain⟨h1,h2⟩:=bP e
    simp only[h1];exact hk _ h2
   ·cases e
  ·cases e
theorem u5:∀{fs:List FK}{l m:List V}{k k':Bool->Res},(∀b,k b=.ok r->k' b=.ok r)->fC fs l m k=.ok r->fC fs l m k'=.ok r
 |[],[],[],k,k',hk,e=>hk _ e
 |f::fs,x::xs,y::ys,k,k',hk,e=>by
  simp only[fC] at e ⊢;refine zp (λb hb=>?_) e;cases b with
  |true=>exact u5 hk hb
  |false=>exact hk _ hb
 |[],_::_,_,_,_,_,e=>by cases e
 |[],[],_::_,_,_,_,e=>by cases e
 |_::_,[],_,_,_,_,e=>by cases e
 |_::_,_::_,[],_,_,_,e=>by cases e
theorem aCY(hl:Le h h'){s:KK}{x y:V}{k k':Bool->Res}(hk:∀b,k b=.ok r->k' b=.ok r)(e:gC s h x y k=.ok r):gC s h' x y k'=.ok r:=by
 unfold gC at e ⊢
 split at e
 ·split at e
  ·split at e
   ·exact hk _ e
   ·cases e
  ·cases e
 ·split at e
  ·split at e
   ·obtain⟨h1,h2⟩:=bP e
    simp only[h1];exact hk _ h2
   ·cases e
  ·cases e
 ·split at e
  ·split at e
   ·exact u5 hk e
   ·cases e
  ·cases e
 ·split at e
  ·split at e
   ·exact aCg hl hk e
   ·cases e
  ·cases e
theorem vD(hl:Le h h'){s:KK}{x:V}:∀{es:List (V×V)}{k:V->Res}{kn:Res},j6 s h x es k kn=.ok r->j6 s h' x es k kn=.ok r
 |[],_,_,e=>e
 |(y,v)::es,k,kn,e=>by
  simp only[j6] at e ⊢;refine aCY hl (λb hb=>?_) e;cases b with
  |true=>exact hb
  |false=>exact vD hl hb
theorem aK4(hl:Le h h'){m:EqM}{a b:V}{k:Bool->Res}(e:GO m h a b k=.ok r):GO m h' a b k=.ok r:=by
 cases m<;>simp only[GO] at e ⊢<;>first|exact e|skip
 split at e
 ·exact e
 ·split at e
  ·exact e
  ·exact aCg hl (λ_ hb=>hb) e
  ·cases e
 ·cases e
theorem pf{s:KK}{x:V}{k:Res}(e:iW s x k=.ok r):k=.ok r/\∀k',iW s x k'=k':=by
 unfold iW at e ⊢
 split at e
 ·split at e
  ·rw[cJ,cJ] at e
   obtain⟨h1,h2⟩:=bP e;refine⟨h2,λk'=>?_⟩;simp only[cJ,h1,gd]
  ·cases e
 ·exact⟨e,λ_=>rfl⟩
theorem aSS(hl:Le h h'){pb:PB}{k:V->Res}(e:pK pb tm h k=.ok r):pK pb tm h' k=.ok r:=by
  cases pb
  case eq neg m x y =>
   simp only[pK] at e ⊢;obtain⟨a,ha,e⟩:=fA e;obtain⟨b,hb,e⟩:=fA e;rw[jZ ha,jZ hb];exact aK4 hl e
  case ctu x=>cases(show Res.bad 140=.ok r from e)
  case cfu ty n x=>cases(show Res.bad 140=.ok r from e)
  case ld1 x =>
   simp only[pK] at e ⊢;obtain⟨a,ha,e⟩:=fA e;rw[jZ ha];rcases o5 e with⟨o,off,rfl,e⟩|⟨y,rfl,e⟩
   ·simp only[uM] at e ⊢
    unfold JM at e ⊢;rw[bV] at e ⊢;rw[xp hl e];exact e
   ·simp only[uM] at e ⊢
    cases y<;>simp only[LN] at e ⊢<;>first|cases e|skip
    rw[bV] at e ⊢;rw[aDU hl e];exact e
  case ldn n x =>
   simp only[pK] at e ⊢;obtain⟨a,ha,e⟩:=fA e;rw[jZ ha];rcases o5 e with⟨o,off,rfl,e⟩|⟨y,rfl,e⟩
   ·simp only[uM] at e ⊢
    unfold mD at e ⊢;rw[bV] at e ⊢;rw[xp hl e];exact e
   ·simp only[uM] at e ⊢
    cases y<;>simp only[ph,bw] at e ⊢<;>first|cases e|skip
    rw[bV] at e ⊢;rw[aDU hl e];exact e
  case lk s ok z m key =>
   simp only[pK] at e ⊢;obtain⟨a,ha,e⟩:=fA e;obtain⟨b,hb,e⟩:=fA e;rw[jZ ha,jZ hb];obtain⟨e,hc⟩:=pf e;rw[hc]
   split at e
   ·exact e
   ·rw[bV] at e ⊢
    rw[wa hl e];obtain⟨es,D8,e⟩:=tZ e;have hm:∀kk:List (V×V)->Res,v5 (h.ob _) kk=kk es:=λkk=>by rcases D8 with D8|D8<;>rw[D8]<;>rfl
    rw[hm];cases ok with
    |true=>exact vD hl e
    |false=>exact vD hl e
   ·cases e
  case lenM x =>
   simp only[pK] at e ⊢;obtain⟨a,ha,e⟩:=fA e;rw[jZ ha]
   split at e
   ·exact e
   ·rw[bV] at e ⊢
    rw[wa hl e];exact e
   ·cases e
  all_goals exact(xd (by rfl) h h').symm.trans e
theorem Le.made{ob:O}(hd:h.ob nx=.dead):Le h (h.put .dead ob nx):=λq=>by
 rw[bY];split
 ·subst_vars;exact .inl hd
 ·exact .inr rfl
end
section
variable {P:Program}{w0:Base}{w w':World}{J J':Rho}{h h':T O}{nx nx':Q}{tm:T V}{tmps:Array Value}{r v:V}{ops:Array Oper}{n β:Nat}{f:Q}{dk:Bool}{rd:Option Q}{ds:List Df}{k:K}{cs:List Fr}{fr b:Frame}{frs:List Frame}{c0:Frame}{cs0:List Frame}{ih:E9}{fe:Q->CF}{i:Nat}{o:Oper}{rest:List Nat}{l:List PS}{ks:List Item}{AU:List Deferred}
theorem Ctx.keep(C:Ctx P w0 w J h β nx f dk rd ds cs frs b AU)(H':HR P w0 J' h' nx' w')(hn:nx.nat<=nx'.nat)(K:Keep β J h J' h'):Ctx P w0 w' J' h' β nx' f dk rd ds cs frs b AU :=
 ⟨H',Bg C.le hn,C.B.mono K.le,C.D.mono K.le,C.rn,C.S.mono K⟩
theorem qv(CT:FeOK P w0 fe)(hx:lS P)(G:Good P w0 ih)(C:Ctx P w0 w J h β nx f dk rd ds cs frs b AU)(hi:i<=ops.size)(hk:KS P (nt P f.nat) k ks)(hT:TR J (nt P f.nat) tm tmps)
  (e:kF fe ih f dk rd ds tm ((ops.toList.drop i).map λo=>.op (fH P (nt P f.nat) ops o)) k cs h nx=.ok v):Final P w0 (lone (b.atR ⟨tmps,AU⟩ (.inRegion ops (List.range' i (ops.size-i))::ks)) (frs++c0::cs0) w) c0 cs0 v:=by
 by_cases AL:i<ops.size
 ·have ho:ops[i]?=some ops[i]:=by simp[AL]
  rw[aB9 ho,Bb] at e
  have hr:List.range' i (ops.size-i)=i::List.range' (i+1) (ops.size-(i+1)):=by
   obtain⟨m,hm⟩:∃m,ops.size-i=m+1:=⟨ops.size-i-1,by omega⟩
   rw[hm,Fl,show ops.size-(i+1)=m by omega]
  rw[hr];exact Zk CT hx G C (Pt.sync hT ho hk) e
 ·have hr:ops.size-i=0:=by omega
  rw[hr,List.range'_zero];have hd:ops.toList.drop i=[]:=List.drop_eq_nil_of_le (by simp;omega);rw[hd] at e;exact Final.steps (Steps.one stepR_region_end) (C.plain G hk hT e)
theorem aD0{g:Option (Q×Bool)}{pb:PB}{q:Q}(e:kF fe ih f dk rd ds tm (.chk g pb q::l) k cs h nx=.ok v):ih f dk rd ds tm (.reg l k) cs h nx=.ok v/\(gB g tm=some true->pK pb tm h .ok=.ok (tm.get V.undef q)):=by
 have key:(pK pb tm h λv=>gV q tm λu=>gd (Lm v u) 93 (ih f dk rd ds tm (.reg l k) cs h nx))=.ok v->ih f dk rd ds tm (.reg l k) cs h nx=.ok v/\pK pb tm h .ok=.ok (tm.get V.undef q):=λe=>by
  obtain⟨x,h1,h2⟩:=pZ e;rw[dD] at h2;obtain⟨h3,h4⟩:=bP h2;rw[<-aK5 h3];exact⟨h4,h1⟩
 unfold kF at e;cases g with
 |none=>exact⟨(key e).1,λ_=>(key e).2⟩
 |some qw =>
  obtain⟨q',want⟩:=qw;simp only[dD] at e;simp only[gB]
  split at e
  ·rename_i t ht
   rw[ht]
   split at e
   ·have:=key (by rw[<-e];simp only[dD]);exact⟨this.1,λ_=>this.2⟩
   ·rename_i hb;exact⟨e,λh=>by simp[hb] at h⟩
  ·rename_i ht;rw[ht];exact⟨e,λh=>by simp at h⟩
  ·cases e
theorem wU(e:kF fe ih f dk rd ds tm (.op eX::l) k cs h nx=.ok v):False:=by cases e
theorem kh{pl:List Pl}{E:Nat}{r:List Nat}{qf:Nat->Option Q}(CT:FeOK P w0 fe)(hx:lS P)(G:Good P w0 ih)(C:Ctx P w0 w J h β nx f dk rd ds cs frs b AU)(hk:KS P (nt P f.nat) k ks)(L:LZ P (nt P f.nat) ops J h β nx tm tmps pl E r qf)
  (e:kF fe ih f dk rd ds tm (pl.map (qu P (nt P f.nat) ops)) k cs h nx=.ok v):Final P w0 (lone (b.atR ⟨tmps,AU⟩ (.inRegion ops r::ks)) (frs++c0::cs0) w) c0 cs0 v:=by
 cases pl with
 |nil =>
  have B7:=L.atEnd;have L0:=L;rw[<-Ao r] at L0;obtain⟨w',J',tmps',s,H',K,L'⟩:=LZ.catchAll (ds:=AU) b ks (frs++c0::cs0) L0 B7 C.H;rw[Ao] at s;refine Final.steps (s.trans (Steps.one stepR_region_end)) ?_;exact(C.keep H' (Af _) K).plain G hk L'.done e
 |cons p pl =>
 rw[Bb] at e;cases p with
 |chk i =>
  simp only[qu] at e
  split at e
  ·rename_i o ho
   split at e
   ·rename_i q g pb hc
    obtain⟨e1,e2⟩:=aD0 e
    have L':=L.chk (λo' d g' pb' E7 CW hp=>by
     rw[ho] at E7;cases E7;rw[hc] at CW;simp only[CO.mk.injEq,OB.p.injEq] at CW;obtain⟨rfl,rfl,rfl⟩:=CW;by_cases hb:CO.mk (some q) g (.p pb)=eX
     ·cases hb
     obtain⟨_,hd,_,_⟩:=eI hc hb;cases F9:o.dst with
     |none=>rw[F9] at hd;cases hd
     |some x =>
      rw[F9] at hd;cases hd;exact⟨x,rfl,e2 hp⟩)
    exact C.go G (.drawn ops pl E r qf k ks hk) ⟨L',rfl⟩ e1
   ·exact(wU e).elim
  ·exact(wU e).elim
 |run i =>
  obtain⟨fI,hfI,_⟩:=uV L.ck;have BC:i<ops.size:=by rw[<-L.sc.len];exact(Ab.1 hfI).1
  obtain⟨o,ho⟩:∃o,ops[i]?=some o:=⟨ops[i],by simp[BC]⟩
  simp only[qu,ho] at e;cases hw:Ir P o with
  |true =>
   obtain⟨r1,r2,rfl,Kg⟩:=L.ahead ho hw;obtain⟨w',J',tmps',s,H',K,L'⟩:=LZ.catchAll (ds:=AU) b ks (frs++c0::cs0) L Kg C.H;exact Final.steps s (Zk CT hx G (C.keep H' (Af _) K) (Pt.drawn L' ho hw hk) e)
  |false =>
   have Ij:K7 (bT P o)=false:=by
    unfold Ir at hw;rw[Ew] at hw;exact hw.1
   obtain⟨d,g,ob,hc⟩:∃d g ob,fH P (nt P f.nat) ops o=.mk d g ob:=by
    cases h0:fH P (nt P f.nat) ops o with|mk d g ob=>exact⟨d,g,ob,rfl⟩
   rw[hc] at e;rcases xm e with⟨hg,e1⟩|⟨hg,TY,e1⟩
   ·have HU:ob≠.p .bad:=λe0=>by subst e0;cases e1
    obtain⟨hb,hd,G8,Of⟩:=eI hc (NW HU);rw[<-hb] at Ij;cases ob with
    |p pb =>
     simp only[GI] at e1;obtain⟨x,h1,h2⟩:=pZ e1;rw[hd,eP] at h2
     have L':=L.eager (nx':=nx) (h':=h) (v:=x) (qf':=λj=>if j=i then none else qf j) ho hw (Af _) (λ_ _=>rfl) (.inl rfl) (λj hj=>by simp[hj]) (λq hq=>by simp at hq)
      ⟨d,g,_,hc,NW HU,.inr ⟨hg,.inl ⟨pb,rfl,h1⟩⟩⟩ (λ_ _ _ _ _ _ he _=>he)
     exact C.go G (.drawn ops pl _ r _ k ks hk) ⟨L',rfl⟩ h2
    |a ab =>
     simp only[GI] at e1;obtain⟨oo,mk,hA,h2⟩:=eo e1;rw[cT,hd,eP,cY] at h2;have DS:=C.H.fresh nx (Af _);have Kh:nx.nat<=nx.succ.nat:=by rw[Q.nat_succ];omega
     have AL:nx.nat < nx.succ.nat:=by rw[Q.nat_succ];omega
     have L':=L.eager (nx':=nx.succ) (h':=h.put .dead oo nx) (v:=mk nx) (qf':=λj=>if j=i then some nx else qf j) ho hw Kh (λq hq=>by rw[bY,Bc (λe=>by subst e;omega)])
      (.inr λpb XP=>by rw[<-hb] at XP;cases XP) (λj hj=>by simp[hj]) (λq hq=>by
       simp at hq;subst hq;exact⟨AL,λj hj DP hq=>by have:=L.ql j hj DP _ hq;omega⟩)
      ⟨d,g,_,hc,NW HU,.inr ⟨hg,.inr ⟨ab,oo,mk,nx,rfl,hA,by simp,DS,by rw[bY,Bu rfl],C.le,AL,rfl⟩⟩⟩ (λ_ _ _ _ _ _ he _=>aSS (Le.made (C.H.dead nx (Af _))) he)
     have C':=C.keep (C.H.pend DS oo Kh AL) Kh ⟨Rho.le_refl _,λq hq hn=>⟨hn,by rw[bY,Bc (λe=>by subst e;have:=C.le;omega)]⟩⟩;exact C'.go G (.drawn ops pl _ r _ k ks hk) ⟨L',rfl⟩ h2
    |w wb=>cases Ij
    |call x xs=>cases Ij
    |inv ms x xs=>cases Ij
    |dfr x xs=>cases Ij
    |rcv=>cases Ij
   ·have HU:CO.mk d g ob≠eX:=λe0=>by unfold eX at e0;cases e0;exact TY rfl
    obtain⟨hb,hd,G8,Of⟩:=eI hc HU;rw[hd,eP] at e1
    have L':=L.eager (nx':=nx) (h':=h) (v:=V.undef) (qf':=λj=>if j=i then none else qf j) ho hw (Af _) (λ_ _=>rfl) (.inl rfl) (λj hj=>by simp[hj]) (λq hq=>by simp at hq)
     ⟨d,g,_,hc,HU,.inl ⟨hg,rfl⟩⟩ (λ_ _ _ _ _ _ he _=>he)
    exact C.go G (.drawn ops pl _ r _ k ks hk) ⟨L',rfl⟩ e1
end
end Go.CM
end
