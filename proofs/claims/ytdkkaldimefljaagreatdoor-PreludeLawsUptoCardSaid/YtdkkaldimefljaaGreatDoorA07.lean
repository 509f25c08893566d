import Derived.Test.YtdkkaldimefljaaGreatDoorA06
set_option linter.all false
namespace Go.AM
section
variable {P:Program}{ans:FuncId->AK}{w:World}{B0:Nat}{Z:HT}{J:List Nat}{ow:Own}{tmps:Array Value}
variable {ds:List Deferred}{cf:aO}{lp:aP}{fid:FuncId}{B1:Nat}{b:Frame}{cs:List Frame}{items:List Item}{st:St}{pr:dY}
theorem z6(g:Nat->Slot):∀(ks:List Nat)(t:Nat),tlook ks (ks.map g) t=.dead\/tlook ks (ks.map g) t=g t
 |[],t=>.inl rfl
 |k::ks,t=>by
  simp only[Aw,tlook];cases hk:Nat.beq k t with
  |true=>have:=Aa hk;subst this;exact .inr rfl
  |false=>exact z6 g ks t
theorem nH{f:FuncId}{args:List Slot}{vs:Array Value}{sto:AN}(h:dW ans B0 w Z J ow args vs sto)(Jk:args.length<=(ans f).nt) :
  At P ans f B0 w Z J ow ⟨(ans f).keep.map λt=>(args[t]?).getD .dead,sto⟩ (vs++Array.replicate ((ans f).nt-vs.size) undef):=by
 have hE:∀t,tlook (ans f).keep ((ans f).keep.map λt=>(args[t]?).getD .dead) t=.dead\/∃s,args[t]?=some s/\tlook (ans f).keep ((ans f).keep.map λt=>(args[t]?).getD .dead) t=s:=λt=>by
  rcases z6 (λt=>(args[t]?).getD .dead) (ans f).keep t with h1|h1
  ·exact .inl h1
  ·cases ha:args[t]? with
   |none=>left;rw[h1,ha];rfl
   |some s=>right;exact⟨s,rfl,by rw[h1,ha];rfl⟩
 have B9:∀(t:Nat)(s:Slot),args[t]?=some s->s.free=true:=λt s ha=>h.free s (Be ha)
 refine⟨⟨?_,h.wsat,λt=>?_,λd u o e=>?_,λt c e=>?_,h.objs,h.lt,h.base,λt ht=>?_⟩,λs hs u o he=>?_,h.lo⟩
 ·have:=h.size;simp;omega
 ·show SRel w B0 Z J ow _ t (tlook (ans f).keep ((ans f).keep.map λt=>(args[t]?).getD .dead) t) _
  rcases hE t with h1|⟨s,ha,h1⟩
  ·rw[h1];exact .dead _
  ·rw[h1]
   have AR:t<vs.size:=by rw[<-h.size];exact(Ab.1 ha).1
   have hv:(vs++Array.replicate ((ans f).nt-vs.size) undef).getD t undef=vs.getD t undef:=by
    simp only[Af,Gz AR]
   rw[hv];exact(h.args t s ha).free_tmps (B9 t s ha)
 ·have e':tlook (ans f).keep ((ans f).keep.map λt=>(args[t]?).getD .dead) d=.ref u o:=e
  rcases hE d with h1|⟨s,ha,h1⟩
  ·rw[h1] at e';cases e'
  ·rw[h1] at e';have:=B9 d s ha;rw[e'] at this;cases this
 ·have e':tlook (ans f).keep ((ans f).keep.map λt=>(args[t]?).getD .dead) t=.box c:=e
  rcases hE t with h1|⟨s,ha,h1⟩
  ·rw[h1] at e';cases e'
  ·rw[h1] at e';have:=B9 t s ha;rw[e'] at this;cases this
 ·show tlook (ans f).keep ((ans f).keep.map λt=>(args[t]?).getD .dead) t=.dead
  rcases hE t with h1|⟨s,ha,h1⟩
  ·exact h1
  ·have:=(Ab.1 ha).1;omega
 ·obtain⟨t,_,rfl⟩:=Cu.1 hs
  cases ha:args[t]? with
  |none=>rw[ha] at he;cases he
  |some s=>rw[ha] at he;have:=B9 t s ha;rw[show s=.ref u o from he] at this;cases this
def Leave(P:Program)(ans:FuncId->AK)(B0:Nat)(w:World)(Z:HT)(J:List Nat)(ow:Own)(sto:AN)(f:FuncId)(cs:List Frame)(m:Machine)(res:ARes)(AL:AN):Prop :=
 ∃w' Z' J' AP fr,Fr w Z ow w' Z' AP/\pre J J'/\WSat Z' w'/\OsRel w' B0 Z' J' AP ans AL.objs/\(∀b,AP b≠none->b<w'.heap.size)/\StoLe sto AL/\Steps P m (lone fr cs w')/\fr.fn=f /\
  match res with
  |.ret s=>s.free=true/\∃v,SRel w' B0 Z' J' AP #[] 0 s v/\fr.leaving P w' (.returned v)
  |.pan x=>∃v,VRel Z' J' x v/\fr.leaving P w' (.panicked [{ v,recovered:=false }])
theorem Leave.post{sto:AN}{f:FuncId}{c:Frame}{m:Machine}{res:ARes}{AL:AN}(h:Leave P ans B0 w Z J ow sto f (c::cs) m res AL):eI P ans B0 w Z J ow sto c cs m res AL:=by
 obtain⟨w',Z',J',AP,fr,h1,h2,h3,h4,h5,h6,h7,h8,h9⟩:=h;refine⟨w',Z',J',AP,h1,h2,h3,h4,h5,h6,?_⟩;cases res with
 |ret s=>obtain⟨hf,v,hs,hl⟩:=h9;exact⟨hf,v,hs,h7.trans (.one (step_leave_returned hl))⟩
 |pan x=>obtain⟨v,hs,hl⟩:=h9;exact⟨v,hs,h7.trans (.one (step_leave_panicked hl))⟩
theorem nX{J J' J2:List Nat}{n:Nat}(hp:pre J J2)(hn:n=J.length)(h:J'.take n=J2.take n):pre J J':=by
 subst hn;rw[kT hp (Ae _),Ci (Ae _)] at h;intro i x hx;have hi:=(Ab.1 hx).1
 have:(J'.take J.length)[i]?=some x:=by rw[h];exact hx
 rw[Bm,Bo hi] at this;exact this
theorem dr(BK:kZ P ans B0 cf)(CC:fm P ans B0 lp)(EZ:kN P ans cf){f:FuncId}{args:List Slot}{sto:AN}{res:ARes}{AL:AN}(HI:pr f args=none)(e:cE P ans pr cf lp (.fn f) args sto=some (res,AL)) :
  (∃F,P.funcs[f]?=some F/\F.body.isSome=true)/\∀w Z J ow vs,dW ans B0 w Z J ow args vs sto->∀cs,Leave P ans B0 w Z J ow sto f cs (lone (Frame.enter P f vs .normal) cs w) res AL:=by
 simp only[cE,HI] at e;cases MB:(ans f).prim with
 |true=>rw[MB] at e;cases e
 |false =>
 rw[MB] at e;simp only[Aq] at e
 split at e
 ·cases e
 rename_i fn GC
 split at e
 ·cases e
 rename_i c DN;obtain⟨hg,e⟩:=aB e;simp only[Ac] at hg;have Jk:fn.ntmps=(ans f).nt:=Aa hg.1;have EC:args.length<=(ans f).nt:=by rw[<-Jk];exact Ah hg.2
 refine⟨⟨fn,GC,by simp[DN]⟩,λw Z J ow vs BM cs=>?_⟩
 let b:Frame:={ (default:Frame) with fn:=f,kind:=.normal,roundOf:=none }
 have henter:Frame.enter P f vs .normal=b.atR ⟨vs++Array.replicate ((ans f).nt-vs.size) undef,[]⟩ [.code c]:=by
  simp[Frame.enter,Frame.atR,GC,DN,b,Jk]
 rw[henter];have Lc:=BM.objs.1;obtain⟨ex,BF,he,w1,Z1,J1,BX,BO,G6,a1,a2,a3,a4,a5,a6⟩:=mQ BK CC EZ c (b:=b) (cs:=cs) (items:=[]) (fid:=f) (B1:=w.heap.size) rfl (.inl rfl) (nH (P:=P) BM EC) (Marks.nil w ow w.heap.size) (Ae _) e;have AW:=BM.lo;have hlen:sto.objs.length<=BF.sto.objs.length:=a5.len
 have hret:At P ans f B0 w1 Z1 J1 BX BF BO->finish P (ans f) fn sto.objs.length BF=some (res,AL)->(∃k,Steps P (lone (b.atR ⟨vs++Array.replicate ((ans f).nt-vs.size) undef,[]⟩ [.code c]) cs w) (lone { b.atR ⟨BO,G6⟩ k with mode:=.returning } cs w1)) ->
   Leave P ans B0 w Z J ow sto f cs (lone (b.atR ⟨vs++Array.replicate ((ans f).nt-vs.size) undef,[]⟩ [.code c]) cs w) res AL:=λhA IB ⟨k,hs⟩=>by
  obtain⟨w2,p1,p2,p3,p4,p5,p6⟩:=iS (P:=P) (cs:=cs) (fr:={ b.atR ⟨BO,G6⟩ k with mode:=.returning }) a2 (by simp) rfl;have NZ:=hA.kept p2 p3;obtain⟨s,v,J2,CJ,q1,q2,q3,q4,q5,q6,Um,q7,q8,q9,Un⟩:=dm NZ hlen IB;subst q1;refine⟨w2,Z1,J2,CJ,_,(a3.kept (Ae _) p2 p3 p4 p5 p6).trans q6,nX a4 Lc.symm Un,NZ.rel.wsat,q5,λb hb=>?_,⟨q7.trans a5.lo,q8,λi hi=>(q9 i (by omega)).trans (a5.keep i hi)⟩,hs.trans p1,rfl,q2,v,q4,rfl,rfl,rfl,fn,GC,q3⟩;exact NZ.rel.lt b (Um b hb)
 cases ex with
 |norm=>exact hret a1 he ⟨[],Steps.trans a6 (.one (stepR_end rfl))⟩
 |ret=>obtain⟨k,hk⟩:=a6;exact hret a1 he ⟨_,hk.trans (.one (stepR_ret rfl))⟩
 |exit id=>cases he
 |pan x =>
  simp only[Ak,Bp] at he;obtain⟨rfl,rfl⟩:=he;obtain⟨v,k,hv,hs⟩:=a6;obtain⟨w2,p1,p2,p3,p4,p5,p6⟩:=iS (P:=P) (cs:=cs) (fr:={ b.atR ⟨BO,G6⟩ k with mode:=.panicking [{ v,recovered:=false }] }) a2 (by simp) rfl;have IZ:=Rest.kept a1 p2 p3;exact⟨w2,Z1,J1,BX,_,a3.kept (Ae _) p2 p3 p4 p5 p6,a4,IZ.wsat,IZ.objs,IZ.lt,a5,hs.trans p1,rfl,v,hv,rfl,rfl,fn,GC⟩
def mM(T:Array Value)(ps:List Nat)(vs:List Value):Array Value:=(ps.zip vs).foldl (λt (p:Nat×Value)=>t.setIfInBounds p.1 p.2) T
theorem vV:∀(ps:List Nat)(vs:List Value)(T:Array Value),(mM T ps vs).size=T.size
 |[],vs,T=>rfl
 |p::ps,[],T=>rfl
 |p::ps,v::vs,T=>by
  show(mM (T.setIfInBounds p v) ps vs).size=T.size;rw[vV];simp
theorem fK(l r:List (Nat×Slot))(t:Nat):bL (l++r) t=match bL l t with|some s=>some s|none=>bL r t:=by
 induction l with
 |nil=>rfl
 |cons p l ih =>
  obtain⟨k,s⟩:=p;simp only[Dl,bL];cases Nat.beq k t with
  |true=>rfl
  |false=>exact ih
theorem ej:∀(ps:List Nat)(args:List Slot)(vs:List Value)(T:Array Value),args.length=ps.length->vs.length=ps.length->(∀(i:Nat) s u,args[i]?=some s->vs[i]?=some u->∃x,s=.val x/\VRel Z J x u)->∀t,
  match bL (ps.zip args).reverse t with
  |some s=>∃x u,s=.val x/\VRel Z J x u/\t∈ps/\(t<T.size->(mM T ps vs).getD t undef=u)
  |none=>(mM T ps vs).getD t undef=T.getD t undef
 |[],args,vs,T,h1,h2,h,t=>by simp[bL,mM]
 |p::ps,[],vs,T,h1,h2,h,t=>by simp at h1
 |p::ps,a::args,[],T,h1,h2,h,t=>by simp at h2
 |p::ps,a::args,v::vs,T,h1,h2,h,t=>by
  have ih:=ej ps args vs (T.setIfInBounds p v) (by simpa using h1) (by simpa using h2) (λi s u hs hu=>h (i+1) s u (by simpa using hs) (by simpa using hu)) t;have dA:mM T (p::ps) (v::vs)=mM (T.setIfInBounds p v) ps vs:=rfl;rw[dA];rw[show((p::ps).zip (a::args)).reverse=(ps.zip args).reverse++[(p,a)] by simp,fK];cases hl:bL (ps.zip args).reverse t with
  |some s =>
   rw[hl] at ih;obtain⟨x,u,g1,g2,g3,g4⟩:=ih;exact⟨x,u,g1,g2,by simp[g3],λht=>g4 (by simpa using ht)⟩
  |none =>
   rw[hl] at ih;simp only at ih ⊢;simp only[bL];cases hp:Nat.beq p t with
   |true =>
    have hpt:=Aa hp;subst hpt;obtain⟨x,hx,hv⟩:=h 0 a v rfl rfl;refine⟨x,v,hx,hv,by simp,λht=>?_⟩;rw[ih,bZ _ _ _ _ ht,Bo rfl]
   |false =>
    simp only[Aq];rw[ih];have BD:t≠p:=λe=>by subst e;rw[show Nat.beq t t=true from Cs t] at hp;cases hp
    simp[Af,Bt (Co BD)]
theorem aF6{w':World}{J':List Nat}{AP:Own}{tmps':Array Value}{t:Nat}{s:Slot}{v:Value}(h:SRel w 0 Z J ow tmps t s v)(hs:dV s=s)(hp:pre J J'):SRel w' B0 Z J' AP tmps' t s v:=by
 cases h with
 |dead=>exact .dead _
 |val x v h=>exact .val x v (h.mono Z.le_refl hp)
 |full xs a n h=>exact .full xs a n h
 |nl=>exact .nl
 |nn xs a n c h=>exact .nn xs a n c h
 |tup=>cases hs
 |own=>cases hs
 |cells=>cases hs
 |box=>cases hs
 |ref=>cases hs
theorem vn{tm:List Slot}(h:∀s∈tm,dV s=s)(ks:List Nat)(t:Nat):dV (tlook ks tm t)=tlook ks tm t:=by
 rcases pG (ks:=ks) (tm:=tm) (t:=t) with h1|h1
 ·rw[h1];rfl
 ·exact h _ h1
theorem lS{R:Type}{r:R}{sto:AN}{i:Nat}{k:jR->Option R}(h:dN sto i k=some r):∃l,sto.objs[i]?=some (.loop l)/\k l=some r:=by
 unfold dN at h
 split at h
 ·exact⟨_,by assumption,h⟩
 ·cases h
theorem mo{sto:AN}(h:OsRel w B0 Z J ow ans sto.objs){i lb:Nat}{l:jR}(ho:sto.objs[i]?=some (.loop l))(hl:J[i]?=some lb) :
  ∃rr,w.heap[lb]?=some (.loop rr)/\ow lb=some (true,i,0)/\B0<=lb/\(∀o,Z lb o=hno)/\LoopRel w Z (J.take (i+1)) ans l rr:=by
 obtain⟨b,h1,h2⟩:=h.2 i _ ho;obtain rfl:b=lb:=by rw[hl] at h1;exact(Ap h1).symm
 cases h2 with
 |loop _ _ rr a1 a2 a3 a4 a5=>exact⟨rr,a1,a2,a3,a4,a5⟩
theorem LoopRel.put{w':World}{l l':jR}{rr rr':Loop}(h:LoopRel w Z J ans l rr)(h1:l'={ l with state:=l'.state,pend:=l'.pend })(h2:rr'={ rr with state:=l'.state,pending:=l'.pend }):LoopRel w' Z J ans l' rr':=by
 rw[h1,h2];refine⟨rfl,rfl,h.fn,h.params,h.assign,h.body,h.size,λt=>?_,h.snap,h.hi⟩;exact(h.slots t).mono Z.le_refl (aI _) (λb s hb=>by cases hb) (λ_ _ _=>rfl)
theorem Rest.setLoop{sto:AN}(h:Rest ans B0 w Z J ow sto){i lb:Nat}{l l':jR}{rr rr':Loop}(ho:sto.objs[i]?=some (.loop l))(hl:J[i]?=some lb)(Lz:w.heap[lb]?=some (.loop rr))(CK:ow lb=some (true,i,0))(h0:B0<=lb)(hf:∀o,Z lb o=hno)
  (CY:LoopRel w Z (J.take (i+1)) ans l rr) (h1:l'={ l with state:=l'.state,pend:=l'.pend }) (h2:rr'={ rr with state:=l'.state,pending:=l'.pend }) :
  Rest ans B0 (w.putObj lb (.loop rr')) Z J ow (AM.setLoop sto i l')/\Fr w Z ow (w.putObj lb (.loop rr')) Z ow/\(∀kk j,¬(kk=true/\j=i)->Same w Z ow (w.putObj lb (.loop rr')) Z ow kk j kk j):=by
 have AR:lb<w.heap.size:=(Ad.1 Lz).1
 have same:∀kk j,¬(kk=true/\j=i)->Same w Z ow (w.putObj lb (.loop rr')) Z ow kk j kk j:=λkk j hk b' s AX =>
  ⟨AX,World.putObj_heap_other (λe=>by subst e;rw[CK] at AX;simp only[Ak,Bp] at AX;exact hk ⟨AX.1.symm,AX.2.1.symm⟩),λ_ h=>h⟩
 refine⟨⟨h.wsat.put hf,?_,λx hx=>by rw[World.putObj_size];exact h.lt x hx⟩,Fr.put (by simp[CK]) (λ_ h=>h),same⟩;exact h.objs.set (Ab.1 ho).1 hl (.loop _ _ rr' (World.putObj_heap_same AR) CK h0 hf (CY.put h1 h2)) λj hj=>same true j (by simp[hj])
theorem zx(BK:kZ P ans B0 cf)(CC:fm P ans B0 lp)(EZ:kN P ans cf){i:Nat}{args:List Slot}{sto:AN}{res:ARes}{AL:AN}(e:cE P ans pr cf lp (.yld i) args sto=some (res,AL)) :
  ∃al,sto.objs[i]?=some (.loop al)/\args.length=al.params.size/\∀w Z J ow vs,dW ans B0 w Z J ow args vs sto->∀l rr,J[i]?=some l->w.heap[l]?=some (.loop rr)->∀c cs,
   eI P ans B0 w Z J ow sto c cs (lone (Frame.round l rr.fn ((rr.params.zip vs).foldl (λt (p,a)=>t.setIfInBounds p a) rr.tmps) rr.assign rr.body .normal) (c::cs) w) res AL:=by
 simp only[cE] at e;obtain⟨al,EC,e⟩:=lS e
 split at e
 case h_2=>cases e
 rename_i EM;obtain⟨hg,e⟩:=aB e;simp only[Ac] at hg;obtain⟨⟨⟨⟨⟨⟨g1,g2⟩,g3⟩,g4⟩,g5⟩,g6⟩,g7⟩:=hg;have hsize:args.length=al.params.size:=Aa g2;have hloi:sto.lo<=i:=Ah g1;refine⟨al,EC,hsize,λw Z J ow vs BM l rr hl Lz c cs=>?_⟩;obtain⟨rr',PR,CK,h0,hf,CY⟩:=mo BM.objs EC hl;obtain rfl:rr=rr':=by rw[Lz] at PR;exact Obj.loop.inj (Ap PR)
 obtain⟨fn,GC⟩:=Fm.1 g6
 let b:Frame:={ (default:Frame) with fn:=rr.fn,kind:=.normal,roundOf:=some l }
 have hbfn:b.fn=al.fn:=CY.fn
 let T:=mM rr.tmps rr.params.toList vs.toList
 have Mr:Frame.round l rr.fn ((rr.params.zip vs).foldl (λt (p,a)=>t.setIfInBounds p a) rr.tmps) rr.assign rr.body .normal=b.atR ⟨T,[]⟩ [.code al.assign,.beginRound,.code al.body]:=by
  have hT:(rr.params.zip vs).foldl (λt (p,a)=>t.setIfInBounds p a) rr.tmps=T:=by
   simp only[T,mM];rw[<-Eg,Array.toList_zip]
  rw[hT,<-CY.assign,<-CY.body];rfl
 have LM:lone (Frame.round l rr.fn ((rr.params.zip vs).foldl (λt (p,a)=>t.setIfInBounds p a) rr.tmps) rr.assign rr.body .normal) (c::cs) w=lone (b.atR ⟨T,[]⟩ [.code al.assign,.beginRound,.code al.body]) (c::cs) w:=by rw[Mr]
 rw[LM];have hTs:T.size=(ans al.fn).nt:=by rw[vV];exact CY.size
 have MK:i<sto.objs.length:=(Ab.1 EC).1
 have V8:=ej (Z:=Z) (J:=J) rr.params.toList args vs.toList rr.tmps (by rw[CY.params];simpa using hsize) (by rw[CY.params];have:=BM.size;simp;omega) (λj s u hs hu=>by
  have hv:=An.1 g5 s (Be hs);have SY:=BM.args j s hs;have hvu:vs.getD j undef=u:=by simp[Af,show vs[j]?=some u by simpa using hu]
  rw[hvu] at SY;cases SY with
  |val x u h=>exact⟨x,rfl,h⟩
  |_=>simp[Slot.isVal] at hv)
 have hA:At P ans al.fn B0 w Z J ow ⟨cS (ans al.fn).keep al.tm (al.params.toList.zip args),sto⟩ T:=by
  have FG:∀t,tlook (ans al.fn).keep (cS (ans al.fn).keep al.tm (al.params.toList.zip args)) t=.dead\/(SRel w B0 Z J ow T t (tlook (ans al.fn).keep (cS (ans al.fn).keep al.tm (al.params.toList.zip args)) t) (T.getD t undef)/\t<(ans al.fn).nt/\dV (tlook (ans al.fn).keep (cS (ans al.fn).keep al.tm (al.params.toList.zip args)) t)=tlook (ans al.fn).keep (cS (ans al.fn).keep al.tm (al.params.toList.zip args)) t):=λt=>by
   unfold cS;rcases mO (ans al.fn).keep al.tm (al.params.toList.zip args).reverse t with h1|h1
   ·exact .inl h1
   ·have hp:=V8 t
    rw[CY.params] at hp;rw[h1];cases Jp:bL (al.params.toList.zip args).reverse t with
    |some s =>
     rw[Jp] at hp;obtain⟨x,u,rfl,hx,hm,hu⟩:=hp
     have JC:t<(ans al.fn).nt:=by
      have:=An.1 g7 t hm
      simpa[Dc] using this
     right;refine⟨?_,JC,rfl⟩
     have:T.getD t undef=u:=by simp only[T,CY.params];exact hu (by rw[CY.size];exact JC)
     rw[this];exact .val x u hx
    |none =>
     rw[Jp] at hp;simp only at hp ⊢;rcases Ck t (ans al.fn).nt with JC|JC
     ·right
      refine⟨?_,JC,vn CY.snap _ t⟩
      have:T.getD t undef=rr.tmps.getD t undef:=by simp only[T,CY.params];exact hp
      rw[this];exact aF6 (CY.slots t) (vn CY.snap _ t) ek
     ·exact .inl (CY.hi t JC)
  have hns:∀t u o,tlook (ans al.fn).keep (cS (ans al.fn).keep al.tm (al.params.toList.zip args)) t≠.ref u o:=λt u o he=>by
   rcases FG t with h1|⟨_,_,h1⟩
   ·rw[h1] at he;cases he
   ·rw[he] at h1;cases h1
  refine⟨⟨hTs,BM.wsat,λt=>?_,λd u o he=>absurd he (hns d u o),λt BZ he=>?_,BM.objs,BM.lt,BM.base,λt ht=>?_⟩,?_,BM.lo⟩
  ·rcases FG t with h1|⟨h1,_,_⟩
   ·show SRel w B0 Z J ow T t (tlook (ans al.fn).keep (cS (ans al.fn).keep al.tm (al.params.toList.zip args)) t) _
    rw[h1];exact .dead _
   ·exact h1
  ·have HV:tlook (ans al.fn).keep (cS (ans al.fn).keep al.tm (al.params.toList.zip args)) t=.box BZ:=he
   rcases FG t with h1|⟨_,_,h1⟩
   ·rw[h1] at HV;cases HV
   ·rw[HV] at h1;cases h1
  ·show tlook (ans al.fn).keep (cS (ans al.fn).keep al.tm (al.params.toList.zip args)) t=.dead
   rcases FG t with h1|⟨_,h1,_⟩
   ·exact h1
   ·omega
  ·exact noRef.commit λs hs u o he=>by have:=CY.snap s hs;rw[he] at this;cases this
 obtain⟨ex,Ih,L7,w1,Z1,J1,BX,BO,G6,a1,a2,a3,a4,a5,a6⟩:=mQ BK CC EZ al.assign (b:=b) (cs:=c::cs) (items:=[.beginRound,.code al.body]) (fid:=al.fn) (B1:=w.heap.size) hbfn (.inr g3) hA (Marks.nil w ow w.heap.size) (Ae _) e;cases ex with
 |exit=>cases L7
 |ret=>cases L7
 |pan=>cases L7
 |norm =>
 simp only at L7;obtain⟨l1,Nv,L7⟩:=lS L7
 split at L7
 case h_2=>cases L7
 rename_i LO;have a1:At P ans al.fn B0 w1 Z1 J1 BX Ih BO:=a1;have KP:J1[i]?=some l:=a4 i l hl;obtain⟨SG,PQ,P1,h01,L5,NG⟩:=mo a1.rel.objs Nv KP
 let VF:jR:={ l1 with state:=.busy }
 have FH:=a1.rest.setLoop (l':=VF) (rr':={ SG with state:=.busy }) Nv KP PQ P1 h01 L5 NG rfl (by
  show({ SG with state:=.busy }:Loop)={ SG with state:=.busy,pending:=l1.pend }
  rw[<-NG.pend])
 have NR:=run_beginRound (P:=P) PQ (by rw[NG.state];exact LO)
 let Rs:=w1.putObj l (.loop { SG with state:=.busy })
 have hAb:At P ans al.fn B0 Rs Z1 J1 BX { Ih with sto:=setLoop Ih.sto i VF } BO :=
  ⟨⟨a1.rel.size,FH.1.wsat,λt=>(a1.rel.slots t).mono Z1.le_refl (aI _) (FH.2.2 false t (by simp)) (λ_ _ _=>rfl),a1.rel.refs,a1.rel.boxes,FH.1.objs,FH.1.lt,by have:=a1.rel.base;simpa[Rs] using this,a1.rel.hi⟩,a1.nr,by simp only[setLoop,Ga];exact a1.lo⟩
 have hM1:=a2.mono FH.2.1;obtain⟨ex,Ig,GQ,w2,Z2,J2,CJ,EU,E8,c1,c2,c3,c4,c5,c6⟩:=mQ BK CC EZ al.body (b:=b) (cs:=c::cs) (items:=[]) (fid:=al.fn) (B1:=w.heap.size) hbfn (.inr g4) hAb hM1 (Bj a3.size FH.2.1.size) L7
 have IW:Steps P (lone (b.atR ⟨T,[]⟩ [.code al.assign,.beginRound,.code al.body]) (c::cs) w) (lone (b.atR ⟨BO,G6⟩ [.code al.body]) (c::cs) Rs) :=
  Steps.trans a6 (.one (stepR_beginRound (b:=b) rfl NR))
 have Ld:Fr w Z ow w2 Z2 CJ:=(a3.trans FH.2.1).trans c3;have MC:pre J J2:=iU a4 c4
 have PM:StoLe sto (setLoop Ih.sto i VF):=⟨a5.lo,by simp only[setLoop,Ga];exact a5.len,λj hj=>by
  simp only[setLoop];rw[Cw,Ax (by omega)];exact a5.keep j hj⟩
 have IV:StoLe sto Ig.sto:=PM.trans c5;have Lc:J.length=sto.objs.length:=BM.objs.1
 have fin:∀(jump:Option Code)(l2:jR),Ig.sto.objs[i]?=some (.loop l2)->Rest ans B0 w2 Z2 J2 CJ Ig.sto->res=.ret (.val (.bool jump.isNone))->AL=cut sto.objs.length (setLoop Ig.sto i { l2 with state:=if jump.isNone then .ready else .done,pend:=jump }) ->
   (∀w3,(Instr.endRound l jump).run P w2=.ok (.bool jump.isNone) w3->Steps P (lone (b.atR ⟨BO,G6⟩ [.code al.body]) (c::cs) Rs) (lone (c.finish (.bool jump.isNone)) cs w3)) ->
   eI P ans B0 w Z J ow sto c cs (lone (b.atR ⟨T,[]⟩ [.code al.assign,.beginRound,.code al.body]) (c::cs) w) res AL:=λjump l2 P2 CX CB CW A7=>by
  have Jp:J2[i]?=some l:=c4 i l KP;obtain⟨rr2,PO,P0,h02,hf2,Vn⟩:=mo CX.objs P2 Jp
  let l3:jR:={ l2 with state:=if jump.isNone then .ready else .done,pend:=jump }
  have IX:=CX.setLoop (l':=l3) (rr':={ rr2 with state:=if jump.isNone then .ready else .done,pending:=jump }) P2 Jp PO P0 h02 hf2 Vn rfl rfl;have FJ:=run_endRound (P:=P) jump PO;have hn:sto.objs.length<=(setLoop Ig.sto i l3).objs.length:=by simp only[setLoop,Ga];exact IV.len
  subst CB CW;refine⟨w2.putObj l (.loop { rr2 with state:=if jump.isNone then .ready else .done,pending:=jump }),Z2,J2.take sto.objs.length,CJ,Ld.trans IX.2.1,nX (J2:=J2) MC Lc.symm (by rw[Hb,Hm]),IX.1.wsat,IX.1.objs.front _ hn,IX.1.lt,⟨IV.lo,?_,λj hj=>?_⟩,rfl,.bool jump.isNone,.val _ _ (.bool _),IW.trans (A7 _ FJ)⟩
  ·show sto.objs.length<=((setLoop Ig.sto i l3).objs.take sto.objs.length).length
   rw[Cj];omega
  ·show((setLoop Ig.sto i l3).objs.take sto.objs.length)[j]?=_
   rw[Bm,Bo (by omega)];simp only[setLoop];rw[Cw,Ax (by omega)];exact IV.keep j hj
 cases ex with
 |norm =>
  simp only at GQ;obtain⟨l2,Im,GQ⟩:=lS GQ;simp only[Ak,Bp] at GQ;exact fin none l2 Im (AtE.rest c1) GQ.1.symm GQ.2.symm λw3 FJ=>Steps.trans c6 (.one (stepR_round_end (b:=b) rfl rfl FJ))
 |ret =>
  simp only at GQ;obtain⟨l2,Im,GQ⟩:=lS GQ;simp only[Ak,Bp] at GQ;obtain⟨k,hk⟩:=c6;exact fin (some .ret) l2 Im (AtE.rest c1) GQ.1.symm GQ.2.symm λw3 FJ=>hk.trans (.one (stepR_round_ret (b:=b) rfl rfl FJ))
 |exit id =>
  simp only at GQ;obtain⟨l2,Im,GQ⟩:=lS GQ;simp only[Ak,Bp] at GQ;obtain⟨k,hx,hk⟩:=c6;exact fin (some (.exit id)) l2 Im (AtE.rest c1) GQ.1.symm GQ.2.symm λw3 FJ=>hk.trans (.one (stepR_round_exit (b:=b) rfl rfl hx FJ))
 |pan x =>
  simp only[Ak,Bp] at GQ;obtain⟨rfl,rfl⟩:=GQ;obtain⟨v,k,hv,hs⟩:=c6;obtain⟨w3,p1,p2,p3,p4,p5,p6⟩:=iS (P:=P) (cs:=c::cs) (fr:={ b.atR ⟨EU,E8⟩ k with mode:=.panicking [{ v,recovered:=false }] }) c2 (by simp) rfl;have IZ:=Rest.kept c1 p2 p3;refine⟨w3,Z2,J2,CJ,Ld.kept (Ae _) p2 p3 p4 p5 p6,MC,IZ.wsat,IZ.objs,IZ.lt,IV,v,hv,(IW.trans (hs.trans p1)).trans (.one (step_leave_panicked ⟨rfl,rfl,fn,?_⟩))⟩;show P.funcs[rr.fn]?=some fn;rw[CY.fn];exact GC
structure Env (P:Program) (ans:FuncId->AK) (B0:Nat) (pr:dY):Prop where
 prim:∀f args res,pr f args=some (some res)->(∃F,P.funcs[f]?=some F/\F.body.isSome=true)/\∀sto w Z J ow vs,dW ans B0 w Z J ow args vs sto->∀c cs,eI P ans B0 w Z J ow sto c cs (lone (Frame.enter P f vs .normal) (c::cs) w) res sto
 names:∀(f:Nat)(F:Func),P.funcs[f]?=some F->F.body.isSome=true->F.name≠ "runtime.NumGoroutine"
 drawn:∀cf,iK ans cf->kN P ans cf
theorem qp(E:Env P ans B0 pr)(BK:kZ P ans B0 cf)(CC:fm P ans B0 lp)(DC:iK ans cf):kZ P ans B0 (cE P ans pr cf lp) where
 fn:=λf args sto res AL e=>by
  cases HI:pr f args with
  |some o =>
   cases o with
   |none=>simp[cE,HI] at e
   |some r0 =>
    simp only[cE,HI,Ai,Al] at e;obtain⟨s0,GX,he⟩:=e;cases r0 with
    |pan v=>cases GX
    |ret s =>
    obtain⟨_,GX⟩:=aB GX;cases GX;cases he;obtain⟨⟨F,h1,h2⟩,h3⟩:=E.prim _ _ _ HI;exact⟨⟨F,h1,h2,E.names _ _ h1 h2⟩,λw Z J ow vs hp c cs=>h3 sto w Z J ow vs hp c cs⟩
  |none =>
   obtain⟨⟨F,h1,h2⟩,h3⟩:=dr BK CC (E.drawn cf DC) HI e;exact⟨⟨F,h1,h2,E.names _ _ h1 h2⟩,λw Z J ow vs hp c cs=>(h3 w Z J ow vs hp (c::cs)).post⟩
 yld:=λi args sto res AL e=>zx BK CC (E.drawn cf DC) e
theorem zT:∀n,iK ans (run P ans pr n).1
 |0=>λf args _=>⟨none,by simp,λsto=>rfl⟩
 |n+1=>λf args h=>by
  cases hp:pr f args with
  |none=>exact⟨none,by simp,λsto=>by simp[run,cE,hp,h]⟩
  |some o =>
   refine⟨o.bind zN,λs hs=>?_,λsto=>by simp[run,cE,hp]⟩;obtain⟨r,_,hs⟩:=aC hs;cases r with
   |pan v=>cases hs
   |ret s'=>obtain⟨hg,hs⟩:=aB hs;cases hs;exact hg
theorem mK(E:Env P ans B0 pr):∀n,kZ P ans B0 (run P ans pr n).1/\fm P ans B0 (run P ans pr n).2
 |0=>⟨⟨λf args sto res AL e=>by simp[run] at e,λi args sto res AL e=>by simp[run] at e⟩,λfid c st e BF h=>by simp[run] at h⟩
 |n+1=>by
  obtain⟨h1,h2⟩:=mK E n;exact⟨qp E h1 h2 (zT n),tw h1 h2 (E.drawn _ (zT n))⟩
theorem aCw(E:Env P ans B0 pr){n:Nat}{f:FuncId}{args:List Slot}{sto:AN}{res:ARes}{AL:AN}(HI:pr f args=none)(e:(run P ans pr (n+1)).1 (.fn f) args sto=some (res,AL)){vs:Array Value}(BM:dW ans B0 w Z J ow args vs sto) :
  Calls P f vs w λe w'=>∃Z' J' AP,Fr w Z ow w' Z' AP/\WSat Z' w'/\match res with
   |.ret s=>∃v,e=.returned v/\SRel w' B0 Z' J' AP #[] 0 s v
   |.pan x=>∃v,e=.panicked [{ v,recovered:=false }]/\VRel Z' J' x v:=by
 intro cs;obtain⟨h1,h2⟩:=mK E n;obtain⟨w',Z',J',AP,fr,a1,a2,a3,a4,a5,a6,a7,a8,a9⟩:=(dr h1 h2 (E.drawn _ (zT n)) HI e).2 w Z J ow vs BM cs;cases res with
 |ret s =>
  obtain⟨_,v,hs,hl⟩:=a9;exact⟨.returned v,w',fr,⟨Z',J',AP,a1,a3,v,rfl,hs⟩,a7,a8,hl⟩
 |pan x =>
  obtain⟨v,hs,hl⟩:=a9;exact⟨.panicked _,w',fr,⟨Z',J',AP,a1,a3,v,rfl,hs⟩,a7,a8,hl⟩
end
section
variable {P:Program}{ans:FuncId->AK}{an:AK}{R:Type}{r:R}
variable {tm:List Slot}{rs1 rs2:RS}{k1:Slot->RS->Option R}{ops:Array Oper}{AF tk:Bool}{cf:aO}{o:Oper}
def agS(s1 s2:Slot):Prop:=s2=s1\/∃c1 c2,s1=.box c1/\s2=.box c2
theorem agS.eq{s1 s2:Slot}(h:agS s1 s2)(hn:∀c,s1≠.box c):s2=s1:=by
 rcases h with h|⟨c1,c2,h,_⟩
 ·exact h
 ·exact absurd h (hn c1)
theorem kQ{s1 s2:Slot}(h:agS s1 s2){k:AVal->Option R}(e:DI s1 k=some r):∃x,k x=some r/\∀(R2:Type)(k2:AVal->Option R2),DI s2 k2=k2 x:=by
 have hs:=h.eq (λc he=>by subst he;simp[DI] at e);subst hs;unfold DI at e
 split at e<;>first|exact⟨_,e,λR2 k2=>rfl⟩|cases e
theorem rJ{s1 s2:Slot}(h:agS s1 s2){k:List AVal->Option R}(e:lJ s1 k=some r):∃x,k x=some r/\∀(R2:Type)(k2:List AVal->Option R2),lJ s2 k2=k2 x:=by
 have hs:=h.eq (λc he=>by subst he;simp[lJ] at e);subst hs;unfold lJ at e
 split at e<;>first|exact⟨_,e,λR2 k2=>rfl⟩|cases e
theorem dQ{s1 s2:Slot}(h:agS s1 s2){k:IntKind->Int->Option R}(e:asInt s1 k=some r):∃a b,k a b=some r/\∀(R2:Type)(k2:IntKind->Int->Option R2),asInt s2 k2=k2 a b:=by
 have hs:=h.eq (λc he=>by subst he;simp[asInt] at e);subst hs;unfold asInt at e
 split at e<;>first|exact⟨_,_,e,λR2 k2=>rfl⟩|cases e
theorem xi{s1 s2:Slot}(h:agS s1 s2){k:Bool->Option R}(e:asBool s1 k=some r):∃b,k b=some r/\∀(R2:Type)(k2:Bool->Option R2),asBool s2 k2=k2 b:=by
 have hs:=h.eq (λc he=>by subst he;simp[asBool] at e);subst hs;unfold asBool at e
 split at e
 ·rename_i b
  refine⟨b,by cases b<;>simpa using e,λR2 k2=>by cases b<;>rfl⟩
 ·cases e
theorem mq{s1 s2:Slot}(h:agS s1 s2){k:Slot->Option R}(e:mv s1 k=some r):∃x,k x=some r/\(∀(R2:Type)(k2:Slot->Option R2),mv s2 k2=k2 x)/\∀u y,x=.ref u y->s1=.ref u y:=by
 have hs:=h.eq (λc he=>by subst he;simp[mv] at e);subst hs;unfold mv at e
 split at e<;>first|exact⟨_,e,λR2 k2=>rfl,λu y he=>by cases he;rfl⟩|exact⟨_,e,λR2 k2=>rfl,λu y he=>by cases he⟩|cases e
theorem aF{b:Bool}(h:b=true)(k:Option R):aL b k=k:=by subst h;rfl
def aOU(o1 o2:Option AObj):Prop:=o2=o1\/∃c1 c2,o1=some (.box c1)/\o2=some (.box c2)/\c2.map Cell.get=c1.map Cell.get
structure stoAg (a b:AN):Prop where
 lo:b.lo=a.lo
 len:b.objs.length=a.objs.length
 objs:∀i:Nat,aOU a.objs[i]? b.objs[i]?
theorem stoAg.refl(a:AN):stoAg a a:=⟨rfl,rfl,λ_=>.inl rfl⟩
structure ET (ans:FuncId->AK) (an:AK) (tm:List Slot) (ops:Array Oper) (AF tk:Bool) (o:Oper) (rs1 rs2:RS):Prop where
 opd:∀x∈o.op.operands.toList,agS (A9 an.keep tm rs1 x) (A9 an.keep tm rs2 x)
 rb:∀u∈IJ an.loc ops o,∀c,rs1.look an.keep tm u=.box c->∃c2,rs2.look an.keep tm u=.box c2/\c2.map Cell.get=c.map Cell.get
 wb:∀u,(u∈Hw an.loc ops o\/u∈G9 an.loc ops tk o)->rs2.look an.keep tm u=rs1.look an.keep tm u
 sto:match cN ans an.loc ops AF tk o with
  |.p=>True
  |.r=>stoAg rs1.sto rs2.sto
  |_=>rs2.sto=rs1.sto
structure Eff (ans:FuncId->AK) (an:AK) (tm:List Slot) (ops:Array Oper) (AF tk:Bool) (o:Oper) (rs1:RS) (s:Slot) (puts:List (Nat×Slot)) (g:AN->AN):Prop where
 keys:∀p∈puts,p.1∈cons an.keep tk o\/(p.1∈Hw an.loc ops o/\∃c c',rs1.look an.keep tm p.1=.box c/\p.2=.box c')\/(p.1∈G9 an.loc ops tk o/\∃c c',rs1.look an.keep tm p.1=.box c/\p.2=.box c'/\c'.map Cell.get=c.map Cell.get)
 vals:∀p∈puts,∀u x,p.2≠.ref u x
 ref:∀u x,s=.ref u x->eW o=some u\/∃t∈FA ops o,∃y,rs1.look an.keep tm t=.ref u y
 sto:match cN ans an.loc ops AF tk o with
  |.t=>stoAg rs1.sto (g rs1.sto)
  |.w=>True
  |.x=>True
  |_=>g=id
def Two(P:Program)(ans:FuncId->AK)(an:AK)(tm:List Slot)(ops:Array Oper)(AF tk:Bool)(cf:aO)(o:Oper)(rs1 rs2:RS)(k1:Slot->RS->Option R)(r:R):Prop :=
 ∃s puts g,k1 s ⟨puts++rs1.sc,g rs1.sto⟩=some r/\(∀(R2:Type)(BL:AVal->RS->Option R2)(k2:Slot->RS->Option R2),aD P ans an true AF (eY an.loc ops.toList ops.size (addrOf o)) cf tm tk o rs2 BL k2=k2 s ⟨puts++rs2.sc,g rs2.sto⟩)/\Eff ans an tm ops AF tk o rs1 s puts g
theorem Two.plain{s:Slot}(hk:k1 s rs1=some r)(h2:∀(R2:Type)(BL:AVal->RS->Option R2)(k2:Slot->RS->Option R2),aD P ans an true AF (eY an.loc ops.toList ops.size (addrOf o)) cf tm tk o rs2 BL k2=k2 s rs2)
  (hr:∀u x,s=.ref u x->eW o=some u\/∃t∈FA ops o,∃y,rs1.look an.keep tm t=.ref u y):Two P ans an tm ops AF tk cf o rs1 rs2 k1 r :=
 ⟨s,[],id,hk,h2,by simp,by simp,hr,by split<;>first|rfl|trivial|exact stoAg.refl _⟩
theorem Two.val{x:AVal}(hk:k1 (.val x) rs1=some r)(h2:∀(R2:Type)(BL:AVal->RS->Option R2)(k2:Slot->RS->Option R2),aD P ans an true AF (eY an.loc ops.toList ops.size (addrOf o)) cf tm tk o rs2 BL k2=k2 (.val x) rs2):Two P ans an tm ops AF tk cf o rs1 rs2 k1 r :=
 .plain hk h2 (λu x he=>by cases he)
variable {dst:Option Nat}{ty:TypeId}{pos:String}{AH:Array Edge}{gd:Option (Nat×Bool)}
theorem aGo{op:UnOp}{t:TypeId}{x:Operand}(h:ET ans an tm ops AF tk ⟨dst,.unOp op t x,ty,pos,AH,gd⟩ rs1 rs2){kp:AVal->RS->Option R}{l:List Nat}(e:aD P ans an true AF l cf tm tk ⟨dst,.unOp op t x,ty,pos,AH,gd⟩ rs1 kp k1=some r):Two P ans an tm ops AF tk cf ⟨dst,.unOp op t x,ty,pos,AH,gd⟩ rs1 rs2 k1 r:=by
 have hx:=h.opd x (by simp[Op.operands]);simp only[aD] at e
 split at e
 ·rename_i b hb
  have h2:=hx.eq (by rw[hb];simp);rw[hb] at h2;exact .val e (λR2 BL k2=>by simp only[aD,h2])
 ·rename_i kd n hb
  have h2:=hx.eq (by rw[hb];simp);rw[hb] at h2;exact .val e (λR2 BL k2=>by simp only[aD,h2])
 ·cases e
theorem wm{src dt:TypeId}{x:Operand}(h:ET ans an tm ops AF tk ⟨dst,.convert src dt x,ty,pos,AH,gd⟩ rs1 rs2){kp:AVal->RS->Option R}{l:List Nat}(e:aD P ans an true AF l cf tm tk ⟨dst,.convert src dt x,ty,pos,AH,gd⟩ rs1 kp k1=some r):Two P ans an tm ops AF tk cf ⟨dst,.convert src dt x,ty,pos,AH,gd⟩ rs1 rs2 k1 r:=by
 have hx:=h.opd x (by simp[Op.operands]);simp only[aD] at e
 split at e
 ·rename_i k1' kd D9 DQ
  obtain⟨a,b,e,h2⟩:=dQ hx e;exact .val e (λR2 BL k2=>by simp only[aD,D9,DQ,h2])
 ·rename_i D9 DQ
  split at e
  ·rename_i s hb
   have h2:=hx.eq (by rw[hb];simp);rw[hb] at h2;exact .val e (λR2 BL k2=>by simp only[aD,D9,DQ,h2])
  ·cases e
 ·cases e
theorem aGn{c a b:Operand}(h:ET ans an tm ops AF tk ⟨dst,.pick c a b,ty,pos,AH,gd⟩ rs1 rs2){kp:AVal->RS->Option R}{l:List Nat}(e:aD P ans an true AF l cf tm tk ⟨dst,.pick c a b,ty,pos,AH,gd⟩ rs1 kp k1=some r):Two P ans an tm ops AF tk cf ⟨dst,.pick c a b,ty,pos,AH,gd⟩ rs1 rs2 k1 r:=by
 have hc:=h.opd c (by simp[Op.operands]);have ha:=h.opd a (by simp[Op.operands]);have hb:=h.opd b (by simp[Op.operands]);simp only[aD] at e;obtain⟨t,e,h2⟩:=xi hc e
 have hm:∀x,x∈[a,b]->∀u y,A9 an.keep tm rs1 x=.ref u y->∃t∈FA ops ⟨dst,.pick c a b,ty,pos,AH,gd⟩,∃y,rs1.look an.keep tm t=.ref u y:=λx hx u y he=>by
  cases x with
  |tmp t =>
   refine⟨t,?_,y,he⟩;simp only[FA,Op.operands,Bs];left;simp only[Gn];refine⟨.tmp t,?_,rfl⟩;simp at hx ⊢;rcases hx with hx|hx
   ·simp[hx]
   ·simp[hx]
  |const v =>
   simp only[A9,hJ] at he
   split at he
   ·cases he
   ·split at he<;>cases he
  |global=>simp[A9] at he
  |func=>simp[A9] at he
 cases t with
 |true =>
  obtain⟨x,e,h3,h4⟩:=mq ha e;exact .plain e (λR2 BL k2=>by simp only[aD,h2,h3]) (λu y he=>.inr (hm a (by simp) u y (h4 u y he)))
 |false =>
  obtain⟨x,e,h3,h4⟩:=mq hb e;exact .plain e (λR2 BL k2=>by simp only[aD,h2,h3]) (λu y he=>.inr (hm b (by simp) u y (h4 u y he)))
theorem aCI{t:TypeId}{x:Operand}{f:Nat}(h:ET ans an tm ops AF tk ⟨dst,.field t x f,ty,pos,AH,gd⟩ rs1 rs2){kp:AVal->RS->Option R}{l:List Nat}(e:aD P ans an true AF l cf tm tk ⟨dst,.field t x f,ty,pos,AH,gd⟩ rs1 kp k1=some r):Two P ans an tm ops AF tk cf ⟨dst,.field t x f,ty,pos,AH,gd⟩ rs1 rs2 k1 r:=by
 have hx:=h.opd x (by simp[Op.operands]);simp only[aD] at e;obtain⟨ot,hf,e⟩:=aC e;obtain⟨s,hs,e⟩:=aC e;obtain⟨agg,ha,e⟩:=aC e
 split at e
 ·rename_i cs hb
  obtain⟨u,hu,e⟩:=aC e;have h2:=hx.eq (by rw[hb];simp);rw[hb] at h2;exact .val e (λR2 BL k2=>by simp only[aD,hf,hs,ha,h2,hu,Ai])
 ·cases e
theorem wo{x:Operand}{i:Nat}(h:ET ans an tm ops AF tk ⟨dst,.extract x i,ty,pos,AH,gd⟩ rs1 rs2){kp:AVal->RS->Option R}{l:List Nat}(e:aD P ans an true AF l cf tm tk ⟨dst,.extract x i,ty,pos,AH,gd⟩ rs1 kp k1=some r):Two P ans an tm ops AF tk cf ⟨dst,.extract x i,ty,pos,AH,gd⟩ rs1 rs2 k1 r:=by
 have hx:=h.opd x (by simp[Op.operands]);simp only[aD] at e
 split at e
 ·rename_i vs hb
  obtain⟨u,hu,e⟩:=aC e;have h2:=hx.eq (by rw[hb];simp);rw[hb] at h2;exact .val e (λR2 BL k2=>by simp only[aD,h2,hu,Ai])
 ·cases e
theorem sM{t:TypeId}{x:Operand}(h:ET ans an tm ops AF tk ⟨dst,.makeInterface t x,ty,pos,AH,gd⟩ rs1 rs2){kp:AVal->RS->Option R}{l:List Nat}(e:aD P ans an true AF l cf tm tk ⟨dst,.makeInterface t x,ty,pos,AH,gd⟩ rs1 kp k1=some r):Two P ans an tm ops AF tk cf ⟨dst,.makeInterface t x,ty,pos,AH,gd⟩ rs1 rs2 k1 r:=by
 have hx:=h.opd x (by simp[Op.operands]);simp only[aD] at e
 split at e
 ·cases e
 ·rename_i d hd hu
  obtain⟨v,e,h2⟩:=kQ hx e;refine .val e (λR2 BL k2=>?_);simp only[aD,hu];exact h2 _ _
 ·cases e
theorem aCJ{t:TypeId}{x ix:Operand}(h:ET ans an tm ops AF tk ⟨dst,.index t x ix,ty,pos,AH,gd⟩ rs1 rs2){kp:AVal->RS->Option R}{l:List Nat}(e:aD P ans an true AF l cf tm tk ⟨dst,.index t x ix,ty,pos,AH,gd⟩ rs1 kp k1=some r):Two P ans an tm ops AF tk cf ⟨dst,.index t x ix,ty,pos,AH,gd⟩ rs1 rs2 k1 r:=by
 have hx:=h.opd x (by simp[Op.operands]);have hi:=h.opd ix (by simp[Op.operands]);simp only[aD] at e
 split at e
 ·rename_i s hu hb
  obtain⟨kd,n,e,h3⟩:=dQ hi e;obtain⟨hg,e⟩:=aB e;obtain⟨u,EA,e⟩:=aC e;have h2:=hx.eq (by rw[hb];simp);rw[hb] at h2;exact .val e (λR2 BL k2=>by simp only[aD,hu,h2,h3,aF hg,EA,Ai])
 ·rename_i len el cs hu hb
  obtain⟨kd,n,e,h3⟩:=dQ hi e;obtain⟨s,hs,e⟩:=aC e;obtain⟨agg,ha,e⟩:=aC e;obtain⟨hg,e⟩:=aB e;obtain⟨u,EA,e⟩:=aC e;have h2:=hx.eq (by rw[hb];simp);rw[hb] at h2;exact .val e (λR2 BL k2=>by simp only[aD,hu,h2,h3,hs,ha,aF hg,EA,Ai])
 ·rename_i len el cs hu hb
  obtain⟨kd,n,e,h3⟩:=dQ hi e;obtain⟨s,hs,e⟩:=aC e;obtain⟨agg,ha,e⟩:=aC e;obtain⟨hg,e⟩:=aB e;obtain⟨u,EA,e⟩:=aC e;have h2:=hx.eq (by rw[hb];simp);rw[hb] at h2;exact .val e (λR2 BL k2=>by simp only[aD,hu,h2,h3,hs,ha,aF hg,EA,Ai])
 ·cases e
end
section
variable {P:Program}{ans:FuncId->AK}{an:AK}{R:Type}{r:R}
variable {tm:List Slot}{rs1 rs2:RS}{k1:Slot->RS->Option R}{ops:Array Oper}{AF tk:Bool}{cf:aO}{o:Oper}
variable {dst:Option Nat}{ty:TypeId}{pos:String}{AH:Array Edge}{gd:Option (Nat×Bool)}{kp:AVal->RS->Option R}{l:List Nat}
theorem l9:∀{ps:List (Nat×Operand)}{k:List (Nat×AVal)->Option R},(∀p∈ps,agS (A9 an.keep tm rs1 p.2) (A9 an.keep tm rs2 p.2))->hQ an.keep tm rs1 ps k=some r->∃l,k l=some r/\∀(R2:Type)(k2:List (Nat×AVal)->Option R2),hQ an.keep tm rs2 ps k2=k2 l
 |[],k,h,e=>⟨[],e,λR2 k2=>rfl⟩
 |(i,x)::ps,k,h,e=>by
  simp only[hQ] at e;obtain⟨v,e,h2⟩:=kQ (h (i,x) (by simp)) e;obtain⟨l,e,h3⟩:=l9 (λp hp=>h p (by simp[hp])) e;exact⟨(i,v)::l,e,λR2 k2=>by simp only[hQ,h2,h3]⟩
theorem db:∀{xs:List Operand}{k:List AVal->Option R},(∀x∈xs,agS (A9 an.keep tm rs1 x) (A9 an.keep tm rs2 x))->nG an.keep tm rs1 xs k=some r->∃l,k l=some r/\∀(R2:Type)(k2:List AVal->Option R2),nG an.keep tm rs2 xs k2=k2 l
 |[],k,h,e=>⟨[],e,λR2 k2=>rfl⟩
 |x::xs,k,h,e=>by
  simp only[nG] at e;obtain⟨v,e,h2⟩:=kQ (h x (by simp)) e;obtain⟨l,e,h3⟩:=db (λp hp=>h p (by simp[hp])) e;exact⟨v::l,e,λR2 k2=>by simp only[nG,h2,h3]⟩
theorem mG{x:Option Operand}{d:Int}{k:Int->Option R}(h:∀y,x=some y->agS (A9 an.keep tm rs1 y) (A9 an.keep tm rs2 y))(e:jQ an.keep tm rs1 x d k=some r):∃n,k n=some r/\∀(R2:Type)(k2:Int->Option R2),jQ an.keep tm rs2 x d k2=k2 n:=by
 cases x with
 |none=>exact⟨d,e,λR2 k2=>rfl⟩
 |some y =>
  simp only[jQ] at e;obtain⟨a,b,e,h2⟩:=dQ (h y rfl) e;exact⟨b,e,λR2 k2=>by simp only[jQ,h2]⟩
theorem kP{x:Operand}{k:Place->Option R}(h:agS (A9 an.keep tm rs1 x) (A9 an.keep tm rs2 x))(e:dE x (A9 an.keep tm rs1 x) k=some r) :
  ∃p,k p=some r/\(∀(R2:Type)(k2:Place->Option R2),dE x (A9 an.keep tm rs2 x) k2=k2 p)/\(∀u y,p=.loc u y->x=.tmp u\/A9 an.keep tm rs1 x=.ref u y):=by
 rcases h with h|⟨c1,c2,h1,h2⟩
 ·rw[h]
  unfold dE at e
  split at e
  ·split at e
   ·rename_i t hb
    exact⟨_,e,λR2 k2=>by simp only[dE,hb],λu y he=>by cases he;exact .inl rfl⟩
   ·cases e
  ·rename_i hb
   exact⟨_,e,λR2 k2=>by simp only[dE,hb],λu y he=>by cases he;exact .inr hb⟩
  ·rename_i hb
   exact⟨_,e,λR2 k2=>by simp only[dE,hb],λu y he=>by cases he⟩
  ·rename_i hb
   exact⟨_,e,λR2 k2=>by simp only[dE,hb],λu y he=>by cases he⟩
  ·cases e
 ·rw[h1] at e
  simp only[dE] at e
  split at e
  ·exact⟨_,e,λR2 k2=>by simp only[dE,h2],λu y he=>by cases he;exact .inl rfl⟩
  ·cases e
theorem oY{x:Operand}{t:Nat}{o:Oper}(h:x=.tmp t)(hx:x∈o.op.operands.toList):t∈FA ops o:=by
 subst h;simp only[FA,Bs];left;simp only[Gn];exact⟨.tmp t,hx,rfl⟩
theorem r9{x:Operand}{rs:RS}{u y:Nat}(h:A9 an.keep tm rs x=.ref u y):∃t,x=.tmp t/\rs.look an.keep tm t=.ref u y:=by
 cases x with
 |tmp t=>exact⟨t,rfl,h⟩
 |const v =>
  simp only[A9,hJ] at h
  split at h
  ·cases h
  ·split at h<;>cases h
 |global=>simp[A9] at h
 |func=>simp[A9] at h
theorem aCH{t:TypeId}{parts:Array (Nat×Operand)}(h:ET ans an tm ops AF tk ⟨dst,.build t parts,ty,pos,AH,gd⟩ rs1 rs2)(e:aD P ans an true AF l cf tm tk ⟨dst,.build t parts,ty,pos,AH,gd⟩ rs1 kp k1=some r):Two P ans an tm ops AF tk cf ⟨dst,.build t parts,ty,pos,AH,gd⟩ rs1 rs2 k1 r:=by
 have hp:∀p∈parts.toList,agS (A9 an.keep tm rs1 p.2) (A9 an.keep tm rs2 p.2):=λp hp=>h.opd p.2 (by simp only[Op.operands,Cu];exact⟨p,hp,rfl⟩)
 simp only[aD] at e;obtain⟨z,hz,e⟩:=aC e
 split at e
 ·rename_i fs hu
  obtain⟨l,e,h2⟩:=l9 hp e;obtain⟨places,Mu,e⟩:=aC e;obtain⟨cs,hf,e⟩:=aC e;exact .plain e (λR2 BL k2=>by simp only[aD,hz,hu,h2,Mu,hf,Ai]) (λu x he=>by cases he)
 ·rename_i n el hu
  obtain⟨l,e,h2⟩:=l9 hp e;obtain⟨s,hs,e⟩:=aC e;obtain⟨cs,hf,e⟩:=aC e;exact .plain e (λR2 BL k2=>by simp only[aD,hz,hu,h2,hs,hf,Ai]) (λu x he=>by cases he)
 ·cases e
theorem aj{t:TypeId}{len:Nat}{parts:Array (Nat×Operand)}(h:ET ans an tm ops AF tk ⟨dst,.buildSlice t len parts,ty,pos,AH,gd⟩ rs1 rs2)(e:aD P ans an true AF l cf tm tk ⟨dst,.buildSlice t len parts,ty,pos,AH,gd⟩ rs1 kp k1=some r):Two P ans an tm ops AF tk cf ⟨dst,.buildSlice t len parts,ty,pos,AH,gd⟩ rs1 rs2 k1 r:=by
 have hp:∀p∈parts.toList,agS (A9 an.keep tm rs1 p.2) (A9 an.keep tm rs2 p.2):=λp hp=>h.opd p.2 (by simp only[Op.operands,Cu];exact⟨p,hp,rfl⟩)
 simp only[aD] at e;obtain⟨el,GD,e⟩:=aC e;obtain⟨s,hs,e⟩:=aC e;obtain⟨hg,e⟩:=aB e;obtain⟨l,e,h2⟩:=l9 hp e;obtain⟨z,hz,e⟩:=aC e;obtain⟨DX,e⟩:=aB e;obtain⟨xs,hf,e⟩:=aC e;exact .plain e (λR2 BL k2=>by simp only[aD,GD,hs,aF hg,h2,hz,aF DX,hf,Ai]) (λu x he=>by cases he)
theorem oh{fn:Fn}{first caps:Array Operand}(h:ET ans an tm ops AF tk ⟨dst,.makeFunc fn first caps,ty,pos,AH,gd⟩ rs1 rs2)(e:aD P ans an true AF l cf tm tk ⟨dst,.makeFunc fn first caps,ty,pos,AH,gd⟩ rs1 kp k1=some r):Two P ans an tm ops AF tk cf ⟨dst,.makeFunc fn first caps,ty,pos,AH,gd⟩ rs1 rs2 k1 r:=by
 have hp:∀p∈caps.toList,agS (A9 an.keep tm rs1 p) (A9 an.keep tm rs2 p):=λp hp=>h.opd p (by simp only[Op.operands,Array.toList_append,Bs];exact .inr hp)
 simp only[aD] at e
 split at e
 ·rename_i f hf
  obtain⟨l,e,h2⟩:=db hp e;exact .val e (λR2 BL k2=>by simp only[aD,hf,h2])
 ·cases e
theorem aCK{t:TypeId}{x:Operand}{lo hi mx:Option Operand}(h:ET ans an tm ops AF tk ⟨dst,.slice t x lo hi mx,ty,pos,AH,gd⟩ rs1 rs2)(e:aD P ans an true AF l cf tm tk ⟨dst,.slice t x lo hi mx,ty,pos,AH,gd⟩ rs1 kp k1=some r):Two P ans an tm ops AF tk cf ⟨dst,.slice t x lo hi mx,ty,pos,AH,gd⟩ rs1 rs2 k1 r:=by
 have hx:=h.opd x (by simp[Op.operands]);have AW:∀y,lo=some y->agS (A9 an.keep tm rs1 y) (A9 an.keep tm rs2 y):=λy hy=>h.opd y (by subst hy;simp[Op.operands])
 have ML:∀y,hi=some y->agS (A9 an.keep tm rs1 y) (A9 an.keep tm rs2 y):=λy hy=>h.opd y (by subst hy;simp[Op.operands])
 have S7:∀y,mx=some y->agS (A9 an.keep tm rs1 y) (A9 an.keep tm rs2 y):=λy hy=>h.opd y (by subst hy;simp[Op.operands])
 simp only[aD] at e
 split at e
 ·rename_i hu
  split at e
  ·rename_i s hb
   obtain⟨a,e,h3⟩:=mG AW e;obtain⟨b,e,h4⟩:=mG ML e;obtain⟨hg,e⟩:=aB e;have h2:=hx.eq (by rw[hb];simp);rw[hb] at h2;exact .val e (λR2 BL k2=>by simp only[aD,hu,h2,h3,h4,aF hg])
  ·cases e
 ·rename_i el hu
  obtain⟨sz,BG,e⟩:=aC e;obtain⟨xs,e,h2⟩:=rJ hx e;obtain⟨a,e,h3⟩:=mG AW e;obtain⟨b,e,h4⟩:=mG ML e;cases mx with
  |none =>
   simp only[fF] at e;obtain⟨hg,e⟩:=aB e;exact .val e (λR2 BL k2=>by simp only[aD,hu,BG,Ai,h2,h3,h4,fF,aF hg];rfl)
  |some u =>
   simp only at e;obtain⟨ku,mm,e,h5⟩:=dQ (S7 u rfl) e;obtain⟨Ph,e⟩:=aB e;cases hi with
   |none=>cases e
   |some z =>
    simp only[fF] at e;obtain⟨hg,e⟩:=aB e;exact .plain e (λR2 BL k2=>by simp only[aD,hu,BG,Ai,h2,h3,h4,h5,aF Ph,fF,aF hg,Dk]) (λu x he=>by cases he)
 ·cases e
def aV(s:Slot):Option AVal:=DI s some
theorem aKT(s:Slot)(k:AVal->Option R):DI s k=(aV s).bind k:=by cases s<;>rfl
def OW(P:Program)(op:BinOp)(t:TypeId)(y:Operand)(sx sy:Slot):Option AVal :=
 match op,dR y with
 |.eql,true=>aL (gE P t) ((cO sx).bind λb=>some (.bool b))
 |.neq,true=>aL (gE P t) ((cO sx).bind λb=>some (.bool (!b)))
 |_,_ =>
  match op,isNilIface y,sx with
  |.eql,true,.val .nilif=>aL (rT P t) (some (.bool true))
  |.neq,true,.val .nilif=>aL (rT P t) (some (.bool false))
  |_,_,sx=>(aV sx).bind λa=>(aV sy).bind λb=>aL (iF P t a) (jI op a b)
theorem nJ{α:Type}(b:Bool)(x:Option α)(f:α->Option R):(aL b x).bind f=aL b (x.bind f):=by cases b<;>rfl
theorem ep{op:BinOp}{t:TypeId}{x y:Operand}{fl:_}{drawn:Bool}(rs:RS)(k:Slot->RS->Option R):aD P ans an drawn AF l cf tm tk ⟨dst,.binOp op t x y fl,ty,pos,AH,gd⟩ rs kp k=(OW P op t y (A9 an.keep tm rs x) (A9 an.keep tm rs y)).bind λv=>k (.val v) rs:=by
 simp only[aD,OW,aKT];generalize dR y=b1;generalize isNilIface y=b2;generalize A9 an.keep tm rs x=sx;generalize A9 an.keep tm rs y=sy
 have fin:∀op,((aV sx).bind λa=>(aV sy).bind λb=>aL (iF P t a) ((jI op a b).bind λv=>k (.val v) rs))=((aV sx).bind λa=>(aV sy).bind λb=>aL (iF P t a) (jI op a b)).bind λv=>k (.val v) rs:=λop=>by
  simp only[Option.bind_assoc,nJ]
 cases op<;>cases b1<;>first
  |exact fin _
  |(simp only[nJ,Option.bind_assoc,Ai];done)
  |(cases b2<;>first
    |exact fin _
    |(cases sx<;>first
      |exact fin _
      |(rename_i v;cases v<;>first
        |exact fin _
        |(simp only[nJ,Ai];done))))
theorem aDG{op:BinOp}{t:TypeId}{y:Operand}{c:List Cell}{sy:Slot}:OW P op t y (.box c) sy=none:=by
 unfold OW;split
 ·cases gE P t<;>rfl
 ·cases gE P t<;>rfl
 ·split
  ·exact absurd (show Slot.box c=Slot.val .nilif by assumption) (by simp)
  ·exact absurd (show Slot.box c=Slot.val .nilif by assumption) (by simp)
  ·rfl
theorem aBT{op:BinOp}{t:TypeId}{y:Operand}{c:List Cell}{sx:Slot}(hy:∀v,y≠.const v):OW P op t y sx (.box c)=none:=by
 have h1:dR y=false:=by unfold dR;split<;>first|rfl|exact absurd rfl (hy _)
 have h2:isNilIface y=false:=by unfold isNilIface;split<;>first|rfl|exact absurd rfl (hy _)
 unfold OW;rw[h1,h2];cases op<;>simp[aV,DI]
theorem aCG{op:BinOp}{t:TypeId}{x y:Operand}{fl:_}(h:ET ans an tm ops AF tk ⟨dst,.binOp op t x y fl,ty,pos,AH,gd⟩ rs1 rs2)(e:aD P ans an true AF l cf tm tk ⟨dst,.binOp op t x y fl,ty,pos,AH,gd⟩ rs1 kp k1=some r):Two P ans an tm ops AF tk cf ⟨dst,.binOp op t x y fl,ty,pos,AH,gd⟩ rs1 rs2 k1 r:=by
 have hx:=h.opd x (by simp[Op.operands]);have hy:=h.opd y (by simp[Op.operands]);rw[ep] at e;obtain⟨v,hv,e⟩:=aC e;have IU:=hx.eq (λc hc=>by rw[hc,aDG] at hv;cases hv)
 have hy2:=hy.eq (λc hc=>by
  rw[hc,aBT] at hv
  ·cases hv
  ·rintro v rfl
   simp only[A9,hJ] at hc
   split at hc
   ·cases hc
   ·split at hc<;>cases hc)
 exact .val e (λR2 BL k2=>by rw[ep,IU,hy2,hv];rfl)
theorem oi{x:Operand}(h:ET ans an tm ops AF tk ⟨dst,.nilCheck x,ty,pos,AH,gd⟩ rs1 rs2)(e:aD P ans an true AF l cf tm tk ⟨dst,.nilCheck x,ty,pos,AH,gd⟩ rs1 kp k1=some r):Two P ans an tm ops AF tk cf ⟨dst,.nilCheck x,ty,pos,AH,gd⟩ rs1 rs2 k1 r:=by
 have hx:=h.opd x (by simp[Op.operands]);simp only[aD] at e
 split at e
 ·rename_i c hb
  split at e
  ·rename_i t
   obtain⟨c2,h2⟩:∃c2,A9 an.keep tm rs2 (.tmp t)=.box c2:=by
    rcases hx with h|⟨_,c2,_,h⟩
    ·exact⟨c,h.trans hb⟩
    ·exact⟨c2,h⟩
   exact .plain e (λR2 BL k2=>by simp only[aD,h2]) (λu y he=>by cases he;exact .inl rfl)
  ·cases e
 ·rename_i u y hb
  have h2:=hx.eq (by rw[hb];simp);rw[hb] at h2;obtain⟨t,ht,hl⟩:=r9 hb;exact .plain e (λR2 BL k2=>by simp only[aD,h2]) (λu' y' he=>by cases he;exact .inr ⟨t,oY ht (by simp[Op.operands]),y,hl⟩)
 ·rename_i i y hb
  have h2:=hx.eq (by rw[hb];simp);rw[hb] at h2;exact .val e (λR2 BL k2=>by simp only[aD,h2])
 ·rename_i v hb
  have h2:=hx.eq (by rw[hb];simp);rw[hb] at h2;exact .val e (λR2 BL k2=>by simp only[aD,h2])
 ·rename_i f cs hb
  have h2:=hx.eq (by rw[hb];simp);rw[hb] at h2;exact .val e (λR2 BL k2=>by simp only[aD,h2])
 ·cases e
theorem bz{t:TypeId}{x:Operand}{f:Nat}(h:ET ans an tm ops AF tk ⟨dst,.fieldAddr t x f,ty,pos,AH,gd⟩ rs1 rs2)(e:aD P ans an true AF l cf tm tk ⟨dst,.fieldAddr t x f,ty,pos,AH,gd⟩ rs1 kp k1=some r):Two P ans an tm ops AF tk cf ⟨dst,.fieldAddr t x f,ty,pos,AH,gd⟩ rs1 rs2 k1 r:=by
 have hx:=h.opd x (by simp[Op.operands]);simp only[aD] at e;obtain⟨ot,hf,e⟩:=aC e;obtain⟨s,hs,e⟩:=aC e;obtain⟨hg,e⟩:=aB e;obtain⟨p,e,h2,h3⟩:=kP hx e;cases p with
 |loc u y =>
  refine .plain e (λR2 BL k2=>by simp only[aD,hf,hs,Ai,aF hg,h2]) (λu' y' he=>?_);cases he;rcases h3 u y rfl with hh|hh
  ·subst hh;exact .inl rfl
  ·obtain⟨t',VV,hl⟩:=r9 hh
   exact .inr ⟨t',oY VV (by simp[Op.operands]),y,hl⟩
 |obj i y=>exact .val e (λR2 BL k2=>by simp only[aD,hf,hs,Ai,aF hg,h2])
 |imm v =>
  simp only at e;obtain⟨agg,ha,e⟩:=aC e;obtain⟨u,hu,e⟩:=aC e;exact .val e (λR2 BL k2=>by simp only[aD,hf,hs,Ai,aF hg,h2,ha,hu])
theorem cg{t:TypeId}{x ix:Operand}(h:ET ans an tm ops AF tk ⟨dst,.indexAddr t x ix,ty,pos,AH,gd⟩ rs1 rs2)(e:aD P ans an true AF l cf tm tk ⟨dst,.indexAddr t x ix,ty,pos,AH,gd⟩ rs1 kp k1=some r):Two P ans an tm ops AF tk cf ⟨dst,.indexAddr t x ix,ty,pos,AH,gd⟩ rs1 rs2 k1 r:=by
 have hx:=h.opd x (by simp[Op.operands]);have hi:=h.opd ix (by simp[Op.operands]);simp only[aD] at e
 split at e
 ·rename_i el hu
  obtain⟨xs,e,h2⟩:=rJ hx e;obtain⟨kd,n,e,h3⟩:=dQ hi e;obtain⟨s,hs,e⟩:=aC e;obtain⟨hg,e⟩:=aB e;obtain⟨v,hv,e⟩:=aC e;obtain⟨DX,e⟩:=aB e;exact .val e (λR2 BL k2=>by simp only[aD,hu,h2,h3,hs,Ai,aF hg,hv,aF DX])
 ·rename_i len el hu
  obtain⟨p,e,h2,h3⟩:=kP hx e;obtain⟨kd,n,e,h4⟩:=dQ hi e;obtain⟨s,hs,e⟩:=aC e;obtain⟨hg,e⟩:=aB e;cases p with
  |loc u y =>
   refine .plain e (λR2 BL k2=>by simp only[aD,hu,hs,Ai,aF hg,h2,h4]) (λu' y' he=>?_);cases he;rcases h3 u y rfl with hh|hh
   ·subst hh;exact .inl rfl
   ·obtain⟨t',VV,hl⟩:=r9 hh
    exact .inr ⟨t',oY VV (by simp[Op.operands]),y,hl⟩
  |obj i y=>exact .val e (λR2 BL k2=>by simp only[aD,hu,hs,Ai,aF hg,h2,h4])
  |imm v =>
   simp only at e;obtain⟨agg,ha,e⟩:=aC e;obtain⟨u,EA,e⟩:=aC e;exact .val e (λR2 BL k2=>by simp only[aD,hu,hs,Ai,aF hg,h2,h4,ha,EA])
 ·cases e
theorem zt{t:TypeId}{x key:Operand}{ok:Bool}(h:ET ans an tm ops AF tk ⟨dst,.lookup t x key ok,ty,pos,AH,gd⟩ rs1 rs2)(e:aD P ans an true AF l cf tm tk ⟨dst,.lookup t x key ok,ty,pos,AH,gd⟩ rs1 kp k1=some r):Two P ans an tm ops AF tk cf ⟨dst,.lookup t x key ok,ty,pos,AH,gd⟩ rs1 rs2 k1 r:=by
 have hx:=h.opd x (by simp[Op.operands]);have GA:=h.opd key (by simp[Op.operands]);have A7:stoAg rs1.sto rs2.sto:=h.sto;simp only[aD] at e
 split at e
 ·rename_i kt el i hu hb
  obtain⟨es,ho,e⟩:=lI e;obtain⟨kv,e,h3⟩:=kQ GA e;obtain⟨hg,e⟩:=aB e;obtain⟨o,DL,e⟩:=aC e;obtain⟨z,hz,e⟩:=aC e;have h2:=hx.eq (by rw[hb];simp);rw[hb] at h2
  have Im:rs2.sto.objs[i]?=some (.map es):=by
   rcases A7.objs i with h'|⟨c1,c2,h',_⟩
   ·rw[h',ho]
   ·rw[ho] at h';cases h'
  cases ok with
  |true=>exact .plain e (λR2 BL k2=>by simp only[aD,hu,h2,Im,lH,h3,aF hg,DL,hz,Ai]) (λu y he=>by cases he)
  |false=>exact .val e (λR2 BL k2=>by simp only[aD,hu,h2,Im,lH,h3,aF hg,DL,hz,Ai])
 ·cases e
theorem cj{t:TypeId}{x key y:Operand}(h:ET ans an tm ops AF tk ⟨dst,.mapUpdate t x key y,ty,pos,AH,gd⟩ rs1 rs2)(e:aD P ans an true AF l cf tm tk ⟨dst,.mapUpdate t x key y,ty,pos,AH,gd⟩ rs1 kp k1=some r):Two P ans an tm ops AF tk cf ⟨dst,.mapUpdate t x key y,ty,pos,AH,gd⟩ rs1 rs2 k1 r:=by
 have hx:=h.opd x (by simp[Op.operands]);have GA:=h.opd key (by simp[Op.operands]);have hy:=h.opd y (by simp[Op.operands]);have A7:rs2.sto=rs1.sto:=h.sto;simp only[aD] at e
 split at e
 ·rename_i kt el i hu hb
  obtain⟨es,ho,e⟩:=lI e;obtain⟨kv,e,h3⟩:=kQ GA e;obtain⟨v,e,h4⟩:=kQ hy e;obtain⟨hg,e⟩:=aB e;obtain⟨es',VT,e⟩:=aC e;have h2:=hx.eq (by rw[hb];simp);rw[hb] at h2;refine⟨.dead,[],λsto=>{ sto with objs:=sto.objs.set i (.map es') },e,λR2 BL k2=>?_,by simp,by simp,(λu y he=>by cases he),trivial⟩;simp only[aD,hu,h2,A7,ho,lH,h3,h4,aF hg,VT,Ai];rfl
 ·cases e
theorem wq{t:TypeId}{x:Option Operand}(h:ET ans an tm ops AF tk ⟨dst,.makeMap t x,ty,pos,AH,gd⟩ rs1 rs2)(e:aD P ans an true AF l cf tm tk ⟨dst,.makeMap t x,ty,pos,AH,gd⟩ rs1 kp k1=some r):Two P ans an tm ops AF tk cf ⟨dst,.makeMap t x,ty,pos,AH,gd⟩ rs1 rs2 k1 r:=by
 have A7:rs2.sto=rs1.sto:=h.sto;simp only[aD] at e;cases x with
 |none =>
  refine⟨.val (.amap rs1.sto.objs.length),[],λsto=>{ sto with objs:=sto.objs++[.map []] },e,λR2 BL k2=>?_,by simp,by simp,(λu y he=>by cases he),trivial⟩;simp only[aD,A7];rfl
 |some x =>
  have hx:=h.opd x (by simp[Op.operands]);simp only at e;obtain⟨kd,n,e,h2⟩:=dQ hx e;obtain⟨hg,e⟩:=aB e;refine⟨.val (.amap rs1.sto.objs.length),[],λsto=>{ sto with objs:=sto.objs++[.map []] },e,λR2 BL k2=>?_,by simp,by simp,(λu y he=>by cases he),trivial⟩;simp only[aD,h2,aF hg,A7];rfl
end
end Go.AM
