import Derived.Test.YtoiocfngjchdiaaGreatDoorA05
set_option linter.all false
namespace Go.AM
section
variable {P:Program}{ans:FuncId->AF}{w:World}{B0:Nat}{Ψ:HT}{J:List Nat}{ow:Own}{tmps:Array Value}
variable {ds:List Deferred}{cf:aI}{lp:aO}{fid:FuncId}{B1:Nat}{b:Frame}{cs:List Frame}{items:List Item}{st:St}{pr:gG}
def lX(T:Array Value)(ps:List Nat)(vs:List Value):Array Value:=(ps.zip vs).foldl (λt (p:Nat×Value)=>t.setIfInBounds p.1 p.2) T
theorem a2y:∀(ps:List Nat)(vs:List Value)(T:Array Value),(lX T ps vs).size=T.size
 |[],vs,T=>rfl
 |p::ps,[],T=>rfl
 |p::ps,v::vs,T=>by
  show(lX (T.setIfInBounds p v) ps vs).size=T.size;rw[a2y];simp
theorem fV(l r:List (Nat×Slot))(t:Nat):bV (l++r) t=match bV l t with|some s=>some s|none=>bV r t:=by
 induction l with
 |nil=>rfl
 |cons p l ih =>
  obtain⟨k,s⟩:=p;simp only[Cw,bV];cases Nat.beq k t with
  |true=>rfl
  |false=>exact ih
theorem a0l:∀(ps:List Nat)(args:List Slot)(vs:List Value)(T:Array Value),args.length=ps.length->vs.length=ps.length->(∀(i:Nat) s u,args[i]?=some s->vs[i]?=some u->∃x,s=.val x/\am Ψ J x u)->∀t,
  match bV (ps.zip args).reverse t with
  |some s=>∃x u,s=.val x/\am Ψ J x u/\t∈ps/\(t<T.size->(lX T ps vs).getD t undef=u)
  |none=>(lX T ps vs).getD t undef=T.getD t undef
 |[],args,vs,T,h1,h2,h,t=>by simp[bV,lX]
 |p::ps,[],vs,T,h1,h2,h,t=>by simp at h1
 |p::ps,a::args,[],T,h1,h2,h,t=>by simp at h2
 |p::ps,a::args,v::vs,T,h1,h2,h,t=>by
  have ih:=a0l ps args vs (T.setIfInBounds p v) (by simpa using h1) (by simpa using h2) (λi s u hs hu=>h (i+1) s u (by simpa using hs) (by simpa using hu)) t;have fM:lX T (p::ps) (v::vs)=lX (T.setIfInBounds p v) ps vs:=rfl;rw[fM];rw[show((p::ps).zip (a::args)).reverse=(ps.zip args).reverse++[(p,a)] by simp,fV];cases hl:bV (ps.zip args).reverse t with
  |some s =>
   rw[hl] at ih;obtain⟨x,u,g1,g2,g3,g4⟩:=ih;exact⟨x,u,g1,g2,by simp[g3],λht=>g4 (by simpa using ht)⟩
  |none =>
   rw[hl] at ih;simp only at ih ⊢;simp only[bV];cases hp:Nat.beq p t with
   |true =>
    have hpt:=Aa hp;subst hpt;obtain⟨x,hx,hv⟩:=h 0 a v rfl rfl;refine⟨x,v,hx,hv,by simp,λht=>?_⟩;rw[ih,eF _ _ _ _ ht,Br rfl]
   |false =>
    simp only[Bh];rw[ih];have BA:t≠p:=λe=>by subst e;rw[show Nat.beq t t=true from Ci t] at hp;cases hp
    simp[Af,Bn (Dc BA)]
theorem aE0{w':World}{J':List Nat}{AO:Own}{tmps':Array Value}{t:Nat}{s:Slot}{v:Value}(h:bX w 0 Ψ J ow tmps t s v)(hs:dU s=s)(hp:pre J J'):bX w' B0 Ψ J' AO tmps' t s v:=by
 cases h with
 |dead=>exact .dead _
 |val x v h=>exact .val x v (h.mono Ψ.le_refl hp)
 |full xs a n h=>exact .full xs a n h
 |nl=>exact .nl
 |nn xs a n c h=>exact .nn xs a n c h
 |aj=>cases hs
 |own=>cases hs
 |cells=>cases hs
 |box=>cases hs
 |ref=>cases hs
theorem a15{tm:List Slot}(h:∀s∈tm,dU s=s)(ks:List Nat)(t:Nat):dU (bg ks tm t)=bg ks tm t:=by
 rcases oF (ks:=ks) (tm:=tm) (t:=t) with h1|h1
 ·rw[h1];rfl
 ·exact h _ h1
theorem kY{R:Type}{r:R}{sto:AH}{i:Nat}{k:iU->Option R}(h:dE sto i k=some r):∃l,sto.objs[i]?=some (.loop l)/\k l=some r:=by
 unfold dE at h
 split at h
 ·exact⟨_,by assumption,h⟩
 ·cases h
theorem er{sto:AH}(h:i_ w B0 Ψ J ow ans sto.objs){i lb:Nat}{l:iU}(ho:sto.objs[i]?=some (.loop l))(hl:J[i]?=some lb) :
  ∃rr,w.heap[lb]?=some (.loop rr)/\ow lb=some (true,i,0)/\B0<=lb/\(∀o,Ψ lb o=FZ)/\s_ w Ψ (J.take (i+1)) ans l rr:=by
 obtain⟨b,h1,h2⟩:=h.2 i _ ho;obtain rfl:b=lb:=by rw[hl] at h1;exact(Bp h1).symm
 cases h2 with
 |loop _ _ rr a1 a2 a3 a4 a5=>exact⟨rr,a1,a2,a3,a4,a5⟩
theorem s_.put{w':World}{l l':iU}{rr rr':Loop}(h:s_ w Ψ J ans l rr)(h1:l'={ l with state:=l'.state,pend:=l'.pend })(h2:rr'={ rr with state:=l'.state,pending:=l'.pend }):s_ w' Ψ J ans l' rr':=by
 rw[h1,h2];refine⟨rfl,rfl,h.fn,h.params,h.assign,h.body,h.size,λt=>?_,h.snap,h.hi⟩;exact(h.dr t).mono Ψ.le_refl (aG _) (λb s hb=>by cases hb) (λ_ _ _=>rfl)
theorem Rest.gv{sto:AH}(h:Rest ans B0 w Ψ J ow sto){i lb:Nat}{l l':iU}{rr rr':Loop}(ho:sto.objs[i]?=some (.loop l))(hl:J[i]?=some lb)(Lt:w.heap[lb]?=some (.loop rr))(DW:ow lb=some (true,i,0))(h0:B0<=lb)(hf:∀o,Ψ lb o=FZ)
  (CW:s_ w Ψ (J.take (i+1)) ans l rr) (h1:l'={ l with state:=l'.state,pend:=l'.pend }) (h2:rr'={ rr with state:=l'.state,pending:=l'.pend }) :
  Rest ans B0 (w.putObj lb (.loop rr')) Ψ J ow (AM.gv sto i l')/\Fr w Ψ ow (w.putObj lb (.loop rr')) Ψ ow/\(∀kk j,¬(kk=true/\j=i)->e_ w Ψ ow (w.putObj lb (.loop rr')) Ψ ow kk j kk j):=by
 have AL:lb<w.heap.size:=(An.1 Lt).1
 have same:∀kk j,¬(kk=true/\j=i)->e_ w Ψ ow (w.putObj lb (.loop rr')) Ψ ow kk j kk j:=λkk j hk b' s BC =>
  ⟨BC,World.putObj_heap_other (λe=>by subst e;rw[DW] at BC;simp only[Am,Bq] at BC;exact hk ⟨BC.1.symm,BC.2.1.symm⟩),λ_ h=>h⟩
 refine⟨⟨h.b_.put hf,?_,λx hx=>by rw[World.putObj_size];exact h.lt x hx⟩,Fr.put (by simp[DW]) (λ_ h=>h),same⟩;exact h.objs.set (Ab.1 ho).1 hl (.loop _ _ rr' (World.putObj_heap_same AL) DW h0 hf (CW.put h1 h2)) λj hj=>same true j (by simp[hj])
theorem a7I(BO:kC P ans B0 cf)(BJ:qx P ans B0 lp)(E0:gU P ans cf){i:Nat}{args:List Slot}{sto:AH}{res:d_}{sto':AH}(e:cG P ans pr cf lp (.bN i) args sto=some (res,sto')) :
  ∃al,sto.objs[i]?=some (.loop al)/\args.length=al.params.size/\∀w Ψ J ow vs,dT ans B0 w Ψ J ow args vs sto->∀l rr,J[i]?=some l->w.heap[l]?=some (.loop rr)->∀c cs,
   dS P ans B0 w Ψ J ow sto c cs (lone (Frame.round l rr.fn ((rr.params.zip vs).foldl (λt (p,a)=>t.setIfInBounds p a) rr.tmps) rr.assign rr.body .normal) (c::cs) w) res sto':=by
 simp only[cG] at e;obtain⟨al,CV,e⟩:=kY e
 split at e
 case h_2=>cases e
 rename_i EO;obtain⟨hg,e⟩:=aB e;simp only[Ac] at hg;obtain⟨⟨⟨⟨⟨⟨g1,g2⟩,g3⟩,g4⟩,g5⟩,g6⟩,g7⟩:=hg;have qe:args.length=al.params.size:=Aa g2;have a8w:sto.lo<=i:=Ad g1;refine⟨al,CV,qe,λw Ψ J ow vs BM l rr hl Lt c cs=>?_⟩;obtain⟨rr',PC,DW,h0,hf,CW⟩:=er BM.objs CV hl;obtain rfl:rr=rr':=by rw[Lt] at PC;exact Obj.loop.inj (Bp PC)
 obtain⟨fn,HU⟩:=Ec.1 g6
 let b:Frame:={ (default:Frame) with fn:=rr.fn,kind:=.normal,roundOf:=some l }
 have a0O:b.fn=al.fn:=CW.fn
 let T:=lX rr.tmps rr.params.toList vs.toList
 have a4p:Frame.round l rr.fn ((rr.params.zip vs).foldl (λt (p,a)=>t.setIfInBounds p a) rr.tmps) rr.assign rr.body .normal=b.atR ⟨T,[]⟩ [.code al.assign,.beginRound,.code al.body]:=by
  have hT:(rr.params.zip vs).foldl (λt (p,a)=>t.setIfInBounds p a) rr.tmps=T:=by
   simp only[T,lX];rw[<-Du,Array.toList_zip]
  rw[hT,<-CW.assign,<-CW.body];rfl
 have a4k:lone (Frame.round l rr.fn ((rr.params.zip vs).foldl (λt (p,a)=>t.setIfInBounds p a) rr.tmps) rr.assign rr.body .normal) (c::cs) w=lone (b.atR ⟨T,[]⟩ [.code al.assign,.beginRound,.code al.body]) (c::cs) w:=by rw[a4p]
 rw[a4k];have hTs:T.size=(ans al.fn).nt:=by rw[a2y];exact CW.size
 have hil:i<sto.objs.length:=(Ab.1 CV).1
 have a4R:=a0l (Ψ:=Ψ) (J:=J) rr.params.toList args vs.toList rr.tmps (by rw[CW.params];simpa using qe) (by rw[CW.params];have:=BM.size;simp;omega) (λj s u hs hu=>by
  have hv:=Au.1 g5 s (Be hs);have Rf:=BM.args j s hs;have hvu:vs.getD j undef=u:=by simp[Af,show vs[j]?=some u by simpa using hu]
  rw[hvu] at Rf;cases Rf with
  |val x u h=>exact⟨x,rfl,h⟩
  |_=>simp[Slot.isVal] at hv)
 have hA:At P ans al.fn B0 w Ψ J ow ⟨dH (ans al.fn).keep al.tm (al.params.toList.zip args),sto⟩ T:=by
  have FW:∀t,bg (ans al.fn).keep (dH (ans al.fn).keep al.tm (al.params.toList.zip args)) t=.dead\/(bX w B0 Ψ J ow T t (bg (ans al.fn).keep (dH (ans al.fn).keep al.tm (al.params.toList.zip args)) t) (T.getD t undef)/\t<(ans al.fn).nt/\dU (bg (ans al.fn).keep (dH (ans al.fn).keep al.tm (al.params.toList.zip args)) t)=bg (ans al.fn).keep (dH (ans al.fn).keep al.tm (al.params.toList.zip args)) t):=λt=>by
   unfold dH;rcases l5 (ans al.fn).keep al.tm (al.params.toList.zip args).reverse t with h1|h1
   ·exact .inl h1
   ·have hp:=a4R t
    rw[CW.params] at hp;rw[h1];cases G7:bV (al.params.toList.zip args).reverse t with
    |some s =>
     rw[G7] at hp;obtain⟨x,u,rfl,hx,hm,hu⟩:=hp
     have KY:t<(ans al.fn).nt:=by
      have:=Au.1 g7 t hm
      simpa[Cy] using this
     right;refine⟨?_,KY,rfl⟩
     have:T.getD t undef=u:=by simp only[T,CW.params];exact hu (by rw[CW.size];exact KY)
     rw[this];exact .val x u hx
    |none =>
     rw[G7] at hp;simp only at hp ⊢;rcases Dl t (ans al.fn).nt with KY|KY
     ·right
      refine⟨?_,KY,a15 CW.snap _ t⟩
      have:T.getD t undef=rr.tmps.getD t undef:=by simp only[T,CW.params];exact hp
      rw[this];exact aE0 (CW.dr t) (a15 CW.snap _ t) a0m
     ·exact .inl (CW.hi t KY)
  have hns:∀t u o,bg (ans al.fn).keep (dH (ans al.fn).keep al.tm (al.params.toList.zip args)) t≠.ref u o:=λt u o he=>by
   rcases FW t with h1|⟨_,_,h1⟩
   ·rw[h1] at he;cases he
   ·rw[he] at h1;cases h1
  refine⟨⟨hTs,BM.b_,λt=>?_,λd u o he=>absurd he (hns d u o),λt BX he=>?_,BM.objs,BM.lt,BM.base,λt ht=>?_⟩,?_,BM.lo⟩
  ·rcases FW t with h1|⟨h1,_,_⟩
   ·show bX w B0 Ψ J ow T t (bg (ans al.fn).keep (dH (ans al.fn).keep al.tm (al.params.toList.zip args)) t) _
    rw[h1];exact .dead _
   ·exact h1
  ·have Hp:bg (ans al.fn).keep (dH (ans al.fn).keep al.tm (al.params.toList.zip args)) t=.box BX:=he
   rcases FW t with h1|⟨_,_,h1⟩
   ·rw[h1] at Hp;cases Hp
   ·rw[Hp] at h1;cases h1
  ·show bg (ans al.fn).keep (dH (ans al.fn).keep al.tm (al.params.toList.zip args)) t=.dead
   rcases FW t with h1|⟨_,h1,_⟩
   ·exact h1
   ·omega
  ·exact ij.ed λs hs u o he=>by have:=CW.snap s hs;rw[he] at this;cases this
 obtain⟨ex,GK,LO,w1,Z1,J1,BR,BF,I9,a1,a2,a3,a4,a5,a6⟩:=oL BO BJ E0 al.assign (b:=b) (cs:=c::cs) (items:=[.beginRound,.code al.body]) (fid:=al.fn) (B1:=w.heap.size) a0O (.inr g3) hA (Marks.nil w ow w.heap.size) (Ae _) e;cases ex with
 |exit=>cases LO
 |ret=>cases LO
 |be=>cases LO
 |norm =>
 simp only at LO;obtain⟨l1,N4,LO⟩:=kY LO
 split at LO
 case h_2=>cases LO
 rename_i a4l;have a1:At P ans al.fn B0 w1 Z1 J1 BR GK BF:=a1;have J9:J1[i]?=some l:=a4 i l hl;obtain⟨R0,PA,a4y,Y2,LN,Ml⟩:=er a1.rel.objs N4 J9
 let Tm:iU:={ l1 with state:=.busy }
 have FY:=a1.rest.gv (l':=Tm) (rr':={ R0 with state:=.busy }) N4 J9 PA a4y Y2 LN Ml rfl (by
  show({ R0 with state:=.busy }:Loop)={ R0 with state:=.busy,pending:=l1.pend }
  rw[<-Ml.pend])
 have a4r:=run_beginRound (P:=P) PA (by rw[Ml.state];exact a4l)
 let RL:=w1.putObj l (.loop { R0 with state:=.busy })
 have hAb:At P ans al.fn B0 RL Z1 J1 BR { GK with sto:=gv GK.sto i Tm } BF :=
  ⟨⟨a1.rel.size,FY.1.b_,λt=>(a1.rel.dr t).mono Z1.le_refl (aG _) (FY.2.2 false t (by simp)) (λ_ _ _=>rfl),a1.rel.refs,a1.rel.boxes,FY.1.objs,FY.1.lt,by have:=a1.rel.base;simpa[RL] using this,a1.rel.hi⟩,a1.nr,by simp only[gv,Ga];exact a1.lo⟩
 have hM1:=a2.mono FY.2.1;obtain⟨ex,JC,G8,w2,Z2,J2,CG,CC,FP,c1,c2,c3,c4,c5,c6⟩:=oL BO BJ E0 al.body (b:=b) (cs:=c::cs) (items:=[]) (fid:=al.fn) (B1:=w.heap.size) a0O (.inr g4) hAb hM1 (Bi a3.size FY.2.1.size) LO
 have Im:Steps P (lone (b.atR ⟨T,[]⟩ [.code al.assign,.beginRound,.code al.body]) (c::cs) w) (lone (b.atR ⟨BF,I9⟩ [.code al.body]) (c::cs) RL) :=
  Steps.trans a6 (.one (stepR_beginRound (b:=b) rfl a4r))
 have Ja:Fr w Ψ ow w2 Z2 CG:=(a3.trans FY.2.1).trans c3;have Lw:pre J J2:=dF a4 c4
 have a4t:gr sto (gv GK.sto i Tm):=⟨a5.lo,by simp only[gv,Ga];exact a5.len,λj hj=>by
  simp only[gv];rw[Ce,Bf (by omega)];exact a5.keep j hj⟩
 have Il:gr sto JC.sto:=a4t.trans c5;have JM:J.length=sto.objs.length:=BM.objs.1
 have fin:∀(jump:Option Code)(l2:iU),JC.sto.objs[i]?=some (.loop l2)->Rest ans B0 w2 Z2 J2 CG JC.sto->res=.ret (.val (.bool jump.isNone))->sto'=cut sto.objs.length (gv JC.sto i { l2 with state:=if jump.isNone then .ready else .done,pend:=jump }) ->
   (∀w3,(Instr.endRound l jump).run P w2=.ok (.bool jump.isNone) w3->Steps P (lone (b.atR ⟨BF,I9⟩ [.code al.body]) (c::cs) RL) (lone (c.finish (.bool jump.isNone)) cs w3)) ->
   dS P ans B0 w Ψ J ow sto c cs (lone (b.atR ⟨T,[]⟩ [.code al.assign,.beginRound,.code al.body]) (c::cs) w) res sto':=λjump l2 PJ G5 B7 C9 A8=>by
  have G7:J2[i]?=some l:=c4 i l J9;obtain⟨Xc,Oz,a4x,Y1,hf2,a4W⟩:=er G5.objs PJ G7
  let l3:iU:={ l2 with state:=if jump.isNone then .ready else .done,pend:=jump }
  have Iq:=G5.gv (l':=l3) (rr':={ Xc with state:=if jump.isNone then .ready else .done,pending:=jump }) PJ G7 Oz a4x Y1 hf2 a4W rfl rfl;have ET:=run_endRound (P:=P) jump Oz;have hn:sto.objs.length<=(gv JC.sto i l3).objs.length:=by simp only[gv,Ga];exact Il.len
  subst B7 C9;refine⟨w2.putObj l (.loop { Xc with state:=if jump.isNone then .ready else .done,pending:=jump }),Z2,J2.take sto.objs.length,CG,Ja.trans Iq.2.1,iD (J2:=J2) Lw JM.symm (by rw[Gf,Nat.min_self]),Iq.1.b_,Iq.1.objs.front _ hn,Iq.1.lt,⟨Il.lo,?_,λj hj=>?_⟩,rfl,.bool jump.isNone,.val _ _ (.bool _),Im.trans (A8 _ ET)⟩
  ·show sto.objs.length<=((gv JC.sto i l3).objs.take sto.objs.length).length
   rw[Dz];omega
  ·show((gv JC.sto i l3).objs.take sto.objs.length)[j]?=_
   rw[Bl,Br (by omega)];simp only[gv];rw[Ce,Bf (by omega)];exact Il.keep j hj
 cases ex with
 |norm =>
  simp only at G8;obtain⟨l2,Lz,G8⟩:=kY G8;simp only[Am,Bq] at G8;exact fin none l2 Lz (r9.rest c1) G8.1.symm G8.2.symm λw3 ET=>Steps.trans c6 (.one (stepR_round_end (b:=b) rfl rfl ET))
 |ret =>
  simp only at G8;obtain⟨l2,Lz,G8⟩:=kY G8;simp only[Am,Bq] at G8;obtain⟨k,hk⟩:=c6;exact fin (some .ret) l2 Lz (r9.rest c1) G8.1.symm G8.2.symm λw3 ET=>hk.trans (.one (stepR_round_ret (b:=b) rfl rfl ET))
 |exit id =>
  simp only at G8;obtain⟨l2,Lz,G8⟩:=kY G8;simp only[Am,Bq] at G8;obtain⟨k,hx,hk⟩:=c6;exact fin (some (.exit id)) l2 Lz (r9.rest c1) G8.1.symm G8.2.symm λw3 ET=>hk.trans (.one (stepR_round_exit (b:=b) rfl rfl hx ET))
 |be x =>
  simp only[Am,Bq] at G8;obtain⟨rfl,rfl⟩:=G8;obtain⟨v,k,hv,hs⟩:=c6;obtain⟨w3,p1,p2,p3,p4,p5,p6⟩:=sC (P:=P) (cs:=c::cs) (fr:={ b.atR ⟨CC,FP⟩ k with mode:=.panicking [{ v,recovered:=false }] }) c2 (by simp) rfl;have JH:=Rest.kept c1 p2 p3;refine⟨w3,Z2,J2,CG,Ja.kept (Ae _) p2 p3 p4 p5 p6,Lw,JH.b_,JH.objs,JH.lt,Il,v,hv,(Im.trans (hs.trans p1)).trans (.one (step_leave_panicked ⟨rfl,rfl,fn,?_⟩))⟩;show P.funcs[rr.fn]?=some fn;rw[CW.fn];exact HU
structure Env (P:Program) (ans:FuncId->AF) (B0:Nat) (pr:gG):Prop where
 jx:∀f args res,pr f args=some (some res)->(∃F,P.funcs[f]?=some F/\F.body.isSome=true)/\∀sto w Ψ J ow vs,dT ans B0 w Ψ J ow args vs sto->∀c cs,dS P ans B0 w Ψ J ow sto c cs (lone (Frame.enter P f vs .normal) (c::cs) w) res sto
 names:∀(f:Nat)(F:Func),P.funcs[f]?=some F->F.body.isSome=true->F.name≠ "runtime.NumGoroutine"
 drawn:∀cf,e7 ans cf->gU P ans cf
theorem a6i(E:Env P ans B0 pr)(BO:kC P ans B0 cf)(BJ:qx P ans B0 lp)(DJ:e7 ans cf):kC P ans B0 (cG P ans pr cf lp) where
 fn:=λf args sto res sto' e=>by
  cases HO:pr f args with
  |some o =>
   cases o with
   |none=>simp[cG,HO] at e
   |some r0 =>
    simp only[cG,HO,Ar,Aq] at e;obtain⟨s0,G4,he⟩:=e;cases r0 with
    |be v=>cases G4
    |ret s =>
    obtain⟨_,G4⟩:=aB G4;cases G4;cases he;obtain⟨⟨F,h1,h2⟩,h3⟩:=E.jx _ _ _ HO;exact⟨⟨F,h1,h2,E.names _ _ h1 h2⟩,λw Ψ J ow vs hp c cs=>h3 sto w Ψ J ow vs hp c cs⟩
  |none =>
   obtain⟨⟨F,h1,h2⟩,h3⟩:=a3H BO BJ (E.drawn cf DJ) HO e;exact⟨⟨F,h1,h2,E.names _ _ h1 h2⟩,λw Ψ J ow vs hp c cs=>(h3 w Ψ J ow vs hp (c::cs)).post⟩
 bN:=λi args sto res sto' e=>a7I BO BJ (E.drawn cf DJ) e
theorem yA:∀n,e7 ans (run P ans pr n).1
 |0=>λf args _=>⟨none,by simp,λsto=>rfl⟩
 |n+1=>λf args h=>by
  cases hp:pr f args with
  |none=>exact⟨none,by simp,λsto=>by simp[run,cG,hp,h]⟩
  |some o =>
   refine⟨o.bind fg,λs hs=>?_,λsto=>by simp[run,cG,hp]⟩;obtain⟨r,_,hs⟩:=aH hs;cases r with
   |be v=>cases hs
   |ret s'=>obtain⟨hg,hs⟩:=aB hs;cases hs;exact hg
theorem x9(E:Env P ans B0 pr):∀n,kC P ans B0 (run P ans pr n).1/\qx P ans B0 (run P ans pr n).2
 |0=>⟨⟨λf args sto res sto' e=>by simp[run] at e,λi args sto res sto' e=>by simp[run] at e⟩,λfid c st e AY h=>by simp[run] at h⟩
 |n+1=>by
  obtain⟨h1,h2⟩:=x9 E n;exact⟨a6i E h1 h2 (yA n),a6A h1 h2 (E.drawn _ (yA n))⟩
theorem aBE(E:Env P ans B0 pr){n:Nat}{f:FuncId}{args:List Slot}{sto:AH}{res:d_}{sto':AH}(HO:pr f args=none)(e:(run P ans pr (n+1)).1 (.fn f) args sto=some (res,sto')){vs:Array Value}(BM:dT ans B0 w Ψ J ow args vs sto) :
  Calls P f vs w λe w'=>∃Z' J' AO,Fr w Ψ ow w' Z' AO/\c_ Z' w'/\match res with
   |.ret s=>∃v,e=.returned v/\bX w' B0 Z' J' AO #[] 0 s v
   |.be x=>∃v,e=.panicked [{ v,recovered:=false }]/\am Z' J' x v:=by
 intro cs;obtain⟨h1,h2⟩:=x9 E n;obtain⟨w',Z',J',AO,fr,a1,a2,a3,a4,a5,a6,a7,a8,a9⟩:=(a3H h1 h2 (E.drawn _ (yA n)) HO e).2 w Ψ J ow vs BM cs;cases res with
 |ret s =>
  obtain⟨_,v,hs,hl⟩:=a9;exact⟨.returned v,w',fr,⟨Z',J',AO,a1,a3,v,rfl,hs⟩,a7,a8,hl⟩
 |be x =>
  obtain⟨v,hs,hl⟩:=a9;exact⟨.panicked _,w',fr,⟨Z',J',AO,a1,a3,v,rfl,hs⟩,a7,a8,hl⟩
end
section
variable {P:Program}{ans:FuncId->AF}{an:AF}{R:Type}{r:R}
variable {tm:List Slot}{rs1 rs2:RS}{k1:Slot->RS->Option R}{ops:Array Oper}{AA tk:Bool}{cf:aI}{o:Oper}
def ji(s1 s2:Slot):Prop:=s2=s1\/∃c1 c2,s1=.box c1/\s2=.box c2
theorem ji.eq{s1 s2:Slot}(h:ji s1 s2)(hn:∀c,s1≠.box c):s2=s1:=by
 rcases h with h|⟨c1,c2,h,_⟩
 ·exact h
 ·exact absurd h (hn c1)
theorem pX{s1 s2:Slot}(h:ji s1 s2){k:ae->Option R}(e:DS s1 k=some r):∃x,k x=some r/\∀(R2:Type)(k2:ae->Option R2),DS s2 k2=k2 x:=by
 have hs:=h.eq (λc he=>by subst he;simp[DS] at e);subst hs;unfold DS at e
 split at e<;>first|exact⟨_,e,λR2 k2=>rfl⟩|cases e
theorem pW{s1 s2:Slot}(h:ji s1 s2){k:List ae->Option R}(e:lD s1 k=some r):∃x,k x=some r/\∀(R2:Type)(k2:List ae->Option R2),lD s2 k2=k2 x:=by
 have hs:=h.eq (λc he=>by subst he;simp[lD] at e);subst hs;unfold lD at e
 split at e<;>first|exact⟨_,e,λR2 k2=>rfl⟩|cases e
theorem iY{s1 s2:Slot}(h:ji s1 s2){k:IntKind->Int->Option R}(e:asInt s1 k=some r):∃a b,k a b=some r/\∀(R2:Type)(k2:IntKind->Int->Option R2),asInt s2 k2=k2 a b:=by
 have hs:=h.eq (λc he=>by subst he;simp[asInt] at e);subst hs;unfold asInt at e
 split at e<;>first|exact⟨_,_,e,λR2 k2=>rfl⟩|cases e
theorem a6W{s1 s2:Slot}(h:ji s1 s2){k:Bool->Option R}(e:asBool s1 k=some r):∃b,k b=some r/\∀(R2:Type)(k2:Bool->Option R2),asBool s2 k2=k2 b:=by
 have hs:=h.eq (λc he=>by subst he;simp[asBool] at e);subst hs;unfold asBool at e
 split at e
 ·rename_i b
  refine⟨b,by cases b<;>simpa using e,λR2 k2=>by cases b<;>rfl⟩
 ·cases e
theorem et{s1 s2:Slot}(h:ji s1 s2){k:Slot->Option R}(e:mv s1 k=some r):∃x,k x=some r/\(∀(R2:Type)(k2:Slot->Option R2),mv s2 k2=k2 x)/\∀u y,x=.ref u y->s1=.ref u y:=by
 have hs:=h.eq (λc he=>by subst he;simp[mv] at e);subst hs;unfold mv at e
 split at e<;>first|exact⟨_,e,λR2 k2=>rfl,λu y he=>by cases he;rfl⟩|exact⟨_,e,λR2 k2=>rfl,λu y he=>by cases he⟩|cases e
theorem aD{b:Bool}(h:b=true)(k:Option R):aJ b k=k:=by subst h;rfl
def aSS(o1 o2:Option ai):Prop:=o2=o1\/∃c1 c2,o1=some (.box c1)/\o2=some (.box c2)/\c2.map Cell.get=c1.map Cell.get
structure jz (a b:AH):Prop where
 lo:b.lo=a.lo
 len:b.objs.length=a.objs.length
 objs:∀i:Nat,aSS a.objs[i]? b.objs[i]?
theorem jz.refl(a:AH):jz a a:=⟨rfl,rfl,λ_=>.inl rfl⟩
structure GJ (ans:FuncId->AF) (an:AF) (tm:List Slot) (ops:Array Oper) (AA tk:Bool) (o:Oper) (rs1 rs2:RS):Prop where
 bd:∀x∈o.op.operands.toList,ji (AZ an.keep tm rs1 x) (AZ an.keep tm rs2 x)
 rb:∀u∈Ic an.loc ops o,∀c,rs1.look an.keep tm u=.box c->∃c2,rs2.look an.keep tm u=.box c2/\c2.map Cell.get=c.map Cell.get
 wb:∀u,(u∈IQ an.loc ops o\/u∈HL an.loc ops tk o)->rs2.look an.keep tm u=rs1.look an.keep tm u
 sto:match cJ ans an.loc ops AA tk o with
  |.p=>True
  |.r=>jz rs1.sto rs2.sto
  |_=>rs2.sto=rs1.sto
structure Eff (ans:FuncId->AF) (an:AF) (tm:List Slot) (ops:Array Oper) (AA tk:Bool) (o:Oper) (rs1:RS) (s:Slot) (puts:List (Nat×Slot)) (g:AH->AH):Prop where
 keys:∀p∈puts,p.1∈cons an.keep tk o\/(p.1∈IQ an.loc ops o/\∃c c',rs1.look an.keep tm p.1=.box c/\p.2=.box c')\/(p.1∈HL an.loc ops tk o/\∃c c',rs1.look an.keep tm p.1=.box c/\p.2=.box c'/\c'.map Cell.get=c.map Cell.get)
 dv:∀p∈puts,∀u x,p.2≠.ref u x
 ref:∀u x,s=.ref u x->eL o=some u\/∃t∈GR ops o,∃y,rs1.look an.keep tm t=.ref u y
 sto:match cJ ans an.loc ops AA tk o with
  |.t=>jz rs1.sto (g rs1.sto)
  |.w=>True
  |.x=>True
  |_=>g=id
def jr(P:Program)(ans:FuncId->AF)(an:AF)(tm:List Slot)(ops:Array Oper)(AA tk:Bool)(cf:aI)(o:Oper)(rs1 rs2:RS)(k1:Slot->RS->Option R)(r:R):Prop :=
 ∃s puts g,k1 s ⟨puts++rs1.sc,g rs1.sto⟩=some r/\(∀(R2:Type)(BS:ae->RS->Option R2)(k2:Slot->RS->Option R2),aC P ans an true AA (eM an.loc ops.toList ops.size (addrOf o)) cf tm tk o rs2 BS k2=k2 s ⟨puts++rs2.sc,g rs2.sto⟩)/\Eff ans an tm ops AA tk o rs1 s puts g
theorem jr.plain{s:Slot}(hk:k1 s rs1=some r)(h2:∀(R2:Type)(BS:ae->RS->Option R2)(k2:Slot->RS->Option R2),aC P ans an true AA (eM an.loc ops.toList ops.size (addrOf o)) cf tm tk o rs2 BS k2=k2 s rs2)
  (hr:∀u x,s=.ref u x->eL o=some u\/∃t∈GR ops o,∃y,rs1.look an.keep tm t=.ref u y):jr P ans an tm ops AA tk cf o rs1 rs2 k1 r :=
 ⟨s,[],id,hk,h2,by simp,by simp,hr,by split<;>first|rfl|trivial|exact jz.refl _⟩
theorem jr.val{x:ae}(hk:k1 (.val x) rs1=some r)(h2:∀(R2:Type)(BS:ae->RS->Option R2)(k2:Slot->RS->Option R2),aC P ans an true AA (eM an.loc ops.toList ops.size (addrOf o)) cf tm tk o rs2 BS k2=k2 (.val x) rs2):jr P ans an tm ops AA tk cf o rs1 rs2 k1 r :=
 .plain hk h2 (λu x he=>by cases he)
variable {dst:Option Nat}{ty:TypeId}{pos:String}{AK:Array Edge}{gd:Option (Nat×Bool)}
theorem aFj{op:UnOp}{t:TypeId}{x:Operand}(h:GJ ans an tm ops AA tk ⟨dst,.unOp op t x,ty,pos,AK,gd⟩ rs1 rs2){kp:ae->RS->Option R}{l:List Nat}(e:aC P ans an true AA l cf tm tk ⟨dst,.unOp op t x,ty,pos,AK,gd⟩ rs1 kp k1=some r):jr P ans an tm ops AA tk cf ⟨dst,.unOp op t x,ty,pos,AK,gd⟩ rs1 rs2 k1 r:=by
 have hx:=h.bd x (by simp[Op.operands]);simp only[aC] at e
 split at e
 ·rename_i b hb
  have h2:=hx.eq (by rw[hb];simp);rw[hb] at h2;exact .val e (λR2 BS k2=>by simp only[aC,h2])
 ·cases e
theorem aFi{c a b:Operand}(h:GJ ans an tm ops AA tk ⟨dst,.pick c a b,ty,pos,AK,gd⟩ rs1 rs2){kp:ae->RS->Option R}{l:List Nat}(e:aC P ans an true AA l cf tm tk ⟨dst,.pick c a b,ty,pos,AK,gd⟩ rs1 kp k1=some r):jr P ans an tm ops AA tk cf ⟨dst,.pick c a b,ty,pos,AK,gd⟩ rs1 rs2 k1 r:=by
 have hc:=h.bd c (by simp[Op.operands]);have ha:=h.bd a (by simp[Op.operands]);have hb:=h.bd b (by simp[Op.operands]);simp only[aC] at e;obtain⟨t,e,h2⟩:=a6W hc e
 have hm:∀x,x∈[a,b]->∀u y,AZ an.keep tm rs1 x=.ref u y->∃t∈GR ops ⟨dst,.pick c a b,ty,pos,AK,gd⟩,∃y,rs1.look an.keep tm t=.ref u y:=λx hx u y he=>by
  cases x with
  |tmp t =>
   refine⟨t,?_,y,he⟩;simp only[GR,Op.operands,Bk];left;simp only[Fg];refine⟨.tmp t,?_,rfl⟩;simp at hx ⊢;rcases hx with hx|hx
   ·simp[hx]
   ·simp[hx]
  |const v =>
   simp only[AZ,gM] at he
   split at he
   ·cases he
   ·split at he<;>cases he
  |global=>simp[AZ] at he
  |func=>simp[AZ] at he
 cases t with
 |true =>
  obtain⟨x,e,h3,h4⟩:=et ha e;exact .plain e (λR2 BS k2=>by simp only[aC,h2,h3]) (λu y he=>.inr (hm a (by simp) u y (h4 u y he)))
 |false =>
  obtain⟨x,e,h3,h4⟩:=et hb e;exact .plain e (λR2 BS k2=>by simp only[aC,h2,h3]) (λu y he=>.inr (hm b (by simp) u y (h4 u y he)))
theorem a6R{x:Operand}{i:Nat}(h:GJ ans an tm ops AA tk ⟨dst,.extract x i,ty,pos,AK,gd⟩ rs1 rs2){kp:ae->RS->Option R}{l:List Nat}(e:aC P ans an true AA l cf tm tk ⟨dst,.extract x i,ty,pos,AK,gd⟩ rs1 kp k1=some r):jr P ans an tm ops AA tk cf ⟨dst,.extract x i,ty,pos,AK,gd⟩ rs1 rs2 k1 r:=by
 have hx:=h.bd x (by simp[Op.operands]);simp only[aC] at e
 split at e
 ·rename_i vs hb
  obtain⟨u,hu,e⟩:=aH e;have h2:=hx.eq (by rw[hb];simp);rw[hb] at h2;exact .val e (λR2 BS k2=>by simp only[aC,h2,hu,Ar])
 ·cases e
theorem a6V{t:TypeId}{x:Operand}(h:GJ ans an tm ops AA tk ⟨dst,.makeInterface t x,ty,pos,AK,gd⟩ rs1 rs2){kp:ae->RS->Option R}{l:List Nat}(e:aC P ans an true AA l cf tm tk ⟨dst,.makeInterface t x,ty,pos,AK,gd⟩ rs1 kp k1=some r):jr P ans an tm ops AA tk cf ⟨dst,.makeInterface t x,ty,pos,AK,gd⟩ rs1 rs2 k1 r:=by
 have hx:=h.bd x (by simp[Op.operands]);simp only[aC] at e
 split at e
 ·cases e
 ·rename_i d hd hu
  obtain⟨v,e,h2⟩:=pX hx e;refine .val e (λR2 BS k2=>?_);simp only[aC,hu];exact h2 _ _
 ·cases e
end
section
variable {P:Program}{ans:FuncId->AF}{an:AF}{R:Type}{r:R}
variable {tm:List Slot}{rs1 rs2:RS}{k1:Slot->RS->Option R}{ops:Array Oper}{AA tk:Bool}{cf:aI}{o:Oper}
variable {dst:Option Nat}{ty:TypeId}{pos:String}{AK:Array Edge}{gd:Option (Nat×Bool)}{kp:ae->RS->Option R}{l:List Nat}
theorem lH:∀{ps:List (Nat×Operand)}{k:List (Nat×ae)->Option R},(∀p∈ps,ji (AZ an.keep tm rs1 p.2) (AZ an.keep tm rs2 p.2))->gN an.keep tm rs1 ps k=some r->∃l,k l=some r/\∀(R2:Type)(k2:List (Nat×ae)->Option R2),gN an.keep tm rs2 ps k2=k2 l
 |[],k,h,e=>⟨[],e,λR2 k2=>rfl⟩
 |(i,x)::ps,k,h,e=>by
  simp only[gN] at e;obtain⟨v,e,h2⟩:=pX (h (i,x) (by simp)) e;obtain⟨l,e,h3⟩:=lH (λp hp=>h p (by simp[hp])) e;exact⟨(i,v)::l,e,λR2 k2=>by simp only[gN,h2,h3]⟩
theorem rT:∀{xs:List Operand}{k:List ae->Option R},(∀x∈xs,ji (AZ an.keep tm rs1 x) (AZ an.keep tm rs2 x))->mM an.keep tm rs1 xs k=some r->∃l,k l=some r/\∀(R2:Type)(k2:List ae->Option R2),mM an.keep tm rs2 xs k2=k2 l
 |[],k,h,e=>⟨[],e,λR2 k2=>rfl⟩
 |x::xs,k,h,e=>by
  simp only[mM] at e;obtain⟨v,e,h2⟩:=pX (h x (by simp)) e;obtain⟨l,e,h3⟩:=rT (λp hp=>h p (by simp[hp])) e;exact⟨v::l,e,λR2 k2=>by simp only[mM,h2,h3]⟩
theorem lQ{x:Option Operand}{d:Int}{k:Int->Option R}(h:∀y,x=some y->ji (AZ an.keep tm rs1 y) (AZ an.keep tm rs2 y))(e:jQ an.keep tm rs1 x d k=some r):∃n,k n=some r/\∀(R2:Type)(k2:Int->Option R2),jQ an.keep tm rs2 x d k2=k2 n:=by
 cases x with
 |none=>exact⟨d,e,λR2 k2=>rfl⟩
 |some y =>
  simp only[jQ] at e;obtain⟨a,b,e,h2⟩:=iY (h y rfl) e;exact⟨b,e,λR2 k2=>by simp only[jQ,h2]⟩
theorem j5{x:Operand}{k:Place->Option R}(h:ji (AZ an.keep tm rs1 x) (AZ an.keep tm rs2 x))(e:dD x (AZ an.keep tm rs1 x) k=some r) :
  ∃p,k p=some r/\(∀(R2:Type)(k2:Place->Option R2),dD x (AZ an.keep tm rs2 x) k2=k2 p)/\(∀u y,p=.loc u y->x=.tmp u\/AZ an.keep tm rs1 x=.ref u y):=by
 rcases h with h|⟨c1,c2,h1,h2⟩
 ·rw[h]
  unfold dD at e
  split at e
  ·split at e
   ·rename_i t hb
    exact⟨_,e,λR2 k2=>by simp only[dD,hb],λu y he=>by cases he;exact .inl rfl⟩
   ·cases e
  ·rename_i hb
   exact⟨_,e,λR2 k2=>by simp only[dD,hb],λu y he=>by cases he;exact .inr hb⟩
  ·rename_i hb
   exact⟨_,e,λR2 k2=>by simp only[dD,hb],λu y he=>by cases he⟩
  ·rename_i hb
   exact⟨_,e,λR2 k2=>by simp only[dD,hb],λu y he=>by cases he⟩
  ·rename_i hb
   exact⟨_,e,λR2 k2=>by simp only[dD,hb],λu y he=>by cases he⟩
  ·cases e
 ·rw[h1] at e
  simp only[dD] at e
  split at e
  ·exact⟨_,e,λR2 k2=>by simp only[dD,h2],λu y he=>by cases he;exact .inl rfl⟩
  ·cases e
theorem n5{x:Operand}{t:Nat}{o:Oper}(h:x=.tmp t)(hx:x∈o.op.operands.toList):t∈GR ops o:=by
 subst h;simp only[GR,Bk];left;simp only[Fg];exact⟨.tmp t,hx,rfl⟩
theorem qQ{x:Operand}{rs:RS}{u y:Nat}(h:AZ an.keep tm rs x=.ref u y):∃t,x=.tmp t/\rs.look an.keep tm t=.ref u y:=by
 cases x with
 |tmp t=>exact⟨t,rfl,h⟩
 |const v =>
  simp only[AZ,gM] at h
  split at h
  ·cases h
  ·split at h<;>cases h
 |global=>simp[AZ] at h
 |func=>simp[AZ] at h
theorem aBU{t:TypeId}{parts:Array (Nat×Operand)}(h:GJ ans an tm ops AA tk ⟨dst,.build t parts,ty,pos,AK,gd⟩ rs1 rs2)(e:aC P ans an true AA l cf tm tk ⟨dst,.build t parts,ty,pos,AK,gd⟩ rs1 kp k1=some r):jr P ans an tm ops AA tk cf ⟨dst,.build t parts,ty,pos,AK,gd⟩ rs1 rs2 k1 r:=by
 have hp:∀p∈parts.toList,ji (AZ an.keep tm rs1 p.2) (AZ an.keep tm rs2 p.2):=λp hp=>h.bd p.2 (by simp only[Op.operands,Cn];exact⟨p,hp,rfl⟩)
 simp only[aC] at e;obtain⟨z,hz,e⟩:=aH e
 split at e
 ·rename_i fs hu
  obtain⟨l,e,h2⟩:=lH hp e;obtain⟨places,N3,e⟩:=aH e;obtain⟨cs,hf,e⟩:=aH e;exact .plain e (λR2 BS k2=>by simp only[aC,hz,hu,h2,N3,hf,Ar]) (λu x he=>by cases he)
 ·rename_i n el hu
  obtain⟨l,e,h2⟩:=lH hp e;obtain⟨s,hs,e⟩:=aH e;obtain⟨cs,hf,e⟩:=aH e;exact .plain e (λR2 BS k2=>by simp only[aC,hz,hu,h2,hs,hf,Ar]) (λu x he=>by cases he)
 ·cases e
theorem a7X{t:TypeId}{len:Nat}{parts:Array (Nat×Operand)}(h:GJ ans an tm ops AA tk ⟨dst,.buildSlice t len parts,ty,pos,AK,gd⟩ rs1 rs2)(e:aC P ans an true AA l cf tm tk ⟨dst,.buildSlice t len parts,ty,pos,AK,gd⟩ rs1 kp k1=some r):jr P ans an tm ops AA tk cf ⟨dst,.buildSlice t len parts,ty,pos,AK,gd⟩ rs1 rs2 k1 r:=by
 have hp:∀p∈parts.toList,ji (AZ an.keep tm rs1 p.2) (AZ an.keep tm rs2 p.2):=λp hp=>h.bd p.2 (by simp only[Op.operands,Cn];exact⟨p,hp,rfl⟩)
 simp only[aC] at e;obtain⟨el,KG,e⟩:=aH e;obtain⟨s,hs,e⟩:=aH e;obtain⟨hg,e⟩:=aB e;obtain⟨l,e,h2⟩:=lH hp e;obtain⟨z,hz,e⟩:=aH e;obtain⟨EF,e⟩:=aB e;obtain⟨xs,hf,e⟩:=aH e;exact .plain e (λR2 BS k2=>by simp only[aC,KG,hs,aD hg,h2,hz,aD EF,hf,Ar]) (λu x he=>by cases he)
theorem a6c{fn:Fn}{first caps:Array Operand}(h:GJ ans an tm ops AA tk ⟨dst,.makeFunc fn first caps,ty,pos,AK,gd⟩ rs1 rs2)(e:aC P ans an true AA l cf tm tk ⟨dst,.makeFunc fn first caps,ty,pos,AK,gd⟩ rs1 kp k1=some r):jr P ans an tm ops AA tk cf ⟨dst,.makeFunc fn first caps,ty,pos,AK,gd⟩ rs1 rs2 k1 r:=by
 have hp:∀p∈caps.toList,ji (AZ an.keep tm rs1 p) (AZ an.keep tm rs2 p):=λp hp=>h.bd p (by simp only[Op.operands,Array.toList_append,Bk];exact .inr hp)
 simp only[aC] at e
 split at e
 ·rename_i f hf
  obtain⟨l,e,h2⟩:=rT hp e;exact .val e (λR2 BS k2=>by simp only[aC,hf,h2])
 ·cases e
theorem aBV{t:TypeId}{x:Operand}{lo hi mx:Option Operand}(h:GJ ans an tm ops AA tk ⟨dst,.slice t x lo hi mx,ty,pos,AK,gd⟩ rs1 rs2)(e:aC P ans an true AA l cf tm tk ⟨dst,.slice t x lo hi mx,ty,pos,AK,gd⟩ rs1 kp k1=some r):jr P ans an tm ops AA tk cf ⟨dst,.slice t x lo hi mx,ty,pos,AK,gd⟩ rs1 rs2 k1 r:=by
 have hx:=h.bd x (by simp[Op.operands]);have AP:∀y,lo=some y->ji (AZ an.keep tm rs1 y) (AZ an.keep tm rs2 y):=λy hy=>h.bd y (by subst hy;simp[Op.operands])
 have MD:∀y,hi=some y->ji (AZ an.keep tm rs1 y) (AZ an.keep tm rs2 y):=λy hy=>h.bd y (by subst hy;simp[Op.operands])
 have Rm:∀y,mx=some y->ji (AZ an.keep tm rs1 y) (AZ an.keep tm rs2 y):=λy hy=>h.bd y (by subst hy;simp[Op.operands])
 simp only[aC] at e
 split at e
 ·rename_i hu
  split at e
  ·rename_i s hb
   obtain⟨a,e,h3⟩:=lQ AP e;obtain⟨b,e,h4⟩:=lQ MD e;obtain⟨hg,e⟩:=aB e;have h2:=hx.eq (by rw[hb];simp);rw[hb] at h2;exact .val e (λR2 BS k2=>by simp only[aC,hu,h2,h3,h4,aD hg])
  ·cases e
 ·rename_i el hu
  obtain⟨sz,BD,e⟩:=aH e;obtain⟨xs,e,h2⟩:=pW hx e;obtain⟨a,e,h3⟩:=lQ AP e;obtain⟨b,e,h4⟩:=lQ MD e;cases mx with
  |none =>
   simp only[fH] at e;obtain⟨hg,e⟩:=aB e;exact .val e (λR2 BS k2=>by simp only[aC,hu,BD,Ar,h2,h3,h4,fH,aD hg];rfl)
  |some u =>
   simp only at e;obtain⟨ku,mm,e,h5⟩:=iY (Rm u rfl) e;obtain⟨Ru,e⟩:=aB e;cases hi with
   |none=>cases e
   |some z =>
    simp only[fH] at e;obtain⟨hg,e⟩:=aB e;exact .plain e (λR2 BS k2=>by simp only[aC,hu,BD,Ar,h2,h3,h4,h5,aD Ru,fH,aD hg,Dq]) (λu x he=>by cases he)
 ·cases e
def aV(s:Slot):Option ae:=DS s some
theorem aLs(s:Slot)(k:ae->Option R):DS s k=(aV s).bind k:=by cases s<;>rfl
def OL(P:Program)(op:BinOp)(t:TypeId)(y:Operand)(sx sy:Slot):Option ae :=
 match op,dV y with
 |.eql,true=>aJ (fD P t) ((cO sx).bind λb=>some (.bool b))
 |.neq,true=>aJ (fD P t) ((cO sx).bind λb=>some (.bool (!b)))
 |_,_ =>
  match op,isNilIface y,sx with
  |.eql,true,.val .fh=>aJ (qI P t) (some (.bool true))
  |.neq,true,.val .fh=>aJ (qI P t) (some (.bool false))
  |_,_,sx=>(aV sx).bind λa=>(aV sy).bind λb=>aJ (hH P t a) (gZ op a b)
theorem mU{α:Type}(b:Bool)(x:Option α)(f:α->Option R):(aJ b x).bind f=aJ b (x.bind f):=by cases b<;>rfl
theorem a0q{op:BinOp}{t:TypeId}{x y:Operand}{fl:_}{drawn:Bool}(rs:RS)(k:Slot->RS->Option R):aC P ans an drawn AA l cf tm tk ⟨dst,.binOp op t x y fl,ty,pos,AK,gd⟩ rs kp k=(OL P op t y (AZ an.keep tm rs x) (AZ an.keep tm rs y)).bind λv=>k (.val v) rs:=by
 simp only[aC,OL,aLs];generalize dV y=b1;generalize isNilIface y=b2;generalize AZ an.keep tm rs x=sx;generalize AZ an.keep tm rs y=sy
 have fin:∀op,((aV sx).bind λa=>(aV sy).bind λb=>aJ (hH P t a) ((gZ op a b).bind λv=>k (.val v) rs))=((aV sx).bind λa=>(aV sy).bind λb=>aJ (hH P t a) (gZ op a b)).bind λv=>k (.val v) rs:=λop=>by
  simp only[Option.bind_assoc,mU]
 cases op<;>cases b1<;>first
  |exact fin _
  |(simp only[mU,Option.bind_assoc,Ar];done)
  |(cases b2<;>first
    |exact fin _
    |(cases sx<;>first
      |exact fin _
      |(rename_i v;cases v<;>first
        |exact fin _
        |(simp only[mU,Ar];done))))
theorem aCr{op:BinOp}{t:TypeId}{y:Operand}{c:List Cell}{sy:Slot}:OL P op t y (.box c) sy=none:=by
 unfold OL;split
 ·cases fD P t<;>rfl
 ·cases fD P t<;>rfl
 ·split
  ·exact absurd (show Slot.box c=Slot.val .fh by assumption) (by simp)
  ·exact absurd (show Slot.box c=Slot.val .fh by assumption) (by simp)
  ·rfl
theorem aAG{op:BinOp}{t:TypeId}{y:Operand}{c:List Cell}{sx:Slot}(hy:∀v,y≠.const v):OL P op t y sx (.box c)=none:=by
 have h1:dV y=false:=by unfold dV;split<;>first|rfl|exact absurd rfl (hy _)
 have h2:isNilIface y=false:=by unfold isNilIface;split<;>first|rfl|exact absurd rfl (hy _)
 unfold OL;rw[h1,h2];cases op<;>simp[aV,DS]
theorem aBT{op:BinOp}{t:TypeId}{x y:Operand}{fl:_}(h:GJ ans an tm ops AA tk ⟨dst,.binOp op t x y fl,ty,pos,AK,gd⟩ rs1 rs2)(e:aC P ans an true AA l cf tm tk ⟨dst,.binOp op t x y fl,ty,pos,AK,gd⟩ rs1 kp k1=some r):jr P ans an tm ops AA tk cf ⟨dst,.binOp op t x y fl,ty,pos,AK,gd⟩ rs1 rs2 k1 r:=by
 have hx:=h.bd x (by simp[Op.operands]);have hy:=h.bd y (by simp[Op.operands]);rw[a0q] at e;obtain⟨v,hv,e⟩:=aH e;have Hg:=hx.eq (λc hc=>by rw[hc,aCr] at hv;cases hv)
 have Rb:=hy.eq (λc hc=>by
  rw[hc,aAG] at hv
  ·cases hv
  ·rintro v rfl
   simp only[AZ,gM] at hc
   split at hc
   ·cases hc
   ·split at hc<;>cases hc)
 exact .val e (λR2 BS k2=>by rw[a0q,Hg,Rb,hv];rfl)
theorem a6d{x:Operand}(h:GJ ans an tm ops AA tk ⟨dst,.nilCheck x,ty,pos,AK,gd⟩ rs1 rs2)(e:aC P ans an true AA l cf tm tk ⟨dst,.nilCheck x,ty,pos,AK,gd⟩ rs1 kp k1=some r):jr P ans an tm ops AA tk cf ⟨dst,.nilCheck x,ty,pos,AK,gd⟩ rs1 rs2 k1 r:=by
 have hx:=h.bd x (by simp[Op.operands]);simp only[aC] at e
 split at e
 ·rename_i c hb
  split at e
  ·rename_i t
   obtain⟨c2,h2⟩:∃c2,AZ an.keep tm rs2 (.tmp t)=.box c2:=by
    rcases hx with h|⟨_,c2,_,h⟩
    ·exact⟨c,h.trans hb⟩
    ·exact⟨c2,h⟩
   exact .plain e (λR2 BS k2=>by simp only[aC,h2]) (λu y he=>by cases he;exact .inl rfl)
  ·cases e
 ·rename_i u y hb
  have h2:=hx.eq (by rw[hb];simp);rw[hb] at h2;obtain⟨t,ht,hl⟩:=qQ hb;exact .plain e (λR2 BS k2=>by simp only[aC,h2]) (λu' y' he=>by cases he;exact .inr ⟨t,n5 ht (by simp[Op.operands]),y,hl⟩)
 ·rename_i i y hb
  have h2:=hx.eq (by rw[hb];simp);rw[hb] at h2;exact .val e (λR2 BS k2=>by simp only[aC,h2])
 ·rename_i v hb
  have h2:=hx.eq (by rw[hb];simp);rw[hb] at h2;exact .val e (λR2 BS k2=>by simp only[aC,h2])
 ·rename_i t' f a y z hb
  have h2:=hx.eq (by rw[hb];simp);rw[hb] at h2;exact .val e (λR2 BS k2=>by simp only[aC,h2])
 ·rename_i f cs hb
  have h2:=hx.eq (by rw[hb];simp);rw[hb] at h2;exact .val e (λR2 BS k2=>by simp only[aC,h2])
 ·cases e
theorem a73{t:TypeId}{x:Operand}{f:Nat}(h:GJ ans an tm ops AA tk ⟨dst,.fieldAddr t x f,ty,pos,AK,gd⟩ rs1 rs2)(e:aC P ans an true AA l cf tm tk ⟨dst,.fieldAddr t x f,ty,pos,AK,gd⟩ rs1 kp k1=some r):jr P ans an tm ops AA tk cf ⟨dst,.fieldAddr t x f,ty,pos,AK,gd⟩ rs1 rs2 k1 r:=by
 have hx:=h.bd x (by simp[Op.operands]);simp only[aC] at e;obtain⟨ot,hf,e⟩:=aH e;obtain⟨s,hs,e⟩:=aH e;obtain⟨hg,e⟩:=aB e;obtain⟨p,e,h2,h3⟩:=j5 hx e;cases p with
 |loc u y =>
  refine .plain e (λR2 BS k2=>by simp only[aC,hf,hs,Ar,aD hg,h2]) (λu' y' he=>?_);cases he;rcases h3 u y rfl with hh|hh
  ·subst hh;exact .inl rfl
  ·obtain⟨t',Tv,hl⟩:=qQ hh
   exact .inr ⟨t',n5 Tv (by simp[Op.operands]),y,hl⟩
 |obj i y=>exact .val e (λR2 BS k2=>by simp only[aC,hf,hs,Ar,aD hg,h2])
 |kc v =>
  simp only at e;obtain⟨agg,ha,e⟩:=aH e;obtain⟨u,hu,e⟩:=aH e;exact .val e (λR2 BS k2=>by simp only[aC,hf,hs,Ar,aD hg,h2,ha,hu])
theorem a74{t:TypeId}{x ix:Operand}(h:GJ ans an tm ops AA tk ⟨dst,.indexAddr t x ix,ty,pos,AK,gd⟩ rs1 rs2)(e:aC P ans an true AA l cf tm tk ⟨dst,.indexAddr t x ix,ty,pos,AK,gd⟩ rs1 kp k1=some r):jr P ans an tm ops AA tk cf ⟨dst,.indexAddr t x ix,ty,pos,AK,gd⟩ rs1 rs2 k1 r:=by
 have hx:=h.bd x (by simp[Op.operands]);have hi:=h.bd ix (by simp[Op.operands]);simp only[aC] at e
 split at e
 ·rename_i el hu
  obtain⟨xs,e,h2⟩:=pW hx e;obtain⟨kd,n,e,h3⟩:=iY hi e;obtain⟨s,hs,e⟩:=aH e;obtain⟨hg,e⟩:=aB e;obtain⟨v,hv,e⟩:=aH e;obtain⟨EF,e⟩:=aB e;exact .val e (λR2 BS k2=>by simp only[aC,hu,h2,h3,hs,Ar,aD hg,hv,aD EF])
 ·rename_i len el hu
  obtain⟨p,e,h2,h3⟩:=j5 hx e;obtain⟨kd,n,e,h4⟩:=iY hi e;obtain⟨s,hs,e⟩:=aH e;obtain⟨hg,e⟩:=aB e;cases p with
  |loc u y =>
   refine .plain e (λR2 BS k2=>by simp only[aC,hu,hs,Ar,aD hg,h2,h4]) (λu' y' he=>?_);cases he;rcases h3 u y rfl with hh|hh
   ·subst hh;exact .inl rfl
   ·obtain⟨t',Tv,hl⟩:=qQ hh
    exact .inr ⟨t',n5 Tv (by simp[Op.operands]),y,hl⟩
  |obj i y=>exact .val e (λR2 BS k2=>by simp only[aC,hu,hs,Ar,aD hg,h2,h4])
  |kc v =>
   simp only at e;obtain⟨agg,ha,e⟩:=aH e;obtain⟨u,Hh,e⟩:=aH e;exact .val e (λR2 BS k2=>by simp only[aC,hu,hs,Ar,aD hg,h2,h4,ha,Hh])
 ·cases e
theorem a3X{x:Operand}{ty:TypeId}(h:ji (AZ an.keep tm rs1 x) (AZ an.keep tm rs2 x))(e:Gz P an tm tk ty x rs1 k1=some r) :
  ∃s puts,k1 s ⟨puts++rs1.sc,rs1.sto⟩=some r/\(∀(R2:Type)(k2:Slot->RS->Option R2),Gz P an tm tk ty x rs2 k2=k2 s ⟨puts++rs2.sc,rs2.sto⟩) /\
   (puts=[]\/∃t v,x=.tmp t/\(tk||!an.keep.contains t)=true/\puts=[(t,.val v)])/\∀u y,s=.ref u y->AZ an.keep tm rs1 x=.ref u y:=by
 unfold Gz at e
 split at e
 ·rename_i t
  split at e
  ·rename_i sz xs BI
   have h2:=h.eq (by rw[BI];simp);rw[BI] at h2
   split at e
   ·rename_i hk
    exact⟨_,[(t,.val (.slice xs))],e,λR2 k2=>by simp only[Gz,h2,hk];rfl,.inr ⟨t,_,rfl,hk,rfl⟩,λu y he=>by cases he⟩
   ·rename_i hk
    exact⟨_,[],e,λR2 k2=>by simp only[Gz,h2,hk];rfl,.inl rfl,λu y he=>by cases he⟩
  ·rename_i cs BI
   have h2:=h.eq (by rw[BI];simp);rw[BI] at h2
   split at e
   ·rename_i hk
    exact⟨_,[(t,.val (.agg (cs.map Cell.get)))],e,λR2 k2=>by simp only[Gz,h2,hk];rfl,.inr ⟨t,_,rfl,hk,rfl⟩,λu y he=>by cases he⟩
   ·rename_i hk
    exact⟨_,[],e,λR2 k2=>by simp only[Gz,h2,hk];rfl,.inl rfl,λu y he=>by cases he⟩
  ·rename_i GU LL
   have hs:=h.eq (λc hc=>by rw[hc] at e;simp[mv] at e);obtain⟨s,e,h2,h3⟩:=et h e;refine⟨s,[],e,λR2 k2=>?_,.inl rfl,h3⟩;show Gz P an tm tk ty (.tmp t) rs2 k2=k2 s rs2;rw[<-h2 R2 (λs'=>k2 s' rs2)];simp only[Gz,hs]
 ·rename_i v
  split at e
  ·cases e
  ·rename_i hd
   refine⟨_,[],e,λR2 k2=>?_,.inl rfl,λu y he=>?_⟩
   ·simp only[Gz];rfl
   ·unfold mP at he
    split at he
    ·split at he<;>cases he
    ·unfold gM at he;split at he
     ·cases he
     ·split at he<;>cases he
 ·rename_i KW Hg
  obtain⟨s,e,h2,h3⟩:=et h e;refine⟨s,[],e,λR2 k2=>?_,.inl rfl,h3⟩;cases x with
  |tmp t=>exact absurd rfl (KW t)
  |const v=>exact absurd rfl (Hg v)
  |global g=>exact h2 R2 (λs'=>k2 s' rs2)
  |func f=>exact h2 R2 (λs'=>k2 s' rs2)
theorem aFh{x:Operand}(h:GJ ans an tm ops AA tk ⟨dst,.move x,ty,pos,AK,gd⟩ rs1 rs2)(e:aC P ans an true AA l cf tm tk ⟨dst,.move x,ty,pos,AK,gd⟩ rs1 kp k1=some r):jr P ans an tm ops AA tk cf ⟨dst,.move x,ty,pos,AK,gd⟩ rs1 rs2 k1 r:=by
 have hx:=h.bd x (by simp[Op.operands]);simp only[aC] at e;obtain⟨s,puts,e,h2,h3,h4⟩:=a3X hx e;refine⟨s,puts,id,e,λR2 BS k2=>by simp only[aC];exact h2 R2 k2,?_,?_,λu y he=>?_,rfl⟩
 ·rcases h3 with rfl|⟨t,v,rfl,hk,rfl⟩
  ·simp
  ·intro p hp;simp at hp;subst hp;left;simp only[cons,hk,Dq];simp
 ·rcases h3 with rfl|⟨t,v,rfl,hk,rfl⟩
  ·simp
  ·intro p hp u y;simp at hp;subst hp;simp
 ·obtain⟨t,ht,hl⟩:=qQ (h4 u y he)
  exact .inr ⟨t,n5 ht (by simp[Op.operands]),y,hl⟩
theorem a7H{x:Operand}(h:GJ ans an tm ops AA tk ⟨dst,.assign x,ty,pos,AK,gd⟩ rs1 rs2)(e:aC P ans an true AA l cf tm tk ⟨dst,.assign x,ty,pos,AK,gd⟩ rs1 kp k1=some r):jr P ans an tm ops AA tk cf ⟨dst,.assign x,ty,pos,AK,gd⟩ rs1 rs2 k1 r:=by
 have hx:=h.bd x (by simp[Op.operands]);simp only[aC] at e;obtain⟨s,puts,e,h2,h3,h4⟩:=a3X hx e;refine⟨s,puts,id,e,λR2 BS k2=>by simp only[aC];exact h2 R2 k2,?_,?_,λu y he=>?_,rfl⟩
 ·rcases h3 with rfl|⟨t,v,rfl,hk,rfl⟩
  ·simp
  ·intro p hp;simp at hp;subst hp;left;simp only[cons,hk,Dq];simp
 ·rcases h3 with rfl|⟨t,v,rfl,hk,rfl⟩
  ·simp
  ·intro p hp u y;simp at hp;subst hp;simp
 ·obtain⟨t,ht,hl⟩:=qQ (h4 u y he)
  exact .inr ⟨t,n5 ht (by simp[Op.operands]),y,hl⟩
theorem aBS{t:TypeId}(h:GJ ans an tm ops AA tk ⟨dst,.alloc t,ty,pos,AK,gd⟩ rs1 rs2)(e:aC P ans an true AA l cf tm tk ⟨dst,.alloc t,ty,pos,AK,gd⟩ rs1 kp k1=some r):jr P ans an tm ops AA tk cf ⟨dst,.alloc t,ty,pos,AK,gd⟩ rs1 rs2 k1 r:=by
 simp only[aC] at e;obtain⟨z,hz,e⟩:=aH e;obtain⟨s,hs,e⟩:=aH e;obtain⟨hg,e⟩:=aB e;cases dst with
 |none=>cases e
 |some d =>
  cases hl:an.loc.contains d with
  |true =>
   simp only[hl] at e;exact .plain e (λR2 BS k2=>by simp only[aC,hz,hs,Ar,aD hg,hl]) (λu y he=>by cases he)
  |false =>
   simp only[hl] at e;have CT:cJ ans an.loc ops AA tk ⟨some d,.alloc t,ty,pos,AK,gd⟩=.w:=by simp only[cJ,hl];rfl
   have A8:rs2.sto=rs1.sto:=by have:=h.sto;rw[CT] at this;exact this
   refine⟨_,[],λsto=>{ sto with objs:=sto.objs++[.box z] },e,λR2 BS k2=>?_,by simp,by simp,(λu y he=>by cases he),by rw[CT];trivial⟩;simp only[aC,hz,hs,Ar,aD hg,hl,A8];rfl
end
section
variable {P:Program}{ans:FuncId->AF}{an:AF}{R:Type}{r:R}
variable {tm:List Slot}{rs1 rs2:RS}{k1:Slot->RS->Option R}{ops:Array Oper}{AA tk:Bool}{cf:aI}{o:Oper}
variable {dst:Option Nat}{ty:TypeId}{pos:String}{AK:Array Edge}{gd:Option (Nat×Bool)}{kp:ae->RS->Option R}
theorem j4{x:Operand}{k:List Cell->RS->Option R}(h:ji (AZ an.keep tm rs1 x) (AZ an.keep tm rs2 x))(e:dO an.keep tm rs1 x k=some r) :
  ∃cs puts,k cs ⟨puts++rs1.sc,rs1.sto⟩=some r/\(∀(R2:Type)(k2:List Cell->RS->Option R2),dO an.keep tm rs2 x k2=k2 cs ⟨puts++rs2.sc,rs2.sto⟩) /\
   (puts=[]\/∃t v,x=.tmp t/\an.keep.contains t=false/\puts=[(t,.val v)]):=by
 have h2:=h.eq (λc hc=>by unfold dO at e;rw[hc] at e;simp[DS] at e);unfold dO at e
 split at e
 ·rename_i sz xs t BI
  rw[BI] at h2;cases hk:an.keep.contains t with
  |true =>
   simp only[hk] at e;exact⟨_,[],e,λR2 k2=>by simp only[dO,h2,hk];rfl,.inl rfl⟩
  |false =>
   simp only[hk] at e;exact⟨_,[(t,.val (.slice xs))],e,λR2 k2=>by simp only[dO,h2,hk];rfl,.inr ⟨t,_,rfl,hk,rfl⟩⟩
 ·rename_i sz v BI
  rw[BI] at h2;exact⟨_,[],e,λR2 k2=>by simp only[dO,h2];rfl,.inl rfl⟩
 ·rename_i cs t BI
  rw[BI] at h2;cases hk:an.keep.contains t with
  |true =>
   simp only[hk] at e;exact⟨_,[],e,λR2 k2=>by simp only[dO,h2,hk];rfl,.inl rfl⟩
  |false =>
   simp only[hk] at e;exact⟨_,[(t,.val (.agg (cs.map Cell.get)))],e,λR2 k2=>by simp only[dO,h2,hk];rfl,.inr ⟨t,_,rfl,hk,rfl⟩⟩
 ·rename_i GU LL HH
  obtain⟨v,e,h3⟩:=pX (.inl rfl) e;refine⟨_,[],e,λR2 k2=>?_,.inl rfl⟩;show dO an.keep tm rs2 _ k2=k2 (v.cells.map .val) rs2;unfold dO;rw[h2];split
  ·rename_i sz xs t BI;exact(GU _ _ _ BI rfl).elim
  ·rename_i sz v BI;exact(LL _ _ BI rfl).elim
  ·rename_i cs t BI;exact(HH _ _ BI rfl).elim
  ·exact h3 R2 _
theorem a0Z{s:Slot}{k:List Cell->Option R}(e:pS s k=some r):∃cs,s=.box cs/\k cs=some r:=by
 unfold pS at e
 split at e
 ·exact⟨_,rfl,e⟩
 ·cases e
theorem a00{o:Option ai}{k:List Cell->Option R}(e:pT o k=some r):∃cs,o=some (.box cs)/\k cs=some r:=by
 unfold pT at e
 split at e
 ·exact⟨_,rfl,e⟩
 ·cases e
theorem a5v{t0:TypeId}{x:Operand}{k:List Cell->RS->Option R}(h:ji (AZ an.keep tm rs1 x) (AZ an.keep tm rs2 x))(e:eN P t0 an.keep tm rs1 x k=some r) :
  ∃cs puts,k cs ⟨puts++rs1.sc,rs1.sto⟩=some r/\(∀(R2:Type)(k2:List Cell->RS->Option R2),eN P t0 an.keep tm rs2 x k2=k2 cs ⟨puts++rs2.sc,rs2.sto⟩) /\
   (puts=[]\/∃t v,x=.tmp t/\an.keep.contains t=false/\puts=[(t,.val v)]):=by
 unfold eN at e
 split at e
 ·rename_i BI
  obtain⟨el,h1,e⟩:=aH e;obtain⟨sz,h2,e⟩:=aH e;have a5W:AZ an.keep tm rs2 x=.nl:=(h.eq (λc hc=>by rw[BI] at hc;cases hc)).trans BI;exact⟨_,[],e,λR2 k2=>by unfold eN;rw[a5W];simp only[h1,h2,Ar];rfl,.inl rfl⟩
 ·rename_i hn
  obtain⟨cs,puts,a1,a2,a3⟩:=j4 h e;refine⟨cs,puts,a1,λR2 k2=>?_,a3⟩;rw[<-a2 R2 k2]
  have LL:AZ an.keep tm rs2 x≠.nl:=λhc=>by
   rcases h with h|⟨c1,c2,_,h⟩
   ·exact hn (h.symm.trans hc)
   ·rw[h] at hc;cases hc
  unfold eN;split
  ·rename_i hc;exact absurd hc LL
  ·rfl
theorem isEmpty_nil{α:Type}{l:List α}(h:l.isEmpty=true):l=[]:=by cases l<;>simp_all
theorem contains_cons{l:List Nat}{u:Nat}(h:l.contains u=true):u∈l/\∃a m,l=a::m:=by
 have hm:u∈l:=by simpa using h
 exact⟨hm,by cases l with|nil=>simp at hm|cons a m=>exact⟨a,m,rfl⟩⟩
theorem aIu{t:TypeId}{x:Operand}{l:List Nat}(h:GJ ans an tm ops AA tk ⟨dst,.box t x,ty,pos,AK,gd⟩ rs1 rs2)(e:aC P ans an true AA l cf tm tk ⟨dst,.box t x,ty,pos,AK,gd⟩ rs1 kp k1=some r):jr P ans an tm ops AA tk cf ⟨dst,.box t x,ty,pos,AK,gd⟩ rs1 rs2 k1 r:=by
 have hx:=h.bd x (by simp[Op.operands]);simp only[aC] at e;obtain⟨cs,puts,e,h2,h3⟩:=a5v hx e;obtain⟨s,hs,e⟩:=aH e;obtain⟨hg,e⟩:=aB e
 have EY:∀p∈puts,p.1∈cons an.keep tk ⟨dst,.box t x,ty,pos,AK,gd⟩:=λp hp=>by
  rcases h3 with rfl|⟨t',v,rfl,hk,rfl⟩
  ·simp at hp
  ·simp at hp;subst hp
   simp only[cons,hk];simp
 have Jp:∀p∈puts,∀u y,p.2≠.ref u y:=λp hp u y=>by
  rcases h3 with rfl|⟨t',v,rfl,hk,rfl⟩
  ·simp at hp
  ·simp at hp;subst hp;simp
 cases dst with
 |none=>cases e
 |some d =>
  cases hl:an.loc.contains d with
  |true =>
   simp only[hl] at e;have CT:cJ ans an.loc ops AA tk ⟨some d,.box t x,ty,pos,AK,gd⟩=.p:=by simp only[cJ,hl,Bool.true_or,Dq]
   refine⟨_,puts,id,e,λR2 BS k2=>?_,λp hp=>.inl (EY p hp),Jp,(λu y he=>by cases he),by rw[CT]⟩;simp only[aC,h2,hs,Ar,aD hg,hl];rfl
  |false =>
   simp only[hl] at e;cases GB:tk with
   |true =>
    subst GB;have CT:cJ ans an.loc ops AA true ⟨some d,.box t x,ty,pos,AK,gd⟩=.p:=by simp only[cJ,Bool.or_true,Dq]
    cases Iv:cs.all mF with
    |true =>
     rw[Iv] at e;refine⟨_,puts,id,e,λR2 BS k2=>?_,λp hp=>.inl (EY p hp),Jp,(λu y he=>by cases he),by rw[CT]⟩;simp only[aC,h2,hs,Ar,aD hg,hl,Iv];rfl
    |false =>
     rw[Iv] at e;obtain⟨EF,e⟩:=aB e;simp at EF
   |false =>
   subst GB;obtain⟨EF,e⟩:=aB e;have CT:cJ ans an.loc ops AA false ⟨some d,.box t x,ty,pos,AK,gd⟩=.w:=by simp only[cJ,hl];rfl
   have A8:rs2.sto=rs1.sto:=by have:=h.sto;rw[CT] at this;exact this
   refine⟨_,puts,λsto=>{ sto with objs:=sto.objs++[.box cs] },e,λR2 BS k2=>?_,λp hp=>.inl (EY p hp),Jp,(λu y he=>by cases he),by rw[CT];trivial⟩;simp only[aC,h2,hs,Ar,aD hg,hl,A8,Et,aD EF];try rfl
theorem aBW{t:TypeId}{a x:Operand}(h:GJ ans an tm ops AA tk ⟨dst,.store t a x,ty,pos,AK,gd⟩ rs1 rs2)(e:aC P ans an true AA (eM an.loc ops.toList ops.size a) cf tm tk ⟨dst,.store t a x,ty,pos,AK,gd⟩ rs1 kp k1=some r):jr P ans an tm ops AA tk cf ⟨dst,.store t a x,ty,pos,AK,gd⟩ rs1 rs2 k1 r:=by
 have ha:=h.bd a (by simp[Op.operands]);have hx:=h.bd x (by simp[Op.operands]);simp only[aC] at e;cases tk with
 |true =>
  obtain⟨hg,e⟩:=aB e;obtain⟨i,j,tI,f,g,y,z,h1,h2,h3,h4,h5,h6,h7,h8,h9,e⟩:=a1g e;have Jy:eM an.loc ops.toList ops.size a=[]:=isEmpty_nil (by simpa using hg);have CT:cJ ans an.loc ops AA true ⟨dst,.store t a x,ty,pos,AK,gd⟩=.w:=by simp only[cJ,Jy]
  have A8:rs2.sto=rs1.sto:=by have:=h.sto;rw[CT] at this;exact this
  have Nf:=ha.eq (by rw[h1];simp);have Hg:=hx.eq (by rw[h2];simp);rw[h1] at Nf;rw[h2] at Hg;refine⟨.dead,[],λsto=>{ sto with objs:=(sto.objs.set i (.fw (.rc tI f g y z))).set j (.fw (.ay (.agg [.str g,y,.rc tI f g y z]))) },e,λR2 BS k2=>?_,by simp,by simp,(λu y he=>by cases he),by rw[CT];trivial⟩
  have LM:(Nat.beq 1 1&&Nat.beq i i&&Nat.blt i j&&Nat.ble rs1.sto.lo i&&flat z&&flat y)=true:=by
   rw[h8,h9,Ci,Ci,show Nat.blt i j=true from by simpa[Cy] using h6,Ah h7];rfl
  simp only[aC,addrOf,aD hg,th,Nf,Hg,A8,h3,h4,h5,Ar,aD LM];try rfl
 |false =>
 simp only at e;obtain⟨p,e,h2,_⟩:=j5 ha e
 have EY:∀puts:List (Nat×Slot),(puts=[]\/∃t v,x=.tmp t/\an.keep.contains t=false/\puts=[(t,.val v)])->(∀p∈puts,p.1∈cons an.keep false ⟨dst,.store t a x,ty,pos,AK,gd⟩)/\∀p∈puts,∀u y,p.2≠.ref u y:=λputs h3=>by
  rcases h3 with rfl|⟨t',v,rfl,hk,rfl⟩
  ·simp
  ·refine⟨λp hp=>?_,λp hp u y=>?_⟩
   ·simp at hp;subst hp;simp only[cons,hk];simp
   ·simp at hp;subst hp;simp
 cases p with
 |loc u y =>
  simp only[bO] at e;obtain⟨hr,e⟩:=aB e;obtain⟨hm,a0,m0,Hq⟩:=contains_cons hr;simp only[aT] at e;obtain⟨cs,CU,e⟩:=a0Z e;obtain⟨s,hs,e⟩:=aH e;obtain⟨new,puts,e,h4,h5⟩:=j4 hx e;obtain⟨hg,e⟩:=aB e;simp only[bS] at e;have qg:rs2.look an.keep tm u=.box cs:=(h.wb u (.inl hm)).trans CU;have CT:cJ ans an.loc ops AA false ⟨dst,.store t a x,ty,pos,AK,gd⟩=.p:=by simp only[cJ,Hq]
  obtain⟨k3,k4⟩:=EY puts h5;refine⟨.dead,(u,.box (setCells cs y new))::puts,id,e,λR2 BS k2=>?_,λp hp=>?_,λp hp u' y'=>?_,(λu y he=>by cases he),by rw[CT]⟩
  ·simp only[aC,addrOf,h2,bO,aD hr,aT,qg,pS,hs,Ar,h4,aD hg,bS];rfl
  ·rcases As.1 hp with rfl|hp
   ·exact .inr (.inl ⟨hm,cs,_,CU,rfl⟩)
   ·exact .inl (k3 p hp)
  ·rcases As.1 hp with rfl|hp
   ·simp
   ·exact k4 p hp u' y'
 |obj i y =>
  simp only[bO] at e;obtain⟨hr,e⟩:=aB e;have Jy:=isEmpty_nil hr;have CT:cJ ans an.loc ops AA false ⟨dst,.store t a x,ty,pos,AK,gd⟩=.w:=by simp only[cJ,Jy]
  have A8:rs2.sto=rs1.sto:=by have:=h.sto;rw[CT] at this;exact this
  simp only[aT] at e;obtain⟨cs,CU,e⟩:=a00 e;obtain⟨s,hs,e⟩:=aH e;obtain⟨new,puts,e,h4,h5⟩:=j4 hx e;obtain⟨hg,e⟩:=aB e;simp only[bS] at e;obtain⟨EF,e⟩:=aB e;obtain⟨k3,k4⟩:=EY puts h5;refine⟨.dead,puts,λsto=>{ sto with objs:=sto.objs.set i (.box (setCells cs y new)) },e,λR2 BS k2=>?_,λp hp=>.inl (k3 p hp),k4,(λu y he=>by cases he),by rw[CT];trivial⟩;simp only[aC,addrOf,h2,bO,aD hr,aT,A8,CU,pT,hs,Ar,h4,aD hg,bS,aD EF];try rfl
 |kc v =>
  simp only[bO] at e;obtain⟨hr,e⟩:=aB e;simp only[aT] at e;obtain⟨s,hs,e⟩:=aH e;obtain⟨new,puts,e,h4,h5⟩:=j4 hx e;obtain⟨hg,e⟩:=aB e;simp[bS] at e
end
end Go.AM
