import Derived.Test.YtoiocfngjchdiaaGreatDoorA04
set_option linter.all false
namespace Go.AM
section
variable {P:Program}{ans:FuncId->AF}{w:World}{B0:Nat}{Ψ:HT}{J:List Nat}{ow:Own}{tmps:Array Value}
variable {ds:List Deferred}{cf:aJ}{lp:aQ}{fid:FuncId}{B1:Nat}{b:Frame}{cs:List Frame}{items:List Item}{st:St}
def iC(P:Program)(ans:FuncId->AF)(cf:aJ):Prop :=
 P.follows .mixedOrders=true/\∀(R:Type)(fid:FuncId)(tm:List Slot)(rid:Nat)(ops:Array Oper)(kn:RS->Option R)(rs:RS)(r:R),oI ans (ans fid) rid ops=true->Lt ans (ans fid) rid ops=true->noRef tm->rs.sc=[] ->
  (∀rs1 rs2:RS,(∀t,bU rs1.sc t=bU rs2.sc t)->rs1.sto=rs2.sto->kn rs1=kn rs2)->iD P ans (ans fid) true cf tm rid ops (λ_ _=>none) kn (List.range ops.size) rs=some r ->
  ∀t,iD P ans (ans fid) true cf tm rid ops (λ_ _=>none) kn (Region.linearise .any ops t) rs=some r
def eU(ans:FuncId->AF)(cf:aJ):Prop:=∀f args,(ans f).prim=true->∃o:Option Slot,(∀s,o=some s->cF 0 s=true)/\∀sto,cf (.fn f) args sto=o.map λs=>(.ret s,sto)
theorem kN(sc SQ:List (Nat×Slot))(h:∀t,bU sc t=bU SQ t):∀(ks:List Nat)(tm:List Slot),commit ks tm sc=commit ks tm SQ
 |[],tm=>by cases tm<;>rfl
 |k::ks,[]=>rfl
 |k::ks,s::ss=>by simp only[commit,h k,kN sc SQ h ks ss]
theorem At.world{w1:World}(h:At P ans fid B0 w Ψ J ow st tmps)(e:w1.heap=w.heap):At P ans fid B0 w1 Ψ J ow st tmps:=⟨h.rel.heap e,h.nr,h.lo⟩
theorem XEnd.out{sto:AH}{GV:List Item}{m:Machine}{e:bI}{AY:St}(h:XEnd P ans fid B0 B1 w Ψ J ow sto b cs GV m e AY)(he:e≠.norm)(hx:∀id,e=.exit id->exitTo id GV=exitTo id items):XEnd P ans fid B0 B1 w Ψ J ow sto b cs items m e AY:=by
 obtain⟨w',Z',J',AQ,tmps',DH,h1,h2,h3,h4,h5,h6⟩:=h;refine⟨w',Z',J',AQ,tmps',DH,h1,h2,h3,h4,h5,?_⟩;cases e with
 |norm=>exact absurd rfl he
 |exit id=>obtain⟨k,a1,a2⟩:=h6;exact⟨k,a1.trans (hx id rfl),a2⟩
 |ret=>exact h6
 |pan x=>exact h6
def ZM(P:Program)(ans:FuncId->AF)(fid:FuncId)(B0 B1:Nat)(w:World)(Ψ:HT)(J:List Nat)(ow:Own)(st:St)(b:Frame)(cs:List Frame)(m:Machine)(tmps:Array Value)(x:AVal)(AY:St):Prop :=
 ∃sto' s0 w' Z' J' AQ DH,AY={ st with sto:=sto' }/\Rel P ans B0 w' Z' J' AQ (ans fid) (sl (ans fid) st.tm ⟨[],s0⟩) tmps sto'.objs/\Marks w' AQ B1 b DH/\Fr w Ψ ow w' Z' AQ/\pre J J'/\StoLe st.sto sto' /\
  ∃v k,VRel Z' J' x v/\Steps P m (lone { b.atR ⟨tmps,DH⟩ k with mode:=.panicking [{ v,recovered:=false }] } cs w')
theorem yI(BQ:kI P ans B0 cf){R:Type}{r:R}{K:bI->St->Option R}{f:Operand}{params:Array Tmp}{assign body:Code}(hb:b.fn=fid)(DA:b.roundOf=none)(h:At P ans fid B0 w Ψ J ow st tmps)(hm:Marks w ow B1 b ds)(hB:B1<=w.heap.size)
  (e:XK P ans cf lp fid (.rangeFunc f params assign body) st K=some r):∃ex AY,K ex AY=some r/\XEnd P ans fid B0 B1 w Ψ J ow st.sto b cs items (lone (b.atR ⟨tmps,ds⟩ (.code (.rangeFunc f params assign body)::items)) cs w) ex AY/\∀x,ex=.pan x->ZM P ans fid B0 B1 w Ψ J ow st b cs (lone (b.atR ⟨tmps,ds⟩ (.code (.rangeFunc f params assign body)::items)) cs w) tmps x AY:=by
 simp only[XK] at e
 split at e
 case h_2=>cases e
 rename_i g caps hf;obtain⟨⟨res,sto'⟩,hc,e⟩:=aH e;obtain⟨tf,IX,_⟩:=bG (ds:=ds) h.rel f;rw[hf] at IX;generalize ER:(⟨tmps,ds⟩:Act).eval f=vf at IX;cases IX with
 |val _ _ hv =>
 cases hv with
 |func _ _ cv BM I2 =>
 let Lq:Loop:={ state:=.ready,pending:=none,fn:=b.fn,tmps:=tmps,params:=params,assign:=assign,body:=body,defers:=w.heap.size }
 let w1:=w.alloc (.deferred (some []))
 let w2:=w1.alloc (.loop Lq)
 let n:=st.sto.objs.length
 let l:=w.heap.size+1
 let al:iA:=⟨fid,st.tm.map dO,params,assign,body,none,.ready⟩
 have hsz1:w1.heap.size=w.heap.size+1:=by simp[w1]
 have hoo:oset ow w.heap.size none=ow:=by
  funext b;unfold oset;split
  ·subst_vars
   cases e1:ow w.heap.size with
   |none=>rfl
   |some y=>have:=h.rel.lt w.heap.size (by simp[e1]);omega
  ·rfl
 have Oo:=h.rel.alloc (o:=.deferred (some [])) (τ:=λ_=>none) (id:=none) (λoff c hc=>by cases hc);have JB:=Fr.alloc (ow:=ow) (o:=.deferred (some [])) (τ:=λ_=>none) (id:=none) h.rel.wsat;rw[rF h.rel.wsat,hoo] at Oo JB
 change Rel P ans B0 w1 Ψ J ow (ans fid) _ tmps st.sto.objs at Oo
 change Fr w Ψ ow w1 Ψ ow at JB
 have Jc:J.length=n:=h.rel.objs.1
 have EJ:ORel w2 B0 Ψ (J++[w1.heap.size]) (oset ow w1.heap.size (some (true,n,0))) ans n (.loop al) w1.heap.size:=by
  refine .loop al _ Lq (heap_alloc_new _) (by simp[oset]) Oo.base (Oo.wsat.none_of_ge (Af _)) ⟨rfl,rfl,hb,rfl,rfl,rfl,h.rel.size,λt=>?_,λs hs=>?_,λt ht=>?_⟩
  ·show SRel w2 0 Ψ _ _ tmps t (tlook (ans fid).keep (st.tm.map dO) t) (tmps.getD t undef)
   rw[rX _ rfl];refine(h.rel.slots t).snap Ψ.le_refl ?_;rw[Bs (by simp[Jc])];exact dW _ _
  ·obtain⟨s0,_,rfl⟩:=Cm.1 hs;exact aAO s0
  ·show tlook (ans fid).keep (st.tm.map dO) t=.dead
   rw[rX _ rfl]
   have:=h.rel.hi t ht
   rw[show tlook (ans fid).keep st.tm t=.dead from this];rfl
 obtain⟨On,Ma⟩:=zG (ob:=.loop al) (o:=.loop Lq) Oo ow (λb hb=>hb) (λkk i _=>Same.refl _ _ _ _ _) EJ
 change Rel P ans B0 w2 Ψ (J++[w1.heap.size]) _ (ans fid) _ tmps (st.sto.objs++[AObj.loop al]) at On
 change Fr w1 Ψ ow w2 Ψ _ at Ma
 rw[hsz1] at On Ma;have NK:Fr w Ψ ow w2 Ψ (oset ow l (some (true,n,0))):=JB.trans Ma
 let GS:AH:={ st.sto with objs:=st.sto.objs++[.loop al] }
 let B5:=oset ow l (some (true,n,0))
 have Kt:Rel P ans B0 w2 Ψ (J++[l]) B5 (ans fid) (sl (ans fid) st.tm ⟨[],GS⟩) tmps GS.objs:=On;have hyl:(J++[l])[n]?=some l:=by rw[Bi (by rw[Jc];exact Af _)];simp[Jc]
 have BL:=sW (ds:=ds) Kt GS rfl (by show st.sto.lo<=(st.sto.objs++[AObj.loop al]).length;have:=h.lo;simp;omega) (l:=[.val (.yld n)]) (xs:=[.const (.func (.yield l) #[] #[])]) rfl (by simp[Slot.free])
  (λj s x hj hx=>by
   cases j with
   |zero=>simp at hj hx;subst hj;subst hx;exact .val _ _ (.yld n l hyl)
   |succ j=>simp at hj) BM (λi c v h1 h2=>(I2 i c v h1 h2).mono Ψ.le_refl (dW _ _))
 let mk:List Deferred:=[{ target:=.collected w.heap.size,args:=#[] }]
 let fr:Frame:=b.atR ⟨tmps,mk++ds⟩ (.inRangeFunc l::items)
 obtain⟨F,Tv,Tu,Tt⟩:=(BQ.fn _ _ _ _ _ hc).1;obtain⟨w',Z',J',DY,Ts,DB,hwc,hoc,TI,Hw,B6⟩:=(BQ.fn _ _ _ _ _ hc).2 w2 Ψ (J++[l]) _ _ BL fr cs;obtain⟨KD,Kv⟩:=uS Kt Ts DB hwc DB hoc TI
 have BS:step P (lone (b.atR ⟨tmps,ds⟩ (.code (.rangeFunc f params assign body)::items)) cs w)=.next (lone (Frame.enter P g ⟨[.func (.yield l) #[] #[]]++cv⟩ .normal) (fr::cs) w2):=by
  obtain⟨bd,GN⟩:=Dz.1 Tu;refine stepR_rangeFunc (a:=⟨tmps,ds⟩) (l:=l) (mark:=mk) (w₁:=w2) (w₁':=w2) (d:=⟨.fn (.func g) ⟨cv⟩,#[.func (.yield l) #[] #[]]⟩) ?_ ?_ ?_
  ·rw[DA,run_enterLoop_outer]
  ·simp[resolve,ER,Deferred.ofValue,rangeCall];rfl
  ·simp[invoke,callFunc,Tv,Tt,GN]
 have hmarks:Marks w' (eT (ans fid).nt B5 DY) B1 b (mk++ds):=by
  obtain⟨ms,Td,hm⟩:=hm;refine⟨mk++ms,by rw[Td,Aj],?_⟩
  have h2:MarksL w2 B5 B1 (mk++ms):=by
   have h1:MarksL w2 B5 B1 ms:=hm.mono NK;refine⟨λd hd=>?_,?_⟩
   ·rcases Bn.1 hd with hd|hd
    ·simp only[mk,Cy] at hd
     subst hd;refine⟨w.heap.size,rfl,?_,?_,hB⟩
     ·exact(heap_alloc_old _ (by rw[hsz1];omega)).trans (heap_alloc_new _)
     ·show oset ow l _ w.heap.size=none
      unfold oset;rw[Bc (by show ¬w.heap.size=w.heap.size+1;omega)];cases e1:ow w.heap.size with
      |none=>rfl
      |some y=>have:=h.rel.lt w.heap.size (by simp[e1]);omega
    ·exact h1.all d hd
   ·refine Eu.2 ⟨by simp[mk],h1.nodup,λd hd d' NF he=>?_⟩
    simp only[mk,Cy] at hd;subst hd;obtain⟨D,g1,g2,_⟩:=hm.all d' NF;rw[g1] at he
    have:=(Ai.1 g2).1
    cases he;omega
  exact h2.mono Kv
 cases res with
 |pan x =>
  obtain⟨v,hv,CS⟩:=B6
  have Gq:StoLe st.sto sto':=⟨Hw.lo,by have:=Hw.len;simp[GS] at this;show st.sto.objs.length<=sto'.objs.length;omega,λi hi=>by
   rw[Hw.keep i hi];show(st.sto.objs++[AObj.loop al])[i]?=_;rw[Az (by have:=h.lo;omega)]⟩
  refine⟨.pan x,{ st with sto:=sto' },e,⟨w',Z',J',_,tmps,mk++ds,⟨KD.wsat,KD.objs,KD.lt⟩,hmarks,NK.trans Kv,dT (dW _ _) DB,Gq,v,_,hv,(Steps.one BS).trans CS⟩,λy hy=>?_⟩;cases hy;exact⟨sto',_,w',Z',J',_,mk++ds,rfl,KD,hmarks,NK.trans Kv,dT (dW _ _) DB,Gq,v,_,hv,(Steps.one BS).trans CS⟩
 |ret s =>
  obtain⟨_,v,_,CS⟩:=B6;simp only at e
  split at e
  case h_2=>cases e
  rename_i Xy M7;obtain⟨bl,M4,MI⟩:=KD.objs.2 n _ M7
  have Kp:bl=l:=by
   have:=DB n l hyl
   rw[M4] at this;exact Bp this
  subst Kp;cases MI with
  |loop _ _ rr LY ho0 h00 Jy C1 =>
  have fin:∀(jump:Option Code)(ex:bI),Xy.state≠.busy->Xy.pend=jump->K ex { st with sto:={ sto' with objs:=sto'.objs.take n } }=some r ->
    (∀(w3:World),Arr P Z' J b cs items (lone (b.atR ⟨tmps,mk++ds⟩ ((jump.map Item.code).toList++items)) cs w3) tmps (mk++ds) w3 ex)->(∀x,ex≠.pan x) ->
    ∃ex AY,K ex AY=some r/\XEnd P ans fid B0 B1 w Ψ J ow st.sto b cs items (lone (b.atR ⟨tmps,ds⟩ (.code (.rangeFunc f params assign body)::items)) cs w) ex AY/\∀x,ex=.pan x->ZM P ans fid B0 B1 w Ψ J ow st b cs (lone (b.atR ⟨tmps,ds⟩ (.code (.rangeFunc f params assign body)::items)) cs w) tmps x AY:=λjump ex Oj Ob hK DF XQ=>by
   let w3:=w'.putObj l (.loop { rr with state:=.exhausted })
   have EL:(Instr.endLoop l).run P w'=.ok jump w3:=by
    rw[show jump=rr.pending by rw[C1.pend,Ob]];exact run_endLoop LY (by rw[C1.state];exact Oj)
   have MC:=stepR_endRangeFunc (P:=P) (b:=b) (a:=⟨tmps,mk++ds⟩) (k:=items) (cs:=cs) EL;have hJ'l:J'.length=sto'.objs.length:=KD.objs.1;have Jv:n+1<=sto'.objs.length:=by have:=Hw.len;simp[GS] at this;exact this
   have hpJ:pre J J':=dT (dW _ _) DB;have htake:J'.take n=J:=by rw[jO hpJ (by omega),Bs (by omega)]
   have Js:=KD.objs.front n (by omega);rw[htake] at Js
   have same:∀kk i,¬(kk=true/\i=n)->Same w' Z' (eT (ans fid).nt B5 DY) w3 Z' (eT (ans fid).nt B5 DY) kk i kk i:=λkk i hk b' s BB =>
    ⟨BB,World.putObj_heap_other (λe=>by subst e;rw[ho0] at BB;simp only[Al,Bz] at BB;exact hk ⟨BB.1.symm,BB.2.1.symm⟩),λ_ h=>h⟩
   have TJ:∀x,eT (ans fid).nt B5 DY x≠none->x<w3.heap.size:=λx hx=>by
    have:=KD.lt x hx
    simpa[w3] using this
   have hR4:Rel P ans B0 w3 Z' J (eT (ans fid).nt B5 DY) (ans fid) (sl (ans fid) st.tm ⟨[],{ sto' with objs:=sto'.objs.take n }⟩) tmps (sto'.objs.take n):=by
    refine⟨h.rel.size,KD.wsat.put Jy,λu=>?_,h.rel.refs,h.rel.boxes,?_,TJ,by have:=KD.base;simpa[w3] using this,h.rel.hi⟩
    ·have hF:Fr w Ψ ow w' Z' (eT (ans fid).nt B5 DY):=NK.trans Kv
     have Gq:=h.rel.slots u;rcases Dh u (ans fid).nt with hu|hu
     ·refine Gq.mono hF.le (aG _) (λb' s BB=>?_) (λ_ _ _=>rfl)
      have Lh:B5 b'=some (false,u,s):=by
       have AL:=h.rel.lt b' (by simp[BB]);show oset ow l _ b'=_;unfold oset;rw[Bc (by show ¬b'=w.heap.size+1;omega)];exact BB
      have Kp:=h.rel.lt b' (by simp[BB]);have Ol:b'<w2.heap.size:=Bt Kp NK.size
      have G3:pY (ans fid).nt B5 b'=none:=by
       simp only[pY,Lh];rw[Bc (by omega)]
      have MG:DY b'=none:=by
       cases e2:DY b' with
       |none=>rfl
       |some x=>rcases Ts.own b' (by simp[e2]) with h5|h5
                ·exact absurd G3 h5
                ·omega
      have hk:=Ts.keep b' Ol G3;have Tg:b'≠l:=by show b'≠w.heap.size+1;omega
      refine⟨by simp[eT,MG,Lh,hu],?_,λo ho=>?_⟩
      ·rw[show w3.heap[b']?=w'.heap[b']? from World.putObj_heap_other Tg,hk.1]
       exact(heap_alloc_old _ (by rw[hsz1];omega)).trans (heap_alloc_old _ Kp)
      ·rw[hk.2 o];exact ho
     ·show SRel w3 B0 Z' J (eT (ans fid).nt B5 DY) tmps u (sl (ans fid) st.tm ⟨[],st.sto⟩ u) (tmps.getD u undef)
      rw[h.rel.hi u hu];exact .dead _
    ·exact Js.mono Z'.le_refl λi hi=>same true i (by simp at hi;simp;omega)
   have Oq:Fr w' Z' (eT (ans fid).nt B5 DY) w3 Z' (eT (ans fid).nt B5 DY):=Fr.put (by simp[ho0]) (λ_ h=>h)
   have Tm:AtE P ans fid B0 w3 Z' J (eT (ans fid).nt B5 DY) { st with sto:={ sto' with objs:=sto'.objs.take n } } tmps ex:=by
    have hA:At P ans fid B0 w3 Z' J (eT (ans fid).nt B5 DY) { st with sto:={ sto' with objs:=sto'.objs.take n } } tmps:=⟨hR4,h.nr,by
     show sto'.lo<=(sto'.objs.take n).length;have h1:=Hw.lo;have h2:=h.lo;rw[Dw,show min n sto'.objs.length=n by omega,h1];exact h2⟩
    cases ex with
    |pan x=>exact absurd rfl (XQ x)
    |norm=>exact hA
    |exit=>exact hA
    |ret=>exact hA
   refine⟨ex,_,hK,⟨w3,Z',J,_,tmps,mk++ds,Tm,hmarks.mono Oq,(NK.trans Kv).trans Oq,aG _,⟨Hw.lo,by simp;omega,λi hi=>?_⟩,?_⟩,λx hx=>absurd hx (XQ x)⟩
   ·show(sto'.objs.take n)[i]?=_
    have:=h.lo
    rw[Bh,Bu (by omega),Hw.keep i hi];show(st.sto.objs++[AObj.loop al])[i]?=_;rw[Az (by omega)]
   ·refine(DF w3).head ((Steps.one BS).trans (CS.trans ?_))
    rw[show fr.finish v=b.atR ⟨tmps,mk++ds⟩ (.endRangeFunc l::items) from finish_atR_inRangeFunc l v];exact .one MC
  split at e
  ·rename_i hs hp
   exact fin none .norm (by rw[hs];simp) hp e (λw3=>Steps.refl _ _) (by simp)
  ·rename_i hs hp
   exact fin (some .ret) .ret (by rw[hs];simp) hp e (λw3=>⟨items,Steps.refl _ _⟩) (by simp)
  ·rename_i id hs hp
   exact fin (some (.exit id)) (.exit id) (by rw[hs];simp) hp e (λw3=>⟨items,rfl,Steps.refl _ _⟩) (by simp)
  ·cases e
theorem cz(BQ:kI P ans B0 cf){R:Type}{r:R}{K:bI->St->Option R}{f:Operand}{params:Array Tmp}{assign body:Code}(hb:b.fn=fid)(DA:b.roundOf=none)(h:At P ans fid B0 w Ψ J ow st tmps)(hm:Marks w ow B1 b ds)(hB:B1<=w.heap.size)
  (e:XK P ans cf lp fid (.rangeFunc f params assign body) st K=some r):∃ex AY,K ex AY=some r/\XEnd P ans fid B0 B1 w Ψ J ow st.sto b cs items (lone (b.atR ⟨tmps,ds⟩ (.code (.rangeFunc f params assign body)::items)) cs w) ex AY:=by
 obtain⟨ex,AY,h1,h2,_⟩:=yI (items:=items) (cs:=cs) BQ hb DA h hm hB e;exact⟨ex,AY,h1,h2⟩
theorem nU(BQ:kI P ans B0 cf)(BJ:mq P ans B0 lp)(FN:iC P ans cf){R:Type}{r:R}:∀(c:Code){K:bI->St->Option R}{st:St}{w:World}{Ψ:HT}{J:List Nat}{ow:Own}{tmps:Array Value}{ds:List Deferred}{items:List Item},b.fn=fid->(b.roundOf=none\/bZ c=true)->At P ans fid B0 w Ψ J ow st tmps->Marks w ow B1 b ds->B1<=w.heap.size ->
  XK P ans cf lp fid c st K=some r->∃e AY,K e AY=some r/\XEnd P ans fid B0 B1 w Ψ J ow st.sto b cs items (lone (b.atR ⟨tmps,ds⟩ (.code c::items)) cs w) e AY
 |.skip,K,st,w,Ψ,J,ow,tmps,ds,items,hb,hr,h,hm,hB,e=>⟨.norm,st,e,w,Ψ,J,ow,tmps,ds,h,hm,Fr.refl _ _ _,aG _,StoLe.refl _,.one stepR_skip⟩
 |.label l,K,st,w,Ψ,J,ow,tmps,ds,items,hb,hr,h,hm,hB,e=>⟨.norm,st,e,w,Ψ,J,ow,tmps,ds,h,hm,Fr.refl _ _ _,aG _,StoLe.refl _,.one stepR_label⟩
 |.exit id,K,st,w,Ψ,J,ow,tmps,ds,items,hb,hr,h,hm,hB,e=>⟨.exit id,st,e,w,Ψ,J,ow,tmps,ds,h,hm,Fr.refl _ _ _,aG _,StoLe.refl _,items,rfl,Steps.refl _ _⟩
 |.ret,K,st,w,Ψ,J,ow,tmps,ds,items,hb,hr,h,hm,hB,e=>⟨.ret,st,e,w,Ψ,J,ow,tmps,ds,h,hm,Fr.refl _ _ _,aG _,StoLe.refl _,items,Steps.refl _ _⟩
 |.seq x y,K,st,w,Ψ,J,ow,tmps,ds,items,hb,hr,h,hm,hB,e=>by
  simp only[XK] at e;have hrx:b.roundOf=none\/bZ x=true:=hr.imp id λh=>by simp only[bZ,Ac] at h;exact h.1
  have hry:b.roundOf=none\/bZ y=true:=hr.imp id λh=>by simp only[bZ,Ac] at h;exact h.2
  obtain⟨e1,F2,h1,hx⟩:=nU BQ BJ FN x (items:=.code y::items) hb hrx h hm hB e;have hx:=hx.head (.one stepR_seq);cases e1 with
  |norm =>
   obtain⟨w1,Z1,J1,BO,BF,Hk,a1,a2,a3,a4,a5,a6⟩:=hx;obtain⟨e2,I8,h2,hy⟩:=nU BQ BJ FN y (items:=items) hb hry a1 a2 (Bg hB a3.size) h1;exact⟨e2,I8,h2,(hy.pre a3 a4 a5).head a6⟩
  |exit id=>exact⟨_,_,h1,hx.out (by simp) (λC6 _=>rfl)⟩
  |ret=>exact⟨_,_,h1,hx.out (by simp) (λC6 _=>rfl)⟩
  |pan v=>exact⟨_,_,h1,hx.out (by simp) (λC6 _=>rfl)⟩
 |.cond c x y,K,st,w,Ψ,J,ow,tmps,ds,items,hb,hr,h,hm,hB,e=>by
  simp only[XK] at e;obtain⟨tc,Hw,_⟩:=bG (ds:=ds) h.rel c;obtain⟨t,e,hv,_⟩:=yW Hw e;have hrx:b.roundOf=none\/bZ x=true:=hr.imp id λh=>by simp only[bZ,Ac] at h;exact h.1
  have hry:b.roundOf=none\/bZ y=true:=hr.imp id λh=>by simp only[bZ,Ac] at h;exact h.2
  have hs:=stepR_cond (P:=P) (b:=b) (a:=⟨tmps,ds⟩) (k:=items) (cs:=cs) (w:=w) (x:=x) (y:=y) hv;cases t with
  |true =>
   obtain⟨e2,I8,h2,hy⟩:=nU BQ BJ FN x (items:=items) hb hrx h hm hB e;exact⟨e2,I8,h2,hy.head (.one hs)⟩
  |false =>
   obtain⟨e2,I8,h2,hy⟩:=nU BQ BJ FN y (items:=items) hb hry h hm hB e;exact⟨e2,I8,h2,hy.head (.one hs)⟩
 |.block id c,K,st,w,Ψ,J,ow,tmps,ds,items,hb,hr,h,hm,hB,e=>by
  simp only[XK] at e;have hrc:b.roundOf=none\/bZ c=true:=hr.imp (λh=>h) λh=>by simpa only[bZ] using h
  obtain⟨e1,F2,h1,hx⟩:=nU BQ BJ FN c (items:=.inBlock id::items) hb hrc h hm hB e;have hx:=hx.head (.one stepR_block);cases e1 with
  |norm =>
   obtain⟨w1,Z1,J1,BO,BF,Hk,a1,a2,a3,a4,a5,a6⟩:=hx;exact⟨.norm,F2,h1,w1,Z1,J1,BO,BF,Hk,a1,a2,a3,a4,a5,Steps.trans a6 (.one stepR_inBlock)⟩
  |exit C6 =>
   simp only at h1;cases Lb:Nat.beq C6 id with
   |true =>
    rw[Lb] at h1;have TV:=Aa Lb;subst TV;obtain⟨w1,Z1,J1,BO,BF,Hk,a1,a2,a3,a4,a5,k,a6,a7⟩:=hx;refine⟨.norm,F2,h1,w1,Z1,J1,BO,BF,Hk,a1,a2,a3,a4,a5,Steps.trans a7 (.one (stepR_exit ?_))⟩;rw[a6];simp[exitTo]
   |false =>
    rw[Lb] at h1;refine⟨_,_,h1,hx.out (by simp) (λid2 he=>?_)⟩;cases he
    have:¬id=C6:=λh=>by subst h;rw[show Nat.beq id id=true from Cj id] at Lb;cases Lb
    simp[exitTo,this]
  |ret=>exact⟨_,_,h1,hx.out (by simp) (λC6 he=>by cases he)⟩
  |pan v=>exact⟨_,_,h1,hx.out (by simp) (λC6 he=>by cases he)⟩
 |.scope c,K,st,w,Ψ,J,ow,tmps,ds,items,hb,hr,h,hm,hB,e=>by
  simp only[XK] at e;have hrc:b.roundOf=none\/bZ c=true:=hr.imp (λh=>h) λh=>by simpa only[bZ] using h
  obtain⟨e1,F2,h1,hx⟩:=nU BQ BJ FN c (items:=.inScope c::items) hb hrc h hm hB e;have hx:=hx.head (.one mQ);cases e1 with
  |norm =>
   obtain⟨w1,Z1,J1,BO,BF,Hk,a1,a2,a3,a4,a5,a6⟩:=hx;exact⟨.norm,F2,h1,w1,Z1,J1,BO,BF,Hk,a1,a2,a3,a4,a5,Steps.trans a6 (.one jY)⟩
  |exit C6=>exact⟨_,_,h1,hx.out (by simp) (λC6 _=>rfl)⟩
  |ret=>exact⟨_,_,h1,hx.out (by simp) (λC6 he=>by cases he)⟩
  |pan v=>exact⟨_,_,h1,hx.out (by simp) (λC6 he=>by cases he)⟩
 |.loop c,K,st,w,Ψ,J,ow,tmps,ds,items,hb,hr,h,hm,hB,e=>by
  simp only[XK] at e;obtain⟨⟨e1,F2⟩,hl,e⟩:=aH e;have hrc:b.roundOf=none\/bZ c=true:=hr.imp (λh=>h) λh=>by simpa only[bZ] using h
  obtain⟨hA,hs⟩:=h.head c
  have:=BJ _ _ _ _ _ hl B1 w Ψ J ow tmps ds b cs items hb hrc hA hm hB
  rw[hs] at this;exact⟨e1,F2,e,this.head (.one stepR_loop)⟩
 |.region id ops false,K,st,w,Ψ,J,ow,tmps,ds,items,hb,hr,h,hm,hB,e=>by
  simp only[XK] at e;rw[kW] at e;rcases pX (ds:=ds) (b:=b) (items:=items) (cs:=cs) BQ h.nr (rs:=⟨[],st.sto⟩) h.rel h.lo e with⟨AX,w',Z',J',AQ,tmps',a1,a2,a3,a4,a5,a6⟩|⟨x,AX,v,w',Z',J',AQ,tmps',DI,a1,a2,a3,a4,a5,a6,a7⟩
  ·exact⟨.norm,_,a1,w',Z',J',AQ,tmps',ds,At.commit h.nr a2 (by rw[a5.lo];exact Bg h.lo a5.len) rfl,hm.mono a3,a3,a4,a5,(Steps.one stepR_region).trans (a6.trans (.one stepR_region_end))⟩
  ·exact⟨.pan x,_,a1,w',Z',J',AQ,tmps',ds,⟨a2.wsat,a2.objs,a2.lt⟩,hm.mono a4,a4,a5,a6,v,DI,a3,(Steps.one stepR_region).trans a7⟩
 |.region id ops true,K,st,w,Ψ,J,ow,tmps,ds,items,hb,hr,h,hm,hB,e=>by
  simp only[XK] at e;obtain⟨hg,e⟩:=aA e;simp only[Ac] at hg;rw[kW] at e;have e:=FN.2 R fid st.tm id ops _ ⟨[],st.sto⟩ r hg.1 hg.2 h.nr rfl (λrs1 rs2 h1 h2=>by rw[kN _ _ h1,h2]) e (w.tape w.drawn (.order b.fn id));rw[show Region.linearise .any ops (w.tape w.drawn (.order b.fn id))=Region.schedule (P.follows .mixedOrders) ops (w.tape w.drawn (.order b.fn id)) by simp[Region.schedule,FN.1]] at e
  let w1:World:={ w with drawn:=w.drawn+1 }
  have GX:w1.heap=w.heap:=rfl;have JB:Fr w Ψ ow w1 Ψ ow:=Fr.heap rfl rfl rfl rfl;have h1:=h.world GX;rcases pX (ds:=ds) (b:=b) (items:=items) (cs:=cs) BQ h.nr (rs:=⟨[],st.sto⟩) h1.rel h1.lo e with⟨AX,w',Z',J',AQ,tmps',a1,a2,a3,a4,a5,a6⟩|⟨x,AX,v,w',Z',J',AQ,tmps',DI,a1,a2,a3,a4,a5,a6,a7⟩
  ·exact⟨.norm,_,a1,w',Z',J',AQ,tmps',ds,At.commit h.nr a2 (by rw[a5.lo];exact Bg h.lo a5.len) rfl,hm.mono (JB.trans a3),JB.trans a3,a4,a5,(Steps.one stepR_region_draw).trans (a6.trans (.one stepR_region_end))⟩
  ·cases a1
 |.rangeFunc f params assign body,K,st,w,Ψ,J,ow,tmps,ds,items,hb,hr,h,hm,hB,e=>by
  refine cz BQ hb (hr.resolve_right (by simp[bZ])) h hm hB e
 |.goto _,K,st,w,Ψ,J,ow,tmps,ds,items,hb,hr,h,hm,hB,e=>by simp[XK] at e
 |.refuse _,K,st,w,Ψ,J,ow,tmps,ds,items,hb,hr,h,hm,hB,e=>by simp[XK] at e
theorem jo(BQ:kI P ans B0 cf)(BJ:mq P ans B0 lp)(FN:iC P ans cf):mq P ans B0 (gS P ans cf lp):=by
 intro fid c st e AY hl B1 w Ψ J ow tmps ds b cs items hb hr h hm hB;obtain⟨e1,F2,h1,hx⟩:=nU BQ BJ FN c (b:=b) (cs:=cs) (items:=.inLoop c::items) hb hr h hm hB hl;cases e1 with
 |norm =>
  obtain⟨w1,Z1,J1,BO,BF,Hk,a1,a2,a3,a4,a5,a6⟩:=hx;obtain⟨hA,hs⟩:=At.head a1 c
  have:=BJ _ _ _ _ _ h1 B1 w1 Z1 J1 BO BF Hk b cs items hb hr hA a2 (Bg hB a3.size)
  rw[hs] at this;exact(this.pre a3 a4 a5).head (Steps.trans a6 (.one stepR_inLoop))
 |exit id=>simp only[Al,Bz] at h1;obtain⟨rfl,rfl⟩:=h1;exact hx.out (by simp) (λC6 _=>rfl)
 |ret=>simp only[Al,Bz] at h1;obtain⟨rfl,rfl⟩:=h1;exact hx.out (by simp) (λC6 _=>rfl)
 |pan v=>simp only[Al,Bz] at h1;obtain⟨rfl,rfl⟩:=h1;exact hx.out (by simp) (λC6 _=>rfl)
theorem v7{base:List Deferred}:∀{ds:List Deferred}{w:World}{fr:Frame},MarksL w ow B1 ds->fr.mode≠.run->fr.defers=ds++base ->
  ∃w',Steps P (lone fr cs w) (lone { fr with defers:=base } cs w')/\w'.heap.size=w.heap.size/\(∀x,(x<B1\/ow x≠none\/∃o v,w.cell? ⟨x,o,none⟩=some v)->w'.heap[x]?=w.heap[x]?)/\w'.os=w.os/\w'.tape=w.tape/\w'.output=w.output
 |[],w,fr,h,hm,hd=>⟨w,by rw[show({ fr with defers:=base }:Frame)=fr by rw[show base=fr.defers from hd.symm]];exact Steps.refl _ _,rfl,λ_ _=>rfl,rfl,rfl,rfl⟩
 |d::ds,w,fr,h,hm,hd=>by
  obtain⟨D,h1,h2,h3,h4⟩:=h.all d (by simp);have AL:D<w.heap.size:=(Ai.1 h2).1;have BS:=step_collected (P:=P) (cs:=cs) hm hd h1 (run_takeDeferred h2)
  let w1:=w.putObj D (.deferred none)
  have hM:MarksL w1 ow B1 ds:=by
   have hn:=Cc.1 h.nodup;refine⟨λd' NF=>?_,hn.2⟩;obtain⟨D',g1,g2,g3,g4⟩:=h.all d' (by simp[NF]);refine⟨D',g1,?_,g3,g4⟩;rw[World.putObj_heap_other];exact g2;intro he;subst he;exact hn.1 d' NF (by rw[h1,g1])
  obtain⟨w',a1,a2,a3,a4,a5,a6⟩:=v7 (base:=base) (fr:={ fr with defers:=ds++base }) hM hm rfl;refine⟨w',(Steps.one BS).trans a1,by rw[a2];simp[w1],λx hx=>?_,a4,a5,a6⟩
  have hxD:x≠D:=by
   rintro rfl
   rcases hx with hx|hx|⟨o,v,hx⟩
   ·omega
   ·exact hx h3
   ·simp[World.cell?,h2] at hx
  have GX:w1.heap[x]?=w.heap[x]?:=World.putObj_heap_other hxD;rw[a3 x,GX];rcases hx with hx|hx|⟨o,v,hx⟩
  ·exact .inl hx
  ·exact .inr (.inl hx)
  ·exact .inr (.inr ⟨o,v,by rw[cell_congr GX];exact hx⟩)
theorem rL{b:Frame}{ds:List Deferred}{w:World}{fr:Frame}(h:Marks w ow B1 b ds)(hm:fr.mode≠.run)(hd:fr.defers=ds) :
  ∃w',Steps P (lone fr cs w) (lone { fr with defers:=b.defers } cs w')/\w'.heap.size=w.heap.size/\(∀x,(x<B1\/ow x≠none\/∃o v,w.cell? ⟨x,o,none⟩=some v)->w'.heap[x]?=w.heap[x]?)/\w'.os=w.os/\w'.tape=w.tape/\w'.output=w.output:=by
 obtain⟨ms,h1,h2⟩:=h;exact v7 h2 hm (hd.trans h1)
theorem Rest.kept{sto:AH}{w':World}(h:Rest ans B0 w Ψ J ow sto)(hs:w'.heap.size=w.heap.size)(hk:∀x,(x<B1\/ow x≠none\/∃o v,w.cell? ⟨x,o,none⟩=some v)->w'.heap[x]?=w.heap[x]?):Rest ans B0 w' Ψ J ow sto :=
 ⟨⟨by rw[hs];exact h.wsat.size8,λb o c e=>by
   obtain⟨h1,v,h2,h3⟩:=h.wsat.sat b o c e;exact⟨h1,v,(cell_congr (hk b (.inr (.inr ⟨o,v,h2⟩))) o).trans h2,h3⟩⟩,h.objs.mono Ψ.le_refl λi _ b s hb=>⟨hb,hk b (.inr (.inl (by simp[hb]))),λ_ h=>h⟩,λb hb=>by rw[hs];exact h.lt b hb⟩
theorem At.kept{w':World}(h:At P ans fid B0 w Ψ J ow st tmps)(hs:w'.heap.size=w.heap.size)(hk:∀x,(x<B1\/ow x≠none\/∃o v,w.cell? ⟨x,o,none⟩=some v)->w'.heap[x]?=w.heap[x]?):At P ans fid B0 w' Ψ J ow st tmps:=by
 have hr:=h.rest.kept hs hk;exact⟨⟨h.rel.size,hr.wsat,λt=>(h.rel.slots t).mono Ψ.le_refl (aG _) (λb s hb=>⟨hb,hk b (.inr (.inl (by simp[hb]))),λ_ h=>h⟩) (λ_ _ _=>rfl),h.rel.refs,h.rel.boxes,hr.objs,hr.lt,by rw[hs];exact h.rel.base,h.rel.hi⟩,h.nr,h.lo⟩
theorem Fr.kept{w0:World}{Z0:HT}{Wq:Own}{w':World}(h:Fr w0 Z0 Wq w Ψ ow)(hB:w0.heap.size<=B1)(hs:w'.heap.size=w.heap.size)(hk:∀x,(x<B1\/ow x≠none\/∃o v,w.cell? ⟨x,o,none⟩=some v)->w'.heap[x]?=w.heap[x]?)
  (h1:w'.os=w.os) (h2:w'.tape=w.tape) (h3:w'.output=w.output):Fr w0 Z0 Wq w' Ψ ow :=
 ⟨h.le,by rw[hs];exact h.size,λb hb ho=>⟨(hk b (.inl (by omega))).trans (h.keep b hb ho).1,(h.keep b hb ho).2⟩,h.own,h1.trans h.os,h2.trans h.tape,h3.trans h.output⟩
def lO(tmps:Array Value):ResultVar->Sem Value
 |.tmp t=>pure (tmps.getD t undef)
 |.cell a t=>do loadVar t (<-asAddr (tmps.getD a undef))
theorem jR{an:AF}{tm:List Slot}{sto:AH}(h:Rel P ans B0 w Ψ J ow an (sl an tm ⟨[],sto⟩) tmps sto.objs){R:Type}{r:R}:∀{rl:List ResultVar}{k:List AVal->Option R},fL P an tm rl sto k=some r ->
  ∃xs us,k xs=some r/\(rl.mapM (lO tmps)).run P w=.ok us w/\xs.length=us.length/\∀(i:Nat) x u,xs[i]?=some x->us[i]?=some u->VRel Ψ J x u
 |[],k,e=>⟨[],[],e,by simp,rfl,λi x u hx=>by simp at hx⟩
 |.tmp t::rl,k,e=>by
  simp only[fL] at e;obtain⟨x,e,hx⟩:=lU (h.slots t) e;obtain⟨xs,us,h1,h2,h3,h4⟩:=jR h e;refine⟨x::xs,tmps.getD t undef::us,h1,by simp[Eo,lO,h2],by simp[h3],λi y u hy hu=>?_⟩;cases i with
  |zero=>simp only[Ca,Al] at hy hu;subst hy;subst hu;exact hx
  |succ i=>simp only[Bv] at hy hu;exact h4 i y u hy hu
 |.cell a t::rl,k,e=>by
  simp only[fL] at e;obtain⟨p,e,hp⟩:=iP (ds:=[]) h (x:=.tmp a) (rs:=⟨[],sto⟩) e;obtain⟨cs,off,b,o,e,hv,hrd,_,_⟩:=hH h hp e;obtain⟨s,hs,e⟩:=aH e;obtain⟨agg,D4,e⟩:=aH e;obtain⟨hg,e⟩:=aA e;obtain⟨x,hx,e⟩:=aH e;obtain⟨xs,us,h1,h2,h3,h4⟩:=jR h e
  have O9:∃v,(loadVar t ⟨b,o,none⟩).run P w=.ok v w/\VRel Ψ J x v:=by
   cases agg with
   |true=>exact jg (P:=P) hrd D4 hs hx
   |false =>
    simp only[partOf,Bj,Dm,Av,Ap] at hx;obtain⟨c,hc,rfl⟩:=hx;exact jh (P:=P) hrd D4 hc
  obtain⟨v,hl,OS⟩:=O9;have GZ:tmps.getD a undef=.pointer (some ⟨b,o,none⟩):=hv;refine⟨x::xs,v::us,h1,?_,by simp[h3],λi y u hy hu=>?_⟩
  ·simp only[Eo,lO,GZ,Sem.run_bind]
   simp[asAddr,hl,h2]
  ·cases i with
   |zero=>simp only[Ca,Al] at hy hu;subst hy;subst hu;exact OS
   |succ i=>simp only[Bv] at hy hu;exact h4 i y u hy hu
def xN:List Value->Value
 |[u]=>u
 |us=>.tuple ⟨us⟩
theorem jS{fn:Func}{us:List Value}(h:(fn.results.toList.mapM (lO tmps)).run P w=.ok us w):(results fn tmps).run P w=.ok (xN us) w:=by
 have h0:fn.results=fn.results.toList.toArray:=by simp
 have hf:∀rl:List ResultVar,(rl.toArray.mapM (lO tmps))=Functor.map List.toArray (rl.mapM (lO tmps)):=λrl=>List.mapM_toArray
 have hr:results fn tmps=(do let vs <-fn.results.mapM (lO tmps);pure (if h:vs.size=1 then vs[0] else .tuple vs)):=by
  unfold results;congr 1
 rw[hr,h0,hf];simp only[Sem.run_bind,map_eq_pure_bind,bind_assoc,h,Result.andThen_ok,pure_bind,Sem.run_pure]
 match us with
 |[]=>rfl
 |[u]=>rfl
 |u::u'::us=>simp[xN]
theorem aHw{n:Nat}{s:Slot}{v:Value}{sto:AH}(hs:SRel w B0 Ψ J ow #[] 0 s v)(hf:s.free=true)(ho:OsRel w B0 Ψ J ow ans sto.objs)(hn:n<=sto.objs.length) :
  ∃J',SRel w B0 Ψ J' ow #[] 0 s v/\OsRel w B0 Ψ J' ow ans (trim n s sto).objs/\(trim n s sto).lo=sto.lo/\n<=(trim n s sto).objs.length/\(∀i,i<n->(trim n s sto).objs[i]?=sto.objs[i]?)/\J'.take n=J.take n:=by
 unfold trim;cases hl:cF n s with
 |true=>exact⟨J.take n,hs.lokS hf hl,ho.front n hn,rfl,by show n<=(sto.objs.take n).length;rw[Dw];omega,λi hi=>by show(sto.objs.take n)[i]?=_;rw[Bh,Bu hi],by rw[Fv,Nat.min_self]⟩
 |false=>exact⟨J,hs,ho,rfl,hn,λ_ _=>rfl,rfl⟩
theorem rE(h:At P ans fid B0 w Ψ J ow st tmps){fn:Func}{n:Nat}{res:ARes}{sto':AH}(hn:n<=st.sto.objs.length)(e:finish P (ans fid) fn n st=some (res,sto')) :
  ∃s v J' AQ,res=.ret s/\s.free=true/\(results fn tmps).run P w=.ok v w/\SRel w B0 Ψ J' AQ #[] 0 s v/\OsRel w B0 Ψ J' AQ ans sto'.objs/\Fr w Ψ ow w Ψ AQ/\(∀b,AQ b≠none->ow b≠none)/\sto'.lo=st.sto.lo/\n<=sto'.objs.length/\(∀i,i<n->sto'.objs[i]?=st.sto.objs[i]?)/\J'.take n=J.take n:=by
 obtain⟨x,v,hx,hf,hr,he⟩:∃x v,SRel w B0 Ψ J ow #[] 0 x v/\x.free=true/\(results fn tmps).run P w=.ok v w/\some (ARes.ret x,trim n x st.sto)=some (res,sto'):=by
  unfold finish at e;obtain⟨xs,us,h1,h2,h3,h4⟩:=jR h.rel e;have BA:=jS h2
  match xs,us,h1,h3,h4,BA with
  |[],[],h1,h3,h4,BA=>exact⟨_,_,.tup [] [] h3 h4,rfl,BA,h1⟩
  |[x],[u],h1,h3,h4,BA=>exact⟨_,_,.val _ _ (h4 0 x u rfl rfl),rfl,BA,h1⟩
  |x::x'::xs,u::u'::us,h1,h3,h4,BA=>exact⟨_,_,.tup _ _ h3 h4,rfl,BA,h1⟩
 simp only[Al,Bz] at he;obtain⟨rfl,rfl⟩:=he;obtain⟨J',a1,a2,a3,a4,a5,a6⟩:=aHw hx hf h.rel.objs hn;exact⟨_,_,J',ow,rfl,hf,hr,a1,a2,Fr.refl _ _ _,λ_ h=>h,a3,a4,a5,a6⟩
end
section
variable {P:Program}{ans:FuncId->AF}{w:World}{B0:Nat}{Ψ:HT}{J:List Nat}{ow:Own}{tmps:Array Value}
variable {ds:List Deferred}{cf:aJ}{lp:aQ}{fid:FuncId}{B1:Nat}{b:Frame}{cs:List Frame}{items:List Item}{st:St}{pr:fY}
theorem xB(g:Nat->Slot):∀(ks:List Nat)(t:Nat),tlook ks (ks.map g) t=.dead\/tlook ks (ks.map g) t=g t
 |[],t=>.inl rfl
 |k::ks,t=>by
  simp only[Bb,tlook];cases hk:Nat.beq k t with
  |true=>have:=Aa hk;subst this;exact .inr rfl
  |false=>exact xB g ks t
theorem u4{f:FuncId}{args:List Slot}{vs:Array Value}{sto:AH}(h:dR ans B0 w Ψ J ow args vs sto)(Ju:args.length<=(ans f).nt) :
  At P ans f B0 w Ψ J ow ⟨(ans f).keep.map λt=>(args[t]?).getD .dead,sto⟩ (vs++Array.replicate ((ans f).nt-vs.size) undef):=by
 have hE:∀t,tlook (ans f).keep ((ans f).keep.map λt=>(args[t]?).getD .dead) t=.dead\/∃s,args[t]?=some s/\tlook (ans f).keep ((ans f).keep.map λt=>(args[t]?).getD .dead) t=s:=λt=>by
  rcases xB (λt=>(args[t]?).getD .dead) (ans f).keep t with h1|h1
  ·exact .inl h1
  ·cases ha:args[t]? with
   |none=>left;rw[h1,ha];rfl
   |some s=>right;exact⟨s,rfl,by rw[h1,ha];rfl⟩
 have CH:∀(t:Nat)(s:Slot),args[t]?=some s->s.free=true:=λt s ha=>h.free s (Ba ha)
 refine⟨⟨?_,h.wsat,λt=>?_,λd u o e=>?_,λt c e=>?_,h.objs,h.lt,h.base,λt ht=>?_⟩,λs hs u o he=>?_,h.lo⟩
 ·have:=h.size;simp;omega
 ·show SRel w B0 Ψ J ow _ t (tlook (ans f).keep ((ans f).keep.map λt=>(args[t]?).getD .dead) t) _
  rcases hE t with h1|⟨s,ha,h1⟩
  ·rw[h1];exact .dead _
  ·rw[h1]
   have AL:t<vs.size:=by rw[<-h.size];exact(Ab.1 ha).1
   have hv:(vs++Array.replicate ((ans f).nt-vs.size) undef).getD t undef=vs.getD t undef:=by
    simp only[Ae,Fu AL]
   rw[hv];exact(h.args t s ha).free_tmps (CH t s ha)
 ·have e':tlook (ans f).keep ((ans f).keep.map λt=>(args[t]?).getD .dead) d=.ref u o:=e
  rcases hE d with h1|⟨s,ha,h1⟩
  ·rw[h1] at e';cases e'
  ·rw[h1] at e';have:=CH d s ha;rw[e'] at this;cases this
 ·have e':tlook (ans f).keep ((ans f).keep.map λt=>(args[t]?).getD .dead) t=.box c:=e
  rcases hE t with h1|⟨s,ha,h1⟩
  ·rw[h1] at e';cases e'
  ·rw[h1] at e';have:=CH t s ha;rw[e'] at this;cases this
 ·show tlook (ans f).keep ((ans f).keep.map λt=>(args[t]?).getD .dead) t=.dead
  rcases hE t with h1|⟨s,ha,h1⟩
  ·exact h1
  ·have:=(Ab.1 ha).1;omega
 ·obtain⟨t,_,rfl⟩:=Cm.1 hs
  cases ha:args[t]? with
  |none=>rw[ha] at he;cases he
  |some s=>rw[ha] at he;have:=CH t s ha;rw[show s=.ref u o from he] at this;cases this
def Leave(P:Program)(ans:FuncId->AF)(B0:Nat)(w:World)(Ψ:HT)(J:List Nat)(ow:Own)(sto:AH)(f:FuncId)(cs:List Frame)(m:Machine)(res:ARes)(sto':AH):Prop :=
 ∃w' Z' J' AQ fr,Fr w Ψ ow w' Z' AQ/\pre J J'/\WSat Z' w'/\OsRel w' B0 Z' J' AQ ans sto'.objs/\(∀b,AQ b≠none->b<w'.heap.size)/\StoLe sto sto'/\Steps P m (lone fr cs w')/\fr.fn=f /\
  match res with
  |.ret s=>s.free=true/\∃v,SRel w' B0 Z' J' AQ #[] 0 s v/\fr.leaving P w' (.returned v)
  |.pan x=>∃v,VRel Z' J' x v/\fr.leaving P w' (.panicked [{ v,recovered:=false }])
theorem Leave.post{sto:AH}{f:FuncId}{c:Frame}{m:Machine}{res:ARes}{sto':AH}(h:Leave P ans B0 w Ψ J ow sto f (c::cs) m res sto'):dS P ans B0 w Ψ J ow sto c cs m res sto':=by
 obtain⟨w',Z',J',AQ,fr,h1,h2,h3,h4,h5,h6,h7,h8,h9⟩:=h;refine⟨w',Z',J',AQ,h1,h2,h3,h4,h5,h6,?_⟩;cases res with
 |ret s=>obtain⟨hf,v,hs,hl⟩:=h9;exact⟨hf,v,hs,h7.trans (.one (step_leave_returned hl))⟩
 |pan x=>obtain⟨v,hs,hl⟩:=h9;exact⟨v,hs,h7.trans (.one (step_leave_panicked hl))⟩
theorem jN{J J' J2:List Nat}{n:Nat}(hp:pre J J2)(hn:n=J.length)(h:J'.take n=J2.take n):pre J J':=by
 subst hn;rw[jO hp (Af _),Bs (Af _)] at h;intro i x hx;have hi:=(Ab.1 hx).1
 have:(J'.take J.length)[i]?=some x:=by rw[h];exact hx
 rw[Bh,Bu hi] at this;exact this
theorem y8(BQ:kI P ans B0 cf)(BJ:mq P ans B0 lp)(FN:iC P ans cf){f:FuncId}{args:List Slot}{sto:AH}{res:ARes}{sto':AH}(Gs:pr f args=none)(e:cD P ans pr cf lp (.fn f) args sto=some (res,sto')) :
  (∃F,P.funcs[f]?=some F/\F.body.isSome=true)/\∀w Ψ J ow vs,dR ans B0 w Ψ J ow args vs sto->∀cs,Leave P ans B0 w Ψ J ow sto f cs (lone (Frame.enter P f vs .normal) cs w) res sto':=by
 simp only[cD,Gs] at e;cases L4:(ans f).prim with
 |true=>rw[L4] at e;cases e
 |false =>
 rw[L4] at e;simp only[Be] at e
 split at e
 ·cases e
 rename_i fn Hh
 split at e
 ·cases e
 rename_i c I3;obtain⟨hg,e⟩:=aA e;simp only[Ac] at hg;have Ju:fn.ntmps=(ans f).nt:=Aa hg.1;have DU:args.length<=(ans f).nt:=by rw[<-Ju];exact Ad hg.2
 refine⟨⟨fn,Hh,by simp[I3]⟩,λw Ψ J ow vs BL cs=>?_⟩
 let b:Frame:={ (default:Frame) with fn:=f,kind:=.normal,roundOf:=none }
 have henter:Frame.enter P f vs .normal=b.atR ⟨vs++Array.replicate ((ans f).nt-vs.size) undef,[]⟩ [.code c]:=by
  simp[Frame.enter,Frame.atR,Hh,I3,b,Ju]
 rw[henter];have Jc:=BL.objs.1;obtain⟨ex,AY,he,w1,Z1,J1,BO,BF,Hk,a1,a2,a3,a4,a5,a6⟩:=nU BQ BJ FN c (b:=b) (cs:=cs) (items:=[]) (fid:=f) (B1:=w.heap.size) rfl (.inl rfl) (u4 (P:=P) BL DU) (Marks.nil w ow w.heap.size) (Af _) e;have AP:=BL.lo;have hlen:sto.objs.length<=AY.sto.objs.length:=a5.len
 have hret:At P ans f B0 w1 Z1 J1 BO AY BF->finish P (ans f) fn sto.objs.length AY=some (res,sto')->(∃k,Steps P (lone (b.atR ⟨vs++Array.replicate ((ans f).nt-vs.size) undef,[]⟩ [.code c]) cs w) (lone { b.atR ⟨BF,Hk⟩ k with mode:=.returning } cs w1)) ->
   Leave P ans B0 w Ψ J ow sto f cs (lone (b.atR ⟨vs++Array.replicate ((ans f).nt-vs.size) undef,[]⟩ [.code c]) cs w) res sto':=λhA IC ⟨k,hs⟩=>by
  obtain⟨w2,p1,p2,p3,p4,p5,p6⟩:=rL (P:=P) (cs:=cs) (fr:={ b.atR ⟨BF,Hk⟩ k with mode:=.returning }) a2 (by simp) rfl;have Tx:=hA.kept p2 p3;obtain⟨s,v,J2,B5,q1,q2,q3,q4,q5,q6,Nz,q7,q8,q9,OA⟩:=rE Tx hlen IC;subst q1;refine⟨w2,Z1,J2,B5,_,(a3.kept (Af _) p2 p3 p4 p5 p6).trans q6,jN a4 Jc.symm OA,Tx.rel.wsat,q5,λb hb=>?_,⟨q7.trans a5.lo,q8,λi hi=>(q9 i (by omega)).trans (a5.keep i hi)⟩,hs.trans p1,rfl,q2,v,q4,rfl,rfl,rfl,fn,Hh,q3⟩;exact Tx.rel.lt b (Nz b hb)
 cases ex with
 |norm=>exact hret a1 he ⟨[],Steps.trans a6 (.one (stepR_end rfl))⟩
 |ret=>obtain⟨k,hk⟩:=a6;exact hret a1 he ⟨_,hk.trans (.one (stepR_ret rfl))⟩
 |exit id=>cases he
 |pan x =>
  simp only[Al,Bz] at he;obtain⟨rfl,rfl⟩:=he;obtain⟨v,k,hv,hs⟩:=a6;obtain⟨w2,p1,p2,p3,p4,p5,p6⟩:=rL (P:=P) (cs:=cs) (fr:={ b.atR ⟨BF,Hk⟩ k with mode:=.panicking [{ v,recovered:=false }] }) a2 (by simp) rfl;have Hy:=Rest.kept a1 p2 p3;exact⟨w2,Z1,J1,BO,_,a3.kept (Af _) p2 p3 p4 p5 p6,a4,Hy.wsat,Hy.objs,Hy.lt,a5,hs.trans p1,rfl,v,hv,rfl,rfl,fn,Hh⟩
def k9(T:Array Value)(ps:List Nat)(vs:List Value):Array Value:=(ps.zip vs).foldl (λt (p:Nat×Value)=>t.setIfInBounds p.1 p.2) T
theorem sJ:∀(ps:List Nat)(vs:List Value)(T:Array Value),(k9 T ps vs).size=T.size
 |[],vs,T=>rfl
 |p::ps,[],T=>rfl
 |p::ps,v::vs,T=>by
  show(k9 (T.setIfInBounds p v) ps vs).size=T.size;rw[sJ];simp
theorem fO(l r:List (Nat×Slot))(t:Nat):bU (l++r) t=match bU l t with|some s=>some s|none=>bU r t:=by
 induction l with
 |nil=>rfl
 |cons p l ih =>
  obtain⟨k,s⟩:=p;simp only[De,bU];cases Nat.beq k t with
  |true=>rfl
  |false=>exact ih
theorem zK:∀(ps:List Nat)(args:List Slot)(vs:List Value)(T:Array Value),args.length=ps.length->vs.length=ps.length->(∀(i:Nat) s u,args[i]?=some s->vs[i]?=some u->∃x,s=.val x/\VRel Ψ J x u)->∀t,
  match bU (ps.zip args).reverse t with
  |some s=>∃x u,s=.val x/\VRel Ψ J x u/\t∈ps/\(t<T.size->(k9 T ps vs).getD t undef=u)
  |none=>(k9 T ps vs).getD t undef=T.getD t undef
 |[],args,vs,T,h1,h2,h,t=>by simp[bU,k9]
 |p::ps,[],vs,T,h1,h2,h,t=>by simp at h1
 |p::ps,a::args,[],T,h1,h2,h,t=>by simp at h2
 |p::ps,a::args,v::vs,T,h1,h2,h,t=>by
  have ih:=zK ps args vs (T.setIfInBounds p v) (by simpa using h1) (by simpa using h2) (λi s u hs hu=>h (i+1) s u (by simpa using hs) (by simpa using hu)) t;have fD:k9 T (p::ps) (v::vs)=k9 (T.setIfInBounds p v) ps vs:=rfl;rw[fD];rw[show((p::ps).zip (a::args)).reverse=(ps.zip args).reverse++[(p,a)] by simp,fO];cases hl:bU (ps.zip args).reverse t with
  |some s =>
   rw[hl] at ih;obtain⟨x,u,g1,g2,g3,g4⟩:=ih;exact⟨x,u,g1,g2,by simp[g3],λht=>g4 (by simpa using ht)⟩
  |none =>
   rw[hl] at ih;simp only at ih ⊢;simp only[bU];cases hp:Nat.beq p t with
   |true =>
    have hpt:=Aa hp;subst hpt;obtain⟨x,hx,hv⟩:=h 0 a v rfl rfl;refine⟨x,v,hx,hv,by simp,λht=>?_⟩;rw[ih,j9 _ _ _ _ ht,Bu rfl]
   |false =>
    simp only[Be];rw[ih];have BD:t≠p:=λe=>by subst e;rw[show Nat.beq t t=true from Cj t] at hp;cases hp
    simp[Ae,Bk (Db BD)]
theorem aD7{w':World}{J':List Nat}{AQ:Own}{tmps':Array Value}{t:Nat}{s:Slot}{v:Value}(h:SRel w 0 Ψ J ow tmps t s v)(hs:dO s=s)(hp:pre J J'):SRel w' B0 Ψ J' AQ tmps' t s v:=by
 cases h with
 |dead=>exact .dead _
 |val x v h=>exact .val x v (h.mono Ψ.le_refl hp)
 |full xs a n h=>exact .full xs a n h
 |nl=>exact .nl
 |nn xs a n c h=>exact .nn xs a n c h
 |tup=>cases hs
 |own=>cases hs
 |cells=>cases hs
 |box=>cases hs
 |ref=>cases hs
theorem ko{tm:List Slot}(h:∀s∈tm,dO s=s)(ks:List Nat)(t:Nat):dO (tlook ks tm t)=tlook ks tm t:=by
 rcases nM (ks:=ks) (tm:=tm) (t:=t) with h1|h1
 ·rw[h1];rfl
 ·exact h _ h1
theorem kC{R:Type}{r:R}{sto:AH}{i:Nat}{k:iA->Option R}(h:c8 sto i k=some r):∃l,sto.objs[i]?=some (.loop l)/\k l=some r:=by
 unfold c8 at h
 split at h
 ·exact⟨_,by assumption,h⟩
 ·cases h
theorem cg{sto:AH}(h:OsRel w B0 Ψ J ow ans sto.objs){i lb:Nat}{l:iA}(ho:sto.objs[i]?=some (.loop l))(hl:J[i]?=some lb) :
  ∃rr,w.heap[lb]?=some (.loop rr)/\ow lb=some (true,i,0)/\B0<=lb/\(∀o,Ψ lb o=F7)/\LoopRel w Ψ (J.take (i+1)) ans l rr:=by
 obtain⟨b,h1,h2⟩:=h.2 i _ ho;obtain rfl:b=lb:=by rw[hl] at h1;exact(Bp h1).symm
 cases h2 with
 |loop _ _ rr a1 a2 a3 a4 a5=>exact⟨rr,a1,a2,a3,a4,a5⟩
theorem LoopRel.put{w':World}{l l':iA}{rr rr':Loop}(h:LoopRel w Ψ J ans l rr)(h1:l'={ l with state:=l'.state,pend:=l'.pend })(h2:rr'={ rr with state:=l'.state,pending:=l'.pend }):LoopRel w' Ψ J ans l' rr':=by
 rw[h1,h2];refine⟨rfl,rfl,h.fn,h.params,h.assign,h.body,h.size,λt=>?_,h.snap,h.hi⟩;exact(h.slots t).mono Ψ.le_refl (aG _) (λb s hb=>by cases hb) (λ_ _ _=>rfl)
theorem Rest.setLoop{sto:AH}(h:Rest ans B0 w Ψ J ow sto){i lb:Nat}{l l':iA}{rr rr':Loop}(ho:sto.objs[i]?=some (.loop l))(hl:J[i]?=some lb)(LY:w.heap[lb]?=some (.loop rr))(DN:ow lb=some (true,i,0))(h0:B0<=lb)(hf:∀o,Ψ lb o=F7)
  (C1:LoopRel w Ψ (J.take (i+1)) ans l rr) (h1:l'={ l with state:=l'.state,pend:=l'.pend }) (h2:rr'={ rr with state:=l'.state,pending:=l'.pend }) :
  Rest ans B0 (w.putObj lb (.loop rr')) Ψ J ow (AM.setLoop sto i l')/\Fr w Ψ ow (w.putObj lb (.loop rr')) Ψ ow/\(∀kk j,¬(kk=true/\j=i)->Same w Ψ ow (w.putObj lb (.loop rr')) Ψ ow kk j kk j):=by
 have AL:lb<w.heap.size:=(Ai.1 LY).1
 have same:∀kk j,¬(kk=true/\j=i)->Same w Ψ ow (w.putObj lb (.loop rr')) Ψ ow kk j kk j:=λkk j hk b' s BB =>
  ⟨BB,World.putObj_heap_other (λe=>by subst e;rw[DN] at BB;simp only[Al,Bz] at BB;exact hk ⟨BB.1.symm,BB.2.1.symm⟩),λ_ h=>h⟩
 refine⟨⟨h.wsat.put hf,?_,λx hx=>by rw[World.putObj_size];exact h.lt x hx⟩,Fr.put (by simp[DN]) (λ_ h=>h),same⟩;exact h.objs.set (Ab.1 ho).1 hl (.loop _ _ rr' (World.putObj_heap_same AL) DN h0 hf (C1.put h1 h2)) λj hj=>same true j (by simp[hj])
theorem sm(BQ:kI P ans B0 cf)(BJ:mq P ans B0 lp)(FN:iC P ans cf){i:Nat}{args:List Slot}{sto:AH}{res:ARes}{sto':AH}(e:cD P ans pr cf lp (.yld i) args sto=some (res,sto')) :
  ∃al,sto.objs[i]?=some (.loop al)/\args.length=al.params.size/\∀w Ψ J ow vs,dR ans B0 w Ψ J ow args vs sto->∀l rr,J[i]?=some l->w.heap[l]?=some (.loop rr)->∀c cs,
   dS P ans B0 w Ψ J ow sto c cs (lone (Frame.round l rr.fn ((rr.params.zip vs).foldl (λt (p,a)=>t.setIfInBounds p a) rr.tmps) rr.assign rr.body .normal) (c::cs) w) res sto':=by
 simp only[cD] at e;obtain⟨al,DU,e⟩:=kC e
 split at e
 case h_2=>cases e
 rename_i EH;obtain⟨hg,e⟩:=aA e;simp only[Ac] at hg;obtain⟨⟨⟨⟨⟨⟨g1,g2⟩,g3⟩,g4⟩,g5⟩,g6⟩,g7⟩:=hg;have hsize:args.length=al.params.size:=Aa g2;have hloi:sto.lo<=i:=Ad g1;refine⟨al,DU,hsize,λw Ψ J ow vs BL l rr hl LY c cs=>?_⟩;obtain⟨rr',OY,DN,h0,hf,C1⟩:=cg BL.objs DU hl;obtain rfl:rr=rr':=by rw[LY] at OY;exact Obj.loop.inj (Bp OY)
 obtain⟨fn,Hh⟩:=Dz.1 g6
 let b:Frame:={ (default:Frame) with fn:=rr.fn,kind:=.normal,roundOf:=some l }
 have hbfn:b.fn=al.fn:=C1.fn
 let T:=k9 rr.tmps rr.params.toList vs.toList
 have ME:Frame.round l rr.fn ((rr.params.zip vs).foldl (λt (p,a)=>t.setIfInBounds p a) rr.tmps) rr.assign rr.body .normal=b.atR ⟨T,[]⟩ [.code al.assign,.beginRound,.code al.body]:=by
  have hT:(rr.params.zip vs).foldl (λt (p,a)=>t.setIfInBounds p a) rr.tmps=T:=by
   simp only[T,k9];rw[<-Dq,Array.toList_zip]
  rw[hT,<-C1.assign,<-C1.body];rfl
 have Kd:lone (Frame.round l rr.fn ((rr.params.zip vs).foldl (λt (p,a)=>t.setIfInBounds p a) rr.tmps) rr.assign rr.body .normal) (c::cs) w=lone (b.atR ⟨T,[]⟩ [.code al.assign,.beginRound,.code al.body]) (c::cs) w:=by rw[ME]
 rw[Kd];have hTs:T.size=(ans al.fn).nt:=by rw[sJ];exact C1.size
 have hil:i<sto.objs.length:=(Ab.1 DU).1
 have TC:=zK (Ψ:=Ψ) (J:=J) rr.params.toList args vs.toList rr.tmps (by rw[C1.params];simpa using hsize) (by rw[C1.params];have:=BL.size;simp;omega) (λj s u hs hu=>by
  have hv:=As.1 g5 s (Ba hs);have Qt:=BL.args j s hs;have hvu:vs.getD j undef=u:=by simp[Ae,show vs[j]?=some u by simpa using hu]
  rw[hvu] at Qt;cases Qt with
  |val x u h=>exact⟨x,rfl,h⟩
  |_=>simp[Slot.isVal] at hv)
 have hA:At P ans al.fn B0 w Ψ J ow ⟨dB (ans al.fn).keep al.tm (al.params.toList.zip args),sto⟩ T:=by
  have FG:∀t,tlook (ans al.fn).keep (dB (ans al.fn).keep al.tm (al.params.toList.zip args)) t=.dead\/(SRel w B0 Ψ J ow T t (tlook (ans al.fn).keep (dB (ans al.fn).keep al.tm (al.params.toList.zip args)) t) (T.getD t undef)/\t<(ans al.fn).nt/\dO (tlook (ans al.fn).keep (dB (ans al.fn).keep al.tm (al.params.toList.zip args)) t)=tlook (ans al.fn).keep (dB (ans al.fn).keep al.tm (al.params.toList.zip args)) t):=λt=>by
   unfold dB;rcases lF (ans al.fn).keep al.tm (al.params.toList.zip args).reverse t with h1|h1
   ·exact .inl h1
   ·have hp:=TC t
    rw[C1.params] at hp;rw[h1];cases Gv:bU (al.params.toList.zip args).reverse t with
    |some s =>
     rw[Gv] at hp;obtain⟨x,u,rfl,hx,hm,hu⟩:=hp
     have MB:t<(ans al.fn).nt:=by
      have:=As.1 g7 t hm
      simpa[Ct] using this
     right;refine⟨?_,MB,rfl⟩
     have:T.getD t undef=u:=by simp only[T,C1.params];exact hu (by rw[C1.size];exact MB)
     rw[this];exact .val x u hx
    |none =>
     rw[Gv] at hp;simp only at hp ⊢;rcases Dh t (ans al.fn).nt with MB|MB
     ·right
      refine⟨?_,MB,ko C1.snap _ t⟩
      have:T.getD t undef=rr.tmps.getD t undef:=by simp only[T,C1.params];exact hp
      rw[this];exact aD7 (C1.slots t) (ko C1.snap _ t) zL
     ·exact .inl (C1.hi t MB)
  have hns:∀t u o,tlook (ans al.fn).keep (dB (ans al.fn).keep al.tm (al.params.toList.zip args)) t≠.ref u o:=λt u o he=>by
   rcases FG t with h1|⟨_,_,h1⟩
   ·rw[h1] at he;cases he
   ·rw[he] at h1;cases h1
  refine⟨⟨hTs,BL.wsat,λt=>?_,λd u o he=>absurd he (hns d u o),λt BT he=>?_,BL.objs,BL.lt,BL.base,λt ht=>?_⟩,?_,BL.lo⟩
  ·rcases FG t with h1|⟨h1,_,_⟩
   ·show SRel w B0 Ψ J ow T t (tlook (ans al.fn).keep (dB (ans al.fn).keep al.tm (al.params.toList.zip args)) t) _
    rw[h1];exact .dead _
   ·exact h1
  ·have HW:tlook (ans al.fn).keep (dB (ans al.fn).keep al.tm (al.params.toList.zip args)) t=.box BT:=he
   rcases FG t with h1|⟨_,_,h1⟩
   ·rw[h1] at HW;cases HW
   ·rw[HW] at h1;cases h1
  ·show tlook (ans al.fn).keep (dB (ans al.fn).keep al.tm (al.params.toList.zip args)) t=.dead
   rcases FG t with h1|⟨_,h1,_⟩
   ·exact h1
   ·omega
  ·exact noRef.commit λs hs u o he=>by have:=C1.snap s hs;rw[he] at this;cases this
 obtain⟨ex,F2,Kl,w1,Z1,J1,BO,BF,Hk,a1,a2,a3,a4,a5,a6⟩:=nU BQ BJ FN al.assign (b:=b) (cs:=c::cs) (items:=[.beginRound,.code al.body]) (fid:=al.fn) (B1:=w.heap.size) hbfn (.inr g3) hA (Marks.nil w ow w.heap.size) (Af _) e;cases ex with
 |exit=>cases Kl
 |ret=>cases Kl
 |pan=>cases Kl
 |norm =>
 simp only at Kl;obtain⟨l1,My,Kl⟩:=kC Kl
 split at Kl
 case h_2=>cases Kl
 rename_i Kf;have a1:At P ans al.fn B0 w1 Z1 J1 BO F2 BF:=a1;have Iz:J1[i]?=some l:=a4 i l hl;obtain⟨Ql,OX,O4,X6,Kk,MQ⟩:=cg a1.rel.objs My Iz
 let Se:iA:={ l1 with state:=.busy }
 have FI:=a1.rest.setLoop (l':=Se) (rr':={ Ql with state:=.busy }) My Iz OX O4 X6 Kk MQ rfl (by
  show({ Ql with state:=.busy }:Loop)={ Ql with state:=.busy,pending:=l1.pend }
  rw[<-MQ.pend])
 have M5:=run_beginRound (P:=P) OX (by rw[MQ.state];exact Kf)
 let Qa:=w1.putObj l (.loop { Ql with state:=.busy })
 have hAb:At P ans al.fn B0 Qa Z1 J1 BO { F2 with sto:=setLoop F2.sto i Se } BF :=
  ⟨⟨a1.rel.size,FI.1.wsat,λt=>(a1.rel.slots t).mono Z1.le_refl (aG _) (FI.2.2 false t (by simp)) (λ_ _ _=>rfl),a1.rel.refs,a1.rel.boxes,FI.1.objs,FI.1.lt,by have:=a1.rel.base;simpa[Qa] using this,a1.rel.hi⟩,a1.nr,by simp only[setLoop,Ft];exact a1.lo⟩
 have hM1:=a2.mono FI.2.1;obtain⟨ex,I8,GM,w2,Z2,J2,B5,B3,E5,c1,c2,c3,c4,c5,c6⟩:=nU BQ BJ FN al.body (b:=b) (cs:=c::cs) (items:=[]) (fid:=al.fn) (B1:=w.heap.size) hbfn (.inr g4) hAb hM1 (Bg a3.size FI.2.1.size) Kl
 have IV:Steps P (lone (b.atR ⟨T,[]⟩ [.code al.assign,.beginRound,.code al.body]) (c::cs) w) (lone (b.atR ⟨BF,Hk⟩ [.code al.body]) (c::cs) Qa) :=
  Steps.trans a6 (.one (stepR_beginRound (b:=b) rfl M5))
 have JA:Fr w Ψ ow w2 Z2 B5:=(a3.trans FI.2.1).trans c3;have L5:pre J J2:=dT a4 c4
 have OV:StoLe sto (setLoop F2.sto i Se):=⟨a5.lo,by simp only[setLoop,Ft];exact a5.len,λj hj=>by
  simp only[setLoop];rw[Cb,Bc (by omega)];exact a5.keep j hj⟩
 have IU:StoLe sto I8.sto:=OV.trans c5;have Jc:J.length=sto.objs.length:=BL.objs.1
 have fin:∀(jump:Option Code)(l2:iA),I8.sto.objs[i]?=some (.loop l2)->Rest ans B0 w2 Z2 J2 B5 I8.sto->res=.ret (.val (.bool jump.isNone))->sto'=cut sto.objs.length (setLoop I8.sto i { l2 with state:=if jump.isNone then .ready else .done,pend:=jump }) ->
   (∀w3,(Instr.endRound l jump).run P w2=.ok (.bool jump.isNone) w3->Steps P (lone (b.atR ⟨BF,Hk⟩ [.code al.body]) (c::cs) Qa) (lone (c.finish (.bool jump.isNone)) cs w3)) ->
   dS P ans B0 w Ψ J ow sto c cs (lone (b.atR ⟨T,[]⟩ [.code al.assign,.beginRound,.code al.body]) (c::cs) w) res sto':=λjump l2 O5 GK B6 CZ A7=>by
  have Gv:J2[i]?=some l:=c4 i l Iz;obtain⟨Wj,OW,O3,h02,hf2,TK⟩:=cg GK.objs O5 Gv
  let l3:iA:={ l2 with state:=if jump.isNone then .ready else .done,pend:=jump }
  have IY:=GK.setLoop (l':=l3) (rr':={ Wj with state:=if jump.isNone then .ready else .done,pending:=jump }) O5 Gv OW O3 h02 hf2 TK rfl rfl;have EL:=run_endRound (P:=P) jump OW;have hn:sto.objs.length<=(setLoop I8.sto i l3).objs.length:=by simp only[setLoop,Ft];exact IU.len
  subst B6 CZ;refine⟨w2.putObj l (.loop { Wj with state:=if jump.isNone then .ready else .done,pending:=jump }),Z2,J2.take sto.objs.length,B5,JA.trans IY.2.1,jN (J2:=J2) L5 Jc.symm (by rw[Fv,Nat.min_self]),IY.1.wsat,IY.1.objs.front _ hn,IY.1.lt,⟨IU.lo,?_,λj hj=>?_⟩,rfl,.bool jump.isNone,.val _ _ (.bool _),IV.trans (A7 _ EL)⟩
  ·show sto.objs.length<=((setLoop I8.sto i l3).objs.take sto.objs.length).length
   rw[Dw];omega
  ·show((setLoop I8.sto i l3).objs.take sto.objs.length)[j]?=_
   rw[Bh,Bu (by omega)];simp only[setLoop];rw[Cb,Bc (by omega)];exact IU.keep j hj
 cases ex with
 |norm =>
  simp only at GM;obtain⟨l2,L7,GM⟩:=kC GM;simp only[Al,Bz] at GM;exact fin none l2 L7 (AtE.rest c1) GM.1.symm GM.2.symm λw3 EL=>Steps.trans c6 (.one (stepR_round_end (b:=b) rfl rfl EL))
 |ret =>
  simp only at GM;obtain⟨l2,L7,GM⟩:=kC GM;simp only[Al,Bz] at GM;obtain⟨k,hk⟩:=c6;exact fin (some .ret) l2 L7 (AtE.rest c1) GM.1.symm GM.2.symm λw3 EL=>hk.trans (.one (stepR_round_ret (b:=b) rfl rfl EL))
 |exit id =>
  simp only at GM;obtain⟨l2,L7,GM⟩:=kC GM;simp only[Al,Bz] at GM;obtain⟨k,hx,hk⟩:=c6;exact fin (some (.exit id)) l2 L7 (AtE.rest c1) GM.1.symm GM.2.symm λw3 EL=>hk.trans (.one (stepR_round_exit (b:=b) rfl rfl hx EL))
 |pan x =>
  simp only[Al,Bz] at GM;obtain⟨rfl,rfl⟩:=GM;obtain⟨v,k,hv,hs⟩:=c6;obtain⟨w3,p1,p2,p3,p4,p5,p6⟩:=rL (P:=P) (cs:=c::cs) (fr:={ b.atR ⟨B3,E5⟩ k with mode:=.panicking [{ v,recovered:=false }] }) c2 (by simp) rfl;have Hy:=Rest.kept c1 p2 p3;refine⟨w3,Z2,J2,B5,JA.kept (Af _) p2 p3 p4 p5 p6,L5,Hy.wsat,Hy.objs,Hy.lt,IU,v,hv,(IV.trans (hs.trans p1)).trans (.one (step_leave_panicked ⟨rfl,rfl,fn,?_⟩))⟩;show P.funcs[rr.fn]?=some fn;rw[C1.fn];exact Hh
structure Env (P:Program) (ans:FuncId->AF) (B0:Nat) (pr:fY):Prop where
 prim:∀f args res,pr f args=some (some res)->(∃F,P.funcs[f]?=some F/\F.body.isSome=true)/\∀sto w Ψ J ow vs,dR ans B0 w Ψ J ow args vs sto->∀c cs,dS P ans B0 w Ψ J ow sto c cs (lone (Frame.enter P f vs .normal) (c::cs) w) res sto
 names:∀(f:Nat)(F:Func),P.funcs[f]?=some F->F.body.isSome=true->F.name≠ "runtime.NumGoroutine"
 drawn:∀cf,eU ans cf->iC P ans cf
theorem fq(E:Env P ans B0 pr)(BQ:kI P ans B0 cf)(BJ:mq P ans B0 lp)(DB:eU ans cf):kI P ans B0 (cD P ans pr cf lp) where
 fn:=λf args sto res sto' e=>by
  cases Gs:pr f args with
  |some o =>
   cases o with
   |none=>simp[cD,Gs] at e
   |some r0 =>
    simp only[cD,Gs,Aq,Ap] at e;obtain⟨s0,Gr,he⟩:=e;cases r0 with
    |pan v=>cases Gr
    |ret s =>
    obtain⟨_,Gr⟩:=aA Gr;cases Gr;cases he;obtain⟨⟨F,h1,h2⟩,h3⟩:=E.prim _ _ _ Gs;exact⟨⟨F,h1,h2,E.names _ _ h1 h2⟩,λw Ψ J ow vs hp c cs=>h3 sto w Ψ J ow vs hp c cs⟩
  |none =>
   obtain⟨⟨F,h1,h2⟩,h3⟩:=y8 BQ BJ (E.drawn cf DB) Gs e;exact⟨⟨F,h1,h2,E.names _ _ h1 h2⟩,λw Ψ J ow vs hp c cs=>(h3 w Ψ J ow vs hp (c::cs)).post⟩
 yld:=λi args sto res sto' e=>sm BQ BJ (E.drawn cf DB) e
theorem wX:∀n,eU ans (run P ans pr n).1
 |0=>λf args _=>⟨none,by simp,λsto=>rfl⟩
 |n+1=>λf args h=>by
  cases hp:pr f args with
  |none=>exact⟨none,by simp,λsto=>by simp[run,cD,hp,h]⟩
  |some o =>
   refine⟨o.bind cy,λs hs=>?_,λsto=>by simp[run,cD,hp]⟩;obtain⟨r,_,hs⟩:=aH hs;cases r with
   |pan v=>cases hs
   |ret s'=>obtain⟨hg,hs⟩:=aA hs;cases hs;exact hg
theorem wW(E:Env P ans B0 pr):∀n,kI P ans B0 (run P ans pr n).1/\mq P ans B0 (run P ans pr n).2
 |0=>⟨⟨λf args sto res sto' e=>by simp[run] at e,λi args sto res sto' e=>by simp[run] at e⟩,λfid c st e AY h=>by simp[run] at h⟩
 |n+1=>by
  obtain⟨h1,h2⟩:=wW E n;exact⟨fq E h1 h2 (wX n),jo h1 h2 (E.drawn _ (wX n))⟩
theorem aAN(E:Env P ans B0 pr){n:Nat}{f:FuncId}{args:List Slot}{sto:AH}{res:ARes}{sto':AH}(Gs:pr f args=none)(e:(run P ans pr (n+1)).1 (.fn f) args sto=some (res,sto')){vs:Array Value}(BL:dR ans B0 w Ψ J ow args vs sto) :
  Calls P f vs w λe w'=>∃Z' J' AQ,Fr w Ψ ow w' Z' AQ/\WSat Z' w'/\match res with
   |.ret s=>∃v,e=.returned v/\SRel w' B0 Z' J' AQ #[] 0 s v
   |.pan x=>∃v,e=.panicked [{ v,recovered:=false }]/\VRel Z' J' x v:=by
 intro cs;obtain⟨h1,h2⟩:=wW E n;obtain⟨w',Z',J',AQ,fr,a1,a2,a3,a4,a5,a6,a7,a8,a9⟩:=(y8 h1 h2 (E.drawn _ (wX n)) Gs e).2 w Ψ J ow vs BL cs;cases res with
 |ret s =>
  obtain⟨_,v,hs,hl⟩:=a9;exact⟨.returned v,w',fr,⟨Z',J',AQ,a1,a3,v,rfl,hs⟩,a7,a8,hl⟩
 |pan x =>
  obtain⟨v,hs,hl⟩:=a9;exact⟨.panicked _,w',fr,⟨Z',J',AQ,a1,a3,v,rfl,hs⟩,a7,a8,hl⟩
end
end Go.AM
