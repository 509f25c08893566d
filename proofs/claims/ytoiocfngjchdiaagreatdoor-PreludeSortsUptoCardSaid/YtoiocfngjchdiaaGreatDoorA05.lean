import Derived.Test.YtoiocfngjchdiaaGreatDoorA04
set_option linter.all false
namespace Go.AM
section
variable {P:Program}{ans:FuncId->AF}{w:World}{B0:Nat}{Ψ:HT}{J:List Nat}{ow:Own}{tmps:Array Value}
variable {ds:List Deferred}{cf:aI}{lp:aO}{fid:FuncId}{B1:Nat}{b:Frame}{cs:List Frame}{items:List Item}{st:St}
def gU(P:Program)(ans:FuncId->AF)(cf:aI):Prop :=
 P.follows .mixedOrders=true/\∀(R:Type)(fid:FuncId)(tm:List Slot)(rid:Nat)(ops:Array Oper)(kn:RS->Option R)(rs:RS)(r:R),pB ans (ans fid) rid ops=true->MW ans (ans fid) rid ops=true->ij tm->rs.sc=[] ->
  (∀rs1 rs2:RS,(∀t,bV rs1.sc t=bV rs2.sc t)->rs1.sto=rs2.sto->kn rs1=kn rs2)->gF P ans (ans fid) true cf tm rid ops (λ_ _=>none) kn (List.range ops.size) rs=some r ->
  ∀t,gF P ans (ans fid) true cf tm rid ops (λ_ _=>none) kn (Region.linearise .any ops t) rs=some r
def e7(ans:FuncId->AF)(cf:aI):Prop:=∀f args,(ans f).jx=true->∃o:Option Slot,(∀s,o=some s->cF 0 s=true)/\∀sto,cf (.fn f) args sto=o.map λs=>(.ret s,sto)
theorem lG(sc TN:List (Nat×Slot))(h:∀t,bV sc t=bV TN t):∀(ks:List Nat)(tm:List Slot),ed ks tm sc=ed ks tm TN
 |[],tm=>by cases tm<;>rfl
 |k::ks,[]=>rfl
 |k::ks,s::ss=>by simp only[ed,h k,lG sc TN h ks ss]
theorem At.world{w1:World}(h:At P ans fid B0 w Ψ J ow st tmps)(e:w1.heap=w.heap):At P ans fid B0 w1 Ψ J ow st tmps:=⟨h.rel.heap e,h.nr,h.lo⟩
theorem mj.out{sto:AH}{HA:List Item}{m:Machine}{e:bG}{AY:St}(h:mj P ans fid B0 B1 w Ψ J ow sto b cs HA m e AY)(he:e≠.norm)(hx:∀id,e=.exit id->exitTo id HA=exitTo id items):mj P ans fid B0 B1 w Ψ J ow sto b cs items m e AY:=by
 obtain⟨w',Z',J',AO,tmps',DQ,h1,h2,h3,h4,h5,h6⟩:=h;refine⟨w',Z',J',AO,tmps',DQ,h1,h2,h3,h4,h5,?_⟩;cases e with
 |norm=>exact absurd rfl he
 |exit id=>obtain⟨k,a1,a2⟩:=h6;exact⟨k,a1.trans (hx id rfl),a2⟩
 |ret=>exact h6
 |be x=>exact h6
def aPJ(P:Program)(ans:FuncId->AF)(fid:FuncId)(B0 B1:Nat)(w:World)(Ψ:HT)(J:List Nat)(ow:Own)(st:St)(b:Frame)(cs:List Frame)(m:Machine)(tmps:Array Value)(x:ae)(AY:St):Prop :=
 ∃sto' s0 w' Z' J' AO DQ,AY={ st with sto:=sto' }/\Rel P ans B0 w' Z' J' AO (ans fid) (sl (ans fid) st.tm ⟨[],s0⟩) tmps sto'.objs/\Marks w' AO B1 b DQ/\Fr w Ψ ow w' Z' AO/\pre J J'/\gr st.sto sto' /\
  ∃v k,am Z' J' x v/\Steps P m (lone { b.atR ⟨tmps,DQ⟩ k with mode:=.panicking [{ v,recovered:=false }] } cs w')
theorem a7W(BO:kC P ans B0 cf){R:Type}{r:R}{K:bG->St->Option R}{f:Operand}{params:Array Tmp}{assign body:Code}(hb:b.fn=fid)(DI:b.roundOf=none)(h:At P ans fid B0 w Ψ J ow st tmps)(hm:Marks w ow B1 b ds)(hB:B1<=w.heap.size)
  (e:XK P ans cf lp fid (.rangeFunc f params assign body) st K=some r):∃ex AY,K ex AY=some r/\mj P ans fid B0 B1 w Ψ J ow st.sto b cs items (lone (b.atR ⟨tmps,ds⟩ (.code (.rangeFunc f params assign body)::items)) cs w) ex AY/\∀x,ex=.be x->aPJ P ans fid B0 B1 w Ψ J ow st b cs (lone (b.atR ⟨tmps,ds⟩ (.code (.rangeFunc f params assign body)::items)) cs w) tmps x AY:=by
 simp only[XK] at e
 split at e
 case h_2=>cases e
 rename_i g caps hf;obtain⟨⟨res,sto'⟩,hc,e⟩:=aH e;obtain⟨a2u,Ip,_⟩:=bH (ds:=ds) h.rel f;rw[hf] at Ip;generalize EZ:(⟨tmps,ds⟩:Act).eval f=vf at Ip;cases Ip with
 |val _ _ hv =>
 cases hv with
 |func _ _ cv BQ Iw =>
 let MS:Loop:={ state:=.ready,pending:=none,fn:=b.fn,tmps:=tmps,params:=params,assign:=assign,body:=body,defers:=w.heap.size }
 let w1:=w.alloc (.deferred (some []))
 let w2:=w1.alloc (.loop MS)
 let n:=st.sto.objs.length
 let l:=w.heap.size+1
 let al:iU:=⟨fid,st.tm.map dU,params,assign,body,none,.ready⟩
 have xe:w1.heap.size=w.heap.size+1:=by simp[w1]
 have q_:oset ow w.heap.size none=ow:=by
  funext b;unfold oset;split
  ·subst_vars
   cases e1:ow w.heap.size with
   |none=>rfl
   |some y=>have:=h.rel.lt w.heap.size (by simp[e1]);omega
  ·rfl
 have P6:=h.rel.alloc (o:=.deferred (some [])) (τ:=λ_=>none) (id:=none) (λoff c hc=>by cases hc);have Jb:=Fr.alloc (ow:=ow) (o:=.deferred (some [])) (τ:=λ_=>none) (id:=none) h.rel.b_;rw[rY h.rel.b_,q_] at P6 Jb
 change Rel P ans B0 w1 Ψ J ow (ans fid) _ tmps st.sto.objs at P6
 change Fr w Ψ ow w1 Ψ ow at Jb
 have JM:J.length=n:=h.rel.objs.1
 have ER:m6 w2 B0 Ψ (J++[w1.heap.size]) (oset ow w1.heap.size (some (true,n,0))) ans n (.loop al) w1.heap.size:=by
  refine .loop al _ MS (heap_alloc_new _) (by simp[oset]) P6.base (P6.b_.vO (Ae _)) ⟨rfl,rfl,hb,rfl,rfl,rfl,h.rel.size,λt=>?_,λs hs=>?_,λt ht=>?_⟩
  ·show bX w2 0 Ψ _ _ tmps t (bg (ans fid).keep (st.tm.map dU) t) (tmps.getD t undef)
   rw[sQ _ rfl];refine(h.rel.dr t).snap Ψ.le_refl ?_;rw[Bz (by simp[JM])];exact eD _ _
  ·obtain⟨s0,_,rfl⟩:=Cn.1 hs;exact aBF s0
  ·show bg (ans fid).keep (st.tm.map dU) t=.dead
   rw[sQ _ rfl]
   have:=h.rel.hi t ht
   rw[show bg (ans fid).keep st.tm t=.dead from this];rfl
 obtain⟨P5,NB⟩:=a0h (ob:=.loop al) (o:=.loop MS) P6 ow (λb hb=>hb) (λkk i _=>e_.refl _ _ _ _ _) ER
 change Rel P ans B0 w2 Ψ (J++[w1.heap.size]) _ (ans fid) _ tmps (st.sto.objs++[ai.loop al]) at P5
 change Fr w1 Ψ ow w2 Ψ _ at NB
 rw[xe] at P5 NB;have Nh:Fr w Ψ ow w2 Ψ (oset ow l (some (true,n,0))):=Jb.trans NB
 let Gy:AH:={ st.sto with objs:=st.sto.objs++[.loop al] }
 let CG:=oset ow l (some (true,n,0))
 have LW:Rel P ans B0 w2 Ψ (J++[l]) CG (ans fid) (sl (ans fid) st.tm ⟨[],Gy⟩) tmps Gy.objs:=P5;have ru:(J++[l])[n]?=some l:=by rw[Bm (by rw[JM];exact Ae _)];simp[JM]
 have BM:=uN (ds:=ds) LW Gy rfl (by show st.sto.lo<=(st.sto.objs++[ai.loop al]).length;have:=h.lo;simp;omega) (l:=[.val (.bN n)]) (xs:=[.const (.func (.yield l) #[] #[])]) rfl (by simp[Slot.free])
  (λj s x hj hx=>by
   cases j with
   |zero=>simp at hj hx;subst hj;subst hx;exact .val _ _ (.bN n l ru)
   |succ j=>simp at hj) BQ (λi c v h1 h2=>(Iw i c v h1 h2).mono Ψ.le_refl (eD _ _))
 let mk:List Deferred:=[{ target:=.collected w.heap.size,args:=#[] }]
 let fr:Frame:=b.atR ⟨tmps,mk++ds⟩ (.inRangeFunc l::items)
 obtain⟨F,a45,a44,a43⟩:=(BO.fn _ _ _ _ _ hc).1;obtain⟨w',Z',J',D5,Ug,DJ,hwc,hoc,a4V,IZ,B7⟩:=(BO.fn _ _ _ _ _ hc).2 w2 Ψ (J++[l]) _ _ BM fr cs;obtain⟨Kc,LX⟩:=vQ LW Ug DJ hwc DJ hoc a4V
 have BW:step P (lone (b.atR ⟨tmps,ds⟩ (.code (.rangeFunc f params assign body)::items)) cs w)=.next (lone (Frame.enter P g ⟨[.func (.yield l) #[] #[]]++cv⟩ .normal) (fr::cs) w2):=by
  obtain⟨a0r,G9⟩:=Ec.1 a44;refine stepR_rangeFunc (a:=⟨tmps,ds⟩) (l:=l) (mark:=mk) (w₁:=w2) (w₁':=w2) (d:=⟨.fn (.func g) ⟨cv⟩,#[.func (.yield l) #[] #[]]⟩) ?_ ?_ ?_
  ·rw[DI,run_enterLoop_outer]
  ·simp[resolve,EZ,Deferred.ofValue,rangeCall];rfl
  ·simp[invoke,callFunc,a45,a43,G9]
 have hmarks:Marks w' (eZ (ans fid).nt CG D5) B1 b (mk++ds):=by
  obtain⟨ms,U6,hm⟩:=hm;refine⟨mk++ms,by rw[U6,Aj],?_⟩
  have h2:oM w2 CG B1 (mk++ms):=by
   have h1:oM w2 CG B1 ms:=hm.mono Nh;refine⟨λd hd=>?_,?_⟩
   ·rcases Bk.1 hd with hd|hd
    ·simp only[mk,Ct] at hd
     subst hd;refine⟨w.heap.size,rfl,?_,?_,hB⟩
     ·exact(heap_alloc_old _ (by rw[xe];omega)).trans (heap_alloc_new _)
     ·show oset ow l _ w.heap.size=none
      unfold oset;rw[Bf (by show ¬w.heap.size=w.heap.size+1;omega)];cases e1:ow w.heap.size with
      |none=>rfl
      |some y=>have:=h.rel.lt w.heap.size (by simp[e1]);omega
    ·exact h1.all d hd
   ·refine Dh.2 ⟨by simp[mk],h1.nodup,λd hd d' Nb he=>?_⟩
    simp only[mk,Ct] at hd;subst hd;obtain⟨D,g1,g2,_⟩:=hm.all d' Nb;rw[g1] at he
    have:=(An.1 g2).1
    cases he;omega
  exact h2.mono LX
 cases res with
 |be x =>
  obtain⟨v,hv,C1⟩:=B7
  have FC:gr st.sto sto':=⟨IZ.lo,by have:=IZ.len;simp[Gy] at this;show st.sto.objs.length<=sto'.objs.length;omega,λi hi=>by
   rw[IZ.keep i hi];show(st.sto.objs++[ai.loop al])[i]?=_;rw[Az (by have:=h.lo;omega)]⟩
  refine⟨.be x,{ st with sto:=sto' },e,⟨w',Z',J',_,tmps,mk++ds,⟨Kc.b_,Kc.objs,Kc.lt⟩,hmarks,Nh.trans LX,dF (eD _ _) DJ,FC,v,_,hv,(Steps.one BW).trans C1⟩,λy hy=>?_⟩;cases hy;exact⟨sto',_,w',Z',J',_,mk++ds,rfl,Kc,hmarks,Nh.trans LX,dF (eD _ _) DJ,FC,v,_,hv,(Steps.one BW).trans C1⟩
 |ret s =>
  obtain⟨_,v,_,C1⟩:=B7;simp only at e
  split at e
  case h_2=>cases e
  rename_i Ys My;obtain⟨bl,Mv,Ly⟩:=Kc.objs.2 n _ My
  have LU:bl=l:=by
   have:=DJ n l ru
   rw[Mv] at this;exact Bp this
  subst LU;cases Ly with
  |loop _ _ rr Lt w6 h00 K9 CW =>
  have fin:∀(jump:Option Code)(ex:bG),Ys.state≠.busy->Ys.pend=jump->K ex { st with sto:={ sto' with objs:=sto'.objs.take n } }=some r ->
    (∀(w3:World),tU P Z' J b cs items (lone (b.atR ⟨tmps,mk++ds⟩ ((jump.map Item.code).toList++items)) cs w3) tmps (mk++ds) w3 ex)->(∀x,ex≠.be x) ->
    ∃ex AY,K ex AY=some r/\mj P ans fid B0 B1 w Ψ J ow st.sto b cs items (lone (b.atR ⟨tmps,ds⟩ (.code (.rangeFunc f params assign body)::items)) cs w) ex AY/\∀x,ex=.be x->aPJ P ans fid B0 B1 w Ψ J ow st b cs (lone (b.atR ⟨tmps,ds⟩ (.code (.rangeFunc f params assign body)::items)) cs w) tmps x AY:=λjump ex a4u a4C hK DO Rl=>by
   let w3:=w'.putObj l (.loop { rr with state:=.exhausted })
   have ET:(Instr.endLoop l).run P w'=.ok jump w3:=by
    rw[show jump=rr.pending by rw[CW.pend,a4C]];exact run_endLoop Lt (by rw[CW.state];exact a4u)
   have a4n:=stepR_endRangeFunc (P:=P) (b:=b) (a:=⟨tmps,mk++ds⟩) (k:=items) (cs:=cs) ET;have a8t:J'.length=sto'.objs.length:=Kc.objs.1;have J8:n+1<=sto'.objs.length:=by have:=IZ.len;simp[Gy] at this;exact this
   have hpJ:pre J J':=dF (eD _ _) DJ;have a5Z:J'.take n=J:=by rw[j7 hpJ (by omega),Bz (by omega)]
   have K4:=Kc.objs.front n (by omega);rw[a5Z] at K4
   have same:∀kk i,¬(kk=true/\i=n)->e_ w' Z' (eZ (ans fid).nt CG D5) w3 Z' (eZ (ans fid).nt CG D5) kk i kk i:=λkk i hk b' s BC =>
    ⟨BC,World.putObj_heap_other (λe=>by subst e;rw[w6] at BC;simp only[Am,Bq] at BC;exact hk ⟨BC.1.symm,BC.2.1.symm⟩),λ_ h=>h⟩
   have PN:∀x,eZ (ans fid).nt CG D5 x≠none->x<w3.heap.size:=λx hx=>by
    have:=Kc.lt x hx
    simpa[w3] using this
   have hR4:Rel P ans B0 w3 Z' J (eZ (ans fid).nt CG D5) (ans fid) (sl (ans fid) st.tm ⟨[],{ sto' with objs:=sto'.objs.take n }⟩) tmps (sto'.objs.take n):=by
    refine⟨h.rel.size,Kc.b_.put K9,λu=>?_,h.rel.refs,h.rel.boxes,?_,PN,by have:=Kc.base;simpa[w3] using this,h.rel.hi⟩
    ·have hF:Fr w Ψ ow w' Z' (eZ (ans fid).nt CG D5):=Nh.trans LX
     have FC:=h.rel.dr u;rcases Dl u (ans fid).nt with hu|hu
     ·refine FC.mono hF.le (aG _) (λb' s BC=>?_) (λ_ _ _=>rfl)
      have MI:CG b'=some (false,u,s):=by
       have AL:=h.rel.lt b' (by simp[BC]);show oset ow l _ b'=_;unfold oset;rw[Bf (by show ¬b'=w.heap.size+1;omega)];exact BC
      have LU:=h.rel.lt b' (by simp[BC]);have a4w:b'<w2.heap.size:=Bt LU Nh.size
      have HI:qR (ans fid).nt CG b'=none:=by
       simp only[qR,MI];rw[Bf (by omega)]
      have Mb:D5 b'=none:=by
       cases e2:D5 b' with
       |none=>rfl
       |some x=>rcases Ug.own b' (by simp[e2]) with h5|h5
                ·exact absurd HI h5
                ·omega
      have hk:=Ug.keep b' a4w HI;have a4O:b'≠l:=by show b'≠w.heap.size+1;omega
      refine⟨by simp[eZ,Mb,MI,hu],?_,λo ho=>?_⟩
      ·rw[show w3.heap[b']?=w'.heap[b']? from World.putObj_heap_other a4O,hk.1]
       exact(heap_alloc_old _ (by rw[xe];omega)).trans (heap_alloc_old _ LU)
      ·rw[hk.2 o];exact ho
     ·show bX w3 B0 Z' J (eZ (ans fid).nt CG D5) tmps u (sl (ans fid) st.tm ⟨[],st.sto⟩ u) (tmps.getD u undef)
      rw[h.rel.hi u hu];exact .dead _
    ·exact K4.mono Z'.le_refl λi hi=>same true i (by simp at hi;simp;omega)
   have P7:Fr w' Z' (eZ (ans fid).nt CG D5) w3 Z' (eZ (ans fid).nt CG D5):=Fr.put (by simp[w6]) (λ_ h=>h)
   have a41:r9 P ans fid B0 w3 Z' J (eZ (ans fid).nt CG D5) { st with sto:={ sto' with objs:=sto'.objs.take n } } tmps ex:=by
    have hA:At P ans fid B0 w3 Z' J (eZ (ans fid).nt CG D5) { st with sto:={ sto' with objs:=sto'.objs.take n } } tmps:=⟨hR4,h.nr,by
     show sto'.lo<=(sto'.objs.take n).length;have h1:=IZ.lo;have h2:=h.lo;rw[Dz,show min n sto'.objs.length=n by omega,h1];exact h2⟩
    cases ex with
    |be x=>exact absurd rfl (Rl x)
    |norm=>exact hA
    |exit=>exact hA
    |ret=>exact hA
   refine⟨ex,_,hK,⟨w3,Z',J,_,tmps,mk++ds,a41,hmarks.mono P7,(Nh.trans LX).trans P7,aG _,⟨IZ.lo,by simp;omega,λi hi=>?_⟩,?_⟩,λx hx=>absurd hx (Rl x)⟩
   ·show(sto'.objs.take n)[i]?=_
    have:=h.lo
    rw[Bl,Br (by omega),IZ.keep i hi];show(st.sto.objs++[ai.loop al])[i]?=_;rw[Az (by omega)]
   ·refine(DO w3).head ((Steps.one BW).trans (C1.trans ?_))
    rw[show fr.finish v=b.atR ⟨tmps,mk++ds⟩ (.endRangeFunc l::items) from finish_atR_inRangeFunc l v];exact .one a4n
  split at e
  ·rename_i hs hp
   exact fin none .norm (by rw[hs];simp) hp e (λw3=>Steps.refl _ _) (by simp)
  ·rename_i hs hp
   exact fin (some .ret) .ret (by rw[hs];simp) hp e (λw3=>⟨items,Steps.refl _ _⟩) (by simp)
  ·rename_i id hs hp
   exact fin (some (.exit id)) (.exit id) (by rw[hs];simp) hp e (λw3=>⟨items,rfl,Steps.refl _ _⟩) (by simp)
  ·cases e
theorem a5A(BO:kC P ans B0 cf){R:Type}{r:R}{K:bG->St->Option R}{f:Operand}{params:Array Tmp}{assign body:Code}(hb:b.fn=fid)(DI:b.roundOf=none)(h:At P ans fid B0 w Ψ J ow st tmps)(hm:Marks w ow B1 b ds)(hB:B1<=w.heap.size)
  (e:XK P ans cf lp fid (.rangeFunc f params assign body) st K=some r):∃ex AY,K ex AY=some r/\mj P ans fid B0 B1 w Ψ J ow st.sto b cs items (lone (b.atR ⟨tmps,ds⟩ (.code (.rangeFunc f params assign body)::items)) cs w) ex AY:=by
 obtain⟨ex,AY,h1,h2,_⟩:=a7W (items:=items) (cs:=cs) BO hb DI h hm hB e;exact⟨ex,AY,h1,h2⟩
theorem oL(BO:kC P ans B0 cf)(BJ:qx P ans B0 lp)(E0:gU P ans cf){R:Type}{r:R}:∀(c:Code){K:bG->St->Option R}{st:St}{w:World}{Ψ:HT}{J:List Nat}{ow:Own}{tmps:Array Value}{ds:List Deferred}{items:List Item},b.fn=fid->(b.roundOf=none\/b8 c=true)->At P ans fid B0 w Ψ J ow st tmps->Marks w ow B1 b ds->B1<=w.heap.size ->
  XK P ans cf lp fid c st K=some r->∃e AY,K e AY=some r/\mj P ans fid B0 B1 w Ψ J ow st.sto b cs items (lone (b.atR ⟨tmps,ds⟩ (.code c::items)) cs w) e AY
 |.skip,K,st,w,Ψ,J,ow,tmps,ds,items,hb,hr,h,hm,hB,e=>⟨.norm,st,e,w,Ψ,J,ow,tmps,ds,h,hm,Fr.refl _ _ _,aG _,gr.refl _,.one stepR_skip⟩
 |.label l,K,st,w,Ψ,J,ow,tmps,ds,items,hb,hr,h,hm,hB,e=>⟨.norm,st,e,w,Ψ,J,ow,tmps,ds,h,hm,Fr.refl _ _ _,aG _,gr.refl _,.one stepR_label⟩
 |.exit id,K,st,w,Ψ,J,ow,tmps,ds,items,hb,hr,h,hm,hB,e=>⟨.exit id,st,e,w,Ψ,J,ow,tmps,ds,h,hm,Fr.refl _ _ _,aG _,gr.refl _,items,rfl,Steps.refl _ _⟩
 |.ret,K,st,w,Ψ,J,ow,tmps,ds,items,hb,hr,h,hm,hB,e=>⟨.ret,st,e,w,Ψ,J,ow,tmps,ds,h,hm,Fr.refl _ _ _,aG _,gr.refl _,items,Steps.refl _ _⟩
 |.seq x y,K,st,w,Ψ,J,ow,tmps,ds,items,hb,hr,h,hm,hB,e=>by
  simp only[XK] at e;have xb:b.roundOf=none\/b8 x=true:=hr.imp id λh=>by simp only[b8,Ac] at h;exact h.1
  have xc:b.roundOf=none\/b8 y=true:=hr.imp id λh=>by simp only[b8,Ac] at h;exact h.2
  obtain⟨e1,GK,h1,hx⟩:=oL BO BJ E0 x (items:=.code y::items) hb xb h hm hB e;have hx:=hx.head (.one stepR_seq);cases e1 with
  |norm =>
   obtain⟨w1,Z1,J1,BR,BF,I9,a1,a2,a3,a4,a5,a6⟩:=hx;obtain⟨e2,JC,h2,hy⟩:=oL BO BJ E0 y (items:=items) hb xc a1 a2 (Bi hB a3.size) h1;exact⟨e2,JC,h2,(hy.pre a3 a4 a5).head a6⟩
  |exit id=>exact⟨_,_,h1,hx.out (by simp) (λDC _=>rfl)⟩
  |ret=>exact⟨_,_,h1,hx.out (by simp) (λDC _=>rfl)⟩
  |be v=>exact⟨_,_,h1,hx.out (by simp) (λDC _=>rfl)⟩
 |.cond c x y,K,st,w,Ψ,J,ow,tmps,ds,items,hb,hr,h,hm,hB,e=>by
  simp only[XK] at e;obtain⟨a7i,IZ,_⟩:=bH (ds:=ds) h.rel c;obtain⟨t,e,hv,_⟩:=a3M IZ e;have xb:b.roundOf=none\/b8 x=true:=hr.imp id λh=>by simp only[b8,Ac] at h;exact h.1
  have xc:b.roundOf=none\/b8 y=true:=hr.imp id λh=>by simp only[b8,Ac] at h;exact h.2
  have hs:=stepR_cond (P:=P) (b:=b) (a:=⟨tmps,ds⟩) (k:=items) (cs:=cs) (w:=w) (x:=x) (y:=y) hv;cases t with
  |true =>
   obtain⟨e2,JC,h2,hy⟩:=oL BO BJ E0 x (items:=items) hb xb h hm hB e;exact⟨e2,JC,h2,hy.head (.one hs)⟩
  |false =>
   obtain⟨e2,JC,h2,hy⟩:=oL BO BJ E0 y (items:=items) hb xc h hm hB e;exact⟨e2,JC,h2,hy.head (.one hs)⟩
 |.block id c,K,st,w,Ψ,J,ow,tmps,ds,items,hb,hr,h,hm,hB,e=>by
  simp only[XK] at e;have up:b.roundOf=none\/b8 c=true:=hr.imp (λh=>h) λh=>by simpa only[b8] using h
  obtain⟨e1,GK,h1,hx⟩:=oL BO BJ E0 c (items:=.inBlock id::items) hb up h hm hB e;have hx:=hx.head (.one stepR_block);cases e1 with
  |norm =>
   obtain⟨w1,Z1,J1,BR,BF,I9,a1,a2,a3,a4,a5,a6⟩:=hx;exact⟨.norm,GK,h1,w1,Z1,J1,BR,BF,I9,a1,a2,a3,a4,a5,Steps.trans a6 (.one stepR_inBlock)⟩
  |exit DC =>
   simp only at h1;cases MC:Nat.beq DC id with
   |true =>
    rw[MC] at h1;have a40:=Aa MC;subst a40;obtain⟨w1,Z1,J1,BR,BF,I9,a1,a2,a3,a4,a5,k,a6,a7⟩:=hx;refine⟨.norm,GK,h1,w1,Z1,J1,BR,BF,I9,a1,a2,a3,a4,a5,Steps.trans a7 (.one (stepR_exit ?_))⟩;rw[a6];simp[exitTo]
   |false =>
    rw[MC] at h1;refine⟨_,_,h1,hx.out (by simp) (λid2 he=>?_)⟩;cases he
    have:¬id=DC:=λh=>by subst h;rw[show Nat.beq id id=true from Ci id] at MC;cases MC
    simp[exitTo,this]
  |ret=>exact⟨_,_,h1,hx.out (by simp) (λDC he=>by cases he)⟩
  |be v=>exact⟨_,_,h1,hx.out (by simp) (λDC he=>by cases he)⟩
 |.scope c,K,st,w,Ψ,J,ow,tmps,ds,items,hb,hr,h,hm,hB,e=>by
  simp only[XK] at e;have up:b.roundOf=none\/b8 c=true:=hr.imp (λh=>h) λh=>by simpa only[b8] using h
  obtain⟨e1,GK,h1,hx⟩:=oL BO BJ E0 c (items:=.inScope c::items) hb up h hm hB e;have hx:=hx.head (.one nM);cases e1 with
  |norm =>
   obtain⟨w1,Z1,J1,BR,BF,I9,a1,a2,a3,a4,a5,a6⟩:=hx;exact⟨.norm,GK,h1,w1,Z1,J1,BR,BF,I9,a1,a2,a3,a4,a5,Steps.trans a6 (.one kG)⟩
  |exit DC=>exact⟨_,_,h1,hx.out (by simp) (λDC _=>rfl)⟩
  |ret=>exact⟨_,_,h1,hx.out (by simp) (λDC he=>by cases he)⟩
  |be v=>exact⟨_,_,h1,hx.out (by simp) (λDC he=>by cases he)⟩
 |.loop c,K,st,w,Ψ,J,ow,tmps,ds,items,hb,hr,h,hm,hB,e=>by
  simp only[XK] at e;obtain⟨⟨e1,GK⟩,hl,e⟩:=aH e;have up:b.roundOf=none\/b8 c=true:=hr.imp (λh=>h) λh=>by simpa only[b8] using h
  obtain⟨hA,hs⟩:=h.head c
  have:=BJ _ _ _ _ _ hl B1 w Ψ J ow tmps ds b cs items hb up hA hm hB
  rw[hs] at this;exact⟨e1,GK,e,this.head (.one stepR_loop)⟩
 |.region id ops false,K,st,w,Ψ,J,ow,tmps,ds,items,hb,hr,h,hm,hB,e=>by
  simp only[XK] at e;rw[lP] at e;rcases n8 (ds:=ds) (b:=b) (items:=items) (cs:=cs) BO h.nr (rs:=⟨[],st.sto⟩) h.rel h.lo e with⟨rs',w',Z',J',AO,tmps',a1,a2,a3,a4,a5,a6⟩|⟨x,rs',v,w',Z',J',AO,tmps',DF,a1,a2,a3,a4,a5,a6,a7⟩
  ·exact⟨.norm,_,a1,w',Z',J',AO,tmps',ds,At.ed h.nr a2 (by rw[a5.lo];exact Bi h.lo a5.len) rfl,hm.mono a3,a3,a4,a5,(Steps.one stepR_region).trans (a6.trans (.one stepR_region_end))⟩
  ·exact⟨.be x,_,a1,w',Z',J',AO,tmps',ds,⟨a2.b_,a2.objs,a2.lt⟩,hm.mono a4,a4,a5,a6,v,DF,a3,(Steps.one stepR_region).trans a7⟩
 |.region id ops true,K,st,w,Ψ,J,ow,tmps,ds,items,hb,hr,h,hm,hB,e=>by
  simp only[XK] at e;obtain⟨hg,e⟩:=aB e;simp only[Ac] at hg;rw[lP] at e;have e:=E0.2 R fid st.tm id ops _ ⟨[],st.sto⟩ r hg.1 hg.2 h.nr rfl (λrs1 rs2 h1 h2=>by rw[lG _ _ h1,h2]) e (w.tape w.drawn (.order b.fn id));rw[show Region.linearise .any ops (w.tape w.drawn (.order b.fn id))=Region.schedule (P.follows .mixedOrders) ops (w.tape w.drawn (.order b.fn id)) by simp[Region.schedule,E0.1]] at e
  let w1:World:={ w with drawn:=w.drawn+1 }
  have HD:w1.heap=w.heap:=rfl;have Jb:Fr w Ψ ow w1 Ψ ow:=Fr.heap rfl rfl rfl rfl;have h1:=h.world HD;rcases n8 (ds:=ds) (b:=b) (items:=items) (cs:=cs) BO h.nr (rs:=⟨[],st.sto⟩) h1.rel h1.lo e with⟨rs',w',Z',J',AO,tmps',a1,a2,a3,a4,a5,a6⟩|⟨x,rs',v,w',Z',J',AO,tmps',DF,a1,a2,a3,a4,a5,a6,a7⟩
  ·exact⟨.norm,_,a1,w',Z',J',AO,tmps',ds,At.ed h.nr a2 (by rw[a5.lo];exact Bi h.lo a5.len) rfl,hm.mono (Jb.trans a3),Jb.trans a3,a4,a5,(Steps.one stepR_region_draw).trans (a6.trans (.one stepR_region_end))⟩
  ·cases a1
 |.rangeFunc f params assign body,K,st,w,Ψ,J,ow,tmps,ds,items,hb,hr,h,hm,hB,e=>by
  refine a5A BO hb (hr.resolve_right (by simp[b8])) h hm hB e
 |.goto _,K,st,w,Ψ,J,ow,tmps,ds,items,hb,hr,h,hm,hB,e=>by simp[XK] at e
 |.refuse _,K,st,w,Ψ,J,ow,tmps,ds,items,hb,hr,h,hm,hB,e=>by simp[XK] at e
theorem a6A(BO:kC P ans B0 cf)(BJ:qx P ans B0 lp)(E0:gU P ans cf):qx P ans B0 (hY P ans cf lp):=by
 intro fid c st e AY hl B1 w Ψ J ow tmps ds b cs items hb hr h hm hB;obtain⟨e1,GK,h1,hx⟩:=oL BO BJ E0 c (b:=b) (cs:=cs) (items:=.inLoop c::items) hb hr h hm hB hl;cases e1 with
 |norm =>
  obtain⟨w1,Z1,J1,BR,BF,I9,a1,a2,a3,a4,a5,a6⟩:=hx;obtain⟨hA,hs⟩:=At.head a1 c
  have:=BJ _ _ _ _ _ h1 B1 w1 Z1 J1 BR BF I9 b cs items hb hr hA a2 (Bi hB a3.size)
  rw[hs] at this;exact(this.pre a3 a4 a5).head (Steps.trans a6 (.one stepR_inLoop))
 |exit id=>simp only[Am,Bq] at h1;obtain⟨rfl,rfl⟩:=h1;exact hx.out (by simp) (λDC _=>rfl)
 |ret=>simp only[Am,Bq] at h1;obtain⟨rfl,rfl⟩:=h1;exact hx.out (by simp) (λDC _=>rfl)
 |be v=>simp only[Am,Bq] at h1;obtain⟨rfl,rfl⟩:=h1;exact hx.out (by simp) (λDC _=>rfl)
theorem a2L{base:List Deferred}:∀{ds:List Deferred}{w:World}{fr:Frame},oM w ow B1 ds->fr.mode≠.run->fr.defers=ds++base ->
  ∃w',Steps P (lone fr cs w) (lone { fr with defers:=base } cs w')/\w'.heap.size=w.heap.size/\(∀x,(x<B1\/ow x≠none\/∃o v,w.cell? ⟨x,o,none⟩=some v)->w'.heap[x]?=w.heap[x]?)/\w'.os=w.os/\w'.tape=w.tape/\w'.output=w.output
 |[],w,fr,h,hm,hd=>⟨w,by rw[show({ fr with defers:=base }:Frame)=fr by rw[show base=fr.defers from hd.symm]];exact Steps.refl _ _,rfl,λ_ _=>rfl,rfl,rfl,rfl⟩
 |d::ds,w,fr,h,hm,hd=>by
  obtain⟨D,h1,h2,h3,h4⟩:=h.all d (by simp);have AL:D<w.heap.size:=(An.1 h2).1;have BW:=step_collected (P:=P) (cs:=cs) hm hd h1 (run_takeDeferred h2)
  let w1:=w.putObj D (.deferred none)
  have hM:oM w1 ow B1 ds:=by
   have hn:=Bb.1 h.nodup;refine⟨λd' Nb=>?_,hn.2⟩;obtain⟨D',g1,g2,g3,g4⟩:=h.all d' (by simp[Nb]);refine⟨D',g1,?_,g3,g4⟩;rw[World.putObj_heap_other];exact g2;intro he;subst he;exact hn.1 d' Nb (by rw[h1,g1])
  obtain⟨w',a1,a2,a3,a4,a5,a6⟩:=a2L (base:=base) (fr:={ fr with defers:=ds++base }) hM hm rfl;refine⟨w',(Steps.one BW).trans a1,by rw[a2];simp[w1],λx hx=>?_,a4,a5,a6⟩
  have hxD:x≠D:=by
   rintro rfl
   rcases hx with hx|hx|⟨o,v,hx⟩
   ·omega
   ·exact hx h3
   ·simp[World.cell?,h2] at hx
  have HD:w1.heap[x]?=w.heap[x]?:=World.putObj_heap_other hxD;rw[a3 x,HD];rcases hx with hx|hx|⟨o,v,hx⟩
  ·exact .inl hx
  ·exact .inr (.inl hx)
  ·exact .inr (.inr ⟨o,v,by rw[m8 HD];exact hx⟩)
theorem sC{b:Frame}{ds:List Deferred}{w:World}{fr:Frame}(h:Marks w ow B1 b ds)(hm:fr.mode≠.run)(hd:fr.defers=ds) :
  ∃w',Steps P (lone fr cs w) (lone { fr with defers:=b.defers } cs w')/\w'.heap.size=w.heap.size/\(∀x,(x<B1\/ow x≠none\/∃o v,w.cell? ⟨x,o,none⟩=some v)->w'.heap[x]?=w.heap[x]?)/\w'.os=w.os/\w'.tape=w.tape/\w'.output=w.output:=by
 obtain⟨ms,h1,h2⟩:=h;exact a2L h2 hm (hd.trans h1)
theorem Rest.kept{sto:AH}{w':World}(h:Rest ans B0 w Ψ J ow sto)(hs:w'.heap.size=w.heap.size)(hk:∀x,(x<B1\/ow x≠none\/∃o v,w.cell? ⟨x,o,none⟩=some v)->w'.heap[x]?=w.heap[x]?):Rest ans B0 w' Ψ J ow sto :=
 ⟨⟨by rw[hs];exact h.b_.kS,λb o c e=>by
   obtain⟨h1,v,h2,h3⟩:=h.b_.sat b o c e;exact⟨h1,v,(m8 (hk b (.inr (.inr ⟨o,v,h2⟩))) o).trans h2,h3⟩⟩,h.objs.mono Ψ.le_refl λi _ b s hb=>⟨hb,hk b (.inr (.inl (by simp[hb]))),λ_ h=>h⟩,λb hb=>by rw[hs];exact h.lt b hb⟩
theorem At.kept{w':World}(h:At P ans fid B0 w Ψ J ow st tmps)(hs:w'.heap.size=w.heap.size)(hk:∀x,(x<B1\/ow x≠none\/∃o v,w.cell? ⟨x,o,none⟩=some v)->w'.heap[x]?=w.heap[x]?):At P ans fid B0 w' Ψ J ow st tmps:=by
 have hr:=h.rest.kept hs hk;exact⟨⟨h.rel.size,hr.b_,λt=>(h.rel.dr t).mono Ψ.le_refl (aG _) (λb s hb=>⟨hb,hk b (.inr (.inl (by simp[hb]))),λ_ h=>h⟩) (λ_ _ _=>rfl),h.rel.refs,h.rel.boxes,hr.objs,hr.lt,by rw[hs];exact h.rel.base,h.rel.hi⟩,h.nr,h.lo⟩
theorem Fr.kept{w0:World}{Z0:HT}{Xn:Own}{w':World}(h:Fr w0 Z0 Xn w Ψ ow)(hB:w0.heap.size<=B1)(hs:w'.heap.size=w.heap.size)(hk:∀x,(x<B1\/ow x≠none\/∃o v,w.cell? ⟨x,o,none⟩=some v)->w'.heap[x]?=w.heap[x]?)
  (h1:w'.os=w.os) (h2:w'.tape=w.tape) (h3:w'.output=w.output):Fr w0 Z0 Xn w' Ψ ow :=
 ⟨h.le,by rw[hs];exact h.size,λb hb ho=>⟨(hk b (.inl (by omega))).trans (h.keep b hb ho).1,(h.keep b hb ho).2⟩,h.own,h1.trans h.os,h2.trans h.tape,h3.trans h.output⟩
def k8(tmps:Array Value):ResultVar->Sem Value
 |.tmp t=>pure (tmps.getD t undef)
 |.cell a t=>do loadVar t (<-asAddr (tmps.getD a undef))
theorem kA{an:AF}{tm:List Slot}{sto:AH}(h:Rel P ans B0 w Ψ J ow an (sl an tm ⟨[],sto⟩) tmps sto.objs){R:Type}{r:R}:∀{rl:List ResultVar}{k:List ae->Option R},fG P an tm rl sto k=some r ->
  ∃xs us,k xs=some r/\(rl.mapM (k8 tmps)).run P w=.ok us w/\xs.length=us.length/\∀(i:Nat) x u,xs[i]?=some x->us[i]?=some u->am Ψ J x u
 |[],k,e=>⟨[],[],e,by simp,rfl,λi x u hx=>by simp at hx⟩
 |.tmp t::rl,k,e=>by
  simp only[fG] at e;obtain⟨x,e,hx⟩:=lE (h.dr t) e;obtain⟨xs,us,h1,h2,h3,h4⟩:=kA h e;refine⟨x::xs,tmps.getD t undef::us,h1,by simp[Es,k8,h2],by simp[h3],λi y u hy hu=>?_⟩;cases i with
  |zero=>simp only[Cc,Am] at hy hu;subst hy;subst hu;exact hx
  |succ i=>simp only[Ca] at hy hu;exact h4 i y u hy hu
 |.cell a t::rl,k,e=>by
  simp only[fG] at e;obtain⟨p,e,hp⟩:=jG (ds:=[]) h (x:=.tmp a) (rs:=⟨[],sto⟩) e;obtain⟨cs,off,b,o,e,hv,fc,_,_⟩:=iM h hp e;obtain⟨s,hs,e⟩:=aH e;obtain⟨agg,EG,e⟩:=aH e;obtain⟨hg,e⟩:=aB e;obtain⟨x,hx,e⟩:=aH e;obtain⟨xs,us,h1,h2,h3,h4⟩:=kA h e
  have a4B:∃v,(loadVar t ⟨b,o,none⟩).run P w=.ok v w/\am Ψ J x v:=by
   cases agg with
   |true=>exact a1D (P:=P) fc EG hs hx
   |false =>
    simp only[partOf,Bg,Dk,Aw,Aq] at hx;obtain⟨c,hc,rfl⟩:=hx;exact a1F (P:=P) fc EG hc
  obtain⟨v,hl,Ou⟩:=a4B;have HF:tmps.getD a undef=.pointer (some ⟨b,o,none⟩):=hv;refine⟨x::xs,v::us,h1,?_,by simp[h3],λi y u hy hu=>?_⟩
  ·simp only[Es,k8,HF,Sem.run_bind]
   simp[asAddr,hl,h2]
  ·cases i with
   |zero=>simp only[Cc,Am] at hy hu;subst hy;subst hu;exact Ou
   |succ i=>simp only[Ca] at hy hu;exact h4 i y u hy hu
def rG:List Value->Value
 |[u]=>u
 |us=>.tuple ⟨us⟩
theorem iJ{fn:Func}{us:List Value}(h:(fn.results.toList.mapM (k8 tmps)).run P w=.ok us w):(results fn tmps).run P w=.ok (rG us) w:=by
 have h0:fn.results=fn.results.toList.toArray:=by simp
 have hf:∀rl:List ResultVar,(rl.toArray.mapM (k8 tmps))=Functor.map List.toArray (rl.mapM (k8 tmps)):=λrl=>List.mapM_toArray
 have hr:results fn tmps=(do let vs <-fn.results.mapM (k8 tmps);pure (if h:vs.size=1 then vs[0] else .tuple vs)):=by
  unfold results;congr 1
 rw[hr,h0,hf];simp only[Sem.run_bind,map_eq_pure_bind,bind_assoc,h,Result.andThen_ok,pure_bind,Sem.run_pure]
 match us with
 |[]=>rfl
 |[u]=>rfl
 |u::u'::us=>simp[rG]
theorem u6{n:Nat}{s:Slot}{v:Value}{sto:AH}(hs:bX w B0 Ψ J ow #[] 0 s v)(hf:s.free=true)(ho:i_ w B0 Ψ J ow ans sto.objs)(hn:n<=sto.objs.length) :
  ∃J',bX w B0 Ψ J' ow #[] 0 s v/\i_ w B0 Ψ J' ow ans (trim n s sto).objs/\(trim n s sto).lo=sto.lo/\n<=(trim n s sto).objs.length/\(∀i,i<n->(trim n s sto).objs[i]?=sto.objs[i]?)/\J'.take n=J.take n:=by
 unfold trim;cases hl:cF n s with
 |true=>exact⟨J.take n,hs.a1p hf hl,ho.front n hn,rfl,by show n<=(sto.objs.take n).length;rw[Dz];omega,λi hi=>by show(sto.objs.take n)[i]?=_;rw[Bl,Br hi],by rw[Gf,Nat.min_self]⟩
 |false=>exact⟨J,hs,ho,rfl,hn,λ_ _=>rfl,rfl⟩
theorem nV(h:At P ans fid B0 w Ψ J ow st tmps){fn:Func}{n:Nat}{res:d_}{sto':AH}(hn:n<=st.sto.objs.length)(e:finish P (ans fid) fn n st=some (res,sto')) :
  ∃s v J' AO,res=.ret s/\s.free=true/\(results fn tmps).run P w=.ok v w/\bX w B0 Ψ J' AO #[] 0 s v/\i_ w B0 Ψ J' AO ans sto'.objs/\Fr w Ψ ow w Ψ AO/\(∀b,AO b≠none->ow b≠none)/\sto'.lo=st.sto.lo/\n<=sto'.objs.length/\(∀i,i<n->sto'.objs[i]?=st.sto.objs[i]?)/\J'.take n=J.take n:=by
 have gen:∀{x:ae}{v:Value},am Ψ J x v->(results fn tmps).run P w=.ok v w->res=.ret (.val x)->sto'=trim n (.val x) st.sto->∃s v J' AO,res=.ret s/\s.free=true/\(results fn tmps).run P w=.ok v w/\bX w B0 Ψ J' AO #[] 0 s v/\i_ w B0 Ψ J' AO ans sto'.objs/\Fr w Ψ ow w Ψ AO/\(∀b,AO b≠none->ow b≠none)/\sto'.lo=st.sto.lo/\n<=sto'.objs.length/\(∀i,i<n->sto'.objs[i]?=st.sto.objs[i]?)/\J'.take n=J.take n:=λhx hr he hs=>by
  subst hs;obtain⟨J',a1,a2,a3,a4,a5,a6⟩:=u6 (s:=.val _) (.val _ _ hx) rfl h.rel.objs hn;exact⟨_,_,J',ow,he,rfl,hr,a1,a2,Fr.refl _ _ _,λ_ h=>h,a3,a4,a5,a6⟩
 have many:∀rl,fn.results.toList=rl->(fG P (ans fid) st.tm rl st.sto λvs=>match vs with|[v]=>some (d_.ret (.val v),trim n (.val v) st.sto)|vs=>some (.ret (.aj vs),trim n (.aj vs) st.sto))=some (res,sto')->∃s v J' AO,res=.ret s/\s.free=true/\(results fn tmps).run P w=.ok v w/\bX w B0 Ψ J' AO #[] 0 s v/\i_ w B0 Ψ J' AO ans sto'.objs/\Fr w Ψ ow w Ψ AO/\(∀b,AO b≠none->ow b≠none)/\sto'.lo=st.sto.lo/\n<=sto'.objs.length/\(∀i,i<n->sto'.objs[i]?=st.sto.objs[i]?)/\J'.take n=J.take n:=λrl hrl e=>by
  obtain⟨xs,us,h1,h2,h3,h4⟩:=kA h.rel e;rw[<-hrl] at h2;have A9:=iJ h2
  have aj:∀xs us,rG us=.tuple ⟨us⟩->xs.length=us.length->(∀(i:Nat) x u,xs[i]?=some x->us[i]?=some u->am Ψ J x u)->(results fn tmps).run P w=.ok (rG us) w->some (d_.ret (.aj xs),trim n (.aj xs) st.sto)=some (res,sto') ->
    ∃s v J' AO,res=.ret s/\s.free=true/\(results fn tmps).run P w=.ok v w/\bX w B0 Ψ J' AO #[] 0 s v/\i_ w B0 Ψ J' AO ans sto'.objs/\Fr w Ψ ow w Ψ AO/\(∀b,AO b≠none->ow b≠none)/\sto'.lo=st.sto.lo/\n<=sto'.objs.length/\(∀i,i<n->sto'.objs[i]?=st.sto.objs[i]?)/\J'.take n=J.take n:=λxs us he h3 h4 A9 h1=>by
   simp only[Am,Bq] at h1;obtain⟨rfl,rfl⟩:=h1;rw[he] at A9;obtain⟨J',a1,a2,a3,a4,a5,a6⟩:=u6 (s:=.aj xs) (v:=.tuple ⟨us⟩) (.aj xs us h3 h4) rfl h.rel.objs hn;exact⟨_,_,J',ow,rfl,rfl,A9,a1,a2,Fr.refl _ _ _,λ_ h=>h,a3,a4,a5,a6⟩
  match xs,us,h1,h3,h4,A9 with
  |[],[],h1,h3,h4,A9=>exact aj [] [] rfl rfl h4 A9 h1
  |[x],[u],h1,h3,h4,A9 =>
   simp only[Am,Bq] at h1;exact gen (h4 0 x u rfl rfl) A9 h1.1.symm h1.2.symm
  |x::x'::xs,u::u'::us,h1,h3,h4,A9=>exact aj (x::x'::xs) (u::u'::us) rfl h3 h4 A9 h1
 unfold finish at e
 split at e
 ·rename_i t Ly B7
  have h1:(results fn tmps).run P w=.ok (tmps.getD t undef) w:=iJ (us:=[tmps.getD t undef]) (by rw[B7];simp[k8]);have FC:=h.rel.dr t
  split at e
  ·rename_i sz xs BI
   have BN:sl (ans fid) st.tm ⟨[],st.sto⟩ t=.own sz xs:=BI;rw[BN] at FC;simp only[Am,Bq] at e;obtain⟨rfl,rfl⟩:=e;have KY:t<(ans fid).nt:=h.rel.rD (by rw[BN];simp)
   have IE:bX w B0 Ψ J (fE ow false t false 0 0) #[] 0 (.own sz xs) (tmps.getD t undef):=by
    refine FC.mono Ψ.le_refl (aG _) (x7 _ _ _) (λ_ _ he=>by cases he)
   obtain⟨J',a1,a2,a3,a4,a5,a6⟩:=u6 (ow:=fE ow false t false 0 0) IE rfl (h.rel.objs.mono Ψ.le_refl λi _=>eV _ _ _ (by simp)) hn;exact⟨_,_,J',_,rfl,rfl,h1,a1,a2,Fr.fE _ _ _,λ_ h=>lT _ h,a3,a4,a5,a6⟩
  ·rename_i BI
   have BN:sl (ans fid) st.tm ⟨[],st.sto⟩ t=.nl:=BI;rw[BN] at FC;simp only[Am,Bq] at e;obtain⟨rfl,rfl⟩:=e
   have IE:bX w B0 Ψ J ow #[] 0 .nl (tmps.getD t undef):=by
    generalize tmps.getD t undef=v at FC;cases FC with|nl=>exact .nl
   obtain⟨J',a1,a2,a3,a4,a5,a6⟩:=u6 IE rfl h.rel.objs hn;exact⟨_,_,J',ow,rfl,rfl,h1,a1,a2,Fr.refl _ _ _,λ_ h=>h,a3,a4,a5,a6⟩
  ·obtain⟨x,e,hx⟩:=lE FC e
   simp only[Am,Bq] at e;exact gen hx h1 e.1.symm e.2.symm
 ·exact many _ rfl e
end
section
variable {P:Program}{ans:FuncId->AF}{w:World}{B0:Nat}{Ψ:HT}{J:List Nat}{ow:Own}{tmps:Array Value}
variable {ds:List Deferred}{cf:aI}{lp:aO}{fid:FuncId}{B1:Nat}{b:Frame}{cs:List Frame}{items:List Item}{st:St}{pr:gG}
theorem a3j(g:Nat->Slot):∀(ks:List Nat)(t:Nat),bg ks (ks.map g) t=.dead\/bg ks (ks.map g) t=g t
 |[],t=>.inl rfl
 |k::ks,t=>by
  simp only[Ba,bg];cases hk:Nat.beq k t with
  |true=>have:=Aa hk;subst this;exact .inr rfl
  |false=>exact a3j g ks t
theorem qD{f:FuncId}{args:List Slot}{vs:Array Value}{sto:AH}(h:dT ans B0 w Ψ J ow args vs sto)(K6:args.length<=(ans f).nt) :
  At P ans f B0 w Ψ J ow ⟨(ans f).keep.map λt=>(args[t]?).getD .dead,sto⟩ (vs++Array.replicate ((ans f).nt-vs.size) undef):=by
 have hE:∀t,bg (ans f).keep ((ans f).keep.map λt=>(args[t]?).getD .dead) t=.dead\/∃s,args[t]?=some s/\bg (ans f).keep ((ans f).keep.map λt=>(args[t]?).getD .dead) t=s:=λt=>by
  rcases a3j (λt=>(args[t]?).getD .dead) (ans f).keep t with h1|h1
  ·exact .inl h1
  ·cases ha:args[t]? with
   |none=>left;rw[h1,ha];rfl
   |some s=>right;exact⟨s,rfl,by rw[h1,ha];rfl⟩
 have CS:∀(t:Nat)(s:Slot),args[t]?=some s->s.free=true:=λt s ha=>h.free s (Be ha)
 refine⟨⟨?_,h.b_,λt=>?_,λd u o e=>?_,λt c e=>?_,h.objs,h.lt,h.base,λt ht=>?_⟩,λs hs u o he=>?_,h.lo⟩
 ·have:=h.size;simp;omega
 ·show bX w B0 Ψ J ow _ t (bg (ans f).keep ((ans f).keep.map λt=>(args[t]?).getD .dead) t) _
  rcases hE t with h1|⟨s,ha,h1⟩
  ·rw[h1];exact .dead _
  ·rw[h1]
   have AL:t<vs.size:=by rw[<-h.size];exact(Ab.1 ha).1
   have hv:(vs++Array.replicate ((ans f).nt-vs.size) undef).getD t undef=vs.getD t undef:=by
    simp only[Af,Gc AL]
   rw[hv];exact(h.args t s ha).uf (CS t s ha)
 ·have e':bg (ans f).keep ((ans f).keep.map λt=>(args[t]?).getD .dead) d=.ref u o:=e
  rcases hE d with h1|⟨s,ha,h1⟩
  ·rw[h1] at e';cases e'
  ·rw[h1] at e';have:=CS d s ha;rw[e'] at this;cases this
 ·have e':bg (ans f).keep ((ans f).keep.map λt=>(args[t]?).getD .dead) t=.box c:=e
  rcases hE t with h1|⟨s,ha,h1⟩
  ·rw[h1] at e';cases e'
  ·rw[h1] at e';have:=CS t s ha;rw[e'] at this;cases this
 ·show bg (ans f).keep ((ans f).keep.map λt=>(args[t]?).getD .dead) t=.dead
  rcases hE t with h1|⟨s,ha,h1⟩
  ·exact h1
  ·have:=(Ab.1 ha).1;omega
 ·obtain⟨t,_,rfl⟩:=Cn.1 hs
  cases ha:args[t]? with
  |none=>rw[ha] at he;cases he
  |some s=>rw[ha] at he;have:=CS t s ha;rw[show s=.ref u o from he] at this;cases this
def vp(P:Program)(ans:FuncId->AF)(B0:Nat)(w:World)(Ψ:HT)(J:List Nat)(ow:Own)(sto:AH)(f:FuncId)(cs:List Frame)(m:Machine)(res:d_)(sto':AH):Prop :=
 ∃w' Z' J' AO fr,Fr w Ψ ow w' Z' AO/\pre J J'/\c_ Z' w'/\i_ w' B0 Z' J' AO ans sto'.objs/\(∀b,AO b≠none->b<w'.heap.size)/\gr sto sto'/\Steps P m (lone fr cs w')/\fr.fn=f /\
  match res with
  |.ret s=>s.free=true/\∃v,bX w' B0 Z' J' AO #[] 0 s v/\fr.leaving P w' (.returned v)
  |.be x=>∃v,am Z' J' x v/\fr.leaving P w' (.panicked [{ v,recovered:=false }])
theorem vp.post{sto:AH}{f:FuncId}{c:Frame}{m:Machine}{res:d_}{sto':AH}(h:vp P ans B0 w Ψ J ow sto f (c::cs) m res sto'):dS P ans B0 w Ψ J ow sto c cs m res sto':=by
 obtain⟨w',Z',J',AO,fr,h1,h2,h3,h4,h5,h6,h7,h8,h9⟩:=h;refine⟨w',Z',J',AO,h1,h2,h3,h4,h5,h6,?_⟩;cases res with
 |ret s=>obtain⟨hf,v,hs,hl⟩:=h9;exact⟨hf,v,hs,h7.trans (.one (step_leave_returned hl))⟩
 |be x=>obtain⟨v,hs,hl⟩:=h9;exact⟨v,hs,h7.trans (.one (step_leave_panicked hl))⟩
theorem iD{J J' J2:List Nat}{n:Nat}(hp:pre J J2)(hn:n=J.length)(h:J'.take n=J2.take n):pre J J':=by
 subst hn;rw[j7 hp (Ae _),Bz (Ae _)] at h;intro i x hx;have hi:=(Ab.1 hx).1
 have:(J'.take J.length)[i]?=some x:=by rw[h];exact hx
 rw[Bl,Br hi] at this;exact this
theorem a3H(BO:kC P ans B0 cf)(BJ:qx P ans B0 lp)(E0:gU P ans cf){f:FuncId}{args:List Slot}{sto:AH}{res:d_}{sto':AH}(HO:pr f args=none)(e:cG P ans pr cf lp (.fn f) args sto=some (res,sto')) :
  (∃F,P.funcs[f]?=some F/\F.body.isSome=true)/\∀w Ψ J ow vs,dT ans B0 w Ψ J ow args vs sto->∀cs,vp P ans B0 w Ψ J ow sto f cs (lone (Frame.enter P f vs .normal) cs w) res sto':=by
 simp only[cG,HO] at e;cases Lv:(ans f).jx with
 |true=>rw[Lv] at e;cases e
 |false =>
 rw[Lv] at e;simp only[Bh] at e
 split at e
 ·cases e
 rename_i fn HU
 split at e
 ·cases e
 rename_i c E4;obtain⟨hg,e⟩:=aB e;simp only[Ac] at hg;have K6:fn.ntmps=(ans f).nt:=Aa hg.1;have CV:args.length<=(ans f).nt:=by rw[<-K6];exact Ad hg.2
 refine⟨⟨fn,HU,by simp[E4]⟩,λw Ψ J ow vs BM cs=>?_⟩
 let b:Frame:={ (default:Frame) with fn:=f,kind:=.normal,roundOf:=none }
 have sv:Frame.enter P f vs .normal=b.atR ⟨vs++Array.replicate ((ans f).nt-vs.size) undef,[]⟩ [.code c]:=by
  simp[Frame.enter,Frame.atR,HU,E4,b,K6]
 rw[sv];have JM:=BM.objs.1;obtain⟨ex,AY,he,w1,Z1,J1,BR,BF,I9,a1,a2,a3,a4,a5,a6⟩:=oL BO BJ E0 c (b:=b) (cs:=cs) (items:=[]) (fid:=f) (B1:=w.heap.size) rfl (.inl rfl) (qD (P:=P) BM CV) (Marks.nil w ow w.heap.size) (Ae _) e;have AP:=BM.lo;have hlen:sto.objs.length<=AY.sto.objs.length:=a5.len
 have a0S:At P ans f B0 w1 Z1 J1 BR AY BF->finish P (ans f) fn sto.objs.length AY=some (res,sto')->(∃k,Steps P (lone (b.atR ⟨vs++Array.replicate ((ans f).nt-vs.size) undef,[]⟩ [.code c]) cs w) (lone { b.atR ⟨BF,I9⟩ k with mode:=.returning } cs w1)) ->
   vp P ans B0 w Ψ J ow sto f cs (lone (b.atR ⟨vs++Array.replicate ((ans f).nt-vs.size) undef,[]⟩ [.code c]) cs w) res sto':=λhA HJ ⟨k,hs⟩=>by
  obtain⟨w2,p1,p2,p3,p4,p5,p6⟩:=sC (P:=P) (cs:=cs) (fr:={ b.atR ⟨BF,I9⟩ k with mode:=.returning }) a2 (by simp) rfl;have Ul:=hA.kept p2 p3;obtain⟨s,v,J2,CG,q1,q2,q3,q4,q5,q6,MT,q7,q8,q9,MU⟩:=nV Ul hlen HJ;subst q1;refine⟨w2,Z1,J2,CG,_,(a3.kept (Ae _) p2 p3 p4 p5 p6).trans q6,iD a4 JM.symm MU,Ul.rel.b_,q5,λb hb=>?_,⟨q7.trans a5.lo,q8,λi hi=>(q9 i (by omega)).trans (a5.keep i hi)⟩,hs.trans p1,rfl,q2,v,q4,rfl,rfl,rfl,fn,HU,q3⟩;exact Ul.rel.lt b (MT b hb)
 cases ex with
 |norm=>exact a0S a1 he ⟨[],Steps.trans a6 (.one (stepR_end rfl))⟩
 |ret=>obtain⟨k,hk⟩:=a6;exact a0S a1 he ⟨_,hk.trans (.one (stepR_ret rfl))⟩
 |exit id=>cases he
 |be x =>
  simp only[Am,Bq] at he;obtain⟨rfl,rfl⟩:=he;obtain⟨v,k,hv,hs⟩:=a6;obtain⟨w2,p1,p2,p3,p4,p5,p6⟩:=sC (P:=P) (cs:=cs) (fr:={ b.atR ⟨BF,I9⟩ k with mode:=.panicking [{ v,recovered:=false }] }) a2 (by simp) rfl;have JH:=Rest.kept a1 p2 p3;exact⟨w2,Z1,J1,BR,_,a3.kept (Ae _) p2 p3 p4 p5 p6,a4,JH.b_,JH.objs,JH.lt,a5,hs.trans p1,rfl,v,hv,rfl,rfl,fn,HU⟩
end
end Go.AM
