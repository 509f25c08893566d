import Derived.Test.YtdkkaldimefljaaGreatDoorA09
import Derived.WalkKit
set_option linter.all false
namespace Go.AM
section
variable {P:Program}{ans:FuncId->AK}{pr:dY}{R:Type}{r:R}
variable {HZ:aO}{LA:aP}{cf:Nat->aO}{lp:Nat->aP}{fid:FuncId}
def Evl(x:Nat->Option R)(r:R):Prop:=∃n,∀m,n<=m->x m=some r
theorem Evl.const{x:Option R}(h:x=some r):Evl (λ_=>x) r:=⟨0,λ_ _=>h⟩
theorem Evl.congr{x y:Nat->Option R}(h:Evl x r)(e:∀m,y m=x m):Evl y r:=by
 obtain⟨n,h⟩:=h;exact⟨n,λm hm=>(e m).trans (h m hm)⟩
theorem Evl.bind{α:Type}{x:Nat->Option α}{a:α}{f:Nat->α->Option R}(h:Evl x a)(k:Evl (λm=>f m a) r):Evl (λm=>(x m).bind (f m)) r:=by
 obtain⟨n,h⟩:=h;obtain⟨n',k⟩:=k;exact⟨max n n',λm hm=>by show(x m).bind (f m)=some r;rw[h m (by omega)];exact k m (by omega)⟩
def rG(HZ:aO)(cf:Nat->aO):Prop:=∀c a s r,HZ c a s=some r->Evl (λm=>cf m c a s) r
def cq(LA:aP)(lp:Nat->aP):Prop:=∀f c st r,LA f c st=some r->Evl (λm=>lp m f c st) r
theorem aFx(hc:rG HZ cf){KH:AVal->RS->Option R}{kp:Nat->AVal->RS->Option R}{k0:Slot->RS->Option R}{k:Nat->Slot->RS->Option R}
  (hp:∀v rs r,KH v rs=some r->Evl (λm=>kp m v rs) r) (hk:∀s rs r,k0 s rs=some r->Evl (λm=>k m s rs) r) {out:Out} (e:out.run HZ KH k0=some r):Evl (λm=>out.run (cf m) (kp m) (k m)) r:=by
 cases out with
 |none=>cases e
 |ret s rs=>exact hk _ _ _ e
 |pan v rs=>exact hp _ _ _ e
 |call AF c args rs =>
  cases AF with
  |false =>
   simp only[Out.run,dJ] at e ⊢;obtain⟨⟨x,sto⟩,h1,e⟩:=aC e;refine(hc _ _ _ _ h1).bind ?_;cases x with
   |ret s =>
    obtain⟨hg,e⟩:=aB e;exact(hk _ _ _ e).congr λm=>aF hg _
   |pan v=>exact hp _ _ _ e
  |true =>
   simp only[Out.run,dJ] at e ⊢;obtain⟨⟨x,sto⟩,h1,e⟩:=aC e;refine(hc _ _ _ _ h1).bind ?_;cases x with
   |ret s =>
    obtain⟨hg,e⟩:=aB e;exact(hk _ _ _ e).congr λm=>aF hg _
   |pan v=>cases e
theorem aCm(hc:rG HZ cf){an:AK}{drawn:Bool}{tm:List Slot}{rid:Nat}{ops:Array Oper}{o:Oper}{i:Nat}{rs:RS}{KH:AVal->RS->Option R}{kp:Nat->AVal->RS->Option R}{k0:RS->Option R}{k:Nat->RS->Option R}
  (hp:∀v rs r,KH v rs=some r->Evl (λm=>kp m v rs) r) (hk:∀rs r,k0 rs=some r->Evl (λm=>k m rs) r)
  (e:gG P ans an drawn HZ tm rid ops KH o i rs k0=some r):Evl (λm=>gG P ans an drawn (cf m) tm rid ops (kp m) o i rs (k m)) r:=by
 have go:∀rs lc,aD P ans an drawn (an.pure.contains (rid,i)) lc HZ tm (an.take.contains (rid,i)) o rs KH (λs rs'=>aL (dK an o s rs') (k0 (rs'.putO o.dst s)))=some r ->
   Evl (λm=>aD P ans an drawn (an.pure.contains (rid,i)) lc (cf m) tm (an.take.contains (rid,i)) o rs (kp m) (λs rs'=>aL (dK an o s rs') (k m (rs'.putO o.dst s)))) r:=λrs lc e=>by
  obtain⟨out,h⟩:=aCB (P:=P) (ans:=ans) (an:=an) (tm:=tm) (rs:=rs) drawn (an.pure.contains (rid,i)) lc (an.take.contains (rid,i)) o;have h0:=h R HZ KH λs rs'=>aL (dK an o s rs') (k0 (rs'.putO o.dst s))
  simp only at h0;rw[h0] at e;refine(aFx hc hp (k:=λm s rs'=>aL (dK an o s rs') (k m (rs'.putO o.dst s))) (λs rs' r e=>?_) e).congr λm=>h _ _ _ _
  obtain⟨hg,e⟩:=aB e;exact(hk _ _ e).congr λm=>aF hg _
 unfold gG at e ⊢;simp only at e ⊢;cases hg:o.guard with
 |none =>
  rw[hg] at e;exact go _ _ e
 |some jw =>
  obtain⟨j,want⟩:=jw;rw[hg] at e;simp only at e ⊢;cases hd:(ops[j]?).bind (·.dst) with
  |none=>rw[hd] at e;cases e
  |some d =>
   rw[hd] at e;simp only at e ⊢;generalize rs.look an.keep tm d=s at e ⊢;cases s with
   |val v =>
    cases v with
    |bool b =>
     cases b<;>cases want
     ·exact(go _ _ e).congr λm=>rfl
     ·obtain⟨h1,h2⟩:=aB (show aL (dK an o .dead rs) (k0 ((rs.put d (.val (.bool false))).putO o.dst (.tup [])))=some r from e)
      exact(hk _ _ h2).congr λm=>aF h1 _
     ·obtain⟨h1,h2⟩:=aB (show aL (dK an o .dead rs) (k0 ((rs.put d (.val (.bool true))).putO o.dst (.tup [])))=some r from e)
      exact(hk _ _ h2).congr λm=>aF h1 _
     ·exact(go _ _ e).congr λm=>rfl
    |_=>cases e
   |tup l =>
    cases l with
    |nil =>
     obtain⟨h1,h2⟩:=aB (show aL (dK an o .dead rs) (k0 (rs.putO o.dst (.tup [])))=some r from e);exact(hk _ _ h2).congr λm=>aF h1 _
    |cons _ _=>cases e
   |_=>cases e
theorem uK(hc:rG HZ cf){an:AK}{drawn:Bool}{tm:List Slot}{rid:Nat}{ops:Array Oper}{KH:AVal->RS->Option R}{kp:Nat->AVal->RS->Option R}{k0:RS->Option R}{k:Nat->RS->Option R}
  (hp:∀v rs r,KH v rs=some r->Evl (λm=>kp m v rs) r) (hk:∀rs r,k0 rs=some r->Evl (λm=>k m rs) r):∀{l:List Oper}{i:Nat}{rs:RS}{r:R},
  lT P ans an drawn HZ tm rid ops KH k0 l i rs=some r->Evl (λm=>lT P ans an drawn (cf m) tm rid ops (kp m) (k m) l i rs) r
 |[],i,rs,r,e=>hk _ _ e
 |o::l,i,rs,r,e=>aCm (r:=r) hc hp (λrs r e=>uK hc hp hk e) e
theorem aCi{an:AK}{ops:List Oper}{st:St}{K0:bD->St->Option R}{K:Nat->bD->St->Option R}{r:R}(hk:∀e st r,K0 e st=some r->Evl (λm=>K m e st) r)(e:y5 P an ops st K0=some r):Evl (λm=>y5 P an ops st (K m)) r:=by
 obtain⟨_,_,_,_,_,_,_,_,_,_,h1,h2⟩:=tz e;exact(hk _ _ _ h1).congr λm=>h2 _ _
theorem iW(hc:rG HZ cf)(hl:cq LA lp):∀(c:Code){st:St}{K0:bD->St->Option R}{K:Nat->bD->St->Option R}{r:R},(∀e st r,K0 e st=some r->Evl (λm=>K m e st) r) ->
  XK P ans HZ LA fid c st K0=some r->Evl (λm=>XK P ans (cf m) (lp m) fid c st (K m)) r
 |.skip,st,K0,K,r,hk,e=>hk _ _ _ e
 |.label _,st,K0,K,r,hk,e=>hk _ _ _ e
 |.seq a b,st,K0,K,r,hk,e=>by
  simp only[XK] at e ⊢;refine iW hc hl a (K:=λm e BF=>match e with
   |.norm=>XK P ans (cf m) (lp m) fid b BF (K m)
   |.exit id=>K m (.exit id) BF
   |.ret=>K m .ret BF
   |.pan v=>K m (.pan v) BF) (λex BF r e=>?_) e
  cases ex with
  |norm=>exact iW hc hl b hk e
  |_=>exact hk _ _ _ e
 |.cond c a b,st,K0,K,r,hk,e=>by
  simp only[XK] at e ⊢;generalize A9 (ans fid).keep st.tm ⟨[],st.sto⟩ c=s at e ⊢;cases s with
  |val v =>
   cases v with
   |bool t=>cases t with
    |true=>exact iW hc hl a hk e
    |false=>exact iW hc hl b hk e
   |_=>cases e
  |_=>cases e
 |.block id c,st,K0,K,r,hk,e=>by
  simp only[XK] at e ⊢;refine iW hc hl c (K:=λm e BF=>match e with
   |.norm=>K m .norm BF
   |.exit C8=>(bif Nat.beq C8 id then K m .norm BF else K m (.exit C8) BF)
   |.ret=>K m .ret BF
   |.pan v=>K m (.pan v) BF) (λex BF r e=>?_) e
  cases ex with
  |exit C8 =>
   simp only at e ⊢;cases hb:Nat.beq C8 id with
   |true=>rw[hb] at e;exact hk _ _ _ e
   |false=>rw[hb] at e;exact hk _ _ _ e
  |_=>exact hk _ _ _ e
 |.scope c,st,K0,K,r,hk,e=>iW hc hl c hk e
 |.exit id,st,K0,K,r,hk,e=>hk _ _ _ e
 |.ret,st,K0,K,r,hk,e=>hk _ _ _ e
 |.region id ops false,st,K0,K,r,hk,e=>by
  simp only[XK] at e ⊢;exact uK hc (kp:=λm v rs=>K m (.pan v) ⟨st.tm,rs.sto⟩) (k:=λm rs=>K m .norm ⟨commit (ans fid).keep st.tm rs.sc,rs.sto⟩) (λv rs r e=>hk _ _ _ e) (λrs r e=>hk _ _ _ e) e
 |.region id ops true,st,K0,K,r,hk,e=>by
  simp only[XK] at e ⊢;cases Jm:yR (ans fid) id with
  |true =>
   rw[Jm] at e;exact aCi hk e
  |false =>
  rw[Jm] at e;simp only[Aq] at e ⊢;obtain⟨hg,e⟩:=aB e;obtain⟨ER,e⟩:=aB e;exact(uK hc (kp:=λm v rs=>none) (k:=λm rs=>K m .norm ⟨commit (ans fid).keep st.tm rs.sc,rs.sto⟩) (λv rs r e=>by cases e) (λrs r e=>hk _ _ _ e) e).congr λm=>(aF hg _).trans (aF ER _)
 |.loop c,st,K0,K,r,hk,e=>by
  simp only[XK] at e ⊢;obtain⟨p,h1,e⟩:=aC e;exact(hl _ _ _ _ h1).bind (hk _ _ _ e)
 |.rangeFunc f params assign body,st,K0,K,r,hk,e=>by
  simp only[XK] at e ⊢;generalize A9 (ans fid).keep st.tm ⟨[],st.sto⟩ f=s at e ⊢;cases s with
  |val v =>
   cases v with
   |func g caps =>
    simp only at e ⊢;obtain⟨⟨x,sto⟩,h1,e⟩:=aC e;refine(hc _ _ _ _ h1).bind ?_;cases x with
    |pan v=>exact hk _ _ _ e
    |ret s =>
     simp only at e ⊢;generalize sto.objs[st.sto.objs.length]?=ob at e ⊢;rcases ob with _|ob
     ·cases e
     ·cases ob with
      |loop l =>
       simp only at e ⊢;generalize l.state=ls at e ⊢;generalize l.pend=Mb at e ⊢
       cases ls<;>rcases Mb with _|Mb<;>first
        |exact hk _ _ _ e
        |cases e
        |(cases Mb<;>first|exact hk _ _ _ e|cases e)
      |_=>cases e
   |_=>cases e
  |_=>cases e
 |.goto _,st,K0,K,r,hk,e=>by simp[XK] at e
 |.refuse _,st,K0,K,r,hk,e=>by simp[XK] at e
end
section
variable {P:Program}{ans:FuncId->AK}{pr:dY}
variable {HZ:aO}{LA:aP}{cf:Nat->aO}{lp:Nat->aP}
theorem vJ{R:Type}{r:R}{sto:AN}{i:Nat}{k0:jR->Option R}{k:Nat->jR->Option R}(hk:∀l r,k0 l=some r->Evl (λm=>k m l) r)(e:dN sto i k0=some r):Evl (λm=>dN sto i (k m)) r:=by
 unfold dN at e ⊢;generalize sto.objs[i]?=o at e ⊢;rcases o with _|o
 ·cases e
 ·cases o with
  |loop l=>exact hk _ _ e
  |_=>cases e
theorem pW(hc:rG HZ cf)(hl:cq LA lp):rG (cE P ans pr HZ LA) (λm=>cE P ans pr (cf m) (lp m))
 |.fn f,a,s,r,e=>by
  simp only[cE] at e ⊢;generalize pr f a=p at e ⊢;cases p with
  |some x=>exact Evl.const e
  |none =>
   simp only at e ⊢;cases hp:(ans f).prim with
   |true=>rw[hp] at e;cases e
   |false =>
    rw[hp] at e;simp only[Aq] at e ⊢;generalize P.funcs[f]?=F at e ⊢;rcases F with _|F
    ·cases e
    ·simp only at e ⊢
     generalize hb:F.body=b at e ⊢;rcases b with _|c
     ·cases e
     ·simp only at e ⊢
      obtain⟨hg,e⟩:=aB e;exact(iW hc hl c (K:=λ_ e st=>match e with
       |.norm=>finish P (ans f) F s.objs.length st
       |.ret=>finish P (ans f) F s.objs.length st
       |.pan v=>some (.pan v,st.sto)
       |.exit _=>none) (λe st r h=>Evl.const h) e).congr λm=>aF hg _
 |.yld i,a,s,r,e=>by
  simp only[cE] at e ⊢;refine vJ (λl r e=>?_) e;generalize Sa:l.state=ls at e ⊢
  cases ls<;>first
   |cases e
   |(simp only at e ⊢
     obtain⟨hg,e⟩:=aB e
     refine(iW hc hl l.assign (K:=λm e st =>
       match e with
       |.norm=>dN st.sto i λl1 =>
        match l1.state with
        |.ready=>XK P ans (cf m) (lp m) l.fn l.body { st with sto:=setLoop st.sto i { l1 with state:=.busy } } λe st =>
         match e with
         |.norm=>dN st.sto i λl2=>some (.ret (.val (.bool true)),cut s.objs.length (setLoop st.sto i { l2 with state:=.ready,pend:=none }))
         |.ret=>dN st.sto i λl2=>some (.ret (.val (.bool false)),cut s.objs.length (setLoop st.sto i { l2 with state:=.done,pend:=some .ret }))
         |.exit id=>dN st.sto i λl2=>some (.ret (.val (.bool false)),cut s.objs.length (setLoop st.sto i { l2 with state:=.done,pend:=some (.exit id) }))
         |.pan v=>some (.pan v,st.sto)
        |_=>none
       |_=>none) (λex st r e=>?_) e).congr λm=>aF hg _
     cases ex with
     |norm =>
      simp only at e ⊢;refine vJ (λl1 r e=>?_) e;generalize l1.state=ls at e ⊢
      cases ls<;>first
       |cases e
       |exact iW hc hl l.body (K:=λ_ e st =>
         match e with
         |.norm=>dN st.sto i λl2=>some (.ret (.val (.bool true)),cut s.objs.length (setLoop st.sto i { l2 with state:=.ready,pend:=none }))
         |.ret=>dN st.sto i λl2=>some (.ret (.val (.bool false)),cut s.objs.length (setLoop st.sto i { l2 with state:=.done,pend:=some .ret }))
         |.exit id=>dN st.sto i λl2=>some (.ret (.val (.bool false)),cut s.objs.length (setLoop st.sto i { l2 with state:=.done,pend:=some (.exit id) }))
         |.pan v=>some (.pan v,st.sto)) (λe st r h=>Evl.const h) e
     |_=>cases e)
theorem qB(hc:rG HZ cf)(hl:cq LA lp):cq (jC P ans HZ LA) (λm=>jC P ans (cf m) (lp m)):=λf c st r e=>by
 simp only[jC] at e ⊢;refine iW hc hl c (K:=λm e BF=>match e with
  |.norm=>lp m f c (jN (ans f) c BF)
  |e=>some (e,BF)) (λex BF r e=>?_) e
 cases ex with
 |norm=>exact hl _ _ _ _ e
 |_=>exact Evl.const e
def CfLe(a b:aO):Prop:=∀c x s r,a c x s=some r->b c x s=some r
def LpLe(a b:aP):Prop:=∀f c s r,a f c s=some r->b f c s=some r
theorem CfLe.lim{a b:aO}(h:CfLe a b):rG a λ_=>b:=λc x s r e=>Evl.const (h c x s r e)
theorem LpLe.lim{a b:aP}(h:LpLe a b):cq a λ_=>b:=λc x s r e=>Evl.const (h c x s r e)
theorem Evl.one{R:Type}{r:R}{x:Option R}(h:Evl (λ_=>x) r):x=some r:=by
 obtain⟨n,h⟩:=h;exact h n (Ae _)
theorem uZ{a b:aO}{c d:aP}(h:CfLe a b)(k:LpLe c d):CfLe (cE P ans pr a c) (cE P ans pr b d):=λx y s r e=>(pW h.lim k.lim x y s r e).one
theorem vL{a b:aO}{c d:aP}(h:CfLe a b)(k:LpLe c d):LpLe (jC P ans a c) (jC P ans b d):=λx y s r e=>(qB h.lim k.lim x y s r e).one
theorem dL:∀n,CfLe (run P ans pr n).1 (run P ans pr (n+1)).1/\LpLe (run P ans pr n).2 (run P ans pr (n+1)).2
 |0=>⟨λc x s r e=>(by cases e),λc x s r e=>(by cases e)⟩
 |n+1=>⟨uZ (dL n).1 (dL n).2,vL (dL n).1 (dL n).2⟩
theorem nz{n m:Nat}(h:n<=m):CfLe (run P ans pr n).1 (run P ans pr m).1/\LpLe (run P ans pr n).2 (run P ans pr m).2:=by
 induction h with
 |refl=>exact⟨λ_ _ _ _ e=>e,λ_ _ _ _ e=>e⟩
 |step _ ih=>exact⟨λc x s r e=>(dL _).1 _ _ _ _ (ih.1 c x s r e),λc x s r e=>(dL _).2 _ _ _ _ (ih.2 c x s r e)⟩
open Classical in
noncomputable def lim{α:Type}(x:Nat->Option α):Option α:=if h:∃n r,x n=some r then x (Classical.choose h) else none
theorem sr{α:Type}{x:Nat->Option α}{r:α}(hm:∀n m r,n<=m->x n=some r->x m=some r):lim x=some r↔∃n,x n=some r:=by
 unfold lim;constructor
 ·intro h
  split at h
  ·exact⟨_,h⟩
  ·cases h
 ·rintro⟨n,hn⟩
  rw[dif_pos ⟨n,r,hn⟩];have hch:=Classical.choose_spec (⟨n,r,hn⟩:∃n r,x n=some r);obtain⟨r',V5⟩:=hch;have h1:=hm _ (max n (Classical.choose (⟨n,r,hn⟩:∃n r,x n=some r))) _ (Nat.le_max_right _ _) V5;have h2:=hm n _ _ (Nat.le_max_left _ (Classical.choose (⟨n,r,hn⟩:∃n r,x n=some r))) hn;rw[h1] at h2;rw[V5];exact h2
variable (P ans pr) in
noncomputable def DF:aO:=λc a s=>lim λn=>(run P ans pr n).1 c a s
variable (P ans pr) in
noncomputable def EH:aP:=λf c st=>lim λn=>(run P ans pr n).2 f c st
theorem eK{c:Callee}{a:List Slot}{s:AN}{r:ARes×AN}:DF P ans pr c a s=some r↔∃n,(run P ans pr n).1 c a s=some r:=sr λn m r h e=>(nz h).1 _ _ _ _ e
theorem nS{f:FuncId}{c:Code}{s:St}{r:bD×St}:EH P ans pr f c s=some r↔∃n,(run P ans pr n).2 f c s=some r:=sr λn m r h e=>(nz h).2 _ _ _ _ e
theorem aAn:rG (DF P ans pr) λm=>(run P ans pr m).1:=λc a s r e=>by
 obtain⟨n,hn⟩:=eK.1 e;exact⟨n,λm hm=>(nz hm).1 _ _ _ _ hn⟩
theorem aAK:cq (EH P ans pr) λm=>(run P ans pr m).2:=λc a s r e=>by
 obtain⟨n,hn⟩:=nS.1 e;exact⟨n,λm hm=>(nz hm).2 _ _ _ _ hn⟩
theorem wY(n:Nat):CfLe (run P ans pr n).1 (DF P ans pr)/\LpLe (run P ans pr n).2 (EH P ans pr):=⟨λ_ _ _ _ e=>eK.2 ⟨n,e⟩,λ_ _ _ _ e=>nS.2 ⟨n,e⟩⟩
theorem sZ(c:Callee)(a:List Slot)(s:AN):DF P ans pr c a s=cE P ans pr (DF P ans pr) (EH P ans pr) c a s:=by
 refine Option.ext λr=>⟨λe=>?_,λe=>?_⟩
 ·obtain⟨n,hn⟩:=eK.1 e
  cases n with
  |zero=>cases hn
  |succ n=>exact uZ (wY n).1 (wY n).2 _ _ _ _ hn
 ·obtain⟨n,hn⟩:=pW aAn aAK _ _ _ _ e
  exact eK.2 ⟨n+1,hn n (Ae _)⟩
theorem aLQ(f:FuncId)(c:Code)(s:St):EH P ans pr f c s=jC P ans (DF P ans pr) (EH P ans pr) f c s:=by
 refine Option.ext λr=>⟨λe=>?_,λe=>?_⟩
 ·obtain⟨n,hn⟩:=nS.1 e
  cases n with
  |zero=>cases hn
  |succ n=>exact vL (wY n).1 (wY n).2 _ _ _ _ hn
 ·obtain⟨n,hn⟩:=qB aAn aAK _ _ _ _ e
  exact nS.2 ⟨n+1,hn n (Ae _)⟩
theorem aB0{B0:Nat}(E:Env P ans B0 pr){f:FuncId}{args:List Slot}{sto:AN}{res:ARes}{AL:AN}(HI:pr f args=none)(e:DF P ans pr (.fn f) args sto=some (res,AL)){w:World}{Z:HT}{J:List Nat}{ow:Own}{vs:Array Value}(BM:dW ans B0 w Z J ow args vs sto) :
  Calls P f vs w λe w'=>∃Z' J' AP,Fr w Z ow w' Z' AP/\WSat Z' w'/\match res with
   |.ret s=>∃v,e=.returned v/\SRel w' B0 Z' J' AP #[] 0 s v
   |.pan x=>∃v,e=.panicked [{ v,recovered:=false }]/\VRel Z' J' x v:=by
 obtain⟨n,hn⟩:=eK.1 e;cases n with
 |zero=>cases hn
 |succ n=>exact aCw E HI hn BM
end
section
open Go.RowKit
variable {P:Program}{ans:FuncId->AK}{B0:Nat}
def PureOK(P:Program)(f:FuncId)(args:List AVal)(res:AVal):Prop :=
 (∃F,P.funcs[f]?=some F/\F.body.isSome=true)/\∀(w:World)(Z:HT)(vs:Array Value),WSat Z w->args.length=vs.size->(∀(i:Nat) a,args[i]?=some a->VRel Z [] a (vs.getD i undef)) ->
  ∀c cs,∃w' Z' v,Fr w Z (λ_=>none) w' Z' (λ_=>none)/\WSat Z' w'/\VRel Z' [] res v/\Steps P (lone (Frame.enter P f vs .normal) (c::cs) w) (lone (c.finish v) cs w')
theorem PureOK.prim{f:FuncId}{args:List AVal}{res:AVal}(h:PureOK P f args res)(hl:∀a∈args,lok 0 a=true):(∃F,P.funcs[f]?=some F/\F.body.isSome=true) /\
  ∀sto w Z J ow vs,dW ans B0 w Z J ow (args.map .val) vs sto->∀c cs,eI P ans B0 w Z J ow sto c cs (lone (Frame.enter P f vs .normal) (c::cs) w) (.ret (.val res)) sto:=by
 refine⟨h.1,λsto w Z J ow vs hp c cs=>?_⟩
 obtain⟨w',Z',v,hf,hw,hv,hs⟩:=h.2 w Z vs hp.wsat (by simpa using hp.size) (λi a ha=>by
  have h1:=hp.args i (.val a) (by simp[ha]);have h2:=hl a (Be ha);cases h1 with
  |val _ _ h1=>simpa using h1.lok h2) c cs
 have D4:Fr w Z ow w' Z' ow:=⟨hf.le,hf.size,λb hb _=>hf.keep b hb rfl,λb hb=>.inl hb,hf.os,hf.tape,hf.output⟩
 refine⟨w',Z',J,ow,D4,aI _,hw,hp.objs.mono hf.le λi _ b s hb=>?_,λb hb=>Bx (hp.lt b hb) hf.size,⟨rfl,Ae _,λ_ _=>rfl⟩,rfl,v,.val _ _ (hv.mono (HT.le_refl _) (pre_nil _)),hs⟩;have AX:=hp.lt b (by simp[hb])
 have:=hf.keep b AX rfl
 exact⟨hb,this.1,λo ho=>by rw[this.2 o];exact ho⟩
theorem lM{w:World}{Z:HT}{args:List Slot}{vs:Array Value}(hw:WSat Z w)(hl:args.length=vs.size)(hf:∀s∈args,s.free=true)(ha:∀(i:Nat) s,args[i]?=some s->SRel w w.heap.size Z [] (λ_=>none) #[] i s (vs.getD i undef)):dW ans w.heap.size w Z [] (λ_=>none) args vs ⟨[],0⟩ :=
 ⟨hw,Ae _,λb h=>absurd rfl h,hl,hf,ha,⟨rfl,λi o h=>by simp at h⟩,Ae _⟩
theorem da{w:World}{Z:HT}{c:Frame}{cs:List Frame}{m:Machine}{res:AVal}(h:eI P ans w.heap.size w Z [] (λ_=>none) ⟨[],0⟩ c cs m (.ret (.val res)) ⟨[],0⟩) :
  ∃w' Z' v,Fr w Z (λ_=>none) w' Z' (λ_=>none)/\WSat Z' w'/\VRel Z' [] res v/\Steps P m (lone (c.finish v) cs w'):=by
 obtain⟨w',Z',J',AP,hf,_,hw,ho,_,_,_,v,hs,A7⟩:=h;have hρ:J'=[]:=Cm.1 ho.1;subst hρ;refine⟨w',Z',v,⟨hf.le,hf.size,hf.keep,λb hb=>absurd rfl hb,hf.os,hf.tape,hf.output⟩,hw,?_,A7⟩;cases hs with
 |val _ _ h=>exact h
theorem PureOK.ofRun{Jw:FuncId->AK}{Ok:dY}(E:∀B0,Env P Jw B0 Ok){f:FuncId}{args:List AVal}{res:AVal}(e:DF P Jw Ok (.fn f) (args.map .val) ⟨[],0⟩=some (.ret (.val res),⟨[],0⟩)):PureOK P f args res:=by
 obtain⟨n,hn⟩:=eK.1 e;have key:=λB0=>(mK (E B0) n).1.fn f _ _ _ _ hn
 obtain⟨F,h1,h2,_⟩:=(key 0).1;refine⟨⟨F,h1,h2⟩,λw Z vs hw hl ha c cs=>?_⟩;refine da ((key w.heap.size).2 w Z [] (λ_=>none) vs (lM hw (by simpa using hl) (λs hs=>?_) (λi s hs=>?_)) c cs)
 ·obtain⟨a,_,rfl⟩:=Cu.1 hs;rfl
 ·rw[Ao,Al] at hs
  obtain⟨a,I9,rfl⟩:=hs;exact .val _ _ (ha i a I9)
theorem eH{w w':World}{Z:HT}(hw:WSat Z w)(hb:Below w.heap.size w w'):WSat Z w':=⟨Bj hw.size8 hb.size,hw.glob,by
 obtain⟨cs,t,fr,h1,h2⟩:=hw.len5;exact⟨cs,t,fr,(hb.block 5 (hw.lt (hw.glob.pow 0 (by omega)))).trans h1,h2⟩,λb o c e=>by
 obtain⟨h1,v,h2,h3⟩:=hw.sat b o c e;exact⟨h1,v,(cell_congr (hb.block b (hw.lt e)) o).trans h2,h3⟩⟩
theorem nI{w w':World}{Z:HT}(hb:Below w.heap.size w w'):Fr w Z (λ_=>none) w' Z (λ_=>none) :=
 ⟨HT.le_refl _,hb.size,λb h _=>⟨hb.block b h,λ_=>rfl⟩,λb h=>absurd rfl h,hb.os,hb.tape,hb.output⟩
theorem fG{f:FuncId}{vs:Array Value}{w:World}{R:Value->World->Prop}(h:Calls P f vs w λe w'=>∃v,e=.returned v/\R v w')(c:Frame)(cs:List Frame) :
  ∃w' v,R v w'/\Steps P (lone (Frame.enter P f vs .normal) (c::cs) w) (lone (c.finish v) cs w'):=by
 obtain⟨e,w',fr,⟨v,rfl,hr⟩,hc,_,hl⟩:=h (c::cs);exact⟨w',v,hr,Steps.trans hc (.one (step_leave_returned hl))⟩
theorem PureOK.ofCalls{f:FuncId}{args:List AVal}{res:AVal}(hF:∃F,P.funcs[f]?=some F/\F.body.isSome=true)
  (h:∀(w:World)(Z:HT)(vs:Array Value),WSat Z w->args.length=vs.size->(∀(i:Nat) a,args[i]?=some a->VRel Z [] a (vs.getD i undef)) ->
   Calls P f vs w λe w'=>∃v,e=.returned v/\VRel Z [] res v/\Below w.heap.size w w'):PureOK P f args res:=by
 refine⟨hF,λw Z vs hw hl ha c cs=>?_⟩;obtain⟨w',v,⟨hv,hb⟩,hs⟩:=fG (h w Z vs hw hl ha) c cs;exact⟨w',Z,v,nI hb,eH hw hb,hv,hs⟩
def PureT(P:Program)(f:FuncId)(args res:List AVal):Prop :=
 (∃F,P.funcs[f]?=some F/\F.body.isSome=true)/\∀(w:World)(Z:HT)(vs:Array Value),WSat Z w->args.length=vs.size->(∀(i:Nat) a,args[i]?=some a->VRel Z [] a (vs.getD i undef)) ->
  ∀c cs,∃w' Z' us,Fr w Z (λ_=>none) w' Z' (λ_=>none)/\WSat Z' w'/\res.length=us.length/\(∀(i:Nat) x u,res[i]?=some x->us[i]?=some u->VRel Z' [] x u)/\Steps P (lone (Frame.enter P f vs .normal) (c::cs) w) (lone (c.finish (.tuple ⟨us⟩)) cs w')
theorem PureT.prim{f:FuncId}{args res:List AVal}(h:PureT P f args res)(hl:∀a∈args,lok 0 a=true):(∃F,P.funcs[f]?=some F/\F.body.isSome=true) /\
  ∀sto w Z J ow vs,dW ans B0 w Z J ow (args.map .val) vs sto->∀c cs,eI P ans B0 w Z J ow sto c cs (lone (Frame.enter P f vs .normal) (c::cs) w) (.ret (.tup res)) sto:=by
 refine⟨h.1,λsto w Z J ow vs hp c cs=>?_⟩
 obtain⟨w',Z',us,hf,hw,hlen,hv,hs⟩:=h.2 w Z vs hp.wsat (by simpa using hp.size) (λi a ha=>by
  have h1:=hp.args i (.val a) (by simp[ha]);have h2:=hl a (Be ha);cases h1 with
  |val _ _ h1=>simpa using h1.lok h2) c cs
 have D4:Fr w Z ow w' Z' ow:=⟨hf.le,hf.size,λb hb _=>hf.keep b hb rfl,λb hb=>.inl hb,hf.os,hf.tape,hf.output⟩
 refine⟨w',Z',J,ow,D4,aI _,hw,hp.objs.mono hf.le λi _ b s hb=>?_,λb hb=>Bx (hp.lt b hb) hf.size,⟨rfl,Ae _,λ_ _=>rfl⟩,rfl,_,.tup _ _ hlen (λi x u h1 h2=>(hv i x u h1 h2).mono (HT.le_refl _) (pre_nil _)),hs⟩;have AX:=hp.lt b (by simp[hb])
 have:=hf.keep b AX rfl
 exact⟨hb,this.1,λo ho=>by rw[this.2 o];exact ho⟩
end
theorem Li{P:Program}{ans:FuncId->AK}{pr:dY}{f:FuncId}{args:List Slot}{sto:AN}{r:ARes}{s:Slot}(h1:pr f args=some (some r))(h2:zN r=some s):DF P ans pr (.fn f) args sto=some (.ret s,sto):=by
 rw[sZ];simp only[cE,h1,Ai,h2,Bw]
theorem RU{α:Type}{X:Option (α×AN)}{r:α}{sto:AN}(h:X=some (r,⟨sto.objs.take sto.objs.length,sto.lo⟩)):X=some (r,sto):=by
 rw[h,Ez]
def loops:Code->List Code
 |.seq a b=>loops a++loops b
 |.cond _ a b=>loops a++loops b
 |.block _ c=>loops c
 |.loop c=>c::loops c
 |.scope c=>loops c
 |.rangeFunc _ _ a b=>loops a++loops b
 |_=>[]
def aJO(fn:Func)(n:Nat):Option Code:=match fn.body with|some c=>(loops c)[n]?|none=>none
def cG(fn:Func)(n:Nat):Code:=(aJO fn n).getD .skip
section
variable {P:Program}{ans:FuncId->AK}{cf:aO}{lp:aP}{f:FuncId}{R:Type}{K:bD->St->Option R}{a b c:Code}{st:St}{tm BA:List Slot}{sto AL:AN}{sc:List (Nat×Slot)}
def KS(P:Program)(ans:FuncId->AK)(cf:aO)(lp:aP)(f:FuncId)(b:Code)(K:bD->St->Option R):bD->St->Option R:=λe BF =>
 match e with
 |.norm=>XK P ans cf lp f b BF K
 |.exit id=>K (.exit id) BF
 |.ret=>K .ret BF
 |.pan v=>K (.pan v) BF
def KB(id:Nat)(K:bD->St->Option R):bD->St->Option R:=λe BF =>
 match e with
 |.norm=>K .norm BF
 |.exit C8=>(bif Nat.beq C8 id then K .norm BF else K (.exit C8) BF)
 |.ret=>K .ret BF
 |.pan v=>K (.pan v) BF
theorem xK:XK P ans cf lp f .skip st K=K .norm st:=rfl
theorem xE:XK P ans cf lp f .ret st K=K .ret st:=rfl
theorem kbX{id:Nat}:KB id K (.exit id) st=K .norm st:=by simp[KB]
theorem kbO{id i:Nat}(h:Nat.beq i id=false):KB id K (.exit i) st=K (.exit i) st:=by simp[KB,h]
theorem xT{o:Operand}{t:Bool}(h:A9 (ans f).keep tm ⟨[],sto⟩ o=.val (.bool t))(ht:t=true):XK P ans cf lp f (.cond o a b) ⟨tm,sto⟩ K=XK P ans cf lp f a ⟨tm,sto⟩ K:=by
 subst ht;simp only[XK,h,asBool,Ba]
theorem xF{o:Operand}{t:Bool}(h:A9 (ans f).keep tm ⟨[],sto⟩ o=.val (.bool t))(ht:t=false):XK P ans cf lp f (.cond o a b) ⟨tm,sto⟩ K=XK P ans cf lp f b ⟨tm,sto⟩ K:=by
 subst ht;simp only[XK,h,asBool,Aq]
theorem xR{id:Nat}{ops:Array Oper}(h:∀(kp:AVal->RS->Option R)(kn:RS->Option R),lT P ans (ans f) false cf tm id ops kp kn ops.toList 0 ⟨[],sto⟩=kn ⟨sc,AL⟩)(hc:commit (ans f).keep tm sc=BA):XK P ans cf lp f (.region id ops false) ⟨tm,sto⟩ K=K .norm ⟨BA,AL⟩:=by
 simp only[XK,h,hc]
theorem xD{id:Nat}{ops:Array Oper}(hg:(tH ans (ans f) id ops&&Ma ans (ans f) id ops)=true)(ER:sT (ans f) id tm=true)(h:∀(kp:AVal->RS->Option R)(kn:RS->Option R),lT P ans (ans f) true cf tm id ops kp kn ops.toList 0 ⟨[],sto⟩=kn ⟨sc,AL⟩)(hc:commit (ans f).keep tm sc=BA):XK P ans cf lp f (.region id ops true) ⟨tm,sto⟩ K=K .norm ⟨BA,AL⟩:=by
 simp only[XK,aH4 (Dm.1 hg).2,Aq,h,hc,hg,ER];rfl
theorem xM{id:Nat}{ops:Array Oper}(hm:yR (ans f) id=true):XK P ans cf lp f (.region id ops true) ⟨tm,sto⟩ K=y5 P (ans f) ops.toList ⟨tm,sto⟩ K:=by
 simp only[XK,hm,Ba]
theorem xL{e:bD}{BF:St}(h:lp f c (jN (ans f) c st)=some (e,BF)):XK P ans cf lp f (.loop c) st K=K e BF:=by
 simp only[XK,h,Ai]
def KF(P:Program)(ans:FuncId->AK)(f:FuncId)(fn:Func)(n:Nat):bD->St->Option (ARes×AN):=λe st =>
 match e with
 |.norm=>finish P (ans f) fn n st
 |.ret=>finish P (ans f) fn n st
 |.pan v=>some (.pan v,st.sto)
 |.exit _=>none
theorem fnX{pr:dY}{fn:Func}{args:List Slot}(h1:pr f args=none)(h3:(ans f).prim=false)(h2:P.funcs[f]?=some fn)(hb:fn.body=some c)(hg:(Nat.beq fn.ntmps (ans f).nt&&Nat.ble args.length fn.ntmps)=true)(ht:((ans f).keep.map λt=>(args[t]?).getD .dead)=tm) :
  DF P ans pr (.fn f) args sto=XK P ans (DF P ans pr) (EH P ans pr) f c ⟨tm,sto⟩ (KF P ans f fn sto.objs.length):=by
 rw[sZ];simp only[cE,h1,h2,h3,hb,Aq,hg,aL,Ba,ht];rfl
def KL(P:Program)(ans:FuncId->AK)(lp:aP)(f:FuncId)(c:Code):bD->St->Option (bD×St):=λe BF =>
 match e with
 |.norm=>lp f c (jN (ans f) c BF)
 |e=>some (e,BF)
theorem lpX{pr:dY}:EH P ans pr f c st=XK P ans (DF P ans pr) (EH P ans pr) f c st (KL P ans (EH P ans pr) f c):=by rw[aLQ];rfl
theorem cZ{n:Int}(h1:-9223372036854775808<=n)(h2:n<9223372036854775808):IntKind.i64.wrap n=n:=by
 rw[IntKind.wrap_i64];omega
theorem aJT(l:List AObj)(a:AObj):(l++[a])[l.length]?=some a:=by simp
theorem aJU(l:List AObj)(a b:AObj):((l++[a])++[b])[l.length]?=some a:=by simp
theorem aJV(l:List AObj)(a b c:AObj):(((l++[a])++[b])++[c])[l.length]?=some a:=by simp
theorem aFe(l:List AObj)(a b c:AObj):(((l++[a])++[b])++[c])[(l++[a]).length]?=some b:=by simp
theorem aJX(l:List AObj)(a b:AObj):(l++[a]).set l.length b=l++[b]:=by simp
theorem aOn(cs:List AVal):(AVal.agg cs).cells=cs:=rfl
theorem aOq(k:IntKind)(n:Int):(AVal.int k n).cells=[.int k n]:=rfl
theorem aJA(b:Bool):(AVal.bool b).cells=[.bool b]:=rfl
theorem aOu(s:List UInt8):(AVal.str s).cells=[.str s]:=rfl
theorem aD3(s:List AVal):(AVal.slice s).cells=[.slice s]:=rfl
theorem aJB(f:FuncId)(l:List AVal):(AVal.func f l).cells=[.func f l]:=rfl
theorem aJD:AVal.nilfunc.cells=[.nilfunc]:=rfl
theorem aJF:AVal.nilptr.cells=[.nilptr]:=rfl
theorem aJE:AVal.nilmap.cells=[.nilmap]:=rfl
theorem aOr(i o:Nat):(AVal.loc i o).cells=[.loc i o]:=rfl
theorem aOs(i:Nat):(AVal.amap i).cells=[.amap i]:=rfl
theorem aOw(i:Nat):(AVal.yld i).cells=[.yld i]:=rfl
theorem tI{pr:dY}{fn:Func}{n:Nat}{x:bD×St}(h:aJO fn n=some c)(k:XK P ans (DF P ans pr) (EH P ans pr) f c st (KL P ans (EH P ans pr) f (cG fn n))=some x):EH P ans pr f (cG fn n) st=some x:=by
 have hc:cG fn n=c:=by simp[cG,h]
 rw[lpX,hc];rw[hc] at k;exact k
theorem tA{pr:dY}{fn:Func}{args:List Slot}{x:ARes×AN}(h1:pr f args=none)(h3:(ans f).prim=false)(h2:P.funcs[f]?=some fn)(hb:fn.body=some c)(hg:(Nat.beq fn.ntmps (ans f).nt&&Nat.ble args.length fn.ntmps)=true)(ht:((ans f).keep.map λt=>(args[t]?).getD .dead)=tm)
  (k:XK P ans (DF P ans pr) (EH P ans pr) f c ⟨tm,sto⟩ (KF P ans f fn sto.objs.length)=some x):DF P ans pr (.fn f) args sto=some x:=(fnX h1 h3 h2 hb hg ht).trans k
variable {r:R}
theorem tS(h:XK P ans cf lp f a st (KS P ans cf lp f b K)=some r):XK P ans cf lp f (.seq a b) st K=some r:=h
theorem tB{id:Nat}(h:XK P ans cf lp f c st (KB id K)=some r):XK P ans cf lp f (.block id c) st K=some r:=h
theorem tO(h:XK P ans cf lp f c st K=some r):XK P ans cf lp f (.scope c) st K=some r:=h
theorem tK(h:K .norm st=some r):XK P ans cf lp f .skip st K=some r:=h
theorem tX{id:Nat}(h:K (.exit id) st=some r):XK P ans cf lp f (.exit id) st K=some r:=h
theorem tE(h:K .ret st=some r):XK P ans cf lp f .ret st K=some r:=h
theorem tsN(h:XK P ans cf lp f b st K=some r):KS P ans cf lp f b K .norm st=some r:=h
theorem tsX{id:Nat}(h:K (.exit id) st=some r):KS P ans cf lp f b K (.exit id) st=some r:=h
theorem tsE(h:K .ret st=some r):KS P ans cf lp f b K .ret st=some r:=h
theorem tbN{id:Nat}(h:K .norm st=some r):KB id K .norm st=some r:=h
theorem tbX{id:Nat}(h:K .norm st=some r):KB id K (.exit id) st=some r:=kbX.trans h
theorem Zd{id i:Nat}(hi:Nat.beq i id=false)(h:K (.exit i) st=some r):KB id K (.exit i) st=some r:=(kbO hi).trans h
theorem tbE{id:Nat}(h:K .ret st=some r):KB id K .ret st=some r:=h
theorem tT{o:Operand}{t:Bool}(h:A9 (ans f).keep tm ⟨[],sto⟩ o=.val (.bool t))(ht:t=true)(k:XK P ans cf lp f a ⟨tm,sto⟩ K=some r):XK P ans cf lp f (.cond o a b) ⟨tm,sto⟩ K=some r:=(xT h ht).trans k
theorem tF{o:Operand}{t:Bool}(h:A9 (ans f).keep tm ⟨[],sto⟩ o=.val (.bool t))(ht:t=false)(k:XK P ans cf lp f b ⟨tm,sto⟩ K=some r):XK P ans cf lp f (.cond o a b) ⟨tm,sto⟩ K=some r:=(xF h ht).trans k
theorem tR{id:Nat}{ops:Array Oper}(h:∀(kp:AVal->RS->Option R)(kn:RS->Option R),lT P ans (ans f) false cf tm id ops kp kn ops.toList 0 ⟨[],sto⟩=kn ⟨sc,AL⟩)(hc:commit (ans f).keep tm sc=BA)(k:K .norm ⟨BA,AL⟩=some r):XK P ans cf lp f (.region id ops false) ⟨tm,sto⟩ K=some r:=(xR h hc).trans k
theorem tD{id:Nat}{ops:Array Oper}(hg:(tH ans (ans f) id ops&&Ma ans (ans f) id ops)=true)(ER:sT (ans f) id tm=true)(h:∀(kp:AVal->RS->Option R)(kn:RS->Option R),lT P ans (ans f) true cf tm id ops kp kn ops.toList 0 ⟨[],sto⟩=kn ⟨sc,AL⟩)(hc:commit (ans f).keep tm sc=BA)(k:K .norm ⟨BA,AL⟩=some r):XK P ans cf lp f (.region id ops true) ⟨tm,sto⟩ K=some r:=(xD hg ER h hc).trans k
theorem CH{an:AK}{drawn:Bool}{id i:Nat}{ops:Array Oper}{kp:AVal->RS->Option R}{kn:RS->Option R}{o:Oper}{os:List Oper}{rs rs':RS}{x:Option R}(h:∀next:RS->Option R,gG P ans an drawn cf tm id ops kp o i rs next=next rs')(k:lT P ans an drawn cf tm id ops kp kn os (i+1) rs'=x):lT P ans an drawn cf tm id ops kp kn (o::os) i rs=x:=(h _).trans k
theorem tL{e:bD}{BF:St}(h:lp f c (jN (ans f) c st)=some (e,BF))(k:K e BF=some r):XK P ans cf lp f (.loop c) st K=some r:=(xL h).trans k
theorem tfE{fn:Func}{n:Nat}{x:ARes×AN}(h:finish P (ans f) fn n st=some x):KF P ans f fn n .ret st=some x:=h
theorem tfN{fn:Func}{n:Nat}{x:ARes×AN}(h:finish P (ans f) fn n st=some x):KF P ans f fn n .norm st=some x:=h
theorem tlN{x:bD×St}{lp:aP}(h:lp f c (jN (ans f) c st)=some x):KL P ans lp f c .norm st=some x:=h
theorem Rt{id:Nat}:KL P ans lp f c (.exit id) st=some (.exit id,st):=rfl
theorem Np:KL P ans lp f c .ret st=some (.ret,st):=rfl
end
section
variable {P:Program}{ans:FuncId->AK}{cf:aO}{lp:aP}{f:FuncId}{R:Type}{K:bD->St->Option R}{tm:List Slot}{sto:AN}{r:R}
def ranges:Code->List (Array Tmp×Code×Code)
 |.seq a b=>ranges a++ranges b
 |.cond _ a b=>ranges a++ranges b
 |.block _ c=>ranges c
 |.loop c=>ranges c
 |.scope c=>ranges c
 |.rangeFunc _ ps a b=>(ps,a,b)::(ranges a++ranges b)
 |_=>[]
def aFT(fn:Func)(n:Nat):Option (Array Tmp×Code×Code):=match fn.body with|some c=>(ranges c)[n]?|none=>none
def sF(fn:Func)(n:Nat):Array Tmp×Code×Code:=(aFT fn n).getD (#[],.skip,.skip)
def kG(f:FuncId)(fn:Func)(n:Nat)(tm:List Slot)(p:Option Code)(s:LoopState):jR:=⟨f,tm,(sF fn n).1,(sF fn n).2.1,(sF fn n).2.2,p,s⟩
theorem Nq{fo:Operand}{ps:Array Tmp}{assign body:Code}{g:FuncId}{caps:List AVal}{s:Slot}{O O':List AObj}{lo n:Nat}{fn:Func}{f':FuncId}{tl:List Slot}
  (h:A9 (ans f).keep tm ⟨[],sto⟩ fo=.val (.func g caps))
  (hc:cf (.fn g) (.val (.yld sto.objs.length)::caps.map .val) ⟨sto.objs++[.loop ⟨f,tm.map dV,ps,assign,body,none,.ready⟩],sto.lo⟩=some (.ret s,⟨O',lo⟩))
  (hl:O'[sto.objs.length]?=some (.loop (kG f' fn n tl none .ready))) (ht:O'.take sto.objs.length=O)
  (k:K .norm ⟨tm,⟨O,lo⟩⟩=some r):XK P ans cf lp f (.rangeFunc fo ps assign body) ⟨tm,sto⟩ K=some r:=by
 subst ht;simp only[XK,h,hc,Ai,hl,kG];exact k
def U4(i n:Nat):bD->St->Option (ARes×AN):=λe st =>
 match e with
 |.norm=>dN st.sto i λl2=>some (.ret (.val (.bool true)),cut n (setLoop st.sto i { l2 with state:=.ready,pend:=none }))
 |.ret=>dN st.sto i λl2=>some (.ret (.val (.bool false)),cut n (setLoop st.sto i { l2 with state:=.done,pend:=some .ret }))
 |.exit id=>dN st.sto i λl2=>some (.ret (.val (.bool false)),cut n (setLoop st.sto i { l2 with state:=.done,pend:=some (.exit id) }))
 |.pan v=>some (.pan v,st.sto)
def ZS(P:Program)(ans:FuncId->AK)(cf:aO)(lp:aP)(i n:Nat)(f:FuncId)(body:Code):bD->St->Option (ARes×AN):=λe st =>
 match e with
 |.norm=>dN st.sto i λl1 =>
  match l1.state with
  |.ready=>XK P ans cf lp f body { st with sto:=setLoop st.sto i { l1 with state:=.busy } } (U4 i n)
  |_=>none
 |_=>none
theorem tY{pr:dY}{i n:Nat}{args:List Slot}{O:List AObj}{lo:Nat}{f:FuncId}{fn:Func}{p:Option Code}{tm BA:List Slot}{ps:Array Tmp}{a b:Code}{x:ARes×AN}(hl:O[i]?=some (.loop (kG f fn n tm p .ready)))(hq:aFT fn n=some (ps,a,b))
  (hg:(Nat.beq args.length ps.size&&cD a&&cD b&&args.all Slot.isVal&&(P.funcs[f]?).isSome&&ps.toList.all (λp=>Nat.blt p (ans f).nt))=true) (hb:Nat.ble lo i=true)
  (ht:cS (ans f).keep tm (ps.toList.zip args)=BA)
  (k:XK P ans (DF P ans pr) (EH P ans pr) f a ⟨BA,⟨O,lo⟩⟩ (ZS P ans (DF P ans pr) (EH P ans pr) i O.length f b)=some x) :
  DF P ans pr (.yld i) args ⟨O,lo⟩=some x:=by
 have h1:sF fn n=(ps,a,b):=by simp[sF,hq]
 rw[sZ];simp only[cE,dN,hl];simp only[Ac] at hg;obtain⟨⟨⟨⟨⟨g1,g2⟩,g3⟩,g4⟩,g5⟩,g6⟩:=hg;simp only[kG,h1,hb,g1,g2,g3,g4,g5,g6,Bool.and_self,aL,Ba];subst ht;exact k
theorem Ob{i n m:Nat}{O O':List AObj}{lo:Nat}{f:FuncId}{fn:Func}{p:Option Code}{tm tl:List Slot}{b:Code}{x:ARes×AN}(hl:O[i]?=some (.loop (kG f fn n tl p .ready)))(hs:O.set i (.loop (kG f fn n tl p .busy))=O')
  (k:XK P ans cf lp f b ⟨tm,⟨O',lo⟩⟩ (U4 i m)=some x) :
  ZS P ans cf lp i m f b .norm ⟨tm,⟨O,lo⟩⟩=some x:=by
 subst hs;simp only[ZS,dN,hl,setLoop];exact k
theorem aRX{i n m:Nat}{O O':List AObj}{lo:Nat}{f:FuncId}{fn:Func}{p:Option Code}{s:LoopState}{tm tl:List Slot}(hl:O[i]?=some (.loop (kG f fn n tl p s)))(hs:(O.set i (.loop (kG f fn n tl none .ready))).take m=O') :
  U4 i m .norm ⟨tm,⟨O,lo⟩⟩=some (.ret (.val (.bool true)),⟨O',lo⟩):=by
 subst hs;simp only[U4,dN,hl,setLoop,cut];rfl
theorem aRr(l e:List AObj)(k:Nat):(l++e)[l.length+k]?=e[k]?:=by rw[Bh (by omega)];congr 1;omega
theorem aRq(l e:List AObj):(l++e)[l.length]?=e[0]?:=by rw[Bh (by omega)];congr 1;omega
theorem OO(l e:List AObj)(k:Nat)(v:AObj):(l++e).set (l.length+k) v=l++e.set k v:=by rw[Hn _ _ (by omega)];congr 2;omega
theorem aRK(l e:List AObj)(v:AObj):(l++e).set l.length v=l++e.set 0 v:=by rw[Hn _ _ (by omega)];congr 2;omega
theorem qK(l e:List AObj)(k:Nat):(l++e).take (l.length+k)=l++e.take k:=by rw[List.take_append,Ci (by omega)];congr 2;omega
theorem qQ{α:Type}{X:Option (α×AN)}{r:α}{sto:AN}(e:List AObj)(h:X=some (r,⟨(sto.objs++e).take sto.objs.length,sto.lo⟩)):X=some (r,sto):=by
 rw[h,List.take_left'];rfl
theorem FL.{u}{α : Type u} : (∀a b c : List α, (a ++ b) ++ c=a ++ (b ++ c))/\(∀a b : List α, (a ++ b).length=a.length+b.length)/\(∀(a : α)(l : List α), (a :: l).length=l.length+1)/\(([] : List α).length=0) /\
 (∀(a : α)(l m : List α), (a :: l) ++ m=a :: (l ++ m))/\(∀l : List α, [] ++ l=l)/\(∀l : List α, l.take 0=[])/\(∀(n : Nat)(a : α)(l : List α), (a :: l).take (n+1)=a :: l.take n) /\
 (∀(a b : α)(l : List α), (a :: l).set 0 b=b :: l)/\(∀(n : Nat)(a b : α)(l : List α), (a :: l).set (n+1) b=a :: l.set n b)/\(∀(a : α)(l : List α), (a :: l)[0]?=some a)/\(∀(n : Nat)(a : α)(l : List α), (a :: l)[n+1]?=l[n]?) := ⟨As, λ_ _ => Bu, λ_ _ => rfl, rfl, λ_ _ _ => rfl, λ_ => rfl, λ_ => rfl, λ_ _ _ => rfl, λ_ _ _ => rfl, λ_ _ _ _ => rfl, λ_ _ => rfl, λ_ _ _ => rfl⟩
theorem FO : (∀(l e : List AObj)(k : Nat), (l ++ e)[l.length+k]?=e[k]?)/\(∀l e : List AObj, (l ++ e)[l.length]?=e[0]?)/\(∀(l e : List AObj)(k : Nat)(v : AObj), (l ++ e).set (l.length+k) v=l ++ e.set k v)/\(∀(l e : List AObj)(v : AObj), (l ++ e).set l.length v=l ++ e.set 0 v)/\(∀(l e : List AObj)(k : Nat), (l ++ e).take (l.length+k)=l ++ e.take k)/\(∀n : Nat, 0+n=n) := ⟨aRr, aRq, OO, aRK, qK, Bn⟩
end
section
variable {P:Program}{ans:FuncId->AK}{cf:aO}{lp:aP}{f:FuncId}
inductive C7:{R:Type}->Option R->R->Prop
 |s {P:Program} {ans:FuncId->AK} {R:Type} {cf:aO} {lp:aP} {f:FuncId} {a b:Code} {st:St} {K:bD->St->Option R} {r:R} (h:C7 (XK P ans cf lp f a st (KS P ans cf lp f b K)) r):C7 (XK P ans cf lp f (.seq a b) st K) r
 |b {P:Program} {ans:FuncId->AK} {R:Type} {cf:aO} {lp:aP} {f:FuncId} {c:Code} {id:Nat} {st:St} {K:bD->St->Option R} {r:R} (h:C7 (XK P ans cf lp f c st (KB id K)) r):C7 (XK P ans cf lp f (.block id c) st K) r
 |o {P:Program} {ans:FuncId->AK} {R:Type} {cf:aO} {lp:aP} {f:FuncId} {c:Code} {st:St} {K:bD->St->Option R} {r:R} (h:C7 (XK P ans cf lp f c st K) r):C7 (XK P ans cf lp f (.scope c) st K) r
 |k {P:Program} {ans:FuncId->AK} {R:Type} {cf:aO} {lp:aP} {f:FuncId} {st:St} {K:bD->St->Option R} {r:R} (h:C7 (K .norm st) r):C7 (XK P ans cf lp f .skip st K) r
 |x {P:Program} {ans:FuncId->AK} {R:Type} {cf:aO} {lp:aP} {f:FuncId} {id:Nat} {st:St} {K:bD->St->Option R} {r:R} (h:C7 (K (.exit id) st) r):C7 (XK P ans cf lp f (.exit id) st K) r
 |e {P:Program} {ans:FuncId->AK} {R:Type} {cf:aO} {lp:aP} {f:FuncId} {st:St} {K:bD->St->Option R} {r:R} (h:C7 (K .ret st) r):C7 (XK P ans cf lp f .ret st K) r
 |sN {P:Program} {ans:FuncId->AK} {R:Type} {cf:aO} {lp:aP} {f:FuncId} {b:Code} {st:St} {K:bD->St->Option R} {r:R} (h:C7 (XK P ans cf lp f b st K) r):C7 (KS P ans cf lp f b K .norm st) r
 |sX {P:Program} {ans:FuncId->AK} {R:Type} {cf:aO} {lp:aP} {f:FuncId} {b:Code} {id:Nat} {st:St} {K:bD->St->Option R} {r:R} (h:C7 (K (.exit id) st) r):C7 (KS P ans cf lp f b K (.exit id) st) r
 |sE {P:Program} {ans:FuncId->AK} {R:Type} {cf:aO} {lp:aP} {f:FuncId} {b:Code} {st:St} {K:bD->St->Option R} {r:R} (h:C7 (K .ret st) r):C7 (KS P ans cf lp f b K .ret st) r
 |bN {R:Type} {id:Nat} {st:St} {K:bD->St->Option R} {r:R} (h:C7 (K .norm st) r):C7 (KB id K .norm st) r
 |bX {R:Type} {id:Nat} {st:St} {K:bD->St->Option R} {r:R} (h:C7 (K .norm st) r):C7 (KB id K (.exit id) st) r
 |bE {R:Type} {id:Nat} {st:St} {K:bD->St->Option R} {r:R} (h:C7 (K .ret st) r):C7 (KB id K .ret st) r
 |fE {P:Program} {ans:FuncId->AK} {f:FuncId} {fn:Func} {n:Nat} {st:St} {x:ARes×AN} (h:C7 (finish P (ans f) fn n st) x):C7 (KF P ans f fn n .ret st) x
 |fN {P:Program} {ans:FuncId->AK} {f:FuncId} {fn:Func} {n:Nat} {st:St} {x:ARes×AN} (h:C7 (finish P (ans f) fn n st) x):C7 (KF P ans f fn n .norm st) x
 |lN {P:Program} {ans:FuncId->AK} {lp:aP} {f:FuncId} {c:Code} {st:St} {x:bD×St} (h:C7 (lp f c (jN (ans f) c st)) x):C7 (KL P ans lp f c .norm st) x
 |w {R:Type} {id i:Nat} {st:St} {K:bD->St->Option R} {r:R} (hi:Nat.beq i id=false) (h:C7 (K (.exit i) st) r):C7 (KB id K (.exit i) st) r
 |z {R:Type} {x:Option R} {r:R} (h:x=some r):C7 x r
theorem tQ{R:Type}{x:Option R}{r:R}(h:C7 x r):x=some r:=by
 induction h with
 |s _ ih=>exact tS ih
 |b _ ih=>exact tB ih
 |o _ ih=>exact tO ih
 |k _ ih=>exact tK ih
 |x _ ih=>exact tX ih
 |e _ ih=>exact tE ih
 |sN _ ih=>exact tsN ih
 |sX _ ih=>exact tsX ih
 |sE _ ih=>exact tsE ih
 |bN _ ih=>exact tbN ih
 |bX _ ih=>exact tbX ih
 |bE _ ih=>exact tbE ih
 |fE _ ih=>exact tfE ih
 |fN _ ih=>exact tfN ih
 |lN _ ih=>exact tlN ih
 |w hi _ ih=>exact Zd hi ih
 |z h=>exact h
theorem tW{R:Type}{id i:Nat}{st:St}{K:bD->St->Option R}{r:R}(hi:Nat.beq i id=false)(h:C7 (K (.exit i) st) r):KB id K (.exit i) st=some r:=Zd hi (tQ h)
def aNW(an:AK)(rid:Nat):Bool:=an.apart.all λp=>!Nat.beq p.1 rid
theorem aGT{an:AK}{rid:Nat}{tm:List Slot}(h:aNW an rid=true):sT an rid tm=true:=An.2 λp hp=>by
 rw[An.1 h p hp];rfl
theorem tG{R:Type}{id:Nat}{ops:Array Oper}{d:Bool}{tm BA:List Slot}{sc:List (Nat×Slot)}{sto AL:AN}{K:bD->St->Option R}{r:R}(hg:(bif d then(tH ans (ans f) id ops&&Ma ans (ans f) id ops)&&aNW (ans f) id else true)=true)
  (h:∀(kp:AVal->RS->Option R)(kn:RS->Option R),lT P ans (ans f) d cf tm id ops kp kn ops.toList 0 ⟨[],sto⟩=kn ⟨sc,AL⟩) (hc:commit (ans f).keep tm sc=BA) (k:C7 (K .norm ⟨BA,AL⟩) r):XK P ans cf lp f (.region id ops d) ⟨tm,sto⟩ K=some r:=by
 cases d with
 |false=>exact tR h hc (tQ k)
 |true=>exact tD (Dm.1 hg).1 (aGT (Dm.1 hg).2) h hc (tQ k)
theorem t1{P:Program}{ans:FuncId->AK}{R:Type}{cf:aO}{lp:aP}{f:FuncId}{a b:Code}{tm:List Slot}{sto:AN}{K:bD->St->Option R}{r:R}{o:Operand}{t:Bool}(h:A9 (ans f).keep tm ⟨[],sto⟩ o=.val (.bool t))(ht:t=true)(k:C7 (XK P ans cf lp f a ⟨tm,sto⟩ K) r):XK P ans cf lp f (.cond o a b) ⟨tm,sto⟩ K=some r:=tT h ht (tQ k)
theorem t0{P:Program}{ans:FuncId->AK}{R:Type}{cf:aO}{lp:aP}{f:FuncId}{a b:Code}{tm:List Slot}{sto:AN}{K:bD->St->Option R}{r:R}{o:Operand}{t:Bool}(h:A9 (ans f).keep tm ⟨[],sto⟩ o=.val (.bool t))(ht:t=false)(k:C7 (XK P ans cf lp f b ⟨tm,sto⟩ K) r):XK P ans cf lp f (.cond o a b) ⟨tm,sto⟩ K=some r:=tF h ht (tQ k)
theorem tl{P:Program}{ans:FuncId->AK}{R:Type}{cf:aO}{lp:aP}{f:FuncId}{c:Code}{st:St}{K:bD->St->Option R}{r:R}{e:bD}{BF:St}(h:lp f c (jN (ans f) c st)=some (e,BF))(k:C7 (K e BF) r):XK P ans cf lp f (.loop c) st K=some r:=tL h (tQ k)
end
section
variable {P:Program}{ans:FuncId->AK}{cf:aO}{lp:aP}{f:FuncId}{R:Type}{K:bD->St->Option R}{b c:Code}{tm:List Slot}{sto AL:AN}{r:R}{v:AVal}{st:St}
theorem tP{id:Nat}{ops:Array Oper}{sc:List (Nat×Slot)}(h:∀(kp:AVal->RS->Option R)(kn:RS->Option R),lT P ans (ans f) false cf tm id ops kp kn ops.toList 0 ⟨[],sto⟩=kp v ⟨sc,AL⟩)(k:K (.pan v) ⟨tm,AL⟩=some r):XK P ans cf lp f (.region id ops false) ⟨tm,sto⟩ K=some r:=by
 simp only[XK,h];exact k
theorem TY{an:AK}{drawn:Bool}{id i:Nat}{ops:Array Oper}{kp:AVal->RS->Option R}{kn:RS->Option R}{o:Oper}{os:List Oper}{rs:RS}{x:Option R}(h:gG P ans an drawn cf tm id ops kp o i rs (λrs'=>lT P ans an drawn cf tm id ops kp kn os (i+1) rs')=x):lT P ans an drawn cf tm id ops kp kn (o::os) i rs=x:=h
theorem M5(h:K (.pan v) st=some r):KS P ans cf lp f b K (.pan v) st=some r:=h
theorem M6{id:Nat}(h:K (.pan v) st=some r):KB id K (.pan v) st=some r:=h
theorem Ru{lp:aP}:KL P ans lp f c (.pan v) st=some (.pan v,st):=rfl
theorem tGp{fo:Operand}{ps:Array Tmp}{assign body:Code}{g:FuncId}{caps:List AVal}{Oi:AN}
  (h:A9 (ans f).keep tm ⟨[],sto⟩ fo=.val (.func g caps))
  (hc:cf (.fn g) (.val (.yld sto.objs.length)::caps.map .val) ⟨sto.objs++[.loop ⟨f,tm.map dV,ps,assign,body,none,.ready⟩],sto.lo⟩=some (.pan v,Oi))
  (k:K (.pan v) ⟨tm,Oi⟩=some r):XK P ans cf lp f (.rangeFunc fo ps assign body) ⟨tm,sto⟩ K=some r:=by
 simp only[XK,h,hc,Ai];exact k
def kB:Code->Code|.seq a _=>a|c=>c
def dX:Code->Code|.seq _ b=>b|c=>c
def inB:Code->Code|.block _ c=>c|c=>c
end
end Go.AM
namespace Go.Proofs.YtdkkaldimefljaaGreatDoor
open Go.AM
def aA:AK:={ nt:=0,keep:=[],loc:=[],take:=[],pure:=[],heads:=[],ownRes:=false,ownArg:=[] }
abbrev Ws:AK:=⟨135,[0,1,2,3,4,5,6,7,8,9,10,11,12,13,14,45,68,105],[1,4,5,6,7,8,9,10,13,14],[],[],[],false,[],false,[],[]⟩
abbrev Wr:AK:=⟨120,[0,1,2,3,4,5,7,9,10,12,13,14,15,16,17,82],[2,4,6,8,10,13,15],[],[],[],false,[],true,[],[]⟩
abbrev Wq:AK:=⟨6,[0,2],[2],[],[],[],false,[],false,[],[]⟩
abbrev Xv:AK:=⟨17,[0,1,4,5,6,14],[4,5],[],[],[],false,[],false,[],[]⟩
abbrev Xu:AK:=⟨46,[0,1,2,3,4,5,26,31,45],[2,3],[],[],[(4,[(2,none),(3,none),(5,none)])],false,[],false,[],[]⟩
abbrev Xt:AK:=⟨38,[0,2,3,4,13,29],[],[(6,0)],[],[(3,[(0,none),(3,none),(4,none)])],false,[],false,[],[]⟩
abbrev Xq:AK:=⟨33,[0,1,4,5,6,7,12,28],[7],[],[],[],false,[],true,[],[]⟩
abbrev Xp:AK:=⟨27,[0,1,2,3,5,12,13,14,15],[1,2,3,5],[(5,1)],[],[(3,[(2,none),(3,none),(12,none),(13,none),(14,none)])],false,[],false,[],[]⟩
abbrev Xo:AK:=⟨16,[0,2,3,5,8,9,10],[2,5],[],[],[],false,[],false,[],[]⟩
abbrev Xn:AK:=⟨6,[0,1,2,3,5],[],[],[],[],false,[],false,[],[]⟩
abbrev Xm:AK:=⟨7,[0,1,2,3,5],[],[],[],[],false,[],false,[],[]⟩
abbrev Xl:AK:=⟨33,[0,1,4,5,7,10,32],[5],[],[],[],false,[],false,[],[]⟩
abbrev Xk:AK:=⟨21,[0,1,2,3,5,7,8,9,10,18],[1,5],[],[],[(3,[(3,none),(7,none),(8,none),(9,none)])],false,[],false,[],[]⟩
abbrev aNn:AK:=⟨31,[0,2,3,5,6,8,9,10,11,12,18],[2,5,6],[],[],[(2,[(0,none),(2,none),(9,none),(10,none),(11,none)])],false,[],true,[],[]⟩
abbrev Xj:AK:=⟨8,[0,1,4],[4],[],[],[],false,[],false,[],[]⟩
abbrev Xi:AK:=⟨4,[0,1,2],[],[],[],[],false,[],false,[],[]⟩
abbrev Xh:AK:=⟨85,[0,1,4,5,6,17,22,30,40,71,72,73,83],[],[],[],[(13,[(0,none),(1,none),(71,none),(72,none)])],false,[],false,[],[]⟩
abbrev aNo:AK:=⟨17,[0,2,3,4],[3],[],[],[],false,[],true,[],[]⟩
abbrev Xf:AK:=⟨19,[0,1,2,3,6],[1],[(3,0)],[],[(2,[(1,none),(3,none)])],false,[],false,[],[]⟩
abbrev Xd:AK:=⟨9,[0,1,4],[],[],[],[],false,[],false,[],[]⟩
abbrev Xc:AK:=⟨6,[0,1,2],[1],[],[],[],false,[],false,[],[]⟩
abbrev YM:AK:=⟨22,[0,1,4,5,6,7,8,9,10,20],[6],[],[],[(2,[(1,none),(7,none),(8,none),(9,none)])],false,[],false,[],[]⟩
abbrev YL:AK:=⟨5,[0,2],[2],[],[],[],false,[],false,[],[]⟩
abbrev YK:AK:=⟨13,[0,2],[2],[],[(1,3),(1,7),(1,9)],[],false,[],false,[],[]⟩
abbrev YJ:AK:=⟨6,[0,1,2],[1],[(1,3)],[],[],true,[],false,[],[]⟩
abbrev YI:AK:=⟨9,[0,2],[2],[],[],[],false,[],false,[],[]⟩
abbrev YH:AK:=⟨12,[0,2,3],[2],[],[],[],false,[],false,[],[]⟩
abbrev YG:AK:=⟨18,[0,1,4,5,6,10,11],[2,4,6],[(4,0)],[(4,2)],[],false,[],false,[],[]⟩
abbrev YF:AK:=⟨20,[0,1,4,5],[2,4],[],[],[],false,[],false,[],[]⟩
abbrev YE:AK:=⟨20,[0,1,4,5],[2,4],[],[],[],false,[],false,[],[]⟩
abbrev YD:AK:=⟨41,[0,1,4,5,6,7,8,21,22,23],[2,4],[(6,0)],[(1,3),(1,7)],[(4,[(4,none),(5,none),(6,none),(7,none),(21,none),(22,none)])],false,[],false,[],[]⟩
abbrev YC:AK:=⟨33,[0,1,4,5,6,7,11,12],[2,4,7],[(4,0),(4,7)],[(5,1),(5,3),(5,5)],[],false,[],false,[],[(4,5,6)]⟩
abbrev ZF:AK:=⟨19,[0,1,3,8,18],[],[],[],[(1,[(0,none),(1,none),(3,none)])],false,[],false,[],[]⟩
abbrev ZE:AK:=⟨6,[0,2],[],[],[],[],false,[],false,[],[]⟩
abbrev ZD:AK:=⟨19,[0,1,4,5,7,8,9,16],[],[],[],[(2,[(0,none),(1,none),(7,none),(8,none)])],false,[],false,[],[]⟩
abbrev ZC:AK:=⟨132,[0,1,2,3,4,5,8,9,14,28,39,63,86,111],[2],[],[],[],false,[],false,[],[]⟩
abbrev ZB:AK:=⟨5,[0,2],[],[(1,2)],[],[],true,[],false,[],[]⟩
abbrev ZA:AK:=⟨4,[0,1,2],[],[],[],[],false,[],false,[],[]⟩
abbrev Yz:AK:=⟨9,[0,1,4],[],[],[],[],false,[],false,[],[]⟩
abbrev Yy:AK:=⟨35,[0,2,4,5,8,30],[5],[],[],[],false,[],true,[],[]⟩
abbrev ZP:AK:=⟨16,[0,1,3],[],[],[],[],false,[],false,[],[]⟩
abbrev ZO:AK:=⟨15,[0,1,2,4,5,6,7],[5],[(3,0),(4,0),(4,1)],[],[],true,[0],false,[3],[]⟩
abbrev ZN:AK:=⟨17,[0,1,5,12],[],[],[],[(0,[(0,none),(1,none)])],false,[],false,[],[]⟩
abbrev ZM:AK:=⟨19,[0,2,3,4,5,10,11],[5],[(5,0)],[],[],false,[],false,[],[]⟩
abbrev aJn:AK:=⟨22,[0,2,3,5,11,12,13],[],[],[],[(3,[(3,none),(11,none),(12,none)])],false,[],false,[],[]⟩
abbrev aJo:AK:=⟨12,[0,1,3,4,5,7,9,10],[3],[],[],[],false,[],false,[],[]⟩
abbrev aJp:AK:=⟨4,[0,1,2],[],[],[],[],false,[],false,[],[]⟩
abbrev ZL:AK:=⟨38,[0,1,3,17,37],[3],[],[],[(1,[(0,none),(1,none)])],false,[],false,[],[]⟩
abbrev ZK:AK:=⟨44,[0,2,20],[],[(4,4)],[(0,8)],[(0,[(0,none)])],false,[],false,[],[]⟩
abbrev ZJ:AK:=⟨66,[0,2,3,8,15,20,25,42,53],[2],[],[],[],false,[],false,[],[]⟩
abbrev ZI:AK:=⟨42,[0,1,2,6,7,38],[],[],[],[(2,[(0,none),(1,none),(2,none),(7,none)])],false,[],false,[],[]⟩
abbrev ZH:AK:=⟨17,[0,2],[],[],[],[],false,[],false,[],[]⟩
abbrev ZG:AK:=⟨16,[0,1,4],[],[],[],[],false,[],false,[],[]⟩
abbrev Ys:AK:=⟨77,[0,2,3,18,34,40,59,76],[],[],[],[(2,[(0,none),(2,none),(3,none)])],false,[],false,[],[]⟩
abbrev Yr:AK:=⟨28,[0,1,4,16],[],[],[],[],false,[],false,[],[]⟩
abbrev Yq:AK:=⟨9,[0,2],[],[],[],[],false,[],false,[],[]⟩
abbrev Yp:AK:=⟨76,[0,2,3,4,5,6,7,8,13,60],[2],[],[],[],false,[],false,[],[]⟩
abbrev Yo:AK:=⟨9,[0,2],[],[],[],[],false,[],false,[],[]⟩
abbrev Yn:AK:=⟨50,[0,1,4,5,6,7,8,9,19,27,46],[4,7],[],[],[],false,[],false,[],[]⟩
abbrev Ym:AK:=⟨9,[0,2],[],[],[],[],false,[],false,[],[]⟩
abbrev Yl:AK:=⟨41,[0,1,2,6,8],[6],[],[],[],false,[],false,[],[]⟩
abbrev Yk:AK:=⟨17,[0,2],[],[],[],[],false,[],false,[],[]⟩
def annTab:List AK:=[aA,aA,aA,aA,Ws,aA,Wr,aA,Wq,aA,Xv,aA,Xu,Xt,aA,aA,aA,aA,Xq,aA,aA,aA,Xp,Xo,Xn,Xm,Xl,aA,aA,Xk,aA,aA,aA,aA,aA,aA,aNn,aA,Xj,Xi,Xh,aNo,Xf,Xd,Xc,YM,aA,aA,aA,aA,aA,aA,aA,aA,YL,aA,YK,YJ,YI,aA,aA,aA,YH,aA,aA,aA,aA,YG,aA,aA,YF,YE,aA,YD,YC,aA,aA,aA,aA,aA,aA,aA,aA,aA,aA,aA,aA,aA,aA,aA,aA,aA,aA,aA,aA,aA,aA,aA,aA,aA,aA,aA,aA,aA,aA,aA,aA,aA,ZF,ZE,aA,aA,ZD,ZC,ZB,ZA,aA,aA,Yz,aA,aA,aA,aA,aA,aA,aA,aA,aA,aA,aA,aA,aA,aA,aA,aA,aA,aA,aA,aA,aA,aA,aA,aA,aA,aA,aA,aA,aA,aA,aA,aA,aA,aA,aA,aA,aA,aA,Yy,aA,ZP,ZO,ZN,aA,aA,aA,aA,aA,aA,aA,aA,aA,aA,aA,aA,aA,aA,aA,aA,aA,aA,aA,aA,aA,aA,aA,aA,aA,aA,aA,aA,aA,aA,aA,aA,aA,aA,aA,aA,aA,aA,aA,aA,aA,aA,aA,aA,aA,ZM,aA,aA,aA,aA,aA,aA,aA,aA,aA,aA,aA,aA,aA,aA,aA,aA,aA,aA,aA,aA,aA,aA,aA,aA,aA,aA,aA,aA,aA,aA,aA,aA,aA,aA,aA,aJn,aJo,aJp,aA,aA,aA,aA,aA,aA,aA,aA,aA,aA,aA,aA,aA,aA,aA,aA,aA,aA,aA,aA,aA,aA,aA,aA,ZL,ZK,ZJ,aA,aA,aA,aA,aA,aA,aA,aA,aA,ZI,ZH,ZG,Ys,Yr,Yq,Yp,Yo,Yn,Ym,Yl,Yk]
def ans(f:FuncId):AK:=annTab.getD f aA
end Go.Proofs.YtdkkaldimefljaaGreatDoor
namespace Go.AM
inductive TyD where
 |mk (name:List UInt8) (args:List TyD)
mutual
def TyD.enc:TyD->AVal
 |.mk n al=>.agg [.str n,.slice (TyD.encs al)]
def TyD.encs:List TyD->List AVal
 |[]=>[]
 |t::ts=>t.enc::TyD.encs ts
end
theorem TyD.encs_eq(l:List TyD):TyD.encs l=l.map TyD.enc:=by
 induction l with
 |nil=>simp[TyD.encs]
 |cons t ts ih=>simp[TyD.encs,ih]
end Go.AM
