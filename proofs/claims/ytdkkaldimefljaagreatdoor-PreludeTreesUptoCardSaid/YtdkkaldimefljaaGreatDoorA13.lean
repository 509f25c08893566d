import Derived.Test.YtdkkaldimefljaaGreatDoorA12
import Derived.Below
import Derived.Test.YtdkkaldimefljaaGreatDoorA00
import Derived.IntWalk
set_option linter.all false
section
namespace Go.AM
variable {P:Program} {ans:FuncId→Ann} {pr:hZ} {R:Type} {r:R}
variable {cf0:aO} {lp0:aT} {cf:Nat→aO} {lp:Nat→aT} {fid:FuncId}
def Evl (x:Nat→Option R) (r:R):Prop:=∃ n,∀ m,n≤m→x m=some r
theorem Evl.const {x:Option R} (h:x=some r):Evl (fun _=>x) r:=⟨0,fun _ _=>h⟩
theorem Evl.congr {x y:Nat→Option R} (h:Evl x r) (e:∀ m,y m=x m):Evl y r:=by
 obtain ⟨n,h⟩:=h;exact ⟨n,fun m hm=>(e m).trans (h m hm)⟩
theorem Evl.bind {α:Type} {x:Nat→Option α} {a:α} {f:Nat→α→Option R} (h:Evl x a) (k:Evl (fun m=>f m a) r):Evl (fun m=>(x m).bind (f m)) r:=by
 obtain ⟨n,h⟩:=h;obtain ⟨n',k⟩:=k;exact ⟨max n n',fun m hm=>by show (x m).bind (f m)=some r;rw[h m (by omega)];exact k m (by omega)⟩
def pD (cf0:aO) (cf:Nat→aO):Prop:=∀ c a s r,cf0 c a s=some r→Evl (fun m=>cf m c a s) r
def yF (lp0:aT) (lp:Nat→aT):Prop:=∀ f c st r,lp0 f c st=some r→Evl (fun m=>lp m f c st) r
theorem aBb (hc:pD cf0 cf) {kp0:AVal→RS→Option R} {kp:Nat→AVal→RS→Option R} {k0:Slot→RS→Option R} {k:Nat→Slot→RS→Option R}
  (hp:∀ v rs r,kp0 v rs=some r→Evl (fun m=>kp m v rs) r) (hk:∀ s rs r,k0 s rs=some r→Evl (fun m=>k m s rs) r) {out:Out} (e:out.run cf0 kp0 k0=some r):Evl (fun m=>out.run (cf m) (kp m) (k m)) r:=by
 cases out with
 |none=>cases e
 |ret s rs=>exact hk _ _ _ e
 |pan v rs=>exact hp _ _ _ e
 |call prot c args rs =>
  cases prot with
  |false =>
   simp only[Out.run,dD] at e ⊢;obtain ⟨⟨x,sto⟩,h1,e⟩:=aC e;refine (hc _ _ _ _ h1).bind ?_;cases x with
   |ret s =>
    obtain ⟨hg,e⟩:=aA e;exact (hk _ _ _ e).congr fun m=>aE hg _
   |pan v=>exact hp _ _ _ e
  |true =>
   simp only[Out.run,dD] at e ⊢;obtain ⟨⟨x,sto⟩,h1,e⟩:=aC e;refine (hc _ _ _ _ h1).bind ?_;cases x with
   |ret s =>
    obtain ⟨hg,e⟩:=aA e;exact (hk _ _ _ e).congr fun m=>aE hg _
   |pan v=>cases e
theorem yh (hc:pD cf0 cf) {an:Ann} {drawn:Bool} {tm:List Slot} {rid:Nat} {ops:Array Oper} {o:Oper} {i:Nat} {rs:RS} {kp0:AVal→RS→Option R} {kp:Nat→AVal→RS→Option R} {k0:RS→Option R} {k:Nat→RS→Option R}
  (hp:∀ v rs r,kp0 v rs=some r→Evl (fun m=>kp m v rs) r) (hk:∀ rs r,k0 rs=some r→Evl (fun m=>k m rs) r)
  (e:iK P ans an drawn cf0 tm rid ops kp0 o i rs k0=some r):Evl (fun m=>iK P ans an drawn (cf m) tm rid ops (kp m) o i rs (k m)) r:=by
 have go:∀ rs lc,aB P ans an drawn (an.pure.contains (rid,i)) lc cf0 tm (an.take.contains (rid,i)) o rs kp0 (fun s rs'=>aJ (dT an o s rs') (k0 (rs'.putO o.dst s)))=some r →
   Evl (fun m=>aB P ans an drawn (an.pure.contains (rid,i)) lc (cf m) tm (an.take.contains (rid,i)) o rs (kp m) (fun s rs'=>aJ (dT an o s rs') (k m (rs'.putO o.dst s)))) r:=fun rs lc e=>by
  obtain ⟨out,h⟩:=yj (P:=P) (ans:=ans) (an:=an) (tm:=tm) (rs:=rs) drawn (an.pure.contains (rid,i)) lc (an.take.contains (rid,i)) o;have h0:=h R cf0 kp0 fun s rs'=>aJ (dT an o s rs') (k0 (rs'.putO o.dst s))
  simp only at h0;rw[h0] at e;refine (aBb hc hp (k:=fun m s rs'=>aJ (dT an o s rs') (k m (rs'.putO o.dst s))) (fun s rs' r e=>?_) e).congr fun m=>h _ _ _ _
  obtain ⟨hg,e⟩:=aA e;exact (hk _ _ e).congr fun m=>aE hg _
 unfold iK at e ⊢;simp only at e ⊢;cases hg:o.guard with
 |none =>
  rw[hg] at e;exact go _ _ e
 |some jw =>
  obtain ⟨j,want⟩:=jw;rw[hg] at e;simp only at e ⊢;cases hd:(ops[j]?).bind (·.dst) with
  |none=>rw[hd] at e;cases e
  |some d =>
   rw[hd] at e;simp only at e ⊢;generalize rs.look an.keep tm d=s at e ⊢;cases s with
   |val v =>
    cases v with
    |bool b =>
     cases b <;> cases want
     ·exact (go _ _ e).congr fun m=>rfl
     ·obtain ⟨h1,h2⟩:=aA (show aJ (dT an o .dead rs) (k0 ((rs.put d (.val (.bool false))).putO o.dst (.tup [])))=some r from e)
      exact (hk _ _ h2).congr fun m=>aE h1 _
     ·obtain ⟨h1,h2⟩:=aA (show aJ (dT an o .dead rs) (k0 ((rs.put d (.val (.bool true))).putO o.dst (.tup [])))=some r from e)
      exact (hk _ _ h2).congr fun m=>aE h1 _
     ·exact (go _ _ e).congr fun m=>rfl
    |_=>cases e
   |tup l =>
    cases l with
    |nil =>
     obtain ⟨h1,h2⟩:=aA (show aJ (dT an o .dead rs) (k0 (rs.putO o.dst (.tup [])))=some r from e);exact (hk _ _ h2).congr fun m=>aE h1 _
    |cons _ _=>cases e
   |_=>cases e
theorem qK (hc:pD cf0 cf) {an:Ann} {drawn:Bool} {tm:List Slot} {rid:Nat} {ops:Array Oper} {kp0:AVal→RS→Option R} {kp:Nat→AVal→RS→Option R} {k0:RS→Option R} {k:Nat→RS→Option R}
  (hp:∀ v rs r,kp0 v rs=some r→Evl (fun m=>kp m v rs) r) (hk:∀ rs r,k0 rs=some r→Evl (fun m=>k m rs) r):∀ {l:List Oper} {i:Nat} {rs:RS} {r:R},
  nC P ans an drawn cf0 tm rid ops kp0 k0 l i rs=some r→Evl (fun m=>nC P ans an drawn (cf m) tm rid ops (kp m) (k m) l i rs) r
 |[],i,rs,r,e=>hk _ _ e
 |o::l,i,rs,r,e=>yh (r:=r) hc hp (fun rs r e=>qK hc hp hk e) e
theorem zh {an:Ann} {ops:List Oper} {st:St} {K0:bM→St→Option R} {K:Nat→bM→St→Option R} {r:R} (hk:∀ e st r,K0 e st=some r→Evl (fun m=>K m e st) r) (e:uA P an ops st K0=some r):Evl (fun m=>uA P an ops st (K m)) r:=by
 obtain ⟨_,_,_,_,_,_,_,_,_,_,h1,h2⟩:=mn e;exact (hk _ _ _ h1).congr fun m=>h2 _ _
theorem gS (hc:pD cf0 cf) (hl:yF lp0 lp):∀ (c:Code) {st:St} {K0:bM→St→Option R} {K:Nat→bM→St→Option R} {r:R},(∀ e st r,K0 e st=some r→Evl (fun m=>K m e st) r) →
  XK P ans cf0 lp0 fid c st K0=some r→Evl (fun m=>XK P ans (cf m) (lp m) fid c st (K m)) r
 |.skip,st,K0,K,r,hk,e=>hk _ _ _ e
 |.label _,st,K0,K,r,hk,e=>hk _ _ _ e
 |.seq a b,st,K0,K,r,hk,e=>by
  simp only[XK] at e ⊢;refine gS hc hl a (K:=fun m e st'=>match e with
   |.norm=>XK P ans (cf m) (lp m) fid b st' (K m)
   |.exit id=>K m (.exit id) st'
   |.ret=>K m .ret st'
   |.pan v=>K m (.pan v) st') (fun ex st' r e=>?_) e
  cases ex with
  |norm=>exact gS hc hl b hk e
  |_=>exact hk _ _ _ e
 |.cond c a b,st,K0,K,r,hk,e=>by
  simp only[XK] at e ⊢;generalize opS (ans fid).keep st.tm ⟨[],st.sto⟩ c=s at e ⊢;cases s with
  |val v =>
   cases v with
   |bool t=>cases t with
    |true=>exact gS hc hl a hk e
    |false=>exact gS hc hl b hk e
   |_=>cases e
  |_=>cases e
 |.block id c,st,K0,K,r,hk,e=>by
  simp only[XK] at e ⊢;refine gS hc hl c (K:=fun m e st'=>match e with
   |.norm=>K m .norm st'
   |.exit id'=>(bif Nat.beq id' id then K m .norm st' else K m (.exit id') st')
   |.ret=>K m .ret st'
   |.pan v=>K m (.pan v) st') (fun ex st' r e=>?_) e
  cases ex with
  |exit id' =>
   simp only at e ⊢;cases hb:Nat.beq id' id with
   |true=>rw[hb] at e;exact hk _ _ _ e
   |false=>rw[hb] at e;exact hk _ _ _ e
  |_=>exact hk _ _ _ e
 |.scope c,st,K0,K,r,hk,e=>gS hc hl c hk e
 |.exit id,st,K0,K,r,hk,e=>hk _ _ _ e
 |.ret,st,K0,K,r,hk,e=>hk _ _ _ e
 |.region id ops false,st,K0,K,r,hk,e=>by
  simp only[XK] at e ⊢;exact qK hc (kp:=fun m v rs=>K m (.pan v) ⟨st.tm,rs.sto⟩) (k:=fun m rs=>K m .norm ⟨commit (ans fid).keep st.tm rs.sc,rs.sto⟩) (fun v rs r e=>hk _ _ _ e) (fun rs r e=>hk _ _ _ e) e
 |.region id ops true,st,K0,K,r,hk,e=>by
  simp only[XK] at e ⊢;cases hmac:vR (ans fid) id with
  |true =>
   rw[hmac] at e;exact zh hk e
  |false =>
  rw[hmac] at e;simp only[cond_false] at e ⊢;obtain ⟨hg,e⟩:=aA e;exact (qK hc (kp:=fun m v rs=>none) (k:=fun m rs=>K m .norm ⟨commit (ans fid).keep st.tm rs.sc,rs.sto⟩) (fun v rs r e=>by cases e) (fun rs r e=>hk _ _ _ e) e).congr fun m=>aE hg _
 |.loop c,st,K0,K,r,hk,e=>by
  simp only[XK] at e ⊢;obtain ⟨p,h1,e⟩:=aC e;exact (hl _ _ _ _ h1).bind (hk _ _ _ e)
 |.rangeFunc f params assign body,st,K0,K,r,hk,e=>by
  simp only[XK] at e ⊢;generalize opS (ans fid).keep st.tm ⟨[],st.sto⟩ f=s at e ⊢;cases s with
  |val v =>
   cases v with
   |func g caps =>
    simp only at e ⊢;obtain ⟨⟨x,sto⟩,h1,e⟩:=aC e;refine (hc _ _ _ _ h1).bind ?_;cases x with
    |pan v=>exact hk _ _ _ e
    |ret s =>
     simp only at e ⊢;generalize sto.objs[st.sto.objs.length]?=ob at e ⊢;rcases ob with _|ob
     ·cases e
     ·cases ob with
      |loop l =>
       simp only at e ⊢;generalize l.state=ls at e ⊢;generalize l.pend=lp' at e ⊢
       cases ls <;> rcases lp' with _|lp' <;> first
        |exact hk _ _ _ e
        |cases e
        |(cases lp' <;> first|exact hk _ _ _ e|cases e)
      |_=>cases e
   |_=>cases e
  |_=>cases e
 |.goto _,st,K0,K,r,hk,e=>by simp [XK] at e
 |.refuse _,st,K0,K,r,hk,e=>by simp [XK] at e
end Go.AM
end
section
namespace Go.AM
variable {P:Program} {ans:FuncId→Ann} {pr:hZ}
variable {cf0:aO} {lp0:aT} {cf:Nat→aO} {lp:Nat→aT}
theorem rH {R:Type} {r:R} {sto:Sto} {i:Nat} {k0:iP→Option R} {k:Nat→iP→Option R} (hk:∀ l r,k0 l=some r→Evl (fun m=>k m l) r) (e:dB sto i k0=some r):Evl (fun m=>dB sto i (k m)) r:=by
 unfold dB at e ⊢;generalize sto.objs[i]?=o at e ⊢;rcases o with _|o
 ·cases e
 ·cases o with
  |loop l=>exact hk _ _ e
  |_=>cases e
theorem nQ (hc:pD cf0 cf) (hl:yF lp0 lp):pD (cJ P ans pr cf0 lp0) (fun m=>cJ P ans pr (cf m) (lp m))
 |.fn f,a,s,r,e=>by
  simp only[cJ] at e ⊢;generalize pr f a=p at e ⊢;cases p with
  |some x=>exact Evl.const e
  |none =>
   simp only at e ⊢;cases hp:(ans f).prim with
   |true=>rw[hp] at e;cases e
   |false =>
    rw[hp] at e;simp only[cond_false] at e ⊢;generalize P.funcs[f]?=F at e ⊢;rcases F with _|F
    ·cases e
    ·simp only at e ⊢
     generalize hb:F.body=b at e ⊢;rcases b with _|c
     ·cases e
     ·simp only at e ⊢
      obtain ⟨hg,e⟩:=aA e;exact (gS hc hl c (K:=fun _ e st=>match e with
       |.norm=>finish P (ans f) F s.objs.length st
       |.ret=>finish P (ans f) F s.objs.length st
       |.pan v=>some (.pan v,st.sto)
       |.exit _=>none) (fun e st r h=>Evl.const h) e).congr fun m=>aE hg _
 |.yld i,a,s,r,e=>by
  simp only[cJ] at e ⊢;refine rH (fun l r e=>?_) e;generalize hls:l.state=ls at e ⊢
  cases ls <;> first
   |cases e
   |(simp only at e ⊢
     obtain ⟨hg,e⟩:=aA e
     refine (gS hc hl l.assign (K:=fun m e st =>
       match e with
       |.norm=>dB st.sto i fun l1 =>
        match l1.state with
        |.ready=>XK P ans (cf m) (lp m) l.fn l.body { st with sto:=setLoop st.sto i { l1 with state:=.busy } } fun e st =>
         match e with
         |.norm=>dB st.sto i fun l2=>some (.ret (.val (.bool true)),cut s.objs.length (setLoop st.sto i { l2 with state:=.ready,pend:=none }))
         |.ret=>dB st.sto i fun l2=>some (.ret (.val (.bool false)),cut s.objs.length (setLoop st.sto i { l2 with state:=.done,pend:=some .ret }))
         |.exit id=>dB st.sto i fun l2=>some (.ret (.val (.bool false)),cut s.objs.length (setLoop st.sto i { l2 with state:=.done,pend:=some (.exit id) }))
         |.pan v=>some (.pan v,st.sto)
        |_=>none
       |_=>none) (fun ex st r e=>?_) e).congr fun m=>aE hg _
     cases ex with
     |norm =>
      simp only at e ⊢;refine rH (fun l1 r e=>?_) e;generalize l1.state=ls at e ⊢
      cases ls <;> first
       |cases e
       |exact gS hc hl l.body (K:=fun _ e st =>
         match e with
         |.norm=>dB st.sto i fun l2=>some (.ret (.val (.bool true)),cut s.objs.length (setLoop st.sto i { l2 with state:=.ready,pend:=none }))
         |.ret=>dB st.sto i fun l2=>some (.ret (.val (.bool false)),cut s.objs.length (setLoop st.sto i { l2 with state:=.done,pend:=some .ret }))
         |.exit id=>dB st.sto i fun l2=>some (.ret (.val (.bool false)),cut s.objs.length (setLoop st.sto i { l2 with state:=.done,pend:=some (.exit id) }))
         |.pan v=>some (.pan v,st.sto)) (fun e st r h=>Evl.const h) e
     |_=>cases e)
theorem nP (hc:pD cf0 cf) (hl:yF lp0 lp):yF (iB P ans cf0 lp0) (fun m=>iB P ans (cf m) (lp m)):=fun f c st r e=>by
 simp only[iB] at e ⊢;refine gS hc hl c (K:=fun m e st'=>match e with
  |.norm=>lp m f c (jM (ans f) c st')
  |e=>some (e,st')) (fun ex st' r e=>?_) e
 cases ex with
 |norm=>exact hl _ _ _ _ e
 |_=>exact Evl.const e
def CfLe (a b:aO):Prop:=∀ c x s r,a c x s=some r→b c x s=some r
def LpLe (a b:aT):Prop:=∀ f c s r,a f c s=some r→b f c s=some r
theorem CfLe.lim {a b:aO} (h:CfLe a b):pD a fun _=>b:=fun c x s r e=>Evl.const (h c x s r e)
theorem LpLe.lim {a b:aT} (h:LpLe a b):yF a fun _=>b:=fun c x s r e=>Evl.const (h c x s r e)
theorem Evl.one {R:Type} {r:R} {x:Option R} (h:Evl (fun _=>x) r):x=some r:=by
 obtain ⟨n,h⟩:=h;exact h n (Nat.le_refl _)
theorem rU {a b:aO} {c d:aT} (h:CfLe a b) (k:LpLe c d):CfLe (cJ P ans pr a c) (cJ P ans pr b d):=fun x y s r e=>(nQ h.lim k.lim x y s r e).one
theorem rR {a b:aO} {c d:aT} (h:CfLe a b) (k:LpLe c d):LpLe (iB P ans a c) (iB P ans b d):=fun x y s r e=>(nP h.lim k.lim x y s r e).one
theorem dA:∀ n,CfLe (run P ans pr n).1 (run P ans pr (n+1)).1∧LpLe (run P ans pr n).2 (run P ans pr (n+1)).2
 |0=>⟨fun c x s r e=>(by cases e),fun c x s r e=>(by cases e)⟩
 |n+1=>⟨rU (dA n).1 (dA n).2,rR (dA n).1 (dA n).2⟩
theorem y4 {n m:Nat} (h:n≤m):CfLe (run P ans pr n).1 (run P ans pr m).1∧LpLe (run P ans pr n).2 (run P ans pr m).2:=by
 induction h with
 |refl=>exact ⟨fun _ _ _ _ e=>e,fun _ _ _ _ e=>e⟩
 |step _ ih=>exact ⟨fun c x s r e=>(dA _).1 _ _ _ _ (ih.1 c x s r e),fun c x s r e=>(dA _).2 _ _ _ _ (ih.2 c x s r e)⟩
open Classical in
noncomputable def lim {α:Type} (x:Nat→Option α):Option α:=if h:∃ n r,x n=some r then x (Classical.choose h) else none
theorem fw {α:Type} {x:Nat→Option α} {r:α} (hm:∀ n m r,n≤m→x n=some r→x m=some r):lim x=some r↔∃ n,x n=some r:=by
 unfold lim;constructor
 ·intro h
  split at h
  ·exact ⟨_,h⟩
  ·cases h
 ·rintro ⟨n,hn⟩
  rw[dif_pos ⟨n,r,hn⟩];have hch:=Classical.choose_spec (⟨n,r,hn⟩:∃ n r,x n=some r);obtain ⟨r',hr'⟩:=hch;have h1:=hm _ (max n (Classical.choose (⟨n,r,hn⟩:∃ n r,x n=some r))) _ (Nat.le_max_right _ _) hr';have h2:=hm n _ _ (Nat.le_max_left _ (Classical.choose (⟨n,r,hn⟩:∃ n r,x n=some r))) hn;rw[h1] at h2;rw[hr'];exact h2
variable (P ans pr) in
noncomputable def cfW:aO:=fun c a s=>lim fun n=>(run P ans pr n).1 c a s
variable (P ans pr) in
noncomputable def lpW:aT:=fun f c st=>lim fun n=>(run P ans pr n).2 f c st
theorem gZ {c:Callee} {a:List Slot} {s:Sto} {r:ARes×Sto}:cfW P ans pr c a s=some r↔∃ n,(run P ans pr n).1 c a s=some r:=fw fun n m r h e=>(y4 h).1 _ _ _ _ e
theorem pT {f:FuncId} {c:Code} {s:St} {r:bM×St}:lpW P ans pr f c s=some r↔∃ n,(run P ans pr n).2 f c s=some r:=fw fun n m r h e=>(y4 h).2 _ _ _ _ e
theorem wk:pD (cfW P ans pr) fun m=>(run P ans pr m).1:=fun c a s r e=>by
 obtain ⟨n,hn⟩:=gZ.1 e;exact ⟨n,fun m hm=>(y4 hm).1 _ _ _ _ hn⟩
theorem wi:yF (lpW P ans pr) fun m=>(run P ans pr m).2:=fun c a s r e=>by
 obtain ⟨n,hn⟩:=pT.1 e;exact ⟨n,fun m hm=>(y4 hm).2 _ _ _ _ hn⟩
theorem sI (n:Nat):CfLe (run P ans pr n).1 (cfW P ans pr)∧LpLe (run P ans pr n).2 (lpW P ans pr):=⟨fun _ _ _ _ e=>gZ.2 ⟨n,e⟩,fun _ _ _ _ e=>pT.2 ⟨n,e⟩⟩
theorem og (c:Callee) (a:List Slot) (s:Sto):cfW P ans pr c a s=cJ P ans pr (cfW P ans pr) (lpW P ans pr) c a s:=by
 refine Option.ext fun r=>⟨fun e=>?_,fun e=>?_⟩
 ·obtain ⟨n,hn⟩:=gZ.1 e
  cases n with
  |zero=>cases hn
  |succ n=>exact rU (sI n).1 (sI n).2 _ _ _ _ hn
 ·obtain ⟨n,hn⟩:=nQ wk wi _ _ _ _ e
  exact gZ.2 ⟨n+1,hn n (Nat.le_refl _)⟩
theorem aGZ (f:FuncId) (c:Code) (s:St):lpW P ans pr f c s=iB P ans (cfW P ans pr) (lpW P ans pr) f c s:=by
 refine Option.ext fun r=>⟨fun e=>?_,fun e=>?_⟩
 ·obtain ⟨n,hn⟩:=pT.1 e
  cases n with
  |zero=>cases hn
  |succ n=>exact rR (sI n).1 (sI n).2 _ _ _ _ hn
 ·obtain ⟨n,hn⟩:=nP wk wi _ _ _ _ e
  exact pT.2 ⟨n+1,hn n (Nat.le_refl _)⟩
theorem yi {B0:Nat} (E:Env P ans B0 pr) {f:FuncId} {args:List Slot} {sto:Sto} {res:ARes} {sto':Sto} (hpr:pr f args=none) (e:cfW P ans pr (.fn f) args sto=some (res,sto')) {w:World} {Ψ:HT} {ρ:List Nat} {ow:Own} {vs:Array Value} (hpre:eA ans B0 w Ψ ρ ow args vs sto) :
  Calls P f vs w fun e w'=>∃ Ψ' ρ' ow',Fr w Ψ ow w' Ψ' ow'∧WSat Ψ' w'∧match res with
   |.ret s=>∃ v,e=.returned v∧SRel w' B0 Ψ' ρ' ow' #[] 0 s v
   |.pan x=>∃ v,e=.panicked [{ v,recovered:=false }]∧VRel Ψ' ρ' x v:=by
 obtain ⟨n,hn⟩:=gZ.1 e;cases n with
 |zero=>cases hn
 |succ n=>exact yx E hpr hn hpre
end Go.AM
end
section
namespace Go.AM
open Go.RowKit
variable {P:Program} {ans:FuncId→Ann} {B0:Nat}
def PureOK (P:Program) (f:FuncId) (args:List AVal) (res:AVal):Prop :=
 (∃ F,P.funcs[f]?=some F∧F.body.isSome=true)∧∀ (w:World) (Ψ:HT) (vs:Array Value),WSat Ψ w→args.length=vs.size→(∀ (i:Nat) a,args[i]?=some a→VRel Ψ [] a (vs.getD i undef)) →
  ∀ c cs,∃ w' Ψ' v,Fr w Ψ (fun _=>none) w' Ψ' (fun _=>none)∧WSat Ψ' w'∧VRel Ψ' [] res v∧Steps P (lone (Frame.enter P f vs .normal) (c::cs) w) (lone (c.finish v) cs w')
theorem PureOK.prim {f:FuncId} {args:List AVal} {res:AVal} (h:PureOK P f args res) (hl:∀ a∈args,lok 0 a=true):(∃ F,P.funcs[f]?=some F∧F.body.isSome=true) ∧
  ∀ sto w Ψ ρ ow vs,eA ans B0 w Ψ ρ ow (args.map .val) vs sto→∀ c cs,eE P ans B0 w Ψ ρ ow sto c cs (lone (Frame.enter P f vs .normal) (c::cs) w) (.ret (.val res)) sto:=by
 refine ⟨h.1,fun sto w Ψ ρ ow vs hp c cs=>?_⟩
 obtain ⟨w',Ψ',v,hf,hw,hv,hs⟩:=h.2 w Ψ vs hp.wsat (by simpa using hp.size) (fun i a ha=>by
  have h1:=hp.args i (.val a) (by simp [ha]);have h2:=hl a (List.mem_of_getElem? ha);cases h1 with
  |val _ _ h1=>simpa using h1.lok h2) c cs
 have hfr:Fr w Ψ ow w' Ψ' ow:=⟨hf.le,hf.size,fun b hb _=>hf.keep b hb rfl,fun b hb=>.inl hb,hf.os,hf.tape,hf.output⟩
 refine ⟨w',Ψ',ρ,ow,hfr,aG _,hw,hp.objs.mono hf.le fun i _ b s hb=>?_,fun b hb=>Nat.lt_of_lt_of_le (hp.lt b hb) hf.size,⟨rfl,Nat.le_refl _,fun _ _=>rfl⟩,rfl,v,.val _ _ (hv.mono (HT.le_refl _) (pre_nil _)),hs⟩;have hb':=hp.lt b (by simp [hb])
 have:=hf.keep b hb' rfl
 exact ⟨hb,this.1,fun o ho=>by rw[this.2 o];exact ho⟩
theorem jv {w:World} {Ψ:HT} {args:List Slot} {vs:Array Value} (hw:WSat Ψ w) (hl:args.length=vs.size) (hf:∀ s∈args,s.free=true) (ha:∀ (i:Nat) s,args[i]?=some s→SRel w w.heap.size Ψ [] (fun _=>none) #[] i s (vs.getD i undef)):eA ans w.heap.size w Ψ [] (fun _=>none) args vs ⟨[],0⟩ :=
 ⟨hw,Nat.le_refl _,fun b h=>absurd rfl h,hl,hf,ha,⟨rfl,fun i o h=>by simp at h⟩,Nat.le_refl _⟩
theorem yq {w:World} {Ψ:HT} {c:Frame} {cs:List Frame} {m:Machine} {res:AVal} (h:eE P ans w.heap.size w Ψ [] (fun _=>none) ⟨[],0⟩ c cs m (.ret (.val res)) ⟨[],0⟩) :
  ∃ w' Ψ' v,Fr w Ψ (fun _=>none) w' Ψ' (fun _=>none)∧WSat Ψ' w'∧VRel Ψ' [] res v∧Steps P m (lone (c.finish v) cs w'):=by
 obtain ⟨w',Ψ',ρ',ow',hf,_,hw,ho,_,_,_,v,hs,hst⟩:=h;have hρ:ρ'=[]:=List.length_eq_zero_iff.1 ho.1;subst hρ;refine ⟨w',Ψ',v,⟨hf.le,hf.size,hf.keep,fun b hb=>absurd rfl hb,hf.os,hf.tape,hf.output⟩,hw,?_,hst⟩;cases hs with
 |val _ _ h=>exact h
theorem PureOK.ofRun {ans1:FuncId→Ann} {pr1:hZ} (E:∀ B0,Env P ans1 B0 pr1) {f:FuncId} {args:List AVal} {res:AVal} (e:cfW P ans1 pr1 (.fn f) (args.map .val) ⟨[],0⟩=some (.ret (.val res),⟨[],0⟩)):PureOK P f args res:=by
 obtain ⟨n,hn⟩:=gZ.1 e;have key:=fun B0=>(uS (E B0) n).1.fn f _ _ _ _ hn
 obtain ⟨F,h1,h2,_⟩:=(key 0).1;refine ⟨⟨F,h1,h2⟩,fun w Ψ vs hw hl ha c cs=>?_⟩;refine yq ((key w.heap.size).2 w Ψ [] (fun _=>none) vs (jv hw (by simpa using hl) (fun s hs=>?_) (fun i s hs=>?_)) c cs)
 ·obtain ⟨a,_,rfl⟩:=List.mem_map.1 hs;rfl
 ·rw[List.getElem?_map,Option.map_eq_some_iff] at hs
  obtain ⟨a,ha',rfl⟩:=hs;exact .val _ _ (ha i a ha')
theorem jA {w w':World} {Ψ:HT} (hw:WSat Ψ w) (hb:Below w.heap.size w w'):WSat Ψ w':=⟨Nat.le_trans hw.size8 hb.size,fun b o c e=>by
 obtain ⟨h1,v,h2,h3⟩:=hw.sat b o c e;exact ⟨h1,v,(cell_congr (hb.block b (hw.lt e)) o).trans h2,h3⟩⟩
theorem oS {w w':World} {Ψ:HT} (hb:Below w.heap.size w w'):Fr w Ψ (fun _=>none) w' Ψ (fun _=>none) :=
 ⟨HT.le_refl _,hb.size,fun b h _=>⟨hb.block b h,fun _=>rfl⟩,fun b h=>absurd rfl h,hb.os,hb.tape,hb.output⟩
end Go.AM
end
section
namespace Go.AM
inductive TyD where
 |mk (name:List UInt8) (args:List TyD)
mutual
def TyD.enc:TyD→AVal
 |.mk n al=>.agg [.str n,.slice (TyD.encs al)]
def TyD.encs:List TyD→List AVal
 |[]=>[]
 |t::ts=>t.enc::TyD.encs ts
end
theorem TyD.encs_eq (l:List TyD):TyD.encs l=l.map TyD.enc:=by
 induction l with
 |nil=>simp [TyD.encs]
 |cons t ts ih=>simp [TyD.encs,ih]
end Go.AM
end
section
namespace Go.AM
theorem fnP {P:Program} {ans:FuncId→Ann} {pr:hZ} {f:FuncId} {args:List Slot} {sto:Sto} {r:ARes} {s:Slot} (h1:pr f args=some (some r)) (h2:oq r=some s):cfW P ans pr (.fn f) args sto=some (.ret s,sto):=by
 rw[og];simp only[cJ,h1,Option.bind_some,h2,Option.map_some]
theorem dC {α:Type} {X:Option (α×Sto)} {r:α} {sto:Sto} (h:X=some (r,⟨sto.objs.take sto.objs.length,sto.lo⟩)):X=some (r,sto):=by
 rw[h,List.take_length]
def loops:Code→List Code
 |.seq a b=>loops a++loops b
 |.cond _ a b=>loops a++loops b
 |.block _ c=>loops c
 |.loop c=>c::loops c
 |.scope c=>loops c
 |.rangeFunc _ _ a b=>loops a++loops b
 |_=>[]
def aFE (fn:Func) (n:Nat):Option Code:=match fn.body with|some c=>(loops c)[n]?|none=>none
def dQ (fn:Func) (n:Nat):Code:=(aFE fn n).getD .skip
end Go.AM
end
section
namespace Go.AM
variable {P:Program} {ans:FuncId→Ann} {cf:aO} {lp:aT} {f:FuncId} {R:Type} {K:bM→St→Option R} {a b c:Code} {st:St} {tm tm':List Slot} {sto sto':Sto} {sc:List (Nat×Slot)}
def KS (P:Program) (ans:FuncId→Ann) (cf:aO) (lp:aT) (f:FuncId) (b:Code) (K:bM→St→Option R):bM→St→Option R:=fun e st' =>
 match e with
 |.norm=>XK P ans cf lp f b st' K
 |.exit id=>K (.exit id) st'
 |.ret=>K .ret st'
 |.pan v=>K (.pan v) st'
def KB (id:Nat) (K:bM→St→Option R):bM→St→Option R:=fun e st' =>
 match e with
 |.norm=>K .norm st'
 |.exit id'=>(bif Nat.beq id' id then K .norm st' else K (.exit id') st')
 |.ret=>K .ret st'
 |.pan v=>K (.pan v) st'
theorem xK:XK P ans cf lp f .skip st K=K .norm st:=rfl
theorem xE:XK P ans cf lp f .ret st K=K .ret st:=rfl
theorem kbX {id:Nat}:KB id K (.exit id) st=K .norm st:=by simp [KB]
theorem kbO {id i:Nat} (h:Nat.beq i id=false):KB id K (.exit i) st=K (.exit i) st:=by simp [KB,h]
theorem xT {o:Operand} {t:Bool} (h:opS (ans f).keep tm ⟨[],sto⟩ o=.val (.bool t)) (ht:t=true):XK P ans cf lp f (.cond o a b) ⟨tm,sto⟩ K=XK P ans cf lp f a ⟨tm,sto⟩ K:=by
 subst ht;simp only[XK,h,asBool,cond_true]
theorem xF {o:Operand} {t:Bool} (h:opS (ans f).keep tm ⟨[],sto⟩ o=.val (.bool t)) (ht:t=false):XK P ans cf lp f (.cond o a b) ⟨tm,sto⟩ K=XK P ans cf lp f b ⟨tm,sto⟩ K:=by
 subst ht;simp only[XK,h,asBool,cond_false]
theorem xR {id:Nat} {ops:Array Oper} (h:∀ (kp:AVal→RS→Option R) (kn:RS→Option R),nC P ans (ans f) false cf tm id ops kp kn ops.toList 0 ⟨[],sto⟩=kn ⟨sc,sto'⟩) (hc:commit (ans f).keep tm sc=tm'):XK P ans cf lp f (.region id ops false) ⟨tm,sto⟩ K=K .norm ⟨tm',sto'⟩:=by
 simp only[XK,h,hc]
theorem xD {id:Nat} {ops:Array Oper} (hg:(qR ans (ans f) id ops&&noX ans (ans f) id ops)=true) (h:∀ (kp:AVal→RS→Option R) (kn:RS→Option R),nC P ans (ans f) true cf tm id ops kp kn ops.toList 0 ⟨[],sto⟩=kn ⟨sc,sto'⟩) (hc:commit (ans f).keep tm sc=tm'):XK P ans cf lp f (.region id ops true) ⟨tm,sto⟩ K=K .norm ⟨tm',sto'⟩:=by
 simp only[XK,aD8 (Bool.and_eq_true_iff.1 hg).2,cond_false,h,hc,hg];rfl
theorem xM {id:Nat} {ops:Array Oper} (hm:vR (ans f) id=true):XK P ans cf lp f (.region id ops true) ⟨tm,sto⟩ K=uA P (ans f) ops.toList ⟨tm,sto⟩ K:=by
 simp only[XK,hm,cond_true]
theorem xL {e:bM} {st':St} (h:lp f c (jM (ans f) c st)=some (e,st')):XK P ans cf lp f (.loop c) st K=K e st':=by
 simp only[XK,h,Option.bind_some]
def KF (P:Program) (ans:FuncId→Ann) (f:FuncId) (fn:Func) (n:Nat):bM→St→Option (ARes×Sto):=fun e st =>
 match e with
 |.norm=>finish P (ans f) fn n st
 |.ret=>finish P (ans f) fn n st
 |.pan v=>some (.pan v,st.sto)
 |.exit _=>none
theorem fnX {pr:hZ} {fn:Func} {args:List Slot} (h1:pr f args=none) (h3:(ans f).prim=false) (h2:P.funcs[f]?=some fn) (hb:fn.body=some c) (hg:(Nat.beq fn.ntmps (ans f).nt&&Nat.ble args.length fn.ntmps)=true) (ht:((ans f).keep.map fun t=>(args[t]?).getD .dead)=tm) :
  cfW P ans pr (.fn f) args sto=XK P ans (cfW P ans pr) (lpW P ans pr) f c ⟨tm,sto⟩ (KF P ans f fn sto.objs.length):=by
 rw[og];simp only[cJ,h1,h2,h3,hb,cond_false,hg,aJ,cond_true,ht];rfl
def KL (P:Program) (ans:FuncId→Ann) (lp:aT) (f:FuncId) (c:Code):bM→St→Option (bM×St):=fun e st' =>
 match e with
 |.norm=>lp f c (jM (ans f) c st')
 |e=>some (e,st')
theorem lpX {pr:hZ}:lpW P ans pr f c st=XK P ans (cfW P ans pr) (lpW P ans pr) f c st (KL P ans (lpW P ans pr) f c):=by rw[aGZ];rfl
theorem wG {n:Int} (h1:-9223372036854775808≤n) (h2:n < 9223372036854775808):IntKind.i64.wrap n=n:=by
 rw[IntKind.wrap_i64];omega
theorem aIS (l:List AObj) (a:AObj):(l++[a])[l.length]?=some a:=by simp
theorem aJd (l:List AObj) (a b:AObj):((l++[a])++[b])[l.length]?=some a:=by simp
theorem aJG (l:List AObj) (a b c:AObj):(((l++[a])++[b])++[c])[l.length]?=some a:=by simp
theorem aGF (l:List AObj) (a b c:AObj):(((l++[a])++[b])++[c])[(l++[a]).length]?=some b:=by simp
theorem aI1 (l:List AObj) (a b:AObj):(l++[a]).set l.length b=l++[b]:=by simp
theorem aK0 (cs:List AVal):(AVal.agg cs).cells=cs:=rfl
theorem aLE (k:IntKind) (n:Int):(AVal.int k n).cells=[.int k n]:=rfl
theorem aJ7 (b:Bool):(AVal.bool b).cells=[.bool b]:=rfl
theorem aM1 (s:List UInt8):(AVal.str s).cells=[.str s]:=rfl
theorem aHn (s:List AVal):(AVal.slice s).cells=[.slice s]:=rfl
theorem aI7 (f:FuncId) (l:List AVal):(AVal.func f l).cells=[.func f l]:=rfl
theorem aJu:AVal.nilfunc.cells=[.nilfunc]:=rfl
theorem aJr:AVal.nilptr.cells=[.nilptr]:=rfl
theorem aJD:AVal.nilmap.cells=[.nilmap]:=rfl
theorem aN6 (i o:Nat):(AVal.loc i o).cells=[.loc i o]:=rfl
theorem aLN (i:Nat):(AVal.amap i).cells=[.amap i]:=rfl
theorem aNN (i:Nat):(AVal.yld i).cells=[.yld i]:=rfl
theorem tI {pr:hZ} {fn:Func} {n:Nat} {x:bM×St} (h:aFE fn n=some c) (k:XK P ans (cfW P ans pr) (lpW P ans pr) f c st (KL P ans (lpW P ans pr) f (dQ fn n))=some x):lpW P ans pr f (dQ fn n) st=some x:=by
 have hc:dQ fn n=c:=by simp [dQ,h]
 rw[lpX,hc];rw[hc] at k;exact k
theorem tA {pr:hZ} {fn:Func} {args:List Slot} {x:ARes×Sto} (h1:pr f args=none) (h3:(ans f).prim=false) (h2:P.funcs[f]?=some fn) (hb:fn.body=some c) (hg:(Nat.beq fn.ntmps (ans f).nt&&Nat.ble args.length fn.ntmps)=true) (ht:((ans f).keep.map fun t=>(args[t]?).getD .dead)=tm)
  (k:XK P ans (cfW P ans pr) (lpW P ans pr) f c ⟨tm,sto⟩ (KF P ans f fn sto.objs.length)=some x):cfW P ans pr (.fn f) args sto=some x:=(fnX h1 h3 h2 hb hg ht).trans k
variable {r:R}
theorem tS (h:XK P ans cf lp f a st (KS P ans cf lp f b K)=some r):XK P ans cf lp f (.seq a b) st K=some r:=h
theorem tB {id:Nat} (h:XK P ans cf lp f c st (KB id K)=some r):XK P ans cf lp f (.block id c) st K=some r:=h
theorem tO (h:XK P ans cf lp f c st K=some r):XK P ans cf lp f (.scope c) st K=some r:=h
theorem tK (h:K .norm st=some r):XK P ans cf lp f .skip st K=some r:=h
theorem tX {id:Nat} (h:K (.exit id) st=some r):XK P ans cf lp f (.exit id) st K=some r:=h
theorem tE (h:K .ret st=some r):XK P ans cf lp f .ret st K=some r:=h
theorem tsN (h:XK P ans cf lp f b st K=some r):KS P ans cf lp f b K .norm st=some r:=h
theorem tsX {id:Nat} (h:K (.exit id) st=some r):KS P ans cf lp f b K (.exit id) st=some r:=h
theorem tsE (h:K .ret st=some r):KS P ans cf lp f b K .ret st=some r:=h
theorem tbN {id:Nat} (h:K .norm st=some r):KB id K .norm st=some r:=h
theorem tbX {id:Nat} (h:K .norm st=some r):KB id K (.exit id) st=some r:=kbX.trans h
theorem tbO {id i:Nat} (hi:Nat.beq i id=false) (h:K (.exit i) st=some r):KB id K (.exit i) st=some r:=(kbO hi).trans h
theorem tbE {id:Nat} (h:K .ret st=some r):KB id K .ret st=some r:=h
theorem tT {o:Operand} {t:Bool} (h:opS (ans f).keep tm ⟨[],sto⟩ o=.val (.bool t)) (ht:t=true) (k:XK P ans cf lp f a ⟨tm,sto⟩ K=some r):XK P ans cf lp f (.cond o a b) ⟨tm,sto⟩ K=some r:=(xT h ht).trans k
theorem tF {o:Operand} {t:Bool} (h:opS (ans f).keep tm ⟨[],sto⟩ o=.val (.bool t)) (ht:t=false) (k:XK P ans cf lp f b ⟨tm,sto⟩ K=some r):XK P ans cf lp f (.cond o a b) ⟨tm,sto⟩ K=some r:=(xF h ht).trans k
theorem tR {id:Nat} {ops:Array Oper} (h:∀ (kp:AVal→RS→Option R) (kn:RS→Option R),nC P ans (ans f) false cf tm id ops kp kn ops.toList 0 ⟨[],sto⟩=kn ⟨sc,sto'⟩) (hc:commit (ans f).keep tm sc=tm') (k:K .norm ⟨tm',sto'⟩=some r):XK P ans cf lp f (.region id ops false) ⟨tm,sto⟩ K=some r:=(xR h hc).trans k
theorem tD {id:Nat} {ops:Array Oper} (hg:(qR ans (ans f) id ops&&noX ans (ans f) id ops)=true) (h:∀ (kp:AVal→RS→Option R) (kn:RS→Option R),nC P ans (ans f) true cf tm id ops kp kn ops.toList 0 ⟨[],sto⟩=kn ⟨sc,sto'⟩) (hc:commit (ans f).keep tm sc=tm') (k:K .norm ⟨tm',sto'⟩=some r):XK P ans cf lp f (.region id ops true) ⟨tm,sto⟩ K=some r:=(xD hg h hc).trans k
theorem tOp {an:Ann} {drawn:Bool} {id i:Nat} {ops:Array Oper} {kp:AVal→RS→Option R} {kn:RS→Option R} {o:Oper} {os:List Oper} {rs rs':RS} {x:Option R} (h:∀ next:RS→Option R,iK P ans an drawn cf tm id ops kp o i rs next=next rs') (k:nC P ans an drawn cf tm id ops kp kn os (i+1) rs'=x):nC P ans an drawn cf tm id ops kp kn (o::os) i rs=x:=(h _).trans k
theorem tL {e:bM} {st':St} (h:lp f c (jM (ans f) c st)=some (e,st')) (k:K e st'=some r):XK P ans cf lp f (.loop c) st K=some r:=(xL h).trans k
theorem tfE {fn:Func} {n:Nat} {x:ARes×Sto} (h:finish P (ans f) fn n st=some x):KF P ans f fn n .ret st=some x:=h
theorem tfN {fn:Func} {n:Nat} {x:ARes×Sto} (h:finish P (ans f) fn n st=some x):KF P ans f fn n .norm st=some x:=h
theorem tlN {x:bM×St} {lp:aT} (h:lp f c (jM (ans f) c st)=some x):KL P ans lp f c .norm st=some x:=h
theorem tlX {id:Nat}:KL P ans lp f c (.exit id) st=some (.exit id,st):=rfl
theorem tlE:KL P ans lp f c .ret st=some (.ret,st):=rfl
end Go.AM
end
section
namespace Go.AM
variable {P:Program} {ans:FuncId→Ann} {cf:aO} {lp:aT} {f:FuncId} {R:Type} {K:bM→St→Option R} {tm:List Slot} {sto:Sto} {r:R}
def ranges:Code→List (Array Tmp×Code×Code)
 |.seq a b=>ranges a++ranges b
 |.cond _ a b=>ranges a++ranges b
 |.block _ c=>ranges c
 |.loop c=>ranges c
 |.scope c=>ranges c
 |.rangeFunc _ ps a b=>(ps,a,b)::(ranges a++ranges b)
 |_=>[]
def aCv (fn:Func) (n:Nat):Option (Array Tmp×Code×Code):=match fn.body with|some c=>(ranges c)[n]?|none=>none
def pA (fn:Func) (n:Nat):Array Tmp×Code×Code:=(aCv fn n).getD (#[],.skip,.skip)
def lB (f:FuncId) (fn:Func) (n:Nat) (tm:List Slot) (p:Option Code) (s:LoopState):iP:=⟨f,tm,(pA fn n).1,(pA fn n).2.1,(pA fn n).2.2,p,s⟩
theorem tGn {fo:Operand} {ps:Array Tmp} {assign body:Code} {g:FuncId} {caps:List AVal} {s:Slot} {O O':List AObj} {lo n:Nat} {fn:Func} {f':FuncId} {tl:List Slot}
  (h:opS (ans f).keep tm ⟨[],sto⟩ fo=.val (.func g caps))
  (hc:cf (.fn g) (.val (.yld sto.objs.length)::caps.map .val) ⟨sto.objs++[.loop ⟨f,tm.map dM,ps,assign,body,none,.ready⟩],sto.lo⟩=some (.ret s,⟨O',lo⟩))
  (hl:O'[sto.objs.length]?=some (.loop (lB f' fn n tl none .ready))) (ht:O'.take sto.objs.length=O)
  (k:K .norm ⟨tm,⟨O,lo⟩⟩=some r):XK P ans cf lp f (.rangeFunc fo ps assign body) ⟨tm,sto⟩ K=some r:=by
 subst ht;simp only[XK,h,hc,Option.bind_some,hl,lB];exact k
def KY2 (i n:Nat):bM→St→Option (ARes×Sto):=fun e st =>
 match e with
 |.norm=>dB st.sto i fun l2=>some (.ret (.val (.bool true)),cut n (setLoop st.sto i { l2 with state:=.ready,pend:=none }))
 |.ret=>dB st.sto i fun l2=>some (.ret (.val (.bool false)),cut n (setLoop st.sto i { l2 with state:=.done,pend:=some .ret }))
 |.exit id=>dB st.sto i fun l2=>some (.ret (.val (.bool false)),cut n (setLoop st.sto i { l2 with state:=.done,pend:=some (.exit id) }))
 |.pan v=>some (.pan v,st.sto)
def KY1 (P:Program) (ans:FuncId→Ann) (cf:aO) (lp:aT) (i n:Nat) (f:FuncId) (body:Code):bM→St→Option (ARes×Sto):=fun e st =>
 match e with
 |.norm=>dB st.sto i fun l1 =>
  match l1.state with
  |.ready=>XK P ans cf lp f body { st with sto:=setLoop st.sto i { l1 with state:=.busy } } (KY2 i n)
  |_=>none
 |_=>none
theorem tY {pr:hZ} {i n:Nat} {args:List Slot} {O:List AObj} {lo:Nat} {f:FuncId} {fn:Func} {p:Option Code} {tm tm':List Slot} {ps:Array Tmp} {a b:Code} {x:ARes×Sto} (hl:O[i]?=some (.loop (lB f fn n tm p .ready))) (hq:aCv fn n=some (ps,a,b))
  (hg:(Nat.beq args.length ps.size&&cB a&&cB b&&args.all Slot.isVal&&(P.funcs[f]?).isSome&&ps.toList.all (fun p=>Nat.blt p (ans f).nt))=true) (hb:Nat.ble lo i=true)
  (ht:cG (ans f).keep tm (ps.toList.zip args)=tm')
  (k:XK P ans (cfW P ans pr) (lpW P ans pr) f a ⟨tm',⟨O,lo⟩⟩ (KY1 P ans (cfW P ans pr) (lpW P ans pr) i O.length f b)=some x) :
  cfW P ans pr (.yld i) args ⟨O,lo⟩=some x:=by
 have h1:pA fn n=(ps,a,b):=by simp [pA,hq]
 rw[og];simp only[cJ,dB,hl];simp only[Bool.and_eq_true] at hg;obtain ⟨⟨⟨⟨⟨g1,g2⟩,g3⟩,g4⟩,g5⟩,g6⟩:=hg;simp only[lB,h1,hb,g1,g2,g3,g4,g5,g6,Bool.and_self,aJ,cond_true];subst ht;exact k
theorem ty1 {i n m:Nat} {O O':List AObj} {lo:Nat} {f:FuncId} {fn:Func} {p:Option Code} {tm tl:List Slot} {b:Code} {x:ARes×Sto} (hl:O[i]?=some (.loop (lB f fn n tl p .ready))) (hs:O.set i (.loop (lB f fn n tl p .busy))=O')
  (k:XK P ans cf lp f b ⟨tm,⟨O',lo⟩⟩ (KY2 i m)=some x) :
  KY1 P ans cf lp i m f b .norm ⟨tm,⟨O,lo⟩⟩=some x:=by
 subst hs;simp only[KY1,dB,hl,setLoop];exact k
theorem xh {i n m:Nat} {O O':List AObj} {lo:Nat} {f:FuncId} {fn:Func} {p:Option Code} {s:LoopState} {tm tl:List Slot} (hl:O[i]?=some (.loop (lB f fn n tl p s))) (hs:(O.set i (.loop (lB f fn n tl none .ready))).take m=O') :
  KY2 i m .norm ⟨tm,⟨O,lo⟩⟩=some (.ret (.val (.bool true)),⟨O',lo⟩):=by
 subst hs;simp only[KY2,dB,hl,setLoop,cut];rfl
theorem aKq (l e:List AObj) (k:Nat):(l++e)[l.length+k]?=e[k]?:=by rw[List.getElem?_append_right (by omega)];congr 1;omega
theorem aK7 (l e:List AObj):(l++e)[l.length]?=e[0]?:=by rw[List.getElem?_append_right (by omega)];congr 1;omega
theorem yk (l e:List AObj) (k:Nat) (v:AObj):(l++e).set (l.length+k) v=l++e.set k v:=by rw[List.set_append_right _ _ (by omega)];congr 2;omega
theorem aKC (l e:List AObj) (v:AObj):(l++e).set l.length v=l++e.set 0 v:=by rw[List.set_append_right _ _ (by omega)];congr 2;omega
theorem nN (l e:List AObj) (k:Nat):(l++e).take (l.length+k)=l++e.take k:=by rw[List.take_append,List.take_of_length_le (by omega)];congr 2;omega
theorem nW {α:Type} {X:Option (α×Sto)} {r:α} {sto:Sto} (e:List AObj) (h:X=some (r,⟨(sto.objs++e).take sto.objs.length,sto.lo⟩)):X=some (r,sto):=by
 rw[h,List.take_left'];rfl
theorem FL.{u} {α : Type u} : (∀ a b c : List α, (a ++ b) ++ c=a ++ (b ++ c))∧(∀ a b : List α, (a ++ b).length=a.length + b.length)∧(∀ (a : α) (l : List α), (a :: l).length=l.length + 1)∧(([] : List α).length=0) ∧
 (∀ (a : α) (l m : List α), (a :: l) ++ m=a :: (l ++ m))∧(∀ l : List α, [] ++ l=l)∧(∀ l : List α, l.take 0=[])∧(∀ (n : Nat) (a : α) (l : List α), (a :: l).take (n + 1)=a :: l.take n) ∧
 (∀ (a b : α) (l : List α), (a :: l).set 0 b=b :: l)∧(∀ (n : Nat) (a b : α) (l : List α), (a :: l).set (n + 1) b=a :: l.set n b)∧(∀ (a : α) (l : List α), (a :: l)[0]?=some a)∧(∀ (n : Nat) (a : α) (l : List α), (a :: l)[n + 1]?=l[n]?) := ⟨List.append_assoc, fun _ _ => List.length_append, fun _ _ => rfl, rfl, fun _ _ _ => rfl, fun _ => rfl, fun _ => rfl, fun _ _ _ => rfl, fun _ _ _ => rfl, fun _ _ _ _ => rfl, fun _ _ => rfl, fun _ _ _ => rfl⟩
theorem FO : (∀ (l e : List AObj) (k : Nat), (l ++ e)[l.length + k]?=e[k]?)∧(∀ l e : List AObj, (l ++ e)[l.length]?=e[0]?)∧(∀ (l e : List AObj) (k : Nat) (v : AObj), (l ++ e).set (l.length + k) v=l ++ e.set k v)∧(∀ (l e : List AObj) (v : AObj), (l ++ e).set l.length v=l ++ e.set 0 v)∧(∀ (l e : List AObj) (k : Nat), (l ++ e).take (l.length + k)=l ++ e.take k)∧(∀ n : Nat, 0 + n=n) := ⟨aKq, aK7, yk, aKC, nN, Nat.zero_add⟩
end Go.AM
end
