import Derived.Test.YtdkkaldimefljaaGreatDoorX11
import Derived.IntWalk
set_option linter.all false
section
namespace Go.AM
variable {P:Program} {ans:FuncId→Ann} {pr:Prims}
variable {cf0:Oracle} {lp0:LpOracle} {cf:Nat→Oracle} {lp:Nat→LpOracle}
theorem loopAt_cont {R:Type} {r:R} {sto:Sto} {i:Nat} {k0:ALoop→Option R} {k:Nat→ALoop→Option R} (hk:∀ l r,k0 l=some r→Evl (fun m=>k m l) r) (e:loopAt sto i k0=some r):Evl (fun m=>loopAt sto i (k m)) r:=by
 unfold loopAt at e ⊢
 generalize sto.objs[i]?=o at e ⊢
 rcases o with _|o
 ·cases e
 ·cases o with
  |loop l=>exact hk _ _ e
  |_=>cases e
theorem callStep_cont (hc:CfLim cf0 cf) (hl:LpLim lp0 lp):CfLim (callStep P ans pr cf0 lp0) (fun m=>callStep P ans pr (cf m) (lp m))
 |.fn f,a,s,r,e=>by
  simp only[callStep] at e ⊢
  generalize pr f a=p at e ⊢
  cases p with
  |some x=>exact Evl.const e
  |none =>
   simp only at e ⊢
   cases hp:(ans f).prim with
   |true=>rw[hp] at e;cases e
   |false =>
    rw[hp] at e
    simp only[cond_false] at e ⊢
    generalize P.funcs[f]?=F at e ⊢
    rcases F with _|F
    ·cases e
    ·simp only at e ⊢
     generalize hb:F.body=b at e ⊢
     rcases b with _|c
     ·cases e
     ·simp only at e ⊢
      obtain ⟨hg,e⟩:=guardB_ok e
      exact (XK_cont hc hl c (K:=fun _ e st=>match e with
       |.norm=>finish P (ans f) F s.objs.length st
       |.ret=>finish P (ans f) F s.objs.length st
       |.pan v=>some (.pan v,st.sto)
       |.exit _=>none) (fun e st r h=>Evl.const h) e).congr fun m=>guardB_true hg _
 |.yld i,a,s,r,e=>by
  simp only[callStep] at e ⊢
  refine loopAt_cont (fun l r e=>?_) e
  generalize hls:l.state=ls at e ⊢
  cases ls <;> first
   |cases e
   |(simp only at e ⊢
     obtain ⟨hg,e⟩:=guardB_ok e
     refine (XK_cont hc hl l.assign (K:=fun m e st =>
       match e with
       |.norm=>loopAt st.sto i fun l1 =>
        match l1.state with
        |.ready=>XK P ans (cf m) (lp m) l.fn l.body { st with sto:=setLoop st.sto i { l1 with state:=.busy } } fun e st =>
         match e with
         |.norm=>loopAt st.sto i fun l2=>some (.ret (.val (.bool true)),cut s.objs.length (setLoop st.sto i { l2 with state:=.ready,pend:=none }))
         |.ret=>loopAt st.sto i fun l2=>some (.ret (.val (.bool false)),cut s.objs.length (setLoop st.sto i { l2 with state:=.done,pend:=some .ret }))
         |.exit id=>loopAt st.sto i fun l2=>some (.ret (.val (.bool false)),cut s.objs.length (setLoop st.sto i { l2 with state:=.done,pend:=some (.exit id) }))
         |.pan v=>some (.pan v,st.sto)
        |_=>none
       |_=>none) (fun ex st r e=>?_) e).congr fun m=>guardB_true hg _
     cases ex with
     |norm =>
      simp only at e ⊢
      refine loopAt_cont (fun l1 r e=>?_) e
      generalize l1.state=ls at e ⊢
      cases ls <;> first
       |cases e
       |exact XK_cont hc hl l.body (K:=fun _ e st =>
         match e with
         |.norm=>loopAt st.sto i fun l2=>some (.ret (.val (.bool true)),cut s.objs.length (setLoop st.sto i { l2 with state:=.ready,pend:=none }))
         |.ret=>loopAt st.sto i fun l2=>some (.ret (.val (.bool false)),cut s.objs.length (setLoop st.sto i { l2 with state:=.done,pend:=some .ret }))
         |.exit id=>loopAt st.sto i fun l2=>some (.ret (.val (.bool false)),cut s.objs.length (setLoop st.sto i { l2 with state:=.done,pend:=some (.exit id) }))
         |.pan v=>some (.pan v,st.sto)) (fun e st r h=>Evl.const h) e
     |_=>cases e)
theorem loopStep_cont (hc:CfLim cf0 cf) (hl:LpLim lp0 lp):LpLim (loopStep P ans cf0 lp0) (fun m=>loopStep P ans (cf m) (lp m)):=fun f c st r e=>by
 simp only[loopStep] at e ⊢
 refine XK_cont hc hl c (K:=fun m e st'=>match e with
  |.norm=>lp m f c (headSt (ans f) c st')
  |e=>some (e,st')) (fun ex st' r e=>?_) e
 cases ex with
 |norm=>exact hl _ _ _ _ e
 |_=>exact Evl.const e
def CfLe (a b:Oracle):Prop:=∀ c x s r,a c x s=some r→b c x s=some r
def LpLe (a b:LpOracle):Prop:=∀ f c s r,a f c s=some r→b f c s=some r
theorem CfLe.lim {a b:Oracle} (h:CfLe a b):CfLim a fun _=>b:=fun c x s r e=>Evl.const (h c x s r e)
theorem LpLe.lim {a b:LpOracle} (h:LpLe a b):LpLim a fun _=>b:=fun c x s r e=>Evl.const (h c x s r e)
theorem Evl.one {R:Type} {r:R} {x:Option R} (h:Evl (fun _=>x) r):x=some r:=by
 obtain ⟨n,h⟩:=h;exact h n (Nat.le_refl _)
theorem callStep_le {a b:Oracle} {c d:LpOracle} (h:CfLe a b) (k:LpLe c d):CfLe (callStep P ans pr a c) (callStep P ans pr b d):=fun x y s r e=>(callStep_cont h.lim k.lim x y s r e).one
theorem loopStep_le {a b:Oracle} {c d:LpOracle} (h:CfLe a b) (k:LpLe c d):LpLe (loopStep P ans a c) (loopStep P ans b d):=fun x y s r e=>(loopStep_cont h.lim k.lim x y s r e).one
theorem run_succ:∀ n,CfLe (run P ans pr n).1 (run P ans pr (n+1)).1∧LpLe (run P ans pr n).2 (run P ans pr (n+1)).2
 |0=>⟨fun c x s r e=>(by cases e),fun c x s r e=>(by cases e)⟩
 |n+1=>⟨callStep_le (run_succ n).1 (run_succ n).2,loopStep_le (run_succ n).1 (run_succ n).2⟩
theorem run_le {n m:Nat} (h:n≤m):CfLe (run P ans pr n).1 (run P ans pr m).1∧LpLe (run P ans pr n).2 (run P ans pr m).2:=by
 induction h with
 |refl=>exact ⟨fun _ _ _ _ e=>e,fun _ _ _ _ e=>e⟩
 |step _ ih=>exact ⟨fun c x s r e=>(run_succ _).1 _ _ _ _ (ih.1 c x s r e),fun c x s r e=>(run_succ _).2 _ _ _ _ (ih.2 c x s r e)⟩
open Classical in
noncomputable def lim {α:Type} (x:Nat→Option α):Option α:=if h:∃ n r,x n=some r then x (Classical.choose h) else none
theorem lim_some {α:Type} {x:Nat→Option α} {r:α} (hm:∀ n m r,n≤m→x n=some r→x m=some r):lim x=some r↔∃ n,x n=some r:=by
 unfold lim
 constructor
 ·intro h
  split at h
  ·exact ⟨_,h⟩
  ·cases h
 ·rintro ⟨n,hn⟩
  rw[dif_pos ⟨n,r,hn⟩]
  have hch:=Classical.choose_spec (⟨n,r,hn⟩:∃ n r,x n=some r)
  obtain ⟨r',hr'⟩:=hch
  have h1:=hm _ (max n (Classical.choose (⟨n,r,hn⟩:∃ n r,x n=some r))) _ (Nat.le_max_right _ _) hr'
  have h2:=hm n _ _ (Nat.le_max_left _ (Classical.choose (⟨n,r,hn⟩:∃ n r,x n=some r))) hn
  rw[h1] at h2
  rw[hr'];exact h2
variable (P ans pr) in
noncomputable def cfW:Oracle:=fun c a s=>lim fun n=>(run P ans pr n).1 c a s
variable (P ans pr) in
noncomputable def lpW:LpOracle:=fun f c st=>lim fun n=>(run P ans pr n).2 f c st
theorem cfW_some {c:Callee} {a:List Slot} {s:Sto} {r:ARes×Sto}:cfW P ans pr c a s=some r↔∃ n,(run P ans pr n).1 c a s=some r:=lim_some fun n m r h e=>(run_le h).1 _ _ _ _ e
theorem lpW_some {f:FuncId} {c:Code} {s:St} {r:AExit×St}:lpW P ans pr f c s=some r↔∃ n,(run P ans pr n).2 f c s=some r:=lim_some fun n m r h e=>(run_le h).2 _ _ _ _ e
theorem cfW_lim:CfLim (cfW P ans pr) fun m=>(run P ans pr m).1:=fun c a s r e=>by
 obtain ⟨n,hn⟩:=cfW_some.1 e
 exact ⟨n,fun m hm=>(run_le hm).1 _ _ _ _ hn⟩
theorem lpW_lim:LpLim (lpW P ans pr) fun m=>(run P ans pr m).2:=fun c a s r e=>by
 obtain ⟨n,hn⟩:=lpW_some.1 e
 exact ⟨n,fun m hm=>(run_le hm).2 _ _ _ _ hn⟩
theorem run_leW (n:Nat):CfLe (run P ans pr n).1 (cfW P ans pr)∧LpLe (run P ans pr n).2 (lpW P ans pr):=⟨fun _ _ _ _ e=>cfW_some.2 ⟨n,e⟩,fun _ _ _ _ e=>lpW_some.2 ⟨n,e⟩⟩
theorem cfW_eq (c:Callee) (a:List Slot) (s:Sto):cfW P ans pr c a s=callStep P ans pr (cfW P ans pr) (lpW P ans pr) c a s:=by
 refine Option.ext fun r=>⟨fun e=>?_,fun e=>?_⟩
 ·obtain ⟨n,hn⟩:=cfW_some.1 e
  cases n with
  |zero=>cases hn
  |succ n=>exact callStep_le (run_leW n).1 (run_leW n).2 _ _ _ _ hn
 ·obtain ⟨n,hn⟩:=callStep_cont cfW_lim lpW_lim _ _ _ _ e
  exact cfW_some.2 ⟨n+1,hn n (Nat.le_refl _)⟩
theorem lpW_eq (f:FuncId) (c:Code) (s:St):lpW P ans pr f c s=loopStep P ans (cfW P ans pr) (lpW P ans pr) f c s:=by
 refine Option.ext fun r=>⟨fun e=>?_,fun e=>?_⟩
 ·obtain ⟨n,hn⟩:=lpW_some.1 e
  cases n with
  |zero=>cases hn
  |succ n=>exact loopStep_le (run_leW n).1 (run_leW n).2 _ _ _ _ hn
 ·obtain ⟨n,hn⟩:=loopStep_cont cfW_lim lpW_lim _ _ _ _ e
  exact lpW_some.2 ⟨n+1,hn n (Nat.le_refl _)⟩
theorem cfW_calls {B0:Nat} (E:Env P ans B0 pr) {f:FuncId} {args:List Slot} {sto:Sto} {res:ARes} {sto':Sto} (hpr:pr f args=none) (e:cfW P ans pr (.fn f) args sto=some (res,sto')) {w:World} {Ψ:HT} {ρ:List Nat} {ow:Own} {vs:Array Value} (hpre:CallPre ans B0 w Ψ ρ ow args vs sto) :
  Calls P f vs w fun e w'=>∃ Ψ' ρ' ow',Fr w Ψ ow w' Ψ' ow'∧WSat Ψ' w'∧match res with
   |.ret s=>∃ v,e=.returned v∧SRel w' B0 Ψ' ρ' ow' #[] 0 s v
   |.pan x=>∃ v,e=.panicked [{ v,recovered:=false }]∧VRel Ψ' ρ' x v:=by
 obtain ⟨n,hn⟩:=cfW_some.1 e
 cases n with
 |zero=>cases hn
 |succ n=>exact run_calls E hpr hn hpre
end Go.AM
end
section
namespace Go.AM
theorem bnd {α β:Type} {x:Option α} {a:α} (h:x=some a) (G:α→Option β):x.bind G=G a:=by subst h;rfl
theorem gdb {α:Type} {b:Bool} {x:Option α} (h:b=true):guardB b x=x:=by subst h;rfl
theorem bifl {α:Type} {c:Bool} {X Y r:α} (h1:c=true→X=r) (h2:c=false→Y=r):cond c X Y=r:=by cases c <;> simp_all
theorem bifT {α:Type} {c:Bool} {X Y:α} (h:c=true):cond c X Y=X:=by subst h;rfl
theorem bifF {α:Type} {c:Bool} {X Y:α} (h:c=false):cond c X Y=Y:=by subst h;rfl
def callB (P:Program) (ans:FuncId→Ann) (cf:Oracle) (lp:LpOracle) (f:FuncId) (fn:Func) (args:List Slot) (sto:Sto):Option (ARes×Sto) :=
 match fn.body with
 |none=>none
 |some c=>guardB (Nat.beq fn.ntmps (ans f).nt&&Nat.ble args.length fn.ntmps) <| XK P ans cf lp f c ⟨(ans f).keep.map fun t=>(args[t]?).getD .dead,sto⟩ fun e st =>
  match e with
  |.norm=>finish P (ans f) fn sto.objs.length st
  |.ret=>finish P (ans f) fn sto.objs.length st
  |.pan v=>some (.pan v,st.sto)
  |.exit _=>none
theorem fnB {P:Program} {ans:FuncId→Ann} {pr:Prims} {f:FuncId} {fn:Func} {args:List Slot} {sto:Sto} (h1:pr f args=none) (h3:(ans f).prim=false) (h2:P.funcs[f]?=some fn):cfW P ans pr (.fn f) args sto=callB P ans (cfW P ans pr) (lpW P ans pr) f fn args sto:=by
 rw[cfW_eq]
 simp only[callStep,h1,h2,h3,callB,cond_false]
 rfl
theorem fnP {P:Program} {ans:FuncId→Ann} {pr:Prims} {f:FuncId} {args:List Slot} {sto:Sto} {r:ARes} {s:Slot} (h1:pr f args=some (some r)) (h2:primOk r=some s):cfW P ans pr (.fn f) args sto=some (.ret s,sto):=by
 rw[cfW_eq]
 simp only[callStep,h1,Option.bind_some,h2,Option.map_some]
theorem lpB {P:Program} {ans:FuncId→Ann} {pr:Prims} {f:FuncId} {c:Code} {st:St}:lpW P ans pr f c st=XK P ans (cfW P ans pr) (lpW P ans pr) f c st fun e st' =>
  match e with
  |.norm=>lpW P ans pr f c (headSt (ans f) c st')
  |e=>some (e,st'):=by rw[lpW_eq];rfl
theorem fin0 {α:Type} {X:Option (α×Sto)} {r:α} {sto:Sto} (h:X=some (r,⟨sto.objs.take sto.objs.length,sto.lo⟩)):X=some (r,sto):=by
 rw[h,List.take_length]
theorem fin1 {α:Type} {X:Option (α×Sto)} {r:α} {sto:Sto} (extra:List AObj) (h:X=some (r,⟨(sto.objs++extra).take sto.objs.length,sto.lo⟩)):X=some (r,sto):=by
 rw[h,List.take_left'];rfl
theorem fin2 {α:Type} {X:Option (α×Sto)} {r:α} {sto:Sto} (e1 e2:List AObj) (h:X=some (r,⟨((sto.objs++e1)++e2).take sto.objs.length,sto.lo⟩)):X=some (r,sto):=by
 rw[h,List.append_assoc,List.take_left'];rfl
def loops:Code→List Code
 |.seq a b=>loops a++loops b
 |.cond _ a b=>loops a++loops b
 |.block _ c=>loops c
 |.loop c=>c::loops c
 |.scope c=>loops c
 |.rangeFunc _ _ a b=>loops a++loops b
 |_=>[]
def loopQ (fn:Func) (n:Nat):Option Code:=match fn.body with|some c=>(loops c)[n]?|none=>none
def loopOf (fn:Func) (n:Nat):Code:=(loopQ fn n).getD .skip
end Go.AM
end
section
namespace Go.AM
variable {P:Program} {ans:FuncId→Ann} {cf:Oracle} {lp:LpOracle} {f:FuncId} {R:Type} {K:AExit→St→Option R} {a b c:Code} {st:St} {tm tm':List Slot} {sto sto':Sto} {sc:List (Nat×Slot)}
def KS (P:Program) (ans:FuncId→Ann) (cf:Oracle) (lp:LpOracle) (f:FuncId) (b:Code) (K:AExit→St→Option R):AExit→St→Option R:=fun e st' =>
 match e with
 |.norm=>XK P ans cf lp f b st' K
 |.exit id=>K (.exit id) st'
 |.ret=>K .ret st'
 |.pan v=>K (.pan v) st'
def KB (id:Nat) (K:AExit→St→Option R):AExit→St→Option R:=fun e st' =>
 match e with
 |.norm=>K .norm st'
 |.exit id'=>(bif Nat.beq id' id then K .norm st' else K (.exit id') st')
 |.ret=>K .ret st'
 |.pan v=>K (.pan v) st'
theorem xS:XK P ans cf lp f (.seq a b) st K=XK P ans cf lp f a st (KS P ans cf lp f b K):=rfl
theorem xB {id:Nat}:XK P ans cf lp f (.block id c) st K=XK P ans cf lp f c st (KB id K):=rfl
theorem xO:XK P ans cf lp f (.scope c) st K=XK P ans cf lp f c st K:=rfl
theorem xK:XK P ans cf lp f .skip st K=K .norm st:=rfl
theorem xX {id:Nat}:XK P ans cf lp f (.exit id) st K=K (.exit id) st:=rfl
theorem xE:XK P ans cf lp f .ret st K=K .ret st:=rfl
theorem ksN:KS P ans cf lp f b K .norm st=XK P ans cf lp f b st K:=rfl
theorem ksX {id:Nat}:KS P ans cf lp f b K (.exit id) st=K (.exit id) st:=rfl
theorem ksE:KS P ans cf lp f b K .ret st=K .ret st:=rfl
theorem kbN {id:Nat}:KB id K .norm st=K .norm st:=rfl
theorem kbX {id:Nat}:KB id K (.exit id) st=K .norm st:=by simp [KB]
theorem kbO {id i:Nat} (h:Nat.beq i id=false):KB id K (.exit i) st=K (.exit i) st:=by simp [KB,h]
theorem kbE {id:Nat}:KB id K .ret st=K .ret st:=rfl
theorem xT {o:Operand} {t:Bool} (h:opS (ans f).keep tm ⟨[],sto⟩ o=.val (.bool t)) (ht:t=true):XK P ans cf lp f (.cond o a b) ⟨tm,sto⟩ K=XK P ans cf lp f a ⟨tm,sto⟩ K:=by
 subst ht;simp only[XK,h,asBool,cond_true]
theorem xF {o:Operand} {t:Bool} (h:opS (ans f).keep tm ⟨[],sto⟩ o=.val (.bool t)) (ht:t=false):XK P ans cf lp f (.cond o a b) ⟨tm,sto⟩ K=XK P ans cf lp f b ⟨tm,sto⟩ K:=by
 subst ht;simp only[XK,h,asBool,cond_false]
theorem xR {id:Nat} {ops:Array Oper} (h:∀ (kp:AVal→RS→Option R) (kn:RS→Option R),opsK P ans (ans f) false cf tm id ops kp kn ops.toList 0 ⟨[],sto⟩=kn ⟨sc,sto'⟩) (hc:commit (ans f).keep tm sc=tm'):XK P ans cf lp f (.region id ops false) ⟨tm,sto⟩ K=K .norm ⟨tm',sto'⟩:=by
 simp only[XK,h,hc]
theorem xD {id:Nat} {ops:Array Oper} (hg:(drawOk ans (ans f) id ops&&noX ans (ans f) id ops)=true) (h:∀ (kp:AVal→RS→Option R) (kn:RS→Option R),opsK P ans (ans f) true cf tm id ops kp kn ops.toList 0 ⟨[],sto⟩=kn ⟨sc,sto'⟩) (hc:commit (ans f).keep tm sc=tm'):XK P ans cf lp f (.region id ops true) ⟨tm,sto⟩ K=K .norm ⟨tm',sto'⟩:=by
 simp only[XK,h,hc,hg];rfl
theorem xL {e:AExit} {st':St} (h:lp f c (headSt (ans f) c st)=some (e,st')):XK P ans cf lp f (.loop c) st K=K e st':=by
 simp only[XK,h,Option.bind_some]
def KF (P:Program) (ans:FuncId→Ann) (f:FuncId) (fn:Func) (n:Nat):AExit→St→Option (ARes×Sto):=fun e st =>
 match e with
 |.norm=>finish P (ans f) fn n st
 |.ret=>finish P (ans f) fn n st
 |.pan v=>some (.pan v,st.sto)
 |.exit _=>none
theorem kfE {fn:Func} {n:Nat}:KF P ans f fn n .ret st=finish P (ans f) fn n st:=rfl
theorem kfN {fn:Func} {n:Nat}:KF P ans f fn n .norm st=finish P (ans f) fn n st:=rfl
theorem fnX {pr:Prims} {fn:Func} {args:List Slot} (h1:pr f args=none) (h3:(ans f).prim=false) (h2:P.funcs[f]?=some fn) (hb:fn.body=some c) (hg:(Nat.beq fn.ntmps (ans f).nt&&Nat.ble args.length fn.ntmps)=true) (ht:((ans f).keep.map fun t=>(args[t]?).getD .dead)=tm) :
  cfW P ans pr (.fn f) args sto=XK P ans (cfW P ans pr) (lpW P ans pr) f c ⟨tm,sto⟩ (KF P ans f fn sto.objs.length):=by
 rw[cfW_eq]
 simp only[callStep,h1,h2,h3,hb,cond_false,hg,guardB,cond_true,ht]
 rfl
def KL (P:Program) (ans:FuncId→Ann) (lp:LpOracle) (f:FuncId) (c:Code):AExit→St→Option (AExit×St):=fun e st' =>
 match e with
 |.norm=>lp f c (headSt (ans f) c st')
 |e=>some (e,st')
theorem lpX {pr:Prims}:lpW P ans pr f c st=XK P ans (cfW P ans pr) (lpW P ans pr) f c st (KL P ans (lpW P ans pr) f c):=by rw[lpW_eq];rfl
theorem klN:KL P ans lp f c .norm st=lp f c (headSt (ans f) c st):=rfl
theorem klX {id:Nat}:KL P ans lp f c (.exit id) st=some (.exit id,st):=rfl
theorem klE:KL P ans lp f c .ret st=some (.ret,st):=rfl
theorem wrapOk {n:Int} (h1:-9223372036854775808≤n) (h2:n < 9223372036854775808):IntKind.i64.wrap n=n:=by
 rw[IntKind.wrap_i64];omega
theorem objs1 (l:List AObj) (a:AObj):(l++[a])[l.length]?=some a:=by simp
theorem objs2 (l:List AObj) (a b:AObj):((l++[a])++[b])[l.length]?=some a:=by simp
theorem objs3 (l:List AObj) (a b c:AObj):(((l++[a])++[b])++[c])[l.length]?=some a:=by simp
theorem objs32 (l:List AObj) (a b c:AObj):(((l++[a])++[b])++[c])[(l++[a]).length]?=some b:=by simp
theorem oset1 (l:List AObj) (a b:AObj):(l++[a]).set l.length b=l++[b]:=by simp
theorem cAgg (cs:List AVal):(AVal.agg cs).cells=cs:=rfl
theorem cInt (k:IntKind) (n:Int):(AVal.int k n).cells=[.int k n]:=rfl
theorem cBool (b:Bool):(AVal.bool b).cells=[.bool b]:=rfl
theorem cStr (s:List UInt8):(AVal.str s).cells=[.str s]:=rfl
theorem cSlice (s:List AVal):(AVal.slice s).cells=[.slice s]:=rfl
theorem cFunc (f:FuncId) (l:List AVal):(AVal.func f l).cells=[.func f l]:=rfl
theorem cNilf:AVal.nilfunc.cells=[.nilfunc]:=rfl
theorem cNilp:AVal.nilptr.cells=[.nilptr]:=rfl
theorem cNilm:AVal.nilmap.cells=[.nilmap]:=rfl
theorem cLoc (i o:Nat):(AVal.loc i o).cells=[.loc i o]:=rfl
theorem cMap (i:Nat):(AVal.amap i).cells=[.amap i]:=rfl
theorem cYld (i:Nat):(AVal.yld i).cells=[.yld i]:=rfl
theorem tI {pr:Prims} {fn:Func} {n:Nat} {x:AExit×St} (h:loopQ fn n=some c) (k:XK P ans (cfW P ans pr) (lpW P ans pr) f c st (KL P ans (lpW P ans pr) f (loopOf fn n))=some x):lpW P ans pr f (loopOf fn n) st=some x:=by
 have hc:loopOf fn n=c:=by simp [loopOf,h]
 rw[lpX,hc];rw[hc] at k;exact k
theorem tA {pr:Prims} {fn:Func} {args:List Slot} {x:ARes×Sto} (h1:pr f args=none) (h3:(ans f).prim=false) (h2:P.funcs[f]?=some fn) (hb:fn.body=some c) (hg:(Nat.beq fn.ntmps (ans f).nt&&Nat.ble args.length fn.ntmps)=true) (ht:((ans f).keep.map fun t=>(args[t]?).getD .dead)=tm)
  (k:XK P ans (cfW P ans pr) (lpW P ans pr) f c ⟨tm,sto⟩ (KF P ans f fn sto.objs.length)=some x):cfW P ans pr (.fn f) args sto=some x:=(fnX h1 h3 h2 hb hg ht).trans k
variable {r:R}
theorem tS (h:XK P ans cf lp f a st (KS P ans cf lp f b K)=some r):XK P ans cf lp f (.seq a b) st K=some r:=h
theorem tB {id:Nat} (h:XK P ans cf lp f c st (KB id K)=some r):XK P ans cf lp f (.block id c) st K=some r:=h
theorem tO (h:XK P ans cf lp f c st K=some r):XK P ans cf lp f (.scope c) st K=some r:=h
theorem tK (h:K .norm st=some r):XK P ans cf lp f .skip st K=some r:=h
theorem tX {id:Nat} (h:K (.exit id) st=some r):XK P ans cf lp f (.exit id) st K=some r:=h
theorem tE (h:K .ret st=some r):XK P ans cf lp f .ret st K=some r:=h
theorem tsN (h:XK P ans cf lp f b st K=some r):KS P ans cf lp f b K .norm st=some r:=h
theorem tsX {id:Nat} (h:K (.exit id) st=some r):KS P ans cf lp f b K (.exit id) st=some r:=h
theorem tsE (h:K .ret st=some r):KS P ans cf lp f b K .ret st=some r:=h
theorem tbN {id:Nat} (h:K .norm st=some r):KB id K .norm st=some r:=h
theorem tbX {id:Nat} (h:K .norm st=some r):KB id K (.exit id) st=some r:=kbX.trans h
theorem tbO {id i:Nat} (hi:Nat.beq i id=false) (h:K (.exit i) st=some r):KB id K (.exit i) st=some r:=(kbO hi).trans h
theorem tbE {id:Nat} (h:K .ret st=some r):KB id K .ret st=some r:=h
theorem tT {o:Operand} {t:Bool} (h:opS (ans f).keep tm ⟨[],sto⟩ o=.val (.bool t)) (ht:t=true) (k:XK P ans cf lp f a ⟨tm,sto⟩ K=some r):XK P ans cf lp f (.cond o a b) ⟨tm,sto⟩ K=some r:=(xT h ht).trans k
theorem tF {o:Operand} {t:Bool} (h:opS (ans f).keep tm ⟨[],sto⟩ o=.val (.bool t)) (ht:t=false) (k:XK P ans cf lp f b ⟨tm,sto⟩ K=some r):XK P ans cf lp f (.cond o a b) ⟨tm,sto⟩ K=some r:=(xF h ht).trans k
theorem tR {id:Nat} {ops:Array Oper} (h:∀ (kp:AVal→RS→Option R) (kn:RS→Option R),opsK P ans (ans f) false cf tm id ops kp kn ops.toList 0 ⟨[],sto⟩=kn ⟨sc,sto'⟩) (hc:commit (ans f).keep tm sc=tm') (k:K .norm ⟨tm',sto'⟩=some r):XK P ans cf lp f (.region id ops false) ⟨tm,sto⟩ K=some r:=(xR h hc).trans k
theorem tD {id:Nat} {ops:Array Oper} (hg:(drawOk ans (ans f) id ops&&noX ans (ans f) id ops)=true) (h:∀ (kp:AVal→RS→Option R) (kn:RS→Option R),opsK P ans (ans f) true cf tm id ops kp kn ops.toList 0 ⟨[],sto⟩=kn ⟨sc,sto'⟩) (hc:commit (ans f).keep tm sc=tm') (k:K .norm ⟨tm',sto'⟩=some r):XK P ans cf lp f (.region id ops true) ⟨tm,sto⟩ K=some r:=(xD hg h hc).trans k
theorem tOp {an:Ann} {drawn:Bool} {id i:Nat} {ops:Array Oper} {kp:AVal→RS→Option R} {kn:RS→Option R} {o:Oper} {os:List Oper} {rs rs':RS} {x:Option R} (h:∀ next:RS→Option R,oneK P ans an drawn cf tm id ops kp o i rs next=next rs') (k:opsK P ans an drawn cf tm id ops kp kn os (i+1) rs'=x):opsK P ans an drawn cf tm id ops kp kn (o::os) i rs=x:=(h _).trans k
theorem tL {e:AExit} {st':St} (h:lp f c (headSt (ans f) c st)=some (e,st')) (k:K e st'=some r):XK P ans cf lp f (.loop c) st K=some r:=(xL h).trans k
theorem tfE {fn:Func} {n:Nat} {x:ARes×Sto} (h:finish P (ans f) fn n st=some x):KF P ans f fn n .ret st=some x:=h
theorem tfN {fn:Func} {n:Nat} {x:ARes×Sto} (h:finish P (ans f) fn n st=some x):KF P ans f fn n .norm st=some x:=h
theorem tlN {x:AExit×St} {lp:LpOracle} (h:lp f c (headSt (ans f) c st)=some x):KL P ans lp f c .norm st=some x:=h
theorem tlX {id:Nat}:KL P ans lp f c (.exit id) st=some (.exit id,st):=rfl
theorem tlE:KL P ans lp f c .ret st=some (.ret,st):=rfl
end Go.AM
end
section
namespace Go.AM
variable {P:Program} {ans:FuncId→Ann} {cf:Oracle} {lp:LpOracle} {f:FuncId} {R:Type} {K:AExit→St→Option R} {tm:List Slot} {sto:Sto} {r:R}
def ranges:Code→List (Array Tmp×Code×Code)
 |.seq a b=>ranges a++ranges b
 |.cond _ a b=>ranges a++ranges b
 |.block _ c=>ranges c
 |.loop c=>ranges c
 |.scope c=>ranges c
 |.rangeFunc _ ps a b=>(ps,a,b)::(ranges a++ranges b)
 |_=>[]
def rangeQ (fn:Func) (n:Nat):Option (Array Tmp×Code×Code):=match fn.body with|some c=>(ranges c)[n]?|none=>none
def rangeOf (fn:Func) (n:Nat):Array Tmp×Code×Code:=(rangeQ fn n).getD (#[],.skip,.skip)
def rloop (f:FuncId) (fn:Func) (n:Nat) (tm:List Slot) (p:Option Code) (s:LoopState):ALoop:=⟨f,tm,(rangeOf fn n).1,(rangeOf fn n).2.1,(rangeOf fn n).2.2,p,s⟩
theorem tGn {fo:Operand} {ps:Array Tmp} {assign body:Code} {g:FuncId} {caps:List AVal} {s:Slot} {O O':List AObj} {lo n:Nat} {fn:Func} {f':FuncId} {tl:List Slot}
  (h:opS (ans f).keep tm ⟨[],sto⟩ fo=.val (.func g caps))
  (hc:cf (.fn g) (.val (.yld sto.objs.length)::caps.map .val) ⟨sto.objs++[.loop ⟨f,tm.map snapSlot,ps,assign,body,none,.ready⟩],sto.lo⟩=some (.ret s,⟨O',lo⟩))
  (hl:O'[sto.objs.length]?=some (.loop (rloop f' fn n tl none .ready))) (ht:O'.take sto.objs.length=O)
  (k:K .norm ⟨tm,⟨O,lo⟩⟩=some r):XK P ans cf lp f (.rangeFunc fo ps assign body) ⟨tm,sto⟩ K=some r:=by
 subst ht
 simp only[XK,h,hc,Option.bind_some,hl,rloop]
 exact k
theorem tGr {fo:Operand} {ps:Array Tmp} {assign body:Code} {g:FuncId} {caps:List AVal} {s:Slot} {O O':List AObj} {lo n:Nat} {fn:Func} {f':FuncId} {tl:List Slot}
  (h:opS (ans f).keep tm ⟨[],sto⟩ fo=.val (.func g caps))
  (hc:cf (.fn g) (.val (.yld sto.objs.length)::caps.map .val) ⟨sto.objs++[.loop ⟨f,tm.map snapSlot,ps,assign,body,none,.ready⟩],sto.lo⟩=some (.ret s,⟨O',lo⟩))
  (hl:O'[sto.objs.length]?=some (.loop (rloop f' fn n tl (some .ret) .done))) (ht:O'.take sto.objs.length=O)
  (k:K .ret ⟨tm,⟨O,lo⟩⟩=some r):XK P ans cf lp f (.rangeFunc fo ps assign body) ⟨tm,sto⟩ K=some r:=by
 subst ht
 simp only[XK,h,hc,Option.bind_some,hl,rloop]
 exact k
theorem tGx {fo:Operand} {ps:Array Tmp} {assign body:Code} {g:FuncId} {caps:List AVal} {s:Slot} {O O':List AObj} {lo n id:Nat} {fn:Func} {f':FuncId} {tl:List Slot}
  (h:opS (ans f).keep tm ⟨[],sto⟩ fo=.val (.func g caps))
  (hc:cf (.fn g) (.val (.yld sto.objs.length)::caps.map .val) ⟨sto.objs++[.loop ⟨f,tm.map snapSlot,ps,assign,body,none,.ready⟩],sto.lo⟩=some (.ret s,⟨O',lo⟩))
  (hl:O'[sto.objs.length]?=some (.loop (rloop f' fn n tl (some (.exit id)) .done))) (ht:O'.take sto.objs.length=O)
  (k:K (.exit id) ⟨tm,⟨O,lo⟩⟩=some r):XK P ans cf lp f (.rangeFunc fo ps assign body) ⟨tm,sto⟩ K=some r:=by
 subst ht
 simp only[XK,h,hc,Option.bind_some,hl,rloop]
 exact k
def KY2 (i n:Nat):AExit→St→Option (ARes×Sto):=fun e st =>
 match e with
 |.norm=>loopAt st.sto i fun l2=>some (.ret (.val (.bool true)),cut n (setLoop st.sto i { l2 with state:=.ready,pend:=none }))
 |.ret=>loopAt st.sto i fun l2=>some (.ret (.val (.bool false)),cut n (setLoop st.sto i { l2 with state:=.done,pend:=some .ret }))
 |.exit id=>loopAt st.sto i fun l2=>some (.ret (.val (.bool false)),cut n (setLoop st.sto i { l2 with state:=.done,pend:=some (.exit id) }))
 |.pan v=>some (.pan v,st.sto)
def KY1 (P:Program) (ans:FuncId→Ann) (cf:Oracle) (lp:LpOracle) (i n:Nat) (f:FuncId) (body:Code):AExit→St→Option (ARes×Sto):=fun e st =>
 match e with
 |.norm=>loopAt st.sto i fun l1 =>
  match l1.state with
  |.ready=>XK P ans cf lp f body { st with sto:=setLoop st.sto i { l1 with state:=.busy } } (KY2 i n)
  |_=>none
 |_=>none
theorem tY {pr:Prims} {i n:Nat} {args:List Slot} {O:List AObj} {lo:Nat} {f:FuncId} {fn:Func} {p:Option Code} {tm tm':List Slot} {ps:Array Tmp} {a b:Code} {x:ARes×Sto} (hl:O[i]?=some (.loop (rloop f fn n tm p .ready))) (hq:rangeQ fn n=some (ps,a,b))
  (hg:(Nat.beq args.length ps.size&&noRange a&&noRange b&&args.all Slot.isVal&&(P.funcs[f]?).isSome&&ps.toList.all (fun p=>Nat.blt p (ans f).nt))=true) (hb:Nat.ble lo i=true)
  (ht:setParams (ans f).keep tm (ps.toList.zip args)=tm')
  (k:XK P ans (cfW P ans pr) (lpW P ans pr) f a ⟨tm',⟨O,lo⟩⟩ (KY1 P ans (cfW P ans pr) (lpW P ans pr) i O.length f b)=some x) :
  cfW P ans pr (.yld i) args ⟨O,lo⟩=some x:=by
 have h1:rangeOf fn n=(ps,a,b):=by simp [rangeOf,hq]
 rw[cfW_eq]
 simp only[callStep,loopAt,hl]
 simp only[Bool.and_eq_true] at hg
 obtain ⟨⟨⟨⟨⟨g1,g2⟩,g3⟩,g4⟩,g5⟩,g6⟩:=hg
 simp only[rloop,h1,hb,g1,g2,g3,g4,g5,g6,Bool.and_self,guardB,cond_true]
 subst ht
 exact k
theorem ty1 {i n m:Nat} {O O':List AObj} {lo:Nat} {f:FuncId} {fn:Func} {p:Option Code} {tm tl:List Slot} {b:Code} {x:ARes×Sto} (hl:O[i]?=some (.loop (rloop f fn n tl p .ready))) (hs:O.set i (.loop (rloop f fn n tl p .busy))=O')
  (k:XK P ans cf lp f b ⟨tm,⟨O',lo⟩⟩ (KY2 i m)=some x) :
  KY1 P ans cf lp i m f b .norm ⟨tm,⟨O,lo⟩⟩=some x:=by
 subst hs
 simp only[KY1,loopAt,hl,setLoop]
 exact k
theorem ty2n {i n m:Nat} {O O':List AObj} {lo:Nat} {f:FuncId} {fn:Func} {p:Option Code} {s:LoopState} {tm tl:List Slot} (hl:O[i]?=some (.loop (rloop f fn n tl p s))) (hs:(O.set i (.loop (rloop f fn n tl none .ready))).take m=O') :
  KY2 i m .norm ⟨tm,⟨O,lo⟩⟩=some (.ret (.val (.bool true)),⟨O',lo⟩):=by
 subst hs
 simp only[KY2,loopAt,hl,setLoop,cut];rfl
theorem ty2r {i n m:Nat} {O O':List AObj} {lo:Nat} {f:FuncId} {fn:Func} {p:Option Code} {s:LoopState} {tm tl:List Slot} (hl:O[i]?=some (.loop (rloop f fn n tl p s))) (hs:(O.set i (.loop (rloop f fn n tl (some .ret) .done))).take m=O') :
  KY2 i m .ret ⟨tm,⟨O,lo⟩⟩=some (.ret (.val (.bool false)),⟨O',lo⟩):=by
 subst hs
 simp only[KY2,loopAt,hl,setLoop,cut];rfl
theorem ty2x {i n m id:Nat} {O O':List AObj} {lo:Nat} {f:FuncId} {fn:Func} {p:Option Code} {s:LoopState} {tm tl:List Slot} (hl:O[i]?=some (.loop (rloop f fn n tl p s))) (hs:(O.set i (.loop (rloop f fn n tl (some (.exit id)) .done))).take m=O') :
  KY2 i m (.exit id) ⟨tm,⟨O,lo⟩⟩=some (.ret (.val (.bool false)),⟨O',lo⟩):=by
 subst hs
 simp only[KY2,loopAt,hl,setLoop,cut];rfl
theorem objK (l e:List AObj) (k:Nat):(l++e)[l.length+k]?=e[k]?:=by rw[List.getElem?_append_right (by omega)];congr 1;omega
theorem obj0 (l e:List AObj):(l++e)[l.length]?=e[0]?:=by rw[List.getElem?_append_right (by omega)];congr 1;omega
theorem setK (l e:List AObj) (k:Nat) (v:AObj):(l++e).set (l.length+k) v=l++e.set k v:=by rw[List.set_append_right _ _ (by omega)];congr 2;omega
theorem set0 (l e:List AObj) (v:AObj):(l++e).set l.length v=l++e.set 0 v:=by rw[List.set_append_right _ _ (by omega)];congr 2;omega
theorem takeK (l e:List AObj) (k:Nat):(l++e).take (l.length+k)=l++e.take k:=by rw[List.take_append,List.take_of_length_le (by omega)];congr 2;omega
theorem finE {α:Type} {X:Option (α×Sto)} {r:α} {sto:Sto} (e:List AObj) (h:X=some (r,⟨(sto.objs++e).take sto.objs.length,sto.lo⟩)):X=some (r,sto):=by
 rw[h,List.take_left'];rfl
end Go.AM
end
section
namespace Go.AM
variable {P:Program} {ans:FuncId→Ann} {cf:Oracle} {lp:LpOracle} {f:FuncId}
inductive Adm:{R:Type}→Option R→R→Prop
 |s {P:Program} {ans:FuncId→Ann} {R:Type} {cf:Oracle} {lp:LpOracle} {f:FuncId} {a b:Code} {st:St} {K:AExit→St→Option R} {r:R} (h:Adm (XK P ans cf lp f a st (KS P ans cf lp f b K)) r):Adm (XK P ans cf lp f (.seq a b) st K) r
 |b {P:Program} {ans:FuncId→Ann} {R:Type} {cf:Oracle} {lp:LpOracle} {f:FuncId} {c:Code} {id:Nat} {st:St} {K:AExit→St→Option R} {r:R} (h:Adm (XK P ans cf lp f c st (KB id K)) r):Adm (XK P ans cf lp f (.block id c) st K) r
 |o {P:Program} {ans:FuncId→Ann} {R:Type} {cf:Oracle} {lp:LpOracle} {f:FuncId} {c:Code} {st:St} {K:AExit→St→Option R} {r:R} (h:Adm (XK P ans cf lp f c st K) r):Adm (XK P ans cf lp f (.scope c) st K) r
 |k {P:Program} {ans:FuncId→Ann} {R:Type} {cf:Oracle} {lp:LpOracle} {f:FuncId} {st:St} {K:AExit→St→Option R} {r:R} (h:Adm (K .norm st) r):Adm (XK P ans cf lp f .skip st K) r
 |x {P:Program} {ans:FuncId→Ann} {R:Type} {cf:Oracle} {lp:LpOracle} {f:FuncId} {id:Nat} {st:St} {K:AExit→St→Option R} {r:R} (h:Adm (K (.exit id) st) r):Adm (XK P ans cf lp f (.exit id) st K) r
 |e {P:Program} {ans:FuncId→Ann} {R:Type} {cf:Oracle} {lp:LpOracle} {f:FuncId} {st:St} {K:AExit→St→Option R} {r:R} (h:Adm (K .ret st) r):Adm (XK P ans cf lp f .ret st K) r
 |sN {P:Program} {ans:FuncId→Ann} {R:Type} {cf:Oracle} {lp:LpOracle} {f:FuncId} {b:Code} {st:St} {K:AExit→St→Option R} {r:R} (h:Adm (XK P ans cf lp f b st K) r):Adm (KS P ans cf lp f b K .norm st) r
 |sX {P:Program} {ans:FuncId→Ann} {R:Type} {cf:Oracle} {lp:LpOracle} {f:FuncId} {b:Code} {id:Nat} {st:St} {K:AExit→St→Option R} {r:R} (h:Adm (K (.exit id) st) r):Adm (KS P ans cf lp f b K (.exit id) st) r
 |sE {P:Program} {ans:FuncId→Ann} {R:Type} {cf:Oracle} {lp:LpOracle} {f:FuncId} {b:Code} {st:St} {K:AExit→St→Option R} {r:R} (h:Adm (K .ret st) r):Adm (KS P ans cf lp f b K .ret st) r
 |bN {R:Type} {id:Nat} {st:St} {K:AExit→St→Option R} {r:R} (h:Adm (K .norm st) r):Adm (KB id K .norm st) r
 |bX {R:Type} {id:Nat} {st:St} {K:AExit→St→Option R} {r:R} (h:Adm (K .norm st) r):Adm (KB id K (.exit id) st) r
 |bE {R:Type} {id:Nat} {st:St} {K:AExit→St→Option R} {r:R} (h:Adm (K .ret st) r):Adm (KB id K .ret st) r
 |fE {P:Program} {ans:FuncId→Ann} {f:FuncId} {fn:Func} {n:Nat} {st:St} {x:ARes×Sto} (h:Adm (finish P (ans f) fn n st) x):Adm (KF P ans f fn n .ret st) x
 |fN {P:Program} {ans:FuncId→Ann} {f:FuncId} {fn:Func} {n:Nat} {st:St} {x:ARes×Sto} (h:Adm (finish P (ans f) fn n st) x):Adm (KF P ans f fn n .norm st) x
 |lN {P:Program} {ans:FuncId→Ann} {lp:LpOracle} {f:FuncId} {c:Code} {st:St} {x:AExit×St} (h:Adm (lp f c (headSt (ans f) c st)) x):Adm (KL P ans lp f c .norm st) x
 |w {R:Type} {id i:Nat} {st:St} {K:AExit→St→Option R} {r:R} (hi:Nat.beq i id=false) (h:Adm (K (.exit i) st) r):Adm (KB id K (.exit i) st) r
 |z {R:Type} {x:Option R} {r:R} (h:x=some r):Adm x r
theorem tQ {R:Type} {x:Option R} {r:R} (h:Adm x r):x=some r:=by
 induction h with
 |s _ ih=>exact tS ih
 |b _ ih=>exact tB ih
 |o _ ih=>exact tO ih
 |k _ ih=>exact tK ih
 |x _ ih=>exact tX ih
 |e _ ih=>exact tE ih
 |sN _ ih=>exact tsN ih
 |sX _ ih=>exact tsX ih
 |sE _ ih=>exact tsE ih
 |bN _ ih=>exact tbN ih
 |bX _ ih=>exact tbX ih
 |bE _ ih=>exact tbE ih
 |fE _ ih=>exact tfE ih
 |fN _ ih=>exact tfN ih
 |lN _ ih=>exact tlN ih
 |w hi _ ih=>exact tbO hi ih
 |z h=>exact h
theorem tW {R:Type} {id i:Nat} {st:St} {K:AExit→St→Option R} {r:R} (hi:Nat.beq i id=false) (h:Adm (K (.exit i) st) r):KB id K (.exit i) st=some r:=tbO hi (tQ h)
theorem tG {R:Type} {id:Nat} {ops:Array Oper} {d:Bool} {tm tm':List Slot} {sc:List (Nat×Slot)} {sto sto':Sto} {K:AExit→St→Option R} {r:R} (hg:(bif d then drawOk ans (ans f) id ops&&noX ans (ans f) id ops else true)=true)
  (h:∀ (kp:AVal→RS→Option R) (kn:RS→Option R),opsK P ans (ans f) d cf tm id ops kp kn ops.toList 0 ⟨[],sto⟩=kn ⟨sc,sto'⟩) (hc:commit (ans f).keep tm sc=tm') (k:Adm (K .norm ⟨tm',sto'⟩) r):XK P ans cf lp f (.region id ops d) ⟨tm,sto⟩ K=some r:=by
 cases d with
 |false=>exact tR h hc (tQ k)
 |true=>exact tD hg h hc (tQ k)
end Go.AM
end
section
namespace Go.AM
variable {P:Program} {ans:FuncId→Ann} {cf:Oracle} {lp:LpOracle} {f:FuncId} {R:Type} {K:AExit→St→Option R} {b c:Code} {tm:List Slot} {sto sto':Sto} {r:R} {v:AVal} {st:St}
theorem tP {id:Nat} {ops:Array Oper} {sc:List (Nat×Slot)} (h:∀ (kp:AVal→RS→Option R) (kn:RS→Option R),opsK P ans (ans f) false cf tm id ops kp kn ops.toList 0 ⟨[],sto⟩=kp v ⟨sc,sto'⟩) (k:K (.pan v) ⟨tm,sto'⟩=some r):XK P ans cf lp f (.region id ops false) ⟨tm,sto⟩ K=some r:=by
 simp only[XK,h];exact k
theorem tOpP {an:Ann} {drawn:Bool} {id i:Nat} {ops:Array Oper} {kp:AVal→RS→Option R} {kn:RS→Option R} {o:Oper} {os:List Oper} {rs:RS} {x:Option R} (h:oneK P ans an drawn cf tm id ops kp o i rs (fun rs'=>opsK P ans an drawn cf tm id ops kp kn os (i+1) rs')=x):opsK P ans an drawn cf tm id ops kp kn (o::os) i rs=x:=h
theorem tsP (h:K (.pan v) st=some r):KS P ans cf lp f b K (.pan v) st=some r:=h
theorem tbP {id:Nat} (h:K (.pan v) st=some r):KB id K (.pan v) st=some r:=h
theorem tfP {fn:Func} {n:Nat} {x:ARes×Sto} (h:some (.pan v,st.sto)=some x):KF P ans f fn n (.pan v) st=some x:=h
theorem tlP {lp:LpOracle}:KL P ans lp f c (.pan v) st=some (.pan v,st):=rfl
theorem tGp {fo:Operand} {ps:Array Tmp} {assign body:Code} {g:FuncId} {caps:List AVal} {sto2:Sto}
  (h:opS (ans f).keep tm ⟨[],sto⟩ fo=.val (.func g caps))
  (hc:cf (.fn g) (.val (.yld sto.objs.length)::caps.map .val) ⟨sto.objs++[.loop ⟨f,tm.map snapSlot,ps,assign,body,none,.ready⟩],sto.lo⟩=some (.pan v,sto2))
  (k:K (.pan v) ⟨tm,sto2⟩=some r):XK P ans cf lp f (.rangeFunc fo ps assign body) ⟨tm,sto⟩ K=some r:=by
 simp only[XK,h,hc,Option.bind_some]
 exact k
def fstC:Code→Code|.seq a _=>a|c=>c
def sndC:Code→Code|.seq _ b=>b|c=>c
def inB:Code→Code|.block _ c=>c|c=>c
end Go.AM
end
