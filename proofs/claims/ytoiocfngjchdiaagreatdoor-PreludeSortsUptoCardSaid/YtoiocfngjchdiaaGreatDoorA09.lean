import Derived.Test.YtoiocfngjchdiaaGreatDoorA08
import Derived.IntWalk
import Derived.Test.YtoiocfngjchdiaaGreatDoorProg
set_option linter.all false
namespace Go.AM
section
variable {P:Program}{ans:FuncId->AF}{cf:aI}{lp:aO}{f:FuncId}{R:Type}{K:bG->St->Option R}{a b c:Code}{st:St}{tm tm':List Slot}{sto sto':AH}{sc:List (Nat×Slot)}
def KS(P:Program)(ans:FuncId->AF)(cf:aI)(lp:aO)(f:FuncId)(b:Code)(K:bG->St->Option R):bG->St->Option R:=λe AY =>
 match e with
 |.norm=>XK P ans cf lp f b AY K
 |.exit id=>K (.exit id) AY
 |.ret=>K .ret AY
 |.be v=>K (.be v) AY
def KB(id:Nat)(K:bG->St->Option R):bG->St->Option R:=λe AY =>
 match e with
 |.norm=>K .norm AY
 |.exit DC=>(bif Nat.beq DC id then K .norm AY else K (.exit DC) AY)
 |.ret=>K .ret AY
 |.be v=>K (.be v) AY
theorem xK:XK P ans cf lp f .skip st K=K .norm st:=rfl
theorem xE:XK P ans cf lp f .ret st K=K .ret st:=rfl
theorem kbX{id:Nat}:KB id K (.exit id) st=K .norm st:=by simp[KB]
theorem kbO{id i:Nat}(h:Nat.beq i id=false):KB id K (.exit i) st=K (.exit i) st:=by simp[KB,h]
theorem a7M{o:Operand}{t:Bool}(h:AZ (ans f).keep tm ⟨[],sto⟩ o=.val (.bool t))(ht:t=true):XK P ans cf lp f (.cond o a b) ⟨tm,sto⟩ K=XK P ans cf lp f a ⟨tm,sto⟩ K:=by
 subst ht;simp only[XK,h,asBool,Bo]
theorem xF{o:Operand}{t:Bool}(h:AZ (ans f).keep tm ⟨[],sto⟩ o=.val (.bool t))(ht:t=false):XK P ans cf lp f (.cond o a b) ⟨tm,sto⟩ K=XK P ans cf lp f b ⟨tm,sto⟩ K:=by
 subst ht;simp only[XK,h,asBool,Bh]
theorem a7L{id:Nat}{ops:Array Oper}(h:∀(kp:ae->RS->Option R)(kn:RS->Option R),j3 P ans (ans f) false cf tm id ops kp kn ops.toList 0 ⟨[],sto⟩=kn ⟨sc,sto'⟩)(hc:ed (ans f).keep tm sc=tm'):XK P ans cf lp f (.region id ops false) ⟨tm,sto⟩ K=K .norm ⟨tm',sto'⟩:=by
 simp only[XK,h,hc]
theorem a7K{id:Nat}{ops:Array Oper}(hg:(pB ans (ans f) id ops&&MW ans (ans f) id ops)=true)(h:∀(kp:ae->RS->Option R)(kn:RS->Option R),j3 P ans (ans f) true cf tm id ops kp kn ops.toList 0 ⟨[],sto⟩=kn ⟨sc,sto'⟩)(hc:ed (ans f).keep tm sc=tm'):XK P ans cf lp f (.region id ops true) ⟨tm,sto⟩ K=K .norm ⟨tm',sto'⟩:=by
 simp only[XK,h,hc,hg];rfl
theorem xL{e:bG}{AY:St}(h:lp f c (e8 (ans f) c st)=some (e,AY)):XK P ans cf lp f (.loop c) st K=K e AY:=by
 simp only[XK,h,Ar]
def KF(P:Program)(ans:FuncId->AF)(f:FuncId)(fn:Func)(n:Nat):bG->St->Option (d_×AH):=λe st =>
 match e with
 |.norm=>finish P (ans f) fn n st
 |.ret=>finish P (ans f) fn n st
 |.be v=>some (.be v,st.sto)
 |.exit _=>none
theorem fnX{pr:gG}{fn:Func}{args:List Slot}(h1:pr f args=none)(h3:(ans f).jx=false)(h2:P.funcs[f]?=some fn)(hb:fn.body=some c)(hg:(Nat.beq fn.ntmps (ans f).nt&&Nat.ble args.length fn.ntmps)=true)(ht:((ans f).keep.map λt=>(args[t]?).getD .dead)=tm) :
  GY P ans pr (.fn f) args sto=XK P ans (GY P ans pr) (Hf P ans pr) f c ⟨tm,sto⟩ (KF P ans f fn sto.objs.length):=by
 rw[vU];simp only[cG,h1,h2,h3,hb,Bh,hg,aJ,Bo,ht];rfl
def KL(P:Program)(ans:FuncId->AF)(lp:aO)(f:FuncId)(c:Code):bG->St->Option (bG×St):=λe AY =>
 match e with
 |.norm=>lp f c (e8 (ans f) c AY)
 |e=>some (e,AY)
theorem lpX{pr:gG}:Hf P ans pr f c st=XK P ans (GY P ans pr) (Hf P ans pr) f c st (KL P ans (Hf P ans pr) f c):=by rw[aNG];rfl
theorem iu{n:Int}(h1:-9223372036854775808<=n)(h2:n<9223372036854775808):IntKind.i64.wrap n=n:=by
 rw[IntKind.wrap_i64];omega
theorem WC(k:IntKind)(n:Int):(ae.int k n).cells=[.int k n]:=rfl
theorem tI{pr:gG}{fn:Func}{n:Nat}{x:bG×St}(h:Wk fn n=some c)(k:XK P ans (GY P ans pr) (Hf P ans pr) f c st (KL P ans (Hf P ans pr) f (aN fn n))=some x):Hf P ans pr f (aN fn n) st=some x:=by
 have hc:aN fn n=c:=by simp[aN,h]
 rw[lpX,hc];rw[hc] at k;exact k
theorem tA{pr:gG}{fn:Func}{args:List Slot}{x:d_×AH}(h1:pr f args=none)(h3:(ans f).jx=false)(h2:P.funcs[f]?=some fn)(hb:fn.body=some c)(hg:(Nat.beq fn.ntmps (ans f).nt&&Nat.ble args.length fn.ntmps)=true)(ht:((ans f).keep.map λt=>(args[t]?).getD .dead)=tm)
  (k:XK P ans (GY P ans pr) (Hf P ans pr) f c ⟨tm,sto⟩ (KF P ans f fn sto.objs.length)=some x):GY P ans pr (.fn f) args sto=some x:=(fnX h1 h3 h2 hb hg ht).trans k
variable {r:R}
theorem tS(h:XK P ans cf lp f a st (KS P ans cf lp f b K)=some r):XK P ans cf lp f (.seq a b) st K=some r:=h
theorem a7b{id:Nat}(h:XK P ans cf lp f c st (KB id K)=some r):XK P ans cf lp f (.block id c) st K=some r:=h
theorem a7f(h:XK P ans cf lp f c st K=some r):XK P ans cf lp f (.scope c) st K=some r:=h
theorem a7e(h:K .norm st=some r):XK P ans cf lp f .skip st K=some r:=h
theorem a7h{id:Nat}(h:K (.exit id) st=some r):XK P ans cf lp f (.exit id) st K=some r:=h
theorem a7d(h:K .ret st=some r):XK P ans cf lp f .ret st K=some r:=h
theorem tsN(h:XK P ans cf lp f b st K=some r):KS P ans cf lp f b K .norm st=some r:=h
theorem tsX{id:Nat}(h:K (.exit id) st=some r):KS P ans cf lp f b K (.exit id) st=some r:=h
theorem tsE(h:K .ret st=some r):KS P ans cf lp f b K .ret st=some r:=h
theorem tbN{id:Nat}(h:K .norm st=some r):KB id K .norm st=some r:=h
theorem tbX{id:Nat}(h:K .norm st=some r):KB id K (.exit id) st=some r:=kbX.trans h
theorem XP{id i:Nat}(hi:Nat.beq i id=false)(h:K (.exit i) st=some r):KB id K (.exit i) st=some r:=(kbO hi).trans h
theorem tbE{id:Nat}(h:K .ret st=some r):KB id K .ret st=some r:=h
theorem tT{o:Operand}{t:Bool}(h:AZ (ans f).keep tm ⟨[],sto⟩ o=.val (.bool t))(ht:t=true)(k:XK P ans cf lp f a ⟨tm,sto⟩ K=some r):XK P ans cf lp f (.cond o a b) ⟨tm,sto⟩ K=some r:=(a7M h ht).trans k
theorem tF{o:Operand}{t:Bool}(h:AZ (ans f).keep tm ⟨[],sto⟩ o=.val (.bool t))(ht:t=false)(k:XK P ans cf lp f b ⟨tm,sto⟩ K=some r):XK P ans cf lp f (.cond o a b) ⟨tm,sto⟩ K=some r:=(xF h ht).trans k
theorem a7g{id:Nat}{ops:Array Oper}(h:∀(kp:ae->RS->Option R)(kn:RS->Option R),j3 P ans (ans f) false cf tm id ops kp kn ops.toList 0 ⟨[],sto⟩=kn ⟨sc,sto'⟩)(hc:ed (ans f).keep tm sc=tm')(k:K .norm ⟨tm',sto'⟩=some r):XK P ans cf lp f (.region id ops false) ⟨tm,sto⟩ K=some r:=(a7L h hc).trans k
theorem a7c{id:Nat}{ops:Array Oper}(hg:(pB ans (ans f) id ops&&MW ans (ans f) id ops)=true)(h:∀(kp:ae->RS->Option R)(kn:RS->Option R),j3 P ans (ans f) true cf tm id ops kp kn ops.toList 0 ⟨[],sto⟩=kn ⟨sc,sto'⟩)(hc:ed (ans f).keep tm sc=tm')(k:K .norm ⟨tm',sto'⟩=some r):XK P ans cf lp f (.region id ops true) ⟨tm,sto⟩ K=some r:=(a7K hg h hc).trans k
theorem BL{an:AF}{drawn:Bool}{id i:Nat}{ops:Array Oper}{kp:ae->RS->Option R}{kn:RS->Option R}{o:Oper}{os:List Oper}{rs rs':RS}{x:Option R}(h:∀next:RS->Option R,iA P ans an drawn cf tm id ops kp o i rs next=next rs')(k:j3 P ans an drawn cf tm id ops kp kn os (i+1) rs'=x):j3 P ans an drawn cf tm id ops kp kn (o::os) i rs=x:=(h _).trans k
theorem tL{e:bG}{AY:St}(h:lp f c (e8 (ans f) c st)=some (e,AY))(k:K e AY=some r):XK P ans cf lp f (.loop c) st K=some r:=(xL h).trans k
theorem tfE{fn:Func}{n:Nat}{x:d_×AH}(h:finish P (ans f) fn n st=some x):KF P ans f fn n .ret st=some x:=h
theorem tfN{fn:Func}{n:Nat}{x:d_×AH}(h:finish P (ans f) fn n st=some x):KF P ans f fn n .norm st=some x:=h
theorem tlN{x:bG×St}{lp:aO}(h:lp f c (e8 (ans f) c st)=some x):KL P ans lp f c .norm st=some x:=h
theorem RP{id:Nat}:KL P ans lp f c (.exit id) st=some (.exit id,st):=rfl
theorem RQ:KL P ans lp f c .ret st=some (.ret,st):=rfl
end
section
variable {P:Program}{ans:FuncId->AF}{cf:aI}{lp:aO}{f:FuncId}{R:Type}{K:bG->St->Option R}{tm:List Slot}{sto:AH}{r:R}
def ranges:Code->List (Array Tmp×Code×Code)
 |.seq a b=>ranges a++ranges b
 |.cond _ a b=>ranges a++ranges b
 |.block _ c=>ranges c
 |.loop c=>ranges c
 |.scope c=>ranges c
 |.rangeFunc _ ps a b=>(ps,a,b)::(ranges a++ranges b)
 |_=>[]
def zK(fn:Func)(n:Nat):Option (Array Tmp×Code×Code):=match fn.body with|some c=>(ranges c)[n]?|none=>none
def rA(fn:Func)(n:Nat):Array Tmp×Code×Code:=(zK fn n).getD (#[],.skip,.skip)
def rC(f:FuncId)(fn:Func)(n:Nat)(tm:List Slot)(p:Option Code)(s:LoopState):iU:=⟨f,tm,(rA fn n).1,(rA fn n).2.1,(rA fn n).2.2,p,s⟩
theorem tGn{fo:Operand}{ps:Array Tmp}{assign body:Code}{g:FuncId}{caps:List ae}{s:Slot}{O O':List ai}{lo n:Nat}{fn:Func}{f':FuncId}{tl:List Slot}
  (h:AZ (ans f).keep tm ⟨[],sto⟩ fo=.val (.func g caps))
  (hc:cf (.fn g) (.val (.bN sto.objs.length)::caps.map .val) ⟨sto.objs++[.loop ⟨f,tm.map dU,ps,assign,body,none,.ready⟩],sto.lo⟩=some (.ret s,⟨O',lo⟩))
  (hl:O'[sto.objs.length]?=some (.loop (rC f' fn n tl none .ready))) (ht:O'.take sto.objs.length=O)
  (k:K .norm ⟨tm,⟨O,lo⟩⟩=some r):XK P ans cf lp f (.rangeFunc fo ps assign body) ⟨tm,sto⟩ K=some r:=by
 subst ht;simp only[XK,h,hc,Ar,hl,rC];exact k
def Sy(i n:Nat):bG->St->Option (d_×AH):=λe st =>
 match e with
 |.norm=>dE st.sto i λl2=>some (.ret (.val (.bool true)),cut n (gv st.sto i { l2 with state:=.ready,pend:=none }))
 |.ret=>dE st.sto i λl2=>some (.ret (.val (.bool false)),cut n (gv st.sto i { l2 with state:=.done,pend:=some .ret }))
 |.exit id=>dE st.sto i λl2=>some (.ret (.val (.bool false)),cut n (gv st.sto i { l2 with state:=.done,pend:=some (.exit id) }))
 |.be v=>some (.be v,st.sto)
def XD(P:Program)(ans:FuncId->AF)(cf:aI)(lp:aO)(i n:Nat)(f:FuncId)(body:Code):bG->St->Option (d_×AH):=λe st =>
 match e with
 |.norm=>dE st.sto i λl1 =>
  match l1.state with
  |.ready=>XK P ans cf lp f body { st with sto:=gv st.sto i { l1 with state:=.busy } } (Sy i n)
  |_=>none
 |_=>none
theorem tY{pr:gG}{i n:Nat}{args:List Slot}{O:List ai}{lo:Nat}{f:FuncId}{fn:Func}{p:Option Code}{tm tm':List Slot}{ps:Array Tmp}{a b:Code}{x:d_×AH}(hl:O[i]?=some (.loop (rC f fn n tm p .ready)))(hq:zK fn n=some (ps,a,b))
  (hg:(Nat.beq args.length ps.size&&b8 a&&b8 b&&args.all Slot.isVal&&(P.funcs[f]?).isSome&&ps.toList.all (λp=>Nat.blt p (ans f).nt))=true) (hb:Nat.ble lo i=true)
  (ht:dH (ans f).keep tm (ps.toList.zip args)=tm')
  (k:XK P ans (GY P ans pr) (Hf P ans pr) f a ⟨tm',⟨O,lo⟩⟩ (XD P ans (GY P ans pr) (Hf P ans pr) i O.length f b)=some x) :
  GY P ans pr (.bN i) args ⟨O,lo⟩=some x:=by
 have h1:rA fn n=(ps,a,b):=by simp[rA,hq]
 rw[vU];simp only[cG,dE,hl];simp only[Ac] at hg;obtain⟨⟨⟨⟨⟨g1,g2⟩,g3⟩,g4⟩,g5⟩,g6⟩:=hg;simp only[rC,h1,hb,g1,g2,g3,g4,g5,g6,Bool.and_self,aJ,Bo];subst ht;exact k
theorem ty1{i n m:Nat}{O O':List ai}{lo:Nat}{f:FuncId}{fn:Func}{p:Option Code}{tm tl:List Slot}{b:Code}{x:d_×AH}(hl:O[i]?=some (.loop (rC f fn n tl p .ready)))(hs:O.set i (.loop (rC f fn n tl p .busy))=O')
  (k:XK P ans cf lp f b ⟨tm,⟨O',lo⟩⟩ (Sy i m)=some x) :
  XD P ans cf lp i m f b .norm ⟨tm,⟨O,lo⟩⟩=some x:=by
 subst hs;simp only[XD,dE,hl,gv];exact k
theorem aXN{i n m:Nat}{O O':List ai}{lo:Nat}{f:FuncId}{fn:Func}{p:Option Code}{s:LoopState}{tm tl:List Slot}(hl:O[i]?=some (.loop (rC f fn n tl p s)))(hs:(O.set i (.loop (rC f fn n tl none .ready))).take m=O') :
  Sy i m .norm ⟨tm,⟨O,lo⟩⟩=some (.ret (.val (.bool true)),⟨O',lo⟩):=by
 subst hs;simp only[Sy,dE,hl,gv,cut];rfl
theorem ew(l e:List ai)(k:Nat):(l++e)[l.length+k]?=e[k]?:=by rw[Bm (by omega)];congr 1;omega
theorem uj(l e:List ai):(l++e)[l.length]?=e[0]?:=by rw[Bm (by omega)];congr 1;omega
theorem Vb(l e:List ai)(k:Nat)(v:ai):(l++e).set (l.length+k) v=l++e.set k v:=by rw[Gs _ _ (by omega)];congr 2;omega
theorem aXi(l e:List ai)(v:ai):(l++e).set l.length v=l++e.set 0 v:=by rw[Gs _ _ (by omega)];congr 2;omega
theorem oW(l e:List ai)(k:Nat):(l++e).take (l.length+k)=l++e.take k:=by rw[List.take_append,Bz (by omega)];congr 2;omega
theorem dx{α:Type}{X:Option (α×AH)}{r:α}{sto:AH}(e:List ai)(h:X=some (r,⟨(sto.objs++e).take sto.objs.length,sto.lo⟩)):X=some (r,sto):=by
 rw[h,Fz];rfl
theorem FL.{u}{α : Type u} : (∀a b c : List α, (a ++ b) ++ c=a ++ (b ++ c))/\(∀a b : List α, (a ++ b).length=a.length+b.length)/\(∀(a : α)(l : List α), (a :: l).length=l.length+1)/\(([] : List α).length=0) /\
 (∀(a : α)(l m : List α), (a :: l) ++ m=a :: (l ++ m))/\(∀l : List α, [] ++ l=l)/\(∀l : List α, l.take 0=[])/\(∀(n : Nat)(a : α)(l : List α), (a :: l).take (n+1)=a :: l.take n) /\
 (∀(a b : α)(l : List α), (a :: l).set 0 b=b :: l)/\(∀(n : Nat)(a b : α)(l : List α), (a :: l).set (n+1) b=a :: l.set n b)/\(∀(a : α)(l : List α), (a :: l)[0]?=some a)/\(∀(n : Nat)(a : α)(l : List α), (a :: l)[n+1]?=l[n]?) := ⟨Aj, λ_ _ => Bc, λ_ _ => rfl, rfl, λ_ _ _ => rfl, λ_ => rfl, λ_ => rfl, λ_ _ _ => rfl, λ_ _ _ => rfl, λ_ _ _ _ => rfl, λ_ _ => rfl, λ_ _ _ => rfl⟩
theorem FO : (∀(l e : List ai)(k : Nat), (l ++ e)[l.length+k]?=e[k]?)/\(∀l e : List ai, (l ++ e)[l.length]?=e[0]?)/\(∀(l e : List ai)(k : Nat)(v : ai), (l ++ e).set (l.length+k) v=l ++ e.set k v)/\(∀(l e : List ai)(v : ai), (l ++ e).set l.length v=l ++ e.set 0 v)/\(∀(l e : List ai)(k : Nat), (l ++ e).take (l.length+k)=l ++ e.take k)/\(∀n : Nat, 0+n=n) := ⟨ew, uj, Vb, aXi, oW, Bs⟩
end
section
variable {P:Program}{ans:FuncId->AF}{cf:aI}{lp:aO}{f:FuncId}
inductive DE:{R:Type}->Option R->R->Prop
 |s {P:Program} {ans:FuncId->AF} {R:Type} {cf:aI} {lp:aO} {f:FuncId} {a b:Code} {st:St} {K:bG->St->Option R} {r:R} (h:DE (XK P ans cf lp f a st (KS P ans cf lp f b K)) r):DE (XK P ans cf lp f (.seq a b) st K) r
 |b {P:Program} {ans:FuncId->AF} {R:Type} {cf:aI} {lp:aO} {f:FuncId} {c:Code} {id:Nat} {st:St} {K:bG->St->Option R} {r:R} (h:DE (XK P ans cf lp f c st (KB id K)) r):DE (XK P ans cf lp f (.block id c) st K) r
 |o {P:Program} {ans:FuncId->AF} {R:Type} {cf:aI} {lp:aO} {f:FuncId} {c:Code} {st:St} {K:bG->St->Option R} {r:R} (h:DE (XK P ans cf lp f c st K) r):DE (XK P ans cf lp f (.scope c) st K) r
 |k {P:Program} {ans:FuncId->AF} {R:Type} {cf:aI} {lp:aO} {f:FuncId} {st:St} {K:bG->St->Option R} {r:R} (h:DE (K .norm st) r):DE (XK P ans cf lp f .skip st K) r
 |x {P:Program} {ans:FuncId->AF} {R:Type} {cf:aI} {lp:aO} {f:FuncId} {id:Nat} {st:St} {K:bG->St->Option R} {r:R} (h:DE (K (.exit id) st) r):DE (XK P ans cf lp f (.exit id) st K) r
 |e {P:Program} {ans:FuncId->AF} {R:Type} {cf:aI} {lp:aO} {f:FuncId} {st:St} {K:bG->St->Option R} {r:R} (h:DE (K .ret st) r):DE (XK P ans cf lp f .ret st K) r
 |a62 {P:Program} {ans:FuncId->AF} {R:Type} {cf:aI} {lp:aO} {f:FuncId} {b:Code} {st:St} {K:bG->St->Option R} {r:R} (h:DE (XK P ans cf lp f b st K) r):DE (KS P ans cf lp f b K .norm st) r
 |a63 {P:Program} {ans:FuncId->AF} {R:Type} {cf:aI} {lp:aO} {f:FuncId} {b:Code} {id:Nat} {st:St} {K:bG->St->Option R} {r:R} (h:DE (K (.exit id) st) r):DE (KS P ans cf lp f b K (.exit id) st) r
 |a60 {P:Program} {ans:FuncId->AF} {R:Type} {cf:aI} {lp:aO} {f:FuncId} {b:Code} {st:St} {K:bG->St->Option R} {r:R} (h:DE (K .ret st) r):DE (KS P ans cf lp f b K .ret st) r
 |a5l {R:Type} {id:Nat} {st:St} {K:bG->St->Option R} {r:R} (h:DE (K .norm st) r):DE (KB id K .norm st) r
 |a5m {R:Type} {id:Nat} {st:St} {K:bG->St->Option R} {r:R} (h:DE (K .norm st) r):DE (KB id K (.exit id) st) r
 |a5k {R:Type} {id:Nat} {st:St} {K:bG->St->Option R} {r:R} (h:DE (K .ret st) r):DE (KB id K .ret st) r
 |a5y {P:Program} {ans:FuncId->AF} {f:FuncId} {fn:Func} {n:Nat} {st:St} {x:d_×AH} (h:DE (finish P (ans f) fn n st) x):DE (KF P ans f fn n .ret st) x
 |fN {P:Program} {ans:FuncId->AF} {f:FuncId} {fn:Func} {n:Nat} {st:St} {x:d_×AH} (h:DE (finish P (ans f) fn n st) x):DE (KF P ans f fn n .norm st) x
 |a6n {P:Program} {ans:FuncId->AF} {lp:aO} {f:FuncId} {c:Code} {st:St} {x:bG×St} (h:DE (lp f c (e8 (ans f) c st)) x):DE (KL P ans lp f c .norm st) x
 |w {R:Type} {id i:Nat} {st:St} {K:bG->St->Option R} {r:R} (hi:Nat.beq i id=false) (h:DE (K (.exit i) st) r):DE (KB id K (.exit i) st) r
 |z {R:Type} {x:Option R} {r:R} (h:x=some r):DE x r
theorem tQ{R:Type}{x:Option R}{r:R}(h:DE x r):x=some r:=by
 induction h with
 |s _ ih=>exact tS ih
 |b _ ih=>exact a7b ih
 |o _ ih=>exact a7f ih
 |k _ ih=>exact a7e ih
 |x _ ih=>exact a7h ih
 |e _ ih=>exact a7d ih
 |a62 _ ih=>exact tsN ih
 |a63 _ ih=>exact tsX ih
 |a60 _ ih=>exact tsE ih
 |a5l _ ih=>exact tbN ih
 |a5m _ ih=>exact tbX ih
 |a5k _ ih=>exact tbE ih
 |a5y _ ih=>exact tfE ih
 |fN _ ih=>exact tfN ih
 |a6n _ ih=>exact tlN ih
 |w hi _ ih=>exact XP hi ih
 |z h=>exact h
theorem tW{R:Type}{id i:Nat}{st:St}{K:bG->St->Option R}{r:R}(hi:Nat.beq i id=false)(h:DE (K (.exit i) st) r):KB id K (.exit i) st=some r:=XP hi (tQ h)
theorem tG{R:Type}{id:Nat}{ops:Array Oper}{d:Bool}{tm tm':List Slot}{sc:List (Nat×Slot)}{sto sto':AH}{K:bG->St->Option R}{r:R}(hg:(bif d then pB ans (ans f) id ops&&MW ans (ans f) id ops else true)=true)
  (h:∀(kp:ae->RS->Option R)(kn:RS->Option R),j3 P ans (ans f) d cf tm id ops kp kn ops.toList 0 ⟨[],sto⟩=kn ⟨sc,sto'⟩) (hc:ed (ans f).keep tm sc=tm') (k:DE (K .norm ⟨tm',sto'⟩) r):XK P ans cf lp f (.region id ops d) ⟨tm,sto⟩ K=some r:=by
 cases d with
 |false=>exact a7g h hc (tQ k)
 |true=>exact a7c hg h hc (tQ k)
theorem t1{P:Program}{ans:FuncId->AF}{R:Type}{cf:aI}{lp:aO}{f:FuncId}{a b:Code}{tm:List Slot}{sto:AH}{K:bG->St->Option R}{r:R}{o:Operand}{t:Bool}(h:AZ (ans f).keep tm ⟨[],sto⟩ o=.val (.bool t))(ht:t=true)(k:DE (XK P ans cf lp f a ⟨tm,sto⟩ K) r):XK P ans cf lp f (.cond o a b) ⟨tm,sto⟩ K=some r:=tT h ht (tQ k)
theorem t0{P:Program}{ans:FuncId->AF}{R:Type}{cf:aI}{lp:aO}{f:FuncId}{a b:Code}{tm:List Slot}{sto:AH}{K:bG->St->Option R}{r:R}{o:Operand}{t:Bool}(h:AZ (ans f).keep tm ⟨[],sto⟩ o=.val (.bool t))(ht:t=false)(k:DE (XK P ans cf lp f b ⟨tm,sto⟩ K) r):XK P ans cf lp f (.cond o a b) ⟨tm,sto⟩ K=some r:=tF h ht (tQ k)
theorem tl{P:Program}{ans:FuncId->AF}{R:Type}{cf:aI}{lp:aO}{f:FuncId}{c:Code}{st:St}{K:bG->St->Option R}{r:R}{e:bG}{AY:St}(h:lp f c (e8 (ans f) c st)=some (e,AY))(k:DE (K e AY) r):XK P ans cf lp f (.loop c) st K=some r:=tL h (tQ k)
end
section
variable {P:Program}{ans:FuncId->AF}{cf:aI}{lp:aO}{f:FuncId}{R:Type}{K:bG->St->Option R}{b c:Code}{tm:List Slot}{sto sto':AH}{r:R}{v:ae}{st:St}
theorem tP{id:Nat}{ops:Array Oper}{sc:List (Nat×Slot)}(h:∀(kp:ae->RS->Option R)(kn:RS->Option R),j3 P ans (ans f) false cf tm id ops kp kn ops.toList 0 ⟨[],sto⟩=kp v ⟨sc,sto'⟩)(k:K (.be v) ⟨tm,sto'⟩=some r):XK P ans cf lp f (.region id ops false) ⟨tm,sto⟩ K=some r:=by
 simp only[XK,h];exact k
theorem SM{an:AF}{drawn:Bool}{id i:Nat}{ops:Array Oper}{kp:ae->RS->Option R}{kn:RS->Option R}{o:Oper}{os:List Oper}{rs:RS}{x:Option R}(h:iA P ans an drawn cf tm id ops kp o i rs (λrs'=>j3 P ans an drawn cf tm id ops kp kn os (i+1) rs')=x):j3 P ans an drawn cf tm id ops kp kn (o::os) i rs=x:=h
theorem RO(h:K (.be v) st=some r):KS P ans cf lp f b K (.be v) st=some r:=h
theorem RT{id:Nat}(h:K (.be v) st=some r):KB id K (.be v) st=some r:=h
theorem TI{lp:aO}:KL P ans lp f c (.be v) st=some (.be v,st):=rfl
end
end Go.AM
namespace Go.Proofs.YtoiocfngjchdiaaGreatDoor
open Go.AM
def aLn:AF:={ nt:=0,keep:=[],loc:=[],take:=[],pure:=[],heads:=[],ownRes:=false,ownArg:=[] }
abbrev aN5:AF:=⟨184,[0,2,3,4,5,6,8,9,11,12,14,15,17,18,19,20,21,22,23,24,25,26,71,116,120,149,161,174],[6,9,12,15,18],[],[],[(17,[(3,none),(4,none),(20,none),(22,none),(24,none),(25,none)])],false,[],false,[]⟩
abbrev aN6:AF:=⟨120,[0,1,2,3,4,5,7,9,10,12,13,14,15,16,17,82],[2,4,6,8,10,13,15],[],[],[],false,[],true,[]⟩
abbrev aN7:AF:=⟨43,[0,1,4,5,6,7,8,10],[4,6,8],[],[],[],false,[],false,[]⟩
abbrev aN8:AF:=⟨33,[0,1,4,5,6,7,12,28],[7],[],[],[],false,[],true,[]⟩
abbrev aN9:AF:=⟨41,[0,1,2,3,4,5,6,7,8,9,10,11,12,18,24,34],[6,12],[],[],[],false,[],true,[]⟩
abbrev aPL:AF:=⟨46,[0,1,2,3,4,5,26,31,45],[2,3],[],[],[(4,[(2,none),(3,none),(5,none)])],false,[],false,[]⟩
abbrev aPM:AF:=⟨11,[0,2,5],[],[],[],[],false,[],false,[]⟩
abbrev aPN:AF:=⟨6,[0,2],[2],[],[],[],false,[],false,[]⟩
abbrev aPO:AF:=⟨20,[0,2,3,4,8],[],[(5,0)],[],[(3,[(0,none),(3,none),(4,none)])],false,[],false,[]⟩
abbrev aPQ:AF:=⟨42,[0,1,4,5,6,7,8,9,10,33],[4,7,9],[],[],[],false,[],false,[]⟩
abbrev aPR:AF:=⟨49,[0,1,2,3,4,18,21,47],[1],[(5,0)],[(5,5)],[(2,[(1,none),(4,none)])],false,[],false,[]⟩
abbrev aPS:AF:=⟨22,[0,1,4,5,6,10,18],[],[],[],[(3,[(0,none),(1,none),(5,none),(6,none)])],false,[],false,[]⟩
abbrev aPT:AF:=⟨20,[0,2,3,4,8],[],[(5,0)],[],[(3,[(0,none),(3,none),(4,none)])],false,[],false,[]⟩
abbrev aUE:AF:=⟨22,[0,2,3,4,5,6,7,16],[2,5],[],[],[],false,[],true,[]⟩
abbrev aPW:AF:=⟨39,[0,1,4,5,6,7,9,10,15,20,21,22,23,35],[4,7,9],[],[],[(6,[(4,none),(7,none),(20,none),(21,none),(22,none)])],false,[],false,[]⟩
abbrev aPX:AF:=⟨27,[0,1,2,3,4,12],[1],[],[],[],false,[],false,[]⟩
abbrev aPY:AF:=⟨33,[0,1,4,5,7,10,32],[5],[],[],[],false,[],false,[]⟩
abbrev aPZ:AF:=⟨21,[0,1,2,3,5,7,8,9,10,18],[1,5],[],[],[(3,[(3,none),(7,none),(8,none),(9,none)])],false,[],false,[]⟩
abbrev aP0:AF:=⟨6,[0,1,2,3,5],[],[],[],[],false,[],false,[]⟩
abbrev aP1:AF:=⟨27,[0,1,2,3,5,12,13,14,15],[1,2,3,5],[(5,1)],[],[(3,[(2,none),(3,none),(12,none),(13,none),(14,none)])],false,[],false,[]⟩
abbrev aP2:AF:=⟨9,[0,1,4],[],[],[],[],false,[],false,[]⟩
abbrev aP3:AF:=⟨7,[0,2],[],[],[],[],false,[],false,[]⟩
abbrev aP4:AF:=⟨8,[0,1,2,3],[],[],[],[],false,[],false,[]⟩
abbrev aP5:AF:=⟨151,[0,1,2,6,7,8,9,10,11,12,13,14,16,17,22,23,24,35,36,51,57,58,59,107,108,109,110,118,132],[],[(18,0),(23,4),(29,0)],[(9,4),(9,8),(17,4),(17,8),(17,16),(17,20),(26,4),(29,4)],[(4,[(0,none),(1,none),(2,none),(7,none),(8,none),(9,none),(22,none),(23,none)]),(14,[(0,none),(1,none),(2,none),(7,none),(8,none),(9,none),(11,none),(12,none),(22,none),(23,none),(57,none),(58,none)]),(21,[(0,none),(1,none),(2,none),(7,none),(8,none),(9,none),(22,none),(23,none),(107,none),(108,none),(109,none)])],false,[],false,[8,9]⟩
abbrev aP6:AF:=⟨16,[0,2,3,5,8,9,10],[2,5],[],[],[],false,[],false,[]⟩
abbrev aUF:AF:=⟨31,[0,2,3,5,6,8,9,10,11,12,18],[2,5,6],[],[],[(2,[(0,none),(2,none),(9,none),(10,none),(11,none)])],false,[],true,[]⟩
abbrev aP7:AF:=⟨31,[0,1,2,3,5,8,16,17,18,19],[1,2,3,5],[(7,1)],[],[(5,[(2,none),(3,none),(16,none),(17,none),(18,none)])],false,[],false,[]⟩
abbrev aP8:AF:=⟨40,[0,1,2,3,4],[1],[],[(4,22),(4,24)],[],false,[],false,[]⟩
abbrev aP9:AF:=⟨23,[0,1,2,3,5,9,10,11,12],[1,5],[],[],[(3,[(3,none),(9,none),(10,none),(11,none)])],false,[],false,[]⟩
abbrev aQa:AF:=⟨23,[0,1,2,3,5,9,10,11,12],[1,5],[],[],[(3,[(3,none),(9,none),(10,none),(11,none)])],false,[],false,[]⟩
abbrev aQb:AF:=⟨16,[0,1,2,6,7,10,13],[],[],[],[],false,[],false,[]⟩
abbrev aQc:AF:=⟨9,[0,1,3,4],[],[],[],[],false,[],false,[]⟩
abbrev aQd:AF:=⟨111,[0,1,2,3,4,5,6,21,22,41,60,91],[1],[],[(1,2),(1,5),(1,8)],[],false,[],false,[]⟩
abbrev aUG:AF:=⟨17,[0,2,3,4],[3],[],[],[],false,[],true,[]⟩
abbrev aQe:AF:=⟨19,[0,1,2,3,6],[1],[(3,0)],[],[(2,[(1,none),(3,none)])],false,[],false,[]⟩
abbrev aQf:AF:=⟨9,[0,1,4],[],[],[],[],false,[],false,[]⟩
abbrev aQg:AF:=⟨6,[0,1,2],[1],[],[],[],false,[],false,[]⟩
abbrev aQh:AF:=⟨22,[0,1,4,5,6,7,8,9,10,20],[6],[],[],[(2,[(1,none),(7,none),(8,none),(9,none)])],false,[],false,[]⟩
abbrev aUH:AF:=⟨6,[0,1,2],[1],[(1,3)],[],[],true,[],false,[]⟩
abbrev aQi:AF:=⟨10,[0,1,4],[2,4],[],[],[],false,[],false,[]⟩
abbrev aQj:AF:=⟨85,[0,1,4,5,6,17,22,30,40,71,72,73,83],[],[],[],[(13,[(0,none),(1,none),(71,none),(72,none)])],false,[],false,[]⟩
abbrev D2:AF:=⟨12,[0,1,2,6],[],[(1,4)],[],[],false,[],false,[]⟩
abbrev v8:AF:=⟨186,[0,1,2,6,7,8,9,10,19,34,41,49,65,80,100,117,136,157],[],[(9,12),(11,11),(26,16)],[(9,3),(9,8),(20,3),(20,7),(20,11),(20,14),(22,4),(22,9)],[(1,[(0,none),(1,none),(2,none)])],false,[],false,[2]⟩
abbrev D_:AF:=⟨56,[0,1,4,5,6,7,9,18,21,23,24,28,29,38,39,40,41],[4,7],[(14,1)],[],[(12,[(1,none),(4,none),(7,none),(38,none),(39,none),(40,none)])],false,[],false,[]⟩
abbrev EQ:AF:=⟨8,[0,1,4],[4],[],[],[],false,[],false,[]⟩
abbrev E3:AF:=⟨4,[0,1,2],[],[],[],[],false,[],false,[]⟩
abbrev E_:AF:=⟨10,[0,1,2,3,4,5],[],[],[],[],false,[],false,[]⟩
abbrev FR:AF:=⟨10,[0,1,2,3,4,5],[],[],[],[],false,[],false,[]⟩
abbrev FSq:AF:=⟨158,[0,1,2,3,13,50,52,53,62,71,77,86,100,109,123,148],[1],[],[],[],false,[],false,[]⟩
abbrev F5:AF:=⟨61,[0,1,3,5,7,9,11,12,16,17,18,19,23,24,25,26,34,40,43,44,45,46,54],[3,5,7,9],[],[],[(4,[(0,none),(16,none),(17,none),(18,none)]),(7,[(0,none),(16,none),(17,none),(18,none),(23,none),(24,none),(25,none)]),(16,[(0,none),(43,none),(44,none),(45,none)])],false,[],false,[]⟩
abbrev F':AF:=⟨61,[0,1,3,5,7,9,11,12,16,17,18,19,23,24,25,26,34,40,43,44,45,46,54],[3,5,7,9],[],[],[(4,[(0,none),(16,none),(17,none),(18,none)]),(7,[(0,none),(16,none),(17,none),(18,none),(23,none),(24,none),(25,none)]),(16,[(0,none),(43,none),(44,none),(45,none)])],false,[],false,[]⟩
abbrev F_:AF:=⟨9,[0,1,4],[],[],[],[],false,[],false,[]⟩
abbrev G':AF:=⟨8,[0,1,2,3],[2],[],[],[],false,[],false,[]⟩
abbrev G_:AF:=⟨18,[0,1,2],[1],[],[],[],false,[],false,[]⟩
abbrev H_:AF:=⟨12,[0,1,2],[1],[],[],[],false,[],false,[]⟩
abbrev If:AF:=⟨33,[0,1,2],[1],[],[],[],false,[],false,[]⟩
abbrev IN:AF:=⟨36,[0,1,2,3],[1],[],[],[],false,[],false,[]⟩
abbrev IR:AF:=⟨6,[0,2],[],[],[],[],false,[],false,[]⟩
abbrev IS:AF:=⟨46,[0,1,2,6,7,15,29],[1],[],[],[],false,[],false,[]⟩
abbrev IT:AF:=⟨9,[0,1,3,4],[],[],[],[],false,[],false,[]⟩
abbrev I':AF:=⟨16,[0,1,2],[1],[],[],[],false,[],false,[]⟩
abbrev I_:AF:=⟨9,[0,1,4],[],[],[],[],false,[],false,[]⟩
abbrev J6:AF:=⟨19,[0,1,4,5,7,8,9,16],[],[],[],[(2,[(0,none),(1,none),(7,none),(8,none)])],false,[],false,[]⟩
abbrev J_:AF:=⟨132,[0,1,2,3,4,5,8,9,14,28,39,63,86,111],[2],[],[],[],false,[],false,[]⟩
abbrev aPP:AF:=⟨5,[0,2],[],[(1,2)],[],[],true,[],false,[]⟩
abbrev K':AF:=⟨26,[0,1,3,4,7],[3],[(2,0),(2,1),(3,0),(3,17)],[(3,5),(3,16)],[],true,[0],false,[]⟩
abbrev K_:AF:=⟨6,[0,2],[],[],[],[],false,[],false,[]⟩
abbrev AI:AF:=⟨23,[0,1,4,6,16],[],[],[],[(1,[(0,none),(1,none),(4,none)])],false,[],false,[]⟩
abbrev AS:AF:=⟨25,[0,1,2,6,7,8,10,11,12],[],[(5,0)],[],[(3,[(0,none),(1,none),(2,none),(7,none),(10,none),(11,none)])],false,[],false,[]⟩
abbrev AT:AF:=⟨49,[0,1,2,6,7,8,9,10,11,28,40],[11],[(7,3)],[],[],false,[],false,[]⟩
abbrev A':AF:=⟨43,[0,1,2,6,7,8,9,10,15,16,17,31],[],[],[],[(2,[(0,none),(1,none),(2,none),(6,none),(7,none),(15,none),(16,none)])],false,[],false,[]⟩
abbrev A_:AF:=⟨19,[0,1,3,8,18],[],[],[],[(1,[(0,none),(1,none),(3,none)])],false,[],false,[]⟩
abbrev By:AF:=⟨6,[0,2],[],[],[],[],false,[],false,[]⟩
abbrev BY:AF:=⟨9,[0,1,4],[],[],[],[],false,[],false,[]⟩
abbrev B':AF:=⟨19,[0,1,2,16],[],[],[],[],false,[],false,[]⟩
abbrev B_:AF:=⟨33,[0,1,2,4,6,8,9,10,11,21,22,23,24],[4,6],[],[],[(1,[(0,none),(1,none),(2,none),(8,none),(9,none),(10,none)]),(6,[(1,none),(2,none),(21,none),(22,none),(23,none)])],false,[],false,[]⟩
abbrev C_:AF:=⟨10,[0,1,2,3,4,5],[],[],[],[],false,[],false,[]⟩
abbrev S0:AF:=⟨33,[0,1,2,23],[],[],[],[],false,[],false,[]⟩
abbrev S5:AF:=⟨33,[0,1,2,4,6,8,9,10,11,21,22,23,24],[4,6],[],[],[(1,[(0,none),(1,none),(2,none),(8,none),(9,none),(10,none)]),(6,[(1,none),(2,none),(21,none),(22,none),(23,none)])],false,[],false,[]⟩
abbrev S':AF:=⟨10,[0,1,2,3,4,5],[],[],[],[],false,[],false,[]⟩
abbrev S_:AF:=⟨9,[0,1,3,4],[],[],[],[],false,[],false,[]⟩
abbrev Te:AF:=⟨9,[0,1,3,4],[],[],[],[],false,[],false,[]⟩
abbrev Tk:AF:=⟨42,[0,1,2,6,8,9,20],[1],[],[],[],false,[],false,[]⟩
abbrev Tq:AF:=⟨23,[0,1,4],[],[],[],[],false,[],false,[]⟩
abbrev Ts:AF:=⟨2,[0],[],[],[],[],false,[],false,[]⟩
abbrev Tx:AF:=⟨10,[0,1,2,3,4,5],[],[],[],[],false,[],false,[]⟩
abbrev Ty:AF:=⟨10,[0,1,2,3,4,5],[],[],[],[],false,[],false,[]⟩
abbrev T0:AF:=⟨19,[0,1,4,5,7,8,9,16],[],[],[],[(2,[(0,none),(1,none),(7,none),(8,none)])],false,[],false,[]⟩
abbrev T_:AF:=⟨17,[0,1,2],[1],[],[],[],false,[],false,[]⟩
abbrev Ub:AF:=⟨9,[0,1,3,4],[],[],[],[],false,[],false,[]⟩
abbrev Uc:AF:=⟨9,[0,1,3,4],[],[],[],[],false,[],false,[]⟩
abbrev Uh:AF:=⟨9,[0,1,3,4],[],[],[],[],false,[],false,[]⟩
abbrev aPU:AF:=⟨35,[0,2,4,5,8,30],[5],[],[],[],false,[],true,[]⟩
abbrev Ui:AF:=⟨9,[0,1,4],[],[],[],[],false,[],false,[]⟩
abbrev Uj:AF:=⟨8,[0,1,2,3],[2],[],[],[],false,[],false,[]⟩
abbrev Up:AF:=⟨19,[0,1,4,5,7,8,9,16],[],[],[],[(2,[(0,none),(1,none),(7,none),(8,none)])],false,[],false,[]⟩
abbrev Uq:AF:=⟨16,[0,1,3],[],[],[],[],false,[],false,[]⟩
abbrev aPV:AF:=⟨15,[0,1,2,4,5,6,7],[5],[(3,0),(4,0),(4,1)],[],[],true,[0],false,[]⟩
abbrev Ur:AF:=⟨19,[0,1,4,5,7,8,9,16],[],[],[],[(2,[(0,none),(1,none),(7,none),(8,none)])],false,[],false,[]⟩
abbrev Us:AF:=⟨54,[0,1,2,6,7,8,9,11,16,21,26,29,33,36,40,46],[6],[],[],[],false,[],false,[]⟩
abbrev Uu:AF:=⟨30,[0,1,2,6,7,11,12,15],[],[],[],[],false,[],false,[]⟩
abbrev Uv:AF:=⟨19,[0,1,4,5,7,8,9,16],[],[],[],[(2,[(0,none),(1,none),(7,none),(8,none)])],false,[],false,[]⟩
abbrev Uw:AF:=⟨18,[0,1,2,4,6,7,8,9],[4],[],[],[(1,[(1,none),(2,none),(6,none),(7,none),(8,none)])],false,[],false,[]⟩
abbrev Uy:AF:=⟨18,[0,1,2,4,6,7,8,9],[4],[],[],[(1,[(1,none),(2,none),(6,none),(7,none),(8,none)])],false,[],false,[]⟩
abbrev UA:AF:=⟨9,[0,1,4],[],[],[],[],false,[],false,[]⟩
abbrev M8:AF:=⟨8,[0,1,2,3],[2],[],[],[],false,[],false,[]⟩
abbrev M':AF:=⟨9,[0,1,4],[],[],[],[],false,[],false,[]⟩
abbrev M_:AF:=⟨8,[0,1,2,3],[2],[],[],[],false,[],false,[]⟩
abbrev NE:AF:=⟨18,[0,1,2,4,6,7,8,9],[4],[],[],[(1,[(1,none),(2,none),(6,none),(7,none),(8,none)])],false,[],false,[]⟩
abbrev N_:AF:=⟨18,[0,1,2,4,6,7,8,9],[4],[],[],[(1,[(1,none),(2,none),(6,none),(7,none),(8,none)])],false,[],false,[]⟩
abbrev Ov:AF:=⟨8,[0,1,2,3],[2],[],[],[],false,[],false,[]⟩
abbrev Oy:AF:=⟨9,[0,1,4],[],[],[],[],false,[],false,[]⟩
abbrev OF:AF:=⟨8,[0,1,3],[],[],[],[],false,[],false,[]⟩
abbrev O_:AF:=⟨9,[0,1,4],[],[],[],[],false,[],false,[]⟩
abbrev PH:AF:=⟨8,[0,1,2,3],[2],[],[],[],false,[],false,[]⟩
abbrev PI:AF:=⟨19,[0,1,4,5,7,8,9,16],[],[],[],[(2,[(0,none),(1,none),(7,none),(8,none)])],false,[],false,[]⟩
abbrev PK:AF:=⟨6,[0,2,3],[2],[],[],[],false,[],false,[]⟩
abbrev PL:AF:=⟨19,[0,1,4,5,7,8,9,16],[],[],[],[(2,[(0,none),(1,none),(7,none),(8,none)])],false,[],false,[]⟩
abbrev PO:AF:=⟨19,[0,1,4,5,7,8,9,16],[],[],[],[(2,[(0,none),(1,none),(7,none),(8,none)])],false,[],false,[]⟩
abbrev PP:AF:=⟨19,[0,1,4,5,7,8,9,16],[],[],[],[(2,[(0,none),(1,none),(7,none),(8,none)])],false,[],false,[]⟩
abbrev PR:AF:=⟨9,[2,6,7],[],[],[],[],false,[],false,[]⟩
abbrev P1:AF:=⟨9,[2,6,7],[],[],[],[],false,[],false,[]⟩
abbrev P2:AF:=⟨64,[0,1,2,6,7,8,9,31,37,38,39,60],[],[],[],[(5,[(0,none),(1,none),(2,none),(37,none),(38,none)])],false,[],false,[]⟩
def aLo:List (Nat×AF):=[(5,aN5),(6,aN6),(7,aN7),(8,aN8),(9,aN9),(10,aPL),(11,aPM),(12,aPN),(13,aPO),(15,aPQ),(16,aPR),(17,aPS),(18,aPT),(20,aUE),(22,aPW),(23,aPX),(24,aPY),(27,aPZ),(28,aP0),(29,aP1),(31,aP2),(32,aP3),(33,aP4),(34,aP5),(35,aP6),(37,aUF),(39,aP7),(40,aP8),(41,aP9),(42,aQa),(43,aQb),(44,aQc),(45,aQd),(46,aUG),(47,aQe),(48,aQf),(49,aQg),(50,aQh),(62,aUH),(89,aQi),(95,aQj),(102,D2),(104,v8),(105,D_),(106,EQ),(107,E3),(115,E_),(116,FR),(117,FSq),(118,F5),(119,F'),(120,F_),(121,G'),(122,G_),(123,H_),(124,If),(125,IN),(126,IR),(127,IS),(128,IT),(129,I'),(130,I_),(132,J6),(133,J_),(134,aPP),(148,K'),(150,K_),(158,AI),(159,AS),(160,AT),(161,A'),(162,A_),(172,By),(173,BY),(174,B'),(175,B_),(176,C_),(177,S0),(178,S5),(179,S'),(180,S_),(181,Te),(182,Tk),(183,Tq),(184,Ts),(185,Tx),(186,Ty),(187,T0),(188,T_),(189,Ub),(190,Uc),(191,Uh),(192,aPU),(193,Ui),(194,Uj),(195,Up),(196,Uq),(197,aPV),(214,Ur),(216,Us),(217,Uu),(228,Uv),(229,Uw),(230,Uy),(231,UA),(232,M8),(233,M'),(234,M_),(235,NE),(236,N_),(237,Ov),(238,Oy),(239,OF),(240,O_),(241,PH),(243,PI),(252,PK),(261,PL),(262,PO),(263,PP),(370,PR),(371,P1),(372,P2)]
def aKc:List (Nat×AF)->Nat->AF
 |[],_=>aLn
 |(g,a)::l,f=>bif Nat.beq g f then a else aKc l f
def ans(f:FuncId):AF:=aKc aLo f
end Go.Proofs.YtoiocfngjchdiaaGreatDoor
namespace Go.AM
inductive ah where
 |mk (name:List UInt8) (args:List ah)
mutual
def ah.enc:ah->ae
 |.mk n al=>.agg [.str n,.slice (ah.jj al)]
def ah.jj:List ah->List ae
 |[]=>[]
 |t::ts=>t.enc::ah.jj ts
end
theorem ah.qc(l:List ah):ah.jj l=l.map ah.enc:=by
 induction l with
 |nil=>simp[ah.jj]
 |cons t ts ih=>simp[ah.jj,ih]
end Go.AM
noncomputable section
namespace Go.Proofs.YtoiocfngjchdiaaGreatDoor
def sE:List (List UInt8×Int):=[([39,97],4),([39,98],4),([67,111,110,115],3),([69,110,100],3),([70,97,108,115,101],3),([73,110,116],3),([73,110,116,115],3),([73,116,101,109],3),([76,101,97,102],3),([76,105,115,116],3),([78,105,108],3),([78,111,100,101],3),([78,111,110,101],3),([79,112,116,105,111,110],3),([83,111,109,101],3),([84,114,101,101],3),([84,114,117,101],3),([97],2),([97,98,115],2),([97,108,108],2),([97,110,121],2),([97,112,112,101,110,100],2),([98],2),([98,111,116,104],2),([99,111,109,112,111,115,101],2),([99,111,110,99,97,116],2),([99,111,110,115,116],2),([100,114,111,112],2),([101,105,116,104,101,114],2),([102],2),([102,105,108,116,101,114],2),([102,108,105,112],2),([102,111,108,100,108],2),([102,111,108,100,114],2),([102,115,116],2),([103],2),([103,99,100],2),([103,111],2),([104],2),([105],2),([105,100],2),([105,110,115,101,114,116],2),([105,115,111,114,116],2),([105,116,101,109,115],2),([107],2),([108],2),([108,101,110,103,116,104],2),([108,105,115,116],2),([108,111,111,107,117,112],2),([109,97,112],2),([109,97,120],2),([109,101,109,98,101,114],2),([109,101,114,103,101],2),([109,105,110],2),([109,115,111,114,116],2),([110],2),([110,111,116],2),([110,116,104],2),([111],2),([112],2),([112,97,114,116,105,116,105,111,110],2),([112,111,119,101,114],2),([112,114,111,100,117,99,116],2),([113,115,111,114,116],2),([114],2),([114,97,110,103,101],2),([114,101,112,108,105,99,97,116,101],2),([114,101,118,101,114,115,101],2),([115],2),([115,110,100],2),([115,112,108,105,116],2),([115,117,109],2),([116],2),([116,97,107,101],2),([116,100,101,112,116,104],2),([116,105,110,115,101,114,116],2),([116,108,105,115,116],2),([116,109,101,109,98,101,114],2),([116,114,101,101],2),([116,115,105,122,101],2),([117,110,122,105,112],2),([118],2),([120],2),([121],2),([122],2),([122,105,112],2)]
def eC(s:List UInt8):Option Int:=(sE.find? λp=>p.1==s).map (·.2)
theorem aDN{s:List UInt8}{k:Int}(h:eC s=some k):(s,k)∈sE:=by
 simp only[eC,Aq] at h;obtain⟨p,h1,h2⟩:=h;have h3:=List.find?_some h1;have h4:=Gg h1;obtain⟨a,b⟩:=p;simp only[Cb] at h3;subst h3 h2;exact h4
section
open Go.AM
def tO:List (List UInt8×ah):=[
 ([97,112,112,101,110,100],.mk [45,62] [.mk [76,105,115,116] [.mk [39,97] []],.mk [45,62] [.mk [76,105,115,116] [.mk [39,97] []],.mk [76,105,115,116] [.mk [39,97] []]]]),
 ([122,105,112],.mk [45,62] [.mk [76,105,115,116] [.mk [39,97] []],.mk [45,62] [.mk [76,105,115,116] [.mk [39,98] []],.mk [76,105,115,116] [.mk [44] [.mk [39,97] [],.mk [39,98] []]]]]),
 ([114,101,118,101,114,115,101],.mk [45,62] [.mk [76,105,115,116] [.mk [39,97] []],.mk [76,105,115,116] [.mk [39,97] []]]),
 ([108,101,110,103,116,104],.mk [45,62] [.mk [76,105,115,116] [.mk [39,97] []],.mk [73,110,116] []]),
 ([115,117,109],.mk [45,62] [.mk [76,105,115,116] [.mk [73,110,116] []],.mk [73,110,116] []]),
 ([116,97,107,101],.mk [45,62] [.mk [73,110,116] [],.mk [45,62] [.mk [76,105,115,116] [.mk [39,97] []],.mk [76,105,115,116] [.mk [39,97] []]]]),
 ([109,115,111,114,116],.mk [45,62] [.mk [76,105,115,116] [.mk [73,110,116] []],.mk [76,105,115,116] [.mk [73,110,116] []]]),
 ([105,115,111,114,116],.mk [45,62] [.mk [76,105,115,116] [.mk [73,110,116] []],.mk [76,105,115,116] [.mk [73,110,116] []]]),
 ([113,115,111,114,116],.mk [45,62] [.mk [76,105,115,116] [.mk [73,110,116] []],.mk [76,105,115,116] [.mk [73,110,116] []]]),
 ([116,114,101,101],.mk [45,62] [.mk [76,105,115,116] [.mk [73,110,116] []],.mk [84,114,101,101] [.mk [73,110,116] []]]),
 ([116,108,105,115,116],.mk [45,62] [.mk [84,114,101,101] [.mk [39,97] []],.mk [76,105,115,116] [.mk [39,97] []]])]
def uL(s:List UInt8):Option ah:=(tO.find? λp=>p.1==s).map (·.2)
def mD(s:List UInt8):Bool:=eC s==some 3
class h_ where
 ap:List Slot->Option (Option d_)
 rn:List Slot->Option (Option d_)
 pg:ae
def oV[h_]:gG:=λf args =>
 bif Nat.beq f 8 then h_.ap args
 else bif Nat.beq f 9 then h_.rn args
 else bif Nat.beq f 6 then(match args with
  |[]=>some (some (.ret (.val (.bool true))))
  |_=>some none)
 else bif Nat.beq f 20 then(match args with
  |[.val (.str [])]=>some (some (.ret (.aj [h_.pg,.int .i64 0,.int .i64 0])))
  |_=>some none)
 else bif Nat.beq f 37 then(match args with
  |[.val (.str s)]=>some ((uL s).map λt=>.ret (.aj [t.enc,.bool true]))
  |_=>some none)
 else bif Nat.beq f 46 then(match args with
  |[.val (.str s)]=>some ((uL s).map λ_=>.ret (.val (.bool true)))
  |_=>some none)
 else bif Nat.beq f 192 then(match args with
  |[.val (.str s)]=>some ((eC s).map λk=>.ret (.val (.int .i64 k)))
  |_=>some none)
 else none
noncomputable abbrev CF[h_]:aI:=GY Tryz.prog ans oV
noncomputable abbrev LP[h_]:aO:=Hf Tryz.prog ans oV
inductive ad where
 |mk (bh:List UInt8) (num:Int) (args:List ad)
def ad.bh:ad->List UInt8|.mk c _ _=>c
def ad.num:ad->Int|.mk _ n _=>n
def ad.args:ad->List ad|.mk _ _ al=>al
mutual
def ad.enc:ad->ae
 |.mk c n al=>.agg [.str c,.int .i64 n,.slice (ad.jj al)]
def ad.jj:List ad->List ae
 |[]=>[]
 |t::ts=>t.enc::ad.jj ts
end
theorem ad.qc(l:List ad):ad.jj l=l.map ad.enc:=by
 induction l with
 |nil=>simp[ad.jj]
 |cons t ts ih=>simp[ad.jj,ih]
theorem ad.ce(c:List UInt8)(n:Int)(al:List ad):(ad.mk c n al).enc=.agg [.str c,.int .i64 n,.slice (al.map ad.enc)]:=by simp[ad.enc,ad.qc]
theorem ad.aw(t:ad):t.enc=.agg [.str t.bh,.int .i64 t.num,.slice (t.args.map ad.enc)]:=by cases t;exact ad.ce _ _ _
mutual
def ad.size:ad->Nat
 |.mk c _ al=>c.length+1+ad.f_ al
def ad.f_:List ad->Nat
 |[]=>0
 |t::ts=>t.size+1+ad.f_ ts
end
theorem ad.tM(l:List ad):l.length<=ad.f_ l:=by
 induction l with
 |nil=>simp[ad.f_]
 |cons t ts ih=>simp only[ad.f_,Ak];omega
theorem ad.qk{t:ad}:∀{l:List ad},t∈l->t.size<ad.f_ l
 |x::l,h=>by
  simp only[ad.f_];rcases As.1 h with h|h
  ·subst h;omega
  ·have:=ad.qk h;omega
theorem ad.p_(t:ad):t.args.length<t.size:=by
 cases t;simp only[ad.args,ad.size];have:=ad.tM ‹_›;omega
theorem ad.m7{t a:ad}(h:a∈t.args):a.size<t.size:=by
 cases t;simp only[ad.args] at h;simp only[ad.size];have:=ad.qk h;omega
theorem ad.ind{p:ad->Prop}(h:∀t,(∀a∈t.args,p a)->p t):∀t,p t:=by
 have:∀n t,t.size<n->p t:=by
  intro n;induction n with
  |zero=>intro t ht;omega
  |succ n ih=>intro t ht;exact h t λa ha=>ih a (by have:=ad.m7 ha;omega)
 exact λt=>this (t.size+1) t (by omega)
abbrev AR:Nat:=4294967296
theorem cQ{α:Type}(enc:α->ae)(pre ys:List α)(y:α):((pre++y::ys).map enc)[((pre.length:Nat):Int).toNat]?=some (enc y):=by simp
theorem CQ{α:Type}(pre ys:List α)(y:α):decide (((pre.length:Nat):Int)<((pre++y::ys).length:Nat))=true:=by simp;omega
theorem DK{α:Type}(l:List α):decide (((l.length:Nat):Int)<(l.length:Nat))=false:=by simp
theorem zI(n:Nat):decide (0<=((n:Nat):Int))=true:=by simp
theorem wI(n:Nat)(h:n<AR):IntKind.i64.wrap (((n:Nat):Int)+1)=((n+1:Nat):Int):=by
 simp only[AR] at h;rw[iu (by omega) (by omega)];rfl
theorem wL{α:Type}(pre ys:List α)(y:α)(h:(pre++y::ys).length<AR):IntKind.i64.wrap (((pre.length:Nat):Int)+1)=((pre++[y]).length:Nat):=by
 rw[wI _ (by simp at h ⊢;omega)];simp
end
end Go.Proofs.YtoiocfngjchdiaaGreatDoor
end
