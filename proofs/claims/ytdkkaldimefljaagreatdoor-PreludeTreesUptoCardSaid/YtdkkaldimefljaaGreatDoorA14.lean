import Derived.Test.YtdkkaldimefljaaGreatDoorA13
set_option linter.all false
section
namespace Go.AM
variable {P:Program} {ans:FuncId→Ann} {cf:aO} {lp:aT} {f:FuncId}
inductive Adm:{R:Type}→Option R→R→Prop
 |s {P:Program} {ans:FuncId→Ann} {R:Type} {cf:aO} {lp:aT} {f:FuncId} {a b:Code} {st:St} {K:bM→St→Option R} {r:R} (h:Adm (XK P ans cf lp f a st (KS P ans cf lp f b K)) r):Adm (XK P ans cf lp f (.seq a b) st K) r
 |b {P:Program} {ans:FuncId→Ann} {R:Type} {cf:aO} {lp:aT} {f:FuncId} {c:Code} {id:Nat} {st:St} {K:bM→St→Option R} {r:R} (h:Adm (XK P ans cf lp f c st (KB id K)) r):Adm (XK P ans cf lp f (.block id c) st K) r
 |o {P:Program} {ans:FuncId→Ann} {R:Type} {cf:aO} {lp:aT} {f:FuncId} {c:Code} {st:St} {K:bM→St→Option R} {r:R} (h:Adm (XK P ans cf lp f c st K) r):Adm (XK P ans cf lp f (.scope c) st K) r
 |k {P:Program} {ans:FuncId→Ann} {R:Type} {cf:aO} {lp:aT} {f:FuncId} {st:St} {K:bM→St→Option R} {r:R} (h:Adm (K .norm st) r):Adm (XK P ans cf lp f .skip st K) r
 |x {P:Program} {ans:FuncId→Ann} {R:Type} {cf:aO} {lp:aT} {f:FuncId} {id:Nat} {st:St} {K:bM→St→Option R} {r:R} (h:Adm (K (.exit id) st) r):Adm (XK P ans cf lp f (.exit id) st K) r
 |e {P:Program} {ans:FuncId→Ann} {R:Type} {cf:aO} {lp:aT} {f:FuncId} {st:St} {K:bM→St→Option R} {r:R} (h:Adm (K .ret st) r):Adm (XK P ans cf lp f .ret st K) r
 |sN {P:Program} {ans:FuncId→Ann} {R:Type} {cf:aO} {lp:aT} {f:FuncId} {b:Code} {st:St} {K:bM→St→Option R} {r:R} (h:Adm (XK P ans cf lp f b st K) r):Adm (KS P ans cf lp f b K .norm st) r
 |sX {P:Program} {ans:FuncId→Ann} {R:Type} {cf:aO} {lp:aT} {f:FuncId} {b:Code} {id:Nat} {st:St} {K:bM→St→Option R} {r:R} (h:Adm (K (.exit id) st) r):Adm (KS P ans cf lp f b K (.exit id) st) r
 |sE {P:Program} {ans:FuncId→Ann} {R:Type} {cf:aO} {lp:aT} {f:FuncId} {b:Code} {st:St} {K:bM→St→Option R} {r:R} (h:Adm (K .ret st) r):Adm (KS P ans cf lp f b K .ret st) r
 |bN {R:Type} {id:Nat} {st:St} {K:bM→St→Option R} {r:R} (h:Adm (K .norm st) r):Adm (KB id K .norm st) r
 |bX {R:Type} {id:Nat} {st:St} {K:bM→St→Option R} {r:R} (h:Adm (K .norm st) r):Adm (KB id K (.exit id) st) r
 |bE {R:Type} {id:Nat} {st:St} {K:bM→St→Option R} {r:R} (h:Adm (K .ret st) r):Adm (KB id K .ret st) r
 |fE {P:Program} {ans:FuncId→Ann} {f:FuncId} {fn:Func} {n:Nat} {st:St} {x:ARes×Sto} (h:Adm (finish P (ans f) fn n st) x):Adm (KF P ans f fn n .ret st) x
 |fN {P:Program} {ans:FuncId→Ann} {f:FuncId} {fn:Func} {n:Nat} {st:St} {x:ARes×Sto} (h:Adm (finish P (ans f) fn n st) x):Adm (KF P ans f fn n .norm st) x
 |lN {P:Program} {ans:FuncId→Ann} {lp:aT} {f:FuncId} {c:Code} {st:St} {x:bM×St} (h:Adm (lp f c (jM (ans f) c st)) x):Adm (KL P ans lp f c .norm st) x
 |w {R:Type} {id i:Nat} {st:St} {K:bM→St→Option R} {r:R} (hi:Nat.beq i id=false) (h:Adm (K (.exit i) st) r):Adm (KB id K (.exit i) st) r
 |z {R:Type} {x:Option R} {r:R} (h:x=some r):Adm x r
theorem tQ {R:Type} {x:Option R} {r:R} (h:Adm x r):x=some r:=by
 induction h with
 |s _ ih=>exact tS ih
 |b _ ih=>exact tB ih
 |o _ ih=>exact tO ih
 |k _ ih=>exact tK ih
 |x _ ih=>exact tX ih
 |e _ ih=>exact tE ih
 |sN _ ih=>exact tsN ih
 |sX _ ih=>exact tsX ih
 |sE _ ih=>exact tsE ih
 |bN _ ih=>exact tbN ih
 |bX _ ih=>exact tbX ih
 |bE _ ih=>exact tbE ih
 |fE _ ih=>exact tfE ih
 |fN _ ih=>exact tfN ih
 |lN _ ih=>exact tlN ih
 |w hi _ ih=>exact tbO hi ih
 |z h=>exact h
theorem tW {R:Type} {id i:Nat} {st:St} {K:bM→St→Option R} {r:R} (hi:Nat.beq i id=false) (h:Adm (K (.exit i) st) r):KB id K (.exit i) st=some r:=tbO hi (tQ h)
theorem tG {R:Type} {id:Nat} {ops:Array Oper} {d:Bool} {tm tm':List Slot} {sc:List (Nat×Slot)} {sto sto':Sto} {K:bM→St→Option R} {r:R} (hg:(bif d then qR ans (ans f) id ops&&noX ans (ans f) id ops else true)=true)
  (h:∀ (kp:AVal→RS→Option R) (kn:RS→Option R),nC P ans (ans f) d cf tm id ops kp kn ops.toList 0 ⟨[],sto⟩=kn ⟨sc,sto'⟩) (hc:commit (ans f).keep tm sc=tm') (k:Adm (K .norm ⟨tm',sto'⟩) r):XK P ans cf lp f (.region id ops d) ⟨tm,sto⟩ K=some r:=by
 cases d with
 |false=>exact tR h hc (tQ k)
 |true=>exact tD hg h hc (tQ k)
end Go.AM
end
section
namespace Go.AM
variable {P:Program} {ans:FuncId→Ann} {cf:aO} {lp:aT} {f:FuncId} {R:Type} {K:bM→St→Option R} {b c:Code} {tm:List Slot} {sto sto':Sto} {r:R} {v:AVal} {st:St}
def qU:Code→Code|.seq a _=>a|c=>c
def hY:Code→Code|.seq _ b=>b|c=>c
end Go.AM
end
section
namespace Go.AM
variable {P:Program} {ans:FuncId→Ann} {cf:aO} {lp:aT} {f:FuncId}
def aAW (P:Program) (an:Ann) (ops:List Oper):Option Nat :=
 (mC ops).bind fun se=>(aR P se.1).bind fun e=>(aZ P se.1).bind fun s1=>(aZ P e).bind fun sz=>(zeroOf P e).bind fun z=>(gH se.2.2).bind fun zc=>(bC P e).bind fun ag=>(bC P se.1).bind fun ag1 =>
  aJ (Nat.beq e se.2.1&&Nat.beq s1 1&&Nat.blt 0 sz&&ag&&!ag1&&Nat.beq z.cells.length sz&&clean z&&Nat.beq zc.cells.length sz&&clean zc&&Nat.ble (aL P e) 16384&&Nat.blt 0 (aL P e)&&Nat.ble sz 16777216&&Nat.blt 13 an.nt &&
    [8,9,10,11,12,13].all (fun t=>!an.keep.contains t)) (some sz)
theorem aDG {an:Ann} {ops:List Oper} {sz:Nat} (h:aAW P an ops=some sz) {R:Type} (st:St) (K:bM→St→Option R):uA P an ops st K=yN (tlook an.keep st.tm 2) (tlook an.keep st.tm 5) fun i cs=>jO st.sto.objs[i]? fun bs=>yP bs fun sz' xs =>
    aJ (Nat.beq sz sz'&&Nat.beq cs.length sz&&clean (.agg (cs.map Cell.get))&&Nat.ble (xs.length+1) room&&Nat.ble st.sto.lo i)
     (K .norm ⟨st.tm,{ st.sto with objs:=st.sto.objs.set i (.box [.own sz (xs++[.agg (cs.map Cell.get)])]) }⟩):=by
 unfold aAW at h;obtain ⟨se,h1,h⟩:=aC h;obtain ⟨e',h2,h⟩:=aC h;obtain ⟨s1,h3,h⟩:=aC h;obtain ⟨sz',h4,h⟩:=aC h;obtain ⟨z,h5,h⟩:=aC h;obtain ⟨zc,h6,h⟩:=aC h;obtain ⟨ag,h7,h⟩:=aC h;obtain ⟨ag1,h8,h⟩:=aC h;obtain ⟨hg,h⟩:=aA h;obtain rfl:=Option.some.inj h;unfold uA;simp only[h1,h2,h3,h4,h5,h6,h7,h8,Option.bind_some];rw[mM (by exact hg)]
theorem aNb {R:Type} {id:Nat} {ops:Array Oper} {sz i:Nat} {tm:List Slot} {sto:Sto} {cs:List Cell} {xs:List AVal} {K:bM→St→Option R} {r:R} (hm:vR (ans f) id=true) (hs:aAW P (ans f) ops.toList=some sz)
  (h2:tlook (ans f).keep tm 2=.val (.loc i 0)) (h5:tlook (ans f).keep tm 5=.box cs) (ho:sto.objs[i]?=some (.box [.own sz xs])) (hg:(Nat.beq sz sz&&Nat.beq cs.length sz&&clean (.agg (cs.map Cell.get))&&Nat.ble (xs.length+1) room&&Nat.ble sto.lo i)=true)
  (k:Adm (K .norm ⟨tm,⟨sto.objs.set i (.box [.own sz (xs++[.agg (cs.map Cell.get)])]),sto.lo⟩⟩) r):XK P ans cf lp f (.region id ops true) ⟨tm,sto⟩ K=some r:=by
 rw[xM hm,aDG hs];simp only[h2,h5,yN,ho,jO,yP];rw[mM (by exact hg)];exact tQ k
end Go.AM
end
