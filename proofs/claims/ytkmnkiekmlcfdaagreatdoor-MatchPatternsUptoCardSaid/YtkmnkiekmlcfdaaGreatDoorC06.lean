/- Part C06 of the proof of one law of the program. -/
import Derived.Test.YtkmnkiekmlcfdaaGreatDoorC05
import Derived.Recover
set_option linter.all false
namespace Go.Proofs.YtkmnkiekmlcfdaaGreatDoor
open Go.AM Go.RowKit
set_option maxRecDepth 100000
set_option maxHeartbeats 4000000
theorem r2_wp (tmps:Array Value) (hs:tmps.size=19) (w:World):q2.wp Tryz.prog (fun e a w'=>e=.normal∧w'=w∧a.tmps=tmps.setIfInBounds 8 (.func (.func 176) #[] #[tmps.getD 3 undef,tmps.getD 4 undef])∧a.defers=[{ target:=.fn (.func 176) #[tmps.getD 3 undef,tmps.getD 4 undef],args:=#[] }]) ⟨tmps,[]⟩ w:=by
 have hmf:∀ (fn:Fn) (first cap:Array Value) (w:World),(Instr.makeFunc fn first cap).run Tryz.prog w=.ok (.func fn first cap) w:=fun _ _ _ _=>rfl
 show (Code.region _ _ _).wp _ _ _ _
 go_wp2
theorem setCell_id {w:World} {b o:Nat} {cs:Array Value} {T:TypeId} {fr:Nat×Nat} {v:Value} (h:w.heap[b]?=some (.cells cs T fr)) (hv:cs[o]?=some v):w.setCell ⟨b,o,none⟩ v=w:=by
 obtain ⟨hb,he⟩:=Array.getElem?_eq_some_iff.1 h
 have hc:cs.setIfInBounds o v=cs:=by
  apply Array.ext
  ·simp
  ·intro i h1 h2
   rw[Array.getElem_setIfInBounds h2];split
   ·subst_vars
    rw[Array.getElem?_eq_getElem h2] at hv;exact (Option.some.inj hv).symm
   ·rfl
 have key:∀ F:Obj→Obj,F (.cells cs T fr)=.cells cs T fr→w.heap.modify b F=w.heap:=fun F hF=>by
  apply Array.ext
  ·simp
  ·intro i h1 h2
   rw[Array.getElem_modify];split
   ·subst_vars
    rw[he,hF]
   ·rfl
 unfold World.setCell;rw[key _ (by simp only[Option.isSome_none,Bool.false_eq_true,if_false,hc])]
theorem r6_wp (t0 t1 t2 t5 t6 t7 t8 t9 t10 t11 t12 t13 t14 t15 t16 t17 t18:Value) (b3 b4:Nat) (a3:Option Addr) (l3 k3:Nat) (x y:Int) (T3 T4:TypeId) (f3 f4:Nat×Nat) (ds:List Deferred) (w:World) (h34:b3≠b4)
  (h3:w.heap[b3]?=some (.cells #[.slice a3 l3 k3] T3 f3)) (h4:w.heap[b4]?=some (.cells #[.int .i64 x,.int .i64 y] T4 f4)) (hf3:w.frozen? ⟨b3,0,none⟩=false) (hf4:w.frozen? ⟨b4,0,none⟩=false) (hf5:w.frozen? ⟨b4,1,none⟩=false) :
  q5.wp Tryz.prog (fun e a w'=>e=.ret∧w'.heap=w.heap∧w'.os=w.os∧w'.tape=w.tape∧w'.output=w.output∧a.tmps.getD 2 undef=t2∧a.tmps.getD 3 undef=.pointer (some ⟨b3,0,none⟩)∧a.tmps.getD 4 undef=.pointer (some ⟨b4,0,none⟩)∧a.defers=ds)
   ⟨#[t0,t1,t2,.pointer (some ⟨b3,0,none⟩),.pointer (some ⟨b4,0,none⟩),t5,t6,t7,t8,t9,t10,t11,t12,t13,t14,t15,t16,t17,t18],ds⟩ w:=by
 show (Code.seq (Code.region _ _ _) _).wp _ _ _ _;have d3:w.drew.heap[b3]?=_:=h3;have d4:w.drew.heap[b4]?=_:=h4;have c3:w.drew.cell? ⟨b3,0,none⟩=some (.slice a3 l3 k3):=(cell_of_heap d3 0).trans rfl;have c4:w.drew.cell? ⟨b4,0,none⟩=some (.int .i64 x):=(cell_of_heap d4 0).trans rfl;have c5:w.drew.cell? ⟨b4,1,none⟩=some (.int .i64 y):=(cell_of_heap d4 1).trans rfl;have e3:w.cell? ⟨b3,0,none⟩=some (.slice a3 l3 k3):=c3;have e4:w.cell? ⟨b4,0,none⟩=some (.int .i64 x):=c4;have e5:w.cell? ⟨b4,1,none⟩=some (.int .i64 y):=c5;have h43:¬ b4=b3:=fun h=>h34 h.symm
 have g3:w.drew.frozen? ⟨b3,0,none⟩=false:=hf3;have g4:w.drew.frozen? ⟨b4,0,none⟩=false:=hf4;have g5:w.drew.frozen? ⟨b4,1,none⟩=false:=hf5
 go_wp2
 go_region
 rw[setCell_id h3 rfl,setCell_id h4 rfl,setCell_id h4 rfl]
 go_wp2
 exact ⟨rfl,rfl,rfl⟩
theorem catch_idle (p q:Value) (w:World):CallsD Tryz.prog 176 #[p,q] .returning w fun e u' w'=>e=.returned (.tuple #[])∧u'=.returning∧w'=w:=by
 refine callsD_of_wpS Tryz.func176 rfl fun c₀ cs hu=>?_
 apply wpS_seq;apply wpS_region;simp [wpOpsS,go_sem,recoverD,hu,Tryz.ntmps176,Exit.thenS];refine wpS_of_wp ?_
 go_wp2
 cases c₀
 simp_all [bodyPostS,results,Tryz.results176]
theorem catch_panicking (b3 b4:Nat) (a3:Option Addr) (l3 k3:Nat) (x y a e:Int) (T3 T4:TypeId) (f3 f4:Nat×Nat) (w:World) (h34:b3≠b4)
  (h3:w.heap[b3]?=some (.cells #[.slice a3 l3 k3] T3 f3)) (h4:w.heap[b4]?=some (.cells #[.int .i64 x,.int .i64 y] T4 f4)) (hf3:w.frozen? ⟨b3,0,none⟩=false) (hf4:w.frozen? ⟨b4,0,none⟩=false) (hf5:w.frozen? ⟨b4,1,none⟩=false) :
  CallsD Tryz.prog 176 #[.pointer (some ⟨b3,0,none⟩),.pointer (some ⟨b4,0,none⟩)] (.panicking [{ v:=.iface 193 (.agg #[.int .i64 a,.int .i64 e]),recovered:=false }]) w fun en u' w' =>
   en=.returned (.tuple #[])∧u'=.panicking [{ v:=.iface 193 (.agg #[.int .i64 a,.int .i64 e]),recovered:=true }] ∧
    w'=((((((w.alloc (.cells #[.int .i64 a,.int .i64 e] 193 (0,0))).drew).setCell ⟨b3,0,none⟩ (.slice none 0 0)).setCell ⟨b4,0,none⟩ (.int .i64 a)).setCell ⟨b4,1,none⟩ (.int .i64 e))):=by
 refine callsD_of_wpS Tryz.func176 rfl fun c₀ cs hu=>?_
 apply wpS_seq;apply wpS_region;simp [wpOpsS,go_sem,recoverD,hu,Tryz.ntmps176,Exit.thenS];refine wpS_of_wp ?_
 have hta:∀ w:World,(Instr.typeAssert (.iface 193 (.agg #[.int .i64 a,.int .i64 e])) 20 193 true).run Tryz.prog w=.ok (.tuple #[.agg #[.int .i64 a,.int .i64 e],.bool true]) w:=fun w=>by
  simp [Instr.typeAssert,run_underlying Tryz.underlying193,go_sem]
 have d3:(w.alloc (.cells #[.int .i64 a,.int .i64 e] 193 (0,0))).heap[b3]?=_:=(AM.heap_alloc_old _ (Array.getElem?_eq_some_iff.1 h3).1).trans h3;have d4:(w.alloc (.cells #[.int .i64 a,.int .i64 e] 193 (0,0))).heap[b4]?=_:=(AM.heap_alloc_old _ (Array.getElem?_eq_some_iff.1 h4).1).trans h4;have h43:¬ b4=b3:=fun h=>h34 h.symm
 go_wp2
 have b3w:¬ b3=w.heap.size:=fun h=>by have:=(Array.getElem?_eq_some_iff.1 h3).1;omega
 have b4w:¬ b4=w.heap.size:=fun h=>by have:=(Array.getElem?_eq_some_iff.1 h4).1;omega
 have d5:(w.alloc (.cells #[.int .i64 a,.int .i64 e] 193 (0,0))).heap[w.heap.size]?=_:=AM.heap_alloc_new _;have k3:(w.alloc (.cells #[.int .i64 a,.int .i64 e] 193 (0,0))).frozen? ⟨b3,0,none⟩=false:=by rw[←hf3];simp only[World.frozen?,d3,h3]
 have k4:(w.alloc (.cells #[.int .i64 a,.int .i64 e] 193 (0,0))).frozen? ⟨b4,0,none⟩=false:=by rw[←hf4];simp only[World.frozen?,d4,h4]
 have k5:(w.alloc (.cells #[.int .i64 a,.int .i64 e] 193 (0,0))).frozen? ⟨b4,1,none⟩=false:=by rw[←hf5];simp only[World.frozen?,d4,h4]
 generalize hW:w.alloc (.cells #[.int .i64 a,.int .i64 e] 193 (0,0))=W at *;generalize w.heap.size=n at *;have e3:W.cell? ⟨b3,0,none⟩=some (.slice a3 l3 _):=(cell_of_heap d3 0).trans rfl;have e4:W.cell? ⟨b4,0,none⟩=some (.int .i64 x):=(cell_of_heap d4 0).trans rfl;have e5:W.cell? ⟨b4,1,none⟩=some (.int .i64 y):=(cell_of_heap d4 1).trans rfl;have e6:W.cell? ⟨n,0,none⟩=some (.int .i64 a):=(cell_of_heap d5 0).trans rfl;have e7:W.cell? ⟨n,1,none⟩=some (.int .i64 e):=(cell_of_heap d5 1).trans rfl
 change Code.wp _ _ _ ⟨#[.pointer (some ⟨b3,0,none⟩),.pointer (some ⟨b4,0,none⟩),undef,.pointer (some ⟨n,0,none⟩),undef,.iface 193 (.agg #[.int .i64 a,.int .i64 e]),undef,.bool false,.tuple #[(.agg #[.int .i64 a,.int .i64 e]),.bool true],.bool true,(.agg #[.int .i64 a,.int .i64 e]),undef],[]⟩ _
 have q3:W.drew.cell? ⟨b3,0,none⟩=_:=e3;have q4:W.drew.cell? ⟨b4,0,none⟩=_:=e4;have q5:W.drew.cell? ⟨b4,1,none⟩=_:=e5;have q6:W.drew.cell? ⟨n,0,none⟩=_:=e6;have q7:W.drew.cell? ⟨n,1,none⟩=_:=e7;have r3:W.drew.frozen? ⟨b3,0,none⟩=_:=k3;have r4:W.drew.frozen? ⟨b4,0,none⟩=_:=k4;have r5:W.drew.frozen? ⟨b4,1,none⟩=_:=k5;have n3:¬ n=b3:=fun h=>b3w h.symm
 have n4:¬ n=b4:=fun h=>b4w h.symm
 go_region
 clear hta d3 d4 d5 e3 e4 e5 e6 e7 q3 q4 q5 q6 q7 r3 r4 r5 k3 k4 k5
 go_wp2
 all_goals subst hW
 all_goals cases c₀
 all_goals simp_all [bodyPostS,results,Tryz.results176]
end Go.Proofs.YtkmnkiekmlcfdaaGreatDoor
