/- Part C07 of the proof of one law of the program. -/
import Derived.Test.YtkmnkiekmlcfdaaGreatDoorC06
set_option linter.all false
set_option linter.unusedVariables false
set_option linter.unusedSimpArgs false
set_option linter.unusedSectionVars false
set_option linter.unnecessarySimpa false
section
namespace Go.Proofs.YtkmnkiekmlcfdaaGreatDoor
open Go.AM Go.RowKit
set_option maxRecDepth 100000
set_option maxHeartbeats 4000000
structure Two2 (w:World) (B0:Nat) (Ψ:HT) (ρ:List Nat) (ow:Own) (L:List AVal) (b3 b4:Nat) (a:Option Addr) (l k:Nat) (T3 T4:TypeId):Prop where
 r3:ρ[0]?=some b3
 r4:ρ[1]?=some b4
 ne:b3≠b4
 o3:ow b3=some (true,0,0)
 o4:ow b4=some (true,1,0)
 h3:w.heap[b3]?=some (.cells #[.slice a l k] T3 (0,0))
 h4:w.heap[b4]?=some (.cells #[.int .i64 0,.int .i64 0] T4 (0,0))
 rel:VRel Ψ [] (.slice L) (.slice a l k)
 f3:∀ o,Ψ b3 o=hno
 f4:∀ o,Ψ b4 o=hno
 g3:B0≤b3
 g4:B0≤b4
theorem two2 {w:World} {B0:Nat} {Ψ:HT} {ρ:List Nat} {ow:Own} {objs:List AObj} {L:List AVal} (h:OsRel w B0 Ψ ρ ow ans objs) (h0:objs[0]?=some (.box [.own 4 L])) (h1:objs[1]?=some zeroW) :
  ∃ b3 b4 a l k T3 T4,Two2 w B0 Ψ ρ ow L b3 b4 a l k T3 T4:=by
 obtain ⟨b3,r3,q3⟩:=h.2 0 _ h0
 obtain ⟨b4,r4,q4⟩:=h.2 1 _ h1
 unfold zeroW at q4
 cases q3 with
 |box _ _ q3 =>
 cases q4 with
 |box _ _ q4 =>
 obtain ⟨vs,T3,e3,l3,c3⟩:=q3.heap
 obtain ⟨us,T4,e4,l4,c4⟩:=q4.heap
 match vs,l3 with
 |[v],_ =>
 match us,l4 with
 |[u,u'],_ =>
 have x3:=c3 0 _ _ rfl rfl
 have x4:=c4 0 _ _ rfl rfl
 have x5:=c4 1 _ _ rfl rfl
 cases x3 with
 |own _ _ _ x3 =>
 cases x4 with
 |val _ _ _ x4 =>
 cases x5 with
 |val _ _ _ x5 =>
 cases x4
 cases x5
 obtain ⟨a,l,k,rfl,_⟩:=x3.rest
 refine ⟨b3,b4,a,l,k,T3,T4,r3,r4,fun e=>?_,q3.own,q4.own,e3,e4,x3.rel,q3.free,q4.free,q3.base,q4.base⟩
 have:=q3.own
 rw[e,q4.own] at this
 cases this
theorem region_ok {B0:Nat} {cf:Oracle} {lp:LpOracle} {fid:FuncId} {id:Nat} {ops:Array Oper} {st st':St} (hcf:CfOK Tryz.prog ans B0 cf) (e:XK Tryz.prog ans cf lp fid (.region id ops false) st rec_=some (.norm,st')) {w:World} {Ψ:HT} {ρ:List Nat} {ow:Own} {tmps:Array Value} {ds:List Deferred} {b:Frame} {cs:List Frame} {items:List Item} (h:At Tryz.prog ans fid B0 w Ψ ρ ow st tmps) :
  ∃ w' Ψ' ρ' ow' tmps',At Tryz.prog ans fid B0 w' Ψ' ρ' ow' st' tmps'∧Fr w Ψ ow w' Ψ' ow'∧pre ρ ρ'∧StoLe st.sto st'.sto∧Steps Tryz.prog (lone (b.atR ⟨tmps,ds⟩ (.code (.region id ops false)::items)) cs w) (lone (b.atR ⟨tmps',ds⟩ items) cs w'):=by
 simp only[XK] at e
 rw[opsK_range] at e
 rcases opsS_ok (ds:=ds) (b:=b) (items:=items) (cs:=cs) hcf h.nr (rs:=⟨[],st.sto⟩) h.rel h.lo e with ⟨rs',w',Ψ',ρ',ow',tmps',a1,a2,a3,a4,a5,a6⟩|⟨x,rs',v,w',Ψ',ρ',ow',tmps',todo',a1,a2,a3,a4,a5,a6,a7⟩
 ·simp only[rec_,Option.some.injEq,Prod.mk.injEq,true_and] at a1
  subst a1
  exact ⟨w',Ψ',ρ',ow',tmps',At.commit h.nr a2 (by rw[a5.lo];exact Nat.le_trans h.lo a5.len) rfl,a3,a4,a5,(Steps.one stepR_region).trans (a6.trans (.one stepR_region_end))⟩
 ·simp [rec_] at a1
theorem at_dead {B0:Nat} {fid:FuncId} {st:St} {w:World} {Ψ:HT} {ρ:List Nat} {ow:Own} {tmps:Array Value} (h:At Tryz.prog ans fid B0 w Ψ ρ ow st tmps) (d:Nat) (v:Value) (hd:d < (ans fid).nt) (hk:tlook (ans fid).keep st.tm d=.dead):At Tryz.prog ans fid B0 w Ψ ρ ow st (tmps.setIfInBounds d v):=by
 have hE:upd (sl (ans fid) st.tm ⟨[],st.sto⟩) d .dead=sl (ans fid) st.tm ⟨[],st.sto⟩:=by
  funext t
  by_cases e:t=d
  ·subst e
   rw[upd_same]
   exact hk.symm
  ·rw[upd_other _ _ e]
 refine ⟨?_,h.nr,h.lo⟩
 have:=h.rel.write d .dead v hd (fun t o e=>absurd e (h.nr.tlook _ _ _ _)) (fun u o e=>by cases e) (fun cs e=>by cases e) Ψ.le_refl (pre_refl _) h.rel.wsat (fun t _ _=>Same.refl _ _ _ _ _) (.dead v) h.rel.objs h.rel.lt (Nat.le_refl _)
 rw[hE] at this
 exact this
end Go.Proofs.YtkmnkiekmlcfdaaGreatDoor
end
section
namespace Go.Proofs.YtkmnkiekmlcfdaaGreatDoor
open Go.AM Go.RowKit
set_option maxRecDepth 100000
set_option maxHeartbeats 4000000
def dfr (b3 b4:Nat):Deferred:={ target:=.fn (.func 176) #[.pointer (some ⟨b3,0,none⟩),.pointer (some ⟨b4,0,none⟩)],args:=#[] }
def fr173:Frame:={ (default:Frame) with fn:=173,kind:=.normal,roundOf:=none }
theorem hdE (Ψ:HT) (ρ:List Nat) (i b:Nat) {v:Value} (h:VRel Ψ ρ (.loc i 0) v) (hb:ρ[i]?=some b):v=.pointer (some ⟨b,0,none⟩):=by
 cases h with
 |loc _ _ b' h=>rw[hb] at h;cases h;rfl
theorem pre173 (s:List UInt8) {w:World} {Ψ:HT} (hw:WSat Ψ w) (cs:List Frame):∃ w' Ψ' ρ' ow' tmps b3 b4,
  At Tryz.prog ans 173 w.heap.size w' Ψ' ρ' ow' ⟨[.val (.str s),.val (.loc 3 0),.val (.loc 0 0),.val (.loc 1 0),.dead,.val (.func 179 [.loc 4 0]),.dead],⟨[.box [.own 4 []],zeroW,.map wordM,.box [.val (.str s),.val (.int .i64 0),.val (.amap 2),.own 2 []],.box [.val (.loc 3 0)]],0⟩⟩ tmps ∧
  Fr w Ψ (fun _=>none) w' Ψ' ow'∧ρ'[0]?=some b3∧ρ'[1]?=some b4 ∧
  Steps Tryz.prog (lone (Frame.enter Tryz.prog 173 #[.string ⟨⟨s⟩⟩] .normal) cs w) (lone (fr173.atR ⟨tmps,[dfr b3 b4]⟩ [.code (.block 0 q4),.code q5]) cs w'):=by
 have hcf:=cfW_ok (envL w.heap.size)
 have hA0:=enter_at (P:=Tryz.prog) (ans:=ans) (f:=173) (callPre0 (ans:=ans) hw (args:=[.val (.str s)]) (vs:=#[.string ⟨⟨s⟩⟩]) rfl (fun x hx=>by rw[List.mem_singleton.1 hx];rfl) (fun i x hx=>by
  cases i with
  |zero=>cases hx;exact .val _ _ (.str _)
  |succ i=>simp at hx)) (by rw[an173];show 1≤19;omega)
 have htm:((ans 173).keep.map fun t=>(([.val (.str s)]:List Slot)[t]?).getD .dead)=[.val (.str s),.dead,.dead,.dead,.dead,.dead,.dead]:=by rw[an173];rfl
 rw[htm] at hA0
 have henter:Frame.enter Tryz.prog 173 #[.string ⟨⟨s⟩⟩] .normal=fr173.atR ⟨#[.string ⟨⟨s⟩⟩]++Array.replicate ((ans 173).nt - (#[.string ⟨⟨s⟩⟩]:Array Value).size) undef,[]⟩ [.code (.seq q0 (.seq q1 (.seq q2 (.seq (.seq q3 (.block 0 q4)) q5))))]:=by
  have e1:(ans 173).nt=19:=by rw[an173]
  rw[e1]
  simp only[Frame.enter,Tryz.func173,Option.bind_some,b173E,Tryz.ntmps173,Frame.atR,fr173]
  rfl
 obtain ⟨w0,Ψ0,ρ0,ow0,tm0,A0,F0,p0,_,S0⟩:=region_ok (ds:=[]) (b:=fr173) (cs:=cs) (items:=[.code (.seq q1 (.seq q2 (.seq (.seq q3 (.block 0 q4)) q5)))]) hcf (h0 s) hA0
 obtain ⟨w1,Ψ1,ρ1,ow1,tm1,A1,F1,p1,_,S1⟩:=region_ok (ds:=[]) (b:=fr173) (cs:=cs) (items:=[.code (.seq q2 (.seq (.seq q3 (.block 0 q4)) q5))]) hcf (h1 s) A0
 have hsz:tm1.size=19:=by have:=A1.rel.size;rw[an173] at this;exact this
 have loc:∀ (t i:Nat),sl (ans 173) [.val (.str s),.val (.loc 3 0),.val (.loc 0 0),.val (.loc 1 0),.dead,.dead,.dead] ⟨[],⟨[.box [.own 4 []],zeroW,.map wordM,.box [.val (.str s),.val (.int .i64 0),.val (.amap 2),.own 2 []]],0⟩⟩ t=.val (.loc i 0)→∀ b,ρ1[i]?=some b→tm1.getD t undef=.pointer (some ⟨b,0,none⟩):=fun t i e b hb=>by
  have:=A1.rel.slots t
  rw[e] at this
  cases this with
  |val _ _ h=>exact hdE _ _ _ _ h hb
 obtain ⟨b3,r3,_⟩:=A1.rel.objs.2 0 _ rfl
 obtain ⟨b4,r4,_⟩:=A1.rel.objs.2 1 _ rfl
 have v3:=loc 3 0 (by rw[an173];rfl) b3 r3
 have v4:=loc 4 1 (by rw[an173];rfl) b4 r4
 obtain ⟨e2,a2,w2,⟨rfl,rfl,ht,hd⟩,S2⟩:=r2_wp tm1 hsz w1 fr173 [.code (.seq (.seq q3 (.block 0 q4)) q5)] cs
 rw[v3,v4] at ht hd
 have A2:=at_dead A1 8 (.func (.func 176) #[] #[.pointer (some ⟨b3,0,none⟩),.pointer (some ⟨b4,0,none⟩)]) (by rw[an173];show 8 < 19;omega) (by rw[an173];rfl)
 obtain ⟨w3,Ψ3,ρ3,ow3,tm3,A3,F3,p3,_,S3⟩:=region_ok (ds:=[dfr b3 b4]) (b:=fr173) (cs:=cs) (items:=[.code (.block 0 q4),.code q5]) hcf (h3 s) A2
 refine ⟨w3,Ψ3,ρ3,ow3,tm3,b3,b4,A3,(F0.trans F1).trans F3,p3 0 b3 r3,p3 1 b4 r4,?_⟩
 rw[henter]
 obtain ⟨t2,d2⟩:=a2
 simp only at ht hd
 subst ht hd
 have S2':Steps Tryz.prog (lone (fr173.atR ⟨tm1,[]⟩ [.code q2,.code (.seq (.seq q3 (.block 0 q4)) q5)]) cs w2) (lone (fr173.atR ⟨tm1.setIfInBounds 8 (.func (.func 176) #[] #[.pointer (some ⟨b3,0,none⟩),.pointer (some ⟨b4,0,none⟩)]),[dfr b3 b4]⟩ [.code (.seq (.seq q3 (.block 0 q4)) q5)]) cs w2):=S2
 refine (Steps.one stepR_seq).trans (S0.trans ((Steps.one stepR_seq).trans (S1.trans ((Steps.one stepR_seq).trans (S2'.trans ((Steps.one stepR_seq).trans ((Steps.one stepR_seq).trans S3)))))))
end Go.Proofs.YtkmnkiekmlcfdaaGreatDoor
end
section
namespace Go.Proofs.YtkmnkiekmlcfdaaGreatDoor
open Go.AM Go.RowKit
set_option maxRecDepth 100000
set_option maxHeartbeats 4000000
theorem arr19 (a:Array Value) (h:a.size=19):a=#[a.getD 0 undef,a.getD 1 undef,a.getD 2 undef,a.getD 3 undef,a.getD 4 undef,a.getD 5 undef,a.getD 6 undef,a.getD 7 undef,a.getD 8 undef,a.getD 9 undef,a.getD 10 undef,a.getD 11 undef,a.getD 12 undef,a.getD 13 undef,a.getD 14 undef,a.getD 15 undef,a.getD 16 undef,a.getD 17 undef,a.getD 18 undef]:=by
 apply Array.ext
 ·simpa using h
 ·intro i h1 h2
  simp at h2
  have e:∀ j (hj:j < a.size),a.getD j undef=a[j]:=fun j hj=>by simp [Array.getD,hj]
  match i,h2 with
  |0,_|1,_|2,_|3,_|4,_|5,_|6,_|7,_|8,_|9,_|10,_|11,_|12,_|13,_|14,_|15,_|16,_|17,_|18,_=>exact (e _ h1).symm
  |n+19,h=>exact absurd h (by omega)
theorem res173 {tm:Array Value} {w:World} {b3 b4:Nat} {a:Option Addr} {l k:Nat} {x y:Int} {T3 T4:TypeId} (h3:w.heap[b3]?=some (.cells #[.slice a l k] T3 (0,0))) (h4:w.heap[b4]?=some (.cells #[.int .i64 x,.int .i64 y] T4 (0,0)))
  (e3:tm.getD 3 undef=.pointer (some ⟨b3,0,none⟩)) (e4:tm.getD 4 undef=.pointer (some ⟨b4,0,none⟩)) :
  (results Tryz.f173 tm).run Tryz.prog w=.ok (.tuple #[tm.getD 2 undef,.slice a l k,.agg #[.int .i64 x,.int .i64 y]]) w:=by
 have c3:w.cell? ⟨b3,0,none⟩=some (.slice a l k):=(cell_of_heap h3 0).trans rfl
 have c4:w.cell? ⟨b4,0,none⟩=some (.int .i64 x):=(cell_of_heap h4 0).trans rfl
 have c5:w.cell? ⟨b4,1,none⟩=some (.int .i64 y):=(cell_of_heap h4 1).trans rfl
 have e3':tm[3]?.getD undef=.pointer (some ⟨b3,0,none⟩):=by simpa using e3
 have e4':tm[4]?.getD undef=.pointer (some ⟨b4,0,none⟩):=by simpa using e4
 simp [results,Tryz.results173,e3',e4',go_sem,c3,c4,c5]
theorem froz {w:World} {b o:Nat} {cs:Array Value} {T:TypeId} (h:w.heap[b]?=some (.cells cs T (0,0))):w.frozen? ⟨b,o,none⟩=false:=by
 simp [World.frozen?,h]
theorem leave173 {tm:Array Value} {todo:List Item} {w w':World} {b3 b4:Nat} {u:FrameMode} {v:Value} (hu:u≠.run) (cs:List Frame)
  (hc:CallsD Tryz.prog 176 #[.pointer (some ⟨b3,0,none⟩),.pointer (some ⟨b4,0,none⟩)] u w fun e u' w1=>e=.returned (.tuple #[])∧settle u'=.returning∧w1=w')
  (hr:(results Tryz.f173 tm).run Tryz.prog w'=.ok v w') (c:Frame) :
  Steps Tryz.prog (lone { fr173.atR ⟨tm,[dfr b3 b4]⟩ todo with mode:=u } (c::cs) w) (lone (c.finish v) cs w'):=by
 have hL:Leaves Tryz.prog Tryz.f173 tm (fun e w1=>e=.returned v∧w1=w') [dfr b3 b4] u w:=by
  refine leaves_cons (f:=176) (args:=#[.pointer (some ⟨b3,0,none⟩),.pointer (some ⟨b4,0,none⟩)]) hu (by simp [dfr,go_sem]) ?_
  refine hc.mono ?_
  rintro e u' w1 ⟨rfl,hs,rfl⟩
  show Leaves _ _ _ _ [] (settle u') w1
  rw[hs]
  exact ⟨v,hr,rfl,rfl⟩
 obtain ⟨e,w1,fr',⟨rfl,rfl⟩,hs,_,hl⟩:=leaves_steps [dfr b3 b4] u w { fr173.atR ⟨tm,[dfr b3 b4]⟩ todo with mode:=u } (c::cs) rfl rfl rfl Tryz.func173 rfl hL
 exact Steps.trans hs (.one (step_leave_returned hl))
end Go.Proofs.YtkmnkiekmlcfdaaGreatDoor
end
