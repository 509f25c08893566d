/- Part C07 of the proof of one law of the program. -/
import Derived.Test.YtkmnkiekmlcfdaaGreatDoorC06
set_option linter.all false
section
section
namespace Go.Proofs.YtkmnkiekmlcfdaaGreatDoor
open Go.AM Go.RowKit
set_option maxRecDepth 100000
set_option maxHeartbeats 4000000
structure Two2 (w:World) (B0:Nat) (Ψ:HT) (ρ:List Nat) (ow:Own) (L:List AVal) (b3 b4:Nat) (a:Option Addr) (l k:Nat) (T3 T4:TypeId):Prop where
 r3:ρ[0]?=some b3
 r4:ρ[1]?=some b4
 ne:b3≠b4
 o3:ow b3=some (true,0,0)
 o4:ow b4=some (true,1,0)
 h3:w.heap[b3]?=some (.cells #[.slice a l k] T3 (0,0))
 h4:w.heap[b4]?=some (.cells #[.int .i64 0,.int .i64 0] T4 (0,0))
 rel:VRel Ψ [] (.slice L) (.slice a l k)
 f3:∀ o,Ψ b3 o=hno
 f4:∀ o,Ψ b4 o=hno
 g3:B0≤b3
 g4:B0≤b4
theorem two2 {w:World} {B0:Nat} {Ψ:HT} {ρ:List Nat} {ow:Own} {objs:List AObj} {L:List AVal} (h:OsRel w B0 Ψ ρ ow ans objs) (h0:objs[0]?=some (.box [.own 4 L])) (h1:objs[1]?=some zeroW) :
  ∃ b3 b4 a l k T3 T4,Two2 w B0 Ψ ρ ow L b3 b4 a l k T3 T4:=by
 obtain ⟨b3,r3,q3⟩:=h.2 0 _ h0;obtain ⟨b4,r4,q4⟩:=h.2 1 _ h1;unfold zeroW at q4;cases q3 with
 |box _ _ q3 =>
 cases q4 with
 |box _ _ q4 =>
 obtain ⟨vs,T3,e3,l3,c3⟩:=q3.heap;obtain ⟨us,T4,e4,l4,c4⟩:=q4.heap
 match vs,l3 with
 |[v],_ =>
 match us,l4 with
 |[u,u'],_ =>
 have x3:=c3 0 _ _ rfl rfl;have x4:=c4 0 _ _ rfl rfl;have x5:=c4 1 _ _ rfl rfl;cases x3 with
 |own _ _ _ x3 =>
 cases x4 with
 |val _ _ _ x4 =>
 cases x5 with
 |val _ _ _ x5 =>
 cases x4;cases x5;obtain ⟨a,l,k,rfl,_⟩:=x3.rest;refine ⟨b3,b4,a,l,k,T3,T4,r3,r4,fun e=>?_,q3.own,q4.own,e3,e4,x3.rel,q3.free,q4.free,q3.base,q4.base⟩
 have:=q3.own
 rw[e,q4.own] at this;cases this
theorem region_ok {B0:Nat} {cf:Oracle} {lp:LpOracle} {fid:FuncId} {id:Nat} {ops:Array Oper} {st st':St} (hcf:CfOK Tryz.prog ans B0 cf) (e:XK Tryz.prog ans cf lp fid (.region id ops false) st rec_=some (.norm,st')) {w:World} {Ψ:HT} {ρ:List Nat} {ow:Own} {tmps:Array Value} {ds:List Deferred} {b:Frame} {cs:List Frame} {items:List Item} (h:At Tryz.prog ans fid B0 w Ψ ρ ow st tmps) :
  ∃ w' Ψ' ρ' ow' tmps',At Tryz.prog ans fid B0 w' Ψ' ρ' ow' st' tmps'∧Fr w Ψ ow w' Ψ' ow'∧pre ρ ρ'∧StoLe st.sto st'.sto∧Steps Tryz.prog (lone (b.atR ⟨tmps,ds⟩ (.code (.region id ops false)::items)) cs w) (lone (b.atR ⟨tmps',ds⟩ items) cs w'):=by
 simp only[XK] at e;rw[opsK_range] at e;rcases opsS_ok (ds:=ds) (b:=b) (items:=items) (cs:=cs) hcf h.nr (rs:=⟨[],st.sto⟩) h.rel h.lo e with ⟨rs',w',Ψ',ρ',ow',tmps',a1,a2,a3,a4,a5,a6⟩|⟨x,rs',v,w',Ψ',ρ',ow',tmps',todo',a1,a2,a3,a4,a5,a6,a7⟩
 ·simp only[rec_,Option.some.injEq,Prod.mk.injEq,true_and] at a1
  subst a1;exact ⟨w',Ψ',ρ',ow',tmps',At.commit h.nr a2 (by rw[a5.lo];exact Nat.le_trans h.lo a5.len) rfl,a3,a4,a5,(Steps.one stepR_region).trans (a6.trans (.one stepR_region_end))⟩
 ·simp [rec_] at a1
theorem at_dead {B0:Nat} {fid:FuncId} {st:St} {w:World} {Ψ:HT} {ρ:List Nat} {ow:Own} {tmps:Array Value} (h:At Tryz.prog ans fid B0 w Ψ ρ ow st tmps) (d:Nat) (v:Value) (hd:d < (ans fid).nt) (hk:tlook (ans fid).keep st.tm d=.dead):At Tryz.prog ans fid B0 w Ψ ρ ow st (tmps.setIfInBounds d v):=by
 have hE:upd (sl (ans fid) st.tm ⟨[],st.sto⟩) d .dead=sl (ans fid) st.tm ⟨[],st.sto⟩:=by
  funext t;by_cases e:t=d
  ·subst e
   rw[upd_same];exact hk.symm
  ·rw[upd_other _ _ e]
 refine ⟨?_,h.nr,h.lo⟩
 have:=h.rel.write d .dead v hd (fun t o e=>absurd e (h.nr.tlook _ _ _ _)) (fun u o e=>by cases e) (fun cs e=>by cases e) Ψ.le_refl (pre_refl _) h.rel.wsat (fun t _ _=>Same.refl _ _ _ _ _) (.dead v) h.rel.objs h.rel.lt (Nat.le_refl _)
 rw[hE] at this;exact this
end Go.Proofs.YtkmnkiekmlcfdaaGreatDoor
end
section
namespace Go.Proofs.YtkmnkiekmlcfdaaGreatDoor
open Go.AM Go.RowKit
set_option maxRecDepth 100000
set_option maxHeartbeats 4000000
def dfr (b3 b4:Nat):Deferred:={ target:=.fn (.func 176) #[.pointer (some ⟨b3,0,none⟩),.pointer (some ⟨b4,0,none⟩)],args:=#[] }
def fr173:Frame:={ (default:Frame) with fn:=173,kind:=.normal,roundOf:=none }
theorem hdE (Ψ:HT) (ρ:List Nat) (i b:Nat) {v:Value} (h:VRel Ψ ρ (.loc i 0) v) (hb:ρ[i]?=some b):v=.pointer (some ⟨b,0,none⟩):=by
 cases h with
 |loc _ _ b' h=>rw[hb] at h;cases h;rfl
theorem pre173 (s:List UInt8) {w:World} {Ψ:HT} (hw:WSat Ψ w) (cs:List Frame):∃ w' Ψ' ρ' ow' tmps b3 b4,
  At Tryz.prog ans 173 w.heap.size w' Ψ' ρ' ow' ⟨[.val (.str s),.val (.loc 3 0),.val (.loc 0 0),.val (.loc 1 0),.dead,.val (.func 179 [.loc 4 0]),.dead],⟨[.box [.own 4 []],zeroW,.map wordM,.box [.val (.str s),.val (.int .i64 0),.val (.amap 2),.own 2 []],.box [.val (.loc 3 0)]],0⟩⟩ tmps ∧
  Fr w Ψ (fun _=>none) w' Ψ' ow'∧ρ'[0]?=some b3∧ρ'[1]?=some b4 ∧
  Steps Tryz.prog (lone (Frame.enter Tryz.prog 173 #[.string ⟨⟨s⟩⟩] .normal) cs w) (lone (fr173.atR ⟨tmps,[dfr b3 b4]⟩ [.code (.block 0 q4),.code q5]) cs w'):=by
 have hcf:=cfW_ok (envL w.heap.size)
 have hA0:=enter_at (P:=Tryz.prog) (ans:=ans) (f:=173) (callPre0 (ans:=ans) hw (args:=[.val (.str s)]) (vs:=#[.string ⟨⟨s⟩⟩]) rfl (fun x hx=>by rw[List.mem_singleton.1 hx];rfl) (fun i x hx=>by
  cases i with
  |zero=>cases hx;exact .val _ _ (.str _)
  |succ i=>simp at hx)) (by rw[an173];show 1≤19;omega)
 have htm:((ans 173).keep.map fun t=>(([.val (.str s)]:List Slot)[t]?).getD .dead)=[.val (.str s),.dead,.dead,.dead,.dead,.dead,.dead]:=by rw[an173];rfl
 rw[htm] at hA0
 have henter:Frame.enter Tryz.prog 173 #[.string ⟨⟨s⟩⟩] .normal=fr173.atR ⟨#[.string ⟨⟨s⟩⟩]++Array.replicate ((ans 173).nt - (#[.string ⟨⟨s⟩⟩]:Array Value).size) undef,[]⟩ [.code (.seq q0 (.seq q1 (.seq q2 (.seq (.seq q3 (.block 0 q4)) q5))))]:=by
  have e1:(ans 173).nt=19:=by rw[an173]
  rw[e1];simp only[Frame.enter,Tryz.func173,Option.bind_some,b173E,Tryz.ntmps173,Frame.atR,fr173];rfl
 obtain ⟨w0,Ψ0,ρ0,ow0,tm0,A0,F0,p0,_,S0⟩:=region_ok (ds:=[]) (b:=fr173) (cs:=cs) (items:=[.code (.seq q1 (.seq q2 (.seq (.seq q3 (.block 0 q4)) q5)))]) hcf (h0 s) hA0;obtain ⟨w1,Ψ1,ρ1,ow1,tm1,A1,F1,p1,_,S1⟩:=region_ok (ds:=[]) (b:=fr173) (cs:=cs) (items:=[.code (.seq q2 (.seq (.seq q3 (.block 0 q4)) q5))]) hcf (h1 s) A0;have hsz:tm1.size=19:=by have:=A1.rel.size;rw[an173] at this;exact this
 have loc:∀ (t i:Nat),sl (ans 173) [.val (.str s),.val (.loc 3 0),.val (.loc 0 0),.val (.loc 1 0),.dead,.dead,.dead] ⟨[],⟨[.box [.own 4 []],zeroW,.map wordM,.box [.val (.str s),.val (.int .i64 0),.val (.amap 2),.own 2 []]],0⟩⟩ t=.val (.loc i 0)→∀ b,ρ1[i]?=some b→tm1.getD t undef=.pointer (some ⟨b,0,none⟩):=fun t i e b hb=>by
  have:=A1.rel.slots t
  rw[e] at this;cases this with
  |val _ _ h=>exact hdE _ _ _ _ h hb
 obtain ⟨b3,r3,_⟩:=A1.rel.objs.2 0 _ rfl;obtain ⟨b4,r4,_⟩:=A1.rel.objs.2 1 _ rfl;have v3:=loc 3 0 (by rw[an173];rfl) b3 r3;have v4:=loc 4 1 (by rw[an173];rfl) b4 r4;obtain ⟨e2,a2,w2,⟨rfl,rfl,ht,hd⟩,S2⟩:=r2_wp tm1 hsz w1 fr173 [.code (.seq (.seq q3 (.block 0 q4)) q5)] cs;rw[v3,v4] at ht hd;have A2:=at_dead A1 8 (.func (.func 176) #[] #[.pointer (some ⟨b3,0,none⟩),.pointer (some ⟨b4,0,none⟩)]) (by rw[an173];show 8 < 19;omega) (by rw[an173];rfl);obtain ⟨w3,Ψ3,ρ3,ow3,tm3,A3,F3,p3,_,S3⟩:=region_ok (ds:=[dfr b3 b4]) (b:=fr173) (cs:=cs) (items:=[.code (.block 0 q4),.code q5]) hcf (h3 s) A2;refine ⟨w3,Ψ3,ρ3,ow3,tm3,b3,b4,A3,(F0.trans F1).trans F3,p3 0 b3 r3,p3 1 b4 r4,?_⟩;rw[henter];obtain ⟨t2,d2⟩:=a2;simp only at ht hd;subst ht hd;have S2':Steps Tryz.prog (lone (fr173.atR ⟨tm1,[]⟩ [.code q2,.code (.seq (.seq q3 (.block 0 q4)) q5)]) cs w2) (lone (fr173.atR ⟨tm1.setIfInBounds 8 (.func (.func 176) #[] #[.pointer (some ⟨b3,0,none⟩),.pointer (some ⟨b4,0,none⟩)]),[dfr b3 b4]⟩ [.code (.seq (.seq q3 (.block 0 q4)) q5)]) cs w2):=S2;refine (Steps.one stepR_seq).trans (S0.trans ((Steps.one stepR_seq).trans (S1.trans ((Steps.one stepR_seq).trans (S2'.trans ((Steps.one stepR_seq).trans ((Steps.one stepR_seq).trans S3)))))))
end Go.Proofs.YtkmnkiekmlcfdaaGreatDoor
end
section
namespace Go.Proofs.YtkmnkiekmlcfdaaGreatDoor
open Go.AM Go.RowKit
set_option maxRecDepth 100000
set_option maxHeartbeats 4000000
theorem arr19 (a:Array Value) (h:a.size=19):a=#[a.getD 0 undef,a.getD 1 undef,a.getD 2 undef,a.getD 3 undef,a.getD 4 undef,a.getD 5 undef,a.getD 6 undef,a.getD 7 undef,a.getD 8 undef,a.getD 9 undef,a.getD 10 undef,a.getD 11 undef,a.getD 12 undef,a.getD 13 undef,a.getD 14 undef,a.getD 15 undef,a.getD 16 undef,a.getD 17 undef,a.getD 18 undef]:=by
 apply Array.ext
 ·simpa using h
 ·intro i h1 h2
  simp at h2;have e:∀ j (hj:j < a.size),a.getD j undef=a[j]:=fun j hj=>by simp [Array.getD,hj]
  match i,h2 with
  |0,_|1,_|2,_|3,_|4,_|5,_|6,_|7,_|8,_|9,_|10,_|11,_|12,_|13,_|14,_|15,_|16,_|17,_|18,_=>exact (e _ h1).symm
  |n+19,h=>exact absurd h (by omega)
theorem res173 {tm:Array Value} {w:World} {b3 b4:Nat} {a:Option Addr} {l k:Nat} {x y:Int} {T3 T4:TypeId} (h3:w.heap[b3]?=some (.cells #[.slice a l k] T3 (0,0))) (h4:w.heap[b4]?=some (.cells #[.int .i64 x,.int .i64 y] T4 (0,0)))
  (e3:tm.getD 3 undef=.pointer (some ⟨b3,0,none⟩)) (e4:tm.getD 4 undef=.pointer (some ⟨b4,0,none⟩)) :
  (results Tryz.f173 tm).run Tryz.prog w=.ok (.tuple #[tm.getD 2 undef,.slice a l k,.agg #[.int .i64 x,.int .i64 y]]) w:=by
 have c3:w.cell? ⟨b3,0,none⟩=some (.slice a l k):=(cell_of_heap h3 0).trans rfl;have c4:w.cell? ⟨b4,0,none⟩=some (.int .i64 x):=(cell_of_heap h4 0).trans rfl;have c5:w.cell? ⟨b4,1,none⟩=some (.int .i64 y):=(cell_of_heap h4 1).trans rfl;have e3':tm[3]?.getD undef=.pointer (some ⟨b3,0,none⟩):=by simpa using e3
 have e4':tm[4]?.getD undef=.pointer (some ⟨b4,0,none⟩):=by simpa using e4
 simp [results,Tryz.results173,e3',e4',go_sem,c3,c4,c5]
theorem froz {w:World} {b o:Nat} {cs:Array Value} {T:TypeId} (h:w.heap[b]?=some (.cells cs T (0,0))):w.frozen? ⟨b,o,none⟩=false:=by
 simp [World.frozen?,h]
theorem leave173 {tm:Array Value} {todo:List Item} {w w':World} {b3 b4:Nat} {u:FrameMode} {v:Value} (hu:u≠.run) (cs:List Frame)
  (hc:CallsD Tryz.prog 176 #[.pointer (some ⟨b3,0,none⟩),.pointer (some ⟨b4,0,none⟩)] u w fun e u' w1=>e=.returned (.tuple #[])∧settle u'=.returning∧w1=w')
  (hr:(results Tryz.f173 tm).run Tryz.prog w'=.ok v w') (c:Frame) :
  Steps Tryz.prog (lone { fr173.atR ⟨tm,[dfr b3 b4]⟩ todo with mode:=u } (c::cs) w) (lone (c.finish v) cs w'):=by
 have hL:Leaves Tryz.prog Tryz.f173 tm (fun e w1=>e=.returned v∧w1=w') [dfr b3 b4] u w:=by
  refine leaves_cons (f:=176) (args:=#[.pointer (some ⟨b3,0,none⟩),.pointer (some ⟨b4,0,none⟩)]) hu (by simp [dfr,go_sem]) ?_;refine hc.mono ?_
  rintro e u' w1 ⟨rfl,hs,rfl⟩
  show Leaves _ _ _ _ [] (settle u') w1;rw[hs];exact ⟨v,hr,rfl,rfl⟩
 obtain ⟨e,w1,fr',⟨rfl,rfl⟩,hs,_,hl⟩:=leaves_steps [dfr b3 b4] u w { fr173.atR ⟨tm,[dfr b3 b4]⟩ todo with mode:=u } (c::cs) rfl rfl rfl Tryz.func173 rfl hL;exact Steps.trans hs (.one (step_leave_returned hl))
end Go.Proofs.YtkmnkiekmlcfdaaGreatDoor
end
end
section
section
namespace Go.Proofs.YtkmnkiekmlcfdaaGreatDoor
open Go.AM Go.RowKit
set_option maxRecDepth 100000
set_option maxHeartbeats 4000000
def frD (b3 b4:Nat):Frame:={ fr173 with defers:=[dfr b3 b4] }
theorem good173 (s:List UInt8) (at_:Nat) (X L:List AVal) (h4:XK Tryz.prog ans CL LL 173 q4 ⟨[.val (.str s),.val (.loc 3 0),.val (.loc 0 0),.val (.loc 1 0),.dead,.val (.func 179 [.loc 4 0]),.dead],⟨[.box [.own 4 []],zeroW,.map wordM,.box [.val (.str s),.val (.int .i64 0),.val (.amap 2),.own 2 []],.box [.val (.loc 3 0)]],0⟩⟩ rec_ =
   some (.norm,⟨[.val (.str s),.val (.loc 3 0),.val (.loc 0 0),.val (.loc 1 0),.dead,.val (.func 179 [.loc 4 0]),.dead],⟨[.box [.own 4 L],zeroW,.map wordM,.box [.val (.str s),.val (.int .i64 (at_:Nat)),.val (.amap 2),.own 2 X],.box [.val (.loc 3 0)]],0⟩⟩)) :
  PureT Tryz.prog 173 [.str s] [.cptr (.agg []),.slice L,.agg [.int .i64 0,.int .i64 0]]:=by
 refine ⟨⟨_,Tryz.func173,by kernel_rfl⟩,fun w Ψ vs hw hl ha c cs=>?_⟩;have ha0:=ha 0 _ rfl;have hvs:=vs1 hl rfl;generalize vs.getD 0 undef=v0 at ha0 hvs;subst hvs;cases ha0;obtain ⟨w3,Ψ3,ρ3,ow3,tm3,b3,b4,A3,F3,r3,r4,S3⟩:=pre173 s hw (c::cs);have hcf:=cfW_ok (envL w.heap.size);have hlp:=lpW_ok (envL w.heap.size);have hdr:DrawnOK Tryz.prog ans CL:=(envL w.heap.size).drawn _ cfW_prim;obtain ⟨ex,st',hk,w4,Ψ4,ρ4,ow4,tm4,ds4,A4,M4,F4,p4,_,S4⟩:=XK_ok hcf hlp hdr q4 (b:=frD b3 b4) (cs:=c::cs) (items:=[.inBlock 0,.code q5]) (fid:=173) (B1:=w.heap.size) rfl (.inl rfl) A3 ⟨[],rfl,.nil _ _ _⟩ F3.size h4;simp only[rec_,Option.some.injEq,Prod.mk.injEq] at hk;obtain ⟨rfl,rfl⟩:=hk;have A4:At Tryz.prog ans 173 w.heap.size w4 Ψ4 ρ4 ow4 _ tm4:=A4;have S4:Steps Tryz.prog _ _:=S4;obtain ⟨c3,c4,a,l,k,T3,T4,T⟩:=two2 A4.rel.objs rfl rfl;have q3':c3=b3:=Option.some.inj (T.r3.symm.trans (p4 0 b3 r3));have q4':c4=b4:=Option.some.inj (T.r4.symm.trans (p4 1 b4 r4));subst q3' q4';have hsz:tm4.size=19:=by have:=A4.rel.size;rw[an173] at this;exact this
 have sl2:=A4.rel.slots 2;have sl3:=A4.rel.slots 3;have sl4:=A4.rel.slots 4;rw[an173] at sl2 sl3 sl4
 have v3:tm4.getD 3 undef=.pointer (some ⟨c3,0,none⟩):=by
  cases sl3 with
  |val _ _ h=>exact hdE _ _ _ _ h T.r3
 have v4:tm4.getD 4 undef=.pointer (some ⟨c4,0,none⟩):=by
  cases sl4 with
  |val _ _ h=>exact hdE _ _ _ _ h T.r4
 have v2:∃ b,tm4.getD 2 undef=.pointer (some ⟨b,0,none⟩):=by
  generalize tm4.getD 2 undef=u at sl2;cases sl2 with
  |val _ _ h =>
   cases h with
   |loc _ _ b h=>exact ⟨b,rfl⟩
 have e19:=arr19 tm4 hsz;rw[v3,v4] at e19;have hr:=r6_wp (tm4.getD 0 undef) (tm4.getD 1 undef) (tm4.getD 2 undef) (tm4.getD 5 undef) (tm4.getD 6 undef) (tm4.getD 7 undef) (tm4.getD 8 undef) (tm4.getD 9 undef) (tm4.getD 10 undef) (tm4.getD 11 undef) (tm4.getD 12 undef) (tm4.getD 13 undef) (tm4.getD 14 undef) (tm4.getD 15 undef) (tm4.getD 16 undef) (tm4.getD 17 undef) (tm4.getD 18 undef) c3 c4 a l k 0 0 T3 T4 (0,0) (0,0) ds4 w4 T.ne T.h3 T.h4 (froz T.h3) (froz T.h4) (froz T.h4);rw[←e19] at hr;obtain ⟨e,a5,w5,⟨rfl,hh,ho,ht,hout,g2,g3,g4,hds⟩,todo,S5⟩:=hr (frD c3 c4) [] (c::cs);have F5:Fr w4 Ψ4 ow4 w5 Ψ4 ow4:=Fr.heap hh ho ht hout;obtain ⟨w6,S6,k1,k2,k3,k4,k5⟩:=marks_pop (P:=Tryz.prog) (cs:=c::cs) (fr:={ (frD c3 c4).at a5 todo with mode:=.returning }) (M4.mono F5) (by simp) hds;have hb3:=(k2 c3 (.inr (.inl (by rw[T.o3];simp)))).trans ((by rw[hh]:w5.heap[c3]?=w4.heap[c3]?).trans T.h3);have hb4:=(k2 c4 (.inr (.inl (by rw[T.o4];simp)))).trans ((by rw[hh]:w5.heap[c4]?=w4.heap[c4]?).trans T.h4);have F6:=((F3.trans F4).trans F5).kept (w':=w6) (Nat.le_refl _) k1 k2 k3 k4 k5;have R6:=((A4.rest).kept (w':=w5) (B1:=w.heap.size) (by rw[hh]) (fun x _=>by rw[hh])).kept k1 k2;obtain ⟨b2,v2⟩:=v2;have L6:=leave173 (tm:=a5.tmps) (todo:=todo) (u:=.returning) (by simp) cs ((catch_idle (.pointer (some ⟨c3,0,none⟩)) (.pointer (some ⟨c4,0,none⟩)) w6).mono fun e u' w1 ⟨h1,h2,h3⟩=>⟨h1,by rw[h2];rfl,h3⟩) (res173 hb3 hb4 g3 g4) c;rw[g2,v2] at L6;refine ⟨w6,Ψ4,[.pointer (some ⟨b2,0,none⟩),.slice a l k,.agg ⟨[.int .i64 0,.int .i64 0]⟩],⟨F6.le,F6.size,F6.keep,fun b hb=>absurd rfl hb,F6.os,F6.tape,F6.output⟩,R6.wsat,rfl,fun i x u h1 h2=>?_,?_⟩
 ·match i with
  |0=>cases h1;cases h2;exact .cptr _ _ _ fun j c h=>by simp [AVal.cells] at h
  |1=>cases h1;cases h2;exact T.rel
  |2=>cases h1;cases h2;exact .agg _ _ rfl (fun i c h=>by
    match i with
    |0=>cases h;rfl
    |1=>cases h;rfl
    |i+2=>cases h) (fun i c v h1 h2=>by
    match i with
    |0=>cases h1;cases h2;exact .int _ _
    |1=>cases h1;cases h2;exact .int _ _
    |i+2=>cases h1)
  |i+3=>cases h1
 ·refine S3.trans ((Steps.one stepR_block).trans (S4.trans ((Steps.one stepR_inBlock).trans (S5.trans (S6.trans L6)))))
end Go.Proofs.YtkmnkiekmlcfdaaGreatDoor
end
section
namespace Go.Proofs.YtkmnkiekmlcfdaaGreatDoor
open Go.AM Go.RowKit
set_option maxRecDepth 100000
set_option maxHeartbeats 4000000
theorem setCell_off {w:World} {b o x:Nat} {v:Value} (h:x≠b):(w.setCell ⟨b,o,none⟩ v).heap[x]?=w.heap[x]?:=by
 simp only[World.setCell,Array.getElem?_modify];rw[if_neg (fun e=>h e.symm)]
theorem setCell_on {w:World} {b o:Nat} {v:Value} {cs:Array Value} {T:TypeId} {fr:Nat×Nat} (h:w.heap[b]?=some (.cells cs T fr)):(w.setCell ⟨b,o,none⟩ v).heap[b]?=some (.cells (cs.setIfInBounds o v) T fr):=by
 simp only[World.setCell,Array.getElem?_modify,if_true,h,Option.map_some,Option.isSome_none,Bool.false_eq_true,if_false]
theorem wsat_same {w w':World} {Ψ:HT} (h:WSat Ψ w) (hk:∀ x o c,Ψ x o c→w'.heap[x]?=w.heap[x]?):WSat Ψ w':=⟨h.glob,by
 obtain ⟨cs,t,fr,h1,h2⟩:=h.len5;exact ⟨cs,t,fr,(hk 5 _ _ (h.glob.pow 0 (by omega))).trans h1,h2⟩,fun b o c e=>by
 obtain ⟨h1,v,h2,h3⟩:=h.sat b o c e;exact ⟨h1,v,(cell_congr (hk b o c e) o).trans h2,h3⟩⟩
theorem pan173 (s:List UInt8) (at_:Nat) (X L:List AVal) (a e:Int) (h4:XK Tryz.prog ans CL LL 173 q4 ⟨[.val (.str s),.val (.loc 3 0),.val (.loc 0 0),.val (.loc 1 0),.dead,.val (.func 179 [.loc 4 0]),.dead],⟨[.box [.own 4 []],zeroW,.map wordM,.box [.val (.str s),.val (.int .i64 0),.val (.amap 2),.own 2 []],.box [.val (.loc 3 0)]],0⟩⟩ rec_ =
   some (.pan (wrongE a e),⟨[.val (.str s),.val (.loc 3 0),.val (.loc 0 0),.val (.loc 1 0),.dead,.val (.func 179 [.loc 4 0]),.dead],stS s L at_ X⟩)) :
  PureT Tryz.prog 173 [.str s] [.cptr (.agg []),.slice [],.agg [.int .i64 a,.int .i64 e]]:=by
 refine ⟨⟨_,Tryz.func173,by kernel_rfl⟩,fun w Ψ vs hw hl ha c cs=>?_⟩;have ha0:=ha 0 _ rfl;have hvs:=vs1 hl rfl;generalize vs.getD 0 undef=v0 at ha0 hvs;subst hvs;cases ha0;obtain ⟨w3,Ψ3,ρ3,ow3,tm3,b3,b4,A3,F3,r3,r4,S3⟩:=pre173 s hw (c::cs);have hcf:=cfW_ok (envL w.heap.size);obtain ⟨ex,st',hk,_,hpan⟩:=rangeFunc_okP hcf (b:=frD b3 b4) (cs:=c::cs) (items:=[.inBlock 0,.code q5]) (fid:=173) (B1:=w.heap.size) rfl rfl A3 ⟨[],rfl,.nil _ _ _⟩ F3.size h4;simp only[rec_,Option.some.injEq,Prod.mk.injEq] at hk;obtain ⟨rfl,rfl⟩:=hk;obtain ⟨sto',s0,w4,Ψ4,ρ4,ow4,ds4,hst,R4,M4,F4,p4,_,v,k,hv,S4⟩:=hpan _ rfl;have hso:sto'=stS s L at_ X:=by cases hst;rfl
 subst hso;obtain ⟨c3,c4,aa,l,kk,T3,T4,T⟩:=two2 (L:=L) R4.objs rfl rfl;have q3':c3=b3:=Option.some.inj (T.r3.symm.trans (p4 0 b3 r3));have q4':c4=b4:=Option.some.inj (T.r4.symm.trans (p4 1 b4 r4));subst q3' q4';have sl2:=R4.slots 2;have sl3:=R4.slots 3;have sl4:=R4.slots 4;rw[an173] at sl2 sl3 sl4
 have v3:tm3.getD 3 undef=.pointer (some ⟨c3,0,none⟩):=by
  cases sl3 with
  |val _ _ h=>exact hdE _ _ _ _ h T.r3
 have v4:tm3.getD 4 undef=.pointer (some ⟨c4,0,none⟩):=by
  cases sl4 with
  |val _ _ h=>exact hdE _ _ _ _ h T.r4
 have v2:∃ b,tm3.getD 2 undef=.pointer (some ⟨b,0,none⟩):=by
  generalize tm3.getD 2 undef=u at sl2;cases sl2 with
  |val _ _ h =>
   cases h with
   |loc _ _ b h=>exact ⟨b,rfl⟩
 have hve:v=.iface 193 (.agg #[.int .i64 a,.int .i64 e]):=by
  unfold wrongE at hv;cases hv with
  |iface _ _ v h =>
  cases h with
  |agg _ vs hl _ hx =>
  match vs,hl with
  |[u,u'],_ =>
  have x0:=hx 0 _ _ rfl rfl;have x1:=hx 1 _ _ rfl rfl;cases x0;cases x1;rfl
 subst hve;obtain ⟨w6,S6,k1,k2,k3,k4,k5⟩:=marks_pop (P:=Tryz.prog) (cs:=c::cs) (fr:={ (frD c3 c4).atR ⟨tm3,ds4⟩ k with mode:=.panicking [{ v:=.iface 193 (.agg #[.int .i64 a,.int .i64 e]),recovered:=false }] }) M4 (by simp) rfl;have hb3:=(k2 c3 (.inr (.inl (by rw[T.o3];simp)))).trans T.h3;have hb4:=(k2 c4 (.inr (.inl (by rw[T.o4];simp)))).trans T.h4;have F6:=(F3.trans F4).kept (w':=w6) (Nat.le_refl _) k1 k2 k3 k4 k5;have R6:AM.Rest ans w.heap.size w6 Ψ4 ρ4 ow4 _:=AM.Rest.kept ⟨R4.wsat,R4.objs,R4.lt⟩ k1 k2;obtain ⟨b2,v2⟩:=v2;have hlt3:=(Array.getElem?_eq_some_iff.1 hb3).1;have hlt4:=(Array.getElem?_eq_some_iff.1 hb4).1;obtain ⟨w7,hw7⟩:∃ w7,w7=(((((w6.alloc (.cells #[.int .i64 a,.int .i64 e] 193 (0,0))).drew).setCell ⟨c3,0,none⟩ (.slice none 0 0)).setCell ⟨c4,0,none⟩ (.int .i64 a)).setCell ⟨c4,1,none⟩ (.int .i64 e)):=⟨_,rfl⟩
 have hA:∀ x,x < w6.heap.size→(w6.alloc (.cells #[.int .i64 a,.int .i64 e] 193 (0,0))).drew.heap[x]?=w6.heap[x]?:=fun x hx=>AM.heap_alloc_old _ hx
 have hoff:∀ x,x < w6.heap.size→x≠c3→x≠c4→w7.heap[x]?=w6.heap[x]?:=fun x hx h3 h4=>by
  rw[hw7,setCell_off h4,setCell_off h4,setCell_off h3,hA x hx]
 have hh3:w7.heap[c3]?=some (.cells #[.slice none 0 0] T3 (0,0)):=by
  rw[hw7,setCell_off T.ne,setCell_off T.ne,setCell_on ((hA c3 hlt3).trans hb3)];rfl
 have hh4:w7.heap[c4]?=some (.cells #[.int .i64 a,.int .i64 e] T4 (0,0)):=by
  rw[hw7,setCell_on (setCell_on (((setCell_off T.ne.symm).trans (hA c4 hlt4)).trans hb4))];rfl
 have hsz:w6.heap.size≤w7.heap.size:=by
  rw[hw7,World.size_setCell,World.size_setCell,World.size_setCell];show _≤(w6.alloc _).heap.size;rw[World.size_alloc];omega
 have L6:=leave173 (tm:=tm3) (todo:=k) (u:=.panicking [{ v:=.iface 193 (.agg #[.int .i64 a,.int .i64 e]),recovered:=false }]) (by simp) cs ((catch_panicking c3 c4 aa l kk 0 0 a e T3 T4 (0,0) (0,0) w6 T.ne hb3 hb4 (froz hb3) (froz hb4) (froz hb4)).mono fun e u' w1 ⟨h1,h2,h3⟩=>⟨h1,by rw[h2];rfl,h3.trans hw7.symm⟩) (res173 hh3 hh4 v3 v4) c;rw[v2] at L6;refine ⟨w7,Ψ4,[.pointer (some ⟨b2,0,none⟩),.slice none 0 0,.agg ⟨[.int .i64 a,.int .i64 e]⟩],⟨F6.le,Nat.le_trans F6.size hsz,fun b hb ho=>?_,fun b hb=>absurd rfl hb,?_,?_,?_⟩,wsat_same R6.wsat fun x o c hx=>?_,rfl,fun i x u h1 h2=>?_,?_⟩
 ·have:=F6.keep b hb ho
  refine ⟨(hoff b (by have:=F6.size;omega) (fun e=>?_) (fun e=>?_)).trans this.1,this.2⟩
  ·have:=T.g3;omega
  ·have:=T.g4;omega
 ·rw[←F6.os,hw7];rfl
 ·rw[←F6.tape,hw7];rfl
 ·rw[←F6.output,hw7];rfl
 ·refine hoff x (R6.wsat.lt hx) (fun e=>?_) (fun e=>?_)
  ·rw[e,T.f3] at hx;exact hx
  ·rw[e,T.f4] at hx;exact hx
 ·match i with
  |0=>cases h1;cases h2;exact .cptr _ _ _ fun j c h=>by simp [AVal.cells] at h
  |1=>cases h1;cases h2;exact .slice [] none 0 0 0 rfl (Nat.le_refl _) (fun i x e=>by simp at e)
  |2=>cases h1;cases h2;exact .agg _ _ rfl (fun i c h=>by
    match i with
    |0=>cases h;rfl
    |1=>cases h;rfl
    |i+2=>cases h) (fun i c v h1 h2=>by
    match i with
    |0=>cases h1;cases h2;exact .int _ _
    |1=>cases h1;cases h2;exact .int _ _
    |i+2=>cases h1)
  |i+3=>cases h1
 ·exact S3.trans ((Steps.one stepR_block).trans (S4.trans (S6.trans L6)))
end Go.Proofs.YtkmnkiekmlcfdaaGreatDoor
end
end
section
namespace Go.Proofs.YtkmnkiekmlcfdaaGreatDoor
open Go.AM
section
open Go.AM
set_option maxRecDepth 100000
set_option maxHeartbeats 4000000
def prK (s0:List UInt8) (L:List AVal) (a e:Int):Prims:=fun f args =>
 bif Nat.beq f 173 then (match args with
  |[.val (.str s)]=>bif s==s0 then some (some (.ret (.tup [.cptr (.agg []),.slice L,.agg [.int .i64 a,.int .i64 e]]))) else some none
  |_=>some none)
 else none
theorem envK {s0:List UInt8} {L:List AVal} {a e:Int} (h0:PureT Tryz.prog 173 [.str s0] [.cptr (.agg []),.slice L,.agg [.int .i64 a,.int .i64 e]]) (B0:Nat):Env Tryz.prog ans B0 (prK s0 L a e):=mkEnv fun f args res h=>by
 unfold prK at h;cases h1:Nat.beq f 173 with
 |true =>
  obtain rfl:=Nat.eq_of_beq_eq_true h1;simp only[h1,cond_true] at h
  split at h
  ·rename_i s
   cases hs:s==s0 with
   |false=>rw[hs] at h;cases h
   |true =>
    rw[hs] at h;cases h;obtain rfl:s=s0:=by simpa using hs
    exact h0.prim (by simp [lok,lokF])
  ·cases h
 |false=>rw[h1] at h;cases h
theorem pure_at {s:List UInt8} {k:Int} {pr:Prims} (E:∀ B0,Env Tryz.prog ans B0 pr) (h:bodyStep Tryz.prog ans (cfW Tryz.prog ans pr) (lpW Tryz.prog ans pr) 163 [.val (.str s)] ⟨[],0⟩=some (.ret (.val (.int .i64 k)),⟨[],0⟩)):PureOK Tryz.prog 163 [.str s] (.int .i64 k):=PureOK.ofBody E h
theorem k173 {s:List UInt8} {L:List AVal} {a e:Int} {sto:Sto}:cfW Tryz.prog ans (prK s L a e) (.fn 173) [.val (.str s)] sto=some (.ret (.tup [.cptr (.agg []),.slice L,.agg [.int .i64 a,.int .i64 e]]),sto):=by
 refine fnP (r:=.ret (.tup [.cptr (.agg []),.slice L,.agg [.int .i64 a,.int .i64 e]])) ?_ rfl;simp only[prK,show Nat.beq 173 173=true from rfl,beq_self_eq_true,cond_true]
theorem b163_long (pr:Prims) (s:List UInt8) (h:24 < s.length):bodyStep Tryz.prog ans (cfW Tryz.prog ans pr) (lpW Tryz.prog ans pr) 163 [.val (.str s)] ⟨[],0⟩=some (.ret (.val (.int .i64 0)),⟨[],0⟩):=by
 have hz:decide ((s.length:Int) > 24)=true:=decide_eq_true (by omega);apply tBody;exact Tryz.func163;rfl;rfl;simp only[go_sem];rfl;refine tQ ?_;repeat first|with_reducible constructor|(with_reducible apply tG);kernel_rfl;intro _ _;(repeat apply tOp;intro _;simp only[hz,go_sem];rfl);rfl;simp only[go_sem];rfl|(with_reducible apply t1);rfl;trivial
 exact fin0 rfl
theorem b163_tok (a:Int) (pr:Prims) (s:List UInt8) (h:s.length≤24) (kind num:Int) (p:Nat) (hk:∀ sto,cfW Tryz.prog ans pr (.fn 173) [.val (.str s)] sto=some (.ret (.tup [.cptr (.agg []),.slice [.agg [.int .i64 kind,.int .i64 num,.str s,.int .i64 (p:Nat)]],.agg [.int .i64 a,.int .i64 0]]),sto)):bodyStep Tryz.prog ans (cfW Tryz.prog ans pr) (lpW Tryz.prog ans pr) 163 [.val (.str s)] ⟨[],0⟩=some (.ret (.val (.int .i64 kind)),⟨[],0⟩):=by
 have hz:decide ((s.length:Int) > 24)=false:=decide_eq_false (by omega);apply tBody;exact Tryz.func163;rfl;rfl;simp only[go_sem];rfl;refine tQ ?_;repeat first|with_reducible constructor|(with_reducible apply tG);kernel_rfl;intro _ _;(repeat apply tOp;intro _;simp only[hz,hk,beq_self_eq_true,go_sem];rfl);rfl;simp only[go_sem];rfl|(with_reducible apply t0);rfl;trivial
 exact fin0 rfl
theorem b163_txt (a:Int) (pr:Prims) (s:List UInt8) (h:s.length≤24) (kind num:Int) (p:Nat) (txt:List UInt8) (hb:(txt==s)=false) (hk:∀ sto,cfW Tryz.prog ans pr (.fn 173) [.val (.str s)] sto=some (.ret (.tup [.cptr (.agg []),.slice [.agg [.int .i64 kind,.int .i64 num,.str txt,.int .i64 (p:Nat)]],.agg [.int .i64 a,.int .i64 0]]),sto)):bodyStep Tryz.prog ans (cfW Tryz.prog ans pr) (lpW Tryz.prog ans pr) 163 [.val (.str s)] ⟨[],0⟩=some (.ret (.val (.int .i64 0)),⟨[],0⟩):=by
 have hz:decide ((s.length:Int) > 24)=false:=decide_eq_false (by omega);apply tBody;exact Tryz.func163;rfl;rfl;simp only[go_sem];rfl;refine tQ ?_;repeat first|with_reducible constructor|(with_reducible apply tG);kernel_rfl;intro _ _;(repeat apply tOp;intro _;simp only[hz,hk,hb,go_sem];rfl);rfl;simp only[go_sem];rfl|(with_reducible apply t1);rfl;trivial|(with_reducible apply t0);rfl;trivial
 exact fin0 rfl
theorem b163_len (a:Int) (pr:Prims) (s:List UInt8) (h:s.length≤24) (L:List AVal) (h2:((L.length:Int) != 1)=true) (hk:∀ sto,cfW Tryz.prog ans pr (.fn 173) [.val (.str s)] sto=some (.ret (.tup [.cptr (.agg []),.slice L,.agg [.int .i64 a,.int .i64 0]]),sto)):bodyStep Tryz.prog ans (cfW Tryz.prog ans pr) (lpW Tryz.prog ans pr) 163 [.val (.str s)] ⟨[],0⟩=some (.ret (.val (.int .i64 0)),⟨[],0⟩):=by
 have hz:decide ((s.length:Int) > 24)=false:=decide_eq_false (by omega);apply tBody;exact Tryz.func163;rfl;rfl;simp only[go_sem];rfl;refine tQ ?_;repeat first|with_reducible constructor|(with_reducible apply tG);kernel_rfl;intro _ _;(repeat apply tOp;intro _;simp only[hz,hk,h2,go_sem];rfl);rfl;simp only[go_sem];rfl|(with_reducible apply t1);rfl;trivial|(with_reducible apply t0);rfl;trivial
 exact fin0 rfl
theorem b163_err (pr:Prims) (s:List UInt8) (h:s.length≤24) (L:List AVal) (a e:Int) (h2:(e != 0)=true) (hk:∀ sto,cfW Tryz.prog ans pr (.fn 173) [.val (.str s)] sto=some (.ret (.tup [.cptr (.agg []),.slice L,.agg [.int .i64 a,.int .i64 e]]),sto)):bodyStep Tryz.prog ans (cfW Tryz.prog ans pr) (lpW Tryz.prog ans pr) 163 [.val (.str s)] ⟨[],0⟩=some (.ret (.val (.int .i64 0)),⟨[],0⟩):=by
 have hz:decide ((s.length:Int) > 24)=false:=decide_eq_false (by omega);apply tBody;exact Tryz.func163;rfl;rfl;simp only[go_sem];rfl;refine tQ ?_;repeat first|with_reducible constructor|(with_reducible apply tG);kernel_rfl;intro _ _;(repeat apply tOp;intro _;simp only[hz,hk,h2,go_sem];rfl);rfl;simp only[go_sem];rfl|(with_reducible apply t1);rfl;trivial|(with_reducible apply t0);rfl;trivial
 exact fin0 rfl
end
section
open Go.AM
set_option maxRecDepth 100000
set_option maxHeartbeats 4000000
def projL:Option (ARes×Sto)→Option (List AVal)
 |some (.ret _,⟨.box [.own _ L]::_,_⟩)=>some L
 |_=>none
theorem h4good (s:List UInt8) (at_:Nat) (X L:List AVal) (hk:CL (.fn 179) [.val (.yld 5),.val (.loc 4 0)] (stS s [] 0 [])=some (.ret (.tup []),stS s L at_ X)):XK Tryz.prog ans CL LL 173 q4 ⟨[.val (.str s),.val (.loc 3 0),.val (.loc 0 0),.val (.loc 1 0),.dead,.val (.func 179 [.loc 4 0]),.dead],⟨[.box [.own 4 []],zeroW,.map wordM,.box [.val (.str s),.val (.int .i64 0),.val (.amap 2),.own 2 []],.box [.val (.loc 3 0)]],0⟩⟩ rec_ =
   some (.norm,⟨[.val (.str s),.val (.loc 3 0),.val (.loc 0 0),.val (.loc 1 0),.dead,.val (.func 179 [.loc 4 0]),.dead],⟨[.box [.own 4 L],zeroW,.map wordM,.box [.val (.str s),.val (.int .i64 (at_:Nat)),.val (.amap 2),.own 2 X],.box [.val (.loc 3 0)]],0⟩⟩):=by
 show XK _ _ _ _ _ (.rangeFunc _ _ _ _) _ _=_;apply tGn
 ·simp only[go_sem];rfl
 ·exact hk
 ·rfl
 ·rfl
 rfl
def KOK (s:List UInt8) (k:Int):Prop:=(k≠0→s.length≤24∧TokQ s 0 k s)∧(s.length≤24→Sole s→∃ kd txt,TokQ s 0 kd txt∧(txt=s→k=kd))
theorem tokE_inj {k n k' n':Int} {t t':List UInt8} {p p':Nat} (h:tokE k n t p=tokE k' n' t' p'):k=k'∧t=t'∧p=p':=by
 simp only[tokE,AVal.agg.injEq,List.cons.injEq,AVal.int.injEq,AVal.str.injEq,Int.ofNat_inj,true_and,and_true] at h;exact ⟨h.1,h.2.2.1,h.2.2.2⟩
theorem of_good (s:List UInt8) (hs:s.length≤24) (L:List AVal) (hL:∀ t∈L,IsTok s t) (hS:Sole s→∃ kd num txt,L=[tokE kd num txt 0]∧TokQ s 0 kd txt)
  (h0:PureT Tryz.prog 173 [.str s] [.cptr (.agg []),.slice L,.agg [.int .i64 0,.int .i64 0]]):∃ k:Int,PureOK Tryz.prog 163 [.str s] (.int .i64 k)∧KOK s k∧∀ kd num p,L=[tokE kd num s p]→k=kd:=by
 by_cases h1:L.length=1
 ·obtain ⟨t,rfl⟩:=List.length_eq_one_iff.1 h1
  obtain ⟨kind,num,txt,p,rfl,hq,hp⟩:=hL t (by simp);by_cases ht:txt=s
  ·subst ht
   obtain rfl:p=0:=by omega
   refine ⟨kind,pure_at (envK h0) (b163_tok 0 _ txt hs kind num 0 (fun sto=>k173)),⟨fun _=>⟨hs,hq⟩,fun _ _=>⟨kind,txt,hq,fun _=>rfl⟩⟩,fun kd num' p' e=>?_⟩;exact (tokE_inj (List.cons.inj e).1).1
  ·refine ⟨0,pure_at (envK h0) (b163_txt 0 _ s hs kind num p txt (by simpa using ht) (fun sto=>k173)),⟨fun h=>absurd rfl h,fun _ hs'=>?_⟩,fun kd num' p' e=>?_⟩
   ·obtain ⟨kd,n',txt',e,hq'⟩:=hS hs'
    have e':=tokE_inj (List.cons.inj e).1;exact ⟨kd,txt',hq',fun h=>absurd (e'.2.1.trans h) ht⟩
   ·exact absurd (tokE_inj (List.cons.inj e).1).2.1 ht
 ·refine ⟨0,pure_at (envK h0) (b163_len 0 _ s hs L (by simpa using (by omega:¬ (L.length:Int)=1)) (fun sto=>k173)),⟨fun h=>absurd rfl h,fun _ hs'=>?_⟩,fun kd num' p' e=>?_⟩
  ·obtain ⟨kd,n',txt',e,_⟩:=hS hs'
   exact absurd (by rw[e];rfl) h1
  ·exact absurd (by rw[e];rfl) h1
theorem one_at (s:List UInt8) (hs:s.length≤24) (n p:Nat) (k num:Int) (h:projL ((run Tryz.prog ans prL n).1 (.fn 179) [.val (.yld 5),.val (.loc 4 0)] (stS s [] 0 []))=some [tokE k num s p]):PureOK Tryz.prog 163 [.str s] (.int .i64 k)∧KOK s k:=by
 cases hr:(run Tryz.prog ans prL n).1 (.fn 179) [.val (.yld 5),.val (.loc 4 0)] (stS s [] 0 []) with
 |none=>rw[hr] at h;cases h
 |some r =>
  have hc:CL (.fn 179) [.val (.yld 5),.val (.loc 4 0)] (stS s [] 0 [])=some r:=cfW_some.2 ⟨n,hr⟩;rw[hr] at h;rcases c179 s (by omega) with ⟨at',X',L',hk,_,hL,hS⟩|⟨at',X',L',a,e,hk,_⟩
  ·have:r=(.ret (.tup []),stS s L' at' X'):=Option.some.inj (hc.symm.trans hk)
   subst this;have hL':L'=[tokE k num s p]:=Option.some.inj h;obtain ⟨k',h1,h2,h3⟩:=of_good s hs L' hL hS (good173 s at' X' L' (h4good s at' X' L' hk));obtain rfl:=h3 k num p hL';exact ⟨h1,h2⟩
  ·have:r=(.pan (wrongE a e),stS s L' at' X'):=Option.some.inj (hc.symm.trans hk)
   subst this;cases h
theorem o1:PureOK Tryz.prog 163 [.str [76,105,115,116]] (.int .i64 (Lex.kindOf [76,105,115,116]))∧KOK [76,105,115,116] (Lex.kindOf [76,105,115,116]):=one_at [76,105,115,116] (by simp) 60 0 _ 0 (by kernel_rfl)
theorem o2:PureOK Tryz.prog 163 [.str [39,97]] (.int .i64 (Lex.kindOf [39,97]))∧KOK [39,97] (Lex.kindOf [39,97]):=one_at [39,97] (by simp) 60 0 _ 0 (by kernel_rfl)
theorem o3:PureOK Tryz.prog 163 [.str [67,111,110,115]] (.int .i64 (Lex.kindOf [67,111,110,115]))∧KOK [67,111,110,115] (Lex.kindOf [67,111,110,115]):=one_at [67,111,110,115] (by simp) 60 0 _ 0 (by kernel_rfl)
theorem o4:PureOK Tryz.prog 163 [.str [73,110,116]] (.int .i64 (Lex.kindOf [73,110,116]))∧KOK [73,110,116] (Lex.kindOf [73,110,116]):=one_at [73,110,116] (by simp) 60 0 _ 0 (by kernel_rfl)
theorem o5:PureOK Tryz.prog 163 [.str [78,105,108]] (.int .i64 (Lex.kindOf [78,105,108]))∧KOK [78,105,108] (Lex.kindOf [78,105,108]):=one_at [78,105,108] (by simp) 60 0 _ 0 (by kernel_rfl)
def tabK:List (List UInt8):=[[76,105,115,116],[39,97],[67,111,110,115],[73,110,116],[78,105,108]]
theorem tab_ok (s:List UInt8) (h:tabK.contains s=true):PureOK Tryz.prog 163 [.str s] (.int .i64 (Lex.kindOf s))∧KOK s (Lex.kindOf s):=by
 have:s∈tabK:=by simpa using h
 simp only[tabK,List.mem_cons,List.not_mem_nil,or_false] at this;rcases this with rfl|rfl|rfl|rfl|rfl
 ·exact o1
 ·exact o2
 ·exact o3
 ·exact o4
 ·exact o5
theorem ex163 (s:List UInt8):∃ k:Int,PureOK Tryz.prog 163 [.str s] (.int .i64 k)∧KOK s k:=by
 by_cases h:24 < s.length
 ·exact ⟨0,pure_at env0 (b163_long pr0 s h),fun h=>absurd rfl h,fun h'=>by omega⟩
 ·rcases h4 s (by omega) with ⟨at',X',L',hk,_,hL,hS⟩|⟨at',X',L',a,e,hk,hS⟩
  ·obtain ⟨k,h1,h2,_⟩:=of_good s (by omega) L' hL hS (good173 s at' X' L' hk)
   exact ⟨k,h1,h2⟩
  ·by_cases he:e=0
   ·subst he
    exact ⟨0,pure_at (envK (pan173 s at' X' L' a 0 hk)) (b163_len a _ s (by omega) [] rfl (fun sto=>k173)),fun h=>absurd rfl h,fun _ h=>absurd h hS⟩
   ·exact ⟨0,pure_at (envK (pan173 s at' X' L' a e hk)) (b163_err _ s (by omega) [] a e (by simpa using he) (fun sto=>k173)),fun h=>absurd rfl h,fun _ h=>absurd h hS⟩
noncomputable def kdF (s:List UInt8):Int:=bif tabK.contains s then Lex.kindOf s else Classical.choose (ex163 s)
theorem p163k (s:List UInt8):PureOK Tryz.prog 163 [.str s] (.int .i64 (kdF s))∧KOK s (kdF s):=by
 unfold kdF;cases h:tabK.contains s with
 |true=>exact tab_ok s h
 |false=>exact Classical.choose_spec (ex163 s)
theorem p163 (s:List UInt8):PureOK Tryz.prog 163 [.str s] (.int .i64 (kdF s)):=(p163k s).1
end
end Go.Proofs.YtkmnkiekmlcfdaaGreatDoor
end
