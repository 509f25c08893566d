import Derived.Test.YtdkkaldimefljaaGreatDoorL01
set_option linter.all false
set_option maxRecDepth 100000
set_option maxHeartbeats 4000000
namespace Go.Proofs.YtdkkaldimefljaaGreatDoor
section
open Go.AM Go.RowKit
structure aQb (w:World) (B0:Nat) (Z:HT) (J:List Nat) (ow:Own) (L:List AVal) (b3 b4:Nat) (a:Option Addr) (l k:Nat) (T3 T4:TypeId):Prop where
 r3:J[0]?=some b3
 r4:J[1]?=some b4
 ne:b3≠b4
 o3:ow b3=some (true,0,0)
 o4:ow b4=some (true,1,0)
 h3:w.heap[b3]?=some (.cells #[.slice a l k] T3 (0,0))
 h4:w.heap[b4]?=some (.cells #[.int .i64 0,.int .i64 0] T4 (0,0))
 rel:VRel Z [] (.slice L) (.slice a l k)
 f3:∀o,Z b3 o=hno
 f4:∀o,Z b4 o=hno
 g3:B0<=b3
 g4:B0<=b4
theorem aPJ{w:World}{B0:Nat}{Z:HT}{J:List Nat}{ow:Own}{objs:List AObj}{L:List AVal}(h:OsRel w B0 Z J ow ans objs)(h0:objs[0]?=some (.box [.own 4 L]))(h1:objs[1]?=some fH) :
  ∃b3 b4 a l k T3 T4,aQb w B0 Z J ow L b3 b4 a l k T3 T4:=by
 obtain⟨b3,r3,q3⟩:=h.2 0 _ h0;obtain⟨b4,r4,q4⟩:=h.2 1 _ h1;unfold fH at q4;cases q3 with
 |box _ _ q3 =>
 cases q4 with
 |box _ _ q4 =>
 obtain⟨vs,T3,e3,l3,c3⟩:=q3.heap;obtain⟨us,T4,e4,l4,c4⟩:=q4.heap
 match vs,l3 with
 |[v],_ =>
 match us,l4 with
 |[u,u'],_ =>
 have x3:=c3 0 _ _ rfl rfl;have x4:=c4 0 _ _ rfl rfl;have x5:=c4 1 _ _ rfl rfl;cases x3 with
 |own _ _ _ x3 =>
 cases x4 with
 |val _ _ _ x4 =>
 cases x5 with
 |val _ _ _ x5 =>
 cases x4;cases x5;obtain⟨a,l,k,rfl,_⟩:=x3.rest;refine⟨b3,b4,a,l,k,T3,T4,r3,r4,λe=>?_,q3.own,q4.own,e3,e4,x3.rel,q3.free,q4.free,q3.base,q4.base⟩
 have:=q3.own
 rw[e,q4.own] at this;cases this
theorem uO{B0:Nat}{cf:aO}{lp:aP}{fid:FuncId}{id:Nat}{ops:Array Oper}{st BF:St}(BK:kZ Tryz.prog ans B0 cf)(e:XK Tryz.prog ans cf lp fid (.region id ops false) st wF=some (.norm,BF)){w:World}{Z:HT}{J:List Nat}{ow:Own}{tmps:Array Value}{ds:List Deferred}{b:Frame}{cs:List Frame}{items:List Item}(h:At Tryz.prog ans fid B0 w Z J ow st tmps) :
  ∃w' Z' J' AP tmps',At Tryz.prog ans fid B0 w' Z' J' AP BF tmps'/\Fr w Z ow w' Z' AP/\pre J J'/\StoLe st.sto BF.sto/\Steps Tryz.prog (lone (b.atR ⟨tmps,ds⟩ (.code (.region id ops false)::items)) cs w) (lone (b.atR ⟨tmps',ds⟩ items) cs w'):=by
 simp only[XK] at e;rw[mF] at e;rcases o8 (ds:=ds) (b:=b) (items:=items) (cs:=cs) BK h.nr (rs:=⟨[],st.sto⟩) h.rel h.lo e with⟨rs',w',Z',J',AP,tmps',a1,a2,a3,a4,a5,a6⟩|⟨x,rs',v,w',Z',J',AP,tmps',ED,a1,a2,a3,a4,a5,a6,a7⟩
 ·simp only[wF,Ak,Bp,Fi] at a1
  subst a1;exact⟨w',Z',J',AP,tmps',At.commit h.nr a2 (by rw[a5.lo];exact Bj h.lo a5.len) rfl,a3,a4,a5,(Steps.one stepR_region).trans (a6.trans (.one stepR_region_end))⟩
 ·simp[wF] at a1
theorem aGW{B0:Nat}{fid:FuncId}{st:St}{w:World}{Z:HT}{J:List Nat}{ow:Own}{tmps:Array Value}(h:At Tryz.prog ans fid B0 w Z J ow st tmps)(d:Nat)(v:Value)(hd:d<(ans fid).nt)(hk:tlook (ans fid).keep st.tm d=.dead):At Tryz.prog ans fid B0 w Z J ow st (tmps.setIfInBounds d v):=by
 have hE:upd (sl (ans fid) st.tm ⟨[],st.sto⟩) d .dead=sl (ans fid) st.tm ⟨[],st.sto⟩:=by
  funext t;by_cases e:t=d
  ·subst e
   rw[eE];exact hk.symm
  ·rw[bI _ _ e]
 refine⟨?_,h.nr,h.lo⟩
 have:=h.rel.write d .dead v hd (λt o e=>absurd e (h.nr.tlook _ _ _ _)) (λu o e=>by cases e) (λcs e=>by cases e) Z.le_refl (aI _) h.rel.wsat (λt _ _=>Same.refl _ _ _ _ _) (.dead v) h.rel.objs h.rel.lt (Ae _)
 rw[hE] at this;exact this
def dfr(b3 b4:Nat):Deferred:={ target:=.fn (.func 244) #[.pointer (some ⟨b3,0,none⟩),.pointer (some ⟨b4,0,none⟩)],args:=#[] }
def fr207:Frame:={ (default:Frame) with fn:=207,kind:=.normal,roundOf:=none }
theorem Pn(Z:HT)(J:List Nat)(i b:Nat){v:Value}(h:VRel Z J (.loc i 0) v)(hb:J[i]?=some b):v=.pointer (some ⟨b,0,none⟩):=by
 cases h with
 |loc _ _ b' h=>rw[hb] at h;cases h;rfl
theorem aFQ(s:List UInt8){w:World}{Z:HT}(hw:WSat Z w)(cs:List Frame):∃w' Z' J' AP tmps b3 b4,
  At Tryz.prog ans 207 w.heap.size w' Z' J' AP ⟨[.val (.str s),.val (.loc 3 0),.val (.loc 0 0),.val (.loc 1 0),.dead,.val (.func 270 [.loc 4 0]),.dead],⟨[.box [.own 4 []],fH,.map cR,.box [.val (.str s),.val (.int .i64 0),.val (.amap 2),.own 2 []],.box [.val (.loc 3 0)]],0⟩⟩ tmps /\
  Fr w Z (λ_=>none) w' Z' AP/\J'[0]?=some b3/\J'[1]?=some b4 /\
  Steps Tryz.prog (lone (Frame.enter Tryz.prog 207 #[.string ⟨⟨s⟩⟩] .normal) cs w) (lone (fr207.atR ⟨tmps,[dfr b3 b4]⟩ [.code (.block 0 q4),.code q5]) cs w'):=by
 have BK:=gw (RX w.heap.size)
 have Jt:=nH (P:=Tryz.prog) (ans:=ans) (f:=207) (lM (ans:=ans) hw (args:=[.val (.str s)]) (vs:=#[.string ⟨⟨s⟩⟩]) rfl (λx hx=>by rw[Bz.1 hx];rfl) (λi x hx=>by
  cases i with
  |zero=>cases hx;exact .val _ _ (.str _)
  |succ i=>simp at hx)) (by rw[mR];show 1<=19;omega)
 have PK:((ans 207).keep.map λt=>(([.val (.str s)]:List Slot)[t]?).getD .dead)=[.val (.str s),.dead,.dead,.dead,.dead,.dead,.dead]:=by rw[mR];rfl
 rw[PK] at Jt
 have henter:Frame.enter Tryz.prog 207 #[.string ⟨⟨s⟩⟩] .normal=fr207.atR ⟨#[.string ⟨⟨s⟩⟩]++Array.replicate ((ans 207).nt-(#[.string ⟨⟨s⟩⟩]:Array Value).size) undef,[]⟩ [.code (.seq q0 (.seq q1 (.seq q2 (.seq (.seq q3 (.block 0 q4)) q5))))]:=by
  have e1:(ans 207).nt=19:=by rw[mR]
  rw[e1];simp only[Frame.enter,Tryz.func207,Ai,aN0,Tryz.ntmps207,Frame.atR,fr207];rfl
 obtain⟨w0,Z0,J0,SL,D7,A0,F0,p0,_,S0⟩:=uO (ds:=[]) (b:=fr207) (cs:=cs) (items:=[.code (.seq q1 (.seq q2 (.seq (.seq q3 (.block 0 q4)) q5)))]) BK (h0 s) Jt;obtain⟨w1,Z1,J1,BX,G8,A1,F1,p1,_,S1⟩:=uO (ds:=[]) (b:=fr207) (cs:=cs) (items:=[.code (.seq q2 (.seq (.seq q3 (.block 0 q4)) q5))]) BK (h1 s) A0;have BG:G8.size=19:=by have:=A1.rel.size;rw[mR] at this;exact this
 have loc:∀(t i:Nat),sl (ans 207) [.val (.str s),.val (.loc 3 0),.val (.loc 0 0),.val (.loc 1 0),.dead,.dead,.dead] ⟨[],⟨[.box [.own 4 []],fH,.map cR,.box [.val (.str s),.val (.int .i64 0),.val (.amap 2),.own 2 []]],0⟩⟩ t=.val (.loc i 0)->∀b,J1[i]?=some b->G8.getD t undef=.pointer (some ⟨b,0,none⟩):=λt i e b hb=>by
  have:=A1.rel.slots t
  rw[e] at this;cases this with
  |val _ _ h=>exact Pn _ _ _ _ h hb
 obtain⟨b3,r3,_⟩:=A1.rel.objs.2 0 _ rfl;obtain⟨b4,r4,_⟩:=A1.rel.objs.2 1 _ rfl;have v3:=loc 3 0 (by rw[mR];rfl) b3 r3;have v4:=loc 4 1 (by rw[mR];rfl) b4 r4;obtain⟨e2,a2,w2,⟨rfl,rfl,ht,hd⟩,S2⟩:=aPi G8 BG w1 fr207 [.code (.seq (.seq q3 (.block 0 q4)) q5)] cs;rw[v3,v4] at ht hd;have A2:=aGW A1 8 (.func (.func 244) #[] #[.pointer (some ⟨b3,0,none⟩),.pointer (some ⟨b4,0,none⟩)]) (by rw[mR];show 8<19;omega) (by rw[mR];rfl);obtain⟨w3,Z3,J3,M9,DR,A3,F3,p3,_,S3⟩:=uO (ds:=[dfr b3 b4]) (b:=fr207) (cs:=cs) (items:=[.code (.block 0 q4),.code q5]) BK (h3 s) A2;refine⟨w3,Z3,J3,M9,DR,b3,b4,A3,(F0.trans F1).trans F3,p3 0 b3 r3,p3 1 b4 r4,?_⟩;rw[henter];obtain⟨t2,d2⟩:=a2;simp only at ht hd;subst ht hd;have S2':Steps Tryz.prog (lone (fr207.atR ⟨G8,[]⟩ [.code q2,.code (.seq (.seq q3 (.block 0 q4)) q5)]) cs w2) (lone (fr207.atR ⟨G8.setIfInBounds 8 (.func (.func 244) #[] #[.pointer (some ⟨b3,0,none⟩),.pointer (some ⟨b4,0,none⟩)]),[dfr b3 b4]⟩ [.code (.seq (.seq q3 (.block 0 q4)) q5)]) cs w2):=S2;refine(Steps.one stepR_seq).trans (S0.trans ((Steps.one stepR_seq).trans (S1.trans ((Steps.one stepR_seq).trans (S2'.trans ((Steps.one stepR_seq).trans ((Steps.one stepR_seq).trans S3)))))))
theorem aNY(a:Array Value)(h:a.size=19):a=#[a.getD 0 undef,a.getD 1 undef,a.getD 2 undef,a.getD 3 undef,a.getD 4 undef,a.getD 5 undef,a.getD 6 undef,a.getD 7 undef,a.getD 8 undef,a.getD 9 undef,a.getD 10 undef,a.getD 11 undef,a.getD 12 undef,a.getD 13 undef,a.getD 14 undef,a.getD 15 undef,a.getD 16 undef,a.getD 17 undef,a.getD 18 undef]:=by
 apply Gq
 ·simpa using h
 ·intro i h1 h2
  simp at h2;have e:∀j (hj:j<a.size),a.getD j undef=a[j]:=λj hj=>by simp[Array.getD,hj]
  match i,h2 with
  |0,_|1,_|2,_|3,_|4,_|5,_|6,_|7,_|8,_|9,_|10,_|11,_|12,_|13,_|14,_|15,_|16,_|17,_|18,_=>exact(e _ h1).symm
  |n+19,h=>exact absurd h (by omega)
theorem aF1{tm:Array Value}{w:World}{b3 b4:Nat}{a:Option Addr}{l k:Nat}{x y:Int}{T3 T4:TypeId}(h3:w.heap[b3]?=some (.cells #[.slice a l k] T3 (0,0)))(h4:w.heap[b4]?=some (.cells #[.int .i64 x,.int .i64 y] T4 (0,0)))
  (e3:tm.getD 3 undef=.pointer (some ⟨b3,0,none⟩)) (e4:tm.getD 4 undef=.pointer (some ⟨b4,0,none⟩)) :
  (results Tryz.f207 tm).run Tryz.prog w=.ok (.tuple #[tm.getD 2 undef,.slice a l k,.agg #[.int .i64 x,.int .i64 y]]) w:=by
 have c3:w.cell? ⟨b3,0,none⟩=some (.slice a l k):=(cell_of_heap h3 0).trans rfl;have c4:w.cell? ⟨b4,0,none⟩=some (.int .i64 x):=(cell_of_heap h4 0).trans rfl;have c5:w.cell? ⟨b4,1,none⟩=some (.int .i64 y):=(cell_of_heap h4 1).trans rfl;have e3':tm[3]?.getD undef=.pointer (some ⟨b3,0,none⟩):=by simpa using e3
 have e4':tm[4]?.getD undef=.pointer (some ⟨b4,0,none⟩):=by simpa using e4
 simp[results,Tryz.results207,e3',e4',go_sem,c3,c4,c5]
theorem OT{w:World}{b o:Nat}{cs:Array Value}{T:TypeId}(h:w.heap[b]?=some (.cells cs T (0,0))):w.frozen? ⟨b,o,none⟩=false:=by
 simp[World.frozen?,h]
theorem so{tm:Array Value}{todo:List Item}{w w':World}{b3 b4:Nat}{u:FrameMode}{v:Value}(hu:u≠.run)(cs:List Frame)
  (hc:CallsD Tryz.prog 244 #[.pointer (some ⟨b3,0,none⟩),.pointer (some ⟨b4,0,none⟩)] u w λe u' w1=>e=.returned (.tuple #[])/\settle u'=.returning/\w1=w')
  (hr:(results Tryz.f207 tm).run Tryz.prog w'=.ok v w') (c:Frame) :
  Steps Tryz.prog (lone { fr207.atR ⟨tm,[dfr b3 b4]⟩ todo with mode:=u } (c::cs) w) (lone (c.finish v) cs w'):=by
 have hL:Leaves Tryz.prog Tryz.f207 tm (λe w1=>e=.returned v/\w1=w') [dfr b3 b4] u w:=by
  refine leaves_cons (f:=244) (args:=#[.pointer (some ⟨b3,0,none⟩),.pointer (some ⟨b4,0,none⟩)]) hu (by simp[dfr,go_sem]) ?_;refine hc.mono ?_
  rintro e u' w1 ⟨rfl,hs,rfl⟩
  show Leaves _ _ _ _ [] (settle u') w1;rw[hs];exact⟨v,hr,rfl,rfl⟩
 obtain⟨e,w1,Lh,⟨rfl,rfl⟩,hs,_,hl⟩:=leaves_steps [dfr b3 b4] u w { fr207.atR ⟨tm,[dfr b3 b4]⟩ todo with mode:=u } (c::cs) rfl rfl rfl Tryz.func207 rfl hL;exact Steps.trans hs (.one (step_leave_returned hl))
def Qj(b3 b4:Nat):Frame:={ fr207 with defers:=[dfr b3 b4] }
theorem aHt(s:List UInt8)(at_:Nat)(X L:List AVal)(h4:XK Tryz.prog ans CL LL 207 q4 ⟨[.val (.str s),.val (.loc 3 0),.val (.loc 0 0),.val (.loc 1 0),.dead,.val (.func 270 [.loc 4 0]),.dead],⟨[.box [.own 4 []],fH,.map cR,.box [.val (.str s),.val (.int .i64 0),.val (.amap 2),.own 2 []],.box [.val (.loc 3 0)]],0⟩⟩ wF =
   some (.norm,⟨[.val (.str s),.val (.loc 3 0),.val (.loc 0 0),.val (.loc 1 0),.dead,.val (.func 270 [.loc 4 0]),.dead],⟨[.box [.own 4 L],fH,.map cR,.box [.val (.str s),.val (.int .i64 (at_:Nat)),.val (.amap 2),.own 2 X],.box [.val (.loc 3 0)]],0⟩⟩)) :
  PureT Tryz.prog 207 [.str s] [.cptr (.agg []),.slice L,.agg [.int .i64 0,.int .i64 0]]:=by
 refine⟨⟨_,Tryz.func207,by kernel_rfl⟩,λw Z vs hw hl ha c cs=>?_⟩;have Py:=ha 0 _ rfl;have DK:=Ue hl rfl;generalize vs.getD 0 undef=v0 at Py DK;subst DK;cases Py;obtain⟨w3,Z3,J3,M9,DR,b3,b4,A3,F3,r3,r4,S3⟩:=aFQ s hw (c::cs);have BK:=gw (RX w.heap.size);have CC:=aEZ (RX w.heap.size);have EZ:kN Tryz.prog ans CL:=(RX w.heap.size).drawn _ qv;obtain⟨ex,BF,hk,w4,Z4,J4,HA,D6,Wl,A4,M4,F4,p4,_,S4⟩:=mQ BK CC EZ q4 (b:=Qj b3 b4) (cs:=c::cs) (items:=[.inBlock 0,.code q5]) (fid:=207) (B1:=w.heap.size) rfl (.inl rfl) A3 ⟨[],rfl,.nil _ _ _⟩ F3.size h4;simp only[wF,Ak,Bp] at hk;obtain⟨rfl,rfl⟩:=hk;have A4:At Tryz.prog ans 207 w.heap.size w4 Z4 J4 HA _ D6:=A4;have S4:Steps Tryz.prog _ _:=S4;obtain⟨c3,c4,a,l,k,T3,T4,T⟩:=aPJ A4.rel.objs rfl rfl;have q3':c3=b3:=Ap (T.r3.symm.trans (p4 0 b3 r3));have q4':c4=b4:=Ap (T.r4.symm.trans (p4 1 b4 r4));subst q3' q4';have BG:D6.size=19:=by have:=A4.rel.size;rw[mR] at this;exact this
 have M7:=A4.rel.slots 2;have Oj:=A4.rel.slots 3;have Kp:=A4.rel.slots 4;rw[mR] at M7 Oj Kp
 have v3:D6.getD 3 undef=.pointer (some ⟨c3,0,none⟩):=by
  cases Oj with
  |val _ _ h=>exact Pn _ _ _ _ h T.r3
 have v4:D6.getD 4 undef=.pointer (some ⟨c4,0,none⟩):=by
  cases Kp with
  |val _ _ h=>exact Pn _ _ _ _ h T.r4
 have v2:∃b,D6.getD 2 undef=.pointer (some ⟨b,0,none⟩):=by
  generalize D6.getD 2 undef=u at M7;cases M7 with
  |val _ _ h =>
   cases h with
   |loc _ _ b h=>exact⟨b,rfl⟩
 have OI:=aNY D6 BG;rw[v3,v4] at OI;have hr:=aPk (D6.getD 0 undef) (D6.getD 1 undef) (D6.getD 2 undef) (D6.getD 5 undef) (D6.getD 6 undef) (D6.getD 7 undef) (D6.getD 8 undef) (D6.getD 9 undef) (D6.getD 10 undef) (D6.getD 11 undef) (D6.getD 12 undef) (D6.getD 13 undef) (D6.getD 14 undef) (D6.getD 15 undef) (D6.getD 16 undef) (D6.getD 17 undef) (D6.getD 18 undef) c3 c4 a l k 0 0 T3 T4 (0,0) (0,0) Wl w4 T.ne T.h3 T.h4 (OT T.h3) (OT T.h4) (OT T.h4);rw[<-OI] at hr;obtain⟨e,a5,w5,⟨rfl,hh,ho,ht,Mw,g2,g3,g4,Pk⟩,todo,S5⟩:=hr (Qj c3 c4) [] (c::cs);have F5:Fr w4 Z4 HA w5 Z4 HA:=Fr.heap hh ho ht Mw;obtain⟨w6,S6,k1,k2,k3,k4,k5⟩:=iS (P:=Tryz.prog) (cs:=c::cs) (fr:={ (Qj c3 c4).at a5 todo with mode:=.returning }) (M4.mono F5) (by simp) Pk;have Ir:=(k2 c3 (.inr (.inl (by rw[T.o3];simp)))).trans ((by rw[hh]:w5.heap[c3]?=w4.heap[c3]?).trans T.h3);have NS:=(k2 c4 (.inr (.inl (by rw[T.o4];simp)))).trans ((by rw[hh]:w5.heap[c4]?=w4.heap[c4]?).trans T.h4);have F6:=((F3.trans F4).trans F5).kept (w':=w6) (Ae _) k1 k2 k3 k4 k5;have R6:=((A4.rest).kept (w':=w5) (B1:=w.heap.size) (by rw[hh]) (λx _=>by rw[hh])).kept k1 k2;obtain⟨b2,v2⟩:=v2;have L6:=so (tm:=a5.tmps) (todo:=todo) (u:=.returning) (by simp) cs ((xu (.pointer (some ⟨c3,0,none⟩)) (.pointer (some ⟨c4,0,none⟩)) w6).mono λe u' w1 ⟨h1,h2,h3⟩=>⟨h1,by rw[h2];rfl,h3⟩) (aF1 Ir NS g3 g4) c;rw[g2,v2] at L6;refine⟨w6,Z4,[.pointer (some ⟨b2,0,none⟩),.slice a l k,.agg ⟨[.int .i64 0,.int .i64 0]⟩],⟨F6.le,F6.size,F6.keep,λb hb=>absurd rfl hb,F6.os,F6.tape,F6.output⟩,R6.wsat,rfl,λi x u h1 h2=>?_,?_⟩
 ·match i with
  |0=>cases h1;cases h2;exact .cptr _ _ _ λj c h=>by simp[AVal.cells] at h
  |1=>cases h1;cases h2;exact T.rel
  |2=>cases h1;cases h2;exact .agg _ _ rfl (λi c h=>by
    match i with
    |0=>cases h;rfl
    |1=>cases h;rfl
    |i+2=>cases h) (λi c v h1 h2=>by
    match i with
    |0=>cases h1;cases h2;exact .int _ _
    |1=>cases h1;cases h2;exact .int _ _
    |i+2=>cases h1)
  |i+3=>cases h1
 ·refine S3.trans ((Steps.one stepR_block).trans (S4.trans ((Steps.one stepR_inBlock).trans (S5.trans (S6.trans L6)))))
theorem gU{w:World}{b o x:Nat}{v:Value}(h:x≠b):(w.setCell ⟨b,o,none⟩ v).heap[x]?=w.heap[x]?:=by
 simp only[World.setCell,Da];rw[Ax (λe=>h e.symm)]
theorem rE{w:World}{b o:Nat}{v:Value}{cs:Array Value}{T:TypeId}{fr:Nat×Nat}(h:w.heap[b]?=some (.cells cs T fr)):(w.setCell ⟨b,o,none⟩ v).heap[b]?=some (.cells (cs.setIfInBounds o v) T fr):=by
 simp only[World.setCell,Da,Dk,h,Bw,Gm,Bc,Dd]
theorem aCN{w w':World}{Z:HT}(h:WSat Z w)(hz:w.heap.size<=w'.heap.size)(hk:∀x o c,Z x o c->w'.heap[x]?=w.heap[x]?):WSat Z w':=⟨Bj h.size8 hz,h.glob,by
 obtain⟨cs,t,fr,h1,h2⟩:=h.len5;exact⟨cs,t,fr,(hk 5 _ _ (h.glob.pow 0 (by omega))).trans h1,h2⟩,λb o c e=>by
 obtain⟨h1,v,h2,h3⟩:=h.sat b o c e;exact⟨h1,v,(cell_congr (hk b o c e) o).trans h2,h3⟩⟩
theorem aFL(s:List UInt8)(at_:Nat)(X L:List AVal)(a e:Int)(h4:XK Tryz.prog ans CL LL 207 q4 ⟨[.val (.str s),.val (.loc 3 0),.val (.loc 0 0),.val (.loc 1 0),.dead,.val (.func 270 [.loc 4 0]),.dead],⟨[.box [.own 4 []],fH,.map cR,.box [.val (.str s),.val (.int .i64 0),.val (.amap 2),.own 2 []],.box [.val (.loc 3 0)]],0⟩⟩ wF =
   some (.pan (bB a e),⟨[.val (.str s),.val (.loc 3 0),.val (.loc 0 0),.val (.loc 1 0),.dead,.val (.func 270 [.loc 4 0]),.dead],Ie s L at_ X⟩)) :
  PureT Tryz.prog 207 [.str s] [.cptr (.agg []),.slice [],.agg [.int .i64 a,.int .i64 e]]:=by
 refine⟨⟨_,Tryz.func207,by kernel_rfl⟩,λw Z vs hw hl ha c cs=>?_⟩;have Py:=ha 0 _ rfl;have DK:=Ue hl rfl;generalize vs.getD 0 undef=v0 at Py DK;subst DK;cases Py;obtain⟨w3,Z3,J3,M9,DR,b3,b4,A3,F3,r3,r4,S3⟩:=aFQ s hw (c::cs);have BK:=gw (RX w.heap.size);obtain⟨ex,BF,hk,_,V9⟩:=qJ BK (b:=Qj b3 b4) (cs:=c::cs) (items:=[.inBlock 0,.code q5]) (fid:=207) (B1:=w.heap.size) rfl rfl A3 ⟨[],rfl,.nil _ _ _⟩ F3.size h4;simp only[wF,Ak,Bp] at hk;obtain⟨rfl,rfl⟩:=hk;obtain⟨AL,s0,w4,Z4,J4,HA,Wl,A7,R4,M4,F4,p4,_,v,k,hv,S4⟩:=V9 _ rfl;have Jf:AL=Ie s L at_ X:=by cases A7;rfl
 subst Jf;obtain⟨c3,c4,aa,l,kk,T3,T4,T⟩:=aPJ (L:=L) R4.objs rfl rfl;have q3':c3=b3:=Ap (T.r3.symm.trans (p4 0 b3 r3));have q4':c4=b4:=Ap (T.r4.symm.trans (p4 1 b4 r4));subst q3' q4';have M7:=R4.slots 2;have Oj:=R4.slots 3;have Kp:=R4.slots 4;rw[mR] at M7 Oj Kp
 have v3:DR.getD 3 undef=.pointer (some ⟨c3,0,none⟩):=by
  cases Oj with
  |val _ _ h=>exact Pn _ _ _ _ h T.r3
 have v4:DR.getD 4 undef=.pointer (some ⟨c4,0,none⟩):=by
  cases Kp with
  |val _ _ h=>exact Pn _ _ _ _ h T.r4
 have v2:∃b,DR.getD 2 undef=.pointer (some ⟨b,0,none⟩):=by
  generalize DR.getD 2 undef=u at M7;cases M7 with
  |val _ _ h =>
   cases h with
   |loc _ _ b h=>exact⟨b,rfl⟩
 have hve:v=.iface 277 (.agg #[.int .i64 a,.int .i64 e]):=by
  unfold bB at hv;cases hv with
  |iface _ _ v h =>
  cases h with
  |agg _ vs hl _ hx =>
  match vs,hl with
  |[u,u'],_ =>
  have x0:=hx 0 _ _ rfl rfl;have x1:=hx 1 _ _ rfl rfl;cases x0;cases x1;rfl
 subst hve;obtain⟨w6,S6,k1,k2,k3,k4,k5⟩:=iS (P:=Tryz.prog) (cs:=c::cs) (fr:={ (Qj c3 c4).atR ⟨DR,Wl⟩ k with mode:=.panicking [{ v:=.iface 277 (.agg #[.int .i64 a,.int .i64 e]),recovered:=false }] }) M4 (by simp) rfl;have Ir:=(k2 c3 (.inr (.inl (by rw[T.o3];simp)))).trans T.h3;have NS:=(k2 c4 (.inr (.inl (by rw[T.o4];simp)))).trans T.h4;have F6:=(F3.trans F4).kept (w':=w6) (Ae _) k1 k2 k3 k4 k5;have R6:AM.Rest ans w.heap.size w6 Z4 J4 HA _:=AM.Rest.kept ⟨R4.wsat,R4.objs,R4.lt⟩ k1 k2;obtain⟨b2,v2⟩:=v2;have NF:=(Ad.1 Ir).1;have Vm:=(Ad.1 NS).1;obtain⟨w7,hw7⟩:∃w7,w7=(((((w6.alloc (.cells #[.int .i64 a,.int .i64 e] 277 (0,0))).drew).setCell ⟨c3,0,none⟩ (.slice none 0 0)).setCell ⟨c4,0,none⟩ (.int .i64 a)).setCell ⟨c4,1,none⟩ (.int .i64 e)):=⟨_,rfl⟩
 have hA:∀x,x<w6.heap.size->(w6.alloc (.cells #[.int .i64 a,.int .i64 e] 277 (0,0))).drew.heap[x]?=w6.heap[x]?:=λx hx=>AM.heap_alloc_old _ hx
 have EN:∀x,x<w6.heap.size->x≠c3->x≠c4->w7.heap[x]?=w6.heap[x]?:=λx hx h3 h4=>by
  rw[hw7,gU h4,gU h4,gU h3,hA x hx]
 have hh3:w7.heap[c3]?=some (.cells #[.slice none 0 0] T3 (0,0)):=by
  rw[hw7,gU T.ne,gU T.ne,rE ((hA c3 NF).trans Ir)];rfl
 have Se:w7.heap[c4]?=some (.cells #[.int .i64 a,.int .i64 e] T4 (0,0)):=by
  rw[hw7,rE (rE (((gU T.ne.symm).trans (hA c4 Vm)).trans NS))];rfl
 have BG:w6.heap.size<=w7.heap.size:=by
  rw[hw7,World.size_setCell,World.size_setCell,World.size_setCell];show _<=(w6.alloc _).heap.size;rw[World.size_alloc];omega
 have L6:=so (tm:=DR) (todo:=k) (u:=.panicking [{ v:=.iface 277 (.agg #[.int .i64 a,.int .i64 e]),recovered:=false }]) (by simp) cs ((vZ c3 c4 aa l kk 0 0 a e T3 T4 (0,0) (0,0) w6 T.ne Ir NS (OT Ir) (OT NS) (OT NS)).mono λe u' w1 ⟨h1,h2,h3⟩=>⟨h1,by rw[h2];rfl,h3.trans hw7.symm⟩) (aF1 hh3 Se v3 v4) c;rw[v2] at L6;refine⟨w7,Z4,[.pointer (some ⟨b2,0,none⟩),.slice none 0 0,.agg ⟨[.int .i64 a,.int .i64 e]⟩],⟨F6.le,Bj F6.size BG,λb hb ho=>?_,λb hb=>absurd rfl hb,?_,?_,?_⟩,aCN R6.wsat BG λx o c hx=>?_,rfl,λi x u h1 h2=>?_,?_⟩
 ·have:=F6.keep b hb ho
  refine⟨(EN b (by have:=F6.size;omega) (λe=>?_) (λe=>?_)).trans this.1,this.2⟩
  ·have:=T.g3;omega
  ·have:=T.g4;omega
 ·rw[<-F6.os,hw7];rfl
 ·rw[<-F6.tape,hw7];rfl
 ·rw[<-F6.output,hw7];rfl
 ·refine EN x (R6.wsat.lt hx) (λe=>?_) (λe=>?_)
  ·rw[e,T.f3] at hx;exact hx
  ·rw[e,T.f4] at hx;exact hx
 ·match i with
  |0=>cases h1;cases h2;exact .cptr _ _ _ λj c h=>by simp[AVal.cells] at h
  |1=>cases h1;cases h2;exact .slice [] none 0 0 0 rfl (Ae _) (λi x e=>by simp at e)
  |2=>cases h1;cases h2;exact .agg _ _ rfl (λi c h=>by
    match i with
    |0=>cases h;rfl
    |1=>cases h;rfl
    |i+2=>cases h) (λi c v h1 h2=>by
    match i with
    |0=>cases h1;cases h2;exact .int _ _
    |1=>cases h1;cases h2;exact .int _ _
    |i+2=>cases h1)
  |i+3=>cases h1
 ·exact S3.trans ((Steps.one stepR_block).trans (S4.trans (S6.trans L6)))
end
section
open Go.AM
def SJ(s0:List UInt8)(L:List AVal)(a e:Int):dY:=λf args =>
 bif Nat.beq f 207 then(match args with
  |[.val (.str s)]=>bif s==s0 then some (some (.ret (.tup [.cptr (.agg []),.slice L,.agg [.int .i64 a,.int .i64 e]]))) else some none
  |_=>some none)
 else none
theorem RY{s0:List UInt8}{L:List AVal}{a e:Int}(h0:PureT Tryz.prog 207 [.str s0] [.cptr (.agg []),.slice L,.agg [.int .i64 a,.int .i64 e]])(B0:Nat):Env Tryz.prog ans B0 (SJ s0 L a e):=Yg λf args res h=>by
 unfold SJ at h;cases h1:Nat.beq f 207 with
 |true =>
  obtain rfl:=Aa h1;simp only[h1,Ba] at h
  split at h
  ·rename_i s
   cases hs:s==s0 with
   |false=>rw[hs] at h;cases h
   |true =>
    rw[hs] at h;cases h;obtain rfl:s=s0:=by simpa using hs
    exact h0.prim (by simp[lok,lokF])
  ·cases h
 |false=>rw[h1] at h;cases h
theorem pD{s:List UInt8}{k:Int}{pr:dY}(E:∀B0,Env Tryz.prog ans B0 pr)(h:eT Tryz.prog ans (DF Tryz.prog ans pr) (EH Tryz.prog ans pr) 157 [.val (.str s)] ⟨[],0⟩=some (.ret (.val (.int .i64 k)),⟨[],0⟩)):PureOK Tryz.prog 157 [.str s] (.int .i64 k):=PureOK.ofBody E h
theorem R0{s:List UInt8}{L:List AVal}{a e:Int}{sto:AN}:DF Tryz.prog ans (SJ s L a e) (.fn 207) [.val (.str s)] sto=some (.ret (.tup [.cptr (.agg []),.slice L,.agg [.int .i64 a,.int .i64 e]]),sto):=by
 refine Li (r:=.ret (.tup [.cptr (.agg []),.slice L,.agg [.int .i64 a,.int .i64 e]])) ?_ rfl;simp only[SJ,show Nat.beq 207 207=true from rfl,Dp,Ba]
theorem aBP(pr:dY)(s:List UInt8)(h:24<s.length):eT Tryz.prog ans (DF Tryz.prog ans pr) (EH Tryz.prog ans pr) 157 [.val (.str s)] ⟨[],0⟩=some (.ret (.val (.int .i64 0)),⟨[],0⟩):=by
 have hz:decide ((s.length:Int)>24)=true:=Ha (by omega);exact CT
theorem aDt(a:Int)(pr:dY)(s:List UInt8)(h:s.length<=24)(kind num:Int)(p:Nat)(hk:∀sto,DF Tryz.prog ans pr (.fn 207) [.val (.str s)] sto=some (.ret (.tup [.cptr (.agg []),.slice [.agg [.int .i64 kind,.int .i64 num,.str s,.int .i64 (p:Nat)]],.agg [.int .i64 a,.int .i64 0]]),sto)):eT Tryz.prog ans (DF Tryz.prog ans pr) (EH Tryz.prog ans pr) 157 [.val (.str s)] ⟨[],0⟩=some (.ret (.val (.int .i64 kind)),⟨[],0⟩):=by
 have hz:decide ((s.length:Int)>24)=false:=Dw (by omega);exact CT
theorem aDu(a:Int)(pr:dY)(s:List UInt8)(h:s.length<=24)(kind num:Int)(p:Nat)(BB:List UInt8)(hb:(BB==s)=false)(hk:∀sto,DF Tryz.prog ans pr (.fn 207) [.val (.str s)] sto=some (.ret (.tup [.cptr (.agg []),.slice [.agg [.int .i64 kind,.int .i64 num,.str BB,.int .i64 (p:Nat)]],.agg [.int .i64 a,.int .i64 0]]),sto)):eT Tryz.prog ans (DF Tryz.prog ans pr) (EH Tryz.prog ans pr) 157 [.val (.str s)] ⟨[],0⟩=some (.ret (.val (.int .i64 0)),⟨[],0⟩):=by
 have hz:decide ((s.length:Int)>24)=false:=Dw (by omega);exact CT
theorem qe(a:Int)(pr:dY)(s:List UInt8)(h:s.length<=24)(L:List AVal)(h2:((L.length:Int) != 1)=true)(hk:∀sto,DF Tryz.prog ans pr (.fn 207) [.val (.str s)] sto=some (.ret (.tup [.cptr (.agg []),.slice L,.agg [.int .i64 a,.int .i64 0]]),sto)):eT Tryz.prog ans (DF Tryz.prog ans pr) (EH Tryz.prog ans pr) 157 [.val (.str s)] ⟨[],0⟩=some (.ret (.val (.int .i64 0)),⟨[],0⟩):=by
 have hz:decide ((s.length:Int)>24)=false:=Dw (by omega);exact CT
theorem aDs(pr:dY)(s:List UInt8)(h:s.length<=24)(L:List AVal)(a e:Int)(h2:(e != 0)=true)(hk:∀sto,DF Tryz.prog ans pr (.fn 207) [.val (.str s)] sto=some (.ret (.tup [.cptr (.agg []),.slice L,.agg [.int .i64 a,.int .i64 e]]),sto)):eT Tryz.prog ans (DF Tryz.prog ans pr) (EH Tryz.prog ans pr) 157 [.val (.str s)] ⟨[],0⟩=some (.ret (.val (.int .i64 0)),⟨[],0⟩):=by
 have hz:decide ((s.length:Int)>24)=false:=Dw (by omega);exact CT
def U5(s:List UInt8)(k:Int):Prop:=(k≠0->s.length<=24/\qN s 0 k s)/\(s.length<=24->xe s->∃kd BB,qN s 0 kd BB/\(BB=s->k=kd))
theorem z8{k n k' n':Int}{t t':List UInt8}{p p':Nat}(h:cV k n t p=cV k' n' t' p'):k=k'/\t=t'/\p=p':=by
 simp only[cV,AVal.agg.injEq,Cz,AVal.int.injEq,AVal.str.injEq,Int.ofNat_inj,Fi,Fs] at h;exact⟨h.1,h.2.2.1,h.2.2.2⟩
theorem aH5(s:List UInt8)(hs:s.length<=24)(L:List AVal)(hL:∀t∈L,zz s t)(hS:xe s->∃kd num BB,L=[cV kd num BB 0]/\qN s 0 kd BB)
  (h0:PureT Tryz.prog 207 [.str s] [.cptr (.agg []),.slice L,.agg [.int .i64 0,.int .i64 0]]):∃k:Int,PureOK Tryz.prog 157 [.str s] (.int .i64 k)/\U5 s k/\∀kd num p,L=[cV kd num s p]->k=kd:=by
 by_cases h1:L.length=1
 ·obtain⟨t,rfl⟩:=List.length_eq_one_iff.1 h1
  obtain⟨kind,num,BB,p,rfl,hq,hp⟩:=hL t (by simp);by_cases ht:BB=s
  ·subst ht
   obtain rfl:p=0:=by omega
   refine⟨kind,pD (RY h0) (aDt 0 _ BB hs kind num 0 (λsto=>R0)),⟨λ_=>⟨hs,hq⟩,λ_ _=>⟨kind,BB,hq,λ_=>rfl⟩⟩,λkd Ox p' e=>?_⟩;exact(z8 (Fu e).1).1
  ·refine⟨0,pD (RY h0) (aDu 0 _ s hs kind num p BB (by simpa using ht) (λsto=>R0)),⟨λh=>absurd rfl h,λ_ JF=>?_⟩,λkd Ox p' e=>?_⟩
   ·obtain⟨kd,n',Oc,e,JG⟩:=hS JF
    have e':=z8 (Fu e).1;exact⟨kd,Oc,JG,λh=>absurd (e'.2.1.trans h) ht⟩
   ·exact absurd (z8 (Fu e).1).2.1 ht
 ·refine⟨0,pD (RY h0) (qe 0 _ s hs L (by simpa using(by omega:¬(L.length:Int)=1)) (λsto=>R0)),⟨λh=>absurd rfl h,λ_ JF=>?_⟩,λkd Ox p' e=>?_⟩
  ·obtain⟨kd,n',Oc,e,_⟩:=hS JF
   exact absurd (by rw[e];rfl) h1
  ·exact absurd (by rw[e];rfl) h1
theorem aJH(s:List UInt8):∃k:Int,PureOK Tryz.prog 157 [.str s] (.int .i64 k)/\U5 s k:=by
 by_cases h:24<s.length
 ·exact⟨0,pD aQ9 (aBP pr0 s h),λh=>absurd rfl h,λh'=>by omega⟩
 ·rcases h4 s (by omega) with⟨at',X',L',hk,_,hL,hS⟩|⟨at',X',L',a,e,hk,hS⟩
  ·obtain⟨k,h1,h2,_⟩:=aH5 s (by omega) L' hL hS (aHt s at' X' L' hk)
   exact⟨k,h1,h2⟩
  ·by_cases he:e=0
   ·subst he
    exact⟨0,pD (RY (aFL s at' X' L' a 0 hk)) (qe a _ s (by omega) [] rfl (λsto=>R0)),λh=>absurd rfl h,λ_ h=>absurd h hS⟩
   ·exact⟨0,pD (RY (aFL s at' X' L' a e hk)) (aDs _ s (by omega) [] a e (by simpa using he) (λsto=>R0)),λh=>absurd rfl h,λ_ h=>absurd h hS⟩
noncomputable def IL(s:List UInt8):Int:=Classical.choose (aJH s)
theorem YY(s:List UInt8):PureOK Tryz.prog 157 [.str s] (.int .i64 (IL s))/\U5 s (IL s):=Classical.choose_spec (aJH s)
theorem aOV(s:List UInt8):PureOK Tryz.prog 157 [.str s] (.int .i64 (IL s)):=(YY s).1
def VH(kd:List UInt8->Int)(k:Int)(s:List UInt8):Bool:=kd s==k
theorem aIH(p:Int->Bool)(s:List UInt8)(i:Nat)(hp:i<s.length->p (aZ s i)=false):runN p s i=0:=by
 unfold runN;rcases Ck i s.length with h|h
 ·rw[Cc h,Ff]
  have:aZ s i=(s[i].toNat:Nat):=by unfold aZ;rw[Bf h]
  rw[<-this,hp h];rfl
 ·rw[Dn h];rfl
theorem aFa(s:List UInt8)(h:0<s.length):iJ s 0<=s.length:=by
 have h1:=kY eO s 0;have h2:=kY jA s (0+(runN eO s 0+1));unfold iJ;simp only[Bn] at *;cases h3:(aZ s (runN eO s 0)==39) with
 |false=>simp only[Aq];omega
 |true =>
  have h5:runN eO s 0<s.length:=pB _ _ (by intro e;rw[e] at h3;cases h3);simp only[Ba];cases decide (((runN jA s (runN eO s 0+1):Nat):Int)>0) with
  |true=>simp only[Ba];omega
  |false=>simp only[Aq];omega
theorem uA(s:List UInt8)(h:0<s.length):(jT s 0).length=iJ s 0:=by
 have:=aFa s h
 unfold jT;rw[Ee,Cj];omega
theorem ef(s:List UInt8)(h:0<s.length):jT s 0=s↔iJ s 0=s.length:=by
 constructor
 ·intro e;rw[<-uA s h,e]
 ·intro e;unfold jT;rw[e,Bn,Ee,Ez]
theorem kok(s:List UInt8):U5 s (IL s):=(YY s).2
theorem aCl{c:Int}(h:eO c=true\/(c==39)=true):lD c=false/\c≠40:=by
 simp only[eO,cH,cU,jA,lD,Db,Ac,Am,Dq,Dv,Em,ne_eq] at h ⊢;omega
theorem aPu(s:List UInt8)(h:0<s.length)(hc:lD (aZ s 0)=false/\aZ s 0≠40):pn s 0:=by
 refine⟨aIH lD s 0 λ_=>hc.1,?_⟩;cases s with
 |nil=>simp at h
 |cons b l =>
  have h1:aZ (b::l) 0=(b.toNat:Nat):=rfl;rw[h1] at hc
  have:(40:UInt8)≠b:=λe=>by subst e;exact hc.2 rfl
  show List.isPrefixOf [40,42] (b::l)=false;simp only[List.isPrefixOf];rw[show((40:UInt8)==b)=false by simpa using this];rfl
theorem aCA(s:List UInt8)(h1:0<s.length)(h2:s.length<=24)(hc:cH (aZ s 0)=true\/cU (aZ s 0)=true)(hn:iJ s 0=s.length):xe s:=by
 have hp:eO (aZ s 0)=true:=by rcases hc with h|h;exact qG h;exact qF h
 refine⟨⟨h1,λhr=>?_,λkd BB hq=>?_⟩,aPu s h1 (aCl (.inl hp))⟩
 ·rcases hc with h|h
  ·have:=hr.small h;omega
  ·have:=hr.great h;omega
 ·rcases hc with h|h
  ·rw[(hq.small h).1,uA s h1];omega
  ·have h3:=(rZ h).1
   rw[(hq.great h3 h).1,uA s h1];omega
def wB(p:Int->Bool)(s:List UInt8):Bool:=decide (0<s.length)&&decide (s.length<=24)&&p (aZ s 0)&&decide (iJ s 0=s.length)
theorem aLI(s:List UInt8):VH IL 3 s=wB cU s:=by
 unfold wB VH;obtain⟨hA,hB⟩:=kok s;rw[Dz];constructor
 ·intro h
  have h3:IL s=3:=by simpa using h
  rw[h3] at hA;obtain⟨hl,hq⟩:=hA (by decide)
  have hg:cU (aZ s 0)=true:=by
   cases hs:cH (aZ s 0) with
   |true =>
    have:=(hq.small hs).2
    cases hw:wordL.contains s<;>rw[hw] at this<;>cases this
   |false =>
    cases hg:cU (aZ s 0) with
    |true=>rfl
    |false =>
     exfalso;cases KZ:(aZ s 0==39) with
     |false=>rcases hq.other hs hg (.inl KZ) with e|e<;>cases e
     |true =>
      cases h1:cH (aZ s (0+1)) with
      |false=>rcases hq.other hs hg (.inr h1) with e|e<;>cases e
      |true=>have:=(hq.var KZ h1).2;cases this
  have hlen:0<s.length:=pB s 0 (λe=>by rw[e] at hg;cases hg);have hn:jT s 0=s:=((hq.great (rZ hg).1 hg).1).symm;simp only[Ac,Am];exact⟨⟨⟨hlen,hl⟩,hg⟩,(ef s hlen).1 hn⟩
 ·intro h
  simp only[Ac,Am] at h;obtain⟨⟨⟨h1,h2⟩,hg⟩,hn⟩:=h;obtain⟨kd,BB,hq,hk⟩:=hB h2 (aCA s h1 h2 (.inr hg) hn);have ht:=hq.great (rZ hg).1 hg;have EI:BB=s:=ht.1.trans ((ef s h1).2 hn)
  have hw:wordL.contains BB=false:=by
   cases hw:wordL.contains BB with
   |false=>rfl
   |true =>
    exfalso;rw[EI] at hw;have hm:s∈wordL:=by simpa using hw
    have:∀w∈wordL,cU (aZ w 0)=false:=by decide
    rw[this s hm] at hg;cases hg
  rw[hk EI,ht.2,hw];rfl
theorem kd3(c:List UInt8):IL c=3↔wB cU c=true:=by
 have h:=aLI c;unfold VH at h;rw[<-h,Dq]
theorem aD8:∀c∈xY,IL c=3:=λc hc=>(kd3 c).2 ((show ∀c∈xY,wB cU c=true by decide) c hc)
theorem aJQ(c:List UInt8)(h:IL c=3):c≠[]/\c≠[44]:=by
 rw[kd3] at h;constructor
 ·rintro rfl;exact absurd h (by decide)
 ·rintro rfl;exact absurd h (by decide)
end
end Go.Proofs.YtdkkaldimefljaaGreatDoor
