import Derived.Test.YtoiocfngjchdiaaGreatDoorT05
set_option linter.all false
set_option maxRecDepth 100000
set_option maxHeartbeats 8000000
namespace Go.AM
open Go.RowKit
variable {P:Program}{ans:FuncId->AF}{an:AF}{w:World}{B0:Nat}{Ψ:HT}{J:List Nat}{ow:Own}{tmps:Array Value}
def uH(O:List ai)(j i k:Nat)(tI:TypeId)(a f g:List UInt8)(y z x:ae):List ai :=
 ((O.set j (.fw (.ay (.agg [.str a,y,.rc tI f a y z])))).set i (.fw (.rc tI f a y z))).set k (.fw (.ay (.agg [.str g,.iface tI (.ay (.agg [.str a,y,.rc tI f a y z])),x])))
theorem aDj{E:Nat->Slot}{O:List ai}(h:Rel P ans B0 w Ψ J ow an E tmps O){j i k:Nat}{a f g:List UInt8}{y z x:ae}{tI:TypeId}(FD:j≠i)(UT:j≠k)(PV:i≠k)
  (hj:O[j]?=some (.box [.val (.str a),.val y,.val .cW])) (hi:O[i]?=some (.box [.val (.str f),.val (.iface tI (.loc j 0)),.val z])) (hk:O[k]?=some (.box [.val (.str g),.val (.iface tI (.loc j 0)),.val x])) (Ms:flat y=true) (Iv:flat z=true) (Rv:flat x=true) :
  ∃bj bi vs T w' Z' AO,J[j]?=some bj/\J[i]?=some bi/\w.heap[bj]?=some (.cells ⟨vs⟩ T (0,0))/\vs.length=3/\w'=w.putObj bj (.cells ⟨overwrite vs 2 [.pointer (some ⟨bi,0,none⟩)]⟩ T (0,0))/\Rel P ans B0 w' Z' J AO an E tmps (uH O j i k tI a f g y z x)/\Fr w Ψ ow w' Z' AO:=by
 obtain⟨bi,Ix,oi⟩:=h.objs.2 i _ hi;obtain⟨bj,Nd,oj⟩:=h.objs.2 j _ hj;obtain⟨bk,hbk,ok⟩:=h.objs.2 k _ hk;cases oi with
 |box _ _ oi =>
 cases oj with
 |box _ _ oj =>
 cases ok with
 |box _ _ ok =>
 obtain⟨wi,_,fi,vi,Ti,gi,li,ri⟩:=oi;obtain⟨wj,_,fj,vj,Tj,gj,lj,rj⟩:=oj;obtain⟨wk,_,a5B,a7y,a8b,a5I,lk,rk⟩:=ok
 match vi,li with
 |[v0,v1,v2],_ =>
 match vj,lj with
 |[u0,u1,u2],_ =>
 match a7y,lk with
 |[x0,x1,x2],_ =>
 have ptr:∀{n:Nat}{v:Value},am Ψ (J.take (n+1)) (.iface tI (.loc j 0)) v->v=.iface tI (.pointer (some ⟨bj,0,none⟩)):=λ{n v} hv=>by
  cases hv with
  |iface _ _ u hu=>cases hu with
   |loc _ _ b hb =>
    rw[Bl] at hb
    split at hb
    ·rw[Nd] at hb;cases hb;rfl
    ·cases hb
 have c0:v0=.string ⟨⟨f⟩⟩:=by have:=ri 0 _ _ rfl rfl;cases this with|val _ _ _ hv=>cases hv;rfl
 have c1:v1=.iface tI (.pointer (some ⟨bj,0,none⟩)):=by have:=ri 1 _ _ rfl rfl;cases this with|val _ _ _ hv=>exact ptr hv
 have c2:am Ψ [] z v2:=by have:=ri 2 _ _ rfl rfl;cases this with|val _ _ _ hv=>exact hv.flat Iv
 have d0:u0=.string ⟨⟨a⟩⟩:=by have:=rj 0 _ _ rfl rfl;cases this with|val _ _ _ hv=>cases hv;rfl
 have d1:am Ψ [] y u1:=by have:=rj 1 _ _ rfl rfl;cases this with|val _ _ _ hv=>exact hv.flat Ms
 have e0:x0=.string ⟨⟨g⟩⟩:=by have:=rk 0 _ _ rfl rfl;cases this with|val _ _ _ hv=>cases hv;rfl
 have e1:x1=.iface tI (.pointer (some ⟨bj,0,none⟩)):=by have:=rk 1 _ _ rfl rfl;cases this with|val _ _ _ hv=>exact ptr hv
 have e2:am Ψ [] x x2:=by have:=rk 2 _ _ rfl rfl;cases this with|val _ _ _ hv=>exact hv.flat Rv
 subst c0 c1 d0 e0 e1;have nji:bj≠bi:=λe0=>by rw[e0,wi] at wj;cases wj;exact FD rfl
 have njk:bj≠bk:=λe0=>by rw[e0,wk] at wj;cases wj;exact UT rfl
 have nik:bi≠bk:=λe0=>by rw[e0,wk] at wi;cases wi;exact PV rfl
 have PU:bj<w.heap.size:=(An.1 gj).1
 let vN:Value:=.pointer (some ⟨bi,0,none⟩)
 let w':World:=w.putObj bj (.cells ⟨[.string ⟨⟨a⟩⟩,u1,vN]⟩ Tj (0,0))
 have a54:w'.heap[bj]?=some (.cells ⟨[.string ⟨⟨a⟩⟩,u1,vN]⟩ Tj (0,0)):=World.putObj_heap_same PU;have GS:∀b,b≠bj->w'.heap[b]?=w.heap[b]?:=λb hb=>Bn (λe0=>hb e0.symm)
 have BD:w'.heap.size=w.heap.size:=by simp[w',World.putObj]
 let RR:ae:=.rc tI f a y z
 let C:ae:=.ay (.agg [.str a,y,RR])
 let Z':HT:=λb o c=>Ψ b o c\/(b=bj/\[ae.str a,y,RR][o]?=some c)\/(b=bi/\(SK tI f a y z).cells[o]?=some c)\/(b=bk/\[ae.str g,.iface tI C,x][o]?=some c)
 have hΨ:Ψ.le Z':=λb o c hc=>.inl hc
 have LV:∀b,b≠bi->b≠bj->b≠bk->∀o,Z' b o=Ψ b o:=λb h1 h2 h3 o=>by
  funext c;exact propext ⟨λhc=>by rcases hc with hc|⟨e0,_⟩|⟨e0,_⟩|⟨e0,_⟩;exact hc;exact absurd e0 h2;exact absurd e0 h1;exact absurd e0 h3,.inl⟩
 have hR:am Z' [] RR (.pointer (some ⟨bi,0,none⟩)):=.rc _ _ _ _ _ bi 0 λq c hc=>.inr (.inr (.inl ⟨rfl,by simpa using hc⟩))
 have hC:am Z' [] C (.pointer (some ⟨bj,0,none⟩)):=.ay _ bj 0 λq c hc=>.inr (.inl ⟨rfl,by simpa[ae.cells] using hc⟩)
 have hN:am Z' [] (.ay (.agg [.str g,.iface tI C,x])) (.pointer (some ⟨bk,0,none⟩)):=.ay _ bk 0 λq c hc=>.inr (.inr (.inr ⟨rfl,by simpa[ae.cells] using hc⟩))
 have KN:∀o,w'.cell? ⟨bi,o,none⟩=[Value.string ⟨⟨f⟩⟩,.iface tI (.pointer (some ⟨bj,0,none⟩)),v2][o]?:=λo=>cell_of_heap ((GS bi (λe0=>nji e0.symm)).trans gi) o
 have KM:∀o,w'.cell? ⟨bj,o,none⟩=[Value.string ⟨⟨a⟩⟩,u1,vN][o]?:=λo=>cell_of_heap a54 o
 have a4D:∀o,w'.cell? ⟨bk,o,none⟩=[Value.string ⟨⟨g⟩⟩,.iface tI (.pointer (some ⟨bj,0,none⟩)),x2][o]?:=λo=>cell_of_heap ((GS bk (λe0=>njk e0.symm)).trans a5I) o
 have CS:∀b o c,Ψ b o c->b≠bi/\b≠bj/\b≠bk:=λb o c hc=>⟨λe0=>by subst e0;rw[fi o] at hc;exact hc,λe0=>by subst e0;rw[fj o] at hc;exact hc,λe0=>by subst e0;rw[a5B o] at hc;exact hc⟩
 have hw:c_ Z' w':=⟨by rw[BD];exact h.b_.kS,λb o c hc=>by
  rcases hc with hc|⟨rfl,hc⟩|⟨rfl,hc⟩|⟨rfl,hc⟩
  ·obtain⟨h1,v,h2,h3⟩:=h.b_.sat b o c hc
   exact⟨h1,v,(m8 (GS b (CS b o c hc).2.1) o).trans h2,h3.mono hΨ (aG _)⟩
  ·rw[KM]
   match o with
   |0=>cases hc;exact⟨rfl,_,rfl,.str _⟩
   |1=>cases hc;exact⟨Ms,_,rfl,d1.mono hΨ (aG _)⟩
   |2=>cases hc;exact⟨rfl,_,rfl,hR⟩
   |o+3=>cases hc
  ·rw[KN]
   match o with
   |0=>cases hc;exact⟨rfl,_,rfl,.str _⟩
   |1=>cases hc;exact⟨rfl,_,rfl,.iface _ _ _ hC⟩
   |2=>cases hc;exact⟨Iv,_,rfl,c2.mono hΨ (aG _)⟩
   |o+3=>cases hc
  ·rw[a4D]
   match o with
   |0=>cases hc;exact⟨rfl,_,rfl,.str _⟩
   |1=>cases hc;exact⟨rfl,_,rfl,.iface _ _ _ hC⟩
   |2=>cases hc;exact⟨Rv,_,rfl,e2.mono hΨ (aG _)⟩
   |o+3=>cases hc⟩
 let AO:Own:=λb=>if b=bi\/b=bj\/b=bk then none else ow b
 have B6:∀kk q,(kk=false\/q≠i/\q≠j/\q≠k)->e_ w Ψ ow w' Z' AO kk q kk q:=λkk q hq b s hb=>by
  have h1:b≠bi:=λe0=>by subst e0;rw[wi] at hb;cases hb;rcases hq with hq|hq;cases hq;exact hq.1 rfl
  have h2:b≠bj:=λe0=>by subst e0;rw[wj] at hb;cases hb;rcases hq with hq|hq;cases hq;exact hq.2.1 rfl
  have h3:b≠bk:=λe0=>by subst e0;rw[wk] at hb;cases hb;rcases hq with hq|hq;cases hq;exact hq.2.2 rfl
  exact⟨by simp[AO,h1,h2,h3,hb],GS b h2,λo ho=>by rw[LV b h1 h2 h3 o];exact ho⟩
 have K4:i_ w' B0 Z' J AO ans (uH O j i k tI a f g y z x):=by
  refine⟨by simp[uH,h.objs.1],λq o ho=>?_⟩;unfold uH at ho;rw[Ce] at ho
  split at ho
  ·rename_i hq
   subst hq
   split at ho
   ·cases ho;exact⟨bk,hbk,.fw _ _ hN⟩
   ·cases ho
  ·rename_i hq
   rw[Ce] at ho
   split at ho
   ·rename_i Ju
    subst Ju
    split at ho
    ·cases ho;exact⟨bi,Ix,.fw _ _ hR⟩
    ·cases ho
   ·rename_i Ju
    rw[Ce] at ho
    split at ho
    ·rename_i Ri
     subst Ri
     split at ho
     ·cases ho;exact⟨bj,Nd,.fw _ _ hC⟩
     ·cases ho
    ·rename_i Ri
     obtain⟨b,h1,h2⟩:=h.objs.2 q o ho;exact⟨b,h1,h2.mono hΨ (aG _) (B6 true q (.inr ⟨λe0=>Ju e0.symm,λe0=>Ri e0.symm,λe0=>hq e0.symm⟩))⟩
 have NA:Rel P ans B0 w' Z' J AO an E tmps (uH O j i k tI a f g y z x) :=
  ⟨h.size,hw,λq=>(h.dr q).mono hΨ (aG _) (B6 false q (.inl rfl)) (λ_ _ _=>rfl),h.refs,h.boxes,K4,λb hb=>by
   have:ow b≠none:=λe0=>hb (by simp only[AO];split<;>first|rfl|exact e0)
   rw[BD];exact h.lt b this,by rw[BD];exact h.base,h.hi⟩
 refine⟨bj,bi,_,Tj,w',Z',AO,Nd,Ix,gj,rfl,rfl,NA,⟨hΨ,by rw[BD];exact Ae _,λb hb IJ=>?_,λb hb=>.inl λe0=>hb (by simp only[AO];split<;>first|rfl|exact e0),rfl,rfl,rfl⟩⟩;have h1:b≠bi:=λe0=>by subst e0;rw[wi] at IJ;cases IJ
 have h2:b≠bj:=λe0=>by subst e0;rw[wj] at IJ;cases IJ
 have h3:b≠bk:=λe0=>by subst e0;rw[wk] at IJ;cases IJ
 exact⟨GS b h2,LV b h1 h2 h3⟩
theorem aW4{c:Rc}{tm tm':List Slot}{sto:AH}{k k':List Item}{AY:St}{id:Nat}{o0 o1 o2 o3 o4:Oper}{sc:List (Nat×Slot)}(H:c.OK){t:TypeId}{p q:Nat}(hI:Is o4 none (.store t (.tmp p) (.tmp q)))
  {j i m:Nat} {a f g:List UInt8} {y z x:ae} {tI:TypeId} (hs:aU c.P t=some 1) (FD:j≠i) (UT:j≠m) (PV:i≠m)
  (hj:sto.objs[j]?=some (.box [.val (.str a),.val y,.val .cW])) (hi:sto.objs[i]?=some (.box [.val (.str f),.val (.iface tI (.loc j 0)),.val z])) (hk:sto.objs[m]?=some (.box [.val (.str g),.val (.iface tI (.loc j 0)),.val x])) (Ms:flat y=true) (Iv:flat z=true) (Rv:flat x=true)
  (h:∀(R:Type)(kp:ae->RS->Option R)(kn:RS->Option R),j3 c.P c.ans (c.ans c.fid) false c.cf tm id #[o0,o1,o2,o3,o4] kp kn [o0,o1,o2,o3] 0 ⟨[],sto⟩=kn ⟨sc,sto⟩) (hp:AZ (c.ans c.fid).keep tm ⟨sc,sto⟩ (.tmp p)=.val (.loc j 2)) (hq:AZ (c.ans c.fid).keep tm ⟨sc,sto⟩ (.tmp q)=.val (.loc i 0)) (hc:ed (c.ans c.fid).keep tm sc=tm')
  (h':bE c ⟨tm',⟨uH sto.objs j i m tI a f g y z x,sto.lo⟩⟩ k AY k'):bE c ⟨tm,sto⟩ (.code (.region id #[o0,o1,o2,o3,o4] false)::k) AY k':=.trans (λw Ψ J ow tmps hA=>by
 have e:gF c.P c.ans (c.ans c.fid) false c.cf tm id #[o0,o1,o2,o3,o4] (λ_ rs=>some (false,rs)) (λrs=>some (true,rs)) [0,1,2,3] ⟨[],sto⟩=_:=h (Bool×RS) (λ_ rs=>some (false,rs)) (λrs=>some (true,rs));rcases a34 (ds:=c.ds) (b:=c.b) (items:=k) (cs:=c.cs) (l2:=[4]) H.cf hA.nr (rs:=⟨[],sto⟩) hA.rel hA.lo e with⟨rs',w1,Z1,J1,BR,BF,a1,a2,a3,a4,a5,a6⟩|⟨_,rs',v,w',Z',J',AO,tmps',DF,a1,_⟩
 ·simp only[Am,Bq,Fw] at a1
  subst a1;obtain⟨bj,bi,vs,T,w2,Z2,CG,b1,b2,b3,b4,b5,b6,b7⟩:=aDj a2 FD UT PV hj hi hk Ms Iv Rv;obtain⟨a8D,Hi,_⟩:=bH (ds:=c.ds) a2 (.tmp p);obtain⟨tq,Tz,_⟩:=bH (ds:=c.ds) a2 (.tmp q);rw[hp] at Hi;rw[hq] at Tz
  have a7A:(⟨BF,c.ds⟩:Act).eval (.tmp p)=.pointer (some ⟨bj,2,none⟩):=by
   generalize(⟨BF,c.ds⟩:Act).eval (.tmp p)=u at Hi;cases Hi with|val _ _ hv=>cases hv with|loc _ _ b hb=>rw[b1] at hb;cases hb;rfl
  have a7B:(⟨BF,c.ds⟩:Act).eval (.tmp q)=.pointer (some ⟨bi,0,none⟩):=by
   generalize(⟨BF,c.ds⟩:Act).eval (.tmp q)=u at Tz;cases Tz with|val _ _ hv=>cases hv with|loc _ _ b hb=>rw[b2] at hb;cases hb;rfl
  have S4:=aIh (P:=c.P) (b:=c.b) (tm:=BF) (ds:=c.ds) (k:=k) (cs:=c.cs) (w:=w1) (w':=w2) (rest:=[]) (ops:=#[o0,o1,o2,o3,o4]) (i:=4) rfl hI (λc e=>by cases e) (by
   have:=eW (P:=c.P) (t:=t) (o:=2) (v:=.pointer (some ⟨bi,0,none⟩)) hs b3 (λu hu=>by simp[Value.cells] at hu;subst hu;rfl) (by simp[Value.cells,b4])
   simp only[execOp,Instr.storeAt,a7A,a7B,Instr.sureAddr];rw[b5];simp[this,overwrite,Value.cells])
  have Kd:=At.ed (sto:=⟨uH sto.objs j i m tI a f g y z x,sto.lo⟩) (rs:=⟨sc,⟨uH sto.objs j i m tI a f g y z x,sto.lo⟩⟩) hA.nr b6 (by show sto.lo<=(uH _ _ _ _ _ _ _ _ _ _ _).length;simpa[uH] using hA.lo) rfl;rw[hc] at Kd;refine⟨w2,Z2,J1,CG,BF,Kd,a3.trans b7,a4,(Steps.one stepR_region).trans ?_⟩;exact a6.trans (S4.trans (.one stepR_region_end))
 ·simp at a1) h'
theorem aTk{c:Rc}{tm tm':List Slot}{sto:AH}{k k':List Item}{AY:St}(l:List Nat)(e:dZ sto.objs l (c.ans c.fid).keep tm=tm')(h:bE c ⟨tm',sto⟩ k AY k'):bE c ⟨tm,sto⟩ k AY k':=λw Ψ J ow tmps hA=>h w Ψ J ow tmps (e▸hA.nN l)
theorem aDk(O:List ai)(A B C:ai)(tI:TypeId)(a f g:List UInt8)(y z x:ae):uH (O++[A,B,C]) O.length (O.length+1) (O.length+2) tI a f g y z x=O++[.fw (.ay (.agg [.str a,y,.rc tI f a y z])),.fw (.rc tI f a y z),.fw (.ay (.agg [.str g,.iface tI (.ay (.agg [.str a,y,.rc tI f a y z])),x]))]:=by
 simp[uH]
theorem a3d{j:Nat}{v:Value}{s:Slot}(h:∀u o,s≠.ref u o):cv j v s s:=.inr (.inl ⟨rfl,h⟩)
theorem a3c{j:Nat}{v:Value}{s:Slot}:cv j v s .dead:=.inl rfl
theorem aL2{j:Nat}{v:Value}:cv j v (.val (.loc j 0)) (.val (.raw v)):=.inr (.inr (.inl ⟨rfl,rfl⟩))
theorem aL1{j:Nat}{v:Value}:cv j v (.val (.raw v)) (.val (.loc j 0)):=.inr (.inr (.inr ⟨rfl,rfl⟩))
theorem OG(v:Value):(ae.raw v).cells=[.raw v]:=rfl
end Go.AM
namespace Go.Proofs.YtoiocfngjchdiaaGreatDoor
open Go.AM
open Go.RowKit
variable [h_]
theorem aKk(e:aq)(s:List UInt8)(j:Nat)(sto:AH)(hj:j<sto.objs.length):CF (.fn 102) [.val e.enc,.val (.str s),.val (.iface 139 (.loc j 0))] sto=some (.ret (.val (.loc sto.objs.length 0)),⟨sto.objs++[.box [.val (.str s),.val (.iface 139 (.loc j 0)),.val e.enc]],sto.lo⟩):=by
 have h4:mF (.val (.iface 139 (.loc j 0)))=false:=rfl;have h5:mF (.val (.str s))=true:=rfl;have hb:Nat.blt sto.objs.length sto.objs.length=false:=Fm.2 λh=>by have:=Ad h;omega
 have hk:Nat.ble (j+1) sto.objs.length=true:=Ah hj;have YK:Nat.ble j.succ sto.objs.length=true:=hk;clear hj;rcases e.three with h|⟨x,h⟩|⟨t,f,a,b,o,h⟩<;>rw[h]
 all_goals
  clear h;apply tA;rfl;rfl;exact Tryz.func102;rfl;rfl;simp only[go_sem];rfl;refine tQ ?_;repeat first|with_reducible constructor|with_reducible refine tW rfl ?_|((with_reducible apply tG);(·kernel_rfl);(·(intro _ _;(repeat (apply BL;(·(intro _;simp only[*,go_sem,Nat.reduceAdd,reduceIte,fB,cw,qB,QW,lF,ng,clean];rfl))));rfl));(·(simp only[go_sem];rfl)))|((with_reducible apply t1);(·(simp only[go_sem];rfl));(·rfl))|((with_reducible apply t0);(·(simp only[go_sem];rfl));(·rfl))|((with_reducible apply tl);(·assumption))
  exact aKt (v:=.loc sto.objs.length 0) (t:=6) rfl rfl rfl hb
theorem r3(B0:Nat)(b:Frame)(cs:List Frame)(H:(sL B0 b cs).OK)(items:List Item)(O:List ai)(lo ip:Nat)(AP:lo<=O.length)(pre ys:List ax)(f:gu)(ir:Nat)(fe ne:aq)(ou:List ae)(hb:(pre++mS f::ys).length<1000)
  (hp:O[ip]?=some (.box [.val (.slice ((pre++mS f::ys).map ax.enc))])) :
  ∃(M:List ai)(s6 s10 BK BU JD FJ BH B5 B2 H3 Lg Lf Ld Lc Lb H9 H8 H7 H6 H5 H4:Slot),bE (sL B0 b cs) ⟨[.val (.loc ir 0),.val (.loc ip 0),.val (.slice []),.dead,.own 4 ou,.val fe.enc,.val ne.enc,.dead,.dead,.dead,.dead,.dead,.dead,.dead,.val (.int .i64 ((pre++mS f::ys).length:Nat)),.val (.int .i64 (pre.length:Nat)),.dead,.dead,.dead,.dead,.dead,.dead,.dead,.dead,.dead,.dead,.dead,.dead,.dead],⟨O,lo⟩⟩ (.code (aN Tryz.f34 0)::items)
   ⟨[.val (.loc ir 0),.val (.loc ip 0),.val (.slice []),s6,.own 4 ou,.val (aq.rc f.name f.arg f.body fe).enc,.val (aq.cons f.name (.fn f.arg f.body (.rc f.name f.arg f.body fe)) ne).enc,s10,BK,BU,JD,FJ,BH,B5,.val (.int .i64 ((pre++mS f::ys).length:Nat)),.val (.int .i64 ((pre++[mS f]).length:Nat)),B2,H3,Lg,Lf,Ld,Lc,Lb,H9,H8,H7,H6,H5,H4],⟨O++M,lo⟩⟩ items:=by
 have AN:=cQ ax.enc pre ys (mS f);have AL:=CQ pre ys (mS f);have h0:=zI pre.length;have hw:=wL pre ys (mS f) (by simp only[AR];omega);have hE:(mS f).enc=.agg [.int .i64 3,.str [],.slice [],.slice [],.str [],.str [],.slice [],.slice [.agg [.str f.name,.str f.arg,.int .i64 f.body.kind,.int .i64 f.body.num,.str f.body.name,.str f.body.arg,.slice (f.body.args.map af.enc),.slice (f.body.ez.map ag.enc)]],.int .i64 0,.int .i64 0,.str [],.str [],.slice [],.slice []]:=rfl;rw[hE] at AN;have K3:=λM=>(Az (l₂:=M) (Ab.1 hp).1).trans hp
 have MF:=λM=>aKk fe f.name O.length ⟨O++ai.box [.val (.str f.arg),.val (.ay (.agg [.int .i64 f.body.kind,.int .i64 f.body.num,.str f.body.name,.str f.body.arg,.slice (f.body.args.map af.enc),.slice (f.body.ez.map ag.enc)])),.val .cW]::M,lo⟩ (by simp)
 have DB:=λM=>aKk ne f.name O.length ⟨O++ai.box [.val (.str f.arg),.val (.ay (.agg [.int .i64 f.body.kind,.int .i64 f.body.num,.str f.body.name,.str f.body.arg,.slice (f.body.args.map af.enc),.slice (f.body.ez.map ag.enc)])),.val .cW]::M,lo⟩ (by simp)
 have g1:=fe.clean;have g2:=ne.clean;have g3:=fe.flat;have g4:=ne.flat;have f1:mF (.val .cW)=true:=rfl;simp only[aq.oa,aq.oX,au.tp,af.aw f.body];generalize pre++mS f::ys=D at *;generalize(pre++[mS f]).length=N2 at *;clear hb hE;generalize fe.enc=F at *;generalize ne.enc=N at *;refine⟨?_,?_⟩
 rotate_left
 iterate 21 apply Exists.intro
 refine R3 rfl ?_;repeat first|with_reducible refine nH ?_|with_reducible refine iI ?_|with_reducible refine eQ ?_|with_reducible refine cT ?_|((with_reducible apply iG);(·rfl))|((with_reducible apply nG H);(·(intro _ _;(repeat (apply BL;(·(intro _;simp only[*,go_sem,Nat.reduceAdd,reduceIte,FL,FO,fB,lF,qB,Ay];rfl))));rfl));(·(simp only[go_sem];rfl)))|((with_reducible apply iH H);(·kernel_rfl);(·(intro _ _;(repeat (apply BL;(·(intro _;simp only[*,go_sem,Nat.reduceAdd,reduceIte,FL,FO,fB,lF,qB,Ay];rfl))));rfl));(·(simp only[go_sem];rfl)))|((with_reducible apply Ha);(·(simp only[go_sem];rfl));(·first|rfl|assumption))|((with_reducible apply Hb);(·(simp only[go_sem];rfl));(·first|rfl|assumption))
 refine W9 ?_;repeat first|with_reducible refine nH ?_|with_reducible refine iI ?_|with_reducible refine eQ ?_|with_reducible refine cT ?_|((with_reducible apply iG);(·rfl))|((with_reducible apply nG H);(·(intro _ _;(repeat (apply BL;(·(intro _;simp only[*,go_sem,Nat.reduceAdd,reduceIte,FL,FO,fB,lF,qB,Ay];rfl))));rfl));(·(simp only[go_sem];rfl)))|((with_reducible apply iH H);(·kernel_rfl);(·(intro _ _;(repeat (apply BL;(·(intro _;simp only[*,go_sem,Nat.reduceAdd,reduceIte,FL,FO,fB,lF,qB,Ay];rfl))));rfl));(·(simp only[go_sem];rfl)))|((with_reducible apply Ha);(·(simp only[go_sem];rfl));(·first|rfl|assumption))|((with_reducible apply Hb);(·(simp only[go_sem];rfl));(·first|rfl|assumption))
 have o0:∀A B C:ai,(O++[A,B,C])[O.length]?=some A:=λA B C=>by simp
 have o1:∀A B C:ai,(O++[A,B,C])[O.length+1]?=some B:=λA B C=>by simp
 have o2:∀A B C:ai,(O++[A,B,C])[O.length+2]?=some C:=λA B C=>by simp
 have Ma:Nat.ble 1 room=true:=rfl;have w1:IntKind.i64.wrap (0+1)=1:=rfl
 refine aO0 (tmV:=?tmV) (sto':=?Gy) (k1:=?k1) (tmW:=λv=>[.val (.loc ir 0),.val (.loc ip 0),.val (.slice []),.dead,.own 4 ou,.val (.loc (O.length+1) 0),.val (.loc (O.length+2) 0),.dead,.dead,.own 1 [],.dead,.val (.raw v),.dead,.dead,.val (.int .i64 (D.length:Nat)),.val (.int .i64 (pre.length:Nat)),.dead,.dead,.dead,.dead,.val (.int .i64 ((1:Nat):Int)),.val (.int .i64 0),.dead,.dead,.dead,.dead,.dead,.dead,.dead])
  (tmS:=[.val (.loc ir 0),.val (.loc ip 0),.val (.slice []),.dead,.own 4 ou,.val (.loc (O.length+1) 0),.val (.loc (O.length+2) 0),.dead,.dead,.dead,.dead,.dead,.val (.loc O.length 0),.dead,.val (.int .i64 (D.length:Nat)),.val (.int .i64 (pre.length:Nat)),.dead,.dead,.dead,.dead,.dead,.dead,.dead,.dead,.val (.int .i64 ((1:Nat):Int)),.val (.int .i64 0),.dead,.dead,.dead]) O.length (o0 _ _ _) ?g1 ?g2 ?g3 ?g4
 case g1 =>
  intro v;repeat first|exact .nil|(refine .cons ?_ ?_;(·first|exact a3c|exact a3d (λ_ _ h=>by cases h)|exact aL2))
 case g2 =>
  intro v hv;repeat first|with_reducible refine nH ?_|with_reducible refine iI ?_|with_reducible refine eQ ?_|with_reducible refine cT ?_|((with_reducible apply iG);(·rfl))|((with_reducible apply nG H);(·(intro _ _;(repeat (apply BL;(·(intro _;simp only[*,go_sem,Nat.reduceAdd,reduceIte,OG,cB,clean,flat,List.replicate,Bu,Ak,Ap];rfl))));rfl));(·(simp only[go_sem];rfl)))|((with_reducible apply iH H);(·kernel_rfl);(·(intro _ _;(repeat (apply BL;(·(intro _;simp only[*,go_sem,Nat.reduceAdd,reduceIte,OG,cB,clean,flat,List.replicate,Bu,Ak,Ap];rfl))));rfl));(·(simp only[go_sem];rfl)))|((with_reducible apply Ha);(·(simp only[go_sem];rfl));(·first|rfl|assumption))|((with_reducible apply Hb);(·(simp only[go_sem];rfl));(·first|rfl|assumption))
  refine qZ ?_;repeat first|with_reducible refine nH ?_|with_reducible refine iI ?_|with_reducible refine eQ ?_|with_reducible refine cT ?_|((with_reducible apply iG);(·rfl))|((with_reducible apply nG H);(·(intro _ _;(repeat (apply BL;(·(intro _;simp only[*,go_sem,Nat.reduceAdd,reduceIte,OG,cB,clean,flat,List.replicate,Bu,Ak,Ap];rfl))));rfl));(·(simp only[go_sem];rfl)))|((with_reducible apply iH H);(·kernel_rfl);(·(intro _ _;(repeat (apply BL;(·(intro _;simp only[*,go_sem,Nat.reduceAdd,reduceIte,OG,cB,clean,flat,List.replicate,Bu,Ak,Ap];rfl))));rfl));(·(simp only[go_sem];rfl)))|((with_reducible apply Ha);(·(simp only[go_sem];rfl));(·first|rfl|assumption))|((with_reducible apply Hb);(·(simp only[go_sem];rfl));(·first|rfl|assumption))
  refine W9 ?_;repeat first|with_reducible refine nH ?_|with_reducible refine iI ?_|with_reducible refine eQ ?_|with_reducible refine cT ?_|((with_reducible apply iG);(·rfl))|((with_reducible apply nG H);(·(intro _ _;(repeat (apply BL;(·(intro _;simp only[*,go_sem,Nat.reduceAdd,reduceIte,OG,cB,clean,flat,List.replicate,Bu,Ak,Ap];rfl))));rfl));(·(simp only[go_sem];rfl)))|((with_reducible apply iH H);(·kernel_rfl);(·(intro _ _;(repeat (apply BL;(·(intro _;simp only[*,go_sem,Nat.reduceAdd,reduceIte,OG,cB,clean,flat,List.replicate,Bu,Ak,Ap];rfl))));rfl));(·(simp only[go_sem];rfl)))|((with_reducible apply Ha);(·(simp only[go_sem];rfl));(·first|rfl|assumption))|((with_reducible apply Hb);(·(simp only[go_sem];rfl));(·first|rfl|assumption))
  exact bE.refl
 case g3 =>
  intro v;repeat first|exact .nil|(refine .cons ?_ ?_;(·first|exact a3c|exact a3d (λ_ _ h=>by cases h)|exact aL1))
 case g4 =>
  refine aW4 H (sc:=?sc) (tm':=?DZ) (t:=132) (p:=116) (q:=114) (j:=O.length) (i:=O.length+1) (m:=O.length+2) ⟨rfl,rfl,rfl⟩ (by kernel_rfl) (by omega) (by omega) (by omega) (o0 _ _ _) (o1 _ _ _) (o2 _ _ _) rfl g3 g4 ?m1 ?m2 ?m3 ?m4 ?m5
  case m1 =>
   intro R kp kn;repeat (apply BL;(·(intro _;simp only[go_sem];rfl)))
   rfl
  case m2=>simp only[go_sem]
  case m3=>simp only[go_sem]
  case m4=>simp only[go_sem];rfl
  case m5 =>
   rw[aDk];refine aTk (tm':=[.val (.loc ir 0),.val (.loc ip 0),.val (.slice []),.dead,.own 4 ou,.val (.rc 139 f.name f.arg (.ay (.agg [.int .i64 f.body.kind,.int .i64 f.body.num,.str f.body.name,.str f.body.arg,.slice (f.body.args.map af.enc),.slice (f.body.ez.map ag.enc)])) F),.val (.ay (.agg [.str f.name,.iface 139 (.ay (.agg [.str f.arg,.ay (.agg [.int .i64 f.body.kind,.int .i64 f.body.num,.str f.body.name,.str f.body.arg,.slice (f.body.args.map af.enc),.slice (f.body.ez.map ag.enc)]),(.rc 139 f.name f.arg (.ay (.agg [.int .i64 f.body.kind,.int .i64 f.body.num,.str f.body.name,.str f.body.arg,.slice (f.body.args.map af.enc),.slice (f.body.ez.map ag.enc)])) F)])),N])),.dead,.dead,.dead,.dead,.dead,.val (.loc O.length 0),.dead,.val (.int .i64 (D.length:Nat)),.val (.int .i64 (pre.length:Nat)),.dead,.dead,.dead,.dead,.dead,.dead,.dead,.dead,.val (.int .i64 ((1:Nat):Int)),.val (.int .i64 0),.dead,.dead,.dead]) [8,9] ?n1 ?n2
   case n1 =>
    have t1:∀A C,iL (O++[A,.fw (.rc 139 f.name f.arg (.ay (.agg [.int .i64 f.body.kind,.int .i64 f.body.num,.str f.body.name,.str f.body.arg,.slice (f.body.args.map af.enc),.slice (f.body.ez.map ag.enc)])) F),C]) (.val (.loc (O.length+1) 0))=.val (.rc 139 f.name f.arg (.ay (.agg [.int .i64 f.body.kind,.int .i64 f.body.num,.str f.body.name,.str f.body.arg,.slice (f.body.args.map af.enc),.slice (f.body.ez.map ag.enc)])) F):=λA C=>by simp only[iL,o1];rfl
    have t2:∀A B V,iL (O++[A,B,.fw V]) (.val (.loc (O.length+2) 0))=.val V:=λA B V=>by simp only[iL,o2];rfl
    show[.val (.loc ir 0),.val (.loc ip 0),.val (.slice []),.dead,.own 4 ou,iL (O++[_,.fw (.rc 139 f.name f.arg (.ay (.agg [.int .i64 f.body.kind,.int .i64 f.body.num,.str f.body.name,.str f.body.arg,.slice (f.body.args.map af.enc),.slice (f.body.ez.map ag.enc)])) F),_]) (.val (.loc (O.length+1) 0)),iL (O++[_,_,.fw _]) (.val (.loc (O.length+2) 0)),.dead,.dead,.dead,.dead,.dead,.val (.loc O.length 0),.dead,.val (.int .i64 (D.length:Nat)),.val (.int .i64 (pre.length:Nat)),.dead,.dead,.dead,.dead,.dead,.dead,.dead,.dead,.val (.int .i64 ((1:Nat):Int)),.val (.int .i64 0),.dead,.dead,.dead]=_;rw[t1,t2]
   case n2 =>
    repeat first|with_reducible refine nH ?_|with_reducible refine iI ?_|with_reducible refine eQ ?_|with_reducible refine cT ?_|((with_reducible apply iG);(·rfl))|((with_reducible apply nG H);(·(intro _ _;(repeat (apply BL;(·(intro _;simp only[*,go_sem];rfl))));rfl));(·(simp only[go_sem];rfl)))|((with_reducible apply iH H);(·kernel_rfl);(·(intro _ _;(repeat (apply BL;(·(intro _;simp only[*,go_sem];rfl))));rfl));(·(simp only[go_sem];rfl)))|((with_reducible apply Ha);(·(simp only[go_sem];rfl));(·first|rfl|assumption))|((with_reducible apply Hb);(·(simp only[go_sem];rfl));(·first|rfl|assumption))
    refine qZ ?_;repeat first|with_reducible refine nH ?_|with_reducible refine iI ?_|with_reducible refine eQ ?_|with_reducible refine cT ?_|((with_reducible apply iG);(·rfl))|((with_reducible apply nG H);(·(intro _ _;(repeat (apply BL;(·(intro _;simp only[*,go_sem];rfl))));rfl));(·(simp only[go_sem];rfl)))|((with_reducible apply iH H);(·kernel_rfl);(·(intro _ _;(repeat (apply BL;(·(intro _;simp only[*,go_sem];rfl))));rfl));(·(simp only[go_sem];rfl)))|((with_reducible apply Ha);(·(simp only[go_sem];rfl));(·first|rfl|assumption))|((with_reducible apply Hb);(·(simp only[go_sem];rfl));(·first|rfl|assumption))
    exact bE.refl
 all_goals exact .dead
end Go.Proofs.YtoiocfngjchdiaaGreatDoor
namespace Go.AM
open Go.RowKit
variable {P:Program}{ans:FuncId->AF}{w:World}{B0:Nat}{Ψ:HT}{J:List Nat}{ow:Own}{tmps:Array Value}{fid:FuncId}
def Row(P:Program)(ans:FuncId->AF)(f:FuncId)(args:List Slot)(sto:AH)(res:d_)(sto':AH):Prop :=
 (∃F,P.funcs[f]?=some F/\F.body.isSome=true/\F.name≠ "runtime.NumGoroutine")/\∀B0 w Ψ J ow vs,dT ans B0 w Ψ J ow args vs sto->∀c cs,dS P ans B0 w Ψ J ow sto c cs (lone (Frame.enter P f vs .normal) (c::cs) w) res sto'
open Classical in
noncomputable def Hw(cf:aI)(f:FuncId)(args:List Slot)(sto:AH)(r:d_×AH):aI:=λc a s=>if c=.fn f/\a=args/\s=sto then some r else cf c a s
theorem uP(cf:aI)(f:FuncId)(args:List Slot)(sto:AH)(r:d_×AH):Hw cf f args sto r (.fn f) args sto=some r:=by unfold Hw;rw[Br ⟨rfl,rfl,rfl⟩]
theorem da{cf:aI}{f:FuncId}{args:List Slot}{sto sto':AH}{res:d_}(h:kC P ans B0 cf)(hr:Row P ans f args sto res sto'):kC P ans B0 (Hw cf f args sto (res,sto')) where
 fn:=λg a s r s' e=>by
  unfold Hw at e
  split at e
  ·rename_i hc
   obtain⟨h1,rfl,rfl⟩:=hc;cases h1;cases e;exact⟨hr.1,hr.2 B0⟩
  ·exact h.fn _ _ _ _ _ e
 bN:=λi a s r s' e=>by
  unfold Hw at e
  split at e
  ·rename_i hc
   exact absurd hc.1 (by intro h;cases h)
  ·exact h.bN _ _ _ _ _ e
theorem a3P{cf:aI}{f g:FuncId}{args a:List Slot}{sto s:AH}{r:d_×AH}(h:g≠f):Hw cf f args sto r (.fn g) a s=cf (.fn g) a s:=by
 unfold Hw;rw[Bf]
 rintro⟨h1,_⟩
 cases h1;exact h rfl
theorem a02{cf:aI}{f:FuncId}{args:List Slot}{sto:AH}{r:d_×AH}(hp:e7 ans cf)(hf:(ans f).jx=false):e7 ans (Hw cf f args sto r):=λg a hg=>by
 obtain⟨o,h1,h2⟩:=hp g a hg;exact⟨o,h1,λs=>(a3P (by intro h;rw[h,hf] at hg;cases hg)).trans (h2 s)⟩
theorem sn{cf:aI}{f:FuncId}{args:List Slot}{sto:AH}{r:d_×AH}(hm:P.follows .mixedOrders=true)(hp:e7 ans cf)(hf:(ans f).jx=false):gU P ans (Hw cf f args sto r):=a3g hm (a02 hp hf)
theorem qY{c:Rc}{tm tm':List Slot}{sto:AH}{k k':List Item}{AY:St}(h1:yT (λs s'=>s'=.dead\/s'=s) tm tm')(h:bE c ⟨tm',sto⟩ k AY k'):bE c ⟨tm,sto⟩ k AY k':=λw Ψ J ow tmps hA=>by
 refine h w Ψ J ow tmps ?_
 have key:∀{tm tm':List Slot},yT (λs s'=>s'=.dead\/s'=s) tm tm'->∀s∈tm',s=.dead\/s∈tm:=by
  intro tm tm' h;induction h with
  |nil=>intro s hs;cases hs
  |cons h1 h2 ih =>
   intro s hs;rcases As.1 hs with hs|hs
   ·subst hs
    rcases h1 with h1|h1
    ·exact .inl h1
    ·subst h1;exact .inr (by simp)
   ·rcases ih s hs with h|h
    ·exact .inl h
    ·exact .inr (by simp[h])
 have HP:ij tm':=λs hs u o e=>by
  rcases key h1 s hs with h|h
  ·rw[h] at e;cases e
  ·exact hA.nr s h u o e
 exact⟨hA.rel.tR λt=>by
  rcases sP (Q:=λs s'=>s'=.dead\/s'=s) (.inl rfl) (c.ans c.fid).keep t h1 with h|h
  ·exact .inl h
  ·exact .inr (.inl ⟨h,HP.bg _ _⟩),HP,hA.lo⟩
def FN(f:FuncId):Frame:={ (default:Frame) with fn:=f,kind:=.normal,roundOf:=none }
theorem rowOf {f:FuncId} {fn:Func} {c0:Code} {args:List Slot} {sto sto':AH} {res:d_} {tm:List Slot} {cf:aI} (hF:P.funcs[f]?=some fn) (hb:fn.body=some c0) (Hn:fn.name≠ "runtime.NumGoroutine") (hg:(Nat.beq fn.ntmps (ans f).nt&&Nat.ble args.length fn.ntmps)=true)
  (htm:((ans f).keep.map λt=>(args[t]?).getD .dead)=tm) (hle:gr sto sto')
  (hR:∀B0 cs,∃GK k1,bE ⟨P,ans,cf,f,B0,FN f,cs,[]⟩ ⟨tm,sto⟩ [.code c0] GK k1/\(k1=[]\/∃k,k1=.code .ret::k)/\sto.objs.length<=GK.sto.objs.length/\finish P (ans f) fn sto.objs.length GK=some (res,sto')):Row P ans f args sto res sto':=by
 simp only[Ac] at hg;have K6:fn.ntmps=(ans f).nt:=Aa hg.1;have CV:args.length<=(ans f).nt:=by rw[<-K6];exact Ad hg.2
 refine⟨⟨fn,hF,by simp[hb],Hn⟩,λB0 w Ψ J ow vs BM c cs=>?_⟩
 have sv:Frame.enter P f vs .normal=(FN f).atR ⟨vs++Array.replicate ((ans f).nt-vs.size) undef,[]⟩ [.code c0]:=by
  simp[Frame.enter,Frame.atR,hF,hb,FN,K6]
 rw[sv];have JM:=BM.objs.1;have Iz:=qD (P:=P) BM CV;rw[htm] at Iz;obtain⟨GK,k1,hR,ET,hlen,HJ⟩:=hR B0 (c::cs);obtain⟨w1,Z1,J1,BR,BF,a1,a3,a4,a6⟩:=hR w Ψ J ow _ Iz;obtain⟨s,v,J2,CG,q1,q2,q3,q4,q5,q6,MT,q7,q8,q9,MU⟩:=nV a1 hlen HJ;subst q1;refine⟨w1,Z1,J2,CG,a3.trans q6,iD a4 JM.symm MU,a1.rel.b_,q5,λb hb=>a1.rel.lt b (MT b hb),hle,q2,v,q4,?_⟩
 have hL:∀{k:List Item},Steps P (lone (((FN f).atR ⟨BF,[]⟩ k)) (c::cs) w1) (lone { (FN f).atR ⟨BF,[]⟩ k with mode:=.returning } (c::cs) w1)->Steps P (lone (((FN f).atR ⟨BF,[]⟩ k)) (c::cs) w1) (lone (c.finish v) cs w1):=λ{k} hs =>
  hs.trans (.one (step_leave_returned ⟨rfl,rfl,rfl,fn,hF,q3⟩))
 rcases ET with rfl|⟨k,rfl⟩
 ·exact a6.trans (hL (.one (stepR_end rfl)))
 ·exact a6.trans (hL (.one (stepR_ret rfl)))
theorem qC{pr:gG}(E:Env P ans B0 pr):kC P ans B0 (GY P ans pr) where
 fn:=λf args sto res sto' e=>by
  obtain⟨n,hn⟩:=hQ.1 e;exact(x9 E n).1.fn _ _ _ _ _ hn
 bN:=λi args sto res sto' e=>by
  obtain⟨n,hn⟩:=hQ.1 e;exact(x9 E n).1.bN _ _ _ _ _ hn
theorem mN{pr:gG}:e7 ans (GY P ans pr):=λf args h=>by
 cases hp:pr f args with
 |none=>exact⟨none,by simp,λsto=>by rw[vU];simp[cG,hp,h]⟩
 |some o =>
  refine⟨o.bind fg,λs hs=>?_,λsto=>by rw[vU];simp[cG,hp]⟩;obtain⟨r,_,hs⟩:=aH hs;cases r with
  |be v=>cases hs
  |ret s'=>obtain⟨hg,hs⟩:=aB hs;cases hs;exact hg
end Go.AM
namespace Go.Proofs.YtoiocfngjchdiaaGreatDoor
open Go.AM
open Go.RowKit
variable [h_]
abbrev NR(ir ip:Nat)(ou:List ae)(fe ne:ae)(n i:Nat):List Slot:=[.val (.loc ir 0),.val (.loc ip 0),.val (.slice []),.dead,.own 4 ou,.val fe,.val ne,.dead,.dead,.dead,.dead,.dead,.dead,.dead,.val (.int .i64 (n:Nat)),.val (.int .i64 (i:Nat)),.dead,.dead,.dead,.dead,.dead,.dead,.dead,.dead,.dead,.dead,.dead,.dead,.dead]
theorem aW5(B0:Nat)(b:Frame)(cs:List Frame)(H:(sL B0 b cs).OK)(items:List Item)(lo ip ir:Nat)(ou:List ae)(tl:List ax)(ys:List ax):∀(pre:List ax)(O:List ai)(fe ne:aq),lo<=O.length->(∀y∈ys,mh y)->(pre++ys++tl).length<1000 ->
  O[ip]?=some (.box [.val (.slice ((pre++ys++tl).map ax.enc))]) ->
  ∃M:List ai,bE (sL B0 b cs) ⟨NR ir ip ou fe.enc ne.enc (pre++ys++tl).length pre.length,⟨O,lo⟩⟩ (.code (aN Tryz.f34 0)::.inLoop (aN Tryz.f34 0)::items)
   ⟨NR ir ip ou (nO ys fe ne).1.enc (nO ys fe ne).2.enc (pre++ys++tl).length (pre++ys).length,⟨O++M,lo⟩⟩ (.code (aN Tryz.f34 0)::.inLoop (aN Tryz.f34 0)::items):=by
 induction ys with
 |nil =>
  intro pre O fe ne AP hy hb hp;refine⟨[],?_⟩;simp only[Ao,nO];exact bE.refl
 |cons y ys ih =>
  intro pre O fe ne AP hy hb hp;have e1:pre++y::ys++tl=pre++y::(ys++tl):=by simp
  have e2:pre++[y]++ys++tl=pre++y::(ys++tl):=by simp
  have e3:pre++[y]++ys=pre++y::ys:=by simp
  rw[e1] at hb hp ⊢;rcases hy y (by simp) with⟨hk,hf⟩|⟨f,rfl⟩
  ·obtain⟨s6,s10,BK,BU,JD,FJ,BH,B5,B2,H3,Lg,Lf,Ld,Lc,Lb,H9,H8,H7,H6,H5,H4,h1⟩:=r1 B0 b cs H (.inLoop (aN Tryz.f34 0)::items) O lo ip pre (ys++tl) y hk ir fe.enc ne.enc ou hb hp
   obtain⟨M,h2⟩:=ih (pre++[y]) O fe ne AP (λz hz=>hy z (by simp[hz])) (by rw[e2];exact hb) (by rw[e2];exact hp);rw[e2,e3] at h2;refine⟨M,h1.trans (qZ (qY (tm':=NR ir ip ou fe.enc ne.enc (pre++y::(ys++tl)).length (pre++[y]).length) ?_ ?_))⟩
   ·repeat first|exact .nil|(refine .cons ?_ ?_;(·first|exact .inl rfl|exact .inr rfl))
   ·have e4:nO (y::ys) fe ne=nO ys fe ne:=by simp only[nO,hf]
    rw[e4];exact h2
  ·obtain⟨M1,s6,s10,BK,BU,JD,FJ,BH,B5,B2,H3,Lg,Lf,Ld,Lc,Lb,H9,H8,H7,H6,H5,H4,h1⟩:=r3 B0 b cs H (.inLoop (aN Tryz.f34 0)::items) O lo ip AP pre (ys++tl) f ir fe ne ou hb hp
   obtain⟨M,h2⟩:=ih (pre++[mS f]) (O++M1) (.rc f.name f.arg f.body fe) (.cons f.name (.fn f.arg f.body (.rc f.name f.arg f.body fe)) ne) (by simp;omega) (λz hz=>hy z (by simp[hz])) (by rw[e2];exact hb) (by rw[e2];exact(Az (Ab.1 hp).1).trans hp);rw[e2,e3,Aj] at h2;refine⟨M1++M,h1.trans (qZ (qY (tm':=NR ir ip ou (aq.rc f.name f.arg f.body fe).enc (aq.cons f.name (.fn f.arg f.body (.rc f.name f.arg f.body fe)) ne).enc (pre++mS f::(ys++tl)).length (pre++[mS f]).length) ?_ ?_))⟩
   ·repeat first|exact .nil|(refine .cons ?_ ?_;(·first|exact .inl rfl|exact .inr rfl))
   ·exact h2
theorem aPA:∃items k:List Item,(∀(B0:Nat)(b:Frame)(cs:List Frame)(_:(sL B0 b cs).OK)(ir ip:Nat)(O:List ai)(lo:Nat)(D:List ax),O[ip]?=some (.box [.val (.slice (D.map ax.enc))]) ->
   bE (sL B0 b cs) ⟨[.val (.loc ir 0),.val (.loc ip 0),.val (.slice []),.dead,.dead,.dead,.dead,.dead,.dead,.dead,.dead,.dead,.dead,.dead,.dead,.dead,.dead,.dead,.dead,.dead,.dead,.dead,.dead,.dead,.dead,.dead,.dead,.dead,.dead],⟨O,lo⟩⟩ [.code ((Tryz.f34.body).getD .skip)] ⟨NR ir ip [] .cW .cW D.length 0,⟨O,lo⟩⟩ (.code (aN Tryz.f34 0)::.inLoop (aN Tryz.f34 0)::items)) /\
  (∀(B0:Nat)(b:Frame)(cs:List Frame)(_:(sL B0 b cs).OK)(ir ip:Nat)(O:List ai)(lo:Nat)(N:Nat)(x:List ae)(fe ne:ae),
   bE (sL B0 b cs) ⟨NR ir ip x fe ne N N,⟨O,lo⟩⟩ (.inLoop (aN Tryz.f34 0)::items) ⟨[.dead,.dead,.dead,.val (.slice x),.dead,.dead,.dead,.dead,.dead,.dead,.dead,.dead,.dead,.dead,.dead,.dead,.dead,.dead,.dead,.dead,.dead,.dead,.dead,.dead,.dead,.dead,.dead,.dead,.dead],⟨O,lo⟩⟩ (.code .ret::k)):=by
 (iterate 2 apply Exists.intro);apply And.intro
 ·intro B0 b cs H ir ip O lo D hp
  show bE _ _ [.code (.seq _ _)] _ _;repeat first|with_reducible refine nH ?_|with_reducible refine iI ?_|with_reducible refine eQ ?_|with_reducible refine cT ?_|((with_reducible apply iG);(·rfl))|((with_reducible apply nG H);(·(intro _ _;(repeat (apply BL;(·(intro _;simp only[*,go_sem,Nat.reduceAdd,reduceIte,Ay];rfl))));rfl));(·(simp only[go_sem];rfl)))|((with_reducible apply iH H);(·kernel_rfl);(·(intro _ _;(repeat (apply BL;(·(intro _;simp only[*,go_sem,Nat.reduceAdd,reduceIte,Ay];rfl))));rfl));(·(simp only[go_sem];rfl)))|((with_reducible apply Ha);(·(simp only[go_sem];rfl));(·first|rfl|assumption))|((with_reducible apply Hb);(·(simp only[go_sem];rfl));(·first|rfl|assumption))
  refine W9 ?_;refine qY (tm':=NR ir ip [] .cW .cW D.length 0) ?_ bE.refl;repeat first|exact .nil|(refine .cons ?_ ?_;(·first|exact .inl rfl|exact .inr rfl))
 ·intro B0 b cs H ir ip O lo N x fe ne
  have AL:decide (((N:Nat):Int)<(N:Nat))=false:=by simp
  refine qZ (R3 rfl ?_);repeat first|with_reducible refine nH ?_|with_reducible refine iI ?_|with_reducible refine eQ ?_|with_reducible refine cT ?_|((with_reducible apply iG);(·rfl))|((with_reducible apply nG H);(·(intro _ _;(repeat (apply BL;(·(intro _;simp only[*,go_sem];rfl))));rfl));(·(simp only[go_sem];rfl)))|((with_reducible apply iH H);(·kernel_rfl);(·(intro _ _;(repeat (apply BL;(·(intro _;simp only[*,go_sem];rfl))));rfl));(·(simp only[go_sem];rfl)))|((with_reducible apply Ha);(·(simp only[go_sem];rfl));(·first|rfl|assumption))|((with_reducible apply Hb);(·(simp only[go_sem];rfl));(·first|rfl|assumption))
  refine qY (tm':=[.dead,.dead,.dead,.val (.slice x),.dead,.dead,.dead,.dead,.dead,.dead,.dead,.dead,.dead,.dead,.dead,.dead,.dead,.dead,.dead,.dead,.dead,.dead,.dead,.dead,.dead,.dead,.dead,.dead,.dead]) ?_ bE.refl;repeat first|exact .nil|(refine .cons ?_ ?_;(·first|exact .inl rfl|exact .inr rfl))
theorem aTp(E:∀B0,Env Tryz.prog ans B0 oV){Q:List ai}{ir d iq q lo ip s n:Nat}(hR:nk Q ir d iq q lo)(hs:s+n<=q)(ys:List ax)(hy:∀y∈ys,mh y)(nm:List UInt8)(e:af)(v:ad)(GD:Ev e (nO ys .nil .nil).2 (jf v) n)(hv:v.km=true)(Lo:v.cu<=4000)(hb:(ys++[cU nm e]).length<1000)(BA:ip≠d)
  (hp:Q[ip]?=some (.box [.val (.slice ((ys++[cU nm e]).map ax.enc))])) :
  Row Tryz.prog ans 34 [.val (.loc ir 0),.val (.loc ip 0),.val (.slice [])] ⟨AW Q d s,lo⟩ (.ret (.val (.slice [GA nm v]))) ⟨AW Q d (s+n),lo⟩:=by
 obtain⟨items,k,HI,Md⟩:=aPA;refine rowOf (cf:=CF) Tryz.func34 rfl ((E 0).names 34 _ Tryz.func34 rfl) rfl rfl ⟨rfl,by rw[bY,bY];exact Ae _,λi hi=>by rw[jV (by have:=hR.lo;simp only at hi;omega),jV (by have:=hR.lo;simp only at hi;omega)]⟩ λB0 cs=>?_
 have H:(sL B0 (FN 34) cs).OK:=⟨qC (E B0),(E B0).drawn _ mN,rfl⟩
 have AP:=hR.lo;have AL:=hR.lt;have Rj:=(jV BA s).trans hp;obtain⟨M,hT⟩:=aW5 B0 (FN 34) cs H items lo ip ir [] [cU nm e] ys [] (AW Q d s) .nil .nil (by rw[bY];omega) hy (by simpa using hb) (by simpa using Rj);simp only[Ai] at hT;rw[<-eX AL] at hT;obtain⟨M2,s6,s10,BK,BU,JD,FJ,BH,B5,B2,H3,Lg,Lf,Ld,Lc,Lb,H9,H8,H7,H6,H5,H4,h5⟩:=r5 B0 (FN 34) cs H (.inLoop (aN Tryz.f34 0)::items) (Q++M) ir d iq q lo ip s n (hR.app M) hs ys [] nm e (nO ys .nil .nil).1.enc (nO ys .nil .nil).2 v GD hv Lo hb BA ((Az (Ab.1 hp).1).trans hp);rw[eX AL (s:=s+n),Aj] at h5;have ho:=Md B0 (FN 34) cs H ir ip (AW Q d (s+n)++(M++M2)) lo (ys++[cU nm e]).length [GA nm v] (nO ys .nil .nil).1.enc (nO ys .nil .nil).2.enc;refine⟨_,_,(HI B0 (FN 34) cs H ir ip (AW Q d s) lo (ys++[cU nm e]) Rj).trans (hT.trans (h5.trans (qY ?_ ho))),.inr ⟨_,rfl⟩,?_,?_⟩
 ·repeat first|exact .nil|(refine .cons ?_ ?_;(·first|exact .inl rfl|exact .inr rfl))
 ·rw[bY];simp[bY]
 ·exact Qk (finVal rfl rfl rfl (U4 _ _))
noncomputable abbrev aW6(cf:aI)(B0:Nat)(b:Frame)(cs:List Frame):Rc:=⟨Tryz.prog,ans,cf,33,B0,b,cs,[]⟩
theorem aTo(E:∀B0,Env Tryz.prog ans B0 oV){Q:List ai}{ir d iq q lo ip iv ii io s n:Nat}(hR:nk Q ir d iq q lo)(hs:s+n<=q)(ys:List ax)(hy:∀y∈ys,mh y)(nm:List UInt8)(e:af)(v:ad)(GD:Ev e (nO ys .nil .nil).2 (jf v) n)(hv:v.km=true)(Lo:v.cu<=4000)(hb:(ys++[cU nm e]).length<1000)(BA:ip≠d)
  (hp:Q[ip]?=some (.box [.val (.slice ((ys++[cU nm e]).map ax.enc))])) (YN:Q[iv]?=some (.box [.val (.loc ir 0)])) (YP:Q[ii]?=some (.box [.val (.slice [])])) (YO:Q[io]?=some (.box [.own 4 [],.val (.int .i64 0)])) (nv:iv≠d) (a6z:ii≠d) (no:io≠d) (Xy:lo<=io) (IH:ir<Q.length) :
  Row Tryz.prog ans 33 [.val (.loc iv 0),.val (.loc ip 0),.val (.loc ii 0),.val (.loc io 0)] ⟨AW Q d s,lo⟩ (.ret (.aj [])) ⟨AW (Q.set io (.box [.val (.slice [GA nm v]),.val (.int .i64 0)])) d (s+n),lo⟩:=by
 have YX:=aTp E hR hs ys hy nm e v GD hv Lo hb BA hp;have Rs:=uP CF 34 [.val (.loc ir 0),.val (.loc ip 0),.val (.slice [])] ⟨AW Q d s,lo⟩ (.ret (.val (.slice [GA nm v])),⟨AW Q d (s+n),lo⟩);have hlen:∀X x,(AW (Q.set io X) d x).length=Q.length:=λX x=>by rw[bY];simp
 have fM:∀x X,(AW Q d x).set io X=AW (Q.set io X) d x:=λx X=>by
  unfold AW;rw[List.set_comm _ _ no.symm]
 refine rowOf (cf:=Hw CF 34 [.val (.loc ir 0),.val (.loc ip 0),.val (.slice [])] ⟨AW Q d s,lo⟩ (.ret (.val (.slice [GA nm v])),⟨AW Q d (s+n),lo⟩)) Tryz.func33 rfl ((E 0).names 33 _ Tryz.func33 rfl) rfl rfl ⟨rfl,by rw[hlen,bY];exact Ae _,λi hi=>by
  have AP:=hR.lo;simp only at hi;rw[jV (by omega),jV (by omega),Dm (by omega)]⟩ λB0 cs=>?_
 have H:(aW6 (Hw CF 34 [.val (.loc ir 0),.val (.loc ip 0),.val (.slice [])] ⟨AW Q d s,lo⟩ (.ret (.val (.slice [GA nm v])),⟨AW Q d (s+n),lo⟩)) B0 (FN 33) cs).OK:=⟨da (qC (E B0)) YX,sn (by kernel_rfl) mN (by show(ans 34).jx=false;rw[Zu]),rfl⟩
 generalize Hw CF 34 [.val (.loc ir 0),.val (.loc ip 0),.val (.slice [])] ⟨AW Q d s,lo⟩ (.ret (.val (.slice [GA nm v])),⟨AW Q d (s+n),lo⟩)=cf at *;have k1:=λx=>(jV nv x).trans YN
 have k2:=λx=>(jV a6z x).trans YP
 have k3:=λx=>(jV no x).trans YO
 have k4:=bY Q d;have a6k:Nat.ble lo io=true:=Ah Xy;have a8z:Nat.ble (ir+1) Q.length=true:=Ah IH;clear YX hp YN YP YO GD hb hy hR hs Xy IH hv Lo E;(iterate 2 apply Exists.intro);refine⟨?_,.inl rfl,?_,?_⟩
 ·show bE _ ⟨[.val (.loc iv 0),.val (.loc ip 0),.val (.loc ii 0),.val (.loc io 0)],_⟩ _ _ _
  repeat first|with_reducible refine nH ?_|with_reducible refine iI ?_|with_reducible refine eQ ?_|with_reducible refine cT ?_|((with_reducible apply iG);(·rfl))|((with_reducible apply nG H);(·(intro _ _;(repeat (apply BL;(·(intro _;simp only[*,go_sem,Nat.reduceAdd,reduceIte,GA];rfl))));rfl));(·(simp only[go_sem];rfl)))|((with_reducible apply iH H);(·kernel_rfl);(·(intro _ _;(repeat (apply BL;(·(intro _;simp only[*,go_sem,Nat.reduceAdd,reduceIte,GA];rfl))));rfl));(·(simp only[go_sem];rfl)))|((with_reducible apply Ha);(·(simp only[go_sem];rfl));(·first|rfl|assumption))|((with_reducible apply Hb);(·(simp only[go_sem];rfl));(·first|rfl|assumption))
  exact bE.refl
 ·show _<=(AW (Q.set io _) d (s+n)).length
  rw[hlen,bY];exact Ae _
 ·refine(?_:_=some (d_.ret (.aj []),(⟨(AW (Q.set io (.box [.val (.slice [GA nm v]),.val (.int .i64 0)])) d (s+n)).take (AW Q d s).length,lo⟩:AH))).trans ?_
  ·rfl
  ·rw[Bz (by rw[hlen,bY];exact Ae _)]
end Go.Proofs.YtoiocfngjchdiaaGreatDoor
