import Derived.Test.YtoiocfngjchdiaaGreatDoorT05
set_option linter.all false
set_option maxRecDepth 100000
set_option maxHeartbeats 8000000
namespace Go.AM
open Go.RowKit
variable {P:Program}{ans:FuncId->AF}{an:AF}{w:World}{B0:Nat}{Ψ:HT}{J:List Nat}{ow:Own}{tmps:Array Value}
def sP(O:List AObj)(j i k:Nat)(tI:TypeId)(a f g:List UInt8)(y z x:AVal):List AObj :=
 ((O.set j (.frz (.cptr (.agg [.str a,y,.rc tI f a y z])))).set i (.frz (.rc tI f a y z))).set k (.frz (.cptr (.agg [.str g,.iface tI (.cptr (.agg [.str a,y,.rc tI f a y z])),x])))
theorem aCv{E:Nat->Slot}{O:List AObj}(h:Rel P ans B0 w Ψ J ow an E tmps O){j i k:Nat}{a f g:List UInt8}{y z x:AVal}{tI:TypeId}(E4:j≠i)(TP:j≠k)(Oe:i≠k)
  (hj:O[j]?=some (.box [.val (.str a),.val y,.val .nilptr])) (hi:O[i]?=some (.box [.val (.str f),.val (.iface tI (.loc j 0)),.val z])) (hk:O[k]?=some (.box [.val (.str g),.val (.iface tI (.loc j 0)),.val x])) (MZ:flat y=true) (I1:flat z=true) (RG:flat x=true) :
  ∃bj bi vs T w' Z' AQ,J[j]?=some bj/\J[i]?=some bi/\w.heap[bj]?=some (.cells ⟨vs⟩ T (0,0))/\vs.length=3/\w'=w.putObj bj (.cells ⟨overwrite vs 2 [.pointer (some ⟨bi,0,none⟩)]⟩ T (0,0))/\Rel P ans B0 w' Z' J AQ an E tmps (sP O j i k tI a f g y z x)/\Fr w Ψ ow w' Z' AQ:=by
 obtain⟨bi,I4,oi⟩:=h.objs.2 i _ hi;obtain⟨bj,NH,oj⟩:=h.objs.2 j _ hj;obtain⟨bk,hbk,ok⟩:=h.objs.2 k _ hk;cases oi with
 |box _ _ oi =>
 cases oj with
 |box _ _ oj =>
 cases ok with
 |box _ _ ok =>
 obtain⟨wi,_,fi,vi,Ti,gi,li,ri⟩:=oi;obtain⟨wj,_,fj,vj,Tj,gj,lj,rj⟩:=oj;obtain⟨wk,_,fk,vk,Tk,gk,lk,rk⟩:=ok
 match vi,li with
 |[v0,v1,v2],_ =>
 match vj,lj with
 |[u0,u1,u2],_ =>
 match vk,lk with
 |[x0,x1,x2],_ =>
 have ptr:∀{n:Nat}{v:Value},VRel Ψ (J.take (n+1)) (.iface tI (.loc j 0)) v->v=.iface tI (.pointer (some ⟨bj,0,none⟩)):=λ{n v} hv=>by
  cases hv with
  |iface _ _ u hu=>cases hu with
   |loc _ _ b hb =>
    rw[Bh] at hb
    split at hb
    ·rw[NH] at hb;cases hb;rfl
    ·cases hb
 have c0:v0=.string ⟨⟨f⟩⟩:=by have:=ri 0 _ _ rfl rfl;cases this with|val _ _ _ hv=>cases hv;rfl
 have c1:v1=.iface tI (.pointer (some ⟨bj,0,none⟩)):=by have:=ri 1 _ _ rfl rfl;cases this with|val _ _ _ hv=>exact ptr hv
 have c2:VRel Ψ [] z v2:=by have:=ri 2 _ _ rfl rfl;cases this with|val _ _ _ hv=>exact hv.flat I1
 have d0:u0=.string ⟨⟨a⟩⟩:=by have:=rj 0 _ _ rfl rfl;cases this with|val _ _ _ hv=>cases hv;rfl
 have d1:VRel Ψ [] y u1:=by have:=rj 1 _ _ rfl rfl;cases this with|val _ _ _ hv=>exact hv.flat MZ
 have e0:x0=.string ⟨⟨g⟩⟩:=by have:=rk 0 _ _ rfl rfl;cases this with|val _ _ _ hv=>cases hv;rfl
 have e1:x1=.iface tI (.pointer (some ⟨bj,0,none⟩)):=by have:=rk 1 _ _ rfl rfl;cases this with|val _ _ _ hv=>exact ptr hv
 have e2:VRel Ψ [] x x2:=by have:=rk 2 _ _ rfl rfl;cases this with|val _ _ _ hv=>exact hv.flat RG
 subst c0 c1 d0 e0 e1;have nji:bj≠bi:=λe0=>by rw[e0,wi] at wj;cases wj;exact E4 rfl
 have njk:bj≠bk:=λe0=>by rw[e0,wk] at wj;cases wj;exact TP rfl
 have nik:bi≠bk:=λe0=>by rw[e0,wk] at wi;cases wi;exact Oe rfl
 have Od:bj<w.heap.size:=(Ai.1 gj).1
 let vN:Value:=.pointer (some ⟨bi,0,none⟩)
 let w':World:=w.putObj bj (.cells ⟨[.string ⟨⟨a⟩⟩,u1,vN]⟩ Tj (0,0))
 have hw'j:w'.heap[bj]?=some (.cells ⟨[.string ⟨⟨a⟩⟩,u1,vN]⟩ Tj (0,0)):=World.putObj_heap_same Od;have F6:∀b,b≠bj->w'.heap[b]?=w.heap[b]?:=λb hb=>Bk (λe0=>hb e0.symm)
 have BC:w'.heap.size=w.heap.size:=by simp[w',World.putObj]
 let RR:AVal:=.rc tI f a y z
 let C:AVal:=.cptr (.agg [.str a,y,RR])
 let Z':HT:=λb o c=>Ψ b o c\/(b=bj/\[AVal.str a,y,RR][o]?=some c)\/(b=bi/\(R0 tI f a y z).cells[o]?=some c)\/(b=bk/\[AVal.str g,.iface tI C,x][o]?=some c)
 have hΨ:Ψ.le Z':=λb o c hc=>.inl hc
 have Ks:∀b,b≠bi->b≠bj->b≠bk->∀o,Z' b o=Ψ b o:=λb h1 h2 h3 o=>by
  funext c;exact propext ⟨λhc=>by rcases hc with hc|⟨e0,_⟩|⟨e0,_⟩|⟨e0,_⟩;exact hc;exact absurd e0 h2;exact absurd e0 h1;exact absurd e0 h3,.inl⟩
 have hR:VRel Z' [] RR (.pointer (some ⟨bi,0,none⟩)):=.rc _ _ _ _ _ bi 0 λq c hc=>.inr (.inr (.inl ⟨rfl,by simpa using hc⟩))
 have hC:VRel Z' [] C (.pointer (some ⟨bj,0,none⟩)):=.cptr _ bj 0 λq c hc=>.inr (.inl ⟨rfl,by simpa[AVal.cells] using hc⟩)
 have hN:VRel Z' [] (.cptr (.agg [.str g,.iface tI C,x])) (.pointer (some ⟨bk,0,none⟩)):=.cptr _ bk 0 λq c hc=>.inr (.inr (.inr ⟨rfl,by simpa[AVal.cells] using hc⟩))
 have Jg:∀o,w'.cell? ⟨bi,o,none⟩=[Value.string ⟨⟨f⟩⟩,.iface tI (.pointer (some ⟨bj,0,none⟩)),v2][o]?:=λo=>cell_of_heap ((F6 bi (λe0=>nji e0.symm)).trans gi) o
 have Jf:∀o,w'.cell? ⟨bj,o,none⟩=[Value.string ⟨⟨a⟩⟩,u1,vN][o]?:=λo=>cell_of_heap hw'j o
 have Pe:∀o,w'.cell? ⟨bk,o,none⟩=[Value.string ⟨⟨g⟩⟩,.iface tI (.pointer (some ⟨bj,0,none⟩)),x2][o]?:=λo=>cell_of_heap ((F6 bk (λe0=>njk e0.symm)).trans gk) o
 have CH:∀b o c,Ψ b o c->b≠bi/\b≠bj/\b≠bk:=λb o c hc=>⟨λe0=>by subst e0;rw[fi o] at hc;exact hc,λe0=>by subst e0;rw[fj o] at hc;exact hc,λe0=>by subst e0;rw[fk o] at hc;exact hc⟩
 have hw:WSat Z' w':=⟨by rw[BC];exact h.wsat.size8,λb o c hc=>by
  rcases hc with hc|⟨rfl,hc⟩|⟨rfl,hc⟩|⟨rfl,hc⟩
  ·obtain⟨h1,v,h2,h3⟩:=h.wsat.sat b o c hc
   exact⟨h1,v,(cell_congr (F6 b (CH b o c hc).2.1) o).trans h2,h3.mono hΨ (aG _)⟩
  ·rw[Jf]
   match o with
   |0=>cases hc;exact⟨rfl,_,rfl,.str _⟩
   |1=>cases hc;exact⟨MZ,_,rfl,d1.mono hΨ (aG _)⟩
   |2=>cases hc;exact⟨rfl,_,rfl,hR⟩
   |o+3=>cases hc
  ·rw[Jg]
   match o with
   |0=>cases hc;exact⟨rfl,_,rfl,.str _⟩
   |1=>cases hc;exact⟨rfl,_,rfl,.iface _ _ _ hC⟩
   |2=>cases hc;exact⟨I1,_,rfl,c2.mono hΨ (aG _)⟩
   |o+3=>cases hc
  ·rw[Pe]
   match o with
   |0=>cases hc;exact⟨rfl,_,rfl,.str _⟩
   |1=>cases hc;exact⟨rfl,_,rfl,.iface _ _ _ hC⟩
   |2=>cases hc;exact⟨RG,_,rfl,e2.mono hΨ (aG _)⟩
   |o+3=>cases hc⟩
 let AQ:Own:=λb=>if b=bi\/b=bj\/b=bk then none else ow b
 have CA:∀kk q,(kk=false\/q≠i/\q≠j/\q≠k)->Same w Ψ ow w' Z' AQ kk q kk q:=λkk q hq b s hb=>by
  have h1:b≠bi:=λe0=>by subst e0;rw[wi] at hb;cases hb;rcases hq with hq|hq;cases hq;exact hq.1 rfl
  have h2:b≠bj:=λe0=>by subst e0;rw[wj] at hb;cases hb;rcases hq with hq|hq;cases hq;exact hq.2.1 rfl
  have h3:b≠bk:=λe0=>by subst e0;rw[wk] at hb;cases hb;rcases hq with hq|hq;cases hq;exact hq.2.2 rfl
  exact⟨by simp[AQ,h1,h2,h3,hb],F6 b h2,λo ho=>by rw[Ks b h1 h2 h3 o];exact ho⟩
 have Js:OsRel w' B0 Z' J AQ ans (sP O j i k tI a f g y z x):=by
  refine⟨by simp[sP,h.objs.1],λq o ho=>?_⟩;unfold sP at ho;rw[Cb] at ho
  split at ho
  ·rename_i hq
   subst hq
   split at ho
   ·cases ho;exact⟨bk,hbk,.frz _ _ hN⟩
   ·cases ho
  ·rename_i hq
   rw[Cb] at ho
   split at ho
   ·rename_i Jq
    subst Jq
    split at ho
    ·cases ho;exact⟨bi,I4,.frz _ _ hR⟩
    ·cases ho
   ·rename_i Jq
    rw[Cb] at ho
    split at ho
    ·rename_i Qv
     subst Qv
     split at ho
     ·cases ho;exact⟨bj,NH,.frz _ _ hC⟩
     ·cases ho
    ·rename_i Qv
     obtain⟨b,h1,h2⟩:=h.objs.2 q o ho;exact⟨b,h1,h2.mono hΨ (aG _) (CA true q (.inr ⟨λe0=>Jq e0.symm,λe0=>Qv e0.symm,λe0=>hq e0.symm⟩))⟩
 have M9:Rel P ans B0 w' Z' J AQ an E tmps (sP O j i k tI a f g y z x) :=
  ⟨h.size,hw,λq=>(h.slots q).mono hΨ (aG _) (CA false q (.inl rfl)) (λ_ _ _=>rfl),h.refs,h.boxes,Js,λb hb=>by
   have:ow b≠none:=λe0=>hb (by simp only[AQ];split<;>first|rfl|exact e0)
   rw[BC];exact h.lt b this,by rw[BC];exact h.base,h.hi⟩
 refine⟨bj,bi,_,Tj,w',Z',AQ,NH,I4,gj,rfl,rfl,M9,⟨hΨ,by rw[BC];exact Af _,λb hb Hj=>?_,λb hb=>.inl λe0=>hb (by simp only[AQ];split<;>first|rfl|exact e0),rfl,rfl,rfl⟩⟩;have h1:b≠bi:=λe0=>by subst e0;rw[wi] at Hj;cases Hj
 have h2:b≠bj:=λe0=>by subst e0;rw[wj] at Hj;cases Hj
 have h3:b≠bk:=λe0=>by subst e0;rw[wk] at Hj;cases Hj
 exact⟨F6 b h2,Ks b h1 h2 h3⟩
theorem aY8{c:Rc}{tm tm':List Slot}{sto:AH}{k k':List Item}{AY:St}{id:Nat}{o0 o1 o2 o3 o4:Oper}{sc:List (Nat×Slot)}(H:c.OK){t:TypeId}{p q:Nat}(hI:Is o4 none (.store t (.tmp p) (.tmp q)))
  {j i m:Nat} {a f g:List UInt8} {y z x:AVal} {tI:TypeId} (hs:aP c.P t=some 1) (E4:j≠i) (TP:j≠m) (Oe:i≠m)
  (hj:sto.objs[j]?=some (.box [.val (.str a),.val y,.val .nilptr])) (hi:sto.objs[i]?=some (.box [.val (.str f),.val (.iface tI (.loc j 0)),.val z])) (hk:sto.objs[m]?=some (.box [.val (.str g),.val (.iface tI (.loc j 0)),.val x])) (MZ:flat y=true) (I1:flat z=true) (RG:flat x=true)
  (h:∀(R:Type)(kp:AVal->RS->Option R)(kn:RS->Option R),jI c.P c.ans (c.ans c.fid) false c.cf tm id #[o0,o1,o2,o3,o4] kp kn [o0,o1,o2,o3] 0 ⟨[],sto⟩=kn ⟨sc,sto⟩) (hp:A6 (c.ans c.fid).keep tm ⟨sc,sto⟩ (.tmp p)=.val (.loc j 2)) (hq:A6 (c.ans c.fid).keep tm ⟨sc,sto⟩ (.tmp q)=.val (.loc i 0)) (hc:commit (c.ans c.fid).keep tm sc=tm')
  (h':Rch c ⟨tm',⟨sP sto.objs j i m tI a f g y z x,sto.lo⟩⟩ k AY k'):Rch c ⟨tm,sto⟩ (.code (.region id #[o0,o1,o2,o3,o4] false)::k) AY k':=.trans (λw Ψ J ow tmps hA=>by
 have e:iD c.P c.ans (c.ans c.fid) false c.cf tm id #[o0,o1,o2,o3,o4] (λ_ rs=>some (false,rs)) (λrs=>some (true,rs)) [0,1,2,3] ⟨[],sto⟩=_:=h (Bool×RS) (λ_ rs=>some (false,rs)) (λrs=>some (true,rs));rcases wz (ds:=c.ds) (b:=c.b) (items:=k) (cs:=c.cs) (l2:=[4]) H.cf hA.nr (rs:=⟨[],sto⟩) hA.rel hA.lo e with⟨AX,w1,Z1,J1,BO,BF,a1,a2,a3,a4,a5,a6⟩|⟨_,AX,v,w',Z',J',AQ,tmps',DI,a1,_⟩
 ·simp only[Al,Bz,true_and] at a1
  subst a1;obtain⟨bj,bi,vs,T,w2,Z2,B5,b1,b2,b3,b4,b5,b6,b7⟩:=aCv a2 E4 TP Oe hj hi hk MZ I1 RG;obtain⟨tp,G0,_⟩:=bG (ds:=c.ds) a2 (.tmp p);obtain⟨tq,Sv,_⟩:=bG (ds:=c.ds) a2 (.tmp q);rw[hp] at G0;rw[hq] at Sv
  have vp:(⟨BF,c.ds⟩:Act).eval (.tmp p)=.pointer (some ⟨bj,2,none⟩):=by
   generalize(⟨BF,c.ds⟩:Act).eval (.tmp p)=u at G0;cases G0 with|val _ _ hv=>cases hv with|loc _ _ b hb=>rw[b1] at hb;cases hb;rfl
  have vq:(⟨BF,c.ds⟩:Act).eval (.tmp q)=.pointer (some ⟨bi,0,none⟩):=by
   generalize(⟨BF,c.ds⟩:Act).eval (.tmp q)=u at Sv;cases Sv with|val _ _ hv=>cases hv with|loc _ _ b hb=>rw[b2] at hb;cases hb;rfl
  have S4:=aHi (P:=c.P) (b:=c.b) (tm:=BF) (ds:=c.ds) (k:=k) (cs:=c.cs) (w:=w1) (w':=w2) (rest:=[]) (ops:=#[o0,o1,o2,o3,o4]) (i:=4) rfl hI (λc e=>by cases e) (by
   have:=eQ (P:=c.P) (t:=t) (o:=2) (v:=.pointer (some ⟨bi,0,none⟩)) hs b3 (λu hu=>by simp[Value.cells] at hu;subst hu;rfl) (by simp[Value.cells,b4])
   simp only[execOp,Instr.storeAt,vp,vq,Instr.sureAddr];rw[b5];simp[this,overwrite,Value.cells])
  have KE:=At.commit (sto:=⟨sP sto.objs j i m tI a f g y z x,sto.lo⟩) (rs:=⟨sc,⟨sP sto.objs j i m tI a f g y z x,sto.lo⟩⟩) hA.nr b6 (by show sto.lo<=(sP _ _ _ _ _ _ _ _ _ _ _).length;simpa[sP] using hA.lo) rfl;rw[hc] at KE;refine⟨w2,Z2,J1,B5,BF,KE,a3.trans b7,a4,(Steps.one stepR_region).trans ?_⟩;exact a6.trans (S4.trans (.one stepR_region_end))
 ·simp at a1) h'
theorem aTf{c:Rc}{tm tm':List Slot}{sto:AH}{k k':List Item}{AY:St}(l:List Nat)(e:dU sto.objs l (c.ans c.fid).keep tm=tm')(h:Rch c ⟨tm',sto⟩ k AY k'):Rch c ⟨tm,sto⟩ k AY k':=λw Ψ J ow tmps hA=>h w Ψ J ow tmps (e▸hA.thaw l)
theorem aCw(O:List AObj)(A B C:AObj)(tI:TypeId)(a f g:List UInt8)(y z x:AVal):sP (O++[A,B,C]) O.length (O.length+1) (O.length+2) tI a f g y z x=O++[.frz (.cptr (.agg [.str a,y,.rc tI f a y z])),.frz (.rc tI f a y z),.frz (.cptr (.agg [.str g,.iface tI (.cptr (.agg [.str a,y,.rc tI f a y z])),x]))]:=by
 simp[sP]
theorem ud{j:Nat}{v:Value}{s:Slot}(h:∀u o,s≠.ref u o):cv j v s s:=.inr (.inl ⟨rfl,h⟩)
theorem uc{j:Nat}{v:Value}{s:Slot}:cv j v s .dead:=.inl rfl
theorem aKJ{j:Nat}{v:Value}:cv j v (.val (.loc j 0)) (.val (.raw v)):=.inr (.inr (.inl ⟨rfl,rfl⟩))
theorem aKI{j:Nat}{v:Value}:cv j v (.val (.raw v)) (.val (.loc j 0)):=.inr (.inr (.inr ⟨rfl,rfl⟩))
theorem zf(v:Value):(AVal.raw v).cells=[.raw v]:=rfl
end Go.AM
namespace Go.Proofs.YtoiocfngjchdiaaGreatDoor
open Go.AM
open Go.RowKit
variable [Aps]
theorem aI3(e:EnD)(s:List UInt8)(j:Nat)(sto:AH)(hj:j<sto.objs.length):CF (.fn 102) [.val e.enc,.val (.str s),.val (.iface 139 (.loc j 0))] sto=some (.ret (.val (.loc sto.objs.length 0)),⟨sto.objs++[.box [.val (.str s),.val (.iface 139 (.loc j 0)),.val e.enc]],sto.lo⟩):=by
 have h4:lQ (.val (.iface 139 (.loc j 0)))=false:=rfl;have h5:lQ (.val (.str s))=true:=rfl;have hb:Nat.blt sto.objs.length sto.objs.length=false:=Fh.2 λh=>by have:=Ad h;omega
 have hk:Nat.ble (j+1) sto.objs.length=true:=Ah hj;have XT:Nat.ble j.succ sto.objs.length=true:=hk;clear hj;rcases e.three with h|⟨x,h⟩|⟨t,f,a,b,o,h⟩<;>rw[h]
 all_goals
  clear h;apply tA;rfl;rfl;exact Tryz.func102;rfl;rfl;simp only[go_sem];rfl;refine tQ ?_;repeat first|with_reducible constructor|with_reducible refine tW rfl ?_|((with_reducible apply tG);(·kernel_rfl);(·(intro _ _;(repeat (apply BN;(·(intro _;simp only[*,go_sem,Nat.reduceAdd,reduceIte,eY,af,pB,Pf,kM,ji,clean];rfl))));rfl));(·(simp only[go_sem];rfl)))|((with_reducible apply t1);(·(simp only[go_sem];rfl));(·rfl))|((with_reducible apply t0);(·(simp only[go_sem];rfl));(·rfl))|((with_reducible apply tl);(·assumption))
  exact aJb (v:=.loc sto.objs.length 0) (t:=6) rfl rfl hb
theorem r3(B0:Nat)(b:Frame)(cs:List Frame)(H:(rT B0 b cs).OK)(items:List Item)(O:List AObj)(lo ip:Nat)(AP:lo<=O.length)(pre ys:List DeD)(f:FuD)(ir:Nat)(fe ne:EnD)(ou:List AVal)(hb:(pre++l9 f::ys).length<1000)
  (hp:O[ip]?=some (.box [.val (.slice ((pre++l9 f::ys).map DeD.enc))])) :
  ∃(M:List AObj)(s6 s10 BI BZ Ia G7 BH CD BU HD LL LK LJ LI LH HJ HI HH HG HF HE:Slot),Rch (rT B0 b cs) ⟨[.val (.loc ir 0),.val (.loc ip 0),.val (.slice []),.dead,.own 4 ou,.val fe.enc,.val ne.enc,.dead,.dead,.dead,.dead,.dead,.dead,.dead,.val (.int .i64 ((pre++l9 f::ys).length:Nat)),.val (.int .i64 (pre.length:Nat)),.dead,.dead,.dead,.dead,.dead,.dead,.dead,.dead,.dead,.dead,.dead,.dead,.dead],⟨O,lo⟩⟩ (.code (aS Tryz.f34 0)::items)
   ⟨[.val (.loc ir 0),.val (.loc ip 0),.val (.slice []),s6,.own 4 ou,.val (EnD.rc f.name f.arg f.body fe).enc,.val (EnD.cons f.name (.fn f.arg f.body (.rc f.name f.arg f.body fe)) ne).enc,s10,BI,BZ,Ia,G7,BH,CD,.val (.int .i64 ((pre++l9 f::ys).length:Nat)),.val (.int .i64 ((pre++[l9 f]).length:Nat)),BU,HD,LL,LK,LJ,LI,LH,HJ,HI,HH,HG,HF,HE],⟨O++M,lo⟩⟩ items:=by
 have AN:=dK DeD.enc pre ys (l9 f);have AL:=CY pre ys (l9 f);have h0:=zI pre.length;have hw:=wL pre ys (l9 f) (by simp only[AV];omega);have hE:(l9 f).enc=.agg [.int .i64 3,.str [],.slice [],.slice [],.str [],.str [],.slice [],.slice [.agg [.str f.name,.str f.arg,.int .i64 f.body.kind,.int .i64 f.body.num,.str f.body.name,.str f.body.arg,.slice (f.body.args.map ExD.enc),.slice (f.body.pats.map PaD.enc)]],.int .i64 0,.int .i64 0,.str [],.str [],.slice [],.slice []]:=rfl;rw[hE] at AN;have Ii:=λM=>(Az (l₂:=M) (Ab.1 hp).1).trans hp
 have KA:=λM=>aI3 fe f.name O.length ⟨O++AObj.box [.val (.str f.arg),.val (.cptr (.agg [.int .i64 f.body.kind,.int .i64 f.body.num,.str f.body.name,.str f.body.arg,.slice (f.body.args.map ExD.enc),.slice (f.body.pats.map PaD.enc)])),.val .nilptr]::M,lo⟩ (by simp)
 have CV:=λM=>aI3 ne f.name O.length ⟨O++AObj.box [.val (.str f.arg),.val (.cptr (.agg [.int .i64 f.body.kind,.int .i64 f.body.num,.str f.body.name,.str f.body.arg,.slice (f.body.args.map ExD.enc),.slice (f.body.pats.map PaD.enc)])),.val .nilptr]::M,lo⟩ (by simp)
 have g1:=fe.clean;have g2:=ne.clean;have g3:=fe.flat;have g4:=ne.flat;have f1:lQ (.val .nilptr)=true:=rfl;simp only[EnD.enc_rc,EnD.enc_cons,ItD.enc_fn,ExD.enc_eq f.body];generalize pre++l9 f::ys=D at *;generalize(pre++[l9 f]).length=N2 at *;clear hb hE;generalize fe.enc=F at *;generalize ne.enc=N at *;refine⟨?_,?_⟩
 rotate_left
 iterate 21 apply Exists.intro
 refine Qm rfl ?_;repeat first|with_reducible refine oU ?_|with_reducible refine jD ?_|with_reducible refine fF ?_|with_reducible refine dF ?_|((with_reducible apply jB);(·rfl))|((with_reducible apply oT H);(·(intro _ _;(repeat (apply BN;(·(intro _;simp only[*,go_sem,Nat.reduceAdd,reduceIte,FL,FO,eY,kM,pB,Ay];rfl))));rfl));(·(simp only[go_sem];rfl)))|((with_reducible apply jC H);(·kernel_rfl);(·(intro _ _;(repeat (apply BN;(·(intro _;simp only[*,go_sem,Nat.reduceAdd,reduceIte,FL,FO,eY,kM,pB,Ay];rfl))));rfl));(·(simp only[go_sem];rfl)))|((with_reducible apply Hq);(·(simp only[go_sem];rfl));(·first|rfl|assumption))|((with_reducible apply Hr);(·(simp only[go_sem];rfl));(·first|rfl|assumption))
 refine V9 ?_;repeat first|with_reducible refine oU ?_|with_reducible refine jD ?_|with_reducible refine fF ?_|with_reducible refine dF ?_|((with_reducible apply jB);(·rfl))|((with_reducible apply oT H);(·(intro _ _;(repeat (apply BN;(·(intro _;simp only[*,go_sem,Nat.reduceAdd,reduceIte,FL,FO,eY,kM,pB,Ay];rfl))));rfl));(·(simp only[go_sem];rfl)))|((with_reducible apply jC H);(·kernel_rfl);(·(intro _ _;(repeat (apply BN;(·(intro _;simp only[*,go_sem,Nat.reduceAdd,reduceIte,FL,FO,eY,kM,pB,Ay];rfl))));rfl));(·(simp only[go_sem];rfl)))|((with_reducible apply Hq);(·(simp only[go_sem];rfl));(·first|rfl|assumption))|((with_reducible apply Hr);(·(simp only[go_sem];rfl));(·first|rfl|assumption))
 have o0:∀A B C:AObj,(O++[A,B,C])[O.length]?=some A:=λA B C=>by simp
 have o1:∀A B C:AObj,(O++[A,B,C])[O.length+1]?=some B:=λA B C=>by simp
 have o2:∀A B C:AObj,(O++[A,B,C])[O.length+2]?=some C:=λA B C=>by simp
 have Kg:Nat.ble 1 room=true:=rfl;have w1:IntKind.i64.wrap (0+1)=1:=rfl
 refine aNm (tmV:=?tmV) (sto':=?GS) (k1:=?k1) (tmW:=λv=>[.val (.loc ir 0),.val (.loc ip 0),.val (.slice []),.dead,.own 4 ou,.val (.loc (O.length+1) 0),.val (.loc (O.length+2) 0),.dead,.dead,.own 1 [],.dead,.val (.raw v),.dead,.dead,.val (.int .i64 (D.length:Nat)),.val (.int .i64 (pre.length:Nat)),.dead,.dead,.dead,.dead,.val (.int .i64 ((1:Nat):Int)),.val (.int .i64 0),.dead,.dead,.dead,.dead,.dead,.dead,.dead])
  (tmS:=[.val (.loc ir 0),.val (.loc ip 0),.val (.slice []),.dead,.own 4 ou,.val (.loc (O.length+1) 0),.val (.loc (O.length+2) 0),.dead,.dead,.dead,.dead,.dead,.val (.loc O.length 0),.dead,.val (.int .i64 (D.length:Nat)),.val (.int .i64 (pre.length:Nat)),.dead,.dead,.dead,.dead,.dead,.dead,.dead,.dead,.val (.int .i64 ((1:Nat):Int)),.val (.int .i64 0),.dead,.dead,.dead]) O.length (o0 _ _ _) ?g1 ?g2 ?g3 ?g4
 case g1 =>
  intro v;repeat first|exact .nil|(refine .cons ?_ ?_;(·first|exact uc|exact ud (λ_ _ h=>by cases h)|exact aKJ))
 case g2 =>
  intro v hv;repeat first|with_reducible refine oU ?_|with_reducible refine jD ?_|with_reducible refine fF ?_|with_reducible refine dF ?_|((with_reducible apply jB);(·rfl))|((with_reducible apply oT H);(·(intro _ _;(repeat (apply BN;(·(intro _;simp only[*,go_sem,Nat.reduceAdd,reduceIte,zf,b9,clean,flat,List.replicate,Bq,An,Ar];rfl))));rfl));(·(simp only[go_sem];rfl)))|((with_reducible apply jC H);(·kernel_rfl);(·(intro _ _;(repeat (apply BN;(·(intro _;simp only[*,go_sem,Nat.reduceAdd,reduceIte,zf,b9,clean,flat,List.replicate,Bq,An,Ar];rfl))));rfl));(·(simp only[go_sem];rfl)))|((with_reducible apply Hq);(·(simp only[go_sem];rfl));(·first|rfl|assumption))|((with_reducible apply Hr);(·(simp only[go_sem];rfl));(·first|rfl|assumption))
  refine qF ?_;repeat first|with_reducible refine oU ?_|with_reducible refine jD ?_|with_reducible refine fF ?_|with_reducible refine dF ?_|((with_reducible apply jB);(·rfl))|((with_reducible apply oT H);(·(intro _ _;(repeat (apply BN;(·(intro _;simp only[*,go_sem,Nat.reduceAdd,reduceIte,zf,b9,clean,flat,List.replicate,Bq,An,Ar];rfl))));rfl));(·(simp only[go_sem];rfl)))|((with_reducible apply jC H);(·kernel_rfl);(·(intro _ _;(repeat (apply BN;(·(intro _;simp only[*,go_sem,Nat.reduceAdd,reduceIte,zf,b9,clean,flat,List.replicate,Bq,An,Ar];rfl))));rfl));(·(simp only[go_sem];rfl)))|((with_reducible apply Hq);(·(simp only[go_sem];rfl));(·first|rfl|assumption))|((with_reducible apply Hr);(·(simp only[go_sem];rfl));(·first|rfl|assumption))
  refine V9 ?_;repeat first|with_reducible refine oU ?_|with_reducible refine jD ?_|with_reducible refine fF ?_|with_reducible refine dF ?_|((with_reducible apply jB);(·rfl))|((with_reducible apply oT H);(·(intro _ _;(repeat (apply BN;(·(intro _;simp only[*,go_sem,Nat.reduceAdd,reduceIte,zf,b9,clean,flat,List.replicate,Bq,An,Ar];rfl))));rfl));(·(simp only[go_sem];rfl)))|((with_reducible apply jC H);(·kernel_rfl);(·(intro _ _;(repeat (apply BN;(·(intro _;simp only[*,go_sem,Nat.reduceAdd,reduceIte,zf,b9,clean,flat,List.replicate,Bq,An,Ar];rfl))));rfl));(·(simp only[go_sem];rfl)))|((with_reducible apply Hq);(·(simp only[go_sem];rfl));(·first|rfl|assumption))|((with_reducible apply Hr);(·(simp only[go_sem];rfl));(·first|rfl|assumption))
  exact Rch.refl
 case g3 =>
  intro v;repeat first|exact .nil|(refine .cons ?_ ?_;(·first|exact uc|exact ud (λ_ _ h=>by cases h)|exact aKI))
 case g4 =>
  refine aY8 H (sc:=?sc) (tm':=?EV) (t:=132) (p:=116) (q:=114) (j:=O.length) (i:=O.length+1) (m:=O.length+2) ⟨rfl,rfl,rfl⟩ (by kernel_rfl) (by omega) (by omega) (by omega) (o0 _ _ _) (o1 _ _ _) (o2 _ _ _) rfl g3 g4 ?m1 ?m2 ?m3 ?m4 ?m5
  case m1 =>
   intro R kp kn;repeat (apply BN;(·(intro _;simp only[go_sem];rfl)))
   rfl
  case m2=>simp only[go_sem]
  case m3=>simp only[go_sem]
  case m4=>simp only[go_sem];rfl
  case m5 =>
   rw[aCw];refine aTf (tm':=[.val (.loc ir 0),.val (.loc ip 0),.val (.slice []),.dead,.own 4 ou,.val (.rc 139 f.name f.arg (.cptr (.agg [.int .i64 f.body.kind,.int .i64 f.body.num,.str f.body.name,.str f.body.arg,.slice (f.body.args.map ExD.enc),.slice (f.body.pats.map PaD.enc)])) F),.val (.cptr (.agg [.str f.name,.iface 139 (.cptr (.agg [.str f.arg,.cptr (.agg [.int .i64 f.body.kind,.int .i64 f.body.num,.str f.body.name,.str f.body.arg,.slice (f.body.args.map ExD.enc),.slice (f.body.pats.map PaD.enc)]),(.rc 139 f.name f.arg (.cptr (.agg [.int .i64 f.body.kind,.int .i64 f.body.num,.str f.body.name,.str f.body.arg,.slice (f.body.args.map ExD.enc),.slice (f.body.pats.map PaD.enc)])) F)])),N])),.dead,.dead,.dead,.dead,.dead,.val (.loc O.length 0),.dead,.val (.int .i64 (D.length:Nat)),.val (.int .i64 (pre.length:Nat)),.dead,.dead,.dead,.dead,.dead,.dead,.dead,.dead,.val (.int .i64 ((1:Nat):Int)),.val (.int .i64 0),.dead,.dead,.dead]) [8,9] ?n1 ?n2
   case n1 =>
    have t1:∀A C,gZ (O++[A,.frz (.rc 139 f.name f.arg (.cptr (.agg [.int .i64 f.body.kind,.int .i64 f.body.num,.str f.body.name,.str f.body.arg,.slice (f.body.args.map ExD.enc),.slice (f.body.pats.map PaD.enc)])) F),C]) (.val (.loc (O.length+1) 0))=.val (.rc 139 f.name f.arg (.cptr (.agg [.int .i64 f.body.kind,.int .i64 f.body.num,.str f.body.name,.str f.body.arg,.slice (f.body.args.map ExD.enc),.slice (f.body.pats.map PaD.enc)])) F):=λA C=>by simp only[gZ,o1];rfl
    have t2:∀A B V,gZ (O++[A,B,.frz V]) (.val (.loc (O.length+2) 0))=.val V:=λA B V=>by simp only[gZ,o2];rfl
    show[.val (.loc ir 0),.val (.loc ip 0),.val (.slice []),.dead,.own 4 ou,gZ (O++[_,.frz (.rc 139 f.name f.arg (.cptr (.agg [.int .i64 f.body.kind,.int .i64 f.body.num,.str f.body.name,.str f.body.arg,.slice (f.body.args.map ExD.enc),.slice (f.body.pats.map PaD.enc)])) F),_]) (.val (.loc (O.length+1) 0)),gZ (O++[_,_,.frz _]) (.val (.loc (O.length+2) 0)),.dead,.dead,.dead,.dead,.dead,.val (.loc O.length 0),.dead,.val (.int .i64 (D.length:Nat)),.val (.int .i64 (pre.length:Nat)),.dead,.dead,.dead,.dead,.dead,.dead,.dead,.dead,.val (.int .i64 ((1:Nat):Int)),.val (.int .i64 0),.dead,.dead,.dead]=_;rw[t1,t2]
   case n2 =>
    repeat first|with_reducible refine oU ?_|with_reducible refine jD ?_|with_reducible refine fF ?_|with_reducible refine dF ?_|((with_reducible apply jB);(·rfl))|((with_reducible apply oT H);(·(intro _ _;(repeat (apply BN;(·(intro _;simp only[*,go_sem];rfl))));rfl));(·(simp only[go_sem];rfl)))|((with_reducible apply jC H);(·kernel_rfl);(·(intro _ _;(repeat (apply BN;(·(intro _;simp only[*,go_sem];rfl))));rfl));(·(simp only[go_sem];rfl)))|((with_reducible apply Hq);(·(simp only[go_sem];rfl));(·first|rfl|assumption))|((with_reducible apply Hr);(·(simp only[go_sem];rfl));(·first|rfl|assumption))
    refine qF ?_;repeat first|with_reducible refine oU ?_|with_reducible refine jD ?_|with_reducible refine fF ?_|with_reducible refine dF ?_|((with_reducible apply jB);(·rfl))|((with_reducible apply oT H);(·(intro _ _;(repeat (apply BN;(·(intro _;simp only[*,go_sem];rfl))));rfl));(·(simp only[go_sem];rfl)))|((with_reducible apply jC H);(·kernel_rfl);(·(intro _ _;(repeat (apply BN;(·(intro _;simp only[*,go_sem];rfl))));rfl));(·(simp only[go_sem];rfl)))|((with_reducible apply Hq);(·(simp only[go_sem];rfl));(·first|rfl|assumption))|((with_reducible apply Hr);(·(simp only[go_sem];rfl));(·first|rfl|assumption))
    exact Rch.refl
 all_goals exact .dead
end Go.Proofs.YtoiocfngjchdiaaGreatDoor
namespace Go.AM
open Go.RowKit
variable {P:Program}{ans:FuncId->AF}{w:World}{B0:Nat}{Ψ:HT}{J:List Nat}{ow:Own}{tmps:Array Value}{fid:FuncId}
def Row(P:Program)(ans:FuncId->AF)(f:FuncId)(args:List Slot)(sto:AH)(res:ARes)(sto':AH):Prop :=
 (∃F,P.funcs[f]?=some F/\F.body.isSome=true/\F.name≠ "runtime.NumGoroutine")/\∀B0 w Ψ J ow vs,dR ans B0 w Ψ J ow args vs sto->∀c cs,dS P ans B0 w Ψ J ow sto c cs (lone (Frame.enter P f vs .normal) (c::cs) w) res sto'
open Classical in
noncomputable def H6(cf:aJ)(f:FuncId)(args:List Slot)(sto:AH)(r:ARes×AH):aJ:=λc a s=>if c=.fn f/\a=args/\s=sto then some r else cf c a s
theorem sZ(cf:aJ)(f:FuncId)(args:List Slot)(sto:AH)(r:ARes×AH):H6 cf f args sto r (.fn f) args sto=some r:=by unfold H6;rw[Bu ⟨rfl,rfl,rfl⟩]
theorem ai{cf:aJ}{f:FuncId}{args:List Slot}{sto sto':AH}{res:ARes}(h:kI P ans B0 cf)(hr:Row P ans f args sto res sto'):kI P ans B0 (H6 cf f args sto (res,sto')) where
 fn:=λg a s r s' e=>by
  unfold H6 at e
  split at e
  ·rename_i hc
   obtain⟨h1,rfl,rfl⟩:=hc;cases h1;cases e;exact⟨hr.1,hr.2 B0⟩
  ·exact h.fn _ _ _ _ _ e
 yld:=λi a s r s' e=>by
  unfold H6 at e
  split at e
  ·rename_i hc
   exact absurd hc.1 (by intro h;cases h)
  ·exact h.yld _ _ _ _ _ e
theorem y0{cf:aJ}{f g:FuncId}{args a:List Slot}{sto s:AH}{r:ARes×AH}(h:g≠f):H6 cf f args sto r (.fn g) a s=cf (.fn g) a s:=by
 unfold H6;rw[Bc]
 rintro⟨h1,_⟩
 cases h1;exact h rfl
theorem ft{cf:aJ}{f:FuncId}{args:List Slot}{sto:AH}{r:ARes×AH}(hp:eU ans cf)(hf:(ans f).prim=false):eU ans (H6 cf f args sto r):=λg a hg=>by
 obtain⟨o,h1,h2⟩:=hp g a hg;exact⟨o,h1,λs=>(y0 (by intro h;rw[h,hf] at hg;cases hg)).trans (h2 s)⟩
theorem oa{cf:aJ}{f:FuncId}{args:List Slot}{sto:AH}{r:ARes×AH}(hm:P.follows .mixedOrders=true)(hp:eU ans cf)(hf:(ans f).prim=false):iC P ans (H6 cf f args sto r):=uh hm (ft hp hf)
theorem qE{c:Rc}{tm tm':List Slot}{sto:AH}{k k':List Item}{AY:St}(h1:xX (λs s'=>s'=.dead\/s'=s) tm tm')(h:Rch c ⟨tm',sto⟩ k AY k'):Rch c ⟨tm,sto⟩ k AY k':=λw Ψ J ow tmps hA=>by
 refine h w Ψ J ow tmps ?_
 have key:∀{tm tm':List Slot},xX (λs s'=>s'=.dead\/s'=s) tm tm'->∀s∈tm',s=.dead\/s∈tm:=by
  intro tm tm' h;induction h with
  |nil=>intro s hs;cases hs
  |cons h1 h2 ih =>
   intro s hs;rcases Au.1 hs with hs|hs
   ·subst hs
    rcases h1 with h1|h1
    ·exact .inl h1
    ·subst h1;exact .inr (by simp)
   ·rcases ih s hs with h|h
    ·exact .inl h
    ·exact .inr (by simp[h])
 have Gt:noRef tm':=λs hs u o e=>by
  rcases key h1 s hs with h|h
  ·rw[h] at e;cases e
  ·exact hA.nr s h u o e
 exact⟨hA.rel.weak λt=>by
  rcases rW (Q:=λs s'=>s'=.dead\/s'=s) (.inl rfl) (c.ans c.fid).keep t h1 with h|h
  ·exact .inl h
  ·exact .inr (.inl ⟨h,Gt.tlook _ _⟩),Gt,hA.lo⟩
def G4(f:FuncId):Frame:={ (default:Frame) with fn:=f,kind:=.normal,roundOf:=none }
theorem rowOf {f:FuncId} {fn:Func} {c0:Code} {args:List Slot} {sto sto':AH} {res:ARes} {tm:List Slot} {cf:aJ} (hF:P.funcs[f]?=some fn) (hb:fn.body=some c0) (JX:fn.name≠ "runtime.NumGoroutine") (hg:(Nat.beq fn.ntmps (ans f).nt&&Nat.ble args.length fn.ntmps)=true)
  (htm:((ans f).keep.map λt=>(args[t]?).getD .dead)=tm) (hle:StoLe sto sto')
  (hR:∀B0 cs,∃F2 k1,Rch ⟨P,ans,cf,f,B0,G4 f,cs,[]⟩ ⟨tm,sto⟩ [.code c0] F2 k1/\(k1=[]\/∃k,k1=.code .ret::k)/\sto.objs.length<=F2.sto.objs.length/\finish P (ans f) fn sto.objs.length F2=some (res,sto')):Row P ans f args sto res sto':=by
 simp only[Ac] at hg;have Ju:fn.ntmps=(ans f).nt:=Aa hg.1;have DU:args.length<=(ans f).nt:=by rw[<-Ju];exact Ad hg.2
 refine⟨⟨fn,hF,by simp[hb],JX⟩,λB0 w Ψ J ow vs BL c cs=>?_⟩
 have henter:Frame.enter P f vs .normal=(G4 f).atR ⟨vs++Array.replicate ((ans f).nt-vs.size) undef,[]⟩ [.code c0]:=by
  simp[Frame.enter,Frame.atR,hF,hb,G4,Ju]
 rw[henter];have Jc:=BL.objs.1;have Kx:=u4 (P:=P) BL DU;rw[htm] at Kx;obtain⟨F2,k1,hR,EL,hlen,IC⟩:=hR B0 (c::cs);obtain⟨w1,Z1,J1,BO,BF,a1,a3,a4,a6⟩:=hR w Ψ J ow _ Kx;obtain⟨s,v,J2,B5,q1,q2,q3,q4,q5,q6,Nz,q7,q8,q9,OA⟩:=rE a1 hlen IC;subst q1;refine⟨w1,Z1,J2,B5,a3.trans q6,jN a4 Jc.symm OA,a1.rel.wsat,q5,λb hb=>a1.rel.lt b (Nz b hb),hle,q2,v,q4,?_⟩
 have hL:∀{k:List Item},Steps P (lone (((G4 f).atR ⟨BF,[]⟩ k)) (c::cs) w1) (lone { (G4 f).atR ⟨BF,[]⟩ k with mode:=.returning } (c::cs) w1)->Steps P (lone (((G4 f).atR ⟨BF,[]⟩ k)) (c::cs) w1) (lone (c.finish v) cs w1):=λ{k} hs =>
  hs.trans (.one (step_leave_returned ⟨rfl,rfl,rfl,fn,hF,q3⟩))
 rcases EL with rfl|⟨k,rfl⟩
 ·exact a6.trans (hL (.one (stepR_end rfl)))
 ·exact a6.trans (hL (.one (stepR_ret rfl)))
theorem tC{pr:fY}(E:Env P ans B0 pr):kI P ans B0 (GC P ans pr) where
 fn:=λf args sto res sto' e=>by
  obtain⟨n,hn⟩:=gQ.1 e;exact(wW E n).1.fn _ _ _ _ _ hn
 yld:=λi args sto res sto' e=>by
  obtain⟨n,hn⟩:=gQ.1 e;exact(wW E n).1.yld _ _ _ _ _ hn
theorem pE{pr:fY}:eU ans (GC P ans pr):=λf args h=>by
 cases hp:pr f args with
 |none=>exact⟨none,by simp,λsto=>by rw[uU];simp[cD,hp,h]⟩
 |some o =>
  refine⟨o.bind cy,λs hs=>?_,λsto=>by rw[uU];simp[cD,hp]⟩;obtain⟨r,_,hs⟩:=aH hs;cases r with
  |pan v=>cases hs
  |ret s'=>obtain⟨hg,hs⟩:=aA hs;cases hs;exact hg
end Go.AM
namespace Go.Proofs.YtoiocfngjchdiaaGreatDoor
open Go.AM
open Go.RowKit
variable [Aps]
abbrev Mo(ir ip:Nat)(ou:List AVal)(fe ne:AVal)(n i:Nat):List Slot:=[.val (.loc ir 0),.val (.loc ip 0),.val (.slice []),.dead,.own 4 ou,.val fe,.val ne,.dead,.dead,.dead,.dead,.dead,.dead,.dead,.val (.int .i64 (n:Nat)),.val (.int .i64 (i:Nat)),.dead,.dead,.dead,.dead,.dead,.dead,.dead,.dead,.dead,.dead,.dead,.dead,.dead]
theorem aY9(B0:Nat)(b:Frame)(cs:List Frame)(H:(rT B0 b cs).OK)(items:List Item)(lo ip ir:Nat)(ou:List AVal)(tl:List DeD)(ys:List DeD):∀(pre:List DeD)(O:List AObj)(fe ne:EnD),lo<=O.length->(∀y∈ys,iw y)->(pre++ys++tl).length<1000 ->
  O[ip]?=some (.box [.val (.slice ((pre++ys++tl).map DeD.enc))]) ->
  ∃M:List AObj,Rch (rT B0 b cs) ⟨Mo ir ip ou fe.enc ne.enc (pre++ys++tl).length pre.length,⟨O,lo⟩⟩ (.code (aS Tryz.f34 0)::.inLoop (aS Tryz.f34 0)::items)
   ⟨Mo ir ip ou (mS ys fe ne).1.enc (mS ys fe ne).2.enc (pre++ys++tl).length (pre++ys).length,⟨O++M,lo⟩⟩ (.code (aS Tryz.f34 0)::.inLoop (aS Tryz.f34 0)::items):=by
 induction ys with
 |nil =>
  intro pre O fe ne AP hy hb hp;refine⟨[],?_⟩;simp only[Ao,mS];exact Rch.refl
 |cons y ys ih =>
  intro pre O fe ne AP hy hb hp;have e1:pre++y::ys++tl=pre++y::(ys++tl):=by simp
  have e2:pre++[y]++ys++tl=pre++y::(ys++tl):=by simp
  have e3:pre++[y]++ys=pre++y::ys:=by simp
  rw[e1] at hb hp ⊢;rcases hy y (by simp) with⟨hk,hf⟩|⟨f,rfl⟩
  ·obtain⟨s6,s10,BI,BZ,Ia,G7,BH,CD,BU,HD,LL,LK,LJ,LI,LH,HJ,HI,HH,HG,HF,HE,h1⟩:=r1 B0 b cs H (.inLoop (aS Tryz.f34 0)::items) O lo ip pre (ys++tl) y hk ir fe.enc ne.enc ou hb hp
   obtain⟨M,h2⟩:=ih (pre++[y]) O fe ne AP (λz hz=>hy z (by simp[hz])) (by rw[e2];exact hb) (by rw[e2];exact hp);rw[e2,e3] at h2;refine⟨M,h1.trans (qF (qE (tm':=Mo ir ip ou fe.enc ne.enc (pre++y::(ys++tl)).length (pre++[y]).length) ?_ ?_))⟩
   ·repeat first|exact .nil|(refine .cons ?_ ?_;(·first|exact .inl rfl|exact .inr rfl))
   ·have e4:mS (y::ys) fe ne=mS ys fe ne:=by simp only[mS,hf]
    rw[e4];exact h2
  ·obtain⟨M1,s6,s10,BI,BZ,Ia,G7,BH,CD,BU,HD,LL,LK,LJ,LI,LH,HJ,HI,HH,HG,HF,HE,h1⟩:=r3 B0 b cs H (.inLoop (aS Tryz.f34 0)::items) O lo ip AP pre (ys++tl) f ir fe ne ou hb hp
   obtain⟨M,h2⟩:=ih (pre++[l9 f]) (O++M1) (.rc f.name f.arg f.body fe) (.cons f.name (.fn f.arg f.body (.rc f.name f.arg f.body fe)) ne) (by simp;omega) (λz hz=>hy z (by simp[hz])) (by rw[e2];exact hb) (by rw[e2];exact(Az (Ab.1 hp).1).trans hp);rw[e2,e3,Aj] at h2;refine⟨M1++M,h1.trans (qF (qE (tm':=Mo ir ip ou (EnD.rc f.name f.arg f.body fe).enc (EnD.cons f.name (.fn f.arg f.body (.rc f.name f.arg f.body fe)) ne).enc (pre++l9 f::(ys++tl)).length (pre++[l9 f]).length) ?_ ?_))⟩
   ·repeat first|exact .nil|(refine .cons ?_ ?_;(·first|exact .inl rfl|exact .inr rfl))
   ·exact h2
theorem aNX:∃items k:List Item,(∀(B0:Nat)(b:Frame)(cs:List Frame)(_:(rT B0 b cs).OK)(ir ip:Nat)(O:List AObj)(lo:Nat)(D:List DeD),O[ip]?=some (.box [.val (.slice (D.map DeD.enc))]) ->
   Rch (rT B0 b cs) ⟨[.val (.loc ir 0),.val (.loc ip 0),.val (.slice []),.dead,.dead,.dead,.dead,.dead,.dead,.dead,.dead,.dead,.dead,.dead,.dead,.dead,.dead,.dead,.dead,.dead,.dead,.dead,.dead,.dead,.dead,.dead,.dead,.dead,.dead],⟨O,lo⟩⟩ [.code ((Tryz.f34.body).getD .skip)] ⟨Mo ir ip [] .nilptr .nilptr D.length 0,⟨O,lo⟩⟩ (.code (aS Tryz.f34 0)::.inLoop (aS Tryz.f34 0)::items)) /\
  (∀(B0:Nat)(b:Frame)(cs:List Frame)(_:(rT B0 b cs).OK)(ir ip:Nat)(O:List AObj)(lo:Nat)(N:Nat)(x:List AVal)(fe ne:AVal),
   Rch (rT B0 b cs) ⟨Mo ir ip x fe ne N N,⟨O,lo⟩⟩ (.inLoop (aS Tryz.f34 0)::items) ⟨[.dead,.dead,.dead,.val (.slice x),.dead,.dead,.dead,.dead,.dead,.dead,.dead,.dead,.dead,.dead,.dead,.dead,.dead,.dead,.dead,.dead,.dead,.dead,.dead,.dead,.dead,.dead,.dead,.dead,.dead],⟨O,lo⟩⟩ (.code .ret::k)):=by
 (iterate 2 apply Exists.intro);apply And.intro
 ·intro B0 b cs H ir ip O lo D hp
  show Rch _ _ [.code (.seq _ _)] _ _;repeat first|with_reducible refine oU ?_|with_reducible refine jD ?_|with_reducible refine fF ?_|with_reducible refine dF ?_|((with_reducible apply jB);(·rfl))|((with_reducible apply oT H);(·(intro _ _;(repeat (apply BN;(·(intro _;simp only[*,go_sem,Nat.reduceAdd,reduceIte,Ay];rfl))));rfl));(·(simp only[go_sem];rfl)))|((with_reducible apply jC H);(·kernel_rfl);(·(intro _ _;(repeat (apply BN;(·(intro _;simp only[*,go_sem,Nat.reduceAdd,reduceIte,Ay];rfl))));rfl));(·(simp only[go_sem];rfl)))|((with_reducible apply Hq);(·(simp only[go_sem];rfl));(·first|rfl|assumption))|((with_reducible apply Hr);(·(simp only[go_sem];rfl));(·first|rfl|assumption))
  refine V9 ?_;refine qE (tm':=Mo ir ip [] .nilptr .nilptr D.length 0) ?_ Rch.refl;repeat first|exact .nil|(refine .cons ?_ ?_;(·first|exact .inl rfl|exact .inr rfl))
 ·intro B0 b cs H ir ip O lo N x fe ne
  have AL:decide (((N:Nat):Int)<(N:Nat))=false:=by simp
  refine qF (Qm rfl ?_);repeat first|with_reducible refine oU ?_|with_reducible refine jD ?_|with_reducible refine fF ?_|with_reducible refine dF ?_|((with_reducible apply jB);(·rfl))|((with_reducible apply oT H);(·(intro _ _;(repeat (apply BN;(·(intro _;simp only[*,go_sem];rfl))));rfl));(·(simp only[go_sem];rfl)))|((with_reducible apply jC H);(·kernel_rfl);(·(intro _ _;(repeat (apply BN;(·(intro _;simp only[*,go_sem];rfl))));rfl));(·(simp only[go_sem];rfl)))|((with_reducible apply Hq);(·(simp only[go_sem];rfl));(·first|rfl|assumption))|((with_reducible apply Hr);(·(simp only[go_sem];rfl));(·first|rfl|assumption))
  refine qE (tm':=[.dead,.dead,.dead,.val (.slice x),.dead,.dead,.dead,.dead,.dead,.dead,.dead,.dead,.dead,.dead,.dead,.dead,.dead,.dead,.dead,.dead,.dead,.dead,.dead,.dead,.dead,.dead,.dead,.dead,.dead]) ?_ Rch.refl;repeat first|exact .nil|(refine .cons ?_ ?_;(·first|exact .inl rfl|exact .inr rfl))
theorem aTk(E:∀B0,Env Tryz.prog ans B0 kD){Q:List AObj}{ir d iq q lo ip s n:Nat}(hR:RunOK Q ir d iq q lo)(hs:s+n<=q)(ys:List DeD)(hy:∀y∈ys,iw y)(nm:List UInt8)(e:ExD)(v:VaD)(FX:Ev e (mS ys .nil .nil).2 (toIt v) n)(hv:v.okI=true)(LV:v.cnt<=4000)(hb:(ys++[cU nm e]).length<1000)(BD:ip≠d)
  (hp:Q[ip]?=some (.box [.val (.slice ((ys++[cU nm e]).map DeD.enc))])) :
  Row Tryz.prog ans 34 [.val (.loc ir 0),.val (.loc ip 0),.val (.slice [])] ⟨AW Q d s,lo⟩ (.ret (.val (.slice [FC nm v]))) ⟨AW Q d (s+n),lo⟩:=by
 obtain⟨items,k,G3,TD⟩:=aNX;refine rowOf (cf:=CF) Tryz.func34 rfl ((E 0).names 34 _ Tryz.func34 rfl) rfl rfl ⟨rfl,by rw[bW,bW];exact Af _,λi hi=>by rw[jG (by have:=hR.lo;simp only at hi;omega),jG (by have:=hR.lo;simp only at hi;omega)]⟩ λB0 cs=>?_
 have H:(rT B0 (G4 34) cs).OK:=⟨tC (E B0),(E B0).drawn _ pE,rfl⟩
 have AP:=hR.lo;have AL:=hR.lt;have Qw:=(jG BD s).trans hp;obtain⟨M,hT⟩:=aY9 B0 (G4 34) cs H items lo ip ir [] [cU nm e] ys [] (AW Q d s) .nil .nil (by rw[bW];omega) hy (by simpa using hb) (by simpa using Qw);simp only[Ak] at hT;rw[<-eR AL] at hT;obtain⟨M2,s6,s10,BI,BZ,Ia,G7,BH,CD,BU,HD,LL,LK,LJ,LI,LH,HJ,HI,HH,HG,HF,HE,h5⟩:=r5 B0 (G4 34) cs H (.inLoop (aS Tryz.f34 0)::items) (Q++M) ir d iq q lo ip s n (hR.app M) hs ys [] nm e (mS ys .nil .nil).1.enc (mS ys .nil .nil).2 v FX hv LV hb BD ((Az (Ab.1 hp).1).trans hp);rw[eR AL (s:=s+n),Aj] at h5;have ho:=TD B0 (G4 34) cs H ir ip (AW Q d (s+n)++(M++M2)) lo (ys++[cU nm e]).length [FC nm v] (mS ys .nil .nil).1.enc (mS ys .nil .nil).2.enc;refine⟨_,_,(G3 B0 (G4 34) cs H ir ip (AW Q d s) lo (ys++[cU nm e]) Qw).trans (hT.trans (h5.trans (qE ?_ ho))),.inr ⟨_,rfl⟩,?_,?_⟩
 ·repeat first|exact .nil|(refine .cons ?_ ?_;(·first|exact .inl rfl|exact .inr rfl))
 ·rw[bW];simp[bW]
 ·exact QA (finVal rfl rfl (Zx _ _))
noncomputable abbrev aZa(cf:aJ)(B0:Nat)(b:Frame)(cs:List Frame):Rc:=⟨Tryz.prog,ans,cf,33,B0,b,cs,[]⟩
theorem aTj(E:∀B0,Env Tryz.prog ans B0 kD){Q:List AObj}{ir d iq q lo ip iv ii io s n:Nat}(hR:RunOK Q ir d iq q lo)(hs:s+n<=q)(ys:List DeD)(hy:∀y∈ys,iw y)(nm:List UInt8)(e:ExD)(v:VaD)(FX:Ev e (mS ys .nil .nil).2 (toIt v) n)(hv:v.okI=true)(LV:v.cnt<=4000)(hb:(ys++[cU nm e]).length<1000)(BD:ip≠d)
  (hp:Q[ip]?=some (.box [.val (.slice ((ys++[cU nm e]).map DeD.enc))])) (XW:Q[iv]?=some (.box [.val (.loc ir 0)])) (XY:Q[ii]?=some (.box [.val (.slice [])])) (XX:Q[io]?=some (.box [.own 4 [],.val (.int .i64 0)])) (nv:iv≠d) (ni:ii≠d) (no:io≠d) (XD:lo<=io) (Hf:ir<Q.length) :
  Row Tryz.prog ans 33 [.val (.loc iv 0),.val (.loc ip 0),.val (.loc ii 0),.val (.loc io 0)] ⟨AW Q d s,lo⟩ (.ret (.tup [])) ⟨AW (Q.set io (.box [.val (.slice [FC nm v]),.val (.int .i64 0)])) d (s+n),lo⟩:=by
 have X5:=aTk E hR hs ys hy nm e v FX hv LV hb BD hp;have RE:=sZ CF 34 [.val (.loc ir 0),.val (.loc ip 0),.val (.slice [])] ⟨AW Q d s,lo⟩ (.ret (.val (.slice [FC nm v])),⟨AW Q d (s+n),lo⟩);have hlen:∀X x,(AW (Q.set io X) d x).length=Q.length:=λX x=>by rw[bW];simp
 have fD:∀x X,(AW Q d x).set io X=AW (Q.set io X) d x:=λx X=>by
  unfold AW;rw[List.set_comm _ _ no.symm]
 refine rowOf (cf:=H6 CF 34 [.val (.loc ir 0),.val (.loc ip 0),.val (.slice [])] ⟨AW Q d s,lo⟩ (.ret (.val (.slice [FC nm v])),⟨AW Q d (s+n),lo⟩)) Tryz.func33 rfl ((E 0).names 33 _ Tryz.func33 rfl) rfl rfl ⟨rfl,by rw[hlen,bW];exact Af _,λi hi=>by
  have AP:=hR.lo;simp only at hi;rw[jG (by omega),jG (by omega),Dj (by omega)]⟩ λB0 cs=>?_
 have H:(aZa (H6 CF 34 [.val (.loc ir 0),.val (.loc ip 0),.val (.slice [])] ⟨AW Q d s,lo⟩ (.ret (.val (.slice [FC nm v])),⟨AW Q d (s+n),lo⟩)) B0 (G4 33) cs).OK:=⟨ai (tC (E B0)) X5,oa (by kernel_rfl) pE (by show(ans 34).prim=false;rw[Yx]),rfl⟩
 generalize H6 CF 34 [.val (.loc ir 0),.val (.loc ip 0),.val (.slice [])] ⟨AW Q d s,lo⟩ (.ret (.val (.slice [FC nm v])),⟨AW Q d (s+n),lo⟩)=cf at *;have k1:=λx=>(jG nv x).trans XW
 have k2:=λx=>(jG ni x).trans XY
 have k3:=λx=>(jG no x).trans XX
 have k4:=bW Q d;have k5:Nat.ble lo io=true:=Ah XD;have k6:Nat.ble (ir+1) Q.length=true:=Ah Hf;clear X5 hp XW XY XX FX hb hy hR hs XD Hf hv LV E;(iterate 2 apply Exists.intro);refine⟨?_,.inl rfl,?_,?_⟩
 ·show Rch _ ⟨[.val (.loc iv 0),.val (.loc ip 0),.val (.loc ii 0),.val (.loc io 0)],_⟩ _ _ _
  repeat first|with_reducible refine oU ?_|with_reducible refine jD ?_|with_reducible refine fF ?_|with_reducible refine dF ?_|((with_reducible apply jB);(·rfl))|((with_reducible apply oT H);(·(intro _ _;(repeat (apply BN;(·(intro _;simp only[*,go_sem,Nat.reduceAdd,reduceIte,FC];rfl))));rfl));(·(simp only[go_sem];rfl)))|((with_reducible apply jC H);(·kernel_rfl);(·(intro _ _;(repeat (apply BN;(·(intro _;simp only[*,go_sem,Nat.reduceAdd,reduceIte,FC];rfl))));rfl));(·(simp only[go_sem];rfl)))|((with_reducible apply Hq);(·(simp only[go_sem];rfl));(·first|rfl|assumption))|((with_reducible apply Hr);(·(simp only[go_sem];rfl));(·first|rfl|assumption))
  exact Rch.refl
 ·show _<=(AW (Q.set io _) d (s+n)).length
  rw[hlen,bW];exact Af _
 ·refine(?_:_=some (ARes.ret (.tup []),(⟨(AW (Q.set io (.box [.val (.slice [FC nm v]),.val (.int .i64 0)])) d (s+n)).take (AW Q d s).length,lo⟩:AH))).trans ?_
  ·rfl
  ·rw[Bs (by rw[hlen,bW];exact Af _)]
end Go.Proofs.YtoiocfngjchdiaaGreatDoor
