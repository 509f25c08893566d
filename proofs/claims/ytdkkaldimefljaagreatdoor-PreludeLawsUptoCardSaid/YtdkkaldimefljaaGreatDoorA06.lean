import Derived.Test.YtdkkaldimefljaaGreatDoorA05
set_option linter.all false
namespace Go.AM
section
variable {P:Program}{ans:FuncId->AK}{w:World}{B0:Nat}{Z:HT}{J:List Nat}{ow:Own}{tmps:Array Value}
theorem aH4{an:AK}{rid:Nat}{ops:Array Oper}(h:Ma ans an rid ops=true):yR an rid=false:=by
 have:=(Dm.1 h).1
 simpa using this
theorem iT:∀{a b:List Nat},mD a b=true->a=b
 |[],[],_=>rfl
 |[],_::_,h=>by cases h
 |_::_,[],h=>by cases h
 |a::l,b::m,h=>by
  simp only[mD,Ac] at h;rw[Aa h.1,iT h.2]
theorem j6{α:Type}{c:Bool}{a b:α}(h:(bif c then some a else none)=some b):c=true/\a=b:=by
 cases c
 ·cases h
 ·exact⟨rfl,Ap h⟩
theorem aAD{o:Oper}{d a t:Nat}{es:List Nat}(h:To o d a es=some t):Is o (some d) (.load t (.tmp a))/\fD o=es:=by
 unfold To at h
 split at h
 ·rename_i h1 h2 h3
  obtain⟨hc,rfl⟩:=j6 h;simp only[Ac] at hc;exact⟨⟨by rw[h1,Aa hc.1.1],by rw[h2,Aa hc.1.2],h3⟩,iT hc.2⟩
 ·cases h
theorem aHC{o:Oper}{d a t:Nat}{es:List Nat}(h:X4 o d a es=some t):Is o (some d) (.call ⟨.builtin .len,#[.tmp a],#[t]⟩)/\fD o=es:=by
 unfold X4 at h
 split at h
 ·rename_i h1 h2 h3
  obtain⟨hc,rfl⟩:=j6 h;simp only[Ac] at hc;exact⟨⟨by rw[h1,Aa hc.1.1],by rw[h2,Aa hc.1.2],h3⟩,iT hc.2⟩
 ·cases h
theorem aHz{o:Oper}{d:Nat}{t:TypeId}{z:Value}{es:List Nat}(h:X6 o d es=some (t,z)):Is o (some d) (.buildSlice t 1 #[(0,.const z)])/\fD o=es:=by
 unfold X6 at h
 split at h
 ·rename_i h1 h2 h3
  obtain⟨hc,h4⟩:=j6 h;cases h4;simp only[Ac] at hc;exact⟨⟨by rw[h1,Aa hc.1.1.1],by rw[h2,Aa hc.1.1.2,Aa hc.1.2],h3⟩,iT hc.2⟩
 ·cases h
theorem aHx{o:Oper}{d a b:Nat}{t u:TypeId}{es:List Nat}(h:X7 o d a b es=some (t,u)):Is o (some d) (.call ⟨.builtin .append,#[.tmp a,.tmp b],#[t,u]⟩)/\fD o=es:=by
 unfold X7 at h
 split at h
 ·rename_i h1 h2 h3
  obtain⟨hc,h4⟩:=j6 h;cases h4;simp only[Ac] at hc;exact⟨⟨by rw[h1,Aa hc.1.1.1],by rw[h2,Aa hc.1.1.2,Aa hc.1.2],h3⟩,iT hc.2⟩
 ·cases h
theorem aHA{o:Oper}{d a b t:Nat}{es:List Nat}(h:X5 o d a b es=some t):Is o (some d) (.indexAddr t (.tmp a) (.tmp b))/\fD o=es:=by
 unfold X5 at h
 split at h
 ·rename_i h1 h2 h3
  obtain⟨hc,rfl⟩:=j6 h;simp only[Ac] at hc;exact⟨⟨by rw[h1,Aa hc.1.1.1],by rw[h2,Aa hc.1.1.2,Aa hc.1.2],h3⟩,iT hc.2⟩
 ·cases h
theorem aAE{o:Oper}{a b t:Nat}{es:List Nat}(h:Tm o a b es=some t):Is o none (.store t (.tmp a) (.tmp b))/\fD o=es:=by
 unfold Tm at h
 split at h
 ·rename_i h1 h2 h3
  obtain⟨hc,rfl⟩:=j6 h;simp only[Ac] at hc;exact⟨⟨h1,by rw[h2,Aa hc.1.1,Aa hc.1.2],h3⟩,iT hc.2⟩
 ·cases h
theorem py{ops:Array Oper}{s e:TypeId}{z:Value}(h:nB ops.toList=some (s,e,z)):App ops s e z:=by
 unfold nB at h
 split at h
 ·rename_i o0 o1 o2 o3 o4 o5 o6 o7 hl
  simp only[Ch] at h;obtain⟨s0,a0,e1,a1,s2,a2,⟨s3,z3⟩,a3,⟨s4,u4⟩,a4,s5,a5,e6,a6,s7,a7,h⟩:=h;obtain⟨hc,h⟩:=j6 h;cases h;simp only[Ac] at hc;obtain⟨⟨⟨⟨⟨⟨c2,c3⟩,c4⟩,c5⟩,c6⟩,c7⟩,c8⟩:=hc;obtain rfl:=Aa c2;obtain rfl:=Aa c3;obtain rfl:=Aa c4;obtain rfl:=Aa c5;obtain rfl:=Aa c6;obtain rfl:=Aa c7;obtain rfl:=Aa c8;have g:∀(i:Nat) o,[o0,o1,o2,o3,o4,o5,o6,o7][i]?=some o->ops[i]?=some o:=λi o ho=>by rw[<-Bq,hl];exact ho
  exact⟨by rw[<-Fh,hl];rfl,⟨o0,g 0 _ rfl,aAD a0⟩,⟨o1,g 1 _ rfl,aAD a1⟩,⟨o2,g 2 _ rfl,aHC a2⟩,⟨o3,g 3 _ rfl,aHz a3⟩,⟨o4,g 4 _ rfl,aHx a4⟩,⟨o5,g 5 _ rfl,aHA a5⟩,⟨o6,g 6 _ rfl,aAE a6⟩,⟨o7,g 7 _ rfl,aAE a7⟩⟩
 ·cases h
theorem oN{R:Type}{b:Bool}{k:Option R}(h:b=true):aL b k=k:=by subst h;rfl
theorem aE1{R:Type}{r:R}{a b:Slot}{k:Nat->List Cell->Option R}(h:ee a b k=some r):∃i cs,a=.val (.loc i 0)/\b=.box cs/\k i cs=some r:=by
 unfold ee at h
 split at h
 ·exact⟨_,_,rfl,rfl,h⟩
 ·cases h
theorem aE0{R:Type}{r:R}{bs:List Cell}{k:Nat->List AVal->Option R}(h:ed bs k=some r):∃sz xs,bs=[.own sz xs]/\k sz xs=some r:=by
 unfold ed at h
 split at h
 ·exact⟨_,_,rfl,h⟩
 ·cases h
theorem aCj{R:Type}{r:R}{o:Option AObj}{k:List Cell->Option R}(h:iG o k=some r):∃bs,o=some (.box bs)/\k bs=some r:=by
 unfold iG at h
 split at h
 ·exact⟨_,rfl,h⟩
 ·cases h
structure aNj (P:Program) (an:AK) (ops:List Oper) (st:St) (s el:TypeId) (z0:Value) (sz:Nat) (z zc:AVal) (i:Nat) (cs:List Cell) (xs:List AVal):Prop where
 shape:nB ops=some (s,el,z0)
 un:P.underlying s=some (.slice el)
 s1:bA P s=some 1
 szq:bA P el=some sz
 pos:0<sz
 zero:zeroOf P el=some z
 zl:z.cells.length=sz
 zcl:clean z=true
 const:iD z0=some zc
 cl:zc.cells.length=sz
 ccl:clean zc=true
 ag:bO P el=some true
 ag1:bO P s=some false
 by1:aU P el<=16384
 by0:0<aU P el
 le:sz<=16777216
 nt:13<an.nt
 keep:∀t∈[8,9,10,11,12,13],t∉an.keep
 t2:tlook an.keep st.tm 2=.val (.loc i 0)
 t5:tlook an.keep st.tm 5=.box cs
 obj:st.sto.objs[i]?=some (.box [.own sz xs])
 csl:cs.length=sz
 csc:clean (.agg (cs.map Cell.get))=true
 room:xs.length+1<=AM.room
 lo:st.sto.lo<=i
theorem tz{an:AK}{ops:List Oper}{st:St}{R:Type}{r:R}{K:bD->St->Option R}(e:y5 P an ops st K=some r) :
  ∃s el z0 sz z zc i cs xs,aNj P an ops st s el z0 sz z zc i cs xs/\K .norm ⟨st.tm,{ st.sto with objs:=st.sto.objs.set i (.box [.own sz (xs++[.agg (cs.map Cell.get)])]) }⟩=some r /\
   ∀(R':Type)(K':bD->St->Option R'),y5 P an ops st K'=K' .norm ⟨st.tm,{ st.sto with objs:=st.sto.objs.set i (.box [.own sz (xs++[.agg (cs.map Cell.get)])]) }⟩:=by
 unfold y5 at e;obtain⟨⟨s,el,z0⟩,h1,e⟩:=aC e;obtain⟨e',h2,e⟩:=aC e;obtain⟨s1,h3,e⟩:=aC e;obtain⟨sz,h4,e⟩:=aC e;obtain⟨z,h5,e⟩:=aC e;obtain⟨zc,h6,e⟩:=aC e;obtain⟨ag,h7,e⟩:=aC e;obtain⟨ag1,h8,e⟩:=aC e;obtain⟨hg,e9⟩:=aB e;clear e;have hg0:=hg;simp only[Ac,Cd] at hg;obtain⟨⟨⟨⟨⟨⟨⟨⟨⟨⟨⟨⟨⟨g1,g2⟩,g3⟩,g4⟩,g5⟩,g6⟩,g7⟩,g8⟩,g9⟩,g10⟩,g11⟩,g12⟩,g13⟩,g14⟩:=hg;obtain rfl:=Aa g1;obtain rfl:=Aa g2;subst g4;subst g5;obtain⟨i,cs,C5,ht5,e10⟩:=aE1 e9;obtain⟨bs,ho,e11⟩:=aCj e10;obtain⟨EK,xs,hbs,e12⟩:=aE0 e11;subst hbs;obtain⟨hh,e13⟩:=aB e12;have hh0:=hh;simp only[Ac] at hh;obtain⟨⟨⟨⟨k1,k2⟩,k3⟩,k4⟩,k5⟩:=hh;obtain rfl:=Aa k1
 have hu:P.underlying s=some (.slice e'):=by
  unfold aT at h2
  split at h2
  ·rename_i x hx;cases h2;exact hx
  ·cases h2
 refine⟨s,e',z0,sz,z,zc,i,cs,xs,⟨h1,hu,h3,h4,by simpa[Dc] using g3,h5,Aa g6,g7,h6,Aa g8,g9,h7,h8,Ah g10,by simpa[Dc] using g11,Ah g12,by simpa[Dc] using g13,λt ht hk=>?_,C5,ht5,ho,Aa k2,k3,Ah k4,Ah k5⟩,e13,λR' K'=>?_⟩
 ·have:=An.1 g14 t ht
  simp only[Cd,List.contains_eq_mem,Av] at this;exact this hk
 ·unfold y5
  simp only[h1,h2,h3,h4,h5,h6,h7,h8,Ai,C5,ht5,ee,ho,iG,ed];rw[oN (by exact hg0),oN (by exact hh0)]
theorem aF4{s el:TypeId}{z0:Value}{sz:Nat}{z zc:AVal}(hu:P.underlying s=some (.slice el))(hs:bA P el=some sz)(CR:0<sz)(hsm:sz<=16777216)(hz:zeroOf P el=some z)(LF:z.cells.length=sz)(VI:clean z=true)(hc:iD z0=some zc)(B5:zc.cells.length=sz)(BU:clean zc=true) :
  ∃zv:List Value,zv.length=sz/\(∀u∈zv,oneC u=true)/\∀w:World,(Instr.buildSlice s 1 #[(0,z0)]).run P w=.ok (.slice (some ⟨w.heap.size,0,none⟩) 1 1) (w.alloc (.cells ⟨zv⟩ el)):=by
 simp only[zeroOf,Ch] at hz;obtain⟨zv,⟨ti,D0,IQ⟩,Hy⟩:=hz;have HN:VRel (λ_ _=>hno) [] z zv:=fX Hy;have Po:VRel (λ_ _=>hno) [] zc z0:=fX hc;have hzsz:zv.cells.size=sz:=by rw[<-LF];exact(HN.cells).1.symm
 let init:List Value:=(List.range (1*sz)).map λp=>zv.cells[p%zv.cells.size]!
 have hinit:(aM [z]).length=init.length/\∀(p:Nat) c v,(aM [z])[p]?=some c->init[p]?=some v->VRel (λ_ _=>hno) [] c v:=by
  refine⟨by simp[aM,LF,init],λp c v hc hv=>?_⟩;have hp:p<1*sz:=by have:=(Ab.1 hv).1;simpa[init] using this
  simp only[init,Ao,Cv hp,Bw,Ak] at hv;have CA:z.cells[p]?=some c:=by simpa[aM] using hc
  have hm:p%sz=p:=Ey (by omega);rw[hzsz,hm] at hv;refine(HN.cells).2.2 p c v CA ?_;have AR:p<zv.cells.size:=by rw[hzsz];omega
  rw[<-hv];simp[AR]
 obtain⟨B7,f1,f2,f3,f4⟩:=oE (s:=sz) (l:=[(0,zc)]) (lv:=[(0,z0)]) (xs:=[z]) (xs':=[zc]) (Z:=λ_ _=>hno) (J:=[]) (by
  simp only[dU];rw[show Nat.beq zc.cells.length sz=true by rw[B5];exact Cs sz,BU]
  rfl) rfl (λn p q hp hq=>by
   cases n with
   |zero=>cases hp;cases hq;exact⟨rfl,Po⟩
   |succ n=>simp at hp) (λx hx=>by rw[Bz.1 hx];exact⟨LF,VI⟩) hinit
 have hlen:B7.length=sz:=by rw[<-f4.1];simp[aM,B5]
 refine⟨B7,hlen,λu hu=>?_,λw=>?_⟩
 ·obtain⟨i,hi⟩:=Ds hu
  have AR:i<(aM [zc]).length:=by rw[f4.1];exact(Ab.1 hi).1
  have hr:=f4.2 i _ u (Bf AR) hi;refine hr.one ?_
  have Vj:(aM [zc])[i]∈zc.cells:=by
   have:=El AR
   simpa[aM] using this
  exact jB (An.1 BU _ Vj)
 ·have C1:(Array.range (1*sz)).map (λp=>zv.cells[p%zv.cells.size]!)=⟨init⟩:=by
   apply Cg;simp[init]
  have h0:¬1*sz=0:=by omega
  have hle:¬1*sz>2^24:=by omega
  have PC:(P.info? el).bind (·.zero)=some zv:=by rw[D0];exact IQ
  simp only[Instr.buildSlice,Sem.run_bind,run_underlying hu,Result.andThen_ok,run_sizeOf hs];rw[<-C1] at f1;simp at f1 h0 hle;simp[h0,hle,aS PC,f1,newRow]
theorem zZ:∀(ks:List Nat)(tm:List Slot)(t:Nat),t∉ks->tlook ks tm t=.dead
 |[],tm,t,_=>by cases tm<;>rfl
 |k::ks,[],t,_=>rfl
 |k::ks,s::ss,t,h=>by
  simp only[Bb,not_or] at h
  have hk:Nat.beq k t=false:=by
   cases hb:Nat.beq k t with
   |false=>rfl
   |true=>exact absurd (Aa hb).symm h.1
  simp only[tlook,hk,Aq];exact zZ ks ss t h.2
theorem aLR{fid:FuncId}{st:St}{R:Type}{r:R}{K:bD->St->Option R}{b:Frame}{ds:List Deferred}{items:List Item}{cs:List Frame}{id:Nat}{ops:Array Oper}(S7:P.follows .mixedOrders=true)(h:At P ans fid B0 w Z J ow st tmps)
  (e:y5 P (ans fid) ops.toList st K=some r) :
  ∃BF w' Z' AP tmps',K .norm BF=some r/\At P ans fid B0 w' Z' J AP BF tmps'/\Fr w Z ow w' Z' AP/\StoLe st.sto BF.sto /\
   Steps P (lone (b.atR ⟨tmps,ds⟩ (.code (.region id ops true)::items)) cs w) (lone (b.atR ⟨tmps',ds⟩ items) cs w'):=by
 obtain⟨s,el,z0,sz,z,zc,i,OL,xs,M,hK,_⟩:=tz e;have hA:=py M.shape;obtain⟨zv,zl,z1,Vo⟩:=aF4 (P:=P) M.un M.szq M.pos M.le M.zero M.zl M.zcl M.const M.cl M.ccl;have DU:∀t,sl (ans fid) st.tm ⟨[],st.sto⟩ t=tlook (ans fid).keep st.tm t:=λ_=>rfl
 let wd:World:={ w with drawn:=w.drawn+1 }
 have hwd:wd.heap=w.heap:=rfl;have R1:=h.rel.heap hwd;have F1:Fr w Z ow wd Z ow:=Fr.heap rfl rfl rfl rfl
 let zb:Obj:=.cells ⟨zv⟩ el
 let wA:=wd.alloc zb
 have I1:oset ow wd.heap.size none=ow:=by
  funext x;unfold oset;split
  ·subst_vars
   cases e1:ow wd.heap.size with
   |none=>rfl
   |some y=>have:=R1.lt wd.heap.size (by simp[e1]);omega
  ·rfl
 have R2:=R1.alloc (o:=zb) (τ:=λ_=>none) (id:=none) (λoff c hc=>by cases hc);have F2:=Fr.alloc (ow:=ow) (o:=zb) (τ:=λ_=>none) (id:=none) R1.wsat;rw[oS R1.wsat,I1] at R2 F2
 change Rel P ans B0 wA Z J ow (ans fid) _ tmps st.sto.objs at R2
 change Fr wd Z ow wA Z ow at F2
 have HH:=R2.slots 2;rw[DU,M.t2] at HH
 obtain⟨b2,hJ2,E6⟩:∃b2,J[i]?=some b2/\tmps.getD 2 undef=.pointer (some ⟨b2,0,none⟩):=by
  generalize tmps.getD 2 undef=v at HH;cases HH with
  |val _ _ hv=>cases hv with
   |loc _ _ b2 hb=>exact⟨b2,hb,rfl⟩
 obtain⟨Wp,QB,KM⟩:=R2.objs.2 i _ M.obj;obtain rfl:b2=Wp:=by rw[hJ2] at QB;exact Ap QB
 cases KM with
 |box _ _ QF =>
 obtain⟨c1,c2,c3,O2,T2,c4,c5⟩:=QF;have QF:BoxRel wA B0 Z (J.take (i+1)) ow true i [.own sz xs] b2:=⟨c1,c2,c3,O2,T2,c4,c5⟩
 match O2,c5.1 with
 |[sv],_ =>
 have I8:b2<wd.heap.size:=R1.lt b2 (by rw[c1];simp);have hb2w:wd.heap[b2]?=some (.cells ⟨[sv]⟩ T2 (0,0)):=(heap_alloc_old zb I8).symm.trans c4;have V0:=R2.slots 5;rw[DU,M.t5] at V0
 obtain⟨b5,hp5,hB5⟩:∃b5,tmps.getD 5 undef=.pointer (some ⟨b5,0,none⟩)/\BoxRel wA B0 Z J ow false 5 OL b5:=by
  generalize tmps.getD 5 undef=v at V0;cases V0 with
  |box _ b5 hb=>exact⟨b5,rfl,hb⟩
 obtain⟨d1,d2,d3,vv,T5,d4,d5⟩:=hB5;have Pw:b5<wd.heap.size:=R1.lt b5 (by rw[d1];simp);have hb5w:wd.heap[b5]?=some (.cells ⟨vv⟩ T5 (0,0)):=(heap_alloc_old zb Pw).symm.trans d4;have vl:vv.length=sz:=by rw[<-d5.1,M.csl]
 have v1:∀u∈vv,oneC u=true:=d5.one
 have vr:∀(p:Nat) c u,(OL.map Cell.get)[p]?=some c->vv[p]?=some u->flat c=true/\VRel Z [] c u:=λp c u hc hu=>by
  have JI:flat c=true:=An.1 M.csc c (Be hc);refine⟨JI,?_⟩;rw[Ao,Al] at hc;obtain⟨cc,BU,rfl⟩:=hc
  have:=d5.2 p cc u BU hu
  cases this with
  |val c u h1 h2=>exact h2.flat JI
  |own EK xs' u h2=>exact h2.rel
 obtain⟨R3,O3⟩:=vw (j:=0) R2 M.obj hJ2 QF rfl ((cell_of_heap c4 0).trans rfl);have F3:Fr wA Z ow wA Z (eQ ow (true,i,0+1) (false,(ans fid).nt,1)):=⟨Z.le_refl,Ae _,λ_ _ _=>⟨rfl,λ_=>rfl⟩,λx hx=>.inl (lX hx),rfl,rfl,rfl⟩
 generalize Vb:eQ ow (true,i,0+1) (false,(ans fid).nt,1)=M9 at R3 O3 F3;obtain⟨sa,AJ,BH,Nt,_⟩:=O3.rest;have Mq:xs.length=AJ:=by have:=O3.rel;rw[Nt] at this;cases this with|slice _ _ _ _ _ hl _ _=>exact hl
 subst Mq;have hzero:=M.zero;simp only[zeroOf,Ch] at hzero;obtain⟨O1,⟨ti,D0,IQ⟩,Hy⟩:=hzero;have HF:(P.info? el).bind (·.zero)=some O1:=by rw[D0];exact IQ
 have HD:O1.cells.size=sz:=by have:=(fX (Z:=Z) (J:=J) Hy).cells.1;rw[<-this,M.zl]
 have P8:wA.heap[wd.heap.size]?=some zb:=heap_alloc_new zb
 have PX:=λty=>qa (ys:=[.agg (OL.map Cell.get)]) (n:=1) (yv:=vv) (zv:=zv) (xa:=some ⟨wd.heap.size,0,none⟩) (xcap:=1) (ts:=#[s,s]) (ty:=ty) (t1:=s) (t2:=s) (e:=el) (e2:=el) R3 O3
  (λy hy=>by rw[Bz.1 hy];simpa[AVal.cells] using M.csl) rfl (by omega) (by rw[vl];omega) v1 (λp c u hc hu=>vr p c u (by simpa[aM,AVal.cells] using hc) hu) (by rw[zl];omega) z1
  (λw1 DJ=>dD (by rw[zl];omega) λp v hv=>by
   rw[Bn,cell_congr (w:=wA) (by rw[DJ]) p,cell_of_heap P8];exact hv) rfl rfl M.un M.un M.szq M.pos HF HD M.by1 M.by0 M.room
 obtain⟨bb,oo,cap,cl,E',w1,w2,Z',HA,AZ,hb,hole,HG,R4,O4,F4,CK,hold,Mv⟩:=PX 0;have Js:∀ty,(Builtin.append_ #[s,s] ty #[sv,.slice (some ⟨wd.heap.size,0,none⟩) 1 1]).run P wA=.ok (.slice (some ⟨bb,oo,none⟩) (xs.length+1) cap) w1:=λty=>AZ
 have Px:b2<wA.heap.size:=(Ad.1 c4).1
 have BD:bb≠b2:=λhe=>by
  rw[he,Mv b2 Px,<-Vb] at CK;simp[eQ,c1] at CK
 have hb2w1:w1.heap[b2]?=some (.cells ⟨[sv]⟩ T2 (0,0)):=(hold b2 (Co BD) Px).trans c4;have hb2w2:w2.heap[b2]?=some (.cells ⟨[sv]⟩ T2 (0,0)):=by rw[HG];exact(World.putObj_heap_other (Co BD)).trans hb2w1
 have Vu:i<st.sto.objs.length:=(Ab.1 M.obj).1;have hobj4:(st.sto.objs.set i (.box ([Cell.own sz xs].set 0 (.val (.slice xs)))))[i]?=some (.box [.val (.slice xs)]):=by simp[Vu]
 obtain⟨Wp,hJ4,Ve⟩:=R4.objs.2 i _ hobj4;obtain rfl:b2=Wp:=by rw[hJ2] at hJ4;exact Ap hJ4
 cases Ve with
 |box _ _ KX =>
 obtain⟨f1,f2,f3,vs4,T4,f4,f5⟩:=KX;have KX:BoxRel w2 B0 Z' (J.take (i+1)) HA true i [.val (.slice xs)] b2:=⟨f1,f2,f3,vs4,T4,f4,f5⟩
 have D1:CsRel w2 B0 Z' J HA false (ans fid).nt [.own sz (xs++[.agg (OL.map Cell.get)])] [.slice (some ⟨bb,oo,none⟩) (xs.length+1) cap]:=⟨rfl,λj c v hc hv=>by
  cases j with
  |zero=>cases hc;cases hv;exact .own _ _ _ O4
  |succ j=>simp at hc⟩
 rw[hb2w2] at f4;cases f4;have R5:=et (off:=0) R4 hobj4 hJ2 KX hb2w2 f5 D1 (by simp) (by simp[setCells,Cell.lok]);have F5:Fr w2 Z' HA (w2.putObj b2 (.cells ⟨overwrite [sv] 0 [.slice (some ⟨bb,oo,none⟩) (xs.length+1) cap]⟩ T2 (0,0))) Z' (ren HA false (ans fid).nt true i 0):=Fr.put (by rw[f1];simp) (λx hx=>lC _ hx);have FD:14<=tmps.size:=by rw[h.rel.size];exact M.nt
 have NP:∀w':World,(w'=wd\/w'=wd.alloc zb)->w'.heap[b2]?=some (.cells ⟨[sv]⟩ T2 (0,0)):=λw' hw=>by rcases hw with rfl|rfl<;>assumption
 have NO:∀w':World,(w'=wd\/w'=wd.alloc zb)->w'.heap[b5]?=some (.cells ⟨vv⟩ T5 (0,0)):=λw' hw=>by rcases hw with rfl|rfl<;>assumption
 have hIn:cm P tmps wd s el z0 sv (.agg ⟨vv⟩) xs.length zb :=
  ⟨FD,λw' hw=>⟨_,E6,run_loadVar_one M.ag1 ((cell_of_heap (NP w' hw) 0).trans rfl)⟩,λw' hw=>⟨_,hp5,run_loadVar_agg M.ag (by rw[M.szq,vl]) (λj v hv=>by rw[Bn,cell_of_heap (NO w' hw)];exact hv)⟩,⟨sa,BH,Nt⟩,M.un,Vo wd⟩
 obtain⟨p,hp,q,hq,Vd⟩:=hA.orders (w.tape w.drawn (.order b.fn id));obtain⟨G8,Mo,S1⟩:=aGU (fb:=b) (ds:=ds) (k:=items) (cs:=cs) (rest:=q) hA hIn hp;obtain⟨CU,EI,Mk,S2⟩:=aDp (fb:=b) (ds:=ds) (k:=items) (cs:=cs) hA FD M.un M.s1 (by rw[M.szq,vl]) v1 Mo Js hb (by rw[vl];exact hole) E6 hb2w1 BD hq;have VO:w1.putObj bb (.cells ⟨overwrite cl (oo+xs.length*vv.length) vv⟩ E' (0,0))=w2:=by rw[HG,vl]
 rw[VO] at S2
 have Mn:Steps P (lone (b.atR ⟨tmps,ds⟩ (.code (.region id ops true)::items)) cs w) (lone (b.atR ⟨tmps,ds⟩ (.inRegion ops (p++q)::items)) cs wd):=by
  have:=Steps.one (stepR_region_draw (P:=P) (b:=b) (a:=⟨tmps,ds⟩) (k:=items) (cs:=cs) (w:=w) (ops:=ops) (id:=id))
  rw[show Region.schedule (P.follows .mixedOrders) ops (w.tape w.drawn (.order b.fn id))=p++q by rw[<-Vd];simp[Region.schedule,S7]] at this;exact this
 have dA:(st.sto.objs.set i (.box ([Cell.own sz xs].set 0 (.val (.slice xs))))).set i (.box (setCells [.val (.slice xs)] 0 [.own sz (xs++[.agg (OL.map Cell.get)])]))=st.sto.objs.set i (.box [.own sz (xs++[.agg (OL.map Cell.get)])]):=by
  rw[List.set_set];rfl
 rw[dA] at R5;refine⟨_,_,Z',_,CU,hK,⟨?_,h.nr,?_⟩,F1.trans (F2.trans (F3.trans (F4.trans F5))),⟨rfl,by simp,λj hj=>?_⟩,Mn.trans (S1.trans (S2.trans (.one stepR_region_end)))⟩
 ·refine⟨by rw[EI];exact R5.size,R5.wsat,λt=>?_,R5.refs,R5.boxes,R5.objs,R5.lt,R5.base,R5.hi⟩
  have EI:=R5.slots t;show SRel _ B0 Z' J _ CU t (tlook (ans fid).keep st.tm t) (CU.getD t undef)
  change SRel _ B0 Z' J _ tmps t (tlook (ans fid).keep st.tm t) (tmps.getD t undef) at EI
  by_cases ht:t<8\/14<=t
  ·rw[Mk t ht]
   exact EI.mono Z'.le_refl (aI _) (Same.refl _ _ _ _ _) (λu o he=>absurd he (h.nr.tlook _ _ _ _))
  ·have hk:t∉(ans fid).keep:=M.keep t (by
    have:t=8\/t=9\/t=10\/t=11\/t=12\/t=13:=by omega
    simpa using this)
   have hd:tlook (ans fid).keep st.tm t=.dead:=zZ _ _ _ hk;rw[hd];exact .dead _
 ·show st.sto.lo<=(st.sto.objs.set i _).length
  rw[Ga];exact h.lo
 ·show(st.sto.objs.set i _)[j]?=st.sto.objs[j]?
  rw[Ek (by have:=M.lo;omega)]
end
section
variable {P:Program}{ans:FuncId->AK}{w:World}{B0:Nat}{Z:HT}{J:List Nat}{ow:Own}{tmps:Array Value}
variable {ds:List Deferred}{cf:aO}{lp:aP}{fid:FuncId}{B1:Nat}{b:Frame}{cs:List Frame}{items:List Item}{st:St}
def kN(P:Program)(ans:FuncId->AK)(cf:aO):Prop :=
 P.follows .mixedOrders=true/\∀(R:Type)(fid:FuncId)(tm:List Slot)(rid:Nat)(ops:Array Oper)(kn:RS->Option R)(rs:RS)(r:R),tH ans (ans fid) rid ops=true->Ma ans (ans fid) rid ops=true->sT (ans fid) rid tm=true->noRef tm->rs.sc=[] ->
  (∀rs1 rs2:RS,(∀t,bL rs1.sc t=bL rs2.sc t)->rs1.sto=rs2.sto->kn rs1=kn rs2)->jP P ans (ans fid) true cf tm rid ops (λ_ _=>none) kn (List.range ops.size) rs=some r ->
  ∀t,jP P ans (ans fid) true cf tm rid ops (λ_ _=>none) kn (Region.linearise .any ops t) rs=some r
def iK(ans:FuncId->AK)(cf:aO):Prop:=∀f args,(ans f).prim=true->∃o:Option Slot,(∀s,o=some s->dB 0 s=true)/\∀sto,cf (.fn f) args sto=o.map λs=>(.ret s,sto)
theorem rO(sc Uk:List (Nat×Slot))(h:∀t,bL sc t=bL Uk t):∀(ks:List Nat)(tm:List Slot),commit ks tm sc=commit ks tm Uk
 |[],tm=>by cases tm<;>rfl
 |k::ks,[]=>rfl
 |k::ks,s::ss=>by simp only[commit,h k,rO sc Uk h ks ss]
theorem At.world{w1:World}(h:At P ans fid B0 w Z J ow st tmps)(e:w1.heap=w.heap):At P ans fid B0 w1 Z J ow st tmps:=⟨h.rel.heap e,h.nr,h.lo⟩
theorem XEnd.out{sto:AN}{J9:List Item}{m:Machine}{e:bD}{BF:St}(h:XEnd P ans fid B0 B1 w Z J ow sto b cs J9 m e BF)(he:e≠.norm)(hx:∀id,e=.exit id->exitTo id J9=exitTo id items):XEnd P ans fid B0 B1 w Z J ow sto b cs items m e BF:=by
 obtain⟨w',Z',J',AP,tmps',DE,h1,h2,h3,h4,h5,h6⟩:=h;refine⟨w',Z',J',AP,tmps',DE,h1,h2,h3,h4,h5,?_⟩;cases e with
 |norm=>exact absurd rfl he
 |exit id=>obtain⟨k,a1,a2⟩:=h6;exact⟨k,a1.trans (hx id rfl),a2⟩
 |ret=>exact h6
 |pan x=>exact h6
def aNl(P:Program)(ans:FuncId->AK)(fid:FuncId)(B0 B1:Nat)(w:World)(Z:HT)(J:List Nat)(ow:Own)(st:St)(b:Frame)(cs:List Frame)(m:Machine)(tmps:Array Value)(x:AVal)(BF:St):Prop :=
 ∃AL s0 w' Z' J' AP DE,BF={ st with sto:=AL }/\Rel P ans B0 w' Z' J' AP (ans fid) (sl (ans fid) st.tm ⟨[],s0⟩) tmps AL.objs/\Marks w' AP B1 b DE/\Fr w Z ow w' Z' AP/\pre J J'/\StoLe st.sto AL /\
  ∃v k,VRel Z' J' x v/\Steps P m (lone { b.atR ⟨tmps,DE⟩ k with mode:=.panicking [{ v,recovered:=false }] } cs w')
theorem qJ(BK:kZ P ans B0 cf){R:Type}{r:R}{K:bD->St->Option R}{f:Operand}{params:Array Tmp}{assign body:Code}(hb:b.fn=fid)(C6:b.roundOf=none)(h:At P ans fid B0 w Z J ow st tmps)(hm:Marks w ow B1 b ds)(hB:B1<=w.heap.size)
  (e:XK P ans cf lp fid (.rangeFunc f params assign body) st K=some r):∃ex BF,K ex BF=some r/\XEnd P ans fid B0 B1 w Z J ow st.sto b cs items (lone (b.atR ⟨tmps,ds⟩ (.code (.rangeFunc f params assign body)::items)) cs w) ex BF/\∀x,ex=.pan x->aNl P ans fid B0 B1 w Z J ow st b cs (lone (b.atR ⟨tmps,ds⟩ (.code (.rangeFunc f params assign body)::items)) cs w) tmps x BF:=by
 simp only[XK] at e
 split at e
 case h_2=>cases e
 rename_i g caps hf;obtain⟨⟨res,AL⟩,hc,e⟩:=aC e;obtain⟨tf,KJ,_⟩:=bH (ds:=ds) h.rel f;rw[hf] at KJ;generalize DW:(⟨tmps,ds⟩:Act).eval f=vf at KJ;cases KJ with
 |val _ _ hv =>
 cases hv with
 |func _ _ cv B5 I6 =>
 let M8:Loop:={ state:=.ready,pending:=none,fn:=b.fn,tmps:=tmps,params:=params,assign:=assign,body:=body,defers:=w.heap.size }
 let w1:=w.alloc (.deferred (some []))
 let w2:=w1.alloc (.loop M8)
 let n:=st.sto.objs.length
 let l:=w.heap.size+1
 let al:jR:=⟨fid,st.tm.map dV,params,assign,body,none,.ready⟩
 have hsz1:w1.heap.size=w.heap.size+1:=by simp[w1]
 have I1:oset ow w.heap.size none=ow:=by
  funext b;unfold oset;split
  ·subst_vars
   cases e1:ow w.heap.size with
   |none=>rfl
   |some y=>have:=h.rel.lt w.heap.size (by simp[e1]);omega
  ·rfl
 have QA:=h.rel.alloc (o:=.deferred (some [])) (τ:=λ_=>none) (id:=none) (λoff c hc=>by cases hc);have MP:=Fr.alloc (ow:=ow) (o:=.deferred (some [])) (τ:=λ_=>none) (id:=none) h.rel.wsat;rw[oS h.rel.wsat,I1] at QA MP
 change Rel P ans B0 w1 Z J ow (ans fid) _ tmps st.sto.objs at QA
 change Fr w Z ow w1 Z ow at MP
 have Lc:J.length=n:=h.rel.objs.1
 have D1:ORel w2 B0 Z (J++[w1.heap.size]) (oset ow w1.heap.size (some (true,n,0))) ans n (.loop al) w1.heap.size:=by
  refine .loop al _ M8 (heap_alloc_new _) (by simp[oset]) QA.base (QA.wsat.none_of_ge (Ae _)) ⟨rfl,rfl,hb,rfl,rfl,rfl,h.rel.size,λt=>?_,λs hs=>?_,λt ht=>?_⟩
  ·show SRel w2 0 Z _ _ tmps t (tlook (ans fid).keep (st.tm.map dV) t) (tmps.getD t undef)
   rw[uR _ rfl];refine(h.rel.slots t).snap Z.le_refl ?_;rw[Ci (by simp[Lc])];exact eG _ _
  ·obtain⟨s0,_,rfl⟩:=Cu.1 hs;exact aCz s0
  ·show tlook (ans fid).keep (st.tm.map dV) t=.dead
   rw[uR _ rfl]
   have:=h.rel.hi t ht
   rw[show tlook (ans fid).keep st.tm t=.dead from this];rfl
 obtain⟨Pz,QD⟩:=uC (ob:=.loop al) (o:=.loop M8) QA ow (λb hb=>hb) (λkk i _=>Same.refl _ _ _ _ _) D1
 change Rel P ans B0 w2 Z (J++[w1.heap.size]) _ (ans fid) _ tmps (st.sto.objs++[AObj.loop al]) at Pz
 change Fr w1 Z ow w2 Z _ at QD
 rw[hsz1] at Pz QD;have OE:Fr w Z ow w2 Z (oset ow l (some (true,n,0))):=MP.trans QD
 let HL:AN:={ st.sto with objs:=st.sto.objs++[.loop al] }
 let CJ:=oset ow l (some (true,n,0))
 have Lb:Rel P ans B0 w2 Z (J++[l]) CJ (ans fid) (sl (ans fid) st.tm ⟨[],HL⟩) tmps HL.objs:=Pz;have hyl:(J++[l])[n]?=some l:=by rw[Bh (by rw[Lc];exact Ae _)];simp[Lc]
 have BM:=gj (ds:=ds) Lb HL rfl (by show st.sto.lo<=(st.sto.objs++[AObj.loop al]).length;have:=h.lo;simp;omega) (l:=[.val (.yld n)]) (xs:=[.const (.func (.yield l) #[] #[])]) rfl (by simp[Slot.free])
  (λj s x hj hx=>by
   cases j with
   |zero=>simp at hj hx;subst hj;subst hx;exact .val _ _ (.yld n l hyl)
   |succ j=>simp at hj) B5 (λi c v h1 h2=>(I6 i c v h1 h2).mono Z.le_refl (eG _ _))
 let mk:List Deferred:=[{ target:=.collected w.heap.size,args:=#[] }]
 let fr:Frame:=b.atR ⟨tmps,mk++ds⟩ (.inRangeFunc l::items)
 obtain⟨F,W3,W0,WZ⟩:=(BK.fn _ _ _ _ _ hc).1;obtain⟨w',Z',J',D8,WY,DC,hwc,hoc,Vl,JD,CB⟩:=(BK.fn _ _ _ _ _ hc).2 w2 Z (J++[l]) _ _ BM fr cs;obtain⟨KW,NW⟩:=xW Lb WY DC hwc DC hoc Vl
 have BV:step P (lone (b.atR ⟨tmps,ds⟩ (.code (.rangeFunc f params assign body)::items)) cs w)=.next (lone (Frame.enter P g ⟨[.func (.yield l) #[] #[]]++cv⟩ .normal) (fr::cs) w2):=by
  obtain⟨bd,HK⟩:=Fm.1 W0;refine stepR_rangeFunc (a:=⟨tmps,ds⟩) (l:=l) (mark:=mk) (w₁:=w2) (w₁':=w2) (d:=⟨.fn (.func g) ⟨cv⟩,#[.func (.yield l) #[] #[]]⟩) ?_ ?_ ?_
  ·rw[C6,run_enterLoop_outer]
  ·simp[resolve,DW,Deferred.ofValue,rangeCall];rfl
  ·simp[invoke,callFunc,W3,WZ,HK]
 have hmarks:Marks w' (fS (ans fid).nt CJ D8) B1 b (mk++ds):=by
  obtain⟨ms,Pk,hm⟩:=hm;refine⟨mk++ms,by rw[Pk,As],?_⟩
  have h2:MarksL w2 CJ B1 (mk++ms):=by
   have h1:MarksL w2 CJ B1 ms:=hm.mono OE;refine⟨λd hd=>?_,?_⟩
   ·rcases Bs.1 hd with hd|hd
    ·simp only[mk,Bz] at hd
     subst hd;refine⟨w.heap.size,rfl,?_,?_,hB⟩
     ·exact(heap_alloc_old _ (by rw[hsz1];omega)).trans (heap_alloc_new _)
     ·show oset ow l _ w.heap.size=none
      unfold oset;rw[Ax (by show ¬w.heap.size=w.heap.size+1;omega)];cases e1:ow w.heap.size with
      |none=>rfl
      |some y=>have:=h.rel.lt w.heap.size (by simp[e1]);omega
    ·exact h1.all d hd
   ·refine Gc.2 ⟨by simp[mk],h1.nodup,λd hd d' KU he=>?_⟩
    simp only[mk,Bz] at hd;subst hd;obtain⟨D,g1,g2,_⟩:=hm.all d' KU;rw[g1] at he
    have:=(Ad.1 g2).1
    cases he;omega
  exact h2.mono NW
 cases res with
 |pan x =>
  obtain⟨v,hv,CQ⟩:=CB
  have DU:StoLe st.sto AL:=⟨JD.lo,by have:=JD.len;simp[HL] at this;show st.sto.objs.length<=AL.objs.length;omega,λi hi=>by
   rw[JD.keep i hi];show(st.sto.objs++[AObj.loop al])[i]?=_;rw[Bg (by have:=h.lo;omega)]⟩
  refine⟨.pan x,{ st with sto:=AL },e,⟨w',Z',J',_,tmps,mk++ds,⟨KW.wsat,KW.objs,KW.lt⟩,hmarks,OE.trans NW,iU (eG _ _) DC,DU,v,_,hv,(Steps.one BV).trans CQ⟩,λy hy=>?_⟩;cases hy;exact⟨AL,_,w',Z',J',_,mk++ds,rfl,KW,hmarks,OE.trans NW,iU (eG _ _) DC,DU,v,_,hv,(Steps.one BV).trans CQ⟩
 |ret s =>
  obtain⟨_,v,_,CQ⟩:=CB;simp only at e
  split at e
  case h_2=>cases e
  rename_i al' NT;obtain⟨bl,KV,KM⟩:=KW.objs.2 n _ NT
  have La:bl=l:=by
   have:=DC n l hyl
   rw[KV] at this;exact Ap this
  subst La;cases KM with
  |loop _ _ rr Lz ho0 h00 KR CY =>
  have fin:∀(jump:Option Code)(ex:bD),al'.state≠.busy->al'.pend=jump->K ex { st with sto:={ AL with objs:=AL.objs.take n } }=some r ->
    (∀(w3:World),Arr P Z' J b cs items (lone (b.atR ⟨tmps,mk++ds⟩ ((jump.map Item.code).toList++items)) cs w3) tmps (mk++ds) w3 ex)->(∀x,ex≠.pan x) ->
    ∃ex BF,K ex BF=some r/\XEnd P ans fid B0 B1 w Z J ow st.sto b cs items (lone (b.atR ⟨tmps,ds⟩ (.code (.rangeFunc f params assign body)::items)) cs w) ex BF/\∀x,ex=.pan x->aNl P ans fid B0 B1 w Z J ow st b cs (lone (b.atR ⟨tmps,ds⟩ (.code (.rangeFunc f params assign body)::items)) cs w) tmps x BF:=λjump ex Ps Pb hK C1 hnp=>by
   let w3:=w'.putObj l (.loop { rr with state:=.exhausted })
   have FJ:(Instr.endLoop l).run P w'=.ok jump w3:=by
    rw[show jump=rr.pending by rw[CY.pend,Pb]];exact run_endLoop Lz (by rw[CY.state];exact Ps)
   have Mm:=stepR_endRangeFunc (P:=P) (b:=b) (a:=⟨tmps,mk++ds⟩) (k:=items) (cs:=cs) FJ;have hJ'l:J'.length=AL.objs.length:=KW.objs.1;have Hr:n+1<=AL.objs.length:=by have:=JD.len;simp[HL] at this;exact this
   have hpJ:pre J J':=iU (eG _ _) DC;have htake:J'.take n=J:=by rw[kT hpJ (by omega),Ci (by omega)]
   have MF:=KW.objs.front n (by omega);rw[htake] at MF
   have same:∀kk i,¬(kk=true/\i=n)->Same w' Z' (fS (ans fid).nt CJ D8) w3 Z' (fS (ans fid).nt CJ D8) kk i kk i:=λkk i hk b' s AX =>
    ⟨AX,World.putObj_heap_other (λe=>by subst e;rw[ho0] at AX;simp only[Ak,Bp] at AX;exact hk ⟨AX.1.symm,AX.2.1.symm⟩),λ_ h=>h⟩
   have NF:∀x,fS (ans fid).nt CJ D8 x≠none->x<w3.heap.size:=λx hx=>by
    have:=KW.lt x hx
    simpa[w3] using this
   have hR4:Rel P ans B0 w3 Z' J (fS (ans fid).nt CJ D8) (ans fid) (sl (ans fid) st.tm ⟨[],{ AL with objs:=AL.objs.take n }⟩) tmps (AL.objs.take n):=by
    refine⟨h.rel.size,KW.wsat.put KR,λu=>?_,h.rel.refs,h.rel.boxes,?_,NF,by have:=KW.base;simpa[w3] using this,h.rel.hi⟩
    ·have hF:Fr w Z ow w' Z' (fS (ans fid).nt CJ D8):=OE.trans NW
     have DU:=h.rel.slots u;rcases Ck u (ans fid).nt with hu|hu
     ·refine DU.mono hF.le (aI _) (λb' s AX=>?_) (λ_ _ _=>rfl)
      have EP:CJ b'=some (false,u,s):=by
       have AR:=h.rel.lt b' (by simp[AX]);show oset ow l _ b'=_;unfold oset;rw[Ax (by show ¬b'=w.heap.size+1;omega)];exact AX
      have La:=h.rel.lt b' (by simp[AX]);have I8:b'<w2.heap.size:=Bx La OE.size
      have GN:sA (ans fid).nt CJ b'=none:=by
       simp only[sA,EP];rw[Ax (by omega)]
      have LQ:D8 b'=none:=by
       cases e2:D8 b' with
       |none=>rfl
       |some x=>rcases WY.own b' (by simp[e2]) with h5|h5
                ·exact absurd GN h5
                ·omega
      have hk:=WY.keep b' I8 GN;have WN:b'≠l:=by show b'≠w.heap.size+1;omega
      refine⟨by simp[fS,LQ,EP,hu],?_,λo ho=>?_⟩
      ·rw[show w3.heap[b']?=w'.heap[b']? from World.putObj_heap_other WN,hk.1]
       exact(heap_alloc_old _ (by rw[hsz1];omega)).trans (heap_alloc_old _ La)
      ·rw[hk.2 o];exact ho
     ·show SRel w3 B0 Z' J (fS (ans fid).nt CJ D8) tmps u (sl (ans fid) st.tm ⟨[],st.sto⟩ u) (tmps.getD u undef)
      rw[h.rel.hi u hu];exact .dead _
    ·exact MF.mono Z'.le_refl λi hi=>same true i (by simp at hi;simp;omega)
   have QC:Fr w' Z' (fS (ans fid).nt CJ D8) w3 Z' (fS (ans fid).nt CJ D8):=Fr.put (by simp[ho0]) (λ_ h=>h)
   have WS:AtE P ans fid B0 w3 Z' J (fS (ans fid).nt CJ D8) { st with sto:={ AL with objs:=AL.objs.take n } } tmps ex:=by
    have hA:At P ans fid B0 w3 Z' J (fS (ans fid).nt CJ D8) { st with sto:={ AL with objs:=AL.objs.take n } } tmps:=⟨hR4,h.nr,by
     show AL.lo<=(AL.objs.take n).length;have h1:=JD.lo;have h2:=h.lo;rw[Cj,show min n AL.objs.length=n by omega,h1];exact h2⟩
    cases ex with
    |pan x=>exact absurd rfl (hnp x)
    |norm=>exact hA
    |exit=>exact hA
    |ret=>exact hA
   refine⟨ex,_,hK,⟨w3,Z',J,_,tmps,mk++ds,WS,hmarks.mono QC,(OE.trans NW).trans QC,aI _,⟨JD.lo,by simp;omega,λi hi=>?_⟩,?_⟩,λx hx=>absurd hx (hnp x)⟩
   ·show(AL.objs.take n)[i]?=_
    have:=h.lo
    rw[Bm,Bo (by omega),JD.keep i hi];show(st.sto.objs++[AObj.loop al])[i]?=_;rw[Bg (by omega)]
   ·refine(C1 w3).head ((Steps.one BV).trans (CQ.trans ?_))
    rw[show fr.finish v=b.atR ⟨tmps,mk++ds⟩ (.endRangeFunc l::items) from finish_atR_inRangeFunc l v];exact .one Mm
  split at e
  ·rename_i hs hp
   exact fin none .norm (by rw[hs];simp) hp e (λw3=>Steps.refl _ _) (by simp)
  ·rename_i hs hp
   exact fin (some .ret) .ret (by rw[hs];simp) hp e (λw3=>⟨items,Steps.refl _ _⟩) (by simp)
  ·rename_i id hs hp
   exact fin (some (.exit id)) (.exit id) (by rw[hs];simp) hp e (λw3=>⟨items,rfl,Steps.refl _ _⟩) (by simp)
  ·cases e
theorem np(BK:kZ P ans B0 cf){R:Type}{r:R}{K:bD->St->Option R}{f:Operand}{params:Array Tmp}{assign body:Code}(hb:b.fn=fid)(C6:b.roundOf=none)(h:At P ans fid B0 w Z J ow st tmps)(hm:Marks w ow B1 b ds)(hB:B1<=w.heap.size)
  (e:XK P ans cf lp fid (.rangeFunc f params assign body) st K=some r):∃ex BF,K ex BF=some r/\XEnd P ans fid B0 B1 w Z J ow st.sto b cs items (lone (b.atR ⟨tmps,ds⟩ (.code (.rangeFunc f params assign body)::items)) cs w) ex BF:=by
 obtain⟨ex,BF,h1,h2,_⟩:=qJ (items:=items) (cs:=cs) BK hb C6 h hm hB e;exact⟨ex,BF,h1,h2⟩
theorem mQ(BK:kZ P ans B0 cf)(CC:fm P ans B0 lp)(EZ:kN P ans cf){R:Type}{r:R}:∀(c:Code){K:bD->St->Option R}{st:St}{w:World}{Z:HT}{J:List Nat}{ow:Own}{tmps:Array Value}{ds:List Deferred}{items:List Item},b.fn=fid->(b.roundOf=none\/cD c=true)->At P ans fid B0 w Z J ow st tmps->Marks w ow B1 b ds->B1<=w.heap.size ->
  XK P ans cf lp fid c st K=some r->∃e BF,K e BF=some r/\XEnd P ans fid B0 B1 w Z J ow st.sto b cs items (lone (b.atR ⟨tmps,ds⟩ (.code c::items)) cs w) e BF
 |.skip,K,st,w,Z,J,ow,tmps,ds,items,hb,hr,h,hm,hB,e=>⟨.norm,st,e,w,Z,J,ow,tmps,ds,h,hm,Fr.refl _ _ _,aI _,StoLe.refl _,.one stepR_skip⟩
 |.label l,K,st,w,Z,J,ow,tmps,ds,items,hb,hr,h,hm,hB,e=>⟨.norm,st,e,w,Z,J,ow,tmps,ds,h,hm,Fr.refl _ _ _,aI _,StoLe.refl _,.one stepR_label⟩
 |.exit id,K,st,w,Z,J,ow,tmps,ds,items,hb,hr,h,hm,hB,e=>⟨.exit id,st,e,w,Z,J,ow,tmps,ds,h,hm,Fr.refl _ _ _,aI _,StoLe.refl _,items,rfl,Steps.refl _ _⟩
 |.ret,K,st,w,Z,J,ow,tmps,ds,items,hb,hr,h,hm,hB,e=>⟨.ret,st,e,w,Z,J,ow,tmps,ds,h,hm,Fr.refl _ _ _,aI _,StoLe.refl _,items,Steps.refl _ _⟩
 |.seq x y,K,st,w,Z,J,ow,tmps,ds,items,hb,hr,h,hm,hB,e=>by
  simp only[XK] at e;have hrx:b.roundOf=none\/cD x=true:=hr.imp id λh=>by simp only[cD,Ac] at h;exact h.1
  have hry:b.roundOf=none\/cD y=true:=hr.imp id λh=>by simp only[cD,Ac] at h;exact h.2
  obtain⟨e1,Ih,h1,hx⟩:=mQ BK CC EZ x (items:=.code y::items) hb hrx h hm hB e;have hx:=hx.head (.one stepR_seq);cases e1 with
  |norm =>
   obtain⟨w1,Z1,J1,BX,BO,G6,a1,a2,a3,a4,a5,a6⟩:=hx;obtain⟨e2,Ig,h2,hy⟩:=mQ BK CC EZ y (items:=items) hb hry a1 a2 (Bj hB a3.size) h1;exact⟨e2,Ig,h2,(hy.pre a3 a4 a5).head a6⟩
  |exit id=>exact⟨_,_,h1,hx.out (by simp) (λC8 _=>rfl)⟩
  |ret=>exact⟨_,_,h1,hx.out (by simp) (λC8 _=>rfl)⟩
  |pan v=>exact⟨_,_,h1,hx.out (by simp) (λC8 _=>rfl)⟩
 |.cond c x y,K,st,w,Z,J,ow,tmps,ds,items,hb,hr,h,hm,hB,e=>by
  simp only[XK] at e;obtain⟨tc,JD,_⟩:=bH (ds:=ds) h.rel c;obtain⟨t,e,hv,_⟩:=cz JD e;have hrx:b.roundOf=none\/cD x=true:=hr.imp id λh=>by simp only[cD,Ac] at h;exact h.1
  have hry:b.roundOf=none\/cD y=true:=hr.imp id λh=>by simp only[cD,Ac] at h;exact h.2
  have hs:=stepR_cond (P:=P) (b:=b) (a:=⟨tmps,ds⟩) (k:=items) (cs:=cs) (w:=w) (x:=x) (y:=y) hv;cases t with
  |true =>
   obtain⟨e2,Ig,h2,hy⟩:=mQ BK CC EZ x (items:=items) hb hrx h hm hB e;exact⟨e2,Ig,h2,hy.head (.one hs)⟩
  |false =>
   obtain⟨e2,Ig,h2,hy⟩:=mQ BK CC EZ y (items:=items) hb hry h hm hB e;exact⟨e2,Ig,h2,hy.head (.one hs)⟩
 |.block id c,K,st,w,Z,J,ow,tmps,ds,items,hb,hr,h,hm,hB,e=>by
  simp only[XK] at e;have hrc:b.roundOf=none\/cD c=true:=hr.imp (λh=>h) λh=>by simpa only[cD] using h
  obtain⟨e1,Ih,h1,hx⟩:=mQ BK CC EZ c (items:=.inBlock id::items) hb hrc h hm hB e;have hx:=hx.head (.one stepR_block);cases e1 with
  |norm =>
   obtain⟨w1,Z1,J1,BX,BO,G6,a1,a2,a3,a4,a5,a6⟩:=hx;exact⟨.norm,Ih,h1,w1,Z1,J1,BX,BO,G6,a1,a2,a3,a4,a5,Steps.trans a6 (.one stepR_inBlock)⟩
  |exit C8 =>
   simp only at h1;cases hid:Nat.beq C8 id with
   |true =>
    rw[hid] at h1;have Vw:=Aa hid;subst Vw;obtain⟨w1,Z1,J1,BX,BO,G6,a1,a2,a3,a4,a5,k,a6,a7⟩:=hx;refine⟨.norm,Ih,h1,w1,Z1,J1,BX,BO,G6,a1,a2,a3,a4,a5,Steps.trans a7 (.one (stepR_exit ?_))⟩;rw[a6];simp[exitTo]
   |false =>
    rw[hid] at h1;refine⟨_,_,h1,hx.out (by simp) (λid2 he=>?_)⟩;cases he
    have:¬id=C8:=λh=>by subst h;rw[show Nat.beq id id=true from Cs id] at hid;cases hid
    simp[exitTo,this]
  |ret=>exact⟨_,_,h1,hx.out (by simp) (λC8 he=>by cases he)⟩
  |pan v=>exact⟨_,_,h1,hx.out (by simp) (λC8 he=>by cases he)⟩
 |.scope c,K,st,w,Z,J,ow,tmps,ds,items,hb,hr,h,hm,hB,e=>by
  simp only[XK] at e;have hrc:b.roundOf=none\/cD c=true:=hr.imp (λh=>h) λh=>by simpa only[cD] using h
  obtain⟨e1,Ih,h1,hx⟩:=mQ BK CC EZ c (items:=.inScope c::items) hb hrc h hm hB e;have hx:=hx.head (.one oF);cases e1 with
  |norm =>
   obtain⟨w1,Z1,J1,BX,BO,G6,a1,a2,a3,a4,a5,a6⟩:=hx;exact⟨.norm,Ih,h1,w1,Z1,J1,BX,BO,G6,a1,a2,a3,a4,a5,Steps.trans a6 (.one lE)⟩
  |exit C8=>exact⟨_,_,h1,hx.out (by simp) (λC8 _=>rfl)⟩
  |ret=>exact⟨_,_,h1,hx.out (by simp) (λC8 he=>by cases he)⟩
  |pan v=>exact⟨_,_,h1,hx.out (by simp) (λC8 he=>by cases he)⟩
 |.loop c,K,st,w,Z,J,ow,tmps,ds,items,hb,hr,h,hm,hB,e=>by
  simp only[XK] at e;obtain⟨⟨e1,Ih⟩,hl,e⟩:=aC e;have hrc:b.roundOf=none\/cD c=true:=hr.imp (λh=>h) λh=>by simpa only[cD] using h
  obtain⟨hA,hs⟩:=h.head c
  have:=CC _ _ _ _ _ hl B1 w Z J ow tmps ds b cs items hb hrc hA hm hB
  rw[hs] at this;exact⟨e1,Ih,e,this.head (.one stepR_loop)⟩
 |.region id ops false,K,st,w,Z,J,ow,tmps,ds,items,hb,hr,h,hm,hB,e=>by
  simp only[XK] at e;rw[mF] at e;rcases o8 (ds:=ds) (b:=b) (items:=items) (cs:=cs) BK h.nr (rs:=⟨[],st.sto⟩) h.rel h.lo e with⟨rs',w',Z',J',AP,tmps',a1,a2,a3,a4,a5,a6⟩|⟨x,rs',v,w',Z',J',AP,tmps',ED,a1,a2,a3,a4,a5,a6,a7⟩
  ·exact⟨.norm,_,a1,w',Z',J',AP,tmps',ds,At.commit h.nr a2 (by rw[a5.lo];exact Bj h.lo a5.len) rfl,hm.mono a3,a3,a4,a5,(Steps.one stepR_region).trans (a6.trans (.one stepR_region_end))⟩
  ·exact⟨.pan x,_,a1,w',Z',J',AP,tmps',ds,⟨a2.wsat,a2.objs,a2.lt⟩,hm.mono a4,a4,a5,a6,v,ED,a3,(Steps.one stepR_region).trans a7⟩
 |.region id ops true,K,st,w,Z,J,ow,tmps,ds,items,hb,hr,h,hm,hB,e=>by
  simp only[XK] at e;cases Jm:yR (ans fid) id with
  |true =>
   rw[Jm] at e;obtain⟨BF,w',Z',AP,tmps',a1,a2,a3,a4,a6⟩:=aLR (ds:=ds) (b:=b) (items:=items) (cs:=cs) (id:=id) EZ.1 h e;exact⟨.norm,BF,a1,w',Z',J,AP,tmps',ds,a2,hm.mono a3,a3,aI _,a4,a6⟩
  |false =>
  rw[Jm] at e;simp only[Aq] at e;obtain⟨hg,e⟩:=aB e;simp only[Ac] at hg;obtain⟨ER,e⟩:=aB e;rw[mF] at e;have e:=EZ.2 R fid st.tm id ops _ ⟨[],st.sto⟩ r hg.1 hg.2 ER h.nr rfl (λrs1 rs2 h1 h2=>by rw[rO _ _ h1,h2]) e (w.tape w.drawn (.order b.fn id));rw[show Region.linearise .any ops (w.tape w.drawn (.order b.fn id))=Region.schedule (P.follows .mixedOrders) ops (w.tape w.drawn (.order b.fn id)) by simp[Region.schedule,EZ.1]] at e
  let w1:World:={ w with drawn:=w.drawn+1 }
  have DJ:w1.heap=w.heap:=rfl;have MP:Fr w Z ow w1 Z ow:=Fr.heap rfl rfl rfl rfl;have h1:=h.world DJ;rcases o8 (ds:=ds) (b:=b) (items:=items) (cs:=cs) BK h.nr (rs:=⟨[],st.sto⟩) h1.rel h1.lo e with⟨rs',w',Z',J',AP,tmps',a1,a2,a3,a4,a5,a6⟩|⟨x,rs',v,w',Z',J',AP,tmps',ED,a1,a2,a3,a4,a5,a6,a7⟩
  ·exact⟨.norm,_,a1,w',Z',J',AP,tmps',ds,At.commit h.nr a2 (by rw[a5.lo];exact Bj h.lo a5.len) rfl,hm.mono (MP.trans a3),MP.trans a3,a4,a5,(Steps.one stepR_region_draw).trans (a6.trans (.one stepR_region_end))⟩
  ·cases a1
 |.rangeFunc f params assign body,K,st,w,Z,J,ow,tmps,ds,items,hb,hr,h,hm,hB,e=>by
  refine np BK hb (hr.resolve_right (by simp[cD])) h hm hB e
 |.goto _,K,st,w,Z,J,ow,tmps,ds,items,hb,hr,h,hm,hB,e=>by simp[XK] at e
 |.refuse _,K,st,w,Z,J,ow,tmps,ds,items,hb,hr,h,hm,hB,e=>by simp[XK] at e
theorem tw(BK:kZ P ans B0 cf)(CC:fm P ans B0 lp)(EZ:kN P ans cf):fm P ans B0 (jC P ans cf lp):=by
 intro fid c st e BF hl B1 w Z J ow tmps ds b cs items hb hr h hm hB;obtain⟨e1,Ih,h1,hx⟩:=mQ BK CC EZ c (b:=b) (cs:=cs) (items:=.inLoop c::items) hb hr h hm hB hl;cases e1 with
 |norm =>
  obtain⟨w1,Z1,J1,BX,BO,G6,a1,a2,a3,a4,a5,a6⟩:=hx;obtain⟨hA,hs⟩:=At.head a1 c
  have:=CC _ _ _ _ _ h1 B1 w1 Z1 J1 BX BO G6 b cs items hb hr hA a2 (Bj hB a3.size)
  rw[hs] at this;exact(this.pre a3 a4 a5).head (Steps.trans a6 (.one stepR_inLoop))
 |exit id=>simp only[Ak,Bp] at h1;obtain⟨rfl,rfl⟩:=h1;exact hx.out (by simp) (λC8 _=>rfl)
 |ret=>simp only[Ak,Bp] at h1;obtain⟨rfl,rfl⟩:=h1;exact hx.out (by simp) (λC8 _=>rfl)
 |pan v=>simp only[Ak,Bp] at h1;obtain⟨rfl,rfl⟩:=h1;exact hx.out (by simp) (λC8 _=>rfl)
theorem y7{base:List Deferred}:∀{ds:List Deferred}{w:World}{fr:Frame},MarksL w ow B1 ds->fr.mode≠.run->fr.defers=ds++base ->
  ∃w',Steps P (lone fr cs w) (lone { fr with defers:=base } cs w')/\w'.heap.size=w.heap.size/\(∀x,(x<B1\/ow x≠none\/∃o v,w.cell? ⟨x,o,none⟩=some v)->w'.heap[x]?=w.heap[x]?)/\w'.os=w.os/\w'.tape=w.tape/\w'.output=w.output
 |[],w,fr,h,hm,hd=>⟨w,by rw[show({ fr with defers:=base }:Frame)=fr by rw[show base=fr.defers from hd.symm]];exact Steps.refl _ _,rfl,λ_ _=>rfl,rfl,rfl,rfl⟩
 |d::ds,w,fr,h,hm,hd=>by
  obtain⟨D,h1,h2,h3,h4⟩:=h.all d (by simp);have AR:D<w.heap.size:=(Ad.1 h2).1;have BV:=step_collected (P:=P) (cs:=cs) hm hd h1 (run_takeDeferred h2)
  let w1:=w.putObj D (.deferred none)
  have hM:MarksL w1 ow B1 ds:=by
   have hn:=Fj.1 h.nodup;refine⟨λd' KU=>?_,hn.2⟩;obtain⟨D',g1,g2,g3,g4⟩:=h.all d' (by simp[KU]);refine⟨D',g1,?_,g3,g4⟩;rw[World.putObj_heap_other];exact g2;intro he;subst he;exact hn.1 d' KU (by rw[h1,g1])
  obtain⟨w',a1,a2,a3,a4,a5,a6⟩:=y7 (base:=base) (fr:={ fr with defers:=ds++base }) hM hm rfl;refine⟨w',(Steps.one BV).trans a1,by rw[a2];simp[w1],λx hx=>?_,a4,a5,a6⟩
  have hxD:x≠D:=by
   rintro rfl
   rcases hx with hx|hx|⟨o,v,hx⟩
   ·omega
   ·exact hx h3
   ·simp[World.cell?,h2] at hx
  have DJ:w1.heap[x]?=w.heap[x]?:=World.putObj_heap_other hxD;rw[a3 x,DJ];rcases hx with hx|hx|⟨o,v,hx⟩
  ·exact .inl hx
  ·exact .inr (.inl hx)
  ·exact .inr (.inr ⟨o,v,by rw[cell_congr DJ];exact hx⟩)
theorem iS{b:Frame}{ds:List Deferred}{w:World}{fr:Frame}(h:Marks w ow B1 b ds)(hm:fr.mode≠.run)(hd:fr.defers=ds) :
  ∃w',Steps P (lone fr cs w) (lone { fr with defers:=b.defers } cs w')/\w'.heap.size=w.heap.size/\(∀x,(x<B1\/ow x≠none\/∃o v,w.cell? ⟨x,o,none⟩=some v)->w'.heap[x]?=w.heap[x]?)/\w'.os=w.os/\w'.tape=w.tape/\w'.output=w.output:=by
 obtain⟨ms,h1,h2⟩:=h;exact y7 h2 hm (hd.trans h1)
theorem Rest.kept{sto:AN}{w':World}(h:Rest ans B0 w Z J ow sto)(hs:w'.heap.size=w.heap.size)(hk:∀x,(x<B1\/ow x≠none\/∃o v,w.cell? ⟨x,o,none⟩=some v)->w'.heap[x]?=w.heap[x]?):Rest ans B0 w' Z J ow sto :=
 ⟨⟨by rw[hs];exact h.wsat.size8,h.wsat.glob,by
   obtain⟨cs,t,fr,h1,h2⟩:=h.wsat.len5;obtain⟨_,v,h3,_⟩:=h.wsat.sat _ _ _ (h.wsat.glob.pow 0 (by omega));exact⟨cs,t,fr,(hk 5 (.inr (.inr ⟨0,v,h3⟩))).trans h1,h2⟩,λb o c e=>by
   obtain⟨h1,v,h2,h3⟩:=h.wsat.sat b o c e;exact⟨h1,v,(cell_congr (hk b (.inr (.inr ⟨o,v,h2⟩))) o).trans h2,h3⟩⟩,h.objs.mono Z.le_refl λi _ b s hb=>⟨hb,hk b (.inr (.inl (by simp[hb]))),λ_ h=>h⟩,λb hb=>by rw[hs];exact h.lt b hb⟩
theorem At.kept{w':World}(h:At P ans fid B0 w Z J ow st tmps)(hs:w'.heap.size=w.heap.size)(hk:∀x,(x<B1\/ow x≠none\/∃o v,w.cell? ⟨x,o,none⟩=some v)->w'.heap[x]?=w.heap[x]?):At P ans fid B0 w' Z J ow st tmps:=by
 have hr:=h.rest.kept hs hk;exact⟨⟨h.rel.size,hr.wsat,λt=>(h.rel.slots t).mono Z.le_refl (aI _) (λb s hb=>⟨hb,hk b (.inr (.inl (by simp[hb]))),λ_ h=>h⟩) (λ_ _ _=>rfl),h.rel.refs,h.rel.boxes,hr.objs,hr.lt,by rw[hs];exact h.rel.base,h.rel.hi⟩,h.nr,h.lo⟩
theorem Fr.kept{w0:World}{Z0:HT}{SL:Own}{w':World}(h:Fr w0 Z0 SL w Z ow)(hB:w0.heap.size<=B1)(hs:w'.heap.size=w.heap.size)(hk:∀x,(x<B1\/ow x≠none\/∃o v,w.cell? ⟨x,o,none⟩=some v)->w'.heap[x]?=w.heap[x]?)
  (h1:w'.os=w.os) (h2:w'.tape=w.tape) (h3:w'.output=w.output):Fr w0 Z0 SL w' Z ow :=
 ⟨h.le,by rw[hs];exact h.size,λb hb ho=>⟨(hk b (.inl (by omega))).trans (h.keep b hb ho).1,(h.keep b hb ho).2⟩,h.own,h1.trans h.os,h2.trans h.tape,h3.trans h.output⟩
def lZ(tmps:Array Value):ResultVar->Sem Value
 |.tmp t=>pure (tmps.getD t undef)
 |.cell a t=>do loadVar t (<-asAddr (tmps.getD a undef))
theorem kX{an:AK}{tm:List Slot}{sto:AN}(h:Rel P ans B0 w Z J ow an (sl an tm ⟨[],sto⟩) tmps sto.objs){R:Type}{r:R}:∀{rl:List ResultVar}{k:List AVal->Option R},iV P an tm rl sto k=some r ->
  ∃xs us,k xs=some r/\(rl.mapM (lZ tmps)).run P w=.ok us w/\xs.length=us.length/\∀(i:Nat) x u,xs[i]?=some x->us[i]?=some u->VRel Z J x u
 |[],k,e=>⟨[],[],e,by simp,rfl,λi x u hx=>by simp at hx⟩
 |.tmp t::rl,k,e=>by
  simp only[iV] at e;obtain⟨x,e,hx⟩:=jK (h.slots t) e;obtain⟨xs,us,h1,h2,h3,h4⟩:=kX h e;refine⟨x::xs,tmps.getD t undef::us,h1,by simp[Fk,lZ,h2],by simp[h3],λi y u hy hu=>?_⟩;cases i with
  |zero=>simp only[Ft,Ak] at hy hu;subst hy;subst hu;exact hx
  |succ i=>simp only[Ep] at hy hu;exact h4 i y u hy hu
 |.cell a t::rl,k,e=>by
  simp only[iV] at e;obtain⟨p,e,hp⟩:=j5 (ds:=[]) h (x:=.tmp a) (rs:=⟨[],sto⟩) e;obtain⟨cs,off,b,o,e,hv,hrd,_,_⟩:=jM h hp e;obtain⟨s,hs,e⟩:=aC e;obtain⟨agg,DO,e⟩:=aC e;obtain⟨hg,e⟩:=aB e;obtain⟨x,hx,e⟩:=aC e;obtain⟨xs,us,h1,h2,h3,h4⟩:=kX h e
  have P9:∃v,(loadVar t ⟨b,o,none⟩).run P w=.ok v w/\VRel Z J x v:=by
   cases agg with
   |true=>exact sw (P:=P) hrd DO hs hx
   |false =>
    simp only[partOf,Bc,Dd,Ao,Al] at hx;obtain⟨c,hc,rfl⟩:=hx;exact td (P:=P) hrd DO hc
  obtain⟨v,hl,PF⟩:=P9;have FW:tmps.getD a undef=.pointer (some ⟨b,o,none⟩):=hv;refine⟨x::xs,v::us,h1,?_,by simp[h3],λi y u hy hu=>?_⟩
  ·simp only[Fk,lZ,FW,Sem.run_bind]
   simp[asAddr,hl,h2]
  ·cases i with
   |zero=>simp only[Ft,Ak] at hy hu;subst hy;subst hu;exact PF
   |succ i=>simp only[Ep] at hy hu;exact h4 i y u hy hu
def sK:List Value->Value
 |[u]=>u
 |us=>.tuple ⟨us⟩
theorem jG{fn:Func}{us:List Value}(h:(fn.results.toList.mapM (lZ tmps)).run P w=.ok us w):(results fn tmps).run P w=.ok (sK us) w:=by
 have h0:fn.results=fn.results.toList.toArray:=by simp
 have hf:∀rl:List ResultVar,(rl.toArray.mapM (lZ tmps))=Functor.map List.toArray (rl.mapM (lZ tmps)):=λrl=>List.mapM_toArray
 have hr:results fn tmps=(do let vs <-fn.results.mapM (lZ tmps);pure (if h:vs.size=1 then vs[0] else .tuple vs)):=by
  unfold results;congr 1
 rw[hr,h0,hf];simp only[Sem.run_bind,map_eq_pure_bind,bind_assoc,h,Result.andThen_ok,pure_bind,Sem.run_pure]
 match us with
 |[]=>rfl
 |[u]=>rfl
 |u::u'::us=>simp[sK]
theorem wZ{n:Nat}{s:Slot}{v:Value}{sto:AN}(hs:SRel w B0 Z J ow #[] 0 s v)(hf:s.free=true)(ho:OsRel w B0 Z J ow ans sto.objs)(hn:n<=sto.objs.length) :
  ∃J',SRel w B0 Z J' ow #[] 0 s v/\OsRel w B0 Z J' ow ans (trim n s sto).objs/\(trim n s sto).lo=sto.lo/\n<=(trim n s sto).objs.length/\(∀i,i<n->(trim n s sto).objs[i]?=sto.objs[i]?)/\J'.take n=J.take n:=by
 unfold trim;cases hl:dB n s with
 |true=>exact⟨J.take n,hs.lokS hf hl,ho.front n hn,rfl,by show n<=(sto.objs.take n).length;rw[Cj];omega,λi hi=>by show(sto.objs.take n)[i]?=_;rw[Bm,Bo hi],by rw[Hb,Hm]⟩
 |false=>exact⟨J,hs,ho,rfl,hn,λ_ _=>rfl,rfl⟩
theorem dm(h:At P ans fid B0 w Z J ow st tmps){fn:Func}{n:Nat}{res:ARes}{AL:AN}(hn:n<=st.sto.objs.length)(e:finish P (ans fid) fn n st=some (res,AL)) :
  ∃s v J' AP,res=.ret s/\s.free=true/\(results fn tmps).run P w=.ok v w/\SRel w B0 Z J' AP #[] 0 s v/\OsRel w B0 Z J' AP ans AL.objs/\Fr w Z ow w Z AP/\(∀b,AP b≠none->ow b≠none)/\AL.lo=st.sto.lo/\n<=AL.objs.length/\(∀i,i<n->AL.objs[i]?=st.sto.objs[i]?)/\J'.take n=J.take n:=by
 have gen:∀{x:AVal}{v:Value},VRel Z J x v->(results fn tmps).run P w=.ok v w->res=.ret (.val x)->AL=trim n (.val x) st.sto->∃s v J' AP,res=.ret s/\s.free=true/\(results fn tmps).run P w=.ok v w/\SRel w B0 Z J' AP #[] 0 s v/\OsRel w B0 Z J' AP ans AL.objs/\Fr w Z ow w Z AP/\(∀b,AP b≠none->ow b≠none)/\AL.lo=st.sto.lo/\n<=AL.objs.length/\(∀i,i<n->AL.objs[i]?=st.sto.objs[i]?)/\J'.take n=J.take n:=λhx hr he hs=>by
  subst hs;obtain⟨J',a1,a2,a3,a4,a5,a6⟩:=wZ (s:=.val _) (.val _ _ hx) rfl h.rel.objs hn;exact⟨_,_,J',ow,he,rfl,hr,a1,a2,Fr.refl _ _ _,λ_ h=>h,a3,a4,a5,a6⟩
 have many:∀rl,fn.results.toList=rl->(iV P (ans fid) st.tm rl st.sto λvs=>match vs with|[v]=>some (ARes.ret (.val v),trim n (.val v) st.sto)|vs=>some (.ret (.tup vs),trim n (.tup vs) st.sto))=some (res,AL)->∃s v J' AP,res=.ret s/\s.free=true/\(results fn tmps).run P w=.ok v w/\SRel w B0 Z J' AP #[] 0 s v/\OsRel w B0 Z J' AP ans AL.objs/\Fr w Z ow w Z AP/\(∀b,AP b≠none->ow b≠none)/\AL.lo=st.sto.lo/\n<=AL.objs.length/\(∀i,i<n->AL.objs[i]?=st.sto.objs[i]?)/\J'.take n=J.take n:=λrl hrl e=>by
  obtain⟨xs,us,h1,h2,h3,h4⟩:=kX h.rel e;rw[<-hrl] at h2;have AZ:=jG h2
  have tup:∀xs us,sK us=.tuple ⟨us⟩->xs.length=us.length->(∀(i:Nat) x u,xs[i]?=some x->us[i]?=some u->VRel Z J x u)->(results fn tmps).run P w=.ok (sK us) w->some (ARes.ret (.tup xs),trim n (.tup xs) st.sto)=some (res,AL) ->
    ∃s v J' AP,res=.ret s/\s.free=true/\(results fn tmps).run P w=.ok v w/\SRel w B0 Z J' AP #[] 0 s v/\OsRel w B0 Z J' AP ans AL.objs/\Fr w Z ow w Z AP/\(∀b,AP b≠none->ow b≠none)/\AL.lo=st.sto.lo/\n<=AL.objs.length/\(∀i,i<n->AL.objs[i]?=st.sto.objs[i]?)/\J'.take n=J.take n:=λxs us he h3 h4 AZ h1=>by
   simp only[Ak,Bp] at h1;obtain⟨rfl,rfl⟩:=h1;rw[he] at AZ;obtain⟨J',a1,a2,a3,a4,a5,a6⟩:=wZ (s:=.tup xs) (v:=.tuple ⟨us⟩) (.tup xs us h3 h4) rfl h.rel.objs hn;exact⟨_,_,J',ow,rfl,rfl,AZ,a1,a2,Fr.refl _ _ _,λ_ h=>h,a3,a4,a5,a6⟩
  match xs,us,h1,h3,h4,AZ with
  |[],[],h1,h3,h4,AZ=>exact tup [] [] rfl rfl h4 AZ h1
  |[x],[u],h1,h3,h4,AZ =>
   simp only[Ak,Bp] at h1;exact gen (h4 0 x u rfl rfl) AZ h1.1.symm h1.2.symm
  |x::x'::xs,u::u'::us,h1,h3,h4,AZ=>exact tup (x::x'::xs) (u::u'::us) rfl h3 h4 AZ h1
 unfold finish at e
 split at e
 ·rename_i t KM CB
  have h1:(results fn tmps).run P w=.ok (tmps.getD t undef) w:=jG (us:=[tmps.getD t undef]) (by rw[CB];simp[lZ]);have DU:=h.rel.slots t
  split at e
  ·rename_i sz xs BJ
   have BN:sl (ans fid) st.tm ⟨[],st.sto⟩ t=.own sz xs:=BJ;rw[BN] at DU;simp only[Ak,Bp] at e;obtain⟨rfl,rfl⟩:=e;have JC:t<(ans fid).nt:=h.rel.lt_of (by rw[BN];simp)
   have HH:SRel w B0 Z J (ren ow false t false 0 0) #[] 0 (.own sz xs) (tmps.getD t undef):=by
    refine DU.mono Z.le_refl (aI _) (zQ _ _ _) (λ_ _ he=>by cases he)
   obtain⟨J',a1,a2,a3,a4,a5,a6⟩:=wZ (ow:=ren ow false t false 0 0) HH rfl (h.rel.objs.mono Z.le_refl λi _=>fP _ _ _ (by simp)) hn;exact⟨_,_,J',_,rfl,rfl,h1,a1,a2,Fr.ren _ _ _,λ_ h=>lC _ h,a3,a4,a5,a6⟩
  ·rename_i BJ
   have BN:sl (ans fid) st.tm ⟨[],st.sto⟩ t=.nl:=BJ;rw[BN] at DU;simp only[Ak,Bp] at e;obtain⟨rfl,rfl⟩:=e
   have HH:SRel w B0 Z J ow #[] 0 .nl (tmps.getD t undef):=by
    generalize tmps.getD t undef=v at DU;cases DU with|nl=>exact .nl
   obtain⟨J',a1,a2,a3,a4,a5,a6⟩:=wZ HH rfl h.rel.objs hn;exact⟨_,_,J',ow,rfl,rfl,h1,a1,a2,Fr.refl _ _ _,λ_ h=>h,a3,a4,a5,a6⟩
  ·obtain⟨x,e,hx⟩:=jK DU e
   simp only[Ak,Bp] at e;exact gen hx h1 e.1.symm e.2.symm
 ·exact many _ rfl e
end
end Go.AM
