import Derived.Test.YtoiocfngjchdiaaGreatDoorA07
import Derived.Orders
set_option linter.all false
namespace Go.AM
section
variable {P:Program}{ans:FuncId->AF}{an:AF}{R:Type}{r:R}
variable {tm:List Slot}{rs:RS}{ops:Array Oper}{cf:aI}{o a:Oper}{rid i j:Nat}
structure Fit (ans:FuncId->AF) (an:AF) (rid:Nat) (ops:Array Oper):Prop where
 ok:∀(i:Nat)(o:Oper),ops[i]?=some o->ja an ops o
 uc:∀(i:Nat)(o:Oper),ops[i]?=some o->∀e∈o.after.toList,Region.binds .any e=true->e.on<i
 free:∀(i j:Nat)(a b:Oper),i<j->ops[i]?=some a->ops[j]?=some b->((Region.before ops).getD j 0).testBit i=true \/
  ((cJ ans an.loc ops (an.pure.contains (rid,i)) (an.take.contains (rid,i)) a).qa (cJ ans an.loc ops (an.pure.contains (rid,j)) (an.take.contains (rid,j)) b)=false /\
    yU an.keep an.loc ops (an.take.contains (rid,i)) (an.take.contains (rid,j)) a b/\yU an.keep an.loc ops (an.take.contains (rid,j)) (an.take.contains (rid,i)) b a)
theorem aMU(h1:pB ans an rid ops=true)(h2:MW ans an rid ops=true):Fit ans an rid ops:=by
 have hx:∀(i:Nat)(o:Oper),ops[i]?=some o->(o.after.all (λe=>!Region.binds .any e||Nat.blt e.on i)=true /\
   (match o.dst with|some d=>!an.loc.contains d||ops.all (λo=>match eL o with|some t=>!Nat.beq t d|none=>true)|none=>true)=true):=λi o ho=>by
  have AL:i<ops.size:=(An.1 ho).1
  have:=Au.1 h2 i (Cq.2 AL)
  rw[ho] at this;simp only[Ac] at this;exact⟨this.1.2,this.2⟩
 refine⟨λi o ho=>⟨?_,λd hd hl o' FM he=>?_⟩,λi o ho e he hb=>?_,λi j a b HS ha hb=>?_⟩
 ·exact Be (by rw[Cp];exact ho)
 ·have:=(hx i o ho).2
  rw[hd] at this;simp only[hl,Ey,Bool.false_or] at this;rw[<-Eb] at this
  have:=Au.1 this o' FM
  rw[he] at this;simp only[Cz] at this;rw[show Nat.beq d d=true from Ci d] at this;cases this
 ·have:=(hx i o ho).1
  rw[<-Eb] at this
  have:=Au.1 this e he
  simpa[hb,Cy] using this
 ·have hj:j<ops.size:=(An.1 hb).1
  have:=Au.1 (Au.1 h1 j (Cq.2 hj)) i (Cq.2 HS)
  rw[ha,hb] at this;simp only[Ck,Cz,Fc] at this;rcases this with h|⟨⟨h,h'⟩,MK⟩
  ·exact .inl h
  ·exact .inr ⟨h,a3s h',a3s MK⟩
theorem a2Y(DJ:e7 ans cf)(hn:ij tm)(hF:Fit ans an rid ops){kn:RS->Option R}(hk:∀rs1 rs2:RS,jg rs1 rs2->kn rs1=kn rs2):∀{l:List Nat}{rs1 rs2:RS},jg rs1 rs2->jo ops rs1 ->
  gF P ans an true cf tm rid ops (λ_ _=>none) kn l rs1=some r->gF P ans an true cf tm rid ops (λ_ _=>none) kn l rs2=some r
 |[],rs1,rs2,hq,hR,e=>by
  simp only[gF] at e ⊢;rw[<-hk _ _ hq];exact e
 |i::l,rs1,rs2,hq,hR,e=>by
  simp only[gF] at e ⊢
  split at e
  ·rename_i o ho
   obtain⟨rs',EA,a1,a2,a3,a4,a5⟩:=sG DJ hn (hF.ok i o ho) hq hR e;rw[a2];exact a2Y DJ hn hF hk a3 a4 a5
  ·cases e
theorem a2Z(DJ:e7 ans cf)(hn:ij tm)(hF:Fit ans an rid ops){kn:RS->Option R}(hk:∀rs1 rs2:RS,jg rs1 rs2->kn rs1=kn rs2){i:Nat}{l:List Nat}:∀{pre:List Nat}{rs:RS},(∀p∈pre,p<i/\((Region.before ops).getD i 0).testBit p=false)->jo ops rs ->
  gF P ans an true cf tm rid ops (λ_ _=>none) kn (pre++i::l) rs=some r->gF P ans an true cf tm rid ops (λ_ _=>none) kn (i::(pre++l)) rs=some r
 |[],rs,hp,hR,e=>e
 |p::pre,rs,hp,hR,e=>by
  simp only[Cw,gF] at e ⊢
  split at e
  case h_2=>cases e
  rename_i o ho;obtain⟨rs',EA,a1,a2,a3,a4,a5⟩:=sG DJ hn (hF.ok p o ho) (jg.refl rs) hR e;have ih:=a2Z DJ hn hF hk (l:=l) (λq hq=>hp q (by simp[hq])) a4 a5;simp only[gF] at ih
  split at ih
  case h_2=>cases ih
  rename_i a ha;have CS:=hF.free p i o a (hp p (by simp)).1 ho ha;rw[(hp p (by simp)).2] at CS;obtain⟨BQ,H1,H2⟩:=CS.resolve_left (by simp);have e2:iA P ans an true cf tm rid ops (λ_ _=>none) o p rs (λrs'=>iA P ans an true cf tm rid ops (λ_ _=>none) a i rs' λrs'=>gF P ans an true cf tm rid ops (λ_ _=>none) kn (pre++l) rs')=some r:=by rw[a1];exact ih
  obtain⟨rs1,MQ,rs2,b1,b2,b3,b4,b5⟩:=comm DJ hn (hF.ok p o ho) (hF.ok i a ha) hR BQ H1 H2 e2;rw[b2];rw[b3];exact a2Y DJ hn hF hk b4 b5 b1
def Inv(ops:List Oper)(acc:Array Nat):Prop:=acc.size<=ops.length/\∀(j p:Nat),(acc.getD j 0).testBit p=true->∃o:Oper,ops[j]?=some o/\∃e∈o.after.toList,Region.binds .any e=true/\(p=e.on\/(acc.getD e.on 0).testBit p=true)
theorem a1Q(acc:Array Nat)(p:Nat):∀(l:List Edge)(s:Nat),(l.foldl (λs e=>if Region.binds .any e then s ||| 2^e.on ||| acc.getD e.on 0 else s) s).testBit p=true ->
  s.testBit p=true\/∃e∈l,Region.binds .any e=true/\(p=e.on\/(acc.getD e.on 0).testBit p=true)
 |[],s,h=>.inl h
 |e::l,s,h=>by
  simp only[Ef] at h;rcases a1Q acc p l _ h with h|⟨e',h1,h2⟩
  ·split at h
   ·rename_i hb
    simp only[Fe,El,Ck,Cj] at h;rcases h with(h|h)|h
    ·exact .inl h
    ·exact .inr ⟨e,by simp,hb,.inl h.symm⟩
    ·exact .inr ⟨e,by simp,hb,.inr h⟩
   ·exact .inl h
  ·exact .inr ⟨e',by simp[h1],h2⟩
theorem a1v:∀(l done:List Oper)(acc:Array Nat),acc.size=done.length->Inv (done++l) acc ->
  Inv (done++l) (l.foldl (λacc o=>acc.push (o.after.foldl (λs e=>if Region.binds .any e then s ||| 2^e.on ||| acc.getD e.on 0 else s) 0)) acc)
 |[],done,acc,hs,h=>h
 |o::l,done,acc,hs,h=>by
  simp only[Ef];rw[show done++o::l=(done++[o])++l by simp] at h ⊢;refine a1v l (done++[o]) _ (by simp[hs]) ⟨by simp[hs],λj p hb=>?_⟩;generalize hv:o.after.foldl (λs e=>if Region.binds .any e then s ||| 2^e.on ||| acc.getD e.on 0 else s) 0=v at hb ⊢
  have grow:∀k,(acc.getD k 0).testBit p=true->((acc.push v).getD k 0).testBit p=true:=λk hk=>by
   have AL:k<acc.size:=by
    rcases Dl k acc.size with h'|h'
    ·exact h'
    ·rw[Af,Gn h'] at hk;simp at hk
   rw[Af,Array.getElem?_push_lt AL];rw[Af,Bj AL] at hk;exact hk
  by_cases hj:j=acc.size
  ·subst hj
   rw[Af] at hb;simp only[Array.getElem?_push_size,Cm] at hb;refine⟨o,by rw[hs,Aj,Bm (Ae _)];simp,?_⟩;rw[<-hv,<-Du] at hb;rcases a1Q acc p _ 0 hb with h'|⟨e,h1,h2,h3⟩
   ·simp at h'
   ·exact⟨e,h1,h2,h3.imp id (grow _)⟩
  ·have BC:(acc.getD j 0).testBit p=true:=by
    rw[Af,Array.getElem?_push] at hb;rw[Bf hj] at hb;rw[Af];exact hb
   obtain⟨o',h1,e,h2,h3,h4⟩:=h.2 j p BC;exact⟨o',h1,e,h2,h3,h4.imp id (grow _)⟩
theorem a0s(ops:Array Oper):Inv ops.toList (Region.before ops):=by
 have:=a1v ops.toList [] #[] rfl ⟨by simp,λj p h=>by simp at h⟩
 unfold Region.before;rw[<-Du];exact this
theorem iZ(hF:Fit ans an rid ops)(S:Nat->Prop)(hS:∀(j:Nat)(o:Oper),S j->ops[j]?=some o->∀e∈o.after.toList,Region.binds .any e=true->S e.on):∀(n i:Nat),i<n->(∀o:Oper,ops[i]?=some o->∀e∈o.after.toList,Region.binds .any e=true->S e.on) ->
  ∀p,((Region.before ops).getD i 0).testBit p=true->S p
 |0,i,hi,_,p,_=>by omega
 |n+1,i,hi,Rt,p,hb=>by
  obtain⟨o,ho,e,he,G9,h⟩:=(a0s ops).2 i p hb;rw[Cp] at ho;have hs:=Rt o ho e he G9;rcases h with h|h
  ·subst h;exact hs
  ·have:=hF.uc i o ho e he G9
   exact iZ hF S hS n e.on (by omega) (λo' FM e' Hp BC=>hS e.on o' hs FM e' Hp BC) p h
def rem(n:Nat)(listed:Array Bool):List Nat:=(List.range n).filter λi=>!listed.getD i true
theorem rB(n:Nat):(List.range n).Pairwise (· < ·):=List.pairwise_lt_range
theorem fm{n i:Nat}{listed:Array Bool}{pre post:List Nat}(h:rem n listed=pre++i::post)(hi:i<listed.size):rem n (listed.setIfInBounds i true)=pre++post:=by
 have hf:rem n (listed.setIfInBounds i true)=(rem n listed).filter (λk=>k != i):=by
  unfold rem;rw[List.filter_filter];apply List.filter_congr;intro k _;by_cases hk:k=i
  ·subst hk
   simp[Af,Eg,hi]
  ·simp[Af,Bn (Dc hk),hk]
 have Hl:(rem n listed).Pairwise (· < ·):=(rB n).filter _;rw[h] at Hl;rw[Dh] at Hl;obtain⟨_,h2,h3⟩:=Hl;rw[Bb] at h2;rw[hf,h,List.filter_append,Fu];have e1:pre.filter (λk=>k != i)=pre:=Eo.2 λx hx=>by have:=h3 x hx i (by simp);simp;omega
 have e2:post.filter (λk=>k != i)=post:=Eo.2 λx hx=>by have:=h2.1 x hx;simp;omega
 simp[e1,e2]
theorem aKu(DJ:e7 ans cf)(hn:ij tm)(hF:Fit ans an rid ops){kn:RS->Option R}(hk:∀rs1 rs2:RS,jg rs1 rs2->kn rs1=kn rs2):∀(fuel t:Nat)(listed:Array Bool)(rs:RS),listed.size=ops.size->(rem ops.size listed).length=fuel ->
  (∀(j:Nat)(o:Oper),listed.getD j false=true->ops[j]?=some o->∀e∈o.after.toList,Region.binds .any e=true->listed.getD e.on false=true)->jo ops rs ->
  gF P ans an true cf tm rid ops (λ_ _=>none) kn (rem ops.size listed) rs=some r->gF P ans an true cf tm rid ops (λ_ _=>none) kn (Region.linearise.go .any ops fuel t listed []) rs=some r
 |0,t,listed,rs,hs,hl,hc,hR,e=>by
  rw[Ds.1 hl] at e;simpa[Region.linearise.go] using e
 |fuel+1,t,listed,rs,hs,hl,hc,hR,e=>by
  have EO:∀i,i∈Region.ready .any ops listed↔i∈rem ops.size listed/\∀o:Oper,ops[i]?=some o->∀e∈o.after.toList,Region.binds .any e=true->listed.getD e.on false=true:=λi=>by
   unfold Region.ready rem;simp only[Cu,Cq,Ac];constructor
   ·rintro⟨h1,h2,h3⟩
    refine⟨⟨h1,h2⟩,λo ho e he hb=>?_⟩;rw[ho] at h3;simp only[Bx,Cm] at h3;rw[<-Eb] at h3
    have:=Au.1 h3 e he
    simpa[hb] using this
   ·rintro⟨⟨h1,h2⟩,h3⟩
    refine⟨h1,h2,?_⟩;rw[Bj h1];simp only[Bx,Cm];rw[<-Eb];refine Au.2 λe he=>?_
    cases hb:Region.binds .any e with
    |false=>rfl
    |true=>simpa using h3 _ (Bj h1) e he hb
  have Hl:(rem ops.size listed).Pairwise (· < ·):=(rB _).filter _
  have BA:Region.ready .any ops listed≠[]:=by
   cases hr:rem ops.size listed with
   |nil=>rw[hr] at hl;simp at hl
   |cons m rest =>
    have hm:m∈Region.ready .any ops listed:=(EO m).2 ⟨by simp[hr],λo ho e he hb=>by
     have AL:=hF.uc m o ho e he hb;have hmn:m<ops.size:=(An.1 ho).1;cases hv:listed.getD e.on true with
     |true =>
      rw[Af,Bj (by omega)] at hv ⊢;exact hv
     |false =>
      have:e.on∈rem ops.size listed:=by
       unfold rem;simp only[Cu,Cq];exact⟨by omega,by rw[hv];rfl⟩
      rw[hr] at this Hl;rw[Bb] at Hl;rcases As.1 this with h'|h'
      ·omega
      ·have:=Hl.1 _ h';omega⟩
    intro h0;rw[h0] at hm;cases hm
  simp only[Region.linearise.go]
  change gF P ans an true cf tm rid ops _ kn (match(Region.ready .any ops listed)[t%(Region.ready .any ops listed).length]? with
   |some i=>Region.linearise.go .any ops fuel (t/(Region.ready .any ops listed).length) (listed.setIfInBounds i true) [i]
   |none=>[].reverse) rs=some r
  cases hi:(Region.ready .any ops listed)[t%(Region.ready .any ops listed).length]? with
  |none =>
   exfalso;rw[Dx] at hi;have CR:0<(Region.ready .any ops listed).length:=List.length_pos_iff.2 BA
   have:=Fb t CR
   omega
  |some i =>
   simp only;rw[linearise_go_acc,Gl,Al];obtain⟨IH,K8⟩:=(EO i).1 (Be hi)
   have HI:i<ops.size:=by
    unfold rem at IH;exact Cq.1 (Cu.1 IH).1
   obtain⟨pre,post,Hi⟩:=List.append_of_mem IH;have fM:=fm Hi (by omega);rw[Hi] at e Hl;rw[Dh] at Hl
   have BM:∀p∈pre,p<i/\((Region.before ops).getD i 0).testBit p=false:=λp hp=>by
    refine⟨Hl.2.2 p hp i (by simp),?_⟩;cases hb:((Region.before ops).getD i 0).testBit p with
    |false=>rfl
    |true =>
     have h1:=iZ hF (λj=>listed.getD j false=true) hc (i+1) i (by omega) K8 p hb;have h2:p∈rem ops.size listed:=by rw[Hi];simp[hp]
     unfold rem at h2;have h3:=(Cu.1 h2).2;have h4:=Cq.1 (Cu.1 h2).1;rw[Af,Bj (by omega)] at h1 h3;simp only[Cm] at h1 h3;rw[h1] at h3;cases h3
   have e2:=a2Z DJ hn hF hk BM hR e;simp only[gF] at e2 ⊢;rw[Bj HI] at e2 ⊢;simp only at e2 ⊢;obtain⟨rs',EA,a1,a2,a3,a4,a5⟩:=sG DJ hn (hF.ok i _ (Bj HI)) (jg.refl rs) hR e2;rw[a1];refine aKu DJ hn hF hk fuel _ _ rs' (by simp[hs]) ?_ ?_ a4 (by rw[fM];exact a5)
   ·rw[fM]
    rw[Hi] at hl;simp at hl ⊢;omega
   ·intro j o hj ho e' Hp BC
    have mono:∀k,listed.getD k false=true->(listed.setIfInBounds i true).getD k false=true:=λk Mn=>by
     by_cases tu:k=i
     ·subst tu
      simp[Af,Eg,hs,HI]
     ·rw[Af,Bn (Dc tu),<-Af];exact Mn
    by_cases FD:j=i
    ·subst FD;exact mono _ (K8 o ho e' Hp BC)
    ·rw[Af,Bn (Dc FD),<-Af] at hj
     exact mono _ (hc j o hj ho e' Hp BC)
theorem a3g(hm:P.follows .mixedOrders=true)(DJ:e7 ans cf):gU P ans cf:=by
 refine⟨hm,λR fid tm rid ops kn rs r h1 h2 hn IZ hk e t=>?_⟩;have hF:=aMU h1 h2
 have vw:rem ops.size (Array.replicate ops.size false)=List.range ops.size:=by
  unfold rem;refine Eo.2 λk Mn=>?_
  have:=Cq.1 Mn
  simp[Af,Dp,this]
 unfold Region.linearise;refine aKu DJ hn hF (λrs1 rs2 hq=>hk rs1 rs2 hq.1 hq.2) ops.size t _ rs (by simp) (by rw[vw];simp) (λj o hj ho=>?_) (λt u x hl=>by rw[IZ] at hl;simp[bV] at hl) (by rw[vw];exact e);rw[Af,Dp] at hj
 split at hj<;>simp at hj
end
section
variable {P:Program}{ans:FuncId->AF}{an:AF}{tm:List Slot}{rs:RS}
inductive Out where
 |ret (s:Slot) (rs:RS)
 |be (v:ae) (rs:RS)
 |call (AA:Bool) (c:Callee) (args:List Slot) (rs:RS)
 |none
def Out.run{R:Type}(cf:aI)(kp:ae->RS->Option R)(k:Slot->RS->Option R):Out->Option R
 |.ret s rs=>k s rs
 |.be v rs=>kp v rs
 |.call AA c args rs=>cY AA cf c args rs kp k
 |.none=>Option.none
abbrev FF:=∀(R:Type),aI->(ae->RS->Option R)->(Slot->RS->Option R)->Option R
def bB(F:FF):Prop:=∃out:Out,∀R cf kp k,F R cf kp k=out.run cf kp k
theorem bM{s:Slot}{rs:RS}:bB (λ_ _ _ k=>k s rs):=⟨.ret s rs,λ_ _ _ _=>rfl⟩
theorem aNn{s:ae}{rs:RS}:bB (λ_ _ kp _=>kp s rs):=⟨.be s rs,λ_ _ _ _=>rfl⟩
theorem aL:bB (λ_ _ _ _=>none):=⟨.none,λ_ _ _ _=>rfl⟩
theorem a3t{AA:Bool}{c:Callee}{args:List Slot}{rs:RS}:bB (λ_ cf kp k=>cY AA cf c args rs kp k):=⟨.call AA c args rs,λ_ _ _ _=>rfl⟩
theorem bJ{α:Type}{x:Option α}{G:α->FF}(h:∀a,bB (G a)):bB (λR cf kp k=>x.bind λa=>G a R cf kp k):=by
 cases x with
 |none=>exact aL
 |some a=>exact h a
theorem bR{b:Bool}{F:FF}(h:bB F):bB (λR cf kp k=>aJ b (F R cf kp k)):=by
 cases b with
 |true=>exact h
 |false=>exact aL
theorem pF{s:Slot}{G:ae->FF}(h:∀v,bB (G v)):bB (λR cf kp k=>DS s λv=>G v R cf kp k):=by
 cases s<;>first|exact h _|exact aL
theorem qF{s:Slot}{G:List ae->FF}(h:∀v,bB (G v)):bB (λR cf kp k=>lD s λv=>G v R cf kp k):=by
 cases s with
 |val v=>cases v<;>first|exact h _|exact aL
 |_=>first|exact h _|exact aL
theorem kX{s:Slot}{G:IntKind->Int->FF}(h:∀a b,bB (G a b)):bB (λR cf kp k=>asInt s λa b=>G a b R cf kp k):=by
 cases s with
 |val v=>cases v<;>first|exact h _ _|exact aL
 |_=>exact aL
theorem aA5{s:Slot}{G:Bool->FF}(h:∀a,bB (G a)):bB (λR cf kp k=>asBool s λa=>G a R cf kp k):=by
 cases s with
 |val v=>cases v with
  |bool b=>cases b<;>exact h _
  |_=>exact aL
 |_=>exact aL
theorem Wj{s:Slot}{G:Slot->FF}(h:∀a,bB (G a)):bB (λR cf kp k=>mv s λa=>G a R cf kp k):=by
 cases s<;>first|exact h _|exact aL
theorem lK{x:Operand}{s:Slot}{G:Place->FF}(h:∀a,bB (G a)):bB (λR cf kp k=>dD x s λa=>G a R cf kp k):=by
 cases s with
 |box cs=>cases x<;>first|exact h _|exact aL
 |ref t o=>exact h _
 |val v=>cases v<;>first|exact h _|exact aL
 |_=>exact aL
theorem aDz{s:Slot}{G:List Cell->FF}(h:∀a,bB (G a)):bB (λR cf kp k=>pS s λa=>G a R cf kp k):=by
 cases s<;>first|exact h _|exact aL
theorem aDA{s:Option ai}{G:List Cell->FF}(h:∀a,bB (G a)):bB (λR cf kp k=>pT s λa=>G a R cf kp k):=by
 rcases s with _|o
 ·exact aL
 ·cases o<;>first|exact h _|exact aL
theorem a1q{keep:List Nat}{p:Place}{G:List Cell->Nat->FF}(h:∀a b,bB (G a b)):bB (λR cf kp k=>aT keep tm rs p λa b=>G a b R cf kp k):=by
 cases p with
 |loc t o=>exact aDz λa=>h a o
 |obj i o=>exact aDA λa=>h a o
 |kc x=>exact h _ _
theorem a1s{p:Place}{cs:List Cell}{G:RS->FF}(h:∀a,bB (G a)):bB (λR cf kp k=>bS rs p cs λa=>G a R cf kp k):=by
 cases p with
 |loc t o=>exact h _
 |obj i o=>exact bR (h _)
 |kc x=>exact aL
theorem a2O{keep:List Nat}{x:Operand}{G:List Cell->RS->FF}(h:∀a b,bB (G a b)):bB (λR cf kp k=>dO keep tm rs x λa b=>G a b R cf kp k):=by
 unfold dO;generalize AZ keep tm rs x=s;have hv:bB (λR cf kp k=>DS s λv=>G (v.cells.map .val) rs R cf kp k):=pF λv=>h _ _
 cases s with
 |own sz xs =>
  cases x with
  |tmp t=>dsimp only;cases keep.contains t<;>exact h _ _
  |const v=>cases xs<;>first|exact h _ _|exact hv
  |_=>exact hv
 |cells cs =>
  cases x with
  |tmp t=>dsimp only;cases keep.contains t<;>exact h _ _
  |_=>exact hv
 |_=>exact hv
theorem a6q{t0:TypeId}{keep:List Nat}{x:Operand}{G:List Cell->RS->FF}(h:∀a b,bB (G a b)):bB (λR cf kp k=>eN P t0 keep tm rs x λa b=>G a b R cf kp k):=by
 unfold eN;cases hs:AZ keep tm rs x
 case nl=>exact bJ λe=>bJ λsz=>h _ _
 all_goals exact a2O h
theorem wO{keep:List Nat}:∀{ps:List (Nat×Operand)}{G:List (Nat×ae)->FF},(∀a,bB (G a))->bB (λR cf kp k=>gN keep tm rs ps λa=>G a R cf kp k)
 |[],G,h=>h _
 |(i,x)::r,G,h=>pF λv=>wO (ps:=r) λa=>h _
theorem ee{keep:List Nat}:∀{ps:List Operand}{G:List ae->FF},(∀a,bB (G a))->bB (λR cf kp k=>mM keep tm rs ps λa=>G a R cf kp k)
 |[],G,h=>h _
 |x::r,G,h=>pF λv=>ee (ps:=r) λa=>h _
theorem uT{keep own:List Nat}:∀{ps:List Operand}{rs:RS}{i:Nat}{G:List Slot->RS->FF},(∀a b,bB (G a b))->bB (λR cf kp k=>fX keep tm rs own i ps λa b=>G a b R cf kp k)
 |[],rs,i,G,h=>h _ _
 |x::r,rs,i,G,h=>by
  have hv:bB (λR cf kp k=>DS (AZ keep tm rs x) λv=>fX keep tm rs own (i+1) r λl rs'=>G (.val v::l) rs' R cf kp k):=pF λv=>uT (ps:=r) λa b=>h _ _
  simp only[fX]
  revert hv
  generalize AZ keep tm rs x=s;intro hv;cases own.contains i with
  |false=>cases s<;>exact hv
  |true =>
   cases s with
   |own sz l0 =>
    cases x with
    |tmp t=>exact uT (ps:=r) λa b=>h _ _
    |_=>exact hv
   |nl=>exact uT (ps:=r) λa b=>h _ _
   |_=>exact hv
theorem jA{keep:List Nat}{x:Option Operand}{d:Int}{G:Int->FF}(h:∀a,bB (G a)):bB (λR cf kp k=>jQ keep tm rs x d λa=>G a R cf kp k):=by
 cases x with
 |none=>exact h _
 |some x=>exact kX λa b=>h b
theorem y6{sz:Nat}{full:Bool}{xs:List ae}{l hh:Int}{G:Slot->FF}(h:∀a,bB (G a)):bB (λR cf kp k=>fH sz full xs l hh λa=>G a R cf kp k):=bR (h _)
theorem a1r{drawn:Bool}{RY:List Nat}{p:Place}{F:FF}(h:bB F):bB (λR cf kp k=>bO drawn RY p (F R cf kp k)):=by
 cases drawn with
 |false=>exact h
 |true=>cases p<;>exact bR h
theorem aNm{b:Bool}{p:Place}{F:FF}(h:bB F):bB (λR cf kp k=>gC b p (F R cf kp k)):=by
 cases b with
 |false=>exact h
 |true=>cases p<;>first|exact h|exact aL
theorem y7{tk:Bool}{ty:TypeId}{x:Operand}{G:Slot->RS->FF}(h:∀a b,bB (G a b)):bB (λR cf kp k=>Gz P an tm tk ty x rs λa b=>G a b R cf kp k):=by
 cases x with
 |tmp t =>
  simp only[Gz];generalize AZ an.keep tm rs (.tmp t)=s;have hv:bB (λR cf kp k=>mv s λs'=>G s' rs R cf kp k):=Wj λv=>h _ _
  cases s with
  |own sz xs=>dsimp only;cases(tk||!an.keep.contains t)<;>exact h _ _
  |cells cs=>dsimp only;cases(tk||!an.keep.contains t)<;>exact h _ _
  |_=>exact hv
 |const v =>
  simp only[Gz];generalize mP P ty v=s;cases s<;>first|exact h _ _|exact aL
 |_=>simp only[Gz];exact Wj λv=>h _ _
theorem aBH(drawn AA:Bool)(EB:List Nat)(tk:Bool)(o:Oper):bB (λ_ cf kp k=>aC P ans an drawn AA EB cf tm tk o rs kp k):=by
 obtain⟨dst,op,ty,pos,AK,gd⟩:=o;cases op with
 |move x=>simp only[aC];exact y7 λ_ _=>bM
 |assign x=>simp only[aC];exact y7 λ_ _=>bM
 |pick c a b=>simp only[aC];exact aA5 λ_=>Wj λ_=>bM
 |alloc t =>
  simp only[aC];refine bJ λz=>bJ λs=>bR ?_
  cases dst with
  |none=>exact aL
  |some d=>dsimp only;cases an.loc.contains d<;>exact bM
 |box t x =>
  simp only[aC];refine a6q λv rs=>bJ λs=>bR ?_
  cases dst with
  |none=>exact aL
  |some d =>
   dsimp only
   cases an.loc.contains d
   ·dsimp only
    cases(tk&&v.all mF)
    ·exact bR bM
    ·exact bM
   ·exact bM
 |build t parts =>
  simp only[aC];refine bJ λz=>?_
  generalize P.underlying t=u;rcases u with _|u
  ·exact aL
  ·cases u<;>first
    |exact wO λl=>bJ λs=>bJ λcs=>bM
    |exact aL
 |buildSlice t len parts=>simp only[aC];exact bJ λe=>bJ λs=>bR (wO λl=>bJ λz=>bR (bJ λxs=>bM))
 |load t a =>
  simp only[aC];refine lK λp=>a1r (aNm (a1q λcs off=>bJ λs=>bJ λagg=>?_))
  cases agg with
  |true=>exact bJ λv=>bM
  |false =>
   refine bR ?_;generalize cs[off]?=c;have hc:bB (λ_ _ _ k=>c.bind λc=>k (.val c.get) rs):=bJ λc=>bM
   cases tk with
   |false=>exact hc
   |true =>
    rcases c with _|c
    ·exact hc
    ·cases c with
     |own sz xs=>exact a1s λ_=>bM
     |val v=>exact hc
 |store t a x =>
  simp only[aC];cases tk with
  |true =>
   refine bR ?_;unfold th;split
   ·split
    ·exact bJ λs=>bR bM
    ·exact aL
   ·exact aL
  |false=>exact lK λp=>a1r (a1q λcs off=>bJ λs=>a2O λv rs=>bR (a1s λ_=>bM))
 |nilCheck x =>
  simp only[aC];generalize AZ an.keep tm rs x=s;cases s with
  |box cs=>cases x<;>first|exact bM|exact aL
  |ref t o=>exact bM
  |val v=>cases v<;>first|exact bM|exact aL
  |_=>exact aL
 |binOp op t x y w =>
  simp only[aC];generalize AZ an.keep tm rs x=s;generalize AZ an.keep tm rs y=s';generalize dV y=b1;generalize isNilIface y=b2;have hz:bB (λ_ _ _ k=>DS s λa=>DS s' λb=>aJ (hH P t a) ((gZ op a b).bind λv=>k (.val v) rs)):=pF λa=>pF λb=>bR (bJ λv=>bM)
  have hn:∀f:Bool->Bool,bB (λ_ _ _ k=>aJ (fD P t) ((cO s).bind λb=>k (.val (.bool (f b))) rs)):=λf=>bR (bJ λb=>bM)
  cases op<;>cases b1<;>first
   |exact hn id
   |exact hn (!·)
   |(cases b2 with
     |false=>exact hz
     |true =>
      cases s with
      |val v=>cases v<;>first|exact bR bM|exact hz
      |_=>exact hz)
   |exact hz
 |unOp op t x =>
  simp only[aC];generalize AZ an.keep tm rs x=s
  cases op<;>first
   |exact aL
   |(cases s with
     |val v=>cases v<;>first|exact bM|exact aL
     |_=>exact aL)
 |fieldAddr t x f =>
  simp only[aC];refine bJ λot=>bJ λs=>bR (lK λp=>?_)
  cases p with
  |loc t o=>exact bM
  |obj i o=>exact bM
  |kc v=>exact bJ λ_=>bJ λ_=>bM
 |indexAddr t x ix =>
  simp only[aC];generalize P.underlying t=u;rcases u with _|u
  ·exact aL
  ·cases u<;>first
    |exact aL
    |exact qF λxs=>kX λ_ n=>bJ λs=>bR (bJ λv=>bR bM)
    |(refine lK λp=>kX λ_ n=>bJ λs=>bR ?_
      cases p with
      |loc t o=>exact bM
      |obj i o=>exact bM
      |kc v=>exact bJ λ_=>bJ λ_=>bM)
 |slice t x lo hi mx =>
  simp only[aC];generalize P.underlying t=u;generalize AZ an.keep tm rs x=s;rcases u with _|u
  ·exact aL
  ·cases u<;>first
    |exact aL
    |(cases mx with
      |some m=>first
       |(cases s with
         |val v=>cases v<;>exact aL
         |_=>exact aL)
       |(refine bJ λsz=>qF λxs=>jA λl=>jA λh=>kX λ_ m=>bR ?_
         cases hi with
         |none=>exact aL
         |some x=>exact y6 λ_=>bM)
      |none=>first
       |(cases s with
         |val v=>cases v<;>first
          |exact jA λl=>jA λh=>bR bM
          |exact aL
         |_=>exact aL)
       |exact bJ λsz=>qF λxs=>jA λl=>jA λh=>y6 λ_=>bM)
 |makeInterface t x =>
  simp only[aC];generalize P.underlying t=u;rcases u with _|u
  ·exact aL
  ·cases u<;>first|exact aL|exact pF λv=>bM
 |typeAssert x xt t ok =>
  simp only[aC];generalize P.underlying t=u;generalize AZ an.keep tm rs x=s;rcases u with _|u
  ·exact aL
  ·cases u<;>first
    |exact aL
    |(refine bJ λz=>?_
      cases s with
      |val v=>cases v<;>first
       |exact bR bM
       |(dsimp only
         rename_i ut y;cases Nat.beq ut t
         ·exact bR bM
         ·cases ok<;>exact bM)
       |exact aL
      |_=>exact aL)
 |makeFunc fn first caps =>
  simp only[aC];generalize first.toList=l
  cases fn<;>cases l<;>first
   |exact aL
   |exact ee λl=>bM
 |extract t ix =>
  simp only[aC];generalize AZ an.keep tm rs t=s;cases s<;>first|exact bJ λv=>bM|exact aL
 |panic x =>
  simp only[aC];generalize AZ an.keep tm rs x=s;cases drawn with
  |true=>exact aL
  |false =>
   cases s with
   |val v=>cases v<;>first|exact aNn|exact aL
   |_=>exact aL
 |call c =>
  obtain⟨callee,args,argTypes⟩:=c;simp only[aC];generalize args.toList=l;cases callee with
  |value f =>
   dsimp only
   generalize AZ an.keep tm rs f=s;cases s with
   |val v=>cases v<;>first
    |exact uT λl rs'=>a3t
    |exact aL
   |_=>exact aL
  |builtin b =>
   have hlen:∀x,bB (λ_ _ _ k=>match(argTypes[0]?).bind P.underlying with
     |some .string=>(match AZ an.keep tm rs x with|.val (.str s)=>k (.val (.int .i64 s.length)) rs|_=>none)
     |some (.slice _)=>lD (AZ an.keep tm rs x) λxs=>k (.val (.int .i64 xs.length)) rs
     |some (.array n _)=>k (.val (.int .i64 n)) rs
     |_=>none):=λx=>by
    generalize(argTypes[0]?).bind P.underlying=u;generalize AZ an.keep tm rs x=s;rcases u with _|u
    ·exact aL
    ·cases u<;>first
      |exact aL
      |exact qF λxs=>bM
      |exact bM
      |(cases s with
        |val v=>cases v<;>first
         |exact bM
         |exact aL
        |_=>exact aL)
   have a42:∀s x,bB (λ_ _ _ k=>match(argTypes[0]?).bind (aQ P),(argTypes[1]?).bind (aQ P) with
     |some e,some _=>(aU P e).bind λsz=>(zeroOf P e).bind λz=>lD (AZ an.keep tm rs x) λys=>aJ (Nat.blt 0 sz&&Nat.beq z.cells.length sz&&Nat.ble (bC P e) 16384&&Nat.blt 0 (bC P e)&&ys.all (λy=>Nat.beq y.cells.length sz)) (match AZ an.keep tm rs s,s with
      |.own G1 xs,.tmp t=>aJ (Nat.beq sz G1&&Nat.ble (xs.length+ys.length) room) (k (.own sz (xs++ys)) (rs.put t (.val (.slice xs))))
      |.full xs,_=>aJ (xs.all (λy=>Nat.beq y.cells.length sz)&&Nat.ble (xs.length+ys.length) room&&(xs.isEmpty||!ys.isEmpty)) (k (.own sz (xs++ys)) rs)
      |.nl,_=>aJ (Nat.ble ys.length room) (k (.own sz ys) rs)
      |_,_=>none)
     |_,_=>none):=λs x=>by
    generalize(argTypes[0]?).bind (aQ P)=u1;generalize(argTypes[1]?).bind (aQ P)=u2;rcases u1 with _|u1
    ·exact aL
    ·rcases u2 with _|u2
     ·exact aL
     ·refine bJ λsz=>bJ λz=>qF λys=>bR ?_
      generalize AZ an.keep tm rs s=v;cases v with
      |own G1 xs=>cases s<;>first|exact bR bM|exact aL
      |full xs=>exact bR bM
      |nl=>exact bR bM
      |_=>exact aL
   rcases l with _|⟨x,l⟩
   ·cases b<;>exact aL
   ·rcases l with _|⟨y,l⟩
    ·cases b<;>first|exact hlen x|exact aL
    ·rcases l with _|⟨z,l⟩
     ·cases b<;>first|exact a42 x y|exact kX λ_ _=>kX λ_ _=>bM|exact aL
     ·cases b<;>exact aL
  |invoke r m =>
   dsimp only
   generalize AZ an.keep tm rs r=s;cases s with
   |val v=>cases v<;>first
    |exact bJ λf=>ee λl=>a3t
    |exact aL
   |_=>exact aL
 |_=>exact aL
end
section
variable {P:Program}{ans:FuncId->AF}{pr:gG}{R:Type}{r:R}
variable {Hx:aI}{Kz:aO}{cf:Nat->aI}{lp:Nat->aO}{fid:FuncId}
def ig(x:Nat->Option R)(r:R):Prop:=∃n,∀m,n<=m->x m=some r
theorem ig.const{x:Option R}(h:x=some r):ig (λ_=>x) r:=⟨0,λ_ _=>h⟩
theorem ig.congr{x y:Nat->Option R}(h:ig x r)(e:∀m,y m=x m):ig y r:=by
 obtain⟨n,h⟩:=h;exact⟨n,λm hm=>(e m).trans (h m hm)⟩
theorem ig.bind{α:Type}{x:Nat->Option α}{a:α}{f:Nat->α->Option R}(h:ig x a)(k:ig (λm=>f m a) r):ig (λm=>(x m).bind (f m)) r:=by
 obtain⟨n,h⟩:=h;obtain⟨n',k⟩:=k;exact⟨max n n',λm hm=>by show(x m).bind (f m)=some r;rw[h m (by omega)];exact k m (by omega)⟩
def pN(Hx:aI)(cf:Nat->aI):Prop:=∀c a s r,Hx c a s=some r->ig (λm=>cf m c a s) r
def zJ(Kz:aO)(lp:Nat->aO):Prop:=∀f c st r,Kz f c st=some r->ig (λm=>lp m f c st) r
theorem aEv(hc:pN Hx cf){KV:ae->RS->Option R}{kp:Nat->ae->RS->Option R}{k0:Slot->RS->Option R}{k:Nat->Slot->RS->Option R}
  (hp:∀v rs r,KV v rs=some r->ig (λm=>kp m v rs) r) (hk:∀s rs r,k0 s rs=some r->ig (λm=>k m s rs) r) {out:Out} (e:out.run Hx KV k0=some r):ig (λm=>out.run (cf m) (kp m) (k m)) r:=by
 cases out with
 |none=>cases e
 |ret s rs=>exact hk _ _ _ e
 |be v rs=>exact hp _ _ _ e
 |call AA c args rs =>
  cases AA with
  |false =>
   simp only[Out.run,cY] at e ⊢;obtain⟨⟨x,sto⟩,h1,e⟩:=aH e;refine(hc _ _ _ _ h1).bind ?_;cases x with
   |ret s =>
    obtain⟨hg,e⟩:=aB e;exact(hk _ _ _ e).congr λm=>aD hg _
   |be v=>exact hp _ _ _ e
  |true =>
   simp only[Out.run,cY] at e ⊢;obtain⟨⟨x,sto⟩,h1,e⟩:=aH e;refine(hc _ _ _ _ h1).bind ?_;cases x with
   |ret s =>
    obtain⟨hg,e⟩:=aB e;exact(hk _ _ _ e).congr λm=>aD hg _
   |be v=>cases e
theorem aBs(hc:pN Hx cf){an:AF}{drawn:Bool}{tm:List Slot}{rid:Nat}{ops:Array Oper}{o:Oper}{i:Nat}{rs:RS}{KV:ae->RS->Option R}{kp:Nat->ae->RS->Option R}{k0:RS->Option R}{k:Nat->RS->Option R}
  (hp:∀v rs r,KV v rs=some r->ig (λm=>kp m v rs) r) (hk:∀rs r,k0 rs=some r->ig (λm=>k m rs) r)
  (e:iA P ans an drawn Hx tm rid ops KV o i rs k0=some r):ig (λm=>iA P ans an drawn (cf m) tm rid ops (kp m) o i rs (k m)) r:=by
 have go:∀rs lc,aC P ans an drawn (an.pure.contains (rid,i)) lc Hx tm (an.take.contains (rid,i)) o rs KV (λs rs'=>aJ (dW an o s rs') (k0 (rs'.jq o.dst s)))=some r ->
   ig (λm=>aC P ans an drawn (an.pure.contains (rid,i)) lc (cf m) tm (an.take.contains (rid,i)) o rs (kp m) (λs rs'=>aJ (dW an o s rs') (k m (rs'.jq o.dst s)))) r:=λrs lc e=>by
  obtain⟨out,h⟩:=aBH (P:=P) (ans:=ans) (an:=an) (tm:=tm) (rs:=rs) drawn (an.pure.contains (rid,i)) lc (an.take.contains (rid,i)) o;have h0:=h R Hx KV λs rs'=>aJ (dW an o s rs') (k0 (rs'.jq o.dst s))
  simp only at h0;rw[h0] at e;refine(aEv hc hp (k:=λm s rs'=>aJ (dW an o s rs') (k m (rs'.jq o.dst s))) (λs rs' r e=>?_) e).congr λm=>h _ _ _ _
  obtain⟨hg,e⟩:=aB e;exact(hk _ _ e).congr λm=>aD hg _
 unfold iA at e ⊢;simp only at e ⊢;cases hg:o.guard with
 |none =>
  rw[hg] at e;exact go _ _ e
 |some jw =>
  obtain⟨j,want⟩:=jw;rw[hg] at e;simp only at e ⊢;cases hd:(ops[j]?).bind (·.dst) with
  |none=>rw[hd] at e;cases e
  |some d =>
   rw[hd] at e;simp only at e ⊢;generalize rs.look an.keep tm d=s at e ⊢;cases s with
   |val v =>
    cases v with
    |bool b =>
     cases b<;>cases want
     ·exact(go _ _ e).congr λm=>rfl
     ·obtain⟨h1,h2⟩:=aB (show aJ (dW an o .dead rs) (k0 ((rs.put d (.val (.bool false))).jq o.dst (.aj [])))=some r from e)
      exact(hk _ _ h2).congr λm=>aD h1 _
     ·obtain⟨h1,h2⟩:=aB (show aJ (dW an o .dead rs) (k0 ((rs.put d (.val (.bool true))).jq o.dst (.aj [])))=some r from e)
      exact(hk _ _ h2).congr λm=>aD h1 _
     ·exact(go _ _ e).congr λm=>rfl
    |_=>cases e
   |aj l =>
    cases l with
    |nil =>
     obtain⟨h1,h2⟩:=aB (show aJ (dW an o .dead rs) (k0 (rs.jq o.dst (.aj [])))=some r from e);exact(hk _ _ h2).congr λm=>aD h1 _
    |cons _ _=>cases e
   |_=>cases e
theorem sI(hc:pN Hx cf){an:AF}{drawn:Bool}{tm:List Slot}{rid:Nat}{ops:Array Oper}{KV:ae->RS->Option R}{kp:Nat->ae->RS->Option R}{k0:RS->Option R}{k:Nat->RS->Option R}
  (hp:∀v rs r,KV v rs=some r->ig (λm=>kp m v rs) r) (hk:∀rs r,k0 rs=some r->ig (λm=>k m rs) r):∀{l:List Oper}{i:Nat}{rs:RS}{r:R},
  j3 P ans an drawn Hx tm rid ops KV k0 l i rs=some r->ig (λm=>j3 P ans an drawn (cf m) tm rid ops (kp m) (k m) l i rs) r
 |[],i,rs,r,e=>hk _ _ e
 |o::l,i,rs,r,e=>aBs (r:=r) hc hp (λrs r e=>sI hc hp hk e) e
theorem gW(hc:pN Hx cf)(hl:zJ Kz lp):∀(c:Code){st:St}{K0:bG->St->Option R}{K:Nat->bG->St->Option R}{r:R},(∀e st r,K0 e st=some r->ig (λm=>K m e st) r) ->
  XK P ans Hx Kz fid c st K0=some r->ig (λm=>XK P ans (cf m) (lp m) fid c st (K m)) r
 |.skip,st,K0,K,r,hk,e=>hk _ _ _ e
 |.label _,st,K0,K,r,hk,e=>hk _ _ _ e
 |.seq a b,st,K0,K,r,hk,e=>by
  simp only[XK] at e ⊢;refine gW hc hl a (K:=λm e AY=>match e with
   |.norm=>XK P ans (cf m) (lp m) fid b AY (K m)
   |.exit id=>K m (.exit id) AY
   |.ret=>K m .ret AY
   |.be v=>K m (.be v) AY) (λex AY r e=>?_) e
  cases ex with
  |norm=>exact gW hc hl b hk e
  |_=>exact hk _ _ _ e
 |.cond c a b,st,K0,K,r,hk,e=>by
  simp only[XK] at e ⊢;generalize AZ (ans fid).keep st.tm ⟨[],st.sto⟩ c=s at e ⊢;cases s with
  |val v =>
   cases v with
   |bool t=>cases t with
    |true=>exact gW hc hl a hk e
    |false=>exact gW hc hl b hk e
   |_=>cases e
  |_=>cases e
 |.block id c,st,K0,K,r,hk,e=>by
  simp only[XK] at e ⊢;refine gW hc hl c (K:=λm e AY=>match e with
   |.norm=>K m .norm AY
   |.exit DC=>(bif Nat.beq DC id then K m .norm AY else K m (.exit DC) AY)
   |.ret=>K m .ret AY
   |.be v=>K m (.be v) AY) (λex AY r e=>?_) e
  cases ex with
  |exit DC =>
   simp only at e ⊢;cases hb:Nat.beq DC id with
   |true=>rw[hb] at e;exact hk _ _ _ e
   |false=>rw[hb] at e;exact hk _ _ _ e
  |_=>exact hk _ _ _ e
 |.scope c,st,K0,K,r,hk,e=>gW hc hl c hk e
 |.exit id,st,K0,K,r,hk,e=>hk _ _ _ e
 |.ret,st,K0,K,r,hk,e=>hk _ _ _ e
 |.region id ops false,st,K0,K,r,hk,e=>by
  simp only[XK] at e ⊢;exact sI hc (kp:=λm v rs=>K m (.be v) ⟨st.tm,rs.sto⟩) (k:=λm rs=>K m .norm ⟨ed (ans fid).keep st.tm rs.sc,rs.sto⟩) (λv rs r e=>hk _ _ _ e) (λrs r e=>hk _ _ _ e) e
 |.region id ops true,st,K0,K,r,hk,e=>by
  simp only[XK] at e ⊢;obtain⟨hg,e⟩:=aB e;exact(sI hc (kp:=λm v rs=>none) (k:=λm rs=>K m .norm ⟨ed (ans fid).keep st.tm rs.sc,rs.sto⟩) (λv rs r e=>by cases e) (λrs r e=>hk _ _ _ e) e).congr λm=>aD hg _
 |.loop c,st,K0,K,r,hk,e=>by
  simp only[XK] at e ⊢;obtain⟨p,h1,e⟩:=aH e;exact(hl _ _ _ _ h1).bind (hk _ _ _ e)
 |.rangeFunc f params assign body,st,K0,K,r,hk,e=>by
  simp only[XK] at e ⊢;generalize AZ (ans fid).keep st.tm ⟨[],st.sto⟩ f=s at e ⊢;cases s with
  |val v =>
   cases v with
   |func g caps =>
    simp only at e ⊢;obtain⟨⟨x,sto⟩,h1,e⟩:=aH e;refine(hc _ _ _ _ h1).bind ?_;cases x with
    |be v=>exact hk _ _ _ e
    |ret s =>
     simp only at e ⊢;generalize sto.objs[st.sto.objs.length]?=ob at e ⊢;rcases ob with _|ob
     ·cases e
     ·cases ob with
      |loop l =>
       simp only at e ⊢;generalize l.state=ls at e ⊢;generalize l.pend=MY at e ⊢
       cases ls<;>rcases MY with _|MY<;>first
        |exact hk _ _ _ e
        |cases e
        |(cases MY<;>first|exact hk _ _ _ e|cases e)
      |_=>cases e
   |_=>cases e
  |_=>cases e
 |.goto _,st,K0,K,r,hk,e=>by simp[XK] at e
 |.refuse _,st,K0,K,r,hk,e=>by simp[XK] at e
end
section
variable {P:Program}{ans:FuncId->AF}{pr:gG}
variable {Hx:aI}{Kz:aO}{cf:Nat->aI}{lp:Nat->aO}
theorem a2q{R:Type}{r:R}{sto:AH}{i:Nat}{k0:iU->Option R}{k:Nat->iU->Option R}(hk:∀l r,k0 l=some r->ig (λm=>k m l) r)(e:dE sto i k0=some r):ig (λm=>dE sto i (k m)) r:=by
 unfold dE at e ⊢;generalize sto.objs[i]?=o at e ⊢;rcases o with _|o
 ·cases e
 ·cases o with
  |loop l=>exact hk _ _ e
  |_=>cases e
theorem a1N(hc:pN Hx cf)(hl:zJ Kz lp):pN (cG P ans pr Hx Kz) (λm=>cG P ans pr (cf m) (lp m))
 |.fn f,a,s,r,e=>by
  simp only[cG] at e ⊢;generalize pr f a=p at e ⊢;cases p with
  |some x=>exact ig.const e
  |none =>
   simp only at e ⊢;cases hp:(ans f).jx with
   |true=>rw[hp] at e;cases e
   |false =>
    rw[hp] at e;simp only[Bh] at e ⊢;generalize P.funcs[f]?=F at e ⊢;rcases F with _|F
    ·cases e
    ·simp only at e ⊢
     generalize hb:F.body=b at e ⊢;rcases b with _|c
     ·cases e
     ·simp only at e ⊢
      obtain⟨hg,e⟩:=aB e;exact(gW hc hl c (K:=λ_ e st=>match e with
       |.norm=>finish P (ans f) F s.objs.length st
       |.ret=>finish P (ans f) F s.objs.length st
       |.be v=>some (.be v,st.sto)
       |.exit _=>none) (λe st r h=>ig.const h) e).congr λm=>aD hg _
 |.bN i,a,s,r,e=>by
  simp only[cG] at e ⊢;refine a2q (λl r e=>?_) e;generalize Rp:l.state=ls at e ⊢
  cases ls<;>first
   |cases e
   |(simp only at e ⊢
     obtain⟨hg,e⟩:=aB e
     refine(gW hc hl l.assign (K:=λm e st =>
       match e with
       |.norm=>dE st.sto i λl1 =>
        match l1.state with
        |.ready=>XK P ans (cf m) (lp m) l.fn l.body { st with sto:=gv st.sto i { l1 with state:=.busy } } λe st =>
         match e with
         |.norm=>dE st.sto i λl2=>some (.ret (.val (.bool true)),cut s.objs.length (gv st.sto i { l2 with state:=.ready,pend:=none }))
         |.ret=>dE st.sto i λl2=>some (.ret (.val (.bool false)),cut s.objs.length (gv st.sto i { l2 with state:=.done,pend:=some .ret }))
         |.exit id=>dE st.sto i λl2=>some (.ret (.val (.bool false)),cut s.objs.length (gv st.sto i { l2 with state:=.done,pend:=some (.exit id) }))
         |.be v=>some (.be v,st.sto)
        |_=>none
       |_=>none) (λex st r e=>?_) e).congr λm=>aD hg _
     cases ex with
     |norm =>
      simp only at e ⊢;refine a2q (λl1 r e=>?_) e;generalize l1.state=ls at e ⊢
      cases ls<;>first
       |cases e
       |exact gW hc hl l.body (K:=λ_ e st =>
         match e with
         |.norm=>dE st.sto i λl2=>some (.ret (.val (.bool true)),cut s.objs.length (gv st.sto i { l2 with state:=.ready,pend:=none }))
         |.ret=>dE st.sto i λl2=>some (.ret (.val (.bool false)),cut s.objs.length (gv st.sto i { l2 with state:=.done,pend:=some .ret }))
         |.exit id=>dE st.sto i λl2=>some (.ret (.val (.bool false)),cut s.objs.length (gv st.sto i { l2 with state:=.done,pend:=some (.exit id) }))
         |.be v=>some (.be v,st.sto)) (λe st r h=>ig.const h) e
     |_=>cases e)
theorem a1P(hc:pN Hx cf)(hl:zJ Kz lp):zJ (hY P ans Hx Kz) (λm=>hY P ans (cf m) (lp m)):=λf c st r e=>by
 simp only[hY] at e ⊢;refine gW hc hl c (K:=λm e AY=>match e with
  |.norm=>lp m f c (e8 (ans f) c AY)
  |e=>some (e,AY)) (λex AY r e=>?_) e
 cases ex with
 |norm=>exact hl _ _ _ _ e
 |_=>exact ig.const e
def qu(a b:aI):Prop:=∀c x s r,a c x s=some r->b c x s=some r
def qX(a b:aO):Prop:=∀f c s r,a f c s=some r->b f c s=some r
theorem qu.pm{a b:aI}(h:qu a b):pN a λ_=>b:=λc x s r e=>ig.const (h c x s r e)
theorem qX.pm{a b:aO}(h:qX a b):zJ a λ_=>b:=λc x s r e=>ig.const (h c x s r e)
theorem ig.one{R:Type}{r:R}{x:Option R}(h:ig (λ_=>x) r):x=some r:=by
 obtain⟨n,h⟩:=h;exact h n (Ae _)
theorem a2o{a b:aI}{c d:aO}(h:qu a b)(k:qX c d):qu (cG P ans pr a c) (cG P ans pr b d):=λx y s r e=>(a1N h.pm k.pm x y s r e).one
theorem a2r{a b:aI}{c d:aO}(h:qu a b)(k:qX c d):qX (hY P ans a c) (hY P ans b d):=λx y s r e=>(a1P h.pm k.pm x y s r e).one
theorem dM:∀n,qu (run P ans pr n).1 (run P ans pr (n+1)).1/\qX (run P ans pr n).2 (run P ans pr (n+1)).2
 |0=>⟨λc x s r e=>(by cases e),λc x s r e=>(by cases e)⟩
 |n+1=>⟨a2o (dM n).1 (dM n).2,a2r (dM n).1 (dM n).2⟩
theorem fx{n m:Nat}(h:n<=m):qu (run P ans pr n).1 (run P ans pr m).1/\qX (run P ans pr n).2 (run P ans pr m).2:=by
 induction h with
 |refl=>exact⟨λ_ _ _ _ e=>e,λ_ _ _ _ e=>e⟩
 |step _ ih=>exact⟨λc x s r e=>(dM _).1 _ _ _ _ (ih.1 c x s r e),λc x s r e=>(dM _).2 _ _ _ _ (ih.2 c x s r e)⟩
open Classical in
noncomputable def pm{α:Type}(x:Nat->Option α):Option α:=if h:∃n r,x n=some r then x (Classical.choose h) else none
theorem a1C{α:Type}{x:Nat->Option α}{r:α}(hm:∀n m r,n<=m->x n=some r->x m=some r):pm x=some r↔∃n,x n=some r:=by
 unfold pm;constructor
 ·intro h
  split at h
  ·exact⟨_,h⟩
  ·cases h
 ·rintro⟨n,hn⟩
  rw[dif_pos ⟨n,r,hn⟩];have hch:=Classical.choose_spec (⟨n,r,hn⟩:∃n r,x n=some r);obtain⟨r',UG⟩:=hch;have h1:=hm _ (max n (Classical.choose (⟨n,r,hn⟩:∃n r,x n=some r))) _ (Nat.le_max_right _ _) UG;have h2:=hm n _ _ (Nat.le_max_left _ (Classical.choose (⟨n,r,hn⟩:∃n r,x n=some r))) hn;rw[h1] at h2;rw[UG];exact h2
variable (P ans pr) in
noncomputable def GY:aI:=λc a s=>pm λn=>(run P ans pr n).1 c a s
variable (P ans pr) in
noncomputable def Hf:aO:=λf c st=>pm λn=>(run P ans pr n).2 f c st
theorem hQ{c:Callee}{a:List Slot}{s:AH}{r:d_×AH}:GY P ans pr c a s=some r↔∃n,(run P ans pr n).1 c a s=some r:=a1C λn m r h e=>(fx h).1 _ _ _ _ e
theorem qK{f:FuncId}{c:Code}{s:St}{r:bG×St}:Hf P ans pr f c s=some r↔∃n,(run P ans pr n).2 f c s=some r:=a1C λn m r h e=>(fx h).2 _ _ _ _ e
theorem a29:pN (GY P ans pr) λm=>(run P ans pr m).1:=λc a s r e=>by
 obtain⟨n,hn⟩:=hQ.1 e;exact⟨n,λm hm=>(fx hm).1 _ _ _ _ hn⟩
theorem a3T:zJ (Hf P ans pr) λm=>(run P ans pr m).2:=λc a s r e=>by
 obtain⟨n,hn⟩:=qK.1 e;exact⟨n,λm hm=>(fx hm).2 _ _ _ _ hn⟩
theorem u5(n:Nat):qu (run P ans pr n).1 (GY P ans pr)/\qX (run P ans pr n).2 (Hf P ans pr):=⟨λ_ _ _ _ e=>hQ.2 ⟨n,e⟩,λ_ _ _ _ e=>qK.2 ⟨n,e⟩⟩
theorem vU(c:Callee)(a:List Slot)(s:AH):GY P ans pr c a s=cG P ans pr (GY P ans pr) (Hf P ans pr) c a s:=by
 refine Option.ext λr=>⟨λe=>?_,λe=>?_⟩
 ·obtain⟨n,hn⟩:=hQ.1 e
  cases n with
  |zero=>cases hn
  |succ n=>exact a2o (u5 n).1 (u5 n).2 _ _ _ _ hn
 ·obtain⟨n,hn⟩:=a1N a29 a3T _ _ _ _ e
  exact hQ.2 ⟨n+1,hn n (Ae _)⟩
theorem aNG(f:FuncId)(c:Code)(s:St):Hf P ans pr f c s=hY P ans (GY P ans pr) (Hf P ans pr) f c s:=by
 refine Option.ext λr=>⟨λe=>?_,λe=>?_⟩
 ·obtain⟨n,hn⟩:=qK.1 e
  cases n with
  |zero=>cases hn
  |succ n=>exact a2r (u5 n).1 (u5 n).2 _ _ _ _ hn
 ·obtain⟨n,hn⟩:=a1P a29 a3T _ _ _ _ e
  exact qK.2 ⟨n+1,hn n (Ae _)⟩
theorem aAN{B0:Nat}(E:Env P ans B0 pr){f:FuncId}{args:List Slot}{sto:AH}{res:d_}{sto':AH}(HO:pr f args=none)(e:GY P ans pr (.fn f) args sto=some (res,sto')){w:World}{Ψ:HT}{J:List Nat}{ow:Own}{vs:Array Value}(BM:dT ans B0 w Ψ J ow args vs sto) :
  Calls P f vs w λe w'=>∃Z' J' AO,Fr w Ψ ow w' Z' AO/\c_ Z' w'/\match res with
   |.ret s=>∃v,e=.returned v/\bX w' B0 Z' J' AO #[] 0 s v
   |.be x=>∃v,e=.panicked [{ v,recovered:=false }]/\am Z' J' x v:=by
 obtain⟨n,hn⟩:=hQ.1 e;cases n with
 |zero=>cases hn
 |succ n=>exact aBE E HO hn BM
end
theorem NI{P:Program}{ans:FuncId->AF}{pr:gG}{f:FuncId}{args:List Slot}{sto:AH}{r:d_}{s:Slot}(h1:pr f args=some (some r))(h2:fg r=some s):GY P ans pr (.fn f) args sto=some (.ret s,sto):=by
 rw[vU];simp only[cG,h1,Ar,h2,Bx]
theorem jZ{α:Type}{X:Option (α×AH)}{r:α}{sto:AH}(h:X=some (r,⟨sto.objs.take sto.objs.length,sto.lo⟩)):X=some (r,sto):=by
 rw[h,List.take_length]
def loops:Code->List Code
 |.seq a b=>loops a++loops b
 |.cond _ a b=>loops a++loops b
 |.block _ c=>loops c
 |.loop c=>c::loops c
 |.scope c=>loops c
 |.rangeFunc _ _ a b=>loops a++loops b
 |_=>[]
def Wk(fn:Func)(n:Nat):Option Code:=match fn.body with|some c=>(loops c)[n]?|none=>none
def aN(fn:Func)(n:Nat):Code:=(Wk fn n).getD .skip
end Go.AM
