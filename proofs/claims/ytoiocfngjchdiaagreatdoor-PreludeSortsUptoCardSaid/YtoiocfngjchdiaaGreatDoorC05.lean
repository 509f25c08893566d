import Derived.Test.YtoiocfngjchdiaaGreatDoorC04
import Derived.Test.YtoiocfngjchdiaaGreatDoorA08
set_option linter.all false
noncomputable section
namespace Go.CM
section
variable {P:Program}{ops:Array Oper}
theorem yX:∀(l:List Oper)(acc:List Nat),L5 l acc=(l.foldl (λ(acc:Array Nat) o=>acc.push (o.after.foldl (λs e=>if Region.binds .any e then s ||| 2^e.on ||| acc.getD e.on 0 else s) 0)) ⟨acc⟩).toList
 |[],acc=>rfl
 |o::l,acc=>by
  simp only[L5,Ef];rw[yX l];congr 2;apply Cr;simp
theorem a2G:L5 ops.toList []=(Region.before ops).toList:=by
 rw[yX];unfold Region.before;rw[<-Du]
def iz(ops:Array Oper):Prop:=∀(i:Nat)(o:Oper),ops[i]?=some o->∀e∈o.after.toList,Region.binds .any e=true->e.on<i
def bo(ops:Array Oper)(S:Nat->Prop):Prop:=∀(j:Nat)(o:Oper),S j->ops[j]?=some o->∀e∈o.after.toList,Region.binds .any e=true->S e.on
theorem iZ(hE:iz ops){S:Nat->Prop}(hS:bo ops S):∀(n i:Nat),i<n->(∀o:Oper,ops[i]?=some o->∀e∈o.after.toList,Region.binds .any e=true->S e.on) ->
  ∀p,((L5 ops.toList []).getD i 0).testBit p=true->S p
 |0,i,hi,_,p,_=>by omega
 |n+1,i,hi,Rt,p,hb=>by
  have BC:((Region.before ops).getD i 0).testBit p=true:=by
   rw[a2G] at hb;rw[Af];rw[Bw,Cp] at hb;exact hb
  obtain⟨o,ho,e,he,G9,h⟩:=(AM.a0s ops).2 i p BC;rw[Cp] at ho;have hs:=Rt o ho e he G9;rcases h with h|h
  ·subst h;exact hs
  ·have:=hE i o ho e he G9
   refine iZ hE hS n e.on (by omega) (λo' FM e' Hp BC=>hS e.on o' hs FM e' Hp BC) p ?_;rw[a2G,Bw,Cp,<-Af];exact h
inductive mi (ops:Array Oper):(Nat->Prop)->List Nat->Prop where
 |nil {D:Nat->Prop} (h:∀i,i<ops.size->D i):mi ops D []
 |cons {D:Nat->Prop} {i:Nat} {r:List Nat} (hi:i<ops.size) (hn:¬D i) (he:∀o:Oper,ops[i]?=some o->∀e∈o.after.toList,Region.binds .any e=true->D e.on) (hr:mi ops (λj=>D j\/j=i) r):mi ops D (i::r)
theorem mi.congr{D D':Nat->Prop}{r:List Nat}(h:mi ops D r)(hD:∀i,D i↔D' i):mi ops D' r:=by
 have:D=D':=funext λi=>propext (hD i)
 rw[<-this];exact h
open AM (rem fm rB) in
theorem a3r(hE:iz ops):∀(fuel t:Nat)(listed:Array Bool),listed.size=ops.size->(rem ops.size listed).length=fuel->mi ops (λi=>listed.getD i false=true) (Region.linearise.go .any ops fuel t listed [])
 |0,t,listed,hs,hl=>by
  have hr:=Ds.1 hl;refine .nil λi hi=>?_
  cases hv:listed.getD i true with
  |true =>
   rw[Af,Bj (by omega)] at hv ⊢;exact hv
  |false =>
   have:i∈rem ops.size listed:=by
    unfold rem;simp only[Cu,Cq];exact⟨hi,by rw[hv];rfl⟩
   rw[hr] at this;cases this
 |fuel+1,t,listed,hs,hl=>by
  have EO:∀i,i∈Region.ready .any ops listed↔i∈rem ops.size listed/\∀o:Oper,ops[i]?=some o->∀e∈o.after.toList,Region.binds .any e=true->listed.getD e.on false=true:=λi=>by
   unfold Region.ready rem;simp only[Cu,Cq,Ac];constructor
   ·rintro⟨h1,h2,h3⟩
    refine⟨⟨h1,h2⟩,λo ho e he hb=>?_⟩;rw[ho] at h3;simp only[Bx,Cm] at h3;rw[<-Eb] at h3
    have:=Au.1 h3 e he
    simpa[hb] using this
   ·rintro⟨⟨h1,h2⟩,h3⟩
    refine⟨h1,h2,?_⟩;rw[Bj h1];simp only[Bx,Cm];rw[<-Eb];refine Au.2 λe he=>?_
    cases hb:Region.binds .any e with
    |false=>rfl
    |true=>simpa using h3 _ (Bj h1) e he hb
  have Hl:(rem ops.size listed).Pairwise (· < ·):=(rB _).filter _
  have BA:Region.ready .any ops listed≠[]:=by
   cases hr:rem ops.size listed with
   |nil=>rw[hr] at hl;simp at hl
   |cons m rest =>
    have hm:m∈Region.ready .any ops listed:=(EO m).2 ⟨by simp[hr],λo ho e he hb=>by
     have AL:=hE m o ho e he hb;have hmn:m<ops.size:=(An.1 ho).1;cases hv:listed.getD e.on true with
     |true =>
      rw[Af,Bj (by omega)] at hv ⊢;exact hv
     |false =>
      have:e.on∈rem ops.size listed:=by
       unfold rem;simp only[Cu,Cq];exact⟨by omega,by rw[hv];rfl⟩
      rw[hr] at this Hl;rw[Bb] at Hl;rcases As.1 this with h'|h'
      ·omega
      ·have:=Hl.1 _ h';omega⟩
    intro h0;rw[h0] at hm;cases hm
  simp only[Region.linearise.go]
  change mi ops _ (match(Region.ready .any ops listed)[t%(Region.ready .any ops listed).length]? with
   |some i=>Region.linearise.go .any ops fuel (t/(Region.ready .any ops listed).length) (listed.setIfInBounds i true) [i]
   |none=>[].reverse)
  cases hi:(Region.ready .any ops listed)[t%(Region.ready .any ops listed).length]? with
  |none =>
   exfalso;rw[Dx] at hi;have CR:0<(Region.ready .any ops listed).length:=List.length_pos_iff.2 BA
   have:=Fb t CR
   omega
  |some i =>
   simp only;rw[linearise_go_acc,Gl,Al];obtain⟨IH,K8⟩:=(EO i).1 (Be hi);have Mp:=IH;unfold rem at Mp;have HI:i<ops.size:=Cq.1 (Cu.1 Mp).1;obtain⟨pre,post,Hi⟩:=List.append_of_mem IH;have fM:=fm Hi (by omega);refine .cons HI (λh=>?_) K8 ?_
   ·have h3:=(Cu.1 Mp).2
    rw[Af,Bj (by omega)] at h h3;simp only[Cm] at h h3;rw[h] at h3;cases h3
   ·refine(a3r hE fuel _ (listed.setIfInBounds i true) (by simp[hs]) ?_).congr λj=>?_
    ·rw[fM]
     rw[Hi] at hl;simp at hl ⊢;omega
    ·by_cases FD:j=i
     ·subst FD
      simp[Af,Eg,hs,HI]
     ·rw[Af,Bn (Dc FD),<-Af]
      exact⟨λh=>.inl h,λh=>h.resolve_right FD⟩
theorem a70(hm:P.follows .mixedOrders=true)(hE:iz ops)(t:Nat):mi ops (λ_=>False) (Region.schedule (P.follows .mixedOrders) ops t):=by
 rw[show Region.schedule (P.follows .mixedOrders) ops t=Region.linearise .any ops t by simp[Region.schedule,hm]]
 have vw:AM.rem ops.size (Array.replicate ops.size false)=List.range ops.size:=by
  unfold AM.rem;refine Eo.2 λk Mn=>?_
  have:=Cq.1 Mn
  simp[Af,Dp,this]
 unfold Region.linearise;refine(a3r hE ops.size t _ (by simp) (by rw[vw];simp)).congr λi=>?_
 rw[Af,Dp];constructor
 ·intro h
  split at h<;>simp at h
 ·exact λh=>h.elim
theorem zA{a b:Nat}(h:sub a b=true):∀p,a.testBit p=true->b.testBit p=true:=λp hp=>by
 have h1:a &&& b=a:=Aa h;rw[<-h1,Nat.testBit_and] at hp;rw[Ac] at hp;exact hp.2
theorem a0c:∀{os:List Oper}{bl:List Nat}{i:Nat}{f:g_},(wP P ops os bl)[i]?=some f->∃o b,os[i]?=some o/\bl[i]?=some b/\f=.mk b (j9 ops o) o.dst (LD (bU P o)||Sc o.op) (Sb (bU P o)) o.guard.isSome
 |[],bl,i,f,h=>by cases bl<;>simp[wP] at h
 |_::_,[],i,f,h=>by simp[wP] at h
 |o::os,b::bl,0,f,h=>by simp[wP] at h;exact⟨o,b,rfl,rfl,h.symm⟩
 |o::os,b::bl,i+1,f,h=>by
  obtain⟨o',b',h1,h2,h3⟩:=a0c (os:=os) (bl:=bl) (i:=i) (f:=f) (by simpa[wP] using h);exact⟨o',b',by simpa using h1,by simpa using h2,h3⟩
theorem pD(t:Nat):∀(l:List Operand)(s:Nat),(s.testBit t=true\/Operand.tmp t∈l)->(l.foldl (λs x=>match x with|.tmp t=>s ||| 2^t|_=>s) s).testBit t=true
 |[],s,h=>by simpa using h
 |x::l,s,h=>by
  simp only[Ef];refine pD t l _ ?_;rcases h with h|h
  ·cases x<;>simp[Fe,h]
  ·rcases As.1 h with rfl|h
   ·left;simp[Fe,El]
   ·exact .inr h
theorem zO{o:Oper}{t:Nat}(h:Operand.tmp t∈o.op.operands.toList):(j9 ops o).testBit t=true:=pD t _ _ (.inr h)
theorem oD{o:Oper}{j t:Nat}{b:Bool}(hg:o.guard=some (j,b))(ht:(ops[j]?).bind (·.dst)=some t):(j9 ops o).testBit t=true:=by
 unfold j9;rw[hg];refine pD t _ _ (.inl ?_);simp only[ht];simp[El]
theorem wm{w Km e:Nat}{l:List Pl}:∀{fs:List g_}{k:Nat},NU w Km e l fs k=true->∀(j:Nat)(f:g_),fs[j]?=some f->k+j≠w->(e.testBit (k+j)=false->f.bf.testBit w=true)/\(e.testBit (k+j)=true->f.r=true->Km.testBit (k+j)=true\/jL (k+j) l=true)
 |[],k,h,j,f,hf,_=>by simp at hf
 |g::fs,k,h,0,f,hf,BA=>by
  simp at hf;subst hf;simp only[NU,Ac] at h;have h1:=h.1
  split at h1
  ·rename_i hb;exact absurd (Aa hb) BA
  ·split at h1
   ·rename_i he;exact⟨λ_=>h1,(λh2=>by simp only[Ax] at h2;rw[he] at h2;cases h2)⟩
   ·rename_i he
    refine⟨(λh2=>by simp only[Ax] at h2;rw[he] at h2;cases h2),λ_ hr=>?_⟩;simp only[Ck,Cz] at h1;rcases h1 with(h1|h1)|h1
    ·rw[hr] at h1;cases h1
    ·exact .inl h1
    ·exact .inr h1
 |g::fs,k,h,j+1,f,hf,BA=>by
  simp only[NU,Ac] at h
  have:=wm h.2 j f (by simpa using hf) (by omega)
  rw[show k+1+j=k+(j+1) by omega] at this;exact this
theorem vY{t i bf:Nat}{w:Bool}:∀{fs:List g_}{k:Nat},zT t i w bf fs k=true->∀(j:Nat)(f:g_),fs[j]?=some f->(k+j=i->w=true\/f.rd.testBit t=false)/\(k+j≠i->f.dst≠some t/\(f.rd.testBit t=true->f.bf.testBit i=true\/(w=true/\bf.testBit (k+j)=true)))
 |[],k,h,j,f,hf=>by simp at hf
 |g::fs,k,h,0,f,hf=>by
  simp at hf;subst hf;simp only[zT,Ac] at h;have h1:=h.1
  split at h1
  ·rename_i hb
   have hb:=Aa hb;refine⟨λ_=>by simpa using h1,λBA=>absurd hb.symm BA⟩
  ·rename_i hb
   refine⟨λhe=>by rw[<-he] at hb;simp[Ci] at hb,λ_=>?_⟩;simp only[Ac] at h1;refine⟨λhd=>?_,λhr=>?_⟩
   ·have h2:=h1.1
    rw[hd] at h2;simp[Ci] at h2
   ·have h2:=h1.2
    simp only[Ck,Cz,hr,Ac] at h2;rcases h2 with(h2|h2)|h2
    ·cases h2
    ·exact .inl h2
    ·exact .inr h2
 |g::fs,k,h,j+1,f,hf=>by
  simp only[zT,Ac] at h
  have:=vY h.2 j f (by simpa using hf)
  rw[show k+1+j=k+(j+1) by omega] at this;exact this
theorem yH{all:List g_}:∀{fs:List g_}{k:Nat},bc all fs k=true->∀(i:Nat)(f:g_) t,fs[i]?=some f->f.dst=some t->zT t (k+i) f.w f.bf all 0=true
 |[],k,h,i,f,t,hf,_=>by simp at hf
 |g::fs,k,h,0,f,t,hf,hd=>by
  simp at hf;subst hf;simp only[bc,Ac] at h;have h1:=h.1;rw[hd] at h1;exact h1
 |g::fs,k,h,i+1,f,t,hf,hd=>by
  simp only[bc,Ac] at h
  have:=yH h.2 i f t (by simpa using hf) hd
  rw[show k+1+i=k+(i+1) by omega] at this;exact this
theorem a3Q:∀{os:List Oper}{k:Nat},vZ os k=true->∀(i:Nat)(o:Oper),os[i]?=some o->∀e∈o.after.toList,Region.binds .any e=true->e.on<k+i
 |[],k,h,i,o,ho,_,_,_=>by simp at ho
 |p::os,k,h,0,o,ho,e,he,hb=>by
  simp at ho;subst ho;simp only[vZ,Ac] at h
  have:=Au.1 h.1 e he
  simp only[hb,Ey,Bool.false_or] at this;exact dR this
 |p::os,k,h,i+1,o,ho,e,he,hb=>by
  simp only[vZ,Ac] at h
  have:=a3Q h.2 i o (by simpa using ho) e he hb
  omega
end
section
open Go.AM (c9 eY)
variable {P:Program}{w0:cL}{w:World}{J:ak}{h:T O}{nx:Q}{tm:T V}{tmps:Array Value}{r v:V}{ops:Array Oper}{n:Nat}
theorem eO{o:Oper}{d:Option Q}{g:Option (Q×Bool)}{b:OB}(hc:fR P n ops o=.mk d g b)(hb:CO.mk d g b≠fA) :
  b=bU P o/\d=o.dst.map qn/\(∀x,o.dst=some x->x<n)/\((o.guard=none/\g=none)\/∃j want t,o.guard=some (j,want)/\(ops[j]?).bind (·.dst)=some t/\g=some (qn t,want)/\t<n):=by
 have bad:fA=.mk d g b->CO.mk d g b=fA:=λe=>e.symm
 unfold fR Ze at hc;cases hd:o.dst with
 |none =>
  simp only[hd] at hc;cases hg:o.guard with
  |none=>simp only[hg] at hc;cases hc;exact⟨rfl,rfl,λx hx=>(by cases hx),.inl ⟨rfl,rfl⟩⟩
  |some jw =>
   obtain⟨j,want⟩:=jw;simp only[hg] at hc
   split at hc
   ·exact absurd (bad hc) hb
   ·rename_i t ht
    split at hc
    ·rename_i AL;cases hc;exact⟨rfl,rfl,λx hx=>(by cases hx),.inr ⟨j,want,t,rfl,ht,rfl,dR AL⟩⟩
    ·exact absurd (bad hc) hb
 |some x =>
  simp only[hd] at hc;cases AL:Nat.blt x n with
  |false=>simp only[AL] at hc;exact absurd (bad hc) hb
  |true =>
   simp only[AL] at hc;have hx:∀y,some x=some y->y<n:=λy hy=>by cases hy;exact dR AL
   cases hg:o.guard with
   |none=>simp only[hg] at hc;cases hc;exact⟨rfl,rfl,hx,.inl ⟨rfl,rfl⟩⟩
   |some jw =>
    obtain⟨j,want⟩:=jw;simp only[hg] at hc
    split at hc
    ·exact absurd (bad hc) hb
    ·rename_i t ht
     split at hc
     ·rename_i AL;cases hc;exact⟨rfl,rfl,hx,.inr ⟨j,want,t,rfl,ht,rfl,dR AL⟩⟩
     ·exact absurd (bad hc) hb
theorem Nx{d:Option Q}{g:Option (Q×Bool)}{b:OB}(hb:b≠.p .bad):CO.mk d g b≠fA:=λe=>by unfold fA at e;cases e;exact hb rfl
def gJ(g:Option (Q×Bool))(tm:T V):Option Bool :=
 match g with
 |none=>some true
 |some (q,want)=>match tm.get V.undef q with
  |.bool t=>some (t==want)
  |.aj []=>some false
  |_=>none
theorem sS{o:Oper}{g:Option (Q×Bool)}{b:Bool}(hg:(o.guard=none/\g=none)\/∃j want t,o.guard=some (j,want)/\(ops[j]?).bind (·.dst)=some t/\g=some (qn t,want)/\t<n)(hn:n<=tmps.size)
  (hT:∀j want t,o.guard=some (j,want)->(ops[j]?).bind (·.dst)=some t->VR J (tm.at t) (tmps.getD t Go.undef)) (hp:gJ g tm=some b):Region.wanted o (yielded ops tmps)=b:=by
 unfold Region.wanted;rcases hg with⟨h1,rfl⟩|⟨j,want,t,h1,h2,rfl,h3⟩
 ·rw[h1];simp[gJ] at hp;simp[hp]
 ·rw[h1]
  have hv:=hT j want t h1 h2;have AL:t<tmps.size:=Bt h3 hn
  have hy:∀u,tmps.getD t Go.undef=u->yielded ops tmps j=(match u with|.bool b=>some b|_=>none):=λu hu=>by
   unfold yielded;rw[h2];simp only[Ar,Bj AL]
   have:tmps[t]=u:=by rw[<-hu,Af,Bj AL];rfl
   rw[this];cases u<;>rfl
  show(yielded ops tmps j==some want)=b;simp only[gJ] at hp
  split at hp
  ·rename_i tt Tu
   rw[show tm.at t=.bool tt from Tu] at hv;rw[hy _ hv.od];simp at hp;rw[<-hp];cases tt<;>cases want<;>rfl
  ·rename_i Tu
   rw[show tm.at t=.aj [] from Tu] at hv;obtain⟨vs,HE,_⟩:=hv.xj;rw[hy _ HE];simp at hp;simp[<-hp]
  ·cases hp
theorem eF{tmps:Array Value}{x:Nat}{u:Value}(hx:x<tmps.size)(t:Nat):(tmps.setIfInBounds x u).getD t Go.undef=if x=t then u else tmps.getD t Go.undef:=by
 rw[Af,Array.getElem?_setIfInBounds];split
 ·simp[hx, *]
 ·rw[Af]
theorem aLt(tm:T V)(v:V)(x t:Nat):(tm.put V.undef v (qn x)).at t=if x=t then v else tm.at t:=by
 rw[T.at,T.q0];by_cases hx:x=t
 ·subst hx;simp
 ·rw[Bf (λe=>hx (zF e)),Bf hx]
structure SC (P:Program) (ops:Array Oper):Prop where
 len:(y2 P ops).length=ops.size
 uc:iz ops
 tmp:bc (y2 P ops) (y2 P ops) 0=true
theorem SC.inf(hS:SC P ops){i:Nat}{o:Oper}(ho:ops[i]?=some o):(y2 P ops)[i]?=some (.mk ((L5 ops.toList []).getD i 0) (j9 ops o) o.dst (LD (bU P o)||Sc o.op) (Sb (bU P o)) o.guard.isSome):=by
 have AL:i<(y2 P ops).length:=by rw[hS.len];exact(An.1 ho).1
 obtain⟨o',b,h1,h2,h3⟩:=a0c (P:=P) (ops:=ops) (os:=ops.toList) (bl:=L5 ops.toList []) (i:=i) (f:=(y2 P ops)[i]) (show(y2 P ops)[i]?=some _ from Bv AL);rw[Cp,ho] at h1;cases h1;rw[Bv AL,h3,Bw,h2];rfl
abbrev rv(ops:Array Oper)(i:Nat):Nat:=(L5 ops.toList []).getD i 0
abbrev JS(P:Program)(o:Oper):Bool:=LD (bU P o)||Sc o.op
theorem SC.reads(hS:SC P ops){i j:Nat}{o p:Oper}{t:Nat}(hi:ops[i]?=some o)(hj:ops[j]?=some p)(hd:o.dst=some t)(hr:(j9 ops p).testBit t=true)(hw:j=i->JS P o=false) :
  j≠i/\((rv ops j).testBit i=true\/(JS P o=true/\(rv ops i).testBit j=true)):=by
 have h1:=yH hS.tmp i _ t (hS.inf hi) hd;rw[Bs] at h1;have h2:=vY h1 j _ (hS.inf hj);simp only[Bs] at h2
 have BA:j≠i:=λe=>by
  subst e;rw[hi] at hj;cases hj;rcases h2.1 rfl with h3|h3
  ·have h4:JS P o=true:=h3
   rw[hw rfl] at h4;cases h4
  ·simp only[g_.rd] at h3
   rw[h3] at hr;cases hr
 exact⟨BA,(h2.2 BA).2 hr⟩
theorem SC.a0D(hS:SC P ops){i j:Nat}{o p:Oper}{t:Nat}(hi:ops[i]?=some o)(hj:ops[j]?=some p)(hd:o.dst=some t)(BA:j≠i):p.dst≠some t:=by
 have h1:=yH hS.tmp i _ t (hS.inf hi) hd;rw[Bs] at h1;have h2:=vY h1 j _ (hS.inf hj);simp only[Bs] at h2;exact(h2.2 BA).1
structure Pnd (P:Program) (n:Nat) (ops:Array Oper) (J:ak) (h:T O) (β:Nat) (nx:Q) (tm:T V) (pl:List Pl) (qf:Nat->Option Q) (i:Nat) (o:Oper):Prop where
 now:JS P o=false
 ev:∃(d:Option Q)(g:Option (Q×Bool))(b:OB),fR P n ops o=.mk d g b/\CO.mk d g b≠fA/\∃EI:T V,(∀t,(j9 ops o).testBit t=true->EI.at t=tm.at t) /\
  ((gJ g EI=some false/\∀x,o.dst=some x->tm.at x=V.undef)\/(gJ g EI=some true /\
    ((∃pb v,b=.p pb/\(∀x,o.dst=some x->tm.at x=v)/\((Ra pb=true/\jL i pl=true)\/pK pb EI h .ok=.ok v)) \/
     (∃ab ob mk q,b=.a ab/\AE ab EI ob mk/\qf i=some q/\J q=none/\h.ob q=ob/\β<=q.nat/\q.nat < nx.nat/\∀x,o.dst=some x->tm.at x=mk q))))
structure LZ (P:Program) (n:Nat) (ops:Array Oper) (J:ak) (h:T O) (β:Nat) (nx:Q) (tm:T V) (tmps:Array Value) (pl:List Pl) (E:Nat) (r:List Nat) (qf:Nat->Option Q):Prop where
 sc:SC P ops
 size:n<=tmps.size
 ck:jR (y2 P ops) pl E=true
 ord:mi ops (λi=>i<ops.size/\i∉r) r
 nd:r.Nodup
 lt:∀i∈r,i<ops.size
 cl:bo ops (λi=>i<ops.size/\i∉r)
 sub:∀i,i<ops.size->i∉r->E.testBit i=true
 tf:∀i,i<ops.size->E.testBit i=true->∀p,(rv ops i).testBit p=true->E.testBit p=true
 inj:∀i∈r,∀j∈r,E.testBit i=true->E.testBit j=true->∀q,qf i=some q->qf j=some q->i=j
 ql:∀i∈r,E.testBit i=true->∀q,qf i=some q->q.nat < nx.nat
 pend:∀i∈r,E.testBit i=true->∀o,ops[i]?=some o->Pnd P n ops J h β nx tm pl qf i o
 dv:∀t,(∀i∈r,E.testBit i=true->∀o,ops[i]?=some o->o.dst≠some t)->VR J (tm.at t) (tmps.getD t Go.undef)
theorem LZ.before{β:Nat}{pl:List Pl}{E i:Nat}{r:List Nat}{qf:Nat->Option Q}(L:LZ P n ops J h β nx tm tmps pl E (i::r) qf){p:Nat}(hp:(rv ops i).testBit p=true):p∉i::r:=by
 cases L.ord with
 |cons hi hn he hr=>exact(iZ L.sc.uc L.cl (i+1) i (by omega) he p hp).2
theorem LZ.reads{β:Nat}{pl:List Pl}{E i:Nat}{r:List Nat}{qf:Nat->Option Q}(L:LZ P n ops J h β nx tm tmps pl E (i::r) qf){o:Oper}(ho:ops[i]?=some o){t:Nat}(ht:(j9 ops o).testBit t=true)(hw:JS P o=true->E.testBit i=false):VR J (tm.at t) (tmps.getD t Go.undef):=by
 refine L.dv t λj hj hE p hp hd=>?_
 have Hl:=(L.pend j hj hE p hp).now;obtain⟨BA,h1⟩:=L.sc.reads hp ho hd ht (λ_=>Hl);rcases h1 with h1|⟨h1,_⟩
 ·exact L.before h1 hj
 ·rw[Hl] at h1;cases h1
end
section
open Go.AM (c9 eY)
variable {P:Program}{w0:cL}{w:World}{J J':ak}{h:T O}{nx:Q}{tm:T V}{tmps:Array Value}{ds:List Deferred}{v:V}{ops:Array Oper}{n β E:Nat}{pl:List Pl}{r:List Nat}{qf:Nat->Option Q}
def oK(tmps:Array Value)(d:Option Nat)(u:Value):Array Value :=
 match d with
 |some x=>tmps.setIfInBounds x u
 |none=>tmps
theorem put_eq(d:Option Nat)(u:Value):(⟨tmps,ds⟩:Act).put d u=⟨oK tmps d u,ds⟩:=by cases d<;>rfl
theorem sK(d:Option Nat)(u:Value):(oK tmps d u).size=tmps.size:=by cases d<;>simp[oK]
theorem xY{d:Option Nat}{u:Value}(hd:∀x,d=some x->x<tmps.size)(t:Nat):(oK tmps d u).getD t Go.undef=if d=some t then u else tmps.getD t Go.undef:=by
 cases d with
 |none=>simp[oK]
 |some x =>
  simp only[oK,eF (hd x rfl),Am]
theorem AE.uniq{b:AB}{ob Oj:O}{mk mk':Q->V}(h1:AE b tm ob mk)(h2:AE b tm Oj mk'):ob=Oj/\mk=mk':=by
 constructor
 ·have a1:=h1 λob _=>.fuel .e false none [] .nil .nil [] (N5.mk ob uI uI uI uI:N5 O (T9 O)) .e
  have a2:=h2 λob _=>.fuel .e false none [] .nil .nil [] (N5.mk ob uI uI uI uI:N5 O (T9 O)) .e
  rw[a1] at a2;injection a2 with _ _ _ _ _ _ _ hh _;exact Dd (λt:T O=>T.get O.dead t .e) hh
 ·funext q
  have a1:=h1 λ_ mk=>.ok (mk q)
  have a2:=h2 λ_ mk=>.ok (mk q)
  rw[a1] at a2;simpa using a2
theorem a2V{o:Oper}{pb:PB}{k:V->aa}{r:V}(hb:bU P o=.p pb)(he:pK pb tm h k=.ok r):∀c,o.op≠.defer c:=λc hc=>by
 obtain⟨dst,op,ty,pos,AK,BE⟩:=o;simp only at hc;subst hc;simp only[bU] at hb
 split at hb<;>cases hb
 cases he
theorem a2U{o:Oper}{ab:AB}(hb:bU P o=.a ab):∀c,o.op≠.defer c:=λc hc=>by
 obtain⟨dst,op,ty,pos,AK,BE⟩:=o;simp only at hc;subst hc;simp only[bU] at hb
 split at hb<;>cases hb
theorem a2W{o:Oper}{wb:WB}(hb:bU P o=.w wb):∀c,o.op≠.defer c:=λc hc=>by
 obtain⟨dst,op,ty,pos,AK,BE⟩:=o;simp only at hc;subst hc;simp only[bU] at hb
 split at hb<;>cases hb
theorem LZ.mem_iff{i:Nat}(L:LZ P n ops J h β nx tm tmps pl E (i::r) qf)(j:Nat):(j<ops.size/\j∉r)↔((j<ops.size/\j∉i::r)\/j=i):=by
 have hi:=L.lt i (by simp);have G6:=(Ed.1 L.nd).1;constructor
 ·rintro⟨h1,h2⟩
  by_cases hj:j=i
  ·exact .inr hj
  ·exact .inl ⟨h1,by simp[hj,h2]⟩
 ·rintro(⟨h1,h2⟩|rfl)
  ·exact⟨h1,λh=>h2 (by simp[h])⟩
  ·exact⟨hi,G6⟩
theorem LZ.a1Z{i:Nat}(L:LZ P n ops J h β nx tm tmps pl E (i::r) qf):mi ops (λj=>j<ops.size/\j∉r) r/\bo ops (λj=>j<ops.size/\j∉r):=by
 have hm:=L.mem_iff;cases L.ord with
 |cons hi hn he hr =>
  refine⟨hr.congr λj=>(hm j).symm,λj o hj ho e Hp hb=>?_⟩;rcases(hm j).1 hj with h1|rfl
  ·exact(hm _).2 (.inl (L.cl j o h1 ho e Hp hb))
  ·exact(hm _).2 (.inl (he o ho e Hp hb))
theorem LZ.pop{i:Nat}{o:Oper}{u:Value}(L:LZ P n ops J h β nx tm tmps pl E (i::r) qf)(hE:E.testBit i=true)(ho:ops[i]?=some o)(hρ:J.le J')(hq:∀j∈r,E.testBit j=true->∀q,qf j=some q->J q=none->J' q=none)(hx:∀x,o.dst=some x->VR J' (tm.at x) u/\x<n) :
  LZ P n ops J' h β nx tm (oK tmps o.dst u) pl E r qf:=by
 obtain⟨h1,h2⟩:=L.a1Z;refine⟨L.sc,by rw[sK];exact L.size,L.ck,h1,(Ed.1 L.nd).2,λj hj=>L.lt j (by simp[hj]),h2,λj hj PT=>?_,L.tf,λa ha b hb=>L.inj a (by simp[ha]) b (by simp[hb]),λa ha=>L.ql a (by simp[ha]),λj hj DY p hp=>?_,λt ht=>?_⟩
 ·by_cases FD:j=i
  ·subst FD;exact hE
  ·exact L.sub j hj (by simp[FD,PT])
 ·obtain⟨p1,d,g,b,p2,p3,EI,p4,p5⟩:=L.pend j (by simp[hj]) DY p hp
  refine⟨p1,d,g,b,p2,p3,EI,p4,?_⟩;rcases p5 with p5|⟨p5,p6⟩
  ·exact .inl p5
  ·refine .inr ⟨p5,?_⟩
   rcases p6 with p6|⟨ab,ob,mk,q,q1,q2,qs,q3,q4⟩
   ·exact .inl p6
   ·exact .inr ⟨ab,ob,mk,q,q1,q2,qs,hq j hj DY q qs q3,q4⟩
 ·rw[xY (λx hd=>Bt (hx x hd).2 L.size)]
  split
  ·rename_i hd;exact(hx t hd).1
  ·rename_i hd
   refine(L.dv t λj hj DY p hp=>?_).mono hρ;rcases As.1 hj with rfl|hj
   ·rw[ho] at hp;cases hp;exact hd
   ·exact ht j hj DY p hp
theorem LZ.a5q{i:Nat}(L:LZ P n ops J h β nx tm tmps pl E (i::r) qf)(hE:E.testBit i=true)(HV:jL i pl=false)(H:HR P w0 J h nx w)(b:Frame)(items:List Item)(cs:List Frame) :
  ∃w' J' tmps',Steps P (lone (b.atR ⟨tmps,ds⟩ (.inRegion ops (i::r)::items)) cs w) (lone (b.atR ⟨tmps',ds⟩ (.inRegion ops r::items)) cs w')/\HR P w0 J' h nx w'/\ec β J h J' h/\LZ P n ops J' h β nx tm tmps' pl E r qf:=by
 have hi:=L.lt i (by simp);obtain⟨o,ho⟩:∃o,ops[i]?=some o:=⟨ops[i],by simp[hi]⟩
 obtain⟨hw,d,g,ob,hc,hb,EI,fc,GD⟩:=L.pend i (by simp) hE o ho;obtain⟨IJ,hd,hx,hg⟩:=eO hc hb
 have Lu:∀t,(j9 ops o).testBit t=true->VR J (EI.at t) (tmps.getD t Go.undef):=λt ht=>by
  rw[fc t ht];exact L.reads ho ht (λh=>by rw[hw] at h;cases h)
 have hT:XR J EI tmps o.op.operands.toList:=λt ht=>Lu t (zO ht)
 have CE:∀bb,gJ g EI=some bb->Region.wanted o (yielded ops tmps)=bb:=λbb hp=>sS hg L.size (λj want t h1 h2=>Lu t (oD h1 h2)) hp
 rcases GD with⟨h1,h2⟩|⟨h1,h2⟩
 ·refine⟨w,J,oK tmps o.dst Go.undef,Steps.one ?_,H,ec.refl _ _ _,L.pop hE ho (ak.le_refl _) (λ_ _ _ _ _ h=>h) λx HM=>⟨by rw[h2 x HM];exact VR.undef,hx x HM⟩⟩
  rw[<-put_eq,show o.dst=(ops[i]?).bind (·.dst) by rw[ho];rfl];exact stepR_op_skip (by rw[ho];simp[CE false h1])
 ·rcases h2 with⟨pb,v,rfl,hv,h3⟩|⟨ab,oo,mk,a2f,rfl,hA,hqs,I0,Ju,Ri,hq4,hq5⟩
  ·have h3:=h3.resolve_left (λh=>by rw[HV] at h;cases h.2)
   obtain⟨v',HF,u,hu,huv⟩:=zC (ds:=ds) H IJ.symm hT h3;have hvv:v'=v:=by simpa using HF
   subst hvv;refine⟨w,J,oK tmps o.dst u,Steps.one ?_,H,ec.refl _ _ _,L.pop hE ho (ak.le_refl _) (λ_ _ _ _ _ h=>h) λx HM=>⟨by rw[hv x HM];exact huv,hx x HM⟩⟩;rw[<-put_eq];exact c9 ho (CE true h1) (a2V IJ.symm h3) hu
  ·obtain⟨Oj,mk',a1,_,a3⟩:=yj (ds:=ds) (k:=λ_ _=>.ok V.undef) (r:=V.undef) H IJ.symm hT (by rw[hA])
   obtain⟨rfl,rfl⟩:=a1.uniq hA;obtain⟨x,N,u,a4,a5⟩:=a3.run;obtain⟨a6,a7⟩:=a5 a2f I0;have hle:=ak.mz (b:=w.heap.size) (N:=N) I0;refine⟨w.alloc x,J.set a2f w.heap.size N,oK tmps o.dst u,Steps.one ?_,H.born I0 hq4 (by rw[Ju];exact a6),⟨hle,λq AL hn=>⟨?_,rfl⟩⟩,L.pop hE ho hle (λj hj DY q hqj hn=>?_) λy YA=>⟨by rw[hq5 y YA];exact a7,hx y YA⟩⟩
   ·rw[<-put_eq]
    exact c9 ho (CE true h1) (a2U IJ.symm) a4
   ·unfold ak.set
    rw[Bf (λe=>by subst e;omega)];exact hn
   ·unfold ak.set
    rw[Bf (λe=>?_)];exact hn;subst e;have FD:=L.inj j (by simp[hj]) i (by simp) DY hE _ hqj hqs;subst FD;exact(Ed.1 L.nd).1 hj
theorem LZ.v_(b:Frame)(items:List Item)(cs:List Frame):∀{r1 r2:List Nat}{w:World}{J:ak}{tmps:Array Value},LZ P n ops J h β nx tm tmps pl E (r1++r2) qf->(∀i∈r1,E.testBit i=true/\jL i pl=false)->HR P w0 J h nx w ->
  ∃w' J' tmps',Steps P (lone (b.atR ⟨tmps,ds⟩ (.inRegion ops (r1++r2)::items)) cs w) (lone (b.atR ⟨tmps',ds⟩ (.inRegion ops r2::items)) cs w')/\HR P w0 J' h nx w'/\ec β J h J' h/\LZ P n ops J' h β nx tm tmps' pl E r2 qf
 |[],r2,w,J,tmps,L,_,H=>⟨w,J,tmps,Steps.refl _ _,H,ec.refl _ _ _,L⟩
 |i::r1,r2,w,J,tmps,L,hp,H=>by
  obtain⟨w1,J1,BF,s1,H1,k1,a4i⟩:=LZ.a5q (ds:=ds) (r:=r1++r2) L (hp i (by simp)).1 (hp i (by simp)).2 H b items cs;obtain⟨w2,J2,CC,s2,H2,k2,a4j⟩:=LZ.v_ b items cs a4i (λj hj=>hp j (by simp[hj])) H1;exact⟨w2,J2,CC,s1.trans s2,H2,k1.trans k2,a4j⟩
end
section
variable {P:Program}{w0:cL}{w:World}{J J':ak}{h h':T O}{nx nx':Q}{tm:T V}{tmps:Array Value}{ds:List Deferred}{v:V}{ops:Array Oper}{n β E:Nat}{pl:List Pl}{r:List Nat}{qf:Nat->Option Q}
def uJ(tm:T V)(d:Option Nat)(v:V):T V :=
 match d with
 |some x=>tm.put V.undef v (qn x)
 |none=>tm
theorem gE(tm:T V)(d:Option Nat)(v:V)(t:Nat):(uJ tm d v).at t=if d=some t then v else tm.at t:=by
 cases d with
 |none=>simp[uJ]
 |some x=>simp only[uJ,aLt,Am]
theorem eU(d:Option Nat)(v:V)(tm:T V)(k:T V->aa):qV (d.map qn) v tm k=k (uJ tm d v):=by
 cases d with
 |none=>rfl
 |some x=>simp only[Bx,qV,zr,uJ]
theorem fY{E i j:Nat}:(E ||| 2^i).testBit j=true↔E.testBit j=true\/j=i:=by
 rw[Fe,El,Ck,Cj];exact⟨λh=>h.imp id Eq.symm,λh=>h.imp id Eq.symm⟩
theorem fQ{E i j:Nat}(h:E.testBit j=true):(E ||| 2^i).testBit j=true:=fY.2 (.inl h)
theorem vV{fs:List g_}{i:Nat}{l:List Pl}(h:jR fs (.run i::l) E=true):∃f,fs[i]?=some f/\E.testBit i=false/\sub f.bf E=true/\(f.w=true->NU i f.bf E l fs 0=true)/\jR fs l (E ||| 2^i)=true:=by
 simp only[jR] at h
 split at h
 ·cases h
 ·rename_i f hf
  simp only[Ac,Cz,Ck] at h;exact⟨f,hf,h.1.1.1,h.1.1.2,λhw=>h.1.2.resolve_left (λh'=>by rw[hw] at h';cases h'),h.2⟩
theorem aLZ{fs:List g_}{i:Nat}{l:List Pl}(h:jR fs (.lu i::l) E=true):jR fs l E=true:=by
 simp only[jR] at h
 split at h
 ·cases h
 ·simp only[Ac] at h;exact h.2
theorem a6o{o:Oper}{g:Option (Q×Bool)}{tm EI:T V}(hg:(o.guard=none/\g=none)\/∃j want t,o.guard=some (j,want)/\(ops[j]?).bind (·.dst)=some t/\g=some (qn t,want)/\t<n)
  (fc:∀t,(j9 ops o).testBit t=true->EI.at t=tm.at t):gJ g EI=gJ g tm:=by
 rcases hg with⟨_,rfl⟩|⟨j,want,t,h1,h2,rfl,_⟩
 ·rfl
 ·have:=fc t (oD h1 h2)
  simp only[gJ];rw[show EI.get V.undef (qn t)=tm.get V.undef (qn t) from this]
theorem LZ.lu{i:Nat}(L:LZ P n ops J h β nx tm tmps (.lu i::pl) E r qf)
  (hc:∀o d g pb,ops[i]?=some o->fR P n ops o=.mk d g (.p pb)->gJ g tm=some true->∃x,o.dst=some x/\pK pb tm h .ok=.ok (tm.at x)):LZ P n ops J h β nx tm tmps pl E r qf:=by
 refine⟨L.sc,L.size,aLZ L.ck,L.ord,L.nd,L.lt,L.cl,L.sub,L.tf,L.inj,L.ql,λj hj hE o ho=>?_,L.dv⟩;obtain⟨p1,d,g,b,p2,p3,EI,p4,p5⟩:=L.pend j hj hE o ho;rcases p5 with p5|⟨p5,p6⟩
 ·exact⟨p1,d,g,b,p2,p3,EI,p4,.inl p5⟩
 ·rcases p6 with⟨pb,v,rfl,q1,q2⟩|p6
  ·rcases q2 with⟨q2,q3⟩|q2
   ·simp only[jL] at q3
    split at q3
    ·rename_i hb
     have FD:=Aa hb;subst FD;obtain⟨_,_,_,hg⟩:=eO p2 p3;have hgp:gJ g tm=some true:=by rw[<-a6o hg p4];exact p5
     obtain⟨x,hx,GD⟩:=hc o d g pb ho p2 hgp;exact⟨p1,d,g,_,p2,p3,tm,λt _=>rfl,.inr ⟨hgp,.inl ⟨pb,tm.at x,rfl,λy hy=>by rw[hx] at hy;cases hy;rfl,.inr GD⟩⟩⟩
    ·exact⟨p1,d,g,_,p2,p3,EI,p4,.inr ⟨p5,.inl ⟨pb,v,rfl,q1,.inl ⟨q2,q3⟩⟩⟩⟩
   ·exact⟨p1,d,g,_,p2,p3,EI,p4,.inr ⟨p5,.inl ⟨pb,v,rfl,q1,.inr q2⟩⟩⟩
  ·exact⟨p1,d,g,b,p2,p3,EI,p4,.inr ⟨p5,.inr p6⟩⟩
theorem LZ.eager{i:Nat}{o:Oper}(L:LZ P n ops J h β nx tm tmps (.run i::pl) E r qf)(ho:ops[i]?=some o)(hw:JS P o=false){v:V}{qf':Nat->Option Q}(LK:nx.nat<=nx'.nat)
  (hh:∀q,q.nat < nx.nat->h'.ob q=h.ob q) (F3:h'=h\/∀pb,bU P o≠.p pb) (PE:∀j,j≠i->qf' j=qf j)
  (Mq:∀q,qf' i=some q->q.nat < nx'.nat/\∀j∈r,E.testBit j=true->qf j≠some q)
  (hP:∃(d:Option Q)(g:Option (Q×Bool))(b:OB),fR P n ops o=.mk d g b/\CO.mk d g b≠fA/\((gJ g tm=some false/\v=V.undef)\/(gJ g tm=some true /\
   ((∃pb,b=.p pb/\pK pb tm h' .ok=.ok v)\/(∃ab ob mk q,b=.a ab/\AE ab tm ob mk/\qf' i=some q/\J q=none/\h'.ob q=ob/\β<=q.nat/\q.nat < nx'.nat/\v=mk q)))))
  (hpk:∀j∈r,E.testBit j=true->∀pb EI v',pK pb EI h .ok=.ok v'->(∃p,ops[j]?=some p/\bU P p=.p pb)->pK pb EI h' .ok=.ok v') :
  LZ P n ops J h' β nx' (uJ tm o.dst v) tmps pl (E ||| 2^i) r qf':=by
 obtain⟨f,hf,MJ,Jr,_,HV⟩:=vV L.ck;have BD:i<ops.size:=(An.1 ho).1;have ME:=L.sc.inf ho;rw[hf] at ME;have K9:=Bp ME;have Ua:∀p,(rv ops i).testBit p=true->E.testBit p=true:=λp hp=>zA Jr p (by rw[K9];exact hp)
 have IH:i∈r:=by
  by_cases IH:i∈r
  ·exact IH
  ·have:=L.sub i BD IH;rw[MJ] at this;cases this
 have HP:∀j p t,j∈r->E.testBit j=true->ops[j]?=some p->(j9 ops p).testBit t=true->o.dst≠some t:=λj p t hj DY hp fc hd=>by
  obtain⟨BA,h1⟩:=L.sc.reads ho hp hd fc (λe=>by subst e;rw[MJ] at DY;cases DY);rcases h1 with h1|⟨h1,_⟩
  ·have:=L.tf j (L.lt j hj) DY i h1
   rw[MJ] at this;cases this
  ·rw[hw] at h1;cases h1
 refine⟨L.sc,L.size,HV,L.ord,L.nd,L.lt,L.cl,λj hj PT=>fQ (L.sub j hj PT),λj hj DY p hp=>?_,λa ha b hb ND SA q It HG=>?_,λa ha ND q It=>?_,λj hj DY p hp=>?_,λt ht=>?_⟩
 ·rcases fY.1 DY with DY|rfl
  ·exact fQ (L.tf j hj DY p hp)
  ·exact fQ (Ua p hp)
 ·by_cases sk:a=i
  ·subst sk
   by_cases Ix:b=a
   ·exact Ix.symm
   ·have NC:=(fY.1 SA).resolve_right Ix
    rw[PE b Ix] at HG;exact absurd HG ((Mq q It).2 b hb NC)
  ·have P8:=(fY.1 ND).resolve_right sk
   rw[PE a sk] at It;by_cases Ix:b=i
   ·subst Ix
    exact absurd It ((Mq q HG).2 a ha P8)
   ·have NC:=(fY.1 SA).resolve_right Ix
    rw[PE b Ix] at HG;exact L.inj a ha b hb P8 NC q It HG
 ·by_cases sk:a=i
  ·subst sk;exact(Mq q It).1
  ·rw[PE a sk] at It
   exact Bt (L.ql a ha ((fY.1 ND).resolve_right sk) q It) LK
 ·by_cases FD:j=i
  ·subst FD
   rw[ho] at hp;cases hp;obtain⟨d,g,b,p2,p3,p5⟩:=hP;refine⟨hw,d,g,b,p2,p3,tm,λt ht=>?_,?_⟩
   ·rw[gE,Bf (λhd=>?_)]
    have:=(L.sc.reads ho ho hd ht (λ_=>hw)).1
    exact this rfl
   ·rcases p5 with⟨a1,a2⟩|⟨a1,a2⟩
    ·exact .inl ⟨a1,λx hx=>by rw[gE,Br hx];exact a2⟩
    ·refine .inr ⟨a1,?_⟩
     rcases a2 with⟨pb,rfl,a3⟩|⟨ab,ob,mk,q,rfl,a3,as,a4,a5,a6,a7,a8⟩
     ·exact .inl ⟨pb,v,rfl,λx hx=>by rw[gE,Br hx],.inr a3⟩
     ·exact .inr ⟨ab,ob,mk,q,rfl,a3,as,a4,a5,a6,a7,λx hx=>by rw[gE,Br hx];exact a8⟩
  ·have I6:=(fY.1 DY).resolve_right FD
   obtain⟨p1,d,g,b,p2,p3,EI,p4,p5⟩:=L.pend j hj I6 p hp
   have GV:∀x,p.dst=some x->(uJ tm o.dst v).at x=tm.at x:=λx hx=>by
    rw[gE,Bf (λhd=>L.sc.a0D ho hp hd FD hx)]
   refine⟨p1,d,g,b,p2,p3,EI,λt ht=>?_,?_⟩
   ·rw[p4 t ht,gE,Bf (HP j p t hj I6 hp ht)]
   ·rcases p5 with⟨a1,a2⟩|⟨a1,a2⟩
    ·exact .inl ⟨a1,λx hx=>by rw[GV x hx];exact a2 x hx⟩
    ·refine .inr ⟨a1,?_⟩
     rcases a2 with⟨pb,v',rfl,a3,a4⟩|⟨ab,ob,mk,q,rfl,a3,as,a4,a5,a6,a7,a8⟩
     ·refine .inl ⟨pb,v',rfl,λx hx=>by rw[GV x hx];exact a3 x hx,?_⟩
      rcases a4 with⟨a4,a5⟩|a4
      ·exact absurd a5 (by simp[jL])
      ·exact .inr (hpk j hj I6 pb EI v' a4 ⟨p,hp,((eO p2 p3).1).symm⟩)
     ·rw[<-PE j FD] at as
      exact .inr ⟨ab,ob,mk,q,rfl,a3,as,a4,by rw[hh _ a7];exact a5,a6,Bt a7 LK,λx hx=>by rw[GV x hx];exact a8 x hx⟩
 ·have HN:o.dst≠some t:=ht i IH (fY.2 (.inr rfl)) o ho
  rw[gE,Bf HN];exact L.dv t λj hj DY p hp=>ht j hj (fQ DY) p hp
theorem LZ.sync{i:Nat}{o:Oper}{u:Value}(L:LZ P n ops J h β nx tm tmps (.run i::pl) E (i::r) qf)(ho:ops[i]?=some o)(hw:JS P o=true){v:V}(hx:∀x,o.dst=some x->x<n)(LK:nx.nat<=nx'.nat)(hK:ec nx.nat J h J' h')(hv:VR J' v u) :
  LZ P n ops J' h' β nx' (uJ tm o.dst v) (oK tmps o.dst u) pl (E ||| 2^i) r qf:=by
 obtain⟨f,hf,MJ,Jr,M5,HV⟩:=vV L.ck;have ME:=L.sc.inf ho;rw[hf] at ME;have K9:=Bp ME;have Ua:∀p,(rv ops i).testBit p=true->E.testBit p=true:=λp hp=>zA Jr p (by rw[K9];exact hp)
 have Re:=wm (M5 (by rw[K9];exact hw));obtain⟨g1,g2⟩:=L.a1Z;have BA:∀j∈r,j≠i:=λj hj e=>by subst e;exact(Ed.1 L.nd).1 hj
 have Iy:∀j∈r,(rv ops i).testBit j=true->False:=λj hj hb=>L.before hb (by simp[hj])
 have HP:∀j p t,j∈r->E.testBit j=true->ops[j]?=some p->(j9 ops p).testBit t=true->o.dst≠some t:=λj p t hj DY hp fc hd=>by
  obtain⟨_,h1⟩:=L.sc.reads ho hp hd fc (λe=>absurd e (BA j hj));rcases h1 with h1|⟨_,h1⟩
  ·have:=L.tf j (L.lt j (by simp[hj])) DY i h1
   rw[MJ] at this;cases this
  ·exact Iy j hj h1
 refine⟨L.sc,by rw[sK];exact L.size,HV,g1,(Ed.1 L.nd).2,λj hj=>L.lt j (by simp[hj]),g2,λj hj PT=>?_,λj hj DY p hp=>?_,λa ha b hb ND SA=>L.inj a (by simp[ha]) b (by simp[hb]) ((fY.1 ND).resolve_right (BA a ha)) ((fY.1 SA).resolve_right (BA b hb)),λa ha ND q It=>Bt (L.ql a (by simp[ha]) ((fY.1 ND).resolve_right (BA a ha)) q It) LK,λj hj DY p hp=>?_,λt ht=>?_⟩
 ·by_cases FD:j=i
  ·exact fY.2 (.inr FD)
  ·exact fQ (L.sub j hj (by simp[FD,PT]))
 ·rcases fY.1 DY with DY|rfl
  ·exact fQ (L.tf j hj DY p hp)
  ·exact fQ (Ua p hp)
 ·have I6:=(fY.1 DY).resolve_right (BA j hj)
  obtain⟨p1,d,g,b,p2,p3,EI,p4,p5⟩:=L.pend j (by simp[hj]) I6 p hp
  have GV:∀x,p.dst=some x->(uJ tm o.dst v).at x=tm.at x:=λx hx=>by
   rw[gE,Bf (λhd=>L.sc.a0D ho hp hd (BA j hj) hx)]
  refine⟨p1,d,g,b,p2,p3,EI,λt ht=>?_,?_⟩
  ·rw[p4 t ht,gE,Bf (HP j p t hj I6 hp ht)]
  ·rcases p5 with⟨a1,a2⟩|⟨a1,a2⟩
   ·exact .inl ⟨a1,λx hx=>by rw[GV x hx];exact a2 x hx⟩
   ·refine .inr ⟨a1,?_⟩
    rcases a2 with⟨pb,v',rfl,a3,a4⟩|⟨ab,ob,mk,q,rfl,a3,as,a4,a5,a6,a7,a8⟩
    ·refine .inl ⟨pb,v',rfl,λx hx=>by rw[GV x hx];exact a3 x hx,?_⟩
     have a4:=a4.resolve_left (λh=>by simp[jL] at h);cases hr:Ra pb with
     |false=>exact .inr (by rw[<-a4];exact a36 hr _ _)
     |true =>
      left;refine⟨rfl,?_⟩;have hfj:=L.sc.inf hp;have h2:=(Re j _ hfj (by rw[Bs];exact BA j hj)).2;simp only[Bs] at h2;have DI:Sb (bU P p)=true:=by rw[<-(eO p2 p3).1];exact hr
      rcases h2 I6 DI with h3|h3
      ·rw[K9] at h3;exact(Iy j hj h3).elim
      ·exact h3
    ·obtain⟨k1,k2⟩:=hK.pend q a7 a4
     exact .inr ⟨ab,ob,mk,q,rfl,a3,as,k1,by rw[k2];exact a5,a6,Bt a7 LK,λx hx=>by rw[GV x hx];exact a8 x hx⟩
 ·rw[gE,xY (λx hd=>Bt (hx x hd) L.size)]
  split
  ·exact hv
  ·rename_i hd
   refine(L.dv t λj hj DY p hp=>?_).mono hK.le;rcases As.1 hj with rfl|hj
   ·rw[MJ] at DY;cases DY
   ·exact ht j hj (fQ DY) p hp
theorem LZ.ahead{i:Nat}{o:Oper}(L:LZ P n ops J h β nx tm tmps (.run i::pl) E r qf)(ho:ops[i]?=some o)(hw:JS P o=true):∃r1 r2,r=r1++i::r2/\∀j∈r1,E.testBit j=true/\jL j (.run i::pl)=false:=by
 obtain⟨f,hf,MJ,Jr,M5,HV⟩:=vV L.ck;have ME:=L.sc.inf ho;rw[hf] at ME;have K9:=Bp ME;have Re:=wm (M5 (by rw[K9];exact hw));have BD:i<ops.size:=(An.1 ho).1
 have main:∀(r:List Nat)(D:Nat->Prop),mi ops D r->bo ops D->¬D i->(∀j,j<ops.size->D j->E.testBit j=true)->∃r1 r2,r=r1++i::r2/\∀j∈r1,E.testBit j=true:=by
  intro r;induction r with
  |nil =>
   intro D hO _ hD _;cases hO with|nil h=>exact absurd (h i BD) hD
  |cons k r ih =>
   intro D hO hC hD hE;cases hO with
   |cons hk hn he hr =>
   by_cases tu:k=i
   ·subst tu;exact⟨[],r,rfl,by simp⟩
   ·have hEk:E.testBit k=true:=by
     cases hb:E.testBit k with
     |true=>rfl
     |false =>
      obtain⟨p,hp⟩:∃p,ops[k]?=some p:=⟨ops[k],by simp[hk]⟩
      have h2:=(Re k _ (L.sc.inf hp) (by rw[Bs];exact tu)).1;simp only[Bs] at h2;exact absurd (iZ L.sc.uc hC (k+1) k (by omega) he i (h2 hb)) hD
    obtain⟨r1,r2,h1,h2⟩:=ih _ hr (λj o hj FM e Hp BC=>by
     rcases hj with hj|rfl
     ·exact .inl (hC j o hj FM e Hp BC)
     ·exact .inl (he o FM e Hp BC)) (λh=>h.elim hD (λe=>tu e.symm)) (λj hj Uk=>by
     rcases Uk with Uk|rfl
     ·exact hE j hj Uk
     ·exact hEk)
    exact⟨k::r1,r2,by rw[h1];rfl,λj hj=>by
     rcases As.1 hj with rfl|hj
     ·exact hEk
     ·exact h2 j hj⟩
 obtain⟨r1,r2,h1,h2⟩:=main r _ L.ord L.cl (λhD=>by
  have:=L.sub i hD.1 hD.2;rw[MJ] at this;cases this) (λj hj hD=>L.sub j hj hD.2)
 exact⟨r1,r2,h1,λj hj=>⟨h2 j hj,rfl⟩⟩
theorem LZ.atEnd(L:LZ P n ops J h β nx tm tmps [] E r qf):∀i∈r,E.testBit i=true/\jL i []=false:=λi hi=>by
 have h1:=Aa L.ck;refine⟨?_,rfl⟩;rw[h1,L.sc.len,Nat.testBit_two_pow_sub_one];simpa using L.lt i hi
theorem LZ.done(L:LZ P n ops J h β nx tm tmps pl E [] qf):TR J n tm tmps:=⟨L.size,λt=>L.dv t λi hi=>by cases hi⟩
theorem LZ.start{tm:T V}(hT:TR J n tm tmps)(hS:SC P ops)(HV:jR (y2 P ops) pl 0=true)(hr:mi ops (λ_=>False) r)(G6:r.Nodup)(AL:∀i∈r,i<ops.size)(CA:∀i,i<ops.size->i∈r)(qf:Nat->Option Q):LZ P n ops J h β nx tm tmps pl 0 r qf:=by
 have hD:∀i,False↔(i<ops.size/\i∉r):=λi=>⟨λh=>h.elim,λh=>h.2 (CA i h.1)⟩
 refine⟨hS,hT.size,HV,hr.congr hD,G6,AL,λj o hj=>absurd (CA j hj.1) hj.2,λi hi IH=>absurd (CA i hi) IH,λi _ h=>by simp at h,λi _ j _ h=>by simp at h,λi _ h=>by simp at h,λi _ h=>by simp at h,λt _=>hT.rel t⟩
end
section
variable {P:Program}{w0:cL}{w:World}{J J':ak}{h h':T O}{nx nx':Q}{tm:T V}{tmps:Array Value}{v:V}{ops:Array Oper}{n β:Nat}
inductive mg (P:Program) (J:ak):List Df->List Deferred->Prop where
 |nil:mg P J [] []
 |call (g:Nat) (cs:List V) (av cv:List Value) (ds:List Df) (AV:List Deferred) (hv:a_ J cs (av++cv)) (hr:mg P J ds AV):mg P J (.call (qn g) cs::ds) ({ target:=.fn (.func g) ⟨cv⟩,args:=⟨av⟩ }::AV)
 |ml (q:Q) (b N:Nat) (ds:List Df) (AV:List Deferred) (hq:J q=some (b,N)) (hr:mg P J ds AV):mg P J (.ml q::ds) ({ target:=.collected b,args:=#[] }::AV)
theorem mg.mono{ds:List Df}{AV:List Deferred}(hp:J.le J')(h:mg P J ds AV):mg P J' ds AV:=by
 induction h with
 |nil=>exact .nil
 |call g cs av cv ds AV hv hr ih=>exact .call g cs av cv ds AV (hv.mono hp) ih
 |ml q b N ds AV hq hr ih=>exact .ml q b N ds AV (hp _ _ hq) ih
inductive KS (P:Program) (n:Nat):K->List Item->Prop where
 |nil:KS P n .nil []
 |code (c:Code) (k:K) (ks:List Item) (h:KS P n k ks):KS P n (.code (cZ P n c) k) (.code c::ks)
 |n_ (id:Nat) (k:K) (ks:List Item) (h:KS P n k ks):KS P n (.n_ id k) (.inBlock id::ks)
 |lp (c:Code) (k:K) (ks:List Item) (h:KS P n k ks):KS P n (.lp (cZ P n c) k) (.inLoop c::ks)
 |sc (c:Code) (k:K) (ks:List Item) (h:KS P n k ks):KS P n (.sc k) (.inScope c::ks)
 |begin (k:K) (ks:List Item) (h:KS P n k ks):KS P n (.begin k) (.beginRound::ks)
def vq(J:ak):Option Q->Option Nat->Prop
 |none,none=>True
 |some l,some b=>∃N,J l=some (b,N)
 |_,_=>False
theorem vq.mono{rd:Option Q}{ro:Option Nat}(hp:J.le J')(h:vq J rd ro):vq J' rd ro:=by
 cases rd<;>cases ro<;>first|exact h|exact⟨_,hp _ _ h.choose_spec⟩
structure FB (P:Program) (J:ak) (f:Q) (dk:Bool) (rd:Option Q) (b:Frame):Prop where
 fn:b.fn=f.nat
 kind:b.kind=if dk then .deferred else .normal
 ro:vq J rd b.roundOf
 rk:rd≠none->dk=false
theorem FB.mono{f:Q}{dk:Bool}{rd:Option Q}{b:Frame}(hp:J.le J')(h:FB P J f dk rd b):FB P J' f dk rd b:=⟨h.fn,h.kind,h.ro.mono hp,h.rk⟩
inductive ov (P:Program) (J:ak) (h:T O) (β:Nat) (nx:Q) (n:Nat) (tm:T V):K->(Array Value->List Deferred->Frame->Frame->Prop)->Prop where
 |plain (k:K) (ks:List Item) (hk:KS P n k ks):ov P J h β nx n tm k (λtmps AV b fr=>TR J n tm tmps/\fr=b.atR ⟨tmps,AV⟩ ks)
 |sync (ops:Array Oper) (i:Nat) (k:K) (ks:List Item) (hi:i<=ops.size) (hk:KS P n k ks):ov P J h β nx n tm (.reg ((ops.toList.drop i).map λo=>.op (fR P n ops o)) k) (λtmps AV b fr=>TR J n tm tmps/\fr=b.atR ⟨tmps,AV⟩ (.inRegion ops (List.range' i (ops.size-i))::ks))
 |drawn (ops:Array Oper) (pl:List Pl) (E:Nat) (r:List Nat) (qf:Nat->Option Q) (k:K) (ks:List Item) (hk:KS P n k ks):ov P J h β nx n tm (.reg (pl.map (vg P n ops)) k) (λtmps AV b fr=>LZ P n ops J h β nx tm tmps pl E r qf/\fr=b.atR ⟨tmps,AV⟩ (.inRegion ops r::ks))
 |oZ (l:Q) (bl N:Nat) (k:K) (ks:List Item) (hl:J l=some (bl,N)) (hk:KS P n k ks):ov P J h β nx n tm (.oZ l k) (λtmps AV b fr=>TR J n tm tmps/\fr=b.atR ⟨tmps,AV⟩ (.endRangeFunc bl::ks))
 |bad (l:List PS) (k:K):ov P J h β nx n tm (.reg (.op fA::l) k) (λ_ _ _ _=>True)
 |iN (ks:List Item):ov P J h β nx n tm .iN (λtmps AV b fr=>TR J n tm tmps/\fr={ b.atR ⟨tmps,AV⟩ ks with mode:=.returning })
structure a4g (P:Program) (J:ak) (h:T O) (β:Nat) (nx:Q) (f:Q) (dk:Bool) (rd:Option Q) (ds:List Df) (tm:T V) (k:K) (fr:Frame):Prop where
 le:β<=nx.nat
 rel:∃b AV tmps C,FB P J f dk rd b/\mg P J ds AV/\(rd≠none->ds=[])/\ov P J h β nx (nt P f.nat) tm k C/\C tmps AV b fr
inductive Wt (P:Program) (J:ak) (h:T O) (β:Nat) (nx:Q) (n:Nat) (tm:T V):K->(Array Value->List Deferred->Frame->Frame->Prop)->Prop where
 |sync (ops:Array Oper) (i:Nat) (o:Oper) (d:Option Q) (g:Option (Q×Bool)) (ob:OB) (k:K) (ks:List Item) (ho:ops[i]?=some o) (hc:fR P n ops o=.mk d g ob) (hw:LD ob=true) (hk:KS P n k ks) :
   Wt P J h β nx n tm (.reg (.op (.mk d g ob)::(ops.toList.drop (i+1)).map λo=>.op (fR P n ops o)) k) (λtmps AV b fr=>TR J n tm tmps/\fr=b.atR ⟨tmps,AV⟩ (.inRegion ops (i::List.range' (i+1) (ops.size-(i+1)))::ks))
 |drawn (ops:Array Oper) (i:Nat) (o:Oper) (d:Option Q) (g:Option (Q×Bool)) (ob:OB) (pl:List Pl) (E:Nat) (r:List Nat) (qf:Nat->Option Q) (k:K) (ks:List Item) (ho:ops[i]?=some o) (hc:fR P n ops o=.mk d g ob) (hw:LD ob=true) (hk:KS P n k ks) :
   Wt P J h β nx n tm (.reg (.op (.mk d g ob)::pl.map (vg P n ops)) k) (λtmps AV b fr=>LZ P n ops J h β nx tm tmps (.run i::pl) E (i::r) qf/\fr=b.atR ⟨tmps,AV⟩ (.inRegion ops (i::r)::ks))
 |mn (l:Q) (bl N:Nat) (k:K) (ks:List Item) (hl:J l=some (bl,N)) (hk:KS P n k ks):Wt P J h β nx n tm (.mn l k) (λtmps AV b fr=>TR J n tm tmps/\fr=b.atR ⟨tmps,AV⟩ (.inRangeFunc bl::ks))
 |iN (ks:List Item):Wt P J h β nx n tm .iN (λtmps AV b fr=>TR J n tm tmps/\fr={ b.atR ⟨tmps,AV⟩ ks with mode:=.returning })
structure WR (P:Program) (J:ak) (h:T O) (β:Nat) (nx:Q) (f:Q) (dk:Bool) (rd:Option Q) (ds:List Df) (tm:T V) (k:K) (fr:Frame):Prop where
 le:β<=nx.nat
 rel:∃b AV tmps C,FB P J f dk rd b/\mg P J ds AV/\(rd≠none->ds=[])/\Wt P J h β nx (nt P f.nat) tm k C/\C tmps AV b fr
inductive lh (P:Program):ak->T O->List Fr->List Frame->Nat->Prop where
 |nil (J:ak) (h:T O) (β:Nat):lh P J h [] [] β
 |cons (J J':ak) (h h':T O) (f:Q) (dk:Bool) (rd:Option Q) (ds:List Df) (tm:T V) (k:K) (cs:List Fr) (fr:Frame) (frs:List Frame) (β β':Nat) (nx:Q) (hf:WR P J h β nx f dk rd ds tm k fr) (hn:nx.nat<=β') (hK:ec nx.nat J h J' h') (hs:lh P J' h' cs frs β) :
   lh P J' h' (.mk f dk rd ds tm k::cs) (fr::frs) β'
theorem lh.mono{cs:List Fr}{frs:List Frame}(hs:lh P J h cs frs β)(hK:ec β J h J' h'):lh P J' h' cs frs β:=by
 induction hs generalizing J' h' with
 |nil=>exact .nil _ _ _
 |cons J J1 h h1 f dk rd ds tm k cs fr frs β β' nx hf hn hK1 hs ih =>
  exact .cons J J' h h' f dk rd ds tm k cs fr frs β β' nx hf hn (hK1.trans (hK.down hn)) (ih (hK.down (Bi hf.le hn)))
def cb(P:Program)(w0:cL)(m:Machine)(c0:Frame)(cs0:List Frame)(v:V):Prop :=
 ∃w' J' h' nx' u x,Steps P m (lone (c0.finish u) cs0 w')/\HR P w0 J' h' nx' w'/\VR J' x u/\fin x h'=v
def Good(P:Program)(w0:cL)(ih:FQ):Prop:=∀(w:World)(J:ak)(β:Nat)(f:Q)(dk:Bool)(rd:Option Q)(ds:List Df)(tm:T V)(k:K)(cs:List Fr)(h:T O)(nx:Q)(v:V)(fr:Frame)(frs:List Frame)(c0:Frame)(cs0:List Frame),
 ih f dk rd ds tm k cs h nx=.ok v->HR P w0 J h nx w->a4g P J h β nx f dk rd ds tm k fr->lh P J h cs frs β->cb P w0 (lone fr (frs++c0::cs0) w) c0 cs0 v
theorem cb.steps{m m':Machine}{c0:Frame}{cs0:List Frame}(hs:Steps P m m')(h:cb P w0 m' c0 cs0 v):cb P w0 m c0 cs0 v:=by
 obtain⟨w',J',h',nx',u,x,s,a,b⟩:=h;exact⟨w',J',h',nx',u,x,hs.trans s,a,b⟩
end
section
variable {P:Program}{w0:cL}{w:World}{J J':ak}{h h':T O}{nx nx':Q}{tm:T V}{tmps:Array Value}{v:V}{ops:Array Oper}{n β:Nat}{f:Q}{dk:Bool}{rd:Option Q}{ds:List Df}{k:K}{cs:List Fr}{fr b:Frame}{frs:List Frame}{c0:Frame}{cs0:List Frame}{ih:FQ}
theorem nM{a:Act}{k:List Item}{cs:List Frame}{c:Code}:step P (lone (b.atR a (.code (.scope c)::k)) cs w)=.next (lone (b.atR a (.code c::.inScope c::k)) cs w) :=
 step_lone_go (by simp[stepG,stepG.exec,Frame.atR])
theorem kG{a:Act}{k:List Item}{cs:List Frame}{c:Code}:step P (lone (b.atR a (.inScope c::k)) cs w)=.next (lone (b.atR a k) cs w) :=
 step_lone_go (by simp[stepG,stepG.exec,Frame.atR])
structure Ctx (P:Program) (w0:cL) (w:World) (J:ak) (h:T O) (β:Nat) (nx:Q) (f:Q) (dk:Bool) (rd:Option Q) (ds:List Df) (cs:List Fr) (frs:List Frame) (b:Frame) (AV:List Deferred):Prop where
 H:HR P w0 J h nx w
 le:β<=nx.nat
 B:FB P J f dk rd b
 D:mg P J ds AV
 rn:rd≠none->ds=[]
 S:lh P J h cs frs β
theorem Ctx.go{AV:List Deferred}(C:Ctx P w0 w J h β nx f dk rd ds cs frs b AV)(G:Good P w0 ih){X:Array Value->List Deferred->Frame->Frame->Prop}(hc:ov P J h β nx (nt P f.nat) tm k X)(hx:X tmps AV b fr)(e:ih f dk rd ds tm k cs h nx=.ok v):cb P w0 (lone fr (frs++c0::cs0) w) c0 cs0 v :=
 G w J β f dk rd ds tm k cs h nx v fr frs c0 cs0 e C.H ⟨C.le,b,AV,tmps,X,C.B,C.D,C.rn,hc,hx⟩ C.S
theorem Ctx.plain{AV:List Deferred}(C:Ctx P w0 w J h β nx f dk rd ds cs frs b AV)(G:Good P w0 ih){ks:List Item}(hk:KS P (nt P f.nat) k ks)(hT:TR J (nt P f.nat) tm tmps)(e:ih f dk rd ds tm k cs h nx=.ok v):cb P w0 (lone (b.atR ⟨tmps,AV⟩ ks) (frs++c0::cs0) w) c0 cs0 v :=
 C.go G (.plain k ks hk) ⟨hT,rfl⟩ e
theorem aC7{id:Nat}{kf:K->aa}{kn:aa}:∀{k:K}{ks:List Item},KS P n k ks->eP id k kf kn=.ok v->(∃k' On,kf k'=.ok v/\exitTo id ks=some On/\KS P n k' On)\/(kn=.ok v/\exitTo id ks=none):=by
 intro k ks hk e;induction hk with
 |nil=>exact .inr ⟨e,rfl⟩
 |code c k ks hk ih=>simp only[eP] at e;exact ih e
 |n_ DC k ks hk ih =>
  simp only[eP] at e
  split at e
  ·rename_i hb
   have hb:=Aa hb;exact .inl ⟨_,ks,e,by simp[exitTo,hb],hk⟩
  ·rename_i hb
   have BA:¬DC=id:=λh=>by rw[h,Ci] at hb;cases hb
   rcases ih e with⟨k',On,h1,h2,h3⟩|⟨h1,h2⟩
   ·exact .inl ⟨k',On,h1,by simp[exitTo,BA,h2],h3⟩
   ·exact .inr ⟨h1,by simp[exitTo,BA,h2]⟩
 |lp c k ks hk ih=>simp only[eP] at e;exact ih e
 |sc c k ks hk ih=>simp only[eP] at e;exact ih e
 |begin k ks hk ih=>simp only[eP] at e;exact ih e
theorem HR.loop(H:HR P w0 J h nx w){l:Q}{bl N:Nat}{lp:Lp}(hl:J l=some (bl,N))(DA:h.ob l=.loop lp):∃r,w.heap[bl]?=some (.loop r)/\LR P J lp r/\w0.heap.size<=bl/\bl<w.heap.size:=by
 have:=H.obj l bl N hl
 rw[DA] at this;cases this with|loop _ r _ _ hb hw CW=>exact⟨r,hw,CW,hb,(An.1 hw).1⟩
theorem HR.gv(H:HR P w0 J h nx w){l:Q}{bl N:Nat}{lp MY:Lp}{r':Loop}(hl:J l=some (bl,N))(DA:h.ob l=.loop lp)(hB:w0.heap.size<=bl)(AL:bl<w.heap.size)(hr:LR P J MY r') :
  HR P w0 J (h.put .dead (.loop MY) l) nx (w.putObj bl (.loop r'))/\ec nx.nat J h J (h.put .dead (.loop MY) l) :=
 H.vW hl DA rfl (λ_ _ _ _ _ _ e=>by cases e) rfl (λ_ _ _ _ _ _ e=>by cases e) hB (.loop _ _ _ _ hB (World.putObj_heap_same AL) hr)
theorem run_getLoop{bl:Nat}{r:Loop}(hw:w.heap[bl]?=some (.loop r)):(Instr.getLoop bl).run P w=.ok r w:=by
 simp[Instr.getLoop,AM.mf (P:=P) hw (by simp)]
theorem aGs{l:Q}{AV:List Deferred}(C:Ctx P w0 w J h β nx f dk rd ds cs frs b AV)(fc:rd=some l){j:Jump}{jc:Option Code}(hj:JR j jc){bb:Bool}(MH:bb=jc.isNone){a:Act}{todo:List Item}
  (BW:∀{bl:Nat}{u:Value}{w':World}{c:Frame}{cs:List Frame},b.roundOf=some bl->b.kind=.normal->(Instr.endRound bl jc).run P w=.ok u w'->step P (lone (b.atR a todo) (c::cs) w)=.next (lone (c.finish u) cs w'))
  (HJ:∀{c:Fr}{BX:List Fr}{MM:Frame}{I8:List Frame}{w':World}{h':T O}{u:Value}{x:V},cs=c::BX->frs=MM::I8->HR P w0 J h' nx w'->ec nx.nat J h J h'->VR J x u->mQ ih c BX x h' nx=.ok v->cb P w0 (lone (MM.finish u) (I8++c0::cs0) w') c0 cs0 v)
  (e:jv ih l j bb cs h nx=.ok v):cb P w0 (lone (b.atR a todo) (frs++c0::cs0) w) c0 cs0 v:=by
 unfold jv at e;rw[bW] at e;obtain⟨st,pend,fn,tm',ps,B3,body,CH,DA,e1⟩:=fF e;rw[c8] at e1;have DI:=C.B.ro;rw[fc] at DI;cases GF:b.roundOf with
 |none=>rw[GF] at DI;exact DI.elim
 |some bl =>
  rw[GF] at DI;obtain⟨N,hl⟩:=DI;obtain⟨r,hw,CW,hB,AL⟩:=C.H.loop hl DA;have a5U:b.kind=.normal:=by rw[C.B.kind,C.B.rk (by rw[fc];simp)];rfl
  cases CW with
  |mk _ _ GH _ _ _ N' h1 h2 h3 h4 h5 h6 =>
  have KC:LR P J (.mk (match(generalizing:=false) bb with|true=>0|false=>2) j (qn GH) tm' (r.params.toList.map qn) (cZ P (nt P GH) r.assign) (cZ P (nt P GH) r.body) CH) { r with state:=if jc.isNone then .ready else .done,pending:=jc }:=by
   refine LR.mk (P:=P) (J:=J) _ j GH tm' CH { r with state:=if jc.isNone then .ready else .done,pending:=jc } N' ?_ hj h3 h4 h5 h6;subst MH;cases jc<;>first|exact .ready|exact .done
  obtain⟨f1,f2⟩:=C.H.gv hl DA hB AL KC
  have A9:(Instr.endRound bl jc).run P w=.ok (.bool jc.isNone) (w.putObj bl (.loop { r with state:=if jc.isNone then .ready else .done,pending:=jc })):=by
   simp[Instr.endRound,run_getLoop hw,AM.qj (P:=P) hw (by simp)]
  have A8:=C.S
  split at e1
  ·cases e1
  ·rename_i c BX
   cases A8 with
   |cons J0 _ h0 _ f' Nm Jk DQ DZ k' _ MM I8 β0 _ mq hf hn hK hs =>
   refine cb.steps (Steps.one (BW GF a5U A9)) ?_;exact HJ (x:=.bool bb) rfl rfl f1 f2 (by rw[MH];exact .bool _) e1
end
end Go.CM
end
