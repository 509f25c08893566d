import Derived.Test.YtdkkaldimefljaaGreatDoorC04
import Derived.Test.YtdkkaldimefljaaGreatDoorA09
set_option linter.all false
noncomputable section
namespace Go.CM
section
variable {P:Program}{ops:Array Oper}
theorem aDF:∀(l:List Oper)(acc:List Nat),Lm l acc=(l.foldl (λ(acc:Array Nat) o=>acc.push (o.after.foldl (λs e=>if Region.binds .any e then s ||| 2^e.on ||| acc.getD e.on 0 else s) 0)) ⟨acc⟩).toList
 |[],acc=>rfl
 |o::l,acc=>by
  simp only[Lm,Dy];rw[aDF l];congr 2;apply Cg;simp
theorem xU:Lm ops.toList []=(Region.before ops).toList:=by
 rw[aDF];unfold Region.before;rw[<-Eg]
def pc(ops:Array Oper):Prop:=∀(i:Nat)(o:Oper),ops[i]?=some o->∀e∈o.after.toList,Region.binds .any e=true->e.on<i
def fk(ops:Array Oper)(S:Nat->Prop):Prop:=∀(j:Nat)(o:Oper),S j->ops[j]?=some o->∀e∈o.after.toList,Region.binds .any e=true->S e.on
theorem jY(hE:pc ops){S:Nat->Prop}(hS:fk ops S):∀(n i:Nat),i<n->(∀o:Oper,ops[i]?=some o->∀e∈o.after.toList,Region.binds .any e=true->S e.on) ->
  ∀p,((Lm ops.toList []).getD i 0).testBit p=true->S p
 |0,i,hi,_,p,_=>by omega
 |n+1,i,hi,Sd,p,hb=>by
  have AX:((Region.before ops).getD i 0).testBit p=true:=by
   rw[xU] at hb;rw[Af];rw[Br,Bq] at hb;exact hb
  obtain⟨o,ho,e,he,HK,h⟩:=(AM.before_inv ops).2 i p AX;rw[Bq] at ho;have hs:=Sd o ho e he HK;rcases h with h|h
  ·subst h;exact hs
  ·have:=hE i o ho e he HK
   refine jY hE hS n e.on (by omega) (λo' DL e' HV AX=>hS e.on o' hs DL e' HV AX) p ?_;rw[xU,Br,Bq,<-Af];exact h
inductive Ordr (ops:Array Oper):(Nat->Prop)->List Nat->Prop where
 |nil {D:Nat->Prop} (h:∀i,i<ops.size->D i):Ordr ops D []
 |cons {D:Nat->Prop} {i:Nat} {r:List Nat} (hi:i<ops.size) (hn:¬D i) (he:∀o:Oper,ops[i]?=some o->∀e∈o.after.toList,Region.binds .any e=true->D e.on) (hr:Ordr ops (λj=>D j\/j=i) r):Ordr ops D (i::r)
theorem Ordr.congr{D D':Nat->Prop}{r:List Nat}(h:Ordr ops D r)(hD:∀i,D i↔D' i):Ordr ops D' r:=by
 have:D=D':=funext λi=>propext (hD i)
 rw[<-this];exact h
open AM (rem nq sG) in
theorem aAy(hE:pc ops):∀(fuel t:Nat)(listed:Array Bool),listed.size=ops.size->(rem ops.size listed).length=fuel->Ordr ops (λi=>listed.getD i false=true) (Region.linearise.go .any ops fuel t listed [])
 |0,t,listed,hs,hl=>by
  have hr:=Cm.1 hl;refine .nil λi hi=>?_
  cases hv:listed.getD i true with
  |true =>
   rw[Af,Az (by omega)] at hv ⊢;exact hv
  |false =>
   have:i∈rem ops.size listed:=by
    unfold rem;simp only[Dh,Cq];exact⟨hi,by rw[hv];rfl⟩
   rw[hr] at this;cases this
 |fuel+1,t,listed,hs,hl=>by
  have EM:∀i,i∈Region.ready .any ops listed↔i∈rem ops.size listed/\∀o:Oper,ops[i]?=some o->∀e∈o.after.toList,Region.binds .any e=true->listed.getD e.on false=true:=λi=>by
   unfold Region.ready rem;simp only[Dh,Cq,Ac];constructor
   ·rintro⟨h1,h2,h3⟩
    refine⟨⟨h1,h2⟩,λo ho e he hb=>?_⟩;rw[ho] at h3;simp only[Bw,Cn] at h3;rw[<-Ed] at h3
    have:=An.1 h3 e he
    simpa[hb] using this
   ·rintro⟨⟨h1,h2⟩,h3⟩
    refine⟨h1,h2,?_⟩;rw[Az h1];simp only[Bw,Cn];rw[<-Ed];refine An.2 λe he=>?_
    cases hb:Region.binds .any e with
    |false=>rfl
    |true=>simpa using h3 _ (Az h1) e he hb
  have HQ:(rem ops.size listed).Pairwise (· < ·):=(sG _).filter _
  have BD:Region.ready .any ops listed≠[]:=by
   cases hr:rem ops.size listed with
   |nil=>rw[hr] at hl;simp at hl
   |cons m rest =>
    have hm:m∈Region.ready .any ops listed:=(EM m).2 ⟨by simp[hr],λo ho e he hb=>by
     have AR:=hE m o ho e he hb;have hmn:m<ops.size:=(Ad.1 ho).1;cases hv:listed.getD e.on true with
     |true =>
      rw[Af,Az (by omega)] at hv ⊢;exact hv
     |false =>
      have:e.on∈rem ops.size listed:=by
       unfold rem;simp only[Dh,Cq];exact⟨by omega,by rw[hv];rfl⟩
      rw[hr] at this HQ;rw[Fj] at HQ;rcases Bb.1 this with h'|h'
      ·omega
      ·have:=HQ.1 _ h';omega⟩
    intro h0;rw[h0] at hm;cases hm
  simp only[Region.linearise.go]
  change Ordr ops _ (match(Region.ready .any ops listed)[t%(Region.ready .any ops listed).length]? with
   |some i=>Region.linearise.go .any ops fuel (t/(Region.ready .any ops listed).length) (listed.setIfInBounds i true) [i]
   |none=>[].reverse)
  cases hi:(Region.ready .any ops listed)[t%(Region.ready .any ops listed).length]? with
  |none =>
   exfalso;rw[Cy] at hi;have CR:0<(Region.ready .any ops listed).length:=List.length_pos_iff.2 BD
   have:=Fc t CR
   omega
  |some i =>
   simp only;rw[linearise_go_acc,Hg,Ca];obtain⟨Io,KQ⟩:=(EM i).1 (Be hi);have NJ:=Io;unfold rem at NJ;have GN:i<ops.size:=Cq.1 (Dh.1 NJ).1;obtain⟨pre,post,Ik⟩:=List.append_of_mem Io;have dA:=nq Ik (by omega);refine .cons GN (λh=>?_) KQ ?_
   ·have h3:=(Dh.1 NJ).2
    rw[Af,Az (by omega)] at h h3;simp only[Cn] at h h3;rw[h] at h3;cases h3
   ·refine(aAy hE fuel _ (listed.setIfInBounds i true) (by simp[hs]) ?_).congr λj=>?_
    ·rw[dA]
     rw[Ik] at hl;simp at hl ⊢;omega
    ·by_cases GB:j=i
     ·subst GB
      simp[Af,Es,hs,GN]
     ·rw[Af,Bt (Co GB),<-Af]
      exact⟨λh=>.inl h,λh=>h.resolve_right GB⟩
theorem bt(hm:P.follows .mixedOrders=true)(hE:pc ops)(t:Nat):Ordr ops (λ_=>False) (Region.schedule (P.follows .mixedOrders) ops t):=by
 rw[show Region.schedule (P.follows .mixedOrders) ops t=Region.linearise .any ops t by simp[Region.schedule,hm]]
 have hrem:AM.rem ops.size (Array.replicate ops.size false)=List.range ops.size:=by
  unfold AM.rem;refine Fg.2 λk Ny=>?_
  have:=Cq.1 Ny
  simp[Af,Ea,this]
 unfold Region.linearise;refine(aAy hE ops.size t _ (by simp) (by rw[hrem];simp)).congr λi=>?_
 rw[Af,Ea];constructor
 ·intro h
  split at h<;>simp at h
 ·exact λh=>h.elim
theorem aGa{a b:Nat}(h:sub a b=true):∀p,a.testBit p=true->b.testBit p=true:=λp hp=>by
 have h1:a &&& b=a:=Aa h;rw[<-h1,Nat.testBit_and] at hp;rw[Ac] at hp;exact hp.2
theorem ec:∀{os:List Oper}{bl:List Nat}{i:Nat}{f:Inf},(yP P ops os bl)[i]?=some f->∃o b,os[i]?=some o/\bl[i]?=some b/\f=.mk b (kU ops o) o.dst (LC (bY P o)||Te o.op) (Tn (bY P o)) o.guard.isSome
 |[],bl,i,f,h=>by cases bl<;>simp[yP] at h
 |_::_,[],i,f,h=>by simp[yP] at h
 |o::os,b::bl,0,f,h=>by simp[yP] at h;exact⟨o,b,rfl,rfl,h.symm⟩
 |o::os,b::bl,i+1,f,h=>by
  obtain⟨o',b',h1,h2,h3⟩:=ec (os:=os) (bl:=bl) (i:=i) (f:=f) (by simpa[yP] using h);exact⟨o',b',by simpa using h1,by simpa using h2,h3⟩
theorem qU(t:Nat):∀(l:List Operand)(s:Nat),(s.testBit t=true\/Operand.tmp t∈l)->(l.foldl (λs x=>match x with|.tmp t=>s ||| 2^t|_=>s) s).testBit t=true
 |[],s,h=>by simpa using h
 |x::l,s,h=>by
  simp only[Dy];refine qU t l _ ?_;rcases h with h|h
  ·cases x<;>simp[Gg,h]
  ·rcases Bb.1 h with rfl|h
   ·left;simp[Gg,Fe]
   ·exact .inr h
theorem aFW{o:Oper}{t:Nat}(h:Operand.tmp t∈o.op.operands.toList):(kU ops o).testBit t=true:=qU t _ _ (.inr h)
theorem pF{o:Oper}{j t:Nat}{b:Bool}(hg:o.guard=some (j,b))(ht:(ops[j]?).bind (·.dst)=some t):(kU ops o).testBit t=true:=by
 unfold kU;rw[hg];refine qU t _ _ (.inl ?_);simp only[ht];simp[Fe]
theorem zw{w Ko e:Nat}{l:List Pl}:∀{fs:List Inf}{k:Nat},Nl w Ko e l fs k=true->∀(j:Nat)(f:Inf),fs[j]?=some f->k+j≠w->(e.testBit (k+j)=false->f.bf.testBit w=true)/\(e.testBit (k+j)=true->f.r=true->Ko.testBit (k+j)=true\/j9 (k+j) l=true)
 |[],k,h,j,f,hf,_=>by simp at hf
 |g::fs,k,h,0,f,hf,BD=>by
  simp at hf;subst hf;simp only[Nl,Ac] at h;have h1:=h.1
  split at h1
  ·rename_i hb;exact absurd (Aa hb) BD
  ·split at h1
   ·rename_i he;exact⟨λ_=>h1,(λh2=>by simp only[Bk] at h2;rw[he] at h2;cases h2)⟩
   ·rename_i he
    refine⟨(λh2=>by simp only[Bk] at h2;rw[he] at h2;cases h2),λ_ hr=>?_⟩;simp only[Db,Cd] at h1;rcases h1 with(h1|h1)|h1
    ·rw[hr] at h1;cases h1
    ·exact .inl h1
    ·exact .inr h1
 |g::fs,k,h,j+1,f,hf,BD=>by
  simp only[Nl,Ac] at h
  have:=zw h.2 j f (by simpa using hf) (by omega)
  rw[show k+1+j=k+(j+1) by omega] at this;exact this
theorem x7{t i bf:Nat}{w:Bool}:∀{fs:List Inf}{k:Nat},de t i w bf fs k=true->∀(j:Nat)(f:Inf),fs[j]?=some f->(k+j=i->w=true\/f.rd.testBit t=false)/\(k+j≠i->f.dst≠some t/\(f.rd.testBit t=true->f.bf.testBit i=true\/(w=true/\bf.testBit (k+j)=true)))
 |[],k,h,j,f,hf=>by simp at hf
 |g::fs,k,h,0,f,hf=>by
  simp at hf;subst hf;simp only[de,Ac] at h;have h1:=h.1
  split at h1
  ·rename_i hb
   have hb:=Aa hb;refine⟨λ_=>by simpa using h1,λBD=>absurd hb.symm BD⟩
  ·rename_i hb
   refine⟨λhe=>by rw[<-he] at hb;simp[Cs] at hb,λ_=>?_⟩;simp only[Ac] at h1;refine⟨λhd=>?_,λhr=>?_⟩
   ·have h2:=h1.1
    rw[hd] at h2;simp[Cs] at h2
   ·have h2:=h1.2
    simp only[Db,Cd,hr,Ac] at h2;rcases h2 with(h2|h2)|h2
    ·cases h2
    ·exact .inl h2
    ·exact .inr h2
 |g::fs,k,h,j+1,f,hf=>by
  simp only[de,Ac] at h
  have:=x7 h.2 j f (by simpa using hf)
  rw[show k+1+j=k+(j+1) by omega] at this;exact this
theorem z7{all:List Inf}:∀{fs:List Inf}{k:Nat},eu all fs k=true->∀(i:Nat)(f:Inf) t,fs[i]?=some f->f.dst=some t->de t (k+i) f.w f.bf all 0=true
 |[],k,h,i,f,t,hf,_=>by simp at hf
 |g::fs,k,h,0,f,t,hf,hd=>by
  simp at hf;subst hf;simp only[eu,Ac] at h;have h1:=h.1;rw[hd] at h1;exact h1
 |g::fs,k,h,i+1,f,t,hf,hd=>by
  simp only[eu,Ac] at h
  have:=z7 h.2 i f t (by simpa using hf) hd
  rw[show k+1+i=k+(i+1) by omega] at this;exact this
theorem dh:∀{os:List Oper}{k:Nat},x8 os k=true->∀(i:Nat)(o:Oper),os[i]?=some o->∀e∈o.after.toList,Region.binds .any e=true->e.on<k+i
 |[],k,h,i,o,ho,_,_,_=>by simp at ho
 |p::os,k,h,0,o,ho,e,he,hb=>by
  simp at ho;subst ho;simp only[x8,Ac] at h
  have:=An.1 h.1 e he
  simp only[hb,Fw,Fx] at this;exact dH this
 |p::os,k,h,i+1,o,ho,e,he,hb=>by
  simp only[x8,Ac] at h
  have:=dh h.2 i o (by simpa using ho) e he hb
  omega
end
section
open Go.AM (dI fR)
variable {P:Program}{w0 w:World}{J:Rho}{h:T O}{nx:Q}{tm:T V}{tmps:Array Value}{r v:V}{ops:Array Oper}{n:Nat}
theorem fA{o:Oper}{d:Option Q}{g:Option (Q×Bool)}{b:OB}(hc:gR P n ops o=.mk d g b)(hb:CO.mk d g b≠fY) :
  b=bY P o/\d=o.dst.map qn/\(∀x,o.dst=some x->x<n)/\((o.guard=none/\g=none)\/∃j want t,o.guard=some (j,want)/\(ops[j]?).bind (·.dst)=some t/\g=some (qn t,want)/\t<n):=by
 have bad:fY=.mk d g b->CO.mk d g b=fY:=λe=>e.symm
 unfold gR aOz at hc;cases hd:o.dst with
 |none =>
  simp only[hd] at hc;cases hg:o.guard with
  |none=>simp only[hg] at hc;cases hc;exact⟨rfl,rfl,λx hx=>(by cases hx),.inl ⟨rfl,rfl⟩⟩
  |some jw =>
   obtain⟨j,want⟩:=jw;simp only[hg] at hc
   split at hc
   ·exact absurd (bad hc) hb
   ·rename_i t ht
    split at hc
    ·rename_i AR;cases hc;exact⟨rfl,rfl,λx hx=>(by cases hx),.inr ⟨j,want,t,rfl,ht,rfl,dH AR⟩⟩
    ·exact absurd (bad hc) hb
 |some x =>
  simp only[hd] at hc;cases AR:Nat.blt x n with
  |false=>simp only[AR] at hc;exact absurd (bad hc) hb
  |true =>
   simp only[AR] at hc;have hx:∀y,some x=some y->y<n:=λy hy=>by cases hy;exact dH AR
   cases hg:o.guard with
   |none=>simp only[hg] at hc;cases hc;exact⟨rfl,rfl,hx,.inl ⟨rfl,rfl⟩⟩
   |some jw =>
    obtain⟨j,want⟩:=jw;simp only[hg] at hc
    split at hc
    ·exact absurd (bad hc) hb
    ·rename_i t ht
     split at hc
     ·rename_i AR;cases hc;exact⟨rfl,rfl,hx,.inr ⟨j,want,t,rfl,ht,rfl,dH AR⟩⟩
     ·exact absurd (bad hc) hb
theorem OQ{d:Option Q}{g:Option (Q×Bool)}{b:OB}(hb:b≠.p .bad):CO.mk d g b≠fY:=λe=>by unfold fY at e;cases e;exact hb rfl
def iI(g:Option (Q×Bool))(tm:T V):Option Bool :=
 match g with
 |none=>some true
 |some (q,want)=>match tm.get V.undef q with
  |.bool t=>some (t==want)
  |.tup []=>some false
  |_=>none
theorem uU{o:Oper}{g:Option (Q×Bool)}{b:Bool}(hg:(o.guard=none/\g=none)\/∃j want t,o.guard=some (j,want)/\(ops[j]?).bind (·.dst)=some t/\g=some (qn t,want)/\t<n)(hn:n<=tmps.size)
  (hT:∀j want t,o.guard=some (j,want)->(ops[j]?).bind (·.dst)=some t->VR J (tm.at t) (tmps.getD t Go.undef)) (hp:iI g tm=some b):Region.wanted o (yielded ops tmps)=b:=by
 unfold Region.wanted;rcases hg with⟨h1,rfl⟩|⟨j,want,t,h1,h2,rfl,h3⟩
 ·rw[h1];simp[iI] at hp;simp[hp]
 ·rw[h1]
  have hv:=hT j want t h1 h2;have AR:t<tmps.size:=Bx h3 hn
  have hy:∀u,tmps.getD t Go.undef=u->yielded ops tmps j=(match u with|.bool b=>some b|_=>none):=λu hu=>by
   unfold yielded;rw[h2];simp only[Ai,Az AR]
   have:tmps[t]=u:=by rw[<-hu,Af,Az AR];rfl
   rw[this];cases u<;>rfl
  show(yielded ops tmps j==some want)=b;simp only[iI] at hp
  split at hp
  ·rename_i tt Je
   rw[show tm.at t=.bool tt from Je] at hv;rw[hy _ hv.inv_bool];simp at hp;rw[<-hp];cases tt<;>cases want<;>rfl
  ·rename_i Je
   rw[show tm.at t=.tup [] from Je] at hv;obtain⟨vs,DK,_⟩:=hv.inv_tup;rw[hy _ DK];simp at hp;simp[<-hp]
  ·cases hp
theorem bZ{tmps:Array Value}{x:Nat}{u:Value}(hx:x<tmps.size)(t:Nat):(tmps.setIfInBounds x u).getD t Go.undef=if x=t then u else tmps.getD t Go.undef:=by
 rw[Af,Fb];split
 ·simp[hx, *]
 ·rw[Af]
theorem aKU(tm:T V)(v:V)(x t:Nat):(tm.put V.undef v (qn x)).at t=if x=t then v else tm.at t:=by
 rw[T.at,T.get_put];by_cases hx:x=t
 ·subst hx;simp
 ·rw[Ax (λe=>hx (aFS e)),Ax hx]
structure SC (P:Program) (ops:Array Oper):Prop where
 len:(bk P ops).length=ops.size
 edge:pc ops
 tmp:eu (bk P ops) (bk P ops) 0=true
theorem SC.inf(hS:SC P ops){i:Nat}{o:Oper}(ho:ops[i]?=some o):(bk P ops)[i]?=some (.mk ((Lm ops.toList []).getD i 0) (kU ops o) o.dst (LC (bY P o)||Te o.op) (Tn (bY P o)) o.guard.isSome):=by
 have AR:i<(bk P ops).length:=by rw[hS.len];exact(Ad.1 ho).1
 obtain⟨o',b,h1,h2,h3⟩:=ec (P:=P) (ops:=ops) (os:=ops.toList) (bl:=Lm ops.toList []) (i:=i) (f:=(bk P ops)[i]) (show(bk P ops)[i]?=some _ from Bf AR);rw[Bq,ho] at h1;cases h1;rw[Bf AR,h3,Br,h2];rfl
abbrev xm(ops:Array Oper)(i:Nat):Nat:=(Lm ops.toList []).getD i 0
abbrev Iz(P:Program)(o:Oper):Bool:=LC (bY P o)||Te o.op
theorem SC.reads(hS:SC P ops){i j:Nat}{o p:Oper}{t:Nat}(hi:ops[i]?=some o)(hj:ops[j]?=some p)(hd:o.dst=some t)(hr:(kU ops p).testBit t=true)(hw:j=i->Iz P o=false) :
  j≠i/\((xm ops j).testBit i=true\/(Iz P o=true/\(xm ops i).testBit j=true)):=by
 have h1:=z7 hS.tmp i _ t (hS.inf hi) hd;rw[Bn] at h1;have h2:=x7 h1 j _ (hS.inf hj);simp only[Bn] at h2
 have BD:j≠i:=λe=>by
  subst e;rw[hi] at hj;cases hj;rcases h2.1 rfl with h3|h3
  ·have h4:Iz P o=true:=h3
   rw[hw rfl] at h4;cases h4
  ·simp only[Inf.rd] at h3
   rw[h3] at hr;cases hr
 exact⟨BD,(h2.2 BD).2 hr⟩
theorem SC.dsts(hS:SC P ops){i j:Nat}{o p:Oper}{t:Nat}(hi:ops[i]?=some o)(hj:ops[j]?=some p)(hd:o.dst=some t)(BD:j≠i):p.dst≠some t:=by
 have h1:=z7 hS.tmp i _ t (hS.inf hi) hd;rw[Bn] at h1;have h2:=x7 h1 j _ (hS.inf hj);simp only[Bn] at h2;exact(h2.2 BD).1
structure Pnd (P:Program) (n:Nat) (ops:Array Oper) (J:Rho) (h:T O) (β:Nat) (nx:Q) (tm:T V) (pl:List Pl) (qf:Nat->Option Q) (i:Nat) (o:Oper):Prop where
 now:Iz P o=false
 ev:∃(d:Option Q)(g:Option (Q×Bool))(b:OB),gR P n ops o=.mk d g b/\CO.mk d g b≠fY/\∃D7:T V,(∀t,(kU ops o).testBit t=true->D7.at t=tm.at t) /\
  ((iI g D7=some false/\∀x,o.dst=some x->tm.at x=V.undef)\/(iI g D7=some true /\
    ((∃pb v,b=.p pb/\(∀x,o.dst=some x->tm.at x=v)/\((SU pb=true/\j9 i pl=true)\/pK pb D7 h .ok=.ok v)) \/
     (∃ab ob mk q,b=.a ab/\AE ab D7 ob mk/\qf i=some q/\J q=none/\h.ob q=ob/\β<=q.nat/\q.nat < nx.nat/\∀x,o.dst=some x->tm.at x=mk q))))
structure LZ (P:Program) (n:Nat) (ops:Array Oper) (J:Rho) (h:T O) (β:Nat) (nx:Q) (tm:T V) (tmps:Array Value) (pl:List Pl) (E:Nat) (r:List Nat) (qf:Nat->Option Q):Prop where
 sc:SC P ops
 size:n<=tmps.size
 ck:kD (bk P ops) pl E=true
 ord:Ordr ops (λi=>i<ops.size/\i∉r) r
 nd:r.Nodup
 lt:∀i∈r,i<ops.size
 cl:fk ops (λi=>i<ops.size/\i∉r)
 sub:∀i,i<ops.size->i∉r->E.testBit i=true
 ecl:∀i,i<ops.size->E.testBit i=true->∀p,(xm ops i).testBit p=true->E.testBit p=true
 inj:∀i∈r,∀j∈r,E.testBit i=true->E.testBit j=true->∀q,qf i=some q->qf j=some q->i=j
 ql:∀i∈r,E.testBit i=true->∀q,qf i=some q->q.nat < nx.nat
 pend:∀i∈r,E.testBit i=true->∀o,ops[i]?=some o->Pnd P n ops J h β nx tm pl qf i o
 vals:∀t,(∀i∈r,E.testBit i=true->∀o,ops[i]?=some o->o.dst≠some t)->VR J (tm.at t) (tmps.getD t Go.undef)
theorem LZ.before{β:Nat}{pl:List Pl}{E i:Nat}{r:List Nat}{qf:Nat->Option Q}(L:LZ P n ops J h β nx tm tmps pl E (i::r) qf){p:Nat}(hp:(xm ops i).testBit p=true):p∉i::r:=by
 cases L.ord with
 |cons hi hn he hr=>exact(jY L.sc.edge L.cl (i+1) i (by omega) he p hp).2
theorem LZ.reads{β:Nat}{pl:List Pl}{E i:Nat}{r:List Nat}{qf:Nat->Option Q}(L:LZ P n ops J h β nx tm tmps pl E (i::r) qf){o:Oper}(ho:ops[i]?=some o){t:Nat}(ht:(kU ops o).testBit t=true)(hw:Iz P o=true->E.testBit i=false):VR J (tm.at t) (tmps.getD t Go.undef):=by
 refine L.vals t λj hj hE p hp hd=>?_
 have HQ:=(L.pend j hj hE p hp).now;obtain⟨BD,h1⟩:=L.sc.reads hp ho hd ht (λ_=>HQ);rcases h1 with h1|⟨h1,_⟩
 ·exact L.before h1 hj
 ·rw[HQ] at h1;cases h1
end
section
open Go.AM (dI fR)
variable {P:Program}{w0 w:World}{J J':Rho}{h:T O}{nx:Q}{tm:T V}{tmps:Array Value}{ds:List Deferred}{v:V}{ops:Array Oper}{n β E:Nat}{pl:List Pl}{r:List Nat}{qf:Nat->Option Q}
def pR(tmps:Array Value)(d:Option Nat)(u:Value):Array Value :=
 match d with
 |some x=>tmps.setIfInBounds x u
 |none=>tmps
theorem put_eq(d:Option Nat)(u:Value):(⟨tmps,ds⟩:Act).put d u=⟨pR tmps d u,ds⟩:=by cases d<;>rfl
theorem uN(d:Option Nat)(u:Value):(pR tmps d u).size=tmps.size:=by cases d<;>simp[pR]
theorem zO{d:Option Nat}{u:Value}(hd:∀x,d=some x->x<tmps.size)(t:Nat):(pR tmps d u).getD t Go.undef=if d=some t then u else tmps.getD t Go.undef:=by
 cases d with
 |none=>simp[pR]
 |some x =>
  simp only[pR,bZ (hd x rfl),Ak]
theorem AE.uniq{b:AB}{ob Ov:O}{mk mk':Q->V}(h1:AE b tm ob mk)(h2:AE b tm Ov mk'):ob=Ov/\mk=mk':=by
 constructor
 ·have a1:=h1 λob _=>.fuel .e false none [] .nil .nil [] (N5.mk ob wC wC wC wC:N5 O (T9 O)) .e
  have a2:=h2 λob _=>.fuel .e false none [] .nil .nil [] (N5.mk ob wC wC wC wC:N5 O (T9 O)) .e
  rw[a1] at a2;injection a2 with _ _ _ _ _ _ _ hh _;exact Ar (λt:T O=>T.get O.dead t .e) hh
 ·funext q
  have a1:=h1 λ_ mk=>.ok (mk q)
  have a2:=h2 λ_ mk=>.ok (mk q)
  rw[a1] at a2;simpa using a2
theorem y9{o:Oper}{pb:PB}{k:V->AA}{r:V}(hb:bY P o=.p pb)(he:pK pb tm h k=.ok r):∀c,o.op≠.defer c:=λc hc=>by
 obtain⟨dst,op,ty,pos,AH,A8⟩:=o;simp only at hc;subst hc;simp only[bY] at hb
 split at hb
 ·cases hb
 ·split at hb
  ·split at hb
   ·cases hb
   ·cases hb;cases he
  ·cases hb;cases he
 ·cases hb;cases he
theorem y8{o:Oper}{ab:AB}(hb:bY P o=.a ab):∀c,o.op≠.defer c:=λc hc=>by
 obtain⟨dst,op,ty,pos,AH,A8⟩:=o;simp only at hc;subst hc;simp only[bY] at hb
 split at hb
 ·cases hb
 ·split at hb
  ·split at hb<;>cases hb
  ·cases hb
 ·cases hb
theorem zA{o:Oper}{wb:WB}(hb:bY P o=.w wb):∀c,o.op≠.defer c:=λc hc=>by
 obtain⟨dst,op,ty,pos,AH,A8⟩:=o;simp only at hc;subst hc;simp only[bY] at hb
 split at hb
 ·cases hb
 ·split at hb
  ·split at hb<;>cases hb
  ·cases hb
 ·cases hb
theorem LZ.mem_iff{i:Nat}(L:LZ P n ops J h β nx tm tmps pl E (i::r) qf)(j:Nat):(j<ops.size/\j∉r)↔((j<ops.size/\j∉i::r)\/j=i):=by
 have hi:=L.lt i (by simp);have GM:=(Eo.1 L.nd).1;constructor
 ·rintro⟨h1,h2⟩
  by_cases hj:j=i
  ·exact .inr hj
  ·exact .inl ⟨h1,by simp[hj,h2]⟩
 ·rintro(⟨h1,h2⟩|rfl)
  ·exact⟨h1,λh=>h2 (by simp[h])⟩
  ·exact⟨hi,GM⟩
theorem LZ.ord_tail{i:Nat}(L:LZ P n ops J h β nx tm tmps pl E (i::r) qf):Ordr ops (λj=>j<ops.size/\j∉r) r/\fk ops (λj=>j<ops.size/\j∉r):=by
 have hm:=L.mem_iff;cases L.ord with
 |cons hi hn he hr =>
  refine⟨hr.congr λj=>(hm j).symm,λj o hj ho e HV hb=>?_⟩;rcases(hm j).1 hj with h1|rfl
  ·exact(hm _).2 (.inl (L.cl j o h1 ho e HV hb))
  ·exact(hm _).2 (.inl (he o ho e HV hb))
theorem LZ.pop{i:Nat}{o:Oper}{u:Value}(L:LZ P n ops J h β nx tm tmps pl E (i::r) qf)(hE:E.testBit i=true)(ho:ops[i]?=some o)(hρ:J.le J')(hq:∀j∈r,E.testBit j=true->∀q,qf j=some q->J q=none->J' q=none)(hx:∀x,o.dst=some x->VR J' (tm.at x) u/\x<n) :
  LZ P n ops J' h β nx tm (pR tmps o.dst u) pl E r qf:=by
 obtain⟨h1,h2⟩:=L.ord_tail;refine⟨L.sc,by rw[uN];exact L.size,L.ck,h1,(Eo.1 L.nd).2,λj hj=>L.lt j (by simp[hj]),h2,λj hj Pc=>?_,L.ecl,λa ha b hb=>L.inj a (by simp[ha]) b (by simp[hb]),λa ha=>L.ql a (by simp[ha]),λj hj DZ p hp=>?_,λt ht=>?_⟩
 ·by_cases GB:j=i
  ·subst GB;exact hE
  ·exact L.sub j hj (by simp[GB,Pc])
 ·obtain⟨p1,d,g,b,p2,p3,D7,p4,p5⟩:=L.pend j (by simp[hj]) DZ p hp
  refine⟨p1,d,g,b,p2,p3,D7,p4,?_⟩;rcases p5 with p5|⟨p5,p6⟩
  ·exact .inl p5
  ·refine .inr ⟨p5,?_⟩
   rcases p6 with p6|⟨ab,ob,mk,q,q1,q2,qs,q3,q4⟩
   ·exact .inl p6
   ·exact .inr ⟨ab,ob,mk,q,q1,q2,qs,hq j hj DZ q qs q3,q4⟩
 ·rw[zO (λx hd=>Bx (hx x hd).2 L.size)]
  split
  ·rename_i hd;exact(hx t hd).1
  ·rename_i hd
   refine(L.vals t λj hj DZ p hp=>?_).mono hρ;rcases Bb.1 hj with rfl|hj
   ·rw[ho] at hp;cases hp;exact hd
   ·exact ht j hj DZ p hp
theorem LZ.catch1{i:Nat}(L:LZ P n ops J h β nx tm tmps pl E (i::r) qf)(hE:E.testBit i=true)(EB:j9 i pl=false)(H:HR P w0 J h nx w)(b:Frame)(items:List Item)(cs:List Frame) :
  ∃w' J' tmps',Steps P (lone (b.atR ⟨tmps,ds⟩ (.inRegion ops (i::r)::items)) cs w) (lone (b.atR ⟨tmps',ds⟩ (.inRegion ops r::items)) cs w')/\HR P w0 J' h nx w'/\Keep β J h J' h/\LZ P n ops J' h β nx tm tmps' pl E r qf:=by
 have hi:=L.lt i (by simp);obtain⟨o,ho⟩:∃o,ops[i]?=some o:=⟨ops[i],by simp[hi]⟩
 obtain⟨hw,d,g,ob,hc,hb,D7,hrd,Ip⟩:=L.pend i (by simp) hE o ho;obtain⟨Sk,hd,hx,hg⟩:=fA hc hb
 have MA:∀t,(kU ops o).testBit t=true->VR J (D7.at t) (tmps.getD t Go.undef):=λt ht=>by
  rw[hrd t ht];exact L.reads ho ht (λh=>by rw[hw] at h;cases h)
 have hT:XR J D7 tmps o.op.operands.toList:=λt ht=>MA t (aFW ht)
 have B2:∀bb,iI g D7=some bb->Region.wanted o (yielded ops tmps)=bb:=λbb hp=>uU hg L.size (λj want t h1 h2=>MA t (pF h1 h2)) hp
 rcases Ip with⟨h1,h2⟩|⟨h1,h2⟩
 ·refine⟨w,J,pR tmps o.dst Go.undef,Steps.one ?_,H,Keep.refl _ _ _,L.pop hE ho (Rho.le_refl _) (λ_ _ _ _ _ h=>h) λx GV=>⟨by rw[h2 x GV];exact VR.undef,hx x GV⟩⟩
  rw[<-put_eq,show o.dst=(ops[i]?).bind (·.dst) by rw[ho];rfl];exact stepR_op_skip (by rw[ho];simp[B2 false h1])
 ·rcases h2 with⟨pb,v,rfl,hv,h3⟩|⟨ab,oo,mk,qi,rfl,hA,hqs,Ms,V7,hq3,hq4,hq5⟩
  ·have h3:=h3.resolve_left (λh=>by rw[EB] at h;cases h.2)
   obtain⟨v',FW,u,hu,huv⟩:=aFG (ds:=ds) H Sk.symm hT h3;have hvv:v'=v:=by simpa using FW
   subst hvv;refine⟨w,J,pR tmps o.dst u,Steps.one ?_,H,Keep.refl _ _ _,L.pop hE ho (Rho.le_refl _) (λ_ _ _ _ _ h=>h) λx GV=>⟨by rw[hv x GV];exact huv,hx x GV⟩⟩;rw[<-put_eq];exact dI ho (B2 true h1) (y9 Sk.symm h3) hu
  ·obtain⟨Ov,mk',a1,_,a3⟩:=aDj (ds:=ds) (k:=λ_ _=>.ok V.undef) (r:=V.undef) H Sk.symm hT (by rw[hA])
   obtain⟨rfl,rfl⟩:=a1.uniq hA;obtain⟨x,N,u,a4,a5⟩:=a3.run;obtain⟨a6,a7⟩:=a5 qi Ms;have hle:=Rho.set_le (b:=w.heap.size) (N:=N) Ms;refine⟨w.alloc x,J.set qi w.heap.size N,pR tmps o.dst u,Steps.one ?_,H.born Ms hq4 (by rw[V7];exact a6),⟨hle,λq AR hn=>⟨?_,rfl⟩⟩,L.pop hE ho hle (λj hj DZ q hqj hn=>?_) λy hyd=>⟨by rw[hq5 y hyd];exact a7,hx y hyd⟩⟩
   ·rw[<-put_eq]
    exact dI ho (B2 true h1) (y8 Sk.symm) a4
   ·unfold Rho.set
    rw[Ax (λe=>by subst e;omega)];exact hn
   ·unfold Rho.set
    rw[Ax (λe=>?_)];exact hn;subst e;have GB:=L.inj j (by simp[hj]) i (by simp) DZ hE _ hqj hqs;subst GB;exact(Eo.1 L.nd).1 hj
theorem LZ.catchAll(b:Frame)(items:List Item)(cs:List Frame):∀{r1 r2:List Nat}{w:World}{J:Rho}{tmps:Array Value},LZ P n ops J h β nx tm tmps pl E (r1++r2) qf->(∀i∈r1,E.testBit i=true/\j9 i pl=false)->HR P w0 J h nx w ->
  ∃w' J' tmps',Steps P (lone (b.atR ⟨tmps,ds⟩ (.inRegion ops (r1++r2)::items)) cs w) (lone (b.atR ⟨tmps',ds⟩ (.inRegion ops r2::items)) cs w')/\HR P w0 J' h nx w'/\Keep β J h J' h/\LZ P n ops J' h β nx tm tmps' pl E r2 qf
 |[],r2,w,J,tmps,L,_,H=>⟨w,J,tmps,Steps.refl _ _,H,Keep.refl _ _ _,L⟩
 |i::r1,r2,w,J,tmps,L,hp,H=>by
  obtain⟨w1,J1,BO,s1,H1,k1,L1⟩:=LZ.catch1 (ds:=ds) (r:=r1++r2) L (hp i (by simp)).1 (hp i (by simp)).2 H b items cs;obtain⟨w2,J2,EU,s2,H2,k2,L2⟩:=LZ.catchAll b items cs L1 (λj hj=>hp j (by simp[hj])) H1;exact⟨w2,J2,EU,s1.trans s2,H2,k1.trans k2,L2⟩
end
section
variable {P:Program}{w0 w:World}{J J':Rho}{h h':T O}{nx nx':Q}{tm:T V}{tmps:Array Value}{ds:List Deferred}{v:V}{ops:Array Oper}{n β E:Nat}{pl:List Pl}{r:List Nat}{qf:Nat->Option Q}
def wE(tm:T V)(d:Option Nat)(v:V):T V :=
 match d with
 |some x=>tm.put V.undef v (qn x)
 |none=>tm
theorem hZ(tm:T V)(d:Option Nat)(v:V)(t:Nat):(wE tm d v).at t=if d=some t then v else tm.at t:=by
 cases d with
 |none=>simp[wE]
 |some x=>simp only[wE,aKU,Ak]
theorem eX(d:Option Nat)(v:V)(tm:T V)(k:T V->AA):rB (d.map qn) v tm k=k (wE tm d v):=by
 cases d with
 |none=>rfl
 |some x=>simp only[Bw,rB,U1,wE]
theorem gY{E i j:Nat}:(E ||| 2^i).testBit j=true↔E.testBit j=true\/j=i:=by
 rw[Gg,Fe,Db,Am];exact⟨λh=>h.imp id Eq.symm,λh=>h.imp id Eq.symm⟩
theorem gQ{E i j:Nat}(h:E.testBit j=true):(E ||| 2^i).testBit j=true:=gY.2 (.inl h)
theorem xX{fs:List Inf}{i:Nat}{l:List Pl}(h:kD fs (.run i::l) E=true):∃f,fs[i]?=some f/\E.testBit i=false/\sub f.bf E=true/\(f.w=true->Nl i f.bf E l fs 0=true)/\kD fs l (E ||| 2^i)=true:=by
 simp only[kD] at h
 split at h
 ·cases h
 ·rename_i f hf
  simp only[Ac,Cd,Db] at h;exact⟨f,hf,h.1.1.1,h.1.1.2,λhw=>h.1.2.resolve_left (λh'=>by rw[hw] at h';cases h'),h.2⟩
theorem aLa{fs:List Inf}{i:Nat}{l:List Pl}(h:kD fs (.chk i::l) E=true):kD fs l E=true:=by
 simp only[kD] at h
 split at h
 ·cases h
 ·simp only[Ac] at h;exact h.2
theorem ru{o:Oper}{g:Option (Q×Bool)}{tm D7:T V}(hg:(o.guard=none/\g=none)\/∃j want t,o.guard=some (j,want)/\(ops[j]?).bind (·.dst)=some t/\g=some (qn t,want)/\t<n)
  (hrd:∀t,(kU ops o).testBit t=true->D7.at t=tm.at t):iI g D7=iI g tm:=by
 rcases hg with⟨_,rfl⟩|⟨j,want,t,h1,h2,rfl,_⟩
 ·rfl
 ·have:=hrd t (pF h1 h2)
  simp only[iI];rw[show D7.get V.undef (qn t)=tm.get V.undef (qn t) from this]
theorem LZ.chk{i:Nat}(L:LZ P n ops J h β nx tm tmps (.chk i::pl) E r qf)
  (hc:∀o d g pb,ops[i]?=some o->gR P n ops o=.mk d g (.p pb)->iI g tm=some true->∃x,o.dst=some x/\pK pb tm h .ok=.ok (tm.at x)):LZ P n ops J h β nx tm tmps pl E r qf:=by
 refine⟨L.sc,L.size,aLa L.ck,L.ord,L.nd,L.lt,L.cl,L.sub,L.ecl,L.inj,L.ql,λj hj hE o ho=>?_,L.vals⟩;obtain⟨p1,d,g,b,p2,p3,D7,p4,p5⟩:=L.pend j hj hE o ho;rcases p5 with p5|⟨p5,p6⟩
 ·exact⟨p1,d,g,b,p2,p3,D7,p4,.inl p5⟩
 ·rcases p6 with⟨pb,v,rfl,q1,q2⟩|p6
  ·rcases q2 with⟨q2,q3⟩|q2
   ·simp only[j9] at q3
    split at q3
    ·rename_i hb
     have GB:=Aa hb;subst GB;obtain⟨_,_,_,hg⟩:=fA p2 p3;have hgp:iI g tm=some true:=by rw[<-ru hg p4];exact p5
     obtain⟨x,hx,Ip⟩:=hc o d g pb ho p2 hgp;exact⟨p1,d,g,_,p2,p3,tm,λt _=>rfl,.inr ⟨hgp,.inl ⟨pb,tm.at x,rfl,λy hy=>by rw[hx] at hy;cases hy;rfl,.inr Ip⟩⟩⟩
    ·exact⟨p1,d,g,_,p2,p3,D7,p4,.inr ⟨p5,.inl ⟨pb,v,rfl,q1,.inl ⟨q2,q3⟩⟩⟩⟩
   ·exact⟨p1,d,g,_,p2,p3,D7,p4,.inr ⟨p5,.inl ⟨pb,v,rfl,q1,.inr q2⟩⟩⟩
  ·exact⟨p1,d,g,b,p2,p3,D7,p4,.inr ⟨p5,.inr p6⟩⟩
theorem LZ.eager{i:Nat}{o:Oper}(L:LZ P n ops J h β nx tm tmps (.run i::pl) E r qf)(ho:ops[i]?=some o)(hw:Iz P o=false){v:V}{qf':Nat->Option Q}(LW:nx.nat<=nx'.nat)
  (hh:∀q,q.nat < nx.nat->h'.ob q=h.ob q) (CZ:h'=h\/∀pb,bY P o≠.p pb) (PV:∀j,j≠i->qf' j=qf j)
  (NK:∀q,qf' i=some q->q.nat < nx'.nat/\∀j∈r,E.testBit j=true->qf j≠some q)
  (hP:∃(d:Option Q)(g:Option (Q×Bool))(b:OB),gR P n ops o=.mk d g b/\CO.mk d g b≠fY/\((iI g tm=some false/\v=V.undef)\/(iI g tm=some true /\
   ((∃pb,b=.p pb/\pK pb tm h' .ok=.ok v)\/(∃ab ob mk q,b=.a ab/\AE ab tm ob mk/\qf' i=some q/\J q=none/\h'.ob q=ob/\β<=q.nat/\q.nat < nx'.nat/\v=mk q)))))
  (hpk:∀j∈r,E.testBit j=true->∀pb D7 v',pK pb D7 h .ok=.ok v'->(∃p,ops[j]?=some p/\bY P p=.p pb)->pK pb D7 h' .ok=.ok v') :
  LZ P n ops J h' β nx' (wE tm o.dst v) tmps pl (E ||| 2^i) r qf':=by
 obtain⟨f,hf,MQ,LJ,_,EB⟩:=xX L.ck;have BG:i<ops.size:=(Ad.1 ho).1;have MN:=L.sc.inf ho;rw[hf] at MN;have KR:=Ap MN;have WO:∀p,(xm ops i).testBit p=true->E.testBit p=true:=λp hp=>aGa LJ p (by rw[KR];exact hp)
 have Io:i∈r:=by
  by_cases Io:i∈r
  ·exact Io
  ·have:=L.sub i BG Io;rw[MQ] at this;cases this
 have Jl:∀j p t,j∈r->E.testBit j=true->ops[j]?=some p->(kU ops p).testBit t=true->o.dst≠some t:=λj p t hj DZ hp hrd hd=>by
  obtain⟨BD,h1⟩:=L.sc.reads ho hp hd hrd (λe=>by subst e;rw[MQ] at DZ;cases DZ);rcases h1 with h1|⟨h1,_⟩
  ·have:=L.ecl j (L.lt j hj) DZ i h1
   rw[MQ] at this;cases this
  ·rw[hw] at h1;cases h1
 refine⟨L.sc,L.size,EB,L.ord,L.nd,L.lt,L.cl,λj hj Pc=>gQ (L.sub j hj Pc),λj hj DZ p hp=>?_,λa ha b hb NY Sl q I0 GY=>?_,λa ha NY q I0=>?_,λj hj DZ p hp=>?_,λt ht=>?_⟩
 ·rcases gY.1 DZ with DZ|rfl
  ·exact gQ (L.ecl j hj DZ p hp)
  ·exact gQ (WO p hp)
 ·by_cases hai:a=i
  ·subst hai
   by_cases hbi:b=a
   ·exact hbi.symm
   ·have NX:=(gY.1 Sl).resolve_right hbi
    rw[PV b hbi] at GY;exact absurd GY ((NK q I0).2 b hb NX)
  ·have QE:=(gY.1 NY).resolve_right hai
   rw[PV a hai] at I0;by_cases hbi:b=i
   ·subst hbi
    exact absurd I0 ((NK q GY).2 a ha QE)
   ·have NX:=(gY.1 Sl).resolve_right hbi
    rw[PV b hbi] at GY;exact L.inj a ha b hb QE NX q I0 GY
 ·by_cases hai:a=i
  ·subst hai;exact(NK q I0).1
  ·rw[PV a hai] at I0
   exact Bx (L.ql a ha ((gY.1 NY).resolve_right hai) q I0) LW
 ·by_cases GB:j=i
  ·subst GB
   rw[ho] at hp;cases hp;obtain⟨d,g,b,p2,p3,p5⟩:=hP;refine⟨hw,d,g,b,p2,p3,tm,λt ht=>?_,?_⟩
   ·rw[hZ,Ax (λhd=>?_)]
    have:=(L.sc.reads ho ho hd ht (λ_=>hw)).1
    exact this rfl
   ·rcases p5 with⟨a1,a2⟩|⟨a1,a2⟩
    ·exact .inl ⟨a1,λx hx=>by rw[hZ,Bo hx];exact a2⟩
    ·refine .inr ⟨a1,?_⟩
     rcases a2 with⟨pb,rfl,a3⟩|⟨ab,ob,mk,q,rfl,a3,as,a4,a5,a6,a7,a8⟩
     ·exact .inl ⟨pb,v,rfl,λx hx=>by rw[hZ,Bo hx],.inr a3⟩
     ·exact .inr ⟨ab,ob,mk,q,rfl,a3,as,a4,a5,a6,a7,λx hx=>by rw[hZ,Bo hx];exact a8⟩
  ·have IE:=(gY.1 DZ).resolve_right GB
   obtain⟨p1,d,g,b,p2,p3,D7,p4,p5⟩:=L.pend j hj IE p hp
   have GF:∀x,p.dst=some x->(wE tm o.dst v).at x=tm.at x:=λx hx=>by
    rw[hZ,Ax (λhd=>L.sc.dsts ho hp hd GB hx)]
   refine⟨p1,d,g,b,p2,p3,D7,λt ht=>?_,?_⟩
   ·rw[p4 t ht,hZ,Ax (Jl j p t hj IE hp ht)]
   ·rcases p5 with⟨a1,a2⟩|⟨a1,a2⟩
    ·exact .inl ⟨a1,λx hx=>by rw[GF x hx];exact a2 x hx⟩
    ·refine .inr ⟨a1,?_⟩
     rcases a2 with⟨pb,v',rfl,a3,a4⟩|⟨ab,ob,mk,q,rfl,a3,as,a4,a5,a6,a7,a8⟩
     ·refine .inl ⟨pb,v',rfl,λx hx=>by rw[GF x hx];exact a3 x hx,?_⟩
      rcases a4 with⟨a4,a5⟩|a4
      ·exact absurd a5 (by simp[j9])
      ·exact .inr (hpk j hj IE pb D7 v' a4 ⟨p,hp,((fA p2 p3).1).symm⟩)
     ·rw[<-PV j GB] at as
      exact .inr ⟨ab,ob,mk,q,rfl,a3,as,a4,by rw[hh _ a7];exact a5,a6,Bx a7 LW,λx hx=>by rw[GF x hx];exact a8 x hx⟩
 ·have D0:o.dst≠some t:=ht i Io (gY.2 (.inr rfl)) o ho
  rw[hZ,Ax D0];exact L.vals t λj hj DZ p hp=>ht j hj (gQ DZ) p hp
theorem LZ.sync{i:Nat}{o:Oper}{u:Value}(L:LZ P n ops J h β nx tm tmps (.run i::pl) E (i::r) qf)(ho:ops[i]?=some o)(hw:Iz P o=true){v:V}(hx:∀x,o.dst=some x->x<n)(LW:nx.nat<=nx'.nat)(hK:Keep nx.nat J h J' h')(hv:VR J' v u) :
  LZ P n ops J' h' β nx' (wE tm o.dst v) (pR tmps o.dst u) pl (E ||| 2^i) r qf:=by
 obtain⟨f,hf,MQ,LJ,Mi,EB⟩:=xX L.ck;have MN:=L.sc.inf ho;rw[hf] at MN;have KR:=Ap MN;have WO:∀p,(xm ops i).testBit p=true->E.testBit p=true:=λp hp=>aGa LJ p (by rw[KR];exact hp)
 have VN:=zw (Mi (by rw[KR];exact hw));obtain⟨g1,g2⟩:=L.ord_tail;have BD:∀j∈r,j≠i:=λj hj e=>by subst e;exact(Eo.1 L.nd).1 hj
 have I7:∀j∈r,(xm ops i).testBit j=true->False:=λj hj hb=>L.before hb (by simp[hj])
 have Jl:∀j p t,j∈r->E.testBit j=true->ops[j]?=some p->(kU ops p).testBit t=true->o.dst≠some t:=λj p t hj DZ hp hrd hd=>by
  obtain⟨_,h1⟩:=L.sc.reads ho hp hd hrd (λe=>absurd e (BD j hj));rcases h1 with h1|⟨_,h1⟩
  ·have:=L.ecl j (L.lt j (by simp[hj])) DZ i h1
   rw[MQ] at this;cases this
  ·exact I7 j hj h1
 refine⟨L.sc,by rw[uN];exact L.size,EB,g1,(Eo.1 L.nd).2,λj hj=>L.lt j (by simp[hj]),g2,λj hj Pc=>?_,λj hj DZ p hp=>?_,λa ha b hb NY Sl=>L.inj a (by simp[ha]) b (by simp[hb]) ((gY.1 NY).resolve_right (BD a ha)) ((gY.1 Sl).resolve_right (BD b hb)),λa ha NY q I0=>Bx (L.ql a (by simp[ha]) ((gY.1 NY).resolve_right (BD a ha)) q I0) LW,λj hj DZ p hp=>?_,λt ht=>?_⟩
 ·by_cases GB:j=i
  ·exact gY.2 (.inr GB)
  ·exact gQ (L.sub j hj (by simp[GB,Pc]))
 ·rcases gY.1 DZ with DZ|rfl
  ·exact gQ (L.ecl j hj DZ p hp)
  ·exact gQ (WO p hp)
 ·have IE:=(gY.1 DZ).resolve_right (BD j hj)
  obtain⟨p1,d,g,b,p2,p3,D7,p4,p5⟩:=L.pend j (by simp[hj]) IE p hp
  have GF:∀x,p.dst=some x->(wE tm o.dst v).at x=tm.at x:=λx hx=>by
   rw[hZ,Ax (λhd=>L.sc.dsts ho hp hd (BD j hj) hx)]
  refine⟨p1,d,g,b,p2,p3,D7,λt ht=>?_,?_⟩
  ·rw[p4 t ht,hZ,Ax (Jl j p t hj IE hp ht)]
  ·rcases p5 with⟨a1,a2⟩|⟨a1,a2⟩
   ·exact .inl ⟨a1,λx hx=>by rw[GF x hx];exact a2 x hx⟩
   ·refine .inr ⟨a1,?_⟩
    rcases a2 with⟨pb,v',rfl,a3,a4⟩|⟨ab,ob,mk,q,rfl,a3,as,a4,a5,a6,a7,a8⟩
    ·refine .inl ⟨pb,v',rfl,λx hx=>by rw[GF x hx];exact a3 x hx,?_⟩
     have a4:=a4.resolve_left (λh=>by simp[j9] at h);cases hr:SU pb with
     |false=>exact .inr (by rw[<-a4];exact aA3 hr _ _)
     |true =>
      left;refine⟨rfl,?_⟩;have hfj:=L.sc.inf hp;have h2:=(VN j _ hfj (by rw[Bn];exact BD j hj)).2;simp only[Bn] at h2;have C6:Tn (bY P p)=true:=by rw[<-(fA p2 p3).1];exact hr
      rcases h2 IE C6 with h3|h3
      ·rw[KR] at h3;exact(I7 j hj h3).elim
      ·exact h3
    ·obtain⟨k1,k2⟩:=hK.pend q a7 a4
     exact .inr ⟨ab,ob,mk,q,rfl,a3,as,k1,by rw[k2];exact a5,a6,Bx a7 LW,λx hx=>by rw[GF x hx];exact a8 x hx⟩
 ·rw[hZ,zO (λx hd=>Bx (hx x hd) L.size)]
  split
  ·exact hv
  ·rename_i hd
   refine(L.vals t λj hj DZ p hp=>?_).mono hK.le;rcases Bb.1 hj with rfl|hj
   ·rw[MQ] at DZ;cases DZ
   ·exact ht j hj (gQ DZ) p hp
theorem LZ.ahead{i:Nat}{o:Oper}(L:LZ P n ops J h β nx tm tmps (.run i::pl) E r qf)(ho:ops[i]?=some o)(hw:Iz P o=true):∃r1 r2,r=r1++i::r2/\∀j∈r1,E.testBit j=true/\j9 j (.run i::pl)=false:=by
 obtain⟨f,hf,MQ,LJ,Mi,EB⟩:=xX L.ck;have MN:=L.sc.inf ho;rw[hf] at MN;have KR:=Ap MN;have VN:=zw (Mi (by rw[KR];exact hw));have BG:i<ops.size:=(Ad.1 ho).1
 have main:∀(r:List Nat)(D:Nat->Prop),Ordr ops D r->fk ops D->¬D i->(∀j,j<ops.size->D j->E.testBit j=true)->∃r1 r2,r=r1++i::r2/\∀j∈r1,E.testBit j=true:=by
  intro r;induction r with
  |nil =>
   intro D hO _ hD _;cases hO with|nil h=>exact absurd (h i BG) hD
  |cons k r ih =>
   intro D hO hC hD hE;cases hO with
   |cons hk hn he hr =>
   by_cases hki:k=i
   ·subst hki;exact⟨[],r,rfl,by simp⟩
   ·have hEk:E.testBit k=true:=by
     cases hb:E.testBit k with
     |true=>rfl
     |false =>
      obtain⟨p,hp⟩:∃p,ops[k]?=some p:=⟨ops[k],by simp[hk]⟩
      have h2:=(VN k _ (L.sc.inf hp) (by rw[Bn];exact hki)).1;simp only[Bn] at h2;exact absurd (jY L.sc.edge hC (k+1) k (by omega) he i (h2 hb)) hD
    obtain⟨r1,r2,h1,h2⟩:=ih _ hr (λj o hj DL e HV AX=>by
     rcases hj with hj|rfl
     ·exact .inl (hC j o hj DL e HV AX)
     ·exact .inl (he o DL e HV AX)) (λh=>h.elim hD (λe=>hki e.symm)) (λj hj W5=>by
     rcases W5 with W5|rfl
     ·exact hE j hj W5
     ·exact hEk)
    exact⟨k::r1,r2,by rw[h1];rfl,λj hj=>by
     rcases Bb.1 hj with rfl|hj
     ·exact hEk
     ·exact h2 j hj⟩
 obtain⟨r1,r2,h1,h2⟩:=main r _ L.ord L.cl (λhD=>by
  have:=L.sub i hD.1 hD.2;rw[MQ] at this;cases this) (λj hj hD=>L.sub j hj hD.2)
 exact⟨r1,r2,h1,λj hj=>⟨h2 j hj,rfl⟩⟩
theorem LZ.atEnd(L:LZ P n ops J h β nx tm tmps [] E r qf):∀i∈r,E.testBit i=true/\j9 i []=false:=λi hi=>by
 have h1:=Aa L.ck;refine⟨?_,rfl⟩;rw[h1,L.sc.len,Nat.testBit_two_pow_sub_one];simpa using L.lt i hi
theorem LZ.done(L:LZ P n ops J h β nx tm tmps pl E [] qf):TR J n tm tmps:=⟨L.size,λt=>L.vals t λi hi=>by cases hi⟩
theorem LZ.start{tm:T V}(hT:TR J n tm tmps)(hS:SC P ops)(EB:kD (bk P ops) pl 0=true)(hr:Ordr ops (λ_=>False) r)(GM:r.Nodup)(AR:∀i∈r,i<ops.size)(CN:∀i,i<ops.size->i∈r)(qf:Nat->Option Q):LZ P n ops J h β nx tm tmps pl 0 r qf:=by
 have hD:∀i,False↔(i<ops.size/\i∉r):=λi=>⟨λh=>h.elim,λh=>h.2 (CN i h.1)⟩
 refine⟨hS,hT.size,EB,hr.congr hD,GM,AR,λj o hj=>absurd (CN j hj.1) hj.2,λi hi Io=>absurd (CN i hi) Io,λi _ h=>by simp at h,λi _ j _ h=>by simp at h,λi _ h=>by simp at h,λi _ h=>by simp at h,λt _=>hT.rel t⟩
end
section
variable {P:Program}{w0 w:World}{J J':Rho}{h h':T O}{nx nx':Q}{tm:T V}{tmps:Array Value}{v:V}{ops:Array Oper}{n β:Nat}
inductive DsR (P:Program) (J:Rho):List Df->List Deferred->Prop where
 |nil:DsR P J [] []
 |call (g:Nat) (cs:List V) (av cv:List Value) (ds:List Df) (AU:List Deferred) (hv:VRs J cs (av++cv)) (hr:DsR P J ds AU):DsR P J (.call (qn g) cs::ds) ({ target:=.fn (.func g) ⟨cv⟩,args:=⟨av⟩ }::AU)
 |coll (q:Q) (b N:Nat) (ds:List Df) (AU:List Deferred) (hq:J q=some (b,N)) (hr:DsR P J ds AU):DsR P J (.coll q::ds) ({ target:=.collected b,args:=#[] }::AU)
 |del (s:KK) (m key:V) (ts:Array TypeId) (ty:TypeId) (cs:Array Bool) (t el:TypeId) (um uk:Value) (ds:List Df) (AU:List Deferred) (ht:ts[0]?=some t) (hm:tZ P t=some (s,el)) (hv:VR J m um) (hk:VR J key uk) (hr:DsR P J ds AU) :
   DsR P J (.del s m key::ds) ({ target:=.builtin .delete ts ty cs,args:=#[um,uk] }::AU)
theorem DsR.mono{ds:List Df}{AU:List Deferred}(hp:J.le J')(h:DsR P J ds AU):DsR P J' ds AU:=by
 induction h with
 |nil=>exact .nil
 |call g cs av cv ds AU hv hr ih=>exact .call g cs av cv ds AU (hv.mono hp) ih
 |coll q b N ds AU hq hr ih=>exact .coll q b N ds AU (hp _ _ hq) ih
 |del s m key ts ty cs t el um uk ds AU ht hm hv hk hr ih=>exact .del s m key ts ty cs t el um uk ds AU ht hm (hv.mono hp) (hk.mono hp) ih
inductive KS (P:Program) (n:Nat):K->List Item->Prop where
 |nil:KS P n .nil []
 |code (c:Code) (k:K) (ks:List Item) (h:KS P n k ks):KS P n (.code (dF P n c) k) (.code c::ks)
 |blk (id:Nat) (k:K) (ks:List Item) (h:KS P n k ks):KS P n (.blk id k) (.inBlock id::ks)
 |lp (c:Code) (k:K) (ks:List Item) (h:KS P n k ks):KS P n (.lp (dF P n c) k) (.inLoop c::ks)
 |sc (c:Code) (k:K) (ks:List Item) (h:KS P n k ks):KS P n (.sc k) (.inScope c::ks)
 |begin (k:K) (ks:List Item) (h:KS P n k ks):KS P n (.begin k) (.beginRound::ks)
def RDR(J:Rho):Option Q->Option Nat->Prop
 |none,none=>True
 |some l,some b=>∃N,J l=some (b,N)
 |_,_=>False
theorem RDR.mono{rd:Option Q}{ro:Option Nat}(hp:J.le J')(h:RDR J rd ro):RDR J' rd ro:=by
 cases rd<;>cases ro<;>first|exact h|exact⟨_,hp _ _ h.choose_spec⟩
structure FB (P:Program) (J:Rho) (f:Q) (dk:Bool) (rd:Option Q) (b:Frame):Prop where
 fn:b.fn=f.nat
 kind:b.kind=if dk then .deferred else .normal
 ro:RDR J rd b.roundOf
 rk:rd≠none->dk=false
theorem FB.mono{f:Q}{dk:Bool}{rd:Option Q}{b:Frame}(hp:J.le J')(h:FB P J f dk rd b):FB P J' f dk rd b:=⟨h.fn,h.kind,h.ro.mono hp,h.rk⟩
inductive Cur (P:Program) (J:Rho) (h:T O) (β:Nat) (nx:Q) (n:Nat) (tm:T V):K->(Array Value->List Deferred->Frame->Frame->Prop)->Prop where
 |plain (k:K) (ks:List Item) (hk:KS P n k ks):Cur P J h β nx n tm k (λtmps AU b fr=>TR J n tm tmps/\fr=b.atR ⟨tmps,AU⟩ ks)
 |sync (ops:Array Oper) (i:Nat) (k:K) (ks:List Item) (hi:i<=ops.size) (hk:KS P n k ks):Cur P J h β nx n tm (.reg ((ops.toList.drop i).map λo=>.op (gR P n ops o)) k) (λtmps AU b fr=>TR J n tm tmps/\fr=b.atR ⟨tmps,AU⟩ (.inRegion ops (List.range' i (ops.size-i))::ks))
 |drawn (ops:Array Oper) (pl:List Pl) (E:Nat) (r:List Nat) (qf:Nat->Option Q) (k:K) (ks:List Item) (hk:KS P n k ks):Cur P J h β nx n tm (.reg (pl.map (zd P n ops)) k) (λtmps AU b fr=>LZ P n ops J h β nx tm tmps pl E r qf/\fr=b.atR ⟨tmps,AU⟩ (.inRegion ops r::ks))
 |erf (l:Q) (bl N:Nat) (k:K) (ks:List Item) (hl:J l=some (bl,N)) (hk:KS P n k ks):Cur P J h β nx n tm (.erf l k) (λtmps AU b fr=>TR J n tm tmps/\fr=b.atR ⟨tmps,AU⟩ (.endRangeFunc bl::ks))
 |bad (l:List PS) (k:K):Cur P J h β nx n tm (.reg (.op fY::l) k) (λ_ _ _ _=>True)
 |rtn (ks:List Item):Cur P J h β nx n tm .rtn (λtmps AU b fr=>TR J n tm tmps/\fr={ b.atR ⟨tmps,AU⟩ ks with mode:=.returning })
structure FR (P:Program) (J:Rho) (h:T O) (β:Nat) (nx:Q) (f:Q) (dk:Bool) (rd:Option Q) (ds:List Df) (tm:T V) (k:K) (fr:Frame):Prop where
 le:β<=nx.nat
 rel:∃b AU tmps C,FB P J f dk rd b/\DsR P J ds AU/\(rd≠none->ds=[])/\Cur P J h β nx (nt P f.nat) tm k C/\C tmps AU b fr
inductive Wt (P:Program) (J:Rho) (h:T O) (β:Nat) (nx:Q) (n:Nat) (tm:T V):K->(Array Value->List Deferred->Frame->Frame->Prop)->Prop where
 |sync (ops:Array Oper) (i:Nat) (o:Oper) (d:Option Q) (g:Option (Q×Bool)) (ob:OB) (k:K) (ks:List Item) (ho:ops[i]?=some o) (hc:gR P n ops o=.mk d g ob) (hw:LC ob=true) (hk:KS P n k ks) :
   Wt P J h β nx n tm (.reg (.op (.mk d g ob)::(ops.toList.drop (i+1)).map λo=>.op (gR P n ops o)) k) (λtmps AU b fr=>TR J n tm tmps/\fr=b.atR ⟨tmps,AU⟩ (.inRegion ops (i::List.range' (i+1) (ops.size-(i+1)))::ks))
 |drawn (ops:Array Oper) (i:Nat) (o:Oper) (d:Option Q) (g:Option (Q×Bool)) (ob:OB) (pl:List Pl) (E:Nat) (r:List Nat) (qf:Nat->Option Q) (k:K) (ks:List Item) (ho:ops[i]?=some o) (hc:gR P n ops o=.mk d g ob) (hw:LC ob=true) (hk:KS P n k ks) :
   Wt P J h β nx n tm (.reg (.op (.mk d g ob)::pl.map (zd P n ops)) k) (λtmps AU b fr=>LZ P n ops J h β nx tm tmps (.run i::pl) E (i::r) qf/\fr=b.atR ⟨tmps,AU⟩ (.inRegion ops (i::r)::ks))
 |inrf (l:Q) (bl N:Nat) (k:K) (ks:List Item) (hl:J l=some (bl,N)) (hk:KS P n k ks):Wt P J h β nx n tm (.inrf l k) (λtmps AU b fr=>TR J n tm tmps/\fr=b.atR ⟨tmps,AU⟩ (.inRangeFunc bl::ks))
 |rtn (ks:List Item):Wt P J h β nx n tm .rtn (λtmps AU b fr=>TR J n tm tmps/\fr={ b.atR ⟨tmps,AU⟩ ks with mode:=.returning })
structure WR (P:Program) (J:Rho) (h:T O) (β:Nat) (nx:Q) (f:Q) (dk:Bool) (rd:Option Q) (ds:List Df) (tm:T V) (k:K) (fr:Frame):Prop where
 le:β<=nx.nat
 rel:∃b AU tmps C,FB P J f dk rd b/\DsR P J ds AU/\(rd≠none->ds=[])/\Wt P J h β nx (nt P f.nat) tm k C/\C tmps AU b fr
inductive StkR (P:Program):Rho->T O->List Fr->List Frame->Nat->Prop where
 |nil (J:Rho) (h:T O) (β:Nat):StkR P J h [] [] β
 |cons (J J':Rho) (h h':T O) (f:Q) (dk:Bool) (rd:Option Q) (ds:List Df) (tm:T V) (k:K) (cs:List Fr) (fr:Frame) (frs:List Frame) (β β':Nat) (nx:Q) (hf:WR P J h β nx f dk rd ds tm k fr) (hn:nx.nat<=β') (hK:Keep nx.nat J h J' h') (hs:StkR P J' h' cs frs β) :
   StkR P J' h' (.mk f dk rd ds tm k::cs) (fr::frs) β'
theorem StkR.mono{cs:List Fr}{frs:List Frame}(hs:StkR P J h cs frs β)(hK:Keep β J h J' h'):StkR P J' h' cs frs β:=by
 induction hs generalizing J' h' with
 |nil=>exact .nil _ _ _
 |cons J J1 h h1 f dk rd ds tm k cs fr frs β β' nx hf hn hK1 hs ih =>
  exact .cons J J' h h' f dk rd ds tm k cs fr frs β β' nx hf hn (hK1.trans (hK.down hn)) (ih (hK.down (Bj hf.le hn)))
def Final(P:Program)(w0:World)(m:Machine)(c0:Frame)(cs0:List Frame)(v:V):Prop :=
 ∃w' J' h' nx' u x,Steps P m (lone (c0.finish u) cs0 w')/\HR P w0 J' h' nx' w'/\VR J' x u/\fin x h'=v
def Good(P:Program)(ih:E9):Prop:=∀(w0 w:World)(J:Rho)(β:Nat)(f:Q)(dk:Bool)(rd:Option Q)(ds:List Df)(tm:T V)(k:K)(cs:List Fr)(h:T O)(nx:Q)(v:V)(fr:Frame)(frs:List Frame)(c0:Frame)(cs0:List Frame),
 ih f dk rd ds tm k cs h nx=.ok v->HR P w0 J h nx w->FR P J h β nx f dk rd ds tm k fr->StkR P J h cs frs β->Final P w0 (lone fr (frs++c0::cs0) w) c0 cs0 v
theorem Final.steps{m m':Machine}{c0:Frame}{cs0:List Frame}(hs:Steps P m m')(h:Final P w0 m' c0 cs0 v):Final P w0 m c0 cs0 v:=by
 obtain⟨w',J',h',nx',u,x,s,a,b⟩:=h;exact⟨w',J',h',nx',u,x,hs.trans s,a,b⟩
end
section
variable {P:Program}{w0 w:World}{J J':Rho}{h h':T O}{nx nx':Q}{tm:T V}{tmps:Array Value}{v:V}{ops:Array Oper}{n β:Nat}{f:Q}{dk:Bool}{rd:Option Q}{ds:List Df}{k:K}{cs:List Fr}{fr b:Frame}{frs:List Frame}{c0:Frame}{cs0:List Frame}{ih:E9}
theorem oF{a:Act}{k:List Item}{cs:List Frame}{c:Code}:step P (lone (b.atR a (.code (.scope c)::k)) cs w)=.next (lone (b.atR a (.code c::.inScope c::k)) cs w) :=
 step_lone_go (by simp[stepG,stepG.exec,Frame.atR])
theorem lE{a:Act}{k:List Item}{cs:List Frame}{c:Code}:step P (lone (b.atR a (.inScope c::k)) cs w)=.next (lone (b.atR a k) cs w) :=
 step_lone_go (by simp[stepG,stepG.exec,Frame.atR])
structure Ctx (P:Program) (w0 w:World) (J:Rho) (h:T O) (β:Nat) (nx:Q) (f:Q) (dk:Bool) (rd:Option Q) (ds:List Df) (cs:List Fr) (frs:List Frame) (b:Frame) (AU:List Deferred):Prop where
 H:HR P w0 J h nx w
 le:β<=nx.nat
 B:FB P J f dk rd b
 D:DsR P J ds AU
 rn:rd≠none->ds=[]
 S:StkR P J h cs frs β
theorem Ctx.go{AU:List Deferred}(C:Ctx P w0 w J h β nx f dk rd ds cs frs b AU)(G:Good P ih){X:Array Value->List Deferred->Frame->Frame->Prop}(hc:Cur P J h β nx (nt P f.nat) tm k X)(hx:X tmps AU b fr)(e:ih f dk rd ds tm k cs h nx=.ok v):Final P w0 (lone fr (frs++c0::cs0) w) c0 cs0 v :=
 G w0 w J β f dk rd ds tm k cs h nx v fr frs c0 cs0 e C.H ⟨C.le,b,AU,tmps,X,C.B,C.D,C.rn,hc,hx⟩ C.S
theorem Ctx.plain{AU:List Deferred}(C:Ctx P w0 w J h β nx f dk rd ds cs frs b AU)(G:Good P ih){ks:List Item}(hk:KS P (nt P f.nat) k ks)(hT:TR J (nt P f.nat) tm tmps)(e:ih f dk rd ds tm k cs h nx=.ok v):Final P w0 (lone (b.atR ⟨tmps,AU⟩ ks) (frs++c0::cs0) w) c0 cs0 v :=
 C.go G (.plain k ks hk) ⟨hT,rfl⟩ e
theorem aEo{id:Nat}{kf:K->AA}{kn:AA}:∀{k:K}{ks:List Item},KS P n k ks->fB id k kf kn=.ok v->(∃k' PA,kf k'=.ok v/\exitTo id ks=some PA/\KS P n k' PA)\/(kn=.ok v/\exitTo id ks=none):=by
 intro k ks hk e;induction hk with
 |nil=>exact .inr ⟨e,rfl⟩
 |code c k ks hk ih=>simp only[fB] at e;exact ih e
 |blk C8 k ks hk ih =>
  simp only[fB] at e
  split at e
  ·rename_i hb
   have hb:=Aa hb;exact .inl ⟨_,ks,e,by simp[exitTo,hb],hk⟩
  ·rename_i hb
   have BD:¬C8=id:=λh=>by rw[h,Cs] at hb;cases hb
   rcases ih e with⟨k',PA,h1,h2,h3⟩|⟨h1,h2⟩
   ·exact .inl ⟨k',PA,h1,by simp[exitTo,BD,h2],h3⟩
   ·exact .inr ⟨h1,by simp[exitTo,BD,h2]⟩
 |lp c k ks hk ih=>simp only[fB] at e;exact ih e
 |sc c k ks hk ih=>simp only[fB] at e;exact ih e
 |begin k ks hk ih=>simp only[fB] at e;exact ih e
theorem HR.loop(H:HR P w0 J h nx w){l:Q}{bl N:Nat}{lp:Lp}(hl:J l=some (bl,N))(BP:h.ob l=.loop lp):∃r,w.heap[bl]?=some (.loop r)/\LR P J lp r/\w0.heap.size<=bl/\bl<w.heap.size:=by
 have:=H.obj l bl N hl
 rw[BP] at this;cases this with|loop _ r _ _ hb hw CY=>exact⟨r,hw,CY,hb,(Ad.1 hw).1⟩
theorem HR.setLoop(H:HR P w0 J h nx w){l:Q}{bl N:Nat}{lp Mb:Lp}{r':Loop}(hl:J l=some (bl,N))(BP:h.ob l=.loop lp)(hB:w0.heap.size<=bl)(AR:bl<w.heap.size)(hr:LR P J Mb r') :
  HR P w0 J (h.put .dead (.loop Mb) l) nx (w.putObj bl (.loop r'))/\Keep nx.nat J h J (h.put .dead (.loop Mb) l) :=
 H.putMap hl BP rfl (λ_ _ _ _ _ _ e=>by cases e) rfl (λ_ _ _ _ _ _ e=>by cases e) hB (.loop _ _ _ _ hB (World.putObj_heap_same AR) hr)
theorem run_getLoop{bl:Nat}{r:Loop}(hw:w.heap[bl]?=some (.loop r)):(Instr.getLoop bl).run P w=.ok r w:=by
 simp[Instr.getLoop,AM.run_getObj (P:=P) hw (by simp)]
theorem aHh{l:Q}{AU:List Deferred}(C:Ctx P w0 w J h β nx f dk rd ds cs frs b AU)(hrd:rd=some l){j:Jump}{jc:Option Code}(hj:JR j jc){bb:Bool}(JK:bb=jc.isNone){a:Act}{todo:List Item}
  (BV:∀{bl:Nat}{u:Value}{w':World}{c:Frame}{cs:List Frame},b.roundOf=some bl->b.kind=.normal->(Instr.endRound bl jc).run P w=.ok u w'->step P (lone (b.atR a todo) (c::cs) w)=.next (lone (c.finish u) cs w'))
  (IB:∀{c:Fr}{BZ:List Fr}{Lh:Frame}{IH:List Frame}{w':World}{h':T O}{u:Value}{x:V},cs=c::BZ->frs=Lh::IH->HR P w0 J h' nx w'->Keep nx.nat J h J h'->VR J x u->qR ih c BZ x h' nx=.ok v->Final P w0 (lone (Lh.finish u) (IH++c0::cs0) w') c0 cs0 v)
  (e:qz ih l j bb cs h nx=.ok v):Final P w0 (lone (b.atR a todo) (frs++c0::cs0) w) c0 cs0 v:=by
 unfold qz at e;rw[bV] at e;obtain⟨st,pend,fn,BA,ps,BW,body,B8,BP,e1⟩:=gF e;rw[cM] at e1;have C6:=C.B.ro;rw[hrd] at C6;cases E7:b.roundOf with
 |none=>rw[E7] at C6;exact C6.elim
 |some bl =>
  rw[E7] at C6;obtain⟨N,hl⟩:=C6;obtain⟨r,hw,CY,hB,AR⟩:=C.H.loop hl BP;have hkind:b.kind=.normal:=by rw[C.B.kind,C.B.rk (by rw[hrd];simp)];rfl
  cases CY with
  |mk _ _ F8 _ _ _ N' h1 h2 h3 h4 h5 h6 =>
  have Jo:LR P J (.mk (match(generalizing:=false) bb with|true=>0|false=>2) j (qn F8) BA (r.params.toList.map qn) (dF P (nt P F8) r.assign) (dF P (nt P F8) r.body) B8) { r with state:=if jc.isNone then .ready else .done,pending:=jc }:=by
   refine LR.mk (P:=P) (J:=J) _ j F8 BA B8 { r with state:=if jc.isNone then .ready else .done,pending:=jc } N' ?_ hj h3 h4 h5 h6;subst JK;cases jc<;>first|exact .ready|exact .done
  obtain⟨f1,f2⟩:=C.H.setLoop hl BP hB AR Jo
  have AZ:(Instr.endRound bl jc).run P w=.ok (.bool jc.isNone) (w.putObj bl (.loop { r with state:=if jc.isNone then .ready else .done,pending:=jc })):=by
   simp[Instr.endRound,run_getLoop hw,AM.run_setObj (P:=P) hw (by simp)]
  have A7:=C.S
  split at e1
  ·cases e1
  ·rename_i c BZ
   cases A7 with
   |cons J0 _ h0 _ f' Sr Kx DE CU k' _ Lh IH β0 _ nx0 hf hn hK hs =>
   refine Final.steps (Steps.one (BV E7 hkind AZ)) ?_;exact IB (x:=.bool bb) rfl rfl f1 f2 (by rw[JK];exact .bool _) e1
end
end Go.CM
end
