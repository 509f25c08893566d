import Derived.Test.YtoiocfngjchdiaaGreatDoorC04
import Derived.Test.YtoiocfngjchdiaaGreatDoorA07
set_option linter.all false
noncomputable section
namespace Go.CM
section
variable {P:Program}{ops:Array Oper}
theorem aBB:∀(l:List Oper)(acc:List Nat),LB l acc=(l.foldl (λ(acc:Array Nat) o=>acc.push (o.after.foldl (λs e=>if Region.binds .any e then s ||| 2^e.on ||| acc.getD e.on 0 else s) 0)) ⟨acc⟩).toList
 |[],acc=>rfl
 |o::l,acc=>by
  simp only[LB,Ek];rw[aBB l];congr 2;apply Cp;simp
theorem uQ:LB ops.toList []=(Region.before ops).toList:=by
 rw[aBB];unfold Region.before;rw[<-Dq]
def eg(ops:Array Oper):Prop:=∀(i:Nat)(o:Oper),ops[i]?=some o->∀e∈o.after.toList,Region.binds .any e=true->e.on<i
def zS(ops:Array Oper)(S:Nat->Prop):Prop:=∀(j:Nat)(o:Oper),S j->ops[j]?=some o->∀e∈o.after.toList,Region.binds .any e=true->S e.on
theorem iH(hE:eg ops){S:Nat->Prop}(hS:zS ops S):∀(n i:Nat),i<n->(∀o:Oper,ops[i]?=some o->∀e∈o.after.toList,Region.binds .any e=true->S e.on) ->
  ∀p,((LB ops.toList []).getD i 0).testBit p=true->S p
 |0,i,hi,_,p,_=>by omega
 |n+1,i,hi,RF,p,hb=>by
  have BB:((Region.before ops).getD i 0).testBit p=true:=by
   rw[uQ] at hb;rw[Ae];rw[Br,Cn] at hb;exact hb
  obtain⟨o,ho,e,he,GN,h⟩:=(AM.before_inv ops).2 i p BB;rw[Cn] at ho;have hs:=RF o ho e he GN;rcases h with h|h
  ·subst h;exact hs
  ·have:=hE i o ho e he GN
   refine iH hE hS n e.on (by omega) (λo' E7 e' HW BB=>hS e.on o' hs E7 e' HW BB) p ?_;rw[uQ,Br,Cn,<-Ae];exact h
inductive Ordr (ops:Array Oper):(Nat->Prop)->List Nat->Prop where
 |nil {D:Nat->Prop} (h:∀i,i<ops.size->D i):Ordr ops D []
 |cons {D:Nat->Prop} {i:Nat} {r:List Nat} (hi:i<ops.size) (hn:¬D i) (he:∀o:Oper,ops[i]?=some o->∀e∈o.after.toList,Region.binds .any e=true->D e.on) (hr:Ordr ops (λj=>D j\/j=i) r):Ordr ops D (i::r)
theorem Ordr.congr{D D':Nat->Prop}{r:List Nat}(h:Ordr ops D r)(hD:∀i,D i↔D' i):Ordr ops D' r:=by
 have:D=D':=funext λi=>propext (hD i)
 rw[<-this];exact h
open AM (rem da qH) in
theorem uv(hE:eg ops):∀(fuel t:Nat)(listed:Array Bool),listed.size=ops.size->(rem ops.size listed).length=fuel->Ordr ops (λi=>listed.getD i false=true) (Region.linearise.go .any ops fuel t listed [])
 |0,t,listed,hs,hl=>by
  have hr:=Dn.1 hl;refine .nil λi hi=>?_
  cases hv:listed.getD i true with
  |true =>
   rw[Ae,Bf (by omega)] at hv ⊢;exact hv
  |false =>
   have:i∈rem ops.size listed:=by
    unfold rem;simp only[Dd,Co];exact⟨hi,by rw[hv];rfl⟩
   rw[hr] at this;cases this
 |fuel+1,t,listed,hs,hl=>by
  have EH:∀i,i∈Region.ready .any ops listed↔i∈rem ops.size listed/\∀o:Oper,ops[i]?=some o->∀e∈o.after.toList,Region.binds .any e=true->listed.getD e.on false=true:=λi=>by
   unfold Region.ready rem;simp only[Dd,Co,Ac];constructor
   ·rintro⟨h1,h2,h3⟩
    refine⟨⟨h1,h2⟩,λo ho e he hb=>?_⟩;rw[ho] at h3;simp only[Bw,Ci] at h3;rw[<-Dy] at h3
    have:=As.1 h3 e he
    simpa[hb] using this
   ·rintro⟨⟨h1,h2⟩,h3⟩
    refine⟨h1,h2,?_⟩;rw[Bf h1];simp only[Bw,Ci];rw[<-Dy];refine As.2 λe he=>?_
    cases hb:Region.binds .any e with
    |false=>rfl
    |true=>simpa using h3 _ (Bf h1) e he hb
  have HQ:(rem ops.size listed).Pairwise (· < ·):=(qH _).filter _
  have BD:Region.ready .any ops listed≠[]:=by
   cases hr:rem ops.size listed with
   |nil=>rw[hr] at hl;simp at hl
   |cons m rest =>
    have hm:m∈Region.ready .any ops listed:=(EH m).2 ⟨by simp[hr],λo ho e he hb=>by
     have AL:=hE m o ho e he hb;have hmn:m<ops.size:=(Ai.1 ho).1;cases hv:listed.getD e.on true with
     |true =>
      rw[Ae,Bf (by omega)] at hv ⊢;exact hv
     |false =>
      have:e.on∈rem ops.size listed:=by
       unfold rem;simp only[Dd,Co];exact⟨by omega,by rw[hv];rfl⟩
      rw[hr] at this HQ;rw[Cc] at HQ;rcases Au.1 this with h'|h'
      ·omega
      ·have:=HQ.1 _ h';omega⟩
    intro h0;rw[h0] at hm;cases hm
  simp only[Region.linearise.go]
  change Ordr ops _ (match(Region.ready .any ops listed)[t%(Region.ready .any ops listed).length]? with
   |some i=>Region.linearise.go .any ops fuel (t/(Region.ready .any ops listed).length) (listed.setIfInBounds i true) [i]
   |none=>[].reverse)
  cases hi:(Region.ready .any ops listed)[t%(Region.ready .any ops listed).length]? with
  |none =>
   exfalso;rw[Du] at hi;have CG:0<(Region.ready .any ops listed).length:=List.length_pos_iff.2 BD
   have:=Et t CG
   omega
  |some i =>
   simp only;rw[linearise_go_acc,Gc,Am];obtain⟨Hf,Jx⟩:=(EH i).1 (Ba hi);have MV:=Hf;unfold rem at MV;have G3:i<ops.size:=Co.1 (Dd.1 MV).1;obtain⟨pre,post,G0⟩:=List.append_of_mem Hf;have fD:=da G0 (by omega);refine .cons G3 (λh=>?_) Jx ?_
   ·have h3:=(Dd.1 MV).2
    rw[Ae,Bf (by omega)] at h h3;simp only[Ci] at h h3;rw[h] at h3;cases h3
   ·refine(uv hE fuel _ (listed.setIfInBounds i true) (by simp[hs]) ?_).congr λj=>?_
    ·rw[fD]
     rw[G0] at hl;simp at hl ⊢;omega
    ·by_cases E4:j=i
     ·subst E4
      simp[Ae,Ec,hs,G3]
     ·rw[Ae,Bk (Db E4),<-Ae]
      exact⟨λh=>.inl h,λh=>h.resolve_right E4⟩
theorem yJ(hm:P.follows .mixedOrders=true)(hE:eg ops)(t:Nat):Ordr ops (λ_=>False) (Region.schedule (P.follows .mixedOrders) ops t):=by
 rw[show Region.schedule (P.follows .mixedOrders) ops t=Region.linearise .any ops t by simp[Region.schedule,hm]]
 have hrem:AM.rem ops.size (Array.replicate ops.size false)=List.range ops.size:=by
  unfold AM.rem;refine El.2 λk MT=>?_
  have:=Co.1 MT
  simp[Ae,Dl,this]
 unfold Region.linearise;refine(uv hE ops.size t _ (by simp) (by rw[hrem];simp)).congr λi=>?_
 rw[Ae,Dl];constructor
 ·intro h
  split at h<;>simp at h
 ·exact λh=>h.elim
theorem aD9{a b:Nat}(h:sub a b=true):∀p,a.testBit p=true->b.testBit p=true:=λp hp=>by
 have h1:a &&& b=a:=Aa h;rw[<-h1,Nat.testBit_and] at hp;rw[Ac] at hp;exact hp.2
theorem zC:∀{os:List Oper}{bl:List Nat}{i:Nat}{f:Inf},(vO P ops os bl)[i]?=some f->∃o b,os[i]?=some o/\bl[i]?=some b/\f=.mk b (jQ ops o) o.dst (K7 (bT P o)||Rp o.op) (Ro (bT P o)) o.guard.isSome
 |[],bl,i,f,h=>by cases bl<;>simp[vO] at h
 |_::_,[],i,f,h=>by simp[vO] at h
 |o::os,b::bl,0,f,h=>by simp[vO] at h;exact⟨o,b,rfl,rfl,h.symm⟩
 |o::os,b::bl,i+1,f,h=>by
  obtain⟨o',b',h1,h2,h3⟩:=zC (os:=os) (bl:=bl) (i:=i) (f:=f) (by simpa[vO] using h);exact⟨o',b',by simpa using h1,by simpa using h2,h3⟩
theorem oK(t:Nat):∀(l:List Operand)(s:Nat),(s.testBit t=true\/Operand.tmp t∈l)->(l.foldl (λs x=>match x with|.tmp t=>s ||| 2^t|_=>s) s).testBit t=true
 |[],s,h=>by simpa using h
 |x::l,s,h=>by
  simp only[Ek];refine oK t l _ ?_;rcases h with h|h
  ·cases x<;>simp[Ey,h]
  ·rcases Au.1 h with rfl|h
   ·left;simp[Ey,Ei]
   ·exact .inr h
theorem aDX{o:Oper}{t:Nat}(h:Operand.tmp t∈o.op.operands.toList):(jQ ops o).testBit t=true:=oK t _ _ (.inr h)
theorem nJ{o:Oper}{j t:Nat}{b:Bool}(hg:o.guard=some (j,b))(ht:(ops[j]?).bind (·.dst)=some t):(jQ ops o).testBit t=true:=by
 unfold jQ;rw[hg];refine oK t _ _ (.inl ?_);simp only[ht];simp[Ei]
theorem sf{w KN e:Nat}{l:List Pl}:∀{fs:List Inf}{k:Nat},Mr w KN e l fs k=true->∀(j:Nat)(f:Inf),fs[j]?=some f->k+j≠w->(e.testBit (k+j)=false->f.bf.testBit w=true)/\(e.testBit (k+j)=true->f.r=true->KN.testBit (k+j)=true\/iT (k+j) l=true)
 |[],k,h,j,f,hf,_=>by simp at hf
 |g::fs,k,h,0,f,hf,BD=>by
  simp at hf;subst hf;simp only[Mr,Ac] at h;have h1:=h.1
  split at h1
  ·rename_i hb;exact absurd (Aa hb) BD
  ·split at h1
   ·rename_i he;exact⟨λ_=>h1,(λh2=>by simp only[Aw] at h2;rw[he] at h2;cases h2)⟩
   ·rename_i he
    refine⟨(λh2=>by simp only[Aw] at h2;rw[he] at h2;cases h2),λ_ hr=>?_⟩;simp only[Ch,Cu] at h1;rcases h1 with(h1|h1)|h1
    ·rw[hr] at h1;cases h1
    ·exact .inl h1
    ·exact .inr h1
 |g::fs,k,h,j+1,f,hf,BD=>by
  simp only[Mr,Ac] at h
  have:=sf h.2 j f (by simpa using hf) (by omega)
  rw[show k+1+j=k+(j+1) by omega] at this;exact this
theorem uY{t i bf:Nat}{w:Bool}:∀{fs:List Inf}{k:Nat},y2 t i w bf fs k=true->∀(j:Nat)(f:Inf),fs[j]?=some f->(k+j=i->w=true\/f.rd.testBit t=false)/\(k+j≠i->f.dst≠some t/\(f.rd.testBit t=true->f.bf.testBit i=true\/(w=true/\bf.testBit (k+j)=true)))
 |[],k,h,j,f,hf=>by simp at hf
 |g::fs,k,h,0,f,hf=>by
  simp at hf;subst hf;simp only[y2,Ac] at h;have h1:=h.1
  split at h1
  ·rename_i hb
   have hb:=Aa hb;refine⟨λ_=>by simpa using h1,λBD=>absurd hb.symm BD⟩
  ·rename_i hb
   refine⟨λhe=>by rw[<-he] at hb;simp[Cj] at hb,λ_=>?_⟩;simp only[Ac] at h1;refine⟨λhd=>?_,λhr=>?_⟩
   ·have h2:=h1.1
    rw[hd] at h2;simp[Cj] at h2
   ·have h2:=h1.2
    simp only[Ch,Cu,hr,Ac] at h2;rcases h2 with(h2|h2)|h2
    ·cases h2
    ·exact .inl h2
    ·exact .inr h2
 |g::fs,k,h,j+1,f,hf=>by
  simp only[y2,Ac] at h
  have:=uY h.2 j f (by simpa using hf)
  rw[show k+1+j=k+(j+1) by omega] at this;exact this
theorem xH{all:List Inf}:∀{fs:List Inf}{k:Nat},zO all fs k=true->∀(i:Nat)(f:Inf) t,fs[i]?=some f->f.dst=some t->y2 t (k+i) f.w f.bf all 0=true
 |[],k,h,i,f,t,hf,_=>by simp at hf
 |g::fs,k,h,0,f,t,hf,hd=>by
  simp at hf;subst hf;simp only[zO,Ac] at h;have h1:=h.1;rw[hd] at h1;exact h1
 |g::fs,k,h,i+1,f,t,hf,hd=>by
  simp only[zO,Ac] at h
  have:=xH h.2 i f t (by simpa using hf) hd
  rw[show k+1+i=k+(i+1) by omega] at this;exact this
theorem y3:∀{os:List Oper}{k:Nat},uZ os k=true->∀(i:Nat)(o:Oper),os[i]?=some o->∀e∈o.after.toList,Region.binds .any e=true->e.on<k+i
 |[],k,h,i,o,ho,_,_,_=>by simp at ho
 |p::os,k,h,0,o,ho,e,he,hb=>by
  simp at ho;subst ho;simp only[uZ,Ac] at h
  have:=As.1 h.1 e he
  simp only[hb,Fc,Bool.false_or] at this;exact dM this
 |p::os,k,h,i+1,o,ho,e,he,hb=>by
  simp only[uZ,Ac] at h
  have:=y3 h.2 i o (by simpa using ho) e he hb
  omega
end
section
open Go.AM (dI eS)
variable {P:Program}{w0:Base}{w:World}{J:Rho}{h:T O}{nx:Q}{tm:T V}{tmps:Array Value}{r v:V}{ops:Array Oper}{n:Nat}
theorem eI{o:Oper}{d:Option Q}{g:Option (Q×Bool)}{b:OB}(hc:fH P n ops o=.mk d g b)(hb:CO.mk d g b≠eX) :
  b=bT P o/\d=o.dst.map qn/\(∀x,o.dst=some x->x<n)/\((o.guard=none/\g=none)\/∃j want t,o.guard=some (j,want)/\(ops[j]?).bind (·.dst)=some t/\g=some (qn t,want)/\t<n):=by
 have bad:eX=.mk d g b->CO.mk d g b=eX:=λe=>e.symm
 unfold fH Ys at hc;cases hd:o.dst with
 |none =>
  simp only[hd] at hc;cases hg:o.guard with
  |none=>simp only[hg] at hc;cases hc;exact⟨rfl,rfl,λx hx=>(by cases hx),.inl ⟨rfl,rfl⟩⟩
  |some jw =>
   obtain⟨j,want⟩:=jw;simp only[hg] at hc
   split at hc
   ·exact absurd (bad hc) hb
   ·rename_i t ht
    split at hc
    ·rename_i AL;cases hc;exact⟨rfl,rfl,λx hx=>(by cases hx),.inr ⟨j,want,t,rfl,ht,rfl,dM AL⟩⟩
    ·exact absurd (bad hc) hb
 |some x =>
  simp only[hd] at hc;cases AL:Nat.blt x n with
  |false=>simp only[AL] at hc;exact absurd (bad hc) hb
  |true =>
   simp only[AL] at hc;have hx:∀y,some x=some y->y<n:=λy hy=>by cases hy;exact dM AL
   cases hg:o.guard with
   |none=>simp only[hg] at hc;cases hc;exact⟨rfl,rfl,hx,.inl ⟨rfl,rfl⟩⟩
   |some jw =>
    obtain⟨j,want⟩:=jw;simp only[hg] at hc
    split at hc
    ·exact absurd (bad hc) hb
    ·rename_i t ht
     split at hc
     ·rename_i AL;cases hc;exact⟨rfl,rfl,hx,.inr ⟨j,want,t,rfl,ht,rfl,dM AL⟩⟩
     ·exact absurd (bad hc) hb
theorem NW{d:Option Q}{g:Option (Q×Bool)}{b:OB}(hb:b≠.p .bad):CO.mk d g b≠eX:=λe=>by unfold eX at e;cases e;exact hb rfl
def gB(g:Option (Q×Bool))(tm:T V):Option Bool :=
 match g with
 |none=>some true
 |some (q,want)=>match tm.get V.undef q with
  |.bool t=>some (t==want)
  |.tup []=>some false
  |_=>none
theorem rY{o:Oper}{g:Option (Q×Bool)}{b:Bool}(hg:(o.guard=none/\g=none)\/∃j want t,o.guard=some (j,want)/\(ops[j]?).bind (·.dst)=some t/\g=some (qn t,want)/\t<n)(hn:n<=tmps.size)
  (hT:∀j want t,o.guard=some (j,want)->(ops[j]?).bind (·.dst)=some t->VR J (tm.at t) (tmps.getD t Go.undef)) (hp:gB g tm=some b):Region.wanted o (yielded ops tmps)=b:=by
 unfold Region.wanted;rcases hg with⟨h1,rfl⟩|⟨j,want,t,h1,h2,rfl,h3⟩
 ·rw[h1];simp[gB] at hp;simp[hp]
 ·rw[h1]
  have hv:=hT j want t h1 h2;have AL:t<tmps.size:=Bt h3 hn
  have hy:∀u,tmps.getD t Go.undef=u->yielded ops tmps j=(match u with|.bool b=>some b|_=>none):=λu hu=>by
   unfold yielded;rw[h2];simp only[Aq,Bf AL]
   have:tmps[t]=u:=by rw[<-hu,Ae,Bf AL];rfl
   rw[this];cases u<;>rfl
  show(yielded ops tmps j==some want)=b;simp only[gB] at hp
  split at hp
  ·rename_i tt So
   rw[show tm.at t=.bool tt from So] at hv;rw[hy _ hv.inv_bool];simp at hp;rw[<-hp];cases tt<;>cases want<;>rfl
  ·rename_i So
   rw[show tm.at t=.tup [] from So] at hv;obtain⟨vs,GY,_⟩:=hv.inv_tup;rw[hy _ GY];simp at hp;simp[<-hp]
  ·cases hp
theorem j9{tmps:Array Value}{x:Nat}{u:Value}(hx:x<tmps.size)(t:Nat):(tmps.setIfInBounds x u).getD t Go.undef=if x=t then u else tmps.getD t Go.undef:=by
 rw[Ae,Array.getElem?_setIfInBounds];split
 ·simp[hx, *]
 ·rw[Ae]
theorem aJ6(tm:T V)(v:V)(x t:Nat):(tm.put V.undef v (qn x)).at t=if x=t then v else tm.at t:=by
 rw[T.at,T.get_put];by_cases hx:x=t
 ·subst hx;simp
 ·rw[Bc (λe=>hx (aDR e)),Bc hx]
structure SC (P:Program) (ops:Array Oper):Prop where
 len:(yC P ops).length=ops.size
 edge:eg ops
 tmp:zO (yC P ops) (yC P ops) 0=true
theorem SC.inf(hS:SC P ops){i:Nat}{o:Oper}(ho:ops[i]?=some o):(yC P ops)[i]?=some (.mk ((LB ops.toList []).getD i 0) (jQ ops o) o.dst (K7 (bT P o)||Rp o.op) (Ro (bT P o)) o.guard.isSome):=by
 have AL:i<(yC P ops).length:=by rw[hS.len];exact(Ai.1 ho).1
 obtain⟨o',b,h1,h2,h3⟩:=zC (P:=P) (ops:=ops) (os:=ops.toList) (bl:=LB ops.toList []) (i:=i) (f:=(yC P ops)[i]) (show(yC P ops)[i]?=some _ from Cg AL);rw[Cn,ho] at h1;cases h1;rw[Cg AL,h3,Br,h2];rfl
abbrev nj(ops:Array Oper)(i:Nat):Nat:=(LB ops.toList []).getD i 0
abbrev Ir(P:Program)(o:Oper):Bool:=K7 (bT P o)||Rp o.op
theorem SC.reads(hS:SC P ops){i j:Nat}{o p:Oper}{t:Nat}(hi:ops[i]?=some o)(hj:ops[j]?=some p)(hd:o.dst=some t)(hr:(jQ ops p).testBit t=true)(hw:j=i->Ir P o=false) :
  j≠i/\((nj ops j).testBit i=true\/(Ir P o=true/\(nj ops i).testBit j=true)):=by
 have h1:=xH hS.tmp i _ t (hS.inf hi) hd;rw[Bo] at h1;have h2:=uY h1 j _ (hS.inf hj);simp only[Bo] at h2
 have BD:j≠i:=λe=>by
  subst e;rw[hi] at hj;cases hj;rcases h2.1 rfl with h3|h3
  ·have h4:Ir P o=true:=h3
   rw[hw rfl] at h4;cases h4
  ·simp only[Inf.rd] at h3
   rw[h3] at hr;cases hr
 exact⟨BD,(h2.2 BD).2 hr⟩
theorem SC.dsts(hS:SC P ops){i j:Nat}{o p:Oper}{t:Nat}(hi:ops[i]?=some o)(hj:ops[j]?=some p)(hd:o.dst=some t)(BD:j≠i):p.dst≠some t:=by
 have h1:=xH hS.tmp i _ t (hS.inf hi) hd;rw[Bo] at h1;have h2:=uY h1 j _ (hS.inf hj);simp only[Bo] at h2;exact(h2.2 BD).1
structure Pnd (P:Program) (n:Nat) (ops:Array Oper) (J:Rho) (h:T O) (β:Nat) (nx:Q) (tm:T V) (pl:List Pl) (qf:Nat->Option Q) (i:Nat) (o:Oper):Prop where
 now:Ir P o=false
 ev:∃(d:Option Q)(g:Option (Q×Bool))(b:OB),fH P n ops o=.mk d g b/\CO.mk d g b≠eX/\∃D6:T V,(∀t,(jQ ops o).testBit t=true->D6.at t=tm.at t) /\
  ((gB g D6=some false/\∀x,o.dst=some x->tm.at x=V.undef)\/(gB g D6=some true /\
    ((∃pb v,b=.p pb/\(∀x,o.dst=some x->tm.at x=v)/\((Qr pb=true/\iT i pl=true)\/pK pb D6 h .ok=.ok v)) \/
     (∃ab ob mk q,b=.a ab/\AE ab D6 ob mk/\qf i=some q/\J q=none/\h.ob q=ob/\β<=q.nat/\q.nat < nx.nat/\∀x,o.dst=some x->tm.at x=mk q))))
structure LZ (P:Program) (n:Nat) (ops:Array Oper) (J:Rho) (h:T O) (β:Nat) (nx:Q) (tm:T V) (tmps:Array Value) (pl:List Pl) (E:Nat) (r:List Nat) (qf:Nat->Option Q):Prop where
 sc:SC P ops
 size:n<=tmps.size
 ck:iZ (yC P ops) pl E=true
 ord:Ordr ops (λi=>i<ops.size/\i∉r) r
 nd:r.Nodup
 lt:∀i∈r,i<ops.size
 cl:zS ops (λi=>i<ops.size/\i∉r)
 sub:∀i,i<ops.size->i∉r->E.testBit i=true
 ecl:∀i,i<ops.size->E.testBit i=true->∀p,(nj ops i).testBit p=true->E.testBit p=true
 inj:∀i∈r,∀j∈r,E.testBit i=true->E.testBit j=true->∀q,qf i=some q->qf j=some q->i=j
 ql:∀i∈r,E.testBit i=true->∀q,qf i=some q->q.nat < nx.nat
 pend:∀i∈r,E.testBit i=true->∀o,ops[i]?=some o->Pnd P n ops J h β nx tm pl qf i o
 vals:∀t,(∀i∈r,E.testBit i=true->∀o,ops[i]?=some o->o.dst≠some t)->VR J (tm.at t) (tmps.getD t Go.undef)
theorem LZ.before{β:Nat}{pl:List Pl}{E i:Nat}{r:List Nat}{qf:Nat->Option Q}(L:LZ P n ops J h β nx tm tmps pl E (i::r) qf){p:Nat}(hp:(nj ops i).testBit p=true):p∉i::r:=by
 cases L.ord with
 |cons hi hn he hr=>exact(iH L.sc.edge L.cl (i+1) i (by omega) he p hp).2
theorem LZ.reads{β:Nat}{pl:List Pl}{E i:Nat}{r:List Nat}{qf:Nat->Option Q}(L:LZ P n ops J h β nx tm tmps pl E (i::r) qf){o:Oper}(ho:ops[i]?=some o){t:Nat}(ht:(jQ ops o).testBit t=true)(hw:Ir P o=true->E.testBit i=false):VR J (tm.at t) (tmps.getD t Go.undef):=by
 refine L.vals t λj hj hE p hp hd=>?_
 have HQ:=(L.pend j hj hE p hp).now;obtain⟨BD,h1⟩:=L.sc.reads hp ho hd ht (λ_=>HQ);rcases h1 with h1|⟨h1,_⟩
 ·exact L.before h1 hj
 ·rw[HQ] at h1;cases h1
end
section
open Go.AM (dI eS)
variable {P:Program}{w0:Base}{w:World}{J J':Rho}{h:T O}{nx:Q}{tm:T V}{tmps:Array Value}{ds:List Deferred}{v:V}{ops:Array Oper}{n β E:Nat}{pl:List Pl}{r:List Nat}{qf:Nat->Option Q}
def nS(tmps:Array Value)(d:Option Nat)(u:Value):Array Value :=
 match d with
 |some x=>tmps.setIfInBounds x u
 |none=>tmps
theorem put_eq(d:Option Nat)(u:Value):(⟨tmps,ds⟩:Act).put d u=⟨nS tmps d u,ds⟩:=by cases d<;>rfl
theorem rS(d:Option Nat)(u:Value):(nS tmps d u).size=tmps.size:=by cases d<;>simp[nS]
theorem wT{d:Option Nat}{u:Value}(hd:∀x,d=some x->x<tmps.size)(t:Nat):(nS tmps d u).getD t Go.undef=if d=some t then u else tmps.getD t Go.undef:=by
 cases d with
 |none=>simp[nS]
 |some x =>
  simp only[nS,j9 (hd x rfl),Al]
theorem AE.uniq{b:AB}{ob OH:O}{mk mk':Q->V}(h1:AE b tm ob mk)(h2:AE b tm OH mk'):ob=OH/\mk=mk':=by
 constructor
 ·have a1:=h1 λob _=>.fuel .e false none [] .nil .nil [] (N5.mk ob sQ sQ sQ sQ:N5 O (T9 O)) .e
  have a2:=h2 λob _=>.fuel .e false none [] .nil .nil [] (N5.mk ob sQ sQ sQ sQ:N5 O (T9 O)) .e
  rw[a1] at a2;injection a2 with _ _ _ _ _ _ _ hh _;exact Dp (λt:T O=>T.get O.dead t .e) hh
 ·funext q
  have a1:=h1 λ_ mk=>.ok (mk q)
  have a2:=h2 λ_ mk=>.ok (mk q)
  rw[a1] at a2;simpa using a2
theorem wH{o:Oper}{pb:PB}{k:V->Res}{r:V}(hb:bT P o=.p pb)(he:pK pb tm h k=.ok r):∀c,o.op≠.defer c:=λc hc=>by
 obtain⟨dst,op,ty,pos,AJ,BE⟩:=o;simp only at hc;subst hc;simp only[bT] at hb
 split at hb<;>cases hb
 cases he
theorem wG{o:Oper}{ab:AB}(hb:bT P o=.a ab):∀c,o.op≠.defer c:=λc hc=>by
 obtain⟨dst,op,ty,pos,AJ,BE⟩:=o;simp only at hc;subst hc;simp only[bT] at hb
 split at hb<;>cases hb
theorem wJ{o:Oper}{wb:WB}(hb:bT P o=.w wb):∀c,o.op≠.defer c:=λc hc=>by
 obtain⟨dst,op,ty,pos,AJ,BE⟩:=o;simp only at hc;subst hc;simp only[bT] at hb
 split at hb<;>cases hb
theorem LZ.mem_iff{i:Nat}(L:LZ P n ops J h β nx tm tmps pl E (i::r) qf)(j:Nat):(j<ops.size/\j∉r)↔((j<ops.size/\j∉i::r)\/j=i):=by
 have hi:=L.lt i (by simp);have GL:=(Ea.1 L.nd).1;constructor
 ·rintro⟨h1,h2⟩
  by_cases hj:j=i
  ·exact .inr hj
  ·exact .inl ⟨h1,by simp[hj,h2]⟩
 ·rintro(⟨h1,h2⟩|rfl)
  ·exact⟨h1,λh=>h2 (by simp[h])⟩
  ·exact⟨hi,GL⟩
theorem LZ.ord_tail{i:Nat}(L:LZ P n ops J h β nx tm tmps pl E (i::r) qf):Ordr ops (λj=>j<ops.size/\j∉r) r/\zS ops (λj=>j<ops.size/\j∉r):=by
 have hm:=L.mem_iff;cases L.ord with
 |cons hi hn he hr =>
  refine⟨hr.congr λj=>(hm j).symm,λj o hj ho e HW hb=>?_⟩;rcases(hm j).1 hj with h1|rfl
  ·exact(hm _).2 (.inl (L.cl j o h1 ho e HW hb))
  ·exact(hm _).2 (.inl (he o ho e HW hb))
theorem LZ.pop{i:Nat}{o:Oper}{u:Value}(L:LZ P n ops J h β nx tm tmps pl E (i::r) qf)(hE:E.testBit i=true)(ho:ops[i]?=some o)(hρ:J.le J')(hq:∀j∈r,E.testBit j=true->∀q,qf j=some q->J q=none->J' q=none)(hx:∀x,o.dst=some x->VR J' (tm.at x) u/\x<n) :
  LZ P n ops J' h β nx tm (nS tmps o.dst u) pl E r qf:=by
 obtain⟨h1,h2⟩:=L.ord_tail;refine⟨L.sc,by rw[rS];exact L.size,L.ck,h1,(Ea.1 L.nd).2,λj hj=>L.lt j (by simp[hj]),h2,λj hj Oc=>?_,L.ecl,λa ha b hb=>L.inj a (by simp[ha]) b (by simp[hb]),λa ha=>L.ql a (by simp[ha]),λj hj DP p hp=>?_,λt ht=>?_⟩
 ·by_cases E4:j=i
  ·subst E4;exact hE
  ·exact L.sub j hj (by simp[E4,Oc])
 ·obtain⟨p1,d,g,b,p2,p3,D6,p4,p5⟩:=L.pend j (by simp[hj]) DP p hp
  refine⟨p1,d,g,b,p2,p3,D6,p4,?_⟩;rcases p5 with p5|⟨p5,p6⟩
  ·exact .inl p5
  ·refine .inr ⟨p5,?_⟩
   rcases p6 with p6|⟨ab,ob,mk,q,q1,q2,qs,q3,q4⟩
   ·exact .inl p6
   ·exact .inr ⟨ab,ob,mk,q,q1,q2,qs,hq j hj DP q qs q3,q4⟩
 ·rw[wT (λx hd=>Bt (hx x hd).2 L.size)]
  split
  ·rename_i hd;exact(hx t hd).1
  ·rename_i hd
   refine(L.vals t λj hj DP p hp=>?_).mono hρ;rcases Au.1 hj with rfl|hj
   ·rw[ho] at hp;cases hp;exact hd
   ·exact ht j hj DP p hp
theorem LZ.catch1{i:Nat}(L:LZ P n ops J h β nx tm tmps pl E (i::r) qf)(hE:E.testBit i=true)(Hi:iT i pl=false)(H:HR P w0 J h nx w)(b:Frame)(items:List Item)(cs:List Frame) :
  ∃w' J' tmps',Steps P (lone (b.atR ⟨tmps,ds⟩ (.inRegion ops (i::r)::items)) cs w) (lone (b.atR ⟨tmps',ds⟩ (.inRegion ops r::items)) cs w')/\HR P w0 J' h nx w'/\Keep β J h J' h/\LZ P n ops J' h β nx tm tmps' pl E r qf:=by
 have hi:=L.lt i (by simp);obtain⟨o,ho⟩:∃o,ops[i]?=some o:=⟨ops[i],by simp[hi]⟩
 obtain⟨hw,d,g,ob,hc,hb,D6,hrd,FX⟩:=L.pend i (by simp) hE o ho;obtain⟨Hj,hd,hx,hg⟩:=eI hc hb
 have L3:∀t,(jQ ops o).testBit t=true->VR J (D6.at t) (tmps.getD t Go.undef):=λt ht=>by
  rw[hrd t ht];exact L.reads ho ht (λh=>by rw[hw] at h;cases h)
 have hT:XR J D6 tmps o.op.operands.toList:=λt ht=>L3 t (aDX ht)
 have B4:∀bb,gB g D6=some bb->Region.wanted o (yielded ops tmps)=bb:=λbb hp=>rY hg L.size (λj want t h1 h2=>L3 t (nJ h1 h2)) hp
 rcases FX with⟨h1,h2⟩|⟨h1,h2⟩
 ·refine⟨w,J,nS tmps o.dst Go.undef,Steps.one ?_,H,Keep.refl _ _ _,L.pop hE ho (Rho.le_refl _) (λ_ _ _ _ _ h=>h) λx G8=>⟨by rw[h2 x G8];exact VR.undef,hx x G8⟩⟩
  rw[<-put_eq,show o.dst=(ops[i]?).bind (·.dst) by rw[ho];rfl];exact stepR_op_skip (by rw[ho];simp[B4 false h1])
 ·rcases h2 with⟨pb,v,rfl,hv,h3⟩|⟨ab,oo,mk,qi,rfl,hA,hqs,O1,Jq,Qv,hq4,hq5⟩
  ·have h3:=h3.resolve_left (λh=>by rw[Hi] at h;cases h.2)
   obtain⟨v',GZ,u,hu,huv⟩:=aDJ (ds:=ds) H Hj.symm hT h3;have hvv:v'=v:=by simpa using GZ
   subst hvv;refine⟨w,J,nS tmps o.dst u,Steps.one ?_,H,Keep.refl _ _ _,L.pop hE ho (Rho.le_refl _) (λ_ _ _ _ _ h=>h) λx G8=>⟨by rw[hv x G8];exact huv,hx x G8⟩⟩;rw[<-put_eq];exact dI ho (B4 true h1) (wH Hj.symm h3) hu
  ·obtain⟨OH,mk',a1,_,a3⟩:=aBc (ds:=ds) (k:=λ_ _=>.ok V.undef) (r:=V.undef) H Hj.symm hT (by rw[hA])
   obtain⟨rfl,rfl⟩:=a1.uniq hA;obtain⟨x,N,u,a4,a5⟩:=a3.run;obtain⟨a6,a7⟩:=a5 qi O1;have hle:=Rho.set_le (b:=w.heap.size) (N:=N) O1;refine⟨w.alloc x,J.set qi w.heap.size N,nS tmps o.dst u,Steps.one ?_,H.born O1 hq4 (by rw[Jq];exact a6),⟨hle,λq AL hn=>⟨?_,rfl⟩⟩,L.pop hE ho hle (λj hj DP q hqj hn=>?_) λy XF=>⟨by rw[hq5 y XF];exact a7,hx y XF⟩⟩
   ·rw[<-put_eq]
    exact dI ho (B4 true h1) (wG Hj.symm) a4
   ·unfold Rho.set
    rw[Bc (λe=>by subst e;omega)];exact hn
   ·unfold Rho.set
    rw[Bc (λe=>?_)];exact hn;subst e;have E4:=L.inj j (by simp[hj]) i (by simp) DP hE _ hqj hqs;subst E4;exact(Ea.1 L.nd).1 hj
theorem LZ.catchAll(b:Frame)(items:List Item)(cs:List Frame):∀{r1 r2:List Nat}{w:World}{J:Rho}{tmps:Array Value},LZ P n ops J h β nx tm tmps pl E (r1++r2) qf->(∀i∈r1,E.testBit i=true/\iT i pl=false)->HR P w0 J h nx w ->
  ∃w' J' tmps',Steps P (lone (b.atR ⟨tmps,ds⟩ (.inRegion ops (r1++r2)::items)) cs w) (lone (b.atR ⟨tmps',ds⟩ (.inRegion ops r2::items)) cs w')/\HR P w0 J' h nx w'/\Keep β J h J' h/\LZ P n ops J' h β nx tm tmps' pl E r2 qf
 |[],r2,w,J,tmps,L,_,H=>⟨w,J,tmps,Steps.refl _ _,H,Keep.refl _ _ _,L⟩
 |i::r1,r2,w,J,tmps,L,hp,H=>by
  obtain⟨w1,J1,BF,s1,H1,k1,L1⟩:=LZ.catch1 (ds:=ds) (r:=r1++r2) L (hp i (by simp)).1 (hp i (by simp)).2 H b items cs;obtain⟨w2,J2,B3,s2,H2,k2,L2⟩:=LZ.catchAll b items cs L1 (λj hj=>hp j (by simp[hj])) H1;exact⟨w2,J2,B3,s1.trans s2,H2,k1.trans k2,L2⟩
end
section
variable {P:Program}{w0:Base}{w:World}{J J':Rho}{h h':T O}{nx nx':Q}{tm:T V}{tmps:Array Value}{ds:List Deferred}{v:V}{ops:Array Oper}{n β E:Nat}{pl:List Pl}{r:List Nat}{qf:Nat->Option Q}
def sR(tm:T V)(d:Option Nat)(v:V):T V :=
 match d with
 |some x=>tm.put V.undef v (qn x)
 |none=>tm
theorem fX(tm:T V)(d:Option Nat)(v:V)(t:Nat):(sR tm d v).at t=if d=some t then v else tm.at t:=by
 cases d with
 |none=>simp[sR]
 |some x=>simp only[sR,aJ6,Al]
theorem eP(d:Option Nat)(v:V)(tm:T V)(k:T V->Res):qB (d.map qn) v tm k=k (sR tm d v):=by
 cases d with
 |none=>rfl
 |some x=>simp only[Bw,qB,xe,sR]
theorem fQ{E i j:Nat}:(E ||| 2^i).testBit j=true↔E.testBit j=true\/j=i:=by
 rw[Ey,Ei,Ch,Cf];exact⟨λh=>h.imp id Eq.symm,λh=>h.imp id Eq.symm⟩
theorem fG{E i j:Nat}(h:E.testBit j=true):(E ||| 2^i).testBit j=true:=fQ.2 (.inl h)
theorem uV{fs:List Inf}{i:Nat}{l:List Pl}(h:iZ fs (.run i::l) E=true):∃f,fs[i]?=some f/\E.testBit i=false/\sub f.bf E=true/\(f.w=true->Mr i f.bf E l fs 0=true)/\iZ fs l (E ||| 2^i)=true:=by
 simp only[iZ] at h
 split at h
 ·cases h
 ·rename_i f hf
  simp only[Ac,Cu,Ch] at h;exact⟨f,hf,h.1.1.1,h.1.1.2,λhw=>h.1.2.resolve_left (λh'=>by rw[hw] at h';cases h'),h.2⟩
theorem aKG{fs:List Inf}{i:Nat}{l:List Pl}(h:iZ fs (.chk i::l) E=true):iZ fs l E=true:=by
 simp only[iZ] at h
 split at h
 ·cases h
 ·simp only[Ac] at h;exact h.2
theorem gy{o:Oper}{g:Option (Q×Bool)}{tm D6:T V}(hg:(o.guard=none/\g=none)\/∃j want t,o.guard=some (j,want)/\(ops[j]?).bind (·.dst)=some t/\g=some (qn t,want)/\t<n)
  (hrd:∀t,(jQ ops o).testBit t=true->D6.at t=tm.at t):gB g D6=gB g tm:=by
 rcases hg with⟨_,rfl⟩|⟨j,want,t,h1,h2,rfl,_⟩
 ·rfl
 ·have:=hrd t (nJ h1 h2)
  simp only[gB];rw[show D6.get V.undef (qn t)=tm.get V.undef (qn t) from this]
theorem LZ.chk{i:Nat}(L:LZ P n ops J h β nx tm tmps (.chk i::pl) E r qf)
  (hc:∀o d g pb,ops[i]?=some o->fH P n ops o=.mk d g (.p pb)->gB g tm=some true->∃x,o.dst=some x/\pK pb tm h .ok=.ok (tm.at x)):LZ P n ops J h β nx tm tmps pl E r qf:=by
 refine⟨L.sc,L.size,aKG L.ck,L.ord,L.nd,L.lt,L.cl,L.sub,L.ecl,L.inj,L.ql,λj hj hE o ho=>?_,L.vals⟩;obtain⟨p1,d,g,b,p2,p3,D6,p4,p5⟩:=L.pend j hj hE o ho;rcases p5 with p5|⟨p5,p6⟩
 ·exact⟨p1,d,g,b,p2,p3,D6,p4,.inl p5⟩
 ·rcases p6 with⟨pb,v,rfl,q1,q2⟩|p6
  ·rcases q2 with⟨q2,q3⟩|q2
   ·simp only[iT] at q3
    split at q3
    ·rename_i hb
     have E4:=Aa hb;subst E4;obtain⟨_,_,_,hg⟩:=eI p2 p3;have hgp:gB g tm=some true:=by rw[<-gy hg p4];exact p5
     obtain⟨x,hx,FX⟩:=hc o d g pb ho p2 hgp;exact⟨p1,d,g,_,p2,p3,tm,λt _=>rfl,.inr ⟨hgp,.inl ⟨pb,tm.at x,rfl,λy hy=>by rw[hx] at hy;cases hy;rfl,.inr FX⟩⟩⟩
    ·exact⟨p1,d,g,_,p2,p3,D6,p4,.inr ⟨p5,.inl ⟨pb,v,rfl,q1,.inl ⟨q2,q3⟩⟩⟩⟩
   ·exact⟨p1,d,g,_,p2,p3,D6,p4,.inr ⟨p5,.inl ⟨pb,v,rfl,q1,.inr q2⟩⟩⟩
  ·exact⟨p1,d,g,b,p2,p3,D6,p4,.inr ⟨p5,.inr p6⟩⟩
theorem LZ.eager{i:Nat}{o:Oper}(L:LZ P n ops J h β nx tm tmps (.run i::pl) E r qf)(ho:ops[i]?=some o)(hw:Ir P o=false){v:V}{qf':Nat->Option Q}(Kh:nx.nat<=nx'.nat)
  (hh:∀q,q.nat < nx.nat->h'.ob q=h.ob q) (FM:h'=h\/∀pb,bT P o≠.p pb) (O0:∀j,j≠i->qf' j=qf j)
  (MW:∀q,qf' i=some q->q.nat < nx'.nat/\∀j∈r,E.testBit j=true->qf j≠some q)
  (hP:∃(d:Option Q)(g:Option (Q×Bool))(b:OB),fH P n ops o=.mk d g b/\CO.mk d g b≠eX/\((gB g tm=some false/\v=V.undef)\/(gB g tm=some true /\
   ((∃pb,b=.p pb/\pK pb tm h' .ok=.ok v)\/(∃ab ob mk q,b=.a ab/\AE ab tm ob mk/\qf' i=some q/\J q=none/\h'.ob q=ob/\β<=q.nat/\q.nat < nx'.nat/\v=mk q)))))
  (hpk:∀j∈r,E.testBit j=true->∀pb D6 v',pK pb D6 h .ok=.ok v'->(∃p,ops[j]?=some p/\bT P p=.p pb)->pK pb D6 h' .ok=.ok v') :
  LZ P n ops J h' β nx' (sR tm o.dst v) tmps pl (E ||| 2^i) r qf':=by
 obtain⟨f,hf,Li,Ka,_,Hi⟩:=uV L.ck;have BC:i<ops.size:=(Ai.1 ho).1;have Ld:=L.sc.inf ho;rw[hf] at Ld;have Jy:=Bp Ld;have Tl:∀p,(nj ops i).testBit p=true->E.testBit p=true:=λp hp=>aD9 Ka p (by rw[Jy];exact hp)
 have Hf:i∈r:=by
  by_cases Hf:i∈r
  ·exact Hf
  ·have:=L.sub i BC Hf;rw[Li] at this;cases this
 have Gt:∀j p t,j∈r->E.testBit j=true->ops[j]?=some p->(jQ ops p).testBit t=true->o.dst≠some t:=λj p t hj DP hp hrd hd=>by
  obtain⟨BD,h1⟩:=L.sc.reads ho hp hd hrd (λe=>by subst e;rw[Li] at DP;cases DP);rcases h1 with h1|⟨h1,_⟩
  ·have:=L.ecl j (L.lt j hj) DP i h1
   rw[Li] at this;cases this
  ·rw[hw] at h1;cases h1
 refine⟨L.sc,L.size,Hi,L.ord,L.nd,L.lt,L.cl,λj hj Oc=>fG (L.sub j hj Oc),λj hj DP p hp=>?_,λa ha b hb Mc RM q I0 G1=>?_,λa ha Mc q I0=>?_,λj hj DP p hp=>?_,λt ht=>?_⟩
 ·rcases fQ.1 DP with DP|rfl
  ·exact fG (L.ecl j hj DP p hp)
  ·exact fG (Tl p hp)
 ·by_cases hai:a=i
  ·subst hai
   by_cases I4:b=a
   ·exact I4.symm
   ·have Mb:=(fQ.1 RM).resolve_right I4
    rw[O0 b I4] at G1;exact absurd G1 ((MW q I0).2 b hb Mb)
  ·have Ot:=(fQ.1 Mc).resolve_right hai
   rw[O0 a hai] at I0;by_cases I4:b=i
   ·subst I4
    exact absurd I0 ((MW q G1).2 a ha Ot)
   ·have Mb:=(fQ.1 RM).resolve_right I4
    rw[O0 b I4] at G1;exact L.inj a ha b hb Ot Mb q I0 G1
 ·by_cases hai:a=i
  ·subst hai;exact(MW q I0).1
  ·rw[O0 a hai] at I0
   exact Bt (L.ql a ha ((fQ.1 Mc).resolve_right hai) q I0) Kh
 ·by_cases E4:j=i
  ·subst E4
   rw[ho] at hp;cases hp;obtain⟨d,g,b,p2,p3,p5⟩:=hP;refine⟨hw,d,g,b,p2,p3,tm,λt ht=>?_,?_⟩
   ·rw[fX,Bc (λhd=>?_)]
    have:=(L.sc.reads ho ho hd ht (λ_=>hw)).1
    exact this rfl
   ·rcases p5 with⟨a1,a2⟩|⟨a1,a2⟩
    ·exact .inl ⟨a1,λx hx=>by rw[fX,Bu hx];exact a2⟩
    ·refine .inr ⟨a1,?_⟩
     rcases a2 with⟨pb,rfl,a3⟩|⟨ab,ob,mk,q,rfl,a3,as,a4,a5,a6,a7,a8⟩
     ·exact .inl ⟨pb,v,rfl,λx hx=>by rw[fX,Bu hx],.inr a3⟩
     ·exact .inr ⟨ab,ob,mk,q,rfl,a3,as,a4,a5,a6,a7,λx hx=>by rw[fX,Bu hx];exact a8⟩
  ·have IE:=(fQ.1 DP).resolve_right E4
   obtain⟨p1,d,g,b,p2,p3,D6,p4,p5⟩:=L.pend j hj IE p hp
   have F9:∀x,p.dst=some x->(sR tm o.dst v).at x=tm.at x:=λx hx=>by
    rw[fX,Bc (λhd=>L.sc.dsts ho hp hd E4 hx)]
   refine⟨p1,d,g,b,p2,p3,D6,λt ht=>?_,?_⟩
   ·rw[p4 t ht,fX,Bc (Gt j p t hj IE hp ht)]
   ·rcases p5 with⟨a1,a2⟩|⟨a1,a2⟩
    ·exact .inl ⟨a1,λx hx=>by rw[F9 x hx];exact a2 x hx⟩
    ·refine .inr ⟨a1,?_⟩
     rcases a2 with⟨pb,v',rfl,a3,a4⟩|⟨ab,ob,mk,q,rfl,a3,as,a4,a5,a6,a7,a8⟩
     ·refine .inl ⟨pb,v',rfl,λx hx=>by rw[F9 x hx];exact a3 x hx,?_⟩
      rcases a4 with⟨a4,a5⟩|a4
      ·exact absurd a5 (by simp[iT])
      ·exact .inr (hpk j hj IE pb D6 v' a4 ⟨p,hp,((eI p2 p3).1).symm⟩)
     ·rw[<-O0 j E4] at as
      exact .inr ⟨ab,ob,mk,q,rfl,a3,as,a4,by rw[hh _ a7];exact a5,a6,Bt a7 Kh,λx hx=>by rw[F9 x hx];exact a8 x hx⟩
 ·have G9:o.dst≠some t:=ht i Hf (fQ.2 (.inr rfl)) o ho
  rw[fX,Bc G9];exact L.vals t λj hj DP p hp=>ht j hj (fG DP) p hp
theorem LZ.sync{i:Nat}{o:Oper}{u:Value}(L:LZ P n ops J h β nx tm tmps (.run i::pl) E (i::r) qf)(ho:ops[i]?=some o)(hw:Ir P o=true){v:V}(hx:∀x,o.dst=some x->x<n)(Kh:nx.nat<=nx'.nat)(hK:Keep nx.nat J h J' h')(hv:VR J' v u) :
  LZ P n ops J' h' β nx' (sR tm o.dst v) (nS tmps o.dst u) pl (E ||| 2^i) r qf:=by
 obtain⟨f,hf,Li,Ka,MA,Hi⟩:=uV L.ck;have Ld:=L.sc.inf ho;rw[hf] at Ld;have Jy:=Bp Ld;have Tl:∀p,(nj ops i).testBit p=true->E.testBit p=true:=λp hp=>aD9 Ka p (by rw[Jy];exact hp)
 have Sn:=sf (MA (by rw[Jy];exact hw));obtain⟨g1,g2⟩:=L.ord_tail;have BD:∀j∈r,j≠i:=λj hj e=>by subst e;exact(Ea.1 L.nd).1 hj
 have I5:∀j∈r,(nj ops i).testBit j=true->False:=λj hj hb=>L.before hb (by simp[hj])
 have Gt:∀j p t,j∈r->E.testBit j=true->ops[j]?=some p->(jQ ops p).testBit t=true->o.dst≠some t:=λj p t hj DP hp hrd hd=>by
  obtain⟨_,h1⟩:=L.sc.reads ho hp hd hrd (λe=>absurd e (BD j hj));rcases h1 with h1|⟨_,h1⟩
  ·have:=L.ecl j (L.lt j (by simp[hj])) DP i h1
   rw[Li] at this;cases this
  ·exact I5 j hj h1
 refine⟨L.sc,by rw[rS];exact L.size,Hi,g1,(Ea.1 L.nd).2,λj hj=>L.lt j (by simp[hj]),g2,λj hj Oc=>?_,λj hj DP p hp=>?_,λa ha b hb Mc RM=>L.inj a (by simp[ha]) b (by simp[hb]) ((fQ.1 Mc).resolve_right (BD a ha)) ((fQ.1 RM).resolve_right (BD b hb)),λa ha Mc q I0=>Bt (L.ql a (by simp[ha]) ((fQ.1 Mc).resolve_right (BD a ha)) q I0) Kh,λj hj DP p hp=>?_,λt ht=>?_⟩
 ·by_cases E4:j=i
  ·exact fQ.2 (.inr E4)
  ·exact fG (L.sub j hj (by simp[E4,Oc]))
 ·rcases fQ.1 DP with DP|rfl
  ·exact fG (L.ecl j hj DP p hp)
  ·exact fG (Tl p hp)
 ·have IE:=(fQ.1 DP).resolve_right (BD j hj)
  obtain⟨p1,d,g,b,p2,p3,D6,p4,p5⟩:=L.pend j (by simp[hj]) IE p hp
  have F9:∀x,p.dst=some x->(sR tm o.dst v).at x=tm.at x:=λx hx=>by
   rw[fX,Bc (λhd=>L.sc.dsts ho hp hd (BD j hj) hx)]
  refine⟨p1,d,g,b,p2,p3,D6,λt ht=>?_,?_⟩
  ·rw[p4 t ht,fX,Bc (Gt j p t hj IE hp ht)]
  ·rcases p5 with⟨a1,a2⟩|⟨a1,a2⟩
   ·exact .inl ⟨a1,λx hx=>by rw[F9 x hx];exact a2 x hx⟩
   ·refine .inr ⟨a1,?_⟩
    rcases a2 with⟨pb,v',rfl,a3,a4⟩|⟨ab,ob,mk,q,rfl,a3,as,a4,a5,a6,a7,a8⟩
    ·refine .inl ⟨pb,v',rfl,λx hx=>by rw[F9 x hx];exact a3 x hx,?_⟩
     have a4:=a4.resolve_left (λh=>by simp[iT] at h);cases hr:Qr pb with
     |false=>exact .inr (by rw[<-a4];exact xd hr _ _)
     |true =>
      left;refine⟨rfl,?_⟩;have hfj:=L.sc.inf hp;have h2:=(Sn j _ hfj (by rw[Bo];exact BD j hj)).2;simp only[Bo] at h2;have DA:Ro (bT P p)=true:=by rw[<-(eI p2 p3).1];exact hr
      rcases h2 IE DA with h3|h3
      ·rw[Jy] at h3;exact(I5 j hj h3).elim
      ·exact h3
    ·obtain⟨k1,k2⟩:=hK.pend q a7 a4
     exact .inr ⟨ab,ob,mk,q,rfl,a3,as,k1,by rw[k2];exact a5,a6,Bt a7 Kh,λx hx=>by rw[F9 x hx];exact a8 x hx⟩
 ·rw[fX,wT (λx hd=>Bt (hx x hd) L.size)]
  split
  ·exact hv
  ·rename_i hd
   refine(L.vals t λj hj DP p hp=>?_).mono hK.le;rcases Au.1 hj with rfl|hj
   ·rw[Li] at DP;cases DP
   ·exact ht j hj (fG DP) p hp
theorem LZ.ahead{i:Nat}{o:Oper}(L:LZ P n ops J h β nx tm tmps (.run i::pl) E r qf)(ho:ops[i]?=some o)(hw:Ir P o=true):∃r1 r2,r=r1++i::r2/\∀j∈r1,E.testBit j=true/\iT j (.run i::pl)=false:=by
 obtain⟨f,hf,Li,Ka,MA,Hi⟩:=uV L.ck;have Ld:=L.sc.inf ho;rw[hf] at Ld;have Jy:=Bp Ld;have Sn:=sf (MA (by rw[Jy];exact hw));have BC:i<ops.size:=(Ai.1 ho).1
 have main:∀(r:List Nat)(D:Nat->Prop),Ordr ops D r->zS ops D->¬D i->(∀j,j<ops.size->D j->E.testBit j=true)->∃r1 r2,r=r1++i::r2/\∀j∈r1,E.testBit j=true:=by
  intro r;induction r with
  |nil =>
   intro D hO _ hD _;cases hO with|nil h=>exact absurd (h i BC) hD
  |cons k r ih =>
   intro D hO hC hD hE;cases hO with
   |cons hk hn he hr =>
   by_cases hki:k=i
   ·subst hki;exact⟨[],r,rfl,by simp⟩
   ·have hEk:E.testBit k=true:=by
     cases hb:E.testBit k with
     |true=>rfl
     |false =>
      obtain⟨p,hp⟩:∃p,ops[k]?=some p:=⟨ops[k],by simp[hk]⟩
      have h2:=(Sn k _ (L.sc.inf hp) (by rw[Bo];exact hki)).1;simp only[Bo] at h2;exact absurd (iH L.sc.edge hC (k+1) k (by omega) he i (h2 hb)) hD
    obtain⟨r1,r2,h1,h2⟩:=ih _ hr (λj o hj E7 e HW BB=>by
     rcases hj with hj|rfl
     ·exact .inl (hC j o hj E7 e HW BB)
     ·exact .inl (he o E7 e HW BB)) (λh=>h.elim hD (λe=>hki e.symm)) (λj hj Tw=>by
     rcases Tw with Tw|rfl
     ·exact hE j hj Tw
     ·exact hEk)
    exact⟨k::r1,r2,by rw[h1];rfl,λj hj=>by
     rcases Au.1 hj with rfl|hj
     ·exact hEk
     ·exact h2 j hj⟩
 obtain⟨r1,r2,h1,h2⟩:=main r _ L.ord L.cl (λhD=>by
  have:=L.sub i hD.1 hD.2;rw[Li] at this;cases this) (λj hj hD=>L.sub j hj hD.2)
 exact⟨r1,r2,h1,λj hj=>⟨h2 j hj,rfl⟩⟩
theorem LZ.atEnd(L:LZ P n ops J h β nx tm tmps [] E r qf):∀i∈r,E.testBit i=true/\iT i []=false:=λi hi=>by
 have h1:=Aa L.ck;refine⟨?_,rfl⟩;rw[h1,L.sc.len,Nat.testBit_two_pow_sub_one];simpa using L.lt i hi
theorem LZ.done(L:LZ P n ops J h β nx tm tmps pl E [] qf):TR J n tm tmps:=⟨L.size,λt=>L.vals t λi hi=>by cases hi⟩
theorem LZ.start{tm:T V}(hT:TR J n tm tmps)(hS:SC P ops)(Hi:iZ (yC P ops) pl 0=true)(hr:Ordr ops (λ_=>False) r)(GL:r.Nodup)(AL:∀i∈r,i<ops.size)(B7:∀i,i<ops.size->i∈r)(qf:Nat->Option Q):LZ P n ops J h β nx tm tmps pl 0 r qf:=by
 have hD:∀i,False↔(i<ops.size/\i∉r):=λi=>⟨λh=>h.elim,λh=>h.2 (B7 i h.1)⟩
 refine⟨hS,hT.size,Hi,hr.congr hD,GL,AL,λj o hj=>absurd (B7 j hj.1) hj.2,λi hi Hf=>absurd (B7 i hi) Hf,λi _ h=>by simp at h,λi _ j _ h=>by simp at h,λi _ h=>by simp at h,λi _ h=>by simp at h,λt _=>hT.rel t⟩
end
section
variable {P:Program}{w0:Base}{w:World}{J J':Rho}{h h':T O}{nx nx':Q}{tm:T V}{tmps:Array Value}{v:V}{ops:Array Oper}{n β:Nat}
inductive DsR (P:Program) (J:Rho):List Df->List Deferred->Prop where
 |nil:DsR P J [] []
 |call (g:Nat) (cs:List V) (av cv:List Value) (ds:List Df) (AU:List Deferred) (hv:VRs J cs (av++cv)) (hr:DsR P J ds AU):DsR P J (.call (qn g) cs::ds) ({ target:=.fn (.func g) ⟨cv⟩,args:=⟨av⟩ }::AU)
 |coll (q:Q) (b N:Nat) (ds:List Df) (AU:List Deferred) (hq:J q=some (b,N)) (hr:DsR P J ds AU):DsR P J (.coll q::ds) ({ target:=.collected b,args:=#[] }::AU)
theorem DsR.mono{ds:List Df}{AU:List Deferred}(hp:J.le J')(h:DsR P J ds AU):DsR P J' ds AU:=by
 induction h with
 |nil=>exact .nil
 |call g cs av cv ds AU hv hr ih=>exact .call g cs av cv ds AU (hv.mono hp) ih
 |coll q b N ds AU hq hr ih=>exact .coll q b N ds AU (hp _ _ hq) ih
inductive KS (P:Program) (n:Nat):K->List Item->Prop where
 |nil:KS P n .nil []
 |code (c:Code) (k:K) (ks:List Item) (h:KS P n k ks):KS P n (.code (cS P n c) k) (.code c::ks)
 |blk (id:Nat) (k:K) (ks:List Item) (h:KS P n k ks):KS P n (.blk id k) (.inBlock id::ks)
 |lp (c:Code) (k:K) (ks:List Item) (h:KS P n k ks):KS P n (.lp (cS P n c) k) (.inLoop c::ks)
 |sc (c:Code) (k:K) (ks:List Item) (h:KS P n k ks):KS P n (.sc k) (.inScope c::ks)
 |begin (k:K) (ks:List Item) (h:KS P n k ks):KS P n (.begin k) (.beginRound::ks)
def RDR(J:Rho):Option Q->Option Nat->Prop
 |none,none=>True
 |some l,some b=>∃N,J l=some (b,N)
 |_,_=>False
theorem RDR.mono{rd:Option Q}{ro:Option Nat}(hp:J.le J')(h:RDR J rd ro):RDR J' rd ro:=by
 cases rd<;>cases ro<;>first|exact h|exact⟨_,hp _ _ h.choose_spec⟩
structure FB (P:Program) (J:Rho) (f:Q) (dk:Bool) (rd:Option Q) (b:Frame):Prop where
 fn:b.fn=f.nat
 kind:b.kind=if dk then .deferred else .normal
 ro:RDR J rd b.roundOf
 rk:rd≠none->dk=false
theorem FB.mono{f:Q}{dk:Bool}{rd:Option Q}{b:Frame}(hp:J.le J')(h:FB P J f dk rd b):FB P J' f dk rd b:=⟨h.fn,h.kind,h.ro.mono hp,h.rk⟩
inductive Cur (P:Program) (J:Rho) (h:T O) (β:Nat) (nx:Q) (n:Nat) (tm:T V):K->(Array Value->List Deferred->Frame->Frame->Prop)->Prop where
 |plain (k:K) (ks:List Item) (hk:KS P n k ks):Cur P J h β nx n tm k (λtmps AU b fr=>TR J n tm tmps/\fr=b.atR ⟨tmps,AU⟩ ks)
 |sync (ops:Array Oper) (i:Nat) (k:K) (ks:List Item) (hi:i<=ops.size) (hk:KS P n k ks):Cur P J h β nx n tm (.reg ((ops.toList.drop i).map λo=>.op (fH P n ops o)) k) (λtmps AU b fr=>TR J n tm tmps/\fr=b.atR ⟨tmps,AU⟩ (.inRegion ops (List.range' i (ops.size-i))::ks))
 |drawn (ops:Array Oper) (pl:List Pl) (E:Nat) (r:List Nat) (qf:Nat->Option Q) (k:K) (ks:List Item) (hk:KS P n k ks):Cur P J h β nx n tm (.reg (pl.map (qu P n ops)) k) (λtmps AU b fr=>LZ P n ops J h β nx tm tmps pl E r qf/\fr=b.atR ⟨tmps,AU⟩ (.inRegion ops r::ks))
 |erf (l:Q) (bl N:Nat) (k:K) (ks:List Item) (hl:J l=some (bl,N)) (hk:KS P n k ks):Cur P J h β nx n tm (.erf l k) (λtmps AU b fr=>TR J n tm tmps/\fr=b.atR ⟨tmps,AU⟩ (.endRangeFunc bl::ks))
 |bad (l:List PS) (k:K):Cur P J h β nx n tm (.reg (.op eX::l) k) (λ_ _ _ _=>True)
 |rtn (ks:List Item):Cur P J h β nx n tm .rtn (λtmps AU b fr=>TR J n tm tmps/\fr={ b.atR ⟨tmps,AU⟩ ks with mode:=.returning })
structure FR (P:Program) (J:Rho) (h:T O) (β:Nat) (nx:Q) (f:Q) (dk:Bool) (rd:Option Q) (ds:List Df) (tm:T V) (k:K) (fr:Frame):Prop where
 le:β<=nx.nat
 rel:∃b AU tmps C,FB P J f dk rd b/\DsR P J ds AU/\(rd≠none->ds=[])/\Cur P J h β nx (nt P f.nat) tm k C/\C tmps AU b fr
inductive Wt (P:Program) (J:Rho) (h:T O) (β:Nat) (nx:Q) (n:Nat) (tm:T V):K->(Array Value->List Deferred->Frame->Frame->Prop)->Prop where
 |sync (ops:Array Oper) (i:Nat) (o:Oper) (d:Option Q) (g:Option (Q×Bool)) (ob:OB) (k:K) (ks:List Item) (ho:ops[i]?=some o) (hc:fH P n ops o=.mk d g ob) (hw:K7 ob=true) (hk:KS P n k ks) :
   Wt P J h β nx n tm (.reg (.op (.mk d g ob)::(ops.toList.drop (i+1)).map λo=>.op (fH P n ops o)) k) (λtmps AU b fr=>TR J n tm tmps/\fr=b.atR ⟨tmps,AU⟩ (.inRegion ops (i::List.range' (i+1) (ops.size-(i+1)))::ks))
 |drawn (ops:Array Oper) (i:Nat) (o:Oper) (d:Option Q) (g:Option (Q×Bool)) (ob:OB) (pl:List Pl) (E:Nat) (r:List Nat) (qf:Nat->Option Q) (k:K) (ks:List Item) (ho:ops[i]?=some o) (hc:fH P n ops o=.mk d g ob) (hw:K7 ob=true) (hk:KS P n k ks) :
   Wt P J h β nx n tm (.reg (.op (.mk d g ob)::pl.map (qu P n ops)) k) (λtmps AU b fr=>LZ P n ops J h β nx tm tmps (.run i::pl) E (i::r) qf/\fr=b.atR ⟨tmps,AU⟩ (.inRegion ops (i::r)::ks))
 |inrf (l:Q) (bl N:Nat) (k:K) (ks:List Item) (hl:J l=some (bl,N)) (hk:KS P n k ks):Wt P J h β nx n tm (.inrf l k) (λtmps AU b fr=>TR J n tm tmps/\fr=b.atR ⟨tmps,AU⟩ (.inRangeFunc bl::ks))
 |rtn (ks:List Item):Wt P J h β nx n tm .rtn (λtmps AU b fr=>TR J n tm tmps/\fr={ b.atR ⟨tmps,AU⟩ ks with mode:=.returning })
structure WR (P:Program) (J:Rho) (h:T O) (β:Nat) (nx:Q) (f:Q) (dk:Bool) (rd:Option Q) (ds:List Df) (tm:T V) (k:K) (fr:Frame):Prop where
 le:β<=nx.nat
 rel:∃b AU tmps C,FB P J f dk rd b/\DsR P J ds AU/\(rd≠none->ds=[])/\Wt P J h β nx (nt P f.nat) tm k C/\C tmps AU b fr
inductive StkR (P:Program):Rho->T O->List Fr->List Frame->Nat->Prop where
 |nil (J:Rho) (h:T O) (β:Nat):StkR P J h [] [] β
 |cons (J J':Rho) (h h':T O) (f:Q) (dk:Bool) (rd:Option Q) (ds:List Df) (tm:T V) (k:K) (cs:List Fr) (fr:Frame) (frs:List Frame) (β β':Nat) (nx:Q) (hf:WR P J h β nx f dk rd ds tm k fr) (hn:nx.nat<=β') (hK:Keep nx.nat J h J' h') (hs:StkR P J' h' cs frs β) :
   StkR P J' h' (.mk f dk rd ds tm k::cs) (fr::frs) β'
theorem StkR.mono{cs:List Fr}{frs:List Frame}(hs:StkR P J h cs frs β)(hK:Keep β J h J' h'):StkR P J' h' cs frs β:=by
 induction hs generalizing J' h' with
 |nil=>exact .nil _ _ _
 |cons J J1 h h1 f dk rd ds tm k cs fr frs β β' nx hf hn hK1 hs ih =>
  exact .cons J J' h h' f dk rd ds tm k cs fr frs β β' nx hf hn (hK1.trans (hK.down hn)) (ih (hK.down (Bg hf.le hn)))
def Final(P:Program)(w0:Base)(m:Machine)(c0:Frame)(cs0:List Frame)(v:V):Prop :=
 ∃w' J' h' nx' u x,Steps P m (lone (c0.finish u) cs0 w')/\HR P w0 J' h' nx' w'/\VR J' x u/\fin x h'=v
def Good(P:Program)(w0:Base)(ih:E9):Prop:=∀(w:World)(J:Rho)(β:Nat)(f:Q)(dk:Bool)(rd:Option Q)(ds:List Df)(tm:T V)(k:K)(cs:List Fr)(h:T O)(nx:Q)(v:V)(fr:Frame)(frs:List Frame)(c0:Frame)(cs0:List Frame),
 ih f dk rd ds tm k cs h nx=.ok v->HR P w0 J h nx w->FR P J h β nx f dk rd ds tm k fr->StkR P J h cs frs β->Final P w0 (lone fr (frs++c0::cs0) w) c0 cs0 v
theorem Final.steps{m m':Machine}{c0:Frame}{cs0:List Frame}(hs:Steps P m m')(h:Final P w0 m' c0 cs0 v):Final P w0 m c0 cs0 v:=by
 obtain⟨w',J',h',nx',u,x,s,a,b⟩:=h;exact⟨w',J',h',nx',u,x,hs.trans s,a,b⟩
end
section
variable {P:Program}{w0:Base}{w:World}{J J':Rho}{h h':T O}{nx nx':Q}{tm:T V}{tmps:Array Value}{v:V}{ops:Array Oper}{n β:Nat}{f:Q}{dk:Bool}{rd:Option Q}{ds:List Df}{k:K}{cs:List Fr}{fr b:Frame}{frs:List Frame}{c0:Frame}{cs0:List Frame}{ih:E9}
theorem mQ{a:Act}{k:List Item}{cs:List Frame}{c:Code}:step P (lone (b.atR a (.code (.scope c)::k)) cs w)=.next (lone (b.atR a (.code c::.inScope c::k)) cs w) :=
 step_lone_go (by simp[stepG,stepG.exec,Frame.atR])
theorem jY{a:Act}{k:List Item}{cs:List Frame}{c:Code}:step P (lone (b.atR a (.inScope c::k)) cs w)=.next (lone (b.atR a k) cs w) :=
 step_lone_go (by simp[stepG,stepG.exec,Frame.atR])
structure Ctx (P:Program) (w0:Base) (w:World) (J:Rho) (h:T O) (β:Nat) (nx:Q) (f:Q) (dk:Bool) (rd:Option Q) (ds:List Df) (cs:List Fr) (frs:List Frame) (b:Frame) (AU:List Deferred):Prop where
 H:HR P w0 J h nx w
 le:β<=nx.nat
 B:FB P J f dk rd b
 D:DsR P J ds AU
 rn:rd≠none->ds=[]
 S:StkR P J h cs frs β
theorem Ctx.go{AU:List Deferred}(C:Ctx P w0 w J h β nx f dk rd ds cs frs b AU)(G:Good P w0 ih){X:Array Value->List Deferred->Frame->Frame->Prop}(hc:Cur P J h β nx (nt P f.nat) tm k X)(hx:X tmps AU b fr)(e:ih f dk rd ds tm k cs h nx=.ok v):Final P w0 (lone fr (frs++c0::cs0) w) c0 cs0 v :=
 G w J β f dk rd ds tm k cs h nx v fr frs c0 cs0 e C.H ⟨C.le,b,AU,tmps,X,C.B,C.D,C.rn,hc,hx⟩ C.S
theorem Ctx.plain{AU:List Deferred}(C:Ctx P w0 w J h β nx f dk rd ds cs frs b AU)(G:Good P w0 ih){ks:List Item}(hk:KS P (nt P f.nat) k ks)(hT:TR J (nt P f.nat) tm tmps)(e:ih f dk rd ds tm k cs h nx=.ok v):Final P w0 (lone (b.atR ⟨tmps,AU⟩ ks) (frs++c0::cs0) w) c0 cs0 v :=
 C.go G (.plain k ks hk) ⟨hT,rfl⟩ e
theorem aCj{id:Nat}{kf:K->Res}{kn:Res}:∀{k:K}{ks:List Item},KS P n k ks->eJ id k kf kn=.ok v->(∃k' OM,kf k'=.ok v/\exitTo id ks=some OM/\KS P n k' OM)\/(kn=.ok v/\exitTo id ks=none):=by
 intro k ks hk e;induction hk with
 |nil=>exact .inr ⟨e,rfl⟩
 |code c k ks hk ih=>simp only[eJ] at e;exact ih e
 |blk C6 k ks hk ih =>
  simp only[eJ] at e
  split at e
  ·rename_i hb
   have hb:=Aa hb;exact .inl ⟨_,ks,e,by simp[exitTo,hb],hk⟩
  ·rename_i hb
   have BD:¬C6=id:=λh=>by rw[h,Cj] at hb;cases hb
   rcases ih e with⟨k',OM,h1,h2,h3⟩|⟨h1,h2⟩
   ·exact .inl ⟨k',OM,h1,by simp[exitTo,BD,h2],h3⟩
   ·exact .inr ⟨h1,by simp[exitTo,BD,h2]⟩
 |lp c k ks hk ih=>simp only[eJ] at e;exact ih e
 |sc c k ks hk ih=>simp only[eJ] at e;exact ih e
 |begin k ks hk ih=>simp only[eJ] at e;exact ih e
theorem HR.loop(H:HR P w0 J h nx w){l:Q}{bl N:Nat}{lp:Lp}(hl:J l=some (bl,N))(C0:h.ob l=.loop lp):∃r,w.heap[bl]?=some (.loop r)/\LR P J lp r/\w0.heap.size<=bl/\bl<w.heap.size:=by
 have:=H.obj l bl N hl
 rw[C0] at this;cases this with|loop _ r _ _ hb hw C1=>exact⟨r,hw,C1,hb,(Ai.1 hw).1⟩
theorem HR.setLoop(H:HR P w0 J h nx w){l:Q}{bl N:Nat}{lp Lv:Lp}{r':Loop}(hl:J l=some (bl,N))(C0:h.ob l=.loop lp)(hB:w0.heap.size<=bl)(AL:bl<w.heap.size)(hr:LR P J Lv r') :
  HR P w0 J (h.put .dead (.loop Lv) l) nx (w.putObj bl (.loop r'))/\Keep nx.nat J h J (h.put .dead (.loop Lv) l) :=
 H.putMap hl C0 rfl (λ_ _ _ _ _ _ e=>by cases e) rfl (λ_ _ _ _ _ _ e=>by cases e) hB (.loop _ _ _ _ hB (World.putObj_heap_same AL) hr)
theorem run_getLoop{bl:Nat}{r:Loop}(hw:w.heap[bl]?=some (.loop r)):(Instr.getLoop bl).run P w=.ok r w:=by
 simp[Instr.getLoop,AM.run_getObj (P:=P) hw (by simp)]
theorem aFz{l:Q}{AU:List Deferred}(C:Ctx P w0 w J h β nx f dk rd ds cs frs b AU)(hrd:rd=some l){j:Jump}{jc:Option Code}(hj:JR j jc){bb:Bool}(Lg:bb=jc.isNone){a:Act}{todo:List Item}
  (BS:∀{bl:Nat}{u:Value}{w':World}{c:Frame}{cs:List Frame},b.roundOf=some bl->b.kind=.normal->(Instr.endRound bl jc).run P w=.ok u w'->step P (lone (b.atR a todo) (c::cs) w)=.next (lone (c.finish u) cs w'))
  (IC:∀{c:Fr}{BT:List Fr}{Mf:Frame}{IG:List Frame}{w':World}{h':T O}{u:Value}{x:V},cs=c::BT->frs=Mf::IG->HR P w0 J h' nx w'->Keep nx.nat J h J h'->VR J x u->l8 ih c BT x h' nx=.ok v->Final P w0 (lone (Mf.finish u) (IG++c0::cs0) w') c0 cs0 v)
  (e:fw ih l j bb cs h nx=.ok v):Final P w0 (lone (b.atR a todo) (frs++c0::cs0) w) c0 cs0 v:=by
 unfold fw at e;rw[bV] at e;obtain⟨st,pend,fn,tm',ps,BV,body,B8,C0,e1⟩:=e8 e;rw[cT] at e1;have DA:=C.B.ro;rw[hrd] at DA;cases FY:b.roundOf with
 |none=>rw[FY] at DA;exact DA.elim
 |some bl =>
  rw[FY] at DA;obtain⟨N,hl⟩:=DA;obtain⟨r,hw,C1,hB,AL⟩:=C.H.loop hl C0;have hkind:b.kind=.normal:=by rw[C.B.kind,C.B.rk (by rw[hrd];simp)];rfl
  cases C1 with
  |mk _ _ FZ _ _ _ N' h1 h2 h3 h4 h5 h6 =>
  have JZ:LR P J (.mk (match(generalizing:=false) bb with|true=>0|false=>2) j (qn FZ) tm' (r.params.toList.map qn) (cS P (nt P FZ) r.assign) (cS P (nt P FZ) r.body) B8) { r with state:=if jc.isNone then .ready else .done,pending:=jc }:=by
   refine LR.mk (P:=P) (J:=J) _ j FZ tm' B8 { r with state:=if jc.isNone then .ready else .done,pending:=jc } N' ?_ hj h3 h4 h5 h6;subst Lg;cases jc<;>first|exact .ready|exact .done
  obtain⟨f1,f2⟩:=C.H.setLoop hl C0 hB AL JZ
  have BA:(Instr.endRound bl jc).run P w=.ok (.bool jc.isNone) (w.putObj bl (.loop { r with state:=if jc.isNone then .ready else .done,pending:=jc })):=by
   simp[Instr.endRound,run_getLoop hw,AM.run_setObj (P:=P) hw (by simp)]
  have A7:=C.S
  split at e1
  ·cases e1
  ·rename_i c BT
   cases A7 with
   |cons J0 _ h0 _ f' NO JJ DH EV k' _ Mf IG β0 _ nx0 hf hn hK hs =>
   refine Final.steps (Steps.one (BS FY hkind BA)) ?_;exact IC (x:=.bool bb) rfl rfl f1 f2 (by rw[Lg];exact .bool _) e1
end
end Go.CM
end
