import Derived.Test.YtdkkaldimefljaaGreatDoorC07
import Derived.Test.YtdkkaldimefljaaGreatDoorA12
set_option linter.all false
noncomputable section
namespace Go.CM
variable {P:Program} {ops:Array Oper}
theorem aBy:∀ (l:List Oper) (acc:List Nat),bfs l acc=(l.foldl (fun (acc:Array Nat) o=>acc.push (o.after.foldl (fun s e=>if Region.binds .any e then s ||| 2 ^ e.on ||| acc.getD e.on 0 else s) 0)) ⟨acc⟩).toList
 |[],acc=>rfl
 |o::l,acc=>by
  simp only[bfs,List.foldl_cons];rw[aBy l];congr 2;apply Array.ext';simp
theorem vD:bfs ops.toList []=(Region.before ops).toList:=by
 rw[aBy];unfold Region.before;rw[←Array.foldl_toList]
def mg (ops:Array Oper):Prop:=∀ (i:Nat) (o:Oper),ops[i]?=some o→∀ e∈o.after.toList,Region.binds .any e=true→e.on < i
def br (ops:Array Oper) (S:Nat→Prop):Prop:=∀ (j:Nat) (o:Oper),S j→ops[j]?=some o→∀ e∈o.after.toList,Region.binds .any e=true→S e.on
theorem iU (hE:mg ops) {S:Nat→Prop} (hS:br ops S):∀ (n i:Nat),i < n→(∀ o:Oper,ops[i]?=some o→∀ e∈o.after.toList,Region.binds .any e=true→S e.on) →
  ∀ p,((bfs ops.toList []).getD i 0).testBit p=true→S p
 |0,i,hi,_,p,_=>by omega
 |n+1,i,hi,hi2,p,hb=>by
  have hb':((Region.before ops).getD i 0).testBit p=true:=by
   rw[vD] at hb;rw[Array.getD_eq_getD_getElem?];rw[List.getD_eq_getElem?_getD,Array.getElem?_toList] at hb;exact hb
  obtain ⟨o,ho,e,he,hbd,h⟩:=(AM.before_inv ops).2 i p hb';rw[Array.getElem?_toList] at ho;have hs:=hi2 o ho e he hbd;rcases h with h|h
  ·subst h;exact hs
  ·have:=hE i o ho e he hbd
   refine iU hE hS n e.on (by omega) (fun o' ho' e' he' hb'=>hS e.on o' hs ho' e' he' hb') p ?_;rw[vD,List.getD_eq_getElem?_getD,Array.getElem?_toList,←Array.getD_eq_getD_getElem?];exact h
inductive Ordr (ops:Array Oper):(Nat→Prop)→List Nat→Prop where
 |nil {D:Nat→Prop} (h:∀ i,i < ops.size→D i):Ordr ops D []
 |cons {D:Nat→Prop} {i:Nat} {r:List Nat} (hi:i < ops.size) (hn:¬ D i) (he:∀ o:Oper,ops[i]?=some o→∀ e∈o.after.toList,Region.binds .any e=true→D e.on) (hr:Ordr ops (fun j=>D j∨j=i) r):Ordr ops D (i::r)
theorem Ordr.congr {D D':Nat→Prop} {r:List Nat} (h:Ordr ops D r) (hD:∀ i,D i↔D' i):Ordr ops D' r:=by
 have:D=D':=funext fun i=>propext (hD i)
 rw[←this];exact h
open AM (rem zW pW) in
theorem vn (hE:mg ops):∀ (fuel t:Nat) (listed:Array Bool),listed.size=ops.size→(rem ops.size listed).length=fuel→Ordr ops (fun i=>listed.getD i false=true) (Region.linearise.go .any ops fuel t listed [])
 |0,t,listed,hs,hl=>by
  have hr:=List.length_eq_zero_iff.1 hl;refine .nil fun i hi=>?_
  cases hv:listed.getD i true with
  |true =>
   rw[Array.getD_eq_getD_getElem?,Array.getElem?_eq_getElem (by omega)] at hv ⊢;exact hv
  |false =>
   have:i∈rem ops.size listed:=by
    unfold rem;simp only[List.mem_filter,List.mem_range];exact ⟨hi,by rw[hv];rfl⟩
   rw[hr] at this;cases this
 |fuel+1,t,listed,hs,hl=>by
  have hready:∀ i,i∈Region.ready .any ops listed↔i∈rem ops.size listed∧∀ o:Oper,ops[i]?=some o→∀ e∈o.after.toList,Region.binds .any e=true→listed.getD e.on false=true:=fun i=>by
   unfold Region.ready rem;simp only[List.mem_filter,List.mem_range,Bool.and_eq_true];constructor
   ·rintro ⟨h1,h2,h3⟩
    refine ⟨⟨h1,h2⟩,fun o ho e he hb=>?_⟩;rw[ho] at h3;simp only[Option.map_some,Option.getD_some] at h3;rw[←Array.all_toList] at h3
    have:=List.all_eq_true.1 h3 e he
    simpa [hb] using this
   ·rintro ⟨⟨h1,h2⟩,h3⟩
    refine ⟨h1,h2,?_⟩;rw[Array.getElem?_eq_getElem h1];simp only[Option.map_some,Option.getD_some];rw[←Array.all_toList];refine List.all_eq_true.2 fun e he=>?_
    cases hb:Region.binds .any e with
    |false=>rfl
    |true=>simpa using h3 _ (Array.getElem?_eq_getElem h1) e he hb
  have hpw:(rem ops.size listed).Pairwise (· < ·):=(pW _).filter _
  have hne:Region.ready .any ops listed≠[]:=by
   cases hr:rem ops.size listed with
   |nil=>rw[hr] at hl;simp at hl
   |cons m rest =>
    have hm:m∈Region.ready .any ops listed:=(hready m).2 ⟨by simp [hr],fun o ho e he hb=>by
     have hlt:=hE m o ho e he hb;have hmn:m < ops.size:=(Array.getElem?_eq_some_iff.1 ho).1;cases hv:listed.getD e.on true with
     |true =>
      rw[Array.getD_eq_getD_getElem?,Array.getElem?_eq_getElem (by omega)] at hv ⊢;exact hv
     |false =>
      have:e.on∈rem ops.size listed:=by
       unfold rem;simp only[List.mem_filter,List.mem_range];exact ⟨by omega,by rw[hv];rfl⟩
      rw[hr] at this hpw;rw[List.pairwise_cons] at hpw;rcases List.mem_cons.1 this with h'|h'
      ·omega
      ·have:=hpw.1 _ h';omega⟩
    intro h0;rw[h0] at hm;cases hm
  simp only[Region.linearise.go]
  change Ordr ops _ (match (Region.ready .any ops listed)[t % (Region.ready .any ops listed).length]? with
   |some i=>Region.linearise.go .any ops fuel (t / (Region.ready .any ops listed).length) (listed.setIfInBounds i true) [i]
   |none=>[].reverse)
  cases hi:(Region.ready .any ops listed)[t % (Region.ready .any ops listed).length]? with
  |none =>
   exfalso;rw[List.getElem?_eq_none_iff] at hi;have hpos:0 < (Region.ready .any ops listed).length:=List.length_pos_iff.2 hne
   have:=Nat.mod_lt t hpos
   omega
  |some i =>
   simp only;rw[linearise_go_acc,List.reverse_singleton,List.singleton_append];obtain ⟨hir,hie⟩:=(hready i).1 (List.mem_of_getElem? hi);have hir':=hir;unfold rem at hir';have hin:i < ops.size:=List.mem_range.1 (List.mem_filter.1 hir').1;obtain ⟨pre,post,hsp⟩:=List.append_of_mem hir;have dJ:=zW hsp (by omega);refine .cons hin (fun h=>?_) hie ?_
   ·have h3:=(List.mem_filter.1 hir').2
    rw[Array.getD_eq_getD_getElem?,Array.getElem?_eq_getElem (by omega)] at h h3;simp only[Option.getD_some] at h h3;rw[h] at h3;cases h3
   ·refine (vn hE fuel _ (listed.setIfInBounds i true) (by simp [hs]) ?_).congr fun j=>?_
    ·rw[dJ]
     rw[hsp] at hl;simp at hl ⊢;omega
    ·by_cases hji:j=i
     ·subst hji
      simp [Array.getD_eq_getD_getElem?,Array.getElem?_setIfInBounds_self,hs,hin]
     ·rw[Array.getD_eq_getD_getElem?,Array.getElem?_setIfInBounds_ne (Ne.symm hji),←Array.getD_eq_getD_getElem?]
      exact ⟨fun h=>.inl h,fun h=>h.resolve_right hji⟩
theorem w7 (hm:P.follows .mixedOrders=true) (hE:mg ops) (t:Nat):Ordr ops (fun _=>False) (Region.schedule (P.follows .mixedOrders) ops t):=by
 rw[show Region.schedule (P.follows .mixedOrders) ops t=Region.linearise .any ops t by simp [Region.schedule,hm]]
 have hrem:AM.rem ops.size (Array.replicate ops.size false)=List.range ops.size:=by
  unfold AM.rem;refine List.filter_eq_self.2 fun k hk'=>?_
  have:=List.mem_range.1 hk'
  simp [Array.getD_eq_getD_getElem?,Array.getElem?_replicate,this]
 unfold Region.linearise;refine (vn hE ops.size t _ (by simp) (by rw[hrem];simp)).congr fun i=>?_
 rw[Array.getD_eq_getD_getElem?,Array.getElem?_replicate];constructor
 ·intro h
  split at h <;> simp at h
 ·exact fun h=>h.elim
theorem aAT {a b:Nat} (h:sub a b=true):∀ p,a.testBit p=true→b.testBit p=true:=fun p hp=>by
 have h1:a &&& b=a:=Nat.eq_of_beq_eq_true h;rw[←h1,Nat.testBit_and] at hp;rw[Bool.and_eq_true] at hp;exact hp.2
theorem yM:∀ {os:List Oper} {bl:List Nat} {i:Nat} {f:Inf},(wH P ops os bl)[i]?=some f→∃ o b,os[i]?=some o∧bl[i]?=some b∧f=.mk b (jV ops o) o.dst (isW (bT P o)||aD0 o.op) (aEc (bT P o)) o.guard.isSome
 |[],bl,i,f,h=>by cases bl <;> simp [wH] at h
 |_::_,[],i,f,h=>by simp [wH] at h
 |o::os,b::bl,0,f,h=>by simp [wH] at h;exact ⟨o,b,rfl,rfl,h.symm⟩
 |o::os,b::bl,i+1,f,h=>by
  obtain ⟨o',b',h1,h2,h3⟩:=yM (os:=os) (bl:=bl) (i:=i) (f:=f) (by simpa [wH] using h);exact ⟨o',b',by simpa using h1,by simpa using h2,h3⟩
theorem oC (t:Nat):∀ (l:List Operand) (s:Nat),(s.testBit t=true∨Operand.tmp t∈l)→(l.foldl (fun s x=>match x with|.tmp t=>s ||| 2 ^ t|_=>s) s).testBit t=true
 |[],s,h=>by simpa using h
 |x::l,s,h=>by
  simp only[List.foldl_cons];refine oC t l _ ?_;rcases h with h|h
  ·cases x <;> simp [Nat.testBit_or,h]
  ·rcases List.mem_cons.1 h with rfl|h
   ·left;simp [Nat.testBit_or,Nat.testBit_two_pow]
   ·exact .inr h
theorem aAo {o:Oper} {t:Nat} (h:Operand.tmp t∈o.op.operands.toList):(jV ops o).testBit t=true:=oC t _ _ (.inr h)
theorem m7 {o:Oper} {j t:Nat} {b:Bool} (hg:o.guard=some (j,b)) (ht:(ops[j]?).bind (·.dst)=some t):(jV ops o).testBit t=true:=by
 unfold jV;rw[hg];refine oC t _ _ (.inl ?_);simp only[ht];simp [Nat.testBit_two_pow]
theorem qj {w wbf e:Nat} {l:List Pl}:∀ {fs:List Inf} {k:Nat},wOk w wbf e l fs k=true→∀ (j:Nat) (f:Inf),fs[j]?=some f→k+j≠w→(e.testBit (k+j)=false→f.bf.testBit w=true)∧(e.testBit (k+j)=true→f.r=true→wbf.testBit (k+j)=true∨jP (k+j) l=true)
 |[],k,h,j,f,hf,_=>by simp at hf
 |g::fs,k,h,0,f,hf,hne=>by
  simp at hf;subst hf;simp only[wOk,Bool.and_eq_true] at h;have h1:=h.1
  split at h1
  ·rename_i hb;exact absurd (Nat.eq_of_beq_eq_true hb) hne
  ·split at h1
   ·rename_i he;exact ⟨fun _=>h1,(fun h2=>by simp only[Nat.add_zero] at h2;rw[he] at h2;cases h2)⟩
   ·rename_i he
    refine ⟨(fun h2=>by simp only[Nat.add_zero] at h2;rw[he] at h2;cases h2),fun _ hr=>?_⟩;simp only[Bool.or_eq_true,Bool.not_eq_true'] at h1;rcases h1 with (h1|h1)|h1
    ·rw[hr] at h1;cases h1
    ·exact .inl h1
    ·exact .inr h1
 |g::fs,k,h,j+1,f,hf,hne=>by
  simp only[wOk,Bool.and_eq_true] at h
  have:=qj h.2 j f (by simpa using hf) (by omega)
  rw[show k+1+j=k+(j+1) by omega] at this;exact this
theorem tZ {t i bf:Nat} {w:Bool}:∀ {fs:List Inf} {k:Nat},yX t i w bf fs k=true→∀ (j:Nat) (f:Inf),fs[j]?=some f→(k+j=i→w=true∨f.rd.testBit t=false)∧(k+j≠i→f.dst≠some t∧(f.rd.testBit t=true→f.bf.testBit i=true∨(w=true∧bf.testBit (k+j)=true)))
 |[],k,h,j,f,hf=>by simp at hf
 |g::fs,k,h,0,f,hf=>by
  simp at hf;subst hf;simp only[yX,Bool.and_eq_true] at h;have h1:=h.1
  split at h1
  ·rename_i hb
   have hb:=Nat.eq_of_beq_eq_true hb;refine ⟨fun _=>by simpa using h1,fun hne=>absurd hb.symm hne⟩
  ·rename_i hb
   refine ⟨fun he=>by rw[←he] at hb;simp [Nat.beq_refl] at hb,fun _=>?_⟩;simp only[Bool.and_eq_true] at h1;refine ⟨fun hd=>?_,fun hr=>?_⟩
   ·have h2:=h1.1
    rw[hd] at h2;simp [Nat.beq_refl] at h2
   ·have h2:=h1.2
    simp only[Bool.or_eq_true,Bool.not_eq_true',hr,Bool.and_eq_true] at h2;rcases h2 with (h2|h2)|h2
    ·cases h2
    ·exact .inl h2
    ·exact .inr h2
 |g::fs,k,h,j+1,f,hf=>by
  simp only[yX,Bool.and_eq_true] at h
  have:=tZ h.2 j f (by simpa using hf)
  rw[show k+1+j=k+(j+1) by omega] at this;exact this
theorem uW {all:List Inf}:∀ {fs:List Inf} {k:Nat},yQ all fs k=true→∀ (i:Nat) (f:Inf) t,fs[i]?=some f→f.dst=some t→yX t (k+i) f.w f.bf all 0=true
 |[],k,h,i,f,t,hf,_=>by simp at hf
 |g::fs,k,h,0,f,t,hf,hd=>by
  simp at hf;subst hf;simp only[yQ,Bool.and_eq_true] at h;have h1:=h.1;rw[hd] at h1;exact h1
 |g::fs,k,h,i+1,f,t,hf,hd=>by
  simp only[yQ,Bool.and_eq_true] at h
  have:=uW h.2 i f t (by simpa using hf) hd
  rw[show k+1+i=k+(i+1) by omega] at this;exact this
theorem yR:∀ {os:List Oper} {k:Nat},uP os k=true→∀ (i:Nat) (o:Oper),os[i]?=some o→∀ e∈o.after.toList,Region.binds .any e=true→e.on < k+i
 |[],k,h,i,o,ho,_,_,_=>by simp at ho
 |p::os,k,h,0,o,ho,e,he,hb=>by
  simp at ho;subst ho;simp only[uP,Bool.and_eq_true] at h
  have:=List.all_eq_true.1 h.1 e he
  simp only[hb,Bool.not_true,Bool.false_or] at this;exact cZ this
 |p::os,k,h,i+1,o,ho,e,he,hb=>by
  simp only[uP,Bool.and_eq_true] at h
  have:=yR h.2 i o (by simpa using ho) e he hb
  omega
end Go.CM
end
noncomputable section
namespace Go.CM
open Go.AM (cY eW)
variable {P:Program} {w0 w:World} {ρ:Rho} {h:T O} {nx:Q} {tm:T V} {tmps:Array Value} {r v:V} {ops:Array Oper} {n:Nat}
theorem eQ {o:Oper} {d:Option Q} {g:Option (Q×Bool)} {b:OB} (hc:fO P n ops o=.mk d g b) (hb:CO.mk d g b≠fC) :
  b=bT P o∧d=o.dst.map qn∧(∀ x,o.dst=some x→x < n)∧((o.guard=none∧g=none)∨∃ j want t,o.guard=some (j,want)∧(ops[j]?).bind (·.dst)=some t∧g=some (qn t,want)∧t < n):=by
 have bad:fC=.mk d g b→CO.mk d g b=fC:=fun e=>e.symm
 unfold fO aKh at hc;cases hd:o.dst with
 |none =>
  simp only[hd] at hc;cases hg:o.guard with
  |none=>simp only[hg] at hc;cases hc;exact ⟨rfl,rfl,fun x hx=>(by cases hx),.inl ⟨rfl,rfl⟩⟩
  |some jw =>
   obtain ⟨j,want⟩:=jw;simp only[hg] at hc
   split at hc
   ·exact absurd (bad hc) hb
   ·rename_i t ht
    split at hc
    ·rename_i hlt;cases hc;exact ⟨rfl,rfl,fun x hx=>(by cases hx),.inr ⟨j,want,t,rfl,ht,rfl,cZ hlt⟩⟩
    ·exact absurd (bad hc) hb
 |some x =>
  simp only[hd] at hc;cases hlt:Nat.blt x n with
  |false=>simp only[hlt] at hc;exact absurd (bad hc) hb
  |true =>
   simp only[hlt] at hc;have hx:∀ y,some x=some y→y < n:=fun y hy=>by cases hy;exact cZ hlt
   cases hg:o.guard with
   |none=>simp only[hg] at hc;cases hc;exact ⟨rfl,rfl,hx,.inl ⟨rfl,rfl⟩⟩
   |some jw =>
    obtain ⟨j,want⟩:=jw;simp only[hg] at hc
    split at hc
    ·exact absurd (bad hc) hb
    ·rename_i t ht
     split at hc
     ·rename_i hlt;cases hc;exact ⟨rfl,rfl,hx,.inr ⟨j,want,t,rfl,ht,rfl,cZ hlt⟩⟩
     ·exact absurd (bad hc) hb
theorem yz {d:Option Q} {g:Option (Q×Bool)} {b:OB} (hb:b≠.p .bad):CO.mk d g b≠fC:=fun e=>by unfold fC at e;cases e;exact hb rfl
def gD (g:Option (Q×Bool)) (tm:T V):Option Bool :=
 match g with
 |none=>some true
 |some (q,want)=>match tm.get V.undef q with
  |.bool t=>some (t==want)
  |.tup []=>some false
  |_=>none
theorem qY {o:Oper} {g:Option (Q×Bool)} {b:Bool} (hg:(o.guard=none∧g=none)∨∃ j want t,o.guard=some (j,want)∧(ops[j]?).bind (·.dst)=some t∧g=some (qn t,want)∧t < n) (hn:n≤tmps.size)
  (hT:∀ j want t,o.guard=some (j,want)→(ops[j]?).bind (·.dst)=some t→VR ρ (tm.at t) (tmps.getD t Go.undef)) (hp:gD g tm=some b):Region.wanted o (yielded ops tmps)=b:=by
 unfold Region.wanted;rcases hg with ⟨h1,rfl⟩|⟨j,want,t,h1,h2,rfl,h3⟩
 ·rw[h1];simp [gD] at hp;simp [hp]
 ·rw[h1]
  have hv:=hT j want t h1 h2;have hlt:t < tmps.size:=Nat.lt_of_lt_of_le h3 hn
  have hy:∀ u,tmps.getD t Go.undef=u→yielded ops tmps j=(match u with|.bool b=>some b|_=>none):=fun u hu=>by
   unfold yielded;rw[h2];simp only[Option.bind_some,Array.getElem?_eq_getElem hlt]
   have:tmps[t]=u:=by rw[←hu,Array.getD_eq_getD_getElem?,Array.getElem?_eq_getElem hlt];rfl
   rw[this];cases u <;> rfl
  show (yielded ops tmps j==some want)=b;simp only[gD] at hp
  split at hp
  ·rename_i tt htt
   rw[show tm.at t=.bool tt from htt] at hv;rw[hy _ hv.inv_bool];simp at hp;rw[←hp];cases tt <;> cases want <;> rfl
  ·rename_i htt
   rw[show tm.at t=.tup [] from htt] at hv;obtain ⟨vs,hvs,_⟩:=hv.inv_tup;rw[hy _ hvs];simp at hp;simp [←hp]
  ·cases hp
theorem cE {tmps:Array Value} {x:Nat} {u:Value} (hx:x < tmps.size) (t:Nat):(tmps.setIfInBounds x u).getD t Go.undef=if x=t then u else tmps.getD t Go.undef:=by
 rw[Array.getD_eq_getD_getElem?,Array.getElem?_setIfInBounds];split
 ·simp [hx, *]
 ·rw[Array.getD_eq_getD_getElem?]
theorem aGK (tm:T V) (v:V) (x t:Nat):(tm.put V.undef v (qn x)).at t=if x=t then v else tm.at t:=by
 rw[T.at,T.get_put];by_cases hx:x=t
 ·subst hx;simp
 ·rw[if_neg (fun e=>hx (aCu e)),if_neg hx]
structure SC (P:Program) (ops:Array Oper):Prop where
 len:(xO P ops).length=ops.size
 edge:mg ops
 tmp:yQ (xO P ops) (xO P ops) 0=true
theorem SC.inf (hS:SC P ops) {i:Nat} {o:Oper} (ho:ops[i]?=some o):(xO P ops)[i]?=some (.mk ((bfs ops.toList []).getD i 0) (jV ops o) o.dst (isW (bT P o)||aD0 o.op) (aEc (bT P o)) o.guard.isSome):=by
 have hlt:i < (xO P ops).length:=by rw[hS.len];exact (Array.getElem?_eq_some_iff.1 ho).1
 obtain ⟨o',b,h1,h2,h3⟩:=yM (P:=P) (ops:=ops) (os:=ops.toList) (bl:=bfs ops.toList []) (i:=i) (f:=(xO P ops)[i]) (show (xO P ops)[i]?=some _ from List.getElem?_eq_getElem hlt);rw[Array.getElem?_toList,ho] at h1;cases h1;rw[List.getElem?_eq_getElem hlt,h3,List.getD_eq_getElem?_getD,h2];rfl
abbrev nk (ops:Array Oper) (i:Nat):Nat:=(bfs ops.toList []).getD i 0
abbrev wOf (P:Program) (o:Oper):Bool:=isW (bT P o)||aD0 o.op
theorem SC.reads (hS:SC P ops) {i j:Nat} {o p:Oper} {t:Nat} (hi:ops[i]?=some o) (hj:ops[j]?=some p) (hd:o.dst=some t) (hr:(jV ops p).testBit t=true) (hw:j=i→wOf P o=false) :
  j≠i∧((nk ops j).testBit i=true∨(wOf P o=true∧(nk ops i).testBit j=true)):=by
 have h1:=uW hS.tmp i _ t (hS.inf hi) hd;rw[Nat.zero_add] at h1;have h2:=tZ h1 j _ (hS.inf hj);simp only[Nat.zero_add] at h2
 have hne:j≠i:=fun e=>by
  subst e;rw[hi] at hj;cases hj;rcases h2.1 rfl with h3|h3
  ·have h4:wOf P o=true:=h3
   rw[hw rfl] at h4;cases h4
  ·simp only[Inf.rd] at h3
   rw[h3] at hr;cases hr
 exact ⟨hne,(h2.2 hne).2 hr⟩
theorem SC.dsts (hS:SC P ops) {i j:Nat} {o p:Oper} {t:Nat} (hi:ops[i]?=some o) (hj:ops[j]?=some p) (hd:o.dst=some t) (hne:j≠i):p.dst≠some t:=by
 have h1:=uW hS.tmp i _ t (hS.inf hi) hd;rw[Nat.zero_add] at h1;have h2:=tZ h1 j _ (hS.inf hj);simp only[Nat.zero_add] at h2;exact (h2.2 hne).1
structure Pnd (P:Program) (n:Nat) (ops:Array Oper) (ρ:Rho) (h:T O) (β:Nat) (nx:Q) (tm:T V) (pl:List Pl) (qf:Nat→Option Q) (i:Nat) (o:Oper):Prop where
 now:wOf P o=false
 ev:∃ (d:Option Q) (g:Option (Q×Bool)) (b:OB),fO P n ops o=.mk d g b∧CO.mk d g b≠fC∧∃ tm0:T V,(∀ t,(jV ops o).testBit t=true→tm0.at t=tm.at t) ∧
  ((gD g tm0=some false∧∀ x,o.dst=some x→tm.at x=V.undef)∨(gD g tm0=some true ∧
    ((∃ pb v,b=.p pb∧(∀ x,o.dst=some x→tm.at x=v)∧((isR pb=true∧jP i pl=true)∨pK pb tm0 h .ok=.ok v)) ∨
     (∃ ab ob mk q,b=.a ab∧AE ab tm0 ob mk∧qf i=some q∧ρ q=none∧h.ob q=ob∧β≤q.nat∧q.nat < nx.nat∧∀ x,o.dst=some x→tm.at x=mk q))))
structure LZ (P:Program) (n:Nat) (ops:Array Oper) (ρ:Rho) (h:T O) (β:Nat) (nx:Q) (tm:T V) (tmps:Array Value) (pl:List Pl) (E:Nat) (r:List Nat) (qf:Nat→Option Q):Prop where
 sc:SC P ops
 size:n≤tmps.size
 ck:jF (xO P ops) pl E=true
 ord:Ordr ops (fun i=>i < ops.size∧i∉r) r
 nd:r.Nodup
 lt:∀ i∈r,i < ops.size
 cl:br ops (fun i=>i < ops.size∧i∉r)
 sub:∀ i,i < ops.size→i∉r→E.testBit i=true
 ecl:∀ i,i < ops.size→E.testBit i=true→∀ p,(nk ops i).testBit p=true→E.testBit p=true
 inj:∀ i∈r,∀ j∈r,E.testBit i=true→E.testBit j=true→∀ q,qf i=some q→qf j=some q→i=j
 ql:∀ i∈r,E.testBit i=true→∀ q,qf i=some q→q.nat < nx.nat
 pend:∀ i∈r,E.testBit i=true→∀ o,ops[i]?=some o→Pnd P n ops ρ h β nx tm pl qf i o
 vals:∀ t,(∀ i∈r,E.testBit i=true→∀ o,ops[i]?=some o→o.dst≠some t)→VR ρ (tm.at t) (tmps.getD t Go.undef)
theorem LZ.before {β:Nat} {pl:List Pl} {E i:Nat} {r:List Nat} {qf:Nat→Option Q} (L:LZ P n ops ρ h β nx tm tmps pl E (i::r) qf) {p:Nat} (hp:(nk ops i).testBit p=true):p∉i::r:=by
 cases L.ord with
 |cons hi hn he hr=>exact (iU L.sc.edge L.cl (i+1) i (by omega) he p hp).2
theorem LZ.reads {β:Nat} {pl:List Pl} {E i:Nat} {r:List Nat} {qf:Nat→Option Q} (L:LZ P n ops ρ h β nx tm tmps pl E (i::r) qf) {o:Oper} (ho:ops[i]?=some o) {t:Nat} (ht:(jV ops o).testBit t=true) (hw:wOf P o=true→E.testBit i=false):VR ρ (tm.at t) (tmps.getD t Go.undef):=by
 refine L.vals t fun j hj hE p hp hd=>?_
 have hpw:=(L.pend j hj hE p hp).now;obtain ⟨hne,h1⟩:=L.sc.reads hp ho hd ht (fun _=>hpw);rcases h1 with h1|⟨h1,_⟩
 ·exact L.before h1 hj
 ·rw[hpw] at h1;cases h1
end Go.CM
end
noncomputable section
namespace Go.CM
open Go.AM (cY eW)
variable {P:Program} {w0 w:World} {ρ ρ':Rho} {h:T O} {nx:Q} {tm:T V} {tmps:Array Value} {ds:List Deferred} {v:V} {ops:Array Oper} {n β E:Nat} {pl:List Pl} {r:List Nat} {qf:Nat→Option Q}
def nD (tmps:Array Value) (d:Option Nat) (u:Value):Array Value :=
 match d with
 |some x=>tmps.setIfInBounds x u
 |none=>tmps
theorem put_eq (d:Option Nat) (u:Value):(⟨tmps,ds⟩:Act).put d u=⟨nD tmps d u,ds⟩:=by cases d <;> rfl
theorem qS (d:Option Nat) (u:Value):(nD tmps d u).size=tmps.size:=by cases d <;> simp [nD]
theorem vK {d:Option Nat} {u:Value} (hd:∀ x,d=some x→x < tmps.size) (t:Nat):(nD tmps d u).getD t Go.undef=if d=some t then u else tmps.getD t Go.undef:=by
 cases d with
 |none=>simp [nD]
 |some x =>
  simp only[nD,cE (hd x rfl),Option.some.injEq]
theorem AE.uniq {b:AB} {ob ob':O} {mk mk':Q→V} (h1:AE b tm ob mk) (h2:AE b tm ob' mk'):ob=ob'∧mk=mk':=by
 constructor
 ·have a1:=h1 fun ob _=>.fuel .e false none [] .nil .nil [] (N5.mk ob r7 r7 r7 r7:N5 O (T9 O)) .e
  have a2:=h2 fun ob _=>.fuel .e false none [] .nil .nil [] (N5.mk ob r7 r7 r7 r7:N5 O (T9 O)) .e
  rw[a1] at a2;injection a2 with _ _ _ _ _ _ _ hh _;exact congrArg (fun t:T O=>T.get O.dead t .e) hh
 ·funext q
  have a1:=h1 fun _ mk=>.ok (mk q)
  have a2:=h2 fun _ mk=>.ok (mk q)
  rw[a1] at a2;simpa using a2
theorem wR {o:Oper} {pb:PB} {k:V→Res} {r:V} (hb:bT P o=.p pb) (he:pK pb tm h k=.ok r):∀ c,o.op≠.defer c:=fun c hc=>by
 obtain ⟨dst,op,ty,pos,aft,gd'⟩:=o;simp only at hc;subst hc;simp only[bT] at hb
 split at hb
 ·cases hb
 ·split at hb
  ·split at hb
   ·cases hb
   ·cases hb;cases he
  ·cases hb;cases he
 ·cases hb;cases he
theorem wF {o:Oper} {ab:AB} (hb:bT P o=.a ab):∀ c,o.op≠.defer c:=fun c hc=>by
 obtain ⟨dst,op,ty,pos,aft,gd'⟩:=o;simp only at hc;subst hc;simp only[bT] at hb
 split at hb
 ·cases hb
 ·split at hb
  ·split at hb <;> cases hb
  ·cases hb
 ·cases hb
theorem vU {o:Oper} {wb:WB} (hb:bT P o=.w wb):∀ c,o.op≠.defer c:=fun c hc=>by
 obtain ⟨dst,op,ty,pos,aft,gd'⟩:=o;simp only at hc;subst hc;simp only[bT] at hb
 split at hb
 ·cases hb
 ·split at hb
  ·split at hb <;> cases hb
  ·cases hb
 ·cases hb
theorem LZ.mem_iff {i:Nat} (L:LZ P n ops ρ h β nx tm tmps pl E (i::r) qf) (j:Nat):(j < ops.size∧j∉r)↔((j < ops.size∧j∉i::r)∨j=i):=by
 have hi:=L.lt i (by simp);have hnd:=(List.nodup_cons.1 L.nd).1;constructor
 ·rintro ⟨h1,h2⟩
  by_cases hj:j=i
  ·exact .inr hj
  ·exact .inl ⟨h1,by simp [hj,h2]⟩
 ·rintro (⟨h1,h2⟩|rfl)
  ·exact ⟨h1,fun h=>h2 (by simp [h])⟩
  ·exact ⟨hi,hnd⟩
theorem LZ.ord_tail {i:Nat} (L:LZ P n ops ρ h β nx tm tmps pl E (i::r) qf):Ordr ops (fun j=>j < ops.size∧j∉r) r∧br ops (fun j=>j < ops.size∧j∉r):=by
 have hm:=L.mem_iff;cases L.ord with
 |cons hi hn he hr =>
  refine ⟨hr.congr fun j=>(hm j).symm,fun j o hj ho e he' hb=>?_⟩;rcases (hm j).1 hj with h1|rfl
  ·exact (hm _).2 (.inl (L.cl j o h1 ho e he' hb))
  ·exact (hm _).2 (.inl (he o ho e he' hb))
theorem LZ.pop {i:Nat} {o:Oper} {u:Value} (L:LZ P n ops ρ h β nx tm tmps pl E (i::r) qf) (hE:E.testBit i=true) (ho:ops[i]?=some o) (hρ:ρ.le ρ') (hq:∀ j∈r,E.testBit j=true→∀ q,qf j=some q→ρ q=none→ρ' q=none) (hx:∀ x,o.dst=some x→VR ρ' (tm.at x) u∧x < n) :
  LZ P n ops ρ' h β nx tm (nD tmps o.dst u) pl E r qf:=by
 obtain ⟨h1,h2⟩:=L.ord_tail;refine ⟨L.sc,by rw[qS];exact L.size,L.ck,h1,(List.nodup_cons.1 L.nd).2,fun j hj=>L.lt j (by simp [hj]),h2,fun j hj hjr=>?_,L.ecl,fun a ha b hb=>L.inj a (by simp [ha]) b (by simp [hb]),fun a ha=>L.ql a (by simp [ha]),fun j hj hEj p hp=>?_,fun t ht=>?_⟩
 ·by_cases hji:j=i
  ·subst hji;exact hE
  ·exact L.sub j hj (by simp [hji,hjr])
 ·obtain ⟨p1,d,g,b,p2,p3,tm0,p4,p5⟩:=L.pend j (by simp [hj]) hEj p hp
  refine ⟨p1,d,g,b,p2,p3,tm0,p4,?_⟩;rcases p5 with p5|⟨p5,p6⟩
  ·exact .inl p5
  ·refine .inr ⟨p5,?_⟩
   rcases p6 with p6|⟨ab,ob,mk,q,q1,q2,qs,q3,q4⟩
   ·exact .inl p6
   ·exact .inr ⟨ab,ob,mk,q,q1,q2,qs,hq j hj hEj q qs q3,q4⟩
 ·rw[vK (fun x hd=>Nat.lt_of_lt_of_le (hx x hd).2 L.size)]
  split
  ·rename_i hd;exact (hx t hd).1
  ·rename_i hd
   refine (L.vals t fun j hj hEj p hp=>?_).mono hρ;rcases List.mem_cons.1 hj with rfl|hj
   ·rw[ho] at hp;cases hp;exact hd
   ·exact ht j hj hEj p hp
theorem LZ.catch1 {i:Nat} (L:LZ P n ops ρ h β nx tm tmps pl E (i::r) qf) (hE:E.testBit i=true) (hck:jP i pl=false) (H:HR P w0 ρ h nx w) (b:Frame) (items:List Item) (cs:List Frame) :
  ∃ w' ρ' tmps',Steps P (lone (b.atR ⟨tmps,ds⟩ (.inRegion ops (i::r)::items)) cs w) (lone (b.atR ⟨tmps',ds⟩ (.inRegion ops r::items)) cs w')∧HR P w0 ρ' h nx w'∧Keep β ρ h ρ' h∧LZ P n ops ρ' h β nx tm tmps' pl E r qf:=by
 have hi:=L.lt i (by simp);obtain ⟨o,ho⟩:∃ o,ops[i]?=some o:=⟨ops[i],by simp [hi]⟩
 obtain ⟨hw,d,g,ob,hc,hb,tm0,hrd,hev⟩:=L.pend i (by simp) hE o ho;obtain ⟨hbo,hd,hx,hg⟩:=eQ hc hb
 have hread:∀ t,(jV ops o).testBit t=true→VR ρ (tm0.at t) (tmps.getD t Go.undef):=fun t ht=>by
  rw[hrd t ht];exact L.reads ho ht (fun h=>by rw[hw] at h;cases h)
 have hT:XR ρ tm0 tmps o.op.operands.toList:=fun t ht=>hread t (aAo ht)
 have hwant:∀ bb,gD g tm0=some bb→Region.wanted o (yielded ops tmps)=bb:=fun bb hp=>qY hg L.size (fun j want t h1 h2=>hread t (m7 h1 h2)) hp
 rcases hev with ⟨h1,h2⟩|⟨h1,h2⟩
 ·refine ⟨w,ρ,nD tmps o.dst Go.undef,Steps.one ?_,H,Keep.refl _ _ _,L.pop hE ho (Rho.le_refl _) (fun _ _ _ _ _ h=>h) fun x hxd=>⟨by rw[h2 x hxd];exact VR.undef,hx x hxd⟩⟩
  rw[←put_eq,show o.dst=(ops[i]?).bind (·.dst) by rw[ho];rfl];exact stepR_op_skip (by rw[ho];simp [hwant false h1])
 ·rcases h2 with ⟨pb,v,rfl,hv,h3⟩|⟨ab,oo,mk,qi,rfl,hA,hqs,hq1,hq2,hq3,hq4,hq5⟩
  ·have h3:=h3.resolve_left (fun h=>by rw[hck] at h;cases h.2)
   obtain ⟨v',hv',u,hu,huv⟩:=aBK (ds:=ds) H hbo.symm hT h3;have hvv:v'=v:=by simpa using hv'
   subst hvv;refine ⟨w,ρ,nD tmps o.dst u,Steps.one ?_,H,Keep.refl _ _ _,L.pop hE ho (Rho.le_refl _) (fun _ _ _ _ _ h=>h) fun x hxd=>⟨by rw[hv x hxd];exact huv,hx x hxd⟩⟩;rw[←put_eq];exact cY ho (hwant true h1) (wR hbo.symm h3) hu
  ·obtain ⟨ob',mk',a1,_,a3⟩:=aAk (ds:=ds) (k:=fun _ _=>.ok V.undef) (r:=V.undef) H hbo.symm hT (by rw[hA])
   obtain ⟨rfl,rfl⟩:=a1.uniq hA;obtain ⟨x,N,u,a4,a5⟩:=a3.run;obtain ⟨a6,a7⟩:=a5 qi hq1;have hle:=Rho.set_le (b:=w.heap.size) (N:=N) hq1;refine ⟨w.alloc x,ρ.set qi w.heap.size N,nD tmps o.dst u,Steps.one ?_,H.born hq1 hq4 (by rw[hq2];exact a6),⟨hle,fun q hlt hn=>⟨?_,rfl⟩⟩,L.pop hE ho hle (fun j hj hEj q hqj hn=>?_) fun y hyd=>⟨by rw[hq5 y hyd];exact a7,hx y hyd⟩⟩
   ·rw[←put_eq]
    exact cY ho (hwant true h1) (wF hbo.symm) a4
   ·unfold Rho.set
    rw[if_neg (fun e=>by subst e;omega)];exact hn
   ·unfold Rho.set
    rw[if_neg (fun e=>?_)];exact hn;subst e;have hji:=L.inj j (by simp [hj]) i (by simp) hEj hE _ hqj hqs;subst hji;exact (List.nodup_cons.1 L.nd).1 hj
theorem LZ.catchAll (b:Frame) (items:List Item) (cs:List Frame):∀ {r1 r2:List Nat} {w:World} {ρ:Rho} {tmps:Array Value},LZ P n ops ρ h β nx tm tmps pl E (r1++r2) qf→(∀ i∈r1,E.testBit i=true∧jP i pl=false)→HR P w0 ρ h nx w →
  ∃ w' ρ' tmps',Steps P (lone (b.atR ⟨tmps,ds⟩ (.inRegion ops (r1++r2)::items)) cs w) (lone (b.atR ⟨tmps',ds⟩ (.inRegion ops r2::items)) cs w')∧HR P w0 ρ' h nx w'∧Keep β ρ h ρ' h∧LZ P n ops ρ' h β nx tm tmps' pl E r2 qf
 |[],r2,w,ρ,tmps,L,_,H=>⟨w,ρ,tmps,Steps.refl _ _,H,Keep.refl _ _ _,L⟩
 |i::r1,r2,w,ρ,tmps,L,hp,H=>by
  obtain ⟨w1,ρ1,tmps1,s1,H1,k1,L1⟩:=LZ.catch1 (ds:=ds) (r:=r1++r2) L (hp i (by simp)).1 (hp i (by simp)).2 H b items cs;obtain ⟨w2,ρ2,tmps2,s2,H2,k2,L2⟩:=LZ.catchAll b items cs L1 (fun j hj=>hp j (by simp [hj])) H1;exact ⟨w2,ρ2,tmps2,s1.trans s2,H2,k1.trans k2,L2⟩
end Go.CM
end
noncomputable section
namespace Go.CM
variable {P:Program} {w0 w:World} {ρ ρ':Rho} {h h':T O} {nx nx':Q} {tm:T V} {tmps:Array Value} {ds:List Deferred} {v:V} {ops:Array Oper} {n β E:Nat} {pl:List Pl} {r:List Nat} {qf:Nat→Option Q}
def sC (tm:T V) (d:Option Nat) (v:V):T V :=
 match d with
 |some x=>tm.put V.undef v (qn x)
 |none=>tm
theorem fV (tm:T V) (d:Option Nat) (v:V) (t:Nat):(sC tm d v).at t=if d=some t then v else tm.at t:=by
 cases d with
 |none=>simp [sC]
 |some x=>simp only[sC,aGK,Option.some.injEq]
theorem eJ (d:Option Nat) (v:V) (tm:T V) (k:T V→Res):oB (d.map qn) v tm k=k (sC tm d v):=by
 cases d with
 |none=>rfl
 |some x=>simp only[Option.map_some,oB,tg,sC]
theorem fR {E i j:Nat}:(E ||| 2 ^ i).testBit j=true↔E.testBit j=true∨j=i:=by
 rw[Nat.testBit_or,Nat.testBit_two_pow,Bool.or_eq_true,decide_eq_true_eq];exact ⟨fun h=>h.imp id Eq.symm,fun h=>h.imp id Eq.symm⟩
theorem fM {E i j:Nat} (h:E.testBit j=true):(E ||| 2 ^ i).testBit j=true:=fR.2 (.inl h)
theorem sY {fs:List Inf} {i:Nat} {l:List Pl} (h:jF fs (.run i::l) E=true):∃ f,fs[i]?=some f∧E.testBit i=false∧sub f.bf E=true∧(f.w=true→wOk i f.bf E l fs 0=true)∧jF fs l (E ||| 2 ^ i)=true:=by
 simp only[jF] at h
 split at h
 ·cases h
 ·rename_i f hf
  simp only[Bool.and_eq_true,Bool.not_eq_true',Bool.or_eq_true] at h;exact ⟨f,hf,h.1.1.1,h.1.1.2,fun hw=>h.1.2.resolve_left (fun h'=>by rw[hw] at h';cases h'),h.2⟩
theorem aGq {fs:List Inf} {i:Nat} {l:List Pl} (h:jF fs (.chk i::l) E=true):jF fs l E=true:=by
 simp only[jF] at h
 split at h
 ·cases h
 ·simp only[Bool.and_eq_true] at h;exact h.2
theorem gm {o:Oper} {g:Option (Q×Bool)} {tm tm0:T V} (hg:(o.guard=none∧g=none)∨∃ j want t,o.guard=some (j,want)∧(ops[j]?).bind (·.dst)=some t∧g=some (qn t,want)∧t < n)
  (hrd:∀ t,(jV ops o).testBit t=true→tm0.at t=tm.at t):gD g tm0=gD g tm:=by
 rcases hg with ⟨_,rfl⟩|⟨j,want,t,h1,h2,rfl,_⟩
 ·rfl
 ·have:=hrd t (m7 h1 h2)
  simp only[gD];rw[show tm0.get V.undef (qn t)=tm.get V.undef (qn t) from this]
theorem LZ.chk {i:Nat} (L:LZ P n ops ρ h β nx tm tmps (.chk i::pl) E r qf)
  (hc:∀ o d g pb,ops[i]?=some o→fO P n ops o=.mk d g (.p pb)→gD g tm=some true→∃ x,o.dst=some x∧pK pb tm h .ok=.ok (tm.at x)):LZ P n ops ρ h β nx tm tmps pl E r qf:=by
 refine ⟨L.sc,L.size,aGq L.ck,L.ord,L.nd,L.lt,L.cl,L.sub,L.ecl,L.inj,L.ql,fun j hj hE o ho=>?_,L.vals⟩;obtain ⟨p1,d,g,b,p2,p3,tm0,p4,p5⟩:=L.pend j hj hE o ho;rcases p5 with p5|⟨p5,p6⟩
 ·exact ⟨p1,d,g,b,p2,p3,tm0,p4,.inl p5⟩
 ·rcases p6 with ⟨pb,v,rfl,q1,q2⟩|p6
  ·rcases q2 with ⟨q2,q3⟩|q2
   ·simp only[jP] at q3
    split at q3
    ·rename_i hb
     have hji:=Nat.eq_of_beq_eq_true hb;subst hji;obtain ⟨_,_,_,hg⟩:=eQ p2 p3;have hgp:gD g tm=some true:=by rw[←gm hg p4];exact p5
     obtain ⟨x,hx,hev⟩:=hc o d g pb ho p2 hgp;exact ⟨p1,d,g,_,p2,p3,tm,fun t _=>rfl,.inr ⟨hgp,.inl ⟨pb,tm.at x,rfl,fun y hy=>by rw[hx] at hy;cases hy;rfl,.inr hev⟩⟩⟩
    ·exact ⟨p1,d,g,_,p2,p3,tm0,p4,.inr ⟨p5,.inl ⟨pb,v,rfl,q1,.inl ⟨q2,q3⟩⟩⟩⟩
   ·exact ⟨p1,d,g,_,p2,p3,tm0,p4,.inr ⟨p5,.inl ⟨pb,v,rfl,q1,.inr q2⟩⟩⟩
  ·exact ⟨p1,d,g,b,p2,p3,tm0,p4,.inr ⟨p5,.inr p6⟩⟩
theorem LZ.eager {i:Nat} {o:Oper} (L:LZ P n ops ρ h β nx tm tmps (.run i::pl) E r qf) (ho:ops[i]?=some o) (hw:wOf P o=false) {v:V} {qf':Nat→Option Q} (hnx:nx.nat≤nx'.nat)
  (hh:∀ q,q.nat < nx.nat→h'.ob q=h.ob q) (hheap:h'=h∨∀ pb,bT P o≠.p pb) (hqf:∀ j,j≠i→qf' j=qf j)
  (hinj:∀ q,qf' i=some q→q.nat < nx'.nat∧∀ j∈r,E.testBit j=true→qf j≠some q)
  (hP:∃ (d:Option Q) (g:Option (Q×Bool)) (b:OB),fO P n ops o=.mk d g b∧CO.mk d g b≠fC∧((gD g tm=some false∧v=V.undef)∨(gD g tm=some true ∧
   ((∃ pb,b=.p pb∧pK pb tm h' .ok=.ok v)∨(∃ ab ob mk q,b=.a ab∧AE ab tm ob mk∧qf' i=some q∧ρ q=none∧h'.ob q=ob∧β≤q.nat∧q.nat < nx'.nat∧v=mk q)))))
  (hpk:∀ j∈r,E.testBit j=true→∀ pb tm0 v',pK pb tm0 h .ok=.ok v'→(∃ p,ops[j]?=some p∧bT P p=.p pb)→pK pb tm0 h' .ok=.ok v') :
  LZ P n ops ρ h' β nx' (sC tm o.dst v) tmps pl (E ||| 2 ^ i) r qf':=by
 obtain ⟨f,hf,hEi,hsub,_,hck⟩:=sY L.ck;have hsz:i < ops.size:=(Array.getElem?_eq_some_iff.1 ho).1;have hfi:=L.sc.inf ho;rw[hf] at hfi;have hff:=Option.some.inj hfi;have hbf:∀ p,(nk ops i).testBit p=true→E.testBit p=true:=fun p hp=>aAT hsub p (by rw[hff];exact hp)
 have hir:i∈r:=by
  by_cases hir:i∈r
  ·exact hir
  ·have:=L.sub i hsz hir;rw[hEi] at this;cases this
 have hnr:∀ j p t,j∈r→E.testBit j=true→ops[j]?=some p→(jV ops p).testBit t=true→o.dst≠some t:=fun j p t hj hEj hp hrd hd=>by
  obtain ⟨hne,h1⟩:=L.sc.reads ho hp hd hrd (fun e=>by subst e;rw[hEi] at hEj;cases hEj);rcases h1 with h1|⟨h1,_⟩
  ·have:=L.ecl j (L.lt j hj) hEj i h1
   rw[hEi] at this;cases this
  ·rw[hw] at h1;cases h1
 refine ⟨L.sc,L.size,hck,L.ord,L.nd,L.lt,L.cl,fun j hj hjr=>fM (L.sub j hj hjr),fun j hj hEj p hp=>?_,fun a ha b hb hEa hEb q hqa hqb=>?_,fun a ha hEa q hqa=>?_,fun j hj hEj p hp=>?_,fun t ht=>?_⟩
 ·rcases fR.1 hEj with hEj|rfl
  ·exact fM (L.ecl j hj hEj p hp)
  ·exact fM (hbf p hp)
 ·by_cases hai:a=i
  ·subst hai
   by_cases hbi:b=a
   ·exact hbi.symm
   ·have hEb':=(fR.1 hEb).resolve_right hbi
    rw[hqf b hbi] at hqb;exact absurd hqb ((hinj q hqa).2 b hb hEb')
  ·have hEa':=(fR.1 hEa).resolve_right hai
   rw[hqf a hai] at hqa;by_cases hbi:b=i
   ·subst hbi
    exact absurd hqa ((hinj q hqb).2 a ha hEa')
   ·have hEb':=(fR.1 hEb).resolve_right hbi
    rw[hqf b hbi] at hqb;exact L.inj a ha b hb hEa' hEb' q hqa hqb
 ·by_cases hai:a=i
  ·subst hai;exact (hinj q hqa).1
  ·rw[hqf a hai] at hqa
   exact Nat.lt_of_lt_of_le (L.ql a ha ((fR.1 hEa).resolve_right hai) q hqa) hnx
 ·by_cases hji:j=i
  ·subst hji
   rw[ho] at hp;cases hp;obtain ⟨d,g,b,p2,p3,p5⟩:=hP;refine ⟨hw,d,g,b,p2,p3,tm,fun t ht=>?_,?_⟩
   ·rw[fV,if_neg (fun hd=>?_)]
    have:=(L.sc.reads ho ho hd ht (fun _=>hw)).1
    exact this rfl
   ·rcases p5 with ⟨a1,a2⟩|⟨a1,a2⟩
    ·exact .inl ⟨a1,fun x hx=>by rw[fV,if_pos hx];exact a2⟩
    ·refine .inr ⟨a1,?_⟩
     rcases a2 with ⟨pb,rfl,a3⟩|⟨ab,ob,mk,q,rfl,a3,as,a4,a5,a6,a7,a8⟩
     ·exact .inl ⟨pb,v,rfl,fun x hx=>by rw[fV,if_pos hx],.inr a3⟩
     ·exact .inr ⟨ab,ob,mk,q,rfl,a3,as,a4,a5,a6,a7,fun x hx=>by rw[fV,if_pos hx];exact a8⟩
  ·have hEj':=(fR.1 hEj).resolve_right hji
   obtain ⟨p1,d,g,b,p2,p3,tm0,p4,p5⟩:=L.pend j hj hEj' p hp
   have hdst:∀ x,p.dst=some x→(sC tm o.dst v).at x=tm.at x:=fun x hx=>by
    rw[fV,if_neg (fun hd=>L.sc.dsts ho hp hd hji hx)]
   refine ⟨p1,d,g,b,p2,p3,tm0,fun t ht=>?_,?_⟩
   ·rw[p4 t ht,fV,if_neg (hnr j p t hj hEj' hp ht)]
   ·rcases p5 with ⟨a1,a2⟩|⟨a1,a2⟩
    ·exact .inl ⟨a1,fun x hx=>by rw[hdst x hx];exact a2 x hx⟩
    ·refine .inr ⟨a1,?_⟩
     rcases a2 with ⟨pb,v',rfl,a3,a4⟩|⟨ab,ob,mk,q,rfl,a3,as,a4,a5,a6,a7,a8⟩
     ·refine .inl ⟨pb,v',rfl,fun x hx=>by rw[hdst x hx];exact a3 x hx,?_⟩
      rcases a4 with ⟨a4,a5⟩|a4
      ·exact absurd a5 (by simp [jP])
      ·exact .inr (hpk j hj hEj' pb tm0 v' a4 ⟨p,hp,((eQ p2 p3).1).symm⟩)
     ·rw[←hqf j hji] at as
      exact .inr ⟨ab,ob,mk,q,rfl,a3,as,a4,by rw[hh _ a7];exact a5,a6,Nat.lt_of_lt_of_le a7 hnx,fun x hx=>by rw[hdst x hx];exact a8 x hx⟩
 ·have hti:o.dst≠some t:=ht i hir (fR.2 (.inr rfl)) o ho
  rw[fV,if_neg hti];exact L.vals t fun j hj hEj p hp=>ht j hj (fM hEj) p hp
theorem LZ.sync {i:Nat} {o:Oper} {u:Value} (L:LZ P n ops ρ h β nx tm tmps (.run i::pl) E (i::r) qf) (ho:ops[i]?=some o) (hw:wOf P o=true) {v:V} (hx:∀ x,o.dst=some x→x < n) (hnx:nx.nat≤nx'.nat) (hK:Keep nx.nat ρ h ρ' h') (hv:VR ρ' v u) :
  LZ P n ops ρ' h' β nx' (sC tm o.dst v) (nD tmps o.dst u) pl (E ||| 2 ^ i) r qf:=by
 obtain ⟨f,hf,hEi,hsub,hwok,hck⟩:=sY L.ck;have hfi:=L.sc.inf ho;rw[hf] at hfi;have hff:=Option.some.inj hfi;have hbf:∀ p,(nk ops i).testBit p=true→E.testBit p=true:=fun p hp=>aAT hsub p (by rw[hff];exact hp)
 have hwk:=qj (hwok (by rw[hff];exact hw));obtain ⟨g1,g2⟩:=L.ord_tail;have hne:∀ j∈r,j≠i:=fun j hj e=>by subst e;exact (List.nodup_cons.1 L.nd).1 hj
 have hbefore:∀ j∈r,(nk ops i).testBit j=true→False:=fun j hj hb=>L.before hb (by simp [hj])
 have hnr:∀ j p t,j∈r→E.testBit j=true→ops[j]?=some p→(jV ops p).testBit t=true→o.dst≠some t:=fun j p t hj hEj hp hrd hd=>by
  obtain ⟨_,h1⟩:=L.sc.reads ho hp hd hrd (fun e=>absurd e (hne j hj));rcases h1 with h1|⟨_,h1⟩
  ·have:=L.ecl j (L.lt j (by simp [hj])) hEj i h1
   rw[hEi] at this;cases this
  ·exact hbefore j hj h1
 refine ⟨L.sc,by rw[qS];exact L.size,hck,g1,(List.nodup_cons.1 L.nd).2,fun j hj=>L.lt j (by simp [hj]),g2,fun j hj hjr=>?_,fun j hj hEj p hp=>?_,fun a ha b hb hEa hEb=>L.inj a (by simp [ha]) b (by simp [hb]) ((fR.1 hEa).resolve_right (hne a ha)) ((fR.1 hEb).resolve_right (hne b hb)),fun a ha hEa q hqa=>Nat.lt_of_lt_of_le (L.ql a (by simp [ha]) ((fR.1 hEa).resolve_right (hne a ha)) q hqa) hnx,fun j hj hEj p hp=>?_,fun t ht=>?_⟩
 ·by_cases hji:j=i
  ·exact fR.2 (.inr hji)
  ·exact fM (L.sub j hj (by simp [hji,hjr]))
 ·rcases fR.1 hEj with hEj|rfl
  ·exact fM (L.ecl j hj hEj p hp)
  ·exact fM (hbf p hp)
 ·have hEj':=(fR.1 hEj).resolve_right (hne j hj)
  obtain ⟨p1,d,g,b,p2,p3,tm0,p4,p5⟩:=L.pend j (by simp [hj]) hEj' p hp
  have hdst:∀ x,p.dst=some x→(sC tm o.dst v).at x=tm.at x:=fun x hx=>by
   rw[fV,if_neg (fun hd=>L.sc.dsts ho hp hd (hne j hj) hx)]
  refine ⟨p1,d,g,b,p2,p3,tm0,fun t ht=>?_,?_⟩
  ·rw[p4 t ht,fV,if_neg (hnr j p t hj hEj' hp ht)]
  ·rcases p5 with ⟨a1,a2⟩|⟨a1,a2⟩
   ·exact .inl ⟨a1,fun x hx=>by rw[hdst x hx];exact a2 x hx⟩
   ·refine .inr ⟨a1,?_⟩
    rcases a2 with ⟨pb,v',rfl,a3,a4⟩|⟨ab,ob,mk,q,rfl,a3,as,a4,a5,a6,a7,a8⟩
    ·refine .inl ⟨pb,v',rfl,fun x hx=>by rw[hdst x hx];exact a3 x hx,?_⟩
     have a4:=a4.resolve_left (fun h=>by simp [jP] at h);cases hr:isR pb with
     |false=>exact .inr (by rw[←a4];exact ve hr _ _)
     |true =>
      left;refine ⟨rfl,?_⟩;have hfj:=L.sc.inf hp;have h2:=(hwk j _ hfj (by rw[Nat.zero_add];exact hne j hj)).2;simp only[Nat.zero_add] at h2;have hro:aEc (bT P p)=true:=by rw[←(eQ p2 p3).1];exact hr
      rcases h2 hEj' hro with h3|h3
      ·rw[hff] at h3;exact (hbefore j hj h3).elim
      ·exact h3
    ·obtain ⟨k1,k2⟩:=hK.pend q a7 a4
     exact .inr ⟨ab,ob,mk,q,rfl,a3,as,k1,by rw[k2];exact a5,a6,Nat.lt_of_lt_of_le a7 hnx,fun x hx=>by rw[hdst x hx];exact a8 x hx⟩
 ·rw[fV,vK (fun x hd=>Nat.lt_of_lt_of_le (hx x hd) L.size)]
  split
  ·exact hv
  ·rename_i hd
   refine (L.vals t fun j hj hEj p hp=>?_).mono hK.le;rcases List.mem_cons.1 hj with rfl|hj
   ·rw[hEi] at hEj;cases hEj
   ·exact ht j hj (fM hEj) p hp
theorem LZ.ahead {i:Nat} {o:Oper} (L:LZ P n ops ρ h β nx tm tmps (.run i::pl) E r qf) (ho:ops[i]?=some o) (hw:wOf P o=true):∃ r1 r2,r=r1++i::r2∧∀ j∈r1,E.testBit j=true∧jP j (.run i::pl)=false:=by
 obtain ⟨f,hf,hEi,hsub,hwok,hck⟩:=sY L.ck;have hfi:=L.sc.inf ho;rw[hf] at hfi;have hff:=Option.some.inj hfi;have hwk:=qj (hwok (by rw[hff];exact hw));have hsz:i < ops.size:=(Array.getElem?_eq_some_iff.1 ho).1
 have main:∀ (r:List Nat) (D:Nat→Prop),Ordr ops D r→br ops D→¬ D i→(∀ j,j < ops.size→D j→E.testBit j=true)→∃ r1 r2,r=r1++i::r2∧∀ j∈r1,E.testBit j=true:=by
  intro r;induction r with
  |nil =>
   intro D hO _ hD _;cases hO with|nil h=>exact absurd (h i hsz) hD
  |cons k r ih =>
   intro D hO hC hD hE;cases hO with
   |cons hk hn he hr =>
   by_cases hki:k=i
   ·subst hki;exact ⟨[],r,rfl,by simp⟩
   ·have hEk:E.testBit k=true:=by
     cases hb:E.testBit k with
     |true=>rfl
     |false =>
      obtain ⟨p,hp⟩:∃ p,ops[k]?=some p:=⟨ops[k],by simp [hk]⟩
      have h2:=(hwk k _ (L.sc.inf hp) (by rw[Nat.zero_add];exact hki)).1;simp only[Nat.zero_add] at h2;exact absurd (iU L.sc.edge hC (k+1) k (by omega) he i (h2 hb)) hD
    obtain ⟨r1,r2,h1,h2⟩:=ih _ hr (fun j o hj ho' e he' hb'=>by
     rcases hj with hj|rfl
     ·exact .inl (hC j o hj ho' e he' hb')
     ·exact .inl (he o ho' e he' hb')) (fun h=>h.elim hD (fun e=>hki e.symm)) (fun j hj hDj=>by
     rcases hDj with hDj|rfl
     ·exact hE j hj hDj
     ·exact hEk)
    exact ⟨k::r1,r2,by rw[h1];rfl,fun j hj=>by
     rcases List.mem_cons.1 hj with rfl|hj
     ·exact hEk
     ·exact h2 j hj⟩
 obtain ⟨r1,r2,h1,h2⟩:=main r _ L.ord L.cl (fun hD=>by
  have:=L.sub i hD.1 hD.2;rw[hEi] at this;cases this) (fun j hj hD=>L.sub j hj hD.2)
 exact ⟨r1,r2,h1,fun j hj=>⟨h2 j hj,rfl⟩⟩
theorem LZ.atEnd (L:LZ P n ops ρ h β nx tm tmps [] E r qf):∀ i∈r,E.testBit i=true∧jP i []=false:=fun i hi=>by
 have h1:=Nat.eq_of_beq_eq_true L.ck;refine ⟨?_,rfl⟩;rw[h1,L.sc.len,Nat.testBit_two_pow_sub_one];simpa using L.lt i hi
theorem LZ.done (L:LZ P n ops ρ h β nx tm tmps pl E [] qf):TR ρ n tm tmps:=⟨L.size,fun t=>L.vals t fun i hi=>by cases hi⟩
theorem LZ.start {tm:T V} (hT:TR ρ n tm tmps) (hS:SC P ops) (hck:jF (xO P ops) pl 0=true) (hr:Ordr ops (fun _=>False) r) (hnd:r.Nodup) (hlt:∀ i∈r,i < ops.size) (hall:∀ i,i < ops.size→i∈r) (qf:Nat→Option Q):LZ P n ops ρ h β nx tm tmps pl 0 r qf:=by
 have hD:∀ i,False↔(i < ops.size∧i∉r):=fun i=>⟨fun h=>h.elim,fun h=>h.2 (hall i h.1)⟩
 refine ⟨hS,hT.size,hck,hr.congr hD,hnd,hlt,fun j o hj=>absurd (hall j hj.1) hj.2,fun i hi hir=>absurd (hall i hi) hir,fun i _ h=>by simp at h,fun i _ j _ h=>by simp at h,fun i _ h=>by simp at h,fun i _ h=>by simp at h,fun t _=>hT.rel t⟩
end Go.CM
end
