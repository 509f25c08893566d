import Derived.Test.YtdkkaldimefljaaGreatDoorX10
import Derived.Orders
set_option linter.all false
section
namespace Go.AM
variable {P:Program} {ans:FuncId→Ann} {an:Ann} {R:Type} {r:R}
variable {tm:List Slot} {rs:RS} {ops:Array Oper} {cf:Oracle} {o a:Oper} {rid i j:Nat}
structure Fit (ans:FuncId→Ann) (an:Ann) (rid:Nat) (ops:Array Oper):Prop where
 ok:∀ (i:Nat) (o:Oper),ops[i]?=some o→OpOK an ops o
 edge:∀ (i:Nat) (o:Oper),ops[i]?=some o→∀ e∈o.after.toList,Region.binds .any e=true→e.on < i
 free:∀ (i j:Nat) (a b:Oper),i < j→ops[i]?=some a→ops[j]?=some b→((Region.before ops).getD j 0).testBit i=true ∨
  ((clsOf ans an.loc ops (an.pure.contains (rid,i)) (an.take.contains (rid,i)) a).clash (clsOf ans an.loc ops (an.pure.contains (rid,j)) (an.take.contains (rid,j)) b)=false ∧
    Half an.keep an.loc ops (an.take.contains (rid,i)) (an.take.contains (rid,j)) a b∧Half an.keep an.loc ops (an.take.contains (rid,j)) (an.take.contains (rid,i)) b a)
theorem fit_of (h1:drawOk ans an rid ops=true) (h2:noX ans an rid ops=true):Fit ans an rid ops:=by
 have hx:∀ (i:Nat) (o:Oper),ops[i]?=some o→(o.after.all (fun e=>!Region.binds .any e||Nat.blt e.on i)=true ∧
   (match o.dst with|some d=>!an.loc.contains d||ops.all (fun o=>match addrTmp o with|some t=>!Nat.beq t d|none=>true)|none=>true)=true):=fun i o ho=>by
  have hlt:i < ops.size:=(Array.getElem?_eq_some_iff.1 ho).1
  have:=List.all_eq_true.1 h2 i (List.mem_range.2 hlt)
  rw[ho] at this
  simp only[Bool.and_eq_true] at this
  exact ⟨this.1.2,this.2⟩
 refine ⟨fun i o ho=>⟨?_,fun d hd hl o' ho' he=>?_⟩,fun i o ho e he hb=>?_,fun i j a b hij ha hb=>?_⟩
 ·exact List.mem_of_getElem? (by rw[Array.getElem?_toList];exact ho)
 ·have:=(hx i o ho).2
  rw[hd] at this
  simp only[hl,Bool.not_true,Bool.false_or] at this
  rw[←Array.all_toList] at this
  have:=List.all_eq_true.1 this o' ho'
  rw[he] at this
  simp only[Bool.not_eq_true'] at this
  rw[show Nat.beq d d=true from Nat.beq_refl d] at this;cases this
 ·have:=(hx i o ho).1
  rw[←Array.all_toList] at this
  have:=List.all_eq_true.1 this e he
  simpa [hb,Nat.blt_eq] using this
 ·have hj:j < ops.size:=(Array.getElem?_eq_some_iff.1 hb).1
  have:=List.all_eq_true.1 (List.all_eq_true.1 h1 j (List.mem_range.2 hj)) i (List.mem_range.2 hij)
  rw[ha,hb] at this
  simp only[Bool.or_eq_true,Bool.not_eq_true',Bool.or_eq_false_iff] at this
  rcases this with h|⟨⟨h,h'⟩,h''⟩
  ·exact .inl h
  ·exact .inr ⟨h,half_of h',half_of h''⟩
theorem opsS_congr (hpc:PrimCf ans cf) (hn:noRef tm) (hF:Fit ans an rid ops) {kn:RS→Option R} (hk:∀ rs1 rs2:RS,RSeq rs1 rs2→kn rs1=kn rs2):∀ {l:List Nat} {rs1 rs2:RS},RSeq rs1 rs2→RefIn ops rs1 →
  opsS P ans an true cf tm rid ops (fun _ _=>none) kn l rs1=some r→opsS P ans an true cf tm rid ops (fun _ _=>none) kn l rs2=some r
 |[],rs1,rs2,hq,hR,e=>by
  simp only[opsS] at e ⊢
  rw[←hk _ _ hq];exact e
 |i::l,rs1,rs2,hq,hR,e=>by
  simp only[opsS] at e ⊢
  split at e
  ·rename_i o ho
   obtain ⟨rs',rs2',a1,a2,a3,a4,a5⟩:=one_congr hpc hn (hF.ok i o ho) hq hR e
   rw[a2]
   exact opsS_congr hpc hn hF hk a3 a4 a5
  ·cases e
theorem opsS_front (hpc:PrimCf ans cf) (hn:noRef tm) (hF:Fit ans an rid ops) {kn:RS→Option R} (hk:∀ rs1 rs2:RS,RSeq rs1 rs2→kn rs1=kn rs2) {i:Nat} {l:List Nat}:∀ {pre:List Nat} {rs:RS},(∀ p∈pre,p < i∧((Region.before ops).getD i 0).testBit p=false)→RefIn ops rs →
  opsS P ans an true cf tm rid ops (fun _ _=>none) kn (pre++i::l) rs=some r→opsS P ans an true cf tm rid ops (fun _ _=>none) kn (i::(pre++l)) rs=some r
 |[],rs,hp,hR,e=>e
 |p::pre,rs,hp,hR,e=>by
  simp only[List.cons_append,opsS] at e ⊢
  split at e
  case h_2=>cases e
  rename_i o ho
  obtain ⟨rs',rs2',a1,a2,a3,a4,a5⟩:=one_congr hpc hn (hF.ok p o ho) (RSeq.refl rs) hR e
  have ih:=opsS_front hpc hn hF hk (l:=l) (fun q hq=>hp q (by simp [hq])) a4 a5
  simp only[opsS] at ih
  split at ih
  case h_2=>cases ih
  rename_i a ha
  have hfree:=hF.free p i o a (hp p (by simp)).1 ho ha
  rw[(hp p (by simp)).2] at hfree
  obtain ⟨hcl,H1,H2⟩:=hfree.resolve_left (by simp)
  have e2:oneK P ans an true cf tm rid ops (fun _ _=>none) o p rs (fun rs'=>oneK P ans an true cf tm rid ops (fun _ _=>none) a i rs' fun rs'=>opsS P ans an true cf tm rid ops (fun _ _=>none) kn (pre++l) rs')=some r:=by rw[a1];exact ih
  obtain ⟨rs1,rsA,rs2,b1,b2,b3,b4,b5⟩:=comm hpc hn (hF.ok p o ho) (hF.ok i a ha) hR hcl H1 H2 e2
  rw[b2]
  rw[b3]
  exact opsS_congr hpc hn hF hk b4 b5 b1
def Inv (ops:List Oper) (acc:Array Nat):Prop:=acc.size≤ops.length∧∀ (j p:Nat),(acc.getD j 0).testBit p=true→∃ o:Oper,ops[j]?=some o∧∃ e∈o.after.toList,Region.binds .any e=true∧(p=e.on∨(acc.getD e.on 0).testBit p=true)
theorem testBit_after (acc:Array Nat) (p:Nat):∀ (l:List Edge) (s:Nat),(l.foldl (fun s e=>if Region.binds .any e then s ||| 2 ^ e.on ||| acc.getD e.on 0 else s) s).testBit p=true →
  s.testBit p=true∨∃ e∈l,Region.binds .any e=true∧(p=e.on∨(acc.getD e.on 0).testBit p=true)
 |[],s,h=>.inl h
 |e::l,s,h=>by
  simp only[List.foldl_cons] at h
  rcases testBit_after acc p l _ h with h|⟨e',h1,h2⟩
  ·split at h
   ·rename_i hb
    simp only[Nat.testBit_or,Nat.testBit_two_pow,Bool.or_eq_true,decide_eq_true_eq] at h
    rcases h with (h|h)|h
    ·exact .inl h
    ·exact .inr ⟨e,by simp,hb,.inl h.symm⟩
    ·exact .inr ⟨e,by simp,hb,.inr h⟩
   ·exact .inl h
  ·exact .inr ⟨e',by simp [h1],h2⟩
theorem inv_fold:∀ (l done:List Oper) (acc:Array Nat),acc.size=done.length→Inv (done++l) acc →
  Inv (done++l) (l.foldl (fun acc o=>acc.push (o.after.foldl (fun s e=>if Region.binds .any e then s ||| 2 ^ e.on ||| acc.getD e.on 0 else s) 0)) acc)
 |[],done,acc,hs,h=>h
 |o::l,done,acc,hs,h=>by
  simp only[List.foldl_cons]
  rw[show done++o::l=(done++[o])++l by simp] at h ⊢
  refine inv_fold l (done++[o]) _ (by simp [hs]) ⟨by simp [hs],fun j p hb=>?_⟩
  generalize hv:o.after.foldl (fun s e=>if Region.binds .any e then s ||| 2 ^ e.on ||| acc.getD e.on 0 else s) 0=v at hb ⊢
  have grow:∀ k,(acc.getD k 0).testBit p=true→((acc.push v).getD k 0).testBit p=true:=fun k hk=>by
   have hlt:k < acc.size:=by
    rcases Nat.lt_or_ge k acc.size with h'|h'
    ·exact h'
    ·rw[Array.getD_eq_getD_getElem?,Array.getElem?_eq_none h'] at hk;simp at hk
   rw[Array.getD_eq_getD_getElem?,Array.getElem?_push_lt hlt]
   rw[Array.getD_eq_getD_getElem?,Array.getElem?_eq_getElem hlt] at hk
   exact hk
  by_cases hj:j=acc.size
  ·subst hj
   rw[Array.getD_eq_getD_getElem?] at hb
   simp only[Array.getElem?_push_size,Option.getD_some] at hb
   refine ⟨o,by rw[hs,List.append_assoc,List.getElem?_append_right (Nat.le_refl _)];simp,?_⟩
   rw[←hv,←Array.foldl_toList] at hb
   rcases testBit_after acc p _ 0 hb with h'|⟨e,h1,h2,h3⟩
   ·simp at h'
   ·exact ⟨e,h1,h2,h3.imp id (grow _)⟩
  ·have hb':(acc.getD j 0).testBit p=true:=by
    rw[Array.getD_eq_getD_getElem?,Array.getElem?_push] at hb
    rw[if_neg hj] at hb
    rw[Array.getD_eq_getD_getElem?];exact hb
   obtain ⟨o',h1,e,h2,h3,h4⟩:=h.2 j p hb'
   exact ⟨o',h1,e,h2,h3,h4.imp id (grow _)⟩
theorem before_inv (ops:Array Oper):Inv ops.toList (Region.before ops):=by
 have:=inv_fold ops.toList [] #[] rfl ⟨by simp,fun j p h=>by simp at h⟩
 unfold Region.before
 rw[←Array.foldl_toList]
 exact this
theorem before_in (hF:Fit ans an rid ops) (S:Nat→Prop) (hS:∀ (j:Nat) (o:Oper),S j→ops[j]?=some o→∀ e∈o.after.toList,Region.binds .any e=true→S e.on):∀ (n i:Nat),i < n→(∀ o:Oper,ops[i]?=some o→∀ e∈o.after.toList,Region.binds .any e=true→S e.on) →
  ∀ p,((Region.before ops).getD i 0).testBit p=true→S p
 |0,i,hi,_,p,_=>by omega
 |n+1,i,hi,hi2,p,hb=>by
  obtain ⟨o,ho,e,he,hbd,h⟩:=(before_inv ops).2 i p hb
  rw[Array.getElem?_toList] at ho
  have hs:=hi2 o ho e he hbd
  rcases h with h|h
  ·subst h;exact hs
  ·have:=hF.edge i o ho e he hbd
   exact before_in hF S hS n e.on (by omega) (fun o' ho' e' he' hb'=>hS e.on o' hs ho' e' he' hb') p h
def rem (n:Nat) (listed:Array Bool):List Nat:=(List.range n).filter fun i=>!listed.getD i true
theorem range_pw (n:Nat):(List.range n).Pairwise (· < ·):=List.pairwise_lt_range
theorem rem_set {n i:Nat} {listed:Array Bool} {pre post:List Nat} (h:rem n listed=pre++i::post) (hi:i < listed.size):rem n (listed.setIfInBounds i true)=pre++post:=by
 have hf:rem n (listed.setIfInBounds i true)=(rem n listed).filter (fun k=>k != i):=by
  unfold rem
  rw[List.filter_filter]
  apply List.filter_congr
  intro k _
  by_cases hk:k=i
  ·subst hk
   simp [Array.getD_eq_getD_getElem?,Array.getElem?_setIfInBounds_self,hi]
  ·simp [Array.getD_eq_getD_getElem?,Array.getElem?_setIfInBounds_ne (Ne.symm hk),hk]
 have hpw:(rem n listed).Pairwise (· < ·):=(range_pw n).filter _
 rw[h] at hpw
 rw[List.pairwise_append] at hpw
 obtain ⟨_,h2,h3⟩:=hpw
 rw[List.pairwise_cons] at h2
 rw[hf,h,List.filter_append,List.filter_cons]
 have e1:pre.filter (fun k=>k != i)=pre:=List.filter_eq_self.2 fun x hx=>by have:=h3 x hx i (by simp);simp;omega
 have e2:post.filter (fun k=>k != i)=post:=List.filter_eq_self.2 fun x hx=>by have:=h2.1 x hx;simp;omega
 simp [e1,e2]
theorem go_ok (hpc:PrimCf ans cf) (hn:noRef tm) (hF:Fit ans an rid ops) {kn:RS→Option R} (hk:∀ rs1 rs2:RS,RSeq rs1 rs2→kn rs1=kn rs2):∀ (fuel t:Nat) (listed:Array Bool) (rs:RS),listed.size=ops.size→(rem ops.size listed).length=fuel →
  (∀ (j:Nat) (o:Oper),listed.getD j false=true→ops[j]?=some o→∀ e∈o.after.toList,Region.binds .any e=true→listed.getD e.on false=true)→RefIn ops rs →
  opsS P ans an true cf tm rid ops (fun _ _=>none) kn (rem ops.size listed) rs=some r→opsS P ans an true cf tm rid ops (fun _ _=>none) kn (Region.linearise.go .any ops fuel t listed []) rs=some r
 |0,t,listed,rs,hs,hl,hc,hR,e=>by
  rw[List.length_eq_zero_iff.1 hl] at e
  simpa [Region.linearise.go] using e
 |fuel+1,t,listed,rs,hs,hl,hc,hR,e=>by
  have hready:∀ i,i∈Region.ready .any ops listed↔i∈rem ops.size listed∧∀ o:Oper,ops[i]?=some o→∀ e∈o.after.toList,Region.binds .any e=true→listed.getD e.on false=true:=fun i=>by
   unfold Region.ready rem
   simp only[List.mem_filter,List.mem_range,Bool.and_eq_true]
   constructor
   ·rintro ⟨h1,h2,h3⟩
    refine ⟨⟨h1,h2⟩,fun o ho e he hb=>?_⟩
    rw[ho] at h3
    simp only[Option.map_some,Option.getD_some] at h3
    rw[←Array.all_toList] at h3
    have:=List.all_eq_true.1 h3 e he
    simpa [hb] using this
   ·rintro ⟨⟨h1,h2⟩,h3⟩
    refine ⟨h1,h2,?_⟩
    rw[Array.getElem?_eq_getElem h1]
    simp only[Option.map_some,Option.getD_some]
    rw[←Array.all_toList]
    refine List.all_eq_true.2 fun e he=>?_
    cases hb:Region.binds .any e with
    |false=>rfl
    |true=>simpa using h3 _ (Array.getElem?_eq_getElem h1) e he hb
  have hpw:(rem ops.size listed).Pairwise (· < ·):=(range_pw _).filter _
  have hne:Region.ready .any ops listed≠[]:=by
   cases hr:rem ops.size listed with
   |nil=>rw[hr] at hl;simp at hl
   |cons m rest =>
    have hm:m∈Region.ready .any ops listed:=(hready m).2 ⟨by simp [hr],fun o ho e he hb=>by
     have hlt:=hF.edge m o ho e he hb
     have hmn:m < ops.size:=(Array.getElem?_eq_some_iff.1 ho).1
     cases hv:listed.getD e.on true with
     |true =>
      rw[Array.getD_eq_getD_getElem?,Array.getElem?_eq_getElem (by omega)] at hv ⊢
      exact hv
     |false =>
      have:e.on∈rem ops.size listed:=by
       unfold rem
       simp only[List.mem_filter,List.mem_range]
       exact ⟨by omega,by rw[hv];rfl⟩
      rw[hr] at this hpw
      rw[List.pairwise_cons] at hpw
      rcases List.mem_cons.1 this with h'|h'
      ·omega
      ·have:=hpw.1 _ h';omega⟩
    intro h0;rw[h0] at hm;cases hm
  simp only[Region.linearise.go]
  change opsS P ans an true cf tm rid ops _ kn (match (Region.ready .any ops listed)[t % (Region.ready .any ops listed).length]? with
   |some i=>Region.linearise.go .any ops fuel (t / (Region.ready .any ops listed).length) (listed.setIfInBounds i true) [i]
   |none=>[].reverse) rs=some r
  cases hi:(Region.ready .any ops listed)[t % (Region.ready .any ops listed).length]? with
  |none =>
   exfalso
   rw[List.getElem?_eq_none_iff] at hi
   have hpos:0 < (Region.ready .any ops listed).length:=List.length_pos_iff.2 hne
   have:=Nat.mod_lt t hpos
   omega
  |some i =>
   simp only
   rw[linearise_go_acc,List.reverse_singleton,List.singleton_append]
   obtain ⟨hir,hie⟩:=(hready i).1 (List.mem_of_getElem? hi)
   have hin:i < ops.size:=by
    unfold rem at hir
    exact List.mem_range.1 (List.mem_filter.1 hir).1
   obtain ⟨pre,post,hsp⟩:=List.append_of_mem hir
   have hset:=rem_set hsp (by omega)
   rw[hsp] at e hpw
   rw[List.pairwise_append] at hpw
   have hpre:∀ p∈pre,p < i∧((Region.before ops).getD i 0).testBit p=false:=fun p hp=>by
    refine ⟨hpw.2.2 p hp i (by simp),?_⟩
    cases hb:((Region.before ops).getD i 0).testBit p with
    |false=>rfl
    |true =>
     have h1:=before_in hF (fun j=>listed.getD j false=true) hc (i+1) i (by omega) hie p hb
     have h2:p∈rem ops.size listed:=by rw[hsp];simp [hp]
     unfold rem at h2
     have h3:=(List.mem_filter.1 h2).2
     have h4:=List.mem_range.1 (List.mem_filter.1 h2).1
     rw[Array.getD_eq_getD_getElem?,Array.getElem?_eq_getElem (by omega)] at h1 h3
     simp only[Option.getD_some] at h1 h3
     rw[h1] at h3;cases h3
   have e2:=opsS_front hpc hn hF hk hpre hR e
   simp only[opsS] at e2 ⊢
   rw[Array.getElem?_eq_getElem hin] at e2 ⊢
   simp only at e2 ⊢
   obtain ⟨rs',rs2',a1,a2,a3,a4,a5⟩:=one_congr hpc hn (hF.ok i _ (Array.getElem?_eq_getElem hin)) (RSeq.refl rs) hR e2
   rw[a1]
   refine go_ok hpc hn hF hk fuel _ _ rs' (by simp [hs]) ?_ ?_ a4 (by rw[hset];exact a5)
   ·rw[hset]
    rw[hsp] at hl
    simp at hl ⊢
    omega
   ·intro j o hj ho e' he' hb'
    have mono:∀ k,listed.getD k false=true→(listed.setIfInBounds i true).getD k false=true:=fun k hk'=>by
     by_cases hki:k=i
     ·subst hki
      simp [Array.getD_eq_getD_getElem?,Array.getElem?_setIfInBounds_self,hs,hin]
     ·rw[Array.getD_eq_getD_getElem?,Array.getElem?_setIfInBounds_ne (Ne.symm hki),←Array.getD_eq_getD_getElem?];exact hk'
    by_cases hji:j=i
    ·subst hji;exact mono _ (hie o ho e' he' hb')
    ·rw[Array.getD_eq_getD_getElem?,Array.getElem?_setIfInBounds_ne (Ne.symm hji),←Array.getD_eq_getD_getElem?] at hj
     exact mono _ (hc j o hj ho e' he' hb')
theorem drawnOK (hm:P.follows .mixedOrders=true) (hpc:PrimCf ans cf):DrawnOK P ans cf:=by
 refine ⟨hm,fun R fid tm rid ops kn rs r h1 h2 hn hsc hk e t=>?_⟩
 have hF:=fit_of h1 h2
 have hrem:rem ops.size (Array.replicate ops.size false)=List.range ops.size:=by
  unfold rem
  refine List.filter_eq_self.2 fun k hk'=>?_
  have:=List.mem_range.1 hk'
  simp [Array.getD_eq_getD_getElem?,Array.getElem?_replicate,this]
 unfold Region.linearise
 refine go_ok hpc hn hF (fun rs1 rs2 hq=>hk rs1 rs2 hq.1 hq.2) ops.size t _ rs (by simp) (by rw[hrem];simp) (fun j o hj ho=>?_) (fun t u x hl=>by rw[hsc] at hl;simp [alook] at hl) (by rw[hrem];exact e)
 rw[Array.getD_eq_getD_getElem?,Array.getElem?_replicate] at hj
 split at hj <;> simp at hj
end Go.AM
end
section
namespace Go.AM
variable {P:Program} {ans:FuncId→Ann} {an:Ann} {tm:List Slot} {rs:RS}
inductive Out where
 |ret (s:Slot) (rs:RS)
 |pan (v:AVal) (rs:RS)
 |call (prot:Bool) (c:Callee) (args:List Slot) (rs:RS)
 |none
def Out.run {R:Type} (cf:Oracle) (kp:AVal→RS→Option R) (k:Slot→RS→Option R):Out→Option R
 |.ret s rs=>k s rs
 |.pan v rs=>kp v rs
 |.call prot c args rs=>callK prot cf c args rs kp k
 |.none=>Option.none
abbrev FF:=∀ (R:Type),Oracle→(AVal→RS→Option R)→(Slot→RS→Option R)→Option R
def HasOut (F:FF):Prop:=∃ out:Out,∀ R cf kp k,F R cf kp k=out.run cf kp k
theorem ho_ret {s:Slot} {rs:RS}:HasOut (fun _ _ _ k=>k s rs):=⟨.ret s rs,fun _ _ _ _=>rfl⟩
theorem ho_pan {s:AVal} {rs:RS}:HasOut (fun _ _ kp _=>kp s rs):=⟨.pan s rs,fun _ _ _ _=>rfl⟩
theorem ho_none:HasOut (fun _ _ _ _=>none):=⟨.none,fun _ _ _ _=>rfl⟩
theorem ho_call {prot:Bool} {c:Callee} {args:List Slot} {rs:RS}:HasOut (fun _ cf kp k=>callK prot cf c args rs kp k):=⟨.call prot c args rs,fun _ _ _ _=>rfl⟩
theorem ho_bind {α:Type} {x:Option α} {G:α→FF} (h:∀ a,HasOut (G a)):HasOut (fun R cf kp k=>x.bind fun a=>G a R cf kp k):=by
 cases x with
 |none=>exact ho_none
 |some a=>exact h a
theorem ho_guard {b:Bool} {F:FF} (h:HasOut F):HasOut (fun R cf kp k=>guardB b (F R cf kp k)):=by
 cases b with
 |true=>exact h
 |false=>exact ho_none
theorem ho_asV {s:Slot} {G:AVal→FF} (h:∀ v,HasOut (G v)):HasOut (fun R cf kp k=>asV s fun v=>G v R cf kp k):=by
 cases s <;> first|exact h _|exact ho_none
theorem ho_asSl {s:Slot} {G:List AVal→FF} (h:∀ v,HasOut (G v)):HasOut (fun R cf kp k=>asSl s fun v=>G v R cf kp k):=by
 cases s with
 |val v=>cases v <;> first|exact h _|exact ho_none
 |_=>first|exact h _|exact ho_none
theorem ho_asInt {s:Slot} {G:IntKind→Int→FF} (h:∀ a b,HasOut (G a b)):HasOut (fun R cf kp k=>asInt s fun a b=>G a b R cf kp k):=by
 cases s with
 |val v=>cases v <;> first|exact h _ _|exact ho_none
 |_=>exact ho_none
theorem ho_asBool {s:Slot} {G:Bool→FF} (h:∀ a,HasOut (G a)):HasOut (fun R cf kp k=>asBool s fun a=>G a R cf kp k):=by
 cases s with
 |val v=>cases v with
  |bool b=>cases b <;> exact h _
  |_=>exact ho_none
 |_=>exact ho_none
theorem ho_mv {s:Slot} {G:Slot→FF} (h:∀ a,HasOut (G a)):HasOut (fun R cf kp k=>mv s fun a=>G a R cf kp k):=by
 cases s <;> first|exact h _|exact ho_none
theorem ho_asPlace {x:Operand} {s:Slot} {G:Place→FF} (h:∀ a,HasOut (G a)):HasOut (fun R cf kp k=>asPlace x s fun a=>G a R cf kp k):=by
 cases s with
 |box cs=>cases x <;> first|exact h _|exact ho_none
 |ref t o=>exact h _
 |val v=>cases v <;> first|exact h _|exact ho_none
 |_=>exact ho_none
theorem ho_asBox {s:Slot} {G:List Cell→FF} (h:∀ a,HasOut (G a)):HasOut (fun R cf kp k=>asBox s fun a=>G a R cf kp k):=by
 cases s <;> first|exact h _|exact ho_none
theorem ho_asObj {s:Option AObj} {G:List Cell→FF} (h:∀ a,HasOut (G a)):HasOut (fun R cf kp k=>asObj s fun a=>G a R cf kp k):=by
 rcases s with _|o
 ·exact ho_none
 ·cases o <;> first|exact h _|exact ho_none
theorem ho_asMap {s:Option AObj} {G:List (AVal×AVal)→FF} (h:∀ a,HasOut (G a)):HasOut (fun R cf kp k=>asMap s fun a=>G a R cf kp k):=by
 rcases s with _|o
 ·exact ho_none
 ·cases o <;> first|exact h _|exact ho_none
theorem ho_cells {keep:List Nat} {p:Place} {G:List Cell→Nat→FF} (h:∀ a b,HasOut (G a b)):HasOut (fun R cf kp k=>cellsOfPlace keep tm rs p fun a b=>G a b R cf kp k):=by
 cases p with
 |loc t o=>exact ho_asBox fun a=>h a o
 |obj i o=>exact ho_asObj fun a=>h a o
 |imm x=>exact h _ _
theorem ho_write {p:Place} {cs:List Cell} {G:RS→FF} (h:∀ a,HasOut (G a)):HasOut (fun R cf kp k=>writePlace rs p cs fun a=>G a R cf kp k):=by
 cases p with
 |loc t o=>exact h _
 |obj i o=>exact ho_guard (h _)
 |imm x=>exact ho_none
theorem ho_asCells {keep:List Nat} {x:Operand} {G:List Cell→RS→FF} (h:∀ a b,HasOut (G a b)):HasOut (fun R cf kp k=>asCells keep tm rs x fun a b=>G a b R cf kp k):=by
 unfold asCells
 generalize opS keep tm rs x=s
 have hv:HasOut (fun R cf kp k=>asV s fun v=>G (v.cells.map .val) rs R cf kp k):=ho_asV fun v=>h _ _
 cases s with
 |own sz xs =>
  cases x with
  |tmp t=>dsimp only;cases keep.contains t <;> exact h _ _
  |const v=>cases xs <;> first|exact h _ _|exact hv
  |_=>exact hv
 |cells cs =>
  cases x with
  |tmp t=>dsimp only;cases keep.contains t <;> exact h _ _
  |_=>exact hv
 |_=>exact hv
theorem ho_boxCells {t0:TypeId} {keep:List Nat} {x:Operand} {G:List Cell→RS→FF} (h:∀ a b,HasOut (G a b)):HasOut (fun R cf kp k=>boxCells P t0 keep tm rs x fun a b=>G a b R cf kp k):=by
 unfold boxCells
 cases hs:opS keep tm rs x
 case nl=>exact ho_bind fun e=>ho_bind fun sz=>h _ _
 all_goals exact ho_asCells h
theorem ho_elems {keep:List Nat}:∀ {ps:List (Nat×Operand)} {G:List (Nat×AVal)→FF},(∀ a,HasOut (G a))→HasOut (fun R cf kp k=>elemsA keep tm rs ps fun a=>G a R cf kp k)
 |[],G,h=>h _
 |(i,x)::r,G,h=>ho_asV fun v=>ho_elems (ps:=r) fun a=>h _
theorem ho_caps {keep:List Nat}:∀ {ps:List Operand} {G:List AVal→FF},(∀ a,HasOut (G a))→HasOut (fun R cf kp k=>capsA keep tm rs ps fun a=>G a R cf kp k)
 |[],G,h=>h _
 |x::r,G,h=>ho_asV fun v=>ho_caps (ps:=r) fun a=>h _
theorem ho_args {keep own:List Nat}:∀ {ps:List Operand} {rs:RS} {i:Nat} {G:List Slot→RS→FF},(∀ a b,HasOut (G a b))→HasOut (fun R cf kp k=>argsA keep tm rs own i ps fun a b=>G a b R cf kp k)
 |[],rs,i,G,h=>h _ _
 |x::r,rs,i,G,h=>by
  have hv:HasOut (fun R cf kp k=>asV (opS keep tm rs x) fun v=>argsA keep tm rs own (i+1) r fun l rs'=>G (.val v::l) rs' R cf kp k):=ho_asV fun v=>ho_args (ps:=r) fun a b=>h _ _
  simp only[argsA]
  revert hv
  generalize opS keep tm rs x=s
  intro hv
  cases own.contains i with
  |false=>cases s <;> exact hv
  |true =>
   cases s with
   |own sz l0 =>
    cases x with
    |tmp t=>exact ho_args (ps:=r) fun a b=>h _ _
    |_=>exact hv
   |nl=>exact ho_args (ps:=r) fun a b=>h _ _
   |_=>exact hv
theorem ho_optInt {keep:List Nat} {x:Option Operand} {d:Int} {G:Int→FF} (h:∀ a,HasOut (G a)):HasOut (fun R cf kp k=>optInt keep tm rs x d fun a=>G a R cf kp k):=by
 cases x with
 |none=>exact h _
 |some x=>exact ho_asInt fun a b=>h b
theorem ho_cut {sz:Nat} {full:Bool} {xs:List AVal} {l hh:Int} {G:Slot→FF} (h:∀ a,HasOut (G a)):HasOut (fun R cf kp k=>sliceCut sz full xs l hh fun a=>G a R cf kp k):=ho_guard (h _)
theorem ho_drawn {drawn:Bool} {rts:List Nat} {p:Place} {F:FF} (h:HasOut F):HasOut (fun R cf kp k=>drawnPlace drawn rts p (F R cf kp k)):=by
 cases drawn with
 |false=>exact h
 |true=>cases p <;> exact ho_guard h
theorem ho_mvK {tk:Bool} {ty:TypeId} {x:Operand} {G:Slot→RS→FF} (h:∀ a b,HasOut (G a b)):HasOut (fun R cf kp k=>mvK P an tm tk ty x rs fun a b=>G a b R cf kp k):=by
 cases x with
 |tmp t =>
  simp only[mvK]
  generalize opS an.keep tm rs (.tmp t)=s
  have hv:HasOut (fun R cf kp k=>mv s fun s'=>G s' rs R cf kp k):=ho_mv fun v=>h _ _
  cases s with
  |own sz xs=>dsimp only;cases (tk||!an.keep.contains t) <;> exact h _ _
  |cells cs=>dsimp only;cases (tk||!an.keep.contains t) <;> exact h _ _
  |_=>exact hv
 |const v =>
  simp only[mvK]
  generalize constT P ty v=s
  cases s <;> first|exact h _ _|exact ho_none
 |_=>simp only[mvK];exact ho_mv fun v=>h _ _
theorem stepK_out (drawn prot:Bool) (lcl:List Nat) (tk:Bool) (o:Oper):HasOut (fun _ cf kp k=>stepK P ans an drawn prot lcl cf tm tk o rs kp k):=by
 obtain ⟨dst,op,ty,pos,aft,gd⟩:=o
 cases op with
 |move x=>simp only[stepK];exact ho_mvK fun _ _=>ho_ret
 |assign x=>simp only[stepK];exact ho_mvK fun _ _=>ho_ret
 |pick c a b=>simp only[stepK];exact ho_asBool fun _=>ho_mv fun _=>ho_ret
 |alloc t =>
  simp only[stepK]
  refine ho_bind fun z=>ho_bind fun s=>ho_guard ?_
  cases dst with
  |none=>exact ho_none
  |some d=>dsimp only;cases an.loc.contains d <;> exact ho_ret
 |box t x =>
  simp only[stepK]
  refine ho_boxCells fun v rs=>ho_bind fun s=>ho_guard ?_
  cases dst with
  |none=>exact ho_none
  |some d =>
   dsimp only
   cases an.loc.contains d
   ·exact ho_guard ho_ret
   ·exact ho_ret
 |build t parts =>
  simp only[stepK]
  refine ho_bind fun z=>?_
  generalize P.underlying t=u
  rcases u with _|u
  ·exact ho_none
  ·cases u <;> first
    |exact ho_elems fun l=>ho_bind fun s=>ho_bind fun cs=>ho_ret
    |exact ho_none
 |buildSlice t len parts=>simp only[stepK];exact ho_bind fun e=>ho_bind fun s=>ho_guard (ho_elems fun l=>ho_bind fun z=>ho_guard (ho_bind fun xs=>ho_ret))
 |load t a =>
  simp only[stepK]
  refine ho_asPlace fun p=>ho_drawn (ho_cells fun cs off=>ho_bind fun s=>ho_bind fun agg=>?_)
  cases agg with
  |true=>exact ho_bind fun v=>ho_ret
  |false =>
   refine ho_guard ?_
   generalize cs[off]?=c
   have hc:HasOut (fun _ _ _ k=>c.bind fun c=>k (.val c.get) rs):=ho_bind fun c=>ho_ret
   cases tk with
   |false=>exact hc
   |true =>
    rcases c with _|c
    ·exact hc
    ·cases c with
     |own sz xs=>exact ho_write fun _=>ho_ret
     |val v=>exact hc
 |store t a x=>simp only[stepK];exact ho_asPlace fun p=>ho_drawn (ho_cells fun cs off=>ho_bind fun s=>ho_asCells fun v rs=>ho_guard (ho_write fun _=>ho_ret))
 |nilCheck x =>
  simp only[stepK]
  generalize opS an.keep tm rs x=s
  cases s with
  |box cs=>cases x <;> first|exact ho_ret|exact ho_none
  |ref t o=>exact ho_ret
  |val v=>cases v <;> first|exact ho_ret|exact ho_none
  |_=>exact ho_none
 |binOp op t x y w =>
  simp only[stepK]
  generalize opS an.keep tm rs x=s
  generalize opS an.keep tm rs y=s'
  generalize isNilSlice y=b1
  generalize isNilIface y=b2
  have hz:HasOut (fun _ _ _ k=>asV s fun a=>asV s' fun b=>guardB (abinT P t a) ((abin op a b).bind fun v=>k (.val v) rs)):=ho_asV fun a=>ho_asV fun b=>ho_guard (ho_bind fun v=>ho_ret)
  have hn:∀ f:Bool→Bool,HasOut (fun _ _ _ k=>guardB (isSliceT P t) ((nilTest s).bind fun b=>k (.val (.bool (f b))) rs)):=fun f=>ho_guard (ho_bind fun b=>ho_ret)
  cases op <;> cases b1 <;> first
   |exact hn id
   |exact hn (!·)
   |(cases b2 with
     |false=>exact hz
     |true =>
      cases s with
      |val v=>cases v <;> first|exact ho_guard ho_ret|exact hz
      |_=>exact hz)
   |exact hz
 |unOp op t x =>
  simp only[stepK]
  generalize opS an.keep tm rs x=s
  cases op <;> first
   |exact ho_none
   |(cases s with
     |val v=>cases v <;> first|exact ho_ret|exact ho_none
     |_=>exact ho_none)
 |convert src dt x =>
  simp only[stepK]
  generalize P.underlying src=u1
  generalize P.underlying dt=u2
  generalize opS an.keep tm rs x=s
  rcases u1 with _|u1
  ·exact ho_none
  ·rcases u2 with _|u2
   ·cases u1 <;> exact ho_none
   ·cases u1 <;> cases u2 <;> first
     |exact ho_none
     |exact ho_asInt fun _ _=>ho_ret
     |(cases s with
       |val v=>cases v <;> first|exact ho_ret|exact ho_none
       |_=>exact ho_none)
 |fieldAddr t x f =>
  simp only[stepK]
  refine ho_bind fun ot=>ho_bind fun s=>ho_guard (ho_asPlace fun p=>?_)
  cases p with
  |loc t o=>exact ho_ret
  |obj i o=>exact ho_ret
  |imm v=>exact ho_bind fun _=>ho_bind fun _=>ho_ret
 |field t x f =>
  simp only[stepK]
  refine ho_bind fun ot=>ho_bind fun s=>ho_bind fun agg=>?_
  generalize opS an.keep tm rs x=s'
  cases s' with
  |val v=>cases v <;> first|exact ho_bind fun _=>ho_ret|exact ho_none
  |_=>exact ho_none
 |indexAddr t x ix =>
  simp only[stepK]
  generalize P.underlying t=u
  rcases u with _|u
  ·exact ho_none
  ·cases u <;> first
    |exact ho_none
    |exact ho_asSl fun xs=>ho_asInt fun _ n=>ho_bind fun s=>ho_guard (ho_bind fun v=>ho_guard ho_ret)
    |(refine ho_asPlace fun p=>ho_asInt fun _ n=>ho_bind fun s=>ho_guard ?_
      cases p with
      |loc t o=>exact ho_ret
      |obj i o=>exact ho_ret
      |imm v=>exact ho_bind fun _=>ho_bind fun _=>ho_ret)
 |index t x ix =>
  simp only[stepK]
  generalize P.underlying t=u
  generalize opS an.keep tm rs x=s
  rcases u with _|u
  ·exact ho_none
  ·cases u <;> first
    |exact ho_none
    |(cases s with
      |val v=>cases v <;> first
       |exact ho_asInt fun _ n=>ho_guard (ho_bind fun b=>ho_ret)
       |exact ho_asInt fun _ n=>ho_bind fun s=>ho_bind fun agg=>ho_guard (ho_bind fun u=>ho_ret)
       |exact ho_none
      |cells cs=>first
       |exact ho_asInt fun _ n=>ho_bind fun s=>ho_bind fun agg=>ho_guard (ho_bind fun u=>ho_ret)
       |exact ho_none
      |_=>exact ho_none)
 |slice t x lo hi mx =>
  simp only[stepK]
  generalize P.underlying t=u
  generalize opS an.keep tm rs x=s
  rcases u with _|u
  ·exact ho_none
  ·cases u <;> first
    |exact ho_none
    |(cases mx with
      |some m=>first
       |(cases s with
         |val v=>cases v <;> exact ho_none
         |_=>exact ho_none)
       |(refine ho_bind fun sz=>ho_asSl fun xs=>ho_optInt fun l=>ho_optInt fun h=>ho_asInt fun _ m=>ho_guard ?_
         cases hi with
         |none=>exact ho_none
         |some x=>exact ho_cut fun _=>ho_ret)
      |none=>first
       |(cases s with
         |val v=>cases v <;> first
          |exact ho_optInt fun l=>ho_optInt fun h=>ho_guard ho_ret
          |exact ho_none
         |_=>exact ho_none)
       |exact ho_bind fun sz=>ho_asSl fun xs=>ho_optInt fun l=>ho_optInt fun h=>ho_cut fun _=>ho_ret)
 |makeInterface t x =>
  simp only[stepK]
  generalize P.underlying t=u
  rcases u with _|u
  ·exact ho_none
  ·cases u <;> first|exact ho_none|exact ho_asV fun v=>ho_ret
 |makeFunc fn first caps =>
  simp only[stepK]
  generalize first.toList=l
  cases fn <;> cases l <;> first
   |exact ho_none
   |exact ho_caps fun l=>ho_ret
 |makeMap t r =>
  simp only[stepK]
  cases r with
  |none=>exact ho_ret
  |some x=>exact ho_asInt fun _ _=>ho_guard ho_ret
 |lookup t m key ok =>
  simp only[stepK]
  generalize P.underlying t=u
  generalize opS an.keep tm rs m=s
  rcases u with _|u
  ·exact ho_none
  ·cases u <;> first
    |exact ho_none
    |(cases s with
      |val v=>cases v <;> first
       |exact ho_none
       |(refine ho_asMap fun es=>ho_asV fun kv=>ho_guard (ho_bind fun r=>ho_bind fun z=>?_)
         cases ok <;> exact ho_ret)
      |_=>exact ho_none)
 |mapUpdate t m key x =>
  simp only[stepK]
  generalize P.underlying t=u
  generalize opS an.keep tm rs m=s
  rcases u with _|u
  ·exact ho_none
  ·cases u <;> first
    |exact ho_none
    |(cases s with
      |val v=>cases v <;> first
       |exact ho_none
       |exact ho_asMap fun es=>ho_asV fun kv=>ho_asV fun v=>ho_guard (ho_bind fun r=>ho_ret)
      |_=>exact ho_none)
 |extract t ix =>
  simp only[stepK]
  generalize opS an.keep tm rs t=s
  cases s <;> first|exact ho_bind fun v=>ho_ret|exact ho_none
 |panic x =>
  simp only[stepK]
  generalize opS an.keep tm rs x=s
  cases drawn with
  |true=>exact ho_none
  |false =>
   cases s with
   |val v=>cases v <;> first|exact ho_pan|exact ho_none
   |_=>exact ho_none
 |call c =>
  obtain ⟨callee,args,argTypes⟩:=c
  simp only[stepK]
  generalize args.toList=l
  cases callee with
  |value f =>
   dsimp only
   generalize opS an.keep tm rs f=s
   cases s with
   |val v=>cases v <;> first
    |exact ho_args fun l rs'=>ho_call
    |exact ho_none
   |_=>exact ho_none
  |builtin b =>
   have hlen:∀ x,HasOut (fun _ _ _ k=>match (argTypes[0]?).bind P.underlying with
     |some .string=>(match opS an.keep tm rs x with|.val (.str s)=>k (.val (.int .i64 s.length)) rs|_=>none)
     |some (.slice _)=>asSl (opS an.keep tm rs x) fun xs=>k (.val (.int .i64 xs.length)) rs
     |some (.array n _)=>k (.val (.int .i64 n)) rs
     |some (.map _ _)=>(match opS an.keep tm rs x with
      |.val (.amap i)=>asMap rs.sto.objs[i]? fun es=>k (.val (.int .i64 es.length)) rs
      |_=>none)
     |_=>none):=fun x=>by
    generalize (argTypes[0]?).bind P.underlying=u
    generalize opS an.keep tm rs x=s
    rcases u with _|u
    ·exact ho_none
    ·cases u <;> first
      |exact ho_none
      |exact ho_asSl fun xs=>ho_ret
      |exact ho_ret
      |(cases s with
        |val v=>cases v <;> first
         |exact ho_ret
         |exact ho_asMap fun es=>ho_ret
         |exact ho_none
        |_=>exact ho_none)
   have happ:∀ s x,HasOut (fun _ _ _ k=>match (argTypes[0]?).bind (sliceElem P),(argTypes[1]?).bind (sliceElem P) with
     |some e,some _=>(szOf P e).bind fun sz=>(zeroOf P e).bind fun z=>asSl (opS an.keep tm rs x) fun ys=>guardB (Nat.blt 0 sz&&Nat.beq z.cells.length sz&&Nat.ble (bytesAt P e) 16384&&Nat.blt 0 (bytesAt P e)&&ys.all (fun y=>Nat.beq y.cells.length sz)) (match opS an.keep tm rs s,s with
      |.own sz' xs,.tmp t=>guardB (Nat.beq sz sz'&&Nat.ble (xs.length+ys.length) room) (k (.own sz (xs++ys)) (rs.put t (.val (.slice xs))))
      |.full xs,_=>guardB (xs.all (fun y=>Nat.beq y.cells.length sz)&&Nat.ble (xs.length+ys.length) room) (k (.own sz (xs++ys)) rs)
      |.nl,_=>guardB (Nat.ble ys.length room) (k (.own sz ys) rs)
      |_,_=>none)
     |_,_=>none):=fun s x=>by
    generalize (argTypes[0]?).bind (sliceElem P)=u1
    generalize (argTypes[1]?).bind (sliceElem P)=u2
    rcases u1 with _|u1
    ·exact ho_none
    ·rcases u2 with _|u2
     ·exact ho_none
     ·refine ho_bind fun sz=>ho_bind fun z=>ho_asSl fun ys=>ho_guard ?_
      generalize opS an.keep tm rs s=v
      cases v with
      |own sz' xs=>cases s <;> first|exact ho_guard ho_ret|exact ho_none
      |full xs=>exact ho_guard ho_ret
      |nl=>exact ho_guard ho_ret
      |_=>exact ho_none
   rcases l with _|⟨x,l⟩
   ·cases b <;> exact ho_none
   ·rcases l with _|⟨y,l⟩
    ·cases b <;> first|exact hlen x|exact ho_none
    ·rcases l with _|⟨z,l⟩
     ·cases b <;> first|exact happ x y|exact ho_none
     ·cases b <;> exact ho_none
  |_=>exact ho_none
 |_=>exact ho_none
end Go.AM
end
section
namespace Go.AM
variable {P:Program} {ans:FuncId→Ann} {pr:Prims} {R:Type} {r:R}
variable {cf0:Oracle} {lp0:LpOracle} {cf:Nat→Oracle} {lp:Nat→LpOracle} {fid:FuncId}
def Evl (x:Nat→Option R) (r:R):Prop:=∃ n,∀ m,n≤m→x m=some r
theorem Evl.const {x:Option R} (h:x=some r):Evl (fun _=>x) r:=⟨0,fun _ _=>h⟩
theorem Evl.congr {x y:Nat→Option R} (h:Evl x r) (e:∀ m,y m=x m):Evl y r:=by
 obtain ⟨n,h⟩:=h;exact ⟨n,fun m hm=>(e m).trans (h m hm)⟩
theorem Evl.bind {α:Type} {x:Nat→Option α} {a:α} {f:Nat→α→Option R} (h:Evl x a) (k:Evl (fun m=>f m a) r):Evl (fun m=>(x m).bind (f m)) r:=by
 obtain ⟨n,h⟩:=h
 obtain ⟨n',k⟩:=k
 exact ⟨max n n',fun m hm=>by show (x m).bind (f m)=some r;rw[h m (by omega)];exact k m (by omega)⟩
def CfLim (cf0:Oracle) (cf:Nat→Oracle):Prop:=∀ c a s r,cf0 c a s=some r→Evl (fun m=>cf m c a s) r
def LpLim (lp0:LpOracle) (lp:Nat→LpOracle):Prop:=∀ f c st r,lp0 f c st=some r→Evl (fun m=>lp m f c st) r
theorem out_cont (hc:CfLim cf0 cf) {kp0:AVal→RS→Option R} {kp:Nat→AVal→RS→Option R} {k0:Slot→RS→Option R} {k:Nat→Slot→RS→Option R}
  (hp:∀ v rs r,kp0 v rs=some r→Evl (fun m=>kp m v rs) r) (hk:∀ s rs r,k0 s rs=some r→Evl (fun m=>k m s rs) r) {out:Out} (e:out.run cf0 kp0 k0=some r):Evl (fun m=>out.run (cf m) (kp m) (k m)) r:=by
 cases out with
 |none=>cases e
 |ret s rs=>exact hk _ _ _ e
 |pan v rs=>exact hp _ _ _ e
 |call prot c args rs =>
  cases prot with
  |false =>
   simp only[Out.run,callK] at e ⊢
   obtain ⟨⟨x,sto⟩,h1,e⟩:=bind_ok e
   refine (hc _ _ _ _ h1).bind ?_
   cases x with
   |ret s =>
    obtain ⟨hg,e⟩:=guardB_ok e
    exact (hk _ _ _ e).congr fun m=>guardB_true hg _
   |pan v=>exact hp _ _ _ e
  |true =>
   simp only[Out.run,callK] at e ⊢
   obtain ⟨⟨x,sto⟩,h1,e⟩:=bind_ok e
   refine (hc _ _ _ _ h1).bind ?_
   cases x with
   |ret s =>
    obtain ⟨hg,e⟩:=guardB_ok e
    exact (hk _ _ _ e).congr fun m=>guardB_true hg _
   |pan v=>cases e
theorem oneK_cont (hc:CfLim cf0 cf) {an:Ann} {drawn:Bool} {tm:List Slot} {rid:Nat} {ops:Array Oper} {o:Oper} {i:Nat} {rs:RS} {kp0:AVal→RS→Option R} {kp:Nat→AVal→RS→Option R} {k0:RS→Option R} {k:Nat→RS→Option R}
  (hp:∀ v rs r,kp0 v rs=some r→Evl (fun m=>kp m v rs) r) (hk:∀ rs r,k0 rs=some r→Evl (fun m=>k m rs) r)
  (e:oneK P ans an drawn cf0 tm rid ops kp0 o i rs k0=some r):Evl (fun m=>oneK P ans an drawn (cf m) tm rid ops (kp m) o i rs (k m)) r:=by
 have go:∀ rs lc,stepK P ans an drawn (an.pure.contains (rid,i)) lc cf0 tm (an.take.contains (rid,i)) o rs kp0 (fun s rs'=>guardB (dstOk an o s rs') (k0 (rs'.putO o.dst s)))=some r →
   Evl (fun m=>stepK P ans an drawn (an.pure.contains (rid,i)) lc (cf m) tm (an.take.contains (rid,i)) o rs (kp m) (fun s rs'=>guardB (dstOk an o s rs') (k m (rs'.putO o.dst s)))) r:=fun rs lc e=>by
  obtain ⟨out,h⟩:=stepK_out (P:=P) (ans:=ans) (an:=an) (tm:=tm) (rs:=rs) drawn (an.pure.contains (rid,i)) lc (an.take.contains (rid,i)) o
  have h0:=h R cf0 kp0 fun s rs'=>guardB (dstOk an o s rs') (k0 (rs'.putO o.dst s))
  simp only at h0
  rw[h0] at e
  refine (out_cont hc hp (k:=fun m s rs'=>guardB (dstOk an o s rs') (k m (rs'.putO o.dst s))) (fun s rs' r e=>?_) e).congr fun m=>h _ _ _ _
  obtain ⟨hg,e⟩:=guardB_ok e
  exact (hk _ _ e).congr fun m=>guardB_true hg _
 unfold oneK at e ⊢
 simp only at e ⊢
 cases hg:o.guard with
 |none =>
  rw[hg] at e
  exact go _ _ e
 |some jw =>
  obtain ⟨j,want⟩:=jw
  rw[hg] at e
  simp only at e ⊢
  cases hd:(ops[j]?).bind (·.dst) with
  |none=>rw[hd] at e;cases e
  |some d =>
   rw[hd] at e
   simp only at e ⊢
   generalize rs.look an.keep tm d=s at e ⊢
   cases s with
   |val v =>
    cases v with
    |bool b =>
     cases b <;> cases want
     ·exact (go _ _ e).congr fun m=>rfl
     ·obtain ⟨h1,h2⟩:=guardB_ok (show guardB (dstOk an o .dead rs) (k0 ((rs.put d (.val (.bool false))).putO o.dst (.tup [])))=some r from e)
      exact (hk _ _ h2).congr fun m=>guardB_true h1 _
     ·obtain ⟨h1,h2⟩:=guardB_ok (show guardB (dstOk an o .dead rs) (k0 ((rs.put d (.val (.bool true))).putO o.dst (.tup [])))=some r from e)
      exact (hk _ _ h2).congr fun m=>guardB_true h1 _
     ·exact (go _ _ e).congr fun m=>rfl
    |_=>cases e
   |tup l =>
    cases l with
    |nil =>
     obtain ⟨h1,h2⟩:=guardB_ok (show guardB (dstOk an o .dead rs) (k0 (rs.putO o.dst (.tup [])))=some r from e)
     exact (hk _ _ h2).congr fun m=>guardB_true h1 _
    |cons _ _=>cases e
   |_=>cases e
theorem opsK_cont (hc:CfLim cf0 cf) {an:Ann} {drawn:Bool} {tm:List Slot} {rid:Nat} {ops:Array Oper} {kp0:AVal→RS→Option R} {kp:Nat→AVal→RS→Option R} {k0:RS→Option R} {k:Nat→RS→Option R}
  (hp:∀ v rs r,kp0 v rs=some r→Evl (fun m=>kp m v rs) r) (hk:∀ rs r,k0 rs=some r→Evl (fun m=>k m rs) r):∀ {l:List Oper} {i:Nat} {rs:RS} {r:R},
  opsK P ans an drawn cf0 tm rid ops kp0 k0 l i rs=some r→Evl (fun m=>opsK P ans an drawn (cf m) tm rid ops (kp m) (k m) l i rs) r
 |[],i,rs,r,e=>hk _ _ e
 |o::l,i,rs,r,e=>oneK_cont (r:=r) hc hp (fun rs r e=>opsK_cont hc hp hk e) e
theorem XK_cont (hc:CfLim cf0 cf) (hl:LpLim lp0 lp):∀ (c:Code) {st:St} {K0:AExit→St→Option R} {K:Nat→AExit→St→Option R} {r:R},(∀ e st r,K0 e st=some r→Evl (fun m=>K m e st) r) →
  XK P ans cf0 lp0 fid c st K0=some r→Evl (fun m=>XK P ans (cf m) (lp m) fid c st (K m)) r
 |.skip,st,K0,K,r,hk,e=>hk _ _ _ e
 |.label _,st,K0,K,r,hk,e=>hk _ _ _ e
 |.seq a b,st,K0,K,r,hk,e=>by
  simp only[XK] at e ⊢
  refine XK_cont hc hl a (K:=fun m e st'=>match e with
   |.norm=>XK P ans (cf m) (lp m) fid b st' (K m)
   |.exit id=>K m (.exit id) st'
   |.ret=>K m .ret st'
   |.pan v=>K m (.pan v) st') (fun ex st' r e=>?_) e
  cases ex with
  |norm=>exact XK_cont hc hl b hk e
  |_=>exact hk _ _ _ e
 |.cond c a b,st,K0,K,r,hk,e=>by
  simp only[XK] at e ⊢
  generalize opS (ans fid).keep st.tm ⟨[],st.sto⟩ c=s at e ⊢
  cases s with
  |val v =>
   cases v with
   |bool t=>cases t with
    |true=>exact XK_cont hc hl a hk e
    |false=>exact XK_cont hc hl b hk e
   |_=>cases e
  |_=>cases e
 |.block id c,st,K0,K,r,hk,e=>by
  simp only[XK] at e ⊢
  refine XK_cont hc hl c (K:=fun m e st'=>match e with
   |.norm=>K m .norm st'
   |.exit id'=>(bif Nat.beq id' id then K m .norm st' else K m (.exit id') st')
   |.ret=>K m .ret st'
   |.pan v=>K m (.pan v) st') (fun ex st' r e=>?_) e
  cases ex with
  |exit id' =>
   simp only at e ⊢
   cases hb:Nat.beq id' id with
   |true=>rw[hb] at e;exact hk _ _ _ e
   |false=>rw[hb] at e;exact hk _ _ _ e
  |_=>exact hk _ _ _ e
 |.scope c,st,K0,K,r,hk,e=>XK_cont hc hl c hk e
 |.exit id,st,K0,K,r,hk,e=>hk _ _ _ e
 |.ret,st,K0,K,r,hk,e=>hk _ _ _ e
 |.region id ops false,st,K0,K,r,hk,e=>by
  simp only[XK] at e ⊢
  exact opsK_cont hc (kp:=fun m v rs=>K m (.pan v) ⟨st.tm,rs.sto⟩) (k:=fun m rs=>K m .norm ⟨commit (ans fid).keep st.tm rs.sc,rs.sto⟩) (fun v rs r e=>hk _ _ _ e) (fun rs r e=>hk _ _ _ e) e
 |.region id ops true,st,K0,K,r,hk,e=>by
  simp only[XK] at e ⊢
  obtain ⟨hg,e⟩:=guardB_ok e
  exact (opsK_cont hc (kp:=fun m v rs=>none) (k:=fun m rs=>K m .norm ⟨commit (ans fid).keep st.tm rs.sc,rs.sto⟩) (fun v rs r e=>by cases e) (fun rs r e=>hk _ _ _ e) e).congr fun m=>guardB_true hg _
 |.loop c,st,K0,K,r,hk,e=>by
  simp only[XK] at e ⊢
  obtain ⟨p,h1,e⟩:=bind_ok e
  exact (hl _ _ _ _ h1).bind (hk _ _ _ e)
 |.rangeFunc f params assign body,st,K0,K,r,hk,e=>by
  simp only[XK] at e ⊢
  generalize opS (ans fid).keep st.tm ⟨[],st.sto⟩ f=s at e ⊢
  cases s with
  |val v =>
   cases v with
   |func g caps =>
    simp only at e ⊢
    obtain ⟨⟨x,sto⟩,h1,e⟩:=bind_ok e
    refine (hc _ _ _ _ h1).bind ?_
    cases x with
    |pan v=>exact hk _ _ _ e
    |ret s =>
     simp only at e ⊢
     generalize sto.objs[st.sto.objs.length]?=ob at e ⊢
     rcases ob with _|ob
     ·cases e
     ·cases ob with
      |loop l =>
       simp only at e ⊢
       generalize l.state=ls at e ⊢
       generalize l.pend=lp' at e ⊢
       cases ls <;> rcases lp' with _|lp' <;> first
        |exact hk _ _ _ e
        |cases e
        |(cases lp' <;> first|exact hk _ _ _ e|cases e)
      |_=>cases e
   |_=>cases e
  |_=>cases e
 |.goto _,st,K0,K,r,hk,e=>by simp [XK] at e
 |.refuse _,st,K0,K,r,hk,e=>by simp [XK] at e
end Go.AM
end
