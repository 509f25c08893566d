import Derived.Test.YtdkkaldimefljaaGreatDoorA11
import Derived.Orders
set_option linter.all false
section
namespace Go.AM
variable {P:Program} {ans:FuncId→Ann} {an:Ann} {R:Type} {r:R}
variable {tm:List Slot} {rs:RS} {ops:Array Oper} {cf:aO} {o a:Oper} {rid i j:Nat} {g:Sto→Sto}
def One (P:Program) (ans:FuncId→Ann) (an:Ann) (cf:aO) (tm:List Slot) (rid:Nat) (ops:Array Oper) (o:Oper) (i:Nat) (rs rs':RS):Prop :=
 ∀ (R2:Type) (next:RS→Option R2),iK P ans an true cf tm rid ops (fun _ _=>none) o i rs next=next rs'
structure jx (an:Ann) (ops:Array Oper) (o:Oper):Prop where
 mem:o∈ops.toList
 dst:∀ d,o.dst=some d→an.loc.contains d=true→∀ o'∈ops.toList,eI o'≠some d
theorem qQ (hpc:iD ans cf) (hn:noRef tm) (ho:jx an ops o) {next:RS→Option R} {rs2:RS} (hq:RSeq rs rs2) (hR:RefIn ops rs) (e:iK P ans an true cf tm rid ops (fun _ _=>none) o i rs next=some r) :
  ∃ rs' rs2',One P ans an cf tm rid ops o i rs rs'∧One P ans an cf tm rid ops o i rs2 rs2'∧RSeq rs' rs2'∧RefIn ops rs'∧next rs'=some r:=by
 obtain ⟨puts',g',e1',h2',hE'⟩:=mE hpc hn ho.mem ho.dst (RSeq.refl rs).agrO hR hR e;have e2:=h2' RS some;obtain ⟨puts,g,e1,h2,hE⟩:=mE hpc hn ho.mem ho.dst hq.agrO hR (hq.refIn hR) e2;refine ⟨_,_,h2',h2,?_,hR.app hE'.ref,e1'⟩;rw[←Option.some.inj e1];exact hq.app puts g
end Go.AM
end
section
namespace Go.AM
variable {P:Program} {ans:FuncId→Ann} {an:Ann} {R:Type} {r:R}
variable {tm:List Slot} {rs:RS} {ops:Array Oper} {cf:aO} {o a:Oper} {rid i j:Nat} {g:Sto→Sto}
theorem agrSto.symm {c0:Cls} {s s':Sto} (h:agrSto c0 s s'):agrSto c0 s' s:=by
 cases c0 <;> first|trivial|exact stoAg.symm h|exact Eq.symm h
theorem EffO.effSto {prot tk:Bool} {puts:List (Nat×Slot)} (h:EffO ans an tm ops prot tk o rs puts g):AM.effSto (cM ans an.loc ops prot tk o) rs.sto (g rs.sto):=by
 have:=h.sto
 unfold AM.effSto
 split at this <;> simp_all
theorem EffO.effId {prot tk:Bool} {puts:List (Nat×Slot)} (h:EffO ans an tm ops prot tk o rs puts g) (hc:cM ans an.loc ops prot tk o=.p∨cM ans an.loc ops prot tk o=.r∨cM ans an.loc ops prot tk o=.c):g=id:=by
 have:=h.sto
 rcases hc with hc|hc|hc <;> (rw[hc] at this;exact this)
theorem zm {ta tb po pa:Bool} {rs0:RS} {p1 p2:List (Nat×Slot)} {g1 g2:Sto→Sto} (h1:EffO ans an tm ops po ta o rs p1 g1) (h2:EffO ans an tm ops pa tb a rs0 p2 g2) (H1:xG an.keep an.loc ops ta tb o a) (H2:xG an.keep an.loc ops tb ta a o)
  (hrd:∀ t,t∈rdS ops o→t∈rdS ops a→∀ b,rs.look an.keep tm t=.val (.bool b)→rs0.look an.keep tm t=.val (.bool b)) (hbx:∀ t c,t∈wrB an.loc ops a∨t∈tkB an.loc ops tb a→rs0.look an.keep tm t=.box c→∃ c',rs.look an.keep tm t=.box c')
  (hbx2:∀ t c,t∈rdS ops a→rs.look an.keep tm t=.box c→∃ c',rs0.look an.keep tm t=.box c') {t:Nat} {s1 s2:Slot} (ha:bZ p1 t=some s1) (hb:bZ p2 t=some s2):s1=s2:=by
 have k1:=h1.keys _ (gI ha);have k2:=h2.keys _ (gI hb);simp only at k1 k2
 have dc:∀ (k:t∈o.dst.toList∨t∈cons an.keep ta o),False:=fun k=>by
  obtain ⟨n1,n2,n3,n4⟩:=H1.hw t k;rcases k2 with k|k|⟨k,_⟩|⟨k,_⟩|⟨k,_⟩
  ·exact n3 k
  ·exact n4 k
  ·exact n2 (oT k)
  ·exact n2 (pB k)
  ·exact n1 k
 have dc2:∀ (k:t∈a.dst.toList∨t∈cons an.keep tb a),False:=fun k=>by
  obtain ⟨n1,n2,n3,n4⟩:=H2.hw t k;rcases k1 with k|k|⟨k,_⟩|⟨k,_⟩|⟨k,_⟩
  ·exact n3 k
  ·exact n4 k
  ·exact n2 (oT k)
  ·exact n2 (pB k)
  ·exact n1 k
 rcases k1 with k|k|⟨k,c,c',e1,e2⟩|⟨k,c,c',e1,e2,e3⟩|⟨k,b,e1,e2⟩
 ·exact (dc (.inl k)).elim
 ·exact (dc (.inr k)).elim
 ·rcases k2 with m|m|⟨m,_⟩|⟨m,_⟩|⟨m,b',f1,f2⟩
  ·exact (dc2 (.inl m)).elim
  ·exact (dc2 (.inr m)).elim
  ·exact absurd (oT m) (H1.hb t k)
  ·exact absurd (pB m) (H1.hb t k)
  ·obtain ⟨c2,hc2⟩:=hbx2 t c m e1
   rw[f2] at hc2;cases hc2
 ·rcases k2 with m|m|⟨m,_⟩|⟨m,_⟩|⟨m,b',f1,f2⟩
  ·exact (dc2 (.inl m)).elim
  ·exact (dc2 (.inr m)).elim
  ·exact absurd m (H1.ht t k).2
  ·exact absurd m (H1.ht t k).1
  ·obtain ⟨c2,hc2⟩:=hbx2 t c m e1
   rw[f2] at hc2;cases hc2
 ·rcases k2 with m|m|⟨m,c,c',f1,f2⟩|⟨m,c,c',f1,f2,f3⟩|⟨m,b',f1,f2⟩
  ·exact (dc2 (.inl m)).elim
  ·exact (dc2 (.inr m)).elim
  ·obtain ⟨c2,hc2⟩:=hbx t c (.inl m) f1
   rw[e2] at hc2;cases hc2
  ·obtain ⟨c2,hc2⟩:=hbx t c (.inr m) f1
   rw[e2] at hc2;cases hc2
  ·have:=hrd t k m b e2
   rw[f2] at this;cases this;rw[e1,f1]
end Go.AM
end
section
namespace Go.AM
variable {P:Program} {ans:FuncId→Ann} {an:Ann} {R:Type} {r:R}
variable {tm:List Slot} {rs:RS} {ops:Array Oper} {cf:aO} {o a:Oper} {rid i j:Nat} {g:Sto→Sto}
theorem aCh {p1 p2 l:List (Nat×Slot)} (h:∀ t s1 s2,bZ p1 t=some s1→bZ p2 t=some s2→s1=s2) (t:Nat):bZ (p2++(p1++l)) t=bZ (p1++(p2++l)) t:=by
 simp only[gA];cases h1:bZ p1 t with
 |none=>cases h2:bZ p2 t <;> rfl
 |some s1=>cases h2:bZ p2 t with
  |none=>rfl
  |some s2=>simp only;rw[h t s1 s2 h1 h2]
theorem x5 (c0:Cls) (s s':Sto):agrSto c0 s s'=(match c0 with
  |.p=>True
  |.r=>stoAg s s'
  |_=>s'=s):=by cases c0 <;> rfl
theorem comm (hpc:iD ans cf) (hn:noRef tm) (ho:jx an ops o) (ha:jx an ops a) {next:RS→Option R} (hR:RefIn ops rs)
  (hcl:(cM ans an.loc ops (an.pure.contains (rid,i)) (an.take.contains (rid,i)) o).clash (cM ans an.loc ops (an.pure.contains (rid,j)) (an.take.contains (rid,j)) a)=false)
  (H1:xG an.keep an.loc ops (an.take.contains (rid,i)) (an.take.contains (rid,j)) o a) (H2:xG an.keep an.loc ops (an.take.contains (rid,j)) (an.take.contains (rid,i)) a o)
  (e:iK P ans an true cf tm rid ops (fun _ _=>none) o i rs (fun rs'=>iK P ans an true cf tm rid ops (fun _ _=>none) a j rs' next)=some r) :
  ∃ rs1 rsA rs2,next rs1=some r∧One P ans an cf tm rid ops a j rs rsA∧One P ans an cf tm rid ops o i rsA rs2∧RSeq rs1 rs2∧RefIn ops rs1:=by
 obtain ⟨p1,g1,e1,k1,E1⟩:=mE hpc hn ho.mem ho.dst (RSeq.refl rs).agrO hR hR e
 let rsO:RS:=⟨p1++rs.sc,g1 rs.sto⟩
 have hRO:RefIn ops rsO:=hR.app E1.ref;have hst1:=zy hcl E1.effSto;have A1:AgrO ans an tm ops (an.pure.contains (rid,j)) (an.take.contains (rid,j)) a rsO rs:=xy E1 H1 (Eq.mp (x5 _ _ _) hst1);obtain ⟨p2,g2,e2,k2,E2⟩:=mE hpc hn ha.mem ha.dst A1 hRO hR e1
 let rsA:RS:=⟨p2++rs.sc,g2 rs.sto⟩
 have hRA:RefIn ops rsA:=hR.app E2.ref
 have hid:(∀ p g,EffO ans an tm ops (an.pure.contains (rid,i)) (an.take.contains (rid,i)) o rs p g→g=id)∨g2=id:=by
  generalize hco:cM ans an.loc ops (an.pure.contains (rid,i)) (an.take.contains (rid,i)) o=co at hcl;generalize hca:cM ans an.loc ops (an.pure.contains (rid,j)) (an.take.contains (rid,j)) a=ca at hcl;cases co with
  |p=>exact .inl fun p g h=>h.effId (.inl hco)
  |r=>exact .inl fun p g h=>h.effId (.inr (.inl hco))
  |c=>exact .inl fun p g h=>h.effId (.inr (.inr hco))
  |t=>cases ca with
   |p=>exact .inr (E2.effId (.inl hca))
   |r=>exact .inr (E2.effId (.inr (.inl hca)))
   |_=>simp [Cls.clash] at hcl
  |w=>cases ca with
   |p=>exact .inr (E2.effId (.inl hca))
   |_=>simp [Cls.clash] at hcl
  |x=>cases ca <;> simp [Cls.clash] at hcl
 have hst2:agrSto (cM ans an.loc ops (an.pure.contains (rid,i)) (an.take.contains (rid,i)) o) rs.sto (g2 rs.sto):=by
  rcases hid with h|h
  ·have h1:=h _ _ E1
   have h2:=E2.effSto;have hs:rsO.sto=rs.sto:=by show g1 rs.sto=rs.sto;rw[h1];rfl
   rw[hs] at h2;generalize cM ans an.loc ops (an.pure.contains (rid,i)) (an.take.contains (rid,i)) o=co at hcl;generalize cM ans an.loc ops (an.pure.contains (rid,j)) (an.take.contains (rid,j)) a=ca at hcl h2
   cases co <;> cases ca <;> first
    |trivial
    |(simp [Cls.clash] at hcl;done)
    |exact h2
    |(have h':g2 rs.sto=rs.sto:=h2
      show stoAg rs.sto (g2 rs.sto);rw[h'];exact stoAg.refl _)
  ·rw[h]
   unfold agrSto;split
   ·trivial
   ·exact stoAg.refl _
   ·rfl
 have A2:AgrO ans an tm ops (an.pure.contains (rid,i)) (an.take.contains (rid,i)) o rs rsA:=pn E2 H2 (fun u hu=>by
   refine ⟨?_,fun h=>A1.wb u h⟩;rcases hu with hu|hu|hu
   ·exact .inl (A1.wb u (.inl hu))
   ·exact .inl (A1.wb u (.inr hu))
   ·exact A1.rd u hu) (Eq.mp (x5 _ _ _) hst2)
 obtain ⟨p1',g1',e3,k3,E3⟩:=mE hpc hn ho.mem ho.dst A2 hR hRA (k1 RS some);have he3:=Option.some.inj e3;have hp:p1'=p1:=List.append_cancel_right (congrArg RS.sc he3);have hg:g1' rs.sto=g1 rs.sto:=congrArg RS.sto he3;subst hp;refine ⟨⟨p2++(p1'++rs.sc),g2 (g1 rs.sto)⟩,rsA,⟨p1'++(p2++rs.sc),g1' (g2 rs.sto)⟩,e2,k2,k3,⟨fun t=>aCh (fun t s1 s2 h1 h2=>?_) t,?_⟩,hRO.app E2.ref⟩
 ·refine zm (rs0:=rsO) E1 E2 H1 H2 (fun t _ ht b hb=>?_) (fun t c h hc=>⟨c,(A1.wb t h).trans hc⟩) (fun t c ht hc=>?_) h1 h2
  ·rcases A1.rd t ht with h|⟨c1,c2,_,h⟩
   ·rw[←h];exact hb
   ·rw[h] at hb;cases hb
  ·rcases A1.rd t ht with h|⟨c1,c2,h,_⟩
   ·exact ⟨c,h▸hc⟩
   ·exact ⟨c1,h⟩
 ·show g2 (g1 rs.sto)=g1' (g2 rs.sto)
  rcases hid with h|h
  ·rw[h _ _ E1,h _ _ E3];rfl
  ·rw[h];exact hg.symm
end Go.AM
end
section
namespace Go.AM
variable {P:Program} {ans:FuncId→Ann} {an:Ann} {R:Type} {r:R}
variable {tm:List Slot} {rs:RS} {ops:Array Oper} {cf:aO} {o a:Oper} {rid i j:Nat}
structure Fit (ans:FuncId→Ann) (an:Ann) (rid:Nat) (ops:Array Oper):Prop where
 ok:∀ (i:Nat) (o:Oper),ops[i]?=some o→jx an ops o
 edge:∀ (i:Nat) (o:Oper),ops[i]?=some o→∀ e∈o.after.toList,Region.binds .any e=true→e.on < i
 free:∀ (i j:Nat) (a b:Oper),i < j→ops[i]?=some a→ops[j]?=some b→((Region.before ops).getD j 0).testBit i=true ∨
  ((cM ans an.loc ops (an.pure.contains (rid,i)) (an.take.contains (rid,i)) a).clash (cM ans an.loc ops (an.pure.contains (rid,j)) (an.take.contains (rid,j)) b)=false ∧
    xG an.keep an.loc ops (an.take.contains (rid,i)) (an.take.contains (rid,j)) a b∧xG an.keep an.loc ops (an.take.contains (rid,j)) (an.take.contains (rid,i)) b a)
theorem aGj (h1:qR ans an rid ops=true) (h2:noX ans an rid ops=true):Fit ans an rid ops:=by
 have hx:∀ (i:Nat) (o:Oper),ops[i]?=some o→(o.after.all (fun e=>!Region.binds .any e||Nat.blt e.on i)=true ∧
   (match o.dst with|some d=>!an.loc.contains d||ops.all (fun o=>match eI o with|some t=>!Nat.beq t d|none=>true)|none=>true)=true):=fun i o ho=>by
  have hlt:i < ops.size:=(Array.getElem?_eq_some_iff.1 ho).1;have h2':=(Bool.and_eq_true_iff.1 h2).2
  have:=List.all_eq_true.1 h2' i (List.mem_range.2 hlt)
  rw[ho] at this;simp only[Bool.and_eq_true] at this;exact ⟨this.1.2,this.2⟩
 refine ⟨fun i o ho=>⟨?_,fun d hd hl o' ho' he=>?_⟩,fun i o ho e he hb=>?_,fun i j a b hij ha hb=>?_⟩
 ·exact List.mem_of_getElem? (by rw[Array.getElem?_toList];exact ho)
 ·have:=(hx i o ho).2
  rw[hd] at this;simp only[hl,Bool.not_true,Bool.false_or] at this;rw[←Array.all_toList] at this
  have:=List.all_eq_true.1 this o' ho'
  rw[he] at this;simp only[Bool.not_eq_true'] at this;rw[show Nat.beq d d=true from Nat.beq_refl d] at this;cases this
 ·have:=(hx i o ho).1
  rw[←Array.all_toList] at this
  have:=List.all_eq_true.1 this e he
  simpa [hb,Nat.blt_eq] using this
 ·have hj:j < ops.size:=(Array.getElem?_eq_some_iff.1 hb).1
  have:=List.all_eq_true.1 (List.all_eq_true.1 h1 j (List.mem_range.2 hj)) i (List.mem_range.2 hij)
  rw[ha,hb] at this;simp only[Bool.or_eq_true,Bool.not_eq_true',Bool.or_eq_false_iff] at this;rcases this with h|⟨⟨h,h'⟩,h''⟩
  ·exact .inl h
  ·exact .inr ⟨h,uo h',uo h''⟩
theorem tU (hpc:iD ans cf) (hn:noRef tm) (hF:Fit ans an rid ops) {kn:RS→Option R} (hk:∀ rs1 rs2:RS,RSeq rs1 rs2→kn rs1=kn rs2):∀ {l:List Nat} {rs1 rs2:RS},RSeq rs1 rs2→RefIn ops rs1 →
  iL P ans an true cf tm rid ops (fun _ _=>none) kn l rs1=some r→iL P ans an true cf tm rid ops (fun _ _=>none) kn l rs2=some r
 |[],rs1,rs2,hq,hR,e=>by
  simp only[iL] at e ⊢;rw[←hk _ _ hq];exact e
 |i::l,rs1,rs2,hq,hR,e=>by
  simp only[iL] at e ⊢
  split at e
  ·rename_i o ho
   obtain ⟨rs',rs2',a1,a2,a3,a4,a5⟩:=qQ hpc hn (hF.ok i o ho) hq hR e;rw[a2];exact tU hpc hn hF hk a3 a4 a5
  ·cases e
theorem vE (hpc:iD ans cf) (hn:noRef tm) (hF:Fit ans an rid ops) {kn:RS→Option R} (hk:∀ rs1 rs2:RS,RSeq rs1 rs2→kn rs1=kn rs2) {i:Nat} {l:List Nat}:∀ {pre:List Nat} {rs:RS},(∀ p∈pre,p < i∧((Region.before ops).getD i 0).testBit p=false)→RefIn ops rs →
  iL P ans an true cf tm rid ops (fun _ _=>none) kn (pre++i::l) rs=some r→iL P ans an true cf tm rid ops (fun _ _=>none) kn (i::(pre++l)) rs=some r
 |[],rs,hp,hR,e=>e
 |p::pre,rs,hp,hR,e=>by
  simp only[List.cons_append,iL] at e ⊢
  split at e
  case h_2=>cases e
  rename_i o ho;obtain ⟨rs',rs2',a1,a2,a3,a4,a5⟩:=qQ hpc hn (hF.ok p o ho) (RSeq.refl rs) hR e;have ih:=vE hpc hn hF hk (l:=l) (fun q hq=>hp q (by simp [hq])) a4 a5;simp only[iL] at ih
  split at ih
  case h_2=>cases ih
  rename_i a ha;have hfree:=hF.free p i o a (hp p (by simp)).1 ho ha;rw[(hp p (by simp)).2] at hfree;obtain ⟨hcl,H1,H2⟩:=hfree.resolve_left (by simp);have e2:iK P ans an true cf tm rid ops (fun _ _=>none) o p rs (fun rs'=>iK P ans an true cf tm rid ops (fun _ _=>none) a i rs' fun rs'=>iL P ans an true cf tm rid ops (fun _ _=>none) kn (pre++l) rs')=some r:=by rw[a1];exact ih
  obtain ⟨rs1,rsA,rs2,b1,b2,b3,b4,b5⟩:=comm hpc hn (hF.ok p o ho) (hF.ok i a ha) hR hcl H1 H2 e2;rw[b2];rw[b3];exact tU hpc hn hF hk b4 b5 b1
def Inv (ops:List Oper) (acc:Array Nat):Prop:=acc.size≤ops.length∧∀ (j p:Nat),(acc.getD j 0).testBit p=true→∃ o:Oper,ops[j]?=some o∧∃ e∈o.after.toList,Region.binds .any e=true∧(p=e.on∨(acc.getD e.on 0).testBit p=true)
theorem nK (acc:Array Nat) (p:Nat):∀ (l:List Edge) (s:Nat),(l.foldl (fun s e=>if Region.binds .any e then s ||| 2 ^ e.on ||| acc.getD e.on 0 else s) s).testBit p=true →
  s.testBit p=true∨∃ e∈l,Region.binds .any e=true∧(p=e.on∨(acc.getD e.on 0).testBit p=true)
 |[],s,h=>.inl h
 |e::l,s,h=>by
  simp only[List.foldl_cons] at h;rcases nK acc p l _ h with h|⟨e',h1,h2⟩
  ·split at h
   ·rename_i hb
    simp only[Nat.testBit_or,Nat.testBit_two_pow,Bool.or_eq_true,decide_eq_true_eq] at h;rcases h with (h|h)|h
    ·exact .inl h
    ·exact .inr ⟨e,by simp,hb,.inl h.symm⟩
    ·exact .inr ⟨e,by simp,hb,.inr h⟩
   ·exact .inl h
  ·exact .inr ⟨e',by simp [h1],h2⟩
theorem ja:∀ (l done:List Oper) (acc:Array Nat),acc.size=done.length→Inv (done++l) acc →
  Inv (done++l) (l.foldl (fun acc o=>acc.push (o.after.foldl (fun s e=>if Region.binds .any e then s ||| 2 ^ e.on ||| acc.getD e.on 0 else s) 0)) acc)
 |[],done,acc,hs,h=>h
 |o::l,done,acc,hs,h=>by
  simp only[List.foldl_cons];rw[show done++o::l=(done++[o])++l by simp] at h ⊢;refine ja l (done++[o]) _ (by simp [hs]) ⟨by simp [hs],fun j p hb=>?_⟩;generalize hv:o.after.foldl (fun s e=>if Region.binds .any e then s ||| 2 ^ e.on ||| acc.getD e.on 0 else s) 0=v at hb ⊢
  have grow:∀ k,(acc.getD k 0).testBit p=true→((acc.push v).getD k 0).testBit p=true:=fun k hk=>by
   have hlt:k < acc.size:=by
    rcases Nat.lt_or_ge k acc.size with h'|h'
    ·exact h'
    ·rw[Array.getD_eq_getD_getElem?,Array.getElem?_eq_none h'] at hk;simp at hk
   rw[Array.getD_eq_getD_getElem?,Array.getElem?_push_lt hlt];rw[Array.getD_eq_getD_getElem?,Array.getElem?_eq_getElem hlt] at hk;exact hk
  by_cases hj:j=acc.size
  ·subst hj
   rw[Array.getD_eq_getD_getElem?] at hb;simp only[Array.getElem?_push_size,Option.getD_some] at hb;refine ⟨o,by rw[hs,List.append_assoc,List.getElem?_append_right (Nat.le_refl _)];simp,?_⟩;rw[←hv,←Array.foldl_toList] at hb;rcases nK acc p _ 0 hb with h'|⟨e,h1,h2,h3⟩
   ·simp at h'
   ·exact ⟨e,h1,h2,h3.imp id (grow _)⟩
  ·have hb':(acc.getD j 0).testBit p=true:=by
    rw[Array.getD_eq_getD_getElem?,Array.getElem?_push] at hb;rw[if_neg hj] at hb;rw[Array.getD_eq_getD_getElem?];exact hb
   obtain ⟨o',h1,e,h2,h3,h4⟩:=h.2 j p hb';exact ⟨o',h1,e,h2,h3,h4.imp id (grow _)⟩
theorem before_inv (ops:Array Oper):Inv ops.toList (Region.before ops):=by
 have:=ja ops.toList [] #[] rfl ⟨by simp,fun j p h=>by simp at h⟩
 unfold Region.before;rw[←Array.foldl_toList];exact this
theorem iU (hF:Fit ans an rid ops) (S:Nat→Prop) (hS:∀ (j:Nat) (o:Oper),S j→ops[j]?=some o→∀ e∈o.after.toList,Region.binds .any e=true→S e.on):∀ (n i:Nat),i < n→(∀ o:Oper,ops[i]?=some o→∀ e∈o.after.toList,Region.binds .any e=true→S e.on) →
  ∀ p,((Region.before ops).getD i 0).testBit p=true→S p
 |0,i,hi,_,p,_=>by omega
 |n+1,i,hi,hi2,p,hb=>by
  obtain ⟨o,ho,e,he,hbd,h⟩:=(before_inv ops).2 i p hb;rw[Array.getElem?_toList] at ho;have hs:=hi2 o ho e he hbd;rcases h with h|h
  ·subst h;exact hs
  ·have:=hF.edge i o ho e he hbd
   exact iU hF S hS n e.on (by omega) (fun o' ho' e' he' hb'=>hS e.on o' hs ho' e' he' hb') p h
def rem (n:Nat) (listed:Array Bool):List Nat:=(List.range n).filter fun i=>!listed.getD i true
theorem pW (n:Nat):(List.range n).Pairwise (· < ·):=List.pairwise_lt_range
theorem zW {n i:Nat} {listed:Array Bool} {pre post:List Nat} (h:rem n listed=pre++i::post) (hi:i < listed.size):rem n (listed.setIfInBounds i true)=pre++post:=by
 have hf:rem n (listed.setIfInBounds i true)=(rem n listed).filter (fun k=>k != i):=by
  unfold rem;rw[List.filter_filter];apply List.filter_congr;intro k _;by_cases hk:k=i
  ·subst hk
   simp [Array.getD_eq_getD_getElem?,Array.getElem?_setIfInBounds_self,hi]
  ·simp [Array.getD_eq_getD_getElem?,Array.getElem?_setIfInBounds_ne (Ne.symm hk),hk]
 have hpw:(rem n listed).Pairwise (· < ·):=(pW n).filter _;rw[h] at hpw;rw[List.pairwise_append] at hpw;obtain ⟨_,h2,h3⟩:=hpw;rw[List.pairwise_cons] at h2;rw[hf,h,List.filter_append,List.filter_cons];have e1:pre.filter (fun k=>k != i)=pre:=List.filter_eq_self.2 fun x hx=>by have:=h3 x hx i (by simp);simp;omega
 have e2:post.filter (fun k=>k != i)=post:=List.filter_eq_self.2 fun x hx=>by have:=h2.1 x hx;simp;omega
 simp [e1,e2]
theorem aFr (hpc:iD ans cf) (hn:noRef tm) (hF:Fit ans an rid ops) {kn:RS→Option R} (hk:∀ rs1 rs2:RS,RSeq rs1 rs2→kn rs1=kn rs2):∀ (fuel t:Nat) (listed:Array Bool) (rs:RS),listed.size=ops.size→(rem ops.size listed).length=fuel →
  (∀ (j:Nat) (o:Oper),listed.getD j false=true→ops[j]?=some o→∀ e∈o.after.toList,Region.binds .any e=true→listed.getD e.on false=true)→RefIn ops rs →
  iL P ans an true cf tm rid ops (fun _ _=>none) kn (rem ops.size listed) rs=some r→iL P ans an true cf tm rid ops (fun _ _=>none) kn (Region.linearise.go .any ops fuel t listed []) rs=some r
 |0,t,listed,rs,hs,hl,hc,hR,e=>by
  rw[List.length_eq_zero_iff.1 hl] at e;simpa [Region.linearise.go] using e
 |fuel+1,t,listed,rs,hs,hl,hc,hR,e=>by
  have hready:∀ i,i∈Region.ready .any ops listed↔i∈rem ops.size listed∧∀ o:Oper,ops[i]?=some o→∀ e∈o.after.toList,Region.binds .any e=true→listed.getD e.on false=true:=fun i=>by
   unfold Region.ready rem;simp only[List.mem_filter,List.mem_range,Bool.and_eq_true];constructor
   ·rintro ⟨h1,h2,h3⟩
    refine ⟨⟨h1,h2⟩,fun o ho e he hb=>?_⟩;rw[ho] at h3;simp only[Option.map_some,Option.getD_some] at h3;rw[←Array.all_toList] at h3
    have:=List.all_eq_true.1 h3 e he
    simpa [hb] using this
   ·rintro ⟨⟨h1,h2⟩,h3⟩
    refine ⟨h1,h2,?_⟩;rw[Array.getElem?_eq_getElem h1];simp only[Option.map_some,Option.getD_some];rw[←Array.all_toList];refine List.all_eq_true.2 fun e he=>?_
    cases hb:Region.binds .any e with
    |false=>rfl
    |true=>simpa using h3 _ (Array.getElem?_eq_getElem h1) e he hb
  have hpw:(rem ops.size listed).Pairwise (· < ·):=(pW _).filter _
  have hne:Region.ready .any ops listed≠[]:=by
   cases hr:rem ops.size listed with
   |nil=>rw[hr] at hl;simp at hl
   |cons m rest =>
    have hm:m∈Region.ready .any ops listed:=(hready m).2 ⟨by simp [hr],fun o ho e he hb=>by
     have hlt:=hF.edge m o ho e he hb;have hmn:m < ops.size:=(Array.getElem?_eq_some_iff.1 ho).1;cases hv:listed.getD e.on true with
     |true =>
      rw[Array.getD_eq_getD_getElem?,Array.getElem?_eq_getElem (by omega)] at hv ⊢;exact hv
     |false =>
      have:e.on∈rem ops.size listed:=by
       unfold rem;simp only[List.mem_filter,List.mem_range];exact ⟨by omega,by rw[hv];rfl⟩
      rw[hr] at this hpw;rw[List.pairwise_cons] at hpw;rcases List.mem_cons.1 this with h'|h'
      ·omega
      ·have:=hpw.1 _ h';omega⟩
    intro h0;rw[h0] at hm;cases hm
  simp only[Region.linearise.go]
  change iL P ans an true cf tm rid ops _ kn (match (Region.ready .any ops listed)[t % (Region.ready .any ops listed).length]? with
   |some i=>Region.linearise.go .any ops fuel (t / (Region.ready .any ops listed).length) (listed.setIfInBounds i true) [i]
   |none=>[].reverse) rs=some r
  cases hi:(Region.ready .any ops listed)[t % (Region.ready .any ops listed).length]? with
  |none =>
   exfalso;rw[List.getElem?_eq_none_iff] at hi;have hpos:0 < (Region.ready .any ops listed).length:=List.length_pos_iff.2 hne
   have:=Nat.mod_lt t hpos
   omega
  |some i =>
   simp only;rw[linearise_go_acc,List.reverse_singleton,List.singleton_append];obtain ⟨hir,hie⟩:=(hready i).1 (List.mem_of_getElem? hi)
   have hin:i < ops.size:=by
    unfold rem at hir;exact List.mem_range.1 (List.mem_filter.1 hir).1
   obtain ⟨pre,post,hsp⟩:=List.append_of_mem hir;have dJ:=zW hsp (by omega);rw[hsp] at e hpw;rw[List.pairwise_append] at hpw
   have hpre:∀ p∈pre,p < i∧((Region.before ops).getD i 0).testBit p=false:=fun p hp=>by
    refine ⟨hpw.2.2 p hp i (by simp),?_⟩;cases hb:((Region.before ops).getD i 0).testBit p with
    |false=>rfl
    |true =>
     have h1:=iU hF (fun j=>listed.getD j false=true) hc (i+1) i (by omega) hie p hb;have h2:p∈rem ops.size listed:=by rw[hsp];simp [hp]
     unfold rem at h2;have h3:=(List.mem_filter.1 h2).2;have h4:=List.mem_range.1 (List.mem_filter.1 h2).1;rw[Array.getD_eq_getD_getElem?,Array.getElem?_eq_getElem (by omega)] at h1 h3;simp only[Option.getD_some] at h1 h3;rw[h1] at h3;cases h3
   have e2:=vE hpc hn hF hk hpre hR e;simp only[iL] at e2 ⊢;rw[Array.getElem?_eq_getElem hin] at e2 ⊢;simp only at e2 ⊢;obtain ⟨rs',rs2',a1,a2,a3,a4,a5⟩:=qQ hpc hn (hF.ok i _ (Array.getElem?_eq_getElem hin)) (RSeq.refl rs) hR e2;rw[a1];refine aFr hpc hn hF hk fuel _ _ rs' (by simp [hs]) ?_ ?_ a4 (by rw[dJ];exact a5)
   ·rw[dJ]
    rw[hsp] at hl;simp at hl ⊢;omega
   ·intro j o hj ho e' he' hb'
    have mono:∀ k,listed.getD k false=true→(listed.setIfInBounds i true).getD k false=true:=fun k hk'=>by
     by_cases hki:k=i
     ·subst hki
      simp [Array.getD_eq_getD_getElem?,Array.getElem?_setIfInBounds_self,hs,hin]
     ·rw[Array.getD_eq_getD_getElem?,Array.getElem?_setIfInBounds_ne (Ne.symm hki),←Array.getD_eq_getD_getElem?];exact hk'
    by_cases hji:j=i
    ·subst hji;exact mono _ (hie o ho e' he' hb')
    ·rw[Array.getD_eq_getD_getElem?,Array.getElem?_setIfInBounds_ne (Ne.symm hji),←Array.getD_eq_getD_getElem?] at hj
     exact mono _ (hc j o hj ho e' he' hb')
theorem aDI (hm:P.follows .mixedOrders=true) (hpc:iD ans cf):mO P ans cf:=by
 refine ⟨hm,fun R fid tm rid ops kn rs r h1 h2 hn hsc hk e t=>?_⟩;have hF:=aGj h1 h2
 have hrem:rem ops.size (Array.replicate ops.size false)=List.range ops.size:=by
  unfold rem;refine List.filter_eq_self.2 fun k hk'=>?_
  have:=List.mem_range.1 hk'
  simp [Array.getD_eq_getD_getElem?,Array.getElem?_replicate,this]
 unfold Region.linearise;refine aFr hpc hn hF (fun rs1 rs2 hq=>hk rs1 rs2 hq.1 hq.2) ops.size t _ rs (by simp) (by rw[hrem];simp) (fun j o hj ho=>?_) (fun t u x hl=>by rw[hsc] at hl;simp [bZ] at hl) (by rw[hrem];exact e);rw[Array.getD_eq_getD_getElem?,Array.getElem?_replicate] at hj
 split at hj <;> simp at hj
end Go.AM
end
section
namespace Go.AM
variable {P:Program} {ans:FuncId→Ann} {an:Ann} {tm:List Slot} {rs:RS}
inductive Out where
 |ret (s:Slot) (rs:RS)
 |pan (v:AVal) (rs:RS)
 |call (prot:Bool) (c:Callee) (args:List Slot) (rs:RS)
 |none
def Out.run {R:Type} (cf:aO) (kp:AVal→RS→Option R) (k:Slot→RS→Option R):Out→Option R
 |.ret s rs=>k s rs
 |.pan v rs=>kp v rs
 |.call prot c args rs=>dD prot cf c args rs kp k
 |.none=>Option.none
abbrev FF:=∀ (R:Type),aO→(AVal→RS→Option R)→(Slot→RS→Option R)→Option R
def bA (F:FF):Prop:=∃ out:Out,∀ R cf kp k,F R cf kp k=out.run cf kp k
theorem bD {s:Slot} {rs:RS}:bA (fun _ _ _ k=>k s rs):=⟨.ret s rs,fun _ _ _ _=>rfl⟩
theorem aGp {s:AVal} {rs:RS}:bA (fun _ _ kp _=>kp s rs):=⟨.pan s rs,fun _ _ _ _=>rfl⟩
theorem aI:bA (fun _ _ _ _=>none):=⟨.none,fun _ _ _ _=>rfl⟩
theorem aDq {prot:Bool} {c:Callee} {args:List Slot} {rs:RS}:bA (fun _ cf kp k=>dD prot cf c args rs kp k):=⟨.call prot c args rs,fun _ _ _ _=>rfl⟩
theorem aY {α:Type} {x:Option α} {G:α→FF} (h:∀ a,bA (G a)):bA (fun R cf kp k=>x.bind fun a=>G a R cf kp k):=by
 cases x with
 |none=>exact aI
 |some a=>exact h a
theorem bP {b:Bool} {F:FF} (h:bA F):bA (fun R cf kp k=>aJ b (F R cf kp k)):=by
 cases b with
 |true=>exact h
 |false=>exact aI
theorem j2 {s:Slot} {G:AVal→FF} (h:∀ v,bA (G v)):bA (fun R cf kp k=>asV s fun v=>G v R cf kp k):=by
 cases s <;> first|exact h _|exact aI
theorem pL {s:Slot} {G:List AVal→FF} (h:∀ v,bA (G v)):bA (fun R cf kp k=>kP s fun v=>G v R cf kp k):=by
 cases s with
 |val v=>cases v <;> first|exact h _|exact aI
 |_=>first|exact h _|exact aI
theorem eR {s:Slot} {G:IntKind→Int→FF} (h:∀ a b,bA (G a b)):bA (fun R cf kp k=>asInt s fun a b=>G a b R cf kp k):=by
 cases s with
 |val v=>cases v <;> first|exact h _ _|exact aI
 |_=>exact aI
theorem ye {s:Slot} {G:Bool→FF} (h:∀ a,bA (G a)):bA (fun R cf kp k=>asBool s fun a=>G a R cf kp k):=by
 cases s with
 |val v=>cases v with
  |bool b=>cases b <;> exact h _
  |_=>exact aI
 |_=>exact aI
theorem aBX {s:Slot} {G:Slot→FF} (h:∀ a,bA (G a)):bA (fun R cf kp k=>mv s fun a=>G a R cf kp k):=by
 cases s <;> first|exact h _|exact aI
theorem kS {x:Operand} {s:Slot} {G:Place→FF} (h:∀ a,bA (G a)):bA (fun R cf kp k=>dH x s fun a=>G a R cf kp k):=by
 cases s with
 |box cs=>cases x <;> first|exact h _|exact aI
 |ref t o=>exact h _
 |val v=>cases v <;> first|exact h _|exact aI
 |_=>exact aI
theorem aA9 {s:Slot} {G:List Cell→FF} (h:∀ a,bA (G a)):bA (fun R cf kp k=>oW s fun a=>G a R cf kp k):=by
 cases s <;> first|exact h _|exact aI
theorem aAa {s:Option AObj} {G:List Cell→FF} (h:∀ a,bA (G a)):bA (fun R cf kp k=>jO s fun a=>G a R cf kp k):=by
 rcases s with _|o
 ·exact aI
 ·cases o <;> first|exact h _|exact aI
theorem wQ {s:Option AObj} {G:List (AVal×AVal)→FF} (h:∀ a,bA (G a)):bA (fun R cf kp k=>lF s fun a=>G a R cf kp k):=by
 rcases s with _|o
 ·exact aI
 ·cases o <;> first|exact h _|exact aI
theorem mo {keep:List Nat} {p:Place} {G:List Cell→Nat→FF} (h:∀ a b,bA (G a b)):bA (fun R cf kp k=>aU keep tm rs p fun a b=>G a b R cf kp k):=by
 cases p with
 |loc t o=>exact aA9 fun a=>h a o
 |obj i o=>exact aAa fun a=>h a o
 |imm x=>exact h _ _
theorem gy {p:Place} {cs:List Cell} {G:RS→FF} (h:∀ a,bA (G a)):bA (fun R cf kp k=>bV rs p cs fun a=>G a R cf kp k):=by
 cases p with
 |loc t o=>exact h _
 |obj i o=>exact bP (h _)
 |imm x=>exact aI
theorem v9 {keep:List Nat} {x:Operand} {G:List Cell→RS→FF} (h:∀ a b,bA (G a b)):bA (fun R cf kp k=>dI keep tm rs x fun a b=>G a b R cf kp k):=by
 unfold dI;generalize opS keep tm rs x=s;have hv:bA (fun R cf kp k=>asV s fun v=>G (v.cells.map .val) rs R cf kp k):=j2 fun v=>h _ _
 cases s with
 |own sz xs =>
  cases x with
  |tmp t=>dsimp only;cases keep.contains t <;> exact h _ _
  |const v=>cases xs <;> first|exact h _ _|exact hv
  |_=>exact hv
 |cells cs =>
  cases x with
  |tmp t=>dsimp only;cases keep.contains t <;> exact h _ _
  |_=>exact hv
 |_=>exact hv
theorem jg {t0:TypeId} {keep:List Nat} {x:Operand} {G:List Cell→RS→FF} (h:∀ a b,bA (G a b)):bA (fun R cf kp k=>eL P t0 keep tm rs x fun a b=>G a b R cf kp k):=by
 unfold eL;cases hs:opS keep tm rs x
 case nl=>exact aY fun e=>aY fun sz=>h _ _
 all_goals exact v9 h
theorem tV {keep:List Nat}:∀ {ps:List (Nat×Operand)} {G:List (Nat×AVal)→FF},(∀ a,bA (G a))→bA (fun R cf kp k=>gF keep tm rs ps fun a=>G a R cf kp k)
 |[],G,h=>h _
 |(i,x)::r,G,h=>j2 fun v=>tV (ps:=r) fun a=>h _
theorem xb {keep:List Nat}:∀ {ps:List Operand} {G:List AVal→FF},(∀ a,bA (G a))→bA (fun R cf kp k=>nM keep tm rs ps fun a=>G a R cf kp k)
 |[],G,h=>h _
 |x::r,G,h=>j2 fun v=>xb (ps:=r) fun a=>h _
theorem sD {keep own:List Nat}:∀ {ps:List Operand} {rs:RS} {i:Nat} {G:List Slot→RS→FF},(∀ a b,bA (G a b))→bA (fun R cf kp k=>gB keep tm rs own i ps fun a b=>G a b R cf kp k)
 |[],rs,i,G,h=>h _ _
 |x::r,rs,i,G,h=>by
  have hv:bA (fun R cf kp k=>asV (opS keep tm rs x) fun v=>gB keep tm rs own (i+1) r fun l rs'=>G (.val v::l) rs' R cf kp k):=j2 fun v=>sD (ps:=r) fun a b=>h _ _
  simp only[gB]
  revert hv
  generalize opS keep tm rs x=s;intro hv;cases own.contains i with
  |false=>cases s <;> exact hv
  |true =>
   cases s with
   |own sz l0 =>
    cases x with
    |tmp t=>exact sD (ps:=r) fun a b=>h _ _
    |_=>exact hv
   |nl=>exact sD (ps:=r) fun a b=>h _ _
   |_=>exact hv
theorem iT {keep:List Nat} {x:Option Operand} {d:Int} {G:Int→FF} (h:∀ a,bA (G a)):bA (fun R cf kp k=>jN keep tm rs x d fun a=>G a R cf kp k):=by
 cases x with
 |none=>exact h _
 |some x=>exact eR fun a b=>h b
theorem aAC {sz:Nat} {full:Bool} {xs:List AVal} {l hh:Int} {G:Slot→FF} (h:∀ a,bA (G a)):bA (fun R cf kp k=>e8 sz full xs l hh fun a=>G a R cf kp k):=bP (h _)
theorem jy {drawn:Bool} {rts:List Nat} {p:Place} {F:FF} (h:bA F):bA (fun R cf kp k=>bQ drawn rts p (F R cf kp k)):=by
 cases drawn with
 |false=>exact h
 |true=>cases p <;> exact bP h
theorem aBO {tk:Bool} {ty:TypeId} {x:Operand} {G:Slot→RS→FF} (h:∀ a b,bA (G a b)):bA (fun R cf kp k=>mvK P an tm tk ty x rs fun a b=>G a b R cf kp k):=by
 cases x with
 |tmp t =>
  simp only[mvK];generalize opS an.keep tm rs (.tmp t)=s;have hv:bA (fun R cf kp k=>mv s fun s'=>G s' rs R cf kp k):=aBX fun v=>h _ _
  cases s with
  |own sz xs=>dsimp only;cases (tk||!an.keep.contains t) <;> exact h _ _
  |cells cs=>dsimp only;cases (tk||!an.keep.contains t) <;> exact h _ _
  |_=>exact hv
 |const v =>
  simp only[mvK];generalize l8 P ty v=s;cases s <;> first|exact h _ _|exact aI
 |_=>simp only[mvK];exact aBX fun v=>h _ _
theorem yj (drawn prot:Bool) (lcl:List Nat) (tk:Bool) (o:Oper):bA (fun _ cf kp k=>aB P ans an drawn prot lcl cf tm tk o rs kp k):=by
 obtain ⟨dst,op,ty,pos,aft,gd⟩:=o;cases op with
 |move x=>simp only[aB];exact aBO fun _ _=>bD
 |assign x=>simp only[aB];exact aBO fun _ _=>bD
 |pick c a b=>simp only[aB];exact ye fun _=>aBX fun _=>bD
 |alloc t =>
  simp only[aB];refine aY fun z=>aY fun s=>bP ?_
  cases dst with
  |none=>exact aI
  |some d=>dsimp only;cases an.loc.contains d <;> exact bD
 |box t x =>
  simp only[aB];refine jg fun v rs=>aY fun s=>bP ?_
  cases dst with
  |none=>exact aI
  |some d =>
   dsimp only
   cases an.loc.contains d
   ·exact bP bD
   ·exact bD
 |build t parts =>
  simp only[aB];refine aY fun z=>?_
  generalize P.underlying t=u;rcases u with _|u
  ·exact aI
  ·cases u <;> first
    |exact tV fun l=>aY fun s=>aY fun cs=>bD
    |exact aI
 |buildSlice t len parts=>simp only[aB];exact aY fun e=>aY fun s=>bP (tV fun l=>aY fun z=>bP (aY fun xs=>bD))
 |load t a =>
  simp only[aB];refine kS fun p=>jy (mo fun cs off=>aY fun s=>aY fun agg=>?_)
  cases agg with
  |true=>exact aY fun v=>bD
  |false =>
   refine bP ?_;generalize cs[off]?=c;have hc:bA (fun _ _ _ k=>c.bind fun c=>k (.val c.get) rs):=aY fun c=>bD
   cases tk with
   |false=>exact hc
   |true =>
    rcases c with _|c
    ·exact hc
    ·cases c with
     |own sz xs=>exact gy fun _=>bD
     |val v=>exact hc
 |store t a x=>simp only[aB];exact kS fun p=>jy (mo fun cs off=>aY fun s=>v9 fun v rs=>bP (gy fun _=>bD))
 |nilCheck x =>
  simp only[aB];generalize opS an.keep tm rs x=s;cases s with
  |box cs=>cases x <;> first|exact bD|exact aI
  |ref t o=>exact bD
  |val v=>cases v <;> first|exact bD|exact aI
  |_=>exact aI
 |binOp op t x y w =>
  simp only[aB];generalize opS an.keep tm rs x=s;generalize opS an.keep tm rs y=s';generalize dR y=b1;generalize isNilIface y=b2;have hz:bA (fun _ _ _ k=>asV s fun a=>asV s' fun b=>aJ (iM P t a) ((iQ op a b).bind fun v=>k (.val v) rs)):=j2 fun a=>j2 fun b=>bP (aY fun v=>bD)
  have hn:∀ f:Bool→Bool,bA (fun _ _ _ k=>aJ (fB P t) ((cQ s).bind fun b=>k (.val (.bool (f b))) rs)):=fun f=>bP (aY fun b=>bD)
  cases op <;> cases b1 <;> first
   |exact hn id
   |exact hn (!·)
   |(cases b2 with
     |false=>exact hz
     |true =>
      cases s with
      |val v=>cases v <;> first|exact bP bD|exact hz
      |_=>exact hz)
   |exact hz
 |unOp op t x =>
  simp only[aB];generalize opS an.keep tm rs x=s
  cases op <;> first
   |exact aI
   |(cases s with
     |val v=>cases v <;> first|exact bD|exact aI
     |_=>exact aI)
 |convert src dt x =>
  simp only[aB];generalize P.underlying src=u1;generalize P.underlying dt=u2;generalize opS an.keep tm rs x=s;rcases u1 with _|u1
  ·exact aI
  ·rcases u2 with _|u2
   ·cases u1 <;> exact aI
   ·cases u1 <;> cases u2 <;> first
     |exact aI
     |exact eR fun _ _=>bD
     |(cases s with
       |val v=>cases v <;> first|exact bD|exact aI
       |_=>exact aI)
 |fieldAddr t x f =>
  simp only[aB];refine aY fun ot=>aY fun s=>bP (kS fun p=>?_)
  cases p with
  |loc t o=>exact bD
  |obj i o=>exact bD
  |imm v=>exact aY fun _=>aY fun _=>bD
 |field t x f =>
  simp only[aB];refine aY fun ot=>aY fun s=>aY fun agg=>?_
  generalize opS an.keep tm rs x=s';cases s' with
  |val v=>cases v <;> first|exact aY fun _=>bD|exact aI
  |_=>exact aI
 |indexAddr t x ix =>
  simp only[aB];generalize P.underlying t=u;rcases u with _|u
  ·exact aI
  ·cases u <;> first
    |exact aI
    |exact pL fun xs=>eR fun _ n=>aY fun s=>bP (aY fun v=>bP bD)
    |(refine kS fun p=>eR fun _ n=>aY fun s=>bP ?_
      cases p with
      |loc t o=>exact bD
      |obj i o=>exact bD
      |imm v=>exact aY fun _=>aY fun _=>bD)
 |index t x ix =>
  simp only[aB];generalize P.underlying t=u;generalize opS an.keep tm rs x=s;rcases u with _|u
  ·exact aI
  ·cases u <;> first
    |exact aI
    |(cases s with
      |val v=>cases v <;> first
       |exact eR fun _ n=>bP (aY fun b=>bD)
       |exact eR fun _ n=>aY fun s=>aY fun agg=>bP (aY fun u=>bD)
       |exact aI
      |cells cs=>first
       |exact eR fun _ n=>aY fun s=>aY fun agg=>bP (aY fun u=>bD)
       |exact aI
      |_=>exact aI)
 |slice t x lo hi mx =>
  simp only[aB];generalize P.underlying t=u;generalize opS an.keep tm rs x=s;rcases u with _|u
  ·exact aI
  ·cases u <;> first
    |exact aI
    |(cases mx with
      |some m=>first
       |(cases s with
         |val v=>cases v <;> exact aI
         |_=>exact aI)
       |(refine aY fun sz=>pL fun xs=>iT fun l=>iT fun h=>eR fun _ m=>bP ?_
         cases hi with
         |none=>exact aI
         |some x=>exact aAC fun _=>bD)
      |none=>first
       |(cases s with
         |val v=>cases v <;> first
          |exact iT fun l=>iT fun h=>bP bD
          |exact aI
         |_=>exact aI)
       |exact aY fun sz=>pL fun xs=>iT fun l=>iT fun h=>aAC fun _=>bD)
 |makeInterface t x =>
  simp only[aB];generalize P.underlying t=u;rcases u with _|u
  ·exact aI
  ·cases u <;> first|exact aI|exact j2 fun v=>bD
 |makeFunc fn first caps =>
  simp only[aB];generalize first.toList=l
  cases fn <;> cases l <;> first
   |exact aI
   |exact xb fun l=>bD
 |makeMap t r =>
  simp only[aB];cases r with
  |none=>exact bD
  |some x=>exact eR fun _ _=>bP bD
 |lookup t m key ok =>
  simp only[aB];generalize P.underlying t=u;generalize opS an.keep tm rs m=s;rcases u with _|u
  ·exact aI
  ·cases u <;> first
    |exact aI
    |(cases s with
      |val v=>cases v <;> first
       |exact aI
       |(refine wQ fun es=>j2 fun kv=>bP (aY fun r=>aY fun z=>?_)
         cases ok <;> exact bD)
      |_=>exact aI)
 |mapUpdate t m key x =>
  simp only[aB];generalize P.underlying t=u;generalize opS an.keep tm rs m=s;rcases u with _|u
  ·exact aI
  ·cases u <;> first
    |exact aI
    |(cases s with
      |val v=>cases v <;> first
       |exact aI
       |exact wQ fun es=>j2 fun kv=>j2 fun v=>bP (aY fun r=>bD)
      |_=>exact aI)
 |extract t ix =>
  simp only[aB];generalize opS an.keep tm rs t=s;cases s <;> first|exact aY fun v=>bD|exact aI
 |panic x =>
  simp only[aB];generalize opS an.keep tm rs x=s;cases drawn with
  |true=>exact aI
  |false =>
   cases s with
   |val v=>cases v <;> first|exact aGp|exact aI
   |_=>exact aI
 |call c =>
  obtain ⟨callee,args,argTypes⟩:=c;simp only[aB];generalize args.toList=l;cases callee with
  |value f =>
   dsimp only
   generalize opS an.keep tm rs f=s;cases s with
   |val v=>cases v <;> first
    |exact sD fun l rs'=>aDq
    |exact aI
   |_=>exact aI
  |builtin b =>
   have hlen:∀ x,bA (fun _ _ _ k=>match (argTypes[0]?).bind P.underlying with
     |some .string=>(match opS an.keep tm rs x with|.val (.str s)=>k (.val (.int .i64 s.length)) rs|_=>none)
     |some (.slice _)=>kP (opS an.keep tm rs x) fun xs=>k (.val (.int .i64 xs.length)) rs
     |some (.array n _)=>k (.val (.int .i64 n)) rs
     |some (.map _ _)=>(match opS an.keep tm rs x with
      |.val (.amap i)=>lF rs.sto.objs[i]? fun es=>k (.val (.int .i64 es.length)) rs
      |_=>none)
     |_=>none):=fun x=>by
    generalize (argTypes[0]?).bind P.underlying=u;generalize opS an.keep tm rs x=s;rcases u with _|u
    ·exact aI
    ·cases u <;> first
      |exact aI
      |exact pL fun xs=>bD
      |exact bD
      |(cases s with
        |val v=>cases v <;> first
         |exact bD
         |exact wQ fun es=>bD
         |exact aI
        |_=>exact aI)
   have happ:∀ s x,bA (fun _ _ _ k=>match (argTypes[0]?).bind (aR P),(argTypes[1]?).bind (aR P) with
     |some e,some _=>(aZ P e).bind fun sz=>(zeroOf P e).bind fun z=>kP (opS an.keep tm rs x) fun ys=>aJ (Nat.blt 0 sz&&Nat.beq z.cells.length sz&&Nat.ble (aL P e) 16384&&Nat.blt 0 (aL P e)&&ys.all (fun y=>Nat.beq y.cells.length sz)) (match opS an.keep tm rs s,s with
      |.own sz' xs,.tmp t=>aJ (Nat.beq sz sz'&&Nat.ble (xs.length+ys.length) room) (k (.own sz (xs++ys)) (rs.put t (.val (.slice xs))))
      |.full xs,_=>aJ (xs.all (fun y=>Nat.beq y.cells.length sz)&&Nat.ble (xs.length+ys.length) room) (k (.own sz (xs++ys)) rs)
      |.nl,_=>aJ (Nat.ble ys.length room) (k (.own sz ys) rs)
      |_,_=>none)
     |_,_=>none):=fun s x=>by
    generalize (argTypes[0]?).bind (aR P)=u1;generalize (argTypes[1]?).bind (aR P)=u2;rcases u1 with _|u1
    ·exact aI
    ·rcases u2 with _|u2
     ·exact aI
     ·refine aY fun sz=>aY fun z=>pL fun ys=>bP ?_
      generalize opS an.keep tm rs s=v;cases v with
      |own sz' xs=>cases s <;> first|exact bP bD|exact aI
      |full xs=>exact bP bD
      |nl=>exact bP bD
      |_=>exact aI
   rcases l with _|⟨x,l⟩
   ·cases b <;> exact aI
   ·rcases l with _|⟨y,l⟩
    ·cases b <;> first|exact hlen x|exact aI
    ·rcases l with _|⟨z,l⟩
     ·cases b <;> first|exact happ x y|exact eR fun _ _=>eR fun _ _=>bD|exact aI
     ·cases b <;> exact aI
  |_=>exact aI
 |_=>exact aI
end Go.AM
end
