import Derived.Test.YtdkkaldimefljaaGreatDoorA09
set_option linter.all false
section
namespace Go.AM
variable {P:Program} {ans:FuncId→Ann} {an:Ann} {R:Type} {r:R}
variable {tm:List Slot} {rs1 rs2:RS} {k1:Slot→RS→Option R} {ops:Array Oper} {prot tk:Bool} {cf:aO} {o:Oper}
def agS (s1 s2:Slot):Prop:=s2=s1∨∃ c1 c2,s1=.box c1∧s2=.box c2
theorem agS.eq {s1 s2:Slot} (h:agS s1 s2) (hn:∀ c,s1≠.box c):s2=s1:=by
 rcases h with h|⟨c1,c2,h,_⟩
 ·exact h
 ·exact absurd h (hn c1)
theorem jT {s1 s2:Slot} (h:agS s1 s2) {k:AVal→Option R} (e:asV s1 k=some r):∃ x,k x=some r∧∀ (R2:Type) (k2:AVal→Option R2),asV s2 k2=k2 x:=by
 have hs:=h.eq (fun c he=>by subst he;simp [asV] at e);subst hs;unfold asV at e
 split at e <;> first|exact ⟨_,e,fun R2 k2=>rfl⟩|cases e
theorem oO {s1 s2:Slot} (h:agS s1 s2) {k:List AVal→Option R} (e:kP s1 k=some r):∃ x,k x=some r∧∀ (R2:Type) (k2:List AVal→Option R2),kP s2 k2=k2 x:=by
 have hs:=h.eq (fun c he=>by subst he;simp [kP] at e);subst hs;unfold kP at e
 split at e <;> first|exact ⟨_,e,fun R2 k2=>rfl⟩|cases e
theorem dW {s1 s2:Slot} (h:agS s1 s2) {k:IntKind→Int→Option R} (e:asInt s1 k=some r):∃ a b,k a b=some r∧∀ (R2:Type) (k2:IntKind→Int→Option R2),asInt s2 k2=k2 a b:=by
 have hs:=h.eq (fun c he=>by subst he;simp [asInt] at e);subst hs;unfold asInt at e
 split at e <;> first|exact ⟨_,_,e,fun R2 k2=>rfl⟩|cases e
theorem om {s1 s2:Slot} (h:agS s1 s2) {k:Bool→Option R} (e:asBool s1 k=some r):∃ b,k b=some r∧∀ (R2:Type) (k2:Bool→Option R2),asBool s2 k2=k2 b:=by
 have hs:=h.eq (fun c he=>by subst he;simp [asBool] at e);subst hs;unfold asBool at e
 split at e
 ·rename_i b
  refine ⟨b,by cases b <;> simpa using e,fun R2 k2=>by cases b <;> rfl⟩
 ·cases e
theorem zB {s1 s2:Slot} (h:agS s1 s2) {k:Slot→Option R} (e:mv s1 k=some r):∃ x,k x=some r∧(∀ (R2:Type) (k2:Slot→Option R2),mv s2 k2=k2 x)∧∀ u y,x=.ref u y→s1=.ref u y:=by
 have hs:=h.eq (fun c he=>by subst he;simp [mv] at e);subst hs;unfold mv at e
 split at e <;> first|exact ⟨_,e,fun R2 k2=>rfl,fun u y he=>by cases he;rfl⟩|exact ⟨_,e,fun R2 k2=>rfl,fun u y he=>by cases he⟩|cases e
theorem aE {b:Bool} (h:b=true) (k:Option R):aJ b k=k:=by subst h;rfl
def aIM (o1 o2:Option AObj):Prop:=o2=o1∨∃ c1 c2,o1=some (.box c1)∧o2=some (.box c2)∧c2.map Cell.get=c1.map Cell.get
structure stoAg (a b:Sto):Prop where
 lo:b.lo=a.lo
 len:b.objs.length=a.objs.length
 objs:∀ i:Nat,aIM a.objs[i]? b.objs[i]?
theorem stoAg.refl (a:Sto):stoAg a a:=⟨rfl,rfl,fun _=>.inl rfl⟩
structure Agr (ans:FuncId→Ann) (an:Ann) (tm:List Slot) (ops:Array Oper) (prot tk:Bool) (o:Oper) (rs1 rs2:RS):Prop where
 opd:∀ x∈o.op.operands.toList,agS (opS an.keep tm rs1 x) (opS an.keep tm rs2 x)
 rb:∀ u∈rdB an.loc ops o,∀ c,rs1.look an.keep tm u=.box c→∃ c2,rs2.look an.keep tm u=.box c2∧c2.map Cell.get=c.map Cell.get
 wb:∀ u,(u∈wrB an.loc ops o∨u∈tkB an.loc ops tk o)→rs2.look an.keep tm u=rs1.look an.keep tm u
 sto:match cM ans an.loc ops prot tk o with
  |.p=>True
  |.r=>stoAg rs1.sto rs2.sto
  |_=>rs2.sto=rs1.sto
structure Eff (ans:FuncId→Ann) (an:Ann) (tm:List Slot) (ops:Array Oper) (prot tk:Bool) (o:Oper) (rs1:RS) (s:Slot) (puts:List (Nat×Slot)) (g:Sto→Sto):Prop where
 keys:∀ p∈puts,p.1∈cons an.keep tk o∨(p.1∈wrB an.loc ops o∧∃ c c',rs1.look an.keep tm p.1=.box c∧p.2=.box c')∨(p.1∈tkB an.loc ops tk o∧∃ c c',rs1.look an.keep tm p.1=.box c∧p.2=.box c'∧c'.map Cell.get=c.map Cell.get)
 vals:∀ p∈puts,∀ u x,p.2≠.ref u x
 ref:∀ u x,s=.ref u x→eI o=some u∨∃ t∈rdS ops o,∃ y,rs1.look an.keep tm t=.ref u y
 sto:match cM ans an.loc ops prot tk o with
  |.t=>stoAg rs1.sto (g rs1.sto)
  |.w=>True
  |.x=>True
  |_=>g=id
def Two (P:Program) (ans:FuncId→Ann) (an:Ann) (tm:List Slot) (ops:Array Oper) (prot tk:Bool) (cf:aO) (o:Oper) (rs1 rs2:RS) (k1:Slot→RS→Option R) (r:R):Prop :=
 ∃ s puts g,k1 s ⟨puts++rs1.sc,g rs1.sto⟩=some r∧(∀ (R2:Type) (kp2:AVal→RS→Option R2) (k2:Slot→RS→Option R2),aB P ans an true prot (eK an.loc ops.toList ops.size (addrOf o)) cf tm tk o rs2 kp2 k2=k2 s ⟨puts++rs2.sc,g rs2.sto⟩)∧Eff ans an tm ops prot tk o rs1 s puts g
theorem Two.plain {s:Slot} (hk:k1 s rs1=some r) (h2:∀ (R2:Type) (kp2:AVal→RS→Option R2) (k2:Slot→RS→Option R2),aB P ans an true prot (eK an.loc ops.toList ops.size (addrOf o)) cf tm tk o rs2 kp2 k2=k2 s rs2)
  (hr:∀ u x,s=.ref u x→eI o=some u∨∃ t∈rdS ops o,∃ y,rs1.look an.keep tm t=.ref u y):Two P ans an tm ops prot tk cf o rs1 rs2 k1 r :=
 ⟨s,[],id,hk,h2,by simp,by simp,hr,by split <;> first|rfl|trivial|exact stoAg.refl _⟩
theorem Two.val {x:AVal} (hk:k1 (.val x) rs1=some r) (h2:∀ (R2:Type) (kp2:AVal→RS→Option R2) (k2:Slot→RS→Option R2),aB P ans an true prot (eK an.loc ops.toList ops.size (addrOf o)) cf tm tk o rs2 kp2 k2=k2 (.val x) rs2):Two P ans an tm ops prot tk cf o rs1 rs2 k1 r :=
 .plain hk h2 (fun u x he=>by cases he)
variable {dst:Option Nat} {ty:TypeId} {pos:String} {aft:Array Edge} {gd:Option (Nat×Bool)}
theorem aCy {op:UnOp} {t:TypeId} {x:Operand} (h:Agr ans an tm ops prot tk ⟨dst,.unOp op t x,ty,pos,aft,gd⟩ rs1 rs2) {kp:AVal→RS→Option R} {l:List Nat} (e:aB P ans an true prot l cf tm tk ⟨dst,.unOp op t x,ty,pos,aft,gd⟩ rs1 kp k1=some r):Two P ans an tm ops prot tk cf ⟨dst,.unOp op t x,ty,pos,aft,gd⟩ rs1 rs2 k1 r:=by
 have hx:=h.opd x (by simp [Op.operands]);simp only[aB] at e
 split at e
 ·rename_i b hb
  have h2:=hx.eq (by rw[hb];simp);rw[hb] at h2;exact .val e (fun R2 kp2 k2=>by simp only[aB,h2])
 ·rename_i kd n hb
  have h2:=hx.eq (by rw[hb];simp);rw[hb] at h2;exact .val e (fun R2 kp2 k2=>by simp only[aB,h2])
 ·cases e
theorem jj {src dt:TypeId} {x:Operand} (h:Agr ans an tm ops prot tk ⟨dst,.convert src dt x,ty,pos,aft,gd⟩ rs1 rs2) {kp:AVal→RS→Option R} {l:List Nat} (e:aB P ans an true prot l cf tm tk ⟨dst,.convert src dt x,ty,pos,aft,gd⟩ rs1 kp k1=some r):Two P ans an tm ops prot tk cf ⟨dst,.convert src dt x,ty,pos,aft,gd⟩ rs1 rs2 k1 r:=by
 have hx:=h.opd x (by simp [Op.operands]);simp only[aB] at e
 split at e
 ·rename_i k1' kd hu1 hu2
  obtain ⟨a,b,e,h2⟩:=dW hx e;exact .val e (fun R2 kp2 k2=>by simp only[aB,hu1,hu2,h2])
 ·rename_i hu1 hu2
  split at e
  ·rename_i s hb
   have h2:=hx.eq (by rw[hb];simp);rw[hb] at h2;exact .val e (fun R2 kp2 k2=>by simp only[aB,hu1,hu2,h2])
  ·cases e
 ·cases e
theorem aBr {c a b:Operand} (h:Agr ans an tm ops prot tk ⟨dst,.pick c a b,ty,pos,aft,gd⟩ rs1 rs2) {kp:AVal→RS→Option R} {l:List Nat} (e:aB P ans an true prot l cf tm tk ⟨dst,.pick c a b,ty,pos,aft,gd⟩ rs1 kp k1=some r):Two P ans an tm ops prot tk cf ⟨dst,.pick c a b,ty,pos,aft,gd⟩ rs1 rs2 k1 r:=by
 have hc:=h.opd c (by simp [Op.operands]);have ha:=h.opd a (by simp [Op.operands]);have hb:=h.opd b (by simp [Op.operands]);simp only[aB] at e;obtain ⟨t,e,h2⟩:=om hc e
 have hm:∀ x,x∈[a,b]→∀ u y,opS an.keep tm rs1 x=.ref u y→∃ t∈rdS ops ⟨dst,.pick c a b,ty,pos,aft,gd⟩,∃ y,rs1.look an.keep tm t=.ref u y:=fun x hx u y he=>by
  cases x with
  |tmp t =>
   refine ⟨t,?_,y,he⟩;simp only[rdS,Op.operands,List.mem_append];left;simp only[List.mem_filterMap];refine ⟨.tmp t,?_,rfl⟩;simp at hx ⊢;rcases hx with hx|hx
   ·simp [hx]
   ·simp [hx]
  |const v =>
   simp only[opS,gJ] at he
   split at he
   ·cases he
   ·split at he <;> cases he
  |global=>simp [opS] at he
  |func=>simp [opS] at he
 cases t with
 |true =>
  obtain ⟨x,e,h3,h4⟩:=zB ha e;exact .plain e (fun R2 kp2 k2=>by simp only[aB,h2,h3]) (fun u y he=>.inr (hm a (by simp) u y (h4 u y he)))
 |false =>
  obtain ⟨x,e,h3,h4⟩:=zB hb e;exact .plain e (fun R2 kp2 k2=>by simp only[aB,h2,h3]) (fun u y he=>.inr (hm b (by simp) u y (h4 u y he)))
theorem yn {t:TypeId} {x:Operand} {f:Nat} (h:Agr ans an tm ops prot tk ⟨dst,.field t x f,ty,pos,aft,gd⟩ rs1 rs2) {kp:AVal→RS→Option R} {l:List Nat} (e:aB P ans an true prot l cf tm tk ⟨dst,.field t x f,ty,pos,aft,gd⟩ rs1 kp k1=some r):Two P ans an tm ops prot tk cf ⟨dst,.field t x f,ty,pos,aft,gd⟩ rs1 rs2 k1 r:=by
 have hx:=h.opd x (by simp [Op.operands]);simp only[aB] at e;obtain ⟨ot,hf,e⟩:=aC e;obtain ⟨s,hs,e⟩:=aC e;obtain ⟨agg,ha,e⟩:=aC e
 split at e
 ·rename_i cs hb
  obtain ⟨u,hu,e⟩:=aC e;have h2:=hx.eq (by rw[hb];simp);rw[hb] at h2;exact .val e (fun R2 kp2 k2=>by simp only[aB,hf,hs,ha,h2,hu,Option.bind_some])
 ·cases e
theorem ju {x:Operand} {i:Nat} (h:Agr ans an tm ops prot tk ⟨dst,.extract x i,ty,pos,aft,gd⟩ rs1 rs2) {kp:AVal→RS→Option R} {l:List Nat} (e:aB P ans an true prot l cf tm tk ⟨dst,.extract x i,ty,pos,aft,gd⟩ rs1 kp k1=some r):Two P ans an tm ops prot tk cf ⟨dst,.extract x i,ty,pos,aft,gd⟩ rs1 rs2 k1 r:=by
 have hx:=h.opd x (by simp [Op.operands]);simp only[aB] at e
 split at e
 ·rename_i vs hb
  obtain ⟨u,hu,e⟩:=aC e;have h2:=hx.eq (by rw[hb];simp);rw[hb] at h2;exact .val e (fun R2 kp2 k2=>by simp only[aB,h2,hu,Option.bind_some])
 ·cases e
theorem oU {t:TypeId} {x:Operand} (h:Agr ans an tm ops prot tk ⟨dst,.makeInterface t x,ty,pos,aft,gd⟩ rs1 rs2) {kp:AVal→RS→Option R} {l:List Nat} (e:aB P ans an true prot l cf tm tk ⟨dst,.makeInterface t x,ty,pos,aft,gd⟩ rs1 kp k1=some r):Two P ans an tm ops prot tk cf ⟨dst,.makeInterface t x,ty,pos,aft,gd⟩ rs1 rs2 k1 r:=by
 have hx:=h.opd x (by simp [Op.operands]);simp only[aB] at e
 split at e
 ·cases e
 ·rename_i d hd hu
  obtain ⟨v,e,h2⟩:=jT hx e;refine .val e (fun R2 kp2 k2=>?_);simp only[aB,hu];exact h2 _ _
 ·cases e
theorem xq {t:TypeId} {x ix:Operand} (h:Agr ans an tm ops prot tk ⟨dst,.index t x ix,ty,pos,aft,gd⟩ rs1 rs2) {kp:AVal→RS→Option R} {l:List Nat} (e:aB P ans an true prot l cf tm tk ⟨dst,.index t x ix,ty,pos,aft,gd⟩ rs1 kp k1=some r):Two P ans an tm ops prot tk cf ⟨dst,.index t x ix,ty,pos,aft,gd⟩ rs1 rs2 k1 r:=by
 have hx:=h.opd x (by simp [Op.operands]);have hi:=h.opd ix (by simp [Op.operands]);simp only[aB] at e
 split at e
 ·rename_i s hu hb
  obtain ⟨kd,n,e,h3⟩:=dW hi e;obtain ⟨hg,e⟩:=aA e;obtain ⟨u,hu',e⟩:=aC e;have h2:=hx.eq (by rw[hb];simp);rw[hb] at h2;exact .val e (fun R2 kp2 k2=>by simp only[aB,hu,h2,h3,aE hg,hu',Option.bind_some])
 ·rename_i len el cs hu hb
  obtain ⟨kd,n,e,h3⟩:=dW hi e;obtain ⟨s,hs,e⟩:=aC e;obtain ⟨agg,ha,e⟩:=aC e;obtain ⟨hg,e⟩:=aA e;obtain ⟨u,hu',e⟩:=aC e;have h2:=hx.eq (by rw[hb];simp);rw[hb] at h2;exact .val e (fun R2 kp2 k2=>by simp only[aB,hu,h2,h3,hs,ha,aE hg,hu',Option.bind_some])
 ·rename_i len el cs hu hb
  obtain ⟨kd,n,e,h3⟩:=dW hi e;obtain ⟨s,hs,e⟩:=aC e;obtain ⟨agg,ha,e⟩:=aC e;obtain ⟨hg,e⟩:=aA e;obtain ⟨u,hu',e⟩:=aC e;have h2:=hx.eq (by rw[hb];simp);rw[hb] at h2;exact .val e (fun R2 kp2 k2=>by simp only[aB,hu,h2,h3,hs,ha,aE hg,hu',Option.bind_some])
 ·cases e
end Go.AM
end
section
namespace Go.AM
variable {P:Program} {ans:FuncId→Ann} {an:Ann} {R:Type} {r:R}
variable {tm:List Slot} {rs1 rs2:RS} {k1:Slot→RS→Option R} {ops:Array Oper} {prot tk:Bool} {cf:aO} {o:Oper}
variable {dst:Option Nat} {ty:TypeId} {pos:String} {aft:Array Edge} {gd:Option (Nat×Bool)} {kp:AVal→RS→Option R} {l:List Nat}
theorem kY:∀ {ps:List (Nat×Operand)} {k:List (Nat×AVal)→Option R},(∀ p∈ps,agS (opS an.keep tm rs1 p.2) (opS an.keep tm rs2 p.2))→gF an.keep tm rs1 ps k=some r→∃ l,k l=some r∧∀ (R2:Type) (k2:List (Nat×AVal)→Option R2),gF an.keep tm rs2 ps k2=k2 l
 |[],k,h,e=>⟨[],e,fun R2 k2=>rfl⟩
 |(i,x)::ps,k,h,e=>by
  simp only[gF] at e;obtain ⟨v,e,h2⟩:=jT (h (i,x) (by simp)) e;obtain ⟨l,e,h3⟩:=kY (fun p hp=>h p (by simp [hp])) e;exact ⟨(i,v)::l,e,fun R2 k2=>by simp only[gF,h2,h3]⟩
theorem yI:∀ {xs:List Operand} {k:List AVal→Option R},(∀ x∈xs,agS (opS an.keep tm rs1 x) (opS an.keep tm rs2 x))→nM an.keep tm rs1 xs k=some r→∃ l,k l=some r∧∀ (R2:Type) (k2:List AVal→Option R2),nM an.keep tm rs2 xs k2=k2 l
 |[],k,h,e=>⟨[],e,fun R2 k2=>rfl⟩
 |x::xs,k,h,e=>by
  simp only[nM] at e;obtain ⟨v,e,h2⟩:=jT (h x (by simp)) e;obtain ⟨l,e,h3⟩:=yI (fun p hp=>h p (by simp [hp])) e;exact ⟨v::l,e,fun R2 k2=>by simp only[nM,h2,h3]⟩
theorem kL {x:Option Operand} {d:Int} {k:Int→Option R} (h:∀ y,x=some y→agS (opS an.keep tm rs1 y) (opS an.keep tm rs2 y)) (e:jN an.keep tm rs1 x d k=some r):∃ n,k n=some r∧∀ (R2:Type) (k2:Int→Option R2),jN an.keep tm rs2 x d k2=k2 n:=by
 cases x with
 |none=>exact ⟨d,e,fun R2 k2=>rfl⟩
 |some y =>
  simp only[jN] at e;obtain ⟨a,b,e,h2⟩:=dW (h y rfl) e;exact ⟨b,e,fun R2 k2=>by simp only[jN,h2]⟩
theorem jR {x:Operand} {k:Place→Option R} (h:agS (opS an.keep tm rs1 x) (opS an.keep tm rs2 x)) (e:dH x (opS an.keep tm rs1 x) k=some r) :
  ∃ p,k p=some r∧(∀ (R2:Type) (k2:Place→Option R2),dH x (opS an.keep tm rs2 x) k2=k2 p)∧(∀ u y,p=.loc u y→x=.tmp u∨opS an.keep tm rs1 x=.ref u y):=by
 rcases h with h|⟨c1,c2,h1,h2⟩
 ·rw[h]
  unfold dH at e
  split at e
  ·split at e
   ·rename_i t hb
    exact ⟨_,e,fun R2 k2=>by simp only[dH,hb],fun u y he=>by cases he;exact .inl rfl⟩
   ·cases e
  ·rename_i hb
   exact ⟨_,e,fun R2 k2=>by simp only[dH,hb],fun u y he=>by cases he;exact .inr hb⟩
  ·rename_i hb
   exact ⟨_,e,fun R2 k2=>by simp only[dH,hb],fun u y he=>by cases he⟩
  ·rename_i hb
   exact ⟨_,e,fun R2 k2=>by simp only[dH,hb],fun u y he=>by cases he⟩
  ·cases e
 ·rw[h1] at e
  simp only[dH] at e
  split at e
  ·exact ⟨_,e,fun R2 k2=>by simp only[dH,h2],fun u y he=>by cases he;exact .inl rfl⟩
  ·cases e
theorem mS {x:Operand} {t:Nat} {o:Oper} (h:x=.tmp t) (hx:x∈o.op.operands.toList):t∈rdS ops o:=by
 subst h;simp only[rdS,List.mem_append];left;simp only[List.mem_filterMap];exact ⟨.tmp t,hx,rfl⟩
theorem oN {x:Operand} {rs:RS} {u y:Nat} (h:opS an.keep tm rs x=.ref u y):∃ t,x=.tmp t∧rs.look an.keep tm t=.ref u y:=by
 cases x with
 |tmp t=>exact ⟨t,rfl,h⟩
 |const v =>
  simp only[opS,gJ] at h
  split at h
  ·cases h
  ·split at h <;> cases h
 |global=>simp [opS] at h
 |func=>simp [opS] at h
theorem zo {t:TypeId} {parts:Array (Nat×Operand)} (h:Agr ans an tm ops prot tk ⟨dst,.build t parts,ty,pos,aft,gd⟩ rs1 rs2) (e:aB P ans an true prot l cf tm tk ⟨dst,.build t parts,ty,pos,aft,gd⟩ rs1 kp k1=some r):Two P ans an tm ops prot tk cf ⟨dst,.build t parts,ty,pos,aft,gd⟩ rs1 rs2 k1 r:=by
 have hp:∀ p∈parts.toList,agS (opS an.keep tm rs1 p.2) (opS an.keep tm rs2 p.2):=fun p hp=>h.opd p.2 (by simp only[Op.operands,List.mem_map];exact ⟨p,hp,rfl⟩)
 simp only[aB] at e;obtain ⟨z,hz,e⟩:=aC e
 split at e
 ·rename_i fs hu
  obtain ⟨l,e,h2⟩:=kY hp e;obtain ⟨places,hpl,e⟩:=aC e;obtain ⟨cs,hf,e⟩:=aC e;exact .plain e (fun R2 kp2 k2=>by simp only[aB,hz,hu,h2,hpl,hf,Option.bind_some]) (fun u x he=>by cases he)
 ·rename_i n el hu
  obtain ⟨l,e,h2⟩:=kY hp e;obtain ⟨s,hs,e⟩:=aC e;obtain ⟨cs,hf,e⟩:=aC e;exact .plain e (fun R2 kp2 k2=>by simp only[aB,hz,hu,h2,hs,hf,Option.bind_some]) (fun u x he=>by cases he)
 ·cases e
theorem uD {t:TypeId} {len:Nat} {parts:Array (Nat×Operand)} (h:Agr ans an tm ops prot tk ⟨dst,.buildSlice t len parts,ty,pos,aft,gd⟩ rs1 rs2) (e:aB P ans an true prot l cf tm tk ⟨dst,.buildSlice t len parts,ty,pos,aft,gd⟩ rs1 kp k1=some r):Two P ans an tm ops prot tk cf ⟨dst,.buildSlice t len parts,ty,pos,aft,gd⟩ rs1 rs2 k1 r:=by
 have hp:∀ p∈parts.toList,agS (opS an.keep tm rs1 p.2) (opS an.keep tm rs2 p.2):=fun p hp=>h.opd p.2 (by simp only[Op.operands,List.mem_map];exact ⟨p,hp,rfl⟩)
 simp only[aB] at e;obtain ⟨el,hel,e⟩:=aC e;obtain ⟨s,hs,e⟩:=aC e;obtain ⟨hg,e⟩:=aA e;obtain ⟨l,e,h2⟩:=kY hp e;obtain ⟨z,hz,e⟩:=aC e;obtain ⟨hg2,e⟩:=aA e;obtain ⟨xs,hf,e⟩:=aC e;exact .plain e (fun R2 kp2 k2=>by simp only[aB,hel,hs,aE hg,h2,hz,aE hg2,hf,Option.bind_some]) (fun u x he=>by cases he)
theorem dw {fn:Fn} {first caps:Array Operand} (h:Agr ans an tm ops prot tk ⟨dst,.makeFunc fn first caps,ty,pos,aft,gd⟩ rs1 rs2) (e:aB P ans an true prot l cf tm tk ⟨dst,.makeFunc fn first caps,ty,pos,aft,gd⟩ rs1 kp k1=some r):Two P ans an tm ops prot tk cf ⟨dst,.makeFunc fn first caps,ty,pos,aft,gd⟩ rs1 rs2 k1 r:=by
 have hp:∀ p∈caps.toList,agS (opS an.keep tm rs1 p) (opS an.keep tm rs2 p):=fun p hp=>h.opd p (by simp only[Op.operands,Array.toList_append,List.mem_append];exact .inr hp)
 simp only[aB] at e
 split at e
 ·rename_i f hf
  obtain ⟨l,e,h2⟩:=yI hp e;exact .val e (fun R2 kp2 k2=>by simp only[aB,hf,h2])
 ·cases e
theorem zi {t:TypeId} {x:Operand} {lo hi mx:Option Operand} (h:Agr ans an tm ops prot tk ⟨dst,.slice t x lo hi mx,ty,pos,aft,gd⟩ rs1 rs2) (e:aB P ans an true prot l cf tm tk ⟨dst,.slice t x lo hi mx,ty,pos,aft,gd⟩ rs1 kp k1=some r):Two P ans an tm ops prot tk cf ⟨dst,.slice t x lo hi mx,ty,pos,aft,gd⟩ rs1 rs2 k1 r:=by
 have hx:=h.opd x (by simp [Op.operands]);have hlo:∀ y,lo=some y→agS (opS an.keep tm rs1 y) (opS an.keep tm rs2 y):=fun y hy=>h.opd y (by subst hy;simp [Op.operands])
 have hhi:∀ y,hi=some y→agS (opS an.keep tm rs1 y) (opS an.keep tm rs2 y):=fun y hy=>h.opd y (by subst hy;simp [Op.operands])
 have hmx:∀ y,mx=some y→agS (opS an.keep tm rs1 y) (opS an.keep tm rs2 y):=fun y hy=>h.opd y (by subst hy;simp [Op.operands])
 simp only[aB] at e
 split at e
 ·rename_i hu
  split at e
  ·rename_i s hb
   obtain ⟨a,e,h3⟩:=kL hlo e;obtain ⟨b,e,h4⟩:=kL hhi e;obtain ⟨hg,e⟩:=aA e;have h2:=hx.eq (by rw[hb];simp);rw[hb] at h2;exact .val e (fun R2 kp2 k2=>by simp only[aB,hu,h2,h3,h4,aE hg])
  ·cases e
 ·rename_i el hu
  obtain ⟨sz,hsz,e⟩:=aC e;obtain ⟨xs,e,h2⟩:=oO hx e;obtain ⟨a,e,h3⟩:=kL hlo e;obtain ⟨b,e,h4⟩:=kL hhi e;cases mx with
  |none =>
   simp only[e8] at e;obtain ⟨hg,e⟩:=aA e;exact .val e (fun R2 kp2 k2=>by simp only[aB,hu,hsz,Option.bind_some,h2,h3,h4,e8,aE hg];rfl)
  |some u =>
   simp only at e;obtain ⟨ku,mm,e,h5⟩:=dW (hmx u rfl) e;obtain ⟨hg1,e⟩:=aA e;cases hi with
   |none=>cases e
   |some z =>
    simp only[e8] at e;obtain ⟨hg,e⟩:=aA e;exact .plain e (fun R2 kp2 k2=>by simp only[aB,hu,hsz,Option.bind_some,h2,h3,h4,h5,aE hg1,e8,aE hg,if_true]) (fun u x he=>by cases he)
 ·cases e
end Go.AM
end
section
namespace Go.AM
variable {P:Program} {ans:FuncId→Ann} {an:Ann} {R:Type} {r:R}
variable {tm:List Slot} {rs1 rs2:RS} {k1:Slot→RS→Option R} {ops:Array Oper} {prot tk:Bool} {cf:aO} {o:Oper}
variable {dst:Option Nat} {ty:TypeId} {pos:String} {aft:Array Edge} {gd:Option (Nat×Bool)} {kp:AVal→RS→Option R} {l:List Nat}
def aV (s:Slot):Option AVal:=asV s some
theorem aG0 (s:Slot) (k:AVal→Option R):asV s k=(aV s).bind k:=by cases s <;> rfl
def zq (P:Program) (op:BinOp) (t:TypeId) (y:Operand) (sx sy:Slot):Option AVal :=
 match op,dR y with
 |.eql,true=>aJ (fB P t) ((cQ sx).bind fun b=>some (.bool b))
 |.neq,true=>aJ (fB P t) ((cQ sx).bind fun b=>some (.bool (!b)))
 |_,_ =>
  match op,isNilIface y,sx with
  |.eql,true,.val .nilif=>aJ (oJ P t) (some (.bool true))
  |.neq,true,.val .nilif=>aJ (oJ P t) (some (.bool false))
  |_,_,sx=>(aV sx).bind fun a=>(aV sy).bind fun b=>aJ (iM P t a) (iQ op a b)
theorem mG {α:Type} (b:Bool) (x:Option α) (f:α→Option R):(aJ b x).bind f=aJ b (x.bind f):=by cases b <;> rfl
theorem yU {op:BinOp} {t:TypeId} {x y:Operand} {fl:_} {drawn:Bool} (rs:RS) (k:Slot→RS→Option R):aB P ans an drawn prot l cf tm tk ⟨dst,.binOp op t x y fl,ty,pos,aft,gd⟩ rs kp k=(zq P op t y (opS an.keep tm rs x) (opS an.keep tm rs y)).bind fun v=>k (.val v) rs:=by
 simp only[aB,zq,aG0];generalize dR y=b1;generalize isNilIface y=b2;generalize opS an.keep tm rs x=sx;generalize opS an.keep tm rs y=sy
 have fin:∀ op,((aV sx).bind fun a=>(aV sy).bind fun b=>aJ (iM P t a) ((iQ op a b).bind fun v=>k (.val v) rs))=((aV sx).bind fun a=>(aV sy).bind fun b=>aJ (iM P t a) (iQ op a b)).bind fun v=>k (.val v) rs:=fun op=>by
  simp only[Option.bind_assoc,mG]
 cases op <;> cases b1 <;> first
  |exact fin _
  |(simp only[mG,Option.bind_assoc,Option.bind_some];done)
  |(cases b2 <;> first
    |exact fin _
    |(cases sx <;> first
      |exact fin _
      |(rename_i v;cases v <;> first
        |exact fin _
        |(simp only[mG,Option.bind_some];done))))
theorem aA4 {op:BinOp} {t:TypeId} {y:Operand} {c:List Cell} {sy:Slot}:zq P op t y (.box c) sy=none:=by
 unfold zq;split
 ·cases fB P t <;> rfl
 ·cases fB P t <;> rfl
 ·split
  ·exact absurd (show Slot.box c=Slot.val .nilif by assumption) (by simp)
  ·exact absurd (show Slot.box c=Slot.val .nilif by assumption) (by simp)
  ·rfl
theorem yb {op:BinOp} {t:TypeId} {y:Operand} {c:List Cell} {sx:Slot} (hy:∀ v,y≠.const v):zq P op t y sx (.box c)=none:=by
 have h1:dR y=false:=by unfold dR;split <;> first|rfl|exact absurd rfl (hy _)
 have h2:isNilIface y=false:=by unfold isNilIface;split <;> first|rfl|exact absurd rfl (hy _)
 unfold zq;rw[h1,h2];cases op <;> simp [aV,asV]
theorem yp {op:BinOp} {t:TypeId} {x y:Operand} {fl:_} (h:Agr ans an tm ops prot tk ⟨dst,.binOp op t x y fl,ty,pos,aft,gd⟩ rs1 rs2) (e:aB P ans an true prot l cf tm tk ⟨dst,.binOp op t x y fl,ty,pos,aft,gd⟩ rs1 kp k1=some r):Two P ans an tm ops prot tk cf ⟨dst,.binOp op t x y fl,ty,pos,aft,gd⟩ rs1 rs2 k1 r:=by
 have hx:=h.opd x (by simp [Op.operands]);have hy:=h.opd y (by simp [Op.operands]);rw[yU] at e;obtain ⟨v,hv,e⟩:=aC e;have hx2:=hx.eq (fun c hc=>by rw[hc,aA4] at hv;cases hv)
 have hy2:=hy.eq (fun c hc=>by
  rw[hc,yb] at hv
  ·cases hv
  ·rintro v rfl
   simp only[opS,gJ] at hc
   split at hc
   ·cases hc
   ·split at hc <;> cases hc)
 exact .val e (fun R2 kp2 k2=>by rw[yU,hx2,hy2,hv];rfl)
theorem ek {x:Operand} (h:Agr ans an tm ops prot tk ⟨dst,.nilCheck x,ty,pos,aft,gd⟩ rs1 rs2) (e:aB P ans an true prot l cf tm tk ⟨dst,.nilCheck x,ty,pos,aft,gd⟩ rs1 kp k1=some r):Two P ans an tm ops prot tk cf ⟨dst,.nilCheck x,ty,pos,aft,gd⟩ rs1 rs2 k1 r:=by
 have hx:=h.opd x (by simp [Op.operands]);simp only[aB] at e
 split at e
 ·rename_i c hb
  split at e
  ·rename_i t
   obtain ⟨c2,h2⟩:∃ c2,opS an.keep tm rs2 (.tmp t)=.box c2:=by
    rcases hx with h|⟨_,c2,_,h⟩
    ·exact ⟨c,h.trans hb⟩
    ·exact ⟨c2,h⟩
   exact .plain e (fun R2 kp2 k2=>by simp only[aB,h2]) (fun u y he=>by cases he;exact .inl rfl)
  ·cases e
 ·rename_i u y hb
  have h2:=hx.eq (by rw[hb];simp);rw[hb] at h2;obtain ⟨t,ht,hl⟩:=oN hb;exact .plain e (fun R2 kp2 k2=>by simp only[aB,h2]) (fun u' y' he=>by cases he;exact .inr ⟨t,mS ht (by simp [Op.operands]),y,hl⟩)
 ·rename_i i y hb
  have h2:=hx.eq (by rw[hb];simp);rw[hb] at h2;exact .val e (fun R2 kp2 k2=>by simp only[aB,h2])
 ·rename_i v hb
  have h2:=hx.eq (by rw[hb];simp);rw[hb] at h2;exact .val e (fun R2 kp2 k2=>by simp only[aB,h2])
 ·rename_i f cs hb
  have h2:=hx.eq (by rw[hb];simp);rw[hb] at h2;exact .val e (fun R2 kp2 k2=>by simp only[aB,h2])
 ·cases e
theorem xH {t:TypeId} {x:Operand} {f:Nat} (h:Agr ans an tm ops prot tk ⟨dst,.fieldAddr t x f,ty,pos,aft,gd⟩ rs1 rs2) (e:aB P ans an true prot l cf tm tk ⟨dst,.fieldAddr t x f,ty,pos,aft,gd⟩ rs1 kp k1=some r):Two P ans an tm ops prot tk cf ⟨dst,.fieldAddr t x f,ty,pos,aft,gd⟩ rs1 rs2 k1 r:=by
 have hx:=h.opd x (by simp [Op.operands]);simp only[aB] at e;obtain ⟨ot,hf,e⟩:=aC e;obtain ⟨s,hs,e⟩:=aC e;obtain ⟨hg,e⟩:=aA e;obtain ⟨p,e,h2,h3⟩:=jR hx e;cases p with
 |loc u y =>
  refine .plain e (fun R2 kp2 k2=>by simp only[aB,hf,hs,Option.bind_some,aE hg,h2]) (fun u' y' he=>?_);cases he;rcases h3 u y rfl with hh|hh
  ·subst hh;exact .inl rfl
  ·obtain ⟨t',ht',hl⟩:=oN hh
   exact .inr ⟨t',mS ht' (by simp [Op.operands]),y,hl⟩
 |obj i y=>exact .val e (fun R2 kp2 k2=>by simp only[aB,hf,hs,Option.bind_some,aE hg,h2])
 |imm v =>
  simp only at e;obtain ⟨agg,ha,e⟩:=aC e;obtain ⟨u,hu,e⟩:=aC e;exact .val e (fun R2 kp2 k2=>by simp only[aB,hf,hs,Option.bind_some,aE hg,h2,ha,hu])
theorem xP {t:TypeId} {x ix:Operand} (h:Agr ans an tm ops prot tk ⟨dst,.indexAddr t x ix,ty,pos,aft,gd⟩ rs1 rs2) (e:aB P ans an true prot l cf tm tk ⟨dst,.indexAddr t x ix,ty,pos,aft,gd⟩ rs1 kp k1=some r):Two P ans an tm ops prot tk cf ⟨dst,.indexAddr t x ix,ty,pos,aft,gd⟩ rs1 rs2 k1 r:=by
 have hx:=h.opd x (by simp [Op.operands]);have hi:=h.opd ix (by simp [Op.operands]);simp only[aB] at e
 split at e
 ·rename_i el hu
  obtain ⟨xs,e,h2⟩:=oO hx e;obtain ⟨kd,n,e,h3⟩:=dW hi e;obtain ⟨s,hs,e⟩:=aC e;obtain ⟨hg,e⟩:=aA e;obtain ⟨v,hv,e⟩:=aC e;obtain ⟨hg2,e⟩:=aA e;exact .val e (fun R2 kp2 k2=>by simp only[aB,hu,h2,h3,hs,Option.bind_some,aE hg,hv,aE hg2])
 ·rename_i len el hu
  obtain ⟨p,e,h2,h3⟩:=jR hx e;obtain ⟨kd,n,e,h4⟩:=dW hi e;obtain ⟨s,hs,e⟩:=aC e;obtain ⟨hg,e⟩:=aA e;cases p with
  |loc u y =>
   refine .plain e (fun R2 kp2 k2=>by simp only[aB,hu,hs,Option.bind_some,aE hg,h2,h4]) (fun u' y' he=>?_);cases he;rcases h3 u y rfl with hh|hh
   ·subst hh;exact .inl rfl
   ·obtain ⟨t',ht',hl⟩:=oN hh
    exact .inr ⟨t',mS ht' (by simp [Op.operands]),y,hl⟩
  |obj i y=>exact .val e (fun R2 kp2 k2=>by simp only[aB,hu,hs,Option.bind_some,aE hg,h2,h4])
  |imm v =>
   simp only at e;obtain ⟨agg,ha,e⟩:=aC e;obtain ⟨u,hu',e⟩:=aC e;exact .val e (fun R2 kp2 k2=>by simp only[aB,hu,hs,Option.bind_some,aE hg,h2,h4,ha,hu'])
 ·cases e
theorem oh {t:TypeId} {x key:Operand} {ok:Bool} (h:Agr ans an tm ops prot tk ⟨dst,.lookup t x key ok,ty,pos,aft,gd⟩ rs1 rs2) (e:aB P ans an true prot l cf tm tk ⟨dst,.lookup t x key ok,ty,pos,aft,gd⟩ rs1 kp k1=some r):Two P ans an tm ops prot tk cf ⟨dst,.lookup t x key ok,ty,pos,aft,gd⟩ rs1 rs2 k1 r:=by
 have hx:=h.opd x (by simp [Op.operands]);have hkk:=h.opd key (by simp [Op.operands]);have hst:stoAg rs1.sto rs2.sto:=h.sto;simp only[aB] at e
 split at e
 ·rename_i kt el i hu hb
  obtain ⟨es,ho,e⟩:=kE e;obtain ⟨kv,e,h3⟩:=jT hkk e;obtain ⟨hg,e⟩:=aA e;obtain ⟨o,ho',e⟩:=aC e;obtain ⟨z,hz,e⟩:=aC e;have h2:=hx.eq (by rw[hb];simp);rw[hb] at h2
  have ho2:rs2.sto.objs[i]?=some (.map es):=by
   rcases hst.objs i with h'|⟨c1,c2,h',_⟩
   ·rw[h',ho]
   ·rw[ho] at h';cases h'
  cases ok with
  |true=>exact .plain e (fun R2 kp2 k2=>by simp only[aB,hu,h2,ho2,lF,h3,aE hg,ho',hz,Option.bind_some]) (fun u y he=>by cases he)
  |false=>exact .val e (fun R2 kp2 k2=>by simp only[aB,hu,h2,ho2,lF,h3,aE hg,ho',hz,Option.bind_some])
 ·cases e
theorem xU {t:TypeId} {x key y:Operand} (h:Agr ans an tm ops prot tk ⟨dst,.mapUpdate t x key y,ty,pos,aft,gd⟩ rs1 rs2) (e:aB P ans an true prot l cf tm tk ⟨dst,.mapUpdate t x key y,ty,pos,aft,gd⟩ rs1 kp k1=some r):Two P ans an tm ops prot tk cf ⟨dst,.mapUpdate t x key y,ty,pos,aft,gd⟩ rs1 rs2 k1 r:=by
 have hx:=h.opd x (by simp [Op.operands]);have hkk:=h.opd key (by simp [Op.operands]);have hy:=h.opd y (by simp [Op.operands]);have hst:rs2.sto=rs1.sto:=h.sto;simp only[aB] at e
 split at e
 ·rename_i kt el i hu hb
  obtain ⟨es,ho,e⟩:=kE e;obtain ⟨kv,e,h3⟩:=jT hkk e;obtain ⟨v,e,h4⟩:=jT hy e;obtain ⟨hg,e⟩:=aA e;obtain ⟨es',hup,e⟩:=aC e;have h2:=hx.eq (by rw[hb];simp);rw[hb] at h2;refine ⟨.dead,[],fun sto=>{ sto with objs:=sto.objs.set i (.map es') },e,fun R2 kp2 k2=>?_,by simp,by simp,(fun u y he=>by cases he),trivial⟩;simp only[aB,hu,h2,hst,ho,lF,h3,h4,aE hg,hup,Option.bind_some];rfl
 ·cases e
theorem gr {t:TypeId} {x:Option Operand} (h:Agr ans an tm ops prot tk ⟨dst,.makeMap t x,ty,pos,aft,gd⟩ rs1 rs2) (e:aB P ans an true prot l cf tm tk ⟨dst,.makeMap t x,ty,pos,aft,gd⟩ rs1 kp k1=some r):Two P ans an tm ops prot tk cf ⟨dst,.makeMap t x,ty,pos,aft,gd⟩ rs1 rs2 k1 r:=by
 have hst:rs2.sto=rs1.sto:=h.sto;simp only[aB] at e;cases x with
 |none =>
  refine ⟨.val (.amap rs1.sto.objs.length),[],fun sto=>{ sto with objs:=sto.objs++[.map []] },e,fun R2 kp2 k2=>?_,by simp,by simp,(fun u y he=>by cases he),trivial⟩;simp only[aB,hst];rfl
 |some x =>
  have hx:=h.opd x (by simp [Op.operands]);simp only at e;obtain ⟨kd,n,e,h2⟩:=dW hx e;obtain ⟨hg,e⟩:=aA e;refine ⟨.val (.amap rs1.sto.objs.length),[],fun sto=>{ sto with objs:=sto.objs++[.map []] },e,fun R2 kp2 k2=>?_,by simp,by simp,(fun u y he=>by cases he),trivial⟩;simp only[aB,h2,aE hg,hst];rfl
end Go.AM
end
section
namespace Go.AM
variable {P:Program} {ans:FuncId→Ann} {an:Ann} {R:Type} {r:R}
variable {tm:List Slot} {rs1 rs2:RS} {k1:Slot→RS→Option R} {ops:Array Oper} {prot tk:Bool} {cf:aO} {o:Oper}
variable {dst:Option Nat} {ty:TypeId} {pos:String} {aft:Array Edge} {gd:Option (Nat×Bool)} {kp:AVal→RS→Option R} {l:List Nat}
theorem sg {x:Operand} {ty:TypeId} (h:agS (opS an.keep tm rs1 x) (opS an.keep tm rs2 x)) (e:mvK P an tm tk ty x rs1 k1=some r) :
  ∃ s puts,k1 s ⟨puts++rs1.sc,rs1.sto⟩=some r∧(∀ (R2:Type) (k2:Slot→RS→Option R2),mvK P an tm tk ty x rs2 k2=k2 s ⟨puts++rs2.sc,rs2.sto⟩) ∧
   (puts=[]∨∃ t v,x=.tmp t∧(tk||!an.keep.contains t)=true∧puts=[(t,.val v)])∧∀ u y,s=.ref u y→opS an.keep tm rs1 x=.ref u y:=by
 unfold mvK at e
 split at e
 ·rename_i t
  split at e
  ·rename_i sz xs hop
   have h2:=h.eq (by rw[hop];simp);rw[hop] at h2
   split at e
   ·rename_i hk
    exact ⟨_,[(t,.val (.slice xs))],e,fun R2 k2=>by simp only[mvK,h2,hk];rfl,.inr ⟨t,_,rfl,hk,rfl⟩,fun u y he=>by cases he⟩
   ·rename_i hk
    exact ⟨_,[],e,fun R2 k2=>by simp only[mvK,h2,hk];rfl,.inl rfl,fun u y he=>by cases he⟩
  ·rename_i cs hop
   have h2:=h.eq (by rw[hop];simp);rw[hop] at h2
   split at e
   ·rename_i hk
    exact ⟨_,[(t,.val (.agg (cs.map Cell.get)))],e,fun R2 k2=>by simp only[mvK,h2,hk];rfl,.inr ⟨t,_,rfl,hk,rfl⟩,fun u y he=>by cases he⟩
   ·rename_i hk
    exact ⟨_,[],e,fun R2 k2=>by simp only[mvK,h2,hk];rfl,.inl rfl,fun u y he=>by cases he⟩
  ·rename_i hn1 hn2
   have hs:=h.eq (fun c hc=>by rw[hc] at e;simp [mv] at e);obtain ⟨s,e,h2,h3⟩:=zB h e;refine ⟨s,[],e,fun R2 k2=>?_,.inl rfl,h3⟩;show mvK P an tm tk ty (.tmp t) rs2 k2=k2 s rs2;rw[←h2 R2 (fun s'=>k2 s' rs2)];simp only[mvK,hs]
 ·rename_i v
  split at e
  ·cases e
  ·rename_i hd
   refine ⟨_,[],e,fun R2 k2=>?_,.inl rfl,fun u y he=>?_⟩
   ·simp only[mvK];rfl
   ·unfold l8 at he
    split at he
    ·split at he <;> cases he
    ·unfold gJ at he;split at he
     ·cases he
     ·split at he <;> cases he
 ·rename_i hx1 hx2
  obtain ⟨s,e,h2,h3⟩:=zB h e;refine ⟨s,[],e,fun R2 k2=>?_,.inl rfl,h3⟩;cases x with
  |tmp t=>exact absurd rfl (hx1 t)
  |const v=>exact absurd rfl (hx2 v)
  |global g=>exact h2 R2 (fun s'=>k2 s' rs2)
  |func f=>exact h2 R2 (fun s'=>k2 s' rs2)
theorem aBU {x:Operand} (h:Agr ans an tm ops prot tk ⟨dst,.move x,ty,pos,aft,gd⟩ rs1 rs2) (e:aB P ans an true prot l cf tm tk ⟨dst,.move x,ty,pos,aft,gd⟩ rs1 kp k1=some r):Two P ans an tm ops prot tk cf ⟨dst,.move x,ty,pos,aft,gd⟩ rs1 rs2 k1 r:=by
 have hx:=h.opd x (by simp [Op.operands]);simp only[aB] at e;obtain ⟨s,puts,e,h2,h3,h4⟩:=sg hx e;refine ⟨s,puts,id,e,fun R2 kp2 k2=>by simp only[aB];exact h2 R2 k2,?_,?_,fun u y he=>?_,rfl⟩
 ·rcases h3 with rfl|⟨t,v,rfl,hk,rfl⟩
  ·simp
  ·intro p hp;simp at hp;subst hp;left;simp only[cons,hk,if_true];simp
 ·rcases h3 with rfl|⟨t,v,rfl,hk,rfl⟩
  ·simp
  ·intro p hp u y;simp at hp;subst hp;simp
 ·obtain ⟨t,ht,hl⟩:=oN (h4 u y he)
  exact .inr ⟨t,mS ht (by simp [Op.operands]),y,hl⟩
theorem pk {x:Operand} (h:Agr ans an tm ops prot tk ⟨dst,.assign x,ty,pos,aft,gd⟩ rs1 rs2) (e:aB P ans an true prot l cf tm tk ⟨dst,.assign x,ty,pos,aft,gd⟩ rs1 kp k1=some r):Two P ans an tm ops prot tk cf ⟨dst,.assign x,ty,pos,aft,gd⟩ rs1 rs2 k1 r:=by
 have hx:=h.opd x (by simp [Op.operands]);simp only[aB] at e;obtain ⟨s,puts,e,h2,h3,h4⟩:=sg hx e;refine ⟨s,puts,id,e,fun R2 kp2 k2=>by simp only[aB];exact h2 R2 k2,?_,?_,fun u y he=>?_,rfl⟩
 ·rcases h3 with rfl|⟨t,v,rfl,hk,rfl⟩
  ·simp
  ·intro p hp;simp at hp;subst hp;left;simp only[cons,hk,if_true];simp
 ·rcases h3 with rfl|⟨t,v,rfl,hk,rfl⟩
  ·simp
  ·intro p hp u y;simp at hp;subst hp;simp
 ·obtain ⟨t,ht,hl⟩:=oN (h4 u y he)
  exact .inr ⟨t,mS ht (by simp [Op.operands]),y,hl⟩
theorem ym {t:TypeId} (h:Agr ans an tm ops prot tk ⟨dst,.alloc t,ty,pos,aft,gd⟩ rs1 rs2) (e:aB P ans an true prot l cf tm tk ⟨dst,.alloc t,ty,pos,aft,gd⟩ rs1 kp k1=some r):Two P ans an tm ops prot tk cf ⟨dst,.alloc t,ty,pos,aft,gd⟩ rs1 rs2 k1 r:=by
 simp only[aB] at e;obtain ⟨z,hz,e⟩:=aC e;obtain ⟨s,hs,e⟩:=aC e;obtain ⟨hg,e⟩:=aA e;cases dst with
 |none=>cases e
 |some d =>
  cases hl:an.loc.contains d with
  |true =>
   simp only[hl] at e;exact .plain e (fun R2 kp2 k2=>by simp only[aB,hz,hs,Option.bind_some,aE hg,hl]) (fun u y he=>by cases he)
  |false =>
   simp only[hl] at e;have hcls:cM ans an.loc ops prot tk ⟨some d,.alloc t,ty,pos,aft,gd⟩=.w:=by simp only[cM,hl];rfl
   have hst:rs2.sto=rs1.sto:=by have:=h.sto;rw[hcls] at this;exact this
   refine ⟨_,[],fun sto=>{ sto with objs:=sto.objs++[.box z] },e,fun R2 kp2 k2=>?_,by simp,by simp,(fun u y he=>by cases he),by rw[hcls];trivial⟩;simp only[aB,hz,hs,Option.bind_some,aE hg,hl,hst];rfl
end Go.AM
end
section
namespace Go.AM
variable {P:Program} {ans:FuncId→Ann} {an:Ann} {R:Type} {r:R}
variable {tm:List Slot} {rs1 rs2:RS} {k1:Slot→RS→Option R} {ops:Array Oper} {prot tk:Bool} {cf:aO} {o:Oper}
variable {dst:Option Nat} {ty:TypeId} {pos:String} {aft:Array Edge} {gd:Option (Nat×Bool)} {kp:AVal→RS→Option R}
theorem jY {x:Operand} {k:List Cell→RS→Option R} (h:agS (opS an.keep tm rs1 x) (opS an.keep tm rs2 x)) (e:dI an.keep tm rs1 x k=some r) :
  ∃ cs puts,k cs ⟨puts++rs1.sc,rs1.sto⟩=some r∧(∀ (R2:Type) (k2:List Cell→RS→Option R2),dI an.keep tm rs2 x k2=k2 cs ⟨puts++rs2.sc,rs2.sto⟩) ∧
   (puts=[]∨∃ t v,x=.tmp t∧an.keep.contains t=false∧puts=[(t,.val v)]):=by
 have h2:=h.eq (fun c hc=>by unfold dI at e;rw[hc] at e;simp [asV] at e);unfold dI at e
 split at e
 ·rename_i sz xs t hop
  rw[hop] at h2;cases hk:an.keep.contains t with
  |true =>
   simp only[hk] at e;exact ⟨_,[],e,fun R2 k2=>by simp only[dI,h2,hk];rfl,.inl rfl⟩
  |false =>
   simp only[hk] at e;exact ⟨_,[(t,.val (.slice xs))],e,fun R2 k2=>by simp only[dI,h2,hk];rfl,.inr ⟨t,_,rfl,hk,rfl⟩⟩
 ·rename_i sz v hop
  rw[hop] at h2;exact ⟨_,[],e,fun R2 k2=>by simp only[dI,h2];rfl,.inl rfl⟩
 ·rename_i cs t hop
  rw[hop] at h2;cases hk:an.keep.contains t with
  |true =>
   simp only[hk] at e;exact ⟨_,[],e,fun R2 k2=>by simp only[dI,h2,hk];rfl,.inl rfl⟩
  |false =>
   simp only[hk] at e;exact ⟨_,[(t,.val (.agg (cs.map Cell.get)))],e,fun R2 k2=>by simp only[dI,h2,hk];rfl,.inr ⟨t,_,rfl,hk,rfl⟩⟩
 ·rename_i hn1 hn2 hn3
  obtain ⟨v,e,h3⟩:=jT (.inl rfl) e;refine ⟨_,[],e,fun R2 k2=>?_,.inl rfl⟩;show dI an.keep tm rs2 _ k2=k2 (v.cells.map .val) rs2;unfold dI;rw[h2];split
  ·rename_i sz xs t hop;exact (hn1 _ _ _ hop rfl).elim
  ·rename_i sz v hop;exact (hn2 _ _ hop rfl).elim
  ·rename_i cs t hop;exact (hn3 _ _ hop rfl).elim
  ·exact h3 R2 _
theorem nf {s:Slot} {k:List Cell→Option R} (e:oW s k=some r):∃ cs,s=.box cs∧k cs=some r:=by
 unfold oW at e
 split at e
 ·exact ⟨_,rfl,e⟩
 ·cases e
theorem mi {o:Option AObj} {k:List Cell→Option R} (e:jO o k=some r):∃ cs,o=some (.box cs)∧k cs=some r:=by
 unfold jO at e
 split at e
 ·exact ⟨_,rfl,e⟩
 ·cases e
theorem zM {t0:TypeId} {x:Operand} {k:List Cell→RS→Option R} (h:agS (opS an.keep tm rs1 x) (opS an.keep tm rs2 x)) (e:eL P t0 an.keep tm rs1 x k=some r) :
  ∃ cs puts,k cs ⟨puts++rs1.sc,rs1.sto⟩=some r∧(∀ (R2:Type) (k2:List Cell→RS→Option R2),eL P t0 an.keep tm rs2 x k2=k2 cs ⟨puts++rs2.sc,rs2.sto⟩) ∧
   (puts=[]∨∃ t v,x=.tmp t∧an.keep.contains t=false∧puts=[(t,.val v)]):=by
 unfold eL at e
 split at e
 ·rename_i hop
  obtain ⟨el,h1,e⟩:=aC e;obtain ⟨sz,h2,e⟩:=aC e;have hop2:opS an.keep tm rs2 x=.nl:=(h.eq (fun c hc=>by rw[hop] at hc;cases hc)).trans hop;exact ⟨_,[],e,fun R2 k2=>by unfold eL;rw[hop2];simp only[h1,h2,Option.bind_some];rfl,.inl rfl⟩
 ·rename_i hn
  obtain ⟨cs,puts,a1,a2,a3⟩:=jY h e;refine ⟨cs,puts,a1,fun R2 k2=>?_,a3⟩;rw[←a2 R2 k2]
  have hn2:opS an.keep tm rs2 x≠.nl:=fun hc=>by
   rcases h with h|⟨c1,c2,_,h⟩
   ·exact hn (h.symm.trans hc)
   ·rw[h] at hc;cases hc
  unfold eL;split
  ·rename_i hc;exact absurd hc hn2
  ·rfl
theorem isEmpty_nil {α:Type} {l:List α} (h:l.isEmpty=true):l=[]:=by cases l <;> simp_all
theorem contains_cons {l:List Nat} {u:Nat} (h:l.contains u=true):u∈l∧∃ a m,l=a::m:=by
 have hm:u∈l:=by simpa using h
 exact ⟨hm,by cases l with|nil=>simp at hm|cons a m=>exact ⟨a,m,rfl⟩⟩
theorem aEi {t:TypeId} {x:Operand} {l:List Nat} (h:Agr ans an tm ops prot tk ⟨dst,.box t x,ty,pos,aft,gd⟩ rs1 rs2) (e:aB P ans an true prot l cf tm tk ⟨dst,.box t x,ty,pos,aft,gd⟩ rs1 kp k1=some r):Two P ans an tm ops prot tk cf ⟨dst,.box t x,ty,pos,aft,gd⟩ rs1 rs2 k1 r:=by
 have hx:=h.opd x (by simp [Op.operands]);simp only[aB] at e;obtain ⟨cs,puts,e,h2,h3⟩:=zM hx e;obtain ⟨s,hs,e⟩:=aC e;obtain ⟨hg,e⟩:=aA e
 have hkeys:∀ p∈puts,p.1∈cons an.keep tk ⟨dst,.box t x,ty,pos,aft,gd⟩:=fun p hp=>by
  rcases h3 with rfl|⟨t',v,rfl,hk,rfl⟩
  ·simp at hp
  ·simp at hp;subst hp
   simp only[cons,hk];simp
 have hvals:∀ p∈puts,∀ u y,p.2≠.ref u y:=fun p hp u y=>by
  rcases h3 with rfl|⟨t',v,rfl,hk,rfl⟩
  ·simp at hp
  ·simp at hp;subst hp;simp
 cases dst with
 |none=>cases e
 |some d =>
  cases hl:an.loc.contains d with
  |true =>
   simp only[hl] at e;have hcls:cM ans an.loc ops prot tk ⟨some d,.box t x,ty,pos,aft,gd⟩=.p:=by simp only[cM,hl];rfl
   refine ⟨_,puts,id,e,fun R2 kp2 k2=>?_,fun p hp=>.inl (hkeys p hp),hvals,(fun u y he=>by cases he),by rw[hcls]⟩;simp only[aB,h2,hs,Option.bind_some,aE hg,hl];rfl
  |false =>
   simp only[hl] at e;obtain ⟨hg2,e⟩:=aA e;have hcls:cM ans an.loc ops prot tk ⟨some d,.box t x,ty,pos,aft,gd⟩=.w:=by simp only[cM,hl];rfl
   have hst:rs2.sto=rs1.sto:=by have:=h.sto;rw[hcls] at this;exact this
   refine ⟨_,puts,fun sto=>{ sto with objs:=sto.objs++[.box cs] },e,fun R2 kp2 k2=>?_,fun p hp=>.inl (hkeys p hp),hvals,(fun u y he=>by cases he),by rw[hcls];trivial⟩;simp only[aB,h2,hs,Option.bind_some,aE hg,hl,hst,aE hg2];try rfl
theorem xn {t:TypeId} {a x:Operand} (h:Agr ans an tm ops prot tk ⟨dst,.store t a x,ty,pos,aft,gd⟩ rs1 rs2) (e:aB P ans an true prot (eK an.loc ops.toList ops.size a) cf tm tk ⟨dst,.store t a x,ty,pos,aft,gd⟩ rs1 kp k1=some r):Two P ans an tm ops prot tk cf ⟨dst,.store t a x,ty,pos,aft,gd⟩ rs1 rs2 k1 r:=by
 have ha:=h.opd a (by simp [Op.operands]);have hx:=h.opd x (by simp [Op.operands]);simp only[aB] at e;obtain ⟨p,e,h2,_⟩:=jR ha e
 have hkeys:∀ puts:List (Nat×Slot),(puts=[]∨∃ t v,x=.tmp t∧an.keep.contains t=false∧puts=[(t,.val v)])→(∀ p∈puts,p.1∈cons an.keep tk ⟨dst,.store t a x,ty,pos,aft,gd⟩)∧∀ p∈puts,∀ u y,p.2≠.ref u y:=fun puts h3=>by
  rcases h3 with rfl|⟨t',v,rfl,hk,rfl⟩
  ·simp
  ·refine ⟨fun p hp=>?_,fun p hp u y=>?_⟩
   ·simp at hp;subst hp;simp only[cons,hk];simp
   ·simp at hp;subst hp;simp
 cases p with
 |loc u y =>
  simp only[bQ] at e;obtain ⟨hr,e⟩:=aA e;obtain ⟨hm,a0,m0,hcons⟩:=contains_cons hr;simp only[aU] at e;obtain ⟨cs,hcs,e⟩:=nf e;obtain ⟨s,hs,e⟩:=aC e;obtain ⟨new,puts,e,h4,h5⟩:=jY hx e;obtain ⟨hg,e⟩:=aA e;simp only[bV] at e;have hw2:rs2.look an.keep tm u=.box cs:=(h.wb u (.inl hm)).trans hcs;have hcls:cM ans an.loc ops prot tk ⟨dst,.store t a x,ty,pos,aft,gd⟩=.p:=by simp only[cM,hcons]
  obtain ⟨k3,k4⟩:=hkeys puts h5;refine ⟨.dead,(u,.box (setCells cs y new))::puts,id,e,fun R2 kp2 k2=>?_,fun p hp=>?_,fun p hp u' y'=>?_,(fun u y he=>by cases he),by rw[hcls]⟩
  ·simp only[aB,addrOf,h2,bQ,aE hr,aU,hw2,oW,hs,Option.bind_some,h4,aE hg,bV];rfl
  ·rcases List.mem_cons.1 hp with rfl|hp
   ·exact .inr (.inl ⟨hm,cs,_,hcs,rfl⟩)
   ·exact .inl (k3 p hp)
  ·rcases List.mem_cons.1 hp with rfl|hp
   ·simp
   ·exact k4 p hp u' y'
 |obj i y =>
  simp only[bQ] at e;obtain ⟨hr,e⟩:=aA e;have hnil:=isEmpty_nil hr;have hcls:cM ans an.loc ops prot tk ⟨dst,.store t a x,ty,pos,aft,gd⟩=.w:=by simp only[cM,hnil]
  have hst:rs2.sto=rs1.sto:=by have:=h.sto;rw[hcls] at this;exact this
  simp only[aU] at e;obtain ⟨cs,hcs,e⟩:=mi e;obtain ⟨s,hs,e⟩:=aC e;obtain ⟨new,puts,e,h4,h5⟩:=jY hx e;obtain ⟨hg,e⟩:=aA e;simp only[bV] at e;obtain ⟨hg2,e⟩:=aA e;obtain ⟨k3,k4⟩:=hkeys puts h5;refine ⟨.dead,puts,fun sto=>{ sto with objs:=sto.objs.set i (.box (setCells cs y new)) },e,fun R2 kp2 k2=>?_,fun p hp=>.inl (k3 p hp),k4,(fun u y he=>by cases he),by rw[hcls];trivial⟩;simp only[aB,addrOf,h2,bQ,aE hr,aU,hst,hcs,jO,hs,Option.bind_some,h4,aE hg,bV,aE hg2];try rfl
 |imm v =>
  simp only[bQ] at e;obtain ⟨hr,e⟩:=aA e;simp only[aU] at e;obtain ⟨s,hs,e⟩:=aC e;obtain ⟨new,puts,e,h4,h5⟩:=jY hx e;obtain ⟨hg,e⟩:=aA e;simp [bV] at e
end Go.AM
end
