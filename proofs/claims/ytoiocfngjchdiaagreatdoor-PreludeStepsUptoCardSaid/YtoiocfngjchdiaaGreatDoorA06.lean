import Derived.Test.YtoiocfngjchdiaaGreatDoorA05
set_option linter.all false
namespace Go.AM
section
variable {P:Program}{ans:FuncId->AF}{an:AF}{R:Type}{r:R}
variable {tm:List Slot}{rs1 rs2:RS}{k1:Slot->RS->Option R}{ops:Array Oper}{AA tk:Bool}{cf:aJ}{o:Oper}
def agS(s1 s2:Slot):Prop:=s2=s1\/∃c1 c2,s1=.box c1/\s2=.box c2
theorem agS.eq{s1 s2:Slot}(h:agS s1 s2)(hn:∀c,s1≠.box c):s2=s1:=by
 rcases h with h|⟨c1,c2,h,_⟩
 ·exact h
 ·exact absurd h (hn c1)
theorem o7{s1 s2:Slot}(h:agS s1 s2){k:AVal->Option R}(e:DQ s1 k=some r):∃x,k x=some r/\∀(R2:Type)(k2:AVal->Option R2),DQ s2 k2=k2 x:=by
 have hs:=h.eq (λc he=>by subst he;simp[DQ] at e);subst hs;unfold DQ at e
 split at e<;>first|exact⟨_,e,λR2 k2=>rfl⟩|cases e
theorem o6{s1 s2:Slot}(h:agS s1 s2){k:List AVal->Option R}(e:kL s1 k=some r):∃x,k x=some r/\∀(R2:Type)(k2:List AVal->Option R2),kL s2 k2=k2 x:=by
 have hs:=h.eq (λc he=>by subst he;simp[kL] at e);subst hs;unfold kL at e
 split at e<;>first|exact⟨_,e,λR2 k2=>rfl⟩|cases e
theorem iG{s1 s2:Slot}(h:agS s1 s2){k:IntKind->Int->Option R}(e:asInt s1 k=some r):∃a b,k a b=some r/\∀(R2:Type)(k2:IntKind->Int->Option R2),asInt s2 k2=k2 a b:=by
 have hs:=h.eq (λc he=>by subst he;simp[asInt] at e);subst hs;unfold asInt at e
 split at e<;>first|exact⟨_,_,e,λR2 k2=>rfl⟩|cases e
theorem my{s1 s2:Slot}(h:agS s1 s2){k:Bool->Option R}(e:asBool s1 k=some r):∃b,k b=some r/\∀(R2:Type)(k2:Bool->Option R2),asBool s2 k2=k2 b:=by
 have hs:=h.eq (λc he=>by subst he;simp[asBool] at e);subst hs;unfold asBool at e
 split at e
 ·rename_i b
  refine⟨b,by cases b<;>simpa using e,λR2 k2=>by cases b<;>rfl⟩
 ·cases e
theorem ch{s1 s2:Slot}(h:agS s1 s2){k:Slot->Option R}(e:mv s1 k=some r):∃x,k x=some r/\(∀(R2:Type)(k2:Slot->Option R2),mv s2 k2=k2 x)/\∀u y,x=.ref u y->s1=.ref u y:=by
 have hs:=h.eq (λc he=>by subst he;simp[mv] at e);subst hs;unfold mv at e
 split at e<;>first|exact⟨_,e,λR2 k2=>rfl,λu y he=>by cases he;rfl⟩|exact⟨_,e,λR2 k2=>rfl,λu y he=>by cases he⟩|cases e
theorem aD{b:Bool}(h:b=true)(k:Option R):aL b k=k:=by subst h;rfl
def aSI(o1 o2:Option AObj):Prop:=o2=o1\/∃c1 c2,o1=some (.box c1)/\o2=some (.box c2)/\c2.map Cell.get=c1.map Cell.get
structure stoAg (a b:AH):Prop where
 lo:b.lo=a.lo
 len:b.objs.length=a.objs.length
 objs:∀i:Nat,aSI a.objs[i]? b.objs[i]?
theorem stoAg.refl(a:AH):stoAg a a:=⟨rfl,rfl,λ_=>.inl rfl⟩
structure F0 (ans:FuncId->AF) (an:AF) (tm:List Slot) (ops:Array Oper) (AA tk:Bool) (o:Oper) (rs1 rs2:RS):Prop where
 opd:∀x∈o.op.operands.toList,agS (A6 an.keep tm rs1 x) (A6 an.keep tm rs2 x)
 rb:∀u∈IK an.loc ops o,∀c,rs1.look an.keep tm u=.box c->∃c2,rs2.look an.keep tm u=.box c2/\c2.map Cell.get=c.map Cell.get
 wb:∀u,(u∈Ho an.loc ops o\/u∈G6 an.loc ops tk o)->rs2.look an.keep tm u=rs1.look an.keep tm u
 sto:match cI ans an.loc ops AA tk o with
  |.p=>True
  |.r=>stoAg rs1.sto rs2.sto
  |_=>rs2.sto=rs1.sto
structure Eff (ans:FuncId->AF) (an:AF) (tm:List Slot) (ops:Array Oper) (AA tk:Bool) (o:Oper) (rs1:RS) (s:Slot) (puts:List (Nat×Slot)) (g:AH->AH):Prop where
 keys:∀p∈puts,p.1∈cons an.keep tk o\/(p.1∈Ho an.loc ops o/\∃c c',rs1.look an.keep tm p.1=.box c/\p.2=.box c')\/(p.1∈G6 an.loc ops tk o/\∃c c',rs1.look an.keep tm p.1=.box c/\p.2=.box c'/\c'.map Cell.get=c.map Cell.get)
 vals:∀p∈puts,∀u x,p.2≠.ref u x
 ref:∀u x,s=.ref u x->eF o=some u\/∃t∈F3 ops o,∃y,rs1.look an.keep tm t=.ref u y
 sto:match cI ans an.loc ops AA tk o with
  |.t=>stoAg rs1.sto (g rs1.sto)
  |.w=>True
  |.x=>True
  |_=>g=id
def Two(P:Program)(ans:FuncId->AF)(an:AF)(tm:List Slot)(ops:Array Oper)(AA tk:Bool)(cf:aJ)(o:Oper)(rs1 rs2:RS)(k1:Slot->RS->Option R)(r:R):Prop :=
 ∃s puts g,k1 s ⟨puts++rs1.sc,g rs1.sto⟩=some r/\(∀(R2:Type)(BP:AVal->RS->Option R2)(k2:Slot->RS->Option R2),aB P ans an true AA (eG an.loc ops.toList ops.size (addrOf o)) cf tm tk o rs2 BP k2=k2 s ⟨puts++rs2.sc,g rs2.sto⟩)/\Eff ans an tm ops AA tk o rs1 s puts g
theorem Two.plain{s:Slot}(hk:k1 s rs1=some r)(h2:∀(R2:Type)(BP:AVal->RS->Option R2)(k2:Slot->RS->Option R2),aB P ans an true AA (eG an.loc ops.toList ops.size (addrOf o)) cf tm tk o rs2 BP k2=k2 s rs2)
  (hr:∀u x,s=.ref u x->eF o=some u\/∃t∈F3 ops o,∃y,rs1.look an.keep tm t=.ref u y):Two P ans an tm ops AA tk cf o rs1 rs2 k1 r :=
 ⟨s,[],id,hk,h2,by simp,by simp,hr,by split<;>first|rfl|trivial|exact stoAg.refl _⟩
theorem Two.val{x:AVal}(hk:k1 (.val x) rs1=some r)(h2:∀(R2:Type)(BP:AVal->RS->Option R2)(k2:Slot->RS->Option R2),aB P ans an true AA (eG an.loc ops.toList ops.size (addrOf o)) cf tm tk o rs2 BP k2=k2 (.val x) rs2):Two P ans an tm ops AA tk cf o rs1 rs2 k1 r :=
 .plain hk h2 (λu x he=>by cases he)
variable {dst:Option Nat}{ty:TypeId}{pos:String}{AJ:Array Edge}{gd:Option (Nat×Bool)}
theorem aEp{op:UnOp}{t:TypeId}{x:Operand}(h:F0 ans an tm ops AA tk ⟨dst,.unOp op t x,ty,pos,AJ,gd⟩ rs1 rs2){kp:AVal->RS->Option R}{l:List Nat}(e:aB P ans an true AA l cf tm tk ⟨dst,.unOp op t x,ty,pos,AJ,gd⟩ rs1 kp k1=some r):Two P ans an tm ops AA tk cf ⟨dst,.unOp op t x,ty,pos,AJ,gd⟩ rs1 rs2 k1 r:=by
 have hx:=h.opd x (by simp[Op.operands]);simp only[aB] at e
 split at e
 ·rename_i b hb
  have h2:=hx.eq (by rw[hb];simp);rw[hb] at h2;exact .val e (λR2 BP k2=>by simp only[aB,h2])
 ·cases e
theorem aEo{c a b:Operand}(h:F0 ans an tm ops AA tk ⟨dst,.pick c a b,ty,pos,AJ,gd⟩ rs1 rs2){kp:AVal->RS->Option R}{l:List Nat}(e:aB P ans an true AA l cf tm tk ⟨dst,.pick c a b,ty,pos,AJ,gd⟩ rs1 kp k1=some r):Two P ans an tm ops AA tk cf ⟨dst,.pick c a b,ty,pos,AJ,gd⟩ rs1 rs2 k1 r:=by
 have hc:=h.opd c (by simp[Op.operands]);have ha:=h.opd a (by simp[Op.operands]);have hb:=h.opd b (by simp[Op.operands]);simp only[aB] at e;obtain⟨t,e,h2⟩:=my hc e
 have hm:∀x,x∈[a,b]->∀u y,A6 an.keep tm rs1 x=.ref u y->∃t∈F3 ops ⟨dst,.pick c a b,ty,pos,AJ,gd⟩,∃y,rs1.look an.keep tm t=.ref u y:=λx hx u y he=>by
  cases x with
  |tmp t =>
   refine⟨t,?_,y,he⟩;simp only[F3,Op.operands,Bn];left;simp only[Fb];refine⟨.tmp t,?_,rfl⟩;simp at hx ⊢;rcases hx with hx|hx
   ·simp[hx]
   ·simp[hx]
  |const v =>
   simp only[A6,gE] at he
   split at he
   ·cases he
   ·split at he<;>cases he
  |global=>simp[A6] at he
  |func=>simp[A6] at he
 cases t with
 |true =>
  obtain⟨x,e,h3,h4⟩:=ch ha e;exact .plain e (λR2 BP k2=>by simp only[aB,h2,h3]) (λu y he=>.inr (hm a (by simp) u y (h4 u y he)))
 |false =>
  obtain⟨x,e,h3,h4⟩:=ch hb e;exact .plain e (λR2 BP k2=>by simp only[aB,h2,h3]) (λu y he=>.inr (hm b (by simp) u y (h4 u y he)))
theorem lz{x:Operand}{i:Nat}(h:F0 ans an tm ops AA tk ⟨dst,.extract x i,ty,pos,AJ,gd⟩ rs1 rs2){kp:AVal->RS->Option R}{l:List Nat}(e:aB P ans an true AA l cf tm tk ⟨dst,.extract x i,ty,pos,AJ,gd⟩ rs1 kp k1=some r):Two P ans an tm ops AA tk cf ⟨dst,.extract x i,ty,pos,AJ,gd⟩ rs1 rs2 k1 r:=by
 have hx:=h.opd x (by simp[Op.operands]);simp only[aB] at e
 split at e
 ·rename_i vs hb
  obtain⟨u,hu,e⟩:=aH e;have h2:=hx.eq (by rw[hb];simp);rw[hb] at h2;exact .val e (λR2 BP k2=>by simp only[aB,h2,hu,Aq])
 ·cases e
theorem qN{t:TypeId}{x:Operand}(h:F0 ans an tm ops AA tk ⟨dst,.makeInterface t x,ty,pos,AJ,gd⟩ rs1 rs2){kp:AVal->RS->Option R}{l:List Nat}(e:aB P ans an true AA l cf tm tk ⟨dst,.makeInterface t x,ty,pos,AJ,gd⟩ rs1 kp k1=some r):Two P ans an tm ops AA tk cf ⟨dst,.makeInterface t x,ty,pos,AJ,gd⟩ rs1 rs2 k1 r:=by
 have hx:=h.opd x (by simp[Op.operands]);simp only[aB] at e
 split at e
 ·cases e
 ·rename_i d hd hu
  obtain⟨v,e,h2⟩:=o7 hx e;refine .val e (λR2 BP k2=>?_);simp only[aB,hu];exact h2 _ _
 ·cases e
end
section
variable {P:Program}{ans:FuncId->AF}{an:AF}{R:Type}{r:R}
variable {tm:List Slot}{rs1 rs2:RS}{k1:Slot->RS->Option R}{ops:Array Oper}{AA tk:Bool}{cf:aJ}{o:Oper}
variable {dst:Option Nat}{ty:TypeId}{pos:String}{AJ:Array Edge}{gd:Option (Nat×Bool)}{kp:AVal->RS->Option R}{l:List Nat}
theorem kO:∀{ps:List (Nat×Operand)}{k:List (Nat×AVal)->Option R},(∀p∈ps,agS (A6 an.keep tm rs1 p.2) (A6 an.keep tm rs2 p.2))->gF an.keep tm rs1 ps k=some r->∃l,k l=some r/\∀(R2:Type)(k2:List (Nat×AVal)->Option R2),gF an.keep tm rs2 ps k2=k2 l
 |[],k,h,e=>⟨[],e,λR2 k2=>rfl⟩
 |(i,x)::ps,k,h,e=>by
  simp only[gF] at e;obtain⟨v,e,h2⟩:=o7 (h (i,x) (by simp)) e;obtain⟨l,e,h3⟩:=kO (λp hp=>h p (by simp[hp])) e;exact⟨(i,v)::l,e,λR2 k2=>by simp only[gF,h2,h3]⟩
theorem qZ:∀{xs:List Operand}{k:List AVal->Option R},(∀x∈xs,agS (A6 an.keep tm rs1 x) (A6 an.keep tm rs2 x))->lZ an.keep tm rs1 xs k=some r->∃l,k l=some r/\∀(R2:Type)(k2:List AVal->Option R2),lZ an.keep tm rs2 xs k2=k2 l
 |[],k,h,e=>⟨[],e,λR2 k2=>rfl⟩
 |x::xs,k,h,e=>by
  simp only[lZ] at e;obtain⟨v,e,h2⟩:=o7 (h x (by simp)) e;obtain⟨l,e,h3⟩:=qZ (λp hp=>h p (by simp[hp])) e;exact⟨v::l,e,λR2 k2=>by simp only[lZ,h2,h3]⟩
theorem kX{x:Option Operand}{d:Int}{k:Int->Option R}(h:∀y,x=some y->agS (A6 an.keep tm rs1 y) (A6 an.keep tm rs2 y))(e:iY an.keep tm rs1 x d k=some r):∃n,k n=some r/\∀(R2:Type)(k2:Int->Option R2),iY an.keep tm rs2 x d k2=k2 n:=by
 cases x with
 |none=>exact⟨d,e,λR2 k2=>rfl⟩
 |some y =>
  simp only[iY] at e;obtain⟨a,b,e,h2⟩:=iG (h y rfl) e;exact⟨b,e,λR2 k2=>by simp only[iY,h2]⟩
theorem jK{x:Operand}{k:Place->Option R}(h:agS (A6 an.keep tm rs1 x) (A6 an.keep tm rs2 x))(e:cZ x (A6 an.keep tm rs1 x) k=some r) :
  ∃p,k p=some r/\(∀(R2:Type)(k2:Place->Option R2),cZ x (A6 an.keep tm rs2 x) k2=k2 p)/\(∀u y,p=.loc u y->x=.tmp u\/A6 an.keep tm rs1 x=.ref u y):=by
 rcases h with h|⟨c1,c2,h1,h2⟩
 ·rw[h]
  unfold cZ at e
  split at e
  ·split at e
   ·rename_i t hb
    exact⟨_,e,λR2 k2=>by simp only[cZ,hb],λu y he=>by cases he;exact .inl rfl⟩
   ·cases e
  ·rename_i hb
   exact⟨_,e,λR2 k2=>by simp only[cZ,hb],λu y he=>by cases he;exact .inr hb⟩
  ·rename_i hb
   exact⟨_,e,λR2 k2=>by simp only[cZ,hb],λu y he=>by cases he⟩
  ·rename_i hb
   exact⟨_,e,λR2 k2=>by simp only[cZ,hb],λu y he=>by cases he⟩
  ·rename_i hb
   exact⟨_,e,λR2 k2=>by simp only[cZ,hb],λu y he=>by cases he⟩
  ·cases e
 ·rw[h1] at e
  simp only[cZ] at e
  split at e
  ·exact⟨_,e,λR2 k2=>by simp only[cZ,h2],λu y he=>by cases he;exact .inl rfl⟩
  ·cases e
theorem nC{x:Operand}{t:Nat}{o:Oper}(h:x=.tmp t)(hx:x∈o.op.operands.toList):t∈F3 ops o:=by
 subst h;simp only[F3,Bn];left;simp only[Fb];exact⟨.tmp t,hx,rfl⟩
theorem pW{x:Operand}{rs:RS}{u y:Nat}(h:A6 an.keep tm rs x=.ref u y):∃t,x=.tmp t/\rs.look an.keep tm t=.ref u y:=by
 cases x with
 |tmp t=>exact⟨t,rfl,h⟩
 |const v =>
  simp only[A6,gE] at h
  split at h
  ·cases h
  ·split at h<;>cases h
 |global=>simp[A6] at h
 |func=>simp[A6] at h
theorem aA2{t:TypeId}{parts:Array (Nat×Operand)}(h:F0 ans an tm ops AA tk ⟨dst,.build t parts,ty,pos,AJ,gd⟩ rs1 rs2)(e:aB P ans an true AA l cf tm tk ⟨dst,.build t parts,ty,pos,AJ,gd⟩ rs1 kp k1=some r):Two P ans an tm ops AA tk cf ⟨dst,.build t parts,ty,pos,AJ,gd⟩ rs1 rs2 k1 r:=by
 have hp:∀p∈parts.toList,agS (A6 an.keep tm rs1 p.2) (A6 an.keep tm rs2 p.2):=λp hp=>h.opd p.2 (by simp only[Op.operands,Cm];exact⟨p,hp,rfl⟩)
 simp only[aB] at e;obtain⟨z,hz,e⟩:=aH e
 split at e
 ·rename_i fs hu
  obtain⟨l,e,h2⟩:=kO hp e;obtain⟨places,Mx,e⟩:=aH e;obtain⟨cs,hf,e⟩:=aH e;exact .plain e (λR2 BP k2=>by simp only[aB,hz,hu,h2,Mx,hf,Aq]) (λu x he=>by cases he)
 ·rename_i n el hu
  obtain⟨l,e,h2⟩:=kO hp e;obtain⟨s,hs,e⟩:=aH e;obtain⟨cs,hf,e⟩:=aH e;exact .plain e (λR2 BP k2=>by simp only[aB,hz,hu,h2,hs,hf,Aq]) (λu x he=>by cases he)
 ·cases e
theorem xO{t:TypeId}{len:Nat}{parts:Array (Nat×Operand)}(h:F0 ans an tm ops AA tk ⟨dst,.buildSlice t len parts,ty,pos,AJ,gd⟩ rs1 rs2)(e:aB P ans an true AA l cf tm tk ⟨dst,.buildSlice t len parts,ty,pos,AJ,gd⟩ rs1 kp k1=some r):Two P ans an tm ops AA tk cf ⟨dst,.buildSlice t len parts,ty,pos,AJ,gd⟩ rs1 rs2 k1 r:=by
 have hp:∀p∈parts.toList,agS (A6 an.keep tm rs1 p.2) (A6 an.keep tm rs2 p.2):=λp hp=>h.opd p.2 (by simp only[Op.operands,Cm];exact⟨p,hp,rfl⟩)
 simp only[aB] at e;obtain⟨el,J9,e⟩:=aH e;obtain⟨s,hs,e⟩:=aH e;obtain⟨hg,e⟩:=aA e;obtain⟨l,e,h2⟩:=kO hp e;obtain⟨z,hz,e⟩:=aH e;obtain⟨ES,e⟩:=aA e;obtain⟨xs,hf,e⟩:=aH e;exact .plain e (λR2 BP k2=>by simp only[aB,J9,hs,aD hg,h2,hz,aD ES,hf,Aq]) (λu x he=>by cases he)
theorem dy{fn:Fn}{first caps:Array Operand}(h:F0 ans an tm ops AA tk ⟨dst,.makeFunc fn first caps,ty,pos,AJ,gd⟩ rs1 rs2)(e:aB P ans an true AA l cf tm tk ⟨dst,.makeFunc fn first caps,ty,pos,AJ,gd⟩ rs1 kp k1=some r):Two P ans an tm ops AA tk cf ⟨dst,.makeFunc fn first caps,ty,pos,AJ,gd⟩ rs1 rs2 k1 r:=by
 have hp:∀p∈caps.toList,agS (A6 an.keep tm rs1 p) (A6 an.keep tm rs2 p):=λp hp=>h.opd p (by simp only[Op.operands,Array.toList_append,Bn];exact .inr hp)
 simp only[aB] at e
 split at e
 ·rename_i f hf
  obtain⟨l,e,h2⟩:=qZ hp e;exact .val e (λR2 BP k2=>by simp only[aB,hf,h2])
 ·cases e
theorem aA3{t:TypeId}{x:Operand}{lo hi mx:Option Operand}(h:F0 ans an tm ops AA tk ⟨dst,.slice t x lo hi mx,ty,pos,AJ,gd⟩ rs1 rs2)(e:aB P ans an true AA l cf tm tk ⟨dst,.slice t x lo hi mx,ty,pos,AJ,gd⟩ rs1 kp k1=some r):Two P ans an tm ops AA tk cf ⟨dst,.slice t x lo hi mx,ty,pos,AJ,gd⟩ rs1 rs2 k1 r:=by
 have hx:=h.opd x (by simp[Op.operands]);have AP:∀y,lo=some y->agS (A6 an.keep tm rs1 y) (A6 an.keep tm rs2 y):=λy hy=>h.opd y (by subst hy;simp[Op.operands])
 have Lc:∀y,hi=some y->agS (A6 an.keep tm rs1 y) (A6 an.keep tm rs2 y):=λy hy=>h.opd y (by subst hy;simp[Op.operands])
 have Qy:∀y,mx=some y->agS (A6 an.keep tm rs1 y) (A6 an.keep tm rs2 y):=λy hy=>h.opd y (by subst hy;simp[Op.operands])
 simp only[aB] at e
 split at e
 ·rename_i hu
  split at e
  ·rename_i s hb
   obtain⟨a,e,h3⟩:=kX AP e;obtain⟨b,e,h4⟩:=kX Lc e;obtain⟨hg,e⟩:=aA e;have h2:=hx.eq (by rw[hb];simp);rw[hb] at h2;exact .val e (λR2 BP k2=>by simp only[aB,hu,h2,h3,h4,aD hg])
  ·cases e
 ·rename_i el hu
  obtain⟨sz,BC,e⟩:=aH e;obtain⟨xs,e,h2⟩:=o6 hx e;obtain⟨a,e,h3⟩:=kX AP e;obtain⟨b,e,h4⟩:=kX Lc e;cases mx with
  |none =>
   simp only[e9] at e;obtain⟨hg,e⟩:=aA e;exact .val e (λR2 BP k2=>by simp only[aB,hu,BC,Aq,h2,h3,h4,e9,aD hg];rfl)
  |some u =>
   simp only at e;obtain⟨ku,mm,e,h5⟩:=iG (Qy u rfl) e;obtain⟨hg1,e⟩:=aA e;cases hi with
   |none=>cases e
   |some z =>
    simp only[e9] at e;obtain⟨hg,e⟩:=aA e;exact .plain e (λR2 BP k2=>by simp only[aB,hu,BC,Aq,h2,h3,h4,h5,aD hg1,e9,aD hg,Ds]) (λu x he=>by cases he)
 ·cases e
def aV(s:Slot):Option AVal:=DQ s some
theorem aJ5(s:Slot)(k:AVal->Option R):DQ s k=(aV s).bind k:=by cases s<;>rfl
def za(P:Program)(op:BinOp)(t:TypeId)(y:Operand)(sx sy:Slot):Option AVal :=
 match op,dP y with
 |.eql,true=>aL (e7 P t) ((cN sx).bind λb=>some (.bool b))
 |.neq,true=>aL (e7 P t) ((cN sx).bind λb=>some (.bool (!b)))
 |_,_ =>
  match op,isNilIface y,sx with
  |.eql,true,.val .nilif=>aL (pM P t) (some (.bool true))
  |.neq,true,.val .nilif=>aL (pM P t) (some (.bool false))
  |_,_,sx=>(aV sx).bind λa=>(aV sy).bind λb=>aL (gP P t a) (gN op a b)
theorem mB{α:Type}(b:Bool)(x:Option α)(f:α->Option R):(aL b x).bind f=aL b (x.bind f):=by cases b<;>rfl
theorem zN{op:BinOp}{t:TypeId}{x y:Operand}{fl:_}{drawn:Bool}(rs:RS)(k:Slot->RS->Option R):aB P ans an drawn AA l cf tm tk ⟨dst,.binOp op t x y fl,ty,pos,AJ,gd⟩ rs kp k=(za P op t y (A6 an.keep tm rs x) (A6 an.keep tm rs y)).bind λv=>k (.val v) rs:=by
 simp only[aB,za,aJ5];generalize dP y=b1;generalize isNilIface y=b2;generalize A6 an.keep tm rs x=sx;generalize A6 an.keep tm rs y=sy
 have fin:∀op,((aV sx).bind λa=>(aV sy).bind λb=>aL (gP P t a) ((gN op a b).bind λv=>k (.val v) rs))=((aV sx).bind λa=>(aV sy).bind λb=>aL (gP P t a) (gN op a b)).bind λv=>k (.val v) rs:=λop=>by
  simp only[Option.bind_assoc,mB]
 cases op<;>cases b1<;>first
  |exact fin _
  |(simp only[mB,Option.bind_assoc,Aq];done)
  |(cases b2<;>first
    |exact fin _
    |(cases sx<;>first
      |exact fin _
      |(rename_i v;cases v<;>first
        |exact fin _
        |(simp only[mB,Aq];done))))
theorem aBC{op:BinOp}{t:TypeId}{y:Operand}{c:List Cell}{sy:Slot}:za P op t y (.box c) sy=none:=by
 unfold za;split
 ·cases e7 P t<;>rfl
 ·cases e7 P t<;>rfl
 ·split
  ·exact absurd (show Slot.box c=Slot.val .nilif by assumption) (by simp)
  ·exact absurd (show Slot.box c=Slot.val .nilif by assumption) (by simp)
  ·rfl
theorem zb{op:BinOp}{t:TypeId}{y:Operand}{c:List Cell}{sx:Slot}(hy:∀v,y≠.const v):za P op t y sx (.box c)=none:=by
 have h1:dP y=false:=by unfold dP;split<;>first|rfl|exact absurd rfl (hy _)
 have h2:isNilIface y=false:=by unfold isNilIface;split<;>first|rfl|exact absurd rfl (hy _)
 unfold za;rw[h1,h2];cases op<;>simp[aV,DQ]
theorem aA1{op:BinOp}{t:TypeId}{x y:Operand}{fl:_}(h:F0 ans an tm ops AA tk ⟨dst,.binOp op t x y fl,ty,pos,AJ,gd⟩ rs1 rs2)(e:aB P ans an true AA l cf tm tk ⟨dst,.binOp op t x y fl,ty,pos,AJ,gd⟩ rs1 kp k1=some r):Two P ans an tm ops AA tk cf ⟨dst,.binOp op t x y fl,ty,pos,AJ,gd⟩ rs1 rs2 k1 r:=by
 have hx:=h.opd x (by simp[Op.operands]);have hy:=h.opd y (by simp[Op.operands]);rw[zN] at e;obtain⟨v,hv,e⟩:=aH e;have Ie:=hx.eq (λc hc=>by rw[hc,aBC] at hv;cases hv)
 have Qs:=hy.eq (λc hc=>by
  rw[hc,zb] at hv
  ·cases hv
  ·rintro v rfl
   simp only[A6,gE] at hc
   split at hc
   ·cases hc
   ·split at hc<;>cases hc)
 exact .val e (λR2 BP k2=>by rw[zN,Ie,Qs,hv];rfl)
theorem dz{x:Operand}(h:F0 ans an tm ops AA tk ⟨dst,.nilCheck x,ty,pos,AJ,gd⟩ rs1 rs2)(e:aB P ans an true AA l cf tm tk ⟨dst,.nilCheck x,ty,pos,AJ,gd⟩ rs1 kp k1=some r):Two P ans an tm ops AA tk cf ⟨dst,.nilCheck x,ty,pos,AJ,gd⟩ rs1 rs2 k1 r:=by
 have hx:=h.opd x (by simp[Op.operands]);simp only[aB] at e
 split at e
 ·rename_i c hb
  split at e
  ·rename_i t
   obtain⟨c2,h2⟩:∃c2,A6 an.keep tm rs2 (.tmp t)=.box c2:=by
    rcases hx with h|⟨_,c2,_,h⟩
    ·exact⟨c,h.trans hb⟩
    ·exact⟨c2,h⟩
   exact .plain e (λR2 BP k2=>by simp only[aB,h2]) (λu y he=>by cases he;exact .inl rfl)
  ·cases e
 ·rename_i u y hb
  have h2:=hx.eq (by rw[hb];simp);rw[hb] at h2;obtain⟨t,ht,hl⟩:=pW hb;exact .plain e (λR2 BP k2=>by simp only[aB,h2]) (λu' y' he=>by cases he;exact .inr ⟨t,nC ht (by simp[Op.operands]),y,hl⟩)
 ·rename_i i y hb
  have h2:=hx.eq (by rw[hb];simp);rw[hb] at h2;exact .val e (λR2 BP k2=>by simp only[aB,h2])
 ·rename_i v hb
  have h2:=hx.eq (by rw[hb];simp);rw[hb] at h2;exact .val e (λR2 BP k2=>by simp only[aB,h2])
 ·rename_i t' f a y z hb
  have h2:=hx.eq (by rw[hb];simp);rw[hb] at h2;exact .val e (λR2 BP k2=>by simp only[aB,h2])
 ·rename_i f cs hb
  have h2:=hx.eq (by rw[hb];simp);rw[hb] at h2;exact .val e (λR2 BP k2=>by simp only[aB,h2])
 ·cases e
theorem yN{t:TypeId}{x:Operand}{f:Nat}(h:F0 ans an tm ops AA tk ⟨dst,.fieldAddr t x f,ty,pos,AJ,gd⟩ rs1 rs2)(e:aB P ans an true AA l cf tm tk ⟨dst,.fieldAddr t x f,ty,pos,AJ,gd⟩ rs1 kp k1=some r):Two P ans an tm ops AA tk cf ⟨dst,.fieldAddr t x f,ty,pos,AJ,gd⟩ rs1 rs2 k1 r:=by
 have hx:=h.opd x (by simp[Op.operands]);simp only[aB] at e;obtain⟨ot,hf,e⟩:=aH e;obtain⟨s,hs,e⟩:=aH e;obtain⟨hg,e⟩:=aA e;obtain⟨p,e,h2,h3⟩:=jK hx e;cases p with
 |loc u y =>
  refine .plain e (λR2 BP k2=>by simp only[aB,hf,hs,Aq,aD hg,h2]) (λu' y' he=>?_);cases he;rcases h3 u y rfl with hh|hh
  ·subst hh;exact .inl rfl
  ·obtain⟨t',Sq,hl⟩:=pW hh
   exact .inr ⟨t',nC Sq (by simp[Op.operands]),y,hl⟩
 |obj i y=>exact .val e (λR2 BP k2=>by simp only[aB,hf,hs,Aq,aD hg,h2])
 |imm v =>
  simp only at e;obtain⟨agg,ha,e⟩:=aH e;obtain⟨u,hu,e⟩:=aH e;exact .val e (λR2 BP k2=>by simp only[aB,hf,hs,Aq,aD hg,h2,ha,hu])
theorem yO{t:TypeId}{x ix:Operand}(h:F0 ans an tm ops AA tk ⟨dst,.indexAddr t x ix,ty,pos,AJ,gd⟩ rs1 rs2)(e:aB P ans an true AA l cf tm tk ⟨dst,.indexAddr t x ix,ty,pos,AJ,gd⟩ rs1 kp k1=some r):Two P ans an tm ops AA tk cf ⟨dst,.indexAddr t x ix,ty,pos,AJ,gd⟩ rs1 rs2 k1 r:=by
 have hx:=h.opd x (by simp[Op.operands]);have hi:=h.opd ix (by simp[Op.operands]);simp only[aB] at e
 split at e
 ·rename_i el hu
  obtain⟨xs,e,h2⟩:=o6 hx e;obtain⟨kd,n,e,h3⟩:=iG hi e;obtain⟨s,hs,e⟩:=aH e;obtain⟨hg,e⟩:=aA e;obtain⟨v,hv,e⟩:=aH e;obtain⟨ES,e⟩:=aA e;exact .val e (λR2 BP k2=>by simp only[aB,hu,h2,h3,hs,Aq,aD hg,hv,aD ES])
 ·rename_i len el hu
  obtain⟨p,e,h2,h3⟩:=jK hx e;obtain⟨kd,n,e,h4⟩:=iG hi e;obtain⟨s,hs,e⟩:=aH e;obtain⟨hg,e⟩:=aA e;cases p with
  |loc u y =>
   refine .plain e (λR2 BP k2=>by simp only[aB,hu,hs,Aq,aD hg,h2,h4]) (λu' y' he=>?_);cases he;rcases h3 u y rfl with hh|hh
   ·subst hh;exact .inl rfl
   ·obtain⟨t',Sq,hl⟩:=pW hh
    exact .inr ⟨t',nC Sq (by simp[Op.operands]),y,hl⟩
  |obj i y=>exact .val e (λR2 BP k2=>by simp only[aB,hu,hs,Aq,aD hg,h2,h4])
  |imm v =>
   simp only at e;obtain⟨agg,ha,e⟩:=aH e;obtain⟨u,HN,e⟩:=aH e;exact .val e (λR2 BP k2=>by simp only[aB,hu,hs,Aq,aD hg,h2,h4,ha,HN])
 ·cases e
theorem wh{x:Operand}{ty:TypeId}(h:agS (A6 an.keep tm rs1 x) (A6 an.keep tm rs2 x))(e:GU P an tm tk ty x rs1 k1=some r) :
  ∃s puts,k1 s ⟨puts++rs1.sc,rs1.sto⟩=some r/\(∀(R2:Type)(k2:Slot->RS->Option R2),GU P an tm tk ty x rs2 k2=k2 s ⟨puts++rs2.sc,rs2.sto⟩) /\
   (puts=[]\/∃t v,x=.tmp t/\(tk||!an.keep.contains t)=true/\puts=[(t,.val v)])/\∀u y,s=.ref u y->A6 an.keep tm rs1 x=.ref u y:=by
 unfold GU at e
 split at e
 ·rename_i t
  split at e
  ·rename_i sz xs BK
   have h2:=h.eq (by rw[BK];simp);rw[BK] at h2
   split at e
   ·rename_i hk
    exact⟨_,[(t,.val (.slice xs))],e,λR2 k2=>by simp only[GU,h2,hk];rfl,.inr ⟨t,_,rfl,hk,rfl⟩,λu y he=>by cases he⟩
   ·rename_i hk
    exact⟨_,[],e,λR2 k2=>by simp only[GU,h2,hk];rfl,.inl rfl,λu y he=>by cases he⟩
  ·rename_i cs BK
   have h2:=h.eq (by rw[BK];simp);rw[BK] at h2
   split at e
   ·rename_i hk
    exact⟨_,[(t,.val (.agg (cs.map Cell.get)))],e,λR2 k2=>by simp only[GU,h2,hk];rfl,.inr ⟨t,_,rfl,hk,rfl⟩,λu y he=>by cases he⟩
   ·rename_i hk
    exact⟨_,[],e,λR2 k2=>by simp only[GU,h2,hk];rfl,.inl rfl,λu y he=>by cases he⟩
  ·rename_i F8 L8
   have hs:=h.eq (λc hc=>by rw[hc] at e;simp[mv] at e);obtain⟨s,e,h2,h3⟩:=ch h e;refine⟨s,[],e,λR2 k2=>?_,.inl rfl,h3⟩;show GU P an tm tk ty (.tmp t) rs2 k2=k2 s rs2;rw[<-h2 R2 (λs'=>k2 s' rs2)];simp only[GU,hs]
 ·rename_i v
  split at e
  ·cases e
  ·rename_i hd
   refine⟨_,[],e,λR2 k2=>?_,.inl rfl,λu y he=>?_⟩
   ·simp only[GU];rfl
   ·unfold l6 at he
    split at he
    ·split at he<;>cases he
    ·unfold gE at he;split at he
     ·cases he
     ·split at he<;>cases he
 ·rename_i Lz Ie
  obtain⟨s,e,h2,h3⟩:=ch h e;refine⟨s,[],e,λR2 k2=>?_,.inl rfl,h3⟩;cases x with
  |tmp t=>exact absurd rfl (Lz t)
  |const v=>exact absurd rfl (Ie v)
  |global g=>exact h2 R2 (λs'=>k2 s' rs2)
  |func f=>exact h2 R2 (λs'=>k2 s' rs2)
theorem aEn{x:Operand}(h:F0 ans an tm ops AA tk ⟨dst,.move x,ty,pos,AJ,gd⟩ rs1 rs2)(e:aB P ans an true AA l cf tm tk ⟨dst,.move x,ty,pos,AJ,gd⟩ rs1 kp k1=some r):Two P ans an tm ops AA tk cf ⟨dst,.move x,ty,pos,AJ,gd⟩ rs1 rs2 k1 r:=by
 have hx:=h.opd x (by simp[Op.operands]);simp only[aB] at e;obtain⟨s,puts,e,h2,h3,h4⟩:=wh hx e;refine⟨s,puts,id,e,λR2 BP k2=>by simp only[aB];exact h2 R2 k2,?_,?_,λu y he=>?_,rfl⟩
 ·rcases h3 with rfl|⟨t,v,rfl,hk,rfl⟩
  ·simp
  ·intro p hp;simp at hp;subst hp;left;simp only[cons,hk,Ds];simp
 ·rcases h3 with rfl|⟨t,v,rfl,hk,rfl⟩
  ·simp
  ·intro p hp u y;simp at hp;subst hp;simp
 ·obtain⟨t,ht,hl⟩:=pW (h4 u y he)
  exact .inr ⟨t,nC ht (by simp[Op.operands]),y,hl⟩
theorem ry{x:Operand}(h:F0 ans an tm ops AA tk ⟨dst,.assign x,ty,pos,AJ,gd⟩ rs1 rs2)(e:aB P ans an true AA l cf tm tk ⟨dst,.assign x,ty,pos,AJ,gd⟩ rs1 kp k1=some r):Two P ans an tm ops AA tk cf ⟨dst,.assign x,ty,pos,AJ,gd⟩ rs1 rs2 k1 r:=by
 have hx:=h.opd x (by simp[Op.operands]);simp only[aB] at e;obtain⟨s,puts,e,h2,h3,h4⟩:=wh hx e;refine⟨s,puts,id,e,λR2 BP k2=>by simp only[aB];exact h2 R2 k2,?_,?_,λu y he=>?_,rfl⟩
 ·rcases h3 with rfl|⟨t,v,rfl,hk,rfl⟩
  ·simp
  ·intro p hp;simp at hp;subst hp;left;simp only[cons,hk,Ds];simp
 ·rcases h3 with rfl|⟨t,v,rfl,hk,rfl⟩
  ·simp
  ·intro p hp u y;simp at hp;subst hp;simp
 ·obtain⟨t,ht,hl⟩:=pW (h4 u y he)
  exact .inr ⟨t,nC ht (by simp[Op.operands]),y,hl⟩
theorem aA0{t:TypeId}(h:F0 ans an tm ops AA tk ⟨dst,.alloc t,ty,pos,AJ,gd⟩ rs1 rs2)(e:aB P ans an true AA l cf tm tk ⟨dst,.alloc t,ty,pos,AJ,gd⟩ rs1 kp k1=some r):Two P ans an tm ops AA tk cf ⟨dst,.alloc t,ty,pos,AJ,gd⟩ rs1 rs2 k1 r:=by
 simp only[aB] at e;obtain⟨z,hz,e⟩:=aH e;obtain⟨s,hs,e⟩:=aH e;obtain⟨hg,e⟩:=aA e;cases dst with
 |none=>cases e
 |some d =>
  cases hl:an.loc.contains d with
  |true =>
   simp only[hl] at e;exact .plain e (λR2 BP k2=>by simp only[aB,hz,hs,Aq,aD hg,hl]) (λu y he=>by cases he)
  |false =>
   simp only[hl] at e;have CJ:cI ans an.loc ops AA tk ⟨some d,.alloc t,ty,pos,AJ,gd⟩=.w:=by simp only[cI,hl];rfl
   have A7:rs2.sto=rs1.sto:=by have:=h.sto;rw[CJ] at this;exact this
   refine⟨_,[],λsto=>{ sto with objs:=sto.objs++[.box z] },e,λR2 BP k2=>?_,by simp,by simp,(λu y he=>by cases he),by rw[CJ];trivial⟩;simp only[aB,hz,hs,Aq,aD hg,hl,A7];rfl
end
section
variable {P:Program}{ans:FuncId->AF}{an:AF}{R:Type}{r:R}
variable {tm:List Slot}{rs1 rs2:RS}{k1:Slot->RS->Option R}{ops:Array Oper}{AA tk:Bool}{cf:aJ}{o:Oper}
variable {dst:Option Nat}{ty:TypeId}{pos:String}{AJ:Array Edge}{gd:Option (Nat×Bool)}{kp:AVal->RS->Option R}
theorem jJ{x:Operand}{k:List Cell->RS->Option R}(h:agS (A6 an.keep tm rs1 x) (A6 an.keep tm rs2 x))(e:dJ an.keep tm rs1 x k=some r) :
  ∃cs puts,k cs ⟨puts++rs1.sc,rs1.sto⟩=some r/\(∀(R2:Type)(k2:List Cell->RS->Option R2),dJ an.keep tm rs2 x k2=k2 cs ⟨puts++rs2.sc,rs2.sto⟩) /\
   (puts=[]\/∃t v,x=.tmp t/\an.keep.contains t=false/\puts=[(t,.val v)]):=by
 have h2:=h.eq (λc hc=>by unfold dJ at e;rw[hc] at e;simp[DQ] at e);unfold dJ at e
 split at e
 ·rename_i sz xs t BK
  rw[BK] at h2;cases hk:an.keep.contains t with
  |true =>
   simp only[hk] at e;exact⟨_,[],e,λR2 k2=>by simp only[dJ,h2,hk];rfl,.inl rfl⟩
  |false =>
   simp only[hk] at e;exact⟨_,[(t,.val (.slice xs))],e,λR2 k2=>by simp only[dJ,h2,hk];rfl,.inr ⟨t,_,rfl,hk,rfl⟩⟩
 ·rename_i sz v BK
  rw[BK] at h2;exact⟨_,[],e,λR2 k2=>by simp only[dJ,h2];rfl,.inl rfl⟩
 ·rename_i cs t BK
  rw[BK] at h2;cases hk:an.keep.contains t with
  |true =>
   simp only[hk] at e;exact⟨_,[],e,λR2 k2=>by simp only[dJ,h2,hk];rfl,.inl rfl⟩
  |false =>
   simp only[hk] at e;exact⟨_,[(t,.val (.agg (cs.map Cell.get)))],e,λR2 k2=>by simp only[dJ,h2,hk];rfl,.inr ⟨t,_,rfl,hk,rfl⟩⟩
 ·rename_i F8 L8 G2
  obtain⟨v,e,h3⟩:=o7 (.inl rfl) e;refine⟨_,[],e,λR2 k2=>?_,.inl rfl⟩;show dJ an.keep tm rs2 _ k2=k2 (v.cells.map .val) rs2;unfold dJ;rw[h2];split
  ·rename_i sz xs t BK;exact(F8 _ _ _ BK rfl).elim
  ·rename_i sz v BK;exact(L8 _ _ BK rfl).elim
  ·rename_i cs t BK;exact(G2 _ _ BK rfl).elim
  ·exact h3 R2 _
theorem ew{s:Slot}{k:List Cell->Option R}(e:oY s k=some r):∃cs,s=.box cs/\k cs=some r:=by
 unfold oY at e
 split at e
 ·exact⟨_,rfl,e⟩
 ·cases e
theorem ey{o:Option AObj}{k:List Cell->Option R}(e:oZ o k=some r):∃cs,o=some (.box cs)/\k cs=some r:=by
 unfold oZ at e
 split at e
 ·exact⟨_,rfl,e⟩
 ·cases e
theorem ae{t0:TypeId}{x:Operand}{k:List Cell->RS->Option R}(h:agS (A6 an.keep tm rs1 x) (A6 an.keep tm rs2 x))(e:eH P t0 an.keep tm rs1 x k=some r) :
  ∃cs puts,k cs ⟨puts++rs1.sc,rs1.sto⟩=some r/\(∀(R2:Type)(k2:List Cell->RS->Option R2),eH P t0 an.keep tm rs2 x k2=k2 cs ⟨puts++rs2.sc,rs2.sto⟩) /\
   (puts=[]\/∃t v,x=.tmp t/\an.keep.contains t=false/\puts=[(t,.val v)]):=by
 unfold eH at e
 split at e
 ·rename_i BK
  obtain⟨el,h1,e⟩:=aH e;obtain⟨sz,h2,e⟩:=aH e;have hop2:A6 an.keep tm rs2 x=.nl:=(h.eq (λc hc=>by rw[BK] at hc;cases hc)).trans BK;exact⟨_,[],e,λR2 k2=>by unfold eH;rw[hop2];simp only[h1,h2,Aq];rfl,.inl rfl⟩
 ·rename_i hn
  obtain⟨cs,puts,a1,a2,a3⟩:=jJ h e;refine⟨cs,puts,a1,λR2 k2=>?_,a3⟩;rw[<-a2 R2 k2]
  have L8:A6 an.keep tm rs2 x≠.nl:=λhc=>by
   rcases h with h|⟨c1,c2,_,h⟩
   ·exact hn (h.symm.trans hc)
   ·rw[h] at hc;cases hc
  unfold eH;split
  ·rename_i hc;exact absurd hc L8
  ·rfl
theorem isEmpty_nil{α:Type}{l:List α}(h:l.isEmpty=true):l=[]:=by cases l<;>simp_all
theorem contains_cons{l:List Nat}{u:Nat}(h:l.contains u=true):u∈l/\∃a m,l=a::m:=by
 have hm:u∈l:=by simpa using h
 exact⟨hm,by cases l with|nil=>simp at hm|cons a m=>exact⟨a,m,rfl⟩⟩
theorem aHx{t:TypeId}{x:Operand}{l:List Nat}(h:F0 ans an tm ops AA tk ⟨dst,.box t x,ty,pos,AJ,gd⟩ rs1 rs2)(e:aB P ans an true AA l cf tm tk ⟨dst,.box t x,ty,pos,AJ,gd⟩ rs1 kp k1=some r):Two P ans an tm ops AA tk cf ⟨dst,.box t x,ty,pos,AJ,gd⟩ rs1 rs2 k1 r:=by
 have hx:=h.opd x (by simp[Op.operands]);simp only[aB] at e;obtain⟨cs,puts,e,h2,h3⟩:=ae hx e;obtain⟨s,hs,e⟩:=aH e;obtain⟨hg,e⟩:=aA e
 have EP:∀p∈puts,p.1∈cons an.keep tk ⟨dst,.box t x,ty,pos,AJ,gd⟩:=λp hp=>by
  rcases h3 with rfl|⟨t',v,rfl,hk,rfl⟩
  ·simp at hp
  ·simp at hp;subst hp
   simp only[cons,hk];simp
 have JO:∀p∈puts,∀u y,p.2≠.ref u y:=λp hp u y=>by
  rcases h3 with rfl|⟨t',v,rfl,hk,rfl⟩
  ·simp at hp
  ·simp at hp;subst hp;simp
 cases dst with
 |none=>cases e
 |some d =>
  cases hl:an.loc.contains d with
  |true =>
   simp only[hl] at e;have CJ:cI ans an.loc ops AA tk ⟨some d,.box t x,ty,pos,AJ,gd⟩=.p:=by simp only[cI,hl,Bool.true_or,Ds]
   refine⟨_,puts,id,e,λR2 BP k2=>?_,λp hp=>.inl (EP p hp),JO,(λu y he=>by cases he),by rw[CJ]⟩;simp only[aB,h2,hs,Aq,aD hg,hl];rfl
  |false =>
   simp only[hl] at e;cases FV:tk with
   |true =>
    subst FV;have CJ:cI ans an.loc ops AA true ⟨some d,.box t x,ty,pos,AJ,gd⟩=.p:=by simp only[cI,Bool.or_true,Ds]
    cases I1:cs.all lQ with
    |true =>
     rw[I1] at e;refine⟨_,puts,id,e,λR2 BP k2=>?_,λp hp=>.inl (EP p hp),JO,(λu y he=>by cases he),by rw[CJ]⟩;simp only[aB,h2,hs,Aq,aD hg,hl,I1];rfl
    |false =>
     rw[I1] at e;obtain⟨ES,e⟩:=aA e;simp at ES
   |false =>
   subst FV;obtain⟨ES,e⟩:=aA e;have CJ:cI ans an.loc ops AA false ⟨some d,.box t x,ty,pos,AJ,gd⟩=.w:=by simp only[cI,hl];rfl
   have A7:rs2.sto=rs1.sto:=by have:=h.sto;rw[CJ] at this;exact this
   refine⟨_,puts,λsto=>{ sto with objs:=sto.objs++[.box cs] },e,λR2 BP k2=>?_,λp hp=>.inl (EP p hp),JO,(λu y he=>by cases he),by rw[CJ];trivial⟩;simp only[aB,h2,hs,Aq,aD hg,hl,A7,Fz,aD ES];try rfl
theorem aA4{t:TypeId}{a x:Operand}(h:F0 ans an tm ops AA tk ⟨dst,.store t a x,ty,pos,AJ,gd⟩ rs1 rs2)(e:aB P ans an true AA (eG an.loc ops.toList ops.size a) cf tm tk ⟨dst,.store t a x,ty,pos,AJ,gd⟩ rs1 kp k1=some r):Two P ans an tm ops AA tk cf ⟨dst,.store t a x,ty,pos,AJ,gd⟩ rs1 rs2 k1 r:=by
 have ha:=h.opd a (by simp[Op.operands]);have hx:=h.opd x (by simp[Op.operands]);simp only[aB] at e;cases tk with
 |true =>
  obtain⟨hg,e⟩:=aA e;obtain⟨i,j,tI,f,g,y,z,h1,h2,h3,h4,h5,h6,h7,h8,h9,e⟩:=gl e;have JW:eG an.loc ops.toList ops.size a=[]:=isEmpty_nil (by simpa using hg);have CJ:cI ans an.loc ops AA true ⟨dst,.store t a x,ty,pos,AJ,gd⟩=.w:=by simp only[cI,JW]
  have A7:rs2.sto=rs1.sto:=by have:=h.sto;rw[CJ] at this;exact this
  have NI:=ha.eq (by rw[h1];simp);have Ie:=hx.eq (by rw[h2];simp);rw[h1] at NI;rw[h2] at Ie;refine⟨.dead,[],λsto=>{ sto with objs:=(sto.objs.set i (.frz (.rc tI f g y z))).set j (.frz (.cptr (.agg [.str g,y,.rc tI f g y z]))) },e,λR2 BP k2=>?_,by simp,by simp,(λu y he=>by cases he),by rw[CJ];trivial⟩
  have MY:(Nat.beq 1 1&&Nat.beq i i&&Nat.blt i j&&Nat.ble rs1.sto.lo i&&flat z&&flat y)=true:=by
   rw[h8,h9,Cj,Cj,show Nat.blt i j=true from by simpa[Ct] using h6,Ah h7];rfl
  simp only[aB,addrOf,aD hg,ov,NI,Ie,A7,h3,h4,h5,Aq,aD MY];try rfl
 |false =>
 simp only at e;obtain⟨p,e,h2,_⟩:=jK ha e
 have EP:∀puts:List (Nat×Slot),(puts=[]\/∃t v,x=.tmp t/\an.keep.contains t=false/\puts=[(t,.val v)])->(∀p∈puts,p.1∈cons an.keep false ⟨dst,.store t a x,ty,pos,AJ,gd⟩)/\∀p∈puts,∀u y,p.2≠.ref u y:=λputs h3=>by
  rcases h3 with rfl|⟨t',v,rfl,hk,rfl⟩
  ·simp
  ·refine⟨λp hp=>?_,λp hp u y=>?_⟩
   ·simp at hp;subst hp;simp only[cons,hk];simp
   ·simp at hp;subst hp;simp
 cases p with
 |loc u y =>
  simp only[bM] at e;obtain⟨hr,e⟩:=aA e;obtain⟨hm,a0,m0,HX⟩:=contains_cons hr;simp only[aW] at e;obtain⟨cs,CK,e⟩:=ew e;obtain⟨s,hs,e⟩:=aH e;obtain⟨new,puts,e,h4,h5⟩:=jJ hx e;obtain⟨hg,e⟩:=aA e;simp only[bR] at e;have hw2:rs2.look an.keep tm u=.box cs:=(h.wb u (.inl hm)).trans CK;have CJ:cI ans an.loc ops AA false ⟨dst,.store t a x,ty,pos,AJ,gd⟩=.p:=by simp only[cI,HX]
  obtain⟨k3,k4⟩:=EP puts h5;refine⟨.dead,(u,.box (setCells cs y new))::puts,id,e,λR2 BP k2=>?_,λp hp=>?_,λp hp u' y'=>?_,(λu y he=>by cases he),by rw[CJ]⟩
  ·simp only[aB,addrOf,h2,bM,aD hr,aW,hw2,oY,hs,Aq,h4,aD hg,bR];rfl
  ·rcases Au.1 hp with rfl|hp
   ·exact .inr (.inl ⟨hm,cs,_,CK,rfl⟩)
   ·exact .inl (k3 p hp)
  ·rcases Au.1 hp with rfl|hp
   ·simp
   ·exact k4 p hp u' y'
 |obj i y =>
  simp only[bM] at e;obtain⟨hr,e⟩:=aA e;have JW:=isEmpty_nil hr;have CJ:cI ans an.loc ops AA false ⟨dst,.store t a x,ty,pos,AJ,gd⟩=.w:=by simp only[cI,JW]
  have A7:rs2.sto=rs1.sto:=by have:=h.sto;rw[CJ] at this;exact this
  simp only[aW] at e;obtain⟨cs,CK,e⟩:=ey e;obtain⟨s,hs,e⟩:=aH e;obtain⟨new,puts,e,h4,h5⟩:=jJ hx e;obtain⟨hg,e⟩:=aA e;simp only[bR] at e;obtain⟨ES,e⟩:=aA e;obtain⟨k3,k4⟩:=EP puts h5;refine⟨.dead,puts,λsto=>{ sto with objs:=sto.objs.set i (.box (setCells cs y new)) },e,λR2 BP k2=>?_,λp hp=>.inl (k3 p hp),k4,(λu y he=>by cases he),by rw[CJ];trivial⟩;simp only[aB,addrOf,h2,bM,aD hr,aW,A7,CK,oZ,hs,Aq,h4,aD hg,bR,aD ES];try rfl
 |imm v =>
  simp only[bM] at e;obtain⟨hr,e⟩:=aA e;simp only[aW] at e;obtain⟨s,hs,e⟩:=aH e;obtain⟨new,puts,e,h4,h5⟩:=jJ hx e;obtain⟨hg,e⟩:=aA e;simp[bR] at e
def nY(agg:Bool)(s:Nat)(cs:List Cell)(off:Nat)(k:AVal->Option R):Option R :=
 match agg with
 |true=>(partOf true (cs.map Cell.get) off s).bind k
 |false=>aL (Nat.beq s 1) ((cs[off]?).bind λc=>k c.get)
theorem sC{agg:Bool}{s:Nat}{cs BT:List Cell}{off:Nat}{k:AVal->Option R}(h:BT.map Cell.get=cs.map Cell.get):nY agg s BT off k=nY agg s cs off k:=by
 unfold nY;split
 ·rw[h]
 ·congr 1
  have h1:(BT[off]?).map Cell.get=(cs[off]?).map Cell.get:=by
   rw[<-Av,<-Av,h]
  cases h2:BT[off]? with
  |none=>rw[h2] at h1;cases h3:cs[off]? with
   |none=>rfl
   |some c=>rw[h3] at h1;cases h1
  |some c'=>rw[h2] at h1;cases h3:cs[off]? with
   |none=>rw[h3] at h1;cases h1
   |some c=>rw[h3] at h1;simp at h1;simp[h1]
theorem rK{agg:Bool}{s:Nat}{cs:List Cell}{off:Nat}{k:AVal->Option R}(e:nY agg s cs off k=some r):∃v,k v=some r/\∀(R2:Type)(k2:AVal->Option R2),nY agg s cs off k2=k2 v:=by
 unfold nY at e;cases agg with
 |true =>
  simp only at e;obtain⟨v,hv,e⟩:=aH e;exact⟨v,e,λR2 k2=>by simp only[nY,hv,Aq]⟩
 |false =>
  simp only at e;obtain⟨hg,e⟩:=aA e;obtain⟨c,hc,e⟩:=aH e;exact⟨c.get,e,λR2 k2=>by simp only[nY,aD hg,hc,Aq]⟩
def loadT(tk:Bool)(agg:Bool)(s:Nat)(rs:RS)(p:Place)(cs:List Cell)(off:Nat)(k:Slot->RS->Option R):Option R :=
 match agg with
 |true=>(partOf true (cs.map Cell.get) off s).bind λv=>k (.val v) rs
 |false=>aL (Nat.beq s 1) (match tk,cs[off]? with
  |true,some (.own sz xs)=>bR rs p (cs.set off (.val (.slice xs))) λAX=>k (.own sz xs) AX
  |_,c=>c.bind λc=>k (.val c.get) rs)
theorem fK{agg:Bool}{s:Nat}{rs:RS}{p:Place}{cs:List Cell}{off:Nat}{k:Slot->RS->Option R}(h:tk=false\/agg=true\/∀sz xs,cs[off]?≠some (.own sz xs)):loadT tk agg s rs p cs off k=nY agg s cs off λv=>k (.val v) rs:=by
 unfold loadT nY;cases agg with
 |true=>rfl
 |false =>
  simp only;congr 1;cases tk with
  |false=>rfl
  |true =>
   rcases h with h|h|h
   ·cases h
   ·cases h
   ·split
    ·rename_i hh;exact absurd hh (h _ _)
    ·rfl
theorem sH{cs:List Cell}{off sz:Nat}{xs:List AVal}(h:cs[off]?=some (.own sz xs)):(cs.set off (.val (.slice xs))).map Cell.get=cs.map Cell.get:=by
 apply Fg;intro i;simp only[Av,Cb];split
 ·rename_i hi;subst hi
  split
  ·rw[h];rfl
  ·rename_i hl;rw[Du.2 (by omega)]
 ·rfl
def aSo(tk:Bool):Cls:=bif tk then .t else .r
theorem aEm{t:TypeId}{a:Operand}(h:F0 ans an tm ops AA tk ⟨dst,.load t a,ty,pos,AJ,gd⟩ rs1 rs2)(e:aB P ans an true AA (eG an.loc ops.toList ops.size a) cf tm tk ⟨dst,.load t a,ty,pos,AJ,gd⟩ rs1 kp k1=some r):Two P ans an tm ops AA tk cf ⟨dst,.load t a,ty,pos,AJ,gd⟩ rs1 rs2 k1 r:=by
 have ha:=h.opd a (by simp[Op.operands]);simp only[aB] at e;obtain⟨p,e,h2,_⟩:=jK ha e
 have BS:∀(R2:Type)(BP:AVal->RS->Option R2)(k2:Slot->RS->Option R2),aB P ans an true AA (eG an.loc ops.toList ops.size (addrOf ⟨dst,.load t a,ty,pos,AJ,gd⟩)) cf tm tk ⟨dst,.load t a,ty,pos,AJ,gd⟩ rs2 BP k2 =
   bM true (eG an.loc ops.toList ops.size a) p (fV AA p (aW an.keep tm rs2 p λcs off=>(aP P t).bind λs=>(aM P t).bind λagg=>loadT tk agg s rs2 p cs off k2)):=λR2 BP k2=>by
  simp only[aB,addrOf,h2]
  try rfl
 have e:bM true (eG an.loc ops.toList ops.size a) p (fV AA p (aW an.keep tm rs1 p λcs off=>(aP P t).bind λs=>(aM P t).bind λagg=>loadT tk agg s rs1 p cs off k1))=some r:=e;cases p with
 |loc u y =>
  simp only[bM] at e;obtain⟨hr,e⟩:=aA e;obtain⟨hm,a0,m0,HX⟩:=contains_cons hr;cases AA with
  |true=>cases e
  |false =>
  simp only[fV] at e BS;simp only[aW] at e;obtain⟨cs,CK,e⟩:=ew e;obtain⟨s,hs,e⟩:=aH e;obtain⟨agg,D4,e⟩:=aH e;have CJ:cI ans an.loc ops false tk ⟨dst,.load t a,ty,pos,AJ,gd⟩=.p:=by simp only[cI,HX]
  by_cases hp:tk=false\/agg=true\/∀sz xs,cs[y]?≠some (.own sz xs)
  ·rw[fK hp] at e
   obtain⟨v,e,h3⟩:=rK e;obtain⟨NQ,Ik,MO⟩:=h.rb u hm cs CK;refine .val e λR2 BP k2=>?_
   rw[BS];simp only[bM,aD hr,aW,Ik,oY,hs,D4,Aq]
   have Ix:tk=false\/agg=true\/∀sz xs,NQ[y]?≠some (.own sz xs):=by
    cases FV:tk with
    |false=>exact .inl rfl
    |true =>
     have hw:=h.wb u (.inr (by simp only[G6,FV,Ds];exact hm));rw[CK,Ik] at hw;cases hw;rw[FV] at hp;exact hp
   rw[fK Ix,sC MO];exact h3 R2 _
  ·have FV:tk=true:=by cases tk<;>simp_all
   have hag:agg=false:=by cases agg<;>simp_all
   obtain⟨sz,xs,DN⟩:∃sz xs,cs[y]?=some (.own sz xs):=by
    apply Fy;intro hn;exact hp (.inr (.inr λsz xs hh=>hn ⟨sz,xs,hh⟩))
   have XS:u∈G6 an.loc ops tk ⟨dst,.load t a,ty,pos,AJ,gd⟩:=by simp only[G6,FV,Ds];exact hm
   have Ik:=(h.wb u (.inr XS)).trans CK;subst hag;simp only[loadT,FV,DN] at e;obtain⟨hg,e⟩:=aA e;simp only[bR] at e;refine⟨.own sz xs,[(u,.box (cs.set y (.val (.slice xs))))],id,e,λR2 BP k2=>?_,λp hp=>?_,λp hp u' y'=>?_,(λu y he=>by cases he),by rw[CJ]⟩
   ·rw[BS]
    simp only[bM,aD hr,aW,Ik,oY,hs,D4,Aq,loadT,FV,DN,aD hg,bR];rfl
   ·simp at hp;subst hp
    exact .inr (.inr ⟨XS,cs,_,CK,rfl,sH DN⟩)
   ·simp at hp;subst hp;simp
 |obj i y =>
  simp only[bM] at e;obtain⟨hr,e⟩:=aA e;have JW:=isEmpty_nil hr;cases AA with
  |true=>cases e
  |false =>
  simp only[fV] at e BS;simp only[aW] at e;obtain⟨cs,CK,e⟩:=ey e;obtain⟨s,hs,e⟩:=aH e;obtain⟨agg,D4,e⟩:=aH e;have CJ:cI ans an.loc ops false tk ⟨dst,.load t a,ty,pos,AJ,gd⟩=aSo tk:=by simp only[cI,JW];cases tk<;>rfl
  by_cases hp:tk=false\/agg=true\/∀sz xs,cs[y]?≠some (.own sz xs)
  ·rw[fK hp] at e
   obtain⟨v,e,h3⟩:=rK e
   obtain⟨NQ,Ik,MO,Ix⟩:∃NQ,rs2.sto.objs[i]?=some (.box NQ)/\NQ.map Cell.get=cs.map Cell.get/\(tk=false\/agg=true\/∀sz xs,NQ[y]?≠some (.own sz xs)):=by
    have A7:=h.sto;rw[CJ] at A7;cases FV:tk with
    |true =>
     rw[FV] at A7;have A7:rs2.sto=rs1.sto:=A7;exact⟨cs,by rw[A7];exact CK,rfl,by rw[FV] at hp;exact hp⟩
    |false =>
     rw[FV] at A7;have A7:stoAg rs1.sto rs2.sto:=A7;rcases A7.objs i with h'|⟨c1,c2,h',Lj,hm⟩
     ·exact⟨cs,by rw[h'];exact CK,rfl,.inl rfl⟩
     ·rw[CK] at h';cases h'
      exact⟨c2,Lj,hm,.inl rfl⟩
   refine .val e λR2 BP k2=>?_
   rw[BS];simp only[bM,aD hr,aW,Ik,oZ,hs,D4,Aq];rw[fK Ix,sC MO];exact h3 R2 _
  ·have FV:tk=true:=by cases tk<;>simp_all
   have hag:agg=false:=by cases agg<;>simp_all
   obtain⟨sz,xs,DN⟩:∃sz xs,cs[y]?=some (.own sz xs):=by
    apply Fy;intro hn;exact hp (.inr (.inr λsz xs hh=>hn ⟨sz,xs,hh⟩))
   have A7:rs2.sto=rs1.sto:=by have:=h.sto;rw[CJ,FV] at this;exact this
   subst hag;simp only[loadT,FV,DN] at e;obtain⟨hg,e⟩:=aA e;simp only[bR] at e;obtain⟨ES,e⟩:=aA e;refine⟨.own sz xs,[],λsto=>{ sto with objs:=sto.objs.set i (.box (cs.set y (.val (.slice xs)))) },e,λR2 BP k2=>?_,by simp,by simp,(λu y he=>by cases he),?_⟩
   ·rw[BS]
    simp only[bM,aD hr,aW,A7,CK,oZ,hs,D4,Aq,loadT,FV,DN,aD hg,bR,aD ES];rfl
   ·rw[CJ,FV]
    refine⟨rfl,by simp,λj=>?_⟩;simp only[Cb];split
    ·rename_i Gw;subst Gw
     have AL:=(Ab.1 CK).1;rw[Bu AL];exact .inr ⟨cs,_,CK,rfl,sH DN⟩
    ·exact .inl rfl
 |imm v =>
  simp only[bM] at e;obtain⟨hr,e⟩:=aA e;have TT:∀{R:Type}(K:Option R),fV AA (.imm v) K=K:=λK=>by cases AA<;>rfl
  simp only[TT] at e BS;simp only[aW] at e;obtain⟨s,hs,e⟩:=aH e;obtain⟨agg,D4,e⟩:=aH e
  have hp:tk=false\/agg=true\/∀sz xs,(v.cells.map Cell.val)[0]?≠some (.own sz xs):=.inr (.inr λsz xs hh=>by
   rw[Av] at hh;cases hv:v.cells[0]? with
   |none=>rw[hv] at hh;cases hh
   |some c=>rw[hv] at hh;cases hh)
  rw[fK hp] at e;obtain⟨v',e,h3⟩:=rK e;refine .val e λR2 BP k2=>?_
  rw[BS];simp only[bM,aD hr,aW,hs,D4,Aq];rw[fK hp];exact h3 R2 _
end
section
variable {P:Program}{ans:FuncId->AF}{an:AF}{R:Type}{r:R}
variable {tm:List Slot}{rs1 rs2:RS}{k1:Slot->RS->Option R}{ops:Array Oper}{AA tk:Bool}{cf:aJ}{o:Oper}
variable {dst:Option Nat}{ty:TypeId}{pos:String}{AJ:Array Edge}{gd:Option (Nat×Bool)}{kp:AVal->RS->Option R}{l:List Nat}
theorem qV:∀{xs:List Operand}{rs1 rs2:RS}{i:Nat}{k:List Slot->RS->Option R},(∀x∈xs,agS (A6 an.keep tm rs1 x) (A6 an.keep tm rs2 x))->lI an.keep tm rs1 i xs k=some r ->
  ∃l puts,k l ⟨puts++rs1.sc,rs1.sto⟩=some r/\(∀(R2:Type)(k2:List Slot->RS->Option R2),lI an.keep tm rs2 i xs k2=k2 l ⟨puts++rs2.sc,rs2.sto⟩)/\(∀p∈puts,Operand.tmp p.1∈xs)/\∀p∈puts,∀u y,p.2≠.ref u y
 |[],rs1,rs2,i,k,h,e=>⟨[],[],e,λR2 k2=>rfl,by simp,by simp⟩
 |x::xs,rs1,rs2,i,k,h,e=>by
  have hx:=h x (by simp);simp only[lI] at e;obtain⟨v,e,h2⟩:=o7 hx e;obtain⟨l,puts,e,h3,h4,h5⟩:=qV (rs2:=rs2) (λy hy=>h y (by simp[hy])) e;refine⟨.val v::l,puts,e,λR2 k2=>?_,λp hp=>by simp[h4 p hp],h5⟩;simp only[lI];rw[h2];exact h3 R2 _
theorem cG{n:Nat}{v:AVal}(h:lokF 0 v=true):lokF n v=true:=by
 cases v with
 |iface t v =>
  rcases Bool.or_eq_true_iff.1 (show(clean v||ji 0 v)=true from h) with h|h
  ·show(clean v||ji n v)=true;rw[h];rfl
  ·cases v<;>simp[ji,Ct] at h
 |_=>simp_all [lokF,Ct]
theorem jj{n:Nat}{v:AVal}(h:lok 0 v=true):lok n v=true:=by
 cases v with
 |agg cs=>exact As.2 λc hc=>cG (As.1 (show cs.all (lokF 0)=true from h) c hc)
 |func f cs=>exact As.2 λc hc=>cG (As.1 (show cs.all (lokF 0)=true from h) c hc)
 |bool b=>exact cG (n:=n) (v:=.bool b) h
 |int k m=>exact cG (n:=n) (v:=.int k m) h
 |str x=>exact cG (n:=n) (v:=.str x) h
 |slice x=>exact cG (n:=n) (v:=.slice x) h
 |nilptr=>exact cG (n:=n) (v:=.nilptr) h
 |nilfunc=>exact cG (n:=n) (v:=.nilfunc) h
 |nilmap=>exact cG (n:=n) (v:=.nilmap) h
 |nilif=>exact cG (n:=n) (v:=.nilif) h
 |loc i x=>exact cG (n:=n) (v:=.loc i x) h
 |amap i=>exact cG (n:=n) (v:=.amap i) h
 |yld i=>exact cG (n:=n) (v:=.yld i) h
 |cptr x=>exact cG (n:=n) (v:=.cptr x) h
 |iface t x=>exact cG (n:=n) (v:=.iface t x) h
 |opq=>exact cG (n:=n) (v:=.opq) h
 |raw x=>exact cG (n:=n) (v:=.raw x) h
 |rc t f a b e=>exact cG (n:=n) (v:=.rc t f a b e) h
theorem dj{n:Nat}{s:Slot}(h:cF 0 s=true):cF n s=true:=by
 cases s with
 |val v=>exact jj h
 |tup vs=>exact As.2 λc hc=>jj (As.1 (show vs.all (lok 0)=true from h) c hc)
 |_=>rfl
end
end Go.AM
