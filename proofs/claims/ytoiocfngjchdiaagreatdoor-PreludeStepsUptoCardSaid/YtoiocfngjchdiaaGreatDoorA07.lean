import Derived.Test.YtoiocfngjchdiaaGreatDoorA06
import Derived.Orders
set_option linter.all false
namespace Go.AM
section
variable {P:Program}{ans:FuncId->AF}{an:AF}{R:Type}{r:R}
variable {tm:List Slot}{rs1 rs2:RS}{k1:Slot->RS->Option R}{ops:Array Oper}{AA tk:Bool}{cf:aJ}{o:Oper}
variable {dst:Option Nat}{ty:TypeId}{pos:String}{AJ:Array Edge}{gd:Option (Nat×Bool)}{l:List Nat}
theorem yY{cc:Callee}{args:List Slot}(e:cR AA cf cc args rs1 (λ_ _=>none) k1=some r)
  (A7:rs2.sto=rs1.sto\/(AA=true/\∃o:Option Slot,(∀s,o=some s->cF 0 s=true)/\∀sto,cf cc args sto=o.map λs=>(.ret s,sto))) :
  ∃s g,k1 s ⟨rs1.sc,g rs1.sto⟩=some r/\(∀(R2:Type)(BP:AVal->RS->Option R2)(k2:Slot->RS->Option R2),cR AA cf cc args rs2 BP k2=k2 s ⟨rs2.sc,g rs2.sto⟩)/\(∀u y,s≠.ref u y)/\(AA=true->g=id):=by
 have nr:∀s,wF s=true->∀u y,s≠.ref u y:=λs h u y he=>by subst he;cases h
 cases AA with
 |false =>
  have A7:rs2.sto=rs1.sto:=A7.resolve_right (by simp);simp only[cR] at e;obtain⟨⟨res,sto'⟩,hc,e⟩:=aH e;cases res with
  |pan v=>cases e
  |ret s =>
   obtain⟨hg,e⟩:=aA e;refine⟨s,λ_=>sto',e,λR2 BP k2=>?_,nr s hg,by simp⟩;simp only[cR,A7,hc,Aq,aD hg]
 |true =>
  simp only[cR] at e;obtain⟨⟨res,sto'⟩,hc,e⟩:=aH e;cases res with
  |pan v=>cases e
  |ret s =>
   obtain⟨hg,e⟩:=aA e;have T0:=hg;simp only[Ac] at T0;refine⟨s,id,e,λR2 BP k2=>?_,nr s T0.2,λ_=>rfl⟩;rcases A7 with A7|⟨_,o,My,L7⟩
   ·simp only[cR,A7,hc,Aq,aD hg]
    show k2 s rs2=k2 s ⟨rs2.sc,rs1.sto⟩;rw[<-A7]
   ·rw[L7] at hc
    obtain⟨s',Kc,he⟩:=Ap.1 hc;cases he;have ES:(cF rs2.sto.objs.length s&&wF s)=true:=by simp[dj (My s Kc),T0.2]
    simp only[cR,L7,Kc,Bw,Aq,aD ES];rfl
theorem aEl{c:Call}(DB:eU ans cf)(h:F0 ans an tm ops AA tk ⟨dst,.call c,ty,pos,AJ,gd⟩ rs1 rs2)(e:aB P ans an true AA l cf tm tk ⟨dst,.call c,ty,pos,AJ,gd⟩ rs1 (λ_ _=>none) k1=some r):Two P ans an tm ops AA tk cf ⟨dst,.call c,ty,pos,AJ,gd⟩ rs1 rs2 k1 r:=by
 obtain⟨Mk,⟨DK⟩,Ml⟩:=c;simp only[aB] at e
 split at e
 ·rename_i x
  have hx:=h.opd x (by simp[Op.operands,Call.operands])
  split at e
  ·rename_i hu
   split at e
   ·rename_i s hb
    have h2:=hx.eq (by rw[hb];simp);rw[hb] at h2;exact .val e (λR2 BP k2=>by simp only[aB,hu,h2])
   ·cases e
  ·rename_i el hu
   obtain⟨xs,e,h2⟩:=o6 hx e;exact .val e (λR2 BP k2=>by simp only[aB,hu,h2])
  ·rename_i n el hu
   exact .val e (λR2 BP k2=>by simp only[aB,hu])
  ·cases e
 ·rename_i s x
  have hS:=h.opd s (by simp[Op.operands,Call.operands]);have hx:=h.opd x (by simp[Op.operands,Call.operands])
  split at e
  ·rename_i el el2 FD EG
   obtain⟨sz,BC,e⟩:=aH e;obtain⟨z,hz,e⟩:=aH e;obtain⟨ys,e,h2⟩:=o6 hx e;obtain⟨hg,e⟩:=aA e
   have e3:(∃GG xs t,A6 an.keep tm rs1 s=.own GG xs/\s=.tmp t/\aL (Nat.beq sz GG&&Nat.ble (xs.length+ys.length) room) (k1 (.own sz (xs++ys)) (rs1.put t (.val (.slice xs))))=some r) \/
     (∃xs,A6 an.keep tm rs1 s=.full xs/\aL (xs.all (λy=>Nat.beq y.cells.length sz)&&Nat.ble (xs.length+ys.length) room&&(xs.isEmpty||!ys.isEmpty)) (k1 (.own sz (xs++ys)) rs1)=some r) \/
     (A6 an.keep tm rs1 s=.nl/\aL (Nat.ble ys.length room) (k1 (.own sz ys) rs1)=some r):=by
    split at e
    ·exact .inl ⟨_,_,_,by assumption,rfl,e⟩
    ·exact .inr (.inl ⟨_,by assumption,e⟩)
    ·exact .inr (.inr ⟨by assumption,e⟩)
    ·cases e
   rcases e3 with⟨GG,xs,t,hs,Kb,e3⟩|⟨xs,hs,e3⟩|⟨hs,e3⟩
   ·subst Kb
    obtain⟨MY,e3⟩:=aA e3;have h3:=hS.eq (by rw[hs];simp);rw[hs] at h3;refine⟨.own sz (xs++ys),[(t,.val (.slice xs))],id,e3,λR2 BP k2=>?_,λp hp=>?_,λp hp u y=>?_,(λu y he=>by cases he),rfl⟩
    ·simp only[aB,FD,EG,BC,hz,Aq,h2,aD hg,h3,aD MY];rfl
    ·simp at hp;subst hp;left;simp[cons]
    ·simp at hp;subst hp;simp
   ·obtain⟨MY,e3⟩:=aA e3
    have h3:=hS.eq (by rw[hs];simp);rw[hs] at h3;exact .plain e3 (λR2 BP k2=>by simp only[aB,FD,EG,BC,hz,Aq,h2,aD hg,h3,aD MY]) (λu y he=>by cases he)
   ·obtain⟨MY,e3⟩:=aA e3
    have h3:=hS.eq (by rw[hs];simp);rw[hs] at h3;exact .plain e3 (λR2 BP k2=>by simp only[aB,FD,EG,BC,hz,Aq,h2,aD hg,h3,aD MY]) (λu y he=>by cases he)
  ·cases e
 ·rename_i x y
  have hx:=h.opd x (by simp[Op.operands,Call.operands]);have hy:=h.opd y (by simp[Op.operands,Call.operands]);obtain⟨kd,n,e,h2⟩:=iG hx e;obtain⟨Hc,m,e,h3⟩:=iG hy e;exact .val e (λR2 BP k2=>by simp only[aB,h2,h3])
 ·rename_i f
  have hf:=h.opd f (by simp[Op.operands,Call.operands]);have CQ:∀x∈DK,agS (A6 an.keep tm rs1 x) (A6 an.keep tm rs2 x):=λx hx=>h.opd x (by simp[Op.operands,Call.operands,hx])
  have EP:∀(puts:List (Nat×Slot))(p:Nat×Slot),Operand.tmp p.1∈DK->p.1∈cons an.keep tk ⟨dst,.call ⟨.value f,⟨DK⟩,Ml⟩,ty,pos,AJ,gd⟩:=λputs p hp=>by
   simp only[cons,Fb];exact⟨.tmp p.1,hp,rfl⟩
  have fin:∀(cc:Callee)(args:List Slot)(puts:List (Nat×Slot)),(∀p∈puts,Operand.tmp p.1∈DK)->(∀p∈puts,∀u y,p.2≠.ref u y)->cR AA cf cc args ⟨puts++rs1.sc,rs1.sto⟩ (λ_ _=>none) k1=some r ->
    (rs2.sto=rs1.sto\/(AA=true/\∃o:Option Slot,(∀s,o=some s->cF 0 s=true)/\∀sto,cf cc args sto=o.map λs=>(.ret s,sto))) ->
    (∀(R2:Type)(BP:AVal->RS->Option R2)(k2:Slot->RS->Option R2),aB P ans an true AA (eG an.loc ops.toList ops.size (addrOf ⟨dst,.call ⟨.value f,⟨DK⟩,Ml⟩,ty,pos,AJ,gd⟩)) cf tm tk ⟨dst,.call ⟨.value f,⟨DK⟩,Ml⟩,ty,pos,AJ,gd⟩ rs2 BP k2=cR AA cf cc args ⟨puts++rs2.sc,rs2.sto⟩ BP k2) ->
    Two P ans an tm ops AA tk cf ⟨dst,.call ⟨.value f,⟨DK⟩,Ml⟩,ty,pos,AJ,gd⟩ rs1 rs2 k1 r:=λcc args puts Qw Ix e A7 BS=>by
   obtain⟨s,g,e,h2,h3,h4⟩:=yY (rs2:=⟨puts++rs2.sc,rs2.sto⟩) e A7;refine⟨s,puts,g,e,λR2 BP k2=>by rw[BS,h2],λp hp=>.inl (EP puts p (Qw p hp)),Ix,λu y he=>absurd he (h3 u y),?_⟩;simp only[cI];cases Gs:AA with
   |false=>trivial
   |true =>
    have hg:=h4 Gs;subst hg;cases f with
    |func g'=>cases hp:(ans g').prim<;>simp[hp]
    |tmp t=>rfl
    |const v=>rfl
    |global g=>rfl
  split at e
  ·rename_i g caps hb
   have h2:=hf.eq (by rw[hb];simp);rw[hb] at h2;obtain⟨l',puts,e,h3,h4,h5⟩:=qV CQ e;refine fin (.fn g) _ puts h4 h5 e ?_ (λR2 BP k2=>by simp only[aB,h2];exact h3 R2 _);have hs:=h.sto;simp only[cI] at hs;cases Gs:AA with
   |false=>rw[Gs] at hs;exact .inl hs
   |true =>
    rw[Gs] at hs;cases f with
    |func g' =>
     simp only[A6] at hb;cases hb;simp only at hs;cases hp:(ans g).prim with
     |true=>exact .inr ⟨rfl,DB g _ hp⟩
     |false=>rw[hp] at hs;exact .inl hs
    |tmp t=>exact .inl hs
    |const v=>exact .inl hs
    |global g=>exact .inl hs
  ·rename_i i hb
   have h2:=hf.eq (by rw[hb];simp);rw[hb] at h2;obtain⟨l',puts,e,h3,h4,h5⟩:=qV CQ e;refine fin (.yld i) _ puts h4 h5 e ?_ (λR2 BP k2=>by simp only[aB,h2];exact h3 R2 _);have hs:=h.sto;simp only[cI] at hs;cases Gs:AA with
   |false=>rw[Gs] at hs;exact .inl hs
   |true =>
    rw[Gs] at hs;cases f with
    |func g'=>simp only[A6] at hb;cases hb
    |tmp t=>exact .inl hs
    |const v=>exact .inl hs
    |global g=>exact .inl hs
  ·cases e
 ·rename_i rc nm
  have hr:=h.opd rc (by simp[Op.operands,Call.operands]);have CQ:∀x∈DK,agS (A6 an.keep tm rs1 x) (A6 an.keep tm rs2 x):=λx hx=>h.opd x (by simp[Op.operands,Call.operands,hx])
  split at e
  ·rename_i ut y hb
   have h2:=hr.eq (by rw[hb];simp);rw[hb] at h2;obtain⟨g,hg,e⟩:=aH e;obtain⟨l',e,h3⟩:=qZ CQ e;have hs:rs2.sto=rs1.sto:=h.sto;obtain⟨s,g',e,h4,h5,_⟩:=yY (rs2:=rs2) e (.inl hs);exact⟨s,[],g',e,λR2 BP k2=>by simp only[aB,h2,hg,Aq,h3];exact h4 _ _ _,by simp,by simp,λu y he=>absurd he (h5 u y),trivial⟩
  ·cases e
 ·cases e
theorem xP{x:Operand}{xt t:TypeId}{ok:Bool}{kp:AVal->RS->Option R}(h:F0 ans an tm ops AA tk ⟨dst,.typeAssert x xt t ok,ty,pos,AJ,gd⟩ rs1 rs2)(e:aB P ans an true AA l cf tm tk ⟨dst,.typeAssert x xt t ok,ty,pos,AJ,gd⟩ rs1 kp k1=some r):Two P ans an tm ops AA tk cf ⟨dst,.typeAssert x xt t ok,ty,pos,AJ,gd⟩ rs1 rs2 k1 r:=by
 have hx:=h.opd x (by simp[Op.operands]);simp only[aB] at e
 split at e
 ·cases e
 ·rename_i d hd hu
  obtain⟨z,hz,e⟩:=aH e
  split at e
  ·rename_i hb
   have h2:=hx.eq (by rw[hb];simp);rw[hb] at h2;obtain⟨D3,e⟩:=aA e;exact .plain e (λR2 BP k2=>by simp only[aB,hu,hz,Aq,h2,aD D3]) (λu x he=>by cases he)
  ·rename_i ut y hb
   have h2:=hx.eq (by rw[hb];simp);rw[hb] at h2
   split at e
   ·rename_i RJ
    cases ok with
    |true=>exact .plain e (λR2 BP k2=>by simp only[aB,hu,hz,Aq,h2,RJ]) (λu x he=>by cases he)
    |false=>exact .val e (λR2 BP k2=>by simp only[aB,hu,hz,Aq,h2,RJ])
   ·rename_i RJ
    obtain⟨D3,e⟩:=aA e;exact .plain e (λR2 BP k2=>by simp only[aB,hu,hz,Aq,h2,RJ,aD D3]) (λu x he=>by cases he)
  ·cases e
 ·cases e
end
section
variable {P:Program}{ans:FuncId->AF}{an:AF}{R:Type}{r:R}
variable {tm:List Slot}{rs1 rs2:RS}{k1:Slot->RS->Option R}{ops:Array Oper}{AA tk:Bool}{cf:aJ}
theorem aAQ{o:Oper}(DB:eU ans cf)(h:F0 ans an tm ops AA tk o rs1 rs2)(e:aB P ans an true AA (eG an.loc ops.toList ops.size (addrOf o)) cf tm tk o rs1 (λ_ _=>none) k1=some r):Two P ans an tm ops AA tk cf o rs1 rs2 k1 r:=by
 obtain⟨d,op,ty,pos,AJ,gd⟩:=o;cases op
 case move=>exact aEn h e
 case assign=>exact ry h e
 case pick=>exact aEo h e
 case alloc=>exact aA0 h e
 case box=>exact aHx h e
 case build=>exact aA2 h e
 case buildSlice=>exact xO h e
 case load=>exact aEm h e
 case store=>exact aA4 h e
 case nilCheck=>exact dz h e
 case binOp=>exact aA1 h e
 case unOp=>exact aEp h e
 case fieldAddr=>exact yN h e
 case indexAddr=>exact yO h e
 case slice=>exact aA3 h e
 case makeInterface=>exact qN h e
 case typeAssert=>exact xP h e
 case makeFunc=>exact dy h e
 case extract=>exact lz h e
 case call=>exact aEl DB h e
 all_goals (simp[aB] at e)
end
section
variable {P:Program}{ans:FuncId->AF}{an:AF}{R:Type}{r:R}
variable {tm:List Slot}{rs1 rs2:RS}{ops:Array Oper}{AA tk:Bool}{cf:aJ}{o:Oper}{rid i:Nat}
def RefIn(ops:Array Oper)(rs:RS):Prop:=∀t u x,bU rs.sc t=some (.ref u x)->∃o∈ops.toList,eF o=some u
theorem gD:∀{sc:List (Nat×Slot)}{t:Nat}{s:Slot},bU sc t=some s->(t,s)∈sc
 |[],t,s,h=>by simp[bU] at h
 |(k,x)::sc,t,s,h=>by
  simp only[bU] at h;cases hk:Nat.beq k t with
  |true =>
   rw[hk] at h
   have:=Aa hk
   subst this;cases h;simp
  |false =>
   rw[hk] at h;exact Eg _ (gD h)
theorem jm{puts:List (Nat×Slot)}{rs:RS}{g:AH->AH}(t:Nat):RS.look an.keep tm ⟨puts++rs.sc,g rs.sto⟩ t=match bU puts t with|some s=>s|none=>rs.look an.keep tm t:=by
 unfold RS.look;rw[fO];cases bU puts t<;>rfl
theorem RefIn.noRefTo{rs:RS}(h:RefIn ops rs){d:Nat}(hd:∀o∈ops.toList,eF o≠some d):noRefTo d rs.sc=true:=by
 refine As.2 λp _=>?_
 split
 ·rename_i u x hl
  obtain⟨o,ho,hu⟩:=h _ _ _ hl;have BD:u≠d:=λe=>hd o ho (by rw[hu,e])
  cases hb:Nat.beq u d with
  |true=>exact absurd (Aa hb) BD
  |false=>rfl
 ·rfl
structure AgrO (ans:FuncId->AF) (an:AF) (tm:List Slot) (ops:Array Oper) (AA tk:Bool) (o:Oper) (rs1 rs2:RS):Prop where
 rd:∀t∈F3 ops o,agS (rs1.look an.keep tm t) (rs2.look an.keep tm t)
 rb:∀u∈IK an.loc ops o,∀c,rs1.look an.keep tm u=.box c->∃c2,rs2.look an.keep tm u=.box c2/\c2.map Cell.get=c.map Cell.get
 wb:∀u,(u∈Ho an.loc ops o\/u∈G6 an.loc ops tk o)->rs2.look an.keep tm u=rs1.look an.keep tm u
 sto:match cI ans an.loc ops AA tk o with
  |.p=>True
  |.r=>stoAg rs1.sto rs2.sto
  |_=>rs2.sto=rs1.sto
theorem AgrO.agr(h:AgrO ans an tm ops AA tk o rs1 rs2):F0 ans an tm ops AA tk o rs1 rs2 :=
 ⟨λx hx=>by
  cases x with
  |tmp t=>exact h.rd t (nC rfl hx)
  |const v=>exact .inl rfl
  |global g=>exact .inl rfl
  |func f=>exact .inl rfl,h.rb,h.wb,h.sto⟩
structure EffO (ans:FuncId->AF) (an:AF) (tm:List Slot) (ops:Array Oper) (AA tk:Bool) (o:Oper) (rs1:RS) (puts:List (Nat×Slot)) (g:AH->AH):Prop where
 keys:∀p∈puts,p.1∈o.dst.toList\/p.1∈cons an.keep tk o\/(p.1∈Ho an.loc ops o/\∃c c',rs1.look an.keep tm p.1=.box c/\p.2=.box c')\/(p.1∈G6 an.loc ops tk o/\∃c c',rs1.look an.keep tm p.1=.box c/\p.2=.box c'/\c'.map Cell.get=c.map Cell.get) \/
  (p.1∈F3 ops o/\∃b,p.2=.val (.bool b)/\rs1.look an.keep tm p.1=.val (.bool b))
 ref:∀p∈puts,∀u x,p.2=.ref u x->∃o'∈ops.toList,eF o'=some u
 sto:match cI ans an.loc ops AA tk o with
  |.t=>stoAg rs1.sto (g rs1.sto)
  |.w=>True
  |.x=>True
  |_=>g=id
theorem RefIn.look(h:RefIn ops rs1)(hn:noRef tm){t u x:Nat}(hl:rs1.look an.keep tm t=.ref u x):∃o∈ops.toList,eF o=some u:=by
 obtain⟨p,_,hp⟩:=jn (an:=an) hn hl;exact h _ _ _ hp
theorem RefIn.app{puts:List (Nat×Slot)}{g:AH->AH}(h:RefIn ops rs1)(hp:∀p∈puts,∀u x,p.2=.ref u x->∃o'∈ops.toList,eF o'=some u):RefIn ops ⟨puts++rs1.sc,g rs1.sto⟩:=λt u x hl=>by
 rw[fO] at hl;cases ha:bU puts t with
 |some s=>rw[ha] at hl;cases hl;exact hp _ (gD ha) u x rfl
 |none=>rw[ha] at hl;exact h t u x hl
def uX(o:Oper)(s:Slot):List (Nat×Slot):=match o.dst with|some d=>[(d,s)]|none=>[]
theorem nI(rs:RS)(o:Oper)(s:Slot):rs.putO o.dst s=⟨uX o s++rs.sc,rs.sto⟩:=by
 unfold RS.putO uX;cases o.dst<;>rfl
theorem rC{s:Slot}{rs:RS}(hd:∀d,o.dst=some d->an.loc.contains d=true->∀o'∈ops.toList,eF o'≠some d)(h:dQ an o s rs1=true)(h2:RefIn ops rs):dQ an o s rs=true:=by
 unfold dQ at h ⊢;cases FW:o.dst with
 |none=>rfl
 |some d =>
  rw[FW] at h;simp only[Ac,Ch,Cu] at h ⊢;refine⟨h.1,?_⟩;cases hl:an.loc.contains d with
  |false=>exact .inl rfl
  |true=>exact .inr (h2.noRefTo (hd d FW hl))
theorem kl{rs:RS}{d:Nat}{b:Bool}(h:rs.look an.keep tm d=.val (.bool b))(t:Nat):RS.look an.keep tm (rs.put d (.val (.bool b))) t=rs.look an.keep tm t:=by
 rw[eK];by_cases ht:t=d
 ·subst ht;rw[eL,h]
 ·rw[bH _ _ ht]
theorem RefIn.putB(h:RefIn ops rs1)(d:Nat)(b:Bool):RefIn ops (rs1.put d (.val (.bool b))) :=
 RefIn.app (puts:=[(d,.val (.bool b))]) (g:=id) h λp hp u x he=>by
  simp at hp;subst hp;cases he
theorem mJ{next:RS->Option R}(DB:eU ans cf)(hn:noRef tm)(ho:o∈ops.toList)(hd:∀d,o.dst=some d->an.loc.contains d=true->∀o'∈ops.toList,eF o'≠some d)
  (hA:AgrO ans an tm ops (an.pure.contains (rid,i)) (an.take.contains (rid,i)) o rs1 rs2) (h1:RefIn ops rs1) (h2:RefIn ops rs2) (e:iX P ans an true cf tm rid ops (λ_ _=>none) o i rs1 next=some r) :
  ∃puts g,next ⟨puts++rs1.sc,g rs1.sto⟩=some r/\(∀(R2:Type)(C9:RS->Option R2),iX P ans an true cf tm rid ops (λ_ _=>none) o i rs2 C9=C9 ⟨puts++rs2.sc,g rs2.sto⟩) /\
   EffO ans an tm ops (an.pure.contains (rid,i)) (an.take.contains (rid,i)) o rs1 puts g:=by
 have refs:∀(rs:RS)(s:Slot),(∀t,rs.look an.keep tm t=rs1.look an.keep tm t)->(∀u x,s=.ref u x->eF o=some u\/∃t∈F3 ops o,∃y,rs.look an.keep tm t=.ref u y)->∀u x,s=.ref u x->∃o'∈ops.toList,eF o'=some u:=λrs s hl h u x he=>by
  rcases h u x he with h'|⟨t,_,y,h'⟩
  ·exact⟨o,ho,h'⟩
  ·rw[hl] at h';exact h1.look hn h'
 have go:∀(Ib D0:RS)(pg:List (Nat×Slot)),Ib=⟨pg++rs1.sc,rs1.sto⟩->D0=⟨pg++rs2.sc,rs2.sto⟩->(∀t,Ib.look an.keep tm t=rs1.look an.keep tm t)->(∀t,D0.look an.keep tm t=rs2.look an.keep tm t)->RefIn ops D0 ->
   (∀p∈pg,p.1∈F3 ops o/\∃b,p.2=.val (.bool b)/\rs1.look an.keep tm p.1=.val (.bool b)) ->
   aB P ans an true (an.pure.contains (rid,i)) (eG an.loc ops.toList ops.size (addrOf o)) cf tm (an.take.contains (rid,i)) o Ib (λ_ _=>none) (λs AX=>aL (dQ an o s AX) (next (AX.putO o.dst s)))=some r ->
   ∃puts g,next ⟨puts++rs1.sc,g rs1.sto⟩=some r/\(∀(R2:Type)(C9:RS->Option R2),aB P ans an true (an.pure.contains (rid,i)) (eG an.loc ops.toList ops.size (addrOf o)) cf tm (an.take.contains (rid,i)) o D0 (λ_ _=>none) (λs AX=>aL (dQ an o s AX) (C9 (AX.putO o.dst s)))=C9 ⟨puts++rs2.sc,g rs2.sto⟩) /\
    EffO ans an tm ops (an.pure.contains (rid,i)) (an.take.contains (rid,i)) o rs1 puts g:=λIb D0 pg Kg Hy Iz Gv On Ih e=>by
  have KE:AgrO ans an tm ops (an.pure.contains (rid,i)) (an.take.contains (rid,i)) o Ib D0:=by
   refine⟨λt ht=>by rw[Iz,Gv];exact hA.rd t ht,λu hu c hc=>by rw[Iz] at hc;rw[Gv];exact hA.rb u hu c hc,λu hu=>by rw[Iz,Gv];exact hA.wb u hu,?_⟩;subst Kg Hy;exact hA.sto
  obtain⟨s,puts,g,e,h3,hE⟩:=aAQ DB KE.agr e;obtain⟨hg,e⟩:=aA e;have hRf:=refs Ib s Iz hE.ref;have Kt:RefIn ops ⟨puts++D0.sc,g D0.sto⟩:=On.app λp hp u x he=>absurd he (hE.vals p hp u x)
  refine⟨uX o s++(puts++pg),g,?_,λR2 C9=>?_,λp hp=>?_,λp hp u x he=>?_,?_⟩
  ·rw[nI] at e
   subst Kg;simpa[Aj] using e
  ·rw[h3,aD (rC hd hg Kt),nI]
   subst Hy;simp[Aj]
  ·rcases Bn.1 hp with hp|hp
   ·left
    unfold uX at hp;cases FW:o.dst with
    |none=>rw[FW] at hp;simp at hp
    |some d=>rw[FW] at hp;simp at hp;subst hp;simp
   ·rcases Bn.1 hp with hp|hp
    ·rcases hE.keys p hp with hk|⟨hk,c,c',h5,h6⟩|⟨hk,c,c',h5,h6,h7⟩
     ·exact .inr (.inl hk)
     ·exact .inr (.inr (.inl ⟨hk,c,c',by rw[<-Iz];exact h5,h6⟩))
     ·exact .inr (.inr (.inr (.inl ⟨hk,c,c',by rw[<-Iz];exact h5,h6,h7⟩)))
    ·exact .inr (.inr (.inr (.inr (Ih p hp))))
  ·rcases Bn.1 hp with hp|hp
   ·unfold uX at hp
    cases FW:o.dst with
    |none=>rw[FW] at hp;simp at hp
    |some d=>rw[FW] at hp;simp at hp;subst hp;exact hRf u x he
   ·rcases Bn.1 hp with hp|hp
    ·exact absurd he (hE.vals p hp u x)
    ·obtain⟨_,b,hb,_⟩:=Ih p hp
     rw[hb] at he;cases he
  ·have:=hE.sto
   subst Kg;exact this
 unfold iX at e;simp only at e
 split at e
 ·rename_i hg
  obtain⟨puts,g,a1,a2,a3⟩:=go rs1 rs2 [] rfl rfl (λ_=>rfl) (λ_=>rfl) h2 (by simp) e;exact⟨puts,g,a1,λR2 C9=>by rw[<-a2 R2 C9];simp only[iX,hg],a3⟩
 ·rename_i j want hg
  split at e
  ·cases e
  ·rename_i d ND
   have FN:d∈F3 ops o:=by simp[F3,hg,ND]
   have TZ:(∃bb,rs1.look an.keep tm d=.val (.bool bb)/\(match bb==want with
     |true=>aB P ans an true (an.pure.contains (rid,i)) (eG an.loc ops.toList ops.size (addrOf o)) cf tm (an.take.contains (rid,i)) o (rs1.put d (.val (.bool bb))) (λ_ _=>none) (λs AX=>aL (dQ an o s AX) (next (AX.putO o.dst s)))
     |false=>aL (dQ an o .dead rs1) (next ((rs1.put d (.val (.bool bb))).putO o.dst (.tup []))))=some r) \/
     (rs1.look an.keep tm d=.tup []/\aL (dQ an o .dead rs1) (next (rs1.putO o.dst (.tup [])))=some r):=by
    unfold oL at e
    split at e
    ·rename_i bb hb
     exact .inl ⟨bb,hb,by cases bb<;>cases want<;>exact e⟩
    ·rename_i hb
     exact .inr ⟨hb,e⟩
    ·cases e
   rcases TZ with⟨bb,Hx,e⟩|⟨Hx,e⟩
   rotate_left
   ·have Jp:rs2.look an.keep tm d=.tup []:=((hA.rd d FN).eq (by rw[Hx];simp)).trans Hx
    obtain⟨D3,e⟩:=aA e;refine⟨uX o (.tup []),id,?_,λR2 C9=>?_,λp hp=>?_,λp hp u x he=>?_,?_⟩
    ·rw[nI] at e;exact e
    ·simp only[iX,hg,ND,Jp,oL]
     have MK:=rC hd D3 h2;simp only[aD MK,nI];rfl
    ·left
     unfold uX at hp;cases FW:o.dst with
     |none=>rw[FW] at hp;simp at hp
     |some d'=>rw[FW] at hp;simp at hp;subst hp;simp
    ·unfold uX at hp
     cases FW:o.dst with
     |none=>rw[FW] at hp;simp at hp
     |some d'=>rw[FW] at hp;simp at hp;subst hp;cases he
    ·split<;>first|rfl|trivial|exact stoAg.refl _
   have Jp:rs2.look an.keep tm d=.val (.bool bb):=((hA.rd d FN).eq (by rw[Hx];simp)).trans Hx;cases hbw:bb==want with
   |true =>
    rw[hbw] at e;obtain⟨puts,g,a1,a2,a3⟩:=go (rs1.put d (.val (.bool bb))) (rs2.put d (.val (.bool bb))) [(d,.val (.bool bb))] rfl rfl (kl Hx) (kl Jp) (h2.putB d bb) (λp hp=>by simp at hp;subst hp;exact⟨FN,bb,rfl,Hx⟩) e;refine⟨puts,g,a1,λR2 C9=>?_,a3⟩;rw[<-a2 R2 C9];simp only[iX,hg,ND,Jp,oL];cases bb<;>simp only[Bl,Be,hbw]
   |false =>
    rw[hbw] at e;obtain⟨D3,e⟩:=aA e;refine⟨uX o (.tup [])++[(d,.val (.bool bb))],id,?_,λR2 C9=>?_,λp hp=>?_,λp hp u x he=>?_,?_⟩
    ·rw[nI] at e
     rw[Aj];exact e
    ·simp only[iX,hg,ND,Jp,oL]
     have MK:=rC hd D3 h2;cases bb<;>simp only[Bl,Be,hbw,aD MK,nI,Aj]<;>rfl
    ·rcases Bn.1 hp with hp|hp
     ·left
      unfold uX at hp;cases FW:o.dst with
      |none=>rw[FW] at hp;simp at hp
      |some d'=>rw[FW] at hp;simp at hp;subst hp;simp
     ·simp at hp;subst hp;exact .inr (.inr (.inr (.inr ⟨FN,bb,rfl,Hx⟩)))
    ·rcases Bn.1 hp with hp|hp
     ·unfold uX at hp
      cases FW:o.dst with
      |none=>rw[FW] at hp;simp at hp
      |some d'=>rw[FW] at hp;simp at hp;subst hp;cases he
     ·simp at hp;subst hp;cases he
    ·split<;>first|rfl|trivial|exact stoAg.refl _
def RSeq(a b:RS):Prop:=(∀t,bU a.sc t=bU b.sc t)/\a.sto=b.sto
theorem RSeq.refl(a:RS):RSeq a a:=⟨λ_=>rfl,rfl⟩
theorem RSeq.symm{a b:RS}(h:RSeq a b):RSeq b a:=⟨λt=>(h.1 t).symm,h.2.symm⟩
theorem RSeq.trans{a b c:RS}(h:RSeq a b)(k:RSeq b c):RSeq a c:=⟨λt=>(h.1 t).trans (k.1 t),h.2.trans k.2⟩
theorem RSeq.look{a b:RS}(h:RSeq a b)(t:Nat):b.look an.keep tm t=a.look an.keep tm t:=by
 unfold RS.look;rw[h.1 t]
theorem RSeq.agrO{a b:RS}(h:RSeq a b):AgrO ans an tm ops AA tk o a b:=by
 refine⟨λt _=>.inl (h.look t),λu _ c hc=>⟨c,(h.look u).trans hc,rfl⟩,λu _=>h.look u,?_⟩;split
 ·trivial
 ·rw[h.2];exact stoAg.refl _
 ·exact h.2.symm
theorem RSeq.refIn{a b:RS}(h:RSeq a b)(hr:RefIn ops a):RefIn ops b:=λt u x hl=>hr t u x (by rw[h.1 t];exact hl)
theorem RSeq.app{a b:RS}(h:RSeq a b)(puts:List (Nat×Slot))(g:AH->AH):RSeq ⟨puts++a.sc,g a.sto⟩ ⟨puts++b.sc,g b.sto⟩ :=
 ⟨λt=>by simp only[fO,h.1 t],by simp only[h.2]⟩
theorem mG{l m:List Nat}(h:meets l m=false){t:Nat}(hl:t∈l):t∉m:=λhm=>by
 have:meets l m=true:=List.any_eq_true.2 ⟨t,hl,by simpa using hm⟩
 rw[h] at this;cases this
structure x4 (keep loc:List Nat) (ops:Array Oper) (ta tb:Bool) (a b:Oper):Prop where
 hw:∀t,t∈a.dst.toList\/t∈cons keep ta a->t∉F3 ops b/\t∉IK loc ops b/\t∉b.dst.toList/\t∉cons keep tb b
 hb:∀t∈Ho loc ops a,t∉IK loc ops b
 ht:∀t∈G6 loc ops ta a,t∉G6 loc ops tb b/\t∉Ho loc ops b
theorem uz{keep loc:List Nat}{ta tb:Bool}{a b:Oper}(h:mX keep loc ops ta tb a b=false):x4 keep loc ops ta tb a b:=by
 unfold mX at h;simp only[Ew] at h;obtain⟨⟨h1,h2⟩,h3⟩:=h;refine⟨λt ht=>?_,λt ht=>mG h2 ht,λt ht=>?_⟩
 ·have:=mG h1 (t:=t) (by simpa using ht)
  simp only[Bn,not_or] at this;exact⟨this.1.1.1,this.1.1.2,this.1.2,this.2⟩
 ·have:=mG h3 ht
  simp only[Bn,not_or] at this;exact this
end
section
variable {ans:FuncId->AF}{an:AF}{tm:List Slot}{rs:RS}{ops:Array Oper}{po pa ta tb:Bool}{o a:Oper}{puts:List (Nat×Slot)}{g:AH->AH}
theorem oE(hE:EffO ans an tm ops po ta o rs puts g)(H:x4 an.keep an.loc ops ta tb o a){t:Nat}(ht:t∉o.dst.toList)(hc:t∉cons an.keep ta o) :
  RS.look an.keep tm ⟨puts++rs.sc,g rs.sto⟩ t=rs.look an.keep tm t\/(t∈Ho an.loc ops o/\∃c c',rs.look an.keep tm t=.box c/\RS.look an.keep tm ⟨puts++rs.sc,g rs.sto⟩ t=.box c') \/
   (t∈G6 an.loc ops ta o/\∃c c',rs.look an.keep tm t=.box c/\RS.look an.keep tm ⟨puts++rs.sc,g rs.sto⟩ t=.box c'/\c'.map Cell.get=c.map Cell.get):=by
 rw[jm];cases DU:bU puts t with
 |none=>exact .inl rfl
 |some s =>
  have hm:=gD DU;rcases hE.keys _ hm with h|h|⟨h,c,c',h1,h2⟩|⟨h,c,c',h1,h2,h3⟩|⟨_,b,h1,h2⟩
  ·exact absurd h ht
  ·exact absurd h hc
  ·exact .inr (.inl ⟨h,c,c',h1,h2⟩)
  ·exact .inr (.inr ⟨h,c,c',h1,h2,h3⟩)
  ·exact .inl (by show s=_;rw[show s=.val (.bool b) from h1];exact h2.symm)
theorem qP{loc:List Nat}{t:Nat}(h:t∈Ho loc ops a):t∈IK loc ops a:=by
 unfold Ho at h;unfold IK
 split at h
 ·rename_i he;simp only[he];exact h
 ·simp at h
theorem qL{loc:List Nat}{t:Nat}(h:t∈G6 loc ops tb a):t∈IK loc ops a:=by
 unfold G6 at h;unfold IK
 split at h
 ·rename_i he
  simp only[he]
  split at h
  ·exact h
  ·simp at h
 ·simp at h
theorem yu(hE:EffO ans an tm ops po ta o rs puts g)(H:x4 an.keep an.loc ops ta tb o a)(A7:match cI ans an.loc ops pa tb a with
  |.p=>True
  |.r=>stoAg (g rs.sto) rs.sto
  |_=>rs.sto=g rs.sto):AgrO ans an tm ops pa tb a ⟨puts++rs.sc,g rs.sto⟩ rs:=by
 have nd:∀t,t∈F3 ops a\/t∈IK an.loc ops a->t∉o.dst.toList/\t∉cons an.keep ta o:=λt ht =>
  ⟨λh=>by have:=H.hw t (.inl h);rcases ht with ht|ht;exact this.1 ht;exact this.2.1 ht,λh=>by have:=H.hw t (.inr h);rcases ht with ht|ht;exact this.1 ht;exact this.2.1 ht⟩
 refine⟨λt ht=>?_,λu hu c hc=>?_,λu hu=>?_,A7⟩
 ·obtain⟨h1,h2⟩:=nd t (.inl ht)
  rcases oE hE H h1 h2 with h|⟨_,c,c',h3,h4⟩|⟨_,c,c',h3,h4,_⟩
  ·exact .inl h.symm
  ·exact .inr ⟨c',c,h4,h3⟩
  ·exact .inr ⟨c',c,h4,h3⟩
 ·obtain⟨h1,h2⟩:=nd u (.inr hu)
  rcases oE hE H h1 h2 with h|⟨h,_⟩|⟨_,c1,c',h3,h4,h5⟩
  ·rw[h] at hc;exact⟨c,hc,rfl⟩
  ·exact absurd hu (H.hb u h)
  ·rw[h4] at hc;cases hc;exact⟨c1,h3,h5.symm⟩
 ·have OZ:u∈IK an.loc ops a:=hu.elim qP qL
  obtain⟨h1,h2⟩:=nd u (.inr OZ);rcases oE hE H h1 h2 with h|⟨h,_⟩|⟨h,_⟩
  ·exact h.symm
  ·exact absurd OZ (H.hb u h)
  ·rcases hu with hu|hu
   ·exact absurd hu (H.ht u h).2
   ·exact absurd hu (H.ht u h).1
end
section
variable {ans:FuncId->AF}{an:AF}{tm:List Slot}{rs rs0:RS}{ops:Array Oper}{po pa ta tb:Bool}{o a:Oper}{puts:List (Nat×Slot)}{g:AH->AH}
theorem mw(hE:EffO ans an tm ops pa tb a rs0 puts g)(H:x4 an.keep an.loc ops tb ta a o)(H4:∀u,(u∈Ho an.loc ops a\/u∈G6 an.loc ops tb a\/u∈F3 ops a)->agS (rs0.look an.keep tm u) (rs.look an.keep tm u)/\((u∈Ho an.loc ops a\/u∈G6 an.loc ops tb a)->rs.look an.keep tm u=rs0.look an.keep tm u))
  (A7:match cI ans an.loc ops po ta o with
  |.p=>True
  |.r=>stoAg rs.sto (g rs.sto)
  |_=>g rs.sto=rs.sto):AgrO ans an tm ops po ta o rs ⟨puts++rs.sc,g rs.sto⟩:=by
 have look:∀t,t∉a.dst.toList->t∉cons an.keep tb a->RS.look an.keep tm ⟨puts++rs.sc,g rs.sto⟩ t=rs.look an.keep tm t\/(t∈Ho an.loc ops a/\∃c c',rs.look an.keep tm t=.box c/\RS.look an.keep tm ⟨puts++rs.sc,g rs.sto⟩ t=.box c') \/
   (t∈G6 an.loc ops tb a/\∃c c',rs.look an.keep tm t=.box c/\RS.look an.keep tm ⟨puts++rs.sc,g rs.sto⟩ t=.box c'/\c'.map Cell.get=c.map Cell.get):=λt h1 h2=>by
  rw[jm];cases DU:bU puts t with
  |none=>exact .inl rfl
  |some s =>
   have hm:=gD DU;rcases hE.keys _ hm with h|h|⟨h,c,c',h3,h4⟩|⟨h,c,c',h3,h4,h5⟩|⟨h,b,h3,h4⟩
   ·exact absurd h h1
   ·exact absurd h h2
   ·exact .inr (.inl ⟨h,c,c',by rw[(H4 t (.inl h)).2 (.inl h)];exact h3,h4⟩)
   ·exact .inr (.inr ⟨h,c,c',by rw[(H4 t (.inr (.inl h))).2 (.inr h)];exact h3,h4,h5⟩)
   ·left
    have h6:=(H4 t (.inr (.inr h))).1.eq (by rw[show rs0.look an.keep tm t=.val (.bool b) from h4];simp);show s=_;rw[show s=.val (.bool b) from h3,h6];exact h4.symm
 have nd:∀t,t∈F3 ops o\/t∈IK an.loc ops o->t∉a.dst.toList/\t∉cons an.keep tb a:=λt ht =>
  ⟨λh=>by have:=H.hw t (.inl h);rcases ht with ht|ht;exact this.1 ht;exact this.2.1 ht,λh=>by have:=H.hw t (.inr h);rcases ht with ht|ht;exact this.1 ht;exact this.2.1 ht⟩
 refine⟨λt ht=>?_,λu hu c hc=>?_,λu hu=>?_,A7⟩
 ·obtain⟨h1,h2⟩:=nd t (.inl ht)
  rcases look t h1 h2 with h|⟨_,c,c',h3,h4⟩|⟨_,c,c',h3,h4,_⟩
  ·exact .inl h
  ·exact .inr ⟨c,c',h3,h4⟩
  ·exact .inr ⟨c,c',h3,h4⟩
 ·obtain⟨h1,h2⟩:=nd u (.inr hu)
  rcases look u h1 h2 with h|⟨h,_⟩|⟨_,c1,c',h3,h4,h5⟩
  ·exact⟨c,by rw[h];exact hc,rfl⟩
  ·exact absurd hu (H.hb u h)
  ·rw[h3] at hc;cases hc;exact⟨c',h4,h5⟩
 ·have OZ:u∈IK an.loc ops o:=hu.elim qP qL
  obtain⟨h1,h2⟩:=nd u (.inr OZ);rcases look u h1 h2 with h|⟨h,_⟩|⟨h,_⟩
  ·exact h
  ·exact absurd OZ (H.hb u h)
  ·rcases hu with hu|hu
   ·exact absurd hu (H.ht u h).2
   ·exact absurd hu (H.ht u h).1
end
section
variable {P:Program}{ans:FuncId->AF}{an:AF}{R:Type}{r:R}
variable {tm:List Slot}{rs:RS}{ops:Array Oper}{po pa ta tb:Bool}{cf:aJ}{o a:Oper}{g:AH->AH}
def effSto(cl:Cls)(s s':AH):Prop:=match cl with|.t=>stoAg s s'|.w=>True|.x=>True|_=>s'=s
def agrSto(cl:Cls)(s s':AH):Prop:=match cl with|.p=>True|.r=>stoAg s s'|_=>s'=s
theorem stoAg.symm{s s':AH}(h:stoAg s s'):stoAg s' s:=⟨h.lo.symm,h.len.symm,λi=>by
  rcases h.objs i with h'|⟨c1,c2,h1,h2,h3⟩
  ·exact .inl h'.symm
  ·exact .inr ⟨c2,c1,h2,h1,h3.symm⟩⟩
theorem aAS{co ca:Cls}(BM:co.clash ca=false){s s':AH}(h:effSto co s s'):agrSto ca s' s:=by
 cases co<;>cases ca<;>first
  |trivial
  |(simp[Cls.clash] at BM;done)
  |exact stoAg.symm h
  |(have h':s'=s:=h;subst h';first|rfl|exact stoAg.refl _)
end
section
variable {P:Program}{ans:FuncId->AF}{an:AF}{R:Type}{r:R}
variable {tm:List Slot}{rs:RS}{ops:Array Oper}{cf:aJ}{o a:Oper}{rid i j:Nat}{g:AH->AH}
def One(P:Program)(ans:FuncId->AF)(an:AF)(cf:aJ)(tm:List Slot)(rid:Nat)(ops:Array Oper)(o:Oper)(i:Nat)(rs AX:RS):Prop :=
 ∀(R2:Type)(next:RS->Option R2),iX P ans an true cf tm rid ops (λ_ _=>none) o i rs next=next AX
structure ej (an:AF) (ops:Array Oper) (o:Oper):Prop where
 mem:o∈ops.toList
 dst:∀d,o.dst=some d->an.loc.contains d=true->∀o'∈ops.toList,eF o'≠some d
theorem rO(DB:eU ans cf)(hn:noRef tm)(ho:ej an ops o){next:RS->Option R}{rs2:RS}(hq:RSeq rs rs2)(hR:RefIn ops rs)(e:iX P ans an true cf tm rid ops (λ_ _=>none) o i rs next=some r) :
  ∃AX D0,One P ans an cf tm rid ops o i rs AX/\One P ans an cf tm rid ops o i rs2 D0/\RSeq AX D0/\RefIn ops AX/\next AX=some r:=by
 obtain⟨Wm,g',e1',RW,hE'⟩:=mJ DB hn ho.mem ho.dst (RSeq.refl rs).agrO hR hR e;have e2:=RW RS some;obtain⟨puts,g,e1,h2,hE⟩:=mJ DB hn ho.mem ho.dst hq.agrO hR (hq.refIn hR) e2;refine⟨_,_,RW,h2,?_,hR.app hE'.ref,e1'⟩;rw[<-Bp e1];exact hq.app puts g
theorem agrSto.symm{c0:Cls}{s s':AH}(h:agrSto c0 s s'):agrSto c0 s' s:=by
 cases c0<;>first|trivial|exact stoAg.symm h|exact Eq.symm h
theorem EffO.effSto{AA tk:Bool}{puts:List (Nat×Slot)}(h:EffO ans an tm ops AA tk o rs puts g):AM.effSto (cI ans an.loc ops AA tk o) rs.sto (g rs.sto):=by
 have:=h.sto
 unfold AM.effSto
 split at this<;>simp_all
theorem EffO.effId{AA tk:Bool}{puts:List (Nat×Slot)}(h:EffO ans an tm ops AA tk o rs puts g)(hc:cI ans an.loc ops AA tk o=.p\/cI ans an.loc ops AA tk o=.r\/cI ans an.loc ops AA tk o=.c):g=id:=by
 have:=h.sto
 rcases hc with hc|hc|hc<;>(rw[hc] at this;exact this)
theorem aAH{ta tb po pa:Bool}{rs0:RS}{p1 p2:List (Nat×Slot)}{g1 g2:AH->AH}(h1:EffO ans an tm ops po ta o rs p1 g1)(h2:EffO ans an tm ops pa tb a rs0 p2 g2)(H1:x4 an.keep an.loc ops ta tb o a)(H2:x4 an.keep an.loc ops tb ta a o)
  (hrd:∀t,t∈F3 ops o->t∈F3 ops a->∀b,rs.look an.keep tm t=.val (.bool b)->rs0.look an.keep tm t=.val (.bool b)) (X2:∀t c,t∈Ho an.loc ops a\/t∈G6 an.loc ops tb a->rs0.look an.keep tm t=.box c->∃c',rs.look an.keep tm t=.box c')
  (Oi:∀t c,t∈F3 ops a->rs.look an.keep tm t=.box c->∃c',rs0.look an.keep tm t=.box c') {t:Nat} {s1 s2:Slot} (ha:bU p1 t=some s1) (hb:bU p2 t=some s2):s1=s2:=by
 have k1:=h1.keys _ (gD ha);have k2:=h2.keys _ (gD hb);simp only at k1 k2
 have dc:∀(k:t∈o.dst.toList\/t∈cons an.keep ta o),False:=λk=>by
  obtain⟨n1,n2,n3,n4⟩:=H1.hw t k;rcases k2 with k|k|⟨k,_⟩|⟨k,_⟩|⟨k,_⟩
  ·exact n3 k
  ·exact n4 k
  ·exact n2 (qP k)
  ·exact n2 (qL k)
  ·exact n1 k
 have NP:∀(k:t∈a.dst.toList\/t∈cons an.keep tb a),False:=λk=>by
  obtain⟨n1,n2,n3,n4⟩:=H2.hw t k;rcases k1 with k|k|⟨k,_⟩|⟨k,_⟩|⟨k,_⟩
  ·exact n3 k
  ·exact n4 k
  ·exact n2 (qP k)
  ·exact n2 (qL k)
  ·exact n1 k
 rcases k1 with k|k|⟨k,c,c',e1,e2⟩|⟨k,c,c',e1,e2,e3⟩|⟨k,b,e1,e2⟩
 ·exact(dc (.inl k)).elim
 ·exact(dc (.inr k)).elim
 ·rcases k2 with m|m|⟨m,_⟩|⟨m,_⟩|⟨m,b',f1,f2⟩
  ·exact(NP (.inl m)).elim
  ·exact(NP (.inr m)).elim
  ·exact absurd (qP m) (H1.hb t k)
  ·exact absurd (qL m) (H1.hb t k)
  ·obtain⟨c2,CV⟩:=Oi t c m e1
   rw[f2] at CV;cases CV
 ·rcases k2 with m|m|⟨m,_⟩|⟨m,_⟩|⟨m,b',f1,f2⟩
  ·exact(NP (.inl m)).elim
  ·exact(NP (.inr m)).elim
  ·exact absurd m (H1.ht t k).2
  ·exact absurd m (H1.ht t k).1
  ·obtain⟨c2,CV⟩:=Oi t c m e1
   rw[f2] at CV;cases CV
 ·rcases k2 with m|m|⟨m,c,c',f1,f2⟩|⟨m,c,c',f1,f2,f3⟩|⟨m,b',f1,f2⟩
  ·exact(NP (.inl m)).elim
  ·exact(NP (.inr m)).elim
  ·obtain⟨c2,CV⟩:=X2 t c (.inl m) f1
   rw[e2] at CV;cases CV
  ·obtain⟨c2,CV⟩:=X2 t c (.inr m) f1
   rw[e2] at CV;cases CV
  ·have:=hrd t k m b e2
   rw[f2] at this;cases this;rw[e1,f1]
theorem aBg{p1 p2 l:List (Nat×Slot)}(h:∀t s1 s2,bU p1 t=some s1->bU p2 t=some s2->s1=s2)(t:Nat):bU (p2++(p1++l)) t=bU (p1++(p2++l)) t:=by
 simp only[fO];cases h1:bU p1 t with
 |none=>cases h2:bU p2 t<;>rfl
 |some s1=>cases h2:bU p2 t with
  |none=>rfl
  |some s2=>simp only;rw[h t s1 s2 h1 h2]
theorem yT(c0:Cls)(s s':AH):agrSto c0 s s'=(match c0 with
  |.p=>True
  |.r=>stoAg s s'
  |_=>s'=s):=by cases c0<;>rfl
theorem comm(DB:eU ans cf)(hn:noRef tm)(ho:ej an ops o)(ha:ej an ops a){next:RS->Option R}(hR:RefIn ops rs)
  (BM:(cI ans an.loc ops (an.pure.contains (rid,i)) (an.take.contains (rid,i)) o).clash (cI ans an.loc ops (an.pure.contains (rid,j)) (an.take.contains (rid,j)) a)=false)
  (H1:x4 an.keep an.loc ops (an.take.contains (rid,i)) (an.take.contains (rid,j)) o a) (H2:x4 an.keep an.loc ops (an.take.contains (rid,j)) (an.take.contains (rid,i)) a o)
  (e:iX P ans an true cf tm rid ops (λ_ _=>none) o i rs (λAX=>iX P ans an true cf tm rid ops (λ_ _=>none) a j AX next)=some r) :
  ∃rs1 Lo rs2,next rs1=some r/\One P ans an cf tm rid ops a j rs Lo/\One P ans an cf tm rid ops o i Lo rs2/\RSeq rs1 rs2/\RefIn ops rs1:=by
 obtain⟨p1,g1,e1,k1,E1⟩:=mJ DB hn ho.mem ho.dst (RSeq.refl rs).agrO hR hR e
 let Qk:RS:=⟨p1++rs.sc,g1 rs.sto⟩
 have X4:RefIn ops Qk:=hR.app E1.ref;have Su:=aAS BM E1.effSto;have A1:AgrO ans an tm ops (an.pure.contains (rid,j)) (an.take.contains (rid,j)) a Qk rs:=yu E1 H1 (Eq.mp (yT _ _ _) Su);obtain⟨p2,g2,e2,k2,E2⟩:=mJ DB hn ha.mem ha.dst A1 X4 hR e1
 let Lo:RS:=⟨p2++rs.sc,g2 rs.sto⟩
 have hRA:RefIn ops Lo:=hR.app E2.ref
 have Lb:(∀p g,EffO ans an tm ops (an.pure.contains (rid,i)) (an.take.contains (rid,i)) o rs p g->g=id)\/g2=id:=by
  generalize Te:cI ans an.loc ops (an.pure.contains (rid,i)) (an.take.contains (rid,i)) o=co at BM;generalize Tf:cI ans an.loc ops (an.pure.contains (rid,j)) (an.take.contains (rid,j)) a=ca at BM;cases co with
  |p=>exact .inl λp g h=>h.effId (.inl Te)
  |r=>exact .inl λp g h=>h.effId (.inr (.inl Te))
  |c=>exact .inl λp g h=>h.effId (.inr (.inr Te))
  |t=>cases ca with
   |p=>exact .inr (E2.effId (.inl Tf))
   |r=>exact .inr (E2.effId (.inr (.inl Tf)))
   |_=>simp[Cls.clash] at BM
  |w=>cases ca with
   |p=>exact .inr (E2.effId (.inl Tf))
   |_=>simp[Cls.clash] at BM
  |x=>cases ca<;>simp[Cls.clash] at BM
 have Ss:agrSto (cI ans an.loc ops (an.pure.contains (rid,i)) (an.take.contains (rid,i)) o) rs.sto (g2 rs.sto):=by
  rcases Lb with h|h
  ·have h1:=h _ _ E1
   have h2:=E2.effSto;have hs:Qk.sto=rs.sto:=by show g1 rs.sto=rs.sto;rw[h1];rfl
   rw[hs] at h2;generalize cI ans an.loc ops (an.pure.contains (rid,i)) (an.take.contains (rid,i)) o=co at BM;generalize cI ans an.loc ops (an.pure.contains (rid,j)) (an.take.contains (rid,j)) a=ca at BM h2
   cases co<;>cases ca<;>first
    |trivial
    |(simp[Cls.clash] at BM;done)
    |exact h2
    |(have h':g2 rs.sto=rs.sto:=h2
      show stoAg rs.sto (g2 rs.sto);rw[h'];exact stoAg.refl _)
  ·rw[h]
   unfold agrSto;split
   ·trivial
   ·exact stoAg.refl _
   ·rfl
 have A2:AgrO ans an tm ops (an.pure.contains (rid,i)) (an.take.contains (rid,i)) o rs Lo:=mw E2 H2 (λu hu=>by
   refine⟨?_,λh=>A1.wb u h⟩;rcases hu with hu|hu|hu
   ·exact .inl (A1.wb u (.inl hu))
   ·exact .inl (A1.wb u (.inr hu))
   ·exact A1.rd u hu) (Eq.mp (yT _ _ _) Ss)
 obtain⟨SZ,UL,e3,k3,E3⟩:=mJ DB hn ho.mem ho.dst A2 hR hRA (k1 RS some);have XZ:=Bp e3;have hp:SZ=p1:=List.append_cancel_right (Dp RS.sc XZ);have hg:UL rs.sto=g1 rs.sto:=Dp RS.sto XZ;subst hp;refine⟨⟨p2++(SZ++rs.sc),g2 (g1 rs.sto)⟩,Lo,⟨SZ++(p2++rs.sc),UL (g2 rs.sto)⟩,e2,k2,k3,⟨λt=>aBg (λt s1 s2 h1 h2=>?_) t,?_⟩,X4.app E2.ref⟩
 ·refine aAH (rs0:=Qk) E1 E2 H1 H2 (λt _ ht b hb=>?_) (λt c h hc=>⟨c,(A1.wb t h).trans hc⟩) (λt c ht hc=>?_) h1 h2
  ·rcases A1.rd t ht with h|⟨c1,c2,_,h⟩
   ·rw[<-h];exact hb
   ·rw[h] at hb;cases hb
  ·rcases A1.rd t ht with h|⟨c1,c2,h,_⟩
   ·exact⟨c,h▸hc⟩
   ·exact⟨c1,h⟩
 ·show g2 (g1 rs.sto)=UL (g2 rs.sto)
  rcases Lb with h|h
  ·rw[h _ _ E1,h _ _ E3];rfl
  ·rw[h];exact hg.symm
end
section
variable {P:Program}{ans:FuncId->AF}{an:AF}{R:Type}{r:R}
variable {tm:List Slot}{rs:RS}{ops:Array Oper}{cf:aJ}{o a:Oper}{rid i j:Nat}
structure Fit (ans:FuncId->AF) (an:AF) (rid:Nat) (ops:Array Oper):Prop where
 ok:∀(i:Nat)(o:Oper),ops[i]?=some o->ej an ops o
 edge:∀(i:Nat)(o:Oper),ops[i]?=some o->∀e∈o.after.toList,Region.binds .any e=true->e.on<i
 free:∀(i j:Nat)(a b:Oper),i<j->ops[i]?=some a->ops[j]?=some b->((Region.before ops).getD j 0).testBit i=true \/
  ((cI ans an.loc ops (an.pure.contains (rid,i)) (an.take.contains (rid,i)) a).clash (cI ans an.loc ops (an.pure.contains (rid,j)) (an.take.contains (rid,j)) b)=false /\
    x4 an.keep an.loc ops (an.take.contains (rid,i)) (an.take.contains (rid,j)) a b/\x4 an.keep an.loc ops (an.take.contains (rid,j)) (an.take.contains (rid,i)) b a)
theorem aLB(h1:oI ans an rid ops=true)(h2:Lt ans an rid ops=true):Fit ans an rid ops:=by
 have hx:∀(i:Nat)(o:Oper),ops[i]?=some o->(o.after.all (λe=>!Region.binds .any e||Nat.blt e.on i)=true /\
   (match o.dst with|some d=>!an.loc.contains d||ops.all (λo=>match eF o with|some t=>!Nat.beq t d|none=>true)|none=>true)=true):=λi o ho=>by
  have AL:i<ops.size:=(Ai.1 ho).1
  have:=As.1 h2 i (Co.2 AL)
  rw[ho] at this;simp only[Ac] at this;exact⟨this.1.2,this.2⟩
 refine⟨λi o ho=>⟨?_,λd hd hl o' E7 he=>?_⟩,λi o ho e he hb=>?_,λi j a b Gw ha hb=>?_⟩
 ·exact Ba (by rw[Cn];exact ho)
 ·have:=(hx i o ho).2
  rw[hd] at this;simp only[hl,Fc,Bool.false_or] at this;rw[<-Dy] at this
  have:=As.1 this o' E7
  rw[he] at this;simp only[Cu] at this;rw[show Nat.beq d d=true from Cj d] at this;cases this
 ·have:=(hx i o ho).1
  rw[<-Dy] at this
  have:=As.1 this e he
  simpa[hb,Ct] using this
 ·have hj:j<ops.size:=(Ai.1 hb).1
  have:=As.1 (As.1 h1 j (Co.2 hj)) i (Co.2 Gw)
  rw[ha,hb] at this;simp only[Ch,Cu,Ew] at this;rcases this with h|⟨⟨h,h'⟩,Lj⟩
  ·exact .inl h
  ·exact .inr ⟨h,uz h',uz Lj⟩
theorem wN(DB:eU ans cf)(hn:noRef tm)(hF:Fit ans an rid ops){kn:RS->Option R}(hk:∀rs1 rs2:RS,RSeq rs1 rs2->kn rs1=kn rs2):∀{l:List Nat}{rs1 rs2:RS},RSeq rs1 rs2->RefIn ops rs1 ->
  iD P ans an true cf tm rid ops (λ_ _=>none) kn l rs1=some r->iD P ans an true cf tm rid ops (λ_ _=>none) kn l rs2=some r
 |[],rs1,rs2,hq,hR,e=>by
  simp only[iD] at e ⊢;rw[<-hk _ _ hq];exact e
 |i::l,rs1,rs2,hq,hR,e=>by
  simp only[iD] at e ⊢
  split at e
  ·rename_i o ho
   obtain⟨AX,D0,a1,a2,a3,a4,a5⟩:=rO DB hn (hF.ok i o ho) hq hR e;rw[a2];exact wN DB hn hF hk a3 a4 a5
  ·cases e
theorem wO(DB:eU ans cf)(hn:noRef tm)(hF:Fit ans an rid ops){kn:RS->Option R}(hk:∀rs1 rs2:RS,RSeq rs1 rs2->kn rs1=kn rs2){i:Nat}{l:List Nat}:∀{pre:List Nat}{rs:RS},(∀p∈pre,p<i/\((Region.before ops).getD i 0).testBit p=false)->RefIn ops rs ->
  iD P ans an true cf tm rid ops (λ_ _=>none) kn (pre++i::l) rs=some r->iD P ans an true cf tm rid ops (λ_ _=>none) kn (i::(pre++l)) rs=some r
 |[],rs,hp,hR,e=>e
 |p::pre,rs,hp,hR,e=>by
  simp only[De,iD] at e ⊢
  split at e
  case h_2=>cases e
  rename_i o ho;obtain⟨AX,D0,a1,a2,a3,a4,a5⟩:=rO DB hn (hF.ok p o ho) (RSeq.refl rs) hR e;have ih:=wO DB hn hF hk (l:=l) (λq hq=>hp q (by simp[hq])) a4 a5;simp only[iD] at ih
  split at ih
  case h_2=>cases ih
  rename_i a ha;have CH:=hF.free p i o a (hp p (by simp)).1 ho ha;rw[(hp p (by simp)).2] at CH;obtain⟨BM,H1,H2⟩:=CH.resolve_left (by simp);have e2:iX P ans an true cf tm rid ops (λ_ _=>none) o p rs (λAX=>iX P ans an true cf tm rid ops (λ_ _=>none) a i AX λAX=>iD P ans an true cf tm rid ops (λ_ _=>none) kn (pre++l) AX)=some r:=by rw[a1];exact ih
  obtain⟨rs1,Lo,rs2,b1,b2,b3,b4,b5⟩:=comm DB hn (hF.ok p o ho) (hF.ok i a ha) hR BM H1 H2 e2;rw[b2];rw[b3];exact wN DB hn hF hk b4 b5 b1
def Inv(ops:List Oper)(acc:Array Nat):Prop:=acc.size<=ops.length/\∀(j p:Nat),(acc.getD j 0).testBit p=true->∃o:Oper,ops[j]?=some o/\∃e∈o.after.toList,Region.binds .any e=true/\(p=e.on\/(acc.getD e.on 0).testBit p=true)
theorem oA(acc:Array Nat)(p:Nat):∀(l:List Edge)(s:Nat),(l.foldl (λs e=>if Region.binds .any e then s ||| 2^e.on ||| acc.getD e.on 0 else s) s).testBit p=true ->
  s.testBit p=true\/∃e∈l,Region.binds .any e=true/\(p=e.on\/(acc.getD e.on 0).testBit p=true)
 |[],s,h=>.inl h
 |e::l,s,h=>by
  simp only[Ek] at h;rcases oA acc p l _ h with h|⟨e',h1,h2⟩
  ·split at h
   ·rename_i hb
    simp only[Ey,Ei,Ch,Cf] at h;rcases h with(h|h)|h
    ·exact .inl h
    ·exact .inr ⟨e,by simp,hb,.inl h.symm⟩
    ·exact .inr ⟨e,by simp,hb,.inr h⟩
   ·exact .inl h
  ·exact .inr ⟨e',by simp[h1],h2⟩
theorem im:∀(l done:List Oper)(acc:Array Nat),acc.size=done.length->Inv (done++l) acc ->
  Inv (done++l) (l.foldl (λacc o=>acc.push (o.after.foldl (λs e=>if Region.binds .any e then s ||| 2^e.on ||| acc.getD e.on 0 else s) 0)) acc)
 |[],done,acc,hs,h=>h
 |o::l,done,acc,hs,h=>by
  simp only[Ek];rw[show done++o::l=(done++[o])++l by simp] at h ⊢;refine im l (done++[o]) _ (by simp[hs]) ⟨by simp[hs],λj p hb=>?_⟩;generalize hv:o.after.foldl (λs e=>if Region.binds .any e then s ||| 2^e.on ||| acc.getD e.on 0 else s) 0=v at hb ⊢
  have grow:∀k,(acc.getD k 0).testBit p=true->((acc.push v).getD k 0).testBit p=true:=λk hk=>by
   have AL:k<acc.size:=by
    rcases Dh k acc.size with h'|h'
    ·exact h'
    ·rw[Ae,Gf h'] at hk;simp at hk
   rw[Ae,Array.getElem?_push_lt AL];rw[Ae,Bf AL] at hk;exact hk
  by_cases hj:j=acc.size
  ·subst hj
   rw[Ae] at hb;simp only[Array.getElem?_push_size,Ci] at hb;refine⟨o,by rw[hs,Aj,Bi (Af _)];simp,?_⟩;rw[<-hv,<-Dq] at hb;rcases oA acc p _ 0 hb with h'|⟨e,h1,h2,h3⟩
   ·simp at h'
   ·exact⟨e,h1,h2,h3.imp id (grow _)⟩
  ·have BB:(acc.getD j 0).testBit p=true:=by
    rw[Ae,Array.getElem?_push] at hb;rw[Bc hj] at hb;rw[Ae];exact hb
   obtain⟨o',h1,e,h2,h3,h4⟩:=h.2 j p BB;exact⟨o',h1,e,h2,h3,h4.imp id (grow _)⟩
theorem before_inv(ops:Array Oper):Inv ops.toList (Region.before ops):=by
 have:=im ops.toList [] #[] rfl ⟨by simp,λj p h=>by simp at h⟩
 unfold Region.before;rw[<-Dq];exact this
theorem iH(hF:Fit ans an rid ops)(S:Nat->Prop)(hS:∀(j:Nat)(o:Oper),S j->ops[j]?=some o->∀e∈o.after.toList,Region.binds .any e=true->S e.on):∀(n i:Nat),i<n->(∀o:Oper,ops[i]?=some o->∀e∈o.after.toList,Region.binds .any e=true->S e.on) ->
  ∀p,((Region.before ops).getD i 0).testBit p=true->S p
 |0,i,hi,_,p,_=>by omega
 |n+1,i,hi,RF,p,hb=>by
  obtain⟨o,ho,e,he,GN,h⟩:=(before_inv ops).2 i p hb;rw[Cn] at ho;have hs:=RF o ho e he GN;rcases h with h|h
  ·subst h;exact hs
  ·have:=hF.edge i o ho e he GN
   exact iH hF S hS n e.on (by omega) (λo' E7 e' HW BB=>hS e.on o' hs E7 e' HW BB) p h
def rem(n:Nat)(listed:Array Bool):List Nat:=(List.range n).filter λi=>!listed.getD i true
theorem qH(n:Nat):(List.range n).Pairwise (· < ·):=List.pairwise_lt_range
theorem da{n i:Nat}{listed:Array Bool}{pre post:List Nat}(h:rem n listed=pre++i::post)(hi:i<listed.size):rem n (listed.setIfInBounds i true)=pre++post:=by
 have hf:rem n (listed.setIfInBounds i true)=(rem n listed).filter (λk=>k != i):=by
  unfold rem;rw[List.filter_filter];apply List.filter_congr;intro k _;by_cases hk:k=i
  ·subst hk
   simp[Ae,Ec,hi]
  ·simp[Ae,Bk (Db hk),hk]
 have HQ:(rem n listed).Pairwise (· < ·):=(qH n).filter _;rw[h] at HQ;rw[Eu] at HQ;obtain⟨_,h2,h3⟩:=HQ;rw[Cc] at h2;rw[hf,h,List.filter_append,List.filter_cons];have e1:pre.filter (λk=>k != i)=pre:=El.2 λx hx=>by have:=h3 x hx i (by simp);simp;omega
 have e2:post.filter (λk=>k != i)=post:=El.2 λx hx=>by have:=h2.1 x hx;simp;omega
 simp[e1,e2]
theorem aJc(DB:eU ans cf)(hn:noRef tm)(hF:Fit ans an rid ops){kn:RS->Option R}(hk:∀rs1 rs2:RS,RSeq rs1 rs2->kn rs1=kn rs2):∀(fuel t:Nat)(listed:Array Bool)(rs:RS),listed.size=ops.size->(rem ops.size listed).length=fuel ->
  (∀(j:Nat)(o:Oper),listed.getD j false=true->ops[j]?=some o->∀e∈o.after.toList,Region.binds .any e=true->listed.getD e.on false=true)->RefIn ops rs ->
  iD P ans an true cf tm rid ops (λ_ _=>none) kn (rem ops.size listed) rs=some r->iD P ans an true cf tm rid ops (λ_ _=>none) kn (Region.linearise.go .any ops fuel t listed []) rs=some r
 |0,t,listed,rs,hs,hl,hc,hR,e=>by
  rw[Dn.1 hl] at e;simpa[Region.linearise.go] using e
 |fuel+1,t,listed,rs,hs,hl,hc,hR,e=>by
  have EH:∀i,i∈Region.ready .any ops listed↔i∈rem ops.size listed/\∀o:Oper,ops[i]?=some o->∀e∈o.after.toList,Region.binds .any e=true->listed.getD e.on false=true:=λi=>by
   unfold Region.ready rem;simp only[Dd,Co,Ac];constructor
   ·rintro⟨h1,h2,h3⟩
    refine⟨⟨h1,h2⟩,λo ho e he hb=>?_⟩;rw[ho] at h3;simp only[Bw,Ci] at h3;rw[<-Dy] at h3
    have:=As.1 h3 e he
    simpa[hb] using this
   ·rintro⟨⟨h1,h2⟩,h3⟩
    refine⟨h1,h2,?_⟩;rw[Bf h1];simp only[Bw,Ci];rw[<-Dy];refine As.2 λe he=>?_
    cases hb:Region.binds .any e with
    |false=>rfl
    |true=>simpa using h3 _ (Bf h1) e he hb
  have HQ:(rem ops.size listed).Pairwise (· < ·):=(qH _).filter _
  have BD:Region.ready .any ops listed≠[]:=by
   cases hr:rem ops.size listed with
   |nil=>rw[hr] at hl;simp at hl
   |cons m rest =>
    have hm:m∈Region.ready .any ops listed:=(EH m).2 ⟨by simp[hr],λo ho e he hb=>by
     have AL:=hF.edge m o ho e he hb;have hmn:m<ops.size:=(Ai.1 ho).1;cases hv:listed.getD e.on true with
     |true =>
      rw[Ae,Bf (by omega)] at hv ⊢;exact hv
     |false =>
      have:e.on∈rem ops.size listed:=by
       unfold rem;simp only[Dd,Co];exact⟨by omega,by rw[hv];rfl⟩
      rw[hr] at this HQ;rw[Cc] at HQ;rcases Au.1 this with h'|h'
      ·omega
      ·have:=HQ.1 _ h';omega⟩
    intro h0;rw[h0] at hm;cases hm
  simp only[Region.linearise.go]
  change iD P ans an true cf tm rid ops _ kn (match(Region.ready .any ops listed)[t%(Region.ready .any ops listed).length]? with
   |some i=>Region.linearise.go .any ops fuel (t/(Region.ready .any ops listed).length) (listed.setIfInBounds i true) [i]
   |none=>[].reverse) rs=some r
  cases hi:(Region.ready .any ops listed)[t%(Region.ready .any ops listed).length]? with
  |none =>
   exfalso;rw[Du] at hi;have CG:0<(Region.ready .any ops listed).length:=List.length_pos_iff.2 BD
   have:=Et t CG
   omega
  |some i =>
   simp only;rw[linearise_go_acc,Gc,Am];obtain⟨Hf,Jx⟩:=(EH i).1 (Ba hi)
   have G3:i<ops.size:=by
    unfold rem at Hf;exact Co.1 (Dd.1 Hf).1
   obtain⟨pre,post,G0⟩:=List.append_of_mem Hf;have fD:=da G0 (by omega);rw[G0] at e HQ;rw[Eu] at HQ
   have BL:∀p∈pre,p<i/\((Region.before ops).getD i 0).testBit p=false:=λp hp=>by
    refine⟨HQ.2.2 p hp i (by simp),?_⟩;cases hb:((Region.before ops).getD i 0).testBit p with
    |false=>rfl
    |true =>
     have h1:=iH hF (λj=>listed.getD j false=true) hc (i+1) i (by omega) Jx p hb;have h2:p∈rem ops.size listed:=by rw[G0];simp[hp]
     unfold rem at h2;have h3:=(Dd.1 h2).2;have h4:=Co.1 (Dd.1 h2).1;rw[Ae,Bf (by omega)] at h1 h3;simp only[Ci] at h1 h3;rw[h1] at h3;cases h3
   have e2:=wO DB hn hF hk BL hR e;simp only[iD] at e2 ⊢;rw[Bf G3] at e2 ⊢;simp only at e2 ⊢;obtain⟨AX,D0,a1,a2,a3,a4,a5⟩:=rO DB hn (hF.ok i _ (Bf G3)) (RSeq.refl rs) hR e2;rw[a1];refine aJc DB hn hF hk fuel _ _ AX (by simp[hs]) ?_ ?_ a4 (by rw[fD];exact a5)
   ·rw[fD]
    rw[G0] at hl;simp at hl ⊢;omega
   ·intro j o hj ho e' HW BB
    have mono:∀k,listed.getD k false=true->(listed.setIfInBounds i true).getD k false=true:=λk MT=>by
     by_cases hki:k=i
     ·subst hki
      simp[Ae,Ec,hs,G3]
     ·rw[Ae,Bk (Db hki),<-Ae];exact MT
    by_cases E4:j=i
    ·subst E4;exact mono _ (Jx o ho e' HW BB)
    ·rw[Ae,Bk (Db E4),<-Ae] at hj
     exact mono _ (hc j o hj ho e' HW BB)
theorem uh(hm:P.follows .mixedOrders=true)(DB:eU ans cf):iC P ans cf:=by
 refine⟨hm,λR fid tm rid ops kn rs r h1 h2 hn Hw hk e t=>?_⟩;have hF:=aLB h1 h2
 have hrem:rem ops.size (Array.replicate ops.size false)=List.range ops.size:=by
  unfold rem;refine El.2 λk MT=>?_
  have:=Co.1 MT
  simp[Ae,Dl,this]
 unfold Region.linearise;refine aJc DB hn hF (λrs1 rs2 hq=>hk rs1 rs2 hq.1 hq.2) ops.size t _ rs (by simp) (by rw[hrem];simp) (λj o hj ho=>?_) (λt u x hl=>by rw[Hw] at hl;simp[bU] at hl) (by rw[hrem];exact e);rw[Ae,Dl] at hj
 split at hj<;>simp at hj
end
end Go.AM
