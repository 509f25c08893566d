import Derived.Test.YtdkkaldimefljaaGreatDoorA07
set_option linter.all false
namespace Go.AM
section
variable {P:Program}{ans:FuncId->AK}{an:AK}{R:Type}{r:R}
variable {tm:List Slot}{rs1 rs2:RS}{k1:Slot->RS->Option R}{ops:Array Oper}{AF tk:Bool}{cf:aO}{o:Oper}
variable {dst:Option Nat}{ty:TypeId}{pos:String}{AH:Array Edge}{gd:Option (Nat×Bool)}{kp:AVal->RS->Option R}{l:List Nat}
theorem aAP{x:Operand}{ty:TypeId}(h:agS (A9 an.keep tm rs1 x) (A9 an.keep tm rs2 x))(e:GL P an tm tk ty x rs1 k1=some r) :
  ∃s puts,k1 s ⟨puts++rs1.sc,rs1.sto⟩=some r/\(∀(R2:Type)(k2:Slot->RS->Option R2),GL P an tm tk ty x rs2 k2=k2 s ⟨puts++rs2.sc,rs2.sto⟩) /\
   (puts=[]\/∃t v,x=.tmp t/\(tk||!an.keep.contains t)=true/\puts=[(t,.val v)])/\∀u y,s=.ref u y->A9 an.keep tm rs1 x=.ref u y:=by
 unfold GL at e
 split at e
 ·rename_i t
  split at e
  ·rename_i sz xs BJ
   have h2:=h.eq (by rw[BJ];simp);rw[BJ] at h2
   split at e
   ·rename_i hk
    exact⟨_,[(t,.val (.slice xs))],e,λR2 k2=>by simp only[GL,h2,hk];rfl,.inr ⟨t,_,rfl,hk,rfl⟩,λu y he=>by cases he⟩
   ·rename_i hk
    exact⟨_,[],e,λR2 k2=>by simp only[GL,h2,hk];rfl,.inl rfl,λu y he=>by cases he⟩
  ·rename_i cs BJ
   have h2:=h.eq (by rw[BJ];simp);rw[BJ] at h2
   split at e
   ·rename_i hk
    exact⟨_,[(t,.val (.agg (cs.map Cell.get)))],e,λR2 k2=>by simp only[GL,h2,hk];rfl,.inr ⟨t,_,rfl,hk,rfl⟩,λu y he=>by cases he⟩
   ·rename_i hk
    exact⟨_,[],e,λR2 k2=>by simp only[GL,h2,hk];rfl,.inl rfl,λu y he=>by cases he⟩
  ·rename_i P7 LX
   have hs:=h.eq (λc hc=>by rw[hc] at e;simp[mv] at e);obtain⟨s,e,h2,h3⟩:=mq h e;refine⟨s,[],e,λR2 k2=>?_,.inl rfl,h3⟩;show GL P an tm tk ty (.tmp t) rs2 k2=k2 s rs2;rw[<-h2 R2 (λs'=>k2 s' rs2)];simp only[GL,hs]
 ·rename_i v
  split at e
  ·cases e
  ·rename_i hd
   refine⟨_,[],e,λR2 k2=>?_,.inl rfl,λu y he=>?_⟩
   ·simp only[GL];rfl
   ·unfold l8 at he
    split at he
    ·split at he<;>cases he
    ·unfold hJ at he;split at he
     ·cases he
     ·split at he<;>cases he
 ·rename_i Mh IU
  obtain⟨s,e,h2,h3⟩:=mq h e;refine⟨s,[],e,λR2 k2=>?_,.inl rfl,h3⟩;cases x with
  |tmp t=>exact absurd rfl (Mh t)
  |const v=>exact absurd rfl (IU v)
  |global g=>exact h2 R2 (λs'=>k2 s' rs2)
  |func f=>exact h2 R2 (λs'=>k2 s' rs2)
theorem aGm{x:Operand}(h:ET ans an tm ops AF tk ⟨dst,.move x,ty,pos,AH,gd⟩ rs1 rs2)(e:aD P ans an true AF l cf tm tk ⟨dst,.move x,ty,pos,AH,gd⟩ rs1 kp k1=some r):Two P ans an tm ops AF tk cf ⟨dst,.move x,ty,pos,AH,gd⟩ rs1 rs2 k1 r:=by
 have hx:=h.opd x (by simp[Op.operands]);simp only[aD] at e;obtain⟨s,puts,e,h2,h3,h4⟩:=aAP hx e;refine⟨s,puts,id,e,λR2 BL k2=>by simp only[aD];exact h2 R2 k2,?_,?_,λu y he=>?_,rfl⟩
 ·rcases h3 with rfl|⟨t,v,rfl,hk,rfl⟩
  ·simp
  ·intro p hp;simp at hp;subst hp;left;simp only[cons,hk,Dk];simp
 ·rcases h3 with rfl|⟨t,v,rfl,hk,rfl⟩
  ·simp
  ·intro p hp u y;simp at hp;subst hp;simp
 ·obtain⟨t,ht,hl⟩:=r9 (h4 u y he)
  exact .inr ⟨t,oY ht (by simp[Op.operands]),y,hl⟩
theorem zr{x:Operand}(h:ET ans an tm ops AF tk ⟨dst,.assign x,ty,pos,AH,gd⟩ rs1 rs2)(e:aD P ans an true AF l cf tm tk ⟨dst,.assign x,ty,pos,AH,gd⟩ rs1 kp k1=some r):Two P ans an tm ops AF tk cf ⟨dst,.assign x,ty,pos,AH,gd⟩ rs1 rs2 k1 r:=by
 have hx:=h.opd x (by simp[Op.operands]);simp only[aD] at e;obtain⟨s,puts,e,h2,h3,h4⟩:=aAP hx e;refine⟨s,puts,id,e,λR2 BL k2=>by simp only[aD];exact h2 R2 k2,?_,?_,λu y he=>?_,rfl⟩
 ·rcases h3 with rfl|⟨t,v,rfl,hk,rfl⟩
  ·simp
  ·intro p hp;simp at hp;subst hp;left;simp only[cons,hk,Dk];simp
 ·rcases h3 with rfl|⟨t,v,rfl,hk,rfl⟩
  ·simp
  ·intro p hp u y;simp at hp;subst hp;simp
 ·obtain⟨t,ht,hl⟩:=r9 (h4 u y he)
  exact .inr ⟨t,oY ht (by simp[Op.operands]),y,hl⟩
theorem aCF{t:TypeId}(h:ET ans an tm ops AF tk ⟨dst,.alloc t,ty,pos,AH,gd⟩ rs1 rs2)(e:aD P ans an true AF l cf tm tk ⟨dst,.alloc t,ty,pos,AH,gd⟩ rs1 kp k1=some r):Two P ans an tm ops AF tk cf ⟨dst,.alloc t,ty,pos,AH,gd⟩ rs1 rs2 k1 r:=by
 simp only[aD] at e;obtain⟨z,hz,e⟩:=aC e;obtain⟨s,hs,e⟩:=aC e;obtain⟨hg,e⟩:=aB e;cases dst with
 |none=>cases e
 |some d =>
  cases hl:an.loc.contains d with
  |true =>
   simp only[hl] at e;exact .plain e (λR2 BL k2=>by simp only[aD,hz,hs,Ai,aF hg,hl]) (λu y he=>by cases he)
  |false =>
   simp only[hl] at e;have DH:cN ans an.loc ops AF tk ⟨some d,.alloc t,ty,pos,AH,gd⟩=.w:=by simp only[cN,hl];rfl
   have A7:rs2.sto=rs1.sto:=by have:=h.sto;rw[DH] at this;exact this
   refine⟨_,[],λsto=>{ sto with objs:=sto.objs++[.box z] },e,λR2 BL k2=>?_,by simp,by simp,(λu y he=>by cases he),by rw[DH];trivial⟩;simp only[aD,hz,hs,Ai,aF hg,hl,A7];rfl
end
section
variable {P:Program}{ans:FuncId->AK}{an:AK}{R:Type}{r:R}
variable {tm:List Slot}{rs1 rs2:RS}{k1:Slot->RS->Option R}{ops:Array Oper}{AF tk:Bool}{cf:aO}{o:Oper}
variable {dst:Option Nat}{ty:TypeId}{pos:String}{AH:Array Edge}{gd:Option (Nat×Bool)}{kp:AVal->RS->Option R}
theorem kO{x:Operand}{k:List Cell->RS->Option R}(h:agS (A9 an.keep tm rs1 x) (A9 an.keep tm rs2 x))(e:dM an.keep tm rs1 x k=some r) :
  ∃cs puts,k cs ⟨puts++rs1.sc,rs1.sto⟩=some r/\(∀(R2:Type)(k2:List Cell->RS->Option R2),dM an.keep tm rs2 x k2=k2 cs ⟨puts++rs2.sc,rs2.sto⟩) /\
   (puts=[]\/∃t v,x=.tmp t/\an.keep.contains t=false/\puts=[(t,.val v)]):=by
 have h2:=h.eq (λc hc=>by unfold dM at e;rw[hc] at e;simp[DI] at e);unfold dM at e
 split at e
 ·rename_i sz xs t BJ
  rw[BJ] at h2;cases hk:an.keep.contains t with
  |true =>
   simp only[hk] at e;exact⟨_,[],e,λR2 k2=>by simp only[dM,h2,hk];rfl,.inl rfl⟩
  |false =>
   simp only[hk] at e;exact⟨_,[(t,.val (.slice xs))],e,λR2 k2=>by simp only[dM,h2,hk];rfl,.inr ⟨t,_,rfl,hk,rfl⟩⟩
 ·rename_i sz v BJ
  rw[BJ] at h2;exact⟨_,[],e,λR2 k2=>by simp only[dM,h2];rfl,.inl rfl⟩
 ·rename_i cs t BJ
  rw[BJ] at h2;cases hk:an.keep.contains t with
  |true =>
   simp only[hk] at e;exact⟨_,[],e,λR2 k2=>by simp only[dM,h2,hk];rfl,.inl rfl⟩
  |false =>
   simp only[hk] at e;exact⟨_,[(t,.val (.agg (cs.map Cell.get)))],e,λR2 k2=>by simp only[dM,h2,hk];rfl,.inr ⟨t,_,rfl,hk,rfl⟩⟩
 ·rename_i P7 LX hn3
  obtain⟨v,e,h3⟩:=kQ (.inl rfl) e;refine⟨_,[],e,λR2 k2=>?_,.inl rfl⟩;show dM an.keep tm rs2 _ k2=k2 (v.cells.map .val) rs2;unfold dM;rw[h2];split
  ·rename_i sz xs t BJ;exact(P7 _ _ _ BJ rfl).elim
  ·rename_i sz v BJ;exact(LX _ _ BJ rfl).elim
  ·rename_i cs t BJ;exact(hn3 _ _ BJ rfl).elim
  ·exact h3 R2 _
theorem qd{s:Slot}{k:List Cell->Option R}(e:pU s k=some r):∃cs,s=.box cs/\k cs=some r:=by
 unfold pU at e
 split at e
 ·exact⟨_,rfl,e⟩
 ·cases e
theorem xQ{o:Option AObj}{k:List Cell->Option R}(e:iG o k=some r):∃cs,o=some (.box cs)/\k cs=some r:=by
 unfold iG at e
 split at e
 ·exact⟨_,rfl,e⟩
 ·cases e
theorem gn{t0:TypeId}{x:Operand}{k:List Cell->RS->Option R}(h:agS (A9 an.keep tm rs1 x) (A9 an.keep tm rs2 x))(e:eU P t0 an.keep tm rs1 x k=some r) :
  ∃cs puts,k cs ⟨puts++rs1.sc,rs1.sto⟩=some r/\(∀(R2:Type)(k2:List Cell->RS->Option R2),eU P t0 an.keep tm rs2 x k2=k2 cs ⟨puts++rs2.sc,rs2.sto⟩) /\
   (puts=[]\/∃t v,x=.tmp t/\an.keep.contains t=false/\puts=[(t,.val v)]):=by
 unfold eU at e
 split at e
 ·rename_i BJ
  obtain⟨el,h1,e⟩:=aC e;obtain⟨sz,h2,e⟩:=aC e;have hop2:A9 an.keep tm rs2 x=.nl:=(h.eq (λc hc=>by rw[BJ] at hc;cases hc)).trans BJ;exact⟨_,[],e,λR2 k2=>by unfold eU;rw[hop2];simp only[h1,h2,Ai];rfl,.inl rfl⟩
 ·rename_i hn
  obtain⟨cs,puts,a1,a2,a3⟩:=kO h e;refine⟨cs,puts,a1,λR2 k2=>?_,a3⟩;rw[<-a2 R2 k2]
  have LX:A9 an.keep tm rs2 x≠.nl:=λhc=>by
   rcases h with h|⟨c1,c2,_,h⟩
   ·exact hn (h.symm.trans hc)
   ·rw[h] at hc;cases hc
  unfold eU;split
  ·rename_i hc;exact absurd hc LX
  ·rfl
theorem isEmpty_nil{α:Type}{l:List α}(h:l.isEmpty=true):l=[]:=by cases l<;>simp_all
theorem contains_cons{l:List Nat}{u:Nat}(h:l.contains u=true):u∈l/\∃a m,l=a::m:=by
 have hm:u∈l:=by simpa using h
 exact⟨hm,by cases l with|nil=>simp at hm|cons a m=>exact⟨a,m,rfl⟩⟩
theorem aIN{t:TypeId}{x:Operand}{l:List Nat}(h:ET ans an tm ops AF tk ⟨dst,.box t x,ty,pos,AH,gd⟩ rs1 rs2)(e:aD P ans an true AF l cf tm tk ⟨dst,.box t x,ty,pos,AH,gd⟩ rs1 kp k1=some r):Two P ans an tm ops AF tk cf ⟨dst,.box t x,ty,pos,AH,gd⟩ rs1 rs2 k1 r:=by
 have hx:=h.opd x (by simp[Op.operands]);simp only[aD] at e;obtain⟨cs,puts,e,h2,h3⟩:=gn hx e;obtain⟨s,hs,e⟩:=aC e;obtain⟨hg,e⟩:=aB e
 have FI:∀p∈puts,p.1∈cons an.keep tk ⟨dst,.box t x,ty,pos,AH,gd⟩:=λp hp=>by
  rcases h3 with rfl|⟨t',v,rfl,hk,rfl⟩
  ·simp at hp
  ·simp at hp;subst hp
   simp only[cons,hk];simp
 have Lx:∀p∈puts,∀u y,p.2≠.ref u y:=λp hp u y=>by
  rcases h3 with rfl|⟨t',v,rfl,hk,rfl⟩
  ·simp at hp
  ·simp at hp;subst hp;simp
 cases dst with
 |none=>cases e
 |some d =>
  cases hl:an.loc.contains d with
  |true =>
   simp only[hl] at e;have DH:cN ans an.loc ops AF tk ⟨some d,.box t x,ty,pos,AH,gd⟩=.p:=by simp only[cN,hl];rfl
   refine⟨_,puts,id,e,λR2 BL k2=>?_,λp hp=>.inl (FI p hp),Lx,(λu y he=>by cases he),by rw[DH]⟩;simp only[aD,h2,hs,Ai,aF hg,hl];rfl
  |false =>
   simp only[hl] at e;obtain⟨DX,e⟩:=aB e;have DH:cN ans an.loc ops AF tk ⟨some d,.box t x,ty,pos,AH,gd⟩=.w:=by simp only[cN,hl];rfl
   have A7:rs2.sto=rs1.sto:=by have:=h.sto;rw[DH] at this;exact this
   refine⟨_,puts,λsto=>{ sto with objs:=sto.objs++[.box cs] },e,λR2 BL k2=>?_,λp hp=>.inl (FI p hp),Lx,(λu y he=>by cases he),by rw[DH];trivial⟩;simp only[aD,h2,hs,Ai,aF hg,hl,A7,aF DX];try rfl
theorem aCL{t:TypeId}{a x:Operand}(h:ET ans an tm ops AF tk ⟨dst,.store t a x,ty,pos,AH,gd⟩ rs1 rs2)(e:aD P ans an true AF (eY an.loc ops.toList ops.size a) cf tm tk ⟨dst,.store t a x,ty,pos,AH,gd⟩ rs1 kp k1=some r):Two P ans an tm ops AF tk cf ⟨dst,.store t a x,ty,pos,AH,gd⟩ rs1 rs2 k1 r:=by
 have ha:=h.opd a (by simp[Op.operands]);have hx:=h.opd x (by simp[Op.operands]);simp only[aD] at e;obtain⟨p,e,h2,_⟩:=kP ha e
 have FI:∀puts:List (Nat×Slot),(puts=[]\/∃t v,x=.tmp t/\an.keep.contains t=false/\puts=[(t,.val v)])->(∀p∈puts,p.1∈cons an.keep tk ⟨dst,.store t a x,ty,pos,AH,gd⟩)/\∀p∈puts,∀u y,p.2≠.ref u y:=λputs h3=>by
  rcases h3 with rfl|⟨t',v,rfl,hk,rfl⟩
  ·simp
  ·refine⟨λp hp=>?_,λp hp u y=>?_⟩
   ·simp at hp;subst hp;simp only[cons,hk];simp
   ·simp at hp;subst hp;simp
 cases p with
 |loc u y =>
  simp only[bG] at e;obtain⟨hr,e⟩:=aB e;obtain⟨hm,a0,m0,HW⟩:=contains_cons hr;simp only[aQ] at e;obtain⟨cs,CI,e⟩:=qd e;obtain⟨s,hs,e⟩:=aC e;obtain⟨new,puts,e,h4,h5⟩:=kO hx e;obtain⟨hg,e⟩:=aB e;simp only[bQ] at e;have HG:rs2.look an.keep tm u=.box cs:=(h.wb u (.inl hm)).trans CI;have DH:cN ans an.loc ops AF tk ⟨dst,.store t a x,ty,pos,AH,gd⟩=.p:=by simp only[cN,HW]
  obtain⟨k3,k4⟩:=FI puts h5;refine⟨.dead,(u,.box (setCells cs y new))::puts,id,e,λR2 BL k2=>?_,λp hp=>?_,λp hp u' y'=>?_,(λu y he=>by cases he),by rw[DH]⟩
  ·simp only[aD,addrOf,h2,bG,aF hr,aQ,HG,pU,hs,Ai,h4,aF hg,bQ];rfl
  ·rcases Bb.1 hp with rfl|hp
   ·exact .inr (.inl ⟨hm,cs,_,CI,rfl⟩)
   ·exact .inl (k3 p hp)
  ·rcases Bb.1 hp with rfl|hp
   ·simp
   ·exact k4 p hp u' y'
 |obj i y =>
  simp only[bG] at e;obtain⟨hr,e⟩:=aB e;have NA:=isEmpty_nil hr;have DH:cN ans an.loc ops AF tk ⟨dst,.store t a x,ty,pos,AH,gd⟩=.w:=by simp only[cN,NA]
  have A7:rs2.sto=rs1.sto:=by have:=h.sto;rw[DH] at this;exact this
  simp only[aQ] at e;obtain⟨cs,CI,e⟩:=xQ e;obtain⟨s,hs,e⟩:=aC e;obtain⟨new,puts,e,h4,h5⟩:=kO hx e;obtain⟨hg,e⟩:=aB e;simp only[bQ] at e;obtain⟨DX,e⟩:=aB e;obtain⟨k3,k4⟩:=FI puts h5;refine⟨.dead,puts,λsto=>{ sto with objs:=sto.objs.set i (.box (setCells cs y new)) },e,λR2 BL k2=>?_,λp hp=>.inl (k3 p hp),k4,(λu y he=>by cases he),by rw[DH];trivial⟩;simp only[aD,addrOf,h2,bG,aF hr,aQ,A7,CI,iG,hs,Ai,h4,aF hg,bQ,aF DX];try rfl
 |imm v =>
  simp only[bG] at e;obtain⟨hr,e⟩:=aB e;simp only[aQ] at e;obtain⟨s,hs,e⟩:=aC e;obtain⟨new,puts,e,h4,h5⟩:=kO hx e;obtain⟨hg,e⟩:=aB e;simp[bQ] at e
def pZ(agg:Bool)(s:Nat)(cs:List Cell)(off:Nat)(k:AVal->Option R):Option R :=
 match agg with
 |true=>(partOf true (cs.map Cell.get) off s).bind k
 |false=>aL (Nat.beq s 1) ((cs[off]?).bind λc=>k c.get)
theorem vG{agg:Bool}{s:Nat}{cs BZ:List Cell}{off:Nat}{k:AVal->Option R}(h:BZ.map Cell.get=cs.map Cell.get):pZ agg s BZ off k=pZ agg s cs off k:=by
 unfold pZ;split
 ·rw[h]
 ·congr 1
  have h1:(BZ[off]?).map Cell.get=(cs[off]?).map Cell.get:=by
   rw[<-Ao,<-Ao,h]
  cases h2:BZ[off]? with
  |none=>rw[h2] at h1;cases h3:cs[off]? with
   |none=>rfl
   |some c=>rw[h3] at h1;cases h1
  |some c'=>rw[h2] at h1;cases h3:cs[off]? with
   |none=>rw[h3] at h1;cases h1
   |some c=>rw[h3] at h1;simp at h1;simp[h1]
theorem oX{agg:Bool}{s:Nat}{cs:List Cell}{off:Nat}{k:AVal->Option R}(e:pZ agg s cs off k=some r):∃v,k v=some r/\∀(R2:Type)(k2:AVal->Option R2),pZ agg s cs off k2=k2 v:=by
 unfold pZ at e;cases agg with
 |true =>
  simp only at e;obtain⟨v,hv,e⟩:=aC e;exact⟨v,e,λR2 k2=>by simp only[pZ,hv,Ai]⟩
 |false =>
  simp only at e;obtain⟨hg,e⟩:=aB e;obtain⟨c,hc,e⟩:=aC e;exact⟨c.get,e,λR2 k2=>by simp only[pZ,aF hg,hc,Ai]⟩
def loadT(tk:Bool)(agg:Bool)(s:Nat)(rs:RS)(p:Place)(cs:List Cell)(off:Nat)(k:Slot->RS->Option R):Option R :=
 match agg with
 |true=>(partOf true (cs.map Cell.get) off s).bind λv=>k (.val v) rs
 |false=>aL (Nat.beq s 1) (match tk,cs[off]? with
  |true,some (.own sz xs)=>bQ rs p (cs.set off (.val (.slice xs))) λrs'=>k (.own sz xs) rs'
  |_,c=>c.bind λc=>k (.val c.get) rs)
theorem eN{agg:Bool}{s:Nat}{rs:RS}{p:Place}{cs:List Cell}{off:Nat}{k:Slot->RS->Option R}(h:tk=false\/agg=true\/∀sz xs,cs[off]?≠some (.own sz xs)):loadT tk agg s rs p cs off k=pZ agg s cs off λv=>k (.val v) rs:=by
 unfold loadT pZ;cases agg with
 |true=>rfl
 |false =>
  simp only;congr 1;cases tk with
  |false=>rfl
  |true =>
   rcases h with h|h|h
   ·cases h
   ·cases h
   ·split
    ·rename_i hh;exact absurd hh (h _ _)
    ·rfl
theorem vO{cs:List Cell}{off sz:Nat}{xs:List AVal}(h:cs[off]?=some (.own sz xs)):(cs.set off (.val (.slice xs))).map Cell.get=cs.map Cell.get:=by
 apply Fp;intro i;simp only[Ao,Cw];split
 ·rename_i hi;subst hi
  split
  ·rw[h];rfl
  ·rename_i hl;rw[Cy.2 (by omega)]
 ·rfl
def aOQ(tk:Bool):Cls:=bif tk then .t else .r
theorem aGl{t:TypeId}{a:Operand}(h:ET ans an tm ops AF tk ⟨dst,.load t a,ty,pos,AH,gd⟩ rs1 rs2)(e:aD P ans an true AF (eY an.loc ops.toList ops.size a) cf tm tk ⟨dst,.load t a,ty,pos,AH,gd⟩ rs1 kp k1=some r):Two P ans an tm ops AF tk cf ⟨dst,.load t a,ty,pos,AH,gd⟩ rs1 rs2 k1 r:=by
 have ha:=h.opd a (by simp[Op.operands]);simp only[aD] at e;obtain⟨p,e,h2,_⟩:=kP ha e
 have BV:∀(R2:Type)(BL:AVal->RS->Option R2)(k2:Slot->RS->Option R2),aD P ans an true AF (eY an.loc ops.toList ops.size (addrOf ⟨dst,.load t a,ty,pos,AH,gd⟩)) cf tm tk ⟨dst,.load t a,ty,pos,AH,gd⟩ rs2 BL k2 =
   bG true (eY an.loc ops.toList ops.size a) p (aQ an.keep tm rs2 p λcs off=>(bA P t).bind λs=>(bO P t).bind λagg=>loadT tk agg s rs2 p cs off k2):=λR2 BL k2=>by
  simp only[aD,addrOf,h2]
  try rfl
 have e:bG true (eY an.loc ops.toList ops.size a) p (aQ an.keep tm rs1 p λcs off=>(bA P t).bind λs=>(bO P t).bind λagg=>loadT tk agg s rs1 p cs off k1)=some r:=e;cases p with
 |loc u y =>
  simp only[bG] at e;obtain⟨hr,e⟩:=aB e;obtain⟨hm,a0,m0,HW⟩:=contains_cons hr;simp only[aQ] at e;obtain⟨cs,CI,e⟩:=qd e;obtain⟨s,hs,e⟩:=aC e;obtain⟨agg,DO,e⟩:=aC e;have DH:cN ans an.loc ops AF tk ⟨dst,.load t a,ty,pos,AH,gd⟩=.p:=by simp only[cN,HW]
  by_cases hp:tk=false\/agg=true\/∀sz xs,cs[y]?≠some (.own sz xs)
  ·rw[eN hp] at e
   obtain⟨v,e,h3⟩:=oX e;obtain⟨OK,Iq,ND⟩:=h.rb u hm cs CI;refine .val e λR2 BL k2=>?_
   rw[BV];simp only[bG,aF hr,aQ,Iq,pU,hs,DO,Ai]
   have E6:tk=false\/agg=true\/∀sz xs,OK[y]?≠some (.own sz xs):=by
    cases GW:tk with
    |false=>exact .inl rfl
    |true =>
     have hw:=h.wb u (.inr (by simp only[G9,GW,Dk];exact hm));rw[CI,Iq] at hw;cases hw;rw[GW] at hp;exact hp
   rw[eN E6,vG ND];exact h3 R2 _
  ·have GW:tk=true:=by cases tk<;>simp_all
   have hag:agg=false:=by cases agg<;>simp_all
   obtain⟨sz,xs,CK⟩:∃sz xs,cs[y]?=some (.own sz xs):=by
    apply Fl;intro hn;exact hp (.inr (.inr λsz xs hh=>hn ⟨sz,xs,hh⟩))
   have hmt:u∈G9 an.loc ops tk ⟨dst,.load t a,ty,pos,AH,gd⟩:=by simp only[G9,GW,Dk];exact hm
   have Iq:=(h.wb u (.inr hmt)).trans CI;subst hag;simp only[loadT,GW,CK] at e;obtain⟨hg,e⟩:=aB e;simp only[bQ] at e;refine⟨.own sz xs,[(u,.box (cs.set y (.val (.slice xs))))],id,e,λR2 BL k2=>?_,λp hp=>?_,λp hp u' y'=>?_,(λu y he=>by cases he),by rw[DH]⟩
   ·rw[BV]
    simp only[bG,aF hr,aQ,Iq,pU,hs,DO,Ai,loadT,GW,CK,aF hg,bQ];rfl
   ·simp at hp;subst hp
    exact .inr (.inr ⟨hmt,cs,_,CI,rfl,vO CK⟩)
   ·simp at hp;subst hp;simp
 |obj i y =>
  simp only[bG] at e;obtain⟨hr,e⟩:=aB e;have NA:=isEmpty_nil hr;simp only[aQ] at e;obtain⟨cs,CI,e⟩:=xQ e;obtain⟨s,hs,e⟩:=aC e;obtain⟨agg,DO,e⟩:=aC e;have DH:cN ans an.loc ops AF tk ⟨dst,.load t a,ty,pos,AH,gd⟩=aOQ tk:=by simp only[cN,NA];cases tk<;>rfl
  by_cases hp:tk=false\/agg=true\/∀sz xs,cs[y]?≠some (.own sz xs)
  ·rw[eN hp] at e
   obtain⟨v,e,h3⟩:=oX e
   obtain⟨OK,Iq,ND,E6⟩:∃OK,rs2.sto.objs[i]?=some (.box OK)/\OK.map Cell.get=cs.map Cell.get/\(tk=false\/agg=true\/∀sz xs,OK[y]?≠some (.own sz xs)):=by
    have A7:=h.sto;rw[DH] at A7;cases GW:tk with
    |true =>
     rw[GW] at A7;have A7:rs2.sto=rs1.sto:=A7;exact⟨cs,by rw[A7];exact CI,rfl,by rw[GW] at hp;exact hp⟩
    |false =>
     rw[GW] at A7;have A7:stoAg rs1.sto rs2.sto:=A7;rcases A7.objs i with h'|⟨c1,c2,h',MT,hm⟩
     ·exact⟨cs,by rw[h'];exact CI,rfl,.inl rfl⟩
     ·rw[CI] at h';cases h'
      exact⟨c2,MT,hm,.inl rfl⟩
   refine .val e λR2 BL k2=>?_
   rw[BV];simp only[bG,aF hr,aQ,Iq,iG,hs,DO,Ai];rw[eN E6,vG ND];exact h3 R2 _
  ·have GW:tk=true:=by cases tk<;>simp_all
   have hag:agg=false:=by cases agg<;>simp_all
   obtain⟨sz,xs,CK⟩:∃sz xs,cs[y]?=some (.own sz xs):=by
    apply Fl;intro hn;exact hp (.inr (.inr λsz xs hh=>hn ⟨sz,xs,hh⟩))
   have A7:rs2.sto=rs1.sto:=by have:=h.sto;rw[DH,GW] at this;exact this
   subst hag;simp only[loadT,GW,CK] at e;obtain⟨hg,e⟩:=aB e;simp only[bQ] at e;obtain⟨DX,e⟩:=aB e;refine⟨.own sz xs,[],λsto=>{ sto with objs:=sto.objs.set i (.box (cs.set y (.val (.slice xs)))) },e,λR2 BL k2=>?_,by simp,by simp,(λu y he=>by cases he),?_⟩
   ·rw[BV]
    simp only[bG,aF hr,aQ,A7,CI,iG,hs,DO,Ai,loadT,GW,CK,aF hg,bQ,aF DX];rfl
   ·rw[DH,GW]
    refine⟨rfl,by simp,λj=>?_⟩;simp only[Cw];split
    ·rename_i HS;subst HS
     have AR:=(Ab.1 CI).1;rw[Bo AR];exact .inr ⟨cs,_,CI,rfl,vO CK⟩
    ·exact .inl rfl
 |imm v =>
  simp only[bG] at e;obtain⟨hr,e⟩:=aB e;simp only[aQ] at e;obtain⟨s,hs,e⟩:=aC e;obtain⟨agg,DO,e⟩:=aC e
  have hp:tk=false\/agg=true\/∀sz xs,(v.cells.map Cell.val)[0]?≠some (.own sz xs):=.inr (.inr λsz xs hh=>by
   rw[Ao] at hh;cases hv:v.cells[0]? with
   |none=>rw[hv] at hh;cases hh
   |some c=>rw[hv] at hh;cases hh)
  rw[eN hp] at e;obtain⟨v',e,h3⟩:=oX e;refine .val e λR2 BL k2=>?_
  rw[BV];simp only[bG,aF hr,aQ,hs,DO,Ai];rw[eN hp];exact h3 R2 _
end
section
variable {P:Program}{ans:FuncId->AK}{an:AK}{R:Type}{r:R}
variable {tm:List Slot}{rs1 rs2:RS}{k1:Slot->RS->Option R}{ops:Array Oper}{AF tk:Bool}{cf:aO}{o:Oper}
variable {dst:Option Nat}{ty:TypeId}{pos:String}{AH:Array Edge}{gd:Option (Nat×Bool)}{kp:AVal->RS->Option R}{l:List Nat}
theorem aH9{x:Operand}{t:Nat}{v:Slot}(h:agS (A9 an.keep tm rs1 x) (A9 an.keep tm rs2 x)):agS (A9 an.keep tm (rs1.put t v) x) (A9 an.keep tm (rs2.put t v) x):=by
 cases x with
 |tmp u =>
  show agS (RS.look an.keep tm (rs1.put t v) u) (RS.look an.keep tm (rs2.put t v) u);rw[dS,dS];by_cases hu:u=t
  ·subst hu;rw[eE,eE];exact .inl rfl
  ·rw[bI _ _ hu,bI _ _ hu];exact h
 |const c=>exact h
 |global g=>exact h
 |func f=>exact h
theorem lF:∀{xs:List Operand}{rs1 rs2:RS}{own:List Nat}{i:Nat}{k:List Slot->RS->Option R},(∀x∈xs,agS (A9 an.keep tm rs1 x) (A9 an.keep tm rs2 x))->gP an.keep tm rs1 own i xs k=some r ->
  ∃l puts,k l ⟨puts++rs1.sc,rs1.sto⟩=some r/\(∀(R2:Type)(k2:List Slot->RS->Option R2),gP an.keep tm rs2 own i xs k2=k2 l ⟨puts++rs2.sc,rs2.sto⟩)/\(∀p∈puts,Operand.tmp p.1∈xs)/\∀p∈puts,∀u y,p.2≠.ref u y
 |[],rs1,rs2,own,i,k,h,e=>⟨[],[],e,λR2 k2=>rfl,by simp,by simp⟩
 |x::xs,rs1,rs2,own,i,k,h,e=>by
  have hx:=h x (by simp);simp only[gP] at e
  split at e
  ·rename_i sz l0 t hc BJ
   have h2:=hx.eq (by rw[BJ];simp);rw[BJ] at h2;obtain⟨l,puts,e,h3,h4,h5⟩:=lF (rs2:=rs2.put t (.val (.slice l0))) (λy hy=>aH9 (h y (by simp[hy]))) e;refine⟨.own sz l0::l,puts++[(t,.val (.slice l0))],?_,λR2 k2=>?_,λp hp=>?_,λp hp=>?_⟩
   ·rw[As];exact e
   ·simp only[gP]
    simp only[hc,h2];rw[h3,As];rfl
   ·rcases Bs.1 hp with hp|hp
    ·simp[h4 p hp]
    ·simp at hp;subst hp;simp
   ·rcases Bs.1 hp with hp|hp
    ·exact h5 p hp
    ·simp at hp;subst hp;simp
  ·rename_i hc BJ
   have h2:=hx.eq (by rw[BJ];simp);rw[BJ] at h2;obtain⟨l,puts,e,h3,h4,h5⟩:=lF (rs2:=rs2) (λy hy=>h y (by simp[hy])) e;refine⟨.nl::l,puts,e,λR2 k2=>?_,λp hp=>by simp[h4 p hp],h5⟩;simp only[gP,hc,h2];exact h3 R2 _
  ·rename_i P7 LX
   have hs:=hx.eq (λc hc=>by rw[hc] at e;simp[DI] at e);obtain⟨v,e,h2⟩:=kQ hx e;obtain⟨l,puts,e,h3,h4,h5⟩:=lF (rs2:=rs2) (λy hy=>h y (by simp[hy])) e;refine⟨.val v::l,puts,e,λR2 k2=>?_,λp hp=>by simp[h4 p hp],h5⟩;simp only[gP,hs];rw[hs] at h2;rw[h2];exact h3 R2 _
theorem cK{n:Nat}{v:AVal}(h:lokF 0 v=true):lokF n v=true:=by
 cases v<;>simp_all [lokF,Dc]
theorem tn{n:Nat}{v:AVal}(h:lok 0 v=true):lok n v=true:=by
 cases v with
 |agg cs=>exact An.2 λc hc=>cK (An.1 (show cs.all (lokF 0)=true from h) c hc)
 |func f cs=>exact An.2 λc hc=>cK (An.1 (show cs.all (lokF 0)=true from h) c hc)
 |bool b=>exact cK (n:=n) (v:=.bool b) h
 |int k m=>exact cK (n:=n) (v:=.int k m) h
 |str x=>exact cK (n:=n) (v:=.str x) h
 |slice x=>exact cK (n:=n) (v:=.slice x) h
 |nilptr=>exact cK (n:=n) (v:=.nilptr) h
 |nilfunc=>exact cK (n:=n) (v:=.nilfunc) h
 |nilmap=>exact cK (n:=n) (v:=.nilmap) h
 |nilif=>exact cK (n:=n) (v:=.nilif) h
 |loc i x=>exact cK (n:=n) (v:=.loc i x) h
 |amap i=>exact cK (n:=n) (v:=.amap i) h
 |yld i=>exact cK (n:=n) (v:=.yld i) h
 |cptr x=>exact cK (n:=n) (v:=.cptr x) h
 |iface t x=>exact cK (n:=n) (v:=.iface t x) h
 |opq=>exact cK (n:=n) (v:=.opq) h
 |raw x=>exact cK (n:=n) (v:=.raw x) h
theorem oc{n:Nat}{s:Slot}(h:dB 0 s=true):dB n s=true:=by
 cases s with
 |val v=>exact tn h
 |tup vs=>exact An.2 λc hc=>tn (An.1 (show vs.all (lok 0)=true from h) c hc)
 |_=>rfl
end
section
variable {P:Program}{ans:FuncId->AK}{an:AK}{R:Type}{r:R}
variable {tm:List Slot}{rs1 rs2:RS}{k1:Slot->RS->Option R}{ops:Array Oper}{AF tk:Bool}{cf:aO}{o:Oper}
variable {dst:Option Nat}{ty:TypeId}{pos:String}{AH:Array Edge}{gd:Option (Nat×Bool)}{l:List Nat}
theorem aBX{cc:Callee}{args:List Slot}(e:dJ AF cf cc args rs1 (λ_ _=>none) k1=some r)
  (A7:rs2.sto=rs1.sto\/(AF=true/\∃o:Option Slot,(∀s,o=some s->dB 0 s=true)/\∀sto,cf cc args sto=o.map λs=>(.ret s,sto))) :
  ∃s g,k1 s ⟨rs1.sc,g rs1.sto⟩=some r/\(∀(R2:Type)(BL:AVal->RS->Option R2)(k2:Slot->RS->Option R2),dJ AF cf cc args rs2 BL k2=k2 s ⟨rs2.sc,g rs2.sto⟩)/\(∀u y,s≠.ref u y)/\(AF=true->g=id):=by
 have nr:∀s,uD s=true->∀u y,s≠.ref u y:=λs h u y he=>by subst he;cases h
 cases AF with
 |false =>
  have A7:rs2.sto=rs1.sto:=A7.resolve_right (by simp);simp only[dJ] at e;obtain⟨⟨res,AL⟩,hc,e⟩:=aC e;cases res with
  |pan v=>cases e
  |ret s =>
   obtain⟨hg,e⟩:=aB e;refine⟨s,λ_=>AL,e,λR2 BL k2=>?_,nr s hg,by simp⟩;simp only[dJ,A7,hc,Ai,aF hg]
 |true =>
  simp only[dJ] at e;obtain⟨⟨res,AL⟩,hc,e⟩:=aC e;cases res with
  |pan v=>cases e
  |ret s =>
   obtain⟨hg,e⟩:=aB e;have Pj:=hg;simp only[Ac] at Pj;refine⟨s,id,e,λR2 BL k2=>?_,nr s Pj.2,λ_=>rfl⟩;rcases A7 with A7|⟨_,o,Nv,Im⟩
   ·simp only[dJ,A7,hc,Ai,aF hg]
    show k2 s rs2=k2 s ⟨rs2.sc,rs1.sto⟩;rw[<-A7]
   ·rw[Im] at hc
    obtain⟨s',JF,he⟩:=Al.1 hc;cases he;have DX:(dB rs2.sto.objs.length s&&uD s)=true:=by simp[oc (Nv s JF),Pj.2]
    simp only[dJ,Im,JF,Bw,Ai,aF DX];rfl
theorem aGk{c:Call}(DC:iK ans cf)(h:ET ans an tm ops AF tk ⟨dst,.call c,ty,pos,AH,gd⟩ rs1 rs2)(e:aD P ans an true AF l cf tm tk ⟨dst,.call c,ty,pos,AH,gd⟩ rs1 (λ_ _=>none) k1=some r):Two P ans an tm ops AF tk cf ⟨dst,.call c,ty,pos,AH,gd⟩ rs1 rs2 k1 r:=by
 obtain⟨Nf,⟨FU⟩,K3⟩:=c;simp only[aD] at e
 split at e
 ·rename_i x
  have hx:=h.opd x (by simp[Op.operands,Call.operands])
  split at e
  ·rename_i hu
   split at e
   ·rename_i s hb
    have h2:=hx.eq (by rw[hb];simp);rw[hb] at h2;exact .val e (λR2 BL k2=>by simp only[aD,hu,h2])
   ·cases e
  ·rename_i el hu
   obtain⟨xs,e,h2⟩:=rJ hx e;exact .val e (λR2 BL k2=>by simp only[aD,hu,h2])
  ·rename_i n el hu
   exact .val e (λR2 BL k2=>by simp only[aD,hu])
  ·rename_i kt el hu
   split at e
   ·rename_i i hb
    obtain⟨es,ho,e⟩:=lI e;have h2:=hx.eq (by rw[hb];simp);rw[hb] at h2;have A7:stoAg rs1.sto rs2.sto:=h.sto
    have Im:rs2.sto.objs[i]?=some (.map es):=by
     rcases A7.objs i with h'|⟨c1,c2,h',_⟩
     ·rw[h',ho]
     ·rw[ho] at h';cases h'
    exact .val e (λR2 BL k2=>by simp only[aD,hu,h2,Im,lH])
   ·cases e
  ·cases e
 ·rename_i s x
  have hS:=h.opd s (by simp[Op.operands,Call.operands]);have hx:=h.opd x (by simp[Op.operands,Call.operands])
  split at e
  ·rename_i el el2 D9 DQ
   obtain⟨sz,BG,e⟩:=aC e;obtain⟨z,hz,e⟩:=aC e;obtain⟨ys,e,h2⟩:=rJ hx e;obtain⟨hg,e⟩:=aB e
   have e3:(∃EK xs t,A9 an.keep tm rs1 s=.own EK xs/\s=.tmp t/\aL (Nat.beq sz EK&&Nat.ble (xs.length+ys.length) room) (k1 (.own sz (xs++ys)) (rs1.put t (.val (.slice xs))))=some r) \/
     (∃xs,A9 an.keep tm rs1 s=.full xs/\aL (xs.all (λy=>Nat.beq y.cells.length sz)&&Nat.ble (xs.length+ys.length) room&&(xs.isEmpty||!ys.isEmpty)) (k1 (.own sz (xs++ys)) rs1)=some r) \/
     (A9 an.keep tm rs1 s=.nl/\aL (Nat.ble ys.length room) (k1 (.own sz ys) rs1)=some r):=by
    split at e
    ·exact .inl ⟨_,_,_,by assumption,rfl,e⟩
    ·exact .inr (.inl ⟨_,by assumption,e⟩)
    ·exact .inr (.inr ⟨by assumption,e⟩)
    ·cases e
   rcases e3 with⟨EK,xs,t,hs,LK,e3⟩|⟨xs,hs,e3⟩|⟨hs,e3⟩
   ·subst LK
    obtain⟨L4,e3⟩:=aB e3;have h3:=hS.eq (by rw[hs];simp);rw[hs] at h3;refine⟨.own sz (xs++ys),[(t,.val (.slice xs))],id,e3,λR2 BL k2=>?_,λp hp=>?_,λp hp u y=>?_,(λu y he=>by cases he),rfl⟩
    ·simp only[aD,D9,DQ,BG,hz,Ai,h2,aF hg,h3,aF L4];rfl
    ·simp at hp;subst hp;left;simp[cons]
    ·simp at hp;subst hp;simp
   ·obtain⟨L4,e3⟩:=aB e3
    have h3:=hS.eq (by rw[hs];simp);rw[hs] at h3;exact .plain e3 (λR2 BL k2=>by simp only[aD,D9,DQ,BG,hz,Ai,h2,aF hg,h3,aF L4]) (λu y he=>by cases he)
   ·obtain⟨L4,e3⟩:=aB e3
    have h3:=hS.eq (by rw[hs];simp);rw[hs] at h3;exact .plain e3 (λR2 BL k2=>by simp only[aD,D9,DQ,BG,hz,Ai,h2,aF hg,h3,aF L4]) (λu y he=>by cases he)
  ·cases e
 ·rename_i x y
  have hx:=h.opd x (by simp[Op.operands,Call.operands]);have hy:=h.opd y (by simp[Op.operands,Call.operands]);obtain⟨kd,n,e,h2⟩:=dQ hx e;obtain⟨HB,m,e,h3⟩:=dQ hy e;exact .val e (λR2 BL k2=>by simp only[aD,h2,h3])
 ·rename_i x y
  have hx:=h.opd x (by simp[Op.operands,Call.operands]);have hy:=h.opd y (by simp[Op.operands,Call.operands]);obtain⟨kd,n,e,h2⟩:=dQ hx e;obtain⟨HB,m,e,h3⟩:=dQ hy e;exact .val e (λR2 BL k2=>by simp only[aD,h2,h3])
 ·rename_i f
  have hf:=h.opd f (by simp[Op.operands,Call.operands]);have BQ:∀x∈FU,agS (A9 an.keep tm rs1 x) (A9 an.keep tm rs2 x):=λx hx=>h.opd x (by simp[Op.operands,Call.operands,hx])
  have FI:∀(puts:List (Nat×Slot))(p:Nat×Slot),Operand.tmp p.1∈FU->p.1∈cons an.keep tk ⟨dst,.call ⟨.value f,⟨FU⟩,K3⟩,ty,pos,AH,gd⟩:=λputs p hp=>by
   simp only[cons,Gn];exact⟨.tmp p.1,hp,rfl⟩
  have fin:∀(cc:Callee)(args:List Slot)(puts:List (Nat×Slot)),(∀p∈puts,Operand.tmp p.1∈FU)->(∀p∈puts,∀u y,p.2≠.ref u y)->dJ AF cf cc args ⟨puts++rs1.sc,rs1.sto⟩ (λ_ _=>none) k1=some r ->
    (rs2.sto=rs1.sto\/(AF=true/\∃o:Option Slot,(∀s,o=some s->dB 0 s=true)/\∀sto,cf cc args sto=o.map λs=>(.ret s,sto))) ->
    (∀(R2:Type)(BL:AVal->RS->Option R2)(k2:Slot->RS->Option R2),aD P ans an true AF (eY an.loc ops.toList ops.size (addrOf ⟨dst,.call ⟨.value f,⟨FU⟩,K3⟩,ty,pos,AH,gd⟩)) cf tm tk ⟨dst,.call ⟨.value f,⟨FU⟩,K3⟩,ty,pos,AH,gd⟩ rs2 BL k2=dJ AF cf cc args ⟨puts++rs2.sc,rs2.sto⟩ BL k2) ->
    Two P ans an tm ops AF tk cf ⟨dst,.call ⟨.value f,⟨FU⟩,K3⟩,ty,pos,AH,gd⟩ rs1 rs2 k1 r:=λcc args puts PZ E6 e A7 BV=>by
   obtain⟨s,g,e,h2,h3,h4⟩:=aBX (rs2:=⟨puts++rs2.sc,rs2.sto⟩) e A7;refine⟨s,puts,g,e,λR2 BL k2=>by rw[BV,h2],λp hp=>.inl (FI puts p (PZ p hp)),E6,λu y he=>absurd he (h3 u y),?_⟩;simp only[cN];cases HI:AF with
   |false=>trivial
   |true =>
    have hg:=h4 HI;subst hg;cases f with
    |func g'=>cases hp:(ans g').prim<;>simp[hp]
    |tmp t=>rfl
    |const v=>rfl
    |global g=>rfl
  split at e
  ·rename_i g caps hb
   have h2:=hf.eq (by rw[hb];simp);rw[hb] at h2;obtain⟨l',puts,e,h3,h4,h5⟩:=lF BQ e;refine fin (.fn g) _ puts h4 h5 e ?_ (λR2 BL k2=>by simp only[aD,h2];exact h3 R2 _);have hs:=h.sto;simp only[cN] at hs;cases HI:AF with
   |false=>rw[HI] at hs;exact .inl hs
   |true =>
    rw[HI] at hs;cases f with
    |func g' =>
     simp only[A9] at hb;cases hb;simp only at hs;cases hp:(ans g).prim with
     |true=>exact .inr ⟨rfl,DC g _ hp⟩
     |false=>rw[hp] at hs;exact .inl hs
    |tmp t=>exact .inl hs
    |const v=>exact .inl hs
    |global g=>exact .inl hs
  ·rename_i i hb
   have h2:=hf.eq (by rw[hb];simp);rw[hb] at h2;obtain⟨l',puts,e,h3,h4,h5⟩:=lF BQ e;refine fin (.yld i) _ puts h4 h5 e ?_ (λR2 BL k2=>by simp only[aD,h2];exact h3 R2 _);have hs:=h.sto;simp only[cN] at hs;cases HI:AF with
   |false=>rw[HI] at hs;exact .inl hs
   |true =>
    rw[HI] at hs;cases f with
    |func g'=>simp only[A9] at hb;cases hb
    |tmp t=>exact .inl hs
    |const v=>exact .inl hs
    |global g=>exact .inl hs
  ·cases e
 ·cases e
end
section
variable {P:Program}{ans:FuncId->AK}{an:AK}{R:Type}{r:R}
variable {tm:List Slot}{rs1 rs2:RS}{k1:Slot->RS->Option R}{ops:Array Oper}{AF tk:Bool}{cf:aO}
theorem aCC{o:Oper}(DC:iK ans cf)(h:ET ans an tm ops AF tk o rs1 rs2)(e:aD P ans an true AF (eY an.loc ops.toList ops.size (addrOf o)) cf tm tk o rs1 (λ_ _=>none) k1=some r):Two P ans an tm ops AF tk cf o rs1 rs2 k1 r:=by
 obtain⟨d,op,ty,pos,AH,gd⟩:=o;cases op
 case move=>exact aGm h e
 case assign=>exact zr h e
 case pick=>exact aGn h e
 case alloc=>exact aCF h e
 case box=>exact aIN h e
 case build=>exact aCH h e
 case buildSlice=>exact aj h e
 case load=>exact aGl h e
 case store=>exact aCL h e
 case nilCheck=>exact oi h e
 case binOp=>exact aCG h e
 case unOp=>exact aGo h e
 case convert=>exact wm h e
 case fieldAddr=>exact bz h e
 case field=>exact aCI h e
 case indexAddr=>exact cg h e
 case index=>exact aCJ h e
 case slice=>exact aCK h e
 case makeInterface=>exact sM h e
 case makeFunc=>exact oh h e
 case makeMap=>exact wq h e
 case lookup=>exact zt h e
 case mapUpdate=>exact cj h e
 case extract=>exact wo h e
 case call=>exact aGk DC h e
 all_goals (simp[aD] at e)
end
section
variable {P:Program}{ans:FuncId->AK}{an:AK}{R:Type}{r:R}
variable {tm:List Slot}{rs1 rs2:RS}{ops:Array Oper}{AF tk:Bool}{cf:aO}{o:Oper}{rid i:Nat}
def RefIn(ops:Array Oper)(rs:RS):Prop:=∀t u x,bL rs.sc t=some (.ref u x)->∃o∈ops.toList,eW o=some u
theorem iL:∀{sc:List (Nat×Slot)}{t:Nat}{s:Slot},bL sc t=some s->(t,s)∈sc
 |[],t,s,h=>by simp[bL] at h
 |(k,x)::sc,t,s,h=>by
  simp only[bL] at h;cases hk:Nat.beq k t with
  |true =>
   rw[hk] at h
   have:=Aa hk
   subst this;cases h;simp
  |false =>
   rw[hk] at h;exact Fa _ (iL h)
theorem xG:∀{sc:List (Nat×Slot)}{t:Nat},(∀p∈sc,p.1≠t)->bL sc t=none
 |[],t,h=>rfl
 |(k,x)::sc,t,h=>by
  simp only[bL];cases hk:Nat.beq k t with
  |true=>exact absurd (Aa hk) (h (k,x) (by simp))
  |false=>exact xG λp hp=>h p (by simp[hp])
theorem tr{puts:List (Nat×Slot)}{rs:RS}{g:AN->AN}(t:Nat):RS.look an.keep tm ⟨puts++rs.sc,g rs.sto⟩ t=match bL puts t with|some s=>s|none=>rs.look an.keep tm t:=by
 unfold RS.look;rw[fK];cases bL puts t<;>rfl
theorem RefIn.noRefTo{rs:RS}(h:RefIn ops rs){d:Nat}(hd:∀o∈ops.toList,eW o≠some d):noRefTo d rs.sc=true:=by
 refine An.2 λp _=>?_
 split
 ·rename_i u x hl
  obtain⟨o,ho,hu⟩:=h _ _ _ hl;have BD:u≠d:=λe=>hd o ho (by rw[hu,e])
  cases hb:Nat.beq u d with
  |true=>exact absurd (Aa hb) BD
  |false=>rfl
 ·rfl
structure AgrO (ans:FuncId->AK) (an:AK) (tm:List Slot) (ops:Array Oper) (AF tk:Bool) (o:Oper) (rs1 rs2:RS):Prop where
 rd:∀t∈FA ops o,agS (rs1.look an.keep tm t) (rs2.look an.keep tm t)
 rb:∀u∈IJ an.loc ops o,∀c,rs1.look an.keep tm u=.box c->∃c2,rs2.look an.keep tm u=.box c2/\c2.map Cell.get=c.map Cell.get
 wb:∀u,(u∈Hw an.loc ops o\/u∈G9 an.loc ops tk o)->rs2.look an.keep tm u=rs1.look an.keep tm u
 sto:match cN ans an.loc ops AF tk o with
  |.p=>True
  |.r=>stoAg rs1.sto rs2.sto
  |_=>rs2.sto=rs1.sto
theorem AgrO.agr(h:AgrO ans an tm ops AF tk o rs1 rs2):ET ans an tm ops AF tk o rs1 rs2 :=
 ⟨λx hx=>by
  cases x with
  |tmp t=>exact h.rd t (oY rfl hx)
  |const v=>exact .inl rfl
  |global g=>exact .inl rfl
  |func f=>exact .inl rfl,h.rb,h.wb,h.sto⟩
structure EffO (ans:FuncId->AK) (an:AK) (tm:List Slot) (ops:Array Oper) (AF tk:Bool) (o:Oper) (rs1:RS) (puts:List (Nat×Slot)) (g:AN->AN):Prop where
 keys:∀p∈puts,p.1∈o.dst.toList\/p.1∈cons an.keep tk o\/(p.1∈Hw an.loc ops o/\∃c c',rs1.look an.keep tm p.1=.box c/\p.2=.box c')\/(p.1∈G9 an.loc ops tk o/\∃c c',rs1.look an.keep tm p.1=.box c/\p.2=.box c'/\c'.map Cell.get=c.map Cell.get) \/
  (p.1∈FA ops o/\∃b,p.2=.val (.bool b)/\rs1.look an.keep tm p.1=.val (.bool b))
 ref:∀p∈puts,∀u x,p.2=.ref u x->∃o'∈ops.toList,eW o'=some u
 sto:match cN ans an.loc ops AF tk o with
  |.t=>stoAg rs1.sto (g rs1.sto)
  |.w=>True
  |.x=>True
  |_=>g=id
theorem RefIn.look(h:RefIn ops rs1)(hn:noRef tm){t u x:Nat}(hl:rs1.look an.keep tm t=.ref u x):∃o∈ops.toList,eW o=some u:=by
 obtain⟨p,_,hp⟩:=tv (an:=an) hn hl;exact h _ _ _ hp
theorem RefIn.app{puts:List (Nat×Slot)}{g:AN->AN}(h:RefIn ops rs1)(hp:∀p∈puts,∀u x,p.2=.ref u x->∃o'∈ops.toList,eW o'=some u):RefIn ops ⟨puts++rs1.sc,g rs1.sto⟩:=λt u x hl=>by
 rw[fK] at hl;cases ha:bL puts t with
 |some s=>rw[ha] at hl;cases hl;exact hp _ (iL ha) u x rfl
 |none=>rw[ha] at hl;exact h t u x hl
def x6(o:Oper)(s:Slot):List (Nat×Slot):=match o.dst with|some d=>[(d,s)]|none=>[]
theorem pE(rs:RS)(o:Oper)(s:Slot):rs.putO o.dst s=⟨x6 o s++rs.sc,rs.sto⟩:=by
 unfold RS.putO x6;cases o.dst<;>rfl
theorem tJ{s:Slot}{rs:RS}(hd:∀d,o.dst=some d->an.loc.contains d=true->∀o'∈ops.toList,eW o'≠some d)(h:dK an o s rs1=true)(h2:RefIn ops rs):dK an o s rs=true:=by
 unfold dK at h ⊢;cases FX:o.dst with
 |none=>rfl
 |some d =>
  rw[FX] at h;simp only[Ac,Db,Cd] at h ⊢;refine⟨h.1,?_⟩;cases hl:an.loc.contains d with
  |false=>exact .inl rfl
  |true=>exact .inr (h2.noRefTo (hd d FX hl))
theorem vk{rs:RS}{d:Nat}{b:Bool}(h:rs.look an.keep tm d=.val (.bool b))(t:Nat):RS.look an.keep tm (rs.put d (.val (.bool b))) t=rs.look an.keep tm t:=by
 rw[dS];by_cases ht:t=d
 ·subst ht;rw[eE,h]
 ·rw[bI _ _ ht]
theorem RefIn.putB(h:RefIn ops rs1)(d:Nat)(b:Bool):RefIn ops (rs1.put d (.val (.bool b))) :=
 RefIn.app (puts:=[(d,.val (.bool b))]) (g:=id) h λp hp u x he=>by
  simp at hp;subst hp;cases he
theorem nU{next:RS->Option R}(DC:iK ans cf)(hn:noRef tm)(ho:o∈ops.toList)(hd:∀d,o.dst=some d->an.loc.contains d=true->∀o'∈ops.toList,eW o'≠some d)
  (hA:AgrO ans an tm ops (an.pure.contains (rid,i)) (an.take.contains (rid,i)) o rs1 rs2) (h1:RefIn ops rs1) (h2:RefIn ops rs2) (e:gG P ans an true cf tm rid ops (λ_ _=>none) o i rs1 next=some r) :
  ∃puts g,next ⟨puts++rs1.sc,g rs1.sto⟩=some r/\(∀(R2:Type)(DB:RS->Option R2),gG P ans an true cf tm rid ops (λ_ _=>none) o i rs2 DB=DB ⟨puts++rs2.sc,g rs2.sto⟩) /\
   EffO ans an tm ops (an.pure.contains (rid,i)) (an.take.contains (rid,i)) o rs1 puts g:=by
 have refs:∀(rs:RS)(s:Slot),(∀t,rs.look an.keep tm t=rs1.look an.keep tm t)->(∀u x,s=.ref u x->eW o=some u\/∃t∈FA ops o,∃y,rs.look an.keep tm t=.ref u y)->∀u x,s=.ref u x->∃o'∈ops.toList,eW o'=some u:=λrs s hl h u x he=>by
  rcases h u x he with h'|⟨t,_,y,h'⟩
  ·exact⟨o,ho,h'⟩
  ·rw[hl] at h';exact h1.look hn h'
 have go:∀(Ij EF:RS)(pg:List (Nat×Slot)),Ij=⟨pg++rs1.sc,rs1.sto⟩->EF=⟨pg++rs2.sc,rs2.sto⟩->(∀t,Ij.look an.keep tm t=rs1.look an.keep tm t)->(∀t,EF.look an.keep tm t=rs2.look an.keep tm t)->RefIn ops EF ->
   (∀p∈pg,p.1∈FA ops o/\∃b,p.2=.val (.bool b)/\rs1.look an.keep tm p.1=.val (.bool b)) ->
   aD P ans an true (an.pure.contains (rid,i)) (eY an.loc ops.toList ops.size (addrOf o)) cf tm (an.take.contains (rid,i)) o Ij (λ_ _=>none) (λs rs'=>aL (dK an o s rs') (next (rs'.putO o.dst s)))=some r ->
   ∃puts g,next ⟨puts++rs1.sc,g rs1.sto⟩=some r/\(∀(R2:Type)(DB:RS->Option R2),aD P ans an true (an.pure.contains (rid,i)) (eY an.loc ops.toList ops.size (addrOf o)) cf tm (an.take.contains (rid,i)) o EF (λ_ _=>none) (λs rs'=>aL (dK an o s rs') (DB (rs'.putO o.dst s)))=DB ⟨puts++rs2.sc,g rs2.sto⟩) /\
    EffO ans an tm ops (an.pure.contains (rid,i)) (an.take.contains (rid,i)) o rs1 puts g:=λIj EF pg PU IZ KP Jp Pz hpg e=>by
  have hA':AgrO ans an tm ops (an.pure.contains (rid,i)) (an.take.contains (rid,i)) o Ij EF:=by
   refine⟨λt ht=>by rw[KP,Jp];exact hA.rd t ht,λu hu c hc=>by rw[KP] at hc;rw[Jp];exact hA.rb u hu c hc,λu hu=>by rw[KP,Jp];exact hA.wb u hu,?_⟩;subst PU IZ;exact hA.sto
  obtain⟨s,puts,g,e,h3,hE⟩:=aCC DC hA'.agr e;obtain⟨hg,e⟩:=aB e;have hRf:=refs Ij s KP hE.ref;have Lb:RefIn ops ⟨puts++EF.sc,g EF.sto⟩:=Pz.app λp hp u x he=>absurd he (hE.vals p hp u x)
  refine⟨x6 o s++(puts++pg),g,?_,λR2 DB=>?_,λp hp=>?_,λp hp u x he=>?_,?_⟩
  ·rw[pE] at e
   subst PU;simpa[As] using e
  ·rw[h3,aF (tJ hd hg Lb),pE]
   subst IZ;simp[As]
  ·rcases Bs.1 hp with hp|hp
   ·left
    unfold x6 at hp;cases FX:o.dst with
    |none=>rw[FX] at hp;simp at hp
    |some d=>rw[FX] at hp;simp at hp;subst hp;simp
   ·rcases Bs.1 hp with hp|hp
    ·rcases hE.keys p hp with hk|⟨hk,c,c',h5,h6⟩|⟨hk,c,c',h5,h6,h7⟩
     ·exact .inr (.inl hk)
     ·exact .inr (.inr (.inl ⟨hk,c,c',by rw[<-KP];exact h5,h6⟩))
     ·exact .inr (.inr (.inr (.inl ⟨hk,c,c',by rw[<-KP];exact h5,h6,h7⟩)))
    ·exact .inr (.inr (.inr (.inr (hpg p hp))))
  ·rcases Bs.1 hp with hp|hp
   ·unfold x6 at hp
    cases FX:o.dst with
    |none=>rw[FX] at hp;simp at hp
    |some d=>rw[FX] at hp;simp at hp;subst hp;exact hRf u x he
   ·rcases Bs.1 hp with hp|hp
    ·exact absurd he (hE.vals p hp u x)
    ·obtain⟨_,b,hb,_⟩:=hpg p hp
     rw[hb] at he;cases he
  ·have:=hE.sto
   subst PU;exact this
 unfold gG at e;simp only at e
 split at e
 ·rename_i hg
  obtain⟨puts,g,a1,a2,a3⟩:=go rs1 rs2 [] rfl rfl (λ_=>rfl) (λ_=>rfl) h2 (by simp) e;exact⟨puts,g,a1,λR2 DB=>by rw[<-a2 R2 DB];simp only[gG,hg],a3⟩
 ·rename_i j want hg
  split at e
  ·cases e
  ·rename_i d MO
   have EZ:d∈FA ops o:=by simp[FA,hg,MO]
   have Vz:(∃bb,rs1.look an.keep tm d=.val (.bool bb)/\(match bb==want with
     |true=>aD P ans an true (an.pure.contains (rid,i)) (eY an.loc ops.toList ops.size (addrOf o)) cf tm (an.take.contains (rid,i)) o (rs1.put d (.val (.bool bb))) (λ_ _=>none) (λs rs'=>aL (dK an o s rs') (next (rs'.putO o.dst s)))
     |false=>aL (dK an o .dead rs1) (next ((rs1.put d (.val (.bool bb))).putO o.dst (.tup []))))=some r) \/
     (rs1.look an.keep tm d=.tup []/\aL (dK an o .dead rs1) (next (rs1.putO o.dst (.tup [])))=some r):=by
    unfold nK at e
    split at e
    ·rename_i bb hb
     exact .inl ⟨bb,hb,by cases bb<;>cases want<;>exact e⟩
    ·rename_i hb
     exact .inr ⟨hb,e⟩
    ·cases e
   rcases Vz with⟨bb,JE,e⟩|⟨JE,e⟩
   rotate_left
   ·have HH:rs2.look an.keep tm d=.tup []:=((hA.rd d EZ).eq (by rw[JE];simp)).trans JE
    obtain⟨F9,e⟩:=aB e;refine⟨x6 o (.tup []),id,?_,λR2 DB=>?_,λp hp=>?_,λp hp u x he=>?_,?_⟩
    ·rw[pE] at e;exact e
    ·simp only[gG,hg,MO,HH,nK]
     have Mx:=tJ hd F9 h2;simp only[aF Mx,pE];rfl
    ·left
     unfold x6 at hp;cases FX:o.dst with
     |none=>rw[FX] at hp;simp at hp
     |some d'=>rw[FX] at hp;simp at hp;subst hp;simp
    ·unfold x6 at hp
     cases FX:o.dst with
     |none=>rw[FX] at hp;simp at hp
     |some d'=>rw[FX] at hp;simp at hp;subst hp;cases he
    ·split<;>first|rfl|trivial|exact stoAg.refl _
   have HH:rs2.look an.keep tm d=.val (.bool bb):=((hA.rd d EZ).eq (by rw[JE];simp)).trans JE;cases hbw:bb==want with
   |true =>
    rw[hbw] at e;obtain⟨puts,g,a1,a2,a3⟩:=go (rs1.put d (.val (.bool bb))) (rs2.put d (.val (.bool bb))) [(d,.val (.bool bb))] rfl rfl (vk JE) (vk HH) (h2.putB d bb) (λp hp=>by simp at hp;subst hp;exact⟨EZ,bb,rfl,JE⟩) e;refine⟨puts,g,a1,λR2 DB=>?_,a3⟩;rw[<-a2 R2 DB];simp only[gG,hg,MO,HH,nK];cases bb<;>simp only[Ba,Aq,hbw]
   |false =>
    rw[hbw] at e;obtain⟨F9,e⟩:=aB e;refine⟨x6 o (.tup [])++[(d,.val (.bool bb))],id,?_,λR2 DB=>?_,λp hp=>?_,λp hp u x he=>?_,?_⟩
    ·rw[pE] at e
     rw[As];exact e
    ·simp only[gG,hg,MO,HH,nK]
     have Mx:=tJ hd F9 h2;cases bb<;>simp only[Ba,Aq,hbw,aF Mx,pE,As]<;>rfl
    ·rcases Bs.1 hp with hp|hp
     ·left
      unfold x6 at hp;cases FX:o.dst with
      |none=>rw[FX] at hp;simp at hp
      |some d'=>rw[FX] at hp;simp at hp;subst hp;simp
     ·simp at hp;subst hp;exact .inr (.inr (.inr (.inr ⟨EZ,bb,rfl,JE⟩)))
    ·rcases Bs.1 hp with hp|hp
     ·unfold x6 at hp
      cases FX:o.dst with
      |none=>rw[FX] at hp;simp at hp
      |some d'=>rw[FX] at hp;simp at hp;subst hp;cases he
     ·simp at hp;subst hp;cases he
    ·split<;>first|rfl|trivial|exact stoAg.refl _
def RSeq(a b:RS):Prop:=(∀t,bL a.sc t=bL b.sc t)/\a.sto=b.sto
theorem RSeq.refl(a:RS):RSeq a a:=⟨λ_=>rfl,rfl⟩
theorem RSeq.symm{a b:RS}(h:RSeq a b):RSeq b a:=⟨λt=>(h.1 t).symm,h.2.symm⟩
theorem RSeq.trans{a b c:RS}(h:RSeq a b)(k:RSeq b c):RSeq a c:=⟨λt=>(h.1 t).trans (k.1 t),h.2.trans k.2⟩
theorem RSeq.look{a b:RS}(h:RSeq a b)(t:Nat):b.look an.keep tm t=a.look an.keep tm t:=by
 unfold RS.look;rw[h.1 t]
theorem RSeq.agrO{a b:RS}(h:RSeq a b):AgrO ans an tm ops AF tk o a b:=by
 refine⟨λt _=>.inl (h.look t),λu _ c hc=>⟨c,(h.look u).trans hc,rfl⟩,λu _=>h.look u,?_⟩;split
 ·trivial
 ·rw[h.2];exact stoAg.refl _
 ·exact h.2.symm
theorem RSeq.refIn{a b:RS}(h:RSeq a b)(hr:RefIn ops a):RefIn ops b:=λt u x hl=>hr t u x (by rw[h.1 t];exact hl)
theorem RSeq.app{a b:RS}(h:RSeq a b)(puts:List (Nat×Slot))(g:AN->AN):RSeq ⟨puts++a.sc,g a.sto⟩ ⟨puts++b.sc,g b.sto⟩ :=
 ⟨λt=>by simp only[fK,h.1 t],by simp only[h.2]⟩
theorem nT{l m:List Nat}(h:meets l m=false){t:Nat}(hl:t∈l):t∉m:=λhm=>by
 have:meets l m=true:=List.any_eq_true.2 ⟨t,hl,by simpa using hm⟩
 rw[h] at this;cases this
structure vW (keep loc:List Nat) (ops:Array Oper) (ta tb:Bool) (a b:Oper):Prop where
 hw:∀t,t∈a.dst.toList\/t∈cons keep ta a->t∉FA ops b/\t∉IJ loc ops b/\t∉b.dst.toList/\t∉cons keep tb b
 hb:∀t∈Hw loc ops a,t∉IJ loc ops b
 ht:∀t∈G9 loc ops ta a,t∉G9 loc ops tb b/\t∉Hw loc ops b
theorem aAB{keep loc:List Nat}{ta tb:Bool}{a b:Oper}(h:oO keep loc ops ta tb a b=false):vW keep loc ops ta tb a b:=by
 unfold oO at h;simp only[Dv] at h;obtain⟨⟨h1,h2⟩,h3⟩:=h;refine⟨λt ht=>?_,λt ht=>nT h2 ht,λt ht=>?_⟩
 ·have:=nT h1 (t:=t) (by simpa using ht)
  simp only[Bs,not_or] at this;exact⟨this.1.1.1,this.1.1.2,this.1.2,this.2⟩
 ·have:=nT h3 ht
  simp only[Bs,not_or] at this;exact this
end
section
variable {ans:FuncId->AK}{an:AK}{tm:List Slot}{rs:RS}{ops:Array Oper}{po pa ta tb:Bool}{o a:Oper}{puts:List (Nat×Slot)}{g:AN->AN}
theorem qO(hE:EffO ans an tm ops po ta o rs puts g)(H:vW an.keep an.loc ops ta tb o a){t:Nat}(ht:t∉o.dst.toList)(hc:t∉cons an.keep ta o) :
  RS.look an.keep tm ⟨puts++rs.sc,g rs.sto⟩ t=rs.look an.keep tm t\/(t∈Hw an.loc ops o/\∃c c',rs.look an.keep tm t=.box c/\RS.look an.keep tm ⟨puts++rs.sc,g rs.sto⟩ t=.box c') \/
   (t∈G9 an.loc ops ta o/\∃c c',rs.look an.keep tm t=.box c/\RS.look an.keep tm ⟨puts++rs.sc,g rs.sto⟩ t=.box c'/\c'.map Cell.get=c.map Cell.get):=by
 rw[tr];cases EC:bL puts t with
 |none=>exact .inl rfl
 |some s =>
  have hm:=iL EC;rcases hE.keys _ hm with h|h|⟨h,c,c',h1,h2⟩|⟨h,c,c',h1,h2,h3⟩|⟨_,b,h1,h2⟩
  ·exact absurd h ht
  ·exact absurd h hc
  ·exact .inr (.inl ⟨h,c,c',h1,h2⟩)
  ·exact .inr (.inr ⟨h,c,c',h1,h2,h3⟩)
  ·exact .inl (by show s=_;rw[show s=.val (.bool b) from h1];exact h2.symm)
theorem sO{loc:List Nat}{t:Nat}(h:t∈Hw loc ops a):t∈IJ loc ops a:=by
 unfold Hw at h;unfold IJ
 split at h
 ·rename_i he;simp only[he];exact h
 ·simp at h
theorem sJ{loc:List Nat}{t:Nat}(h:t∈G9 loc ops tb a):t∈IJ loc ops a:=by
 unfold G9 at h;unfold IJ
 split at h
 ·rename_i he
  simp only[he]
  split at h
  ·exact h
  ·simp at h
 ·simp at h
theorem aBJ(hE:EffO ans an tm ops po ta o rs puts g)(H:vW an.keep an.loc ops ta tb o a)(A7:match cN ans an.loc ops pa tb a with
  |.p=>True
  |.r=>stoAg (g rs.sto) rs.sto
  |_=>rs.sto=g rs.sto):AgrO ans an tm ops pa tb a ⟨puts++rs.sc,g rs.sto⟩ rs:=by
 have nd:∀t,t∈FA ops a\/t∈IJ an.loc ops a->t∉o.dst.toList/\t∉cons an.keep ta o:=λt ht =>
  ⟨λh=>by have:=H.hw t (.inl h);rcases ht with ht|ht;exact this.1 ht;exact this.2.1 ht,λh=>by have:=H.hw t (.inr h);rcases ht with ht|ht;exact this.1 ht;exact this.2.1 ht⟩
 refine⟨λt ht=>?_,λu hu c hc=>?_,λu hu=>?_,A7⟩
 ·obtain⟨h1,h2⟩:=nd t (.inl ht)
  rcases qO hE H h1 h2 with h|⟨_,c,c',h3,h4⟩|⟨_,c,c',h3,h4,_⟩
  ·exact .inl h.symm
  ·exact .inr ⟨c',c,h4,h3⟩
  ·exact .inr ⟨c',c,h4,h3⟩
 ·obtain⟨h1,h2⟩:=nd u (.inr hu)
  rcases qO hE H h1 h2 with h|⟨h,_⟩|⟨_,c1,c',h3,h4,h5⟩
  ·rw[h] at hc;exact⟨c,hc,rfl⟩
  ·exact absurd hu (H.hb u h)
  ·rw[h4] at hc;cases hc;exact⟨c1,h3,h5.symm⟩
 ·have PT:u∈IJ an.loc ops a:=hu.elim sO sJ
  obtain⟨h1,h2⟩:=nd u (.inr PT);rcases qO hE H h1 h2 with h|⟨h,_⟩|⟨h,_⟩
  ·exact h.symm
  ·exact absurd PT (H.hb u h)
  ·rcases hu with hu|hu
   ·exact absurd hu (H.ht u h).2
   ·exact absurd hu (H.ht u h).1
end
section
variable {ans:FuncId->AK}{an:AK}{tm:List Slot}{rs rs0:RS}{ops:Array Oper}{po pa ta tb:Bool}{o a:Oper}{puts:List (Nat×Slot)}{g:AN->AN}
theorem xf(hE:EffO ans an tm ops pa tb a rs0 puts g)(H:vW an.keep an.loc ops tb ta a o)(GH:∀u,(u∈Hw an.loc ops a\/u∈G9 an.loc ops tb a\/u∈FA ops a)->agS (rs0.look an.keep tm u) (rs.look an.keep tm u)/\((u∈Hw an.loc ops a\/u∈G9 an.loc ops tb a)->rs.look an.keep tm u=rs0.look an.keep tm u))
  (A7:match cN ans an.loc ops po ta o with
  |.p=>True
  |.r=>stoAg rs.sto (g rs.sto)
  |_=>g rs.sto=rs.sto):AgrO ans an tm ops po ta o rs ⟨puts++rs.sc,g rs.sto⟩:=by
 have look:∀t,t∉a.dst.toList->t∉cons an.keep tb a->RS.look an.keep tm ⟨puts++rs.sc,g rs.sto⟩ t=rs.look an.keep tm t\/(t∈Hw an.loc ops a/\∃c c',rs.look an.keep tm t=.box c/\RS.look an.keep tm ⟨puts++rs.sc,g rs.sto⟩ t=.box c') \/
   (t∈G9 an.loc ops tb a/\∃c c',rs.look an.keep tm t=.box c/\RS.look an.keep tm ⟨puts++rs.sc,g rs.sto⟩ t=.box c'/\c'.map Cell.get=c.map Cell.get):=λt h1 h2=>by
  rw[tr];cases EC:bL puts t with
  |none=>exact .inl rfl
  |some s =>
   have hm:=iL EC;rcases hE.keys _ hm with h|h|⟨h,c,c',h3,h4⟩|⟨h,c,c',h3,h4,h5⟩|⟨h,b,h3,h4⟩
   ·exact absurd h h1
   ·exact absurd h h2
   ·exact .inr (.inl ⟨h,c,c',by rw[(GH t (.inl h)).2 (.inl h)];exact h3,h4⟩)
   ·exact .inr (.inr ⟨h,c,c',by rw[(GH t (.inr (.inl h))).2 (.inr h)];exact h3,h4,h5⟩)
   ·left
    have h6:=(GH t (.inr (.inr h))).1.eq (by rw[show rs0.look an.keep tm t=.val (.bool b) from h4];simp);show s=_;rw[show s=.val (.bool b) from h3,h6];exact h4.symm
 have nd:∀t,t∈FA ops o\/t∈IJ an.loc ops o->t∉a.dst.toList/\t∉cons an.keep tb a:=λt ht =>
  ⟨λh=>by have:=H.hw t (.inl h);rcases ht with ht|ht;exact this.1 ht;exact this.2.1 ht,λh=>by have:=H.hw t (.inr h);rcases ht with ht|ht;exact this.1 ht;exact this.2.1 ht⟩
 refine⟨λt ht=>?_,λu hu c hc=>?_,λu hu=>?_,A7⟩
 ·obtain⟨h1,h2⟩:=nd t (.inl ht)
  rcases look t h1 h2 with h|⟨_,c,c',h3,h4⟩|⟨_,c,c',h3,h4,_⟩
  ·exact .inl h
  ·exact .inr ⟨c,c',h3,h4⟩
  ·exact .inr ⟨c,c',h3,h4⟩
 ·obtain⟨h1,h2⟩:=nd u (.inr hu)
  rcases look u h1 h2 with h|⟨h,_⟩|⟨_,c1,c',h3,h4,h5⟩
  ·exact⟨c,by rw[h];exact hc,rfl⟩
  ·exact absurd hu (H.hb u h)
  ·rw[h3] at hc;cases hc;exact⟨c',h4,h5⟩
 ·have PT:u∈IJ an.loc ops o:=hu.elim sO sJ
  obtain⟨h1,h2⟩:=nd u (.inr PT);rcases look u h1 h2 with h|⟨h,_⟩|⟨h,_⟩
  ·exact h
  ·exact absurd PT (H.hb u h)
  ·rcases hu with hu|hu
   ·exact absurd hu (H.ht u h).2
   ·exact absurd hu (H.ht u h).1
end
section
variable {P:Program}{ans:FuncId->AK}{an:AK}{R:Type}{r:R}
variable {tm:List Slot}{rs:RS}{ops:Array Oper}{po pa ta tb:Bool}{cf:aO}{o a:Oper}{g:AN->AN}
def effSto(cl:Cls)(s s':AN):Prop:=match cl with|.t=>stoAg s s'|.w=>True|.x=>True|_=>s'=s
def agrSto(cl:Cls)(s s':AN):Prop:=match cl with|.p=>True|.r=>stoAg s s'|_=>s'=s
theorem stoAg.symm{s s':AN}(h:stoAg s s'):stoAg s' s:=⟨h.lo.symm,h.len.symm,λi=>by
  rcases h.objs i with h'|⟨c1,c2,h1,h2,h3⟩
  ·exact .inl h'.symm
  ·exact .inr ⟨c2,c1,h2,h1,h3.symm⟩⟩
theorem aCD{co ca:Cls}(B5:co.clash ca=false){s s':AN}(h:effSto co s s'):agrSto ca s' s:=by
 cases co<;>cases ca<;>first
  |trivial
  |(simp[Cls.clash] at B5;done)
  |exact stoAg.symm h
  |(have h':s'=s:=h;subst h';first|rfl|exact stoAg.refl _)
end
end Go.AM
