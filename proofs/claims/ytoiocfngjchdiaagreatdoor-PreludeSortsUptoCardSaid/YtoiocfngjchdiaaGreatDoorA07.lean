import Derived.Test.YtoiocfngjchdiaaGreatDoorA06
set_option linter.all false
namespace Go.AM
section
variable {P:Program}{ans:FuncId->AF}{an:AF}{R:Type}{r:R}
variable {tm:List Slot}{rs1 rs2:RS}{k1:Slot->RS->Option R}{ops:Array Oper}{AA tk:Bool}{cf:aI}{o:Oper}
variable {dst:Option Nat}{ty:TypeId}{pos:String}{AK:Array Edge}{gd:Option (Nat×Bool)}{kp:ae->RS->Option R}
def oO(agg:Bool)(s:Nat)(cs:List Cell)(off:Nat)(k:ae->Option R):Option R :=
 match agg with
 |true=>(partOf true (cs.map Cell.get) off s).bind k
 |false=>aJ (Nat.beq s 1) ((cs[off]?).bind λc=>k c.get)
theorem a2p{agg:Bool}{s:Nat}{cs BX:List Cell}{off:Nat}{k:ae->Option R}(h:BX.map Cell.get=cs.map Cell.get):oO agg s BX off k=oO agg s cs off k:=by
 unfold oO;split
 ·rw[h]
 ·congr 1
  have h1:(BX[off]?).map Cell.get=(cs[off]?).map Cell.get:=by
   rw[<-Aw,<-Aw,h]
  cases h2:BX[off]? with
  |none=>rw[h2] at h1;cases h3:cs[off]? with
   |none=>rfl
   |some c=>rw[h3] at h1;cases h1
  |some c'=>rw[h2] at h1;cases h3:cs[off]? with
   |none=>rw[h3] at h1;cases h1
   |some c=>rw[h3] at h1;simp at h1;simp[h1]
theorem sB{agg:Bool}{s:Nat}{cs:List Cell}{off:Nat}{k:ae->Option R}(e:oO agg s cs off k=some r):∃v,k v=some r/\∀(R2:Type)(k2:ae->Option R2),oO agg s cs off k2=k2 v:=by
 unfold oO at e;cases agg with
 |true =>
  simp only at e;obtain⟨v,hv,e⟩:=aH e;exact⟨v,e,λR2 k2=>by simp only[oO,hv,Ar]⟩
 |false =>
  simp only at e;obtain⟨hg,e⟩:=aB e;obtain⟨c,hc,e⟩:=aH e;exact⟨c.get,e,λR2 k2=>by simp only[oO,aD hg,hc,Ar]⟩
def loadT(tk:Bool)(agg:Bool)(s:Nat)(rs:RS)(p:Place)(cs:List Cell)(off:Nat)(k:Slot->RS->Option R):Option R :=
 match agg with
 |true=>(partOf true (cs.map Cell.get) off s).bind λv=>k (.val v) rs
 |false=>aJ (Nat.beq s 1) (match tk,cs[off]? with
  |true,some (.own sz xs)=>bS rs p (cs.set off (.val (.slice xs))) λrs'=>k (.own sz xs) rs'
  |_,c=>c.bind λc=>k (.val c.get) rs)
theorem fT{agg:Bool}{s:Nat}{rs:RS}{p:Place}{cs:List Cell}{off:Nat}{k:Slot->RS->Option R}(h:tk=false\/agg=true\/∀sz xs,cs[off]?≠some (.own sz xs)):loadT tk agg s rs p cs off k=oO agg s cs off λv=>k (.val v) rs:=by
 unfold loadT oO;cases agg with
 |true=>rfl
 |false =>
  simp only;congr 1;cases tk with
  |false=>rfl
  |true =>
   rcases h with h|h|h
   ·cases h
   ·cases h
   ·split
    ·rename_i hh;exact absurd hh (h _ _)
    ·rfl
theorem a2s{cs:List Cell}{off sz:Nat}{xs:List ae}(h:cs[off]?=some (.own sz xs)):(cs.set off (.val (.slice xs))).map Cell.get=cs.map Cell.get:=by
 apply Fl;intro i;simp only[Aw,Ce];split
 ·rename_i hi;subst hi
  split
  ·rw[h];rfl
  ·rename_i hl;rw[Dx.2 (by omega)]
 ·rfl
def aSz(tk:Bool):lA:=bif tk then .t else .r
theorem aFg{t:TypeId}{a:Operand}(h:GJ ans an tm ops AA tk ⟨dst,.load t a,ty,pos,AK,gd⟩ rs1 rs2)(e:aC P ans an true AA (eM an.loc ops.toList ops.size a) cf tm tk ⟨dst,.load t a,ty,pos,AK,gd⟩ rs1 kp k1=some r):jr P ans an tm ops AA tk cf ⟨dst,.load t a,ty,pos,AK,gd⟩ rs1 rs2 k1 r:=by
 have ha:=h.bd a (by simp[Op.operands]);simp only[aC] at e;obtain⟨p,e,h2,_⟩:=j5 ha e
 have BW:∀(R2:Type)(BS:ae->RS->Option R2)(k2:Slot->RS->Option R2),aC P ans an true AA (eM an.loc ops.toList ops.size (addrOf ⟨dst,.load t a,ty,pos,AK,gd⟩)) cf tm tk ⟨dst,.load t a,ty,pos,AK,gd⟩ rs2 BS k2 =
   bO true (eM an.loc ops.toList ops.size a) p (gC AA p (aT an.keep tm rs2 p λcs off=>(aU P t).bind λs=>(aW P t).bind λagg=>loadT tk agg s rs2 p cs off k2)):=λR2 BS k2=>by
  simp only[aC,addrOf,h2]
  try rfl
 have e:bO true (eM an.loc ops.toList ops.size a) p (gC AA p (aT an.keep tm rs1 p λcs off=>(aU P t).bind λs=>(aW P t).bind λagg=>loadT tk agg s rs1 p cs off k1))=some r:=e;cases p with
 |loc u y =>
  simp only[bO] at e;obtain⟨hr,e⟩:=aB e;obtain⟨hm,a0,m0,Hq⟩:=contains_cons hr;cases AA with
  |true=>cases e
  |false =>
  simp only[gC] at e BW;simp only[aT] at e;obtain⟨cs,CU,e⟩:=a0Z e;obtain⟨s,hs,e⟩:=aH e;obtain⟨agg,EG,e⟩:=aH e;have CT:cJ ans an.loc ops false tk ⟨dst,.load t a,ty,pos,AK,gd⟩=.p:=by simp only[cJ,Hq]
  by_cases hp:tk=false\/agg=true\/∀sz xs,cs[y]?≠some (.own sz xs)
  ·rw[fT hp] at e
   obtain⟨v,e,h3⟩:=sB e;obtain⟨Np,JK,Mj⟩:=h.rb u hm cs CU;refine .val e λR2 BS k2=>?_
   rw[BW];simp only[bO,aD hr,aT,JK,pS,hs,EG,Ar]
   have JZ:tk=false\/agg=true\/∀sz xs,Np[y]?≠some (.own sz xs):=by
    cases GB:tk with
    |false=>exact .inl rfl
    |true =>
     have hw:=h.wb u (.inr (by simp only[HL,GB,Dq];exact hm));rw[CU,JK] at hw;cases hw;rw[GB] at hp;exact hp
   rw[fT JZ,a2p Mj];exact h3 R2 _
  ·have GB:tk=true:=by cases tk<;>simp_all
   have wu:agg=false:=by cases agg<;>simp_all
   obtain⟨sz,xs,DW⟩:∃sz xs,cs[y]?=some (.own sz xs):=by
    apply Gi;intro hn;exact hp (.inr (.inr λsz xs hh=>hn ⟨sz,xs,hh⟩))
   have YJ:u∈HL an.loc ops tk ⟨dst,.load t a,ty,pos,AK,gd⟩:=by simp only[HL,GB,Dq];exact hm
   have JK:=(h.wb u (.inr YJ)).trans CU;subst wu;simp only[loadT,GB,DW] at e;obtain⟨hg,e⟩:=aB e;simp only[bS] at e;refine⟨.own sz xs,[(u,.box (cs.set y (.val (.slice xs))))],id,e,λR2 BS k2=>?_,λp hp=>?_,λp hp u' y'=>?_,(λu y he=>by cases he),by rw[CT]⟩
   ·rw[BW]
    simp only[bO,aD hr,aT,JK,pS,hs,EG,Ar,loadT,GB,DW,aD hg,bS];rfl
   ·simp at hp;subst hp
    exact .inr (.inr ⟨YJ,cs,_,CU,rfl,a2s DW⟩)
   ·simp at hp;subst hp;simp
 |obj i y =>
  simp only[bO] at e;obtain⟨hr,e⟩:=aB e;have Jy:=isEmpty_nil hr;cases AA with
  |true=>cases e
  |false =>
  simp only[gC] at e BW;simp only[aT] at e;obtain⟨cs,CU,e⟩:=a00 e;obtain⟨s,hs,e⟩:=aH e;obtain⟨agg,EG,e⟩:=aH e;have CT:cJ ans an.loc ops false tk ⟨dst,.load t a,ty,pos,AK,gd⟩=aSz tk:=by simp only[cJ,Jy];cases tk<;>rfl
  by_cases hp:tk=false\/agg=true\/∀sz xs,cs[y]?≠some (.own sz xs)
  ·rw[fT hp] at e
   obtain⟨v,e,h3⟩:=sB e
   obtain⟨Np,JK,Mj,JZ⟩:∃Np,rs2.sto.objs[i]?=some (.box Np)/\Np.map Cell.get=cs.map Cell.get/\(tk=false\/agg=true\/∀sz xs,Np[y]?≠some (.own sz xs)):=by
    have A8:=h.sto;rw[CT] at A8;cases GB:tk with
    |true =>
     rw[GB] at A8;have A8:rs2.sto=rs1.sto:=A8;exact⟨cs,by rw[A8];exact CU,rfl,by rw[GB] at hp;exact hp⟩
    |false =>
     rw[GB] at A8;have A8:jz rs1.sto rs2.sto:=A8;rcases A8.objs i with h'|⟨c1,c2,h',MK,hm⟩
     ·exact⟨cs,by rw[h'];exact CU,rfl,.inl rfl⟩
     ·rw[CU] at h';cases h'
      exact⟨c2,MK,hm,.inl rfl⟩
   refine .val e λR2 BS k2=>?_
   rw[BW];simp only[bO,aD hr,aT,JK,pT,hs,EG,Ar];rw[fT JZ,a2p Mj];exact h3 R2 _
  ·have GB:tk=true:=by cases tk<;>simp_all
   have wu:agg=false:=by cases agg<;>simp_all
   obtain⟨sz,xs,DW⟩:∃sz xs,cs[y]?=some (.own sz xs):=by
    apply Gi;intro hn;exact hp (.inr (.inr λsz xs hh=>hn ⟨sz,xs,hh⟩))
   have A8:rs2.sto=rs1.sto:=by have:=h.sto;rw[CT,GB] at this;exact this
   subst wu;simp only[loadT,GB,DW] at e;obtain⟨hg,e⟩:=aB e;simp only[bS] at e;obtain⟨EF,e⟩:=aB e;refine⟨.own sz xs,[],λsto=>{ sto with objs:=sto.objs.set i (.box (cs.set y (.val (.slice xs)))) },e,λR2 BS k2=>?_,by simp,by simp,(λu y he=>by cases he),?_⟩
   ·rw[BW]
    simp only[bO,aD hr,aT,A8,CU,pT,hs,EG,Ar,loadT,GB,DW,aD hg,bS,aD EF];rfl
   ·rw[CT,GB]
    refine⟨rfl,by simp,λj=>?_⟩;simp only[Ce];split
    ·rename_i HS;subst HS
     have AL:=(Ab.1 CU).1;rw[Br AL];exact .inr ⟨cs,_,CU,rfl,a2s DW⟩
    ·exact .inl rfl
 |kc v =>
  simp only[bO] at e;obtain⟨hr,e⟩:=aB e;have a4Y:∀{R:Type}(K:Option R),gC AA (.kc v) K=K:=λK=>by cases AA<;>rfl
  simp only[a4Y] at e BW;simp only[aT] at e;obtain⟨s,hs,e⟩:=aH e;obtain⟨agg,EG,e⟩:=aH e
  have hp:tk=false\/agg=true\/∀sz xs,(v.cells.map Cell.val)[0]?≠some (.own sz xs):=.inr (.inr λsz xs hh=>by
   rw[Aw] at hh;cases hv:v.cells[0]? with
   |none=>rw[hv] at hh;cases hh
   |some c=>rw[hv] at hh;cases hh)
  rw[fT hp] at e;obtain⟨v',e,h3⟩:=sB e;refine .val e λR2 BS k2=>?_
  rw[BW];simp only[bO,aD hr,aT,hs,EG,Ar];rw[fT hp];exact h3 R2 _
end
section
variable {P:Program}{ans:FuncId->AF}{an:AF}{R:Type}{r:R}
variable {tm:List Slot}{rs1 rs2:RS}{k1:Slot->RS->Option R}{ops:Array Oper}{AA tk:Bool}{cf:aI}{o:Oper}
variable {dst:Option Nat}{ty:TypeId}{pos:String}{AK:Array Edge}{gd:Option (Nat×Bool)}{kp:ae->RS->Option R}{l:List Nat}
theorem aHE{x:Operand}{t:Nat}{v:Slot}(h:ji (AZ an.keep tm rs1 x) (AZ an.keep tm rs2 x)):ji (AZ an.keep tm (rs1.put t v) x) (AZ an.keep tm (rs2.put t v) x):=by
 cases x with
 |tmp u =>
  show ji (RS.look an.keep tm (rs1.put t v) u) (RS.look an.keep tm (rs2.put t v) u);rw[dJ,dJ];by_cases hu:u=t
  ·subst hu;rw[eB,eB];exact .inl rfl
  ·rw[bD _ _ hu,bD _ _ hu];exact h
 |const c=>exact h
 |global g=>exact h
 |func f=>exact h
theorem kK:∀{xs:List Operand}{rs1 rs2:RS}{own:List Nat}{i:Nat}{k:List Slot->RS->Option R},(∀x∈xs,ji (AZ an.keep tm rs1 x) (AZ an.keep tm rs2 x))->fX an.keep tm rs1 own i xs k=some r ->
  ∃l puts,k l ⟨puts++rs1.sc,rs1.sto⟩=some r/\(∀(R2:Type)(k2:List Slot->RS->Option R2),fX an.keep tm rs2 own i xs k2=k2 l ⟨puts++rs2.sc,rs2.sto⟩)/\(∀p∈puts,Operand.tmp p.1∈xs)/\∀p∈puts,∀u y,p.2≠.ref u y
 |[],rs1,rs2,own,i,k,h,e=>⟨[],[],e,λR2 k2=>rfl,by simp,by simp⟩
 |x::xs,rs1,rs2,own,i,k,h,e=>by
  have hx:=h x (by simp);simp only[fX] at e
  split at e
  ·rename_i sz l0 t hc BI
   have h2:=hx.eq (by rw[BI];simp);rw[BI] at h2;obtain⟨l,puts,e,h3,h4,h5⟩:=kK (rs2:=rs2.put t (.val (.slice l0))) (λy hy=>aHE (h y (by simp[hy]))) e;refine⟨.own sz l0::l,puts++[(t,.val (.slice l0))],?_,λR2 k2=>?_,λp hp=>?_,λp hp=>?_⟩
   ·rw[Aj];exact e
   ·simp only[fX]
    simp only[hc,h2];rw[h3,Aj];rfl
   ·rcases Bk.1 hp with hp|hp
    ·simp[h4 p hp]
    ·simp at hp;subst hp;simp
   ·rcases Bk.1 hp with hp|hp
    ·exact h5 p hp
    ·simp at hp;subst hp;simp
  ·rename_i hc BI
   have h2:=hx.eq (by rw[BI];simp);rw[BI] at h2;obtain⟨l,puts,e,h3,h4,h5⟩:=kK (rs2:=rs2) (λy hy=>h y (by simp[hy])) e;refine⟨.nl::l,puts,e,λR2 k2=>?_,λp hp=>by simp[h4 p hp],h5⟩;simp only[fX,hc,h2];exact h3 R2 _
  ·rename_i GU LL
   have hs:=hx.eq (λc hc=>by rw[hc] at e;simp[DS] at e);obtain⟨v,e,h2⟩:=pX hx e;obtain⟨l,puts,e,h3,h4,h5⟩:=kK (rs2:=rs2) (λy hy=>h y (by simp[hy])) e;refine⟨.val v::l,puts,e,λR2 k2=>?_,λp hp=>by simp[h4 p hp],h5⟩;simp only[fX,hs];rw[hs] at h2;rw[h2];exact h3 R2 _
theorem cI{n:Nat}{v:ae}(h:js 0 v=true):js n v=true:=by
 cases v with
 |iface t v =>
  rcases Bool.or_eq_true_iff.1 (show(clean v||ng 0 v)=true from h) with h|h
  ·show(clean v||ng n v)=true;rw[h];rfl
  ·cases v<;>simp[ng,Cy] at h
 |_=>simp_all [js,Cy]
theorem a1G{n:Nat}{v:ae}(h:ct 0 v=true):ct n v=true:=by
 cases v with
 |agg cs=>exact Au.2 λc hc=>cI (Au.1 (show cs.all (js 0)=true from h) c hc)
 |func f cs=>exact Au.2 λc hc=>cI (Au.1 (show cs.all (js 0)=true from h) c hc)
 |bool b=>exact cI (n:=n) (v:=.bool b) h
 |int k m=>exact cI (n:=n) (v:=.int k m) h
 |str x=>exact cI (n:=n) (v:=.str x) h
 |slice x=>exact cI (n:=n) (v:=.slice x) h
 |cW=>exact cI (n:=n) (v:=.cW) h
 |kQ=>exact cI (n:=n) (v:=.kQ) h
 |ld=>exact cI (n:=n) (v:=.ld) h
 |fh=>exact cI (n:=n) (v:=.fh) h
 |loc i x=>exact cI (n:=n) (v:=.loc i x) h
 |ln i=>exact cI (n:=n) (v:=.ln i) h
 |bN i=>exact cI (n:=n) (v:=.bN i) h
 |ay x=>exact cI (n:=n) (v:=.ay x) h
 |iface t x=>exact cI (n:=n) (v:=.iface t x) h
 |ko=>exact cI (n:=n) (v:=.ko) h
 |raw x=>exact cI (n:=n) (v:=.raw x) h
 |rc t f a b e=>exact cI (n:=n) (v:=.rc t f a b e) h
theorem a5F{n:Nat}{s:Slot}(h:cF 0 s=true):cF n s=true:=by
 cases s with
 |val v=>exact a1G h
 |aj vs=>exact Au.2 λc hc=>a1G (Au.1 (show vs.all (ct 0)=true from h) c hc)
 |_=>rfl
end
section
variable {P:Program}{ans:FuncId->AF}{an:AF}{R:Type}{r:R}
variable {tm:List Slot}{rs1 rs2:RS}{k1:Slot->RS->Option R}{ops:Array Oper}{AA tk:Bool}{cf:aI}{o:Oper}
variable {dst:Option Nat}{ty:TypeId}{pos:String}{AK:Array Edge}{gd:Option (Nat×Bool)}{l:List Nat}
theorem a3N{cc:Callee}{args:List Slot}(e:cY AA cf cc args rs1 (λ_ _=>none) k1=some r)
  (A8:rs2.sto=rs1.sto\/(AA=true/\∃o:Option Slot,(∀s,o=some s->cF 0 s=true)/\∀sto,cf cc args sto=o.map λs=>(.ret s,sto))) :
  ∃s g,k1 s ⟨rs1.sc,g rs1.sto⟩=some r/\(∀(R2:Type)(BS:ae->RS->Option R2)(k2:Slot->RS->Option R2),cY AA cf cc args rs2 BS k2=k2 s ⟨rs2.sc,g rs2.sto⟩)/\(∀u y,s≠.ref u y)/\(AA=true->g=id):=by
 have nr:∀s,xH s=true->∀u y,s≠.ref u y:=λs h u y he=>by subst he;cases h
 cases AA with
 |false =>
  have A8:rs2.sto=rs1.sto:=A8.resolve_right (by simp);simp only[cY] at e;obtain⟨⟨res,sto'⟩,hc,e⟩:=aH e;cases res with
  |be v=>cases e
  |ret s =>
   obtain⟨hg,e⟩:=aB e;refine⟨s,λ_=>sto',e,λR2 BS k2=>?_,nr s hg,by simp⟩;simp only[cY,A8,hc,Ar,aD hg]
 |true =>
  simp only[cY] at e;obtain⟨⟨res,sto'⟩,hc,e⟩:=aH e;cases res with
  |be v=>cases e
  |ret s =>
   obtain⟨hg,e⟩:=aB e;have U3:=hg;simp only[Ac] at U3;refine⟨s,id,e,λR2 BS k2=>?_,nr s U3.2,λ_=>rfl⟩;rcases A8 with A8|⟨_,o,N4,Lz⟩
   ·simp only[cY,A8,hc,Ar,aD hg]
    show k2 s rs2=k2 s ⟨rs2.sc,rs1.sto⟩;rw[<-A8]
   ·rw[Lz] at hc
    obtain⟨s',JG,he⟩:=Aq.1 hc;cases he;have EF:(cF rs2.sto.objs.length s&&xH s)=true:=by simp[a5F (N4 s JG),U3.2]
    simp only[cY,Lz,JG,Bx,Ar,aD EF];rfl
theorem aFf{c:Call}(DJ:e7 ans cf)(h:GJ ans an tm ops AA tk ⟨dst,.call c,ty,pos,AK,gd⟩ rs1 rs2)(e:aC P ans an true AA l cf tm tk ⟨dst,.call c,ty,pos,AK,gd⟩ rs1 (λ_ _=>none) k1=some r):jr P ans an tm ops AA tk cf ⟨dst,.call c,ty,pos,AK,gd⟩ rs1 rs2 k1 r:=by
 obtain⟨NN,⟨DT⟩,NO⟩:=c;simp only[aC] at e
 split at e
 ·rename_i x
  have hx:=h.bd x (by simp[Op.operands,Call.operands])
  split at e
  ·rename_i hu
   split at e
   ·rename_i s hb
    have h2:=hx.eq (by rw[hb];simp);rw[hb] at h2;exact .val e (λR2 BS k2=>by simp only[aC,hu,h2])
   ·cases e
  ·rename_i el hu
   obtain⟨xs,e,h2⟩:=pW hx e;exact .val e (λR2 BS k2=>by simp only[aC,hu,h2])
  ·rename_i n el hu
   exact .val e (λR2 BS k2=>by simp only[aC,hu])
  ·cases e
 ·rename_i s x
  have hS:=h.bd s (by simp[Op.operands,Call.operands]);have hx:=h.bd x (by simp[Op.operands,Call.operands])
  split at e
  ·rename_i el el2 FU EN
   obtain⟨sz,BD,e⟩:=aH e;obtain⟨z,hz,e⟩:=aH e;obtain⟨ys,e,h2⟩:=pW hx e;obtain⟨hg,e⟩:=aB e
   have e3:(∃G1 xs t,AZ an.keep tm rs1 s=.own G1 xs/\s=.tmp t/\aJ (Nat.beq sz G1&&Nat.ble (xs.length+ys.length) room) (k1 (.own sz (xs++ys)) (rs1.put t (.val (.slice xs))))=some r) \/
     (∃xs,AZ an.keep tm rs1 s=.full xs/\aJ (xs.all (λy=>Nat.beq y.cells.length sz)&&Nat.ble (xs.length+ys.length) room&&(xs.isEmpty||!ys.isEmpty)) (k1 (.own sz (xs++ys)) rs1)=some r) \/
     (AZ an.keep tm rs1 s=.nl/\aJ (Nat.ble ys.length room) (k1 (.own sz ys) rs1)=some r):=by
    split at e
    ·exact .inl ⟨_,_,_,by assumption,rfl,e⟩
    ·exact .inr (.inl ⟨_,by assumption,e⟩)
    ·exact .inr (.inr ⟨by assumption,e⟩)
    ·cases e
   rcases e3 with⟨G1,xs,t,hs,LH,e3⟩|⟨xs,hs,e3⟩|⟨hs,e3⟩
   ·subst LH
    obtain⟨LM,e3⟩:=aB e3;have h3:=hS.eq (by rw[hs];simp);rw[hs] at h3;refine⟨.own sz (xs++ys),[(t,.val (.slice xs))],id,e3,λR2 BS k2=>?_,λp hp=>?_,λp hp u y=>?_,(λu y he=>by cases he),rfl⟩
    ·simp only[aC,FU,EN,BD,hz,Ar,h2,aD hg,h3,aD LM];rfl
    ·simp at hp;subst hp;left;simp[cons]
    ·simp at hp;subst hp;simp
   ·obtain⟨LM,e3⟩:=aB e3
    have h3:=hS.eq (by rw[hs];simp);rw[hs] at h3;exact .plain e3 (λR2 BS k2=>by simp only[aC,FU,EN,BD,hz,Ar,h2,aD hg,h3,aD LM]) (λu y he=>by cases he)
   ·obtain⟨LM,e3⟩:=aB e3
    have h3:=hS.eq (by rw[hs];simp);rw[hs] at h3;exact .plain e3 (λR2 BS k2=>by simp only[aC,FU,EN,BD,hz,Ar,h2,aD hg,h3,aD LM]) (λu y he=>by cases he)
  ·cases e
 ·rename_i x y
  have hx:=h.bd x (by simp[Op.operands,Call.operands]);have hy:=h.bd y (by simp[Op.operands,Call.operands]);obtain⟨kd,n,e,h2⟩:=iY hx e;obtain⟨IC,m,e,h3⟩:=iY hy e;exact .val e (λR2 BS k2=>by simp only[aC,h2,h3])
 ·rename_i f
  have hf:=h.bd f (by simp[Op.operands,Call.operands]);have B9:∀x∈DT,ji (AZ an.keep tm rs1 x) (AZ an.keep tm rs2 x):=λx hx=>h.bd x (by simp[Op.operands,Call.operands,hx])
  have EY:∀(puts:List (Nat×Slot))(p:Nat×Slot),Operand.tmp p.1∈DT->p.1∈cons an.keep tk ⟨dst,.call ⟨.value f,⟨DT⟩,NO⟩,ty,pos,AK,gd⟩:=λputs p hp=>by
   simp only[cons,Fg];exact⟨.tmp p.1,hp,rfl⟩
  have fin:∀(cc:Callee)(args:List Slot)(puts:List (Nat×Slot)),(∀p∈puts,Operand.tmp p.1∈DT)->(∀p∈puts,∀u y,p.2≠.ref u y)->cY AA cf cc args ⟨puts++rs1.sc,rs1.sto⟩ (λ_ _=>none) k1=some r ->
    (rs2.sto=rs1.sto\/(AA=true/\∃o:Option Slot,(∀s,o=some s->cF 0 s=true)/\∀sto,cf cc args sto=o.map λs=>(.ret s,sto))) ->
    (∀(R2:Type)(BS:ae->RS->Option R2)(k2:Slot->RS->Option R2),aC P ans an true AA (eM an.loc ops.toList ops.size (addrOf ⟨dst,.call ⟨.value f,⟨DT⟩,NO⟩,ty,pos,AK,gd⟩)) cf tm tk ⟨dst,.call ⟨.value f,⟨DT⟩,NO⟩,ty,pos,AK,gd⟩ rs2 BS k2=cY AA cf cc args ⟨puts++rs2.sc,rs2.sto⟩ BS k2) ->
    jr P ans an tm ops AA tk cf ⟨dst,.call ⟨.value f,⟨DT⟩,NO⟩,ty,pos,AK,gd⟩ rs1 rs2 k1 r:=λcc args puts Rj JZ e A8 BW=>by
   obtain⟨s,g,e,h2,h3,h4⟩:=a3N (rs2:=⟨puts++rs2.sc,rs2.sto⟩) e A8;refine⟨s,puts,g,e,λR2 BS k2=>by rw[BW,h2],λp hp=>.inl (EY puts p (Rj p hp)),JZ,λu y he=>absurd he (h3 u y),?_⟩;simp only[cJ];cases HO:AA with
   |false=>trivial
   |true =>
    have hg:=h4 HO;subst hg;cases f with
    |func g'=>cases hp:(ans g').jx<;>simp[hp]
    |tmp t=>rfl
    |const v=>rfl
    |global g=>rfl
  split at e
  ·rename_i g caps hb
   have h2:=hf.eq (by rw[hb];simp);rw[hb] at h2;obtain⟨l',puts,e,h3,h4,h5⟩:=kK B9 e;refine fin (.fn g) _ puts h4 h5 e ?_ (λR2 BS k2=>by simp only[aC,h2];exact h3 R2 _);have hs:=h.sto;simp only[cJ] at hs;cases HO:AA with
   |false=>rw[HO] at hs;exact .inl hs
   |true =>
    rw[HO] at hs;cases f with
    |func g' =>
     simp only[AZ] at hb;cases hb;simp only at hs;cases hp:(ans g).jx with
     |true=>exact .inr ⟨rfl,DJ g _ hp⟩
     |false=>rw[hp] at hs;exact .inl hs
    |tmp t=>exact .inl hs
    |const v=>exact .inl hs
    |global g=>exact .inl hs
  ·rename_i i hb
   have h2:=hf.eq (by rw[hb];simp);rw[hb] at h2;obtain⟨l',puts,e,h3,h4,h5⟩:=kK B9 e;refine fin (.bN i) _ puts h4 h5 e ?_ (λR2 BS k2=>by simp only[aC,h2];exact h3 R2 _);have hs:=h.sto;simp only[cJ] at hs;cases HO:AA with
   |false=>rw[HO] at hs;exact .inl hs
   |true =>
    rw[HO] at hs;cases f with
    |func g'=>simp only[AZ] at hb;cases hb
    |tmp t=>exact .inl hs
    |const v=>exact .inl hs
    |global g=>exact .inl hs
  ·cases e
 ·rename_i rc nm
  have hr:=h.bd rc (by simp[Op.operands,Call.operands]);have B9:∀x∈DT,ji (AZ an.keep tm rs1 x) (AZ an.keep tm rs2 x):=λx hx=>h.bd x (by simp[Op.operands,Call.operands,hx])
  split at e
  ·rename_i ut y hb
   have h2:=hr.eq (by rw[hb];simp);rw[hb] at h2;obtain⟨g,hg,e⟩:=aH e;obtain⟨l',e,h3⟩:=rT B9 e;have hs:rs2.sto=rs1.sto:=h.sto;obtain⟨s,g',e,h4,h5,_⟩:=a3N (rs2:=rs2) e (.inl hs);exact⟨s,[],g',e,λR2 BS k2=>by simp only[aC,h2,hg,Ar,h3];exact h4 _ _ _,by simp,by simp,λu y he=>absurd he (h5 u y),trivial⟩
  ·cases e
 ·cases e
theorem a7Y{x:Operand}{xt t:TypeId}{ok:Bool}{kp:ae->RS->Option R}(h:GJ ans an tm ops AA tk ⟨dst,.typeAssert x xt t ok,ty,pos,AK,gd⟩ rs1 rs2)(e:aC P ans an true AA l cf tm tk ⟨dst,.typeAssert x xt t ok,ty,pos,AK,gd⟩ rs1 kp k1=some r):jr P ans an tm ops AA tk cf ⟨dst,.typeAssert x xt t ok,ty,pos,AK,gd⟩ rs1 rs2 k1 r:=by
 have hx:=h.bd x (by simp[Op.operands]);simp only[aC] at e
 split at e
 ·cases e
 ·rename_i d hd hu
  obtain⟨z,hz,e⟩:=aH e
  split at e
  ·rename_i hb
   have h2:=hx.eq (by rw[hb];simp);rw[hb] at h2;obtain⟨EE,e⟩:=aB e;exact .plain e (λR2 BS k2=>by simp only[aC,hu,hz,Ar,h2,aD EE]) (λu x he=>by cases he)
  ·rename_i ut y hb
   have h2:=hx.eq (by rw[hb];simp);rw[hb] at h2
   split at e
   ·rename_i Ry
    cases ok with
    |true=>exact .plain e (λR2 BS k2=>by simp only[aC,hu,hz,Ar,h2,Ry]) (λu x he=>by cases he)
    |false=>exact .val e (λR2 BS k2=>by simp only[aC,hu,hz,Ar,h2,Ry])
   ·rename_i Ry
    obtain⟨EE,e⟩:=aB e;exact .plain e (λR2 BS k2=>by simp only[aC,hu,hz,Ar,h2,Ry,aD EE]) (λu x he=>by cases he)
  ·cases e
 ·cases e
end
section
variable {P:Program}{ans:FuncId->AF}{an:AF}{R:Type}{r:R}
variable {tm:List Slot}{rs1 rs2:RS}{k1:Slot->RS->Option R}{ops:Array Oper}{AA tk:Bool}{cf:aI}
theorem aBI{o:Oper}(DJ:e7 ans cf)(h:GJ ans an tm ops AA tk o rs1 rs2)(e:aC P ans an true AA (eM an.loc ops.toList ops.size (addrOf o)) cf tm tk o rs1 (λ_ _=>none) k1=some r):jr P ans an tm ops AA tk cf o rs1 rs2 k1 r:=by
 obtain⟨d,op,ty,pos,AK,gd⟩:=o;cases op
 case move=>exact aFh h e
 case assign=>exact a7H h e
 case pick=>exact aFi h e
 case alloc=>exact aBS h e
 case box=>exact aIu h e
 case build=>exact aBU h e
 case buildSlice=>exact a7X h e
 case load=>exact aFg h e
 case store=>exact aBW h e
 case nilCheck=>exact a6d h e
 case binOp=>exact aBT h e
 case unOp=>exact aFj h e
 case fieldAddr=>exact a73 h e
 case indexAddr=>exact a74 h e
 case slice=>exact aBV h e
 case makeInterface=>exact a6V h e
 case typeAssert=>exact a7Y h e
 case makeFunc=>exact a6c h e
 case extract=>exact a6R h e
 case call=>exact aFf DJ h e
 all_goals (simp[aC] at e)
end
section
variable {P:Program}{ans:FuncId->AF}{an:AF}{R:Type}{r:R}
variable {tm:List Slot}{rs1 rs2:RS}{ops:Array Oper}{AA tk:Bool}{cf:aI}{o:Oper}{rid i:Nat}
def jo(ops:Array Oper)(rs:RS):Prop:=∀t u x,bV rs.sc t=some (.ref u x)->∃o∈ops.toList,eL o=some u
theorem gL:∀{sc:List (Nat×Slot)}{t:Nat}{s:Slot},bV sc t=some s->(t,s)∈sc
 |[],t,s,h=>by simp[bV] at h
 |(k,x)::sc,t,s,h=>by
  simp only[bV] at h;cases hk:Nat.beq k t with
  |true =>
   rw[hk] at h
   have:=Aa hk
   subst this;cases h;simp
  |false =>
   rw[hk] at h;exact Ek _ (gL h)
theorem a1J{puts:List (Nat×Slot)}{rs:RS}{g:AH->AH}(t:Nat):RS.look an.keep tm ⟨puts++rs.sc,g rs.sto⟩ t=match bV puts t with|some s=>s|none=>rs.look an.keep tm t:=by
 unfold RS.look;rw[fV];cases bV puts t<;>rfl
theorem jo.uw{rs:RS}(h:jo ops rs){d:Nat}(hd:∀o∈ops.toList,eL o≠some d):uw d rs.sc=true:=by
 refine Au.2 λp _=>?_
 split
 ·rename_i u x hl
  obtain⟨o,ho,hu⟩:=h _ _ _ hl;have BA:u≠d:=λe=>hd o ho (by rw[hu,e])
  cases hb:Nat.beq u d with
  |true=>exact absurd (Aa hb) BA
  |false=>rfl
 ·rfl
structure p0 (ans:FuncId->AF) (an:AF) (tm:List Slot) (ops:Array Oper) (AA tk:Bool) (o:Oper) (rs1 rs2:RS):Prop where
 rd:∀t∈GR ops o,ji (rs1.look an.keep tm t) (rs2.look an.keep tm t)
 rb:∀u∈Ic an.loc ops o,∀c,rs1.look an.keep tm u=.box c->∃c2,rs2.look an.keep tm u=.box c2/\c2.map Cell.get=c.map Cell.get
 wb:∀u,(u∈IQ an.loc ops o\/u∈HL an.loc ops tk o)->rs2.look an.keep tm u=rs1.look an.keep tm u
 sto:match cJ ans an.loc ops AA tk o with
  |.p=>True
  |.r=>jz rs1.sto rs2.sto
  |_=>rs2.sto=rs1.sto
theorem p0.agr(h:p0 ans an tm ops AA tk o rs1 rs2):GJ ans an tm ops AA tk o rs1 rs2 :=
 ⟨λx hx=>by
  cases x with
  |tmp t=>exact h.rd t (n5 rfl hx)
  |const v=>exact .inl rfl
  |global g=>exact .inl rfl
  |func f=>exact .inl rfl,h.rb,h.wb,h.sto⟩
structure nj (ans:FuncId->AF) (an:AF) (tm:List Slot) (ops:Array Oper) (AA tk:Bool) (o:Oper) (rs1:RS) (puts:List (Nat×Slot)) (g:AH->AH):Prop where
 keys:∀p∈puts,p.1∈o.dst.toList\/p.1∈cons an.keep tk o\/(p.1∈IQ an.loc ops o/\∃c c',rs1.look an.keep tm p.1=.box c/\p.2=.box c')\/(p.1∈HL an.loc ops tk o/\∃c c',rs1.look an.keep tm p.1=.box c/\p.2=.box c'/\c'.map Cell.get=c.map Cell.get) \/
  (p.1∈GR ops o/\∃b,p.2=.val (.bool b)/\rs1.look an.keep tm p.1=.val (.bool b))
 ref:∀p∈puts,∀u x,p.2=.ref u x->∃o'∈ops.toList,eL o'=some u
 sto:match cJ ans an.loc ops AA tk o with
  |.t=>jz rs1.sto (g rs1.sto)
  |.w=>True
  |.x=>True
  |_=>g=id
theorem jo.look(h:jo ops rs1)(hn:ij tm){t u x:Nat}(hl:rs1.look an.keep tm t=.ref u x):∃o∈ops.toList,eL o=some u:=by
 obtain⟨p,_,hp⟩:=a1K (an:=an) hn hl;exact h _ _ _ hp
theorem jo.app{puts:List (Nat×Slot)}{g:AH->AH}(h:jo ops rs1)(hp:∀p∈puts,∀u x,p.2=.ref u x->∃o'∈ops.toList,eL o'=some u):jo ops ⟨puts++rs1.sc,g rs1.sto⟩:=λt u x hl=>by
 rw[fV] at hl;cases ha:bV puts t with
 |some s=>rw[ha] at hl;cases hl;exact hp _ (gL ha) u x rfl
 |none=>rw[ha] at hl;exact h t u x hl
def vX(o:Oper)(s:Slot):List (Nat×Slot):=match o.dst with|some d=>[(d,s)]|none=>[]
theorem oB(rs:RS)(o:Oper)(s:Slot):rs.jq o.dst s=⟨vX o s++rs.sc,rs.sto⟩:=by
 unfold RS.jq vX;cases o.dst<;>rfl
theorem rW{s:Slot}{rs:RS}(hd:∀d,o.dst=some d->an.loc.contains d=true->∀o'∈ops.toList,eL o'≠some d)(h:dW an o s rs1=true)(h2:jo ops rs):dW an o s rs=true:=by
 unfold dW at h ⊢;cases GC:o.dst with
 |none=>rfl
 |some d =>
  rw[GC] at h;simp only[Ac,Ck,Cz] at h ⊢;refine⟨h.1,?_⟩;cases hl:an.loc.contains d with
  |false=>exact .inl rfl
  |true=>exact .inr (h2.uw (hd d GC hl))
theorem a13{rs:RS}{d:Nat}{b:Bool}(h:rs.look an.keep tm d=.val (.bool b))(t:Nat):RS.look an.keep tm (rs.put d (.val (.bool b))) t=rs.look an.keep tm t:=by
 rw[dJ];by_cases ht:t=d
 ·subst ht;rw[eB,h]
 ·rw[bD _ _ ht]
theorem jo.a6O(h:jo ops rs1)(d:Nat)(b:Bool):jo ops (rs1.put d (.val (.bool b))) :=
 jo.app (puts:=[(d,.val (.bool b))]) (g:=id) h λp hp u x he=>by
  simp at hp;subst hp;cases he
theorem nB{next:RS->Option R}(DJ:e7 ans cf)(hn:ij tm)(ho:o∈ops.toList)(hd:∀d,o.dst=some d->an.loc.contains d=true->∀o'∈ops.toList,eL o'≠some d)
  (hA:p0 ans an tm ops (an.pure.contains (rid,i)) (an.take.contains (rid,i)) o rs1 rs2) (h1:jo ops rs1) (h2:jo ops rs2) (e:iA P ans an true cf tm rid ops (λ_ _=>none) o i rs1 next=some r) :
  ∃puts g,next ⟨puts++rs1.sc,g rs1.sto⟩=some r/\(∀(R2:Type)(DH:RS->Option R2),iA P ans an true cf tm rid ops (λ_ _=>none) o i rs2 DH=DH ⟨puts++rs2.sc,g rs2.sto⟩) /\
   nj ans an tm ops (an.pure.contains (rid,i)) (an.take.contains (rid,i)) o rs1 puts g:=by
 have refs:∀(rs:RS)(s:Slot),(∀t,rs.look an.keep tm t=rs1.look an.keep tm t)->(∀u x,s=.ref u x->eL o=some u\/∃t∈GR ops o,∃y,rs.look an.keep tm t=.ref u y)->∀u x,s=.ref u x->∃o'∈ops.toList,eL o'=some u:=λrs s hl h u x he=>by
  rcases h u x he with h'|⟨t,_,y,h'⟩
  ·exact⟨o,ho,h'⟩
  ·rw[hl] at h';exact h1.look hn h'
 have go:∀(JE EA:RS)(pg:List (Nat×Slot)),JE=⟨pg++rs1.sc,rs1.sto⟩->EA=⟨pg++rs2.sc,rs2.sto⟩->(∀t,JE.look an.keep tm t=rs1.look an.keep tm t)->(∀t,EA.look an.keep tm t=rs2.look an.keep tm t)->jo ops EA ->
   (∀p∈pg,p.1∈GR ops o/\∃b,p.2=.val (.bool b)/\rs1.look an.keep tm p.1=.val (.bool b)) ->
   aC P ans an true (an.pure.contains (rid,i)) (eM an.loc ops.toList ops.size (addrOf o)) cf tm (an.take.contains (rid,i)) o JE (λ_ _=>none) (λs rs'=>aJ (dW an o s rs') (next (rs'.jq o.dst s)))=some r ->
   ∃puts g,next ⟨puts++rs1.sc,g rs1.sto⟩=some r/\(∀(R2:Type)(DH:RS->Option R2),aC P ans an true (an.pure.contains (rid,i)) (eM an.loc ops.toList ops.size (addrOf o)) cf tm (an.take.contains (rid,i)) o EA (λ_ _=>none) (λs rs'=>aJ (dW an o s rs') (DH (rs'.jq o.dst s)))=DH ⟨puts++rs2.sc,g rs2.sto⟩) /\
    nj ans an tm ops (an.pure.contains (rid,i)) (an.take.contains (rid,i)) o rs1 puts g:=λJE EA pg Ma JH J9 G7 P5 JI e=>by
  have Kd:p0 ans an tm ops (an.pure.contains (rid,i)) (an.take.contains (rid,i)) o JE EA:=by
   refine⟨λt ht=>by rw[J9,G7];exact hA.rd t ht,λu hu c hc=>by rw[J9] at hc;rw[G7];exact hA.rb u hu c hc,λu hu=>by rw[J9,G7];exact hA.wb u hu,?_⟩;subst Ma JH;exact hA.sto
  obtain⟨s,puts,g,e,h3,hE⟩:=aBI DJ Kd.agr e;obtain⟨hg,e⟩:=aB e;have hRf:=refs JE s J9 hE.ref;have LW:jo ops ⟨puts++EA.sc,g EA.sto⟩:=P5.app λp hp u x he=>absurd he (hE.dv p hp u x)
  refine⟨vX o s++(puts++pg),g,?_,λR2 DH=>?_,λp hp=>?_,λp hp u x he=>?_,?_⟩
  ·rw[oB] at e
   subst Ma;simpa[Aj] using e
  ·rw[h3,aD (rW hd hg LW),oB]
   subst JH;simp[Aj]
  ·rcases Bk.1 hp with hp|hp
   ·left
    unfold vX at hp;cases GC:o.dst with
    |none=>rw[GC] at hp;simp at hp
    |some d=>rw[GC] at hp;simp at hp;subst hp;simp
   ·rcases Bk.1 hp with hp|hp
    ·rcases hE.keys p hp with hk|⟨hk,c,c',h5,h6⟩|⟨hk,c,c',h5,h6,h7⟩
     ·exact .inr (.inl hk)
     ·exact .inr (.inr (.inl ⟨hk,c,c',by rw[<-J9];exact h5,h6⟩))
     ·exact .inr (.inr (.inr (.inl ⟨hk,c,c',by rw[<-J9];exact h5,h6,h7⟩)))
    ·exact .inr (.inr (.inr (.inr (JI p hp))))
  ·rcases Bk.1 hp with hp|hp
   ·unfold vX at hp
    cases GC:o.dst with
    |none=>rw[GC] at hp;simp at hp
    |some d=>rw[GC] at hp;simp at hp;subst hp;exact hRf u x he
   ·rcases Bk.1 hp with hp|hp
    ·exact absurd he (hE.dv p hp u x)
    ·obtain⟨_,b,hb,_⟩:=JI p hp
     rw[hb] at he;cases he
  ·have:=hE.sto
   subst Ma;exact this
 unfold iA at e;simp only at e
 split at e
 ·rename_i hg
  obtain⟨puts,g,a1,a2,a3⟩:=go rs1 rs2 [] rfl rfl (λ_=>rfl) (λ_=>rfl) h2 (by simp) e;exact⟨puts,g,a1,λR2 DH=>by rw[<-a2 R2 DH];simp only[iA,hg],a3⟩
 ·rename_i j want hg
  split at e
  ·cases e
  ·rename_i d Na
   have E0:d∈GR ops o:=by simp[GR,hg,Na]
   have U2:(∃bb,rs1.look an.keep tm d=.val (.bool bb)/\(match bb==want with
     |true=>aC P ans an true (an.pure.contains (rid,i)) (eM an.loc ops.toList ops.size (addrOf o)) cf tm (an.take.contains (rid,i)) o (rs1.put d (.val (.bool bb))) (λ_ _=>none) (λs rs'=>aJ (dW an o s rs') (next (rs'.jq o.dst s)))
     |false=>aJ (dW an o .dead rs1) (next ((rs1.put d (.val (.bool bb))).jq o.dst (.aj []))))=some r) \/
     (rs1.look an.keep tm d=.aj []/\aJ (dW an o .dead rs1) (next (rs1.jq o.dst (.aj [])))=some r):=by
    unfold pE at e
    split at e
    ·rename_i bb hb
     exact .inl ⟨bb,hb,by cases bb<;>cases want<;>exact e⟩
    ·rename_i hb
     exact .inr ⟨hb,e⟩
    ·cases e
   rcases U2 with⟨bb,IF,e⟩|⟨IF,e⟩
   rotate_left
   ·have IE:rs2.look an.keep tm d=.aj []:=((hA.rd d E0).eq (by rw[IF];simp)).trans IF
    obtain⟨EE,e⟩:=aB e;refine⟨vX o (.aj []),id,?_,λR2 DH=>?_,λp hp=>?_,λp hp u x he=>?_,?_⟩
    ·rw[oB] at e;exact e
    ·simp only[iA,hg,Na,IE,pE]
     have Mf:=rW hd EE h2;simp only[aD Mf,oB];rfl
    ·left
     unfold vX at hp;cases GC:o.dst with
     |none=>rw[GC] at hp;simp at hp
     |some d'=>rw[GC] at hp;simp at hp;subst hp;simp
    ·unfold vX at hp
     cases GC:o.dst with
     |none=>rw[GC] at hp;simp at hp
     |some d'=>rw[GC] at hp;simp at hp;subst hp;cases he
    ·split<;>first|rfl|trivial|exact jz.refl _
   have IE:rs2.look an.keep tm d=.val (.bool bb):=((hA.rd d E0).eq (by rw[IF];simp)).trans IF;cases pe:bb==want with
   |true =>
    rw[pe] at e;obtain⟨puts,g,a1,a2,a3⟩:=go (rs1.put d (.val (.bool bb))) (rs2.put d (.val (.bool bb))) [(d,.val (.bool bb))] rfl rfl (a13 IF) (a13 IE) (h2.a6O d bb) (λp hp=>by simp at hp;subst hp;exact⟨E0,bb,rfl,IF⟩) e;refine⟨puts,g,a1,λR2 DH=>?_,a3⟩;rw[<-a2 R2 DH];simp only[iA,hg,Na,IE,pE];cases bb<;>simp only[Bo,Bh,pe]
   |false =>
    rw[pe] at e;obtain⟨EE,e⟩:=aB e;refine⟨vX o (.aj [])++[(d,.val (.bool bb))],id,?_,λR2 DH=>?_,λp hp=>?_,λp hp u x he=>?_,?_⟩
    ·rw[oB] at e
     rw[Aj];exact e
    ·simp only[iA,hg,Na,IE,pE]
     have Mf:=rW hd EE h2;cases bb<;>simp only[Bo,Bh,pe,aD Mf,oB,Aj]<;>rfl
    ·rcases Bk.1 hp with hp|hp
     ·left
      unfold vX at hp;cases GC:o.dst with
      |none=>rw[GC] at hp;simp at hp
      |some d'=>rw[GC] at hp;simp at hp;subst hp;simp
     ·simp at hp;subst hp;exact .inr (.inr (.inr (.inr ⟨E0,bb,rfl,IF⟩)))
    ·rcases Bk.1 hp with hp|hp
     ·unfold vX at hp
      cases GC:o.dst with
      |none=>rw[GC] at hp;simp at hp
      |some d'=>rw[GC] at hp;simp at hp;subst hp;cases he
     ·simp at hp;subst hp;cases he
    ·split<;>first|rfl|trivial|exact jz.refl _
def jg(a b:RS):Prop:=(∀t,bV a.sc t=bV b.sc t)/\a.sto=b.sto
theorem jg.refl(a:RS):jg a a:=⟨λ_=>rfl,rfl⟩
theorem jg.symm{a b:RS}(h:jg a b):jg b a:=⟨λt=>(h.1 t).symm,h.2.symm⟩
theorem jg.trans{a b c:RS}(h:jg a b)(k:jg b c):jg a c:=⟨λt=>(h.1 t).trans (k.1 t),h.2.trans k.2⟩
theorem jg.look{a b:RS}(h:jg a b)(t:Nat):b.look an.keep tm t=a.look an.keep tm t:=by
 unfold RS.look;rw[h.1 t]
theorem jg.v9{a b:RS}(h:jg a b):p0 ans an tm ops AA tk o a b:=by
 refine⟨λt _=>.inl (h.look t),λu _ c hc=>⟨c,(h.look u).trans hc,rfl⟩,λu _=>h.look u,?_⟩;split
 ·trivial
 ·rw[h.2];exact jz.refl _
 ·exact h.2.symm
theorem jg.a6Y{a b:RS}(h:jg a b)(hr:jo ops a):jo ops b:=λt u x hl=>hr t u x (by rw[h.1 t];exact hl)
theorem jg.app{a b:RS}(h:jg a b)(puts:List (Nat×Slot))(g:AH->AH):jg ⟨puts++a.sc,g a.sto⟩ ⟨puts++b.sc,g b.sto⟩ :=
 ⟨λt=>by simp only[fV,h.1 t],by simp only[h.2]⟩
theorem mZ{l m:List Nat}(h:meets l m=false){t:Nat}(hl:t∈l):t∉m:=λhm=>by
 have:meets l m=true:=List.any_eq_true.2 ⟨t,hl,by simpa using hm⟩
 rw[h] at this;cases this
structure yU (keep loc:List Nat) (ops:Array Oper) (ta tb:Bool) (a b:Oper):Prop where
 hw:∀t,t∈a.dst.toList\/t∈cons keep ta a->t∉GR ops b/\t∉Ic loc ops b/\t∉b.dst.toList/\t∉cons keep tb b
 hb:∀t∈IQ loc ops a,t∉Ic loc ops b
 ht:∀t∈HL loc ops ta a,t∉HL loc ops tb b/\t∉IQ loc ops b
theorem a3s{keep loc:List Nat}{ta tb:Bool}{a b:Oper}(h:nW keep loc ops ta tb a b=false):yU keep loc ops ta tb a b:=by
 unfold nW at h;simp only[Fc] at h;obtain⟨⟨h1,h2⟩,h3⟩:=h;refine⟨λt ht=>?_,λt ht=>mZ h2 ht,λt ht=>?_⟩
 ·have:=mZ h1 (t:=t) (by simpa using ht)
  simp only[Bk,not_or] at this;exact⟨this.1.1.1,this.1.1.2,this.1.2,this.2⟩
 ·have:=mZ h3 ht
  simp only[Bk,not_or] at this;exact this
end
section
variable {ans:FuncId->AF}{an:AF}{tm:List Slot}{rs:RS}{ops:Array Oper}{po pa ta tb:Bool}{o a:Oper}{puts:List (Nat×Slot)}{g:AH->AH}
theorem o6(hE:nj ans an tm ops po ta o rs puts g)(H:yU an.keep an.loc ops ta tb o a){t:Nat}(ht:t∉o.dst.toList)(hc:t∉cons an.keep ta o) :
  RS.look an.keep tm ⟨puts++rs.sc,g rs.sto⟩ t=rs.look an.keep tm t\/(t∈IQ an.loc ops o/\∃c c',rs.look an.keep tm t=.box c/\RS.look an.keep tm ⟨puts++rs.sc,g rs.sto⟩ t=.box c') \/
   (t∈HL an.loc ops ta o/\∃c c',rs.look an.keep tm t=.box c/\RS.look an.keep tm ⟨puts++rs.sc,g rs.sto⟩ t=.box c'/\c'.map Cell.get=c.map Cell.get):=by
 rw[a1J];cases CV:bV puts t with
 |none=>exact .inl rfl
 |some s =>
  have hm:=gL CV;rcases hE.keys _ hm with h|h|⟨h,c,c',h1,h2⟩|⟨h,c,c',h1,h2,h3⟩|⟨_,b,h1,h2⟩
  ·exact absurd h ht
  ·exact absurd h hc
  ·exact .inr (.inl ⟨h,c,c',h1,h2⟩)
  ·exact .inr (.inr ⟨h,c,c',h1,h2,h3⟩)
  ·exact .inl (by show s=_;rw[show s=.val (.bool b) from h1];exact h2.symm)
theorem rJ{loc:List Nat}{t:Nat}(h:t∈IQ loc ops a):t∈Ic loc ops a:=by
 unfold IQ at h;unfold Ic
 split at h
 ·rename_i he;simp only[he];exact h
 ·simp at h
theorem rE{loc:List Nat}{t:Nat}(h:t∈HL loc ops tb a):t∈Ic loc ops a:=by
 unfold HL at h;unfold Ic
 split at h
 ·rename_i he
  simp only[he]
  split at h
  ·exact h
  ·simp at h
 ·simp at h
theorem aAA(hE:nj ans an tm ops po ta o rs puts g)(H:yU an.keep an.loc ops ta tb o a)(A8:match cJ ans an.loc ops pa tb a with
  |.p=>True
  |.r=>jz (g rs.sto) rs.sto
  |_=>rs.sto=g rs.sto):p0 ans an tm ops pa tb a ⟨puts++rs.sc,g rs.sto⟩ rs:=by
 have nd:∀t,t∈GR ops a\/t∈Ic an.loc ops a->t∉o.dst.toList/\t∉cons an.keep ta o:=λt ht =>
  ⟨λh=>by have:=H.hw t (.inl h);rcases ht with ht|ht;exact this.1 ht;exact this.2.1 ht,λh=>by have:=H.hw t (.inr h);rcases ht with ht|ht;exact this.1 ht;exact this.2.1 ht⟩
 refine⟨λt ht=>?_,λu hu c hc=>?_,λu hu=>?_,A8⟩
 ·obtain⟨h1,h2⟩:=nd t (.inl ht)
  rcases o6 hE H h1 h2 with h|⟨_,c,c',h3,h4⟩|⟨_,c,c',h3,h4,_⟩
  ·exact .inl h.symm
  ·exact .inr ⟨c',c,h4,h3⟩
  ·exact .inr ⟨c',c,h4,h3⟩
 ·obtain⟨h1,h2⟩:=nd u (.inr hu)
  rcases o6 hE H h1 h2 with h|⟨h,_⟩|⟨_,c1,c',h3,h4,h5⟩
  ·rw[h] at hc;exact⟨c,hc,rfl⟩
  ·exact absurd hu (H.hb u h)
  ·rw[h4] at hc;cases hc;exact⟨c1,h3,h5.symm⟩
 ·have PD:u∈Ic an.loc ops a:=hu.elim rJ rE
  obtain⟨h1,h2⟩:=nd u (.inr PD);rcases o6 hE H h1 h2 with h|⟨h,_⟩|⟨h,_⟩
  ·exact h.symm
  ·exact absurd PD (H.hb u h)
  ·rcases hu with hu|hu
   ·exact absurd hu (H.ht u h).2
   ·exact absurd hu (H.ht u h).1
end
section
variable {ans:FuncId->AF}{an:AF}{tm:List Slot}{rs rs0:RS}{ops:Array Oper}{po pa ta tb:Bool}{o a:Oper}{puts:List (Nat×Slot)}{g:AH->AH}
theorem a6T(hE:nj ans an tm ops pa tb a rs0 puts g)(H:yU an.keep an.loc ops tb ta a o)(Hu:∀u,(u∈IQ an.loc ops a\/u∈HL an.loc ops tb a\/u∈GR ops a)->ji (rs0.look an.keep tm u) (rs.look an.keep tm u)/\((u∈IQ an.loc ops a\/u∈HL an.loc ops tb a)->rs.look an.keep tm u=rs0.look an.keep tm u))
  (A8:match cJ ans an.loc ops po ta o with
  |.p=>True
  |.r=>jz rs.sto (g rs.sto)
  |_=>g rs.sto=rs.sto):p0 ans an tm ops po ta o rs ⟨puts++rs.sc,g rs.sto⟩:=by
 have look:∀t,t∉a.dst.toList->t∉cons an.keep tb a->RS.look an.keep tm ⟨puts++rs.sc,g rs.sto⟩ t=rs.look an.keep tm t\/(t∈IQ an.loc ops a/\∃c c',rs.look an.keep tm t=.box c/\RS.look an.keep tm ⟨puts++rs.sc,g rs.sto⟩ t=.box c') \/
   (t∈HL an.loc ops tb a/\∃c c',rs.look an.keep tm t=.box c/\RS.look an.keep tm ⟨puts++rs.sc,g rs.sto⟩ t=.box c'/\c'.map Cell.get=c.map Cell.get):=λt h1 h2=>by
  rw[a1J];cases CV:bV puts t with
  |none=>exact .inl rfl
  |some s =>
   have hm:=gL CV;rcases hE.keys _ hm with h|h|⟨h,c,c',h3,h4⟩|⟨h,c,c',h3,h4,h5⟩|⟨h,b,h3,h4⟩
   ·exact absurd h h1
   ·exact absurd h h2
   ·exact .inr (.inl ⟨h,c,c',by rw[(Hu t (.inl h)).2 (.inl h)];exact h3,h4⟩)
   ·exact .inr (.inr ⟨h,c,c',by rw[(Hu t (.inr (.inl h))).2 (.inr h)];exact h3,h4,h5⟩)
   ·left
    have h6:=(Hu t (.inr (.inr h))).1.eq (by rw[show rs0.look an.keep tm t=.val (.bool b) from h4];simp);show s=_;rw[show s=.val (.bool b) from h3,h6];exact h4.symm
 have nd:∀t,t∈GR ops o\/t∈Ic an.loc ops o->t∉a.dst.toList/\t∉cons an.keep tb a:=λt ht =>
  ⟨λh=>by have:=H.hw t (.inl h);rcases ht with ht|ht;exact this.1 ht;exact this.2.1 ht,λh=>by have:=H.hw t (.inr h);rcases ht with ht|ht;exact this.1 ht;exact this.2.1 ht⟩
 refine⟨λt ht=>?_,λu hu c hc=>?_,λu hu=>?_,A8⟩
 ·obtain⟨h1,h2⟩:=nd t (.inl ht)
  rcases look t h1 h2 with h|⟨_,c,c',h3,h4⟩|⟨_,c,c',h3,h4,_⟩
  ·exact .inl h
  ·exact .inr ⟨c,c',h3,h4⟩
  ·exact .inr ⟨c,c',h3,h4⟩
 ·obtain⟨h1,h2⟩:=nd u (.inr hu)
  rcases look u h1 h2 with h|⟨h,_⟩|⟨_,c1,c',h3,h4,h5⟩
  ·exact⟨c,by rw[h];exact hc,rfl⟩
  ·exact absurd hu (H.hb u h)
  ·rw[h3] at hc;cases hc;exact⟨c',h4,h5⟩
 ·have PD:u∈Ic an.loc ops o:=hu.elim rJ rE
  obtain⟨h1,h2⟩:=nd u (.inr PD);rcases look u h1 h2 with h|⟨h,_⟩|⟨h,_⟩
  ·exact h
  ·exact absurd PD (H.hb u h)
  ·rcases hu with hu|hu
   ·exact absurd hu (H.ht u h).2
   ·exact absurd hu (H.ht u h).1
end
section
variable {P:Program}{ans:FuncId->AF}{an:AF}{R:Type}{r:R}
variable {tm:List Slot}{rs:RS}{ops:Array Oper}{po pa ta tb:Bool}{cf:aI}{o a:Oper}{g:AH->AH}
def tn(cl:lA)(s s':AH):Prop:=match cl with|.t=>jz s s'|.w=>True|.x=>True|_=>s'=s
def r_(cl:lA)(s s':AH):Prop:=match cl with|.p=>True|.r=>jz s s'|_=>s'=s
theorem jz.symm{s s':AH}(h:jz s s'):jz s' s:=⟨h.lo.symm,h.len.symm,λi=>by
  rcases h.objs i with h'|⟨c1,c2,h1,h2,h3⟩
  ·exact .inl h'.symm
  ·exact .inr ⟨c2,c1,h2,h1,h3.symm⟩⟩
theorem aBJ{co ca:lA}(BQ:co.qa ca=false){s s':AH}(h:tn co s s'):r_ ca s' s:=by
 cases co<;>cases ca<;>first
  |trivial
  |(simp[lA.qa] at BQ;done)
  |exact jz.symm h
  |(have h':s'=s:=h;subst h';first|rfl|exact jz.refl _)
end
section
variable {P:Program}{ans:FuncId->AF}{an:AF}{R:Type}{r:R}
variable {tm:List Slot}{rs:RS}{ops:Array Oper}{cf:aI}{o a:Oper}{rid i j:Nat}{g:AH->AH}
def One(P:Program)(ans:FuncId->AF)(an:AF)(cf:aI)(tm:List Slot)(rid:Nat)(ops:Array Oper)(o:Oper)(i:Nat)(rs rs':RS):Prop :=
 ∀(R2:Type)(next:RS->Option R2),iA P ans an true cf tm rid ops (λ_ _=>none) o i rs next=next rs'
structure ja (an:AF) (ops:Array Oper) (o:Oper):Prop where
 mem:o∈ops.toList
 dst:∀d,o.dst=some d->an.loc.contains d=true->∀o'∈ops.toList,eL o'≠some d
theorem sG(DJ:e7 ans cf)(hn:ij tm)(ho:ja an ops o){next:RS->Option R}{rs2:RS}(hq:jg rs rs2)(hR:jo ops rs)(e:iA P ans an true cf tm rid ops (λ_ _=>none) o i rs next=some r) :
  ∃rs' EA,One P ans an cf tm rid ops o i rs rs'/\One P ans an cf tm rid ops o i rs2 EA/\jg rs' EA/\jo ops rs'/\next rs'=some r:=by
 obtain⟨a8f,g',e1',Nk,hE'⟩:=nB DJ hn ho.mem ho.dst (jg.refl rs).v9 hR hR e;have e2:=Nk RS some;obtain⟨puts,g,e1,h2,hE⟩:=nB DJ hn ho.mem ho.dst hq.v9 hR (hq.a6Y hR) e2;refine⟨_,_,Nk,h2,?_,hR.app hE'.ref,e1'⟩;rw[<-Bp e1];exact hq.app puts g
theorem r_.symm{c0:lA}{s s':AH}(h:r_ c0 s s'):r_ c0 s' s:=by
 cases c0<;>first|trivial|exact jz.symm h|exact Eq.symm h
theorem nj.tn{AA tk:Bool}{puts:List (Nat×Slot)}(h:nj ans an tm ops AA tk o rs puts g):AM.tn (cJ ans an.loc ops AA tk o) rs.sto (g rs.sto):=by
 have:=h.sto
 unfold AM.tn
 split at this<;>simp_all
theorem nj.tg{AA tk:Bool}{puts:List (Nat×Slot)}(h:nj ans an tm ops AA tk o rs puts g)(hc:cJ ans an.loc ops AA tk o=.p\/cJ ans an.loc ops AA tk o=.r\/cJ ans an.loc ops AA tk o=.c):g=id:=by
 have:=h.sto
 rcases hc with hc|hc|hc<;>(rw[hc] at this;exact this)
theorem aBA{ta tb po pa:Bool}{rs0:RS}{p1 p2:List (Nat×Slot)}{g1 g2:AH->AH}(h1:nj ans an tm ops po ta o rs p1 g1)(h2:nj ans an tm ops pa tb a rs0 p2 g2)(H1:yU an.keep an.loc ops ta tb o a)(H2:yU an.keep an.loc ops tb ta a o)
  (fc:∀t,t∈GR ops o->t∈GR ops a->∀b,rs.look an.keep tm t=.val (.bool b)->rs0.look an.keep tm t=.val (.bool b)) (YU:∀t c,t∈IQ an.loc ops a\/t∈HL an.loc ops tb a->rs0.look an.keep tm t=.box c->∃c',rs.look an.keep tm t=.box c')
  (P0:∀t c,t∈GR ops a->rs.look an.keep tm t=.box c->∃c',rs0.look an.keep tm t=.box c') {t:Nat} {s1 s2:Slot} (ha:bV p1 t=some s1) (hb:bV p2 t=some s2):s1=s2:=by
 have k1:=h1.keys _ (gL ha);have k2:=h2.keys _ (gL hb);simp only at k1 k2
 have a0B:∀(k:t∈o.dst.toList\/t∈cons an.keep ta o),False:=λk=>by
  obtain⟨n1,n2,n3,n4⟩:=H1.hw t k;rcases k2 with k|k|⟨k,_⟩|⟨k,_⟩|⟨k,_⟩
  ·exact n3 k
  ·exact n4 k
  ·exact n2 (rJ k)
  ·exact n2 (rE k)
  ·exact n1 k
 have Nn:∀(k:t∈a.dst.toList\/t∈cons an.keep tb a),False:=λk=>by
  obtain⟨n1,n2,n3,n4⟩:=H2.hw t k;rcases k1 with k|k|⟨k,_⟩|⟨k,_⟩|⟨k,_⟩
  ·exact n3 k
  ·exact n4 k
  ·exact n2 (rJ k)
  ·exact n2 (rE k)
  ·exact n1 k
 rcases k1 with k|k|⟨k,c,c',e1,e2⟩|⟨k,c,c',e1,e2,e3⟩|⟨k,b,e1,e2⟩
 ·exact(a0B (.inl k)).elim
 ·exact(a0B (.inr k)).elim
 ·rcases k2 with m|m|⟨m,_⟩|⟨m,_⟩|⟨m,b',f1,f2⟩
  ·exact(Nn (.inl m)).elim
  ·exact(Nn (.inr m)).elim
  ·exact absurd (rJ m) (H1.hb t k)
  ·exact absurd (rE m) (H1.hb t k)
  ·obtain⟨c2,DB⟩:=P0 t c m e1
   rw[f2] at DB;cases DB
 ·rcases k2 with m|m|⟨m,_⟩|⟨m,_⟩|⟨m,b',f1,f2⟩
  ·exact(Nn (.inl m)).elim
  ·exact(Nn (.inr m)).elim
  ·exact absurd m (H1.ht t k).2
  ·exact absurd m (H1.ht t k).1
  ·obtain⟨c2,DB⟩:=P0 t c m e1
   rw[f2] at DB;cases DB
 ·rcases k2 with m|m|⟨m,c,c',f1,f2⟩|⟨m,c,c',f1,f2,f3⟩|⟨m,b',f1,f2⟩
  ·exact(Nn (.inl m)).elim
  ·exact(Nn (.inr m)).elim
  ·obtain⟨c2,DB⟩:=YU t c (.inl m) f1
   rw[e2] at DB;cases DB
  ·obtain⟨c2,DB⟩:=YU t c (.inr m) f1
   rw[e2] at DB;cases DB
  ·have:=fc t k m b e2
   rw[f2] at this;cases this;rw[e1,f1]
theorem aB7{p1 p2 l:List (Nat×Slot)}(h:∀t s1 s2,bV p1 t=some s1->bV p2 t=some s2->s1=s2)(t:Nat):bV (p2++(p1++l)) t=bV (p1++(p2++l)) t:=by
 simp only[fV];cases h1:bV p1 t with
 |none=>cases h2:bV p2 t<;>rfl
 |some s1=>cases h2:bV p2 t with
  |none=>rfl
  |some s2=>simp only;rw[h t s1 s2 h1 h2]
theorem a3K(c0:lA)(s s':AH):r_ c0 s s'=(match c0 with
  |.p=>True
  |.r=>jz s s'
  |_=>s'=s):=by cases c0<;>rfl
theorem comm(DJ:e7 ans cf)(hn:ij tm)(ho:ja an ops o)(ha:ja an ops a){next:RS->Option R}(hR:jo ops rs)
  (BQ:(cJ ans an.loc ops (an.pure.contains (rid,i)) (an.take.contains (rid,i)) o).qa (cJ ans an.loc ops (an.pure.contains (rid,j)) (an.take.contains (rid,j)) a)=false)
  (H1:yU an.keep an.loc ops (an.take.contains (rid,i)) (an.take.contains (rid,j)) o a) (H2:yU an.keep an.loc ops (an.take.contains (rid,j)) (an.take.contains (rid,i)) a o)
  (e:iA P ans an true cf tm rid ops (λ_ _=>none) o i rs (λrs'=>iA P ans an true cf tm rid ops (λ_ _=>none) a j rs' next)=some r) :
  ∃rs1 MQ rs2,next rs1=some r/\One P ans an cf tm rid ops a j rs MQ/\One P ans an cf tm rid ops o i MQ rs2/\jg rs1 rs2/\jo ops rs1:=by
 obtain⟨p1,g1,e1,k1,E1⟩:=nB DJ hn ho.mem ho.dst (jg.refl rs).v9 hR hR e
 let RZ:RS:=⟨p1++rs.sc,g1 rs.sto⟩
 have YW:jo ops RZ:=hR.app E1.ref;have a4M:=aBJ BQ E1.tn;have A1:p0 ans an tm ops (an.pure.contains (rid,j)) (an.take.contains (rid,j)) a RZ rs:=aAA E1 H1 (Eq.mp (a3K _ _ _) a4M);obtain⟨p2,g2,e2,k2,E2⟩:=nB DJ hn ha.mem ha.dst A1 YW hR e1
 let MQ:RS:=⟨p2++rs.sc,g2 rs.sto⟩
 have hRA:jo ops MQ:=hR.app E2.ref
 have MC:(∀p g,nj ans an tm ops (an.pure.contains (rid,i)) (an.take.contains (rid,i)) o rs p g->g=id)\/g2=id:=by
  generalize U7:cJ ans an.loc ops (an.pure.contains (rid,i)) (an.take.contains (rid,i)) o=co at BQ;generalize PZ:cJ ans an.loc ops (an.pure.contains (rid,j)) (an.take.contains (rid,j)) a=ca at BQ;cases co with
  |p=>exact .inl λp g h=>h.tg (.inl U7)
  |r=>exact .inl λp g h=>h.tg (.inr (.inl U7))
  |c=>exact .inl λp g h=>h.tg (.inr (.inr U7))
  |t=>cases ca with
   |p=>exact .inr (E2.tg (.inl PZ))
   |r=>exact .inr (E2.tg (.inr (.inl PZ)))
   |_=>simp[lA.qa] at BQ
  |w=>cases ca with
   |p=>exact .inr (E2.tg (.inl PZ))
   |_=>simp[lA.qa] at BQ
  |x=>cases ca<;>simp[lA.qa] at BQ
 have a4L:r_ (cJ ans an.loc ops (an.pure.contains (rid,i)) (an.take.contains (rid,i)) o) rs.sto (g2 rs.sto):=by
  rcases MC with h|h
  ·have h1:=h _ _ E1
   have h2:=E2.tn;have hs:RZ.sto=rs.sto:=by show g1 rs.sto=rs.sto;rw[h1];rfl
   rw[hs] at h2;generalize cJ ans an.loc ops (an.pure.contains (rid,i)) (an.take.contains (rid,i)) o=co at BQ;generalize cJ ans an.loc ops (an.pure.contains (rid,j)) (an.take.contains (rid,j)) a=ca at BQ h2
   cases co<;>cases ca<;>first
    |trivial
    |(simp[lA.qa] at BQ;done)
    |exact h2
    |(have h':g2 rs.sto=rs.sto:=h2
      show jz rs.sto (g2 rs.sto);rw[h'];exact jz.refl _)
  ·rw[h]
   unfold r_;split
   ·trivial
   ·exact jz.refl _
   ·rfl
 have A2:p0 ans an tm ops (an.pure.contains (rid,i)) (an.take.contains (rid,i)) o rs MQ:=a6T E2 H2 (λu hu=>by
   refine⟨?_,λh=>A1.wb u h⟩;rcases hu with hu|hu|hu
   ·exact .inl (A1.wb u (.inl hu))
   ·exact .inl (A1.wb u (.inr hu))
   ·exact A1.rd u hu) (Eq.mp (a3K _ _ _) a4L)
 obtain⟨TX,VA,e3,k3,a4e⟩:=nB DJ hn ho.mem ho.dst A2 hR hRA (k1 RS some);have YQ:=Bp e3;have hp:TX=p1:=List.append_cancel_right (Dd RS.sc YQ);have hg:VA rs.sto=g1 rs.sto:=Dd RS.sto YQ;subst hp;refine⟨⟨p2++(TX++rs.sc),g2 (g1 rs.sto)⟩,MQ,⟨TX++(p2++rs.sc),VA (g2 rs.sto)⟩,e2,k2,k3,⟨λt=>aB7 (λt s1 s2 h1 h2=>?_) t,?_⟩,YW.app E2.ref⟩
 ·refine aBA (rs0:=RZ) E1 E2 H1 H2 (λt _ ht b hb=>?_) (λt c h hc=>⟨c,(A1.wb t h).trans hc⟩) (λt c ht hc=>?_) h1 h2
  ·rcases A1.rd t ht with h|⟨c1,c2,_,h⟩
   ·rw[<-h];exact hb
   ·rw[h] at hb;cases hb
  ·rcases A1.rd t ht with h|⟨c1,c2,h,_⟩
   ·exact⟨c,h▸hc⟩
   ·exact⟨c1,h⟩
 ·show g2 (g1 rs.sto)=VA (g2 rs.sto)
  rcases MC with h|h
  ·rw[h _ _ E1,h _ _ a4e];rfl
  ·rw[h];exact hg.symm
end
end Go.AM
