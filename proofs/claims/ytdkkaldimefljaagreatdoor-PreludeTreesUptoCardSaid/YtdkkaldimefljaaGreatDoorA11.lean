import Derived.Test.YtdkkaldimefljaaGreatDoorA10
set_option linter.all false
section
namespace Go.AM
variable {P:Program} {ans:FuncId→Ann} {an:Ann} {R:Type} {r:R}
variable {tm:List Slot} {rs1 rs2:RS} {k1:Slot→RS→Option R} {ops:Array Oper} {prot tk:Bool} {cf:aO} {o:Oper}
variable {dst:Option Nat} {ty:TypeId} {pos:String} {aft:Array Edge} {gd:Option (Nat×Bool)} {kp:AVal→RS→Option R}
def nS (agg:Bool) (s:Nat) (cs:List Cell) (off:Nat) (k:AVal→Option R):Option R :=
 match agg with
 |true=>(partOf true (cs.map Cell.get) off s).bind k
 |false=>aJ (Nat.beq s 1) ((cs[off]?).bind fun c=>k c.get)
theorem rK {agg:Bool} {s:Nat} {cs cs':List Cell} {off:Nat} {k:AVal→Option R} (h:cs'.map Cell.get=cs.map Cell.get):nS agg s cs' off k=nS agg s cs off k:=by
 unfold nS;split
 ·rw[h]
 ·congr 1
  have h1:(cs'[off]?).map Cell.get=(cs[off]?).map Cell.get:=by
   rw[←List.getElem?_map,←List.getElem?_map,h]
  cases h2:cs'[off]? with
  |none=>rw[h2] at h1;cases h3:cs[off]? with
   |none=>rfl
   |some c=>rw[h3] at h1;cases h1
  |some c'=>rw[h2] at h1;cases h3:cs[off]? with
   |none=>rw[h3] at h1;cases h1
   |some c=>rw[h3] at h1;simp at h1;simp [h1]
theorem rD {agg:Bool} {s:Nat} {cs:List Cell} {off:Nat} {k:AVal→Option R} (e:nS agg s cs off k=some r):∃ v,k v=some r∧∀ (R2:Type) (k2:AVal→Option R2),nS agg s cs off k2=k2 v:=by
 unfold nS at e;cases agg with
 |true =>
  simp only at e;obtain ⟨v,hv,e⟩:=aC e;exact ⟨v,e,fun R2 k2=>by simp only[nS,hv,Option.bind_some]⟩
 |false =>
  simp only at e;obtain ⟨hg,e⟩:=aA e;obtain ⟨c,hc,e⟩:=aC e;exact ⟨c.get,e,fun R2 k2=>by simp only[nS,aE hg,hc,Option.bind_some]⟩
def loadT (tk:Bool) (agg:Bool) (s:Nat) (rs:RS) (p:Place) (cs:List Cell) (off:Nat) (k:Slot→RS→Option R):Option R :=
 match agg with
 |true=>(partOf true (cs.map Cell.get) off s).bind fun v=>k (.val v) rs
 |false=>aJ (Nat.beq s 1) (match tk,cs[off]? with
  |true,some (.own sz xs)=>bV rs p (cs.set off (.val (.slice xs))) fun rs'=>k (.own sz xs) rs'
  |_,c=>c.bind fun c=>k (.val c.get) rs)
theorem fP {agg:Bool} {s:Nat} {rs:RS} {p:Place} {cs:List Cell} {off:Nat} {k:Slot→RS→Option R} (h:tk=false∨agg=true∨∀ sz xs,cs[off]?≠some (.own sz xs)):loadT tk agg s rs p cs off k=nS agg s cs off fun v=>k (.val v) rs:=by
 unfold loadT nS;cases agg with
 |true=>rfl
 |false =>
  simp only;congr 1;cases tk with
  |false=>rfl
  |true =>
   rcases h with h|h|h
   ·cases h
   ·cases h
   ·split
    ·rename_i hh;exact absurd hh (h _ _)
    ·rfl
theorem rV {cs:List Cell} {off sz:Nat} {xs:List AVal} (h:cs[off]?=some (.own sz xs)):(cs.set off (.val (.slice xs))).map Cell.get=cs.map Cell.get:=by
 apply List.ext_getElem?;intro i;simp only[List.getElem?_map,List.getElem?_set];split
 ·rename_i hi;subst hi
  split
  ·rw[h];rfl
  ·rename_i hl;rw[List.getElem?_eq_none_iff.2 (by omega)]
 ·rfl
def aJh (tk:Bool):Cls:=bif tk then .t else .r
theorem aAf {t:TypeId} {a:Operand} (h:Agr ans an tm ops prot tk ⟨dst,.load t a,ty,pos,aft,gd⟩ rs1 rs2) (e:aB P ans an true prot (eK an.loc ops.toList ops.size a) cf tm tk ⟨dst,.load t a,ty,pos,aft,gd⟩ rs1 kp k1=some r):Two P ans an tm ops prot tk cf ⟨dst,.load t a,ty,pos,aft,gd⟩ rs1 rs2 k1 r:=by
 have ha:=h.opd a (by simp [Op.operands]);simp only[aB] at e;obtain ⟨p,e,h2,_⟩:=jR ha e
 have hstep:∀ (R2:Type) (kp2:AVal→RS→Option R2) (k2:Slot→RS→Option R2),aB P ans an true prot (eK an.loc ops.toList ops.size (addrOf ⟨dst,.load t a,ty,pos,aft,gd⟩)) cf tm tk ⟨dst,.load t a,ty,pos,aft,gd⟩ rs2 kp2 k2 =
   bQ true (eK an.loc ops.toList ops.size a) p (aU an.keep tm rs2 p fun cs off=>(aZ P t).bind fun s=>(bC P t).bind fun agg=>loadT tk agg s rs2 p cs off k2):=fun R2 kp2 k2=>by
  simp only[aB,addrOf,h2]
  try rfl
 have e:bQ true (eK an.loc ops.toList ops.size a) p (aU an.keep tm rs1 p fun cs off=>(aZ P t).bind fun s=>(bC P t).bind fun agg=>loadT tk agg s rs1 p cs off k1)=some r:=e;cases p with
 |loc u y =>
  simp only[bQ] at e;obtain ⟨hr,e⟩:=aA e;obtain ⟨hm,a0,m0,hcons⟩:=contains_cons hr;simp only[aU] at e;obtain ⟨cs,hcs,e⟩:=nf e;obtain ⟨s,hs,e⟩:=aC e;obtain ⟨agg,hagg,e⟩:=aC e;have hcls:cM ans an.loc ops prot tk ⟨dst,.load t a,ty,pos,aft,gd⟩=.p:=by simp only[cM,hcons]
  by_cases hp:tk=false∨agg=true∨∀ sz xs,cs[y]?≠some (.own sz xs)
  ·rw[fP hp] at e
   obtain ⟨v,e,h3⟩:=rD e;obtain ⟨cs2,hcs2,hmap⟩:=h.rb u hm cs hcs;refine .val e fun R2 kp2 k2=>?_
   rw[hstep];simp only[bQ,aE hr,aU,hcs2,oW,hs,hagg,Option.bind_some]
   have hp2:tk=false∨agg=true∨∀ sz xs,cs2[y]?≠some (.own sz xs):=by
    cases htk:tk with
    |false=>exact .inl rfl
    |true =>
     have hw:=h.wb u (.inr (by simp only[tkB,htk,if_true];exact hm));rw[hcs,hcs2] at hw;cases hw;rw[htk] at hp;exact hp
   rw[fP hp2,rK hmap];exact h3 R2 _
  ·have htk:tk=true:=by cases tk <;> simp_all
   have hag:agg=false:=by cases agg <;> simp_all
   obtain ⟨sz,xs,hown⟩:∃ sz xs,cs[y]?=some (.own sz xs):=by
    apply Classical.byContradiction;intro hn;exact hp (.inr (.inr fun sz xs hh=>hn ⟨sz,xs,hh⟩))
   have hmt:u∈tkB an.loc ops tk ⟨dst,.load t a,ty,pos,aft,gd⟩:=by simp only[tkB,htk,if_true];exact hm
   have hcs2:=(h.wb u (.inr hmt)).trans hcs;subst hag;simp only[loadT,htk,hown] at e;obtain ⟨hg,e⟩:=aA e;simp only[bV] at e;refine ⟨.own sz xs,[(u,.box (cs.set y (.val (.slice xs))))],id,e,fun R2 kp2 k2=>?_,fun p hp=>?_,fun p hp u' y'=>?_,(fun u y he=>by cases he),by rw[hcls]⟩
   ·rw[hstep]
    simp only[bQ,aE hr,aU,hcs2,oW,hs,hagg,Option.bind_some,loadT,htk,hown,aE hg,bV];rfl
   ·simp at hp;subst hp
    exact .inr (.inr ⟨hmt,cs,_,hcs,rfl,rV hown⟩)
   ·simp at hp;subst hp;simp
 |obj i y =>
  simp only[bQ] at e;obtain ⟨hr,e⟩:=aA e;have hnil:=isEmpty_nil hr;simp only[aU] at e;obtain ⟨cs,hcs,e⟩:=mi e;obtain ⟨s,hs,e⟩:=aC e;obtain ⟨agg,hagg,e⟩:=aC e;have hcls:cM ans an.loc ops prot tk ⟨dst,.load t a,ty,pos,aft,gd⟩=aJh tk:=by simp only[cM,hnil];cases tk <;> rfl
  by_cases hp:tk=false∨agg=true∨∀ sz xs,cs[y]?≠some (.own sz xs)
  ·rw[fP hp] at e
   obtain ⟨v,e,h3⟩:=rD e
   obtain ⟨cs2,hcs2,hmap,hp2⟩:∃ cs2,rs2.sto.objs[i]?=some (.box cs2)∧cs2.map Cell.get=cs.map Cell.get∧(tk=false∨agg=true∨∀ sz xs,cs2[y]?≠some (.own sz xs)):=by
    have hst:=h.sto;rw[hcls] at hst;cases htk:tk with
    |true =>
     rw[htk] at hst;have hst:rs2.sto=rs1.sto:=hst;exact ⟨cs,by rw[hst];exact hcs,rfl,by rw[htk] at hp;exact hp⟩
    |false =>
     rw[htk] at hst;have hst:stoAg rs1.sto rs2.sto:=hst;rcases hst.objs i with h'|⟨c1,c2,h',h'',hm⟩
     ·exact ⟨cs,by rw[h'];exact hcs,rfl,.inl rfl⟩
     ·rw[hcs] at h';cases h'
      exact ⟨c2,h'',hm,.inl rfl⟩
   refine .val e fun R2 kp2 k2=>?_
   rw[hstep];simp only[bQ,aE hr,aU,hcs2,jO,hs,hagg,Option.bind_some];rw[fP hp2,rK hmap];exact h3 R2 _
  ·have htk:tk=true:=by cases tk <;> simp_all
   have hag:agg=false:=by cases agg <;> simp_all
   obtain ⟨sz,xs,hown⟩:∃ sz xs,cs[y]?=some (.own sz xs):=by
    apply Classical.byContradiction;intro hn;exact hp (.inr (.inr fun sz xs hh=>hn ⟨sz,xs,hh⟩))
   have hst:rs2.sto=rs1.sto:=by have:=h.sto;rw[hcls,htk] at this;exact this
   subst hag;simp only[loadT,htk,hown] at e;obtain ⟨hg,e⟩:=aA e;simp only[bV] at e;obtain ⟨hg2,e⟩:=aA e;refine ⟨.own sz xs,[],fun sto=>{ sto with objs:=sto.objs.set i (.box (cs.set y (.val (.slice xs)))) },e,fun R2 kp2 k2=>?_,by simp,by simp,(fun u y he=>by cases he),?_⟩
   ·rw[hstep]
    simp only[bQ,aE hr,aU,hst,hcs,jO,hs,hagg,Option.bind_some,loadT,htk,hown,aE hg,bV,aE hg2];rfl
   ·rw[hcls,htk]
    refine ⟨rfl,by simp,fun j=>?_⟩;simp only[List.getElem?_set];split
    ·rename_i hij;subst hij
     have hlt:=(List.getElem?_eq_some_iff.1 hcs).1;rw[if_pos hlt];exact .inr ⟨cs,_,hcs,rfl,rV hown⟩
    ·exact .inl rfl
 |imm v =>
  simp only[bQ] at e;obtain ⟨hr,e⟩:=aA e;simp only[aU] at e;obtain ⟨s,hs,e⟩:=aC e;obtain ⟨agg,hagg,e⟩:=aC e
  have hp:tk=false∨agg=true∨∀ sz xs,(v.cells.map Cell.val)[0]?≠some (.own sz xs):=.inr (.inr fun sz xs hh=>by
   rw[List.getElem?_map] at hh;cases hv:v.cells[0]? with
   |none=>rw[hv] at hh;cases hh
   |some c=>rw[hv] at hh;cases hh)
  rw[fP hp] at e;obtain ⟨v',e,h3⟩:=rD e;refine .val e fun R2 kp2 k2=>?_
  rw[hstep];simp only[bQ,aE hr,aU,hs,hagg,Option.bind_some];rw[fP hp];exact h3 R2 _
end Go.AM
end
section
namespace Go.AM
variable {P:Program} {ans:FuncId→Ann} {an:Ann} {R:Type} {r:R}
variable {tm:List Slot} {rs1 rs2:RS} {k1:Slot→RS→Option R} {ops:Array Oper} {prot tk:Bool} {cf:aO} {o:Oper}
variable {dst:Option Nat} {ty:TypeId} {pos:String} {aft:Array Edge} {gd:Option (Nat×Bool)} {kp:AVal→RS→Option R} {l:List Nat}
theorem aEu {x:Operand} {t:Nat} {v:Slot} (h:agS (opS an.keep tm rs1 x) (opS an.keep tm rs2 x)):agS (opS an.keep tm (rs1.put t v) x) (opS an.keep tm (rs2.put t v) x):=by
 cases x with
 |tmp u =>
  show agS (RS.look an.keep tm (rs1.put t v) u) (RS.look an.keep tm (rs2.put t v) u);rw[dG,dG];by_cases hu:u=t
  ·subst hu;rw[dU,dU];exact .inl rfl
  ·rw[bG _ _ hu,bG _ _ hu];exact h
 |const c=>exact h
 |global g=>exact h
 |func f=>exact h
theorem kF:∀ {xs:List Operand} {rs1 rs2:RS} {own:List Nat} {i:Nat} {k:List Slot→RS→Option R},(∀ x∈xs,agS (opS an.keep tm rs1 x) (opS an.keep tm rs2 x))→gB an.keep tm rs1 own i xs k=some r →
  ∃ l puts,k l ⟨puts++rs1.sc,rs1.sto⟩=some r∧(∀ (R2:Type) (k2:List Slot→RS→Option R2),gB an.keep tm rs2 own i xs k2=k2 l ⟨puts++rs2.sc,rs2.sto⟩)∧(∀ p∈puts,Operand.tmp p.1∈xs)∧∀ p∈puts,∀ u y,p.2≠.ref u y
 |[],rs1,rs2,own,i,k,h,e=>⟨[],[],e,fun R2 k2=>rfl,by simp,by simp⟩
 |x::xs,rs1,rs2,own,i,k,h,e=>by
  have hx:=h x (by simp);simp only[gB] at e
  split at e
  ·rename_i sz l0 t hc hop
   have h2:=hx.eq (by rw[hop];simp);rw[hop] at h2;obtain ⟨l,puts,e,h3,h4,h5⟩:=kF (rs2:=rs2.put t (.val (.slice l0))) (fun y hy=>aEu (h y (by simp [hy]))) e;refine ⟨.own sz l0::l,puts++[(t,.val (.slice l0))],?_,fun R2 k2=>?_,fun p hp=>?_,fun p hp=>?_⟩
   ·rw[List.append_assoc];exact e
   ·simp only[gB]
    simp only[hc,h2];rw[h3,List.append_assoc];rfl
   ·rcases List.mem_append.1 hp with hp|hp
    ·simp [h4 p hp]
    ·simp at hp;subst hp;simp
   ·rcases List.mem_append.1 hp with hp|hp
    ·exact h5 p hp
    ·simp at hp;subst hp;simp
  ·rename_i hc hop
   have h2:=hx.eq (by rw[hop];simp);rw[hop] at h2;obtain ⟨l,puts,e,h3,h4,h5⟩:=kF (rs2:=rs2) (fun y hy=>h y (by simp [hy])) e;refine ⟨.nl::l,puts,e,fun R2 k2=>?_,fun p hp=>by simp [h4 p hp],h5⟩;simp only[gB,hc,h2];exact h3 R2 _
  ·rename_i hn1 hn2
   have hs:=hx.eq (fun c hc=>by rw[hc] at e;simp [asV] at e);obtain ⟨v,e,h2⟩:=jT hx e;obtain ⟨l,puts,e,h3,h4,h5⟩:=kF (rs2:=rs2) (fun y hy=>h y (by simp [hy])) e;refine ⟨.val v::l,puts,e,fun R2 k2=>?_,fun p hp=>by simp [h4 p hp],h5⟩;simp only[gB,hs];rw[hs] at h2;rw[h2];exact h3 R2 _
theorem cO {n:Nat} {v:AVal} (h:lokF 0 v=true):lokF n v=true:=by
 cases v <;> simp_all [lokF,Nat.blt_eq]
theorem jl {n:Nat} {v:AVal} (h:lok 0 v=true):lok n v=true:=by
 cases v with
 |agg cs=>exact List.all_eq_true.2 fun c hc=>cO (List.all_eq_true.1 (show cs.all (lokF 0)=true from h) c hc)
 |func f cs=>exact List.all_eq_true.2 fun c hc=>cO (List.all_eq_true.1 (show cs.all (lokF 0)=true from h) c hc)
 |bool b=>exact cO (n:=n) (v:=.bool b) h
 |int k m=>exact cO (n:=n) (v:=.int k m) h
 |str x=>exact cO (n:=n) (v:=.str x) h
 |slice x=>exact cO (n:=n) (v:=.slice x) h
 |nilptr=>exact cO (n:=n) (v:=.nilptr) h
 |nilfunc=>exact cO (n:=n) (v:=.nilfunc) h
 |nilmap=>exact cO (n:=n) (v:=.nilmap) h
 |nilif=>exact cO (n:=n) (v:=.nilif) h
 |loc i x=>exact cO (n:=n) (v:=.loc i x) h
 |amap i=>exact cO (n:=n) (v:=.amap i) h
 |yld i=>exact cO (n:=n) (v:=.yld i) h
 |cptr x=>exact cO (n:=n) (v:=.cptr x) h
 |iface t x=>exact cO (n:=n) (v:=.iface t x) h
 |opq=>exact cO (n:=n) (v:=.opq) h
theorem aq {n:Nat} {s:Slot} (h:cH 0 s=true):cH n s=true:=by
 cases s with
 |val v=>exact jl h
 |tup vs=>exact List.all_eq_true.2 fun c hc=>jl (List.all_eq_true.1 (show vs.all (lok 0)=true from h) c hc)
 |_=>rfl
end Go.AM
end
section
namespace Go.AM
variable {P:Program} {ans:FuncId→Ann} {an:Ann} {R:Type} {r:R}
variable {tm:List Slot} {rs1 rs2:RS} {k1:Slot→RS→Option R} {ops:Array Oper} {prot tk:Bool} {cf:aO} {o:Oper}
variable {dst:Option Nat} {ty:TypeId} {pos:String} {aft:Array Edge} {gd:Option (Nat×Bool)} {l:List Nat}
theorem zj {cc:Callee} {args:List Slot} (e:dD prot cf cc args rs1 (fun _ _=>none) k1=some r)
  (hst:rs2.sto=rs1.sto∨(prot=true∧∃ o:Option Slot,(∀ s,o=some s→cH 0 s=true)∧∀ sto,cf cc args sto=o.map fun s=>(.ret s,sto))) :
  ∃ s g,k1 s ⟨rs1.sc,g rs1.sto⟩=some r∧(∀ (R2:Type) (kp2:AVal→RS→Option R2) (k2:Slot→RS→Option R2),dD prot cf cc args rs2 kp2 k2=k2 s ⟨rs2.sc,g rs2.sto⟩)∧(∀ u y,s≠.ref u y)∧(prot=true→g=id):=by
 have nr:∀ s,wJ s=true→∀ u y,s≠.ref u y:=fun s h u y he=>by subst he;cases h
 cases prot with
 |false =>
  have hst:rs2.sto=rs1.sto:=hst.resolve_right (by simp);simp only[dD] at e;obtain ⟨⟨res,sto'⟩,hc,e⟩:=aC e;cases res with
  |pan v=>cases e
  |ret s =>
   obtain ⟨hg,e⟩:=aA e;refine ⟨s,fun _=>sto',e,fun R2 kp2 k2=>?_,nr s hg,by simp⟩;simp only[dD,hst,hc,Option.bind_some,aE hg]
 |true =>
  simp only[dD] at e;obtain ⟨⟨res,sto'⟩,hc,e⟩:=aC e;cases res with
  |pan v=>cases e
  |ret s =>
   obtain ⟨hg,e⟩:=aA e;have hg':=hg;simp only[Bool.and_eq_true] at hg';refine ⟨s,id,e,fun R2 kp2 k2=>?_,nr s hg'.2,fun _=>rfl⟩;rcases hst with hst|⟨_,o,ho1,ho2⟩
   ·simp only[dD,hst,hc,Option.bind_some,aE hg]
    show k2 s rs2=k2 s ⟨rs2.sc,rs1.sto⟩;rw[←hst]
   ·rw[ho2] at hc
    obtain ⟨s',hs',he⟩:=Option.map_eq_some_iff.1 hc;cases he;have hg2:(cH rs2.sto.objs.length s&&wJ s)=true:=by simp [aq (ho1 s hs'),hg'.2]
    simp only[dD,ho2,hs',Option.map_some,Option.bind_some,aE hg2];rfl
theorem aAw {c:Call} (hpc:iD ans cf) (h:Agr ans an tm ops prot tk ⟨dst,.call c,ty,pos,aft,gd⟩ rs1 rs2) (e:aB P ans an true prot l cf tm tk ⟨dst,.call c,ty,pos,aft,gd⟩ rs1 (fun _ _=>none) k1=some r):Two P ans an tm ops prot tk cf ⟨dst,.call c,ty,pos,aft,gd⟩ rs1 rs2 k1 r:=by
 obtain ⟨cal,⟨argl⟩,ats⟩:=c;simp only[aB] at e
 split at e
 ·rename_i x
  have hx:=h.opd x (by simp [Op.operands,Call.operands])
  split at e
  ·rename_i hu
   split at e
   ·rename_i s hb
    have h2:=hx.eq (by rw[hb];simp);rw[hb] at h2;exact .val e (fun R2 kp2 k2=>by simp only[aB,hu,h2])
   ·cases e
  ·rename_i el hu
   obtain ⟨xs,e,h2⟩:=oO hx e;exact .val e (fun R2 kp2 k2=>by simp only[aB,hu,h2])
  ·rename_i n el hu
   exact .val e (fun R2 kp2 k2=>by simp only[aB,hu])
  ·rename_i kt el hu
   split at e
   ·rename_i i hb
    obtain ⟨es,ho,e⟩:=kE e;have h2:=hx.eq (by rw[hb];simp);rw[hb] at h2;have hst:stoAg rs1.sto rs2.sto:=h.sto
    have ho2:rs2.sto.objs[i]?=some (.map es):=by
     rcases hst.objs i with h'|⟨c1,c2,h',_⟩
     ·rw[h',ho]
     ·rw[ho] at h';cases h'
    exact .val e (fun R2 kp2 k2=>by simp only[aB,hu,h2,ho2,lF])
   ·cases e
  ·cases e
 ·rename_i s x
  have hS:=h.opd s (by simp [Op.operands,Call.operands]);have hx:=h.opd x (by simp [Op.operands,Call.operands])
  split at e
  ·rename_i el el2 hu1 hu2
   obtain ⟨sz,hsz,e⟩:=aC e;obtain ⟨z,hz,e⟩:=aC e;obtain ⟨ys,e,h2⟩:=oO hx e;obtain ⟨hg,e⟩:=aA e
   have e3:(∃ sz' xs t,opS an.keep tm rs1 s=.own sz' xs∧s=.tmp t∧aJ (Nat.beq sz sz'&&Nat.ble (xs.length+ys.length) room) (k1 (.own sz (xs++ys)) (rs1.put t (.val (.slice xs))))=some r) ∨
     (∃ xs,opS an.keep tm rs1 s=.full xs∧aJ (xs.all (fun y=>Nat.beq y.cells.length sz)&&Nat.ble (xs.length+ys.length) room) (k1 (.own sz (xs++ys)) rs1)=some r) ∨
     (opS an.keep tm rs1 s=.nl∧aJ (Nat.ble ys.length room) (k1 (.own sz ys) rs1)=some r):=by
    split at e
    ·exact .inl ⟨_,_,_,by assumption,rfl,e⟩
    ·exact .inr (.inl ⟨_,by assumption,e⟩)
    ·exact .inr (.inr ⟨by assumption,e⟩)
    ·cases e
   rcases e3 with ⟨sz',xs,t,hs,hst',e3⟩|⟨xs,hs,e3⟩|⟨hs,e3⟩
   ·subst hst'
    obtain ⟨hg3,e3⟩:=aA e3;have h3:=hS.eq (by rw[hs];simp);rw[hs] at h3;refine ⟨.own sz (xs++ys),[(t,.val (.slice xs))],id,e3,fun R2 kp2 k2=>?_,fun p hp=>?_,fun p hp u y=>?_,(fun u y he=>by cases he),rfl⟩
    ·simp only[aB,hu1,hu2,hsz,hz,Option.bind_some,h2,aE hg,h3,aE hg3];rfl
    ·simp at hp;subst hp;left;simp [cons]
    ·simp at hp;subst hp;simp
   ·obtain ⟨hg3,e3⟩:=aA e3
    have h3:=hS.eq (by rw[hs];simp);rw[hs] at h3;exact .plain e3 (fun R2 kp2 k2=>by simp only[aB,hu1,hu2,hsz,hz,Option.bind_some,h2,aE hg,h3,aE hg3]) (fun u y he=>by cases he)
   ·obtain ⟨hg3,e3⟩:=aA e3
    have h3:=hS.eq (by rw[hs];simp);rw[hs] at h3;exact .plain e3 (fun R2 kp2 k2=>by simp only[aB,hu1,hu2,hsz,hz,Option.bind_some,h2,aE hg,h3,aE hg3]) (fun u y he=>by cases he)
  ·cases e
 ·rename_i x y
  have hx:=h.opd x (by simp [Op.operands,Call.operands]);have hy:=h.opd y (by simp [Op.operands,Call.operands]);obtain ⟨kd,n,e,h2⟩:=dW hx e;obtain ⟨kd',m,e,h3⟩:=dW hy e;exact .val e (fun R2 kp2 k2=>by simp only[aB,h2,h3])
 ·rename_i f
  have hf:=h.opd f (by simp [Op.operands,Call.operands]);have hargs:∀ x∈argl,agS (opS an.keep tm rs1 x) (opS an.keep tm rs2 x):=fun x hx=>h.opd x (by simp [Op.operands,Call.operands,hx])
  have hkeys:∀ (puts:List (Nat×Slot)) (p:Nat×Slot),Operand.tmp p.1∈argl→p.1∈cons an.keep tk ⟨dst,.call ⟨.value f,⟨argl⟩,ats⟩,ty,pos,aft,gd⟩:=fun puts p hp=>by
   simp only[cons,List.mem_filterMap];exact ⟨.tmp p.1,hp,rfl⟩
  have fin:∀ (cc:Callee) (args:List Slot) (puts:List (Nat×Slot)),(∀ p∈puts,Operand.tmp p.1∈argl)→(∀ p∈puts,∀ u y,p.2≠.ref u y)→dD prot cf cc args ⟨puts++rs1.sc,rs1.sto⟩ (fun _ _=>none) k1=some r →
    (rs2.sto=rs1.sto∨(prot=true∧∃ o:Option Slot,(∀ s,o=some s→cH 0 s=true)∧∀ sto,cf cc args sto=o.map fun s=>(.ret s,sto))) →
    (∀ (R2:Type) (kp2:AVal→RS→Option R2) (k2:Slot→RS→Option R2),aB P ans an true prot (eK an.loc ops.toList ops.size (addrOf ⟨dst,.call ⟨.value f,⟨argl⟩,ats⟩,ty,pos,aft,gd⟩)) cf tm tk ⟨dst,.call ⟨.value f,⟨argl⟩,ats⟩,ty,pos,aft,gd⟩ rs2 kp2 k2=dD prot cf cc args ⟨puts++rs2.sc,rs2.sto⟩ kp2 k2) →
    Two P ans an tm ops prot tk cf ⟨dst,.call ⟨.value f,⟨argl⟩,ats⟩,ty,pos,aft,gd⟩ rs1 rs2 k1 r:=fun cc args puts hp1 hp2 e hst hstep=>by
   obtain ⟨s,g,e,h2,h3,h4⟩:=zj (rs2:=⟨puts++rs2.sc,rs2.sto⟩) e hst;refine ⟨s,puts,g,e,fun R2 kp2 k2=>by rw[hstep,h2],fun p hp=>.inl (hkeys puts p (hp1 p hp)),hp2,fun u y he=>absurd he (h3 u y),?_⟩;simp only[cM];cases hpr:prot with
   |false=>trivial
   |true =>
    have hg:=h4 hpr;subst hg;cases f with
    |func g'=>cases hp:(ans g').prim <;> simp [hp]
    |tmp t=>rfl
    |const v=>rfl
    |global g=>rfl
  split at e
  ·rename_i g caps hb
   have h2:=hf.eq (by rw[hb];simp);rw[hb] at h2;obtain ⟨l',puts,e,h3,h4,h5⟩:=kF hargs e;refine fin (.fn g) _ puts h4 h5 e ?_ (fun R2 kp2 k2=>by simp only[aB,h2];exact h3 R2 _);have hs:=h.sto;simp only[cM] at hs;cases hpr:prot with
   |false=>rw[hpr] at hs;exact .inl hs
   |true =>
    rw[hpr] at hs;cases f with
    |func g' =>
     simp only[opS] at hb;cases hb;simp only at hs;cases hp:(ans g).prim with
     |true=>exact .inr ⟨rfl,hpc g _ hp⟩
     |false=>rw[hp] at hs;exact .inl hs
    |tmp t=>exact .inl hs
    |const v=>exact .inl hs
    |global g=>exact .inl hs
  ·rename_i i hb
   have h2:=hf.eq (by rw[hb];simp);rw[hb] at h2;obtain ⟨l',puts,e,h3,h4,h5⟩:=kF hargs e;refine fin (.yld i) _ puts h4 h5 e ?_ (fun R2 kp2 k2=>by simp only[aB,h2];exact h3 R2 _);have hs:=h.sto;simp only[cM] at hs;cases hpr:prot with
   |false=>rw[hpr] at hs;exact .inl hs
   |true =>
    rw[hpr] at hs;cases f with
    |func g'=>simp only[opS] at hb;cases hb
    |tmp t=>exact .inl hs
    |const v=>exact .inl hs
    |global g=>exact .inl hs
  ·cases e
 ·cases e
end Go.AM
end
section
namespace Go.AM
variable {P:Program} {ans:FuncId→Ann} {an:Ann} {R:Type} {r:R}
variable {tm:List Slot} {rs1 rs2:RS} {k1:Slot→RS→Option R} {ops:Array Oper} {prot tk:Bool} {cf:aO}
theorem xx {o:Oper} (hpc:iD ans cf) (h:Agr ans an tm ops prot tk o rs1 rs2) (e:aB P ans an true prot (eK an.loc ops.toList ops.size (addrOf o)) cf tm tk o rs1 (fun _ _=>none) k1=some r):Two P ans an tm ops prot tk cf o rs1 rs2 k1 r:=by
 obtain ⟨d,op,ty,pos,aft,gd⟩:=o;cases op
 case move=>exact aBU h e
 case assign=>exact pk h e
 case pick=>exact aBr h e
 case alloc=>exact ym h e
 case box=>exact aEi h e
 case build=>exact zo h e
 case buildSlice=>exact uD h e
 case load=>exact aAf h e
 case store=>exact xn h e
 case nilCheck=>exact ek h e
 case binOp=>exact yp h e
 case unOp=>exact aCy h e
 case convert=>exact jj h e
 case fieldAddr=>exact xH h e
 case field=>exact yn h e
 case indexAddr=>exact xP h e
 case index=>exact xq h e
 case slice=>exact zi h e
 case makeInterface=>exact oU h e
 case makeFunc=>exact dw h e
 case makeMap=>exact gr h e
 case lookup=>exact oh h e
 case mapUpdate=>exact xU h e
 case extract=>exact ju h e
 case call=>exact aAw hpc h e
 all_goals (simp [aB] at e)
end Go.AM
end
section
namespace Go.AM
variable {P:Program} {ans:FuncId→Ann} {an:Ann} {R:Type} {r:R}
variable {tm:List Slot} {rs1 rs2:RS} {ops:Array Oper} {prot tk:Bool} {cf:aO} {o:Oper} {rid i:Nat}
def RefIn (ops:Array Oper) (rs:RS):Prop:=∀ t u x,bZ rs.sc t=some (.ref u x)→∃ o∈ops.toList,eI o=some u
theorem gI:∀ {sc:List (Nat×Slot)} {t:Nat} {s:Slot},bZ sc t=some s→(t,s)∈sc
 |[],t,s,h=>by simp [bZ] at h
 |(k,x)::sc,t,s,h=>by
  simp only[bZ] at h;cases hk:Nat.beq k t with
  |true =>
   rw[hk] at h
   have:=Nat.eq_of_beq_eq_true hk
   subst this;cases h;simp
  |false =>
   rw[hk] at h;exact List.mem_cons_of_mem _ (gI h)
theorem mj {puts:List (Nat×Slot)} {rs:RS} {g:Sto→Sto} (t:Nat):RS.look an.keep tm ⟨puts++rs.sc,g rs.sto⟩ t=match bZ puts t with|some s=>s|none=>rs.look an.keep tm t:=by
 unfold RS.look;rw[gA];cases bZ puts t <;> rfl
theorem RefIn.noRefTo {rs:RS} (h:RefIn ops rs) {d:Nat} (hd:∀ o∈ops.toList,eI o≠some d):noRefTo d rs.sc=true:=by
 refine List.all_eq_true.2 fun p _=>?_
 split
 ·rename_i u x hl
  obtain ⟨o,ho,hu⟩:=h _ _ _ hl;have hne:u≠d:=fun e=>hd o ho (by rw[hu,e])
  cases hb:Nat.beq u d with
  |true=>exact absurd (Nat.eq_of_beq_eq_true hb) hne
  |false=>rfl
 ·rfl
structure AgrO (ans:FuncId→Ann) (an:Ann) (tm:List Slot) (ops:Array Oper) (prot tk:Bool) (o:Oper) (rs1 rs2:RS):Prop where
 rd:∀ t∈rdS ops o,agS (rs1.look an.keep tm t) (rs2.look an.keep tm t)
 rb:∀ u∈rdB an.loc ops o,∀ c,rs1.look an.keep tm u=.box c→∃ c2,rs2.look an.keep tm u=.box c2∧c2.map Cell.get=c.map Cell.get
 wb:∀ u,(u∈wrB an.loc ops o∨u∈tkB an.loc ops tk o)→rs2.look an.keep tm u=rs1.look an.keep tm u
 sto:match cM ans an.loc ops prot tk o with
  |.p=>True
  |.r=>stoAg rs1.sto rs2.sto
  |_=>rs2.sto=rs1.sto
theorem AgrO.agr (h:AgrO ans an tm ops prot tk o rs1 rs2):Agr ans an tm ops prot tk o rs1 rs2 :=
 ⟨fun x hx=>by
  cases x with
  |tmp t=>exact h.rd t (mS rfl hx)
  |const v=>exact .inl rfl
  |global g=>exact .inl rfl
  |func f=>exact .inl rfl,h.rb,h.wb,h.sto⟩
structure EffO (ans:FuncId→Ann) (an:Ann) (tm:List Slot) (ops:Array Oper) (prot tk:Bool) (o:Oper) (rs1:RS) (puts:List (Nat×Slot)) (g:Sto→Sto):Prop where
 keys:∀ p∈puts,p.1∈o.dst.toList∨p.1∈cons an.keep tk o∨(p.1∈wrB an.loc ops o∧∃ c c',rs1.look an.keep tm p.1=.box c∧p.2=.box c')∨(p.1∈tkB an.loc ops tk o∧∃ c c',rs1.look an.keep tm p.1=.box c∧p.2=.box c'∧c'.map Cell.get=c.map Cell.get) ∨
  (p.1∈rdS ops o∧∃ b,p.2=.val (.bool b)∧rs1.look an.keep tm p.1=.val (.bool b))
 ref:∀ p∈puts,∀ u x,p.2=.ref u x→∃ o'∈ops.toList,eI o'=some u
 sto:match cM ans an.loc ops prot tk o with
  |.t=>stoAg rs1.sto (g rs1.sto)
  |.w=>True
  |.x=>True
  |_=>g=id
theorem RefIn.look (h:RefIn ops rs1) (hn:noRef tm) {t u x:Nat} (hl:rs1.look an.keep tm t=.ref u x):∃ o∈ops.toList,eI o=some u:=by
 obtain ⟨p,_,hp⟩:=fm (an:=an) hn hl;exact h _ _ _ hp
theorem RefIn.app {puts:List (Nat×Slot)} {g:Sto→Sto} (h:RefIn ops rs1) (hp:∀ p∈puts,∀ u x,p.2=.ref u x→∃ o'∈ops.toList,eI o'=some u):RefIn ops ⟨puts++rs1.sc,g rs1.sto⟩:=fun t u x hl=>by
 rw[gA] at hl;cases ha:bZ puts t with
 |some s=>rw[ha] at hl;cases hl;exact hp _ (gI ha) u x rfl
 |none=>rw[ha] at hl;exact h t u x hl
end Go.AM
end
section
namespace Go.AM
variable {P:Program} {ans:FuncId→Ann} {an:Ann} {R:Type} {r:R}
variable {tm:List Slot} {rs1 rs2:RS} {ops:Array Oper} {prot tk:Bool} {cf:aO} {o:Oper} {rid i:Nat}
def uC (o:Oper) (s:Slot):List (Nat×Slot):=match o.dst with|some d=>[(d,s)]|none=>[]
theorem mK (rs:RS) (o:Oper) (s:Slot):rs.putO o.dst s=⟨uC o s++rs.sc,rs.sto⟩:=by
 unfold RS.putO uC;cases o.dst <;> rfl
theorem qJ {s:Slot} {rs:RS} (hd:∀ d,o.dst=some d→an.loc.contains d=true→∀ o'∈ops.toList,eI o'≠some d) (h:dT an o s rs1=true) (h2:RefIn ops rs):dT an o s rs=true:=by
 unfold dT at h ⊢;cases hod:o.dst with
 |none=>rfl
 |some d =>
  rw[hod] at h;simp only[Bool.and_eq_true,Bool.or_eq_true,Bool.not_eq_true'] at h ⊢;refine ⟨h.1,?_⟩;cases hl:an.loc.contains d with
  |false=>exact .inl rfl
  |true=>exact .inr (h2.noRefTo (hd d hod hl))
theorem lj {rs:RS} {d:Nat} {b:Bool} (h:rs.look an.keep tm d=.val (.bool b)) (t:Nat):RS.look an.keep tm (rs.put d (.val (.bool b))) t=rs.look an.keep tm t:=by
 rw[dG];by_cases ht:t=d
 ·subst ht;rw[dU,h]
 ·rw[bG _ _ ht]
theorem RefIn.putB (h:RefIn ops rs1) (d:Nat) (b:Bool):RefIn ops (rs1.put d (.val (.bool b))) :=
 RefIn.app (puts:=[(d,.val (.bool b))]) (g:=id) h fun p hp u x he=>by
  simp at hp;subst hp;cases he
theorem mE {next:RS→Option R} (hpc:iD ans cf) (hn:noRef tm) (ho:o∈ops.toList) (hd:∀ d,o.dst=some d→an.loc.contains d=true→∀ o'∈ops.toList,eI o'≠some d)
  (hA:AgrO ans an tm ops (an.pure.contains (rid,i)) (an.take.contains (rid,i)) o rs1 rs2) (h1:RefIn ops rs1) (h2:RefIn ops rs2) (e:iK P ans an true cf tm rid ops (fun _ _=>none) o i rs1 next=some r) :
  ∃ puts g,next ⟨puts++rs1.sc,g rs1.sto⟩=some r∧(∀ (R2:Type) (next2:RS→Option R2),iK P ans an true cf tm rid ops (fun _ _=>none) o i rs2 next2=next2 ⟨puts++rs2.sc,g rs2.sto⟩) ∧
   EffO ans an tm ops (an.pure.contains (rid,i)) (an.take.contains (rid,i)) o rs1 puts g:=by
 have refs:∀ (rs:RS) (s:Slot),(∀ t,rs.look an.keep tm t=rs1.look an.keep tm t)→(∀ u x,s=.ref u x→eI o=some u∨∃ t∈rdS ops o,∃ y,rs.look an.keep tm t=.ref u y)→∀ u x,s=.ref u x→∃ o'∈ops.toList,eI o'=some u:=fun rs s hl h u x he=>by
  rcases h u x he with h'|⟨t,_,y,h'⟩
  ·exact ⟨o,ho,h'⟩
  ·rw[hl] at h';exact h1.look hn h'
 have go:∀ (rs1' rs2':RS) (pg:List (Nat×Slot)),rs1'=⟨pg++rs1.sc,rs1.sto⟩→rs2'=⟨pg++rs2.sc,rs2.sto⟩→(∀ t,rs1'.look an.keep tm t=rs1.look an.keep tm t)→(∀ t,rs2'.look an.keep tm t=rs2.look an.keep tm t)→RefIn ops rs2' →
   (∀ p∈pg,p.1∈rdS ops o∧∃ b,p.2=.val (.bool b)∧rs1.look an.keep tm p.1=.val (.bool b)) →
   aB P ans an true (an.pure.contains (rid,i)) (eK an.loc ops.toList ops.size (addrOf o)) cf tm (an.take.contains (rid,i)) o rs1' (fun _ _=>none) (fun s rs'=>aJ (dT an o s rs') (next (rs'.putO o.dst s)))=some r →
   ∃ puts g,next ⟨puts++rs1.sc,g rs1.sto⟩=some r∧(∀ (R2:Type) (next2:RS→Option R2),aB P ans an true (an.pure.contains (rid,i)) (eK an.loc ops.toList ops.size (addrOf o)) cf tm (an.take.contains (rid,i)) o rs2' (fun _ _=>none) (fun s rs'=>aJ (dT an o s rs') (next2 (rs'.putO o.dst s)))=next2 ⟨puts++rs2.sc,g rs2.sto⟩) ∧
    EffO ans an tm ops (an.pure.contains (rid,i)) (an.take.contains (rid,i)) o rs1 puts g:=fun rs1' rs2' pg hr1 hr2 hl1 hl2 hR2 hpg e=>by
  have hA':AgrO ans an tm ops (an.pure.contains (rid,i)) (an.take.contains (rid,i)) o rs1' rs2':=by
   refine ⟨fun t ht=>by rw[hl1,hl2];exact hA.rd t ht,fun u hu c hc=>by rw[hl1] at hc;rw[hl2];exact hA.rb u hu c hc,fun u hu=>by rw[hl1,hl2];exact hA.wb u hu,?_⟩;subst hr1 hr2;exact hA.sto
  obtain ⟨s,puts,g,e,h3,hE⟩:=xx hpc hA'.agr e;obtain ⟨hg,e⟩:=aA e;have hRf:=refs rs1' s hl1 hE.ref;have hR2':RefIn ops ⟨puts++rs2'.sc,g rs2'.sto⟩:=hR2.app fun p hp u x he=>absurd he (hE.vals p hp u x)
  refine ⟨uC o s++(puts++pg),g,?_,fun R2 next2=>?_,fun p hp=>?_,fun p hp u x he=>?_,?_⟩
  ·rw[mK] at e
   subst hr1;simpa [List.append_assoc] using e
  ·rw[h3,aE (qJ hd hg hR2'),mK]
   subst hr2;simp [List.append_assoc]
  ·rcases List.mem_append.1 hp with hp|hp
   ·left
    unfold uC at hp;cases hod:o.dst with
    |none=>rw[hod] at hp;simp at hp
    |some d=>rw[hod] at hp;simp at hp;subst hp;simp
   ·rcases List.mem_append.1 hp with hp|hp
    ·rcases hE.keys p hp with hk|⟨hk,c,c',h5,h6⟩|⟨hk,c,c',h5,h6,h7⟩
     ·exact .inr (.inl hk)
     ·exact .inr (.inr (.inl ⟨hk,c,c',by rw[←hl1];exact h5,h6⟩))
     ·exact .inr (.inr (.inr (.inl ⟨hk,c,c',by rw[←hl1];exact h5,h6,h7⟩)))
    ·exact .inr (.inr (.inr (.inr (hpg p hp))))
  ·rcases List.mem_append.1 hp with hp|hp
   ·unfold uC at hp
    cases hod:o.dst with
    |none=>rw[hod] at hp;simp at hp
    |some d=>rw[hod] at hp;simp at hp;subst hp;exact hRf u x he
   ·rcases List.mem_append.1 hp with hp|hp
    ·exact absurd he (hE.vals p hp u x)
    ·obtain ⟨_,b,hb,_⟩:=hpg p hp
     rw[hb] at he;cases he
  ·have:=hE.sto
   subst hr1;exact this
 unfold iK at e;simp only at e
 split at e
 ·rename_i hg
  obtain ⟨puts,g,a1,a2,a3⟩:=go rs1 rs2 [] rfl rfl (fun _=>rfl) (fun _=>rfl) h2 (by simp) e;exact ⟨puts,g,a1,fun R2 next2=>by rw[←a2 R2 next2];simp only[iK,hg],a3⟩
 ·rename_i j want hg
  split at e
  ·cases e
  ·rename_i d hdd
   have hdr:d∈rdS ops o:=by simp [rdS,hg,hdd]
   have hgk:(∃ bb,rs1.look an.keep tm d=.val (.bool bb)∧(match bb==want with
     |true=>aB P ans an true (an.pure.contains (rid,i)) (eK an.loc ops.toList ops.size (addrOf o)) cf tm (an.take.contains (rid,i)) o (rs1.put d (.val (.bool bb))) (fun _ _=>none) (fun s rs'=>aJ (dT an o s rs') (next (rs'.putO o.dst s)))
     |false=>aJ (dT an o .dead rs1) (next ((rs1.put d (.val (.bool bb))).putO o.dst (.tup []))))=some r) ∨
     (rs1.look an.keep tm d=.tup []∧aJ (dT an o .dead rs1) (next (rs1.putO o.dst (.tup [])))=some r):=by
    unfold oD at e
    split at e
    ·rename_i bb hb
     exact .inl ⟨bb,hb,by cases bb <;> cases want <;> exact e⟩
    ·rename_i hb
     exact .inr ⟨hb,e⟩
    ·cases e
   rcases hgk with ⟨bb,hs1,e⟩|⟨hs1,e⟩
   rotate_left
   ·have hs2:rs2.look an.keep tm d=.tup []:=((hA.rd d hdr).eq (by rw[hs1];simp)).trans hs1
    obtain ⟨hok,e⟩:=aA e;refine ⟨uC o (.tup []),id,?_,fun R2 next2=>?_,fun p hp=>?_,fun p hp u x he=>?_,?_⟩
    ·rw[mK] at e;exact e
    ·simp only[iK,hg,hdd,hs2,oD]
     have hok2:=qJ hd hok h2;simp only[aE hok2,mK];rfl
    ·left
     unfold uC at hp;cases hod:o.dst with
     |none=>rw[hod] at hp;simp at hp
     |some d'=>rw[hod] at hp;simp at hp;subst hp;simp
    ·unfold uC at hp
     cases hod:o.dst with
     |none=>rw[hod] at hp;simp at hp
     |some d'=>rw[hod] at hp;simp at hp;subst hp;cases he
    ·split <;> first|rfl|trivial|exact stoAg.refl _
   have hs2:rs2.look an.keep tm d=.val (.bool bb):=((hA.rd d hdr).eq (by rw[hs1];simp)).trans hs1;cases hbw:bb==want with
   |true =>
    rw[hbw] at e;obtain ⟨puts,g,a1,a2,a3⟩:=go (rs1.put d (.val (.bool bb))) (rs2.put d (.val (.bool bb))) [(d,.val (.bool bb))] rfl rfl (lj hs1) (lj hs2) (h2.putB d bb) (fun p hp=>by simp at hp;subst hp;exact ⟨hdr,bb,rfl,hs1⟩) e;refine ⟨puts,g,a1,fun R2 next2=>?_,a3⟩;rw[←a2 R2 next2];simp only[iK,hg,hdd,hs2,oD];cases bb <;> simp only[cond_true,cond_false,hbw]
   |false =>
    rw[hbw] at e;obtain ⟨hok,e⟩:=aA e;refine ⟨uC o (.tup [])++[(d,.val (.bool bb))],id,?_,fun R2 next2=>?_,fun p hp=>?_,fun p hp u x he=>?_,?_⟩
    ·rw[mK] at e
     rw[List.append_assoc];exact e
    ·simp only[iK,hg,hdd,hs2,oD]
     have hok2:=qJ hd hok h2;cases bb <;> simp only[cond_true,cond_false,hbw,aE hok2,mK,List.append_assoc] <;> rfl
    ·rcases List.mem_append.1 hp with hp|hp
     ·left
      unfold uC at hp;cases hod:o.dst with
      |none=>rw[hod] at hp;simp at hp
      |some d'=>rw[hod] at hp;simp at hp;subst hp;simp
     ·simp at hp;subst hp;exact .inr (.inr (.inr (.inr ⟨hdr,bb,rfl,hs1⟩)))
    ·rcases List.mem_append.1 hp with hp|hp
     ·unfold uC at hp
      cases hod:o.dst with
      |none=>rw[hod] at hp;simp at hp
      |some d'=>rw[hod] at hp;simp at hp;subst hp;cases he
     ·simp at hp;subst hp;cases he
    ·split <;> first|rfl|trivial|exact stoAg.refl _
end Go.AM
end
section
namespace Go.AM
variable {P:Program} {ans:FuncId→Ann} {an:Ann} {R:Type} {r:R}
variable {tm:List Slot} {rs1 rs2:RS} {ops:Array Oper} {prot tk:Bool} {cf:aO} {o:Oper} {rid i:Nat}
def RSeq (a b:RS):Prop:=(∀ t,bZ a.sc t=bZ b.sc t)∧a.sto=b.sto
theorem RSeq.refl (a:RS):RSeq a a:=⟨fun _=>rfl,rfl⟩
theorem RSeq.symm {a b:RS} (h:RSeq a b):RSeq b a:=⟨fun t=>(h.1 t).symm,h.2.symm⟩
theorem RSeq.trans {a b c:RS} (h:RSeq a b) (k:RSeq b c):RSeq a c:=⟨fun t=>(h.1 t).trans (k.1 t),h.2.trans k.2⟩
theorem RSeq.look {a b:RS} (h:RSeq a b) (t:Nat):b.look an.keep tm t=a.look an.keep tm t:=by
 unfold RS.look;rw[h.1 t]
theorem RSeq.agrO {a b:RS} (h:RSeq a b):AgrO ans an tm ops prot tk o a b:=by
 refine ⟨fun t _=>.inl (h.look t),fun u _ c hc=>⟨c,(h.look u).trans hc,rfl⟩,fun u _=>h.look u,?_⟩;split
 ·trivial
 ·rw[h.2];exact stoAg.refl _
 ·exact h.2.symm
theorem RSeq.refIn {a b:RS} (h:RSeq a b) (hr:RefIn ops a):RefIn ops b:=fun t u x hl=>hr t u x (by rw[h.1 t];exact hl)
theorem RSeq.app {a b:RS} (h:RSeq a b) (puts:List (Nat×Slot)) (g:Sto→Sto):RSeq ⟨puts++a.sc,g a.sto⟩ ⟨puts++b.sc,g b.sto⟩ :=
 ⟨fun t=>by simp only[gA,h.1 t],by simp only[h.2]⟩
theorem lW {l m:List Nat} (h:meets l m=false) {t:Nat} (hl:t∈l):t∉m:=fun hm=>by
 have:meets l m=true:=List.any_eq_true.2 ⟨t,hl,by simpa using hm⟩
 rw[h] at this;cases this
structure xG (keep loc:List Nat) (ops:Array Oper) (ta tb:Bool) (a b:Oper):Prop where
 hw:∀ t,t∈a.dst.toList∨t∈cons keep ta a→t∉rdS ops b∧t∉rdB loc ops b∧t∉b.dst.toList∧t∉cons keep tb b
 hb:∀ t∈wrB loc ops a,t∉rdB loc ops b
 ht:∀ t∈tkB loc ops ta a,t∉tkB loc ops tb b∧t∉wrB loc ops b
theorem uo {keep loc:List Nat} {ta tb:Bool} {a b:Oper} (h:mT keep loc ops ta tb a b=false):xG keep loc ops ta tb a b:=by
 unfold mT at h;simp only[Bool.or_eq_false_iff] at h;obtain ⟨⟨h1,h2⟩,h3⟩:=h;refine ⟨fun t ht=>?_,fun t ht=>lW h2 ht,fun t ht=>?_⟩
 ·have:=lW h1 (t:=t) (by simpa using ht)
  simp only[List.mem_append,not_or] at this;exact ⟨this.1.1.1,this.1.1.2,this.1.2,this.2⟩
 ·have:=lW h3 ht
  simp only[List.mem_append,not_or] at this;exact this
end Go.AM
end
section
namespace Go.AM
variable {ans:FuncId→Ann} {an:Ann} {tm:List Slot} {rs:RS} {ops:Array Oper} {po pa ta tb:Bool} {o a:Oper} {puts:List (Nat×Slot)} {g:Sto→Sto}
theorem nZ (hE:EffO ans an tm ops po ta o rs puts g) (H:xG an.keep an.loc ops ta tb o a) {t:Nat} (ht:t∉o.dst.toList) (hc:t∉cons an.keep ta o) :
  RS.look an.keep tm ⟨puts++rs.sc,g rs.sto⟩ t=rs.look an.keep tm t∨(t∈wrB an.loc ops o∧∃ c c',rs.look an.keep tm t=.box c∧RS.look an.keep tm ⟨puts++rs.sc,g rs.sto⟩ t=.box c') ∨
   (t∈tkB an.loc ops ta o∧∃ c c',rs.look an.keep tm t=.box c∧RS.look an.keep tm ⟨puts++rs.sc,g rs.sto⟩ t=.box c'∧c'.map Cell.get=c.map Cell.get):=by
 rw[mj];cases hal:bZ puts t with
 |none=>exact .inl rfl
 |some s =>
  have hm:=gI hal;rcases hE.keys _ hm with h|h|⟨h,c,c',h1,h2⟩|⟨h,c,c',h1,h2,h3⟩|⟨_,b,h1,h2⟩
  ·exact absurd h ht
  ·exact absurd h hc
  ·exact .inr (.inl ⟨h,c,c',h1,h2⟩)
  ·exact .inr (.inr ⟨h,c,c',h1,h2,h3⟩)
  ·exact .inl (by show s=_;rw[show s=.val (.bool b) from h1];exact h2.symm)
theorem oT {loc:List Nat} {t:Nat} (h:t∈wrB loc ops a):t∈rdB loc ops a:=by
 unfold wrB at h;unfold rdB
 split at h
 ·rename_i he;simp only[he];exact h
 ·simp at h
theorem pB {loc:List Nat} {t:Nat} (h:t∈tkB loc ops tb a):t∈rdB loc ops a:=by
 unfold tkB at h;unfold rdB
 split at h
 ·rename_i he
  simp only[he]
  split at h
  ·exact h
  ·simp at h
 ·simp at h
theorem xy (hE:EffO ans an tm ops po ta o rs puts g) (H:xG an.keep an.loc ops ta tb o a) (hst:match cM ans an.loc ops pa tb a with
  |.p=>True
  |.r=>stoAg (g rs.sto) rs.sto
  |_=>rs.sto=g rs.sto):AgrO ans an tm ops pa tb a ⟨puts++rs.sc,g rs.sto⟩ rs:=by
 have nd:∀ t,t∈rdS ops a∨t∈rdB an.loc ops a→t∉o.dst.toList∧t∉cons an.keep ta o:=fun t ht =>
  ⟨fun h=>by have:=H.hw t (.inl h);rcases ht with ht|ht;exact this.1 ht;exact this.2.1 ht,fun h=>by have:=H.hw t (.inr h);rcases ht with ht|ht;exact this.1 ht;exact this.2.1 ht⟩
 refine ⟨fun t ht=>?_,fun u hu c hc=>?_,fun u hu=>?_,hst⟩
 ·obtain ⟨h1,h2⟩:=nd t (.inl ht)
  rcases nZ hE H h1 h2 with h|⟨_,c,c',h3,h4⟩|⟨_,c,c',h3,h4,_⟩
  ·exact .inl h.symm
  ·exact .inr ⟨c',c,h4,h3⟩
  ·exact .inr ⟨c',c,h4,h3⟩
 ·obtain ⟨h1,h2⟩:=nd u (.inr hu)
  rcases nZ hE H h1 h2 with h|⟨h,_⟩|⟨_,c1,c',h3,h4,h5⟩
  ·rw[h] at hc;exact ⟨c,hc,rfl⟩
  ·exact absurd hu (H.hb u h)
  ·rw[h4] at hc;cases hc;exact ⟨c1,h3,h5.symm⟩
 ·have hrb:u∈rdB an.loc ops a:=hu.elim oT pB
  obtain ⟨h1,h2⟩:=nd u (.inr hrb);rcases nZ hE H h1 h2 with h|⟨h,_⟩|⟨h,_⟩
  ·exact h.symm
  ·exact absurd hrb (H.hb u h)
  ·rcases hu with hu|hu
   ·exact absurd hu (H.ht u h).2
   ·exact absurd hu (H.ht u h).1
end Go.AM
end
section
namespace Go.AM
variable {ans:FuncId→Ann} {an:Ann} {tm:List Slot} {rs rs0:RS} {ops:Array Oper} {po pa ta tb:Bool} {o a:Oper} {puts:List (Nat×Slot)} {g:Sto→Sto}
theorem pn (hE:EffO ans an tm ops pa tb a rs0 puts g) (H:xG an.keep an.loc ops tb ta a o) (hbox:∀ u,(u∈wrB an.loc ops a∨u∈tkB an.loc ops tb a∨u∈rdS ops a)→agS (rs0.look an.keep tm u) (rs.look an.keep tm u)∧((u∈wrB an.loc ops a∨u∈tkB an.loc ops tb a)→rs.look an.keep tm u=rs0.look an.keep tm u))
  (hst:match cM ans an.loc ops po ta o with
  |.p=>True
  |.r=>stoAg rs.sto (g rs.sto)
  |_=>g rs.sto=rs.sto):AgrO ans an tm ops po ta o rs ⟨puts++rs.sc,g rs.sto⟩:=by
 have look:∀ t,t∉a.dst.toList→t∉cons an.keep tb a→RS.look an.keep tm ⟨puts++rs.sc,g rs.sto⟩ t=rs.look an.keep tm t∨(t∈wrB an.loc ops a∧∃ c c',rs.look an.keep tm t=.box c∧RS.look an.keep tm ⟨puts++rs.sc,g rs.sto⟩ t=.box c') ∨
   (t∈tkB an.loc ops tb a∧∃ c c',rs.look an.keep tm t=.box c∧RS.look an.keep tm ⟨puts++rs.sc,g rs.sto⟩ t=.box c'∧c'.map Cell.get=c.map Cell.get):=fun t h1 h2=>by
  rw[mj];cases hal:bZ puts t with
  |none=>exact .inl rfl
  |some s =>
   have hm:=gI hal;rcases hE.keys _ hm with h|h|⟨h,c,c',h3,h4⟩|⟨h,c,c',h3,h4,h5⟩|⟨h,b,h3,h4⟩
   ·exact absurd h h1
   ·exact absurd h h2
   ·exact .inr (.inl ⟨h,c,c',by rw[(hbox t (.inl h)).2 (.inl h)];exact h3,h4⟩)
   ·exact .inr (.inr ⟨h,c,c',by rw[(hbox t (.inr (.inl h))).2 (.inr h)];exact h3,h4,h5⟩)
   ·left
    have h6:=(hbox t (.inr (.inr h))).1.eq (by rw[show rs0.look an.keep tm t=.val (.bool b) from h4];simp);show s=_;rw[show s=.val (.bool b) from h3,h6];exact h4.symm
 have nd:∀ t,t∈rdS ops o∨t∈rdB an.loc ops o→t∉a.dst.toList∧t∉cons an.keep tb a:=fun t ht =>
  ⟨fun h=>by have:=H.hw t (.inl h);rcases ht with ht|ht;exact this.1 ht;exact this.2.1 ht,fun h=>by have:=H.hw t (.inr h);rcases ht with ht|ht;exact this.1 ht;exact this.2.1 ht⟩
 refine ⟨fun t ht=>?_,fun u hu c hc=>?_,fun u hu=>?_,hst⟩
 ·obtain ⟨h1,h2⟩:=nd t (.inl ht)
  rcases look t h1 h2 with h|⟨_,c,c',h3,h4⟩|⟨_,c,c',h3,h4,_⟩
  ·exact .inl h
  ·exact .inr ⟨c,c',h3,h4⟩
  ·exact .inr ⟨c,c',h3,h4⟩
 ·obtain ⟨h1,h2⟩:=nd u (.inr hu)
  rcases look u h1 h2 with h|⟨h,_⟩|⟨_,c1,c',h3,h4,h5⟩
  ·exact ⟨c,by rw[h];exact hc,rfl⟩
  ·exact absurd hu (H.hb u h)
  ·rw[h3] at hc;cases hc;exact ⟨c',h4,h5⟩
 ·have hrb:u∈rdB an.loc ops o:=hu.elim oT pB
  obtain ⟨h1,h2⟩:=nd u (.inr hrb);rcases look u h1 h2 with h|⟨h,_⟩|⟨h,_⟩
  ·exact h
  ·exact absurd hrb (H.hb u h)
  ·rcases hu with hu|hu
   ·exact absurd hu (H.ht u h).2
   ·exact absurd hu (H.ht u h).1
end Go.AM
end
section
namespace Go.AM
variable {P:Program} {ans:FuncId→Ann} {an:Ann} {R:Type} {r:R}
variable {tm:List Slot} {rs:RS} {ops:Array Oper} {po pa ta tb:Bool} {cf:aO} {o a:Oper} {g:Sto→Sto}
def effSto (cl:Cls) (s s':Sto):Prop:=match cl with|.t=>stoAg s s'|.w=>True|.x=>True|_=>s'=s
def agrSto (cl:Cls) (s s':Sto):Prop:=match cl with|.p=>True|.r=>stoAg s s'|_=>s'=s
theorem stoAg.symm {s s':Sto} (h:stoAg s s'):stoAg s' s:=⟨h.lo.symm,h.len.symm,fun i=>by
  rcases h.objs i with h'|⟨c1,c2,h1,h2,h3⟩
  ·exact .inl h'.symm
  ·exact .inr ⟨c2,c1,h2,h1,h3.symm⟩⟩
theorem zy {co ca:Cls} (hcl:co.clash ca=false) {s s':Sto} (h:effSto co s s'):agrSto ca s' s:=by
 cases co <;> cases ca <;> first
  |trivial
  |(simp [Cls.clash] at hcl;done)
  |exact stoAg.symm h
  |(have h':s'=s:=h;subst h';first|rfl|exact stoAg.refl _)
end Go.AM
end
