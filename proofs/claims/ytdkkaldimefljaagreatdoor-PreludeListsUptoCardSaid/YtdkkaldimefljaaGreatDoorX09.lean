import Derived.Test.YtdkkaldimefljaaGreatDoorX08
set_option linter.all false
section
namespace Go.AM
variable {P:Program} {ans:FuncId→Ann} {an:Ann} {R:Type} {r:R}
variable {tm:List Slot} {rs1 rs2:RS} {k1:Slot→RS→Option R} {ops:Array Oper} {prot tk:Bool} {cf:Oracle} {o:Oper}
variable {dst:Option Nat} {ty:TypeId} {pos:String} {aft:Array Edge} {gd:Option (Nat×Bool)} {kp:AVal→RS→Option R} {l:List Nat}
def aV (s:Slot):Option AVal:=asV s some
theorem asV_eq (s:Slot) (k:AVal→Option R):asV s k=(aV s).bind k:=by cases s <;> rfl
def binE (P:Program) (op:BinOp) (t:TypeId) (y:Operand) (sx sy:Slot):Option AVal :=
 match op,isNilSlice y with
 |.eql,true=>guardB (isSliceT P t) ((nilTest sx).bind fun b=>some (.bool b))
 |.neq,true=>guardB (isSliceT P t) ((nilTest sx).bind fun b=>some (.bool (!b)))
 |_,_ =>
  match op,isNilIface y,sx with
  |.eql,true,.val .nilif=>guardB (isIfT P t) (some (.bool true))
  |.neq,true,.val .nilif=>guardB (isIfT P t) (some (.bool false))
  |_,_,sx=>(aV sx).bind fun a=>(aV sy).bind fun b=>guardB (abinT P t a) (abin op a b)
theorem guardB_bind {α:Type} (b:Bool) (x:Option α) (f:α→Option R):(guardB b x).bind f=guardB b (x.bind f):=by cases b <;> rfl
theorem stepK_bin {op:BinOp} {t:TypeId} {x y:Operand} {fl:_} {drawn:Bool} (rs:RS) (k:Slot→RS→Option R):stepK P ans an drawn prot l cf tm tk ⟨dst,.binOp op t x y fl,ty,pos,aft,gd⟩ rs kp k=(binE P op t y (opS an.keep tm rs x) (opS an.keep tm rs y)).bind fun v=>k (.val v) rs:=by
 simp only[stepK,binE,asV_eq]
 generalize isNilSlice y=b1
 generalize isNilIface y=b2
 generalize opS an.keep tm rs x=sx
 generalize opS an.keep tm rs y=sy
 have fin:∀ op,((aV sx).bind fun a=>(aV sy).bind fun b=>guardB (abinT P t a) ((abin op a b).bind fun v=>k (.val v) rs))=((aV sx).bind fun a=>(aV sy).bind fun b=>guardB (abinT P t a) (abin op a b)).bind fun v=>k (.val v) rs:=fun op=>by
  simp only[Option.bind_assoc,guardB_bind]
 cases op <;> cases b1 <;> first
  |exact fin _
  |(simp only[guardB_bind,Option.bind_assoc,Option.bind_some];done)
  |(cases b2 <;> first
    |exact fin _
    |(cases sx <;> first
      |exact fin _
      |(rename_i v;cases v <;> first
        |exact fin _
        |(simp only[guardB_bind,Option.bind_some];done))))
theorem binE_box {op:BinOp} {t:TypeId} {y:Operand} {c:List Cell} {sy:Slot}:binE P op t y (.box c) sy=none:=by
 unfold binE
 split
 ·cases isSliceT P t <;> rfl
 ·cases isSliceT P t <;> rfl
 ·split
  ·exact absurd (show Slot.box c=Slot.val .nilif by assumption) (by simp)
  ·exact absurd (show Slot.box c=Slot.val .nilif by assumption) (by simp)
  ·rfl
theorem binE_box2 {op:BinOp} {t:TypeId} {y:Operand} {c:List Cell} {sx:Slot} (hy:∀ v,y≠.const v):binE P op t y sx (.box c)=none:=by
 have h1:isNilSlice y=false:=by unfold isNilSlice;split <;> first|rfl|exact absurd rfl (hy _)
 have h2:isNilIface y=false:=by unfold isNilIface;split <;> first|rfl|exact absurd rfl (hy _)
 unfold binE
 rw[h1,h2]
 cases op <;> simp [aV,asV]
theorem two_binOp {op:BinOp} {t:TypeId} {x y:Operand} {fl:_} (h:Agr ans an tm ops prot tk ⟨dst,.binOp op t x y fl,ty,pos,aft,gd⟩ rs1 rs2) (e:stepK P ans an true prot l cf tm tk ⟨dst,.binOp op t x y fl,ty,pos,aft,gd⟩ rs1 kp k1=some r):Two P ans an tm ops prot tk cf ⟨dst,.binOp op t x y fl,ty,pos,aft,gd⟩ rs1 rs2 k1 r:=by
 have hx:=h.opd x (by simp [Op.operands])
 have hy:=h.opd y (by simp [Op.operands])
 rw[stepK_bin] at e
 obtain ⟨v,hv,e⟩:=bind_ok e
 have hx2:=hx.eq (fun c hc=>by rw[hc,binE_box] at hv;cases hv)
 have hy2:=hy.eq (fun c hc=>by
  rw[hc,binE_box2] at hv
  ·cases hv
  ·rintro v rfl
   simp only[opS,constS] at hc
   split at hc
   ·cases hc
   ·split at hc <;> cases hc)
 exact .val e (fun R2 kp2 k2=>by rw[stepK_bin,hx2,hy2,hv];rfl)
theorem two_nilCheck {x:Operand} (h:Agr ans an tm ops prot tk ⟨dst,.nilCheck x,ty,pos,aft,gd⟩ rs1 rs2) (e:stepK P ans an true prot l cf tm tk ⟨dst,.nilCheck x,ty,pos,aft,gd⟩ rs1 kp k1=some r):Two P ans an tm ops prot tk cf ⟨dst,.nilCheck x,ty,pos,aft,gd⟩ rs1 rs2 k1 r:=by
 have hx:=h.opd x (by simp [Op.operands])
 simp only[stepK] at e
 split at e
 ·rename_i c hb
  split at e
  ·rename_i t
   obtain ⟨c2,h2⟩:∃ c2,opS an.keep tm rs2 (.tmp t)=.box c2:=by
    rcases hx with h|⟨_,c2,_,h⟩
    ·exact ⟨c,h.trans hb⟩
    ·exact ⟨c2,h⟩
   exact .plain e (fun R2 kp2 k2=>by simp only[stepK,h2]) (fun u y he=>by cases he;exact .inl rfl)
  ·cases e
 ·rename_i u y hb
  have h2:=hx.eq (by rw[hb];simp)
  rw[hb] at h2
  obtain ⟨t,ht,hl⟩:=opS_tmp hb
  exact .plain e (fun R2 kp2 k2=>by simp only[stepK,h2]) (fun u' y' he=>by cases he;exact .inr ⟨t,mem_rdS ht (by simp [Op.operands]),y,hl⟩)
 ·rename_i i y hb
  have h2:=hx.eq (by rw[hb];simp)
  rw[hb] at h2
  exact .val e (fun R2 kp2 k2=>by simp only[stepK,h2])
 ·rename_i v hb
  have h2:=hx.eq (by rw[hb];simp)
  rw[hb] at h2
  exact .val e (fun R2 kp2 k2=>by simp only[stepK,h2])
 ·rename_i f cs hb
  have h2:=hx.eq (by rw[hb];simp)
  rw[hb] at h2
  exact .val e (fun R2 kp2 k2=>by simp only[stepK,h2])
 ·cases e
theorem two_fieldAddr {t:TypeId} {x:Operand} {f:Nat} (h:Agr ans an tm ops prot tk ⟨dst,.fieldAddr t x f,ty,pos,aft,gd⟩ rs1 rs2) (e:stepK P ans an true prot l cf tm tk ⟨dst,.fieldAddr t x f,ty,pos,aft,gd⟩ rs1 kp k1=some r):Two P ans an tm ops prot tk cf ⟨dst,.fieldAddr t x f,ty,pos,aft,gd⟩ rs1 rs2 k1 r:=by
 have hx:=h.opd x (by simp [Op.operands])
 simp only[stepK] at e
 obtain ⟨ot,hf,e⟩:=bind_ok e
 obtain ⟨s,hs,e⟩:=bind_ok e
 obtain ⟨hg,e⟩:=guardB_ok e
 obtain ⟨p,e,h2,h3⟩:=asPlace_two hx e
 cases p with
 |loc u y =>
  refine .plain e (fun R2 kp2 k2=>by simp only[stepK,hf,hs,Option.bind_some,guardB_true hg,h2]) (fun u' y' he=>?_)
  cases he
  rcases h3 u y rfl with hh|hh
  ·subst hh;exact .inl rfl
  ·obtain ⟨t',ht',hl⟩:=opS_tmp hh
   exact .inr ⟨t',mem_rdS ht' (by simp [Op.operands]),y,hl⟩
 |obj i y=>exact .val e (fun R2 kp2 k2=>by simp only[stepK,hf,hs,Option.bind_some,guardB_true hg,h2])
 |imm v =>
  simp only at e
  obtain ⟨agg,ha,e⟩:=bind_ok e
  obtain ⟨u,hu,e⟩:=bind_ok e
  exact .val e (fun R2 kp2 k2=>by simp only[stepK,hf,hs,Option.bind_some,guardB_true hg,h2,ha,hu])
theorem two_indexAddr {t:TypeId} {x ix:Operand} (h:Agr ans an tm ops prot tk ⟨dst,.indexAddr t x ix,ty,pos,aft,gd⟩ rs1 rs2) (e:stepK P ans an true prot l cf tm tk ⟨dst,.indexAddr t x ix,ty,pos,aft,gd⟩ rs1 kp k1=some r):Two P ans an tm ops prot tk cf ⟨dst,.indexAddr t x ix,ty,pos,aft,gd⟩ rs1 rs2 k1 r:=by
 have hx:=h.opd x (by simp [Op.operands])
 have hi:=h.opd ix (by simp [Op.operands])
 simp only[stepK] at e
 split at e
 ·rename_i el hu
  obtain ⟨xs,e,h2⟩:=asSl_two hx e
  obtain ⟨kd,n,e,h3⟩:=asInt_two hi e
  obtain ⟨s,hs,e⟩:=bind_ok e
  obtain ⟨hg,e⟩:=guardB_ok e
  obtain ⟨v,hv,e⟩:=bind_ok e
  obtain ⟨hg2,e⟩:=guardB_ok e
  exact .val e (fun R2 kp2 k2=>by simp only[stepK,hu,h2,h3,hs,Option.bind_some,guardB_true hg,hv,guardB_true hg2])
 ·rename_i len el hu
  obtain ⟨p,e,h2,h3⟩:=asPlace_two hx e
  obtain ⟨kd,n,e,h4⟩:=asInt_two hi e
  obtain ⟨s,hs,e⟩:=bind_ok e
  obtain ⟨hg,e⟩:=guardB_ok e
  cases p with
  |loc u y =>
   refine .plain e (fun R2 kp2 k2=>by simp only[stepK,hu,hs,Option.bind_some,guardB_true hg,h2,h4]) (fun u' y' he=>?_)
   cases he
   rcases h3 u y rfl with hh|hh
   ·subst hh;exact .inl rfl
   ·obtain ⟨t',ht',hl⟩:=opS_tmp hh
    exact .inr ⟨t',mem_rdS ht' (by simp [Op.operands]),y,hl⟩
  |obj i y=>exact .val e (fun R2 kp2 k2=>by simp only[stepK,hu,hs,Option.bind_some,guardB_true hg,h2,h4])
  |imm v =>
   simp only at e
   obtain ⟨agg,ha,e⟩:=bind_ok e
   obtain ⟨u,hu',e⟩:=bind_ok e
   exact .val e (fun R2 kp2 k2=>by simp only[stepK,hu,hs,Option.bind_some,guardB_true hg,h2,h4,ha,hu'])
 ·cases e
theorem two_lookup {t:TypeId} {x key:Operand} {ok:Bool} (h:Agr ans an tm ops prot tk ⟨dst,.lookup t x key ok,ty,pos,aft,gd⟩ rs1 rs2) (e:stepK P ans an true prot l cf tm tk ⟨dst,.lookup t x key ok,ty,pos,aft,gd⟩ rs1 kp k1=some r):Two P ans an tm ops prot tk cf ⟨dst,.lookup t x key ok,ty,pos,aft,gd⟩ rs1 rs2 k1 r:=by
 have hx:=h.opd x (by simp [Op.operands])
 have hkk:=h.opd key (by simp [Op.operands])
 have hst:stoAg rs1.sto rs2.sto:=h.sto
 simp only[stepK] at e
 split at e
 ·rename_i kt el i hu hb
  obtain ⟨es,ho,e⟩:=asMap_ok e
  obtain ⟨kv,e,h3⟩:=asV_two hkk e
  obtain ⟨hg,e⟩:=guardB_ok e
  obtain ⟨o,ho',e⟩:=bind_ok e
  obtain ⟨z,hz,e⟩:=bind_ok e
  have h2:=hx.eq (by rw[hb];simp)
  rw[hb] at h2
  have ho2:rs2.sto.objs[i]?=some (.map es):=by
   rcases hst.objs i with h'|⟨c1,c2,h',_⟩
   ·rw[h',ho]
   ·rw[ho] at h';cases h'
  cases ok with
  |true=>exact .plain e (fun R2 kp2 k2=>by simp only[stepK,hu,h2,ho2,asMap,h3,guardB_true hg,ho',hz,Option.bind_some]) (fun u y he=>by cases he)
  |false=>exact .val e (fun R2 kp2 k2=>by simp only[stepK,hu,h2,ho2,asMap,h3,guardB_true hg,ho',hz,Option.bind_some])
 ·cases e
theorem two_mapUpdate {t:TypeId} {x key y:Operand} (h:Agr ans an tm ops prot tk ⟨dst,.mapUpdate t x key y,ty,pos,aft,gd⟩ rs1 rs2) (e:stepK P ans an true prot l cf tm tk ⟨dst,.mapUpdate t x key y,ty,pos,aft,gd⟩ rs1 kp k1=some r):Two P ans an tm ops prot tk cf ⟨dst,.mapUpdate t x key y,ty,pos,aft,gd⟩ rs1 rs2 k1 r:=by
 have hx:=h.opd x (by simp [Op.operands])
 have hkk:=h.opd key (by simp [Op.operands])
 have hy:=h.opd y (by simp [Op.operands])
 have hst:rs2.sto=rs1.sto:=h.sto
 simp only[stepK] at e
 split at e
 ·rename_i kt el i hu hb
  obtain ⟨es,ho,e⟩:=asMap_ok e
  obtain ⟨kv,e,h3⟩:=asV_two hkk e
  obtain ⟨v,e,h4⟩:=asV_two hy e
  obtain ⟨hg,e⟩:=guardB_ok e
  obtain ⟨es',hup,e⟩:=bind_ok e
  have h2:=hx.eq (by rw[hb];simp)
  rw[hb] at h2
  refine ⟨.dead,[],fun sto=>{ sto with objs:=sto.objs.set i (.map es') },e,fun R2 kp2 k2=>?_,by simp,by simp,(fun u y he=>by cases he),trivial⟩
  simp only[stepK,hu,h2,hst,ho,asMap,h3,h4,guardB_true hg,hup,Option.bind_some]
  rfl
 ·cases e
theorem two_makeMap {t:TypeId} {x:Option Operand} (h:Agr ans an tm ops prot tk ⟨dst,.makeMap t x,ty,pos,aft,gd⟩ rs1 rs2) (e:stepK P ans an true prot l cf tm tk ⟨dst,.makeMap t x,ty,pos,aft,gd⟩ rs1 kp k1=some r):Two P ans an tm ops prot tk cf ⟨dst,.makeMap t x,ty,pos,aft,gd⟩ rs1 rs2 k1 r:=by
 have hst:rs2.sto=rs1.sto:=h.sto
 simp only[stepK] at e
 cases x with
 |none =>
  refine ⟨.val (.amap rs1.sto.objs.length),[],fun sto=>{ sto with objs:=sto.objs++[.map []] },e,fun R2 kp2 k2=>?_,by simp,by simp,(fun u y he=>by cases he),trivial⟩
  simp only[stepK,hst];rfl
 |some x =>
  have hx:=h.opd x (by simp [Op.operands])
  simp only at e
  obtain ⟨kd,n,e,h2⟩:=asInt_two hx e
  obtain ⟨hg,e⟩:=guardB_ok e
  refine ⟨.val (.amap rs1.sto.objs.length),[],fun sto=>{ sto with objs:=sto.objs++[.map []] },e,fun R2 kp2 k2=>?_,by simp,by simp,(fun u y he=>by cases he),trivial⟩
  simp only[stepK,h2,guardB_true hg,hst];rfl
end Go.AM
end
section
namespace Go.AM
variable {P:Program} {ans:FuncId→Ann} {an:Ann} {R:Type} {r:R}
variable {tm:List Slot} {rs1 rs2:RS} {k1:Slot→RS→Option R} {ops:Array Oper} {prot tk:Bool} {cf:Oracle} {o:Oper}
variable {dst:Option Nat} {ty:TypeId} {pos:String} {aft:Array Edge} {gd:Option (Nat×Bool)} {kp:AVal→RS→Option R} {l:List Nat}
theorem mvK_two {x:Operand} {ty:TypeId} (h:agS (opS an.keep tm rs1 x) (opS an.keep tm rs2 x)) (e:mvK P an tm tk ty x rs1 k1=some r) :
  ∃ s puts,k1 s ⟨puts++rs1.sc,rs1.sto⟩=some r∧(∀ (R2:Type) (k2:Slot→RS→Option R2),mvK P an tm tk ty x rs2 k2=k2 s ⟨puts++rs2.sc,rs2.sto⟩) ∧
   (puts=[]∨∃ t v,x=.tmp t∧(tk||!an.keep.contains t)=true∧puts=[(t,.val v)])∧∀ u y,s=.ref u y→opS an.keep tm rs1 x=.ref u y:=by
 unfold mvK at e
 split at e
 ·rename_i t
  split at e
  ·rename_i sz xs hop
   have h2:=h.eq (by rw[hop];simp)
   rw[hop] at h2
   split at e
   ·rename_i hk
    exact ⟨_,[(t,.val (.slice xs))],e,fun R2 k2=>by simp only[mvK,h2,hk];rfl,.inr ⟨t,_,rfl,hk,rfl⟩,fun u y he=>by cases he⟩
   ·rename_i hk
    exact ⟨_,[],e,fun R2 k2=>by simp only[mvK,h2,hk];rfl,.inl rfl,fun u y he=>by cases he⟩
  ·rename_i cs hop
   have h2:=h.eq (by rw[hop];simp)
   rw[hop] at h2
   split at e
   ·rename_i hk
    exact ⟨_,[(t,.val (.agg (cs.map Cell.get)))],e,fun R2 k2=>by simp only[mvK,h2,hk];rfl,.inr ⟨t,_,rfl,hk,rfl⟩,fun u y he=>by cases he⟩
   ·rename_i hk
    exact ⟨_,[],e,fun R2 k2=>by simp only[mvK,h2,hk];rfl,.inl rfl,fun u y he=>by cases he⟩
  ·rename_i hn1 hn2
   have hs:=h.eq (fun c hc=>by rw[hc] at e;simp [mv] at e)
   obtain ⟨s,e,h2,h3⟩:=mv_two h e
   refine ⟨s,[],e,fun R2 k2=>?_,.inl rfl,h3⟩
   show mvK P an tm tk ty (.tmp t) rs2 k2=k2 s rs2
   rw[←h2 R2 (fun s'=>k2 s' rs2)]
   simp only[mvK,hs]
 ·rename_i v
  split at e
  ·cases e
  ·rename_i hd
   refine ⟨_,[],e,fun R2 k2=>?_,.inl rfl,fun u y he=>?_⟩
   ·simp only[mvK];rfl
   ·unfold constT at he
    split at he
    ·split at he <;> cases he
    ·unfold constS at he;split at he
     ·cases he
     ·split at he <;> cases he
 ·rename_i hx1 hx2
  obtain ⟨s,e,h2,h3⟩:=mv_two h e
  refine ⟨s,[],e,fun R2 k2=>?_,.inl rfl,h3⟩
  cases x with
  |tmp t=>exact absurd rfl (hx1 t)
  |const v=>exact absurd rfl (hx2 v)
  |global g=>exact h2 R2 (fun s'=>k2 s' rs2)
  |func f=>exact h2 R2 (fun s'=>k2 s' rs2)
theorem two_move {x:Operand} (h:Agr ans an tm ops prot tk ⟨dst,.move x,ty,pos,aft,gd⟩ rs1 rs2) (e:stepK P ans an true prot l cf tm tk ⟨dst,.move x,ty,pos,aft,gd⟩ rs1 kp k1=some r):Two P ans an tm ops prot tk cf ⟨dst,.move x,ty,pos,aft,gd⟩ rs1 rs2 k1 r:=by
 have hx:=h.opd x (by simp [Op.operands])
 simp only[stepK] at e
 obtain ⟨s,puts,e,h2,h3,h4⟩:=mvK_two hx e
 refine ⟨s,puts,id,e,fun R2 kp2 k2=>by simp only[stepK];exact h2 R2 k2,?_,?_,fun u y he=>?_,rfl⟩
 ·rcases h3 with rfl|⟨t,v,rfl,hk,rfl⟩
  ·simp
  ·intro p hp;simp at hp;subst hp;left;simp only[cons,hk,if_true];simp
 ·rcases h3 with rfl|⟨t,v,rfl,hk,rfl⟩
  ·simp
  ·intro p hp u y;simp at hp;subst hp;simp
 ·obtain ⟨t,ht,hl⟩:=opS_tmp (h4 u y he)
  exact .inr ⟨t,mem_rdS ht (by simp [Op.operands]),y,hl⟩
theorem two_assign {x:Operand} (h:Agr ans an tm ops prot tk ⟨dst,.assign x,ty,pos,aft,gd⟩ rs1 rs2) (e:stepK P ans an true prot l cf tm tk ⟨dst,.assign x,ty,pos,aft,gd⟩ rs1 kp k1=some r):Two P ans an tm ops prot tk cf ⟨dst,.assign x,ty,pos,aft,gd⟩ rs1 rs2 k1 r:=by
 have hx:=h.opd x (by simp [Op.operands])
 simp only[stepK] at e
 obtain ⟨s,puts,e,h2,h3,h4⟩:=mvK_two hx e
 refine ⟨s,puts,id,e,fun R2 kp2 k2=>by simp only[stepK];exact h2 R2 k2,?_,?_,fun u y he=>?_,rfl⟩
 ·rcases h3 with rfl|⟨t,v,rfl,hk,rfl⟩
  ·simp
  ·intro p hp;simp at hp;subst hp;left;simp only[cons,hk,if_true];simp
 ·rcases h3 with rfl|⟨t,v,rfl,hk,rfl⟩
  ·simp
  ·intro p hp u y;simp at hp;subst hp;simp
 ·obtain ⟨t,ht,hl⟩:=opS_tmp (h4 u y he)
  exact .inr ⟨t,mem_rdS ht (by simp [Op.operands]),y,hl⟩
theorem two_alloc {t:TypeId} (h:Agr ans an tm ops prot tk ⟨dst,.alloc t,ty,pos,aft,gd⟩ rs1 rs2) (e:stepK P ans an true prot l cf tm tk ⟨dst,.alloc t,ty,pos,aft,gd⟩ rs1 kp k1=some r):Two P ans an tm ops prot tk cf ⟨dst,.alloc t,ty,pos,aft,gd⟩ rs1 rs2 k1 r:=by
 simp only[stepK] at e
 obtain ⟨z,hz,e⟩:=bind_ok e
 obtain ⟨s,hs,e⟩:=bind_ok e
 obtain ⟨hg,e⟩:=guardB_ok e
 cases dst with
 |none=>cases e
 |some d =>
  cases hl:an.loc.contains d with
  |true =>
   simp only[hl] at e
   exact .plain e (fun R2 kp2 k2=>by simp only[stepK,hz,hs,Option.bind_some,guardB_true hg,hl]) (fun u y he=>by cases he)
  |false =>
   simp only[hl] at e
   have hcls:clsOf ans an.loc ops prot tk ⟨some d,.alloc t,ty,pos,aft,gd⟩=.w:=by simp only[clsOf,hl];rfl
   have hst:rs2.sto=rs1.sto:=by have:=h.sto;rw[hcls] at this;exact this
   refine ⟨_,[],fun sto=>{ sto with objs:=sto.objs++[.box z] },e,fun R2 kp2 k2=>?_,by simp,by simp,(fun u y he=>by cases he),by rw[hcls];trivial⟩
   simp only[stepK,hz,hs,Option.bind_some,guardB_true hg,hl,hst];rfl
end Go.AM
end
section
namespace Go.AM
variable {P:Program} {ans:FuncId→Ann} {an:Ann} {R:Type} {r:R}
variable {tm:List Slot} {rs1 rs2:RS} {k1:Slot→RS→Option R} {ops:Array Oper} {prot tk:Bool} {cf:Oracle} {o:Oper}
variable {dst:Option Nat} {ty:TypeId} {pos:String} {aft:Array Edge} {gd:Option (Nat×Bool)} {kp:AVal→RS→Option R}
theorem asCells_two {x:Operand} {k:List Cell→RS→Option R} (h:agS (opS an.keep tm rs1 x) (opS an.keep tm rs2 x)) (e:asCells an.keep tm rs1 x k=some r) :
  ∃ cs puts,k cs ⟨puts++rs1.sc,rs1.sto⟩=some r∧(∀ (R2:Type) (k2:List Cell→RS→Option R2),asCells an.keep tm rs2 x k2=k2 cs ⟨puts++rs2.sc,rs2.sto⟩) ∧
   (puts=[]∨∃ t v,x=.tmp t∧an.keep.contains t=false∧puts=[(t,.val v)]):=by
 have h2:=h.eq (fun c hc=>by unfold asCells at e;rw[hc] at e;simp [asV] at e)
 unfold asCells at e
 split at e
 ·rename_i sz xs t hop
  rw[hop] at h2
  cases hk:an.keep.contains t with
  |true =>
   simp only[hk] at e
   exact ⟨_,[],e,fun R2 k2=>by simp only[asCells,h2,hk];rfl,.inl rfl⟩
  |false =>
   simp only[hk] at e
   exact ⟨_,[(t,.val (.slice xs))],e,fun R2 k2=>by simp only[asCells,h2,hk];rfl,.inr ⟨t,_,rfl,hk,rfl⟩⟩
 ·rename_i sz v hop
  rw[hop] at h2
  exact ⟨_,[],e,fun R2 k2=>by simp only[asCells,h2];rfl,.inl rfl⟩
 ·rename_i cs t hop
  rw[hop] at h2
  cases hk:an.keep.contains t with
  |true =>
   simp only[hk] at e
   exact ⟨_,[],e,fun R2 k2=>by simp only[asCells,h2,hk];rfl,.inl rfl⟩
  |false =>
   simp only[hk] at e
   exact ⟨_,[(t,.val (.agg (cs.map Cell.get)))],e,fun R2 k2=>by simp only[asCells,h2,hk];rfl,.inr ⟨t,_,rfl,hk,rfl⟩⟩
 ·rename_i hn1 hn2 hn3
  obtain ⟨v,e,h3⟩:=asV_two (.inl rfl) e
  refine ⟨_,[],e,fun R2 k2=>?_,.inl rfl⟩
  show asCells an.keep tm rs2 _ k2=k2 (v.cells.map .val) rs2
  unfold asCells
  rw[h2]
  split
  ·rename_i sz xs t hop;exact (hn1 _ _ _ hop rfl).elim
  ·rename_i sz v hop;exact (hn2 _ _ hop rfl).elim
  ·rename_i cs t hop;exact (hn3 _ _ hop rfl).elim
  ·exact h3 R2 _
theorem asBox_ok {s:Slot} {k:List Cell→Option R} (e:asBox s k=some r):∃ cs,s=.box cs∧k cs=some r:=by
 unfold asBox at e
 split at e
 ·exact ⟨_,rfl,e⟩
 ·cases e
theorem asObj_ok {o:Option AObj} {k:List Cell→Option R} (e:asObj o k=some r):∃ cs,o=some (.box cs)∧k cs=some r:=by
 unfold asObj at e
 split at e
 ·exact ⟨_,rfl,e⟩
 ·cases e
theorem boxCells_two {t0:TypeId} {x:Operand} {k:List Cell→RS→Option R} (h:agS (opS an.keep tm rs1 x) (opS an.keep tm rs2 x)) (e:boxCells P t0 an.keep tm rs1 x k=some r) :
  ∃ cs puts,k cs ⟨puts++rs1.sc,rs1.sto⟩=some r∧(∀ (R2:Type) (k2:List Cell→RS→Option R2),boxCells P t0 an.keep tm rs2 x k2=k2 cs ⟨puts++rs2.sc,rs2.sto⟩) ∧
   (puts=[]∨∃ t v,x=.tmp t∧an.keep.contains t=false∧puts=[(t,.val v)]):=by
 unfold boxCells at e
 split at e
 ·rename_i hop
  obtain ⟨el,h1,e⟩:=bind_ok e
  obtain ⟨sz,h2,e⟩:=bind_ok e
  have hop2:opS an.keep tm rs2 x=.nl:=(h.eq (fun c hc=>by rw[hop] at hc;cases hc)).trans hop
  exact ⟨_,[],e,fun R2 k2=>by unfold boxCells;rw[hop2];simp only[h1,h2,Option.bind_some];rfl,.inl rfl⟩
 ·rename_i hn
  obtain ⟨cs,puts,a1,a2,a3⟩:=asCells_two h e
  refine ⟨cs,puts,a1,fun R2 k2=>?_,a3⟩
  rw[←a2 R2 k2]
  have hn2:opS an.keep tm rs2 x≠.nl:=fun hc=>by
   rcases h with h|⟨c1,c2,_,h⟩
   ·exact hn (h.symm.trans hc)
   ·rw[h] at hc;cases hc
  unfold boxCells
  split
  ·rename_i hc;exact absurd hc hn2
  ·rfl
theorem isEmpty_nil {α:Type} {l:List α} (h:l.isEmpty=true):l=[]:=by cases l <;> simp_all
theorem contains_cons {l:List Nat} {u:Nat} (h:l.contains u=true):u∈l∧∃ a m,l=a::m:=by
 have hm:u∈l:=by simpa using h
 exact ⟨hm,by cases l with|nil=>simp at hm|cons a m=>exact ⟨a,m,rfl⟩⟩
theorem two_box {t:TypeId} {x:Operand} {l:List Nat} (h:Agr ans an tm ops prot tk ⟨dst,.box t x,ty,pos,aft,gd⟩ rs1 rs2) (e:stepK P ans an true prot l cf tm tk ⟨dst,.box t x,ty,pos,aft,gd⟩ rs1 kp k1=some r):Two P ans an tm ops prot tk cf ⟨dst,.box t x,ty,pos,aft,gd⟩ rs1 rs2 k1 r:=by
 have hx:=h.opd x (by simp [Op.operands])
 simp only[stepK] at e
 obtain ⟨cs,puts,e,h2,h3⟩:=boxCells_two hx e
 obtain ⟨s,hs,e⟩:=bind_ok e
 obtain ⟨hg,e⟩:=guardB_ok e
 have hkeys:∀ p∈puts,p.1∈cons an.keep tk ⟨dst,.box t x,ty,pos,aft,gd⟩:=fun p hp=>by
  rcases h3 with rfl|⟨t',v,rfl,hk,rfl⟩
  ·simp at hp
  ·simp at hp;subst hp
   simp only[cons,hk];simp
 have hvals:∀ p∈puts,∀ u y,p.2≠.ref u y:=fun p hp u y=>by
  rcases h3 with rfl|⟨t',v,rfl,hk,rfl⟩
  ·simp at hp
  ·simp at hp;subst hp;simp
 cases dst with
 |none=>cases e
 |some d =>
  cases hl:an.loc.contains d with
  |true =>
   simp only[hl] at e
   have hcls:clsOf ans an.loc ops prot tk ⟨some d,.box t x,ty,pos,aft,gd⟩=.p:=by simp only[clsOf,hl];rfl
   refine ⟨_,puts,id,e,fun R2 kp2 k2=>?_,fun p hp=>.inl (hkeys p hp),hvals,(fun u y he=>by cases he),by rw[hcls]⟩
   simp only[stepK,h2,hs,Option.bind_some,guardB_true hg,hl];rfl
  |false =>
   simp only[hl] at e
   obtain ⟨hg2,e⟩:=guardB_ok e
   have hcls:clsOf ans an.loc ops prot tk ⟨some d,.box t x,ty,pos,aft,gd⟩=.w:=by simp only[clsOf,hl];rfl
   have hst:rs2.sto=rs1.sto:=by have:=h.sto;rw[hcls] at this;exact this
   refine ⟨_,puts,fun sto=>{ sto with objs:=sto.objs++[.box cs] },e,fun R2 kp2 k2=>?_,fun p hp=>.inl (hkeys p hp),hvals,(fun u y he=>by cases he),by rw[hcls];trivial⟩
   simp only[stepK,h2,hs,Option.bind_some,guardB_true hg,hl,hst,guardB_true hg2];try rfl
theorem two_store {t:TypeId} {a x:Operand} (h:Agr ans an tm ops prot tk ⟨dst,.store t a x,ty,pos,aft,gd⟩ rs1 rs2) (e:stepK P ans an true prot (rootS an.loc ops.toList ops.size a) cf tm tk ⟨dst,.store t a x,ty,pos,aft,gd⟩ rs1 kp k1=some r):Two P ans an tm ops prot tk cf ⟨dst,.store t a x,ty,pos,aft,gd⟩ rs1 rs2 k1 r:=by
 have ha:=h.opd a (by simp [Op.operands])
 have hx:=h.opd x (by simp [Op.operands])
 simp only[stepK] at e
 obtain ⟨p,e,h2,_⟩:=asPlace_two ha e
 have hkeys:∀ puts:List (Nat×Slot),(puts=[]∨∃ t v,x=.tmp t∧an.keep.contains t=false∧puts=[(t,.val v)])→(∀ p∈puts,p.1∈cons an.keep tk ⟨dst,.store t a x,ty,pos,aft,gd⟩)∧∀ p∈puts,∀ u y,p.2≠.ref u y:=fun puts h3=>by
  rcases h3 with rfl|⟨t',v,rfl,hk,rfl⟩
  ·simp
  ·refine ⟨fun p hp=>?_,fun p hp u y=>?_⟩
   ·simp at hp;subst hp;simp only[cons,hk];simp
   ·simp at hp;subst hp;simp
 cases p with
 |loc u y =>
  simp only[drawnPlace] at e
  obtain ⟨hr,e⟩:=guardB_ok e
  obtain ⟨hm,a0,m0,hcons⟩:=contains_cons hr
  simp only[cellsOfPlace] at e
  obtain ⟨cs,hcs,e⟩:=asBox_ok e
  obtain ⟨s,hs,e⟩:=bind_ok e
  obtain ⟨new,puts,e,h4,h5⟩:=asCells_two hx e
  obtain ⟨hg,e⟩:=guardB_ok e
  simp only[writePlace] at e
  have hw2:rs2.look an.keep tm u=.box cs:=(h.wb u (.inl hm)).trans hcs
  have hcls:clsOf ans an.loc ops prot tk ⟨dst,.store t a x,ty,pos,aft,gd⟩=.p:=by simp only[clsOf,hcons]
  obtain ⟨k3,k4⟩:=hkeys puts h5
  refine ⟨.dead,(u,.box (setCells cs y new))::puts,id,e,fun R2 kp2 k2=>?_,fun p hp=>?_,fun p hp u' y'=>?_,(fun u y he=>by cases he),by rw[hcls]⟩
  ·simp only[stepK,addrOf,h2,drawnPlace,guardB_true hr,cellsOfPlace,hw2,asBox,hs,Option.bind_some,h4,guardB_true hg,writePlace];rfl
  ·rcases List.mem_cons.1 hp with rfl|hp
   ·exact .inr (.inl ⟨hm,cs,_,hcs,rfl⟩)
   ·exact .inl (k3 p hp)
  ·rcases List.mem_cons.1 hp with rfl|hp
   ·simp
   ·exact k4 p hp u' y'
 |obj i y =>
  simp only[drawnPlace] at e
  obtain ⟨hr,e⟩:=guardB_ok e
  have hnil:=isEmpty_nil hr
  have hcls:clsOf ans an.loc ops prot tk ⟨dst,.store t a x,ty,pos,aft,gd⟩=.w:=by simp only[clsOf,hnil]
  have hst:rs2.sto=rs1.sto:=by have:=h.sto;rw[hcls] at this;exact this
  simp only[cellsOfPlace] at e
  obtain ⟨cs,hcs,e⟩:=asObj_ok e
  obtain ⟨s,hs,e⟩:=bind_ok e
  obtain ⟨new,puts,e,h4,h5⟩:=asCells_two hx e
  obtain ⟨hg,e⟩:=guardB_ok e
  simp only[writePlace] at e
  obtain ⟨hg2,e⟩:=guardB_ok e
  obtain ⟨k3,k4⟩:=hkeys puts h5
  refine ⟨.dead,puts,fun sto=>{ sto with objs:=sto.objs.set i (.box (setCells cs y new)) },e,fun R2 kp2 k2=>?_,fun p hp=>.inl (k3 p hp),k4,(fun u y he=>by cases he),by rw[hcls];trivial⟩
  simp only[stepK,addrOf,h2,drawnPlace,guardB_true hr,cellsOfPlace,hst,hcs,asObj,hs,Option.bind_some,h4,guardB_true hg,writePlace,guardB_true hg2];try rfl
 |imm v =>
  simp only[drawnPlace] at e
  obtain ⟨hr,e⟩:=guardB_ok e
  simp only[cellsOfPlace] at e
  obtain ⟨s,hs,e⟩:=bind_ok e
  obtain ⟨new,puts,e,h4,h5⟩:=asCells_two hx e
  obtain ⟨hg,e⟩:=guardB_ok e
  simp [writePlace] at e
end Go.AM
end
section
namespace Go.AM
variable {P:Program} {ans:FuncId→Ann} {an:Ann} {R:Type} {r:R}
variable {tm:List Slot} {rs1 rs2:RS} {k1:Slot→RS→Option R} {ops:Array Oper} {prot tk:Bool} {cf:Oracle} {o:Oper}
variable {dst:Option Nat} {ty:TypeId} {pos:String} {aft:Array Edge} {gd:Option (Nat×Bool)} {kp:AVal→RS→Option R}
def loadK (agg:Bool) (s:Nat) (cs:List Cell) (off:Nat) (k:AVal→Option R):Option R :=
 match agg with
 |true=>(partOf true (cs.map Cell.get) off s).bind k
 |false=>guardB (Nat.beq s 1) ((cs[off]?).bind fun c=>k c.get)
theorem loadK_congr {agg:Bool} {s:Nat} {cs cs':List Cell} {off:Nat} {k:AVal→Option R} (h:cs'.map Cell.get=cs.map Cell.get):loadK agg s cs' off k=loadK agg s cs off k:=by
 unfold loadK
 split
 ·rw[h]
 ·congr 1
  have h1:(cs'[off]?).map Cell.get=(cs[off]?).map Cell.get:=by
   rw[←List.getElem?_map,←List.getElem?_map,h]
  cases h2:cs'[off]? with
  |none=>rw[h2] at h1;cases h3:cs[off]? with
   |none=>rfl
   |some c=>rw[h3] at h1;cases h1
  |some c'=>rw[h2] at h1;cases h3:cs[off]? with
   |none=>rw[h3] at h1;cases h1
   |some c=>rw[h3] at h1;simp at h1;simp [h1]
theorem loadK_two {agg:Bool} {s:Nat} {cs:List Cell} {off:Nat} {k:AVal→Option R} (e:loadK agg s cs off k=some r):∃ v,k v=some r∧∀ (R2:Type) (k2:AVal→Option R2),loadK agg s cs off k2=k2 v:=by
 unfold loadK at e
 cases agg with
 |true =>
  simp only at e
  obtain ⟨v,hv,e⟩:=bind_ok e
  exact ⟨v,e,fun R2 k2=>by simp only[loadK,hv,Option.bind_some]⟩
 |false =>
  simp only at e
  obtain ⟨hg,e⟩:=guardB_ok e
  obtain ⟨c,hc,e⟩:=bind_ok e
  exact ⟨c.get,e,fun R2 k2=>by simp only[loadK,guardB_true hg,hc,Option.bind_some]⟩
def loadT (tk:Bool) (agg:Bool) (s:Nat) (rs:RS) (p:Place) (cs:List Cell) (off:Nat) (k:Slot→RS→Option R):Option R :=
 match agg with
 |true=>(partOf true (cs.map Cell.get) off s).bind fun v=>k (.val v) rs
 |false=>guardB (Nat.beq s 1) (match tk,cs[off]? with
  |true,some (.own sz xs)=>writePlace rs p (cs.set off (.val (.slice xs))) fun rs'=>k (.own sz xs) rs'
  |_,c=>c.bind fun c=>k (.val c.get) rs)
theorem loadT_plain {agg:Bool} {s:Nat} {rs:RS} {p:Place} {cs:List Cell} {off:Nat} {k:Slot→RS→Option R} (h:tk=false∨agg=true∨∀ sz xs,cs[off]?≠some (.own sz xs)):loadT tk agg s rs p cs off k=loadK agg s cs off fun v=>k (.val v) rs:=by
 unfold loadT loadK
 cases agg with
 |true=>rfl
 |false =>
  simp only
  congr 1
  cases tk with
  |false=>rfl
  |true =>
   rcases h with h|h|h
   ·cases h
   ·cases h
   ·split
    ·rename_i hh;exact absurd hh (h _ _)
    ·rfl
theorem map_get_set {cs:List Cell} {off sz:Nat} {xs:List AVal} (h:cs[off]?=some (.own sz xs)):(cs.set off (.val (.slice xs))).map Cell.get=cs.map Cell.get:=by
 apply List.ext_getElem?
 intro i
 simp only[List.getElem?_map,List.getElem?_set]
 split
 ·rename_i hi;subst hi
  split
  ·rw[h];rfl
  ·rename_i hl;rw[List.getElem?_eq_none_iff.2 (by omega)]
 ·rfl
def ldCls (tk:Bool):Cls:=bif tk then .t else .r
theorem two_load {t:TypeId} {a:Operand} (h:Agr ans an tm ops prot tk ⟨dst,.load t a,ty,pos,aft,gd⟩ rs1 rs2) (e:stepK P ans an true prot (rootS an.loc ops.toList ops.size a) cf tm tk ⟨dst,.load t a,ty,pos,aft,gd⟩ rs1 kp k1=some r):Two P ans an tm ops prot tk cf ⟨dst,.load t a,ty,pos,aft,gd⟩ rs1 rs2 k1 r:=by
 have ha:=h.opd a (by simp [Op.operands])
 simp only[stepK] at e
 obtain ⟨p,e,h2,_⟩:=asPlace_two ha e
 have hstep:∀ (R2:Type) (kp2:AVal→RS→Option R2) (k2:Slot→RS→Option R2),stepK P ans an true prot (rootS an.loc ops.toList ops.size (addrOf ⟨dst,.load t a,ty,pos,aft,gd⟩)) cf tm tk ⟨dst,.load t a,ty,pos,aft,gd⟩ rs2 kp2 k2 =
   drawnPlace true (rootS an.loc ops.toList ops.size a) p (cellsOfPlace an.keep tm rs2 p fun cs off=>(szOf P t).bind fun s=>(aggOf P t).bind fun agg=>loadT tk agg s rs2 p cs off k2):=fun R2 kp2 k2=>by
  simp only[stepK,addrOf,h2]
  try rfl
 have e:drawnPlace true (rootS an.loc ops.toList ops.size a) p (cellsOfPlace an.keep tm rs1 p fun cs off=>(szOf P t).bind fun s=>(aggOf P t).bind fun agg=>loadT tk agg s rs1 p cs off k1)=some r:=e
 cases p with
 |loc u y =>
  simp only[drawnPlace] at e
  obtain ⟨hr,e⟩:=guardB_ok e
  obtain ⟨hm,a0,m0,hcons⟩:=contains_cons hr
  simp only[cellsOfPlace] at e
  obtain ⟨cs,hcs,e⟩:=asBox_ok e
  obtain ⟨s,hs,e⟩:=bind_ok e
  obtain ⟨agg,hagg,e⟩:=bind_ok e
  have hcls:clsOf ans an.loc ops prot tk ⟨dst,.load t a,ty,pos,aft,gd⟩=.p:=by simp only[clsOf,hcons]
  by_cases hp:tk=false∨agg=true∨∀ sz xs,cs[y]?≠some (.own sz xs)
  ·rw[loadT_plain hp] at e
   obtain ⟨v,e,h3⟩:=loadK_two e
   obtain ⟨cs2,hcs2,hmap⟩:=h.rb u hm cs hcs
   refine .val e fun R2 kp2 k2=>?_
   rw[hstep]
   simp only[drawnPlace,guardB_true hr,cellsOfPlace,hcs2,asBox,hs,hagg,Option.bind_some]
   have hp2:tk=false∨agg=true∨∀ sz xs,cs2[y]?≠some (.own sz xs):=by
    cases htk:tk with
    |false=>exact .inl rfl
    |true =>
     have hw:=h.wb u (.inr (by simp only[tkB,htk,if_true];exact hm))
     rw[hcs,hcs2] at hw
     cases hw
     rw[htk] at hp;exact hp
   rw[loadT_plain hp2,loadK_congr hmap]
   exact h3 R2 _
  ·have htk:tk=true:=by cases tk <;> simp_all
   have hag:agg=false:=by cases agg <;> simp_all
   obtain ⟨sz,xs,hown⟩:∃ sz xs,cs[y]?=some (.own sz xs):=by
    apply Classical.byContradiction
    intro hn
    exact hp (.inr (.inr fun sz xs hh=>hn ⟨sz,xs,hh⟩))
   have hmt:u∈tkB an.loc ops tk ⟨dst,.load t a,ty,pos,aft,gd⟩:=by simp only[tkB,htk,if_true];exact hm
   have hcs2:=(h.wb u (.inr hmt)).trans hcs
   subst hag
   simp only[loadT,htk,hown] at e
   obtain ⟨hg,e⟩:=guardB_ok e
   simp only[writePlace] at e
   refine ⟨.own sz xs,[(u,.box (cs.set y (.val (.slice xs))))],id,e,fun R2 kp2 k2=>?_,fun p hp=>?_,fun p hp u' y'=>?_,(fun u y he=>by cases he),by rw[hcls]⟩
   ·rw[hstep]
    simp only[drawnPlace,guardB_true hr,cellsOfPlace,hcs2,asBox,hs,hagg,Option.bind_some,loadT,htk,hown,guardB_true hg,writePlace]
    rfl
   ·simp at hp;subst hp
    exact .inr (.inr ⟨hmt,cs,_,hcs,rfl,map_get_set hown⟩)
   ·simp at hp;subst hp;simp
 |obj i y =>
  simp only[drawnPlace] at e
  obtain ⟨hr,e⟩:=guardB_ok e
  have hnil:=isEmpty_nil hr
  simp only[cellsOfPlace] at e
  obtain ⟨cs,hcs,e⟩:=asObj_ok e
  obtain ⟨s,hs,e⟩:=bind_ok e
  obtain ⟨agg,hagg,e⟩:=bind_ok e
  have hcls:clsOf ans an.loc ops prot tk ⟨dst,.load t a,ty,pos,aft,gd⟩=ldCls tk:=by simp only[clsOf,hnil];cases tk <;> rfl
  by_cases hp:tk=false∨agg=true∨∀ sz xs,cs[y]?≠some (.own sz xs)
  ·rw[loadT_plain hp] at e
   obtain ⟨v,e,h3⟩:=loadK_two e
   obtain ⟨cs2,hcs2,hmap,hp2⟩:∃ cs2,rs2.sto.objs[i]?=some (.box cs2)∧cs2.map Cell.get=cs.map Cell.get∧(tk=false∨agg=true∨∀ sz xs,cs2[y]?≠some (.own sz xs)):=by
    have hst:=h.sto
    rw[hcls] at hst
    cases htk:tk with
    |true =>
     rw[htk] at hst
     have hst:rs2.sto=rs1.sto:=hst
     exact ⟨cs,by rw[hst];exact hcs,rfl,by rw[htk] at hp;exact hp⟩
    |false =>
     rw[htk] at hst
     have hst:stoAg rs1.sto rs2.sto:=hst
     rcases hst.objs i with h'|⟨c1,c2,h',h'',hm⟩
     ·exact ⟨cs,by rw[h'];exact hcs,rfl,.inl rfl⟩
     ·rw[hcs] at h';cases h'
      exact ⟨c2,h'',hm,.inl rfl⟩
   refine .val e fun R2 kp2 k2=>?_
   rw[hstep]
   simp only[drawnPlace,guardB_true hr,cellsOfPlace,hcs2,asObj,hs,hagg,Option.bind_some]
   rw[loadT_plain hp2,loadK_congr hmap]
   exact h3 R2 _
  ·have htk:tk=true:=by cases tk <;> simp_all
   have hag:agg=false:=by cases agg <;> simp_all
   obtain ⟨sz,xs,hown⟩:∃ sz xs,cs[y]?=some (.own sz xs):=by
    apply Classical.byContradiction
    intro hn
    exact hp (.inr (.inr fun sz xs hh=>hn ⟨sz,xs,hh⟩))
   have hst:rs2.sto=rs1.sto:=by have:=h.sto;rw[hcls,htk] at this;exact this
   subst hag
   simp only[loadT,htk,hown] at e
   obtain ⟨hg,e⟩:=guardB_ok e
   simp only[writePlace] at e
   obtain ⟨hg2,e⟩:=guardB_ok e
   refine ⟨.own sz xs,[],fun sto=>{ sto with objs:=sto.objs.set i (.box (cs.set y (.val (.slice xs)))) },e,fun R2 kp2 k2=>?_,by simp,by simp,(fun u y he=>by cases he),?_⟩
   ·rw[hstep]
    simp only[drawnPlace,guardB_true hr,cellsOfPlace,hst,hcs,asObj,hs,hagg,Option.bind_some,loadT,htk,hown,guardB_true hg,writePlace,guardB_true hg2]
    rfl
   ·rw[hcls,htk]
    refine ⟨rfl,by simp,fun j=>?_⟩
    simp only[List.getElem?_set]
    split
    ·rename_i hij;subst hij
     have hlt:=(List.getElem?_eq_some_iff.1 hcs).1
     rw[if_pos hlt]
     exact .inr ⟨cs,_,hcs,rfl,map_get_set hown⟩
    ·exact .inl rfl
 |imm v =>
  simp only[drawnPlace] at e
  obtain ⟨hr,e⟩:=guardB_ok e
  simp only[cellsOfPlace] at e
  obtain ⟨s,hs,e⟩:=bind_ok e
  obtain ⟨agg,hagg,e⟩:=bind_ok e
  have hp:tk=false∨agg=true∨∀ sz xs,(v.cells.map Cell.val)[0]?≠some (.own sz xs):=.inr (.inr fun sz xs hh=>by
   rw[List.getElem?_map] at hh
   cases hv:v.cells[0]? with
   |none=>rw[hv] at hh;cases hh
   |some c=>rw[hv] at hh;cases hh)
  rw[loadT_plain hp] at e
  obtain ⟨v',e,h3⟩:=loadK_two e
  refine .val e fun R2 kp2 k2=>?_
  rw[hstep]
  simp only[drawnPlace,guardB_true hr,cellsOfPlace,hs,hagg,Option.bind_some]
  rw[loadT_plain hp]
  exact h3 R2 _
end Go.AM
end
section
namespace Go.AM
variable {P:Program} {ans:FuncId→Ann} {an:Ann} {R:Type} {r:R}
variable {tm:List Slot} {rs1 rs2:RS} {k1:Slot→RS→Option R} {ops:Array Oper} {prot tk:Bool} {cf:Oracle} {o:Oper}
variable {dst:Option Nat} {ty:TypeId} {pos:String} {aft:Array Edge} {gd:Option (Nat×Bool)} {kp:AVal→RS→Option R} {l:List Nat}
theorem opS_put {x:Operand} {t:Nat} {v:Slot} (h:agS (opS an.keep tm rs1 x) (opS an.keep tm rs2 x)):agS (opS an.keep tm (rs1.put t v) x) (opS an.keep tm (rs2.put t v) x):=by
 cases x with
 |tmp u =>
  show agS (RS.look an.keep tm (rs1.put t v) u) (RS.look an.keep tm (rs2.put t v) u)
  rw[look_put,look_put]
  by_cases hu:u=t
  ·subst hu;rw[upd_same,upd_same];exact .inl rfl
  ·rw[upd_other _ _ hu,upd_other _ _ hu];exact h
 |const c=>exact h
 |global g=>exact h
 |func f=>exact h
theorem argsA_two:∀ {xs:List Operand} {rs1 rs2:RS} {own:List Nat} {i:Nat} {k:List Slot→RS→Option R},(∀ x∈xs,agS (opS an.keep tm rs1 x) (opS an.keep tm rs2 x))→argsA an.keep tm rs1 own i xs k=some r →
  ∃ l puts,k l ⟨puts++rs1.sc,rs1.sto⟩=some r∧(∀ (R2:Type) (k2:List Slot→RS→Option R2),argsA an.keep tm rs2 own i xs k2=k2 l ⟨puts++rs2.sc,rs2.sto⟩)∧(∀ p∈puts,Operand.tmp p.1∈xs)∧∀ p∈puts,∀ u y,p.2≠.ref u y
 |[],rs1,rs2,own,i,k,h,e=>⟨[],[],e,fun R2 k2=>rfl,by simp,by simp⟩
 |x::xs,rs1,rs2,own,i,k,h,e=>by
  have hx:=h x (by simp)
  simp only[argsA] at e
  split at e
  ·rename_i sz l0 t hc hop
   have h2:=hx.eq (by rw[hop];simp)
   rw[hop] at h2
   obtain ⟨l,puts,e,h3,h4,h5⟩:=argsA_two (rs2:=rs2.put t (.val (.slice l0))) (fun y hy=>opS_put (h y (by simp [hy]))) e
   refine ⟨.own sz l0::l,puts++[(t,.val (.slice l0))],?_,fun R2 k2=>?_,fun p hp=>?_,fun p hp=>?_⟩
   ·rw[List.append_assoc];exact e
   ·simp only[argsA]
    simp only[hc,h2]
    rw[h3,List.append_assoc];rfl
   ·rcases List.mem_append.1 hp with hp|hp
    ·simp [h4 p hp]
    ·simp at hp;subst hp;simp
   ·rcases List.mem_append.1 hp with hp|hp
    ·exact h5 p hp
    ·simp at hp;subst hp;simp
  ·rename_i hc hop
   have h2:=hx.eq (by rw[hop];simp)
   rw[hop] at h2
   obtain ⟨l,puts,e,h3,h4,h5⟩:=argsA_two (rs2:=rs2) (fun y hy=>h y (by simp [hy])) e
   refine ⟨.nl::l,puts,e,fun R2 k2=>?_,fun p hp=>by simp [h4 p hp],h5⟩
   simp only[argsA,hc,h2]
   exact h3 R2 _
  ·rename_i hn1 hn2
   have hs:=hx.eq (fun c hc=>by rw[hc] at e;simp [asV] at e)
   obtain ⟨v,e,h2⟩:=asV_two hx e
   obtain ⟨l,puts,e,h3,h4,h5⟩:=argsA_two (rs2:=rs2) (fun y hy=>h y (by simp [hy])) e
   refine ⟨.val v::l,puts,e,fun R2 k2=>?_,fun p hp=>by simp [h4 p hp],h5⟩
   simp only[argsA,hs]
   rw[hs] at h2
   rw[h2];exact h3 R2 _
theorem lokF_mono {n:Nat} {v:AVal} (h:lokF 0 v=true):lokF n v=true:=by
 cases v <;> simp_all [lokF,Nat.blt_eq]
theorem lok_mono {n:Nat} {v:AVal} (h:lok 0 v=true):lok n v=true:=by
 cases v with
 |agg cs=>exact List.all_eq_true.2 fun c hc=>lokF_mono (List.all_eq_true.1 (show cs.all (lokF 0)=true from h) c hc)
 |func f cs=>exact List.all_eq_true.2 fun c hc=>lokF_mono (List.all_eq_true.1 (show cs.all (lokF 0)=true from h) c hc)
 |bool b=>exact lokF_mono (n:=n) (v:=.bool b) h
 |int k m=>exact lokF_mono (n:=n) (v:=.int k m) h
 |str x=>exact lokF_mono (n:=n) (v:=.str x) h
 |slice x=>exact lokF_mono (n:=n) (v:=.slice x) h
 |nilptr=>exact lokF_mono (n:=n) (v:=.nilptr) h
 |nilfunc=>exact lokF_mono (n:=n) (v:=.nilfunc) h
 |nilmap=>exact lokF_mono (n:=n) (v:=.nilmap) h
 |nilif=>exact lokF_mono (n:=n) (v:=.nilif) h
 |loc i x=>exact lokF_mono (n:=n) (v:=.loc i x) h
 |amap i=>exact lokF_mono (n:=n) (v:=.amap i) h
 |yld i=>exact lokF_mono (n:=n) (v:=.yld i) h
 |cptr x=>exact lokF_mono (n:=n) (v:=.cptr x) h
 |iface t x=>exact lokF_mono (n:=n) (v:=.iface t x) h
 |opq=>exact lokF_mono (n:=n) (v:=.opq) h
theorem slotLok_mono {n:Nat} {s:Slot} (h:slotLok 0 s=true):slotLok n s=true:=by
 cases s with
 |val v=>exact lok_mono h
 |tup vs=>exact List.all_eq_true.2 fun c hc=>lok_mono (List.all_eq_true.1 (show vs.all (lok 0)=true from h) c hc)
 |_=>rfl
end Go.AM
end
