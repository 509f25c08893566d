import Derived.Test.YtdkkaldimefljaaGreatDoorX09
set_option linter.all false
section
namespace Go.AM
variable {P:Program} {ans:FuncId→Ann} {an:Ann} {R:Type} {r:R}
variable {tm:List Slot} {rs1 rs2:RS} {k1:Slot→RS→Option R} {ops:Array Oper} {prot tk:Bool} {cf:Oracle} {o:Oper}
variable {dst:Option Nat} {ty:TypeId} {pos:String} {aft:Array Edge} {gd:Option (Nat×Bool)} {l:List Nat}
theorem callK_two {cc:Callee} {args:List Slot} (e:callK prot cf cc args rs1 (fun _ _=>none) k1=some r)
  (hst:rs2.sto=rs1.sto∨(prot=true∧∃ o:Option Slot,(∀ s,o=some s→slotLok 0 s=true)∧∀ sto,cf cc args sto=o.map fun s=>(.ret s,sto))) :
  ∃ s g,k1 s ⟨rs1.sc,g rs1.sto⟩=some r∧(∀ (R2:Type) (kp2:AVal→RS→Option R2) (k2:Slot→RS→Option R2),callK prot cf cc args rs2 kp2 k2=k2 s ⟨rs2.sc,g rs2.sto⟩)∧(∀ u y,s≠.ref u y)∧(prot=true→g=id):=by
 have nr:∀ s,noRefS s=true→∀ u y,s≠.ref u y:=fun s h u y he=>by subst he;cases h
 cases prot with
 |false =>
  have hst:rs2.sto=rs1.sto:=hst.resolve_right (by simp)
  simp only[callK] at e
  obtain ⟨⟨res,sto'⟩,hc,e⟩:=bind_ok e
  cases res with
  |pan v=>cases e
  |ret s =>
   obtain ⟨hg,e⟩:=guardB_ok e
   refine ⟨s,fun _=>sto',e,fun R2 kp2 k2=>?_,nr s hg,by simp⟩
   simp only[callK,hst,hc,Option.bind_some,guardB_true hg]
 |true =>
  simp only[callK] at e
  obtain ⟨⟨res,sto'⟩,hc,e⟩:=bind_ok e
  cases res with
  |pan v=>cases e
  |ret s =>
   obtain ⟨hg,e⟩:=guardB_ok e
   have hg':=hg
   simp only[Bool.and_eq_true] at hg'
   refine ⟨s,id,e,fun R2 kp2 k2=>?_,nr s hg'.2,fun _=>rfl⟩
   rcases hst with hst|⟨_,o,ho1,ho2⟩
   ·simp only[callK,hst,hc,Option.bind_some,guardB_true hg]
    show k2 s rs2=k2 s ⟨rs2.sc,rs1.sto⟩
    rw[←hst]
   ·rw[ho2] at hc
    obtain ⟨s',hs',he⟩:=Option.map_eq_some_iff.1 hc
    cases he
    have hg2:(slotLok rs2.sto.objs.length s&&noRefS s)=true:=by simp [slotLok_mono (ho1 s hs'),hg'.2]
    simp only[callK,ho2,hs',Option.map_some,Option.bind_some,guardB_true hg2]
    rfl
theorem two_call {c:Call} (hpc:PrimCf ans cf) (h:Agr ans an tm ops prot tk ⟨dst,.call c,ty,pos,aft,gd⟩ rs1 rs2) (e:stepK P ans an true prot l cf tm tk ⟨dst,.call c,ty,pos,aft,gd⟩ rs1 (fun _ _=>none) k1=some r):Two P ans an tm ops prot tk cf ⟨dst,.call c,ty,pos,aft,gd⟩ rs1 rs2 k1 r:=by
 obtain ⟨cal,⟨argl⟩,ats⟩:=c
 simp only[stepK] at e
 split at e
 ·rename_i x
  have hx:=h.opd x (by simp [Op.operands,Call.operands])
  split at e
  ·rename_i hu
   split at e
   ·rename_i s hb
    have h2:=hx.eq (by rw[hb];simp)
    rw[hb] at h2
    exact .val e (fun R2 kp2 k2=>by simp only[stepK,hu,h2])
   ·cases e
  ·rename_i el hu
   obtain ⟨xs,e,h2⟩:=asSl_two hx e
   exact .val e (fun R2 kp2 k2=>by simp only[stepK,hu,h2])
  ·rename_i n el hu
   exact .val e (fun R2 kp2 k2=>by simp only[stepK,hu])
  ·rename_i kt el hu
   split at e
   ·rename_i i hb
    obtain ⟨es,ho,e⟩:=asMap_ok e
    have h2:=hx.eq (by rw[hb];simp)
    rw[hb] at h2
    have hst:stoAg rs1.sto rs2.sto:=h.sto
    have ho2:rs2.sto.objs[i]?=some (.map es):=by
     rcases hst.objs i with h'|⟨c1,c2,h',_⟩
     ·rw[h',ho]
     ·rw[ho] at h';cases h'
    exact .val e (fun R2 kp2 k2=>by simp only[stepK,hu,h2,ho2,asMap])
   ·cases e
  ·cases e
 ·rename_i s x
  have hS:=h.opd s (by simp [Op.operands,Call.operands])
  have hx:=h.opd x (by simp [Op.operands,Call.operands])
  split at e
  ·rename_i el el2 hu1 hu2
   obtain ⟨sz,hsz,e⟩:=bind_ok e
   obtain ⟨z,hz,e⟩:=bind_ok e
   obtain ⟨ys,e,h2⟩:=asSl_two hx e
   obtain ⟨hg,e⟩:=guardB_ok e
   have e3:(∃ sz' xs t,opS an.keep tm rs1 s=.own sz' xs∧s=.tmp t∧guardB (Nat.beq sz sz'&&Nat.ble (xs.length+ys.length) room) (k1 (.own sz (xs++ys)) (rs1.put t (.val (.slice xs))))=some r) ∨
     (∃ xs,opS an.keep tm rs1 s=.full xs∧guardB (xs.all (fun y=>Nat.beq y.cells.length sz)&&Nat.ble (xs.length+ys.length) room) (k1 (.own sz (xs++ys)) rs1)=some r) ∨
     (opS an.keep tm rs1 s=.nl∧guardB (Nat.ble ys.length room) (k1 (.own sz ys) rs1)=some r):=by
    split at e
    ·exact .inl ⟨_,_,_,by assumption,rfl,e⟩
    ·exact .inr (.inl ⟨_,by assumption,e⟩)
    ·exact .inr (.inr ⟨by assumption,e⟩)
    ·cases e
   rcases e3 with ⟨sz',xs,t,hs,hst',e3⟩|⟨xs,hs,e3⟩|⟨hs,e3⟩
   ·subst hst'
    obtain ⟨hg3,e3⟩:=guardB_ok e3
    have h3:=hS.eq (by rw[hs];simp)
    rw[hs] at h3
    refine ⟨.own sz (xs++ys),[(t,.val (.slice xs))],id,e3,fun R2 kp2 k2=>?_,fun p hp=>?_,fun p hp u y=>?_,(fun u y he=>by cases he),rfl⟩
    ·simp only[stepK,hu1,hu2,hsz,hz,Option.bind_some,h2,guardB_true hg,h3,guardB_true hg3];rfl
    ·simp at hp;subst hp;left;simp [cons]
    ·simp at hp;subst hp;simp
   ·obtain ⟨hg3,e3⟩:=guardB_ok e3
    have h3:=hS.eq (by rw[hs];simp)
    rw[hs] at h3
    exact .plain e3 (fun R2 kp2 k2=>by simp only[stepK,hu1,hu2,hsz,hz,Option.bind_some,h2,guardB_true hg,h3,guardB_true hg3]) (fun u y he=>by cases he)
   ·obtain ⟨hg3,e3⟩:=guardB_ok e3
    have h3:=hS.eq (by rw[hs];simp)
    rw[hs] at h3
    exact .plain e3 (fun R2 kp2 k2=>by simp only[stepK,hu1,hu2,hsz,hz,Option.bind_some,h2,guardB_true hg,h3,guardB_true hg3]) (fun u y he=>by cases he)
  ·cases e
 ·rename_i f
  have hf:=h.opd f (by simp [Op.operands,Call.operands])
  have hargs:∀ x∈argl,agS (opS an.keep tm rs1 x) (opS an.keep tm rs2 x):=fun x hx=>h.opd x (by simp [Op.operands,Call.operands,hx])
  have hkeys:∀ (puts:List (Nat×Slot)) (p:Nat×Slot),Operand.tmp p.1∈argl→p.1∈cons an.keep tk ⟨dst,.call ⟨.value f,⟨argl⟩,ats⟩,ty,pos,aft,gd⟩:=fun puts p hp=>by
   simp only[cons,List.mem_filterMap]
   exact ⟨.tmp p.1,hp,rfl⟩
  have fin:∀ (cc:Callee) (args:List Slot) (puts:List (Nat×Slot)),(∀ p∈puts,Operand.tmp p.1∈argl)→(∀ p∈puts,∀ u y,p.2≠.ref u y)→callK prot cf cc args ⟨puts++rs1.sc,rs1.sto⟩ (fun _ _=>none) k1=some r →
    (rs2.sto=rs1.sto∨(prot=true∧∃ o:Option Slot,(∀ s,o=some s→slotLok 0 s=true)∧∀ sto,cf cc args sto=o.map fun s=>(.ret s,sto))) →
    (∀ (R2:Type) (kp2:AVal→RS→Option R2) (k2:Slot→RS→Option R2),stepK P ans an true prot (rootS an.loc ops.toList ops.size (addrOf ⟨dst,.call ⟨.value f,⟨argl⟩,ats⟩,ty,pos,aft,gd⟩)) cf tm tk ⟨dst,.call ⟨.value f,⟨argl⟩,ats⟩,ty,pos,aft,gd⟩ rs2 kp2 k2=callK prot cf cc args ⟨puts++rs2.sc,rs2.sto⟩ kp2 k2) →
    Two P ans an tm ops prot tk cf ⟨dst,.call ⟨.value f,⟨argl⟩,ats⟩,ty,pos,aft,gd⟩ rs1 rs2 k1 r:=fun cc args puts hp1 hp2 e hst hstep=>by
   obtain ⟨s,g,e,h2,h3,h4⟩:=callK_two (rs2:=⟨puts++rs2.sc,rs2.sto⟩) e hst
   refine ⟨s,puts,g,e,fun R2 kp2 k2=>by rw[hstep,h2],fun p hp=>.inl (hkeys puts p (hp1 p hp)),hp2,fun u y he=>absurd he (h3 u y),?_⟩
   simp only[clsOf]
   cases hpr:prot with
   |false=>trivial
   |true =>
    have hg:=h4 hpr
    subst hg
    cases f with
    |func g'=>cases hp:(ans g').prim <;> simp [hp]
    |tmp t=>rfl
    |const v=>rfl
    |global g=>rfl
  split at e
  ·rename_i g caps hb
   have h2:=hf.eq (by rw[hb];simp)
   rw[hb] at h2
   obtain ⟨l',puts,e,h3,h4,h5⟩:=argsA_two hargs e
   refine fin (.fn g) _ puts h4 h5 e ?_ (fun R2 kp2 k2=>by simp only[stepK,h2];exact h3 R2 _)
   have hs:=h.sto
   simp only[clsOf] at hs
   cases hpr:prot with
   |false=>rw[hpr] at hs;exact .inl hs
   |true =>
    rw[hpr] at hs
    cases f with
    |func g' =>
     simp only[opS] at hb
     cases hb
     simp only at hs
     cases hp:(ans g).prim with
     |true=>exact .inr ⟨rfl,hpc g _ hp⟩
     |false=>rw[hp] at hs;exact .inl hs
    |tmp t=>exact .inl hs
    |const v=>exact .inl hs
    |global g=>exact .inl hs
  ·rename_i i hb
   have h2:=hf.eq (by rw[hb];simp)
   rw[hb] at h2
   obtain ⟨l',puts,e,h3,h4,h5⟩:=argsA_two hargs e
   refine fin (.yld i) _ puts h4 h5 e ?_ (fun R2 kp2 k2=>by simp only[stepK,h2];exact h3 R2 _)
   have hs:=h.sto
   simp only[clsOf] at hs
   cases hpr:prot with
   |false=>rw[hpr] at hs;exact .inl hs
   |true =>
    rw[hpr] at hs
    cases f with
    |func g'=>simp only[opS] at hb;cases hb
    |tmp t=>exact .inl hs
    |const v=>exact .inl hs
    |global g=>exact .inl hs
  ·cases e
 ·cases e
end Go.AM
end
section
namespace Go.AM
variable {P:Program} {ans:FuncId→Ann} {an:Ann} {R:Type} {r:R}
variable {tm:List Slot} {rs1 rs2:RS} {k1:Slot→RS→Option R} {ops:Array Oper} {prot tk:Bool} {cf:Oracle}
theorem stepK_two {o:Oper} (hpc:PrimCf ans cf) (h:Agr ans an tm ops prot tk o rs1 rs2) (e:stepK P ans an true prot (rootS an.loc ops.toList ops.size (addrOf o)) cf tm tk o rs1 (fun _ _=>none) k1=some r):Two P ans an tm ops prot tk cf o rs1 rs2 k1 r:=by
 obtain ⟨d,op,ty,pos,aft,gd⟩:=o
 cases op
 case move=>exact two_move h e
 case assign=>exact two_assign h e
 case pick=>exact two_pick h e
 case alloc=>exact two_alloc h e
 case box=>exact two_box h e
 case build=>exact two_build h e
 case buildSlice=>exact two_buildSlice h e
 case load=>exact two_load h e
 case store=>exact two_store h e
 case nilCheck=>exact two_nilCheck h e
 case binOp=>exact two_binOp h e
 case unOp=>exact two_unOp h e
 case convert=>exact two_convert h e
 case fieldAddr=>exact two_fieldAddr h e
 case field=>exact two_field h e
 case indexAddr=>exact two_indexAddr h e
 case index=>exact two_index h e
 case slice=>exact two_slice h e
 case makeInterface=>exact two_makeInterface h e
 case makeFunc=>exact two_makeFunc h e
 case makeMap=>exact two_makeMap h e
 case lookup=>exact two_lookup h e
 case mapUpdate=>exact two_mapUpdate h e
 case extract=>exact two_extract h e
 case call=>exact two_call hpc h e
 all_goals (simp [stepK] at e)
end Go.AM
end
section
namespace Go.AM
variable {P:Program} {ans:FuncId→Ann} {an:Ann} {R:Type} {r:R}
variable {tm:List Slot} {rs1 rs2:RS} {ops:Array Oper} {prot tk:Bool} {cf:Oracle} {o:Oper} {rid i:Nat}
def RefIn (ops:Array Oper) (rs:RS):Prop:=∀ t u x,alook rs.sc t=some (.ref u x)→∃ o∈ops.toList,addrTmp o=some u
theorem alook_mem2:∀ {sc:List (Nat×Slot)} {t:Nat} {s:Slot},alook sc t=some s→(t,s)∈sc
 |[],t,s,h=>by simp [alook] at h
 |(k,x)::sc,t,s,h=>by
  simp only[alook] at h
  cases hk:Nat.beq k t with
  |true =>
   rw[hk] at h
   have:=Nat.eq_of_beq_eq_true hk
   subst this
   cases h
   simp
  |false =>
   rw[hk] at h
   exact List.mem_cons_of_mem _ (alook_mem2 h)
theorem alook_none:∀ {sc:List (Nat×Slot)} {t:Nat},(∀ p∈sc,p.1≠t)→alook sc t=none
 |[],t,h=>rfl
 |(k,x)::sc,t,h=>by
  simp only[alook]
  cases hk:Nat.beq k t with
  |true=>exact absurd (Nat.eq_of_beq_eq_true hk) (h (k,x) (by simp))
  |false=>exact alook_none fun p hp=>h p (by simp [hp])
theorem look_app {puts:List (Nat×Slot)} {rs:RS} {g:Sto→Sto} (t:Nat):RS.look an.keep tm ⟨puts++rs.sc,g rs.sto⟩ t=match alook puts t with|some s=>s|none=>rs.look an.keep tm t:=by
 unfold RS.look
 rw[alook_append]
 cases alook puts t <;> rfl
theorem RefIn.noRefTo {rs:RS} (h:RefIn ops rs) {d:Nat} (hd:∀ o∈ops.toList,addrTmp o≠some d):noRefTo d rs.sc=true:=by
 refine List.all_eq_true.2 fun p _=>?_
 split
 ·rename_i u x hl
  obtain ⟨o,ho,hu⟩:=h _ _ _ hl
  have hne:u≠d:=fun e=>hd o ho (by rw[hu,e])
  cases hb:Nat.beq u d with
  |true=>exact absurd (Nat.eq_of_beq_eq_true hb) hne
  |false=>rfl
 ·rfl
structure AgrO (ans:FuncId→Ann) (an:Ann) (tm:List Slot) (ops:Array Oper) (prot tk:Bool) (o:Oper) (rs1 rs2:RS):Prop where
 rd:∀ t∈rdS ops o,agS (rs1.look an.keep tm t) (rs2.look an.keep tm t)
 rb:∀ u∈rdB an.loc ops o,∀ c,rs1.look an.keep tm u=.box c→∃ c2,rs2.look an.keep tm u=.box c2∧c2.map Cell.get=c.map Cell.get
 wb:∀ u,(u∈wrB an.loc ops o∨u∈tkB an.loc ops tk o)→rs2.look an.keep tm u=rs1.look an.keep tm u
 sto:match clsOf ans an.loc ops prot tk o with
  |.p=>True
  |.r=>stoAg rs1.sto rs2.sto
  |_=>rs2.sto=rs1.sto
theorem AgrO.agr (h:AgrO ans an tm ops prot tk o rs1 rs2):Agr ans an tm ops prot tk o rs1 rs2 :=
 ⟨fun x hx=>by
  cases x with
  |tmp t=>exact h.rd t (mem_rdS rfl hx)
  |const v=>exact .inl rfl
  |global g=>exact .inl rfl
  |func f=>exact .inl rfl,h.rb,h.wb,h.sto⟩
structure EffO (ans:FuncId→Ann) (an:Ann) (tm:List Slot) (ops:Array Oper) (prot tk:Bool) (o:Oper) (rs1:RS) (puts:List (Nat×Slot)) (g:Sto→Sto):Prop where
 keys:∀ p∈puts,p.1∈o.dst.toList∨p.1∈cons an.keep tk o∨(p.1∈wrB an.loc ops o∧∃ c c',rs1.look an.keep tm p.1=.box c∧p.2=.box c')∨(p.1∈tkB an.loc ops tk o∧∃ c c',rs1.look an.keep tm p.1=.box c∧p.2=.box c'∧c'.map Cell.get=c.map Cell.get) ∨
  (p.1∈rdS ops o∧∃ b,p.2=.val (.bool b)∧rs1.look an.keep tm p.1=.val (.bool b))
 ref:∀ p∈puts,∀ u x,p.2=.ref u x→∃ o'∈ops.toList,addrTmp o'=some u
 sto:match clsOf ans an.loc ops prot tk o with
  |.t=>stoAg rs1.sto (g rs1.sto)
  |.w=>True
  |.x=>True
  |_=>g=id
theorem RefIn.look (h:RefIn ops rs1) (hn:noRef tm) {t u x:Nat} (hl:rs1.look an.keep tm t=.ref u x):∃ o∈ops.toList,addrTmp o=some u:=by
 obtain ⟨p,_,hp⟩:=look_ref (an:=an) hn hl
 exact h _ _ _ hp
theorem RefIn.app {puts:List (Nat×Slot)} {g:Sto→Sto} (h:RefIn ops rs1) (hp:∀ p∈puts,∀ u x,p.2=.ref u x→∃ o'∈ops.toList,addrTmp o'=some u):RefIn ops ⟨puts++rs1.sc,g rs1.sto⟩:=fun t u x hl=>by
 rw[alook_append] at hl
 cases ha:alook puts t with
 |some s=>rw[ha] at hl;cases hl;exact hp _ (alook_mem2 ha) u x rfl
 |none=>rw[ha] at hl;exact h t u x hl
end Go.AM
end
section
namespace Go.AM
variable {P:Program} {ans:FuncId→Ann} {an:Ann} {R:Type} {r:R}
variable {tm:List Slot} {rs1 rs2:RS} {ops:Array Oper} {prot tk:Bool} {cf:Oracle} {o:Oper} {rid i:Nat}
def dput (o:Oper) (s:Slot):List (Nat×Slot):=match o.dst with|some d=>[(d,s)]|none=>[]
theorem putO_eq (rs:RS) (o:Oper) (s:Slot):rs.putO o.dst s=⟨dput o s++rs.sc,rs.sto⟩:=by
 unfold RS.putO dput
 cases o.dst <;> rfl
theorem dstOk_two {s:Slot} {rs:RS} (hd:∀ d,o.dst=some d→an.loc.contains d=true→∀ o'∈ops.toList,addrTmp o'≠some d) (h:dstOk an o s rs1=true) (h2:RefIn ops rs):dstOk an o s rs=true:=by
 unfold dstOk at h ⊢
 cases hod:o.dst with
 |none=>rfl
 |some d =>
  rw[hod] at h
  simp only[Bool.and_eq_true,Bool.or_eq_true,Bool.not_eq_true'] at h ⊢
  refine ⟨h.1,?_⟩
  cases hl:an.loc.contains d with
  |false=>exact .inl rfl
  |true=>exact .inr (h2.noRefTo (hd d hod hl))
theorem sameLook {rs:RS} {d:Nat} {b:Bool} (h:rs.look an.keep tm d=.val (.bool b)) (t:Nat):RS.look an.keep tm (rs.put d (.val (.bool b))) t=rs.look an.keep tm t:=by
 rw[look_put]
 by_cases ht:t=d
 ·subst ht;rw[upd_same,h]
 ·rw[upd_other _ _ ht]
theorem RefIn.putB (h:RefIn ops rs1) (d:Nat) (b:Bool):RefIn ops (rs1.put d (.val (.bool b))) :=
 RefIn.app (puts:=[(d,.val (.bool b))]) (g:=id) h fun p hp u x he=>by
  simp at hp;subst hp;cases he
theorem oneK_two {next:RS→Option R} (hpc:PrimCf ans cf) (hn:noRef tm) (ho:o∈ops.toList) (hd:∀ d,o.dst=some d→an.loc.contains d=true→∀ o'∈ops.toList,addrTmp o'≠some d)
  (hA:AgrO ans an tm ops (an.pure.contains (rid,i)) (an.take.contains (rid,i)) o rs1 rs2) (h1:RefIn ops rs1) (h2:RefIn ops rs2) (e:oneK P ans an true cf tm rid ops (fun _ _=>none) o i rs1 next=some r) :
  ∃ puts g,next ⟨puts++rs1.sc,g rs1.sto⟩=some r∧(∀ (R2:Type) (next2:RS→Option R2),oneK P ans an true cf tm rid ops (fun _ _=>none) o i rs2 next2=next2 ⟨puts++rs2.sc,g rs2.sto⟩) ∧
   EffO ans an tm ops (an.pure.contains (rid,i)) (an.take.contains (rid,i)) o rs1 puts g:=by
 have refs:∀ (rs:RS) (s:Slot),(∀ t,rs.look an.keep tm t=rs1.look an.keep tm t)→(∀ u x,s=.ref u x→addrTmp o=some u∨∃ t∈rdS ops o,∃ y,rs.look an.keep tm t=.ref u y)→∀ u x,s=.ref u x→∃ o'∈ops.toList,addrTmp o'=some u:=fun rs s hl h u x he=>by
  rcases h u x he with h'|⟨t,_,y,h'⟩
  ·exact ⟨o,ho,h'⟩
  ·rw[hl] at h';exact h1.look hn h'
 have go:∀ (rs1' rs2':RS) (pg:List (Nat×Slot)),rs1'=⟨pg++rs1.sc,rs1.sto⟩→rs2'=⟨pg++rs2.sc,rs2.sto⟩→(∀ t,rs1'.look an.keep tm t=rs1.look an.keep tm t)→(∀ t,rs2'.look an.keep tm t=rs2.look an.keep tm t)→RefIn ops rs2' →
   (∀ p∈pg,p.1∈rdS ops o∧∃ b,p.2=.val (.bool b)∧rs1.look an.keep tm p.1=.val (.bool b)) →
   stepK P ans an true (an.pure.contains (rid,i)) (rootS an.loc ops.toList ops.size (addrOf o)) cf tm (an.take.contains (rid,i)) o rs1' (fun _ _=>none) (fun s rs'=>guardB (dstOk an o s rs') (next (rs'.putO o.dst s)))=some r →
   ∃ puts g,next ⟨puts++rs1.sc,g rs1.sto⟩=some r∧(∀ (R2:Type) (next2:RS→Option R2),stepK P ans an true (an.pure.contains (rid,i)) (rootS an.loc ops.toList ops.size (addrOf o)) cf tm (an.take.contains (rid,i)) o rs2' (fun _ _=>none) (fun s rs'=>guardB (dstOk an o s rs') (next2 (rs'.putO o.dst s)))=next2 ⟨puts++rs2.sc,g rs2.sto⟩) ∧
    EffO ans an tm ops (an.pure.contains (rid,i)) (an.take.contains (rid,i)) o rs1 puts g:=fun rs1' rs2' pg hr1 hr2 hl1 hl2 hR2 hpg e=>by
  have hA':AgrO ans an tm ops (an.pure.contains (rid,i)) (an.take.contains (rid,i)) o rs1' rs2':=by
   refine ⟨fun t ht=>by rw[hl1,hl2];exact hA.rd t ht,fun u hu c hc=>by rw[hl1] at hc;rw[hl2];exact hA.rb u hu c hc,fun u hu=>by rw[hl1,hl2];exact hA.wb u hu,?_⟩
   subst hr1 hr2;exact hA.sto
  obtain ⟨s,puts,g,e,h3,hE⟩:=stepK_two hpc hA'.agr e
  obtain ⟨hg,e⟩:=guardB_ok e
  have hRf:=refs rs1' s hl1 hE.ref
  have hR2':RefIn ops ⟨puts++rs2'.sc,g rs2'.sto⟩:=hR2.app fun p hp u x he=>absurd he (hE.vals p hp u x)
  refine ⟨dput o s++(puts++pg),g,?_,fun R2 next2=>?_,fun p hp=>?_,fun p hp u x he=>?_,?_⟩
  ·rw[putO_eq] at e
   subst hr1
   simpa [List.append_assoc] using e
  ·rw[h3,guardB_true (dstOk_two hd hg hR2'),putO_eq]
   subst hr2
   simp [List.append_assoc]
  ·rcases List.mem_append.1 hp with hp|hp
   ·left
    unfold dput at hp
    cases hod:o.dst with
    |none=>rw[hod] at hp;simp at hp
    |some d=>rw[hod] at hp;simp at hp;subst hp;simp
   ·rcases List.mem_append.1 hp with hp|hp
    ·rcases hE.keys p hp with hk|⟨hk,c,c',h5,h6⟩|⟨hk,c,c',h5,h6,h7⟩
     ·exact .inr (.inl hk)
     ·exact .inr (.inr (.inl ⟨hk,c,c',by rw[←hl1];exact h5,h6⟩))
     ·exact .inr (.inr (.inr (.inl ⟨hk,c,c',by rw[←hl1];exact h5,h6,h7⟩)))
    ·exact .inr (.inr (.inr (.inr (hpg p hp))))
  ·rcases List.mem_append.1 hp with hp|hp
   ·unfold dput at hp
    cases hod:o.dst with
    |none=>rw[hod] at hp;simp at hp
    |some d=>rw[hod] at hp;simp at hp;subst hp;exact hRf u x he
   ·rcases List.mem_append.1 hp with hp|hp
    ·exact absurd he (hE.vals p hp u x)
    ·obtain ⟨_,b,hb,_⟩:=hpg p hp
     rw[hb] at he;cases he
  ·have:=hE.sto
   subst hr1;exact this
 unfold oneK at e
 simp only at e
 split at e
 ·rename_i hg
  obtain ⟨puts,g,a1,a2,a3⟩:=go rs1 rs2 [] rfl rfl (fun _=>rfl) (fun _=>rfl) h2 (by simp) e
  exact ⟨puts,g,a1,fun R2 next2=>by rw[←a2 R2 next2];simp only[oneK,hg],a3⟩
 ·rename_i j want hg
  split at e
  ·cases e
  ·rename_i d hdd
   have hdr:d∈rdS ops o:=by simp [rdS,hg,hdd]
   have hgk:(∃ bb,rs1.look an.keep tm d=.val (.bool bb)∧(match bb==want with
     |true=>stepK P ans an true (an.pure.contains (rid,i)) (rootS an.loc ops.toList ops.size (addrOf o)) cf tm (an.take.contains (rid,i)) o (rs1.put d (.val (.bool bb))) (fun _ _=>none) (fun s rs'=>guardB (dstOk an o s rs') (next (rs'.putO o.dst s)))
     |false=>guardB (dstOk an o .dead rs1) (next ((rs1.put d (.val (.bool bb))).putO o.dst (.tup []))))=some r) ∨
     (rs1.look an.keep tm d=.tup []∧guardB (dstOk an o .dead rs1) (next (rs1.putO o.dst (.tup [])))=some r):=by
    unfold guardK at e
    split at e
    ·rename_i bb hb
     exact .inl ⟨bb,hb,by cases bb <;> cases want <;> exact e⟩
    ·rename_i hb
     exact .inr ⟨hb,e⟩
    ·cases e
   rcases hgk with ⟨bb,hs1,e⟩|⟨hs1,e⟩
   rotate_left
   ·have hs2:rs2.look an.keep tm d=.tup []:=((hA.rd d hdr).eq (by rw[hs1];simp)).trans hs1
    obtain ⟨hok,e⟩:=guardB_ok e
    refine ⟨dput o (.tup []),id,?_,fun R2 next2=>?_,fun p hp=>?_,fun p hp u x he=>?_,?_⟩
    ·rw[putO_eq] at e;exact e
    ·simp only[oneK,hg,hdd,hs2,guardK]
     have hok2:=dstOk_two hd hok h2
     simp only[guardB_true hok2,putO_eq];rfl
    ·left
     unfold dput at hp
     cases hod:o.dst with
     |none=>rw[hod] at hp;simp at hp
     |some d'=>rw[hod] at hp;simp at hp;subst hp;simp
    ·unfold dput at hp
     cases hod:o.dst with
     |none=>rw[hod] at hp;simp at hp
     |some d'=>rw[hod] at hp;simp at hp;subst hp;cases he
    ·split <;> first|rfl|trivial|exact stoAg.refl _
   have hs2:rs2.look an.keep tm d=.val (.bool bb):=((hA.rd d hdr).eq (by rw[hs1];simp)).trans hs1
   cases hbw:bb==want with
   |true =>
    rw[hbw] at e
    obtain ⟨puts,g,a1,a2,a3⟩:=go (rs1.put d (.val (.bool bb))) (rs2.put d (.val (.bool bb))) [(d,.val (.bool bb))] rfl rfl (sameLook hs1) (sameLook hs2) (h2.putB d bb) (fun p hp=>by simp at hp;subst hp;exact ⟨hdr,bb,rfl,hs1⟩) e
    refine ⟨puts,g,a1,fun R2 next2=>?_,a3⟩
    rw[←a2 R2 next2]
    simp only[oneK,hg,hdd,hs2,guardK]
    cases bb <;> simp only[cond_true,cond_false,hbw]
   |false =>
    rw[hbw] at e
    obtain ⟨hok,e⟩:=guardB_ok e
    refine ⟨dput o (.tup [])++[(d,.val (.bool bb))],id,?_,fun R2 next2=>?_,fun p hp=>?_,fun p hp u x he=>?_,?_⟩
    ·rw[putO_eq] at e
     rw[List.append_assoc];exact e
    ·simp only[oneK,hg,hdd,hs2,guardK]
     have hok2:=dstOk_two hd hok h2
     cases bb <;> simp only[cond_true,cond_false,hbw,guardB_true hok2,putO_eq,List.append_assoc] <;> rfl
    ·rcases List.mem_append.1 hp with hp|hp
     ·left
      unfold dput at hp
      cases hod:o.dst with
      |none=>rw[hod] at hp;simp at hp
      |some d'=>rw[hod] at hp;simp at hp;subst hp;simp
     ·simp at hp;subst hp;exact .inr (.inr (.inr (.inr ⟨hdr,bb,rfl,hs1⟩)))
    ·rcases List.mem_append.1 hp with hp|hp
     ·unfold dput at hp
      cases hod:o.dst with
      |none=>rw[hod] at hp;simp at hp
      |some d'=>rw[hod] at hp;simp at hp;subst hp;cases he
     ·simp at hp;subst hp;cases he
    ·split <;> first|rfl|trivial|exact stoAg.refl _
end Go.AM
end
section
namespace Go.AM
variable {P:Program} {ans:FuncId→Ann} {an:Ann} {R:Type} {r:R}
variable {tm:List Slot} {rs1 rs2:RS} {ops:Array Oper} {prot tk:Bool} {cf:Oracle} {o:Oper} {rid i:Nat}
def RSeq (a b:RS):Prop:=(∀ t,alook a.sc t=alook b.sc t)∧a.sto=b.sto
theorem RSeq.refl (a:RS):RSeq a a:=⟨fun _=>rfl,rfl⟩
theorem RSeq.symm {a b:RS} (h:RSeq a b):RSeq b a:=⟨fun t=>(h.1 t).symm,h.2.symm⟩
theorem RSeq.trans {a b c:RS} (h:RSeq a b) (k:RSeq b c):RSeq a c:=⟨fun t=>(h.1 t).trans (k.1 t),h.2.trans k.2⟩
theorem RSeq.look {a b:RS} (h:RSeq a b) (t:Nat):b.look an.keep tm t=a.look an.keep tm t:=by
 unfold RS.look
 rw[h.1 t]
theorem RSeq.agrO {a b:RS} (h:RSeq a b):AgrO ans an tm ops prot tk o a b:=by
 refine ⟨fun t _=>.inl (h.look t),fun u _ c hc=>⟨c,(h.look u).trans hc,rfl⟩,fun u _=>h.look u,?_⟩
 split
 ·trivial
 ·rw[h.2];exact stoAg.refl _
 ·exact h.2.symm
theorem RSeq.refIn {a b:RS} (h:RSeq a b) (hr:RefIn ops a):RefIn ops b:=fun t u x hl=>hr t u x (by rw[h.1 t];exact hl)
theorem RSeq.app {a b:RS} (h:RSeq a b) (puts:List (Nat×Slot)) (g:Sto→Sto):RSeq ⟨puts++a.sc,g a.sto⟩ ⟨puts++b.sc,g b.sto⟩ :=
 ⟨fun t=>by simp only[alook_append,h.1 t],by simp only[h.2]⟩
theorem meets_false {l m:List Nat} (h:meets l m=false) {t:Nat} (hl:t∈l):t∉m:=fun hm=>by
 have:meets l m=true:=List.any_eq_true.2 ⟨t,hl,by simpa using hm⟩
 rw[h] at this;cases this
structure Half (keep loc:List Nat) (ops:Array Oper) (ta tb:Bool) (a b:Oper):Prop where
 hw:∀ t,t∈a.dst.toList∨t∈cons keep ta a→t∉rdS ops b∧t∉rdB loc ops b∧t∉b.dst.toList∧t∉cons keep tb b
 hb:∀ t∈wrB loc ops a,t∉rdB loc ops b
 ht:∀ t∈tkB loc ops ta a,t∉tkB loc ops tb b∧t∉wrB loc ops b
theorem half_of {keep loc:List Nat} {ta tb:Bool} {a b:Oper} (h:halfClash keep loc ops ta tb a b=false):Half keep loc ops ta tb a b:=by
 unfold halfClash at h
 simp only[Bool.or_eq_false_iff] at h
 obtain ⟨⟨h1,h2⟩,h3⟩:=h
 refine ⟨fun t ht=>?_,fun t ht=>meets_false h2 ht,fun t ht=>?_⟩
 ·have:=meets_false h1 (t:=t) (by simpa using ht)
  simp only[List.mem_append,not_or] at this
  exact ⟨this.1.1.1,this.1.1.2,this.1.2,this.2⟩
 ·have:=meets_false h3 ht
  simp only[List.mem_append,not_or] at this
  exact this
end Go.AM
end
section
namespace Go.AM
variable {ans:FuncId→Ann} {an:Ann} {tm:List Slot} {rs:RS} {ops:Array Oper} {po pa ta tb:Bool} {o a:Oper} {puts:List (Nat×Slot)} {g:Sto→Sto}
theorem after_look (hE:EffO ans an tm ops po ta o rs puts g) (H:Half an.keep an.loc ops ta tb o a) {t:Nat} (ht:t∉o.dst.toList) (hc:t∉cons an.keep ta o) :
  RS.look an.keep tm ⟨puts++rs.sc,g rs.sto⟩ t=rs.look an.keep tm t∨(t∈wrB an.loc ops o∧∃ c c',rs.look an.keep tm t=.box c∧RS.look an.keep tm ⟨puts++rs.sc,g rs.sto⟩ t=.box c') ∨
   (t∈tkB an.loc ops ta o∧∃ c c',rs.look an.keep tm t=.box c∧RS.look an.keep tm ⟨puts++rs.sc,g rs.sto⟩ t=.box c'∧c'.map Cell.get=c.map Cell.get):=by
 rw[look_app]
 cases hal:alook puts t with
 |none=>exact .inl rfl
 |some s =>
  have hm:=alook_mem2 hal
  rcases hE.keys _ hm with h|h|⟨h,c,c',h1,h2⟩|⟨h,c,c',h1,h2,h3⟩|⟨_,b,h1,h2⟩
  ·exact absurd h ht
  ·exact absurd h hc
  ·exact .inr (.inl ⟨h,c,c',h1,h2⟩)
  ·exact .inr (.inr ⟨h,c,c',h1,h2,h3⟩)
  ·exact .inl (by show s=_;rw[show s=.val (.bool b) from h1];exact h2.symm)
theorem wrB_rdB {loc:List Nat} {t:Nat} (h:t∈wrB loc ops a):t∈rdB loc ops a:=by
 unfold wrB at h
 unfold rdB
 split at h
 ·rename_i he;simp only[he];exact h
 ·simp at h
theorem tkB_rdB {loc:List Nat} {t:Nat} (h:t∈tkB loc ops tb a):t∈rdB loc ops a:=by
 unfold tkB at h
 unfold rdB
 split at h
 ·rename_i he
  simp only[he]
  split at h
  ·exact h
  ·simp at h
 ·simp at h
theorem agr_after (hE:EffO ans an tm ops po ta o rs puts g) (H:Half an.keep an.loc ops ta tb o a) (hst:match clsOf ans an.loc ops pa tb a with
  |.p=>True
  |.r=>stoAg (g rs.sto) rs.sto
  |_=>rs.sto=g rs.sto):AgrO ans an tm ops pa tb a ⟨puts++rs.sc,g rs.sto⟩ rs:=by
 have nd:∀ t,t∈rdS ops a∨t∈rdB an.loc ops a→t∉o.dst.toList∧t∉cons an.keep ta o:=fun t ht =>
  ⟨fun h=>by have:=H.hw t (.inl h);rcases ht with ht|ht;exact this.1 ht;exact this.2.1 ht,fun h=>by have:=H.hw t (.inr h);rcases ht with ht|ht;exact this.1 ht;exact this.2.1 ht⟩
 refine ⟨fun t ht=>?_,fun u hu c hc=>?_,fun u hu=>?_,hst⟩
 ·obtain ⟨h1,h2⟩:=nd t (.inl ht)
  rcases after_look hE H h1 h2 with h|⟨_,c,c',h3,h4⟩|⟨_,c,c',h3,h4,_⟩
  ·exact .inl h.symm
  ·exact .inr ⟨c',c,h4,h3⟩
  ·exact .inr ⟨c',c,h4,h3⟩
 ·obtain ⟨h1,h2⟩:=nd u (.inr hu)
  rcases after_look hE H h1 h2 with h|⟨h,_⟩|⟨_,c1,c',h3,h4,h5⟩
  ·rw[h] at hc;exact ⟨c,hc,rfl⟩
  ·exact absurd hu (H.hb u h)
  ·rw[h4] at hc;cases hc;exact ⟨c1,h3,h5.symm⟩
 ·have hrb:u∈rdB an.loc ops a:=hu.elim wrB_rdB tkB_rdB
  obtain ⟨h1,h2⟩:=nd u (.inr hrb)
  rcases after_look hE H h1 h2 with h|⟨h,_⟩|⟨h,_⟩
  ·exact h.symm
  ·exact absurd hrb (H.hb u h)
  ·rcases hu with hu|hu
   ·exact absurd hu (H.ht u h).2
   ·exact absurd hu (H.ht u h).1
end Go.AM
end
section
namespace Go.AM
variable {ans:FuncId→Ann} {an:Ann} {tm:List Slot} {rs rs0:RS} {ops:Array Oper} {po pa ta tb:Bool} {o a:Oper} {puts:List (Nat×Slot)} {g:Sto→Sto}
theorem agr_before (hE:EffO ans an tm ops pa tb a rs0 puts g) (H:Half an.keep an.loc ops tb ta a o) (hbox:∀ u,(u∈wrB an.loc ops a∨u∈tkB an.loc ops tb a∨u∈rdS ops a)→agS (rs0.look an.keep tm u) (rs.look an.keep tm u)∧((u∈wrB an.loc ops a∨u∈tkB an.loc ops tb a)→rs.look an.keep tm u=rs0.look an.keep tm u))
  (hst:match clsOf ans an.loc ops po ta o with
  |.p=>True
  |.r=>stoAg rs.sto (g rs.sto)
  |_=>g rs.sto=rs.sto):AgrO ans an tm ops po ta o rs ⟨puts++rs.sc,g rs.sto⟩:=by
 have look:∀ t,t∉a.dst.toList→t∉cons an.keep tb a→RS.look an.keep tm ⟨puts++rs.sc,g rs.sto⟩ t=rs.look an.keep tm t∨(t∈wrB an.loc ops a∧∃ c c',rs.look an.keep tm t=.box c∧RS.look an.keep tm ⟨puts++rs.sc,g rs.sto⟩ t=.box c') ∨
   (t∈tkB an.loc ops tb a∧∃ c c',rs.look an.keep tm t=.box c∧RS.look an.keep tm ⟨puts++rs.sc,g rs.sto⟩ t=.box c'∧c'.map Cell.get=c.map Cell.get):=fun t h1 h2=>by
  rw[look_app]
  cases hal:alook puts t with
  |none=>exact .inl rfl
  |some s =>
   have hm:=alook_mem2 hal
   rcases hE.keys _ hm with h|h|⟨h,c,c',h3,h4⟩|⟨h,c,c',h3,h4,h5⟩|⟨h,b,h3,h4⟩
   ·exact absurd h h1
   ·exact absurd h h2
   ·exact .inr (.inl ⟨h,c,c',by rw[(hbox t (.inl h)).2 (.inl h)];exact h3,h4⟩)
   ·exact .inr (.inr ⟨h,c,c',by rw[(hbox t (.inr (.inl h))).2 (.inr h)];exact h3,h4,h5⟩)
   ·left
    have h6:=(hbox t (.inr (.inr h))).1.eq (by rw[show rs0.look an.keep tm t=.val (.bool b) from h4];simp)
    show s=_
    rw[show s=.val (.bool b) from h3,h6];exact h4.symm
 have nd:∀ t,t∈rdS ops o∨t∈rdB an.loc ops o→t∉a.dst.toList∧t∉cons an.keep tb a:=fun t ht =>
  ⟨fun h=>by have:=H.hw t (.inl h);rcases ht with ht|ht;exact this.1 ht;exact this.2.1 ht,fun h=>by have:=H.hw t (.inr h);rcases ht with ht|ht;exact this.1 ht;exact this.2.1 ht⟩
 refine ⟨fun t ht=>?_,fun u hu c hc=>?_,fun u hu=>?_,hst⟩
 ·obtain ⟨h1,h2⟩:=nd t (.inl ht)
  rcases look t h1 h2 with h|⟨_,c,c',h3,h4⟩|⟨_,c,c',h3,h4,_⟩
  ·exact .inl h
  ·exact .inr ⟨c,c',h3,h4⟩
  ·exact .inr ⟨c,c',h3,h4⟩
 ·obtain ⟨h1,h2⟩:=nd u (.inr hu)
  rcases look u h1 h2 with h|⟨h,_⟩|⟨_,c1,c',h3,h4,h5⟩
  ·exact ⟨c,by rw[h];exact hc,rfl⟩
  ·exact absurd hu (H.hb u h)
  ·rw[h3] at hc;cases hc;exact ⟨c',h4,h5⟩
 ·have hrb:u∈rdB an.loc ops o:=hu.elim wrB_rdB tkB_rdB
  obtain ⟨h1,h2⟩:=nd u (.inr hrb)
  rcases look u h1 h2 with h|⟨h,_⟩|⟨h,_⟩
  ·exact h
  ·exact absurd hrb (H.hb u h)
  ·rcases hu with hu|hu
   ·exact absurd hu (H.ht u h).2
   ·exact absurd hu (H.ht u h).1
end Go.AM
end
section
namespace Go.AM
variable {P:Program} {ans:FuncId→Ann} {an:Ann} {R:Type} {r:R}
variable {tm:List Slot} {rs:RS} {ops:Array Oper} {po pa ta tb:Bool} {cf:Oracle} {o a:Oper} {g:Sto→Sto}
def effSto (cl:Cls) (s s':Sto):Prop:=match cl with|.t=>stoAg s s'|.w=>True|.x=>True|_=>s'=s
def agrSto (cl:Cls) (s s':Sto):Prop:=match cl with|.p=>True|.r=>stoAg s s'|_=>s'=s
theorem stoAg.symm {s s':Sto} (h:stoAg s s'):stoAg s' s:=⟨h.lo.symm,h.len.symm,fun i=>by
  rcases h.objs i with h'|⟨c1,c2,h1,h2,h3⟩
  ·exact .inl h'.symm
  ·exact .inr ⟨c2,c1,h2,h1,h3.symm⟩⟩
theorem sto_after {co ca:Cls} (hcl:co.clash ca=false) {s s':Sto} (h:effSto co s s'):agrSto ca s' s:=by
 cases co <;> cases ca <;> first
  |trivial
  |(simp [Cls.clash] at hcl;done)
  |exact stoAg.symm h
  |(have h':s'=s:=h;subst h';first|rfl|exact stoAg.refl _)
end Go.AM
end
section
namespace Go.AM
variable {P:Program} {ans:FuncId→Ann} {an:Ann} {R:Type} {r:R}
variable {tm:List Slot} {rs:RS} {ops:Array Oper} {cf:Oracle} {o a:Oper} {rid i j:Nat} {g:Sto→Sto}
def One (P:Program) (ans:FuncId→Ann) (an:Ann) (cf:Oracle) (tm:List Slot) (rid:Nat) (ops:Array Oper) (o:Oper) (i:Nat) (rs rs':RS):Prop :=
 ∀ (R2:Type) (next:RS→Option R2),oneK P ans an true cf tm rid ops (fun _ _=>none) o i rs next=next rs'
structure OpOK (an:Ann) (ops:Array Oper) (o:Oper):Prop where
 mem:o∈ops.toList
 dst:∀ d,o.dst=some d→an.loc.contains d=true→∀ o'∈ops.toList,addrTmp o'≠some d
theorem one_congr (hpc:PrimCf ans cf) (hn:noRef tm) (ho:OpOK an ops o) {next:RS→Option R} {rs2:RS} (hq:RSeq rs rs2) (hR:RefIn ops rs) (e:oneK P ans an true cf tm rid ops (fun _ _=>none) o i rs next=some r) :
  ∃ rs' rs2',One P ans an cf tm rid ops o i rs rs'∧One P ans an cf tm rid ops o i rs2 rs2'∧RSeq rs' rs2'∧RefIn ops rs'∧next rs'=some r:=by
 obtain ⟨puts',g',e1',h2',hE'⟩:=oneK_two hpc hn ho.mem ho.dst (RSeq.refl rs).agrO hR hR e
 have e2:=h2' RS some
 obtain ⟨puts,g,e1,h2,hE⟩:=oneK_two hpc hn ho.mem ho.dst hq.agrO hR (hq.refIn hR) e2
 refine ⟨_,_,h2',h2,?_,hR.app hE'.ref,e1'⟩
 rw[←Option.some.inj e1]
 exact hq.app puts g
end Go.AM
end
section
namespace Go.AM
variable {P:Program} {ans:FuncId→Ann} {an:Ann} {R:Type} {r:R}
variable {tm:List Slot} {rs:RS} {ops:Array Oper} {cf:Oracle} {o a:Oper} {rid i j:Nat} {g:Sto→Sto}
theorem agrSto.symm {c0:Cls} {s s':Sto} (h:agrSto c0 s s'):agrSto c0 s' s:=by
 cases c0 <;> first|trivial|exact stoAg.symm h|exact Eq.symm h
theorem EffO.effSto {prot tk:Bool} {puts:List (Nat×Slot)} (h:EffO ans an tm ops prot tk o rs puts g):AM.effSto (clsOf ans an.loc ops prot tk o) rs.sto (g rs.sto):=by
 have:=h.sto
 unfold AM.effSto
 split at this <;> simp_all
theorem EffO.effId {prot tk:Bool} {puts:List (Nat×Slot)} (h:EffO ans an tm ops prot tk o rs puts g) (hc:clsOf ans an.loc ops prot tk o=.p∨clsOf ans an.loc ops prot tk o=.r∨clsOf ans an.loc ops prot tk o=.c):g=id:=by
 have:=h.sto
 rcases hc with hc|hc|hc <;> (rw[hc] at this;exact this)
theorem puts_comm {ta tb po pa:Bool} {rs0:RS} {p1 p2:List (Nat×Slot)} {g1 g2:Sto→Sto} (h1:EffO ans an tm ops po ta o rs p1 g1) (h2:EffO ans an tm ops pa tb a rs0 p2 g2) (H1:Half an.keep an.loc ops ta tb o a) (H2:Half an.keep an.loc ops tb ta a o)
  (hrd:∀ t,t∈rdS ops o→t∈rdS ops a→∀ b,rs.look an.keep tm t=.val (.bool b)→rs0.look an.keep tm t=.val (.bool b)) (hbx:∀ t c,t∈wrB an.loc ops a∨t∈tkB an.loc ops tb a→rs0.look an.keep tm t=.box c→∃ c',rs.look an.keep tm t=.box c')
  (hbx2:∀ t c,t∈rdS ops a→rs.look an.keep tm t=.box c→∃ c',rs0.look an.keep tm t=.box c') {t:Nat} {s1 s2:Slot} (ha:alook p1 t=some s1) (hb:alook p2 t=some s2):s1=s2:=by
 have k1:=h1.keys _ (alook_mem2 ha)
 have k2:=h2.keys _ (alook_mem2 hb)
 simp only at k1 k2
 have dc:∀ (k:t∈o.dst.toList∨t∈cons an.keep ta o),False:=fun k=>by
  obtain ⟨n1,n2,n3,n4⟩:=H1.hw t k
  rcases k2 with k|k|⟨k,_⟩|⟨k,_⟩|⟨k,_⟩
  ·exact n3 k
  ·exact n4 k
  ·exact n2 (wrB_rdB k)
  ·exact n2 (tkB_rdB k)
  ·exact n1 k
 have dc2:∀ (k:t∈a.dst.toList∨t∈cons an.keep tb a),False:=fun k=>by
  obtain ⟨n1,n2,n3,n4⟩:=H2.hw t k
  rcases k1 with k|k|⟨k,_⟩|⟨k,_⟩|⟨k,_⟩
  ·exact n3 k
  ·exact n4 k
  ·exact n2 (wrB_rdB k)
  ·exact n2 (tkB_rdB k)
  ·exact n1 k
 rcases k1 with k|k|⟨k,c,c',e1,e2⟩|⟨k,c,c',e1,e2,e3⟩|⟨k,b,e1,e2⟩
 ·exact (dc (.inl k)).elim
 ·exact (dc (.inr k)).elim
 ·rcases k2 with m|m|⟨m,_⟩|⟨m,_⟩|⟨m,b',f1,f2⟩
  ·exact (dc2 (.inl m)).elim
  ·exact (dc2 (.inr m)).elim
  ·exact absurd (wrB_rdB m) (H1.hb t k)
  ·exact absurd (tkB_rdB m) (H1.hb t k)
  ·obtain ⟨c2,hc2⟩:=hbx2 t c m e1
   rw[f2] at hc2;cases hc2
 ·rcases k2 with m|m|⟨m,_⟩|⟨m,_⟩|⟨m,b',f1,f2⟩
  ·exact (dc2 (.inl m)).elim
  ·exact (dc2 (.inr m)).elim
  ·exact absurd m (H1.ht t k).2
  ·exact absurd m (H1.ht t k).1
  ·obtain ⟨c2,hc2⟩:=hbx2 t c m e1
   rw[f2] at hc2;cases hc2
 ·rcases k2 with m|m|⟨m,c,c',f1,f2⟩|⟨m,c,c',f1,f2,f3⟩|⟨m,b',f1,f2⟩
  ·exact (dc2 (.inl m)).elim
  ·exact (dc2 (.inr m)).elim
  ·obtain ⟨c2,hc2⟩:=hbx t c (.inl m) f1
   rw[e2] at hc2;cases hc2
  ·obtain ⟨c2,hc2⟩:=hbx t c (.inr m) f1
   rw[e2] at hc2;cases hc2
  ·have:=hrd t k m b e2
   rw[f2] at this;cases this
   rw[e1,f1]
end Go.AM
end
section
namespace Go.AM
variable {P:Program} {ans:FuncId→Ann} {an:Ann} {R:Type} {r:R}
variable {tm:List Slot} {rs:RS} {ops:Array Oper} {cf:Oracle} {o a:Oper} {rid i j:Nat} {g:Sto→Sto}
theorem app_comm {p1 p2 l:List (Nat×Slot)} (h:∀ t s1 s2,alook p1 t=some s1→alook p2 t=some s2→s1=s2) (t:Nat):alook (p2++(p1++l)) t=alook (p1++(p2++l)) t:=by
 simp only[alook_append]
 cases h1:alook p1 t with
 |none=>cases h2:alook p2 t <;> rfl
 |some s1=>cases h2:alook p2 t with
  |none=>rfl
  |some s2=>simp only;rw[h t s1 s2 h1 h2]
theorem agrSto_eq (c0:Cls) (s s':Sto):agrSto c0 s s'=(match c0 with
  |.p=>True
  |.r=>stoAg s s'
  |_=>s'=s):=by cases c0 <;> rfl
theorem comm (hpc:PrimCf ans cf) (hn:noRef tm) (ho:OpOK an ops o) (ha:OpOK an ops a) {next:RS→Option R} (hR:RefIn ops rs)
  (hcl:(clsOf ans an.loc ops (an.pure.contains (rid,i)) (an.take.contains (rid,i)) o).clash (clsOf ans an.loc ops (an.pure.contains (rid,j)) (an.take.contains (rid,j)) a)=false)
  (H1:Half an.keep an.loc ops (an.take.contains (rid,i)) (an.take.contains (rid,j)) o a) (H2:Half an.keep an.loc ops (an.take.contains (rid,j)) (an.take.contains (rid,i)) a o)
  (e:oneK P ans an true cf tm rid ops (fun _ _=>none) o i rs (fun rs'=>oneK P ans an true cf tm rid ops (fun _ _=>none) a j rs' next)=some r) :
  ∃ rs1 rsA rs2,next rs1=some r∧One P ans an cf tm rid ops a j rs rsA∧One P ans an cf tm rid ops o i rsA rs2∧RSeq rs1 rs2∧RefIn ops rs1:=by
 obtain ⟨p1,g1,e1,k1,E1⟩:=oneK_two hpc hn ho.mem ho.dst (RSeq.refl rs).agrO hR hR e
 let rsO:RS:=⟨p1++rs.sc,g1 rs.sto⟩
 have hRO:RefIn ops rsO:=hR.app E1.ref
 have hst1:=sto_after hcl E1.effSto
 have A1:AgrO ans an tm ops (an.pure.contains (rid,j)) (an.take.contains (rid,j)) a rsO rs:=agr_after E1 H1 (Eq.mp (agrSto_eq _ _ _) hst1)
 obtain ⟨p2,g2,e2,k2,E2⟩:=oneK_two hpc hn ha.mem ha.dst A1 hRO hR e1
 let rsA:RS:=⟨p2++rs.sc,g2 rs.sto⟩
 have hRA:RefIn ops rsA:=hR.app E2.ref
 have hid:(∀ p g,EffO ans an tm ops (an.pure.contains (rid,i)) (an.take.contains (rid,i)) o rs p g→g=id)∨g2=id:=by
  generalize hco:clsOf ans an.loc ops (an.pure.contains (rid,i)) (an.take.contains (rid,i)) o=co at hcl
  generalize hca:clsOf ans an.loc ops (an.pure.contains (rid,j)) (an.take.contains (rid,j)) a=ca at hcl
  cases co with
  |p=>exact .inl fun p g h=>h.effId (.inl hco)
  |r=>exact .inl fun p g h=>h.effId (.inr (.inl hco))
  |c=>exact .inl fun p g h=>h.effId (.inr (.inr hco))
  |t=>cases ca with
   |p=>exact .inr (E2.effId (.inl hca))
   |r=>exact .inr (E2.effId (.inr (.inl hca)))
   |_=>simp [Cls.clash] at hcl
  |w=>cases ca with
   |p=>exact .inr (E2.effId (.inl hca))
   |_=>simp [Cls.clash] at hcl
  |x=>cases ca <;> simp [Cls.clash] at hcl
 have hst2:agrSto (clsOf ans an.loc ops (an.pure.contains (rid,i)) (an.take.contains (rid,i)) o) rs.sto (g2 rs.sto):=by
  rcases hid with h|h
  ·have h1:=h _ _ E1
   have h2:=E2.effSto
   have hs:rsO.sto=rs.sto:=by show g1 rs.sto=rs.sto;rw[h1];rfl
   rw[hs] at h2
   generalize clsOf ans an.loc ops (an.pure.contains (rid,i)) (an.take.contains (rid,i)) o=co at hcl
   generalize clsOf ans an.loc ops (an.pure.contains (rid,j)) (an.take.contains (rid,j)) a=ca at hcl h2
   cases co <;> cases ca <;> first
    |trivial
    |(simp [Cls.clash] at hcl;done)
    |exact h2
    |(have h':g2 rs.sto=rs.sto:=h2
      show stoAg rs.sto (g2 rs.sto)
      rw[h'];exact stoAg.refl _)
  ·rw[h]
   unfold agrSto
   split
   ·trivial
   ·exact stoAg.refl _
   ·rfl
 have A2:AgrO ans an tm ops (an.pure.contains (rid,i)) (an.take.contains (rid,i)) o rs rsA:=agr_before E2 H2 (fun u hu=>by
   refine ⟨?_,fun h=>A1.wb u h⟩
   rcases hu with hu|hu|hu
   ·exact .inl (A1.wb u (.inl hu))
   ·exact .inl (A1.wb u (.inr hu))
   ·exact A1.rd u hu) (Eq.mp (agrSto_eq _ _ _) hst2)
 obtain ⟨p1',g1',e3,k3,E3⟩:=oneK_two hpc hn ho.mem ho.dst A2 hR hRA (k1 RS some)
 have he3:=Option.some.inj e3
 have hp:p1'=p1:=List.append_cancel_right (congrArg RS.sc he3)
 have hg:g1' rs.sto=g1 rs.sto:=congrArg RS.sto he3
 subst hp
 refine ⟨⟨p2++(p1'++rs.sc),g2 (g1 rs.sto)⟩,rsA,⟨p1'++(p2++rs.sc),g1' (g2 rs.sto)⟩,e2,k2,k3,⟨fun t=>app_comm (fun t s1 s2 h1 h2=>?_) t,?_⟩,hRO.app E2.ref⟩
 ·refine puts_comm (rs0:=rsO) E1 E2 H1 H2 (fun t _ ht b hb=>?_) (fun t c h hc=>⟨c,(A1.wb t h).trans hc⟩) (fun t c ht hc=>?_) h1 h2
  ·rcases A1.rd t ht with h|⟨c1,c2,_,h⟩
   ·rw[←h];exact hb
   ·rw[h] at hb;cases hb
  ·rcases A1.rd t ht with h|⟨c1,c2,h,_⟩
   ·exact ⟨c,h▸hc⟩
   ·exact ⟨c1,h⟩
 ·show g2 (g1 rs.sto)=g1' (g2 rs.sto)
  rcases hid with h|h
  ·rw[h _ _ E1,h _ _ E3];rfl
  ·rw[h];exact hg.symm
end Go.AM
end
