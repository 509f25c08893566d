import Derived.Test.YtdkkaldimefljaaGreatDoorC02
set_option linter.all false
noncomputable section
namespace Go.CM
open Go.AM (oneC overwrite run_underlying run_sizeOf cR aQ aZ bC aL aR fieldAt? fieldAt?_ok bU cD bytes_beq)
variable {P:Program} {w0 w:World} {ρ:Rho} {h:T O} {nx:Q} {tm:T V} {tmps:Array Value} {ds:List Deferred} {k:V→Res} {r v:V}
variable {dst:Option Nat} {ty:TypeId} {pos:String} {aft:Array Edge} {gd':Option (Nat×Bool)}
theorem cZ {a b:Nat} (h:Nat.blt a b=true):a < b:=by simpa [Nat.blt_eq] using h
theorem cS {α β:Type} {o:Option α} {f:α→Option β} {b:β} (h:o.bind f=some b):∃ a,o=some a∧f a=some b:=by
 cases o with
 |none=>cases h
 |some a=>exact ⟨a,rfl,h⟩
theorem j1 {α β:Type} {o:Option α} {f:α→β} {b:β} (h:o.map f=some b):∃ a,o=some a∧f a=b:=by
 cases o with
 |none=>cases h
 |some a=>exact ⟨a,rfl,by simpa using h⟩
theorem aF5 (H:HR P w0 ρ h nx w) {t:TypeId} {x:Operand} (hT:XR ρ tm tmps (Op.operands (.unOp .not t x)).toList) (e:pK (.not (aD P x)) tm h k=.ok r) :
  ∃ v,k v=.ok r∧PG P w ρ tmps ds ⟨dst,.unOp .not t x,ty,pos,aft,gd'⟩ v:=by
 simp only[pK] at e;obtain ⟨c,e1,hc⟩:=opd (ds:=ds) (o:=⟨dst,.unOp .not t x,ty,pos,aft,gd'⟩) H hT (by simp [Op.operands]) e;obtain ⟨b,hb,e2⟩:=uH e1;subst hb;exact ⟨_,lY e2,_,by simp [execOp,hc.inv_bool,Op.unary],.bool _⟩
theorem aIa (H:HR P w0 ρ h nx w) {s d:TypeId} {x:Operand} {ks kd:IntKind} (hs:P.underlying s=some (.int ks)) (hd:P.underlying d=some (.int kd)) (hT:XR ρ tm tmps (Op.operands (.convert s d x)).toList) (e:pK (.cvi kd (aD P x)) tm h k=.ok r) :
  ∃ v,k v=.ok r∧PG P w ρ tmps ds ⟨dst,.convert s d x,ty,pos,aft,gd'⟩ v:=by
 simp only[pK] at e;obtain ⟨c,e1,hc⟩:=opd (ds:=ds) (o:=⟨dst,.convert s d x,ty,pos,aft,gd'⟩) H hT (by simp [Op.operands]) e;obtain ⟨k1,n,hn,e2⟩:=ee e1;subst hn;exact ⟨_,mH e2,_,by simp [execOp,hc.inv_int,convert,run_underlying hs,run_underlying hd,Conv.intToInt],.int _ _⟩
theorem aJI (H:HR P w0 ρ h nx w) {s d:TypeId} {x:Operand} (hs:P.underlying s=some .string) (hd:P.underlying d=some .string) (hT:XR ρ tm tmps (Op.operands (.convert s d x)).toList) (e:pK (.cvs (aD P x)) tm h k=.ok r) :
  ∃ v,k v=.ok r∧PG P w ρ tmps ds ⟨dst,.convert s d x,ty,pos,aft,gd'⟩ v:=by
 simp only[pK] at e;obtain ⟨c,e1,hc⟩:=opd (ds:=ds) (o:=⟨dst,.convert s d x,ty,pos,aft,gd'⟩) H hT (by simp [Op.operands]) e;obtain ⟨l,n,hn,e2⟩:=oG e1;subst hn;obtain ⟨sl,h1,h2,h3⟩:=hc.inv_str;exact ⟨_,e2,.string ⟨⟨sl⟩⟩,by simp [execOp,h1,convert,run_underlying hs,run_underlying hd],.str _ _ _ h2 h3⟩
theorem pz {op:BinOp} {t:TypeId} {x y:Operand} {b:PB} (hb:y7 P op t x y=b) :
  b=.bad∨b=.bin op (aD P x) (aD P y)∨∃ m,EqT P t m y∧((op=.eql∧b=.eq false m (aD P x) (aD P y))∨(op=.neq∧b=.eq true m (aD P x) (aD P y))):=by
 have main:∀ (neg:Bool) (b:PB),(match P.underlying t with
   |some (.pointer e)=>(match aZ P e with
    |some s=>(match Nat.blt 0 s with
     |true=>PB.eq neg .ptr (aD P x) (aD P y)
     |false=>.bad)
    |none=>.bad)
   |some .bool=>.eq neg .bool (aD P x) (aD P y)
   |some (.int _)=>.bin op (aD P x) (aD P y)
   |some .string=>.bin op (aD P x) (aD P y)
   |some (.slice _)=>(match iE .nilS y with|true=>.eq neg .nilS (aD P x) (aD P y)|false=>.bad)
   |some (.map _ _)=>(match iE .nilM y with|true=>.eq neg .nilM (aD P x) (aD P y)|false=>.bad)
   |some (.func _ _ _)=>(match iE .nilF y with|true=>.eq neg .nilF (aD P x) (aD P y)|false=>.bad)
   |some (.interface _)=>(match iE .nilI y with|true=>.eq neg .nilI (aD P x) (aD P y)|false=>.bad)
   |_=>.bad)=b→b=.bad∨b=.bin op (aD P x) (aD P y)∨∃ m,EqT P t m y∧b=.eq neg m (aD P x) (aD P y):=fun neg b hb=>by
  split at hb
  ·rename_i e hu
   split at hb
   ·rename_i s hs
    split at hb
    ·rename_i h0
     obtain ⟨j,hj,rfl⟩:=j1 hs;exact .inr (.inr ⟨.ptr,⟨e,j,hu,hj,by have:=cZ h0;omega⟩,hb.symm⟩)
    ·exact .inl hb.symm
   ·exact .inl hb.symm
  ·exact .inr (.inr ⟨.bool,by assumption,hb.symm⟩)
  ·exact .inr (.inl hb.symm)
  ·exact .inr (.inl hb.symm)
  ·rename_i hu
   split at hb
   ·rename_i hn
    refine .inr (.inr ⟨.nilS,⟨?_,_,hu⟩,hb.symm⟩);unfold iE at hn
    split at hn <;> first|rfl|(cases hn;done)|simp at hn
   ·exact .inl hb.symm
  ·rename_i hu
   split at hb
   ·rename_i hn
    refine .inr (.inr ⟨.nilM,⟨?_,_,_,hu⟩,hb.symm⟩);unfold iE at hn
    split at hn <;> first|rfl|(cases hn;done)|simp at hn
   ·exact .inl hb.symm
  ·rename_i hu
   split at hb
   ·rename_i hn
    refine .inr (.inr ⟨.nilF,⟨?_,_,_,_,hu⟩,hb.symm⟩);unfold iE at hn
    split at hn <;> first|rfl|(cases hn;done)|simp at hn
   ·exact .inl hb.symm
  ·rename_i hu
   split at hb
   ·rename_i hn
    refine .inr (.inr ⟨.nilI,⟨?_,_,hu⟩,hb.symm⟩);unfold iE at hn
    split at hn <;> first|rfl|(cases hn;done)|simp at hn
   ·exact .inl hb.symm
  ·exact .inl hb.symm
 cases op
 case eql =>
  rcases main false b hb with h|h|⟨m,h1,h2⟩
  ·exact .inl h
  ·exact .inr (.inl h)
  ·exact .inr (.inr ⟨m,h1,.inl ⟨rfl,h2⟩⟩)
 case neq =>
  rcases main true b hb with h|h|⟨m,h1,h2⟩
  ·exact .inl h
  ·exact .inr (.inl h)
  ·exact .inr (.inr ⟨m,h1,.inr ⟨rfl,h2⟩⟩)
 all_goals exact .inr (.inl hb.symm)
theorem aDo (H:HR P w0 ρ h nx w) {op:BinOp} {t yt:TypeId} {x y:Operand} (hT:XR ρ tm tmps (Op.operands (.binOp op t x y yt)).toList) (e:pK (y7 P op t x y) tm h k=.ok r) :
  ∃ v,k v=.ok r∧PG P w ρ tmps ds ⟨dst,.binOp op t x y yt,ty,pos,aft,gd'⟩ v:=by
 have fin:∀ v u,k v=.ok r→(eqGuard op t x y (ev tmps ds x) (ev tmps ds y)).run P w=.ok () w→(binOp op t (ev tmps ds x) (ev tmps ds y)).run P w=.ok u w→VR ρ v u →
   ∃ v,k v=.ok r∧PG P w ρ tmps ds ⟨dst,.binOp op t x y yt,ty,pos,aft,gd'⟩ v:=fun v u h0 h1 h2 h3=>⟨v,h0,u,by simp [execOp,h1,h2],h3⟩
 rcases pz (P:=P) (op:=op) (t:=t) (x:=x) (y:=y) rfl with hb|hb|⟨m,ht,hb⟩
 ·rw[hb] at e;cases e
 ·rw[hb] at e
  simp only[pK] at e;obtain ⟨a,e1,ha⟩:=opd (ds:=ds) (o:=⟨dst,.binOp op t x y yt,ty,pos,aft,gd'⟩) H hT (by simp [Op.operands]) e;obtain ⟨b,e2,hb⟩:=opd (ds:=ds) (o:=⟨dst,.binOp op t x y yt,ty,pos,aft,gd'⟩) H hT (by simp [Op.operands]) e1;obtain ⟨c,u,g1,g2,g3,g4⟩:=aDW (P:=P) (w:=w) (ρ:=ρ) (t:=t) (ox:=x) (oy:=y) ha hb e2;exact fin c u g1 g2 g3 g4
 ·have hcon:∀ c,y=.const c→ev tmps ds y=c:=fun c hc=>by subst hc;rfl
  rcases hb with ⟨rfl,hb⟩|⟨rfl,hb⟩ <;> rw[hb] at e <;> simp only[pK] at e
  ·obtain ⟨a,e1,ha⟩:=opd (ds:=ds) (o:=⟨dst,.binOp .eql t x y yt,ty,pos,aft,gd'⟩) H hT (by simp [Op.operands]) e
   obtain ⟨b,e2,hb⟩:=opd (ds:=ds) (o:=⟨dst,.binOp .eql t x y yt,ty,pos,aft,gd'⟩) H hT (by simp [Op.operands]) e1;obtain ⟨z,e3,g1,g2,g3⟩:=aB4 (x:=x) H ht ha hb hcon e2;exact fin _ _ (lY e3) (g1 _) g2 (by cases z <;> exact .bool _)
  ·obtain ⟨a,e1,ha⟩:=opd (ds:=ds) (o:=⟨dst,.binOp .neq t x y yt,ty,pos,aft,gd'⟩) H hT (by simp [Op.operands]) e
   obtain ⟨b,e2,hb⟩:=opd (ds:=ds) (o:=⟨dst,.binOp .neq t x y yt,ty,pos,aft,gd'⟩) H hT (by simp [Op.operands]) e1;obtain ⟨z,e3,g1,g2,g3⟩:=aB4 (x:=x) H ht ha hb hcon e2;exact fin _ _ (lY e3) (g1 _) g3 (by cases z <;> exact .bool _)
theorem aBa {o:Q} {off:Nat} (e:ldK h o off k=.ok r):∃ n t,((∃ anc flo ty ex,h.ob o=.row n t anc flo ty ex)∨h.ob o=.ro n t)∧off < n∧k (t.at off)=.ok r:=by
 unfold ldK at e;rw[bS] at e;obtain ⟨n,t,h1,e1⟩:=bp e;obtain ⟨h2,e2⟩:=bR e1;rw[lX,dL] at e2;exact ⟨n,t,h1,cZ h2,e2⟩
theorem bw {o:Q} {off m:Nat} {k:List V→Res} (e:lP h o off m k=.ok r):∃ n t,((∃ anc flo ty ex,h.ob o=.row n t anc flo ty ex)∨h.ob o=.ro n t)∧off+m≤n∧k (lH m off t)=.ok r:=by
 unfold lP at e;rw[bS] at e;obtain ⟨n,t,h1,e1⟩:=bp e;obtain ⟨h2,e2⟩:=bR e1;rw[pH] at e2;exact ⟨n,t,h1,Nat.le_of_ble_eq_true h2,e2⟩
theorem VRs.agg {cs:List V} {vs:List Value} (h:VRs ρ cs vs) (hk:∀ c∈cs,isCell c=true):VR ρ (.agg cs) (.agg ⟨vs⟩):=.agg cs vs h.1 hk h.2
theorem aJW (H:HR P w0 ρ h nx w) {t:TypeId} {a:Operand} (ht:bC P t=some false) (hT:XR ρ tm tmps (Op.operands (.load t a)).toList) (e:pK (.ld1 (aD P a)) tm h k=.ok r) :
  ∃ v,k v=.ok r∧PG P w ρ tmps ds ⟨dst,.load t a,ty,pos,aft,gd'⟩ v:=by
 simp only[pK] at e;obtain ⟨c,e1,hc⟩:=opd (ds:=ds) (o:=⟨dst,.load t a,ty,pos,aft,gd'⟩) H hT (by simp [Op.operands]) e;obtain ⟨o,off,ho,e2⟩:=kN e1;subst ho;obtain ⟨b,N,hv,hb⟩:=hc.inv_ptr;obtain ⟨n,tt,h1,h2,e3⟩:=aBa e2;obtain ⟨u,g1,g2,_⟩:=H.cell hb h1 h2;exact ⟨_,e3,u,by simp [execOp,hv,Instr.loadAt,Instr.sureAddr,AM.run_loadVar_one ht g1],g2⟩
theorem aKg (H:HR P w0 ρ h nx w) {t:TypeId} {n:Nat} {a:Operand} (ht:bC P t=some true) (hs:aZ P t=some n) (hT:XR ρ tm tmps (Op.operands (.load t a)).toList) (e:pK (.ldn n (aD P a)) tm h k=.ok r) :
  ∃ v,k v=.ok r∧PG P w ρ tmps ds ⟨dst,.load t a,ty,pos,aft,gd'⟩ v:=by
 simp only[pK] at e;obtain ⟨c,e1,hc⟩:=opd (ds:=ds) (o:=⟨dst,.load t a,ty,pos,aft,gd'⟩) H hT (by simp [Op.operands]) e;obtain ⟨o,off,ho,e2⟩:=kN e1;subst ho;obtain ⟨b,N,hv,hb⟩:=hc.inv_ptr;obtain ⟨m,tt,h1,h2,e3⟩:=bw e2;obtain ⟨vs,g1,g2,g3,g4⟩:=H.cells hb h1 h2;exact ⟨_,e3,.agg ⟨vs⟩,by simp [execOp,hv,Instr.loadAt,Instr.sureAddr,AM.run_loadVar_agg (P:=P) ht (by rw[g1];exact hs) g2],g3.agg g4⟩
theorem aIX (H:HR P w0 ρ h nx w) {x:Operand} (hT:XR ρ tm tmps (Op.operands (.nilCheck x)).toList) (e:pK (.nck (aD P x)) tm h k=.ok r) :
  ∃ v,k v=.ok r∧PG P w ρ tmps ds ⟨dst,.nilCheck x,ty,pos,aft,gd'⟩ v:=by
 simp only[pK] at e;obtain ⟨c,e1,hc⟩:=opd (ds:=ds) (o:=⟨dst,.nilCheck x,ty,pos,aft,gd'⟩) H hT (by simp [Op.operands]) e;have hc':=hc;generalize hg:ev tmps ds x=u at hc hc';cases c <;> simp only at e1 <;> first|cases e1|skip
 ·obtain ⟨b,N,rfl,hb⟩:=hc.inv_ptr
  exact ⟨_,e1,_,by simp [execOp,hg],hc'⟩
 ·obtain ⟨us,vs,rfl,_⟩:=hc.inv_fn
  exact ⟨_,e1,_,by simp [execOp,hg],hc'⟩
 ·obtain ⟨b,N,rfl,hb⟩:=hc.inv_yld
  exact ⟨_,e1,_,by simp [execOp,hg],hc'⟩
 ·cases hc with
  |ifc t x v hv=>exact ⟨_,e1,_,by simp [execOp,hg],hc'⟩
theorem aOn (H:HR P w0 ρ h nx w) {t:TypeId} {x:Operand} {f s:Nat} {ot:Nat×TypeId} (hf:fieldAt? P t f=some ot) (hs:aZ P ot.2=some s) (h0:Nat.blt 0 s=true) (hT:XR ρ tm tmps (Op.operands (.fieldAddr t x f)).toList)
  (e:pK (.fa ot.1 (aD P x)) tm h k=.ok r):∃ v,k v=.ok r∧PG P w ρ tmps ds ⟨dst,.fieldAddr t x f,ty,pos,aft,gd'⟩ v:=by
 simp only[pK] at e;obtain ⟨c,e1,hc⟩:=opd (ds:=ds) (o:=⟨dst,.fieldAddr t x f,ty,pos,aft,gd'⟩) H hT (by simp [Op.operands]) e;obtain ⟨o,a,ho,e2⟩:=kN e1;subst ho;rw[aF] at e2;obtain ⟨b,N,hv,hb⟩:=hc.inv_ptr;obtain ⟨fs,fl,h1,h2,h3,h4⟩:=fieldAt?_ok hf;have hs0:¬ s=0:=by have:=cZ h0;omega
 exact ⟨_,e2,.pointer (some ⟨b,a+ot.1,none⟩),by simp [execOp,hv,Instr.fieldAt,run_underlying h1,h2,Instr.sureAddr,fieldPlace,h4,run_sizeOf hs,hs0,cD,h3],.ptr _ _ _ _ hb⟩
theorem ld:∀ {n:Nat} {l:List V} {k:List V→Res},nN n l k=.ok r→n≤l.length∧k (l.take n)=.ok r
 |0,l,k,e=>⟨Nat.zero_le _,by simpa [nN] using e⟩
 |n+1,[],k,e=>by cases e
 |n+1,v::l,k,e=>by
  obtain ⟨h1,h2⟩:=ld (n:=n) (l:=l) e;exact ⟨by simp;omega,by simpa using h2⟩
theorem fy:∀ {off n:Nat} {l:List V} {k:List V→Res},rO off n l k=.ok r→off+n≤l.length∧k ((l.drop off).take n)=.ok r
 |0,n,l,k,e=>by
  obtain ⟨h1,h2⟩:=ld (n:=n) (l:=l) e;exact ⟨by omega,by simpa using h2⟩
 |off+1,n,[],k,e=>by cases e
 |off+1,n,v::l,k,e=>by
  obtain ⟨h1,h2⟩:=fy (off:=off) (n:=n) (l:=l) e;exact ⟨by simp;omega,by simpa using h2⟩
theorem tv {t:TypeId} {cs:List V} {vs:List Value} {off s:Nat} {agg:Bool} (hv:VRs ρ cs vs) (hk:∀ c∈cs,isCell c=true) (h1:bC P t=some agg) (h2:aZ P t=some s) (e:fdK agg off s cs k=.ok r) :
  ∃ c u,k c=.ok r∧(part t ⟨vs⟩ off).run P w=.ok u w∧VR ρ c u:=by
 cases agg with
 |false =>
  obtain ⟨c,g1,g2⟩:=rp (l:=cs) (n:=off) e;obtain ⟨u,g3,g4⟩:=hv.get g1;have hi:off < vs.length:=(List.getElem?_eq_some_iff.1 g3).1;have he:vs[off]=u:=(List.getElem?_eq_some_iff.1 g3).2;exact ⟨c,u,g2,by simp [part,cR h1,hi,he],g4⟩
 |true =>
  obtain ⟨g1,g2⟩:=fy (off:=off) (n:=s) (l:=cs) e;refine ⟨_,.agg ⟨(vs.drop off).take s⟩,g2,?_,((hv.drop off).take s).agg fun c hc=>hk c (List.mem_of_mem_drop (List.mem_of_mem_take hc))⟩;have hle:off+s≤vs.length:=by rw[←hv.1];exact g1
  simp [part,cR h1,run_sizeOf h2,List.extract_eq_take_drop,hle]
theorem aMz (H:HR P w0 ρ h nx w) {t:TypeId} {x:Operand} {f s:Nat} {g:Bool} {ot:Nat×TypeId} (hf:fieldAt? P t f=some ot) (hs:aZ P ot.2=some s) (ha:bC P ot.2=some g) (hT:XR ρ tm tmps (Op.operands (.field t x f)).toList)
  (e:pK (.fd g ot.1 s (aD P x)) tm h k=.ok r):∃ v,k v=.ok r∧PG P w ρ tmps ds ⟨dst,.field t x f,ty,pos,aft,gd'⟩ v:=by
 simp only[pK] at e;obtain ⟨c,e1,hc⟩:=opd (ds:=ds) (o:=⟨dst,.field t x f,ty,pos,aft,gd'⟩) H hT (by simp [Op.operands]) e;obtain ⟨l,hl,e2⟩:=aAO e1;subst hl;obtain ⟨vs,hv,hvs,hk⟩:=hc.inv_agg;obtain ⟨fs,fl,h1,h2,h3,h4⟩:=fieldAt?_ok hf;obtain ⟨c',u,g1,g2,g3⟩:=tv (P:=P) (w:=w) hvs hk ha hs e2;exact ⟨c',g1,u,by simp [execOp,hv,Instr.field,run_underlying h1,h2,asAgg,h4,h3,g2],g3⟩
theorem aMy (H:HR P w0 ρ h nx w) {x:Operand} {i:Nat} (hT:XR ρ tm tmps (Op.operands (.extract x i)).toList) (e:pK (.ex i (aD P x)) tm h k=.ok r) :
  ∃ v,k v=.ok r∧PG P w ρ tmps ds ⟨dst,.extract x i,ty,pos,aft,gd'⟩ v:=by
 simp only[pK] at e;obtain ⟨c,e1,hc⟩:=opd (ds:=ds) (o:=⟨dst,.extract x i,ty,pos,aft,gd'⟩) H hT (by simp [Op.operands]) e;generalize hg:ev tmps ds x=u at hc;cases c <;> simp only at e1 <;> first|cases e1|skip
 obtain ⟨vs,rfl,hvs⟩:=hc.inv_tup;obtain ⟨c',g1,g2⟩:=rp e1;obtain ⟨u,g3,g4⟩:=hvs.get g1;have hi:i < vs.length:=(List.getElem?_eq_some_iff.1 g3).1;have he:vs[i]=u:=(List.getElem?_eq_some_iff.1 g3).2;exact ⟨c',g2,u,by simp [execOp,hg,Instr.extract,hi,he],g4⟩
theorem aBZ {sz i:Nat} {v:V} (e:sV sz v i k=.ok r):∃ o off len,((∃ cap,v=.sl o off len cap)∨∃ s,v=.su o off len s)∧i < len∧k (.ptr o (off+i * sz))=.ok r:=by
 cases v <;> simp only[sV] at e <;> first|cases e|skip
 ·obtain ⟨h1,e1⟩:=bR e
  rw[aF] at e1;exact ⟨_,_,_,.inl ⟨_,rfl⟩,cZ h1,e1⟩
 ·obtain ⟨h1,e1⟩:=bR e
  rw[aF] at e1;exact ⟨_,_,_,.inr ⟨_,rfl⟩,cZ h1,e1⟩
theorem VR.inv_sl {o:Q} {off len:Nat} {v:V} {u:Value} (hv:VR ρ v u) (h:(∃ cap,v=.sl o off len cap)∨∃ s,v=.su o off len s):∃ b N cap,u=.slice (some ⟨b,off,none⟩) len cap∧ρ o=some (b,N)∧len≤cap:=by
 rcases h with ⟨cap,rfl⟩|⟨s,rfl⟩
 ·cases hv with|sl _ _ _ _ b N h hc=>exact ⟨b,N,cap,rfl,h,hc⟩
 ·cases hv with|su _ _ _ _ b N cap h hc hr=>exact ⟨b,N,cap,rfl,h,hc⟩
theorem aMw (H:HR P w0 ρ h nx w) {t el:TypeId} {x i:Operand} {s:Nat} (hu:P.underlying t=some (.slice el)) (hs:aZ P el=some s) (hT:XR ρ tm tmps (Op.operands (.indexAddr t x i)).toList) (e:pK (.ia s (aD P x) (aD P i)) tm h k=.ok r) :
  ∃ v,k v=.ok r∧PG P w ρ tmps ds ⟨dst,.indexAddr t x i,ty,pos,aft,gd'⟩ v:=by
 simp only[pK] at e;obtain ⟨c,e1,hc⟩:=opd (ds:=ds) (o:=⟨dst,.indexAddr t x i,ty,pos,aft,gd'⟩) H hT (by simp [Op.operands]) e;obtain ⟨d,e2,hd⟩:=opd (ds:=ds) (o:=⟨dst,.indexAddr t x i,ty,pos,aft,gd'⟩) H hT (by simp [Op.operands]) e1;obtain ⟨kd,n,hn,e3⟩:=iF e2;subst hn;obtain ⟨o,off,len,h1,h2,e4⟩:=aBZ e3;obtain ⟨b,N,cap,hv,hb,_⟩:=hc.inv_sl h1;have hi:=hd.inv_int;refine ⟨_,e4,.pointer (some ⟨b,off+n * s,none⟩),?_,.ptr _ _ _ _ hb⟩;simp [execOp,hv,hi,Instr.indexAt,asIntOf,run_underlying hu,h2,run_sizeOf hs,cD]
theorem aKd (H:HR P w0 ρ h nx w) {t el:TypeId} {x i:Operand} {len s:Nat} (hu:P.underlying t=some (.array len el)) (hs:aZ P el=some s) (hT:XR ρ tm tmps (Op.operands (.indexAddr t x i)).toList) (e:pK (.iaa len s (aD P x) (aD P i)) tm h k=.ok r) :
  ∃ v,k v=.ok r∧PG P w ρ tmps ds ⟨dst,.indexAddr t x i,ty,pos,aft,gd'⟩ v:=by
 simp only[pK] at e;obtain ⟨c,e1,hc⟩:=opd (ds:=ds) (o:=⟨dst,.indexAddr t x i,ty,pos,aft,gd'⟩) H hT (by simp [Op.operands]) e;obtain ⟨d,e2,hd⟩:=opd (ds:=ds) (o:=⟨dst,.indexAddr t x i,ty,pos,aft,gd'⟩) H hT (by simp [Op.operands]) e1;obtain ⟨kd,n,hn,e3⟩:=iF e2;subst hn;obtain ⟨o,a,ho,e4⟩:=kN e3;subst ho;obtain ⟨h1,e5⟩:=bR e4;rw[aF] at e5;have h2:=cZ h1;obtain ⟨b,N,hv,hb⟩:=hc.inv_ptr;have hi:=hd.inv_int;refine ⟨_,e5,.pointer (some ⟨b,a+n * s,none⟩),?_,.ptr _ _ _ _ hb⟩;simp [execOp,hv,hi,Instr.indexAt,asIntOf,run_underlying hu,Instr.sureAddr,h2,run_sizeOf hs,cD]
theorem aIi (H:HR P w0 ρ h nx w) {t:TypeId} {x i:Operand} (hu:P.underlying t=some .string) (hT:XR ρ tm tmps (Op.operands (.index t x i)).toList) (e:pK (.ixs (aD P x) (aD P i)) tm h k=.ok r) :
  ∃ v,k v=.ok r∧PG P w ρ tmps ds ⟨dst,.index t x i,ty,pos,aft,gd'⟩ v:=by
 simp only[pK] at e;obtain ⟨c,e1,hc⟩:=opd (ds:=ds) (o:=⟨dst,.index t x i,ty,pos,aft,gd'⟩) H hT (by simp [Op.operands]) e;obtain ⟨d,e2,hd⟩:=opd (ds:=ds) (o:=⟨dst,.index t x i,ty,pos,aft,gd'⟩) H hT (by simp [Op.operands]) e1;obtain ⟨kd,j,hn,e3⟩:=iF e2;subst hn;obtain ⟨l,n,ho,e4⟩:=oG e3;subst ho;obtain ⟨h1,e5⟩:=bR e4;rw[aF] at e5;have h2:=cZ h1;obtain ⟨s,hv,hl,hp⟩:=hc.inv_str;have hi:=hd.inv_int;subst hl;rw[←hp,mP,yf s j h2] at e5
 have hbb:(⟨⟨s⟩⟩:ByteArray)[j]?=some s[j]:=by
  have hsz:j < (⟨⟨s⟩⟩:ByteArray).size:=h2;rw[ByteArray.getElem?_lt' _ _ hsz];rfl
 exact ⟨_,e5,.int .u8 (s[j].toNat),by simp [execOp,hv,hi,Instr.index,asIntOf,run_underlying hu,hbb],.int _ _⟩
theorem aID (H:HR P w0 ρ h nx w) {t el:TypeId} {x i:Operand} {len s:Nat} {g:Bool} (hu:P.underlying t=some (.array len el)) (hs:aZ P el=some s) (ha:bC P el=some g) (hT:XR ρ tm tmps (Op.operands (.index t x i)).toList)
  (e:pK (.ixa g len s (aD P x) (aD P i)) tm h k=.ok r):∃ v,k v=.ok r∧PG P w ρ tmps ds ⟨dst,.index t x i,ty,pos,aft,gd'⟩ v:=by
 simp only[pK] at e;obtain ⟨c,e1,hc⟩:=opd (ds:=ds) (o:=⟨dst,.index t x i,ty,pos,aft,gd'⟩) H hT (by simp [Op.operands]) e;obtain ⟨d,e2,hd⟩:=opd (ds:=ds) (o:=⟨dst,.index t x i,ty,pos,aft,gd'⟩) H hT (by simp [Op.operands]) e1;obtain ⟨kd,j,hn,e3⟩:=iF e2;subst hn;obtain ⟨l,ho,e4⟩:=aAO e3;subst ho;obtain ⟨h1,e5⟩:=bR e4;rw[aF] at e5;have h2:=cZ h1;obtain ⟨vs,hv,hvs,hk⟩:=hc.inv_agg;have hi:=hd.inv_int;obtain ⟨c',u,g1,g2,g3⟩:=tv (P:=P) (w:=w) hvs hk ha hs e5;exact ⟨c',g1,u,by simp [execOp,hv,hi,Instr.index,asIntOf,run_underlying hu,h2,run_sizeOf hs,g2],g3⟩
end Go.CM
end
noncomputable section
namespace Go.CM
open Go.AM (oneC overwrite aP aN run_underlying run_sizeOf cR aQ aZ bC aL aR fieldAt? fieldAt?_ok bU cD bytes_beq run_getObj iX)
variable {P:Program} {w0 w:World} {ρ:Rho} {h:T O} {nx:Q} {tm:T V} {tmps:Array Value} {ds:List Deferred} {k:V→Res} {r v:V}
variable {dst:Option Nat} {ty:TypeId} {pos:String} {aft:Array Edge} {gd':Option (Nat×Bool)}
theorem zu {v:Value} (hb:kX (gH v)=true):VC (gH v) (ff (gH v)):=by
 cases v with
 |agg cs =>
  simp only[gH] at hb ⊢;cases he:(cs.toList.map iY).all kX with
  |false=>rw[he] at hb;cases hb
  |true=>exact .inl rfl
 |_ =>
  simp only[gH] at hb ⊢;have hc:=yW hb;refine .inr ⟨hc,?_⟩
  revert hc
  generalize iY _=c;intro hc;cases c <;> first|rfl|cases hc
theorem oX {t:TypeId} {z:V} (e:zeroV P t=some z):∃ zv,(P.info? t).bind (·.zero)=some zv∧VR ρ z zv∧VC z (ff z):=by
 unfold zeroV at e;obtain ⟨zv,h1,h2⟩:=cS e
 split at h2
 ·rename_i hb
  simp at h2;subst h2;exact ⟨zv,h1,fA hb,zu hb⟩
 ·cases h2
theorem l7 {t:TypeId} {z:List V} (e:lE P t=some z):∃ zv,(P.info? t).bind (·.zero)=some zv∧aZ P t=some z.length∧VRs ρ z zv.cells.toList∧(∀ c∈z,isCell c=true)∧∀ u∈zv.cells.toList,oneC u=true:=by
 unfold lE at e;obtain ⟨v,h1,h2⟩:=cS e;obtain ⟨s,h3,h4⟩:=cS h2
 split at h4
 ·rename_i hl
  simp at h4;subst h4;obtain ⟨zv,g1,g2,g3⟩:=oX (ρ:=ρ) h1;obtain ⟨g4,g5,g6⟩:=g2.cells g3;exact ⟨zv,g1,by rw[Nat.eq_of_beq_eq_true hl];exact h3,g4,g5,g6⟩
 ·cases h4
theorem VRs.over {zs cs:List V} {zv cv:List Value} {off:Nat} (h1:VRs ρ zs zv) (h2:VRs ρ cs cv):VRs ρ (overwrite zs off cs) (overwrite zv off cv):=by
 unfold overwrite;rw[h2.1];exact ((h1.take off).append h2).append (h1.drop _)
theorem yK {zs cs:List V} {off:Nat} (h1:∀ c∈zs,isCell c=true) (h2:∀ c∈cs,isCell c=true):∀ c∈overwrite zs off cs,isCell c=true:=fun c hc=>by
 unfold overwrite at hc;simp only[List.mem_append] at hc;rcases hc with (hc|hc)|hc
 ·exact h1 c (List.mem_of_mem_take hc)
 ·exact h2 c hc
 ·exact h1 c (List.mem_of_mem_drop hc)
theorem uI:∀ {l new:List V} {off:Nat} {k:List V→Res},nU l off new k=.ok r→off+new.length≤l.length∧k (overwrite l off new)=.ok r
 |[],new,off,k,e=>by
  cases off with
  |zero=>cases new with
   |nil=>exact ⟨by simp,e⟩
   |cons v vs=>cases e
  |succ off=>cases e
 |x::l,new,off,k,e=>by
  cases off with
  |zero=>cases new with
   |nil=>exact ⟨by simp,by simpa [overwrite,nU] using e⟩
   |cons v vs =>
    obtain ⟨h1,h2⟩:=uI (l:=l) (new:=vs) (off:=0) e;exact ⟨by simp at h1 ⊢;omega,by simpa [overwrite,Nat.add_comm 1] using h2⟩
  |succ off =>
   obtain ⟨h1,h2⟩:=uI (l:=l) (new:=new) (off:=off) e;refine ⟨by simp;omega,?_⟩
   have:overwrite (x::l) (off+1) new=x::overwrite l off new:=by
    unfold overwrite;rw[show off+1+new.length=off+new.length+1 by omega];simp
   rw[this];exact h2
theorem si (H:HR P w0 ρ h nx w) {place:Nat→Option (Nat×Nat)}:∀ {parts:List (Nat×Operand)} {ps:List (Nat×Nat×X)} {z:List V} {zs:List Value} {k:List V→Res},n6 P place parts=some ps→XR ρ tm tmps (parts.map (·.2))→VRs ρ z zs→(∀ c∈z,isCell c=true) →
  y8 tm ps z k=.ok r→∃ cs vs,k cs=.ok r∧Instr.fill place ⟨zs⟩ (parts.map fun p=>(p.1,ev tmps ds p.2))=some ⟨vs⟩∧VRs ρ cs vs∧∀ c∈cs,isCell c=true
 |[],ps,z,zs,k,hp,hT,hz,hk,e=>by
  simp [n6] at hp;subst hp;exact ⟨z,zs,e,rfl,hz,hk⟩
 |(i,x)::parts,ps,z,zs,k,hp,hT,hz,hk,e=>by
  simp only[n6] at hp;obtain ⟨p,h1,hp⟩:=cS hp;obtain ⟨l,h2,hp⟩:=j1 hp;subst hp;simp only[y8] at e;obtain ⟨v,h3,e⟩:=dK e;have hv:=eZ (ds:=ds) H.glob (hT.sub (fun y hy=>by simp at hy;simp [hy])) h3;obtain ⟨c,hc,e⟩:=qV e;rw[cF] at e;obtain ⟨hl,e⟩:=bR e;obtain ⟨h4,e⟩:=uI e;obtain ⟨g1,g2,g3⟩:=hv.cells hc;obtain ⟨cs,vs,f1,f2,f3,f4⟩:=si H h2 (hT.sub (fun y hy=>by simp at hy ⊢;exact .inr hy)) (hz.over (off:=p.1) g1) (yK hk g2) e;refine ⟨cs,vs,f1,?_,f3,f4⟩
  have hsz:(ev tmps ds x).cells.size=p.2:=by
   have:=g1.1
   rw[Nat.eq_of_beq_eq_true hl] at this;simpa using this.symm
  have hzl:p.1+(ev tmps ds x).cells.size≤zs.length:=by
   rw[←hz.1,hsz,←Nat.eq_of_beq_eq_true hl];exact h4
  simp only[List.map_cons,Instr.fill,h1];rw[if_neg (by simp [hsz];rw[←hsz];exact hzl),iX _ _ _ (by simpa using hzl)];exact f2
theorem aI9 (H:HR P w0 ρ h nx w) {t:TypeId} {parts:Array (Nat×Operand)} {z:List V} {ps:List (Nat×Nat×X)} (hz:lE P t=some z) (hp:partsOf P t parts.toList=some ps) (hT:XR ρ tm tmps (Op.operands (.build t parts)).toList)
  (e:pK (.bld z ps) tm h k=.ok r):∃ v,k v=.ok r∧PG P w ρ tmps ds ⟨dst,.build t parts,ty,pos,aft,gd'⟩ v:=by
 simp only[pK] at e;obtain ⟨zv,h1,h2,h3,h4,h5⟩:=l7 (ρ:=ρ) hz;have hT':XR ρ tm tmps (parts.toList.map (·.2)):=hT.sub (fun x hx=>by simpa [Op.operands] using hx)
 have fin:∀ {place:Nat→Option (Nat×Nat)},n6 P place parts.toList=some ps→(∀ l,P.built t l=Instr.fill place zv.cells l)→∃ v,k v=.ok r∧PG P w ρ tmps ds ⟨dst,.build t parts,ty,pos,aft,gd'⟩ v:=fun {place} hpl hb=>by
  obtain ⟨cs,vs,f1,f2,f3,f4⟩:=si (ds:=ds) H hpl hT' h3 h4 e;refine ⟨_,f1,.agg ⟨vs⟩,?_,f3.agg f4⟩
  have:=run_build (P:=P) w t (parts.map fun (i,x)=>(i,ev tmps ds x)) ⟨vs⟩ (by
   rw[hb];simp only[Array.toList_map]
   have:(⟨zv.cells.toList⟩:Array Value)=zv.cells:=by simp
   rw[←this];exact f2)
  simp [execOp];simp at this;simp [this]
 unfold partsOf at hp
 split at hp
 ·rename_i fs hu
  obtain ⟨pl,hpl,hp⟩:=cS hp;refine fin hp fun l=>?_
  obtain ⟨it,hi,hzz⟩:=cS h1;simp [Program.built,hi,hu,hzz,hpl]
 ·rename_i n el hu
  obtain ⟨s,hs,hp⟩:=cS hp;refine fin hp fun l=>?_
  obtain ⟨it,hi,hzz⟩:=cS h1;obtain ⟨ie,hie,hs⟩:=j1 hs;simp [Program.built,hi,hu,hzz,hie,hs]
 ·cases hp
theorem sS (H:HR P w0 ρ h nx w) {lo:Option Operand} {d:Nat} {k:Nat→Res} (hT:XR ρ tm tmps lo.toList) (e:sZ (lo.map (aD P)) tm d k=.ok r) :
  ∃ n,k n=.ok r∧((lo=none∧n=d)∨∃ y kd,lo=some y∧ev tmps ds y=.int kd (n:Int)):=by
 cases lo with
 |none=>exact ⟨d,e,.inl ⟨rfl,rfl⟩⟩
 |some y =>
  simp only[Option.map_some,sZ] at e;obtain ⟨c,h1,e⟩:=dK e;have hc:=eZ (ds:=ds) H.glob (hT.sub (by simp)) h1;obtain ⟨kd,n,hn,e⟩:=iF e;subst hn;exact ⟨n,e,.inr ⟨y,kd,rfl,hc.inv_int⟩⟩
theorem iZ {isS:Bool} {len cap:Nat} {lo hi:Option Operand} {l m:Nat} (hl:(lo=none∧l=0)∨∃ y kd,lo=some y∧ev tmps ds y=.int kd (l:Int)) (hh:(hi=none∧m=len)∨∃ y kd,hi=some y∧ev tmps ds y=.int kd (m:Int))
  (h1:l≤m) (h2:m≤cap):(Instr.sliceBounds isS len cap (lo.map (ev tmps ds)) (hi.map (ev tmps ds)) none).run P w=.ok (l,m,cap) w:=by
 rcases hl with ⟨rfl,rfl⟩|⟨y,kd,rfl,hy⟩ <;> rcases hh with ⟨rfl,rfl⟩|⟨z,kd',rfl,hz⟩
 ·simp [Instr.sliceBounds]
 ·simp [Instr.sliceBounds,hz,run_sliceBound,h2]
 ·simp [Instr.sliceBounds,hy,run_sliceBound,h1]
 ·simp [Instr.sliceBounds,hy,hz,run_sliceBound,h1,h2]
theorem mB {len cap:Nat} {lo:Option Operand} {l m x:Nat} {z u:Operand} {kz ku:IntKind} (hl:(lo=none∧l=0)∨∃ y kd,lo=some y∧ev tmps ds y=.int kd (l:Int)) (hz:ev tmps ds z=.int kz (m:Int)) (hu:ev tmps ds u=.int ku (x:Int))
  (h1:l≤m) (h2:m≤x) (h3:x≤cap):(Instr.sliceBounds true len cap (lo.map (ev tmps ds)) (some (ev tmps ds z)) (some (ev tmps ds u))).run P w=.ok (l,m,x) w:=by
 rcases hl with ⟨rfl,rfl⟩|⟨y,kd,rfl,hy⟩
 ·simp [Instr.sliceBounds,hz,hu,run_sliceBound,h2,h3]
 ·simp [Instr.sliceBounds,hy,hz,hu,run_sliceBound,h1,h2,h3]
theorem aJz (H:HR P w0 ρ h nx w) {t:TypeId} {x:Operand} {lo hi:Option Operand} (hu:P.underlying t=some .string) (hT:XR ρ tm tmps (Op.operands (.slice t x lo hi none)).toList) (e:pK (.slS (aD P x) (lo.map (aD P)) (hi.map (aD P))) tm h k=.ok r) :
  ∃ v,k v=.ok r∧PG P w ρ tmps ds ⟨dst,.slice t x lo hi none,ty,pos,aft,gd'⟩ v:=by
 simp only[pK] at e;obtain ⟨c,e1,hc⟩:=opd (ds:=ds) (o:=⟨dst,.slice t x lo hi none,ty,pos,aft,gd'⟩) H hT (by simp [Op.operands]) e;obtain ⟨l,n,ho,e2⟩:=oG e1;subst ho;obtain ⟨a,e3,ha⟩:=sS (ds:=ds) H (hT.sub (fun y hy=>by simp [Op.operands];simp at hy;simp [hy])) e2;obtain ⟨b,e4,hb⟩:=sS (ds:=ds) H (hT.sub (fun y hy=>by simp [Op.operands];simp at hy;simp [hy])) e3;obtain ⟨hg,e5⟩:=bR e4;rw[aF,aF] at e5;rw[Bool.and_eq_true] at hg;have g1:=Nat.le_of_ble_eq_true hg.1;have g2:=Nat.le_of_ble_eq_true hg.2;obtain ⟨s,hv,hl,hp⟩:=hc.inv_str;subst hl;have hbd:=iZ (P:=P) (w:=w) (isS:=false) (len:=s.length) (cap:=s.length) ha hb g1 g2;have hsz:(⟨⟨s⟩⟩:ByteArray).size=s.length:=rfl
 have hex:(⟨⟨s⟩⟩:ByteArray).extract a b=⟨⟨(s.drop a).take (b - a)⟩⟩:=by
  have:=ByteArray.extract_mk s a b
  rw[show (⟨⟨s⟩⟩:ByteArray)=ByteArray.mk s.toArray from rfl,this]
 refine ⟨_,e5,.string ⟨⟨(s.drop a).take (b - a)⟩⟩,?_,.str _ _ _ (by simp;omega) ?_⟩
 ·simp only[ev] at hbd hv
  simp [execOp,ev,hv,Instr.sliceAt,Instr.slice,run_underlying hu,hsz,hbd,hex]
 ·rw[(qW _ _ (by simp;omega)).1,(qW _ _ (by omega)).2,mP,mP,hp]
theorem so {sz lo hi:Nat} {mx:Option Nat} {v:V} {u:Value} (hv:VR ρ v u) (e:w8 sz v lo hi mx k=.ok r) :
  ∃ c a len cap,k c=.ok r∧u=.slice a len cap∧lo≤hi∧hi≤mx.getD cap∧mx.getD cap≤cap∧VR ρ c (.slice (if mx.getD cap=lo then a else a.map (·.add (lo * sz))) (hi - lo) (mx.getD cap - lo)):=by
 cases v <;> simp only[w8] at e <;> first|cases e|skip
 ·obtain ⟨hg,e⟩:=bR e
  cases hv;rw[Bool.and_eq_true,Bool.and_eq_true] at hg;have h1:=Nat.eq_of_beq_eq_true hg.1.1;have h2:=Nat.eq_of_beq_eq_true hg.1.2;subst h1;subst h2;cases mx with
  |none=>exact ⟨_,_,_,_,e,rfl,by simp,by simp,by simp,by simpa using .nils⟩
  |some m =>
   have h3:=Nat.eq_of_beq_eq_true hg.2;subst h3;exact ⟨_,_,_,_,e,rfl,by simp,by simp,by simp,by simpa using .nils⟩
 ·rename_i o off len cap
  cases hv with
  |sl _ _ _ _ b N hb hc =>
  cases mx with
  |none =>
   simp only at e;obtain ⟨hg,e⟩:=bR e;rw[Bool.and_eq_true] at hg;have g1:=Nat.le_of_ble_eq_true hg.1;have g2:=Nat.le_of_ble_eq_true hg.2;rw[aF,aF] at e
   split at e
   ·rename_i he
    have he:=Nat.eq_of_beq_eq_true he;exact ⟨_,_,_,_,e,rfl,g1,g2,by simp,by simp only[Option.getD_none,if_pos he.symm];exact .sl _ _ _ _ _ _ hb (by omega)⟩
   ·rename_i he
    rw[aF] at e;have hne:¬ cap=lo:=fun h=>by rw[h,Nat.beq_refl] at he;cases he
    exact ⟨_,_,_,_,e,rfl,g1,g2,by simp,by simp only[Option.getD_none,if_neg hne,Option.map_some,cD];exact .sl _ _ _ _ _ _ hb (by omega)⟩
  |some m =>
   simp only at e;obtain ⟨hg,e⟩:=bR e;rw[Bool.and_eq_true,Bool.and_eq_true] at hg;have g1:=Nat.le_of_ble_eq_true hg.1.1;have g2:=Nat.le_of_ble_eq_true hg.1.2;have g3:=Nat.le_of_ble_eq_true hg.2;rw[aF,aF] at e
   split at e
   ·rename_i he
    have he:=Nat.eq_of_beq_eq_true he;exact ⟨_,_,_,_,e,rfl,g1,g2,g3,by simp only[Option.getD_some,if_pos he.symm];exact .sl _ _ _ _ _ _ hb (by omega)⟩
   ·rename_i he
    rw[aF] at e;have hne:¬ m=lo:=fun h=>by rw[h,Nat.beq_refl] at he;cases he
    exact ⟨_,_,_,_,e,rfl,g1,g2,g3,by simp only[Option.getD_some,if_neg hne,Option.map_some,cD];exact .sl _ _ _ _ _ _ hb (by omega)⟩
 ·rename_i o off len sz'
  cases hv with
  |su _ _ _ _ b N cap hb hc hr =>
  cases mx with
  |none =>
   simp only at e;obtain ⟨hg,e1⟩:=bR e;clear e;rw[Bool.and_eq_true,Bool.and_eq_true] at hg;have g0:=Nat.eq_of_beq_eq_true hg.1.1;subst g0;have e:=e1;clear e1;have g1:=Nat.le_of_ble_eq_true hg.1.2;have g2:=Nat.le_of_ble_eq_true hg.2
   split at e
   ·rename_i he
    have he:=cZ he;rw[aF,aF] at e;refine ⟨_,_,_,_,e,rfl,g1,Nat.le_trans g2 hc,by simp,?_⟩;simp only[Option.getD_none,if_neg (show ¬ cap=lo by omega),Option.map_some,cD];refine .su _ _ _ _ _ _ _ hb (by omega) ?_
    have:lo * sz+(cap - lo) * sz=cap * sz:=by rw[←Nat.add_mul,Nat.add_sub_cancel' (by omega)]
    omega
   ·rename_i he
    have he:¬ lo < len:=fun h=>by rw[show Nat.blt lo len=true by simpa [Nat.blt_eq] using h] at he;cases he
    split at e
    ·rename_i h0
     have h0:=Nat.eq_of_beq_eq_true h0;subst h0;have e:=e;refine ⟨_,_,_,_,e,rfl,g1,Nat.le_trans g2 hc,by simp,?_⟩
     have:hi=0:=by omega
     subst this;have hl:len=0:=by omega
     subst hl;simp only[Option.getD_none,Nat.zero_mul,Option.map_some,cD,Nat.add_zero,ite_self,Nat.sub_zero];exact .su _ _ _ _ _ _ _ hb (by omega) (by omega)
    ·refine ⟨_,_,_,_,e,rfl,g1,Nat.le_trans g2 hc,by simp,?_⟩
     rw[show hi - lo=0 by omega];split
     ·exact .se _ _
     ·exact .se _ _
  |some m =>
   simp only at e;obtain ⟨hg,e⟩:=bR e;rw[Bool.and_eq_true,Bool.and_eq_true] at hg;have g1:=Nat.le_of_ble_eq_true hg.1.1;have g2:=Nat.le_of_ble_eq_true hg.1.2;have g3:=Nat.le_of_ble_eq_true hg.2;rw[aF,aF] at e
   split at e
   ·rename_i he
    have he:=Nat.eq_of_beq_eq_true he;exact ⟨_,_,_,_,e,rfl,g1,g2,Nat.le_trans g3 hc,by simp only[Option.getD_some,if_pos he.symm];exact .sl _ _ _ _ _ _ hb (by omega)⟩
   ·rename_i he
    rw[aF] at e;have hne:¬ m=lo:=fun h=>by rw[h,Nat.beq_refl] at he;cases he
    exact ⟨_,_,_,_,e,rfl,g1,g2,Nat.le_trans g3 hc,by simp only[Option.getD_some,if_neg hne,Option.map_some,cD];exact .sl _ _ _ _ _ _ hb (by omega)⟩
 ·cases hv with
  |se a cap =>
  cases mx with
  |none =>
   simp only at e;obtain ⟨hg,e⟩:=bR e;rw[Bool.and_eq_true] at hg;have h1:=Nat.eq_of_beq_eq_true hg.1;have h2:=Nat.eq_of_beq_eq_true hg.2;subst h1;subst h2;refine ⟨_,_,_,_,e,rfl,by simp,by simp,by simp,?_⟩;split
   ·exact .se _ _
   ·exact .se _ _
  |some m=>cases e
theorem eo {v:V} {u:Value} {k:Nat→Res} (hv:VR ρ v u) (e:zH v k=.ok r):∃ a len cap,u=.slice a len cap∧k len=.ok r∧len≤cap:=by
 cases hv <;> simp only[zH] at e <;> first|cases e|exact ⟨_,_,_,rfl,e,by simp⟩|exact ⟨_,_,_,rfl,e,by assumption⟩
theorem aJm (H:HR P w0 ρ h nx w) {t el:TypeId} {sz:Nat} {x:Operand} {lo hi mx:Option Operand} (hu:P.underlying t=some (.slice el)) (hs:aZ P el=some sz) (hmh:(mx.isSome&&hi.isNone)=false) (hT:XR ρ tm tmps (Op.operands (.slice t x lo hi mx)).toList)
  (e:pK (.slL sz (aD P x) (lo.map (aD P)) (hi.map (aD P)) (mx.map (aD P))) tm h k=.ok r):∃ v,k v=.ok r∧PG P w ρ tmps ds ⟨dst,.slice t x lo hi mx,ty,pos,aft,gd'⟩ v:=by
 simp only[pK] at e;obtain ⟨c,e1,hc⟩:=opd (ds:=ds) (o:=⟨dst,.slice t x lo hi mx,ty,pos,aft,gd'⟩) H hT (by simp [Op.operands]) e;obtain ⟨a,len,cap,hv,e2,hlc⟩:=eo hc e1;obtain ⟨l,e3,hl⟩:=sS (ds:=ds) H (hT.sub (fun y hy=>by simp [Op.operands];simp at hy;simp [hy])) e2;obtain ⟨b,e4,hb⟩:=sS (ds:=ds) H (hT.sub (fun y hy=>by simp [Op.operands];simp at hy;simp [hy])) e3;cases mx with
 |none =>
  simp only[Option.map_none] at e4;obtain ⟨c',a',len',cap',g1,g2,g3,g4,g5,g6⟩:=so hc e4;rw[hv] at g2;simp at g2;obtain ⟨rfl,rfl,rfl⟩:=g2;have hbd:=iZ (P:=P) (w:=w) (isS:=true) (len:=len) (cap:=cap) hl hb g3 (by simpa using g4);refine ⟨c',g1,_,?_,g6⟩;simp only[ev] at hbd hv;simp [execOp,ev,hv,Instr.sliceAt,Instr.slice,run_underlying hu,hbd,run_sizeOf hs]
 |some u =>
  simp only[Option.map_some] at e4;obtain ⟨c2,h2,e5⟩:=dK e4;have hc2:=eZ (ds:=ds) H.glob (hT.sub (fun y hy=>by simp [Op.operands];simp at hy;simp [hy])) h2;obtain ⟨ku,m,hm,e6⟩:=iF e5;subst hm;rcases hb with ⟨rfl,_⟩|⟨z,kz,rfl,hz⟩
  ·simp at hmh
  ·obtain ⟨c',a',len',cap',g1,g2,g3,g4,g5,g6⟩:=so hc e6
   rw[hv] at g2;simp at g2;obtain ⟨rfl,rfl,rfl⟩:=g2;have hbd:=mB (P:=P) (w:=w) (len:=len) (cap:=cap) hl hz hc2.inv_int g3 (by simpa using g4) (by simpa using g5);refine ⟨c',g1,_,?_,g6⟩;simp only[ev] at hbd hv;simp [execOp,ev,hv,Instr.sliceAt,Instr.slice,run_underlying hu,hbd,run_sizeOf hs]
end Go.CM
end
