import Derived.Test.YtdkkaldimefljaaGreatDoorC08
set_option linter.all false
noncomputable section
namespace Go.CM
variable {P:Program} {w0 w:World} {ρ ρ':Rho} {h h':T O} {nx nx':Q} {tm:T V} {tmps:Array Value} {v:V} {ops:Array Oper} {n β:Nat}
inductive DsR (P:Program) (ρ:Rho):List Df→List Deferred→Prop where
 |nil:DsR P ρ [] []
 |call (g:Nat) (cs:List V) (av cv:List Value) (ds:List Df) (dds:List Deferred) (hv:VRs ρ cs (av++cv)) (hr:DsR P ρ ds dds):DsR P ρ (.call (qn g) cs::ds) ({ target:=.fn (.func g) ⟨cv⟩,args:=⟨av⟩ }::dds)
 |coll (q:Q) (b N:Nat) (ds:List Df) (dds:List Deferred) (hq:ρ q=some (b,N)) (hr:DsR P ρ ds dds):DsR P ρ (.coll q::ds) ({ target:=.collected b,args:=#[] }::dds)
 |del (s:KK) (m key:V) (ts:Array TypeId) (ty:TypeId) (cs:Array Bool) (t el:TypeId) (um uk:Value) (ds:List Df) (dds:List Deferred) (ht:ts[0]?=some t) (hm:qZ P t=some (s,el)) (hv:VR ρ m um) (hk:VR ρ key uk) (hr:DsR P ρ ds dds) :
   DsR P ρ (.del s m key::ds) ({ target:=.builtin .delete ts ty cs,args:=#[um,uk] }::dds)
theorem DsR.mono {ds:List Df} {dds:List Deferred} (hp:ρ.le ρ') (h:DsR P ρ ds dds):DsR P ρ' ds dds:=by
 induction h with
 |nil=>exact .nil
 |call g cs av cv ds dds hv hr ih=>exact .call g cs av cv ds dds (hv.mono hp) ih
 |coll q b N ds dds hq hr ih=>exact .coll q b N ds dds (hp _ _ hq) ih
 |del s m key ts ty cs t el um uk ds dds ht hm hv hk hr ih=>exact .del s m key ts ty cs t el um uk ds dds ht hm (hv.mono hp) (hk.mono hp) ih
inductive KS (P:Program) (n:Nat):K→List Item→Prop where
 |nil:KS P n .nil []
 |code (c:Code) (k:K) (ks:List Item) (h:KS P n k ks):KS P n (.code (cU P n c) k) (.code c::ks)
 |blk (id:Nat) (k:K) (ks:List Item) (h:KS P n k ks):KS P n (.blk id k) (.inBlock id::ks)
 |lp (c:Code) (k:K) (ks:List Item) (h:KS P n k ks):KS P n (.lp (cU P n c) k) (.inLoop c::ks)
 |sc (c:Code) (k:K) (ks:List Item) (h:KS P n k ks):KS P n (.sc k) (.inScope c::ks)
 |begin (k:K) (ks:List Item) (h:KS P n k ks):KS P n (.begin k) (.beginRound::ks)
def RDR (ρ:Rho):Option Q→Option Nat→Prop
 |none,none=>True
 |some l,some b=>∃ N,ρ l=some (b,N)
 |_,_=>False
theorem RDR.mono {rd:Option Q} {ro:Option Nat} (hp:ρ.le ρ') (h:RDR ρ rd ro):RDR ρ' rd ro:=by
 cases rd <;> cases ro <;> first|exact h|exact ⟨_,hp _ _ h.choose_spec⟩
structure FB (P:Program) (ρ:Rho) (f:Q) (dk:Bool) (rd:Option Q) (b:Frame):Prop where
 fn:b.fn=f.nat
 kind:b.kind=if dk then .deferred else .normal
 ro:RDR ρ rd b.roundOf
 rk:rd≠none→dk=false
theorem FB.mono {f:Q} {dk:Bool} {rd:Option Q} {b:Frame} (hp:ρ.le ρ') (h:FB P ρ f dk rd b):FB P ρ' f dk rd b:=⟨h.fn,h.kind,h.ro.mono hp,h.rk⟩
inductive Cur (P:Program) (ρ:Rho) (h:T O) (β:Nat) (nx:Q) (n:Nat) (tm:T V):K→(Array Value→List Deferred→Frame→Frame→Prop)→Prop where
 |plain (k:K) (ks:List Item) (hk:KS P n k ks):Cur P ρ h β nx n tm k (fun tmps dds b fr=>TR ρ n tm tmps∧fr=b.atR ⟨tmps,dds⟩ ks)
 |sync (ops:Array Oper) (i:Nat) (k:K) (ks:List Item) (hi:i≤ops.size) (hk:KS P n k ks):Cur P ρ h β nx n tm (.reg ((ops.toList.drop i).map fun o=>.op (fO P n ops o)) k) (fun tmps dds b fr=>TR ρ n tm tmps∧fr=b.atR ⟨tmps,dds⟩ (.inRegion ops (List.range' i (ops.size - i))::ks))
 |drawn (ops:Array Oper) (pl:List Pl) (E:Nat) (r:List Nat) (qf:Nat→Option Q) (k:K) (ks:List Item) (hk:KS P n k ks):Cur P ρ h β nx n tm (.reg (pl.map (np P n ops)) k) (fun tmps dds b fr=>LZ P n ops ρ h β nx tm tmps pl E r qf∧fr=b.atR ⟨tmps,dds⟩ (.inRegion ops r::ks))
 |erf (l:Q) (bl N:Nat) (k:K) (ks:List Item) (hl:ρ l=some (bl,N)) (hk:KS P n k ks):Cur P ρ h β nx n tm (.erf l k) (fun tmps dds b fr=>TR ρ n tm tmps∧fr=b.atR ⟨tmps,dds⟩ (.endRangeFunc bl::ks))
 |bad (l:List PS) (k:K):Cur P ρ h β nx n tm (.reg (.op fC::l) k) (fun _ _ _ _=>True)
 |rtn (ks:List Item):Cur P ρ h β nx n tm .rtn (fun tmps dds b fr=>TR ρ n tm tmps∧fr={ b.atR ⟨tmps,dds⟩ ks with mode:=.returning })
structure FR (P:Program) (ρ:Rho) (h:T O) (β:Nat) (nx:Q) (f:Q) (dk:Bool) (rd:Option Q) (ds:List Df) (tm:T V) (k:K) (fr:Frame):Prop where
 le:β≤nx.nat
 rel:∃ b dds tmps C,FB P ρ f dk rd b∧DsR P ρ ds dds∧(rd≠none→ds=[])∧Cur P ρ h β nx (nt P f.nat) tm k C∧C tmps dds b fr
inductive Wt (P:Program) (ρ:Rho) (h:T O) (β:Nat) (nx:Q) (n:Nat) (tm:T V):K→(Array Value→List Deferred→Frame→Frame→Prop)→Prop where
 |sync (ops:Array Oper) (i:Nat) (o:Oper) (d:Option Q) (g:Option (Q×Bool)) (ob:OB) (k:K) (ks:List Item) (ho:ops[i]?=some o) (hc:fO P n ops o=.mk d g ob) (hw:isW ob=true) (hk:KS P n k ks) :
   Wt P ρ h β nx n tm (.reg (.op (.mk d g ob)::(ops.toList.drop (i+1)).map fun o=>.op (fO P n ops o)) k) (fun tmps dds b fr=>TR ρ n tm tmps∧fr=b.atR ⟨tmps,dds⟩ (.inRegion ops (i::List.range' (i+1) (ops.size - (i+1)))::ks))
 |drawn (ops:Array Oper) (i:Nat) (o:Oper) (d:Option Q) (g:Option (Q×Bool)) (ob:OB) (pl:List Pl) (E:Nat) (r:List Nat) (qf:Nat→Option Q) (k:K) (ks:List Item) (ho:ops[i]?=some o) (hc:fO P n ops o=.mk d g ob) (hw:isW ob=true) (hk:KS P n k ks) :
   Wt P ρ h β nx n tm (.reg (.op (.mk d g ob)::pl.map (np P n ops)) k) (fun tmps dds b fr=>LZ P n ops ρ h β nx tm tmps (.run i::pl) E (i::r) qf∧fr=b.atR ⟨tmps,dds⟩ (.inRegion ops (i::r)::ks))
 |inrf (l:Q) (bl N:Nat) (k:K) (ks:List Item) (hl:ρ l=some (bl,N)) (hk:KS P n k ks):Wt P ρ h β nx n tm (.inrf l k) (fun tmps dds b fr=>TR ρ n tm tmps∧fr=b.atR ⟨tmps,dds⟩ (.inRangeFunc bl::ks))
 |rtn (ks:List Item):Wt P ρ h β nx n tm .rtn (fun tmps dds b fr=>TR ρ n tm tmps∧fr={ b.atR ⟨tmps,dds⟩ ks with mode:=.returning })
structure WR (P:Program) (ρ:Rho) (h:T O) (β:Nat) (nx:Q) (f:Q) (dk:Bool) (rd:Option Q) (ds:List Df) (tm:T V) (k:K) (fr:Frame):Prop where
 le:β≤nx.nat
 rel:∃ b dds tmps C,FB P ρ f dk rd b∧DsR P ρ ds dds∧(rd≠none→ds=[])∧Wt P ρ h β nx (nt P f.nat) tm k C∧C tmps dds b fr
inductive StkR (P:Program):Rho→T O→List Fr→List Frame→Nat→Prop where
 |nil (ρ:Rho) (h:T O) (β:Nat):StkR P ρ h [] [] β
 |cons (ρ ρ':Rho) (h h':T O) (f:Q) (dk:Bool) (rd:Option Q) (ds:List Df) (tm:T V) (k:K) (cs:List Fr) (fr:Frame) (frs:List Frame) (β β':Nat) (nx:Q) (hf:WR P ρ h β nx f dk rd ds tm k fr) (hn:nx.nat≤β') (hK:Keep nx.nat ρ h ρ' h') (hs:StkR P ρ' h' cs frs β) :
   StkR P ρ' h' (.mk f dk rd ds tm k::cs) (fr::frs) β'
theorem StkR.mono {cs:List Fr} {frs:List Frame} (hs:StkR P ρ h cs frs β) (hK:Keep β ρ h ρ' h'):StkR P ρ' h' cs frs β:=by
 induction hs generalizing ρ' h' with
 |nil=>exact .nil _ _ _
 |cons ρ ρ1 h h1 f dk rd ds tm k cs fr frs β β' nx hf hn hK1 hs ih =>
  exact .cons ρ ρ' h h' f dk rd ds tm k cs fr frs β β' nx hf hn (hK1.trans (hK.down hn)) (ih (hK.down (Nat.le_trans hf.le hn)))
def Final (P:Program) (w0:World) (m:Machine) (c0:Frame) (cs0:List Frame) (v:V):Prop :=
 ∃ w' ρ' h' nx' u x,Steps P m (lone (c0.finish u) cs0 w')∧HR P w0 ρ' h' nx' w'∧VR ρ' x u∧fin x h'=v
def Good (P:Program) (ih:Run):Prop:=∀ (w0 w:World) (ρ:Rho) (β:Nat) (f:Q) (dk:Bool) (rd:Option Q) (ds:List Df) (tm:T V) (k:K) (cs:List Fr) (h:T O) (nx:Q) (v:V) (fr:Frame) (frs:List Frame) (c0:Frame) (cs0:List Frame),
 ih f dk rd ds tm k cs h nx=.ok v→HR P w0 ρ h nx w→FR P ρ h β nx f dk rd ds tm k fr→StkR P ρ h cs frs β→Final P w0 (lone fr (frs++c0::cs0) w) c0 cs0 v
theorem Final.steps {m m':Machine} {c0:Frame} {cs0:List Frame} (hs:Steps P m m') (h:Final P w0 m' c0 cs0 v):Final P w0 m c0 cs0 v:=by
 obtain ⟨w',ρ',h',nx',u,x,s,a,b⟩:=h;exact ⟨w',ρ',h',nx',u,x,hs.trans s,a,b⟩
end Go.CM
end
noncomputable section
namespace Go.CM
variable {P:Program} {w0 w:World} {ρ ρ':Rho} {h h':T O} {nx nx':Q} {tm:T V} {tmps:Array Value} {v:V} {ops:Array Oper} {n β:Nat} {f:Q} {dk:Bool} {rd:Option Q} {ds:List Df} {k:K} {cs:List Fr} {fr b:Frame} {frs:List Frame} {c0:Frame} {cs0:List Frame} {ih:Run}
theorem lV {a:Act} {k:List Item} {cs:List Frame} {c:Code}:step P (lone (b.atR a (.code (.scope c)::k)) cs w)=.next (lone (b.atR a (.code c::.inScope c::k)) cs w) :=
 step_lone_go (by simp [stepG,stepG.exec,Frame.atR])
theorem jZ {a:Act} {k:List Item} {cs:List Frame} {c:Code}:step P (lone (b.atR a (.inScope c::k)) cs w)=.next (lone (b.atR a k) cs w) :=
 step_lone_go (by simp [stepG,stepG.exec,Frame.atR])
structure Ctx (P:Program) (w0 w:World) (ρ:Rho) (h:T O) (β:Nat) (nx:Q) (f:Q) (dk:Bool) (rd:Option Q) (ds:List Df) (cs:List Fr) (frs:List Frame) (b:Frame) (dds:List Deferred):Prop where
 H:HR P w0 ρ h nx w
 le:β≤nx.nat
 B:FB P ρ f dk rd b
 D:DsR P ρ ds dds
 rn:rd≠none→ds=[]
 S:StkR P ρ h cs frs β
theorem Ctx.go {dds:List Deferred} (C:Ctx P w0 w ρ h β nx f dk rd ds cs frs b dds) (G:Good P ih) {X:Array Value→List Deferred→Frame→Frame→Prop} (hc:Cur P ρ h β nx (nt P f.nat) tm k X) (hx:X tmps dds b fr) (e:ih f dk rd ds tm k cs h nx=.ok v):Final P w0 (lone fr (frs++c0::cs0) w) c0 cs0 v :=
 G w0 w ρ β f dk rd ds tm k cs h nx v fr frs c0 cs0 e C.H ⟨C.le,b,dds,tmps,X,C.B,C.D,C.rn,hc,hx⟩ C.S
theorem Ctx.plain {dds:List Deferred} (C:Ctx P w0 w ρ h β nx f dk rd ds cs frs b dds) (G:Good P ih) {ks:List Item} (hk:KS P (nt P f.nat) k ks) (hT:TR ρ (nt P f.nat) tm tmps) (e:ih f dk rd ds tm k cs h nx=.ok v):Final P w0 (lone (b.atR ⟨tmps,dds⟩ ks) (frs++c0::cs0) w) c0 cs0 v :=
 C.go G (.plain k ks hk) ⟨hT,rfl⟩ e
theorem aCj {id:Nat} {kf:K→Res} {kn:Res}:∀ {k:K} {ks:List Item},KS P n k ks→eP id k kf kn=.ok v→(∃ k' ks',kf k'=.ok v∧exitTo id ks=some ks'∧KS P n k' ks')∨(kn=.ok v∧exitTo id ks=none):=by
 intro k ks hk e;induction hk with
 |nil=>exact .inr ⟨e,rfl⟩
 |code c k ks hk ih=>simp only[eP] at e;exact ih e
 |blk id' k ks hk ih =>
  simp only[eP] at e
  split at e
  ·rename_i hb
   have hb:=Nat.eq_of_beq_eq_true hb;exact .inl ⟨_,ks,e,by simp [exitTo,hb],hk⟩
  ·rename_i hb
   have hne:¬ id'=id:=fun h=>by rw[h,Nat.beq_refl] at hb;cases hb
   rcases ih e with ⟨k',ks',h1,h2,h3⟩|⟨h1,h2⟩
   ·exact .inl ⟨k',ks',h1,by simp [exitTo,hne,h2],h3⟩
   ·exact .inr ⟨h1,by simp [exitTo,hne,h2]⟩
 |lp c k ks hk ih=>simp only[eP] at e;exact ih e
 |sc c k ks hk ih=>simp only[eP] at e;exact ih e
 |begin k ks hk ih=>simp only[eP] at e;exact ih e
theorem HR.loop (H:HR P w0 ρ h nx w) {l:Q} {bl N:Nat} {lp:Lp} (hl:ρ l=some (bl,N)) (hob:h.ob l=.loop lp):∃ r,w.heap[bl]?=some (.loop r)∧LR P ρ lp r∧w0.heap.size≤bl∧bl < w.heap.size:=by
 have:=H.obj l bl N hl
 rw[hob] at this;cases this with|loop _ r _ _ hb hw hlr=>exact ⟨r,hw,hlr,hb,(Array.getElem?_eq_some_iff.1 hw).1⟩
theorem HR.setLoop (H:HR P w0 ρ h nx w) {l:Q} {bl N:Nat} {lp lp':Lp} {r':Loop} (hl:ρ l=some (bl,N)) (hob:h.ob l=.loop lp) (hB:w0.heap.size≤bl) (hlt:bl < w.heap.size) (hr:LR P ρ lp' r') :
  HR P w0 ρ (h.put .dead (.loop lp') l) nx (w.putObj bl (.loop r'))∧Keep nx.nat ρ h ρ (h.put .dead (.loop lp') l) :=
 H.putMap hl hob rfl (fun _ _ _ _ _ _ e=>by cases e) rfl (fun _ _ _ _ _ _ e=>by cases e) hB (.loop _ _ _ _ hB (World.putObj_heap_same hlt) hr)
theorem run_getLoop {bl:Nat} {r:Loop} (hw:w.heap[bl]?=some (.loop r)):(Instr.getLoop bl).run P w=.ok r w:=by
 simp [Instr.getLoop,AM.run_getObj (P:=P) hw (by simp)]
theorem aFa {l:Q} {dds:List Deferred} (C:Ctx P w0 w ρ h β nx f dk rd ds cs frs b dds) (hrd:rd=some l) {j:Jump} {jc:Option Code} (hj:JR j jc) {bb:Bool} (hbb:bb=jc.isNone) {a:Act} {todo:List Item}
  (hstep:∀ {bl:Nat} {u:Value} {w':World} {c:Frame} {cs:List Frame},b.roundOf=some bl→b.kind=.normal→(Instr.endRound bl jc).run P w=.ok u w'→step P (lone (b.atR a todo) (c::cs) w)=.next (lone (c.finish u) cs w'))
  (hfin:∀ {c:Fr} {cs':List Fr} {fr':Frame} {frs':List Frame} {w':World} {h':T O} {u:Value} {x:V},cs=c::cs'→frs=fr'::frs'→HR P w0 ρ h' nx w'→Keep nx.nat ρ h ρ h'→VR ρ x u→nX ih c cs' x h' nx=.ok v→Final P w0 (lone (fr'.finish u) (frs'++c0::cs0) w') c0 cs0 v)
  (e:iu ih l j bb cs h nx=.ok v):Final P w0 (lone (b.atR a todo) (frs++c0::cs0) w) c0 cs0 v:=by
 unfold iu at e;rw[bS] at e;obtain ⟨st,pend,fn,tm',ps,asg,body,dfs,hob,e1⟩:=fF e;rw[cK] at e1;have hro:=C.B.ro;rw[hrd] at hro;cases hbr:b.roundOf with
 |none=>rw[hbr] at hro;exact hro.elim
 |some bl =>
  rw[hbr] at hro;obtain ⟨N,hl⟩:=hro;obtain ⟨r,hw,hlr,hB,hlt⟩:=C.H.loop hl hob;have hkind:b.kind=.normal:=by rw[C.B.kind,C.B.rk (by rw[hrd];simp)];rfl
  cases hlr with
  |mk _ _ fn' _ _ _ N' h1 h2 h3 h4 h5 h6 =>
  have hlr':LR P ρ (.mk (match (generalizing:=false) bb with|true=>0|false=>2) j (qn fn') tm' (r.params.toList.map qn) (cU P (nt P fn') r.assign) (cU P (nt P fn') r.body) dfs) { r with state:=if jc.isNone then .ready else .done,pending:=jc }:=by
   refine LR.mk (P:=P) (ρ:=ρ) _ j fn' tm' dfs { r with state:=if jc.isNone then .ready else .done,pending:=jc } N' ?_ hj h3 h4 h5 h6;subst hbb;cases jc <;> first|exact .ready|exact .done
  obtain ⟨f1,f2⟩:=C.H.setLoop hl hob hB hlt hlr'
  have hrun:(Instr.endRound bl jc).run P w=.ok (.bool jc.isNone) (w.putObj bl (.loop { r with state:=if jc.isNone then .ready else .done,pending:=jc })):=by
   simp [Instr.endRound,run_getLoop hw,AM.run_setObj (P:=P) hw (by simp)]
  have hst:=C.S
  split at e1
  ·cases e1
  ·rename_i c cs'
   cases hst with
   |cons ρ0 _ h0 _ f' dk' rd' ds' tm2 k' _ fr' frs' β0 _ nx0 hf hn hK hs =>
   refine Final.steps (Steps.one (hstep hbr hkind hrun)) ?_;exact hfin (x:=.bool bb) rfl rfl f1 f2 (by rw[hbb];exact .bool _) e1
end Go.CM
end
noncomputable section
namespace Go.CM
variable {P:Program} {w0 w:World} {ρ ρ':Rho} {h h':T O} {nx nx':Q} {tm:T V} {tmps:Array Value} {v:V} {ops:Array Oper} {n β:Nat} {f:Q} {dk:Bool} {rd:Option Q} {ds:List Df} {k:K} {cs:List Fr} {fr b:Frame} {frs:List Frame} {c0:Frame} {cs0:List Frame} {ih:Run}
theorem TR.put {x:V} {u:Value} {d:Option Nat} (hT:TR ρ n tm tmps) (hd:∀ y,d=some y→y < n) (hv:VR ρ x u):TR ρ n (sC tm d x) (nD tmps d u):=by
 refine ⟨by rw[qS];exact hT.size,fun t=>?_⟩;rw[fV,vK (fun y hy=>Nat.lt_of_lt_of_le (hd y hy) hT.size)];split
 ·exact hv
 ·exact hT.rel t
theorem vV {a:Act} {i:Nat} {o:Oper} {rest:List Nat} {ks:List Item} {u:Value} {tmps:Array Value} {dds:List Deferred} (ho:ops[i]?=some o):(b.atR ⟨tmps,dds⟩ (.inRegion ops (i::rest)::ks)).finish u=b.atR ⟨nD tmps o.dst u,dds⟩ (.inRegion ops rest::ks):=by
 rw[Frame.finish_atR,ho,←put_eq];rfl
theorem aB3 {ob:OB} (hw:isW ob=true):ob≠.p .bad:=fun e=>by subst e;cases hw
theorem aBq {i:Nat} {o:Oper} (ho:ops[i]?=some o):ops.toList.drop i=o::ops.toList.drop (i+1):=by
 have hi:i < ops.toList.length:=by simpa using (Array.getElem?_eq_some_iff.1 ho).1
 rw[List.drop_eq_getElem_cons hi];congr 1
 have:=(Array.getElem?_eq_some_iff.1 ho).2
 simpa using this
theorem uq (G:Good P ih) (H:HR P w0 ρ' h' nx' w) {ρ0:Rho} {h0:T O} {nx0:Q} {x:V} {u:Value} (W:WR P ρ0 h0 β nx0 f dk rd ds tm k fr) (hn:nx0.nat≤nx'.nat) (hK:Keep nx0.nat ρ0 h0 ρ' h') (hS:StkR P ρ' h' cs frs β) (hv:VR ρ' x u)
  (e:nX ih (.mk f dk rd ds tm k) cs x h' nx'=.ok v):Final P w0 (lone (fr.finish u) (frs++c0::cs0) w) c0 cs0 v:=by
 obtain ⟨hle,b,dds,tmps,C,hB,hD,hrn,hW,hC⟩:=W;have hle':β≤nx'.nat:=Nat.le_trans hle hn;have X:Ctx P w0 w ρ' h' β nx' f dk rd ds cs frs b dds:=⟨H,hle',hB.mono hK.le,hD.mono hK.le,hrn,hS⟩
 cases hW with
 |sync ops i o d g ob k ks ho hc hw hk =>
  obtain ⟨hT,rfl⟩:=hC;obtain ⟨_,hd,hx,_⟩:=eQ hc (yz (aB3 hw));simp only[nX] at e;rw[hd,eJ] at e;rw[vV (a:=⟨tmps,dds⟩) ho];have hi:=(Array.getElem?_eq_some_iff.1 ho).1;exact X.go G (.sync ops (i+1) k ks hi hk) ⟨(hT.mono hK.le).put hx hv,rfl⟩ e
 |drawn ops i o d g ob pl E r qf k ks ho hc hw hk =>
  obtain ⟨hL,rfl⟩:=hC;obtain ⟨hb,hd,hx,_⟩:=eQ hc (yz (aB3 hw));simp only[nX] at e;rw[hd,eJ] at e;rw[vV (a:=⟨tmps,dds⟩) ho];exact X.go G (.drawn ops pl (E ||| 2 ^ i) r qf k ks hk) ⟨hL.sync ho (by unfold wOf;rw[←hb,hw];rfl) hx hn hK hv,rfl⟩ e
 |inrf l bl N k ks hl hk =>
  obtain ⟨hT,rfl⟩:=hC;simp only[nX] at e;exact X.go G (.erf l bl N k ks (hK.le _ _ hl) hk) ⟨hT.mono hK.le,rfl⟩ e
 |rtn ks=>simp only[nX] at e;cases e
theorem au {l:Q} {dds:List Deferred} (G:Good P ih) (C:Ctx P w0 w ρ h β nx f dk rd ds cs frs b dds) (hrd:rd=some l) {j:Jump} {jc:Option Code} (hj:JR j jc) {bb:Bool} (hbb:bb=jc.isNone) {a:Act} {todo:List Item}
  (hstep:∀ {bl:Nat} {u:Value} {w':World} {c:Frame} {cs:List Frame},b.roundOf=some bl→b.kind=.normal→(Instr.endRound bl jc).run P w=.ok u w'→step P (lone (b.atR a todo) (c::cs) w)=.next (lone (c.finish u) cs w'))
  (e:iu ih l j bb cs h nx=.ok v):Final P w0 (lone (b.atR a todo) (frs++c0::cs0) w) c0 cs0 v:=by
 refine aFa C hrd hj hbb hstep (fun {c cs' fr' frs' w' h' u x} h1 h2 H' hK hv e'=>?_) e;subst h1;subst h2;have hS:=C.S;cases hS with
 |cons ρ0 _ hh0 _ f' dk' rd' ds' tm2 k' _ _ _ β0 _ nx0 hf hn hK0 hs =>
 exact uq G H' hf (Nat.le_trans hn C.le) (hK0.trans (hK.down (Nat.le_trans hn C.le))) (hs.mono (hK.down (Nat.le_trans hf.le (Nat.le_trans hn C.le)))) hv e'
theorem aC7 {dds:List Deferred} (C:Ctx P w0 w ρ h β nx f dk rd ds cs frs b dds) {d:Nat}:Ctx P w0 { w with drawn:=d } ρ h β nx f dk rd ds cs frs b dds:=⟨C.H.drawn d,C.le,C.B,C.D,C.rn,C.S⟩
theorem nu {r:List Nat}:∀ {D:Nat→Prop},Ordr ops D r→r.Nodup∧(∀ i∈r,i < ops.size∧¬ D i)∧∀ i,i < ops.size→D i∨i∈r:=by
 induction r with
 |nil =>
  intro D h;cases h with|nil h=>exact ⟨List.nodup_nil,by simp,fun i hi=>.inl (h i hi)⟩
 |cons i r ih =>
  intro D h;cases h with
  |cons hi hn he hr =>
  obtain ⟨h1,h2,h3⟩:=ih hr;refine ⟨List.nodup_cons.2 ⟨fun hm=>(h2 i hm).2 (.inr rfl),h1⟩,fun j hj=>?_,fun j hj=>?_⟩
  ·rcases List.mem_cons.1 hj with rfl|hj
   ·exact ⟨hi,hn⟩
   ·exact ⟨(h2 j hj).1,fun hD=>(h2 j hj).2 (.inl hD)⟩
  ·rcases h3 j hj with (h4|rfl)|h4
   ·exact .inl h4
   ·exact .inr (by simp)
   ·exact .inr (by simp [h4])
theorem aAI {fe:Q→CF} {dds:List Deferred} {c:Code} {ks:List Item} (hm:P.follows .mixedOrders=true) (G:Good P ih) (C:Ctx P w0 w ρ h β nx f dk rd ds cs frs b dds) (hk:KS P (nt P f.nat) k ks) (hT:TR ρ (nt P f.nat) tm tmps)
  (hrf:∀ x ps asg body,c≠.rangeFunc x ps asg body) (e:lI ih f dk rd ds tm (cU P (nt P f.nat) c) k cs h nx fe=.ok v):Final P w0 (lone (b.atR ⟨tmps,dds⟩ (.code c::ks)) (frs++c0::cs0) w) c0 cs0 v:=by
 cases c with
 |skip=>exact Final.steps (Steps.one stepR_skip) (C.plain G hk hT e)
 |label l=>exact Final.steps (Steps.one stepR_label) (C.plain G hk hT e)
 |seq x y=>exact Final.steps (Steps.one stepR_seq) (C.plain G (.code x _ _ (.code y _ _ hk)) hT e)
 |block id c=>exact Final.steps (Steps.one stepR_block) (C.plain G (.code c _ _ (.blk id _ _ hk)) hT e)
 |loop c=>exact Final.steps (Steps.one stepR_loop) (C.plain G (.code c _ _ (.lp c _ _ hk)) hT e)
 |scope c=>exact Final.steps (Steps.one lV) (C.plain G (.code c _ _ (.sc c _ _ hk)) hT e)
 |cond x y z =>
  simp only[cU,lI] at e;obtain ⟨c,h1,e1⟩:=dK e;have hc:=eZ (ds:=dds) C.H.glob (fun t _=>hT.rel t) h1;obtain ⟨bb,hbb,e2⟩:=uH e1;subst hbb;refine Final.steps (Steps.one (stepR_cond (a:=⟨tmps,dds⟩) hc.inv_bool)) ?_;cases bb with
  |true=>exact C.plain G (.code y _ _ hk) hT e2
  |false=>exact C.plain G (.code z _ _ hk) hT e2
 |exit id =>
  simp only[cU,lI] at e;rcases aCj hk e with ⟨k',ks',h1,h2,h3⟩|⟨h1,h2⟩
  ·exact Final.steps (Steps.one (stepR_exit h2)) (C.plain G h3 hT h1)
  ·split at h1
   ·cases h1
   ·exact au G C rfl (.exit id) rfl (fun hb hkk hr=>stepR_round_exit hb hkk h2 hr) h1
 |ret =>
  simp only[cU,lI] at e
  split at e
  ·have hro:=C.B.ro
   cases hbr:b.roundOf with
   |some bl=>rw[hbr] at hro;exact hro.elim
   |none=>exact Final.steps (Steps.one (stepR_ret hbr)) (C.go G (.rtn _) ⟨hT,rfl⟩ e)
  ·exact au G C rfl .ret rfl (fun hb hkk hr=>stepR_round_ret hb hkk hr) e
 |region id ops draw =>
  cases draw with
  |false =>
   refine Final.steps (Steps.one stepR_region) ?_
   have:=Cur.sync (P:=P) (ρ:=ρ) (h:=h) (β:=β) (nx:=nx) (tm:=tm) ops 0 k ks (Nat.zero_le _) hk
   rw[List.drop_zero,Nat.sub_zero] at this;exact C.go G this ⟨hT,by rw[List.range_eq_range']⟩ e
  |true =>
   simp only[cU,lI] at e;refine Final.steps (Steps.one stepR_region_draw) ?_;have C':=aC7 (d:=w.drawn+1) C;unfold aCU at e;simp only at e
   split at e
   ·rename_i hg
    simp only[Bool.and_eq_true] at hg;obtain ⟨⟨⟨g1,g2⟩,g3⟩,g4⟩:=hg
    have hE:mg ops:=fun i o ho e he hb=>by
     have:=yR g2 i o (by rw[Array.getElem?_toList];exact ho) e he hb
     omega
    have hr:=w7 (P:=P) hm hE (w.tape w.drawn (.order b.fn id));obtain ⟨r1,r2,r3⟩:=nu hr;have hL:=LZ.start (h:=h) (β:=β) (nx:=nx) hT ⟨Nat.eq_of_beq_eq_true g1,hE,g3⟩ g4 hr r1 (fun i hi=>(r2 i hi).1) (fun i hi=>(r3 i hi).resolve_left (fun h=>h)) (fun _=>none);exact C'.go G (.drawn ops _ 0 _ _ k ks hk) ⟨hL,rfl⟩ e
   ·exact C'.go G (tmps:=tmps) (.bad [] k) trivial e
 |rangeFunc x ps asg body=>exact absurd rfl (hrf _ _ _ _)
 |goto l=>cases e
 |refuse why=>cases e
end Go.CM
end
noncomputable section
namespace Go.CM
variable {P:Program} {w0 w:World} {ρ ρ':Rho} {h h':T O} {nx nx':Q} {tm:T V} {tmps:Array Value} {v:V} {ops:Array Oper} {n β:Nat} {f:Q} {dk:Bool} {rd:Option Q} {ds:List Df} {k:K} {cs:List Fr} {fr b:Frame} {frs:List Frame} {c0:Frame} {cs0:List Frame} {ih:Run} {fe:Q→CF}
def uE (P:Program) (fe:Q→CF):Prop:=∀ g:Nat,fe (qn g)=.none∨fe (qn g)=compF P g
def nE (P:Program):Prop:=∀ (g:Nat) (m:Nat),compF P g=.ext m→∀ (w:World) (ρ:Rho) (vs:List V) (us:List Value) (k:V→Res) (v:V),VRs ρ vs us→eg m vs k=.ok v→∃ x u,k x=.ok v∧VR ρ x u∧(callFunc g ⟨us⟩).run P w=.ok (.value u) w
theorem oK {g:Nat} {body:C} {rs:List RV} (h:compF P g=.mk body rs):∃ fn c,P.funcs[g]?=some fn∧fn.body=some c∧(fn.name== "runtime.NumGoroutine")=false∧rM P fn.results.toList=some rs∧body=cU P fn.ntmps c:=by
 unfold compF at h
 split at h
 ·cases h
 ·rename_i fn hf
  split at h
  ·split at h <;> cases h
  ·rename_i c hc
   split at h
   ·cases h
   ·rename_i hn
    split at h
    ·cases h
    ·rename_i rs' hrs
     cases h;exact ⟨fn,c,hf,hc,hn,hrs,rfl⟩
theorem nt_of {g:Nat} {fn:Func} (h:P.funcs[g]?=some fn):nt P g=fn.ntmps:=by simp [nt,h]
theorem zk {vs:List V} {us:List Value} (hv:VRs ρ vs us) (m:Nat) (hm:us.length+m≥n):TR ρ n (dE vs 0 .nil) (⟨us⟩++Array.replicate m Go.undef):=by
 refine ⟨by simp;omega,fun t=>?_⟩;rw[iA];have hl:=hv.1;by_cases ht:t < vs.length
 ·rw[if_pos ⟨by omega,by omega⟩,Array.getD_eq_getD_getElem?,Array.getElem?_append_left (by simp;omega)]
  have htu:t < us.length:=by omega
  have:=hv.2 t vs[t] us[t] (by simp [ht]) (by simp [htu])
  simpa [List.getD_eq_getElem?_getD,ht,htu] using this
 ·rw[if_neg (by omega),Array.getD_eq_getD_getElem?]
  have h1:(T.nil:T V).at t=V.undef:=T.get_nil _ _;rw[h1];by_cases h2:t < us.length+m
  ·rw[Array.getElem?_append_right (by simp;omega)]
   simp only[Array.getElem?_replicate];split
   ·exact VR.undef
   ·exact VR.undef
  ·rw[Array.getElem?_eq_none (by simp;omega)]
   exact VR.undef
theorem uU {g:Nat} {vs:List V} {us:List Value} {body:C} {rs:List RV} (G:Good P ih) (H:HR P w0 ρ h nx w) (hv:VRs ρ vs us) (hS:StkR P ρ h cs frs nx.nat) (hc:compF P g=.mk body rs)
  (e:(uG vs .e .nil fun tm=>ih (qn g) dk none [] tm (.code body .nil) cs h nx)=.ok v):Final P w0 (lone (Frame.enter P g ⟨us⟩ (if dk then .deferred else .normal)) (frs++c0::cs0) w) c0 cs0 v:=by
 obtain ⟨fn,c,h1,h2,h3,h4,rfl⟩:=oK hc;rw[j7,show (Q.e:Q)=qn 0 from rfl,wS] at e;have hnt:=nt_of h1;have hT:=zk (n:=nt P g) hv ((fn.ntmps) - us.length) (by omega)
 let b:Frame:={ fn:=g,tmps:=#[],todo:=[],defers:=[],mode:=.run,kind:=if dk then .deferred else .normal }
 have X:Ctx P w0 w ρ h nx.nat nx (qn g) dk none [] cs frs b []:=⟨H,Nat.le_refl _,⟨by simp [b,dY],rfl,trivial,fun h=>absurd rfl h⟩,.nil,fun _=>rfl,hS⟩
 have hfr:Frame.enter P g ⟨us⟩ (if dk then .deferred else .normal)=b.atR ⟨⟨us⟩++Array.replicate (fn.ntmps - us.length) Go.undef,[]⟩ [.code c]:=by
  simp [Frame.enter,Frame.atR,h1,h2,b]
 rw[hfr];refine X.plain (tm:=dE vs 0 .nil) G (.code c _ _ .nil) ?_ ?_
 ·rw[dY];exact hT
 ·rw[dY,hnt];exact e
theorem sk:∀ {ps:List Nat} {vs:List V} {us:List Value} {tm:T V} {tmps:Array Value} {k:T V→Res},VRs ρ vs us→TR ρ n tm tmps→(∀ t∈ps,t < n)→oj (ps.map qn) vs tm k=.ok v →
  ∃ tm',k tm'=.ok v∧ps.length=us.length∧TR ρ n tm' ((ps.zip us).foldl (fun tmps (t,a)=>tmps.setIfInBounds t a) tmps)
 |[],[],us,tm,tmps,k,hv,hT,hp,e=>by rw[hv.inv_nil];exact ⟨tm,e,rfl,hT⟩
 |[],_::_,us,tm,tmps,k,hv,hT,hp,e=>by cases e
 |_::_,[],us,tm,tmps,k,hv,hT,hp,e=>by cases e
 |p::ps,x::vs,us,tm,tmps,k,hv,hT,hp,e=>by
  obtain ⟨u,us',rfl,h1,h2⟩:=hv.inv_cons;simp only[List.map_cons,oj,tg] at e;have hT':TR ρ n (tm.put V.undef x (qn p)) (tmps.setIfInBounds p u):=hT.put (d:=some p) (fun y hy=>by cases hy;exact hp p (by simp)) h1;obtain ⟨tm',a1,a2,a3⟩:=sk h2 hT' (fun t ht=>hp t (by simp [ht])) e;exact ⟨tm',a1,by simp [a2],a3⟩
theorem kI {fv:V} {uf:Value} {vs:List V} {us:List Value} {c:Fr} (hfe:uE P fe) (hx:nE P) (G:Good P ih) (H:HR P w0 ρ h nx w) (hfv:VR ρ fv uf) (hv:VRs ρ vs us) (hS:StkR P ρ h (c::cs) (fr::frs) nx.nat) (e:dD fe ih fv vs (c::cs) h nx=.ok v) :
  ∃ d,(Deferred.ofValue uf ⟨us⟩).run P w=.ok d w ∧
   ((∃ g all,(invoke d.target d.args).run P w=.ok (.enter g all) w∧Final P w0 (lone (Frame.enter P g all .normal) (fr::(frs++c0::cs0)) w) c0 cs0 v) ∨
    (∃ l g tmps x y,(invoke d.target d.args).run P w=.ok (.round l g tmps x y) w∧Final P w0 (lone (Frame.round l g tmps x y .normal) (fr::(frs++c0::cs0)) w) c0 cs0 v) ∨
    ∃ x u,(invoke d.target d.args).run P w=.ok (.value u) w∧VR ρ x u∧nX ih c cs x h nx=.ok v):=by
 cases fv <;> simp only[dD] at e <;> first|cases e|skip
 ·rename_i f fs caps
  obtain ⟨ua,ub,rfl,h1,h2⟩:=hfv.inv_fn;rw[eX,eX] at e;have hall:VRs ρ (fs++(vs++caps)) (ua++(us++ub)):=h1.append (hv.append h2);refine ⟨{ target:=.fn (.func f.nat) ⟨ub⟩,args:=⟨ua⟩++⟨us⟩ },by simp [Deferred.ofValue],?_⟩;have harr:((⟨ua⟩:Array Value)++⟨us⟩)++⟨ub⟩=⟨ua++(us++ub)⟩:=by apply Array.ext';simp
  unfold gK at e;rw[mU] at e
  split at e
  ·cases e
  ·rename_i m hcf
   have hcf':compF P f.nat=.ext m:=by
    rcases hfe f.nat with h0|h0
    ·rw[nT] at h0;rw[h0] at hcf;cases hcf
    ·rw[nT] at h0;rw[←h0];exact hcf
   simp only at e;obtain ⟨x,u,a1,a2,a3⟩:=hx f.nat m hcf' w ρ _ _ _ _ hall e;refine .inr (.inr ⟨x,u,?_,a2,a1⟩);simp only[invoke,harr];exact a3
  ·rename_i body rs hcf
   have hcf':compF P f.nat=.mk body rs:=by
    rcases hfe f.nat with h0|h0
    ·rw[nT] at h0;rw[h0] at hcf;cases hcf
    ·rw[nT] at h0;rw[←h0];exact hcf
   obtain ⟨fn,cc,g1,g2,g3,g4,_⟩:=oK hcf';refine .inl ⟨f.nat,⟨ua++(us++ub)⟩,?_,?_⟩
   ·simp only[invoke,harr]
    simp [callFunc,g1,g2,g3];intro hn;rw[hn] at g3;simp at g3
   ·have:=uU (dk:=false) (c0:=c0) (cs0:=cs0) G H hall hS hcf' (by rw[nT];exact e)
    simpa using this
 ·rename_i l
  obtain ⟨bl,N,rfl,hl⟩:=hfv.inv_yld;rw[bS] at e;obtain ⟨st,pend,fn,tm',ps,asg,body,dfs,hob,e1⟩:=fF e;obtain ⟨r,hw,hlr,hB,hlt⟩:=H.loop hl hob;cases hlr with
  |mk _ _ fn' _ _ _ N' h1 h2 h3 h4 h5 h6 =>
  obtain ⟨tm2,a1,a2,a3⟩:=sk hv h4 h5 e1;refine ⟨{ target:=.fn (.yield bl) #[],args:=#[]++⟨us⟩ },by simp [Deferred.ofValue],.inr (.inl ⟨bl,r.fn,(r.params.zip ⟨us⟩).foldl (fun tmps (t,a)=>tmps.setIfInBounds t a) r.tmps,r.assign,r.body,?_,?_⟩)⟩
  ·have hsz:us.length=r.params.size:=by rw[←a2];simp
   simp [invoke,Instr.yield,run_getLoop hw,hsz]
  ·let b:Frame:={ fn:=r.fn,tmps:=#[],todo:=[],defers:=[],mode:=.run,kind:=.normal,roundOf:=some bl }
   have X:Ctx P w0 w ρ h nx.nat nx (qn fn') false (some l) [] (c::cs) (fr::frs) b []:=⟨H,Nat.le_refl _,⟨by simp [b,dY,h3],rfl,⟨N,hl⟩,fun _=>rfl⟩,.nil,fun _=>rfl,hS⟩
   have hfr:∀ tt,Frame.round bl r.fn tt r.assign r.body .normal=b.atR ⟨tt,[]⟩ [.code r.assign,.beginRound,.code r.body]:=fun tt=>by simp [Frame.round,Frame.atR,b]
   rw[hfr]
   have:=X.plain (c0:=c0) (cs0:=cs0) (v:=v) (tm:=tm2) (tmps:=(r.params.zip ⟨us⟩).foldl (fun tmps (t,a)=>tmps.setIfInBounds t a) r.tmps) G (.code r.assign _ _ (.begin _ _ (.code r.body _ _ .nil))) (by
    rw[dY]
    have hz:(r.params.zip ⟨us⟩).foldl (fun tmps (t,a)=>tmps.setIfInBounds t a) r.tmps=(r.params.toList.zip us).foldl (fun tmps (t,a)=>tmps.setIfInBounds t a) r.tmps:=by
     rw[←Array.foldl_toList];simp
    rw[hz];exact a3) (by rw[dY];exact a1)
   exact this
end Go.CM
end
