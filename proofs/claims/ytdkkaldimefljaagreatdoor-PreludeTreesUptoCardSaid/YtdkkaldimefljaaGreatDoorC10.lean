import Derived.Test.YtdkkaldimefljaaGreatDoorC09
set_option linter.all false
noncomputable section
namespace Go.CM
open Go.AM (cY eW jL k9)
variable {P:Program} {w0 w:World} {ρ ρ':Rho} {h h':T O} {nx nx':Q} {tm:T V} {tmps:Array Value} {v:V} {ops:Array Oper} {n β:Nat} {f:Q} {dk:Bool} {rd:Option Q} {ds:List Df} {k:K} {cs:List Fr} {fr b:Frame} {frs:List Frame} {c0:Frame} {cs0:List Frame} {ih:Run} {fe:Q→CF} {i:Nat} {o:Oper} {rest:List Nat} {l:List PS} {ks:List Item} {dds:List Deferred}
theorem step_defer {a:Act} {d:Deferred} {w':World} {cs:List Frame} (ho:ops[i]?=some o) (hw:Region.wanted o (yielded ops a.tmps)=true) (hb:b.roundOf=none) (hr:(execOp a.eval o).run P w=.ok (.defer d) w') :
  step P (lone (b.atR a (.inRegion ops (i::rest)::ks)) cs w)=.next (lone (b.atR ((⟨a.tmps,d::a.defers⟩:Act).put o.dst Go.undef) (.inRegion ops rest::ks)) cs w'):=by
 refine step_lone_go ?_;have h:=Frame.finish_atR b ⟨a.tmps,d::a.defers⟩ ops i rest ks Go.undef;rw[ho] at h;rw[stepGR_op ho hw,hb,Oper.semAt_none];have h2:({ b.atR a (.inRegion ops (i::rest)::ks) with defers:=d::(b.atR a (.inRegion ops (i::rest)::ks)).defers }:Frame)=b.atR ⟨a.tmps,d::a.defers⟩ (.inRegion ops (i::rest)::ks):=rfl;simp only[stepG.apply,hr,if_true,if_false,h2,h];simp [hr,h2,h]
theorem er {a:Act} {w':World} {cs:List Frame} (ho:ops[i]?=some o) (hw:Region.wanted o (yielded ops a.tmps)=true) (hd:∀ c,o.op≠.defer c) (hb:b.roundOf=none) (hr:(execOp a.eval o).run P w=.ok .recover w')
  (ht:tryRecover (b.atR a (.inRegion ops (i::rest)::ks)) cs=none) :
  step P (lone (b.atR a (.inRegion ops (i::rest)::ks)) cs w)=.next (lone (b.atR (a.put o.dst .nilIface) (.inRegion ops rest::ks)) cs w'):=by
 refine step_lone_go ?_;have h:=Frame.finish_atR b a ops i rest ks .nilIface;rw[ho] at h;have hb':(b.atR a (.inRegion ops (i::rest)::ks)).roundOf=none:=hb;rw[stepGR_op ho hw,Oper.semAt_eq _ _ _ hd];simp [stepG.apply,hr,h,hb',ht]
structure Pt (P:Program) (n:Nat) (ops:Array Oper) (ρ:Rho) (h:T O) (β:Nat) (nx:Q) (tm:T V) (tmps:Array Value) (i:Nat) (o:Oper) (rest:List Nat) (l:List PS) (k:K) (ks:List Item):Prop where
 ho:ops[i]?=some o
 size:n≤tmps.size
 rd:∀ t,(jV ops o).testBit t=true→VR ρ (tm.at t) (tmps.getD t Go.undef)
 go:∀ (ρ':Rho) (h':T O) (nx':Q) (v:V) (u:Value),nx.nat≤nx'.nat→Keep nx.nat ρ h ρ' h'→VR ρ' v u→(∀ x,o.dst=some x→x < n) →
  ∃ C:Array Value→List Deferred→Frame→Frame→Prop,Cur P ρ' h' β nx' n (sC tm o.dst v) (.reg l k) C∧∀ b dds,C (nD tmps o.dst u) dds b (b.atR ⟨nD tmps o.dst u,dds⟩ (.inRegion ops rest::ks))
 wt:∀ d g ob,fO P n ops o=.mk d g ob→isW ob=true→∃ C:Array Value→List Deferred→Frame→Frame→Prop,Wt P ρ h β nx n tm (.reg (.op (.mk d g ob)::l) k) C∧∀ b dds,C tmps dds b (b.atR ⟨tmps,dds⟩ (.inRegion ops (i::rest)::ks))
theorem Pt.sync (hT:TR ρ n tm tmps) (ho:ops[i]?=some o) (hk:KS P n k ks):Pt P n ops ρ h β nx tm tmps i o (List.range' (i+1) (ops.size - (i+1))) ((ops.toList.drop (i+1)).map fun o=>.op (fO P n ops o)) k ks :=
 ⟨ho,hT.size,fun t _=>hT.rel t,fun _ _ _ _ _ _ hK hv hx=>⟨_,.sync ops (i+1) k ks (Array.getElem?_eq_some_iff.1 ho).1 hk,fun _ _=>⟨(hT.mono hK.le).put hx hv,rfl⟩⟩,
  fun d g ob hc hw=>⟨_,.sync ops i o d g ob k ks ho hc hw hk,fun _ _=>⟨hT,rfl⟩⟩⟩
theorem Pt.drawn {pl:List Pl} {E:Nat} {r:List Nat} {qf:Nat→Option Q} (L:LZ P n ops ρ h β nx tm tmps (.run i::pl) E (i::r) qf) (ho:ops[i]?=some o) (hw:wOf P o=true) (hk:KS P n k ks):Pt P n ops ρ h β nx tm tmps i o r (pl.map (np P n ops)) k ks :=
 ⟨ho,L.size,fun t ht=>L.reads ho ht (fun _=>by obtain ⟨_,_,h1,_⟩:=sY L.ck;exact h1),fun _ _ _ _ _ hn hK hv hx=>⟨_,.drawn ops pl _ r qf k ks hk,fun _ _=>⟨L.sync ho hw hx hn hK hv,rfl⟩⟩,
  fun d g ob hc hw'=>⟨_,.drawn ops i o d g ob pl E r qf k ks ho hc hw' hk,fun _ _=>⟨L,rfl⟩⟩⟩
theorem tj {d:Option Q} {g:Option (Q×Bool)} {ob:OB} (e:j8 fe ih f dk rd ds tm (.op (.mk d g ob)::l) k cs h nx=.ok v) :
  (gD g tm=some true∧opK fe ih f dk rd ds tm d ob l (.op (.mk d g ob)::l) k cs h nx=.ok v)∨(gD g tm=some false∧g≠none∧oB d V.undef tm (fun tm'=>ih f dk rd ds tm' (.reg l k) cs h nx)=.ok v):=by
 unfold j8 at e;cases g with
 |none=>exact .inl ⟨rfl,e⟩
 |some qw =>
  obtain ⟨q,want⟩:=qw;simp only[dL] at e;simp only[gD]
  split at e
  ·rename_i t ht
   rw[ht]
   split at e
   ·rename_i hb;exact .inl ⟨by simp [hb],e⟩
   ·rename_i hb;exact .inr ⟨by simp [hb],by simp,e⟩
  ·rename_i ht;rw[ht];exact .inr ⟨rfl,by simp,e⟩
  ·cases e
def kd (b:OB):Nat :=
 match b with
 |.p _=>0|.a _=>0|.w _=>0|.call _ _=>1|.dfr _ _=>2|.dfd _ _ _=>3|.rcv=>4|.inv _ _ _=>5
theorem n8 (o:Option PB):kd (orP o)=0:=by cases o <;> rfl
theorem aAP (o:Option AB):kd (orA o)=0:=by cases o <;> rfl
theorem oA (o:Option WB):kd (orW o)=0:=by cases o <;> rfl
theorem gb (h1:∀ c,o.op≠.call c) (h2:∀ c,o.op≠.defer c):kd (bT P o)=0:=by
 obtain ⟨dst,op,ty,pos,aft,gd'⟩:=o
 cases op <;> simp only[bT] <;> first
  |rfl
  |exact n8 _
  |exact aAP _
  |exact oA _
  |(exact absurd rfl (h1 _))
  |(exact absurd rfl (h2 _))
  |(repeat' split) <;> first|rfl|exact n8 _|exact aAP _|exact oA _
theorem qg {x:X} {xs:List X} (hb:bT P o=.call x xs):∃ c fo,o.op=.call c∧c.callee=.value fo∧x=aD P fo∧xs=c.args.toList.map (aD P):=by
 by_cases h1:∃ c,o.op=.call c
 ·obtain ⟨c,hc⟩:=h1
  refine ⟨c,?_⟩;simp only[bT,hc] at hb;unfold gC at hb
  split at hb
  ·rename_i fo hf
   cases hb;exact ⟨fo,hc,hf,rfl,rfl⟩
  ·cases hb
  ·exfalso
   have hk:=congrArg kd hb
   revert hk
   repeat' split
   all_goals first|(rw[n8];simp [kd];done)|(rw[oA];simp [kd];done)|(simp [kd];done)
 ·exfalso
  by_cases h2:∃ c,o.op=.defer c
  ·obtain ⟨c,hc⟩:=h2
   simp only[bT,hc] at hb;have hk:=congrArg kd hb
   revert hk
   repeat' split
   all_goals simp [kd]
  ·have:=gb (P:=P) (fun c hc=>h1 ⟨c,hc⟩) (fun c hc=>h2 ⟨c,hc⟩)
   rw[hb] at this;cases this
theorem xu {ms:List (Nat×Q)} {x:X} {xs:List X} (hb:bT P o=.inv ms x xs):∃ c fo name,o.op=.call c∧c.callee=.invoke fo name∧ms=iC P name P.types.size∧x=aD P fo∧xs=c.args.toList.map (aD P):=by
 by_cases h1:∃ c,o.op=.call c
 ·obtain ⟨c,hc⟩:=h1
  refine ⟨c,?_⟩;simp only[bT,hc] at hb;unfold gC at hb
  split at hb
  ·cases hb
  ·rename_i fo name hf
   cases hb;exact ⟨fo,name,hc,hf,rfl,rfl,rfl⟩
  ·exfalso
   have hk:=congrArg kd hb
   revert hk
   repeat' split
   all_goals first|(rw[n8];simp [kd];done)|(rw[oA];simp [kd];done)|(simp [kd];done)
 ·exfalso
  by_cases h2:∃ c,o.op=.defer c
  ·obtain ⟨c,hc⟩:=h2
   simp only[bT,hc] at hb;have hk:=congrArg kd hb
   revert hk
   repeat' split
   all_goals simp [kd]
  ·have:=gb (P:=P) (fun c hc=>h1 ⟨c,hc⟩) (fun c hc=>h2 ⟨c,hc⟩)
   rw[hb] at this;cases this
theorem ko {t:Nat} {k:Q→Res} {v:V}:∀ {ms:List (Nat×Q)},oL t ms k=.ok v→∃ f,(t,f)∈ms∧k f=.ok v
 |[],e=>by cases e
 |(u,f)::ms,e=>by
  simp only[oL] at e
  split at e
  ·rename_i hb
   have:=Nat.eq_of_beq_eq_true hb
   subst this;exact ⟨f,by simp,e⟩
  ·obtain ⟨g,h1,h2⟩:=ko e
   exact ⟨g,by simp [h1],h2⟩
theorem lO {name:String} {t:Nat} {f:Q}:∀ {n:Nat},(t,f)∈iC P name n→∃ u,sL P name u=some (t,f)
 |0,h=>by simp [iC] at h
 |n+1,h=>by
  simp only[iC] at h
  split at h
  ·rename_i p hp
   rcases List.mem_cons.1 h with rfl|h
   ·exact ⟨n,hp⟩
   ·exact lO h
  ·exact lO h
theorem ni {name:String} {u t:Nat} {f:Q} (h:sL P name u=some (t,f)) (n:Nat) (x:Value):(method (n+1) t x name).run P w=.ok (f.nat,x) w:=by
 unfold sL at h;obtain ⟨i,hi,h⟩:=cS h;obtain ⟨m,hm,h⟩:=cS h;obtain ⟨d,hd,h⟩:=cS h;obtain ⟨fp,hf,h⟩:=cS h;obtain ⟨fi,fb⟩:=fp
 have hti:(typeInfo t).run P w=.ok i w∨u≠t:=by
  by_cases hut:u=t
  ·subst hut;exact .inl (by simp [typeInfo,hi])
  ·exact .inr hut
 have key:∀ (hp:m.path.isEmpty=true),u=t→qn fi=f→(∀ wr,(receiverAt t (.val x) fb wr).run P w=.ok x w)→(method (n+1) t x name).run P w=.ok (f.nat,x) w:=by
  intro hp he hq hrec;subst he;subst hq;have hpe:m.path=#[]:=by simpa using hp
  rcases hti with hti|hti
  ·simp only[method,Sem.run_bind,hti,Result.andThen_ok,hm]
   simp [hpe,follow,hf,dY,hrec]
  ·exact absurd rfl hti
 cases hp:m.path.isEmpty with
 |false=>rw[hp] at h;cases d <;> cases fb <;> cases h
 |true =>
  rw[hp] at h
  cases d <;> cases fb <;> first
   |(cases h;done)
   |(cases h;exact key hp rfl rfl fun wr=>by simp [receiverAt,run_underlying hd,Place.get])
theorem yy {x:X} {xs:List X} (hb:bT P o=.dfr x xs):∃ c fo,o.op=.defer c∧c.callee=.value fo∧x=aD P fo∧xs=c.args.toList.map (aD P):=by
 by_cases h1:∃ c,o.op=.defer c
 ·obtain ⟨c,hc⟩:=h1
  refine ⟨c,?_⟩;simp only[bT,hc] at hb
  split at hb
  ·rename_i fo hf
   cases hb;exact ⟨fo,hc,hf,rfl,rfl⟩
  ·exfalso
   have hk:=congrArg kd hb
   revert hk
   repeat' split
   all_goals simp [kd]
  ·cases hb
 ·exfalso
  by_cases h2:∃ c,o.op=.call c
  ·obtain ⟨c,hc⟩:=h2
   simp only[bT,hc] at hb;have hk:=congrArg kd hb
   revert hk
   unfold gC
   repeat' split
   all_goals first|(rw[n8];simp [kd];done)|(rw[oA];simp [kd];done)|(simp [kd];done)
  ·have:=gb (P:=P) (fun c hc=>h2 ⟨c,hc⟩) (fun c hc=>h1 ⟨c,hc⟩)
   rw[hb] at this;cases this
theorem yg {s:KK} {x y:X} (hb:bT P o=.dfd s x y):∃ c m key t ts el,o.op=.defer c∧c.callee=.builtin .delete∧c.args.toList=[m,key]∧c.argTypes.toList=t::ts∧qZ P t=some (s,el)∧x=aD P m∧y=aD P key:=by
 by_cases h1:∃ c,o.op=.defer c
 ·obtain ⟨c,hc⟩:=h1
  simp only[bT,hc] at hb
  split at hb
  ·cases hb
  ·rename_i hf
   split at hb
   ·rename_i m key t ts ha ht
    split at hb
    ·rename_i s' el hm
     cases hb;exact ⟨c,m,key,t,ts,el,hc,hf,ha,ht,hm,rfl,rfl⟩
    ·cases hb
   ·cases hb
  ·cases hb
 ·exfalso
  by_cases h2:∃ c,o.op=.call c
  ·obtain ⟨c,hc⟩:=h2
   simp only[bT,hc] at hb;have hk:=congrArg kd hb
   revert hk
   unfold gC
   repeat' split
   all_goals first|(rw[n8];simp [kd];done)|(rw[oA];simp [kd];done)|(simp [kd];done)
  ·have:=gb (P:=P) (fun c hc=>h2 ⟨c,hc⟩) (fun c hc=>h1 ⟨c,hc⟩)
   rw[hb] at this;cases this
theorem xm (hb:bT P o=.rcv):∃ c,o.op=.call c∧c.callee=.builtin .recover∧c.args.toList=[]:=by
 by_cases h1:∃ c,o.op=.call c
 ·obtain ⟨c,hc⟩:=h1
  refine ⟨c,hc,?_⟩;simp only[bT,hc] at hb;unfold gC at hb
  split at hb
  ·cases hb
  ·cases hb
  ·rename_i bb hf
   have hk:=congrArg kd hb
   split at hb
   all_goals first
    |(rename_i ha;exact ⟨hf,ha⟩)
    |(exfalso;clear hb;revert hk;(repeat' split) <;> first|contradiction|(simp_all;done)|(rw[n8];simp [kd];done)|(rw[oA];simp [kd];done)|(simp [kd];done))
 ·exfalso
  by_cases h2:∃ c,o.op=.defer c
  ·obtain ⟨c,hc⟩:=h2
   simp only[bT,hc] at hb;have hk:=congrArg kd hb
   revert hk
   repeat' split
   all_goals simp [kd]
  ·have:=gb (P:=P) (fun c hc=>h1 ⟨c,hc⟩) (fun c hc=>h2 ⟨c,hc⟩)
   rw[hb] at this;cases this
theorem lf (hB:FB P ρ f dk none b) (hS:StkR P ρ h cs frs β) (e:aCQ dk cs (.ok v)=.ok v) {a:Act} {todo:List Item} {cs':List Frame}:tryRecover (b.atR a todo) (frs++c0::cs')=none:=by
 have hk:(b.atR a todo).kind=if dk then .deferred else .normal:=hB.kind
 unfold tryRecover;rw[hk];cases dk with
 |false=>rfl
 |true =>
  cases hS with
  |nil=>cases e
  |cons ρ0 _ h0 _ f' dk' rd' ds' tm2 k' _ fr' frs' β0 _ nx0 hf hn hK hs =>
   simp only[List.cons_append,if_true];obtain ⟨_,b',dds',tmps',C,_,_,_,hW,hC⟩:=hf;cases hW with
   |rtn ks=>rw[hC.2]
   |_=>cases e
theorem aFC (hfe:uE P fe) (hx:nE P) (G:Good P ih) (C:Ctx P w0 w ρ h β nx f dk rd ds cs frs b dds) (p:Pt P (nt P f.nat) ops ρ h β nx tm tmps i o rest l k ks)
  (e:j8 fe ih f dk rd ds tm (.op (fO P (nt P f.nat) ops o)::l) k cs h nx=.ok v):Final P w0 (lone (b.atR ⟨tmps,dds⟩ (.inRegion ops (i::rest)::ks)) (frs++c0::cs0) w) c0 cs0 v:=by
 obtain ⟨d,g,ob,hc⟩:∃ d g ob,fO P (nt P f.nat) ops o=.mk d g ob:=by
  cases h0:fO P (nt P f.nat) ops o with|mk d g ob=>exact ⟨d,g,ob,rfl⟩
 rw[hc] at e;have ho:=p.ho
 have Cgo:∀ {w':World} {ρ':Rho} {h':T O} {nx':Q} {x:V} {u:Value} {ds':List Df} {dds':List Deferred},HR P w0 ρ' h' nx' w'→nx.nat≤nx'.nat→Keep nx.nat ρ h ρ' h'→VR ρ' x u→(∀ x,o.dst=some x→x < nt P f.nat)→DsR P ρ' ds' dds'→(rd≠none→ds'=[]) →
   ih f dk rd ds' (sC tm o.dst x) (.reg l k) cs h' nx'=.ok v→Final P w0 (lone (b.atR ⟨nD tmps o.dst u,dds'⟩ (.inRegion ops rest::ks)) (frs++c0::cs0) w') c0 cs0 v:=by
  intro w' ρ' h' nx' x u ds' dds' H' hn hK hv hd hD hrn e';obtain ⟨X,hX,hC⟩:=p.go ρ' h' nx' x u hn hK hv hd;have C':Ctx P w0 w' ρ' h' β nx' f dk rd ds' cs frs b dds':=⟨H',Nat.le_trans C.le hn,C.B.mono hK.le,hD,hrn,C.S.mono (hK.down C.le)⟩
  exact C'.go G hX (hC b dds') e'
 rcases tj e with ⟨hg,e1⟩|⟨hg,hgn,e1⟩
 ·have hnb:ob≠.p .bad:=fun e0=>by subst e0;cases e1
  obtain ⟨hb,hd,hxd,hgd⟩:=eQ hc (yz hnb);have hwant:=qY hgd p.size (fun j want t h1 h2=>p.rd t (m7 h1 h2)) hg;have hT:XR ρ tm tmps o.op.operands.toList:=fun t ht=>p.rd t (aAo ht)
  subst hd;cases ob with
  |p pb =>
   simp only[opK] at e1;obtain ⟨x,e2,u,hu,hv⟩:=aBK (ds:=dds) C.H hb.symm hT e1;rw[eJ] at e2;refine Final.steps (Steps.one (cY (a:=⟨tmps,dds⟩) ho hwant (wR hb.symm e1) hu)) ?_;rw[put_eq];exact Cgo C.H (Nat.le_refl _) (Keep.refl _ _ _) hv hxd C.D C.rn e2
  |a ab =>
   simp only[opK] at e1;obtain ⟨oo,mk,_,e2,hA⟩:=aAk (ds:=dds) C.H hb.symm hT e1;obtain ⟨x,N,u,a4,a5⟩:=hA.run;obtain ⟨a6,a7⟩:=a5 nx (C.H.fresh nx (Nat.le_refl _));rw[cK,eJ,dO] at e2;obtain ⟨H',hK⟩:=C.H.make a6;refine Final.steps (Steps.one (cY (a:=⟨tmps,dds⟩) ho hwant (wF hb.symm) a4)) ?_;rw[put_eq];exact Cgo H' (by rw[Q.nat_succ];omega) hK a7 hxd (C.D.mono hK.le) C.rn e2
  |w wb =>
   simp only[opK] at e1;obtain ⟨x,h',nx',e2,w',ρ',u,hu,hv,H',hK,hn⟩:=aF3 (ds:=dds) C.H hb.symm hT e1;rw[eJ] at e2;rcases hu with hu|⟨hu,rfl⟩
   ·refine Final.steps (Steps.one (cY (a:=⟨tmps,dds⟩) ho hwant (vU hb.symm) hu)) ?_
    rw[put_eq];exact Cgo H' hn hK hv hxd (C.D.mono hK.le) C.rn e2
   ·refine Final.steps (Steps.one (eW (a:=⟨tmps,dds⟩) ho hwant (vU hb.symm) hu)) ?_
    rw[put_eq];exact Cgo H' hn hK hv hxd (C.D.mono hK.le) C.rn e2
  |call x xs =>
   obtain ⟨c,fo,h1,h2,rfl,rfl⟩:=qg hb.symm;simp only[opK] at e1;have hops:o.op.operands=#[fo]++c.args:=by rw[h1];simp [Op.operands,Call.operands,h2]
   obtain ⟨fv,hf1,e2⟩:=dK e1;have hfv:=eZ (ds:=dds) C.H.glob (hT.sub (fun y hy=>by rw[hops];simp at hy;simp [hy])) hf1;obtain ⟨vs,hv1,e3⟩:=qF e2;have hvs:=mJ (ds:=dds) C.H.glob (hT.sub (fun y hy=>by rw[hops];simp at hy;simp [hy])) hv1;obtain ⟨W,hW,hWC⟩:=p.wt _ _ _ hc rfl
   have hS:StkR P ρ h (.mk f dk rd ds tm (.reg (.op (.mk (o.dst.map qn) g (.call (aD P fo) (c.args.toList.map (aD P))))::l) k)::cs) (b.atR ⟨tmps,dds⟩ (.inRegion ops (i::rest)::ks)::frs) nx.nat :=
    .cons ρ ρ h h f dk rd ds tm _ cs _ frs β nx.nat nx ⟨C.le,b,dds,tmps,W,C.B,C.D,C.rn,hW,hWC b dds⟩ (Nat.le_refl _) (Keep.refl _ _ _) C.S
   obtain ⟨dd,hd1,hd2⟩:=kI (c0:=c0) (cs0:=cs0) hfe hx G C.H hfv hvs hS e3;have hnd:∀ c',o.op≠.defer c':=fun c' hc'=>by rw[h1] at hc';cases hc'
   have harr:c.args.map (ev tmps dds)=⟨c.args.toList.map (ev tmps dds)⟩:=by apply Array.ext';simp
   have hex:∀ {r:Result Next},(invoke dd.target dd.args).run P w=r→(execOp (ev tmps dds) o).run P w=r:=fun {r} hr=>by
    simp only[execOp,h1,resolve,h2,harr,Sem.run_bind,hd1,Result.andThen_ok,hr]
   rcases hd2 with ⟨gg,all,i1,i2⟩|⟨ll,gg,tt,x,y,i1,i2⟩|⟨x,u,i1,i2,i3⟩
   ·exact Final.steps (Steps.one (jL (a:=⟨tmps,dds⟩) ho hwant hnd (hex i1))) i2
   ·exact Final.steps (Steps.one (k9 (a:=⟨tmps,dds⟩) ho hwant hnd (hex i1))) i2
   ·refine Final.steps (Steps.one (cY (a:=⟨tmps,dds⟩) ho hwant hnd (hex i1))) ?_
    rw[put_eq];simp only[nX,eJ] at i3;exact Cgo C.H (Nat.le_refl _) (Keep.refl _ _ _) i2 hxd C.D C.rn i3
  |inv ms x xs =>
   obtain ⟨c,fo,name,h1,h2,rfl,rfl,rfl⟩:=xu hb.symm;simp only[opK] at e1;have hops:o.op.operands=#[fo]++c.args:=by rw[h1];simp [Op.operands,Call.operands,h2]
   obtain ⟨fv,hf1,e2⟩:=dK e1;have hfv:=eZ (ds:=dds) C.H.glob (hT.sub (fun y hy=>by rw[hops];simp at hy;simp [hy])) hf1;obtain ⟨vs,hv1,e3⟩:=qF e2;have hvs:=mJ (ds:=dds) C.H.glob (hT.sub (fun y hy=>by rw[hops];simp at hy;simp [hy])) hv1;unfold aHq at e3
   split at e3
   ·rename_i t u0
    obtain ⟨u',hu',hur⟩:∃ u',ev tmps dds fo=.iface t u'∧VR ρ u0 u':=by
     generalize ev tmps dds fo=uu at hfv;cases hfv with|ifc _ _ v' hv'=>exact ⟨v',rfl,hv'⟩
    obtain ⟨g',hm1,e4⟩:=ko e3;obtain ⟨tt,hm2⟩:=lO hm1;obtain ⟨W,hW,hWC⟩:=p.wt _ _ _ hc rfl
    have hS:StkR P ρ h (.mk f dk rd ds tm (.reg (.op (.mk (o.dst.map qn) g (.inv (iC P name P.types.size) (aD P fo) (c.args.toList.map (aD P))))::l) k)::cs) (b.atR ⟨tmps,dds⟩ (.inRegion ops (i::rest)::ks)::frs) nx.nat :=
     .cons ρ ρ h h f dk rd ds tm _ cs _ frs β nx.nat nx ⟨C.le,b,dds,tmps,W,C.B,C.D,C.rn,hW,hWC b dds⟩ (Nat.le_refl _) (Keep.refl _ _ _) C.S
    have hfn:VR ρ (.fn g' [] []) (.func (.func g'.nat) #[] #[]):=.fn g' [] [] [] [] rfl rfl (fun i c v h=>by simp at h) (fun i c v h=>by simp at h);obtain ⟨dd,hd1,hd2⟩:=kI (c0:=c0) (cs0:=cs0) hfe hx G C.H hfn (VRs.cons hur hvs) hS e4;have hnd:∀ c',o.op≠.defer c':=fun c' hc'=>by rw[h1] at hc';cases hc'
    have harr:c.args.map (ev tmps dds)=⟨c.args.toList.map (ev tmps dds)⟩:=by apply Array.ext';simp
    have hdd:dd={ target:=.fn (.func g'.nat) #[],args:=⟨u'::c.args.toList.map (ev tmps dds)⟩ }:=by
     simp [Deferred.ofValue] at hd1;exact hd1.symm
    subst hdd
    have hex:∀ {r:Result Next},(invoke (.fn (.func g'.nat) #[]) ⟨u'::c.args.toList.map (ev tmps dds)⟩).run P w=r→(execOp (ev tmps dds) o).run P w=r:=fun {r} hr=>by
     have hpos:0 < Made.depth:=by decide
     obtain ⟨nn,hnn⟩:∃ nn,P.types.size+Made.depth=nn+1:=⟨P.types.size+Made.depth - 1,by omega⟩
     have hmeth:=ni (w:=w) hm2 nn u';rw[←hnn] at hmeth;have hprog:(program).run P w=.ok P w:=rfl;simp only[invoke] at hr;simp only[execOp,h1,resolve,h2,harr,hu',Sem.run_bind,Sem.run_pure,Result.andThen_ok,invoke,callMethod];have htk:List.take c.args.size (List.map (ev tmps dds) c.args.toList)=List.map (ev tmps dds) c.args.toList:=List.take_of_length_le (by simp);simp [hprog,hmeth,htk];simpa using hr
    rcases hd2 with ⟨gg,all,i1,i2⟩|⟨ll,gg,tt,x,y,i1,i2⟩|⟨x,u,i1,i2,i3⟩
    ·exact Final.steps (Steps.one (jL (a:=⟨tmps,dds⟩) ho hwant hnd (hex i1))) i2
    ·exact Final.steps (Steps.one (k9 (a:=⟨tmps,dds⟩) ho hwant hnd (hex i1))) i2
    ·refine Final.steps (Steps.one (cY (a:=⟨tmps,dds⟩) ho hwant hnd (hex i1))) ?_
     rw[put_eq];simp only[nX,eJ] at i3;exact Cgo C.H (Nat.le_refl _) (Keep.refl _ _ _) i2 hxd C.D C.rn i3
   ·cases e3
  |dfr x xs =>
   obtain ⟨c,fo,h1,h2,rfl,rfl⟩:=yy hb.symm;simp only[opK] at e1
   split at e1
   ·cases e1
   have hops:o.op.operands=#[fo]++c.args:=by rw[h1];simp [Op.operands,Call.operands,h2]
   obtain ⟨fv,hf1,e2⟩:=dK e1;have hfv:=eZ (ds:=dds) C.H.glob (hT.sub (fun y hy=>by rw[hops];simp at hy;simp [hy])) hf1;obtain ⟨vs,hv1,e3⟩:=qF e2;have hvs:=mJ (ds:=dds) C.H.glob (hT.sub (fun y hy=>by rw[hops];simp at hy;simp [hy])) hv1
   split at e3
   ·rename_i g' fs caps
    obtain ⟨ua,ub,hfu,h3,h4⟩:=hfv.inv_fn;rw[eX,eX,eJ] at e3;have harr:c.args.map (ev tmps dds)=⟨c.args.toList.map (ev tmps dds)⟩:=by apply Array.ext';simp
    have hro:b.roundOf=none:=by
     have:=C.B.ro
     cases hbr:b.roundOf with
     |none=>rfl
     |some bl=>rw[hbr] at this;exact this.elim
    have hex:(execOp (ev tmps dds) o).run P w=.ok (.defer { target:=.fn (.func g'.nat) ⟨ub⟩,args:=⟨ua⟩++⟨c.args.toList.map (ev tmps dds)⟩ }) w:=by
     simp [execOp,h1,resolve,h2,harr,hfu,Deferred.ofValue]
    refine Final.steps (Steps.one (step_defer (a:=⟨tmps,dds⟩) ho hwant hro hex)) ?_;rw[put_eq];have hall:VRs ρ (fs++(vs++caps)) ((ua++c.args.toList.map (ev tmps dds))++ub):=by rw[List.append_assoc];exact h3.append (hvs.append h4)
    have hD:=DsR.call g'.nat _ _ _ ds dds hall C.D;rw[nT] at hD;have harr2:((⟨ua⟩:Array Value)++⟨c.args.toList.map (ev tmps dds)⟩)=⟨ua++c.args.toList.map (ev tmps dds)⟩:=by apply Array.ext';simp
    rw[harr2];exact Cgo C.H (Nat.le_refl _) (Keep.refl _ _ _) VR.undef hxd hD (fun h0=>absurd rfl h0) e3
   ·cases e3
  |dfd s x y =>
   obtain ⟨c,m,key,t,ts,el,h1,h2,h3,h4,h5,rfl,rfl⟩:=yg hb.symm;simp only[opK] at e1
   split at e1
   ·cases e1
   have hops:o.op.operands=c.args:=by rw[h1];simp [Op.operands,Call.operands,h2]
   have hargs:c.args=#[m,key]:=by apply Array.ext';simp [h3]
   obtain ⟨mv,hm1,e2⟩:=dK e1;have hmv:=eZ (ds:=dds) C.H.glob (hT.sub (fun y hy=>by rw[hops,hargs];simp at hy;simp [hy])) hm1;obtain ⟨kv,hk1,e3⟩:=dK e2;have hkv:=eZ (ds:=dds) C.H.glob (hT.sub (fun y hy=>by rw[hops,hargs];simp at hy;simp [hy])) hk1;rw[eJ] at e3
   have hro:b.roundOf=none:=by
    have:=C.B.ro
    cases hbr:b.roundOf with
    |none=>rfl
    |some bl=>rw[hbr] at this;exact this.elim
   have hex:(execOp (ev tmps dds) o).run P w=.ok (.defer { target:=.builtin .delete c.argTypes o.type (c.args.map fun|.const _=>true|_=>false),args:=#[ev tmps dds m,ev tmps dds key] }) w:=by
    simp [execOp,h1,resolve,h2,hargs];exact ⟨by cases m <;> rfl,by cases key <;> rfl⟩
   refine Final.steps (Steps.one (step_defer (a:=⟨tmps,dds⟩) ho hwant hro hex)) ?_;rw[put_eq];have hD:=DsR.del s mv kv c.argTypes o.type (c.args.map fun|.const _=>true|_=>false) t el _ _ ds dds (by rw[←Array.getElem?_toList,h4];rfl) h5 hmv hkv C.D;exact Cgo C.H (Nat.le_refl _) (Keep.refl _ _ _) VR.undef hxd hD (fun h0=>absurd rfl h0) e3
  |rcv =>
   obtain ⟨c,h1,h2,h3⟩:=xm hb.symm;simp only[opK] at e1
   split at e1
   ·cases e1
   have hargs:c.args=#[]:=by apply Array.ext';simp [h3]
   have hro:b.roundOf=none:=by
    have:=C.B.ro
    cases hbr:b.roundOf with
    |none=>rfl
    |some bl=>rw[hbr] at this;exact this.elim
   have hnd:∀ c',o.op≠.defer c':=fun c' hc'=>by rw[h1] at hc';cases hc'
   have hex:(execOp (ev tmps dds) o).run P w=.ok .recover w:=by
    simp [execOp,h1,resolve,h2,hargs,invoke,builtin]
   obtain ⟨r1,r2⟩:aCQ dk cs (.ok v)=.ok v∧oB (o.dst.map qn) .nili tm (fun tm'=>ih f dk none ds tm' (.reg l k) cs h nx)=.ok v:=by
    unfold aCQ at e1 ⊢
    split at e1
    ·exact ⟨rfl,e1⟩
    ·split at e1
     ·exact ⟨rfl,e1⟩
     ·cases e1
   refine Final.steps (Steps.one (er (a:=⟨tmps,dds⟩) ho hwant hnd hro hex (lf C.B C.S r1))) ?_;rw[put_eq];rw[eJ] at r2;exact Cgo C.H (Nat.le_refl _) (Keep.refl _ _ _) VR.nili hxd C.D C.rn r2
 ·obtain ⟨hb,hd,hxd,hgd⟩:=eQ hc (fun e0=>by unfold fC at e0;cases e0;exact hgn rfl)
  have hwant:=qY hgd p.size (fun j want t h1 h2=>p.rd t (m7 h1 h2)) hg;rw[hd,eJ] at e1;refine Final.steps (Steps.one (stepR_op_skip (a:=⟨tmps,dds⟩) (by rw[ho];simp [hwant]))) ?_;rw[ho,Option.bind_some,put_eq];exact Cgo C.H (Nat.le_refl _) (Keep.refl _ _ _) VR.undef hxd C.D C.rn e1
end Go.CM
end
noncomputable section
namespace Go.CM
variable {P:Program} {w0 w:World} {ρ ρ':Rho} {h h':T O} {nx nx':Q} {tm:T V} {tmps:Array Value} {r v:V} {ops:Array Oper} {n β:Nat} {f:Q} {dk:Bool} {rd:Option Q} {ds:List Df} {k:K} {cs:List Fr} {fr b:Frame} {frs:List Frame} {c0:Frame} {cs0:List Frame} {ih:Run} {fe:Q→CF} {i:Nat} {o:Oper} {rest:List Nat} {l:List PS} {ks:List Item} {dds:List Deferred}
theorem wW {sz:Nat}:∀ {ps:List (Nat×X)} {t:T V} {k:T V→Res},rZ tm sz ps t k=.ok r→∃ t',(∀ k',rZ tm sz ps t k'=k' t')∧k t'=.ok r
 |[],t,k,e=>⟨t,fun _=>rfl,e⟩
 |(i,x)::ps,t,k,e=>by
  simp only[rZ] at e;obtain ⟨c,h1,e⟩:=dK e;obtain ⟨l,hl,e⟩:=qV e;rw[cF] at e;obtain ⟨hg,e⟩:=bR e;rw[dF] at e;obtain ⟨t',h2,h3⟩:=wW e;refine ⟨t',fun k'=>?_,h3⟩;simp only[rZ];rw[e7 h1,cj hl,cF,hg];simp only[gd,dF];exact h2 k'
theorem js {b:AB} {k:O→(Q→V)→Res} (e:aK b tm k=.ok r):∃ ob mk,AE b tm ob mk∧k ob mk=.ok r:=by
 cases b with
 |al ty n t=>exact ⟨_,_,fun _=>rfl,e⟩
 |bx ty n x =>
  simp only[aK] at e;obtain ⟨c,h1,e⟩:=dK e;obtain ⟨l,hl,e⟩:=qV e;rw[cF] at e;obtain ⟨hg,e⟩:=bR e;rw[dF] at e;exact ⟨_,_,fun k'=>by simp only[aK,e7 h1,cj hl,cF,hg,gd,dF],e⟩
 |bsl ty sz len t ps =>
  simp only[aK] at e;obtain ⟨t',h1,h2⟩:=wW e;rw[aF] at h2;exact ⟨_,_,fun k'=>by simp only[aK];rw[h1,aF],h2⟩
 |mkm=>exact ⟨_,_,fun _=>rfl,e⟩
 |mks ty sz z len cap =>
  simp only[aK] at e;obtain ⟨a,ha,e⟩:=dK e;obtain ⟨kl,ln,hl,e⟩:=iF e;obtain ⟨b,hb,e⟩:=dK e;obtain ⟨kc,cn,hc,e⟩:=iF e;obtain ⟨hg,e⟩:=bR e;rw[mL,aF] at e;exact ⟨_,_,fun k'=>by simp only[aK,e7 ha,e7 hb,hl,hc,asN,hg,gd,mL,aF],e⟩
def Le (h h':T O):Prop:=∀ q,h.ob q=.dead∨h'.ob q=h.ob q
theorem Le.of (hl:Le h h') {q:Q} (hq:h.ob q≠.dead):h'.ob q=h.ob q:=(hl q).resolve_left hq
theorem zQ {k:Nat→T V→Res} (hl:Le h h') {q:Q} (e:xQ (h.ob q) k=.ok r):h'.ob q=h.ob q:=hl.of fun hd=>by rw[hd] at e;cases e
theorem sq {k:List (V×V)→Res} (hl:Le h h') {q:Q} (e:pP (h.ob q) k=.ok r):h'.ob q=h.ob q:=hl.of fun hd=>by rw[hd] at e;cases e
theorem aBI (hl:Le h h') {o o':Q} {a a':Nat} {k k':Bool→Res} (hk:∀ b,k b=.ok r→k' b=.ok r) (e:eqP h o a o' a' k=.ok r):eqP h' o a o' a' k'=.ok r:=by
 have lone:∀ q,wU (h.ob q)=true→h'.ob q=h.ob q:=fun q hq=>hl.of fun hd=>by rw[hd] at hq;cases hq
 unfold eqP at e ⊢;cases ho:o.beq o' with
 |true =>
  rw[ho] at e;simp only at e ⊢;cases ha:Nat.beq a a' with
  |true=>rw[ha] at e;exact hk _ e
  |false =>
   rw[ha] at e;simp only[bS] at e ⊢;obtain ⟨h1,h2⟩:=bR e;rw[lone _ h1,h1];exact hk _ h2
 |false =>
  rw[ho] at e;simp only[bS] at e ⊢;obtain ⟨h1,h2⟩:=bR e;have h3:=h1;rw[Bool.and_eq_true] at h3;rw[lone _ h3.1,lone _ h3.2,h1];exact hk _ h2
theorem xg {f:FK} {x y:V} {k k':Bool→Res} (hk:∀ b,k b=.ok r→k' b=.ok r) (e:fS f x y k=.ok r):fS f x y k'=.ok r:=by
 unfold fS at e ⊢
 split at e
 ·split at e
  ·split at e
   ·exact hk _ e
   ·cases e
  ·cases e
 ·split at e
  ·split at e
   ·exact hk _ e
   ·cases e
  ·cases e
 ·split at e
  ·split at e
   ·obtain ⟨h1,h2⟩:=bR e
    simp only[h1];exact hk _ h2
   ·cases e
  ·cases e
theorem sU:∀ {fs:List FK} {l m:List V} {k k':Bool→Res},(∀ b,k b=.ok r→k' b=.ok r)→fJ fs l m k=.ok r→fJ fs l m k'=.ok r
 |[],[],[],k,k',hk,e=>hk _ e
 |f::fs,x::xs,y::ys,k,k',hk,e=>by
  simp only[fJ] at e ⊢;refine xg (fun b hb=>?_) e;cases b with
  |true=>exact sU hk hb
  |false=>exact hk _ hb
 |[],_::_,_,_,_,_,e=>by cases e
 |[],[],_::_,_,_,_,e=>by cases e
 |_::_,[],_,_,_,_,e=>by cases e
 |_::_,_::_,[],_,_,_,e=>by cases e
theorem aCt (hl:Le h h') {s:KK} {x y:V} {k k':Bool→Res} (hk:∀ b,k b=.ok r→k' b=.ok r) (e:dS s h x y k=.ok r):dS s h' x y k'=.ok r:=by
 unfold dS at e ⊢
 split at e
 ·split at e
  ·split at e
   ·exact hk _ e
   ·cases e
  ·cases e
 ·split at e
  ·split at e
   ·obtain ⟨h1,h2⟩:=bR e
    simp only[h1];exact hk _ h2
   ·cases e
  ·cases e
 ·split at e
  ·split at e
   ·exact sU hk e
   ·cases e
  ·cases e
 ·split at e
  ·split at e
   ·exact aBI hl hk e
   ·cases e
  ·cases e
theorem v7 (hl:Le h h') {s:KK} {x:V}:∀ {es:List (V×V)} {k:V→Res} {kn:Res},fW s h x es k kn=.ok r→fW s h' x es k kn=.ok r
 |[],_,_,e=>e
 |(y,v)::es,k,kn,e=>by
  simp only[fW] at e ⊢;refine aCt hl (fun b hb=>?_) e;cases b with
  |true=>exact hb
  |false=>exact v7 hl hb
theorem aH3 (hl:Le h h') {m:EqM} {a b:V} {k:Bool→Res} (e:eqK m h a b k=.ok r):eqK m h' a b k=.ok r:=by
 cases m <;> simp only[eqK] at e ⊢ <;> first|exact e|skip
 split at e
 ·exact e
 ·split at e
  ·exact e
  ·exact aBI hl (fun _ hb=>hb) e
  ·cases e
 ·cases e
theorem qh {s:KK} {x:V} {k:Res} (e:fU s x k=.ok r):k=.ok r∧∀ k',fU s x k'=k':=by
 unfold fU at e ⊢
 split at e
 ·split at e
  ·rw[cF,cF] at e
   obtain ⟨h1,h2⟩:=bR e;refine ⟨h2,fun k'=>?_⟩;simp only[cF,h1,gd]
  ·cases e
 ·exact ⟨e,fun _=>rfl⟩
theorem aJq (hl:Le h h') {pb:PB} {k:V→Res} (e:pK pb tm h k=.ok r):pK pb tm h' k=.ok r:=by
  cases pb
  case eq neg m x y =>
   simp only[pK] at e ⊢;obtain ⟨a,ha,e⟩:=dK e;obtain ⟨b,hb,e⟩:=dK e;rw[e7 ha,e7 hb];exact aH3 hl e
  case ctu x =>
   simp only[pK] at e ⊢;obtain ⟨a,ha,e⟩:=dK e;rw[e7 ha]
   split at e
   ·exact e
   ·rw[bS] at e ⊢
    rw[zQ hl e];exact e
   ·cases e
  case cfu ty n x =>
   simp only[pK] at e ⊢;obtain ⟨a,ha,e⟩:=dK e;rw[e7 ha]
   split at e
   ·exact e
   ·rename_i o off
    rw[bS] at e ⊢;rw[hl.of (q:=o) fun hd=>by rw[hd] at e;cases e];exact e
   ·cases e
  case ld1 x =>
   simp only[pK] at e ⊢;obtain ⟨a,ha,e⟩:=dK e;rw[e7 ha];obtain ⟨o,off,rfl,e⟩:=kN e;simp only[asP] at e ⊢;unfold ldK at e ⊢;rw[bS] at e ⊢;rw[zQ hl e];exact e
  case ldn n x =>
   simp only[pK] at e ⊢;obtain ⟨a,ha,e⟩:=dK e;rw[e7 ha];obtain ⟨o,off,rfl,e⟩:=kN e;simp only[asP] at e ⊢;unfold lP at e ⊢;rw[bS] at e ⊢;rw[zQ hl e];exact e
  case lk s ok z m key =>
   simp only[pK] at e ⊢;obtain ⟨a,ha,e⟩:=dK e;obtain ⟨b,hb,e⟩:=dK e;rw[e7 ha,e7 hb];obtain ⟨e,hc⟩:=qh e;rw[hc]
   split at e
   ·exact e
   ·rw[bS] at e ⊢
    rw[sq hl e];obtain ⟨es,hes,e⟩:=oR e;have hm:∀ kk:List (V×V)→Res,pP (h.ob _) kk=kk es:=fun kk=>by rcases hes with hes|hes <;> rw[hes] <;> rfl
    rw[hm];cases ok with
    |true=>exact v7 hl e
    |false=>exact v7 hl e
   ·cases e
  case lenM x =>
   simp only[pK] at e ⊢;obtain ⟨a,ha,e⟩:=dK e;rw[e7 ha]
   split at e
   ·exact e
   ·rw[bS] at e ⊢
    rw[sq hl e];exact e
   ·cases e
  all_goals exact (ve (by rfl) h h').symm.trans e
theorem Le.made {ob:O} (hd:h.ob nx=.dead):Le h (h.put .dead ob nx):=fun q=>by
 rw[b8];split
 ·subst_vars;exact .inl hd
 ·exact .inr rfl
end Go.CM
end
noncomputable section
namespace Go.CM
variable {P:Program} {w0 w w':World} {ρ ρ':Rho} {h h':T O} {nx nx':Q} {tm:T V} {tmps:Array Value} {r v:V} {ops:Array Oper} {n β:Nat} {f:Q} {dk:Bool} {rd:Option Q} {ds:List Df} {k:K} {cs:List Fr} {fr b:Frame} {frs:List Frame} {c0:Frame} {cs0:List Frame} {ih:Run} {fe:Q→CF} {i:Nat} {o:Oper} {rest:List Nat} {l:List PS} {ks:List Item} {dds:List Deferred}
theorem Ctx.keep (C:Ctx P w0 w ρ h β nx f dk rd ds cs frs b dds) (H':HR P w0 ρ' h' nx' w') (hn:nx.nat≤nx'.nat) (K:Keep β ρ h ρ' h'):Ctx P w0 w' ρ' h' β nx' f dk rd ds cs frs b dds :=
 ⟨H',Nat.le_trans C.le hn,C.B.mono K.le,C.D.mono K.le,C.rn,C.S.mono K⟩
theorem nh (hfe:uE P fe) (hx:nE P) (G:Good P ih) (C:Ctx P w0 w ρ h β nx f dk rd ds cs frs b dds) (hi:i≤ops.size) (hk:KS P (nt P f.nat) k ks) (hT:TR ρ (nt P f.nat) tm tmps)
  (e:j8 fe ih f dk rd ds tm ((ops.toList.drop i).map fun o=>.op (fO P (nt P f.nat) ops o)) k cs h nx=.ok v):Final P w0 (lone (b.atR ⟨tmps,dds⟩ (.inRegion ops (List.range' i (ops.size - i))::ks)) (frs++c0::cs0) w) c0 cs0 v:=by
 by_cases hlt:i < ops.size
 ·have ho:ops[i]?=some ops[i]:=by simp [hlt]
  rw[aBq ho,List.map_cons] at e
  have hr:List.range' i (ops.size - i)=i::List.range' (i+1) (ops.size - (i+1)):=by
   obtain ⟨m,hm⟩:∃ m,ops.size - i=m+1:=⟨ops.size - i - 1,by omega⟩
   rw[hm,List.range'_succ,show ops.size - (i+1)=m by omega]
  rw[hr];exact aFC hfe hx G C (Pt.sync hT ho hk) e
 ·have hr:ops.size - i=0:=by omega
  rw[hr,List.range'_zero];have hd:ops.toList.drop i=[]:=List.drop_eq_nil_of_le (by simp;omega);rw[hd] at e;exact Final.steps (Steps.one stepR_region_end) (C.plain G hk hT e)
theorem aBh {g:Option (Q×Bool)} {pb:PB} {q:Q} (e:j8 fe ih f dk rd ds tm (.chk g pb q::l) k cs h nx=.ok v):ih f dk rd ds tm (.reg l k) cs h nx=.ok v∧(gD g tm=some true→pK pb tm h .ok=.ok (tm.get V.undef q)):=by
 have key:(pK pb tm h fun v=>gV q tm fun u=>gd (eqV v u) 93 (ih f dk rd ds tm (.reg l k) cs h nx))=.ok v→ih f dk rd ds tm (.reg l k) cs h nx=.ok v∧pK pb tm h .ok=.ok (tm.get V.undef q):=fun e=>by
  obtain ⟨x,h1,h2⟩:=pN e;rw[dL] at h2;obtain ⟨h3,h4⟩:=bR h2;rw[←aGG h3];exact ⟨h4,h1⟩
 unfold j8 at e;cases g with
 |none=>exact ⟨(key e).1,fun _=>(key e).2⟩
 |some qw =>
  obtain ⟨q',want⟩:=qw;simp only[dL] at e;simp only[gD]
  split at e
  ·rename_i t ht
   rw[ht]
   split at e
   ·have:=key (by rw[←e];simp only[dL]);exact ⟨this.1,fun _=>this.2⟩
   ·rename_i hb;exact ⟨e,fun h=>by simp [hb] at h⟩
  ·rename_i ht;rw[ht];exact ⟨e,fun h=>by simp at h⟩
  ·cases e
theorem sW (e:j8 fe ih f dk rd ds tm (.op fC::l) k cs h nx=.ok v):False:=by cases e
theorem jn {pl:List Pl} {E:Nat} {r:List Nat} {qf:Nat→Option Q} (hfe:uE P fe) (hx:nE P) (G:Good P ih) (C:Ctx P w0 w ρ h β nx f dk rd ds cs frs b dds) (hk:KS P (nt P f.nat) k ks) (L:LZ P (nt P f.nat) ops ρ h β nx tm tmps pl E r qf)
  (e:j8 fe ih f dk rd ds tm (pl.map (np P (nt P f.nat) ops)) k cs h nx=.ok v):Final P w0 (lone (b.atR ⟨tmps,dds⟩ (.inRegion ops r::ks)) (frs++c0::cs0) w) c0 cs0 v:=by
 cases pl with
 |nil =>
  have hall:=L.atEnd;have L0:=L;rw[←List.append_nil r] at L0;obtain ⟨w',ρ',tmps',s,H',K,L'⟩:=LZ.catchAll (ds:=dds) b ks (frs++c0::cs0) L0 hall C.H;rw[List.append_nil] at s;refine Final.steps (s.trans (Steps.one stepR_region_end)) ?_;exact (C.keep H' (Nat.le_refl _) K).plain G hk L'.done e
 |cons p pl =>
 rw[List.map_cons] at e;cases p with
 |chk i =>
  simp only[np] at e
  split at e
  ·rename_i o ho
   split at e
   ·rename_i q g pb hc
    obtain ⟨e1,e2⟩:=aBh e
    have L':=L.chk (fun o' d g' pb' ho' hc' hp=>by
     rw[ho] at ho';cases ho';rw[hc] at hc';simp only[CO.mk.injEq,OB.p.injEq] at hc';obtain ⟨rfl,rfl,rfl⟩:=hc';by_cases hb:CO.mk (some q) g (.p pb)=fC
     ·cases hb
     obtain ⟨_,hd,_,_⟩:=eQ hc hb;cases hdst:o.dst with
     |none=>rw[hdst] at hd;cases hd
     |some x =>
      rw[hdst] at hd;cases hd;exact ⟨x,rfl,e2 hp⟩)
    exact C.go G (.drawn ops pl E r qf k ks hk) ⟨L',rfl⟩ e1
   ·exact (sW e).elim
  ·exact (sW e).elim
 |run i =>
  obtain ⟨fI,hfI,_⟩:=sY L.ck;have hsz:i < ops.size:=by rw[←L.sc.len];exact (List.getElem?_eq_some_iff.1 hfI).1
  obtain ⟨o,ho⟩:∃ o,ops[i]?=some o:=⟨ops[i],by simp [hsz]⟩
  simp only[np,ho] at e;cases hw:wOf P o with
  |true =>
   obtain ⟨r1,r2,rfl,hr1⟩:=L.ahead ho hw;obtain ⟨w',ρ',tmps',s,H',K,L'⟩:=LZ.catchAll (ds:=dds) b ks (frs++c0::cs0) L hr1 C.H;exact Final.steps s (aFC hfe hx G (C.keep H' (Nat.le_refl _) K) (Pt.drawn L' ho hw hk) e)
  |false =>
   have hisw:isW (bT P o)=false:=by
    unfold wOf at hw;rw[Bool.or_eq_false_iff] at hw;exact hw.1
   obtain ⟨d,g,ob,hc⟩:∃ d g ob,fO P (nt P f.nat) ops o=.mk d g ob:=by
    cases h0:fO P (nt P f.nat) ops o with|mk d g ob=>exact ⟨d,g,ob,rfl⟩
   rw[hc] at e;rcases tj e with ⟨hg,e1⟩|⟨hg,hgn,e1⟩
   ·have hnb:ob≠.p .bad:=fun e0=>by subst e0;cases e1
    obtain ⟨hb,hd,hxd,hgd⟩:=eQ hc (yz hnb);rw[←hb] at hisw;cases ob with
    |p pb =>
     simp only[opK] at e1;obtain ⟨x,h1,h2⟩:=pN e1;rw[hd,eJ] at h2
     have L':=L.eager (nx':=nx) (h':=h) (v:=x) (qf':=fun j=>if j=i then none else qf j) ho hw (Nat.le_refl _) (fun _ _=>rfl) (.inl rfl) (fun j hj=>by simp [hj]) (fun q hq=>by simp at hq)
      ⟨d,g,_,hc,yz hnb,.inr ⟨hg,.inl ⟨pb,rfl,h1⟩⟩⟩ (fun _ _ _ _ _ _ he _=>he)
     exact C.go G (.drawn ops pl _ r _ k ks hk) ⟨L',rfl⟩ h2
    |a ab =>
     simp only[opK] at e1;obtain ⟨oo,mk,hA,h2⟩:=js e1;rw[cK,hd,eJ,dO] at h2;have hfr:=C.H.fresh nx (Nat.le_refl _);have hnx:nx.nat≤nx.succ.nat:=by rw[Q.nat_succ];omega
     have hlt:nx.nat < nx.succ.nat:=by rw[Q.nat_succ];omega
     have L':=L.eager (nx':=nx.succ) (h':=h.put .dead oo nx) (v:=mk nx) (qf':=fun j=>if j=i then some nx else qf j) ho hw hnx (fun q hq=>by rw[b8,if_neg (fun e=>by subst e;omega)])
      (.inr fun pb hpb=>by rw[←hb] at hpb;cases hpb) (fun j hj=>by simp [hj]) (fun q hq=>by
       simp at hq;subst hq;exact ⟨hlt,fun j hj hEj hq=>by have:=L.ql j hj hEj _ hq;omega⟩)
      ⟨d,g,_,hc,yz hnb,.inr ⟨hg,.inr ⟨ab,oo,mk,nx,rfl,hA,by simp,hfr,by rw[b8,if_pos rfl],C.le,hlt,rfl⟩⟩⟩ (fun _ _ _ _ _ _ he _=>aJq (Le.made (C.H.dead nx (Nat.le_refl _))) he)
     have C':=C.keep (C.H.pend hfr oo hnx hlt) hnx ⟨Rho.le_refl _,fun q hq hn=>⟨hn,by rw[b8,if_neg (fun e=>by subst e;have:=C.le;omega)]⟩⟩;exact C'.go G (.drawn ops pl _ r _ k ks hk) ⟨L',rfl⟩ h2
    |w wb=>cases hisw
    |call x xs=>cases hisw
    |inv ms x xs=>cases hisw
    |dfr x xs=>cases hisw
    |dfd s x y=>cases hisw
    |rcv=>cases hisw
   ·have hnb:CO.mk d g ob≠fC:=fun e0=>by unfold fC at e0;cases e0;exact hgn rfl
    obtain ⟨hb,hd,hxd,hgd⟩:=eQ hc hnb;rw[hd,eJ] at e1
    have L':=L.eager (nx':=nx) (h':=h) (v:=V.undef) (qf':=fun j=>if j=i then none else qf j) ho hw (Nat.le_refl _) (fun _ _=>rfl) (.inl rfl) (fun j hj=>by simp [hj]) (fun q hq=>by simp at hq)
     ⟨d,g,_,hc,hnb,.inl ⟨hg,rfl⟩⟩ (fun _ _ _ _ _ _ he _=>he)
    exact C.go G (.drawn ops pl _ r _ k ks hk) ⟨L',rfl⟩ e1
end Go.CM
end
