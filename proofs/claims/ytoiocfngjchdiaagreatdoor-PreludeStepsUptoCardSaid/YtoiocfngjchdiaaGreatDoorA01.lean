import Derived.Test.YtoiocfngjchdiaaGreatDoorA00
import Derived.Laws.Cells
set_option linter.all false
namespace Go.AM
section
variable {w w':World}{B0:Nat}{Ψ Z':HT}{J J':List Nat}{ow AQ:Own}
theorem OwnRel.mono{id C6:Hm}{sz:Nat}{xs:List AVal}{v:Value}(h:OwnRel w B0 Ψ ow id sz xs v)(hΨ:Ψ.le Z')
  (hs:∀b,ow b=some id->AQ b=some C6/\w'.heap[b]?=w.heap[b]?/\∀o,Ψ b o=F7->Z' b o=F7):OwnRel w' B0 Z' AQ C6 sz xs v:=by
 obtain⟨h1,h2,a,len,cap,h3,h4⟩:=h;refine⟨h1.mono hΨ (aG _),h2,a,len,cap,h3,?_⟩;rcases h4 with h4|⟨b,o,cs,E,e1,e2,e3,e4,e5,e6⟩
 ·exact .inl h4
 ·obtain⟨k1,k2,k3⟩:=hs b e2
  exact .inr ⟨b,o,cs,E,e1,k1,k2.trans e3,e4,e5,λo' ho=>k3 o' (e6 o' ho)⟩
theorem OwnRel.weak{id:Hm}{sz:Nat}{xs:List AVal}{v:Value}(h:OwnRel w B0 Ψ ow id sz xs v):VRel Ψ [] (.slice xs) v/\(∀x∈xs,x.cells.length=sz)/\∃a len cap,v=.slice a len cap/\(len=cap\/∃b o cs E,a=some ⟨b,o,none⟩/\ow b=some id/\w.heap[b]?=some (.cells cs E (0,0))/\B0<=b/\o+cap*sz<=cs.size/\∀o',o+len*sz<=o'->Ψ b o'=F7):=by
 obtain⟨h1,h2,a,len,cap,h3,h4⟩:=h;exact⟨h1,h2,a,len,cap,h3,h4.imp And.right λk=>k⟩
theorem CRel.mono{id C6:Hm}{c:Cell}{v:Value}(h:CRel w B0 Ψ J ow id c v)(hΨ:Ψ.le Z')(hp:pre J J')
  (hs:∀b,ow b=some id->AQ b=some C6/\w'.heap[b]?=w.heap[b]?/\∀o,Ψ b o=F7->Z' b o=F7):CRel w' B0 Z' J' AQ C6 c v:=by
 cases h with
 |val c v hc h=>exact .val c v hc (h.mono hΨ hp)
 |own sz xs v h=>exact .own sz xs v (h.mono hΨ hs)
def Same(w:World)(Ψ:HT)(ow:Own)(w':World)(Z':HT)(AQ:Own)(k:Bool)(i:Nat)(k':Bool)(i':Nat):Prop :=
 ∀b s,ow b=some (k,i,s)->AQ b=some (k',i',s)/\w'.heap[b]?=w.heap[b]?/\∀o,Ψ b o=F7->Z' b o=F7
theorem Same.refl(w:World)(Ψ:HT)(ow:Own)(k:Bool)(i:Nat):Same w Ψ ow w Ψ ow k i k i:=λ_ _ h=>⟨h,rfl,λ_ h=>h⟩
theorem CsRel.mono{k k':Bool}{i i':Nat}{cs:List Cell}{vs:List Value}(h:CsRel w B0 Ψ J ow k i cs vs)(hΨ:Ψ.le Z')(hp:pre J J')(hs:Same w Ψ ow w' Z' AQ k i k' i') :
  CsRel w' B0 Z' J' AQ k' i' cs vs :=
 ⟨h.1,λj c v hc hv=>(h.2 j c v hc hv).mono hΨ hp λb hb=>hs b _ hb⟩
theorem BoxRel.mono{k k':Bool}{i i':Nat}{cs:List Cell}{b:Nat}(h:BoxRel w B0 Ψ J ow k i cs b)(hΨ:Ψ.le Z')(hp:pre J J')(hs:Same w Ψ ow w' Z' AQ k i k' i') :
  BoxRel w' B0 Z' J' AQ k' i' cs b:=by
 obtain⟨h1,h2,h3,vs,T,h4,h5⟩:=h;obtain⟨k1,k2,k3⟩:=hs b 0 h1;exact⟨k1,h2,λo=>k3 o (h3 o),vs,T,k2.trans h4,h5.mono hΨ hp hs⟩
theorem SRel.mono{tmps tmps':Array Value}{t t':Nat}{s:Slot}{v:Value}(h:SRel w B0 Ψ J ow tmps t s v)(hΨ:Ψ.le Z')(hp:pre J J')(hs:Same w Ψ ow w' Z' AQ false t false t')
  (hr:∀u o,s=.ref u o->tmps'.getD u undef=tmps.getD u undef):SRel w' B0 Z' J' AQ tmps' t' s v:=by
 cases h with
 |dead=>exact .dead _
 |val x v h=>exact .val x v (h.mono hΨ hp)
 |tup xs vs hl h=>exact .tup xs vs hl λi x v h1 h2=>(h i x v h1 h2).mono hΨ hp
 |own sz xs v h=>exact .own sz xs v (h.mono hΨ λb hb=>hs b _ hb)
 |full xs a n h=>exact .full xs a n (h.mono hΨ (aG _))
 |nl=>exact .nl
 |nn xs a n c h=>exact .nn xs a n c (h.mono hΨ (aG _))
 |cells cs vs h=>exact .cells cs vs (h.mono hΨ hp hs)
 |box cs b h=>exact .box cs b (h.mono hΨ hp hs)
 |ref u o b h=>exact .ref u o b ((hr u o rfl).trans h)
theorem ORel.mono{ans:FuncId->AF}{i:Nat}{o:AObj}{b:Nat}(h:ORel w B0 Ψ J ow ans i o b)(hΨ:Ψ.le Z')(hp:pre (J.take (i+1)) (J'.take (i+1)))(hs:Same w Ψ ow w' Z' AQ true i true i) :
  ORel w' B0 Z' J' AQ ans i o b:=by
 cases h with
 |box cs b h=>exact .box cs b (h.mono hΨ hp hs)
 |map es b AK clock hb ho h0 hf h =>
  obtain⟨k1,k2,k3⟩:=hs b 0 ho;exact .map es b AK clock (k2.trans hb) k1 h0 (λo=>k3 o (hf o)) ⟨h.1,λi p e h1 h2=>⟨(h.2 i p e h1 h2).1,(h.2 i p e h1 h2).2.1.mono hΨ (aG _),(h.2 i p e h1 h2).2.2.mono hΨ (aG _)⟩⟩
 |loop l b r hb ho h0 hf h =>
  obtain⟨k1,k2,k3⟩:=hs b 0 ho;refine .loop l b r (k2.trans hb) k1 h0 (λo=>k3 o (hf o)) ?_;exact⟨h.state,h.pend,h.fn,h.params,h.assign,h.body,h.size,λt=>(h.slots t).mono hΨ hp (λb s hb=>by cases hb) (λ_ _ _=>rfl),h.snap,h.hi⟩
 |frz v b h=>exact .frz v b (h.mono hΨ (aG _))
theorem OsRel.mono{ans:FuncId->AF}{objs:List AObj}(h:OsRel w B0 Ψ J ow ans objs)(hΨ:Ψ.le Z')(hs:∀i,i<objs.length->Same w Ψ ow w' Z' AQ true i true i):OsRel w' B0 Z' J AQ ans objs :=
 ⟨h.1,λi o ho=>by
  obtain⟨b,hb,hr⟩:=h.2 i o ho;exact⟨b,hb,hr.mono hΨ (aG _) (hs i (Ab.1 ho).1)⟩⟩
structure Rel (P:Program) (ans:FuncId->AF) (B0:Nat) (w:World) (Ψ:HT) (J:List Nat) (ow:Own) (an:AF) (E:Nat->Slot) (tmps:Array Value) (objs:List AObj):Prop where
 size:tmps.size=an.nt
 wsat:WSat Ψ w
 slots:∀t,SRel w B0 Ψ J ow tmps t (E t) (tmps.getD t undef)
 refs:∀d u o,E d=.ref u o->∃cs,E u=.box cs
 boxes:∀t cs,E t=.box cs->an.loc.contains t=true
 objs:OsRel w B0 Ψ J ow ans objs
 lt:∀b,ow b≠none->b<w.heap.size
 base:B0<=w.heap.size
 hi:∀t,an.nt<=t->E t=.dead
def upd(E:Nat->Slot)(d:Nat)(s:Slot):Nat->Slot:=λt=>if t=d then s else E t
@[simp] theorem eL(E:Nat->Slot)(d:Nat)(s:Slot):upd E d s d=s:=by simp[upd]
theorem bH(E:Nat->Slot){d t:Nat}(s:Slot)(h:t≠d):upd E d s t=E t:=by simp[upd,h]
theorem j9(tmps:Array Value)(d t:Nat)(v:Value)(hd:d<tmps.size):(tmps.setIfInBounds d v).getD t undef=if t=d then v else tmps.getD t undef:=by
 by_cases h:t=d
 ·subst h;simp[Ae,hd]
 ·simp[Ae,h,Db h,Bk (Db h)]
theorem Rel.write{P:Program}{ans:FuncId->AF}{an:AF}{E:Nat->Slot}{tmps:Array Value}{objs EO:List AObj}(h:Rel P ans B0 w Ψ J ow an E tmps objs)
  (d:Nat) (s:Slot) (v:Value) (hd:d<an.nt) (Gt:∀t o,E t=.ref d o->t=d\/∃cs,E d=.box cs/\∃BT,s=.box BT/\v=tmps.getD d undef)
  (Qt:∀u o,s=.ref u o->u≠d/\∃cs,E u=.box cs) (hsb:∀cs,s=.box cs->an.loc.contains d=true)
  (hΨ:Ψ.le Z') (hp:pre J J') (hw:WSat Z' w')
  (MD:∀t,t≠d->t<an.nt->Same w Ψ ow w' Z' AQ false t false t)
  (hv:SRel w' B0 Z' J' AQ (tmps.setIfInBounds d v) d s v)
  (O6:OsRel w' B0 Z' J' AQ ans EO) (AL:∀b,AQ b≠none->b<w'.heap.size) (BC:w.heap.size<=w'.heap.size) :
  Rel P ans B0 w' Z' J' AQ an (upd E d s) (tmps.setIfInBounds d v) EO where
 size:=by simpa using h.size
 wsat:=hw
 slots:=λt=>by
  rw[j9 _ _ _ _ (by rw[h.size];exact hd)];by_cases ht:t=d
  ·subst ht;simpa using hv
  ·rw[bH _ _ ht,Bc ht]
   rcases Dh t an.nt with MP|J8
   case inr=>rw[h.hi t J8];exact .dead _
   refine(h.slots t).mono hΨ hp (MD t ht MP) λu o e=>?_
   rw[j9 _ _ _ _ (by rw[h.size];exact hd)];by_cases hu:u=d
   ·subst hu
    rcases Gt t o e with h1|⟨cs,h1,BT,h2,h3⟩
    ·exact absurd h1 ht
    ·simp[h3]
   ·simp[hu]
 refs:=λx u o e=>by
  by_cases hx:x=d
  ·subst hx
   rw[eL] at e;obtain⟨h1,cs,h2⟩:=Qt u o e;exact⟨cs,by rw[bH _ _ h1];exact h2⟩
  ·rw[bH _ _ hx] at e
   by_cases hu:u=d
   ·subst hu
    rcases Gt x o e with h1|⟨cs,h1,BT,h2,h3⟩
    ·exact absurd h1 hx
    ·exact⟨BT,by rw[eL];exact h2⟩
   ·rw[bH _ _ hu];exact h.refs x u o e
 boxes:=λt cs e=>by
  by_cases ht:t=d
  ·subst ht;rw[eL] at e;exact hsb cs e
  ·rw[bH _ _ ht] at e;exact h.boxes t cs e
 objs:=O6
 lt:=AL
 base:=Bg h.base BC
 hi:=λt ht=>by rw[bH _ _ (by omega)];exact h.hi t ht
end
section
variable {P:Program}{w:World}
section steps
variable {b:Frame}{a:Act}{k:List Item}{cs:List Frame}{ops:Array Oper}{i:Nat}{rest:List Nat}{o:Oper}{w':World}
theorem dI{v:Value}(ho:ops[i]?=some o)(hw:Region.wanted o (yielded ops a.tmps)=true)(hd:∀c,o.op≠.defer c)(hr:(execOp a.eval o).run P w=.ok (.value v) w') :
  step P (lone (b.atR a (.inRegion ops (i::rest)::k)) cs w)=.next (lone (b.atR (a.put o.dst v) (.inRegion ops rest::k)) cs w'):=by
 refine step_lone_go ?_;have h:=Frame.finish_atR b a ops i rest k v;rw[ho] at h;rw[stepGR_op ho hw,Oper.semAt_eq _ _ _ hd];simp[stepG.apply,hr,h]
theorem eS(ho:ops[i]?=some o)(hw:Region.wanted o (yielded ops a.tmps)=true)(hd:∀c,o.op≠.defer c)(hr:(execOp a.eval o).run P w=.ok .skip w') :
  step P (lone (b.atR a (.inRegion ops (i::rest)::k)) cs w)=.next (lone (b.atR (a.put o.dst undef) (.inRegion ops rest::k)) cs w'):=by
 refine step_lone_go ?_;have h:=Frame.finish_atR b a ops i rest k undef;rw[ho] at h;rw[stepGR_op ho hw,Oper.semAt_eq _ _ _ hd];simp[stepG.apply,hr,h]
theorem lD{f:FuncId}{args:Array Value}(ho:ops[i]?=some o)(hw:Region.wanted o (yielded ops a.tmps)=true)(hd:∀c,o.op≠.defer c)(hr:(execOp a.eval o).run P w=.ok (.enter f args) w') :
  step P (lone (b.atR a (.inRegion ops (i::rest)::k)) cs w)=.next (lone (Frame.enter P f args .normal) (b.atR a (.inRegion ops (i::rest)::k)::cs) w'):=by
 refine step_lone_go ?_;rw[stepGR_op ho hw,Oper.semAt_eq _ _ _ hd];simp[stepG.apply,hr,Frame.atR]
theorem lE{l:Nat}{f:FuncId}{tmps:Array Value}{x y:Code}(ho:ops[i]?=some o)(hw:Region.wanted o (yielded ops a.tmps)=true)(hd:∀c,o.op≠.defer c)(hr:(execOp a.eval o).run P w=.ok (.round l f tmps x y) w') :
  step P (lone (b.atR a (.inRegion ops (i::rest)::k)) cs w)=.next (lone (Frame.round l f tmps x y .normal) (b.atR a (.inRegion ops (i::rest)::k)::cs) w'):=by
 refine step_lone_go ?_;rw[stepGR_op ho hw,Oper.semAt_eq _ _ _ hd];simp[stepG.apply,hr,Frame.atR]
theorem rp{v:Value}(ho:ops[i]?=some o)(hw:Region.wanted o (yielded ops a.tmps)=true)(hd:∀c,o.op≠.defer c)(hr:(execOp a.eval o).run P w=.halt (.panic v) w') :
  step P (lone (b.atR a (.inRegion ops (i::rest)::k)) cs w)=.next (lone { b.atR a (.inRegion ops (i::rest)::k) with mode:=.panicking [{ v,recovered:=false }] } cs w'):=by
 refine step_lone_go ?_;rw[stepGR_op ho hw,Oper.semAt_eq _ _ _ hd,<-Frame.raise_atR];simp[stepG.apply,hr]
end steps
theorem run_underlying{t:TypeId}{d:TypeDesc}(h:P.underlying t=some d):(underlying t).run P w=.ok d w:=by simp[underlying,h]
theorem run_typeInfo{t:TypeId}{i:TypeInfo}(h:P.info? t=some i):(typeInfo t).run P w=.ok i w:=by simp[typeInfo,h]
theorem run_sizeOf{t:TypeId}{s:Nat}(h:aP P t=some s):(sizeOf t).run P w=.ok s w:=by
 unfold aP at h;cases hi:P.info? t with
 |none=>simp[hi] at h
 |some i=>simp[hi] at h;simp[sizeOf,run_typeInfo hi,h]
theorem dA{t:TypeId}{b:Bool}(h:aM P t=some b):(isAgg t).run P w=.ok b w:=by
 unfold aM at h;cases hu:P.underlying t with
 |none=>simp[hu] at h
 |some d =>
  simp only[isAgg,Sem.run_bind,run_underlying hu,Result.andThen_ok];cases d<;>simp_all
theorem aU{t:TypeId}{v:Value}(h:(P.info? t).bind (·.zero)=some v):(zeroValue t).run P w=.ok v w:=by
 cases hi:P.info? t with
 |none=>simp[hi] at h
 |some i=>simp[hi] at h;simp[zeroValue,run_typeInfo hi,h]
theorem cE(b o j:Nat):(Addr.add ⟨b,o,none⟩ j)=⟨b,o+j,none⟩:=by
 unfold Addr.add;split
 ·subst_vars;rfl
 ·rfl
theorem cell_of_heap{b:Nat}{vs:List Value}{T:TypeId}{fz:Nat×Nat}(h:w.heap[b]?=some (.cells ⟨vs⟩ T fz))(o:Nat):w.cell? ⟨b,o,none⟩=vs[o]?:=by
 simp[World.cell?,h]
theorem run_loadVar_agg{t:TypeId}{b o:Nat}{vs:List Value}(h1:aM P t=some true)(h2:aP P t=some vs.length)(h:∀(j:Nat) v,vs[j]?=some v->w.cell? ⟨b,o+j,none⟩=some v) :
  (loadVar t ⟨b,o,none⟩).run P w=.ok (.agg ⟨vs⟩) w:=by
 have:=run_loadCells_list (P:=P) (w:=w) ⟨b,o,none⟩ vs (λj v hj=>by rw[cE];exact h j v hj)
 simp[loadVar,dA h1,run_sizeOf h2,this]
theorem run_loadVar_one{t:TypeId}{a:Addr}{v:Value}(h1:aM P t=some false)(h:w.cell? a=some v):(loadVar t a).run P w=.ok v w:=by
 simp[loadVar,dA h1,h]
theorem rm{b o:Nat}{vs:List Value}{T:TypeId}{fz:Nat×Nat}(h:w.heap[b]?=some (.cells ⟨vs⟩ T fz))(v:Value) :
  w.setCell ⟨b,o,none⟩ v=w.putObj b (.cells ⟨vs.set o v⟩ T fz):=by
 unfold World.setCell World.putObj;congr 1;apply Fe;intro j;rw[Gp];by_cases hj:b=j
 ·subst hj
  obtain⟨hb,he⟩:=Ai.1 h;simp[hb,he]
 ·simp[hj,Bk hj]
theorem yH(b:Nat)(x y:Obj):(w.putObj b x).putObj b y=w.putObj b y:=by
 simp[World.putObj]
def overwrite{α:Type}(l:List α)(o:Nat)(new:List α):List α:=l.take o++new++l.drop (o+new.length)
theorem b8{b:Nat}{T:TypeId}:∀(new:List Value)(o i:Nat)(w:World)(vs:List Value),w.heap[b]?=some (.cells ⟨vs⟩ T (0,0))->(∀v∈new,oneC v=true)->o+i+new.length<=vs.length ->
  (storeCells ⟨b,o,none⟩ new i).run P w=.ok () (w.putObj b (.cells ⟨overwrite vs (o+i) new⟩ T (0,0)))
 |[],o,i,w,vs,h,_,_=>by
  have:w.putObj b (.cells ⟨vs⟩ T (0,0))=w:=by
   unfold World.putObj;have hb:=(Ai.1 h)
   have:w.heap.setIfInBounds b (.cells ⟨vs⟩ T (0,0))=w.heap:=by
    apply Fe;intro j;by_cases hj:b=j
    ·subst hj;obtain⟨E8,Lh⟩:=hb;simp[E8,Lh]
    ·simp[Bk hj]
   rw[this]
  simp[storeCells,overwrite,this]
 |v::new,o,i,w,vs,h,h1,h2=>by
  have AL:o+i<vs.length:=by simp at h2;omega
  have hc:w.cell? ⟨b,o+i,none⟩=some vs[o+i]:=by rw[cell_of_heap h];simp[AL]
  have hf:w.frozen? ⟨b,o+i,none⟩=false:=by simp[World.frozen?,h]
  have hv:oneC v=true:=h1 v (by simp)
  have hs:(store (Addr.add ⟨b,o,none⟩ i) v).run P w=.ok () (w.putObj b (.cells ⟨vs.set (o+i) v⟩ T (0,0))):=by
   rw[cE];unfold store;cases v<;>simp_all [Sem.run,oneC,rm h]
  have hb:=(Ai.1 h).1;have ih:=b8 new o (i+1) (w.putObj b (.cells ⟨vs.set (o+i) v⟩ T (0,0))) (vs.set (o+i) v) (World.putObj_heap_same hb) (λx hx=>h1 x (by simp[hx])) (by simp at h2 ⊢;omega);unfold storeCells;simp only[Sem.run_bind,hs,Result.andThen_ok,ih,yH];congr 4;unfold overwrite;rw[show o+(i+1)=o+i+1 from by omega,Ff (by simpa using AL)];simp only[Gm,An];rw[List.take_set_of_le (Af _),List.drop_set_of_lt (by omega)];simp[show o+i+1+new.length=o+i+(new.length+1) from by omega]
theorem eQ{t:TypeId}{b o:Nat}{T:TypeId}{vs:List Value}{v:Value}(hs:aP P t=some v.cells.size)(h:w.heap[b]?=some (.cells ⟨vs⟩ T (0,0)))(h1:∀u∈v.cells.toList,oneC u=true)(h2:o+v.cells.size<=vs.length) :
  (storeVar t ⟨b,o,none⟩ v).run P w=.ok () (w.putObj b (.cells ⟨overwrite vs o v.cells.toList⟩ T (0,0))):=by
 have:=b8 (P:=P) v.cells.toList o 0 w vs h h1 (by simpa using h2)
 simp[storeVar,run_sizeOf hs,this]
theorem heap_alloc_new(o:Obj):(w.alloc o).heap[w.heap.size]?=some o:=by show(w.heap.push o)[w.heap.size]?=_;simp
theorem heap_alloc_old(o:Obj){b:Nat}(h:b<w.heap.size):(w.alloc o).heap[b]?=w.heap[b]?:=by
 show(w.heap.push o)[b]?=_;rw[Array.getElem?_push,Bc (by omega)]
end
section
variable {P:Program}{ans:FuncId->AF}{an:AF}{w:World}{B0:Nat}{Ψ:HT}{J:List Nat}{ow:Own}{tmps:Array Value}{R:Type}{r:R}
theorem aA{b:Bool}{k:Option R}(h:aL b k=some r):b=true/\k=some r:=by
 cases b<;>simp_all [aL]
theorem aH{α:Type}{x:Option α}{f:α->Option R}(h:x.bind f=some r):∃a,x=some a/\f a=some r:=by
 cases x with
 |none=>simp at h
 |some a=>exact⟨a,rfl,by simpa using h⟩
theorem OwnRel.val{id:Hm}{sz:Nat}{xs:List AVal}{v:Value}(h:OwnRel w B0 Ψ ow id sz xs v):VRel Ψ J (.slice xs) v:=h.rel.mono Ψ.le_refl (pre_nil _)
theorem CRel.get{id:Hm}{c:Cell}{v:Value}(h:CRel w B0 Ψ J ow id c v):c.get.isCell=true/\VRel Ψ J c.get v:=by
 cases h with
 |val c v hc h=>exact⟨hc,h⟩
 |own sz xs v h=>exact⟨rfl,h.val⟩
theorem CsRel.agg{k:Bool}{i:Nat}{cs:List Cell}{vs:List Value}(h:CsRel w B0 Ψ J ow k i cs vs):VRel Ψ J (.agg (cs.map Cell.get)) (.agg ⟨vs⟩):=by
 refine .agg _ vs (by simpa using h.1) ?_ ?_
 ·intro j c hc
  simp only[Av,Ap] at hc;obtain⟨c',CW,rfl⟩:=hc;have hj:j<vs.length:=by rw[<-h.1];exact(Ab.1 CW).1
  exact(h.2 j c' vs[j] CW (by simp[hj])).get.1
 ·intro j c v hc hv
  simp only[Av,Ap] at hc;obtain⟨c',CW,rfl⟩:=hc;exact(h.2 j c' v CW hv).get.2
theorem lU{t:Nat}{s:Slot}{v:Value}(h:SRel w B0 Ψ J ow tmps t s v){k:AVal->Option R}(e:DQ s k=some r):∃x,k x=some r/\VRel Ψ J x v:=by
 cases h with
 |dead=>simp[DQ] at e
 |val x v h=>exact⟨x,e,h⟩
 |tup=>simp[DQ] at e
 |own sz xs v h=>exact⟨_,e,h.val⟩
 |full xs a n h=>exact⟨_,e,h.mono Ψ.le_refl (pre_nil _)⟩
 |nl=>exact⟨_,e,.slice [] none 0 0 0 rfl (Af _) (λi x hx=>by simp at hx)⟩
 |nn xs a n c h=>exact⟨_,e,h.mono Ψ.le_refl (pre_nil _)⟩
 |cells cs vs h=>exact⟨_,e,h.agg⟩
 |box=>simp[DQ] at e
 |ref=>simp[DQ] at e
theorem sY{t:Nat}{s:Slot}{v:Value}(h:SRel w B0 Ψ J ow tmps t s v){k:List AVal->Option R}(e:kL s k=some r):∃xs,k xs=some r/\VRel Ψ J (.slice xs) v:=by
 cases h with
 |dead=>simp[kL] at e
 |val x v h=>cases x<;>first|(simp[kL] at e;done)|exact⟨_,e,h⟩
 |tup=>simp[kL] at e
 |own sz xs v h=>exact⟨_,e,h.val⟩
 |full xs a n h=>exact⟨_,e,h.mono Ψ.le_refl (pre_nil _)⟩
 |nl=>exact⟨_,e,.slice [] none 0 0 0 rfl (Af _) (λi x hx=>by simp at hx)⟩
 |nn xs a n c h=>exact⟨_,e,h.mono Ψ.le_refl (pre_nil _)⟩
 |cells=>simp[kL] at e
 |box=>simp[kL] at e
 |ref=>simp[kL] at e
theorem j5{t:Nat}{s:Slot}{v:Value}(h:SRel w B0 Ψ J ow tmps t s v){k:IntKind->Int->Option R}(e:asInt s k=some r):∃kd n,k kd n=some r/\v=.int kd n:=by
 cases h with
 |val x v h=>cases h<;>first|(simp[asInt] at e;done)|exact⟨_,_,e,rfl⟩
 |_=>simp[asInt] at e
theorem yW{t:Nat}{s:Slot}{v:Value}(h:SRel w B0 Ψ J ow tmps t s v){k:Bool->Option R}(e:asBool s k=some r):∃b,k b=some r/\v=.bool b/\s=.val (.bool b):=by
 cases h with
 |val x v h =>
  cases h with
  |bool b=>refine⟨b,?_,rfl,rfl⟩;cases b<;>simpa[asBool] using e
  |_=>simp[asBool] at e
 |_=>simp[asBool] at e
theorem fM{v:Value}{x:AVal}(h:iL v=some x):x.isCell=true/\VRel Ψ J x v:=by
 unfold iL at h
 split at h<;>simp at h<;>subst h<;>refine⟨rfl,?_⟩
 ·exact .bool _
 ·exact .int _ _
 ·exact .str _
 ·exact .nilptr
 ·exact .slice [] none 0 0 0 rfl (Af _) (λi x hx=>by simp at hx)
 ·exact .nilmap
 ·exact .nilfunc
 ·exact .nilif
theorem qT:∀{vs:List Value}{xs:List AVal},ep vs=some xs->xs.length=vs.length/\∀(i:Nat)(x:AVal)(v:Value),xs[i]?=some x->vs[i]?=some v->iL v=some x
 |[],xs,h=>by simp[ep] at h;subst h;simp
 |v::vs,xs,h=>by
  simp only[ep,Cv,Ap] at h;obtain⟨a,ha,l,hl,rfl⟩:=h;obtain⟨h1,h2⟩:=qT hl;refine⟨by simp[h1],λi x v' hx hv=>?_⟩;cases i with
  |zero=>simp at hx hv;subst hx;subst hv;exact ha
  |succ i=>simp at hx hv;exact h2 i x v' hx hv
theorem iO{v:Value}{x:AVal}(h:iM v=some x):VRel Ψ J x v:=by
 cases v with
 |agg cs =>
  simp only[iM,Ap] at h;obtain⟨l,hl,rfl⟩:=h;obtain⟨h1,h2⟩:=qT hl;obtain⟨cs⟩:=cs;refine .agg l cs h1 ?_ (λi c v hc hv=>(fM (h2 i c v hc hv)).2);intro i c hc;have hi:i<cs.length:=by rw[<-h1];exact(Ab.1 hc).1
  exact(fM (Ψ:=Ψ) (J:=J) (h2 i c cs[i] hc (by simp[hi]))).1
 |_=>exact(fM (by simpa only[iM] using h)).2
theorem uW(t:Nat)(v:Value):SRel w B0 Ψ J ow tmps t (gE v) v:=by
 unfold gE;split
 ·exact .nl
 ·split
  ·exact .val _ _ (iO ‹_›)
  ·exact .dead _
theorem wR(id:Hm)(sz:Nat):OwnRel w B0 Ψ ow id sz [] (.slice none 0 0) :=
 ⟨.slice [] none 0 0 0 rfl (Af _) (λi x hx=>by simp at hx),λx hx=>by simp at hx,none,0,0,rfl,.inl ⟨rfl,rfl⟩⟩
theorem og(t:Nat)(ty:TypeId)(v:Value):SRel w B0 Ψ J ow tmps t (l6 P ty v) v:=by
 unfold l6;split
 ·split
  ·exact .own _ _ _ (wR _ _)
  ·exact .nl
 ·exact uW t v
abbrev sl(an:AF)(tm:List Slot)(rs:RS):Nat->Slot:=rs.look an.keep tm
theorem eK(keep:List Nat)(tm:List Slot)(rs:RS)(d:Nat)(s:Slot):(rs.put d s).look keep tm=upd (rs.look keep tm) d s:=by
 funext t;unfold RS.look RS.put upd;by_cases h:t=d
 ·subst h;simp[bU]
 ·have:Nat.beq d t=false:=by
   cases e:Nat.beq d t with
   |false=>rfl
   |true=>exact absurd (Aa e).symm h
  simp[bU,this,h]
theorem bG{tm:List Slot}{rs:RS}{objs:List AObj}{ds:List Deferred}(h:Rel P ans B0 w Ψ J ow an (sl an tm rs) tmps objs)(x:Operand) :
  ∃t,SRel w B0 Ψ J ow tmps t (A6 an.keep tm rs x) ((⟨tmps,ds⟩:Act).eval x)/\(∀u,x=.tmp u->t=u):=by
 cases x with
 |tmp t=>exact⟨t,h.slots t,λu e=>by cases e;rfl⟩
 |const v=>exact⟨0,uW 0 v,λu e=>by cases e⟩
 |global g=>exact⟨0,.dead _,λu e=>by cases e⟩
 |func f=>exact⟨0,.val _ _ (.func f [] [] rfl (λi c v hc=>by simp at hc)),λu e=>by cases e⟩
def ren(ow:Own)(k1:Bool)(i1:Nat)(k2:Bool)(i2 off:Nat):Own:=λb =>
 match ow b with
 |some (k,i,s)=>if k=k1/\i=i1 then some (k2,i2,s+off) else some (k,i,s)
 |none=>none
section
variable (w:World)(Ψ:HT)(ow:Own){k1 k2:Bool}{i1 i2 off:Nat}
theorem mM{b:Nat}(h:ren ow k1 i1 k2 i2 off b≠none):ow b≠none:=by
 intro e;simp[ren,e] at h
theorem ki:Same w Ψ ow w Ψ (ren ow k1 i1 k2 i2 0) k1 i1 k2 i2:=λb s h=>⟨by simp[ren,h],rfl,λ_ h=>h⟩
theorem gI{k:Bool}{i:Nat}(h:¬(k=k1/\i=i1)):Same w Ψ ow w Ψ (ren ow k1 i1 k2 i2 off) k i k i:=λb s e=>⟨by simp[ren,e,h],rfl,λ_ h=>h⟩
theorem Fr.ren:Fr w Ψ ow w Ψ (ren ow k1 i1 k2 i2 off):=⟨Ψ.le_refl,Af _,λ_ _ _=>⟨rfl,λ_=>rfl⟩,λb h=>.inl (mM ow h),rfl,rfl,rfl⟩
end
theorem Rel.take{E:Nat->Slot}{objs:List AObj}(h:Rel P ans B0 w Ψ J ow an E tmps objs)(t:Nat)(ht:t<an.nt)(x:AVal)(hx:VRel Ψ J x (tmps.getD t undef))(hb:∀cs,E t≠.box cs)(q:Nat) :
  Rel P ans B0 w Ψ J (ren ow false t false q 0) an (upd E t (.val x)) tmps objs/\SRel w B0 Ψ J (ren ow false t false q 0) tmps q (E t) (tmps.getD t undef):=by
 refine⟨?_,(h.slots t).mono Ψ.le_refl (aG _) (ki _ _ _) (λ_ _ _=>rfl)⟩;refine⟨h.size,h.wsat,λu=>?_,λd u o e=>?_,λu cs e=>?_,h.objs.mono Ψ.le_refl (λi _=>gI _ _ _ (by simp)),λb BB=>h.lt b (mM _ BB),h.base,λu hu=>?_⟩
 ·by_cases hu:u=t
  ·subst hu;rw[eL];exact .val _ _ hx
  ·rw[bH _ _ hu];exact(h.slots u).mono Ψ.le_refl (aG _) (gI _ _ _ (by simp[hu])) (λ_ _ _=>rfl)
 ·by_cases hd:d=t
  ·subst hd;simp at e
  ·rw[bH _ _ hd] at e
   obtain⟨cs,hc⟩:=h.refs d u o e;by_cases hu:u=t
   ·subst hu;exact absurd hc (hb cs)
   ·exact⟨cs,by rw[bH _ _ hu];exact hc⟩
 ·by_cases hu:u=t
  ·subst hu;simp at e
  ·rw[bH _ _ hu] at e;exact h.boxes u cs e
 ·rw[bH _ _ (by omega)];exact h.hi u hu
theorem Rel.lt_of{E:Nat->Slot}{objs:List AObj}(h:Rel P ans B0 w Ψ J ow an E tmps objs){t:Nat}(ht:E t≠.dead):t<an.nt:=by
 rcases Dh t an.nt with h1|h1
 ·exact h1
 ·exact absurd (h.hi t h1) ht
end
section
variable {P:Program}{ans:FuncId->AF}{an:AF}{w:World}{B0:Nat}{Ψ:HT}{J:List Nat}{ow:Own}{tmps:Array Value}{R:Type}{r:R}
structure StoLe (a b:AH):Prop where
 lo:b.lo=a.lo
 len:a.objs.length<=b.objs.length
 keep:∀i,i<a.lo->b.objs[i]?=a.objs[i]?
theorem StoLe.refl(a:AH):StoLe a a:=⟨rfl,Af _,λ_ _=>rfl⟩
theorem StoLe.trans{a b c:AH}(h:StoLe a b)(k:StoLe b c):StoLe a c:=⟨k.lo.trans h.lo,Bg h.len k.len,λi hi=>(k.keep i (by rw[h.lo];exact hi)).trans (h.keep i hi)⟩
section
variable (P ans an B0 w Ψ J ow tmps)
def Goal(tm:List Slot)(rs:RS)(dst:Option Nat)(m:Machine)(mk mp:Value->World->Machine)(kp:AVal->RS->Option R)(k:Slot->RS->Option R)(r:R):Prop :=
 (∃s AX v w' Z' J' AQ,k s AX=some r/\Rel P ans B0 w' Z' J' AQ an (sl an tm AX) tmps AX.sto.objs/\SRel w' B0 Z' J' AQ tmps an.nt s v /\
  (∀u o,s=.ref u o->∃cs,sl an tm AX u=.box cs)/\(∀cs,s=.box cs->∃d,dst=some d/\an.loc.contains d=true) /\
  Fr w Ψ ow w' Z' AQ/\pre J J'/\StoLe rs.sto AX.sto/\Steps P m (mk v w')) \/
 (∃x AX v w' Z' J' AQ,kp x AX=some r/\Rel P ans B0 w' Z' J' AQ an (sl an tm AX) tmps AX.sto.objs/\VRel Z' J' x v /\
  Fr w Ψ ow w' Z' AQ/\pre J J'/\StoLe rs.sto AX.sto/\Steps P m (mp v w'))
end
variable {tm:List Slot}{rs:RS}{dst:Option Nat}{m:Machine}{mk mp:Value->World->Machine}{kp:AVal->RS->Option R}{k:Slot->RS->Option R}
theorem Goal.plain(h:Rel P ans B0 w Ψ J ow an (sl an tm rs) tmps rs.sto.objs){s:Slot}{v:Value}(hk:k s rs=some r)(hs:SRel w B0 Ψ J ow tmps an.nt s v)
  (hr:∀u o,s=.ref u o->∃cs,sl an tm rs u=.box cs) (hb:∀cs,s≠.box cs) (A7:Steps P m (mk v w)):Goal P ans an w B0 Ψ J ow tmps tm rs dst m mk mp kp k r :=
 .inl ⟨s,rs,v,w,Ψ,J,ow,hk,h,hs,hr,λcs e=>absurd e (hb cs),Fr.refl _ _ _,aG _,StoLe.refl _,A7⟩
theorem Goal.val(h:Rel P ans B0 w Ψ J ow an (sl an tm rs) tmps rs.sto.objs){x:AVal}{v:Value}(hk:k (.val x) rs=some r)(hs:VRel Ψ J x v)(A7:Steps P m (mk v w)):Goal P ans an w B0 Ψ J ow tmps tm rs dst m mk mp kp k r :=
 .plain h hk (.val _ _ hs) (λ_ _ e=>by cases e) (λ_ e=>by cases e) A7
theorem SRel.at{t t':Nat}{s:Slot}{v:Value}(h:SRel w B0 Ψ J ow tmps t s v)(h1:∀sz xs,s≠.own sz xs)(h2:∀cs,s≠.cells cs)(h3:∀cs,s≠.box cs):SRel w B0 Ψ J ow tmps t' s v:=by
 cases h with
 |dead=>exact .dead _
 |val x v h=>exact .val x v h
 |tup xs vs hl h=>exact .tup xs vs hl h
 |own sz xs v h=>exact absurd rfl (h1 sz xs)
 |full xs a n h=>exact .full xs a n h
 |nl=>exact .nl
 |nn xs a n c h=>exact .nn xs a n c h
 |cells cs vs h=>exact absurd rfl (h2 cs)
 |box cs b h=>exact absurd rfl (h3 cs)
 |ref u o b h=>exact .ref u o b h
theorem wm(h:Rel P ans B0 w Ψ J ow an (sl an tm rs) tmps rs.sto.objs){t:Nat}{s:Slot}{v:Value}(hs:SRel w B0 Ψ J ow tmps t s v)(HP:∀u o,s=.ref u o->∃cs,sl an tm rs u=.box cs)
  (e:mv s (λs'=>k s' rs)=some r) (A7:Steps P m (mk v w)):Goal P ans an w B0 Ψ J ow tmps tm rs dst m mk mp kp k r:=by
 cases hs with
 |dead=>simp[mv] at e
 |val x v hv=>exact .val h e hv A7
 |tup xs vs hl hv=>exact .plain h e (.tup xs vs hl hv) (λ_ _ e=>by cases e) (λ_ e=>by cases e) A7
 |own sz xs v hv=>exact .val h e hv.val A7
 |full xs a n hv=>exact .plain h e (.full xs a n hv) (λ_ _ e=>by cases e) (λ_ e=>by cases e) A7
 |nl=>exact .plain h e .nl (λ_ _ e=>by cases e) (λ_ e=>by cases e) A7
 |nn xs a n c hv=>exact .plain h e (.nn xs a n c hv) (λ_ _ e=>by cases e) (λ_ e=>by cases e) A7
 |cells cs vs hv=>exact .val h e hv.agg A7
 |box=>simp[mv] at e
 |ref u o b hv=>exact .plain h e (.ref u o b hv) HP (λ_ e=>by cases e) A7
theorem pU(h:Rel P ans B0 w Ψ J ow an (sl an tm rs) tmps rs.sto.objs)(x:Operand):∀u o,A6 an.keep tm rs x=.ref u o->∃cs,sl an tm rs u=.box cs:=by
 intro u o e;cases x with
 |tmp t=>exact h.refs t u o e
 |const v =>
  simp only[A6,gE] at e
  split at e
  ·cases e
  ·split at e<;>cases e
 |global=>simp[A6] at e
 |func=>simp[A6] at e
variable {ds:List Deferred}
theorem qK(h:Rel P ans B0 w Ψ J ow an (sl an tm rs) tmps rs.sto.objs)(t:Nat)(x:AVal)(hx:VRel Ψ J x (tmps.getD t undef))(BD:sl an tm rs t≠.dead)(HU:∀cs,sl an tm rs t≠.box cs)(Gt:∀u o,sl an tm rs t≠.ref u o)
  (e:k (sl an tm rs t) (rs.put t (.val x))=some r) (A7:Steps P m (mk (tmps.getD t undef) w)):Goal P ans an w B0 Ψ J ow tmps tm rs dst m mk mp kp k r:=by
 obtain⟨h1,h2⟩:=h.take t (h.lt_of BD) x hx HU an.nt;refine .inl ⟨_,_,_,w,Ψ,J,_,e,?_,h2,λu o he=>absurd he (Gt u o),λcs he=>absurd he (HU cs),Fr.ren _ _ _,aG _,StoLe.refl _,A7⟩;rw[show sl an tm (rs.put t (.val x))=upd (sl an tm rs) t (.val x) from eK _ _ _ _ _];exact h1
theorem aDc(h:Rel P ans B0 w Ψ J ow an (sl an tm rs) tmps rs.sto.objs){tk:Bool}{ty:TypeId}{x:Operand}(e:GU P an tm tk ty x rs k=some r)
  (A7:Steps P m (mk ((⟨tmps,ds⟩:Act).eval x) w)):Goal P ans an w B0 Ψ J ow tmps tm rs dst m mk mp kp k r:=by
 obtain⟨t,hs,ht⟩:=bG (ds:=ds) h x;have HP:=pU h x;unfold GU at e
 split at e
 ·rename_i t'
  obtain rfl:=ht t' rfl
  split at e
  ·rename_i sz xs BK
   have hop':sl an tm rs t=.own sz xs:=BK
   split at e
   ·refine qK h t (.slice xs) ?_ (by rw[hop'];simp) (by rw[hop'];simp) (by rw[hop'];simp) (by rw[hop'];exact e) A7
    rw[BK] at hs;cases hs with|own _ _ _ hv=>exact hv.val
   ·rw[BK] at hs;cases hs with|own _ _ _ hv=>exact .val h e hv.val A7
  ·rename_i cs BK
   have hop':sl an tm rs t=.cells cs:=BK
   split at e
   ·refine qK h t (.agg (cs.map Cell.get)) ?_ (by rw[hop'];simp) (by rw[hop'];simp) (by rw[hop'];simp) (by rw[hop'];exact e) A7
    rw[BK] at hs;generalize(Act.eval { tmps:=tmps,defers:=ds } (Operand.tmp t))=v at hs
    change SRel w B0 Ψ J ow tmps t (.cells cs) v at hs
    exact(show VRel Ψ J (.agg (cs.map Cell.get)) (tmps.getD t undef) from by
     have:=h.slots t;rw[hop'] at this
     generalize tmps.getD t undef=u at this;cases this with|cells _ _ hv=>exact hv.agg)
   ·rw[BK] at hs
    generalize(Act.eval { tmps:=tmps,defers:=ds } (Operand.tmp t))=v at hs A7;cases hs with|cells _ _ hv=>exact .val h e hv.agg A7
  ·exact wm h hs HP e A7
 ·rename_i v
  have hc:=og (P:=P) (w:=w) (B0:=B0) (Ψ:=Ψ) (J:=J) (ow:=ow) (tmps:=tmps) an.nt ty v
  split at e
  ·cases e
  ·rename_i s BD
   refine .plain h e hc (λu o he=>?_) (λcs he=>?_) A7
   ·unfold l6 at he
    split at he
    ·split at he<;>cases he
    ·unfold gE at he;split at he
     ·cases he
     ·split at he<;>cases he
   ·unfold l6 at he
    split at he
    ·split at he<;>cases he
    ·unfold gE at he;split at he
     ·cases he
     ·split at he<;>cases he
 ·exact wm h hs HP e A7
end
section
variable {P:Program}{ans:FuncId->AF}{an:AF}{w:World}{B0:Nat}{Ψ:HT}{J:List Nat}{ow:Own}{tmps:Array Value}{R:Type}{r:R}
variable {tm:List Slot}{rs:RS}{dst:Option Nat}{m:Machine}{mk mp:Value->World->Machine}{kp:AVal->RS->Option R}{k:Slot->RS->Option R}{ds:List Deferred}
theorem VRel.csRel{x:AVal}{v:Value}(h:VRel Ψ J x v)(kk:Bool)(i:Nat):CsRel w B0 Ψ J ow kk i (x.cells.map .val) v.cells.toList:=by
 obtain⟨h1,h2,h3⟩:=h.cells;refine⟨by simpa using h1,λj c u hc hu=>?_⟩;simp only[Av,Ap] at hc;obtain⟨c',CW,rfl⟩:=hc;exact .val c' u (h2 j c' CW) (h3 j c' u CW (by simpa using hu))
theorem uL(h:Rel P ans B0 w Ψ J ow an (sl an tm rs) tmps rs.sto.objs){x:Operand}(q:Nat){k:List Cell->RS->Option R}(e:dJ an.keep tm rs x k=some r) :
  ∃cs AX AQ,k cs AX=some r/\Rel P ans B0 w Ψ J AQ an (sl an tm AX) tmps AX.sto.objs/\CsRel w B0 Ψ J AQ false q cs ((⟨tmps,ds⟩:Act).eval x).cells.toList/\Fr w Ψ ow w Ψ AQ/\AX.sto=rs.sto /\
   (∀kk i,(∀t,x=.tmp t->¬(kk=false/\i=t))->Same w Ψ ow w Ψ AQ kk i kk i)/\(∀t cs,sl an tm rs t=.box cs->sl an tm AX t=.box cs):=by
 obtain⟨t,hs,ht⟩:=bG (ds:=ds) h x
 have plain:∀y:AVal,VRel Ψ J y ((⟨tmps,ds⟩:Act).eval x)->k (y.cells.map .val) rs=some r ->
   ∃cs AX AQ,k cs AX=some r/\Rel P ans B0 w Ψ J AQ an (sl an tm AX) tmps AX.sto.objs/\CsRel w B0 Ψ J AQ false q cs ((⟨tmps,ds⟩:Act).eval x).cells.toList/\Fr w Ψ ow w Ψ AQ/\AX.sto=rs.sto /\
   (∀kk i,(∀t,x=.tmp t->¬(kk=false/\i=t))->Same w Ψ ow w Ψ AQ kk i kk i)/\(∀t cs,sl an tm rs t=.box cs->sl an tm AX t=.box cs):=λy hy hk =>
  ⟨_,rs,ow,hk,h,hy.csRel false q,Fr.refl _ _ _,rfl,λkk i _=>Same.refl _ _ _ _ _,λ_ _ h=>h⟩
 unfold dJ at e
 split at e
 ·rename_i sz xs t' BK
  obtain rfl:=ht t' rfl
  split at e
  ·rw[BK] at hs;cases hs with|own _ _ _ hv=>exact plain (.slice xs) hv.val e
  ·have hop':sl an tm rs t=.own sz xs:=BK
   have hx:VRel Ψ J (.slice xs) (tmps.getD t undef):=by have:=h.slots t;rw[hop'] at this;cases this with|own _ _ _ hv=>exact hv.val
   obtain⟨h1,h2⟩:=h.take t (h.lt_of (by rw[hop'];simp)) (.slice xs) hx (by rw[hop'];simp) q;refine⟨_,_,ren ow false t false q 0,e,?_,?_,Fr.ren _ _ _,rfl,?_,?_⟩
   ·rw[show sl an tm (rs.put t (.val (.slice xs)))=upd (sl an tm rs) t (.val (.slice xs)) from eK _ _ _ _ _];exact h1
   ·rw[hop'] at h2
    have hv:(Act.eval { tmps:=tmps,defers:=ds } (Operand.tmp t))=tmps.getD t undef:=rfl;rw[hv];generalize tmps.getD t undef=v at h2;cases h2 with
    |own _ _ _ hv =>
     obtain⟨g1,g2,a,len,cap,rfl,g4⟩:=hv;refine⟨rfl,λj c u hc hu=>?_⟩;cases j with
     |zero=>simp at hc;subst hc;simp[Value.cells] at hu;subst hu;exact .own _ _ _ ⟨g1,g2,a,len,cap,rfl,g4⟩
     |succ j=>simp at hc
   ·intro kk i BD;exact gI _ _ _ (λhh=>BD t rfl hh)
   ·intro u cs hu
    have:u≠t:=λhe=>by subst he;rw[hop'] at hu;cases hu
    rw[show sl an tm (rs.put t (.val (.slice xs)))=upd (sl an tm rs) t (.val (.slice xs)) from eK _ _ _ _ _,bH _ _ this];exact hu
 ·rename_i sz v BK
  simp only[A6,gE] at BK
  split at BK
  ·cases BK
  ·split at BK<;>cases BK
 ·rename_i cs t' BK
  obtain rfl:=ht t' rfl;have hop':sl an tm rs t=.cells cs:=BK
  have hx:VRel Ψ J (.agg (cs.map Cell.get)) (tmps.getD t undef):=by
   have:=h.slots t;rw[hop'] at this
   generalize tmps.getD t undef=u at this;cases this with|cells _ _ hv=>exact hv.agg
  split at e
  ·refine plain (.agg (cs.map Cell.get)) hx ?_
   simpa[AVal.cells,Er] using e
  ·obtain⟨h1,h2⟩:=h.take t (h.lt_of (by rw[hop'];simp)) (.agg (cs.map Cell.get)) hx (by rw[hop'];simp) q
   refine⟨_,_,ren ow false t false q 0,e,?_,?_,Fr.ren _ _ _,rfl,?_,?_⟩
   ·rw[show sl an tm (rs.put t (.val (.agg (cs.map Cell.get))))=upd (sl an tm rs) t (.val (.agg (cs.map Cell.get))) from eK _ _ _ _ _];exact h1
   ·rw[hop'] at h2
    have hv:(Act.eval { tmps:=tmps,defers:=ds } (Operand.tmp t))=tmps.getD t undef:=rfl;rw[hv];generalize tmps.getD t undef=v at h2;cases h2 with|cells _ vs hv=>exact hv
   ·intro kk i BD;exact gI _ _ _ (λhh=>BD t rfl hh)
   ·intro u BT hu
    have:u≠t:=λhe=>by subst he;rw[hop'] at hu;cases hu
    rw[show sl an tm (rs.put t (.val (.agg (cs.map Cell.get))))=upd (sl an tm rs) t (.val (.agg (cs.map Cell.get))) from eK _ _ _ _ _,bH _ _ this];exact hu
 ·obtain⟨y,hk,hy⟩:=lU hs e
  exact plain y hy hk
theorem fc(h:Rel P ans B0 w Ψ J ow an (sl an tm rs) tmps rs.sto.objs){t0:TypeId}{x:Operand}(q:Nat){k:List Cell->RS->Option R}(e:eH P t0 an.keep tm rs x k=some r) :
  ∃cs AX AQ,k cs AX=some r/\Rel P ans B0 w Ψ J AQ an (sl an tm AX) tmps AX.sto.objs/\CsRel w B0 Ψ J AQ false q cs ((⟨tmps,ds⟩:Act).eval x).cells.toList/\Fr w Ψ ow w Ψ AQ/\AX.sto=rs.sto /\
   (∀kk i,(∀t,x=.tmp t->¬(kk=false/\i=t))->Same w Ψ ow w Ψ AQ kk i kk i)/\(∀t cs,sl an tm rs t=.box cs->sl an tm AX t=.box cs):=by
 obtain⟨t,hs,ht⟩:=bG (ds:=ds) h x;unfold eH at e
 split at e
 ·rename_i BK
  obtain⟨el,_,e⟩:=aH e;obtain⟨sz,_,e⟩:=aH e;rw[BK] at hs;generalize(⟨tmps,ds⟩:Act).eval x=v at hs;cases hs with
  |nl =>
   refine⟨_,rs,ow,e,h,⟨rfl,λj c u hc hu=>?_⟩,Fr.refl _ _ _,rfl,λkk i _=>Same.refl _ _ _ _ _,λ_ _ h=>h⟩
   match j with
   |0 =>
    cases hc;cases hu;exact .own _ _ _ (wR _ _)
   |j+1=>cases hc
 ·exact uL h q e
def QT(Ψ:HT)(J:List Nat)(tmps:Array Value)(E:Nat->Slot)(p:Place)(v:Value):Prop :=
 match p with
 |.loc t o=>∃cs b,E t=.box cs/\tmps.getD t undef=.pointer (some ⟨b,0,none⟩)/\v=.pointer (some ⟨b,o,none⟩)
 |.obj i o=>∃b,J[i]?=some b/\v=.pointer (some ⟨b,o,none⟩)
 |.imm x=>VRel Ψ J (.cptr x) v
theorem iP(h:Rel P ans B0 w Ψ J ow an (sl an tm rs) tmps rs.sto.objs){x:Operand}{k:Place->Option R}(e:cZ x (A6 an.keep tm rs x) k=some r) :
  ∃p,k p=some r/\QT Ψ J tmps (sl an tm rs) p ((⟨tmps,ds⟩:Act).eval x):=by
 obtain⟨t,hs,ht⟩:=bG (ds:=ds) h x;unfold cZ at e
 split at e
 ·rename_i cs BK
  split at e
  ·rename_i t'
   obtain rfl:=ht t' rfl;have hop':sl an tm rs t=.box cs:=BK;refine⟨_,e,?_⟩
   have:=h.slots t
   rw[hop'] at this;have hv:(Act.eval { tmps:=tmps,defers:=ds } (Operand.tmp t))=tmps.getD t undef:=rfl;rw[hv];generalize hg:tmps.getD t undef=v at this;cases this with|box _ b hb=>exact⟨cs,b,hop',hg,rfl⟩
  ·cases e
 ·rename_i u o BK
  rw[BK] at hs;obtain⟨cs,hc⟩:=pU h x u o BK;refine⟨_,e,?_⟩;generalize(Act.eval { tmps:=tmps,defers:=ds } x)=v at hs;cases hs with|ref _ _ b hb=>exact⟨cs,b,hc,hb,rfl⟩
 ·rename_i i o BK
  rw[BK] at hs;refine⟨_,e,?_⟩;generalize(Act.eval { tmps:=tmps,defers:=ds } x)=v at hs;cases hs with|val _ _ hv=>cases hv with|loc _ _ b hb=>exact⟨b,hb,rfl⟩
 ·rename_i y BK
  rw[BK] at hs;refine⟨_,e,?_⟩;cases hs with|val _ _ hv=>exact hv
 ·rename_i t f a y z BK
  rw[BK] at hs;refine⟨_,e,?_⟩;generalize(Act.eval { tmps:=tmps,defers:=ds } x)=v at hs;cases hs with|val _ _ hv=>cases hv with|rc _ _ _ _ _ b o h=>exact .cptr _ b o h
 ·cases e
def Reads(w:World)(Ψ:HT)(J:List Nat)(cs:List Cell)(off b o:Nat):Prop :=
 ∀(j:Nat)(c:Cell),cs[off+j]?=some c->∃u,w.cell? ⟨b,o+j,none⟩=some u/\c.get.isCell=true/\VRel Ψ J c.get u
theorem BoxRel.reads{kk:Bool}{i:Nat}{cs:List Cell}{b:Nat}(h:BoxRel w B0 Ψ J ow kk i cs b)(o:Nat):Reads w Ψ J cs o b o:=by
 obtain⟨_,_,_,vs,T,h4,h5⟩:=h;intro j c hc;have hj:o+j<vs.length:=by rw[<-h5.1];exact(Ab.1 hc).1
 refine⟨vs[o+j],by rw[cell_of_heap h4];simp[hj],?_⟩;exact(h5.2 (o+j) c vs[o+j] hc (by simp[hj])).get
theorem BoxRel.reads'{kk:Bool}{i:Nat}{cs:List Cell}{b n:Nat}(h:BoxRel w B0 Ψ (J.take n) ow kk i cs b)(o:Nat):Reads w Ψ J cs o b o:=λj c hc=>by
 obtain⟨u,h1,h2,h3⟩:=h.reads o j c hc;exact⟨u,h1,h2,h3.mono Ψ.le_refl zL⟩
theorem hH(h:Rel P ans B0 w Ψ J ow an (sl an tm rs) tmps rs.sto.objs){p:Place}{v:Value}(hp:QT Ψ J tmps (sl an tm rs) p v){k:List Cell->Nat->Option R}(e:aW an.keep tm rs p k=some r) :
  ∃cs off b o,k cs off=some r/\v=.pointer (some ⟨b,o,none⟩)/\Reads w Ψ J cs off b o /\
   (∀t o',p=.loc t o'->sl an tm rs t=.box cs/\off=o/\BoxRel w B0 Ψ J ow false t cs b/\tmps.getD t undef=.pointer (some ⟨b,0,none⟩)) /\
   (∀i o',p=.obj i o'->rs.sto.objs[i]?=some (.box cs)/\off=o/\J[i]?=some b/\BoxRel w B0 Ψ (J.take (i+1)) ow true i cs b):=by
 cases p with
 |loc t o =>
  obtain⟨cs,b,h1,h2,h3⟩:=hp;have Je:rs.look an.keep tm t=.box cs:=h1;simp only[aW,Je,oY] at e
  have hb:BoxRel w B0 Ψ J ow false t cs b:=by
   have:=h.slots t;rw[h1,h2] at this
   cases this with|box _ _ hb=>exact hb
  exact⟨cs,o,b,o,e,h3,hb.reads o,(λt' o' he=>by cases he;exact⟨h1,rfl,hb,h2⟩),(λ_ _ he=>by cases he)⟩
 |obj i o =>
  obtain⟨b,h1,h2⟩:=hp;simp only[aW,oZ] at e
  split at e
  ·rename_i cs ho
   obtain⟨b',BB,hr⟩:=h.objs.2 i _ ho;obtain rfl:b=b':=by rw[h1] at BB;exact Bp BB
   cases hr with
   |box _ _ hb=>exact⟨cs,o,b,o,e,h2,hb.reads' o,(λ_ _ he=>by cases he),(λi' o' he=>by cases he;exact⟨ho,rfl,h1,hb⟩)⟩
  ·cases e
 |imm x =>
  simp only[aW] at e;simp only[QT] at hp;cases hp with
  |cptr _ b o hb =>
   refine⟨_,0,b,o,e,rfl,?_,(λ_ _ he=>by cases he),(λ_ _ he=>by cases he)⟩;intro j c hc;simp only[Bo,Av,Ap] at hc;obtain⟨c',CW,rfl⟩:=hc;obtain⟨hf,u,hu,hv⟩:=h.wsat.sat _ _ _ (hb j c' CW);exact⟨u,hu,jM hf,hv.mono Ψ.le_refl (pre_nil _)⟩
theorem jg{cs:List Cell}{off b o s:Nat}{t:TypeId}(hr:Reads w Ψ J cs off b o)(h1:aM P t=some true)(h2:aP P t=some s){x:AVal}(hx:partOf true (cs.map Cell.get) off s=some x) :
  ∃v,(loadVar t ⟨b,o,none⟩).run P w=.ok v w/\VRel Ψ J x v:=by
 simp only[partOf,Ds,Ay] at hx;cases hle:Nat.ble (off+s) cs.length with
 |false=>simp[hle] at hx
 |true =>
  have EK:off+s<=cs.length:=Ad hle;simp[hle] at hx;subst hx
  have hex:∀j,j<s->∃u,w.cell? ⟨b,o+j,none⟩=some u:=λj hj=>by
   obtain⟨u,hu,_⟩:=hr j (cs[off+j]'(by omega)) (by simp[show off+j<cs.length by omega]);exact⟨u,hu⟩
  refine⟨.agg ⟨(List.range s).map λj=>(w.cell? ⟨b,o+j,none⟩).getD undef⟩,?_,?_⟩
  ·refine run_loadVar_agg h1 (by simpa using h2) λj v hj=>?_
   have MU:j<s:=by have:=(Ab.1 hj).1;simpa using this
   rw[Av,Ce MU] at hj;obtain⟨u,hu⟩:=hex j MU;simp[hu] at hj ⊢;exact hj
  ·refine .agg _ _ (by simp;omega) ?_ ?_
   ·intro j c hc
    rw[Bh] at hc
    split at hc
    ·rw[Eb,Av,Ap] at hc
     obtain⟨c',CW,rfl⟩:=hc;exact(hr j c' CW).choose_spec.2.1
    ·cases hc
   ·intro j c v hc hv
    rw[Bh] at hc
    split at hc
    ·rename_i MU
     rw[Eb,Av,Ap] at hc;obtain⟨c',CW,rfl⟩:=hc;obtain⟨u,hu,_,GZ⟩:=hr j c' CW;rw[Av,Ce MU] at hv;simp[hu] at hv;subst hv;exact GZ
    ·cases hc
theorem jh{cs:List Cell}{off b o:Nat}{t:TypeId}(hr:Reads w Ψ J cs off b o)(h1:aM P t=some false){c:Cell}(hc:cs[off]?=some c) :
  ∃v,(loadVar t ⟨b,o,none⟩).run P w=.ok v w/\VRel Ψ J c.get v:=by
 obtain⟨u,hu,_,hv⟩:=hr 0 c (by simpa using hc);exact⟨u,run_loadVar_one h1 (by simpa using hu),hv⟩
theorem WSat.lt(h:WSat Ψ w){b o:Nat}{c:AVal}(e:Ψ b o c):b<w.heap.size:=by
 obtain⟨_,v,hv,_⟩:=h.sat b o c e;exact World.block_lt_of_cell? _ _ hv
theorem WSat.none_of_ge(h:WSat Ψ w){b:Nat}(hb:w.heap.size<=b)(o:Nat):Ψ b o=F7:=by
 funext c;refine propext ⟨λe=>?_,λe=>e.elim⟩
 have:=h.lt e;omega
theorem cell_congr{w w':World}{b:Nat}(h:w'.heap[b]?=w.heap[b]?)(o:Nat):w'.cell? ⟨b,o,none⟩=w.cell? ⟨b,o,none⟩:=by
 simp[World.cell?,h]
theorem WSat.put(h:WSat Ψ w){b:Nat}{ob:Obj}(hf:∀o,Ψ b o=F7):WSat Ψ (w.putObj b ob):=⟨by simpa[World.putObj] using h.size8,λb' o c e=>by
 obtain⟨h1,v,h2,h3⟩:=h.sat b' o c e;have BD:b'≠b:=λhe=>by subst he;rw[hf] at e;exact e
 exact⟨h1,v,(cell_congr (World.putObj_heap_other BD) o).trans h2,h3⟩⟩
theorem aX{α:Type}(l new:List α)(off j:Nat)(h:off+new.length<=l.length) :
  (overwrite l off new)[j]?=if j<off then l[j]? else if j<off+new.length then new[j-off]? else l[j]?:=by
 unfold overwrite;by_cases h1:j<off
 ·rw[Bu h1,Aj,Az (by simp;omega),Bh,Bu h1]
 ·rw[Bc h1]
  by_cases h2:j<off+new.length
  ·rw[Bu h2,Az (by simp;omega),Bi (by simp;omega)]
   simp[show min off l.length=off by omega]
  ·rw[Bc h2,Bi (by simp;omega),Eb]
   congr 1;simp;omega
theorem aR{α:Type}(l new:List α)(off:Nat)(h:off+new.length<=l.length):(overwrite l off new).length=l.length:=by
 unfold overwrite;simp;omega
theorem mP(cs new:List Cell)(off:Nat):setCells cs off new=overwrite cs off new:=rfl
theorem CsRel.one{kk:Bool}{i:Nat}{cs:List Cell}{vs:List Value}(h:CsRel w B0 Ψ J ow kk i cs vs):∀u∈vs,oneC u=true:=by
 intro u hu;obtain⟨j,hj⟩:=Dg hu;have hl:j<cs.length:=by rw[h.1];exact(Ab.1 hj).1
 have:=(h.2 j cs[j] u (by simp[hl]) hj).get
 exact this.2.one this.1
theorem CsRel.overwrite{kk:Bool}{i q off:Nat}{cs new:List Cell}{vs nv:List Value}{b:Nat}{ob:Obj}{J1:List Nat}(h:CsRel w B0 Ψ J1 ow kk i cs vs)(hn:CsRel w B0 Ψ J1 ow false q new nv)(EI:off+new.length<=cs.length)
  (C0:ow b=some (kk,i,0)) (hq:¬(kk=false/\i=q)) :
  CsRel (w.putObj b ob) B0 Ψ J1 (ren ow false q kk i off) kk i (setCells cs off new) (AM.overwrite vs off nv):=by
 have hv:off+nv.length<=vs.length:=by rw[<-h.1,<-hn.1];exact EI
 refine⟨by rw[mP,aR _ _ _ EI,aR _ _ _ hv];exact h.1,λj c v hc I2=>?_⟩;rw[mP,aX _ _ _ _ EI] at hc;rw[aX _ _ _ _ hv,<-hn.1] at I2
 have old:∀c v,cs[j]?=some c->vs[j]?=some v->CRel (w.putObj b ob) B0 Ψ J1 (ren ow false q kk i off) (kk,i,j+1) c v:=λc v h1 h2 =>
  (h.2 j c v h1 h2).mono Ψ.le_refl (aG _) λb' BB=>by
   refine⟨?_,World.putObj_heap_other ?_,λ_ h=>h⟩
   ·have:¬(kk=false/\i=q):=hq
    simp[ren,BB,this]
   ·intro he;subst he;rw[C0] at BB;simp at BB
 by_cases h1:j<off
 ·rw[Bu h1] at hc I2;exact old c v hc I2
 ·rw[Bc h1] at hc I2
  by_cases h2:j<off+new.length
  ·rw[Bu h2] at hc I2
   refine(hn.2 (j-off) c v hc I2).mono Ψ.le_refl (aG _) λb' BB=>⟨?_,World.putObj_heap_other ?_,λ_ h=>h⟩
   ·simp[ren,BB];omega
   ·intro he;subst he;rw[C0] at BB
    simp only[Al,Bz] at BB;exact hq ⟨BB.1,BB.2.1⟩
  ·rw[Bc h2] at hc I2;exact old c v hc I2
theorem Fr.put{b:Nat}{ob:Obj}{B5:Own}(hb:ow b≠none)(h2:∀x,B5 x≠none->ow x≠none):Fr w Ψ ow (w.putObj b ob) Ψ B5 :=
 ⟨Ψ.le_refl,by simp,λx _ hx=>⟨World.putObj_heap_other (λhe=>by subst he;exact hb hx),λ_=>rfl⟩,λx hx=>.inl (h2 x hx),rfl,rfl,rfl⟩
theorem aAT{E:Nat->Slot}{objs:List AObj}(h:Rel P ans B0 w Ψ J ow an E tmps objs){t off:Nat}{cs new:List Cell}{b:Nat}{vs nv:List Value}{T:TypeId}(he:E t=.box cs)(hp:tmps.getD t undef=.pointer (some ⟨b,0,none⟩))
  (hb:BoxRel w B0 Ψ J ow false t cs b) (hh:w.heap[b]?=some (.cells ⟨vs⟩ T (0,0))) (CK:CsRel w B0 Ψ J ow false t cs vs) (hn:CsRel w B0 Ψ J ow false an.nt new nv) (EI:off+new.length<=cs.length) :
  Rel P ans B0 (w.putObj b (.cells ⟨overwrite vs off nv⟩ T (0,0))) Ψ J (ren ow false an.nt false t off) an (upd E t (.box (setCells cs off new))) tmps objs:=by
 have ht:t<an.nt:=h.lt_of (by rw[he];simp);have AL:b<w.heap.size:=(Ai.1 hh).1
 have other:∀kk i,¬(kk=false/\i=t)->¬(kk=false/\i=an.nt)->Same w Ψ ow (w.putObj b (.cells ⟨overwrite vs off nv⟩ T (0,0))) Ψ (ren ow false an.nt false t off) kk i kk i:=λkk i h1 h2 b' s BB =>
  ⟨by simp[ren,BB,h2],World.putObj_heap_other (λe=>by subst e;rw[hb.own] at BB;simp only[Al,Bz] at BB;exact h1 ⟨BB.1.symm,BB.2.1.symm⟩),λ_ h=>h⟩
 have DN:ren ow false an.nt false t off b=some (false,t,0):=by simp[ren,hb.own];omega
 refine⟨h.size,h.wsat.put hb.free,λu=>?_,λd u o e=>?_,λu BT e=>?_,h.objs.mono Ψ.le_refl (λi _=>other true i (by simp) (by simp)),λx hx=>?_,?_,λu hu=>?_⟩
 ·by_cases hu:u=t
  ·subst hu;rw[eL,hp]
   exact .box _ _ ⟨DN,hb.base,hb.free,_,T,World.putObj_heap_same AL,CK.overwrite hn EI hb.own (by simp;omega)⟩
  ·rw[bH _ _ hu]
   rcases Dh u an.nt with MP|J8
   ·exact(h.slots u).mono Ψ.le_refl (aG _) (other false u (by simp[hu]) (by simp;omega)) (λ_ _ _=>rfl)
   ·rw[h.hi u J8];exact .dead _
 ·by_cases hd:d=t
  ·subst hd;simp at e
  ·rw[bH _ _ hd] at e
   obtain⟨BT,hc⟩:=h.refs d u o e;by_cases hu:u=t
   ·subst hu;exact⟨_,eL _ _ _⟩
   ·exact⟨BT,by rw[bH _ _ hu];exact hc⟩
 ·by_cases hu:u=t
  ·subst hu;exact h.boxes u cs he
  ·rw[bH _ _ hu] at e;exact h.boxes u BT e
 ·rw[World.putObj_size];exact h.lt x (mM _ hx)
 ·rw[World.putObj_size];exact h.base
 ·rw[bH _ _ (by omega)];exact h.hi u hu
theorem CRel.lok{id:Hm}{c:Cell}{v:Value}{n:Nat}(h:CRel w B0 Ψ J ow id c v)(hl:c.lok n=true):CRel w B0 Ψ (J.take n) ow id c v:=by
 cases h with
 |val c v hc h=>exact .val c v hc (h.lok hl)
 |own sz xs v h=>exact .own sz xs v h
theorem OsRel.set{objs:List AObj}{w':World}{AQ:Own}(h:OsRel w B0 Ψ J ow ans objs){i b:Nat}{ob:AObj}(hi:i<objs.length)(hb:J[i]?=some b)(hn:ORel w' B0 Ψ J AQ ans i ob b)(hs:∀j,j≠i->Same w Ψ ow w' Ψ AQ true j true j) :
  OsRel w' B0 Ψ J AQ ans (objs.set i ob):=by
 refine⟨by simpa using h.1,λj o ho=>?_⟩;rw[Cb] at ho
 split at ho
 ·rename_i Gw;subst Gw
  simp only[hi,Ds,Al] at ho;subst ho;exact⟨b,hb,hn⟩
 ·rename_i Gw
  obtain⟨b',h1,h2⟩:=h.2 j o ho;exact⟨b',h1,h2.mono Ψ.le_refl (aG _) (hs j (λe=>Gw e.symm))⟩
theorem aAU{E:Nat->Slot}{objs:List AObj}(h:Rel P ans B0 w Ψ J ow an E tmps objs){i off:Nat}{cs new:List Cell}{b:Nat}{vs nv:List Value}{T:TypeId}(ho:objs[i]?=some (.box cs))(hρ:J[i]?=some b)
  (hb:BoxRel w B0 Ψ (J.take (i+1)) ow true i cs b) (hh:w.heap[b]?=some (.cells ⟨vs⟩ T (0,0))) (CK:CsRel w B0 Ψ (J.take (i+1)) ow true i cs vs) (hn:CsRel w B0 Ψ J ow false an.nt new nv) (EI:off+new.length<=cs.length)
  (hl:(setCells cs off new).all (Cell.lok (i+1))=true) :
  Rel P ans B0 (w.putObj b (.cells ⟨overwrite vs off nv⟩ T (0,0))) Ψ J (ren ow false an.nt true i off) an E tmps (objs.set i (.box (setCells cs off new))):=by
 have AL:b<w.heap.size:=(Ai.1 hh).1
 have other:∀kk j,¬(kk=true/\j=i)->¬(kk=false/\j=an.nt)->Same w Ψ ow (w.putObj b (.cells ⟨overwrite vs off nv⟩ T (0,0))) Ψ (ren ow false an.nt true i off) kk j kk j:=λkk j h1 h2 b' s BB =>
  ⟨by simp[ren,BB,h2],World.putObj_heap_other (λe=>by subst e;rw[hb.own] at BB;simp only[Al,Bz] at BB;exact h1 ⟨BB.1.symm,BB.2.1.symm⟩),λ_ h=>h⟩
 have DN:ren ow false an.nt true i off b=some (true,i,0):=by simp[ren,hb.own]
 have IA:CsRel w B0 Ψ (J.take (i+1)) ow false an.nt new nv:=⟨hn.1,λj c v hc hv=>(hn.2 j c v hc hv).lok (As.1 hl c (by
  rw[mP];unfold AM.overwrite;exact List.mem_append_left _ (List.mem_append_right _ (Ba hc))))⟩
 refine⟨h.size,h.wsat.put hb.free,λu=>?_,h.refs,h.boxes,?_,λx hx=>?_,?_,h.hi⟩
 ·rcases Dh u an.nt with MP|J8
  ·exact(h.slots u).mono Ψ.le_refl (aG _) (other false u (by simp) (by simp;omega)) (λ_ _ _=>rfl)
  ·rw[h.hi u J8];exact .dead _
 ·refine h.objs.set (Ab.1 ho).1 hρ (.box _ _ ⟨DN,hb.base,hb.free,_,T,World.putObj_heap_same AL,CK.overwrite IA EI hb.own (by simp)⟩) λj hj=>other true j (by simp[hj]) (by simp)
 ·rw[World.putObj_size];exact h.lt x (mM _ hx)
 ·rw[World.putObj_size];exact h.base
def eW(ow:Own)(id C6:Hm):Own:=λb=>if ow b=some id then some C6 else ow b
theorem nK{id C6:Hm}{b:Nat}(h:eW ow id C6 b≠none):ow b≠none:=by
 intro e;simp[eW,e] at h
theorem CsRel.takeOne{kk:Bool}{i j q:Nat}{cs:List Cell}{vs:List Value}{sz:Nat}{xs:List AVal}{v:Value}{J1:List Nat}(h:CsRel w B0 Ψ J1 ow kk i cs vs)(hj:cs[j]?=some (.own sz xs))(hv:vs[j]?=some v) :
  CsRel w B0 Ψ J1 (eW ow (kk,i,j+1) (false,q,1)) kk i (cs.set j (.val (.slice xs))) vs/\OwnRel w B0 Ψ (eW ow (kk,i,j+1) (false,q,1)) (false,q,1) sz xs v:=by
 have ho:OwnRel w B0 Ψ ow (kk,i,j+1) sz xs v:=by have:=h.2 j _ v hj hv;cases this with|own _ _ _ h=>exact h
 refine⟨⟨by simpa using h.1,λj' c u hc hu=>?_⟩,ho.mono Ψ.le_refl λb hb=>⟨by simp[eW,hb],rfl,λ_ h=>h⟩⟩;rw[Cb] at hc
 split at hc
 ·rename_i TS;subst TS
  split at hc
  ·simp only[Al] at hc;subst hc
   obtain rfl:v=u:=by rw[hv] at hu;exact Bp hu
   exact .val _ _ rfl ho.val
  ·cases hc
 ·rename_i TS
  refine(h.2 j' c u hc hu).mono Ψ.le_refl (aG _) λb hb=>⟨?_,rfl,λ_ h=>h⟩
  have:¬j'=j:=λe=>TS e.symm
  simp[eW,hb,this]
theorem aEc{E:Nat->Slot}{objs:List AObj}(h:Rel P ans B0 w Ψ J ow an E tmps objs){t j:Nat}{cs:List Cell}{b:Nat}{sz:Nat}{xs:List AVal}{v:Value}(he:E t=.box cs)(hp:tmps.getD t undef=.pointer (some ⟨b,0,none⟩))
  (hb:BoxRel w B0 Ψ J ow false t cs b) (hj:cs[j]?=some (.own sz xs)) (hv:w.cell? ⟨b,j,none⟩=some v) :
  Rel P ans B0 w Ψ J (eW ow (false,t,j+1) (false,an.nt,1)) an (upd E t (.box (cs.set j (.val (.slice xs))))) tmps objs/\OwnRel w B0 Ψ (eW ow (false,t,j+1) (false,an.nt,1)) (false,an.nt,1) sz xs v:=by
 obtain⟨b1,b2,b3,vs,T,b4,b5⟩:=hb;rw[cell_of_heap b4] at hv;obtain⟨c1,c2⟩:=b5.takeOne (q:=an.nt) hj hv;have ht:t<an.nt:=h.lt_of (by rw[he];simp)
 have other:∀kk i,¬(kk=false/\i=t)->Same w Ψ ow w Ψ (eW ow (false,t,j+1) (false,an.nt,1)) kk i kk i:=λkk i h1 b' s BB =>
  ⟨by have:¬(kk=false/\i=t/\s=j+1):=λe=>h1 ⟨e.1,e.2.1⟩
      simp[eW,BB,this],rfl,λ_ h=>h⟩
 refine⟨⟨h.size,h.wsat,λu=>?_,λd u o e=>?_,λu BT e=>?_,h.objs.mono Ψ.le_refl (λi _=>other true i (by simp)),λx hx=>h.lt x (nK hx),h.base,λu hu=>?_⟩,c2⟩
 ·by_cases hu:u=t
  ·subst hu;rw[eL,hp]
   exact .box _ _ ⟨by simp[eW,b1],b2,b3,vs,T,b4,c1⟩
  ·rw[bH _ _ hu];exact(h.slots u).mono Ψ.le_refl (aG _) (other false u (by simp[hu])) (λ_ _ _=>rfl)
 ·by_cases hd:d=t
  ·subst hd;simp at e
  ·rw[bH _ _ hd] at e
   obtain⟨BT,hc⟩:=h.refs d u o e;by_cases hu:u=t
   ·subst hu;exact⟨_,eL _ _ _⟩
   ·exact⟨BT,by rw[bH _ _ hu];exact hc⟩
 ·by_cases hu:u=t
  ·subst hu;exact h.boxes u cs he
  ·rw[bH _ _ hu] at e;exact h.boxes u BT e
 ·rw[bH _ _ (by omega)];exact h.hi u hu
theorem aEd{E:Nat->Slot}{objs:List AObj}(h:Rel P ans B0 w Ψ J ow an E tmps objs){i j:Nat}{cs:List Cell}{b:Nat}{sz:Nat}{xs:List AVal}{v:Value}(ho:objs[i]?=some (.box cs))(hρ:J[i]?=some b)
  (hb:BoxRel w B0 Ψ (J.take (i+1)) ow true i cs b) (hj:cs[j]?=some (.own sz xs)) (hv:w.cell? ⟨b,j,none⟩=some v) :
  Rel P ans B0 w Ψ J (eW ow (true,i,j+1) (false,an.nt,1)) an E tmps (objs.set i (.box (cs.set j (.val (.slice xs)))))/\OwnRel w B0 Ψ (eW ow (true,i,j+1) (false,an.nt,1)) (false,an.nt,1) sz xs v:=by
 obtain⟨b1,b2,b3,vs,T,b4,b5⟩:=hb;rw[cell_of_heap b4] at hv;obtain⟨c1,c2⟩:=b5.takeOne (q:=an.nt) hj hv
 have other:∀kk i',¬(kk=true/\i'=i)->Same w Ψ ow w Ψ (eW ow (true,i,j+1) (false,an.nt,1)) kk i' kk i':=λkk i' h1 b' s BB =>
  ⟨by have:¬(kk=true/\i'=i/\s=j+1):=λe=>h1 ⟨e.1,e.2.1⟩
      simp[eW,BB,this],rfl,λ_ h=>h⟩
 refine⟨⟨h.size,h.wsat,λu=>(h.slots u).mono Ψ.le_refl (aG _) (other false u (by simp)) (λ_ _ _=>rfl),h.refs,h.boxes,
  h.objs.set (Ab.1 ho).1 hρ (.box _ _ ⟨by simp[eW,b1],b2,b3,vs,T,b4,c1⟩) (λj' hj'=>other true j' (by simp[hj'])),λx hx=>h.lt x (nK hx),h.base,h.hi⟩,c2⟩
end
end Go.AM
