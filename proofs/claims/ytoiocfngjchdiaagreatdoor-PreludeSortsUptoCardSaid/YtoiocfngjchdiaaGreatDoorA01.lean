import Derived.Test.YtoiocfngjchdiaaGreatDoorA00
import Derived.Laws.Cells
set_option linter.all false
namespace Go.AM
section
variable {w w':World}{B0:Nat}{Ψ Z':HT}{J J':List Nat}{ow AO:Own}
theorem kw.mono{id DC:IM}{sz:Nat}{xs:List ae}{v:Value}(h:kw w B0 Ψ ow id sz xs v)(hΨ:Ψ.le Z')
  (hs:∀b,ow b=some id->AO b=some DC/\w'.heap[b]?=w.heap[b]?/\∀o,Ψ b o=FZ->Z' b o=FZ):kw w' B0 Z' AO DC sz xs v:=by
 obtain⟨h1,h2,a,len,cap,h3,h4⟩:=h;refine⟨h1.mono hΨ (aG _),h2,a,len,cap,h3,?_⟩;rcases h4 with h4|⟨b,o,cs,E,e1,e2,e3,e4,e5,e6⟩
 ·exact .inl h4
 ·obtain⟨k1,k2,k3⟩:=hs b e2
  exact .inr ⟨b,o,cs,E,e1,k1,k2.trans e3,e4,e5,λo' ho=>k3 o' (e6 o' ho)⟩
theorem kw.tR{id:IM}{sz:Nat}{xs:List ae}{v:Value}(h:kw w B0 Ψ ow id sz xs v):am Ψ [] (.slice xs) v/\(∀x∈xs,x.cells.length=sz)/\∃a len cap,v=.slice a len cap/\(len=cap\/∃b o cs E,a=some ⟨b,o,none⟩/\ow b=some id/\w.heap[b]?=some (.cells cs E (0,0))/\B0<=b/\o+cap*sz<=cs.size/\∀o',o+len*sz<=o'->Ψ b o'=FZ):=by
 obtain⟨h1,h2,a,len,cap,h3,h4⟩:=h;exact⟨h1,h2,a,len,cap,h3,h4.imp And.right λk=>k⟩
theorem mL.mono{id DC:IM}{c:Cell}{v:Value}(h:mL w B0 Ψ J ow id c v)(hΨ:Ψ.le Z')(hp:pre J J')
  (hs:∀b,ow b=some id->AO b=some DC/\w'.heap[b]?=w.heap[b]?/\∀o,Ψ b o=FZ->Z' b o=FZ):mL w' B0 Z' J' AO DC c v:=by
 cases h with
 |val c v hc h=>exact .val c v hc (h.mono hΨ hp)
 |own sz xs v h=>exact .own sz xs v (h.mono hΨ hs)
def e_(w:World)(Ψ:HT)(ow:Own)(w':World)(Z':HT)(AO:Own)(k:Bool)(i:Nat)(k':Bool)(i':Nat):Prop :=
 ∀b s,ow b=some (k,i,s)->AO b=some (k',i',s)/\w'.heap[b]?=w.heap[b]?/\∀o,Ψ b o=FZ->Z' b o=FZ
theorem e_.refl(w:World)(Ψ:HT)(ow:Own)(k:Bool)(i:Nat):e_ w Ψ ow w Ψ ow k i k i:=λ_ _ h=>⟨h,rfl,λ_ h=>h⟩
theorem ie.mono{k k':Bool}{i i':Nat}{cs:List Cell}{vs:List Value}(h:ie w B0 Ψ J ow k i cs vs)(hΨ:Ψ.le Z')(hp:pre J J')(hs:e_ w Ψ ow w' Z' AO k i k' i') :
  ie w' B0 Z' J' AO k' i' cs vs :=
 ⟨h.1,λj c v hc hv=>(h.2 j c v hc hv).mono hΨ hp λb hb=>hs b _ hb⟩
theorem lf.mono{k k':Bool}{i i':Nat}{cs:List Cell}{b:Nat}(h:lf w B0 Ψ J ow k i cs b)(hΨ:Ψ.le Z')(hp:pre J J')(hs:e_ w Ψ ow w' Z' AO k i k' i') :
  lf w' B0 Z' J' AO k' i' cs b:=by
 obtain⟨h1,h2,h3,vs,T,h4,h5⟩:=h;obtain⟨k1,k2,k3⟩:=hs b 0 h1;exact⟨k1,h2,λo=>k3 o (h3 o),vs,T,k2.trans h4,h5.mono hΨ hp hs⟩
theorem bX.mono{tmps tmps':Array Value}{t t':Nat}{s:Slot}{v:Value}(h:bX w B0 Ψ J ow tmps t s v)(hΨ:Ψ.le Z')(hp:pre J J')(hs:e_ w Ψ ow w' Z' AO false t false t')
  (hr:∀u o,s=.ref u o->tmps'.getD u undef=tmps.getD u undef):bX w' B0 Z' J' AO tmps' t' s v:=by
 cases h with
 |dead=>exact .dead _
 |val x v h=>exact .val x v (h.mono hΨ hp)
 |aj xs vs hl h=>exact .aj xs vs hl λi x v h1 h2=>(h i x v h1 h2).mono hΨ hp
 |own sz xs v h=>exact .own sz xs v (h.mono hΨ λb hb=>hs b _ hb)
 |full xs a n h=>exact .full xs a n (h.mono hΨ (aG _))
 |nl=>exact .nl
 |nn xs a n c h=>exact .nn xs a n c (h.mono hΨ (aG _))
 |cells cs vs h=>exact .cells cs vs (h.mono hΨ hp hs)
 |box cs b h=>exact .box cs b (h.mono hΨ hp hs)
 |ref u o b h=>exact .ref u o b ((hr u o rfl).trans h)
theorem m6.mono{ans:FuncId->AF}{i:Nat}{o:ai}{b:Nat}(h:m6 w B0 Ψ J ow ans i o b)(hΨ:Ψ.le Z')(hp:pre (J.take (i+1)) (J'.take (i+1)))(hs:e_ w Ψ ow w' Z' AO true i true i) :
  m6 w' B0 Z' J' AO ans i o b:=by
 cases h with
 |box cs b h=>exact .box cs b (h.mono hΨ hp hs)
 |map es b AJ clock hb ho h0 hf h =>
  obtain⟨k1,k2,k3⟩:=hs b 0 ho;exact .map es b AJ clock (k2.trans hb) k1 h0 (λo=>k3 o (hf o)) ⟨h.1,λi p e h1 h2=>⟨(h.2 i p e h1 h2).1,(h.2 i p e h1 h2).2.1.mono hΨ (aG _),(h.2 i p e h1 h2).2.2.mono hΨ (aG _)⟩⟩
 |loop l b r hb ho h0 hf h =>
  obtain⟨k1,k2,k3⟩:=hs b 0 ho;refine .loop l b r (k2.trans hb) k1 h0 (λo=>k3 o (hf o)) ?_;exact⟨h.state,h.pend,h.fn,h.params,h.assign,h.body,h.size,λt=>(h.dr t).mono hΨ hp (λb s hb=>by cases hb) (λ_ _ _=>rfl),h.snap,h.hi⟩
 |fw v b h=>exact .fw v b (h.mono hΨ (aG _))
theorem i_.mono{ans:FuncId->AF}{objs:List ai}(h:i_ w B0 Ψ J ow ans objs)(hΨ:Ψ.le Z')(hs:∀i,i<objs.length->e_ w Ψ ow w' Z' AO true i true i):i_ w' B0 Z' J AO ans objs :=
 ⟨h.1,λi o ho=>by
  obtain⟨b,hb,hr⟩:=h.2 i o ho;exact⟨b,hb,hr.mono hΨ (aG _) (hs i (Ab.1 ho).1)⟩⟩
structure Rel (P:Program) (ans:FuncId->AF) (B0:Nat) (w:World) (Ψ:HT) (J:List Nat) (ow:Own) (an:AF) (E:Nat->Slot) (tmps:Array Value) (objs:List ai):Prop where
 size:tmps.size=an.nt
 b_:c_ Ψ w
 dr:∀t,bX w B0 Ψ J ow tmps t (E t) (tmps.getD t undef)
 refs:∀d u o,E d=.ref u o->∃cs,E u=.box cs
 boxes:∀t cs,E t=.box cs->an.loc.contains t=true
 objs:i_ w B0 Ψ J ow ans objs
 lt:∀b,ow b≠none->b<w.heap.size
 base:B0<=w.heap.size
 hi:∀t,an.nt<=t->E t=.dead
def jl(E:Nat->Slot)(d:Nat)(s:Slot):Nat->Slot:=λt=>if t=d then s else E t
@[simp] theorem eB(E:Nat->Slot)(d:Nat)(s:Slot):jl E d s d=s:=by simp[jl]
theorem bD(E:Nat->Slot){d t:Nat}(s:Slot)(h:t≠d):jl E d s t=E t:=by simp[jl,h]
theorem eF(tmps:Array Value)(d t:Nat)(v:Value)(hd:d<tmps.size):(tmps.setIfInBounds d v).getD t undef=if t=d then v else tmps.getD t undef:=by
 by_cases h:t=d
 ·subst h;simp[Af,hd]
 ·simp[Af,h,Dc h,Bn (Dc h)]
theorem Rel.write{P:Program}{ans:FuncId->AF}{an:AF}{E:Nat->Slot}{tmps:Array Value}{objs EW:List ai}(h:Rel P ans B0 w Ψ J ow an E tmps objs)
  (d:Nat) (s:Slot) (v:Value) (hd:d<an.nt) (HP:∀t o,E t=.ref d o->t=d\/∃cs,E d=.box cs/\∃BX,s=.box BX/\v=tmps.getD d undef)
  (Rf:∀u o,s=.ref u o->u≠d/\∃cs,E u=.box cs) (hsb:∀cs,s=.box cs->an.loc.contains d=true)
  (hΨ:Ψ.le Z') (hp:pre J J') (hw:c_ Z' w')
  (a4o:∀t,t≠d->t<an.nt->e_ w Ψ ow w' Z' AO false t false t)
  (hv:bX w' B0 Z' J' AO (tmps.setIfInBounds d v) d s v)
  (a4z:i_ w' B0 Z' J' AO ans EW) (AL:∀b,AO b≠none->b<w'.heap.size) (BD:w.heap.size<=w'.heap.size) :
  Rel P ans B0 w' Z' J' AO an (jl E d s) (tmps.setIfInBounds d v) EW where
 size:=by simpa using h.size
 b_:=hw
 dr:=λt=>by
  rw[eF _ _ _ _ (by rw[h.size];exact hd)];by_cases ht:t=d
  ·subst ht;simpa using hv
  ·rw[bD _ _ ht,Bf ht]
   rcases Dl t an.nt with Mk|Iu
   case inr=>rw[h.hi t Iu];exact .dead _
   refine(h.dr t).mono hΨ hp (a4o t ht Mk) λu o e=>?_
   rw[eF _ _ _ _ (by rw[h.size];exact hd)];by_cases hu:u=d
   ·subst hu
    rcases HP t o e with h1|⟨cs,h1,BX,h2,h3⟩
    ·exact absurd h1 ht
    ·simp[h3]
   ·simp[hu]
 refs:=λx u o e=>by
  by_cases hx:x=d
  ·subst hx
   rw[eB] at e;obtain⟨h1,cs,h2⟩:=Rf u o e;exact⟨cs,by rw[bD _ _ h1];exact h2⟩
  ·rw[bD _ _ hx] at e
   by_cases hu:u=d
   ·subst hu
    rcases HP x o e with h1|⟨cs,h1,BX,h2,h3⟩
    ·exact absurd h1 hx
    ·exact⟨BX,by rw[eB];exact h2⟩
   ·rw[bD _ _ hu];exact h.refs x u o e
 boxes:=λt cs e=>by
  by_cases ht:t=d
  ·subst ht;rw[eB] at e;exact hsb cs e
  ·rw[bD _ _ ht] at e;exact h.boxes t cs e
 objs:=a4z
 lt:=AL
 base:=Bi h.base BD
 hi:=λt ht=>by rw[bD _ _ (by omega)];exact h.hi t ht
end
section
variable {P:Program}{w:World}
section steps
variable {b:Frame}{a:Act}{k:List Item}{cs:List Frame}{ops:Array Oper}{i:Nat}{rest:List Nat}{o:Oper}{w':World}
theorem c9{v:Value}(ho:ops[i]?=some o)(hw:Region.wanted o (yielded ops a.tmps)=true)(hd:∀c,o.op≠.defer c)(hr:(execOp a.eval o).run P w=.ok (.value v) w') :
  step P (lone (b.atR a (.inRegion ops (i::rest)::k)) cs w)=.next (lone (b.atR (a.put o.dst v) (.inRegion ops rest::k)) cs w'):=by
 refine step_lone_go ?_;have h:=Frame.finish_atR b a ops i rest k v;rw[ho] at h;rw[stepGR_op ho hw,Oper.semAt_eq _ _ _ hd];simp[stepG.apply,hr,h]
theorem eY(ho:ops[i]?=some o)(hw:Region.wanted o (yielded ops a.tmps)=true)(hd:∀c,o.op≠.defer c)(hr:(execOp a.eval o).run P w=.ok .skip w') :
  step P (lone (b.atR a (.inRegion ops (i::rest)::k)) cs w)=.next (lone (b.atR (a.put o.dst undef) (.inRegion ops rest::k)) cs w'):=by
 refine step_lone_go ?_;have h:=Frame.finish_atR b a ops i rest k undef;rw[ho] at h;rw[stepGR_op ho hw,Oper.semAt_eq _ _ _ hd];simp[stepG.apply,hr,h]
theorem jW{f:FuncId}{args:Array Value}(ho:ops[i]?=some o)(hw:Region.wanted o (yielded ops a.tmps)=true)(hd:∀c,o.op≠.defer c)(hr:(execOp a.eval o).run P w=.ok (.enter f args) w') :
  step P (lone (b.atR a (.inRegion ops (i::rest)::k)) cs w)=.next (lone (Frame.enter P f args .normal) (b.atR a (.inRegion ops (i::rest)::k)::cs) w'):=by
 refine step_lone_go ?_;rw[stepGR_op ho hw,Oper.semAt_eq _ _ _ hd];simp[stepG.apply,hr,Frame.atR]
theorem lZ{l:Nat}{f:FuncId}{tmps:Array Value}{x y:Code}(ho:ops[i]?=some o)(hw:Region.wanted o (yielded ops a.tmps)=true)(hd:∀c,o.op≠.defer c)(hr:(execOp a.eval o).run P w=.ok (.round l f tmps x y) w') :
  step P (lone (b.atR a (.inRegion ops (i::rest)::k)) cs w)=.next (lone (Frame.round l f tmps x y .normal) (b.atR a (.inRegion ops (i::rest)::k)::cs) w'):=by
 refine step_lone_go ?_;rw[stepGR_op ho hw,Oper.semAt_eq _ _ _ hd];simp[stepG.apply,hr,Frame.atR]
theorem a7D{v:Value}(ho:ops[i]?=some o)(hw:Region.wanted o (yielded ops a.tmps)=true)(hd:∀c,o.op≠.defer c)(hr:(execOp a.eval o).run P w=.halt (.panic v) w') :
  step P (lone (b.atR a (.inRegion ops (i::rest)::k)) cs w)=.next (lone { b.atR a (.inRegion ops (i::rest)::k) with mode:=.panicking [{ v,recovered:=false }] } cs w'):=by
 refine step_lone_go ?_;rw[stepGR_op ho hw,Oper.semAt_eq _ _ _ hd,<-Frame.raise_atR];simp[stepG.apply,hr]
end steps
theorem run_underlying{t:TypeId}{d:TypeDesc}(h:P.underlying t=some d):(underlying t).run P w=.ok d w:=by simp[underlying,h]
theorem run_typeInfo{t:TypeId}{i:TypeInfo}(h:P.info? t=some i):(typeInfo t).run P w=.ok i w:=by simp[typeInfo,h]
theorem run_sizeOf{t:TypeId}{s:Nat}(h:aU P t=some s):(sizeOf t).run P w=.ok s w:=by
 unfold aU at h;cases hi:P.info? t with
 |none=>simp[hi] at h
 |some i=>simp[hi] at h;simp[sizeOf,run_typeInfo hi,h]
theorem dG{t:TypeId}{b:Bool}(h:aW P t=some b):(isAgg t).run P w=.ok b w:=by
 unfold aW at h;cases hu:P.underlying t with
 |none=>simp[hu] at h
 |some d =>
  simp only[isAgg,Sem.run_bind,run_underlying hu,Result.andThen_ok];cases d<;>simp_all
theorem aS{t:TypeId}{v:Value}(h:(P.info? t).bind (·.zero)=some v):(zeroValue t).run P w=.ok v w:=by
 cases hi:P.info? t with
 |none=>simp[hi] at h
 |some i=>simp[hi] at h;simp[zeroValue,run_typeInfo hi,h]
theorem cH(b o j:Nat):(Addr.add ⟨b,o,none⟩ j)=⟨b,o+j,none⟩:=by
 unfold Addr.add;split
 ·subst_vars;rfl
 ·rfl
theorem cell_of_heap{b:Nat}{vs:List Value}{T:TypeId}{fz:Nat×Nat}(h:w.heap[b]?=some (.cells ⟨vs⟩ T fz))(o:Nat):w.cell? ⟨b,o,none⟩=vs[o]?:=by
 simp[World.cell?,h]
theorem v5{t:TypeId}{b o:Nat}{vs:List Value}(h1:aW P t=some true)(h2:aU P t=some vs.length)(h:∀(j:Nat) v,vs[j]?=some v->w.cell? ⟨b,o+j,none⟩=some v) :
  (loadVar t ⟨b,o,none⟩).run P w=.ok (.agg ⟨vs⟩) w:=by
 have:=run_loadCells_list (P:=P) (w:=w) ⟨b,o,none⟩ vs (λj v hj=>by rw[cH];exact h j v hj)
 simp[loadVar,dG h1,run_sizeOf h2,this]
theorem u_{t:TypeId}{a:Addr}{v:Value}(h1:aW P t=some false)(h:w.cell? a=some v):(loadVar t a).run P w=.ok v w:=by
 simp[loadVar,dG h1,h]
theorem a7z{b o:Nat}{vs:List Value}{T:TypeId}{fz:Nat×Nat}(h:w.heap[b]?=some (.cells ⟨vs⟩ T fz))(v:Value) :
  w.setCell ⟨b,o,none⟩ v=w.putObj b (.cells ⟨vs.set o v⟩ T fz):=by
 unfold World.setCell World.putObj;congr 1;apply Fi;intro j;rw[Gu];by_cases hj:b=j
 ·subst hj
  obtain⟨hb,he⟩:=An.1 h;simp[hb,he]
 ·simp[hj,Bn hj]
theorem a7V(b:Nat)(x y:Obj):(w.putObj b x).putObj b y=w.putObj b y:=by
 simp[World.putObj]
def overwrite{α:Type}(l:List α)(o:Nat)(new:List α):List α:=l.take o++new++l.drop (o+new.length)
theorem b9{b:Nat}{T:TypeId}:∀(new:List Value)(o i:Nat)(w:World)(vs:List Value),w.heap[b]?=some (.cells ⟨vs⟩ T (0,0))->(∀v∈new,hV v=true)->o+i+new.length<=vs.length ->
  (storeCells ⟨b,o,none⟩ new i).run P w=.ok () (w.putObj b (.cells ⟨overwrite vs (o+i) new⟩ T (0,0)))
 |[],o,i,w,vs,h,_,_=>by
  have:w.putObj b (.cells ⟨vs⟩ T (0,0))=w:=by
   unfold World.putObj;have hb:=(An.1 h)
   have:w.heap.setIfInBounds b (.cells ⟨vs⟩ T (0,0))=w.heap:=by
    apply Fi;intro j;by_cases hj:b=j
    ·subst hj;obtain⟨GG,MI⟩:=hb;simp[GG,MI]
    ·simp[Bn hj]
   rw[this]
  simp[storeCells,overwrite,this]
 |v::new,o,i,w,vs,h,h1,h2=>by
  have AL:o+i<vs.length:=by simp at h2;omega
  have hc:w.cell? ⟨b,o+i,none⟩=some vs[o+i]:=by rw[cell_of_heap h];simp[AL]
  have hf:w.frozen? ⟨b,o+i,none⟩=false:=by simp[World.frozen?,h]
  have hv:hV v=true:=h1 v (by simp)
  have hs:(store (Addr.add ⟨b,o,none⟩ i) v).run P w=.ok () (w.putObj b (.cells ⟨vs.set (o+i) v⟩ T (0,0))):=by
   rw[cH];unfold store;cases v<;>simp_all [Sem.run,hV,a7z h]
  have hb:=(An.1 h).1;have ih:=b9 new o (i+1) (w.putObj b (.cells ⟨vs.set (o+i) v⟩ T (0,0))) (vs.set (o+i) v) (World.putObj_heap_same hb) (λx hx=>h1 x (by simp[hx])) (by simp at h2 ⊢;omega);unfold storeCells;simp only[Sem.run_bind,hs,Result.andThen_ok,ih,a7V];congr 4;unfold overwrite;rw[show o+(i+1)=o+i+1 from by omega,Fj (by simpa using AL)];simp only[Gt,Ak];rw[List.take_set_of_le (Ae _),List.drop_set_of_lt (by omega)];simp[show o+i+1+new.length=o+i+(new.length+1) from by omega]
theorem eW{t:TypeId}{b o:Nat}{T:TypeId}{vs:List Value}{v:Value}(hs:aU P t=some v.cells.size)(h:w.heap[b]?=some (.cells ⟨vs⟩ T (0,0)))(h1:∀u∈v.cells.toList,hV u=true)(h2:o+v.cells.size<=vs.length) :
  (storeVar t ⟨b,o,none⟩ v).run P w=.ok () (w.putObj b (.cells ⟨overwrite vs o v.cells.toList⟩ T (0,0))):=by
 have:=b9 (P:=P) v.cells.toList o 0 w vs h h1 (by simpa using h2)
 simp[storeVar,run_sizeOf hs,this]
theorem heap_alloc_new(o:Obj):(w.alloc o).heap[w.heap.size]?=some o:=by show(w.heap.push o)[w.heap.size]?=_;simp
theorem heap_alloc_old(o:Obj){b:Nat}(h:b<w.heap.size):(w.alloc o).heap[b]?=w.heap[b]?:=by
 show(w.heap.push o)[b]?=_;rw[Array.getElem?_push,Bf (by omega)]
end
section
variable {P:Program}{ans:FuncId->AF}{an:AF}{w:World}{B0:Nat}{Ψ:HT}{J:List Nat}{ow:Own}{tmps:Array Value}{R:Type}{r:R}
theorem aB{b:Bool}{k:Option R}(h:aJ b k=some r):b=true/\k=some r:=by
 cases b<;>simp_all [aJ]
theorem aH{α:Type}{x:Option α}{f:α->Option R}(h:x.bind f=some r):∃a,x=some a/\f a=some r:=by
 cases x with
 |none=>simp at h
 |some a=>exact⟨a,rfl,by simpa using h⟩
theorem kw.val{id:IM}{sz:Nat}{xs:List ae}{v:Value}(h:kw w B0 Ψ ow id sz xs v):am Ψ J (.slice xs) v:=h.rel.mono Ψ.le_refl (pre_nil _)
theorem mL.get{id:IM}{c:Cell}{v:Value}(h:mL w B0 Ψ J ow id c v):c.get.ci=true/\am Ψ J c.get v:=by
 cases h with
 |val c v hc h=>exact⟨hc,h⟩
 |own sz xs v h=>exact⟨rfl,h.val⟩
theorem ie.agg{k:Bool}{i:Nat}{cs:List Cell}{vs:List Value}(h:ie w B0 Ψ J ow k i cs vs):am Ψ J (.agg (cs.map Cell.get)) (.agg ⟨vs⟩):=by
 refine .agg _ vs (by simpa using h.1) ?_ ?_
 ·intro j c hc
  simp only[Aw,Aq] at hc;obtain⟨c',C6,rfl⟩:=hc;have hj:j<vs.length:=by rw[<-h.1];exact(Ab.1 C6).1
  exact(h.2 j c' vs[j] C6 (by simp[hj])).get.1
 ·intro j c v hc hv
  simp only[Aw,Aq] at hc;obtain⟨c',C6,rfl⟩:=hc;exact(h.2 j c' v C6 hv).get.2
theorem lE{t:Nat}{s:Slot}{v:Value}(h:bX w B0 Ψ J ow tmps t s v){k:ae->Option R}(e:DS s k=some r):∃x,k x=some r/\am Ψ J x v:=by
 cases h with
 |dead=>simp[DS] at e
 |val x v h=>exact⟨x,e,h⟩
 |aj=>simp[DS] at e
 |own sz xs v h=>exact⟨_,e,h.val⟩
 |full xs a n h=>exact⟨_,e,h.mono Ψ.le_refl (pre_nil _)⟩
 |nl=>exact⟨_,e,.slice [] none 0 0 0 rfl (Ae _) (λi x hx=>by simp at hx)⟩
 |nn xs a n c h=>exact⟨_,e,h.mono Ψ.le_refl (pre_nil _)⟩
 |cells cs vs h=>exact⟨_,e,h.agg⟩
 |box=>simp[DS] at e
 |ref=>simp[DS] at e
theorem uO{t:Nat}{s:Slot}{v:Value}(h:bX w B0 Ψ J ow tmps t s v){k:List ae->Option R}(e:lD s k=some r):∃xs,k xs=some r/\am Ψ J (.slice xs) v:=by
 cases h with
 |dead=>simp[lD] at e
 |val x v h=>cases x<;>first|(simp[lD] at e;done)|exact⟨_,e,h⟩
 |aj=>simp[lD] at e
 |own sz xs v h=>exact⟨_,e,h.val⟩
 |full xs a n h=>exact⟨_,e,h.mono Ψ.le_refl (pre_nil _)⟩
 |nl=>exact⟨_,e,.slice [] none 0 0 0 rfl (Ae _) (λi x hx=>by simp at hx)⟩
 |nn xs a n c h=>exact⟨_,e,h.mono Ψ.le_refl (pre_nil _)⟩
 |cells=>simp[lD] at e
 |box=>simp[lD] at e
 |ref=>simp[lD] at e
theorem kN{t:Nat}{s:Slot}{v:Value}(h:bX w B0 Ψ J ow tmps t s v){k:IntKind->Int->Option R}(e:asInt s k=some r):∃kd n,k kd n=some r/\v=.int kd n:=by
 cases h with
 |val x v h=>cases h<;>first|(simp[asInt] at e;done)|exact⟨_,_,e,rfl⟩
 |_=>simp[asInt] at e
theorem a3M{t:Nat}{s:Slot}{v:Value}(h:bX w B0 Ψ J ow tmps t s v){k:Bool->Option R}(e:asBool s k=some r):∃b,k b=some r/\v=.bool b/\s=.val (.bool b):=by
 cases h with
 |val x v h =>
  cases h with
  |bool b=>refine⟨b,?_,rfl,rfl⟩;cases b<;>simpa[asBool] using e
  |_=>simp[asBool] at e
 |_=>simp[asBool] at e
theorem fU{v:Value}{x:ae}(h:jD v=some x):x.ci=true/\am Ψ J x v:=by
 unfold jD at h
 split at h<;>simp at h<;>subst h<;>refine⟨rfl,?_⟩
 ·exact .bool _
 ·exact .int _ _
 ·exact .str _
 ·exact .cW
 ·exact .slice [] none 0 0 0 rfl (Ae _) (λi x hx=>by simp at hx)
 ·exact .ld
 ·exact .kQ
 ·exact .fh
theorem rO:∀{vs:List Value}{xs:List ae},je vs=some xs->xs.length=vs.length/\∀(i:Nat)(x:ae)(v:Value),xs[i]?=some x->vs[i]?=some v->jD v=some x
 |[],xs,h=>by simp[je] at h;subst h;simp
 |v::vs,xs,h=>by
  simp only[je,Da,Aq] at h;obtain⟨a,ha,l,hl,rfl⟩:=h;obtain⟨h1,h2⟩:=rO hl;refine⟨by simp[h1],λi x v' hx hv=>?_⟩;cases i with
  |zero=>simp at hx hv;subst hx;subst hv;exact ha
  |succ i=>simp at hx hv;exact h2 i x v' hx hv
theorem jF{v:Value}{x:ae}(h:jE v=some x):am Ψ J x v:=by
 cases v with
 |agg cs =>
  simp only[jE,Aq] at h;obtain⟨l,hl,rfl⟩:=h;obtain⟨h1,h2⟩:=rO hl;obtain⟨cs⟩:=cs;refine .agg l cs h1 ?_ (λi c v hc hv=>(fU (h2 i c v hc hv)).2);intro i c hc;have hi:i<cs.length:=by rw[<-h1];exact(Ab.1 hc).1
  exact(fU (Ψ:=Ψ) (J:=J) (h2 i c cs[i] hc (by simp[hi]))).1
 |_=>exact(fU (by simpa only[jE] using h)).2
theorem a2J(t:Nat)(v:Value):bX w B0 Ψ J ow tmps t (gM v) v:=by
 unfold gM;split
 ·exact .nl
 ·split
  ·exact .val _ _ (jF ‹_›)
  ·exact .dead _
theorem xX(id:IM)(sz:Nat):kw w B0 Ψ ow id sz [] (.slice none 0 0) :=
 ⟨.slice [] none 0 0 0 rfl (Ae _) (λi x hx=>by simp at hx),λx hx=>by simp at hx,none,0,0,rfl,.inl ⟨rfl,rfl⟩⟩
theorem a7a(t:Nat)(ty:TypeId)(v:Value):bX w B0 Ψ J ow tmps t (mP P ty v) v:=by
 unfold mP;split
 ·split
  ·exact .own _ _ _ (xX _ _)
  ·exact .nl
 ·exact a2J t v
abbrev sl(an:AF)(tm:List Slot)(rs:RS):Nat->Slot:=rs.look an.keep tm
theorem dJ(keep:List Nat)(tm:List Slot)(rs:RS)(d:Nat)(s:Slot):(rs.put d s).look keep tm=jl (rs.look keep tm) d s:=by
 funext t;unfold RS.look RS.put jl;by_cases h:t=d
 ·subst h;simp[bV]
 ·have:Nat.beq d t=false:=by
   cases e:Nat.beq d t with
   |false=>rfl
   |true=>exact absurd (Aa e).symm h
  simp[bV,this,h]
theorem bH{tm:List Slot}{rs:RS}{objs:List ai}{ds:List Deferred}(h:Rel P ans B0 w Ψ J ow an (sl an tm rs) tmps objs)(x:Operand) :
  ∃t,bX w B0 Ψ J ow tmps t (AZ an.keep tm rs x) ((⟨tmps,ds⟩:Act).eval x)/\(∀u,x=.tmp u->t=u):=by
 cases x with
 |tmp t=>exact⟨t,h.dr t,λu e=>by cases e;rfl⟩
 |const v=>exact⟨0,a2J 0 v,λu e=>by cases e⟩
 |global g=>exact⟨0,.dead _,λu e=>by cases e⟩
 |func f=>exact⟨0,.val _ _ (.func f [] [] rfl (λi c v hc=>by simp at hc)),λu e=>by cases e⟩
def fE(ow:Own)(k1:Bool)(i1:Nat)(k2:Bool)(i2 off:Nat):Own:=λb =>
 match ow b with
 |some (k,i,s)=>if k=k1/\i=i1 then some (k2,i2,s+off) else some (k,i,s)
 |none=>none
section
variable (w:World)(Ψ:HT)(ow:Own){k1 k2:Bool}{i1 i2 off:Nat}
theorem lT{b:Nat}(h:fE ow k1 i1 k2 i2 off b≠none):ow b≠none:=by
 intro e;simp[fE,e] at h
theorem x7:e_ w Ψ ow w Ψ (fE ow k1 i1 k2 i2 0) k1 i1 k2 i2:=λb s h=>⟨by simp[fE,h],rfl,λ_ h=>h⟩
theorem eV{k:Bool}{i:Nat}(h:¬(k=k1/\i=i1)):e_ w Ψ ow w Ψ (fE ow k1 i1 k2 i2 off) k i k i:=λb s e=>⟨by simp[fE,e,h],rfl,λ_ h=>h⟩
theorem Fr.fE:Fr w Ψ ow w Ψ (fE ow k1 i1 k2 i2 off):=⟨Ψ.le_refl,Ae _,λ_ _ _=>⟨rfl,λ_=>rfl⟩,λb h=>.inl (lT ow h),rfl,rfl,rfl⟩
end
theorem Rel.take{E:Nat->Slot}{objs:List ai}(h:Rel P ans B0 w Ψ J ow an E tmps objs)(t:Nat)(ht:t<an.nt)(x:ae)(hx:am Ψ J x (tmps.getD t undef))(hb:∀cs,E t≠.box cs)(q:Nat) :
  Rel P ans B0 w Ψ J (fE ow false t false q 0) an (jl E t (.val x)) tmps objs/\bX w B0 Ψ J (fE ow false t false q 0) tmps q (E t) (tmps.getD t undef):=by
 refine⟨?_,(h.dr t).mono Ψ.le_refl (aG _) (x7 _ _ _) (λ_ _ _=>rfl)⟩;refine⟨h.size,h.b_,λu=>?_,λd u o e=>?_,λu cs e=>?_,h.objs.mono Ψ.le_refl (λi _=>eV _ _ _ (by simp)),λb BC=>h.lt b (lT _ BC),h.base,λu hu=>?_⟩
 ·by_cases hu:u=t
  ·subst hu;rw[eB];exact .val _ _ hx
  ·rw[bD _ _ hu];exact(h.dr u).mono Ψ.le_refl (aG _) (eV _ _ _ (by simp[hu])) (λ_ _ _=>rfl)
 ·by_cases hd:d=t
  ·subst hd;simp at e
  ·rw[bD _ _ hd] at e
   obtain⟨cs,hc⟩:=h.refs d u o e;by_cases hu:u=t
   ·subst hu;exact absurd hc (hb cs)
   ·exact⟨cs,by rw[bD _ _ hu];exact hc⟩
 ·by_cases hu:u=t
  ·subst hu;simp at e
  ·rw[bD _ _ hu] at e;exact h.boxes u cs e
 ·rw[bD _ _ (by omega)];exact h.hi u hu
theorem Rel.rD{E:Nat->Slot}{objs:List ai}(h:Rel P ans B0 w Ψ J ow an E tmps objs){t:Nat}(ht:E t≠.dead):t<an.nt:=by
 rcases Dl t an.nt with h1|h1
 ·exact h1
 ·exact absurd (h.hi t h1) ht
end
section
variable {P:Program}{ans:FuncId->AF}{an:AF}{w:World}{B0:Nat}{Ψ:HT}{J:List Nat}{ow:Own}{tmps:Array Value}{R:Type}{r:R}
structure gr (a b:AH):Prop where
 lo:b.lo=a.lo
 len:a.objs.length<=b.objs.length
 keep:∀i,i<a.lo->b.objs[i]?=a.objs[i]?
theorem gr.refl(a:AH):gr a a:=⟨rfl,Ae _,λ_ _=>rfl⟩
theorem gr.trans{a b c:AH}(h:gr a b)(k:gr b c):gr a c:=⟨k.lo.trans h.lo,Bi h.len k.len,λi hi=>(k.keep i (by rw[h.lo];exact hi)).trans (h.keep i hi)⟩
section
variable (P ans an B0 w Ψ J ow tmps)
def Goal(tm:List Slot)(rs:RS)(dst:Option Nat)(m:Machine)(mk mp:Value->World->Machine)(kp:ae->RS->Option R)(k:Slot->RS->Option R)(r:R):Prop :=
 (∃s rs' v w' Z' J' AO,k s rs'=some r/\Rel P ans B0 w' Z' J' AO an (sl an tm rs') tmps rs'.sto.objs/\bX w' B0 Z' J' AO tmps an.nt s v /\
  (∀u o,s=.ref u o->∃cs,sl an tm rs' u=.box cs)/\(∀cs,s=.box cs->∃d,dst=some d/\an.loc.contains d=true) /\
  Fr w Ψ ow w' Z' AO/\pre J J'/\gr rs.sto rs'.sto/\Steps P m (mk v w')) \/
 (∃x rs' v w' Z' J' AO,kp x rs'=some r/\Rel P ans B0 w' Z' J' AO an (sl an tm rs') tmps rs'.sto.objs/\am Z' J' x v /\
  Fr w Ψ ow w' Z' AO/\pre J J'/\gr rs.sto rs'.sto/\Steps P m (mp v w'))
end
variable {tm:List Slot}{rs:RS}{dst:Option Nat}{m:Machine}{mk mp:Value->World->Machine}{kp:ae->RS->Option R}{k:Slot->RS->Option R}
theorem Goal.plain(h:Rel P ans B0 w Ψ J ow an (sl an tm rs) tmps rs.sto.objs){s:Slot}{v:Value}(hk:k s rs=some r)(hs:bX w B0 Ψ J ow tmps an.nt s v)
  (hr:∀u o,s=.ref u o->∃cs,sl an tm rs u=.box cs) (hb:∀cs,s≠.box cs) (A8:Steps P m (mk v w)):Goal P ans an w B0 Ψ J ow tmps tm rs dst m mk mp kp k r :=
 .inl ⟨s,rs,v,w,Ψ,J,ow,hk,h,hs,hr,λcs e=>absurd e (hb cs),Fr.refl _ _ _,aG _,gr.refl _,A8⟩
theorem Goal.val(h:Rel P ans B0 w Ψ J ow an (sl an tm rs) tmps rs.sto.objs){x:ae}{v:Value}(hk:k (.val x) rs=some r)(hs:am Ψ J x v)(A8:Steps P m (mk v w)):Goal P ans an w B0 Ψ J ow tmps tm rs dst m mk mp kp k r :=
 .plain h hk (.val _ _ hs) (λ_ _ e=>by cases e) (λ_ e=>by cases e) A8
theorem bX.at{t t':Nat}{s:Slot}{v:Value}(h:bX w B0 Ψ J ow tmps t s v)(h1:∀sz xs,s≠.own sz xs)(h2:∀cs,s≠.cells cs)(h3:∀cs,s≠.box cs):bX w B0 Ψ J ow tmps t' s v:=by
 cases h with
 |dead=>exact .dead _
 |val x v h=>exact .val x v h
 |aj xs vs hl h=>exact .aj xs vs hl h
 |own sz xs v h=>exact absurd rfl (h1 sz xs)
 |full xs a n h=>exact .full xs a n h
 |nl=>exact .nl
 |nn xs a n c h=>exact .nn xs a n c h
 |cells cs vs h=>exact absurd rfl (h2 cs)
 |box cs b h=>exact absurd rfl (h3 cs)
 |ref u o b h=>exact .ref u o b h
theorem zh(h:Rel P ans B0 w Ψ J ow an (sl an tm rs) tmps rs.sto.objs){t:Nat}{s:Slot}{v:Value}(hs:bX w B0 Ψ J ow tmps t s v)(Hk:∀u o,s=.ref u o->∃cs,sl an tm rs u=.box cs)
  (e:mv s (λs'=>k s' rs)=some r) (A8:Steps P m (mk v w)):Goal P ans an w B0 Ψ J ow tmps tm rs dst m mk mp kp k r:=by
 cases hs with
 |dead=>simp[mv] at e
 |val x v hv=>exact .val h e hv A8
 |aj xs vs hl hv=>exact .plain h e (.aj xs vs hl hv) (λ_ _ e=>by cases e) (λ_ e=>by cases e) A8
 |own sz xs v hv=>exact .val h e hv.val A8
 |full xs a n hv=>exact .plain h e (.full xs a n hv) (λ_ _ e=>by cases e) (λ_ e=>by cases e) A8
 |nl=>exact .plain h e .nl (λ_ _ e=>by cases e) (λ_ e=>by cases e) A8
 |nn xs a n c hv=>exact .plain h e (.nn xs a n c hv) (λ_ _ e=>by cases e) (λ_ e=>by cases e) A8
 |cells cs vs hv=>exact .val h e hv.agg A8
 |box=>simp[mv] at e
 |ref u o b hv=>exact .plain h e (.ref u o b hv) Hk (λ_ e=>by cases e) A8
theorem qP(h:Rel P ans B0 w Ψ J ow an (sl an tm rs) tmps rs.sto.objs)(x:Operand):∀u o,AZ an.keep tm rs x=.ref u o->∃cs,sl an tm rs u=.box cs:=by
 intro u o e;cases x with
 |tmp t=>exact h.refs t u o e
 |const v =>
  simp only[AZ,gM] at e
  split at e
  ·cases e
  ·split at e<;>cases e
 |global=>simp[AZ] at e
 |func=>simp[AZ] at e
variable {ds:List Deferred}
theorem xQ(h:Rel P ans B0 w Ψ J ow an (sl an tm rs) tmps rs.sto.objs)(t:Nat)(x:ae)(hx:am Ψ J x (tmps.getD t undef))(BA:sl an tm rs t≠.dead)(Hm:∀cs,sl an tm rs t≠.box cs)(HP:∀u o,sl an tm rs t≠.ref u o)
  (e:k (sl an tm rs t) (rs.put t (.val x))=some r) (A8:Steps P m (mk (tmps.getD t undef) w)):Goal P ans an w B0 Ψ J ow tmps tm rs dst m mk mp kp k r:=by
 obtain⟨h1,h2⟩:=h.take t (h.rD BA) x hx Hm an.nt;refine .inl ⟨_,_,_,w,Ψ,J,_,e,?_,h2,λu o he=>absurd he (HP u o),λcs he=>absurd he (Hm cs),Fr.fE _ _ _,aG _,gr.refl _,A8⟩;rw[show sl an tm (rs.put t (.val x))=jl (sl an tm rs) t (.val x) from dJ _ _ _ _ _];exact h1
theorem y1(h:Rel P ans B0 w Ψ J ow an (sl an tm rs) tmps rs.sto.objs){tk:Bool}{ty:TypeId}{x:Operand}(e:Gz P an tm tk ty x rs k=some r)
  (A8:Steps P m (mk ((⟨tmps,ds⟩:Act).eval x) w)):Goal P ans an w B0 Ψ J ow tmps tm rs dst m mk mp kp k r:=by
 obtain⟨t,hs,ht⟩:=bH (ds:=ds) h x;have Hk:=qP h x;unfold Gz at e
 split at e
 ·rename_i t'
  obtain rfl:=ht t' rfl
  split at e
  ·rename_i sz xs BI
   have BN:sl an tm rs t=.own sz xs:=BI
   split at e
   ·refine xQ h t (.slice xs) ?_ (by rw[BN];simp) (by rw[BN];simp) (by rw[BN];simp) (by rw[BN];exact e) A8
    rw[BI] at hs;cases hs with|own _ _ _ hv=>exact hv.val
   ·rw[BI] at hs;cases hs with|own _ _ _ hv=>exact .val h e hv.val A8
  ·rename_i cs BI
   have BN:sl an tm rs t=.cells cs:=BI
   split at e
   ·refine xQ h t (.agg (cs.map Cell.get)) ?_ (by rw[BN];simp) (by rw[BN];simp) (by rw[BN];simp) (by rw[BN];exact e) A8
    rw[BI] at hs;generalize(Act.eval { tmps:=tmps,defers:=ds } (Operand.tmp t))=v at hs
    change bX w B0 Ψ J ow tmps t (.cells cs) v at hs
    exact(show am Ψ J (.agg (cs.map Cell.get)) (tmps.getD t undef) from by
     have:=h.dr t;rw[BN] at this
     generalize tmps.getD t undef=u at this;cases this with|cells _ _ hv=>exact hv.agg)
   ·rw[BI] at hs
    generalize(Act.eval { tmps:=tmps,defers:=ds } (Operand.tmp t))=v at hs A8;cases hs with|cells _ _ hv=>exact .val h e hv.agg A8
  ·exact zh h hs Hk e A8
 ·rename_i v
  have hc:=a7a (P:=P) (w:=w) (B0:=B0) (Ψ:=Ψ) (J:=J) (ow:=ow) (tmps:=tmps) an.nt ty v
  split at e
  ·cases e
  ·rename_i s BA
   refine .plain h e hc (λu o he=>?_) (λcs he=>?_) A8
   ·unfold mP at he
    split at he
    ·split at he<;>cases he
    ·unfold gM at he;split at he
     ·cases he
     ·split at he<;>cases he
   ·unfold mP at he
    split at he
    ·split at he<;>cases he
    ·unfold gM at he;split at he
     ·cases he
     ·split at he<;>cases he
 ·exact zh h hs Hk e A8
end
section
variable {P:Program}{ans:FuncId->AF}{an:AF}{w:World}{B0:Nat}{Ψ:HT}{J:List Nat}{ow:Own}{tmps:Array Value}{R:Type}{r:R}
variable {tm:List Slot}{rs:RS}{dst:Option Nat}{m:Machine}{mk mp:Value->World->Machine}{kp:ae->RS->Option R}{k:Slot->RS->Option R}{ds:List Deferred}
theorem am.a0A{x:ae}{v:Value}(h:am Ψ J x v)(kk:Bool)(i:Nat):ie w B0 Ψ J ow kk i (x.cells.map .val) v.cells.toList:=by
 obtain⟨h1,h2,h3⟩:=h.cells;refine⟨by simpa using h1,λj c u hc hu=>?_⟩;simp only[Aw,Aq] at hc;obtain⟨c',C6,rfl⟩:=hc;exact .val c' u (h2 j c' C6) (h3 j c' u C6 (by simpa using hu))
theorem a2E(h:Rel P ans B0 w Ψ J ow an (sl an tm rs) tmps rs.sto.objs){x:Operand}(q:Nat){k:List Cell->RS->Option R}(e:dO an.keep tm rs x k=some r) :
  ∃cs rs' AO,k cs rs'=some r/\Rel P ans B0 w Ψ J AO an (sl an tm rs') tmps rs'.sto.objs/\ie w B0 Ψ J AO false q cs ((⟨tmps,ds⟩:Act).eval x).cells.toList/\Fr w Ψ ow w Ψ AO/\rs'.sto=rs.sto /\
   (∀kk i,(∀t,x=.tmp t->¬(kk=false/\i=t))->e_ w Ψ ow w Ψ AO kk i kk i)/\(∀t cs,sl an tm rs t=.box cs->sl an tm rs' t=.box cs):=by
 obtain⟨t,hs,ht⟩:=bH (ds:=ds) h x
 have plain:∀y:ae,am Ψ J y ((⟨tmps,ds⟩:Act).eval x)->k (y.cells.map .val) rs=some r ->
   ∃cs rs' AO,k cs rs'=some r/\Rel P ans B0 w Ψ J AO an (sl an tm rs') tmps rs'.sto.objs/\ie w B0 Ψ J AO false q cs ((⟨tmps,ds⟩:Act).eval x).cells.toList/\Fr w Ψ ow w Ψ AO/\rs'.sto=rs.sto /\
   (∀kk i,(∀t,x=.tmp t->¬(kk=false/\i=t))->e_ w Ψ ow w Ψ AO kk i kk i)/\(∀t cs,sl an tm rs t=.box cs->sl an tm rs' t=.box cs):=λy hy hk =>
  ⟨_,rs,ow,hk,h,hy.a0A false q,Fr.refl _ _ _,rfl,λkk i _=>e_.refl _ _ _ _ _,λ_ _ h=>h⟩
 unfold dO at e
 split at e
 ·rename_i sz xs t' BI
  obtain rfl:=ht t' rfl
  split at e
  ·rw[BI] at hs;cases hs with|own _ _ _ hv=>exact plain (.slice xs) hv.val e
  ·have BN:sl an tm rs t=.own sz xs:=BI
   have hx:am Ψ J (.slice xs) (tmps.getD t undef):=by have:=h.dr t;rw[BN] at this;cases this with|own _ _ _ hv=>exact hv.val
   obtain⟨h1,h2⟩:=h.take t (h.rD (by rw[BN];simp)) (.slice xs) hx (by rw[BN];simp) q;refine⟨_,_,fE ow false t false q 0,e,?_,?_,Fr.fE _ _ _,rfl,?_,?_⟩
   ·rw[show sl an tm (rs.put t (.val (.slice xs)))=jl (sl an tm rs) t (.val (.slice xs)) from dJ _ _ _ _ _];exact h1
   ·rw[BN] at h2
    have hv:(Act.eval { tmps:=tmps,defers:=ds } (Operand.tmp t))=tmps.getD t undef:=rfl;rw[hv];generalize tmps.getD t undef=v at h2;cases h2 with
    |own _ _ _ hv =>
     obtain⟨g1,g2,a,len,cap,rfl,g4⟩:=hv;refine⟨rfl,λj c u hc hu=>?_⟩;cases j with
     |zero=>simp at hc;subst hc;simp[Value.cells] at hu;subst hu;exact .own _ _ _ ⟨g1,g2,a,len,cap,rfl,g4⟩
     |succ j=>simp at hc
   ·intro kk i BA;exact eV _ _ _ (λhh=>BA t rfl hh)
   ·intro u cs hu
    have:u≠t:=λhe=>by subst he;rw[BN] at hu;cases hu
    rw[show sl an tm (rs.put t (.val (.slice xs)))=jl (sl an tm rs) t (.val (.slice xs)) from dJ _ _ _ _ _,bD _ _ this];exact hu
 ·rename_i sz v BI
  simp only[AZ,gM] at BI
  split at BI
  ·cases BI
  ·split at BI<;>cases BI
 ·rename_i cs t' BI
  obtain rfl:=ht t' rfl;have BN:sl an tm rs t=.cells cs:=BI
  have hx:am Ψ J (.agg (cs.map Cell.get)) (tmps.getD t undef):=by
   have:=h.dr t;rw[BN] at this
   generalize tmps.getD t undef=u at this;cases this with|cells _ _ hv=>exact hv.agg
  split at e
  ·refine plain (.agg (cs.map Cell.get)) hx ?_
   simpa[ae.cells,Dw] using e
  ·obtain⟨h1,h2⟩:=h.take t (h.rD (by rw[BN];simp)) (.agg (cs.map Cell.get)) hx (by rw[BN];simp) q
   refine⟨_,_,fE ow false t false q 0,e,?_,?_,Fr.fE _ _ _,rfl,?_,?_⟩
   ·rw[show sl an tm (rs.put t (.val (.agg (cs.map Cell.get))))=jl (sl an tm rs) t (.val (.agg (cs.map Cell.get))) from dJ _ _ _ _ _];exact h1
   ·rw[BN] at h2
    have hv:(Act.eval { tmps:=tmps,defers:=ds } (Operand.tmp t))=tmps.getD t undef:=rfl;rw[hv];generalize tmps.getD t undef=v at h2;cases h2 with|cells _ vs hv=>exact hv
   ·intro kk i BA;exact eV _ _ _ (λhh=>BA t rfl hh)
   ·intro u BX hu
    have:u≠t:=λhe=>by subst he;rw[BN] at hu;cases hu
    rw[show sl an tm (rs.put t (.val (.agg (cs.map Cell.get))))=jl (sl an tm rs) t (.val (.agg (cs.map Cell.get))) from dJ _ _ _ _ _,bD _ _ this];exact hu
 ·obtain⟨y,hk,hy⟩:=lE hs e
  exact plain y hy hk
theorem a6h(h:Rel P ans B0 w Ψ J ow an (sl an tm rs) tmps rs.sto.objs){t0:TypeId}{x:Operand}(q:Nat){k:List Cell->RS->Option R}(e:eN P t0 an.keep tm rs x k=some r) :
  ∃cs rs' AO,k cs rs'=some r/\Rel P ans B0 w Ψ J AO an (sl an tm rs') tmps rs'.sto.objs/\ie w B0 Ψ J AO false q cs ((⟨tmps,ds⟩:Act).eval x).cells.toList/\Fr w Ψ ow w Ψ AO/\rs'.sto=rs.sto /\
   (∀kk i,(∀t,x=.tmp t->¬(kk=false/\i=t))->e_ w Ψ ow w Ψ AO kk i kk i)/\(∀t cs,sl an tm rs t=.box cs->sl an tm rs' t=.box cs):=by
 obtain⟨t,hs,ht⟩:=bH (ds:=ds) h x;unfold eN at e
 split at e
 ·rename_i BI
  obtain⟨el,_,e⟩:=aH e;obtain⟨sz,_,e⟩:=aH e;rw[BI] at hs;generalize(⟨tmps,ds⟩:Act).eval x=v at hs;cases hs with
  |nl =>
   refine⟨_,rs,ow,e,h,⟨rfl,λj c u hc hu=>?_⟩,Fr.refl _ _ _,rfl,λkk i _=>e_.refl _ _ _ _ _,λ_ _ h=>h⟩
   match j with
   |0 =>
    cases hc;cases hu;exact .own _ _ _ (xX _ _)
   |j+1=>cases hc
 ·exact a2E h q e
def RD(Ψ:HT)(J:List Nat)(tmps:Array Value)(E:Nat->Slot)(p:Place)(v:Value):Prop :=
 match p with
 |.loc t o=>∃cs b,E t=.box cs/\tmps.getD t undef=.pointer (some ⟨b,0,none⟩)/\v=.pointer (some ⟨b,o,none⟩)
 |.obj i o=>∃b,J[i]?=some b/\v=.pointer (some ⟨b,o,none⟩)
 |.kc x=>am Ψ J (.ay x) v
theorem jG(h:Rel P ans B0 w Ψ J ow an (sl an tm rs) tmps rs.sto.objs){x:Operand}{k:Place->Option R}(e:dD x (AZ an.keep tm rs x) k=some r) :
  ∃p,k p=some r/\RD Ψ J tmps (sl an tm rs) p ((⟨tmps,ds⟩:Act).eval x):=by
 obtain⟨t,hs,ht⟩:=bH (ds:=ds) h x;unfold dD at e
 split at e
 ·rename_i cs BI
  split at e
  ·rename_i t'
   obtain rfl:=ht t' rfl;have BN:sl an tm rs t=.box cs:=BI;refine⟨_,e,?_⟩
   have:=h.dr t
   rw[BN] at this;have hv:(Act.eval { tmps:=tmps,defers:=ds } (Operand.tmp t))=tmps.getD t undef:=rfl;rw[hv];generalize hg:tmps.getD t undef=v at this;cases this with|box _ b hb=>exact⟨cs,b,BN,hg,rfl⟩
  ·cases e
 ·rename_i u o BI
  rw[BI] at hs;obtain⟨cs,hc⟩:=qP h x u o BI;refine⟨_,e,?_⟩;generalize(Act.eval { tmps:=tmps,defers:=ds } x)=v at hs;cases hs with|ref _ _ b hb=>exact⟨cs,b,hc,hb,rfl⟩
 ·rename_i i o BI
  rw[BI] at hs;refine⟨_,e,?_⟩;generalize(Act.eval { tmps:=tmps,defers:=ds } x)=v at hs;cases hs with|val _ _ hv=>cases hv with|loc _ _ b hb=>exact⟨b,hb,rfl⟩
 ·rename_i y BI
  rw[BI] at hs;refine⟨_,e,?_⟩;cases hs with|val _ _ hv=>exact hv
 ·rename_i t f a y z BI
  rw[BI] at hs;refine⟨_,e,?_⟩;generalize(Act.eval { tmps:=tmps,defers:=ds } x)=v at hs;cases hs with|val _ _ hv=>cases hv with|rc _ _ _ _ _ b o h=>exact .ay _ b o h
 ·cases e
def Reads(w:World)(Ψ:HT)(J:List Nat)(cs:List Cell)(off b o:Nat):Prop :=
 ∀(j:Nat)(c:Cell),cs[off+j]?=some c->∃u,w.cell? ⟨b,o+j,none⟩=some u/\c.get.ci=true/\am Ψ J c.get u
theorem lf.reads{kk:Bool}{i:Nat}{cs:List Cell}{b:Nat}(h:lf w B0 Ψ J ow kk i cs b)(o:Nat):Reads w Ψ J cs o b o:=by
 obtain⟨_,_,_,vs,T,h4,h5⟩:=h;intro j c hc;have hj:o+j<vs.length:=by rw[<-h5.1];exact(Ab.1 hc).1
 refine⟨vs[o+j],by rw[cell_of_heap h4];simp[hj],?_⟩;exact(h5.2 (o+j) c vs[o+j] hc (by simp[hj])).get
theorem lf.a6X{kk:Bool}{i:Nat}{cs:List Cell}{b n:Nat}(h:lf w B0 Ψ (J.take n) ow kk i cs b)(o:Nat):Reads w Ψ J cs o b o:=λj c hc=>by
 obtain⟨u,h1,h2,h3⟩:=h.reads o j c hc;exact⟨u,h1,h2,h3.mono Ψ.le_refl a0m⟩
theorem iM(h:Rel P ans B0 w Ψ J ow an (sl an tm rs) tmps rs.sto.objs){p:Place}{v:Value}(hp:RD Ψ J tmps (sl an tm rs) p v){k:List Cell->Nat->Option R}(e:aT an.keep tm rs p k=some r) :
  ∃cs off b o,k cs off=some r/\v=.pointer (some ⟨b,o,none⟩)/\Reads w Ψ J cs off b o /\
   (∀t o',p=.loc t o'->sl an tm rs t=.box cs/\off=o/\lf w B0 Ψ J ow false t cs b/\tmps.getD t undef=.pointer (some ⟨b,0,none⟩)) /\
   (∀i o',p=.obj i o'->rs.sto.objs[i]?=some (.box cs)/\off=o/\J[i]?=some b/\lf w B0 Ψ (J.take (i+1)) ow true i cs b):=by
 cases p with
 |loc t o =>
  obtain⟨cs,b,h1,h2,h3⟩:=hp;have Kf:rs.look an.keep tm t=.box cs:=h1;simp only[aT,Kf,pS] at e
  have hb:lf w B0 Ψ J ow false t cs b:=by
   have:=h.dr t;rw[h1,h2] at this
   cases this with|box _ _ hb=>exact hb
  exact⟨cs,o,b,o,e,h3,hb.reads o,(λt' o' he=>by cases he;exact⟨h1,rfl,hb,h2⟩),(λ_ _ he=>by cases he)⟩
 |obj i o =>
  obtain⟨b,h1,h2⟩:=hp;simp only[aT,pT] at e
  split at e
  ·rename_i cs ho
   obtain⟨b',BC,hr⟩:=h.objs.2 i _ ho;obtain rfl:b=b':=by rw[h1] at BC;exact Bp BC
   cases hr with
   |box _ _ hb=>exact⟨cs,o,b,o,e,h2,hb.a6X o,(λ_ _ he=>by cases he),(λi' o' he=>by cases he;exact⟨ho,rfl,h1,hb⟩)⟩
  ·cases e
 |kc x =>
  simp only[aT] at e;simp only[RD] at hp;cases hp with
  |ay _ b o hb =>
   refine⟨_,0,b,o,e,rfl,?_,(λ_ _ he=>by cases he),(λ_ _ he=>by cases he)⟩;intro j c hc;simp only[Bs,Aw,Aq] at hc;obtain⟨c',C6,rfl⟩:=hc;obtain⟨hf,u,hu,hv⟩:=h.b_.sat _ _ _ (hb j c' C6);exact⟨u,hu,j6 hf,hv.mono Ψ.le_refl (pre_nil _)⟩
theorem a1D{cs:List Cell}{off b o s:Nat}{t:TypeId}(hr:Reads w Ψ J cs off b o)(h1:aW P t=some true)(h2:aU P t=some s){x:ae}(hx:partOf true (cs.map Cell.get) off s=some x) :
  ∃v,(loadVar t ⟨b,o,none⟩).run P w=.ok v w/\am Ψ J x v:=by
 simp only[partOf,Dq,Ay] at hx;cases hle:Nat.ble (off+s) cs.length with
 |false=>simp[hle] at hx
 |true =>
  have ES:off+s<=cs.length:=Ad hle;simp[hle] at hx;subst hx
  have hex:∀j,j<s->∃u,w.cell? ⟨b,o+j,none⟩=some u:=λj hj=>by
   obtain⟨u,hu,_⟩:=hr j (cs[off+j]'(by omega)) (by simp[show off+j<cs.length by omega]);exact⟨u,hu⟩
  refine⟨.agg ⟨(List.range s).map λj=>(w.cell? ⟨b,o+j,none⟩).getD undef⟩,?_,?_⟩
  ·refine v5 h1 (by simpa using h2) λj v hj=>?_
   have Mo:j<s:=by have:=(Ab.1 hj).1;simpa using this
   rw[Aw,Ch Mo] at hj;obtain⟨u,hu⟩:=hex j Mo;simp[hu] at hj ⊢;exact hj
  ·refine .agg _ _ (by simp;omega) ?_ ?_
   ·intro j c hc
    rw[Bl] at hc
    split at hc
    ·rw[Ee,Aw,Aq] at hc
     obtain⟨c',C6,rfl⟩:=hc;exact(hr j c' C6).choose_spec.2.1
    ·cases hc
   ·intro j c v hc hv
    rw[Bl] at hc
    split at hc
    ·rename_i Mo
     rw[Ee,Aw,Aq] at hc;obtain⟨c',C6,rfl⟩:=hc;obtain⟨u,hu,_,HF⟩:=hr j c' C6;rw[Aw,Ch Mo] at hv;simp[hu] at hv;subst hv;exact HF
    ·cases hc
theorem a1F{cs:List Cell}{off b o:Nat}{t:TypeId}(hr:Reads w Ψ J cs off b o)(h1:aW P t=some false){c:Cell}(hc:cs[off]?=some c) :
  ∃v,(loadVar t ⟨b,o,none⟩).run P w=.ok v w/\am Ψ J c.get v:=by
 obtain⟨u,hu,_,hv⟩:=hr 0 c (by simpa using hc);exact⟨u,u_ h1 (by simpa using hu),hv⟩
theorem c_.lt(h:c_ Ψ w){b o:Nat}{c:ae}(e:Ψ b o c):b<w.heap.size:=by
 obtain⟨_,v,hv,_⟩:=h.sat b o c e;exact World.block_lt_of_cell? _ _ hv
theorem c_.vO(h:c_ Ψ w){b:Nat}(hb:w.heap.size<=b)(o:Nat):Ψ b o=FZ:=by
 funext c;refine propext ⟨λe=>?_,λe=>e.elim⟩
 have:=h.lt e;omega
theorem m8{w w':World}{b:Nat}(h:w'.heap[b]?=w.heap[b]?)(o:Nat):w'.cell? ⟨b,o,none⟩=w.cell? ⟨b,o,none⟩:=by
 simp[World.cell?,h]
theorem c_.put(h:c_ Ψ w){b:Nat}{ob:Obj}(hf:∀o,Ψ b o=FZ):c_ Ψ (w.putObj b ob):=⟨by simpa[World.putObj] using h.kS,λb' o c e=>by
 obtain⟨h1,v,h2,h3⟩:=h.sat b' o c e;have BA:b'≠b:=λhe=>by subst he;rw[hf] at e;exact e
 exact⟨h1,v,(m8 (World.putObj_heap_other BA) o).trans h2,h3⟩⟩
theorem aX{α:Type}(l new:List α)(off j:Nat)(h:off+new.length<=l.length) :
  (overwrite l off new)[j]?=if j<off then l[j]? else if j<off+new.length then new[j-off]? else l[j]?:=by
 unfold overwrite;by_cases h1:j<off
 ·rw[Br h1,Aj,Az (by simp;omega),Bl,Br h1]
 ·rw[Bf h1]
  by_cases h2:j<off+new.length
  ·rw[Br h2,Az (by simp;omega),Bm (by simp;omega)]
   simp[show min off l.length=off by omega]
  ·rw[Bf h2,Bm (by simp;omega),Ee]
   congr 1;simp;omega
theorem aP{α:Type}(l new:List α)(off:Nat)(h:off+new.length<=l.length):(overwrite l off new).length=l.length:=by
 unfold overwrite;simp;omega
theorem nK(cs new:List Cell)(off:Nat):setCells cs off new=overwrite cs off new:=rfl
theorem ie.one{kk:Bool}{i:Nat}{cs:List Cell}{vs:List Value}(h:ie w B0 Ψ J ow kk i cs vs):∀u∈vs,hV u=true:=by
 intro u hu;obtain⟨j,hj⟩:=Di hu;have hl:j<cs.length:=by rw[h.1];exact(Ab.1 hj).1
 have:=(h.2 j cs[j] u (by simp[hl]) hj).get
 exact this.2.one this.1
theorem ie.overwrite{kk:Bool}{i q off:Nat}{cs new:List Cell}{vs nv:List Value}{b:Nat}{ob:Obj}{J1:List Nat}(h:ie w B0 Ψ J1 ow kk i cs vs)(hn:ie w B0 Ψ J1 ow false q new nv)(EP:off+new.length<=cs.length)
  (DA:ow b=some (kk,i,0)) (hq:¬(kk=false/\i=q)) :
  ie (w.putObj b ob) B0 Ψ J1 (fE ow false q kk i off) kk i (setCells cs off new) (AM.overwrite vs off nv):=by
 have hv:off+nv.length<=vs.length:=by rw[<-h.1,<-hn.1];exact EP
 refine⟨by rw[nK,aP _ _ _ EP,aP _ _ _ hv];exact h.1,λj c v hc Iw=>?_⟩;rw[nK,aX _ _ _ _ EP] at hc;rw[aX _ _ _ _ hv,<-hn.1] at Iw
 have old:∀c v,cs[j]?=some c->vs[j]?=some v->mL (w.putObj b ob) B0 Ψ J1 (fE ow false q kk i off) (kk,i,j+1) c v:=λc v h1 h2 =>
  (h.2 j c v h1 h2).mono Ψ.le_refl (aG _) λb' BC=>by
   refine⟨?_,World.putObj_heap_other ?_,λ_ h=>h⟩
   ·have:¬(kk=false/\i=q):=hq
    simp[fE,BC,this]
   ·intro he;subst he;rw[DA] at BC;simp at BC
 by_cases h1:j<off
 ·rw[Br h1] at hc Iw;exact old c v hc Iw
 ·rw[Bf h1] at hc Iw
  by_cases h2:j<off+new.length
  ·rw[Br h2] at hc Iw
   refine(hn.2 (j-off) c v hc Iw).mono Ψ.le_refl (aG _) λb' BC=>⟨?_,World.putObj_heap_other ?_,λ_ h=>h⟩
   ·simp[fE,BC];omega
   ·intro he;subst he;rw[DA] at BC
    simp only[Am,Bq] at BC;exact hq ⟨BC.1,BC.2.1⟩
  ·rw[Bf h2] at hc Iw;exact old c v hc Iw
theorem Fr.put{b:Nat}{ob:Obj}{CG:Own}(hb:ow b≠none)(h2:∀x,CG x≠none->ow x≠none):Fr w Ψ ow (w.putObj b ob) Ψ CG :=
 ⟨Ψ.le_refl,by simp,λx _ hx=>⟨World.putObj_heap_other (λhe=>by subst he;exact hb hx),λ_=>rfl⟩,λx hx=>.inl (h2 x hx),rfl,rfl,rfl⟩
theorem aBK{E:Nat->Slot}{objs:List ai}(h:Rel P ans B0 w Ψ J ow an E tmps objs){t off:Nat}{cs new:List Cell}{b:Nat}{vs nv:List Value}{T:TypeId}(he:E t=.box cs)(hp:tmps.getD t undef=.pointer (some ⟨b,0,none⟩))
  (hb:lf w B0 Ψ J ow false t cs b) (hh:w.heap[b]?=some (.cells ⟨vs⟩ T (0,0))) (CU:ie w B0 Ψ J ow false t cs vs) (hn:ie w B0 Ψ J ow false an.nt new nv) (EP:off+new.length<=cs.length) :
  Rel P ans B0 (w.putObj b (.cells ⟨overwrite vs off nv⟩ T (0,0))) Ψ J (fE ow false an.nt false t off) an (jl E t (.box (setCells cs off new))) tmps objs:=by
 have ht:t<an.nt:=h.rD (by rw[he];simp);have AL:b<w.heap.size:=(An.1 hh).1
 have other:∀kk i,¬(kk=false/\i=t)->¬(kk=false/\i=an.nt)->e_ w Ψ ow (w.putObj b (.cells ⟨overwrite vs off nv⟩ T (0,0))) Ψ (fE ow false an.nt false t off) kk i kk i:=λkk i h1 h2 b' s BC =>
  ⟨by simp[fE,BC,h2],World.putObj_heap_other (λe=>by subst e;rw[hb.own] at BC;simp only[Am,Bq] at BC;exact h1 ⟨BC.1.symm,BC.2.1.symm⟩),λ_ h=>h⟩
 have DW:fE ow false an.nt false t off b=some (false,t,0):=by simp[fE,hb.own];omega
 refine⟨h.size,h.b_.put hb.free,λu=>?_,λd u o e=>?_,λu BX e=>?_,h.objs.mono Ψ.le_refl (λi _=>other true i (by simp) (by simp)),λx hx=>?_,?_,λu hu=>?_⟩
 ·by_cases hu:u=t
  ·subst hu;rw[eB,hp]
   exact .box _ _ ⟨DW,hb.base,hb.free,_,T,World.putObj_heap_same AL,CU.overwrite hn EP hb.own (by simp;omega)⟩
  ·rw[bD _ _ hu]
   rcases Dl u an.nt with Mk|Iu
   ·exact(h.dr u).mono Ψ.le_refl (aG _) (other false u (by simp[hu]) (by simp;omega)) (λ_ _ _=>rfl)
   ·rw[h.hi u Iu];exact .dead _
 ·by_cases hd:d=t
  ·subst hd;simp at e
  ·rw[bD _ _ hd] at e
   obtain⟨BX,hc⟩:=h.refs d u o e;by_cases hu:u=t
   ·subst hu;exact⟨_,eB _ _ _⟩
   ·exact⟨BX,by rw[bD _ _ hu];exact hc⟩
 ·by_cases hu:u=t
  ·subst hu;exact h.boxes u cs he
  ·rw[bD _ _ hu] at e;exact h.boxes u BX e
 ·rw[World.putObj_size];exact h.lt x (lT _ hx)
 ·rw[World.putObj_size];exact h.base
 ·rw[bD _ _ (by omega)];exact h.hi u hu
theorem mL.ct{id:IM}{c:Cell}{v:Value}{n:Nat}(h:mL w B0 Ψ J ow id c v)(hl:c.ct n=true):mL w B0 Ψ (J.take n) ow id c v:=by
 cases h with
 |val c v hc h=>exact .val c v hc (h.ct hl)
 |own sz xs v h=>exact .own sz xs v h
theorem i_.set{objs:List ai}{w':World}{AO:Own}(h:i_ w B0 Ψ J ow ans objs){i b:Nat}{ob:ai}(hi:i<objs.length)(hb:J[i]?=some b)(hn:m6 w' B0 Ψ J AO ans i ob b)(hs:∀j,j≠i->e_ w Ψ ow w' Ψ AO true j true j) :
  i_ w' B0 Ψ J AO ans (objs.set i ob):=by
 refine⟨by simpa using h.1,λj o ho=>?_⟩;rw[Ce] at ho
 split at ho
 ·rename_i HS;subst HS
  simp only[hi,Dq,Am] at ho;subst ho;exact⟨b,hb,hn⟩
 ·rename_i HS
  obtain⟨b',h1,h2⟩:=h.2 j o ho;exact⟨b',h1,h2.mono Ψ.le_refl (aG _) (hs j (λe=>HS e.symm))⟩
theorem aBL{E:Nat->Slot}{objs:List ai}(h:Rel P ans B0 w Ψ J ow an E tmps objs){i off:Nat}{cs new:List Cell}{b:Nat}{vs nv:List Value}{T:TypeId}(ho:objs[i]?=some (.box cs))(hρ:J[i]?=some b)
  (hb:lf w B0 Ψ (J.take (i+1)) ow true i cs b) (hh:w.heap[b]?=some (.cells ⟨vs⟩ T (0,0))) (CU:ie w B0 Ψ (J.take (i+1)) ow true i cs vs) (hn:ie w B0 Ψ J ow false an.nt new nv) (EP:off+new.length<=cs.length)
  (hl:(setCells cs off new).all (Cell.ct (i+1))=true) :
  Rel P ans B0 (w.putObj b (.cells ⟨overwrite vs off nv⟩ T (0,0))) Ψ J (fE ow false an.nt true i off) an E tmps (objs.set i (.box (setCells cs off new))):=by
 have AL:b<w.heap.size:=(An.1 hh).1
 have other:∀kk j,¬(kk=true/\j=i)->¬(kk=false/\j=an.nt)->e_ w Ψ ow (w.putObj b (.cells ⟨overwrite vs off nv⟩ T (0,0))) Ψ (fE ow false an.nt true i off) kk j kk j:=λkk j h1 h2 b' s BC =>
  ⟨by simp[fE,BC,h2],World.putObj_heap_other (λe=>by subst e;rw[hb.own] at BC;simp only[Am,Bq] at BC;exact h1 ⟨BC.1.symm,BC.2.1.symm⟩),λ_ h=>h⟩
 have DW:fE ow false an.nt true i off b=some (true,i,0):=by simp[fE,hb.own]
 have I2:ie w B0 Ψ (J.take (i+1)) ow false an.nt new nv:=⟨hn.1,λj c v hc hv=>(hn.2 j c v hc hv).ct (Au.1 hl c (by
  rw[nK];unfold AM.overwrite;exact List.mem_append_left _ (List.mem_append_right _ (Be hc))))⟩
 refine⟨h.size,h.b_.put hb.free,λu=>?_,h.refs,h.boxes,?_,λx hx=>?_,?_,h.hi⟩
 ·rcases Dl u an.nt with Mk|Iu
  ·exact(h.dr u).mono Ψ.le_refl (aG _) (other false u (by simp) (by simp;omega)) (λ_ _ _=>rfl)
  ·rw[h.hi u Iu];exact .dead _
 ·refine h.objs.set (Ab.1 ho).1 hρ (.box _ _ ⟨DW,hb.base,hb.free,_,T,World.putObj_heap_same AL,CU.overwrite I2 EP hb.own (by simp)⟩) λj hj=>other true j (by simp[hj]) (by simp)
 ·rw[World.putObj_size];exact h.lt x (lT _ hx)
 ·rw[World.putObj_size];exact h.base
def e9(ow:Own)(id DC:IM):Own:=λb=>if ow b=some id then some DC else ow b
theorem oE{id DC:IM}{b:Nat}(h:e9 ow id DC b≠none):ow b≠none:=by
 intro e;simp[e9,e] at h
theorem ie.a2t{kk:Bool}{i j q:Nat}{cs:List Cell}{vs:List Value}{sz:Nat}{xs:List ae}{v:Value}{J1:List Nat}(h:ie w B0 Ψ J1 ow kk i cs vs)(hj:cs[j]?=some (.own sz xs))(hv:vs[j]?=some v) :
  ie w B0 Ψ J1 (e9 ow (kk,i,j+1) (false,q,1)) kk i (cs.set j (.val (.slice xs))) vs/\kw w B0 Ψ (e9 ow (kk,i,j+1) (false,q,1)) (false,q,1) sz xs v:=by
 have ho:kw w B0 Ψ ow (kk,i,j+1) sz xs v:=by have:=h.2 j _ v hj hv;cases this with|own _ _ _ h=>exact h
 refine⟨⟨by simpa using h.1,λj' c u hc hu=>?_⟩,ho.mono Ψ.le_refl λb hb=>⟨by simp[e9,hb],rfl,λ_ h=>h⟩⟩;rw[Ce] at hc
 split at hc
 ·rename_i UU;subst UU
  split at hc
  ·simp only[Am] at hc;subst hc
   obtain rfl:v=u:=by rw[hv] at hu;exact Bp hu
   exact .val _ _ rfl ho.val
  ·cases hc
 ·rename_i UU
  refine(h.2 j' c u hc hu).mono Ψ.le_refl (aG _) λb hb=>⟨?_,rfl,λ_ h=>h⟩
  have:¬j'=j:=λe=>UU e.symm
  simp[e9,hb,this]
theorem aE6{E:Nat->Slot}{objs:List ai}(h:Rel P ans B0 w Ψ J ow an E tmps objs){t j:Nat}{cs:List Cell}{b:Nat}{sz:Nat}{xs:List ae}{v:Value}(he:E t=.box cs)(hp:tmps.getD t undef=.pointer (some ⟨b,0,none⟩))
  (hb:lf w B0 Ψ J ow false t cs b) (hj:cs[j]?=some (.own sz xs)) (hv:w.cell? ⟨b,j,none⟩=some v) :
  Rel P ans B0 w Ψ J (e9 ow (false,t,j+1) (false,an.nt,1)) an (jl E t (.box (cs.set j (.val (.slice xs))))) tmps objs/\kw w B0 Ψ (e9 ow (false,t,j+1) (false,an.nt,1)) (false,an.nt,1) sz xs v:=by
 obtain⟨b1,b2,b3,vs,T,b4,b5⟩:=hb;rw[cell_of_heap b4] at hv;obtain⟨c1,c2⟩:=b5.a2t (q:=an.nt) hj hv;have ht:t<an.nt:=h.rD (by rw[he];simp)
 have other:∀kk i,¬(kk=false/\i=t)->e_ w Ψ ow w Ψ (e9 ow (false,t,j+1) (false,an.nt,1)) kk i kk i:=λkk i h1 b' s BC =>
  ⟨by have:¬(kk=false/\i=t/\s=j+1):=λe=>h1 ⟨e.1,e.2.1⟩
      simp[e9,BC,this],rfl,λ_ h=>h⟩
 refine⟨⟨h.size,h.b_,λu=>?_,λd u o e=>?_,λu BX e=>?_,h.objs.mono Ψ.le_refl (λi _=>other true i (by simp)),λx hx=>h.lt x (oE hx),h.base,λu hu=>?_⟩,c2⟩
 ·by_cases hu:u=t
  ·subst hu;rw[eB,hp]
   exact .box _ _ ⟨by simp[e9,b1],b2,b3,vs,T,b4,c1⟩
  ·rw[bD _ _ hu];exact(h.dr u).mono Ψ.le_refl (aG _) (other false u (by simp[hu])) (λ_ _ _=>rfl)
 ·by_cases hd:d=t
  ·subst hd;simp at e
  ·rw[bD _ _ hd] at e
   obtain⟨BX,hc⟩:=h.refs d u o e;by_cases hu:u=t
   ·subst hu;exact⟨_,eB _ _ _⟩
   ·exact⟨BX,by rw[bD _ _ hu];exact hc⟩
 ·by_cases hu:u=t
  ·subst hu;exact h.boxes u cs he
  ·rw[bD _ _ hu] at e;exact h.boxes u BX e
 ·rw[bD _ _ (by omega)];exact h.hi u hu
theorem aE7{E:Nat->Slot}{objs:List ai}(h:Rel P ans B0 w Ψ J ow an E tmps objs){i j:Nat}{cs:List Cell}{b:Nat}{sz:Nat}{xs:List ae}{v:Value}(ho:objs[i]?=some (.box cs))(hρ:J[i]?=some b)
  (hb:lf w B0 Ψ (J.take (i+1)) ow true i cs b) (hj:cs[j]?=some (.own sz xs)) (hv:w.cell? ⟨b,j,none⟩=some v) :
  Rel P ans B0 w Ψ J (e9 ow (true,i,j+1) (false,an.nt,1)) an E tmps (objs.set i (.box (cs.set j (.val (.slice xs)))))/\kw w B0 Ψ (e9 ow (true,i,j+1) (false,an.nt,1)) (false,an.nt,1) sz xs v:=by
 obtain⟨b1,b2,b3,vs,T,b4,b5⟩:=hb;rw[cell_of_heap b4] at hv;obtain⟨c1,c2⟩:=b5.a2t (q:=an.nt) hj hv
 have other:∀kk i',¬(kk=true/\i'=i)->e_ w Ψ ow w Ψ (e9 ow (true,i,j+1) (false,an.nt,1)) kk i' kk i':=λkk i' h1 b' s BC =>
  ⟨by have:¬(kk=true/\i'=i/\s=j+1):=λe=>h1 ⟨e.1,e.2.1⟩
      simp[e9,BC,this],rfl,λ_ h=>h⟩
 refine⟨⟨h.size,h.b_,λu=>(h.dr u).mono Ψ.le_refl (aG _) (other false u (by simp)) (λ_ _ _=>rfl),h.refs,h.boxes,
  h.objs.set (Ab.1 ho).1 hρ (.box _ _ ⟨by simp[e9,b1],b2,b3,vs,T,b4,c1⟩) (λj' hj'=>other true j' (by simp[hj'])),λx hx=>h.lt x (oE hx),h.base,h.hi⟩,c2⟩
end
end Go.AM
