import Derived.Test.YtdkkaldimefljaaGreatDoorA01
set_option linter.all false
section
namespace Go.AM
variable {P:Program} {ans:FuncId→Ann} {an:Ann} {w:World} {B0:Nat} {Ψ:HT} {ρ:List Nat} {ow:Own} {tmps:Array Value} {R:Type} {r:R}
variable {tm:List Slot} {rs:RS} {dst:Option Nat} {m:Machine} {mk mp:Value→World→Machine} {kp:AVal→RS→Option R} {k:Slot→RS→Option R} {ds:List Deferred}
theorem VRel.csRel {x:AVal} {v:Value} (h:VRel Ψ ρ x v) (kk:Bool) (i:Nat):CsRel w B0 Ψ ρ ow kk i (x.cells.map .val) v.cells.toList:=by
 obtain ⟨h1,h2,h3⟩:=h.cells;refine ⟨by simpa using h1,fun j c u hc hu=>?_⟩;simp only[List.getElem?_map,Option.map_eq_some_iff] at hc;obtain ⟨c',hc',rfl⟩:=hc;exact .val c' u (h2 j c' hc') (h3 j c' u hc' (by simpa using hu))
theorem tP (h:Rel P ans B0 w Ψ ρ ow an (sl an tm rs) tmps rs.sto.objs) {x:Operand} (q:Nat) {k:List Cell→RS→Option R} (e:dI an.keep tm rs x k=some r) :
  ∃ cs rs' ow',k cs rs'=some r∧Rel P ans B0 w Ψ ρ ow' an (sl an tm rs') tmps rs'.sto.objs∧CsRel w B0 Ψ ρ ow' false q cs ((⟨tmps,ds⟩:Act).eval x).cells.toList∧Fr w Ψ ow w Ψ ow'∧rs'.sto=rs.sto ∧
   (∀ kk i,(∀ t,x=.tmp t→¬ (kk=false∧i=t))→Same w Ψ ow w Ψ ow' kk i kk i)∧(∀ t cs,sl an tm rs t=.box cs→sl an tm rs' t=.box cs):=by
 obtain ⟨t,hs,ht⟩:=bH (ds:=ds) h x
 have plain:∀ y:AVal,VRel Ψ ρ y ((⟨tmps,ds⟩:Act).eval x)→k (y.cells.map .val) rs=some r →
   ∃ cs rs' ow',k cs rs'=some r∧Rel P ans B0 w Ψ ρ ow' an (sl an tm rs') tmps rs'.sto.objs∧CsRel w B0 Ψ ρ ow' false q cs ((⟨tmps,ds⟩:Act).eval x).cells.toList∧Fr w Ψ ow w Ψ ow'∧rs'.sto=rs.sto ∧
   (∀ kk i,(∀ t,x=.tmp t→¬ (kk=false∧i=t))→Same w Ψ ow w Ψ ow' kk i kk i)∧(∀ t cs,sl an tm rs t=.box cs→sl an tm rs' t=.box cs):=fun y hy hk =>
  ⟨_,rs,ow,hk,h,hy.csRel false q,Fr.refl _ _ _,rfl,fun kk i _=>Same.refl _ _ _ _ _,fun _ _ h=>h⟩
 unfold dI at e
 split at e
 ·rename_i sz xs t' hop
  obtain rfl:=ht t' rfl
  split at e
  ·rw[hop] at hs;cases hs with|own _ _ _ hv=>exact plain (.slice xs) hv.val e
  ·have hop':sl an tm rs t=.own sz xs:=hop
   have hx:VRel Ψ ρ (.slice xs) (tmps.getD t undef):=by have:=h.slots t;rw[hop'] at this;cases this with|own _ _ _ hv=>exact hv.val
   obtain ⟨h1,h2⟩:=h.take t (h.lt_of (by rw[hop'];simp)) (.slice xs) hx (by rw[hop'];simp) q;refine ⟨_,_,ren ow false t false q 0,e,?_,?_,Fr.ren _ _ _,rfl,?_,?_⟩
   ·rw[show sl an tm (rs.put t (.val (.slice xs)))=upd (sl an tm rs) t (.val (.slice xs)) from dG _ _ _ _ _];exact h1
   ·rw[hop'] at h2
    have hv:(Act.eval { tmps:=tmps,defers:=ds } (Operand.tmp t))=tmps.getD t undef:=rfl;rw[hv];generalize tmps.getD t undef=v at h2;cases h2 with
    |own _ _ _ hv =>
     obtain ⟨g1,g2,a,len,cap,rfl,g4⟩:=hv;refine ⟨rfl,fun j c u hc hu=>?_⟩;cases j with
     |zero=>simp at hc;subst hc;simp [Value.cells] at hu;subst hu;exact .own _ _ _ ⟨g1,g2,a,len,cap,rfl,g4⟩
     |succ j=>simp at hc
   ·intro kk i hne;exact eS _ _ _ (fun hh=>hne t rfl hh)
   ·intro u cs hu
    have:u≠t:=fun he=>by subst he;rw[hop'] at hu;cases hu
    rw[show sl an tm (rs.put t (.val (.slice xs)))=upd (sl an tm rs) t (.val (.slice xs)) from dG _ _ _ _ _,bG _ _ this];exact hu
 ·rename_i sz v hop
  simp only[opS,gJ] at hop
  split at hop
  ·cases hop
  ·split at hop <;> cases hop
 ·rename_i cs t' hop
  obtain rfl:=ht t' rfl;have hop':sl an tm rs t=.cells cs:=hop
  have hx:VRel Ψ ρ (.agg (cs.map Cell.get)) (tmps.getD t undef):=by
   have:=h.slots t;rw[hop'] at this
   generalize tmps.getD t undef=u at this;cases this with|cells _ _ hv=>exact hv.agg
  split at e
  ·refine plain (.agg (cs.map Cell.get)) hx ?_
   simpa [AVal.cells,Function.comp_def] using e
  ·obtain ⟨h1,h2⟩:=h.take t (h.lt_of (by rw[hop'];simp)) (.agg (cs.map Cell.get)) hx (by rw[hop'];simp) q
   refine ⟨_,_,ren ow false t false q 0,e,?_,?_,Fr.ren _ _ _,rfl,?_,?_⟩
   ·rw[show sl an tm (rs.put t (.val (.agg (cs.map Cell.get))))=upd (sl an tm rs) t (.val (.agg (cs.map Cell.get))) from dG _ _ _ _ _];exact h1
   ·rw[hop'] at h2
    have hv:(Act.eval { tmps:=tmps,defers:=ds } (Operand.tmp t))=tmps.getD t undef:=rfl;rw[hv];generalize tmps.getD t undef=v at h2;cases h2 with|cells _ vs hv=>exact hv
   ·intro kk i hne;exact eS _ _ _ (fun hh=>hne t rfl hh)
   ·intro u cs' hu
    have:u≠t:=fun he=>by subst he;rw[hop'] at hu;cases hu
    rw[show sl an tm (rs.put t (.val (.agg (cs.map Cell.get))))=upd (sl an tm rs) t (.val (.agg (cs.map Cell.get))) from dG _ _ _ _ _,bG _ _ this];exact hu
 ·obtain ⟨y,hk,hy⟩:=iG hs e
  exact plain y hy hk
theorem ma (h:Rel P ans B0 w Ψ ρ ow an (sl an tm rs) tmps rs.sto.objs) {t0:TypeId} {x:Operand} (q:Nat) {k:List Cell→RS→Option R} (e:eL P t0 an.keep tm rs x k=some r) :
  ∃ cs rs' ow',k cs rs'=some r∧Rel P ans B0 w Ψ ρ ow' an (sl an tm rs') tmps rs'.sto.objs∧CsRel w B0 Ψ ρ ow' false q cs ((⟨tmps,ds⟩:Act).eval x).cells.toList∧Fr w Ψ ow w Ψ ow'∧rs'.sto=rs.sto ∧
   (∀ kk i,(∀ t,x=.tmp t→¬ (kk=false∧i=t))→Same w Ψ ow w Ψ ow' kk i kk i)∧(∀ t cs,sl an tm rs t=.box cs→sl an tm rs' t=.box cs):=by
 obtain ⟨t,hs,ht⟩:=bH (ds:=ds) h x;unfold eL at e
 split at e
 ·rename_i hop
  obtain ⟨el,_,e⟩:=aC e;obtain ⟨sz,_,e⟩:=aC e;rw[hop] at hs;generalize (⟨tmps,ds⟩:Act).eval x=v at hs;cases hs with
  |nl =>
   refine ⟨_,rs,ow,e,h,⟨rfl,fun j c u hc hu=>?_⟩,Fr.refl _ _ _,rfl,fun kk i _=>Same.refl _ _ _ _ _,fun _ _ h=>h⟩
   match j with
   |0 =>
    cases hc;cases hu;exact .own _ _ _ (wM _ _)
   |j+1=>cases hc
 ·exact tP h q e
def aCH (Ψ:HT) (ρ:List Nat) (tmps:Array Value) (E:Nat→Slot) (p:Place) (v:Value):Prop :=
 match p with
 |.loc t o=>∃ cs b,E t=.box cs∧tmps.getD t undef=.pointer (some ⟨b,0,none⟩)∧v=.pointer (some ⟨b,o,none⟩)
 |.obj i o=>∃ b,ρ[i]?=some b∧v=.pointer (some ⟨b,o,none⟩)
 |.imm x=>VRel Ψ ρ (.cptr x) v
theorem jG (h:Rel P ans B0 w Ψ ρ ow an (sl an tm rs) tmps rs.sto.objs) {x:Operand} {k:Place→Option R} (e:dH x (opS an.keep tm rs x) k=some r) :
  ∃ p,k p=some r∧aCH Ψ ρ tmps (sl an tm rs) p ((⟨tmps,ds⟩:Act).eval x):=by
 obtain ⟨t,hs,ht⟩:=bH (ds:=ds) h x;unfold dH at e
 split at e
 ·rename_i cs hop
  split at e
  ·rename_i t'
   obtain rfl:=ht t' rfl;have hop':sl an tm rs t=.box cs:=hop;refine ⟨_,e,?_⟩
   have:=h.slots t
   rw[hop'] at this;have hv:(Act.eval { tmps:=tmps,defers:=ds } (Operand.tmp t))=tmps.getD t undef:=rfl;rw[hv];generalize hg:tmps.getD t undef=v at this;cases this with|box _ b hb=>exact ⟨cs,b,hop',hg,rfl⟩
  ·cases e
 ·rename_i u o hop
  rw[hop] at hs;obtain ⟨cs,hc⟩:=pC h x u o hop;refine ⟨_,e,?_⟩;generalize (Act.eval { tmps:=tmps,defers:=ds } x)=v at hs;cases hs with|ref _ _ b hb=>exact ⟨cs,b,hc,hb,rfl⟩
 ·rename_i i o hop
  rw[hop] at hs;refine ⟨_,e,?_⟩;generalize (Act.eval { tmps:=tmps,defers:=ds } x)=v at hs;cases hs with|val _ _ hv=>cases hv with|loc _ _ b hb=>exact ⟨b,hb,rfl⟩
 ·rename_i y hop
  rw[hop] at hs;refine ⟨_,e,?_⟩;cases hs with|val _ _ hv=>exact hv
 ·cases e
def Reads (w:World) (Ψ:HT) (ρ:List Nat) (cs:List Cell) (off b o:Nat):Prop :=
 ∀ (j:Nat) (c:Cell),cs[off+j]?=some c→∃ u,w.cell? ⟨b,o+j,none⟩=some u∧c.get.isCell=true∧VRel Ψ ρ c.get u
theorem BoxRel.reads {kk:Bool} {i:Nat} {cs:List Cell} {b:Nat} (h:BoxRel w B0 Ψ ρ ow kk i cs b) (o:Nat):Reads w Ψ ρ cs o b o:=by
 obtain ⟨_,_,_,vs,T,h4,h5⟩:=h;intro j c hc;have hj:o+j < vs.length:=by rw[←h5.1];exact (List.getElem?_eq_some_iff.1 hc).1
 refine ⟨vs[o+j],by rw[cell_of_heap h4];simp [hj],?_⟩;exact (h5.2 (o+j) c vs[o+j] hc (by simp [hj])).get
theorem BoxRel.reads' {kk:Bool} {i:Nat} {cs:List Cell} {b n:Nat} (h:BoxRel w B0 Ψ (ρ.take n) ow kk i cs b) (o:Nat):Reads w Ψ ρ cs o b o:=fun j c hc=>by
 obtain ⟨u,h1,h2,h3⟩:=h.reads o j c hc;exact ⟨u,h1,h2,h3.mono Ψ.le_refl yC⟩
theorem iJ (h:Rel P ans B0 w Ψ ρ ow an (sl an tm rs) tmps rs.sto.objs) {p:Place} {v:Value} (hp:aCH Ψ ρ tmps (sl an tm rs) p v) {k:List Cell→Nat→Option R} (e:aU an.keep tm rs p k=some r) :
  ∃ cs off b o,k cs off=some r∧v=.pointer (some ⟨b,o,none⟩)∧Reads w Ψ ρ cs off b o ∧
   (∀ t o',p=.loc t o'→sl an tm rs t=.box cs∧off=o∧BoxRel w B0 Ψ ρ ow false t cs b∧tmps.getD t undef=.pointer (some ⟨b,0,none⟩)) ∧
   (∀ i o',p=.obj i o'→rs.sto.objs[i]?=some (.box cs)∧off=o∧ρ[i]?=some b∧BoxRel w B0 Ψ (ρ.take (i+1)) ow true i cs b):=by
 cases p with
 |loc t o =>
  obtain ⟨cs,b,h1,h2,h3⟩:=hp;have h1':rs.look an.keep tm t=.box cs:=h1;simp only[aU,h1',oW] at e
  have hb:BoxRel w B0 Ψ ρ ow false t cs b:=by
   have:=h.slots t;rw[h1,h2] at this
   cases this with|box _ _ hb=>exact hb
  exact ⟨cs,o,b,o,e,h3,hb.reads o,(fun t' o' he=>by cases he;exact ⟨h1,rfl,hb,h2⟩),(fun _ _ he=>by cases he)⟩
 |obj i o =>
  obtain ⟨b,h1,h2⟩:=hp;simp only[aU,jO] at e
  split at e
  ·rename_i cs ho
   obtain ⟨b',hb',hr⟩:=h.objs.2 i _ ho;obtain rfl:b=b':=by rw[h1] at hb';exact Option.some.inj hb'
   cases hr with
   |box _ _ hb=>exact ⟨cs,o,b,o,e,h2,hb.reads' o,(fun _ _ he=>by cases he),(fun i' o' he=>by cases he;exact ⟨ho,rfl,h1,hb⟩)⟩
  ·cases e
 |imm x =>
  simp only[aU] at e;simp only[aCH] at hp;cases hp with
  |cptr _ b o hb =>
   refine ⟨_,0,b,o,e,rfl,?_,(fun _ _ he=>by cases he),(fun _ _ he=>by cases he)⟩;intro j c hc;simp only[Nat.zero_add,List.getElem?_map,Option.map_eq_some_iff] at hc;obtain ⟨c',hc',rfl⟩:=hc;obtain ⟨hf,u,hu,hv⟩:=h.wsat.sat _ _ _ (hb j c' hc');exact ⟨u,hu,jW hf,hv.mono Ψ.le_refl (pre_nil _)⟩
theorem jq {cs:List Cell} {off b o s:Nat} {t:TypeId} (hr:Reads w Ψ ρ cs off b o) (h1:bC P t=some true) (h2:aZ P t=some s) {x:AVal} (hx:partOf true (cs.map Cell.get) off s=some x) :
  ∃ v,(loadVar t ⟨b,o,none⟩).run P w=.ok v w∧VRel Ψ ρ x v:=by
 simp only[partOf,if_true,List.length_map] at hx;cases hle:Nat.ble (off+s) cs.length with
 |false=>simp [hle] at hx
 |true =>
  have hle':off+s≤cs.length:=Nat.le_of_ble_eq_true hle;simp [hle] at hx;subst hx
  have hex:∀ j,j < s→∃ u,w.cell? ⟨b,o+j,none⟩=some u:=fun j hj=>by
   obtain ⟨u,hu,_⟩:=hr j (cs[off+j]'(by omega)) (by simp [show off+j < cs.length by omega]);exact ⟨u,hu⟩
  refine ⟨.agg ⟨(List.range s).map fun j=>(w.cell? ⟨b,o+j,none⟩).getD undef⟩,?_,?_⟩
  ·refine run_loadVar_agg h1 (by simpa using h2) fun j v hj=>?_
   have hjs:j < s:=by have:=(List.getElem?_eq_some_iff.1 hj).1;simpa using this
   rw[List.getElem?_map,List.getElem?_range hjs] at hj;obtain ⟨u,hu⟩:=hex j hjs;simp [hu] at hj ⊢;exact hj
  ·refine .agg _ _ (by simp;omega) ?_ ?_
   ·intro j c hc
    rw[List.getElem?_take] at hc
    split at hc
    ·rw[List.getElem?_drop,List.getElem?_map,Option.map_eq_some_iff] at hc
     obtain ⟨c',hc',rfl⟩:=hc;exact (hr j c' hc').choose_spec.2.1
    ·cases hc
   ·intro j c v hc hv
    rw[List.getElem?_take] at hc
    split at hc
    ·rename_i hjs
     rw[List.getElem?_drop,List.getElem?_map,Option.map_eq_some_iff] at hc;obtain ⟨c',hc',rfl⟩:=hc;obtain ⟨u,hu,_,hv'⟩:=hr j c' hc';rw[List.getElem?_map,List.getElem?_range hjs] at hv;simp [hu] at hv;subst hv;exact hv'
    ·cases hc
theorem im {cs:List Cell} {off b o:Nat} {t:TypeId} (hr:Reads w Ψ ρ cs off b o) (h1:bC P t=some false) {c:Cell} (hc:cs[off]?=some c) :
  ∃ v,(loadVar t ⟨b,o,none⟩).run P w=.ok v w∧VRel Ψ ρ c.get v:=by
 obtain ⟨u,hu,_,hv⟩:=hr 0 c (by simpa using hc);exact ⟨u,run_loadVar_one h1 (by simpa using hu),hv⟩
end Go.AM
end
section
namespace Go.AM
variable {P:Program} {ans:FuncId→Ann} {an:Ann} {w:World} {B0:Nat} {Ψ:HT} {ρ:List Nat} {ow:Own} {tmps:Array Value} {R:Type} {r:R}
variable {tm:List Slot} {rs:RS} {dst:Option Nat} {m:Machine} {mk mp:Value→World→Machine} {kp:AVal→RS→Option R} {k:Slot→RS→Option R} {ds:List Deferred}
theorem WSat.lt (h:WSat Ψ w) {b o:Nat} {c:AVal} (e:Ψ b o c):b < w.heap.size:=by
 obtain ⟨_,v,hv,_⟩:=h.sat b o c e;exact World.block_lt_of_cell? _ _ hv
theorem WSat.none_of_ge (h:WSat Ψ w) {b:Nat} (hb:w.heap.size≤b) (o:Nat):Ψ b o=hno:=by
 funext c;refine propext ⟨fun e=>?_,fun e=>e.elim⟩
 have:=h.lt e;omega
theorem cell_congr {w w':World} {b:Nat} (h:w'.heap[b]?=w.heap[b]?) (o:Nat):w'.cell? ⟨b,o,none⟩=w.cell? ⟨b,o,none⟩:=by
 simp [World.cell?,h]
theorem WSat.put (h:WSat Ψ w) {b:Nat} {ob:Obj} (hf:∀ o,Ψ b o=hno):WSat Ψ (w.putObj b ob):=⟨by simpa [World.putObj] using h.size8,fun b' o c e=>by
 obtain ⟨h1,v,h2,h3⟩:=h.sat b' o c e;have hne:b'≠b:=fun he=>by subst he;rw[hf] at e;exact e
 exact ⟨h1,v,(cell_congr (World.putObj_heap_other hne) o).trans h2,h3⟩⟩
theorem aP {α:Type} (l new:List α) (off j:Nat) (h:off+new.length≤l.length) :
  (overwrite l off new)[j]?=if j < off then l[j]? else if j < off+new.length then new[j - off]? else l[j]?:=by
 unfold overwrite;by_cases h1:j < off
 ·rw[if_pos h1,List.append_assoc,List.getElem?_append_left (by simp;omega),List.getElem?_take,if_pos h1]
 ·rw[if_neg h1]
  by_cases h2:j < off+new.length
  ·rw[if_pos h2,List.getElem?_append_left (by simp;omega),List.getElem?_append_right (by simp;omega)]
   simp [show min off l.length=off by omega]
  ·rw[if_neg h2,List.getElem?_append_right (by simp;omega),List.getElem?_drop]
   congr 1;simp;omega
theorem aN {α:Type} (l new:List α) (off:Nat) (h:off+new.length≤l.length):(overwrite l off new).length=l.length:=by
 unfold overwrite;simp;omega
theorem lR (cs new:List Cell) (off:Nat):setCells cs off new=overwrite cs off new:=rfl
theorem CsRel.one {kk:Bool} {i:Nat} {cs:List Cell} {vs:List Value} (h:CsRel w B0 Ψ ρ ow kk i cs vs):∀ u∈vs,oneC u=true:=by
 intro u hu;obtain ⟨j,hj⟩:=List.getElem?_of_mem hu;have hl:j < cs.length:=by rw[h.1];exact (List.getElem?_eq_some_iff.1 hj).1
 have:=(h.2 j cs[j] u (by simp [hl]) hj).get
 exact this.2.one this.1
theorem CsRel.overwrite {kk:Bool} {i q off:Nat} {cs new:List Cell} {vs nv:List Value} {b:Nat} {ob:Obj} {ρ1:List Nat} (h:CsRel w B0 Ψ ρ1 ow kk i cs vs) (hn:CsRel w B0 Ψ ρ1 ow false q new nv) (hoff:off+new.length≤cs.length)
  (hob:ow b=some (kk,i,0)) (hq:¬ (kk=false∧i=q)) :
  CsRel (w.putObj b ob) B0 Ψ ρ1 (ren ow false q kk i off) kk i (setCells cs off new) (AM.overwrite vs off nv):=by
 have hv:off+nv.length≤vs.length:=by rw[←h.1,←hn.1];exact hoff
 refine ⟨by rw[lR,aN _ _ _ hoff,aN _ _ _ hv];exact h.1,fun j c v hc hcv=>?_⟩;rw[lR,aP _ _ _ _ hoff] at hc;rw[aP _ _ _ _ hv,←hn.1] at hcv
 have old:∀ c v,cs[j]?=some c→vs[j]?=some v→CRel (w.putObj b ob) B0 Ψ ρ1 (ren ow false q kk i off) (kk,i,j+1) c v:=fun c v h1 h2 =>
  (h.2 j c v h1 h2).mono Ψ.le_refl (aG _) fun b' hb'=>by
   refine ⟨?_,World.putObj_heap_other ?_,fun _ h=>h⟩
   ·have:¬ (kk=false∧i=q):=hq
    simp [ren,hb',this]
   ·intro he;subst he;rw[hob] at hb';simp at hb'
 by_cases h1:j < off
 ·rw[if_pos h1] at hc hcv;exact old c v hc hcv
 ·rw[if_neg h1] at hc hcv
  by_cases h2:j < off+new.length
  ·rw[if_pos h2] at hc hcv
   refine (hn.2 (j - off) c v hc hcv).mono Ψ.le_refl (aG _) fun b' hb'=>⟨?_,World.putObj_heap_other ?_,fun _ h=>h⟩
   ·simp [ren,hb'];omega
   ·intro he;subst he;rw[hob] at hb'
    simp only[Option.some.injEq,Prod.mk.injEq] at hb';exact hq ⟨hb'.1,hb'.2.1⟩
  ·rw[if_neg h2] at hc hcv;exact old c v hc hcv
theorem Fr.put {b:Nat} {ob:Obj} {ow2:Own} (hb:ow b≠none) (h2:∀ x,ow2 x≠none→ow x≠none):Fr w Ψ ow (w.putObj b ob) Ψ ow2 :=
 ⟨Ψ.le_refl,by simp,fun x _ hx=>⟨World.putObj_heap_other (fun he=>by subst he;exact hb hx),fun _=>rfl⟩,fun x hx=>.inl (h2 x hx),rfl,rfl,rfl⟩
theorem xo {E:Nat→Slot} {objs:List AObj} (h:Rel P ans B0 w Ψ ρ ow an E tmps objs) {t off:Nat} {cs new:List Cell} {b:Nat} {vs nv:List Value} {T:TypeId} (he:E t=.box cs) (hp:tmps.getD t undef=.pointer (some ⟨b,0,none⟩))
  (hb:BoxRel w B0 Ψ ρ ow false t cs b) (hh:w.heap[b]?=some (.cells ⟨vs⟩ T (0,0))) (hcs:CsRel w B0 Ψ ρ ow false t cs vs) (hn:CsRel w B0 Ψ ρ ow false an.nt new nv) (hoff:off+new.length≤cs.length) :
  Rel P ans B0 (w.putObj b (.cells ⟨overwrite vs off nv⟩ T (0,0))) Ψ ρ (ren ow false an.nt false t off) an (upd E t (.box (setCells cs off new))) tmps objs:=by
 have ht:t < an.nt:=h.lt_of (by rw[he];simp);have hlt:b < w.heap.size:=(Array.getElem?_eq_some_iff.1 hh).1
 have other:∀ kk i,¬ (kk=false∧i=t)→¬ (kk=false∧i=an.nt)→Same w Ψ ow (w.putObj b (.cells ⟨overwrite vs off nv⟩ T (0,0))) Ψ (ren ow false an.nt false t off) kk i kk i:=fun kk i h1 h2 b' s hb' =>
  ⟨by simp [ren,hb',h2],World.putObj_heap_other (fun e=>by subst e;rw[hb.own] at hb';simp only[Option.some.injEq,Prod.mk.injEq] at hb';exact h1 ⟨hb'.1.symm,hb'.2.1.symm⟩),fun _ h=>h⟩
 have hown:ren ow false an.nt false t off b=some (false,t,0):=by simp [ren,hb.own];omega
 refine ⟨h.size,h.wsat.put hb.free,fun u=>?_,fun d u o e=>?_,fun u cs' e=>?_,h.objs.mono Ψ.le_refl (fun i _=>other true i (by simp) (by simp)),fun x hx=>?_,?_,fun u hu=>?_⟩
 ·by_cases hu:u=t
  ·subst hu;rw[dU,hp]
   exact .box _ _ ⟨hown,hb.base,hb.free,_,T,World.putObj_heap_same hlt,hcs.overwrite hn hoff hb.own (by simp;omega)⟩
  ·rw[bG _ _ hu]
   rcases Nat.lt_or_ge u an.nt with hlt'|hge
   ·exact (h.slots u).mono Ψ.le_refl (aG _) (other false u (by simp [hu]) (by simp;omega)) (fun _ _ _=>rfl)
   ·rw[h.hi u hge];exact .dead _
 ·by_cases hd:d=t
  ·subst hd;simp at e
  ·rw[bG _ _ hd] at e
   obtain ⟨cs',hc⟩:=h.refs d u o e;by_cases hu:u=t
   ·subst hu;exact ⟨_,dU _ _ _⟩
   ·exact ⟨cs',by rw[bG _ _ hu];exact hc⟩
 ·by_cases hu:u=t
  ·subst hu;exact h.boxes u cs he
  ·rw[bG _ _ hu] at e;exact h.boxes u cs' e
 ·rw[World.putObj_size];exact h.lt x (j5 _ hx)
 ·rw[World.putObj_size];exact h.base
 ·rw[bG _ _ (by omega)];exact h.hi u hu
theorem CRel.lok {id:Oid} {c:Cell} {v:Value} {n:Nat} (h:CRel w B0 Ψ ρ ow id c v) (hl:c.lok n=true):CRel w B0 Ψ (ρ.take n) ow id c v:=by
 cases h with
 |val c v hc h=>exact .val c v hc (h.lok hl)
 |own sz xs v h=>exact .own sz xs v h
theorem OsRel.set {objs:List AObj} {w':World} {ow':Own} (h:OsRel w B0 Ψ ρ ow ans objs) {i b:Nat} {ob:AObj} (hi:i < objs.length) (hb:ρ[i]?=some b) (hn:ORel w' B0 Ψ ρ ow' ans i ob b) (hs:∀ j,j≠i→Same w Ψ ow w' Ψ ow' true j true j) :
  OsRel w' B0 Ψ ρ ow' ans (objs.set i ob):=by
 refine ⟨by simpa using h.1,fun j o ho=>?_⟩;rw[List.getElem?_set] at ho
 split at ho
 ·rename_i hij;subst hij
  simp only[hi,if_true,Option.some.injEq] at ho;subst ho;exact ⟨b,hb,hn⟩
 ·rename_i hij
  obtain ⟨b',h1,h2⟩:=h.2 j o ho;exact ⟨b',h1,h2.mono Ψ.le_refl (aG _) (hs j (fun e=>hij e.symm))⟩
theorem xW {E:Nat→Slot} {objs:List AObj} (h:Rel P ans B0 w Ψ ρ ow an E tmps objs) {i off:Nat} {cs new:List Cell} {b:Nat} {vs nv:List Value} {T:TypeId} (ho:objs[i]?=some (.box cs)) (hρ:ρ[i]?=some b)
  (hb:BoxRel w B0 Ψ (ρ.take (i+1)) ow true i cs b) (hh:w.heap[b]?=some (.cells ⟨vs⟩ T (0,0))) (hcs:CsRel w B0 Ψ (ρ.take (i+1)) ow true i cs vs) (hn:CsRel w B0 Ψ ρ ow false an.nt new nv) (hoff:off+new.length≤cs.length)
  (hl:(setCells cs off new).all (Cell.lok (i+1))=true) :
  Rel P ans B0 (w.putObj b (.cells ⟨overwrite vs off nv⟩ T (0,0))) Ψ ρ (ren ow false an.nt true i off) an E tmps (objs.set i (.box (setCells cs off new))):=by
 have hlt:b < w.heap.size:=(Array.getElem?_eq_some_iff.1 hh).1
 have other:∀ kk j,¬ (kk=true∧j=i)→¬ (kk=false∧j=an.nt)→Same w Ψ ow (w.putObj b (.cells ⟨overwrite vs off nv⟩ T (0,0))) Ψ (ren ow false an.nt true i off) kk j kk j:=fun kk j h1 h2 b' s hb' =>
  ⟨by simp [ren,hb',h2],World.putObj_heap_other (fun e=>by subst e;rw[hb.own] at hb';simp only[Option.some.injEq,Prod.mk.injEq] at hb';exact h1 ⟨hb'.1.symm,hb'.2.1.symm⟩),fun _ h=>h⟩
 have hown:ren ow false an.nt true i off b=some (true,i,0):=by simp [ren,hb.own]
 have hn':CsRel w B0 Ψ (ρ.take (i+1)) ow false an.nt new nv:=⟨hn.1,fun j c v hc hv=>(hn.2 j c v hc hv).lok (List.all_eq_true.1 hl c (by
  rw[lR];unfold AM.overwrite;exact List.mem_append_left _ (List.mem_append_right _ (List.mem_of_getElem? hc))))⟩
 refine ⟨h.size,h.wsat.put hb.free,fun u=>?_,h.refs,h.boxes,?_,fun x hx=>?_,?_,h.hi⟩
 ·rcases Nat.lt_or_ge u an.nt with hlt'|hge
  ·exact (h.slots u).mono Ψ.le_refl (aG _) (other false u (by simp) (by simp;omega)) (fun _ _ _=>rfl)
  ·rw[h.hi u hge];exact .dead _
 ·refine h.objs.set (List.getElem?_eq_some_iff.1 ho).1 hρ (.box _ _ ⟨hown,hb.base,hb.free,_,T,World.putObj_heap_same hlt,hcs.overwrite hn' hoff hb.own (by simp)⟩) fun j hj=>other true j (by simp [hj]) (by simp)
 ·rw[World.putObj_size];exact h.lt x (j5 _ hx)
 ·rw[World.putObj_size];exact h.base
def dZ (ow:Own) (id id':Oid):Own:=fun b=>if ow b=some id then some id' else ow b
theorem j6 {id id':Oid} {b:Nat} (h:dZ ow id id' b≠none):ow b≠none:=by
 intro e;simp [dZ,e] at h
theorem CsRel.takeOne {kk:Bool} {i j q:Nat} {cs:List Cell} {vs:List Value} {sz:Nat} {xs:List AVal} {v:Value} {ρ1:List Nat} (h:CsRel w B0 Ψ ρ1 ow kk i cs vs) (hj:cs[j]?=some (.own sz xs)) (hv:vs[j]?=some v) :
  CsRel w B0 Ψ ρ1 (dZ ow (kk,i,j+1) (false,q,1)) kk i (cs.set j (.val (.slice xs))) vs∧OwnRel w B0 Ψ (dZ ow (kk,i,j+1) (false,q,1)) (false,q,1) sz xs v:=by
 have ho:OwnRel w B0 Ψ ow (kk,i,j+1) sz xs v:=by have:=h.2 j _ v hj hv;cases this with|own _ _ _ h=>exact h
 refine ⟨⟨by simpa using h.1,fun j' c u hc hu=>?_⟩,ho.mono Ψ.le_refl fun b hb=>⟨by simp [dZ,hb],rfl,fun _ h=>h⟩⟩;rw[List.getElem?_set] at hc
 split at hc
 ·rename_i hjj;subst hjj
  split at hc
  ·simp only[Option.some.injEq] at hc;subst hc
   obtain rfl:v=u:=by rw[hv] at hu;exact Option.some.inj hu
   exact .val _ _ rfl ho.val
  ·cases hc
 ·rename_i hjj
  refine (h.2 j' c u hc hu).mono Ψ.le_refl (aG _) fun b hb=>⟨?_,rfl,fun _ h=>h⟩
  have:¬ j'=j:=fun e=>hjj e.symm
  simp [dZ,hb,this]
theorem aBJ {E:Nat→Slot} {objs:List AObj} (h:Rel P ans B0 w Ψ ρ ow an E tmps objs) {t j:Nat} {cs:List Cell} {b:Nat} {sz:Nat} {xs:List AVal} {v:Value} (he:E t=.box cs) (hp:tmps.getD t undef=.pointer (some ⟨b,0,none⟩))
  (hb:BoxRel w B0 Ψ ρ ow false t cs b) (hj:cs[j]?=some (.own sz xs)) (hv:w.cell? ⟨b,j,none⟩=some v) :
  Rel P ans B0 w Ψ ρ (dZ ow (false,t,j+1) (false,an.nt,1)) an (upd E t (.box (cs.set j (.val (.slice xs))))) tmps objs∧OwnRel w B0 Ψ (dZ ow (false,t,j+1) (false,an.nt,1)) (false,an.nt,1) sz xs v:=by
 obtain ⟨b1,b2,b3,vs,T,b4,b5⟩:=hb;rw[cell_of_heap b4] at hv;obtain ⟨c1,c2⟩:=b5.takeOne (q:=an.nt) hj hv;have ht:t < an.nt:=h.lt_of (by rw[he];simp)
 have other:∀ kk i,¬ (kk=false∧i=t)→Same w Ψ ow w Ψ (dZ ow (false,t,j+1) (false,an.nt,1)) kk i kk i:=fun kk i h1 b' s hb' =>
  ⟨by have:¬ (kk=false∧i=t∧s=j+1):=fun e=>h1 ⟨e.1,e.2.1⟩
      simp [dZ,hb',this],rfl,fun _ h=>h⟩
 refine ⟨⟨h.size,h.wsat,fun u=>?_,fun d u o e=>?_,fun u cs' e=>?_,h.objs.mono Ψ.le_refl (fun i _=>other true i (by simp)),fun x hx=>h.lt x (j6 hx),h.base,fun u hu=>?_⟩,c2⟩
 ·by_cases hu:u=t
  ·subst hu;rw[dU,hp]
   exact .box _ _ ⟨by simp [dZ,b1],b2,b3,vs,T,b4,c1⟩
  ·rw[bG _ _ hu];exact (h.slots u).mono Ψ.le_refl (aG _) (other false u (by simp [hu])) (fun _ _ _=>rfl)
 ·by_cases hd:d=t
  ·subst hd;simp at e
  ·rw[bG _ _ hd] at e
   obtain ⟨cs',hc⟩:=h.refs d u o e;by_cases hu:u=t
   ·subst hu;exact ⟨_,dU _ _ _⟩
   ·exact ⟨cs',by rw[bG _ _ hu];exact hc⟩
 ·by_cases hu:u=t
  ·subst hu;exact h.boxes u cs he
  ·rw[bG _ _ hu] at e;exact h.boxes u cs' e
 ·rw[bG _ _ (by omega)];exact h.hi u hu
theorem ik {E:Nat→Slot} {objs:List AObj} (h:Rel P ans B0 w Ψ ρ ow an E tmps objs) {i j:Nat} {cs:List Cell} {b:Nat} {sz:Nat} {xs:List AVal} {v:Value} (ho:objs[i]?=some (.box cs)) (hρ:ρ[i]?=some b)
  (hb:BoxRel w B0 Ψ (ρ.take (i+1)) ow true i cs b) (hj:cs[j]?=some (.own sz xs)) (hv:w.cell? ⟨b,j,none⟩=some v) :
  Rel P ans B0 w Ψ ρ (dZ ow (true,i,j+1) (false,an.nt,1)) an E tmps (objs.set i (.box (cs.set j (.val (.slice xs)))))∧OwnRel w B0 Ψ (dZ ow (true,i,j+1) (false,an.nt,1)) (false,an.nt,1) sz xs v:=by
 obtain ⟨b1,b2,b3,vs,T,b4,b5⟩:=hb;rw[cell_of_heap b4] at hv;obtain ⟨c1,c2⟩:=b5.takeOne (q:=an.nt) hj hv
 have other:∀ kk i',¬ (kk=true∧i'=i)→Same w Ψ ow w Ψ (dZ ow (true,i,j+1) (false,an.nt,1)) kk i' kk i':=fun kk i' h1 b' s hb' =>
  ⟨by have:¬ (kk=true∧i'=i∧s=j+1):=fun e=>h1 ⟨e.1,e.2.1⟩
      simp [dZ,hb',this],rfl,fun _ h=>h⟩
 refine ⟨⟨h.size,h.wsat,fun u=>(h.slots u).mono Ψ.le_refl (aG _) (other false u (by simp)) (fun _ _ _=>rfl),h.refs,h.boxes,
  h.objs.set (List.getElem?_eq_some_iff.1 ho).1 hρ (.box _ _ ⟨by simp [dZ,b1],b2,b3,vs,T,b4,c1⟩) (fun j' hj'=>other true j' (by simp [hj'])),fun x hx=>h.lt x (j6 hx),h.base,h.hi⟩,c2⟩
end Go.AM
end
section
namespace Go.AM
variable {P:Program} {ans:FuncId→Ann} {an:Ann} {w:World} {B0:Nat} {Ψ:HT} {ρ:List Nat} {ow:Own} {tmps:Array Value} {R:Type} {r:R}
variable {tm:List Slot} {rs:RS} {dst:Option Nat} {m:Machine} {mk mp:Value→World→Machine} {kp:AVal→RS→Option R} {k:Slot→RS→Option R} {ds:List Deferred}
def dJ (Ψ:HT) (n:Nat) (τ:Nat→Option AVal):HT:=fun b o=>if b=n then (fun c=>τ o=some c) else Ψ b o
def oset (ow:Own) (n:Nat) (id:Option Oid):Own:=fun b=>if b=n then id else ow b
theorem oQ (h:WSat Ψ w) (τ:Nat→Option AVal):Ψ.le (dJ Ψ w.heap.size τ):=fun b o c e=>by
 have:=h.lt e
 simp [dJ,show ¬ b=w.heap.size by omega,e]
theorem mZ (h:WSat Ψ w):dJ Ψ w.heap.size (fun _=>none)=Ψ:=by
 funext b o;unfold dJ;split
 ·subst_vars
  rw[h.none_of_ge (Nat.le_refl _) o];funext c;exact propext ⟨fun e=>(by cases e),fun e=>(e:False).elim⟩
 ·rfl
theorem kT {o:Obj} {τ:Nat→Option AVal} {id:Option Oid} (hlt:∀ b,ow b≠none→b < w.heap.size) (kk:Bool) (i:Nat) :
  Same w Ψ ow (w.alloc o) (dJ Ψ w.heap.size τ) (oset ow w.heap.size id) kk i kk i:=fun b s hb=>by
 have h1:=hlt b (by simp [hb]);have h2:¬ b=w.heap.size:=by omega
 exact ⟨by simp [oset,h2,hb],heap_alloc_old _ h1,fun o h=>by simp [dJ,h2,h]⟩
theorem Fr.alloc {o:Obj} {τ:Nat→Option AVal} {id:Option Oid} (hw:WSat Ψ w):Fr w Ψ ow (w.alloc o) (dJ Ψ w.heap.size τ) (oset ow w.heap.size id) :=
 ⟨oQ hw τ,by simp,fun b hb _=>⟨heap_alloc_old _ hb,fun o=>by simp [dJ,show ¬ b=w.heap.size by omega]⟩,fun b hb=>by
  by_cases h:b=w.heap.size
  ·exact .inr (by omega)
  ·exact .inl (by simpa [oset,h] using hb),rfl,rfl,rfl⟩
theorem WSat.alloc {o:Obj} {τ:Nat→Option AVal} (hw:WSat Ψ w) (hτ:∀ off c,τ off=some c→flat c=true∧∃ v,(w.alloc o).cell? ⟨w.heap.size,off,none⟩=some v∧VRel Ψ [] c v) :
  WSat (dJ Ψ w.heap.size τ) (w.alloc o):=⟨by have:=hw.size8;simp;omega,fun b off c e=>by
 by_cases h:b=w.heap.size
 ·subst h
  obtain ⟨h1,v,h2,h3⟩:=hτ off c (by simpa [dJ] using e);exact ⟨h1,v,h2,h3.mono (oQ hw τ) (aG _)⟩
 ·have e':Ψ b off c:=by simpa [dJ,h] using e
  obtain ⟨h1,v,h2,h3⟩:=hw.sat b off c e';exact ⟨h1,v,(cell_congr (heap_alloc_old _ (hw.lt e')) off).trans h2,h3.mono (oQ hw τ) (aG _)⟩⟩
theorem Rel.alloc {E:Nat→Slot} {objs:List AObj} (h:Rel P ans B0 w Ψ ρ ow an E tmps objs) {o:Obj} {τ:Nat→Option AVal} {id:Option Oid}
  (hτ:∀ off c,τ off=some c→flat c=true∧∃ v,(w.alloc o).cell? ⟨w.heap.size,off,none⟩=some v∧VRel Ψ [] c v) :
  Rel P ans B0 (w.alloc o) (dJ Ψ w.heap.size τ) ρ (oset ow w.heap.size id) an E tmps objs :=
 ⟨h.size,h.wsat.alloc hτ,fun t=>(h.slots t).mono (oQ h.wsat τ) (aG _) (kT h.lt false t) (fun _ _ _=>rfl),h.refs,h.boxes,h.objs.mono (oQ h.wsat τ) (fun i _=>kT h.lt true i),fun b hb=>by
  by_cases e:b=w.heap.size
  ·simp;omega
  ·have:=h.lt b (by simpa [oset,e] using hb);simp;omega,by have:=h.base;simp;omega,h.hi⟩
theorem Rel.heap {E:Nat→Slot} {objs:List AObj} (h:Rel P ans B0 w Ψ ρ ow an E tmps objs) {w1:World} (e:w1.heap=w.heap):Rel P ans B0 w1 Ψ ρ ow an E tmps objs:=by
 have hs:∀ kk i,Same w Ψ ow w1 Ψ ow kk i kk i:=fun kk i b s hb=>⟨hb,by rw[e],fun _ h=>h⟩
 exact ⟨h.size,⟨by rw[e];exact h.wsat.size8,fun b o c hc=>by
  obtain ⟨h1,v,h2,h3⟩:=h.wsat.sat b o c hc;exact ⟨h1,v,(cell_congr (by rw[e]) o).trans h2,h3⟩⟩,fun t=>(h.slots t).mono Ψ.le_refl (aG _) (hs false t) (fun _ _ _=>rfl),h.refs,h.boxes,h.objs.mono Ψ.le_refl (fun i _=>hs true i),fun b hb=>by rw[e];exact h.lt b hb,by rw[e];exact h.base,h.hi⟩
theorem Fr.heap {w1:World} (e:w1.heap=w.heap) (h1:w1.os=w.os) (h2:w1.tape=w.tape) (h3:w1.output=w.output):Fr w Ψ ow w1 Ψ ow :=
 ⟨Ψ.le_refl,by rw[e];exact Nat.le_refl _,fun b _ _=>⟨by rw[e],fun _=>rfl⟩,fun _ h=>.inl h,h1,h2,h3⟩
theorem o8 (kk:Bool) (i:Nat):∀ (hs:List (Option Nat)) (xs:List AVal) (vs:List Value) (j0:Nat),xs.length=vs.length→(∀ (j:Nat) x v,xs[j]?=some x→vs[j]?=some v→iY v=some x) →
  (eO hs xs).length=vs.length∧∀ (j:Nat) c v,(eO hs xs)[j]?=some c→vs[j]?=some v→CRel w B0 Ψ ρ ow (kk,i,j0+j+1) c v
 |[],xs,vs,j0,hl,h=>by
  refine ⟨by simpa [eO] using hl,fun j c v hc hv=>?_⟩;simp only[eO,List.getElem?_map,Option.map_eq_some_iff] at hc;obtain ⟨x,hx,rfl⟩:=hc;obtain ⟨h1,h2⟩:=fZ (Ψ:=Ψ) (ρ:=ρ) (h j x v hx hv);exact .val _ _ h1 h2
 |h::hs,[],vs,j0,hl,_=>by
  refine ⟨by simpa [eO] using hl,fun j c v hc hv=>by simp [eO] at hc⟩
 |h::hs,x::xs,[],j0,hl,_=>by simp at hl
 |h::hs,x::xs,v::vs,j0,hl,hh=>by
  obtain ⟨h1,h2⟩:=o8 kk i hs xs vs (j0+1) (by simpa using hl) (fun j y u hy hu=>hh (j+1) y u (by simpa using hy) (by simpa using hu));refine ⟨by simp [eO,h1],fun j c u hc hu=>?_⟩;cases j with
  |zero =>
   simp [eO] at hc hu;subst hu hc;have ha:=hh 0 x v (by simp) (by simp);obtain ⟨g1,g2⟩:=fZ (Ψ:=Ψ) (ρ:=ρ) ha;unfold aCr;split
   ·have hv:v=.slice none 0 0:=by
     unfold iY at ha
     split at ha <;> simp at ha <;> rfl
    subst hv;exact .own _ _ _ (wM _ _)
   ·exact .val _ _ g1 g2
  |succ j =>
   simp [eO] at hc hu
   have:=h2 j c u hc hu
   rwa [show j0+1+j+1=j0+(j+1)+1 by omega] at this
theorem nO {t:TypeId} {z:List Cell} (h:zeroCells P t=some z) (kk:Bool) (i:Nat):∃ v,(P.info? t).bind (·.zero)=some v∧CsRel w B0 Ψ ρ ow kk i z v.cells.toList:=by
 simp only[zeroCells,zeroOf,Option.map_eq_some_iff,Option.bind_eq_some_iff] at h;obtain ⟨x,⟨v,⟨a,ha,hv⟩,hx⟩,rfl⟩:=h;refine ⟨v,by rw[ha];exact hv,?_⟩
 have key:x.cells.length=v.cells.toList.length∧∀ (j:Nat) y u,x.cells[j]?=some y→v.cells.toList[j]?=some u→iY u=some y:=by
  cases v with
  |agg cs =>
   simp only[gH,Option.map_eq_some_iff] at hx;obtain ⟨l,hl,rfl⟩:=hx;obtain ⟨h1,h2⟩:=qM hl;exact ⟨by simpa [AVal.cells,Value.cells] using h1,fun j y u hy hu=>h2 j y u hy (by simpa [Value.cells] using hu)⟩
  |_ =>
   have hc:=fZ (Ψ:=fun _ _=>hno) (ρ:=[]) (show iY _=some x by simpa only [gH] using hx);rw[fK hc.1];refine ⟨by simp [Value.cells],fun j y u hy hu=>?_⟩;cases j with
   |zero=>simp [Value.cells] at hy hu;subst hy;subst hu;simpa only [gH] using hx
   |succ j=>simp at hy
 obtain ⟨h1,h2⟩:=o8 (w:=w) (B0:=B0) (Ψ:=Ψ) (ρ:=ρ) (ow:=ow) kk i (hints P 8 t) x.cells v.cells.toList 0 key.1 key.2;exact ⟨h1,fun j c u hc hu=>by have:=h2 j c u hc hu;rwa [Nat.zero_add] at this⟩
theorem aHB (h:Rel P ans B0 w Ψ ρ ow an (sl an tm rs) tmps rs.sto.objs) {z:List Cell} {vs:List Value} {T:TypeId} (hz:CsRel w B0 Ψ ρ ow false an.nt z vs) :
  Rel P ans B0 (w.alloc (.cells ⟨vs⟩ T)) Ψ ρ (oset ow w.heap.size (some (false,an.nt,0))) an (sl an tm rs) tmps rs.sto.objs ∧
  SRel (w.alloc (.cells ⟨vs⟩ T)) B0 Ψ ρ (oset ow w.heap.size (some (false,an.nt,0))) tmps an.nt (.box z) (.pointer (some ⟨w.heap.size,0,none⟩)) ∧
  Fr w Ψ ow (w.alloc (.cells ⟨vs⟩ T)) Ψ (oset ow w.heap.size (some (false,an.nt,0))):=by
 have e:=mZ h.wsat;have h1:=h.alloc (o:=.cells ⟨vs⟩ T) (τ:=fun _=>none) (id:=some (false,an.nt,0)) (fun off c hc=>by cases hc);have h2:=Fr.alloc (ow:=ow) (o:=.cells ⟨vs⟩ T) (τ:=fun _=>none) (id:=some (false,an.nt,0)) h.wsat;have h3:=kT (Ψ:=Ψ) (o:=.cells ⟨vs⟩ T) (τ:=fun _=>none) (id:=some (false,an.nt,0)) h.lt false an.nt;rw[e] at h1 h2 h3;refine ⟨h1,.box _ _ ⟨by simp [oset],h.base,h.wsat.none_of_ge (Nat.le_refl _),vs,T,heap_alloc_new _,hz.mono Ψ.le_refl (aG _) h3⟩,h2⟩
theorem OsRel.push {w':World} {Ψ':HT} {ow':Own} {objs:List AObj} {b:Nat} {ob:AObj} (h:OsRel w B0 Ψ ρ ow ans objs) (hΨ:Ψ.le Ψ') (hs:∀ i,i < objs.length→Same w Ψ ow w' Ψ' ow' true i true i)
  (hn:ORel w' B0 Ψ' (ρ++[b]) ow' ans objs.length ob b):OsRel w' B0 Ψ' (ρ++[b]) ow' ans (objs++[ob]):=by
 refine ⟨by simp [h.1],fun i o ho=>?_⟩;rw[List.getElem?_append] at ho
 split at ho
 ·rename_i hi
  obtain ⟨b',h1,h2⟩:=h.2 i o ho;refine ⟨b',dP _ _ _ _ h1,h2.mono hΨ ?_ (hs i hi)⟩;rw[List.take_append_of_le_length (by rw[h.1];omega)];exact aG _
 ·rename_i hi
  have:i=objs.length:=by
   have:=(List.getElem?_eq_some_iff.1 ho).1;simp at this;omega
  subst this;simp at ho;subst ho;exact ⟨b,by rw[List.getElem?_append_right (by rw[h.1];exact Nat.le_refl _)];simp [h.1],hn⟩
theorem qO {E:Nat→Slot} {objs:List AObj} (h:Rel P ans B0 w Ψ ρ ow an E tmps objs) {ob:AObj} {o:Obj} (ow1:Own) (h1:∀ b,ow1 b≠none→ow b≠none) (hs1:∀ kk i,¬ (kk=false∧i=an.nt)→Same w Ψ ow w Ψ ow1 kk i kk i)
  (hn:ORel (w.alloc o) B0 Ψ (ρ++[w.heap.size]) (oset ow1 w.heap.size (some (true,objs.length,0))) ans objs.length ob w.heap.size) :
  Rel P ans B0 (w.alloc o) Ψ (ρ++[w.heap.size]) (oset ow1 w.heap.size (some (true,objs.length,0))) an E tmps (objs++[ob]) ∧
  Fr w Ψ ow (w.alloc o) Ψ (oset ow1 w.heap.size (some (true,objs.length,0))):=by
 have e:=mZ h.wsat;have hlt1:∀ b,ow1 b≠none→b < w.heap.size:=fun b hb=>h.lt b (h1 b hb)
 have hsame:∀ kk i,¬ (kk=false∧i=an.nt)→Same w Ψ ow (w.alloc o) Ψ (oset ow1 w.heap.size (some (true,objs.length,0))) kk i kk i:=fun kk i hk b s hb=>by
  obtain ⟨g1,_,_⟩:=hs1 kk i hk b s hb;have h2:=kT (Ψ:=Ψ) (ow:=ow1) (o:=o) (τ:=fun _=>none) (id:=some (true,objs.length,0)) hlt1 kk i b s g1;rw[e] at h2;exact h2
 have hw:=h.wsat.alloc (o:=o) (τ:=fun _=>none) (fun off c hc=>by cases hc);rw[e] at hw;have hf:=Fr.alloc (ow:=ow1) (o:=o) (τ:=fun _=>none) (id:=some (true,objs.length,0)) h.wsat;rw[e] at hf;refine ⟨⟨h.size,hw,fun t=>?_,h.refs,h.boxes,h.objs.push Ψ.le_refl (fun i _=>hsame true i (by simp)) hn,fun b hb=>?_,by have:=h.base;simp;omega,h.hi⟩,⟨hf.le,hf.size,fun b hb ho=>hf.keep b hb ?_,fun b hb=>?_,hf.os,hf.tape,hf.output⟩⟩
 ·rcases Nat.lt_or_ge t an.nt with h2|h2
  ·exact (h.slots t).mono Ψ.le_refl (dP _ _) (hsame false t (by simp;omega)) (fun _ _ _=>rfl)
  ·rw[h.hi t h2];exact .dead _
 ·by_cases hbe:b=w.heap.size
  ·simp;omega
  ·have:=hlt1 b (by simpa [oset,hbe] using hb);simp;omega
 ·cases e1:ow1 b with
  |none=>rfl
  |some x=>exact absurd ho (h1 b (by simp [e1]))
 ·rcases hf.own b hb with h3|h3
  ·exact .inl (h1 b h3)
  ·exact .inr h3
end Go.AM
end
