/- Part A02 of the proof of one law of the program. -/
import Derived.Test.YtkmnkiekmlcfdaaGreatDoorA01
import Derived.Laws.Tables
set_option linter.all false
section
namespace Go.AM
variable {P:Program} {ans:FuncId→Ann} {an:Ann} {w:World} {B0:Nat} {Ψ:HT} {ρ:List Nat} {ow:Own} {tmps:Array Value} {R:Type} {r:R}
variable {tm:List Slot} {rs:RS} {dst:Option Nat} {m:Machine} {mk mp:Value→World→Machine} {kp:AVal→RS→Option R} {k:Slot→RS→Option R} {ds:List Deferred}
theorem VRel.csRel {x:AVal} {v:Value} (h:VRel Ψ ρ x v) (kk:Bool) (i:Nat):CsRel w B0 Ψ ρ ow kk i (x.cells.map .val) v.cells.toList:=by
 obtain ⟨h1,h2,h3⟩:=h.cells;refine ⟨by simpa using h1,fun j c u hc hu=>?_⟩;simp only[List.getElem?_map,Option.map_eq_some_iff] at hc;obtain ⟨c',hc',rfl⟩:=hc;exact .val c' u (h2 j c' hc') (h3 j c' u hc' (by simpa using hu))
theorem asCells_ok (h:Rel P ans B0 w Ψ ρ ow an (sl an tm rs) tmps rs.sto.objs) {x:Operand} (q:Nat) {k:List Cell→RS→Option R} (e:asCells an.keep tm rs x k=some r) :
  ∃ cs rs' ow',k cs rs'=some r∧Rel P ans B0 w Ψ ρ ow' an (sl an tm rs') tmps rs'.sto.objs∧CsRel w B0 Ψ ρ ow' false q cs ((⟨tmps,ds⟩:Act).eval x).cells.toList∧Fr w Ψ ow w Ψ ow'∧rs'.sto=rs.sto ∧
   (∀ kk i,(∀ t,x=.tmp t→¬ (kk=false∧i=t))→Same w Ψ ow w Ψ ow' kk i kk i)∧(∀ t cs,sl an tm rs t=.box cs→sl an tm rs' t=.box cs):=by
 obtain ⟨t,hs,ht⟩:=opS_rel (ds:=ds) h x
 have plain:∀ y:AVal,VRel Ψ ρ y ((⟨tmps,ds⟩:Act).eval x)→k (y.cells.map .val) rs=some r →
   ∃ cs rs' ow',k cs rs'=some r∧Rel P ans B0 w Ψ ρ ow' an (sl an tm rs') tmps rs'.sto.objs∧CsRel w B0 Ψ ρ ow' false q cs ((⟨tmps,ds⟩:Act).eval x).cells.toList∧Fr w Ψ ow w Ψ ow'∧rs'.sto=rs.sto ∧
   (∀ kk i,(∀ t,x=.tmp t→¬ (kk=false∧i=t))→Same w Ψ ow w Ψ ow' kk i kk i)∧(∀ t cs,sl an tm rs t=.box cs→sl an tm rs' t=.box cs):=fun y hy hk =>
  ⟨_,rs,ow,hk,h,hy.csRel false q,Fr.refl _ _ _,rfl,fun kk i _=>Same.refl _ _ _ _ _,fun _ _ h=>h⟩
 unfold asCells at e
 split at e
 ·rename_i sz xs t' hop
  obtain rfl:=ht t' rfl
  split at e
  ·rw[hop] at hs;cases hs with|own _ _ _ hv=>exact plain (.slice xs) hv.val e
  ·have hop':sl an tm rs t=.own sz xs:=hop
   have hx:VRel Ψ ρ (.slice xs) (tmps.getD t undef):=by have:=h.slots t;rw[hop'] at this;cases this with|own _ _ _ hv=>exact hv.val
   obtain ⟨h1,h2⟩:=h.take t (h.lt_of (by rw[hop'];simp)) (.slice xs) hx (by rw[hop'];simp) q;refine ⟨_,_,ren ow false t false q 0,e,?_,?_,Fr.ren _ _ _,rfl,?_,?_⟩
   ·rw[show sl an tm (rs.put t (.val (.slice xs)))=upd (sl an tm rs) t (.val (.slice xs)) from look_put _ _ _ _ _];exact h1
   ·rw[hop'] at h2
    have hv:(Act.eval { tmps:=tmps,defers:=ds } (Operand.tmp t))=tmps.getD t undef:=rfl;rw[hv];generalize tmps.getD t undef=v at h2;cases h2 with
    |own _ _ _ hv =>
     obtain ⟨g1,g2,a,len,cap,rfl,g4⟩:=hv;refine ⟨rfl,fun j c u hc hu=>?_⟩;cases j with
     |zero=>simp at hc;subst hc;simp [Value.cells] at hu;subst hu;exact .own _ _ _ ⟨g1,g2,a,len,cap,rfl,g4⟩
     |succ j=>simp at hc
   ·intro kk i hne;exact ren_other _ _ _ (fun hh=>hne t rfl hh)
   ·intro u cs hu
    have:u≠t:=fun he=>by subst he;rw[hop'] at hu;cases hu
    rw[show sl an tm (rs.put t (.val (.slice xs)))=upd (sl an tm rs) t (.val (.slice xs)) from look_put _ _ _ _ _,upd_other _ _ this];exact hu
 ·rename_i sz v hop
  simp only[opS,constS] at hop
  split at hop
  ·cases hop
  ·split at hop <;> cases hop
 ·rename_i cs t' hop
  obtain rfl:=ht t' rfl;have hop':sl an tm rs t=.cells cs:=hop
  have hx:VRel Ψ ρ (.agg (cs.map Cell.get)) (tmps.getD t undef):=by
   have:=h.slots t;rw[hop'] at this
   generalize tmps.getD t undef=u at this;cases this with|cells _ _ hv=>exact hv.agg
  split at e
  ·refine plain (.agg (cs.map Cell.get)) hx ?_
   simpa [AVal.cells,Function.comp_def] using e
  ·obtain ⟨h1,h2⟩:=h.take t (h.lt_of (by rw[hop'];simp)) (.agg (cs.map Cell.get)) hx (by rw[hop'];simp) q
   refine ⟨_,_,ren ow false t false q 0,e,?_,?_,Fr.ren _ _ _,rfl,?_,?_⟩
   ·rw[show sl an tm (rs.put t (.val (.agg (cs.map Cell.get))))=upd (sl an tm rs) t (.val (.agg (cs.map Cell.get))) from look_put _ _ _ _ _];exact h1
   ·rw[hop'] at h2
    have hv:(Act.eval { tmps:=tmps,defers:=ds } (Operand.tmp t))=tmps.getD t undef:=rfl;rw[hv];generalize tmps.getD t undef=v at h2;cases h2 with|cells _ vs hv=>exact hv
   ·intro kk i hne;exact ren_other _ _ _ (fun hh=>hne t rfl hh)
   ·intro u cs' hu
    have:u≠t:=fun he=>by subst he;rw[hop'] at hu;cases hu
    rw[show sl an tm (rs.put t (.val (.agg (cs.map Cell.get))))=upd (sl an tm rs) t (.val (.agg (cs.map Cell.get))) from look_put _ _ _ _ _,upd_other _ _ this];exact hu
 ·obtain ⟨y,hk,hy⟩:=asV_ok hs e
  exact plain y hy hk
theorem boxCells_ok (h:Rel P ans B0 w Ψ ρ ow an (sl an tm rs) tmps rs.sto.objs) {t0:TypeId} {x:Operand} (q:Nat) {k:List Cell→RS→Option R} (e:boxCells P t0 an.keep tm rs x k=some r) :
  ∃ cs rs' ow',k cs rs'=some r∧Rel P ans B0 w Ψ ρ ow' an (sl an tm rs') tmps rs'.sto.objs∧CsRel w B0 Ψ ρ ow' false q cs ((⟨tmps,ds⟩:Act).eval x).cells.toList∧Fr w Ψ ow w Ψ ow'∧rs'.sto=rs.sto ∧
   (∀ kk i,(∀ t,x=.tmp t→¬ (kk=false∧i=t))→Same w Ψ ow w Ψ ow' kk i kk i)∧(∀ t cs,sl an tm rs t=.box cs→sl an tm rs' t=.box cs):=by
 obtain ⟨t,hs,ht⟩:=opS_rel (ds:=ds) h x;unfold boxCells at e
 split at e
 ·rename_i hop
  obtain ⟨el,_,e⟩:=bind_ok e;obtain ⟨sz,_,e⟩:=bind_ok e;rw[hop] at hs;generalize (⟨tmps,ds⟩:Act).eval x=v at hs;cases hs with
  |nl =>
   refine ⟨_,rs,ow,e,h,⟨rfl,fun j c u hc hu=>?_⟩,Fr.refl _ _ _,rfl,fun kk i _=>Same.refl _ _ _ _ _,fun _ _ h=>h⟩
   match j with
   |0 =>
    cases hc;cases hu;exact .own _ _ _ (ownNil _ _)
   |j+1=>cases hc
 ·exact asCells_ok h q e
def PRel (Ψ:HT) (ρ:List Nat) (tmps:Array Value) (E:Nat→Slot) (p:Place) (v:Value):Prop :=
 match p with
 |.loc t o=>∃ cs b,E t=.box cs∧tmps.getD t undef=.pointer (some ⟨b,0,none⟩)∧v=.pointer (some ⟨b,o,none⟩)
 |.obj i o=>∃ b,ρ[i]?=some b∧v=.pointer (some ⟨b,o,none⟩)
 |.imm x=>VRel Ψ ρ (.cptr x) v
theorem asPlace_ok (h:Rel P ans B0 w Ψ ρ ow an (sl an tm rs) tmps rs.sto.objs) {x:Operand} {k:Place→Option R} (e:asPlace x (opS an.keep tm rs x) k=some r) :
  ∃ p,k p=some r∧PRel Ψ ρ tmps (sl an tm rs) p ((⟨tmps,ds⟩:Act).eval x):=by
 obtain ⟨t,hs,ht⟩:=opS_rel (ds:=ds) h x;unfold asPlace at e
 split at e
 ·rename_i cs hop
  split at e
  ·rename_i t'
   obtain rfl:=ht t' rfl;have hop':sl an tm rs t=.box cs:=hop;refine ⟨_,e,?_⟩
   have:=h.slots t
   rw[hop'] at this;have hv:(Act.eval { tmps:=tmps,defers:=ds } (Operand.tmp t))=tmps.getD t undef:=rfl;rw[hv];generalize hg:tmps.getD t undef=v at this;cases this with|box _ b hb=>exact ⟨cs,b,hop',hg,rfl⟩
  ·cases e
 ·rename_i u o hop
  rw[hop] at hs;obtain ⟨cs,hc⟩:=opS_ref h x u o hop;refine ⟨_,e,?_⟩;generalize (Act.eval { tmps:=tmps,defers:=ds } x)=v at hs;cases hs with|ref _ _ b hb=>exact ⟨cs,b,hc,hb,rfl⟩
 ·rename_i i o hop
  rw[hop] at hs;refine ⟨_,e,?_⟩;generalize (Act.eval { tmps:=tmps,defers:=ds } x)=v at hs;cases hs with|val _ _ hv=>cases hv with|loc _ _ b hb=>exact ⟨b,hb,rfl⟩
 ·rename_i y hop
  rw[hop] at hs;refine ⟨_,e,?_⟩;cases hs with|val _ _ hv=>exact hv
 ·cases e
def Reads (w:World) (Ψ:HT) (ρ:List Nat) (cs:List Cell) (off b o:Nat):Prop :=
 ∀ (j:Nat) (c:Cell),cs[off+j]?=some c→∃ u,w.cell? ⟨b,o+j,none⟩=some u∧c.get.isCell=true∧VRel Ψ ρ c.get u
theorem BoxRel.reads {kk:Bool} {i:Nat} {cs:List Cell} {b:Nat} (h:BoxRel w B0 Ψ ρ ow kk i cs b) (o:Nat):Reads w Ψ ρ cs o b o:=by
 obtain ⟨_,_,_,vs,T,h4,h5⟩:=h;intro j c hc;have hj:o+j < vs.length:=by rw[←h5.1];exact (List.getElem?_eq_some_iff.1 hc).1
 refine ⟨vs[o+j],by rw[cell_of_heap h4];simp [hj],?_⟩;exact (h5.2 (o+j) c vs[o+j] hc (by simp [hj])).get
theorem BoxRel.reads' {kk:Bool} {i:Nat} {cs:List Cell} {b n:Nat} (h:BoxRel w B0 Ψ (ρ.take n) ow kk i cs b) (o:Nat):Reads w Ψ ρ cs o b o:=fun j c hc=>by
 obtain ⟨u,h1,h2,h3⟩:=h.reads o j c hc;exact ⟨u,h1,h2,h3.mono Ψ.le_refl pre_take'⟩
theorem cellsOfPlace_ok (h:Rel P ans B0 w Ψ ρ ow an (sl an tm rs) tmps rs.sto.objs) {p:Place} {v:Value} (hp:PRel Ψ ρ tmps (sl an tm rs) p v) {k:List Cell→Nat→Option R} (e:cellsOfPlace an.keep tm rs p k=some r) :
  ∃ cs off b o,k cs off=some r∧v=.pointer (some ⟨b,o,none⟩)∧Reads w Ψ ρ cs off b o ∧
   (∀ t o',p=.loc t o'→sl an tm rs t=.box cs∧off=o∧BoxRel w B0 Ψ ρ ow false t cs b∧tmps.getD t undef=.pointer (some ⟨b,0,none⟩)) ∧
   (∀ i o',p=.obj i o'→rs.sto.objs[i]?=some (.box cs)∧off=o∧ρ[i]?=some b∧BoxRel w B0 Ψ (ρ.take (i+1)) ow true i cs b):=by
 cases p with
 |loc t o =>
  obtain ⟨cs,b,h1,h2,h3⟩:=hp;have h1':rs.look an.keep tm t=.box cs:=h1;simp only[cellsOfPlace,h1',asBox] at e
  have hb:BoxRel w B0 Ψ ρ ow false t cs b:=by
   have:=h.slots t;rw[h1,h2] at this
   cases this with|box _ _ hb=>exact hb
  exact ⟨cs,o,b,o,e,h3,hb.reads o,(fun t' o' he=>by cases he;exact ⟨h1,rfl,hb,h2⟩),(fun _ _ he=>by cases he)⟩
 |obj i o =>
  obtain ⟨b,h1,h2⟩:=hp;simp only[cellsOfPlace,asObj] at e
  split at e
  ·rename_i cs ho
   obtain ⟨b',hb',hr⟩:=h.objs.2 i _ ho;obtain rfl:b=b':=by rw[h1] at hb';exact Option.some.inj hb'
   cases hr with
   |box _ _ hb=>exact ⟨cs,o,b,o,e,h2,hb.reads' o,(fun _ _ he=>by cases he),(fun i' o' he=>by cases he;exact ⟨ho,rfl,h1,hb⟩)⟩
  ·cases e
 |imm x =>
  simp only[cellsOfPlace] at e;simp only[PRel] at hp;cases hp with
  |cptr _ b o hb =>
   refine ⟨_,0,b,o,e,rfl,?_,(fun _ _ he=>by cases he),(fun _ _ he=>by cases he)⟩;intro j c hc;simp only[Nat.zero_add,List.getElem?_map,Option.map_eq_some_iff] at hc;obtain ⟨c',hc',rfl⟩:=hc;obtain ⟨hf,u,hu,hv⟩:=h.wsat.sat _ _ _ (hb j c' hc');exact ⟨u,hu,flat_isCell hf,hv.mono Ψ.le_refl (pre_nil _)⟩
theorem load_agg {cs:List Cell} {off b o s:Nat} {t:TypeId} (hr:Reads w Ψ ρ cs off b o) (h1:aggOf P t=some true) (h2:szOf P t=some s) {x:AVal} (hx:partOf true (cs.map Cell.get) off s=some x) :
  ∃ v,(loadVar t ⟨b,o,none⟩).run P w=.ok v w∧VRel Ψ ρ x v:=by
 simp only[partOf,if_true,List.length_map] at hx;cases hle:Nat.ble (off+s) cs.length with
 |false=>simp [hle] at hx
 |true =>
  have hle':off+s≤cs.length:=Nat.le_of_ble_eq_true hle;simp [hle] at hx;subst hx
  have hex:∀ j,j < s→∃ u,w.cell? ⟨b,o+j,none⟩=some u:=fun j hj=>by
   obtain ⟨u,hu,_⟩:=hr j (cs[off+j]'(by omega)) (by simp [show off+j < cs.length by omega]);exact ⟨u,hu⟩
  refine ⟨.agg ⟨(List.range s).map fun j=>(w.cell? ⟨b,o+j,none⟩).getD undef⟩,?_,?_⟩
  ·refine run_loadVar_agg h1 (by simpa using h2) fun j v hj=>?_
   have hjs:j < s:=by have:=(List.getElem?_eq_some_iff.1 hj).1;simpa using this
   rw[List.getElem?_map,List.getElem?_range hjs] at hj;obtain ⟨u,hu⟩:=hex j hjs;simp [hu] at hj ⊢;exact hj
  ·refine .agg _ _ (by simp;omega) ?_ ?_
   ·intro j c hc
    rw[List.getElem?_take] at hc
    split at hc
    ·rw[List.getElem?_drop,List.getElem?_map,Option.map_eq_some_iff] at hc
     obtain ⟨c',hc',rfl⟩:=hc;exact (hr j c' hc').choose_spec.2.1
    ·cases hc
   ·intro j c v hc hv
    rw[List.getElem?_take] at hc
    split at hc
    ·rename_i hjs
     rw[List.getElem?_drop,List.getElem?_map,Option.map_eq_some_iff] at hc;obtain ⟨c',hc',rfl⟩:=hc;obtain ⟨u,hu,_,hv'⟩:=hr j c' hc';rw[List.getElem?_map,List.getElem?_range hjs] at hv;simp [hu] at hv;subst hv;exact hv'
    ·cases hc
theorem load_one {cs:List Cell} {off b o:Nat} {t:TypeId} (hr:Reads w Ψ ρ cs off b o) (h1:aggOf P t=some false) {c:Cell} (hc:cs[off]?=some c) :
  ∃ v,(loadVar t ⟨b,o,none⟩).run P w=.ok v w∧VRel Ψ ρ c.get v:=by
 obtain ⟨u,hu,_,hv⟩:=hr 0 c (by simpa using hc);exact ⟨u,run_loadVar_one h1 (by simpa using hu),hv⟩
end Go.AM
end
section
namespace Go.AM
variable {P:Program} {ans:FuncId→Ann} {an:Ann} {w:World} {B0:Nat} {Ψ:HT} {ρ:List Nat} {ow:Own} {tmps:Array Value} {R:Type} {r:R}
variable {tm:List Slot} {rs:RS} {dst:Option Nat} {m:Machine} {mk mp:Value→World→Machine} {kp:AVal→RS→Option R} {k:Slot→RS→Option R} {ds:List Deferred}
theorem WSat.lt (h:WSat Ψ w) {b o:Nat} {c:AVal} (e:Ψ b o c):b < w.heap.size:=by
 obtain ⟨_,v,hv,_⟩:=h.sat b o c e;exact World.block_lt_of_cell? _ _ hv
theorem WSat.none_of_ge (h:WSat Ψ w) {b:Nat} (hb:w.heap.size≤b) (o:Nat):Ψ b o=hno:=by
 funext c;refine propext ⟨fun e=>?_,fun e=>e.elim⟩
 have:=h.lt e;omega
theorem cell_congr {w w':World} {b:Nat} (h:w'.heap[b]?=w.heap[b]?) (o:Nat):w'.cell? ⟨b,o,none⟩=w.cell? ⟨b,o,none⟩:=by
 simp [World.cell?,h]
theorem WSat.put (h:WSat Ψ w) {b:Nat} {ob:Obj} (hf:∀ o,Ψ b o=hno):WSat Ψ (w.putObj b ob):=⟨h.glob,by
 have hne:5≠b:=fun he=>by subst he;have:=h.glob.pow 0 (by omega);rw[hf] at this;exact this
 obtain ⟨cs,t,fr,h1,h2⟩:=h.len5;exact ⟨cs,t,fr,(World.putObj_heap_other hne).trans h1,h2⟩,fun b' o c e=>by
 obtain ⟨h1,v,h2,h3⟩:=h.sat b' o c e;have hne:b'≠b:=fun he=>by subst he;rw[hf] at e;exact e
 exact ⟨h1,v,(cell_congr (World.putObj_heap_other hne) o).trans h2,h3⟩⟩
theorem overwrite_get {α:Type} (l new:List α) (off j:Nat) (h:off+new.length≤l.length) :
  (overwrite l off new)[j]?=if j < off then l[j]? else if j < off+new.length then new[j - off]? else l[j]?:=by
 unfold overwrite;by_cases h1:j < off
 ·rw[if_pos h1,List.append_assoc,List.getElem?_append_left (by simp;omega),List.getElem?_take,if_pos h1]
 ·rw[if_neg h1]
  by_cases h2:j < off+new.length
  ·rw[if_pos h2,List.getElem?_append_left (by simp;omega),List.getElem?_append_right (by simp;omega)]
   simp [show min off l.length=off by omega]
  ·rw[if_neg h2,List.getElem?_append_right (by simp;omega),List.getElem?_drop]
   congr 1;simp;omega
theorem overwrite_length {α:Type} (l new:List α) (off:Nat) (h:off+new.length≤l.length):(overwrite l off new).length=l.length:=by
 unfold overwrite;simp;omega
theorem setCells_eq (cs new:List Cell) (off:Nat):setCells cs off new=overwrite cs off new:=rfl
theorem CsRel.one {kk:Bool} {i:Nat} {cs:List Cell} {vs:List Value} (h:CsRel w B0 Ψ ρ ow kk i cs vs):∀ u∈vs,oneC u=true:=by
 intro u hu;obtain ⟨j,hj⟩:=List.getElem?_of_mem hu;have hl:j < cs.length:=by rw[h.1];exact (List.getElem?_eq_some_iff.1 hj).1
 have:=(h.2 j cs[j] u (by simp [hl]) hj).get
 exact this.2.one this.1
theorem CsRel.overwrite {kk:Bool} {i q off:Nat} {cs new:List Cell} {vs nv:List Value} {b:Nat} {ob:Obj} {ρ1:List Nat} (h:CsRel w B0 Ψ ρ1 ow kk i cs vs) (hn:CsRel w B0 Ψ ρ1 ow false q new nv) (hoff:off+new.length≤cs.length)
  (hob:ow b=some (kk,i,0)) (hq:¬ (kk=false∧i=q)) :
  CsRel (w.putObj b ob) B0 Ψ ρ1 (ren ow false q kk i off) kk i (setCells cs off new) (AM.overwrite vs off nv):=by
 have hv:off+nv.length≤vs.length:=by rw[←h.1,←hn.1];exact hoff
 refine ⟨by rw[setCells_eq,overwrite_length _ _ _ hoff,overwrite_length _ _ _ hv];exact h.1,fun j c v hc hcv=>?_⟩;rw[setCells_eq,overwrite_get _ _ _ _ hoff] at hc;rw[overwrite_get _ _ _ _ hv,←hn.1] at hcv
 have old:∀ c v,cs[j]?=some c→vs[j]?=some v→CRel (w.putObj b ob) B0 Ψ ρ1 (ren ow false q kk i off) (kk,i,j+1) c v:=fun c v h1 h2 =>
  (h.2 j c v h1 h2).mono Ψ.le_refl (pre_refl _) fun b' hb'=>by
   refine ⟨?_,World.putObj_heap_other ?_,fun _ h=>h⟩
   ·have:¬ (kk=false∧i=q):=hq
    simp [ren,hb',this]
   ·intro he;subst he;rw[hob] at hb';simp at hb'
 by_cases h1:j < off
 ·rw[if_pos h1] at hc hcv;exact old c v hc hcv
 ·rw[if_neg h1] at hc hcv
  by_cases h2:j < off+new.length
  ·rw[if_pos h2] at hc hcv
   refine (hn.2 (j - off) c v hc hcv).mono Ψ.le_refl (pre_refl _) fun b' hb'=>⟨?_,World.putObj_heap_other ?_,fun _ h=>h⟩
   ·simp [ren,hb'];omega
   ·intro he;subst he;rw[hob] at hb'
    simp only[Option.some.injEq,Prod.mk.injEq] at hb';exact hq ⟨hb'.1,hb'.2.1⟩
  ·rw[if_neg h2] at hc hcv;exact old c v hc hcv
theorem Fr.put {b:Nat} {ob:Obj} {ow2:Own} (hb:ow b≠none) (h2:∀ x,ow2 x≠none→ow x≠none):Fr w Ψ ow (w.putObj b ob) Ψ ow2 :=
 ⟨Ψ.le_refl,by simp,fun x _ hx=>⟨World.putObj_heap_other (fun he=>by subst he;exact hb hx),fun _=>rfl⟩,fun x hx=>.inl (h2 x hx),rfl,rfl,rfl⟩
theorem store_loc {E:Nat→Slot} {objs:List AObj} (h:Rel P ans B0 w Ψ ρ ow an E tmps objs) {t off:Nat} {cs new:List Cell} {b:Nat} {vs nv:List Value} {T:TypeId} (he:E t=.box cs) (hp:tmps.getD t undef=.pointer (some ⟨b,0,none⟩))
  (hb:BoxRel w B0 Ψ ρ ow false t cs b) (hh:w.heap[b]?=some (.cells ⟨vs⟩ T (0,0))) (hcs:CsRel w B0 Ψ ρ ow false t cs vs) (hn:CsRel w B0 Ψ ρ ow false an.nt new nv) (hoff:off+new.length≤cs.length) :
  Rel P ans B0 (w.putObj b (.cells ⟨overwrite vs off nv⟩ T (0,0))) Ψ ρ (ren ow false an.nt false t off) an (upd E t (.box (setCells cs off new))) tmps objs:=by
 have ht:t < an.nt:=h.lt_of (by rw[he];simp);have hlt:b < w.heap.size:=(Array.getElem?_eq_some_iff.1 hh).1
 have other:∀ kk i,¬ (kk=false∧i=t)→¬ (kk=false∧i=an.nt)→Same w Ψ ow (w.putObj b (.cells ⟨overwrite vs off nv⟩ T (0,0))) Ψ (ren ow false an.nt false t off) kk i kk i:=fun kk i h1 h2 b' s hb' =>
  ⟨by simp [ren,hb',h2],World.putObj_heap_other (fun e=>by subst e;rw[hb.own] at hb';simp only[Option.some.injEq,Prod.mk.injEq] at hb';exact h1 ⟨hb'.1.symm,hb'.2.1.symm⟩),fun _ h=>h⟩
 have hown:ren ow false an.nt false t off b=some (false,t,0):=by simp [ren,hb.own];omega
 refine ⟨h.size,h.wsat.put hb.free,fun u=>?_,fun d u o e=>?_,fun u cs' e=>?_,h.objs.mono Ψ.le_refl (fun i _=>other true i (by simp) (by simp)),fun x hx=>?_,?_,fun u hu=>?_⟩
 ·by_cases hu:u=t
  ·subst hu;rw[upd_same,hp]
   exact .box _ _ ⟨hown,hb.base,hb.free,_,T,World.putObj_heap_same hlt,hcs.overwrite hn hoff hb.own (by simp;omega)⟩
  ·rw[upd_other _ _ hu]
   rcases Nat.lt_or_ge u an.nt with hlt'|hge
   ·exact (h.slots u).mono Ψ.le_refl (pre_refl _) (other false u (by simp [hu]) (by simp;omega)) (fun _ _ _=>rfl)
   ·rw[h.hi u hge];exact .dead _
 ·by_cases hd:d=t
  ·subst hd;simp at e
  ·rw[upd_other _ _ hd] at e
   obtain ⟨cs',hc⟩:=h.refs d u o e;by_cases hu:u=t
   ·subst hu;exact ⟨_,upd_same _ _ _⟩
   ·exact ⟨cs',by rw[upd_other _ _ hu];exact hc⟩
 ·by_cases hu:u=t
  ·subst hu;exact h.boxes u cs he
  ·rw[upd_other _ _ hu] at e;exact h.boxes u cs' e
 ·rw[World.putObj_size];exact h.lt x (ren_ne _ hx)
 ·rw[World.putObj_size];exact h.base
 ·rw[upd_other _ _ (by omega)];exact h.hi u hu
theorem CRel.lok {id:Oid} {c:Cell} {v:Value} {n:Nat} (h:CRel w B0 Ψ ρ ow id c v) (hl:c.lok n=true):CRel w B0 Ψ (ρ.take n) ow id c v:=by
 cases h with
 |val c v hc h=>exact .val c v hc (h.lok hl)
 |own sz xs v h=>exact .own sz xs v h
theorem OsRel.set {objs:List AObj} {w':World} {ow':Own} (h:OsRel w B0 Ψ ρ ow ans objs) {i b:Nat} {ob:AObj} (hi:i < objs.length) (hb:ρ[i]?=some b) (hn:ORel w' B0 Ψ ρ ow' ans i ob b) (hs:∀ j,j≠i→Same w Ψ ow w' Ψ ow' true j true j) :
  OsRel w' B0 Ψ ρ ow' ans (objs.set i ob):=by
 refine ⟨by simpa using h.1,fun j o ho=>?_⟩;rw[List.getElem?_set] at ho
 split at ho
 ·rename_i hij;subst hij
  simp only[hi,if_true,Option.some.injEq] at ho;subst ho;exact ⟨b,hb,hn⟩
 ·rename_i hij
  obtain ⟨b',h1,h2⟩:=h.2 j o ho;exact ⟨b',h1,h2.mono Ψ.le_refl (pre_refl _) (hs j (fun e=>hij e.symm))⟩
theorem store_obj {E:Nat→Slot} {objs:List AObj} (h:Rel P ans B0 w Ψ ρ ow an E tmps objs) {i off:Nat} {cs new:List Cell} {b:Nat} {vs nv:List Value} {T:TypeId} (ho:objs[i]?=some (.box cs)) (hρ:ρ[i]?=some b)
  (hb:BoxRel w B0 Ψ (ρ.take (i+1)) ow true i cs b) (hh:w.heap[b]?=some (.cells ⟨vs⟩ T (0,0))) (hcs:CsRel w B0 Ψ (ρ.take (i+1)) ow true i cs vs) (hn:CsRel w B0 Ψ ρ ow false an.nt new nv) (hoff:off+new.length≤cs.length)
  (hl:(setCells cs off new).all (Cell.lok (i+1))=true) :
  Rel P ans B0 (w.putObj b (.cells ⟨overwrite vs off nv⟩ T (0,0))) Ψ ρ (ren ow false an.nt true i off) an E tmps (objs.set i (.box (setCells cs off new))):=by
 have hlt:b < w.heap.size:=(Array.getElem?_eq_some_iff.1 hh).1
 have other:∀ kk j,¬ (kk=true∧j=i)→¬ (kk=false∧j=an.nt)→Same w Ψ ow (w.putObj b (.cells ⟨overwrite vs off nv⟩ T (0,0))) Ψ (ren ow false an.nt true i off) kk j kk j:=fun kk j h1 h2 b' s hb' =>
  ⟨by simp [ren,hb',h2],World.putObj_heap_other (fun e=>by subst e;rw[hb.own] at hb';simp only[Option.some.injEq,Prod.mk.injEq] at hb';exact h1 ⟨hb'.1.symm,hb'.2.1.symm⟩),fun _ h=>h⟩
 have hown:ren ow false an.nt true i off b=some (true,i,0):=by simp [ren,hb.own]
 have hn':CsRel w B0 Ψ (ρ.take (i+1)) ow false an.nt new nv:=⟨hn.1,fun j c v hc hv=>(hn.2 j c v hc hv).lok (List.all_eq_true.1 hl c (by
  rw[setCells_eq];unfold AM.overwrite;exact List.mem_append_left _ (List.mem_append_right _ (List.mem_of_getElem? hc))))⟩
 refine ⟨h.size,h.wsat.put hb.free,fun u=>?_,h.refs,h.boxes,?_,fun x hx=>?_,?_,h.hi⟩
 ·rcases Nat.lt_or_ge u an.nt with hlt'|hge
  ·exact (h.slots u).mono Ψ.le_refl (pre_refl _) (other false u (by simp) (by simp;omega)) (fun _ _ _=>rfl)
  ·rw[h.hi u hge];exact .dead _
 ·refine h.objs.set (List.getElem?_eq_some_iff.1 ho).1 hρ (.box _ _ ⟨hown,hb.base,hb.free,_,T,World.putObj_heap_same hlt,hcs.overwrite hn' hoff hb.own (by simp)⟩) fun j hj=>other true j (by simp [hj]) (by simp)
 ·rw[World.putObj_size];exact h.lt x (ren_ne _ hx)
 ·rw[World.putObj_size];exact h.base
def renOne (ow:Own) (id id':Oid):Own:=fun b=>if ow b=some id then some id' else ow b
theorem renOne_ne {id id':Oid} {b:Nat} (h:renOne ow id id' b≠none):ow b≠none:=by
 intro e;simp [renOne,e] at h
theorem CsRel.takeOne {kk:Bool} {i j q:Nat} {cs:List Cell} {vs:List Value} {sz:Nat} {xs:List AVal} {v:Value} {ρ1:List Nat} (h:CsRel w B0 Ψ ρ1 ow kk i cs vs) (hj:cs[j]?=some (.own sz xs)) (hv:vs[j]?=some v) :
  CsRel w B0 Ψ ρ1 (renOne ow (kk,i,j+1) (false,q,1)) kk i (cs.set j (.val (.slice xs))) vs∧OwnRel w B0 Ψ (renOne ow (kk,i,j+1) (false,q,1)) (false,q,1) sz xs v:=by
 have ho:OwnRel w B0 Ψ ow (kk,i,j+1) sz xs v:=by have:=h.2 j _ v hj hv;cases this with|own _ _ _ h=>exact h
 refine ⟨⟨by simpa using h.1,fun j' c u hc hu=>?_⟩,ho.mono Ψ.le_refl fun b hb=>⟨by simp [renOne,hb],rfl,fun _ h=>h⟩⟩;rw[List.getElem?_set] at hc
 split at hc
 ·rename_i hjj;subst hjj
  split at hc
  ·simp only[Option.some.injEq] at hc;subst hc
   obtain rfl:v=u:=by rw[hv] at hu;exact Option.some.inj hu
   exact .val _ _ rfl ho.val
  ·cases hc
 ·rename_i hjj
  refine (h.2 j' c u hc hu).mono Ψ.le_refl (pre_refl _) fun b hb=>⟨?_,rfl,fun _ h=>h⟩
  have:¬ j'=j:=fun e=>hjj e.symm
  simp [renOne,hb,this]
theorem take_loc {E:Nat→Slot} {objs:List AObj} (h:Rel P ans B0 w Ψ ρ ow an E tmps objs) {t j:Nat} {cs:List Cell} {b:Nat} {sz:Nat} {xs:List AVal} {v:Value} (he:E t=.box cs) (hp:tmps.getD t undef=.pointer (some ⟨b,0,none⟩))
  (hb:BoxRel w B0 Ψ ρ ow false t cs b) (hj:cs[j]?=some (.own sz xs)) (hv:w.cell? ⟨b,j,none⟩=some v) :
  Rel P ans B0 w Ψ ρ (renOne ow (false,t,j+1) (false,an.nt,1)) an (upd E t (.box (cs.set j (.val (.slice xs))))) tmps objs∧OwnRel w B0 Ψ (renOne ow (false,t,j+1) (false,an.nt,1)) (false,an.nt,1) sz xs v:=by
 obtain ⟨b1,b2,b3,vs,T,b4,b5⟩:=hb;rw[cell_of_heap b4] at hv;obtain ⟨c1,c2⟩:=b5.takeOne (q:=an.nt) hj hv;have ht:t < an.nt:=h.lt_of (by rw[he];simp)
 have other:∀ kk i,¬ (kk=false∧i=t)→Same w Ψ ow w Ψ (renOne ow (false,t,j+1) (false,an.nt,1)) kk i kk i:=fun kk i h1 b' s hb' =>
  ⟨by have:¬ (kk=false∧i=t∧s=j+1):=fun e=>h1 ⟨e.1,e.2.1⟩
      simp [renOne,hb',this],rfl,fun _ h=>h⟩
 refine ⟨⟨h.size,h.wsat,fun u=>?_,fun d u o e=>?_,fun u cs' e=>?_,h.objs.mono Ψ.le_refl (fun i _=>other true i (by simp)),fun x hx=>h.lt x (renOne_ne hx),h.base,fun u hu=>?_⟩,c2⟩
 ·by_cases hu:u=t
  ·subst hu;rw[upd_same,hp]
   exact .box _ _ ⟨by simp [renOne,b1],b2,b3,vs,T,b4,c1⟩
  ·rw[upd_other _ _ hu];exact (h.slots u).mono Ψ.le_refl (pre_refl _) (other false u (by simp [hu])) (fun _ _ _=>rfl)
 ·by_cases hd:d=t
  ·subst hd;simp at e
  ·rw[upd_other _ _ hd] at e
   obtain ⟨cs',hc⟩:=h.refs d u o e;by_cases hu:u=t
   ·subst hu;exact ⟨_,upd_same _ _ _⟩
   ·exact ⟨cs',by rw[upd_other _ _ hu];exact hc⟩
 ·by_cases hu:u=t
  ·subst hu;exact h.boxes u cs he
  ·rw[upd_other _ _ hu] at e;exact h.boxes u cs' e
 ·rw[upd_other _ _ (by omega)];exact h.hi u hu
theorem take_obj {E:Nat→Slot} {objs:List AObj} (h:Rel P ans B0 w Ψ ρ ow an E tmps objs) {i j:Nat} {cs:List Cell} {b:Nat} {sz:Nat} {xs:List AVal} {v:Value} (ho:objs[i]?=some (.box cs)) (hρ:ρ[i]?=some b)
  (hb:BoxRel w B0 Ψ (ρ.take (i+1)) ow true i cs b) (hj:cs[j]?=some (.own sz xs)) (hv:w.cell? ⟨b,j,none⟩=some v) :
  Rel P ans B0 w Ψ ρ (renOne ow (true,i,j+1) (false,an.nt,1)) an E tmps (objs.set i (.box (cs.set j (.val (.slice xs)))))∧OwnRel w B0 Ψ (renOne ow (true,i,j+1) (false,an.nt,1)) (false,an.nt,1) sz xs v:=by
 obtain ⟨b1,b2,b3,vs,T,b4,b5⟩:=hb;rw[cell_of_heap b4] at hv;obtain ⟨c1,c2⟩:=b5.takeOne (q:=an.nt) hj hv
 have other:∀ kk i',¬ (kk=true∧i'=i)→Same w Ψ ow w Ψ (renOne ow (true,i,j+1) (false,an.nt,1)) kk i' kk i':=fun kk i' h1 b' s hb' =>
  ⟨by have:¬ (kk=true∧i'=i∧s=j+1):=fun e=>h1 ⟨e.1,e.2.1⟩
      simp [renOne,hb',this],rfl,fun _ h=>h⟩
 refine ⟨⟨h.size,h.wsat,fun u=>(h.slots u).mono Ψ.le_refl (pre_refl _) (other false u (by simp)) (fun _ _ _=>rfl),h.refs,h.boxes,
  h.objs.set (List.getElem?_eq_some_iff.1 ho).1 hρ (.box _ _ ⟨by simp [renOne,b1],b2,b3,vs,T,b4,c1⟩) (fun j' hj'=>other true j' (by simp [hj'])),fun x hx=>h.lt x (renOne_ne hx),h.base,h.hi⟩,c2⟩
end Go.AM
end
section
namespace Go.AM
variable {P:Program} {ans:FuncId→Ann} {an:Ann} {w:World} {B0:Nat} {Ψ:HT} {ρ:List Nat} {ow:Own} {tmps:Array Value} {R:Type} {r:R}
variable {tm:List Slot} {rs:RS} {dst:Option Nat} {m:Machine} {mk mp:Value→World→Machine} {kp:AVal→RS→Option R} {k:Slot→RS→Option R} {ds:List Deferred}
def hset (Ψ:HT) (n:Nat) (τ:Nat→Option AVal):HT:=fun b o=>if b=n then (fun c=>τ o=some c) else Ψ b o
def oset (ow:Own) (n:Nat) (id:Option Oid):Own:=fun b=>if b=n then id else ow b
theorem hset_le (h:WSat Ψ w) (τ:Nat→Option AVal):Ψ.le (hset Ψ w.heap.size τ):=fun b o c e=>by
 have:=h.lt e
 simp [hset,show ¬ b=w.heap.size by omega,e]
theorem hset_none (h:WSat Ψ w):hset Ψ w.heap.size (fun _=>none)=Ψ:=by
 funext b o;unfold hset;split
 ·subst_vars
  rw[h.none_of_ge (Nat.le_refl _) o];funext c;exact propext ⟨fun e=>(by cases e),fun e=>(e:False).elim⟩
 ·rfl
theorem same_alloc {o:Obj} {τ:Nat→Option AVal} {id:Option Oid} (hlt:∀ b,ow b≠none→b < w.heap.size) (kk:Bool) (i:Nat) :
  Same w Ψ ow (w.alloc o) (hset Ψ w.heap.size τ) (oset ow w.heap.size id) kk i kk i:=fun b s hb=>by
 have h1:=hlt b (by simp [hb]);have h2:¬ b=w.heap.size:=by omega
 exact ⟨by simp [oset,h2,hb],heap_alloc_old _ h1,fun o h=>by simp [hset,h2,h]⟩
theorem Fr.alloc {o:Obj} {τ:Nat→Option AVal} {id:Option Oid} (hw:WSat Ψ w):Fr w Ψ ow (w.alloc o) (hset Ψ w.heap.size τ) (oset ow w.heap.size id) :=
 ⟨hset_le hw τ,by simp,fun b hb _=>⟨heap_alloc_old _ hb,fun o=>by simp [hset,show ¬ b=w.heap.size by omega]⟩,fun b hb=>by
  by_cases h:b=w.heap.size
  ·exact .inr (by omega)
  ·exact .inl (by simpa [oset,h] using hb),rfl,rfl,rfl⟩
theorem WSat.alloc {o:Obj} {τ:Nat→Option AVal} (hw:WSat Ψ w) (hτ:∀ off c,τ off=some c→flat c=true∧∃ v,(w.alloc o).cell? ⟨w.heap.size,off,none⟩=some v∧VRel Ψ [] c v) :
  WSat (hset Ψ w.heap.size τ) (w.alloc o):=⟨hw.glob.mono (hset_le hw τ),by
 obtain ⟨cs,t,fr,h1,h2⟩:=hw.len5;exact ⟨cs,t,fr,(heap_alloc_old _ (hw.lt (hw.glob.pow 0 (by omega)))).trans h1,h2⟩,fun b off c e=>by
 by_cases h:b=w.heap.size
 ·subst h
  obtain ⟨h1,v,h2,h3⟩:=hτ off c (by simpa [hset] using e);exact ⟨h1,v,h2,h3.mono (hset_le hw τ) (pre_refl _)⟩
 ·have e':Ψ b off c:=by simpa [hset,h] using e
  obtain ⟨h1,v,h2,h3⟩:=hw.sat b off c e';exact ⟨h1,v,(cell_congr (heap_alloc_old _ (hw.lt e')) off).trans h2,h3.mono (hset_le hw τ) (pre_refl _)⟩⟩
theorem Rel.alloc {E:Nat→Slot} {objs:List AObj} (h:Rel P ans B0 w Ψ ρ ow an E tmps objs) {o:Obj} {τ:Nat→Option AVal} {id:Option Oid}
  (hτ:∀ off c,τ off=some c→flat c=true∧∃ v,(w.alloc o).cell? ⟨w.heap.size,off,none⟩=some v∧VRel Ψ [] c v) :
  Rel P ans B0 (w.alloc o) (hset Ψ w.heap.size τ) ρ (oset ow w.heap.size id) an E tmps objs :=
 ⟨h.size,h.wsat.alloc hτ,fun t=>(h.slots t).mono (hset_le h.wsat τ) (pre_refl _) (same_alloc h.lt false t) (fun _ _ _=>rfl),h.refs,h.boxes,h.objs.mono (hset_le h.wsat τ) (fun i _=>same_alloc h.lt true i),fun b hb=>by
  by_cases e:b=w.heap.size
  ·simp;omega
  ·have:=h.lt b (by simpa [oset,e] using hb);simp;omega,by have:=h.base;simp;omega,h.hi⟩
theorem Rel.heap {E:Nat→Slot} {objs:List AObj} (h:Rel P ans B0 w Ψ ρ ow an E tmps objs) {w1:World} (e:w1.heap=w.heap):Rel P ans B0 w1 Ψ ρ ow an E tmps objs:=by
 have hs:∀ kk i,Same w Ψ ow w1 Ψ ow kk i kk i:=fun kk i b s hb=>⟨hb,by rw[e],fun _ h=>h⟩
 exact ⟨h.size,⟨h.wsat.glob,by
  obtain ⟨cs,t,fr,h1,h2⟩:=h.wsat.len5;exact ⟨cs,t,fr,by rw[e];exact h1,h2⟩,fun b o c hc=>by
  obtain ⟨h1,v,h2,h3⟩:=h.wsat.sat b o c hc;exact ⟨h1,v,(cell_congr (by rw[e]) o).trans h2,h3⟩⟩,fun t=>(h.slots t).mono Ψ.le_refl (pre_refl _) (hs false t) (fun _ _ _=>rfl),h.refs,h.boxes,h.objs.mono Ψ.le_refl (fun i _=>hs true i),fun b hb=>by rw[e];exact h.lt b hb,by rw[e];exact h.base,h.hi⟩
theorem Fr.heap {w1:World} (e:w1.heap=w.heap) (h1:w1.os=w.os) (h2:w1.tape=w.tape) (h3:w1.output=w.output):Fr w Ψ ow w1 Ψ ow :=
 ⟨Ψ.le_refl,by rw[e];exact Nat.le_refl _,fun b _ _=>⟨by rw[e],fun _=>rfl⟩,fun _ h=>.inl h,h1,h2,h3⟩
theorem zipCells_rel (kk:Bool) (i:Nat):∀ (hs:List (Option Nat)) (xs:List AVal) (vs:List Value) (j0:Nat),xs.length=vs.length→(∀ (j:Nat) x v,xs[j]?=some x→vs[j]?=some v→absC v=some x) →
  (zipCells hs xs).length=vs.length∧∀ (j:Nat) c v,(zipCells hs xs)[j]?=some c→vs[j]?=some v→CRel w B0 Ψ ρ ow (kk,i,j0+j+1) c v
 |[],xs,vs,j0,hl,h=>by
  refine ⟨by simpa [zipCells] using hl,fun j c v hc hv=>?_⟩;simp only[zipCells,List.getElem?_map,Option.map_eq_some_iff] at hc;obtain ⟨x,hx,rfl⟩:=hc;obtain ⟨h1,h2⟩:=absC_rel (Ψ:=Ψ) (ρ:=ρ) (h j x v hx hv);exact .val _ _ h1 h2
 |h::hs,[],vs,j0,hl,_=>by
  refine ⟨by simpa [zipCells] using hl,fun j c v hc hv=>by simp [zipCells] at hc⟩
 |h::hs,x::xs,[],j0,hl,_=>by simp at hl
 |h::hs,x::xs,v::vs,j0,hl,hh=>by
  obtain ⟨h1,h2⟩:=zipCells_rel kk i hs xs vs (j0+1) (by simpa using hl) (fun j y u hy hu=>hh (j+1) y u (by simpa using hy) (by simpa using hu));refine ⟨by simp [zipCells,h1],fun j c u hc hu=>?_⟩;cases j with
  |zero =>
   simp [zipCells] at hc hu;subst hu hc;have ha:=hh 0 x v (by simp) (by simp);obtain ⟨g1,g2⟩:=absC_rel (Ψ:=Ψ) (ρ:=ρ) ha;unfold mkCell;split
   ·have hv:v=.slice none 0 0:=by
     unfold absC at ha
     split at ha <;> simp at ha <;> rfl
    subst hv;exact .own _ _ _ (ownNil _ _)
   ·exact .val _ _ g1 g2
  |succ j =>
   simp [zipCells] at hc hu
   have:=h2 j c u hc hu
   rwa [show j0+1+j+1=j0+(j+1)+1 by omega] at this
theorem zeroCells_rel {t:TypeId} {z:List Cell} (h:zeroCells P t=some z) (kk:Bool) (i:Nat):∃ v,(P.info? t).bind (·.zero)=some v∧CsRel w B0 Ψ ρ ow kk i z v.cells.toList:=by
 simp only[zeroCells,zeroOf,Option.map_eq_some_iff,Option.bind_eq_some_iff] at h;obtain ⟨x,⟨v,⟨a,ha,hv⟩,hx⟩,rfl⟩:=h;refine ⟨v,by rw[ha];exact hv,?_⟩
 have key:x.cells.length=v.cells.toList.length∧∀ (j:Nat) y u,x.cells[j]?=some y→v.cells.toList[j]?=some u→absC u=some y:=by
  cases v with
  |agg cs =>
   simp only[absV,Option.map_eq_some_iff] at hx;obtain ⟨l,hl,rfl⟩:=hx;obtain ⟨h1,h2⟩:=absCs_rel hl;exact ⟨by simpa [AVal.cells,Value.cells] using h1,fun j y u hy hu=>h2 j y u hy (by simpa [Value.cells] using hu)⟩
  |_ =>
   have hc:=absC_rel (Ψ:=fun _ _=>hno) (ρ:=[]) (show absC _=some x by simpa only [absV] using hx);rw[cells_of_isCell hc.1];refine ⟨by simp [Value.cells],fun j y u hy hu=>?_⟩;cases j with
   |zero=>simp [Value.cells] at hy hu;subst hy;subst hu;simpa only [absV] using hx
   |succ j=>simp at hy
 obtain ⟨h1,h2⟩:=zipCells_rel (w:=w) (B0:=B0) (Ψ:=Ψ) (ρ:=ρ) (ow:=ow) kk i (hints P 8 t) x.cells v.cells.toList 0 key.1 key.2;exact ⟨h1,fun j c u hc hu=>by have:=h2 j c u hc hu;rwa [Nat.zero_add] at this⟩
theorem newBox (h:Rel P ans B0 w Ψ ρ ow an (sl an tm rs) tmps rs.sto.objs) {z:List Cell} {vs:List Value} {T:TypeId} (hz:CsRel w B0 Ψ ρ ow false an.nt z vs) :
  Rel P ans B0 (w.alloc (.cells ⟨vs⟩ T)) Ψ ρ (oset ow w.heap.size (some (false,an.nt,0))) an (sl an tm rs) tmps rs.sto.objs ∧
  SRel (w.alloc (.cells ⟨vs⟩ T)) B0 Ψ ρ (oset ow w.heap.size (some (false,an.nt,0))) tmps an.nt (.box z) (.pointer (some ⟨w.heap.size,0,none⟩)) ∧
  Fr w Ψ ow (w.alloc (.cells ⟨vs⟩ T)) Ψ (oset ow w.heap.size (some (false,an.nt,0))):=by
 have e:=hset_none h.wsat;have h1:=h.alloc (o:=.cells ⟨vs⟩ T) (τ:=fun _=>none) (id:=some (false,an.nt,0)) (fun off c hc=>by cases hc);have h2:=Fr.alloc (ow:=ow) (o:=.cells ⟨vs⟩ T) (τ:=fun _=>none) (id:=some (false,an.nt,0)) h.wsat;have h3:=same_alloc (Ψ:=Ψ) (o:=.cells ⟨vs⟩ T) (τ:=fun _=>none) (id:=some (false,an.nt,0)) h.lt false an.nt;rw[e] at h1 h2 h3;refine ⟨h1,.box _ _ ⟨by simp [oset],h.base,h.wsat.none_of_ge (Nat.le_refl _),vs,T,heap_alloc_new _,hz.mono Ψ.le_refl (pre_refl _) h3⟩,h2⟩
theorem OsRel.push {w':World} {Ψ':HT} {ow':Own} {objs:List AObj} {b:Nat} {ob:AObj} (h:OsRel w B0 Ψ ρ ow ans objs) (hΨ:Ψ.le Ψ') (hs:∀ i,i < objs.length→Same w Ψ ow w' Ψ' ow' true i true i)
  (hn:ORel w' B0 Ψ' (ρ++[b]) ow' ans objs.length ob b):OsRel w' B0 Ψ' (ρ++[b]) ow' ans (objs++[ob]):=by
 refine ⟨by simp [h.1],fun i o ho=>?_⟩;rw[List.getElem?_append] at ho
 split at ho
 ·rename_i hi
  obtain ⟨b',h1,h2⟩:=h.2 i o ho;refine ⟨b',pre_append _ _ _ _ h1,h2.mono hΨ ?_ (hs i hi)⟩;rw[List.take_append_of_le_length (by rw[h.1];omega)];exact pre_refl _
 ·rename_i hi
  have:i=objs.length:=by
   have:=(List.getElem?_eq_some_iff.1 ho).1;simp at this;omega
  subst this;simp at ho;subst ho;exact ⟨b,by rw[List.getElem?_append_right (by rw[h.1];exact Nat.le_refl _)];simp [h.1],hn⟩
theorem newObj_ok {E:Nat→Slot} {objs:List AObj} (h:Rel P ans B0 w Ψ ρ ow an E tmps objs) {ob:AObj} {o:Obj} (ow1:Own) (h1:∀ b,ow1 b≠none→ow b≠none) (hs1:∀ kk i,¬ (kk=false∧i=an.nt)→Same w Ψ ow w Ψ ow1 kk i kk i)
  (hn:ORel (w.alloc o) B0 Ψ (ρ++[w.heap.size]) (oset ow1 w.heap.size (some (true,objs.length,0))) ans objs.length ob w.heap.size) :
  Rel P ans B0 (w.alloc o) Ψ (ρ++[w.heap.size]) (oset ow1 w.heap.size (some (true,objs.length,0))) an E tmps (objs++[ob]) ∧
  Fr w Ψ ow (w.alloc o) Ψ (oset ow1 w.heap.size (some (true,objs.length,0))):=by
 have e:=hset_none h.wsat;have hlt1:∀ b,ow1 b≠none→b < w.heap.size:=fun b hb=>h.lt b (h1 b hb)
 have hsame:∀ kk i,¬ (kk=false∧i=an.nt)→Same w Ψ ow (w.alloc o) Ψ (oset ow1 w.heap.size (some (true,objs.length,0))) kk i kk i:=fun kk i hk b s hb=>by
  obtain ⟨g1,_,_⟩:=hs1 kk i hk b s hb;have h2:=same_alloc (Ψ:=Ψ) (ow:=ow1) (o:=o) (τ:=fun _=>none) (id:=some (true,objs.length,0)) hlt1 kk i b s g1;rw[e] at h2;exact h2
 have hw:=h.wsat.alloc (o:=o) (τ:=fun _=>none) (fun off c hc=>by cases hc);rw[e] at hw;have hf:=Fr.alloc (ow:=ow1) (o:=o) (τ:=fun _=>none) (id:=some (true,objs.length,0)) h.wsat;rw[e] at hf;refine ⟨⟨h.size,hw,fun t=>?_,h.refs,h.boxes,h.objs.push Ψ.le_refl (fun i _=>hsame true i (by simp)) hn,fun b hb=>?_,by have:=h.base;simp;omega,h.hi⟩,⟨hf.le,hf.size,fun b hb ho=>hf.keep b hb ?_,fun b hb=>?_,hf.os,hf.tape,hf.output⟩⟩
 ·rcases Nat.lt_or_ge t an.nt with h2|h2
  ·exact (h.slots t).mono Ψ.le_refl (pre_append _ _) (hsame false t (by simp;omega)) (fun _ _ _=>rfl)
  ·rw[h.hi t h2];exact .dead _
 ·by_cases hbe:b=w.heap.size
  ·simp;omega
  ·have:=hlt1 b (by simpa [oset,hbe] using hb);simp;omega
 ·cases e1:ow1 b with
  |none=>rfl
  |some x=>exact absurd ho (h1 b (by simp [e1]))
 ·rcases hf.own b hb with h3|h3
  ·exact .inl (h1 b h3)
  ·exact .inr h3
end Go.AM
end
section
namespace Go.AM
variable {P:Program} {ans:FuncId→Ann} {an:Ann} {w:World} {B0:Nat} {Ψ:HT} {ρ:List Nat} {ow:Own} {tmps:Array Value} {R:Type} {r:R}
def flatCells (xs:List AVal):List AVal:=xs.flatMap AVal.cells
theorem flatCells_length:∀ {xs:List AVal} {s:Nat},(∀ x∈xs,x.cells.length=s)→(flatCells xs).length=xs.length * s
 |[],s,_=>by simp [flatCells]
 |x::xs,s,h=>by
  have:=flatCells_length (xs:=xs) (s:=s) (fun y hy=>h y (by simp [hy]))
  simp only[flatCells,List.flatMap_cons,List.length_append,List.length_cons] at this ⊢;rw[this,h x (by simp),Nat.add_mul];omega
theorem flatCells_get:∀ {xs:List AVal} {s:Nat},(∀ x∈xs,x.cells.length=s)→∀ {i j:Nat} {x:AVal},xs[i]?=some x→j < s→(flatCells xs)[i * s+j]?=x.cells[j]?
 |[],s,_,i,j,x,hx,_=>by simp at hx
 |y::xs,s,h,0,j,x,hx,hj=>by
  simp at hx;subst hx;simp only[flatCells,List.flatMap_cons,Nat.zero_mul,Nat.zero_add];rw[List.getElem?_append_left (by rw[h y (by simp)];exact hj)]
 |y::xs,s,h,i+1,j,x,hx,hj=>by
  simp at hx;have ih:=flatCells_get (xs:=xs) (s:=s) (fun z hz=>h z (by simp [hz])) hx hj;simp only[flatCells,List.flatMap_cons] at ih ⊢;rw[List.getElem?_append_right (by rw[h y (by simp),Nat.add_mul];omega),h y (by simp),show (i+1) * s+j - s=i * s+j by rw[Nat.add_mul];omega];exact ih
theorem flatCells_inv {xs:List AVal} {s:Nat} (h:∀ x∈xs,x.cells.length=s) {p:Nat} {c:AVal} (hc:(flatCells xs)[p]?=some c):∃ i j x,p=i * s+j∧j < s∧xs[i]?=some x∧x.cells[j]?=some c:=by
 have hp:p < xs.length * s:=by rw[←flatCells_length h];exact (List.getElem?_eq_some_iff.1 hc).1
 have hs:0 < s:=by
  rcases Nat.eq_zero_or_pos s with e|e
  ·subst e;simp at hp
  ·exact e
 have hi:p / s < xs.length:=by rw[Nat.div_lt_iff_lt_mul hs];exact hp
 have hj:=Nat.mod_lt p hs;have he:p=p / s * s+p % s:=by rw[Nat.mul_comm];exact (Nat.div_add_mod p s).symm
 refine ⟨p / s,p % s,xs[p / s],he,hj,by simp [hi],?_⟩
 have:=flatCells_get h (i:=p / s) (j:=p % s) (x:=xs[p / s]) (by simp [hi]) hj
 rw[←this,←he];exact hc
theorem flatCells_append (xs ys:List AVal):flatCells (xs++ys)=flatCells xs++flatCells ys:=by simp [flatCells]
theorem VRel.rows {xs:List AVal} {a:Option Addr} {len cap s:Nat} (h:VRel Ψ ρ (.slice xs) (.slice a len cap)) (hs:∀ x∈xs,x.cells.length=s) :
  xs.length=len∧len≤cap∧(xs≠[]→∃ b o,a=some ⟨b,o,none⟩∧∀ (p:Nat) c,(flatCells xs)[p]?=some c→Ψ b (o+p) c):=by
 cases h with
 |slice _ _ _ _ s' hl hc hx =>
  refine ⟨hl,hc,fun hne=>?_⟩;obtain ⟨x0,rest,rfl⟩:=List.exists_cons_of_ne_nil hne;obtain ⟨e0,b,o,ha,_⟩:=hx 0 x0 (by simp);have es:s'=s:=by rw[←e0];exact hs x0 (by simp)
  refine ⟨b,o,ha,fun p c hc=>?_⟩;obtain ⟨i,j,x,rfl,hj,hxi,hxc⟩:=flatCells_inv hs hc;obtain ⟨_,b',o',ha',ht⟩:=hx i x hxi;rw[ha] at ha';obtain ⟨rfl,rfl⟩:b=b'∧o=o':=by simpa using ha'
  have:=ht j c hxc
  rw[es] at this
  rwa [←Nat.add_assoc]
theorem VRel.of_rows {xs:List AVal} {a:Option Addr} {len cap s:Nat} (hl:xs.length=len) (hc:len≤cap) (hs:∀ x∈xs,x.cells.length=s)
  (h:xs≠[]→∃ b o,a=some ⟨b,o,none⟩∧∀ (p:Nat) c,(flatCells xs)[p]?=some c→Ψ b (o+p) c):VRel Ψ ρ (.slice xs) (.slice a len cap):=by
 refine .slice _ _ _ _ s hl hc fun i x hx=>⟨hs x (List.mem_of_getElem? hx),?_⟩
 obtain ⟨b,o,ha,ht⟩:=h (by intro e;subst e;simp at hx);refine ⟨b,o,ha,fun j c hj=>?_⟩;have hjs:j < s:=by rw[←hs x (List.mem_of_getElem? hx)];exact (List.getElem?_eq_some_iff.1 hj).1
 have:=ht (i * s+j) c (by rw[flatCells_get hs hx hjs];exact hj)
 rwa [Nat.add_assoc]
theorem WSat.row (hw:WSat Ψ w) {b o:Nat} {cs:List AVal} (h:∀ (p:Nat) c,cs[p]?=some c→Ψ b (o+p) c) :
  ∃ vs:List Value,vs.length=cs.length∧(∀ (p:Nat) v,vs[p]?=some v→w.cell? ⟨b,o+p,none⟩=some v)∧(∀ v∈vs,oneC v=true)∧∀ (p:Nat) c v,cs[p]?=some c→vs[p]?=some v→flat c=true∧VRel Ψ [] c v:=by
 have hex:∀ p,p < cs.length→∃ v,w.cell? ⟨b,o+p,none⟩=some v∧flat (cs.getD p .nilptr)=true∧VRel Ψ [] (cs.getD p .nilptr) v:=fun p hp=>by
  obtain ⟨h1,v,h2,h3⟩:=hw.sat _ _ _ (h p cs[p] (by simp [hp]));exact ⟨v,h2,by simpa [hp] using h1,by simpa [hp] using h3⟩
 refine ⟨(List.range cs.length).map fun p=>(w.cell? ⟨b,o+p,none⟩).getD undef,by simp,?_,?_,?_⟩
 ·intro p v hv
  have hp:p < cs.length:=by have:=(List.getElem?_eq_some_iff.1 hv).1;simpa using this
  obtain ⟨u,hu,_⟩:=hex p hp;rw[List.getElem?_map,List.getElem?_range hp] at hv;simp [hu] at hv ⊢;exact hv
 ·intro v hv
  simp only[List.mem_map,List.mem_range] at hv;obtain ⟨p,hp,rfl⟩:=hv;obtain ⟨u,hu,h1,h2⟩:=hex p hp;rw[hu];exact h2.one (flat_isCell h1)
 ·intro p c v hc hv
  have hp:p < cs.length:=(List.getElem?_eq_some_iff.1 hc).1;obtain ⟨u,hu,h1,h2⟩:=hex p hp;rw[List.getElem?_map,List.getElem?_range hp] at hv;simp [hu] at hv;subst hv
  have:cs.getD p .nilptr=c:=by simp [List.getD_eq_getElem?_getD,hc]
  rw[this] at h1 h2;exact ⟨h1,h2⟩
theorem growBy_le (n:Nat):∀ (rounds c:Nat),c≤2 * n+512→(c < n∨c≤2 * n+512)→Builtin.growBy n rounds c≤2 * n+512
 |0,c,h,_=>h
 |k+1,c,h,_=>by
  unfold Builtin.growBy;split
  ·exact h
  ·exact growBy_le n k _ (by omega) (.inr (by omega))
theorem nextslicecap_le {need c:Nat} (h:c < need):Builtin.nextslicecap need c≤2 * need+512:=by
 unfold Builtin.nextslicecap;split
 ·omega
 ·split
  ·omega
  ·exact growBy_le need 4 c (by omega) (.inl h)
theorem run_firstCells {b o size n cap:Nat} {vs:List Value} (hl:vs.length=n * size) (h:∀ (p:Nat) v,vs[p]?=some v→w.cell? ⟨b,o+p,none⟩=some v) :
  (Builtin.firstCells size n (.slice (some ⟨b,o,none⟩) n cap)).run P w=.ok ⟨vs⟩ w:=by
 have:=run_loadCells_list (P:=P) (w:=w) ⟨b,o,none⟩ vs (fun j v hj=>by rw[add_mk];exact h j v hj)
 simp [Builtin.firstCells,←hl,this]
theorem zeroCells_size (zero:Array Value) (n:Nat):(Builtin.zeroCells zero n).size=n * zero.size:=by simp [Builtin.zeroCells]
theorem append_core {E:Nat→Slot} {objs:List AObj} (h:Rel P ans B0 w Ψ ρ ow an E tmps objs) {sz:Nat} {xs ys:List AVal} {v x:Value} (ho:OwnRel w B0 Ψ ow (false,an.nt,1) sz xs v) (hy:VRel Ψ ρ (.slice ys) x)
  (hys:∀ y∈ys,y.cells.length=sz) {ts:Array TypeId} {ty t1 t2 e e2:TypeId} (h1:ts[0]?=some t1) (h2:ts[1]?=some t2) (hu1:P.underlying t1=some (.slice e)) (hu2:P.underlying t2=some (.slice e2)) (hsz:szOf P e=some sz) (hpos:0 < sz)
  {z:Value} (hz:(P.info? e).bind (·.zero)=some z) (hzs:z.cells.size=sz) (hby:bytesAt P e≤16384) (hby0:0 < bytesAt P e) (hroom:xs.length+ys.length≤room) :
  ∃ v' w' Ψ' ow',(Builtin.append_ ts ty #[v,x]).run P w=.ok v' w'∧Rel P ans B0 w' Ψ' ρ ow' an E tmps objs∧OwnRel w' B0 Ψ' ow' (false,an.nt,1) sz (xs++ys) v'∧Fr w Ψ ow w' Ψ' ow':=by
 obtain ⟨hx,hxs,base,sLen,sCap,rfl,hrest⟩:=ho;obtain ⟨hl,hlc,hrow⟩:=hx.rows hxs;cases hy with
 |slice _ xa n xcap s' hln hcn hxx =>
 have hyv:VRel Ψ ρ (.slice ys) (.slice xa n xcap):=.slice _ _ _ _ s' hln hcn hxx;obtain ⟨_,_,hyrow⟩:=hyv.rows hys;have hbytes:∀ i,P.info? e=some i→i.bytes=bytesAt P e:=fun i hi=>by simp [bytesAt,hi]
 obtain ⟨ti,hti⟩:∃ ti,P.info? e=some ti:=by
  cases hi:P.info? e with
  |none=>simp [hi] at hz
  |some ti=>exact ⟨ti,rfl⟩
 have hzz:ti.zero=some z:=by simpa [hti] using hz
 obtain ⟨yv,yl,yc,y1,yr⟩:∃ yv:List Value,yv.length=n * sz∧(Builtin.firstCells sz n (.slice xa n xcap)).run P w=.ok ⟨yv⟩ w∧(∀ u∈yv,oneC u=true)∧∀ (p:Nat) c u,(flatCells ys)[p]?=some c→yv[p]?=some u→flat c=true∧VRel Ψ [] c u:=by
  by_cases hne:ys=[]
  ·subst hne
   simp at hln;subst hln;refine ⟨[],by simp,?_,by simp,by simp⟩;cases xa with
   |none=>simp [Builtin.firstCells]
   |some a=>simp [Builtin.firstCells,loadCells,loadCellsFrom]
  ·obtain ⟨b,o,rfl,ht⟩:=hyrow hne
   obtain ⟨yv,l1,l2,l3,l4⟩:=h.wsat.row ht;have hyl:yv.length=n * sz:=by rw[l1,flatCells_length hys,hln]
   exact ⟨yv,hyl,run_firstCells hyl l2,l3,l4⟩
 have hxy:∀ u∈xs++ys,u.cells.length=sz:=fun u hu=>by
  rcases List.mem_append.1 hu with hu|hu
  ·exact hxs u hu
  ·exact hys u hu
 have hflen:(flatCells xs).length=sLen * sz:=by rw[flatCells_length hxs,hl]
 have hylen:(flatCells ys).length=n * sz:=by rw[flatCells_length hys,hln]
 by_cases hfit:sLen+n≤sCap
 ·
  by_cases hn0:n=0
  ·subst hn0
   have hys0:ys=[]:=by cases ys with|nil=>rfl|cons a b=>simp at hln
   subst hys0;have hyv0:yv=[]:=by cases yv with|nil=>rfl|cons a b=>simp at yl
   subst hyv0;refine ⟨.slice base sLen sCap,w,Ψ,ow,?_,h,⟨by simpa using hx,by simpa using hxs,base,sLen,sCap,rfl,hrest⟩,Fr.refl _ _ _⟩;cases base with
   |none=>simp [Builtin.append_,h1,h2,run_underlying hu1,run_underlying hu2,run_sizeOf hsz,Builtin.lenOf,yc,hlc]
   |some a=>simp [Builtin.append_,h1,h2,run_underlying hu1,run_underlying hu2,run_sizeOf hsz,Builtin.lenOf,yc,hlc,storeCells]
  ·have hlt:¬ sLen=sCap:=by omega
   rcases hrest with hrest|⟨b,o,cs,E',rfl,hob,hh,hB,hcap,hfree⟩
   ·exact absurd hrest hlt
   ·obtain ⟨cs⟩:=cs
    have hcap':o+sCap * sz≤cs.length:=by simpa using hcap
    have hmul:(sLen+n) * sz≤sCap * sz:=Nat.mul_le_mul_right _ hfit;have hmul2:(sLen+n) * sz=sLen * sz+n * sz:=Nat.add_mul _ _ _;have hblt:b < w.heap.size:=(Array.getElem?_eq_some_iff.1 hh).1;have hst:=run_storeCells (P:=P) (T:=E') yv (o+sLen * sz) 0 w cs hh y1 (by rw[yl];omega);rw[Nat.add_zero] at hst;generalize hw':w.putObj b (.cells ⟨overwrite cs (o+sLen * sz) yv⟩ E' (0,0))=w' at hst;have hheap:w'.heap[b]?=some (.cells ⟨overwrite cs (o+sLen * sz) yv⟩ E' (0,0)):=by rw[←hw'];exact World.putObj_heap_same hblt
    have hother:∀ b',b'≠b→w'.heap[b']?=w.heap[b']?:=fun b' hb'=>by rw[←hw'];exact World.putObj_heap_other hb'
    have hsize:w'.heap.size=w.heap.size:=by rw[←hw'];simp
    let Ψ':HT:=fun b' o'=>if b'=b∧o+sLen * sz≤o'∧o' < o+sLen * sz+n * sz then (fun c=>(flatCells ys)[o' - (o+sLen * sz)]?=some c) else Ψ b' o'
    have hle:Ψ.le Ψ':=fun b' o' c hc=>by
     have:¬ (b'=b∧o+sLen * sz≤o'∧o' < o+sLen * sz+n * sz):=fun ⟨e1,e2,_⟩=>by subst e1;rw[hfree o' e2] at hc;exact hc
     simp only[Ψ',if_neg this];exact hc
    have hΨo:∀ b',b'≠b→∀ o',Ψ' b' o'=Ψ b' o':=fun b' hb' o'=>by simp [Ψ',hb']
    have hsame:∀ kk i,¬ (kk=false∧i=an.nt)→Same w Ψ ow w' Ψ' ow kk i kk i:=fun kk i hk b' s hb'=>by
     have hne:b'≠b:=fun e=>by subst e;rw[hob] at hb';simp only[Option.some.injEq,Prod.mk.injEq] at hb';exact hk ⟨hb'.1.symm,hb'.2.1.symm⟩
     exact ⟨hb',hother b' hne,fun o' ho'=>by rw[hΨo b' hne];exact ho'⟩
    have hws:WSat Ψ' w':=⟨h.wsat.glob.mono hle,by
     obtain ⟨c5,t5,f5,k1,k2⟩:=h.wsat.len5;by_cases h5:5=b
     ·subst h5
      rw[hh] at k1;cases k1;exact ⟨_,_,_,hheap,by rw[List.size_toArray,overwrite_length _ _ _ (by rw[yl];omega)];simpa using k2⟩
     ·exact ⟨c5,t5,f5,(hother 5 h5).trans k1,k2⟩,fun b' o' c hc=>by
     by_cases hb':b'=b
     ·subst hb'
      by_cases hin:o+sLen * sz≤o'∧o' < o+sLen * sz+n * sz
      ·simp only[Ψ',hin,and_self,true_and,if_true] at hc
       have hp:o' - (o+sLen * sz) < yv.length:=by rw[yl];omega
       obtain ⟨f1,f2⟩:=yr _ c yv[o' - (o+sLen * sz)] hc (by simp [hp]);refine ⟨f1,yv[o' - (o+sLen * sz)],?_,f2.mono hle (pre_refl _)⟩;rw[cell_of_heap hheap,overwrite_get _ _ _ _ (by rw[yl];omega),if_neg (by omega),if_pos (by rw[yl];omega)];simp [hp]
      ·have hc':Ψ b' o' c:=by
        have:¬ (b'=b'∧o+sLen * sz≤o'∧o' < o+sLen * sz+n * sz):=fun e=>hin e.2
        simpa only [Ψ',if_neg this] using hc
       have hlo:o' < o+sLen * sz:=by
        rcases Nat.lt_or_ge o' (o+sLen * sz) with h'|h'
        ·exact h'
        ·rw[hfree o' h'] at hc';exact (hc':False).elim
       obtain ⟨f1,u,f2,f3⟩:=h.wsat.sat b' o' c hc';refine ⟨f1,u,?_,f3.mono hle (pre_refl _)⟩;rw[cell_of_heap hh] at f2;rw[cell_of_heap hheap,overwrite_get _ _ _ _ (by rw[yl];omega),if_pos hlo];exact f2
     ·rw[hΨo b' hb'] at hc
      obtain ⟨f1,u,f2,f3⟩:=h.wsat.sat b' o' c hc;exact ⟨f1,u,(cell_congr (hother b' hb') o').trans f2,f3.mono hle (pre_refl _)⟩⟩
    refine ⟨.slice (some ⟨b,o,none⟩) (sLen+n) sCap,w',Ψ',ow,?_,?_,?_,?_⟩
    ·simp [Builtin.append_,h1,h2,run_underlying hu1,run_underlying hu2,run_sizeOf hsz,Builtin.lenOf,yc,hfit,add_mk,hst]
    ·refine ⟨h.size,hws,fun u=>?_,h.refs,h.boxes,h.objs.mono hle (fun i _=>hsame true i (by simp)),fun b' hb'=>by rw[hsize];exact h.lt b' hb',by rw[hsize];exact h.base,h.hi⟩
     rcases Nat.lt_or_ge u an.nt with hu|hu
     ·exact (h.slots u).mono hle (pre_refl _) (hsame false u (by simp;omega)) (fun _ _ _=>rfl)
     ·rw[h.hi u hu];exact .dead _
    ·refine ⟨?_,hxy,_,_,_,rfl,.inr ⟨b,o,_,E',rfl,hob,hheap,hB,?_,?_⟩⟩
     ·refine .of_rows (s:=sz) (by simp [hl,hln]) hfit hxy fun _=>⟨b,o,rfl,fun p c hc=>?_⟩
      rw[flatCells_append,List.getElem?_append,hflen] at hc
      split at hc
      ·rename_i hp
       have hxne:xs≠[]:=by intro e;subst e;simp at hl;subst hl;simp at hp
       obtain ⟨b1,o1,e1,ht⟩:=hrow hxne;obtain ⟨rfl,rfl⟩:b=b1∧o=o1:=by simpa using e1
       exact hle _ _ _ (ht p c hc)
      ·rename_i hp
       have hp2:p - sLen * sz < n * sz:=by rw[←hylen];exact (List.getElem?_eq_some_iff.1 hc).1
       have:b=b∧o+sLen * sz≤o+p∧o+p < o+sLen * sz+n * sz:=⟨rfl,by omega,by omega⟩
       simp only[Ψ',if_pos this];rw[show o+p - (o+sLen * sz)=p - sLen * sz by omega];exact hc
     ·show o+sCap * sz≤(overwrite cs (o+sLen * sz) yv).length
      rw[overwrite_length _ _ _ (by rw[yl];omega)];exact hcap'
     ·intro o' ho'
      have:¬ (b=b∧o+sLen * sz≤o'∧o' < o+sLen * sz+n * sz):=fun e=>by have:=e.2.2;omega
      simp only[Ψ',if_neg this];exact hfree o' (by omega)
    ·exact ⟨hle,by rw[hsize];exact Nat.le_refl _,fun b' _ hb'=>by
      have hne:b'≠b:=fun e=>by subst e;rw[hob] at hb';cases hb'
      exact ⟨hother b' hne,hΨo b' hne⟩,fun _ hb'=>.inl hb',by rw[←hw'];rfl,by rw[←hw'];rfl,by rw[←hw'];rfl⟩
 ·
  obtain ⟨xv,xl,xc,xr⟩:∃ xv:List Value,xv.length=sLen * sz∧(∀ w1:World,w1.heap=w.heap→(Builtin.firstCells sz sLen (.slice base sLen sCap)).run P w1=.ok ⟨xv⟩ w1)∧∀ (p:Nat) c u,(flatCells xs)[p]?=some c→xv[p]?=some u→flat c=true∧VRel Ψ [] c u:=by
   by_cases hne:xs=[]
   ·subst hne
    simp at hl;subst hl;refine ⟨[],by simp,fun w1 _=>?_,by simp⟩;cases base with
    |none=>simp [Builtin.firstCells]
    |some a=>simp [Builtin.firstCells,loadCells,loadCellsFrom]
   ·obtain ⟨b,o,rfl,ht⟩:=hrow hne
    obtain ⟨xv,l1,l2,_,l4⟩:=h.wsat.row ht;have hxl:xv.length=sLen * sz:=by rw[l1,hflen]
    exact ⟨xv,hxl,fun w1 e=>run_firstCells hxl (fun p u hu=>(cell_congr (by rw[e]) _).trans (l2 p u hu)),l4⟩
  have yc':∀ w1:World,w1.heap=w.heap→(Builtin.firstCells sz n (.slice xa n xcap)).run P w1=.ok ⟨yv⟩ w1:=fun w1 e=>by
   by_cases hne:ys=[]
   ·subst hne
    simp at hln;subst hln
    have:yv=[]:=by cases yv with|nil=>rfl|cons a b=>simp at yl
    subst this;cases xa with
    |none=>simp [Builtin.firstCells]
    |some a=>simp [Builtin.firstCells,loadCells,loadCellsFrom]
   ·obtain ⟨b,o,rfl,ht⟩:=hyrow hne
    obtain ⟨yv',l1,l2,_,l4⟩:=h.wsat.row ht;have hyl:yv'.length=n * sz:=by rw[l1,hylen]
    have e1:=run_firstCells (P:=P) (cap:=xcap) hyl l2;rw[yc] at e1;obtain rfl:yv=yv':=by simpa using e1
    exact run_firstCells hyl (fun p u hu=>(cell_congr (by rw[e]) _).trans (l2 p u hu))
  have hgrow:=nextslicecap_le (need:=sLen+n) (c:=sCap) (by omega);have hroom':sLen+n≤4294967296:=by rw[←hl,←hln];exact hroom
  have hby':bytesAt P e=ti.bytes:=(hbytes ti hti).symm
  have hnl:¬ Builtin.nextslicecap (sLen+n) sCap * ti.bytes > 2 ^ 48:=by
   have h1:Builtin.nextslicecap (sLen+n) sCap * ti.bytes≤(2 * (sLen+n)+512) * 16384:=Nat.mul_le_mul hgrow (by rw[←hby'];exact hby);omega
  have hnb:¬ ti.bytes=0:=by rw[←hby'];omega
  obtain ⟨newCap,hnc,hcut⟩:∃ newCap,sLen+n≤newCap∧(Question.appendCap (sLen+n) sCap e).cut (w.tape w.drawn (Question.appendCap (sLen+n) sCap e))=newCap :=
   ⟨_,by simp only[Question.cut];omega,rfl⟩
  obtain ⟨w1,hw1⟩:∃ w1,w1=w.drew:=⟨_,rfl⟩
  have hw1h:w1.heap=w.heap:=by rw[hw1];rfl
  have hw1o:w1.os=w.os:=by rw[hw1];rfl
  have hw1t:w1.tape=w.tape:=by rw[hw1];rfl
  have hw1u:w1.output=w.output:=by rw[hw1];rfl
  have hfo:(Question.appendCap (sLen+n) sCap e).forced=false:=rfl;have h':=h.heap hw1h
  let cells:List Value:=xv++yv++(Builtin.zeroCells z.cells (newCap - (sLen+n))).toList
  have hcl:cells.length=newCap * sz:=by
   have e1:newCap * sz=(sLen+n) * sz+(newCap - (sLen+n)) * sz:=by rw[←Nat.add_mul];congr 1;omega
   simp only[cells,List.length_append,xl,yl,Array.length_toList,zeroCells_size,hzs];rw[e1,Nat.add_mul]
  have hrun:(Builtin.append_ ts ty #[.slice base sLen sCap,.slice xa n xcap]).run P w=.ok (.slice (some ⟨w1.heap.size,0,none⟩) (sLen+n) newCap) (w1.alloc (.cells ⟨cells⟩ e)):=by
   simp only[Builtin.append_,Sem.run_bind,h1,h2];simp [run_underlying hu1,run_underlying hu2,run_sizeOf hsz,Builtin.lenOf,hfit,run_typeInfo hti,hnb,hnl,hfo,hcut,←hw1,xc w1 hw1h,yc' w1 hw1h,run_zeroValue hz,newRow,cells];congr 2;apply Array.ext';simp
  let τ:Nat→Option AVal:=fun off=>(flatCells (xs++ys))[off]?
  have hτ:∀ off c,τ off=some c→flat c=true∧∃ u,(w1.alloc (.cells ⟨cells⟩ e)).cell? ⟨w1.heap.size,off,none⟩=some u∧VRel Ψ [] c u:=fun off c hc=>by
   have hcell:(w1.alloc (.cells ⟨cells⟩ e)).cell? ⟨w1.heap.size,off,none⟩=cells[off]?:=cell_of_heap (heap_alloc_new _) off;simp only[τ] at hc;rw[flatCells_append,List.getElem?_append,hflen] at hc
   split at hc
   ·rename_i hp
    have hx':off < xv.length:=by rw[xl];exact hp
    obtain ⟨f1,f2⟩:=xr off c xv[off] hc (by simp [hx']);refine ⟨f1,xv[off],?_,f2⟩;rw[hcell];simp only[cells,List.append_assoc];rw[List.getElem?_append_left hx'];simp [hx']
   ·rename_i hp
    have hp2:off - sLen * sz < yv.length:=by rw[yl,←hylen];exact (List.getElem?_eq_some_iff.1 hc).1
    obtain ⟨f1,f2⟩:=yr _ c yv[off - sLen * sz] hc (by simp [hp2]);refine ⟨f1,yv[off - sLen * sz],?_,f2⟩;rw[hcell];simp only[cells,List.append_assoc];rw[List.getElem?_append_right (by rw[xl];omega),xl,List.getElem?_append_left hp2];simp [hp2]
  have hR:=h'.alloc (o:=.cells ⟨cells⟩ e) (τ:=τ) (id:=some (false,an.nt,1)) hτ;refine ⟨_,_,_,_,hrun,hR,⟨?_,hxy,_,_,_,rfl,.inr ⟨w1.heap.size,0,⟨cells⟩,e,rfl,by simp [oset],heap_alloc_new _,h'.base,by simpa using Nat.le_of_eq hcl.symm,?_⟩⟩,?_⟩
  ·refine .of_rows (s:=sz) (by simp [hl,hln]) hnc hxy fun _=>⟨_,_,rfl,fun p c hc=>?_⟩
   simpa [hset,τ] using hc
  ·intro o' ho'
   simp only[hset,if_true,τ]
   have hnn:(flatCells (xs++ys))[o']?=none:=by
    rw[List.getElem?_eq_none_iff,flatCells_length hxy];simp [hl,hln] at ho' ⊢;omega
   rw[hnn];funext c;exact propext ⟨fun e=>(by cases e),fun e=>(e:False).elim⟩
  ·exact (Fr.heap hw1h hw1o hw1t hw1u).trans (Fr.alloc h'.wsat)
end Go.AM
end
section
namespace Go.AM
variable {P:Program} {ans:FuncId→Ann} {an:Ann} {w:World} {B0:Nat} {Ψ:HT} {ρ:List Nat} {ow:Own} {tmps:Array Value} {R:Type} {r:R}
variable {tm:List Slot} {rs:RS} {dst:Option Nat} {m:Machine} {mk mp:Value→World→Machine} {kp:AVal→RS→Option R} {k:Slot→RS→Option R} {ds:List Deferred}
theorem elemsA_ok (h:Rel P ans B0 w Ψ ρ ow an (sl an tm rs) tmps rs.sto.objs):∀ {ps:List (Nat×Operand)} {k:List (Nat×AVal)→Option R},elemsA an.keep tm rs ps k=some r →
  ∃ l,k l=some r∧l.length=ps.length∧∀ (n:Nat) (p:Nat×AVal) (q:Nat×Operand),l[n]?=some p→ps[n]?=some q→p.1=q.1∧VRel Ψ ρ p.2 ((⟨tmps,ds⟩:Act).eval q.2)
 |[],k,e=>⟨[],by simpa [elemsA] using e,rfl,fun n p q hp=>by simp at hp⟩
 |(i,x)::ps,k,e=>by
  simp only[elemsA] at e;obtain ⟨t,hs,_⟩:=opS_rel (ds:=ds) h x;obtain ⟨y,e1,hy⟩:=asV_ok hs e;obtain ⟨l,e2,hl,hr⟩:=elemsA_ok h e1;refine ⟨(i,y)::l,e2,by simp [hl],fun n p q hp hq=>?_⟩;cases n with
  |zero=>simp at hp hq;subst hp;subst hq;exact ⟨rfl,hy⟩
  |succ n=>simp at hp hq;exact hr n p q hp hq
theorem foldl_set:∀ (l:List Value) (k off:Nat) (cells:Array Value),off+k+l.length≤cells.size →
  (l.zipIdx k).foldl (fun cs (p:Value×Nat)=>cs.setIfInBounds (off+p.2) p.1) cells=⟨overwrite cells.toList (off+k) l⟩
 |[],k,off,cells,_=>by simp [overwrite]
 |v::l,k,off,cells,h=>by
  simp only[List.length_cons] at h;rw[List.zipIdx_cons,List.foldl_cons,foldl_set l (k+1) off (cells.setIfInBounds (off+k) v) (by simp;omega)];congr 1;have hlt:off+k < cells.toList.length:=by simp;omega
  unfold overwrite;rw[show off+(k+1)=off+k+1 by omega,Array.toList_setIfInBounds,List.take_succ_eq_append_getElem (by simpa using hlt)];simp only[List.getElem_set_self,List.length_cons];rw[List.take_set_of_le (Nat.le_refl _),List.drop_set_of_lt (by omega)];simp [show off+k+1+l.length=off+k+(l.length+1) by omega]
theorem fill_one (cells:Array Value) (off:Nat) (v:Value) (h:off+v.cells.size≤cells.size) :
  v.cells.zipIdx.foldl (fun cs (c,j)=>cs.setIfInBounds (off+j) c) cells=⟨overwrite cells.toList off v.cells.toList⟩:=by
 have:=foldl_set v.cells.toList 0 off cells (by simpa using h)
 rw[←Array.foldl_toList,Array.toList_zipIdx];simpa using this
theorem fill_ok {place:Nat→Option (Nat×Nat)} {i0:Nat}:∀ {l:List (Nat×AVal)} {lv:List (Nat×Value)} {cs cs':List Cell} {vs:List Value},fillA place cs l=some cs'→l.length=lv.length →
  (∀ (n:Nat) p q,l[n]?=some p→lv[n]?=some q→p.1=q.1∧VRel Ψ ρ p.2 q.2)→CsRel w B0 Ψ ρ ow false i0 cs vs →
  ∃ vs',Instr.fill place ⟨vs⟩ lv=some ⟨vs'⟩∧CsRel w B0 Ψ ρ ow false i0 cs' vs'
 |[],[],cs,cs',vs,e,_,_,hc=>by simp [fillA] at e;subst e;exact ⟨vs,rfl,hc⟩
 |[],_::_,_,_,_,_,hl,_,_=>by simp at hl
 |_::_,[],_,_,_,_,hl,_,_=>by simp at hl
 |(i,x)::l,(i',v)::lv,cs,cs',vs,e,hl,hr,hc=>by
  obtain ⟨hi,hx⟩:=hr 0 (i,x) (i',v) (by simp) (by simp);simp only at hi hx;subst hi;simp only[fillA] at e;obtain ⟨⟨off,s⟩,hp,e⟩:=bind_ok e;simp only at e;cases hcond:Nat.beq x.cells.length s&&Nat.ble (off+s) cs.length with
  |false=>simp [hcond] at e
  |true =>
   simp only[hcond,cond_true] at e;simp only[Bool.and_eq_true] at hcond;have h1:x.cells.length=s:=Nat.eq_of_beq_eq_true hcond.1;have h2:off+s≤cs.length:=Nat.le_of_ble_eq_true hcond.2;have hxv:=hx.csRel (w:=w) (B0:=B0) (ow:=ow) false i0;have hlen:v.cells.toList.length=s:=by rw[←h1];simpa using hxv.1.symm
   have hvl:vs.length=cs.length:=hc.1.symm
   have hnew:CsRel w B0 Ψ ρ ow false i0 (cs.take off++x.cells.map .val++cs.drop (off+x.cells.length)) (overwrite vs off v.cells.toList):=by
    have heq:cs.take off++x.cells.map .val++cs.drop (off+x.cells.length)=overwrite cs off (x.cells.map .val):=by simp [overwrite]
    rw[heq];refine ⟨by rw[overwrite_length _ _ _ (by simp;omega),overwrite_length _ _ _ (by rw[hlen];omega)];exact hc.1,fun j c u hcj huj=>?_⟩;rw[overwrite_get _ _ _ _ (by simp;omega)] at hcj;rw[overwrite_get _ _ _ _ (by rw[hlen];omega),hlen,←h1] at huj;simp only[List.length_map] at hcj;by_cases g1:j < off
    ·rw[if_pos g1] at hcj huj;exact hc.2 j c u hcj huj
    ·rw[if_neg g1] at hcj huj
     by_cases g2:j < off+x.cells.length
     ·rw[if_pos g2] at hcj huj
      have:=hxv.2 (j - off) c u hcj huj
      simp only[List.getElem?_map,Option.map_eq_some_iff] at hcj;obtain ⟨c',_,rfl⟩:=hcj;cases this with|val _ _ a b=>exact .val _ _ a b
     ·rw[if_neg g2] at hcj huj;exact hc.2 j c u hcj huj
   obtain ⟨vs',f1,f2⟩:=fill_ok e (by simpa using hl) (fun n p q hp' hq'=>hr (n+1) p q (by simpa using hp') (by simpa using hq')) hnew;refine ⟨vs',?_,f2⟩;have hsz:v.cells.size=s:=by simpa using hlen
   simp only[Instr.fill,hp];rw[if_neg (by simp [hsz];omega),fill_one _ _ _ (by simp;omega)];exact f1
theorem build_ok (h:Rel P ans B0 w Ψ ρ ow an (sl an tm rs) tmps rs.sto.objs) {t:TypeId} {parts:Array (Nat×Operand)} {cs z:List Cell} {l:List (Nat×AVal)} (hz:zeroCells P t=some z) (hl:l.length=parts.toList.length)
  (hr:∀ (n:Nat) (p:Nat×AVal) (q:Nat×Operand),l[n]?=some p→parts.toList[n]?=some q→p.1=q.1∧VRel Ψ ρ p.2 ((⟨tmps,ds⟩:Act).eval q.2)) {place:Nat→Option (Nat×Nat)} (hf:fillA place z l=some cs)
  (hb:∀ zv,(P.info? t).bind (·.zero)=some zv→P.built t (parts.map fun (i,x)=>(i,(⟨tmps,ds⟩:Act).eval x)).toList=Instr.fill place zv.cells (parts.map fun (i,x)=>(i,(⟨tmps,ds⟩:Act).eval x)).toList) :
  ∃ vs,(Instr.build t (parts.map fun (i,x)=>(i,(⟨tmps,ds⟩:Act).eval x))).run P w=.ok (.agg ⟨vs⟩) w∧CsRel w B0 Ψ ρ ow false an.nt cs vs:=by
 obtain ⟨zv,hzv,hzr⟩:=zeroCells_rel (w:=w) (B0:=B0) (Ψ:=Ψ) (ρ:=ρ) (ow:=ow) hz false an.nt
 obtain ⟨vs',f1,f2⟩:=fill_ok (lv:=(parts.map fun (i,x)=>(i,(⟨tmps,ds⟩:Act).eval x)).toList) hf (by simpa using hl) (fun n p q hp hq=>by
  simp only[Array.toList_map,List.getElem?_map,Option.map_eq_some_iff] at hq;obtain ⟨q',hq',rfl⟩:=hq;exact hr n p q' hp hq') hzr
 refine ⟨vs',run_build w t _ ⟨vs'⟩ ?_,f2⟩;rw[hb zv hzv];exact f1
theorem setElems_ok {s:Nat}:∀ {l:List (Nat×AVal)} {lv:List (Nat×Value)} {xs xs':List AVal} {vs:List Value},setElems s xs l=some xs'→l.length=lv.length →
  (∀ (n:Nat) p q,l[n]?=some p→lv[n]?=some q→p.1=q.1∧VRel Ψ ρ p.2 q.2)→(∀ x∈xs,x.cells.length=s∧clean x=true) →
  ((flatCells xs).length=vs.length∧∀ (p:Nat) c v,(flatCells xs)[p]?=some c→vs[p]?=some v→VRel Ψ [] c v) →
  ∃ vs',Instr.fill (fun i=>some (i * s,s)) ⟨vs⟩ lv=some ⟨vs'⟩∧xs'.length=xs.length∧(∀ x∈xs',x.cells.length=s∧clean x=true) ∧
   ((flatCells xs').length=vs'.length∧∀ (p:Nat) c v,(flatCells xs')[p]?=some c→vs'[p]?=some v→VRel Ψ [] c v)
 |[],[],xs,xs',vs,e,_,_,hx,hc=>by simp [setElems] at e;subst e;exact ⟨vs,rfl,rfl,hx,hc⟩
 |[],_::_,_,_,_,_,hl,_,_,_=>by simp at hl
 |_::_,[],_,_,_,_,hl,_,_,_=>by simp at hl
 |(i,x)::l,(i',v)::lv,xs,xs',vs,e,hl,hr,hx,hc=>by
  obtain ⟨hi,hxv⟩:=hr 0 (i,x) (i',v) (by simp) (by simp);simp only at hi hxv;subst hi;simp only[setElems] at e;cases hcond:Nat.beq x.cells.length s&&Nat.blt i xs.length&&clean x with
  |false=>simp [hcond] at e
  |true =>
   simp only[hcond,cond_true] at e;simp only[Bool.and_eq_true] at hcond;have h1:x.cells.length=s:=Nat.eq_of_beq_eq_true hcond.1.1;have h2:i < xs.length:=by have:=hcond.1.2;simpa [Nat.blt_eq] using this
   have hvc:v.cells.toList.length=s:=by rw[←h1];simpa using (hxv.cells).1.symm
   have hx1:∀ y∈xs,y.cells.length=s:=fun y hy=>(hx y hy).1
   have hx2:∀ y∈xs.set i x,y.cells.length=s∧clean y=true:=fun y hy=>by
    rcases List.mem_or_eq_of_mem_set hy with h'|h'
    ·exact hx y h'
    ·subst h';exact ⟨h1,hcond.2⟩
   have hx3:∀ y∈xs.set i x,y.cells.length=s:=fun y hy=>(hx2 y hy).1
   have hfl:(flatCells xs).length=xs.length * s:=flatCells_length hx1
   have hmul:i * s+s≤xs.length * s:=by
    have:=Nat.mul_le_mul_right s (show i+1≤xs.length by omega)
    rw[Nat.add_mul] at this;omega
   have hvl:i * s+s≤vs.length:=by rw[←hc.1,hfl];exact hmul
   have hset:(flatCells (xs.set i x)).length=(overwrite vs (i * s) v.cells.toList).length∧∀ (p:Nat) c u,(flatCells (xs.set i x))[p]?=some c→(overwrite vs (i * s) v.cells.toList)[p]?=some u→VRel Ψ [] c u:=by
    refine ⟨by rw[flatCells_length hx3,overwrite_length _ _ _ (by rw[hvc];exact hvl),←hc.1,hfl];simp,fun p c u hpc hpu=>?_⟩;obtain ⟨a,j,y,rfl,hj,hya,hyc⟩:=flatCells_inv hx3 hpc;rw[overwrite_get _ _ _ _ (by rw[hvc];exact hvl),hvc] at hpu;rw[List.getElem?_set] at hya;by_cases hia:i=a
    ·subst hia
     simp [h2] at hya;subst hya;rw[if_neg (by omega),if_pos (by omega),show i * s+j - i * s=j by omega] at hpu;exact ((hxv.clean (ρ':=[]) hcond.2).cells).2.2 j c u hyc (by simpa using hpu)
    ·rw[if_neg hia] at hya
     have hne:¬ (i * s≤a * s+j∧a * s+j < i * s+s):=by
      rintro ⟨g1,g2⟩
      rcases Nat.lt_or_gt_of_ne hia with h'|h'
      ·have:=Nat.mul_le_mul_right s (show i+1≤a by omega);rw[Nat.add_mul] at this;omega
      ·have:=Nat.mul_le_mul_right s (show a+1≤i by omega);rw[Nat.add_mul] at this;omega
     have hpu':vs[a * s+j]?=some u:=by
      by_cases g1:a * s+j < i * s
      ·rw[if_pos g1] at hpu;exact hpu
      ·rw[if_neg g1,if_neg (by omega)] at hpu;exact hpu
     exact hc.2 (a * s+j) c u (by rw[flatCells_get hx1 hya hj];exact hyc) hpu'
   obtain ⟨vs',f1,f2,f3,f4⟩:=setElems_ok e (by simpa using hl) (fun n p q hp' hq'=>hr (n+1) p q (by simpa using hp') (by simpa using hq')) hx2 hset;refine ⟨vs',?_,by simpa using f2,f3,f4⟩;have hsz:v.cells.size=s:=by simpa using hvc
   simp only[Instr.fill];rw[if_neg (by simp [hsz];omega),fill_one _ _ _ (by simp [hsz];omega)];exact f1
theorem flatCells_replicate (n:Nat) (z:AVal):∀ (p:Nat) c,(flatCells (List.replicate n z))[p]?=some c→z.cells[p % z.cells.length]?=some c:=by
 intro p c h;obtain ⟨i,j,x,rfl,hj,hx,hc⟩:=flatCells_inv (s:=z.cells.length) (fun x hx=>by rw[List.eq_of_mem_replicate hx]) h
 have:x=z:=List.eq_of_mem_replicate (List.mem_of_getElem? hx)
 subst this;rw[Nat.mul_comm,Nat.mul_add_mod,Nat.mod_eq_of_lt hj];exact hc
theorem buildSlice_ok (h:Rel P ans B0 w Ψ ρ ow an (sl an tm rs) tmps rs.sto.objs) {t e:TypeId} {len s:Nat} {parts:Array (Nat×Operand)} {z:AVal} {xs:List AVal} {l:List (Nat×AVal)} (he:P.underlying t=some (.slice e)) (hs:szOf P e=some s) (hpos:0 < s) (hsmall:len * s≤16777216)
  (hz:zeroOf P e=some z) (hzs:z.cells.length=s) (hzc:clean z=true) (hl:l.length=parts.toList.length)
  (hr:∀ (n:Nat) (p:Nat×AVal) (q:Nat×Operand),l[n]?=some p→parts.toList[n]?=some q→p.1=q.1∧VRel Ψ ρ p.2 ((⟨tmps,ds⟩:Act).eval q.2)) (hf:setElems s (List.replicate len z) l=some xs) :
  ∃ v w' Ψ',(Instr.buildSlice t len (parts.map fun (i,x)=>(i,(⟨tmps,ds⟩:Act).eval x))).run P w=.ok v w'∧Rel P ans B0 w' Ψ' ρ ow an (sl an tm rs) tmps rs.sto.objs∧SRel w' B0 Ψ' ρ ow tmps an.nt (.full xs) v∧Fr w Ψ ow w' Ψ' ow:=by
 simp only[zeroOf,Option.bind_eq_some_iff] at hz;obtain ⟨zv,⟨ti,hti,hzz⟩,hzv⟩:=hz;have hzrel:VRel Ψ [] z zv:=absV_rel hzv;have hzsz:zv.cells.size=s:=by rw[←hzs];exact (hzrel.cells).1.symm
 have hzx:∀ x∈List.replicate len z,x.cells.length=s∧clean x=true:=fun x hx=>by rw[List.eq_of_mem_replicate hx];exact ⟨hzs,hzc⟩
 let init:List Value:=(List.range (len * s)).map fun p=>zv.cells[p % zv.cells.size]!
 have hinit:(flatCells (List.replicate len z)).length=init.length∧∀ (p:Nat) c v,(flatCells (List.replicate len z))[p]?=some c→init[p]?=some v→VRel Ψ [] c v:=by
  refine ⟨by rw[flatCells_length (fun x hx=>(hzx x hx).1)];simp [init],fun p c v hc hv=>?_⟩;have hp:p < len * s:=by have:=(List.getElem?_eq_some_iff.1 hv).1;simpa [init] using this
  simp only[init,List.getElem?_map,List.getElem?_range hp,Option.map_some,Option.some.injEq] at hv;have hc':=flatCells_replicate len z p c hc;rw[hzs] at hc';have hm:p % s < zv.cells.size:=by rw[hzsz];exact Nat.mod_lt _ hpos
  rw[hzsz] at hv;refine (hzrel.cells).2.2 (p % s) c v hc' ?_;rw[←hv];simp [hm]
 obtain ⟨vs',f1,f2,f3,f4⟩:=setElems_ok (lv:=(parts.map fun (i,x)=>(i,(⟨tmps,ds⟩:Act).eval x)).toList) (Ψ:=Ψ) (ρ:=ρ) hf (by simpa using hl) (fun n p q hp hq=>by
  simp only[Array.toList_map,List.getElem?_map,Option.map_eq_some_iff] at hq;obtain ⟨q',hq',rfl⟩:=hq;exact hr n p q' hp hq') hzx hinit
 have hxs:∀ x∈xs,x.cells.length=s:=fun x hx=>(f3 x hx).1
 have hrun:(Instr.buildSlice t len (parts.map fun (i,x)=>(i,(⟨tmps,ds⟩:Act).eval x))).run P w=.ok (.slice (some ⟨w.heap.size,0,none⟩) len len) (w.alloc (.cells ⟨vs'⟩ e)):=by
  have harr:(Array.range (len * s)).map (fun p=>zv.cells[p % zv.cells.size]!)=⟨init⟩:=by
   apply Array.ext';simp [init]
  by_cases h0:len * s=0
  ·have hlen0:len=0:=by rcases Nat.mul_eq_zero.1 h0 with h'|h'
                        ·exact h'
                        ·omega
   subst hlen0;have hinit0:init=[]:=by simp [init]
   rw[hinit0] at f1;have harr0:(#[]:Array Value)=⟨[]⟩:=rfl;simp only[Instr.buildSlice,Sem.run_bind,run_underlying he,Result.andThen_ok,run_sizeOf hs];simp;have f1':Instr.fill (fun i=>some (i * s,s)) #[] (parts.map fun (i,x)=>(i,(⟨tmps,ds⟩:Act).eval x)).toList=some ⟨vs'⟩:=f1;simp at f1';have hr0:Array.map (fun _:Nat=>(default:Value)) (Array.range 0)=#[]:=by apply Array.ext';simp
   simp [hr0,f1',newRow]
  ·have hle:¬ len * s > 2 ^ 24:=by omega
   simp only[Instr.buildSlice,Sem.run_bind,run_underlying he,Result.andThen_ok,run_sizeOf hs];have hz0:(P.info? e).bind (·.zero)=some zv:=by rw[hti];exact hzz
   rw[←harr] at f1;simp at f1;simp [h0,hle,run_zeroValue hz0,f1,newRow]
 have hτ:∀ off c,(fun off=>(flatCells xs)[off]?) off=some c→flat c=true∧∃ v,(w.alloc (.cells ⟨vs'⟩ e)).cell? ⟨w.heap.size,off,none⟩=some v∧VRel Ψ [] c v:=fun off c hc=>by
  obtain ⟨i,j,x,rfl,hj,hx,hxc⟩:=flatCells_inv hxs hc;have hoff:i * s+j < vs'.length:=by rw[←f4.1];exact (List.getElem?_eq_some_iff.1 hc).1
  refine ⟨?_,vs'[i * s+j],?_,f4.2 _ c _ hc (by simp [hoff])⟩
  ·have:=(f3 x (List.mem_of_getElem? hx)).2
   exact List.all_eq_true.1 this c (List.mem_of_getElem? hxc)
  ·rw[cell_of_heap (heap_alloc_new _)];simp [hoff]
 have hR:=h.alloc (o:=.cells ⟨vs'⟩ e) (τ:=fun off=>(flatCells xs)[off]?) (id:=none) hτ;have hF:=Fr.alloc (ow:=ow) (o:=.cells ⟨vs'⟩ e) (τ:=fun off=>(flatCells xs)[off]?) (id:=none) h.wsat
 have hoo:oset ow w.heap.size none=ow:=by
  funext b;unfold oset;split
  ·subst_vars
   cases e1:ow w.heap.size with
   |none=>rfl
   |some y=>have:=h.lt w.heap.size (by simp [e1]);omega
  ·rfl
 rw[hoo] at hR hF;refine ⟨_,_,_,hrun,hR,.full xs _ len ?_,hF⟩;have hlen:xs.length=len:=by rw[f2];simp
 exact .of_rows (s:=s) hlen (Nat.le_refl _) hxs fun _=>⟨_,_,rfl,fun p c hc=>by simpa [hset] using hc⟩
end Go.AM
end
section
namespace Go.AM
variable {P:Program} {ans:FuncId→Ann} {an:Ann} {w:World} {B0:Nat} {Ψ:HT} {ρ:List Nat} {ow:Own} {tmps:Array Value} {R:Type} {r:R}
variable {tm:List Slot} {rs:RS} {dst:Option Nat} {m:Machine} {mk mp:Value→World→Machine} {kp:AVal→RS→Option R} {k:Slot→RS→Option R} {ds:List Deferred}
def Slot.free:Slot→Bool
 |.box _=>false
 |.ref _ _=>false
 |.cells _=>false
 |.dead=>false
 |_=>true
def CallPost (P:Program) (ans:FuncId→Ann) (B0:Nat) (w:World) (Ψ:HT) (ρ:List Nat) (ow:Own) (sto:Sto) (c:Frame) (cs:List Frame) (m:Machine) (res:ARes) (sto':Sto):Prop :=
 ∃ w' Ψ' ρ' ow',Fr w Ψ ow w' Ψ' ow'∧pre ρ ρ'∧WSat Ψ' w'∧OsRel w' B0 Ψ' ρ' ow' ans sto'.objs∧(∀ b,ow' b≠none→b < w'.heap.size)∧StoLe sto sto' ∧
  match res with
  |.ret s=>s.free=true∧∃ v,SRel w' B0 Ψ' ρ' ow' #[] 0 s v∧Steps P m (lone (c.finish v) cs w')
  |.pan x=>∃ v,VRel Ψ' ρ' x v∧Steps P m (lone (c.raise [{ v,recovered:=false }]) cs w')
structure CallPre (ans:FuncId→Ann) (B0:Nat) (w:World) (Ψ:HT) (ρ:List Nat) (ow:Own) (args:List Slot) (vs:Array Value) (sto:Sto):Prop where
 wsat:WSat Ψ w
 base:B0≤w.heap.size
 lt:∀ b,ow b≠none→b < w.heap.size
 size:args.length=vs.size
 free:∀ s∈args,s.free=true
 args:∀ (i:Nat) s,args[i]?=some s→SRel w B0 Ψ ρ ow #[] i s (vs.getD i undef)
 objs:OsRel w B0 Ψ ρ ow ans sto.objs
 lo:sto.lo≤sto.objs.length
structure CfOK (P:Program) (ans:FuncId→Ann) (B0:Nat) (cf:Oracle):Prop where
 fn:∀ f args sto res sto',cf (.fn f) args sto=some (res,sto') →
  (∃ F,P.funcs[f]?=some F∧F.body.isSome=true∧F.name≠ "runtime.NumGoroutine")∧∀ w Ψ ρ ow vs,CallPre ans B0 w Ψ ρ ow args vs sto→∀ c cs,CallPost P ans B0 w Ψ ρ ow sto c cs (lone (Frame.enter P f vs .normal) (c::cs) w) res sto'
 yld:∀ i args sto res sto',cf (.yld i) args sto=some (res,sto') →
  ∃ al,sto.objs[i]?=some (.loop al)∧args.length=al.params.size∧∀ w Ψ ρ ow vs,CallPre ans B0 w Ψ ρ ow args vs sto→∀ l rr,ρ[i]?=some l→w.heap[l]?=some (.loop rr)→∀ c cs,
   CallPost P ans B0 w Ψ ρ ow sto c cs (lone (Frame.round l rr.fn ((rr.params.zip vs).foldl (fun t (p,a)=>t.setIfInBounds p a) rr.tmps) rr.assign rr.body .normal) (c::cs) w) res sto'
theorem SRel.free_tmps {tmps':Array Value} {t:Nat} {s:Slot} {v:Value} (h:SRel w B0 Ψ ρ ow tmps t s v) (hf:s.free=true):SRel w B0 Ψ ρ ow tmps' t s v :=
 h.mono Ψ.le_refl (pre_refl _) (Same.refl _ _ _ _ _) (fun u o e=>by subst e;simp [Slot.free] at hf)
theorem argsA_ok:∀ {xs:List Operand} {rs:RS} {ow:Own} {own:List Nat} {i:Nat} {k:List Slot→RS→Option R},Rel P ans B0 w Ψ ρ ow an (sl an tm rs) tmps rs.sto.objs→argsA an.keep tm rs own i xs k=some r →
  ∃ l rs' ow',k l rs'=some r∧Rel P ans B0 w Ψ ρ ow' an (sl an tm rs') tmps rs'.sto.objs∧rs'.sto=rs.sto∧l.length=xs.length∧(∀ s∈l,s.free=true) ∧
   (∀ (j:Nat) s x,l[j]?=some s→xs[j]?=some x→SRel w B0 Ψ ρ ow' #[] (an.nt+1+i+j) s ((⟨tmps,ds⟩:Act).eval x))∧Fr w Ψ ow w Ψ ow' ∧
   (∀ q,an.nt≤q→q < an.nt+1+i→Same w Ψ ow w Ψ ow' false q false q)
 |[],rs,ow,own,i,k,h,e=>⟨[],rs,ow,by simpa [argsA] using e,h,rfl,rfl,by simp,fun j s x hs=>by simp at hs,Fr.refl _ _ _,fun q _ _=>Same.refl _ _ _ _ _⟩
 |x::xs,rs,ow,own,i,k,h,e=>by
  obtain ⟨t,hs,ht⟩:=opS_rel (ds:=ds) h x
  have plain:∀ s0,s0.free=true→(∀ sz l,s0≠.own sz l)→SRel w B0 Ψ ρ ow tmps 0 s0 ((⟨tmps,ds⟩:Act).eval x)→argsA an.keep tm rs own (i+1) xs (fun l rs'=>k (s0::l) rs')=some r →
    ∃ l rs' ow',k l rs'=some r∧Rel P ans B0 w Ψ ρ ow' an (sl an tm rs') tmps rs'.sto.objs∧rs'.sto=rs.sto∧l.length=(x::xs).length∧(∀ s∈l,s.free=true) ∧
     (∀ (j:Nat) s y,l[j]?=some s→(x::xs)[j]?=some y→SRel w B0 Ψ ρ ow' #[] (an.nt+1+i+j) s ((⟨tmps,ds⟩:Act).eval y))∧Fr w Ψ ow w Ψ ow' ∧
     (∀ q,an.nt≤q→q < an.nt+1+i→Same w Ψ ow w Ψ ow' false q false q):=fun s0 hf hno hs0 e'=>by
   obtain ⟨l,rs',ow',e1,h1,h2,h3,hfr,h4,h5,h6⟩:=argsA_ok h e';refine ⟨s0::l,rs',ow',e1,h1,h2,by simp [h3],fun s hs=>?_,fun j s y hj hy=>?_,h5,fun q hq1 hq2=>h6 q hq1 (by omega)⟩
   ·rcases List.mem_cons.1 hs with hs|hs
    ·subst hs;exact hf
    ·exact hfr s hs
   cases j with
   |zero =>
    simp at hj hy;subst hj;subst hy
    have:=(hs0.at (t':=an.nt+1+i) hno (fun cs e=>by subst e;simp [Slot.free] at hf) (fun cs e=>by subst e;simp [Slot.free] at hf)).free_tmps (tmps':=#[]) hf
    exact this.mono Ψ.le_refl (pre_refl _) (h6 (an.nt+1+i) (by omega) (by omega)) (fun _ _ _=>rfl)
   |succ j =>
    simp at hj hy
    have:=h4 j s y hj hy
    rwa [show an.nt+1+(i+1)+j=an.nt+1+i+(j+1) by omega] at this
  have hnl:opS an.keep tm rs x=.nl→SRel w B0 Ψ ρ ow tmps 0 .nl ((⟨tmps,ds⟩:Act).eval x):=fun hop=>by
   rw[hop] at hs;generalize (⟨tmps,ds⟩:Act).eval x=v at hs;cases hs with|nl=>exact .nl
  simp only[argsA] at e
  split at e
  ·rename_i sz l0 t' _ hop
   obtain rfl:=ht t' rfl;have hop':sl an tm rs t=.own sz l0:=hop;have hx:VRel Ψ ρ (.slice l0) (tmps.getD t undef):=by have:=h.slots t;rw[hop'] at this;cases this with|own _ _ _ hv=>exact hv.val
   have htn:t < an.nt:=h.lt_of (by rw[hop'];simp);obtain ⟨h1,h2⟩:=h.take t htn (.slice l0) hx (by rw[hop'];simp) (an.nt+1+i);rw[show upd (sl an tm rs) t (.val (.slice l0))=sl an tm (rs.put t (.val (.slice l0))) from (look_put _ _ _ _ _).symm] at h1;obtain ⟨l,rs',ow',e1,g1,g2,g3,gfr,g4,g5,g6⟩:=argsA_ok h1 e;refine ⟨.own sz l0::l,rs',ow',e1,g1,g2,by simp [g3],fun s hs=>?_,fun j s y hj hy=>?_,(Fr.ren w Ψ ow).trans g5,fun q hq1 hq2=>?_⟩
   ·rcases List.mem_cons.1 hs with hs|hs
    ·subst hs;rfl
    ·exact gfr s hs
   ·cases j with
    |zero =>
     simp at hj hy;subst hj;subst hy;rw[hop'] at h2
     have:=(h2.free_tmps (tmps':=#[]) rfl)
     exact this.mono Ψ.le_refl (pre_refl _) (g6 (an.nt+1+i) (by omega) (by omega)) (fun _ _ _=>rfl)
    |succ j =>
     simp at hj hy
     have:=g4 j s y hj hy
     rwa [show an.nt+1+(i+1)+j=an.nt+1+i+(j+1) by omega] at this
   ·have s1:=ren_other w Ψ ow (k1:=false) (i1:=t) (k2:=false) (i2:=an.nt+1+i) (off:=0) (k:=false) (i:=q) (by simp;omega)
    intro b s hb;obtain ⟨a1,_,_⟩:=s1 b s hb;exact g6 q hq1 (by omega) b s a1
  ·exact plain .nl rfl (by simp) (hnl (by assumption)) e
  ·obtain ⟨y,e1,hy⟩:=asV_ok hs e
   exact plain (.val y) rfl (by simp) (.val _ _ hy) e1
def owIn (nt:Nat) (ow:Own):Own:=fun b =>
 match ow b with
 |some (true,i,s)=>some (true,i,s)
 |some (false,t,s)=>if nt+1≤t then some (false,t - (nt+1),s) else none
 |none=>none
def owOut (nt:Nat) (ow owr:Own):Own:=fun b =>
 match owr b with
 |some (true,i,s)=>some (true,i,s)
 |some (false,t,s)=>some (false,nt+t,s)
 |none=>match ow b with
  |some (false,t,s)=>if t < nt then some (false,t,s) else none
  |_=>none
theorem owIn_ne {nt:Nat} {b:Nat} (h:owIn nt ow b≠none):ow b≠none:=by intro e;simp [owIn,e] at h
theorem argsPre (h:Rel P ans B0 w Ψ ρ ow an (sl an tm rs) tmps rs.sto.objs) (sto:Sto) (hso:sto.objs=rs.sto.objs) (hlo:sto.lo≤sto.objs.length) {l:List Slot} {xs:List Operand} (hl:l.length=xs.length) (hfr:∀ s∈l,s.free=true)
  (ha:∀ (j:Nat) s x,l[j]?=some s→xs[j]?=some x→SRel w B0 Ψ ρ ow #[] (an.nt+1+0+j) s ((⟨tmps,ds⟩:Act).eval x)) {caps:List AVal} {cv:List Value} (hcl:caps.length=cv.length)
  (hc:∀ (i:Nat) c v,caps[i]?=some c→cv[i]?=some v→VRel Ψ ρ c v) :
  CallPre ans B0 w Ψ ρ (owIn an.nt ow) (l++caps.map .val) ⟨xs.map (⟨tmps,ds⟩:Act).eval++cv⟩ sto where
 wsat:=h.wsat
 base:=h.base
 lt:=fun b hb=>h.lt b (owIn_ne hb)
 size:=by simp [hl,hcl]
 free:=fun s hs=>by
  rcases List.mem_append.1 hs with hs|hs
  ·exact hfr s hs
  ·obtain ⟨c,_,rfl⟩:=List.mem_map.1 hs;rfl
 args:=fun i s hs=>by
  have hsame:Same w Ψ ow w Ψ (owIn an.nt ow) false (an.nt+1+0+i) false i:=fun b s hb=>by
   refine ⟨?_,rfl,fun _ h=>h⟩;simp only[owIn,hb];rw[if_pos (by omega)];congr 3;omega
  rw[List.getElem?_append] at hs
  split at hs
  ·rename_i hi
   have hi':i < xs.length:=by rw[←hl];exact hi
   have hg:(⟨xs.map (⟨tmps,ds⟩:Act).eval++cv⟩:Array Value).getD i undef=(⟨tmps,ds⟩:Act).eval xs[i]:=by
    simp [Array.getD_eq_getD_getElem?,List.getElem?_append,hi']
   rw[hg];exact (ha i s xs[i] hs (by simp [hi'])).mono Ψ.le_refl (pre_refl _) hsame (fun _ _ _=>rfl)
  ·rename_i hi
   rw[List.getElem?_map,Option.map_eq_some_iff] at hs;obtain ⟨c,hcc,rfl⟩:=hs;have hlt:i - l.length < cv.length:=by rw[←hcl];exact (List.getElem?_eq_some_iff.1 hcc).1
   have hg:(⟨xs.map (⟨tmps,ds⟩:Act).eval++cv⟩:Array Value).getD i undef=cv[i - l.length]:=by
    simp only[Array.getD_eq_getD_getElem?,List.getElem?_toArray];rw[List.getElem?_append_right (by simp;omega)];simp [←hl,hlt]
   rw[hg];exact .val _ _ (hc _ c _ hcc (by simp [hlt]))
 objs:=by
  rw[hso];exact h.objs.mono Ψ.le_refl fun i _ b s hb=>⟨by simp [owIn,hb],rfl,fun _ h=>h⟩
 lo:=hlo
theorem callBack (h:Rel P ans B0 w Ψ ρ ow an (sl an tm rs) tmps rs.sto.objs) {w':World} {Ψ':HT} {ρ':List Nat} {owr:Own} (hF:Fr w Ψ (owIn an.nt ow) w' Ψ' owr) (hp:pre ρ ρ') (hw:WSat Ψ' w') {objs':List AObj} {ρ2:List Nat} (hp2:pre ρ ρ2)
  (ho:OsRel w' B0 Ψ' ρ2 owr ans objs') (hlt:∀ b,owr b≠none→b < w'.heap.size) :
  Rel P ans B0 w' Ψ' ρ2 (owOut an.nt ow owr) an (sl an tm rs) tmps objs'∧Fr w Ψ ow w' Ψ' (owOut an.nt ow owr):=by
 have hnone:∀ b,b < w.heap.size→owIn an.nt ow b=none→owr b=none:=fun b hb hn=>by
  cases e:owr b with
  |none=>rfl
  |some x =>
   rcases hF.own b (by simp [e]) with h'|h'
   ·exact absurd hn h'
   ·omega
 have hcaller:∀ u,u < an.nt→Same w Ψ ow w' Ψ' (owOut an.nt ow owr) false u false u:=fun u hu b s hb=>by
  have hb':=h.lt b (by simp [hb])
  have hin:owIn an.nt ow b=none:=by
   simp only[owIn,hb];rw[if_neg (by omega)]
  have hr:=hnone b hb' hin;obtain ⟨k1,k2⟩:=hF.keep b hb' hin;exact ⟨by simp [owOut,hr,hb,hu],k1,fun o ho=>by rw[k2 o];exact ho⟩
 have hobj:∀ i,Same w' Ψ' owr w' Ψ' (owOut an.nt ow owr) true i true i:=fun i b s hb=>⟨by simp [owOut,hb],rfl,fun _ h=>h⟩
 refine ⟨⟨h.size,hw,fun u=>?_,h.refs,h.boxes,ho.mono Ψ'.le_refl (fun i _=>hobj i),fun b hb=>?_,Nat.le_trans h.base hF.size,h.hi⟩,⟨hF.le,hF.size,fun b hb hn=>hF.keep b hb (by simp [owIn,hn]),fun b hb=>?_,hF.os,hF.tape,hF.output⟩⟩
 ·rcases Nat.lt_or_ge u an.nt with h2|h2
  ·exact (h.slots u).mono hF.le hp2 (hcaller u h2) (fun _ _ _=>rfl)
  ·rw[h.hi u h2];exact .dead _
 ·cases e:owr b with
  |some x=>exact hlt b (by simp [e])
  |none =>
   have:ow b≠none:=by
    intro e2;simp [owOut,e,e2] at hb
   exact Nat.lt_of_lt_of_le (h.lt b this) hF.size
 ·cases e:owr b with
  |some x =>
   rcases hF.own b (by simp [e]) with h'|h'
   ·exact .inl (owIn_ne h')
   ·exact .inr h'
  |none =>
   left;intro e2;simp [owOut,e,e2] at hb
end Go.AM
end
section
namespace Go.AM
variable {P:Program} {ans:FuncId→Ann} {an:Ann} {w:World} {B0:Nat} {Ψ:HT} {ρ:List Nat} {ow:Own} {tmps:Array Value} {R:Type} {r:R}
variable {tm:List Slot} {rs:RS} {m:Machine} {mk mp:Value→World→Machine} {kp:AVal→RS→Option R} {k:Slot→RS→Option R} {ds:List Deferred}
variable {drawn prot tk:Bool} {lcl:List Nat} {cf:Oracle} {dst:Option Nat} {ty:TypeId} {pos:String} {aft:Array Edge} {gd:Option (Nat×Bool)}
abbrev ev (tmps:Array Value) (ds:List Deferred):Operand→Value:=(⟨tmps,ds⟩:Act).eval
structure Ex (P:Program) (tmps:Array Value) (ds:List Deferred) (w:World) (o:Oper) (m:Machine) (mk:Value→World→Machine):Prop where
 val:∀ v w',(execOp (ev tmps ds) o).run P w=.ok (.value v) w'→Steps P m (mk v w')
 skip:∀ w',(execOp (ev tmps ds) o).run P w=.ok .skip w'→Steps P m (mk undef w')
theorem drawnPlace_ok {d:Bool} {l:List Nat} {p:Place} {K:Option R} (e:drawnPlace d l p K=some r):K=some r:=by
 unfold drawnPlace at e
 split at e
 ·exact e
 ·split at e
  ·exact (guardB_ok e).2
  ·exact (guardB_ok e).2
theorem op_move (h:Rel P ans B0 w Ψ ρ ow an (sl an tm rs) tmps rs.sto.objs) {x:Operand} (X:Ex P tmps ds w ⟨dst,.move x,ty,pos,aft,gd⟩ m mk) (e:stepK P ans an drawn prot lcl cf tm tk ⟨dst,.move x,ty,pos,aft,gd⟩ rs kp k=some r):Goal P ans an w B0 Ψ ρ ow tmps tm rs dst m mk mp kp k r :=
 mvK_ok (ds:=ds) h (by simpa only [stepK] using e) (X.val _ _ (by simp [execOp]))
theorem op_assign (h:Rel P ans B0 w Ψ ρ ow an (sl an tm rs) tmps rs.sto.objs) {x:Operand} (X:Ex P tmps ds w ⟨dst,.assign x,ty,pos,aft,gd⟩ m mk) (e:stepK P ans an drawn prot lcl cf tm tk ⟨dst,.assign x,ty,pos,aft,gd⟩ rs kp k=some r):Goal P ans an w B0 Ψ ρ ow tmps tm rs dst m mk mp kp k r :=
 mvK_ok (ds:=ds) h (by simpa only [stepK] using e) (X.val _ _ (by simp [execOp]))
theorem op_pick (h:Rel P ans B0 w Ψ ρ ow an (sl an tm rs) tmps rs.sto.objs) {c a b:Operand} (X:Ex P tmps ds w ⟨dst,.pick c a b,ty,pos,aft,gd⟩ m mk) (e:stepK P ans an drawn prot lcl cf tm tk ⟨dst,.pick c a b,ty,pos,aft,gd⟩ rs kp k=some r):Goal P ans an w B0 Ψ ρ ow tmps tm rs dst m mk mp kp k r:=by
 simp only[stepK] at e;obtain ⟨t,hs,_⟩:=opS_rel (ds:=ds) h c;obtain ⟨tt,e,hc,_⟩:=asBool_ok hs e;cases tt with
 |true =>
  obtain ⟨u,hu,_⟩:=opS_rel (ds:=ds) h a;exact mv_ok h hu (opS_ref h a) e (X.val _ _ (by simp [execOp,ev,hc,Go.asBool]))
 |false =>
  obtain ⟨u,hu,_⟩:=opS_rel (ds:=ds) h b;exact mv_ok h hu (opS_ref h b) e (X.val _ _ (by simp [execOp,ev,hc,Go.asBool]))
theorem newLocal {z:List Cell} {vs:List Value} {T:TypeId} {d:Nat} (hd:dst=some d) (hl:an.loc.contains d=true) {ow1:Own} (hF:Fr w Ψ ow w Ψ ow1) {rs1:RS} (h1:Rel P ans B0 w Ψ ρ ow1 an (sl an tm rs1) tmps rs1.sto.objs) (hst:rs1.sto=rs.sto)
  (hz:CsRel w B0 Ψ ρ ow1 false an.nt z vs) (e:k (.box z) rs1=some r) (hs:Steps P m (mk (.pointer (some ⟨w.heap.size,0,none⟩)) (w.alloc (.cells ⟨vs⟩ T)))):Goal P ans an w B0 Ψ ρ ow tmps tm rs dst m mk mp kp k r:=by
 obtain ⟨a1,a2,a3⟩:=newBox (T:=T) h1 hz;exact .inl ⟨_,_,_,_,_,ρ,_,e,a1,a2,(fun u o he=>by cases he),(fun cs _=>⟨d,hd,hl⟩),hF.trans a3,pre_refl _,by rw[hst];exact StoLe.refl _,hs⟩
theorem newLoc (h:Rel P ans B0 w Ψ ρ ow an (sl an tm rs) tmps rs.sto.objs) {z:List Cell} {vs:List Value} {T:TypeId} {ow1:Own} (hlo:rs.sto.lo≤rs.sto.objs.length) (hF:Fr w Ψ ow w Ψ ow1) {rs1:RS} (h1:Rel P ans B0 w Ψ ρ ow1 an (sl an tm rs1) tmps rs1.sto.objs) (hst:rs1.sto=rs.sto)
  (hz:CsRel w B0 Ψ ρ ow1 false an.nt z vs) (e:k (.val (.loc rs1.sto.objs.length 0)) { rs1 with sto:={ rs1.sto with objs:=rs1.sto.objs++[.box z] } }=some r)
  (hs:Steps P m (mk (.pointer (some ⟨w.heap.size,0,none⟩)) (w.alloc (.cells ⟨vs⟩ T)))):Goal P ans an w B0 Ψ ρ ow tmps tm rs dst m mk mp kp k r:=by
 have hl:=h1.objs.1;have hlt1:∀ b,ow1 b≠none→b < w.heap.size:=h1.lt
 let ow2:=ren ow1 false an.nt true rs1.sto.objs.length 0
 have hn:ORel (w.alloc (.cells ⟨vs⟩ T)) B0 Ψ (ρ++[w.heap.size]) (oset ow2 w.heap.size (some (true,rs1.sto.objs.length,0))) ans rs1.sto.objs.length (.box z) w.heap.size:=by
  refine .box _ _ ⟨by simp [oset],h.base,h.wsat.none_of_ge (Nat.le_refl _),vs,T,heap_alloc_new _,?_⟩;refine hz.mono Ψ.le_refl ?_ ?_
  ·rw[List.take_of_length_le (by simp [hl])];exact pre_append _ _
  ·intro b s hb
   have hb':=hlt1 b (by simp [hb]);exact ⟨by simp [oset,show ¬ b=w.heap.size by omega,ow2,ren,hb],heap_alloc_old _ hb',fun _ h=>h⟩
 obtain ⟨g1,g2⟩:=newObj_ok (o:=.cells ⟨vs⟩ T) h1 ow2 (fun b hb=>ren_ne _ hb) (fun kk i hk=>ren_other _ _ _ hk) hn;refine .inl ⟨_,_,_,_,Ψ,ρ++[w.heap.size],_,e,g1,?_,(fun u o he=>by cases he),(fun cs he=>by cases he),hF.trans g2,pre_append _ _,?_,hs⟩
 ·refine .val _ _ (.loc _ _ _ ?_)
  rw[List.getElem?_append_right (by rw[hl];exact Nat.le_refl _)];simp [hl]
 ·rw[hst]
  exact ⟨rfl,by simp,fun i hi=>by rw[List.getElem?_append_left (by omega)]⟩
theorem op_alloc (h:Rel P ans B0 w Ψ ρ ow an (sl an tm rs) tmps rs.sto.objs) {t:TypeId} (hlo:rs.sto.lo≤rs.sto.objs.length) (X:Ex P tmps ds w ⟨dst,.alloc t,ty,pos,aft,gd⟩ m mk) (e:stepK P ans an drawn prot lcl cf tm tk ⟨dst,.alloc t,ty,pos,aft,gd⟩ rs kp k=some r):Goal P ans an w B0 Ψ ρ ow tmps tm rs dst m mk mp kp k r:=by
 simp only[stepK] at e;obtain ⟨z,hz,e⟩:=bind_ok e;obtain ⟨s,_,e⟩:=bind_ok e;obtain ⟨_,e⟩:=guardB_ok e;obtain ⟨v,hv,hzr⟩:=zeroCells_rel (w:=w) (B0:=B0) (Ψ:=Ψ) (ρ:=ρ) (ow:=ow) hz false an.nt
 have hrun:(execOp (ev tmps ds) ⟨dst,.alloc t,ty,pos,aft,gd⟩).run P w=.ok (.value (.pointer (some ⟨w.heap.size,0,none⟩))) (w.alloc (.cells ⟨v.cells.toList⟩ t)):=by
  simp [execOp,Instr.alloc,run_zeroValue hv,newVar,newRow]
 cases dst with
 |none=>simp at e
 |some d =>
  simp only at e
  split at e
  ·exact newLocal rfl (by assumption) (Fr.refl _ _ _) h rfl hzr e (X.val _ _ hrun)
  ·exact newLoc h hlo (Fr.refl _ _ _) h rfl hzr e (X.val _ _ hrun)
theorem op_box (h:Rel P ans B0 w Ψ ρ ow an (sl an tm rs) tmps rs.sto.objs) {t:TypeId} {x:Operand} (hlo:rs.sto.lo≤rs.sto.objs.length) (X:Ex P tmps ds w ⟨dst,.box t x,ty,pos,aft,gd⟩ m mk) (e:stepK P ans an drawn prot lcl cf tm tk ⟨dst,.box t x,ty,pos,aft,gd⟩ rs kp k=some r):Goal P ans an w B0 Ψ ρ ow tmps tm rs dst m mk mp kp k r:=by
 simp only[stepK] at e;obtain ⟨cs,rs1,ow1,e,h1,hcs,hF,hst,_,_⟩:=boxCells_ok (ds:=ds) h an.nt e;obtain ⟨s,_,e⟩:=bind_ok e;obtain ⟨_,e⟩:=guardB_ok e
 have hrun:(execOp (ev tmps ds) ⟨dst,.box t x,ty,pos,aft,gd⟩).run P w=.ok (.value (.pointer (some ⟨w.heap.size,0,none⟩))) (w.alloc (.cells ⟨(ev tmps ds x).cells.toList⟩ t)):=by
  simp [execOp,Instr.box,newVar,newRow]
 cases dst with
 |none=>simp at e
 |some d =>
  simp only at e
  split at e
  ·exact newLocal rfl (by assumption) hF h1 hst hcs e (X.val _ _ hrun)
  ·obtain ⟨_,e⟩:=guardB_ok e
   exact newLoc h hlo hF h1 hst hcs e (X.val _ _ hrun)
theorem op_build (h:Rel P ans B0 w Ψ ρ ow an (sl an tm rs) tmps rs.sto.objs) {t:TypeId} {parts:Array (Nat×Operand)} (X:Ex P tmps ds w ⟨dst,.build t parts,ty,pos,aft,gd⟩ m mk) (e:stepK P ans an drawn prot lcl cf tm tk ⟨dst,.build t parts,ty,pos,aft,gd⟩ rs kp k=some r):Goal P ans an w B0 Ψ ρ ow tmps tm rs dst m mk mp kp k r:=by
 simp only[stepK] at e;obtain ⟨z,hz,e⟩:=bind_ok e
 have fin:∀ {place:Nat→Option (Nat×Nat)} {l:List (Nat×AVal)} {cs:List Cell},l.length=parts.toList.length →
   (∀ (n:Nat) (p:Nat×AVal) (q:Nat×Operand),l[n]?=some p→parts.toList[n]?=some q→p.1=q.1∧VRel Ψ ρ p.2 (ev tmps ds q.2))→fillA place z l=some cs→k (.cells cs) rs=some r →
   (∀ zv,(P.info? t).bind (·.zero)=some zv→P.built t (parts.map fun (i,x)=>(i,ev tmps ds x)).toList=Instr.fill place zv.cells (parts.map fun (i,x)=>(i,ev tmps ds x)).toList)→Goal P ans an w B0 Ψ ρ ow tmps tm rs dst m mk mp kp k r:=fun hl hr hf hk hb=>by
  obtain ⟨vs,hrun,hcs⟩:=build_ok (ds:=ds) h hz hl hr hf hb;exact .plain h hk (.cells _ _ hcs) (fun _ _ e=>by cases e) (fun _ e=>by cases e) (X.val _ _ (by simp [execOp,hrun]))
 split at e
 ·rename_i fs hu
  obtain ⟨l,e,hl,hr⟩:=elemsA_ok (ds:=ds) h e;obtain ⟨places,hp,e⟩:=bind_ok e;obtain ⟨cs,hf,e⟩:=bind_ok e;refine fin hl hr hf e fun zv hzv=>?_
  cases hi:P.info? t with
  |none=>simp [hi] at hzv
  |some it =>
   simp [hi] at hzv;simp [Program.built,hi,hu,hzv,hp]
 ·rename_i n el hu
  obtain ⟨l,e,hl,hr⟩:=elemsA_ok (ds:=ds) h e;obtain ⟨s,hs,e⟩:=bind_ok e;obtain ⟨cs,hf,e⟩:=bind_ok e;refine fin hl hr hf e fun zv hzv=>?_
  cases hi:P.info? t with
  |none=>simp [hi] at hzv
  |some it =>
   simp [hi] at hzv;cases hie:P.info? el with
   |none=>simp [szOf,hie] at hs
   |some ie =>
    simp [szOf,hie] at hs;simp [Program.built,hi,hu,hzv,hie,hs]
 ·cases e
theorem op_buildSlice (h:Rel P ans B0 w Ψ ρ ow an (sl an tm rs) tmps rs.sto.objs) {t:TypeId} {len:Nat} {parts:Array (Nat×Operand)} (X:Ex P tmps ds w ⟨dst,.buildSlice t len parts,ty,pos,aft,gd⟩ m mk) (e:stepK P ans an drawn prot lcl cf tm tk ⟨dst,.buildSlice t len parts,ty,pos,aft,gd⟩ rs kp k=some r):Goal P ans an w B0 Ψ ρ ow tmps tm rs dst m mk mp kp k r:=by
 simp only[stepK] at e;obtain ⟨el,hel,e⟩:=bind_ok e;obtain ⟨s,hs,e⟩:=bind_ok e;obtain ⟨hg,e⟩:=guardB_ok e;obtain ⟨l,e,hl,hr⟩:=elemsA_ok (ds:=ds) h e;obtain ⟨z,hz,e⟩:=bind_ok e;obtain ⟨hg2,e⟩:=guardB_ok e;obtain ⟨xs,hf,e⟩:=bind_ok e
 have hu:P.underlying t=some (.slice el):=by
  unfold sliceElem at hel
  split at hel
  ·rename_i e' he;cases hel;exact he
  ·cases hel
 simp only[Bool.and_eq_true] at hg hg2;obtain ⟨v,w',Ψ',hrun,hR,hS,hF⟩:=buildSlice_ok (ds:=ds) h hu hs (by simpa [Nat.blt_eq] using hg.1) (Nat.le_of_ble_eq_true hg.2) hz (Nat.eq_of_beq_eq_true hg2.1) hg2.2 hl hr hf;exact .inl ⟨_,rs,v,w',Ψ',ρ,ow,e,hR,hS,(fun u o he=>by cases he),(fun cs he=>by cases he),hF,pre_refl _,StoLe.refl _,X.val _ _ (by simp [execOp,hrun])⟩
theorem op_load (h:Rel P ans B0 w Ψ ρ ow an (sl an tm rs) tmps rs.sto.objs) {t:TypeId} {a:Operand} (X:Ex P tmps ds w ⟨dst,.load t a,ty,pos,aft,gd⟩ m mk) (e:stepK P ans an drawn prot lcl cf tm tk ⟨dst,.load t a,ty,pos,aft,gd⟩ rs kp k=some r):Goal P ans an w B0 Ψ ρ ow tmps tm rs dst m mk mp kp k r:=by
 simp only[stepK] at e;obtain ⟨p,e,hp⟩:=asPlace_ok (ds:=ds) h e;have e:=drawnPlace_ok e;obtain ⟨cs,off,b,o,e,hv,hrd,hloc,hobj⟩:=cellsOfPlace_ok h hp e;obtain ⟨s,hs,e⟩:=bind_ok e;obtain ⟨agg,hagg,e⟩:=bind_ok e;have hrun:∀ v,(loadVar t ⟨b,o,none⟩).run P w=.ok v w→Steps P m (mk v w):=fun v hl=>X.val _ _ (by simp [execOp,Instr.loadAt,ev,hv,Instr.sureAddr,hl])
 cases agg with
 |true =>
  simp only at e;obtain ⟨x,hx,e⟩:=bind_ok e;obtain ⟨v,hl,hvr⟩:=load_agg (P:=P) hrd hagg hs hx;exact .val h e hvr (hrun v hl)
 |false =>
  simp only at e
  replace e:=(guardB_ok e).2
  have one:∀ c,cs[off]?=some c→k (.val c.get) rs=some r→Goal P ans an w B0 Ψ ρ ow tmps tm rs dst m mk mp kp k r:=fun c hc e=>by
   obtain ⟨v,hl,hvr⟩:=load_one (P:=P) hrd hagg hc;exact .val h e hvr (hrun v hl)
  cases hcs:cs[off]? with
  |none=>cases tk <;> simp [hcs] at e
  |some c =>
   cases c with
   |val c=>cases tk <;> exact one _ hcs (by simpa [hcs] using e)
   |own sz xs =>
    cases tk with
    |false=>exact one _ hcs (by simpa [hcs] using e)
    |true =>
     simp only[hcs] at e;obtain ⟨u,hu,_,hur⟩:=hrd 0 _ (by simpa using hcs);have hu':w.cell? ⟨b,o,none⟩=some u:=by simpa using hu
     have hst:=hrun u (run_loadVar_one hagg hu');cases p with
     |loc t' o' =>
      obtain ⟨l1,l2,l3,l4⟩:=hloc t' o' rfl;simp only[writePlace] at e;subst l2;obtain ⟨g1,g2⟩:=take_loc h l1 l4 l3 hcs hu';refine .inl ⟨_,_,_,w,Ψ,ρ,_,e,?_,.own _ _ _ g2,(fun u o he=>by cases he),(fun cs he=>by cases he),?_,pre_refl _,StoLe.refl _,hst⟩
      ·rw[show sl an tm (rs.put t' (.box (cs.set off (.val (.slice xs)))))=upd (sl an tm rs) t' (.box (cs.set off (.val (.slice xs)))) from look_put _ _ _ _ _];exact g1
      ·exact ⟨Ψ.le_refl,Nat.le_refl _,fun _ _ _=>⟨rfl,fun _=>rfl⟩,fun b hb=>.inl (renOne_ne hb),rfl,rfl,rfl⟩
     |obj i o' =>
      obtain ⟨l1,l2,l3,l4⟩:=hobj i o' rfl;simp only[writePlace] at e;obtain ⟨hg,e⟩:=guardB_ok e;simp only[Bool.and_eq_true] at hg;subst l2;obtain ⟨g1,g2⟩:=take_obj h l1 l3 l4 hcs hu';refine .inl ⟨_,_,_,w,Ψ,ρ,_,e,g1,.own _ _ _ g2,(fun u o he=>by cases he),(fun cs he=>by cases he),?_,pre_refl _,⟨rfl,by simp,fun j hj=>?_⟩,hst⟩
      ·exact ⟨Ψ.le_refl,Nat.le_refl _,fun _ _ _=>⟨rfl,fun _=>rfl⟩,fun b hb=>.inl (renOne_ne hb),rfl,rfl,rfl⟩
      ·have:=Nat.le_of_ble_eq_true hg.1
       simp [List.getElem?_set,show ¬ i=j by omega]
     |imm x=>simp [writePlace] at e
theorem op_store (h:Rel P ans B0 w Ψ ρ ow an (sl an tm rs) tmps rs.sto.objs) {t:TypeId} {a x:Operand} (X:Ex P tmps ds w ⟨dst,.store t a x,ty,pos,aft,gd⟩ m mk) (e:stepK P ans an drawn prot lcl cf tm tk ⟨dst,.store t a x,ty,pos,aft,gd⟩ rs kp k=some r):Goal P ans an w B0 Ψ ρ ow tmps tm rs dst m mk mp kp k r:=by
 simp only[stepK] at e;obtain ⟨p,e,hp⟩:=asPlace_ok (ds:=ds) h e;have e:=drawnPlace_ok e;obtain ⟨cs,off,b,o,e,hv,hrd,hloc,hobj⟩:=cellsOfPlace_ok h hp e;obtain ⟨s,hs,e⟩:=bind_ok e;obtain ⟨new,rs1,ow1,e,h1,hn,hF,hst,hsame,hbox⟩:=asCells_ok (ds:=ds) h an.nt e;obtain ⟨hg,e⟩:=guardB_ok e;simp only[Bool.and_eq_true] at hg;have hnl:new.length=s:=Nat.eq_of_beq_eq_true hg.1;have hle:off+s≤cs.length:=Nat.le_of_ble_eq_true hg.2;have hxs:(ev tmps ds x).cells.size=s:=by rw[←hnl,hn.1];simp
 have hrun:∀ vs T,w.heap[b]?=some (.cells ⟨vs⟩ T (0,0))→cs.length=vs.length→off=o→Steps P m (mk undef (w.putObj b (.cells ⟨overwrite vs o (ev tmps ds x).cells.toList⟩ T (0,0)))):=fun vs T hh hl ho=>by
  refine X.skip _ ?_
  have:=run_storeVar (P:=P) (t:=t) (o:=o) (v:=ev tmps ds x) (by rw[hxs];exact hs) hh hn.one (by rw[hxs];omega)
  simp [execOp,Instr.storeAt,ev,hv,Instr.sureAddr];simp [ev] at this;simp [this]
 cases p with
 |loc t' o' =>
  obtain ⟨l1,l2,l3,l4⟩:=hloc t' o' rfl;simp only[writePlace] at e;subst l2;have l1':=hbox t' cs l1;obtain ⟨b1,b2,b3,vs,T,b4,b5⟩:=l3;have hslot:=h1.slots t';rw[l1',l4] at hslot;cases hslot with
  |box _ _ hb1 =>
   obtain ⟨c1,c2,c3,vs',T',c4,c5⟩:=hb1;have hR:=store_loc h1 l1' l4 ⟨c1,c2,c3,vs',T',c4,c5⟩ c4 c5 hn (by rw[hnl];exact hle);refine .inl ⟨.dead,_,undef,w.putObj b (.cells ⟨overwrite vs' off (ev tmps ds x).cells.toList⟩ T' (0,0)),Ψ,ρ,ren ow1 false an.nt false t' off,e,?_,.dead _,(fun u o he=>by cases he),(fun cs he=>by cases he),hF.trans (Fr.put (by simp [c1]) (fun x hx=>ren_ne _ hx)),pre_refl _,by show StoLe rs.sto rs1.sto;rw[hst];exact StoLe.refl _,hrun vs' T' c4 c5.1 rfl⟩;rw[show sl an tm (rs1.put t' (.box (setCells cs off new)))=upd (sl an tm rs1) t' (.box (setCells cs off new)) from look_put _ _ _ _ _];exact hR
 |obj i o' =>
  obtain ⟨l1,l2,l3,l4⟩:=hobj i o' rfl;simp only[writePlace] at e;obtain ⟨hg2,e⟩:=guardB_ok e;simp only[Bool.and_eq_true] at hg2;subst l2;have l1':rs1.sto.objs[i]?=some (.box cs):=by rw[hst];exact l1
  obtain ⟨b',hb',hor⟩:=h1.objs.2 i _ l1';obtain rfl:b=b':=by rw[l3] at hb';exact Option.some.inj hb'
  cases hor with
  |box _ _ hb1 =>
   obtain ⟨c1,c2,c3,vs',T',c4,c5⟩:=hb1;have hR:=store_obj h1 l1' l3 ⟨c1,c2,c3,vs',T',c4,c5⟩ c4 c5 hn (by rw[hnl];exact hle) hg2.2;refine .inl ⟨.dead,_,undef,w.putObj b (.cells ⟨overwrite vs' off (ev tmps ds x).cells.toList⟩ T' (0,0)),Ψ,ρ,ren ow1 false an.nt true i off,e,hR,.dead _,(fun u o he=>by cases he),(fun cs he=>by cases he),hF.trans (Fr.put (by simp [c1]) (fun x hx=>ren_ne _ hx)),pre_refl _,⟨by rw[←hst],by rw[←hst];simp,fun j hj=>?_⟩,hrun vs' T' c4 c5.1 rfl⟩
   have:=Nat.le_of_ble_eq_true hg2.1
   rw[hst] at this;rw[←hst];simp [List.getElem?_set,show ¬ i=j by omega]
 |imm y=>simp [writePlace] at e
theorem op_nilCheck (h:Rel P ans B0 w Ψ ρ ow an (sl an tm rs) tmps rs.sto.objs) {x:Operand} (X:Ex P tmps ds w ⟨dst,.nilCheck x,ty,pos,aft,gd⟩ m mk) (e:stepK P ans an drawn prot lcl cf tm tk ⟨dst,.nilCheck x,ty,pos,aft,gd⟩ rs kp k=some r):Goal P ans an w B0 Ψ ρ ow tmps tm rs dst m mk mp kp k r:=by
 simp only[stepK] at e;obtain ⟨t,hs,ht⟩:=opS_rel (ds:=ds) h x;have hptr:∀ a,ev tmps ds x=.pointer (some a)→Steps P m (mk (.pointer (some a)) w):=fun a ha=>X.val _ _ (by simp [execOp,ha])
 split at e
 ·rename_i cs hop
  split at e
  ·rename_i t'
   obtain rfl:=ht t' rfl;have hop':sl an tm rs t=.box cs:=hop;have hsl:=h.slots t;rw[hop'] at hsl;have hv:ev tmps ds (.tmp t)=tmps.getD t undef:=rfl;generalize hg:tmps.getD t undef=v at hsl;cases hsl with
   |box _ b hb=>exact .plain h e (.ref t 0 b hg) (fun u o he=>by cases he;exact ⟨cs,hop'⟩) (fun _ he=>by cases he) (hptr _ (by rw[hv,hg]))
  ·cases e
 ·rename_i u o hop
  rw[hop] at hs;have href:=opS_ref h x u o hop;generalize hg:(⟨tmps,ds⟩:Act).eval x=v at hs;cases hs with
  |ref _ _ b hb=>exact .plain h e (.ref u o b hb) (fun u' o' he=>by cases he;exact href) (fun _ he=>by cases he) (hptr _ hg)
 ·rename_i i o hop
  rw[hop] at hs;generalize hg:(⟨tmps,ds⟩:Act).eval x=v at hs;cases hs with
  |val _ _ hv =>
   cases hv with
   |loc _ _ b hb=>exact .val h e (.loc i o b hb) (hptr _ hg)
 ·rename_i y hop
  rw[hop] at hs;generalize hg:(⟨tmps,ds⟩:Act).eval x=v at hs;cases hs with
  |val _ _ hv =>
   cases hv with
   |cptr _ b o hb=>exact .val h e (.cptr y b o hb) (hptr _ hg)
 ·rename_i f cs hop
  rw[hop] at hs;generalize hg:(⟨tmps,ds⟩:Act).eval x=v at hs;cases hs with
  |val _ _ hv =>
   cases hv with
   |func _ _ vs hl hx=>exact .val h e (.func f cs vs hl hx) (X.val _ _ (by simp [execOp,ev,hg]))
 ·cases e
end Go.AM
end
