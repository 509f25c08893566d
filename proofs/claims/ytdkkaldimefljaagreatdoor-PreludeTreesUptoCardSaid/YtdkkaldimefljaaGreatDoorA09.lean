import Derived.Test.YtdkkaldimefljaaGreatDoorA08
import Derived.RangeFuncLeaves
set_option linter.all false
section
namespace Go.AM
variable {P:Program} {ans:FuncId→Ann} {w:World} {B0:Nat} {Ψ:HT} {ρ:List Nat} {ow:Own} {tmps:Array Value}
variable {ds:List Deferred} {cf:aO} {lp:aT} {fid:FuncId} {B1:Nat} {b:Frame} {cs:List Frame} {items:List Item} {st:St}
theorem v8 {base:List Deferred}:∀ {ds:List Deferred} {w:World} {fr:Frame},MarksL w ow B1 ds→fr.mode≠.run→fr.defers=ds++base →
  ∃ w',Steps P (lone fr cs w) (lone { fr with defers:=base } cs w')∧w'.heap.size=w.heap.size∧(∀ x,(x < B1∨ow x≠none∨∃ o v,w.cell? ⟨x,o,none⟩=some v)→w'.heap[x]?=w.heap[x]?)∧w'.os=w.os∧w'.tape=w.tape∧w'.output=w.output
 |[],w,fr,h,hm,hd=>⟨w,by rw[show ({ fr with defers:=base }:Frame)=fr by rw[show base=fr.defers from hd.symm]];exact Steps.refl _ _,rfl,fun _ _=>rfl,rfl,rfl,rfl⟩
 |d::ds,w,fr,h,hm,hd=>by
  obtain ⟨D,h1,h2,h3,h4⟩:=h.all d (by simp);have hlt:D < w.heap.size:=(Array.getElem?_eq_some_iff.1 h2).1;have hstep:=step_collected (P:=P) (cs:=cs) hm hd h1 (run_takeDeferred h2)
  let w1:=w.putObj D (.deferred none)
  have hM:MarksL w1 ow B1 ds:=by
   have hn:=List.pairwise_cons.1 h.nodup;refine ⟨fun d' hd'=>?_,hn.2⟩;obtain ⟨D',g1,g2,g3,g4⟩:=h.all d' (by simp [hd']);refine ⟨D',g1,?_,g3,g4⟩;rw[World.putObj_heap_other];exact g2;intro he;subst he;exact hn.1 d' hd' (by rw[h1,g1])
  obtain ⟨w',a1,a2,a3,a4,a5,a6⟩:=v8 (base:=base) (fr:={ fr with defers:=ds++base }) hM hm rfl;refine ⟨w',(Steps.one hstep).trans a1,by rw[a2];simp [w1],fun x hx=>?_,a4,a5,a6⟩
  have hxD:x≠D:=by
   rintro rfl
   rcases hx with hx|hx|⟨o,v,hx⟩
   ·omega
   ·exact hx h3
   ·simp [World.cell?,h2] at hx
  have hw1:w1.heap[x]?=w.heap[x]?:=World.putObj_heap_other hxD;rw[a3 x,hw1];rcases hx with hx|hx|⟨o,v,hx⟩
  ·exact .inl hx
  ·exact .inr (.inl hx)
  ·exact .inr (.inr ⟨o,v,by rw[cell_congr hw1];exact hx⟩)
theorem rE {b:Frame} {ds:List Deferred} {w:World} {fr:Frame} (h:Marks w ow B1 b ds) (hm:fr.mode≠.run) (hd:fr.defers=ds) :
  ∃ w',Steps P (lone fr cs w) (lone { fr with defers:=b.defers } cs w')∧w'.heap.size=w.heap.size∧(∀ x,(x < B1∨ow x≠none∨∃ o v,w.cell? ⟨x,o,none⟩=some v)→w'.heap[x]?=w.heap[x]?)∧w'.os=w.os∧w'.tape=w.tape∧w'.output=w.output:=by
 obtain ⟨ms,h1,h2⟩:=h;exact v8 h2 hm (hd.trans h1)
theorem Rest.kept {sto:Sto} {w':World} (h:Rest ans B0 w Ψ ρ ow sto) (hs:w'.heap.size=w.heap.size) (hk:∀ x,(x < B1∨ow x≠none∨∃ o v,w.cell? ⟨x,o,none⟩=some v)→w'.heap[x]?=w.heap[x]?):Rest ans B0 w' Ψ ρ ow sto :=
 ⟨⟨by rw[hs];exact h.wsat.size8,fun b o c e=>by
   obtain ⟨h1,v,h2,h3⟩:=h.wsat.sat b o c e;exact ⟨h1,v,(cell_congr (hk b (.inr (.inr ⟨o,v,h2⟩))) o).trans h2,h3⟩⟩,h.objs.mono Ψ.le_refl fun i _ b s hb=>⟨hb,hk b (.inr (.inl (by simp [hb]))),fun _ h=>h⟩,fun b hb=>by rw[hs];exact h.lt b hb⟩
theorem At.kept {w':World} (h:At P ans fid B0 w Ψ ρ ow st tmps) (hs:w'.heap.size=w.heap.size) (hk:∀ x,(x < B1∨ow x≠none∨∃ o v,w.cell? ⟨x,o,none⟩=some v)→w'.heap[x]?=w.heap[x]?):At P ans fid B0 w' Ψ ρ ow st tmps:=by
 have hr:=h.rest.kept hs hk;exact ⟨⟨h.rel.size,hr.wsat,fun t=>(h.rel.slots t).mono Ψ.le_refl (aG _) (fun b s hb=>⟨hb,hk b (.inr (.inl (by simp [hb]))),fun _ h=>h⟩) (fun _ _ _=>rfl),h.rel.refs,h.rel.boxes,hr.objs,hr.lt,by rw[hs];exact h.rel.base,h.rel.hi⟩,h.nr,h.lo⟩
theorem Fr.kept {w0:World} {Ψ0:HT} {ow0:Own} {w':World} (h:Fr w0 Ψ0 ow0 w Ψ ow) (hB:w0.heap.size≤B1) (hs:w'.heap.size=w.heap.size) (hk:∀ x,(x < B1∨ow x≠none∨∃ o v,w.cell? ⟨x,o,none⟩=some v)→w'.heap[x]?=w.heap[x]?)
  (h1:w'.os=w.os) (h2:w'.tape=w.tape) (h3:w'.output=w.output):Fr w0 Ψ0 ow0 w' Ψ ow :=
 ⟨h.le,by rw[hs];exact h.size,fun b hb ho=>⟨(hk b (.inl (by omega))).trans (h.keep b hb ho).1,(h.keep b hb ho).2⟩,h.own,h1.trans h.os,h2.trans h.tape,h3.trans h.output⟩
def kK (tmps:Array Value):ResultVar→Sem Value
 |.tmp t=>pure (tmps.getD t undef)
 |.cell a t=>do loadVar t (←asAddr (tmps.getD a undef))
theorem jQ {an:Ann} {tm:List Slot} {sto:Sto} (h:Rel P ans B0 w Ψ ρ ow an (sl an tm ⟨[],sto⟩) tmps sto.objs) {R:Type} {r:R}:∀ {rl:List ResultVar} {k:List AVal→Option R},gP P an tm rl sto k=some r →
  ∃ xs us,k xs=some r∧(rl.mapM (kK tmps)).run P w=.ok us w∧xs.length=us.length∧∀ (i:Nat) x u,xs[i]?=some x→us[i]?=some u→VRel Ψ ρ x u
 |[],k,e=>⟨[],[],e,by simp,rfl,fun i x u hx=>by simp at hx⟩
 |.tmp t::rl,k,e=>by
  simp only[gP] at e;obtain ⟨x,e,hx⟩:=iG (h.slots t) e;obtain ⟨xs,us,h1,h2,h3,h4⟩:=jQ h e;refine ⟨x::xs,tmps.getD t undef::us,h1,by simp [List.mapM_cons,kK,h2],by simp [h3],fun i y u hy hu=>?_⟩;cases i with
  |zero=>simp only[List.getElem?_cons_zero,Option.some.injEq] at hy hu;subst hy;subst hu;exact hx
  |succ i=>simp only[List.getElem?_cons_succ] at hy hu;exact h4 i y u hy hu
 |.cell a t::rl,k,e=>by
  simp only[gP] at e;obtain ⟨p,e,hp⟩:=jG (ds:=[]) h (x:=.tmp a) (rs:=⟨[],sto⟩) e;obtain ⟨cs,off,b,o,e,hv,hrd,_,_⟩:=iJ h hp e;obtain ⟨s,hs,e⟩:=aC e;obtain ⟨agg,hagg,e⟩:=aC e;obtain ⟨hg,e⟩:=aA e;obtain ⟨x,hx,e⟩:=aC e;obtain ⟨xs,us,h1,h2,h3,h4⟩:=jQ h e
  have hload:∃ v,(loadVar t ⟨b,o,none⟩).run P w=.ok v w∧VRel Ψ ρ x v:=by
   cases agg with
   |true=>exact jq (P:=P) hrd hagg hs hx
   |false =>
    simp only[partOf,Bool.false_eq_true,if_false,List.getElem?_map,Option.map_eq_some_iff] at hx;obtain ⟨c,hc,rfl⟩:=hx;exact im (P:=P) hrd hagg hc
  obtain ⟨v,hl,hvr⟩:=hload;have hv':tmps.getD a undef=.pointer (some ⟨b,o,none⟩):=hv;refine ⟨x::xs,v::us,h1,?_,by simp [h3],fun i y u hy hu=>?_⟩
  ·simp only[List.mapM_cons,kK,hv',Sem.run_bind]
   simp [asAddr,hl,h2]
  ·cases i with
   |zero=>simp only[List.getElem?_cons_zero,Option.some.injEq] at hy hu;subst hy;subst hu;exact hvr
   |succ i=>simp only[List.getElem?_cons_succ] at hy hu;exact h4 i y u hy hu
def pY:List Value→Value
 |[u]=>u
 |us=>.tuple ⟨us⟩
theorem hH {fn:Func} {us:List Value} (h:(fn.results.toList.mapM (kK tmps)).run P w=.ok us w):(results fn tmps).run P w=.ok (pY us) w:=by
 have h0:fn.results=fn.results.toList.toArray:=by simp
 have hf:∀ rl:List ResultVar,(rl.toArray.mapM (kK tmps))=Functor.map List.toArray (rl.mapM (kK tmps)):=fun rl=>List.mapM_toArray
 have hr:results fn tmps=(do let vs ←fn.results.mapM (kK tmps);pure (if h:vs.size=1 then vs[0] else .tuple vs)):=by
  unfold results;congr 1
 rw[hr,h0,hf];simp only[Sem.run_bind,map_eq_pure_bind,bind_assoc,h,Result.andThen_ok,pure_bind,Sem.run_pure]
 match us with
 |[]=>rfl
 |[u]=>rfl
 |u::u'::us=>simp [pY]
theorem sR {n:Nat} {s:Slot} {v:Value} {sto:Sto} (hs:SRel w B0 Ψ ρ ow #[] 0 s v) (hf:s.free=true) (ho:OsRel w B0 Ψ ρ ow ans sto.objs) (hn:n≤sto.objs.length) :
  ∃ ρ',SRel w B0 Ψ ρ' ow #[] 0 s v∧OsRel w B0 Ψ ρ' ow ans (trim n s sto).objs∧(trim n s sto).lo=sto.lo∧n≤(trim n s sto).objs.length∧(∀ i,i < n→(trim n s sto).objs[i]?=sto.objs[i]?)∧ρ'.take n=ρ.take n:=by
 unfold trim;cases hl:cH n s with
 |true=>exact ⟨ρ.take n,hs.lokS hf hl,ho.front n hn,rfl,by show n≤(sto.objs.take n).length;rw[List.length_take];omega,fun i hi=>by show (sto.objs.take n)[i]?=_;rw[List.getElem?_take,if_pos hi],by rw[List.take_take,Nat.min_self]⟩
 |false=>exact ⟨ρ,hs,ho,rfl,hn,fun _ _=>rfl,rfl⟩
theorem zw (h:At P ans fid B0 w Ψ ρ ow st tmps) {fn:Func} {n:Nat} {res:ARes} {sto':Sto} (hn:n≤st.sto.objs.length) (e:finish P (ans fid) fn n st=some (res,sto')) :
  ∃ s v ρ' ow',res=.ret s∧s.free=true∧(results fn tmps).run P w=.ok v w∧SRel w B0 Ψ ρ' ow' #[] 0 s v∧OsRel w B0 Ψ ρ' ow' ans sto'.objs∧Fr w Ψ ow w Ψ ow'∧(∀ b,ow' b≠none→ow b≠none)∧sto'.lo=st.sto.lo∧n≤sto'.objs.length∧(∀ i,i < n→sto'.objs[i]?=st.sto.objs[i]?)∧ρ'.take n=ρ.take n:=by
 have gen:∀ {x:AVal} {v:Value},VRel Ψ ρ x v→(results fn tmps).run P w=.ok v w→res=.ret (.val x)→sto'=trim n (.val x) st.sto→∃ s v ρ' ow',res=.ret s∧s.free=true∧(results fn tmps).run P w=.ok v w∧SRel w B0 Ψ ρ' ow' #[] 0 s v∧OsRel w B0 Ψ ρ' ow' ans sto'.objs∧Fr w Ψ ow w Ψ ow'∧(∀ b,ow' b≠none→ow b≠none)∧sto'.lo=st.sto.lo∧n≤sto'.objs.length∧(∀ i,i < n→sto'.objs[i]?=st.sto.objs[i]?)∧ρ'.take n=ρ.take n:=fun hx hr he hs=>by
  subst hs;obtain ⟨ρ',a1,a2,a3,a4,a5,a6⟩:=sR (s:=.val _) (.val _ _ hx) rfl h.rel.objs hn;exact ⟨_,_,ρ',ow,he,rfl,hr,a1,a2,Fr.refl _ _ _,fun _ h=>h,a3,a4,a5,a6⟩
 have many:∀ rl,fn.results.toList=rl→(gP P (ans fid) st.tm rl st.sto fun vs=>match vs with|[v]=>some (ARes.ret (.val v),trim n (.val v) st.sto)|vs=>some (.ret (.tup vs),trim n (.tup vs) st.sto))=some (res,sto')→∃ s v ρ' ow',res=.ret s∧s.free=true∧(results fn tmps).run P w=.ok v w∧SRel w B0 Ψ ρ' ow' #[] 0 s v∧OsRel w B0 Ψ ρ' ow' ans sto'.objs∧Fr w Ψ ow w Ψ ow'∧(∀ b,ow' b≠none→ow b≠none)∧sto'.lo=st.sto.lo∧n≤sto'.objs.length∧(∀ i,i < n→sto'.objs[i]?=st.sto.objs[i]?)∧ρ'.take n=ρ.take n:=fun rl hrl e=>by
  obtain ⟨xs,us,h1,h2,h3,h4⟩:=jQ h.rel e;rw[←hrl] at h2;have hrun:=hH h2
  have tup:∀ xs us,pY us=.tuple ⟨us⟩→xs.length=us.length→(∀ (i:Nat) x u,xs[i]?=some x→us[i]?=some u→VRel Ψ ρ x u)→(results fn tmps).run P w=.ok (pY us) w→some (ARes.ret (.tup xs),trim n (.tup xs) st.sto)=some (res,sto') →
    ∃ s v ρ' ow',res=.ret s∧s.free=true∧(results fn tmps).run P w=.ok v w∧SRel w B0 Ψ ρ' ow' #[] 0 s v∧OsRel w B0 Ψ ρ' ow' ans sto'.objs∧Fr w Ψ ow w Ψ ow'∧(∀ b,ow' b≠none→ow b≠none)∧sto'.lo=st.sto.lo∧n≤sto'.objs.length∧(∀ i,i < n→sto'.objs[i]?=st.sto.objs[i]?)∧ρ'.take n=ρ.take n:=fun xs us he h3 h4 hrun h1=>by
   simp only[Option.some.injEq,Prod.mk.injEq] at h1;obtain ⟨rfl,rfl⟩:=h1;rw[he] at hrun;obtain ⟨ρ',a1,a2,a3,a4,a5,a6⟩:=sR (s:=.tup xs) (v:=.tuple ⟨us⟩) (.tup xs us h3 h4) rfl h.rel.objs hn;exact ⟨_,_,ρ',ow,rfl,rfl,hrun,a1,a2,Fr.refl _ _ _,fun _ h=>h,a3,a4,a5,a6⟩
  match xs,us,h1,h3,h4,hrun with
  |[],[],h1,h3,h4,hrun=>exact tup [] [] rfl rfl h4 hrun h1
  |[x],[u],h1,h3,h4,hrun =>
   simp only[Option.some.injEq,Prod.mk.injEq] at h1;exact gen (h4 0 x u rfl rfl) hrun h1.1.symm h1.2.symm
  |x::x'::xs,u::u'::us,h1,h3,h4,hrun=>exact tup (x::x'::xs) (u::u'::us) rfl h3 h4 hrun h1
 unfold finish at e
 split at e
 ·rename_i t hor hres
  have h1:(results fn tmps).run P w=.ok (tmps.getD t undef) w:=hH (us:=[tmps.getD t undef]) (by rw[hres];simp [kK]);have hsl:=h.rel.slots t
  split at e
  ·rename_i sz xs hop
   have hop':sl (ans fid) st.tm ⟨[],st.sto⟩ t=.own sz xs:=hop;rw[hop'] at hsl;simp only[Option.some.injEq,Prod.mk.injEq] at e;obtain ⟨rfl,rfl⟩:=e;have htn:t < (ans fid).nt:=h.rel.lt_of (by rw[hop'];simp)
   have hs2:SRel w B0 Ψ ρ (ren ow false t false 0 0) #[] 0 (.own sz xs) (tmps.getD t undef):=by
    refine hsl.mono Ψ.le_refl (aG _) (wT _ _ _) (fun _ _ he=>by cases he)
   obtain ⟨ρ',a1,a2,a3,a4,a5,a6⟩:=sR (ow:=ren ow false t false 0 0) hs2 rfl (h.rel.objs.mono Ψ.le_refl fun i _=>eS _ _ _ (by simp)) hn;exact ⟨_,_,ρ',_,rfl,rfl,h1,a1,a2,Fr.ren _ _ _,fun _ h=>j5 _ h,a3,a4,a5,a6⟩
  ·rename_i hop
   have hop':sl (ans fid) st.tm ⟨[],st.sto⟩ t=.nl:=hop;rw[hop'] at hsl;simp only[Option.some.injEq,Prod.mk.injEq] at e;obtain ⟨rfl,rfl⟩:=e
   have hs2:SRel w B0 Ψ ρ ow #[] 0 .nl (tmps.getD t undef):=by
    generalize tmps.getD t undef=v at hsl;cases hsl with|nl=>exact .nl
   obtain ⟨ρ',a1,a2,a3,a4,a5,a6⟩:=sR hs2 rfl h.rel.objs hn;exact ⟨_,_,ρ',ow,rfl,rfl,h1,a1,a2,Fr.refl _ _ _,fun _ h=>h,a3,a4,a5,a6⟩
  ·obtain ⟨x,e,hx⟩:=iG hsl e
   simp only[Option.some.injEq,Prod.mk.injEq] at e;exact gen hx h1 e.1.symm e.2.symm
 ·exact many _ rfl e
end Go.AM
end
section
namespace Go.AM
variable {P:Program} {ans:FuncId→Ann} {w:World} {B0:Nat} {Ψ:HT} {ρ:List Nat} {ow:Own} {tmps:Array Value}
variable {ds:List Deferred} {cf:aO} {lp:aT} {fid:FuncId} {B1:Nat} {b:Frame} {cs:List Frame} {items:List Item} {st:St} {pr:hZ}
theorem uB (g:Nat→Slot):∀ (ks:List Nat) (t:Nat),tlook ks (ks.map g) t=.dead∨tlook ks (ks.map g) t=g t
 |[],t=>.inl rfl
 |k::ks,t=>by
  simp only[List.map_cons,tlook];cases hk:Nat.beq k t with
  |true=>have:=Nat.eq_of_beq_eq_true hk;subst this;exact .inr rfl
  |false=>exact uB g ks t
theorem ij {f:FuncId} {args:List Slot} {vs:Array Value} {sto:Sto} (h:eA ans B0 w Ψ ρ ow args vs sto) (hnt:args.length≤(ans f).nt) :
  At P ans f B0 w Ψ ρ ow ⟨(ans f).keep.map fun t=>(args[t]?).getD .dead,sto⟩ (vs++Array.replicate ((ans f).nt - vs.size) undef):=by
 have hE:∀ t,tlook (ans f).keep ((ans f).keep.map fun t=>(args[t]?).getD .dead) t=.dead∨∃ s,args[t]?=some s∧tlook (ans f).keep ((ans f).keep.map fun t=>(args[t]?).getD .dead) t=s:=fun t=>by
  rcases uB (fun t=>(args[t]?).getD .dead) (ans f).keep t with h1|h1
  ·exact .inl h1
  ·cases ha:args[t]? with
   |none=>left;rw[h1,ha];rfl
   |some s=>right;exact ⟨s,rfl,by rw[h1,ha];rfl⟩
 have hfree:∀ (t:Nat) (s:Slot),args[t]?=some s→s.free=true:=fun t s ha=>h.free s (List.mem_of_getElem? ha)
 refine ⟨⟨?_,h.wsat,fun t=>?_,fun d u o e=>?_,fun t c e=>?_,h.objs,h.lt,h.base,fun t ht=>?_⟩,fun s hs u o he=>?_,h.lo⟩
 ·have:=h.size;simp;omega
 ·show SRel w B0 Ψ ρ ow _ t (tlook (ans f).keep ((ans f).keep.map fun t=>(args[t]?).getD .dead) t) _
  rcases hE t with h1|⟨s,ha,h1⟩
  ·rw[h1];exact .dead _
  ·rw[h1]
   have hlt:t < vs.size:=by rw[←h.size];exact (List.getElem?_eq_some_iff.1 ha).1
   have hv:(vs++Array.replicate ((ans f).nt - vs.size) undef).getD t undef=vs.getD t undef:=by
    simp only[Array.getD_eq_getD_getElem?,Array.getElem?_append_left hlt]
   rw[hv];exact (h.args t s ha).free_tmps (hfree t s ha)
 ·have e':tlook (ans f).keep ((ans f).keep.map fun t=>(args[t]?).getD .dead) d=.ref u o:=e
  rcases hE d with h1|⟨s,ha,h1⟩
  ·rw[h1] at e';cases e'
  ·rw[h1] at e';have:=hfree d s ha;rw[e'] at this;cases this
 ·have e':tlook (ans f).keep ((ans f).keep.map fun t=>(args[t]?).getD .dead) t=.box c:=e
  rcases hE t with h1|⟨s,ha,h1⟩
  ·rw[h1] at e';cases e'
  ·rw[h1] at e';have:=hfree t s ha;rw[e'] at this;cases this
 ·show tlook (ans f).keep ((ans f).keep.map fun t=>(args[t]?).getD .dead) t=.dead
  rcases hE t with h1|⟨s,ha,h1⟩
  ·exact h1
  ·have:=(List.getElem?_eq_some_iff.1 ha).1;omega
 ·obtain ⟨t,_,rfl⟩:=List.mem_map.1 hs
  cases ha:args[t]? with
  |none=>rw[ha] at he;cases he
  |some s=>rw[ha] at he;have:=hfree t s ha;rw[show s=.ref u o from he] at this;cases this
def Leave (P:Program) (ans:FuncId→Ann) (B0:Nat) (w:World) (Ψ:HT) (ρ:List Nat) (ow:Own) (sto:Sto) (f:FuncId) (cs:List Frame) (m:Machine) (res:ARes) (sto':Sto):Prop :=
 ∃ w' Ψ' ρ' ow' fr,Fr w Ψ ow w' Ψ' ow'∧pre ρ ρ'∧WSat Ψ' w'∧OsRel w' B0 Ψ' ρ' ow' ans sto'.objs∧(∀ b,ow' b≠none→b < w'.heap.size)∧StoLe sto sto'∧Steps P m (lone fr cs w')∧fr.fn=f ∧
  match res with
  |.ret s=>s.free=true∧∃ v,SRel w' B0 Ψ' ρ' ow' #[] 0 s v∧fr.leaving P w' (.returned v)
  |.pan x=>∃ v,VRel Ψ' ρ' x v∧fr.leaving P w' (.panicked [{ v,recovered:=false }])
theorem Leave.post {sto:Sto} {f:FuncId} {c:Frame} {m:Machine} {res:ARes} {sto':Sto} (h:Leave P ans B0 w Ψ ρ ow sto f (c::cs) m res sto'):eE P ans B0 w Ψ ρ ow sto c cs m res sto':=by
 obtain ⟨w',Ψ',ρ',ow',fr,h1,h2,h3,h4,h5,h6,h7,h8,h9⟩:=h;refine ⟨w',Ψ',ρ',ow',h1,h2,h3,h4,h5,h6,?_⟩;cases res with
 |ret s=>obtain ⟨hf,v,hs,hl⟩:=h9;exact ⟨hf,v,hs,h7.trans (.one (step_leave_returned hl))⟩
 |pan x=>obtain ⟨v,hs,hl⟩:=h9;exact ⟨v,hs,h7.trans (.one (step_leave_panicked hl))⟩
theorem rJ {ρ ρ' ρ2:List Nat} {n:Nat} (hp:pre ρ ρ2) (hn:n=ρ.length) (h:ρ'.take n=ρ2.take n):pre ρ ρ':=by
 subst hn;rw[jX hp (Nat.le_refl _),List.take_of_length_le (Nat.le_refl _)] at h;intro i x hx;have hi:=(List.getElem?_eq_some_iff.1 hx).1
 have:(ρ'.take ρ.length)[i]?=some x:=by rw[h];exact hx
 rw[List.getElem?_take,if_pos hi] at this;exact this
theorem yG (hcf:lS P ans B0 cf) (hlp:oi P ans B0 lp) (hdr:mO P ans cf) {f:FuncId} {args:List Slot} {sto:Sto} {res:ARes} {sto':Sto} (hpr:pr f args=none) (e:cJ P ans pr cf lp (.fn f) args sto=some (res,sto')) :
  (∃ F,P.funcs[f]?=some F∧F.body.isSome=true)∧∀ w Ψ ρ ow vs,eA ans B0 w Ψ ρ ow args vs sto→∀ cs,Leave P ans B0 w Ψ ρ ow sto f cs (lone (Frame.enter P f vs .normal) cs w) res sto':=by
 simp only[cJ,hpr] at e;cases hprim:(ans f).prim with
 |true=>rw[hprim] at e;cases e
 |false =>
 rw[hprim] at e;simp only[cond_false] at e
 split at e
 ·cases e
 rename_i fn hfn
 split at e
 ·cases e
 rename_i c hbody;obtain ⟨hg,e⟩:=aA e;simp only[Bool.and_eq_true] at hg;have hnt:fn.ntmps=(ans f).nt:=Nat.eq_of_beq_eq_true hg.1;have hal:args.length≤(ans f).nt:=by rw[←hnt];exact Nat.le_of_ble_eq_true hg.2
 refine ⟨⟨fn,hfn,by simp [hbody]⟩,fun w Ψ ρ ow vs hpre cs=>?_⟩
 let b:Frame:={ (default:Frame) with fn:=f,kind:=.normal,roundOf:=none }
 have henter:Frame.enter P f vs .normal=b.atR ⟨vs++Array.replicate ((ans f).nt - vs.size) undef,[]⟩ [.code c]:=by
  simp [Frame.enter,Frame.atR,hfn,hbody,b,hnt]
 rw[henter];have hρl:=hpre.objs.1;obtain ⟨ex,st',he,w1,Ψ1,ρ1,ow1,tmps1,ds1,a1,a2,a3,a4,a5,a6⟩:=nJ hcf hlp hdr c (b:=b) (cs:=cs) (items:=[]) (fid:=f) (B1:=w.heap.size) rfl (.inl rfl) (ij (P:=P) hpre hal) (Marks.nil w ow w.heap.size) (Nat.le_refl _) e;have hlo:=hpre.lo;have hlen:sto.objs.length≤st'.sto.objs.length:=a5.len
 have hret:At P ans f B0 w1 Ψ1 ρ1 ow1 st' tmps1→finish P (ans f) fn sto.objs.length st'=some (res,sto')→(∃ k,Steps P (lone (b.atR ⟨vs++Array.replicate ((ans f).nt - vs.size) undef,[]⟩ [.code c]) cs w) (lone { b.atR ⟨tmps1,ds1⟩ k with mode:=.returning } cs w1)) →
   Leave P ans B0 w Ψ ρ ow sto f cs (lone (b.atR ⟨vs++Array.replicate ((ans f).nt - vs.size) undef,[]⟩ [.code c]) cs w) res sto':=fun hA hfin ⟨k,hs⟩=>by
  obtain ⟨w2,p1,p2,p3,p4,p5,p6⟩:=rE (P:=P) (cs:=cs) (fr:={ b.atR ⟨tmps1,ds1⟩ k with mode:=.returning }) a2 (by simp) rfl;have hA2:=hA.kept p2 p3;obtain ⟨s,v,ρ2,ow2,q1,q2,q3,q4,q5,q6,q6b,q7,q8,q9,q10⟩:=zw hA2 hlen hfin;subst q1;refine ⟨w2,Ψ1,ρ2,ow2,_,(a3.kept (Nat.le_refl _) p2 p3 p4 p5 p6).trans q6,rJ a4 hρl.symm q10,hA2.rel.wsat,q5,fun b hb=>?_,⟨q7.trans a5.lo,q8,fun i hi=>(q9 i (by omega)).trans (a5.keep i hi)⟩,hs.trans p1,rfl,q2,v,q4,rfl,rfl,rfl,fn,hfn,q3⟩;exact hA2.rel.lt b (q6b b hb)
 cases ex with
 |norm=>exact hret a1 he ⟨[],Steps.trans a6 (.one (stepR_end rfl))⟩
 |ret=>obtain ⟨k,hk⟩:=a6;exact hret a1 he ⟨_,hk.trans (.one (stepR_ret rfl))⟩
 |exit id=>cases he
 |pan x =>
  simp only[Option.some.injEq,Prod.mk.injEq] at he;obtain ⟨rfl,rfl⟩:=he;obtain ⟨v,k,hv,hs⟩:=a6;obtain ⟨w2,p1,p2,p3,p4,p5,p6⟩:=rE (P:=P) (cs:=cs) (fr:={ b.atR ⟨tmps1,ds1⟩ k with mode:=.panicking [{ v,recovered:=false }] }) a2 (by simp) rfl;have hr2:=Rest.kept a1 p2 p3;exact ⟨w2,Ψ1,ρ1,ow1,_,a3.kept (Nat.le_refl _) p2 p3 p4 p5 p6,a4,hr2.wsat,hr2.objs,hr2.lt,a5,hs.trans p1,rfl,v,hv,rfl,rfl,fn,hfn⟩
end Go.AM
end
section
namespace Go.AM
variable {P:Program} {ans:FuncId→Ann} {w:World} {B0:Nat} {Ψ:HT} {ρ:List Nat} {ow:Own} {tmps:Array Value}
variable {ds:List Deferred} {cf:aO} {lp:aT} {fid:FuncId} {B1:Nat} {b:Frame} {cs:List Frame} {items:List Item} {st:St} {pr:hZ}
def k7 (T:Array Value) (ps:List Nat) (vs:List Value):Array Value:=(ps.zip vs).foldl (fun t (p:Nat×Value)=>t.setIfInBounds p.1 p.2) T
theorem rP:∀ (ps:List Nat) (vs:List Value) (T:Array Value),(k7 T ps vs).size=T.size
 |[],vs,T=>rfl
 |p::ps,[],T=>rfl
 |p::ps,v::vs,T=>by
  show (k7 (T.setIfInBounds p v) ps vs).size=T.size;rw[rP];simp
theorem gA (l r:List (Nat×Slot)) (t:Nat):bZ (l++r) t=match bZ l t with|some s=>some s|none=>bZ r t:=by
 induction l with
 |nil=>rfl
 |cons p l ih =>
  obtain ⟨k,s⟩:=p;simp only[List.cons_append,bZ];cases Nat.beq k t with
  |true=>rfl
  |false=>exact ih
theorem yS:∀ (ps:List Nat) (args:List Slot) (vs:List Value) (T:Array Value),args.length=ps.length→vs.length=ps.length→(∀ (i:Nat) s u,args[i]?=some s→vs[i]?=some u→∃ x,s=.val x∧VRel Ψ ρ x u)→∀ t,
  match bZ (ps.zip args).reverse t with
  |some s=>∃ x u,s=.val x∧VRel Ψ ρ x u∧t∈ps∧(t < T.size→(k7 T ps vs).getD t undef=u)
  |none=>(k7 T ps vs).getD t undef=T.getD t undef
 |[],args,vs,T,h1,h2,h,t=>by simp [bZ,k7]
 |p::ps,[],vs,T,h1,h2,h,t=>by simp at h1
 |p::ps,a::args,[],T,h1,h2,h,t=>by simp at h2
 |p::ps,a::args,v::vs,T,h1,h2,h,t=>by
  have ih:=yS ps args vs (T.setIfInBounds p v) (by simpa using h1) (by simpa using h2) (fun i s u hs hu=>h (i+1) s u (by simpa using hs) (by simpa using hu)) t;have dJ:k7 T (p::ps) (v::vs)=k7 (T.setIfInBounds p v) ps vs:=rfl;rw[dJ];rw[show ((p::ps).zip (a::args)).reverse=(ps.zip args).reverse++[(p,a)] by simp,gA];cases hl:bZ (ps.zip args).reverse t with
  |some s =>
   rw[hl] at ih;obtain ⟨x,u,g1,g2,g3,g4⟩:=ih;exact ⟨x,u,g1,g2,by simp [g3],fun ht=>g4 (by simpa using ht)⟩
  |none =>
   rw[hl] at ih;simp only at ih ⊢;simp only[bZ];cases hp:Nat.beq p t with
   |true =>
    have hpt:=Nat.eq_of_beq_eq_true hp;subst hpt;obtain ⟨x,hx,hv⟩:=h 0 a v rfl rfl;refine ⟨x,v,hx,hv,by simp,fun ht=>?_⟩;rw[ih,cE _ _ _ _ ht,if_pos rfl]
   |false =>
    simp only[cond_false];rw[ih];have hne:t≠p:=fun e=>by subst e;rw[show Nat.beq t t=true from Nat.beq_refl t] at hp;cases hp
    simp [Array.getD_eq_getD_getElem?,Array.getElem?_setIfInBounds_ne (Ne.symm hne)]
theorem aBW {w':World} {ρ':List Nat} {ow':Own} {tmps':Array Value} {t:Nat} {s:Slot} {v:Value} (h:SRel w 0 Ψ ρ ow tmps t s v) (hs:dM s=s) (hp:pre ρ ρ'):SRel w' B0 Ψ ρ' ow' tmps' t s v:=by
 cases h with
 |dead=>exact .dead _
 |val x v h=>exact .val x v (h.mono Ψ.le_refl hp)
 |full xs a n h=>exact .full xs a n h
 |nl=>exact .nl
 |nn xs a n c h=>exact .nn xs a n c h
 |tup=>cases hs
 |own=>cases hs
 |cells=>cases hs
 |box=>cases hs
 |ref=>cases hs
theorem ke {tm:List Slot} (h:∀ s∈tm,dM s=s) (ks:List Nat) (t:Nat):dM (tlook ks tm t)=tlook ks tm t:=by
 rcases m6 (ks:=ks) (tm:=tm) (t:=t) with h1|h1
 ·rw[h1];rfl
 ·exact h _ h1
theorem kD {R:Type} {r:R} {sto:Sto} {i:Nat} {k:iP→Option R} (h:dB sto i k=some r):∃ l,sto.objs[i]?=some (.loop l)∧k l=some r:=by
 unfold dB at h
 split at h
 ·exact ⟨_,by assumption,h⟩
 ·cases h
theorem df {sto:Sto} (h:OsRel w B0 Ψ ρ ow ans sto.objs) {i lb:Nat} {l:iP} (ho:sto.objs[i]?=some (.loop l)) (hl:ρ[i]?=some lb) :
  ∃ rr,w.heap[lb]?=some (.loop rr)∧ow lb=some (true,i,0)∧B0≤lb∧(∀ o,Ψ lb o=hno)∧LoopRel w Ψ (ρ.take (i+1)) ans l rr:=by
 obtain ⟨b,h1,h2⟩:=h.2 i _ ho;obtain rfl:b=lb:=by rw[hl] at h1;exact (Option.some.inj h1).symm
 cases h2 with
 |loop _ _ rr a1 a2 a3 a4 a5=>exact ⟨rr,a1,a2,a3,a4,a5⟩
theorem LoopRel.put {w':World} {l l':iP} {rr rr':Loop} (h:LoopRel w Ψ ρ ans l rr) (h1:l'={ l with state:=l'.state,pend:=l'.pend }) (h2:rr'={ rr with state:=l'.state,pending:=l'.pend }):LoopRel w' Ψ ρ ans l' rr':=by
 rw[h1,h2];refine ⟨rfl,rfl,h.fn,h.params,h.assign,h.body,h.size,fun t=>?_,h.snap,h.hi⟩;exact (h.slots t).mono Ψ.le_refl (aG _) (fun b s hb=>by cases hb) (fun _ _ _=>rfl)
theorem Rest.setLoop {sto:Sto} (h:Rest ans B0 w Ψ ρ ow sto) {i lb:Nat} {l l':iP} {rr rr':Loop} (ho:sto.objs[i]?=some (.loop l)) (hl:ρ[i]?=some lb) (hrr:w.heap[lb]?=some (.loop rr)) (hown:ow lb=some (true,i,0)) (h0:B0≤lb) (hf:∀ o,Ψ lb o=hno)
  (hlr:LoopRel w Ψ (ρ.take (i+1)) ans l rr) (h1:l'={ l with state:=l'.state,pend:=l'.pend }) (h2:rr'={ rr with state:=l'.state,pending:=l'.pend }) :
  Rest ans B0 (w.putObj lb (.loop rr')) Ψ ρ ow (AM.setLoop sto i l')∧Fr w Ψ ow (w.putObj lb (.loop rr')) Ψ ow∧(∀ kk j,¬ (kk=true∧j=i)→Same w Ψ ow (w.putObj lb (.loop rr')) Ψ ow kk j kk j):=by
 have hlt:lb < w.heap.size:=(Array.getElem?_eq_some_iff.1 hrr).1
 have same:∀ kk j,¬ (kk=true∧j=i)→Same w Ψ ow (w.putObj lb (.loop rr')) Ψ ow kk j kk j:=fun kk j hk b' s hb' =>
  ⟨hb',World.putObj_heap_other (fun e=>by subst e;rw[hown] at hb';simp only[Option.some.injEq,Prod.mk.injEq] at hb';exact hk ⟨hb'.1.symm,hb'.2.1.symm⟩),fun _ h=>h⟩
 refine ⟨⟨h.wsat.put hf,?_,fun x hx=>by rw[World.putObj_size];exact h.lt x hx⟩,Fr.put (by simp [hown]) (fun _ h=>h),same⟩;exact h.objs.set (List.getElem?_eq_some_iff.1 ho).1 hl (.loop _ _ rr' (World.putObj_heap_same hlt) hown h0 hf (hlr.put h1 h2)) fun j hj=>same true j (by simp [hj])
theorem qp (hcf:lS P ans B0 cf) (hlp:oi P ans B0 lp) (hdr:mO P ans cf) {i:Nat} {args:List Slot} {sto:Sto} {res:ARes} {sto':Sto} (e:cJ P ans pr cf lp (.yld i) args sto=some (res,sto')) :
  ∃ al,sto.objs[i]?=some (.loop al)∧args.length=al.params.size∧∀ w Ψ ρ ow vs,eA ans B0 w Ψ ρ ow args vs sto→∀ l rr,ρ[i]?=some l→w.heap[l]?=some (.loop rr)→∀ c cs,
   eE P ans B0 w Ψ ρ ow sto c cs (lone (Frame.round l rr.fn ((rr.params.zip vs).foldl (fun t (p,a)=>t.setIfInBounds p a) rr.tmps) rr.assign rr.body .normal) (c::cs) w) res sto':=by
 simp only[cJ] at e;obtain ⟨al,hal,e⟩:=kD e
 split at e
 case h_2=>cases e
 rename_i hready;obtain ⟨hg,e⟩:=aA e;simp only[Bool.and_eq_true] at hg;obtain ⟨⟨⟨⟨⟨⟨g1,g2⟩,g3⟩,g4⟩,g5⟩,g6⟩,g7⟩:=hg;have hsize:args.length=al.params.size:=Nat.eq_of_beq_eq_true g2;have hloi:sto.lo≤i:=Nat.le_of_ble_eq_true g1;refine ⟨al,hal,hsize,fun w Ψ ρ ow vs hpre l rr hl hrr c cs=>?_⟩;obtain ⟨rr',hrr',hown,h0,hf,hlr⟩:=df hpre.objs hal hl;obtain rfl:rr=rr':=by rw[hrr] at hrr';exact Obj.loop.inj (Option.some.inj hrr')
 obtain ⟨fn,hfn⟩:=Option.isSome_iff_exists.1 g6
 let b:Frame:={ (default:Frame) with fn:=rr.fn,kind:=.normal,roundOf:=some l }
 have hbfn:b.fn=al.fn:=hlr.fn
 let T:=k7 rr.tmps rr.params.toList vs.toList
 have hround:Frame.round l rr.fn ((rr.params.zip vs).foldl (fun t (p,a)=>t.setIfInBounds p a) rr.tmps) rr.assign rr.body .normal=b.atR ⟨T,[]⟩ [.code al.assign,.beginRound,.code al.body]:=by
  have hT:(rr.params.zip vs).foldl (fun t (p,a)=>t.setIfInBounds p a) rr.tmps=T:=by
   simp only[T,k7];rw[←Array.foldl_toList,Array.toList_zip]
  rw[hT,←hlr.assign,←hlr.body];rfl
 have hround':lone (Frame.round l rr.fn ((rr.params.zip vs).foldl (fun t (p,a)=>t.setIfInBounds p a) rr.tmps) rr.assign rr.body .normal) (c::cs) w=lone (b.atR ⟨T,[]⟩ [.code al.assign,.beginRound,.code al.body]) (c::cs) w:=by rw[hround]
 rw[hround'];have hTs:T.size=(ans al.fn).nt:=by rw[rP];exact hlr.size
 have hil:i < sto.objs.length:=(List.getElem?_eq_some_iff.1 hal).1
 have hpar:=yS (Ψ:=Ψ) (ρ:=ρ) rr.params.toList args vs.toList rr.tmps (by rw[hlr.params];simpa using hsize) (by rw[hlr.params];have:=hpre.size;simp;omega) (fun j s u hs hu=>by
  have hv:=List.all_eq_true.1 g5 s (List.mem_of_getElem? hs);have hsr:=hpre.args j s hs;have hvu:vs.getD j undef=u:=by simp [Array.getD_eq_getD_getElem?,show vs[j]?=some u by simpa using hu]
  rw[hvu] at hsr;cases hsr with
  |val x u h=>exact ⟨x,rfl,h⟩
  |_=>simp [Slot.isVal] at hv)
 have hA:At P ans al.fn B0 w Ψ ρ ow ⟨cG (ans al.fn).keep al.tm (al.params.toList.zip args),sto⟩ T:=by
  have hslot:∀ t,tlook (ans al.fn).keep (cG (ans al.fn).keep al.tm (al.params.toList.zip args)) t=.dead∨(SRel w B0 Ψ ρ ow T t (tlook (ans al.fn).keep (cG (ans al.fn).keep al.tm (al.params.toList.zip args)) t) (T.getD t undef)∧t < (ans al.fn).nt∧dM (tlook (ans al.fn).keep (cG (ans al.fn).keep al.tm (al.params.toList.zip args)) t)=tlook (ans al.fn).keep (cG (ans al.fn).keep al.tm (al.params.toList.zip args)) t):=fun t=>by
   unfold cG;rcases kU (ans al.fn).keep al.tm (al.params.toList.zip args).reverse t with h1|h1
   ·exact .inl h1
   ·have hp:=hpar t
    rw[hlr.params] at hp;rw[h1];cases hl2:bZ (al.params.toList.zip args).reverse t with
    |some s =>
     rw[hl2] at hp;obtain ⟨x,u,rfl,hx,hm,hu⟩:=hp
     have htn:t < (ans al.fn).nt:=by
      have:=List.all_eq_true.1 g7 t hm
      simpa [Nat.blt_eq] using this
     right;refine ⟨?_,htn,rfl⟩
     have:T.getD t undef=u:=by simp only[T,hlr.params];exact hu (by rw[hlr.size];exact htn)
     rw[this];exact .val x u hx
    |none =>
     rw[hl2] at hp;simp only at hp ⊢;rcases Nat.lt_or_ge t (ans al.fn).nt with htn|htn
     ·right
      refine ⟨?_,htn,ke hlr.snap _ t⟩
      have:T.getD t undef=rr.tmps.getD t undef:=by simp only[T,hlr.params];exact hp
      rw[this];exact aBW (hlr.slots t) (ke hlr.snap _ t) yC
     ·exact .inl (hlr.hi t htn)
  have hns:∀ t u o,tlook (ans al.fn).keep (cG (ans al.fn).keep al.tm (al.params.toList.zip args)) t≠.ref u o:=fun t u o he=>by
   rcases hslot t with h1|⟨_,_,h1⟩
   ·rw[h1] at he;cases he
   ·rw[he] at h1;cases h1
  refine ⟨⟨hTs,hpre.wsat,fun t=>?_,fun d u o he=>absurd he (hns d u o),fun t cs' he=>?_,hpre.objs,hpre.lt,hpre.base,fun t ht=>?_⟩,?_,hpre.lo⟩
  ·rcases hslot t with h1|⟨h1,_,_⟩
   ·show SRel w B0 Ψ ρ ow T t (tlook (ans al.fn).keep (cG (ans al.fn).keep al.tm (al.params.toList.zip args)) t) _
    rw[h1];exact .dead _
   ·exact h1
  ·have he':tlook (ans al.fn).keep (cG (ans al.fn).keep al.tm (al.params.toList.zip args)) t=.box cs':=he
   rcases hslot t with h1|⟨_,_,h1⟩
   ·rw[h1] at he';cases he'
   ·rw[he'] at h1;cases h1
  ·show tlook (ans al.fn).keep (cG (ans al.fn).keep al.tm (al.params.toList.zip args)) t=.dead
   rcases hslot t with h1|⟨_,h1,_⟩
   ·exact h1
   ·omega
  ·exact noRef.commit fun s hs u o he=>by have:=hlr.snap s hs;rw[he] at this;cases this
 obtain ⟨ex,st1,he1,w1,Ψ1,ρ1,ow1,tmps1,ds1,a1,a2,a3,a4,a5,a6⟩:=nJ hcf hlp hdr al.assign (b:=b) (cs:=c::cs) (items:=[.beginRound,.code al.body]) (fid:=al.fn) (B1:=w.heap.size) hbfn (.inr g3) hA (Marks.nil w ow w.heap.size) (Nat.le_refl _) e;cases ex with
 |exit=>cases he1
 |ret=>cases he1
 |pan=>cases he1
 |norm =>
 simp only at he1;obtain ⟨l1,ho1,he1⟩:=kD he1
 split at he1
 case h_2=>cases he1
 rename_i hready1;have a1:At P ans al.fn B0 w1 Ψ1 ρ1 ow1 st1 tmps1:=a1;have hl1:ρ1[i]?=some l:=a4 i l hl;obtain ⟨rr1,hrr1,hown1,h01,hf1,hlr1⟩:=df a1.rel.objs ho1 hl1
 let l1b:iP:={ l1 with state:=.busy }
 have hset1:=a1.rest.setLoop (l':=l1b) (rr':={ rr1 with state:=.busy }) ho1 hl1 hrr1 hown1 h01 hf1 hlr1 rfl (by
  show ({ rr1 with state:=.busy }:Loop)={ rr1 with state:=.busy,pending:=l1.pend }
  rw[←hlr1.pend])
 have hbegin:=run_beginRound (P:=P) hrr1 (by rw[hlr1.state];exact hready1)
 let w1b:=w1.putObj l (.loop { rr1 with state:=.busy })
 have hAb:At P ans al.fn B0 w1b Ψ1 ρ1 ow1 { st1 with sto:=setLoop st1.sto i l1b } tmps1 :=
  ⟨⟨a1.rel.size,hset1.1.wsat,fun t=>(a1.rel.slots t).mono Ψ1.le_refl (aG _) (hset1.2.2 false t (by simp)) (fun _ _ _=>rfl),a1.rel.refs,a1.rel.boxes,hset1.1.objs,hset1.1.lt,by have:=a1.rel.base;simpa [w1b] using this,a1.rel.hi⟩,a1.nr,by simp only[setLoop,List.length_set];exact a1.lo⟩
 have hM1:=a2.mono hset1.2.1;obtain ⟨ex,st2,he2,w2,Ψ2,ρ2,ow2,tmps2,ds2,c1,c2,c3,c4,c5,c6⟩:=nJ hcf hlp hdr al.body (b:=b) (cs:=c::cs) (items:=[]) (fid:=al.fn) (B1:=w.heap.size) hbfn (.inr g4) hAb hM1 (Nat.le_trans a3.size hset1.2.1.size) he1
 have hsteps0:Steps P (lone (b.atR ⟨T,[]⟩ [.code al.assign,.beginRound,.code al.body]) (c::cs) w) (lone (b.atR ⟨tmps1,ds1⟩ [.code al.body]) (c::cs) w1b) :=
  Steps.trans a6 (.one (stepR_beginRound (b:=b) rfl hbegin))
 have hFr:Fr w Ψ ow w2 Ψ2 ow2:=(a3.trans hset1.2.1).trans c3;have hpre2:pre ρ ρ2:=gN a4 c4
 have hsto1:StoLe sto (setLoop st1.sto i l1b):=⟨a5.lo,by simp only[setLoop,List.length_set];exact a5.len,fun j hj=>by
  simp only[setLoop];rw[List.getElem?_set,if_neg (by omega)];exact a5.keep j hj⟩
 have hsto2:StoLe sto st2.sto:=hsto1.trans c5;have hρl:ρ.length=sto.objs.length:=hpre.objs.1
 have fin:∀ (jump:Option Code) (l2:iP),st2.sto.objs[i]?=some (.loop l2)→Rest ans B0 w2 Ψ2 ρ2 ow2 st2.sto→res=.ret (.val (.bool jump.isNone))→sto'=cut sto.objs.length (setLoop st2.sto i { l2 with state:=if jump.isNone then .ready else .done,pend:=jump }) →
   (∀ w3,(Instr.endRound l jump).run P w2=.ok (.bool jump.isNone) w3→Steps P (lone (b.atR ⟨tmps1,ds1⟩ [.code al.body]) (c::cs) w1b) (lone (c.finish (.bool jump.isNone)) cs w3)) →
   eE P ans B0 w Ψ ρ ow sto c cs (lone (b.atR ⟨T,[]⟩ [.code al.assign,.beginRound,.code al.body]) (c::cs) w) res sto':=fun jump l2 hol2 hrest hres hsto hst=>by
  have hl2:ρ2[i]?=some l:=c4 i l hl1;obtain ⟨rr2,hrr2,hown2,h02,hf2,hlr2⟩:=df hrest.objs hol2 hl2
  let l3:iP:={ l2 with state:=if jump.isNone then .ready else .done,pend:=jump }
  have hset2:=hrest.setLoop (l':=l3) (rr':={ rr2 with state:=if jump.isNone then .ready else .done,pending:=jump }) hol2 hl2 hrr2 hown2 h02 hf2 hlr2 rfl rfl;have hend:=run_endRound (P:=P) jump hrr2;have hn:sto.objs.length≤(setLoop st2.sto i l3).objs.length:=by simp only[setLoop,List.length_set];exact hsto2.len
  subst hres hsto;refine ⟨w2.putObj l (.loop { rr2 with state:=if jump.isNone then .ready else .done,pending:=jump }),Ψ2,ρ2.take sto.objs.length,ow2,hFr.trans hset2.2.1,rJ (ρ2:=ρ2) hpre2 hρl.symm (by rw[List.take_take,Nat.min_self]),hset2.1.wsat,hset2.1.objs.front _ hn,hset2.1.lt,⟨hsto2.lo,?_,fun j hj=>?_⟩,rfl,.bool jump.isNone,.val _ _ (.bool _),hsteps0.trans (hst _ hend)⟩
  ·show sto.objs.length≤((setLoop st2.sto i l3).objs.take sto.objs.length).length
   rw[List.length_take];omega
  ·show ((setLoop st2.sto i l3).objs.take sto.objs.length)[j]?=_
   rw[List.getElem?_take,if_pos (by omega)];simp only[setLoop];rw[List.getElem?_set,if_neg (by omega)];exact hsto2.keep j hj
 cases ex with
 |norm =>
  simp only at he2;obtain ⟨l2,ho2,he2⟩:=kD he2;simp only[Option.some.injEq,Prod.mk.injEq] at he2;exact fin none l2 ho2 (AtE.rest c1) he2.1.symm he2.2.symm fun w3 hend=>Steps.trans c6 (.one (stepR_round_end (b:=b) rfl rfl hend))
 |ret =>
  simp only at he2;obtain ⟨l2,ho2,he2⟩:=kD he2;simp only[Option.some.injEq,Prod.mk.injEq] at he2;obtain ⟨k,hk⟩:=c6;exact fin (some .ret) l2 ho2 (AtE.rest c1) he2.1.symm he2.2.symm fun w3 hend=>hk.trans (.one (stepR_round_ret (b:=b) rfl rfl hend))
 |exit id =>
  simp only at he2;obtain ⟨l2,ho2,he2⟩:=kD he2;simp only[Option.some.injEq,Prod.mk.injEq] at he2;obtain ⟨k,hx,hk⟩:=c6;exact fin (some (.exit id)) l2 ho2 (AtE.rest c1) he2.1.symm he2.2.symm fun w3 hend=>hk.trans (.one (stepR_round_exit (b:=b) rfl rfl hx hend))
 |pan x =>
  simp only[Option.some.injEq,Prod.mk.injEq] at he2;obtain ⟨rfl,rfl⟩:=he2;obtain ⟨v,k,hv,hs⟩:=c6;obtain ⟨w3,p1,p2,p3,p4,p5,p6⟩:=rE (P:=P) (cs:=c::cs) (fr:={ b.atR ⟨tmps2,ds2⟩ k with mode:=.panicking [{ v,recovered:=false }] }) c2 (by simp) rfl;have hr2:=Rest.kept c1 p2 p3;refine ⟨w3,Ψ2,ρ2,ow2,hFr.kept (Nat.le_refl _) p2 p3 p4 p5 p6,hpre2,hr2.wsat,hr2.objs,hr2.lt,hsto2,v,hv,(hsteps0.trans (hs.trans p1)).trans (.one (step_leave_panicked ⟨rfl,rfl,fn,?_⟩))⟩;show P.funcs[rr.fn]?=some fn;rw[hlr.fn];exact hfn
structure Env (P:Program) (ans:FuncId→Ann) (B0:Nat) (pr:hZ):Prop where
 prim:∀ f args res,pr f args=some (some res)→(∃ F,P.funcs[f]?=some F∧F.body.isSome=true)∧∀ sto w Ψ ρ ow vs,eA ans B0 w Ψ ρ ow args vs sto→∀ c cs,eE P ans B0 w Ψ ρ ow sto c cs (lone (Frame.enter P f vs .normal) (c::cs) w) res sto
 names:∀ (f:Nat) (F:Func),P.funcs[f]?=some F→F.body.isSome=true→F.name≠ "runtime.NumGoroutine"
 drawn:∀ cf,iD ans cf→mO P ans cf
theorem fj (E:Env P ans B0 pr) (hcf:lS P ans B0 cf) (hlp:oi P ans B0 lp) (hpc:iD ans cf):lS P ans B0 (cJ P ans pr cf lp) where
 fn:=fun f args sto res sto' e=>by
  cases hpr:pr f args with
  |some o =>
   cases o with
   |none=>simp [cJ,hpr] at e
   |some r0 =>
    simp only[cJ,hpr,Option.bind_some,Option.map_eq_some_iff] at e;obtain ⟨s0,hs0,he⟩:=e;cases r0 with
    |pan v=>cases hs0
    |ret s =>
    obtain ⟨_,hs0⟩:=aA hs0;cases hs0;cases he;obtain ⟨⟨F,h1,h2⟩,h3⟩:=E.prim _ _ _ hpr;exact ⟨⟨F,h1,h2,E.names _ _ h1 h2⟩,fun w Ψ ρ ow vs hp c cs=>h3 sto w Ψ ρ ow vs hp c cs⟩
  |none =>
   obtain ⟨⟨F,h1,h2⟩,h3⟩:=yG hcf hlp (E.drawn cf hpc) hpr e;exact ⟨⟨F,h1,h2,E.names _ _ h1 h2⟩,fun w Ψ ρ ow vs hp c cs=>(h3 w Ψ ρ ow vs hp (c::cs)).post⟩
 yld:=fun i args sto res sto' e=>qp hcf hlp (E.drawn cf hpc) e
theorem tJ:∀ n,iD ans (run P ans pr n).1
 |0=>fun f args _=>⟨none,by simp,fun sto=>rfl⟩
 |n+1=>fun f args h=>by
  cases hp:pr f args with
  |none=>exact ⟨none,by simp,fun sto=>by simp [run,cJ,hp,h]⟩
  |some o =>
   refine ⟨o.bind oq,fun s hs=>?_,fun sto=>by simp [run,cJ,hp]⟩;obtain ⟨r,_,hs⟩:=aC hs;cases r with
   |pan v=>cases hs
   |ret s'=>obtain ⟨hg,hs⟩:=aA hs;cases hs;exact hg
theorem uS (E:Env P ans B0 pr):∀ n,lS P ans B0 (run P ans pr n).1∧oi P ans B0 (run P ans pr n).2
 |0=>⟨⟨fun f args sto res sto' e=>by simp [run] at e,fun i args sto res sto' e=>by simp [run] at e⟩,fun fid c st e st' h=>by simp [run] at h⟩
 |n+1=>by
  obtain ⟨h1,h2⟩:=uS E n;exact ⟨fj E h1 h2 (tJ n),gl h1 h2 (E.drawn _ (tJ n))⟩
theorem yx (E:Env P ans B0 pr) {n:Nat} {f:FuncId} {args:List Slot} {sto:Sto} {res:ARes} {sto':Sto} (hpr:pr f args=none) (e:(run P ans pr (n+1)).1 (.fn f) args sto=some (res,sto')) {vs:Array Value} (hpre:eA ans B0 w Ψ ρ ow args vs sto) :
  Calls P f vs w fun e w'=>∃ Ψ' ρ' ow',Fr w Ψ ow w' Ψ' ow'∧WSat Ψ' w'∧match res with
   |.ret s=>∃ v,e=.returned v∧SRel w' B0 Ψ' ρ' ow' #[] 0 s v
   |.pan x=>∃ v,e=.panicked [{ v,recovered:=false }]∧VRel Ψ' ρ' x v:=by
 intro cs;obtain ⟨h1,h2⟩:=uS E n;obtain ⟨w',Ψ',ρ',ow',fr,a1,a2,a3,a4,a5,a6,a7,a8,a9⟩:=(yG h1 h2 (E.drawn _ (tJ n)) hpr e).2 w Ψ ρ ow vs hpre cs;cases res with
 |ret s =>
  obtain ⟨_,v,hs,hl⟩:=a9;exact ⟨.returned v,w',fr,⟨Ψ',ρ',ow',a1,a3,v,rfl,hs⟩,a7,a8,hl⟩
 |pan x =>
  obtain ⟨v,hs,hl⟩:=a9;exact ⟨.panicked _,w',fr,⟨Ψ',ρ',ow',a1,a3,v,rfl,hs⟩,a7,a8,hl⟩
end Go.AM
end
