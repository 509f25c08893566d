import Derived.Test.YtdkkaldimefljaaGreatDoorC01
import Derived.Test.YtdkkaldimefljaaGreatDoorA05
import Derived.LaidEqlPtr
set_option linter.all false
noncomputable section
namespace Go.CM
open Go.AM (oneC overwrite)
variable {P:Program} {w0 w:World} {ρ ρ':Rho} {h h':T O} {nx:Q}
inductive StR:Nat→LoopState→Prop where
 |ready:StR 0 .ready
 |busy:StR 1 .busy
 |done:StR 2 .done
 |exhausted:StR 3 .exhausted
inductive JR:Jump→Option Code→Prop where
 |none:JR .none none
 |ret:JR .ret (some .ret)
 |exit (id:Nat):JR (.exit id) (some (.exit id))
structure TR (ρ:Rho) (n:Nat) (tm:T V) (tmps:Array Value):Prop where
 size:n≤tmps.size
 rel:∀ t,VR ρ (tm.at t) (tmps.getD t Go.undef)
theorem TR.mono {n:Nat} {tm:T V} {tmps:Array Value} (hp:ρ.le ρ') (h:TR ρ n tm tmps):TR ρ' n tm tmps:=⟨h.size,fun t=>(h.rel t).mono hp⟩
def nt (P:Program) (f:Nat):Nat:=((P.funcs[f]?).map (·.ntmps)).getD 0
inductive LR (P:Program) (ρ:Rho):Lp→Loop→Prop where
 |mk (st:Nat) (pend:Jump) (fn:Nat) (tm:T V) (dfs:Q) (r:Loop) (N:Nat) (h1:StR st r.state) (h2:JR pend r.pending) (h3:r.fn=fn) (h4:TR ρ (nt P fn) tm r.tmps)
   (h5:∀ t∈r.params.toList,t < nt P fn) (h6:ρ dfs=some (r.defers,N)) :
   LR P ρ (.mk st pend (qn fn) tm (r.params.toList.map qn) (cU P (nt P fn) r.assign) (cU P (nt P fn) r.body) dfs) r
theorem LR.mono {l:Lp} {r:Loop} (hp:ρ.le ρ') (h:LR P ρ l r):LR P ρ' l r:=by
 cases h with
 |mk st pend fn tm dfs r N h1 h2 h3 h4 h5 h6=>exact .mk st pend fn tm dfs r N h1 h2 h3 (h4.mono hp) h5 (hp _ _ h6)
structure MR (ρ:Rho) (es:List (V×V)) (ents:List MapEntry):Prop where
 len:es.length=ents.length
 key:∀ (i:Nat) p e,es[i]?=some p→ents[i]?=some e→VR ρ p.1 e.key
 val:∀ (i:Nat) p e,es[i]?=some p→ents[i]?=some e→VR ρ p.2 e.val
def Born (ents:List MapEntry) (clock:Nat):Prop:=clock=ents.length∧∀ (i:Nat) (e:MapEntry),ents[i]?=some e→e.born=i
theorem MR.mono {es:List (V×V)} {ents:List MapEntry} (hp:ρ.le ρ') (h:MR ρ es ents):MR ρ' es ents:=⟨h.len,fun i p e h1 h2=>(h.key i p e h1 h2).mono hp,fun i p e h1 h2=>(h.val i p e h1 h2).mono hp⟩
inductive OR (P:Program) (ρ:Rho) (w:World) (B0:Nat):O→Nat→Nat→Prop where
 |dead (b N:Nat):OR P ρ w B0 .dead b N
 |row (n:Nat) (t:T V) (anc:List Q) (flo:Nat) (T:TypeId) (ex:Bool) (b N:Nat) (vs:List Value) (hb:B0≤b) (hw:w.heap[b]?=some (.cells ⟨vs⟩ T (0,0))) (hN:vs.length=N) (hn:n≤N) (hf:flo≤n) (he:ex=true→n=N)
   (ha:∀ a∈anc,ρ a≠none) (hx:∀ (i:Nat) v,i < n→vs[i]?=some v→VR ρ (t.at i) v) (hk:∀ i,i < n→isCell (t.at i)=true):OR P ρ w B0 (.row n t anc flo T ex) b N
 |ro (n:Nat) (t:T V) (b N:Nat) (vs:List Value) (T:TypeId) (fz:Nat×Nat) (hw:w.heap[b]?=some (.cells ⟨vs⟩ T fz)) (hn:n≤vs.length)
   (hx:∀ (i:Nat) v,i < n→vs[i]?=some v→VR ρ (t.at i) v) (hk:∀ i,i < n→isCell (t.at i)=true):OR P ρ w B0 (.ro n t) b N
 |map (es:List (V×V)) (ents:List MapEntry) (cl b N:Nat) (hb:B0≤b) (hw:w.heap[b]?=some (.map ⟨ents⟩ cl)) (hm:MR ρ es ents) (hc:Born ents cl):OR P ρ w B0 (.map es) b N
 |mapd (es:List (V×V)) (ents:List MapEntry) (cl b N:Nat) (hb:B0≤b) (hw:w.heap[b]?=some (.map ⟨ents⟩ cl)) (hm:MR ρ es ents):OR P ρ w B0 (.mapd es) b N
 |loop (l:Lp) (r:Loop) (b N:Nat) (hb:B0≤b) (hw:w.heap[b]?=some (.loop r)) (hl:LR P ρ l r):OR P ρ w B0 (.loop l) b N
 |dfd (taken:Bool) (b N:Nat) (hb:B0≤b) (hw:w.heap[b]?=some (.deferred (if taken then none else some []))):OR P ρ w B0 (.dfd taken) b N
def Sh (x y:O) (q:Q):Prop :=
 match x with
 |.row _ _ anc flo _ _=>y=.dead∨∃ n t,y=.ro n t∧q∈anc∧n≤flo
 |.map _|.mapd _|.loop _|.dfd _=>y=.dead
 |.dead|.ro _ _=>True
structure HR (P:Program) (w0:World) (ρ:Rho) (h:T O) (nx:Q) (w:World):Prop where
 size:w0.heap.size≤w.heap.size
 old:∀ b,b < w0.heap.size→w.heap[b]?=w0.heap[b]?
 os:w.os=w0.os
 tape:w.tape=w0.tape
 output:w.output=w0.output
 glob:Glo P ρ
 fresh:∀ q,nx.nat≤q.nat→ρ q=none
 lt:∀ q b N,ρ q=some (b,N)→b < w.heap.size
 obj:∀ q b N,ρ q=some (b,N)→OR P ρ w w0.heap.size (h.ob q) b N
 sep:∀ q q' b N N',q≠q'→ρ q=some (b,N)→ρ q'=some (b,N')→Sh (h.ob q) (h.ob q') q'
 dead:∀ q,nx.nat≤q.nat→h.ob q=.dead
theorem OR.mono {B0:Nat} {o:O} {b N:Nat} {w':World} (hp:ρ.le ρ') (hw':w'.heap[b]?=w.heap[b]?) (h:OR P ρ w B0 o b N):OR P ρ' w' B0 o b N:=by
 cases h with
 |dead=>exact .dead _ _
 |row n t anc flo T ex _ _ vs hb hw hN hn hf he ha hx hk =>
  exact .row n t anc flo T ex _ _ vs hb (by rw[hw'];exact hw) hN hn hf he (fun a h1=>by
   cases e:ρ a with
   |none=>exact absurd e (ha a h1)
   |some x=>rw[hp a x e];simp) (fun i v h1 h2=>(hx i v h1 h2).mono hp) hk
 |ro n t _ _ vs T fz hw hn hx hk=>exact .ro n t _ _ vs T fz (by rw[hw'];exact hw) hn (fun i v h1 h2=>(hx i v h1 h2).mono hp) hk
 |map es ents cl _ _ hb hw hm hc=>exact .map es ents cl _ _ hb (by rw[hw'];exact hw) (hm.mono hp) hc
 |mapd es ents cl _ _ hb hw hm=>exact .mapd es ents cl _ _ hb (by rw[hw'];exact hw) (hm.mono hp)
 |loop l r _ _ hb hw hl=>exact .loop l r _ _ hb (by rw[hw'];exact hw) (hl.mono hp)
 |dfd taken _ _ hb hw=>exact .dfd taken _ _ hb (by rw[hw'];exact hw)
theorem HR.cell (H:HR P w0 ρ h nx w) {o:Q} {b N n off:Nat} {t:T V} (ho:ρ o=some (b,N)) (hr:(∃ anc flo ty ex,h.ob o=.row n t anc flo ty ex)∨h.ob o=.ro n t) (hi:off < n) :
  ∃ v,w.cell? ⟨b,off,none⟩=some v∧VR ρ (t.at off) v∧isCell (t.at off)=true:=by
 have:=H.obj o b N ho
 rcases hr with ⟨anc,flo,ty,ex,hr⟩|hr
 ·rw[hr] at this
  cases this with
  |row _ _ _ _ _ _ _ _ vs hb hw hN hn hf he ha hx hk =>
   have hlt:off < vs.length:=by omega
   exact ⟨vs[off],by rw[AM.cell_of_heap hw];simp [hlt],hx off _ hi (by simp [hlt]),hk off hi⟩
 ·rw[hr] at this
  cases this with
  |ro _ _ _ _ vs T fz hw hn hx hk =>
   have hlt:off < vs.length:=by omega
   exact ⟨vs[off],by rw[AM.cell_of_heap hw];simp [hlt],hx off _ hi (by simp [hlt]),hk off hi⟩
theorem HR.cells (H:HR P w0 ρ h nx w) {o:Q} {b N n off m:Nat} {t:T V} (ho:ρ o=some (b,N)) (hr:(∃ anc flo ty ex,h.ob o=.row n t anc flo ty ex)∨h.ob o=.ro n t) (hi:off+m≤n) :
  ∃ vs:List Value,vs.length=m∧(∀ (j:Nat) v,vs[j]?=some v→w.cell? ⟨b,off+j,none⟩=some v)∧VRs ρ (lH m off t) vs∧∀ c∈lH m off t,isCell c=true:=by
 have hex:∀ j,j < m→∃ v,w.cell? ⟨b,off+j,none⟩=some v∧VR ρ (t.at (off+j)) v∧isCell (t.at (off+j))=true:=fun j hj=>H.cell ho hr (by omega)
 refine ⟨(List.range m).map fun j=>(w.cell? ⟨b,off+j,none⟩).getD Go.undef,by simp,fun j v hv=>?_,⟨by simp [kV],fun i c v hc hv=>?_⟩,fun c hc=>?_⟩
 ·have hj:j < m:=by have:=(List.getElem?_eq_some_iff.1 hv).1;simpa using this
  obtain ⟨u,hu,_⟩:=hex j hj;rw[List.getElem?_map,List.getElem?_range hj] at hv;simp [hu] at hv ⊢;exact hv
 ·have hj:i < m:=by have:=(List.getElem?_eq_some_iff.1 hc).1;simpa [kV] using this
  obtain ⟨u,hu,h1,_⟩:=hex i hj;rw[qE hj] at hc;rw[List.getElem?_map,List.getElem?_range hj] at hv;simp [hu] at hc hv;subst hc;subst hv;exact h1
 ·obtain ⟨i,hi'⟩:=List.getElem?_of_mem hc
  have hj:i < m:=by have:=(List.getElem?_eq_some_iff.1 hi').1;simpa [kV] using this
  rw[qE hj] at hi';simp at hi';subst hi';exact (hex i hj).choose_spec.2.2
structure Keep (β:Nat) (ρ:Rho) (h:T O) (ρ':Rho) (h':T O):Prop where
 le:ρ.le ρ'
 pend:∀ q:Q,q.nat < β→ρ q=none→ρ' q=none∧h'.ob q=h.ob q
theorem Keep.refl (β:Nat) (ρ:Rho) (h:T O):Keep β ρ h ρ h:=⟨Rho.le_refl _,fun _ _ hq=>⟨hq,rfl⟩⟩
theorem Keep.trans {β:Nat} {ρ1 ρ2 ρ3:Rho} {h1 h2 h3:T O} (a:Keep β ρ1 h1 ρ2 h2) (b:Keep β ρ2 h2 ρ3 h3):Keep β ρ1 h1 ρ3 h3 :=
 ⟨Rho.le_trans a.le b.le,fun q hq hn=>by
  obtain ⟨x,y⟩:=a.pend q hq hn;obtain ⟨x',y'⟩:=b.pend q hq x;exact ⟨x',y'.trans y⟩⟩
theorem Keep.down {β β':Nat} (hle:β'≤β) (a:Keep β ρ h ρ' h'):Keep β' ρ h ρ' h':=⟨a.le,fun q hq=>a.pend q (by omega)⟩
theorem HR.drawn (H:HR P w0 ρ h nx w) (d:Nat):HR P w0 ρ h nx { w with drawn:=d } :=
 ⟨H.size,H.old,H.os,H.tape,H.output,H.glob,H.fresh,H.lt,fun q b N e=>OR.mono (w:=w) (w':={ w with drawn:=d }) (Rho.le_refl _) rfl (H.obj q b N e),H.sep,H.dead⟩
theorem HR.pend (H:HR P w0 ρ h nx w) {q:Q} (hq:ρ q=none) (o:O) {nx':Q} (hx:nx.nat≤nx'.nat) (hqx:q.nat < nx'.nat):HR P w0 ρ (h.put .dead o q) nx' w:=by
 have hne:∀ p x,ρ p=some x→q≠p:=fun p x e he=>by subst he;rw[hq] at e;cases e
 refine ⟨H.size,H.old,H.os,H.tape,H.output,H.glob,fun p hp=>H.fresh p (by omega),H.lt,fun p b N e=>?_,fun p p' b N N' h1 h2 h3=>?_,fun p hp=>?_⟩
 ·rw[T.ob,T.get_put_ne _ _ _ (hne p _ e)];exact H.obj p b N e
 ·rw[T.ob,T.ob,T.get_put_ne _ _ _ (hne p _ h2),T.get_put_ne _ _ _ (hne p' _ h3)];exact H.sep p p' b N N' h1 h2 h3
 ·rw[T.ob,T.get_put_ne _ _ _ (fun e=>by subst e;omega)];exact H.dead p (by omega)
def Rho.set (ρ:Rho) (q:Q) (b N:Nat):Rho:=fun p=>if p=q then some (b,N) else ρ p
theorem Rho.set_le {q:Q} {b N:Nat} (hq:ρ q=none):ρ.le (ρ.set q b N):=fun p x e=>by
 unfold Rho.set;split
 ·subst_vars;rw[hq] at e;cases e
 ·exact e
theorem Rho.set_same {q:Q} {b N:Nat}:ρ.set q b N q=some (b,N):=by simp [Rho.set]
theorem HR.born (H:HR P w0 ρ h nx w) {q:Q} (hq:ρ q=none) (hn:q.nat < nx.nat) {x:Obj} {N:Nat}
  (ho:OR P (ρ.set q w.heap.size N) (w.alloc x) w0.heap.size (h.ob q) w.heap.size N):HR P w0 (ρ.set q w.heap.size N) h nx (w.alloc x):=by
 have hle:=Rho.set_le (b:=w.heap.size) (N:=N) hq;have hlt:∀ p b N',ρ p=some (b,N')→b < w.heap.size:=H.lt;refine ⟨?_,fun b hb=>?_,H.os,H.tape,H.output,fun g hg=>?_,fun p hp=>?_,fun p b N' e=>?_,fun p b N' e=>?_,fun p p' b N1 N2 h1 h2 h3=>?_,H.dead⟩
 ·have:=H.size
  show w0.heap.size≤(w.heap.push x).size;simp;omega
 ·rw[AM.heap_alloc_old _ (Nat.lt_of_lt_of_le hb H.size)];exact H.old b hb
 ·obtain ⟨N',e⟩:=H.glob g hg
  exact ⟨N',hle _ _ e⟩
 ·unfold Rho.set
  rw[if_neg (fun e=>by subst e;omega)];exact H.fresh p hp
 ·show b < (w.heap.push x).size
  simp only[Array.size_push];unfold Rho.set at e
  split at e
  ·simp at e;omega
  ·have:=hlt _ _ _ e;omega
 ·by_cases hp:p=q
  ·subst hp
   rw[Rho.set_same] at e;simp at e;obtain ⟨rfl,rfl⟩:=e;exact ho
  ·unfold Rho.set at e
   rw[if_neg hp] at e;exact (H.obj p b N' e).mono hle (AM.heap_alloc_old _ (hlt _ _ _ e))
 ·unfold Rho.set at h2 h3
  by_cases hp:p=q
  ·rw[if_pos hp] at h2
   simp at h2;rw[if_neg (fun e=>h1 (by rw[hp,e]))] at h3
   have:=hlt _ _ _ h3;omega
  ·rw[if_neg hp] at h2
   by_cases hp':p'=q
   ·rw[if_pos hp'] at h3
    simp at h3
    have:=hlt _ _ _ h2;omega
   ·rw[if_neg hp'] at h3
    exact H.sep p p' b N1 N2 h1 h2 h3
end Go.CM
end
noncomputable section
namespace Go.CM
open Go.AM (oneC overwrite run_underlying run_sizeOf cR aQ aZ bC bU)
variable {P:Program} {w0 w:World} {ρ:Rho} {h:T O} {nx:Q}
theorem mP (l:Nat):n5 l=256 ^ l:=by
 unfold n5;rw[show Nat.pow 2 (8 * l)=2 ^ (8 * l) from rfl,Nat.pow_mul]
theorem gx:∀ s:List UInt8,packL s < 256 ^ s.length
 |[]=>by simp [packL]
 |b::s=>by
  have h1:=gx s;have h2:b.toNat < 256:=b.toNat_lt;simp only[packL,List.length_cons,Nat.pow_succ];omega
theorem k8:∀ a b:List UInt8,packL (a++b)=packL a+packL b * 256 ^ a.length
 |[],b=>by simp [packL]
 |x::a,b=>by
  simp only[List.cons_append,packL,k8 a b,List.length_cons,Nat.pow_succ,Nat.mul_add];rw[Nat.add_assoc,Nat.mul_left_comm 256 (packL b),Nat.mul_comm 256 (256 ^ a.length)]
theorem mR:∀ {a b:List UInt8},a.length=b.length→packL a=packL b→a=b
 |[],[],_,_=>rfl
 |[],_::_,h,_=>by simp at h
 |_::_,[],h,_=>by simp at h
 |x::a,y::b,h,e=>by
  simp only[packL] at e;have h1:x.toNat < 256:=x.toNat_lt;have h2:y.toNat < 256:=y.toNat_lt;have h3:x.toNat=y.toNat:=by omega
  have h4:=mR (a:=a) (b:=b) (by simpa using h) (by omega);rw[UInt8.toNat_inj.1 h3,h4]
theorem qW (s:List UInt8) (k:Nat) (hk:k≤s.length):packL (s.take k)=packL s % 256 ^ k∧packL (s.drop k)=packL s / 256 ^ k:=by
 have h1:=k8 (s.take k) (s.drop k);rw[List.take_append_drop,List.length_take,Nat.min_eq_left hk] at h1;have h2:=gx (s.take k);rw[List.length_take,Nat.min_eq_left hk] at h2;have hp:0 < 256 ^ k:=Nat.pow_pos (by omega);rw[h1];constructor
 ·rw[Nat.add_mul_mod_self_right,Nat.mod_eq_of_lt h2]
 ·rw[Nat.add_mul_div_right _ _ hp,Nat.div_eq_of_lt h2,Nat.zero_add]
theorem yf (s:List UInt8) (j:Nat) (hj:j < s.length):packL s / 256 ^ j % 256=(s[j]).toNat:=by
 have h1:=(qW s j (by omega)).2;rw[List.drop_eq_getElem_cons hj] at h1;rw[←h1];simp only[packL];have h2:(s[j]).toNat < 256:=(s[j]).toNat_lt;omega
theorem wO (k:IntKind) (m:Nat) (hm:m≤ikM k):k.wrap (.ofNat m)=.ofNat m:=by
 cases k <;> simp only[ikM] at hm <;> simp [IntKind.wrap,IntKind.bits,IntKind.signed] <;> omega
theorem mH {k:IntKind} {n:Int} {kn:Int→Res} {r:V} (e:gX k n kn=.ok r):kn (k.wrap n)=.ok r:=by
 cases n with
 |ofNat m =>
  simp only[gX,aF] at e
  split at e
  ·rename_i hb
   rw[wO k m (Nat.le_of_ble_eq_true hb)];exact e
  ·rw[fQ] at e;exact e
 |negSucc m=>simp only[gX,aF,fQ] at e;exact e
theorem aE6 (x y:Int):aEp x y=x+y:=by
 unfold aEp;split <;> rfl
theorem aEI (x y:Int):aH9 x y=x * y:=by
 unfold aH9;split <;> rfl
theorem vg (x y:Int):ng x y=x - y:=by
 unfold ng;split
 ·rename_i a b
  split
  ·rename_i hb
   have:=Nat.le_of_ble_eq_true hb
   simp only[Int.ofNat_eq_natCast];omega
  ·rename_i hb
   have:¬ b≤a:=fun h=>by rw[Nat.ble_eq_true_of_le h] at hb;cases hb
   simp only[Int.ofNat_eq_natCast];omega
 ·rfl
theorem wC (x y:Int):leI x y=decide (x≤y):=by
 unfold leI;split
 ·rename_i a b
  rw[Bool.eq_iff_iff,Nat.ble_eq,decide_eq_true_eq];simp only[Int.ofNat_eq_natCast];omega
 ·rename_i a b;rw[eq_comm,decide_eq_false_iff_not];simp only[Int.ofNat_eq_natCast];omega
 ·rename_i a b;rw[eq_comm,decide_eq_true_eq];simp only[Int.ofNat_eq_natCast];omega
 ·rename_i a b
  rw[Bool.eq_iff_iff,Nat.ble_eq,decide_eq_true_eq];omega
theorem rG (x y:Int):eqI x y=(x==y):=by
 unfold eqI;split
 ·rename_i a b;rw[Bool.eq_iff_iff,Nat.beq_eq,beq_iff_eq];simp only[Int.ofNat_eq_natCast];omega
 ·rename_i a b;rw[Bool.eq_iff_iff,Nat.beq_eq,beq_iff_eq];omega
 ·rename_i h1 h2
  rw[eq_comm,beq_eq_false_iff_ne];intro e;subst e;cases x with
  |ofNat a=>exact h1 a a rfl rfl
  |negSucc a=>exact h2 a a rfl rfl
theorem lY {b:Bool} {k:V→Res} {r:V} (e:bK b k=.ok r):k (.bool b)=.ok r:=by cases b <;> exact e
theorem sK {k k':IntKind} (e:Nat.beq (ikN k) (ikN k')=true):k=k':=by
 cases k <;> cases k' <;> first|rfl|(exact absurd e (by decide))
theorem aC2 {op:BinOp} {kd:IntKind} {x y:Int} {k:V→Res} {r:V} {t:TypeId} {ox oy:Operand} (e:pG op kd x y k=.ok r) :
  ∃ c u,k c=.ok r∧(eqGuard op t ox oy (.int kd x) (.int kd y)).run P w=.ok () w∧(binOp op t (.int kd x) (.int kd y)).run P w=.ok u w∧VR ρ c u:=by
 have hg:(eqGuard op t ox oy (.int kd x) (.int kd y)).run P w=.ok () w:=by rw[eqGuard_at_int];rfl
 cases op <;> simp only[pG] at e <;> first|cases e|skip
 case add =>
  have e:=mH e;rw[aE6] at e;exact ⟨_,.int kd (kd.wrap (x+y)),e,hg,by simp [binOp,Op.intArith],.int _ _⟩
 case sub =>
  have e:=mH e;rw[vg] at e;exact ⟨_,.int kd (kd.wrap (x - y)),e,hg,by simp [binOp,Op.intArith],.int _ _⟩
 case mul =>
  have e:=mH e;rw[aEI] at e;exact ⟨_,.int kd (kd.wrap (x * y)),e,hg,by simp [binOp,Op.intArith],.int _ _⟩
 case rem =>
  obtain ⟨h1,h2⟩:=bR e;rw[fQ] at h2;rw[rG] at h1;have h0:¬ y=0:=by simpa using h1
  exact ⟨_,.int kd (x.tmod y),h2,hg,by simp [binOp,Op.intDiv,h0],.int _ _⟩
 case eql =>
  have e:=lY e;rw[rG] at e;exact ⟨_,.bool (x==y),e,hg,by simp [binOp,Op.intCmp],.bool _⟩
 case neq =>
  have e:=lY e;rw[rG] at e;exact ⟨_,.bool (!(x==y)),e,hg,by simp [binOp,Op.intCmp,bne],.bool _⟩
 case lss =>
  have e:=lY e;rw[wC,show (!decide (y≤x))=decide (x < y) by rw[Bool.eq_iff_iff];simp] at e;exact ⟨_,.bool (decide (x < y)),e,hg,by simp [binOp,Op.intCmp],.bool _⟩
 case leq =>
  have e:=lY e;rw[wC] at e;exact ⟨_,.bool (decide (x≤y)),e,hg,by simp [binOp,Op.intCmp],.bool _⟩
 case gtr =>
  have e:=lY e;rw[wC,show (!decide (x≤y))=decide (x > y) by rw[Bool.eq_iff_iff];simp] at e;exact ⟨_,.bool (decide (x > y)),e,hg,by simp [binOp,Op.intCmp],.bool _⟩
 case geq =>
  have e:=lY e;rw[wC] at e;exact ⟨_,.bool (decide (x≥y)),e,hg,by simp [binOp,Op.intCmp],.bool _⟩
theorem oz {s s':List UInt8}:(Nat.beq s.length s'.length&&Nat.beq (packL s) (packL s'))=(s==s'):=by
 rw[Bool.eq_iff_iff,Bool.and_eq_true,Nat.beq_eq,Nat.beq_eq,beq_iff_eq];exact ⟨fun ⟨a,b⟩=>mR a b,fun e=>by subst e;exact ⟨rfl,rfl⟩⟩
theorem aEe {op:BinOp} {s s':List UInt8} {k:V→Res} {r:V} {t:TypeId} {ox oy:Operand} (e:ya op s.length (packL s) s'.length (packL s') k=.ok r) :
  ∃ c u,k c=.ok r∧(eqGuard op t ox oy (.string ⟨⟨s⟩⟩) (.string ⟨⟨s'⟩⟩)).run P w=.ok () w∧(binOp op t (.string ⟨⟨s⟩⟩) (.string ⟨⟨s'⟩⟩)).run P w=.ok u w∧VR ρ c u:=by
 have hg:(eqGuard op t ox oy (.string ⟨⟨s⟩⟩) (.string ⟨⟨s'⟩⟩)).run P w=.ok () w:=by rw[eqGuard_at_string];rfl
 cases op <;> simp only[ya] at e <;> first|cases e|skip
 case add =>
  obtain ⟨h1,h2⟩:=bR e;rw[aF,aF] at h2;have hle:=Nat.le_of_ble_eq_true h1
  have hmax:¬ ((s.length:Int)+(s'.length:Int) > IntKind.i64.max):=by
   rw[show IntKind.i64.max=9223372036854775807 by decide];omega
  refine ⟨_,.string ⟨⟨s++s'⟩⟩,h2,hg,?_,.str _ _ _ (by simp) (by rw[k8,mP])⟩;have h3:((⟨⟨s⟩⟩:ByteArray).size:Int)+((⟨⟨s'⟩⟩:ByteArray).size:Int)=(s.length:Int)+(s'.length:Int):=rfl
  have h4:(⟨⟨s⟩⟩:ByteArray)++⟨⟨s'⟩⟩=⟨⟨s++s'⟩⟩:=by
   apply ByteArray.ext;simp
  simp only[binOp,Op.stringOp];rw[if_neg (by simpa [h3] using hmax),h4];rfl
 case eql =>
  have e:=lY e;rw[oz] at e;exact ⟨_,.bool (s==s'),e,hg,by simp [binOp,Op.stringOp,ByteArray.toList_eq],.bool _⟩
 case neq =>
  have e:=lY e;rw[oz] at e;exact ⟨_,.bool (!(s==s')),e,hg,by simp [binOp,Op.stringOp,ByteArray.toList_eq],.bool _⟩
theorem aDW {op:BinOp} {a b:V} {k:V→Res} {r:V} {t:TypeId} {ox oy:Operand} {va vb:Value} (ha:VR ρ a va) (hb:VR ρ b vb) (e:qy op a b k=.ok r) :
  ∃ c u,k c=.ok r∧(eqGuard op t ox oy va vb).run P w=.ok () w∧(binOp op t va vb).run P w=.ok u w∧VR ρ c u:=by
 cases a <;> simp only[qy] at e <;> first|cases e|skip
 ·rename_i kd x
  cases b <;> simp only at e <;> first|cases e|skip
  obtain ⟨h1,h2⟩:=bR e;obtain rfl:=sK h1;rw[ha.inv_int,hb.inv_int];exact aC2 h2
 ·cases b <;> simp only at e <;> first|cases e|skip
  obtain ⟨s,rfl,rfl,rfl⟩:=ha.inv_str;obtain ⟨s',rfl,rfl,rfl⟩:=hb.inv_str;exact aEe e
end Go.CM
end
noncomputable section
namespace Go.CM
open Go.AM (oneC overwrite run_underlying run_sizeOf cR aQ aZ bC aL aR fieldAt? fieldAt?_ok bU cD)
variable {P:Program} {w0 w:World} {ρ:Rho} {h:T O} {nx:Q} {tm:T V} {tmps:Array Value} {ds:List Deferred} {k:V→Res} {r v:V}
variable {dst:Option Nat} {ty:TypeId} {pos:String} {aft:Array Edge} {gd':Option (Nat×Bool)}
def PG (P:Program) (w:World) (ρ:Rho) (tmps:Array Value) (ds:List Deferred) (o:Oper) (v:V):Prop:=∃ u,(execOp (ev tmps ds) o).run P w=.ok (.value u) w∧VR ρ v u
theorem XR.of {xs:List Operand} {ys:Array Operand} (hT:XR ρ tm tmps ys.toList) (hs:∀ x∈xs,x∈ys.toList):XR ρ tm tmps xs:=fun t ht=>hT t (hs _ ht)
theorem opd (H:HR P w0 ρ h nx w) {o:Oper} (hT:XR ρ tm tmps o.op.operands.toList) {x:Operand} (hx:x∈o.op.operands.toList) {k:V→Res} (e:xK (aD P x) tm k=.ok r) :
  ∃ c,k c=.ok r∧VR ρ c (ev tmps ds x):=by
 obtain ⟨c,h1,h2⟩:=dK e;exact ⟨c,h2,eZ H.glob (hT.sub (by simpa using hx)) h1⟩
theorem aGR (H:HR P w0 ρ h nx w) {x:Operand} (hT:XR ρ tm tmps (Op.operands (.move x)).toList) (e:pK (.mv (aD P x)) tm h k=.ok r):∃ v,k v=.ok r∧PG P w ρ tmps ds ⟨dst,.move x,ty,pos,aft,gd'⟩ v:=by
 obtain ⟨c,e,hc⟩:=opd (ds:=ds) (o:=⟨dst,.move x,ty,pos,aft,gd'⟩) H hT (by simp [Op.operands]) e;exact ⟨c,e,_,by simp [execOp],hc⟩
theorem aB0 (H:HR P w0 ρ h nx w) {x:Operand} (hT:XR ρ tm tmps (Op.operands (.assign x)).toList) (e:pK (.mv (aD P x)) tm h k=.ok r):∃ v,k v=.ok r∧PG P w ρ tmps ds ⟨dst,.assign x,ty,pos,aft,gd'⟩ v:=by
 obtain ⟨c,e,hc⟩:=opd (ds:=ds) (o:=⟨dst,.assign x,ty,pos,aft,gd'⟩) H hT (by simp [Op.operands]) e;exact ⟨c,e,_,by simp [execOp],hc⟩
theorem aGY (H:HR P w0 ρ h nx w) {c a b:Operand} (hT:XR ρ tm tmps (Op.operands (.pick c a b)).toList) (e:pK (.pick (aD P c) (aD P a) (aD P b)) tm h k=.ok r) :
  ∃ v,k v=.ok r∧PG P w ρ tmps ds ⟨dst,.pick c a b,ty,pos,aft,gd'⟩ v:=by
 have hT':=hT;simp only[pK] at e;obtain ⟨x,e,hx⟩:=opd (ds:=ds) (o:=⟨dst,.pick c a b,ty,pos,aft,gd'⟩) H hT (by simp [Op.operands]) e;obtain ⟨t,rfl,e⟩:=uH e;have hx':=hx.inv_bool;cases t with
 |true =>
  obtain ⟨y,e,hy⟩:=opd (ds:=ds) (o:=⟨dst,.pick c a b,ty,pos,aft,gd'⟩) H hT (by simp [Op.operands]) e;exact ⟨y,e,_,by simp [execOp,hx',Go.asBool],hy⟩
 |false =>
  obtain ⟨y,e,hy⟩:=opd (ds:=ds) (o:=⟨dst,.pick c a b,ty,pos,aft,gd'⟩) H hT (by simp [Op.operands]) e;exact ⟨y,e,_,by simp [execOp,hx',Go.asBool],hy⟩
theorem vF {o:O} (e:wU o=true):∃ n t anc flo ty ex,o=.row n t anc flo ty ex:=by
 cases o <;> first|exact ⟨_,_,_,_,_,_,rfl⟩|cases e
theorem aCB (H:HR P w0 ρ h nx w) {o o':Q} {off off' b b' N N':Nat} {k:Bool→Res} (h1:ρ o=some (b,N)) (h2:ρ o'=some (b',N')) (e:eqP h o off o' off' k=.ok r) :
  ∃ t,k t=.ok r∧(t=true→b=b'∧off=off')∧(t=false→(⟨b,off,none⟩:Addr)≠⟨b',off',none⟩∧(∃ ca ta,w.heap[b]?=some (.cells ca ta (0,0)))∧∃ ca ta,w.heap[b']?=some (.cells ca ta (0,0))):=by
 have row:∀ {q:Q} {b N:Nat},ρ q=some (b,N)→wU (h.ob q)=true→∃ ca ta,w.heap[b]?=some (.cells ca ta (0,0)):=fun {q b N} hq hl=>by
  obtain ⟨n,t,anc,flo,ty,ex,ho⟩:=vF hl
  have:=H.obj q b N hq
  rw[ho] at this;cases this with|row _ _ _ _ _ _ _ _ vs hb hw=>exact ⟨_,_,hw⟩
 unfold eqP at e
 split at e
 ·rename_i hb
  obtain rfl:=Q.beq_iff.1 hb;rw[h1] at h2;obtain ⟨rfl,rfl⟩:b=b'∧N=N':=by simpa using h2
  split at e
  ·rename_i ho
   exact ⟨true,e,fun _=>⟨rfl,Nat.eq_of_beq_eq_true ho⟩,(fun h=>by cases h)⟩
  ·rename_i ho
   rw[bS] at e;obtain ⟨hg,e⟩:=bR e;refine ⟨false,e,(fun h=>by cases h),fun _=>⟨fun he=>?_,row h1 hg,row h1 hg⟩⟩;simp at he;subst he;rw[Nat.beq_refl] at ho;cases ho
 ·rename_i hb
  rw[bS,bS] at e;obtain ⟨hg,e⟩:=bR e;rw[Bool.and_eq_true] at hg;refine ⟨false,e,(fun h=>by cases h),fun _=>⟨fun he=>?_,row h1 hg.1,row h2 hg.2⟩⟩;simp at he;obtain ⟨rfl,_⟩:=he;have hne:o≠o':=fun e=>by rw[Q.beq_iff.2 e] at hb;cases hb
  have hs:=H.sep o o' b N N' hne h1 h2;obtain ⟨n,t,anc,flo,ty,ex,ho⟩:=vF hg.1;obtain ⟨n',t',anc',flo',ty',ex',ho'⟩:=vF hg.2;rw[ho,ho'] at hs;simp [Sh] at hs
def EqT (P:Program) (t:TypeId):EqM→Operand→Prop
 |.ptr,_=>∃ e j,P.underlying t=some (.pointer e)∧P.info? e=some j∧j.size≠0
 |.bool,_=>P.underlying t=some .bool
 |.nilS,y=>y=.const (.slice none 0 0)∧∃ e,P.underlying t=some (.slice e)
 |.nilM,y=>y=.const (.map none)∧∃ a b,P.underlying t=some (.map a b)
 |.nilF,y=>y=.const .nilFunc∧∃ a b c,P.underlying t=some (.func a b c)
 |.nilI,y=>y=.const .nilIface∧∃ m,P.underlying t=some (.interface m)
theorem aB4 (H:HR P w0 ρ h nx w) {m:EqM} {a b:V} {k:Bool→Res} {t:TypeId} {x y:Operand} {u u':Value} (ht:EqT P t m y) (ha:VR ρ a u) (hb:VR ρ b u') (hy:∀ c,y=.const c→u'=c) (e:eqK m h a b k=.ok r) :
  ∃ z,k z=.ok r∧(∀ op,(eqGuard op t x y u u').run P w=.ok () w)∧(binOp .eql t u u').run P w=.ok (.bool z) w∧(binOp .neq t u u').run P w=.ok (.bool (!z)) w:=by
 have neq:∀ {u u':Value} {z:Bool},(∀ n,(Op.equalIn (n+1) t u u').run P w=.ok z w)→(binOp .eql t u u'=do pure (.bool (←Op.equal t u u')))→(binOp .neq t u u'=do pure (.bool (!(←Op.equal t u u')))) →
   (binOp .eql t u u').run P w=.ok (.bool z) w∧(binOp .neq t u u').run P w=.ok (.bool (!z)) w:=fun {u u' z} h1 h2 h3=>by
  have h4:(Op.equal t u u').run P w=.ok z w:=h1 9999;rw[h2,h3];constructor
  ·simp [h4]
  ·simp [h4]
 cases m with
 |ptr =>
  obtain ⟨el,j,hu,hi,hs⟩:=ht;simp only[eqK] at e;cases a <;> simp only at e <;> first|cases e|skip
  ·cases ha
   cases b <;> simp only at e <;> first|cases e|skip
   ·cases hb
    exact ⟨true,e,fun op=>by rw[eqGuard_at_pointer];rfl,neq (fun n=>by simp [Op.equalIn,run_underlying hu]) rfl rfl⟩
   ·obtain ⟨bb,N,rfl,h1⟩:=hb.inv_ptr
    exact ⟨false,e,fun op=>by rw[eqGuard_at_pointer];rfl,neq (fun n=>by simp [Op.equalIn,run_underlying hu]) rfl rfl⟩
  ·obtain ⟨b1,N1,rfl,h1⟩:=ha.inv_ptr
   cases b <;> simp only at e <;> first|cases e|skip
   ·cases hb
    exact ⟨false,e,fun op=>by rw[eqGuard_at_pointer];rfl,neq (fun n=>by simp [Op.equalIn,run_underlying hu]) rfl rfl⟩
   ·obtain ⟨b2,N2,rfl,h2⟩:=hb.inv_ptr
    obtain ⟨z,e,hz1,hz2⟩:=aCB H h1 h2 e;refine ⟨z,e,fun op=>by rw[eqGuard_at_pointer];rfl,?_⟩;cases z with
    |true =>
     obtain ⟨rfl,rfl⟩:=hz1 rfl;exact neq (fun n=>by simp [Op.equalIn,run_underlying hu,sizeOf,typeInfo,hi,run_sameAddr_same]) rfl rfl
    |false =>
     obtain ⟨g1,⟨ca,ta,g2⟩,cb,tb,g3⟩:=hz2 rfl;exact neq (fun n=>by simp [Op.equalIn,run_underlying hu,sizeOf,typeInfo,hi,hs,run_sameAddr_other w g1 g2 g3]) rfl rfl
 |bool =>
  simp only[eqK] at e;obtain ⟨p,hp,e1⟩:=uH e;obtain ⟨q,hq,e2⟩:=uH e1;subst hp;subst hq;rw[ha.inv_bool,hb.inv_bool];have hu:P.underlying t=some .bool:=ht;exact ⟨p==q,e2,fun op=>by rw[eqGuard_at_bool];rfl,neq (fun n=>by simp [Op.equalIn,run_underlying hu]) rfl rfl⟩
 |nilS =>
  simp only[eqK] at e;obtain ⟨rfl,el,hu⟩:=ht;obtain rfl:=hy _ rfl;cases ha <;> simp only at e <;> first|cases e|skip
  all_goals exact ⟨_,e,fun op=>by rw[eqGuard_at_slice];rfl,neq (fun n=>by simp [Op.equalIn,run_underlying hu]) rfl rfl⟩
 |nilM =>
  simp only[eqK] at e;obtain ⟨rfl,a',b',hu⟩:=ht;obtain rfl:=hy _ rfl;cases ha <;> simp only at e <;> first|cases e|skip
  all_goals exact ⟨_,e,fun op=>by cases op <;> rfl,neq (fun n=>by simp [Op.equalIn,run_underlying hu]) rfl rfl⟩
 |nilF =>
  simp only[eqK] at e;obtain ⟨rfl,a',b',c',hu⟩:=ht;obtain rfl:=hy _ rfl;cases ha <;> simp only at e <;> first|cases e|skip
  all_goals exact ⟨_,e,fun op=>by cases op <;> rfl,neq (fun n=>by simp [Op.equalIn,run_underlying hu]) rfl rfl⟩
 |nilI =>
  simp only[eqK] at e;obtain ⟨rfl,m',hu⟩:=ht;obtain rfl:=hy _ rfl;cases ha <;> simp only at e <;> first|cases e|skip
  ·exact ⟨_,e,fun op=>by rw[eqGuard_nil_constR];rfl,neq (fun n=>by simp [Op.equalIn,run_underlying hu]) rfl rfl⟩
  ·exact ⟨_,e,fun op=>by rw[eqGuard_at_iface];rfl,neq (fun n=>by simp [Op.equalIn,run_underlying hu]) rfl rfl⟩
end Go.CM
end
