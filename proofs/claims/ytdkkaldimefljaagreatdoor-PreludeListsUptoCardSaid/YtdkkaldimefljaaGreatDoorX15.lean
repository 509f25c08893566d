import Derived.Test.YtdkkaldimefljaaGreatDoorX14
import Derived.Test.YtdkkaldimefljaaGreatDoorX05
import Derived.LaidEqlPtr
set_option linter.all false
noncomputable section
namespace Go.CM
open Go.AM (oneC)
abbrev Rho := Q → Option (Nat × Nat)
def Rho.le (ρ ρ' : Rho) : Prop := ∀ q x, ρ q = some x → ρ' q = some x
theorem Rho.le_refl (ρ : Rho) : ρ.le ρ := fun _ _ h => h
theorem Rho.le_trans {a b c : Rho} (h : a.le b) (k : b.le c) : a.le c := fun q x e => k q x (h q x e)
def isCell : V → Bool
  | .agg _ => false
  | .tup _ => false
  | .bot => false
  | _ => true
inductive VR (ρ : Rho) : V → Value → Prop where
  | bool (b : Bool) : VR ρ (.bool b) (.bool b)
  | int (k : IntKind) (n : Int) : VR ρ (.int k n) (.int k n)
  | str (l n : Nat) (s : List UInt8) (hl : s.length = l) (hn : packL s = n) : VR ρ (.str l n) (.string ⟨⟨s⟩⟩)
  | nilp : VR ρ .nilp (.pointer none)
  | ptr (o : Q) (off b N : Nat) (h : ρ o = some (b, N)) : VR ρ (.ptr o off) (.pointer (some ⟨b, off, none⟩))
  | nils : VR ρ .nils (.slice none 0 0)
  | sl (o : Q) (off len cap b N : Nat) (h : ρ o = some (b, N)) (hc : len ≤ cap) : VR ρ (.sl o off len cap) (.slice (some ⟨b, off, none⟩) len cap)
  | su (o : Q) (off len sz b N cap : Nat) (h : ρ o = some (b, N)) (hc : len ≤ cap) (hr : off + cap * sz = N) : VR ρ (.su o off len sz) (.slice (some ⟨b, off, none⟩) len cap)
  | se (a : Addr) (cap : Nat) : VR ρ .se (.slice (some a) 0 cap)
  | nilm : VR ρ .nilm (.map none)
  | map (o : Q) (b N : Nat) (h : ρ o = some (b, N)) : VR ρ (.map o) (.map (some b))
  | nilf : VR ρ .nilf .nilFunc
  | fn (f : Q) (fs cs : List V) (us vs : List Value) (hl : fs.length = us.length) (hm : cs.length = vs.length)
      (hx : ∀ (i : Nat) (c : V) (v : Value), fs[i]? = some c → us[i]? = some v → VR ρ c v)
      (hy : ∀ (i : Nat) (c : V) (v : Value), cs[i]? = some c → vs[i]? = some v → VR ρ c v) : VR ρ (.fn f fs cs) (.func (.func f.nat) ⟨us⟩ ⟨vs⟩)
  | yld (o : Q) (b N : Nat) (h : ρ o = some (b, N)) : VR ρ (.yld o) (.func (.yield b) #[] #[])
  | nili : VR ρ .nili .nilIface
  | ifc (t : Nat) (x : V) (v : Value) (h : VR ρ x v) : VR ρ (.ifc t x) (.iface t v)
  | agg (cs : List V) (vs : List Value) (hl : cs.length = vs.length) (hk : ∀ c ∈ cs, isCell c = true)
      (hx : ∀ (i : Nat) (c : V) (v : Value), cs[i]? = some c → vs[i]? = some v → VR ρ c v) : VR ρ (.agg cs) (.agg ⟨vs⟩)
  | tup (cs : List V) (vs : List Value) (hl : cs.length = vs.length)
      (hx : ∀ (i : Nat) (c : V) (v : Value), cs[i]? = some c → vs[i]? = some v → VR ρ c v) : VR ρ (.tup cs) (.tuple ⟨vs⟩)
theorem VR.mono {ρ ρ' : Rho} (hp : ρ.le ρ') {x : V} {v : Value} (h : VR ρ x v) : VR ρ' x v := by
  induction h with
  | bool b => exact .bool b
  | int k n => exact .int k n
  | str l n s hl hn => exact .str l n s hl hn
  | nilp => exact .nilp
  | ptr o off b N h => exact .ptr o off b N (hp _ _ h)
  | nils => exact .nils
  | sl o off len cap b N h hc => exact .sl o off len cap b N (hp _ _ h) hc
  | su o off len sz b N cap h hc hr => exact .su o off len sz b N cap (hp _ _ h) hc hr
  | se a cap => exact .se a cap
  | nilm => exact .nilm
  | map o b N h => exact .map o b N (hp _ _ h)
  | nilf => exact .nilf
  | fn f fs cs us vs hl hm hx hy ih1 ih2 => exact .fn f fs cs us vs hl hm ih1 ih2
  | yld o b N h => exact .yld o b N (hp _ _ h)
  | nili => exact .nili
  | ifc t x v h ih => exact .ifc t x v ih
  | agg cs vs hl hk hx ih => exact .agg cs vs hl hk ih
  | tup cs vs hl hx ih => exact .tup cs vs hl ih
def VRs (ρ : Rho) (cs : List V) (vs : List Value) : Prop := cs.length = vs.length ∧ ∀ (i : Nat) (c : V) (v : Value), cs[i]? = some c → vs[i]? = some v → VR ρ c v
theorem VRs.mono {ρ ρ' : Rho} (hp : ρ.le ρ') {cs : List V} {vs : List Value} (h : VRs ρ cs vs) : VRs ρ' cs vs := ⟨h.1, fun i c v h1 h2 => (h.2 i c v h1 h2).mono hp⟩
theorem VRs.nil {ρ : Rho} : VRs ρ [] [] := ⟨rfl, fun i c v h => by simp at h⟩
theorem VRs.cons {ρ : Rho} {c : V} {v : Value} {cs : List V} {vs : List Value} (h : VR ρ c v) (hs : VRs ρ cs vs) : VRs ρ (c :: cs) (v :: vs) :=
  ⟨by simp [hs.1], fun i c' v' h1 h2 => by
    cases i with
    | zero => simp at h1 h2; subst h1; subst h2; exact h
    | succ i => exact hs.2 i c' v' (by simpa using h1) (by simpa using h2)⟩
theorem VRs.head {ρ : Rho} {c : V} {v : Value} {cs : List V} {vs : List Value} (h : VRs ρ (c :: cs) (v :: vs)) : VR ρ c v := h.2 0 c v rfl rfl
theorem VRs.tail {ρ : Rho} {c : V} {v : Value} {cs : List V} {vs : List Value} (h : VRs ρ (c :: cs) (v :: vs)) : VRs ρ cs vs :=
  ⟨by simpa using h.1, fun i c' v' h1 h2 => h.2 (i + 1) c' v' (by simpa using h1) (by simpa using h2)⟩
theorem VRs.inv_nil {ρ : Rho} {vs : List Value} (h : VRs ρ [] vs) : vs = [] := by
  have := h.1
  exact List.length_eq_zero_iff.1 (by simpa using this.symm)
theorem VRs.inv_cons {ρ : Rho} {c : V} {cs : List V} {vs : List Value} (h : VRs ρ (c :: cs) vs) : ∃ v vs', vs = v :: vs' ∧ VR ρ c v ∧ VRs ρ cs vs' := by
  cases vs with
  | nil => have := h.1; simp at this
  | cons v vs' => exact ⟨v, vs', rfl, h.head, h.tail⟩
theorem VRs.append {ρ : Rho} : ∀ {cs ds : List V} {vs us : List Value}, VRs ρ cs vs → VRs ρ ds us → VRs ρ (cs ++ ds) (vs ++ us)
  | [], ds, vs, us, h, k => by rw [h.inv_nil]; exact k
  | c :: cs, ds, vs, us, h, k => by
    obtain ⟨v, vs', rfl, h1, h2⟩ := h.inv_cons
    exact .cons h1 (h2.append k)
theorem VRs.drop {ρ : Rho} {cs : List V} {vs : List Value} (h : VRs ρ cs vs) (n : Nat) : VRs ρ (cs.drop n) (vs.drop n) :=
  ⟨by simp [h.1], fun i c v h1 h2 => h.2 (n + i) c v (by simpa using h1) (by simpa using h2)⟩
theorem VRs.take {ρ : Rho} {cs : List V} {vs : List Value} (h : VRs ρ cs vs) (n : Nat) : VRs ρ (cs.take n) (vs.take n) :=
  ⟨by simp [h.1], fun i c v h1 h2 => by
    rw [List.getElem?_take] at h1 h2
    split at h1
    · rename_i hi; rw [if_pos hi] at h2; exact h.2 i c v h1 h2
    · cases h1⟩
theorem VRs.get {ρ : Rho} {cs : List V} {vs : List Value} (h : VRs ρ cs vs) {i : Nat} {c : V} (hc : cs[i]? = some c) : ∃ v, vs[i]? = some v ∧ VR ρ c v := by
  have hi : i < vs.length := by rw [← h.1]; exact (List.getElem?_eq_some_iff.1 hc).1
  exact ⟨vs[i], by simp [hi], h.2 i c _ hc (by simp [hi])⟩
section inv
variable {ρ : Rho} {v : Value}
theorem VR.inv_bool {b : Bool} (h : VR ρ (.bool b) v) : v = .bool b := by cases h; rfl
theorem VR.inv_int {k : IntKind} {n : Int} (h : VR ρ (.int k n) v) : v = .int k n := by cases h; rfl
theorem VR.inv_str {l n : Nat} (h : VR ρ (.str l n) v) : ∃ s : List UInt8, v = .string ⟨⟨s⟩⟩ ∧ s.length = l ∧ packL s = n := by cases h; exact ⟨_, rfl, by assumption, by assumption⟩
theorem VR.inv_ptr {o : Q} {off : Nat} (h : VR ρ (.ptr o off) v) : ∃ b N, v = .pointer (some ⟨b, off, none⟩) ∧ ρ o = some (b, N) := by cases h; exact ⟨_, _, rfl, by assumption⟩
theorem VR.inv_agg {cs : List V} (h : VR ρ (.agg cs) v) : ∃ vs, v = .agg ⟨vs⟩ ∧ VRs ρ cs vs ∧ ∀ c ∈ cs, isCell c = true := by cases h with | agg _ vs hl hk hx => exact ⟨vs, rfl, ⟨hl, hx⟩, hk⟩
theorem VR.inv_tup {cs : List V} (h : VR ρ (.tup cs) v) : ∃ vs, v = .tuple ⟨vs⟩ ∧ VRs ρ cs vs := by cases h with | tup _ vs hl hx => exact ⟨vs, rfl, hl, hx⟩
theorem VR.inv_map {o : Q} (h : VR ρ (.map o) v) : ∃ b N, v = .map (some b) ∧ ρ o = some (b, N) := by cases h; exact ⟨_, _, rfl, by assumption⟩
theorem VR.inv_fn {f : Q} {fs cs : List V} (h : VR ρ (.fn f fs cs) v) : ∃ us vs, v = .func (.func f.nat) ⟨us⟩ ⟨vs⟩ ∧ VRs ρ fs us ∧ VRs ρ cs vs := by cases h with | fn _ _ _ us vs hl hm hx hy => exact ⟨us, vs, rfl, ⟨hl, hx⟩, hm, hy⟩
theorem VR.inv_yld {o : Q} (h : VR ρ (.yld o) v) : ∃ b N, v = .func (.yield b) #[] #[] ∧ ρ o = some (b, N) := by cases h; exact ⟨_, _, rfl, by assumption⟩
theorem VR.one {x : V} (h : VR ρ x v) (hc : isCell x = true) : oneC v = true := by cases h <;> first | rfl | simp [isCell] at hc
theorem VR.undef : VR ρ V.undef Go.undef := .tup [] [] rfl fun i c v h => by simp at h
end inv
def VC (v : V) (l : List V) : Prop := v = .agg l ∨ (isCell v = true ∧ l = [v])
theorem cvK_ok {v : V} {k : List V → Res} {r : V} (h : cvK v k = .ok r) : ∃ l, VC v l ∧ k l = .ok r := by
  cases v <;> first | exact ⟨_, .inr ⟨rfl, rfl⟩, h⟩ | exact ⟨_, .inl rfl, h⟩ | cases h
theorem VR.cells {ρ : Rho} {x : V} {v : Value} {l : List V} (h : VR ρ x v) (hc : VC x l) : VRs ρ l v.cells.toList ∧ (∀ c ∈ l, isCell c = true) ∧ ∀ u ∈ v.cells.toList, oneC u = true := by
  rcases hc with rfl | ⟨h1, rfl⟩
  · obtain ⟨vs, rfl, h2, h3⟩ := h.inv_agg
    refine ⟨h2, h3, fun u hu => ?_⟩
    obtain ⟨i, hi⟩ := List.getElem?_of_mem hu
    have hi' : vs[i]? = some u := hi
    have hlt : i < l.length := by rw [h2.1]; exact (List.getElem?_eq_some_iff.1 hi').1
    exact (h2.2 i l[i] u (by simp [hlt]) hi').one (h3 _ (List.getElem_mem hlt))
  · have h2 := h.one h1
    have hv : v.cells.toList = [v] := by cases v <;> simp_all [Value.cells, oneC]
    rw [hv]
    exact ⟨.cons h .nil, fun c hc => by simp at hc; subst hc; exact h1, fun u hu => by simp at hu; subst hu; exact h2⟩
theorem VRs.oneC {ρ : Rho} {cs : List V} {vs : List Value} (h : VRs ρ cs vs) (hk : ∀ c ∈ cs, isCell c = true) : ∀ u ∈ vs, oneC u = true := fun u hu => by
  obtain ⟨i, hi⟩ := List.getElem?_of_mem hu
  have hlt : i < cs.length := by rw [h.1]; exact (List.getElem?_eq_some_iff.1 hi).1
  exact (h.2 i cs[i] u (by simp [hlt]) hi).one (hk _ (List.getElem_mem hlt))
theorem absC_rel {ρ : Rho} {v : Value} (h : notBot (absC v) = true) : VR ρ (absC v) v := by
  unfold absC at h ⊢
  split at h <;> first | exact .bool _ | exact .int _ _ | exact .nilp | exact .nils | exact .nilm | exact .nilf | exact .nili | exact .str _ _ _ rfl rfl | cases h
theorem absC_cell {v : Value} (h : notBot (absC v) = true) : isCell (absC v) = true := by
  unfold absC at h ⊢
  split at h <;> first | rfl | cases h
theorem absV_rel {ρ : Rho} {v : Value} (h : notBot (absV v) = true) : VR ρ (absV v) v := by
  cases v with
  | agg cs =>
    simp only [absV] at h ⊢
    cases he : (cs.toList.map absC).all notBot with
    | false => rw [he] at h; cases h
    | true =>
      have hall := List.all_eq_true.1 he
      refine .agg _ _ (by simp) (fun c hc => ?_) (fun i c u h1 h2 => ?_)
      · simp only [List.mem_map] at hc
        obtain ⟨u, hu, rfl⟩ := hc
        exact absC_cell (hall _ (List.mem_map.2 ⟨u, hu, rfl⟩))
      · rw [List.getElem?_map] at h1
        rw [h2] at h1
        simp at h1
        subst h1
        exact absC_rel (hall _ (List.mem_map.2 ⟨u, List.mem_of_getElem? h2, rfl⟩))
  | _ =>
    simp only [absV] at h ⊢
    exact absC_rel h
abbrev ev (tmps : Array Value) (ds : List Deferred) : Operand → Value := (⟨tmps, ds⟩ : Act).eval
def XR (ρ : Rho) (tm : T V) (tmps : Array Value) (xs : List Operand) : Prop := ∀ t, Operand.tmp t ∈ xs → VR ρ (tm.at t) (tmps.getD t Go.undef)
def Glo (P : Program) (ρ : Rho) : Prop := ∀ g, g < P.globals.size → ∃ N, ρ (qn g) = some (g, N)
theorem xE_rel {P : Program} {ρ : Rho} {tm : T V} {tmps : Array Value} {ds : List Deferred} {x : Operand} {v : V} (hG : Glo P ρ) (hT : XR ρ tm tmps [x]) (h : xE tm (compX P x) = some v) : VR ρ v (ev tmps ds x) := by
  cases x with
  | tmp t =>
    simp only [compX, xE, Option.some.injEq] at h
    subst h
    exact hT t (by simp)
  | const c =>
    simp only [compX] at h
    split at h
    · rename_i hb
      simp only [xE, Option.some.injEq] at h
      subst h
      exact absV_rel hb
    · cases h
  | global g =>
    simp only [compX] at h
    split at h
    · rename_i hb
      simp only [xE, Option.some.injEq] at h
      subst h
      obtain ⟨N, hN⟩ := hG g (by simpa [Nat.blt_eq] using hb)
      exact .ptr _ _ _ _ hN
    · cases h
  | func f =>
    simp only [compX, xE, Option.some.injEq] at h
    subst h
    have := VR.fn (ρ := ρ) (qn f) [] [] [] [] rfl rfl (fun i c v h => by simp at h) (fun i c v h => by simp at h)
    rw [qn_nat] at this
    exact this
theorem XR.sub {ρ : Rho} {tm : T V} {tmps : Array Value} {xs ys : List Operand} (h : XR ρ tm tmps xs) (hs : ∀ x ∈ ys, x ∈ xs) : XR ρ tm tmps ys := fun t ht => h t (hs _ ht)
theorem xsE_rel {P : Program} {ρ : Rho} {tm : T V} {tmps : Array Value} {ds : List Deferred} (hG : Glo P ρ) : ∀ {xs : List Operand} {vs : List V}, XR ρ tm tmps xs → xsE tm (xs.map (compX P)) = some vs → VRs ρ vs (xs.map (ev tmps ds))
  | [], vs, hT, h => by simp [xsE] at h; subst h; exact .nil
  | x :: xs, vs, hT, h => by
    simp only [List.map_cons, xsE, Option.bind_eq_some_iff, Option.map_eq_some_iff] at h
    obtain ⟨v, h1, l, h2, rfl⟩ := h
    exact .cons (xE_rel hG (hT.sub (by simp)) h1) (xsE_rel hG (hT.sub (fun y hy => by simp [hy])) h2)
end Go.CM
end
noncomputable section
namespace Go.CM
open Go.AM (oneC overwrite)
variable {P : Program} {w0 w : World} {ρ ρ' : Rho} {h h' : T O} {nx : Q}
inductive StR : Nat → LoopState → Prop where
  | ready : StR 0 .ready
  | busy : StR 1 .busy
  | done : StR 2 .done
  | exhausted : StR 3 .exhausted
inductive JR : Jump → Option Code → Prop where
  | none : JR .none none
  | ret : JR .ret (some .ret)
  | exit (id : Nat) : JR (.exit id) (some (.exit id))
structure TR (ρ : Rho) (n : Nat) (tm : T V) (tmps : Array Value) : Prop where
  size : n ≤ tmps.size
  rel : ∀ t, VR ρ (tm.at t) (tmps.getD t Go.undef)
theorem TR.mono {n : Nat} {tm : T V} {tmps : Array Value} (hp : ρ.le ρ') (h : TR ρ n tm tmps) : TR ρ' n tm tmps := ⟨h.size, fun t => (h.rel t).mono hp⟩
def nt (P : Program) (f : Nat) : Nat := ((P.funcs[f]?).map (·.ntmps)).getD 0
inductive LR (P : Program) (ρ : Rho) : Lp → Loop → Prop where
  | mk (st : Nat) (pend : Jump) (fn : Nat) (tm : T V) (dfs : Q) (r : Loop) (N : Nat) (h1 : StR st r.state) (h2 : JR pend r.pending) (h3 : r.fn = fn) (h4 : TR ρ (nt P fn) tm r.tmps)
      (h5 : ∀ t ∈ r.params.toList, t < nt P fn) (h6 : ρ dfs = some (r.defers, N)) :
      LR P ρ (.mk st pend (qn fn) tm (r.params.toList.map qn) (compC P (nt P fn) r.assign) (compC P (nt P fn) r.body) dfs) r
theorem LR.mono {l : Lp} {r : Loop} (hp : ρ.le ρ') (h : LR P ρ l r) : LR P ρ' l r := by
  cases h with
  | mk st pend fn tm dfs r N h1 h2 h3 h4 h5 h6 => exact .mk st pend fn tm dfs r N h1 h2 h3 (h4.mono hp) h5 (hp _ _ h6)
def isKeyV : V → Bool
  | .str _ _ => true
  | .int _ _ => true
  | _ => false
structure MR (ρ : Rho) (es : List (V × V)) (ents : List MapEntry) : Prop where
  len : es.length = ents.length
  key : ∀ (i : Nat) p e, es[i]? = some p → ents[i]? = some e → VR ρ p.1 e.key
  val : ∀ (i : Nat) p e, es[i]? = some p → ents[i]? = some e → VR ρ p.2 e.val
def Born (ents : List MapEntry) (clock : Nat) : Prop := clock = ents.length ∧ ∀ (i : Nat) (e : MapEntry), ents[i]? = some e → e.born = i
theorem MR.mono {es : List (V × V)} {ents : List MapEntry} (hp : ρ.le ρ') (h : MR ρ es ents) : MR ρ' es ents := ⟨h.len, fun i p e h1 h2 => (h.key i p e h1 h2).mono hp, fun i p e h1 h2 => (h.val i p e h1 h2).mono hp⟩
inductive OR (P : Program) (ρ : Rho) (w : World) (B0 : Nat) : O → Nat → Nat → Prop where
  | dead (b N : Nat) : OR P ρ w B0 .dead b N
  | row (n : Nat) (t : T V) (anc : List Q) (flo : Nat) (T : TypeId) (ex : Bool) (b N : Nat) (vs : List Value) (hb : B0 ≤ b) (hw : w.heap[b]? = some (.cells ⟨vs⟩ T (0, 0))) (hN : vs.length = N) (hn : n ≤ N) (hf : flo ≤ n) (he : ex = true → n = N)
      (ha : ∀ a ∈ anc, ρ a ≠ none) (hx : ∀ (i : Nat) v, i < n → vs[i]? = some v → VR ρ (t.at i) v) (hk : ∀ i, i < n → isCell (t.at i) = true) : OR P ρ w B0 (.row n t anc flo T ex) b N
  | ro (n : Nat) (t : T V) (b N : Nat) (vs : List Value) (T : TypeId) (fz : Nat × Nat) (hw : w.heap[b]? = some (.cells ⟨vs⟩ T fz)) (hn : n ≤ vs.length)
      (hx : ∀ (i : Nat) v, i < n → vs[i]? = some v → VR ρ (t.at i) v) (hk : ∀ i, i < n → isCell (t.at i) = true) : OR P ρ w B0 (.ro n t) b N
  | map (es : List (V × V)) (ents : List MapEntry) (cl b N : Nat) (hb : B0 ≤ b) (hw : w.heap[b]? = some (.map ⟨ents⟩ cl)) (hm : MR ρ es ents) (hc : Born ents cl) : OR P ρ w B0 (.map es) b N
  | mapd (es : List (V × V)) (ents : List MapEntry) (cl b N : Nat) (hb : B0 ≤ b) (hw : w.heap[b]? = some (.map ⟨ents⟩ cl)) (hm : MR ρ es ents) : OR P ρ w B0 (.mapd es) b N
  | loop (l : Lp) (r : Loop) (b N : Nat) (hb : B0 ≤ b) (hw : w.heap[b]? = some (.loop r)) (hl : LR P ρ l r) : OR P ρ w B0 (.loop l) b N
  | dfd (taken : Bool) (b N : Nat) (hb : B0 ≤ b) (hw : w.heap[b]? = some (.deferred (if taken then none else some []))) : OR P ρ w B0 (.dfd taken) b N
def Sh (x y : O) (q : Q) : Prop :=
  match x with
  | .row _ _ anc flo _ _ => y = .dead ∨ ∃ n t, y = .ro n t ∧ q ∈ anc ∧ n ≤ flo
  | .map _ | .mapd _ | .loop _ | .dfd _ => y = .dead
  | .dead | .ro _ _ => True
structure HR (P : Program) (w0 : World) (ρ : Rho) (h : T O) (nx : Q) (w : World) : Prop where
  size : w0.heap.size ≤ w.heap.size
  old : ∀ b, b < w0.heap.size → w.heap[b]? = w0.heap[b]?
  os : w.os = w0.os
  tape : w.tape = w0.tape
  output : w.output = w0.output
  glob : Glo P ρ
  fresh : ∀ q, nx.nat ≤ q.nat → ρ q = none
  lt : ∀ q b N, ρ q = some (b, N) → b < w.heap.size
  obj : ∀ q b N, ρ q = some (b, N) → OR P ρ w w0.heap.size (h.ob q) b N
  sep : ∀ q q' b N N', q ≠ q' → ρ q = some (b, N) → ρ q' = some (b, N') → Sh (h.ob q) (h.ob q') q'
  dead : ∀ q, nx.nat ≤ q.nat → h.ob q = .dead
theorem OR.mono {B0 : Nat} {o : O} {b N : Nat} {w' : World} (hp : ρ.le ρ') (hw' : w'.heap[b]? = w.heap[b]?) (h : OR P ρ w B0 o b N) : OR P ρ' w' B0 o b N := by
  cases h with
  | dead => exact .dead _ _
  | row n t anc flo T ex _ _ vs hb hw hN hn hf he ha hx hk =>
    exact .row n t anc flo T ex _ _ vs hb (by rw [hw']; exact hw) hN hn hf he (fun a h1 => by
      cases e : ρ a with
      | none => exact absurd e (ha a h1)
      | some x => rw [hp a x e]; simp) (fun i v h1 h2 => (hx i v h1 h2).mono hp) hk
  | ro n t _ _ vs T fz hw hn hx hk => exact .ro n t _ _ vs T fz (by rw [hw']; exact hw) hn (fun i v h1 h2 => (hx i v h1 h2).mono hp) hk
  | map es ents cl _ _ hb hw hm hc => exact .map es ents cl _ _ hb (by rw [hw']; exact hw) (hm.mono hp) hc
  | mapd es ents cl _ _ hb hw hm => exact .mapd es ents cl _ _ hb (by rw [hw']; exact hw) (hm.mono hp)
  | loop l r _ _ hb hw hl => exact .loop l r _ _ hb (by rw [hw']; exact hw) (hl.mono hp)
  | dfd taken _ _ hb hw => exact .dfd taken _ _ hb (by rw [hw']; exact hw)
theorem HR.cell (H : HR P w0 ρ h nx w) {o : Q} {b N n off : Nat} {t : T V} (ho : ρ o = some (b, N)) (hr : (∃ anc flo ty ex, h.ob o = .row n t anc flo ty ex) ∨ h.ob o = .ro n t) (hi : off < n) :
    ∃ v, w.cell? ⟨b, off, none⟩ = some v ∧ VR ρ (t.at off) v ∧ isCell (t.at off) = true := by
  have := H.obj o b N ho
  rcases hr with ⟨anc, flo, ty, ex, hr⟩ | hr
  · rw [hr] at this
    cases this with
    | row _ _ _ _ _ _ _ _ vs hb hw hN hn hf he ha hx hk =>
      have hlt : off < vs.length := by omega
      exact ⟨vs[off], by rw [AM.cell_of_heap hw]; simp [hlt], hx off _ hi (by simp [hlt]), hk off hi⟩
  · rw [hr] at this
    cases this with
    | ro _ _ _ _ vs T fz hw hn hx hk =>
      have hlt : off < vs.length := by omega
      exact ⟨vs[off], by rw [AM.cell_of_heap hw]; simp [hlt], hx off _ hi (by simp [hlt]), hk off hi⟩
theorem HR.cells (H : HR P w0 ρ h nx w) {o : Q} {b N n off m : Nat} {t : T V} (ho : ρ o = some (b, N)) (hr : (∃ anc flo ty ex, h.ob o = .row n t anc flo ty ex) ∨ h.ob o = .ro n t) (hi : off + m ≤ n) :
    ∃ vs : List Value, vs.length = m ∧ (∀ (j : Nat) v, vs[j]? = some v → w.cell? ⟨b, off + j, none⟩ = some v) ∧ VRs ρ (getsL m off t) vs ∧ ∀ c ∈ getsL m off t, isCell c = true := by
  have hex : ∀ j, j < m → ∃ v, w.cell? ⟨b, off + j, none⟩ = some v ∧ VR ρ (t.at (off + j)) v ∧ isCell (t.at (off + j)) = true := fun j hj => H.cell ho hr (by omega)
  refine ⟨(List.range m).map fun j => (w.cell? ⟨b, off + j, none⟩).getD Go.undef, by simp, fun j v hv => ?_, ⟨by simp [getsL_length], fun i c v hc hv => ?_⟩, fun c hc => ?_⟩
  · have hj : j < m := by have := (List.getElem?_eq_some_iff.1 hv).1; simpa using this
    obtain ⟨u, hu, _⟩ := hex j hj
    rw [List.getElem?_map, List.getElem?_range hj] at hv
    simp [hu] at hv ⊢; exact hv
  · have hj : i < m := by have := (List.getElem?_eq_some_iff.1 hc).1; simpa [getsL_length] using this
    obtain ⟨u, hu, h1, _⟩ := hex i hj
    rw [getsL_get hj] at hc
    rw [List.getElem?_map, List.getElem?_range hj] at hv
    simp [hu] at hc hv; subst hc; subst hv; exact h1
  · obtain ⟨i, hi'⟩ := List.getElem?_of_mem hc
    have hj : i < m := by have := (List.getElem?_eq_some_iff.1 hi').1; simpa [getsL_length] using this
    rw [getsL_get hj] at hi'
    simp at hi'; subst hi'
    exact (hex i hj).choose_spec.2.2
structure Keep (β : Nat) (ρ : Rho) (h : T O) (ρ' : Rho) (h' : T O) : Prop where
  le : ρ.le ρ'
  pend : ∀ q : Q, q.nat < β → ρ q = none → ρ' q = none ∧ h'.ob q = h.ob q
theorem Keep.refl (β : Nat) (ρ : Rho) (h : T O) : Keep β ρ h ρ h := ⟨Rho.le_refl _, fun _ _ hq => ⟨hq, rfl⟩⟩
theorem Keep.trans {β : Nat} {ρ1 ρ2 ρ3 : Rho} {h1 h2 h3 : T O} (a : Keep β ρ1 h1 ρ2 h2) (b : Keep β ρ2 h2 ρ3 h3) : Keep β ρ1 h1 ρ3 h3 :=
  ⟨Rho.le_trans a.le b.le, fun q hq hn => by
    obtain ⟨x, y⟩ := a.pend q hq hn
    obtain ⟨x', y'⟩ := b.pend q hq x
    exact ⟨x', y'.trans y⟩⟩
theorem Keep.down {β β' : Nat} (hle : β' ≤ β) (a : Keep β ρ h ρ' h') : Keep β' ρ h ρ' h' := ⟨a.le, fun q hq => a.pend q (by omega)⟩
theorem HR.drawn (H : HR P w0 ρ h nx w) (d : Nat) : HR P w0 ρ h nx { w with drawn := d } :=
  ⟨H.size, H.old, H.os, H.tape, H.output, H.glob, H.fresh, H.lt, fun q b N e => OR.mono (w := w) (w' := { w with drawn := d }) (Rho.le_refl _) rfl (H.obj q b N e), H.sep, H.dead⟩
theorem HR.pend (H : HR P w0 ρ h nx w) {q : Q} (hq : ρ q = none) (o : O) {nx' : Q} (hx : nx.nat ≤ nx'.nat) (hqx : q.nat < nx'.nat) : HR P w0 ρ (h.put .dead o q) nx' w := by
  have hne : ∀ p x, ρ p = some x → q ≠ p := fun p x e he => by subst he; rw [hq] at e; cases e
  refine ⟨H.size, H.old, H.os, H.tape, H.output, H.glob, fun p hp => H.fresh p (by omega), H.lt, fun p b N e => ?_, fun p p' b N N' h1 h2 h3 => ?_, fun p hp => ?_⟩
  · rw [T.ob, T.get_put_ne _ _ _ (hne p _ e)]; exact H.obj p b N e
  · rw [T.ob, T.ob, T.get_put_ne _ _ _ (hne p _ h2), T.get_put_ne _ _ _ (hne p' _ h3)]; exact H.sep p p' b N N' h1 h2 h3
  · rw [T.ob, T.get_put_ne _ _ _ (fun e => by subst e; omega)]; exact H.dead p (by omega)
def Rho.set (ρ : Rho) (q : Q) (b N : Nat) : Rho := fun p => if p = q then some (b, N) else ρ p
theorem Rho.set_le {q : Q} {b N : Nat} (hq : ρ q = none) : ρ.le (ρ.set q b N) := fun p x e => by
  unfold Rho.set
  split
  · subst_vars; rw [hq] at e; cases e
  · exact e
theorem Rho.set_same {q : Q} {b N : Nat} : ρ.set q b N q = some (b, N) := by simp [Rho.set]
theorem HR.born (H : HR P w0 ρ h nx w) {q : Q} (hq : ρ q = none) (hn : q.nat < nx.nat) {x : Obj} {N : Nat}
    (ho : OR P (ρ.set q w.heap.size N) (w.alloc x) w0.heap.size (h.ob q) w.heap.size N) : HR P w0 (ρ.set q w.heap.size N) h nx (w.alloc x) := by
  have hle := Rho.set_le (b := w.heap.size) (N := N) hq
  have hlt : ∀ p b N', ρ p = some (b, N') → b < w.heap.size := H.lt
  refine ⟨?_, fun b hb => ?_, H.os, H.tape, H.output, fun g hg => ?_, fun p hp => ?_, fun p b N' e => ?_, fun p b N' e => ?_, fun p p' b N1 N2 h1 h2 h3 => ?_, H.dead⟩
  · have := H.size
    show w0.heap.size ≤ (w.heap.push x).size
    simp; omega
  · rw [AM.heap_alloc_old _ (Nat.lt_of_lt_of_le hb H.size)]; exact H.old b hb
  · obtain ⟨N', e⟩ := H.glob g hg
    exact ⟨N', hle _ _ e⟩
  · unfold Rho.set
    rw [if_neg (fun e => by subst e; omega)]
    exact H.fresh p hp
  · show b < (w.heap.push x).size
    simp only [Array.size_push]
    unfold Rho.set at e
    split at e
    · simp at e; omega
    · have := hlt _ _ _ e; omega
  · by_cases hp : p = q
    · subst hp
      rw [Rho.set_same] at e
      simp at e
      obtain ⟨rfl, rfl⟩ := e
      exact ho
    · unfold Rho.set at e
      rw [if_neg hp] at e
      exact (H.obj p b N' e).mono hle (AM.heap_alloc_old _ (hlt _ _ _ e))
  · unfold Rho.set at h2 h3
    by_cases hp : p = q
    · rw [if_pos hp] at h2
      simp at h2
      rw [if_neg (fun e => h1 (by rw [hp, e]))] at h3
      have := hlt _ _ _ h3; omega
    · rw [if_neg hp] at h2
      by_cases hp' : p' = q
      · rw [if_pos hp'] at h3
        simp at h3
        have := hlt _ _ _ h2; omega
      · rw [if_neg hp'] at h3
        exact H.sep p p' b N1 N2 h1 h2 h3
end Go.CM
end
noncomputable section
namespace Go.CM
open Go.AM (oneC overwrite run_underlying run_sizeOf run_isAgg run_zeroValue szOf aggOf run_equal)
variable {P : Program} {w0 w : World} {ρ : Rho} {h : T O} {nx : Q}
theorem pow256_eq (l : Nat) : pow256 l = 256 ^ l := by
  unfold pow256
  rw [show Nat.pow 2 (8 * l) = 2 ^ (8 * l) from rfl, Nat.pow_mul]
theorem packL_lt : ∀ s : List UInt8, packL s < 256 ^ s.length
  | [] => by simp [packL]
  | b :: s => by
    have h1 := packL_lt s
    have h2 : b.toNat < 256 := b.toNat_lt
    simp only [packL, List.length_cons, Nat.pow_succ]
    omega
theorem packL_append : ∀ a b : List UInt8, packL (a ++ b) = packL a + packL b * 256 ^ a.length
  | [], b => by simp [packL]
  | x :: a, b => by
    simp only [List.cons_append, packL, packL_append a b, List.length_cons, Nat.pow_succ, Nat.mul_add]
    rw [Nat.add_assoc, Nat.mul_left_comm 256 (packL b), Nat.mul_comm 256 (256 ^ a.length)]
theorem packL_inj : ∀ {a b : List UInt8}, a.length = b.length → packL a = packL b → a = b
  | [], [], _, _ => rfl
  | [], _ :: _, h, _ => by simp at h
  | _ :: _, [], h, _ => by simp at h
  | x :: a, y :: b, h, e => by
    simp only [packL] at e
    have h1 : x.toNat < 256 := x.toNat_lt
    have h2 : y.toNat < 256 := y.toNat_lt
    have h3 : x.toNat = y.toNat := by omega
    have h4 := packL_inj (a := a) (b := b) (by simpa using h) (by omega)
    rw [UInt8.toNat_inj.1 h3, h4]
theorem packL_cut (s : List UInt8) (k : Nat) (hk : k ≤ s.length) : packL (s.take k) = packL s % 256 ^ k ∧ packL (s.drop k) = packL s / 256 ^ k := by
  have h1 := packL_append (s.take k) (s.drop k)
  rw [List.take_append_drop, List.length_take, Nat.min_eq_left hk] at h1
  have h2 := packL_lt (s.take k)
  rw [List.length_take, Nat.min_eq_left hk] at h2
  have hp : 0 < 256 ^ k := Nat.pow_pos (by omega)
  rw [h1]
  constructor
  · rw [Nat.add_mul_mod_self_right, Nat.mod_eq_of_lt h2]
  · rw [Nat.add_mul_div_right _ _ hp, Nat.div_eq_of_lt h2, Nat.zero_add]
theorem packL_get (s : List UInt8) (j : Nat) (hj : j < s.length) : packL s / 256 ^ j % 256 = (s[j]).toNat := by
  have h1 := (packL_cut s j (by omega)).2
  rw [List.drop_eq_getElem_cons hj] at h1
  rw [← h1]
  simp only [packL]
  have h2 : (s[j]).toNat < 256 := (s[j]).toNat_lt
  omega
theorem wrap_nat (k : IntKind) (m : Nat) (hm : m ≤ ikM k) : k.wrap (.ofNat m) = .ofNat m := by
  cases k <;> simp only [ikM] at hm <;> simp [IntKind.wrap, IntKind.bits, IntKind.signed] <;> omega
theorem wrapK_ok {k : IntKind} {n : Int} {kn : Int → Res} {r : V} (e : wrapK k n kn = .ok r) : kn (k.wrap n) = .ok r := by
  cases n with
  | ofNat m =>
    simp only [wrapK, forceN_eq] at e
    split at e
    · rename_i hb
      rw [wrap_nat k m (Nat.le_of_ble_eq_true hb)]; exact e
    · rw [forceI_eq] at e; exact e
  | negSucc m => simp only [wrapK, forceN_eq, forceI_eq] at e; exact e
theorem addI_eq (x y : Int) : addI x y = x + y := by
  unfold addI; split <;> rfl
theorem mulI_eq (x y : Int) : mulI x y = x * y := by
  unfold mulI; split <;> rfl
theorem subI_eq (x y : Int) : subI x y = x - y := by
  unfold subI
  split
  · rename_i a b
    split
    · rename_i hb
      have := Nat.le_of_ble_eq_true hb
      simp only [Int.ofNat_eq_natCast]; omega
    · rename_i hb
      have : ¬ b ≤ a := fun h => by rw [Nat.ble_eq_true_of_le h] at hb; cases hb
      simp only [Int.ofNat_eq_natCast]; omega
  · rfl
theorem leI_eq (x y : Int) : leI x y = decide (x ≤ y) := by
  unfold leI
  split
  · rename_i a b
    rw [Bool.eq_iff_iff, Nat.ble_eq, decide_eq_true_eq]; simp only [Int.ofNat_eq_natCast]; omega
  · rename_i a b; rw [eq_comm, decide_eq_false_iff_not]; simp only [Int.ofNat_eq_natCast]; omega
  · rename_i a b; rw [eq_comm, decide_eq_true_eq]; simp only [Int.ofNat_eq_natCast]; omega
  · rename_i a b
    rw [Bool.eq_iff_iff, Nat.ble_eq, decide_eq_true_eq]; omega
theorem eqI_eq (x y : Int) : eqI x y = (x == y) := by
  unfold eqI
  split
  · rename_i a b; rw [Bool.eq_iff_iff, Nat.beq_eq, beq_iff_eq]; simp only [Int.ofNat_eq_natCast]; omega
  · rename_i a b; rw [Bool.eq_iff_iff, Nat.beq_eq, beq_iff_eq]; omega
  · rename_i h1 h2
    rw [eq_comm, beq_eq_false_iff_ne]
    intro e
    subst e
    cases x with
    | ofNat a => exact h1 a a rfl rfl
    | negSucc a => exact h2 a a rfl rfl
theorem bK_ok {b : Bool} {k : V → Res} {r : V} (e : bK b k = .ok r) : k (.bool b) = .ok r := by cases b <;> exact e
theorem ikN_inj {k k' : IntKind} (e : Nat.beq (ikN k) (ikN k') = true) : k = k' := by
  cases k <;> cases k' <;> first | rfl | (exact absurd e (by decide))
theorem binI_ok {op : BinOp} {kd : IntKind} {x y : Int} {k : V → Res} {r : V} {t : TypeId} {ox oy : Operand} (e : binI op kd x y k = .ok r) :
    ∃ c u, k c = .ok r ∧ (eqGuard op t ox oy (.int kd x) (.int kd y)).run P w = .ok () w ∧ (binOp op t (.int kd x) (.int kd y)).run P w = .ok u w ∧ VR ρ c u := by
  have hg : (eqGuard op t ox oy (.int kd x) (.int kd y)).run P w = .ok () w := by rw [eqGuard_at_int]; rfl
  cases op <;> simp only [binI] at e <;> first | cases e | skip
  case add =>
    have e := wrapK_ok e
    rw [addI_eq] at e
    exact ⟨_, .int kd (kd.wrap (x + y)), e, hg, by simp [binOp, Op.intArith], .int _ _⟩
  case sub =>
    have e := wrapK_ok e
    rw [subI_eq] at e
    exact ⟨_, .int kd (kd.wrap (x - y)), e, hg, by simp [binOp, Op.intArith], .int _ _⟩
  case mul =>
    have e := wrapK_ok e
    rw [mulI_eq] at e
    exact ⟨_, .int kd (kd.wrap (x * y)), e, hg, by simp [binOp, Op.intArith], .int _ _⟩
  case rem =>
    obtain ⟨h1, h2⟩ := gd_ok e
    rw [forceI_eq] at h2
    rw [eqI_eq] at h1
    have h0 : ¬ y = 0 := by simpa using h1
    exact ⟨_, .int kd (x.tmod y), h2, hg, by simp [binOp, Op.intDiv, h0], .int _ _⟩
  case eql =>
    have e := bK_ok e
    rw [eqI_eq] at e
    exact ⟨_, .bool (x == y), e, hg, by simp [binOp, Op.intCmp], .bool _⟩
  case neq =>
    have e := bK_ok e
    rw [eqI_eq] at e
    exact ⟨_, .bool (!(x == y)), e, hg, by simp [binOp, Op.intCmp, bne], .bool _⟩
  case lss =>
    have e := bK_ok e
    rw [leI_eq, show (!decide (y ≤ x)) = decide (x < y) by rw [Bool.eq_iff_iff]; simp] at e
    exact ⟨_, .bool (decide (x < y)), e, hg, by simp [binOp, Op.intCmp], .bool _⟩
  case leq =>
    have e := bK_ok e
    rw [leI_eq] at e
    exact ⟨_, .bool (decide (x ≤ y)), e, hg, by simp [binOp, Op.intCmp], .bool _⟩
  case gtr =>
    have e := bK_ok e
    rw [leI_eq, show (!decide (x ≤ y)) = decide (x > y) by rw [Bool.eq_iff_iff]; simp] at e
    exact ⟨_, .bool (decide (x > y)), e, hg, by simp [binOp, Op.intCmp], .bool _⟩
  case geq =>
    have e := bK_ok e
    rw [leI_eq] at e
    exact ⟨_, .bool (decide (x ≥ y)), e, hg, by simp [binOp, Op.intCmp], .bool _⟩
theorem packEq {s s' : List UInt8} : (Nat.beq s.length s'.length && Nat.beq (packL s) (packL s')) = (s == s') := by
  rw [Bool.eq_iff_iff, Bool.and_eq_true, Nat.beq_eq, Nat.beq_eq, beq_iff_eq]
  exact ⟨fun ⟨a, b⟩ => packL_inj a b, fun e => by subst e; exact ⟨rfl, rfl⟩⟩
theorem binS_ok {op : BinOp} {s s' : List UInt8} {k : V → Res} {r : V} {t : TypeId} {ox oy : Operand} (e : binS op s.length (packL s) s'.length (packL s') k = .ok r) :
    ∃ c u, k c = .ok r ∧ (eqGuard op t ox oy (.string ⟨⟨s⟩⟩) (.string ⟨⟨s'⟩⟩)).run P w = .ok () w ∧ (binOp op t (.string ⟨⟨s⟩⟩) (.string ⟨⟨s'⟩⟩)).run P w = .ok u w ∧ VR ρ c u := by
  have hg : (eqGuard op t ox oy (.string ⟨⟨s⟩⟩) (.string ⟨⟨s'⟩⟩)).run P w = .ok () w := by rw [eqGuard_at_string]; rfl
  cases op <;> simp only [binS] at e <;> first | cases e | skip
  case add =>
    obtain ⟨h1, h2⟩ := gd_ok e
    rw [forceN_eq, forceN_eq] at h2
    have hle := Nat.le_of_ble_eq_true h1
    have hmax : ¬ ((s.length : Int) + (s'.length : Int) > IntKind.i64.max) := by
      rw [show IntKind.i64.max = 9223372036854775807 by decide]; omega
    refine ⟨_, .string ⟨⟨s ++ s'⟩⟩, h2, hg, ?_, .str _ _ _ (by simp) (by rw [packL_append, pow256_eq])⟩
    have h3 : ((⟨⟨s⟩⟩ : ByteArray).size : Int) + ((⟨⟨s'⟩⟩ : ByteArray).size : Int) = (s.length : Int) + (s'.length : Int) := rfl
    have h4 : (⟨⟨s⟩⟩ : ByteArray) ++ ⟨⟨s'⟩⟩ = ⟨⟨s ++ s'⟩⟩ := by
      apply ByteArray.ext; simp
    simp only [binOp, Op.stringOp]
    rw [if_neg (by simpa [h3] using hmax), h4]; rfl
  case eql =>
    have e := bK_ok e
    rw [packEq] at e
    exact ⟨_, .bool (s == s'), e, hg, by simp [binOp, Op.stringOp, ByteArray.toList_eq], .bool _⟩
  case neq =>
    have e := bK_ok e
    rw [packEq] at e
    exact ⟨_, .bool (!(s == s')), e, hg, by simp [binOp, Op.stringOp, ByteArray.toList_eq], .bool _⟩
theorem binK_ok {op : BinOp} {a b : V} {k : V → Res} {r : V} {t : TypeId} {ox oy : Operand} {va vb : Value} (ha : VR ρ a va) (hb : VR ρ b vb) (e : binK op a b k = .ok r) :
    ∃ c u, k c = .ok r ∧ (eqGuard op t ox oy va vb).run P w = .ok () w ∧ (binOp op t va vb).run P w = .ok u w ∧ VR ρ c u := by
  cases a <;> simp only [binK] at e <;> first | cases e | skip
  · rename_i kd x
    cases b <;> simp only at e <;> first | cases e | skip
    obtain ⟨h1, h2⟩ := gd_ok e
    obtain rfl := ikN_inj h1
    rw [ha.inv_int, hb.inv_int]
    exact binI_ok h2
  · cases b <;> simp only at e <;> first | cases e | skip
    obtain ⟨s, rfl, rfl, rfl⟩ := ha.inv_str
    obtain ⟨s', rfl, rfl, rfl⟩ := hb.inv_str
    exact binS_ok e
end Go.CM
end
noncomputable section
namespace Go.CM
open Go.AM (oneC overwrite run_underlying run_sizeOf run_isAgg run_zeroValue szOf aggOf bytesAt sliceElem fieldAt? fieldAt?_ok run_equal add_mk)
variable {P : Program} {w0 w : World} {ρ : Rho} {h : T O} {nx : Q} {tm : T V} {tmps : Array Value} {ds : List Deferred} {k : V → Res} {r v : V}
variable {dst : Option Nat} {ty : TypeId} {pos : String} {aft : Array Edge} {gd' : Option (Nat × Bool)}
def PG (P : Program) (w : World) (ρ : Rho) (tmps : Array Value) (ds : List Deferred) (o : Oper) (v : V) : Prop := ∃ u, (execOp (ev tmps ds) o).run P w = .ok (.value u) w ∧ VR ρ v u
theorem XR.of {xs : List Operand} {ys : Array Operand} (hT : XR ρ tm tmps ys.toList) (hs : ∀ x ∈ xs, x ∈ ys.toList) : XR ρ tm tmps xs := fun t ht => hT t (hs _ ht)
theorem opd (H : HR P w0 ρ h nx w) {o : Oper} (hT : XR ρ tm tmps o.op.operands.toList) {x : Operand} (hx : x ∈ o.op.operands.toList) {k : V → Res} (e : xK (compX P x) tm k = .ok r) :
    ∃ c, k c = .ok r ∧ VR ρ c (ev tmps ds x) := by
  obtain ⟨c, h1, h2⟩ := xK_ok e
  exact ⟨c, h2, xE_rel H.glob (hT.sub (by simpa using hx)) h1⟩
theorem p_move (H : HR P w0 ρ h nx w) {x : Operand} (hT : XR ρ tm tmps (Op.operands (.move x)).toList) (e : pK (.mv (compX P x)) tm h k = .ok r) : ∃ v, k v = .ok r ∧ PG P w ρ tmps ds ⟨dst, .move x, ty, pos, aft, gd'⟩ v := by
  obtain ⟨c, e, hc⟩ := opd (ds := ds) (o := ⟨dst, .move x, ty, pos, aft, gd'⟩) H hT (by simp [Op.operands]) e
  exact ⟨c, e, _, by simp [execOp], hc⟩
theorem p_assign (H : HR P w0 ρ h nx w) {x : Operand} (hT : XR ρ tm tmps (Op.operands (.assign x)).toList) (e : pK (.mv (compX P x)) tm h k = .ok r) : ∃ v, k v = .ok r ∧ PG P w ρ tmps ds ⟨dst, .assign x, ty, pos, aft, gd'⟩ v := by
  obtain ⟨c, e, hc⟩ := opd (ds := ds) (o := ⟨dst, .assign x, ty, pos, aft, gd'⟩) H hT (by simp [Op.operands]) e
  exact ⟨c, e, _, by simp [execOp], hc⟩
theorem p_pick (H : HR P w0 ρ h nx w) {c a b : Operand} (hT : XR ρ tm tmps (Op.operands (.pick c a b)).toList) (e : pK (.pick (compX P c) (compX P a) (compX P b)) tm h k = .ok r) :
    ∃ v, k v = .ok r ∧ PG P w ρ tmps ds ⟨dst, .pick c a b, ty, pos, aft, gd'⟩ v := by
  have hT' := hT
  simp only [pK] at e
  obtain ⟨x, e, hx⟩ := opd (ds := ds) (o := ⟨dst, .pick c a b, ty, pos, aft, gd'⟩) H hT (by simp [Op.operands]) e
  obtain ⟨t, rfl, e⟩ := asB_ok e
  have hx' := hx.inv_bool
  cases t with
  | true =>
    obtain ⟨y, e, hy⟩ := opd (ds := ds) (o := ⟨dst, .pick c a b, ty, pos, aft, gd'⟩) H hT (by simp [Op.operands]) e
    exact ⟨y, e, _, by simp [execOp, hx', Go.asBool], hy⟩
  | false =>
    obtain ⟨y, e, hy⟩ := opd (ds := ds) (o := ⟨dst, .pick c a b, ty, pos, aft, gd'⟩) H hT (by simp [Op.operands]) e
    exact ⟨y, e, _, by simp [execOp, hx', Go.asBool], hy⟩
theorem loneO_ok {o : O} (e : loneO o = true) : ∃ n t anc flo ty ex, o = .row n t anc flo ty ex := by
  cases o <;> first | exact ⟨_, _, _, _, _, _, rfl⟩ | cases e
theorem eqP_ok (H : HR P w0 ρ h nx w) {o o' : Q} {off off' b b' N N' : Nat} {k : Bool → Res} (h1 : ρ o = some (b, N)) (h2 : ρ o' = some (b', N')) (e : eqP h o off o' off' k = .ok r) :
    ∃ t, k t = .ok r ∧ (t = true → b = b' ∧ off = off') ∧ (t = false → (⟨b, off, none⟩ : Addr) ≠ ⟨b', off', none⟩ ∧ (∃ ca ta, w.heap[b]? = some (.cells ca ta (0, 0))) ∧ ∃ ca ta, w.heap[b']? = some (.cells ca ta (0, 0))) := by
  have row : ∀ {q : Q} {b N : Nat}, ρ q = some (b, N) → loneO (h.ob q) = true → ∃ ca ta, w.heap[b]? = some (.cells ca ta (0, 0)) := fun {q b N} hq hl => by
    obtain ⟨n, t, anc, flo, ty, ex, ho⟩ := loneO_ok hl
    have := H.obj q b N hq
    rw [ho] at this
    cases this with | row _ _ _ _ _ _ _ _ vs hb hw => exact ⟨_, _, hw⟩
  unfold eqP at e
  split at e
  · rename_i hb
    obtain rfl := Q.beq_iff.1 hb
    rw [h1] at h2
    obtain ⟨rfl, rfl⟩ : b = b' ∧ N = N' := by simpa using h2
    split at e
    · rename_i ho
      exact ⟨true, e, fun _ => ⟨rfl, Nat.eq_of_beq_eq_true ho⟩, (fun h => by cases h)⟩
    · rename_i ho
      rw [gO_eq] at e
      obtain ⟨hg, e⟩ := gd_ok e
      refine ⟨false, e, (fun h => by cases h), fun _ => ⟨fun he => ?_, row h1 hg, row h1 hg⟩⟩
      simp at he
      subst he
      rw [Nat.beq_refl] at ho; cases ho
  · rename_i hb
    rw [gO_eq, gO_eq] at e
    obtain ⟨hg, e⟩ := gd_ok e
    rw [Bool.and_eq_true] at hg
    refine ⟨false, e, (fun h => by cases h), fun _ => ⟨fun he => ?_, row h1 hg.1, row h2 hg.2⟩⟩
    simp at he
    obtain ⟨rfl, _⟩ := he
    have hne : o ≠ o' := fun e => by rw [Q.beq_iff.2 e] at hb; cases hb
    have hs := H.sep o o' b N N' hne h1 h2
    obtain ⟨n, t, anc, flo, ty, ex, ho⟩ := loneO_ok hg.1
    obtain ⟨n', t', anc', flo', ty', ex', ho'⟩ := loneO_ok hg.2
    rw [ho, ho'] at hs
    simp [Sh] at hs
def EqT (P : Program) (t : TypeId) : EqM → Operand → Prop
  | .ptr, _ => ∃ e j, P.underlying t = some (.pointer e) ∧ P.info? e = some j ∧ j.size ≠ 0
  | .bool, _ => P.underlying t = some .bool
  | .nilS, y => y = .const (.slice none 0 0) ∧ ∃ e, P.underlying t = some (.slice e)
  | .nilM, y => y = .const (.map none) ∧ ∃ a b, P.underlying t = some (.map a b)
  | .nilF, y => y = .const .nilFunc ∧ ∃ a b c, P.underlying t = some (.func a b c)
  | .nilI, y => y = .const .nilIface ∧ ∃ m, P.underlying t = some (.interface m)
theorem eqK_ok (H : HR P w0 ρ h nx w) {m : EqM} {a b : V} {k : Bool → Res} {t : TypeId} {x y : Operand} {u u' : Value} (ht : EqT P t m y) (ha : VR ρ a u) (hb : VR ρ b u') (hy : ∀ c, y = .const c → u' = c) (e : eqK m h a b k = .ok r) :
    ∃ z, k z = .ok r ∧ (∀ op, (eqGuard op t x y u u').run P w = .ok () w) ∧ (binOp .eql t u u').run P w = .ok (.bool z) w ∧ (binOp .neq t u u').run P w = .ok (.bool (!z)) w := by
  have neq : ∀ {u u' : Value} {z : Bool}, (∀ n, (Op.equalIn (n + 1) t u u').run P w = .ok z w) → (binOp .eql t u u' = do pure (.bool (← Op.equal t u u'))) → (binOp .neq t u u' = do pure (.bool (!(← Op.equal t u u')))) →
      (binOp .eql t u u').run P w = .ok (.bool z) w ∧ (binOp .neq t u u').run P w = .ok (.bool (!z)) w := fun {u u' z} h1 h2 h3 => by
    have h4 : (Op.equal t u u').run P w = .ok z w := h1 9999
    rw [h2, h3]
    constructor
    · simp [h4]
    · simp [h4]
  cases m with
  | ptr =>
    obtain ⟨el, j, hu, hi, hs⟩ := ht
    simp only [eqK] at e
    cases a <;> simp only at e <;> first | cases e | skip
    · cases ha
      cases b <;> simp only at e <;> first | cases e | skip
      · cases hb
        exact ⟨true, e, fun op => by rw [eqGuard_at_pointer]; rfl, neq (fun n => by simp [Op.equalIn, run_underlying hu]) rfl rfl⟩
      · obtain ⟨bb, N, rfl, h1⟩ := hb.inv_ptr
        exact ⟨false, e, fun op => by rw [eqGuard_at_pointer]; rfl, neq (fun n => by simp [Op.equalIn, run_underlying hu]) rfl rfl⟩
    · obtain ⟨b1, N1, rfl, h1⟩ := ha.inv_ptr
      cases b <;> simp only at e <;> first | cases e | skip
      · cases hb
        exact ⟨false, e, fun op => by rw [eqGuard_at_pointer]; rfl, neq (fun n => by simp [Op.equalIn, run_underlying hu]) rfl rfl⟩
      · obtain ⟨b2, N2, rfl, h2⟩ := hb.inv_ptr
        obtain ⟨z, e, hz1, hz2⟩ := eqP_ok H h1 h2 e
        refine ⟨z, e, fun op => by rw [eqGuard_at_pointer]; rfl, ?_⟩
        cases z with
        | true =>
          obtain ⟨rfl, rfl⟩ := hz1 rfl
          exact neq (fun n => by simp [Op.equalIn, run_underlying hu, sizeOf, typeInfo, hi, run_sameAddr_same]) rfl rfl
        | false =>
          obtain ⟨g1, ⟨ca, ta, g2⟩, cb, tb, g3⟩ := hz2 rfl
          exact neq (fun n => by simp [Op.equalIn, run_underlying hu, sizeOf, typeInfo, hi, hs, run_sameAddr_other w g1 g2 g3]) rfl rfl
  | bool =>
    simp only [eqK] at e
    obtain ⟨p, hp, e1⟩ := asB_ok e
    obtain ⟨q, hq, e2⟩ := asB_ok e1
    subst hp; subst hq
    rw [ha.inv_bool, hb.inv_bool]
    have hu : P.underlying t = some .bool := ht
    exact ⟨p == q, e2, fun op => by rw [eqGuard_at_bool]; rfl, neq (fun n => by simp [Op.equalIn, run_underlying hu]) rfl rfl⟩
  | nilS =>
    simp only [eqK] at e
    obtain ⟨rfl, el, hu⟩ := ht
    obtain rfl := hy _ rfl
    cases ha <;> simp only at e <;> first | cases e | skip
    all_goals exact ⟨_, e, fun op => by rw [eqGuard_at_slice]; rfl, neq (fun n => by simp [Op.equalIn, run_underlying hu]) rfl rfl⟩
  | nilM =>
    simp only [eqK] at e
    obtain ⟨rfl, a', b', hu⟩ := ht
    obtain rfl := hy _ rfl
    cases ha <;> simp only at e <;> first | cases e | skip
    all_goals exact ⟨_, e, fun op => by cases op <;> rfl, neq (fun n => by simp [Op.equalIn, run_underlying hu]) rfl rfl⟩
  | nilF =>
    simp only [eqK] at e
    obtain ⟨rfl, a', b', c', hu⟩ := ht
    obtain rfl := hy _ rfl
    cases ha <;> simp only at e <;> first | cases e | skip
    all_goals exact ⟨_, e, fun op => by cases op <;> rfl, neq (fun n => by simp [Op.equalIn, run_underlying hu]) rfl rfl⟩
  | nilI =>
    simp only [eqK] at e
    obtain ⟨rfl, m', hu⟩ := ht
    obtain rfl := hy _ rfl
    cases ha <;> simp only at e <;> first | cases e | skip
    · exact ⟨_, e, fun op => by rw [eqGuard_nil_constR]; rfl, neq (fun n => by simp [Op.equalIn, run_underlying hu]) rfl rfl⟩
    · exact ⟨_, e, fun op => by rw [eqGuard_at_iface]; rfl, neq (fun n => by simp [Op.equalIn, run_underlying hu]) rfl rfl⟩
end Go.CM
end
