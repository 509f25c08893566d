import Derived.Test.YtdkkaldimefljaaGreatDoorX22
set_option linter.all false
noncomputable section
namespace Go.CM
variable {P : Program} {w0 w : World} {ρ ρ' : Rho} {h h' : T O} {nx nx' : Q} {tm : T V} {tmps : Array Value} {v : V} {ops : Array Oper} {n β : Nat} {f : Q} {dk : Bool} {rd : Option Q} {ds : List Df} {k : K} {cs : List Fr} {fr b : Frame} {frs : List Frame} {c0 : Frame} {cs0 : List Frame} {ih : Run} {fe : Q → CF}
def FeOK (P : Program) (fe : Q → CF) : Prop := ∀ g : Nat, fe (qn g) = .none ∨ fe (qn g) = compF P g
def ExtOK (P : Program) : Prop := ∀ (g : Nat) (m : Nat), compF P g = .ext m → ∀ (w : World) (ρ : Rho) (vs : List V) (us : List Value) (k : V → Res) (v : V), VRs ρ vs us → extK m vs k = .ok v → ∃ x u, k x = .ok v ∧ VR ρ x u ∧ (callFunc g ⟨us⟩).run P w = .ok (.value u) w
theorem compF_mk {g : Nat} {body : C} {rs : List RV} (h : compF P g = .mk body rs) : ∃ fn c, P.funcs[g]? = some fn ∧ fn.body = some c ∧ (fn.name == "runtime.NumGoroutine") = false ∧ compR P fn.results.toList = some rs ∧ body = compC P fn.ntmps c := by
  unfold compF at h
  split at h
  · cases h
  · rename_i fn hf
    split at h
    · split at h <;> cases h
    · rename_i c hc
      split at h
      · cases h
      · rename_i hn
        split at h
        · cases h
        · rename_i rs' hrs
          cases h
          exact ⟨fn, c, hf, hc, hn, hrs, rfl⟩
theorem nt_of {g : Nat} {fn : Func} (h : P.funcs[g]? = some fn) : nt P g = fn.ntmps := by simp [nt, h]
theorem putsL_rel {vs : List V} {us : List Value} (hv : VRs ρ vs us) (m : Nat) (hm : us.length + m ≥ n) : TR ρ n (putsL vs 0 .nil) (⟨us⟩ ++ Array.replicate m Go.undef) := by
  refine ⟨by simp; omega, fun t => ?_⟩
  rw [putsL_at]
  have hl := hv.1
  by_cases ht : t < vs.length
  · rw [if_pos ⟨by omega, by omega⟩, Array.getD_eq_getD_getElem?, Array.getElem?_append_left (by simp; omega)]
    have htu : t < us.length := by omega
    have := hv.2 t vs[t] us[t] (by simp [ht]) (by simp [htu])
    simpa [List.getD_eq_getElem?_getD, ht, htu] using this
  · rw [if_neg (by omega), Array.getD_eq_getD_getElem?]
    have h1 : (T.nil : T V).at t = V.undef := T.get_nil _ _
    rw [h1]
    by_cases h2 : t < us.length + m
    · rw [Array.getElem?_append_right (by simp; omega)]
      simp only [Array.getElem?_replicate]
      split
      · exact VR.undef
      · exact VR.undef
    · rw [Array.getElem?_eq_none (by simp; omega)]
      exact VR.undef
theorem enter_ok {g : Nat} {vs : List V} {us : List Value} {body : C} {rs : List RV} (G : Good P ih) (H : HR P w0 ρ h nx w) (hv : VRs ρ vs us) (hS : StkR P ρ h cs frs nx.nat) (hc : compF P g = .mk body rs)
    (e : (argsK vs .e .nil fun tm => ih (qn g) dk none [] tm (.code body .nil) cs h nx) = .ok v) : Final P w0 (lone (Frame.enter P g ⟨us⟩ (if dk then .deferred else .normal)) (frs ++ c0 :: cs0) w) c0 cs0 v := by
  obtain ⟨fn, c, h1, h2, h3, h4, rfl⟩ := compF_mk hc
  rw [argsK_eq, show (Q.e : Q) = qn 0 from rfl, argsL_eq] at e
  have hnt := nt_of h1
  have hT := putsL_rel (n := nt P g) hv ((fn.ntmps) - us.length) (by omega)
  let b : Frame := { fn := g, tmps := #[], todo := [], defers := [], mode := .run, kind := if dk then .deferred else .normal }
  have X : Ctx P w0 w ρ h nx.nat nx (qn g) dk none [] cs frs b [] := ⟨H, Nat.le_refl _, ⟨by simp [b, qn_nat], rfl, trivial, fun h => absurd rfl h⟩, .nil, fun _ => rfl, hS⟩
  have hfr : Frame.enter P g ⟨us⟩ (if dk then .deferred else .normal) = b.atR ⟨⟨us⟩ ++ Array.replicate (fn.ntmps - us.length) Go.undef, []⟩ [.code c] := by
    simp [Frame.enter, Frame.atR, h1, h2, b]
  rw [hfr]
  refine X.plain (tm := putsL vs 0 .nil) G (.code c _ _ .nil) ?_ ?_
  · rw [qn_nat]; exact hT
  · rw [qn_nat, hnt]; exact e
theorem parK_ok : ∀ {ps : List Nat} {vs : List V} {us : List Value} {tm : T V} {tmps : Array Value} {k : T V → Res}, VRs ρ vs us → TR ρ n tm tmps → (∀ t ∈ ps, t < n) → parK (ps.map qn) vs tm k = .ok v →
    ∃ tm', k tm' = .ok v ∧ ps.length = us.length ∧ TR ρ n tm' ((ps.zip us).foldl (fun tmps (t, a) => tmps.setIfInBounds t a) tmps)
  | [], [], us, tm, tmps, k, hv, hT, hp, e => by rw [hv.inv_nil]; exact ⟨tm, e, rfl, hT⟩
  | [], _ :: _, us, tm, tmps, k, hv, hT, hp, e => by cases e
  | _ :: _, [], us, tm, tmps, k, hv, hT, hp, e => by cases e
  | p :: ps, x :: vs, us, tm, tmps, k, hv, hT, hp, e => by
    obtain ⟨u, us', rfl, h1, h2⟩ := hv.inv_cons
    simp only [List.map_cons, parK, pV_eq] at e
    have hT' : TR ρ n (tm.put V.undef x (qn p)) (tmps.setIfInBounds p u) := hT.put (d := some p) (fun y hy => by cases hy; exact hp p (by simp)) h1
    obtain ⟨tm', a1, a2, a3⟩ := parK_ok h2 hT' (fun t ht => hp t (by simp [ht])) e
    exact ⟨tm', a1, by simp [a2], a3⟩
theorem callK_ok {fv : V} {uf : Value} {vs : List V} {us : List Value} {c : Fr} (hfe : FeOK P fe) (hx : ExtOK P) (G : Good P ih) (H : HR P w0 ρ h nx w) (hfv : VR ρ fv uf) (hv : VRs ρ vs us) (hS : StkR P ρ h (c :: cs) (fr :: frs) nx.nat) (e : callK fe ih fv vs (c :: cs) h nx = .ok v) :
    ∃ d, (Deferred.ofValue uf ⟨us⟩).run P w = .ok d w ∧
      ((∃ g all, (invoke d.target d.args).run P w = .ok (.enter g all) w ∧ Final P w0 (lone (Frame.enter P g all .normal) (fr :: (frs ++ c0 :: cs0)) w) c0 cs0 v) ∨
       (∃ l g tmps x y, (invoke d.target d.args).run P w = .ok (.round l g tmps x y) w ∧ Final P w0 (lone (Frame.round l g tmps x y .normal) (fr :: (frs ++ c0 :: cs0)) w) c0 cs0 v) ∨
       ∃ x u, (invoke d.target d.args).run P w = .ok (.value u) w ∧ VR ρ x u ∧ finK ih c cs x h nx = .ok v) := by
  cases fv <;> simp only [callK] at e <;> first | cases e | skip
  · rename_i f fs caps
    obtain ⟨ua, ub, rfl, h1, h2⟩ := hfv.inv_fn
    rw [appX_eq, appX_eq] at e
    have hall : VRs ρ (fs ++ (vs ++ caps)) (ua ++ (us ++ ub)) := h1.append (hv.append h2)
    refine ⟨{ target := .fn (.func f.nat) ⟨ub⟩, args := ⟨ua⟩ ++ ⟨us⟩ }, by simp [Deferred.ofValue], ?_⟩
    have harr : ((⟨ua⟩ : Array Value) ++ ⟨us⟩) ++ ⟨ub⟩ = ⟨ua ++ (us ++ ub)⟩ := by apply Array.ext'; simp
    unfold enterK at e
    rw [getR_eq] at e
    split at e
    · cases e
    · rename_i m hcf
      have hcf' : compF P f.nat = .ext m := by
        rcases hfe f.nat with h0 | h0
        · rw [qn_of] at h0; rw [h0] at hcf; cases hcf
        · rw [qn_of] at h0; rw [← h0]; exact hcf
      simp only at e
      obtain ⟨x, u, a1, a2, a3⟩ := hx f.nat m hcf' w ρ _ _ _ _ hall e
      refine .inr (.inr ⟨x, u, ?_, a2, a1⟩)
      simp only [invoke, harr]; exact a3
    · rename_i body rs hcf
      have hcf' : compF P f.nat = .mk body rs := by
        rcases hfe f.nat with h0 | h0
        · rw [qn_of] at h0; rw [h0] at hcf; cases hcf
        · rw [qn_of] at h0; rw [← h0]; exact hcf
      obtain ⟨fn, cc, g1, g2, g3, g4, _⟩ := compF_mk hcf'
      refine .inl ⟨f.nat, ⟨ua ++ (us ++ ub)⟩, ?_, ?_⟩
      · simp only [invoke, harr]
        simp [callFunc, g1, g2, g3]
        intro hn
        rw [hn] at g3
        simp at g3
      · have := enter_ok (dk := false) (c0 := c0) (cs0 := cs0) G H hall hS hcf' (by rw [qn_of]; exact e)
        simpa using this
  · rename_i l
    obtain ⟨bl, N, rfl, hl⟩ := hfv.inv_yld
    rw [gO_eq] at e
    obtain ⟨st, pend, fn, tm', ps, asg, body, dfs, hob, e1⟩ := loopO_ok e
    obtain ⟨r, hw, hlr, hB, hlt⟩ := H.loop hl hob
    cases hlr with
    | mk _ _ fn' _ _ _ N' h1 h2 h3 h4 h5 h6 =>
    obtain ⟨tm2, a1, a2, a3⟩ := parK_ok hv h4 h5 e1
    refine ⟨{ target := .fn (.yield bl) #[], args := #[] ++ ⟨us⟩ }, by simp [Deferred.ofValue], .inr (.inl ⟨bl, r.fn, (r.params.zip ⟨us⟩).foldl (fun tmps (t, a) => tmps.setIfInBounds t a) r.tmps, r.assign, r.body, ?_, ?_⟩)⟩
    · have hsz : us.length = r.params.size := by rw [← a2]; simp
      simp [invoke, Instr.yield, run_getLoop hw, hsz]
    · let b : Frame := { fn := r.fn, tmps := #[], todo := [], defers := [], mode := .run, kind := .normal, roundOf := some bl }
      have X : Ctx P w0 w ρ h nx.nat nx (qn fn') false (some l) [] (c :: cs) (fr :: frs) b [] := ⟨H, Nat.le_refl _, ⟨by simp [b, qn_nat, h3], rfl, ⟨N, hl⟩, fun _ => rfl⟩, .nil, fun _ => rfl, hS⟩
      have hfr : ∀ tt, Frame.round bl r.fn tt r.assign r.body .normal = b.atR ⟨tt, []⟩ [.code r.assign, .beginRound, .code r.body] := fun tt => by simp [Frame.round, Frame.atR, b]
      rw [hfr]
      have := X.plain (c0 := c0) (cs0 := cs0) (v := v) (tm := tm2) (tmps := (r.params.zip ⟨us⟩).foldl (fun tmps (t, a) => tmps.setIfInBounds t a) r.tmps) G (.code r.assign _ _ (.begin _ _ (.code r.body _ _ .nil))) (by
        rw [qn_nat]
        have hz : (r.params.zip ⟨us⟩).foldl (fun tmps (t, a) => tmps.setIfInBounds t a) r.tmps = (r.params.toList.zip us).foldl (fun tmps (t, a) => tmps.setIfInBounds t a) r.tmps := by
          rw [← Array.foldl_toList]; simp
        rw [hz]; exact a3) (by rw [qn_nat]; exact a1)
      exact this
end Go.CM
end
noncomputable section
namespace Go.CM
open Go.AM (step_value step_nothing step_enter step_round)
variable {P : Program} {w0 w : World} {ρ ρ' : Rho} {h h' : T O} {nx nx' : Q} {tm : T V} {tmps : Array Value} {v : V} {ops : Array Oper} {n β : Nat} {f : Q} {dk : Bool} {rd : Option Q} {ds : List Df} {k : K} {cs : List Fr} {fr b : Frame} {frs : List Frame} {c0 : Frame} {cs0 : List Frame} {ih : Run} {fe : Q → CF} {i : Nat} {o : Oper} {rest : List Nat} {l : List PS} {ks : List Item} {dds : List Deferred}
theorem step_defer {a : Act} {d : Deferred} {w' : World} {cs : List Frame} (ho : ops[i]? = some o) (hw : Region.wanted o (yielded ops a.tmps) = true) (hb : b.roundOf = none) (hr : (execOp a.eval o).run P w = .ok (.defer d) w') :
    step P (lone (b.atR a (.inRegion ops (i :: rest) :: ks)) cs w) = .next (lone (b.atR ((⟨a.tmps, d :: a.defers⟩ : Act).put o.dst Go.undef) (.inRegion ops rest :: ks)) cs w') := by
  refine step_lone_go ?_
  have h := Frame.finish_atR b ⟨a.tmps, d :: a.defers⟩ ops i rest ks Go.undef
  rw [ho] at h
  rw [stepGR_op ho hw, hb, Oper.semAt_none]
  have h2 : ({ b.atR a (.inRegion ops (i :: rest) :: ks) with defers := d :: (b.atR a (.inRegion ops (i :: rest) :: ks)).defers } : Frame) = b.atR ⟨a.tmps, d :: a.defers⟩ (.inRegion ops (i :: rest) :: ks) := rfl
  simp only [stepG.apply, hr, if_true, if_false, h2, h]
  simp [hr, h2, h]
theorem step_recover {a : Act} {w' : World} {cs : List Frame} (ho : ops[i]? = some o) (hw : Region.wanted o (yielded ops a.tmps) = true) (hd : ∀ c, o.op ≠ .defer c) (hb : b.roundOf = none) (hr : (execOp a.eval o).run P w = .ok .recover w')
    (ht : tryRecover (b.atR a (.inRegion ops (i :: rest) :: ks)) cs = none) :
    step P (lone (b.atR a (.inRegion ops (i :: rest) :: ks)) cs w) = .next (lone (b.atR (a.put o.dst .nilIface) (.inRegion ops rest :: ks)) cs w') := by
  refine step_lone_go ?_
  have h := Frame.finish_atR b a ops i rest ks .nilIface
  rw [ho] at h
  have hb' : (b.atR a (.inRegion ops (i :: rest) :: ks)).roundOf = none := hb
  rw [stepGR_op ho hw, Oper.semAt_eq _ _ _ hd]
  simp [stepG.apply, hr, h, hb', ht]
structure Pt (P : Program) (n : Nat) (ops : Array Oper) (ρ : Rho) (h : T O) (β : Nat) (nx : Q) (tm : T V) (tmps : Array Value) (i : Nat) (o : Oper) (rest : List Nat) (l : List PS) (k : K) (ks : List Item) : Prop where
  ho : ops[i]? = some o
  size : n ≤ tmps.size
  rd : ∀ t, (rdsOf ops o).testBit t = true → VR ρ (tm.at t) (tmps.getD t Go.undef)
  go : ∀ (ρ' : Rho) (h' : T O) (nx' : Q) (v : V) (u : Value), nx.nat ≤ nx'.nat → Keep nx.nat ρ h ρ' h' → VR ρ' v u → (∀ x, o.dst = some x → x < n) →
    ∃ C : Array Value → List Deferred → Frame → Frame → Prop, Cur P ρ' h' β nx' n (putV tm o.dst v) (.reg l k) C ∧ ∀ b dds, C (putT tmps o.dst u) dds b (b.atR ⟨putT tmps o.dst u, dds⟩ (.inRegion ops rest :: ks))
  wt : ∀ d g ob, compO P n ops o = .mk d g ob → isW ob = true → ∃ C : Array Value → List Deferred → Frame → Frame → Prop, Wt P ρ h β nx n tm (.reg (.op (.mk d g ob) :: l) k) C ∧ ∀ b dds, C tmps dds b (b.atR ⟨tmps, dds⟩ (.inRegion ops (i :: rest) :: ks))
theorem Pt.sync (hT : TR ρ n tm tmps) (ho : ops[i]? = some o) (hk : KS P n k ks) : Pt P n ops ρ h β nx tm tmps i o (List.range' (i + 1) (ops.size - (i + 1))) ((ops.toList.drop (i + 1)).map fun o => .op (compO P n ops o)) k ks :=
  ⟨ho, hT.size, fun t _ => hT.rel t, fun _ _ _ _ _ _ hK hv hx => ⟨_, .sync ops (i + 1) k ks (Array.getElem?_eq_some_iff.1 ho).1 hk, fun _ _ => ⟨(hT.mono hK.le).put hx hv, rfl⟩⟩,
    fun d g ob hc hw => ⟨_, .sync ops i o d g ob k ks ho hc hw hk, fun _ _ => ⟨hT, rfl⟩⟩⟩
theorem Pt.drawn {pl : List Pl} {E : Nat} {r : List Nat} {qf : Nat → Option Q} (L : LZ P n ops ρ h β nx tm tmps (.run i :: pl) E (i :: r) qf) (ho : ops[i]? = some o) (hw : wOf P o = true) (hk : KS P n k ks) : Pt P n ops ρ h β nx tm tmps i o r (pl.map (psOf P n ops)) k ks :=
  ⟨ho, L.size, fun t ht => L.reads ho ht (fun _ => by obtain ⟨_, _, h1, _⟩ := ck_run L.ck; exact h1), fun _ _ _ _ _ hn hK hv hx => ⟨_, .drawn ops pl _ r qf k ks hk, fun _ _ => ⟨L.sync ho hw hx hn hK hv, rfl⟩⟩,
    fun d g ob hc hw' => ⟨_, .drawn ops i o d g ob pl E r qf k ks ho hc hw' hk, fun _ _ => ⟨L, rfl⟩⟩⟩
theorem regK_op {d : Option Q} {g : Option (Q × Bool)} {ob : OB} (e : regK fe ih f dk rd ds tm (.op (.mk d g ob) :: l) k cs h nx = .ok v) :
    (gpass g tm = some true ∧ opK fe ih f dk rd ds tm d ob l (.op (.mk d g ob) :: l) k cs h nx = .ok v) ∨ (gpass g tm = some false ∧ g ≠ none ∧ putD d V.undef tm (fun tm' => ih f dk rd ds tm' (.reg l k) cs h nx) = .ok v) := by
  unfold regK at e
  cases g with
  | none => exact .inl ⟨rfl, e⟩
  | some qw =>
    obtain ⟨q, want⟩ := qw
    simp only [gV_eq] at e
    simp only [gpass]
    split at e
    · rename_i t ht
      rw [ht]
      split at e
      · rename_i hb; exact .inl ⟨by simp [hb], e⟩
      · rename_i hb; exact .inr ⟨by simp [hb], by simp, e⟩
    · rename_i ht; rw [ht]; exact .inr ⟨rfl, by simp, e⟩
    · cases e
def kd (b : OB) : Nat :=
  match b with
  | .p _ => 0 | .a _ => 0 | .w _ => 0 | .call _ _ => 1 | .dfr _ _ => 2 | .dfd _ _ _ => 3 | .rcv => 4 | .inv _ _ _ => 5
theorem kd_orP (o : Option PB) : kd (orP o) = 0 := by cases o <;> rfl
theorem kd_orA (o : Option AB) : kd (orA o) = 0 := by cases o <;> rfl
theorem kd_orW (o : Option WB) : kd (orW o) = 0 := by cases o <;> rfl
theorem kd_op (h1 : ∀ c, o.op ≠ .call c) (h2 : ∀ c, o.op ≠ .defer c) : kd (compOp P o) = 0 := by
  obtain ⟨dst, op, ty, pos, aft, gd'⟩ := o
  cases op <;> simp only [compOp] <;> first
    | rfl
    | exact kd_orP _
    | exact kd_orA _
    | exact kd_orW _
    | (exact absurd rfl (h1 _))
    | (exact absurd rfl (h2 _))
    | (repeat' split) <;> first | rfl | exact kd_orP _ | exact kd_orA _ | exact kd_orW _
theorem call_shape {x : X} {xs : List X} (hb : compOp P o = .call x xs) : ∃ c fo, o.op = .call c ∧ c.callee = .value fo ∧ x = compX P fo ∧ xs = c.args.toList.map (compX P) := by
  by_cases h1 : ∃ c, o.op = .call c
  · obtain ⟨c, hc⟩ := h1
    refine ⟨c, ?_⟩
    simp only [compOp, hc] at hb
    unfold compCall at hb
    split at hb
    · rename_i fo hf
      cases hb; exact ⟨fo, hc, hf, rfl, rfl⟩
    · cases hb
    · exfalso
      have hk := congrArg kd hb
      revert hk
      repeat' split
      all_goals first | (rw [kd_orP]; simp [kd]; done) | (rw [kd_orW]; simp [kd]; done) | (simp [kd]; done)
  · exfalso
    by_cases h2 : ∃ c, o.op = .defer c
    · obtain ⟨c, hc⟩ := h2
      simp only [compOp, hc] at hb
      have hk := congrArg kd hb
      revert hk
      repeat' split
      all_goals simp [kd]
    · have := kd_op (P := P) (fun c hc => h1 ⟨c, hc⟩) (fun c hc => h2 ⟨c, hc⟩)
      rw [hb] at this; cases this
theorem inv_shape {ms : List (Nat × Q)} {x : X} {xs : List X} (hb : compOp P o = .inv ms x xs) : ∃ c fo name, o.op = .call c ∧ c.callee = .invoke fo name ∧ ms = ownMeths P name P.types.size ∧ x = compX P fo ∧ xs = c.args.toList.map (compX P) := by
  by_cases h1 : ∃ c, o.op = .call c
  · obtain ⟨c, hc⟩ := h1
    refine ⟨c, ?_⟩
    simp only [compOp, hc] at hb
    unfold compCall at hb
    split at hb
    · cases hb
    · rename_i fo name hf
      cases hb; exact ⟨fo, name, hc, hf, rfl, rfl, rfl⟩
    · exfalso
      have hk := congrArg kd hb
      revert hk
      repeat' split
      all_goals first | (rw [kd_orP]; simp [kd]; done) | (rw [kd_orW]; simp [kd]; done) | (simp [kd]; done)
  · exfalso
    by_cases h2 : ∃ c, o.op = .defer c
    · obtain ⟨c, hc⟩ := h2
      simp only [compOp, hc] at hb
      have hk := congrArg kd hb
      revert hk
      repeat' split
      all_goals simp [kd]
    · have := kd_op (P := P) (fun c hc => h1 ⟨c, hc⟩) (fun c hc => h2 ⟨c, hc⟩)
      rw [hb] at this; cases this
theorem methK_ok {t : Nat} {k : Q → Res} {v : V} : ∀ {ms : List (Nat × Q)}, methK t ms k = .ok v → ∃ f, (t, f) ∈ ms ∧ k f = .ok v
  | [], e => by cases e
  | (u, f) :: ms, e => by
    simp only [methK] at e
    split at e
    · rename_i hb
      have := Nat.eq_of_beq_eq_true hb
      subst this
      exact ⟨f, by simp, e⟩
    · obtain ⟨g, h1, h2⟩ := methK_ok e
      exact ⟨g, by simp [h1], h2⟩
theorem ownMeths_ok {name : String} {t : Nat} {f : Q} : ∀ {n : Nat}, (t, f) ∈ ownMeths P name n → ∃ u, ownMeth P name u = some (t, f)
  | 0, h => by simp [ownMeths] at h
  | n + 1, h => by
    simp only [ownMeths] at h
    split at h
    · rename_i p hp
      rcases List.mem_cons.1 h with rfl | h
      · exact ⟨n, hp⟩
      · exact ownMeths_ok h
    · exact ownMeths_ok h
theorem ownMeth_ok {name : String} {u t : Nat} {f : Q} (h : ownMeth P name u = some (t, f)) (n : Nat) (x : Value) : (method (n + 1) t x name).run P w = .ok (f.nat, x) w := by
  unfold ownMeth at h
  obtain ⟨i, hi, h⟩ := bindo h
  obtain ⟨m, hm, h⟩ := bindo h
  obtain ⟨d, hd, h⟩ := bindo h
  obtain ⟨fp, hf, h⟩ := bindo h
  obtain ⟨fi, fb⟩ := fp
  have hti : (typeInfo t).run P w = .ok i w ∨ u ≠ t := by
    by_cases hut : u = t
    · subst hut; exact .inl (by simp [typeInfo, hi])
    · exact .inr hut
  have key : ∀ (hp : m.path.isEmpty = true), u = t → qn fi = f → (∀ wr, (receiverAt t (.val x) fb wr).run P w = .ok x w) → (method (n + 1) t x name).run P w = .ok (f.nat, x) w := by
    intro hp he hq hrec
    subst he
    subst hq
    have hpe : m.path = #[] := by simpa using hp
    rcases hti with hti | hti
    · simp only [method, Sem.run_bind, hti, Result.andThen_ok, hm]
      simp [hpe, follow, hf, qn_nat, hrec]
    · exact absurd rfl hti
  cases hp : m.path.isEmpty with
  | false => rw [hp] at h; cases d <;> cases fb <;> cases h
  | true =>
    rw [hp] at h
    cases d <;> cases fb <;> first
      | (cases h; done)
      | (cases h; exact key hp rfl rfl fun wr => by simp [receiverAt, run_underlying hd, Place.get])
theorem dfr_shape {x : X} {xs : List X} (hb : compOp P o = .dfr x xs) : ∃ c fo, o.op = .defer c ∧ c.callee = .value fo ∧ x = compX P fo ∧ xs = c.args.toList.map (compX P) := by
  by_cases h1 : ∃ c, o.op = .defer c
  · obtain ⟨c, hc⟩ := h1
    refine ⟨c, ?_⟩
    simp only [compOp, hc] at hb
    split at hb
    · rename_i fo hf
      cases hb; exact ⟨fo, hc, hf, rfl, rfl⟩
    · exfalso
      have hk := congrArg kd hb
      revert hk
      repeat' split
      all_goals simp [kd]
    · cases hb
  · exfalso
    by_cases h2 : ∃ c, o.op = .call c
    · obtain ⟨c, hc⟩ := h2
      simp only [compOp, hc] at hb
      have hk := congrArg kd hb
      revert hk
      unfold compCall
      repeat' split
      all_goals first | (rw [kd_orP]; simp [kd]; done) | (rw [kd_orW]; simp [kd]; done) | (simp [kd]; done)
    · have := kd_op (P := P) (fun c hc => h2 ⟨c, hc⟩) (fun c hc => h1 ⟨c, hc⟩)
      rw [hb] at this; cases this
theorem dfd_shape {s : KK} {x y : X} (hb : compOp P o = .dfd s x y) : ∃ c m key t ts el, o.op = .defer c ∧ c.callee = .builtin .delete ∧ c.args.toList = [m, key] ∧ c.argTypes.toList = t :: ts ∧ mapT P t = some (s, el) ∧ x = compX P m ∧ y = compX P key := by
  by_cases h1 : ∃ c, o.op = .defer c
  · obtain ⟨c, hc⟩ := h1
    simp only [compOp, hc] at hb
    split at hb
    · cases hb
    · rename_i hf
      split at hb
      · rename_i m key t ts ha ht
        split at hb
        · rename_i s' el hm
          cases hb; exact ⟨c, m, key, t, ts, el, hc, hf, ha, ht, hm, rfl, rfl⟩
        · cases hb
      · cases hb
    · cases hb
  · exfalso
    by_cases h2 : ∃ c, o.op = .call c
    · obtain ⟨c, hc⟩ := h2
      simp only [compOp, hc] at hb
      have hk := congrArg kd hb
      revert hk
      unfold compCall
      repeat' split
      all_goals first | (rw [kd_orP]; simp [kd]; done) | (rw [kd_orW]; simp [kd]; done) | (simp [kd]; done)
    · have := kd_op (P := P) (fun c hc => h2 ⟨c, hc⟩) (fun c hc => h1 ⟨c, hc⟩)
      rw [hb] at this; cases this
theorem rcv_shape (hb : compOp P o = .rcv) : ∃ c, o.op = .call c ∧ c.callee = .builtin .recover ∧ c.args.toList = [] := by
  by_cases h1 : ∃ c, o.op = .call c
  · obtain ⟨c, hc⟩ := h1
    refine ⟨c, hc, ?_⟩
    simp only [compOp, hc] at hb
    unfold compCall at hb
    split at hb
    · cases hb
    · cases hb
    · rename_i bb hf
      have hk := congrArg kd hb
      split at hb
      all_goals first
        | (rename_i ha; exact ⟨hf, ha⟩)
        | (exfalso; clear hb; revert hk; (repeat' split) <;> first | contradiction | (simp_all; done) | (rw [kd_orP]; simp [kd]; done) | (rw [kd_orW]; simp [kd]; done) | (simp [kd]; done))
  · exfalso
    by_cases h2 : ∃ c, o.op = .defer c
    · obtain ⟨c, hc⟩ := h2
      simp only [compOp, hc] at hb
      have hk := congrArg kd hb
      revert hk
      repeat' split
      all_goals simp [kd]
    · have := kd_op (P := P) (fun c hc => h1 ⟨c, hc⟩) (fun c hc => h2 ⟨c, hc⟩)
      rw [hb] at this; cases this
theorem tryRec_none (hB : FB P ρ f dk none b) (hS : StkR P ρ h cs frs β) (e : recK dk cs (.ok v) = .ok v) {a : Act} {todo : List Item} {cs' : List Frame} : tryRecover (b.atR a todo) (frs ++ c0 :: cs') = none := by
  have hk : (b.atR a todo).kind = if dk then .deferred else .normal := hB.kind
  unfold tryRecover
  rw [hk]
  cases dk with
  | false => rfl
  | true =>
    cases hS with
    | nil => cases e
    | cons ρ0 _ h0 _ f' dk' rd' ds' tm2 k' _ fr' frs' β0 _ nx0 hf hn hK hs =>
      simp only [List.cons_append, if_true]
      obtain ⟨_, b', dds', tmps', C, _, _, _, hW, hC⟩ := hf
      cases hW with
      | rtn ks => rw [hC.2]
      | _ => cases e
theorem pt_ok (hfe : FeOK P fe) (hx : ExtOK P) (G : Good P ih) (C : Ctx P w0 w ρ h β nx f dk rd ds cs frs b dds) (p : Pt P (nt P f.nat) ops ρ h β nx tm tmps i o rest l k ks)
    (e : regK fe ih f dk rd ds tm (.op (compO P (nt P f.nat) ops o) :: l) k cs h nx = .ok v) : Final P w0 (lone (b.atR ⟨tmps, dds⟩ (.inRegion ops (i :: rest) :: ks)) (frs ++ c0 :: cs0) w) c0 cs0 v := by
  obtain ⟨d, g, ob, hc⟩ : ∃ d g ob, compO P (nt P f.nat) ops o = .mk d g ob := by
    cases h0 : compO P (nt P f.nat) ops o with | mk d g ob => exact ⟨d, g, ob, rfl⟩
  rw [hc] at e
  have ho := p.ho
  have Cgo : ∀ {w' : World} {ρ' : Rho} {h' : T O} {nx' : Q} {x : V} {u : Value} {ds' : List Df} {dds' : List Deferred}, HR P w0 ρ' h' nx' w' → nx.nat ≤ nx'.nat → Keep nx.nat ρ h ρ' h' → VR ρ' x u → (∀ x, o.dst = some x → x < nt P f.nat) → DsR P ρ' ds' dds' → (rd ≠ none → ds' = []) →
      ih f dk rd ds' (putV tm o.dst x) (.reg l k) cs h' nx' = .ok v → Final P w0 (lone (b.atR ⟨putT tmps o.dst u, dds'⟩ (.inRegion ops rest :: ks)) (frs ++ c0 :: cs0) w') c0 cs0 v := by
    intro w' ρ' h' nx' x u ds' dds' H' hn hK hv hd hD hrn e'
    obtain ⟨X, hX, hC⟩ := p.go ρ' h' nx' x u hn hK hv hd
    have C' : Ctx P w0 w' ρ' h' β nx' f dk rd ds' cs frs b dds' := ⟨H', Nat.le_trans C.le hn, C.B.mono hK.le, hD, hrn, C.S.mono (hK.down C.le)⟩
    exact C'.go G hX (hC b dds') e'
  rcases regK_op e with ⟨hg, e1⟩ | ⟨hg, hgn, e1⟩
  · have hnb : ob ≠ .p .bad := fun e0 => by subst e0; cases e1
    obtain ⟨hb, hd, hxd, hgd⟩ := compO_ok hc (nbad hnb)
    have hwant := wanted_ok hgd p.size (fun j want t h1 h2 => p.rd t (rds_guard h1 h2)) hg
    have hT : XR ρ tm tmps o.op.operands.toList := fun t ht => p.rd t (rds_op ht)
    subst hd
    cases ob with
    | p pb =>
      simp only [opK] at e1
      obtain ⟨x, e2, u, hu, hv⟩ := pOp_ok (ds := dds) C.H hb.symm hT e1
      rw [putD_eq] at e2
      refine Final.steps (Steps.one (step_value (a := ⟨tmps, dds⟩) ho hwant (notDefer_p hb.symm e1) hu)) ?_
      rw [put_eq]
      exact Cgo C.H (Nat.le_refl _) (Keep.refl _ _ _) hv hxd C.D C.rn e2
    | a ab =>
      simp only [opK] at e1
      obtain ⟨oo, mk, _, e2, hA⟩ := aOp_ok (ds := dds) C.H hb.symm hT e1
      obtain ⟨x, N, u, a4, a5⟩ := hA.run
      obtain ⟨a6, a7⟩ := a5 nx (C.H.fresh nx (Nat.le_refl _))
      rw [pO_eq, putD_eq, succK_eq] at e2
      obtain ⟨H', hK⟩ := C.H.make a6
      refine Final.steps (Steps.one (step_value (a := ⟨tmps, dds⟩) ho hwant (notDefer_a hb.symm) a4)) ?_
      rw [put_eq]
      exact Cgo H' (by rw [Q.nat_succ]; omega) hK a7 hxd (C.D.mono hK.le) C.rn e2
    | w wb =>
      simp only [opK] at e1
      obtain ⟨x, h', nx', e2, w', ρ', u, hu, hv, H', hK, hn⟩ := wOp_ok (ds := dds) C.H hb.symm hT e1
      rw [putD_eq] at e2
      rcases hu with hu | ⟨hu, rfl⟩
      · refine Final.steps (Steps.one (step_value (a := ⟨tmps, dds⟩) ho hwant (notDefer_w hb.symm) hu)) ?_
        rw [put_eq]
        exact Cgo H' hn hK hv hxd (C.D.mono hK.le) C.rn e2
      · refine Final.steps (Steps.one (step_nothing (a := ⟨tmps, dds⟩) ho hwant (notDefer_w hb.symm) hu)) ?_
        rw [put_eq]
        exact Cgo H' hn hK hv hxd (C.D.mono hK.le) C.rn e2
    | call x xs =>
      obtain ⟨c, fo, h1, h2, rfl, rfl⟩ := call_shape hb.symm
      simp only [opK] at e1
      have hops : o.op.operands = #[fo] ++ c.args := by rw [h1]; simp [Op.operands, Call.operands, h2]
      obtain ⟨fv, hf1, e2⟩ := xK_ok e1
      have hfv := xE_rel (ds := dds) C.H.glob (hT.sub (fun y hy => by rw [hops]; simp at hy; simp [hy])) hf1
      obtain ⟨vs, hv1, e3⟩ := xsK_ok e2
      have hvs := xsE_rel (ds := dds) C.H.glob (hT.sub (fun y hy => by rw [hops]; simp at hy; simp [hy])) hv1
      obtain ⟨W, hW, hWC⟩ := p.wt _ _ _ hc rfl
      have hS : StkR P ρ h (.mk f dk rd ds tm (.reg (.op (.mk (o.dst.map qn) g (.call (compX P fo) (c.args.toList.map (compX P)))) :: l) k) :: cs) (b.atR ⟨tmps, dds⟩ (.inRegion ops (i :: rest) :: ks) :: frs) nx.nat :=
        .cons ρ ρ h h f dk rd ds tm _ cs _ frs β nx.nat nx ⟨C.le, b, dds, tmps, W, C.B, C.D, C.rn, hW, hWC b dds⟩ (Nat.le_refl _) (Keep.refl _ _ _) C.S
      obtain ⟨dd, hd1, hd2⟩ := callK_ok (c0 := c0) (cs0 := cs0) hfe hx G C.H hfv hvs hS e3
      have hnd : ∀ c', o.op ≠ .defer c' := fun c' hc' => by rw [h1] at hc'; cases hc'
      have harr : c.args.map (ev tmps dds) = ⟨c.args.toList.map (ev tmps dds)⟩ := by apply Array.ext'; simp
      have hex : ∀ {r : Result Next}, (invoke dd.target dd.args).run P w = r → (execOp (ev tmps dds) o).run P w = r := fun {r} hr => by
        simp only [execOp, h1, resolve, h2, harr, Sem.run_bind, hd1, Result.andThen_ok, hr]
      rcases hd2 with ⟨gg, all, i1, i2⟩ | ⟨ll, gg, tt, x, y, i1, i2⟩ | ⟨x, u, i1, i2, i3⟩
      · exact Final.steps (Steps.one (step_enter (a := ⟨tmps, dds⟩) ho hwant hnd (hex i1))) i2
      · exact Final.steps (Steps.one (step_round (a := ⟨tmps, dds⟩) ho hwant hnd (hex i1))) i2
      · refine Final.steps (Steps.one (step_value (a := ⟨tmps, dds⟩) ho hwant hnd (hex i1))) ?_
        rw [put_eq]
        simp only [finK, putD_eq] at i3
        exact Cgo C.H (Nat.le_refl _) (Keep.refl _ _ _) i2 hxd C.D C.rn i3
    | inv ms x xs =>
      obtain ⟨c, fo, name, h1, h2, rfl, rfl, rfl⟩ := inv_shape hb.symm
      simp only [opK] at e1
      have hops : o.op.operands = #[fo] ++ c.args := by rw [h1]; simp [Op.operands, Call.operands, h2]
      obtain ⟨fv, hf1, e2⟩ := xK_ok e1
      have hfv := xE_rel (ds := dds) C.H.glob (hT.sub (fun y hy => by rw [hops]; simp at hy; simp [hy])) hf1
      obtain ⟨vs, hv1, e3⟩ := xsK_ok e2
      have hvs := xsE_rel (ds := dds) C.H.glob (hT.sub (fun y hy => by rw [hops]; simp at hy; simp [hy])) hv1
      unfold invK at e3
      split at e3
      · rename_i t u0
        obtain ⟨u', hu', hur⟩ : ∃ u', ev tmps dds fo = .iface t u' ∧ VR ρ u0 u' := by
          generalize ev tmps dds fo = uu at hfv
          cases hfv with | ifc _ _ v' hv' => exact ⟨v', rfl, hv'⟩
        obtain ⟨g', hm1, e4⟩ := methK_ok e3
        obtain ⟨tt, hm2⟩ := ownMeths_ok hm1
        obtain ⟨W, hW, hWC⟩ := p.wt _ _ _ hc rfl
        have hS : StkR P ρ h (.mk f dk rd ds tm (.reg (.op (.mk (o.dst.map qn) g (.inv (ownMeths P name P.types.size) (compX P fo) (c.args.toList.map (compX P)))) :: l) k) :: cs) (b.atR ⟨tmps, dds⟩ (.inRegion ops (i :: rest) :: ks) :: frs) nx.nat :=
          .cons ρ ρ h h f dk rd ds tm _ cs _ frs β nx.nat nx ⟨C.le, b, dds, tmps, W, C.B, C.D, C.rn, hW, hWC b dds⟩ (Nat.le_refl _) (Keep.refl _ _ _) C.S
        have hfn : VR ρ (.fn g' [] []) (.func (.func g'.nat) #[] #[]) := .fn g' [] [] [] [] rfl rfl (fun i c v h => by simp at h) (fun i c v h => by simp at h)
        obtain ⟨dd, hd1, hd2⟩ := callK_ok (c0 := c0) (cs0 := cs0) hfe hx G C.H hfn (VRs.cons hur hvs) hS e4
        have hnd : ∀ c', o.op ≠ .defer c' := fun c' hc' => by rw [h1] at hc'; cases hc'
        have harr : c.args.map (ev tmps dds) = ⟨c.args.toList.map (ev tmps dds)⟩ := by apply Array.ext'; simp
        have hdd : dd = { target := .fn (.func g'.nat) #[], args := ⟨u' :: c.args.toList.map (ev tmps dds)⟩ } := by
          simp [Deferred.ofValue] at hd1
          exact hd1.symm
        subst hdd
        have hex : ∀ {r : Result Next}, (invoke (.fn (.func g'.nat) #[]) ⟨u' :: c.args.toList.map (ev tmps dds)⟩).run P w = r → (execOp (ev tmps dds) o).run P w = r := fun {r} hr => by
          have hpos : 0 < Made.depth := by decide
          obtain ⟨nn, hnn⟩ : ∃ nn, P.types.size + Made.depth = nn + 1 := ⟨P.types.size + Made.depth - 1, by omega⟩
          have hmeth := ownMeth_ok (w := w) hm2 nn u'
          rw [← hnn] at hmeth
          have hprog : (program).run P w = .ok P w := rfl
          simp only [invoke] at hr
          simp only [execOp, h1, resolve, h2, harr, hu', Sem.run_bind, Sem.run_pure, Result.andThen_ok, invoke, callMethod]
          have htk : List.take c.args.size (List.map (ev tmps dds) c.args.toList) = List.map (ev tmps dds) c.args.toList := List.take_of_length_le (by simp)
          simp [hprog, hmeth, htk]
          simpa using hr
        rcases hd2 with ⟨gg, all, i1, i2⟩ | ⟨ll, gg, tt, x, y, i1, i2⟩ | ⟨x, u, i1, i2, i3⟩
        · exact Final.steps (Steps.one (step_enter (a := ⟨tmps, dds⟩) ho hwant hnd (hex i1))) i2
        · exact Final.steps (Steps.one (step_round (a := ⟨tmps, dds⟩) ho hwant hnd (hex i1))) i2
        · refine Final.steps (Steps.one (step_value (a := ⟨tmps, dds⟩) ho hwant hnd (hex i1))) ?_
          rw [put_eq]
          simp only [finK, putD_eq] at i3
          exact Cgo C.H (Nat.le_refl _) (Keep.refl _ _ _) i2 hxd C.D C.rn i3
      · cases e3
    | dfr x xs =>
      obtain ⟨c, fo, h1, h2, rfl, rfl⟩ := dfr_shape hb.symm
      simp only [opK] at e1
      split at e1
      · cases e1
      have hops : o.op.operands = #[fo] ++ c.args := by rw [h1]; simp [Op.operands, Call.operands, h2]
      obtain ⟨fv, hf1, e2⟩ := xK_ok e1
      have hfv := xE_rel (ds := dds) C.H.glob (hT.sub (fun y hy => by rw [hops]; simp at hy; simp [hy])) hf1
      obtain ⟨vs, hv1, e3⟩ := xsK_ok e2
      have hvs := xsE_rel (ds := dds) C.H.glob (hT.sub (fun y hy => by rw [hops]; simp at hy; simp [hy])) hv1
      split at e3
      · rename_i g' fs caps
        obtain ⟨ua, ub, hfu, h3, h4⟩ := hfv.inv_fn
        rw [appX_eq, appX_eq, putD_eq] at e3
        have harr : c.args.map (ev tmps dds) = ⟨c.args.toList.map (ev tmps dds)⟩ := by apply Array.ext'; simp
        have hro : b.roundOf = none := by
          have := C.B.ro
          cases hbr : b.roundOf with
          | none => rfl
          | some bl => rw [hbr] at this; exact this.elim
        have hex : (execOp (ev tmps dds) o).run P w = .ok (.defer { target := .fn (.func g'.nat) ⟨ub⟩, args := ⟨ua⟩ ++ ⟨c.args.toList.map (ev tmps dds)⟩ }) w := by
          simp [execOp, h1, resolve, h2, harr, hfu, Deferred.ofValue]
        refine Final.steps (Steps.one (step_defer (a := ⟨tmps, dds⟩) ho hwant hro hex)) ?_
        rw [put_eq]
        have hall : VRs ρ (fs ++ (vs ++ caps)) ((ua ++ c.args.toList.map (ev tmps dds)) ++ ub) := by rw [List.append_assoc]; exact h3.append (hvs.append h4)
        have hD := DsR.call g'.nat _ _ _ ds dds hall C.D
        rw [qn_of] at hD
        have harr2 : ((⟨ua⟩ : Array Value) ++ ⟨c.args.toList.map (ev tmps dds)⟩) = ⟨ua ++ c.args.toList.map (ev tmps dds)⟩ := by apply Array.ext'; simp
        rw [harr2]
        exact Cgo C.H (Nat.le_refl _) (Keep.refl _ _ _) VR.undef hxd hD (fun h0 => absurd rfl h0) e3
      · cases e3
    | dfd s x y =>
      obtain ⟨c, m, key, t, ts, el, h1, h2, h3, h4, h5, rfl, rfl⟩ := dfd_shape hb.symm
      simp only [opK] at e1
      split at e1
      · cases e1
      have hops : o.op.operands = c.args := by rw [h1]; simp [Op.operands, Call.operands, h2]
      have hargs : c.args = #[m, key] := by apply Array.ext'; simp [h3]
      obtain ⟨mv, hm1, e2⟩ := xK_ok e1
      have hmv := xE_rel (ds := dds) C.H.glob (hT.sub (fun y hy => by rw [hops, hargs]; simp at hy; simp [hy])) hm1
      obtain ⟨kv, hk1, e3⟩ := xK_ok e2
      have hkv := xE_rel (ds := dds) C.H.glob (hT.sub (fun y hy => by rw [hops, hargs]; simp at hy; simp [hy])) hk1
      rw [putD_eq] at e3
      have hro : b.roundOf = none := by
        have := C.B.ro
        cases hbr : b.roundOf with
        | none => rfl
        | some bl => rw [hbr] at this; exact this.elim
      have hex : (execOp (ev tmps dds) o).run P w = .ok (.defer { target := .builtin .delete c.argTypes o.type (c.args.map fun | .const _ => true | _ => false), args := #[ev tmps dds m, ev tmps dds key] }) w := by
        simp [execOp, h1, resolve, h2, hargs]
        exact ⟨by cases m <;> rfl, by cases key <;> rfl⟩
      refine Final.steps (Steps.one (step_defer (a := ⟨tmps, dds⟩) ho hwant hro hex)) ?_
      rw [put_eq]
      have hD := DsR.del s mv kv c.argTypes o.type (c.args.map fun | .const _ => true | _ => false) t el _ _ ds dds (by rw [← Array.getElem?_toList, h4]; rfl) h5 hmv hkv C.D
      exact Cgo C.H (Nat.le_refl _) (Keep.refl _ _ _) VR.undef hxd hD (fun h0 => absurd rfl h0) e3
    | rcv =>
      obtain ⟨c, h1, h2, h3⟩ := rcv_shape hb.symm
      simp only [opK] at e1
      split at e1
      · cases e1
      have hargs : c.args = #[] := by apply Array.ext'; simp [h3]
      have hro : b.roundOf = none := by
        have := C.B.ro
        cases hbr : b.roundOf with
        | none => rfl
        | some bl => rw [hbr] at this; exact this.elim
      have hnd : ∀ c', o.op ≠ .defer c' := fun c' hc' => by rw [h1] at hc'; cases hc'
      have hex : (execOp (ev tmps dds) o).run P w = .ok .recover w := by
        simp [execOp, h1, resolve, h2, hargs, invoke, builtin]
      obtain ⟨r1, r2⟩ : recK dk cs (.ok v) = .ok v ∧ putD (o.dst.map qn) .nili tm (fun tm' => ih f dk none ds tm' (.reg l k) cs h nx) = .ok v := by
        unfold recK at e1 ⊢
        split at e1
        · exact ⟨rfl, e1⟩
        · split at e1
          · exact ⟨rfl, e1⟩
          · cases e1
      refine Final.steps (Steps.one (step_recover (a := ⟨tmps, dds⟩) ho hwant hnd hro hex (tryRec_none C.B C.S r1))) ?_
      rw [put_eq]
      rw [putD_eq] at r2
      exact Cgo C.H (Nat.le_refl _) (Keep.refl _ _ _) VR.nili hxd C.D C.rn r2
  · obtain ⟨hb, hd, hxd, hgd⟩ := compO_ok hc (fun e0 => by unfold badCO at e0; cases e0; exact hgn rfl)
    have hwant := wanted_ok hgd p.size (fun j want t h1 h2 => p.rd t (rds_guard h1 h2)) hg
    rw [hd, putD_eq] at e1
    refine Final.steps (Steps.one (stepR_op_skip (a := ⟨tmps, dds⟩) (by rw [ho]; simp [hwant]))) ?_
    rw [ho, Option.bind_some, put_eq]
    exact Cgo C.H (Nat.le_refl _) (Keep.refl _ _ _) VR.undef hxd C.D C.rn e1
end Go.CM
end
