import Derived.Test.YtdkkaldimefljaaGreatDoorX21
set_option linter.all false
noncomputable section
namespace Go.CM
variable {P : Program} {w0 w : World} {ρ ρ' : Rho} {h h' : T O} {nx nx' : Q} {tm : T V} {tmps : Array Value} {ds : List Deferred} {v : V} {ops : Array Oper} {n β E : Nat} {pl : List Pl} {r : List Nat} {qf : Nat → Option Q}
def putV (tm : T V) (d : Option Nat) (v : V) : T V :=
  match d with
  | some x => tm.put V.undef v (qn x)
  | none => tm
theorem putV_at (tm : T V) (d : Option Nat) (v : V) (t : Nat) : (putV tm d v).at t = if d = some t then v else tm.at t := by
  cases d with
  | none => simp [putV]
  | some x => simp only [putV, at_put, Option.some.injEq]
theorem putD_eq (d : Option Nat) (v : V) (tm : T V) (k : T V → Res) : putD (d.map qn) v tm k = k (putV tm d v) := by
  cases d with
  | none => rfl
  | some x => simp only [Option.map_some, putD, pV_eq, putV]
theorem bit_or {E i j : Nat} : (E ||| 2 ^ i).testBit j = true ↔ E.testBit j = true ∨ j = i := by
  rw [Nat.testBit_or, Nat.testBit_two_pow, Bool.or_eq_true, decide_eq_true_eq]
  exact ⟨fun h => h.imp id Eq.symm, fun h => h.imp id Eq.symm⟩
theorem bit_or_of {E i j : Nat} (h : E.testBit j = true) : (E ||| 2 ^ i).testBit j = true := bit_or.2 (.inl h)
theorem ck_run {fs : List Inf} {i : Nat} {l : List Pl} (h : planCk fs (.run i :: l) E = true) : ∃ f, fs[i]? = some f ∧ E.testBit i = false ∧ sub f.bf E = true ∧ (f.w = true → wOk i f.bf E l fs 0 = true) ∧ planCk fs l (E ||| 2 ^ i) = true := by
  simp only [planCk] at h
  split at h
  · cases h
  · rename_i f hf
    simp only [Bool.and_eq_true, Bool.not_eq_true', Bool.or_eq_true] at h
    exact ⟨f, hf, h.1.1.1, h.1.1.2, fun hw => h.1.2.resolve_left (fun h' => by rw [hw] at h'; cases h'), h.2⟩
theorem ck_chk {fs : List Inf} {i : Nat} {l : List Pl} (h : planCk fs (.chk i :: l) E = true) : planCk fs l E = true := by
  simp only [planCk] at h
  split at h
  · cases h
  · simp only [Bool.and_eq_true] at h; exact h.2
theorem gpass_congr {o : Oper} {g : Option (Q × Bool)} {tm tm0 : T V} (hg : (o.guard = none ∧ g = none) ∨ ∃ j want t, o.guard = some (j, want) ∧ (ops[j]?).bind (·.dst) = some t ∧ g = some (qn t, want) ∧ t < n)
    (hrd : ∀ t, (rdsOf ops o).testBit t = true → tm0.at t = tm.at t) : gpass g tm0 = gpass g tm := by
  rcases hg with ⟨_, rfl⟩ | ⟨j, want, t, h1, h2, rfl, _⟩
  · rfl
  · have := hrd t (rds_guard h1 h2)
    simp only [gpass]
    rw [show tm0.get V.undef (qn t) = tm.get V.undef (qn t) from this]
theorem LZ.chk {i : Nat} (L : LZ P n ops ρ h β nx tm tmps (.chk i :: pl) E r qf)
    (hc : ∀ o d g pb, ops[i]? = some o → compO P n ops o = .mk d g (.p pb) → gpass g tm = some true → ∃ x, o.dst = some x ∧ pK pb tm h .ok = .ok (tm.at x)) : LZ P n ops ρ h β nx tm tmps pl E r qf := by
  refine ⟨L.sc, L.size, ck_chk L.ck, L.ord, L.nd, L.lt, L.cl, L.sub, L.ecl, L.inj, L.ql, fun j hj hE o ho => ?_, L.vals⟩
  obtain ⟨p1, d, g, b, p2, p3, tm0, p4, p5⟩ := L.pend j hj hE o ho
  rcases p5 with p5 | ⟨p5, p6⟩
  · exact ⟨p1, d, g, b, p2, p3, tm0, p4, .inl p5⟩
  · rcases p6 with ⟨pb, v, rfl, q1, q2⟩ | p6
    · rcases q2 with ⟨q2, q3⟩ | q2
      · simp only [chkHas] at q3
        split at q3
        · rename_i hb
          have hji := Nat.eq_of_beq_eq_true hb
          subst hji
          obtain ⟨_, _, _, hg⟩ := compO_ok p2 p3
          have hgp : gpass g tm = some true := by rw [← gpass_congr hg p4]; exact p5
          obtain ⟨x, hx, hev⟩ := hc o d g pb ho p2 hgp
          exact ⟨p1, d, g, _, p2, p3, tm, fun t _ => rfl, .inr ⟨hgp, .inl ⟨pb, tm.at x, rfl, fun y hy => by rw [hx] at hy; cases hy; rfl, .inr hev⟩⟩⟩
        · exact ⟨p1, d, g, _, p2, p3, tm0, p4, .inr ⟨p5, .inl ⟨pb, v, rfl, q1, .inl ⟨q2, q3⟩⟩⟩⟩
      · exact ⟨p1, d, g, _, p2, p3, tm0, p4, .inr ⟨p5, .inl ⟨pb, v, rfl, q1, .inr q2⟩⟩⟩
    · exact ⟨p1, d, g, b, p2, p3, tm0, p4, .inr ⟨p5, .inr p6⟩⟩
theorem LZ.eager {i : Nat} {o : Oper} (L : LZ P n ops ρ h β nx tm tmps (.run i :: pl) E r qf) (ho : ops[i]? = some o) (hw : wOf P o = false) {v : V} {qf' : Nat → Option Q} (hnx : nx.nat ≤ nx'.nat)
    (hh : ∀ q, q.nat < nx.nat → h'.ob q = h.ob q) (hheap : h' = h ∨ ∀ pb, compOp P o ≠ .p pb) (hqf : ∀ j, j ≠ i → qf' j = qf j)
    (hinj : ∀ q, qf' i = some q → q.nat < nx'.nat ∧ ∀ j ∈ r, E.testBit j = true → qf j ≠ some q)
    (hP : ∃ (d : Option Q) (g : Option (Q × Bool)) (b : OB), compO P n ops o = .mk d g b ∧ CO.mk d g b ≠ badCO ∧ ((gpass g tm = some false ∧ v = V.undef) ∨ (gpass g tm = some true ∧
      ((∃ pb, b = .p pb ∧ pK pb tm h' .ok = .ok v) ∨ (∃ ab ob mk q, b = .a ab ∧ AE ab tm ob mk ∧ qf' i = some q ∧ ρ q = none ∧ h'.ob q = ob ∧ β ≤ q.nat ∧ q.nat < nx'.nat ∧ v = mk q)))))
    (hpk : ∀ j ∈ r, E.testBit j = true → ∀ pb tm0 v', pK pb tm0 h .ok = .ok v' → (∃ p, ops[j]? = some p ∧ compOp P p = .p pb) → pK pb tm0 h' .ok = .ok v') :
    LZ P n ops ρ h' β nx' (putV tm o.dst v) tmps pl (E ||| 2 ^ i) r qf' := by
  obtain ⟨f, hf, hEi, hsub, _, hck⟩ := ck_run L.ck
  have hsz : i < ops.size := (Array.getElem?_eq_some_iff.1 ho).1
  have hfi := L.sc.inf ho
  rw [hf] at hfi
  have hff := Option.some.inj hfi
  have hbf : ∀ p, (bfOf ops i).testBit p = true → E.testBit p = true := fun p hp => sub_ok hsub p (by rw [hff]; exact hp)
  have hir : i ∈ r := by
    by_cases hir : i ∈ r
    · exact hir
    · have := L.sub i hsz hir; rw [hEi] at this; cases this
  have hnr : ∀ j p t, j ∈ r → E.testBit j = true → ops[j]? = some p → (rdsOf ops p).testBit t = true → o.dst ≠ some t := fun j p t hj hEj hp hrd hd => by
    obtain ⟨hne, h1⟩ := L.sc.reads ho hp hd hrd (fun e => by subst e; rw [hEi] at hEj; cases hEj)
    rcases h1 with h1 | ⟨h1, _⟩
    · have := L.ecl j (L.lt j hj) hEj i h1
      rw [hEi] at this; cases this
    · rw [hw] at h1; cases h1
  refine ⟨L.sc, L.size, hck, L.ord, L.nd, L.lt, L.cl, fun j hj hjr => bit_or_of (L.sub j hj hjr), fun j hj hEj p hp => ?_, fun a ha b hb hEa hEb q hqa hqb => ?_, fun a ha hEa q hqa => ?_, fun j hj hEj p hp => ?_, fun t ht => ?_⟩
  · rcases bit_or.1 hEj with hEj | rfl
    · exact bit_or_of (L.ecl j hj hEj p hp)
    · exact bit_or_of (hbf p hp)
  · by_cases hai : a = i
    · subst hai
      by_cases hbi : b = a
      · exact hbi.symm
      · have hEb' := (bit_or.1 hEb).resolve_right hbi
        rw [hqf b hbi] at hqb
        exact absurd hqb ((hinj q hqa).2 b hb hEb')
    · have hEa' := (bit_or.1 hEa).resolve_right hai
      rw [hqf a hai] at hqa
      by_cases hbi : b = i
      · subst hbi
        exact absurd hqa ((hinj q hqb).2 a ha hEa')
      · have hEb' := (bit_or.1 hEb).resolve_right hbi
        rw [hqf b hbi] at hqb
        exact L.inj a ha b hb hEa' hEb' q hqa hqb
  · by_cases hai : a = i
    · subst hai; exact (hinj q hqa).1
    · rw [hqf a hai] at hqa
      exact Nat.lt_of_lt_of_le (L.ql a ha ((bit_or.1 hEa).resolve_right hai) q hqa) hnx
  · by_cases hji : j = i
    · subst hji
      rw [ho] at hp; cases hp
      obtain ⟨d, g, b, p2, p3, p5⟩ := hP
      refine ⟨hw, d, g, b, p2, p3, tm, fun t ht => ?_, ?_⟩
      · rw [putV_at, if_neg (fun hd => ?_)]
        have := (L.sc.reads ho ho hd ht (fun _ => hw)).1
        exact this rfl
      · rcases p5 with ⟨a1, a2⟩ | ⟨a1, a2⟩
        · exact .inl ⟨a1, fun x hx => by rw [putV_at, if_pos hx]; exact a2⟩
        · refine .inr ⟨a1, ?_⟩
          rcases a2 with ⟨pb, rfl, a3⟩ | ⟨ab, ob, mk, q, rfl, a3, as, a4, a5, a6, a7, a8⟩
          · exact .inl ⟨pb, v, rfl, fun x hx => by rw [putV_at, if_pos hx], .inr a3⟩
          · exact .inr ⟨ab, ob, mk, q, rfl, a3, as, a4, a5, a6, a7, fun x hx => by rw [putV_at, if_pos hx]; exact a8⟩
    · have hEj' := (bit_or.1 hEj).resolve_right hji
      obtain ⟨p1, d, g, b, p2, p3, tm0, p4, p5⟩ := L.pend j hj hEj' p hp
      have hdst : ∀ x, p.dst = some x → (putV tm o.dst v).at x = tm.at x := fun x hx => by
        rw [putV_at, if_neg (fun hd => L.sc.dsts ho hp hd hji hx)]
      refine ⟨p1, d, g, b, p2, p3, tm0, fun t ht => ?_, ?_⟩
      · rw [p4 t ht, putV_at, if_neg (hnr j p t hj hEj' hp ht)]
      · rcases p5 with ⟨a1, a2⟩ | ⟨a1, a2⟩
        · exact .inl ⟨a1, fun x hx => by rw [hdst x hx]; exact a2 x hx⟩
        · refine .inr ⟨a1, ?_⟩
          rcases a2 with ⟨pb, v', rfl, a3, a4⟩ | ⟨ab, ob, mk, q, rfl, a3, as, a4, a5, a6, a7, a8⟩
          · refine .inl ⟨pb, v', rfl, fun x hx => by rw [hdst x hx]; exact a3 x hx, ?_⟩
            rcases a4 with ⟨a4, a5⟩ | a4
            · exact absurd a5 (by simp [chkHas])
            · exact .inr (hpk j hj hEj' pb tm0 v' a4 ⟨p, hp, ((compO_ok p2 p3).1).symm⟩)
          · rw [← hqf j hji] at as
            exact .inr ⟨ab, ob, mk, q, rfl, a3, as, a4, by rw [hh _ a7]; exact a5, a6, Nat.lt_of_lt_of_le a7 hnx, fun x hx => by rw [hdst x hx]; exact a8 x hx⟩
  · have hti : o.dst ≠ some t := ht i hir (bit_or.2 (.inr rfl)) o ho
    rw [putV_at, if_neg hti]
    exact L.vals t fun j hj hEj p hp => ht j hj (bit_or_of hEj) p hp
theorem LZ.sync {i : Nat} {o : Oper} {u : Value} (L : LZ P n ops ρ h β nx tm tmps (.run i :: pl) E (i :: r) qf) (ho : ops[i]? = some o) (hw : wOf P o = true) {v : V} (hx : ∀ x, o.dst = some x → x < n) (hnx : nx.nat ≤ nx'.nat) (hK : Keep nx.nat ρ h ρ' h') (hv : VR ρ' v u) :
    LZ P n ops ρ' h' β nx' (putV tm o.dst v) (putT tmps o.dst u) pl (E ||| 2 ^ i) r qf := by
  obtain ⟨f, hf, hEi, hsub, hwok, hck⟩ := ck_run L.ck
  have hfi := L.sc.inf ho
  rw [hf] at hfi
  have hff := Option.some.inj hfi
  have hbf : ∀ p, (bfOf ops i).testBit p = true → E.testBit p = true := fun p hp => sub_ok hsub p (by rw [hff]; exact hp)
  have hwk := wOk_ok (hwok (by rw [hff]; exact hw))
  obtain ⟨g1, g2⟩ := L.ord_tail
  have hne : ∀ j ∈ r, j ≠ i := fun j hj e => by subst e; exact (List.nodup_cons.1 L.nd).1 hj
  have hbefore : ∀ j ∈ r, (bfOf ops i).testBit j = true → False := fun j hj hb => L.before hb (by simp [hj])
  have hnr : ∀ j p t, j ∈ r → E.testBit j = true → ops[j]? = some p → (rdsOf ops p).testBit t = true → o.dst ≠ some t := fun j p t hj hEj hp hrd hd => by
    obtain ⟨_, h1⟩ := L.sc.reads ho hp hd hrd (fun e => absurd e (hne j hj))
    rcases h1 with h1 | ⟨_, h1⟩
    · have := L.ecl j (L.lt j (by simp [hj])) hEj i h1
      rw [hEi] at this; cases this
    · exact hbefore j hj h1
  refine ⟨L.sc, by rw [putT_size]; exact L.size, hck, g1, (List.nodup_cons.1 L.nd).2, fun j hj => L.lt j (by simp [hj]), g2, fun j hj hjr => ?_, fun j hj hEj p hp => ?_, fun a ha b hb hEa hEb => L.inj a (by simp [ha]) b (by simp [hb]) ((bit_or.1 hEa).resolve_right (hne a ha)) ((bit_or.1 hEb).resolve_right (hne b hb)), fun a ha hEa q hqa => Nat.lt_of_lt_of_le (L.ql a (by simp [ha]) ((bit_or.1 hEa).resolve_right (hne a ha)) q hqa) hnx, fun j hj hEj p hp => ?_, fun t ht => ?_⟩
  · by_cases hji : j = i
    · exact bit_or.2 (.inr hji)
    · exact bit_or_of (L.sub j hj (by simp [hji, hjr]))
  · rcases bit_or.1 hEj with hEj | rfl
    · exact bit_or_of (L.ecl j hj hEj p hp)
    · exact bit_or_of (hbf p hp)
  · have hEj' := (bit_or.1 hEj).resolve_right (hne j hj)
    obtain ⟨p1, d, g, b, p2, p3, tm0, p4, p5⟩ := L.pend j (by simp [hj]) hEj' p hp
    have hdst : ∀ x, p.dst = some x → (putV tm o.dst v).at x = tm.at x := fun x hx => by
      rw [putV_at, if_neg (fun hd => L.sc.dsts ho hp hd (hne j hj) hx)]
    refine ⟨p1, d, g, b, p2, p3, tm0, fun t ht => ?_, ?_⟩
    · rw [p4 t ht, putV_at, if_neg (hnr j p t hj hEj' hp ht)]
    · rcases p5 with ⟨a1, a2⟩ | ⟨a1, a2⟩
      · exact .inl ⟨a1, fun x hx => by rw [hdst x hx]; exact a2 x hx⟩
      · refine .inr ⟨a1, ?_⟩
        rcases a2 with ⟨pb, v', rfl, a3, a4⟩ | ⟨ab, ob, mk, q, rfl, a3, as, a4, a5, a6, a7, a8⟩
        · refine .inl ⟨pb, v', rfl, fun x hx => by rw [hdst x hx]; exact a3 x hx, ?_⟩
          have a4 := a4.resolve_left (fun h => by simp [chkHas] at h)
          cases hr : isR pb with
          | false => exact .inr (by rw [← a4]; exact pK_heap hr _ _)
          | true =>
            left
            refine ⟨rfl, ?_⟩
            have hfj := L.sc.inf hp
            have h2 := (hwk j _ hfj (by rw [Nat.zero_add]; exact hne j hj)).2
            simp only [Nat.zero_add] at h2
            have hro : isRO (compOp P p) = true := by rw [← (compO_ok p2 p3).1]; exact hr
            rcases h2 hEj' hro with h3 | h3
            · rw [hff] at h3; exact (hbefore j hj h3).elim
            · exact h3
        · obtain ⟨k1, k2⟩ := hK.pend q a7 a4
          exact .inr ⟨ab, ob, mk, q, rfl, a3, as, k1, by rw [k2]; exact a5, a6, Nat.lt_of_lt_of_le a7 hnx, fun x hx => by rw [hdst x hx]; exact a8 x hx⟩
  · rw [putV_at, putT_get (fun x hd => Nat.lt_of_lt_of_le (hx x hd) L.size)]
    split
    · exact hv
    · rename_i hd
      refine (L.vals t fun j hj hEj p hp => ?_).mono hK.le
      rcases List.mem_cons.1 hj with rfl | hj
      · rw [hEi] at hEj; cases hEj
      · exact ht j hj (bit_or_of hEj) p hp
theorem LZ.ahead {i : Nat} {o : Oper} (L : LZ P n ops ρ h β nx tm tmps (.run i :: pl) E r qf) (ho : ops[i]? = some o) (hw : wOf P o = true) : ∃ r1 r2, r = r1 ++ i :: r2 ∧ ∀ j ∈ r1, E.testBit j = true ∧ chkHas j (.run i :: pl) = false := by
  obtain ⟨f, hf, hEi, hsub, hwok, hck⟩ := ck_run L.ck
  have hfi := L.sc.inf ho
  rw [hf] at hfi
  have hff := Option.some.inj hfi
  have hwk := wOk_ok (hwok (by rw [hff]; exact hw))
  have hsz : i < ops.size := (Array.getElem?_eq_some_iff.1 ho).1
  have main : ∀ (r : List Nat) (D : Nat → Prop), Ordr ops D r → Closed ops D → ¬ D i → (∀ j, j < ops.size → D j → E.testBit j = true) → ∃ r1 r2, r = r1 ++ i :: r2 ∧ ∀ j ∈ r1, E.testBit j = true := by
    intro r
    induction r with
    | nil =>
      intro D hO _ hD _
      cases hO with | nil h => exact absurd (h i hsz) hD
    | cons k r ih =>
      intro D hO hC hD hE
      cases hO with
      | cons hk hn he hr =>
      by_cases hki : k = i
      · subst hki; exact ⟨[], r, rfl, by simp⟩
      · have hEk : E.testBit k = true := by
          cases hb : E.testBit k with
          | true => rfl
          | false =>
            obtain ⟨p, hp⟩ : ∃ p, ops[k]? = some p := ⟨ops[k], by simp [hk]⟩
            have h2 := (hwk k _ (L.sc.inf hp) (by rw [Nat.zero_add]; exact hki)).1
            simp only [Nat.zero_add] at h2
            exact absurd (before_in L.sc.edge hC (k + 1) k (by omega) he i (h2 hb)) hD
        obtain ⟨r1, r2, h1, h2⟩ := ih _ hr (fun j o hj ho' e he' hb' => by
          rcases hj with hj | rfl
          · exact .inl (hC j o hj ho' e he' hb')
          · exact .inl (he o ho' e he' hb')) (fun h => h.elim hD (fun e => hki e.symm)) (fun j hj hDj => by
          rcases hDj with hDj | rfl
          · exact hE j hj hDj
          · exact hEk)
        exact ⟨k :: r1, r2, by rw [h1]; rfl, fun j hj => by
          rcases List.mem_cons.1 hj with rfl | hj
          · exact hEk
          · exact h2 j hj⟩
  obtain ⟨r1, r2, h1, h2⟩ := main r _ L.ord L.cl (fun hD => by
    have := L.sub i hD.1 hD.2; rw [hEi] at this; cases this) (fun j hj hD => L.sub j hj hD.2)
  exact ⟨r1, r2, h1, fun j hj => ⟨h2 j hj, rfl⟩⟩
theorem LZ.atEnd (L : LZ P n ops ρ h β nx tm tmps [] E r qf) : ∀ i ∈ r, E.testBit i = true ∧ chkHas i [] = false := fun i hi => by
  have h1 := Nat.eq_of_beq_eq_true L.ck
  refine ⟨?_, rfl⟩
  rw [h1, L.sc.len, Nat.testBit_two_pow_sub_one]
  simpa using L.lt i hi
theorem LZ.done (L : LZ P n ops ρ h β nx tm tmps pl E [] qf) : TR ρ n tm tmps := ⟨L.size, fun t => L.vals t fun i hi => by cases hi⟩
theorem LZ.start {tm : T V} (hT : TR ρ n tm tmps) (hS : SC P ops) (hck : planCk (infs P ops) pl 0 = true) (hr : Ordr ops (fun _ => False) r) (hnd : r.Nodup) (hlt : ∀ i ∈ r, i < ops.size) (hall : ∀ i, i < ops.size → i ∈ r) (qf : Nat → Option Q) : LZ P n ops ρ h β nx tm tmps pl 0 r qf := by
  have hD : ∀ i, False ↔ (i < ops.size ∧ i ∉ r) := fun i => ⟨fun h => h.elim, fun h => h.2 (hall i h.1)⟩
  refine ⟨hS, hT.size, hck, hr.congr hD, hnd, hlt, fun j o hj => absurd (hall j hj.1) hj.2, fun i hi hir => absurd (hall i hi) hir, fun i _ h => by simp at h, fun i _ j _ h => by simp at h, fun i _ h => by simp at h, fun i _ h => by simp at h, fun t _ => hT.rel t⟩
end Go.CM
end
noncomputable section
namespace Go.CM
variable {P : Program} {w0 w : World} {ρ ρ' : Rho} {h h' : T O} {nx nx' : Q} {tm : T V} {tmps : Array Value} {v : V} {ops : Array Oper} {n β : Nat}
inductive DsR (P : Program) (ρ : Rho) : List Df → List Deferred → Prop where
  | nil : DsR P ρ [] []
  | call (g : Nat) (cs : List V) (av cv : List Value) (ds : List Df) (dds : List Deferred) (hv : VRs ρ cs (av ++ cv)) (hr : DsR P ρ ds dds) : DsR P ρ (.call (qn g) cs :: ds) ({ target := .fn (.func g) ⟨cv⟩, args := ⟨av⟩ } :: dds)
  | coll (q : Q) (b N : Nat) (ds : List Df) (dds : List Deferred) (hq : ρ q = some (b, N)) (hr : DsR P ρ ds dds) : DsR P ρ (.coll q :: ds) ({ target := .collected b, args := #[] } :: dds)
  | del (s : KK) (m key : V) (ts : Array TypeId) (ty : TypeId) (cs : Array Bool) (t el : TypeId) (um uk : Value) (ds : List Df) (dds : List Deferred) (ht : ts[0]? = some t) (hm : mapT P t = some (s, el)) (hv : VR ρ m um) (hk : VR ρ key uk) (hr : DsR P ρ ds dds) :
      DsR P ρ (.del s m key :: ds) ({ target := .builtin .delete ts ty cs, args := #[um, uk] } :: dds)
theorem DsR.mono {ds : List Df} {dds : List Deferred} (hp : ρ.le ρ') (h : DsR P ρ ds dds) : DsR P ρ' ds dds := by
  induction h with
  | nil => exact .nil
  | call g cs av cv ds dds hv hr ih => exact .call g cs av cv ds dds (hv.mono hp) ih
  | coll q b N ds dds hq hr ih => exact .coll q b N ds dds (hp _ _ hq) ih
  | del s m key ts ty cs t el um uk ds dds ht hm hv hk hr ih => exact .del s m key ts ty cs t el um uk ds dds ht hm (hv.mono hp) (hk.mono hp) ih
inductive KS (P : Program) (n : Nat) : K → List Item → Prop where
  | nil : KS P n .nil []
  | code (c : Code) (k : K) (ks : List Item) (h : KS P n k ks) : KS P n (.code (compC P n c) k) (.code c :: ks)
  | blk (id : Nat) (k : K) (ks : List Item) (h : KS P n k ks) : KS P n (.blk id k) (.inBlock id :: ks)
  | lp (c : Code) (k : K) (ks : List Item) (h : KS P n k ks) : KS P n (.lp (compC P n c) k) (.inLoop c :: ks)
  | sc (c : Code) (k : K) (ks : List Item) (h : KS P n k ks) : KS P n (.sc k) (.inScope c :: ks)
  | begin (k : K) (ks : List Item) (h : KS P n k ks) : KS P n (.begin k) (.beginRound :: ks)
def RDR (ρ : Rho) : Option Q → Option Nat → Prop
  | none, none => True
  | some l, some b => ∃ N, ρ l = some (b, N)
  | _, _ => False
theorem RDR.mono {rd : Option Q} {ro : Option Nat} (hp : ρ.le ρ') (h : RDR ρ rd ro) : RDR ρ' rd ro := by
  cases rd <;> cases ro <;> first | exact h | exact ⟨_, hp _ _ h.choose_spec⟩
structure FB (P : Program) (ρ : Rho) (f : Q) (dk : Bool) (rd : Option Q) (b : Frame) : Prop where
  fn : b.fn = f.nat
  kind : b.kind = if dk then .deferred else .normal
  ro : RDR ρ rd b.roundOf
  rk : rd ≠ none → dk = false
theorem FB.mono {f : Q} {dk : Bool} {rd : Option Q} {b : Frame} (hp : ρ.le ρ') (h : FB P ρ f dk rd b) : FB P ρ' f dk rd b := ⟨h.fn, h.kind, h.ro.mono hp, h.rk⟩
inductive Cur (P : Program) (ρ : Rho) (h : T O) (β : Nat) (nx : Q) (n : Nat) (tm : T V) : K → (Array Value → List Deferred → Frame → Frame → Prop) → Prop where
  | plain (k : K) (ks : List Item) (hk : KS P n k ks) : Cur P ρ h β nx n tm k (fun tmps dds b fr => TR ρ n tm tmps ∧ fr = b.atR ⟨tmps, dds⟩ ks)
  | sync (ops : Array Oper) (i : Nat) (k : K) (ks : List Item) (hi : i ≤ ops.size) (hk : KS P n k ks) : Cur P ρ h β nx n tm (.reg ((ops.toList.drop i).map fun o => .op (compO P n ops o)) k) (fun tmps dds b fr => TR ρ n tm tmps ∧ fr = b.atR ⟨tmps, dds⟩ (.inRegion ops (List.range' i (ops.size - i)) :: ks))
  | drawn (ops : Array Oper) (pl : List Pl) (E : Nat) (r : List Nat) (qf : Nat → Option Q) (k : K) (ks : List Item) (hk : KS P n k ks) : Cur P ρ h β nx n tm (.reg (pl.map (psOf P n ops)) k) (fun tmps dds b fr => LZ P n ops ρ h β nx tm tmps pl E r qf ∧ fr = b.atR ⟨tmps, dds⟩ (.inRegion ops r :: ks))
  | erf (l : Q) (bl N : Nat) (k : K) (ks : List Item) (hl : ρ l = some (bl, N)) (hk : KS P n k ks) : Cur P ρ h β nx n tm (.erf l k) (fun tmps dds b fr => TR ρ n tm tmps ∧ fr = b.atR ⟨tmps, dds⟩ (.endRangeFunc bl :: ks))
  | bad (l : List PS) (k : K) : Cur P ρ h β nx n tm (.reg (.op badCO :: l) k) (fun _ _ _ _ => True)
  | rtn (ks : List Item) : Cur P ρ h β nx n tm .rtn (fun tmps dds b fr => TR ρ n tm tmps ∧ fr = { b.atR ⟨tmps, dds⟩ ks with mode := .returning })
structure FR (P : Program) (ρ : Rho) (h : T O) (β : Nat) (nx : Q) (f : Q) (dk : Bool) (rd : Option Q) (ds : List Df) (tm : T V) (k : K) (fr : Frame) : Prop where
  le : β ≤ nx.nat
  rel : ∃ b dds tmps C, FB P ρ f dk rd b ∧ DsR P ρ ds dds ∧ (rd ≠ none → ds = []) ∧ Cur P ρ h β nx (nt P f.nat) tm k C ∧ C tmps dds b fr
inductive Wt (P : Program) (ρ : Rho) (h : T O) (β : Nat) (nx : Q) (n : Nat) (tm : T V) : K → (Array Value → List Deferred → Frame → Frame → Prop) → Prop where
  | sync (ops : Array Oper) (i : Nat) (o : Oper) (d : Option Q) (g : Option (Q × Bool)) (ob : OB) (k : K) (ks : List Item) (ho : ops[i]? = some o) (hc : compO P n ops o = .mk d g ob) (hw : isW ob = true) (hk : KS P n k ks) :
      Wt P ρ h β nx n tm (.reg (.op (.mk d g ob) :: (ops.toList.drop (i + 1)).map fun o => .op (compO P n ops o)) k) (fun tmps dds b fr => TR ρ n tm tmps ∧ fr = b.atR ⟨tmps, dds⟩ (.inRegion ops (i :: List.range' (i + 1) (ops.size - (i + 1))) :: ks))
  | drawn (ops : Array Oper) (i : Nat) (o : Oper) (d : Option Q) (g : Option (Q × Bool)) (ob : OB) (pl : List Pl) (E : Nat) (r : List Nat) (qf : Nat → Option Q) (k : K) (ks : List Item) (ho : ops[i]? = some o) (hc : compO P n ops o = .mk d g ob) (hw : isW ob = true) (hk : KS P n k ks) :
      Wt P ρ h β nx n tm (.reg (.op (.mk d g ob) :: pl.map (psOf P n ops)) k) (fun tmps dds b fr => LZ P n ops ρ h β nx tm tmps (.run i :: pl) E (i :: r) qf ∧ fr = b.atR ⟨tmps, dds⟩ (.inRegion ops (i :: r) :: ks))
  | inrf (l : Q) (bl N : Nat) (k : K) (ks : List Item) (hl : ρ l = some (bl, N)) (hk : KS P n k ks) : Wt P ρ h β nx n tm (.inrf l k) (fun tmps dds b fr => TR ρ n tm tmps ∧ fr = b.atR ⟨tmps, dds⟩ (.inRangeFunc bl :: ks))
  | rtn (ks : List Item) : Wt P ρ h β nx n tm .rtn (fun tmps dds b fr => TR ρ n tm tmps ∧ fr = { b.atR ⟨tmps, dds⟩ ks with mode := .returning })
structure WR (P : Program) (ρ : Rho) (h : T O) (β : Nat) (nx : Q) (f : Q) (dk : Bool) (rd : Option Q) (ds : List Df) (tm : T V) (k : K) (fr : Frame) : Prop where
  le : β ≤ nx.nat
  rel : ∃ b dds tmps C, FB P ρ f dk rd b ∧ DsR P ρ ds dds ∧ (rd ≠ none → ds = []) ∧ Wt P ρ h β nx (nt P f.nat) tm k C ∧ C tmps dds b fr
inductive StkR (P : Program) : Rho → T O → List Fr → List Frame → Nat → Prop where
  | nil (ρ : Rho) (h : T O) (β : Nat) : StkR P ρ h [] [] β
  | cons (ρ ρ' : Rho) (h h' : T O) (f : Q) (dk : Bool) (rd : Option Q) (ds : List Df) (tm : T V) (k : K) (cs : List Fr) (fr : Frame) (frs : List Frame) (β β' : Nat) (nx : Q) (hf : WR P ρ h β nx f dk rd ds tm k fr) (hn : nx.nat ≤ β') (hK : Keep nx.nat ρ h ρ' h') (hs : StkR P ρ' h' cs frs β) :
      StkR P ρ' h' (.mk f dk rd ds tm k :: cs) (fr :: frs) β'
theorem StkR.mono {cs : List Fr} {frs : List Frame} (hs : StkR P ρ h cs frs β) (hK : Keep β ρ h ρ' h') : StkR P ρ' h' cs frs β := by
  induction hs generalizing ρ' h' with
  | nil => exact .nil _ _ _
  | cons ρ ρ1 h h1 f dk rd ds tm k cs fr frs β β' nx hf hn hK1 hs ih =>
    exact .cons ρ ρ' h h' f dk rd ds tm k cs fr frs β β' nx hf hn (hK1.trans (hK.down hn)) (ih (hK.down (Nat.le_trans hf.le hn)))
theorem StkR.up {cs : List Fr} {frs : List Frame} {β' : Nat} (hs : StkR P ρ h cs frs β) (hle : β ≤ β') : StkR P ρ h cs frs β' := by
  cases hs with
  | nil => exact .nil _ _ _
  | cons ρ ρ1 h h1 f dk rd ds tm k cs fr frs β β' nx hf hn hK1 hs => exact .cons _ _ _ _ _ _ _ _ _ _ _ _ _ _ _ _ hf (Nat.le_trans hn hle) hK1 hs
def Final (P : Program) (w0 : World) (m : Machine) (c0 : Frame) (cs0 : List Frame) (v : V) : Prop :=
  ∃ w' ρ' h' nx' u, Steps P m (lone (c0.finish u) cs0 w') ∧ HR P w0 ρ' h' nx' w' ∧ VR ρ' v u
def Good (P : Program) (ih : Run) : Prop := ∀ (w0 w : World) (ρ : Rho) (β : Nat) (f : Q) (dk : Bool) (rd : Option Q) (ds : List Df) (tm : T V) (k : K) (cs : List Fr) (h : T O) (nx : Q) (v : V) (fr : Frame) (frs : List Frame) (c0 : Frame) (cs0 : List Frame),
  ih f dk rd ds tm k cs h nx = .ok v → HR P w0 ρ h nx w → FR P ρ h β nx f dk rd ds tm k fr → StkR P ρ h cs frs β → Final P w0 (lone fr (frs ++ c0 :: cs0) w) c0 cs0 v
theorem Final.steps {m m' : Machine} {c0 : Frame} {cs0 : List Frame} (hs : Steps P m m') (h : Final P w0 m' c0 cs0 v) : Final P w0 m c0 cs0 v := by
  obtain ⟨w', ρ', h', nx', u, s, a, b⟩ := h
  exact ⟨w', ρ', h', nx', u, hs.trans s, a, b⟩
end Go.CM
end
noncomputable section
namespace Go.CM
variable {P : Program} {w0 w : World} {ρ ρ' : Rho} {h h' : T O} {nx nx' : Q} {tm : T V} {tmps : Array Value} {v : V} {ops : Array Oper} {n β : Nat} {f : Q} {dk : Bool} {rd : Option Q} {ds : List Df} {k : K} {cs : List Fr} {fr b : Frame} {frs : List Frame} {c0 : Frame} {cs0 : List Frame} {ih : Run}
theorem stepR_scope {a : Act} {k : List Item} {cs : List Frame} {c : Code} : step P (lone (b.atR a (.code (.scope c) :: k)) cs w) = .next (lone (b.atR a (.code c :: .inScope c :: k)) cs w) :=
  step_lone_go (by simp [stepG, stepG.exec, Frame.atR])
theorem stepR_inScope {a : Act} {k : List Item} {cs : List Frame} {c : Code} : step P (lone (b.atR a (.inScope c :: k)) cs w) = .next (lone (b.atR a k) cs w) :=
  step_lone_go (by simp [stepG, stepG.exec, Frame.atR])
structure Ctx (P : Program) (w0 w : World) (ρ : Rho) (h : T O) (β : Nat) (nx : Q) (f : Q) (dk : Bool) (rd : Option Q) (ds : List Df) (cs : List Fr) (frs : List Frame) (b : Frame) (dds : List Deferred) : Prop where
  H : HR P w0 ρ h nx w
  le : β ≤ nx.nat
  B : FB P ρ f dk rd b
  D : DsR P ρ ds dds
  rn : rd ≠ none → ds = []
  S : StkR P ρ h cs frs β
theorem Ctx.go {dds : List Deferred} (C : Ctx P w0 w ρ h β nx f dk rd ds cs frs b dds) (G : Good P ih) {X : Array Value → List Deferred → Frame → Frame → Prop} (hc : Cur P ρ h β nx (nt P f.nat) tm k X) (hx : X tmps dds b fr) (e : ih f dk rd ds tm k cs h nx = .ok v) : Final P w0 (lone fr (frs ++ c0 :: cs0) w) c0 cs0 v :=
  G w0 w ρ β f dk rd ds tm k cs h nx v fr frs c0 cs0 e C.H ⟨C.le, b, dds, tmps, X, C.B, C.D, C.rn, hc, hx⟩ C.S
theorem Ctx.plain {dds : List Deferred} (C : Ctx P w0 w ρ h β nx f dk rd ds cs frs b dds) (G : Good P ih) {ks : List Item} (hk : KS P (nt P f.nat) k ks) (hT : TR ρ (nt P f.nat) tm tmps) (e : ih f dk rd ds tm k cs h nx = .ok v) : Final P w0 (lone (b.atR ⟨tmps, dds⟩ ks) (frs ++ c0 :: cs0) w) c0 cs0 v :=
  C.go G (.plain k ks hk) ⟨hT, rfl⟩ e
theorem exitK_ok {id : Nat} {kf : K → Res} {kn : Res} : ∀ {k : K} {ks : List Item}, KS P n k ks → exitK id k kf kn = .ok v → (∃ k' ks', kf k' = .ok v ∧ exitTo id ks = some ks' ∧ KS P n k' ks') ∨ (kn = .ok v ∧ exitTo id ks = none) := by
  intro k ks hk e
  induction hk with
  | nil => exact .inr ⟨e, rfl⟩
  | code c k ks hk ih => simp only [exitK] at e; exact ih e
  | blk id' k ks hk ih =>
    simp only [exitK] at e
    split at e
    · rename_i hb
      have hb := Nat.eq_of_beq_eq_true hb
      exact .inl ⟨_, ks, e, by simp [exitTo, hb], hk⟩
    · rename_i hb
      have hne : ¬ id' = id := fun h => by rw [h, Nat.beq_refl] at hb; cases hb
      rcases ih e with ⟨k', ks', h1, h2, h3⟩ | ⟨h1, h2⟩
      · exact .inl ⟨k', ks', h1, by simp [exitTo, hne, h2], h3⟩
      · exact .inr ⟨h1, by simp [exitTo, hne, h2]⟩
  | lp c k ks hk ih => simp only [exitK] at e; exact ih e
  | sc c k ks hk ih => simp only [exitK] at e; exact ih e
  | begin k ks hk ih => simp only [exitK] at e; exact ih e
theorem HR.loop (H : HR P w0 ρ h nx w) {l : Q} {bl N : Nat} {lp : Lp} (hl : ρ l = some (bl, N)) (hob : h.ob l = .loop lp) : ∃ r, w.heap[bl]? = some (.loop r) ∧ LR P ρ lp r ∧ w0.heap.size ≤ bl ∧ bl < w.heap.size := by
  have := H.obj l bl N hl
  rw [hob] at this
  cases this with | loop _ r _ _ hb hw hlr => exact ⟨r, hw, hlr, hb, (Array.getElem?_eq_some_iff.1 hw).1⟩
theorem HR.setLoop (H : HR P w0 ρ h nx w) {l : Q} {bl N : Nat} {lp lp' : Lp} {r' : Loop} (hl : ρ l = some (bl, N)) (hob : h.ob l = .loop lp) (hB : w0.heap.size ≤ bl) (hlt : bl < w.heap.size) (hr : LR P ρ lp' r') :
    HR P w0 ρ (h.put .dead (.loop lp') l) nx (w.putObj bl (.loop r')) ∧ Keep nx.nat ρ h ρ (h.put .dead (.loop lp') l) :=
  H.putMap hl hob rfl (fun _ _ _ _ _ _ e => by cases e) rfl (fun _ _ _ _ _ _ e => by cases e) hB (.loop _ _ _ _ hB (World.putObj_heap_same hlt) hr)
theorem run_getLoop {bl : Nat} {r : Loop} (hw : w.heap[bl]? = some (.loop r)) : (Instr.getLoop bl).run P w = .ok r w := by
  simp [Instr.getLoop, AM.run_getObj (P := P) hw (by simp)]
theorem endK_ok {l : Q} {dds : List Deferred} (C : Ctx P w0 w ρ h β nx f dk rd ds cs frs b dds) (hrd : rd = some l) {j : Jump} {jc : Option Code} (hj : JR j jc) {bb : Bool} (hbb : bb = jc.isNone) {a : Act} {todo : List Item}
    (hstep : ∀ {bl : Nat} {u : Value} {w' : World} {c : Frame} {cs : List Frame}, b.roundOf = some bl → b.kind = .normal → (Instr.endRound bl jc).run P w = .ok u w' → step P (lone (b.atR a todo) (c :: cs) w) = .next (lone (c.finish u) cs w'))
    (hfin : ∀ {c : Fr} {cs' : List Fr} {fr' : Frame} {frs' : List Frame} {w' : World} {h' : T O} {u : Value} {x : V}, cs = c :: cs' → frs = fr' :: frs' → HR P w0 ρ h' nx w' → Keep nx.nat ρ h ρ h' → VR ρ x u → finK ih c cs' x h' nx = .ok v → Final P w0 (lone (fr'.finish u) (frs' ++ c0 :: cs0) w') c0 cs0 v)
    (e : endK ih l j bb cs h nx = .ok v) : Final P w0 (lone (b.atR a todo) (frs ++ c0 :: cs0) w) c0 cs0 v := by
  unfold endK at e
  rw [gO_eq] at e
  obtain ⟨st, pend, fn, tm', ps, asg, body, dfs, hob, e1⟩ := loopO_ok e
  rw [pO_eq] at e1
  have hro := C.B.ro
  rw [hrd] at hro
  cases hbr : b.roundOf with
  | none => rw [hbr] at hro; exact hro.elim
  | some bl =>
    rw [hbr] at hro
    obtain ⟨N, hl⟩ := hro
    obtain ⟨r, hw, hlr, hB, hlt⟩ := C.H.loop hl hob
    have hkind : b.kind = .normal := by rw [C.B.kind, C.B.rk (by rw [hrd]; simp)]; rfl
    cases hlr with
    | mk _ _ fn' _ _ _ N' h1 h2 h3 h4 h5 h6 =>
    have hlr' : LR P ρ (.mk (match (generalizing := false) bb with | true => 0 | false => 2) j (qn fn') tm' (r.params.toList.map qn) (compC P (nt P fn') r.assign) (compC P (nt P fn') r.body) dfs) { r with state := if jc.isNone then .ready else .done, pending := jc } := by
      refine LR.mk (P := P) (ρ := ρ) _ j fn' tm' dfs { r with state := if jc.isNone then .ready else .done, pending := jc } N' ?_ hj h3 h4 h5 h6
      subst hbb
      cases jc <;> first | exact .ready | exact .done
    obtain ⟨f1, f2⟩ := C.H.setLoop hl hob hB hlt hlr'
    have hrun : (Instr.endRound bl jc).run P w = .ok (.bool jc.isNone) (w.putObj bl (.loop { r with state := if jc.isNone then .ready else .done, pending := jc })) := by
      simp [Instr.endRound, run_getLoop hw, AM.run_setObj (P := P) hw (by simp)]
    have hst := C.S
    split at e1
    · cases e1
    · rename_i c cs'
      cases hst with
      | cons ρ0 _ h0 _ f' dk' rd' ds' tm2 k' _ fr' frs' β0 _ nx0 hf hn hK hs =>
      refine Final.steps (Steps.one (hstep hbr hkind hrun)) ?_
      exact hfin (x := .bool bb) rfl rfl f1 f2 (by rw [hbb]; exact .bool _) e1
end Go.CM
end
noncomputable section
namespace Go.CM
variable {P : Program} {w0 w : World} {ρ ρ' : Rho} {h h' : T O} {nx nx' : Q} {tm : T V} {tmps : Array Value} {v : V} {ops : Array Oper} {n β : Nat} {f : Q} {dk : Bool} {rd : Option Q} {ds : List Df} {k : K} {cs : List Fr} {fr b : Frame} {frs : List Frame} {c0 : Frame} {cs0 : List Frame} {ih : Run}
theorem TR.put {x : V} {u : Value} {d : Option Nat} (hT : TR ρ n tm tmps) (hd : ∀ y, d = some y → y < n) (hv : VR ρ x u) : TR ρ n (putV tm d x) (putT tmps d u) := by
  refine ⟨by rw [putT_size]; exact hT.size, fun t => ?_⟩
  rw [putV_at, putT_get (fun y hy => Nat.lt_of_lt_of_le (hd y hy) hT.size)]
  split
  · exact hv
  · exact hT.rel t
theorem finish_put {a : Act} {i : Nat} {o : Oper} {rest : List Nat} {ks : List Item} {u : Value} {tmps : Array Value} {dds : List Deferred} (ho : ops[i]? = some o) : (b.atR ⟨tmps, dds⟩ (.inRegion ops (i :: rest) :: ks)).finish u = b.atR ⟨putT tmps o.dst u, dds⟩ (.inRegion ops rest :: ks) := by
  rw [Frame.finish_atR, ho, ← put_eq]; rfl
theorem isW_ne {ob : OB} (hw : isW ob = true) : ob ≠ .p .bad := fun e => by subst e; cases hw
theorem drop_ops {i : Nat} {o : Oper} (ho : ops[i]? = some o) : ops.toList.drop i = o :: ops.toList.drop (i + 1) := by
  have hi : i < ops.toList.length := by simpa using (Array.getElem?_eq_some_iff.1 ho).1
  rw [List.drop_eq_getElem_cons hi]
  congr 1
  have := (Array.getElem?_eq_some_iff.1 ho).2
  simpa using this
theorem finK_ok (G : Good P ih) (H : HR P w0 ρ' h' nx' w) {ρ0 : Rho} {h0 : T O} {nx0 : Q} {x : V} {u : Value} (W : WR P ρ0 h0 β nx0 f dk rd ds tm k fr) (hn : nx0.nat ≤ nx'.nat) (hK : Keep nx0.nat ρ0 h0 ρ' h') (hS : StkR P ρ' h' cs frs β) (hv : VR ρ' x u)
    (e : finK ih (.mk f dk rd ds tm k) cs x h' nx' = .ok v) : Final P w0 (lone (fr.finish u) (frs ++ c0 :: cs0) w) c0 cs0 v := by
  obtain ⟨hle, b, dds, tmps, C, hB, hD, hrn, hW, hC⟩ := W
  have hle' : β ≤ nx'.nat := Nat.le_trans hle hn
  have X : Ctx P w0 w ρ' h' β nx' f dk rd ds cs frs b dds := ⟨H, hle', hB.mono hK.le, hD.mono hK.le, hrn, hS⟩
  cases hW with
  | sync ops i o d g ob k ks ho hc hw hk =>
    obtain ⟨hT, rfl⟩ := hC
    obtain ⟨_, hd, hx, _⟩ := compO_ok hc (nbad (isW_ne hw))
    simp only [finK] at e
    rw [hd, putD_eq] at e
    rw [finish_put (a := ⟨tmps, dds⟩) ho]
    have hi := (Array.getElem?_eq_some_iff.1 ho).1
    exact X.go G (.sync ops (i + 1) k ks hi hk) ⟨(hT.mono hK.le).put hx hv, rfl⟩ e
  | drawn ops i o d g ob pl E r qf k ks ho hc hw hk =>
    obtain ⟨hL, rfl⟩ := hC
    obtain ⟨hb, hd, hx, _⟩ := compO_ok hc (nbad (isW_ne hw))
    simp only [finK] at e
    rw [hd, putD_eq] at e
    rw [finish_put (a := ⟨tmps, dds⟩) ho]
    exact X.go G (.drawn ops pl (E ||| 2 ^ i) r qf k ks hk) ⟨hL.sync ho (by unfold wOf; rw [← hb, hw]; rfl) hx hn hK hv, rfl⟩ e
  | inrf l bl N k ks hl hk =>
    obtain ⟨hT, rfl⟩ := hC
    simp only [finK] at e
    exact X.go G (.erf l bl N k ks (hK.le _ _ hl) hk) ⟨hT.mono hK.le, rfl⟩ e
  | rtn ks => simp only [finK] at e; cases e
theorem endK_go {l : Q} {dds : List Deferred} (G : Good P ih) (C : Ctx P w0 w ρ h β nx f dk rd ds cs frs b dds) (hrd : rd = some l) {j : Jump} {jc : Option Code} (hj : JR j jc) {bb : Bool} (hbb : bb = jc.isNone) {a : Act} {todo : List Item}
    (hstep : ∀ {bl : Nat} {u : Value} {w' : World} {c : Frame} {cs : List Frame}, b.roundOf = some bl → b.kind = .normal → (Instr.endRound bl jc).run P w = .ok u w' → step P (lone (b.atR a todo) (c :: cs) w) = .next (lone (c.finish u) cs w'))
    (e : endK ih l j bb cs h nx = .ok v) : Final P w0 (lone (b.atR a todo) (frs ++ c0 :: cs0) w) c0 cs0 v := by
  refine endK_ok C hrd hj hbb hstep (fun {c cs' fr' frs' w' h' u x} h1 h2 H' hK hv e' => ?_) e
  subst h1; subst h2
  have hS := C.S
  cases hS with
  | cons ρ0 _ hh0 _ f' dk' rd' ds' tm2 k' _ _ _ β0 _ nx0 hf hn hK0 hs =>
  exact finK_ok G H' hf (Nat.le_trans hn C.le) (hK0.trans (hK.down (Nat.le_trans hn C.le))) (hs.mono (hK.down (Nat.le_trans hf.le (Nat.le_trans hn C.le)))) hv e'
theorem CK_next {dds : List Deferred} (C : Ctx P w0 w ρ h β nx f dk rd ds cs frs b dds) {d : Nat} : Ctx P w0 { w with drawn := d } ρ h β nx f dk rd ds cs frs b dds := ⟨C.H.drawn d, C.le, C.B, C.D, C.rn, C.S⟩
theorem ordr_facts {r : List Nat} : ∀ {D : Nat → Prop}, Ordr ops D r → r.Nodup ∧ (∀ i ∈ r, i < ops.size ∧ ¬ D i) ∧ ∀ i, i < ops.size → D i ∨ i ∈ r := by
  induction r with
  | nil =>
    intro D h
    cases h with | nil h => exact ⟨List.nodup_nil, by simp, fun i hi => .inl (h i hi)⟩
  | cons i r ih =>
    intro D h
    cases h with
    | cons hi hn he hr =>
    obtain ⟨h1, h2, h3⟩ := ih hr
    refine ⟨List.nodup_cons.2 ⟨fun hm => (h2 i hm).2 (.inr rfl), h1⟩, fun j hj => ?_, fun j hj => ?_⟩
    · rcases List.mem_cons.1 hj with rfl | hj
      · exact ⟨hi, hn⟩
      · exact ⟨(h2 j hj).1, fun hD => (h2 j hj).2 (.inl hD)⟩
    · rcases h3 j hj with (h4 | rfl) | h4
      · exact .inl h4
      · exact .inr (by simp)
      · exact .inr (by simp [h4])
theorem codeK_ok {fe : Q → CF} {dds : List Deferred} {c : Code} {ks : List Item} (hm : P.follows .mixedOrders = true) (G : Good P ih) (C : Ctx P w0 w ρ h β nx f dk rd ds cs frs b dds) (hk : KS P (nt P f.nat) k ks) (hT : TR ρ (nt P f.nat) tm tmps)
    (hrf : ∀ x ps asg body, c ≠ .rangeFunc x ps asg body) (e : codeK ih f dk rd ds tm (compC P (nt P f.nat) c) k cs h nx fe = .ok v) : Final P w0 (lone (b.atR ⟨tmps, dds⟩ (.code c :: ks)) (frs ++ c0 :: cs0) w) c0 cs0 v := by
  cases c with
  | skip => exact Final.steps (Steps.one stepR_skip) (C.plain G hk hT e)
  | label l => exact Final.steps (Steps.one stepR_label) (C.plain G hk hT e)
  | seq x y => exact Final.steps (Steps.one stepR_seq) (C.plain G (.code x _ _ (.code y _ _ hk)) hT e)
  | block id c => exact Final.steps (Steps.one stepR_block) (C.plain G (.code c _ _ (.blk id _ _ hk)) hT e)
  | loop c => exact Final.steps (Steps.one stepR_loop) (C.plain G (.code c _ _ (.lp c _ _ hk)) hT e)
  | scope c => exact Final.steps (Steps.one stepR_scope) (C.plain G (.code c _ _ (.sc c _ _ hk)) hT e)
  | cond x y z =>
    simp only [compC, codeK] at e
    obtain ⟨c, h1, e1⟩ := xK_ok e
    have hc := xE_rel (ds := dds) C.H.glob (fun t _ => hT.rel t) h1
    obtain ⟨bb, hbb, e2⟩ := asB_ok e1
    subst hbb
    refine Final.steps (Steps.one (stepR_cond (a := ⟨tmps, dds⟩) hc.inv_bool)) ?_
    cases bb with
    | true => exact C.plain G (.code y _ _ hk) hT e2
    | false => exact C.plain G (.code z _ _ hk) hT e2
  | exit id =>
    simp only [compC, codeK] at e
    rcases exitK_ok hk e with ⟨k', ks', h1, h2, h3⟩ | ⟨h1, h2⟩
    · exact Final.steps (Steps.one (stepR_exit h2)) (C.plain G h3 hT h1)
    · split at h1
      · cases h1
      · exact endK_go G C rfl (.exit id) rfl (fun hb hkk hr => stepR_round_exit hb hkk h2 hr) h1
  | ret =>
    simp only [compC, codeK] at e
    split at e
    · have hro := C.B.ro
      cases hbr : b.roundOf with
      | some bl => rw [hbr] at hro; exact hro.elim
      | none => exact Final.steps (Steps.one (stepR_ret hbr)) (C.go G (.rtn _) ⟨hT, rfl⟩ e)
    · exact endK_go G C rfl .ret rfl (fun hb hkk hr => stepR_round_ret hb hkk hr) e
  | region id ops draw =>
    cases draw with
    | false =>
      refine Final.steps (Steps.one stepR_region) ?_
      have := Cur.sync (P := P) (ρ := ρ) (h := h) (β := β) (nx := nx) (tm := tm) ops 0 k ks (Nat.zero_le _) hk
      rw [List.drop_zero, Nat.sub_zero] at this
      exact C.go G this ⟨hT, by rw [List.range_eq_range']⟩ e
    | true =>
      simp only [compC, codeK] at e
      refine Final.steps (Steps.one stepR_region_draw) ?_
      have C' := CK_next (d := w.drawn + 1) C
      unfold planOf at e
      simp only at e
      split at e
      · rename_i hg
        simp only [Bool.and_eq_true] at hg
        obtain ⟨⟨⟨g1, g2⟩, g3⟩, g4⟩ := hg
        have hE : Edges ops := fun i o ho e he hb => by
          have := edgeCk_ok g2 i o (by rw [Array.getElem?_toList]; exact ho) e he hb
          omega
        have hr := schedule_ordr (P := P) hm hE (w.tape w.drawn (.order b.fn id))
        obtain ⟨r1, r2, r3⟩ := ordr_facts hr
        have hL := LZ.start (h := h) (β := β) (nx := nx) hT ⟨Nat.eq_of_beq_eq_true g1, hE, g3⟩ g4 hr r1 (fun i hi => (r2 i hi).1) (fun i hi => (r3 i hi).resolve_left (fun h => h)) (fun _ => none)
        exact C'.go G (.drawn ops _ 0 _ _ k ks hk) ⟨hL, rfl⟩ e
      · exact C'.go G (tmps := tmps) (.bad [] k) trivial e
  | rangeFunc x ps asg body => exact absurd rfl (hrf _ _ _ _)
  | goto l => cases e
  | refuse why => cases e
end Go.CM
end
