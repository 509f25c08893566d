import Derived.Test.YtdkkaldimefljaaGreatDoorX18
set_option linter.all false
noncomputable section
namespace Go.CM
open Go.AM (oneC overwrite overwrite_get overwrite_length run_underlying run_sizeOf run_isAgg run_zeroValue szOf aggOf bytesAt sliceElem fieldAt? run_equal add_mk bytes_beq run_getObj run_setObj heap_alloc_new fill_one)
variable {P : Program} {w0 w : World} {ρ : Rho} {h : T O} {nx : Q} {tm : T V} {tmps : Array Value} {ds : List Deferred} {r v : V}
section
variable {dst : Option Nat} {ty : TypeId} {pos : String} {aft : Array Edge} {gd' : Option (Nat × Bool)} {k : O → (Q → V) → Res}
theorem sliceElem_ok {t e : TypeId} (h : sliceElem P t = some e) : P.underlying t = some (.slice e) := by
  unfold sliceElem at h
  split at h
  · cases h; assumption
  · cases h
theorem a_mks (H : HR P w0 ρ h nx w) {t el : TypeId} {l c : Operand} {z : List V} (hu : P.underlying t = some (.slice el)) (hz : zeroL P el = some z) (hpos : 0 < z.length) (hby : bytesAt P el ≤ 16384)
    (hT : XR ρ tm tmps (Op.operands (.makeSlice t l c)).toList) (e : aK (.mks el z.length z (compX P l) (compX P c)) tm k = .ok r) :
    ∃ ob mk, AE (.mks el z.length z (compX P l) (compX P c)) tm ob mk ∧ k ob mk = .ok r ∧ AG P w0 w ρ tmps ds ⟨dst, .makeSlice t l c, ty, pos, aft, gd'⟩ ob mk := by
  simp only [aK] at e
  obtain ⟨zv, h1, h2, h3, h4, h5⟩ := zeroL_ok (ρ := ρ) hz
  obtain ⟨a, ha, e1⟩ := xK_ok e
  obtain ⟨kl, ln, hl, e2⟩ := asN_ok e1
  obtain ⟨b, hb, e3⟩ := xK_ok e2
  obtain ⟨kc, cn, hc, e4⟩ := asN_ok e3
  obtain ⟨hg, e5⟩ := gd_ok e4
  rw [zerosK_eq, zerosL_eq, forceN_eq] at e5
  have hva := xE_rel (ds := ds) H.glob (hT.sub (by simp [Op.operands])) ha
  have hvb := xE_rel (ds := ds) H.glob (hT.sub (by simp [Op.operands])) hb
  rw [hl] at hva
  rw [hc] at hvb
  have hva := hva.inv_int
  have hvb := hvb.inv_int
  have hg' := hg
  rw [Bool.and_eq_true] at hg
  have g1 := Nat.le_of_ble_eq_true hg.1
  have g2 := Nat.le_of_ble_eq_true hg.2
  have hrep : (repL z cn).length = cn * z.length := repL_length z cn
  refine ⟨_, _, fun k' => ?_, e5, ⟨.cells ⟨(List.range (cn * z.length)).map fun p => zv.cells[p % zv.cells.size]!⟩ el, cn * z.length, .slice (some ⟨w.heap.size, 0, none⟩) ln cn, ?_, fun q hq => ⟨?_, .sl _ _ _ _ _ _ Rho.set_same g1⟩⟩⟩
  · simp only [aK, xK_det ha, xK_det hb, hl, hc, asN, hg', gd, zerosK_eq, zerosL_eq, forceN_eq]
  · have w1 : IntKind.i64.wrap (ln : Int) = ln := wrap_nat .i64 ln (by simp only [ikM]; omega)
    have w2 : IntKind.i64.wrap (cn : Int) = cn := wrap_nat .i64 cn (by simp only [ikM]; omega)
    have hm : bytesAt P el * cn ≤ 16384 * 16777216 := Nat.mul_le_mul hby g2
    obtain ⟨ti, hti, hzz⟩ := bindo h1
    have hbt : ti.bytes = bytesAt P el := by simp [bytesAt, hti]
    have hnt : ¬ ((ti.bytes : Int) * (cn : Int) > 281474976710656) := by
      rw [hbt]
      have : ((bytesAt P el : Nat) : Int) * (cn : Int) = ((bytesAt P el * cn : Nat) : Int) := by simp
      rw [this]; omega
    have hva' : ev tmps ds l = .int kl (ln : Int) := hva
    have hvb' : ev tmps ds c = .int kc (cn : Int) := hvb
    have hnl : ¬ ((cn : Int) < (ln : Int)) := by omega
    have hcond : ((decide ((cn : Int) < 0) || decide ((ti.bytes : Int) * (cn : Int) > 2 ^ 48)) = true ∨ (ln : Int) < 0 ∨ (cn : Int) < (ln : Int)) = False := by
      simp
      omega
    have harr : (Array.range (cn * z.length)).map (fun p => zv.cells[p % zv.cells.size]!) = ⟨(List.range (cn * z.length)).map fun p => zv.cells[p % zv.cells.size]!⟩ := by
      apply Array.ext'; simp
    have htl : (decide ((cn : Int) < 0) || decide ((ti.bytes : Int) * (cn : Int) > 2 ^ 48)) = false := by
      rw [Bool.or_eq_false_iff, decide_eq_false_iff_not, decide_eq_false_iff_not]
      exact ⟨by omega, by simpa using hnt⟩
    have hrun : (Instr.makeSlice t (ev tmps ds l) (ev tmps ds c)).run P w = .ok (.slice (some ⟨w.heap.size, 0, none⟩) ln cn) (w.alloc (.cells ⟨(List.range (cn * z.length)).map fun p => zv.cells[p % zv.cells.size]!⟩ el)) := by
      rw [hva', hvb']
      simp only [Instr.makeSlice, Sem.run_bind, run_underlying hu, Result.andThen_ok, asInt, Sem.run_pure, typeInfo, hti, w1, w2, htl]
      by_cases h0 : cn * z.length = 0
      · have hcn : cn = 0 := by rcases Nat.mul_eq_zero.1 h0 with h' | h'
                                · exact h'
                                · omega
        subst hcn
        have hln : ln = 0 := by omega
        subst hln
        have w3 : IntKind.i64.wrap 0 = 0 := by decide
        have hr0 : Array.map (fun _ : Nat => (default : Value)) (Array.range 0) = ⟨[]⟩ := by apply Array.ext'; simp
        simp [asIntOf, hti, run_sizeOf h2, newRow, w3, hr0]
      · have hnt' : ¬ (281474976710656 < (ti.bytes : Int) * (cn : Int)) := hnt
        simp [asIntOf, hti, run_sizeOf h2, h0, hnl, run_zeroValue h1, newRow, harr, w1, w2, hnt']
        intro hx; omega
    simp [execOp, hrun]
  · rw [← hrep]
    have hzi := zinit (h3.mono (Rho.set_le (b := w.heap.size) (N := (repL z cn).length) hq)) hpos cn
    have := OR.new (P := P) (w := w) (T' := el) (B0 := w0.heap.size) H.size (TL.puts (repL z cn) .nil) hzi (repL_cell h4 cn)
    rw [← hzi.1, ← hrep] at this
    exact this
theorem orA_ok {o : Option AB} {b : AB} (hb : orA o = .a b) : o = some b := by
  cases o with
  | none => cases hb
  | some p => simp only [orA] at hb; cases hb; rfl
theorem orP_a {o : Option PB} {b : AB} (hb : orP o = .a b) : False := by cases o <;> cases hb
theorem orW_a {o : Option WB} {b : AB} (hb : orW o = .a b) : False := by cases o <;> cases hb
theorem aOp_ok (H : HR P w0 ρ h nx w) {o : Oper} {b : AB} (hb : compOp P o = .a b) (hT : XR ρ tm tmps o.op.operands.toList) (e : aK b tm k = .ok r) :
    ∃ ob mk, AE b tm ob mk ∧ k ob mk = .ok r ∧ AG P w0 w ρ tmps ds o ob mk := by
  obtain ⟨dst, op, ty, pos, aft, gd'⟩ := o
  cases op <;> simp only [compOp] at hb
  case alloc t =>
    obtain ⟨z, hz, hb⟩ := mapo (orA_ok hb)
    subst hb
    exact ⟨_, _, fun _ => rfl, e, a_al H hz⟩
  case box t x =>
    obtain ⟨s, hs, hb⟩ := mapo (orA_ok hb)
    subst hb
    exact a_bx H hT e
  case buildSlice t len parts =>
    obtain ⟨el, hel, hb⟩ := bindo (orA_ok hb)
    obtain ⟨z, hz, hb⟩ := bindo hb
    split at hb
    · rename_i hg
      simp at hb; subst hb
      rw [Bool.and_eq_true, Bool.and_eq_true] at hg
      exact a_bsl H (sliceElem_ok hel) hz (blt_ok hg.1.1) (Nat.le_of_ble_eq_true hg.1.2) (fun p hp => blt_ok (List.all_eq_true.1 hg.2 p hp)) hT e
    · cases hb
  case makeMap t r' =>
    split at hb
    · cases hb; exact ⟨_, _, fun _ => rfl, e, a_mkm H⟩
    · cases hb
  case makeSlice t l c =>
    obtain ⟨el, hel, hb⟩ := bindo (orA_ok hb)
    obtain ⟨z, hz, hb⟩ := bindo hb
    split at hb
    · rename_i hg
      simp at hb; subst hb
      rw [Bool.and_eq_true] at hg
      exact a_mks H (sliceElem_ok hel) hz (blt_ok hg.1) (Nat.le_of_ble_eq_true hg.2) hT e
    · cases hb
  case binOp op t x y yt => cases hb
  case build t parts => exact (orP_a hb).elim
  case load t a => exact (orP_a hb).elim
  case store t a x => exact (orW_a hb).elim
  case unOp op t x => cases op <;> cases hb
  case convert s d x =>
    split at hb
    · cases hb
    · cases hb
    · cases hb
    · split at hb <;> cases hb
    · split at hb
      · split at hb <;> cases hb
      · cases hb
    · split at hb <;> cases hb
    · cases hb
  case makeInterface t x => split at hb <;> cases hb
  case makeFunc fn first caps => split at hb <;> cases hb
  case slice t x lo hi mx =>
    split at hb
    · cases hb
    · split at hb
      · cases hb
      · exact (orP_a hb).elim
    · cases hb
  case fieldAddr t x f => exact (orP_a hb).elim
  case field t x f => exact (orP_a hb).elim
  case indexAddr t x i =>
    split at hb
    · exact (orP_a hb).elim
    · exact (orP_a hb).elim
    · cases hb
  case index t x i =>
    split at hb
    · cases hb
    · exact (orP_a hb).elim
    · cases hb
  case lookup t m key ok =>
    split at hb
    · exact (orP_a hb).elim
    · cases hb
  case mapUpdate t m key x => split at hb <;> cases hb
  case insert t m key x => split at hb <;> cases hb
  case mapEntry t m key =>
    split at hb
    · exact (orW_a hb).elim
    · cases hb
  case call c =>
    obtain ⟨cal, a, ts⟩ := c
    cases cal <;> simp only [compCall] at hb
    · cases hb
    · cases hb
    · split at hb
      · exact (orW_a hb).elim
      · split at hb <;> cases hb
      · exact (orW_a hb).elim
      · cases hb
      · split at hb
        · split at hb <;> cases hb
        · cases hb
      · cases hb
      · cases hb
      · cases hb
  case defer c =>
    split at hb
    · cases hb
    · split at hb
      · split at hb <;> cases hb
      · cases hb
    · cases hb
  case typeAssert x xt t okb => exact (orP_a hb).elim
  all_goals cases hb
end
end Go.CM
end
noncomputable section
namespace Go.CM
open Go.AM (oneC overwrite overwrite_get overwrite_length run_underlying run_sizeOf run_zeroValue szOf aggOf bytesAt sliceElem run_equal add_mk bytes_beq run_getObj run_setObj heap_alloc_new heap_alloc_old run_storeVar run_storeCells)
variable {P : Program} {w0 w : World} {ρ : Rho} {h : T O} {nx : Q} {tm : T V} {tmps : Array Value} {ds : List Deferred} {r v : V}
def isEx : O → Bool
  | .dead => false
  | .ro _ _ => false
  | _ => true
theorem Sh.dead (x : O) (q : Q) : Sh x .dead q := by cases x <;> simp [Sh]
theorem Sh.of_not {x y : O} {q : Q} (h : isEx x = false) : Sh x y q := by cases x <;> first | trivial | cases h
theorem HR.upd (H : HR P w0 ρ h nx w) {o : Q} {b N : Nat} {x : Obj} (ho : ρ o = some (b, N)) (hB : w0.heap.size ≤ b) {h' : T O}
    (h1 : OR P ρ (w.putObj b x) w0.heap.size (h'.ob o) b N) (h2 : ∀ q, q ≠ o → h'.ob q = h.ob q ∨ h'.ob q = .dead)
    (h3 : ∀ q N', q ≠ o → ρ q = some (b, N') → OR P ρ (w.putObj b x) w0.heap.size (h'.ob q) b N' ∧ Sh (h'.ob o) (h'.ob q) q ∧ isEx (h'.ob q) = false) : HR P w0 ρ h' nx (w.putObj b x) := by
  have hoth : ∀ b', b' ≠ b → (w.putObj b x).heap[b']? = w.heap[b']? := fun b' hb' => World.putObj_heap_other hb'
  have hsz : (w.putObj b x).heap.size = w.heap.size := by simp
  refine ⟨by rw [hsz]; exact H.size, fun b' hb' => by rw [hoth b' (by omega)]; exact H.old b' hb', H.os, H.tape, H.output, H.glob, H.fresh, fun q b' N' e => by rw [hsz]; exact H.lt q b' N' e, fun q b' N' e => ?_, fun q q' b' N1 N2 hne e1 e2 => ?_, fun q hq => ?_⟩
  · by_cases hq : q = o
    · subst hq
      rw [ho] at e
      simp at e; obtain ⟨rfl, rfl⟩ := e
      exact h1
    · by_cases hb' : b' = b
      · subst hb'; exact (h3 q N' hq e).1
      · rcases h2 q hq with h4 | h4
        · rw [h4]; exact (H.obj q b' N' e).mono (Rho.le_refl _) (hoth b' hb')
        · rw [h4]; exact .dead _ _
  · by_cases hq : q = o
    · subst hq
      rw [ho] at e1
      simp at e1; obtain ⟨rfl, rfl⟩ := e1
      exact (h3 q' N2 (fun e => hne e.symm) e2).2.1
    · by_cases hq' : q' = o
      · subst hq'
        rw [ho] at e2
        simp at e2; obtain ⟨rfl, rfl⟩ := e2
        exact Sh.of_not (h3 q N1 hq e1).2.2
      · rcases h2 q hq with h4 | h4
        · rcases h2 q' hq' with h5 | h5
          · rw [h4, h5]; exact H.sep q q' b' N1 N2 hne e1 e2
          · rw [h5]; exact Sh.dead _ _
        · rw [h4]; trivial
  · rcases h2 q (fun e => by subst e; rw [H.fresh _ hq] at ho; cases ho) with h4 | h4
    · rw [h4]; exact H.dead q hq
    · exact h4
theorem Keep.of {β : Nat} {h' : T O} (hk : ∀ q, ρ q = none → h'.ob q = h.ob q) : Keep β ρ h ρ h' := ⟨Rho.le_refl _, fun q _ hq => ⟨hq, hk q hq⟩⟩
theorem ob_put (h : T O) (o : O) (p q : Q) : (h.put .dead o p).ob q = if p = q then o else h.ob q := T.get_put _ _ _ _ _
def killL : List Q → T O → T O
  | [], h => h
  | q :: qs, h => killL qs (h.put .dead .dead q)
theorem killK_eq : ∀ (qs : List Q) (h : T O) (k : T O → Res), killK qs h k = k (killL qs h)
  | [], h, k => rfl
  | q :: qs, h, k => by simp only [killK, pO_eq, killK_eq qs, killL]
theorem killL_ob : ∀ (qs : List Q) (h : T O) (q : Q), (killL qs h).ob q = if q ∈ qs then .dead else h.ob q
  | [], h, q => by simp [killL]
  | p :: qs, h, q => by
    simp only [killL, killL_ob qs, ob_put]
    by_cases h1 : q ∈ qs
    · simp [h1]
    · by_cases h2 : p = q
      · subst h2; simp
      · simp [h1, h2, Ne.symm h2]
theorem wrK_ok (H : HR P w0 ρ h nx w) {o : Q} {b N off : Nat} {vs : List V} {us : List Value} {k : T O → Res} (ho : ρ o = some (b, N)) (hv : VRs ρ vs us) (hk : ∀ c ∈ vs, isCell c = true) (e : wrK o off vs h k = .ok r) :
    ∃ h' Vs T, k h' = .ok r ∧ w.heap[b]? = some (.cells ⟨Vs⟩ T (0, 0)) ∧ off + us.length ≤ Vs.length ∧ HR P w0 ρ h' nx (w.putObj b (.cells ⟨overwrite Vs off us⟩ T (0, 0))) ∧ Keep nx.nat ρ h ρ h' := by
  unfold wrK at e
  rw [gO_eq] at e
  have hO := H.obj o b N ho
  split at e
  · rename_i n t anc flo T ex hob
    rw [lenK_eq] at e
    obtain ⟨hg, e⟩ := gd_ok e
    rw [putsK_eq] at e
    have hle := Nat.le_of_ble_eq_true hg
    rw [hob] at hO
    cases hO with
    | row _ _ _ _ _ _ _ _ Vs hB hw hN hn hf he ha hx hc =>
    have hblt := (Array.getElem?_eq_some_iff.1 hw).1
    have hlen : us.length = vs.length := hv.1.symm
    have hle' : off + us.length ≤ Vs.length := by rw [hlen]; omega
    generalize hw' : w.putObj b (.cells ⟨overwrite Vs off us⟩ T (0, 0)) = w'
    have hheap : w'.heap[b]? = some (.cells ⟨overwrite Vs off us⟩ T (0, 0)) := by rw [← hw']; exact World.putObj_heap_same hblt
    have hnew : ∀ anc' flo', (∀ a ∈ anc', ρ a ≠ none) → flo' ≤ n → OR P ρ w' w0.heap.size (.row n (putsL vs off t) anc' flo' T ex) b N := fun anc' flo' ha' hf' => by
      refine .row _ _ _ _ _ _ _ _ _ hB hheap (by rw [overwrite_length _ _ _ hle']; exact hN) hn hf' he ha' (fun i u hi hu => ?_) fun i hi => ?_
      · rw [overwrite_get _ _ _ _ hle'] at hu
        rw [putsL_at]
        by_cases g1 : i < off
        · rw [if_pos g1] at hu
          rw [if_neg (by omega)]; exact hx i u hi hu
        · rw [if_neg g1] at hu
          by_cases g2 : i < off + us.length
          · rw [if_pos g2] at hu
            have hlt : i - off < vs.length := by omega
            rw [if_pos ⟨by omega, by omega⟩]
            refine hv.2 (i - off) _ u ?_ hu
            simp [List.getD_eq_getElem?_getD, hlt]
          · rw [if_neg g2] at hu
            rw [if_neg (by omega)]; exact hx i u hi hu
      · rw [putsL_at]
        split
        · rename_i hi2
          have hlt : i - off < vs.length := by omega
          refine hk _ ?_
          simp [List.getD_eq_getElem?_getD, hlt]
        · exact hc i hi
    have hro : ∀ q N' n' t', ρ q = some (b, N') → h.ob q = .ro n' t' → n' ≤ off → OR P ρ w' w0.heap.size (.ro n' t') b N' := fun q N' n' t' hq hqo hno => by
      have := H.obj q b N' hq
      rw [hqo] at this
      cases this with
      | ro _ _ _ _ Vs' T' fz hw2 hn2 hx2 hc2 =>
      rw [hw] at hw2
      simp at hw2
      obtain ⟨rfl, rfl, rfl⟩ := hw2
      refine .ro _ _ _ _ _ T _ hheap (by rw [overwrite_length _ _ _ hle']; exact hn2) (fun i u hi hu => ?_) hc2
      rw [overwrite_get _ _ _ _ hle', if_pos (by omega)] at hu
      exact hx2 i u hi hu
    split at e
    · rename_i hfl
      have hfl := Nat.le_of_ble_eq_true hfl
      rw [pO_eq] at e
      refine ⟨_, Vs, T, e, hw, hle', ?_, .of fun q hq => by rw [ob_put, if_neg (fun e => by subst e; rw [ho] at hq; cases hq)]⟩
      rw [← hw'] at hnew hro
      rw [hw']
      rw [← hw']
      refine H.upd ho hB (by rw [ob_put, if_pos rfl]; exact hnew anc flo ha hf) (fun q hq => .inl (by rw [ob_put, if_neg (Ne.symm hq)])) fun q N' hq hqb => ?_
      have hs := H.sep o q b N N' (Ne.symm hq) ho hqb
      rw [hob] at hs
      rw [ob_put, if_neg (Ne.symm hq), ob_put, if_pos rfl]
      rcases hs with hs | ⟨n', t', hs, hqa, hn'⟩
      · rw [hs]; exact ⟨.dead _ _, Sh.dead _ _, rfl⟩
      · rw [hs]; exact ⟨hro q N' n' t' hqb hs (by omega), .inr ⟨n', t', rfl, hqa, hn'⟩, rfl⟩
    · rw [killK_eq, pO_eq] at e
      refine ⟨_, Vs, T, e, hw, hle', ?_, .of fun q hq => by
        rw [ob_put, if_neg (fun e => by subst e; rw [ho] at hq; cases hq), killL_ob, if_neg (fun hm => ha q hm hq)]⟩
      rw [← hw'] at hnew hro
      rw [hw']
      rw [← hw']
      refine H.upd ho hB (by rw [ob_put, if_pos rfl]; exact hnew [] 0 (fun a ha => by cases ha) (Nat.zero_le _)) (fun q hq => ?_) fun q N' hq hqb => ?_
      · rw [ob_put, if_neg (Ne.symm hq), killL_ob]
        split
        · exact .inr rfl
        · exact .inl rfl
      · have hs := H.sep o q b N N' (Ne.symm hq) ho hqb
        rw [hob] at hs
        have hd : ((killL anc h).put .dead (.row n (putsL vs off t) [] 0 T ex) o).ob q = .dead := by
          rw [ob_put, if_neg (Ne.symm hq), killL_ob]
          rcases hs with hs | ⟨n', t', hs, hqa, hn'⟩
          · rw [hs]; simp
          · rw [if_pos hqa]
        rw [hd]
        exact ⟨.dead _ _, Sh.dead _ _, rfl⟩
  · cases e
def WG (P : Program) (w0 w : World) (ρ : Rho) (tmps : Array Value) (ds : List Deferred) (o : Oper) (h : T O) (nx : Q) (v : V) (h' : T O) (nx' : Q) : Prop :=
  ∃ w' ρ' u, ((execOp (ev tmps ds) o).run P w = .ok (.value u) w' ∨ ((execOp (ev tmps ds) o).run P w = .ok .skip w' ∧ u = Go.undef)) ∧ VR ρ' v u ∧ HR P w0 ρ' h' nx' w' ∧ Keep nx.nat ρ h ρ' h' ∧ nx.nat ≤ nx'.nat
section
variable {dst : Option Nat} {ty : TypeId} {pos : String} {aft : Array Edge} {gd' : Option (Nat × Bool)} {k : V → T O → Q → Res}
theorem w_st (H : HR P w0 ρ h nx w) {t : TypeId} {a x : Operand} {n : Nat} (hs : szOf P t = some n) (hT : XR ρ tm tmps (Op.operands (.store t a x)).toList) (e : wK (.st n (compX P a) (compX P x)) tm h nx k = .ok r) :
    ∃ v h' nx', k v h' nx' = .ok r ∧ WG P w0 w ρ tmps ds ⟨dst, .store t a x, ty, pos, aft, gd'⟩ h nx v h' nx' := by
  simp only [wK] at e
  obtain ⟨c, e1, hc⟩ := opd (ds := ds) (o := ⟨dst, .store t a x, ty, pos, aft, gd'⟩) H hT (by simp [Op.operands]) e
  obtain ⟨o, off, ho, e2⟩ := asP_ok e1
  subst ho
  obtain ⟨d, e3, hd⟩ := opd (ds := ds) (o := ⟨dst, .store t a x, ty, pos, aft, gd'⟩) H hT (by simp [Op.operands]) e2
  obtain ⟨l, hl, e4⟩ := cvK_ok e3
  rw [lenK_eq] at e4
  obtain ⟨hg, e5⟩ := gd_ok e4
  obtain ⟨b, N, hv, hb⟩ := hc.inv_ptr
  obtain ⟨g1, g2, g3⟩ := hd.cells hl
  obtain ⟨h', Vs, T, f1, f2, f3, f4, f5⟩ := wrK_ok H hb g1 g2 e5
  refine ⟨_, _, _, f1, _, ρ, _, .inr ⟨?_, rfl⟩, VR.undef, f4, f5, Nat.le_refl _⟩
  have hsz : (ev tmps ds x).cells.size = n := by
    have := g1.1
    rw [Nat.eq_of_beq_eq_true hg] at this
    simpa using this.symm
  have := run_storeVar (P := P) (t := t) (o := off) (v := ev tmps ds x) (by rw [hsz]; exact hs) f2 g3 (by simpa using f3)
  simp [execOp, hv, Instr.storeAt, Instr.sureAddr, this]
theorem HR.putMap (H : HR P w0 ρ h nx w) {o : Q} {b N : Nat} {x x' : O} {y : Obj} (ho : ρ o = some (b, N)) (hx : h.ob o = x) (he : isEx x = true) (hr : ∀ n t anc flo T ex, x ≠ .row n t anc flo T ex) (he' : isEx x' = true) (hr' : ∀ n t anc flo T ex, x' ≠ .row n t anc flo T ex)
    (hB : w0.heap.size ≤ b) (hn : OR P ρ (w.putObj b y) w0.heap.size x' b N) : HR P w0 ρ (h.put .dead x' o) nx (w.putObj b y) ∧ Keep nx.nat ρ h ρ (h.put .dead x' o) := by
  refine ⟨H.upd ho hB (by rw [ob_put, if_pos rfl]; exact hn) (fun q hq => .inl (by rw [ob_put, if_neg (Ne.symm hq)])) fun q N' hq hqb => ?_, .of fun q hq => by rw [ob_put, if_neg (fun e => by subst e; rw [ho] at hq; cases hq)]⟩
  have hs := H.sep o q b N N' (Ne.symm hq) ho hqb
  rw [hx] at hs
  have hd : h.ob q = .dead := by
    cases x <;> first | exact hs | exact absurd rfl (hr _ _ _ _ _ _) | cases he
  rw [ob_put, if_neg (Ne.symm hq), hd]
  exact ⟨.dead _ _, Sh.dead _ _, rfl⟩
theorem updK_ok (H : HR P w0 ρ h nx w) {s : KK} {t : TypeId} {x z : V} {f : V → V} {ux : Value} (hk : KT P s t) (hx : VR ρ x ux) :
    ∀ {es : List (V × V)} {ents : List MapEntry} {i : Nat} {k : List (V × V) → Nat → V → Res}, MR ρ es ents → updK s h x f z es i k = .ok r →
    (∃ es', k es' (i + es.length) z = .ok r ∧ es' = es ++ [(x, f z)] ∧ (Instr.findAsking t ux ents i).run P w = .ok none w ∧ ∀ d r', P.underlying t = some d → Instr.findNow d ux ents i = some r' → r' = none) ∨
      ∃ es' j c e', k es' (i + j) c = .ok r ∧ ents[j]? = some e' ∧ VR ρ c e'.val ∧ es' = es.set j (x, f c) ∧ (Instr.findAsking t ux ents i).run P w = .ok (some (i + j, e'.val)) w ∧
        (∀ d r', P.underlying t = some d → Instr.findNow d ux ents i = some r' → r' = some (i + j, e'.val)) ∧ Instr.sameBits 10000 e'.key ux = true
  | [], [], i, k, hm, e => .inl ⟨_, e, rfl, by simp [Instr.findAsking], fun d r' _ h => by simp [Instr.findNow] at h; exact h.symm⟩
  | [], _ :: _, i, k, hm, e => by have := hm.len; simp at this
  | _ :: _, [], i, k, hm, e => by have := hm.len; simp at this
  | (y, v) :: es, en :: ents, i, k, hm, e => by
    simp only [updK] at e
    obtain ⟨b, e, s1, s2, s3⟩ := keyEq_ok H hk hx (hm.key 0 (y, v) en rfl rfl) e
    have htl : MR ρ es ents := ⟨by have := hm.len; simpa using this, fun i p e h1 h2 => hm.key (i + 1) p e (by simpa using h1) (by simpa using h2), fun i p e h1 h2 => hm.val (i + 1) p e (by simpa using h1) (by simpa using h2)⟩
    cases b with
    | true =>
      refine .inr ⟨_, 0, v, en, e, rfl, hm.val 0 (y, v) en rfl rfl, rfl, by simp [Instr.findAsking, s1], fun d r' hd h => ?_, s3 rfl⟩
      simp only [Instr.findNow] at h
      split at h
      · simpa using h.symm
      · rename_i hs; have := s2 d _ hd hs; cases this
      · cases h
    | false =>
      simp only at e
      rw [forceN_eq] at e
      have now : ∀ d r', P.underlying t = some d → Instr.findNow d ux (en :: ents) i = some r' → Instr.findNow d ux ents (i + 1) = some r' := fun d r' hd h => by
        simp only [Instr.findNow] at h
        split at h
        · rename_i hs; have := s2 d _ hd hs; cases this
        · exact h
        · cases h
      rcases updK_ok H hk hx (i := i + 1) htl e with ⟨es', f1, f2, f3, f4⟩ | ⟨es', j, c, e', f1, f2, f3, f4, f5, f6, f7⟩
      · refine .inl ⟨(y, v) :: es', ?_, by rw [f2]; rfl, by simp [Instr.findAsking, s1, f3], fun d r' hd h => f4 d r' hd (now d r' hd h)⟩
        rw [List.length_cons, show i + (es.length + 1) = i + 1 + es.length by omega]; exact f1
      · refine .inr ⟨(y, v) :: es', j + 1, c, e', ?_, by simpa using f2, f3, by rw [f4]; rfl, ?_, fun d r' hd h => ?_, f7⟩
        · rw [show i + (j + 1) = i + 1 + j by omega]; exact f1
        · rw [show i + (j + 1) = i + 1 + j by omega]; simp [Instr.findAsking, s1, f5]
        · rw [show i + (j + 1) = i + 1 + j by omega]; exact f6 d r' hd (now d r' hd h)
theorem run_keyStays {a b : Value} (h : Instr.sameBits 10000 a b = true) : (Instr.keyThatStays a b).run P w = .ok b w := by simp [Instr.keyThatStays, h]
theorem MR.push {es : List (V × V)} {ents : List MapEntry} {x z : V} {g : MapEntry} (h : MR ρ es ents) (hx : VR ρ x g.key) (hz : VR ρ z g.val) : MR ρ (es ++ [(x, z)]) (ents ++ [g]) := by
  have hl := h.len
  have both : ∀ (i : Nat) p e, (es ++ [(x, z)])[i]? = some p → (ents ++ [g])[i]? = some e → VR ρ p.1 e.key ∧ VR ρ p.2 e.val := fun i p e hp he => by
    rw [List.getElem?_append] at hp he
    by_cases hi : i < es.length
    · rw [if_pos hi] at hp
      rw [if_pos (by omega)] at he
      exact ⟨h.key i p e hp he, h.val i p e hp he⟩
    · rw [if_neg hi] at hp
      rw [if_neg (by omega)] at he
      have h2 : i - es.length < 1 := by have := (List.getElem?_eq_some_iff.1 hp).1; simpa using this
      rw [show i - es.length = 0 by omega] at hp
      rw [show i - ents.length = 0 by omega] at he
      simp at hp he
      subst hp; subst he
      exact ⟨hx, hz⟩
  exact ⟨by simp [hl], fun i p e hp he => (both i p e hp he).1, fun i p e hp he => (both i p e hp he).2⟩
theorem MR.set {es : List (V × V)} {ents : List MapEntry} {p : V × V} {g : MapEntry} {j : Nat} (h : MR ρ es ents) (hx : VR ρ p.1 g.key) (hz : VR ρ p.2 g.val) : MR ρ (es.set j p) (ents.set j g) := by
  refine ⟨by simp [h.len], fun i q e hq he => ?_, fun i q e hq he => ?_⟩
  all_goals
    by_cases hij : j = i
    · subst hij
      rw [List.getElem?_set_self' ] at *
      simp_all
      try grind
    · rw [List.getElem?_set_ne hij] at *
      first | exact h.key i q e hq he | exact h.val i q e hq he
theorem Born.push {ents : List MapEntry} {cl : Nat} (h : Born ents cl) (a b : Value) : Born (ents ++ [⟨a, b, cl⟩]) (cl + 1) := by
  refine ⟨by simp [h.1], fun i e he => ?_⟩
  rw [List.getElem?_append] at he
  split at he
  · exact h.2 i e he
  · have h2 : i - ents.length < 1 := by have := (List.getElem?_eq_some_iff.1 he).1; simpa using this
    rw [show i - ents.length = 0 by omega] at he
    simp at he; subst he
    have := h.1
    simp only; omega
theorem Born.set {ents : List MapEntry} {cl j : Nat} {e g : MapEntry} (h : Born ents cl) (hj : ents[j]? = some e) (hb : g.born = e.born) : Born (ents.set j g) cl := by
  refine ⟨by simpa using h.1, fun i x hx => ?_⟩
  by_cases hij : j = i
  · subst hij
    have hlt := (List.getElem?_eq_some_iff.1 hj).1
    rw [List.getElem?_set_self hlt] at hx
    simp at hx; subst hx
    rw [hb]; exact h.2 j e hj
  · rw [List.getElem?_set_ne hij] at hx
    exact h.2 i x hx
end
end Go.CM
end
noncomputable section
namespace Go.CM
open Go.AM (oneC overwrite overwrite_get overwrite_length run_underlying run_sizeOf run_zeroValue szOf aggOf bytesAt sliceElem run_equal add_mk bytes_beq run_getObj run_setObj run_storeVar run_storeCells)
variable {P : Program} {w0 w : World} {ρ : Rho} {h : T O} {nx : Q} {tm : T V} {tmps : Array Value} {ds : List Deferred} {r v : V}
section
variable {dst : Option Nat} {ty : TypeId} {pos : String} {aft : Array Edge} {gd' : Option (Nat × Bool)} {k : V → T O → Q → Res}
theorem arr_get (ents : List MapEntry) (i : Nat) : (⟨ents⟩ : Array MapEntry)[i]? = ents[i]? := by simp
theorem arr_push (ents : List MapEntry) (e : MapEntry) : (⟨ents⟩ : Array MapEntry).push e = ⟨ents ++ [e]⟩ := by apply Array.ext'; simp
theorem modify_set (ents : List MapEntry) (j : Nat) (f : MapEntry → MapEntry) (e : MapEntry) (he : ents[j]? = some e) : (⟨ents⟩ : Array MapEntry).modify j f = ⟨ents.set j (f e)⟩ := by
  apply Array.ext'
  apply List.ext_getElem?
  intro i
  have hlt := (List.getElem?_eq_some_iff.1 he).1
  rw [Array.getElem?_toList, Array.getElem?_modify, arr_get]
  show _ = (ents.set j (f e))[i]?
  by_cases hij : j = i
  · subst hij
    rw [if_pos rfl, he, List.getElem?_set_self hlt]; rfl
  · rw [if_neg hij, List.getElem?_set_ne hij]
theorem HR.setMap (H : HR P w0 ρ h nx w) {o : Q} {b N : Nat} {es es' : List (V × V)} {ents' : List MapEntry} {cl' : Nat} (ho : ρ o = some (b, N)) (hes : h.ob o = .map es ∨ h.ob o = .mapd es) (hB : w0.heap.size ≤ b) (hb : b < w.heap.size) (hm : MR ρ es' ents')
    (hborn : h.ob o = .map es → Born ents' cl') : HR P w0 ρ (h.put .dead (setM (h.ob o) es') o) nx (w.putObj b (.map ⟨ents'⟩ cl')) ∧ Keep nx.nat ρ h ρ (h.put .dead (setM (h.ob o) es') o) := by
  rcases hes with hes | hes
  · rw [hes]
    exact H.putMap ho hes rfl (fun _ _ _ _ _ _ e => by cases e) rfl (fun _ _ _ _ _ _ e => by cases e) hB (.map _ _ _ _ _ hB (World.putObj_heap_same hb) hm (hborn hes))
  · rw [hes]
    exact H.putMap ho hes rfl (fun _ _ _ _ _ _ e => by cases e) rfl (fun _ _ _ _ _ _ e => by cases e) hB (.mapd _ _ _ _ _ hB (World.putObj_heap_same hb) hm)
theorem HR.map' (H : HR P w0 ρ h nx w) {o : Q} {b N : Nat} {es : List (V × V)} (ho : ρ o = some (b, N)) (hm : h.ob o = .map es ∨ h.ob o = .mapd es) : ∃ (ents : List MapEntry) (cl : Nat), w.heap[b]? = some (.map ⟨ents⟩ cl) ∧ MR ρ es ents ∧ w0.heap.size ≤ b ∧ (h.ob o = .map es → Born ents cl) := by
  have := H.obj o b N ho
  rcases hm with hm | hm
  · rw [hm] at this
    cases this with | map _ ents cl _ _ hb hw hmr hc => exact ⟨ents, cl, hw, hmr, hb, fun _ => hc⟩
  · rw [hm] at this
    cases this with | mapd _ ents cl _ _ hb hw hmr => exact ⟨ents, cl, hw, hmr, hb, fun e => by rw [hm] at e; cases e⟩
theorem w_mu (H : HR P w0 ρ h nx w) {t el : TypeId} {s : KK} {m key x : Operand} {op : Op} (hop : op = .mapUpdate t m key x ∨ op = .insert t m key x) (ht : mapT P t = some (s, el)) (hT : XR ρ tm tmps op.operands.toList) (e : wK (.mu s (compX P m) (compX P key) (compX P x)) tm h nx k = .ok r) :
    ∃ v h' nx', k v h' nx' = .ok r ∧ WG P w0 w ρ tmps ds ⟨dst, op, ty, pos, aft, gd'⟩ h nx v h' nx' := by
  have hops : op.operands = #[m, key, x] := by rcases hop with rfl | rfl <;> rfl
  simp only [wK] at e
  obtain ⟨c, e1, hc⟩ := opd (ds := ds) (o := ⟨dst, op, ty, pos, aft, gd'⟩) H hT (by simp [hops]) e
  obtain ⟨kv, e2, hkv⟩ := opd (ds := ds) (o := ⟨dst, op, ty, pos, aft, gd'⟩) H hT (by simp [hops]) e1
  obtain ⟨xv, e3, hxv⟩ := opd (ds := ds) (o := ⟨dst, op, ty, pos, aft, gd'⟩) H hT (by simp [hops]) e2
  obtain ⟨e4, hkf⟩ := keyCk_ok e3
  cases c <;> simp only at e4 <;> first | cases e4 | skip
  rename_i o
  rw [gO_eq] at e4
  obtain ⟨es, hes, e5⟩ := mapO_ok e4
  obtain ⟨b, N, hm, hb⟩ := hc.inv_map
  obtain ⟨ents, cl, g1, g2, g3, g4⟩ := H.map' hb hes
  obtain ⟨kt, hu, hkt⟩ := mapT_ok ht
  obtain ⟨d, hd⟩ := hkt.desc
  have hlt := (Array.getElem?_eq_some_iff.1 g1).1
  have hget := run_getObj (P := P) g1 (by simp)
  have hset := fun o' => run_setObj (P := P) (o' := o') g1 (by simp)
  have hck := run_checkKey (w := w) hkt hkv hkf false 9998
  have fin : ∀ es' ents' cl', k V.undef (h.put .dead (setM (h.ob o) es') o) nx = .ok r → MR ρ es' ents' → (h.ob o = .map es → Born ents' cl') → (Instr.mapUpdate t (ev tmps ds m) (ev tmps ds key) (ev tmps ds x)).run P w = .ok () (w.putObj b (.map ⟨ents'⟩ cl')) →
      ∃ v h' nx', k v h' nx' = .ok r ∧ WG P w0 w ρ tmps ds ⟨dst, op, ty, pos, aft, gd'⟩ h nx v h' nx' := fun es' ents' cl' hk hmr hbn hrun => by
    obtain ⟨f1, f2⟩ := H.setMap hb hes g3 hlt hmr hbn
    refine ⟨_, _, _, hk, _, ρ, _, .inr ⟨?_, rfl⟩, VR.undef, f1, f2, Nat.le_refl _⟩
    rcases hop with rfl | rfl
    · simp [execOp, hrun]
    · simp [execOp, hrun]
  rcases updK_ok (i := 0) H hkt hkv g2 e5 with ⟨es', f1, f2, f3, f4⟩ | ⟨es', j, c', e', f1, f2, f3, f4, f5, f6, f7⟩
  · rw [pO_eq] at f1
    have hfk := run_findKey hd f3 f4
    subst f2
    refine fin _ (ents ++ [⟨ev tmps ds key, ev tmps ds x, cl⟩]) (cl + 1) f1 (g2.push hkv hxv) (fun h1 => (g4 h1).push _ _) ?_
    rw [hm]
    simp only [Instr.mapUpdate, Sem.run_bind, run_underlying hu, Result.andThen_ok, hget, hck, hfk, hset, arr_push]
  · rw [pO_eq] at f1
    have hfk := run_findKey hd f5 f6
    subst f4
    refine fin _ (ents.set j { e' with key := ev tmps ds key, val := ev tmps ds x }) cl f1 (g2.set hkv hxv) (fun h1 => (g4 h1).set f2 rfl) ?_
    rw [hm]
    have hkk : (((⟨ents⟩ : Array MapEntry)[0 + j]?).map (·.key)).getD (ev tmps ds key) = e'.key := by
      rw [Nat.zero_add, arr_get, f2]; rfl
    have hst : (Instr.keyThatStays ((((⟨ents⟩ : Array MapEntry)[0 + j]?).map (·.key)).getD (ev tmps ds key)) (ev tmps ds key)).run P w = .ok (ev tmps ds key) w := by
      rw [hkk]; exact run_keyStays f7
    simp only [Instr.mapUpdate, Sem.run_bind, run_underlying hu, Result.andThen_ok, hget, hck, hfk, hst, hset]
    rw [Nat.zero_add, modify_set _ _ _ _ f2]
theorem w_me (H : HR P w0 ρ h nx w) {t el : TypeId} {s : KK} {z : V} {m key : Operand} (ht : mapT P t = some (s, el)) (hz : zeroV P el = some z) (hT : XR ρ tm tmps (Op.operands (.mapEntry t m key)).toList) (e : wK (.me s z (compX P m) (compX P key)) tm h nx k = .ok r) :
    ∃ v h' nx', k v h' nx' = .ok r ∧ WG P w0 w ρ tmps ds ⟨dst, .mapEntry t m key, ty, pos, aft, gd'⟩ h nx v h' nx' := by
  simp only [wK] at e
  obtain ⟨c, e1, hc⟩ := opd (ds := ds) (o := ⟨dst, .mapEntry t m key, ty, pos, aft, gd'⟩) H hT (by simp [Op.operands]) e
  obtain ⟨kv, e2, hkv⟩ := opd (ds := ds) (o := ⟨dst, .mapEntry t m key, ty, pos, aft, gd'⟩) H hT (by simp [Op.operands]) e1
  obtain ⟨e4, hkf⟩ := keyCk_ok e2
  cases c <;> simp only at e4 <;> first | cases e4 | skip
  rename_i o
  rw [gO_eq] at e4
  obtain ⟨es, hes, e5⟩ := mapE_ok e4
  obtain ⟨b, N, hm, hb⟩ := hc.inv_map
  obtain ⟨ents, cl, g1, g2, g3, g4⟩ := H.map' hb (.inl hes)
  have hbn := g4 hes
  obtain ⟨kt, hu, hkt⟩ := mapT_ok ht
  obtain ⟨d, hd⟩ := hkt.desc
  obtain ⟨zv, hz1, hz2, _⟩ := zeroV_ok (ρ := ρ) hz
  have hzr := run_zeroValue (P := P) (w := w) hz1
  have hlt := (Array.getElem?_eq_some_iff.1 g1).1
  have hget := run_getObj (P := P) g1 (by simp)
  have hset := fun o' => run_setObj (P := P) (o' := o') g1 (by simp)
  have hck := run_checkKey (w := w) hkt hkv hkf false 9998
  have fin : ∀ es' ents' cl' i c u, k (.tup [c, .int .i64 (.ofNat i)]) (h.put .dead (.map es') o) nx = .ok r → MR ρ es' ents' → Born ents' cl' → VR ρ c u → (Instr.mapEntry t (ev tmps ds m) (ev tmps ds key)).run P w = .ok (.tuple #[u, .int .i64 i]) (w.putObj b (.map ⟨ents'⟩ cl')) →
      ∃ v h' nx', k v h' nx' = .ok r ∧ WG P w0 w ρ tmps ds ⟨dst, .mapEntry t m key, ty, pos, aft, gd'⟩ h nx v h' nx' := fun es' ents' cl' i c u hk hmr hb' hcu hrun => by
    obtain ⟨f1, f2⟩ := H.setMap (cl' := cl') hb (.inl hes) g3 hlt hmr (fun _ => hb')
    rw [hes] at f1 f2
    exact ⟨_, _, _, hk, _, ρ, _, .inl (by simp [execOp, hrun]), hcu.tup2 (.int _ _), f1, f2, Nat.le_refl _⟩
  rcases updK_ok (i := 0) H hkt hkv g2 e5 with ⟨es', f1, f2, f3, f4⟩ | ⟨es', j, c', e', f1, f2, f3, f4, f5, f6, f7⟩
  · rw [pO_eq] at f1
    have hfk := run_findKey hd f3 f4
    subst f2
    have hcl : es.length = cl := by rw [g2.len, hbn.1]
    rw [Nat.zero_add, hcl] at f1
    refine fin _ (ents ++ [⟨ev tmps ds key, zv, cl⟩]) (cl + 1) _ _ zv f1 (g2.push hkv hz2) (hbn.push _ _) hz2 ?_
    rw [hm]
    simp only [Instr.mapEntry, Sem.run_bind, run_underlying hu, Result.andThen_ok, hget, hck, hfk, hset, hzr, Sem.run_pure, goInt, arr_push]
  · rw [pO_eq] at f1
    have hfk := run_findKey hd f5 f6
    subst f4
    rw [Nat.zero_add] at f1
    have hej : e'.born = j := hbn.2 j e' f2
    refine fin _ (ents.set j { e' with key := ev tmps ds key }) cl _ _ e'.val f1 (g2.set hkv f3) (hbn.set f2 rfl) f3 ?_
    rw [hm]
    have hkk : (((⟨ents⟩ : Array MapEntry)[0 + j]?).map (·.key)).getD (ev tmps ds key) = e'.key := by
      rw [Nat.zero_add, arr_get, f2]; rfl
    have hbb : (((⟨ents⟩ : Array MapEntry)[0 + j]?).map (fun e => (e.born : Int))).getD 0 = (j : Int) := by
      rw [Nat.zero_add, arr_get, f2]; simp [hej]
    have hst : (Instr.keyThatStays ((((⟨ents⟩ : Array MapEntry)[0 + j]?).map (·.key)).getD (ev tmps ds key)) (ev tmps ds key)).run P w = .ok (ev tmps ds key) w := by
      rw [hkk]; exact run_keyStays f7
    simp only [Instr.mapEntry, Sem.run_bind, run_underlying hu, Result.andThen_ok, hget, hck, hfk, hst, hset, hbb, Sem.run_pure, goInt]
    rw [Nat.zero_add, modify_set _ _ _ _ f2]
theorem setK_ok {v : V} : ∀ {i : Nat} {es : List (V × V)} {k : List (V × V) → Res}, setK v i es k = .ok r → ∃ p, es[i]? = some p ∧ k (es.set i (p.1, v)) = .ok r
  | i, [], k, e => by cases i <;> cases e
  | 0, (y, u) :: es, k, e => ⟨_, rfl, e⟩
  | i + 1, p :: es, k, e => by
    obtain ⟨q, h1, h2⟩ := setK_ok (i := i) (es := es) e
    exact ⟨q, by simpa using h1, h2⟩
theorem findIdx_born {ents : List MapEntry} {cl : Nat} (hb : Born ents cl) {j : Nat} {e : MapEntry} (he : ents[j]? = some e) : (⟨ents⟩ : Array MapEntry).findIdx? (fun e => (e.born : Int) == (j : Int)) = some j := by
  have hlt := (List.getElem?_eq_some_iff.1 he).1
  rw [show (⟨ents⟩ : Array MapEntry) = ents.toArray from rfl, List.findIdx?_toArray, List.findIdx?_eq_some_iff_getElem]
  refine ⟨hlt, ?_, fun i hi => ?_⟩
  · have := hb.2 j ents[j] (by simp [hlt])
    simp [this]
  · have hil : i < ents.length := by omega
    have := hb.2 i ents[i] (by simp [hil])
    simp [this]; omega
theorem w_es (H : HR P w0 ρ h nx w) {t : TypeId} {m s x : Operand} (hT : XR ρ tm tmps (Op.operands (.entryStore t m s x)).toList) (e : wK (.es (compX P m) (compX P s) (compX P x)) tm h nx k = .ok r) :
    ∃ v h' nx', k v h' nx' = .ok r ∧ WG P w0 w ρ tmps ds ⟨dst, .entryStore t m s x, ty, pos, aft, gd'⟩ h nx v h' nx' := by
  simp only [wK] at e
  obtain ⟨c, e1, hc⟩ := opd (ds := ds) (o := ⟨dst, .entryStore t m s x, ty, pos, aft, gd'⟩) H hT (by simp [Op.operands]) e
  obtain ⟨sv, e2, hsv⟩ := opd (ds := ds) (o := ⟨dst, .entryStore t m s x, ty, pos, aft, gd'⟩) H hT (by simp [Op.operands]) e1
  obtain ⟨kd, i, hi, e3⟩ := asN_ok e2
  subst hi
  obtain ⟨xv, e4, hxv⟩ := opd (ds := ds) (o := ⟨dst, .entryStore t m s x, ty, pos, aft, gd'⟩) H hT (by simp [Op.operands]) e3
  cases c <;> simp only at e4 <;> first | cases e4 | skip
  rename_i o
  rw [gO_eq] at e4
  obtain ⟨es, hes, e5⟩ := mapE_ok e4
  obtain ⟨p, hp, e6⟩ := setK_ok e5
  rw [pO_eq] at e6
  obtain ⟨b, N, hm, hb⟩ := hc.inv_map
  obtain ⟨ents, cl, g1, g2, g3, g4⟩ := H.map' hb (.inl hes)
  have hbn := g4 hes
  have hil : i < ents.length := by rw [← g2.len]; exact (List.getElem?_eq_some_iff.1 hp).1
  obtain ⟨en, hen⟩ : ∃ en, ents[i]? = some en := ⟨ents[i], by simp [hil]⟩
  have hlt := (Array.getElem?_eq_some_iff.1 g1).1
  have hget := run_getObj (P := P) g1 (by simp)
  have hset := fun o' => run_setObj (P := P) (o' := o') g1 (by simp)
  obtain ⟨f1, f2⟩ := H.setMap (es' := es.set i (p.1, xv)) (ents' := ents.set i { en with val := ev tmps ds x }) (cl' := cl) hb (.inl hes) g3 hlt (g2.set (g2.key i p en hp hen) hxv) (fun _ => hbn.set hen rfl)
  rw [hes] at f1 f2
  refine ⟨_, _, _, e6, _, ρ, _, .inr ⟨?_, rfl⟩, VR.undef, f1, f2, Nat.le_refl _⟩
  have hs : ev tmps ds s = .int kd (i : Int) := hsv.inv_int
  have hidx := findIdx_born hbn hen
  have : (Instr.entryStore t (ev tmps ds m) (ev tmps ds s) (ev tmps ds x)).run P w = .ok () (w.putObj b (.map ⟨ents.set i { en with val := ev tmps ds x }⟩ cl)) := by
    rw [hm, hs]
    simp only [Instr.entryStore, Sem.run_bind, hget, Result.andThen_ok, asInt, asIntOf, Sem.run_pure, hidx, hset]
    rw [modify_set _ _ _ _ hen]
  simp [execOp, this]
end
end Go.CM
end
