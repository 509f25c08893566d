import Derived.Test.YtdkkaldimefljaaGreatDoorX20
import Derived.Test.YtdkkaldimefljaaGreatDoorX08
import Derived.Test.YtdkkaldimefljaaGreatDoorX11
set_option linter.all false
noncomputable section
namespace Go.CM
open Go.AM (szOf aggOf bytesAt sliceElem)
variable {P : Program} {w0 w : World} {ρ : Rho} {h : T O} {nx : Q} {tm : T V} {tmps : Array Value} {ds : List Deferred} {r v : V}
theorem orW_ok {o : Option WB} {b : WB} (hb : orW o = .w b) : o = some b := by
  cases o with
  | none => cases hb
  | some p => simp only [orW] at hb; cases hb; rfl
theorem orP_w {o : Option PB} {b : WB} (hb : orP o = .w b) : False := by cases o <;> cases hb
theorem orA_w {o : Option AB} {b : WB} (hb : orA o = .w b) : False := by cases o <;> cases hb
theorem notInt {t : TypeId} (h : ∃ u : Unit, (match P.underlying t with | some (.slice _) => some () | some .string => some () | _ => none) = some u) : ∃ d, P.underlying t = some d ∧ ∀ k, d ≠ .int k := by
  obtain ⟨u, h⟩ := h
  split at h
  · rename_i hu; exact ⟨_, hu, fun k e => by cases e⟩
  · rename_i hu; exact ⟨_, hu, fun k e => by cases e⟩
  · cases h
theorem wOp_ok (H : HR P w0 ρ h nx w) {o : Oper} {b : WB} {k : V → T O → Q → Res} (hb : compOp P o = .w b) (hT : XR ρ tm tmps o.op.operands.toList) (e : wK b tm h nx k = .ok r) :
    ∃ v h' nx', k v h' nx' = .ok r ∧ WG P w0 w ρ tmps ds o h nx v h' nx' := by
  obtain ⟨dst, op, ty, pos, aft, gd'⟩ := o
  cases op <;> simp only [compOp] at hb
  case store t a x =>
    obtain ⟨s, hs, hb⟩ := mapo (orW_ok hb)
    subst hb
    exact w_st H hs hT e
  case mapUpdate t m key x =>
    split at hb
    · rename_i s el ht
      cases hb; exact w_mu H (.inl rfl) ht hT e
    · cases hb
  case insert t m key x =>
    split at hb
    · rename_i s el ht
      cases hb; exact w_mu H (.inr rfl) ht hT e
    · cases hb
  case mapEntry t m key =>
    split at hb
    · rename_i s el ht
      obtain ⟨z, hz, hb⟩ := mapo (orW_ok hb)
      subst hb
      exact w_me H ht hz hT e
    · cases hb
  case entryStore t m s x => cases hb; exact w_es H hT e
  case convert s d x =>
    split at hb
    · cases hb
    · cases hb
    · cases hb
    · split at hb <;> cases hb
    · split at hb
      · split at hb <;> cases hb
      · cases hb
    · rename_i hs hd
      split at hb
      · rename_i he
        cases hb; exact w_sb H hs hd he hT e
      · cases hb
    · cases hb
  case call c =>
    obtain ⟨cal, a, ts⟩ := c
    cases cal <;> simp only [compCall] at hb
    · cases hb
    · cases hb
    · split at hb
      · rename_i ha hts
        obtain ⟨el, hel, hb⟩ := bindo (orW_ok hb)
        obtain ⟨u, hu, hb⟩ := bindo hb
        obtain ⟨s, hs, hb⟩ := bindo hb
        obtain ⟨z, hz, hb⟩ := bindo hb
        split at hb
        · rename_i hg
          simp at hb; subst hb
          simp only [Bool.and_eq_true] at hg
          exact w_ap H ha hts (sliceElem_ok hel) (notInt ⟨u, hu⟩) hs hz (blt_ok hg.1.1) (Nat.le_of_ble_eq_true hg.1.2) (blt_ok hg.2) hT e
        · cases hb
      · split at hb <;> cases hb
      · rename_i ha hts
        obtain ⟨el, hel, hb⟩ := bindo (orW_ok hb)
        obtain ⟨el2, _, hb⟩ := bindo hb
        obtain ⟨s, hs, hb⟩ := mapo hb
        subst hb
        exact w_cp H ha (by rw [← Array.getElem?_toList, hts]; rfl) (sliceElem_ok hel) hs hT e
      · cases hb
      · rename_i ha hts
        split at hb
        · rename_i hp
          split at hb
          · rename_i hc
            cases hb; exact w_us H ha hts hp (Nat.eq_of_beq_eq_true hc) hT e
          · cases hb
        · cases hb
      · cases hb
      · cases hb
      · cases hb
  case defer c =>
    split at hb
    · cases hb
    · split at hb
      · split at hb <;> cases hb
      · cases hb
    · cases hb
  case alloc t => exact (orA_w hb).elim
  case box t x => exact (orA_w hb).elim
  case buildSlice t len parts => exact (orA_w hb).elim
  case makeMap t r' => split at hb <;> cases hb
  case makeSlice t l c => exact (orA_w hb).elim
  case binOp op t x y yt => cases hb
  case build t parts => exact (orP_w hb).elim
  case load t a => exact (orP_w hb).elim
  case unOp op t x => cases op <;> cases hb
  case makeInterface t x => split at hb <;> cases hb
  case makeFunc fn first caps => split at hb <;> cases hb
  case slice t x lo hi mx =>
    split at hb
    · cases hb
    · split at hb
      · cases hb
      · exact (orP_w hb).elim
    · cases hb
  case fieldAddr t x f => exact (orP_w hb).elim
  case field t x f => exact (orP_w hb).elim
  case indexAddr t x i =>
    split at hb
    · exact (orP_w hb).elim
    · exact (orP_w hb).elim
    · cases hb
  case index t x i =>
    split at hb
    · cases hb
    · exact (orP_w hb).elim
    · cases hb
  case lookup t m key ok =>
    split at hb
    · exact (orP_w hb).elim
    · cases hb
  case typeAssert x xt t okb => exact (orP_w hb).elim
  all_goals cases hb
theorem eqF_ok : ∀ {a b : V}, eqF a b = true → a = b := by
  intro a b e
  cases a <;> cases b <;> simp only [eqF, Bool.and_eq_true, beq_iff_eq, Bool.false_eq_true] at e
  all_goals first
    | rfl
    | (subst e; rfl)
    | (obtain ⟨e1, e2⟩ := e; have h1 := ikN_inj e1; rw [eqI_eq] at e2; simp at e2; subst h1; subst e2; rfl)
    | (obtain ⟨e1, e2⟩ := e; have h1 := Nat.eq_of_beq_eq_true e1; have h2 := Nat.eq_of_beq_eq_true e2; subst h1; subst h2; rfl)
    | (obtain ⟨e1, e2⟩ := e; have h1 := Q.beq_iff.1 e1; have h2 := Nat.eq_of_beq_eq_true e2; subst h1; subst h2; rfl)
    | (obtain ⟨⟨⟨e1, e2⟩, e3⟩, e4⟩ := e; have h1 := Q.beq_iff.1 e1; have h2 := Nat.eq_of_beq_eq_true e2; have h3 := Nat.eq_of_beq_eq_true e3; have h4 := Nat.eq_of_beq_eq_true e4; subst h1; subst h2; subst h3; subst h4; rfl)
    | (have h1 := Q.beq_iff.1 e; subst h1; rfl)
    | cases e
theorem eqL_ok : ∀ {l m : List V}, eqL l m = true → l = m
  | [], [], _ => rfl
  | [], _ :: _, e => by cases e
  | _ :: _, [], e => by cases e
  | a :: l, b :: m, e => by
    simp only [eqL] at e
    split at e
    · rename_i h1
      rw [eqF_ok h1, eqL_ok e]
    · cases e
theorem eqV_ok {a b : V} (e : eqV a b = true) : a = b := by
  cases a <;> simp only [eqV] at e
  case agg l => cases b <;> simp only [Bool.false_eq_true] at e; rw [eqL_ok e]
  case tup l => cases b <;> simp only [Bool.false_eq_true] at e; rw [eqL_ok e]
  case fn f l l' =>
    cases b <;> simp only [Bool.false_eq_true] at e
    simp only [Bool.and_eq_true] at e
    rw [Q.beq_iff.1 e.1, eqL_ok e.2.1, eqL_ok e.2.2]
  all_goals exact eqF_ok e
end Go.CM
end
noncomputable section
namespace Go.CM
variable {P : Program} {ops : Array Oper}
theorem bfs_eq : ∀ (l : List Oper) (acc : List Nat), bfs l acc = (l.foldl (fun (acc : Array Nat) o => acc.push (o.after.foldl (fun s e => if Region.binds .any e then s ||| 2 ^ e.on ||| acc.getD e.on 0 else s) 0)) ⟨acc⟩).toList
  | [], acc => rfl
  | o :: l, acc => by
    simp only [bfs, List.foldl_cons]
    rw [bfs_eq l]
    congr 2
    apply Array.ext'
    simp
theorem bfs_before : bfs ops.toList [] = (Region.before ops).toList := by
  rw [bfs_eq]
  unfold Region.before
  rw [← Array.foldl_toList]
def Edges (ops : Array Oper) : Prop := ∀ (i : Nat) (o : Oper), ops[i]? = some o → ∀ e ∈ o.after.toList, Region.binds .any e = true → e.on < i
def Closed (ops : Array Oper) (S : Nat → Prop) : Prop := ∀ (j : Nat) (o : Oper), S j → ops[j]? = some o → ∀ e ∈ o.after.toList, Region.binds .any e = true → S e.on
theorem before_in (hE : Edges ops) {S : Nat → Prop} (hS : Closed ops S) : ∀ (n i : Nat), i < n → (∀ o : Oper, ops[i]? = some o → ∀ e ∈ o.after.toList, Region.binds .any e = true → S e.on) →
    ∀ p, ((bfs ops.toList []).getD i 0).testBit p = true → S p
  | 0, i, hi, _, p, _ => by omega
  | n + 1, i, hi, hi2, p, hb => by
    have hb' : ((Region.before ops).getD i 0).testBit p = true := by
      rw [bfs_before] at hb
      rw [Array.getD_eq_getD_getElem?]
      rw [List.getD_eq_getElem?_getD, Array.getElem?_toList] at hb
      exact hb
    obtain ⟨o, ho, e, he, hbd, h⟩ := (AM.before_inv ops).2 i p hb'
    rw [Array.getElem?_toList] at ho
    have hs := hi2 o ho e he hbd
    rcases h with h | h
    · subst h; exact hs
    · have := hE i o ho e he hbd
      refine before_in hE hS n e.on (by omega) (fun o' ho' e' he' hb' => hS e.on o' hs ho' e' he' hb') p ?_
      rw [bfs_before, List.getD_eq_getElem?_getD, Array.getElem?_toList, ← Array.getD_eq_getD_getElem?]; exact h
inductive Ordr (ops : Array Oper) : (Nat → Prop) → List Nat → Prop where
  | nil {D : Nat → Prop} (h : ∀ i, i < ops.size → D i) : Ordr ops D []
  | cons {D : Nat → Prop} {i : Nat} {r : List Nat} (hi : i < ops.size) (hn : ¬ D i) (he : ∀ o : Oper, ops[i]? = some o → ∀ e ∈ o.after.toList, Region.binds .any e = true → D e.on) (hr : Ordr ops (fun j => D j ∨ j = i) r) : Ordr ops D (i :: r)
theorem Ordr.congr {D D' : Nat → Prop} {r : List Nat} (h : Ordr ops D r) (hD : ∀ i, D i ↔ D' i) : Ordr ops D' r := by
  have : D = D' := funext fun i => propext (hD i)
  rw [← this]; exact h
open AM (rem rem_set range_pw) in
theorem go_ordr (hE : Edges ops) : ∀ (fuel t : Nat) (listed : Array Bool), listed.size = ops.size → (rem ops.size listed).length = fuel → Ordr ops (fun i => listed.getD i false = true) (Region.linearise.go .any ops fuel t listed [])
  | 0, t, listed, hs, hl => by
    have hr := List.length_eq_zero_iff.1 hl
    refine .nil fun i hi => ?_
    cases hv : listed.getD i true with
    | true =>
      rw [Array.getD_eq_getD_getElem?, Array.getElem?_eq_getElem (by omega)] at hv ⊢
      exact hv
    | false =>
      have : i ∈ rem ops.size listed := by
        unfold rem
        simp only [List.mem_filter, List.mem_range]
        exact ⟨hi, by rw [hv]; rfl⟩
      rw [hr] at this; cases this
  | fuel + 1, t, listed, hs, hl => by
    have hready : ∀ i, i ∈ Region.ready .any ops listed ↔ i ∈ rem ops.size listed ∧ ∀ o : Oper, ops[i]? = some o → ∀ e ∈ o.after.toList, Region.binds .any e = true → listed.getD e.on false = true := fun i => by
      unfold Region.ready rem
      simp only [List.mem_filter, List.mem_range, Bool.and_eq_true]
      constructor
      · rintro ⟨h1, h2, h3⟩
        refine ⟨⟨h1, h2⟩, fun o ho e he hb => ?_⟩
        rw [ho] at h3
        simp only [Option.map_some, Option.getD_some] at h3
        rw [← Array.all_toList] at h3
        have := List.all_eq_true.1 h3 e he
        simpa [hb] using this
      · rintro ⟨⟨h1, h2⟩, h3⟩
        refine ⟨h1, h2, ?_⟩
        rw [Array.getElem?_eq_getElem h1]
        simp only [Option.map_some, Option.getD_some]
        rw [← Array.all_toList]
        refine List.all_eq_true.2 fun e he => ?_
        cases hb : Region.binds .any e with
        | false => rfl
        | true => simpa using h3 _ (Array.getElem?_eq_getElem h1) e he hb
    have hpw : (rem ops.size listed).Pairwise (· < ·) := (range_pw _).filter _
    have hne : Region.ready .any ops listed ≠ [] := by
      cases hr : rem ops.size listed with
      | nil => rw [hr] at hl; simp at hl
      | cons m rest =>
        have hm : m ∈ Region.ready .any ops listed := (hready m).2 ⟨by simp [hr], fun o ho e he hb => by
          have hlt := hE m o ho e he hb
          have hmn : m < ops.size := (Array.getElem?_eq_some_iff.1 ho).1
          cases hv : listed.getD e.on true with
          | true =>
            rw [Array.getD_eq_getD_getElem?, Array.getElem?_eq_getElem (by omega)] at hv ⊢
            exact hv
          | false =>
            have : e.on ∈ rem ops.size listed := by
              unfold rem
              simp only [List.mem_filter, List.mem_range]
              exact ⟨by omega, by rw [hv]; rfl⟩
            rw [hr] at this hpw
            rw [List.pairwise_cons] at hpw
            rcases List.mem_cons.1 this with h' | h'
            · omega
            · have := hpw.1 _ h'; omega⟩
        intro h0; rw [h0] at hm; cases hm
    simp only [Region.linearise.go]
    change Ordr ops _ (match (Region.ready .any ops listed)[t % (Region.ready .any ops listed).length]? with
      | some i => Region.linearise.go .any ops fuel (t / (Region.ready .any ops listed).length) (listed.setIfInBounds i true) [i]
      | none => [].reverse)
    cases hi : (Region.ready .any ops listed)[t % (Region.ready .any ops listed).length]? with
    | none =>
      exfalso
      rw [List.getElem?_eq_none_iff] at hi
      have hpos : 0 < (Region.ready .any ops listed).length := List.length_pos_iff.2 hne
      have := Nat.mod_lt t hpos
      omega
    | some i =>
      simp only
      rw [linearise_go_acc, List.reverse_singleton, List.singleton_append]
      obtain ⟨hir, hie⟩ := (hready i).1 (List.mem_of_getElem? hi)
      have hir' := hir
      unfold rem at hir'
      have hin : i < ops.size := List.mem_range.1 (List.mem_filter.1 hir').1
      obtain ⟨pre, post, hsp⟩ := List.append_of_mem hir
      have hset := rem_set hsp (by omega)
      refine .cons hin (fun h => ?_) hie ?_
      · have h3 := (List.mem_filter.1 hir').2
        rw [Array.getD_eq_getD_getElem?, Array.getElem?_eq_getElem (by omega)] at h h3
        simp only [Option.getD_some] at h h3
        rw [h] at h3; cases h3
      · refine (go_ordr hE fuel _ (listed.setIfInBounds i true) (by simp [hs]) ?_).congr fun j => ?_
        · rw [hset]
          rw [hsp] at hl
          simp at hl ⊢
          omega
        · by_cases hji : j = i
          · subst hji
            simp [Array.getD_eq_getD_getElem?, Array.getElem?_setIfInBounds_self, hs, hin]
          · rw [Array.getD_eq_getD_getElem?, Array.getElem?_setIfInBounds_ne (Ne.symm hji), ← Array.getD_eq_getD_getElem?]
            exact ⟨fun h => .inl h, fun h => h.resolve_right hji⟩
theorem schedule_ordr (hm : P.follows .mixedOrders = true) (hE : Edges ops) (t : Nat) : Ordr ops (fun _ => False) (Region.schedule (P.follows .mixedOrders) ops t) := by
  rw [show Region.schedule (P.follows .mixedOrders) ops t = Region.linearise .any ops t by simp [Region.schedule, hm]]
  have hrem : AM.rem ops.size (Array.replicate ops.size false) = List.range ops.size := by
    unfold AM.rem
    refine List.filter_eq_self.2 fun k hk' => ?_
    have := List.mem_range.1 hk'
    simp [Array.getD_eq_getD_getElem?, Array.getElem?_replicate, this]
  unfold Region.linearise
  refine (go_ordr hE ops.size t _ (by simp) (by rw [hrem]; simp)).congr fun i => ?_
  rw [Array.getD_eq_getD_getElem?, Array.getElem?_replicate]
  constructor
  · intro h
    split at h <;> simp at h
  · exact fun h => h.elim
theorem sub_ok {a b : Nat} (h : sub a b = true) : ∀ p, a.testBit p = true → b.testBit p = true := fun p hp => by
  have h1 : a &&& b = a := Nat.eq_of_beq_eq_true h
  rw [← h1, Nat.testBit_and] at hp
  rw [Bool.and_eq_true] at hp
  exact hp.2
theorem infOf_get : ∀ {os : List Oper} {bl : List Nat} {i : Nat} {f : Inf}, (infOf P ops os bl)[i]? = some f → ∃ o b, os[i]? = some o ∧ bl[i]? = some b ∧ f = .mk b (rdsOf ops o) o.dst (isW (compOp P o) || isAs o.op) (isRO (compOp P o)) o.guard.isSome
  | [], bl, i, f, h => by cases bl <;> simp [infOf] at h
  | _ :: _, [], i, f, h => by simp [infOf] at h
  | o :: os, b :: bl, 0, f, h => by simp [infOf] at h; exact ⟨o, b, rfl, rfl, h.symm⟩
  | o :: os, b :: bl, i + 1, f, h => by
    obtain ⟨o', b', h1, h2, h3⟩ := infOf_get (os := os) (bl := bl) (i := i) (f := f) (by simpa [infOf] using h)
    exact ⟨o', b', by simpa using h1, by simpa using h2, h3⟩
theorem foldl_bits (t : Nat) : ∀ (l : List Operand) (s : Nat), (s.testBit t = true ∨ Operand.tmp t ∈ l) → (l.foldl (fun s x => match x with | .tmp t => s ||| 2 ^ t | _ => s) s).testBit t = true
  | [], s, h => by simpa using h
  | x :: l, s, h => by
    simp only [List.foldl_cons]
    refine foldl_bits t l _ ?_
    rcases h with h | h
    · cases x <;> simp [Nat.testBit_or, h]
    · rcases List.mem_cons.1 h with rfl | h
      · left; simp [Nat.testBit_or, Nat.testBit_two_pow]
      · exact .inr h
theorem rds_op {o : Oper} {t : Nat} (h : Operand.tmp t ∈ o.op.operands.toList) : (rdsOf ops o).testBit t = true := foldl_bits t _ _ (.inr h)
theorem rds_guard {o : Oper} {j t : Nat} {b : Bool} (hg : o.guard = some (j, b)) (ht : (ops[j]?).bind (·.dst) = some t) : (rdsOf ops o).testBit t = true := by
  unfold rdsOf
  rw [hg]
  refine foldl_bits t _ _ (.inl ?_)
  simp only [ht]
  simp [Nat.testBit_two_pow]
theorem wOk_ok {w wbf e : Nat} {l : List Pl} : ∀ {fs : List Inf} {k : Nat}, wOk w wbf e l fs k = true → ∀ (j : Nat) (f : Inf), fs[j]? = some f → k + j ≠ w → (e.testBit (k + j) = false → f.bf.testBit w = true) ∧ (e.testBit (k + j) = true → f.r = true → wbf.testBit (k + j) = true ∨ chkHas (k + j) l = true)
  | [], k, h, j, f, hf, _ => by simp at hf
  | g :: fs, k, h, 0, f, hf, hne => by
    simp at hf; subst hf
    simp only [wOk, Bool.and_eq_true] at h
    have h1 := h.1
    split at h1
    · rename_i hb; exact absurd (Nat.eq_of_beq_eq_true hb) hne
    · split at h1
      · rename_i he; exact ⟨fun _ => h1, (fun h2 => by simp only [Nat.add_zero] at h2; rw [he] at h2; cases h2)⟩
      · rename_i he
        refine ⟨(fun h2 => by simp only [Nat.add_zero] at h2; rw [he] at h2; cases h2), fun _ hr => ?_⟩
        simp only [Bool.or_eq_true, Bool.not_eq_true'] at h1
        rcases h1 with (h1 | h1) | h1
        · rw [hr] at h1; cases h1
        · exact .inl h1
        · exact .inr h1
  | g :: fs, k, h, j + 1, f, hf, hne => by
    simp only [wOk, Bool.and_eq_true] at h
    have := wOk_ok h.2 j f (by simpa using hf) (by omega)
    rw [show k + 1 + j = k + (j + 1) by omega] at this
    exact this
theorem dstCk_ok {t i bf : Nat} {w : Bool} : ∀ {fs : List Inf} {k : Nat}, dstCk t i w bf fs k = true → ∀ (j : Nat) (f : Inf), fs[j]? = some f → (k + j = i → w = true ∨ f.rd.testBit t = false) ∧ (k + j ≠ i → f.dst ≠ some t ∧ (f.rd.testBit t = true → f.bf.testBit i = true ∨ (w = true ∧ bf.testBit (k + j) = true)))
  | [], k, h, j, f, hf => by simp at hf
  | g :: fs, k, h, 0, f, hf => by
    simp at hf; subst hf
    simp only [dstCk, Bool.and_eq_true] at h
    have h1 := h.1
    split at h1
    · rename_i hb
      have hb := Nat.eq_of_beq_eq_true hb
      refine ⟨fun _ => by simpa using h1, fun hne => absurd hb.symm hne⟩
    · rename_i hb
      refine ⟨fun he => by rw [← he] at hb; simp [Nat.beq_refl] at hb, fun _ => ?_⟩
      simp only [Bool.and_eq_true] at h1
      refine ⟨fun hd => ?_, fun hr => ?_⟩
      · have h2 := h1.1
        rw [hd] at h2
        simp [Nat.beq_refl] at h2
      · have h2 := h1.2
        simp only [Bool.or_eq_true, Bool.not_eq_true', hr, Bool.and_eq_true] at h2
        rcases h2 with (h2 | h2) | h2
        · cases h2
        · exact .inl h2
        · exact .inr h2
  | g :: fs, k, h, j + 1, f, hf => by
    simp only [dstCk, Bool.and_eq_true] at h
    have := dstCk_ok h.2 j f (by simpa using hf)
    rw [show k + 1 + j = k + (j + 1) by omega] at this
    exact this
theorem tmpCk_ok {all : List Inf} : ∀ {fs : List Inf} {k : Nat}, tmpCk all fs k = true → ∀ (i : Nat) (f : Inf) t, fs[i]? = some f → f.dst = some t → dstCk t (k + i) f.w f.bf all 0 = true
  | [], k, h, i, f, t, hf, _ => by simp at hf
  | g :: fs, k, h, 0, f, t, hf, hd => by
    simp at hf; subst hf
    simp only [tmpCk, Bool.and_eq_true] at h
    have h1 := h.1
    rw [hd] at h1
    exact h1
  | g :: fs, k, h, i + 1, f, t, hf, hd => by
    simp only [tmpCk, Bool.and_eq_true] at h
    have := tmpCk_ok h.2 i f t (by simpa using hf) hd
    rw [show k + 1 + i = k + (i + 1) by omega] at this
    exact this
theorem edgeCk_ok : ∀ {os : List Oper} {k : Nat}, edgeCk os k = true → ∀ (i : Nat) (o : Oper), os[i]? = some o → ∀ e ∈ o.after.toList, Region.binds .any e = true → e.on < k + i
  | [], k, h, i, o, ho, _, _, _ => by simp at ho
  | p :: os, k, h, 0, o, ho, e, he, hb => by
    simp at ho; subst ho
    simp only [edgeCk, Bool.and_eq_true] at h
    have := List.all_eq_true.1 h.1 e he
    simp only [hb, Bool.not_true, Bool.false_or] at this
    exact blt_ok this
  | p :: os, k, h, i + 1, o, ho, e, he, hb => by
    simp only [edgeCk, Bool.and_eq_true] at h
    have := edgeCk_ok h.2 i o (by simpa using ho) e he hb
    omega
end Go.CM
end
noncomputable section
namespace Go.CM
open Go.AM (step_value step_nothing)
variable {P : Program} {w0 w : World} {ρ : Rho} {h : T O} {nx : Q} {tm : T V} {tmps : Array Value} {r v : V} {ops : Array Oper} {n : Nat}
theorem compO_ok {o : Oper} {d : Option Q} {g : Option (Q × Bool)} {b : OB} (hc : compO P n ops o = .mk d g b) (hb : CO.mk d g b ≠ badCO) :
    b = compOp P o ∧ d = o.dst.map qn ∧ (∀ x, o.dst = some x → x < n) ∧ ((o.guard = none ∧ g = none) ∨ ∃ j want t, o.guard = some (j, want) ∧ (ops[j]?).bind (·.dst) = some t ∧ g = some (qn t, want) ∧ t < n) := by
  have bad : badCO = .mk d g b → CO.mk d g b = badCO := fun e => e.symm
  unfold compO dstN at hc
  cases hd : o.dst with
  | none =>
    simp only [hd] at hc
    cases hg : o.guard with
    | none => simp only [hg] at hc; cases hc; exact ⟨rfl, rfl, fun x hx => (by cases hx), .inl ⟨rfl, rfl⟩⟩
    | some jw =>
      obtain ⟨j, want⟩ := jw
      simp only [hg] at hc
      split at hc
      · exact absurd (bad hc) hb
      · rename_i t ht
        split at hc
        · rename_i hlt; cases hc; exact ⟨rfl, rfl, fun x hx => (by cases hx), .inr ⟨j, want, t, rfl, ht, rfl, blt_ok hlt⟩⟩
        · exact absurd (bad hc) hb
  | some x =>
    simp only [hd] at hc
    cases hlt : Nat.blt x n with
    | false => simp only [hlt] at hc; exact absurd (bad hc) hb
    | true =>
      simp only [hlt] at hc
      have hx : ∀ y, some x = some y → y < n := fun y hy => by cases hy; exact blt_ok hlt
      cases hg : o.guard with
      | none => simp only [hg] at hc; cases hc; exact ⟨rfl, rfl, hx, .inl ⟨rfl, rfl⟩⟩
      | some jw =>
        obtain ⟨j, want⟩ := jw
        simp only [hg] at hc
        split at hc
        · exact absurd (bad hc) hb
        · rename_i t ht
          split at hc
          · rename_i hlt; cases hc; exact ⟨rfl, rfl, hx, .inr ⟨j, want, t, rfl, ht, rfl, blt_ok hlt⟩⟩
          · exact absurd (bad hc) hb
theorem nbad {d : Option Q} {g : Option (Q × Bool)} {b : OB} (hb : b ≠ .p .bad) : CO.mk d g b ≠ badCO := fun e => by unfold badCO at e; cases e; exact hb rfl
def gpass (g : Option (Q × Bool)) (tm : T V) : Option Bool :=
  match g with
  | none => some true
  | some (q, want) => match tm.get V.undef q with
    | .bool t => some (t == want)
    | .tup [] => some false
    | _ => none
theorem wanted_ok {o : Oper} {g : Option (Q × Bool)} {b : Bool} (hg : (o.guard = none ∧ g = none) ∨ ∃ j want t, o.guard = some (j, want) ∧ (ops[j]?).bind (·.dst) = some t ∧ g = some (qn t, want) ∧ t < n) (hn : n ≤ tmps.size)
    (hT : ∀ j want t, o.guard = some (j, want) → (ops[j]?).bind (·.dst) = some t → VR ρ (tm.at t) (tmps.getD t Go.undef)) (hp : gpass g tm = some b) : Region.wanted o (yielded ops tmps) = b := by
  unfold Region.wanted
  rcases hg with ⟨h1, rfl⟩ | ⟨j, want, t, h1, h2, rfl, h3⟩
  · rw [h1]; simp [gpass] at hp; simp [hp]
  · rw [h1]
    have hv := hT j want t h1 h2
    have hlt : t < tmps.size := Nat.lt_of_lt_of_le h3 hn
    have hy : ∀ u, tmps.getD t Go.undef = u → yielded ops tmps j = (match u with | .bool b => some b | _ => none) := fun u hu => by
      unfold yielded
      rw [h2]
      simp only [Option.bind_some, Array.getElem?_eq_getElem hlt]
      have : tmps[t] = u := by rw [← hu, Array.getD_eq_getD_getElem?, Array.getElem?_eq_getElem hlt]; rfl
      rw [this]
      cases u <;> rfl
    show (yielded ops tmps j == some want) = b
    simp only [gpass] at hp
    split at hp
    · rename_i tt htt
      rw [show tm.at t = .bool tt from htt] at hv
      rw [hy _ hv.inv_bool]
      simp at hp
      rw [← hp]
      cases tt <;> cases want <;> rfl
    · rename_i htt
      rw [show tm.at t = .tup [] from htt] at hv
      obtain ⟨vs, hvs, _⟩ := hv.inv_tup
      rw [hy _ hvs]
      simp at hp
      simp [← hp]
    · cases hp
theorem getD_set {tmps : Array Value} {x : Nat} {u : Value} (hx : x < tmps.size) (t : Nat) : (tmps.setIfInBounds x u).getD t Go.undef = if x = t then u else tmps.getD t Go.undef := by
  rw [Array.getD_eq_getD_getElem?, Array.getElem?_setIfInBounds]
  split
  · simp [hx, *]
  · rw [Array.getD_eq_getD_getElem?]
theorem at_put (tm : T V) (v : V) (x t : Nat) : (tm.put V.undef v (qn x)).at t = if x = t then v else tm.at t := by
  rw [T.at, T.get_put]
  by_cases hx : x = t
  · subst hx; simp
  · rw [if_neg (fun e => hx (qn_inj e)), if_neg hx]
structure SC (P : Program) (ops : Array Oper) : Prop where
  len : (infs P ops).length = ops.size
  edge : Edges ops
  tmp : tmpCk (infs P ops) (infs P ops) 0 = true
theorem SC.inf (hS : SC P ops) {i : Nat} {o : Oper} (ho : ops[i]? = some o) : (infs P ops)[i]? = some (.mk ((bfs ops.toList []).getD i 0) (rdsOf ops o) o.dst (isW (compOp P o) || isAs o.op) (isRO (compOp P o)) o.guard.isSome) := by
  have hlt : i < (infs P ops).length := by rw [hS.len]; exact (Array.getElem?_eq_some_iff.1 ho).1
  obtain ⟨o', b, h1, h2, h3⟩ := infOf_get (P := P) (ops := ops) (os := ops.toList) (bl := bfs ops.toList []) (i := i) (f := (infs P ops)[i]) (show (infs P ops)[i]? = some _ from List.getElem?_eq_getElem hlt)
  rw [Array.getElem?_toList, ho] at h1
  cases h1
  rw [List.getElem?_eq_getElem hlt, h3, List.getD_eq_getElem?_getD, h2]; rfl
abbrev bfOf (ops : Array Oper) (i : Nat) : Nat := (bfs ops.toList []).getD i 0
abbrev wOf (P : Program) (o : Oper) : Bool := isW (compOp P o) || isAs o.op
theorem SC.reads (hS : SC P ops) {i j : Nat} {o p : Oper} {t : Nat} (hi : ops[i]? = some o) (hj : ops[j]? = some p) (hd : o.dst = some t) (hr : (rdsOf ops p).testBit t = true) (hw : j = i → wOf P o = false) :
    j ≠ i ∧ ((bfOf ops j).testBit i = true ∨ (wOf P o = true ∧ (bfOf ops i).testBit j = true)) := by
  have h1 := tmpCk_ok hS.tmp i _ t (hS.inf hi) hd
  rw [Nat.zero_add] at h1
  have h2 := dstCk_ok h1 j _ (hS.inf hj)
  simp only [Nat.zero_add] at h2
  have hne : j ≠ i := fun e => by
    subst e
    rw [hi] at hj; cases hj
    rcases h2.1 rfl with h3 | h3
    · have h4 : wOf P o = true := h3
      rw [hw rfl] at h4; cases h4
    · simp only [Inf.rd] at h3
      rw [h3] at hr; cases hr
  exact ⟨hne, (h2.2 hne).2 hr⟩
theorem SC.dsts (hS : SC P ops) {i j : Nat} {o p : Oper} {t : Nat} (hi : ops[i]? = some o) (hj : ops[j]? = some p) (hd : o.dst = some t) (hne : j ≠ i) : p.dst ≠ some t := by
  have h1 := tmpCk_ok hS.tmp i _ t (hS.inf hi) hd
  rw [Nat.zero_add] at h1
  have h2 := dstCk_ok h1 j _ (hS.inf hj)
  simp only [Nat.zero_add] at h2
  exact (h2.2 hne).1
structure Pnd (P : Program) (n : Nat) (ops : Array Oper) (ρ : Rho) (h : T O) (β : Nat) (nx : Q) (tm : T V) (pl : List Pl) (qf : Nat → Option Q) (i : Nat) (o : Oper) : Prop where
  now : wOf P o = false
  ev : ∃ (d : Option Q) (g : Option (Q × Bool)) (b : OB), compO P n ops o = .mk d g b ∧ CO.mk d g b ≠ badCO ∧ ∃ tm0 : T V, (∀ t, (rdsOf ops o).testBit t = true → tm0.at t = tm.at t) ∧
    ((gpass g tm0 = some false ∧ ∀ x, o.dst = some x → tm.at x = V.undef) ∨ (gpass g tm0 = some true ∧
      ((∃ pb v, b = .p pb ∧ (∀ x, o.dst = some x → tm.at x = v) ∧ ((isR pb = true ∧ chkHas i pl = true) ∨ pK pb tm0 h .ok = .ok v)) ∨
       (∃ ab ob mk q, b = .a ab ∧ AE ab tm0 ob mk ∧ qf i = some q ∧ ρ q = none ∧ h.ob q = ob ∧ β ≤ q.nat ∧ q.nat < nx.nat ∧ ∀ x, o.dst = some x → tm.at x = mk q))))
structure LZ (P : Program) (n : Nat) (ops : Array Oper) (ρ : Rho) (h : T O) (β : Nat) (nx : Q) (tm : T V) (tmps : Array Value) (pl : List Pl) (E : Nat) (r : List Nat) (qf : Nat → Option Q) : Prop where
  sc : SC P ops
  size : n ≤ tmps.size
  ck : planCk (infs P ops) pl E = true
  ord : Ordr ops (fun i => i < ops.size ∧ i ∉ r) r
  nd : r.Nodup
  lt : ∀ i ∈ r, i < ops.size
  cl : Closed ops (fun i => i < ops.size ∧ i ∉ r)
  sub : ∀ i, i < ops.size → i ∉ r → E.testBit i = true
  ecl : ∀ i, i < ops.size → E.testBit i = true → ∀ p, (bfOf ops i).testBit p = true → E.testBit p = true
  inj : ∀ i ∈ r, ∀ j ∈ r, E.testBit i = true → E.testBit j = true → ∀ q, qf i = some q → qf j = some q → i = j
  ql : ∀ i ∈ r, E.testBit i = true → ∀ q, qf i = some q → q.nat < nx.nat
  pend : ∀ i ∈ r, E.testBit i = true → ∀ o, ops[i]? = some o → Pnd P n ops ρ h β nx tm pl qf i o
  vals : ∀ t, (∀ i ∈ r, E.testBit i = true → ∀ o, ops[i]? = some o → o.dst ≠ some t) → VR ρ (tm.at t) (tmps.getD t Go.undef)
theorem LZ.before {β : Nat} {pl : List Pl} {E i : Nat} {r : List Nat} {qf : Nat → Option Q} (L : LZ P n ops ρ h β nx tm tmps pl E (i :: r) qf) {p : Nat} (hp : (bfOf ops i).testBit p = true) : p ∉ i :: r := by
  cases L.ord with
  | cons hi hn he hr => exact (before_in L.sc.edge L.cl (i + 1) i (by omega) he p hp).2
theorem LZ.reads {β : Nat} {pl : List Pl} {E i : Nat} {r : List Nat} {qf : Nat → Option Q} (L : LZ P n ops ρ h β nx tm tmps pl E (i :: r) qf) {o : Oper} (ho : ops[i]? = some o) {t : Nat} (ht : (rdsOf ops o).testBit t = true) (hw : wOf P o = true → E.testBit i = false) : VR ρ (tm.at t) (tmps.getD t Go.undef) := by
  refine L.vals t fun j hj hE p hp hd => ?_
  have hpw := (L.pend j hj hE p hp).now
  obtain ⟨hne, h1⟩ := L.sc.reads hp ho hd ht (fun _ => hpw)
  rcases h1 with h1 | ⟨h1, _⟩
  · exact L.before h1 hj
  · rw [hpw] at h1; cases h1
end Go.CM
end
noncomputable section
namespace Go.CM
open Go.AM (step_value step_nothing)
variable {P : Program} {w0 w : World} {ρ ρ' : Rho} {h : T O} {nx : Q} {tm : T V} {tmps : Array Value} {ds : List Deferred} {v : V} {ops : Array Oper} {n β E : Nat} {pl : List Pl} {r : List Nat} {qf : Nat → Option Q}
def putT (tmps : Array Value) (d : Option Nat) (u : Value) : Array Value :=
  match d with
  | some x => tmps.setIfInBounds x u
  | none => tmps
theorem put_eq (d : Option Nat) (u : Value) : (⟨tmps, ds⟩ : Act).put d u = ⟨putT tmps d u, ds⟩ := by cases d <;> rfl
theorem putT_size (d : Option Nat) (u : Value) : (putT tmps d u).size = tmps.size := by cases d <;> simp [putT]
theorem putT_get {d : Option Nat} {u : Value} (hd : ∀ x, d = some x → x < tmps.size) (t : Nat) : (putT tmps d u).getD t Go.undef = if d = some t then u else tmps.getD t Go.undef := by
  cases d with
  | none => simp [putT]
  | some x =>
    simp only [putT, getD_set (hd x rfl), Option.some.injEq]
theorem AE.uniq {b : AB} {ob ob' : O} {mk mk' : Q → V} (h1 : AE b tm ob mk) (h2 : AE b tm ob' mk') : ob = ob' ∧ mk = mk' := by
  constructor
  · have a1 := h1 fun ob _ => .fuel .e false none [] .nil .nil [] (N5.mk ob nil9 nil9 nil9 nil9 : N5 O (T9 O)) .e
    have a2 := h2 fun ob _ => .fuel .e false none [] .nil .nil [] (N5.mk ob nil9 nil9 nil9 nil9 : N5 O (T9 O)) .e
    rw [a1] at a2
    injection a2 with _ _ _ _ _ _ _ hh _
    exact congrArg (fun t : T O => T.get O.dead t .e) hh
  · funext q
    have a1 := h1 fun _ mk => .ok (mk q)
    have a2 := h2 fun _ mk => .ok (mk q)
    rw [a1] at a2
    simpa using a2
theorem notDefer_p {o : Oper} {pb : PB} {k : V → Res} {r : V} (hb : compOp P o = .p pb) (he : pK pb tm h k = .ok r) : ∀ c, o.op ≠ .defer c := fun c hc => by
  obtain ⟨dst, op, ty, pos, aft, gd'⟩ := o
  simp only at hc
  subst hc
  simp only [compOp] at hb
  split at hb
  · cases hb
  · split at hb
    · split at hb
      · cases hb
      · cases hb; cases he
    · cases hb; cases he
  · cases hb; cases he
theorem notDefer_a {o : Oper} {ab : AB} (hb : compOp P o = .a ab) : ∀ c, o.op ≠ .defer c := fun c hc => by
  obtain ⟨dst, op, ty, pos, aft, gd'⟩ := o
  simp only at hc
  subst hc
  simp only [compOp] at hb
  split at hb
  · cases hb
  · split at hb
    · split at hb <;> cases hb
    · cases hb
  · cases hb
theorem notDefer_w {o : Oper} {wb : WB} (hb : compOp P o = .w wb) : ∀ c, o.op ≠ .defer c := fun c hc => by
  obtain ⟨dst, op, ty, pos, aft, gd'⟩ := o
  simp only at hc
  subst hc
  simp only [compOp] at hb
  split at hb
  · cases hb
  · split at hb
    · split at hb <;> cases hb
    · cases hb
  · cases hb
theorem LZ.mem_iff {i : Nat} (L : LZ P n ops ρ h β nx tm tmps pl E (i :: r) qf) (j : Nat) : (j < ops.size ∧ j ∉ r) ↔ ((j < ops.size ∧ j ∉ i :: r) ∨ j = i) := by
  have hi := L.lt i (by simp)
  have hnd := (List.nodup_cons.1 L.nd).1
  constructor
  · rintro ⟨h1, h2⟩
    by_cases hj : j = i
    · exact .inr hj
    · exact .inl ⟨h1, by simp [hj, h2]⟩
  · rintro (⟨h1, h2⟩ | rfl)
    · exact ⟨h1, fun h => h2 (by simp [h])⟩
    · exact ⟨hi, hnd⟩
theorem LZ.ord_tail {i : Nat} (L : LZ P n ops ρ h β nx tm tmps pl E (i :: r) qf) : Ordr ops (fun j => j < ops.size ∧ j ∉ r) r ∧ Closed ops (fun j => j < ops.size ∧ j ∉ r) := by
  have hm := L.mem_iff
  cases L.ord with
  | cons hi hn he hr =>
    refine ⟨hr.congr fun j => (hm j).symm, fun j o hj ho e he' hb => ?_⟩
    rcases (hm j).1 hj with h1 | rfl
    · exact (hm _).2 (.inl (L.cl j o h1 ho e he' hb))
    · exact (hm _).2 (.inl (he o ho e he' hb))
theorem LZ.pop {i : Nat} {o : Oper} {u : Value} (L : LZ P n ops ρ h β nx tm tmps pl E (i :: r) qf) (hE : E.testBit i = true) (ho : ops[i]? = some o) (hρ : ρ.le ρ') (hq : ∀ j ∈ r, E.testBit j = true → ∀ q, qf j = some q → ρ q = none → ρ' q = none) (hx : ∀ x, o.dst = some x → VR ρ' (tm.at x) u ∧ x < n) :
    LZ P n ops ρ' h β nx tm (putT tmps o.dst u) pl E r qf := by
  obtain ⟨h1, h2⟩ := L.ord_tail
  refine ⟨L.sc, by rw [putT_size]; exact L.size, L.ck, h1, (List.nodup_cons.1 L.nd).2, fun j hj => L.lt j (by simp [hj]), h2, fun j hj hjr => ?_, L.ecl, fun a ha b hb => L.inj a (by simp [ha]) b (by simp [hb]), fun a ha => L.ql a (by simp [ha]), fun j hj hEj p hp => ?_, fun t ht => ?_⟩
  · by_cases hji : j = i
    · subst hji; exact hE
    · exact L.sub j hj (by simp [hji, hjr])
  · obtain ⟨p1, d, g, b, p2, p3, tm0, p4, p5⟩ := L.pend j (by simp [hj]) hEj p hp
    refine ⟨p1, d, g, b, p2, p3, tm0, p4, ?_⟩
    rcases p5 with p5 | ⟨p5, p6⟩
    · exact .inl p5
    · refine .inr ⟨p5, ?_⟩
      rcases p6 with p6 | ⟨ab, ob, mk, q, q1, q2, qs, q3, q4⟩
      · exact .inl p6
      · exact .inr ⟨ab, ob, mk, q, q1, q2, qs, hq j hj hEj q qs q3, q4⟩
  · rw [putT_get (fun x hd => Nat.lt_of_lt_of_le (hx x hd).2 L.size)]
    split
    · rename_i hd; exact (hx t hd).1
    · rename_i hd
      refine (L.vals t fun j hj hEj p hp => ?_).mono hρ
      rcases List.mem_cons.1 hj with rfl | hj
      · rw [ho] at hp; cases hp; exact hd
      · exact ht j hj hEj p hp
theorem LZ.catch1 {i : Nat} (L : LZ P n ops ρ h β nx tm tmps pl E (i :: r) qf) (hE : E.testBit i = true) (hck : chkHas i pl = false) (H : HR P w0 ρ h nx w) (b : Frame) (items : List Item) (cs : List Frame) :
    ∃ w' ρ' tmps', Steps P (lone (b.atR ⟨tmps, ds⟩ (.inRegion ops (i :: r) :: items)) cs w) (lone (b.atR ⟨tmps', ds⟩ (.inRegion ops r :: items)) cs w') ∧ HR P w0 ρ' h nx w' ∧ Keep β ρ h ρ' h ∧ LZ P n ops ρ' h β nx tm tmps' pl E r qf := by
  have hi := L.lt i (by simp)
  obtain ⟨o, ho⟩ : ∃ o, ops[i]? = some o := ⟨ops[i], by simp [hi]⟩
  obtain ⟨hw, d, g, ob, hc, hb, tm0, hrd, hev⟩ := L.pend i (by simp) hE o ho
  obtain ⟨hbo, hd, hx, hg⟩ := compO_ok hc hb
  have hread : ∀ t, (rdsOf ops o).testBit t = true → VR ρ (tm0.at t) (tmps.getD t Go.undef) := fun t ht => by
    rw [hrd t ht]; exact L.reads ho ht (fun h => by rw [hw] at h; cases h)
  have hT : XR ρ tm0 tmps o.op.operands.toList := fun t ht => hread t (rds_op ht)
  have hwant : ∀ bb, gpass g tm0 = some bb → Region.wanted o (yielded ops tmps) = bb := fun bb hp => wanted_ok hg L.size (fun j want t h1 h2 => hread t (rds_guard h1 h2)) hp
  rcases hev with ⟨h1, h2⟩ | ⟨h1, h2⟩
  · refine ⟨w, ρ, putT tmps o.dst Go.undef, Steps.one ?_, H, Keep.refl _ _ _, L.pop hE ho (Rho.le_refl _) (fun _ _ _ _ _ h => h) fun x hxd => ⟨by rw [h2 x hxd]; exact VR.undef, hx x hxd⟩⟩
    rw [← put_eq, show o.dst = (ops[i]?).bind (·.dst) by rw [ho]; rfl]
    exact stepR_op_skip (by rw [ho]; simp [hwant false h1])
  · rcases h2 with ⟨pb, v, rfl, hv, h3⟩ | ⟨ab, oo, mk, qi, rfl, hA, hqs, hq1, hq2, hq3, hq4, hq5⟩
    · have h3 := h3.resolve_left (fun h => by rw [hck] at h; cases h.2)
      obtain ⟨v', hv', u, hu, huv⟩ := pOp_ok (ds := ds) H hbo.symm hT h3
      have hvv : v' = v := by simpa using hv'
      subst hvv
      refine ⟨w, ρ, putT tmps o.dst u, Steps.one ?_, H, Keep.refl _ _ _, L.pop hE ho (Rho.le_refl _) (fun _ _ _ _ _ h => h) fun x hxd => ⟨by rw [hv x hxd]; exact huv, hx x hxd⟩⟩
      rw [← put_eq]
      exact step_value ho (hwant true h1) (notDefer_p hbo.symm h3) hu
    · obtain ⟨ob', mk', a1, _, a3⟩ := aOp_ok (ds := ds) (k := fun _ _ => .ok V.undef) (r := V.undef) H hbo.symm hT (by rw [hA])
      obtain ⟨rfl, rfl⟩ := a1.uniq hA
      obtain ⟨x, N, u, a4, a5⟩ := a3.run
      obtain ⟨a6, a7⟩ := a5 qi hq1
      have hle := Rho.set_le (b := w.heap.size) (N := N) hq1
      refine ⟨w.alloc x, ρ.set qi w.heap.size N, putT tmps o.dst u, Steps.one ?_, H.born hq1 hq4 (by rw [hq2]; exact a6), ⟨hle, fun q hlt hn => ⟨?_, rfl⟩⟩, L.pop hE ho hle (fun j hj hEj q hqj hn => ?_) fun y hyd => ⟨by rw [hq5 y hyd]; exact a7, hx y hyd⟩⟩
      · rw [← put_eq]
        exact step_value ho (hwant true h1) (notDefer_a hbo.symm) a4
      · unfold Rho.set
        rw [if_neg (fun e => by subst e; omega)]; exact hn
      · unfold Rho.set
        rw [if_neg (fun e => ?_)]; exact hn
        subst e
        have hji := L.inj j (by simp [hj]) i (by simp) hEj hE _ hqj hqs
        subst hji
        exact (List.nodup_cons.1 L.nd).1 hj
theorem LZ.catchAll (b : Frame) (items : List Item) (cs : List Frame) : ∀ {r1 r2 : List Nat} {w : World} {ρ : Rho} {tmps : Array Value}, LZ P n ops ρ h β nx tm tmps pl E (r1 ++ r2) qf → (∀ i ∈ r1, E.testBit i = true ∧ chkHas i pl = false) → HR P w0 ρ h nx w →
    ∃ w' ρ' tmps', Steps P (lone (b.atR ⟨tmps, ds⟩ (.inRegion ops (r1 ++ r2) :: items)) cs w) (lone (b.atR ⟨tmps', ds⟩ (.inRegion ops r2 :: items)) cs w') ∧ HR P w0 ρ' h nx w' ∧ Keep β ρ h ρ' h ∧ LZ P n ops ρ' h β nx tm tmps' pl E r2 qf
  | [], r2, w, ρ, tmps, L, _, H => ⟨w, ρ, tmps, Steps.refl _ _, H, Keep.refl _ _ _, L⟩
  | i :: r1, r2, w, ρ, tmps, L, hp, H => by
    obtain ⟨w1, ρ1, tmps1, s1, H1, k1, L1⟩ := LZ.catch1 (ds := ds) (r := r1 ++ r2) L (hp i (by simp)).1 (hp i (by simp)).2 H b items cs
    obtain ⟨w2, ρ2, tmps2, s2, H2, k2, L2⟩ := LZ.catchAll b items cs L1 (fun j hj => hp j (by simp [hj])) H1
    exact ⟨w2, ρ2, tmps2, s1.trans s2, H2, k1.trans k2, L2⟩
end Go.CM
end
