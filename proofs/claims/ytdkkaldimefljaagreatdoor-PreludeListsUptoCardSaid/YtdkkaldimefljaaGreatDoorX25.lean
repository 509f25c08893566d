import Derived.Test.YtdkkaldimefljaaGreatDoorX24
import Derived.Lib.Bytealg
import Derived.Laws.Externs
import Derived.KernelRfl
set_option linter.all false
noncomputable section
namespace Go.CM
variable {P : Program} {ih : Run} {fe : Q → CF}
theorem good_step (hm : P.follows .mixedOrders = true) (hfe : FeOK P fe) (hx : ExtOK P) (G : Good P ih) : Good P (stepK fe ih) := by
  intro w0 w ρ β f dk rd ds tm k cs h nx v fr frs c0 cs0 e H hF hS
  obtain ⟨hle, b, dds, tmps, X, hB, hD, hrn, hC, hX⟩ := hF
  have C : Ctx P w0 w ρ h β nx f dk rd ds cs frs b dds := ⟨H, hle, hB, hD, hrn, hS⟩
  cases hC with
  | plain k ks hk =>
    obtain ⟨hT, rfl⟩ := hX
    cases hk with
    | nil =>
      simp only [stepK] at e
      split at e
      · have hro : b.roundOf = none := by
          have := hB.ro
          cases hbr : b.roundOf with
          | none => rfl
          | some bl => rw [hbr] at this; exact this.elim
        exact Final.steps (Steps.one (stepR_end hro)) (C.go G (.rtn []) ⟨hT, rfl⟩ e)
      · exact endK_go G C rfl .none rfl (fun hb hkk hr => stepR_round_end hb hkk hr) e
    | code c k ks hk =>
      by_cases hrf : ∃ x ps asg body, c = .rangeFunc x ps asg body
      · obtain ⟨x, ps, asg, body, rfl⟩ := hrf
        exact rf_ok hfe hx G C hk hT e
      · exact codeK_ok hm G C hk hT (fun x ps asg body hc => hrf ⟨x, ps, asg, body, hc⟩) e
    | blk id k ks hk => exact Final.steps (Steps.one stepR_inBlock) (C.plain G hk hT e)
    | lp c k ks hk => exact Final.steps (Steps.one stepR_inLoop) (C.plain G (.code c _ _ (.lp c _ _ hk)) hT e)
    | sc c k ks hk => exact Final.steps (Steps.one stepR_inScope) (C.plain G hk hT e)
    | begin k ks hk => exact begin_ok (fe := fe) G C hk hT e
  | sync ops i k ks hi hk =>
    obtain ⟨hT, rfl⟩ := hX
    exact regSync_ok hfe hx G C hi hk hT e
  | drawn ops pl E r qf k ks hk =>
    obtain ⟨hL, rfl⟩ := hX
    exact regDrawn_ok hfe hx G C hk hL e
  | erf l bl N k ks hl hk =>
    obtain ⟨hT, rfl⟩ := hX
    exact erf_ok (fe := fe) G C hk hT hl e
  | bad l k => exact (regK_bad (show regK fe ih f dk rd ds tm (.op badCO :: l) k cs h nx = .ok v from e)).elim
  | rtn ks =>
    obtain ⟨hT, rfl⟩ := hX
    exact rtnK_ok hfe G C hT e
theorem good_run (hm : P.follows .mixedOrders = true) (hfe : FeOK P fe) (hx : ExtOK P) : ∀ n, Good P (run fe n)
  | 0 => by
    intro w0 w ρ β f dk rd ds tm k cs h nx v fr frs c0 cs0 e
    cases e
  | n + 1 => good_step hm hfe hx (good_run hm hfe hx n)
end Go.CM
end
noncomputable section
namespace Go.CM
variable {P : Program} {fe : Q → CF}
theorem mkT_ok (P : Program) : FeOK P (mkT P) := fun g => .inr (by simp only [mkT, qn_nat])
theorem run_call (hm : P.follows .mixedOrders = true) (hfe : FeOK P fe) (hx : ExtOK P) {g n : Nat} {body : C} {rs : List RV} {v : V} (hc : compF P g = .mk body rs) (e : run fe n (qn g) false none [] .nil (.code body .nil) [] .nil (qn P.globals.size) = .ok v)
    (w : World) (hw : P.globals.size ≤ w.heap.size) (c : Frame) (cs : List Frame) :
    ∃ (w' : World) (ρ' : Rho) (u : Value), Steps P (lone (Frame.enter P g #[] .normal) (c :: cs) w) (lone (c.finish u) cs w') ∧ VR ρ' v u ∧ w.heap.size ≤ w'.heap.size ∧ (∀ b, b < w.heap.size → w'.heap[b]? = w.heap[b]?) ∧ w'.os = w.os ∧ w'.tape = w.tape ∧ w'.output = w.output := by
  let ρ0 : Rho := fun q => if q.nat < P.globals.size then some (q.nat, 0) else none
  have h0 : ∀ q b N, ρ0 q = some (b, N) → q.nat < P.globals.size ∧ b = q.nat := fun q b N h => by
    simp only [ρ0] at h
    split at h
    · simp at h; exact ⟨by assumption, h.1.symm⟩
    · cases h
  have hob : ∀ q, (T.nil : T O).ob q = .dead := fun q => T.get_nil _ _
  have H : HR P w ρ0 .nil (qn P.globals.size) w :=
    ⟨Nat.le_refl _, fun _ _ => rfl, rfl, rfl, rfl, fun g hg => ⟨0, by simp [ρ0, qn_nat, hg]⟩, fun q hq => by rw [qn_nat] at hq; simp [ρ0]; exact hq, fun q b N h => by obtain ⟨h1, rfl⟩ := h0 q b N h; omega,
      fun q b N _ => by rw [hob]; exact .dead _ _, fun q q' b N N' _ _ _ => by rw [hob]; trivial, fun q _ => hob q⟩
  have hf := enter_ok (P := P) (w0 := w) (w := w) (vs := []) (us := []) (dk := false) (cs := []) (frs := []) (c0 := c) (cs0 := cs) (v := v) (good_run hm hfe hx n) H .nil (.nil _ _ _) hc (by rw [argsK_eq]; exact e)
  obtain ⟨w', ρ', h', nx', u, s, H', hv⟩ := hf
  exact ⟨w', ρ', u, s, hv, H'.size, H'.old, H'.os, H'.tape, H'.output⟩
end Go.CM
end
noncomputable section
namespace Go.CM
open Go.Lib (indexByte countByte indexByte_ge run_indexByteString run_countString)
variable {P : Program}
theorem findB_ok (c : UInt8) : ∀ (l : List UInt8) (i : Nat) (k : Int → Res), findB c.toNat l.length (packL l) i k = k (if indexByte l c = -1 then -1 else i + indexByte l c)
  | [], i, k => by simp [findB, indexByte]
  | b :: l, i, k => by
    have hb : b.toNat < 256 := b.toNat_lt
    have h1 : (b.toNat + 256 * packL l) % 256 = b.toNat := by omega
    have h2 : (b.toNat + 256 * packL l) / 256 = packL l := by omega
    simp only [List.length_cons, findB, packL, h1, h2, forceN_eq]
    by_cases hbc : b = c
    · subst hbc
      simp [indexByte]
    · have hne : b.toNat.beq c.toNat = false := by
        cases hq : b.toNat.beq c.toNat with
        | false => rfl
        | true => exact absurd (UInt8.toNat_inj.1 (Nat.eq_of_beq_eq_true hq)) hbc
      rw [hne]
      simp only
      rw [findB_ok c l (i + 1) k]
      congr 1
      have hbe : (b == c) = false := by simpa using hbc
      have hge := indexByte_ge l c
      simp only [indexByte, hbe, Bool.false_eq_true, if_false, beq_iff_eq]
      by_cases hi : indexByte l c = -1
      · simp [hi]
      · rw [if_neg hi, if_neg hi, if_neg (by omega)]; omega
theorem cntB_ok (c : UInt8) : ∀ (l : List UInt8) (n : Nat) (k : Nat → Res), cntB c.toNat l.length (packL l) n k = k (n + countByte l c)
  | [], n, k => by simp [cntB, countByte]
  | b :: l, n, k => by
    have hb : b.toNat < 256 := b.toNat_lt
    have h1 : (b.toNat + 256 * packL l) % 256 = b.toNat := by omega
    have h2 : (b.toNat + 256 * packL l) / 256 = packL l := by omega
    simp only [List.length_cons, cntB, packL, h1, h2, forceN_eq]
    by_cases hbc : b = c
    · subst hbc
      simp only [Nat.beq_refl]
      rw [cntB_ok b l (n + 1) k]
      simp [countByte]
      congr 1; omega
    · have hne : b.toNat.beq c.toNat = false := by
        cases hq : b.toNat.beq c.toNat with
        | false => rfl
        | true => exact absurd (UInt8.toNat_inj.1 (Nat.eq_of_beq_eq_true hq)) hbc
      rw [hne]
      simp only
      rw [cntB_ok c l n k]
      simp [countByte, hbc]
theorem asU8_ok {v : V} {k : Nat → Res} {r : V} (h : asU8 v k = .ok r) : ∃ c, v = .int .u8 (.ofNat c) ∧ c < 256 ∧ k c = .ok r := by
  cases v <;> try (cases h; done)
  rename_i kd n
  cases kd <;> try (cases h; done)
  cases n <;> try (cases h; done)
  obtain ⟨h1, h2⟩ := gd_ok h
  exact ⟨_, rfl, blt_ok h1, h2⟩
def extNm (fn : Func) : Bool := fn.name == "internal/bytealg.IndexByteString" || fn.name == "internal/bytealg.CountString" || fn.name == "internal/abi.NoEscape"
def extCk (P : Program) : Bool := P.funcs.toList.all fun fn => fn.body.isSome || !extNm fn || (fn.origin == "" || fn.origin == fn.name)
theorem nx0 : Extern.allNextRows.lookup "internal/bytealg.IndexByteString" = none := by kernel_rfl
theorem nx1 : Extern.allNextRows.lookup "internal/bytealg.CountString" = none := by kernel_rfl
theorem nx2 : Extern.allNextRows.lookup "internal/abi.NoEscape" = none := by kernel_rfl
theorem nxe : Extern.allNextRows.lookup "" = none := by kernel_rfl
theorem gn0 : Extern.allGenericRows.lookup "internal/bytealg.IndexByteString" = none := by kernel_rfl
theorem gn1 : Extern.allGenericRows.lookup "internal/bytealg.CountString" = none := by kernel_rfl
theorem gn2 : Extern.allGenericRows.lookup "internal/abi.NoEscape" = none := by kernel_rfl
theorem tn0 : Extern.allTypedRows.lookup "internal/bytealg.IndexByteString" = none := by kernel_rfl
theorem tn1 : Extern.allTypedRows.lookup "internal/bytealg.CountString" = none := by kernel_rfl
theorem tn2 : Extern.allTypedRows.lookup "internal/abi.NoEscape" = none := by kernel_rfl
theorem rw0 : Extern.allRows.lookup "internal/bytealg.IndexByteString" = some Extern.BytealgIndexByte.indexByte := by kernel_rfl
theorem rw1 : Extern.allRows.lookup "internal/bytealg.CountString" = some Extern.BytealgCount.count := by kernel_rfl
theorem rw2 : Extern.allRows.lookup "internal/abi.NoEscape" = some Extern.AbiNoEscape.same := by kernel_rfl
theorem findNext_none {fn : Func} (h1 : Extern.allNextRows.lookup fn.name = none) (h2 : fn.origin = "" ∨ fn.origin = fn.name) : Extern.findNext fn = none := by
  unfold Extern.findNext
  rcases h2 with h2 | h2 <;> simp [h2, h1, nxe]
theorem find_some {fn : Func} {e : Array Value → Sem Value} (h1 : Extern.allGenericRows.lookup fn.name = none) (h2 : Extern.allTypedRows.lookup fn.name = none) (h3 : Extern.allRows.lookup fn.name = some e) : Extern.find fn = some e := by
  unfold Extern.find
  simp [h1, h2, h3]
theorem ext_ok (hck : extCk P = true) : ExtOK P := by
  intro g m hc w ρ vs us k v hv e
  unfold compF at hc
  split at hc
  · cases hc
  · rename_i fn hf
    split at hc
    · rename_i hb
      have hor : extNm fn = true → fn.origin = "" ∨ fn.origin = fn.name := fun hnm => by
        have := (List.all_eq_true.1 hck) fn (by
          obtain ⟨h1, h2⟩ := Array.getElem?_eq_some_iff.1 hf
          rw [← h2]; simp)
        rw [hb, hnm] at this
        simpa using this
      have run : ∀ {en : Array Value → Sem Value} {u : Value}, extNm fn = true → (fn.name == "runtime.NumGoroutine") = false → Extern.allNextRows.lookup fn.name = none → Extern.allGenericRows.lookup fn.name = none → Extern.allTypedRows.lookup fn.name = none → Extern.allRows.lookup fn.name = some en →
          (en ⟨us⟩).run P w = .ok u w → (callFunc g ⟨us⟩).run P w = .ok (.value u) w := fun hnm hn h1 h2 h3 h4 h5 => by
        rw [run_callFunc_extern hf hn (by rw [hb]; rfl) (findNext_none h1 (hor hnm)) (find_some h2 h3 h4), h5]; rfl
      have two : ∀ {a b : V}, VRs ρ [a, b] us → ∃ ua ub, us = [ua, ub] ∧ VR ρ a ua ∧ VR ρ b ub := fun h => by
        obtain ⟨ua, us1, rfl, h1, h2⟩ := h.inv_cons
        obtain ⟨ub, us2, rfl, h3, h4⟩ := h2.inv_cons
        rw [h4.inv_nil]
        exact ⟨ua, ub, rfl, h1, h3⟩
      split at hc
      · rename_i hn
        cases hc
        have hn := beq_iff_eq.1 hn
        simp only [extK] at e
        split at e
        · rename_i x y
          obtain ⟨ux, uy, rfl, hx, hy⟩ := two hv
          obtain ⟨l, s, rfl, e⟩ := asS_ok e
          obtain ⟨c, rfl, hlt, e⟩ := asU8_ok e
          obtain ⟨bs, rfl, rfl, rfl⟩ := hx.inv_str
          have hy := hy.inv_int
          subst hy
          have hcc : (UInt8.ofNat c).toNat = c := by simp; omega
          rw [← hcc, findB_ok] at e
          refine ⟨_, .int .i64 (indexByte bs (UInt8.ofNat c)), e, ?_, run (by unfold extNm; rw [hn]; decide) (by rw [hn]; decide) (by rw [hn]; exact nx0) (by rw [hn]; exact gn0) (by rw [hn]; exact tn0) (by rw [hn]; exact rw0) ?_⟩
          · have : (if indexByte bs (UInt8.ofNat c) = -1 then -1 else ((0 : Nat) : Int) + indexByte bs (UInt8.ofNat c)) = indexByte bs (UInt8.ofNat c) := by
              split
              · rename_i h; exact h.symm
              · simp
            rw [this]
            exact .int _ _
          · rw [show (Int.ofNat c) = ((c : Nat) : Int) from rfl]
            have := run_indexByteString (P := P) ⟨⟨bs⟩⟩ (c : Int) w
            simpa using this
        · cases e
      · rename_i hn _
        cases hc
        have hn := beq_iff_eq.1 hn
        simp only [extK] at e
        split at e
        · rename_i x y
          obtain ⟨ux, uy, rfl, hx, hy⟩ := two hv
          obtain ⟨l, s, rfl, e⟩ := asS_ok e
          obtain ⟨c, rfl, hlt, e⟩ := asU8_ok e
          obtain ⟨bs, rfl, rfl, rfl⟩ := hx.inv_str
          have hy := hy.inv_int
          subst hy
          have hcc : (UInt8.ofNat c).toNat = c := by simp; omega
          rw [← hcc, cntB_ok, Nat.zero_add] at e
          refine ⟨_, .int .i64 (countByte bs (UInt8.ofNat c)), e, .int _ _, run (by unfold extNm; rw [hn]; decide) (by rw [hn]; decide) (by rw [hn]; exact nx1) (by rw [hn]; exact gn1) (by rw [hn]; exact tn1) (by rw [hn]; exact rw1) ?_⟩
          rw [show (Int.ofNat c) = ((c : Nat) : Int) from rfl]
          have := run_countString (P := P) ⟨⟨bs⟩⟩ (c : Int) w
          simpa using this
        · cases e
      · rename_i hn _ _
        cases hc
        have hn := beq_iff_eq.1 hn
        simp only [extK] at e
        split at e
        · rename_i x
          obtain ⟨u, us1, rfl, h1, h2⟩ := hv.inv_cons
          rw [h2.inv_nil] at run ⊢
          exact ⟨_, u, e, h1, run (by unfold extNm; rw [hn]; decide) (by rw [hn]; decide) (by rw [hn]; exact nx2) (by rw [hn]; exact gn2) (by rw [hn]; exact tn2) (by rw [hn]; exact rw2) (by rfl)⟩
        · cases e
      · cases hc
    · split at hc
      · cases hc
      · split at hc <;> cases hc
end Go.CM
end
