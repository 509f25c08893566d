import Derived.Test.YtdkkaldimefljaaGreatDoorX34
import Derived.Test.YtdkkaldimefljaaGreatDoorX33
set_option linter.all false
section
namespace Go.Proofs.YtdkkaldimefljaaGreatDoor
open Go.Proofs.YtdkkaldimefljaaGreatDoor Go.AM Go.RowKit Go.ChangeShapes Go.WideShapes Go.ChangeAt
theorem post_below {H : Type} {enc : TypeId × Value → H} {P : Program} {f : Func} {s : ChangeSpec} {W W' : World} {args : Array Value} {v : Value} {ds gs : List (DataW H)} {before pa pv : List MemPlace}
    (hW : DataW.Whole enc P f.params.toList s.vars false W args.toList ds gs before) (hb : Below W.heap.size W W')
    (hres : ∀ (b : Nat) (sp : Nat → Bool) (hd : Bool), DataW.TrodAll enc P W' b sp hd f.resultTypes.toList (v.resultList f.resultTypes.size) (s.fn H (ds ++ gs)).results [])
    (hargs : ∀ sp : Nat → Bool, (∀ p ∈ before, sp p.block = true) → DataW.TrodAll enc P W' 0 sp true f.params.toList args.toList (s.fn H (ds ++ gs)).args pa)
    (hvars : ∀ sp : Nat → Bool, (∀ p ∈ before, sp p.block = true) → DataW.TrodVars enc P W' sp s.vars (s.fn H (ds ++ gs)).vars pv)
    (hps : before = pa ++ pv)
    (hok : ∀ (j : Nat) (t : TypeId) (r : Value), f.resultTypes[j]? = some t → (v.resultList f.resultTypes.size)[j]? = some r → Value.okWide P W' .any 0 t r) :
    s.post enc P f false true false false W args v W' := by
  have hold : ∀ p ∈ before, (fun b => decide (b < W.heap.size)) p.block = true := fun p hp => by simpa using hW.lt p hp
  refine ⟨ds, gs, before, [], pa, pv, hW, hres _ _ _, hargs _ hold, hvars _ hold, hb.frame _, fun h => ?_⟩
  cases h
theorem sizes_len : ∀ l : List VaD, l.length ≤ VaD.sizes l
  | [] => Nat.zero_le _
  | v :: l => by
    have := sizes_len l
    have h1 : v.size = v.con.length + 1 + VaD.sizes v.args := by cases v; rfl
    simp only [List.length_cons, VaD.sizes]; omega
theorem vrel_one {W : World} {x : AVal} {v : Value} (h : Rd W [x] [v]) : VRel (Psi W) [] x v := (h.abs 0 x v rfl rfl).2.rel
set_option maxRecDepth 100000 in
theorem contract (E : ∀ B0, Env Tryz.prog ans B0 prims) (H : Type) (enc : TypeId × Value → H) (W : World) (base : Nat) (args : Array Value) (ds gs : List (DataW H)) (before : List MemPlace)
    (hval : ∀ (j : Nat) t v, Tryz.f5.params[j]? = some t → args[j]? = some v → Value.okWide Tryz.prog W .any base t v)
    (hW : DataW.Whole enc Tryz.prog Tryz.f5.params.toList Rows.preludeListsSpec.vars false W args.toList ds gs before) (hk : Rows.uptoSmall H (ds ++ gs) = true) (hL : laidMetH Tryz.prog Rows.preludeListsRow.laid W) (hsh : W.ShapedOpen Tryz.prog) :
    Calls Tryz.prog 5 args W fun e W' => ∃ v, e = .returned v ∧ Rows.preludeListsSpec.post enc Tryz.prog Tryz.f5 false true false false W args v W' := by
  have hW' := hW
  obtain ⟨p, q, hA0, hV, rfl, hfz, hnd⟩ := hW
  have hA : DataW.TrodAll enc Tryz.prog W 0 (fun _ => true) true Tryz.f5.params.toList args.toList ds p := hA0
  rw [Tryz.params5] at hA hval
  obtain ⟨v0, vs0, d0, ds0, p0, q0, hargs, rfl, rfl, h0, r0⟩ := trodAll_cons hA
  obtain ⟨v1, vs1, d1, ds1, p1, q1, rfl, rfl, rfl, h1, r1⟩ := trodAll_cons r0
  obtain ⟨rfl, rfl, rfl⟩ := trodAll_nil r1
  obtain rfl : args = #[v0, v1] := Array.toList_inj.1 hargs
  obtain ⟨rfl, rfl⟩ := trodVars_none hV
  have ok0 := hval 0 25 v0 (by kernel_rfl) (by simp)
  have ok1 := hval 1 27 v1 (by kernel_rfl) (by simp)
  have hc0 : v0.cells = #[v0] := by
    simp only [Value.okWide, Tryz.underlying25] at ok0
    cases v0 <;> first | rfl | (exfalso; simp [Cell.okWide, Cell.ok, Tryz.underlying25] at ok0)
  simp only [Value.okWide, Tryz.underlying27] at ok1
  obtain ⟨cs1, rfl, _, _⟩ := ok1
  have h0k := h0
  have h1k := h1
  obtain ⟨f0, h0⟩ := h0
  obtain ⟨f1, h1⟩ := h1
  rw [hc0] at h0
  obtain ⟨l, hr0, hb0⟩ := rdVas f0 _ _ h0
  obtain ⟨pa, hr1, hb1⟩ := rdVa f1 _ _ h1
  clear hA0
  simp only [List.append_nil] at hW' hk
  have hsm : Rows.uptoBulkAll [d0, d1] ≤ 1048576 := of_decide_eq_true hk
  simp only [Rows.uptoBulkAll] at hsm
  simp only at hb0 hb1
  have hlen := sizes_len l
  have hc := c5 l pa ⟨[], 0⟩ (by simp only [big]; omega) (by simp only [big]; omega) (Nat.le_refl _)
  have hpre : CallPre ans W.heap.size W (Psi W) [] (fun _ => none) [.val (.slice (l.map VaD.enc)), .val pa.enc] #[v0, .agg cs1] ⟨[], 0⟩ := by
    refine ⟨wsat (size8 hL), Nat.le_refl _, fun b h => absurd rfl h, rfl, fun s hs => ?_, fun i s hi => ?_, ⟨rfl, fun i o h => by simp at h⟩, Nat.le_refl _⟩
    · simp at hs; rcases hs with rfl | rfl <;> rfl
    · match i, hi with
      | 0, hi => cases hi; exact .val _ _ (vrel_one hr0)
      | 1, hi =>
        cases hi
        have := hr1.vrel
        rw [pa.enc_eq] at this ⊢
        exact .val _ _ this
  refine (cfW_calls (E W.heap.size) rfl hc hpre).mono fun e W' h => ?_
  obtain ⟨Ψ', ρ', ow', hfr, _, v, rfl, hs⟩ := h
  have hv : v = .bool true := by
    cases hs with
    | val x v h => cases h; rfl
  subst hv
  have hbel := below_of_fr hfr
  have hlt : ∀ x ∈ p0 ++ (p1 ++ []), x.block < W.heap.size := fun x hx => hW'.lt x (by simpa using hx)
  refine ⟨_, rfl, post_below (pa := p0 ++ (p1 ++ [])) (pv := []) hW' hbel (fun _ _ _ => trodAll_cons_mk (shut_bool Tryz.underlying4 _) trodAll_mk0) (fun sp hsp => ?_) (fun _ _ => rfl) (by simp) (ok_one (by kernel_rfl) rfl (okWide_bool_mk Tryz.underlying4 _))⟩
  exact trodAll_cons_mk (WideElems.Trod_stays laidOut (by kernel_rfl) (of_decide_eq_true (by kernel_rfl)) h0k (fun x hx => hbel.same (hlt x (by simp [hx]))) (fun x hx => hsp x (by simp [hx])))
    (trodAll_cons_mk (WideElems.Trod_stays laidOut (by kernel_rfl) (of_decide_eq_true (by kernel_rfl)) h1k (fun x hx => hbel.same (hlt x (by simp [hx]))) (fun x hx => hsp x (by simp [hx])))
      trodAll_mk0)
end Go.Proofs.YtdkkaldimefljaaGreatDoor
end
