import Derived.Test.YtdkkaldimefljaaGreatDoorX23
import Derived.RangeFuncIn
import Derived.Test.YtdkkaldimefljaaGreatDoorX07
import Derived.RangeFuncLeaves
set_option linter.all false
noncomputable section
namespace Go.CM
variable {P : Program} {w0 w : World} {ρ ρ' : Rho} {h h' : T O} {nx nx' : Q} {tm : T V} {tmps : Array Value} {r v : V} {ops : Array Oper} {n β : Nat} {f : Q} {dk : Bool} {rd : Option Q} {ds : List Df} {k : K} {cs : List Fr} {fr b : Frame} {frs : List Frame} {c0 : Frame} {cs0 : List Frame} {ih : Run} {fe : Q → CF} {i : Nat} {o : Oper} {rest : List Nat} {l : List PS} {ks : List Item} {dds : List Deferred}
theorem bslK_split {sz : Nat} : ∀ {ps : List (Nat × X)} {t : T V} {k : T V → Res}, bslK tm sz ps t k = .ok r → ∃ t', (∀ k', bslK tm sz ps t k' = k' t') ∧ k t' = .ok r
  | [], t, k, e => ⟨t, fun _ => rfl, e⟩
  | (i, x) :: ps, t, k, e => by
    simp only [bslK] at e
    obtain ⟨c, h1, e⟩ := xK_ok e
    obtain ⟨l, hl, e⟩ := cvK_ok e
    rw [lenK_eq] at e
    obtain ⟨hg, e⟩ := gd_ok e
    rw [putsK_eq] at e
    obtain ⟨t', h2, h3⟩ := bslK_split e
    refine ⟨t', fun k' => ?_, h3⟩
    simp only [bslK]
    rw [xK_det h1, cvK_det hl, lenK_eq, hg]
    simp only [gd, putsK_eq]
    exact h2 k'
theorem aK_split {b : AB} {k : O → (Q → V) → Res} (e : aK b tm k = .ok r) : ∃ ob mk, AE b tm ob mk ∧ k ob mk = .ok r := by
  cases b with
  | al ty n t => exact ⟨_, _, fun _ => rfl, e⟩
  | bx ty n x =>
    simp only [aK] at e
    obtain ⟨c, h1, e⟩ := xK_ok e
    obtain ⟨l, hl, e⟩ := cvK_ok e
    rw [lenK_eq] at e
    obtain ⟨hg, e⟩ := gd_ok e
    rw [putsK_eq] at e
    exact ⟨_, _, fun k' => by simp only [aK, xK_det h1, cvK_det hl, lenK_eq, hg, gd, putsK_eq], e⟩
  | bsl ty sz len t ps =>
    simp only [aK] at e
    obtain ⟨t', h1, h2⟩ := bslK_split e
    rw [forceN_eq] at h2
    exact ⟨_, _, fun k' => by simp only [aK]; rw [h1, forceN_eq], h2⟩
  | mkm => exact ⟨_, _, fun _ => rfl, e⟩
  | mks ty sz z len cap =>
    simp only [aK] at e
    obtain ⟨a, ha, e⟩ := xK_ok e
    obtain ⟨kl, ln, hl, e⟩ := asN_ok e
    obtain ⟨b, hb, e⟩ := xK_ok e
    obtain ⟨kc, cn, hc, e⟩ := asN_ok e
    obtain ⟨hg, e⟩ := gd_ok e
    rw [zerosK_eq, forceN_eq] at e
    exact ⟨_, _, fun k' => by simp only [aK, xK_det ha, xK_det hb, hl, hc, asN, hg, gd, zerosK_eq, forceN_eq], e⟩
def Le (h h' : T O) : Prop := ∀ q, h.ob q = .dead ∨ h'.ob q = h.ob q
theorem Le.of (hl : Le h h') {q : Q} (hq : h.ob q ≠ .dead) : h'.ob q = h.ob q := (hl q).resolve_left hq
theorem rowO_le {k : Nat → T V → Res} (hl : Le h h') {q : Q} (e : rowO (h.ob q) k = .ok r) : h'.ob q = h.ob q := hl.of fun hd => by rw [hd] at e; cases e
theorem mapO_le {k : List (V × V) → Res} (hl : Le h h') {q : Q} (e : mapO (h.ob q) k = .ok r) : h'.ob q = h.ob q := hl.of fun hd => by rw [hd] at e; cases e
theorem eqP_le (hl : Le h h') {o o' : Q} {a a' : Nat} {k k' : Bool → Res} (hk : ∀ b, k b = .ok r → k' b = .ok r) (e : eqP h o a o' a' k = .ok r) : eqP h' o a o' a' k' = .ok r := by
  have lone : ∀ q, loneO (h.ob q) = true → h'.ob q = h.ob q := fun q hq => hl.of fun hd => by rw [hd] at hq; cases hq
  unfold eqP at e ⊢
  cases ho : o.beq o' with
  | true =>
    rw [ho] at e
    simp only at e ⊢
    cases ha : Nat.beq a a' with
    | true => rw [ha] at e; exact hk _ e
    | false =>
      rw [ha] at e
      simp only [gO_eq] at e ⊢
      obtain ⟨h1, h2⟩ := gd_ok e
      rw [lone _ h1, h1]
      exact hk _ h2
  | false =>
    rw [ho] at e
    simp only [gO_eq] at e ⊢
    obtain ⟨h1, h2⟩ := gd_ok e
    have h3 := h1
    rw [Bool.and_eq_true] at h3
    rw [lone _ h3.1, lone _ h3.2, h1]
    exact hk _ h2
theorem eqCell_le {f : FK} {x y : V} {k k' : Bool → Res} (hk : ∀ b, k b = .ok r → k' b = .ok r) (e : eqCell f x y k = .ok r) : eqCell f x y k' = .ok r := by
  unfold eqCell at e ⊢
  split at e
  · split at e
    · split at e
      · exact hk _ e
      · cases e
    · cases e
  · split at e
    · split at e
      · exact hk _ e
      · cases e
    · cases e
  · split at e
    · split at e
      · obtain ⟨h1, h2⟩ := gd_ok e
        simp only [h1]
        exact hk _ h2
      · cases e
    · cases e
theorem eqCells_le : ∀ {fs : List FK} {l m : List V} {k k' : Bool → Res}, (∀ b, k b = .ok r → k' b = .ok r) → eqCells fs l m k = .ok r → eqCells fs l m k' = .ok r
  | [], [], [], k, k', hk, e => hk _ e
  | f :: fs, x :: xs, y :: ys, k, k', hk, e => by
    simp only [eqCells] at e ⊢
    refine eqCell_le (fun b hb => ?_) e
    cases b with
    | true => exact eqCells_le hk hb
    | false => exact hk _ hb
  | [], _ :: _, _, _, _, _, e => by cases e
  | [], [], _ :: _, _, _, _, e => by cases e
  | _ :: _, [], _, _, _, _, e => by cases e
  | _ :: _, _ :: _, [], _, _, _, e => by cases e
theorem keyEq_le (hl : Le h h') {s : KK} {x y : V} {k k' : Bool → Res} (hk : ∀ b, k b = .ok r → k' b = .ok r) (e : keyEq s h x y k = .ok r) : keyEq s h' x y k' = .ok r := by
  unfold keyEq at e ⊢
  split at e
  · split at e
    · split at e
      · exact hk _ e
      · cases e
    · cases e
  · split at e
    · split at e
      · obtain ⟨h1, h2⟩ := gd_ok e
        simp only [h1]
        exact hk _ h2
      · cases e
    · cases e
  · split at e
    · split at e
      · exact eqCells_le hk e
      · cases e
    · cases e
  · split at e
    · split at e
      · exact eqP_le hl hk e
      · cases e
    · cases e
theorem findK_le (hl : Le h h') {s : KK} {x : V} : ∀ {es : List (V × V)} {k : V → Res} {kn : Res}, findK s h x es k kn = .ok r → findK s h' x es k kn = .ok r
  | [], _, _, e => e
  | (y, v) :: es, k, kn, e => by
    simp only [findK] at e ⊢
    refine keyEq_le hl (fun b hb => ?_) e
    cases b with
    | true => exact hb
    | false => exact findK_le hl hb
theorem eqK_le (hl : Le h h') {m : EqM} {a b : V} {k : Bool → Res} (e : eqK m h a b k = .ok r) : eqK m h' a b k = .ok r := by
  cases m <;> simp only [eqK] at e ⊢ <;> first | exact e | skip
  split at e
  · exact e
  · split at e
    · exact e
    · exact eqP_le hl (fun _ hb => hb) e
    · cases e
  · cases e
theorem keyCk_both {s : KK} {x : V} {k : Res} (e : keyCk s x k = .ok r) : k = .ok r ∧ ∀ k', keyCk s x k' = k' := by
  unfold keyCk at e ⊢
  split at e
  · split at e
    · rw [lenK_eq, lenK_eq] at e
      obtain ⟨h1, h2⟩ := gd_ok e
      refine ⟨h2, fun k' => ?_⟩
      simp only [lenK_eq, h1, gd]
    · cases e
  · exact ⟨e, fun _ => rfl⟩
theorem pK_le (hl : Le h h') {pb : PB} {k : V → Res} (e : pK pb tm h k = .ok r) : pK pb tm h' k = .ok r := by
    cases pb
    case eq neg m x y =>
      simp only [pK] at e ⊢
      obtain ⟨a, ha, e⟩ := xK_ok e
      obtain ⟨b, hb, e⟩ := xK_ok e
      rw [xK_det ha, xK_det hb]
      exact eqK_le hl e
    case ctu x =>
      simp only [pK] at e ⊢
      obtain ⟨a, ha, e⟩ := xK_ok e
      rw [xK_det ha]
      split at e
      · exact e
      · rw [gO_eq] at e ⊢
        rw [rowO_le hl e]; exact e
      · cases e
    case cfu ty n x =>
      simp only [pK] at e ⊢
      obtain ⟨a, ha, e⟩ := xK_ok e
      rw [xK_det ha]
      split at e
      · exact e
      · rename_i o off
        rw [gO_eq] at e ⊢
        rw [hl.of (q := o) fun hd => by rw [hd] at e; cases e]; exact e
      · cases e
    case ld1 x =>
      simp only [pK] at e ⊢
      obtain ⟨a, ha, e⟩ := xK_ok e
      rw [xK_det ha]
      obtain ⟨o, off, rfl, e⟩ := asP_ok e
      simp only [asP] at e ⊢
      unfold ldK at e ⊢
      rw [gO_eq] at e ⊢
      rw [rowO_le hl e]; exact e
    case ldn n x =>
      simp only [pK] at e ⊢
      obtain ⟨a, ha, e⟩ := xK_ok e
      rw [xK_det ha]
      obtain ⟨o, off, rfl, e⟩ := asP_ok e
      simp only [asP] at e ⊢
      unfold ldsK at e ⊢
      rw [gO_eq] at e ⊢
      rw [rowO_le hl e]; exact e
    case lk s ok z m key =>
      simp only [pK] at e ⊢
      obtain ⟨a, ha, e⟩ := xK_ok e
      obtain ⟨b, hb, e⟩ := xK_ok e
      rw [xK_det ha, xK_det hb]
      obtain ⟨e, hc⟩ := keyCk_both e
      rw [hc]
      split at e
      · exact e
      · rw [gO_eq] at e ⊢
        rw [mapO_le hl e]
        obtain ⟨es, hes, e⟩ := mapO_ok e
        have hm : ∀ kk : List (V × V) → Res, mapO (h.ob _) kk = kk es := fun kk => by rcases hes with hes | hes <;> rw [hes] <;> rfl
        rw [hm]
        cases ok with
        | true => exact findK_le hl e
        | false => exact findK_le hl e
      · cases e
    case lenM x =>
      simp only [pK] at e ⊢
      obtain ⟨a, ha, e⟩ := xK_ok e
      rw [xK_det ha]
      split at e
      · exact e
      · rw [gO_eq] at e ⊢
        rw [mapO_le hl e]; exact e
      · cases e
    all_goals exact (pK_heap (by rfl) h h').symm.trans e
theorem Le.made {ob : O} (hd : h.ob nx = .dead) : Le h (h.put .dead ob nx) := fun q => by
  rw [ob_put]
  split
  · subst_vars; exact .inl hd
  · exact .inr rfl
end Go.CM
end
noncomputable section
namespace Go.CM
variable {P : Program} {w0 w w' : World} {ρ ρ' : Rho} {h h' : T O} {nx nx' : Q} {tm : T V} {tmps : Array Value} {r v : V} {ops : Array Oper} {n β : Nat} {f : Q} {dk : Bool} {rd : Option Q} {ds : List Df} {k : K} {cs : List Fr} {fr b : Frame} {frs : List Frame} {c0 : Frame} {cs0 : List Frame} {ih : Run} {fe : Q → CF} {i : Nat} {o : Oper} {rest : List Nat} {l : List PS} {ks : List Item} {dds : List Deferred}
theorem Ctx.keep (C : Ctx P w0 w ρ h β nx f dk rd ds cs frs b dds) (H' : HR P w0 ρ' h' nx' w') (hn : nx.nat ≤ nx'.nat) (K : Keep β ρ h ρ' h') : Ctx P w0 w' ρ' h' β nx' f dk rd ds cs frs b dds :=
  ⟨H', Nat.le_trans C.le hn, C.B.mono K.le, C.D.mono K.le, C.rn, C.S.mono K⟩
theorem regSync_ok (hfe : FeOK P fe) (hx : ExtOK P) (G : Good P ih) (C : Ctx P w0 w ρ h β nx f dk rd ds cs frs b dds) (hi : i ≤ ops.size) (hk : KS P (nt P f.nat) k ks) (hT : TR ρ (nt P f.nat) tm tmps)
    (e : regK fe ih f dk rd ds tm ((ops.toList.drop i).map fun o => .op (compO P (nt P f.nat) ops o)) k cs h nx = .ok v) : Final P w0 (lone (b.atR ⟨tmps, dds⟩ (.inRegion ops (List.range' i (ops.size - i)) :: ks)) (frs ++ c0 :: cs0) w) c0 cs0 v := by
  by_cases hlt : i < ops.size
  · have ho : ops[i]? = some ops[i] := by simp [hlt]
    rw [drop_ops ho, List.map_cons] at e
    have hr : List.range' i (ops.size - i) = i :: List.range' (i + 1) (ops.size - (i + 1)) := by
      obtain ⟨m, hm⟩ : ∃ m, ops.size - i = m + 1 := ⟨ops.size - i - 1, by omega⟩
      rw [hm, List.range'_succ, show ops.size - (i + 1) = m by omega]
    rw [hr]
    exact pt_ok hfe hx G C (Pt.sync hT ho hk) e
  · have hr : ops.size - i = 0 := by omega
    rw [hr, List.range'_zero]
    have hd : ops.toList.drop i = [] := List.drop_eq_nil_of_le (by simp; omega)
    rw [hd] at e
    exact Final.steps (Steps.one stepR_region_end) (C.plain G hk hT e)
theorem regK_chk {g : Option (Q × Bool)} {pb : PB} {q : Q} (e : regK fe ih f dk rd ds tm (.chk g pb q :: l) k cs h nx = .ok v) : ih f dk rd ds tm (.reg l k) cs h nx = .ok v ∧ (gpass g tm = some true → pK pb tm h .ok = .ok (tm.get V.undef q)) := by
  have key : (pK pb tm h fun v => gV q tm fun u => gd (eqV v u) 93 (ih f dk rd ds tm (.reg l k) cs h nx)) = .ok v → ih f dk rd ds tm (.reg l k) cs h nx = .ok v ∧ pK pb tm h .ok = .ok (tm.get V.undef q) := fun e => by
    obtain ⟨x, h1, h2⟩ := pK_split e
    rw [gV_eq] at h2
    obtain ⟨h3, h4⟩ := gd_ok h2
    rw [← eqV_ok h3]
    exact ⟨h4, h1⟩
  unfold regK at e
  cases g with
  | none => exact ⟨(key e).1, fun _ => (key e).2⟩
  | some qw =>
    obtain ⟨q', want⟩ := qw
    simp only [gV_eq] at e
    simp only [gpass]
    split at e
    · rename_i t ht
      rw [ht]
      split at e
      · have := key (by rw [← e]; simp only [gV_eq]); exact ⟨this.1, fun _ => this.2⟩
      · rename_i hb; exact ⟨e, fun h => by simp [hb] at h⟩
    · rename_i ht; rw [ht]; exact ⟨e, fun h => by simp at h⟩
    · cases e
theorem regK_bad (e : regK fe ih f dk rd ds tm (.op badCO :: l) k cs h nx = .ok v) : False := by cases e
theorem regDrawn_ok {pl : List Pl} {E : Nat} {r : List Nat} {qf : Nat → Option Q} (hfe : FeOK P fe) (hx : ExtOK P) (G : Good P ih) (C : Ctx P w0 w ρ h β nx f dk rd ds cs frs b dds) (hk : KS P (nt P f.nat) k ks) (L : LZ P (nt P f.nat) ops ρ h β nx tm tmps pl E r qf)
    (e : regK fe ih f dk rd ds tm (pl.map (psOf P (nt P f.nat) ops)) k cs h nx = .ok v) : Final P w0 (lone (b.atR ⟨tmps, dds⟩ (.inRegion ops r :: ks)) (frs ++ c0 :: cs0) w) c0 cs0 v := by
  cases pl with
  | nil =>
    have hall := L.atEnd
    have L0 := L
    rw [← List.append_nil r] at L0
    obtain ⟨w', ρ', tmps', s, H', K, L'⟩ := LZ.catchAll (ds := dds) b ks (frs ++ c0 :: cs0) L0 hall C.H
    rw [List.append_nil] at s
    refine Final.steps (s.trans (Steps.one stepR_region_end)) ?_
    exact (C.keep H' (Nat.le_refl _) K).plain G hk L'.done e
  | cons p pl =>
  rw [List.map_cons] at e
  cases p with
  | chk i =>
    simp only [psOf] at e
    split at e
    · rename_i o ho
      split at e
      · rename_i q g pb hc
        obtain ⟨e1, e2⟩ := regK_chk e
        have L' := L.chk (fun o' d g' pb' ho' hc' hp => by
          rw [ho] at ho'
          cases ho'
          rw [hc] at hc'
          simp only [CO.mk.injEq, OB.p.injEq] at hc'
          obtain ⟨rfl, rfl, rfl⟩ := hc'
          by_cases hb : CO.mk (some q) g (.p pb) = badCO
          · cases hb
          obtain ⟨_, hd, _, _⟩ := compO_ok hc hb
          cases hdst : o.dst with
          | none => rw [hdst] at hd; cases hd
          | some x =>
            rw [hdst] at hd
            cases hd
            exact ⟨x, rfl, e2 hp⟩)
        exact C.go G (.drawn ops pl E r qf k ks hk) ⟨L', rfl⟩ e1
      · exact (regK_bad e).elim
    · exact (regK_bad e).elim
  | run i =>
    obtain ⟨fI, hfI, _⟩ := ck_run L.ck
    have hsz : i < ops.size := by rw [← L.sc.len]; exact (List.getElem?_eq_some_iff.1 hfI).1
    obtain ⟨o, ho⟩ : ∃ o, ops[i]? = some o := ⟨ops[i], by simp [hsz]⟩
    simp only [psOf, ho] at e
    cases hw : wOf P o with
    | true =>
      obtain ⟨r1, r2, rfl, hr1⟩ := L.ahead ho hw
      obtain ⟨w', ρ', tmps', s, H', K, L'⟩ := LZ.catchAll (ds := dds) b ks (frs ++ c0 :: cs0) L hr1 C.H
      exact Final.steps s (pt_ok hfe hx G (C.keep H' (Nat.le_refl _) K) (Pt.drawn L' ho hw hk) e)
    | false =>
      have hisw : isW (compOp P o) = false := by
        unfold wOf at hw
        rw [Bool.or_eq_false_iff] at hw
        exact hw.1
      obtain ⟨d, g, ob, hc⟩ : ∃ d g ob, compO P (nt P f.nat) ops o = .mk d g ob := by
        cases h0 : compO P (nt P f.nat) ops o with | mk d g ob => exact ⟨d, g, ob, rfl⟩
      rw [hc] at e
      rcases regK_op e with ⟨hg, e1⟩ | ⟨hg, hgn, e1⟩
      · have hnb : ob ≠ .p .bad := fun e0 => by subst e0; cases e1
        obtain ⟨hb, hd, hxd, hgd⟩ := compO_ok hc (nbad hnb)
        rw [← hb] at hisw
        cases ob with
        | p pb =>
          simp only [opK] at e1
          obtain ⟨x, h1, h2⟩ := pK_split e1
          rw [hd, putD_eq] at h2
          have L' := L.eager (nx' := nx) (h' := h) (v := x) (qf' := fun j => if j = i then none else qf j) ho hw (Nat.le_refl _) (fun _ _ => rfl) (.inl rfl) (fun j hj => by simp [hj]) (fun q hq => by simp at hq)
            ⟨d, g, _, hc, nbad hnb, .inr ⟨hg, .inl ⟨pb, rfl, h1⟩⟩⟩ (fun _ _ _ _ _ _ he _ => he)
          exact C.go G (.drawn ops pl _ r _ k ks hk) ⟨L', rfl⟩ h2
        | a ab =>
          simp only [opK] at e1
          obtain ⟨oo, mk, hA, h2⟩ := aK_split e1
          rw [pO_eq, hd, putD_eq, succK_eq] at h2
          have hfr := C.H.fresh nx (Nat.le_refl _)
          have hnx : nx.nat ≤ nx.succ.nat := by rw [Q.nat_succ]; omega
          have hlt : nx.nat < nx.succ.nat := by rw [Q.nat_succ]; omega
          have L' := L.eager (nx' := nx.succ) (h' := h.put .dead oo nx) (v := mk nx) (qf' := fun j => if j = i then some nx else qf j) ho hw hnx (fun q hq => by rw [ob_put, if_neg (fun e => by subst e; omega)])
            (.inr fun pb hpb => by rw [← hb] at hpb; cases hpb) (fun j hj => by simp [hj]) (fun q hq => by
              simp at hq
              subst hq
              exact ⟨hlt, fun j hj hEj hq => by have := L.ql j hj hEj _ hq; omega⟩)
            ⟨d, g, _, hc, nbad hnb, .inr ⟨hg, .inr ⟨ab, oo, mk, nx, rfl, hA, by simp, hfr, by rw [ob_put, if_pos rfl], C.le, hlt, rfl⟩⟩⟩ (fun _ _ _ _ _ _ he _ => pK_le (Le.made (C.H.dead nx (Nat.le_refl _))) he)
          have C' := C.keep (C.H.pend hfr oo hnx hlt) hnx ⟨Rho.le_refl _, fun q hq hn => ⟨hn, by rw [ob_put, if_neg (fun e => by subst e; have := C.le; omega)]⟩⟩
          exact C'.go G (.drawn ops pl _ r _ k ks hk) ⟨L', rfl⟩ h2
        | w wb => cases hisw
        | call x xs => cases hisw
        | inv ms x xs => cases hisw
        | dfr x xs => cases hisw
        | dfd s x y => cases hisw
        | rcv => cases hisw
      · have hnb : CO.mk d g ob ≠ badCO := fun e0 => by unfold badCO at e0; cases e0; exact hgn rfl
        obtain ⟨hb, hd, hxd, hgd⟩ := compO_ok hc hnb
        rw [hd, putD_eq] at e1
        have L' := L.eager (nx' := nx) (h' := h) (v := V.undef) (qf' := fun j => if j = i then none else qf j) ho hw (Nat.le_refl _) (fun _ _ => rfl) (.inl rfl) (fun j hj => by simp [hj]) (fun q hq => by simp at hq)
          ⟨d, g, _, hc, hnb, .inl ⟨hg, rfl⟩⟩ (fun _ _ _ _ _ _ he _ => he)
        exact C.go G (.drawn ops pl _ r _ k ks hk) ⟨L', rfl⟩ e1
end Go.CM
end
noncomputable section
namespace Go.CM
variable {P : Program} {w0 w w' : World} {ρ ρ' : Rho} {h h' : T O} {nx nx' : Q} {tm : T V} {tmps : Array Value} {r v : V} {ops : Array Oper} {n β : Nat} {f : Q} {dk : Bool} {rd : Option Q} {ds : List Df} {k : K} {cs : List Fr} {fr b : Frame} {frs : List Frame} {c0 : Frame} {cs0 : List Frame} {ih : Run} {fe : Q → CF} {ks : List Item} {dds : List Deferred}
section steps
variable {a : Act} {g : Operand} {ps : Array Tmp} {assign body : Code} {l : Nat} {mark : List Deferred} {w₁ w₁' w₂ : World} {d : Deferred} {cs : List Frame}
theorem step_rf_value {u : Value} (he : (Instr.enterLoop b.fn a.tmps ps assign body b.roundOf).run P w = .ok (l, mark) w₁) (hres : (resolve a.eval (rangeCall g l) 0).run P w₁ = .ok d w₁') (hinv : (invoke d.target d.args).run P w₁' = .ok (.value u) w₂) :
    step P (lone (b.atR a (.code (.rangeFunc g ps assign body) :: ks)) cs w) = .next (lone ((b.atR { a with defers := mark ++ a.defers } (.inRangeFunc l :: ks)).finish u) cs w₂) :=
  step_lone_go (by
    have hev := Frame.eval_atR b { a with defers := mark ++ a.defers } (.inRangeFunc l :: ks)
    simp only [Frame.atR] at hev
    have hres' : Sem.run P (resolve ({ tmps := a.tmps, defers := mark ++ a.defers } : Act).eval { callee := .value g, args := #[.const (.func (.yield l) #[] #[])], argTypes := #[] } 0) w₁ = .ok d w₁' := hres
    simp [stepG, stepG.exec, Frame.atR, Sem.runT_eq, he, GStep.bare_after, stepG.apply, hev, Sem.run_bind, hres', hinv, Result.andThen])
theorem step_rf_round {l' : Nat} {gg : FuncId} {tt : Array Value} {x y : Code} (he : (Instr.enterLoop b.fn a.tmps ps assign body b.roundOf).run P w = .ok (l, mark) w₁) (hres : (resolve a.eval (rangeCall g l) 0).run P w₁ = .ok d w₁') (hinv : (invoke d.target d.args).run P w₁' = .ok (.round l' gg tt x y) w₂) :
    step P (lone (b.atR a (.code (.rangeFunc g ps assign body) :: ks)) cs w) = .next (lone (Frame.round l' gg tt x y .normal) (b.atR { a with defers := mark ++ a.defers } (.inRangeFunc l :: ks) :: cs) w₂) :=
  step_lone_go (by
    have hev := Frame.eval_atR b { a with defers := mark ++ a.defers } (.inRangeFunc l :: ks)
    simp only [Frame.atR] at hev
    have hres' : Sem.run P (resolve ({ tmps := a.tmps, defers := mark ++ a.defers } : Act).eval { callee := .value g, args := #[.const (.func (.yield l) #[] #[])], argTypes := #[] } 0) w₁ = .ok d w₁' := hres
    simp [stepG, stepG.exec, Frame.atR, Sem.runT_eq, he, GStep.bare_after, stepG.apply, hev, Sem.run_bind, hres', hinv, Result.andThen])
end steps
theorem rf_go (hfe : FeOK P fe) (hx : ExtOK P) (G : Good P ih) {g : Operand} {ps : Array Tmp} {assign body : Code} {w2 : World} {ρ2 : Rho} {h2 : T O} {n2 : Q} {gq : Q} {fs caps : List V} {ua ub : List Value} {lq : Q} {bl N : Nat} {mark : List Deferred} {ds2 : List Df}
    (C : Ctx P w0 w2 ρ2 h2 β n2 f dk rd ds2 cs frs b (mark ++ dds)) (hk : KS P (nt P f.nat) k ks) (hT : TR ρ2 (nt P f.nat) tm tmps) (hg : ev tmps dds g = .func (.func gq.nat) ⟨ua⟩ ⟨ub⟩) (h1 : VRs ρ2 fs ua) (h3 : VRs ρ2 caps ub) (hl : ρ2 lq = some (bl, N))
    (he : (Instr.enterLoop b.fn tmps ps assign body b.roundOf).run P w = .ok (bl, mark) w2)
    (e : enterK fe ih gq (fs ++ (.yld lq :: caps)) false (.mk f dk rd ds2 tm (.inrf lq k) :: cs) h2 n2 = .ok v) :
    Final P w0 (lone (b.atR ⟨tmps, dds⟩ (.code (.rangeFunc g ps assign body) :: ks)) (frs ++ c0 :: cs0) w) c0 cs0 v := by
  have e' : callK fe ih (.fn gq fs caps) [.yld lq] (.mk f dk rd ds2 tm (.inrf lq k) :: cs) h2 n2 = .ok v := by
    simp only [callK, appX_eq]; exact e
  have hfv : VR ρ2 (.fn gq fs caps) (.func (.func gq.nat) ⟨ua⟩ ⟨ub⟩) := .fn _ _ _ _ _ h1.1 h3.1 h1.2 h3.2
  have hvs : VRs ρ2 [.yld lq] [.func (.yield bl) #[] #[]] := .cons (.yld _ _ _ hl) .nil
  have hS : StkR P ρ2 h2 (.mk f dk rd ds2 tm (.inrf lq k) :: cs) (b.atR ⟨tmps, mark ++ dds⟩ (.inRangeFunc bl :: ks) :: frs) n2.nat :=
    .cons ρ2 ρ2 h2 h2 f dk rd ds2 tm _ cs _ frs β n2.nat n2 ⟨C.le, b, mark ++ dds, tmps, _, C.B, C.D, C.rn, .inrf lq bl N k ks hl hk, hT, rfl⟩ (Nat.le_refl _) (Keep.refl _ _ _) C.S
  obtain ⟨dd, hd1, hd2⟩ := callK_ok (c0 := c0) (cs0 := cs0) hfe hx G C.H hfv hvs hS e'
  have hres : (resolve (ev tmps dds) (rangeCall g bl) 0).run P w2 = .ok dd w2 := by
    rw [← hd1]
    simp [resolve, rangeCall, hg]
    rfl
  rcases hd2 with ⟨gg, all, i1, i2⟩ | ⟨ll, gg, tt, x, y, i1, i2⟩ | ⟨x, u, i1, i2, i3⟩
  · exact Final.steps (Steps.one (stepR_rangeFunc (a := ⟨tmps, dds⟩) he hres i1)) i2
  · exact Final.steps (Steps.one (step_rf_round (a := ⟨tmps, dds⟩) he hres i1)) i2
  · refine Final.steps (Steps.one (step_rf_value (a := ⟨tmps, dds⟩) he hres i1)) ?_
    simp only [finK] at i3
    exact C.go (fr := b.atR ⟨tmps, mark ++ dds⟩ (.endRangeFunc bl :: ks)) G (.erf lq bl N k ks hl hk) ⟨hT, rfl⟩ i3
theorem rf_ok (hfe : FeOK P fe) (hx : ExtOK P) (G : Good P ih) {g : Operand} {ps : Array Tmp} {assign body : Code} (C : Ctx P w0 w ρ h β nx f dk rd ds cs frs b dds) (hk : KS P (nt P f.nat) k ks) (hT : TR ρ (nt P f.nat) tm tmps)
    (e : codeK ih f dk rd ds tm (compC P (nt P f.nat) (.rangeFunc g ps assign body)) k cs h nx fe = .ok v) : Final P w0 (lone (b.atR ⟨tmps, dds⟩ (.code (.rangeFunc g ps assign body) :: ks)) (frs ++ c0 :: cs0) w) c0 cs0 v := by
  simp only [compC] at e
  split at e
  · rename_i hps
    have hps' : ∀ t ∈ ps.toList, t < nt P f.nat := fun t ht => blt_ok ((List.all_eq_true.1 hps) t ht)
    simp only [codeK] at e
    obtain ⟨fv, hf1, e⟩ := xK_ok e
    have hfv := xE_rel (ds := dds) C.H.glob (fun t _ => hT.rel t) hf1
    split at e
    case h_2 => cases e
    rename_i gq fs caps
    obtain ⟨ua, ub, hg, h1, h3⟩ := hfv.inv_fn
    have hfr := C.H.fresh nx (Nat.le_refl _)
    have hS1 : nx.succ.nat = nx.nat + 1 := Q.nat_succ _
    rw [appX_eq] at e
    cases rd with
    | none =>
      simp only [pO_eq, succK_eq] at e
      have hro : b.roundOf = none := by
        have := C.B.ro
        cases hbr : b.roundOf with
        | none => rfl
        | some bl => rw [hbr] at this; exact this.elim
      obtain ⟨H1, K1⟩ := C.H.make (x := .deferred (some [])) (N := 0) (ob := .dfd false) (.dfd false _ _ C.H.size (AM.heap_alloc_new _))
      have hd1 : (ρ.set nx w.heap.size 0) nx = some (w.heap.size, 0) := Rho.set_same
      let r0 : Loop := { state := .ready, pending := none, fn := b.fn, tmps := tmps, params := ps, assign := assign, body := body, defers := w.heap.size }
      let w1 := w.alloc (.deferred (some []))
      have hfr1 := H1.fresh nx.succ (Nat.le_refl _)
      have hle2 := Rho.set_le (b := w1.heap.size) (N := 0) hfr1
      have hlr : LR P ((ρ.set nx w.heap.size 0).set nx.succ w1.heap.size 0) (.mk 0 .none (qn f.nat) tm (ps.toList.map qn) (compC P (nt P f.nat) assign) (compC P (nt P f.nat) body) nx) r0 :=
        LR.mk 0 .none f.nat tm nx r0 0 .ready .none C.B.fn (hT.mono (Rho.le_trans K1.le hle2)) hps' (hle2 _ _ hd1)
      rw [qn_of] at hlr
      obtain ⟨H2, K2⟩ := H1.make (x := .loop r0) (N := 0) (.loop _ r0 _ _ H1.size (AM.heap_alloc_new _) hlr)
      have K12 : Keep β ρ h ((ρ.set nx w.heap.size 0).set nx.succ w1.heap.size 0) ((h.put .dead (.dfd false) nx).put .dead (.loop (.mk 0 .none f tm (ps.toList.map qn) (compC P (nt P f.nat) assign) (compC P (nt P f.nat) body) nx)) nx.succ) :=
        (K1.down C.le).trans (K2.down (by have := C.le; omega))
      have C2 := C.keep H2 (by rw [Q.nat_succ, Q.nat_succ]; omega) K12
      have D2 := DsR.coll nx w.heap.size 0 ds dds (hle2 _ _ hd1) C2.D
      have C3 : Ctx P w0 _ _ _ β _ f dk none (.coll nx :: ds) cs frs b ([{ target := .collected w.heap.size, args := #[] }] ++ dds) := ⟨C2.H, C2.le, C2.B, D2, fun h0 => absurd rfl h0, C2.S⟩
      refine rf_go hfe hx G C3 hk (hT.mono K12.le) hg (h1.mono K12.le) (h3.mono K12.le) (lq := nx.succ) (bl := w1.heap.size) (N := 0) Rho.set_same ?_ e
      rw [hro, run_enterLoop_outer]
      simp [w1, r0]
    | some lo =>
      simp only [gO_eq] at e
      obtain ⟨st, pend, fn, tm', ps', asg', body', dfs, hob, e⟩ := loopO_ok e
      simp only [pO_eq, succK_eq] at e
      have hro := C.B.ro
      cases hbr : b.roundOf with
      | none => rw [hbr] at hro; exact hro.elim
      | some blo =>
      rw [hbr] at hro
      obtain ⟨No, hlo⟩ := hro
      obtain ⟨r, hw, hlr, hB, hlt⟩ := C.H.loop hlo hob
      cases hlr with
      | mk _ _ fn' _ _ _ N' a1 a2 a3 a4 a5 a6 =>
      let r0 : Loop := { state := .ready, pending := none, fn := b.fn, tmps := tmps, params := ps, assign := assign, body := body, defers := r.defers }
      have hle2 := Rho.set_le (b := w.heap.size) (N := 0) hfr
      have hlr : LR P (ρ.set nx w.heap.size 0) (.mk 0 .none (qn f.nat) tm (ps.toList.map qn) (compC P (nt P f.nat) assign) (compC P (nt P f.nat) body) dfs) r0 :=
        LR.mk 0 .none f.nat tm dfs r0 N' .ready .none C.B.fn (hT.mono hle2) hps' (hle2 _ _ a6)
      rw [qn_of] at hlr
      obtain ⟨H2, K2⟩ := C.H.make (x := .loop r0) (N := 0) (.loop _ r0 _ _ C.H.size (AM.heap_alloc_new _) hlr)
      have C2 := C.keep H2 (by rw [Q.nat_succ]; omega) (K2.down C.le)
      have C3 : Ctx P w0 _ _ _ β _ f dk (some lo) ds cs frs b ([] ++ dds) := C2
      refine rf_go hfe hx G C3 hk (hT.mono K2.le) hg (h1.mono K2.le) (h3.mono K2.le) (lq := nx) (bl := w.heap.size) (N := 0) Rho.set_same ?_ e
      rw [hbr]
      simp [Instr.enterLoop, Sem.run_bind, run_getLoop hw, run_newObj_alloc, Result.andThen, r0]
  · cases e
theorem erf_ok (G : Good P ih) {l : Q} {bl N : Nat} (C : Ctx P w0 w ρ h β nx f dk rd ds cs frs b dds) (hk : KS P (nt P f.nat) k ks) (hT : TR ρ (nt P f.nat) tm tmps) (hl : ρ l = some (bl, N))
    (e : stepK fe ih f dk rd ds tm (.erf l k) cs h nx = .ok v) : Final P w0 (lone (b.atR ⟨tmps, dds⟩ (.endRangeFunc bl :: ks)) (frs ++ c0 :: cs0) w) c0 cs0 v := by
  simp only [stepK, gO_eq] at e
  obtain ⟨st, pend, fn, tm', ps, asg, body, dfs, hob, e⟩ := loopO_ok e
  obtain ⟨hst, e⟩ := gd_ok e
  rw [pO_eq] at e
  obtain ⟨r, hw, hlr, hB, hlt⟩ := C.H.loop hl hob
  cases hlr with
  | mk _ _ fn' _ _ _ N' h1 h2 h3 h4 h5 h6 =>
  have hnb : r.state ≠ .busy := fun hb => by rw [hb] at h1; cases h1; cases hst
  have hlr' : LR P ρ (.mk 3 pend (qn fn') tm' (r.params.toList.map qn) (compC P (nt P fn') r.assign) (compC P (nt P fn') r.body) dfs) { r with state := .exhausted } :=
    LR.mk 3 pend fn' tm' dfs { r with state := .exhausted } N' .exhausted h2 h3 h4 h5 h6
  obtain ⟨H', K⟩ := C.H.setLoop hl hob hB hlt hlr'
  have C' := C.keep H' (Nat.le_refl _) (K.down C.le)
  refine Final.steps (Steps.one (stepR_endRangeFunc (a := ⟨tmps, dds⟩) (run_endLoop hw hnb))) ?_
  have main : ∀ jp, JR pend jp → Final P w0 (lone (b.atR ⟨tmps, dds⟩ ((jp.map Item.code).toList ++ ks)) (frs ++ c0 :: cs0) (w.putObj bl (.loop { r with state := .exhausted }))) c0 cs0 v := fun jp hj => by
    cases hj with
    | none => exact C'.plain G hk hT e
    | ret => exact C'.plain G (.code .ret _ _ hk) hT e
    | exit id => exact C'.plain G (.code (.exit id) _ _ hk) hT e
  exact main _ h2
theorem begin_ok (G : Good P ih) (C : Ctx P w0 w ρ h β nx f dk rd ds cs frs b dds) (hk : KS P (nt P f.nat) k ks) (hT : TR ρ (nt P f.nat) tm tmps)
    (e : stepK fe ih f dk rd ds tm (.begin k) cs h nx = .ok v) : Final P w0 (lone (b.atR ⟨tmps, dds⟩ (.beginRound :: ks)) (frs ++ c0 :: cs0) w) c0 cs0 v := by
  simp only [stepK] at e
  split at e
  · cases e
  rename_i l
  rw [gO_eq] at e
  obtain ⟨st, pend, fn, tm', ps, asg, body, dfs, hob, e⟩ := loopO_ok e
  obtain ⟨hst, e⟩ := gd_ok e
  rw [pO_eq] at e
  have hro := C.B.ro
  cases hbr : b.roundOf with
  | none => rw [hbr] at hro; exact hro.elim
  | some bl =>
  rw [hbr] at hro
  obtain ⟨N, hl⟩ := hro
  obtain ⟨r, hw, hlr, hB, hlt⟩ := C.H.loop hl hob
  cases hlr with
  | mk _ _ fn' _ _ _ N' h1 h2 h3 h4 h5 h6 =>
  have hrd : r.state = .ready := by
    have := Nat.eq_of_beq_eq_true hst
    subst this
    revert h1
    cases r.state <;> intro h1 <;> first | rfl | cases h1
  have hlr' : LR P ρ (.mk 1 pend (qn fn') tm' (r.params.toList.map qn) (compC P (nt P fn') r.assign) (compC P (nt P fn') r.body) dfs) { r with state := .busy } :=
    LR.mk 1 pend fn' tm' dfs { r with state := .busy } N' .busy h2 h3 h4 h5 h6
  obtain ⟨H', K⟩ := C.H.setLoop hl hob hB hlt hlr'
  have C' := C.keep H' (Nat.le_refl _) (K.down C.le)
  exact Final.steps (Steps.one (stepR_beginRound (a := ⟨tmps, dds⟩) hbr (run_beginRound hw hrd))) (C'.plain G hk hT e)
end Go.CM
end
noncomputable section
namespace Go.CM
open Go.AM (resOf tupOf results_run run_getObj run_setObj run_underlying)
variable {P : Program} {w0 w w' : World} {ρ ρ' : Rho} {h h' : T O} {nx nx' : Q} {tm : T V} {tmps : Array Value} {r v : V} {ops : Array Oper} {n β : Nat} {f : Q} {dk : Bool} {rd : Option Q} {ds : List Df} {k : K} {cs : List Fr} {fr b : Frame} {frs : List Frame} {c0 : Frame} {cs0 : List Frame} {ih : Run} {fe : Q → CF} {ks : List Item} {dds : List Deferred}
theorem MR.erase {es : List (V × V)} {ents : List MapEntry} (h : MR ρ es ents) (j : Nat) : MR ρ (es.eraseIdx j) (ents.eraseIdx j) := by
  have hl := h.len
  refine ⟨by simp only [List.length_eraseIdx, hl], fun i p e h1 h2 => ?_, fun i p e h1 h2 => ?_⟩
  · rw [List.getElem?_eraseIdx] at h1 h2
    split at h1
    · rename_i hi; rw [if_pos hi] at h2; exact h.key _ _ _ h1 h2
    · rename_i hi; rw [if_neg hi] at h2; exact h.key _ _ _ h1 h2
  · rw [List.getElem?_eraseIdx] at h1 h2
    split at h1
    · rename_i hi; rw [if_pos hi] at h2; exact h.val _ _ _ h1 h2
    · rename_i hi; rw [if_neg hi] at h2; exact h.val _ _ _ h1 h2
theorem delK_ok (H : HR P w0 ρ h nx w) {s : KK} {t : TypeId} {x : V} {ux : Value} (hk : KT P s t) (hx : VR ρ x ux) :
    ∀ {es : List (V × V)} {ents : List MapEntry} {i : Nat} {k : List (V × V) → Res}, MR ρ es ents → delK s h x es k = .ok r →
    (k es = .ok r ∧ (Instr.findAsking t ux ents i).run P w = .ok none w ∧ ∀ d r', P.underlying t = some d → Instr.findNow d ux ents i = some r' → r' = none) ∨
      ∃ j u, j < ents.length ∧ k (es.eraseIdx j) = .ok r ∧ (Instr.findAsking t ux ents i).run P w = .ok (some (i + j, u)) w ∧ ∀ d r', P.underlying t = some d → Instr.findNow d ux ents i = some r' → r' = some (i + j, u)
  | [], [], i, k, hm, e => .inl ⟨e, by simp [Instr.findAsking], fun d r' _ h => by simp [Instr.findNow] at h; exact h.symm⟩
  | [], _ :: _, i, k, hm, e => by have := hm.len; simp at this
  | _ :: _, [], i, k, hm, e => by have := hm.len; simp at this
  | (y, v) :: es, en :: ents, i, k, hm, e => by
    simp only [delK] at e
    obtain ⟨b, e, s1, s2, s3⟩ := keyEq_ok H hk hx (hm.key 0 (y, v) en rfl rfl) e
    have htl : MR ρ es ents := ⟨by have := hm.len; simpa using this, fun i p e h1 h2 => hm.key (i + 1) p e (by simpa using h1) (by simpa using h2), fun i p e h1 h2 => hm.val (i + 1) p e (by simpa using h1) (by simpa using h2)⟩
    cases b with
    | true =>
      refine .inr ⟨0, en.val, by simp, e, by simp [Instr.findAsking, s1], fun d r' hd h => ?_⟩
      simp only [Instr.findNow] at h
      split at h
      · simpa using h.symm
      · rename_i hs; have := s2 d _ hd hs; cases this
      · cases h
    | false =>
      have now : ∀ d r', P.underlying t = some d → Instr.findNow d ux (en :: ents) i = some r' → Instr.findNow d ux ents (i + 1) = some r' := fun d r' hd h => by
        simp only [Instr.findNow] at h
        split at h
        · rename_i hs; have := s2 d _ hd hs; cases this
        · exact h
        · cases h
      rcases delK_ok H hk hx (i := i + 1) htl e with ⟨f1, f3, f4⟩ | ⟨j, u, f1, f2, f5, f6⟩
      · exact .inl ⟨f1, by simp [Instr.findAsking, s1, f3], fun d r' hd h => f4 d r' hd (now d r' hd h)⟩
      · refine .inr ⟨j + 1, u, by simp; omega, f2, ?_, fun d r' hd h => ?_⟩
        · rw [show i + (j + 1) = i + 1 + j by omega]; simp [Instr.findAsking, s1, f5]
        · rw [show i + (j + 1) = i + 1 + j by omega]; exact f6 d r' hd (now d r' hd h)
theorem erase_arr (ents : List MapEntry) {j : Nat} (hj : j < ents.length) : (⟨ents⟩ : Array MapEntry).eraseIdxIfInBounds j = ⟨ents.eraseIdx j⟩ := by
  apply Array.ext'
  simp [Array.eraseIdxIfInBounds, hj, Array.toList_eraseIdx]
theorem del_ok (H : HR P w0 ρ h nx w) {s : KK} {m key : V} {um uk : Value} {ts : Array TypeId} {ty t el : TypeId} {cb : Array Bool} {k : T O → Res} (ht : ts[0]? = some t) (hm : mapT P t = some (s, el)) (hv : VR ρ m um) (hk : VR ρ key uk)
    (e : keyCk s key (match (generalizing := false) m with
      | .map o => gO o h fun ob => mapO ob fun es => delK s h key es fun es' => pO (.mapd es') o h k
      | _ => .bad 97) = .ok r) :
    ∃ h' w' u, k h' = .ok r ∧ (invoke (.builtin .delete ts ty cb) #[um, uk]).run P w = .ok (.value u) w' ∧ HR P w0 ρ h' nx w' ∧ Keep nx.nat ρ h ρ h' := by
  obtain ⟨e4, hkf⟩ := keyCk_ok e
  cases m <;> simp only at e4 <;> first | cases e4 | skip
  rename_i o
  rw [gO_eq] at e4
  obtain ⟨es, hes, e5⟩ := mapO_ok e4
  obtain ⟨b, N, rfl, hb⟩ := hv.inv_map
  obtain ⟨ents, cl, g1, g2, g3, g4⟩ := H.map' hb hes
  obtain ⟨kt, hu, hkt⟩ := mapT_ok hm
  obtain ⟨d, hd⟩ := hkt.desc
  have hlt := (Array.getElem?_eq_some_iff.1 g1).1
  have hget := run_getObj (P := P) g1 (by simp)
  have hset := fun o' => run_setObj (P := P) (o' := o') g1 (by simp)
  have hck := fun bb => run_checkKey (w := w) hkt hk hkf bb 9998
  have put : ∀ es' ents', MR ρ es' ents' → HR P w0 ρ (h.put .dead (.mapd es') o) nx (w.putObj b (.map ⟨ents'⟩ cl)) ∧ Keep nx.nat ρ h ρ (h.put .dead (.mapd es') o) := fun es' ents' hmr => by
    rcases hes with hes | hes
    · exact H.putMap hb hes rfl (fun _ _ _ _ _ _ e => by cases e) rfl (fun _ _ _ _ _ _ e => by cases e) g3 (.mapd _ _ _ _ _ g3 (World.putObj_heap_same hlt) hmr)
    · exact H.putMap hb hes rfl (fun _ _ _ _ _ _ e => by cases e) rfl (fun _ _ _ _ _ _ e => by cases e) g3 (.mapd _ _ _ _ _ g3 (World.putObj_heap_same hlt) hmr)
  rcases delK_ok (i := 0) H hkt hk g2 e5 with ⟨f1, f3, f4⟩ | ⟨j, u, f1, f2, f5, f6⟩
  · rw [pO_eq] at f1
    have hfk := run_findKey hd f3 f4
    obtain ⟨p1, p2⟩ := put es ents g2
    refine ⟨_, _, .tuple #[], f1, ?_, p1, p2⟩
    simp [invoke, builtin, Builtin.delete_, ht, run_underlying hu, hget, hck, hfk, hset]
  · rw [pO_eq] at f2
    have hfk := run_findKey hd f5 f6
    obtain ⟨p1, p2⟩ := put _ _ (g2.erase j)
    refine ⟨_, _, .tuple #[], f2, ?_, p1, p2⟩
    rw [← erase_arr ents f1]
    simp [invoke, builtin, Builtin.delete_, ht, run_underlying hu, hget, hck, hfk, hset]
theorem resK_ok (H : HR P w0 ρ h nx w) (hT : TR ρ n tm tmps) : ∀ {rl : List ResultVar} {rs : List RV} {k : List V → Res}, compR P rl = some rs → resK tm h rs k = .ok r → ∃ vs us, k vs = .ok r ∧ (rl.mapM (resOf tmps)).run P w = .ok us w ∧ VRs ρ vs us
  | [], rs, k, hc, e => by
    simp only [compR, Option.some.injEq] at hc; subst hc
    exact ⟨[], [], e, by simp, .nil⟩
  | .tmp t :: rl, rs, k, hc, e => by
    simp only [compR, Option.map_eq_some_iff] at hc
    obtain ⟨rs', hc, rfl⟩ := hc
    simp only [resK, gV_eq] at e
    obtain ⟨vs, us, h1, h2, h3⟩ := resK_ok H hT hc e
    refine ⟨_, tmps.getD t Go.undef :: us, h1, ?_, .cons (hT.rel t) h3⟩
    simp only [List.mapM_cons, resOf, Sem.run_bind]
    simp [h2]
  | .cell a t :: rl, rs, k, hc, e => by
    simp only [compR] at hc
    obtain ⟨g, hg, hc2⟩ := bindo hc
    obtain ⟨s, hs, hc3⟩ := bindo hc2
    split at hc3
    · rename_i hgs
      simp only [Option.map_eq_some_iff] at hc3
      obtain ⟨rs', hcr, rfl⟩ := hc3
      simp only [resK, gV_eq] at e
      obtain ⟨o, off, ho, e⟩ := asP_ok e
      have hp := hT.rel a
      rw [show tm.at a = .ptr o off from ho] at hp
      obtain ⟨b, N, hv, hb⟩ := hp.inv_ptr
      cases g with
      | true =>
        simp only at e
        obtain ⟨m, tt, h1, h2, e3⟩ := ldsK_ok e
        obtain ⟨vs, g1, g2, g3, g4⟩ := H.cells hb h1 h2
        obtain ⟨vs', us, i1, i2, i3⟩ := resK_ok H hT hcr e3
        refine ⟨_, .agg ⟨vs⟩ :: us, i1, ?_, .cons (g3.agg g4) i3⟩
        simp only [List.mapM_cons, resOf, Sem.run_bind, hv]
        simp [asAddr, AM.run_loadVar_agg (P := P) hg (by rw [g1]; exact hs) g2, i2]
      | false =>
        simp only at e
        obtain ⟨m, tt, h1, h2, e3⟩ := ldK_ok e
        obtain ⟨u, g1, g2, _⟩ := H.cell hb h1 h2
        obtain ⟨vs', us, i1, i2, i3⟩ := resK_ok H hT hcr e3
        refine ⟨_, u :: us, i1, ?_, .cons g2 i3⟩
        simp only [List.mapM_cons, resOf, Sem.run_bind, hv]
        simp [asAddr, AM.run_loadVar_one hg g1, i2]
    · cases hc3
theorem oneV_rel {vs : List V} {us : List Value} (hv : VRs ρ vs us) : VR ρ (oneV vs) (tupOf us) := by
  match vs, us, hv with
  | [], us, hv => rw [hv.inv_nil]; exact .tup [] [] rfl (fun i c v h => by simp at h)
  | [x], us, hv =>
    obtain ⟨u, us', rfl, h1, h2⟩ := hv.inv_cons
    rw [h2.inv_nil]; exact h1
  | x :: y :: vs, us, hv =>
    obtain ⟨u, us', rfl, h1, h2⟩ := hv.inv_cons
    obtain ⟨u2, us2, rfl, h3, h4⟩ := h2.inv_cons
    exact .tup _ _ hv.1 hv.2
end Go.CM
end
noncomputable section
namespace Go.CM
open Go.AM (tupOf results_run)
variable {P : Program} {w0 w w' : World} {ρ ρ' : Rho} {h h' : T O} {nx nx' : Q} {tm : T V} {tmps : Array Value} {r v : V} {ops : Array Oper} {n β : Nat} {f : Q} {dk : Bool} {rd : Option Q} {ds : List Df} {k : K} {cs : List Fr} {fr b : Frame} {frs : List Frame} {c0 : Frame} {cs0 : List Frame} {ih : Run} {fe : Q → CF} {ks : List Item} {dds : List Deferred}
theorem step_deferred_value {fr : Frame} {cs : List Frame} {d : Deferred} {ds : List Deferred} {u : Value} {bb : Builtin} {ts : Array TypeId} {ty : TypeId} {cb : Array Bool} (hm : fr.mode = .returning) (hd : fr.defers = d :: ds) (ht : d.target = .builtin bb ts ty cb) (hi : (invoke d.target d.args).run P w = .ok (.value u) w') :
    step P (lone fr cs w) = .next (lone { fr with defers := ds } cs w') := by
  obtain ⟨t, a⟩ := d
  simp only at ht hi
  subst ht
  refine step_lone_go ?_
  simp [stepG, unwind, callDeferred, hm, hd, hi]
theorem rtnK_ok (hfe : FeOK P fe) (G : Good P ih) (C : Ctx P w0 w ρ h β nx f dk rd ds cs frs b dds) (hT : TR ρ (nt P f.nat) tm tmps)
    (e : rtnK fe ih f dk rd ds tm cs h nx = .ok v) : Final P w0 (lone { b.atR ⟨tmps, dds⟩ ks with mode := .returning } (frs ++ c0 :: cs0) w) c0 cs0 v := by
  have hD := C.D
  have hrn : ∀ {x : Df} {ds' : List Df}, ds = x :: ds' → rd ≠ none → ds' = [] := fun h0 h1 => by have := C.rn h1; rw [h0] at this; cases this
  cases hD with
  | coll q bl N ds' dds' hq hr =>
    simp only [rtnK, gO_eq] at e
    split at e
    · rename_i hob
      rw [pO_eq] at e
      have hO := C.H.obj q bl N hq
      rw [hob] at hO
      cases hO with
      | dfd _ _ _ hB hw =>
      simp only [Bool.false_eq_true, if_false] at hw
      have hlt := (Array.getElem?_eq_some_iff.1 hw).1
      obtain ⟨H', K⟩ := C.H.putMap (y := .deferred none) (x' := .dfd true) hq hob rfl (fun _ _ _ _ _ _ e => by cases e) rfl (fun _ _ _ _ _ _ e => by cases e) hB (.dfd true _ _ hB (by simpa using World.putObj_heap_same hlt))
      have C' := C.keep H' (Nat.le_refl _) (K.down C.le)
      have C2 : Ctx P w0 _ ρ _ β nx f dk rd ds' cs frs b dds' := ⟨C'.H, C'.le, C'.B, hr, hrn rfl, C'.S⟩
      refine Final.steps (Steps.one (step_collected (r := bl) (calls := []) (ds := dds') (d := { target := .collected bl, args := #[] }) (by simp) rfl rfl (run_takeDeferred hw))) ?_
      exact C2.go G (.rtn ks) ⟨hT, rfl⟩ e
    · cases e
  | call g cs1 av cv ds' dds' hv hr =>
    simp only [rtnK] at e
    unfold enterK at e
    rw [getR_eq] at e
    split at e
    · cases e
    · split at e <;> cases e
    · rename_i body rs hcf
      have hcf' : compF P g = .mk body rs := by
        rcases hfe g with h0 | h0
        · rw [h0] at hcf; cases hcf
        · rw [← h0]; exact hcf
      obtain ⟨fn, cc, g1, g2, g3, g4, _⟩ := compF_mk hcf'
      have hS : StkR P ρ h (.mk f dk rd ds' tm .rtn :: cs) ({ b.atR ⟨tmps, dds'⟩ ks with mode := .returning } :: frs) nx.nat :=
        .cons ρ ρ h h f dk rd ds' tm _ cs _ frs β nx.nat nx ⟨C.le, b, dds', tmps, _, C.B, hr, hrn rfl, .rtn ks, hT, rfl⟩ (Nat.le_refl _) (Keep.refl _ _ _) C.S
      have harr : (⟨av⟩ : Array Value) ++ ⟨cv⟩ = ⟨av ++ cv⟩ := by apply Array.ext'; simp
      have hinv : (invoke (.fn (.func g) ⟨cv⟩) ⟨av⟩).run P w = .ok (.enter g ⟨av ++ cv⟩) w := by
        simp only [invoke, harr]
        simp [callFunc, g1, g2, g3]
        intro hn
        rw [hn] at g3
        simp at g3
      refine Final.steps (Steps.one (Go.step_defer (ds := dds') (d := { target := .fn (.func g) ⟨cv⟩, args := ⟨av⟩ }) (by simp) rfl rfl hinv)) ?_
      have := enter_ok (dk := true) (c0 := c0) (cs0 := cs0) G C.H hv hS hcf' e
      simp only [if_true] at this
      exact this
  | del s m key ts ty cb t el um uk ds' dds' ht hm hv hk hr =>
    simp only [rtnK] at e
    obtain ⟨h', w', u, e1, hi, H', K⟩ := del_ok (ty := ty) (cb := cb) C.H ht hm hv hk e
    have C' := C.keep H' (Nat.le_refl _) (K.down C.le)
    have C2 : Ctx P w0 _ ρ _ β nx f dk rd ds' cs frs b dds' := ⟨C'.H, C'.le, C'.B, hr, hrn rfl, C'.S⟩
    refine Final.steps (Steps.one (step_deferred_value (ds := dds') (d := { target := .builtin .delete ts ty cb, args := #[um, uk] }) rfl rfl rfl hi)) ?_
    exact C2.go G (.rtn ks) ⟨hT, rfl⟩ e1
  | nil =>
    simp only [rtnK] at e
    rw [getR_eq] at e
    split at e
    · cases e
    · cases e
    · rename_i body rs hcf
      have hcf' : compF P f.nat = .mk body rs := by
        rcases hfe f.nat with h0 | h0
        · rw [qn_of] at h0; rw [h0] at hcf; cases hcf
        · rw [qn_of] at h0; rw [← h0]; exact hcf
      obtain ⟨fn, cc, g1, g2, g3, g4, _⟩ := compF_mk hcf'
      obtain ⟨vs, us, e1, r1, r2⟩ := resK_ok C.H hT g4 e
      have hres := results_run r1
      have hov := oneV_rel r2
      have hS := C.S
      have hfn : ({ b.atR ⟨tmps, []⟩ ks with mode := .returning } : Frame).fn = f.nat := C.B.fn
      have hkd : ({ b.atR ⟨tmps, []⟩ ks with mode := .returning } : Frame).kind = if dk then .deferred else .normal := C.B.kind
      have hgo : ({ b.atR ⟨tmps, []⟩ ks with mode := .returning } : Frame).going P w (.returned (tupOf us)) := ⟨rfl, rfl, fn, by rw [hfn]; exact g1, hres⟩
      split at e1
      · cases hS
        split at e1
        · rename_i hdk
          cases e1
          exact ⟨w, ρ, h, nx, tupOf us, Steps.one (step_leave_returned ⟨rfl, rfl, by rw [hkd]; rfl, fn, by rw [hfn]; exact g1, hres⟩), C.H, hov⟩
        · cases e1
      · cases hS with
        | cons ρ0 _ h0 _ f' dk' rd' ds' tm2 k' cs' fr' frs' β0 _ nx0 hf hn hK hs =>
        split at e1
        · refine Final.steps (Steps.one (step_leave_returned ⟨rfl, rfl, by rw [hkd]; rfl, fn, by rw [hfn]; exact g1, hres⟩)) ?_
          exact finK_ok G C.H hf (Nat.le_trans hn C.le) hK hs hov e1
        · split at e1
          · rename_i f2 dk2 rd2 ds2 tm2 heq
            cases heq
            obtain ⟨hle, b2, dds2, tmps2, X, hB2, hD2, hrn2, hW, hC⟩ := hf
            cases hW with
            | rtn ks2 =>
            obtain ⟨hT2, rfl⟩ := hC
            have hle' : β0 ≤ nx.nat := Nat.le_trans hle (Nat.le_trans hn C.le)
            have C2 : Ctx P w0 w ρ h β0 nx f' dk' rd' ds' _ frs' b2 dds2 := ⟨C.H, hle', hB2.mono hK.le, hD2.mono hK.le, hrn2, hs⟩
            refine Final.steps (Steps.one (step_going_returned (by rw [hkd]; rfl) hgo)) ?_
            exact C2.go G (.rtn ks2) ⟨hT2.mono hK.le, rfl⟩ e1
          · cases e1
end Go.CM
end
