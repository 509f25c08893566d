import Derived.Test.YtdkkaldimefljaaGreatDoorX27
set_option linter.all false
noncomputable section
namespace Go.CM
def XOK (g : Xg) (x : X) : Prop := ∀ tm k, g tm k = xK x tm k
def XsOK (g : Xs) (xs : List X) : Prop := ∀ tm k, g tm k = xsK xs tm k
def POK (p : Pg) (b : PB) : Prop := ∀ tm h k, p tm h k = pK b tm h k
def AOK (a : Ag) (b : AB) : Prop := ∀ tm k, a tm k = aK b tm k
def WOK (w : Wg) (b : WB) : Prop := ∀ tm h nx k, w tm h nx k = wK b tm h nx k
def DOK (d : Dt) (q : Option Q) : Prop := ∀ v tm k, d v tm k = putD q v tm k
def BdOK (b : Bd) (ps : List (Nat × Nat × X)) : Prop := ∀ tm l k, b tm l k = bldK tm ps l k
def OgOK (g : Og) (x : Option X) : Prop := ∀ tm d k, g tm d k = optN x tm d k
def SgOK (g : Sg) (sz : Nat) (ps : List (Nat × X)) : Prop := ∀ tm t k, g tm t k = bslK tm sz ps t k
theorem xC_ok (v : V) : XOK (xC v) (.c v) := fun _ _ => rfl
theorem xBad_ok : XOK xBad .bad := fun _ _ => rfl
theorem xsN_ok : XsOK xsN [] := fun _ _ => rfl
theorem xsA_ok {g : Xg} {r : Xs} {x : X} {xs : List X} (h1 : XOK g x) (h2 : XsOK r xs) : XsOK (xsA g r) (x :: xs) := fun tm k => by
  show g tm (fun v => r tm fun l => k (v :: l)) = xK x tm fun v => xsK xs tm fun l => k (v :: l)
  rw [h1]; congr 1; funext v; exact h2 tm _
theorem bdN_ok : BdOK bdN [] := fun _ _ _ => rfl
theorem bdA_ok {g : Xg} {r : Bd} {x : X} {ps : List (Nat × Nat × X)} {off n : Nat} (h1 : XOK g x) (h2 : BdOK r ps) : BdOK (bdA off n g r) ((off, n, x) :: ps) := fun tm l k => by
  simp only [bdA, bldK, h1 tm, vCv_eq, lenF_eq, gdF_eq, overF_eq, h2 tm]
theorem ogN_ok : OgOK ogN none := fun _ _ _ => rfl
theorem ogS_ok {g : Xg} {x : X} (h1 : XOK g x) : OgOK (ogS g) (some x) := fun tm d k => by
  simp only [ogS, optN, h1 tm, vN_eq]
theorem sgN_ok {sz : Nat} : SgOK sgN sz [] := fun _ _ _ => rfl
theorem sgA_ok {g : Xg} {r : Sg} {x : X} {ps : List (Nat × X)} {i sz : Nat} (h1 : XOK g x) (h2 : SgOK r sz ps) : SgOK (sgA i sz g r) sz ((i, x) :: ps) := fun tm t k => by
  simp only [sgA, bslK, h1 tm, vCv_eq, lenF_eq, gdF_eq, putsF_eq, h2 tm]; rfl
theorem vSc_eq (c : Nat) (v : V) (k : Nat → Nat → Res) : vSc v c k = match v with | .str l n => k l n | _ => .bad c := by cases v <;> rfl
theorem vIc_eq (c : Nat) (v : V) (k : IntKind → Int → Res) : vIc v c k = match v with | .int kd n => k kd n | _ => .bad c := by cases v <;> rfl
theorem vPc_eq (c : Nat) (v : V) (k : Q → Nat → Res) : vPc v c k = match v with | .ptr o a => k o a | _ => .bad c := by cases v <;> rfl
theorem keF_eq (s : KK) (h : T O) (x y : V) (k : Bool → Res) : keF s h x y k = keyEq s h x y k := by
  cases s
  · show vSc x 35 (fun l n => vSc y 32 fun m j => k (andF (Nat.beq l m) (Nat.beq n j))) = _
    rw [vSc_eq]
    cases x <;> try rfl
    simp only [vSc_eq]
    cases y <;> try rfl
    simp only [andF_eq]; rfl
  · show vIc x 35 (fun kd a => vIc y 34 fun kd' b => gdF (Nat.beq (ikNF kd) (ikNF kd')) 33 (k (eqIF a b))) = _
    rw [vIc_eq]
    cases x <;> try rfl
    simp only [vIc_eq]
    cases y <;> try rfl
    simp only [gdF_eq, ikNF_eq, eqIF_eq]; rfl
  · show vPc x 35 (fun o a => vPc y 34 fun o' b => eqPF h o a o' b k) = _
    rw [vPc_eq]
    cases x <;> try rfl
    simp only [vPc_eq]
    cases y <;> try rfl
    simp only [eqPF_eq]; rfl
  · rfl
theorem findF_eq (s : KK) (h : T O) (x : V) (k : V → Res) (kn : Res) : ∀ es, findF es (keF s h) x k kn = findK s h x es k kn
  | [] => rfl
  | (y, v) :: es => by
    show keF s h x y (fun b => ifF b (k v) (findF es (keF s h) x k kn)) = _
    rw [keF_eq]
    simp only [findK]
    congr 1; funext b
    rw [ifF_eq, findF_eq s h x k kn es]
    cases b <;> rfl
theorem updF_eq (s : KK) (h : T O) (x : V) (f : V → V) (z : V) : ∀ (es : List (V × V)) (i : Nat) (k : Ku), updF es (keF s h) x f z i k = updK s h x f z es i k
  | [], i, k => rfl
  | (y, u) :: es, i, k => by
    show keF s h x y (fun b => @Bool.rec (fun _ => V → V → List (V × V) → Ut → Ut) (fun y u _ ih e x f z i k => fN (Nat.succ i) fun i' => ih e x f z i' fun es' j w => k ((y, u) :: es') j w) (fun _ u es _ _ x f _ i k => k ((x, f u) :: es) i u) b y u es (updF es) (keF s h) x f z i k) = _
    rw [keF_eq]
    simp only [updK]
    congr 1; funext b
    cases b
    · simp only [fN_eq, forceN_eq, updF_eq s h x f z es]
    · rfl
theorem kcF_eq (s : KK) (x : V) (k : Res) : kcF s x k = keyCk s x k := by cases s <;> rfl
theorem vM_eq (c : Nat) (v : V) (k : Q → Res) (kn : Res) : vM v c k kn = match v with | .map o => k o | .nilm => kn | _ => .bad c := by cases v <;> rfl
section
variable {x y z : Xg} {a b c : X}
theorem pMv_ok (hx : XOK x a) : POK (pMv x) (.mv a) := fun tm _ k => hx tm k
theorem pPick_ok (hx : XOK x a) (hy : XOK y b) (hz : XOK z c) : POK (pPick x y z) (.pick a b c) := fun tm h k => by
  simp only [pPick, pK, hx tm, vB_eq]
  congr 1; funext v; congr 1; funext t
  cases t
  · exact hz tm k
  · exact hy tm k
theorem pBin_ok {op : BinOp} (hx : XOK x a) (hy : XOK y b) : POK (pBin op x y) (.bin op a b) := fun tm h k => by simp only [pBin, pK, hx tm, hy tm, vBin_eq]
theorem pEq_ok {neg : Bool} {m : EqM} (hx : XOK x a) (hy : XOK y b) : POK (@EqM.rec (fun _ => Pg) (pEqP neg x y) (pEqB neg x y) (pNil vNilS neg x y) (pNil vNilM neg x y) (pNil vNilF neg x y) (pNil vNilI neg x y) m) (.eq neg m a b) := fun tm h k => by
  cases m
  · show pEqP neg x y tm h k = _
    simp only [pEqP, pK, hx tm, hy tm, vPtrEq_eq, nbF_eq]
  · show pEqB neg x y tm h k = _
    simp only [pEqB, pK, hx tm, hy tm, vB_eq, nbF_eq, beqF_eq, eqK]
  · show pNil vNilS neg x y tm h k = _
    simp only [pNil, pK, hx tm, hy tm, nbF_eq]
    congr 1; funext u; congr 1; funext w; exact vNilS_eq h u w _
  · show pNil vNilM neg x y tm h k = _
    simp only [pNil, pK, hx tm, hy tm, nbF_eq]
    congr 1; funext u; congr 1; funext w; exact vNilM_eq h u w _
  · show pNil vNilF neg x y tm h k = _
    simp only [pNil, pK, hx tm, hy tm, nbF_eq]
    congr 1; funext u; congr 1; funext w; exact vNilF_eq h u w _
  · show pNil vNilI neg x y tm h k = _
    simp only [pNil, pK, hx tm, hy tm, nbF_eq]
    congr 1; funext u; congr 1; funext w; exact vNilI_eq h u w _
theorem pNot_ok (hx : XOK x a) : POK (pNot x) (.not a) := fun tm h k => by simp only [pNot, pK, hx tm, vB_eq, bF_eq, notF_eq]
theorem pNeg_ok (hx : XOK x a) : POK (pNeg x) (.neg a) := fun tm h k => by
  simp only [pNeg, pK, hx tm, vI_eq, wrapF_eq, subF_eq]; rfl
theorem pCvi_ok {kd : IntKind} (hx : XOK x a) : POK (pCvi kd x) (.cvi kd a) := fun tm h k => by simp only [pCvi, pK, hx tm, vI_eq, wrapF_eq]
theorem pCvs_ok (hx : XOK x a) : POK (pCvs x) (.cvs a) := fun tm h k => by simp only [pCvs, pK, hx tm, vS_eq]
theorem pCis_ok (hx : XOK x a) : POK (pCis x) (.cis a) := fun tm h k => by simp only [pCis, pK, hx tm, vN_eq, gdF_eq]; rfl
theorem pBld_ok {l : List V} {r : Bd} {ps : List (Nat × Nat × X)} (hr : BdOK r ps) : POK (pBld l r) (.bld l ps) := fun tm h k => by simp only [pBld, pK, hr tm]
theorem pLd1_ok (hx : XOK x a) : POK (pLd1 x) (.ld1 a) := fun tm h k => by simp only [pLd1, pK, hx tm, vP_eq, ldF_eq]
theorem pLdn_ok {n : Nat} (hx : XOK x a) : POK (pLdn n x) (.ldn n a) := fun tm h k => by simp only [pLdn, pK, hx tm, vP_eq, ldsF_eq]
theorem pNck_ok (hx : XOK x a) : POK (pNck x) (.nck a) := fun tm h k => by
  simp only [pNck, pK, hx tm]
  congr 1; funext v; exact vNck_eq v k
theorem pFa_ok {off : Nat} (hx : XOK x a) : POK (pFa off x) (.fa off a) := fun tm h k => by simp only [pFa, pK, hx tm, vP_eq, fN_eq, forceN_eq]; rfl
theorem pFd_ok {agg : Bool} {off n : Nat} (hx : XOK x a) : POK (pFd agg off n x) (.fd agg off n a) := fun tm h k => by simp only [pFd, pK, hx tm, vA_eq, fdF_eq]
theorem pIa_ok {sz : Nat} (hx : XOK x a) (hy : XOK y b) : POK (pIa sz x y) (.ia sz a b) := fun tm h k => by simp only [pIa, pK, hx tm, hy tm, vN_eq, vElem_eq]
theorem pIaa_ok {len sz : Nat} (hx : XOK x a) (hy : XOK y b) : POK (pIaa len sz x y) (.iaa len sz a b) := fun tm h k => by simp only [pIaa, pK, hx tm, hy tm, vN_eq, vP_eq, gdF_eq, fN_eq, forceN_eq]; rfl
theorem pIxs_ok (hx : XOK x a) (hy : XOK y b) : POK (pIxs x y) (.ixs a b) := fun tm h k => by simp only [pIxs, pK, hx tm, hy tm, vN_eq, vS_eq, gdF_eq, fN_eq, forceN_eq, powF_eq]; rfl
theorem pIxa_ok {agg : Bool} {len sz : Nat} (hx : XOK x a) (hy : XOK y b) : POK (pIxa agg len sz x y) (.ixa agg len sz a b) := fun tm h k => by simp only [pIxa, pK, hx tm, hy tm, vN_eq, vA_eq, gdF_eq, fN_eq, forceN_eq, fdF_eq]; rfl
theorem pSlS_ok {lo hi : Og} {l u : Option X} (hx : XOK x a) (hl : OgOK lo l) (hu : OgOK hi u) : POK (pSlS x lo hi) (.slS a l u) := fun tm h k => by
  simp only [pSlS, pK, hx tm, vS_eq, hl tm, hu tm, gdF_eq, andF_eq, fN_eq, forceN_eq, powF_eq]; rfl
theorem pSlL_ok {sz : Nat} {lo hi : Og} {l u : Option X} (hx : XOK x a) (hl : OgOK lo l) (hu : OgOK hi u) : POK (pSlL sz x lo hi) (.slL sz a l u none) := fun tm h k => by
  simp only [pSlL, pK, hx tm, vLen_eq, hl tm, hu tm, vCut_eq]
theorem pMki_ok {t : Nat} (hx : XOK x a) : POK (pMki t x) (.mki t a) := fun tm h k => by simp only [pMki, pK, hx tm]
theorem pMkf_ok {f : Q} {r s : Xs} {xs ys : List X} (hr : XsOK r xs) (hs : XsOK s ys) : POK (pMkf f r s) (.mkf f xs ys) := fun tm h k => by simp only [pMkf, pK, hr tm, hs tm]
theorem lkMiss_eq (ok : Bool) (z : V) (k : V → Res) : lkMiss ok z k = match ok with | true => k (.tup [z, .bool false]) | false => k z := by cases ok <;> rfl
theorem lkHit_eq (ok : Bool) (v : V) (k : V → Res) : lkHit ok v k = match ok with | true => k (.tup [v, .bool true]) | false => k v := by cases ok <;> rfl
theorem pLk_ok {s : KK} {ok : Bool} {z : V} (hx : XOK x a) (hy : XOK y b) : POK (pLk s ok z x y) (.lk s ok z a b) := fun tm h k => by
  simp only [pLk, pK, hx tm, hy tm, kcF_eq, vM_eq, goT_eq, mapF_eq, findF_eq]
  congr 1; funext m; congr 1; funext u; congr 1
  cases m <;> try rfl
  · cases ok <;> rfl
  · cases ok <;> rfl
theorem pLenS_ok (hx : XOK x a) : POK (pLenS x) (.lenS a) := fun tm h k => by simp only [pLenS, pK, hx tm, vS_eq]
theorem pLenL_ok (hx : XOK x a) : POK (pLenL x) (.lenL a) := fun tm h k => by simp only [pLenL, pK, hx tm, vLen_eq]
theorem pLenM_ok (hx : XOK x a) : POK (pLenM x) (.lenM a) := fun tm h k => by
  simp only [pLenM, pK, hx tm, vM_eq, goT_eq, mapF_eq, lenF_eq]
  congr 1; funext v
  cases v <;> rfl
theorem pSd_ok (hx : XOK x a) : POK (pSd x) (.sd a) := fun tm h k => by
  simp only [pSd, pK, hx tm]
  congr 1; funext v
  rw [vSd_eq]
  cases v <;> try rfl
theorem pMax_ok (hx : XOK x a) (hy : XOK y b) : POK (pMax x y) (.max a b) := fun tm h k => by
  simp only [pMax, pK, hx tm, hy tm, vI_eq, ifF_eq, leF_eq]
  rfl
theorem pEx_ok {i : Nat} (hx : XOK x a) : POK (pEx i x) (.ex i a) := fun tm h k => by
  simp only [pEx, pK, hx tm, vT_eq, nthF_eq]
  rfl
theorem pTa_ok {ok : Bool} {t : Nat} {z : V} (hx : XOK x a) : POK (pTa ok t z x) (.ta ok t z a) := fun tm h k => by simp only [pTa, pK, hx tm, vTa_eq]
theorem pRare_ok (b : PB) : POK (pRare b) b := fun _ _ _ => rfl
theorem aAl_ok {ty n : Nat} {t : T V} : AOK (aAl ty n t) (.al ty n t) := fun _ _ => rfl
theorem aBx_ok {ty n : Nat} (hx : XOK x a) : AOK (aBx ty n x) (.bx ty n a) := fun tm k => by simp only [aBx, aK, hx tm, vCv_eq, lenF_eq, gdF_eq, putsF_eq]
theorem aBsl_ok {ty sz len : Nat} {t : T V} {g : Sg} {ps : List (Nat × X)} (hg : SgOK g sz ps) : AOK (aBsl ty sz len t g) (.bsl ty sz len t ps) := fun tm k => by
  simp only [aBsl, aK, hg tm, fN_eq, forceN_eq]; rfl
theorem aMkm_ok : AOK aMkm .mkm := fun _ _ => rfl
theorem aRare_ok (b : AB) : AOK (aRare b) b := fun _ _ => rfl
theorem wSt_ok {n : Nat} (hx : XOK x a) (hy : XOK y b) : WOK (wSt n x y) (.st n a b) := fun tm h nx k => by simp only [wSt, wK, hx tm, hy tm, vP_eq, vCv_eq, lenF_eq, gdF_eq, wrF_eq]
theorem setM_eq (ob : O) (F : List (V × V) → (List (V × V) → Res) → Res) (k : O → Res) : mapF ob (fun es => F es fun es' => setMF ob es' k) = mapO ob fun es => F es fun es' => k (setM ob es') := by cases ob <;> rfl
theorem wMu_ok {s : KK} (hx : XOK x a) (hy : XOK y b) (hz : XOK z c) : WOK (wMu s x y z) (.mu s a b c) := fun tm h nx k => by
  simp only [wMu, wK, hx tm, hy tm, hz tm, kcF_eq, vM_eq, goT_eq, updF_eq, doT_eq]
  congr 1; funext m; congr 1; funext u; congr 1; funext v; congr 1
  cases m <;> try rfl
  simp only [gO_eq]
  exact setM_eq _ (fun es g => updK s h u (fun _ => v) v es 0 fun es' _ _ => g es') _
theorem wMe_ok {s : KK} {z : V} (hx : XOK x a) (hy : XOK y b) : WOK (wMe s z x y) (.me s z a b) := fun tm h nx k => by
  simp only [wMe, wK, hx tm, hy tm, kcF_eq, vM_eq, goT_eq, updF_eq, doT_eq, mapEF_eq]
  congr 1; funext m; congr 1; funext u; congr 1
  cases m <;> rfl
theorem wAp_ok {ty sz : Nat} (hx : XOK x a) (hy : XOK y b) : WOK (wAp ty sz x y) (.ap ty sz a b) := fun tm h nx k => by
  simp only [wAp, wK, hx tm, hy tm, vCells_eq, gdF_eq, vAp_eq]
theorem wCp_ok {sz : Nat} (hx : XOK x a) (hy : XOK y b) : WOK (wCp sz x y) (.cp sz a b) := fun tm h nx k => by
  simp only [wCp, wK, hx tm, hy tm, vLen_eq, vCells_eq, gdF_eq, vCp_eq]
  rfl
theorem wSb_ok (hx : XOK x a) : WOK (wSb x) (.sb a) := fun tm h nx k => by
  simp only [wSb, wK, hx tm, vS_eq, byF_eq, putsF_eq, doT_eq, sqT_eq]
theorem wRare_ok (b : WB) : WOK (wRare b) b := fun _ _ _ _ => rfl
end
end Go.CM
end
noncomputable section
namespace Go.CM
def Tot {α : Type} (Φ : (α → Res) → Res) : Prop := (∃ a, ∀ k, Φ k = k a) ∨ ∃ n, ∀ k, Φ k = .bad n
def Tot0 (Φ : Res → Res) : Prop := (∀ k, Φ k = k) ∨ ∃ n, ∀ k, Φ k = .bad n
def TotW (Φ : Kw → Res) : Prop := (∃ v h nx, ∀ k, Φ k = k v h nx) ∨ ∃ n, ∀ k, Φ k = .bad n
variable {α β : Type}
theorem Tot.ret (a : α) : Tot (fun k => k a) := .inl ⟨a, fun _ => rfl⟩
theorem Tot.bad (n : Nat) : Tot (fun _ : α → Res => .bad n) := .inr ⟨n, fun _ => rfl⟩
theorem TotW.ret (v : V) (h : T O) (nx : Q) : TotW (fun k => k v h nx) := .inl ⟨v, h, nx, fun _ => rfl⟩
theorem TotW.bad (n : Nat) : TotW (fun _ => .bad n) := .inr ⟨n, fun _ => rfl⟩
theorem Tot.bind {Φ : (α → Res) → Res} {Ψ : α → (β → Res) → Res} (h : Tot Φ) (hf : ∀ a, Tot (Ψ a)) : Tot (fun k => Φ fun a => Ψ a k) := by
  rcases h with ⟨a, h⟩ | ⟨n, h⟩
  · rw [show (fun k => Φ fun a => Ψ a k) = Ψ a from funext fun k => h _]; exact hf a
  · exact .inr ⟨n, fun k => h _⟩
theorem Tot.bindW {Φ : (α → Res) → Res} {Ψ : α → Kw → Res} (h : Tot Φ) (hf : ∀ a, TotW (Ψ a)) : TotW (fun k => Φ fun a => Ψ a k) := by
  rcases h with ⟨a, h⟩ | ⟨n, h⟩
  · rw [show (fun k => Φ fun a => Ψ a k) = Ψ a from funext fun k => h _]; exact hf a
  · exact .inr ⟨n, fun k => h _⟩
theorem Tot0.bind {Φ : Res → Res} {Ψ : (β → Res) → Res} (h : Tot0 Φ) (hf : Tot Ψ) : Tot (fun k => Φ (Ψ k)) := by
  rcases h with h | ⟨n, h⟩
  · rw [show (fun k => Φ (Ψ k)) = Ψ from funext fun k => h _]; exact hf
  · exact .inr ⟨n, fun k => h _⟩
theorem Tot0.bindW {Φ : Res → Res} {Ψ : Kw → Res} (h : Tot0 Φ) (hf : TotW Ψ) : TotW (fun k => Φ (Ψ k)) := by
  rcases h with h | ⟨n, h⟩
  · rw [show (fun k => Φ (Ψ k)) = Ψ from funext fun k => h _]; exact hf
  · exact .inr ⟨n, fun k => h _⟩
theorem tot_gd (b : Bool) (n : Nat) : Tot0 (gd b n) := by cases b <;> first | exact .inl fun _ => rfl | exact .inr ⟨n, fun _ => rfl⟩
def Tot2 {α β : Type} (Φ : (α → β → Res) → Res) : Prop := (∃ a b, ∀ k, Φ k = k a b) ∨ ∃ n, ∀ k, Φ k = .bad n
theorem Tot2.bindW {Φ : (α → β → Res) → Res} {Ψ : α → β → Kw → Res} (h : Tot2 Φ) (hf : ∀ a b, TotW (Ψ a b)) : TotW (fun k => Φ fun a b => Ψ a b k) := by
  rcases h with ⟨a, b, h⟩ | ⟨n, h⟩
  · rw [show (fun k => Φ fun a b => Ψ a b k) = Ψ a b from funext fun k => h _]; exact hf a b
  · exact .inr ⟨n, fun k => h _⟩
theorem Tot2.bind {γ : Type} {Φ : (α → β → Res) → Res} {Ψ : α → β → (γ → Res) → Res} (h : Tot2 Φ) (hf : ∀ a b, Tot (Ψ a b)) : Tot (fun k => Φ fun a b => Ψ a b k) := by
  rcases h with ⟨a, b, h⟩ | ⟨n, h⟩
  · rw [show (fun k => Φ fun a b => Ψ a b k) = Ψ a b from funext fun k => h _]; exact hf a b
  · exact .inr ⟨n, fun k => h _⟩
theorem tot_x (x : X) (tm : T V) : Tot (xK x tm) := by
  cases x
  · exact .inl ⟨_, fun k => gV_eq _ tm k⟩
  · exact .inl ⟨_, fun _ => rfl⟩
  · exact .inr ⟨2, fun _ => rfl⟩
theorem tot_xs (tm : T V) : ∀ xs : List X, Tot (xsK xs tm)
  | [] => .inl ⟨[], fun _ => rfl⟩
  | x :: xs => (tot_x x tm).bind fun v => (tot_xs tm xs).bind fun l => .ret (v :: l)
theorem tot_p (v : V) : Tot2 (asP v) := by cases v <;> first | exact .inl ⟨_, _, fun _ => rfl⟩ | exact .inr ⟨_, fun _ => rfl⟩
theorem tot_s (v : V) : Tot2 (asS v) := by cases v <;> first | exact .inl ⟨_, _, fun _ => rfl⟩ | exact .inr ⟨_, fun _ => rfl⟩
theorem tot_n (v : V) : Tot (asN v) := by
  cases v <;> first | exact .inr ⟨_, fun _ => rfl⟩ | skip
  rename_i kd n
  cases n <;> first | exact .inl ⟨_, fun _ => rfl⟩ | exact .inr ⟨_, fun _ => rfl⟩
theorem tot_cv (v : V) : Tot (cvK v) := by cases v <;> first | exact .inl ⟨_, fun _ => rfl⟩ | exact .inr ⟨_, fun _ => rfl⟩
theorem tot_len {α : Type} (l : List α) : Tot (lenK l) := .inl ⟨_, fun k => lenK_eq l k⟩
theorem tot_row (o : O) : Tot2 (rowO o) := by cases o <;> first | exact .inl ⟨_, _, fun _ => rfl⟩ | exact .inr ⟨_, fun _ => rfl⟩
theorem tot_map (o : O) : Tot (mapO o) := by cases o <;> first | exact .inl ⟨_, fun _ => rfl⟩ | exact .inr ⟨_, fun _ => rfl⟩
theorem tot_mapE (o : O) : Tot (mapE o) := by cases o <;> first | exact .inl ⟨_, fun _ => rfl⟩ | exact .inr ⟨_, fun _ => rfl⟩
theorem tot_gO (q : Q) (h : T O) : Tot (gO q h) := .inl ⟨_, fun k => gO_eq q h k⟩
theorem tot_pO (v : O) (q : Q) (h : T O) : Tot (pO v q h) := .inl ⟨_, fun k => pO_eq v q h k⟩
theorem tot_puts (vs : List V) (i : Nat) (t : T V) : Tot (putsK vs i t) := .inl ⟨_, fun k => putsK_eq vs i t k⟩
theorem tot_forceN (n : Nat) : Tot (forceN n) := .inl ⟨n, fun k => forceN_eq n k⟩
theorem tot_succ (q : Q) : Tot (succK q) := .inl ⟨_, fun _ => rfl⟩
theorem tot_gets (n : Nat) : ∀ (i : Nat) (t : T V), Tot (getsK n i t) := by
  induction n with
  | zero => intro i t; exact .inl ⟨[], fun _ => rfl⟩
  | succ n ih =>
    intro i t
    show Tot (fun k => qnK i fun q => gV q t fun v => forceN (i + 1) fun i' => getsK n i' t fun l => k (v :: l))
    simp only [qnK_eq, gV_eq, forceN_eq]
    exact (ih (i + 1) t).bind fun l => .ret _
theorem tot_lds (h : T O) (o : Q) (off n : Nat) : Tot (ldsK h o off n) :=
  (tot_gO o h).bind fun ob => (tot_row ob).bind fun m t => (tot_gd (Nat.ble (off + n) m) 47).bind (tot_gets n off t)
theorem tot_kill : ∀ (l : List Q) (h : T O), Tot (killK l h)
  | [], h => .ret h
  | q :: l, h => (tot_pO _ q h).bind fun h' => tot_kill l h'
theorem tot_wr (o : Q) (off : Nat) (vs : List V) (h : T O) : Tot (wrK o off vs h) := by
  unfold wrK
  refine (tot_gO o h).bind fun ob => ?_
  cases ob <;> first | exact .bad _ | skip
  rename_i n t anc flo ty ex
  refine (tot_len vs).bind fun m => (tot_gd _ _).bind ((tot_puts vs off t).bind fun t' => ?_)
  cases Nat.ble flo off
  · exact (tot_kill anc h).bind fun h' => tot_pO _ o h'
  · exact tot_pO _ o h
theorem tot_keyEq (s : KK) (h : T O) (x y : V) : Tot (keyEq s h x y) := by
  have hp : ∀ o a o' b, Tot (eqP h o a o' b) := fun o a o' b => by
    unfold eqP
    cases o.beq o'
    · exact (tot_gO _ h).bind fun _ => (tot_gO _ h).bind fun _ => (tot_gd _ _).bind (.ret _)
    · cases Nat.beq a b
      · exact (tot_gO _ h).bind fun _ => (tot_gd _ _).bind (.ret _)
      · exact .ret _
  have hc : ∀ f u w, Tot (eqCell f u w) := fun f u w => by
    cases f <;> cases u <;> first | exact .bad _ | skip
    all_goals (cases w <;> first | exact .bad _ | exact .ret _ | exact (tot_gd _ _).bind (.ret _))
  have hcs : ∀ fs us ws, Tot (eqCells fs us ws) := fun fs => by
    induction fs with
    | nil => intro us ws; cases us <;> cases ws <;> first | exact .ret _ | exact .bad _
    | cons f fs ih =>
      intro us ws
      cases us <;> cases ws <;> first | exact .bad _ | skip
      rename_i u us w ws
      refine (hc f u w).bind fun b => ?_
      cases b
      · exact .ret _
      · exact ih us ws
  cases s <;> cases x <;> first | exact .bad _ | skip
  all_goals (cases y <;> first | exact .bad _ | exact .ret _ | exact (tot_gd _ _).bind (.ret _) | exact hp _ _ _ _ | exact hcs _ _ _)
theorem tot_keyCk (s : KK) (x : V) : Tot0 (keyCk s x) := by
  cases s <;> first | exact .inl fun _ => rfl | skip
  rename_i fs
  cases x <;> first | exact .inr ⟨_, fun _ => rfl⟩ | skip
  rename_i cs
  rcases tot_gd (Nat.beq cs.length fs.length) 38 with h1 | ⟨n, h1⟩
  · exact .inl fun k => by simp only [keyCk, lenK_eq]; exact h1 k
  · exact .inr ⟨n, fun k => by simp only [keyCk, lenK_eq]; exact h1 k⟩
def TotU (Φ : Ku → Res) : Prop := (∃ es i v, ∀ k, Φ k = k es i v) ∨ ∃ n, ∀ k, Φ k = .bad n
theorem TotU.bindW {Φ : Ku → Res} {Ψ : List (V × V) → Nat → V → Kw → Res} (h : TotU Φ) (hf : ∀ a b c, TotW (Ψ a b c)) : TotW (fun k => Φ fun a b c => Ψ a b c k) := by
  rcases h with ⟨a, b, c, h⟩ | ⟨n, h⟩
  · rw [show (fun k => Φ fun a b c => Ψ a b c k) = Ψ a b c from funext fun k => h _]; exact hf a b c
  · exact .inr ⟨n, fun k => h _⟩
theorem tot_upd (s : KK) (h : T O) (x : V) (f : V → V) (z : V) : ∀ (es : List (V × V)) (i : Nat), TotU (updK s h x f z es i)
  | [], i => .inl ⟨_, _, _, fun _ => rfl⟩
  | (y, u) :: es, i => by
    rcases tot_keyEq s h x y with ⟨b, hb⟩ | ⟨n, hn⟩
    · cases b
      · rcases tot_upd s h x f z es (i + 1) with ⟨a, b, c, h1⟩ | ⟨n, h1⟩
        · exact .inl ⟨(y, u) :: a, b, c, fun k => by simp only [updK, hb, forceN_eq, h1]⟩
        · exact .inr ⟨n, fun k => by simp only [updK, hb, forceN_eq, h1]⟩
      · exact .inl ⟨(x, f u) :: es, i, u, fun k => by simp only [updK, hb]⟩
    · exact .inr ⟨n, fun k => by simp only [updK, hn]⟩
theorem tot_setK (v : V) : ∀ (i : Nat) (es : List (V × V)), Tot (setK v i es)
  | i, [] => by cases i <;> exact .bad _
  | 0, (y, _) :: es => .ret _
  | i + 1, e :: es => (tot_setK v i es).bind fun _ => .ret _
theorem tot_byL : ∀ (l n : Nat), Tot (byL l n)
  | 0, n => .ret _
  | l + 1, n => (tot_forceN _).bind fun _ => (tot_forceN _).bind fun n' => (tot_byL l n').bind fun _ => .ret _
theorem tot_cells (sz : Nat) (v : V) (h : T O) : Tot2 (cellsK sz v h) := by
  have hl : ∀ o off len, Tot2 (fun k : Nat → List V → Res => match len with | 0 => k 0 [] | len => ldsK h o off (len * sz) fun l => k len l) := fun o off len => by
    cases len with
    | zero => exact .inl ⟨_, _, fun _ => rfl⟩
    | succ m =>
      rcases tot_lds h o off ((m + 1) * sz) with ⟨a, ha⟩ | ⟨n, hn⟩
      · exact .inl ⟨m + 1, a, fun k => ha _⟩
      · exact .inr ⟨n, fun k => hn _⟩
  cases v <;> first | exact .inr ⟨_, fun _ => rfl⟩ | exact .inl ⟨_, _, fun _ => rfl⟩ | exact hl _ _ _ | skip
  rename_i l n
  rcases tot_gd (Nat.beq sz 1) 62 with h1 | ⟨n', h1⟩
  · rcases tot_byL l n with ⟨a, ha⟩ | ⟨n', hn⟩
    · exact .inl ⟨l, a, fun k => by simp only [cellsK, h1, ha]⟩
    · exact .inr ⟨n', fun k => by simp only [cellsK, h1, hn]⟩
  · exact .inr ⟨n', fun k => h1 _⟩
theorem tot_grow (ty sz len m : Nat) (old new : List V) (h : T O) (nx : Q) : TotW (growK ty sz len m old new h nx) :=
  (tot_gd _ _).bindW ((tot_puts _ _ _).bindW fun t => (tot_puts _ _ _).bindW fun t' => (tot_forceN _).bindW fun n => (tot_forceN _).bindW fun l => (tot_pO _ _ _).bindW fun h' => (tot_succ _).bindW fun nx' => .ret _ _ _)
theorem tot_ap (ty sz : Nat) (a : V) (m : Nat) (new : List V) (h : T O) (nx : Q) : TotW (apK ty sz a m new h nx) := by
  cases a <;> first | exact .bad _ | skip
  · cases m
    · exact .ret _ _ _
    · exact tot_grow _ _ _ _ _ _ _ _
  · rename_i o off len cap
    simp only [show apK ty sz (.sl o off len cap) m new h nx = fun k => (match Nat.ble (len + m) cap with
      | true => (match m with
        | 0 => k (.sl o off len cap) h nx
        | m => wrK o (off + len * sz) new h fun h' => forceN (len + m) fun l => k (.sl o off l cap) h' nx)
      | false => cellsK sz (.sl o off len cap) h fun _ old => growK ty sz len m old new h nx k) from rfl]
    cases Nat.ble (len + m) cap
    · exact (tot_cells _ _ _).bindW fun _ old => tot_grow _ _ _ _ _ _ _ _
    · cases m
      · exact .ret _ _ _
      · exact (tot_wr _ _ _ _).bindW fun h' => (tot_forceN _).bindW fun l => .ret _ _ _
  · rename_i o off len z
    show TotW (fun k => gd (Nat.beq sz z) 63 _)
    refine (tot_gd _ _).bindW (Ψ := fun k => _) ?_
    cases m
    · exact .ret _ _ _
    · refine (tot_gO _ _).bindW fun ob => ?_
      cases ob <;> first | exact .bad _ | skip
      rename_i m n t anc flo ty' ex
      simp only
      cases Nat.ble (off + (len + (m + 1)) * sz) n
      · exact (tot_gd _ _).bindW ((tot_puts _ _ _).bindW fun t' => (tot_forceN _).bindW fun n' => (tot_forceN _).bindW fun l => (tot_pO _ _ _).bindW fun h' => (tot_pO _ _ _).bindW fun h'' => (tot_succ _).bindW fun nx' => .ret _ _ _)
      · exact (tot_wr _ _ _ _).bindW fun h' => (tot_forceN _).bindW fun l => .ret _ _ _
theorem tot_pk : ∀ l : List V, Tot (pkK l)
  | [] => .ret _
  | v :: l => by
    cases v <;> first | exact .bad _ | skip
    rename_i kd n
    cases kd <;> first | exact .bad _ | skip
    cases n <;> first | exact .bad _ | skip
    exact (tot_gd _ _).bind ((tot_pk l).bind fun n => tot_forceN _)
theorem tot_lenV (v : V) : Tot (lenV v) := by cases v <;> first | exact .inl ⟨_, fun _ => rfl⟩ | exact .inr ⟨_, fun _ => rfl⟩
theorem wK_tot (b : WB) (tm : T V) (h : T O) (nx : Q) : TotW (wK b tm h nx) := by
  cases b
  · exact (tot_x _ _).bindW fun p => (tot_p p).bindW fun o off => (tot_x _ _).bindW fun v => (tot_cv v).bindW fun c => (tot_len c).bindW fun m => (tot_gd _ _).bindW ((tot_wr _ _ _ _).bindW fun h' => .ret _ _ _)
  · refine (tot_x _ _).bindW fun m => (tot_x _ _).bindW fun kv => (tot_x _ _).bindW fun v => (tot_keyCk _ kv).bindW ?_
    cases m <;> first | exact .bad _ | skip
    exact (tot_gO _ _).bindW fun ob => (tot_map ob).bindW fun es => (tot_upd _ _ _ _ _ _ _).bindW fun es' _ _ => (tot_pO _ _ _).bindW fun h' => .ret _ _ _
  · refine (tot_x _ _).bindW fun m => (tot_x _ _).bindW fun kv => (tot_keyCk _ kv).bindW ?_
    cases m <;> first | exact .bad _ | skip
    exact (tot_gO _ _).bindW fun ob => (tot_mapE ob).bindW fun es => (tot_upd _ _ _ _ _ _ _).bindW fun es' i u => (tot_pO _ _ _).bindW fun h' => .ret _ _ _
  · refine (tot_x _ _).bindW fun m => (tot_x _ _).bindW fun s => (tot_n s).bindW fun i => (tot_x _ _).bindW fun v => ?_
    cases m <;> first | exact .bad _ | skip
    exact (tot_gO _ _).bindW fun ob => (tot_mapE ob).bindW fun es => (tot_setK _ _ _).bindW fun es' => (tot_pO _ _ _).bindW fun h' => .ret _ _ _
  · exact (tot_x _ _).bindW fun a => (tot_x _ _).bindW fun b => (tot_cells _ _ _).bindW fun m new => (tot_gd _ _).bindW (tot_ap _ _ _ _ _ _ _)
  · refine (tot_x _ _).bindW fun a => (tot_x _ _).bindW fun b => (tot_lenV a).bindW fun n => (tot_cells _ _ _).bindW fun m new => (tot_gd _ _).bindW ?_
    cases a <;> first | exact .bad _ | skip
    · exact (tot_wr _ _ _ _).bindW fun h' => .ret _ _ _
    · exact (tot_wr _ _ _ _).bindW fun h' => .ret _ _ _
  · exact (tot_x _ _).bindW fun v => (tot_s v).bindW fun l n => (tot_byL l n).bindW fun cs => (tot_puts _ _ _).bindW fun t => (tot_pO _ _ _).bindW fun h' => (tot_succ _).bindW fun nx' => .ret _ _ _
  · refine (tot_x _ _).bindW fun v => (tot_x _ _).bindW fun w => ?_
    cases w <;> first | exact .bad _ | skip
    rename_i kd n
    cases kd <;> first | exact .bad _ | skip
    cases n <;> first | exact .bad _ | skip
    cases v <;> first | exact .bad _ | skip
    · exact (tot_gd _ _).bindW (.ret _ _ _)
    · refine (tot_gd _ _).bindW ((tot_gO _ _).bindW fun ob => ?_)
      cases ob <;> first | exact .bad _ | skip
      exact (tot_gd _ _).bindW ((tot_gets _ _ _).bindW fun cs => (tot_pk cs).bindW fun n => (tot_pO _ _ _).bindW fun h' => .ret _ _ _)
theorem wK_split {b : WB} {tm : T V} {h : T O} {nx : Q} {k : Kw} {r : V} (e : wK b tm h nx k = .ok r) : ∃ v h' nx', k v h' nx' = .ok r ∧ ∀ k', wK b tm h nx k' = k' v h' nx' := by
  rcases wK_tot b tm h nx with ⟨v, h', nx', h1⟩ | ⟨n, h1⟩
  · exact ⟨v, h', nx', (h1 k).symm.trans e, h1⟩
  · rw [h1] at e; cases e
theorem xK_split {x : X} {tm : T V} {k : V → Res} {r : V} (e : xK x tm k = .ok r) : ∃ v, k v = .ok r ∧ ∀ k', xK x tm k' = k' v := by
  rcases tot_x x tm with ⟨v, h1⟩ | ⟨n, h1⟩
  · exact ⟨v, (h1 k).symm.trans e, h1⟩
  · rw [h1] at e; cases e
theorem xsK_split {xs : List X} {tm : T V} {k : List V → Res} {r : V} (e : xsK xs tm k = .ok r) : ∃ v, k v = .ok r ∧ ∀ k', xsK xs tm k' = k' v := by
  rcases tot_xs tm xs with ⟨v, h1⟩ | ⟨n, h1⟩
  · exact ⟨v, (h1 k).symm.trans e, h1⟩
  · rw [h1] at e; cases e
end Go.CM
end
noncomputable section
namespace Go.CM
def Gd {β : Type} (Φ : β → Prop) (c : (β → D) → D) : Prop := (∃ g, Φ g ∧ ∀ k, c k = k g) ∨ ∀ k, c k = ⟨opBad⟩
theorem Gd.ret {β : Type} {Φ : β → Prop} {g : β} (h : Φ g) : Gd Φ (fun k => k g) := .inl ⟨g, h, fun _ => rfl⟩
theorem Gd.bind {β γ : Type} {Φ : β → Prop} {Ψ : γ → Prop} {c : (β → D) → D} {f : β → (γ → D) → D} (h : Gd Φ c) (hf : ∀ g, Φ g → Gd Ψ (f g)) : Gd Ψ (fun k => c fun g => f g k) := by
  rcases h with ⟨g, hg, h⟩ | h
  · rw [show (fun k => c fun g => f g k) = f g from funext fun k => h _]; exact hf g hg
  · exact .inr fun k => h _
theorem ac6_ok (q : QN Q5) : Gd (fun g : N5 V (T5 V) → (V → Res) → Res => ∀ t k, g t k = k (N5.gt g5 t q)) (ac6 q) := by
  cases q with
  | e => exact .inl ⟨ev6, fun t k => by cases t; rfl, fun _ => rfl⟩
  | a q => exact .inr fun _ => rfl
  | b q => exact .inr fun _ => rfl
  | c q => exact .inr fun _ => rfl
  | d q => exact .inr fun _ => rfl
theorem pc6_ok (q : QN Q5) : Gd (fun p : Pv6 => ∀ v t k, p v t k = k (N5.pt (p5 v) v q t)) (pc6 q) := by
  cases q with
  | e => exact .inl ⟨nv6, fun v t k => by cases t; rfl, fun _ => rfl⟩
  | a q => exact .inr fun _ => rfl
  | b q => exact .inr fun _ => rfl
  | c q => exact .inr fun _ => rfl
  | d q => exact .inr fun _ => rfl
theorem ac7_ok (q : QN Q6) : Gd (fun g : N5 V (T6 V) → (V → Res) → Res => ∀ t k, g t k = k (N5.gt g6 t q)) (ac7 q) := by
  cases q with
  | e => exact .inl ⟨ev7, fun t k => by cases t; rfl, fun _ => rfl⟩
  | a q => exact (ac6_ok q).bind (f := fun g k => k (xv7a g)) fun g hg => .inl ⟨xv7a g, fun t k => by cases t; exact hg _ k, fun _ => rfl⟩
  | b q => exact (ac6_ok q).bind (f := fun g k => k (xv7b g)) fun g hg => .inl ⟨xv7b g, fun t k => by cases t; exact hg _ k, fun _ => rfl⟩
  | c q => exact (ac6_ok q).bind (f := fun g k => k (xv7c g)) fun g hg => .inl ⟨xv7c g, fun t k => by cases t; exact hg _ k, fun _ => rfl⟩
  | d q => exact (ac6_ok q).bind (f := fun g k => k (xv7d g)) fun g hg => .inl ⟨xv7d g, fun t k => by cases t; exact hg _ k, fun _ => rfl⟩
theorem pc7_ok (q : QN Q6) : Gd (fun p : Pv7 => ∀ v t k, p v t k = k (N5.pt (p6 v) v q t)) (pc7 q) := by
  cases q with
  | e => exact .inl ⟨nv7, fun v t k => by cases t; rfl, fun _ => rfl⟩
  | a q => exact (pc6_ok q).bind (f := fun g k => k (uv7a g)) fun g hg => .inl ⟨uv7a g, fun v t k => by obtain ⟨u, a, b, c, d⟩ := t; exact hg v a fun x => k ⟨u, x, b, c, d⟩, fun _ => rfl⟩
  | b q => exact (pc6_ok q).bind (f := fun g k => k (uv7b g)) fun g hg => .inl ⟨uv7b g, fun v t k => by obtain ⟨u, a, b, c, d⟩ := t; exact hg v b fun x => k ⟨u, a, x, c, d⟩, fun _ => rfl⟩
  | c q => exact (pc6_ok q).bind (f := fun g k => k (uv7c g)) fun g hg => .inl ⟨uv7c g, fun v t k => by obtain ⟨u, a, b, c, d⟩ := t; exact hg v c fun x => k ⟨u, a, b, x, d⟩, fun _ => rfl⟩
  | d q => exact (pc6_ok q).bind (f := fun g k => k (uv7d g)) fun g hg => .inl ⟨uv7d g, fun v t k => by obtain ⟨u, a, b, c, d⟩ := t; exact hg v d fun x => k ⟨u, a, b, c, x⟩, fun _ => rfl⟩
theorem ac8_ok (q : QN Q7) : Gd (fun g : N5 V (T7 V) → (V → Res) → Res => ∀ t k, g t k = k (N5.gt g7 t q)) (ac8 q) := by
  cases q with
  | e => exact .inl ⟨ev8, fun t k => by cases t; rfl, fun _ => rfl⟩
  | a q => exact (ac7_ok q).bind (f := fun g k => k (xv8a g)) fun g hg => .inl ⟨xv8a g, fun t k => by cases t; exact hg _ k, fun _ => rfl⟩
  | b q => exact (ac7_ok q).bind (f := fun g k => k (xv8b g)) fun g hg => .inl ⟨xv8b g, fun t k => by cases t; exact hg _ k, fun _ => rfl⟩
  | c q => exact (ac7_ok q).bind (f := fun g k => k (xv8c g)) fun g hg => .inl ⟨xv8c g, fun t k => by cases t; exact hg _ k, fun _ => rfl⟩
  | d q => exact (ac7_ok q).bind (f := fun g k => k (xv8d g)) fun g hg => .inl ⟨xv8d g, fun t k => by cases t; exact hg _ k, fun _ => rfl⟩
theorem pc8_ok (q : QN Q7) : Gd (fun p : Pv8 => ∀ v t k, p v t k = k (N5.pt (p7 v) v q t)) (pc8 q) := by
  cases q with
  | e => exact .inl ⟨nv8, fun v t k => by cases t; rfl, fun _ => rfl⟩
  | a q => exact (pc7_ok q).bind (f := fun g k => k (uv8a g)) fun g hg => .inl ⟨uv8a g, fun v t k => by obtain ⟨u, a, b, c, d⟩ := t; exact hg v a fun x => k ⟨u, x, b, c, d⟩, fun _ => rfl⟩
  | b q => exact (pc7_ok q).bind (f := fun g k => k (uv8b g)) fun g hg => .inl ⟨uv8b g, fun v t k => by obtain ⟨u, a, b, c, d⟩ := t; exact hg v b fun x => k ⟨u, a, x, c, d⟩, fun _ => rfl⟩
  | c q => exact (pc7_ok q).bind (f := fun g k => k (uv8c g)) fun g hg => .inl ⟨uv8c g, fun v t k => by obtain ⟨u, a, b, c, d⟩ := t; exact hg v c fun x => k ⟨u, a, b, x, d⟩, fun _ => rfl⟩
  | d q => exact (pc7_ok q).bind (f := fun g k => k (uv8d g)) fun g hg => .inl ⟨uv8d g, fun v t k => by obtain ⟨u, a, b, c, d⟩ := t; exact hg v d fun x => k ⟨u, a, b, c, x⟩, fun _ => rfl⟩
theorem ac9_ok (q : QN Q8) : Gd (fun g : N5 V (T8 V) → (V → Res) → Res => ∀ t k, g t k = k (N5.gt g8 t q)) (ac9 q) := by
  cases q with
  | e => exact .inl ⟨ev9, fun t k => by cases t; rfl, fun _ => rfl⟩
  | a q => exact (ac8_ok q).bind (f := fun g k => k (xv9a g)) fun g hg => .inl ⟨xv9a g, fun t k => by cases t; exact hg _ k, fun _ => rfl⟩
  | b q => exact (ac8_ok q).bind (f := fun g k => k (xv9b g)) fun g hg => .inl ⟨xv9b g, fun t k => by cases t; exact hg _ k, fun _ => rfl⟩
  | c q => exact (ac8_ok q).bind (f := fun g k => k (xv9c g)) fun g hg => .inl ⟨xv9c g, fun t k => by cases t; exact hg _ k, fun _ => rfl⟩
  | d q => exact (ac8_ok q).bind (f := fun g k => k (xv9d g)) fun g hg => .inl ⟨xv9d g, fun t k => by cases t; exact hg _ k, fun _ => rfl⟩
theorem pc9_ok (q : QN Q8) : Gd (fun p : Pv9 => ∀ v t k, p v t k = k (N5.pt (p8 v) v q t)) (pc9 q) := by
  cases q with
  | e => exact .inl ⟨nv9, fun v t k => by cases t; rfl, fun _ => rfl⟩
  | a q => exact (pc8_ok q).bind (f := fun g k => k (uv9a g)) fun g hg => .inl ⟨uv9a g, fun v t k => by obtain ⟨u, a, b, c, d⟩ := t; exact hg v a fun x => k ⟨u, x, b, c, d⟩, fun _ => rfl⟩
  | b q => exact (pc8_ok q).bind (f := fun g k => k (uv9b g)) fun g hg => .inl ⟨uv9b g, fun v t k => by obtain ⟨u, a, b, c, d⟩ := t; exact hg v b fun x => k ⟨u, a, x, c, d⟩, fun _ => rfl⟩
  | c q => exact (pc8_ok q).bind (f := fun g k => k (uv9c g)) fun g hg => .inl ⟨uv9c g, fun v t k => by obtain ⟨u, a, b, c, d⟩ := t; exact hg v c fun x => k ⟨u, a, b, x, d⟩, fun _ => rfl⟩
  | d q => exact (pc8_ok q).bind (f := fun g k => k (uv9d g)) fun g hg => .inl ⟨uv9d g, fun v t k => by obtain ⟨u, a, b, c, d⟩ := t; exact hg v d fun x => k ⟨u, a, b, c, x⟩, fun _ => rfl⟩
theorem ac10_ok (q : QN Q9) : Gd (fun g : N5 V (T9 V) → (V → Res) → Res => ∀ t k, g t k = k (N5.gt g9 t q)) (ac10 q) := by
  cases q with
  | e => exact .inl ⟨ev10, fun t k => by cases t; rfl, fun _ => rfl⟩
  | a q => exact (ac9_ok q).bind (f := fun g k => k (xv10a g)) fun g hg => .inl ⟨xv10a g, fun t k => by cases t; exact hg _ k, fun _ => rfl⟩
  | b q => exact (ac9_ok q).bind (f := fun g k => k (xv10b g)) fun g hg => .inl ⟨xv10b g, fun t k => by cases t; exact hg _ k, fun _ => rfl⟩
  | c q => exact (ac9_ok q).bind (f := fun g k => k (xv10c g)) fun g hg => .inl ⟨xv10c g, fun t k => by cases t; exact hg _ k, fun _ => rfl⟩
  | d q => exact (ac9_ok q).bind (f := fun g k => k (xv10d g)) fun g hg => .inl ⟨xv10d g, fun t k => by cases t; exact hg _ k, fun _ => rfl⟩
theorem pc10_ok (q : QN Q9) : Gd (fun p : Pv10 => ∀ v t k, p v t k = k (N5.pt (p9 v) v q t)) (pc10 q) := by
  cases q with
  | e => exact .inl ⟨nv10, fun v t k => by cases t; rfl, fun _ => rfl⟩
  | a q => exact (pc9_ok q).bind (f := fun g k => k (uv10a g)) fun g hg => .inl ⟨uv10a g, fun v t k => by obtain ⟨u, a, b, c, d⟩ := t; exact hg v a fun x => k ⟨u, x, b, c, d⟩, fun _ => rfl⟩
  | b q => exact (pc9_ok q).bind (f := fun g k => k (uv10b g)) fun g hg => .inl ⟨uv10b g, fun v t k => by obtain ⟨u, a, b, c, d⟩ := t; exact hg v b fun x => k ⟨u, a, x, c, d⟩, fun _ => rfl⟩
  | c q => exact (pc9_ok q).bind (f := fun g k => k (uv10c g)) fun g hg => .inl ⟨uv10c g, fun v t k => by obtain ⟨u, a, b, c, d⟩ := t; exact hg v c fun x => k ⟨u, a, b, x, d⟩, fun _ => rfl⟩
  | d q => exact (pc9_ok q).bind (f := fun g k => k (uv10d g)) fun g hg => .inl ⟨uv10d g, fun v t k => by obtain ⟨u, a, b, c, d⟩ := t; exact hg v d fun x => k ⟨u, a, b, c, x⟩, fun _ => rfl⟩
theorem acT_ok (q : Q) : Gd (fun g : Xg => XOK g (.t q)) (ac10 q) := ac10_ok q
theorem cX_ok (x : X) : Gd (fun g : Xg => XOK g x) (cX x) := by
  cases x with
  | t q => exact (acT_ok q).bind fun g hg => .ret hg
  | c v => exact .ret (xC_ok v)
  | bad => exact .ret xBad_ok
theorem cXs_ok : ∀ xs : List X, Gd (fun g : Xs => XsOK g xs) (cXs xs)
  | [] => .ret xsN_ok
  | x :: xs => (cX_ok x).bind fun _ hg => (cXs_ok xs).bind fun _ hr => .ret (xsA_ok hg hr)
theorem cDst_ok (d : Option Q) : Gd (fun p : Dt => DOK p d) (cDst d) := by
  cases d with
  | none => exact .ret fun _ _ _ => rfl
  | some q => exact (show Gd (fun p : Dt => DOK p (some q)) (pc10 q) from pc10_ok q).bind fun p hp => .ret hp
theorem cOg_ok (x : Option X) : Gd (fun g : Og => OgOK g x) (cOg x) := by
  cases x with
  | none => exact .ret ogN_ok
  | some x => exact (cX_ok x).bind fun g hg => .ret (ogS_ok hg)
theorem cBd_ok : ∀ ps : List (Nat × Nat × X), Gd (fun g : Bd => BdOK g ps) (cBd ps)
  | [] => .ret bdN_ok
  | (off, n, x) :: ps => (cX_ok x).bind fun _ hg => (cBd_ok ps).bind fun _ hr => .ret (bdA_ok hg hr)
theorem cSg_ok (sz : Nat) : ∀ ps : List (Nat × X), Gd (fun g : Sg => SgOK g sz ps) (cSg sz ps)
  | [] => .ret sgN_ok
  | (i, x) :: ps => (cX_ok x).bind fun _ hg => (cSg_ok sz ps).bind fun _ hr => .ret (sgA_ok hg hr)
theorem cP_ok (b : PB) : Gd (fun p : Pg => POK p b) (cP b) := by
  cases b with
  | mv x => exact (cX_ok x).bind fun _ h => .ret (pMv_ok h)
  | pick c x y => exact (cX_ok c).bind fun _ h => (cX_ok x).bind fun _ h1 => (cX_ok y).bind fun _ h2 => .ret (pPick_ok h h1 h2)
  | bin op x y => exact (cX_ok x).bind fun _ h => (cX_ok y).bind fun _ h1 => .ret (pBin_ok h h1)
  | eq neg m x y => exact (cX_ok x).bind fun _ h => (cX_ok y).bind fun _ h1 => .ret (pEq_ok h h1)
  | not x => exact (cX_ok x).bind fun _ h => .ret (pNot_ok h)
  | neg x => exact (cX_ok x).bind fun _ h => .ret (pNeg_ok h)
  | cvi kd x => exact (cX_ok x).bind fun _ h => .ret (pCvi_ok h)
  | cvs x => exact (cX_ok x).bind fun _ h => .ret (pCvs_ok h)
  | cis x => exact (cX_ok x).bind fun _ h => .ret (pCis_ok h)
  | ctu x => exact .ret (pRare_ok _)
  | cfu ty n x => exact .ret (pRare_ok _)
  | bld z ps => exact (cBd_ok ps).bind fun _ h => .ret (pBld_ok h)
  | ld1 x => exact (cX_ok x).bind fun _ h => .ret (pLd1_ok h)
  | ldn n x => exact (cX_ok x).bind fun _ h => .ret (pLdn_ok h)
  | nck x => exact (cX_ok x).bind fun _ h => .ret (pNck_ok h)
  | fa off x => exact (cX_ok x).bind fun _ h => .ret (pFa_ok h)
  | fd agg off n x => exact (cX_ok x).bind fun _ h => .ret (pFd_ok h)
  | ia sz x i => exact (cX_ok x).bind fun _ h => (cX_ok i).bind fun _ h1 => .ret (pIa_ok h h1)
  | iaa len sz x i => exact (cX_ok x).bind fun _ h => (cX_ok i).bind fun _ h1 => .ret (pIaa_ok h h1)
  | ixs x i => exact (cX_ok x).bind fun _ h => (cX_ok i).bind fun _ h1 => .ret (pIxs_ok h h1)
  | ixa agg len sz x i => exact (cX_ok x).bind fun _ h => (cX_ok i).bind fun _ h1 => .ret (pIxa_ok h h1)
  | slS x lo hi => exact (cX_ok x).bind fun _ h => (cOg_ok lo).bind fun _ h1 => (cOg_ok hi).bind fun _ h2 => .ret (pSlS_ok h h1 h2)
  | slL sz x lo hi mx =>
    cases mx with
    | none => exact (cX_ok x).bind fun _ h => (cOg_ok lo).bind fun _ h1 => (cOg_ok hi).bind fun _ h2 => .ret (pSlL_ok h h1 h2)
    | some m => exact .ret (pRare_ok _)
  | mki t x => exact (cX_ok x).bind fun _ h => .ret (pMki_ok h)
  | mkf f fs caps => exact (cXs_ok fs).bind fun _ h => (cXs_ok caps).bind fun _ h1 => .ret (pMkf_ok h h1)
  | lk s ok z m key => exact (cX_ok m).bind fun _ h => (cX_ok key).bind fun _ h1 => .ret (pLk_ok h h1)
  | lenS x => exact (cX_ok x).bind fun _ h => .ret (pLenS_ok h)
  | lenL x => exact (cX_ok x).bind fun _ h => .ret (pLenL_ok h)
  | lenM x => exact (cX_ok x).bind fun _ h => .ret (pLenM_ok h)
  | sd x => exact (cX_ok x).bind fun _ h => .ret (pSd_ok h)
  | max x y => exact (cX_ok x).bind fun _ h => (cX_ok y).bind fun _ h1 => .ret (pMax_ok h h1)
  | ex i x => exact (cX_ok x).bind fun _ h => .ret (pEx_ok h)
  | ta ok t z x => exact (cX_ok x).bind fun _ h => .ret (pTa_ok h)
  | bad => exact .ret (pRare_ok _)
theorem cA_ok (b : AB) : Gd (fun a : Ag => AOK a b) (cA b) := by
  cases b with
  | al ty n t => exact .ret aAl_ok
  | bx ty n x => exact (cX_ok x).bind fun _ h => .ret (aBx_ok h)
  | bsl ty sz len t ps => exact (cSg_ok sz ps).bind fun _ h => .ret (aBsl_ok h)
  | mkm => exact .ret aMkm_ok
  | mks ty sz z len cap => exact .ret (aRare_ok _)
theorem cW_ok (b : WB) : Gd (fun w : Wg => WOK w b) (cW b) := by
  cases b with
  | st n x y => exact (cX_ok x).bind fun _ h => (cX_ok y).bind fun _ h1 => .ret (wSt_ok h h1)
  | mu s m x v => exact (cX_ok m).bind fun _ h => (cX_ok x).bind fun _ h1 => (cX_ok v).bind fun _ h2 => .ret (wMu_ok h h1 h2)
  | me s z m x => exact (cX_ok m).bind fun _ h => (cX_ok x).bind fun _ h1 => .ret (wMe_ok h h1)
  | es m s v => exact .ret (wRare_ok _)
  | ap ty sz x y => exact (cX_ok x).bind fun _ h => (cX_ok y).bind fun _ h1 => .ret (wAp_ok h h1)
  | cp sz x y => exact (cX_ok x).bind fun _ h => (cX_ok y).bind fun _ h1 => .ret (wCp_ok h h1)
  | sb x => exact (cX_ok x).bind fun _ h => .ret (wSb_ok h)
  | us ty x n => exact .ret (wRare_ok _)
end Go.CM
end
