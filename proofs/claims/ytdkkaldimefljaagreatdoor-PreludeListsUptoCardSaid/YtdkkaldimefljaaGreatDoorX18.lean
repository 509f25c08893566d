import Derived.Test.YtdkkaldimefljaaGreatDoorX17
import Derived.Lib.Builder
import Derived.Lib.UnsafeStr
set_option linter.all false
noncomputable section
namespace Go.CM
open Go.AM (oneC overwrite run_underlying run_sizeOf run_isAgg run_zeroValue szOf aggOf bytesAt sliceElem fieldAt? run_equal add_mk bytes_beq run_getObj run_setObj)
variable {P : Program} {w0 w : World} {ρ : Rho} {h : T O} {nx : Q} {tm : T V} {tmps : Array Value} {ds : List Deferred} {k : V → Res} {r v : V}
section more
variable {dst : Option Nat} {ty : TypeId} {pos : String} {aft : Array Edge} {gd' : Option (Nat × Bool)}
theorem p_neg (H : HR P w0 ρ h nx w) {t : TypeId} {x : Operand} (hT : XR ρ tm tmps (Op.operands (.unOp .neg t x)).toList) (e : pK (.neg (compX P x)) tm h k = .ok r) :
    ∃ v, k v = .ok r ∧ PG P w ρ tmps ds ⟨dst, .unOp .neg t x, ty, pos, aft, gd'⟩ v := by
  simp only [pK] at e
  obtain ⟨c, e1, hc⟩ := opd (ds := ds) (o := ⟨dst, .unOp .neg t x, ty, pos, aft, gd'⟩) H hT (by simp [Op.operands]) e
  obtain ⟨kd, n, hn, e2⟩ := asI_ok e1
  subst hn
  have e3 := wrapK_ok e2
  rw [subI_eq] at e3
  exact ⟨_, e3, .int kd (kd.wrap (0 - n)), by simp [execOp, hc.inv_int, Op.unary, Op.intArith], .int _ _⟩
theorem encode_small (n : Nat) (h : n < 128) : Utf8.encode (n : Int) = ⟨⟨[UInt8.ofNat n]⟩⟩ := by
  have h1 : Utf8.valid (n : Int) = true := by simp [Utf8.valid]; omega
  unfold Utf8.encode
  simp only [h1, if_true, Int.toNat_natCast]
  rw [if_pos h]
theorem p_cis (H : HR P w0 ρ h nx w) {s d : TypeId} {x : Operand} {ks : IntKind} (hs : P.underlying s = some (.int ks)) (hd : P.underlying d = some .string) (hT : XR ρ tm tmps (Op.operands (.convert s d x)).toList) (e : pK (.cis (compX P x)) tm h k = .ok r) :
    ∃ v, k v = .ok r ∧ PG P w ρ tmps ds ⟨dst, .convert s d x, ty, pos, aft, gd'⟩ v := by
  simp only [pK] at e
  obtain ⟨c, e1, hc⟩ := opd (ds := ds) (o := ⟨dst, .convert s d x, ty, pos, aft, gd'⟩) H hT (by simp [Op.operands]) e
  obtain ⟨k1, n, hn, e2⟩ := asN_ok e1
  subst hn
  obtain ⟨hg, e3⟩ := gd_ok e2
  have hlt := blt_ok hg
  have hv : ev tmps ds x = .int k1 (n : Int) := hc.inv_int
  refine ⟨_, e3, .string ⟨⟨[UInt8.ofNat n]⟩⟩, by simp [execOp, hv, convert, run_underlying hs, run_underlying hd, Conv.intToString, encode_small n hlt], .str _ _ _ rfl ?_⟩
  simp [packL]; omega
theorem HR.shape (H : HR P w0 ρ h nx w) {o : Q} {b N n : Nat} {t : T V} (ho : ρ o = some (b, N)) (hr : (∃ anc flo ty ex, h.ob o = .row n t anc flo ty ex) ∨ h.ob o = .ro n t) : ∃ T m, w.shape? b = some (T, m) ∧ n ≤ m := by
  have := H.obj o b N ho
  rcases hr with ⟨anc, flo, ty, ex, hr⟩ | hr
  · rw [hr] at this
    cases this with | row _ _ _ _ _ _ _ _ vs hb hw hN hn => exact ⟨ty, vs.length, by simp [World.shape?, hw], by omega⟩
  · rw [hr] at this
    cases this with | ro _ _ _ _ vs T fz hw hn => exact ⟨T, vs.length, by simp [World.shape?, hw], hn⟩
theorem p_ctu (H : HR P w0 ρ h nx w) {s d t : TypeId} {n : Nat} {x : Operand} (hs : P.underlying s = some (.pointer t)) (hd : P.underlying d = some .unsafePointer) (hz : szOf P t = some (n + 1)) (hT : XR ρ tm tmps (Op.operands (.convert s d x)).toList)
    (e : pK (.ctu (compX P x)) tm h k = .ok r) : ∃ v, k v = .ok r ∧ PG P w ρ tmps ds ⟨dst, .convert s d x, ty, pos, aft, gd'⟩ v := by
  simp only [pK] at e
  obtain ⟨c, e1, hc⟩ := opd (ds := ds) (o := ⟨dst, .convert s d x, ty, pos, aft, gd'⟩) H hT (by simp [Op.operands]) e
  obtain ⟨j, hj, hjs⟩ := mapo hz
  cases c <;> simp only at e1 <;> first | cases e1 | skip
  · have hv : ev tmps ds x = .pointer none := by generalize ev tmps ds x = u at hc; cases hc; rfl
    exact ⟨_, e1, .pointer none, by simp [execOp, hv, convert, run_underlying hs, run_underlying hd, Conv.unsafePointer], .nilp⟩
  · obtain ⟨b, N, hv, hb⟩ := hc.inv_ptr
    rw [gO_eq] at e1
    obtain ⟨m, tt, hr, e2⟩ := rowO_ok e1
    obtain ⟨hg, e3⟩ := gd_ok e2
    obtain ⟨T, M, h1, h2⟩ := H.shape hb hr
    have h3 := Lib.run_to_unsafe (P := P) w ⟨b, _, none⟩ hs hd hj (by omega) h1 (Nat.lt_of_lt_of_le (blt_ok hg) h2)
    exact ⟨_, e3, _, by simp [execOp, hv, h3], .ptr _ _ _ _ hb⟩
theorem p_cfu (H : HR P w0 ρ h nx w) {s d t : TypeId} {n : Nat} {x : Operand} (hs : P.underlying s = some .unsafePointer) (hd : P.underlying d = some (.pointer t)) (hz : szOf P t = some (n + 1)) (hl : liesAt P P.depth t ((n + 1) / P.cellsOf t) 0 t 1 = true)
    (hT : XR ρ tm tmps (Op.operands (.convert s d x)).toList) (e : pK (.cfu t (n + 1) (compX P x)) tm h k = .ok r) : ∃ v, k v = .ok r ∧ PG P w ρ tmps ds ⟨dst, .convert s d x, ty, pos, aft, gd'⟩ v := by
  simp only [pK] at e
  obtain ⟨c, e1, hc⟩ := opd (ds := ds) (o := ⟨dst, .convert s d x, ty, pos, aft, gd'⟩) H hT (by simp [Op.operands]) e
  obtain ⟨j, hj, hjs⟩ := mapo hz
  cases c <;> simp only at e1 <;> first | cases e1 | skip
  · have hv : ev tmps ds x = .pointer none := by generalize ev tmps ds x = u at hc; cases hc; rfl
    exact ⟨_, e1, .pointer none, by simp [execOp, hv, convert, run_underlying hs, run_underlying hd, Conv.unsafePointer], .nilp⟩
  · obtain ⟨b, N, hv, hb⟩ := hc.inv_ptr
    rw [gO_eq] at e1
    split at e1
    · rename_i m tt anc flo ty' ex hob
      obtain ⟨hg, e3⟩ := gd_ok e1
      simp only [Bool.and_eq_true] at hg
      obtain ⟨⟨⟨g1, g2⟩, g3⟩, g4⟩ := hg
      have h1 := Nat.eq_of_beq_eq_true g1
      have h2 := Nat.eq_of_beq_eq_true g2
      have h3 := Nat.eq_of_beq_eq_true g3
      have := H.obj _ b N hb
      rw [hob] at this
      cases this with
      | row _ _ _ _ _ _ _ _ vs hB hw hN hn hf he =>
      have hM := he g4
      have hsh : w.shape? b = some (t, n + 1) := by simp [World.shape?, hw, ← h3, hN]; omega
      have h4 := Lib.run_from_unsafe (P := P) w ⟨b, 0, none⟩ hs hd hj hsh hl
      rw [h1] at hv hc
      refine ⟨_, e3, .pointer (some ⟨b, 0, none⟩), by simp [execOp, hv, h4], ?_⟩
      rw [h1]; exact .ptr _ _ _ _ hb
    · cases e1
theorem p_sd (H : HR P w0 ρ h nx w) {x : Operand} {a : Array Operand} {ts : Array TypeId} (ha : a.toList = [x]) (hT : XR ρ tm tmps (Op.operands (.call ⟨.builtin .unsafeSliceData, a, ts⟩)).toList) (e : pK (.sd (compX P x)) tm h k = .ok r) :
    ∃ v, k v = .ok r ∧ PG P w ρ tmps ds ⟨dst, .call ⟨.builtin .unsafeSliceData, a, ts⟩, ty, pos, aft, gd'⟩ v := by
  obtain ⟨a⟩ := a
  simp only at ha
  subst ha
  simp only [pK] at e
  obtain ⟨c, e1, hc⟩ := opd (ds := ds) (o := ⟨dst, .call ⟨.builtin .unsafeSliceData, #[x], ts⟩, ty, pos, aft, gd'⟩) H hT (by simp [Op.operands, Call.operands]) e
  have hex : ∀ u, (Builtin.unsafeSliceData_ ts ty #[ev tmps ds x]).run P w = .ok u w → (execOp (ev tmps ds) ⟨dst, .call ⟨.builtin .unsafeSliceData, #[x], ts⟩, ty, pos, aft, gd'⟩).run P w = .ok (.value u) w := fun u hu => by
    simp [execOp, resolve, invoke, builtin]
    simp [ev] at hu; simp [hu]
  generalize hg : ev tmps ds x = u at hc hex
  cases hc <;> (try simp only at e1) <;> first | cases e1 | skip
  · exact ⟨_, e1, .pointer none, hex _ (by rw [show Builtin.unsafeSliceData_ ts ty #[.slice none 0 0] = pure (.pointer none) from rfl]; rfl), .nilp⟩
  · rename_i o off len cap b N hb hlc
    cases len with
    | zero => cases e1
    | succ len => exact ⟨_, e1, .pointer (some ⟨b, off, none⟩), hex _ (by
        have hd : Builtin.unsafeSliceData_ ts ty #[.slice (some ⟨b, off, none⟩) (len + 1) cap] = (if cap ≠ 0 then pure (.pointer (some ⟨b, off, none⟩)) else do if (← viewAt b).isSome then pure (.pointer (some ⟨b, off, none⟩)) else pure (.pointer (some ⟨← newObj (.view ⟨b, off, none⟩ (← elemOf ty)), 0, none⟩))) := rfl
        rw [hd, if_pos (show cap ≠ 0 by omega)]; rfl), .ptr _ _ _ _ hb⟩
  · rename_i o off len sz b N cap hb hlc hr
    cases len with
    | zero => cases e1
    | succ len => exact ⟨_, e1, .pointer (some ⟨b, off, none⟩), hex _ (by
        have hd : Builtin.unsafeSliceData_ ts ty #[.slice (some ⟨b, off, none⟩) (len + 1) cap] = (if cap ≠ 0 then pure (.pointer (some ⟨b, off, none⟩)) else do if (← viewAt b).isSome then pure (.pointer (some ⟨b, off, none⟩)) else pure (.pointer (some ⟨← newObj (.view ⟨b, off, none⟩ (← elemOf ty)), 0, none⟩))) := rfl
        rw [hd, if_pos (show cap ≠ 0 by omega)]; rfl), .ptr _ _ _ _ hb⟩
theorem p_ta (H : HR P w0 ρ h nx w) {t xt : TypeId} {okb : Bool} {z : V} {x : Operand} {d : TypeDesc} (hu : P.underlying t = some d) (hni : ∀ ms, d ≠ .interface ms) (hz : zeroV P t = some z) (hT : XR ρ tm tmps (Op.operands (.typeAssert x xt t okb)).toList)
    (e : pK (.ta okb t z (compX P x)) tm h k = .ok r) : ∃ v, k v = .ok r ∧ PG P w ρ tmps ds ⟨dst, .typeAssert x xt t okb, ty, pos, aft, gd'⟩ v := by
  simp only [pK] at e
  obtain ⟨c, e1, hc⟩ := opd (ds := ds) (o := ⟨dst, .typeAssert x xt t okb, ty, pos, aft, gd'⟩) H hT (by simp [Op.operands]) e
  obtain ⟨zv, hz1, hz2, _⟩ := zeroV_ok (ρ := ρ) hz
  have hzr := run_zeroValue (P := P) (w := w) hz1
  generalize hg : ev tmps ds x = u at hc
  have hrun : ∀ u', (Instr.typeAssert u xt t okb).run P w = .ok u' w → (execOp (ev tmps ds) ⟨dst, .typeAssert x xt t okb, ty, pos, aft, gd'⟩).run P w = .ok (.value u') w := fun u' h' => by
    simp [execOp, hg, h']
  have hmiss : ∀ {y : V}, taMiss okb z k = .ok r → VR ρ y u → (u = .nilIface ∨ ∃ t' v', u = .iface t' v' ∧ t' ≠ t) → ∃ v, k v = .ok r ∧ PG P w ρ tmps ds ⟨dst, .typeAssert x xt t okb, ty, pos, aft, gd'⟩ v := fun em _ hcase => by
    cases okb with
    | false => cases em
    | true =>
      refine ⟨_, em, .tuple #[zv, .bool false], hrun _ ?_, hz2.tup2 (.bool _)⟩
      rcases hcase with rfl | ⟨t', v', rfl, hne⟩
      · cases d <;> first | exact absurd rfl (hni _) | simp [Instr.typeAssert, run_underlying hu, hzr]
      · cases d <;> first | exact absurd rfl (hni _) | simp [Instr.typeAssert, run_underlying hu, hzr, hne]
  cases c <;> simp only [taK] at e1 <;> first | cases e1 | skip
  · have hun : u = .nilIface := by cases hc; rfl
    exact hmiss (y := .nili) e1 hc (.inl hun)
  · rename_i t' u'
    obtain ⟨v', hv, hv'⟩ : ∃ v', u = .iface t' v' ∧ VR ρ u' v' := by cases hc with | ifc _ _ v' hv' => exact ⟨v', rfl, hv'⟩
    split at e1
    · rename_i hb
      have ht := Nat.eq_of_beq_eq_true hb
      subst ht
      subst hv
      cases okb with
      | true => exact ⟨_, e1, .tuple #[v', .bool true], hrun _ (by cases d <;> first | exact absurd rfl (hni _) | simp [Instr.typeAssert, run_underlying hu]), hv'.tup2 (.bool _)⟩
      | false => exact ⟨_, e1, v', hrun _ (by cases d <;> first | exact absurd rfl (hni _) | simp [Instr.typeAssert, run_underlying hu]), hv'⟩
    · rename_i hb
      exact hmiss (y := .ifc t' u') e1 hc (.inr ⟨t', v', hv, fun e0 => by rw [e0, Nat.beq_refl] at hb; cases hb⟩)
end more
def bindR (x : Res) (k : V → Res) : Res :=
  match x with
  | .ok v => k v
  | e => e
section nat
variable (k)
theorem bR_ok (v : V) : bindR (.ok v) k = k v := rfl
theorem bR_bad (n : Nat) : bindR (.bad n) k = .bad n := rfl
theorem bR_x (x : X) (tm : T V) (g : V → Res) : bindR (xK x tm g) k = xK x tm fun v => bindR (g v) k := by
  cases x <;> simp only [xK, gV_eq, bR_bad]
theorem bR_gd (b : Bool) (n : Nat) (g : Res) : bindR (gd b n g) k = gd b n (bindR g k) := by cases b <;> rfl
theorem bR_b (v : V) (g : Bool → Res) : bindR (asB v g) k = asB v fun x => bindR (g x) k := by cases v <;> rfl
theorem bR_i (v : V) (g : IntKind → Int → Res) : bindR (asI v g) k = asI v fun x y => bindR (g x y) k := by cases v <;> rfl
theorem bR_n (v : V) (g : Nat → Res) : bindR (asN v g) k = asN v fun x => bindR (g x) k := by
  cases v with
  | int kd n => cases n <;> rfl
  | _ => rfl
theorem bR_p (v : V) (g : Q → Nat → Res) : bindR (asP v g) k = asP v fun x y => bindR (g x y) k := by cases v <;> rfl
theorem bR_s (v : V) (g : Nat → Nat → Res) : bindR (asS v g) k = asS v fun x y => bindR (g x y) k := by cases v <;> rfl
theorem bR_a (v : V) (g : List V → Res) : bindR (asA v g) k = asA v fun x => bindR (g x) k := by cases v <;> rfl
theorem bR_row (o : O) (g : Nat → T V → Res) : bindR (rowO o g) k = rowO o fun x y => bindR (g x y) k := by cases o <;> rfl
theorem bR_map (o : O) (g : List (V × V) → Res) : bindR (mapO o g) k = mapO o fun x => bindR (g x) k := by cases o <;> rfl
theorem bR_wrap (kd : IntKind) (n : Int) (g : Int → Res) : bindR (wrapK kd n g) k = wrapK kd n fun x => bindR (g x) k := by
  cases n with
  | ofNat m =>
    simp only [wrapK, forceN_eq]
    split
    · rfl
    · simp only [forceI_eq]
  | negSucc m => simp only [wrapK, forceN_eq, forceI_eq]
theorem bR_bK (b : Bool) (g : V → Res) : bindR (bK b g) k = bK b fun x => bindR (g x) k := by cases b <;> rfl
theorem bR_bin (op : BinOp) (a b : V) (g : V → Res) : bindR (binK op a b g) k = binK op a b fun x => bindR (g x) k := by
  cases a <;> simp only [binK, bR_bad]
  · cases b <;> simp only [bR_bad, bR_gd]
    congr 1
    cases op <;> simp only [binI, bR_wrap, bR_bK, bR_gd, forceI_eq, bR_bad]
  · cases b <;> simp only [bR_bad]
    cases op <;> simp only [binS, bR_bK, bR_gd, forceN_eq, bR_bad]
theorem bR_eqP (h : T O) (o : Q) (x : Nat) (o' : Q) (y : Nat) (g : Bool → Res) : bindR (eqP h o x o' y g) k = eqP h o x o' y fun b => bindR (g b) k := by
  unfold eqP
  split
  · split
    · rfl
    · simp only [gO_eq, bR_gd]
  · simp only [gO_eq, bR_gd]
theorem bR_eq (m : EqM) (h : T O) (a b : V) (g : Bool → Res) : bindR (eqK m h a b g) k = eqK m h a b fun x => bindR (g x) k := by
  cases m <;> simp only [eqK, bR_b]
  · cases a <;> simp only [bR_bad]
    · cases b <;> simp only [bR_bad]
    · cases b <;> simp only [bR_bad, bR_eqP]
  all_goals cases a <;> simp only [bR_bad]
theorem bR_cv (v : V) (g : List V → Res) : bindR (cvK v g) k = cvK v fun x => bindR (g x) k := by cases v <;> rfl
theorem bR_over : ∀ (l : List V) (off : Nat) (new : List V) (g : List V → Res), bindR (overK l off new g) k = overK l off new fun x => bindR (g x) k
  | [], 0, [], g => rfl
  | [], 0, _ :: _, g => rfl
  | [], _ + 1, _, g => rfl
  | x :: l, 0, [], g => rfl
  | x :: l, 0, v :: vs, g => by simp only [overK, bR_over l 0 vs]
  | x :: l, off + 1, new, g => by simp only [overK, bR_over l off new]
theorem bR_bld (tm : T V) : ∀ (ps : List (Nat × Nat × X)) (l : List V) (g : List V → Res), bindR (bldK tm ps l g) k = bldK tm ps l fun x => bindR (g x) k
  | [], l, g => rfl
  | (off, n, x) :: ps, l, g => by simp only [bldK, bR_x, bR_cv, lenK_eq, bR_gd, bR_over, bR_bld tm ps]
theorem bR_ld (h : T O) (o : Q) (off : Nat) (g : V → Res) : bindR (ldK h o off g) k = ldK h o off fun x => bindR (g x) k := by
  simp only [ldK, gO_eq, bR_row, bR_gd, qnK_eq, gV_eq]
theorem bR_lds (h : T O) (o : Q) (off n : Nat) (g : List V → Res) : bindR (ldsK h o off n g) k = ldsK h o off n fun x => bindR (g x) k := by
  simp only [ldsK, gO_eq, bR_row, bR_gd, getsK_eq]
theorem bR_nth {α : Type} (l : List α) (n : Nat) (g : α → Res) : bindR (nthK l n g) k = nthK l n fun x => bindR (g x) k := by
  simp only [nthK_eq]
  cases l[n]? <;> rfl
theorem bR_take : ∀ (n : Nat) (l : List V) (g : List V → Res), bindR (takeK n l g) k = takeK n l fun x => bindR (g x) k
  | 0, l, g => rfl
  | n + 1, [], g => rfl
  | n + 1, v :: l, g => by simp only [takeK, bR_take n l]
theorem bR_part : ∀ (off n : Nat) (l : List V) (g : List V → Res), bindR (partK off n l g) k = partK off n l fun x => bindR (g x) k
  | 0, n, l, g => by simp only [partK, bR_take]
  | off + 1, n, [], g => rfl
  | off + 1, n, v :: l, g => by simp only [partK, bR_part off n l]
theorem bR_fd (agg : Bool) (off n : Nat) (l : List V) (g : V → Res) : bindR (fdK agg off n l g) k = fdK agg off n l fun x => bindR (g x) k := by
  cases agg <;> simp only [fdK, bR_nth, bR_part]
theorem bR_elem (sz : Nat) (v : V) (i : Nat) (g : V → Res) : bindR (elemK sz v i g) k = elemK sz v i fun x => bindR (g x) k := by
  cases v <;> simp only [elemK, bR_bad, bR_gd, forceN_eq]
theorem bR_len (v : V) (g : Nat → Res) : bindR (lenV v g) k = lenV v fun x => bindR (g x) k := by cases v <;> rfl
theorem bR_opt (x : Option X) (tm : T V) (d : Nat) (g : Nat → Res) : bindR (optN x tm d g) k = optN x tm d fun n => bindR (g n) k := by
  cases x <;> simp only [optN, bR_x, bR_n]
theorem bR_cut (sz : Nat) (v : V) (lo hi : Nat) (mx : Option Nat) (g : V → Res) : bindR (cutL sz v lo hi mx g) k = cutL sz v lo hi mx fun x => bindR (g x) k := by
  cases v <;> cases mx <;> simp only [cutL, bR_bad, bR_gd, forceN_eq]
  · congr 1; split <;> rfl
  · congr 1; split <;> rfl
  · congr 1; split
    · rfl
    · split <;> rfl
  · congr 1; split <;> rfl
theorem bR_eqCell (f : FK) (x y : V) (g : Bool → Res) : bindR (eqCell f x y g) k = eqCell f x y fun b => bindR (g b) k := by
  cases f <;> cases x <;> simp only [eqCell, bR_bad] <;> cases y <;> simp only [bR_bad, bR_gd]
theorem bR_eqCells : ∀ (fs : List FK) (xs ys : List V) (g : Bool → Res), bindR (eqCells fs xs ys g) k = eqCells fs xs ys fun b => bindR (g b) k
  | [], [], [], g => rfl
  | [], [], _ :: _, g => rfl
  | [], _ :: _, _, g => rfl
  | _ :: _, [], _, g => rfl
  | _ :: _, _ :: _, [], g => rfl
  | f :: fs, x :: xs, y :: ys, g => by
    simp only [eqCells, bR_eqCell]
    congr 1
    funext b
    cases b
    · rfl
    · exact bR_eqCells fs xs ys g
theorem bR_keyEq (s : KK) (h : T O) (x y : V) (g : Bool → Res) : bindR (keyEq s h x y g) k = keyEq s h x y fun b => bindR (g b) k := by
  cases s <;> cases x <;> simp only [keyEq, bR_bad] <;> cases y <;> simp only [bR_bad, bR_gd, bR_eqP, bR_eqCells]
theorem bR_find (s : KK) (h : T O) (x : V) : ∀ (es : List (V × V)) (g : V → Res) (kn : Res), bindR (findK s h x es g kn) k = findK s h x es (fun v => bindR (g v) k) (bindR kn k)
  | [], g, kn => rfl
  | (y, v) :: es, g, kn => by
    simp only [findK, bR_keyEq]
    congr 1
    funext b
    cases b
    · exact bR_find s h x es g kn
    · rfl
theorem bR_keyCk (s : KK) (x : V) (g : Res) : bindR (keyCk s x g) k = keyCk s x (bindR g k) := by
  cases s <;> simp only [keyCk]
  cases x <;> simp only [bR_bad, lenK_eq, bR_gd]
theorem bR_xs (tm : T V) : ∀ (xs : List X) (g : List V → Res), bindR (xsK xs tm g) k = xsK xs tm fun x => bindR (g x) k
  | [], g => rfl
  | x :: xs, g => by
    have h1 : ∀ g, xsK (x :: xs) tm g = xK x tm fun v => xsK xs tm fun l => g (v :: l) := fun g => rfl
    rw [h1, h1, bR_x]
    congr 1
    funext v
    rw [bR_xs tm xs]
end nat
theorem pK_nat (b : PB) (tm : T V) (h : T O) (k : V → Res) : pK b tm h k = bindR (pK b tm h .ok) k := by
  cases b
  case pick c x y =>
    simp only [pK, bR_x, bR_b]
    congr 1; funext v; congr 1; funext t
    cases t <;> simp only [bR_x, bR_ok]
  case nck x =>
    simp only [pK, bR_x]
    congr 1; funext v
    cases v <;> rfl
  case ctu x =>
    simp only [pK, bR_x]
    congr 1; funext v
    cases v <;> first | rfl | simp only [bR_bad, bR_ok, gO_eq, bR_row, bR_gd]
  case cfu ty n x =>
    simp only [pK, bR_x]
    congr 1; funext v
    cases v <;> first | rfl | simp only [bR_bad, bR_ok, gO_eq]
    rename_i o off
    cases h.ob o <;> first | rfl | simp only [bR_bad, bR_gd, bR_ok]
  case sd x =>
    simp only [pK, bR_x]
    congr 1; funext v
    cases v <;> first | rfl | skip
    · rename_i o off len cap
      cases len <;> rfl
    · rename_i o off len cap
      cases len <;> rfl
  case slL sz x lo hi mx =>
    simp only [pK, bR_x, bR_len, bR_opt]
    congr 1; funext v; congr 1; funext l; congr 1; funext a; congr 1; funext b
    cases mx <;> simp only [bR_cut, bR_x, bR_n, bR_ok]
  case lk s ok z m key =>
    simp only [pK, bR_x]
    congr 1; funext m; congr 1; funext x
    rw [bR_keyCk]; congr 1
    cases m <;> simp only [bR_bad]
    · cases ok <;> rfl
    · simp only [gO_eq, bR_map]
      congr 1; funext es
      cases ok <;> simp only [bR_find, bR_ok]
  case lenM x =>
    simp only [pK, bR_x]
    congr 1; funext v
    cases v <;> simp only [bR_bad, bR_ok, gO_eq, bR_map, lenK_eq]
  case ta ok t z x =>
    simp only [pK, bR_x]
    congr 1; funext v
    cases v <;> simp only [taK, taMiss, bR_bad]
    · cases ok <;> rfl
    · rename_i t' u
      cases Nat.beq t' t <;> cases ok <;> rfl
  case max x y =>
    simp only [pK, bR_x, bR_i]
    congr 1; funext a; congr 1; funext b; congr 1; funext ka n; congr 1; funext kb m
    cases leI m n <;> rfl
  case ex i x =>
    simp only [pK, bR_x]
    congr 1; funext v
    cases v <;> simp only [bR_bad, bR_nth, bR_ok]
  all_goals simp only [pK, bR_x, bR_gd, bR_b, bR_i, bR_n, bR_p, bR_s, bR_a, bR_wrap, bR_bK, bR_bin, bR_eq, bR_bld, bR_ld, bR_lds, bR_fd, bR_elem, bR_len, bR_opt, bR_xs, bR_ok, bR_bad, forceN_eq]
theorem pK_split {b : PB} (e : pK b tm h k = .ok r) : ∃ v, pK b tm h .ok = .ok v ∧ k v = .ok r := by
  rw [pK_nat] at e
  cases hp : pK b tm h .ok with
  | ok v => rw [hp] at e; exact ⟨v, rfl, e⟩
  | bad n => rw [hp] at e; cases e
  | fuel => rw [hp] at e; cases e
theorem pK_heap {b : PB} (hb : isR b = false) (h h' : T O) : pK b tm h k = pK b tm h' k := by
  cases b <;> first | rfl | cases hb
theorem orP_ok {o : Option PB} {b : PB} (hb : orP o = .p b) : o = some b ∨ b = .bad := by
  cases o with
  | none => simp only [orP] at hb; cases hb; exact .inr rfl
  | some p => simp only [orP] at hb; cases hb; exact .inl rfl
theorem orA_p {o : Option AB} {b : PB} (hb : orA o = .p b) : b = .bad := by
  cases o <;> simp only [orA] at hb <;> cases hb; rfl
theorem orW_p {o : Option WB} {b : PB} (hb : orW o = .p b) : b = .bad := by
  cases o <;> simp only [orW] at hb <;> cases hb; rfl
theorem pOp_ok (H : HR P w0 ρ h nx w) {o : Oper} {b : PB} (hb : compOp P o = .p b) (hT : XR ρ tm tmps o.op.operands.toList) (e : pK b tm h k = .ok r) : ∃ v, k v = .ok r ∧ PG P w ρ tmps ds o v := by
  have bad : b = .bad → ∃ v, k v = .ok r ∧ PG P w ρ tmps ds o v := fun hb => by subst hb; cases e
  obtain ⟨dst, op, ty, pos, aft, gd'⟩ := o
  cases op <;> simp only [compOp] at hb
  case move x => cases hb; exact p_move H hT e
  case assign x => cases hb; exact p_assign H hT e
  case pick c x y => cases hb; exact p_pick H hT e
  case alloc t => exact bad (orA_p hb)
  case box t x => exact bad (orA_p hb)
  case build t parts =>
    rcases orP_ok hb with hb | hb
    · obtain ⟨z, hz, hb⟩ := bindo hb
      obtain ⟨ps, hp, hb⟩ := mapo hb
      subst hb
      exact p_bld H hz hp hT e
    · exact bad hb
  case buildSlice t len parts => exact bad (orA_p hb)
  case load t a =>
    rcases orP_ok hb with hb | hb
    · obtain ⟨g, hg, hb⟩ := bindo hb
      obtain ⟨s, hs, hb⟩ := bindo hb
      cases g with
      | true => simp at hb; subst hb; exact p_ldn H hg hs hT e
      | false =>
        simp only at hb
        split at hb
        · simp at hb; subst hb; exact p_ld1 H hg hT e
        · cases hb
    · exact bad hb
  case store t a x => exact bad (orW_p hb)
  case nilCheck x => cases hb; exact p_nck H hT e
  case binOp op t x y yt => cases hb; exact p_binOp H hT e
  case unOp op t x =>
    cases op <;> simp only at hb <;> cases hb <;> first | exact bad rfl | exact p_unOp H hT e | exact p_neg H hT e
  case convert s d x =>
    split at hb
    · cases hb; rename_i hs hd; exact p_cvi H hs hd hT e
    · cases hb; rename_i hs hd; exact p_cvs H hs hd hT e
    · cases hb; rename_i hs hd; exact p_cis H hs hd hT e
    · rename_i hs hd
      split at hb
      · cases hb; rename_i hz; exact p_ctu H hs hd hz hT e
      · cases hb; exact bad rfl
    · rename_i hs hd
      split at hb
      · rename_i hz
        split at hb
        · cases hb; rename_i hl; exact p_cfu H hs hd hz hl hT e
        · cases hb; exact bad rfl
      · cases hb; exact bad rfl
    · split at hb
      · cases hb
      · cases hb; exact bad rfl
    · cases hb; exact bad rfl
  case makeInterface t x =>
    split at hb
    · cases hb; exact bad rfl
    · cases hb; rename_i d hd hu; exact p_mki H hu (fun m hm => hd m hm) hT e
    · cases hb; exact bad rfl
  case makeFunc fn first caps =>
    split at hb
    · cases hb; exact p_mkf H hT e
    · cases hb; exact bad rfl
  case makeMap t r =>
    split at hb
    · cases hb
    · cases hb; exact bad rfl
  case makeSlice t l c => exact bad (orA_p hb)
  case slice t x lo hi mx =>
    split at hb
    · cases hb; rename_i hu; exact p_slS H hu hT e
    · rename_i el _ hu
      split at hb
      · cases hb; exact bad rfl
      · rename_i hmh
        rcases orP_ok hb with hb | hb
        · obtain ⟨s, hs, hb⟩ := mapo hb
          subst hb
          exact p_slL H hu hs hmh hT e
        · exact bad hb
    · cases hb; exact bad rfl
  case fieldAddr t x f =>
    rcases orP_ok hb with hb | hb
    · obtain ⟨ot, hf, hb⟩ := bindo hb
      obtain ⟨s, hs, hb⟩ := bindo hb
      split at hb
      · rename_i h0
        simp at hb; subst hb
        exact p_fa H hf hs h0 hT e
      · cases hb
    · exact bad hb
  case field t x f =>
    rcases orP_ok hb with hb | hb
    · obtain ⟨ot, hf, hb⟩ := bindo hb
      obtain ⟨s, hs, hb⟩ := bindo hb
      obtain ⟨g, hg, hb⟩ := mapo hb
      subst hb
      exact p_fd H hf hs hg hT e
    · exact bad hb
  case indexAddr t x i =>
    split at hb
    · rename_i el hu
      rcases orP_ok hb with hb | hb
      · obtain ⟨s, hs, hb⟩ := mapo hb
        subst hb
        exact p_ia H hu hs hT e
      · exact bad hb
    · rename_i len el hu
      rcases orP_ok hb with hb | hb
      · obtain ⟨s, hs, hb⟩ := mapo hb
        subst hb
        exact p_iaa H hu hs hT e
      · exact bad hb
    · cases hb; exact bad rfl
  case index t x i =>
    split at hb
    · cases hb; rename_i hu; exact p_ixs H hu hT e
    · rename_i len el hu
      rcases orP_ok hb with hb | hb
      · obtain ⟨s, hs, hb⟩ := bindo hb
        obtain ⟨g, hg, hb⟩ := mapo hb
        subst hb
        exact p_ixa H hu hs hg hT e
      · exact bad hb
    · cases hb; exact bad rfl
  case lookup t m key ok =>
    split at hb
    · rename_i s el ht
      rcases orP_ok hb with hb | hb
      · obtain ⟨z, hz, hb⟩ := mapo hb
        subst hb
        exact p_lk H ht hz hT e
      · exact bad hb
    · cases hb; exact bad rfl
  case mapUpdate t m key x => split at hb <;> cases hb; exact bad rfl
  case insert t m key x => split at hb <;> cases hb; exact bad rfl
  case mapEntry t m key =>
    split at hb
    · exact bad (orW_p hb)
    · cases hb; exact bad rfl
  case entryStore t m s x => cases hb
  case extract x i => cases hb; exact p_ex H hT e
  case typeAssert x xt t okb =>
    rcases orP_ok hb with hb | hb
    · obtain ⟨d, hd, hb⟩ := bindo hb
      split at hb
      · cases hb
      · rename_i hni
        obtain ⟨z, hz, hb⟩ := mapo hb
        subst hb
        exact p_ta H hd (fun ms e0 => hni ms e0) hz hT e
    · exact bad hb
  case call c =>
    obtain ⟨cal, a, ts⟩ := c
    cases cal <;> simp only [compCall] at hb
    · cases hb
    · cases hb
    · split at hb
      · exact bad (orW_p hb)
      · rename_i x t ha hts
        split at hb
        · cases hb; rename_i hu; exact p_len H ha hts (.inl ⟨hu, rfl⟩) hT e
        · cases hb; rename_i hu; exact p_len H ha hts (.inr (.inl ⟨_, hu, rfl⟩)) hT e
        · cases hb; rename_i hu; exact p_len H ha hts (.inr (.inr ⟨_, _, hu, rfl⟩)) hT e
        · cases hb; exact bad rfl
      · exact bad (orW_p hb)
      · cases hb; rename_i ha; exact p_sd H ha hT e
      · split at hb
        · split at hb
          · cases hb
          · cases hb; exact bad rfl
        · cases hb; exact bad rfl
      · cases hb; rename_i ha; exact p_max H ha hT e
      · cases hb
      · cases hb; exact bad rfl
  case defer c =>
    split at hb
    · cases hb
    · split at hb
      · split at hb <;> cases hb; exact bad rfl
      · cases hb; exact bad rfl
    · cases hb; exact bad rfl
  all_goals (cases hb; exact bad rfl)
end Go.CM
end
noncomputable section
namespace Go.CM
open Go.AM (oneC overwrite overwrite_get overwrite_length run_underlying run_sizeOf run_isAgg run_zeroValue szOf aggOf bytesAt sliceElem fieldAt? run_equal add_mk bytes_beq run_getObj run_setObj heap_alloc_new fill_one)
variable {P : Program} {w0 w : World} {ρ : Rho} {h : T O} {nx : Q} {tm : T V} {tmps : Array Value} {ds : List Deferred} {r v : V}
theorem putsL_append : ∀ (a b : List V) (i : Nat) (t : T V), putsL (a ++ b) i t = putsL b (i + a.length) (putsL a i t)
  | [], b, i, t => by simp [putsL]
  | v :: a, b, i, t => by
    simp only [List.cons_append, putsL, putsL_append a b, List.length_cons]
    rw [show i + 1 + a.length = i + (a.length + 1) by omega]
theorem zerosL_eq (z : List V) : ∀ (n i : Nat) (t : T V), zerosL z n i t = putsL (repL z n) i t
  | 0, i, t => rfl
  | n + 1, i, t => by simp only [zerosL, repL, putsL_append, zerosL_eq z n]
theorem repL_length (z : List V) : ∀ n, (repL z n).length = n * z.length
  | 0 => by simp [repL]
  | n + 1 => by simp [repL, repL_length z n, Nat.add_mul, Nat.add_comm]
theorem repL_get (z : List V) : ∀ (n j : Nat) c, (repL z n)[j]? = some c → z[j % z.length]? = some c
  | 0, j, c, h => by simp [repL] at h
  | n + 1, j, c, h => by
    simp only [repL] at h
    rw [List.getElem?_append] at h
    split at h
    · rename_i hj
      rw [Nat.mod_eq_of_lt hj]; exact h
    · rename_i hj
      have := repL_get z n _ c h
      rw [← Nat.mod_eq_sub_mod (by omega)] at this
      exact this
theorem ofListF_eq : ∀ (vs : List V) (n : Nat) (t : T V), T.ofListF V.undef vs (qn n) t = putsL vs n t
  | [], n, t => rfl
  | v :: vs, n, t => by simp only [T.ofListF, putsL, qn_succ, ofListF_eq vs]
theorem ofList_eq (vs : List V) : T.ofList vs = putsL vs 0 .nil := ofListF_eq vs 0 .nil
def TL (t : T V) (L : List V) : Prop := ∀ (j : Nat) c, L[j]? = some c → t.at j = c
theorem TL.puts (L : List V) (t : T V) : TL (putsL L 0 t) L := fun j c hc => by
  have hj : j < L.length := (List.getElem?_eq_some_iff.1 hc).1
  rw [putsL_at, if_pos ⟨by omega, by omega⟩]
  simp [List.getD_eq_getElem?_getD, hc]
theorem TL.over {t : T V} {L c : List V} {off : Nat} (h : TL t L) (hle : off + c.length ≤ L.length) : TL (putsL c off t) (overwrite L off c) := fun j x hx => by
  rw [overwrite_get _ _ _ _ hle] at hx
  rw [putsL_at]
  by_cases h1 : j < off
  · rw [if_pos h1] at hx
    rw [if_neg (by omega)]; exact h j x hx
  · rw [if_neg h1] at hx
    by_cases h2 : j < off + c.length
    · rw [if_pos h2] at hx
      rw [if_pos ⟨by omega, h2⟩, List.getD_eq_getElem?_getD, hx]; rfl
    · rw [if_neg h2] at hx
      rw [if_neg (by omega)]; exact h j x hx
theorem OR.new {ρ' : Rho} {L : List V} {vs : List Value} {t : T V} {T' : TypeId} {B0 : Nat} (hB : B0 ≤ w.heap.size) (ht : TL t L) (hv : VRs ρ' L vs) (hk : ∀ c ∈ L, isCell c = true) :
    OR P ρ' (w.alloc (.cells ⟨vs⟩ T')) B0 (.row L.length t [] 0 T' true) w.heap.size vs.length :=
  .row _ _ _ _ _ _ _ _ vs hB (AM.heap_alloc_new _) rfl (by rw [hv.1]; exact Nat.le_refl _) (Nat.zero_le _) (fun _ => hv.1) (fun a ha => by cases ha) (fun i v hi hv' => by
    have h1 := ht i L[i] (by simp [hi])
    rw [h1]; exact hv.2 i _ v (by simp [hi]) hv') fun i hi => by
    have h1 := ht i L[i] (by simp [hi])
    rw [h1]; exact hk _ (List.getElem_mem hi)
theorem bslK_ok (H : HR P w0 ρ h nx w) {sz n : Nat} : ∀ {parts : List (Nat × Operand)} {t : T V} {L : List V} {Ls : List Value} {k : T V → Res}, XR ρ tm tmps (parts.map (·.2)) → (∀ p ∈ parts, p.1 < n) → L.length = n * sz → TL t L → VRs ρ L Ls → (∀ c ∈ L, isCell c = true) →
    bslK tm sz (bslParts P parts) t k = .ok r → ∃ t' L' Ls', (∀ k', bslK tm sz (bslParts P parts) t k' = k' t') ∧ k t' = .ok r ∧ L'.length = n * sz ∧ TL t' L' ∧ VRs ρ L' Ls' ∧ (∀ c ∈ L', isCell c = true) ∧
      Instr.fill (fun i => some (i * sz, sz)) ⟨Ls⟩ (parts.map fun p => (p.1, ev tmps ds p.2)) = some ⟨Ls'⟩
  | [], t, L, Ls, k, hT, hp, hL, ht, hv, hk, e => ⟨t, L, Ls, fun _ => rfl, e, hL, ht, hv, hk, rfl⟩
  | (i, x) :: parts, t, L, Ls, k, hT, hp, hL, ht, hv, hk, e => by
    have e0 : ∀ k', bslK tm sz (bslParts P ((i, x) :: parts)) t k' = xK (compX P x) tm fun v => cvK v fun c => lenK c fun m => gd (Nat.beq m sz) 57 (putsK c (i * sz) t fun t' => bslK tm sz (bslParts P parts) t' k') := fun k' => rfl
    rw [e0] at e
    obtain ⟨c, h1, e⟩ := xK_ok e
    have hc := xE_rel (ds := ds) H.glob (hT.sub (fun y hy => by simp at hy; simp [hy])) h1
    obtain ⟨l, hl, e⟩ := cvK_ok e
    rw [lenK_eq] at e
    obtain ⟨hg, e⟩ := gd_ok e
    rw [putsK_eq] at e
    have hls := Nat.eq_of_beq_eq_true hg
    obtain ⟨g1, g2, g3⟩ := hc.cells hl
    have hi := hp (i, x) (by simp)
    have hle : i * sz + l.length ≤ L.length := by
      rw [hls, hL, ← Nat.succ_mul]; exact Nat.mul_le_mul_right _ hi
    obtain ⟨t', L', Ls', f0, f1, f2, f3, f4, f5, f6⟩ := bslK_ok H (hT.sub (fun y hy => by simp at hy ⊢; exact .inr hy)) (fun p hp' => hp p (by simp [hp'])) (by rw [overwrite_length _ _ _ hle]; exact hL) (ht.over hle) (hv.over (off := i * sz) g1) (over_cell hk g2) e
    refine ⟨t', L', Ls', fun k' => ?_, f1, f2, f3, f4, f5, ?_⟩
    · rw [e0]
      have hx : ∀ k'' : V → Res, xK (compX P x) tm k'' = k'' c := fun k'' => by
        cases hcx : compX P x with
        | t q => rw [hcx] at h1; simp only [xE, Option.some.injEq] at h1; subst h1; simp only [xK, gV_eq]
        | c v => rw [hcx] at h1; simp only [xE, Option.some.injEq] at h1; subst h1; rfl
        | bad => rw [hcx] at h1; cases h1
      have hcv : ∀ k'' : List V → Res, cvK c k'' = k'' l := fun k'' => by
        rcases hl with rfl | ⟨h1, rfl⟩
        · rfl
        · cases c <;> first | rfl | cases h1
      rw [hx, hcv, lenK_eq, hg, gd, putsK_eq]
      exact f0 k'
    · have hsz : (ev tmps ds x).cells.size = sz := by
        have := g1.1
        rw [hls] at this
        simpa using this.symm
      have hzl : i * sz + (ev tmps ds x).cells.size ≤ Ls.length := by rw [← hv.1, hsz]; rw [hls] at hle; exact hle
      simp only [List.map_cons, Instr.fill]
      rw [if_neg (by simp [hsz]; rw [← hsz]; simpa [hsz] using hzl), fill_one _ _ _ (by simpa using hzl)]
      exact f6
def AE (b : AB) (tm : T V) (ob : O) (mk : Q → V) : Prop := ∀ k : O → (Q → V) → Res, aK b tm k = k ob mk
theorem xK_det {x : X} {v : V} (h1 : xE tm x = some v) (k : V → Res) : xK x tm k = k v := by
  cases x with
  | t q => simp only [xE, Option.some.injEq] at h1; subst h1; simp only [xK, gV_eq]
  | c v => simp only [xE, Option.some.injEq] at h1; subst h1; rfl
  | bad => cases h1
theorem cvK_det {v : V} {l : List V} (h : VC v l) (k : List V → Res) : cvK v k = k l := by
  rcases h with rfl | ⟨h1, rfl⟩
  · rfl
  · cases v <;> first | rfl | cases h1
structure AG (P : Program) (w0 w : World) (ρ : Rho) (tmps : Array Value) (ds : List Deferred) (o : Oper) (ob : O) (mk : Q → V) : Prop where
  run : ∃ x N u, (execOp (ev tmps ds) o).run P w = .ok (.value u) (w.alloc x) ∧ ∀ q, ρ q = none → OR P (ρ.set q w.heap.size N) (w.alloc x) w0.heap.size ob w.heap.size N ∧ VR (ρ.set q w.heap.size N) (mk q) u
section
variable {dst : Option Nat} {ty : TypeId} {pos : String} {aft : Array Edge} {gd' : Option (Nat × Bool)} {k : O → (Q → V) → Res}
theorem a_al (H : HR P w0 ρ h nx w) {t : TypeId} {z : List V} (hz : zeroL P t = some z) : AG P w0 w ρ tmps ds ⟨dst, .alloc t, ty, pos, aft, gd'⟩ (.row z.length (T.ofList z) [] 0 t true) (fun q => .ptr q 0) := by
  obtain ⟨zv, h1, h2, h3, h4, h5⟩ := zeroL_ok (ρ := ρ) hz
  refine ⟨.cells ⟨zv.cells.toList⟩ t, zv.cells.toList.length, .pointer (some ⟨w.heap.size, 0, none⟩), ?_, fun q hq => ⟨?_, ?_⟩⟩
  · simp [execOp, Instr.alloc, run_zeroValue h1, newVar, newRow]
  · refine OR.new H.size ?_ (h3.mono (Rho.set_le hq)) h4
    rw [ofList_eq]; exact TL.puts _ _
  · exact .ptr _ _ _ _ Rho.set_same
theorem a_bx (H : HR P w0 ρ h nx w) {t : TypeId} {x : Operand} {n : Nat} (hT : XR ρ tm tmps (Op.operands (.box t x)).toList) (e : aK (.bx t n (compX P x)) tm k = .ok r) :
    ∃ ob mk, AE (.bx t n (compX P x)) tm ob mk ∧ k ob mk = .ok r ∧ AG P w0 w ρ tmps ds ⟨dst, .box t x, ty, pos, aft, gd'⟩ ob mk := by
  simp only [aK] at e
  obtain ⟨c, h1, e1⟩ := xK_ok e
  have hc := xE_rel (ds := ds) H.glob (hT.sub (by simp [Op.operands])) h1
  obtain ⟨l, hl, e2⟩ := cvK_ok e1
  rw [lenK_eq] at e2
  obtain ⟨hg, e3⟩ := gd_ok e2
  rw [putsK_eq] at e3
  obtain ⟨g1, g2, g3⟩ := hc.cells hl
  have hln := Nat.eq_of_beq_eq_true hg
  refine ⟨_, _, fun k' => by simp only [aK, xK_det h1, cvK_det hl, lenK_eq, hg, gd, putsK_eq], e3, ⟨.cells ⟨(ev tmps ds x).cells.toList⟩ t, (ev tmps ds x).cells.toList.length, .pointer (some ⟨w.heap.size, 0, none⟩), ?_, fun q hq => ⟨?_, .ptr _ _ _ _ Rho.set_same⟩⟩⟩
  · simp [execOp, Instr.box, newVar, newRow]
  · rw [← hln]
    exact OR.new H.size (TL.puts _ _) (g1.mono (Rho.set_le hq)) g2
theorem a_mkm (H : HR P w0 ρ h nx w) {t : TypeId} : AG P w0 w ρ tmps ds ⟨dst, .makeMap t none, ty, pos, aft, gd'⟩ (.map []) (fun q => .map q) := by
  refine ⟨.map #[] 0, 0, .map (some w.heap.size), ?_, fun q hq => ⟨.map [] [] 0 _ _ H.size (AM.heap_alloc_new _) ⟨rfl, fun i p e h => by simp at h, fun i p e h => by simp at h⟩ ⟨rfl, fun i e h => by simp at h⟩, .map _ _ _ Rho.set_same⟩⟩
  simp [execOp, Instr.makeMap]
theorem zinit {ρ' : Rho} {z : List V} {zv : Value} (hz : VRs ρ' z zv.cells.toList) (hpos : 0 < z.length) (n : Nat) : VRs ρ' (repL z n) ((List.range (n * z.length)).map fun p => zv.cells[p % zv.cells.size]!) := by
  have hsz : zv.cells.size = z.length := by simpa using hz.1.symm
  refine ⟨by simp [repL_length], fun j c u hc hu => ?_⟩
  have hj : j < n * z.length := by have := (List.getElem?_eq_some_iff.1 hu).1; simpa using this
  simp only [List.getElem?_map, List.getElem?_range hj, Option.map_some, Option.some.injEq] at hu
  have h1 := repL_get z n j c hc
  have hm : j % z.length < zv.cells.size := by rw [hsz]; exact Nat.mod_lt _ hpos
  refine hz.2 (j % z.length) c u h1 ?_
  rw [hsz] at hu
  rw [← hu]; simp [hm]
theorem repL_cell {z : List V} (hk : ∀ c ∈ z, isCell c = true) (n : Nat) : ∀ c ∈ repL z n, isCell c = true := fun c hc => by
  obtain ⟨j, hj⟩ := List.getElem?_of_mem hc
  exact hk c (List.mem_of_getElem? (repL_get z n j c hj))
theorem a_bsl (H : HR P w0 ρ h nx w) {t el : TypeId} {len : Nat} {parts : Array (Nat × Operand)} {z : List V} (hu : P.underlying t = some (.slice el)) (hz : zeroL P el = some z) (hpos : 0 < z.length) (hle : len * z.length ≤ 16777216) (hp : ∀ p ∈ parts.toList, p.1 < len)
    (hT : XR ρ tm tmps (Op.operands (.buildSlice t len parts)).toList) (e : aK (.bsl el z.length len (T.ofList (repL z len)) (bslParts P parts.toList)) tm k = .ok r) :
    ∃ ob mk, AE (.bsl el z.length len (T.ofList (repL z len)) (bslParts P parts.toList)) tm ob mk ∧ k ob mk = .ok r ∧ AG P w0 w ρ tmps ds ⟨dst, .buildSlice t len parts, ty, pos, aft, gd'⟩ ob mk := by
  simp only [aK] at e
  obtain ⟨zv, h1, h2, h3, h4, h5⟩ := zeroL_ok (ρ := ρ) hz
  have hT' : XR ρ tm tmps (parts.toList.map (·.2)) := hT.sub (fun x hx => by simpa [Op.operands] using hx)
  obtain ⟨t', L', Ls', f0, f1, f2, f3, f4, f5, f6⟩ := bslK_ok (ds := ds) (n := len) H hT' hp (repL_length z len) (by rw [ofList_eq]; exact TL.puts _ _) (zinit h3 hpos len) (repL_cell h4 len) e
  rw [forceN_eq] at f1
  have hrun : (Instr.buildSlice t len (parts.map fun (i, x) => (i, ev tmps ds x))).run P w = .ok (.slice (some ⟨w.heap.size, 0, none⟩) len len) (w.alloc (.cells ⟨Ls'⟩ el)) := by
    have hsz : zv.cells.size = z.length := by simpa using h3.1.symm
    have harr : (Array.range (len * z.length)).map (fun p => zv.cells[p % zv.cells.size]!) = ⟨(List.range (len * z.length)).map fun p => zv.cells[p % zv.cells.size]!⟩ := by
      apply Array.ext'; simp
    by_cases h0 : len * z.length = 0
    · have hlen0 : len = 0 := by rcases Nat.mul_eq_zero.1 h0 with h' | h'
                                 · exact h'
                                 · omega
      subst hlen0
      simp only [Nat.zero_mul, List.range_zero, List.map_nil] at f6
      simp only [Instr.buildSlice, Sem.run_bind, run_underlying hu, Result.andThen_ok, run_sizeOf h2]
      simp
      have f1' : Instr.fill (fun i => some (i * z.length, z.length)) #[] (parts.map fun (i, x) => (i, ev tmps ds x)).toList = some ⟨Ls'⟩ := by simpa using f6
      simp at f1'
      have hr0 : Array.map (fun _ : Nat => (default : Value)) (Array.range 0) = #[] := by apply Array.ext'; simp
      simp [hr0, f1', newRow]
    · have hle' : ¬ len * z.length > 2 ^ 24 := by omega
      simp only [Instr.buildSlice, Sem.run_bind, run_underlying hu, Result.andThen_ok, run_sizeOf h2]
      have f1' : Instr.fill (fun i => some (i * z.length, z.length)) ((Array.range (len * z.length)).map (fun p => zv.cells[p % zv.cells.size]!)) (parts.map fun (i, x) => (i, ev tmps ds x)).toList = some ⟨Ls'⟩ := by
        rw [harr]; simpa using f6
      rw [if_neg hle']
      simp only [if_neg h0, Sem.run_bind, run_zeroValue h1, Result.andThen_ok, Sem.run_pure, f1', newRow, run_newObj]
      rfl
  have hlen : len * z.length = L'.length := f2.symm
  refine ⟨_, _, fun k' => by simp only [aK]; rw [f0, forceN_eq], f1, ⟨.cells ⟨Ls'⟩ el, Ls'.length, .slice (some ⟨w.heap.size, 0, none⟩) len len, ?_, fun q hq => ⟨?_, .sl _ _ _ _ _ _ Rho.set_same (Nat.le_refl _)⟩⟩⟩
  · simp [execOp, hrun]
  · rw [hlen]
    exact OR.new H.size f3 (f4.mono (Rho.set_le hq)) f5
end
end Go.CM
end
