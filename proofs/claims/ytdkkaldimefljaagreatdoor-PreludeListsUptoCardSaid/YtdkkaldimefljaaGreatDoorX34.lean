import Derived.Test.YtdkkaldimefljaaGreatDoorX31
import Derived.Test.YtdkkaldimefljaaGreatDoorProg
import Derived.Test.YtdkkaldimefljaaGreatDoorRows
import Derived.Deep.Slices
import Derived.Deep.Strs
import Derived.Lib.LaidTab
import Derived.DataElems
import Derived.ChangeArms
import Derived.Test.YtdkkaldimefljaaGreatDoorX12
import Derived.Shelf.Vars
import Derived.Carry
import Derived.OpenShut
import Derived.KernelRfl
import Derived.Test.YtdkkaldimefljaaGreatDoorCards
import Derived.Test.YtdkkaldimefljaaGreatDoorTie
import Derived.WalkKit
import Derived.ProofKit
import Derived.Deep.DeepHandedRow
import Derived.Deep.DeepWitnessRowRef
import Derived.Lib.LaidIn
set_option linter.all false
section
namespace Go.Proofs.YtdkkaldimefljaaGreatDoor
open Go.Proofs.YtdkkaldimefljaaGreatDoor Go.AM
inductive CAbs (W : World) : AVal → Value → Prop
  | int (k : IntKind) (n : Int) : CAbs W (.int k n) (.int k n)
  | str (s : ByteArray) : CAbs W (.str s.data.toList) (.string s)
  | nil : CAbs W (.slice []) (.slice none 0 0)
  | opq (v : Value) (h : v = .nilIface ∨ ∃ t x, v = .iface t x) : CAbs W .opq v
  | slice (xs : List AVal) (b o len cap s : Nat) (sp : Option Nat) (vs : Nat → Nat → Value) (hl : xs.length = len) (hc : len ≤ cap) (hp : xs ≠ [] → sp = none) (hs : ∀ (i : Nat) (x : AVal), xs[i]? = some x → x.cells.length = s)
      (hf : ∀ (i : Nat) (x : AVal) (j : Nat) (c : AVal), xs[i]? = some x → x.cells[j]? = some c → flat c = true ∧ W.cell? ⟨b, o + i * s + j, none⟩ = some (vs i j))
      (hx : ∀ (i : Nat) (x : AVal) (j : Nat) (c : AVal), xs[i]? = some x → x.cells[j]? = some c → CAbs W c (vs i j)) : CAbs W (.slice xs) (.slice (some ⟨b, o, sp⟩) len cap)
def Psi (W : World) : HT := fun b o c => flat c = true ∧ ∃ v, W.cell? ⟨b, o, none⟩ = some v ∧ CAbs W c v
theorem CAbs.rel {W : World} {ρ : List Nat} {c : AVal} {v : Value} (h : CAbs W c v) : VRel (Psi W) ρ c v := by
  induction h with
  | int k n => exact .int k n
  | str s =>
    have : s = ⟨⟨s.data.toList⟩⟩ := by cases s; simp
    rw [this]; exact .str _
  | nil => exact .slice [] none 0 0 0 rfl (Nat.le_refl _) (fun i x e => by simp at e)
  | opq v h => exact .opq v h
  | slice xs b o len cap s sp vs hl hc hp hs hf hx ih =>
    refine .slice xs _ len cap s hl hc fun i x e => ⟨hs i x e, b, o, ?_, fun j c hj => ⟨(hf i x j c e hj).1, _, (hf i x j c e hj).2, hx i x j c e hj⟩⟩
    rw [hp (fun h => by rw [h] at e; simp at e)]
structure Rd (W : World) (xs : List AVal) (vs : List Value) : Prop where
  len : xs.length = vs.length
  abs : ∀ (j : Nat) (c : AVal) (v : Value), xs[j]? = some c → vs[j]? = some v → flat c = true ∧ CAbs W c v
theorem Rd.one {W : World} {c : AVal} {v : Value} (hf : flat c = true) (h : CAbs W c v) : Rd W [c] [v] := ⟨rfl, fun j x u hx hu => by
  cases j with
  | zero => simp at hx hu; subst hx; subst hu; exact ⟨hf, h⟩
  | succ j => simp at hx⟩
theorem Rd.append {W : World} {a b : List AVal} {u v : List Value} (h : Rd W a u) (k : Rd W b v) : Rd W (a ++ b) (u ++ v) := ⟨by simp [h.len, k.len], fun j c x hc hx => by
  rw [List.getElem?_append] at hc hx
  rw [h.len] at hc
  split at hc
  · rename_i hj; rw [if_pos hj] at hx; exact h.abs j c x hc hx
  · rename_i hj; rw [if_neg hj] at hx; exact k.abs _ c x hc hx⟩
section
variable {H : Type} {enc : TypeId × Value → H} {W : World} {sp : Nat → Bool} {hd : Bool}
noncomputable abbrev rd (enc : TypeId × Value → H) (W : World) (sp : Nat → Bool) (hd : Bool) (n : Nat) (t : TypeId) (cs : List Value) := DataW.trod enc Tryz.prog W 0 sp hd n t cs
theorem rdInt {n t k} (ht : Tryz.prog.underlying t = some (.int k)) {cs : List Value} {x} (h : rd enc W sp hd n t cs = some x) : ∃ z : Int, cs = [.int k z] ∧ (Lit.int k z).wf = true ∧ Rd W [.int k z] cs ∧ 1 ≤ Rows.uptoBulk x.1 := by
  obtain ⟨z, rfl, rfl, hw⟩ := DataW.trod_int ht h
  exact ⟨z, rfl, hw, .one rfl (.int _ _), by simp [Rows.uptoBulk]⟩
theorem rdStr {n t} (ht : Tryz.prog.underlying t = some .string) {cs : List Value} {x} (h : rd enc W sp hd n t cs = some x) : ∃ s : List UInt8, Rd W [.str s] cs ∧ s.length + 1 ≤ Rows.uptoBulk x.1 := by
  obtain ⟨s, rfl, rfl, _⟩ := DataW.trod_string ht h
  exact ⟨s.data.toList, .one rfl (.str _), by simp [Rows.uptoBulk]⟩
def tot {α : Type} (sz : α → Nat) : List α → Nat
  | [] => 0
  | a :: l => sz a + 1 + tot sz l
theorem tot_append {α : Type} (sz : α → Nat) : ∀ a b : List α, tot sz (a ++ b) = tot sz a + tot sz b
  | [], b => by simp [tot]
  | x :: a, b => by simp only [List.cons_append, tot, tot_append sz a b]; omega
theorem bulkAll_append {H : Type} : ∀ l r : List (DataW H), Rows.uptoBulkAll (l ++ r) = Rows.uptoBulkAll l + Rows.uptoBulkAll r
  | [], r => by simp [Rows.uptoBulkAll]
  | x :: l, r => by simp only [List.cons_append, Rows.uptoBulkAll, bulkAll_append l r]; omega
theorem rdSlice {α : Type} (en : α → AVal) (sz : α → Nat) {n t e s : Nat} (ht : Tryz.prog.underlying t = some (.slice e)) (hs : Tryz.prog.cellsOf e = s) (hs0 : 0 < s) (hfl : ∀ a, (en a).cells.length = s) {cs : List Value} {x}
    (ih : ∀ m, m < n → ∀ cs x, rd enc W sp hd m e cs = some x → ∃ a : α, Rd W (en a).cells cs ∧ sz a + 1 ≤ Rows.uptoBulk x.1)
    (h : rd enc W sp hd n t cs = some x) : ∃ l : List α, Rd W [.slice (l.map en)] cs ∧ tot sz l + 1 ≤ Rows.uptoBulk x.1 := by
  rcases DataW.trod_slice ht h with ⟨rfl, rfl⟩ | ⟨a, len, cap, elems, rest, m, rfl, rfl, rfl, hb, hlc, hmx, hel, hE, _, _⟩
  · exact ⟨[], .one rfl .nil, by simp [tot, Rows.uptoBulk]⟩
  · have build : ∀ k, k ≤ len → ∃ l : List α, l.length = k ∧ (∀ (i : Nat) (a0 : α), l[i]? = some a0 → ∃ cs', W.cells? 0 (a.add (i * s)) s = some cs' ∧ Rd W (en a0).cells cs') ∧ tot sz l ≤ Rows.uptoBulkAll ((elems.take k).map (·.1)) := by
      intro k
      induction k with
      | zero => intro _; exact ⟨[], rfl, fun i a0 e => by simp at e, by simp [tot]⟩
      | succ k ihk =>
        intro hk
        obtain ⟨l, l1, l2, l3⟩ := ihk (by omega)
        have h1 := hE k (by omega)
        have hke : k < elems.length := by omega
        rw [List.getElem?_eq_getElem hke] at h1
        obtain ⟨cs', g1, g2⟩ := Option.bind_eq_some_iff.1 h1
        obtain ⟨a0, k1, k2⟩ := ih m (by omega) cs' _ g2
        refine ⟨l ++ [a0], by simp [l1], fun i b0 e => ?_, ?_⟩
        · rw [List.getElem?_append] at e
          split at e
          · exact l2 i b0 e
          · rename_i hi
            have hik : i = k := by
              have := (List.getElem?_eq_some_iff.1 e).1
              simp at this; omega
            subst hik
            simp [l1] at e
            subst e
            exact ⟨cs', by rw [← hs]; exact g1, k1⟩
        · rw [List.take_add_one, List.getElem?_eq_getElem hke]
          simp only [Option.toList_some, List.map_append, List.map_cons, List.map_nil, bulkAll_append, tot_append]
          simp only [tot, Rows.uptoBulkAll]
          omega
    obtain ⟨l, l1, l2, l3⟩ := build len (Nat.le_refl _)
    rw [List.take_of_length_le (by omega)] at l3
    refine ⟨l, ?_, by simp only [Rows.uptoBulk]; omega⟩
    have hcell : ∀ (i : Nat) (a0 : α) (j : Nat) (c : AVal), l[i]? = some a0 → (en a0).cells[j]? = some c → ∃ v, W.cell? (a.add (i * s + j)) = some v ∧ flat c = true ∧ CAbs W c v := fun i a0 j c h1 h2 => by
      obtain ⟨cs', g1, g2⟩ := l2 i a0 h1
      obtain ⟨_, g3, g4⟩ := World.cells?_some g1
      have hj : j < s := by rw [← hfl a0]; exact (List.getElem?_eq_some_iff.1 h2).1
      have hjc : j < cs'.length := by omega
      have h5 := g4 j hj
      rw [Addr.add_add, List.getElem?_eq_getElem hjc] at h5
      have h6 := g2.abs j c _ h2 (List.getElem?_eq_getElem hjc)
      exact ⟨_, h5, h6.1, h6.2⟩
    obtain ⟨b, o, spt⟩ := a
    have hspot : l.map en ≠ [] → spt = none := fun hne => by
      cases l with
      | nil => exact absurd rfl hne
      | cons a0 l =>
        have h0 : 0 < (en a0).cells.length := by rw [hfl]; exact hs0
        obtain ⟨v, h1, _⟩ := hcell 0 a0 0 _ rfl (List.getElem?_eq_getElem h0)
        have := World.cell?_spot h1
        simpa [Addr.add] using this
    refine .one rfl (.slice (l.map en) b o len cap s spt (fun i j => (W.cell? ⟨b, o + i * s + j, none⟩).getD undef) (by simp [l1]) hlc hspot (fun i x e => ?_) (fun i x j c e hj => ?_) (fun i x j c e hj => ?_))
    all_goals
      rw [List.getElem?_map, Option.map_eq_some_iff] at e
      obtain ⟨a0, e1, rfl⟩ := e
    · exact hfl a0
    · obtain ⟨v, h1, h2, _⟩ := hcell i a0 j c e1 hj
      have hsp := hspot (fun h => by have := List.map_eq_nil_iff.1 h; subst this; simp at e1)
      subst hsp
      rw [Go.WideShapes.add_plain, ← Nat.add_assoc] at h1
      exact ⟨h2, by rw [h1]; rfl⟩
    · obtain ⟨v, h1, _, h3⟩ := hcell i a0 j c e1 hj
      have hsp := hspot (fun h => by have := List.map_eq_nil_iff.1 h; subst this; simp at e1)
      subst hsp
      rw [Go.WideShapes.add_plain, ← Nat.add_assoc] at h1
      rw [h1]; exact h3
theorem take_split {α : Type} (cs : List α) (a b : Nat) (h : cs.length = a + b) : cs = (cs.drop 0).take a ++ (cs.drop a).take b := by
  rw [List.drop_zero, List.take_of_length_le (l := cs.drop a) (by simp; omega), List.take_append_drop]
theorem take_split3 {α : Type} (cs : List α) (a b c : Nat) (h : cs.length = a + b + c) : cs = (cs.drop 0).take a ++ ((cs.drop a).take b ++ (cs.drop (a + b)).take c) := by
  rw [List.drop_zero, List.take_of_length_le (l := cs.drop (a + b)) (by simp; omega)]
  have : (cs.drop a).take b ++ cs.drop (a + b) = cs.drop a := by rw [← List.drop_drop, List.take_append_drop]
  rw [this, List.take_append_drop]
theorem tot_va : ∀ l : List VaD, tot VaD.size l = VaD.sizes l
  | [] => rfl
  | t :: l => by simp only [tot, VaD.sizes, tot_va l]
theorem k27 : Tryz.prog.cellsOf 27 = 3 := by kernel_rfl
theorem k9 : Tryz.prog.cellsOf 9 = 1 := by kernel_rfl
theorem k3 : Tryz.prog.cellsOf 3 = 1 := by kernel_rfl
theorem k25 : Tryz.prog.cellsOf 25 = 1 := by kernel_rfl
theorem rdVa : ∀ (n : Nat) (cs : List Value) (x : DataW H × List MemPlace), rd enc W sp hd n 27 cs = some x → ∃ p : VaD, Rd W p.enc.cells cs ∧ p.size + 1 ≤ Rows.uptoBulk x.1 := by
  intro n
  induction n using Nat.strongRecOn with
  | ind n ih =>
    intro cs x h
    obtain ⟨xs, m, rfl, rfl, hl, hlen, hf⟩ := DataW.trod_struct Tryz.underlying27 h
    match xs, hlen with
    | [y0, y1, y2], _ =>
      have h0 : rd enc W sp hd m 9 ((cs.drop 0).take (Tryz.prog.cellsOf 9)) = some y0 := hf 0 _ rfl
      rw [k9] at h0
      have h1 : rd enc W sp hd m 3 ((cs.drop 1).take (Tryz.prog.cellsOf 3)) = some y1 := hf 1 _ rfl
      rw [k3] at h1
      have h2 : rd enc W sp hd m 25 ((cs.drop 2).take (Tryz.prog.cellsOf 25)) = some y2 := hf 2 _ rfl
      rw [k25] at h2
      obtain ⟨s, r0, b0⟩ := rdStr Tryz.underlying9 h0
      obtain ⟨z, _, _, r1, b1⟩ := rdInt Tryz.underlying3 h1
      obtain ⟨l, r2, b2⟩ := rdSlice VaD.enc VaD.size Tryz.underlying25 k27 (by omega) (fun a => by rw [a.enc_eq]; rfl) (fun m' hm => ih m' (by omega)) h2
      rw [k27] at hl
      rw [tot_va] at b2
      refine ⟨.mk s z l, ?_, ?_⟩
      · have := r0.append (r1.append r2)
        rw [← take_split3 cs 1 1 1 hl] at this
        rw [VaD.enc_mk]; exact this
      · simp only [VaD.size, List.map_cons, List.map_nil, Rows.uptoBulk, Rows.uptoBulkAll]; omega
theorem rdVas (n : Nat) (cs : List Value) (x : DataW H × List MemPlace) (h : rd enc W sp hd n 25 cs = some x) : ∃ l : List VaD, Rd W [.slice (l.map VaD.enc)] cs ∧ VaD.sizes l + 1 ≤ Rows.uptoBulk x.1 := by
  obtain ⟨l, r, b⟩ := rdSlice VaD.enc VaD.size Tryz.underlying25 k27 (by omega) (fun a => by rw [a.enc_eq]; rfl) (fun m' _ => rdVa m') h
  rw [tot_va] at b
  exact ⟨l, r, b⟩
end
end Go.Proofs.YtdkkaldimefljaaGreatDoor
end
section
namespace Go.Proofs.YtdkkaldimefljaaGreatDoor
open Go.Proofs.YtdkkaldimefljaaGreatDoor Go.AM Go.RowKit
theorem laid_at {P : Program} {W : World} : ∀ {l : List (String × DataW Unit)} {ps : List MemPlace}, DataW.LaidVars P W l ps → ∀ (i : Nat) (n : String) (d : DataW Unit), l[i]? = some (n, d) →
    ∃ g t cs fuel p, P.globalNamed n = some g ∧ (P.globals[g]?).map (·.type) = some t ∧ W.var? P n = some cs ∧ DataW.trod (fun _ => ()) P W 0 (fun _ => true) false fuel t cs.toList = some (d, p)
  | (m, e) :: r, ps, h, i, n, d, hi => by
    obtain ⟨g, t, cs, fuel, p, q, h1, h2, h3, h4, h5, _⟩ := h
    cases i with
    | zero => simp at hi; obtain ⟨rfl, rfl⟩ := hi; exact ⟨g, t, cs, fuel, p, h1, h2, h3, h4⟩
    | succ i => exact laid_at h5 i n d (by simpa using hi)
theorem gTab : Tryz.prog.globalNamed "math/bits.deBruijn64tab" = some 7 := by kernel_rfl
theorem size8 {W : World} (hl : laidMet Tryz.prog Rows.preludeListsRow.laid W) : 8 ≤ W.heap.size := by
  obtain ⟨ps, h, _⟩ := hl
  obtain ⟨g, t, cs, fuel, p, h1, h2, h3, h4⟩ := laid_at h 1 "math/bits.deBruijn64tab" _ rfl
  obtain rfl := Option.some.inj (gTab.symm.trans h1)
  simp only [World.var?, h1, Option.bind_some] at h3
  split at h3
  · rename_i hh
    have := (Array.getElem?_eq_some_iff.1 hh).1
    omega
  · cases h3
theorem wsat {W : World} (h : 8 ≤ W.heap.size) : WSat (Psi W) W := ⟨h, fun b o c ⟨h1, v, h2, h3⟩ => ⟨h1, v, h2, h3.rel⟩⟩
theorem Rd.vrel {W : World} {xs : List AVal} {vs : List Value} (h : Rd W xs vs) : VRel (Psi W) [] (.agg xs) (.agg ⟨vs⟩) :=
  .agg xs vs h.len (fun i c hc => by
    have hi : i < vs.length := by rw [← h.len]; exact (List.getElem?_eq_some_iff.1 hc).1
    exact flat_isCell (h.abs i c _ hc (List.getElem?_eq_getElem hi)).1) (fun i c v h1 h2 => (h.abs i c v h1 h2).2.rel)
theorem below_of_fr {W w' : World} {Ψ Ψ' : HT} {ow' : Own} (h : Fr W Ψ (fun _ => none) w' Ψ' ow') : Below W.heap.size W w' := ⟨h.os, h.tape, h.output, h.size, fun k hk => (h.keep k hk rfl).1⟩
end Go.Proofs.YtdkkaldimefljaaGreatDoor
end
section
namespace Go.Proofs.YtdkkaldimefljaaGreatDoor
open Go.Proofs.YtdkkaldimefljaaGreatDoor Go.AM Go.RowKit Go.Lib
theorem ownK : ownKnob Tryz.prog.godebug = none := by kernel_rfl
theorem laidOut : laidOutB Tryz.prog = true := by kernel_rfl
def flatV : Nat → DataW Unit → List Value
  | 0, _ => []
  | _ + 1, .lit (.int k z) => [.int k z]
  | n + 1, .agg l => l.flatMap (flatV n)
  | _, _ => []
noncomputable def N0 : Nat := (World.settled Tryz.prog default).heap.size
noncomputable def laidWorld (os : Os) : World :=
  let N := (World.settled Tryz.prog os).heap.size
  let w0 := World.holding Tryz.prog os ⟨#[.cells #[.string ⟨#[118, 97, 108, 117, 101, 32, 111, 117, 116, 32, 111, 102, 32, 114, 97, 110, 103, 101]⟩] 384, .cells #[.string ⟨#[105, 110, 118, 97, 108, 105, 100, 32, 115, 121, 110, 116, 97, 120]⟩] 384], #[], []⟩
  let put (h : Array Obj) (g : Nat) (cs : Array Value) : Array Obj := h.modify g fun
    | .cells _ t frozen => .cells cs t frozen
    | o => o
  let h1 := put w0.heap 1 #[.iface 382 (.pointer (some ⟨N + 1, 0, none⟩))]
  let h2 := put h1 2 #[.iface 382 (.pointer (some ⟨N, 0, none⟩))]
  let h3 := put h2 3 (flatV 3 Rows.laid_unicode_utf8_first).toArray
  let h4 := put h3 4 (flatV 3 (Rows.laid_unicode_utf8_acceptRanges (H := Unit))).toArray
  let h5 := put h4 5 (flatV 3 (Rows.laid_internal_strconv_uint64pow10 (H := Unit))).toArray
  let h6 := put h5 6 (flatV 3 (Rows.laid_math_bits_deBruijn32tab (H := Unit))).toArray
  let h7 := put h6 7 (flatV 3 (Rows.laid_math_bits_deBruijn64tab (H := Unit))).toArray
  { w0 with heap := h7 }
theorem laid_met (os : Os) (args : Array Value) : laidMet Tryz.prog Rows.preludeListsRow.laid ((laidWorld os).forCall (fun _ _ => 0) ⟨#[], args, []⟩).memory :=
  (LaidIn.of_run [1, 2, 3, 4, 5, 6, 7, N0, N0 + 1] 8 (by kernel_rfl) (by kernel_rfl) (by kernel_rfl) (by kernel_rfl)).met
end Go.Proofs.YtdkkaldimefljaaGreatDoor
end
