import Derived.Test.YtdkkaldimefljaaGreatDoorX29
import Derived.Test.YtdkkaldimefljaaGreatDoorX25
import Derived.Test.YtdkkaldimefljaaGreatDoorX30
import Derived.Test.YtdkkaldimefljaaGreatDoorX00
import Derived.Test.YtdkkaldimefljaaGreatDoorX12
import Derived.Test.YtdkkaldimefljaaGreatDoorProg
import Derived.KernelRfl
set_option linter.all false
noncomputable section
namespace Go.CM
set_option maxRecDepth 1000000 in
theorem ext26 : extCk Go.Proofs.Tryz.prog = true := by kernel_rfl
theorem body26_ok : ∃ rs, compF Go.Proofs.Tryz.prog 6 = .mk body26 rs := by
  have h1 := mk26
  unfold body26
  cases h : compF Go.Proofs.Tryz.prog 6 with
  | mk b rs => exact ⟨rs, rfl⟩
  | none => rw [h] at h1; cases h1
  | ext n => rw [h] at h1; cases h1
theorem sane26_ok (w : World) (hw : 8 ≤ w.heap.size) (c : Frame) (cs : List Frame) :
    ∃ w' : World, Steps Go.Proofs.Tryz.prog (lone (Frame.enter Go.Proofs.Tryz.prog 6 #[] .normal) (c :: cs) w) (lone (c.finish (.bool true)) cs w') ∧ w.heap.size ≤ w'.heap.size ∧ (∀ b, b < w.heap.size → w'.heap[b]? = w.heap[b]?) ∧ w'.os = w.os ∧ w'.tape = w.tape ∧ w'.output = w.output := by
  obtain ⟨rs, hc⟩ := body26_ok
  have hfe : fe26 (qn 6) = .mk body26 rs := by simp only [fe26, mkT, qn_nat]; exact hc
  obtain ⟨m, hm⟩ := runF_ok (n := 999) hfe sane26_run
  obtain ⟨w', ρ', u, h1, h2, h3⟩ := run_call (fe := fe26) follows26 (mkT_ok _) (ext_ok ext26) hc (by rw [globals26]; exact hm) w (by rw [globals26]; exact hw) c cs
  rw [h2.inv_bool] at h1
  exact ⟨w', h1, h3⟩
end Go.CM
end
section
namespace Go.Proofs.YtdkkaldimefljaaGreatDoor
open Go.AM
def annDef : Ann := { nt := 0, keep := [], loc := [], take := [], pure := [], heads := [], ownRes := false, ownArg := [] }
def annTab : List Ann := [
  annDef,
  annDef,
  annDef,
  annDef,
  annDef,
   { nt := 61, keep := [0, 1, 3, 4, 5, 6, 7, 8, 9, 10, 11, 12, 43], loc := [3, 6], take := [], pure := [], heads := [], ownRes := false, ownArg := [] },
   { nt := 120, keep := [0, 1, 2, 3, 4, 5, 7, 9, 10, 12, 13, 14, 15, 16, 17, 82], loc := [2, 4, 6, 8, 10, 13, 15], take := [], pure := [], heads := [], ownRes := false, ownArg := [], prim := true },
  annDef,
   { nt := 6, keep := [0, 2], loc := [2], take := [], pure := [], heads := [], ownRes := false, ownArg := [] },
  annDef,
  annDef,
  annDef,
   { nt := 46, keep := [0, 1, 2, 3, 4, 5, 26, 31, 45], loc := [2, 3], take := [], pure := [], heads := [(4, [(2, none), (3, none), (5, none)])], ownRes := false, ownArg := [] },
  annDef,
   { nt := 49, keep := [0, 1, 2, 3, 4, 18, 21, 47], loc := [1], take := [(5, 0)], pure := [(5, 5)], heads := [(2, [(1, none), (4, none)])], ownRes := false, ownArg := [] },
   { nt := 48, keep := [0, 1, 2, 3, 4, 18, 21, 46], loc := [1], take := [(5, 0)], pure := [], heads := [(2, [(1, none), (4, none)])], ownRes := false, ownArg := [] },
   { nt := 27, keep := [0, 1, 4, 5, 10, 14, 26], loc := [], take := [], pure := [], heads := [(4, [(0, none), (1, none), (5, none)])], ownRes := false, ownArg := [] },
   { nt := 21, keep := [0, 2, 3, 4, 10], loc := [2, 3], take := [], pure := [], heads := [(3, [(0, none), (2, none), (3, none), (4, none)])], ownRes := false, ownArg := [] },
  annDef,
  annDef,
  annDef,
  annDef,
   { nt := 27, keep := [0, 1, 2, 3, 5, 12, 13, 14, 15], loc := [1, 2, 3, 5], take := [(5, 1)], pure := [], heads := [(3, [(2, none), (3, none), (12, none), (13, none), (14, none)])], ownRes := false, ownArg := [] },
   { nt := 16, keep := [0, 2, 3, 5, 8, 9, 10], loc := [2, 5], take := [], pure := [], heads := [], ownRes := false, ownArg := [] },
  annDef,
  annDef,
  annDef,
  annDef,
  annDef,
  annDef,
  annDef,
  annDef,
  annDef,
  annDef,
  annDef,
  annDef,
  annDef,
  annDef,
   { nt := 8, keep := [0, 1, 4], loc := [4], take := [], pure := [], heads := [], ownRes := false, ownArg := [] },
   { nt := 4, keep := [0, 1, 2], loc := [], take := [], pure := [], heads := [], ownRes := false, ownArg := [] },
  annDef,
  annDef,
  annDef,
  annDef,
  annDef,
  annDef,
  annDef,
  annDef,
  annDef,
  annDef,
  annDef,
  annDef,
  annDef,
  annDef,
  annDef,
  annDef,
  annDef,
  annDef,
  annDef,
  annDef,
  annDef,
  annDef,
  annDef,
  annDef,
  annDef,
  annDef,
  annDef,
  annDef,
  annDef,
  annDef,
  annDef,
  annDef,
  annDef,
  annDef,
  annDef,
  annDef,
  annDef,
  annDef,
  annDef,
  annDef,
  annDef,
  annDef,
  annDef,
  annDef,
  annDef,
  annDef,
  annDef,
  annDef,
  annDef,
  annDef,
  annDef,
  annDef,
  annDef,
  annDef,
  annDef,
  annDef,
  annDef,
  annDef,
  annDef,
  annDef,
  annDef,
  annDef,
  annDef,
  annDef,
  annDef,
  annDef,
  annDef,
  annDef,
   { nt := 19, keep := [0, 1, 3, 8, 18], loc := [], take := [], pure := [], heads := [(1, [(0, none), (1, none), (3, none)])], ownRes := false, ownArg := [] }]
def ans (f : FuncId) : Ann := annTab.getD f annDef
end Go.Proofs.YtdkkaldimefljaaGreatDoor
end
noncomputable section
namespace Go.Proofs.YtdkkaldimefljaaGreatDoor
open Go.AM
def prims : Prims := fun f args =>
  bif Nat.beq f 6 then (match args with
    | [] => some (some (.ret (.val (.bool true))))
    | _ => some none)
  else none
noncomputable abbrev CF : Oracle := cfW Tryz.prog ans prims
noncomputable abbrev LP : LpOracle := lpW Tryz.prog ans prims
end Go.Proofs.YtdkkaldimefljaaGreatDoor
end
noncomputable section
namespace Go.Proofs.YtdkkaldimefljaaGreatDoor
open Go.AM
inductive VaD where
  | mk (con : List UInt8) (num : Int) (args : List VaD)
def VaD.con : VaD → List UInt8 | .mk c _ _ => c
def VaD.num : VaD → Int | .mk _ n _ => n
def VaD.args : VaD → List VaD | .mk _ _ al => al
mutual
def VaD.enc : VaD → AVal
  | .mk c n al => .agg [.str c, .int .i64 n, .slice (VaD.encs al)]
def VaD.encs : List VaD → List AVal
  | [] => []
  | t :: ts => t.enc :: VaD.encs ts
end
theorem VaD.encs_eq (l : List VaD) : VaD.encs l = l.map VaD.enc := by
  induction l with
  | nil => simp [VaD.encs]
  | cons t ts ih => simp [VaD.encs, ih]
theorem VaD.enc_mk (c : List UInt8) (n : Int) (al : List VaD) : (VaD.mk c n al).enc = .agg [.str c, .int .i64 n, .slice (al.map VaD.enc)] := by simp [VaD.enc, VaD.encs_eq]
theorem VaD.enc_eq (t : VaD) : t.enc = .agg [.str t.con, .int .i64 t.num, .slice (t.args.map VaD.enc)] := by cases t; exact VaD.enc_mk _ _ _
mutual
def VaD.size : VaD → Nat
  | .mk c _ al => c.length + 1 + VaD.sizes al
def VaD.sizes : List VaD → Nat
  | [] => 0
  | t :: ts => t.size + 1 + VaD.sizes ts
end
theorem VaD.sizes_len (l : List VaD) : l.length ≤ VaD.sizes l := by
  induction l with
  | nil => simp [VaD.sizes]
  | cons t ts ih => simp only [VaD.sizes, List.length_cons]; omega
theorem VaD.sizes_mem {t : VaD} : ∀ {l : List VaD}, t ∈ l → t.size < VaD.sizes l
  | x :: l, h => by
    simp only [VaD.sizes]
    rcases List.mem_cons.1 h with h | h
    · subst h; omega
    · have := VaD.sizes_mem h; omega
theorem VaD.args_len (t : VaD) : t.args.length < t.size := by
  cases t; simp only [VaD.args, VaD.size]; have := VaD.sizes_len ‹_›; omega
theorem VaD.args_size {t a : VaD} (h : a ∈ t.args) : a.size < t.size := by
  cases t; simp only [VaD.args] at h; simp only [VaD.size]; have := VaD.sizes_mem h; omega
theorem VaD.ind {p : VaD → Prop} (h : ∀ t, (∀ a ∈ t.args, p a) → p t) : ∀ t, p t := by
  have : ∀ n t, t.size < n → p t := by
    intro n
    induction n with
    | zero => intro t ht; omega
    | succ n ih => intro t ht; exact h t fun a ha => ih a (by have := VaD.args_size ha; omega)
  exact fun t => this (t.size + 1) t (by omega)
abbrev big : Nat := 4294967296
theorem getI {α : Type} (enc : α → AVal) (pre ys : List α) (y : α) : ((pre ++ y :: ys).map enc)[((pre.length : Nat) : Int).toNat]? = some (enc y) := by simp
theorem ltI {α : Type} (pre ys : List α) (y : α) : decide (((pre.length : Nat) : Int) < ((pre ++ y :: ys).length : Nat)) = true := by simp; omega
theorem geI {α : Type} (l : List α) : decide (((l.length : Nat) : Int) < (l.length : Nat)) = false := by simp
theorem zI (n : Nat) : decide (0 ≤ ((n : Nat) : Int)) = true := by simp
theorem wI (n : Nat) (h : n < big) : IntKind.i64.wrap (((n : Nat) : Int) + 1) = ((n + 1 : Nat) : Int) := by
  simp only [big] at h; rw [wrapOk (by omega) (by omega)]; rfl
theorem wL {α : Type} (pre ys : List α) (y : α) (h : (pre ++ y :: ys).length < big) : IntKind.i64.wrap (((pre.length : Nat) : Int) + 1) = ((pre ++ [y]).length : Nat) := by
  rw [wI _ (by simp at h ⊢; omega)]; simp
theorem roomI {α : Type} (l : List α) (h : l.length + 1 < big) : Nat.ble (l.length + 1) room = true := by
  apply Nat.ble_eq_true_of_le; simp only [room]; simp only [big] at h; omega
end Go.Proofs.YtdkkaldimefljaaGreatDoor
end
section
namespace Go.Proofs.YtdkkaldimefljaaGreatDoor
open Go.AM
theorem sz0 : szOf Tryz.prog 0 = some 1 := by kernel_rfl
theorem ag0 : aggOf Tryz.prog 0 = some false := by kernel_rfl
theorem by0 : bytesAt Tryz.prog 0 = 0 := by kernel_rfl
theorem sz3 : szOf Tryz.prog 3 = some 1 := by kernel_rfl
theorem ag3 : aggOf Tryz.prog 3 = some false := by kernel_rfl
theorem zo3 : zeroOf Tryz.prog 3 = some (AVal.int IntKind.i64 0) := by kernel_rfl
theorem zc3 : zeroCells Tryz.prog 3 = some [Cell.val (AVal.int IntKind.i64 0)] := by kernel_rfl
theorem by3 : bytesAt Tryz.prog 3 = 8 := by kernel_rfl
theorem sz4 : szOf Tryz.prog 4 = some 1 := by kernel_rfl
theorem ag4 : aggOf Tryz.prog 4 = some false := by kernel_rfl
theorem zo4 : zeroOf Tryz.prog 4 = some (AVal.bool false) := by kernel_rfl
theorem zc4 : zeroCells Tryz.prog 4 = some [Cell.val (AVal.bool false)] := by kernel_rfl
theorem by4 : bytesAt Tryz.prog 4 = 1 := by kernel_rfl
theorem sz9 : szOf Tryz.prog 9 = some 1 := by kernel_rfl
theorem ag9 : aggOf Tryz.prog 9 = some false := by kernel_rfl
theorem zo9 : zeroOf Tryz.prog 9 = some (AVal.str []) := by kernel_rfl
theorem zc9 : zeroCells Tryz.prog 9 = some [Cell.val (AVal.str [])] := by kernel_rfl
theorem by9 : bytesAt Tryz.prog 9 = 16 := by kernel_rfl
theorem sz25 : szOf Tryz.prog 25 = some 1 := by kernel_rfl
theorem ag25 : aggOf Tryz.prog 25 = some false := by kernel_rfl
theorem se25 : sliceElem Tryz.prog 25 = some 27 := by kernel_rfl
theorem zo25 : zeroOf Tryz.prog 25 = some (AVal.slice []) := by kernel_rfl
theorem zc25 : zeroCells Tryz.prog 25 = some [Cell.own 3 []] := by kernel_rfl
theorem by25 : bytesAt Tryz.prog 25 = 24 := by kernel_rfl
theorem sz27 : szOf Tryz.prog 27 = some 3 := by kernel_rfl
theorem ag27 : aggOf Tryz.prog 27 = some true := by kernel_rfl
theorem zo27 : zeroOf Tryz.prog 27 = some (AVal.agg [AVal.str [], AVal.int IntKind.i64 0, AVal.slice []]) := by kernel_rfl
theorem zc27 : zeroCells Tryz.prog 27 = some [Cell.val (AVal.str []), Cell.val (AVal.int IntKind.i64 0), Cell.own 3 []] := by kernel_rfl
theorem by27 : bytesAt Tryz.prog 27 = 48 := by kernel_rfl
theorem pl27 : (([{ name := "Con", type := 9, offset := 0, embedded := false, tag := "", pkgPath := "", byteOffset := 0 }, { name := "Num", type := 3, offset := 1, embedded := false, tag := "", pkgPath := "", byteOffset := 16 }, { name := "Args", type := 25, offset := 2, embedded := false, tag := "", pkgPath := "", byteOffset := 24 }] : List Field).mapM fun f => (Tryz.prog.info? f.type).map fun i => (f.offset, i.size)) = some [(0, 1), (1, 1), (2, 1)] := by kernel_rfl
theorem sz38 : szOf Tryz.prog 38 = some 1 := by kernel_rfl
theorem ag38 : aggOf Tryz.prog 38 = some false := by kernel_rfl
theorem by38 : bytesAt Tryz.prog 38 = 0 := by kernel_rfl
theorem sz87 : szOf Tryz.prog 87 = some 1 := by kernel_rfl
theorem ag87 : aggOf Tryz.prog 87 = some false := by kernel_rfl
theorem zo87 : zeroOf Tryz.prog 87 = some AVal.nilfunc := by kernel_rfl
theorem zc87 : zeroCells Tryz.prog 87 = some [Cell.val AVal.nilfunc] := by kernel_rfl
theorem by87 : bytesAt Tryz.prog 87 = 8 := by kernel_rfl
theorem sz154 : szOf Tryz.prog 154 = some 1 := by kernel_rfl
theorem ag154 : aggOf Tryz.prog 154 = some false := by kernel_rfl
theorem zo154 : zeroOf Tryz.prog 154 = some AVal.nilfunc := by kernel_rfl
theorem zc154 : zeroCells Tryz.prog 154 = some [Cell.val AVal.nilfunc] := by kernel_rfl
theorem by154 : bytesAt Tryz.prog 154 = 8 := by kernel_rfl
theorem fd27_0 : fieldAt? Tryz.prog 27 0 = some (0, 9) := by kernel_rfl
theorem fd27_1 : fieldAt? Tryz.prog 27 1 = some (1, 3) := by kernel_rfl
theorem fd27_2 : fieldAt? Tryz.prog 27 2 = some (2, 25) := by kernel_rfl
end Go.Proofs.YtdkkaldimefljaaGreatDoor
end
section
namespace Go.Proofs.YtdkkaldimefljaaGreatDoor
open Go.AM
theorem an5 : ans 5 = { nt := 61, keep := [0, 1, 3, 4, 5, 6, 7, 8, 9, 10, 11, 12, 43], loc := [3, 6], take := [], pure := [], heads := [], ownRes := false, ownArg := [] } := by kernel_rfl
theorem an6 : ans 6 = { nt := 120, keep := [0, 1, 2, 3, 4, 5, 7, 9, 10, 12, 13, 14, 15, 16, 17, 82], loc := [2, 4, 6, 8, 10, 13, 15], take := [], pure := [], heads := [], ownRes := false, ownArg := [], prim := true } := by kernel_rfl
theorem an8 : ans 8 = { nt := 6, keep := [0, 2], loc := [2], take := [], pure := [], heads := [], ownRes := false, ownArg := [] } := by kernel_rfl
theorem an12 : ans 12 = { nt := 46, keep := [0, 1, 2, 3, 4, 5, 26, 31, 45], loc := [2, 3], take := [], pure := [], heads := [(4, [(2, none), (3, none), (5, none)])], ownRes := false, ownArg := [] } := by kernel_rfl
theorem an14 : ans 14 = { nt := 49, keep := [0, 1, 2, 3, 4, 18, 21, 47], loc := [1], take := [(5, 0)], pure := [(5, 5)], heads := [(2, [(1, none), (4, none)])], ownRes := false, ownArg := [] } := by kernel_rfl
theorem an15 : ans 15 = { nt := 48, keep := [0, 1, 2, 3, 4, 18, 21, 46], loc := [1], take := [(5, 0)], pure := [], heads := [(2, [(1, none), (4, none)])], ownRes := false, ownArg := [] } := by kernel_rfl
theorem an16 : ans 16 = { nt := 27, keep := [0, 1, 4, 5, 10, 14, 26], loc := [], take := [], pure := [], heads := [(4, [(0, none), (1, none), (5, none)])], ownRes := false, ownArg := [] } := by kernel_rfl
theorem an17 : ans 17 = { nt := 21, keep := [0, 2, 3, 4, 10], loc := [2, 3], take := [], pure := [], heads := [(3, [(0, none), (2, none), (3, none), (4, none)])], ownRes := false, ownArg := [] } := by kernel_rfl
theorem an22 : ans 22 = { nt := 27, keep := [0, 1, 2, 3, 5, 12, 13, 14, 15], loc := [1, 2, 3, 5], take := [(5, 1)], pure := [], heads := [(3, [(2, none), (3, none), (12, none), (13, none), (14, none)])], ownRes := false, ownArg := [] } := by kernel_rfl
theorem an23 : ans 23 = { nt := 16, keep := [0, 2, 3, 5, 8, 9, 10], loc := [2, 5], take := [], pure := [], heads := [], ownRes := false, ownArg := [] } := by kernel_rfl
theorem an38 : ans 38 = { nt := 8, keep := [0, 1, 4], loc := [4], take := [], pure := [], heads := [], ownRes := false, ownArg := [] } := by kernel_rfl
theorem an39 : ans 39 = { nt := 4, keep := [0, 1, 2], loc := [], take := [], pure := [], heads := [], ownRes := false, ownArg := [] } := by kernel_rfl
theorem an108 : ans 108 = { nt := 19, keep := [0, 1, 3, 8, 18], loc := [], take := [], pure := [], heads := [(1, [(0, none), (1, none), (3, none)])], ownRes := false, ownArg := [] } := by kernel_rfl
end Go.Proofs.YtdkkaldimefljaaGreatDoor
end
section
namespace Go.Proofs.YtdkkaldimefljaaGreatDoor
open Go.AM
attribute [local go_sem] opsK oneK guardK stepK callK argsA capsA elemsA mvK mv asV asSl AM.asInt AM.asBool asPlace asBox asObj asMap cellsOfPlace writePlace asCells boxCells optInt sliceCut drawnPlace opS RS.look RS.put RS.putO alook tlook commit persist constS constT absV absC dstOk noRefTo guardB abin abinT isNilSlice isNilIface nilTest Nat.beq Nat.ble Nat.blt cond_true cond_false Bool.and_true Bool.true_and Bool.and_self Bool.not_true Bool.not_false Bool.or_true Bool.or_false Bool.false_or Bool.true_or Bool.and_false Bool.false_and List.all_nil List.all_cons List.contains List.elem Option.bind_some Option.map_some Option.getD_some cAgg cInt cBool cStr cSlice cFunc cNilf cNilp cNilm cLoc cMap cYld List.take_succ_cons List.take_zero List.drop_zero List.drop_succ_cons Nat.zero_add Cell.get Cell.lok AM.lok lokF noRefS partOf List.map_nil List.map_cons List.length_cons List.length_nil List.getElem?_cons_zero List.getElem?_cons_succ List.nil_append List.cons_append List.append_nil List.getElem?_toArray List.toList_toArray Option.bind_none Option.map_none objs1 objs2 objs3 objs32 oset1 setCells List.take_append_drop List.drop_nil List.take_nil an12 an38 sz0 ag0 by0 Tryz.underlying0 sz3 ag3 zo3 zc3 by3 Tryz.underlying3 sz4 ag4 zo4 zc4 by4 Tryz.underlying4 sz9 ag9 zo9 zc9 by9 Tryz.underlying9 sz25 ag25 se25 zo25 zc25 by25 Tryz.underlying25 sz27 ag27 zo27 zc27 by27 Tryz.underlying27 pl27 fd27_0 fd27_1 fd27_2
set_option maxRecDepth 100000
set_option maxHeartbeats 4000000
theorem c38 (s:List UInt8) (l:List VaD) (sto:Sto):CF (.fn 38) [.val (.str s),.val (.slice (l.map VaD.enc))] sto=some (.ret (.val (VaD.mk s 0 l).enc),sto):=by
 rw[VaD.enc_mk]
 apply tA
 ·rfl
 ·rfl
 ·exact Tryz.func38
 ·rfl
 ·rfl
 ·simp only[go_sem,Nat.reduceAdd,reduceIte];rfl
 refine tQ ?_
 repeat first|with_reducible constructor|with_reducible refine tW rfl ?_|((with_reducible apply tG);(focus kernel_rfl);(focus (intro _ _;(repeat (apply tOp;(focus (intro _;simp only[go_sem,Nat.reduceAdd,reduceIte];rfl))));rfl));(focus (simp only[go_sem,Nat.reduceAdd,reduceIte];rfl)))
 exact fin0 rfl
theorem loop12 (s:List UInt8) (n:Int) (sto:Sto) (ys:List VaD):∀ (pre:List VaD),(pre++ys).length < big→(∀ y∈ys,CF (.fn 12) [.val y.enc,.val y.enc] sto=some (.ret (.val (.bool true)),sto)) →
  ∃ s0 s1 s2 s3 s4 s5 s26 s31 s45,LP 12 (loopOf Tryz.f12 0) ⟨[.dead,.dead,.box [.val (.str s),.val (.int .i64 n),.val (.slice ((pre++ys).map VaD.enc))],.box [.val (.str s),.val (.int .i64 n),.val (.slice ((pre++ys).map VaD.enc))],.dead,.val (.int .i64 (pre.length:Nat)),.dead,.dead,.dead],sto⟩=some (.exit 0,⟨[s0,s1,s2,s3,s4,s5,s26,s31,s45],sto⟩):=by
 induction ys with
 |nil =>
  intro pre h3 h2
  have hlt:=geI pre
  simp only[List.append_nil]
  apply Exists.intro;apply Exists.intro;apply Exists.intro;apply Exists.intro;apply Exists.intro;apply Exists.intro;apply Exists.intro;apply Exists.intro;apply Exists.intro
  refine tI rfl ?_
  refine tQ ?_
  repeat first|with_reducible constructor|with_reducible refine tW rfl ?_|((with_reducible apply tG);(focus kernel_rfl);(focus (intro _ _;(repeat (apply tOp;(focus (intro _;simp only[List.length_map,go_sem,Nat.reduceAdd,reduceIte];rfl))));rfl));(focus (simp only[go_sem,Nat.reduceAdd,reduceIte];rfl)))
  with_reducible apply tF
  ·simp only[go_sem,Nat.reduceAdd,reduceIte];rfl
  ·exact hlt
  refine tQ ?_
  repeat first|with_reducible constructor|with_reducible refine tW rfl ?_
  exact tlX
  all_goals exact .dead
 |cons y ys ih =>
  intro pre h3 h2
  have hget:=getI VaD.enc pre ys y
  have hlt:=ltI pre ys y
  have h0:=zI pre.length
  have hw:=wL pre ys y h3
  have hc:=h2 y (by simp)
  rw[y.enc_eq] at hget hc
  obtain ⟨s0,s1,s2,s3,s4,s5,s26,s31,s45,ih⟩:=ih (pre++[y]) (by simpa using h3) (fun x hx=>h2 x (by simp [hx]))
  simp only[List.append_assoc,List.singleton_append] at ih
  refine ⟨s0,s1,s2,s3,s4,s5,s26,s31,s45,?_⟩
  refine tI rfl ?_
  refine tQ ?_
  repeat first|with_reducible constructor|with_reducible refine tW rfl ?_|((with_reducible apply tG);(focus kernel_rfl);(focus (intro _ _;(repeat (apply tOp;(focus (intro _;simp only[List.length_map,go_sem,Nat.reduceAdd,reduceIte];rfl))));rfl));(focus (simp only[go_sem,Nat.reduceAdd,reduceIte];rfl)))
  with_reducible apply tT
  ·simp only[go_sem,Nat.reduceAdd,reduceIte];rfl
  ·exact hlt
  refine tQ ?_
  repeat first|with_reducible constructor|with_reducible refine tW rfl ?_|((with_reducible apply tG);(focus kernel_rfl);(focus (intro _ _;(repeat (apply tOp;(focus (intro _;simp only[hget,h0,hc,List.length_map,go_sem,Nat.reduceAdd,reduceIte];rfl))));rfl));(focus (simp only[go_sem,Nat.reduceAdd,reduceIte];rfl)))
  with_reducible apply tF
  ·simp only[go_sem,Nat.reduceAdd,reduceIte];rfl
  ·rfl
  refine tQ ?_
  repeat first|with_reducible constructor|with_reducible refine tW rfl ?_|((with_reducible apply tG);(focus kernel_rfl);(focus (intro _ _;(repeat (apply tOp;(focus (intro _;simp only[hw,go_sem,Nat.reduceAdd,reduceIte];rfl))));rfl));(focus (simp only[go_sem,Nat.reduceAdd,reduceIte];rfl)))
  exact ih
theorem c12:∀ (v:VaD) (sto:Sto),v.size < big→sto.lo≤sto.objs.length→CF (.fn 12) [.val v.enc,.val v.enc] sto=some (.ret (.val (.bool true)),sto):=by
 intro v
 induction v using VaD.ind with
 |h v ih =>
  intro sto hs hlo
  obtain ⟨s0,s1,s2,s3,s4,s5,s26,s31,s45,hl⟩:=loop12 v.con v.num sto v.args [] (by have:=v.args_len;simp only[List.nil_append,big] at hs ⊢;omega) (fun y hy=>ih y hy sto (by have:=VaD.args_size hy;omega) hlo)
  simp only[List.nil_append,List.length_nil] at hl
  rw[v.enc_eq]
  apply tA
  ·rfl
  ·rfl
  ·exact Tryz.func12
  ·rfl
  ·rfl
  ·simp only[go_sem,Nat.reduceAdd,reduceIte];rfl
  refine tQ ?_
  repeat first|with_reducible constructor|with_reducible refine tW rfl ?_|((with_reducible apply tG);(focus kernel_rfl);(focus (intro _ _;(repeat (apply tOp;(focus (intro _;simp only[beq_self_eq_true,bne_self_eq_false,List.length_map,go_sem,Nat.reduceAdd,reduceIte];rfl))));rfl));(focus (simp only[go_sem,Nat.reduceAdd,reduceIte];rfl)))
  with_reducible apply tF
  ·simp only[go_sem,Nat.reduceAdd,reduceIte];rfl
  ·rfl
  refine tQ ?_
  repeat first|with_reducible constructor|with_reducible refine tW rfl ?_|((with_reducible apply tG);(focus kernel_rfl);(focus (intro _ _;(repeat (apply tOp;(focus (intro _;simp only[go_sem,Nat.reduceAdd,reduceIte];rfl))));rfl));(focus (simp only[go_sem,Nat.reduceAdd,reduceIte];rfl)))
  apply tL
  ·exact hl
  refine tQ ?_
  repeat first|with_reducible constructor|with_reducible refine tW rfl ?_|((with_reducible apply tG);(focus kernel_rfl);(focus (intro _ _;(repeat (apply tOp;(focus (intro _;simp only[go_sem,Nat.reduceAdd,reduceIte];rfl))));rfl));(focus (simp only[go_sem,Nat.reduceAdd,reduceIte];rfl)))
  exact fin0 rfl
end Go.Proofs.YtdkkaldimefljaaGreatDoor
end
section
namespace Go.Proofs.YtdkkaldimefljaaGreatDoor
open Go.AM
attribute [local go_sem] opsK oneK guardK stepK callK argsA capsA elemsA mvK mv asV asSl AM.asInt AM.asBool asPlace asBox asObj asMap cellsOfPlace writePlace asCells boxCells optInt sliceCut drawnPlace opS RS.look RS.put RS.putO alook tlook commit persist constS constT absV absC dstOk noRefTo guardB abin abinT isNilSlice isNilIface nilTest Nat.beq Nat.ble Nat.blt cond_true cond_false Bool.and_true Bool.true_and Bool.and_self Bool.not_true Bool.not_false Bool.or_true Bool.or_false Bool.false_or Bool.true_or Bool.and_false Bool.false_and List.all_nil List.all_cons List.contains List.elem Option.bind_some Option.map_some Option.getD_some cAgg cInt cBool cStr cSlice cFunc cNilf cNilp cNilm cLoc cMap cYld List.take_succ_cons List.take_zero List.drop_zero List.drop_succ_cons Nat.zero_add Cell.get Cell.lok AM.lok lokF noRefS partOf List.map_nil List.map_cons List.length_cons List.length_nil List.getElem?_cons_zero List.getElem?_cons_succ List.nil_append List.cons_append List.append_nil List.getElem?_toArray List.toList_toArray Option.bind_none Option.map_none objs1 objs2 objs3 objs32 oset1 setCells List.take_append_drop List.drop_nil List.take_nil an16 an17 sz0 ag0 by0 Tryz.underlying0 sz3 ag3 zo3 zc3 by3 Tryz.underlying3 sz4 ag4 zo4 zc4 by4 Tryz.underlying4 sz9 ag9 zo9 zc9 by9 Tryz.underlying9 sz25 ag25 se25 zo25 zc25 by25 Tryz.underlying25 sz27 ag27 zo27 zc27 by27 Tryz.underlying27 pl27
set_option maxRecDepth 100000
set_option maxHeartbeats 4000000
theorem loop16 (sto:Sto) (ys:List VaD):∀ (pre:List VaD),(pre++ys).length < big→(∀ y∈ys,CF (.fn 12) [.val y.enc,.val y.enc] sto=some (.ret (.val (.bool true)),sto)) →
  ∃ s0 s1 s4 s5 s10 s14 s26,LP 16 (loopOf Tryz.f16 0) ⟨[.val (.slice ((pre++ys).map VaD.enc)),.val (.slice ((pre++ys).map VaD.enc)),.dead,.val (.int .i64 (pre.length:Nat)),.dead,.dead,.dead],sto⟩=some (.exit 0,⟨[s0,s1,s4,s5,s10,s14,s26],sto⟩):=by
 induction ys with
 |nil =>
  intro pre h3 h2
  have hlt:=geI pre
  simp only[List.append_nil]
  apply Exists.intro;apply Exists.intro;apply Exists.intro;apply Exists.intro;apply Exists.intro;apply Exists.intro;apply Exists.intro
  refine tI rfl ?_
  refine tQ ?_
  repeat first|with_reducible constructor|with_reducible refine tW rfl ?_|((with_reducible apply tG);(focus kernel_rfl);(focus (intro _ _;(repeat (apply tOp;(focus (intro _;simp only[List.length_map,go_sem,Nat.reduceAdd,reduceIte];rfl))));rfl));(focus (simp only[go_sem,Nat.reduceAdd,reduceIte];rfl)))
  with_reducible apply tF
  ·simp only[go_sem,Nat.reduceAdd,reduceIte];rfl
  ·exact hlt
  refine tQ ?_
  repeat first|with_reducible constructor|with_reducible refine tW rfl ?_
  exact tlX
  all_goals exact .dead
 |cons y ys ih =>
  intro pre h3 h2
  have hget:=getI VaD.enc pre ys y
  have hlt:=ltI pre ys y
  have h0:=zI pre.length
  have hw:=wL pre ys y h3
  have hc:=h2 y (by simp)
  rw[y.enc_eq] at hget hc
  obtain ⟨s0,s1,s4,s5,s10,s14,s26,ih⟩:=ih (pre++[y]) (by simpa using h3) (fun x hx=>h2 x (by simp [hx]))
  simp only[List.append_assoc,List.singleton_append] at ih
  refine ⟨s0,s1,s4,s5,s10,s14,s26,?_⟩
  refine tI rfl ?_
  refine tQ ?_
  repeat first|with_reducible constructor|with_reducible refine tW rfl ?_|((with_reducible apply tG);(focus kernel_rfl);(focus (intro _ _;(repeat (apply tOp;(focus (intro _;simp only[List.length_map,go_sem,Nat.reduceAdd,reduceIte];rfl))));rfl));(focus (simp only[go_sem,Nat.reduceAdd,reduceIte];rfl)))
  with_reducible apply tT
  ·simp only[go_sem,Nat.reduceAdd,reduceIte];rfl
  ·exact hlt
  refine tQ ?_
  repeat first|with_reducible constructor|with_reducible refine tW rfl ?_|((with_reducible apply tG);(focus kernel_rfl);(focus (intro _ _;(repeat (apply tOp;(focus (intro _;simp only[hget,h0,hc,List.length_map,go_sem,Nat.reduceAdd,reduceIte];rfl))));rfl));(focus (simp only[go_sem,Nat.reduceAdd,reduceIte];rfl)))
  with_reducible apply tF
  ·simp only[go_sem,Nat.reduceAdd,reduceIte];rfl
  ·rfl
  refine tQ ?_
  repeat first|with_reducible constructor|with_reducible refine tW rfl ?_|((with_reducible apply tG);(focus kernel_rfl);(focus (intro _ _;(repeat (apply tOp;(focus (intro _;simp only[hw,go_sem,Nat.reduceAdd,reduceIte];rfl))));rfl));(focus (simp only[go_sem,Nat.reduceAdd,reduceIte];rfl)))
  exact ih
theorem c16 (l:List VaD) (sto:Sto) (hs:VaD.sizes l < big) (hlo:sto.lo≤sto.objs.length):CF (.fn 16) [.val (.slice (l.map VaD.enc)),.val (.slice (l.map VaD.enc))] sto=some (.ret (.val (.bool true)),sto):=by
 have hlen:=VaD.sizes_len l
 obtain ⟨s0,s1,s4,s5,s10,s14,s26,hl⟩:=loop16 sto l [] (by simp only[List.nil_append,big] at hs ⊢;omega) (fun y hy=>c12 y sto (by have:=VaD.sizes_mem hy;omega) hlo)
 simp only[List.nil_append,List.length_nil] at hl
 apply tA
 ·rfl
 ·rfl
 ·exact Tryz.func16
 ·rfl
 ·rfl
 ·simp only[go_sem,Nat.reduceAdd,reduceIte];rfl
 refine tQ ?_
 repeat first|with_reducible constructor|with_reducible refine tW rfl ?_|((with_reducible apply tG);(focus kernel_rfl);(focus (intro _ _;(repeat (apply tOp;(focus (intro _;simp only[beq_self_eq_true,bne_self_eq_false,List.length_map,go_sem,Nat.reduceAdd,reduceIte];rfl))));rfl));(focus (simp only[go_sem,Nat.reduceAdd,reduceIte];rfl)))
 with_reducible apply tF
 ·simp only[go_sem,Nat.reduceAdd,reduceIte];rfl
 ·rfl
 refine tQ ?_
 repeat first|with_reducible constructor|with_reducible refine tW rfl ?_|((with_reducible apply tG);(focus kernel_rfl);(focus (intro _ _;(repeat (apply tOp;(focus (intro _;simp only[go_sem,Nat.reduceAdd,reduceIte];rfl))));rfl));(focus (simp only[go_sem,Nat.reduceAdd,reduceIte];rfl)))
 apply tL
 ·exact hl
 refine tQ ?_
 repeat first|with_reducible constructor|with_reducible refine tW rfl ?_|((with_reducible apply tG);(focus kernel_rfl);(focus (intro _ _;(repeat (apply tOp;(focus (intro _;simp only[go_sem,Nat.reduceAdd,reduceIte];rfl))));rfl));(focus (simp only[go_sem,Nat.reduceAdd,reduceIte];rfl)))
 exact fin0 rfl
def nilS:List UInt8:=[78,105,108]
def consS:List UInt8:=[67,111,110,115]
def listD:List VaD→VaD
 |[]=>.mk nilS 0 []
 |v::l=>.mk consS 0 [v,listD l]
def CellS (c:Cell) (ar:List AVal):Prop:=c=.val (.slice ar)∨(c=.own 3 []∧ar=[])
theorem loop17 (sto:Sto):∀ (m:Nat) (xs ys:List VaD) (i:Int) (s:List UInt8) (n:Int) (c:Cell) (ar:List AVal),m < big→xs.length=m→i=(m:Int) - 1→CellS c ar→(listD ys).enc=.agg [.str s,.int .i64 n,.slice ar] →
  ∃ s0 s4 s10 s' n' c' ar',CellS c' ar'∧(listD (xs++ys)).enc=.agg [.str s',.int .i64 n',.slice ar'] ∧
   LP 17 (loopOf Tryz.f17 0) ⟨[.val (.slice ((xs++ys).map VaD.enc)),.box [.val (.str []),.val (.int .i64 0),.own 3 []],.box [.val (.str s),.val (.int .i64 n),c],.val (.int .i64 i),.dead],sto⟩ =
    some (.exit 0,⟨[s0,.box [.val (.str []),.val (.int .i64 0),.own 3 []],.box [.val (.str s'),.val (.int .i64 n'),c'],s4,s10],sto⟩):=by
 intro m
 induction m with
 |zero =>
  intro xs ys i s n c ar hm hx hi hc ho
  have:=List.eq_nil_of_length_eq_zero hx
  subst this
  subst hi
  have hlt:decide ((((0:Nat):Int) - 1)≥0)=false:=rfl
  apply Exists.intro;apply Exists.intro;apply Exists.intro
  refine ⟨s,n,c,ar,hc,ho,?_⟩
  refine tI rfl ?_
  refine tQ ?_
  repeat first|with_reducible constructor|with_reducible refine tW rfl ?_|((with_reducible apply tG);(focus kernel_rfl);(focus (intro _ _;(repeat (apply tOp;(focus (intro _;simp only[go_sem,Nat.reduceAdd,reduceIte];rfl))));rfl));(focus (simp only[go_sem,Nat.reduceAdd,reduceIte];rfl)))
  with_reducible apply tF
  ·simp only[go_sem,Nat.reduceAdd,reduceIte];rfl
  ·exact hlt
  refine tQ ?_
  repeat first|with_reducible constructor|with_reducible refine tW rfl ?_
  exact tlX
  all_goals exact .dead
 |succ m ih =>
  intro xs ys i s n c ar hm hx hi hc ho
  obtain ⟨xs',y,rfl⟩:∃ xs' y,xs=xs'++[y]:=⟨xs.dropLast,xs.getLast (fun e=>by subst e;simp at hx),(List.dropLast_concat_getLast _).symm⟩
  have hx':xs'.length=m:=by simpa using hx
  have hi':i=((m:Nat):Int):=by rw[hi];omega
  subst hi'
  have hge:decide (((m:Nat):Int)≥0)=true:=by simp
  have h0:=zI m
  have hget:((xs'++[y]++ys).map VaD.enc)[((m:Nat):Int).toNat]?=some y.enc:=by
   rw[List.append_assoc,List.singleton_append,←hx'];exact getI VaD.enc xs' ys y
  have hw:IntKind.i64.wrap (((m:Nat):Int) - 1)=((m:Nat):Int) - 1:=by rw[wrapOk (by omega) (by simp only[big] at hm;omega)]
  rw[y.enc_eq] at hget
  rcases hc with rfl|⟨rfl,rfl⟩
  ·
   have ho':(listD (y::ys)).enc=.agg [.str consS,.int .i64 0,.slice [.agg [.str y.con,.int .i64 y.num,.slice (y.args.map VaD.enc)],.agg [.str s,.int .i64 n,.slice ar]]]:=by
    simp only[listD,VaD.enc_mk,List.map_cons,List.map_nil,ho,←y.enc_eq]
   obtain ⟨s0,s4,s10,s',n',c',ar',hc',h1,ih⟩:=ih xs' (y::ys) (((m:Nat):Int) - 1) _ _ _ _ (by omega) hx' rfl (.inl rfl) ho'
   have e1:xs'++[y]++ys=xs'++y::ys:=by simp
   rw[e1] at hget ⊢
   refine ⟨s0,s4,s10,s',n',c',ar',hc',h1,?_⟩
   refine tI rfl ?_
   refine tQ ?_
   repeat first|with_reducible constructor|with_reducible refine tW rfl ?_|((with_reducible apply tG);(focus kernel_rfl);(focus (intro _ _;(repeat (apply tOp;(focus (intro _;simp only[go_sem,Nat.reduceAdd,reduceIte];rfl))));rfl));(focus (simp only[go_sem,Nat.reduceAdd,reduceIte];rfl)))
   with_reducible apply tT
   ·simp only[go_sem,Nat.reduceAdd,reduceIte];rfl
   ·exact hge
   refine tQ ?_
   repeat first|with_reducible constructor|with_reducible refine tW rfl ?_|((with_reducible apply tG);(focus kernel_rfl);(focus (intro _ _;(repeat (apply tOp;(focus (intro _;simp only[hget,h0,hw,setElems,clean,flat,List.replicate,List.set_cons_zero,List.set_cons_succ,go_sem,Nat.reduceAdd,reduceIte];rfl))));rfl));(focus (simp only[go_sem,Nat.reduceAdd,reduceIte];rfl)))
   exact ih
  ·
   have ho':(listD (y::ys)).enc=.agg [.str consS,.int .i64 0,.slice [.agg [.str y.con,.int .i64 y.num,.slice (y.args.map VaD.enc)],.agg [.str s,.int .i64 n,.slice []]]]:=by
    simp only[listD,VaD.enc_mk,List.map_cons,List.map_nil,ho,←y.enc_eq]
   obtain ⟨s0,s4,s10,s',n',c',ar',hc',h1,ih⟩:=ih xs' (y::ys) (((m:Nat):Int) - 1) _ _ _ _ (by omega) hx' rfl (.inl rfl) ho'
   have e1:xs'++[y]++ys=xs'++y::ys:=by simp
   rw[e1] at hget ⊢
   refine ⟨s0,s4,s10,s',n',c',ar',hc',h1,?_⟩
   refine tI rfl ?_
   refine tQ ?_
   repeat first|with_reducible constructor|with_reducible refine tW rfl ?_|((with_reducible apply tG);(focus kernel_rfl);(focus (intro _ _;(repeat (apply tOp;(focus (intro _;simp only[go_sem,Nat.reduceAdd,reduceIte];rfl))));rfl));(focus (simp only[go_sem,Nat.reduceAdd,reduceIte];rfl)))
   with_reducible apply tT
   ·simp only[go_sem,Nat.reduceAdd,reduceIte];rfl
   ·exact hge
   refine tQ ?_
   repeat first|with_reducible constructor|with_reducible refine tW rfl ?_|((with_reducible apply tG);(focus kernel_rfl);(focus (intro _ _;(repeat (apply tOp;(focus (intro _;simp only[hget,h0,hw,setElems,clean,flat,List.replicate,List.set_cons_zero,List.set_cons_succ,go_sem,Nat.reduceAdd,reduceIte];rfl))));rfl));(focus (simp only[go_sem,Nat.reduceAdd,reduceIte];rfl)))
   exact ih
theorem c17 (l:List VaD) (sto:Sto) (hs:l.length < big):CF (.fn 17) [.val (.slice (l.map VaD.enc))] sto=some (.ret (.val (listD l).enc),sto):=by
 have h0:(listD []).enc=.agg [.str nilS,.int .i64 0,.slice []]:=by simp [listD,VaD.enc_mk]
 have hw:IntKind.i64.wrap (((l.length:Nat):Int) - 1)=((l.length:Nat):Int) - 1:=by rw[wrapOk (by omega) (by simp only[big] at hs;omega)]
 obtain ⟨s0,s4,s10,s',n',c',ar',hc',h1,hl⟩:=loop17 sto l.length l [] _ _ _ _ _ hs rfl rfl (.inr ⟨rfl,rfl⟩) h0
 simp only[List.append_nil] at h1 hl
 rw[h1]
 rcases hc' with rfl|⟨rfl,rfl⟩
 ·
  apply tA
  ·rfl
  ·rfl
  ·exact Tryz.func17
  ·rfl
  ·rfl
  ·simp only[go_sem,Nat.reduceAdd,reduceIte];rfl
  refine tQ ?_
  repeat first|with_reducible constructor|with_reducible refine tW rfl ?_|((with_reducible apply tG);(focus kernel_rfl);(focus (intro _ _;(repeat (apply tOp;(focus (intro _;simp only[hw,List.length_map,go_sem,Nat.reduceAdd,reduceIte];rfl))));rfl));(focus (simp only[go_sem,Nat.reduceAdd,reduceIte];rfl)))
  apply tL
  ·exact hl
  refine tQ ?_
  repeat first|with_reducible constructor|with_reducible refine tW rfl ?_|((with_reducible apply tG);(focus kernel_rfl);(focus (intro _ _;(repeat (apply tOp;(focus (intro _;simp only[go_sem,Nat.reduceAdd,reduceIte];rfl))));rfl));(focus (simp only[go_sem,Nat.reduceAdd,reduceIte];rfl)))
  exact fin0 rfl
 ·
  apply tA
  ·rfl
  ·rfl
  ·exact Tryz.func17
  ·rfl
  ·rfl
  ·simp only[go_sem,Nat.reduceAdd,reduceIte];rfl
  refine tQ ?_
  repeat first|with_reducible constructor|with_reducible refine tW rfl ?_|((with_reducible apply tG);(focus kernel_rfl);(focus (intro _ _;(repeat (apply tOp;(focus (intro _;simp only[hw,List.length_map,go_sem,Nat.reduceAdd,reduceIte];rfl))));rfl));(focus (simp only[go_sem,Nat.reduceAdd,reduceIte];rfl)))
  apply tL
  ·exact hl
  refine tQ ?_
  repeat first|with_reducible constructor|with_reducible refine tW rfl ?_|((with_reducible apply tG);(focus kernel_rfl);(focus (intro _ _;(repeat (apply tOp;(focus (intro _;simp only[go_sem,Nat.reduceAdd,reduceIte];rfl))));rfl));(focus (simp only[go_sem,Nat.reduceAdd,reduceIte];rfl)))
  exact fin0 rfl
end Go.Proofs.YtdkkaldimefljaaGreatDoor
end
