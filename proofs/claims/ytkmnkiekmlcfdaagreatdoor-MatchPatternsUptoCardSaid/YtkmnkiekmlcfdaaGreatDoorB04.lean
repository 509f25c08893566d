/- Part B04 of the proof of one law of the program. -/
import Derived.Test.YtkmnkiekmlcfdaaGreatDoorB03
import Derived.Test.YtkmnkiekmlcfdaaGreatDoorB02
import Derived.WalkKit
import Derived.WalkSpells
import Derived.Carry
set_option linter.all false
namespace Go.Proofs.YtkmnkiekmlcfdaaGreatDoor
open Go.AM
attribute [local go_sem] opsK oneK guardK stepK callK argsA capsA elemsA mvK mv asV asSl AM.asInt AM.asBool asPlace asBox asObj asMap cellsOfPlace writePlace asCells boxCells optInt sliceCut drawnPlace opS RS.look RS.put RS.putO alook tlook commit persist constS constT absV absC dstOk noRefTo guardB abin abinT isNilSlice isNilIface nilTest Nat.beq Nat.ble Nat.blt cond_true cond_false Bool.and_true Bool.true_and Bool.and_self Bool.not_true Bool.not_false Bool.or_true Bool.or_false Bool.false_or Bool.true_or Bool.and_false Bool.false_and List.all_nil List.all_cons List.contains List.elem Option.bind_some Option.map_some Option.getD_some cAgg cInt cBool cStr cSlice cFunc cNilf cNilp cNilm cLoc cMap cYld List.take_succ_cons List.take_zero List.drop_zero List.drop_succ_cons Nat.zero_add Cell.get Cell.lok AM.lok lokF noRefS partOf List.map_nil List.map_cons List.length_cons List.length_nil List.getElem?_cons_zero List.getElem?_cons_succ List.nil_append List.cons_append List.append_nil List.getElem?_toArray List.toList_toArray Option.bind_none Option.map_none objs1 objs2 objs3 objs32 oset1 setCells List.take_append_drop List.drop_nil List.take_nil an106 an150 sz3 ag3 zo3 by3 Tryz.underlying3 sz4 ag4 zo4 zc4 Tryz.underlying4 sz36 ag36 se36 Tryz.underlying36 sz9 ag9 zo9 by9 Tryz.underlying9 sz26 ag26 se26 Tryz.underlying26 sz30 ag30 zo30 zc30 by30 Tryz.underlying30 pl30
set_option maxRecDepth 100000
set_option maxHeartbeats 1000000
theorem names (f:Nat) (F:Func) (h:Tryz.prog.funcs[f]?=some F) (_:F.body.isSome=true):F.name≠ "runtime.NumGoroutine":=by
 have hall:Tryz.prog.funcs.all (fun F=>!(F.name== "runtime.NumGoroutine"))=true:=by kernel_rfl
 have:=Array.all_eq_true_iff_forall_mem.1 hall F (Array.mem_of_getElem? h)
 intro e;rw[e] at this;simp at this
theorem mkEnv {B0:Nat} {pr:Prims} (h:∀ f args res,pr f args=some (some res)→(∃ F,Tryz.prog.funcs[f]?=some F∧F.body.isSome=true)∧∀ sto w Ψ ρ ow vs,CallPre ans B0 w Ψ ρ ow args vs sto→∀ c cs,CallPost Tryz.prog ans B0 w Ψ ρ ow sto c cs (lone (Frame.enter Tryz.prog f vs .normal) (c::cs) w) res sto):Env Tryz.prog ans B0 pr :=
 ⟨h,names,fun _ hc=>drawnOK (by kernel_rfl) hc⟩
def pr0:Prims:=fun _ _=>none
theorem env0 (B0:Nat):Env Tryz.prog ans B0 pr0:=mkEnv fun f args res h=>by cases h
theorem b106 (xs:List AVal) (h:(xs.all fun x=>Nat.beq x.cells.length 1)=true) (hr:Nat.ble xs.length room=true) (hh:headOk 1 xs=true):bodyStep Tryz.prog ans (cfW Tryz.prog ans pr0) (lpW Tryz.prog ans pr0) 106 [.nn xs] ⟨[],0⟩=some (.ret (.val (.slice xs)),⟨[],0⟩):=by
 apply tBody;exact Tryz.func106;rfl;rfl;simp only[go_sem];rfl;refine tQ ?_;repeat first|with_reducible constructor|(with_reducible apply tG);kernel_rfl;intro _ _;(repeat apply tOp;intro _;simp only[h,hr,hh,setElems,clean,flat,List.replicate,List.set_cons_zero,go_sem];rfl);rfl;simp only[go_sem];rfl|(with_reducible apply t0);rfl;trivial
 exact fin0 rfl
theorem b150 (xs:List AVal) (h:(xs.all fun x=>Nat.beq x.cells.length 3)=true) (hr:Nat.ble xs.length room=true) (hh:headOk 3 xs=true):bodyStep Tryz.prog ans (cfW Tryz.prog ans pr0) (lpW Tryz.prog ans pr0) 150 [.nn xs] ⟨[],0⟩=some (.ret (.val (.slice xs)),⟨[],0⟩):=by
 apply tBody;exact Tryz.func150;rfl;rfl;simp only[go_sem];rfl;refine tQ ?_;repeat first|with_reducible constructor|(with_reducible apply tG);kernel_rfl;intro _ _;(repeat apply tOp;intro _;simp only[h,hr,hh,setElems,clean,flat,List.replicate,List.set_cons_zero,go_sem];rfl);rfl;simp only[go_sem];rfl|(with_reducible apply t0);rfl;trivial
 exact fin0 rfl
theorem nil106 (c:Nat) (w:World):Calls Tryz.prog 106 #[.slice none 0 c] w fun e w'=>e=.returned (.slice none 0 0)∧w'=w:=by
 have hq:=run_eql_nil_slice (P:=Tryz.prog) w 36 3 none 0 0 0 c Tryz.underlying36
 go_enter Tryz.func106,Tryz.ntmps106
 go_wp2
 all_goals go_ret
 all_goals exact ⟨rfl,rfl⟩
theorem nil150 (c:Nat) (w:World):Calls Tryz.prog 150 #[.slice none 0 c] w fun e w'=>e=.returned (.slice none 0 0)∧w'=w:=by
 have hq:=run_eql_nil_slice (P:=Tryz.prog) w 26 30 none 0 0 0 c Tryz.underlying26
 go_enter Tryz.func150,Tryz.ntmps150
 go_wp2
 all_goals go_ret
 all_goals exact ⟨rfl,rfl⟩
theorem clone_ok {f:FuncId} {xs:List AVal} (hn:∀ (c:Nat) (w:World),Calls Tryz.prog f #[.slice none 0 c] w fun e w'=>e=.returned (.slice none 0 0)∧w'=w)
  (hb:bodyStep Tryz.prog ans (cfW Tryz.prog ans pr0) (lpW Tryz.prog ans pr0) f [.nn xs] ⟨[],0⟩=some (.ret (.val (.slice xs)),⟨[],0⟩)):PureOK Tryz.prog f [.slice xs] (.slice xs):=by
 have key:=body_post env0 hb;refine ⟨key.1,fun w Ψ vs hw hl ha c cs=>?_⟩;have h0:=ha 0 _ rfl
 have hvs:vs=#[vs.getD 0 undef]:=by
  apply Array.ext
  ·simpa using hl.symm
  ·intro i h1 h2
   simp at h2;subst h2;simp [Array.getD,h1]
 generalize vs.getD 0 undef=v at h0 hvs;subst hvs;cases h0 with
 |slice _ a len cap s h1 h2 h3 =>
  cases a with
  |none =>
   have hx:xs=[]:=by
    cases xs with
    |nil=>rfl
    |cons x xs=>obtain ⟨_,b,o,e,_⟩:=h3 0 x rfl;cases e
   subst hx;simp at h1;subst h1;have hc:=(hn cap w).mono (R':=fun e w'=>∃ v,e=.returned v∧(v=.slice none 0 0∧w'=w)) fun e w' ⟨e1,e2⟩=>⟨_,e1,rfl,e2⟩
   obtain ⟨w',v,⟨rfl,rfl⟩,hs⟩:=steps_of_calls hc c cs;exact ⟨w',Ψ,_,Fr.refl _ _ _,hw,.slice [] none 0 0 0 rfl (Nat.le_refl _) (fun i x e=>by simp at e),hs⟩
  |some a =>
   refine key.2 w Ψ _ (callPre0 hw rfl (fun s hs=>by simp at hs;subst hs;rfl) (fun i s hs=>?_)) c cs;cases i with
   |zero=>cases hs;exact .nn _ _ _ _ (.slice _ _ _ _ _ h1 h2 h3)
   |succ i=>simp at hs
theorem rowsOk_parts {s:Nat} {xs:List AVal} (h:rowsOk s xs=true):(xs.all fun x=>Nat.beq x.cells.length s)=true∧Nat.ble xs.length room=true∧headOk s xs=true:=by
 simp only[rowsOk,Bool.and_eq_true] at h;refine ⟨h.1,h.2,?_⟩;cases xs with
 |nil=>rfl
 |cons x xs=>simp only[List.all_cons,Bool.and_eq_true] at h;exact h.1.1
theorem p106 {xs:List AVal} (h:rowsOk 1 xs=true):PureOK Tryz.prog 106 [.slice xs] (.slice xs):=by
 obtain ⟨h1,h2,h3⟩:=rowsOk_parts h;exact clone_ok nil106 (b106 xs h1 h2 h3)
theorem p150 {xs:List AVal} (h:rowsOk 3 xs=true):PureOK Tryz.prog 150 [.slice xs] (.slice xs):=by
 obtain ⟨h1,h2,h3⟩:=rowsOk_parts h;exact clone_ok nil150 (b150 xs h1 h2 h3)
end Go.Proofs.YtkmnkiekmlcfdaaGreatDoor
