/- Part P04 of the proof of one law of the program. -/
import Derived.Test.YtkmnkiekmlcfdaaGreatDoorB04
import Derived.Test.YtkmnkiekmlcfdaaGreatDoorE02
set_option linter.all false
set_option linter.unusedVariables false
set_option linter.unusedSimpArgs false
set_option linter.unusedSectionVars false
set_option linter.unnecessarySimpa false
namespace Go.Proofs.YtkmnkiekmlcfdaaGreatDoor
open Go.AM
attribute [local go_sem] opsK oneK stepK callK argsA capsA elemsA mvK mv asV asSl AM.asInt AM.asBool asPlace asBox asObj asMap cellsOfPlace writePlace asCells optInt sliceCut drawnPlace opS RS.look RS.put RS.putO alook tlook commit persist constS constT absV absC dstOk noRefTo guardB abin abinT isNilSlice isNilIface nilTest Nat.beq Nat.ble Nat.blt cond_true cond_false Bool.and_true Bool.true_and Bool.and_self Bool.not_true Bool.not_false Bool.or_true Bool.or_false Bool.false_or Bool.true_or Bool.and_false Bool.false_and List.all_nil List.all_cons List.contains List.elem Option.bind_some Option.map_some Option.getD_some cAgg cInt cBool cStr cSlice cFunc cNilf cNilp cNilm cLoc cMap cYld List.take_succ_cons List.take_zero List.drop_zero List.drop_succ_cons Nat.zero_add Cell.get Cell.lok AM.lok lokF noRefS partOf List.map_nil List.map_cons List.length_cons List.length_nil List.getElem?_cons_zero List.getElem?_cons_succ List.nil_append List.cons_append List.append_nil List.getElem?_toArray List.toList_toArray Option.bind_none Option.map_none objs1 objs2 objs3 objs32 oset1 setCells List.take_append_drop List.drop_nil List.take_nil an68 Tryz.underlying0 sz3 ag3 zo3 by3 Tryz.underlying3 sz9 ag9 zo9 by9 Tryz.underlying9 sz45 ag45 se45 Tryz.underlying45 sz47 ag47 zo47 zc47 by47 Tryz.underlying47 pl47 fd47_0 fd47_1 fd47_2
set_option maxRecDepth 100000
set_option maxHeartbeats 1000000
def prO (k:Nat):Prims:=fun f args =>
 bif Nat.beq f 68 then (match args with
  |[.val v]=>bif vOk k v then some (some (.ret (.val v))) else some none
  |_=>some none)
 else none
theorem vOk_form {k:Nat} {v:AVal} (h:vOk k v=true):∃ s z xs,v=.agg [.str s,.int .i64 z,.slice xs]:=by
 unfold vOk at h
 split at h
 ·exact ⟨_,_,_,rfl⟩
 ·cases h
theorem vOk_sub {k:Nat} {s:List UInt8} {z:Int} {xs:List AVal} (h:vOk (k+1) (.agg [.str s,.int .i64 z,.slice xs])=true):∀ x∈xs,vOk k x=true:=by
 simp only[vOk,Bool.and_eq_true,List.all_eq_true] at h
 exact h.2
theorem vOk_len {k:Nat} {s:List UInt8} {z:Int} {xs:List AVal} (h:vOk k (.agg [.str s,.int .i64 z,.slice xs])=true):xs.length+1 < big:=by
 cases k with
 |zero=>simp [vOk] at h
 |succ k =>
  simp only[vOk,Bool.and_eq_true] at h
  have:=Nat.le_of_ble_eq_true h.1
  simp only[big];omega
theorem roomJ {α:Type} (l:List α) (h:l.length+1 < big):Nat.ble (l.length+1) room=true:=by
 apply Nat.ble_eq_true_of_le;simp only[room];simp only[big] at h;omega
theorem co68 {k:Nat} {v:AVal} (h:vOk k v=true) (sto:Sto):cfW Tryz.prog ans (prO k) (.fn 68) [.val v] sto=some (.ret (.val v),sto):=by
 obtain ⟨s,z,xs,rfl⟩:=vOk_form h
 refine fnP (r:=.ret (.val (.agg [.str s,.int .i64 z,.slice xs]))) ?_ rfl
 show (bif vOk k (.agg [.str s,.int .i64 z,.slice xs]) then _ else _)=_
 rw[h];rfl
theorem getA (pre ys:List AVal) (y:AVal):(pre++y::ys)[((pre.length:Nat):Int).toNat]?=some y:=by simp
theorem loop68 {k:Nat} (s:List UInt8) (z:Int) (sto:Sto) (a2:Slot) (ys:List AVal):∀ (pre X:List AVal),(pre++ys).length < big→X.length+ys.length+1 < big→(∀ y∈ys,vOk k y=true) →
  ∃ s0 s1 s5 s12 s13 s14 s15,lpW Tryz.prog ans (prO k) 68 (loopOf Tryz.f68 0) ⟨[.dead,.dead,a2,.box [.val (.str s),.val (.int .i64 z),.own 3 X],.dead,.val (.slice (pre++ys)),.val (.int .i64 ((pre++ys).length:Nat)),.val (.int .i64 (pre.length:Nat)),.dead],sto⟩ =
   some (.exit 0,⟨[s0,s1,a2,.box [.val (.str s),.val (.int .i64 z),.own 3 (X++ys)],s5,s12,s13,s14,s15],sto⟩):=by
 induction ys with
 |nil =>
  intro pre X h3 h4 hv
  have hlt:=gtI pre
  simp only[List.append_nil] at hlt ⊢
  iterate 7 apply Exists.intro
  refine tI rfl ?_
  refine tQ ?_;repeat first|with_reducible constructor|(with_reducible apply tG);kernel_rfl;intro _ _;(repeat apply tOp;intro _;simp only[go_sem,Nat.reduceAdd,reduceIte];rfl);rfl;simp only[go_sem];rfl
  with_reducible apply tF
  ·simp only[go_sem];rfl
  ·exact hlt
  refine tQ ?_
  repeat with_reducible constructor
  exact tlX
  all_goals exact .dead
 |cons y ys ih =>
  intro pre X h3 h4 hv
  have hy:=hv y (by simp)
  have hget:=getA pre ys y
  have hlt:=ltI pre ys y
  have h0:=zI pre.length
  have hw:=wL pre ys y h3
  have hr:=roomJ X (by simp at h4;omega)
  have hc:=co68 hy sto
  obtain ⟨s1,z1,l1,rfl⟩:=vOk_form hy
  obtain ⟨s0,s1,s5,s12,s13,s14,s15,ih⟩:=ih (pre++[.agg [.str s1,.int .i64 z1,.slice l1]]) (X++[.agg [.str s1,.int .i64 z1,.slice l1]]) (by simpa using h3) (by simp at h4 ⊢;omega) (fun x hx=>hv x (by simp [hx]))
  simp only[List.append_assoc,List.singleton_append] at ih
  refine ⟨s0,s1,s5,s12,s13,s14,s15,?_⟩
  refine tI rfl ?_
  refine tQ ?_;repeat first|with_reducible constructor|(with_reducible apply tG);kernel_rfl;intro _ _;(repeat apply tOp;intro _;simp only[go_sem,Nat.reduceAdd,reduceIte];rfl);rfl;simp only[go_sem];rfl
  with_reducible apply tT
  ·simp only[go_sem];rfl
  ·exact hlt
  refine tQ ?_;repeat first|with_reducible constructor|(with_reducible apply tG);kernel_rfl;intro _ _;(repeat apply tOp;intro _;simp only[hget,h0,hw,hr,hc,beq_self_eq_true,slotLok,setElems,clean,flat,List.replicate,List.set_cons_zero,List.set_cons_succ,go_sem,Nat.reduceAdd,reduceIte];rfl);rfl;simp only[go_sem];rfl
  exact ih
theorem b68 {k:Nat} {v:AVal} (h:vOk (k+1) v=true):bodyStep Tryz.prog ans (cfW Tryz.prog ans (prO k)) (lpW Tryz.prog ans (prO k)) 68 [.val v] ⟨[],0⟩=some (.ret (.val v),⟨[],0⟩):=by
 obtain ⟨s,z,xs,rfl⟩:=vOk_form h
 have hb:=vOk_len h
 obtain ⟨s0,s1,s5,s12,s13,s14,s15,hl⟩:=loop68 (k:=k) s z ⟨[],0⟩ (.box [.val (.str []),.val (.int .i64 0),.own 3 []]) xs [] [] (by simpa using Nat.lt_of_succ_lt hb) (by simpa using hb) (vOk_sub h)
 simp only[List.nil_append,List.length_nil] at hl
 have e0:((0:Nat):Int)=0:=rfl
 rw[e0] at hl
 apply tBody
 ·exact Tryz.func68
 ·rfl
 ·rfl
 ·simp only[go_sem,Nat.reduceAdd,reduceIte];rfl
 refine tQ ?_;repeat first|with_reducible constructor|(with_reducible apply tG);kernel_rfl;intro _ _;(repeat apply tOp;intro _;simp only[go_sem,Nat.reduceAdd,reduceIte];rfl);rfl;simp only[go_sem];rfl
 apply tL
 ·exact hl
 refine tQ ?_;repeat first|with_reducible constructor|(with_reducible apply tG);kernel_rfl;intro _ _;(repeat apply tOp;intro _;simp only[go_sem,Nat.reduceAdd,reduceIte];rfl);rfl;simp only[go_sem];rfl
 exact fin0 rfl
theorem lok_vOk {k:Nat} {v:AVal} (h:vOk k v=true):lok 0 v=true:=by
 obtain ⟨s,z,xs,rfl⟩:=vOk_form h;rfl
theorem p68:∀ (k:Nat),(∀ B0,Env Tryz.prog ans B0 (prO k))∧∀ v,vOk k v=true→PureOK Tryz.prog 68 [v] v:=by
 have env:∀ k,(∀ v,vOk k v=true→PureOK Tryz.prog 68 [v] v)→∀ B0,Env Tryz.prog ans B0 (prO k):=fun k hp B0=>mkEnv fun f args res h=>by
  simp only[prO] at h
  cases hf:Nat.beq f 68 with
  |false=>rw[hf] at h;cases h
  |true =>
   obtain rfl:=Nat.eq_of_beq_eq_true hf
   rw[hf] at h
   simp only[cond_true] at h
   split at h
   ·rename_i v
    cases hv:vOk k v with
    |false=>rw[hv] at h;cases h
    |true =>
     rw[hv] at h
     cases h
     exact (hp v hv).prim (fun a ha=>by simp at ha;subst ha;exact lok_vOk hv)
   ·cases h
 intro k
 induction k with
 |zero =>
  have h0:∀ v,vOk 0 v=true→PureOK Tryz.prog 68 [v] v:=fun v hv=>by simp [vOk] at hv
  exact ⟨env 0 h0,h0⟩
 |succ k ih =>
  have h1:∀ v,vOk (k+1) v=true→PureOK Tryz.prog 68 [v] v:=fun v hv=>PureOK.ofBody ih.1 (b68 hv)
  exact ⟨env (k+1) h1,h1⟩
end Go.Proofs.YtkmnkiekmlcfdaaGreatDoor
