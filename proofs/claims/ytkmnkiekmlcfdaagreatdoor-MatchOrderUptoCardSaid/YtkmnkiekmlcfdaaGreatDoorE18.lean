/- Part E18 of the proof of one law of the program. -/
import Derived.Test.YtkmnkiekmlcfdaaGreatDoorE16
import Derived.Test.YtkmnkiekmlcfdaaGreatDoorE17
set_option linter.all false
set_option linter.unusedVariables false
set_option linter.unusedSimpArgs false
set_option linter.unusedSectionVars false
set_option linter.unnecessarySimpa false
namespace Go.Proofs.YtkmnkiekmlcfdaaGreatDoor
open Go.AM
attribute [local go_sem] opsK oneK stepK callK argsA capsA elemsA mvK mv asV asSl AM.asInt AM.asBool asPlace asBox asObj asMap cellsOfPlace writePlace asCells optInt sliceCut drawnPlace opS RS.look RS.put RS.putO alook tlook commit persist constS constT absV absC dstOk noRefTo guardB abin abinT isNilSlice isNilIface nilTest Nat.beq Nat.ble Nat.blt cond_true cond_false Bool.and_true Bool.true_and Bool.and_self Bool.not_true Bool.not_false Bool.or_true Bool.or_false Bool.false_or Bool.true_or Bool.and_false Bool.false_and List.all_nil List.all_cons List.contains List.elem Option.bind_some Option.map_some Option.getD_some cAgg cInt cBool cStr cSlice cFunc cNilf cNilp cNilm cLoc cMap cYld List.take_succ_cons List.take_zero List.drop_zero List.drop_succ_cons Nat.zero_add Cell.get Cell.lok AM.lok lokF noRefS partOf List.map_nil List.map_cons List.length_cons List.length_nil List.getElem?_cons_zero List.getElem?_cons_succ List.nil_append List.cons_append List.append_nil List.getElem?_toArray List.toList_toArray Option.bind_none Option.map_none objs1 objs2 objs3 objs32 oset1 setCells List.take_append_drop List.drop_nil List.take_nil an13 Tryz.underlying0 sz3 ag3 zo3 by3 Tryz.underlying3 sz4 ag4 zo4 zc4 Tryz.underlying4 sz9 ag9 zo9 by9 Tryz.underlying9 sz22 ag22 Tryz.underlying22 sz23 ag23 se23 Tryz.underlying23 sz25 ag25 zo25 zc25 by25 Tryz.underlying25 pl25 sz26 ag26 se26 zo26 by26 Tryz.underlying26 sz30 ag30 zo30 zc30 by30 Tryz.underlying30 pl30 sz31 ag31 zc31 Tryz.underlying31 Tryz.underlying32 se36 Tryz.underlying36 Tryz.underlying37 sz45 ag45 se45 Tryz.underlying45 sz47 ag47 zo47 zc47 by47 Tryz.underlying47 pl47 Tryz.underlying48 Tryz.underlying49 sz52 Tryz.underlying52 sz58 ag58 se58 Tryz.underlying58 sz61 ag61 zo61 zc61 by61 Tryz.underlying61 pl61 sz72 ag72 se72 Tryz.underlying72 Tryz.underlying76 sz78 ag78 zc78 Tryz.underlying78 Tryz.underlying79 Tryz.underlying81 sz116 ag116 zc116 Tryz.underlying116 pl116 Tryz.underlying132 fd52_1 fd47_1
set_option maxRecDepth 100000
set_option maxHeartbeats 1000000
theorem c13:CF kdF (.fn 13) [] ⟨[],0⟩=some (.ret (.val (.bool true)),⟨[],0⟩):=by
 apply tA
 ·rfl
 ·rfl
 ·exact Tryz.func13
 ·rfl
 ·rfl
 ·simp only[go_sem,Nat.reduceAdd,reduceIte];rfl
 refine tQ ?_;repeat first|with_reducible constructor|(with_reducible apply tG);kernel_rfl;intro _ _;(repeat apply tOp;intro _;simp only[x53,x54,x17,x52a,x52b,x52c,x52d,x52e,x52f,x9a,x9b,x41,x42,x18,x11,x14,x37,d00,n0,Bool.false_eq_true,setElems,clean,flat,List.replicate,List.set_cons_zero,List.set_cons_succ,go_sem,Nat.reduceAdd,reduceIte];rfl);rfl;simp only[go_sem];rfl
 exact fin0 rfl
end Go.Proofs.YtkmnkiekmlcfdaaGreatDoor
