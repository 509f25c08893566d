/- Part E04 of the proof of one law of the program. -/
import Derived.Test.YtkmnkiekmlcfdaaGreatDoorE03
set_option linter.all false
set_option linter.unusedVariables false
set_option linter.unusedSimpArgs false
set_option linter.unusedSectionVars false
set_option linter.unnecessarySimpa false
namespace Go.Proofs.YtkmnkiekmlcfdaaGreatDoor
open Go.AM
attribute [local go_sem] opsK oneK stepK callK argsA capsA elemsA mvK mv asV asSl AM.asInt AM.asBool asPlace asBox asObj asMap cellsOfPlace writePlace asCells optInt sliceCut drawnPlace opS RS.look RS.put RS.putO alook tlook commit persist constS constT absV absC dstOk noRefTo guardB abin abinT isNilSlice isNilIface nilTest Nat.beq Nat.ble Nat.blt cond_true cond_false Bool.and_true Bool.true_and Bool.and_self Bool.not_true Bool.not_false Bool.or_true Bool.or_false Bool.false_or Bool.true_or Bool.and_false Bool.false_and List.all_nil List.all_cons List.contains List.elem Option.bind_some Option.map_some Option.getD_some cAgg cInt cBool cStr cSlice cFunc cNilf cNilp cNilm cLoc cMap cYld List.take_succ_cons List.take_zero List.drop_zero List.drop_succ_cons Nat.zero_add Cell.get Cell.lok AM.lok lokF noRefS partOf List.map_nil List.map_cons List.length_cons List.length_nil List.getElem?_cons_zero List.getElem?_cons_succ List.nil_append List.cons_append List.append_nil List.getElem?_toArray List.toList_toArray Option.bind_none Option.map_none objs1 objs2 objs3 objs32 oset1 setCells List.take_append_drop List.drop_nil List.take_nil an82 an134 Tryz.underlying0 sz3 ag3 zo3 by3 Tryz.underlying3 sz4 ag4 zo4 zc4 Tryz.underlying4 sz9 ag9 zo9 by9 Tryz.underlying9 sz22 ag22 Tryz.underlying22 sz23 ag23 se23 Tryz.underlying23 sz25 ag25 zo25 zc25 by25 Tryz.underlying25 pl25 sz58 ag58 se58 Tryz.underlying58 sz61 ag61 zo61 zc61 by61 Tryz.underlying61 pl61 sz72 ag72 se72 Tryz.underlying72 sz116 ag116 zc116 Tryz.underlying116 pl116 Tryz.underlying121 Tryz.underlying153 fd25_0 fd25_1 fd116_1
set_option maxRecDepth 100000
set_option maxHeartbeats 4000000
variable {kd:List UInt8→Int}
def shapeD (vr:List UInt8→Bool) (ds:List DaD) (t:TyD):Option Bool :=
 if vr t.name||t.name==[73,110,116] then some (((t.args.length:Nat):Int)==0)
 else if t.name==[45,62] then (if ((t.args.length:Nat):Int) != 2 then some false else none)
 else if t.name==[44] then (if decide (((t.args.length:Nat):Int) < 2)||decide (((t.args.length:Nat):Int) > 4) then some false else none)
 else if !(findD ds t.name).isSome||((((findD ds t.name).getD zeroDa).vars.length:Nat):Int) != ((t.args.length:Nat):Int) then some false else none
def typedD (vr:List UInt8→Bool) (ds:List DaD):Nat→TyD→Bool
 |0,_=>false
 |m+1,t=>match shapeD vr ds t with|some b=>b|none=>!t.args.any fun x=>!typedD vr ds m x
theorem ann134:(ans 134).ownArg=[]:=by rw[an134]
theorem c134 {ds:List DaD} {m:Nat} {x:TyD} {i j:Nat} {sto:Sto} (hm:m < big) (hi:sto.objs[i]?=some (.box [.val (.slice (ds.map DaD.enc))])) (hj:sto.objs[j]?=some (.box [.val (.int .i64 (m+1:Nat))])) {b:Bool}
  (h:CF kd (.fn 82) [.val (.slice (ds.map DaD.enc)),.val x.enc,.val (.int .i64 (m:Nat))] sto=some (.ret (.val (.bool b)),sto)) :
  CF kd (.fn 134) [.val x.enc,.val (.loc i 0),.val (.loc j 0)] sto=some (.ret (.val (.bool (!b))),sto):=by
 have hw:IntKind.i64.wrap (((m+1:Nat):Int) - 1)=(m:Nat):=by rw[wrapOk (by omega) (by simp only[big] at hm;omega)];omega
 rw[TyD.enc_eq] at h ⊢
 apply tA
 ·rfl
 ·rfl
 ·exact Tryz.func134
 ·rfl
 ·rfl
 ·simp only[go_sem,Nat.reduceAdd,reduceIte];rfl
 refine tQ ?_;repeat first|with_reducible constructor|(with_reducible apply tG);kernel_rfl;intro _ _;(repeat apply tOp;intro _;simp only[hi,hj,hw,h,go_sem,Nat.reduceAdd,reduceIte];rfl);rfl;simp only[go_sem];rfl
 exact fin0 rfl
theorem c82 {ds:List DaD} (hd:ds.length < big) (hdv:∀ d∈ds,d.vars.length < big) (m:Nat):m < big→∀ (t:TyD) (sto:Sto),t.size < big→sto.lo≤sto.objs.length →
  CF kd (.fn 82) [.val (.slice (ds.map DaD.enc)),.val t.enc,.val (.int .i64 (m:Nat))] sto=some (.ret (.val (.bool (typedD (isK kd 4) ds m t))),sto):=by
 induction m with
 |zero =>
  intro hm t sto ht hlo
  have hb:((((0:Nat):Int)==0):Bool)=true:=rfl
  rw[TyD.enc_eq]
  apply tA
  ·rfl
  ·rfl
  ·exact Tryz.func82
  ·rfl
  ·rfl
  ·simp only[go_sem,Nat.reduceAdd,reduceIte];rfl
  refine tQ ?_;repeat first|with_reducible constructor|(with_reducible apply tG);kernel_rfl;intro _ _;(repeat apply tOp;intro _;simp only[List.append_assoc,List.length_append,List.length_cons,List.length_nil,List.cons_append,List.nil_append,objK,obj0,setK,set0,takeK,List.take_zero,List.take_succ_cons,List.set_cons_zero,List.set_cons_succ,List.getElem?_cons_zero,List.getElem?_cons_succ,Nat.reduceAdd,Nat.zero_add,go_sem,Nat.reduceAdd,reduceIte];rfl);rfl;simp only[go_sem];rfl
  with_reducible apply tT
  ·simp only[go_sem];rfl
  ·exact hb
  refine tQ ?_;repeat first|with_reducible constructor|(with_reducible apply tG);kernel_rfl;intro _ _;(repeat apply tOp;intro _;simp only[List.append_assoc,List.length_append,List.length_cons,List.length_nil,List.cons_append,List.nil_append,objK,obj0,setK,set0,takeK,List.take_zero,List.take_succ_cons,List.set_cons_zero,List.set_cons_succ,List.getElem?_cons_zero,List.getElem?_cons_succ,Nat.reduceAdd,Nat.zero_add,go_sem,Nat.reduceAdd,reduceIte];rfl);rfl;simp only[go_sem];rfl
  exact finE [_,_] rfl
 |succ m ih =>
  intro hm t sto ht hlo
  have hb:((((m+1:Nat):Int)==0):Bool)=false:=by simp;omega
  have hv:=fun s=>c132 (kd:=kd) t s
  have hf:=c113 (kd:=kd) ds hd t.name ⟨sto.objs++[.box [.val (.slice (ds.map DaD.enc))],.box [.val (.int .i64 (m+1:Nat))]],sto.lo⟩ (by simp;omega)
  have hc:=c133m (kd:=kd) TyD.enc (fun x=>!typedD (isK kd 4) ds m x) t.args ann134 [.loc sto.objs.length 0,.loc (sto.objs.length+1) 0]
   ⟨sto.objs++[.box [.val (.slice (ds.map DaD.enc))],.box [.val (.int .i64 (m+1:Nat))]],sto.lo⟩ (by have:=t.args_len;simp only[big] at ht;omega) (fun x _=>⟨_,_,x.enc_eq⟩)
   (fun x hx=>c134 (by omega) (by simp) (by simp) (ih (by omega) x _ (by have:=TyD.args_size hx;omega) (by simp;omega)))
  simp only[typedD,shapeD]
  rw[DaD.enc_eq] at hf
  rw[TyD.enc_eq] at hv ⊢
  cases hA:isK kd 4 t.name with
  |true =>
   rw[hA] at hv
   apply tA
   ·rfl
   ·rfl
   ·exact Tryz.func82
   ·rfl
   ·rfl
   ·simp only[go_sem,Nat.reduceAdd,reduceIte];rfl
   refine tQ ?_;repeat first|with_reducible constructor|(with_reducible apply tG);kernel_rfl;intro _ _;(repeat apply tOp;intro _;simp only[List.append_assoc,List.length_append,List.length_cons,List.length_nil,List.cons_append,List.nil_append,objK,obj0,setK,set0,takeK,List.take_zero,List.take_succ_cons,List.set_cons_zero,List.set_cons_succ,List.getElem?_cons_zero,List.getElem?_cons_succ,Nat.reduceAdd,Nat.zero_add,go_sem,Nat.reduceAdd,reduceIte];rfl);rfl;simp only[go_sem];rfl
   with_reducible apply tF
   ·simp only[go_sem];rfl
   ·exact hb
   refine tQ ?_;repeat first|with_reducible constructor|(with_reducible apply tG);kernel_rfl;intro _ _;(repeat apply tOp;intro _;simp only[List.append_assoc,List.length_append,List.length_cons,List.length_nil,List.cons_append,List.nil_append,objK,obj0,setK,set0,takeK,List.take_zero,List.take_succ_cons,List.set_cons_zero,List.set_cons_succ,List.getElem?_cons_zero,List.getElem?_cons_succ,Nat.reduceAdd,Nat.zero_add,hv,go_sem,Nat.reduceAdd,reduceIte];rfl);rfl;simp only[go_sem];rfl
   with_reducible apply tT
   ·simp only[go_sem];rfl
   ·rfl
   refine tQ ?_;repeat first|with_reducible constructor|(with_reducible apply tG);kernel_rfl;intro _ _;(repeat apply tOp;intro _;simp only[List.append_assoc,List.length_append,List.length_cons,List.length_nil,List.cons_append,List.nil_append,objK,obj0,setK,set0,takeK,List.take_zero,List.take_succ_cons,List.set_cons_zero,List.set_cons_succ,List.getElem?_cons_zero,List.getElem?_cons_succ,Nat.reduceAdd,Nat.zero_add,List.length_map,go_sem,Nat.reduceAdd,reduceIte];rfl);rfl;simp only[go_sem];rfl
   exact finE [_,_] rfl
  |false =>
   rw[hA] at hv
   cases hB:(t.name==[73,110,116]) with
   |true =>
    apply tA
    ·rfl
    ·rfl
    ·exact Tryz.func82
    ·rfl
    ·rfl
    ·simp only[go_sem,Nat.reduceAdd,reduceIte];rfl
    refine tQ ?_;repeat first|with_reducible constructor|(with_reducible apply tG);kernel_rfl;intro _ _;(repeat apply tOp;intro _;simp only[List.append_assoc,List.length_append,List.length_cons,List.length_nil,List.cons_append,List.nil_append,objK,obj0,setK,set0,takeK,List.take_zero,List.take_succ_cons,List.set_cons_zero,List.set_cons_succ,List.getElem?_cons_zero,List.getElem?_cons_succ,Nat.reduceAdd,Nat.zero_add,go_sem,Nat.reduceAdd,reduceIte];rfl);rfl;simp only[go_sem];rfl
    with_reducible apply tF
    ·simp only[go_sem];rfl
    ·exact hb
    refine tQ ?_;repeat first|with_reducible constructor|(with_reducible apply tG);kernel_rfl;intro _ _;(repeat apply tOp;intro _;simp only[List.append_assoc,List.length_append,List.length_cons,List.length_nil,List.cons_append,List.nil_append,objK,obj0,setK,set0,takeK,List.take_zero,List.take_succ_cons,List.set_cons_zero,List.set_cons_succ,List.getElem?_cons_zero,List.getElem?_cons_succ,Nat.reduceAdd,Nat.zero_add,hv,go_sem,Nat.reduceAdd,reduceIte];rfl);rfl;simp only[go_sem];rfl
    with_reducible apply tT
    ·simp only[go_sem];rfl
    ·exact hB
    refine tQ ?_;repeat first|with_reducible constructor|(with_reducible apply tG);kernel_rfl;intro _ _;(repeat apply tOp;intro _;simp only[List.append_assoc,List.length_append,List.length_cons,List.length_nil,List.cons_append,List.nil_append,objK,obj0,setK,set0,takeK,List.take_zero,List.take_succ_cons,List.set_cons_zero,List.set_cons_succ,List.getElem?_cons_zero,List.getElem?_cons_succ,Nat.reduceAdd,Nat.zero_add,List.length_map,go_sem,Nat.reduceAdd,reduceIte];rfl);rfl;simp only[go_sem];rfl
    exact finE [_,_] rfl
   |false =>
    simp only[Bool.or_self,Bool.false_eq_true,if_false]
    cases hC:(t.name==[45,62]) with
    |true =>
     simp only[if_true]
     cases hn:(((t.args.length:Nat):Int) != 2) with
     |true =>
      apply tA
      ·rfl
      ·rfl
      ·exact Tryz.func82
      ·rfl
      ·rfl
      ·simp only[go_sem,Nat.reduceAdd,reduceIte];rfl
      refine tQ ?_;repeat first|with_reducible constructor|(with_reducible apply tG);kernel_rfl;intro _ _;(repeat apply tOp;intro _;simp only[List.append_assoc,List.length_append,List.length_cons,List.length_nil,List.cons_append,List.nil_append,objK,obj0,setK,set0,takeK,List.take_zero,List.take_succ_cons,List.set_cons_zero,List.set_cons_succ,List.getElem?_cons_zero,List.getElem?_cons_succ,Nat.reduceAdd,Nat.zero_add,go_sem,Nat.reduceAdd,reduceIte];rfl);rfl;simp only[go_sem];rfl
      with_reducible apply tF
      ·simp only[go_sem];rfl
      ·exact hb
      refine tQ ?_;repeat first|with_reducible constructor|(with_reducible apply tG);kernel_rfl;intro _ _;(repeat apply tOp;intro _;simp only[List.append_assoc,List.length_append,List.length_cons,List.length_nil,List.cons_append,List.nil_append,objK,obj0,setK,set0,takeK,List.take_zero,List.take_succ_cons,List.set_cons_zero,List.set_cons_succ,List.getElem?_cons_zero,List.getElem?_cons_succ,Nat.reduceAdd,Nat.zero_add,hv,go_sem,Nat.reduceAdd,reduceIte];rfl);rfl;simp only[go_sem];rfl
      with_reducible apply tF
      ·simp only[go_sem];rfl
      ·exact hB
      refine tQ ?_;repeat first|with_reducible constructor|(with_reducible apply tG);kernel_rfl;intro _ _;(repeat apply tOp;intro _;simp only[List.append_assoc,List.length_append,List.length_cons,List.length_nil,List.cons_append,List.nil_append,objK,obj0,setK,set0,takeK,List.take_zero,List.take_succ_cons,List.set_cons_zero,List.set_cons_succ,List.getElem?_cons_zero,List.getElem?_cons_succ,Nat.reduceAdd,Nat.zero_add,go_sem,Nat.reduceAdd,reduceIte];rfl);rfl;simp only[go_sem];rfl
      with_reducible apply tT
      ·simp only[go_sem];rfl
      ·exact hC
      refine tQ ?_;repeat first|with_reducible constructor|(with_reducible apply tG);kernel_rfl;intro _ _;(repeat apply tOp;intro _;simp only[List.append_assoc,List.length_append,List.length_cons,List.length_nil,List.cons_append,List.nil_append,objK,obj0,setK,set0,takeK,List.take_zero,List.take_succ_cons,List.set_cons_zero,List.set_cons_succ,List.getElem?_cons_zero,List.getElem?_cons_succ,Nat.reduceAdd,Nat.zero_add,List.length_map,go_sem,Nat.reduceAdd,reduceIte];rfl);rfl;simp only[go_sem];rfl
      with_reducible apply tT
      ·simp only[go_sem];rfl
      ·exact hn
      refine tQ ?_;repeat first|with_reducible constructor|(with_reducible apply tG);kernel_rfl;intro _ _;(repeat apply tOp;intro _;simp only[List.append_assoc,List.length_append,List.length_cons,List.length_nil,List.cons_append,List.nil_append,objK,obj0,setK,set0,takeK,List.take_zero,List.take_succ_cons,List.set_cons_zero,List.set_cons_succ,List.getElem?_cons_zero,List.getElem?_cons_succ,Nat.reduceAdd,Nat.zero_add,go_sem,Nat.reduceAdd,reduceIte];rfl);rfl;simp only[go_sem];rfl
      exact finE [_,_] rfl
     |false =>
      apply tA
      ·rfl
      ·rfl
      ·exact Tryz.func82
      ·rfl
      ·rfl
      ·simp only[go_sem,Nat.reduceAdd,reduceIte];rfl
      refine tQ ?_;repeat first|with_reducible constructor|(with_reducible apply tG);kernel_rfl;intro _ _;(repeat apply tOp;intro _;simp only[List.append_assoc,List.length_append,List.length_cons,List.length_nil,List.cons_append,List.nil_append,objK,obj0,setK,set0,takeK,List.take_zero,List.take_succ_cons,List.set_cons_zero,List.set_cons_succ,List.getElem?_cons_zero,List.getElem?_cons_succ,Nat.reduceAdd,Nat.zero_add,go_sem,Nat.reduceAdd,reduceIte];rfl);rfl;simp only[go_sem];rfl
      with_reducible apply tF
      ·simp only[go_sem];rfl
      ·exact hb
      refine tQ ?_;repeat first|with_reducible constructor|(with_reducible apply tG);kernel_rfl;intro _ _;(repeat apply tOp;intro _;simp only[List.append_assoc,List.length_append,List.length_cons,List.length_nil,List.cons_append,List.nil_append,objK,obj0,setK,set0,takeK,List.take_zero,List.take_succ_cons,List.set_cons_zero,List.set_cons_succ,List.getElem?_cons_zero,List.getElem?_cons_succ,Nat.reduceAdd,Nat.zero_add,hv,go_sem,Nat.reduceAdd,reduceIte];rfl);rfl;simp only[go_sem];rfl
      with_reducible apply tF
      ·simp only[go_sem];rfl
      ·exact hB
      refine tQ ?_;repeat first|with_reducible constructor|(with_reducible apply tG);kernel_rfl;intro _ _;(repeat apply tOp;intro _;simp only[List.append_assoc,List.length_append,List.length_cons,List.length_nil,List.cons_append,List.nil_append,objK,obj0,setK,set0,takeK,List.take_zero,List.take_succ_cons,List.set_cons_zero,List.set_cons_succ,List.getElem?_cons_zero,List.getElem?_cons_succ,Nat.reduceAdd,Nat.zero_add,go_sem,Nat.reduceAdd,reduceIte];rfl);rfl;simp only[go_sem];rfl
      with_reducible apply tT
      ·simp only[go_sem];rfl
      ·exact hC
      refine tQ ?_;repeat first|with_reducible constructor|(with_reducible apply tG);kernel_rfl;intro _ _;(repeat apply tOp;intro _;simp only[List.append_assoc,List.length_append,List.length_cons,List.length_nil,List.cons_append,List.nil_append,objK,obj0,setK,set0,takeK,List.take_zero,List.take_succ_cons,List.set_cons_zero,List.set_cons_succ,List.getElem?_cons_zero,List.getElem?_cons_succ,Nat.reduceAdd,Nat.zero_add,List.length_map,go_sem,Nat.reduceAdd,reduceIte];rfl);rfl;simp only[go_sem];rfl
      with_reducible apply tF
      ·simp only[go_sem];rfl
      ·exact hn
      refine tQ ?_;repeat first|with_reducible constructor|(with_reducible apply tG);kernel_rfl;intro _ _;(repeat apply tOp;intro _;simp only[List.append_assoc,List.length_append,List.length_cons,List.length_nil,List.cons_append,List.nil_append,objK,obj0,setK,set0,takeK,List.take_zero,List.take_succ_cons,List.set_cons_zero,List.set_cons_succ,List.getElem?_cons_zero,List.getElem?_cons_succ,Nat.reduceAdd,Nat.zero_add,hc,go_sem,Nat.reduceAdd,reduceIte];rfl);rfl;simp only[go_sem];rfl
      exact finE [_,_] rfl
    |false =>
     simp only[Bool.false_eq_true,if_false]
     cases hD:(t.name==[44]) with
     |true =>
      simp only[if_true]
      cases hn:decide (((t.args.length:Nat):Int) < 2) with
      |true =>
       simp only[Bool.true_or,if_true]
       apply tA
       ·rfl
       ·rfl
       ·exact Tryz.func82
       ·rfl
       ·rfl
       ·simp only[go_sem,Nat.reduceAdd,reduceIte];rfl
       refine tQ ?_;repeat first|with_reducible constructor|(with_reducible apply tG);kernel_rfl;intro _ _;(repeat apply tOp;intro _;simp only[List.append_assoc,List.length_append,List.length_cons,List.length_nil,List.cons_append,List.nil_append,objK,obj0,setK,set0,takeK,List.take_zero,List.take_succ_cons,List.set_cons_zero,List.set_cons_succ,List.getElem?_cons_zero,List.getElem?_cons_succ,Nat.reduceAdd,Nat.zero_add,go_sem,Nat.reduceAdd,reduceIte];rfl);rfl;simp only[go_sem];rfl
       with_reducible apply tF
       ·simp only[go_sem];rfl
       ·exact hb
       refine tQ ?_;repeat first|with_reducible constructor|(with_reducible apply tG);kernel_rfl;intro _ _;(repeat apply tOp;intro _;simp only[List.append_assoc,List.length_append,List.length_cons,List.length_nil,List.cons_append,List.nil_append,objK,obj0,setK,set0,takeK,List.take_zero,List.take_succ_cons,List.set_cons_zero,List.set_cons_succ,List.getElem?_cons_zero,List.getElem?_cons_succ,Nat.reduceAdd,Nat.zero_add,hv,go_sem,Nat.reduceAdd,reduceIte];rfl);rfl;simp only[go_sem];rfl
       with_reducible apply tF
       ·simp only[go_sem];rfl
       ·exact hB
       refine tQ ?_;repeat first|with_reducible constructor|(with_reducible apply tG);kernel_rfl;intro _ _;(repeat apply tOp;intro _;simp only[List.append_assoc,List.length_append,List.length_cons,List.length_nil,List.cons_append,List.nil_append,objK,obj0,setK,set0,takeK,List.take_zero,List.take_succ_cons,List.set_cons_zero,List.set_cons_succ,List.getElem?_cons_zero,List.getElem?_cons_succ,Nat.reduceAdd,Nat.zero_add,go_sem,Nat.reduceAdd,reduceIte];rfl);rfl;simp only[go_sem];rfl
       with_reducible apply tF
       ·simp only[go_sem];rfl
       ·exact hC
       refine tQ ?_;repeat first|with_reducible constructor|(with_reducible apply tG);kernel_rfl;intro _ _;(repeat apply tOp;intro _;simp only[List.append_assoc,List.length_append,List.length_cons,List.length_nil,List.cons_append,List.nil_append,objK,obj0,setK,set0,takeK,List.take_zero,List.take_succ_cons,List.set_cons_zero,List.set_cons_succ,List.getElem?_cons_zero,List.getElem?_cons_succ,Nat.reduceAdd,Nat.zero_add,go_sem,Nat.reduceAdd,reduceIte];rfl);rfl;simp only[go_sem];rfl
       with_reducible apply tT
       ·simp only[go_sem];rfl
       ·exact hD
       refine tQ ?_;repeat first|with_reducible constructor|(with_reducible apply tG);kernel_rfl;intro _ _;(repeat apply tOp;intro _;simp only[List.append_assoc,List.length_append,List.length_cons,List.length_nil,List.cons_append,List.nil_append,objK,obj0,setK,set0,takeK,List.take_zero,List.take_succ_cons,List.set_cons_zero,List.set_cons_succ,List.getElem?_cons_zero,List.getElem?_cons_succ,Nat.reduceAdd,Nat.zero_add,List.length_map,hn,go_sem,Nat.reduceAdd,reduceIte];rfl);rfl;simp only[go_sem];rfl
       with_reducible apply tT
       ·simp only[go_sem];rfl
       ·rfl
       refine tQ ?_;repeat first|with_reducible constructor|(with_reducible apply tG);kernel_rfl;intro _ _;(repeat apply tOp;intro _;simp only[List.append_assoc,List.length_append,List.length_cons,List.length_nil,List.cons_append,List.nil_append,objK,obj0,setK,set0,takeK,List.take_zero,List.take_succ_cons,List.set_cons_zero,List.set_cons_succ,List.getElem?_cons_zero,List.getElem?_cons_succ,Nat.reduceAdd,Nat.zero_add,go_sem,Nat.reduceAdd,reduceIte];rfl);rfl;simp only[go_sem];rfl
       exact finE [_,_] rfl
      |false =>
       simp only[Bool.false_or]
       cases ho:decide (((t.args.length:Nat):Int) > 4) with
       |true =>
        simp only[if_true]
        apply tA
        ·rfl
        ·rfl
        ·exact Tryz.func82
        ·rfl
        ·rfl
        ·simp only[go_sem,Nat.reduceAdd,reduceIte];rfl
        refine tQ ?_;repeat first|with_reducible constructor|(with_reducible apply tG);kernel_rfl;intro _ _;(repeat apply tOp;intro _;simp only[List.append_assoc,List.length_append,List.length_cons,List.length_nil,List.cons_append,List.nil_append,objK,obj0,setK,set0,takeK,List.take_zero,List.take_succ_cons,List.set_cons_zero,List.set_cons_succ,List.getElem?_cons_zero,List.getElem?_cons_succ,Nat.reduceAdd,Nat.zero_add,go_sem,Nat.reduceAdd,reduceIte];rfl);rfl;simp only[go_sem];rfl
        with_reducible apply tF
        ·simp only[go_sem];rfl
        ·exact hb
        refine tQ ?_;repeat first|with_reducible constructor|(with_reducible apply tG);kernel_rfl;intro _ _;(repeat apply tOp;intro _;simp only[List.append_assoc,List.length_append,List.length_cons,List.length_nil,List.cons_append,List.nil_append,objK,obj0,setK,set0,takeK,List.take_zero,List.take_succ_cons,List.set_cons_zero,List.set_cons_succ,List.getElem?_cons_zero,List.getElem?_cons_succ,Nat.reduceAdd,Nat.zero_add,hv,go_sem,Nat.reduceAdd,reduceIte];rfl);rfl;simp only[go_sem];rfl
        with_reducible apply tF
        ·simp only[go_sem];rfl
        ·exact hB
        refine tQ ?_;repeat first|with_reducible constructor|(with_reducible apply tG);kernel_rfl;intro _ _;(repeat apply tOp;intro _;simp only[List.append_assoc,List.length_append,List.length_cons,List.length_nil,List.cons_append,List.nil_append,objK,obj0,setK,set0,takeK,List.take_zero,List.take_succ_cons,List.set_cons_zero,List.set_cons_succ,List.getElem?_cons_zero,List.getElem?_cons_succ,Nat.reduceAdd,Nat.zero_add,go_sem,Nat.reduceAdd,reduceIte];rfl);rfl;simp only[go_sem];rfl
        with_reducible apply tF
        ·simp only[go_sem];rfl
        ·exact hC
        refine tQ ?_;repeat first|with_reducible constructor|(with_reducible apply tG);kernel_rfl;intro _ _;(repeat apply tOp;intro _;simp only[List.append_assoc,List.length_append,List.length_cons,List.length_nil,List.cons_append,List.nil_append,objK,obj0,setK,set0,takeK,List.take_zero,List.take_succ_cons,List.set_cons_zero,List.set_cons_succ,List.getElem?_cons_zero,List.getElem?_cons_succ,Nat.reduceAdd,Nat.zero_add,go_sem,Nat.reduceAdd,reduceIte];rfl);rfl;simp only[go_sem];rfl
        with_reducible apply tT
        ·simp only[go_sem];rfl
        ·exact hD
        refine tQ ?_;repeat first|with_reducible constructor|(with_reducible apply tG);kernel_rfl;intro _ _;(repeat apply tOp;intro _;simp only[List.append_assoc,List.length_append,List.length_cons,List.length_nil,List.cons_append,List.nil_append,objK,obj0,setK,set0,takeK,List.take_zero,List.take_succ_cons,List.set_cons_zero,List.set_cons_succ,List.getElem?_cons_zero,List.getElem?_cons_succ,Nat.reduceAdd,Nat.zero_add,List.length_map,hn,ho,go_sem,Nat.reduceAdd,reduceIte];rfl);rfl;simp only[go_sem];rfl
        with_reducible apply tT
        ·simp only[go_sem];rfl
        ·rfl
        refine tQ ?_;repeat first|with_reducible constructor|(with_reducible apply tG);kernel_rfl;intro _ _;(repeat apply tOp;intro _;simp only[List.append_assoc,List.length_append,List.length_cons,List.length_nil,List.cons_append,List.nil_append,objK,obj0,setK,set0,takeK,List.take_zero,List.take_succ_cons,List.set_cons_zero,List.set_cons_succ,List.getElem?_cons_zero,List.getElem?_cons_succ,Nat.reduceAdd,Nat.zero_add,go_sem,Nat.reduceAdd,reduceIte];rfl);rfl;simp only[go_sem];rfl
        exact finE [_,_] rfl
       |false =>
        simp only[Bool.false_eq_true,if_false]
        apply tA
        ·rfl
        ·rfl
        ·exact Tryz.func82
        ·rfl
        ·rfl
        ·simp only[go_sem,Nat.reduceAdd,reduceIte];rfl
        refine tQ ?_;repeat first|with_reducible constructor|(with_reducible apply tG);kernel_rfl;intro _ _;(repeat apply tOp;intro _;simp only[List.append_assoc,List.length_append,List.length_cons,List.length_nil,List.cons_append,List.nil_append,objK,obj0,setK,set0,takeK,List.take_zero,List.take_succ_cons,List.set_cons_zero,List.set_cons_succ,List.getElem?_cons_zero,List.getElem?_cons_succ,Nat.reduceAdd,Nat.zero_add,go_sem,Nat.reduceAdd,reduceIte];rfl);rfl;simp only[go_sem];rfl
        with_reducible apply tF
        ·simp only[go_sem];rfl
        ·exact hb
        refine tQ ?_;repeat first|with_reducible constructor|(with_reducible apply tG);kernel_rfl;intro _ _;(repeat apply tOp;intro _;simp only[List.append_assoc,List.length_append,List.length_cons,List.length_nil,List.cons_append,List.nil_append,objK,obj0,setK,set0,takeK,List.take_zero,List.take_succ_cons,List.set_cons_zero,List.set_cons_succ,List.getElem?_cons_zero,List.getElem?_cons_succ,Nat.reduceAdd,Nat.zero_add,hv,go_sem,Nat.reduceAdd,reduceIte];rfl);rfl;simp only[go_sem];rfl
        with_reducible apply tF
        ·simp only[go_sem];rfl
        ·exact hB
        refine tQ ?_;repeat first|with_reducible constructor|(with_reducible apply tG);kernel_rfl;intro _ _;(repeat apply tOp;intro _;simp only[List.append_assoc,List.length_append,List.length_cons,List.length_nil,List.cons_append,List.nil_append,objK,obj0,setK,set0,takeK,List.take_zero,List.take_succ_cons,List.set_cons_zero,List.set_cons_succ,List.getElem?_cons_zero,List.getElem?_cons_succ,Nat.reduceAdd,Nat.zero_add,go_sem,Nat.reduceAdd,reduceIte];rfl);rfl;simp only[go_sem];rfl
        with_reducible apply tF
        ·simp only[go_sem];rfl
        ·exact hC
        refine tQ ?_;repeat first|with_reducible constructor|(with_reducible apply tG);kernel_rfl;intro _ _;(repeat apply tOp;intro _;simp only[List.append_assoc,List.length_append,List.length_cons,List.length_nil,List.cons_append,List.nil_append,objK,obj0,setK,set0,takeK,List.take_zero,List.take_succ_cons,List.set_cons_zero,List.set_cons_succ,List.getElem?_cons_zero,List.getElem?_cons_succ,Nat.reduceAdd,Nat.zero_add,go_sem,Nat.reduceAdd,reduceIte];rfl);rfl;simp only[go_sem];rfl
        with_reducible apply tT
        ·simp only[go_sem];rfl
        ·exact hD
        refine tQ ?_;repeat first|with_reducible constructor|(with_reducible apply tG);kernel_rfl;intro _ _;(repeat apply tOp;intro _;simp only[List.append_assoc,List.length_append,List.length_cons,List.length_nil,List.cons_append,List.nil_append,objK,obj0,setK,set0,takeK,List.take_zero,List.take_succ_cons,List.set_cons_zero,List.set_cons_succ,List.getElem?_cons_zero,List.getElem?_cons_succ,Nat.reduceAdd,Nat.zero_add,List.length_map,hn,ho,go_sem,Nat.reduceAdd,reduceIte];rfl);rfl;simp only[go_sem];rfl
        with_reducible apply tF
        ·simp only[go_sem];rfl
        ·rfl
        refine tQ ?_;repeat first|with_reducible constructor|(with_reducible apply tG);kernel_rfl;intro _ _;(repeat apply tOp;intro _;simp only[List.append_assoc,List.length_append,List.length_cons,List.length_nil,List.cons_append,List.nil_append,objK,obj0,setK,set0,takeK,List.take_zero,List.take_succ_cons,List.set_cons_zero,List.set_cons_succ,List.getElem?_cons_zero,List.getElem?_cons_succ,Nat.reduceAdd,Nat.zero_add,hc,go_sem,Nat.reduceAdd,reduceIte];rfl);rfl;simp only[go_sem];rfl
        exact finE [_,_] rfl
     |false =>
      simp only[Bool.false_eq_true,if_false]
      cases hq:(findD ds t.name).isSome with
      |false =>
       rw[hq] at hf
       simp only[Bool.not_false,Bool.true_or,if_true]
       apply tA
       ·rfl
       ·rfl
       ·exact Tryz.func82
       ·rfl
       ·rfl
       ·simp only[go_sem,Nat.reduceAdd,reduceIte];rfl
       refine tQ ?_;repeat first|with_reducible constructor|(with_reducible apply tG);kernel_rfl;intro _ _;(repeat apply tOp;intro _;simp only[List.append_assoc,List.length_append,List.length_cons,List.length_nil,List.cons_append,List.nil_append,objK,obj0,setK,set0,takeK,List.take_zero,List.take_succ_cons,List.set_cons_zero,List.set_cons_succ,List.getElem?_cons_zero,List.getElem?_cons_succ,Nat.reduceAdd,Nat.zero_add,go_sem,Nat.reduceAdd,reduceIte];rfl);rfl;simp only[go_sem];rfl
       with_reducible apply tF
       ·simp only[go_sem];rfl
       ·exact hb
       refine tQ ?_;repeat first|with_reducible constructor|(with_reducible apply tG);kernel_rfl;intro _ _;(repeat apply tOp;intro _;simp only[List.append_assoc,List.length_append,List.length_cons,List.length_nil,List.cons_append,List.nil_append,objK,obj0,setK,set0,takeK,List.take_zero,List.take_succ_cons,List.set_cons_zero,List.set_cons_succ,List.getElem?_cons_zero,List.getElem?_cons_succ,Nat.reduceAdd,Nat.zero_add,hv,go_sem,Nat.reduceAdd,reduceIte];rfl);rfl;simp only[go_sem];rfl
       with_reducible apply tF
       ·simp only[go_sem];rfl
       ·exact hB
       refine tQ ?_;repeat first|with_reducible constructor|(with_reducible apply tG);kernel_rfl;intro _ _;(repeat apply tOp;intro _;simp only[List.append_assoc,List.length_append,List.length_cons,List.length_nil,List.cons_append,List.nil_append,objK,obj0,setK,set0,takeK,List.take_zero,List.take_succ_cons,List.set_cons_zero,List.set_cons_succ,List.getElem?_cons_zero,List.getElem?_cons_succ,Nat.reduceAdd,Nat.zero_add,go_sem,Nat.reduceAdd,reduceIte];rfl);rfl;simp only[go_sem];rfl
       with_reducible apply tF
       ·simp only[go_sem];rfl
       ·exact hC
       refine tQ ?_;repeat first|with_reducible constructor|(with_reducible apply tG);kernel_rfl;intro _ _;(repeat apply tOp;intro _;simp only[List.append_assoc,List.length_append,List.length_cons,List.length_nil,List.cons_append,List.nil_append,objK,obj0,setK,set0,takeK,List.take_zero,List.take_succ_cons,List.set_cons_zero,List.set_cons_succ,List.getElem?_cons_zero,List.getElem?_cons_succ,Nat.reduceAdd,Nat.zero_add,go_sem,Nat.reduceAdd,reduceIte];rfl);rfl;simp only[go_sem];rfl
       with_reducible apply tF
       ·simp only[go_sem];rfl
       ·exact hD
       refine tQ ?_;repeat first|with_reducible constructor|(with_reducible apply tG);kernel_rfl;intro _ _;(repeat apply tOp;intro _;simp only[List.append_assoc,List.length_append,List.length_cons,List.length_nil,List.cons_append,List.nil_append,objK,obj0,setK,set0,takeK,List.take_zero,List.take_succ_cons,List.set_cons_zero,List.set_cons_succ,List.getElem?_cons_zero,List.getElem?_cons_succ,Nat.reduceAdd,Nat.zero_add,hf,List.length_map,go_sem,Nat.reduceAdd,reduceIte];rfl);rfl;simp only[go_sem];rfl
       with_reducible apply tT
       ·simp only[go_sem];rfl
       ·rfl
       refine tQ ?_;repeat first|with_reducible constructor|(with_reducible apply tG);kernel_rfl;intro _ _;(repeat apply tOp;intro _;simp only[List.append_assoc,List.length_append,List.length_cons,List.length_nil,List.cons_append,List.nil_append,objK,obj0,setK,set0,takeK,List.take_zero,List.take_succ_cons,List.set_cons_zero,List.set_cons_succ,List.getElem?_cons_zero,List.getElem?_cons_succ,Nat.reduceAdd,Nat.zero_add,go_sem,Nat.reduceAdd,reduceIte];rfl);rfl;simp only[go_sem];rfl
       exact finE [_,_] rfl
      |true =>
       rw[hq] at hf
       simp only[Bool.not_true,Bool.false_or]
       cases ho:(((((findD ds t.name).getD zeroDa).vars.length:Nat):Int) != ((t.args.length:Nat):Int)) with
       |true =>
        simp only[if_true]
        apply tA
        ·rfl
        ·rfl
        ·exact Tryz.func82
        ·rfl
        ·rfl
        ·simp only[go_sem,Nat.reduceAdd,reduceIte];rfl
        refine tQ ?_;repeat first|with_reducible constructor|(with_reducible apply tG);kernel_rfl;intro _ _;(repeat apply tOp;intro _;simp only[List.append_assoc,List.length_append,List.length_cons,List.length_nil,List.cons_append,List.nil_append,objK,obj0,setK,set0,takeK,List.take_zero,List.take_succ_cons,List.set_cons_zero,List.set_cons_succ,List.getElem?_cons_zero,List.getElem?_cons_succ,Nat.reduceAdd,Nat.zero_add,go_sem,Nat.reduceAdd,reduceIte];rfl);rfl;simp only[go_sem];rfl
        with_reducible apply tF
        ·simp only[go_sem];rfl
        ·exact hb
        refine tQ ?_;repeat first|with_reducible constructor|(with_reducible apply tG);kernel_rfl;intro _ _;(repeat apply tOp;intro _;simp only[List.append_assoc,List.length_append,List.length_cons,List.length_nil,List.cons_append,List.nil_append,objK,obj0,setK,set0,takeK,List.take_zero,List.take_succ_cons,List.set_cons_zero,List.set_cons_succ,List.getElem?_cons_zero,List.getElem?_cons_succ,Nat.reduceAdd,Nat.zero_add,hv,go_sem,Nat.reduceAdd,reduceIte];rfl);rfl;simp only[go_sem];rfl
        with_reducible apply tF
        ·simp only[go_sem];rfl
        ·exact hB
        refine tQ ?_;repeat first|with_reducible constructor|(with_reducible apply tG);kernel_rfl;intro _ _;(repeat apply tOp;intro _;simp only[List.append_assoc,List.length_append,List.length_cons,List.length_nil,List.cons_append,List.nil_append,objK,obj0,setK,set0,takeK,List.take_zero,List.take_succ_cons,List.set_cons_zero,List.set_cons_succ,List.getElem?_cons_zero,List.getElem?_cons_succ,Nat.reduceAdd,Nat.zero_add,go_sem,Nat.reduceAdd,reduceIte];rfl);rfl;simp only[go_sem];rfl
        with_reducible apply tF
        ·simp only[go_sem];rfl
        ·exact hC
        refine tQ ?_;repeat first|with_reducible constructor|(with_reducible apply tG);kernel_rfl;intro _ _;(repeat apply tOp;intro _;simp only[List.append_assoc,List.length_append,List.length_cons,List.length_nil,List.cons_append,List.nil_append,objK,obj0,setK,set0,takeK,List.take_zero,List.take_succ_cons,List.set_cons_zero,List.set_cons_succ,List.getElem?_cons_zero,List.getElem?_cons_succ,Nat.reduceAdd,Nat.zero_add,go_sem,Nat.reduceAdd,reduceIte];rfl);rfl;simp only[go_sem];rfl
        with_reducible apply tF
        ·simp only[go_sem];rfl
        ·exact hD
        refine tQ ?_;repeat first|with_reducible constructor|(with_reducible apply tG);kernel_rfl;intro _ _;(repeat apply tOp;intro _;simp only[List.append_assoc,List.length_append,List.length_cons,List.length_nil,List.cons_append,List.nil_append,objK,obj0,setK,set0,takeK,List.take_zero,List.take_succ_cons,List.set_cons_zero,List.set_cons_succ,List.getElem?_cons_zero,List.getElem?_cons_succ,Nat.reduceAdd,Nat.zero_add,hf,List.length_map,ho,go_sem,Nat.reduceAdd,reduceIte];rfl);rfl;simp only[go_sem];rfl
        with_reducible apply tT
        ·simp only[go_sem];rfl
        ·rfl
        refine tQ ?_;repeat first|with_reducible constructor|(with_reducible apply tG);kernel_rfl;intro _ _;(repeat apply tOp;intro _;simp only[List.append_assoc,List.length_append,List.length_cons,List.length_nil,List.cons_append,List.nil_append,objK,obj0,setK,set0,takeK,List.take_zero,List.take_succ_cons,List.set_cons_zero,List.set_cons_succ,List.getElem?_cons_zero,List.getElem?_cons_succ,Nat.reduceAdd,Nat.zero_add,go_sem,Nat.reduceAdd,reduceIte];rfl);rfl;simp only[go_sem];rfl
        exact finE [_,_] rfl
       |false =>
        simp only[Bool.false_eq_true,if_false]
        apply tA
        ·rfl
        ·rfl
        ·exact Tryz.func82
        ·rfl
        ·rfl
        ·simp only[go_sem,Nat.reduceAdd,reduceIte];rfl
        refine tQ ?_;repeat first|with_reducible constructor|(with_reducible apply tG);kernel_rfl;intro _ _;(repeat apply tOp;intro _;simp only[List.append_assoc,List.length_append,List.length_cons,List.length_nil,List.cons_append,List.nil_append,objK,obj0,setK,set0,takeK,List.take_zero,List.take_succ_cons,List.set_cons_zero,List.set_cons_succ,List.getElem?_cons_zero,List.getElem?_cons_succ,Nat.reduceAdd,Nat.zero_add,go_sem,Nat.reduceAdd,reduceIte];rfl);rfl;simp only[go_sem];rfl
        with_reducible apply tF
        ·simp only[go_sem];rfl
        ·exact hb
        refine tQ ?_;repeat first|with_reducible constructor|(with_reducible apply tG);kernel_rfl;intro _ _;(repeat apply tOp;intro _;simp only[List.append_assoc,List.length_append,List.length_cons,List.length_nil,List.cons_append,List.nil_append,objK,obj0,setK,set0,takeK,List.take_zero,List.take_succ_cons,List.set_cons_zero,List.set_cons_succ,List.getElem?_cons_zero,List.getElem?_cons_succ,Nat.reduceAdd,Nat.zero_add,hv,go_sem,Nat.reduceAdd,reduceIte];rfl);rfl;simp only[go_sem];rfl
        with_reducible apply tF
        ·simp only[go_sem];rfl
        ·exact hB
        refine tQ ?_;repeat first|with_reducible constructor|(with_reducible apply tG);kernel_rfl;intro _ _;(repeat apply tOp;intro _;simp only[List.append_assoc,List.length_append,List.length_cons,List.length_nil,List.cons_append,List.nil_append,objK,obj0,setK,set0,takeK,List.take_zero,List.take_succ_cons,List.set_cons_zero,List.set_cons_succ,List.getElem?_cons_zero,List.getElem?_cons_succ,Nat.reduceAdd,Nat.zero_add,go_sem,Nat.reduceAdd,reduceIte];rfl);rfl;simp only[go_sem];rfl
        with_reducible apply tF
        ·simp only[go_sem];rfl
        ·exact hC
        refine tQ ?_;repeat first|with_reducible constructor|(with_reducible apply tG);kernel_rfl;intro _ _;(repeat apply tOp;intro _;simp only[List.append_assoc,List.length_append,List.length_cons,List.length_nil,List.cons_append,List.nil_append,objK,obj0,setK,set0,takeK,List.take_zero,List.take_succ_cons,List.set_cons_zero,List.set_cons_succ,List.getElem?_cons_zero,List.getElem?_cons_succ,Nat.reduceAdd,Nat.zero_add,go_sem,Nat.reduceAdd,reduceIte];rfl);rfl;simp only[go_sem];rfl
        with_reducible apply tF
        ·simp only[go_sem];rfl
        ·exact hD
        refine tQ ?_;repeat first|with_reducible constructor|(with_reducible apply tG);kernel_rfl;intro _ _;(repeat apply tOp;intro _;simp only[List.append_assoc,List.length_append,List.length_cons,List.length_nil,List.cons_append,List.nil_append,objK,obj0,setK,set0,takeK,List.take_zero,List.take_succ_cons,List.set_cons_zero,List.set_cons_succ,List.getElem?_cons_zero,List.getElem?_cons_succ,Nat.reduceAdd,Nat.zero_add,hf,List.length_map,ho,go_sem,Nat.reduceAdd,reduceIte];rfl);rfl;simp only[go_sem];rfl
        with_reducible apply tF
        ·simp only[go_sem];rfl
        ·rfl
        refine tQ ?_;repeat first|with_reducible constructor|(with_reducible apply tG);kernel_rfl;intro _ _;(repeat apply tOp;intro _;simp only[List.append_assoc,List.length_append,List.length_cons,List.length_nil,List.cons_append,List.nil_append,objK,obj0,setK,set0,takeK,List.take_zero,List.take_succ_cons,List.set_cons_zero,List.set_cons_succ,List.getElem?_cons_zero,List.getElem?_cons_succ,Nat.reduceAdd,Nat.zero_add,hc,go_sem,Nat.reduceAdd,reduceIte];rfl);rfl;simp only[go_sem];rfl
        exact finE [_,_] rfl
end Go.Proofs.YtkmnkiekmlcfdaaGreatDoor
