/- Part E11 of the proof of one law of the program. -/
import Derived.Test.YtkmnkiekmlcfdaaGreatDoorE10
set_option linter.all false
set_option linter.unusedVariables false
set_option linter.unusedSimpArgs false
set_option linter.unusedSectionVars false
set_option linter.unnecessarySimpa false
namespace Go.Proofs.YtkmnkiekmlcfdaaGreatDoor
open Go.AM
attribute [local go_sem] opsK oneK stepK callK argsA capsA elemsA mvK mv asV asSl AM.asInt AM.asBool asPlace asBox asObj asMap cellsOfPlace writePlace asCells optInt sliceCut drawnPlace opS RS.look RS.put RS.putO alook tlook commit persist constS constT absV absC dstOk noRefTo guardB abin abinT isNilSlice isNilIface nilTest Nat.beq Nat.ble Nat.blt cond_true cond_false Bool.and_true Bool.true_and Bool.and_self Bool.not_true Bool.not_false Bool.or_true Bool.or_false Bool.false_or Bool.true_or Bool.and_false Bool.false_and List.all_nil List.all_cons List.contains List.elem Option.bind_some Option.map_some Option.getD_some cAgg cInt cBool cStr cSlice cFunc cNilf cNilp cNilm cLoc cMap cYld List.take_succ_cons List.take_zero List.drop_zero List.drop_succ_cons Nat.zero_add Cell.get Cell.lok AM.lok lokF noRefS partOf List.map_nil List.map_cons List.length_cons List.length_nil List.getElem?_cons_zero List.getElem?_cons_succ List.nil_append List.cons_append List.append_nil List.getElem?_toArray List.toList_toArray Option.bind_none Option.map_none objs1 objs2 objs3 objs32 oset1 setCells List.take_append_drop List.drop_nil List.take_nil Tryz.underlying0 sz3 ag3 zo3 by3 Tryz.underlying3 sz4 ag4 zo4 zc4 Tryz.underlying4 sz9 ag9 zo9 by9 Tryz.underlying9 sz23 ag23 se23 Tryz.underlying23 sz25 ag25 zo25 zc25 by25 Tryz.underlying25 pl25 sz26 ag26 se26 zo26 by26 Tryz.underlying26 sz30 ag30 zo30 zc30 by30 Tryz.underlying30 pl30 sz61 ag61 zo61 zc61 by61 Tryz.underlying61 pl61
section
open Go.AM
attribute [local go_sem] an39 sz22 ag22 Tryz.underlying22 sz31 ag31 zc31 Tryz.underlying31 sz58 ag58 se58 Tryz.underlying58 sz72 ag72 se72 Tryz.underlying72 sz116 ag116 zc116 Tryz.underlying116 pl116
set_option maxRecDepth 100000
set_option maxHeartbeats 1000000
variable {kd:List UInt8→Int}
def chkPsL (nm:List UInt8→Bool) (ds:List DaD) (t:TyD):List PaD→Int
 |[]=>0
 |p::l=>if deepD 60 p then 6 else if validD nm ds t p != 0 then validD nm ds t p else chkPsL nm ds t l
def chkPs (vr cn nm:List UInt8→Bool) (ds:List DaD) (t:TyD) (l:List PaD):Int :=
 if !chkT vr cn ds t then 55 else if manyD l then 2 else if ((l.length:Nat):Int)==0 then 50 else chkPsL nm ds t l
theorem loop39 {ds:List DaD} (h:DsOk ds) (t:TyD) (sto:Sto) (hlo:sto.lo≤sto.objs.length) (ys:List PaD):∀ (pre:List PaD),(pre++ys).length < big→(∀ y∈ys,y.size < big) →
  ∃ (b:Bool),(b=false→chkPsL (isK kd 2) ds t ys=0)∧∃ (s0 s1 s2 s4 s6 s7 s9 s10 s15 s17 s20 s24 s25 s26 s27 s31 s37:Slot),LP kd 39 (loopOf Tryz.f39 0) ⟨[.val (.slice (ds.map DaD.enc)),.dead,.dead,.box [.val (.str t.name),.val (.slice (t.args.map TyD.enc))],.dead,.dead,.dead,.dead,.dead,.dead,.dead,.val (.slice ((pre++ys).map PaD.enc)),.val (.int .i64 ((pre++ys).length:Nat)),.val (.int .i64 (pre.length:Nat)),.dead,.dead,.dead],sto⟩ =
   bif b then some (.ret,⟨[s0,s1,s2,s4,.val (.int .i64 (chkPsL (isK kd 2) ds t ys)),s7,s9,s10,s15,s17,s20,s24,s25,s26,s27,s31,s37],sto⟩) else some (.exit 1,⟨[s0,s1,s2,s4,s6,s7,s9,s10,s15,s17,s20,s24,s25,s26,s27,s31,s37],sto⟩):=by
 induction ys with
 |nil =>
  intro pre h3 h2
  have hlt:=geI pre
  simp only[chkPsL,List.append_nil]
  refine ⟨false,fun _=>by trivial,?_⟩
  simp only[cond_false]
  iterate 17 apply Exists.intro
  refine tI rfl ?_
  refine tQ ?_;repeat first|with_reducible constructor|(with_reducible apply tG);kernel_rfl;intro _ _;(repeat apply tOp;intro _;simp only[go_sem,Nat.reduceAdd,reduceIte];rfl);rfl;simp only[go_sem];rfl
  with_reducible apply tF
  ·simp only[go_sem];rfl
  ·exact hlt
  refine tQ ?_
  repeat with_reducible constructor
  exact tlX
  all_goals exact .dead
 |cons y ys ih =>
  intro pre h3 h2
  have hget:=getI PaD.enc pre ys y
  have hlt:=ltI pre ys y
  have h0:=zI pre.length
  have hw:=wL pre ys y h3
  have hy:=h2 y (by simp)
  have h83:=c83 (kd:=kd) 60 (by simp [big]) y sto hy
  have e60:((60:Nat):Int)=60:=rfl
  rw[e60] at h83
  have h55:=c55 (kd:=kd) h t y hy sto hlo
  rw[y.enc_eq] at hget h83 h55
  rw[t.enc_eq] at h55
  simp only[chkPsL]
  cases g1:deepD 60 y with
  |true =>
   rw[g1] at h83
   simp only[if_true]
   refine ⟨true,fun h=>by simp at h,?_⟩
   simp only[cond_true]
   iterate 17 apply Exists.intro
   refine tI rfl ?_
   refine tQ ?_;repeat first|with_reducible constructor|(with_reducible apply tG);kernel_rfl;intro _ _;(repeat apply tOp;intro _;simp only[go_sem,Nat.reduceAdd,reduceIte];rfl);rfl;simp only[go_sem];rfl
   with_reducible apply tT
   ·simp only[go_sem];rfl
   ·exact hlt
   refine tQ ?_;repeat first|with_reducible constructor|(with_reducible apply tG);kernel_rfl;intro _ _;(repeat apply tOp;intro _;simp only[hget,h0,h83,go_sem,Nat.reduceAdd,reduceIte];rfl);rfl;simp only[go_sem];rfl
   with_reducible apply tT
   ·simp only[go_sem];rfl
   ·rfl
   refine tQ ?_;repeat first|with_reducible constructor|(with_reducible apply tG);kernel_rfl;intro _ _;(repeat apply tOp;intro _;simp only[go_sem,Nat.reduceAdd,reduceIte];rfl);rfl;simp only[go_sem];rfl
   exact tlE
   all_goals exact .dead
  |false =>
   rw[g1] at h83
   simp only[Bool.false_eq_true,if_false]
   cases g2:(validD (isK kd 2) ds t y != 0) with
   |true =>
    simp only[if_true]
    refine ⟨true,fun h=>by simp at h,?_⟩
    simp only[cond_true]
    iterate 17 apply Exists.intro
    refine tI rfl ?_
    refine tQ ?_;repeat first|with_reducible constructor|(with_reducible apply tG);kernel_rfl;intro _ _;(repeat apply tOp;intro _;simp only[go_sem,Nat.reduceAdd,reduceIte];rfl);rfl;simp only[go_sem];rfl
    with_reducible apply tT
    ·simp only[go_sem];rfl
    ·exact hlt
    refine tQ ?_;repeat first|with_reducible constructor|(with_reducible apply tG);kernel_rfl;intro _ _;(repeat apply tOp;intro _;simp only[hget,h0,h83,go_sem,Nat.reduceAdd,reduceIte];rfl);rfl;simp only[go_sem];rfl
    with_reducible apply tF
    ·simp only[go_sem];rfl
    ·rfl
    refine tQ ?_;repeat first|with_reducible constructor|(with_reducible apply tG);kernel_rfl;intro _ _;(repeat apply tOp;intro _;simp only[h55,go_sem,Nat.reduceAdd,reduceIte];rfl);rfl;simp only[go_sem];rfl
    with_reducible apply tT
    ·simp only[go_sem];rfl
    ·exact g2
    refine tQ ?_;repeat first|with_reducible constructor|(with_reducible apply tG);kernel_rfl;intro _ _;(repeat apply tOp;intro _;simp only[go_sem,Nat.reduceAdd,reduceIte];rfl);rfl;simp only[go_sem];rfl
    exact tlE
    all_goals exact .dead
   |false =>
    simp only[Bool.false_eq_true,if_false]
    obtain ⟨b,hbz,s0,s1,s2,s4,s6,s7,s9,s10,s15,s17,s20,s24,s25,s26,s27,s31,s37,ih⟩:=ih (pre++[y]) (by simpa using h3) (fun x hx=>h2 x (by simp [hx]))
    simp only[List.append_assoc,List.singleton_append] at ih
    refine ⟨b,hbz,s0,s1,s2,s4,s6,s7,s9,s10,s15,s17,s20,s24,s25,s26,s27,s31,s37,?_⟩
    cases b with
    |true =>
     simp only[cond_true] at ih ⊢
     refine tI rfl ?_
     refine tQ ?_;repeat first|with_reducible constructor|(with_reducible apply tG);kernel_rfl;intro _ _;(repeat apply tOp;intro _;simp only[go_sem,Nat.reduceAdd,reduceIte];rfl);rfl;simp only[go_sem];rfl
     with_reducible apply tT
     ·simp only[go_sem];rfl
     ·exact hlt
     refine tQ ?_;repeat first|with_reducible constructor|(with_reducible apply tG);kernel_rfl;intro _ _;(repeat apply tOp;intro _;simp only[hget,h0,h83,go_sem,Nat.reduceAdd,reduceIte];rfl);rfl;simp only[go_sem];rfl
     with_reducible apply tF
     ·simp only[go_sem];rfl
     ·rfl
     refine tQ ?_;repeat first|with_reducible constructor|(with_reducible apply tG);kernel_rfl;intro _ _;(repeat apply tOp;intro _;simp only[h55,go_sem,Nat.reduceAdd,reduceIte];rfl);rfl;simp only[go_sem];rfl
     with_reducible apply tF
     ·simp only[go_sem];rfl
     ·exact g2
     refine tQ ?_;repeat first|with_reducible constructor|(with_reducible apply tG);kernel_rfl;intro _ _;(repeat apply tOp;intro _;simp only[hw,go_sem,Nat.reduceAdd,reduceIte];rfl);rfl;simp only[go_sem];rfl
     exact ih
    |false =>
     simp only[cond_false] at ih ⊢
     refine tI rfl ?_
     refine tQ ?_;repeat first|with_reducible constructor|(with_reducible apply tG);kernel_rfl;intro _ _;(repeat apply tOp;intro _;simp only[go_sem,Nat.reduceAdd,reduceIte];rfl);rfl;simp only[go_sem];rfl
     with_reducible apply tT
     ·simp only[go_sem];rfl
     ·exact hlt
     refine tQ ?_;repeat first|with_reducible constructor|(with_reducible apply tG);kernel_rfl;intro _ _;(repeat apply tOp;intro _;simp only[hget,h0,h83,go_sem,Nat.reduceAdd,reduceIte];rfl);rfl;simp only[go_sem];rfl
     with_reducible apply tF
     ·simp only[go_sem];rfl
     ·rfl
     refine tQ ?_;repeat first|with_reducible constructor|(with_reducible apply tG);kernel_rfl;intro _ _;(repeat apply tOp;intro _;simp only[h55,go_sem,Nat.reduceAdd,reduceIte];rfl);rfl;simp only[go_sem];rfl
     with_reducible apply tF
     ·simp only[go_sem];rfl
     ·exact g2
     refine tQ ?_;repeat first|with_reducible constructor|(with_reducible apply tG);kernel_rfl;intro _ _;(repeat apply tOp;intro _;simp only[hw,go_sem,Nat.reduceAdd,reduceIte];rfl);rfl;simp only[go_sem];rfl
     exact ih
theorem c39 {ds:List DaD} (h:DsOk ds) (t:TyD) (ht:t.size < big) (l:List PaD) (hl:PaD.sizes l+1 < big) (sto:Sto) (hlo:sto.lo≤sto.objs.length) :
  CF kd (.fn 39) [.val (.slice (ds.map DaD.enc)),.val t.enc,.val (.slice (l.map PaD.enc))] sto=some (.ret (.val (.int .i64 (chkPs (isK kd 4) (isK kd 3) (isK kd 2) ds t l))),sto):=by
 have h30:=c30 (kd:=kd) h t ht sto hlo
 have h84:=c84 (kd:=kd) l sto hl
 have hll:=PaD.sizes_len l
 obtain ⟨b,hbz,s0,s1,s2,s4,s6,s7,s9,s10,s15,s17,s20,s24,s25,s26,s27,s31,s37,hlp⟩:=loop39 (kd:=kd) h t sto hlo l [] (by simp only[List.nil_append];omega) (fun y hy=>by have:=PaD.sizes_mem hy;omega)
 simp only[List.nil_append,List.length_nil] at hlp
 have e0:((0:Nat):Int)=0:=rfl
 rw[e0] at hlp
 simp only[chkPs]
 rw[t.enc_eq] at h30 ⊢
 cases g1:chkT (isK kd 4) (isK kd 3) ds t with
 |false =>
  rw[g1] at h30
  simp only[cond_false] at h30
  simp only[Bool.not_false,if_true]
  apply tA
  ·rfl
  ·rfl
  ·exact Tryz.func39
  ·rfl
  ·rfl
  ·simp only[go_sem,Nat.reduceAdd,reduceIte];rfl
  refine tQ ?_;repeat first|with_reducible constructor|(with_reducible apply tG);kernel_rfl;intro _ _;(repeat apply tOp;intro _;simp only[h30,go_sem,Nat.reduceAdd,reduceIte];rfl);rfl;simp only[go_sem];rfl
  with_reducible apply tT
  ·simp only[go_sem];rfl
  ·rfl
  refine tQ ?_;repeat first|with_reducible constructor|(with_reducible apply tG);kernel_rfl;intro _ _;(repeat apply tOp;intro _;simp only[go_sem,Nat.reduceAdd,reduceIte];rfl);rfl;simp only[go_sem];rfl
  exact fin0 rfl
 |true =>
  rw[g1] at h30
  simp only[cond_true] at h30
  simp only[Bool.not_true,Bool.false_eq_true,if_false]
  cases g2:manyD l with
  |true =>
   rw[g2] at h84
   simp only[if_true]
   apply tA
   ·rfl
   ·rfl
   ·exact Tryz.func39
   ·rfl
   ·rfl
   ·simp only[go_sem,Nat.reduceAdd,reduceIte];rfl
   refine tQ ?_;repeat first|with_reducible constructor|(with_reducible apply tG);kernel_rfl;intro _ _;(repeat apply tOp;intro _;simp only[h30,go_sem,Nat.reduceAdd,reduceIte];rfl);rfl;simp only[go_sem];rfl
   with_reducible apply tF
   ·simp only[go_sem];rfl
   ·rfl
   refine tQ ?_;repeat first|with_reducible constructor|(with_reducible apply tG);kernel_rfl;intro _ _;(repeat apply tOp;intro _;simp only[h84,go_sem,Nat.reduceAdd,reduceIte];rfl);rfl;simp only[go_sem];rfl
   with_reducible apply tT
   ·simp only[go_sem];rfl
   ·rfl
   refine tQ ?_;repeat first|with_reducible constructor|(with_reducible apply tG);kernel_rfl;intro _ _;(repeat apply tOp;intro _;simp only[go_sem,Nat.reduceAdd,reduceIte];rfl);rfl;simp only[go_sem];rfl
   exact fin0 rfl
  |false =>
   rw[g2] at h84
   simp only[Bool.false_eq_true,if_false]
   cases g3:(((l.length:Nat):Int)==0) with
   |true =>
    simp only[if_true]
    apply tA
    ·rfl
    ·rfl
    ·exact Tryz.func39
    ·rfl
    ·rfl
    ·simp only[go_sem,Nat.reduceAdd,reduceIte];rfl
    refine tQ ?_;repeat first|with_reducible constructor|(with_reducible apply tG);kernel_rfl;intro _ _;(repeat apply tOp;intro _;simp only[h30,go_sem,Nat.reduceAdd,reduceIte];rfl);rfl;simp only[go_sem];rfl
    with_reducible apply tF
    ·simp only[go_sem];rfl
    ·rfl
    refine tQ ?_;repeat first|with_reducible constructor|(with_reducible apply tG);kernel_rfl;intro _ _;(repeat apply tOp;intro _;simp only[h84,go_sem,Nat.reduceAdd,reduceIte];rfl);rfl;simp only[go_sem];rfl
    with_reducible apply tF
    ·simp only[go_sem];rfl
    ·rfl
    refine tQ ?_;repeat first|with_reducible constructor|(with_reducible apply tG);kernel_rfl;intro _ _;(repeat apply tOp;intro _;simp only[List.length_map,go_sem,Nat.reduceAdd,reduceIte];rfl);rfl;simp only[go_sem];rfl
    with_reducible apply tT
    ·simp only[go_sem];rfl
    ·exact g3
    refine tQ ?_;repeat first|with_reducible constructor|(with_reducible apply tG);kernel_rfl;intro _ _;(repeat apply tOp;intro _;simp only[go_sem,Nat.reduceAdd,reduceIte];rfl);rfl;simp only[go_sem];rfl
    exact fin0 rfl
   |false =>
    simp only[Bool.false_eq_true,if_false]
    cases b with
    |true =>
     simp only[cond_true] at hlp
     apply tA
     ·rfl
     ·rfl
     ·exact Tryz.func39
     ·rfl
     ·rfl
     ·simp only[go_sem,Nat.reduceAdd,reduceIte];rfl
     refine tQ ?_;repeat first|with_reducible constructor|(with_reducible apply tG);kernel_rfl;intro _ _;(repeat apply tOp;intro _;simp only[h30,go_sem,Nat.reduceAdd,reduceIte];rfl);rfl;simp only[go_sem];rfl
     with_reducible apply tF
     ·simp only[go_sem];rfl
     ·rfl
     refine tQ ?_;repeat first|with_reducible constructor|(with_reducible apply tG);kernel_rfl;intro _ _;(repeat apply tOp;intro _;simp only[h84,go_sem,Nat.reduceAdd,reduceIte];rfl);rfl;simp only[go_sem];rfl
     with_reducible apply tF
     ·simp only[go_sem];rfl
     ·rfl
     refine tQ ?_;repeat first|with_reducible constructor|(with_reducible apply tG);kernel_rfl;intro _ _;(repeat apply tOp;intro _;simp only[List.length_map,go_sem,Nat.reduceAdd,reduceIte];rfl);rfl;simp only[go_sem];rfl
     with_reducible apply tF
     ·simp only[go_sem];rfl
     ·exact g3
     refine tQ ?_;repeat first|with_reducible constructor|(with_reducible apply tG);kernel_rfl;intro _ _;(repeat apply tOp;intro _;simp only[List.length_map,go_sem,Nat.reduceAdd,reduceIte];rfl);rfl;simp only[go_sem];rfl
     apply tL
     ·exact hlp
     refine tQ ?_;repeat first|with_reducible constructor|(with_reducible apply tG);kernel_rfl;intro _ _;(repeat apply tOp;intro _;simp only[go_sem,Nat.reduceAdd,reduceIte];rfl);rfl;simp only[go_sem];rfl
     exact fin0 rfl
    |false =>
     simp only[cond_false] at hlp
     rw[hbz rfl]
     apply tA
     ·rfl
     ·rfl
     ·exact Tryz.func39
     ·rfl
     ·rfl
     ·simp only[go_sem,Nat.reduceAdd,reduceIte];rfl
     refine tQ ?_;repeat first|with_reducible constructor|(with_reducible apply tG);kernel_rfl;intro _ _;(repeat apply tOp;intro _;simp only[h30,go_sem,Nat.reduceAdd,reduceIte];rfl);rfl;simp only[go_sem];rfl
     with_reducible apply tF
     ·simp only[go_sem];rfl
     ·rfl
     refine tQ ?_;repeat first|with_reducible constructor|(with_reducible apply tG);kernel_rfl;intro _ _;(repeat apply tOp;intro _;simp only[h84,go_sem,Nat.reduceAdd,reduceIte];rfl);rfl;simp only[go_sem];rfl
     with_reducible apply tF
     ·simp only[go_sem];rfl
     ·rfl
     refine tQ ?_;repeat first|with_reducible constructor|(with_reducible apply tG);kernel_rfl;intro _ _;(repeat apply tOp;intro _;simp only[List.length_map,go_sem,Nat.reduceAdd,reduceIte];rfl);rfl;simp only[go_sem];rfl
     with_reducible apply tF
     ·simp only[go_sem];rfl
     ·exact g3
     refine tQ ?_;repeat first|with_reducible constructor|(with_reducible apply tG);kernel_rfl;intro _ _;(repeat apply tOp;intro _;simp only[List.length_map,go_sem,Nat.reduceAdd,reduceIte];rfl);rfl;simp only[go_sem];rfl
     apply tL
     ·exact hlp
     refine tQ ?_;repeat first|with_reducible constructor|(with_reducible apply tG);kernel_rfl;intro _ _;(repeat apply tOp;intro _;simp only[go_sem,Nat.reduceAdd,reduceIte];rfl);rfl;simp only[go_sem];rfl
     exact fin0 rfl
end
section
open Go.AM
attribute [local go_sem] an152 an168 fd30_2 fd30_1 fd61_0 fd61_1
set_option maxRecDepth 100000
set_option maxHeartbeats 1000000
variable {kd:List UInt8→Int}
def wilds (n:Nat):List PaD:=List.replicate n wildD
def emptyD (c:CoD):PaD:=.mk 3 c.name (wilds c.args.length)
theorem emptyD_enc (c:CoD):(emptyD c).enc=.agg [.int .i64 3,.str c.name,.slice ((wilds c.args.length).map PaD.enc)]:=by rw[emptyD,PaD.enc_mk]
theorem c174 (x:AVal) (hx:Nat.beq x.cells.length 3=true) (n:Nat) (hn:n≤16) (sto:Sto):CF kd (.fn 174) [.val (.slice [x]),.val (.int .i64 (n:Nat))] sto=some (.ret (.val (.slice (List.replicate n x))),sto):=fnP (r:=.ret (.val (.slice (List.replicate n x)))) (by
 show (bif Nat.beq x.cells.length 3&&decide (0≤((n:Nat):Int))&&decide (((n:Nat):Int)≤16) then _ else _)=_
 rw[hx,show decide (0≤((n:Nat):Int))=true by simp,show decide (((n:Nat):Int)≤16)=true by simp;omega];rfl) rfl
theorem c168 (c:CoD) (hc:c.args.length≤16) (sto:Sto):CF kd (.fn 168) [.val c.enc] sto=some (.ret (.val (emptyD c).enc),sto):=by
 have h90:=c90 (kd:=kd) ⟨sto.objs,sto.objs.length⟩
 have h174:=c174 (kd:=kd) (.agg [.int .i64 1,.str [],.slice []]) rfl c.args.length hc ⟨sto.objs,sto.objs.length⟩
 have e1:List.replicate c.args.length (AVal.agg [.int .i64 1,.str [],.slice []])=(wilds c.args.length).map PaD.enc:=by
  rw[wilds,List.map_replicate,wildD_enc]
 rw[e1] at h174
 rw[wildD_enc] at h90
 rw[emptyD_enc,c.enc_eq]
 apply tA
 ·rfl
 ·rfl
 ·exact Tryz.func168
 ·rfl
 ·rfl
 ·simp only[go_sem,Nat.reduceAdd,reduceIte];rfl
 refine tQ ?_;repeat first|with_reducible constructor|(with_reducible apply tG);kernel_rfl;intro _ _;(repeat apply tOp;intro _;simp only[h90,h174,beq_self_eq_true,slotLok,setElems,clean,flat,List.replicate,List.set_cons_zero,List.length_map,go_sem,Nat.reduceAdd,reduceIte];rfl);rfl;simp only[go_sem];rfl
 exact fin0 rfl
def fieldsD (p:PaD) (c:CoD):Option (List PaD):=if p.open then some (wilds c.args.length) else if p.name==c.name&&((p.args.length:Nat):Int)==((c.args.length:Nat):Int) then some p.args else none
theorem c152 (p:PaD) (c:CoD) (hc:c.args.length≤16) (sto:Sto):CF kd (.fn 152) [.val p.enc,.val c.enc] sto=some (.ret (.tup [.slice (((fieldsD p c).getD []).map PaD.enc),.bool (fieldsD p c).isSome]),sto):=by
 have h102:=c102 (kd:=kd) p sto
 have h168:=c168 (kd:=kd) c hc sto
 rw[emptyD_enc] at h168
 simp only[fieldsD]
 rw[c.enc_eq] at h168 ⊢
 rw[p.enc_eq] at h102 ⊢
 cases g1:p.open with
 |true =>
  rw[g1] at h102
  simp only[if_true,Option.getD_some,Option.isSome_some]
  apply tA
  ·rfl
  ·rfl
  ·exact Tryz.func152
  ·rfl
  ·rfl
  ·simp only[go_sem,Nat.reduceAdd,reduceIte];rfl
  refine tQ ?_;repeat first|with_reducible constructor|(with_reducible apply tG);kernel_rfl;intro _ _;(repeat apply tOp;intro _;simp only[h102,go_sem,Nat.reduceAdd,reduceIte];rfl);rfl;simp only[go_sem];rfl
  with_reducible apply tT
  ·simp only[go_sem];rfl
  ·rfl
  refine tQ ?_;repeat first|with_reducible constructor|(with_reducible apply tG);kernel_rfl;intro _ _;(repeat apply tOp;intro _;simp only[h168,go_sem,Nat.reduceAdd,reduceIte];rfl);rfl;simp only[go_sem];rfl
  exact fin0 rfl
 |false =>
  rw[g1] at h102
  simp only[Bool.false_eq_true,if_false]
  cases g2:(p.name==c.name) with
  |false =>
   simp only[Bool.false_and,Bool.false_eq_true,if_false,Option.getD_none,Option.isSome_none,List.map_nil]
   apply tA
   ·rfl
   ·rfl
   ·exact Tryz.func152
   ·rfl
   ·rfl
   ·simp only[go_sem,Nat.reduceAdd,reduceIte];rfl
   refine tQ ?_;repeat first|with_reducible constructor|(with_reducible apply tG);kernel_rfl;intro _ _;(repeat apply tOp;intro _;simp only[h102,go_sem,Nat.reduceAdd,reduceIte];rfl);rfl;simp only[go_sem];rfl
   with_reducible apply tF
   ·simp only[go_sem];rfl
   ·rfl
   refine tQ ?_;repeat first|with_reducible constructor|(with_reducible apply tG);kernel_rfl;intro _ _;(repeat apply tOp;intro _;simp only[g2,go_sem,Nat.reduceAdd,reduceIte];rfl);rfl;simp only[go_sem];rfl
   with_reducible apply tF
   ·simp only[go_sem];rfl
   ·rfl
   refine tQ ?_;repeat first|with_reducible constructor|(with_reducible apply tG);kernel_rfl;intro _ _;(repeat apply tOp;intro _;simp only[go_sem,Nat.reduceAdd,reduceIte];rfl);rfl;simp only[go_sem];rfl
   exact fin0 rfl
  |true =>
   simp only[Bool.true_and]
   cases g3:(((p.args.length:Nat):Int)==((c.args.length:Nat):Int)) with
   |false =>
    simp only[Bool.false_eq_true,if_false,Option.getD_none,Option.isSome_none,List.map_nil]
    apply tA
    ·rfl
    ·rfl
    ·exact Tryz.func152
    ·rfl
    ·rfl
    ·simp only[go_sem,Nat.reduceAdd,reduceIte];rfl
    refine tQ ?_;repeat first|with_reducible constructor|(with_reducible apply tG);kernel_rfl;intro _ _;(repeat apply tOp;intro _;simp only[h102,go_sem,Nat.reduceAdd,reduceIte];rfl);rfl;simp only[go_sem];rfl
    with_reducible apply tF
    ·simp only[go_sem];rfl
    ·rfl
    refine tQ ?_;repeat first|with_reducible constructor|(with_reducible apply tG);kernel_rfl;intro _ _;(repeat apply tOp;intro _;simp only[g2,g3,List.length_map,go_sem,Nat.reduceAdd,reduceIte];rfl);rfl;simp only[go_sem];rfl
    with_reducible apply tF
    ·simp only[go_sem];rfl
    ·rfl
    refine tQ ?_;repeat first|with_reducible constructor|(with_reducible apply tG);kernel_rfl;intro _ _;(repeat apply tOp;intro _;simp only[go_sem,Nat.reduceAdd,reduceIte];rfl);rfl;simp only[go_sem];rfl
    exact fin0 rfl
   |true =>
    simp only[if_true,Option.getD_some,Option.isSome_some]
    apply tA
    ·rfl
    ·rfl
    ·exact Tryz.func152
    ·rfl
    ·rfl
    ·simp only[go_sem,Nat.reduceAdd,reduceIte];rfl
    refine tQ ?_;repeat first|with_reducible constructor|(with_reducible apply tG);kernel_rfl;intro _ _;(repeat apply tOp;intro _;simp only[h102,go_sem,Nat.reduceAdd,reduceIte];rfl);rfl;simp only[go_sem];rfl
    with_reducible apply tF
    ·simp only[go_sem];rfl
    ·rfl
    refine tQ ?_;repeat first|with_reducible constructor|(with_reducible apply tG);kernel_rfl;intro _ _;(repeat apply tOp;intro _;simp only[g2,g3,List.length_map,go_sem,Nat.reduceAdd,reduceIte];rfl);rfl;simp only[go_sem];rfl
    with_reducible apply tT
    ·simp only[go_sem];rfl
    ·rfl
    refine tQ ?_;repeat first|with_reducible constructor|(with_reducible apply tG);kernel_rfl;intro _ _;(repeat apply tOp;intro _;simp only[go_sem,Nat.reduceAdd,reduceIte];rfl);rfl;simp only[go_sem];rfl
    exact fin0 rfl
end
end Go.Proofs.YtkmnkiekmlcfdaaGreatDoor
