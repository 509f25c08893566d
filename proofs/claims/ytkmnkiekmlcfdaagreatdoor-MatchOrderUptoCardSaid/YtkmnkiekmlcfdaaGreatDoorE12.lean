/- Part E12 of the proof of one law of the program. -/
import Derived.Test.YtkmnkiekmlcfdaaGreatDoorE11
set_option linter.all false
set_option linter.unusedVariables false
set_option linter.unusedSimpArgs false
set_option linter.unusedSectionVars false
set_option linter.unnecessarySimpa false
namespace Go.Proofs.YtkmnkiekmlcfdaaGreatDoor
open Go.AM
attribute [local go_sem] opsK oneK stepK callK argsA capsA elemsA mvK mv asV asSl AM.asInt AM.asBool asPlace asBox asObj asMap cellsOfPlace writePlace asCells optInt sliceCut drawnPlace opS RS.look RS.put RS.putO alook tlook commit persist constS constT absV absC dstOk noRefTo guardB abin abinT isNilSlice isNilIface nilTest Nat.beq Nat.ble Nat.blt cond_true cond_false Bool.and_true Bool.true_and Bool.and_self Bool.not_true Bool.not_false Bool.or_true Bool.or_false Bool.false_or Bool.true_or Bool.and_false Bool.false_and List.all_nil List.all_cons List.contains List.elem Option.bind_some Option.map_some Option.getD_some cAgg cInt cBool cStr cSlice cFunc cNilf cNilp cNilm cLoc cMap cYld List.take_succ_cons List.take_zero List.drop_zero List.drop_succ_cons Nat.zero_add Cell.get Cell.lok AM.lok lokF noRefS partOf List.map_nil List.map_cons List.length_cons List.length_nil List.getElem?_cons_zero List.getElem?_cons_succ List.nil_append List.cons_append List.append_nil List.getElem?_toArray List.toList_toArray Option.bind_none Option.map_none objs1 objs2 objs3 objs32 oset1 setCells List.take_append_drop List.drop_nil List.take_nil Tryz.underlying0 sz3 ag3 zo3 by3 Tryz.underlying3 sz9 ag9 zo9 by9 Tryz.underlying9 sz26 ag26 se26 zo26 by26 Tryz.underlying26 sz30 ag30 zo30 zc30 by30 Tryz.underlying30 pl30 sz140 ag140 se140 Tryz.underlying140 sz4 ag4 zo4 zc4 Tryz.underlying4 sz23 ag23 se23 Tryz.underlying23 sz25 ag25 zo25 zc25 by25 Tryz.underlying25 pl25 sz58 ag58 se58 Tryz.underlying58 sz61 ag61 zo61 zc61 by61 Tryz.underlying61 pl61 fd61_0
section
open Go.AM
attribute [local go_sem] an98 an99 an153 fd30_0 fd30_1 fd30_2 sz145 ag145 zc145 Tryz.underlying145
set_option maxRecDepth 100000
set_option maxHeartbeats 1000000
variable {kd:List UInt8→Int}
def rowE (r:List PaD):AVal:=.slice (r.map PaD.enc)
theorem head3 (l:List PaD):headOk 3 (l.map PaD.enc)=true:=by
 cases l with
 |nil=>rfl
 |cons x l=>simp only[List.map_cons,headOk];rw[x.enc_eq];rfl
theorem loop98 (sto:Sto) (l0:List PaD) (ys:List PaD):∀ (pre:List PaD) (X:List AVal),l0=pre++ys→(pre++ys).length < big→X.length+ys.length+1 < big →
  ∃ s0 s2 s4 s6 s7 s8,LP kd 98 (loopOf Tryz.f98 0) ⟨[.val (.slice (l0.map PaD.enc)),.dead,.own 1 X,.dead,.val (.int .i64 (l0.length:Nat)),.val (.int .i64 (pre.length:Nat)),.dead],sto⟩ =
   some (.exit 0,⟨[s0,s2,.own 1 (X++ys.map fun y=>rowE [y]),s4,s6,s7,s8],sto⟩):=by
 induction ys with
 |nil =>
  intro pre X hl h3 h4
  subst hl
  have hlt:=geI pre
  simp only[List.map_nil,List.append_nil]
  iterate 6 apply Exists.intro
  refine tI rfl ?_
  refine tQ ?_;repeat first|with_reducible constructor|(with_reducible apply tG);kernel_rfl;intro _ _;(repeat apply tOp;intro _;simp only[go_sem,Nat.reduceAdd,reduceIte];rfl);rfl;simp only[go_sem];rfl
  with_reducible apply tF
  ·simp only[go_sem];rfl
  ·exact hlt
  refine tQ ?_
  repeat with_reducible constructor
  exact tlX
  all_goals exact .dead
 |cons y ys ih =>
  intro pre X hl h3 h4
  subst hl
  have hlt:=ltI pre ys y
  have h0:=zI pre.length
  have hw:=wL pre ys y h3
  have hr:=roomI X (by simp at h4;omega)
  have hcut:(((pre++y::ys).map PaD.enc).take (((pre++[y]).length:Nat):Int).toNat).drop ((pre.length:Nat):Int).toNat=[.agg [.int .i64 y.kind,.str y.name,.slice (y.args.map PaD.enc)]]:=by
   rw[←y.enc_eq,Int.toNat_natCast,Int.toNat_natCast]
   have:(pre++y::ys).map PaD.enc=(pre.map PaD.enc++[y.enc])++ys.map PaD.enc:=by simp
   rw[this,List.take_left' (by simp),List.drop_left' (by simp)]
  have hle:decide (((pre.length:Nat):Int)≤(((pre++[y]).length:Nat):Int))=true:=by simp;omega
  have hle2:decide ((((pre++[y]).length:Nat):Int)≤(((pre++y::ys).length:Nat):Int))=true:=by simp;omega
  have heq:decide ((((pre++[y]).length:Nat):Int)=(((pre++[y]).length:Nat):Int))=true:=by simp
  obtain ⟨s0,s2,s4,s6,s7,s8,ih⟩:=ih (pre++[y]) (X++[rowE [y]]) (by simp) (by simpa using h3) (by simp at h4 ⊢;omega)
  simp only[List.append_assoc,List.singleton_append] at ih
  simp only[List.map_cons]
  rw[show rowE [y]=.slice [.agg [.int .i64 y.kind,.str y.name,.slice (y.args.map PaD.enc)]] from by rw[←y.enc_eq];rfl] at ih ⊢
  refine ⟨s0,s2,s4,s6,s7,s8,?_⟩
  refine tI rfl ?_
  refine tQ ?_;repeat first|with_reducible constructor|(with_reducible apply tG);kernel_rfl;intro _ _;(repeat apply tOp;intro _;simp only[go_sem,Nat.reduceAdd,reduceIte];rfl);rfl;simp only[go_sem];rfl
  with_reducible apply tT
  ·simp only[go_sem];rfl
  ·exact hlt
  refine tQ ?_;repeat first|with_reducible constructor|(with_reducible apply tG);kernel_rfl;intro _ _;(repeat apply tOp;intro _;simp only[h0,hw,hr,hcut,hle,hle2,heq,headOk,setElems,clean,flat,List.replicate,List.set_cons_zero,List.length_map,go_sem,Nat.reduceAdd,reduceIte];rfl);rfl;simp only[go_sem];rfl
  exact ih
def singleD (l:List PaD):List (List PaD):=l.map fun y=>[y]
theorem c98 (l:List PaD) (hl:l.length+1 < big) (sto:Sto):CF kd (.fn 98) [.val (.slice (l.map PaD.enc))] sto=some (.ret (.val (.slice ((singleD l).map rowE))),sto):=by
 obtain ⟨s0,s2,s4,s6,s7,s8,h⟩:=loop98 (kd:=kd) sto l l [] [] rfl (by simp only[List.nil_append];omega) (by simp only[List.length_nil];omega)
 simp only[List.nil_append,List.length_nil] at h
 have e0:((0:Nat):Int)=0:=rfl
 rw[e0] at h
 have e1:(l.map fun y=>rowE [y])=(singleD l).map rowE:=by simp [singleD]
 rw[e1] at h
 apply tA
 ·rfl
 ·rfl
 ·exact Tryz.func98
 ·rfl
 ·rfl
 ·simp only[go_sem,Nat.reduceAdd,reduceIte];rfl
 refine tQ ?_;repeat first|with_reducible constructor|(with_reducible apply tG);kernel_rfl;intro _ _;(repeat apply tOp;intro _;simp only[List.length_map,go_sem,Nat.reduceAdd,reduceIte];rfl);rfl;simp only[go_sem];rfl
 apply tL
 ·exact h
 refine tQ ?_;repeat first|with_reducible constructor|(with_reducible apply tG);kernel_rfl;intro _ _;(repeat apply tOp;intro _;simp only[go_sem,Nat.reduceAdd,reduceIte];rfl);rfl;simp only[go_sem];rfl
 exact fin0 rfl
def beginD (cs:List CoD) (H:List (List UInt8)):PaD:=if ((H.length:Nat):Int)==0 then wildD else match cs.find? (fun c=>!H.contains c.name) with|some c=>emptyD c|none=>wildD
theorem loop153 {i:Nat} (H:List (List UInt8)) (a1 a2 a3:Cell) (sto:Sto) (hi:sto.objs[i]?=some (.map (seenE H))) (ys:List CoD):∀ (pre:List CoD),(pre++ys).length < big→(∀ c∈ys,c.args.length≤16) →
  ∃ s0 s1 s6 s9 s11 s12 s13 s14 s21,LP kd 153 (loopOf Tryz.f153 0) ⟨[.dead,.val (.amap i),.box [a1,a2,a3],.dead,.dead,.val (.slice ((pre++ys).map CoD.enc)),.val (.int .i64 ((pre++ys).length:Nat)),.val (.int .i64 (pre.length:Nat)),.dead,.dead],sto⟩ =
   match ys.find? (fun c=>!H.contains c.name) with
   |none=>some (.exit 0,⟨[s0,s1,.box [a1,a2,a3],s6,s9,s11,s12,s13,s14,s21],sto⟩)
   |some c=>some (.ret,⟨[s0,s1,.box [.val (.int .i64 3),.val (.str c.name),.val (.slice ((wilds c.args.length).map PaD.enc))],s6,s9,s11,s12,s13,s14,s21],sto⟩):=by
 induction ys with
 |nil =>
  intro pre h3 hca
  have hlt:=geI pre
  simp only[List.find?_nil,List.append_nil]
  iterate 9 apply Exists.intro
  refine tI rfl ?_
  refine tQ ?_;repeat first|with_reducible constructor|(with_reducible apply tG);kernel_rfl;intro _ _;(repeat apply tOp;intro _;simp only[go_sem,Nat.reduceAdd,reduceIte];rfl);rfl;simp only[go_sem];rfl
  with_reducible apply tF
  ·simp only[go_sem];rfl
  ·exact hlt
  refine tQ ?_
  repeat with_reducible constructor
  exact tlX
  all_goals exact .dead
 |cons y ys ih =>
  intro pre h3 hca
  have hget:=getI CoD.enc pre ys y
  have h168:=c168 (kd:=kd) y (hca y (by simp)) sto
  rw[emptyD_enc] at h168
  rw[y.enc_eq] at hget h168
  have hlt:=ltI pre ys y
  have h0:=zI pre.length
  have hw:=wL pre ys y h3
  have hf:=find_seen y.name H
  rw[List.find?_cons]
  cases hc:H.contains y.name with
  |false =>
   rw[hc] at hf
   simp only[cond_false] at hf
   simp only[Bool.not_false]
   iterate 9 apply Exists.intro
   refine tI rfl ?_
   refine tQ ?_;repeat first|with_reducible constructor|(with_reducible apply tG);kernel_rfl;intro _ _;(repeat apply tOp;intro _;simp only[go_sem,Nat.reduceAdd,reduceIte];rfl);rfl;simp only[go_sem];rfl
   with_reducible apply tT
   ·simp only[go_sem];rfl
   ·exact hlt
   refine tQ ?_;repeat first|with_reducible constructor|(with_reducible apply tG);kernel_rfl;intro _ _;(repeat apply tOp;intro _;simp only[hget,h0,asMap,keyT,hi,hf,Option.getD_none,go_sem,Nat.reduceAdd,reduceIte];rfl);rfl;simp only[go_sem];rfl
   with_reducible apply tT
   ·simp only[go_sem];rfl
   ·rfl
   refine tQ ?_;repeat first|with_reducible constructor|(with_reducible apply tG);kernel_rfl;intro _ _;(repeat apply tOp;intro _;simp only[h168,go_sem,Nat.reduceAdd,reduceIte];rfl);rfl;simp only[go_sem];rfl
   exact tlE
   all_goals exact .dead
  |true =>
   rw[hc] at hf
   simp only[cond_true] at hf
   simp only[Bool.not_true]
   obtain ⟨s0,s1,s6,s9,s11,s12,s13,s14,s21,ih⟩:=ih (pre++[y]) (by simpa using h3) (fun c hc=>hca c (by simp [hc]))
   simp only[List.append_assoc,List.singleton_append] at ih
   refine ⟨s0,s1,s6,s9,s11,s12,s13,s14,s21,?_⟩
   cases hz:ys.find? (fun c=>!H.contains c.name) with
   |none =>
    rw[hz] at ih
    simp only at ih ⊢
    refine tI rfl ?_
    refine tQ ?_;repeat first|with_reducible constructor|(with_reducible apply tG);kernel_rfl;intro _ _;(repeat apply tOp;intro _;simp only[go_sem,Nat.reduceAdd,reduceIte];rfl);rfl;simp only[go_sem];rfl
    with_reducible apply tT
    ·simp only[go_sem];rfl
    ·exact hlt
    refine tQ ?_;repeat first|with_reducible constructor|(with_reducible apply tG);kernel_rfl;intro _ _;(repeat apply tOp;intro _;simp only[hget,h0,asMap,keyT,hi,hf,go_sem,Nat.reduceAdd,reduceIte];rfl);rfl;simp only[go_sem];rfl
    with_reducible apply tF
    ·simp only[go_sem];rfl
    ·rfl
    refine tQ ?_;repeat first|with_reducible constructor|(with_reducible apply tG);kernel_rfl;intro _ _;(repeat apply tOp;intro _;simp only[hw,go_sem,Nat.reduceAdd,reduceIte];rfl);rfl;simp only[go_sem];rfl
    exact ih
   |some c =>
    rw[hz] at ih
    simp only at ih ⊢
    refine tI rfl ?_
    refine tQ ?_;repeat first|with_reducible constructor|(with_reducible apply tG);kernel_rfl;intro _ _;(repeat apply tOp;intro _;simp only[go_sem,Nat.reduceAdd,reduceIte];rfl);rfl;simp only[go_sem];rfl
    with_reducible apply tT
    ·simp only[go_sem];rfl
    ·exact hlt
    refine tQ ?_;repeat first|with_reducible constructor|(with_reducible apply tG);kernel_rfl;intro _ _;(repeat apply tOp;intro _;simp only[hget,h0,asMap,keyT,hi,hf,go_sem,Nat.reduceAdd,reduceIte];rfl);rfl;simp only[go_sem];rfl
    with_reducible apply tF
    ·simp only[go_sem];rfl
    ·rfl
    refine tQ ?_;repeat first|with_reducible constructor|(with_reducible apply tG);kernel_rfl;intro _ _;(repeat apply tOp;intro _;simp only[hw,go_sem,Nat.reduceAdd,reduceIte];rfl);rfl;simp only[go_sem];rfl
    exact ih
theorem c153 {i:Nat} (cs:List CoD) (hcs:cs.length < big) (hca:∀ c∈cs,c.args.length≤16) (H:List (List UInt8)) (sto:Sto) (hi:sto.objs[i]?=some (.map (seenE H))) :
  CF kd (.fn 153) [.val (.slice (cs.map CoD.enc)),.val (.amap i)] sto=some (.ret (.val (beginD cs H).enc),sto):=by
 have h90:=c90 (kd:=kd) sto
 have hlen:(seenE H).length=H.length:=by simp [seenE]
 obtain ⟨s0,s1,s6,s9,s11,s12,s13,s14,s21,h⟩:=loop153 (kd:=kd) (i:=i) H (.val (.int .i64 0)) (.val (.str [])) (.own 3 []) sto hi cs [] (by simpa using hcs) hca
 simp only[List.nil_append,List.length_nil] at h
 have e0:((0:Nat):Int)=0:=rfl
 rw[e0] at h
 rw[wildD_enc] at h90
 simp only[beginD]
 cases g:(((H.length:Nat):Int)==0) with
 |true =>
  simp only[if_true]
  rw[wildD_enc]
  apply tA
  ·rfl
  ·rfl
  ·exact Tryz.func153
  ·rfl
  ·rfl
  ·simp only[go_sem,Nat.reduceAdd,reduceIte];rfl
  refine tQ ?_;repeat first|with_reducible constructor|(with_reducible apply tG);kernel_rfl;intro _ _;(repeat apply tOp;intro _;simp only[asMap,hi,hlen,go_sem,Nat.reduceAdd,reduceIte];rfl);rfl;simp only[go_sem];rfl
  with_reducible apply tT
  ·simp only[go_sem];rfl
  ·exact g
  refine tQ ?_;repeat first|with_reducible constructor|(with_reducible apply tG);kernel_rfl;intro _ _;(repeat apply tOp;intro _;simp only[h90,go_sem,Nat.reduceAdd,reduceIte];rfl);rfl;simp only[go_sem];rfl
  exact fin0 rfl
 |false =>
  simp only[Bool.false_eq_true,if_false]
  cases hz:cs.find? (fun c=>!H.contains c.name) with
  |none =>
   rw[hz] at h
   simp only at h ⊢
   rw[wildD_enc]
   apply tA
   ·rfl
   ·rfl
   ·exact Tryz.func153
   ·rfl
   ·rfl
   ·simp only[go_sem,Nat.reduceAdd,reduceIte];rfl
   refine tQ ?_;repeat first|with_reducible constructor|(with_reducible apply tG);kernel_rfl;intro _ _;(repeat apply tOp;intro _;simp only[asMap,hi,hlen,go_sem,Nat.reduceAdd,reduceIte];rfl);rfl;simp only[go_sem];rfl
   with_reducible apply tF
   ·simp only[go_sem];rfl
   ·exact g
   refine tQ ?_;repeat first|with_reducible constructor|(with_reducible apply tG);kernel_rfl;intro _ _;(repeat apply tOp;intro _;simp only[List.length_map,go_sem,Nat.reduceAdd,reduceIte];rfl);rfl;simp only[go_sem];rfl
   apply tL
   ·exact h
   refine tQ ?_;repeat first|with_reducible constructor|(with_reducible apply tG);kernel_rfl;intro _ _;(repeat apply tOp;intro _;simp only[h90,go_sem,Nat.reduceAdd,reduceIte];rfl);rfl;simp only[go_sem];rfl
   exact fin0 rfl
  |some c =>
   rw[hz] at h
   simp only at h ⊢
   rw[emptyD_enc]
   apply tA
   ·rfl
   ·rfl
   ·exact Tryz.func153
   ·rfl
   ·rfl
   ·simp only[go_sem,Nat.reduceAdd,reduceIte];rfl
   refine tQ ?_;repeat first|with_reducible constructor|(with_reducible apply tG);kernel_rfl;intro _ _;(repeat apply tOp;intro _;simp only[asMap,hi,hlen,go_sem,Nat.reduceAdd,reduceIte];rfl);rfl;simp only[go_sem];rfl
   with_reducible apply tF
   ·simp only[go_sem];rfl
   ·exact g
   refine tQ ?_;repeat first|with_reducible constructor|(with_reducible apply tG);kernel_rfl;intro _ _;(repeat apply tOp;intro _;simp only[List.length_map,go_sem,Nat.reduceAdd,reduceIte];rfl);rfl;simp only[go_sem];rfl
   apply tL
   ·exact h
   refine tQ ?_;repeat first|with_reducible constructor|(with_reducible apply tG);kernel_rfl;intro _ _;(repeat apply tOp;intro _;simp only[go_sem,Nat.reduceAdd,reduceIte];rfl);rfl;simp only[go_sem];rfl
   exact fin0 rfl
inductive Thin:PaD→Prop
 |mk {p:PaD}:p.args.length+1 < big→(∀ a∈p.args,Thin a)→Thin p
def plainD (p:PaD):PaD:=if p.open then wildD else .mk p.kind p.name (p.args.attach.map fun a=>plainD a.1)
termination_by p.size
decreasing_by exact PaD.args_size a.2
theorem plainD_eq (p:PaD):plainD p=if p.open then wildD else .mk p.kind p.name (p.args.map plainD):=by
 rw[plainD]
 have:(p.args.attach.map fun a=>plainD a.1)=p.args.map plainD:=by simp
 rw[this]
theorem loop99 (k:Int) (nm:List UInt8) (a2:Slot) (sto:Sto) (ys:List PaD):∀ (pre:List PaD) (X:List AVal),(pre++ys).length < big→X.length+ys.length+1 < big →
  (∀ y∈ys,CF kd (.fn 99) [.val y.enc] sto=some (.ret (.val (plainD y).enc),sto)) →
  ∃ s0 s1 s5 s7 s15 s16 s17 s18,LP kd 99 (loopOf Tryz.f99 0) ⟨[.dead,.dead,a2,.box [.val (.int .i64 k),.val (.str nm),.own 3 X],.dead,.dead,.val (.slice ((pre++ys).map PaD.enc)),.val (.int .i64 ((pre++ys).length:Nat)),.val (.int .i64 (pre.length:Nat)),.dead],sto⟩ =
   some (.exit 0,⟨[s0,s1,a2,.box [.val (.int .i64 k),.val (.str nm),.own 3 (X++ys.map fun y=>(plainD y).enc)],s5,s7,s15,s16,s17,s18],sto⟩):=by
 induction ys with
 |nil =>
  intro pre X h3 h4 h2
  have hlt:=geI pre
  simp only[List.map_nil,List.append_nil]
  iterate 8 apply Exists.intro
  refine tI rfl ?_
  refine tQ ?_;repeat first|with_reducible constructor|(with_reducible apply tG);kernel_rfl;intro _ _;(repeat apply tOp;intro _;simp only[go_sem,Nat.reduceAdd,reduceIte];rfl);rfl;simp only[go_sem];rfl
  with_reducible apply tF
  ·simp only[go_sem];rfl
  ·exact hlt
  refine tQ ?_
  repeat with_reducible constructor
  exact tlX
  all_goals exact .dead
 |cons y ys ih =>
  intro pre X h3 h4 h2
  have hget:=getI PaD.enc pre ys y
  have hlt:=ltI pre ys y
  have h0:=zI pre.length
  have hw:=wL pre ys y h3
  have hr:=roomI X (by simp at h4;omega)
  have hc:=h2 y (by simp)
  obtain ⟨s0,s1,s5,s7,s15,s16,s17,s18,ih⟩:=ih (pre++[y]) (X++[(plainD y).enc]) (by simpa using h3) (by simp at h4 ⊢;omega) (fun x hx=>h2 x (by simp [hx]))
  simp only[List.append_assoc,List.singleton_append] at ih
  simp only[List.map_cons]
  rw[(plainD y).enc_eq] at ih hc ⊢
  rw[y.enc_eq] at hget hc
  refine ⟨s0,s1,s5,s7,s15,s16,s17,s18,?_⟩
  refine tI rfl ?_
  refine tQ ?_;repeat first|with_reducible constructor|(with_reducible apply tG);kernel_rfl;intro _ _;(repeat apply tOp;intro _;simp only[go_sem,Nat.reduceAdd,reduceIte];rfl);rfl;simp only[go_sem];rfl
  with_reducible apply tT
  ·simp only[go_sem];rfl
  ·exact hlt
  refine tQ ?_;repeat first|with_reducible constructor|(with_reducible apply tG);kernel_rfl;intro _ _;(repeat apply tOp;intro _;simp only[hget,h0,hw,hc,hr,setElems,clean,flat,AVal.cells,List.replicate,List.set_cons_zero,List.length_map,go_sem,Nat.reduceAdd,reduceIte];rfl);rfl;simp only[go_sem];rfl
  exact ih
theorem c99:∀ (p:PaD) (sto:Sto),Thin p→CF kd (.fn 99) [.val p.enc] sto=some (.ret (.val (plainD p).enc),sto):=by
 refine PaD.ind fun p ih sto ht=>?_
 have h102:=c102 (kd:=kd) p sto
 have h90:=c90 (kd:=kd) sto
 rw[wildD_enc] at h90
 cases ht with
 |mk h1 h2 =>
  obtain ⟨s0,s1,s5,s7,s15,s16,s17,s18,hl⟩:=loop99 (kd:=kd) p.kind p.name (.box [.val (.int .i64 0),.val (.str []),.own 3 []]) sto p.args [] [] (by simp only[List.nil_append];omega) (by simp only[List.length_nil];omega) (fun y hy=>ih y hy sto (h2 y hy))
  simp only[List.nil_append,List.length_nil] at hl
  have e0:((0:Nat):Int)=0:=rfl
  rw[e0] at hl
  rw[plainD_eq]
  rw[p.enc_eq] at h102 ⊢
  cases g:p.open with
  |true =>
   rw[g] at h102
   simp only[if_true]
   rw[wildD_enc]
   apply tA
   ·rfl
   ·rfl
   ·exact Tryz.func99
   ·rfl
   ·rfl
   ·simp only[go_sem,Nat.reduceAdd,reduceIte];rfl
   refine tQ ?_;repeat first|with_reducible constructor|(with_reducible apply tG);kernel_rfl;intro _ _;(repeat apply tOp;intro _;simp only[h102,go_sem,Nat.reduceAdd,reduceIte];rfl);rfl;simp only[go_sem];rfl
   with_reducible apply tT
   ·simp only[go_sem];rfl
   ·rfl
   refine tQ ?_;repeat first|with_reducible constructor|(with_reducible apply tG);kernel_rfl;intro _ _;(repeat apply tOp;intro _;simp only[h90,go_sem,Nat.reduceAdd,reduceIte];rfl);rfl;simp only[go_sem];rfl
   exact fin0 rfl
  |false =>
   rw[g] at h102
   simp only[Bool.false_eq_true,if_false]
   rw[PaD.enc_mk,List.map_map]
   have e1:(p.args.map (PaD.enc∘plainD))=p.args.map fun y=>(plainD y).enc:=rfl
   rw[e1]
   apply tA
   ·rfl
   ·rfl
   ·exact Tryz.func99
   ·rfl
   ·rfl
   ·simp only[go_sem,Nat.reduceAdd,reduceIte];rfl
   refine tQ ?_;repeat first|with_reducible constructor|(with_reducible apply tG);kernel_rfl;intro _ _;(repeat apply tOp;intro _;simp only[h102,go_sem,Nat.reduceAdd,reduceIte];rfl);rfl;simp only[go_sem];rfl
   with_reducible apply tF
   ·simp only[go_sem];rfl
   ·rfl
   refine tQ ?_;repeat first|with_reducible constructor|(with_reducible apply tG);kernel_rfl;intro _ _;(repeat apply tOp;intro _;simp only[List.length_map,go_sem,Nat.reduceAdd,reduceIte];rfl);rfl;simp only[go_sem];rfl
   apply tL
   ·exact hl
   refine tQ ?_;repeat first|with_reducible constructor|(with_reducible apply tG);kernel_rfl;intro _ _;(repeat apply tOp;intro _;simp only[go_sem,Nat.reduceAdd,reduceIte];rfl);rfl;simp only[go_sem];rfl
   exact fin0 rfl
end
section
open Go.AM
attribute [local go_sem] an151 sz22 ag22 Tryz.underlying22 sz72 ag72 se72 Tryz.underlying72 sz116 ag116 zc116 Tryz.underlying116 pl116 Tryz.underlying138 fd61_1
set_option maxRecDepth 100000
set_option maxHeartbeats 1000000
variable {kd:List UInt8→Int}
abbrev Row:=PaD×List PaD
def Row.enc (r:Row):AVal:=.slice (r.1.enc::r.2.map PaD.enc)
theorem Row.enc_eq (r:Row):Row.enc r=.slice (.agg [.int .i64 r.1.kind,.str r.1.name,.slice (r.1.args.map PaD.enc)]::r.2.map PaD.enc):=by rw[Row.enc,r.1.enc_eq]
def under (c:CoD):List Row→List (List PaD)
 |[]=>[]
 |r::rs=>match fieldsD r.1 c with
  |some f=>(f++r.2)::under c rs
  |none=>under c rs
theorem under_len (c:CoD):∀ rs:List Row,(under c rs).length≤rs.length
 |[]=>Nat.le_refl _
 |r::rs=>by
  have:=under_len c rs
  simp only[under]
  split <;> simp only[List.length_cons] <;> omega
theorem fieldsD_len {p:PaD} {c:CoD} {f:List PaD} (h:fieldsD p c=some f):f.length=c.args.length:=by
 simp only[fieldsD] at h
 split at h
 ·cases h;simp [wilds]
 ·split at h
  ·rename_i _ hh;cases h;simp only[Bool.and_eq_true] at hh;have:=eq_of_beq hh.2;omega
  ·cases h
theorem all3 (l:List PaD):((l.map PaD.enc).all fun y=>Nat.beq y.cells.length 3)=true:=by
 rw[List.all_eq_true];intro x hx;obtain ⟨n,_,rfl⟩:=List.mem_map.1 hx;rw[n.enc_eq];rfl
theorem all2 (l:List TyD):((l.map TyD.enc).all fun y=>Nat.beq y.cells.length 2)=true:=by
 rw[List.all_eq_true];intro x hx;obtain ⟨n,_,rfl⟩:=List.mem_map.1 hx;rw[n.enc_eq];rfl
theorem takeP (l:List PaD):(l.map PaD.enc).take l.length=l.map PaD.enc:=by apply List.take_of_length_le;simp
theorem takeT (l:List TyD):(l.map TyD.enc).take l.length=l.map TyD.enc:=by apply List.take_of_length_le;simp
theorem leS (n:Nat):decide (((n:Nat):Int)≤((n:Nat):Int))=true:=by simp
theorem eqS (n:Nat):decide (((n:Nat):Int)=((n:Nat):Int))=true:=by simp
theorem le1S (n:Nat):decide ((1:Int)≤((n+1:Nat):Int))=true:=by simp;omega
theorem d01:decide ((0:Int)≤1)=true:=rfl
theorem d00:decide ((0:Int)≤0)=true:=rfl
theorem n0:(0:Int).toNat=0:=rfl
theorem n1:(1:Int).toNat=1:=rfl
theorem roomA (a b:Nat) (h:a+b < big):Nat.ble (a+b) room=true:=by
 apply Nat.ble_eq_true_of_le;simp only[room];simp only[big] at h;omega
theorem loop151 (c:CoD) (hc16:c.args.length≤16) (a1 a3 a4 a8:Slot) (sto:Sto) (ys:List Row):∀ (pre:List Row) (X:List AVal),(pre++ys).length < big→X.length+ys.length+1 < big→(∀ r∈ys,c.args.length+r.2.length < big) →
  ∃ s0 s2 s6 s7 s9 s12 s13 s14 s15 s16 s26 s27 s28 s29 s30 s41 s83,LP kd 151 (loopOf Tryz.f151 0) ⟨[.dead,a1,.dead,a3,a4,.box [.val (.str c.name),.val (.slice (c.args.map TyD.enc))],.dead,.dead,a8,.dead,.own 1 X,.dead,.dead,.dead,.dead,.dead,.dead,.val (.slice ((pre++ys).map Row.enc)),.val (.int .i64 ((pre++ys).length:Nat)),.val (.int .i64 (pre.length:Nat)),.dead,.dead,.dead],sto⟩ =
   some (.exit 0,⟨[s0,a1,s2,a3,a4,.box [.val (.str c.name),.val (.slice (c.args.map TyD.enc))],s6,s7,a8,s9,.own 1 (X++(under c ys).map rowE),s12,s13,s14,s15,s16,s26,s27,s28,s29,s30,s41,s83],sto⟩):=by
 induction ys with
 |nil =>
  intro pre X h3 h4 h2
  have hlt:=geI pre
  simp only[under,List.map_nil,List.append_nil]
  iterate 17 apply Exists.intro
  refine tI rfl ?_
  refine tQ ?_;repeat first|with_reducible constructor|(with_reducible apply tG);kernel_rfl;intro _ _;(repeat apply tOp;intro _;simp only[go_sem,Nat.reduceAdd,reduceIte];rfl);rfl;simp only[go_sem];rfl
  with_reducible apply tF
  ·simp only[go_sem];rfl
  ·exact hlt
  refine tQ ?_
  repeat with_reducible constructor
  exact tlX
  all_goals exact .dead
 |cons y ys ih =>
  intro pre X h3 h4 h2
  have hget:=getI Row.enc pre ys y
  rw[Row.enc_eq] at hget
  have hlt:=ltI pre ys y
  have h0:=zI pre.length
  have hw:=wL pre ys y h3
  have hr:=roomI X (by simp at h4;omega)
  have h152:=c152 (kd:=kd) y.1 c hc16 sto
  rw[y.1.enc_eq,c.enc_eq] at h152
  have hy:=h2 y (by simp)
  simp only[under]
  cases hf:fieldsD y.1 c with
  |none =>
   rw[hf] at h152
   simp only[Option.getD_none,Option.isSome_none,List.map_nil] at h152
   obtain ⟨s0,s2,s6,s7,s9,s12,s13,s14,s15,s16,s26,s27,s28,s29,s30,s41,s83,ih⟩:=ih (pre++[y]) X (by simpa using h3) (by simp at h4;omega) (fun x hx=>h2 x (by simp [hx]))
   simp only[List.append_assoc,List.singleton_append] at ih
   refine ⟨s0,s2,s6,s7,s9,s12,s13,s14,s15,s16,s26,s27,s28,s29,s30,s41,s83,?_⟩
   refine tI rfl ?_
   refine tQ ?_;repeat first|with_reducible constructor|(with_reducible apply tG);kernel_rfl;intro _ _;(repeat apply tOp;intro _;simp only[go_sem,Nat.reduceAdd,reduceIte];rfl);rfl;simp only[go_sem];rfl
   with_reducible apply tT
   ·simp only[go_sem];rfl
   ·exact hlt
   refine tQ ?_;repeat first|with_reducible constructor|(with_reducible apply tG);kernel_rfl;intro _ _;(repeat apply tOp;intro _;simp only[hget,h0,h152,d00,n0,go_sem,Nat.reduceAdd,reduceIte];rfl);rfl;simp only[go_sem];rfl
   with_reducible apply tF
   ·simp only[go_sem];rfl
   ·rfl
   refine tQ ?_;repeat first|with_reducible constructor|(with_reducible apply tG);kernel_rfl;intro _ _;(repeat apply tOp;intro _;simp only[hw,go_sem,Nat.reduceAdd,reduceIte];rfl);rfl;simp only[go_sem];rfl
   exact ih
  |some f =>
   rw[hf] at h152
   simp only[Option.getD_some,Option.isSome_some] at h152
   have hfl:=fieldsD_len hf
   have hra:=roomA f.length y.2.length (by omega)
   obtain ⟨s0,s2,s6,s7,s9,s12,s13,s14,s15,s16,s26,s27,s28,s29,s30,s41,s83,ih⟩:=ih (pre++[y]) (X++[rowE (f++y.2)]) (by simpa using h3) (by simp at h4 ⊢;omega) (fun x hx=>h2 x (by simp [hx]))
   simp only[List.append_assoc,List.singleton_append] at ih
   simp only[List.map_cons]
   rw[show rowE (f++y.2)=.slice (f.map PaD.enc++y.2.map PaD.enc) from by simp [rowE]] at ih ⊢
   refine ⟨s0,s2,s6,s7,s9,s12,s13,s14,s15,s16,s26,s27,s28,s29,s30,s41,s83,?_⟩
   refine tI rfl ?_
   refine tQ ?_;repeat first|with_reducible constructor|(with_reducible apply tG);kernel_rfl;intro _ _;(repeat apply tOp;intro _;simp only[go_sem,Nat.reduceAdd,reduceIte];rfl);rfl;simp only[go_sem];rfl
   with_reducible apply tT
   ·simp only[go_sem];rfl
   ·exact hlt
   refine tQ ?_;repeat first|with_reducible constructor|(with_reducible apply tG);kernel_rfl;intro _ _;(repeat apply tOp;intro _;simp only[hget,h0,h152,d00,n0,go_sem,Nat.reduceAdd,reduceIte];rfl);rfl;simp only[go_sem];rfl
   with_reducible apply tT
   ·simp only[go_sem];rfl
   ·rfl
   refine tQ ?_;repeat first|with_reducible constructor|(with_reducible apply tG);kernel_rfl;intro _ _;(repeat apply tOp;intro _;simp only[Bool.false_eq_true,hw,hr,hra,d00,d01,n0,n1,leS,eqS,le1S,zI,Int.toNat_natCast,takeP,head3,all3,setElems,clean,flat,List.replicate,List.set_cons_zero,List.length_map,go_sem,Nat.reduceAdd,reduceIte];rfl);rfl;simp only[go_sem];rfl
   exact ih
theorem headTk (l:List PaD) (n:Nat):headOk 3 ((l.map PaD.enc).take n)=true:=by rw[←List.map_take];exact head3 _
theorem headDr (l:List PaD) (n:Nat):headOk 3 ((l.map PaD.enc).drop n)=true:=by rw[←List.map_drop];exact head3 _
theorem all3d (l:List PaD) (n:Nat):(((l.map PaD.enc).drop n).all fun y=>Nat.beq y.cells.length 3)=true:=by rw[←List.map_drop];exact all3 _
theorem ann97:(ans 97).ownArg=[]:=by rw[an97]
def resS (r:Option (List PaD)):Slot:=.tup [.slice ((r.getD []).map PaD.enc),.bool r.isSome]
def oneR (q:Row) (c:CoD) (r:Option (List PaD)):Option (List PaD):=match fieldsD q.1 c with
 |none=>none
 |some _=>match r with
  |none=>none
  |some l=>some (.mk 3 c.name (l.take c.args.length)::l.drop c.args.length)
theorem c151 {ds:List DaD} {iq ir id it:Nat} {S:Sto} {q:Row} {t0:TyD} {ts:List TyD} {rows:List Row}
  (hq:S.objs[iq]?=some (.box [.val (Row.enc q)])) (hr:S.objs[ir]?=some (.box [.val (.slice (rows.map Row.enc))])) (hd:S.objs[id]?=some (.box [.val (.slice (ds.map DaD.enc))])) (ht:S.objs[it]?=some (.box [.val (.slice (t0.enc::ts.map TyD.enc))]))
  (c:CoD) (hc16:c.args.length≤16) (r:Option (List PaD)) (b1:c.args.length+q.2.length < big) (b2:c.args.length+ts.length < big) (b3:rows.length+1 < big) (b4:∀ y∈rows,c.args.length+y.2.length < big) (b5:∀ l,r=some l→c.args.length≤l.length∧l.length+1 < big)
  (h97:∀ f,fieldsD q.1 c=some f→CF kd (.fn 97) [.val (.slice (ds.map DaD.enc)),.val (.slice ((c.args++ts).map TyD.enc)),.val (.slice ((f++q.2).map PaD.enc)),.val (.slice ((under c rows).map rowE))] S=some (.ret (resS r),S)) :
  CF kd (.fn 151) [.val c.enc,.val (.loc iq 0),.val (.loc ir 0),.val (.loc id 0),.val (.loc it 0)] S=some (.ret (resS (oneR q c r)),S):=by
 have h152:=c152 (kd:=kd) q.1 c hc16 S
 obtain ⟨s0,s2,s6,s7,s9,s12,s13,s14,s15,s16,s26,s27,s28,s29,s30,s41,s83,hl⟩:=loop151 (kd:=kd) c hc16 (.val (.loc iq 0)) (.val (.loc id 0)) (.val (.loc it 0)) (.val (.slice (((fieldsD q.1 c).getD []).map PaD.enc))) S rows [] [] (by simp only[List.nil_append];omega) (by simp only[List.length_nil];omega) b4
 simp only[List.nil_append,List.length_nil] at hl
 have e0:((0:Nat):Int)=0:=rfl
 rw[e0] at hl
 rw[Row.enc_eq] at hq
 simp only[resS,oneR] at h97 ⊢
 rw[q.1.enc_eq,c.enc_eq] at h152
 rw[c.enc_eq]
 cases hf:fieldsD q.1 c with
 |none =>
  rw[hf] at h152
  simp only[Option.getD_none,Option.isSome_none,List.map_nil] at h152 ⊢
  apply tA
  ·rfl
  ·rfl
  ·exact Tryz.func151
  ·rfl
  ·rfl
  ·simp only[go_sem,Nat.reduceAdd,reduceIte];rfl
  refine tQ ?_;repeat first|with_reducible constructor|(with_reducible apply tG);kernel_rfl;intro _ _;(repeat apply tOp;intro _;simp only[hq,h152,d00,n0,Nat.add_zero,go_sem,Nat.reduceAdd,reduceIte];rfl);rfl;simp only[go_sem];rfl
  with_reducible apply tT
  ·simp only[go_sem];rfl
  ·rfl
  refine tQ ?_;repeat first|with_reducible constructor|(with_reducible apply tG);kernel_rfl;intro _ _;(repeat apply tOp;intro _;simp only[go_sem,Nat.reduceAdd,reduceIte];rfl);rfl;simp only[go_sem];rfl
  exact fin0 rfl
 |some f =>
  have h97:=h97 f hf
  have hfl:=fieldsD_len hf
  rw[hf] at h152 hl
  simp only[Option.getD_some,Option.isSome_some] at h152 hl
  have hra:=roomA f.length q.2.length (by omega)
  have hrb:=roomA c.args.length ts.length b2
  simp only[List.map_append] at h97
  cases r with
  |none =>
   simp only[Option.getD_none,Option.isSome_none,List.map_nil] at h97 ⊢
   apply tA
   ·rfl
   ·rfl
   ·exact Tryz.func151
   ·rfl
   ·rfl
   ·simp only[go_sem,Nat.reduceAdd,reduceIte];rfl
   refine tQ ?_;repeat first|with_reducible constructor|(with_reducible apply tG);kernel_rfl;intro _ _;(repeat apply tOp;intro _;simp only[hq,h152,d00,n0,Nat.add_zero,go_sem,Nat.reduceAdd,reduceIte];rfl);rfl;simp only[go_sem];rfl
   with_reducible apply tF
   ·simp only[go_sem];rfl
   ·rfl
   refine tQ ?_;repeat first|with_reducible constructor|(with_reducible apply tG);kernel_rfl;intro _ _;(repeat apply tOp;intro _;simp only[hr,List.length_map,go_sem,Nat.reduceAdd,reduceIte];rfl);rfl;simp only[go_sem];rfl
   apply tL
   ·exact hl
   refine tQ ?_;repeat first|with_reducible constructor|(with_reducible apply tG);kernel_rfl;intro _ _;(repeat apply tOp;intro _;simp only[hq,hd,ht,hra,hrb,h97,ann97,Bool.false_eq_true,d00,d01,n0,n1,leS,eqS,le1S,zI,Int.toNat_natCast,takeP,takeT,head3,headT,all3,all2,List.length_map,Nat.add_zero,go_sem,Nat.reduceAdd,reduceIte];rfl);rfl;simp only[go_sem];rfl
   with_reducible apply tT
   ·simp only[go_sem];rfl
   ·rfl
   refine tQ ?_;repeat first|with_reducible constructor|(with_reducible apply tG);kernel_rfl;intro _ _;(repeat apply tOp;intro _;simp only[go_sem,Nat.reduceAdd,reduceIte];rfl);rfl;simp only[go_sem];rfl
   exact fin0 rfl
  |some l =>
   obtain ⟨b6,b7⟩:=b5 l rfl
   have hle:decide (((c.args.length:Nat):Int)≤((l.length:Nat):Int))=true:=by simp;omega
   have hrd:Nat.ble (1+(l.length - c.args.length)) room=true:=by apply Nat.ble_eq_true_of_le;simp only[room];simp only[big] at b7;omega
   have er:(PaD.mk 3 c.name (l.take c.args.length)::l.drop c.args.length).map PaD.enc=.agg [.int .i64 3,.str c.name,.slice ((l.map PaD.enc).take c.args.length)]::(l.map PaD.enc).drop c.args.length:=by
    simp [PaD.enc_mk,List.map_take,List.map_drop]
   simp only[Option.getD_some,Option.isSome_some,er] at h97 ⊢
   apply tA
   ·rfl
   ·rfl
   ·exact Tryz.func151
   ·rfl
   ·rfl
   ·simp only[go_sem,Nat.reduceAdd,reduceIte];rfl
   refine tQ ?_;repeat first|with_reducible constructor|(with_reducible apply tG);kernel_rfl;intro _ _;(repeat apply tOp;intro _;simp only[hq,h152,d00,n0,Nat.add_zero,go_sem,Nat.reduceAdd,reduceIte];rfl);rfl;simp only[go_sem];rfl
   with_reducible apply tF
   ·simp only[go_sem];rfl
   ·rfl
   refine tQ ?_;repeat first|with_reducible constructor|(with_reducible apply tG);kernel_rfl;intro _ _;(repeat apply tOp;intro _;simp only[hr,List.length_map,go_sem,Nat.reduceAdd,reduceIte];rfl);rfl;simp only[go_sem];rfl
   apply tL
   ·exact hl
   refine tQ ?_;repeat first|with_reducible constructor|(with_reducible apply tG);kernel_rfl;intro _ _;(repeat apply tOp;intro _;simp only[hq,hd,ht,hra,hrb,h97,ann97,Bool.false_eq_true,d00,d01,n0,n1,leS,eqS,le1S,zI,Int.toNat_natCast,takeP,takeT,head3,headT,all3,all2,List.length_map,Nat.add_zero,go_sem,Nat.reduceAdd,reduceIte];rfl);rfl;simp only[go_sem];rfl
   with_reducible apply tF
   ·simp only[go_sem];rfl
   ·rfl
   refine tQ ?_;repeat first|with_reducible constructor|(with_reducible apply tG);kernel_rfl;intro _ _;(repeat apply tOp;intro _;simp only[List.length_map,go_sem,Nat.reduceAdd,reduceIte];rfl);rfl;simp only[go_sem];rfl
   refine tQ ?_;repeat first|with_reducible constructor|(with_reducible apply tG);kernel_rfl;intro _ _;(repeat apply tOp;intro _;simp only[hle,hrd,Bool.false_eq_true,d00,n0,leS,eqS,zI,Int.toNat_natCast,takeP,headTk,headDr,all3d,setElems,clean,flat,List.replicate,List.set_cons_zero,List.length_map,List.length_drop,List.drop_zero,go_sem,Nat.reduceAdd,reduceIte];rfl);rfl;simp only[go_sem];rfl
   exact fin0 rfl
end
end Go.Proofs.YtkmnkiekmlcfdaaGreatDoor
