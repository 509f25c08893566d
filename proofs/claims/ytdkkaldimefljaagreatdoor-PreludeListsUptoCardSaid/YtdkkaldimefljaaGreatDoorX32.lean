import Derived.Test.YtdkkaldimefljaaGreatDoorX31
set_option linter.all false
section
namespace Go.Proofs.YtdkkaldimefljaaGreatDoor
open Go.AM
attribute [local go_sem] opsK oneK guardK stepK callK argsA capsA elemsA mvK mv asV asSl AM.asInt AM.asBool asPlace asBox asObj asMap cellsOfPlace writePlace asCells boxCells optInt sliceCut drawnPlace opS RS.look RS.put RS.putO alook tlook commit persist constS constT absV absC dstOk noRefTo guardB abin abinT isNilSlice isNilIface nilTest Nat.beq Nat.ble Nat.blt cond_true cond_false Bool.and_true Bool.true_and Bool.and_self Bool.not_true Bool.not_false Bool.or_true Bool.or_false Bool.false_or Bool.true_or Bool.and_false Bool.false_and List.all_nil List.all_cons List.contains List.elem Option.bind_some Option.map_some Option.getD_some cAgg cInt cBool cStr cSlice cFunc cNilf cNilp cNilm cLoc cMap cYld List.take_succ_cons List.take_zero List.drop_zero List.drop_succ_cons Nat.zero_add Cell.get Cell.lok AM.lok lokF noRefS partOf List.map_nil List.map_cons List.length_cons List.length_nil List.getElem?_cons_zero List.getElem?_cons_succ List.nil_append List.cons_append List.append_nil List.getElem?_toArray List.toList_toArray Option.bind_none Option.map_none objs1 objs2 objs3 objs32 oset1 setCells List.take_append_drop List.drop_nil List.take_nil an15 sz0 ag0 by0 Tryz.underlying0 sz3 ag3 zo3 zc3 by3 Tryz.underlying3 sz4 ag4 zo4 zc4 by4 Tryz.underlying4 sz9 ag9 zo9 zc9 by9 Tryz.underlying9 sz25 ag25 se25 zo25 zc25 by25 Tryz.underlying25 sz27 ag27 zo27 zc27 by27 Tryz.underlying27 pl27 fd27_0 fd27_2 fd27_1
set_option maxRecDepth 100000
set_option maxHeartbeats 8000000
def itemsD:Nat→List VaD→VaD→Option (List VaD)
 |0,_,_=>none
 |m+1,out,v=>match v.con==consS,v.num==0,v.args with
  |true,true,[a,t]=>if out.length==2000 then none else itemsD m (out++[a]) t
  |_,_,_=>if v.con==nilS&&v.num==0&&v.args.length==0 then some out else none
def itemsR:Option (List VaD)→List AVal
 |none=>[.slice [],.bool false]
 |some l=>[.slice (l.map VaD.enc),.bool true]
theorem loop15 (sto:Sto):∀ (m:Nat) (v:VaD) (out:List VaD),v.size < m→out.length≤2000 →
  (∃ s0 s2 s3 s18 s21 s46,∃ (w:VaD) (o:List VaD),(itemsD m out v=(if w.con==nilS&&w.num==0&&w.args.length==0 then some o else none))∧LP 15 (loopOf Tryz.f15 0) ⟨[.dead,.box [.val (.str v.con),.val (.int .i64 v.num),.val (.slice (v.args.map VaD.enc))],.dead,.dead,.own 3 (out.map VaD.enc),.dead,.dead,.dead],sto⟩ =
    some (.exit 0,⟨[s0,.box [.val (.str w.con),.val (.int .i64 w.num),.val (.slice (w.args.map VaD.enc))],s2,s3,.own 3 (o.map VaD.enc),s18,s21,s46],sto⟩)) ∨
  (∃ s0 s1 s4 s18 s21 s46,itemsD m out v=none∧LP 15 (loopOf Tryz.f15 0) ⟨[.dead,.box [.val (.str v.con),.val (.int .i64 v.num),.val (.slice (v.args.map VaD.enc))],.dead,.dead,.own 3 (out.map VaD.enc),.dead,.dead,.dead],sto⟩ =
    some (.ret,⟨[s0,s1,.own 3 [],.val (.bool false),s4,s18,s21,s46],sto⟩)):=by
 intro m
 induction m with
 |zero=>intro v out h;omega
 |succ m ih =>
  intro v out hs ho
  have hg:∀ n:Nat,decide (((n:Nat):Int)≥2000)=decide (2000≤n):=fun n=>by simp;omega
  cases hA:(v.con==consS) with
  |false =>
   have hA':(v.con==[67,111,110,115])=false:=hA
   left
   apply Exists.intro;apply Exists.intro;apply Exists.intro;apply Exists.intro;apply Exists.intro;apply Exists.intro
   refine ⟨v,out,?_,?_⟩
   ·simp only[itemsD,hA]
   refine tI rfl ?_
   refine tQ ?_
   repeat first|with_reducible constructor|with_reducible refine tW rfl ?_|((with_reducible apply tG);(focus kernel_rfl);(focus (intro _ _;(repeat (apply tOp;(focus (intro _;simp only[hA',go_sem,Nat.reduceAdd,reduceIte];rfl))));rfl));(focus (simp only[go_sem,Nat.reduceAdd,reduceIte];rfl)))
   with_reducible apply tF
   ·simp only[go_sem,Nat.reduceAdd,reduceIte];rfl
   ·rfl
   refine tQ ?_
   repeat first|with_reducible constructor|with_reducible refine tW rfl ?_
   exact tlX
   all_goals exact .dead
  |true =>
   have hA':(v.con==[67,111,110,115])=true:=hA
   cases hL:((v.args.length:Int)==2) with
   |false =>
    left
    apply Exists.intro;apply Exists.intro;apply Exists.intro;apply Exists.intro;apply Exists.intro;apply Exists.intro
    refine ⟨v,out,?_,?_⟩
    ·have hne:v.args.length≠2:=fun e=>by rw[e] at hL;cases hL
     simp only[itemsD,hA]
     split
     ·rename_i h1;rw[h1] at hne;simp at hne
     ·rfl
    refine tI rfl ?_
    refine tQ ?_
    repeat first|with_reducible constructor|with_reducible refine tW rfl ?_|((with_reducible apply tG);(focus kernel_rfl);(focus (intro _ _;(repeat (apply tOp;(focus (intro _;simp only[hA',hL,List.length_map,go_sem,Nat.reduceAdd,reduceIte];rfl))));rfl));(focus (simp only[go_sem,Nat.reduceAdd,reduceIte];rfl)))
    with_reducible apply tF
    ·simp only[go_sem,Nat.reduceAdd,reduceIte];rfl
    ·rfl
    refine tQ ?_
    repeat first|with_reducible constructor|with_reducible refine tW rfl ?_
    exact tlX
    all_goals exact .dead
   |true =>
    cases hN:(v.num==0) with
    |false =>
     left
     apply Exists.intro;apply Exists.intro;apply Exists.intro;apply Exists.intro;apply Exists.intro;apply Exists.intro
     refine ⟨v,out,?_,?_⟩
     ·simp only[itemsD,hA,hN]
     refine tI rfl ?_
     refine tQ ?_
     repeat first|with_reducible constructor|with_reducible refine tW rfl ?_|((with_reducible apply tG);(focus kernel_rfl);(focus (intro _ _;(repeat (apply tOp;(focus (intro _;simp only[hA',hL,hN,List.length_map,go_sem,Nat.reduceAdd,reduceIte];rfl))));rfl));(focus (simp only[go_sem,Nat.reduceAdd,reduceIte];rfl)))
     with_reducible apply tF
     ·simp only[go_sem,Nat.reduceAdd,reduceIte];rfl
     ·rfl
     refine tQ ?_
     repeat first|with_reducible constructor|with_reducible refine tW rfl ?_
     exact tlX
     all_goals exact .dead
    |true =>
     obtain ⟨a,t,hat⟩:∃ a t,v.args=[a,t]:=by
      have:v.args.length=2:=by have:=eq_of_beq hL;omega
      match v.args,this with
      |[a,t],_=>exact ⟨a,t,rfl⟩
     have hst:t.size < m:=by
      have:=VaD.args_size (t:=v) (a:=t) (by rw[hat];simp)
      omega
     rw[hat] at hL
     by_cases hB:out.length=2000
     ·right
      apply Exists.intro;apply Exists.intro;apply Exists.intro;apply Exists.intro;apply Exists.intro;apply Exists.intro
      refine ⟨?_,?_⟩
      ·simp only[itemsD,hA,hN,hat,hB,beq_self_eq_true,if_true]
      have hge:decide (((out.length:Nat):Int)≥2000)=true:=by simp;omega
      rw[hat]
      refine tI rfl ?_
      refine tQ ?_
      repeat first|with_reducible constructor|with_reducible refine tW rfl ?_|((with_reducible apply tG);(focus kernel_rfl);(focus (intro _ _;(repeat (apply tOp;(focus (intro _;simp only[hA',hL,hN,List.length_map,go_sem,Nat.reduceAdd,reduceIte];rfl))));rfl));(focus (simp only[go_sem,Nat.reduceAdd,reduceIte];rfl)))
      with_reducible apply tT
      ·simp only[go_sem,Nat.reduceAdd,reduceIte];rfl
      ·rfl
      refine tQ ?_
      repeat first|with_reducible constructor|with_reducible refine tW rfl ?_|((with_reducible apply tG);(focus kernel_rfl);(focus (intro _ _;(repeat (apply tOp;(focus (intro _;simp only[List.length_map,go_sem,Nat.reduceAdd,reduceIte];rfl))));rfl));(focus (simp only[go_sem,Nat.reduceAdd,reduceIte];rfl)))
      with_reducible apply tT
      ·simp only[go_sem,Nat.reduceAdd,reduceIte];rfl
      ·exact hge
      refine tQ ?_
      repeat first|with_reducible constructor|with_reducible refine tW rfl ?_|((with_reducible apply tG);(focus kernel_rfl);(focus (intro _ _;(repeat (apply tOp;(focus (intro _;simp only[go_sem,Nat.reduceAdd,reduceIte];rfl))));rfl));(focus (simp only[go_sem,Nat.reduceAdd,reduceIte];rfl)))
      exact tlE
      all_goals exact .dead
     ·have hge:decide (((out.length:Nat):Int)≥2000)=false:=by simp;omega
      have hr:Nat.ble (out.length+1) room=true:=by apply Nat.ble_eq_true_of_le;simp only[room];omega
      have hstep:itemsD (m+1) out v=itemsD m (out++[a]) t:=by
       have:(out.length==2000)=false:=by simpa using hB
       simp only[itemsD,hA,hN,hat,this];rfl
      have emap:(out++[a]).map VaD.enc=out.map VaD.enc++[a.enc]:=by simp
      rcases ih t (out++[a]) hst (by simp;omega) with ⟨s0,s2,s3,s18,s21,s46,w,o,h1,h2⟩|⟨s0,s1,s4,s18,s21,s46,h1,h2⟩
      ·left
       rw[hstep]
       rw[emap,a.enc_eq] at h2
       refine ⟨s0,s2,s3,s18,s21,s46,w,o,h1,?_⟩
       rw[hat,List.map_cons,List.map_cons,List.map_nil,a.enc_eq,t.enc_eq]
       refine tI rfl ?_
       refine tQ ?_
       repeat first|with_reducible constructor|with_reducible refine tW rfl ?_|((with_reducible apply tG);(focus kernel_rfl);(focus (intro _ _;(repeat (apply tOp;(focus (intro _;simp only[hA',hL,hN,List.length_map,go_sem,Nat.reduceAdd,reduceIte];rfl))));rfl));(focus (simp only[go_sem,Nat.reduceAdd,reduceIte];rfl)))
       with_reducible apply tT
       ·simp only[go_sem,Nat.reduceAdd,reduceIte];rfl
       ·rfl
       refine tQ ?_
       repeat first|with_reducible constructor|with_reducible refine tW rfl ?_|((with_reducible apply tG);(focus kernel_rfl);(focus (intro _ _;(repeat (apply tOp;(focus (intro _;simp only[List.length_map,go_sem,Nat.reduceAdd,reduceIte];rfl))));rfl));(focus (simp only[go_sem,Nat.reduceAdd,reduceIte];rfl)))
       with_reducible apply tF
       ·simp only[go_sem,Nat.reduceAdd,reduceIte];rfl
       ·exact hge
       refine tQ ?_
       repeat first|with_reducible constructor|with_reducible refine tW rfl ?_|((with_reducible apply tG);(focus kernel_rfl);(focus (intro _ _;(repeat (apply tOp;(focus (intro _;simp only[hr,List.length_map,setElems,clean,flat,List.replicate,List.set_cons_zero,go_sem,Nat.reduceAdd,reduceIte];rfl))));rfl));(focus (simp only[go_sem,Nat.reduceAdd,reduceIte];rfl)))
       exact h2
      ·right
       rw[hstep]
       rw[emap,a.enc_eq] at h2
       refine ⟨s0,s1,s4,s18,s21,s46,h1,?_⟩
       rw[hat,List.map_cons,List.map_cons,List.map_nil,a.enc_eq,t.enc_eq]
       refine tI rfl ?_
       refine tQ ?_
       repeat first|with_reducible constructor|with_reducible refine tW rfl ?_|((with_reducible apply tG);(focus kernel_rfl);(focus (intro _ _;(repeat (apply tOp;(focus (intro _;simp only[hA',hL,hN,List.length_map,go_sem,Nat.reduceAdd,reduceIte];rfl))));rfl));(focus (simp only[go_sem,Nat.reduceAdd,reduceIte];rfl)))
       with_reducible apply tT
       ·simp only[go_sem,Nat.reduceAdd,reduceIte];rfl
       ·rfl
       refine tQ ?_
       repeat first|with_reducible constructor|with_reducible refine tW rfl ?_|((with_reducible apply tG);(focus kernel_rfl);(focus (intro _ _;(repeat (apply tOp;(focus (intro _;simp only[List.length_map,go_sem,Nat.reduceAdd,reduceIte];rfl))));rfl));(focus (simp only[go_sem,Nat.reduceAdd,reduceIte];rfl)))
       with_reducible apply tF
       ·simp only[go_sem,Nat.reduceAdd,reduceIte];rfl
       ·exact hge
       refine tQ ?_
       repeat first|with_reducible constructor|with_reducible refine tW rfl ?_|((with_reducible apply tG);(focus kernel_rfl);(focus (intro _ _;(repeat (apply tOp;(focus (intro _;simp only[hr,List.length_map,setElems,clean,flat,List.replicate,List.set_cons_zero,go_sem,Nat.reduceAdd,reduceIte];rfl))));rfl));(focus (simp only[go_sem,Nat.reduceAdd,reduceIte];rfl)))
       exact h2
theorem c15 (v:VaD) (sto:Sto):CF (.fn 15) [.val v.enc] sto=some (.ret (.tup (itemsR (itemsD (v.size+1) [] v))),sto):=by
 rcases loop15 sto (v.size+1) v [] (Nat.lt_succ_self _) (by simp) with ⟨s0,s2,s3,s18,s21,s46,w,o,h1,hl⟩|⟨s0,s1,s4,s18,s21,s46,h1,hl⟩
 ·rw[h1]
  rw[v.enc_eq]
  simp only[List.map_nil] at hl
  cases hA:(w.con==nilS) with
  |false =>
   have hA':(w.con==[78,105,108])=false:=hA
   simp only[Bool.false_and,Bool.false_eq_true,if_false,itemsR]
   apply tA
   ·rfl
   ·rfl
   ·exact Tryz.func15
   ·rfl
   ·rfl
   ·simp only[go_sem,Nat.reduceAdd,reduceIte];rfl
   refine tQ ?_
   repeat first|with_reducible constructor|with_reducible refine tW rfl ?_|((with_reducible apply tG);(focus kernel_rfl);(focus (intro _ _;(repeat (apply tOp;(focus (intro _;simp only[go_sem,Nat.reduceAdd,reduceIte];rfl))));rfl));(focus (simp only[go_sem,Nat.reduceAdd,reduceIte];rfl)))
   apply tL
   ·exact hl
   refine tQ ?_
   repeat first|with_reducible constructor|with_reducible refine tW rfl ?_|((with_reducible apply tG);(focus kernel_rfl);(focus (intro _ _;(repeat (apply tOp;(focus (intro _;simp only[hA',go_sem,Nat.reduceAdd,reduceIte];rfl))));rfl));(focus (simp only[go_sem,Nat.reduceAdd,reduceIte];rfl)))
   with_reducible apply tT
   ·simp only[go_sem,Nat.reduceAdd,reduceIte];rfl
   ·rfl
   refine tQ ?_
   repeat first|with_reducible constructor|with_reducible refine tW rfl ?_|((with_reducible apply tG);(focus kernel_rfl);(focus (intro _ _;(repeat (apply tOp;(focus (intro _;simp only[go_sem,Nat.reduceAdd,reduceIte];rfl))));rfl));(focus (simp only[go_sem,Nat.reduceAdd,reduceIte];rfl)))
   exact fin0 rfl
  |true =>
   have hA':(w.con==[78,105,108])=true:=hA
   cases hL:decide (((w.args.length:Nat):Int) > 0) with
   |true =>
    have hz:(w.args.length==0)=false:=by simp at hL ⊢;intro e;rw[e] at hL;simp at hL
    simp only[hz,Bool.and_false,Bool.false_eq_true,if_false,itemsR]
    apply tA
    ·rfl
    ·rfl
    ·exact Tryz.func15
    ·rfl
    ·rfl
    ·simp only[go_sem,Nat.reduceAdd,reduceIte];rfl
    refine tQ ?_
    repeat first|with_reducible constructor|with_reducible refine tW rfl ?_|((with_reducible apply tG);(focus kernel_rfl);(focus (intro _ _;(repeat (apply tOp;(focus (intro _;simp only[go_sem,Nat.reduceAdd,reduceIte];rfl))));rfl));(focus (simp only[go_sem,Nat.reduceAdd,reduceIte];rfl)))
    apply tL
    ·exact hl
    refine tQ ?_
    repeat first|with_reducible constructor|with_reducible refine tW rfl ?_|((with_reducible apply tG);(focus kernel_rfl);(focus (intro _ _;(repeat (apply tOp;(focus (intro _;simp only[hA',hL,List.length_map,go_sem,Nat.reduceAdd,reduceIte];rfl))));rfl));(focus (simp only[go_sem,Nat.reduceAdd,reduceIte];rfl)))
    with_reducible apply tT
    ·simp only[go_sem,Nat.reduceAdd,reduceIte];rfl
    ·rfl
    refine tQ ?_
    repeat first|with_reducible constructor|with_reducible refine tW rfl ?_|((with_reducible apply tG);(focus kernel_rfl);(focus (intro _ _;(repeat (apply tOp;(focus (intro _;simp only[go_sem,Nat.reduceAdd,reduceIte];rfl))));rfl));(focus (simp only[go_sem,Nat.reduceAdd,reduceIte];rfl)))
    exact fin0 rfl
   |false =>
    have hz:(w.args.length==0)=true:=by simp at hL ⊢;exact hL
    cases hN:(w.num != 0) with
    |true =>
     have hn:(w.num==0)=false:=by simp at hN ⊢;exact hN
     simp only[hn,Bool.and_false,Bool.false_and,Bool.false_eq_true,if_false,itemsR]
     apply tA
     ·rfl
     ·rfl
     ·exact Tryz.func15
     ·rfl
     ·rfl
     ·simp only[go_sem,Nat.reduceAdd,reduceIte];rfl
     refine tQ ?_
     repeat first|with_reducible constructor|with_reducible refine tW rfl ?_|((with_reducible apply tG);(focus kernel_rfl);(focus (intro _ _;(repeat (apply tOp;(focus (intro _;simp only[go_sem,Nat.reduceAdd,reduceIte];rfl))));rfl));(focus (simp only[go_sem,Nat.reduceAdd,reduceIte];rfl)))
     apply tL
     ·exact hl
     refine tQ ?_
     repeat first|with_reducible constructor|with_reducible refine tW rfl ?_|((with_reducible apply tG);(focus kernel_rfl);(focus (intro _ _;(repeat (apply tOp;(focus (intro _;simp only[hA',hL,hN,List.length_map,go_sem,Nat.reduceAdd,reduceIte];rfl))));rfl));(focus (simp only[go_sem,Nat.reduceAdd,reduceIte];rfl)))
     with_reducible apply tT
     ·simp only[go_sem,Nat.reduceAdd,reduceIte];rfl
     ·rfl
     refine tQ ?_
     repeat first|with_reducible constructor|with_reducible refine tW rfl ?_|((with_reducible apply tG);(focus kernel_rfl);(focus (intro _ _;(repeat (apply tOp;(focus (intro _;simp only[go_sem,Nat.reduceAdd,reduceIte];rfl))));rfl));(focus (simp only[go_sem,Nat.reduceAdd,reduceIte];rfl)))
     exact fin0 rfl
    |false =>
     have hn:(w.num==0)=true:=by simp at hN ⊢;exact hN
     simp only[hn,hz,Bool.and_self,if_true,itemsR]
     apply tA
     ·rfl
     ·rfl
     ·exact Tryz.func15
     ·rfl
     ·rfl
     ·simp only[go_sem,Nat.reduceAdd,reduceIte];rfl
     refine tQ ?_
     repeat first|with_reducible constructor|with_reducible refine tW rfl ?_|((with_reducible apply tG);(focus kernel_rfl);(focus (intro _ _;(repeat (apply tOp;(focus (intro _;simp only[go_sem,Nat.reduceAdd,reduceIte];rfl))));rfl));(focus (simp only[go_sem,Nat.reduceAdd,reduceIte];rfl)))
     apply tL
     ·exact hl
     refine tQ ?_
     repeat first|with_reducible constructor|with_reducible refine tW rfl ?_|((with_reducible apply tG);(focus kernel_rfl);(focus (intro _ _;(repeat (apply tOp;(focus (intro _;simp only[hA',hL,hN,List.length_map,go_sem,Nat.reduceAdd,reduceIte];rfl))));rfl));(focus (simp only[go_sem,Nat.reduceAdd,reduceIte];rfl)))
     with_reducible apply tF
     ·simp only[go_sem,Nat.reduceAdd,reduceIte];rfl
     ·rfl
     refine tQ ?_
     repeat first|with_reducible constructor|with_reducible refine tW rfl ?_|((with_reducible apply tG);(focus kernel_rfl);(focus (intro _ _;(repeat (apply tOp;(focus (intro _;simp only[go_sem,Nat.reduceAdd,reduceIte];rfl))));rfl));(focus (simp only[go_sem,Nat.reduceAdd,reduceIte];rfl)))
     exact fin0 rfl
 ·rw[h1]
  rw[v.enc_eq]
  simp only[List.map_nil] at hl
  simp only[itemsR]
  apply tA
  ·rfl
  ·rfl
  ·exact Tryz.func15
  ·rfl
  ·rfl
  ·simp only[go_sem,Nat.reduceAdd,reduceIte];rfl
  refine tQ ?_
  repeat first|with_reducible constructor|with_reducible refine tW rfl ?_|((with_reducible apply tG);(focus kernel_rfl);(focus (intro _ _;(repeat (apply tOp;(focus (intro _;simp only[go_sem,Nat.reduceAdd,reduceIte];rfl))));rfl));(focus (simp only[go_sem,Nat.reduceAdd,reduceIte];rfl)))
  apply tL
  ·exact hl
  exact fin0 rfl
end Go.Proofs.YtdkkaldimefljaaGreatDoor
end
section
namespace Go.Proofs.YtdkkaldimefljaaGreatDoor
open Go.AM
attribute [local go_sem] opsK oneK guardK stepK callK argsA capsA elemsA mvK mv asV asSl AM.asInt AM.asBool asPlace asBox asObj asMap cellsOfPlace writePlace asCells boxCells optInt sliceCut drawnPlace opS RS.look RS.put RS.putO alook tlook commit persist constS constT absV absC dstOk noRefTo guardB abin abinT isNilSlice isNilIface nilTest Nat.beq Nat.ble Nat.blt cond_true cond_false Bool.and_true Bool.true_and Bool.and_self Bool.not_true Bool.not_false Bool.or_true Bool.or_false Bool.false_or Bool.true_or Bool.and_false Bool.false_and List.all_nil List.all_cons List.contains List.elem Option.bind_some Option.map_some Option.getD_some cAgg cInt cBool cStr cSlice cFunc cNilf cNilp cNilm cLoc cMap cYld List.take_succ_cons List.take_zero List.drop_zero List.drop_succ_cons Nat.zero_add Cell.get Cell.lok AM.lok lokF noRefS partOf List.map_nil List.map_cons List.length_cons List.length_nil List.getElem?_cons_zero List.getElem?_cons_succ List.nil_append List.cons_append List.append_nil List.getElem?_toArray List.toList_toArray Option.bind_none Option.map_none objs1 objs2 objs3 objs32 oset1 setCells List.take_append_drop List.drop_nil List.take_nil an14 an22 sz0 ag0 by0 Tryz.underlying0 sz3 ag3 zo3 zc3 by3 Tryz.underlying3 sz4 ag4 zo4 zc4 by4 Tryz.underlying4 sz9 ag9 zo9 zc9 by9 Tryz.underlying9 sz25 ag25 se25 zo25 zc25 by25 Tryz.underlying25 sz27 ag27 zo27 zc27 by27 Tryz.underlying27 pl27 fd27_0 fd27_1 fd27_2
set_option maxRecDepth 100000
set_option maxHeartbeats 8000000
theorem loop22 (s:List UInt8) (n:Int) (sto:Sto) (ys:List VaD):∀ (pre:List VaD),(pre++ys).length+1 < big→(∀ y∈ys,CF (.fn 22) [.val y.enc] sto=some (.ret (.val y.enc),sto)) →
  ∃ s0 s1 s5 s12 s13 s14 s15,LP 22 (loopOf Tryz.f22 0) ⟨[.dead,.dead,.box [.val (.str []),.val (.int .i64 0),.own 3 []],.box [.val (.str s),.val (.int .i64 n),.own 3 (pre.map VaD.enc)],.dead,.val (.slice ((pre++ys).map VaD.enc)),.val (.int .i64 ((pre++ys).length:Nat)),.val (.int .i64 (pre.length:Nat)),.dead],sto⟩ =
   some (.exit 0,⟨[s0,s1,.box [.val (.str []),.val (.int .i64 0),.own 3 []],.box [.val (.str s),.val (.int .i64 n),.own 3 ((pre++ys).map VaD.enc)],s5,s12,s13,s14,s15],sto⟩):=by
 induction ys with
 |nil =>
  intro pre h3 h2
  have hlt:=geI pre
  simp only[List.append_nil]
  apply Exists.intro;apply Exists.intro;apply Exists.intro;apply Exists.intro;apply Exists.intro;apply Exists.intro;apply Exists.intro
  refine tI rfl ?_
  refine tQ ?_
  repeat first|with_reducible constructor|with_reducible refine tW rfl ?_|((with_reducible apply tG);(focus kernel_rfl);(focus (intro _ _;(repeat (apply tOp;(focus (intro _;simp only[go_sem,Nat.reduceAdd,reduceIte];rfl))));rfl));(focus (simp only[go_sem,Nat.reduceAdd,reduceIte];rfl)))
  with_reducible apply tF
  ·simp only[go_sem,Nat.reduceAdd,reduceIte];rfl
  ·exact hlt
  refine tQ ?_
  repeat first|with_reducible constructor|with_reducible refine tW rfl ?_
  exact tlX
  all_goals exact .dead
 |cons y ys ih =>
  intro pre h3 h2
  have hget:=getI VaD.enc pre ys y
  have hlt:=ltI pre ys y
  have h0:=zI pre.length
  have hw:=wL pre ys y (by omega)
  have hc:=h2 y (by simp)
  have hr:Nat.ble (pre.length+1) room=true:=by apply Nat.ble_eq_true_of_le;simp only[room];simp only[List.length_append,List.length_cons,big] at h3;omega
  have emap:(pre++[y]).map VaD.enc=pre.map VaD.enc++[y.enc]:=by simp
  obtain ⟨s0,s1,s5,s12,s13,s14,s15,ih⟩:=ih (pre++[y]) (by simpa using h3) (fun x hx=>h2 x (by simp [hx]))
  rw[emap] at ih
  rw[y.enc_eq] at hget hc ih
  simp only[List.append_assoc,List.singleton_append] at ih
  refine ⟨s0,s1,s5,s12,s13,s14,s15,?_⟩
  refine tI rfl ?_
  refine tQ ?_
  repeat first|with_reducible constructor|with_reducible refine tW rfl ?_|((with_reducible apply tG);(focus kernel_rfl);(focus (intro _ _;(repeat (apply tOp;(focus (intro _;simp only[go_sem,Nat.reduceAdd,reduceIte];rfl))));rfl));(focus (simp only[go_sem,Nat.reduceAdd,reduceIte];rfl)))
  with_reducible apply tT
  ·simp only[go_sem,Nat.reduceAdd,reduceIte];rfl
  ·exact hlt
  refine tQ ?_
  repeat first|with_reducible constructor|with_reducible refine tW rfl ?_|((with_reducible apply tG);(focus kernel_rfl);(focus (intro _ _;(repeat (apply tOp;(focus (intro _;simp only[hget,h0,hc,hw,hr,List.length_map,setElems,clean,flat,List.replicate,List.set_cons_zero,go_sem,Nat.reduceAdd,reduceIte];rfl))));rfl));(focus (simp only[go_sem,Nat.reduceAdd,reduceIte];rfl)))
  exact ih
theorem c22:∀ (v:VaD) (sto:Sto),v.size < big→CF (.fn 22) [.val v.enc] sto=some (.ret (.val v.enc),sto):=by
 intro v
 induction v using VaD.ind with
 |h v ih =>
  intro sto hs
  obtain ⟨s0,s1,s5,s12,s13,s14,s15,hl⟩:=loop22 v.con v.num sto v.args [] (by have:=v.args_len;simp only[List.nil_append,big] at hs ⊢;omega) (fun y hy=>ih y hy sto (by have:=VaD.args_size hy;omega))
  simp only[List.nil_append,List.length_nil,List.map_nil] at hl
  rw[v.enc_eq]
  apply tA
  ·rfl
  ·rfl
  ·exact Tryz.func22
  ·rfl
  ·rfl
  ·simp only[go_sem,Nat.reduceAdd,reduceIte];rfl
  refine tQ ?_
  repeat first|with_reducible constructor|with_reducible refine tW rfl ?_|((with_reducible apply tG);(focus kernel_rfl);(focus (intro _ _;(repeat (apply tOp;(focus (intro _;simp only[List.length_map,go_sem,Nat.reduceAdd,reduceIte];rfl))));rfl));(focus (simp only[go_sem,Nat.reduceAdd,reduceIte];rfl)))
  apply tL
  ·exact hl
  refine tQ ?_
  repeat first|with_reducible constructor|with_reducible refine tW rfl ?_|((with_reducible apply tG);(focus kernel_rfl);(focus (intro _ _;(repeat (apply tOp;(focus (intro _;simp only[go_sem,Nat.reduceAdd,reduceIte];rfl))));rfl));(focus (simp only[go_sem,Nat.reduceAdd,reduceIte];rfl)))
  exact fin0 rfl
theorem loop14 (sto:Sto):∀ (m:Nat) (v:VaD) (out:List VaD),v.size < m→v.size < big→out.length≤2000 →
  (∃ s0 s2 s3 s18 s21 s47,∃ (w:VaD) (o:List VaD),(itemsD m out v=(if w.con==nilS&&w.num==0&&w.args.length==0 then some o else none))∧LP 14 (loopOf Tryz.f14 0) ⟨[.dead,.box [.val (.str v.con),.val (.int .i64 v.num),.val (.slice (v.args.map VaD.enc))],.dead,.dead,.own 3 (out.map VaD.enc),.dead,.dead,.dead],sto⟩ =
    some (.exit 0,⟨[s0,.box [.val (.str w.con),.val (.int .i64 w.num),.val (.slice (w.args.map VaD.enc))],s2,s3,.own 3 (o.map VaD.enc),s18,s21,s47],sto⟩)) ∨
  (∃ s0 s1 s4 s18 s21 s47,itemsD m out v=none∧LP 14 (loopOf Tryz.f14 0) ⟨[.dead,.box [.val (.str v.con),.val (.int .i64 v.num),.val (.slice (v.args.map VaD.enc))],.dead,.dead,.own 3 (out.map VaD.enc),.dead,.dead,.dead],sto⟩ =
    some (.ret,⟨[s0,s1,.own 3 [],.val (.bool false),s4,s18,s21,s47],sto⟩)):=by
 intro m
 induction m with
 |zero=>intro v out h;omega
 |succ m ih =>
  intro v out hs hb ho
  have hg:∀ n:Nat,decide (((n:Nat):Int)≥2000)=decide (2000≤n):=fun n=>by simp;omega
  cases hA:(v.con==consS) with
  |false =>
   have hA':(v.con==[67,111,110,115])=false:=hA
   left
   apply Exists.intro;apply Exists.intro;apply Exists.intro;apply Exists.intro;apply Exists.intro;apply Exists.intro
   refine ⟨v,out,?_,?_⟩
   ·simp only[itemsD,hA]
   refine tI rfl ?_
   refine tQ ?_
   repeat first|with_reducible constructor|with_reducible refine tW rfl ?_|((with_reducible apply tG);(focus kernel_rfl);(focus (intro _ _;(repeat (apply tOp;(focus (intro _;simp only[hA',go_sem,Nat.reduceAdd,reduceIte];rfl))));rfl));(focus (simp only[go_sem,Nat.reduceAdd,reduceIte];rfl)))
   with_reducible apply tF
   ·simp only[go_sem,Nat.reduceAdd,reduceIte];rfl
   ·rfl
   refine tQ ?_
   repeat first|with_reducible constructor|with_reducible refine tW rfl ?_
   exact tlX
   all_goals exact .dead
  |true =>
   have hA':(v.con==[67,111,110,115])=true:=hA
   cases hN:(v.num==0) with
   |false =>
    left
    apply Exists.intro;apply Exists.intro;apply Exists.intro;apply Exists.intro;apply Exists.intro;apply Exists.intro
    refine ⟨v,out,?_,?_⟩
    ·simp only[itemsD,hA,hN]
    refine tI rfl ?_
    refine tQ ?_
    repeat first|with_reducible constructor|with_reducible refine tW rfl ?_|((with_reducible apply tG);(focus kernel_rfl);(focus (intro _ _;(repeat (apply tOp;(focus (intro _;simp only[hA',hN,List.length_map,go_sem,Nat.reduceAdd,reduceIte];rfl))));rfl));(focus (simp only[go_sem,Nat.reduceAdd,reduceIte];rfl)))
    with_reducible apply tF
    ·simp only[go_sem,Nat.reduceAdd,reduceIte];rfl
    ·rfl
    refine tQ ?_
    repeat first|with_reducible constructor|with_reducible refine tW rfl ?_
    exact tlX
    all_goals exact .dead
   |true =>
    cases hL:((v.args.length:Int)==2) with
    |false =>
     left
     apply Exists.intro;apply Exists.intro;apply Exists.intro;apply Exists.intro;apply Exists.intro;apply Exists.intro
     refine ⟨v,out,?_,?_⟩
     ·have hne:v.args.length≠2:=fun e=>by rw[e] at hL;cases hL
      simp only[itemsD,hA,hN]
      split
      ·rename_i h1;rw[h1] at hne;simp at hne
      ·rfl
     refine tI rfl ?_
     refine tQ ?_
     repeat first|with_reducible constructor|with_reducible refine tW rfl ?_|((with_reducible apply tG);(focus kernel_rfl);(focus (intro _ _;(repeat (apply tOp;(focus (intro _;simp only[hA',hL,hN,List.length_map,go_sem,Nat.reduceAdd,reduceIte];rfl))));rfl));(focus (simp only[go_sem,Nat.reduceAdd,reduceIte];rfl)))
     with_reducible apply tF
     ·simp only[go_sem,Nat.reduceAdd,reduceIte];rfl
     ·rfl
     refine tQ ?_
     repeat first|with_reducible constructor|with_reducible refine tW rfl ?_
     exact tlX
     all_goals exact .dead
    |true =>
     obtain ⟨a,t,hat⟩:∃ a t,v.args=[a,t]:=by
      have:v.args.length=2:=by have:=eq_of_beq hL;omega
      match v.args,this with
      |[a,t],_=>exact ⟨a,t,rfl⟩
     have hst:t.size < m:=by
      have:=VaD.args_size (t:=v) (a:=t) (by rw[hat];simp)
      omega
     rw[hat] at hL
     by_cases hB:out.length=2000
     ·right
      apply Exists.intro;apply Exists.intro;apply Exists.intro;apply Exists.intro;apply Exists.intro;apply Exists.intro
      refine ⟨?_,?_⟩
      ·simp only[itemsD,hA,hN,hat,hB,beq_self_eq_true,if_true]
      have hge:(((out.length:Nat):Int)==2000)=true:=by simp;omega
      rw[hat]
      refine tI rfl ?_
      refine tQ ?_
      repeat first|with_reducible constructor|with_reducible refine tW rfl ?_|((with_reducible apply tG);(focus kernel_rfl);(focus (intro _ _;(repeat (apply tOp;(focus (intro _;simp only[hA',hL,hN,List.length_map,go_sem,Nat.reduceAdd,reduceIte];rfl))));rfl));(focus (simp only[go_sem,Nat.reduceAdd,reduceIte];rfl)))
      with_reducible apply tT
      ·simp only[go_sem,Nat.reduceAdd,reduceIte];rfl
      ·rfl
      refine tQ ?_
      repeat first|with_reducible constructor|with_reducible refine tW rfl ?_|((with_reducible apply tG);(focus kernel_rfl);(focus (intro _ _;(repeat (apply tOp;(focus (intro _;simp only[List.length_map,go_sem,Nat.reduceAdd,reduceIte];rfl))));rfl));(focus (simp only[go_sem,Nat.reduceAdd,reduceIte];rfl)))
      with_reducible apply tT
      ·simp only[go_sem,Nat.reduceAdd,reduceIte];rfl
      ·exact hge
      refine tQ ?_
      repeat first|with_reducible constructor|with_reducible refine tW rfl ?_|((with_reducible apply tG);(focus kernel_rfl);(focus (intro _ _;(repeat (apply tOp;(focus (intro _;simp only[go_sem,Nat.reduceAdd,reduceIte];rfl))));rfl));(focus (simp only[go_sem,Nat.reduceAdd,reduceIte];rfl)))
      exact tlE
      all_goals exact .dead
     ·have hge:(((out.length:Nat):Int)==2000)=false:=by simp;omega
      have hr:Nat.ble (out.length+1) room=true:=by apply Nat.ble_eq_true_of_le;simp only[room];omega
      have hstep:itemsD (m+1) out v=itemsD m (out++[a]) t:=by
       have:(out.length==2000)=false:=by simpa using hB
       simp only[itemsD,hA,hN,hat,this];rfl
      have emap:(out++[a]).map VaD.enc=out.map VaD.enc++[a.enc]:=by simp
      have hca:=c22 a ⟨sto.objs,sto.objs.length⟩ (by have:=VaD.args_size (t:=v) (a:=a) (by rw[hat];simp);omega)
      rw[a.enc_eq] at hca
      rcases ih t (out++[a]) hst (by have:=VaD.args_size (t:=v) (a:=t) (by rw[hat];simp);omega) (by simp;omega) with ⟨s0,s2,s3,s18,s21,s47,w,o,h1,h2⟩|⟨s0,s1,s4,s18,s21,s47,h1,h2⟩
      ·left
       rw[hstep]
       rw[emap,a.enc_eq] at h2
       refine ⟨s0,s2,s3,s18,s21,s47,w,o,h1,?_⟩
       rw[hat,List.map_cons,List.map_cons,List.map_nil,a.enc_eq,t.enc_eq]
       refine tI rfl ?_
       refine tQ ?_
       repeat first|with_reducible constructor|with_reducible refine tW rfl ?_|((with_reducible apply tG);(focus kernel_rfl);(focus (intro _ _;(repeat (apply tOp;(focus (intro _;simp only[hA',hL,hN,List.length_map,go_sem,Nat.reduceAdd,reduceIte];rfl))));rfl));(focus (simp only[go_sem,Nat.reduceAdd,reduceIte];rfl)))
       with_reducible apply tT
       ·simp only[go_sem,Nat.reduceAdd,reduceIte];rfl
       ·rfl
       refine tQ ?_
       repeat first|with_reducible constructor|with_reducible refine tW rfl ?_|((with_reducible apply tG);(focus kernel_rfl);(focus (intro _ _;(repeat (apply tOp;(focus (intro _;simp only[List.length_map,go_sem,Nat.reduceAdd,reduceIte];rfl))));rfl));(focus (simp only[go_sem,Nat.reduceAdd,reduceIte];rfl)))
       with_reducible apply tF
       ·simp only[go_sem,Nat.reduceAdd,reduceIte];rfl
       ·exact hge
       refine tQ ?_
       repeat first|with_reducible constructor|with_reducible refine tW rfl ?_|((with_reducible apply tG);(focus kernel_rfl);(focus (intro _ _;(repeat (apply tOp;(focus (intro _;simp only[hr,hca,beq_self_eq_true,slotLok,List.length_map,setElems,clean,flat,List.replicate,List.set_cons_zero,go_sem,Nat.reduceAdd,reduceIte];rfl))));rfl));(focus (simp only[go_sem,Nat.reduceAdd,reduceIte];rfl)))
       exact h2
      ·right
       rw[hstep]
       rw[emap,a.enc_eq] at h2
       refine ⟨s0,s1,s4,s18,s21,s47,h1,?_⟩
       rw[hat,List.map_cons,List.map_cons,List.map_nil,a.enc_eq,t.enc_eq]
       refine tI rfl ?_
       refine tQ ?_
       repeat first|with_reducible constructor|with_reducible refine tW rfl ?_|((with_reducible apply tG);(focus kernel_rfl);(focus (intro _ _;(repeat (apply tOp;(focus (intro _;simp only[hA',hL,hN,List.length_map,go_sem,Nat.reduceAdd,reduceIte];rfl))));rfl));(focus (simp only[go_sem,Nat.reduceAdd,reduceIte];rfl)))
       with_reducible apply tT
       ·simp only[go_sem,Nat.reduceAdd,reduceIte];rfl
       ·rfl
       refine tQ ?_
       repeat first|with_reducible constructor|with_reducible refine tW rfl ?_|((with_reducible apply tG);(focus kernel_rfl);(focus (intro _ _;(repeat (apply tOp;(focus (intro _;simp only[List.length_map,go_sem,Nat.reduceAdd,reduceIte];rfl))));rfl));(focus (simp only[go_sem,Nat.reduceAdd,reduceIte];rfl)))
       with_reducible apply tF
       ·simp only[go_sem,Nat.reduceAdd,reduceIte];rfl
       ·exact hge
       refine tQ ?_
       repeat first|with_reducible constructor|with_reducible refine tW rfl ?_|((with_reducible apply tG);(focus kernel_rfl);(focus (intro _ _;(repeat (apply tOp;(focus (intro _;simp only[hr,hca,beq_self_eq_true,slotLok,List.length_map,setElems,clean,flat,List.replicate,List.set_cons_zero,go_sem,Nat.reduceAdd,reduceIte];rfl))));rfl));(focus (simp only[go_sem,Nat.reduceAdd,reduceIte];rfl)))
       exact h2
theorem c14 (v:VaD) (sto:Sto) (hb:v.size < big):CF (.fn 14) [.val v.enc] sto=some (.ret (.tup (itemsR (itemsD (v.size+1) [] v))),sto):=by
 rcases loop14 sto (v.size+1) v [] (Nat.lt_succ_self _) hb (by simp) with ⟨s0,s2,s3,s18,s21,s47,w,o,h1,hl⟩|⟨s0,s1,s4,s18,s21,s47,h1,hl⟩
 ·rw[h1]
  rw[v.enc_eq]
  simp only[List.map_nil] at hl
  cases hA:(w.con==nilS) with
  |false =>
   have hA':(w.con==[78,105,108])=false:=hA
   simp only[Bool.false_and,Bool.false_eq_true,if_false,itemsR]
   apply tA
   ·rfl
   ·rfl
   ·exact Tryz.func14
   ·rfl
   ·rfl
   ·simp only[go_sem,Nat.reduceAdd,reduceIte];rfl
   refine tQ ?_
   repeat first|with_reducible constructor|with_reducible refine tW rfl ?_|((with_reducible apply tG);(focus kernel_rfl);(focus (intro _ _;(repeat (apply tOp;(focus (intro _;simp only[go_sem,Nat.reduceAdd,reduceIte];rfl))));rfl));(focus (simp only[go_sem,Nat.reduceAdd,reduceIte];rfl)))
   apply tL
   ·exact hl
   refine tQ ?_
   repeat first|with_reducible constructor|with_reducible refine tW rfl ?_|((with_reducible apply tG);(focus kernel_rfl);(focus (intro _ _;(repeat (apply tOp;(focus (intro _;simp only[hA',go_sem,Nat.reduceAdd,reduceIte];rfl))));rfl));(focus (simp only[go_sem,Nat.reduceAdd,reduceIte];rfl)))
   with_reducible apply tT
   ·simp only[go_sem,Nat.reduceAdd,reduceIte];rfl
   ·rfl
   refine tQ ?_
   repeat first|with_reducible constructor|with_reducible refine tW rfl ?_|((with_reducible apply tG);(focus kernel_rfl);(focus (intro _ _;(repeat (apply tOp;(focus (intro _;simp only[go_sem,Nat.reduceAdd,reduceIte];rfl))));rfl));(focus (simp only[go_sem,Nat.reduceAdd,reduceIte];rfl)))
   exact fin0 rfl
  |true =>
   have hA':(w.con==[78,105,108])=true:=hA
   cases hN:(w.num != 0) with
   |true =>
    have hn:(w.num==0)=false:=by simp at hN ⊢;exact hN
    simp only[hn,Bool.and_false,Bool.false_and,Bool.false_eq_true,if_false,itemsR]
    apply tA
    ·rfl
    ·rfl
    ·exact Tryz.func14
    ·rfl
    ·rfl
    ·simp only[go_sem,Nat.reduceAdd,reduceIte];rfl
    refine tQ ?_
    repeat first|with_reducible constructor|with_reducible refine tW rfl ?_|((with_reducible apply tG);(focus kernel_rfl);(focus (intro _ _;(repeat (apply tOp;(focus (intro _;simp only[go_sem,Nat.reduceAdd,reduceIte];rfl))));rfl));(focus (simp only[go_sem,Nat.reduceAdd,reduceIte];rfl)))
    apply tL
    ·exact hl
    refine tQ ?_
    repeat first|with_reducible constructor|with_reducible refine tW rfl ?_|((with_reducible apply tG);(focus kernel_rfl);(focus (intro _ _;(repeat (apply tOp;(focus (intro _;simp only[hA',hN,List.length_map,go_sem,Nat.reduceAdd,reduceIte];rfl))));rfl));(focus (simp only[go_sem,Nat.reduceAdd,reduceIte];rfl)))
    with_reducible apply tT
    ·simp only[go_sem,Nat.reduceAdd,reduceIte];rfl
    ·rfl
    refine tQ ?_
    repeat first|with_reducible constructor|with_reducible refine tW rfl ?_|((with_reducible apply tG);(focus kernel_rfl);(focus (intro _ _;(repeat (apply tOp;(focus (intro _;simp only[go_sem,Nat.reduceAdd,reduceIte];rfl))));rfl));(focus (simp only[go_sem,Nat.reduceAdd,reduceIte];rfl)))
    exact fin0 rfl
   |false =>
    have hn:(w.num==0)=true:=by simp at hN ⊢;exact hN
    cases hL:decide (((w.args.length:Nat):Int) > 0) with
    |true =>
     have hz:(w.args.length==0)=false:=by simp at hL ⊢;intro e;rw[e] at hL;simp at hL
     simp only[hz,Bool.and_false,Bool.false_eq_true,if_false,itemsR]
     apply tA
     ·rfl
     ·rfl
     ·exact Tryz.func14
     ·rfl
     ·rfl
     ·simp only[go_sem,Nat.reduceAdd,reduceIte];rfl
     refine tQ ?_
     repeat first|with_reducible constructor|with_reducible refine tW rfl ?_|((with_reducible apply tG);(focus kernel_rfl);(focus (intro _ _;(repeat (apply tOp;(focus (intro _;simp only[go_sem,Nat.reduceAdd,reduceIte];rfl))));rfl));(focus (simp only[go_sem,Nat.reduceAdd,reduceIte];rfl)))
     apply tL
     ·exact hl
     refine tQ ?_
     repeat first|with_reducible constructor|with_reducible refine tW rfl ?_|((with_reducible apply tG);(focus kernel_rfl);(focus (intro _ _;(repeat (apply tOp;(focus (intro _;simp only[hA',hN,hL,List.length_map,go_sem,Nat.reduceAdd,reduceIte];rfl))));rfl));(focus (simp only[go_sem,Nat.reduceAdd,reduceIte];rfl)))
     with_reducible apply tT
     ·simp only[go_sem,Nat.reduceAdd,reduceIte];rfl
     ·rfl
     refine tQ ?_
     repeat first|with_reducible constructor|with_reducible refine tW rfl ?_|((with_reducible apply tG);(focus kernel_rfl);(focus (intro _ _;(repeat (apply tOp;(focus (intro _;simp only[go_sem,Nat.reduceAdd,reduceIte];rfl))));rfl));(focus (simp only[go_sem,Nat.reduceAdd,reduceIte];rfl)))
     exact fin0 rfl
    |false =>
     have hz:(w.args.length==0)=true:=by simp at hL ⊢;exact hL
     simp only[hn,hz,Bool.and_self,if_true,itemsR]
     apply tA
     ·rfl
     ·rfl
     ·exact Tryz.func14
     ·rfl
     ·rfl
     ·simp only[go_sem,Nat.reduceAdd,reduceIte];rfl
     refine tQ ?_
     repeat first|with_reducible constructor|with_reducible refine tW rfl ?_|((with_reducible apply tG);(focus kernel_rfl);(focus (intro _ _;(repeat (apply tOp;(focus (intro _;simp only[go_sem,Nat.reduceAdd,reduceIte];rfl))));rfl));(focus (simp only[go_sem,Nat.reduceAdd,reduceIte];rfl)))
     apply tL
     ·exact hl
     refine tQ ?_
     repeat first|with_reducible constructor|with_reducible refine tW rfl ?_|((with_reducible apply tG);(focus kernel_rfl);(focus (intro _ _;(repeat (apply tOp;(focus (intro _;simp only[hA',hN,hL,List.length_map,go_sem,Nat.reduceAdd,reduceIte];rfl))));rfl));(focus (simp only[go_sem,Nat.reduceAdd,reduceIte];rfl)))
     with_reducible apply tF
     ·simp only[go_sem,Nat.reduceAdd,reduceIte];rfl
     ·rfl
     refine tQ ?_
     repeat first|with_reducible constructor|with_reducible refine tW rfl ?_|((with_reducible apply tG);(focus kernel_rfl);(focus (intro _ _;(repeat (apply tOp;(focus (intro _;simp only[go_sem,Nat.reduceAdd,reduceIte];rfl))));rfl));(focus (simp only[go_sem,Nat.reduceAdd,reduceIte];rfl)))
     exact fin0 rfl
 ·rw[h1]
  rw[v.enc_eq]
  simp only[List.map_nil] at hl
  simp only[itemsR]
  apply tA
  ·rfl
  ·rfl
  ·exact Tryz.func14
  ·rfl
  ·rfl
  ·simp only[go_sem,Nat.reduceAdd,reduceIte];rfl
  refine tQ ?_
  repeat first|with_reducible constructor|with_reducible refine tW rfl ?_|((with_reducible apply tG);(focus kernel_rfl);(focus (intro _ _;(repeat (apply tOp;(focus (intro _;simp only[go_sem,Nat.reduceAdd,reduceIte];rfl))));rfl));(focus (simp only[go_sem,Nat.reduceAdd,reduceIte];rfl)))
  apply tL
  ·exact hl
  exact fin0 rfl
end Go.Proofs.YtdkkaldimefljaaGreatDoor
end
