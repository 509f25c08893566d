/- Part C03 of the proof of one law of the program. -/
import Derived.Test.YtkmnkiekmlcfdaaGreatDoorC02
set_option linter.all false
set_option linter.unusedVariables false
set_option linter.unusedSimpArgs false
set_option linter.unusedSectionVars false
set_option linter.unnecessarySimpa false
namespace Go.Proofs.YtkmnkiekmlcfdaaGreatDoor
open Go.AM
attribute [local go_sem] opsK oneK stepK callK argsA capsA elemsA mvK mv asV asSl AM.asInt AM.asBool asPlace asBox asObj asMap cellsOfPlace writePlace asCells optInt sliceCut drawnPlace opS RS.look RS.put RS.putO alook tlook commit persist constS constT absV absC dstOk noRefTo guardB abin abinT isNilSlice isNilIface nilTest Nat.beq Nat.ble Nat.blt cond_true cond_false Bool.and_true Bool.true_and Bool.and_self Bool.not_true Bool.not_false Bool.or_true Bool.or_false Bool.false_or Bool.true_or Bool.and_false Bool.false_and List.all_nil List.all_cons List.contains List.elem Option.bind_some Option.map_some Option.getD_some cAgg cInt cBool cStr cSlice cFunc cNilf cNilp cNilm cLoc cMap cYld List.take_succ_cons List.take_zero List.drop_zero List.drop_succ_cons Nat.zero_add Cell.get Cell.lok AM.lok lokF noRefS partOf List.map_nil List.map_cons List.length_cons List.length_nil List.getElem?_cons_zero List.getElem?_cons_succ List.nil_append List.cons_append List.append_nil List.getElem?_toArray List.toList_toArray Option.bind_none Option.map_none objs1 objs2 objs3 objs32 oset1 setCells List.take_append_drop List.drop_nil List.take_nil an181 Tryz.underlying0 sz3 ag3 zo3 by3 Tryz.underlying3 sz4 ag4 zo4 zc4 Tryz.underlying4 Tryz.underlying5 sz9 ag9 zo9 by9 Tryz.underlying9 Tryz.underlying20 sz31 ag31 zc31 Tryz.underlying31 Tryz.underlying162 sz190 ag190 Tryz.underlying190 sz193 zc193 Tryz.underlying193 pl193 sz197 ag197 zo197 zc197 by197 Tryz.underlying197 pl197 sz207 Tryz.underlying207 sz208 ag208 Tryz.underlying208 sz209 ag209 se209 Tryz.underlying209 Tryz.underlying211 sz223 zo223 zc223 by223 Tryz.underlying223 pl223 fd211_0 fd207_1
set_option maxRecDepth 100000
set_option maxHeartbeats 4000000
theorem prefix_len {l p:List UInt8} (h:Lib.hasPrefix l p=true):p.length≤l.length:=by
 exact (List.isPrefixOf_iff_prefix.1 h).length_le
def signL:List UInt8:=[40,41,44,59,58,124,61,60,43,45,42,47,37,95]
theorem peek_byte (s:List UInt8) (i:Nat):0≤peekN s i∧peekN s i < 256:=by
 unfold peekN
 cases s[i]? with
 |none=>exact ⟨Int.le_refl 0,by decide⟩
 |some b=>exact ⟨by simp,by have:=b.toNat_lt;show ((b.toNat:Nat):Int) < 256;omega⟩
theorem idx_fact {c:Int} (h0:0≤c) (h1:c < 256) (sto:Sto):CL (.fn 196) [.val (.str [40,41,44,59,58,124,61,60,43,45,42,47,37,95]),.val (.int .u8 c)] sto=some (.ret (.val (.int .i64 (Lib.indexByte signL c.toNat.toUInt8))),sto):=by
 refine fnP (r:=.ret (.val (.int .i64 (Lib.indexByte signL c.toNat.toUInt8)))) ?_ rfl
 have h:(decide (0≤c)&&decide (c < 256))=true:=by simp [h0,h1]
 simp only[prL,show Nat.beq 196 196=true from rfl,cond_true,h]
 rfl
theorem part_of_small {c:Int} (h:smallI c=true):partI c=true:=by simp [partI,h]
theorem part_of_great {c:Int} (h:greatI c=true):partI c=true:=by simp [partI,h]
theorem c181 {A B:AObj} {rest:List AObj} {lo:Nat} {c4:Cell} (s:List UInt8) (at_:Nat) (h1:at_ < s.length) (h2:s.length < 1000) :
  TokOr (CL (.fn 181) [.val (.loc 3 0)] ⟨A::B::.map wordM::sb s at_ (.val (.amap 2)) c4::rest,lo⟩) s at_ ⟨A::B::.map wordM::sb s at_ (.val (.amap 2)) c4::rest,lo⟩:=by
 have g195:(ans 195).ownArg=[]:=by rw[an195]
 have h188:=c188 (A:=A) (B:=B) (C:=.map wordM) (rest:=rest) (lo:=lo) (c3:=.val (.amap 2)) (c4:=c4) s at_ 0 0 rfl (by omega)
 rw[Nat.add_zero] at h188
 have hb:=peek_byte s at_
 have h189:=c189 (peekN s at_)
 have h191:=c191 (peekN s at_)
 have h193:=c193 (peekN s at_)
 have h196:=fun sto=>idx_fact hb.1 hb.2 sto
 have h190t:=c190t (A:=A) (B:=B) (C:=.map wordM) (rest:=rest) (lo:=lo) (c3:=.val (.amap 2)) (c4:=c4) s at_ h1 h2
 have h190f:=c190f (A:=A) (B:=B) (C:=.map wordM) (rest:=rest) (lo:=lo) (c3:=.val (.amap 2)) (c4:=c4) s at_ h1 h2
 have h192:=fun k=>c192 (A:=A) (B:=B) (rest:=rest) (lo:=lo) (c4:=c4) s at_ k h1 h2
 have h186:=fun p=>c186 (A:=A) (B:=B) (C:=.map wordM) (rest:=rest) (lo:=lo) (c3:=.val (.amap 2)) (c4:=c4) s p at_ (by omega)
 have h194:=fun n kind K (hK:K=((n:Nat):Int)) (hn:at_+n≤s.length) (hp:0 < n)=>made_or (A:=A) (B:=B) (C:=.map wordM) (rest:=rest) (lo:=lo) (c3:=.val (.amap 2)) (c4:=c4) s at_ n kind K hK hn (by omega) hp
 have h188b:=c188 (A:=A) (B:=B) (C:=.map wordM) (rest:=rest) (lo:=lo) (c3:=.val (.amap 2)) (c4:=c4) s at_ 1 1 rfl (by omega)
 have h191b:=c191 (peekN s (at_+1))
 have h184:=c184 (A:=A) (B:=B) (C:=.map wordM) (rest:=rest) (lo:=lo) (c3:=.val (.amap 2)) (c4:=c4) 195 g195 partI c195 s at_ 1 1 rfl (by omega)
 have hd1:=runN_le partI s (at_+1)
 generalize hd:runN partI s (at_+1)=d at *
 have hw1:IntKind.i64.wrap (1+(d:Int))=((1+d:Nat):Int):=by rw[wrapOk (by omega) (by omega)];omega
 have hs1:peekN s (at_+1)≠0→at_+1 < s.length:=peekN_pos s (at_+1)
 have hpre:=fun p=>prefix_len (l:=s.drop at_) (p:=p)
 simp only[List.length_drop] at hpre
 generalize hcc:peekN s at_=c at *
 generalize hcn:peekN s (at_+1)=c1 at *
 rw[sbE] at h188 h188b h184 h190t h190f ⊢
 simp only[sbE] at h192 h186 h194
 cases e1:digI c with
 |true =>
  cases e2:(c==126) with
  |true =>
   rcases h190t e2 with ⟨kd,num,txt,hm,ht1,ht2⟩|⟨a,e,hm⟩
   ·
    rw[tokE] at hm
    refine .inl ⟨kd,num,txt,?_,ht1,ht2⟩
    rw[tokE]
    apply tA
    ·rfl
    ·rfl
    ·exact Tryz.func181
    ·rfl
    ·rfl
    ·simp only[go_sem,Nat.reduceAdd,reduceIte];rfl
    refine tQ ?_;repeat first|with_reducible constructor|(with_reducible apply tG);kernel_rfl;intro _ _;(repeat apply tOp;intro _;simp only[h188,h189,h191,h193,hm,go_sem,Nat.reduceAdd,reduceIte];rfl);rfl;simp only[go_sem];rfl
    with_reducible apply tT
    ·simp only[go_sem];rfl
    ·exact e1
    refine tQ ?_;repeat first|with_reducible constructor|(with_reducible apply tG);kernel_rfl;intro _ _;(repeat apply tOp;intro _;simp only[h188,h189,h191,h193,hm,go_sem,Nat.reduceAdd,reduceIte];rfl);rfl;simp only[go_sem];rfl
    with_reducible apply tT
    ·simp only[go_sem];rfl
    ·exact e1
    refine tQ ?_;repeat first|with_reducible constructor|(with_reducible apply tG);kernel_rfl;intro _ _;(repeat apply tOp;intro _;simp only[h188,h189,h191,h193,hm,go_sem,Nat.reduceAdd,reduceIte];rfl);rfl;simp only[go_sem];rfl
    exact fin0 rfl
   ·
    rw[wrongE] at hm
    refine .inr ⟨a,e,?_⟩
    rw[wrongE]
    apply tA
    ·rfl
    ·rfl
    ·exact Tryz.func181
    ·rfl
    ·rfl
    ·simp only[go_sem,Nat.reduceAdd,reduceIte];rfl
    refine tQ ?_;repeat first|with_reducible constructor|(with_reducible apply tG);kernel_rfl;intro _ _;(repeat apply tOp;intro _;simp only[h188,h189,h191,h193,hm,go_sem,Nat.reduceAdd,reduceIte];rfl);rfl;simp only[go_sem];rfl
    with_reducible apply tT
    ·simp only[go_sem];rfl
    ·exact e1
    refine tQ ?_;repeat first|with_reducible constructor|(with_reducible apply tG);kernel_rfl;intro _ _;(repeat apply tOp;intro _;simp only[h188,h189,h191,h193,hm,go_sem,Nat.reduceAdd,reduceIte];rfl);rfl;simp only[go_sem];rfl
    with_reducible apply tT
    ·simp only[go_sem];rfl
    ·exact e1
    refine tQ ?_;repeat first|with_reducible constructor|(with_reducible apply tG);kernel_rfl;intro _ _;(repeat apply tOp;intro _;simp only[h188,h189,h191,h193,hm,go_sem,Nat.reduceAdd,reduceIte];rfl);rfl;simp only[go_sem];rfl
    ((with_reducible apply tP);(focus (intro _ _;(repeat (apply tOp;(focus (intro _;simp only[h188,h189,h191,h193,hm,go_sem,Nat.reduceAdd,reduceIte];rfl))));apply tOpP;simp only[h188,h189,h191,h193,hm,go_sem,Nat.reduceAdd,reduceIte];rfl)))
    repeat first|with_reducible apply tsP|with_reducible apply tbP
    rfl
  |false =>
   rcases h190f e2 e1 with ⟨kd,num,txt,hm,ht1,ht2⟩|⟨a,e,hm⟩
   ·
    rw[tokE] at hm
    refine .inl ⟨kd,num,txt,?_,ht1,ht2⟩
    rw[tokE]
    apply tA
    ·rfl
    ·rfl
    ·exact Tryz.func181
    ·rfl
    ·rfl
    ·simp only[go_sem,Nat.reduceAdd,reduceIte];rfl
    refine tQ ?_;repeat first|with_reducible constructor|(with_reducible apply tG);kernel_rfl;intro _ _;(repeat apply tOp;intro _;simp only[h188,h189,h191,h193,hm,go_sem,Nat.reduceAdd,reduceIte];rfl);rfl;simp only[go_sem];rfl
    with_reducible apply tT
    ·simp only[go_sem];rfl
    ·exact e1
    refine tQ ?_;repeat first|with_reducible constructor|(with_reducible apply tG);kernel_rfl;intro _ _;(repeat apply tOp;intro _;simp only[h188,h189,h191,h193,hm,go_sem,Nat.reduceAdd,reduceIte];rfl);rfl;simp only[go_sem];rfl
    with_reducible apply tT
    ·simp only[go_sem];rfl
    ·exact e1
    refine tQ ?_;repeat first|with_reducible constructor|(with_reducible apply tG);kernel_rfl;intro _ _;(repeat apply tOp;intro _;simp only[h188,h189,h191,h193,hm,go_sem,Nat.reduceAdd,reduceIte];rfl);rfl;simp only[go_sem];rfl
    exact fin0 rfl
   ·
    rw[wrongE] at hm
    refine .inr ⟨a,e,?_⟩
    rw[wrongE]
    apply tA
    ·rfl
    ·rfl
    ·exact Tryz.func181
    ·rfl
    ·rfl
    ·simp only[go_sem,Nat.reduceAdd,reduceIte];rfl
    refine tQ ?_;repeat first|with_reducible constructor|(with_reducible apply tG);kernel_rfl;intro _ _;(repeat apply tOp;intro _;simp only[h188,h189,h191,h193,hm,go_sem,Nat.reduceAdd,reduceIte];rfl);rfl;simp only[go_sem];rfl
    with_reducible apply tT
    ·simp only[go_sem];rfl
    ·exact e1
    refine tQ ?_;repeat first|with_reducible constructor|(with_reducible apply tG);kernel_rfl;intro _ _;(repeat apply tOp;intro _;simp only[h188,h189,h191,h193,hm,go_sem,Nat.reduceAdd,reduceIte];rfl);rfl;simp only[go_sem];rfl
    with_reducible apply tT
    ·simp only[go_sem];rfl
    ·exact e1
    refine tQ ?_;repeat first|with_reducible constructor|(with_reducible apply tG);kernel_rfl;intro _ _;(repeat apply tOp;intro _;simp only[h188,h189,h191,h193,hm,go_sem,Nat.reduceAdd,reduceIte];rfl);rfl;simp only[go_sem];rfl
    ((with_reducible apply tP);(focus (intro _ _;(repeat (apply tOp;(focus (intro _;simp only[h188,h189,h191,h193,hm,go_sem,Nat.reduceAdd,reduceIte];rfl))));apply tOpP;simp only[h188,h189,h191,h193,hm,go_sem,Nat.reduceAdd,reduceIte];rfl)))
    repeat first|with_reducible apply tsP|with_reducible apply tbP
    rfl
 |false =>
 cases e2:(c==126) with
 |true =>
  rcases h190t e2 with ⟨kd,num,txt,hm,ht1,ht2⟩|⟨a,e,hm⟩
  ·
   rw[tokE] at hm
   refine .inl ⟨kd,num,txt,?_,ht1,ht2⟩
   rw[tokE]
   apply tA
   ·rfl
   ·rfl
   ·exact Tryz.func181
   ·rfl
   ·rfl
   ·simp only[go_sem,Nat.reduceAdd,reduceIte];rfl
   refine tQ ?_;repeat first|with_reducible constructor|(with_reducible apply tG);kernel_rfl;intro _ _;(repeat apply tOp;intro _;simp only[h188,h189,h191,h193,hm,go_sem,Nat.reduceAdd,reduceIte];rfl);rfl;simp only[go_sem];rfl
   with_reducible apply tF
   ·simp only[go_sem];rfl
   ·exact e1
   refine tQ ?_;repeat first|with_reducible constructor|(with_reducible apply tG);kernel_rfl;intro _ _;(repeat apply tOp;intro _;simp only[h188,h189,h191,h193,hm,go_sem,Nat.reduceAdd,reduceIte];rfl);rfl;simp only[go_sem];rfl
   with_reducible apply tT
   ·simp only[go_sem];rfl
   ·exact e2
   refine tQ ?_;repeat first|with_reducible constructor|(with_reducible apply tG);kernel_rfl;intro _ _;(repeat apply tOp;intro _;simp only[h188,h189,h191,h193,hm,go_sem,Nat.reduceAdd,reduceIte];rfl);rfl;simp only[go_sem];rfl
   exact fin0 rfl
  ·
   rw[wrongE] at hm
   refine .inr ⟨a,e,?_⟩
   rw[wrongE]
   apply tA
   ·rfl
   ·rfl
   ·exact Tryz.func181
   ·rfl
   ·rfl
   ·simp only[go_sem,Nat.reduceAdd,reduceIte];rfl
   refine tQ ?_;repeat first|with_reducible constructor|(with_reducible apply tG);kernel_rfl;intro _ _;(repeat apply tOp;intro _;simp only[h188,h189,h191,h193,hm,go_sem,Nat.reduceAdd,reduceIte];rfl);rfl;simp only[go_sem];rfl
   with_reducible apply tF
   ·simp only[go_sem];rfl
   ·exact e1
   refine tQ ?_;repeat first|with_reducible constructor|(with_reducible apply tG);kernel_rfl;intro _ _;(repeat apply tOp;intro _;simp only[h188,h189,h191,h193,hm,go_sem,Nat.reduceAdd,reduceIte];rfl);rfl;simp only[go_sem];rfl
   with_reducible apply tT
   ·simp only[go_sem];rfl
   ·exact e2
   refine tQ ?_;repeat first|with_reducible constructor|(with_reducible apply tG);kernel_rfl;intro _ _;(repeat apply tOp;intro _;simp only[h188,h189,h191,h193,hm,go_sem,Nat.reduceAdd,reduceIte];rfl);rfl;simp only[go_sem];rfl
   ((with_reducible apply tP);(focus (intro _ _;(repeat (apply tOp;(focus (intro _;simp only[h188,h189,h191,h193,hm,go_sem,Nat.reduceAdd,reduceIte];rfl))));apply tOpP;simp only[h188,h189,h191,h193,hm,go_sem,Nat.reduceAdd,reduceIte];rfl)))
   repeat first|with_reducible apply tsP|with_reducible apply tbP
   rfl
 |false =>
 cases e3:smallI c with
 |true =>
  rcases h192 2 (part_of_small e3) with ⟨kd,num,txt,hm,ht1,ht2⟩|⟨a,e,hm⟩
  ·
   rw[tokE] at hm
   refine .inl ⟨kd,num,txt,?_,ht1,ht2⟩
   rw[tokE]
   apply tA
   ·rfl
   ·rfl
   ·exact Tryz.func181
   ·rfl
   ·rfl
   ·simp only[go_sem,Nat.reduceAdd,reduceIte];rfl
   refine tQ ?_;repeat first|with_reducible constructor|(with_reducible apply tG);kernel_rfl;intro _ _;(repeat apply tOp;intro _;simp only[h188,h189,h191,h193,hm,go_sem,Nat.reduceAdd,reduceIte];rfl);rfl;simp only[go_sem];rfl
   with_reducible apply tF
   ·simp only[go_sem];rfl
   ·exact e1
   refine tQ ?_;repeat first|with_reducible constructor|(with_reducible apply tG);kernel_rfl;intro _ _;(repeat apply tOp;intro _;simp only[h188,h189,h191,h193,hm,go_sem,Nat.reduceAdd,reduceIte];rfl);rfl;simp only[go_sem];rfl
   with_reducible apply tF
   ·simp only[go_sem];rfl
   ·exact e2
   refine tQ ?_;repeat first|with_reducible constructor|(with_reducible apply tG);kernel_rfl;intro _ _;(repeat apply tOp;intro _;simp only[h188,h189,h191,h193,hm,go_sem,Nat.reduceAdd,reduceIte];rfl);rfl;simp only[go_sem];rfl
   with_reducible apply tT
   ·simp only[go_sem];rfl
   ·exact e3
   refine tQ ?_;repeat first|with_reducible constructor|(with_reducible apply tG);kernel_rfl;intro _ _;(repeat apply tOp;intro _;simp only[h188,h189,h191,h193,hm,go_sem,Nat.reduceAdd,reduceIte];rfl);rfl;simp only[go_sem];rfl
   exact fin0 rfl
  ·
   rw[wrongE] at hm
   refine .inr ⟨a,e,?_⟩
   rw[wrongE]
   apply tA
   ·rfl
   ·rfl
   ·exact Tryz.func181
   ·rfl
   ·rfl
   ·simp only[go_sem,Nat.reduceAdd,reduceIte];rfl
   refine tQ ?_;repeat first|with_reducible constructor|(with_reducible apply tG);kernel_rfl;intro _ _;(repeat apply tOp;intro _;simp only[h188,h189,h191,h193,hm,go_sem,Nat.reduceAdd,reduceIte];rfl);rfl;simp only[go_sem];rfl
   with_reducible apply tF
   ·simp only[go_sem];rfl
   ·exact e1
   refine tQ ?_;repeat first|with_reducible constructor|(with_reducible apply tG);kernel_rfl;intro _ _;(repeat apply tOp;intro _;simp only[h188,h189,h191,h193,hm,go_sem,Nat.reduceAdd,reduceIte];rfl);rfl;simp only[go_sem];rfl
   with_reducible apply tF
   ·simp only[go_sem];rfl
   ·exact e2
   refine tQ ?_;repeat first|with_reducible constructor|(with_reducible apply tG);kernel_rfl;intro _ _;(repeat apply tOp;intro _;simp only[h188,h189,h191,h193,hm,go_sem,Nat.reduceAdd,reduceIte];rfl);rfl;simp only[go_sem];rfl
   with_reducible apply tT
   ·simp only[go_sem];rfl
   ·exact e3
   refine tQ ?_;repeat first|with_reducible constructor|(with_reducible apply tG);kernel_rfl;intro _ _;(repeat apply tOp;intro _;simp only[h188,h189,h191,h193,hm,go_sem,Nat.reduceAdd,reduceIte];rfl);rfl;simp only[go_sem];rfl
   ((with_reducible apply tP);(focus (intro _ _;(repeat (apply tOp;(focus (intro _;simp only[h188,h189,h191,h193,hm,go_sem,Nat.reduceAdd,reduceIte];rfl))));apply tOpP;simp only[h188,h189,h191,h193,hm,go_sem,Nat.reduceAdd,reduceIte];rfl)))
   repeat first|with_reducible apply tsP|with_reducible apply tbP
   rfl
 |false =>
 cases e4:greatI c with
 |true =>
  rcases h192 3 (part_of_great e4) with ⟨kd,num,txt,hm,ht1,ht2⟩|⟨a,e,hm⟩
  ·
   rw[tokE] at hm
   refine .inl ⟨kd,num,txt,?_,ht1,ht2⟩
   rw[tokE]
   apply tA
   ·rfl
   ·rfl
   ·exact Tryz.func181
   ·rfl
   ·rfl
   ·simp only[go_sem,Nat.reduceAdd,reduceIte];rfl
   refine tQ ?_;repeat first|with_reducible constructor|(with_reducible apply tG);kernel_rfl;intro _ _;(repeat apply tOp;intro _;simp only[h188,h189,h191,h193,hm,go_sem,Nat.reduceAdd,reduceIte];rfl);rfl;simp only[go_sem];rfl
   with_reducible apply tF
   ·simp only[go_sem];rfl
   ·exact e1
   refine tQ ?_;repeat first|with_reducible constructor|(with_reducible apply tG);kernel_rfl;intro _ _;(repeat apply tOp;intro _;simp only[h188,h189,h191,h193,hm,go_sem,Nat.reduceAdd,reduceIte];rfl);rfl;simp only[go_sem];rfl
   with_reducible apply tF
   ·simp only[go_sem];rfl
   ·exact e2
   refine tQ ?_;repeat first|with_reducible constructor|(with_reducible apply tG);kernel_rfl;intro _ _;(repeat apply tOp;intro _;simp only[h188,h189,h191,h193,hm,go_sem,Nat.reduceAdd,reduceIte];rfl);rfl;simp only[go_sem];rfl
   with_reducible apply tF
   ·simp only[go_sem];rfl
   ·exact e3
   refine tQ ?_;repeat first|with_reducible constructor|(with_reducible apply tG);kernel_rfl;intro _ _;(repeat apply tOp;intro _;simp only[h188,h189,h191,h193,hm,go_sem,Nat.reduceAdd,reduceIte];rfl);rfl;simp only[go_sem];rfl
   with_reducible apply tT
   ·simp only[go_sem];rfl
   ·exact e4
   refine tQ ?_;repeat first|with_reducible constructor|(with_reducible apply tG);kernel_rfl;intro _ _;(repeat apply tOp;intro _;simp only[h188,h189,h191,h193,hm,go_sem,Nat.reduceAdd,reduceIte];rfl);rfl;simp only[go_sem];rfl
   exact fin0 rfl
  ·
   rw[wrongE] at hm
   refine .inr ⟨a,e,?_⟩
   rw[wrongE]
   apply tA
   ·rfl
   ·rfl
   ·exact Tryz.func181
   ·rfl
   ·rfl
   ·simp only[go_sem,Nat.reduceAdd,reduceIte];rfl
   refine tQ ?_;repeat first|with_reducible constructor|(with_reducible apply tG);kernel_rfl;intro _ _;(repeat apply tOp;intro _;simp only[h188,h189,h191,h193,hm,go_sem,Nat.reduceAdd,reduceIte];rfl);rfl;simp only[go_sem];rfl
   with_reducible apply tF
   ·simp only[go_sem];rfl
   ·exact e1
   refine tQ ?_;repeat first|with_reducible constructor|(with_reducible apply tG);kernel_rfl;intro _ _;(repeat apply tOp;intro _;simp only[h188,h189,h191,h193,hm,go_sem,Nat.reduceAdd,reduceIte];rfl);rfl;simp only[go_sem];rfl
   with_reducible apply tF
   ·simp only[go_sem];rfl
   ·exact e2
   refine tQ ?_;repeat first|with_reducible constructor|(with_reducible apply tG);kernel_rfl;intro _ _;(repeat apply tOp;intro _;simp only[h188,h189,h191,h193,hm,go_sem,Nat.reduceAdd,reduceIte];rfl);rfl;simp only[go_sem];rfl
   with_reducible apply tF
   ·simp only[go_sem];rfl
   ·exact e3
   refine tQ ?_;repeat first|with_reducible constructor|(with_reducible apply tG);kernel_rfl;intro _ _;(repeat apply tOp;intro _;simp only[h188,h189,h191,h193,hm,go_sem,Nat.reduceAdd,reduceIte];rfl);rfl;simp only[go_sem];rfl
   with_reducible apply tT
   ·simp only[go_sem];rfl
   ·exact e4
   refine tQ ?_;repeat first|with_reducible constructor|(with_reducible apply tG);kernel_rfl;intro _ _;(repeat apply tOp;intro _;simp only[h188,h189,h191,h193,hm,go_sem,Nat.reduceAdd,reduceIte];rfl);rfl;simp only[go_sem];rfl
   ((with_reducible apply tP);(focus (intro _ _;(repeat (apply tOp;(focus (intro _;simp only[h188,h189,h191,h193,hm,go_sem,Nat.reduceAdd,reduceIte];rfl))));apply tOpP;simp only[h188,h189,h191,h193,hm,go_sem,Nat.reduceAdd,reduceIte];rfl)))
   repeat first|with_reducible apply tsP|with_reducible apply tbP
   rfl
 |false =>
 have rest_:∀ (qx:((c==39)=false)∨((c==39)=true∧smallI c1=false)),TokOr (CL (.fn 181) [.val (.loc 3 0)] ⟨A::B::.map wordM::.box [.val (.str s),.val (.int .i64 (at_:Nat)),.val (.amap 2),c4]::rest,lo⟩) s at_ ⟨A::B::.map wordM::.box [.val (.str s),.val (.int .i64 (at_:Nat)),.val (.amap 2),c4]::rest,lo⟩:=by
  intro qx
  rcases qx with e5|⟨e5,e6⟩
  ·
   cases e7:Lib.hasPrefix (s.drop at_) [61,62] with
   |true =>
    have h6:=h186 [61,62]
    have hl:=hpre _ e7
    simp only[List.length_cons,List.length_nil] at hl
    rcases h194 2 6 2 rfl (by omega) (by omega) with ⟨kd,num,txt,hm,ht1,ht2⟩|⟨a,e,hm⟩
    ·
     rw[tokE] at hm
     refine .inl ⟨kd,num,txt,?_,ht1,ht2⟩
     rw[tokE]
     apply tA
     ·rfl
     ·rfl
     ·exact Tryz.func181
     ·rfl
     ·rfl
     ·simp only[go_sem,Nat.reduceAdd,reduceIte];rfl
     refine tQ ?_;repeat first|with_reducible constructor|(with_reducible apply tG);kernel_rfl;intro _ _;(repeat apply tOp;intro _;simp only[h188,h189,h191,h193,e5,hm,h6,go_sem,Nat.reduceAdd,reduceIte];rfl);rfl;simp only[go_sem];rfl
     with_reducible apply tF
     ·simp only[go_sem];rfl
     ·exact e1
     refine tQ ?_;repeat first|with_reducible constructor|(with_reducible apply tG);kernel_rfl;intro _ _;(repeat apply tOp;intro _;simp only[h188,h189,h191,h193,e5,hm,h6,go_sem,Nat.reduceAdd,reduceIte];rfl);rfl;simp only[go_sem];rfl
     with_reducible apply tF
     ·simp only[go_sem];rfl
     ·exact e2
     refine tQ ?_;repeat first|with_reducible constructor|(with_reducible apply tG);kernel_rfl;intro _ _;(repeat apply tOp;intro _;simp only[h188,h189,h191,h193,e5,hm,h6,go_sem,Nat.reduceAdd,reduceIte];rfl);rfl;simp only[go_sem];rfl
     with_reducible apply tF
     ·simp only[go_sem];rfl
     ·exact e3
     refine tQ ?_;repeat first|with_reducible constructor|(with_reducible apply tG);kernel_rfl;intro _ _;(repeat apply tOp;intro _;simp only[h188,h189,h191,h193,e5,hm,h6,go_sem,Nat.reduceAdd,reduceIte];rfl);rfl;simp only[go_sem];rfl
     with_reducible apply tF
     ·simp only[go_sem];rfl
     ·exact e4
     refine tQ ?_;repeat first|with_reducible constructor|(with_reducible apply tG);kernel_rfl;intro _ _;(repeat apply tOp;intro _;simp only[h188,h189,h191,h193,e5,hm,h6,go_sem,Nat.reduceAdd,reduceIte];rfl);rfl;simp only[go_sem];rfl
     with_reducible apply tF
     ·simp only[go_sem];rfl
     ·rfl
     refine tQ ?_;repeat first|with_reducible constructor|(with_reducible apply tG);kernel_rfl;intro _ _;(repeat apply tOp;intro _;simp only[h188,h189,h191,h193,e5,hm,h6,go_sem,Nat.reduceAdd,reduceIte];rfl);rfl;simp only[go_sem];rfl
     with_reducible apply tT
     ·simp only[go_sem];rfl
     ·exact e7
     refine tQ ?_;repeat first|with_reducible constructor|(with_reducible apply tG);kernel_rfl;intro _ _;(repeat apply tOp;intro _;simp only[h188,h189,h191,h193,e5,hm,h6,go_sem,Nat.reduceAdd,reduceIte];rfl);rfl;simp only[go_sem];rfl
     with_reducible apply tT
     ·simp only[go_sem];rfl
     ·exact e7
     refine tQ ?_;repeat first|with_reducible constructor|(with_reducible apply tG);kernel_rfl;intro _ _;(repeat apply tOp;intro _;simp only[h188,h189,h191,h193,e5,hm,h6,go_sem,Nat.reduceAdd,reduceIte];rfl);rfl;simp only[go_sem];rfl
     exact fin0 rfl
    ·
     rw[wrongE] at hm
     refine .inr ⟨a,e,?_⟩
     rw[wrongE]
     apply tA
     ·rfl
     ·rfl
     ·exact Tryz.func181
     ·rfl
     ·rfl
     ·simp only[go_sem,Nat.reduceAdd,reduceIte];rfl
     refine tQ ?_;repeat first|with_reducible constructor|(with_reducible apply tG);kernel_rfl;intro _ _;(repeat apply tOp;intro _;simp only[h188,h189,h191,h193,e5,hm,h6,go_sem,Nat.reduceAdd,reduceIte];rfl);rfl;simp only[go_sem];rfl
     with_reducible apply tF
     ·simp only[go_sem];rfl
     ·exact e1
     refine tQ ?_;repeat first|with_reducible constructor|(with_reducible apply tG);kernel_rfl;intro _ _;(repeat apply tOp;intro _;simp only[h188,h189,h191,h193,e5,hm,h6,go_sem,Nat.reduceAdd,reduceIte];rfl);rfl;simp only[go_sem];rfl
     with_reducible apply tF
     ·simp only[go_sem];rfl
     ·exact e2
     refine tQ ?_;repeat first|with_reducible constructor|(with_reducible apply tG);kernel_rfl;intro _ _;(repeat apply tOp;intro _;simp only[h188,h189,h191,h193,e5,hm,h6,go_sem,Nat.reduceAdd,reduceIte];rfl);rfl;simp only[go_sem];rfl
     with_reducible apply tF
     ·simp only[go_sem];rfl
     ·exact e3
     refine tQ ?_;repeat first|with_reducible constructor|(with_reducible apply tG);kernel_rfl;intro _ _;(repeat apply tOp;intro _;simp only[h188,h189,h191,h193,e5,hm,h6,go_sem,Nat.reduceAdd,reduceIte];rfl);rfl;simp only[go_sem];rfl
     with_reducible apply tF
     ·simp only[go_sem];rfl
     ·exact e4
     refine tQ ?_;repeat first|with_reducible constructor|(with_reducible apply tG);kernel_rfl;intro _ _;(repeat apply tOp;intro _;simp only[h188,h189,h191,h193,e5,hm,h6,go_sem,Nat.reduceAdd,reduceIte];rfl);rfl;simp only[go_sem];rfl
     with_reducible apply tF
     ·simp only[go_sem];rfl
     ·rfl
     refine tQ ?_;repeat first|with_reducible constructor|(with_reducible apply tG);kernel_rfl;intro _ _;(repeat apply tOp;intro _;simp only[h188,h189,h191,h193,e5,hm,h6,go_sem,Nat.reduceAdd,reduceIte];rfl);rfl;simp only[go_sem];rfl
     with_reducible apply tT
     ·simp only[go_sem];rfl
     ·exact e7
     refine tQ ?_;repeat first|with_reducible constructor|(with_reducible apply tG);kernel_rfl;intro _ _;(repeat apply tOp;intro _;simp only[h188,h189,h191,h193,e5,hm,h6,go_sem,Nat.reduceAdd,reduceIte];rfl);rfl;simp only[go_sem];rfl
     with_reducible apply tT
     ·simp only[go_sem];rfl
     ·exact e7
     refine tQ ?_;repeat first|with_reducible constructor|(with_reducible apply tG);kernel_rfl;intro _ _;(repeat apply tOp;intro _;simp only[h188,h189,h191,h193,e5,hm,h6,go_sem,Nat.reduceAdd,reduceIte];rfl);rfl;simp only[go_sem];rfl
     ((with_reducible apply tP);(focus (intro _ _;(repeat (apply tOp;(focus (intro _;simp only[h188,h189,h191,h193,e5,hm,h6,go_sem,Nat.reduceAdd,reduceIte];rfl))));apply tOpP;simp only[h188,h189,h191,h193,e5,hm,h6,go_sem,Nat.reduceAdd,reduceIte];rfl)))
     repeat first|with_reducible apply tsP|with_reducible apply tbP
     rfl
   |false =>
   have h6:=h186 [61,62]
   have h7:=h186 [45,62]
   cases e8:Lib.hasPrefix (s.drop at_) [45,62] with
   |true =>
    have hl:=hpre _ e8
    simp only[List.length_cons,List.length_nil] at hl
    rcases h194 2 6 2 rfl (by omega) (by omega) with ⟨kd,num,txt,hm,ht1,ht2⟩|⟨a,e,hm⟩
    ·
     rw[tokE] at hm
     refine .inl ⟨kd,num,txt,?_,ht1,ht2⟩
     rw[tokE]
     apply tA
     ·rfl
     ·rfl
     ·exact Tryz.func181
     ·rfl
     ·rfl
     ·simp only[go_sem,Nat.reduceAdd,reduceIte];rfl
     refine tQ ?_;repeat first|with_reducible constructor|(with_reducible apply tG);kernel_rfl;intro _ _;(repeat apply tOp;intro _;simp only[h188,h189,h191,h193,e5,hm,h6,h7,go_sem,Nat.reduceAdd,reduceIte];rfl);rfl;simp only[go_sem];rfl
     with_reducible apply tF
     ·simp only[go_sem];rfl
     ·exact e1
     refine tQ ?_;repeat first|with_reducible constructor|(with_reducible apply tG);kernel_rfl;intro _ _;(repeat apply tOp;intro _;simp only[h188,h189,h191,h193,e5,hm,h6,h7,go_sem,Nat.reduceAdd,reduceIte];rfl);rfl;simp only[go_sem];rfl
     with_reducible apply tF
     ·simp only[go_sem];rfl
     ·exact e2
     refine tQ ?_;repeat first|with_reducible constructor|(with_reducible apply tG);kernel_rfl;intro _ _;(repeat apply tOp;intro _;simp only[h188,h189,h191,h193,e5,hm,h6,h7,go_sem,Nat.reduceAdd,reduceIte];rfl);rfl;simp only[go_sem];rfl
     with_reducible apply tF
     ·simp only[go_sem];rfl
     ·exact e3
     refine tQ ?_;repeat first|with_reducible constructor|(with_reducible apply tG);kernel_rfl;intro _ _;(repeat apply tOp;intro _;simp only[h188,h189,h191,h193,e5,hm,h6,h7,go_sem,Nat.reduceAdd,reduceIte];rfl);rfl;simp only[go_sem];rfl
     with_reducible apply tF
     ·simp only[go_sem];rfl
     ·exact e4
     refine tQ ?_;repeat first|with_reducible constructor|(with_reducible apply tG);kernel_rfl;intro _ _;(repeat apply tOp;intro _;simp only[h188,h189,h191,h193,e5,hm,h6,h7,go_sem,Nat.reduceAdd,reduceIte];rfl);rfl;simp only[go_sem];rfl
     with_reducible apply tF
     ·simp only[go_sem];rfl
     ·rfl
     refine tQ ?_;repeat first|with_reducible constructor|(with_reducible apply tG);kernel_rfl;intro _ _;(repeat apply tOp;intro _;simp only[h188,h189,h191,h193,e5,hm,h6,h7,go_sem,Nat.reduceAdd,reduceIte];rfl);rfl;simp only[go_sem];rfl
     with_reducible apply tF
     ·simp only[go_sem];rfl
     ·exact e7
     refine tQ ?_;repeat first|with_reducible constructor|(with_reducible apply tG);kernel_rfl;intro _ _;(repeat apply tOp;intro _;simp only[h188,h189,h191,h193,e5,hm,h6,h7,go_sem,Nat.reduceAdd,reduceIte];rfl);rfl;simp only[go_sem];rfl
     with_reducible apply tT
     ·simp only[go_sem];rfl
     ·exact e8
     refine tQ ?_;repeat first|with_reducible constructor|(with_reducible apply tG);kernel_rfl;intro _ _;(repeat apply tOp;intro _;simp only[h188,h189,h191,h193,e5,hm,h6,h7,go_sem,Nat.reduceAdd,reduceIte];rfl);rfl;simp only[go_sem];rfl
     exact fin0 rfl
    ·
     rw[wrongE] at hm
     refine .inr ⟨a,e,?_⟩
     rw[wrongE]
     apply tA
     ·rfl
     ·rfl
     ·exact Tryz.func181
     ·rfl
     ·rfl
     ·simp only[go_sem,Nat.reduceAdd,reduceIte];rfl
     refine tQ ?_;repeat first|with_reducible constructor|(with_reducible apply tG);kernel_rfl;intro _ _;(repeat apply tOp;intro _;simp only[h188,h189,h191,h193,e5,hm,h6,h7,go_sem,Nat.reduceAdd,reduceIte];rfl);rfl;simp only[go_sem];rfl
     with_reducible apply tF
     ·simp only[go_sem];rfl
     ·exact e1
     refine tQ ?_;repeat first|with_reducible constructor|(with_reducible apply tG);kernel_rfl;intro _ _;(repeat apply tOp;intro _;simp only[h188,h189,h191,h193,e5,hm,h6,h7,go_sem,Nat.reduceAdd,reduceIte];rfl);rfl;simp only[go_sem];rfl
     with_reducible apply tF
     ·simp only[go_sem];rfl
     ·exact e2
     refine tQ ?_;repeat first|with_reducible constructor|(with_reducible apply tG);kernel_rfl;intro _ _;(repeat apply tOp;intro _;simp only[h188,h189,h191,h193,e5,hm,h6,h7,go_sem,Nat.reduceAdd,reduceIte];rfl);rfl;simp only[go_sem];rfl
     with_reducible apply tF
     ·simp only[go_sem];rfl
     ·exact e3
     refine tQ ?_;repeat first|with_reducible constructor|(with_reducible apply tG);kernel_rfl;intro _ _;(repeat apply tOp;intro _;simp only[h188,h189,h191,h193,e5,hm,h6,h7,go_sem,Nat.reduceAdd,reduceIte];rfl);rfl;simp only[go_sem];rfl
     with_reducible apply tF
     ·simp only[go_sem];rfl
     ·exact e4
     refine tQ ?_;repeat first|with_reducible constructor|(with_reducible apply tG);kernel_rfl;intro _ _;(repeat apply tOp;intro _;simp only[h188,h189,h191,h193,e5,hm,h6,h7,go_sem,Nat.reduceAdd,reduceIte];rfl);rfl;simp only[go_sem];rfl
     with_reducible apply tF
     ·simp only[go_sem];rfl
     ·rfl
     refine tQ ?_;repeat first|with_reducible constructor|(with_reducible apply tG);kernel_rfl;intro _ _;(repeat apply tOp;intro _;simp only[h188,h189,h191,h193,e5,hm,h6,h7,go_sem,Nat.reduceAdd,reduceIte];rfl);rfl;simp only[go_sem];rfl
     with_reducible apply tF
     ·simp only[go_sem];rfl
     ·exact e7
     refine tQ ?_;repeat first|with_reducible constructor|(with_reducible apply tG);kernel_rfl;intro _ _;(repeat apply tOp;intro _;simp only[h188,h189,h191,h193,e5,hm,h6,h7,go_sem,Nat.reduceAdd,reduceIte];rfl);rfl;simp only[go_sem];rfl
     with_reducible apply tT
     ·simp only[go_sem];rfl
     ·exact e8
     refine tQ ?_;repeat first|with_reducible constructor|(with_reducible apply tG);kernel_rfl;intro _ _;(repeat apply tOp;intro _;simp only[h188,h189,h191,h193,e5,hm,h6,h7,go_sem,Nat.reduceAdd,reduceIte];rfl);rfl;simp only[go_sem];rfl
     ((with_reducible apply tP);(focus (intro _ _;(repeat (apply tOp;(focus (intro _;simp only[h188,h189,h191,h193,e5,hm,h6,h7,go_sem,Nat.reduceAdd,reduceIte];rfl))));apply tOpP;simp only[h188,h189,h191,h193,e5,hm,h6,h7,go_sem,Nat.reduceAdd,reduceIte];rfl)))
     repeat first|with_reducible apply tsP|with_reducible apply tbP
     rfl
   |false =>
   cases e9:decide (Lib.indexByte signL c.toNat.toUInt8≥0) with
   |true =>
    rcases h194 1 6 1 rfl (by omega) (by omega) with ⟨kd,num,txt,hm,ht1,ht2⟩|⟨a,e,hm⟩
    ·
     rw[tokE] at hm
     refine .inl ⟨kd,num,txt,?_,ht1,ht2⟩
     rw[tokE]
     apply tA
     ·rfl
     ·rfl
     ·exact Tryz.func181
     ·rfl
     ·rfl
     ·simp only[go_sem,Nat.reduceAdd,reduceIte];rfl
     refine tQ ?_;repeat first|with_reducible constructor|(with_reducible apply tG);kernel_rfl;intro _ _;(repeat apply tOp;intro _;simp only[h188,h189,h191,h193,e5,hm,h6,h7,h196,go_sem,Nat.reduceAdd,reduceIte];rfl);rfl;simp only[go_sem];rfl
     with_reducible apply tF
     ·simp only[go_sem];rfl
     ·exact e1
     refine tQ ?_;repeat first|with_reducible constructor|(with_reducible apply tG);kernel_rfl;intro _ _;(repeat apply tOp;intro _;simp only[h188,h189,h191,h193,e5,hm,h6,h7,h196,go_sem,Nat.reduceAdd,reduceIte];rfl);rfl;simp only[go_sem];rfl
     with_reducible apply tF
     ·simp only[go_sem];rfl
     ·exact e2
     refine tQ ?_;repeat first|with_reducible constructor|(with_reducible apply tG);kernel_rfl;intro _ _;(repeat apply tOp;intro _;simp only[h188,h189,h191,h193,e5,hm,h6,h7,h196,go_sem,Nat.reduceAdd,reduceIte];rfl);rfl;simp only[go_sem];rfl
     with_reducible apply tF
     ·simp only[go_sem];rfl
     ·exact e3
     refine tQ ?_;repeat first|with_reducible constructor|(with_reducible apply tG);kernel_rfl;intro _ _;(repeat apply tOp;intro _;simp only[h188,h189,h191,h193,e5,hm,h6,h7,h196,go_sem,Nat.reduceAdd,reduceIte];rfl);rfl;simp only[go_sem];rfl
     with_reducible apply tF
     ·simp only[go_sem];rfl
     ·exact e4
     refine tQ ?_;repeat first|with_reducible constructor|(with_reducible apply tG);kernel_rfl;intro _ _;(repeat apply tOp;intro _;simp only[h188,h189,h191,h193,e5,hm,h6,h7,h196,go_sem,Nat.reduceAdd,reduceIte];rfl);rfl;simp only[go_sem];rfl
     with_reducible apply tF
     ·simp only[go_sem];rfl
     ·rfl
     refine tQ ?_;repeat first|with_reducible constructor|(with_reducible apply tG);kernel_rfl;intro _ _;(repeat apply tOp;intro _;simp only[h188,h189,h191,h193,e5,hm,h6,h7,h196,go_sem,Nat.reduceAdd,reduceIte];rfl);rfl;simp only[go_sem];rfl
     with_reducible apply tF
     ·simp only[go_sem];rfl
     ·exact e7
     refine tQ ?_;repeat first|with_reducible constructor|(with_reducible apply tG);kernel_rfl;intro _ _;(repeat apply tOp;intro _;simp only[h188,h189,h191,h193,e5,hm,h6,h7,h196,go_sem,Nat.reduceAdd,reduceIte];rfl);rfl;simp only[go_sem];rfl
     with_reducible apply tF
     ·simp only[go_sem];rfl
     ·exact e8
     refine tQ ?_;repeat first|with_reducible constructor|(with_reducible apply tG);kernel_rfl;intro _ _;(repeat apply tOp;intro _;simp only[h188,h189,h191,h193,e5,hm,h6,h7,h196,go_sem,Nat.reduceAdd,reduceIte];rfl);rfl;simp only[go_sem];rfl
     with_reducible apply tT
     ·simp only[go_sem];rfl
     ·exact e9
     refine tQ ?_;repeat first|with_reducible constructor|(with_reducible apply tG);kernel_rfl;intro _ _;(repeat apply tOp;intro _;simp only[h188,h189,h191,h193,e5,hm,h6,h7,h196,go_sem,Nat.reduceAdd,reduceIte];rfl);rfl;simp only[go_sem];rfl
     exact fin0 rfl
    ·
     rw[wrongE] at hm
     refine .inr ⟨a,e,?_⟩
     rw[wrongE]
     apply tA
     ·rfl
     ·rfl
     ·exact Tryz.func181
     ·rfl
     ·rfl
     ·simp only[go_sem,Nat.reduceAdd,reduceIte];rfl
     refine tQ ?_;repeat first|with_reducible constructor|(with_reducible apply tG);kernel_rfl;intro _ _;(repeat apply tOp;intro _;simp only[h188,h189,h191,h193,e5,hm,h6,h7,h196,go_sem,Nat.reduceAdd,reduceIte];rfl);rfl;simp only[go_sem];rfl
     with_reducible apply tF
     ·simp only[go_sem];rfl
     ·exact e1
     refine tQ ?_;repeat first|with_reducible constructor|(with_reducible apply tG);kernel_rfl;intro _ _;(repeat apply tOp;intro _;simp only[h188,h189,h191,h193,e5,hm,h6,h7,h196,go_sem,Nat.reduceAdd,reduceIte];rfl);rfl;simp only[go_sem];rfl
     with_reducible apply tF
     ·simp only[go_sem];rfl
     ·exact e2
     refine tQ ?_;repeat first|with_reducible constructor|(with_reducible apply tG);kernel_rfl;intro _ _;(repeat apply tOp;intro _;simp only[h188,h189,h191,h193,e5,hm,h6,h7,h196,go_sem,Nat.reduceAdd,reduceIte];rfl);rfl;simp only[go_sem];rfl
     with_reducible apply tF
     ·simp only[go_sem];rfl
     ·exact e3
     refine tQ ?_;repeat first|with_reducible constructor|(with_reducible apply tG);kernel_rfl;intro _ _;(repeat apply tOp;intro _;simp only[h188,h189,h191,h193,e5,hm,h6,h7,h196,go_sem,Nat.reduceAdd,reduceIte];rfl);rfl;simp only[go_sem];rfl
     with_reducible apply tF
     ·simp only[go_sem];rfl
     ·exact e4
     refine tQ ?_;repeat first|with_reducible constructor|(with_reducible apply tG);kernel_rfl;intro _ _;(repeat apply tOp;intro _;simp only[h188,h189,h191,h193,e5,hm,h6,h7,h196,go_sem,Nat.reduceAdd,reduceIte];rfl);rfl;simp only[go_sem];rfl
     with_reducible apply tF
     ·simp only[go_sem];rfl
     ·rfl
     refine tQ ?_;repeat first|with_reducible constructor|(with_reducible apply tG);kernel_rfl;intro _ _;(repeat apply tOp;intro _;simp only[h188,h189,h191,h193,e5,hm,h6,h7,h196,go_sem,Nat.reduceAdd,reduceIte];rfl);rfl;simp only[go_sem];rfl
     with_reducible apply tF
     ·simp only[go_sem];rfl
     ·exact e7
     refine tQ ?_;repeat first|with_reducible constructor|(with_reducible apply tG);kernel_rfl;intro _ _;(repeat apply tOp;intro _;simp only[h188,h189,h191,h193,e5,hm,h6,h7,h196,go_sem,Nat.reduceAdd,reduceIte];rfl);rfl;simp only[go_sem];rfl
     with_reducible apply tF
     ·simp only[go_sem];rfl
     ·exact e8
     refine tQ ?_;repeat first|with_reducible constructor|(with_reducible apply tG);kernel_rfl;intro _ _;(repeat apply tOp;intro _;simp only[h188,h189,h191,h193,e5,hm,h6,h7,h196,go_sem,Nat.reduceAdd,reduceIte];rfl);rfl;simp only[go_sem];rfl
     with_reducible apply tT
     ·simp only[go_sem];rfl
     ·exact e9
     refine tQ ?_;repeat first|with_reducible constructor|(with_reducible apply tG);kernel_rfl;intro _ _;(repeat apply tOp;intro _;simp only[h188,h189,h191,h193,e5,hm,h6,h7,h196,go_sem,Nat.reduceAdd,reduceIte];rfl);rfl;simp only[go_sem];rfl
     ((with_reducible apply tP);(focus (intro _ _;(repeat (apply tOp;(focus (intro _;simp only[h188,h189,h191,h193,e5,hm,h6,h7,h196,go_sem,Nat.reduceAdd,reduceIte];rfl))));apply tOpP;simp only[h188,h189,h191,h193,e5,hm,h6,h7,h196,go_sem,Nat.reduceAdd,reduceIte];rfl)))
     repeat first|with_reducible apply tsP|with_reducible apply tbP
     rfl
   |false =>
    refine .inr ⟨(at_:Nat),11,?_⟩
    rw[wrongE]
    apply tA
    ·rfl
    ·rfl
    ·exact Tryz.func181
    ·rfl
    ·rfl
    ·simp only[go_sem,Nat.reduceAdd,reduceIte];rfl
    refine tQ ?_;repeat first|with_reducible constructor|(with_reducible apply tG);kernel_rfl;intro _ _;(repeat apply tOp;intro _;simp only[h188,h189,h191,h193,e5,h6,h7,h196,go_sem,Nat.reduceAdd,reduceIte];rfl);rfl;simp only[go_sem];rfl
    with_reducible apply tF
    ·simp only[go_sem];rfl
    ·exact e1
    refine tQ ?_;repeat first|with_reducible constructor|(with_reducible apply tG);kernel_rfl;intro _ _;(repeat apply tOp;intro _;simp only[h188,h189,h191,h193,e5,h6,h7,h196,go_sem,Nat.reduceAdd,reduceIte];rfl);rfl;simp only[go_sem];rfl
    with_reducible apply tF
    ·simp only[go_sem];rfl
    ·exact e2
    refine tQ ?_;repeat first|with_reducible constructor|(with_reducible apply tG);kernel_rfl;intro _ _;(repeat apply tOp;intro _;simp only[h188,h189,h191,h193,e5,h6,h7,h196,go_sem,Nat.reduceAdd,reduceIte];rfl);rfl;simp only[go_sem];rfl
    with_reducible apply tF
    ·simp only[go_sem];rfl
    ·exact e3
    refine tQ ?_;repeat first|with_reducible constructor|(with_reducible apply tG);kernel_rfl;intro _ _;(repeat apply tOp;intro _;simp only[h188,h189,h191,h193,e5,h6,h7,h196,go_sem,Nat.reduceAdd,reduceIte];rfl);rfl;simp only[go_sem];rfl
    with_reducible apply tF
    ·simp only[go_sem];rfl
    ·exact e4
    refine tQ ?_;repeat first|with_reducible constructor|(with_reducible apply tG);kernel_rfl;intro _ _;(repeat apply tOp;intro _;simp only[h188,h189,h191,h193,e5,h6,h7,h196,go_sem,Nat.reduceAdd,reduceIte];rfl);rfl;simp only[go_sem];rfl
    with_reducible apply tF
    ·simp only[go_sem];rfl
    ·rfl
    refine tQ ?_;repeat first|with_reducible constructor|(with_reducible apply tG);kernel_rfl;intro _ _;(repeat apply tOp;intro _;simp only[h188,h189,h191,h193,e5,h6,h7,h196,go_sem,Nat.reduceAdd,reduceIte];rfl);rfl;simp only[go_sem];rfl
    with_reducible apply tF
    ·simp only[go_sem];rfl
    ·exact e7
    refine tQ ?_;repeat first|with_reducible constructor|(with_reducible apply tG);kernel_rfl;intro _ _;(repeat apply tOp;intro _;simp only[h188,h189,h191,h193,e5,h6,h7,h196,go_sem,Nat.reduceAdd,reduceIte];rfl);rfl;simp only[go_sem];rfl
    with_reducible apply tF
    ·simp only[go_sem];rfl
    ·exact e8
    refine tQ ?_;repeat first|with_reducible constructor|(with_reducible apply tG);kernel_rfl;intro _ _;(repeat apply tOp;intro _;simp only[h188,h189,h191,h193,e5,h6,h7,h196,go_sem,Nat.reduceAdd,reduceIte];rfl);rfl;simp only[go_sem];rfl
    with_reducible apply tF
    ·simp only[go_sem];rfl
    ·exact e9
    refine tQ ?_;repeat first|with_reducible constructor|(with_reducible apply tG);kernel_rfl;intro _ _;(repeat apply tOp;intro _;simp only[h188,h189,h191,h193,e5,h6,h7,h196,go_sem,Nat.reduceAdd,reduceIte];rfl);rfl;simp only[go_sem];rfl
    ((with_reducible apply tP);(focus (intro _ _;(repeat (apply tOp;(focus (intro _;simp only[go_sem,Nat.reduceAdd,reduceIte];rfl))));apply tOpP;simp only[go_sem,Nat.reduceAdd,reduceIte];rfl)))
    repeat first|with_reducible apply tsP|with_reducible apply tbP
    rfl
  ·
   cases e7:Lib.hasPrefix (s.drop at_) [61,62] with
   |true =>
    have h6:=h186 [61,62]
    have hl:=hpre _ e7
    simp only[List.length_cons,List.length_nil] at hl
    rcases h194 2 6 2 rfl (by omega) (by omega) with ⟨kd,num,txt,hm,ht1,ht2⟩|⟨a,e,hm⟩
    ·
     rw[tokE] at hm
     refine .inl ⟨kd,num,txt,?_,ht1,ht2⟩
     rw[tokE]
     apply tA
     ·rfl
     ·rfl
     ·exact Tryz.func181
     ·rfl
     ·rfl
     ·simp only[go_sem,Nat.reduceAdd,reduceIte];rfl
     refine tQ ?_;repeat first|with_reducible constructor|(with_reducible apply tG);kernel_rfl;intro _ _;(repeat apply tOp;intro _;simp only[h188,h189,h191,h193,e5,h188b,h191b,e6,hm,h6,go_sem,Nat.reduceAdd,reduceIte];rfl);rfl;simp only[go_sem];rfl
     with_reducible apply tF
     ·simp only[go_sem];rfl
     ·exact e1
     refine tQ ?_;repeat first|with_reducible constructor|(with_reducible apply tG);kernel_rfl;intro _ _;(repeat apply tOp;intro _;simp only[h188,h189,h191,h193,e5,h188b,h191b,e6,hm,h6,go_sem,Nat.reduceAdd,reduceIte];rfl);rfl;simp only[go_sem];rfl
     with_reducible apply tF
     ·simp only[go_sem];rfl
     ·exact e2
     refine tQ ?_;repeat first|with_reducible constructor|(with_reducible apply tG);kernel_rfl;intro _ _;(repeat apply tOp;intro _;simp only[h188,h189,h191,h193,e5,h188b,h191b,e6,hm,h6,go_sem,Nat.reduceAdd,reduceIte];rfl);rfl;simp only[go_sem];rfl
     with_reducible apply tF
     ·simp only[go_sem];rfl
     ·exact e3
     refine tQ ?_;repeat first|with_reducible constructor|(with_reducible apply tG);kernel_rfl;intro _ _;(repeat apply tOp;intro _;simp only[h188,h189,h191,h193,e5,h188b,h191b,e6,hm,h6,go_sem,Nat.reduceAdd,reduceIte];rfl);rfl;simp only[go_sem];rfl
     with_reducible apply tF
     ·simp only[go_sem];rfl
     ·exact e4
     refine tQ ?_;repeat first|with_reducible constructor|(with_reducible apply tG);kernel_rfl;intro _ _;(repeat apply tOp;intro _;simp only[h188,h189,h191,h193,e5,h188b,h191b,e6,hm,h6,go_sem,Nat.reduceAdd,reduceIte];rfl);rfl;simp only[go_sem];rfl
     with_reducible apply tF
     ·simp only[go_sem];rfl
     ·rfl
     refine tQ ?_;repeat first|with_reducible constructor|(with_reducible apply tG);kernel_rfl;intro _ _;(repeat apply tOp;intro _;simp only[h188,h189,h191,h193,e5,h188b,h191b,e6,hm,h6,go_sem,Nat.reduceAdd,reduceIte];rfl);rfl;simp only[go_sem];rfl
     with_reducible apply tT
     ·simp only[go_sem];rfl
     ·exact e7
     refine tQ ?_;repeat first|with_reducible constructor|(with_reducible apply tG);kernel_rfl;intro _ _;(repeat apply tOp;intro _;simp only[h188,h189,h191,h193,e5,h188b,h191b,e6,hm,h6,go_sem,Nat.reduceAdd,reduceIte];rfl);rfl;simp only[go_sem];rfl
     with_reducible apply tT
     ·simp only[go_sem];rfl
     ·exact e7
     refine tQ ?_;repeat first|with_reducible constructor|(with_reducible apply tG);kernel_rfl;intro _ _;(repeat apply tOp;intro _;simp only[h188,h189,h191,h193,e5,h188b,h191b,e6,hm,h6,go_sem,Nat.reduceAdd,reduceIte];rfl);rfl;simp only[go_sem];rfl
     exact fin0 rfl
    ·
     rw[wrongE] at hm
     refine .inr ⟨a,e,?_⟩
     rw[wrongE]
     apply tA
     ·rfl
     ·rfl
     ·exact Tryz.func181
     ·rfl
     ·rfl
     ·simp only[go_sem,Nat.reduceAdd,reduceIte];rfl
     refine tQ ?_;repeat first|with_reducible constructor|(with_reducible apply tG);kernel_rfl;intro _ _;(repeat apply tOp;intro _;simp only[h188,h189,h191,h193,e5,h188b,h191b,e6,hm,h6,go_sem,Nat.reduceAdd,reduceIte];rfl);rfl;simp only[go_sem];rfl
     with_reducible apply tF
     ·simp only[go_sem];rfl
     ·exact e1
     refine tQ ?_;repeat first|with_reducible constructor|(with_reducible apply tG);kernel_rfl;intro _ _;(repeat apply tOp;intro _;simp only[h188,h189,h191,h193,e5,h188b,h191b,e6,hm,h6,go_sem,Nat.reduceAdd,reduceIte];rfl);rfl;simp only[go_sem];rfl
     with_reducible apply tF
     ·simp only[go_sem];rfl
     ·exact e2
     refine tQ ?_;repeat first|with_reducible constructor|(with_reducible apply tG);kernel_rfl;intro _ _;(repeat apply tOp;intro _;simp only[h188,h189,h191,h193,e5,h188b,h191b,e6,hm,h6,go_sem,Nat.reduceAdd,reduceIte];rfl);rfl;simp only[go_sem];rfl
     with_reducible apply tF
     ·simp only[go_sem];rfl
     ·exact e3
     refine tQ ?_;repeat first|with_reducible constructor|(with_reducible apply tG);kernel_rfl;intro _ _;(repeat apply tOp;intro _;simp only[h188,h189,h191,h193,e5,h188b,h191b,e6,hm,h6,go_sem,Nat.reduceAdd,reduceIte];rfl);rfl;simp only[go_sem];rfl
     with_reducible apply tF
     ·simp only[go_sem];rfl
     ·exact e4
     refine tQ ?_;repeat first|with_reducible constructor|(with_reducible apply tG);kernel_rfl;intro _ _;(repeat apply tOp;intro _;simp only[h188,h189,h191,h193,e5,h188b,h191b,e6,hm,h6,go_sem,Nat.reduceAdd,reduceIte];rfl);rfl;simp only[go_sem];rfl
     with_reducible apply tF
     ·simp only[go_sem];rfl
     ·rfl
     refine tQ ?_;repeat first|with_reducible constructor|(with_reducible apply tG);kernel_rfl;intro _ _;(repeat apply tOp;intro _;simp only[h188,h189,h191,h193,e5,h188b,h191b,e6,hm,h6,go_sem,Nat.reduceAdd,reduceIte];rfl);rfl;simp only[go_sem];rfl
     with_reducible apply tT
     ·simp only[go_sem];rfl
     ·exact e7
     refine tQ ?_;repeat first|with_reducible constructor|(with_reducible apply tG);kernel_rfl;intro _ _;(repeat apply tOp;intro _;simp only[h188,h189,h191,h193,e5,h188b,h191b,e6,hm,h6,go_sem,Nat.reduceAdd,reduceIte];rfl);rfl;simp only[go_sem];rfl
     with_reducible apply tT
     ·simp only[go_sem];rfl
     ·exact e7
     refine tQ ?_;repeat first|with_reducible constructor|(with_reducible apply tG);kernel_rfl;intro _ _;(repeat apply tOp;intro _;simp only[h188,h189,h191,h193,e5,h188b,h191b,e6,hm,h6,go_sem,Nat.reduceAdd,reduceIte];rfl);rfl;simp only[go_sem];rfl
     ((with_reducible apply tP);(focus (intro _ _;(repeat (apply tOp;(focus (intro _;simp only[h188,h189,h191,h193,e5,h188b,h191b,e6,hm,h6,go_sem,Nat.reduceAdd,reduceIte];rfl))));apply tOpP;simp only[h188,h189,h191,h193,e5,h188b,h191b,e6,hm,h6,go_sem,Nat.reduceAdd,reduceIte];rfl)))
     repeat first|with_reducible apply tsP|with_reducible apply tbP
     rfl
   |false =>
   have h6:=h186 [61,62]
   have h7:=h186 [45,62]
   cases e8:Lib.hasPrefix (s.drop at_) [45,62] with
   |true =>
    have hl:=hpre _ e8
    simp only[List.length_cons,List.length_nil] at hl
    rcases h194 2 6 2 rfl (by omega) (by omega) with ⟨kd,num,txt,hm,ht1,ht2⟩|⟨a,e,hm⟩
    ·
     rw[tokE] at hm
     refine .inl ⟨kd,num,txt,?_,ht1,ht2⟩
     rw[tokE]
     apply tA
     ·rfl
     ·rfl
     ·exact Tryz.func181
     ·rfl
     ·rfl
     ·simp only[go_sem,Nat.reduceAdd,reduceIte];rfl
     refine tQ ?_;repeat first|with_reducible constructor|(with_reducible apply tG);kernel_rfl;intro _ _;(repeat apply tOp;intro _;simp only[h188,h189,h191,h193,e5,h188b,h191b,e6,hm,h6,h7,go_sem,Nat.reduceAdd,reduceIte];rfl);rfl;simp only[go_sem];rfl
     with_reducible apply tF
     ·simp only[go_sem];rfl
     ·exact e1
     refine tQ ?_;repeat first|with_reducible constructor|(with_reducible apply tG);kernel_rfl;intro _ _;(repeat apply tOp;intro _;simp only[h188,h189,h191,h193,e5,h188b,h191b,e6,hm,h6,h7,go_sem,Nat.reduceAdd,reduceIte];rfl);rfl;simp only[go_sem];rfl
     with_reducible apply tF
     ·simp only[go_sem];rfl
     ·exact e2
     refine tQ ?_;repeat first|with_reducible constructor|(with_reducible apply tG);kernel_rfl;intro _ _;(repeat apply tOp;intro _;simp only[h188,h189,h191,h193,e5,h188b,h191b,e6,hm,h6,h7,go_sem,Nat.reduceAdd,reduceIte];rfl);rfl;simp only[go_sem];rfl
     with_reducible apply tF
     ·simp only[go_sem];rfl
     ·exact e3
     refine tQ ?_;repeat first|with_reducible constructor|(with_reducible apply tG);kernel_rfl;intro _ _;(repeat apply tOp;intro _;simp only[h188,h189,h191,h193,e5,h188b,h191b,e6,hm,h6,h7,go_sem,Nat.reduceAdd,reduceIte];rfl);rfl;simp only[go_sem];rfl
     with_reducible apply tF
     ·simp only[go_sem];rfl
     ·exact e4
     refine tQ ?_;repeat first|with_reducible constructor|(with_reducible apply tG);kernel_rfl;intro _ _;(repeat apply tOp;intro _;simp only[h188,h189,h191,h193,e5,h188b,h191b,e6,hm,h6,h7,go_sem,Nat.reduceAdd,reduceIte];rfl);rfl;simp only[go_sem];rfl
     with_reducible apply tF
     ·simp only[go_sem];rfl
     ·rfl
     refine tQ ?_;repeat first|with_reducible constructor|(with_reducible apply tG);kernel_rfl;intro _ _;(repeat apply tOp;intro _;simp only[h188,h189,h191,h193,e5,h188b,h191b,e6,hm,h6,h7,go_sem,Nat.reduceAdd,reduceIte];rfl);rfl;simp only[go_sem];rfl
     with_reducible apply tF
     ·simp only[go_sem];rfl
     ·exact e7
     refine tQ ?_;repeat first|with_reducible constructor|(with_reducible apply tG);kernel_rfl;intro _ _;(repeat apply tOp;intro _;simp only[h188,h189,h191,h193,e5,h188b,h191b,e6,hm,h6,h7,go_sem,Nat.reduceAdd,reduceIte];rfl);rfl;simp only[go_sem];rfl
     with_reducible apply tT
     ·simp only[go_sem];rfl
     ·exact e8
     refine tQ ?_;repeat first|with_reducible constructor|(with_reducible apply tG);kernel_rfl;intro _ _;(repeat apply tOp;intro _;simp only[h188,h189,h191,h193,e5,h188b,h191b,e6,hm,h6,h7,go_sem,Nat.reduceAdd,reduceIte];rfl);rfl;simp only[go_sem];rfl
     exact fin0 rfl
    ·
     rw[wrongE] at hm
     refine .inr ⟨a,e,?_⟩
     rw[wrongE]
     apply tA
     ·rfl
     ·rfl
     ·exact Tryz.func181
     ·rfl
     ·rfl
     ·simp only[go_sem,Nat.reduceAdd,reduceIte];rfl
     refine tQ ?_;repeat first|with_reducible constructor|(with_reducible apply tG);kernel_rfl;intro _ _;(repeat apply tOp;intro _;simp only[h188,h189,h191,h193,e5,h188b,h191b,e6,hm,h6,h7,go_sem,Nat.reduceAdd,reduceIte];rfl);rfl;simp only[go_sem];rfl
     with_reducible apply tF
     ·simp only[go_sem];rfl
     ·exact e1
     refine tQ ?_;repeat first|with_reducible constructor|(with_reducible apply tG);kernel_rfl;intro _ _;(repeat apply tOp;intro _;simp only[h188,h189,h191,h193,e5,h188b,h191b,e6,hm,h6,h7,go_sem,Nat.reduceAdd,reduceIte];rfl);rfl;simp only[go_sem];rfl
     with_reducible apply tF
     ·simp only[go_sem];rfl
     ·exact e2
     refine tQ ?_;repeat first|with_reducible constructor|(with_reducible apply tG);kernel_rfl;intro _ _;(repeat apply tOp;intro _;simp only[h188,h189,h191,h193,e5,h188b,h191b,e6,hm,h6,h7,go_sem,Nat.reduceAdd,reduceIte];rfl);rfl;simp only[go_sem];rfl
     with_reducible apply tF
     ·simp only[go_sem];rfl
     ·exact e3
     refine tQ ?_;repeat first|with_reducible constructor|(with_reducible apply tG);kernel_rfl;intro _ _;(repeat apply tOp;intro _;simp only[h188,h189,h191,h193,e5,h188b,h191b,e6,hm,h6,h7,go_sem,Nat.reduceAdd,reduceIte];rfl);rfl;simp only[go_sem];rfl
     with_reducible apply tF
     ·simp only[go_sem];rfl
     ·exact e4
     refine tQ ?_;repeat first|with_reducible constructor|(with_reducible apply tG);kernel_rfl;intro _ _;(repeat apply tOp;intro _;simp only[h188,h189,h191,h193,e5,h188b,h191b,e6,hm,h6,h7,go_sem,Nat.reduceAdd,reduceIte];rfl);rfl;simp only[go_sem];rfl
     with_reducible apply tF
     ·simp only[go_sem];rfl
     ·rfl
     refine tQ ?_;repeat first|with_reducible constructor|(with_reducible apply tG);kernel_rfl;intro _ _;(repeat apply tOp;intro _;simp only[h188,h189,h191,h193,e5,h188b,h191b,e6,hm,h6,h7,go_sem,Nat.reduceAdd,reduceIte];rfl);rfl;simp only[go_sem];rfl
     with_reducible apply tF
     ·simp only[go_sem];rfl
     ·exact e7
     refine tQ ?_;repeat first|with_reducible constructor|(with_reducible apply tG);kernel_rfl;intro _ _;(repeat apply tOp;intro _;simp only[h188,h189,h191,h193,e5,h188b,h191b,e6,hm,h6,h7,go_sem,Nat.reduceAdd,reduceIte];rfl);rfl;simp only[go_sem];rfl
     with_reducible apply tT
     ·simp only[go_sem];rfl
     ·exact e8
     refine tQ ?_;repeat first|with_reducible constructor|(with_reducible apply tG);kernel_rfl;intro _ _;(repeat apply tOp;intro _;simp only[h188,h189,h191,h193,e5,h188b,h191b,e6,hm,h6,h7,go_sem,Nat.reduceAdd,reduceIte];rfl);rfl;simp only[go_sem];rfl
     ((with_reducible apply tP);(focus (intro _ _;(repeat (apply tOp;(focus (intro _;simp only[h188,h189,h191,h193,e5,h188b,h191b,e6,hm,h6,h7,go_sem,Nat.reduceAdd,reduceIte];rfl))));apply tOpP;simp only[h188,h189,h191,h193,e5,h188b,h191b,e6,hm,h6,h7,go_sem,Nat.reduceAdd,reduceIte];rfl)))
     repeat first|with_reducible apply tsP|with_reducible apply tbP
     rfl
   |false =>
   cases e9:decide (Lib.indexByte signL c.toNat.toUInt8≥0) with
   |true =>
    rcases h194 1 6 1 rfl (by omega) (by omega) with ⟨kd,num,txt,hm,ht1,ht2⟩|⟨a,e,hm⟩
    ·
     rw[tokE] at hm
     refine .inl ⟨kd,num,txt,?_,ht1,ht2⟩
     rw[tokE]
     apply tA
     ·rfl
     ·rfl
     ·exact Tryz.func181
     ·rfl
     ·rfl
     ·simp only[go_sem,Nat.reduceAdd,reduceIte];rfl
     refine tQ ?_;repeat first|with_reducible constructor|(with_reducible apply tG);kernel_rfl;intro _ _;(repeat apply tOp;intro _;simp only[h188,h189,h191,h193,e5,h188b,h191b,e6,hm,h6,h7,h196,go_sem,Nat.reduceAdd,reduceIte];rfl);rfl;simp only[go_sem];rfl
     with_reducible apply tF
     ·simp only[go_sem];rfl
     ·exact e1
     refine tQ ?_;repeat first|with_reducible constructor|(with_reducible apply tG);kernel_rfl;intro _ _;(repeat apply tOp;intro _;simp only[h188,h189,h191,h193,e5,h188b,h191b,e6,hm,h6,h7,h196,go_sem,Nat.reduceAdd,reduceIte];rfl);rfl;simp only[go_sem];rfl
     with_reducible apply tF
     ·simp only[go_sem];rfl
     ·exact e2
     refine tQ ?_;repeat first|with_reducible constructor|(with_reducible apply tG);kernel_rfl;intro _ _;(repeat apply tOp;intro _;simp only[h188,h189,h191,h193,e5,h188b,h191b,e6,hm,h6,h7,h196,go_sem,Nat.reduceAdd,reduceIte];rfl);rfl;simp only[go_sem];rfl
     with_reducible apply tF
     ·simp only[go_sem];rfl
     ·exact e3
     refine tQ ?_;repeat first|with_reducible constructor|(with_reducible apply tG);kernel_rfl;intro _ _;(repeat apply tOp;intro _;simp only[h188,h189,h191,h193,e5,h188b,h191b,e6,hm,h6,h7,h196,go_sem,Nat.reduceAdd,reduceIte];rfl);rfl;simp only[go_sem];rfl
     with_reducible apply tF
     ·simp only[go_sem];rfl
     ·exact e4
     refine tQ ?_;repeat first|with_reducible constructor|(with_reducible apply tG);kernel_rfl;intro _ _;(repeat apply tOp;intro _;simp only[h188,h189,h191,h193,e5,h188b,h191b,e6,hm,h6,h7,h196,go_sem,Nat.reduceAdd,reduceIte];rfl);rfl;simp only[go_sem];rfl
     with_reducible apply tF
     ·simp only[go_sem];rfl
     ·rfl
     refine tQ ?_;repeat first|with_reducible constructor|(with_reducible apply tG);kernel_rfl;intro _ _;(repeat apply tOp;intro _;simp only[h188,h189,h191,h193,e5,h188b,h191b,e6,hm,h6,h7,h196,go_sem,Nat.reduceAdd,reduceIte];rfl);rfl;simp only[go_sem];rfl
     with_reducible apply tF
     ·simp only[go_sem];rfl
     ·exact e7
     refine tQ ?_;repeat first|with_reducible constructor|(with_reducible apply tG);kernel_rfl;intro _ _;(repeat apply tOp;intro _;simp only[h188,h189,h191,h193,e5,h188b,h191b,e6,hm,h6,h7,h196,go_sem,Nat.reduceAdd,reduceIte];rfl);rfl;simp only[go_sem];rfl
     with_reducible apply tF
     ·simp only[go_sem];rfl
     ·exact e8
     refine tQ ?_;repeat first|with_reducible constructor|(with_reducible apply tG);kernel_rfl;intro _ _;(repeat apply tOp;intro _;simp only[h188,h189,h191,h193,e5,h188b,h191b,e6,hm,h6,h7,h196,go_sem,Nat.reduceAdd,reduceIte];rfl);rfl;simp only[go_sem];rfl
     with_reducible apply tT
     ·simp only[go_sem];rfl
     ·exact e9
     refine tQ ?_;repeat first|with_reducible constructor|(with_reducible apply tG);kernel_rfl;intro _ _;(repeat apply tOp;intro _;simp only[h188,h189,h191,h193,e5,h188b,h191b,e6,hm,h6,h7,h196,go_sem,Nat.reduceAdd,reduceIte];rfl);rfl;simp only[go_sem];rfl
     exact fin0 rfl
    ·
     rw[wrongE] at hm
     refine .inr ⟨a,e,?_⟩
     rw[wrongE]
     apply tA
     ·rfl
     ·rfl
     ·exact Tryz.func181
     ·rfl
     ·rfl
     ·simp only[go_sem,Nat.reduceAdd,reduceIte];rfl
     refine tQ ?_;repeat first|with_reducible constructor|(with_reducible apply tG);kernel_rfl;intro _ _;(repeat apply tOp;intro _;simp only[h188,h189,h191,h193,e5,h188b,h191b,e6,hm,h6,h7,h196,go_sem,Nat.reduceAdd,reduceIte];rfl);rfl;simp only[go_sem];rfl
     with_reducible apply tF
     ·simp only[go_sem];rfl
     ·exact e1
     refine tQ ?_;repeat first|with_reducible constructor|(with_reducible apply tG);kernel_rfl;intro _ _;(repeat apply tOp;intro _;simp only[h188,h189,h191,h193,e5,h188b,h191b,e6,hm,h6,h7,h196,go_sem,Nat.reduceAdd,reduceIte];rfl);rfl;simp only[go_sem];rfl
     with_reducible apply tF
     ·simp only[go_sem];rfl
     ·exact e2
     refine tQ ?_;repeat first|with_reducible constructor|(with_reducible apply tG);kernel_rfl;intro _ _;(repeat apply tOp;intro _;simp only[h188,h189,h191,h193,e5,h188b,h191b,e6,hm,h6,h7,h196,go_sem,Nat.reduceAdd,reduceIte];rfl);rfl;simp only[go_sem];rfl
     with_reducible apply tF
     ·simp only[go_sem];rfl
     ·exact e3
     refine tQ ?_;repeat first|with_reducible constructor|(with_reducible apply tG);kernel_rfl;intro _ _;(repeat apply tOp;intro _;simp only[h188,h189,h191,h193,e5,h188b,h191b,e6,hm,h6,h7,h196,go_sem,Nat.reduceAdd,reduceIte];rfl);rfl;simp only[go_sem];rfl
     with_reducible apply tF
     ·simp only[go_sem];rfl
     ·exact e4
     refine tQ ?_;repeat first|with_reducible constructor|(with_reducible apply tG);kernel_rfl;intro _ _;(repeat apply tOp;intro _;simp only[h188,h189,h191,h193,e5,h188b,h191b,e6,hm,h6,h7,h196,go_sem,Nat.reduceAdd,reduceIte];rfl);rfl;simp only[go_sem];rfl
     with_reducible apply tF
     ·simp only[go_sem];rfl
     ·rfl
     refine tQ ?_;repeat first|with_reducible constructor|(with_reducible apply tG);kernel_rfl;intro _ _;(repeat apply tOp;intro _;simp only[h188,h189,h191,h193,e5,h188b,h191b,e6,hm,h6,h7,h196,go_sem,Nat.reduceAdd,reduceIte];rfl);rfl;simp only[go_sem];rfl
     with_reducible apply tF
     ·simp only[go_sem];rfl
     ·exact e7
     refine tQ ?_;repeat first|with_reducible constructor|(with_reducible apply tG);kernel_rfl;intro _ _;(repeat apply tOp;intro _;simp only[h188,h189,h191,h193,e5,h188b,h191b,e6,hm,h6,h7,h196,go_sem,Nat.reduceAdd,reduceIte];rfl);rfl;simp only[go_sem];rfl
     with_reducible apply tF
     ·simp only[go_sem];rfl
     ·exact e8
     refine tQ ?_;repeat first|with_reducible constructor|(with_reducible apply tG);kernel_rfl;intro _ _;(repeat apply tOp;intro _;simp only[h188,h189,h191,h193,e5,h188b,h191b,e6,hm,h6,h7,h196,go_sem,Nat.reduceAdd,reduceIte];rfl);rfl;simp only[go_sem];rfl
     with_reducible apply tT
     ·simp only[go_sem];rfl
     ·exact e9
     refine tQ ?_;repeat first|with_reducible constructor|(with_reducible apply tG);kernel_rfl;intro _ _;(repeat apply tOp;intro _;simp only[h188,h189,h191,h193,e5,h188b,h191b,e6,hm,h6,h7,h196,go_sem,Nat.reduceAdd,reduceIte];rfl);rfl;simp only[go_sem];rfl
     ((with_reducible apply tP);(focus (intro _ _;(repeat (apply tOp;(focus (intro _;simp only[h188,h189,h191,h193,e5,h188b,h191b,e6,hm,h6,h7,h196,go_sem,Nat.reduceAdd,reduceIte];rfl))));apply tOpP;simp only[h188,h189,h191,h193,e5,h188b,h191b,e6,hm,h6,h7,h196,go_sem,Nat.reduceAdd,reduceIte];rfl)))
     repeat first|with_reducible apply tsP|with_reducible apply tbP
     rfl
   |false =>
    refine .inr ⟨(at_:Nat),11,?_⟩
    rw[wrongE]
    apply tA
    ·rfl
    ·rfl
    ·exact Tryz.func181
    ·rfl
    ·rfl
    ·simp only[go_sem,Nat.reduceAdd,reduceIte];rfl
    refine tQ ?_;repeat first|with_reducible constructor|(with_reducible apply tG);kernel_rfl;intro _ _;(repeat apply tOp;intro _;simp only[h188,h189,h191,h193,e5,h188b,h191b,e6,h6,h7,h196,go_sem,Nat.reduceAdd,reduceIte];rfl);rfl;simp only[go_sem];rfl
    with_reducible apply tF
    ·simp only[go_sem];rfl
    ·exact e1
    refine tQ ?_;repeat first|with_reducible constructor|(with_reducible apply tG);kernel_rfl;intro _ _;(repeat apply tOp;intro _;simp only[h188,h189,h191,h193,e5,h188b,h191b,e6,h6,h7,h196,go_sem,Nat.reduceAdd,reduceIte];rfl);rfl;simp only[go_sem];rfl
    with_reducible apply tF
    ·simp only[go_sem];rfl
    ·exact e2
    refine tQ ?_;repeat first|with_reducible constructor|(with_reducible apply tG);kernel_rfl;intro _ _;(repeat apply tOp;intro _;simp only[h188,h189,h191,h193,e5,h188b,h191b,e6,h6,h7,h196,go_sem,Nat.reduceAdd,reduceIte];rfl);rfl;simp only[go_sem];rfl
    with_reducible apply tF
    ·simp only[go_sem];rfl
    ·exact e3
    refine tQ ?_;repeat first|with_reducible constructor|(with_reducible apply tG);kernel_rfl;intro _ _;(repeat apply tOp;intro _;simp only[h188,h189,h191,h193,e5,h188b,h191b,e6,h6,h7,h196,go_sem,Nat.reduceAdd,reduceIte];rfl);rfl;simp only[go_sem];rfl
    with_reducible apply tF
    ·simp only[go_sem];rfl
    ·exact e4
    refine tQ ?_;repeat first|with_reducible constructor|(with_reducible apply tG);kernel_rfl;intro _ _;(repeat apply tOp;intro _;simp only[h188,h189,h191,h193,e5,h188b,h191b,e6,h6,h7,h196,go_sem,Nat.reduceAdd,reduceIte];rfl);rfl;simp only[go_sem];rfl
    with_reducible apply tF
    ·simp only[go_sem];rfl
    ·rfl
    refine tQ ?_;repeat first|with_reducible constructor|(with_reducible apply tG);kernel_rfl;intro _ _;(repeat apply tOp;intro _;simp only[h188,h189,h191,h193,e5,h188b,h191b,e6,h6,h7,h196,go_sem,Nat.reduceAdd,reduceIte];rfl);rfl;simp only[go_sem];rfl
    with_reducible apply tF
    ·simp only[go_sem];rfl
    ·exact e7
    refine tQ ?_;repeat first|with_reducible constructor|(with_reducible apply tG);kernel_rfl;intro _ _;(repeat apply tOp;intro _;simp only[h188,h189,h191,h193,e5,h188b,h191b,e6,h6,h7,h196,go_sem,Nat.reduceAdd,reduceIte];rfl);rfl;simp only[go_sem];rfl
    with_reducible apply tF
    ·simp only[go_sem];rfl
    ·exact e8
    refine tQ ?_;repeat first|with_reducible constructor|(with_reducible apply tG);kernel_rfl;intro _ _;(repeat apply tOp;intro _;simp only[h188,h189,h191,h193,e5,h188b,h191b,e6,h6,h7,h196,go_sem,Nat.reduceAdd,reduceIte];rfl);rfl;simp only[go_sem];rfl
    with_reducible apply tF
    ·simp only[go_sem];rfl
    ·exact e9
    refine tQ ?_;repeat first|with_reducible constructor|(with_reducible apply tG);kernel_rfl;intro _ _;(repeat apply tOp;intro _;simp only[h188,h189,h191,h193,e5,h188b,h191b,e6,h6,h7,h196,go_sem,Nat.reduceAdd,reduceIte];rfl);rfl;simp only[go_sem];rfl
    ((with_reducible apply tP);(focus (intro _ _;(repeat (apply tOp;(focus (intro _;simp only[go_sem,Nat.reduceAdd,reduceIte];rfl))));apply tOpP;simp only[go_sem,Nat.reduceAdd,reduceIte];rfl)))
    repeat first|with_reducible apply tsP|with_reducible apply tbP
    rfl
 cases e5:(c==39) with
 |false=>exact rest_ (.inl e5)
 |true =>
  cases e6:smallI c1 with
  |false=>exact rest_ (.inr ⟨e5,e6⟩)
  |true =>
   have hs2:=hs1 (by intro h;rw[h] at e6;cases e6)
   rcases h194 (1+d) 4 ((1+d:Nat):Int) rfl (by omega) (by omega) with ⟨kd,num,txt,hm,ht1,ht2⟩|⟨a,e,hm⟩
   ·
    rw[tokE] at hm
    refine .inl ⟨kd,num,txt,?_,ht1,ht2⟩
    rw[tokE]
    apply tA
    ·rfl
    ·rfl
    ·exact Tryz.func181
    ·rfl
    ·rfl
    ·simp only[go_sem,Nat.reduceAdd,reduceIte];rfl
    refine tQ ?_;repeat first|with_reducible constructor|(with_reducible apply tG);kernel_rfl;intro _ _;(repeat apply tOp;intro _;simp only[h188,h189,h191,h193,e5,h188b,h191b,e6,hm,h184,hw1,go_sem,Nat.reduceAdd,reduceIte];rfl);rfl;simp only[go_sem];rfl
    with_reducible apply tF
    ·simp only[go_sem];rfl
    ·exact e1
    refine tQ ?_;repeat first|with_reducible constructor|(with_reducible apply tG);kernel_rfl;intro _ _;(repeat apply tOp;intro _;simp only[h188,h189,h191,h193,e5,h188b,h191b,e6,hm,h184,hw1,go_sem,Nat.reduceAdd,reduceIte];rfl);rfl;simp only[go_sem];rfl
    with_reducible apply tF
    ·simp only[go_sem];rfl
    ·exact e2
    refine tQ ?_;repeat first|with_reducible constructor|(with_reducible apply tG);kernel_rfl;intro _ _;(repeat apply tOp;intro _;simp only[h188,h189,h191,h193,e5,h188b,h191b,e6,hm,h184,hw1,go_sem,Nat.reduceAdd,reduceIte];rfl);rfl;simp only[go_sem];rfl
    with_reducible apply tF
    ·simp only[go_sem];rfl
    ·exact e3
    refine tQ ?_;repeat first|with_reducible constructor|(with_reducible apply tG);kernel_rfl;intro _ _;(repeat apply tOp;intro _;simp only[h188,h189,h191,h193,e5,h188b,h191b,e6,hm,h184,hw1,go_sem,Nat.reduceAdd,reduceIte];rfl);rfl;simp only[go_sem];rfl
    with_reducible apply tF
    ·simp only[go_sem];rfl
    ·exact e4
    refine tQ ?_;repeat first|with_reducible constructor|(with_reducible apply tG);kernel_rfl;intro _ _;(repeat apply tOp;intro _;simp only[h188,h189,h191,h193,e5,h188b,h191b,e6,hm,h184,hw1,go_sem,Nat.reduceAdd,reduceIte];rfl);rfl;simp only[go_sem];rfl
    with_reducible apply tT
    ·simp only[go_sem];rfl
    ·rfl
    refine tQ ?_;repeat first|with_reducible constructor|(with_reducible apply tG);kernel_rfl;intro _ _;(repeat apply tOp;intro _;simp only[h188,h189,h191,h193,e5,h188b,h191b,e6,hm,h184,hw1,go_sem,Nat.reduceAdd,reduceIte];rfl);rfl;simp only[go_sem];rfl
    exact fin0 rfl
   ·
    rw[wrongE] at hm
    refine .inr ⟨a,e,?_⟩
    rw[wrongE]
    apply tA
    ·rfl
    ·rfl
    ·exact Tryz.func181
    ·rfl
    ·rfl
    ·simp only[go_sem,Nat.reduceAdd,reduceIte];rfl
    refine tQ ?_;repeat first|with_reducible constructor|(with_reducible apply tG);kernel_rfl;intro _ _;(repeat apply tOp;intro _;simp only[h188,h189,h191,h193,e5,h188b,h191b,e6,hm,h184,hw1,go_sem,Nat.reduceAdd,reduceIte];rfl);rfl;simp only[go_sem];rfl
    with_reducible apply tF
    ·simp only[go_sem];rfl
    ·exact e1
    refine tQ ?_;repeat first|with_reducible constructor|(with_reducible apply tG);kernel_rfl;intro _ _;(repeat apply tOp;intro _;simp only[h188,h189,h191,h193,e5,h188b,h191b,e6,hm,h184,hw1,go_sem,Nat.reduceAdd,reduceIte];rfl);rfl;simp only[go_sem];rfl
    with_reducible apply tF
    ·simp only[go_sem];rfl
    ·exact e2
    refine tQ ?_;repeat first|with_reducible constructor|(with_reducible apply tG);kernel_rfl;intro _ _;(repeat apply tOp;intro _;simp only[h188,h189,h191,h193,e5,h188b,h191b,e6,hm,h184,hw1,go_sem,Nat.reduceAdd,reduceIte];rfl);rfl;simp only[go_sem];rfl
    with_reducible apply tF
    ·simp only[go_sem];rfl
    ·exact e3
    refine tQ ?_;repeat first|with_reducible constructor|(with_reducible apply tG);kernel_rfl;intro _ _;(repeat apply tOp;intro _;simp only[h188,h189,h191,h193,e5,h188b,h191b,e6,hm,h184,hw1,go_sem,Nat.reduceAdd,reduceIte];rfl);rfl;simp only[go_sem];rfl
    with_reducible apply tF
    ·simp only[go_sem];rfl
    ·exact e4
    refine tQ ?_;repeat first|with_reducible constructor|(with_reducible apply tG);kernel_rfl;intro _ _;(repeat apply tOp;intro _;simp only[h188,h189,h191,h193,e5,h188b,h191b,e6,hm,h184,hw1,go_sem,Nat.reduceAdd,reduceIte];rfl);rfl;simp only[go_sem];rfl
    with_reducible apply tT
    ·simp only[go_sem];rfl
    ·rfl
    refine tQ ?_;repeat first|with_reducible constructor|(with_reducible apply tG);kernel_rfl;intro _ _;(repeat apply tOp;intro _;simp only[h188,h189,h191,h193,e5,h188b,h191b,e6,hm,h184,hw1,go_sem,Nat.reduceAdd,reduceIte];rfl);rfl;simp only[go_sem];rfl
    ((with_reducible apply tP);(focus (intro _ _;(repeat (apply tOp;(focus (intro _;simp only[h188,h189,h191,h193,e5,h188b,h191b,e6,hm,h184,hw1,go_sem,Nat.reduceAdd,reduceIte];rfl))));apply tOpP;simp only[h188,h189,h191,h193,e5,h188b,h191b,e6,hm,h184,hw1,go_sem,Nat.reduceAdd,reduceIte];rfl)))
    repeat first|with_reducible apply tsP|with_reducible apply tbP
    rfl
end Go.Proofs.YtkmnkiekmlcfdaaGreatDoor
