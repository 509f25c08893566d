/- Part C09 of the proof of one law of the program. -/
import Derived.Test.YtkmnkiekmlcfdaaGreatDoorC08
import Derived.Test.YtkmnkiekmlcfdaaGreatDoorB01
set_option linter.all false
set_option linter.unusedVariables false
set_option linter.unusedSimpArgs false
set_option linter.unusedSectionVars false
set_option linter.unnecessarySimpa false
namespace Go.Proofs.YtkmnkiekmlcfdaaGreatDoor
open Go.AM
attribute [local go_sem] opsK oneK stepK callK argsA capsA elemsA mvK mv asV asSl AM.asInt AM.asBool asPlace asBox asObj asMap cellsOfPlace writePlace asCells optInt sliceCut drawnPlace opS RS.look RS.put RS.putO alook tlook commit persist constS constT absV absC dstOk noRefTo guardB abin abinT isNilSlice isNilIface nilTest Nat.beq Nat.ble Nat.blt cond_true cond_false Bool.and_true Bool.true_and Bool.and_self Bool.not_true Bool.not_false Bool.or_true Bool.or_false Bool.false_or Bool.true_or Bool.and_false Bool.false_and List.all_nil List.all_cons List.contains List.elem Option.bind_some Option.map_some Option.getD_some cAgg cInt cBool cStr cSlice cFunc cNilf cNilp cNilm cLoc cMap cYld List.take_succ_cons List.take_zero List.drop_zero List.drop_succ_cons Nat.zero_add Cell.get Cell.lok AM.lok lokF noRefS partOf List.map_nil List.map_cons List.length_cons List.length_nil List.getElem?_cons_zero List.getElem?_cons_succ List.nil_append List.cons_append List.append_nil List.getElem?_toArray List.toList_toArray Option.bind_none Option.map_none objs1 objs2 objs3 objs32 oset1 setCells List.take_append_drop List.drop_nil List.take_nil Tryz.underlying0 sz3 ag3 zo3 by3 Tryz.underlying3 sz9 ag9 zo9 by9 Tryz.underlying9 sz31 ag31 zc31 Tryz.underlying31 sz190 ag190 Tryz.underlying190 sz191 ag191 se191 zc191 Tryz.underlying191 sz193 zc193 Tryz.underlying193 pl193 sz197 ag197 zo197 zc197 by197 Tryz.underlying197 pl197 sz207 Tryz.underlying207 sz208 ag208 Tryz.underlying208 sz209 ag209 se209 Tryz.underlying209 Tryz.underlying211 sz223 zo223 zc223 by223 Tryz.underlying223 pl223
section
open Go.AM
attribute [local go_sem] an163 sz4 ag4 zo4 zc4 Tryz.underlying4 Tryz.underlying194 fd193_1 fd197_2 fd197_0
set_option maxRecDepth 100000
set_option maxHeartbeats 4000000
def prK (s0:List UInt8) (L:List AVal) (a e:Int):Prims:=fun f args =>
 bif Nat.beq f 173 then (match args with
  |[.val (.str s)]=>bif s==s0 then some (some (.ret (.tup [.cptr (.agg []),.slice L,.agg [.int .i64 a,.int .i64 e]]))) else some none
  |_=>some none)
 else none
theorem envK {s0:List UInt8} {L:List AVal} {a e:Int} (h0:PureT Tryz.prog 173 [.str s0] [.cptr (.agg []),.slice L,.agg [.int .i64 a,.int .i64 e]]) (B0:Nat):Env Tryz.prog ans B0 (prK s0 L a e):=mkEnv fun f args res h=>by
 unfold prK at h
 cases h1:Nat.beq f 173 with
 |true =>
  obtain rfl:=Nat.eq_of_beq_eq_true h1
  simp only[h1,cond_true] at h
  split at h
  ·rename_i s
   cases hs:s==s0 with
   |false=>rw[hs] at h;cases h
   |true =>
    rw[hs] at h
    cases h
    obtain rfl:s=s0:=by simpa using hs
    exact h0.prim (by simp [lok,lokF])
  ·cases h
 |false=>rw[h1] at h;cases h
theorem pure_at {s:List UInt8} {k:Int} {pr:Prims} (E:∀ B0,Env Tryz.prog ans B0 pr) (h:bodyStep Tryz.prog ans (cfW Tryz.prog ans pr) (lpW Tryz.prog ans pr) 163 [.val (.str s)] ⟨[],0⟩=some (.ret (.val (.int .i64 k)),⟨[],0⟩)):PureOK Tryz.prog 163 [.str s] (.int .i64 k):=PureOK.ofBody E h
theorem k173 {s:List UInt8} {L:List AVal} {a e:Int} {sto:Sto}:cfW Tryz.prog ans (prK s L a e) (.fn 173) [.val (.str s)] sto=some (.ret (.tup [.cptr (.agg []),.slice L,.agg [.int .i64 a,.int .i64 e]]),sto):=by
 refine fnP (r:=.ret (.tup [.cptr (.agg []),.slice L,.agg [.int .i64 a,.int .i64 e]])) ?_ rfl
 simp only[prK,show Nat.beq 173 173=true from rfl,beq_self_eq_true,cond_true]
theorem b163_long (pr:Prims) (s:List UInt8) (h:24 < s.length):bodyStep Tryz.prog ans (cfW Tryz.prog ans pr) (lpW Tryz.prog ans pr) 163 [.val (.str s)] ⟨[],0⟩=some (.ret (.val (.int .i64 0)),⟨[],0⟩):=by
 have hz:decide ((s.length:Int) > 24)=true:=decide_eq_true (by omega)
 apply tBody
 ·exact Tryz.func163
 ·rfl
 ·rfl
 ·simp only[go_sem,Nat.reduceAdd,reduceIte];rfl
 refine tQ ?_;repeat first|with_reducible constructor|(with_reducible apply tG);kernel_rfl;intro _ _;(repeat apply tOp;intro _;simp only[hz,go_sem,Nat.reduceAdd,reduceIte];rfl);rfl;simp only[go_sem];rfl
 with_reducible apply tT
 ·simp only[go_sem];rfl
 ·rfl
 refine tQ ?_;repeat first|with_reducible constructor|(with_reducible apply tG);kernel_rfl;intro _ _;(repeat apply tOp;intro _;simp only[go_sem,Nat.reduceAdd,reduceIte];rfl);rfl;simp only[go_sem];rfl
 exact fin0 rfl
theorem b163_tok (a:Int) (pr:Prims) (s:List UInt8) (h:s.length≤24) (kind num:Int) (p:Nat) (hk:∀ sto,cfW Tryz.prog ans pr (.fn 173) [.val (.str s)] sto=some (.ret (.tup [.cptr (.agg []),.slice [.agg [.int .i64 kind,.int .i64 num,.str s,.int .i64 (p:Nat)]],.agg [.int .i64 a,.int .i64 0]]),sto)):bodyStep Tryz.prog ans (cfW Tryz.prog ans pr) (lpW Tryz.prog ans pr) 163 [.val (.str s)] ⟨[],0⟩=some (.ret (.val (.int .i64 kind)),⟨[],0⟩):=by
 have hz:decide ((s.length:Int) > 24)=false:=decide_eq_false (by omega)
 apply tBody
 ·exact Tryz.func163
 ·rfl
 ·rfl
 ·simp only[go_sem,Nat.reduceAdd,reduceIte];rfl
 refine tQ ?_;repeat first|with_reducible constructor|(with_reducible apply tG);kernel_rfl;intro _ _;(repeat apply tOp;intro _;simp only[hz,go_sem,Nat.reduceAdd,reduceIte];rfl);rfl;simp only[go_sem];rfl
 with_reducible apply tF
 ·simp only[go_sem];rfl
 ·rfl
 refine tQ ?_;repeat first|with_reducible constructor|(with_reducible apply tG);kernel_rfl;intro _ _;(repeat apply tOp;intro _;simp only[hk,beq_self_eq_true,go_sem,Nat.reduceAdd,reduceIte];rfl);rfl;simp only[go_sem];rfl
 with_reducible apply tF
 ·simp only[go_sem];rfl
 ·rfl
 refine tQ ?_;repeat first|with_reducible constructor|(with_reducible apply tG);kernel_rfl;intro _ _;(repeat apply tOp;intro _;simp only[go_sem,Nat.reduceAdd,reduceIte];rfl);rfl;simp only[go_sem];rfl
 exact fin0 rfl
theorem b163_txt (a:Int) (pr:Prims) (s:List UInt8) (h:s.length≤24) (kind num:Int) (p:Nat) (txt:List UInt8) (hb:(txt==s)=false) (hk:∀ sto,cfW Tryz.prog ans pr (.fn 173) [.val (.str s)] sto=some (.ret (.tup [.cptr (.agg []),.slice [.agg [.int .i64 kind,.int .i64 num,.str txt,.int .i64 (p:Nat)]],.agg [.int .i64 a,.int .i64 0]]),sto)):bodyStep Tryz.prog ans (cfW Tryz.prog ans pr) (lpW Tryz.prog ans pr) 163 [.val (.str s)] ⟨[],0⟩=some (.ret (.val (.int .i64 0)),⟨[],0⟩):=by
 have hz:decide ((s.length:Int) > 24)=false:=decide_eq_false (by omega)
 apply tBody
 ·exact Tryz.func163
 ·rfl
 ·rfl
 ·simp only[go_sem,Nat.reduceAdd,reduceIte];rfl
 refine tQ ?_;repeat first|with_reducible constructor|(with_reducible apply tG);kernel_rfl;intro _ _;(repeat apply tOp;intro _;simp only[hz,go_sem,Nat.reduceAdd,reduceIte];rfl);rfl;simp only[go_sem];rfl
 with_reducible apply tF
 ·simp only[go_sem];rfl
 ·rfl
 refine tQ ?_;repeat first|with_reducible constructor|(with_reducible apply tG);kernel_rfl;intro _ _;(repeat apply tOp;intro _;simp only[hk,hb,go_sem,Nat.reduceAdd,reduceIte];rfl);rfl;simp only[go_sem];rfl
 with_reducible apply tT
 ·simp only[go_sem];rfl
 ·rfl
 refine tQ ?_;repeat first|with_reducible constructor|(with_reducible apply tG);kernel_rfl;intro _ _;(repeat apply tOp;intro _;simp only[go_sem,Nat.reduceAdd,reduceIte];rfl);rfl;simp only[go_sem];rfl
 exact fin0 rfl
theorem b163_len (a:Int) (pr:Prims) (s:List UInt8) (h:s.length≤24) (L:List AVal) (h2:((L.length:Int) != 1)=true) (hk:∀ sto,cfW Tryz.prog ans pr (.fn 173) [.val (.str s)] sto=some (.ret (.tup [.cptr (.agg []),.slice L,.agg [.int .i64 a,.int .i64 0]]),sto)):bodyStep Tryz.prog ans (cfW Tryz.prog ans pr) (lpW Tryz.prog ans pr) 163 [.val (.str s)] ⟨[],0⟩=some (.ret (.val (.int .i64 0)),⟨[],0⟩):=by
 have hz:decide ((s.length:Int) > 24)=false:=decide_eq_false (by omega)
 apply tBody
 ·exact Tryz.func163
 ·rfl
 ·rfl
 ·simp only[go_sem,Nat.reduceAdd,reduceIte];rfl
 refine tQ ?_;repeat first|with_reducible constructor|(with_reducible apply tG);kernel_rfl;intro _ _;(repeat apply tOp;intro _;simp only[hz,go_sem,Nat.reduceAdd,reduceIte];rfl);rfl;simp only[go_sem];rfl
 with_reducible apply tF
 ·simp only[go_sem];rfl
 ·rfl
 refine tQ ?_;repeat first|with_reducible constructor|(with_reducible apply tG);kernel_rfl;intro _ _;(repeat apply tOp;intro _;simp only[hk,h2,go_sem,Nat.reduceAdd,reduceIte];rfl);rfl;simp only[go_sem];rfl
 with_reducible apply tT
 ·simp only[go_sem];rfl
 ·rfl
 refine tQ ?_;repeat first|with_reducible constructor|(with_reducible apply tG);kernel_rfl;intro _ _;(repeat apply tOp;intro _;simp only[go_sem,Nat.reduceAdd,reduceIte];rfl);rfl;simp only[go_sem];rfl
 exact fin0 rfl
theorem b163_err (pr:Prims) (s:List UInt8) (h:s.length≤24) (L:List AVal) (a e:Int) (h2:(e != 0)=true) (hk:∀ sto,cfW Tryz.prog ans pr (.fn 173) [.val (.str s)] sto=some (.ret (.tup [.cptr (.agg []),.slice L,.agg [.int .i64 a,.int .i64 e]]),sto)):bodyStep Tryz.prog ans (cfW Tryz.prog ans pr) (lpW Tryz.prog ans pr) 163 [.val (.str s)] ⟨[],0⟩=some (.ret (.val (.int .i64 0)),⟨[],0⟩):=by
 have hz:decide ((s.length:Int) > 24)=false:=decide_eq_false (by omega)
 apply tBody
 ·exact Tryz.func163
 ·rfl
 ·rfl
 ·simp only[go_sem,Nat.reduceAdd,reduceIte];rfl
 refine tQ ?_;repeat first|with_reducible constructor|(with_reducible apply tG);kernel_rfl;intro _ _;(repeat apply tOp;intro _;simp only[hz,go_sem,Nat.reduceAdd,reduceIte];rfl);rfl;simp only[go_sem];rfl
 with_reducible apply tF
 ·simp only[go_sem];rfl
 ·rfl
 refine tQ ?_;repeat first|with_reducible constructor|(with_reducible apply tG);kernel_rfl;intro _ _;(repeat apply tOp;intro _;simp only[hk,h2,go_sem,Nat.reduceAdd,reduceIte];rfl);rfl;simp only[go_sem];rfl
 with_reducible apply tT
 ·simp only[go_sem];rfl
 ·rfl
 refine tQ ?_;repeat first|with_reducible constructor|(with_reducible apply tG);kernel_rfl;intro _ _;(repeat apply tOp;intro _;simp only[go_sem,Nat.reduceAdd,reduceIte];rfl);rfl;simp only[go_sem];rfl
 exact fin0 rfl
theorem b163 (s:List UInt8) (h:s.length≤24) (L:List AVal) (a e:Int) (hL:∀ t∈L,IsTok t):∃ k,bodyStep Tryz.prog ans (cfW Tryz.prog ans (prK s L a e)) (lpW Tryz.prog ans (prK s L a e)) 163 [.val (.str s)] ⟨[],0⟩=some (.ret (.val (.int .i64 k)),⟨[],0⟩):=by
 by_cases he:e=0
 ·subst he
  by_cases h1:L.length=1
  ·obtain ⟨t,rfl⟩:=List.length_eq_one_iff.1 h1
   obtain ⟨kind,num,txt,p,rfl⟩:=hL t (by simp)
   by_cases ht:txt=s
   ·subst ht
    exact ⟨kind,b163_tok a _ txt h kind num p (fun sto=>k173)⟩
   ·exact ⟨0,b163_txt a _ s h kind num p txt (by simpa using ht) (fun sto=>k173)⟩
  ·exact ⟨0,b163_len a _ s h L (by simpa using (by omega:¬ (L.length:Int)=1)) (fun sto=>k173)⟩
 ·exact ⟨0,b163_err _ s h L a e (by simpa using he) (fun sto=>k173)⟩
end
section
open Go.AM
attribute [local go_sem] an173 by1 Tryz.underlying1 Tryz.underlying201
set_option maxRecDepth 100000
set_option maxHeartbeats 4000000
def projL:Option (ARes×Sto)→Option (List AVal)
 |some (.ret _,⟨.box [.own _ L]::_,_⟩)=>some L
 |_=>none
theorem h4good (s:List UInt8) (at_:Nat) (X L:List AVal) (hk:CL (.fn 179) [.val (.yld 5),.val (.loc 4 0)] (stS s [] 0 [])=some (.ret (.tup []),stS s L at_ X)):XK Tryz.prog ans CL LL 173 q4 ⟨[.val (.str s),.val (.loc 3 0),.val (.loc 0 0),.val (.loc 1 0),.dead,.val (.func 179 [.loc 4 0]),.dead],⟨[.box [.own 4 []],zeroW,.map wordM,.box [.val (.str s),.val (.int .i64 0),.val (.amap 2),.own 2 []],.box [.val (.loc 3 0)]],0⟩⟩ rec_ =
   some (.norm,⟨[.val (.str s),.val (.loc 3 0),.val (.loc 0 0),.val (.loc 1 0),.dead,.val (.func 179 [.loc 4 0]),.dead],⟨[.box [.own 4 L],zeroW,.map wordM,.box [.val (.str s),.val (.int .i64 (at_:Nat)),.val (.amap 2),.own 2 X],.box [.val (.loc 3 0)]],0⟩⟩):=by
 show XK _ _ _ _ _ (.rangeFunc _ _ _ _) _ _=_
 apply tGn
 ·simp only[go_sem,Nat.reduceAdd,reduceIte];rfl
 ·exact hk
 ·rfl
 ·rfl
 rfl
theorem exact_at (s:List UInt8) (hs:s.length < 900) (n:Nat) (t:AVal) (h:projL ((run Tryz.prog ans prL n).1 (.fn 179) [.val (.yld 5),.val (.loc 4 0)] (stS s [] 0 []))=some [t]) :
  PureT Tryz.prog 173 [.str s] [.cptr (.agg []),.slice [t],.agg [.int .i64 0,.int .i64 0]]:=by
 cases hr:(run Tryz.prog ans prL n).1 (.fn 179) [.val (.yld 5),.val (.loc 4 0)] (stS s [] 0 []) with
 |none=>rw[hr] at h;cases h
 |some r =>
  have hc:CL (.fn 179) [.val (.yld 5),.val (.loc 4 0)] (stS s [] 0 [])=some r:=cfW_some.2 ⟨n,hr⟩
  rw[hr] at h
  rcases c179 s hs with ⟨at',X',L',hk,_⟩|⟨at',X',L',a,e,hk⟩
  ·have:r=(.ret (.tup []),stS s L' at' X'):=Option.some.inj (hc.symm.trans hk)
   subst this
   have hL:L'=[t]:=Option.some.inj h
   subst hL
   exact good173 s at' X' [t] (h4good s at' X' [t] hk)
  ·have:r=(.pan (wrongE a e),stS s L' at' X'):=Option.some.inj (hc.symm.trans hk)
   subst this
   cases h
theorem one_at (s:List UInt8) (hs:s.length≤24) (n p:Nat) (k num:Int) (h:projL ((run Tryz.prog ans prL n).1 (.fn 179) [.val (.yld 5),.val (.loc 4 0)] (stS s [] 0 []))=some [tokE k num s p]):PureOK Tryz.prog 163 [.str s] (.int .i64 k) :=
 pure_at (envK (exact_at s (by omega) n _ h)) (b163_tok 0 _ s hs k num p (fun sto=>k173))
theorem o1:PureOK Tryz.prog 163 [.str [76,105,115,116]] (.int .i64 (Lex.kindOf [76,105,115,116])):=one_at [76,105,115,116] (by simp) 60 0 _ 0 (by kernel_rfl)
theorem o2:PureOK Tryz.prog 163 [.str [39,97]] (.int .i64 (Lex.kindOf [39,97])):=one_at [39,97] (by simp) 60 0 _ 0 (by kernel_rfl)
theorem o3:PureOK Tryz.prog 163 [.str [67,111,110,115]] (.int .i64 (Lex.kindOf [67,111,110,115])):=one_at [67,111,110,115] (by simp) 60 0 _ 0 (by kernel_rfl)
theorem o4:PureOK Tryz.prog 163 [.str [73,110,116]] (.int .i64 (Lex.kindOf [73,110,116])):=one_at [73,110,116] (by simp) 60 0 _ 0 (by kernel_rfl)
theorem o5:PureOK Tryz.prog 163 [.str [78,105,108]] (.int .i64 (Lex.kindOf [78,105,108])):=one_at [78,105,108] (by simp) 60 0 _ 0 (by kernel_rfl)
def tabK:List (List UInt8):=[[76,105,115,116],[39,97],[67,111,110,115],[73,110,116],[78,105,108]]
theorem tab_ok (s:List UInt8) (h:tabK.contains s=true):PureOK Tryz.prog 163 [.str s] (.int .i64 (Lex.kindOf s)):=by
 have:s∈tabK:=by simpa using h
 simp only[tabK,List.mem_cons,List.not_mem_nil,or_false] at this
 rcases this with rfl|rfl|rfl|rfl|rfl
 ·exact o1
 ·exact o2
 ·exact o3
 ·exact o4
 ·exact o5
theorem ex163 (s:List UInt8):∃ k:Int,PureOK Tryz.prog 163 [.str s] (.int .i64 k):=by
 by_cases h:24 < s.length
 ·exact ⟨0,pure_at env0 (b163_long pr0 s h)⟩
 ·rcases h4 s (by omega) with ⟨at',X',L',hk,_,hL⟩|⟨at',X',L',a,e,hk⟩
  ·obtain ⟨k,hb⟩:=b163 s (by omega) L' 0 0 hL
   exact ⟨k,pure_at (envK (good173 s at' X' L' hk)) hb⟩
  ·obtain ⟨k,hb⟩:=b163 s (by omega) [] a e (fun t ht=>by simp at ht)
   exact ⟨k,pure_at (envK (pan173 s at' X' L' a e hk)) hb⟩
noncomputable def kdF (s:List UInt8):Int:=bif tabK.contains s then Lex.kindOf s else Classical.choose (ex163 s)
theorem p163 (s:List UInt8):PureOK Tryz.prog 163 [.str s] (.int .i64 (kdF s)):=by
 unfold kdF
 cases h:tabK.contains s with
 |true=>exact tab_ok s h
 |false=>exact Classical.choose_spec (ex163 s)
end
end Go.Proofs.YtkmnkiekmlcfdaaGreatDoor
