/- Part C01 of the proof of one law of the program. -/
import Derived.Test.YtkmnkiekmlcfdaaGreatDoorB07
set_option linter.all false
section
namespace Go.Proofs.YtkmnkiekmlcfdaaGreatDoor
open Go.AM Go.RowKit
set_option maxRecDepth 100000
def prL:Prims:=fun f args =>
 bif Nat.beq f 196 then (match args with
  |[.val (.str s),.val (.int .u8 c)]=>bif decide (0≤c)&&decide (c < 256) then some (some (.ret (.val (.int .i64 (Lib.indexByte s c.toNat.toUInt8))))) else some none
  |_=>some none)
 else bif Nat.beq f 197 then (match args with
  |[.val (.str s),.val (.str p)]=>some (some (.ret (.val (.bool (Lib.hasPrefix s p)))))
  |_=>some none)
 else bif Nat.beq f 198 then (match args with
  |[.val (.str s)]=>bif Nat.ble s.length 1000 then some (some (.ret (.tup [.int .i64 (numV s),.int .i64 (numE s)]))) else some none
  |_=>some none)
 else none
noncomputable abbrev CL:Oracle:=cfW Tryz.prog ans prL
noncomputable abbrev LL:LpOracle:=lpW Tryz.prog ans prL
theorem envL (B0:Nat):Env Tryz.prog ans B0 prL:=mkEnv fun f args res h=>by
 unfold prL at h;cases h1:Nat.beq f 196 with
 |true =>
  obtain rfl:=Nat.eq_of_beq_eq_true h1;simp only[h1,cond_true] at h
  split at h
  ·rename_i s c
   cases hc:decide (0≤c)&&decide (c < 256) with
   |false=>rw[hc] at h;cases h
   |true =>
    rw[hc] at h;cases h;simp only[Bool.and_eq_true,decide_eq_true_eq] at hc
    have he:((c.toNat.toUInt8.toNat:Nat):Int)=c:=by
     have:c.toNat < 256:=by omega
     simp [Nat.toUInt8,Nat.mod_eq_of_lt this];omega
    have:=(p196 s c.toNat.toUInt8).prim (ans:=ans) (B0:=B0) (by simp [lok,lokF])
    rw[he] at this;exact this
  ·cases h
 |false =>
  simp only[h1,cond_false] at h;cases h2:Nat.beq f 197 with
  |true =>
   obtain rfl:=Nat.eq_of_beq_eq_true h2;simp only[h2,cond_true] at h
   split at h
   ·rename_i s p
    cases h;exact (p197 s p).prim (by simp [lok,lokF])
   ·cases h
  |false =>
   simp only[h2,cond_false] at h;cases h3:Nat.beq f 198 with
   |true =>
    obtain rfl:=Nat.eq_of_beq_eq_true h3;simp only[h3,cond_true] at h
    split at h
    ·rename_i s
     cases hs:Nat.ble s.length 1000 with
     |false=>rw[hs] at h;cases h
     |true =>
      rw[hs] at h;cases h;exact (p198 s (by have:=Nat.le_of_ble_eq_true hs;omega)).prim (by simp [lok,lokF])
    ·cases h
   |false=>rw[h3] at h;cases h
end Go.Proofs.YtkmnkiekmlcfdaaGreatDoor
end
section
namespace Go.Proofs.YtkmnkiekmlcfdaaGreatDoor
open Go.AM
attribute [go_sem] opsK oneK guardK stepK callK argsA capsA elemsA mvK mv asV asSl AM.asInt AM.asBool asPlace asBox asObj asMap cellsOfPlace writePlace asCells boxCells optInt sliceCut drawnPlace opS RS.look RS.put RS.putO alook tlook commit persist constS constT absV absC dstOk noRefTo guardB abin abinT isNilSlice isNilIface nilTest Nat.beq Nat.ble Nat.blt cond_true cond_false Bool.and_true Bool.true_and Bool.and_self Bool.not_true Bool.not_false Bool.or_true Bool.or_false Bool.false_or Bool.true_or Bool.and_false Bool.false_and List.all_nil List.all_cons List.contains List.elem Option.bind_some Option.map_some Option.getD_some cAgg cInt cBool cStr cSlice cFunc cNilf cNilp cNilm cLoc cMap cYld List.take_succ_cons List.take_zero List.drop_zero List.drop_succ_cons Nat.zero_add Cell.get Cell.lok AM.lok lokF noRefS partOf List.map_nil List.map_cons List.length_cons List.length_nil List.getElem?_cons_zero List.getElem?_cons_succ List.nil_append List.cons_append List.append_nil List.getElem?_toArray List.toList_toArray Option.bind_none Option.map_none objs1 objs2 objs3 objs32 oset1 setCells List.take_append_drop List.drop_nil List.take_nil an184 an185 an186 an188 an189 an191 an193 an195 Tryz.underlying0 sz3 ag3 zo3 by3 Tryz.underlying3 sz4 ag4 zo4 zc4 Tryz.underlying4 Tryz.underlying5 sz9 ag9 zo9 by9 Tryz.underlying9 Tryz.underlying162 sz207 Tryz.underlying207 Tryz.underlying228 fd207_1 fd207_0 an192 an194 sz190 ag190 Tryz.underlying190 sz197 ag197 zo197 zc197 by197 Tryz.underlying197 pl197 sz208 ag208 Tryz.underlying208 sz209 ag209 se209 Tryz.underlying209 Tryz.underlying211 sz223 zo223 zc223 by223 Tryz.underlying223 pl223 Tryz.underlying231 fd211_0 fd211_1 fd197_2 fd197_0 Tryz.underlying20 sz31 ag31 zc31 Tryz.underlying31 sz193 zc193 Tryz.underlying193 pl193 an190 Tryz.underlying81 an181 an187 an180 fd211_2 an173 by1 Tryz.underlying1 sz191 ag191 se191 zc191 Tryz.underlying191 Tryz.underlying201 an179 Tryz.underlying213 an163 Tryz.underlying194 fd193_1
set_option maxRecDepth 100000
theorem zL (n:Nat):decide (0≤((n:Nat):Int))=true:=by simp
def digI (c:Int):Bool:=decide (48≤c)&&decide (c≤57)
def smallI (c:Int):Bool:=decide (97≤c)&&decide (c≤122)
def greatI (c:Int):Bool:=decide (65≤c)&&decide (c≤90)
def partI (c:Int):Bool:=smallI c||greatI c||digI c||c==95
def spaceI (c:Int):Bool:=c==32||c==9||c==10||c==13
theorem c189 (c:Int) (sto:Sto):CL (.fn 189) [.val (.int .u8 c)] sto=some (.ret (.val (.bool (digI c))),sto):=by
 unfold digI;cases h:decide (48≤c)
 ·
  apply tA;rfl;rfl;exact Tryz.func189;rfl;rfl;simp only[go_sem];rfl;refine tQ ?_;repeat first|with_reducible constructor|(with_reducible apply tG);kernel_rfl;intro _ _;(repeat apply tOp;intro _;simp only[h,go_sem];rfl);rfl;simp only[go_sem];rfl
  exact fin0 rfl
 ·
  apply tA;rfl;rfl;exact Tryz.func189;rfl;rfl;simp only[go_sem];rfl;refine tQ ?_;repeat first|with_reducible constructor|(with_reducible apply tG);kernel_rfl;intro _ _;(repeat apply tOp;intro _;simp only[h,go_sem];rfl);rfl;simp only[go_sem];rfl
  exact fin0 rfl
theorem c191 (c:Int) (sto:Sto):CL (.fn 191) [.val (.int .u8 c)] sto=some (.ret (.val (.bool (smallI c))),sto):=by
 unfold smallI;cases h:decide (97≤c)
 ·
  apply tA;rfl;rfl;exact Tryz.func191;rfl;rfl;simp only[go_sem];rfl;refine tQ ?_;repeat first|with_reducible constructor|(with_reducible apply tG);kernel_rfl;intro _ _;(repeat apply tOp;intro _;simp only[h,go_sem];rfl);rfl;simp only[go_sem];rfl
  exact fin0 rfl
 ·
  apply tA;rfl;rfl;exact Tryz.func191;rfl;rfl;simp only[go_sem];rfl;refine tQ ?_;repeat first|with_reducible constructor|(with_reducible apply tG);kernel_rfl;intro _ _;(repeat apply tOp;intro _;simp only[h,go_sem];rfl);rfl;simp only[go_sem];rfl
  exact fin0 rfl
theorem c193 (c:Int) (sto:Sto):CL (.fn 193) [.val (.int .u8 c)] sto=some (.ret (.val (.bool (greatI c))),sto):=by
 unfold greatI;cases h:decide (65≤c)
 ·
  apply tA;rfl;rfl;exact Tryz.func193;rfl;rfl;simp only[go_sem];rfl;refine tQ ?_;repeat first|with_reducible constructor|(with_reducible apply tG);kernel_rfl;intro _ _;(repeat apply tOp;intro _;simp only[h,go_sem];rfl);rfl;simp only[go_sem];rfl
  exact fin0 rfl
 ·
  apply tA;rfl;rfl;exact Tryz.func193;rfl;rfl;simp only[go_sem];rfl;refine tQ ?_;repeat first|with_reducible constructor|(with_reducible apply tG);kernel_rfl;intro _ _;(repeat apply tOp;intro _;simp only[h,go_sem];rfl);rfl;simp only[go_sem];rfl
  exact fin0 rfl
theorem c195 (c:Int) (sto:Sto):CL (.fn 195) [.val (.int .u8 c)] sto=some (.ret (.val (.bool (partI c))),sto):=by
 have h1:=c191 c;have h2:=c193 c;have h3:=c189 c;unfold partI;cases e1:smallI c
 ·cases e2:greatI c
  ·cases e3:digI c
   ·
    apply tA;rfl;rfl;exact Tryz.func195;rfl;rfl;simp only[go_sem];rfl;refine tQ ?_;repeat first|with_reducible constructor|(with_reducible apply tG);kernel_rfl;intro _ _;(repeat apply tOp;intro _;simp only[h1,h2,h3,e1,e2,e3,go_sem];rfl);rfl;simp only[go_sem];rfl
    exact fin0 rfl
   ·
    apply tA;rfl;rfl;exact Tryz.func195;rfl;rfl;simp only[go_sem];rfl;refine tQ ?_;repeat first|with_reducible constructor|(with_reducible apply tG);kernel_rfl;intro _ _;(repeat apply tOp;intro _;simp only[h1,h2,h3,e1,e2,e3,go_sem];rfl);rfl;simp only[go_sem];rfl
    exact fin0 rfl
  ·
   apply tA;rfl;rfl;exact Tryz.func195;rfl;rfl;simp only[go_sem];rfl;refine tQ ?_;repeat first|with_reducible constructor|(with_reducible apply tG);kernel_rfl;intro _ _;(repeat apply tOp;intro _;simp only[h1,h2,h3,e1,e2,go_sem];rfl);rfl;simp only[go_sem];rfl
   exact fin0 rfl
 ·
  apply tA;rfl;rfl;exact Tryz.func195;rfl;rfl;simp only[go_sem];rfl;refine tQ ?_;repeat first|with_reducible constructor|(with_reducible apply tG);kernel_rfl;intro _ _;(repeat apply tOp;intro _;simp only[h1,h2,h3,e1,go_sem];rfl);rfl;simp only[go_sem];rfl
  exact fin0 rfl
theorem c185 (c:Int) (sto:Sto):CL (.fn 185) [.val (.int .u8 c)] sto=some (.ret (.val (.bool (spaceI c))),sto):=by
 unfold spaceI;cases e1:c==32
 ·cases e2:c==9
  ·cases e3:c==10
   ·
    apply tA;rfl;rfl;exact Tryz.func185;rfl;rfl;simp only[go_sem];rfl;refine tQ ?_;repeat first|with_reducible constructor|(with_reducible apply tG);kernel_rfl;intro _ _;(repeat apply tOp;intro _;simp only[e1,e2,e3,go_sem];rfl);rfl;simp only[go_sem];rfl
    exact fin0 rfl
   ·
    apply tA;rfl;rfl;exact Tryz.func185;rfl;rfl;simp only[go_sem];rfl;refine tQ ?_;repeat first|with_reducible constructor|(with_reducible apply tG);kernel_rfl;intro _ _;(repeat apply tOp;intro _;simp only[e1,e2,e3,go_sem];rfl);rfl;simp only[go_sem];rfl
    exact fin0 rfl
  ·
   apply tA;rfl;rfl;exact Tryz.func185;rfl;rfl;simp only[go_sem];rfl;refine tQ ?_;repeat first|with_reducible constructor|(with_reducible apply tG);kernel_rfl;intro _ _;(repeat apply tOp;intro _;simp only[e1,e2,go_sem];rfl);rfl;simp only[go_sem];rfl
   exact fin0 rfl
 ·
  apply tA;rfl;rfl;exact Tryz.func185;rfl;rfl;simp only[go_sem];rfl;refine tQ ?_;repeat first|with_reducible constructor|(with_reducible apply tG);kernel_rfl;intro _ _;(repeat apply tOp;intro _;simp only[e1,go_sem];rfl);rfl;simp only[go_sem];rfl
  exact fin0 rfl
def sb (s:List UInt8) (at_:Nat) (c3 c4:Cell):AObj:=.box [.val (.str s),.val (.int .i64 (at_:Nat)),c3,c4]
theorem sbE (s:List UInt8) (at_:Nat) (c3 c4:Cell):sb s at_ c3 c4=.box [.val (.str s),.val (.int .i64 (at_:Nat)),c3,c4]:=rfl
def peekN (s:List UInt8) (i:Nat):Int:=match s[i]? with
 |some b=>(b.toNat:Nat)
 |none=>0
theorem c188 {A B C:AObj} {rest:List AObj} {lo:Nat} {c3 c4:Cell} (s:List UInt8) (at_ k:Nat) (K:Int) (hK:K=(k:Nat)) (h1:at_+k < 1000000) :
  CL (.fn 188) [.val (.loc 3 0),.val (.int .i64 K)] ⟨A::B::C::sb s at_ c3 c4::rest,lo⟩=some (.ret (.val (.int .u8 (peekN s (at_+k)))),⟨A::B::C::sb s at_ c3 c4::rest,lo⟩):=by
 have hw:IntKind.i64.wrap ((at_:Int)+K)=((at_+k:Nat):Int):=by rw[wrapOk (by omega) (by omega),hK];omega
 have hz:=zL (at_+k);rw[sbE];unfold peekN;cases hs:s[at_+k]? with
 |none =>
  have hlt:decide (((at_+k:Nat):Int)≥(s.length:Nat))=true:=by
   have:=List.getElem?_eq_none_iff.1 hs
   rw[decide_eq_true_eq];omega
  apply tA;rfl;rfl;exact Tryz.func188;rfl;rfl;simp only[go_sem];rfl;refine tQ ?_;repeat first|with_reducible constructor|(with_reducible apply tG);kernel_rfl;intro _ _;(repeat apply tOp;intro _;simp only[hw,go_sem];rfl);rfl;simp only[go_sem];rfl|(with_reducible apply t1);rfl;trivial
  exact fin0 rfl
 |some b =>
  have hlt:decide (((at_+k:Nat):Int)≥(s.length:Nat))=false:=by
   have:=(List.getElem?_eq_some_iff.1 hs).1
   rw[decide_eq_false_iff_not];omega
  have hs':s[((at_+k:Nat):Int).toNat]?=some b:=hs;apply tA;rfl;rfl;exact Tryz.func188;rfl;rfl;simp only[go_sem];rfl;refine tQ ?_;repeat first|with_reducible constructor|(with_reducible apply tG);kernel_rfl;intro _ _;(repeat apply tOp;intro _;simp only[hw,hz,hs',go_sem];rfl);rfl;simp only[go_sem];rfl|(with_reducible apply t0);rfl;trivial
  exact fin0 rfl
theorem c186 {A B C:AObj} {rest:List AObj} {lo:Nat} {c3 c4:Cell} (s p:List UInt8) (at_:Nat) (h1:at_≤s.length) :
  CL (.fn 186) [.val (.loc 3 0),.val (.str p)] ⟨A::B::C::sb s at_ c3 c4::rest,lo⟩=some (.ret (.val (.bool (Lib.hasPrefix (s.drop at_) p))),⟨A::B::C::sb s at_ c3 c4::rest,lo⟩):=by
 have hz:=zL at_;have hle:decide (((at_:Nat):Int)≤(s.length:Nat))=true:=by rw[decide_eq_true_eq];omega
 have hle2:decide (((s.length:Nat):Int)≤(s.length:Nat))=true:=by rw[decide_eq_true_eq];omega
 have hp:∀ t sto,CL (.fn 197) [.val (.str t),.val (.str p)] sto=some (.ret (.val (.bool (Lib.hasPrefix t p))),sto):=fun t sto=>fnP (r:=.ret (.val (.bool (Lib.hasPrefix t p)))) rfl rfl
 rw[sbE];apply tA;rfl;rfl;exact Tryz.func186;rfl;rfl;simp only[go_sem];rfl;refine tQ ?_;repeat first|with_reducible constructor|(with_reducible apply tG);kernel_rfl;intro _ _;(repeat apply tOp;intro _;simp only[hz,hle,hle2,hp,Int.toNat_natCast,List.take_length,go_sem];rfl);rfl;simp only[go_sem];rfl
 exact fin0 rfl
def runN (p:Int→Bool) (s:List UInt8) (i:Nat):Nat:=((s.drop i).takeWhile fun b=>p (b.toNat:Nat)).length
theorem loop184 {A B C:AObj} {rest:List AObj} {lo:Nat} {c3 c4:Cell} (g:FuncId) (hg:(ans g).ownArg=[]) (p:Int→Bool) (hp:∀ c sto,CL (.fn g) [.val (.int .u8 c)] sto=some (.ret (.val (.bool (p c))),sto)) (s:List UInt8) (at_ k:Nat) (K:Int) (hK:K=(k:Nat)) (ys:List UInt8):∀ (n:Nat),s.drop (at_+k+n)=ys→at_+k+n+ys.length < 1000000 →
  ∃ s0 s1 s2 s6 s38,LL 184 (loopOf Tryz.f184 0) ⟨[.val (.loc 3 0),.val (.int .i64 K),.val (.func g []),.dead,.val (.int .i64 (n:Nat)),.dead],⟨A::B::C::sb s at_ c3 c4::rest,lo⟩⟩ =
   some (.exit 0,⟨[s0,s1,s2,s6,.val (.int .i64 ((n+(ys.takeWhile fun b=>p (b.toNat:Nat)).length:Nat):Int)),s38],⟨A::B::C::sb s at_ c3 c4::rest,lo⟩⟩):=by
 rw[sbE];induction ys with
 |nil =>
  intro n hd hb;have hl:=List.drop_eq_nil_iff.1 hd;have hw:IntKind.i64.wrap ((at_:Int)+K)=((at_+k:Nat):Int):=by rw[wrapOk (by omega) (by omega),hK];omega
  have hw2:IntKind.i64.wrap (((at_+k:Nat):Int)+(n:Nat))=((at_+k+n:Nat):Int):=by rw[wrapOk (by omega) (by omega)];omega
  have hlt:decide (((at_+k+n:Nat):Int) < (s.length:Nat))=false:=by rw[decide_eq_false_iff_not];omega
  iterate 5 apply Exists.intro
  refine tJ rfl ?_;repeat first|with_reducible constructor|(with_reducible apply tG);kernel_rfl;intro _ _;(repeat apply tOp;intro _;simp only[hw,hw2,hlt,go_sem];rfl);rfl;simp only[go_sem];rfl|(with_reducible apply t0);rfl;trivial
  exact tlX
 |cons y ys ih =>
  intro n hd hb
  have hlen:at_+k+n < s.length:=by
   rcases Nat.lt_or_ge (at_+k+n) s.length with h|h
   ·exact h
   ·rw[List.drop_eq_nil_of_le h] at hd;cases hd
  have hget:s[((at_+k+n:Nat):Int).toNat]?=some y:=by
   show s[at_+k+n]?=some y;rw[List.drop_eq_getElem_cons hlen] at hd;rw[List.getElem?_eq_getElem hlen];exact congrArg some (List.cons.inj hd).1
  have hd':s.drop (at_+k+(n+1))=ys:=by
   rw[List.drop_eq_getElem_cons hlen] at hd;exact (List.cons.inj hd).2
  simp only[List.length_cons] at hb;have hw:IntKind.i64.wrap ((at_:Int)+K)=((at_+k:Nat):Int):=by rw[wrapOk (by omega) (by omega),hK];omega
  have hw2:IntKind.i64.wrap (((at_+k:Nat):Int)+(n:Nat))=((at_+k+n:Nat):Int):=by rw[wrapOk (by omega) (by omega)];omega
  have hw3:IntKind.i64.wrap ((n:Int)+1)=((n+1:Nat):Int):=by rw[wrapOk (by omega) (by omega)];omega
  have hlt:decide (((at_+k+n:Nat):Int) < (s.length:Nat))=true:=by rw[decide_eq_true_eq];omega
  have hz:=zL (at_+k+n);cases hq:p (y.toNat:Nat) with
  |false =>
   simp only[List.takeWhile_cons,hq];iterate 5 apply Exists.intro
   refine tJ rfl ?_;repeat first|with_reducible constructor|(with_reducible apply tG);kernel_rfl;intro _ _;(repeat apply tOp;intro _;simp only[hw,hw2,hlt,hz,hget,hg,hp,hq,go_sem];rfl);rfl;simp only[go_sem];rfl|(with_reducible apply t0);rfl;trivial
   exact tlX
  |true =>
   obtain ⟨s0,s1,s2,s6,s38,h⟩:=ih (n+1) hd' (by omega);simp only[List.takeWhile_cons,hq,if_true,List.length_cons];rw[show n+((ys.takeWhile fun b=>p (b.toNat:Nat)).length+1)=n+1+(ys.takeWhile fun b=>p (b.toNat:Nat)).length by omega];refine ⟨s0,s1,s2,s6,s38,?_⟩;refine tJ rfl ?_;repeat first|with_reducible constructor|(with_reducible apply tG);kernel_rfl;intro _ _;(repeat apply tOp;intro _;simp only[hw,hw2,hlt,hz,hget,hg,hp,hq,hw3,go_sem];rfl);rfl;simp only[go_sem];rfl|(with_reducible apply t1);rfl;trivial
   exact h
theorem c184 {A B C:AObj} {rest:List AObj} {lo:Nat} {c3 c4:Cell} (g:FuncId) (hg:(ans g).ownArg=[]) (p:Int→Bool) (hp:∀ c sto,CL (.fn g) [.val (.int .u8 c)] sto=some (.ret (.val (.bool (p c))),sto)) (s:List UInt8) (at_ k:Nat) (K:Int) (hK:K=(k:Nat)) (hb:at_+k+s.length < 1000000) :
  CL (.fn 184) [.val (.loc 3 0),.val (.int .i64 K),.val (.func g [])] ⟨A::B::C::sb s at_ c3 c4::rest,lo⟩=some (.ret (.val (.int .i64 ((runN p s (at_+k):Nat):Int))),⟨A::B::C::sb s at_ c3 c4::rest,lo⟩):=by
 obtain ⟨s0,s1,s2,s6,s38,h⟩:=loop184 (A:=A) (B:=B) (C:=C) (rest:=rest) (lo:=lo) (c3:=c3) (c4:=c4) g hg p hp s at_ k K hK _ 0 rfl (by rw[List.length_drop];omega);simp only[Nat.add_zero,Nat.zero_add] at h;have e0:((0:Nat):Int)=0:=rfl;rw[e0] at h;unfold runN;apply tA;rfl;rfl;exact Tryz.func184;rfl;rfl;simp only[go_sem];rfl;refine tQ ?_;repeat first|with_reducible constructor|(with_reducible apply tG);kernel_rfl;intro _ _;(repeat apply tOp;intro _;simp only[go_sem];rfl);rfl;simp only[go_sem];rfl|(with_reducible apply tM);assumption
 exact fin0 rfl
end Go.Proofs.YtkmnkiekmlcfdaaGreatDoor
end
section
namespace Go.Proofs.YtkmnkiekmlcfdaaGreatDoor
open Go.AM
set_option maxRecDepth 100000
set_option maxHeartbeats 4000000
def tokE (kind num:Int) (txt:List UInt8) (at_:Nat):AVal:=.agg [.int .i64 kind,.int .i64 num,.str txt,.int .i64 (at_:Nat)]
def wrongE (a e:Int):AVal:=.iface 193 (.agg [.int .i64 a,.int .i64 e])
theorem c194 {A B C:AObj} {rest:List AObj} {lo:Nat} {c3 c4:Cell} (s:List UInt8) (at_ n:Nat) (kind K:Int) (hK:K=(n:Nat)) (h1:at_+n≤s.length) (h2:s.length < 1000000) :
  CL (.fn 194) [.val (.loc 3 0),.val (.int .i64 kind),.val (.int .i64 K)] ⟨A::B::C::sb s at_ c3 c4::rest,lo⟩ =
   bif decide (K > 24) then some (.pan (wrongE at_ 2),⟨A::B::C::sb s at_ c3 c4::rest,lo⟩) else some (.ret (.val (tokE kind 0 ((s.take (at_+n)).drop at_) at_)),⟨A::B::C::sb s at_ c3 c4::rest,lo⟩):=by
 have hw:IntKind.i64.wrap ((at_:Int)+K)=((at_+n:Nat):Int):=by rw[wrapOk (by omega) (by omega),hK];omega
 have hz:=zL at_;have hle:decide (((at_:Nat):Int)≤((at_+n:Nat):Int))=true:=by rw[decide_eq_true_eq];omega
 have hle2:decide (((at_+n:Nat):Int)≤(s.length:Nat))=true:=by rw[decide_eq_true_eq];omega
 rw[sbE];cases hc:decide (K > 24) with
 |true =>
  simp only[cond_true];apply tA;rfl;rfl;exact Tryz.func194;rfl;rfl;simp only[go_sem];rfl;refine tQ ?_;repeat first|with_reducible constructor|(with_reducible apply tG);kernel_rfl;intro _ _;(repeat apply tOp;intro _;simp only[go_sem];rfl);rfl;simp only[go_sem];rfl|(with_reducible apply t1);rfl;trivial
  ((with_reducible apply tP);(focus (intro _ _;(repeat (apply tOp;(focus (intro _;simp only[go_sem];rfl))));apply tOpP;simp only[go_sem];rfl)))
  repeat first|with_reducible apply tsP|with_reducible apply tbP
  rfl
 |false =>
  simp only[cond_false];apply tA;rfl;rfl;exact Tryz.func194;rfl;rfl;simp only[go_sem];rfl;refine tQ ?_;repeat first|with_reducible constructor|(with_reducible apply tG);kernel_rfl;intro _ _;(repeat apply tOp;intro _;simp only[hw,hz,hle,hle2,Int.toNat_natCast,go_sem];rfl);rfl;simp only[go_sem];rfl|(with_reducible apply t0);rfl;trivial
  exact fin0 rfl
def TokOr (x:Option (ARes×Sto)) (s:List UInt8) (at_:Nat) (sto:Sto) (Q:Int→List UInt8→Prop) (R:Prop):Prop :=
 (∃ kind num txt,x=some (.ret (.val (tokE kind num txt at_)),sto)∧0 < txt.length∧at_+txt.length≤s.length∧Q kind txt)∨∃ a e,x=some (.pan (wrongE a e),sto)∧R
theorem made_or {A B C:AObj} {rest:List AObj} {lo:Nat} {c3 c4:Cell} (s:List UInt8) (at_ n:Nat) (kind K:Int) (hK:K=(n:Nat)) (h1:at_+n≤s.length) (h2:s.length < 1000000) (h3:0 < n) :
  TokOr (CL (.fn 194) [.val (.loc 3 0),.val (.int .i64 kind),.val (.int .i64 K)] ⟨A::B::C::sb s at_ c3 c4::rest,lo⟩) s at_ ⟨A::B::C::sb s at_ c3 c4::rest,lo⟩ (fun kd txt=>kd=kind∧txt=(s.take (at_+n)).drop at_) (24 < n):=by
 rw[c194 s at_ n kind K hK h1 h2];cases hc:decide (K > 24) with
 |true=>exact .inr ⟨_,_,rfl,by have:=of_decide_eq_true hc;omega⟩
 |false=>exact .inl ⟨_,_,_,rfl,by rw[List.length_drop,List.length_take];omega,by rw[List.length_drop,List.length_take];omega,rfl,rfl⟩
def wordL:List (List UInt8):=[[97,110,100],[99,97,115,101],[100,97,116,97],[101,108,115,101],[101,110,100],[102,110],[102,117,110],[105,102],[105,110],[105,110,112,117,116],[108,101,116],[111,102],[111,117,116,112,117,116],[116,104,101,110],[118,97,108]]
def wordM:List (AVal×AVal):=wordL.map fun w=>(.str w,.int .i64 5)
theorem find_words (t:List UInt8):findK (.str t) wordM=some (if wordL.contains t then some (.int .i64 5) else none):=by
 unfold wordM;induction wordL with
 |nil=>rfl
 |cons w l ih =>
  simp only[List.map_cons,findK,keyEq,Option.bind_some,List.contains_cons];cases h:(t==w) with
  |true=>rfl
  |false=>rw[Bool.false_or];exact ih
theorem runN_le (p:Int→Bool) (s:List UInt8) (i:Nat):i+runN p s i≤max i s.length:=by
 have:((s.drop i).takeWhile fun b=>p (b.toNat:Nat)).length≤(s.drop i).length:=(List.takeWhile_prefix _).length_le
 unfold runN;rw[List.length_drop] at this;omega
theorem runN_pos (p:Int→Bool) (s:List UInt8) (i:Nat) (h:i < s.length) (hp:p (peekN s i)=true):0 < runN p s i:=by
 unfold runN;rw[List.drop_eq_getElem_cons h,List.takeWhile_cons]
 have:peekN s i=(s[i].toNat:Nat):=by unfold peekN;rw[List.getElem?_eq_getElem h]
 rw[←this,hp];simp
theorem peekN_pos (s:List UInt8) (i:Nat) (h:peekN s i≠0):i < s.length:=by
 rcases Nat.lt_or_ge i s.length with h1|h1
 ·exact h1
 ·exfalso;apply h;unfold peekN;rw[List.getElem?_eq_none h1]
def nameN (s:List UInt8) (at_:Nat):Nat :=
 let n:=runN partI s at_
 bif peekN s (at_+n)==39 then (let d:=runN digI s (at_+(n+1));bif decide ((d:Int) > 0) then n+(1+d) else n) else n
def nameT (s:List UInt8) (at_:Nat):List UInt8:=(s.take (at_+nameN s at_)).drop at_
theorem c192 {A B:AObj} {rest:List AObj} {lo:Nat} {c4:Cell} (s:List UInt8) (at_:Nat) (kind:Int) (h1:at_ < s.length) (h2:s.length < 1000) (hp:partI (peekN s at_)=true) :
  TokOr (CL (.fn 192) [.val (.loc 3 0),.val (.int .i64 kind)] ⟨A::B::.map wordM::sb s at_ (.val (.amap 2)) c4::rest,lo⟩) s at_ ⟨A::B::.map wordM::sb s at_ (.val (.amap 2)) c4::rest,lo⟩ (fun kd txt=>txt=nameT s at_∧kd=bif wordL.contains txt then 5 else kind) (24 < nameN s at_):=by
 have g195:(ans 195).ownArg=[]:=by rw[an195]
 have g189:(ans 189).ownArg=[]:=by rw[an189]
 have hn0:=runN_pos partI s at_ h1 hp;have hn1:=runN_le partI s at_;have h184:=c184 (A:=A) (B:=B) (C:=.map wordM) (rest:=rest) (lo:=lo) (c3:=.val (.amap 2)) (c4:=c4) 195 g195 partI c195 s at_ 0 0 rfl (by omega);rw[Nat.add_zero] at h184;generalize hn:runN partI s at_=n at *;have h188:=c188 (A:=A) (B:=B) (C:=.map wordM) (rest:=rest) (lo:=lo) (c3:=.val (.amap 2)) (c4:=c4) s at_ n (n:Nat) rfl (by omega);have hx:True:=trivial;rw[sbE] at h184 h188 ⊢;cases h39:(peekN s (at_+n)==39) with
 |false =>
  have hN:nameN s at_=n:=by simp only[nameN,hn,h39,cond_false]
  rcases made_or (A:=A) (B:=B) (C:=.map wordM) (rest:=rest) (lo:=lo) (c3:=.val (.amap 2)) (c4:=c4) s at_ (n) kind ((n:Nat):Int) rfl (by omega) (by omega) (by omega) with ⟨kd,num,txt,hm,ht1,ht2,hq⟩|⟨a,e,hm,hq⟩
  ·
   have hfw:=find_words txt;rw[tokE,sbE] at hm;cases hcw:wordL.contains txt with
   |true =>
    rw[hcw] at hfw;simp only[if_true,Bool.false_eq_true,if_false] at hfw;refine .inl ⟨5,num,txt,?_,ht1,ht2,hq.2.trans (by rw[nameT,hN]),by rw[hcw];rfl⟩;rw[tokE];apply tA;rfl;rfl;exact Tryz.func192;rfl;rfl;simp only[go_sem];rfl;refine tQ ?_;repeat first|with_reducible constructor|(with_reducible apply tG);kernel_rfl;intro _ _;(repeat apply tOp;intro _;simp only[h184,h188,hx,hm,hfw,go_sem];rfl);rfl;simp only[go_sem];rfl|(with_reducible apply t1);rfl;trivial|(with_reducible apply t0);rfl;trivial
    exact fin0 rfl
   |false =>
    rw[hcw] at hfw;simp only[if_true,Bool.false_eq_true,if_false] at hfw;refine .inl ⟨kd,num,txt,?_,ht1,ht2,hq.2.trans (by rw[nameT,hN]),by rw[hcw];exact hq.1⟩;rw[tokE];apply tA;rfl;rfl;exact Tryz.func192;rfl;rfl;simp only[go_sem];rfl;refine tQ ?_;repeat first|with_reducible constructor|(with_reducible apply tG);kernel_rfl;intro _ _;(repeat apply tOp;intro _;simp only[h184,h188,hx,hm,hfw,go_sem];rfl);rfl;simp only[go_sem];rfl|(with_reducible apply t0);rfl;trivial
    exact fin0 rfl
  ·
   rw[sbE,wrongE] at hm;refine .inr ⟨a,e,?_,by rw[hN];exact hq⟩;rw[wrongE];apply tA;rfl;rfl;exact Tryz.func192;rfl;rfl;simp only[go_sem];rfl;refine tQ ?_;repeat first|with_reducible constructor|(with_reducible apply tG);kernel_rfl;intro _ _;(repeat apply tOp;intro _;simp only[h184,h188,hx,hm,go_sem];rfl);rfl;simp only[go_sem];rfl|(with_reducible apply t0);rfl;trivial
   ((with_reducible apply tP);(focus (intro _ _;(repeat (apply tOp;(focus (intro _;simp only[h184,h188,hx,hm,go_sem];rfl))));apply tOpP;simp only[h184,h188,hx,hm,go_sem];rfl)))
   repeat first|with_reducible apply tsP|with_reducible apply tbP
   rfl
 |true =>
  have h5:at_+n < s.length:=peekN_pos _ _ (by intro h;rw[h] at h39;cases h39);have hd1:=runN_le digI s (at_+(n+1));have hw1:IntKind.i64.wrap ((n:Int)+1)=((n+1:Nat):Int):=by rw[wrapOk (by omega) (by omega)];omega
  have hx:=c184 (A:=A) (B:=B) (C:=.map wordM) (rest:=rest) (lo:=lo) (c3:=.val (.amap 2)) (c4:=c4) 189 g189 digI c189 s at_ (n+1) ((n+1:Nat):Int) rfl (by omega);rw[sbE] at hx;generalize hdn:runN digI s (at_+(n+1))=d at *;have hw2:IntKind.i64.wrap (1+(d:Int))=((1+d:Nat):Int):=by rw[wrapOk (by omega) (by omega)];omega
  have hw3:IntKind.i64.wrap ((n:Int)+((1+d:Nat):Int))=((n+(1+d):Nat):Int):=by rw[wrapOk (by omega) (by omega)];omega
  cases hd:decide ((d:Int) > 0) with
  |false =>
   have hN:nameN s at_=n:=by simp only[nameN,hn,h39,hdn,hd,cond_false,cond_true]
   rcases made_or (A:=A) (B:=B) (C:=.map wordM) (rest:=rest) (lo:=lo) (c3:=.val (.amap 2)) (c4:=c4) s at_ (n) kind ((n:Nat):Int) rfl (by omega) (by omega) (by omega) with ⟨kd,num,txt,hm,ht1,ht2,hq⟩|⟨a,e,hm,hq⟩
   ·
    have hfw:=find_words txt;rw[tokE,sbE] at hm;cases hcw:wordL.contains txt with
    |true =>
     rw[hcw] at hfw;simp only[if_true,Bool.false_eq_true,if_false] at hfw;refine .inl ⟨5,num,txt,?_,ht1,ht2,hq.2.trans (by rw[nameT,hN]),by rw[hcw];rfl⟩;rw[tokE];apply tA;rfl;rfl;exact Tryz.func192;rfl;rfl;simp only[go_sem];rfl;refine tQ ?_;repeat first|with_reducible constructor|(with_reducible apply tG);kernel_rfl;intro _ _;(repeat apply tOp;intro _;simp only[h184,h188,hx,hm,hfw,hw1,go_sem];rfl);rfl;simp only[go_sem];rfl|(with_reducible apply t1);rfl;trivial|(with_reducible apply t0);rfl;trivial
     exact fin0 rfl
    |false =>
     rw[hcw] at hfw;simp only[if_true,Bool.false_eq_true,if_false] at hfw;refine .inl ⟨kd,num,txt,?_,ht1,ht2,hq.2.trans (by rw[nameT,hN]),by rw[hcw];exact hq.1⟩;rw[tokE];apply tA;rfl;rfl;exact Tryz.func192;rfl;rfl;simp only[go_sem];rfl;refine tQ ?_;repeat first|with_reducible constructor|(with_reducible apply tG);kernel_rfl;intro _ _;(repeat apply tOp;intro _;simp only[h184,h188,hx,hm,hfw,hw1,go_sem];rfl);rfl;simp only[go_sem];rfl|(with_reducible apply t1);rfl;trivial|(with_reducible apply t0);rfl;trivial
     exact fin0 rfl
   ·
    rw[sbE,wrongE] at hm;refine .inr ⟨a,e,?_,by rw[hN];exact hq⟩;rw[wrongE];apply tA;rfl;rfl;exact Tryz.func192;rfl;rfl;simp only[go_sem];rfl;refine tQ ?_;repeat first|with_reducible constructor|(with_reducible apply tG);kernel_rfl;intro _ _;(repeat apply tOp;intro _;simp only[h184,h188,hx,hm,hw1,go_sem];rfl);rfl;simp only[go_sem];rfl|(with_reducible apply t1);rfl;trivial|(with_reducible apply t0);rfl;trivial
    ((with_reducible apply tP);(focus (intro _ _;(repeat (apply tOp;(focus (intro _;simp only[h184,h188,hx,hm,go_sem];rfl))));apply tOpP;simp only[h184,h188,hx,hm,go_sem];rfl)))
    repeat first|with_reducible apply tsP|with_reducible apply tbP
    rfl
  |true =>
   have hN:nameN s at_=n+(1+d):=by simp only[nameN,hn,h39,hdn,hd,cond_true]
   rcases made_or (A:=A) (B:=B) (C:=.map wordM) (rest:=rest) (lo:=lo) (c3:=.val (.amap 2)) (c4:=c4) s at_ (n+(1+d)) kind ((n+(1+d):Nat):Int) rfl (by omega) (by omega) (by omega) with ⟨kd,num,txt,hm,ht1,ht2,hq⟩|⟨a,e,hm,hq⟩
   ·
    have hfw:=find_words txt;rw[tokE,sbE] at hm;cases hcw:wordL.contains txt with
    |true =>
     rw[hcw] at hfw;simp only[if_true,Bool.false_eq_true,if_false] at hfw;refine .inl ⟨5,num,txt,?_,ht1,ht2,hq.2.trans (by rw[nameT,hN]),by rw[hcw];rfl⟩;rw[tokE];apply tA;rfl;rfl;exact Tryz.func192;rfl;rfl;simp only[go_sem];rfl;refine tQ ?_;repeat first|with_reducible constructor|(with_reducible apply tG);kernel_rfl;intro _ _;(repeat apply tOp;intro _;simp only[h184,h188,hx,hm,hfw,hw1,hw2,hw3,go_sem];rfl);rfl;simp only[go_sem];rfl|(with_reducible apply t1);rfl;trivial
     exact fin0 rfl
    |false =>
     rw[hcw] at hfw;simp only[if_true,Bool.false_eq_true,if_false] at hfw;refine .inl ⟨kd,num,txt,?_,ht1,ht2,hq.2.trans (by rw[nameT,hN]),by rw[hcw];exact hq.1⟩;rw[tokE];apply tA;rfl;rfl;exact Tryz.func192;rfl;rfl;simp only[go_sem];rfl;refine tQ ?_;repeat first|with_reducible constructor|(with_reducible apply tG);kernel_rfl;intro _ _;(repeat apply tOp;intro _;simp only[h184,h188,hx,hm,hfw,hw1,hw2,hw3,go_sem];rfl);rfl;simp only[go_sem];rfl|(with_reducible apply t1);rfl;trivial|(with_reducible apply t0);rfl;trivial
     exact fin0 rfl
   ·
    rw[sbE,wrongE] at hm;refine .inr ⟨a,e,?_,by rw[hN];exact hq⟩;rw[wrongE];apply tA;rfl;rfl;exact Tryz.func192;rfl;rfl;simp only[go_sem];rfl;refine tQ ?_;repeat first|with_reducible constructor|(with_reducible apply tG);kernel_rfl;intro _ _;(repeat apply tOp;intro _;simp only[h184,h188,hx,hm,hw1,hw2,hw3,go_sem];rfl);rfl;simp only[go_sem];rfl|(with_reducible apply t1);rfl;trivial
    ((with_reducible apply tP);(focus (intro _ _;(repeat (apply tOp;(focus (intro _;simp only[h184,h188,hx,hm,go_sem];rfl))));apply tOpP;simp only[h184,h188,hx,hm,go_sem];rfl)))
    repeat first|with_reducible apply tsP|with_reducible apply tbP
    rfl
end Go.Proofs.YtkmnkiekmlcfdaaGreatDoor
end
