/- Part S02 of the proof of one law of the program. -/
import Derived.Test.YtkmnkiekmlcfdaaGreatDoorS01
set_option linter.all false
namespace Go.Proofs.YtkmnkiekmlcfdaaGreatDoor
open Go.AM
set_option maxRecDepth 100000
set_option maxHeartbeats 4000000
variable {kd:List UInt8→Int}
theorem drop_len {s ys:List UInt8} {i:Nat} {y:UInt8} (h:s.drop i=y::ys):i < s.length:=by
 rcases Nat.lt_or_ge i s.length with h1|h1
 ·exact h1
 ·rw[List.drop_eq_nil_of_le h1] at h;cases h
theorem drop_get {s ys:List UInt8} {i:Nat} {y:UInt8} (h:s.drop i=y::ys):s[((i:Nat):Int).toNat]?=some y:=by
 have hl:=drop_len h;show s[i]?=some y;rw[List.drop_eq_getElem_cons hl] at h;rw[List.getElem?_eq_getElem hl];exact congrArg some (List.cons.inj h).1
theorem drop_next {s ys:List UInt8} {i:Nat} {y:UInt8} (h:s.drop i=y::ys):s.drop (i+1)=ys:=by
 have hl:=drop_len h;rw[List.drop_eq_getElem_cons hl] at h;exact (List.cons.inj h).2
theorem peek_get {s:List UInt8} {i:Nat} (h:i < s.length):∃ b:UInt8,s[((i:Nat):Int).toNat]?=some b∧peekN s i=(b.toNat:Nat) :=
 ⟨s[i],List.getElem?_eq_getElem h,by unfold peekN;rw[List.getElem?_eq_getElem h]⟩
theorem wN (n:Nat) (h:n < 1000000):IntKind.i64.wrap ((n:Int)+1)=((n+1:Nat):Int):=by rw[wrapOk (by omega) (by omega)];omega
theorem loop79 (s:List UInt8) (T:Sto) (ys:List UInt8):∀ (i:Nat),s.drop i=ys→i+ys.length < 1000000 →
  ∃ s0 s2 s3 s26 s30 s37,LP kd 79 (loopOf Tryz.f79 0) ⟨[.val (.str s),.dead,.val (.int .i64 (i:Nat)),.dead,.dead,.dead],T⟩ =
   bif ys.all (fun b=>partI (b.toNat:Nat)) then some (.exit 0,⟨[s0,s2,s3,s26,s30,s37],T⟩) else some (.ret,⟨[s0,.val (.bool false),s3,s26,s30,s37],T⟩):=by
 induction ys with
 |nil =>
  intro i hd hb;have hl:=List.drop_eq_nil_iff.1 hd;have hlt:decide ((i:Int) < (s.length:Nat))=false:=by rw[decide_eq_false_iff_not];omega
  simp only[List.all_nil,cond_true];iterate 6 apply Exists.intro
  refine tJ rfl ?_;repeat first|with_reducible constructor|(with_reducible apply tG);kernel_rfl;intro _ _;(repeat apply tOp;intro _;simp only[go_sem];rfl);rfl;simp only[go_sem];rfl|(with_reducible apply t0);rfl;trivial
  exact tlX;all_goals exact .dead
 |cons y ys ih =>
  intro i hd hb;have hlen:=drop_len hd;have hget:=drop_get hd;have hlt:decide ((i:Int) < (s.length:Nat))=true:=by rw[decide_eq_true_eq];omega
  have hz:=zI i;have hw:=wN i (by omega);have h130:=fun sto=>c130 (kd:=kd) (y.toNat:Nat) sto
  simp only[List.all_cons,List.length_cons] at hb ⊢;cases hq:partI (y.toNat:Nat) with
  |false =>
   rw[hq] at h130;simp only[Bool.false_and,cond_false];iterate 6 apply Exists.intro
   refine tJ rfl ?_;repeat first|with_reducible constructor|(with_reducible apply tG);kernel_rfl;intro _ _;(repeat apply tOp;intro _;simp only[hget,hz,h130,go_sem];rfl);rfl;simp only[go_sem];rfl|(with_reducible apply t1);rfl;trivial
   exact tlE;all_goals exact .dead
  |true =>
   rw[hq] at h130;obtain ⟨s0,s2,s3,s26,s30,s37,ih⟩:=ih (i+1) (drop_next hd) (by omega);simp only[Bool.true_and];refine ⟨s0,s2,s3,s26,s30,s37,?_⟩;cases hr:ys.all (fun b=>partI (b.toNat:Nat))
   all_goals
    rw[hr] at ih;simp only[cond_true,cond_false] at ih ⊢;refine tJ rfl ?_;repeat first|with_reducible constructor|(with_reducible apply tG);kernel_rfl;intro _ _;(repeat apply tOp;intro _;simp only[hget,hz,h130,hw,go_sem];rfl);rfl;simp only[go_sem];rfl|(with_reducible apply t1);rfl;trivial|(with_reducible apply t0);rfl;trivial
    exact ih
def tvarB (s:List UInt8):Bool :=
 bif decide ((s.length:Int) < 2) then false
 else bif decide ((s.length:Int) > 24) then false
 else bif peekN s 0 != 39 then false
 else bif decide (peekN s 1 < 97) then false
 else bif decide (peekN s 1 > 122) then false
 else (s.drop 2).all fun b=>partI (b.toNat:Nat)
theorem c79 (s:List UInt8) (T:Sto):CF kd (.fn 79) [.val (.str s)] T=some (.ret (.val (.bool (tvarB s))),T):=by
 unfold tvarB;cases h1:decide ((s.length:Int) < 2) with
 |true =>
  simp only[cond_true];apply tA;rfl;rfl;exact Tryz.func79;rfl;rfl;simp only[go_sem];rfl;refine tQ ?_;repeat first|with_reducible constructor|(with_reducible apply tG);kernel_rfl;intro _ _;(repeat apply tOp;intro _;simp only[h1,go_sem];rfl);rfl;simp only[go_sem];rfl|(with_reducible apply t1);rfl;trivial
  exact fin0 rfl
 |false =>
  simp only[cond_false];cases h2:decide ((s.length:Int) > 24) with
  |true =>
   simp only[cond_true];apply tA;rfl;rfl;exact Tryz.func79;rfl;rfl;simp only[go_sem];rfl;refine tQ ?_;repeat first|with_reducible constructor|(with_reducible apply tG);kernel_rfl;intro _ _;(repeat apply tOp;intro _;simp only[h1,h2,go_sem];rfl);rfl;simp only[go_sem];rfl|(with_reducible apply t1);rfl;trivial
   exact fin0 rfl
  |false =>
   simp only[cond_false];rw[decide_eq_false_iff_not] at h1 h2;obtain ⟨b0,g0,p0⟩:=peek_get (s:=s) (i:=0) (by omega);obtain ⟨b1,g1,p1⟩:=peek_get (s:=s) (i:=1) (by omega);have z0:decide ((0:Int)≤0)=true:=rfl;have z1:decide ((0:Int)≤1)=true:=rfl
   replace h1:decide ((s.length:Int) < 2)=false:=by rw[decide_eq_false_iff_not];omega
   have hl2:s.length < 1000000:=by omega
   replace h2:decide ((s.length:Int) > 24)=false:=by rw[decide_eq_false_iff_not];omega
   replace g0:s[(0:Int).toNat]?=some b0:=g0
   replace g1:s[(1:Int).toNat]?=some b1:=g1
   rw[p0,p1];cases h3:(((b0.toNat:Nat):Int) != 39) with
   |true =>
    simp only[cond_true];apply tA;rfl;rfl;exact Tryz.func79;rfl;rfl;simp only[go_sem];rfl;refine tQ ?_;repeat first|with_reducible constructor|(with_reducible apply tG);kernel_rfl;intro _ _;(repeat apply tOp;intro _;simp only[h1,h2,g0,z0,h3,go_sem];rfl);rfl;simp only[go_sem];rfl|(with_reducible apply t1);rfl;trivial
    exact fin0 rfl
   |false =>
    simp only[cond_false];cases h4:decide (((b1.toNat:Nat):Int) < 97) with
    |true =>
     simp only[cond_true];apply tA;rfl;rfl;exact Tryz.func79;rfl;rfl;simp only[go_sem];rfl;refine tQ ?_;repeat first|with_reducible constructor|(with_reducible apply tG);kernel_rfl;intro _ _;(repeat apply tOp;intro _;simp only[h1,h2,g0,z0,h3,g1,z1,h4,go_sem];rfl);rfl;simp only[go_sem];rfl|(with_reducible apply t1);rfl;trivial
     exact fin0 rfl
    |false =>
     simp only[cond_false];cases h5:decide (((b1.toNat:Nat):Int) > 122) with
     |true =>
      simp only[cond_true];apply tA;rfl;rfl;exact Tryz.func79;rfl;rfl;simp only[go_sem];rfl;refine tQ ?_;repeat first|with_reducible constructor|(with_reducible apply tG);kernel_rfl;intro _ _;(repeat apply tOp;intro _;simp only[h1,h2,g0,z0,h3,g1,z1,h4,h5,go_sem];rfl);rfl;simp only[go_sem];rfl|(with_reducible apply t1);rfl;trivial
      exact fin0 rfl
     |false =>
      simp only[cond_false];obtain ⟨s0,s2,s3,s26,s30,s37,hl⟩:=loop79 (kd:=kd) s T _ 2 rfl (by rw[List.length_drop];omega);have e2:((2:Nat):Int)=2:=rfl;rw[e2] at hl;cases hr:(s.drop 2).all (fun b=>partI (b.toNat:Nat))
      all_goals
       rw[hr] at hl;simp only[cond_true,cond_false] at hl;apply tA;rfl;rfl;exact Tryz.func79;rfl;rfl;simp only[go_sem];rfl;refine tQ ?_;repeat first|with_reducible constructor|(with_reducible apply tG);kernel_rfl;intro _ _;(repeat apply tOp;intro _;simp only[h1,h2,g0,z0,h3,g1,z1,h4,h5,go_sem];rfl);rfl;simp only[go_sem];rfl|(with_reducible apply tM);assumption|(with_reducible apply t0);rfl;trivial
       exact fin0 rfl
theorem loop77a (s:List UInt8) (T:Sto) (ys:List UInt8):∀ (i:Nat),s.drop i=ys→i+ys.length < 1000000 →
  ∃ s1 s2 s6 s8 s28 s38 s44 s55 s61 s73,LP kd 77 (loopOf Tryz.f77 0) ⟨[.val (.str s),.dead,.dead,.dead,.val (.int .i64 (i:Nat)),.dead,.dead,.dead,.dead,.dead,.dead,.dead],T⟩ =
   some (.exit 0,⟨[.val (.str s),s1,s2,s6,.val (.int .i64 ((i+(ys.takeWhile fun b=>partI (b.toNat:Nat)).length:Nat):Int)),s8,s28,s38,s44,s55,s61,s73],T⟩):=by
 induction ys with
 |nil =>
  intro i hd hb;have hl:=List.drop_eq_nil_iff.1 hd;have hlt:decide ((i:Int) < (s.length:Nat))=false:=by rw[decide_eq_false_iff_not];omega
  iterate 10 apply Exists.intro
  refine tJ rfl ?_;repeat first|with_reducible constructor|(with_reducible apply tG);kernel_rfl;intro _ _;(repeat apply tOp;intro _;simp only[hlt,go_sem];rfl);rfl;simp only[go_sem];rfl|(with_reducible apply t0);rfl;trivial
  exact tlX;all_goals exact .dead
 |cons y ys ih =>
  intro i hd hb;have hlen:=drop_len hd;have hget:=drop_get hd;have hlt:decide ((i:Int) < (s.length:Nat))=true:=by rw[decide_eq_true_eq];omega
  have hz:=zI i;have hw:=wN i (by omega);have h130:=fun sto=>c130 (kd:=kd) (y.toNat:Nat) sto
  simp only[List.length_cons] at hb;cases hq:partI (y.toNat:Nat) with
  |false =>
   rw[hq] at h130;simp only[List.takeWhile_cons,hq];iterate 10 apply Exists.intro
   refine tJ rfl ?_;repeat first|with_reducible constructor|(with_reducible apply tG);kernel_rfl;intro _ _;(repeat apply tOp;intro _;simp only[hlt,hget,hz,h130,go_sem];rfl);rfl;simp only[go_sem];rfl|(with_reducible apply t0);rfl;trivial
   exact tlX;all_goals exact .dead
  |true =>
   rw[hq] at h130;obtain ⟨s1,s2,s6,s8,s28,s38,s44,s55,s61,s73,ih⟩:=ih (i+1) (drop_next hd) (by omega);simp only[List.takeWhile_cons,hq,if_true,List.length_cons];rw[show i+((ys.takeWhile fun b=>partI (b.toNat:Nat)).length+1)=i+1+(ys.takeWhile fun b=>partI (b.toNat:Nat)).length by omega];refine ⟨s1,s2,s6,s8,s28,s38,s44,s55,s61,s73,?_⟩;refine tJ rfl ?_;repeat first|with_reducible constructor|(with_reducible apply tG);kernel_rfl;intro _ _;(repeat apply tOp;intro _;simp only[hlt,hget,hz,h130,hw,go_sem];rfl);rfl;simp only[go_sem];rfl|(with_reducible apply t1);rfl;trivial
   exact ih
theorem loop77b (s:List UInt8) (T:Sto) (ys:List UInt8):∀ (i:Nat),s.drop i=ys→i+ys.length < 1000000 →
  ∃ s0 s1 s2 s6 s7 s8 s28 s38 s44 s55 s61 s73,LP kd 77 (loopOf Tryz.f77 1) ⟨[.val (.str s),.dead,.dead,.dead,.dead,.val (.int .i64 (i:Nat)),.dead,.dead,.dead,.dead,.dead,.dead],T⟩ =
   bif ys.all (fun b=>digI (b.toNat:Nat)) then some (.exit 2,⟨[s0,s1,s2,s6,s7,s8,s28,s38,s44,s55,s61,s73],T⟩) else some (.ret,⟨[s0,s1,s2,.val (.bool false),s7,s8,s28,s38,s44,s55,s61,s73],T⟩):=by
 induction ys with
 |nil =>
  intro i hd hb;have hl:=List.drop_eq_nil_iff.1 hd;have hlt:decide ((i:Int) < (s.length:Nat))=false:=by rw[decide_eq_false_iff_not];omega
  simp only[List.all_nil,cond_true];iterate 12 apply Exists.intro
  refine tJ rfl ?_;repeat first|with_reducible constructor|(with_reducible apply tG);kernel_rfl;intro _ _;(repeat apply tOp;intro _;simp only[go_sem];rfl);rfl;simp only[go_sem];rfl|(with_reducible apply t0);rfl;trivial
  exact tlX;all_goals exact .dead
 |cons y ys ih =>
  intro i hd hb;have hlen:=drop_len hd;have hget:=drop_get hd;have hlt:decide ((i:Int) < (s.length:Nat))=true:=by rw[decide_eq_true_eq];omega
  have hz:=zI i;have hw:=wN i (by omega);simp only[List.all_cons,List.length_cons] at hb ⊢;cases a1:decide (((y.toNat:Nat):Int) < 48) with
  |true =>
   have hq:digI (y.toNat:Nat)=false:=by
    rw[decide_eq_true_eq] at a1;simp only[digI,Bool.and_eq_false_iff,decide_eq_false_iff_not];omega
   simp only[hq,Bool.false_and,cond_false];iterate 12 apply Exists.intro
   refine tJ rfl ?_;repeat first|with_reducible constructor|(with_reducible apply tG);kernel_rfl;intro _ _;(repeat apply tOp;intro _;simp only[hget,hz,a1,go_sem];rfl);rfl;simp only[go_sem];rfl|(with_reducible apply t1);rfl;trivial
   exact tlE;all_goals exact .dead
  |false =>
   cases a2:decide (((y.toNat:Nat):Int) > 57) with
   |true =>
    have hq:digI (y.toNat:Nat)=false:=by
     rw[decide_eq_true_eq] at a2;simp only[digI,Bool.and_eq_false_iff,decide_eq_false_iff_not];omega
    simp only[hq,Bool.false_and,cond_false];iterate 12 apply Exists.intro
    refine tJ rfl ?_;repeat first|with_reducible constructor|(with_reducible apply tG);kernel_rfl;intro _ _;(repeat apply tOp;intro _;simp only[hget,hz,a1,a2,go_sem];rfl);rfl;simp only[go_sem];rfl|(with_reducible apply t1);rfl;trivial
    exact tlE;all_goals exact .dead
   |false =>
    have hq:digI (y.toNat:Nat)=true:=by
     rw[decide_eq_false_iff_not] at a1 a2;simp only[digI,Bool.and_eq_true,decide_eq_true_eq];omega
    obtain ⟨s0,s1,s2,s6,s7,s8,s28,s38,s44,s55,s61,s73,ih⟩:=ih (i+1) (drop_next hd) (by omega);simp only[hq,Bool.true_and];refine ⟨s0,s1,s2,s6,s7,s8,s28,s38,s44,s55,s61,s73,?_⟩;cases hr:ys.all (fun b=>digI (b.toNat:Nat))
    all_goals
     rw[hr] at ih;simp only[cond_true,cond_false] at ih ⊢;refine tJ rfl ?_;repeat first|with_reducible constructor|(with_reducible apply tG);kernel_rfl;intro _ _;(repeat apply tOp;intro _;simp only[hget,hz,a1,a2,hw,go_sem];rfl);rfl;simp only[go_sem];rfl|(with_reducible apply t1);rfl;trivial|(with_reducible apply t0);rfl;trivial
     exact ih
def wordB (lo hi:Int) (s:List UInt8):Bool :=
 bif decide ((s.length:Int) < 1) then false
 else bif decide ((s.length:Int) > 24) then false
 else bif decide (peekN s 0 < lo) then false
 else bif decide (peekN s 0 > hi) then false
 else bif ((1+runN partI s 1:Nat):Int)==(s.length:Nat) then true
 else bif peekN s (1+runN partI s 1) != 39 then false
 else bif ((1+runN partI s 1+1:Nat):Int)==(s.length:Nat) then false
 else (s.drop (1+runN partI s 1+1)).all fun b=>digI (b.toNat:Nat)
theorem c77 (lo hi:Int) (s:List UInt8) (T:Sto):CF kd (.fn 77) [.val (.str s),.val (.int .u8 lo),.val (.int .u8 hi)] T=some (.ret (.val (.bool (wordB lo hi s))),T):=by
 unfold wordB;cases h1:decide ((s.length:Int) < 1) with
 |true =>
  simp only[cond_true];apply tA;rfl;rfl;exact Tryz.func77;rfl;rfl;simp only[go_sem];rfl;refine tQ ?_;repeat first|with_reducible constructor|(with_reducible apply tG);kernel_rfl;intro _ _;(repeat apply tOp;intro _;simp only[h1,go_sem];rfl);rfl;simp only[go_sem];rfl|(with_reducible apply t1);rfl;trivial
  exact fin0 rfl
 |false =>
 simp only[cond_false];cases h2:decide ((s.length:Int) > 24) with
 |true =>
  simp only[cond_true];apply tA;rfl;rfl;exact Tryz.func77;rfl;rfl;simp only[go_sem];rfl;refine tQ ?_;repeat first|with_reducible constructor|(with_reducible apply tG);kernel_rfl;intro _ _;(repeat apply tOp;intro _;simp only[h1,h2,go_sem];rfl);rfl;simp only[go_sem];rfl|(with_reducible apply t1);rfl;trivial
  exact fin0 rfl
 |false =>
 simp only[cond_false];have k1:1≤s.length:=by rw[decide_eq_false_iff_not] at h1;omega
 have k2:s.length≤24:=by rw[decide_eq_false_iff_not] at h2;omega
 obtain ⟨b0,g0,p0⟩:=peek_get (s:=s) (i:=0) (by omega);have z0:decide ((0:Int)≤0)=true:=rfl
 replace g0:s[(0:Int).toNat]?=some b0:=g0
 rw[p0];cases h3:decide (((b0.toNat:Nat):Int) < lo) with
 |true =>
  simp only[cond_true];apply tA;rfl;rfl;exact Tryz.func77;rfl;rfl;simp only[go_sem];rfl;refine tQ ?_;repeat first|with_reducible constructor|(with_reducible apply tG);kernel_rfl;intro _ _;(repeat apply tOp;intro _;simp only[h1,h2,g0,z0,h3,go_sem];rfl);rfl;simp only[go_sem];rfl|(with_reducible apply t1);rfl;trivial
  exact fin0 rfl
 |false =>
 simp only[cond_false];cases h4:decide (((b0.toNat:Nat):Int) > hi) with
 |true =>
  simp only[cond_true];apply tA;rfl;rfl;exact Tryz.func77;rfl;rfl;simp only[go_sem];rfl;refine tQ ?_;repeat first|with_reducible constructor|(with_reducible apply tG);kernel_rfl;intro _ _;(repeat apply tOp;intro _;simp only[h1,h2,g0,z0,h3,h4,go_sem];rfl);rfl;simp only[go_sem];rfl|(with_reducible apply t1);rfl;trivial
  exact fin0 rfl
 |false =>
 simp only[cond_false];obtain ⟨s1,s2,s6,s8,s28,s38,s44,s55,s61,s73,hl⟩:=loop77a (kd:=kd) s T _ 1 rfl (by rw[List.length_drop];omega);have e1:((1:Nat):Int)=1:=rfl;rw[e1] at hl;have hn:=runN_le partI s 1;unfold runN at hn ⊢;generalize ((s.drop 1).takeWhile fun b=>partI (b.toNat:Nat)).length=n at *;cases h5:(((1+n:Nat):Int)==(s.length:Nat)) with
 |true =>
  simp only[cond_true];apply tA;rfl;rfl;exact Tryz.func77;rfl;rfl;simp only[go_sem];rfl;refine tQ ?_;repeat first|with_reducible constructor|(with_reducible apply tG);kernel_rfl;intro _ _;(repeat apply tOp;intro _;simp only[h1,h2,g0,z0,h3,h4,go_sem];rfl);rfl;simp only[go_sem];rfl|(with_reducible apply tM);assumption|(with_reducible apply t1);rfl;trivial|(with_reducible apply t0);rfl;trivial
  exact fin0 rfl
 |false =>
 simp only[cond_false]
 have k5:1+n < s.length:=by
  have:¬ (1+n=s.length):=fun h=>by rw[h] at h5;simp at h5
  omega
 obtain ⟨b1,g1,p1⟩:=peek_get (s:=s) (i:=1+n) k5;have z1:=zI (1+n);have hw:=wN (1+n) (by omega);rw[p1];cases h6:(((b1.toNat:Nat):Int) != 39) with
 |true =>
  simp only[cond_true];apply tA;rfl;rfl;exact Tryz.func77;rfl;rfl;simp only[go_sem];rfl;refine tQ ?_;repeat first|with_reducible constructor|(with_reducible apply tG);kernel_rfl;intro _ _;(repeat apply tOp;intro _;simp only[h1,h2,g0,z0,h3,h4,g1,z1,h6,go_sem];rfl);rfl;simp only[go_sem];rfl|(with_reducible apply tM);assumption|(with_reducible apply t1);rfl;trivial|(with_reducible apply t0);rfl;trivial
  exact fin0 rfl
 |false =>
 simp only[cond_false];cases h7:(((1+n+1:Nat):Int)==(s.length:Nat)) with
 |true =>
  simp only[cond_true];apply tA;rfl;rfl;exact Tryz.func77;rfl;rfl;simp only[go_sem];rfl;refine tQ ?_;repeat first|with_reducible constructor|(with_reducible apply tG);kernel_rfl;intro _ _;(repeat apply tOp;intro _;simp only[h1,h2,g0,z0,h3,h4,g1,z1,h6,hw,h7,go_sem];rfl);rfl;simp only[go_sem];rfl|(with_reducible apply tM);assumption|(with_reducible apply t1);rfl;trivial|(with_reducible apply t0);rfl;trivial
  exact fin0 rfl
 |false =>
 simp only[cond_false];obtain ⟨s0,s1,s2,s6,s7,s8,s28,s38,s44,s55,s61,s73,hb⟩:=loop77b (kd:=kd) s T _ (1+n+1) rfl (by rw[List.length_drop];omega);cases hr:(s.drop (1+n+1)).all (fun b=>digI (b.toNat:Nat))
 all_goals
  rw[hr] at hb;simp only[cond_true,cond_false] at hb;apply tA;rfl;rfl;exact Tryz.func77;rfl;rfl;simp only[go_sem];rfl;refine tQ ?_;repeat first|with_reducible constructor|(with_reducible apply tG);kernel_rfl;intro _ _;(repeat apply tOp;intro _;simp only[h1,h2,g0,z0,h3,h4,g1,z1,h6,hw,h7,go_sem];rfl);rfl;simp only[go_sem];rfl|(with_reducible apply tM);assumption|(with_reducible apply t0);rfl;trivial
  exact fin0 rfl
def nameB (s:List UInt8):Bool:=wordB 97 122 s&&!wordL.any fun y=>y==s
theorem c156 (s:List UInt8) (T:Sto):CF kd (.fn 156) [.val (.str s)] T=some (.ret (.val (.bool (nameB s))),T):=by
 unfold nameB;have h77:=c77 (kd:=kd) 97 122 s T;have h78:=c78 (kd:=kd) s wordL T (by decide);cases hw:wordB 97 122 s
 all_goals
  rw[hw] at h77;simp only[wordL,List.map_cons,List.map_nil] at h78 ⊢;apply tA;rfl;rfl;exact Tryz.func156;rfl;rfl;simp only[go_sem];rfl;refine tQ ?_;repeat first|with_reducible constructor|(with_reducible apply tG);kernel_rfl;intro _ _;(repeat apply tOp;intro _;simp only[h77,h78,setElems,clean,flat,List.replicate,List.set_cons_zero,List.set_cons_succ,go_sem];rfl);rfl;simp only[go_sem];rfl
  exact fin0 rfl
end Go.Proofs.YtkmnkiekmlcfdaaGreatDoor
