/- Part S01 of the proof of one law of the program. -/
import Derived.Test.YtkmnkiekmlcfdaaGreatDoorE02
import Derived.Test.YtkmnkiekmlcfdaaGreatDoorC01
set_option linter.all false
namespace Go.Proofs.YtkmnkiekmlcfdaaGreatDoor
open Go.AM
set_option maxRecDepth 100000
set_option maxHeartbeats 4000000
variable {kd:List UInt8→Int}
theorem c130 (c:Int) (sto:Sto):CF kd (.fn 130) [.val (.int .u8 c)] sto=some (.ret (.val (.bool (partI c))),sto):=by
 unfold partI smallI greatI digI;cases a1:decide (c≥97) with
 |true =>
  cases a2:decide (c≤122) with
  |true =>
   have b1:decide (97≤c)=_:=a1;simp only[b1,a2,Bool.and_self,Bool.and_true,Bool.and_false,Bool.true_and,Bool.false_and,Bool.true_or,Bool.false_or,Bool.or_self,Bool.or_true];apply tA;rfl;rfl;exact Tryz.func130;rfl;rfl;simp only[go_sem];rfl;refine tQ ?_;repeat first|with_reducible constructor|(with_reducible apply tG);kernel_rfl;intro _ _;(repeat apply tOp;intro _;simp only[a1,a2,go_sem];rfl);rfl;simp only[go_sem];rfl
   exact fin0 rfl
  |false =>
   cases a3:decide (c≥65) with
   |true =>
    cases a4:decide (c≤90) with
    |true =>
     have b1:decide (97≤c)=_:=a1;have b3:decide (65≤c)=_:=a3;simp only[b1,a2,b3,a4,Bool.and_self,Bool.and_true,Bool.and_false,Bool.true_and,Bool.false_and,Bool.true_or,Bool.false_or,Bool.or_self,Bool.or_true];apply tA;rfl;rfl;exact Tryz.func130;rfl;rfl;simp only[go_sem];rfl;refine tQ ?_;repeat first|with_reducible constructor|(with_reducible apply tG);kernel_rfl;intro _ _;(repeat apply tOp;intro _;simp only[a1,a2,a3,a4,go_sem];rfl);rfl;simp only[go_sem];rfl
     exact fin0 rfl
    |false =>
     cases a5:decide (c≥48) with
     |true =>
      cases a6:decide (c≤57) with
      |true =>
       have b1:decide (97≤c)=_:=a1;have b3:decide (65≤c)=_:=a3;have b5:decide (48≤c)=_:=a5;simp only[b1,a2,b3,a4,b5,a6,Bool.and_self,Bool.and_true,Bool.and_false,Bool.true_and,Bool.false_and,Bool.true_or,Bool.false_or,Bool.or_self,Bool.or_true];apply tA;rfl;rfl;exact Tryz.func130;rfl;rfl;simp only[go_sem];rfl;refine tQ ?_;repeat first|with_reducible constructor|(with_reducible apply tG);kernel_rfl;intro _ _;(repeat apply tOp;intro _;simp only[a1,a2,a3,a4,a5,a6,go_sem];rfl);rfl;simp only[go_sem];rfl
       exact fin0 rfl
      |false =>
       have b1:decide (97≤c)=_:=a1;have b3:decide (65≤c)=_:=a3;have b5:decide (48≤c)=_:=a5;simp only[b1,a2,b3,a4,b5,a6,Bool.and_self,Bool.and_true,Bool.and_false,Bool.true_and,Bool.false_and,Bool.true_or,Bool.false_or,Bool.or_self,Bool.or_true];apply tA;rfl;rfl;exact Tryz.func130;rfl;rfl;simp only[go_sem];rfl;refine tQ ?_;repeat first|with_reducible constructor|(with_reducible apply tG);kernel_rfl;intro _ _;(repeat apply tOp;intro _;simp only[a1,a2,a3,a4,a5,a6,go_sem];rfl);rfl;simp only[go_sem];rfl
       exact fin0 rfl
     |false =>
      have b1:decide (97≤c)=_:=a1;have b3:decide (65≤c)=_:=a3;have b5:decide (48≤c)=_:=a5;simp only[b1,a2,b3,a4,b5,Bool.and_self,Bool.and_true,Bool.and_false,Bool.true_and,Bool.false_and,Bool.true_or,Bool.false_or,Bool.or_self,Bool.or_true];apply tA;rfl;rfl;exact Tryz.func130;rfl;rfl;simp only[go_sem];rfl;refine tQ ?_;repeat first|with_reducible constructor|(with_reducible apply tG);kernel_rfl;intro _ _;(repeat apply tOp;intro _;simp only[a1,a2,a3,a4,a5,go_sem];rfl);rfl;simp only[go_sem];rfl
      exact fin0 rfl
   |false =>
    cases a5:decide (c≥48) with
    |true =>
     cases a6:decide (c≤57) with
     |true =>
      have b1:decide (97≤c)=_:=a1;have b3:decide (65≤c)=_:=a3;have b5:decide (48≤c)=_:=a5;simp only[b1,a2,b3,b5,a6,Bool.and_self,Bool.and_true,Bool.and_false,Bool.true_and,Bool.false_and,Bool.true_or,Bool.false_or,Bool.or_self,Bool.or_true];apply tA;rfl;rfl;exact Tryz.func130;rfl;rfl;simp only[go_sem];rfl;refine tQ ?_;repeat first|with_reducible constructor|(with_reducible apply tG);kernel_rfl;intro _ _;(repeat apply tOp;intro _;simp only[a1,a2,a3,a5,a6,go_sem];rfl);rfl;simp only[go_sem];rfl
      exact fin0 rfl
     |false =>
      have b1:decide (97≤c)=_:=a1;have b3:decide (65≤c)=_:=a3;have b5:decide (48≤c)=_:=a5;simp only[b1,a2,b3,b5,a6,Bool.and_self,Bool.and_true,Bool.and_false,Bool.true_and,Bool.false_and,Bool.true_or,Bool.false_or,Bool.or_self,Bool.or_true];apply tA;rfl;rfl;exact Tryz.func130;rfl;rfl;simp only[go_sem];rfl;refine tQ ?_;repeat first|with_reducible constructor|(with_reducible apply tG);kernel_rfl;intro _ _;(repeat apply tOp;intro _;simp only[a1,a2,a3,a5,a6,go_sem];rfl);rfl;simp only[go_sem];rfl
      exact fin0 rfl
    |false =>
     have b1:decide (97≤c)=_:=a1;have b3:decide (65≤c)=_:=a3;have b5:decide (48≤c)=_:=a5;simp only[b1,a2,b3,b5,Bool.and_self,Bool.and_true,Bool.and_false,Bool.true_and,Bool.false_and,Bool.true_or,Bool.false_or,Bool.or_self,Bool.or_true];apply tA;rfl;rfl;exact Tryz.func130;rfl;rfl;simp only[go_sem];rfl;refine tQ ?_;repeat first|with_reducible constructor|(with_reducible apply tG);kernel_rfl;intro _ _;(repeat apply tOp;intro _;simp only[a1,a2,a3,a5,go_sem];rfl);rfl;simp only[go_sem];rfl
     exact fin0 rfl
 |false =>
  cases a3:decide (c≥65) with
  |true =>
   cases a4:decide (c≤90) with
   |true =>
    have b1:decide (97≤c)=_:=a1;have b3:decide (65≤c)=_:=a3;simp only[b1,b3,a4,Bool.and_self,Bool.and_true,Bool.and_false,Bool.true_and,Bool.false_and,Bool.true_or,Bool.false_or,Bool.or_self,Bool.or_true];apply tA;rfl;rfl;exact Tryz.func130;rfl;rfl;simp only[go_sem];rfl;refine tQ ?_;repeat first|with_reducible constructor|(with_reducible apply tG);kernel_rfl;intro _ _;(repeat apply tOp;intro _;simp only[a1,a3,a4,go_sem];rfl);rfl;simp only[go_sem];rfl
    exact fin0 rfl
   |false =>
    cases a5:decide (c≥48) with
    |true =>
     cases a6:decide (c≤57) with
     |true =>
      have b1:decide (97≤c)=_:=a1;have b3:decide (65≤c)=_:=a3;have b5:decide (48≤c)=_:=a5;simp only[b1,b3,a4,b5,a6,Bool.and_self,Bool.and_true,Bool.and_false,Bool.true_and,Bool.false_and,Bool.true_or,Bool.false_or,Bool.or_self,Bool.or_true];apply tA;rfl;rfl;exact Tryz.func130;rfl;rfl;simp only[go_sem];rfl;refine tQ ?_;repeat first|with_reducible constructor|(with_reducible apply tG);kernel_rfl;intro _ _;(repeat apply tOp;intro _;simp only[a1,a3,a4,a5,a6,go_sem];rfl);rfl;simp only[go_sem];rfl
      exact fin0 rfl
     |false =>
      have b1:decide (97≤c)=_:=a1;have b3:decide (65≤c)=_:=a3;have b5:decide (48≤c)=_:=a5;simp only[b1,b3,a4,b5,a6,Bool.and_self,Bool.and_true,Bool.and_false,Bool.true_and,Bool.false_and,Bool.true_or,Bool.false_or,Bool.or_self,Bool.or_true];apply tA;rfl;rfl;exact Tryz.func130;rfl;rfl;simp only[go_sem];rfl;refine tQ ?_;repeat first|with_reducible constructor|(with_reducible apply tG);kernel_rfl;intro _ _;(repeat apply tOp;intro _;simp only[a1,a3,a4,a5,a6,go_sem];rfl);rfl;simp only[go_sem];rfl
      exact fin0 rfl
    |false =>
     have b1:decide (97≤c)=_:=a1;have b3:decide (65≤c)=_:=a3;have b5:decide (48≤c)=_:=a5;simp only[b1,b3,a4,b5,Bool.and_self,Bool.and_true,Bool.and_false,Bool.true_and,Bool.false_and,Bool.true_or,Bool.false_or,Bool.or_self,Bool.or_true];apply tA;rfl;rfl;exact Tryz.func130;rfl;rfl;simp only[go_sem];rfl;refine tQ ?_;repeat first|with_reducible constructor|(with_reducible apply tG);kernel_rfl;intro _ _;(repeat apply tOp;intro _;simp only[a1,a3,a4,a5,go_sem];rfl);rfl;simp only[go_sem];rfl
     exact fin0 rfl
  |false =>
   cases a5:decide (c≥48) with
   |true =>
    cases a6:decide (c≤57) with
    |true =>
     have b1:decide (97≤c)=_:=a1;have b3:decide (65≤c)=_:=a3;have b5:decide (48≤c)=_:=a5;simp only[b1,b3,b5,a6,Bool.and_self,Bool.and_true,Bool.and_false,Bool.true_and,Bool.false_and,Bool.true_or,Bool.false_or,Bool.or_self,Bool.or_true];apply tA;rfl;rfl;exact Tryz.func130;rfl;rfl;simp only[go_sem];rfl;refine tQ ?_;repeat first|with_reducible constructor|(with_reducible apply tG);kernel_rfl;intro _ _;(repeat apply tOp;intro _;simp only[a1,a3,a5,a6,go_sem];rfl);rfl;simp only[go_sem];rfl
     exact fin0 rfl
    |false =>
     have b1:decide (97≤c)=_:=a1;have b3:decide (65≤c)=_:=a3;have b5:decide (48≤c)=_:=a5;simp only[b1,b3,b5,a6,Bool.and_self,Bool.and_true,Bool.and_false,Bool.true_and,Bool.false_and,Bool.true_or,Bool.false_or,Bool.or_self,Bool.or_true];apply tA;rfl;rfl;exact Tryz.func130;rfl;rfl;simp only[go_sem];rfl;refine tQ ?_;repeat first|with_reducible constructor|(with_reducible apply tG);kernel_rfl;intro _ _;(repeat apply tOp;intro _;simp only[a1,a3,a5,a6,go_sem];rfl);rfl;simp only[go_sem];rfl
     exact fin0 rfl
   |false =>
    have b1:decide (97≤c)=_:=a1;have b3:decide (65≤c)=_:=a3;have b5:decide (48≤c)=_:=a5;simp only[b1,b3,b5,Bool.and_self,Bool.and_true,Bool.and_false,Bool.true_and,Bool.false_and,Bool.true_or,Bool.false_or,Bool.or_self,Bool.or_true];apply tA;rfl;rfl;exact Tryz.func130;rfl;rfl;simp only[go_sem];rfl;refine tQ ?_;repeat first|with_reducible constructor|(with_reducible apply tG);kernel_rfl;intro _ _;(repeat apply tOp;intro _;simp only[a1,a3,a5,go_sem];rfl);rfl;simp only[go_sem];rfl
    exact fin0 rfl
theorem c72 (n lo hi:Int) (sto:Sto):CF kd (.fn 72) [.val (.int .i64 n),.val (.int .i64 lo),.val (.int .i64 hi)] sto=some (.ret (.val (.bool (decide (n≥lo)&&decide (n≤hi)))),sto):=by
 cases a1:decide (n≥lo)
 all_goals
  apply tA;rfl;rfl;exact Tryz.func72;rfl;rfl;simp only[go_sem];rfl;refine tQ ?_;repeat first|with_reducible constructor|(with_reducible apply tG);kernel_rfl;intro _ _;(repeat apply tOp;intro _;simp only[a1,go_sem];rfl);rfl;simp only[go_sem];rfl
  exact fin0 rfl
theorem loop78 (v:List UInt8) (T:Sto) (ys:List (List UInt8)):∀ (pre:List (List UInt8)),(pre++ys).length < big →
  ∃ s0 s1 s4 s5 s9 s17,LP kd 78 (loopOf Tryz.f78 0) ⟨[.val (.slice ((pre++ys).map AVal.str)),.val (.str v),.dead,.val (.int .i64 (pre.length:Nat)),.dead,.dead],T⟩ =
   bif ys.any (fun y=>y==v) then some (.ret,⟨[s0,s1,.val (.bool true),s5,s9,s17],T⟩) else some (.exit 0,⟨[s0,s1,s4,s5,s9,s17],T⟩):=by
 induction ys with
 |nil =>
  intro pre h3;have hlt:=geI pre;simp only[List.append_nil,List.any_nil,cond_false];iterate 6 apply Exists.intro
  refine tJ rfl ?_;repeat first|with_reducible constructor|(with_reducible apply tG);kernel_rfl;intro _ _;(repeat apply tOp;intro _;simp only[List.length_map,go_sem];rfl);rfl;simp only[go_sem];rfl|(with_reducible apply t0);rfl;trivial
  exact tlX;all_goals exact .dead
 |cons y ys ih =>
  intro pre h3;have hget:=getI AVal.str pre ys y;have hlt:=ltI pre ys y;have h0:=zI pre.length;have hw:=wL pre ys y h3;simp only[List.any_cons];cases hp:(y==v) with
  |true =>
   simp only[Bool.true_or,cond_true];iterate 6 apply Exists.intro
   refine tJ rfl ?_;repeat first|with_reducible constructor|(with_reducible apply tG);kernel_rfl;intro _ _;(repeat apply tOp;intro _;simp only[List.length_map,hget,h0,go_sem];rfl);rfl;simp only[go_sem];rfl|(with_reducible apply t1);rfl;trivial
   exact tlE;all_goals exact .dead
  |false =>
   obtain ⟨s0,s1,s4,s5,s9,s17,ih⟩:=ih (pre++[y]) (by simpa using h3);simp only[List.append_assoc,List.singleton_append] at ih;simp only[Bool.false_or];refine ⟨s0,s1,s4,s5,s9,s17,?_⟩;cases hz:ys.any (fun y=>y==v)
   all_goals
    rw[hz] at ih;simp only[cond_true,cond_false] at ih ⊢;refine tJ rfl ?_;repeat first|with_reducible constructor|(with_reducible apply tG);kernel_rfl;intro _ _;(repeat apply tOp;intro _;simp only[List.length_map,hget,h0,hw,go_sem];rfl);rfl;simp only[go_sem];rfl|(with_reducible apply t1);rfl;trivial|(with_reducible apply t0);rfl;trivial
    exact ih
theorem c78 (v:List UInt8) (l:List (List UInt8)) (T:Sto) (h:l.length < big):CF kd (.fn 78) [.val (.slice (l.map .str)),.val (.str v)] T=some (.ret (.val (.bool (l.any fun y=>y==v))),T):=by
 obtain ⟨s0,s1,s4,s5,s9,s17,hl⟩:=loop78 (kd:=kd) v T l [] (by simpa using h);simp only[List.nil_append,List.length_nil] at hl;have e0:((0:Nat):Int)=0:=rfl;rw[e0] at hl;cases hz:l.any (fun y=>y==v)
 all_goals
  rw[hz] at hl;simp only[cond_true,cond_false] at hl;apply tA;rfl;rfl;exact Tryz.func78;rfl;rfl;simp only[go_sem];rfl;refine tQ ?_;repeat first|with_reducible constructor|(with_reducible apply tG);kernel_rfl;intro _ _;(repeat apply tOp;intro _;simp only[go_sem];rfl);rfl;simp only[go_sem];rfl|(with_reducible apply tM);assumption
  exact fin0 rfl
end Go.Proofs.YtkmnkiekmlcfdaaGreatDoor
