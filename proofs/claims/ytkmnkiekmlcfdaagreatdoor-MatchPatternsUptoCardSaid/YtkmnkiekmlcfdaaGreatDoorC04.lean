/- Part C04 of the proof of one law of the program. -/
import Derived.Test.YtkmnkiekmlcfdaaGreatDoorC02
set_option linter.all false
namespace Go.Proofs.YtkmnkiekmlcfdaaGreatDoor
open Go.AM
section
open Go.AM
set_option maxRecDepth 100000
set_option maxHeartbeats 4000000
theorem prefix_len' {l p:List UInt8} (h:Lib.hasPrefix l p=true):p.length≤l.length:=(List.isPrefixOf_iff_prefix.1 h).length_le
theorem finS {α:Type} {X:Option (α×Sto)} {r:α} {n:Nat} {S:Sto} (hn:S.objs.length=n) (h:X=some (r,⟨S.objs.take n,S.lo⟩)):X=some (r,S):=by
 subst hn;rw[h,List.take_length]
def ComOr (x:Option (AExit×St)) (mk:Nat→Sto) (at_ len:Nat):Prop :=
 (∃ tm at',x=some (.ret,⟨tm,mk at'⟩)∧at_ < at'∧at'≤len)∨∃ tm at' a e,x=some (.pan (wrongE a e),⟨tm,mk at'⟩)
theorem ComOr.mono {x:Option (AExit×St)} {mk:Nat→Sto} {a b len:Nat} (h:ComOr x mk b len) (hab:a≤b):ComOr x mk a len:=by
 rcases h with ⟨tm,at',h1,h2,h3⟩|h
 ·exact .inl ⟨tm,at',h1,by omega,h3⟩
 ·exact .inr h
theorem loop187 {A B C:AObj} {rest:List AObj} {lo:Nat} {X:List AVal} (hlo:Nat.ble lo 3=true) (s:List UInt8) (hs:s.length < 1000) (fr:Int):∀ (m at_:Nat) (op:Int),s.length - at_≤m→at_≤s.length→-(at_:Int)≤op→op≤100 →
  ComOr (LL 187 (loopOf Tryz.f187 0) ⟨[.val (.loc 3 0),.val (.int .i64 fr),.val (.int .i64 op),.dead,.dead,.dead,.dead,.dead],⟨A::B::C::sb s at_ (.val (.amap 2)) (.own 2 X)::rest,lo⟩⟩) (fun a=>⟨A::B::C::sb s a (.val (.amap 2)) (.own 2 X)::rest,lo⟩) at_ s.length:=by
 intro m;induction m with
 |zero =>
  intro at_ op h1 h2 h3 h4;have hge:decide ((at_:Int)≥(s.length:Nat))=true:=by rw[decide_eq_true_eq];omega
  refine .inr ⟨?_,at_,fr,12,?_⟩
  rotate_left
  ·simp only[sbE]
   rw[wrongE];refine tJ rfl ?_;repeat first|with_reducible constructor|(with_reducible apply tG);kernel_rfl;intro _ _;(repeat apply tOp;intro _;simp only[go_sem];rfl);rfl;simp only[go_sem];rfl
   (with_reducible apply tT);simp only[go_sem];rfl;exact hge;refine tQ ?_;repeat with_reducible constructor
   ((with_reducible apply tP);(focus (intro _ _;(repeat (apply tOp;(focus (intro _;simp only[go_sem];rfl))));apply tOpP;simp only[go_sem];rfl)))
   repeat first|with_reducible apply tsP|with_reducible apply tbP
   exact tlP
 |succ m ih =>
  intro at_ op h1 h2 h3 h4;have hx:=fun p=>c186 (A:=A) (B:=B) (C:=C) (rest:=rest) (lo:=lo) (c3:=.val (.amap 2)) (c4:=.own 2 X) s p at_ h2
  simp only[sbE] at hx;have ha:=hx [40,42];have hb:=hx [42,41];have hw1:IntKind.i64.wrap ((at_:Int)+1)=((at_+1:Nat):Int):=by rw[wrapOk (by omega) (by omega)];omega
  have hw2:IntKind.i64.wrap ((at_:Int)+2)=((at_+2:Nat):Int):=by rw[wrapOk (by omega) (by omega)];omega
  have hw3:IntKind.i64.wrap (op+1)=op+1:=by rw[wrapOk (by omega) (by omega)]
  have hw4:IntKind.i64.wrap (op - 1)=op - 1:=by rw[wrapOk (by omega) (by omega)]
  cases hge:decide ((at_:Int)≥(s.length:Nat)) with
  |true =>
   refine .inr ⟨?_,at_,fr,12,?_⟩
   rotate_left
   ·simp only[sbE]
    rw[wrongE];refine tJ rfl ?_;repeat first|with_reducible constructor|(with_reducible apply tG);kernel_rfl;intro _ _;(repeat apply tOp;intro _;simp only[go_sem];rfl);rfl;simp only[go_sem];rfl
    (with_reducible apply tT);simp only[go_sem];rfl;exact hge;refine tQ ?_;repeat with_reducible constructor
    ((with_reducible apply tP);(focus (intro _ _;(repeat (apply tOp;(focus (intro _;simp only[go_sem];rfl))));apply tOpP;simp only[go_sem];rfl)))
    repeat first|with_reducible apply tsP|with_reducible apply tbP
    exact tlP
  |false =>
   have hlt:at_ < s.length:=by rw[decide_eq_false_iff_not] at hge;omega
   cases e1:Lib.hasPrefix (s.drop at_) [40,42] with
   |true =>
    have hl:=prefix_len' e1;simp only[List.length_drop,List.length_cons,List.length_nil] at hl;cases e2:decide (op≥100) with
    |true =>
     refine .inr ⟨?_,at_,(at_:Nat),6,?_⟩
     rotate_left
     ·simp only[sbE]
      rw[wrongE];refine tJ rfl ?_;repeat first|with_reducible constructor|(with_reducible apply tG);kernel_rfl;intro _ _;(repeat apply tOp;intro _;simp only[go_sem];rfl);rfl;simp only[go_sem];rfl
      (with_reducible apply tF);simp only[go_sem];rfl;exact hge;refine tQ ?_;repeat first|with_reducible constructor|(with_reducible apply tG);kernel_rfl;intro _ _;(repeat apply tOp;intro _;simp only[ha,go_sem];rfl);rfl;simp only[go_sem];rfl
      (with_reducible apply tT);simp only[go_sem];rfl;exact e1;refine tQ ?_;repeat first|with_reducible constructor|(with_reducible apply tG);kernel_rfl;intro _ _;(repeat apply tOp;intro _;simp only[go_sem];rfl);rfl;simp only[go_sem];rfl
      (with_reducible apply tT);simp only[go_sem];rfl;exact e2;refine tQ ?_;repeat with_reducible constructor
      ((with_reducible apply tP);(focus (intro _ _;(repeat (apply tOp;(focus (intro _;simp only[go_sem];rfl))));apply tOpP;simp only[go_sem];rfl)))
      repeat first|with_reducible apply tsP|with_reducible apply tbP
      exact tlP
    |false =>
     rw[decide_eq_false_iff_not] at e2;have e2':decide (op≥100)=false:=by rw[decide_eq_false_iff_not];exact e2
     have key:=(ih (at_+2) (op+1) (by omega) (by omega) (by omega) (by omega)).mono (a:=at_) (by omega)
     suffices hh:LL 187 (loopOf Tryz.f187 0) ⟨[.val (.loc 3 0),.val (.int .i64 fr),.val (.int .i64 op),.dead,.dead,.dead,.dead,.dead],⟨A::B::C::sb s at_ (.val (.amap 2)) (.own 2 X)::rest,lo⟩⟩=LL 187 (loopOf Tryz.f187 0) ⟨[.val (.loc 3 0),.val (.int .i64 fr),.val (.int .i64 (op+1)),.dead,.dead,.dead,.dead,.dead],⟨A::B::C::sb s (at_+2) (.val (.amap 2)) (.own 2 X)::rest,lo⟩⟩ by
      rw[hh];exact key
     rcases key with ⟨tm,at',hk,_,_⟩|⟨tm,at',a,e,hk⟩
     all_goals
      rw[hk];simp only[sbE] at hk ⊢;refine tJ rfl ?_;repeat first|with_reducible constructor|(with_reducible apply tG);kernel_rfl;intro _ _;(repeat apply tOp;intro _;simp only[go_sem];rfl);rfl;simp only[go_sem];rfl
      (with_reducible apply tF);simp only[go_sem];rfl;exact hge;refine tQ ?_;repeat first|with_reducible constructor|(with_reducible apply tG);kernel_rfl;intro _ _;(repeat apply tOp;intro _;simp only[ha,go_sem];rfl);rfl;simp only[go_sem];rfl
      (with_reducible apply tT);simp only[go_sem];rfl;exact e1;refine tQ ?_;repeat first|with_reducible constructor|(with_reducible apply tG);kernel_rfl;intro _ _;(repeat apply tOp;intro _;simp only[go_sem];rfl);rfl;simp only[go_sem];rfl
      (with_reducible apply tF);simp only[go_sem];rfl;exact e2';refine tQ ?_;repeat first|with_reducible constructor|(with_reducible apply tG);kernel_rfl;intro _ _;(repeat apply tOp;intro _;simp only[hw2,hw3,List.set_cons_succ,List.set_cons_zero,hlo,go_sem];rfl);rfl;simp only[go_sem];rfl
      exact hk
   |false =>
    cases e3:Lib.hasPrefix (s.drop at_) [42,41] with
    |true =>
     have hl:=prefix_len' e3;simp only[List.length_drop,List.length_cons,List.length_nil] at hl;cases e4:(op - 1==0) with
     |true =>
      refine .inl ⟨?_,at_+2,?_,by omega,by omega⟩
      rotate_left
      ·simp only[sbE]
       refine tJ rfl ?_;repeat first|with_reducible constructor|(with_reducible apply tG);kernel_rfl;intro _ _;(repeat apply tOp;intro _;simp only[go_sem];rfl);rfl;simp only[go_sem];rfl
       (with_reducible apply tF);simp only[go_sem];rfl;exact hge;refine tQ ?_;repeat first|with_reducible constructor|(with_reducible apply tG);kernel_rfl;intro _ _;(repeat apply tOp;intro _;simp only[ha,go_sem];rfl);rfl;simp only[go_sem];rfl
       (with_reducible apply tF);simp only[go_sem];rfl;exact e1;refine tQ ?_;repeat first|with_reducible constructor|(with_reducible apply tG);kernel_rfl;intro _ _;(repeat apply tOp;intro _;simp only[hb,go_sem];rfl);rfl;simp only[go_sem];rfl
       (with_reducible apply tT);simp only[go_sem];rfl;exact e3;refine tQ ?_;repeat first|with_reducible constructor|(with_reducible apply tG);kernel_rfl;intro _ _;(repeat apply tOp;intro _;simp only[hw2,hw4,List.set_cons_succ,List.set_cons_zero,hlo,go_sem];rfl);rfl;simp only[go_sem];rfl
       (with_reducible apply tT);simp only[go_sem];rfl;exact e4;refine tQ ?_;repeat first|with_reducible constructor|(with_reducible apply tG);kernel_rfl;intro _ _;(repeat apply tOp;intro _;simp only[go_sem];rfl);rfl;simp only[go_sem];rfl
       exact tlE
     |false =>
      have key:=(ih (at_+2) (op - 1) (by omega) (by omega) (by omega) (by omega)).mono (a:=at_) (by omega)
      suffices hh:LL 187 (loopOf Tryz.f187 0) ⟨[.val (.loc 3 0),.val (.int .i64 fr),.val (.int .i64 op),.dead,.dead,.dead,.dead,.dead],⟨A::B::C::sb s at_ (.val (.amap 2)) (.own 2 X)::rest,lo⟩⟩=LL 187 (loopOf Tryz.f187 0) ⟨[.val (.loc 3 0),.val (.int .i64 fr),.val (.int .i64 (op - 1)),.dead,.dead,.dead,.dead,.dead],⟨A::B::C::sb s (at_+2) (.val (.amap 2)) (.own 2 X)::rest,lo⟩⟩ by
       rw[hh];exact key
      rcases key with ⟨tm,at',hk,_,_⟩|⟨tm,at',a,e,hk⟩
      all_goals
       rw[hk];simp only[sbE] at hk ⊢;refine tJ rfl ?_;repeat first|with_reducible constructor|(with_reducible apply tG);kernel_rfl;intro _ _;(repeat apply tOp;intro _;simp only[go_sem];rfl);rfl;simp only[go_sem];rfl
       (with_reducible apply tF);simp only[go_sem];rfl;exact hge;refine tQ ?_;repeat first|with_reducible constructor|(with_reducible apply tG);kernel_rfl;intro _ _;(repeat apply tOp;intro _;simp only[ha,go_sem];rfl);rfl;simp only[go_sem];rfl
       (with_reducible apply tF);simp only[go_sem];rfl;exact e1;refine tQ ?_;repeat first|with_reducible constructor|(with_reducible apply tG);kernel_rfl;intro _ _;(repeat apply tOp;intro _;simp only[hb,go_sem];rfl);rfl;simp only[go_sem];rfl
       (with_reducible apply tT);simp only[go_sem];rfl;exact e3;refine tQ ?_;repeat first|with_reducible constructor|(with_reducible apply tG);kernel_rfl;intro _ _;(repeat apply tOp;intro _;simp only[hw2,hw4,List.set_cons_succ,List.set_cons_zero,hlo,go_sem];rfl);rfl;simp only[go_sem];rfl
       (with_reducible apply tF);simp only[go_sem];rfl;exact e4;refine tQ ?_;repeat first|with_reducible constructor|(with_reducible apply tG);kernel_rfl;intro _ _;(repeat apply tOp;intro _;simp only[go_sem];rfl);rfl;simp only[go_sem];rfl
       exact hk
    |false =>
     have key:=(ih (at_+1) op (by omega) (by omega) (by omega) (by omega)).mono (a:=at_) (by omega)
     suffices hh:LL 187 (loopOf Tryz.f187 0) ⟨[.val (.loc 3 0),.val (.int .i64 fr),.val (.int .i64 op),.dead,.dead,.dead,.dead,.dead],⟨A::B::C::sb s at_ (.val (.amap 2)) (.own 2 X)::rest,lo⟩⟩=LL 187 (loopOf Tryz.f187 0) ⟨[.val (.loc 3 0),.val (.int .i64 fr),.val (.int .i64 op),.dead,.dead,.dead,.dead,.dead],⟨A::B::C::sb s (at_+1) (.val (.amap 2)) (.own 2 X)::rest,lo⟩⟩ by
      rw[hh];exact key
     rcases key with ⟨tm,at',hk,_,_⟩|⟨tm,at',a,e,hk⟩
     all_goals
      rw[hk];simp only[sbE] at hk ⊢;refine tJ rfl ?_;repeat first|with_reducible constructor|(with_reducible apply tG);kernel_rfl;intro _ _;(repeat apply tOp;intro _;simp only[go_sem];rfl);rfl;simp only[go_sem];rfl
      (with_reducible apply tF);simp only[go_sem];rfl;exact hge;refine tQ ?_;repeat first|with_reducible constructor|(with_reducible apply tG);kernel_rfl;intro _ _;(repeat apply tOp;intro _;simp only[ha,go_sem];rfl);rfl;simp only[go_sem];rfl
      (with_reducible apply tF);simp only[go_sem];rfl;exact e1;refine tQ ?_;repeat first|with_reducible constructor|(with_reducible apply tG);kernel_rfl;intro _ _;(repeat apply tOp;intro _;simp only[hb,go_sem];rfl);rfl;simp only[go_sem];rfl
      (with_reducible apply tF);simp only[go_sem];rfl;exact e3;refine tQ ?_;repeat first|with_reducible constructor|(with_reducible apply tG);kernel_rfl;intro _ _;(repeat apply tOp;intro _;simp only[hw1,List.set_cons_succ,List.set_cons_zero,hlo,go_sem];rfl);rfl;simp only[go_sem];rfl
      exact hk
def MovOr (x:Option (ARes×Sto)) (mk:Nat→Sto) (at_ len:Nat):Prop :=
 (∃ at',x=some (.ret (.tup []),mk at')∧at_ < at'∧at'≤len)∨∃ at' a e,x=some (.pan (wrongE a e),mk at')
theorem c187 {A B C:AObj} {rest:List AObj} {lo:Nat} {X:List AVal} (hlo:Nat.ble lo 3=true) (s:List UInt8) (hs:s.length < 1000) (at_:Nat) (h:at_≤s.length) :
  MovOr (CL (.fn 187) [.val (.loc 3 0)] ⟨A::B::C::sb s at_ (.val (.amap 2)) (.own 2 X)::rest,lo⟩) (fun a=>⟨A::B::C::sb s a (.val (.amap 2)) (.own 2 X)::rest,lo⟩) at_ s.length:=by
 rcases loop187 (A:=A) (B:=B) (C:=C) (rest:=rest) (X:=X) hlo s hs (at_:Nat) _ at_ 0 (Nat.le_refl _) h (by omega) (by omega) with ⟨tm,at',hk,h1,h2⟩|⟨tm,at',a,e,hk⟩
 ·refine .inl ⟨at',?_,h1,h2⟩
  simp only[sbE] at hk ⊢;apply tA;rfl;rfl;exact Tryz.func187;rfl;rfl;simp only[go_sem];rfl;refine tQ ?_;repeat first|with_reducible constructor|(with_reducible apply tG);kernel_rfl;intro _ _;(repeat apply tOp;intro _;simp only[go_sem];rfl);rfl;simp only[go_sem];rfl|(with_reducible apply tM);assumption
  exact finS rfl rfl
 ·refine .inr ⟨at',a,e,?_⟩
  simp only[sbE] at hk ⊢;apply tA;rfl;rfl;exact Tryz.func187;rfl;rfl;simp only[go_sem];rfl;refine tQ ?_;repeat first|with_reducible constructor|(with_reducible apply tG);kernel_rfl;intro _ _;(repeat apply tOp;intro _;simp only[go_sem];rfl);rfl;simp only[go_sem];rfl
  apply tL;exact hk;repeat first|with_reducible apply tsP|with_reducible apply tbP
  rfl
end
section
open Go.AM
set_option maxRecDepth 100000
set_option maxHeartbeats 4000000
def scn (A B C:AObj) (rest:List AObj) (lo:Nat) (s:List UInt8) (at_:Nat) (X:List AVal):Sto:=⟨A::B::C::sb s at_ (.val (.amap 2)) (.own 2 X)::rest,lo⟩
theorem scnE (A B C:AObj) (rest:List AObj) (lo:Nat) (s:List UInt8) (at_:Nat) (X:List AVal):scn A B C rest lo s at_ X=⟨A::B::C::.box [.val (.str s),.val (.int .i64 (at_:Nat)),.val (.amap 2),.own 2 X]::rest,lo⟩:=rfl
def Stay (s:List UInt8) (at_:Nat):Prop:=runN spaceI s at_=0∧Lib.hasPrefix (s.drop at_) [40,42]=false
def PassL (x:Option (AExit×St)) (mk:Nat→List AVal→Sto) (at_ len:Nat) (S:Prop):Prop :=
 (∃ tm at' X',x=some (.ret,⟨tm,mk at' X'⟩)∧at_≤at'∧at'≤len∧X'.length≤at'∧(S→at'=at_))∨∃ tm at' X' a e,x=some (.pan (wrongE a e),⟨tm,mk at' X'⟩)∧¬ S
theorem PassL.mono {x:Option (AExit×St)} {mk:Nat→List AVal→Sto} {a b len:Nat} {S S':Prop} (h:PassL x mk b len S') (hab:a≤b) (hS:¬ S):PassL x mk a len S:=by
 rcases h with ⟨tm,at',X',h1,h2,h3,h4,_⟩|⟨tm,at',X',a,e,h1,_⟩
 ·exact .inl ⟨tm,at',X',h1,by omega,h3,h4,fun h=>absurd h hS⟩
 ·exact .inr ⟨tm,at',X',a,e,h1,hS⟩
theorem loop180 {A B C:AObj} {rest:List AObj} {lo:Nat} (hlo:Nat.ble lo 3=true) (s:List UInt8) (hs:s.length < 1000):∀ (m at_:Nat) (X:List AVal),s.length - at_ < m→at_≤s.length→X.length≤at_ →
  PassL (LL 180 (loopOf Tryz.f180 0) ⟨[.val (.loc 3 0),.dead,.dead],scn A B C rest lo s at_ X⟩) (scn A B C rest lo s) at_ s.length (Stay s at_):=by
 have g185:(ans 185).ownArg=[]:=by rw[an185]
 intro m;induction m with
 |zero=>intro at_ X h1;omega
 |succ m ih =>
  intro at_ X h1 h2 h3;have hn1:=runN_le spaceI s at_;have h184:=fun lo=>c184 (A:=A) (B:=B) (C:=C) (rest:=rest) (lo:=lo) (c3:=.val (.amap 2)) (c4:=.own 2 X) 185 g185 spaceI c185 s at_ 0 0 rfl (by omega)
  simp only[Nat.add_zero] at h184;generalize hn:runN spaceI s at_=n at *;have hw1:IntKind.i64.wrap ((at_:Int)+(n:Int))=((at_+n:Nat):Int):=by rw[wrapOk (by omega) (by omega)];omega
  have ha:=c186 (A:=A) (B:=B) (C:=C) (rest:=rest) (lo:=lo) (c3:=.val (.amap 2)) (c4:=.own 2 X) s [40,42] (at_+n) (by omega);have hc:=c187 (A:=A) (B:=B) (C:=C) (rest:=rest) (lo:=lo) (X:=X) hlo s hs (at_+n) (by omega);simp only[sbE,MovOr] at h184 ha hc;cases e1:Lib.hasPrefix (s.drop (at_+n)) [40,42] with
  |false =>
   refine .inl ⟨?_,at_+n,X,?_,by omega,by omega,by omega,fun hS=>by have:=hS.1;omega⟩
   rotate_left
   ·simp only[scnE]
    refine tJ rfl ?_;repeat first|with_reducible constructor|(with_reducible apply tG);kernel_rfl;intro _ _;(repeat apply tOp;intro _;simp only[h184,hw1,List.set_cons_succ,List.set_cons_zero,hlo,go_sem];rfl);rfl;simp only[go_sem];rfl
    refine tQ ?_;repeat first|with_reducible constructor|(with_reducible apply tG);kernel_rfl;intro _ _;(repeat apply tOp;intro _;simp only[ha,e1,go_sem];rfl);rfl;simp only[go_sem];rfl|(with_reducible apply t1);rfl;trivial
    exact tlE
  |true =>
   have hS:¬ Stay s at_:=fun hS=>by
    have h0:n=0:=by have:=hS.1;omega
    rw[h0,Nat.add_zero,hS.2] at e1;cases e1
   rcases hc with ⟨at',hc,hc1,hc2⟩|⟨at',a,e,hc⟩
   ·have hroom:Nat.ble (X.length+1) room=true:=Nat.ble_eq_true_of_le (by unfold room;omega)
    have key:=(ih at' (X++[.agg [.int .i64 ((at_+n:Nat):Int),.int .i64 (at':Nat)]]) (by omega) hc2 (by simp only[List.length_append,List.length_singleton];omega)).mono (a:=at_) (S:=Stay s at_) (by omega) hS
    suffices hh:LL 180 (loopOf Tryz.f180 0) ⟨[.val (.loc 3 0),.dead,.dead],scn A B C rest lo s at_ X⟩=LL 180 (loopOf Tryz.f180 0) ⟨[.val (.loc 3 0),.dead,.dead],scn A B C rest lo s at' (X++[.agg [.int .i64 ((at_+n:Nat):Int),.int .i64 (at':Nat)]])⟩ by
     rw[hh];exact key
    rcases key with ⟨tm,at'',X'',hk,_⟩|⟨tm,at'',X'',a,e,hk,_⟩
    all_goals
     rw[hk];simp only[scnE] at hk ⊢;refine tJ rfl ?_;repeat first|with_reducible constructor|(with_reducible apply tG);kernel_rfl;intro _ _;(repeat apply tOp;intro _;simp only[h184,hw1,List.set_cons_succ,List.set_cons_zero,hlo,go_sem];rfl);rfl;simp only[go_sem];rfl
     refine tQ ?_;repeat first|with_reducible constructor|(with_reducible apply tG);kernel_rfl;intro _ _;(repeat apply tOp;intro _;simp only[ha,e1,hc,hroom,List.set_cons_succ,List.set_cons_zero,hlo,setElems,clean,flat,List.replicate,go_sem];rfl);rfl;simp only[go_sem];rfl|(with_reducible apply t0);rfl;trivial
     exact hk
   ·refine .inr ⟨?_,at',X,a,e,?_,hS⟩
    rotate_left
    ·simp only[scnE,wrongE] at hc ⊢
     refine tJ rfl ?_;repeat first|with_reducible constructor|(with_reducible apply tG);kernel_rfl;intro _ _;(repeat apply tOp;intro _;simp only[h184,hw1,List.set_cons_succ,List.set_cons_zero,hlo,go_sem];rfl);rfl;simp only[go_sem];rfl
     refine tQ ?_;repeat first|with_reducible constructor|(with_reducible apply tG);kernel_rfl;intro _ _;(repeat apply tOp;intro _;simp only[ha,e1,go_sem];rfl);rfl;simp only[go_sem];rfl|(with_reducible apply t0);rfl;trivial
     ((with_reducible apply tP);(focus (intro _ _;(repeat (apply tOp;(focus (intro _;simp only[hc,go_sem];rfl))));apply tOpP;simp only[hc,go_sem];rfl)))
     repeat first|with_reducible apply tsP|with_reducible apply tbP
     exact tlP
def PassOr (x:Option (ARes×Sto)) (mk:Nat→List AVal→Sto) (at_ len:Nat) (S:Prop):Prop :=
 (∃ at' X',x=some (.ret (.tup []),mk at' X')∧at_≤at'∧at'≤len∧X'.length≤at'∧(S→at'=at_))∨∃ at' X' a e,x=some (.pan (wrongE a e),mk at' X')∧¬ S
theorem c180 {A B C:AObj} {rest:List AObj} {lo:Nat} (hlo:Nat.ble lo 3=true) (s:List UInt8) (hs:s.length < 1000) (at_:Nat) (X:List AVal) (h:at_≤s.length) (hX:X.length≤at_) :
  PassOr (CL (.fn 180) [.val (.loc 3 0)] (scn A B C rest lo s at_ X)) (scn A B C rest lo s) at_ s.length (Stay s at_):=by
 rcases loop180 (A:=A) (B:=B) (C:=C) (rest:=rest) hlo s hs _ at_ X (Nat.lt_succ_self _) h hX with ⟨tm,at',X',hk,h1⟩|⟨tm,at',X',a,e,hk,h1⟩
 ·refine .inl ⟨at',X',?_,h1⟩
  simp only[scnE] at hk ⊢;apply tA;rfl;rfl;exact Tryz.func180;rfl;rfl;simp only[go_sem];rfl;refine tQ ?_;repeat first|with_reducible constructor|(with_reducible apply tG);kernel_rfl;intro _ _;(repeat apply tOp;intro _;simp only[go_sem];rfl);rfl;simp only[go_sem];rfl|(with_reducible apply tM);assumption
  exact finS rfl rfl
 ·refine .inr ⟨at',X',a,e,?_,h1⟩
  simp only[scnE] at hk ⊢;apply tA;rfl;rfl;exact Tryz.func180;rfl;rfl;simp only[go_sem];rfl;refine tQ ?_;repeat first|with_reducible constructor|(with_reducible apply tG);kernel_rfl;intro _ _;(repeat apply tOp;intro _;simp only[go_sem];rfl);rfl;simp only[go_sem];rfl
  apply tL;exact hk;repeat first|with_reducible apply tsP|with_reducible apply tbP
  rfl
end
end Go.Proofs.YtkmnkiekmlcfdaaGreatDoor
