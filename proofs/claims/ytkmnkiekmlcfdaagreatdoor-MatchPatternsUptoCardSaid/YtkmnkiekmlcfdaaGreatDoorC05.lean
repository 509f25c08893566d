/- Part C05 of the proof of one law of the program. -/
import Derived.Test.YtkmnkiekmlcfdaaGreatDoorC03
import Derived.Test.YtkmnkiekmlcfdaaGreatDoorC04
set_option linter.all false
namespace Go.Proofs.YtkmnkiekmlcfdaaGreatDoor
open Go.AM
section
open Go.AM
set_option maxRecDepth 100000
set_option maxHeartbeats 4000000
noncomputable def loopS (s:List UInt8):AObj:=.loop (rloop 173 Tryz.f173 0 [.val (.str s),.val (.loc 3 0),.val (.loc 0 0),.val (.loc 1 0),.dead,.val (.func 179 [.loc 4 0]),.dead] none .ready)
theorem loopSE (s:List UInt8):loopS s=.loop (rloop 173 Tryz.f173 0 [.val (.str s),.val (.loc 3 0),.val (.loc 0 0),.val (.loc 1 0),.dead,.val (.func 179 [.loc 4 0]),.dead] none .ready):=rfl
def zeroW:AObj:=.box [.val (.int .i64 0),.val (.int .i64 0)]
theorem y173 (s:List UInt8) (L:List AVal) (hL:L.length < 1000) (B C D E:AObj) (kind num:Int) (txt:List UInt8) (at_:Nat) :
  CL (.yld 5) [.val (tokE kind num txt at_)] ⟨[.box [.own 4 L],B,C,D,E,loopS s],0⟩=some (.ret (.val (.bool true)),⟨[.box [.own 4 (L++[tokE kind num txt at_])],B,C,D,E,loopS s],0⟩):=by
 have hroom:Nat.ble (L.length+1) room=true:=Nat.ble_eq_true_of_le (by unfold room;omega);simp only[loopSE,tokE];apply tY
 ·(simp only[FL,FO,Nat.reduceAdd];try rfl)
 ·rfl
 ·kernel_rfl
 ·first|assumption|(apply Nat.ble_eq_true_of_le;(try simp only[FL,FO,Nat.reduceAdd]);omega)
 ·(simp only[setParams,List.zip,List.zipWith,List.reverse_cons,List.reverse_nil,go_sem];rfl)
 refine tQ ?_;repeat first|with_reducible constructor|(with_reducible apply tG);kernel_rfl;intro _ _;(repeat apply tOp;intro _;simp only[List.getElem?_cons_succ,List.getElem?_cons_zero,go_sem];rfl);rfl;simp only[go_sem];rfl
 apply ty1
 ·(simp only[FL,FO,Nat.reduceAdd];try rfl)
 ·(simp only[FL,FO,Nat.reduceAdd];try rfl)
 refine tQ ?_;repeat first|with_reducible constructor|(with_reducible apply tG);kernel_rfl;intro _ _;(repeat apply tOp;intro _;simp only[List.set_cons_succ,List.set_cons_zero,hroom,setElems,clean,flat,List.replicate,go_sem];rfl);rfl;simp only[go_sem];rfl
 apply ty2n
 ·(simp only[FL,FO,Nat.reduceAdd];try rfl)
 ·(simp only[FL,FO,Nat.reduceAdd];try rfl)
end
section
open Go.AM
set_option maxRecDepth 100000
set_option maxHeartbeats 4000000
noncomputable def stS (s:List UInt8) (L:List AVal) (at_:Nat) (X:List AVal):Sto:=scn (.box [.own 4 L]) zeroW (.map wordM) [.box [.val (.loc 3 0)],loopS s] 0 s at_ X
theorem stSE (s:List UInt8) (L:List AVal) (at_:Nat) (X:List AVal):stS s L at_ X=⟨[.box [.own 4 L],zeroW,.map wordM,.box [.val (.str s),.val (.int .i64 (at_:Nat)),.val (.amap 2),.own 2 X],.box [.val (.loc 3 0)],loopS s],0⟩:=rfl
def IsTok (s:List UInt8) (x:AVal):Prop:=∃ kind num txt at_,x=tokE kind num txt at_∧TokQ s at_ kind txt∧at_+txt.length≤s.length
def One (s:List UInt8) (at_:Nat):Prop:=at_ < s.length∧¬ TokR s at_∧∀ kd txt,TokQ s at_ kd txt→at_+txt.length=s.length
theorem stay_end (s:List UInt8):Stay s s.length:=by
 unfold Stay runN;rw[List.drop_length];exact ⟨rfl,rfl⟩
def AllL (x:Option (AExit×St)) (s:List UInt8) (at_:Nat) (L:List AVal):Prop :=
 (∃ tm at' X' M,x=some (.exit 0,⟨tm,stS s (L++M) at' X'⟩)∧(L++M).length≤s.length∧(∀ t∈M,IsTok s t)∧(at_=s.length→M=[])∧(One s at_→∃ kd num txt,M=[tokE kd num txt at_]∧TokQ s at_ kd txt)) ∨
 ∃ tm at' X' L' a e,x=some (.pan (wrongE a e),⟨tm,stS s L' at' X'⟩)∧at_≠s.length∧¬ One s at_
theorem loop179 (s:List UInt8) (hs:s.length < 900):∀ (m at_:Nat) (X L:List AVal),s.length - at_ < m→at_≤s.length→X.length≤at_→L.length≤at_ →
  AllL (LL 179 (loopOf Tryz.f179 0) ⟨[.val (.yld 5),.val (.loc 4 0),.dead,.dead,.dead],stS s L at_ X⟩) s at_ L:=by
 intro m;induction m with
 |zero=>intro at_ X L h1;omega
 |succ m ih =>
  intro at_ X L h1 h2 h3 h4;cases hlt:decide ((at_:Int) < (s.length:Nat)) with
  |false =>
   refine .inl ⟨?_,at_,X,[],?_,by rw[List.append_nil];omega,fun t h=>(by cases h),fun _=>rfl,fun h=>(by have:=h.1;rw[decide_eq_false_iff_not] at hlt;omega)⟩
   rotate_left
   ·rw[List.append_nil]
    simp only[stSE];refine tJ rfl ?_;repeat first|with_reducible constructor|(with_reducible apply tG);kernel_rfl;intro _ _;(repeat apply tOp;intro _;simp only[go_sem];rfl);rfl;simp only[go_sem];rfl|(with_reducible apply t0);rfl;trivial
    exact tlX
  |true =>
   have hlt':at_ < s.length:=by rw[decide_eq_true_eq] at hlt;omega
   have ht:=c181 (A:=.box [.own 4 L]) (B:=zeroW) (rest:=[.box [.val (.loc 3 0)],loopS s]) (lo:=0) (c4:=.own 2 X) s at_ hlt' (by omega);rcases ht with ⟨kind,num,txt,ht,ht1,ht2,htq⟩|⟨a,e,ht,htr⟩
   ·have hw1:IntKind.i64.wrap ((at_:Int)+((txt.length:Nat):Int))=((at_+txt.length:Nat):Int):=by rw[wrapOk (by omega) (by omega)];omega
    have hy:=y173 s L (by omega) zeroW (.map wordM) (.box [.val (.str s),.val (.int .i64 ((at_+txt.length:Nat):Int)),.val (.amap 2),.own 2 X]) (.box [.val (.loc 3 0)]) kind num txt at_;have hp:=c180 (A:=.box [.own 4 (L++[tokE kind num txt at_])]) (B:=zeroW) (C:=.map wordM) (rest:=[.box [.val (.loc 3 0)],loopS s]) (lo:=0) rfl s (by omega) (at_+txt.length) X ht2 (by omega);rw[sbE] at ht;rcases hp with ⟨at',X',hp,hp1,hp2,hp3,hp4⟩|⟨at',X',a,e,hp,hp4⟩
    ·have hone:One s at_→at'=s.length:=fun ho=>by
      have hx:=ho.2.2 _ _ htq;rw[hx] at hp4;exact hp4 (stay_end s)
     have key:=ih at' X' (L++[tokE kind num txt at_]) (by omega) hp2 hp3 (by rw[List.length_append,List.length_singleton];omega)
     replace key:AllL (LL 179 (loopOf Tryz.f179 0) ⟨[.val (.yld 5),.val (.loc 4 0),.dead,.dead,.dead],stS s (L++[tokE kind num txt at_]) at' X'⟩) s at_ L:=by
      rcases key with ⟨tm,at'',X'',M,k1,k2,k3,k4,k5⟩|⟨tm,at'',X'',L'',a,e,k1,k2,k3⟩
      ·rw[List.append_assoc] at k1 k2
       refine .inl ⟨tm,at'',X'',[tokE kind num txt at_]++M,k1,k2,fun t h=>?_,fun h=>by omega,fun h=>?_⟩
       ·rcases List.mem_append.1 h with h|h
        ·exact ⟨kind,num,txt,at_,List.mem_singleton.1 h,htq,ht2⟩
        ·exact k3 t h
       ·rw[k4 (hone h)]
        exact ⟨kind,num,txt,rfl,htq⟩
      ·exact .inr ⟨tm,at'',X'',L'',a,e,k1,by omega,fun h=>k2 (hone h)⟩
     suffices hh:LL 179 (loopOf Tryz.f179 0) ⟨[.val (.yld 5),.val (.loc 4 0),.dead,.dead,.dead],stS s L at_ X⟩=LL 179 (loopOf Tryz.f179 0) ⟨[.val (.yld 5),.val (.loc 4 0),.dead,.dead,.dead],stS s (L++[tokE kind num txt at_]) at' X'⟩ by
      rw[hh];exact key
     rcases key with ⟨tm,at'',X'',L'',hk,_⟩|⟨tm,at'',X'',L'',a,e,hk,_⟩
     all_goals
      rw[hk];simp only[stSE,scnE,tokE] at hk ht hy hp ⊢;refine tJ rfl ?_;repeat first|with_reducible constructor|(with_reducible apply tG);kernel_rfl;intro _ _;(repeat apply tOp;intro _;simp only[ht,hw1,List.set_cons_succ,List.set_cons_zero,hy,hp,go_sem];rfl);rfl;simp only[go_sem];rfl|(with_reducible apply t1);rfl;trivial|(with_reducible apply t0);rfl;trivial
      exact hk
    ·refine .inr ⟨?_,at',X',L++[tokE kind num txt at_],a,e,?_,by omega,fun h=>hp4 (by rw[h.2.2 _ _ htq];exact stay_end s)⟩
     rotate_left
     ·simp only[stSE,scnE,tokE,wrongE] at ht hy hp ⊢
      refine tJ rfl ?_;repeat first|with_reducible constructor|(with_reducible apply tG);kernel_rfl;intro _ _;(repeat apply tOp;intro _;simp only[ht,hw1,List.set_cons_succ,List.set_cons_zero,hy,go_sem];rfl);rfl;simp only[go_sem];rfl|(with_reducible apply t1);rfl;trivial|(with_reducible apply t0);rfl;trivial
      ((with_reducible apply tP);(focus (intro _ _;(repeat (apply tOp;(focus (intro _;simp only[hp,go_sem];rfl))));apply tOpP;simp only[hp,go_sem];rfl)))
      repeat first|with_reducible apply tsP|with_reducible apply tbP
      exact tlP
   ·refine .inr ⟨?_,at_,X,L,a,e,?_,by omega,fun h=>h.2.1 htr⟩
    rotate_left
    ·rw[sbE] at ht
     simp only[stSE,scnE,wrongE] at ht ⊢;refine tJ rfl ?_;repeat first|with_reducible constructor|(with_reducible apply tG);kernel_rfl;intro _ _;(repeat apply tOp;intro _;simp only[go_sem];rfl);rfl;simp only[go_sem];rfl|(with_reducible apply t1);rfl;trivial
     ((with_reducible apply tP);(focus (intro _ _;(repeat (apply tOp;(focus (intro _;simp only[ht,go_sem];rfl))));apply tOpP;simp only[ht,go_sem];rfl)))
     repeat first|with_reducible apply tsP|with_reducible apply tbP
     exact tlP
def Sole (s:List UInt8):Prop:=One s 0∧Stay s 0
def AllOr (x:Option (ARes×Sto)) (s:List UInt8):Prop :=
 (∃ at' X' L',x=some (.ret (.tup []),stS s L' at' X')∧L'.length≤s.length∧(∀ t∈L',IsTok s t)∧(Sole s→∃ kd num txt,L'=[tokE kd num txt 0]∧TokQ s 0 kd txt))∨∃ at' X' L' a e,x=some (.pan (wrongE a e),stS s L' at' X')∧¬ Sole s
theorem c179 (s:List UInt8) (hs:s.length < 900):AllOr (CL (.fn 179) [.val (.yld 5),.val (.loc 4 0)] (stS s [] 0 [])) s:=by
 have hp:=c180 (A:=.box [.own 4 []]) (B:=zeroW) (C:=.map wordM) (rest:=[.box [.val (.loc 3 0)],loopS s]) (lo:=0) rfl s (by omega) 0 [] (by omega) (Nat.le_refl _);rcases hp with ⟨at',X',hp,hp1,hp2,hp3,hp4⟩|⟨at',X',a,e,hp,hp4⟩
 ·rcases loop179 s hs _ at' X' [] (Nat.lt_succ_self _) hp2 hp3 (Nat.zero_le _) with ⟨tm,at'',X'',L'',hk,h1,h2,_,h3⟩|⟨tm,at'',X'',L'',a,e,hk,_,h3⟩
  ·rw[List.nil_append] at hk h1
   refine .inl ⟨at'',X'',L'',?_,h1,h2,fun h=>(by rw[hp4 h.2] at h3;exact h3 h.1)⟩;simp only[stSE,scnE] at hk hp ⊢;apply tA;rfl;rfl;exact Tryz.func179;rfl;rfl;simp only[go_sem];rfl;refine tQ ?_;repeat first|with_reducible constructor|(with_reducible apply tG);kernel_rfl;intro _ _;(repeat apply tOp;intro _;simp only[hp,go_sem];rfl);rfl;simp only[go_sem];rfl|(with_reducible apply tM);assumption
   exact finS rfl rfl
  ·refine .inr ⟨at'',X'',L'',a,e,?_,fun h=>(by rw[hp4 h.2] at h3;exact h3 h.1)⟩
   simp only[stSE,scnE] at hk hp ⊢;apply tA;rfl;rfl;exact Tryz.func179;rfl;rfl;simp only[go_sem];rfl;refine tQ ?_;repeat first|with_reducible constructor|(with_reducible apply tG);kernel_rfl;intro _ _;(repeat apply tOp;intro _;simp only[hp,go_sem];rfl);rfl;simp only[go_sem];rfl
   apply tL;exact hk;repeat first|with_reducible apply tsP|with_reducible apply tbP
   rfl
 ·refine .inr ⟨at',X',[],a,e,?_,fun h=>hp4 h.2⟩
  simp only[stSE,scnE,wrongE] at hp ⊢;apply tA;rfl;rfl;exact Tryz.func179;rfl;rfl;simp only[go_sem];rfl;refine tQ ?_;repeat first|with_reducible constructor|(with_reducible apply tG);kernel_rfl;intro _ _;(repeat apply tOp;intro _;simp only[go_sem];rfl);rfl;simp only[go_sem];rfl
  ((with_reducible apply tP);(focus (intro _ _;(repeat (apply tOp;(focus (intro _;simp only[hp,go_sem];rfl))));apply tOpP;simp only[hp,go_sem];rfl)))
  repeat first|with_reducible apply tsP|with_reducible apply tbP
  rfl
end
section
open Go.AM
set_option maxRecDepth 100000
set_option maxHeartbeats 4000000
theorem c175 (s:List UInt8) (A B:AObj):CL (.fn 175) [.val (.str s)] ⟨[A,B],0⟩=some (.ret (.val (.loc 3 0)),⟨[A,B,.map wordM,.box [.val (.str s),.val (.int .i64 0),.val (.amap 2),.own 2 []]],0⟩) :=
 cfW_some.2 ⟨30,by kernel_rfl⟩
theorem c177 (A B C D:AObj):CL (.fn 177) [.val (.loc 3 0)] ⟨[A,B,C,D],0⟩=some (.ret (.val (.func 179 [.loc 4 0])),⟨[A,B,C,D,.box [.val (.loc 3 0)]],0⟩) :=
 cfW_some.2 ⟨30,by kernel_rfl⟩
noncomputable def b173:Code:=(Tryz.f173.body).getD .skip
noncomputable def q0:Code:=fstC b173
noncomputable def q1:Code:=fstC (sndC b173)
noncomputable def q2:Code:=fstC (sndC (sndC b173))
noncomputable def q3:Code:=fstC (fstC (sndC (sndC (sndC b173))))
noncomputable def q4:Code:=inB (sndC (fstC (sndC (sndC (sndC b173)))))
noncomputable def q5:Code:=sndC (sndC (sndC (sndC b173)))
theorem b173E:Tryz.f173.body=some (.seq q0 (.seq q1 (.seq q2 (.seq (.seq q3 (.block 0 q4)) q5)))):=by kernel_rfl
def rec_:AExit→St→Option (AExit×St):=fun e st=>some (e,st)
theorem h0 (s:List UInt8):XK Tryz.prog ans CL LL 173 q0 ⟨[.val (.str s),.dead,.dead,.dead,.dead,.dead,.dead],⟨[],0⟩⟩ rec_=some (.norm,⟨[.val (.str s),.val .nilptr,.val (.loc 0 0),.val (.loc 1 0),.dead,.dead,.dead],⟨[.box [.own 4 []],zeroW],0⟩⟩):=by
 show XK _ _ _ _ _ (.region _ _ _) _ _=_;refine tQ ?_;repeat first|with_reducible constructor|(with_reducible apply tG);kernel_rfl;intro _ _;(repeat apply tOp;intro _;simp only[go_sem];rfl);rfl;simp only[go_sem];rfl
 rfl
theorem h1 (s:List UInt8):XK Tryz.prog ans CL LL 173 q1 ⟨[.val (.str s),.val .nilptr,.val (.loc 0 0),.val (.loc 1 0),.dead,.dead,.dead],⟨[.box [.own 4 []],zeroW],0⟩⟩ rec_=some (.norm,⟨[.val (.str s),.val (.loc 3 0),.val (.loc 0 0),.val (.loc 1 0),.dead,.dead,.dead],⟨[.box [.own 4 []],zeroW,.map wordM,.box [.val (.str s),.val (.int .i64 0),.val (.amap 2),.own 2 []]],0⟩⟩):=by
 have h:=c175 s (.box [.own 4 []]) zeroW;show XK _ _ _ _ _ (.region _ _ _) _ _=_;refine tQ ?_;repeat first|with_reducible constructor|(with_reducible apply tG);kernel_rfl;intro _ _;(repeat apply tOp;intro _;simp only[h,go_sem];rfl);rfl;simp only[go_sem];rfl
 rfl
theorem h3 (s:List UInt8):XK Tryz.prog ans CL LL 173 q3 ⟨[.val (.str s),.val (.loc 3 0),.val (.loc 0 0),.val (.loc 1 0),.dead,.dead,.dead],⟨[.box [.own 4 []],zeroW,.map wordM,.box [.val (.str s),.val (.int .i64 0),.val (.amap 2),.own 2 []]],0⟩⟩ rec_=some (.norm,⟨[.val (.str s),.val (.loc 3 0),.val (.loc 0 0),.val (.loc 1 0),.dead,.val (.func 179 [.loc 4 0]),.dead],⟨[.box [.own 4 []],zeroW,.map wordM,.box [.val (.str s),.val (.int .i64 0),.val (.amap 2),.own 2 []],.box [.val (.loc 3 0)]],0⟩⟩):=by
 have h:=c177 (.box [.own 4 []]) zeroW (.map wordM) (.box [.val (.str s),.val (.int .i64 0),.val (.amap 2),.own 2 []]);show XK _ _ _ _ _ (.region _ _ _) _ _=_;refine tQ ?_;repeat first|with_reducible constructor|(with_reducible apply tG);kernel_rfl;intro _ _;(repeat apply tOp;intro _;simp only[h,go_sem];rfl);rfl;simp only[go_sem];rfl
 rfl
theorem h4 (s:List UInt8) (hs:s.length < 900):(∃ at_ X L,XK Tryz.prog ans CL LL 173 q4 ⟨[.val (.str s),.val (.loc 3 0),.val (.loc 0 0),.val (.loc 1 0),.dead,.val (.func 179 [.loc 4 0]),.dead],⟨[.box [.own 4 []],zeroW,.map wordM,.box [.val (.str s),.val (.int .i64 0),.val (.amap 2),.own 2 []],.box [.val (.loc 3 0)]],0⟩⟩ rec_ =
   some (.norm,⟨[.val (.str s),.val (.loc 3 0),.val (.loc 0 0),.val (.loc 1 0),.dead,.val (.func 179 [.loc 4 0]),.dead],⟨[.box [.own 4 L],zeroW,.map wordM,.box [.val (.str s),.val (.int .i64 (at_:Nat)),.val (.amap 2),.own 2 X],.box [.val (.loc 3 0)]],0⟩⟩)∧L.length≤s.length∧(∀ t∈L,IsTok s t)∧(Sole s→∃ kd num txt,L=[tokE kd num txt 0]∧TokQ s 0 kd txt)) ∨
  ∃ at_ X L a e,XK Tryz.prog ans CL LL 173 q4 ⟨[.val (.str s),.val (.loc 3 0),.val (.loc 0 0),.val (.loc 1 0),.dead,.val (.func 179 [.loc 4 0]),.dead],⟨[.box [.own 4 []],zeroW,.map wordM,.box [.val (.str s),.val (.int .i64 0),.val (.amap 2),.own 2 []],.box [.val (.loc 3 0)]],0⟩⟩ rec_ =
   some (.pan (wrongE a e),⟨[.val (.str s),.val (.loc 3 0),.val (.loc 0 0),.val (.loc 1 0),.dead,.val (.func 179 [.loc 4 0]),.dead],stS s L at_ X⟩)∧¬ Sole s:=by
 rcases c179 s hs with ⟨at',X',L',hk,h1⟩|⟨at',X',L',a,e,hk,h2⟩
 ·refine .inl ⟨at',X',L',?_,h1⟩
  show XK _ _ _ _ _ (.rangeFunc _ _ _ _) _ _=_;apply tGn
  ·simp only[go_sem];rfl
  ·exact hk
  ·rfl
  ·rfl
  rfl
 ·refine .inr ⟨at',X',L',a,e,?_,h2⟩
  show XK _ _ _ _ _ (.rangeFunc _ _ _ _) _ _=_;apply tGp
  ·simp only[go_sem];rfl
  ·exact hk
  rfl
end
end Go.Proofs.YtkmnkiekmlcfdaaGreatDoor
