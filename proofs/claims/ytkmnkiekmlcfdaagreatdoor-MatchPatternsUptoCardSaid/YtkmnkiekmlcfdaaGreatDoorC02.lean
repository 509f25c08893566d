/- Part C02 of the proof of one law of the program. -/
import Derived.Test.YtkmnkiekmlcfdaaGreatDoorC01
set_option linter.all false
namespace Go.Proofs.YtkmnkiekmlcfdaaGreatDoor
open Go.AM
set_option maxRecDepth 100000
set_option maxHeartbeats 4000000
theorem num_fact {s:List UInt8} {sto:Sto} (h:s.length≤1000):CL (.fn 198) [.val (.str s)] sto=some (.ret (.tup [.int .i64 (numV s),.int .i64 (numE s)]),sto):=by
 refine fnP (r:=.ret (.tup [.int .i64 (numV s),.int .i64 (numE s)])) ?_ rfl
 have:Nat.ble s.length 1000=true:=Nat.ble_eq_true_of_le h
 simp only[prL,show Nat.beq 198 196=false from rfl,show Nat.beq 198 197=false from rfl,show Nat.beq 198 198=true from rfl,cond_false,cond_true,this]
theorem c190t {A B C:AObj} {rest:List AObj} {lo:Nat} {c3 c4:Cell} (s:List UInt8) (at_:Nat) (h1:at_ < s.length) (h2:s.length < 1000) (h126:(peekN s at_==126)=true) :
  TokOr (CL (.fn 190) [.val (.loc 3 0)] ⟨A::B::C::sb s at_ c3 c4::rest,lo⟩) s at_ ⟨A::B::C::sb s at_ c3 c4::rest,lo⟩ (fun kd _=>kd=1) True:=by
 have g189:(ans 189).ownArg=[]:=by rw[an189]
 have hd1:=runN_le digI s (at_+1);have h188:=c188 (A:=A) (B:=B) (C:=C) (rest:=rest) (lo:=lo) (c3:=c3) (c4:=c4) s at_ 0 0 rfl (by omega);have h184:=c184 (A:=A) (B:=B) (C:=C) (rest:=rest) (lo:=lo) (c3:=c3) (c4:=c4) 189 g189 digI c189 s at_ 1 1 rfl (by omega);rw[Nat.add_zero] at h188;generalize hd:runN digI s (at_+1)=d at *;have hw:IntKind.i64.wrap (1+(d:Int))=((1+d:Nat):Int):=by rw[wrapOk (by omega) (by omega)];omega
 have hw2:IntKind.i64.wrap ((at_:Int)+1)=((at_+1:Nat):Int):=by rw[wrapOk (by omega) (by omega)];omega
 have hw3:IntKind.i64.wrap (((at_+1:Nat):Int)+(d:Int))=((at_+1+d:Nat):Int):=by rw[wrapOk (by omega) (by omega)];omega
 have h188b:=c188 (A:=A) (B:=B) (C:=C) (rest:=rest) (lo:=lo) (c3:=c3) (c4:=c4) s at_ (1+d) ((1+d:Nat):Int) rfl (by omega);have hz:=zL at_;have hle:decide (((at_:Nat):Int)≤((at_+1+d:Nat):Int))=true:=by rw[decide_eq_true_eq];omega
 have hle2:decide (((at_+1+d:Nat):Int)≤(s.length:Nat))=true:=by rw[decide_eq_true_eq];omega
 have hl:((s.take (at_+1+d)).drop at_).length=1+d:=by rw[List.length_drop,List.length_take];omega
 have h198:=fun sto=>num_fact (s:=(s.take (at_+1+d)).drop at_) (sto:=sto) (by omega)
 have h195:=c195 (peekN s (at_+(1+d)));generalize ht:(s.take (at_+1+d)).drop at_=t at *;generalize numV t=v at *;generalize hev:numE t=ev at *;generalize peekN s (at_+(1+d))=nx at *;rw[sbE] at h188 h184 h188b ⊢;cases he:(ev==0) with
 |false =>
  refine .inr ⟨(at_:Nat),13,?_,trivial⟩;rw[wrongE];apply tA;rfl;rfl;exact Tryz.func190;rfl;rfl;simp only[go_sem];rfl;refine tQ ?_;repeat first|with_reducible constructor|(with_reducible apply tG);kernel_rfl;intro _ _;(repeat apply tOp;intro _;simp only[h188,h184,h188b,hw,hw2,hw3,hz,hle,hle2,Int.toNat_natCast,ht,h198,h195,he,bne,go_sem];rfl);rfl;simp only[go_sem];rfl|(with_reducible apply t1);rfl;trivial
  ((with_reducible apply tP);(focus (intro _ _;(repeat (apply tOp;(focus (intro _;simp only[go_sem];rfl))));apply tOpP;simp only[go_sem];rfl)))
  repeat first|with_reducible apply tsP|with_reducible apply tbP
  rfl
 |true =>
  cases hp:partI nx with
  |true =>
   refine .inr ⟨(at_:Nat),13,?_,trivial⟩;rw[wrongE];apply tA;rfl;rfl;exact Tryz.func190;rfl;rfl;simp only[go_sem];rfl;refine tQ ?_;repeat first|with_reducible constructor|(with_reducible apply tG);kernel_rfl;intro _ _;(repeat apply tOp;intro _;simp only[h188,h184,h188b,hw,hw2,hw3,hz,hle,hle2,Int.toNat_natCast,ht,h198,h195,he,hp,bne,go_sem];rfl);rfl;simp only[go_sem];rfl|(with_reducible apply t1);rfl;trivial
   ((with_reducible apply tP);(focus (intro _ _;(repeat (apply tOp;(focus (intro _;simp only[go_sem];rfl))));apply tOpP;simp only[go_sem];rfl)))
   repeat first|with_reducible apply tsP|with_reducible apply tbP
   rfl
  |false =>
   cases hq:(nx==39) with
   |true =>
    refine .inr ⟨(at_:Nat),13,?_,trivial⟩;rw[wrongE];apply tA;rfl;rfl;exact Tryz.func190;rfl;rfl;simp only[go_sem];rfl;refine tQ ?_;repeat first|with_reducible constructor|(with_reducible apply tG);kernel_rfl;intro _ _;(repeat apply tOp;intro _;simp only[h188,h184,h188b,hw,hw2,hw3,hz,hle,hle2,Int.toNat_natCast,ht,h198,h195,he,hp,hq,bne,go_sem];rfl);rfl;simp only[go_sem];rfl|(with_reducible apply t1);rfl;trivial
    ((with_reducible apply tP);(focus (intro _ _;(repeat (apply tOp;(focus (intro _;simp only[go_sem];rfl))));apply tOpP;simp only[go_sem];rfl)))
    repeat first|with_reducible apply tsP|with_reducible apply tbP
    rfl
   |false =>
    refine .inl ⟨1,v,t,?_,by omega,by omega,rfl⟩;rw[tokE];apply tA;rfl;rfl;exact Tryz.func190;rfl;rfl;simp only[go_sem];rfl;refine tQ ?_;repeat first|with_reducible constructor|(with_reducible apply tG);kernel_rfl;intro _ _;(repeat apply tOp;intro _;simp only[h188,h184,h188b,hw,hw2,hw3,hz,hle,hle2,Int.toNat_natCast,ht,h198,h195,he,hp,hq,bne,go_sem];rfl);rfl;simp only[go_sem];rfl|(with_reducible apply t1);rfl;trivial|(with_reducible apply t0);rfl;trivial
    exact fin0 rfl
theorem c190f {A B C:AObj} {rest:List AObj} {lo:Nat} {c3 c4:Cell} (s:List UInt8) (at_:Nat) (h1:at_ < s.length) (h2:s.length < 1000) (h126:(peekN s at_==126)=false) (hd0:digI (peekN s at_)=true) :
  TokOr (CL (.fn 190) [.val (.loc 3 0)] ⟨A::B::C::sb s at_ c3 c4::rest,lo⟩) s at_ ⟨A::B::C::sb s at_ c3 c4::rest,lo⟩ (fun kd _=>kd=1) True:=by
 have g189:(ans 189).ownArg=[]:=by rw[an189]
 have hd1:=runN_le digI s at_;have hd0:0 < runN digI s at_:=runN_pos digI s at_ h1 hd0;have h188:=c188 (A:=A) (B:=B) (C:=C) (rest:=rest) (lo:=lo) (c3:=c3) (c4:=c4) s at_ 0 0 rfl (by omega);have h184:=c184 (A:=A) (B:=B) (C:=C) (rest:=rest) (lo:=lo) (c3:=c3) (c4:=c4) 189 g189 digI c189 s at_ 0 0 rfl (by omega);rw[Nat.add_zero] at h188 h184;generalize hd:runN digI s at_=d at *;have hw:IntKind.i64.wrap (0+(d:Int))=((d:Nat):Int):=by rw[wrapOk (by omega) (by omega)];omega
 have hw2:IntKind.i64.wrap ((at_:Int)+0)=((at_:Nat):Int):=by rw[wrapOk (by omega) (by omega)];omega
 have hw3:IntKind.i64.wrap (((at_:Nat):Int)+(d:Int))=((at_+d:Nat):Int):=by rw[wrapOk (by omega) (by omega)];omega
 have h188b:=c188 (A:=A) (B:=B) (C:=C) (rest:=rest) (lo:=lo) (c3:=c3) (c4:=c4) s at_ d ((d:Nat):Int) rfl (by omega);have hz:=zL at_;have hle:decide (((at_:Nat):Int)≤((at_+d:Nat):Int))=true:=by rw[decide_eq_true_eq];omega
 have hle2:decide (((at_+d:Nat):Int)≤(s.length:Nat))=true:=by rw[decide_eq_true_eq];omega
 have hl:((s.take (at_+d)).drop at_).length=d:=by rw[List.length_drop,List.length_take];omega
 have h198:=fun sto=>num_fact (s:=(s.take (at_+d)).drop at_) (sto:=sto) (by omega)
 have h195:=c195 (peekN s (at_+d));generalize ht:(s.take (at_+d)).drop at_=t at *;generalize numV t=v at *;generalize hev:numE t=ev at *;generalize peekN s (at_+d)=nx at *;rw[sbE] at h188 h184 h188b ⊢;cases he:(ev==0) with
 |false =>
  refine .inr ⟨(at_:Nat),13,?_,trivial⟩;rw[wrongE];apply tA;rfl;rfl;exact Tryz.func190;rfl;rfl;simp only[go_sem];rfl;refine tQ ?_;repeat first|with_reducible constructor|(with_reducible apply tG);kernel_rfl;intro _ _;(repeat apply tOp;intro _;simp only[h188,h184,h188b,hw,hw2,hw3,hz,hle,hle2,Int.toNat_natCast,ht,h198,h195,he,bne,go_sem];rfl);rfl;simp only[go_sem];rfl|(with_reducible apply t1);rfl;trivial|(with_reducible apply t0);rfl;trivial
  ((with_reducible apply tP);(focus (intro _ _;(repeat (apply tOp;(focus (intro _;simp only[go_sem];rfl))));apply tOpP;simp only[go_sem];rfl)))
  repeat first|with_reducible apply tsP|with_reducible apply tbP
  rfl
 |true =>
  cases hp:partI nx with
  |true =>
   refine .inr ⟨(at_:Nat),13,?_,trivial⟩;rw[wrongE];apply tA;rfl;rfl;exact Tryz.func190;rfl;rfl;simp only[go_sem];rfl;refine tQ ?_;repeat first|with_reducible constructor|(with_reducible apply tG);kernel_rfl;intro _ _;(repeat apply tOp;intro _;simp only[h188,h184,h188b,hw,hw2,hw3,hz,hle,hle2,Int.toNat_natCast,ht,h198,h195,he,hp,bne,go_sem];rfl);rfl;simp only[go_sem];rfl|(with_reducible apply t1);rfl;trivial|(with_reducible apply t0);rfl;trivial
   ((with_reducible apply tP);(focus (intro _ _;(repeat (apply tOp;(focus (intro _;simp only[go_sem];rfl))));apply tOpP;simp only[go_sem];rfl)))
   repeat first|with_reducible apply tsP|with_reducible apply tbP
   rfl
  |false =>
   cases hq:(nx==39) with
   |true =>
    refine .inr ⟨(at_:Nat),13,?_,trivial⟩;rw[wrongE];apply tA;rfl;rfl;exact Tryz.func190;rfl;rfl;simp only[go_sem];rfl;refine tQ ?_;repeat first|with_reducible constructor|(with_reducible apply tG);kernel_rfl;intro _ _;(repeat apply tOp;intro _;simp only[h188,h184,h188b,hw,hw2,hw3,hz,hle,hle2,Int.toNat_natCast,ht,h198,h195,he,hp,hq,bne,go_sem];rfl);rfl;simp only[go_sem];rfl|(with_reducible apply t1);rfl;trivial|(with_reducible apply t0);rfl;trivial
    ((with_reducible apply tP);(focus (intro _ _;(repeat (apply tOp;(focus (intro _;simp only[go_sem];rfl))));apply tOpP;simp only[go_sem];rfl)))
    repeat first|with_reducible apply tsP|with_reducible apply tbP
    rfl
   |false =>
    refine .inl ⟨1,v,t,?_,by omega,by omega,rfl⟩;rw[tokE];apply tA;rfl;rfl;exact Tryz.func190;rfl;rfl;simp only[go_sem];rfl;refine tQ ?_;repeat first|with_reducible constructor|(with_reducible apply tG);kernel_rfl;intro _ _;(repeat apply tOp;intro _;simp only[h188,h184,h188b,hw,hw2,hw3,hz,hle,hle2,Int.toNat_natCast,ht,h198,h195,he,hp,hq,bne,go_sem];rfl);rfl;simp only[go_sem];rfl|(with_reducible apply t0);rfl;trivial
    exact fin0 rfl
end Go.Proofs.YtkmnkiekmlcfdaaGreatDoor
