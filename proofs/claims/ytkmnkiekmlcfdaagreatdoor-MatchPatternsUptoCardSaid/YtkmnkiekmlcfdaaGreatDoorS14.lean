/- Part S14 of the proof of one law of the program. -/
import Derived.Test.YtkmnkiekmlcfdaaGreatDoorS13
set_option linter.all false
namespace Go.Proofs.YtkmnkiekmlcfdaaGreatDoor
open Go.AM
set_option maxRecDepth 100000
set_option maxHeartbeats 4000000
variable {kd:List UInt8→Int}
theorem y35 {s:List UInt8×List Nat} {X:List AVal} (hX:X.length≤120) {O:List AObj} {lo:Nat} (hlo:lo≤O.length) {bp bm by1 bf:AObj} {s0 s1 s2 s4 s6 s7 s10} :
  CF kd (.yld (O.length+3)) [.val (slotE s)] ⟨O++[.box [.own 1 X],bp,bm,.loop (rloop 35 Tryz.f35 0 [s0,s1,s2,.val (.loc O.length 0),s4,s6,s7,s10] none .ready),by1,bf],lo⟩ =
   bif ((X.length:Nat):Int)==120 then some (.ret (.val (.bool false)),⟨O++[.box [.own 1 X],bp,bm,.loop (rloop 35 Tryz.f35 0 [s0,s1,s2,.val (.loc O.length 0),s4,s6,s7,s10] (some (.exit 0)) .done),by1,bf],lo⟩)
   else some (.ret (.val (.bool true)),⟨O++[.box [.own 1 (X++[.str s.1])],bp,bm,.loop (rloop 35 Tryz.f35 0 [s0,s1,s2,.val (.loc O.length 0),s4,s6,s7,s10] none .ready),by1,bf],lo⟩):=by
 have hb0:Nat.ble lo O.length=true:=Nat.ble_eq_true_of_le (by omega);have hb1:Nat.ble lo (O.length+1)=true:=Nat.ble_eq_true_of_le (by omega);have hr:Nat.ble (X.length+1) room=true:=Nat.ble_eq_true_of_le (by unfold room;omega);simp only[slotE];cases hc:(((X.length:Nat):Int)==120) with
 |true =>
  simp only[cond_true];apply tY
  ·(simp only[FL,FO,Nat.reduceAdd];try rfl)
  ·rfl
  ·kernel_rfl
  ·first|assumption|(apply Nat.ble_eq_true_of_le;(try simp only[FL,FO,Nat.reduceAdd]);omega)
  ·(simp only[setParams,List.zip,List.zipWith,List.reverse_cons,List.reverse_nil,go_sem];rfl)
  refine tQ ?_;repeat first|with_reducible constructor|(with_reducible apply tG);kernel_rfl;intro _ _;(repeat apply tOp;intro _;simp only[FL,FO,Nat.reduceAdd,go_sem,Nat.reduceAdd];rfl);rfl;simp only[go_sem];rfl
  apply ty1
  ·(simp only[FL,FO,Nat.reduceAdd];try rfl)
  ·(simp only[FL,FO,Nat.reduceAdd];try rfl)
  refine tQ ?_;repeat first|with_reducible constructor|(with_reducible apply tG);kernel_rfl;intro _ _;(repeat apply tOp;intro _;simp only[FL,FO,Nat.add_zero,go_sem,Nat.reduceAdd];rfl);rfl;simp only[go_sem];rfl|(with_reducible apply t1);rfl;trivial
  ·rfl
  repeat first|with_reducible constructor
  apply ty2x
  ·(simp only[FL,FO,Nat.reduceAdd];try rfl)
  ·(simp only[FL,FO,Nat.reduceAdd];try rfl)
 |false =>
  simp only[cond_false];apply tY
  ·(simp only[FL,FO,Nat.reduceAdd];try rfl)
  ·rfl
  ·kernel_rfl
  ·first|assumption|(apply Nat.ble_eq_true_of_le;(try simp only[FL,FO,Nat.reduceAdd]);omega)
  ·(simp only[setParams,List.zip,List.zipWith,List.reverse_cons,List.reverse_nil,go_sem];rfl)
  refine tQ ?_;repeat first|with_reducible constructor|(with_reducible apply tG);kernel_rfl;intro _ _;(repeat apply tOp;intro _;simp only[FL,FO,Nat.reduceAdd,go_sem,Nat.reduceAdd];rfl);rfl;simp only[go_sem];rfl
  apply ty1
  ·(simp only[FL,FO,Nat.reduceAdd];try rfl)
  ·(simp only[FL,FO,Nat.reduceAdd];try rfl)
  refine tQ ?_;repeat first|with_reducible constructor|(with_reducible apply tG);kernel_rfl;intro _ _;(repeat apply tOp;intro _;simp only[FL,FO,Nat.add_zero,hb0,hb1,hr,setElems,clean,flat,List.replicate,go_sem,Nat.reduceAdd];rfl);rfl;simp only[go_sem];rfl|(with_reducible apply t0);rfl;trivial
  apply ty2n
  ·(simp only[FL,FO,Nat.reduceAdd];try rfl)
  ·(simp only[FL,FO,Nat.reduceAdd];try rfl)
noncomputable def St35 (O:List AObj) (lo:Nat) (bp bm by1 bf:AObj) (tm:List Slot) (X:List AVal) (pd:Option Code) (st:LoopState):Sto:=⟨O++[.box [.own 1 X],bp,bm,.loop (rloop 35 Tryz.f35 0 tm pd st),by1,bf],lo⟩
def gath (X:List AVal):List (List UInt8×List Nat)→List AVal×Bool
 |[]=>(X,true)
 |s::l=>bif ((X.length:Nat):Int)==120 then (X,false) else gath (X++[.str s.1]) l
theorem gath_take:∀ (l:List (List UInt8×List Nat)) (X:List AVal),X.length≤120→(gath X l).1=(X++l.map fun s=>AVal.str s.1).take 120
 |[],X,h=>by simp only[gath,List.map_nil,List.append_nil];exact (List.take_of_length_le h).symm
 |s::l,X,h=>by
  unfold gath;cases hc:(((X.length:Nat):Int)==120) with
  |true =>
   have hx:X.length=120:=by have:((X.length:Nat):Int)=120:=by simpa using hc
                            omega
   simp only[cond_true];rw[List.take_append,hx,Nat.sub_self,List.take_zero,List.append_nil,List.take_of_length_le (by omega)]
  |false =>
   have hx:X.length≠120:=fun e=>by rw[e] at hc;cases hc
   simp only[cond_false];rw[gath_take l _ (by simp;omega),List.append_assoc];rfl
theorem yields35 {O:List AObj} {lo:Nat} (hlo:lo≤O.length) {bp bm by1 bf:AObj} {s0 s1 s2 s4 s6 s7 s10}:∀ (l:List (List UInt8×List Nat)) (X:List AVal),X.length≤120 →
  Yields (CF kd) (O.length+3) (fun T=>∃ X pd st,T=St35 O lo bp bm by1 bf [s0,s1,s2,.val (.loc O.length 0),s4,s6,s7,s10] X pd st) (l.map slotE) (St35 O lo bp bm by1 bf [s0,s1,s2,.val (.loc O.length 0),s4,s6,s7,s10] X none .ready)
   (bif (gath X l).2 then St35 O lo bp bm by1 bf [s0,s1,s2,.val (.loc O.length 0),s4,s6,s7,s10] (gath X l).1 none .ready else St35 O lo bp bm by1 bf [s0,s1,s2,.val (.loc O.length 0),s4,s6,s7,s10] (gath X l).1 (some (.exit 0)) .done) (gath X l).2
 |[],X,_=>.nil
 |s::l,X,h=>by
  have hy:=y35 (kd:=kd) (s:=s) (X:=X) h (O:=O) (lo:=lo) hlo (bp:=bp) (bm:=bm) (by1:=by1) (bf:=bf) (s0:=s0) (s1:=s1) (s2:=s2) (s4:=s4) (s6:=s6) (s7:=s7) (s10:=s10);simp only[List.map_cons,gath];cases hc:(((X.length:Nat):Int)==120) with
  |true =>
   rw[hc] at hy;simp only[cond_true] at hy ⊢;exact .stop hy ⟨_,_,_,rfl⟩
  |false =>
   rw[hc] at hy;simp only[cond_false] at hy ⊢;have hx:X.length≠120:=fun e=>by rw[e] at hc;cases hc
   have ih:=yields35 hlo (bp:=bp) (bm:=bm) (by1:=by1) (bf:=bf) (s0:=s0) (s1:=s1) (s2:=s2) (s4:=s4) (s6:=s6) (s7:=s7) (s10:=s10) l (X++[.str s.1]) (by simp;omega);exact .more hy ⟨_,_,_,rfl⟩ ih
theorem c35 (p:PaD) (hp:p.size < big) (T:Sto) (hlo:T.lo≤T.objs.length):CF kd (.fn 35) [.val p.enc] T=some (.ret (.val (.slice (gath [] (slotsD 100 p [])).1)),T):=by
 have hb0:Nat.ble T.lo T.objs.length=true:=Nat.ble_eq_true_of_le (by omega);have hb2:Nat.ble T.lo (T.objs.length+2)=true:=Nat.ble_eq_true_of_le (by omega);have hb3:Nat.ble T.lo (T.objs.length+3)=true:=Nat.ble_eq_true_of_le (by omega);have h59:=fun s=>c59 (kd:=kd) p 100 s
 have hY:=fun s0 s1 s2 s4 s6 s7 s10=>yields35 (kd:=kd) (O:=T.objs) (lo:=T.lo) hlo (bp:=.box [.val (.int .i64 p.kind),.val (.str p.name),.val (.slice (p.args.map PaD.enc))]) (bm:=.box [.val (.int .i64 100)]) (by1:=.box [.val (.yld (T.objs.length+3))]) (bf:=.box [.val (.func 105 [.loc (T.objs.length+4) 0,.loc (T.objs.length+5) 0])]) (s0:=s0) (s1:=s1) (s2:=s2) (s4:=s4) (s6:=s6) (s7:=s7) (s10:=s10) (slotsD 100 p []) [] (by simp)
 have hc:=fun s0 s1 s2 s4 s6 s7 s10=>c104 (kd:=kd) (i:=T.objs.length+3) (a:=T.objs.length+1) (b:=T.objs.length+2) (P:=fun S=>∃ X pd st,S=St35 T.objs T.lo (.box [.val (.int .i64 p.kind),.val (.str p.name),.val (.slice (p.args.map PaD.enc))]) (.box [.val (.int .i64 100)]) (.box [.val (.yld (T.objs.length+3))]) (.box [.val (.func 105 [.loc (T.objs.length+4) 0,.loc (T.objs.length+5) 0])]) [s0,s1,s2,.val (.loc T.objs.length 0),s4,s6,s7,s10] X pd st)
  (S:=⟨T.objs++[.box [.own 1 []],.box [.val (.int .i64 p.kind),.val (.str p.name),.val (.slice (p.args.map PaD.enc))],.box [.val (.int .i64 100)],.loop (rloop 35 Tryz.f35 0 [s0,s1,s2,.val (.loc T.objs.length 0),s4,s6,s7,s10] none .ready)],T.lo⟩) (p:=p) (n:=100)
  (by simp;omega) (by
   rintro S ⟨X,pd,st,rfl⟩
   refine ⟨?_,?_,?_⟩ <;> simp only[St35,FL,FO,Nat.reduceAdd,Nat.add_assoc]) hp (by simp [big]) (by simp)
  (by simp only[FL,FO,Nat.reduceAdd]) (by simp only[FL,FO,Nat.reduceAdd];rfl) ⟨[],none,.ready,by simp only[St35,FL,FO,Nat.reduceAdd]⟩
  (by simpa only [St35,FL,FO,Nat.reduceAdd] using hY s0 s1 s2 s4 s6 s7 s10)
 rw[p.enc_eq] at h59 ⊢;cases hg:(gath [] (slotsD 100 p [])).2 with
 |true =>
  simp only[hg,cond_true,St35,FL,FO,Nat.reduceAdd] at hc;apply tA;rfl;rfl;exact Tryz.func35;rfl;rfl;simp only[go_sem];rfl;refine tQ ?_;repeat first|with_reducible constructor|(with_reducible apply tG);kernel_rfl;intro _ _;(repeat apply tOp;intro _;simp only[FL,FO,Nat.reduceAdd,h59,hb0,hb2,hb3,ble01,Nat.add_assoc,Nat.add_zero,go_sem,Nat.reduceAdd];rfl);rfl;simp only[go_sem];rfl
  with_reducible apply tGn
  ·rfl
  ·simp only[FL,FO,Nat.reduceAdd]
   exact hc _ _ _ _ _ _ _
  ·simp only[FL,FO,Nat.reduceAdd]
   rfl
  ·simp only[FL,FO,Nat.reduceAdd]
   rfl
  refine tQ ?_;repeat first|with_reducible constructor|(with_reducible apply tG);kernel_rfl;intro _ _;(repeat apply tOp;intro _;simp only[FL,FO,Nat.reduceAdd,hb0,Nat.add_zero,go_sem,Nat.reduceAdd];rfl);rfl;simp only[go_sem];rfl
  refine finE _ (finC1 rfl rfl ?_ rfl);show ∀ k:List AVal→Option (ARes×Sto),resK _ _ _ [.tmp 2] _ k=_;intro k;simp only[FL,FO,Nat.reduceAdd,Nat.add_zero,resK,go_sem,Nat.reduceAdd]
 |false =>
  simp only[hg,cond_false,St35,FL,FO,Nat.reduceAdd] at hc;apply tA;rfl;rfl;exact Tryz.func35;rfl;rfl;simp only[go_sem];rfl;refine tQ ?_;repeat first|with_reducible constructor|(with_reducible apply tG);kernel_rfl;intro _ _;(repeat apply tOp;intro _;simp only[FL,FO,Nat.reduceAdd,h59,hb0,hb2,hb3,ble01,Nat.add_assoc,Nat.add_zero,go_sem,Nat.reduceAdd];rfl);rfl;simp only[go_sem];rfl
  with_reducible apply tGx
  ·rfl
  ·simp only[FL,FO,Nat.reduceAdd]
   exact hc _ _ _ _ _ _ _
  ·simp only[FL,FO,Nat.reduceAdd]
   rfl
  ·simp only[FL,FO,Nat.reduceAdd]
   rfl
  refine tQ ?_;repeat first|with_reducible constructor|(with_reducible apply tG);kernel_rfl;intro _ _;(repeat apply tOp;intro _;simp only[FL,FO,Nat.reduceAdd,hb0,Nat.add_zero,go_sem,Nat.reduceAdd];rfl);rfl;simp only[go_sem];rfl
  refine finE _ (finC1 rfl rfl ?_ rfl);show ∀ k:List AVal→Option (ARes×Sto),resK _ _ _ [.tmp 2] _ k=_;intro k;simp only[FL,FO,Nat.reduceAdd,Nat.add_zero,resK,go_sem,Nat.reduceAdd]
end Go.Proofs.YtkmnkiekmlcfdaaGreatDoor
