/- Part S13 of the proof of one law of the program. -/
import Derived.Test.YtkmnkiekmlcfdaaGreatDoorS12
set_option linter.all false
namespace Go.Proofs.YtkmnkiekmlcfdaaGreatDoor
open Go.AM
section
open Go.AM
set_option maxRecDepth 100000
set_option maxHeartbeats 4000000
variable {kd:List UInt8→Int}
theorem c71_0 (p:PaD) (hp:p.size < big) (T:Sto):CF kd (.fn 71) [.nl,.val p.enc,.val (.slice []),.val (.int .i64 100)] T=some (.ret (sN2 ((cap (slotsD 100 p [])).map slotE)),T):=by
 have h:=c71 (kd:=kd) 100 p [] [] (by omega) (by simp) hp (by simp) T;have e100:((100:Nat):Int)=100:=rfl;rw[e100] at h;exact h
def slotsRS (p:PaD):List (List UInt8×List Nat):=bif deepD 100 p then [] else bif decide (countR p 120 > 120) then [] else cap (slotsD 100 p [])
def slotsRE (p:PaD):Int:=bif deepD 100 p then 6 else bif decide (countR p 120 > 120) then 2 else 0
theorem c33 (p:PaD) (hp:p.size+1 < big) (T:Sto):CF kd (.fn 33) [.val p.enc] T=some (.ret (.tup [.slice ((slotsRS p).map slotE),.int .i64 (slotsRE p)]),T):=by
 have h86:=c86 (kd:=kd) 100 (by simp [big]) p T (by omega);have e100:((100:Nat):Int)=100:=rfl;rw[e100] at h86;have h87:=c87 (kd:=kd) _ p (Nat.lt_succ_self _) hp 120 T (by omega) (by omega);have h71:=c71_0 (kd:=kd) p (by omega) T;have b00:((0:Nat)==0)=true:=rfl;have b10:((1:Nat)==0)=false:=rfl;have b20:((2:Nat)==0)=false:=rfl;have b30:((3:Nat)==0)=false:=rfl;have b101:((10:Nat)==1)=false:=rfl;unfold slotsRS slotsRE;rw[p.enc_eq] at h86 h87 h71 ⊢;cases h1:deepD 100 p with
 |true =>
  rw[h1] at h86;simp only[cond_true,List.map_nil];apply tA;rfl;rfl;exact Tryz.func33;rfl;rfl;simp only[go_sem];rfl;refine tQ ?_;repeat first|with_reducible constructor|(with_reducible apply tG);kernel_rfl;intro _ _;(repeat apply tOp;intro _;simp only[h86,go_sem];rfl);rfl;simp only[go_sem];rfl|(with_reducible apply t1);rfl;trivial
  exact fin0 rfl
 |false =>
 rw[h1] at h86;simp only[cond_false];cases h2:decide (countR p 120 > 120) with
 |true =>
  simp only[cond_true,List.map_nil];apply tA;rfl;rfl;exact Tryz.func33;rfl;rfl;simp only[go_sem];rfl;refine tQ ?_;repeat first|with_reducible constructor|(with_reducible apply tG);kernel_rfl;intro _ _;(repeat apply tOp;intro _;simp only[h86,h87,h2,go_sem];rfl);rfl;simp only[go_sem];rfl|(with_reducible apply t1);rfl;trivial|(with_reducible apply t0);rfl;trivial
  exact fin0 rfl
 |false =>
 simp only[cond_false];cases hz:(cap (slotsD 100 p [])).map slotE
 all_goals
  rw[hz] at h71;simp only[sN2] at h71;apply tA;rfl;rfl;exact Tryz.func33;rfl;rfl;simp only[go_sem];rfl;refine tQ ?_;repeat first|with_reducible constructor|(with_reducible apply tG);kernel_rfl;intro _ _;(repeat apply tOp;intro _;simp only[h86,h87,h2,h71,b00,b10,b20,b30,b101,go_sem];rfl);rfl;simp only[go_sem];rfl|(with_reducible apply t0);rfl;trivial
  exact fin0 rfl
theorem sN2_own {l:List AVal} (h:l≠[]):sN2 l=.own 2 l:=by
 cases l with
 |nil=>exact absurd rfl h
 |cons a l=>rfl
theorem loop36 (T:Sto) (ys:List (List UInt8×List Nat)):∀ (pre:List (List UInt8×List Nat)) (X:List AVal),(pre++ys).length < big→X.length+ys.length+1 < big →
  ∃ s0 s1 s2 s3 s5 s11,LP kd 36 (loopOf Tryz.f36 0) ⟨[.dead,.dead,.dead,sN2 ((pre++ys).map slotE),.own 1 X,.val (.int .i64 (pre.length:Nat)),.dead],T⟩ =
   some (.exit 0,⟨[s0,s1,s2,s3,.own 1 (X++ys.map fun s=>.str s.1),s5,s11],T⟩):=by
 induction ys with
 |nil =>
  intro pre X h3 h4;have hlt:=geI pre;simp only[List.append_nil,List.map_nil];cases pre with
  |nil =>
   simp only[List.map_nil,sN2,List.length_nil];have hz:decide ((((0:Nat):Nat):Int) < 0)=false:=rfl;have hz0:decide ((0:Int) < 0)=false:=rfl;iterate 6 apply Exists.intro
   refine tJ rfl ?_;repeat first|with_reducible constructor|(with_reducible apply tG);kernel_rfl;intro _ _;(repeat apply tOp;intro _;simp only[hz,hz0,go_sem];rfl);rfl;simp only[go_sem];rfl|(with_reducible apply t0);rfl;trivial
   exact tlX;all_goals exact .dead
  |cons a r =>
   rw[sN2_own (by simp)];iterate 6 apply Exists.intro
   refine tJ rfl ?_;repeat first|with_reducible constructor|(with_reducible apply tG);kernel_rfl;intro _ _;(repeat apply tOp;intro _;simp only[List.length_map,go_sem];rfl);rfl;simp only[go_sem];rfl|(with_reducible apply t0);rfl;trivial
   exact tlX;all_goals exact .dead
 |cons y ys ih =>
  intro pre X h3 h4;have hget:=getI slotE pre ys y;have hlt:=ltI pre ys y;have h0:=zI pre.length;have hw:=wL pre ys y h3;have hr:Nat.ble (X.length+1) room=true:=Nat.ble_eq_true_of_le (by simp at h4;simp only[big] at h4;unfold room;omega);obtain ⟨s0,s1,s2,s3,s5,s11,ih⟩:=ih (pre++[y]) (X++[.str y.1]) (by simpa using h3) (by simp at h4 ⊢;omega);simp only[List.append_assoc,List.singleton_append] at ih;rw[sN2_own (by simp)] at ih ⊢;rw[show slotE y=.agg [.str y.1,.slice (y.2.map intE)] from rfl] at hget;rw[show ((y::ys).map fun s:List UInt8×List Nat=>AVal.str s.1)=.str y.1::ys.map (fun s=>.str s.1) from rfl];refine ⟨s0,s1,s2,s3,s5,s11,?_⟩;refine tJ rfl ?_;repeat first|with_reducible constructor|(with_reducible apply tG);kernel_rfl;intro _ _;(repeat apply tOp;intro _;simp only[List.length_map,hget,h0,hr,hw,setElems,clean,flat,List.replicate,List.set_cons_zero,List.set_cons_succ,go_sem];rfl);rfl;simp only[go_sem];rfl|(with_reducible apply t1);rfl;trivial
  exact ih
def varsRV (p:PaD):List (List UInt8):=(cap (slotsD 100 p [])).map Prod.fst
theorem c36 (p:PaD) (hp:p.size+1 < big) (T:Sto):CF kd (.fn 36) [.val p.enc] T=some (.ret (.val (.slice ((varsRV p).map .str))),T):=by
 have h71:=c71_0 (kd:=kd) p (by omega) T;have b00:((0:Nat)==0)=true:=rfl;have b10:((1:Nat)==0)=false:=rfl;have b20:((2:Nat)==0)=false:=rfl;have b30:((3:Nat)==0)=false:=rfl;have b71:((7:Nat)==1)=false:=rfl;have hcl:=cap_len (slotsD 100 p []);obtain ⟨s0,s1,s2,s3,s5,s11,hl⟩:=loop36 (kd:=kd) T (cap (slotsD 100 p [])) [] [] (by simp only[List.nil_append,big];omega) (by simp only[List.length_nil,big];omega);simp only[List.nil_append,List.length_nil] at hl;have e0:((0:Nat):Int)=0:=rfl;rw[e0] at hl;unfold varsRV;rw[List.map_map,show (AVal.str∘Prod.fst)=fun s:List UInt8×List Nat=>AVal.str s.1 from rfl];rw[p.enc_eq] at h71 ⊢;cases hz:(cap (slotsD 100 p [])).map slotE
 all_goals
  rw[hz] at h71 hl;simp only[sN2] at h71 hl;apply tA;rfl;rfl;exact Tryz.func36;rfl;rfl;simp only[go_sem];rfl;refine tQ ?_;repeat first|with_reducible constructor|(with_reducible apply tG);kernel_rfl;intro _ _;(repeat apply tOp;intro _;simp only[h71,b00,b10,b20,b30,b71,go_sem];rfl);rfl;simp only[go_sem];rfl|(with_reducible apply tM);assumption
  exact fin0 rfl
end
section
open Go.AM
set_option maxRecDepth 100000
set_option maxHeartbeats 4000000
variable {kd:List UInt8→Int}
theorem y137 {s:List UInt8×List Nat} {X:List AVal} (hX:X.length+1 < big) {O:List AObj} {lo:Nat} (hlo:lo≤O.length) {by1 bf:AObj} {s0 s1 s4 s5 s6 s7} :
  CF kd (.yld (O.length+1)) [.val (slotE s)] ⟨O++[.box [.own 2 X],.loop (rloop 137 Tryz.f137 0 [s0,s1,.val (.loc O.length 0),s4,s5,s6,s7] none .ready),by1,bf],lo⟩ =
   some (.ret (.val (.bool true)),⟨O++[.box [.own 2 (X++[slotE s])],.loop (rloop 137 Tryz.f137 0 [s0,s1,.val (.loc O.length 0),s4,s5,s6,s7] none .ready),by1,bf],lo⟩):=by
 have hb0:Nat.ble lo O.length=true:=Nat.ble_eq_true_of_le (by omega);have hb1:Nat.ble lo (O.length+1)=true:=Nat.ble_eq_true_of_le (by omega);have hr:Nat.ble (X.length+1) room=true:=Nat.ble_eq_true_of_le (by simp only[big] at hX;unfold room;omega);simp only[slotE];apply tY
 ·(simp only[FL,FO,Nat.reduceAdd];try rfl)
 ·rfl
 ·kernel_rfl
 ·first|assumption|(apply Nat.ble_eq_true_of_le;(try simp only[FL,FO,Nat.reduceAdd]);omega)
 ·(simp only[setParams,List.zip,List.zipWith,List.reverse_cons,List.reverse_nil,go_sem];rfl)
 refine tQ ?_;repeat first|with_reducible constructor|(with_reducible apply tG);kernel_rfl;intro _ _;(repeat apply tOp;intro _;simp only[FL,FO,Nat.reduceAdd,go_sem,Nat.reduceAdd];rfl);rfl;simp only[go_sem];rfl
 apply ty1
 ·(simp only[FL,FO,Nat.reduceAdd];try rfl)
 ·(simp only[FL,FO,Nat.reduceAdd];try rfl)
 refine tQ ?_;repeat first|with_reducible constructor|(with_reducible apply tG);kernel_rfl;intro _ _;(repeat apply tOp;intro _;simp only[FL,FO,Nat.reduceAdd,hb0,hb1,hr,setElems,clean,flat,List.replicate,List.set_cons_zero,List.set_cons_succ,Nat.add_zero,go_sem,Nat.reduceAdd];rfl);rfl;simp only[go_sem];rfl
 apply ty2n
 ·(simp only[FL,FO,Nat.reduceAdd];try rfl)
 ·(simp only[FL,FO,Nat.reduceAdd];try rfl)
noncomputable def St137 (O:List AObj) (lo:Nat) (by1 bf:AObj) (tm:List Slot) (X:List AVal):Sto:=⟨O++[.box [.own 2 X],.loop (rloop 137 Tryz.f137 0 tm none .ready),by1,bf],lo⟩
theorem yields137 {O:List AObj} {lo:Nat} (hlo:lo≤O.length) {by1 bf:AObj} {s0 s1 s4 s5 s6 s7}:∀ (l:List (List UInt8×List Nat)) (X:List AVal),X.length+l.length+1 < big →
  Yields (CF kd) (O.length+1) (fun T=>∃ X,T=St137 O lo by1 bf [s0,s1,.val (.loc O.length 0),s4,s5,s6,s7] X) (l.map slotE) (St137 O lo by1 bf [s0,s1,.val (.loc O.length 0),s4,s5,s6,s7] X) (St137 O lo by1 bf [s0,s1,.val (.loc O.length 0),s4,s5,s6,s7] (X++l.map slotE)) true
 |[],X,_=>by rw[List.map_nil,List.append_nil];exact .nil
 |s::l,X,h=>by
  have hy:=y137 (kd:=kd) (s:=s) (X:=X) (by simp at h;omega) (O:=O) (lo:=lo) hlo (by1:=by1) (bf:=bf) (s0:=s0) (s1:=s1) (s4:=s4) (s5:=s5) (s6:=s6) (s7:=s7);have ih:=yields137 hlo (by1:=by1) (bf:=bf) (s0:=s0) (s1:=s1) (s4:=s4) (s5:=s5) (s6:=s6) (s7:=s7) l (X++[slotE s]) (by simp at h ⊢;omega);rw[List.append_assoc,List.singleton_append] at ih;exact .more hy ⟨_,rfl⟩ ih
theorem finO {P:Program} {an:Ann} {fn:Func} {n:Nat} {tm:List Slot} {sto:Sto} {xs:List AVal} {t:Tmp} (h1:an.ownRes=true) (h2:fn.results.toList=[.tmp t]) (h3:tlook an.keep tm t=.val (.slice xs)) :
  finish P an fn n ⟨tm,sto⟩=some (.ret (.val (.slice xs)),⟨sto.objs.take n,sto.lo⟩):=by
 simp only[finish,h1,h2,h3,asV,trim,slotLok,lok,lokF,cond_true]
theorem c137 {p:PaD} (hp:p.size < big) (hl:(slotsD 100 p []).length+1 < big) {a b:Nat} {O:List AObj} {lo:Nat} (hlo:lo≤O.length)
  (ha:O[a]?=some (.box [.val (.int .i64 p.kind),.val (.str p.name),.val (.slice (p.args.map PaD.enc))])) (hb:O[b]?=some (.box [.val (.int .i64 (100:Nat))])) :
  CF kd (.fn 137) [.nl,.val (.func 104 [.loc a 0,.loc b 0])] ⟨O,lo⟩=some (.ret (.val (.slice ((slotsD 100 p []).map slotE))),⟨O,lo⟩):=by
 have hb0:Nat.ble lo O.length=true:=Nat.ble_eq_true_of_le (by omega);have hb1:Nat.ble lo (O.length+1)=true:=Nat.ble_eq_true_of_le (by omega);have ha':a < O.length:=(List.getElem?_eq_some_iff.1 ha).1;have hb':b < O.length:=(List.getElem?_eq_some_iff.1 hb).1;have hY:=fun s0 s1 s4 s5 s6 s7=>yields137 (kd:=kd) (O:=O) (lo:=lo) hlo (by1:=.box [.val (.yld (O.length+1))]) (bf:=.box [.val (.func 105 [.loc (O.length+2) 0,.loc (O.length+3) 0])]) (s0:=s0) (s1:=s1) (s4:=s4) (s5:=s5) (s6:=s6) (s7:=s7) (slotsD 100 p []) [] (by simp only[List.length_nil];omega)
 have hc:=fun s0 s1 s4 s5 s6 s7=>c104 (kd:=kd) (i:=O.length+1) (a:=a) (b:=b) (P:=fun T=>∃ X,T=St137 O lo (.box [.val (.yld (O.length+1))]) (.box [.val (.func 105 [.loc (O.length+2) 0,.loc (O.length+3) 0])]) [s0,s1,.val (.loc O.length 0),s4,s5,s6,s7] X)
  (S:=⟨O++[.box [.own 2 []],.loop (rloop 137 Tryz.f137 0 [s0,s1,.val (.loc O.length 0),s4,s5,s6,s7] none .ready)],lo⟩) (p:=p) (n:=100)
  (by simp;omega) (by
   rintro T ⟨X,rfl⟩
   refine ⟨?_,?_,?_⟩ <;> simp only[St137,FL,FO,Nat.reduceAdd,Nat.add_assoc]) hp (by simp [big]) (by simp)
  (by rw[List.getElem?_append_left ha'];exact ha) (by rw[List.getElem?_append_left hb'];exact hb) ⟨[],by simp only[St137,FL,FO,Nat.reduceAdd]⟩
  (by simpa only [St137,FL,FO,Nat.reduceAdd] using hY s0 s1 s4 s5 s6 s7)
 simp only[St137,FL,FO,Nat.reduceAdd] at hc;apply tA;rfl;rfl;exact Tryz.func137;rfl;rfl;simp only[go_sem];rfl;refine tQ ?_;repeat first|with_reducible constructor|(with_reducible apply tG);kernel_rfl;intro _ _;(repeat apply tOp;intro _;simp only[FL,FO,Nat.reduceAdd,hb0,hb1,Nat.add_zero,go_sem,Nat.reduceAdd];rfl);rfl;simp only[go_sem];rfl
 with_reducible apply tGn
 ·rfl
 ·simp only[FL,FO,Nat.reduceAdd]
  exact hc _ _ _ _ _ _
 ·simp only[FL,FO,Nat.reduceAdd]
  rfl
 ·simp only[FL,FO,Nat.reduceAdd]
  rfl
 refine tQ ?_;repeat first|with_reducible constructor|(with_reducible apply tG);kernel_rfl;intro _ _;(repeat apply tOp;intro _;simp only[FL,FO,Nat.reduceAdd,hb0,Nat.add_zero,go_sem,Nat.reduceAdd];rfl);rfl;simp only[go_sem];rfl
 exact finE _ (finO rfl rfl rfl)
end
end Go.Proofs.YtkmnkiekmlcfdaaGreatDoor
