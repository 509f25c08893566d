/- Part S10 of the proof of one law of the program. -/
import Derived.Test.YtkmnkiekmlcfdaaGreatDoorS09
set_option linter.all false
section
namespace Go.Proofs.YtkmnkiekmlcfdaaGreatDoor
open Go.AM
set_option maxRecDepth 100000
set_option maxHeartbeats 4000000
variable {kd:List UInt8→Int}
def datBad1 (N:List (List UInt8)) (d:DaD):Bool:=((!wordB 65 90 d.name||N.any fun z=>z==d.name)||!(decide (((d.cons.length:Nat):Int)≥1)&&decide (((d.cons.length:Nat):Int)≤16)))||decide (((d.vars.length:Nat):Int) > 16)
def datBad:List (List UInt8)→List (List UInt8)→List DaD→Bool
 |_,_,[]=>false
 |N,C,d::ds=>datBad1 N d||(varsBad [] d.vars||(consBad C d.cons||datBad (N++[d.name]) (C++d.cons.map CoD.name) ds))
theorem word_ne {lo hi:Int} {s:List UInt8} (h:wordB lo hi s=true):s≠[]:=fun e=>by subst e;simp [wordB] at h
theorem datBad_ne:∀ (ds:List DaD) (N C:List (List UInt8)),datBad N C ds=false→∀ d∈ds,d.name≠[]
 |[],_,_,_,d,h=>by cases h
 |x::ds,N,C,h,d,hd=>by
  simp only[datBad,Bool.or_eq_false_iff] at h;rcases List.mem_cons.1 hd with hd|hd
  ·subst hd
   have h1:=h.1;simp only[datBad1,Bool.or_eq_false_iff,Bool.not_eq_false'] at h1;exact word_ne h1.1.1.1
  ·exact datBad_ne ds _ _ h.2.2.2 d hd
theorem loop29d (ds:List DaD) (hds:ds.length+1 < big) (hok:∀ d∈ds,d.ok) (T:Sto) (ys:List DaD):∀ (pre:List DaD) (N C:List (List UInt8)) (f3 f4:Bool),ds=pre++ys→N.length+ys.length+1 < big→C.length+conTot ys+1 < big →
  ∃ s0 s2 s3 s4 s5 s6 s7 s8 s9 s10 s11 s12 s15 s21 s50 s60 s82 s87 s117 s130 s140 s155 s177,LP kd 29 (loopOf Tryz.f29 0) ⟨[.val (.slice (ds.map DaD.enc)),.dead,accS f3 (N.map .str),accS f4 (C.map .str),.val (.int .i64 (pre.length:Nat)),.dead,.dead,.dead,.dead,.dead,.dead,.dead,.dead,.dead,.dead,.dead,.dead,.dead,.dead,.dead,.dead,.dead,.dead],T⟩ =
   bif datBad N C ys then some (.ret,⟨[s0,.val (.int .i64 55),s3,s4,s5,s6,s7,s8,s9,s10,s11,s12,s15,s21,s50,s60,s82,s87,s117,s130,s140,s155,s177],T⟩) else some (.exit 0,⟨[.val (.slice (ds.map DaD.enc)),s2,s3,s4,s5,s6,s7,s8,s9,s10,s11,s12,s15,s21,s50,s60,s82,s87,s117,s130,s140,s155,s177],T⟩):=by
 induction ys with
 |nil =>
  intro pre N C f3 f4 h1 h2 h3;rw[List.append_nil] at h1;have hlt:=geI ds;rw[←h1];simp only[datBad,cond_false];iterate 23 apply Exists.intro
  refine tJ rfl ?_;repeat first|with_reducible constructor|(with_reducible apply tG);kernel_rfl;intro _ _;(repeat apply tOp;intro _;simp only[List.length_map,go_sem];rfl);rfl;simp only[go_sem];rfl
  (with_reducible apply tF);simp only[go_sem];rfl;exact hlt;refine tQ ?_;repeat with_reducible constructor
  exact tlX;all_goals exact .dead
 |cons y ys ih =>
  intro pre N C f3 f4 h1 h2 h3;have hget:=getI DaD.enc pre ys y;have hlt:=ltI pre ys y;have h0:=zI pre.length;have hw:=wL pre ys y (by rw[←h1];omega);have hym:y∈ds:=by rw[h1];simp
  have hyk:=hok y hym;have hct:conTot (y::ys)=y.cons.length+conTot ys:=by simp [conTot]
  rw[←h1] at hget hlt;rw[show y.enc=.agg [.str y.name,.slice (y.vars.map .str),.slice (y.cons.map CoD.enc)] from rfl] at hget;have e0:((0:Nat):Int)=0:=rfl;have hr:Nat.ble ((N.map AVal.str).length+1) room=true:=by rw[List.length_map];exact Nat.ble_eq_true_of_le (by simp at h2;simp only[big] at h2;unfold room;omega)
  have hcl:=cells1 N;have h77:=c77 (kd:=kd) 65 90 y.name T;have h78:=c78 (kd:=kd) y.name N T (by simp only[List.length_cons] at h2;omega);have h72:=c72 (kd:=kd) ((y.cons.length:Nat):Int) 1 16 T;obtain ⟨s2,s7,s8,s9,s10,s11,s12,s15,s21,s50,s60,s82,s87,s117,s130,s140,s155,s177,hv⟩:=loop29v (kd:=kd) ds (.own 1 (N.map .str++[.str y.name])) (accS f4 (C.map .str)) (.val (.int .i64 (pre.length:Nat))) y.name y.cons T y.vars [] (by simp only[List.nil_append];exact hyk.vars);simp only[List.nil_append,List.length_nil] at hv;rw[e0] at hv;obtain ⟨s0,s2,s3,s4,s5,s6,s7,s8,s9,s10,s11,s12,s15,s21,s50,s60,s82,s87,s117,s130,s140,s155,s177,hc⟩:=loop29c (kd:=kd) ds (.own 1 (N.map .str++[.str y.name])) (.val (.int .i64 (pre.length:Nat))) y.name y.vars T y.cons [] C f4 (by simp only[List.nil_append];have:=hyk.cons;omega) (by rw[hct] at h3;omega);simp only[List.nil_append,List.length_nil] at hc;rw[e0] at hc;obtain ⟨s0,s2,s3,s4,s5,s6,s7,s8,s9,s10,s11,s12,s15,s21,s50,s60,s82,s87,s117,s130,s140,s155,s177,ih⟩:=ih (pre++[y]) (N++[y.name]) (C++y.cons.map CoD.name) false (f4&&y.cons.isEmpty) (by rw[h1];simp) (by simp at h2 ⊢;omega) (by rw[hct] at h3;simp only[List.length_append,List.length_map];omega);rw[show (N++[y.name]).map AVal.str=N.map AVal.str++[.str y.name] by simp] at ih;simp only[show ∀ l,accS false l=Slot.own 1 l from fun _=>rfl] at ih;unfold datBad;cases f3
  all_goals
   simp only[show ∀ l,accS false l=Slot.own 1 l from fun _=>rfl,show ∀ l,accS true l=Slot.full l from fun _=>rfl];cases h1:wordB 65 90 y.name with
   |false =>
    rw[h1] at h77;have hb:datBad1 N y=true:=by simp only[datBad1,h1,Bool.not_true,Bool.not_false,Bool.false_or,Bool.true_or,Bool.or_true,Bool.or_self]
    simp only[hb,Bool.true_or,cond_true];iterate 23 apply Exists.intro
    refine tJ rfl ?_;repeat first|with_reducible constructor|(with_reducible apply tG);kernel_rfl;intro _ _;(repeat apply tOp;intro _;simp only[List.length_map,go_sem];rfl);rfl;simp only[go_sem];rfl
    (with_reducible apply tT);simp only[go_sem];rfl;exact hlt;refine tQ ?_;repeat first|with_reducible constructor|(with_reducible apply tG);kernel_rfl;intro _ _;(repeat apply tOp;intro _;simp only[hget,h0,h77,go_sem];rfl);rfl;simp only[go_sem];rfl
    (with_reducible apply tT);simp only[go_sem];rfl;rfl;refine tQ ?_;repeat first|with_reducible constructor|(with_reducible apply tG);kernel_rfl;intro _ _;(repeat apply tOp;intro _;simp only[go_sem];rfl);rfl;simp only[go_sem];rfl
    exact tlE;all_goals exact .dead
   |true =>
   rw[h1] at h77;cases hp:N.any (fun z=>z==y.name) with
   |true =>
    rw[hp] at h78;have hb:datBad1 N y=true:=by simp only[datBad1,h1,hp,Bool.not_true,Bool.not_false,Bool.false_or,Bool.true_or,Bool.or_true,Bool.or_self]
    simp only[hb,Bool.true_or,cond_true];iterate 23 apply Exists.intro
    refine tJ rfl ?_;repeat first|with_reducible constructor|(with_reducible apply tG);kernel_rfl;intro _ _;(repeat apply tOp;intro _;simp only[List.length_map,go_sem];rfl);rfl;simp only[go_sem];rfl
    (with_reducible apply tT);simp only[go_sem];rfl;exact hlt;refine tQ ?_;repeat first|with_reducible constructor|(with_reducible apply tG);kernel_rfl;intro _ _;(repeat apply tOp;intro _;simp only[hget,h0,h77,h78,go_sem];rfl);rfl;simp only[go_sem];rfl
    (with_reducible apply tT);simp only[go_sem];rfl;rfl;refine tQ ?_;repeat first|with_reducible constructor|(with_reducible apply tG);kernel_rfl;intro _ _;(repeat apply tOp;intro _;simp only[go_sem];rfl);rfl;simp only[go_sem];rfl
    exact tlE;all_goals exact .dead
   |false =>
   rw[hp] at h78;cases hn:(decide (((y.cons.length:Nat):Int)≥1)&&decide (((y.cons.length:Nat):Int)≤16)) with
   |false =>
    rw[hn] at h72;have hb:datBad1 N y=true:=by simp only[datBad1,h1,hp,hn,Bool.not_true,Bool.not_false,Bool.false_or,Bool.true_or,Bool.or_true,Bool.or_self]
    simp only[hb,Bool.true_or,cond_true];iterate 23 apply Exists.intro
    refine tJ rfl ?_;repeat first|with_reducible constructor|(with_reducible apply tG);kernel_rfl;intro _ _;(repeat apply tOp;intro _;simp only[List.length_map,go_sem];rfl);rfl;simp only[go_sem];rfl
    (with_reducible apply tT);simp only[go_sem];rfl;exact hlt;refine tQ ?_;repeat first|with_reducible constructor|(with_reducible apply tG);kernel_rfl;intro _ _;(repeat apply tOp;intro _;simp only[hget,h0,h77,h78,h72,List.length_map,go_sem];rfl);rfl;simp only[go_sem];rfl
    (with_reducible apply tT);simp only[go_sem];rfl;rfl;refine tQ ?_;repeat first|with_reducible constructor|(with_reducible apply tG);kernel_rfl;intro _ _;(repeat apply tOp;intro _;simp only[go_sem];rfl);rfl;simp only[go_sem];rfl
    exact tlE;all_goals exact .dead
   |true =>
   rw[hn] at h72;cases hm:decide (((y.vars.length:Nat):Int) > 16) with
   |true =>
    have hb:datBad1 N y=true:=by simp only[datBad1,h1,hp,hn,hm,Bool.not_true,Bool.not_false,Bool.false_or,Bool.true_or,Bool.or_true,Bool.or_self]
    simp only[hb,Bool.true_or,cond_true];iterate 23 apply Exists.intro
    refine tJ rfl ?_;repeat first|with_reducible constructor|(with_reducible apply tG);kernel_rfl;intro _ _;(repeat apply tOp;intro _;simp only[List.length_map,go_sem];rfl);rfl;simp only[go_sem];rfl
    (with_reducible apply tT);simp only[go_sem];rfl;exact hlt;refine tQ ?_;repeat first|with_reducible constructor|(with_reducible apply tG);kernel_rfl;intro _ _;(repeat apply tOp;intro _;simp only[hget,h0,h77,h78,h72,List.length_map,hm,go_sem];rfl);rfl;simp only[go_sem];rfl
    (with_reducible apply tT);simp only[go_sem];rfl;rfl;refine tQ ?_;repeat first|with_reducible constructor|(with_reducible apply tG);kernel_rfl;intro _ _;(repeat apply tOp;intro _;simp only[go_sem];rfl);rfl;simp only[go_sem];rfl
    exact tlE;all_goals exact .dead
   |false =>
   have hb:datBad1 N y=false:=by simp only[datBad1,h1,hp,hn,hm,Bool.not_true,Bool.false_or,Bool.or_self]
   simp only[hb,Bool.false_or];cases hV:varsBad [] y.vars with
   |true =>
    rw[hV] at hv;simp only[cond_true] at hv;simp only[Bool.true_or,cond_true];iterate 23 apply Exists.intro
    refine tJ rfl ?_;repeat first|with_reducible constructor|(with_reducible apply tG);kernel_rfl;intro _ _;(repeat apply tOp;intro _;simp only[List.length_map,go_sem];rfl);rfl;simp only[go_sem];rfl
    (with_reducible apply tT);simp only[go_sem];rfl;exact hlt;refine tQ ?_;repeat first|with_reducible constructor|(with_reducible apply tG);kernel_rfl;intro _ _;(repeat apply tOp;intro _;simp only[hget,h0,h77,h78,h72,List.length_map,hm,go_sem];rfl);rfl;simp only[go_sem];rfl
    (with_reducible apply tF);simp only[go_sem];rfl;rfl;refine tQ ?_;repeat first|with_reducible constructor|(with_reducible apply tG);kernel_rfl;intro _ _;(repeat apply tOp;intro _;simp only[hr,hcl,setElems,clean,flat,List.replicate,List.set_cons_zero,List.set_cons_succ,go_sem];rfl);rfl;simp only[go_sem];rfl
    apply tL;exact hv;refine tQ ?_;repeat with_reducible constructor
    exact tlE;all_goals exact .dead
   |false =>
   rw[hV] at hv;simp only[cond_false] at hv;simp only[Bool.false_or];cases hC:consBad C y.cons with
   |true =>
    rw[hC] at hc;simp only[cond_true] at hc;simp only[Bool.true_or,cond_true];iterate 23 apply Exists.intro
    refine tJ rfl ?_;repeat first|with_reducible constructor|(with_reducible apply tG);kernel_rfl;intro _ _;(repeat apply tOp;intro _;simp only[List.length_map,go_sem];rfl);rfl;simp only[go_sem];rfl
    (with_reducible apply tT);simp only[go_sem];rfl;exact hlt;refine tQ ?_;repeat first|with_reducible constructor|(with_reducible apply tG);kernel_rfl;intro _ _;(repeat apply tOp;intro _;simp only[hget,h0,h77,h78,h72,List.length_map,hm,go_sem];rfl);rfl;simp only[go_sem];rfl
    (with_reducible apply tF);simp only[go_sem];rfl;rfl;refine tQ ?_;repeat first|with_reducible constructor|(with_reducible apply tG);kernel_rfl;intro _ _;(repeat apply tOp;intro _;simp only[hr,hcl,setElems,clean,flat,List.replicate,List.set_cons_zero,List.set_cons_succ,go_sem];rfl);rfl;simp only[go_sem];rfl
    apply tL;exact hv;refine tQ ?_;repeat first|with_reducible constructor|(with_reducible apply tG);kernel_rfl;intro _ _;(repeat apply tOp;intro _;simp only[go_sem];rfl);rfl;simp only[go_sem];rfl
    apply tL;exact hc;refine tQ ?_;repeat with_reducible constructor
    exact tlE;all_goals exact .dead
   |false =>
   rw[hC] at hc;simp only[cond_false] at hc;simp only[Bool.false_or];refine ⟨s0,s2,s3,s4,s5,s6,s7,s8,s9,s10,s11,s12,s15,s21,s50,s60,s82,s87,s117,s130,s140,s155,s177,?_⟩;cases hz:datBad (N++[y.name]) (C++y.cons.map CoD.name) ys
   all_goals
    rw[hz] at ih;simp only[cond_true,cond_false] at ih ⊢;refine tJ rfl ?_;repeat first|with_reducible constructor|(with_reducible apply tG);kernel_rfl;intro _ _;(repeat apply tOp;intro _;simp only[List.length_map,go_sem];rfl);rfl;simp only[go_sem];rfl
    (with_reducible apply tT);simp only[go_sem];rfl;exact hlt;refine tQ ?_;repeat first|with_reducible constructor|(with_reducible apply tG);kernel_rfl;intro _ _;(repeat apply tOp;intro _;simp only[hget,h0,h77,h78,h72,List.length_map,hm,go_sem];rfl);rfl;simp only[go_sem];rfl
    (with_reducible apply tF);simp only[go_sem];rfl;rfl;refine tQ ?_;repeat first|with_reducible constructor|(with_reducible apply tG);kernel_rfl;intro _ _;(repeat apply tOp;intro _;simp only[hr,hcl,setElems,clean,flat,List.replicate,List.set_cons_zero,List.set_cons_succ,go_sem];rfl);rfl;simp only[go_sem];rfl
    apply tL;exact hv;refine tQ ?_;repeat first|with_reducible constructor|(with_reducible apply tG);kernel_rfl;intro _ _;(repeat apply tOp;intro _;simp only[go_sem];rfl);rfl;simp only[go_sem];rfl
    apply tL;exact hc;refine tQ ?_;repeat first|with_reducible constructor|(with_reducible apply tG);kernel_rfl;intro _ _;(repeat apply tOp;intro _;simp only[hw,go_sem];rfl);rfl;simp only[go_sem];rfl
    exact ih
def chkDR (ds:List DaD):Int:=bif decide (((ds.length:Nat):Int) > 60) then 55 else bif datBad [[73,110,116],[66,111,111,108]] [[70,97,108,115,101],[84,114,117,101]] ds then 55 else bif ds.any (datArgs ds) then 55 else 0
theorem c29 {ds:List DaD} (h:DsOk ds) (hct:conTot ds+3 < big) (T:Sto):CF kd (.fn 29) [.val (.slice (ds.map DaD.enc))] T=some (.ret (.val (.int .i64 (chkDR ds))),T):=by
 unfold chkDR;cases h1:decide (((ds.length:Nat):Int) > 60) with
 |true =>
  simp only[cond_true];apply tA;rfl;rfl;exact Tryz.func29;rfl;rfl;simp only[go_sem];rfl;refine tQ ?_;repeat first|with_reducible constructor|(with_reducible apply tG);kernel_rfl;intro _ _;(repeat apply tOp;intro _;simp only[List.length_map,go_sem];rfl);rfl;simp only[go_sem];rfl|(with_reducible apply t1);rfl;trivial
  exact fin0 rfl
 |false =>
 simp only[cond_false];have hlen:ds.length≤60:=by rw[decide_eq_false_iff_not] at h1;omega
 have htot:=h.tot;have e0:((0:Nat):Int)=0:=rfl;obtain ⟨s0,s2,s3,s4,s5,s6,s7,s8,s9,s10,s11,s12,s15,s21,s50,s60,s82,s87,s117,s130,s140,s155,s177,hl⟩:=loop29d (kd:=kd) ds h.len h.ok T ds [] [[73,110,116],[66,111,111,108]] [[70,97,108,115,101],[84,114,117,101]] true true rfl (by simp only[List.length_cons,List.length_nil,big];omega) (by simp only[List.length_cons,List.length_nil];omega);simp only[List.length_nil,List.map_cons,List.map_nil,show ∀ l,accS true l=Slot.full l from fun _=>rfl] at hl;rw[e0] at hl;cases h2:datBad [[73,110,116],[66,111,111,108]] [[70,97,108,115,101],[84,114,117,101]] ds with
 |true =>
  rw[h2] at hl;simp only[cond_true] at hl ⊢;apply tA;rfl;rfl;exact Tryz.func29;rfl;rfl;simp only[go_sem];rfl;refine tQ ?_;repeat first|with_reducible constructor|(with_reducible apply tG);kernel_rfl;intro _ _;(repeat apply tOp;intro _;simp only[List.length_map,setElems,clean,flat,List.replicate,List.set_cons_zero,List.set_cons_succ,go_sem];rfl);rfl;simp only[go_sem];rfl|(with_reducible apply tM);assumption|(with_reducible apply t0);rfl;trivial
  exact fin0 rfl
 |false =>
 rw[h2] at hl;simp only[cond_false] at hl ⊢;obtain ⟨s2,s3,s4,s5,s6,s7,s8,s9,s10,s11,s12,s15,s21,s50,s60,s82,s87,s117,s130,s140,s155,s177,hm⟩:=loop29e (kd:=kd) h (datBad_ne ds _ _ h2) T ds [] rfl;simp only[List.length_nil] at hm;rw[e0] at hm;cases h3:ds.any (datArgs ds)
 all_goals
  rw[h3] at hm;simp only[cond_true,cond_false] at hm ⊢;apply tA;rfl;rfl;exact Tryz.func29;rfl;rfl;simp only[go_sem];rfl;refine tQ ?_;repeat first|with_reducible constructor|(with_reducible apply tG);kernel_rfl;intro _ _;(repeat apply tOp;intro _;simp only[List.length_map,setElems,clean,flat,List.replicate,List.set_cons_zero,List.set_cons_succ,go_sem];rfl);rfl;simp only[go_sem];rfl|(with_reducible apply tM);assumption|(with_reducible apply t0);rfl;trivial
  exact fin0 rfl
end Go.Proofs.YtkmnkiekmlcfdaaGreatDoor
end
section
namespace Go.Proofs.YtkmnkiekmlcfdaaGreatDoor
open Go.AM
set_option maxRecDepth 100000
set_option maxHeartbeats 4000000
variable {kd:List UInt8→Int}
def chkTR (ds:List DaD) (t:TyD):Int:=bif (chkDR ds != 0)||nTyR ds [] true 100 t then 55 else 0
theorem c31 {ds:List DaD} (h:DsOk ds) (hct:conTot ds+3 < big) (t:TyD) (ht:t.size < big) (T:Sto):CF kd (.fn 31) [.val (.slice (ds.map DaD.enc)),.val t.enc] T=some (.ret (.val (.int .i64 (chkTR ds t))),T):=by
 have h29:=c29 (kd:=kd) h hct T;have h80:=c80 (kd:=kd) h [] (by simp [big]) true 100 (by simp [big]) t T ht;have e100:((100:Nat):Int)=100:=rfl;rw[e100] at h80;simp only[List.map_nil] at h80;unfold chkTR;rw[t.enc_eq] at h80 ⊢;cases h1:(chkDR ds != 0) with
 |true =>
  simp only[Bool.true_or,cond_true];apply tA;rfl;rfl;exact Tryz.func31;rfl;rfl;simp only[go_sem];rfl;refine tQ ?_;repeat first|with_reducible constructor|(with_reducible apply tG);kernel_rfl;intro _ _;(repeat apply tOp;intro _;simp only[h29,h1,go_sem];rfl);rfl;simp only[go_sem];rfl|(with_reducible apply t1);rfl;trivial
  exact fin0 rfl
 |false =>
  simp only[Bool.false_or];cases h2:nTyR ds [] true 100 t with
  |true =>
   rw[h2] at h80;simp only[cond_true];apply tA;rfl;rfl;exact Tryz.func31;rfl;rfl;simp only[go_sem];rfl;refine tQ ?_;repeat first|with_reducible constructor|(with_reducible apply tG);kernel_rfl;intro _ _;(repeat apply tOp;intro _;simp only[h29,h1,h80,go_sem];rfl);rfl;simp only[go_sem];rfl|(with_reducible apply t1);rfl;trivial
   exact fin0 rfl
  |false =>
   rw[h2] at h80;simp only[cond_false];apply tA;rfl;rfl;exact Tryz.func31;rfl;rfl;simp only[go_sem];rfl;refine tQ ?_;repeat first|with_reducible constructor|(with_reducible apply tG);kernel_rfl;intro _ _;(repeat apply tOp;intro _;simp only[h29,h1,h80,go_sem];rfl);rfl;simp only[go_sem];rfl|(with_reducible apply t0);rfl;trivial
   exact fin0 rfl
def chkPatR (ds:List DaD) (t:TyD) (p:PaD):Int:=bif chkTR ds t != 0 then 55 else chkPR ds t p
theorem c38 {ds:List DaD} (h:DsOk ds) (hct:conTot ds+3 < big) (t:TyD) (ht:t.size < big) (p:PaD) (hp:p.size+1 < big) (T:Sto) :
  CF kd (.fn 38) [.val (.slice (ds.map DaD.enc)),.val t.enc,.val p.enc] T=some (.ret (.val (.int .i64 (chkPatR ds t p))),T):=by
 have h31:=c31 (kd:=kd) h hct t ht T;have h60:=c60 (kd:=kd) h t p hp T;unfold chkPatR;rw[t.enc_eq] at h31 h60 ⊢;rw[p.enc_eq] at h60 ⊢;cases h1:(chkTR ds t != 0) with
 |true =>
  simp only[cond_true];apply tA;rfl;rfl;exact Tryz.func38;rfl;rfl;simp only[go_sem];rfl;refine tQ ?_;repeat first|with_reducible constructor|(with_reducible apply tG);kernel_rfl;intro _ _;(repeat apply tOp;intro _;simp only[h31,h1,go_sem];rfl);rfl;simp only[go_sem];rfl|(with_reducible apply t1);rfl;trivial
  exact fin0 rfl
 |false =>
  simp only[cond_false];apply tA;rfl;rfl;exact Tryz.func38;rfl;rfl;simp only[go_sem];rfl;refine tQ ?_;repeat first|with_reducible constructor|(with_reducible apply tG);kernel_rfl;intro _ _;(repeat apply tOp;intro _;simp only[h31,h1,h60,go_sem];rfl);rfl;simp only[go_sem];rfl|(with_reducible apply t0);rfl;trivial
  exact fin0 rfl
def firstR (ds:List DaD) (t:TyD):List PaD→Int
 |[]=>0
 |p::ps=>bif deepD 60 p then 6 else bif chkPR ds t p != 0 then chkPR ds t p else firstR ds t ps
def anyR (ds:List DaD) (t:TyD) (p:PaD):Bool:=deepD 60 p||chkPR ds t p != 0
theorem firstR_none (ds:List DaD) (t:TyD):∀ l:List PaD,l.any (anyR ds t)=false→firstR ds t l=0
 |[],_=>rfl
 |p::ps,h=>by
  rw[List.any_cons,Bool.or_eq_false_iff] at h;have h1:=h.1;simp only[anyR,Bool.or_eq_false_iff] at h1;simp only[firstR,h1.1,h1.2,cond_false];exact firstR_none ds t ps h.2
theorem loop40 {ds:List DaD} (h:DsOk ds) (t:TyD) (T:Sto) (ys:List PaD):∀ (pre:List PaD),(pre++ys).length < big→(∀ x∈ys,x.size+1 < big) →
  ∃ s0 s1 s2 s4 s6 s7 s8 s12 s20 s23 s27 s34 s43,LP kd 40 (loopOf Tryz.f40 0) ⟨[.val (.slice (ds.map DaD.enc)),.dead,.val (.slice ((pre++ys).map PaD.enc)),.box [.val (.str t.name),.val (.slice (t.args.map TyD.enc))],.dead,.val (.int .i64 (pre.length:Nat)),.dead,.dead,.dead,.dead,.dead,.dead,.dead],T⟩ =
   bif ys.any (anyR ds t) then some (.ret,⟨[s0,s1,s2,s4,.val (.int .i64 (firstR ds t ys)),s7,s8,s12,s20,s23,s27,s34,s43],T⟩) else some (.exit 0,⟨[s0,s1,s2,s4,s6,s7,s8,s12,s20,s23,s27,s34,s43],T⟩):=by
 induction ys with
 |nil =>
  intro pre h3 h4;have hlt:=geI pre;simp only[List.append_nil,List.any_nil,cond_false];iterate 13 apply Exists.intro
  refine tJ rfl ?_;repeat first|with_reducible constructor|(with_reducible apply tG);kernel_rfl;intro _ _;(repeat apply tOp;intro _;simp only[List.length_map,go_sem];rfl);rfl;simp only[go_sem];rfl|(with_reducible apply t0);rfl;trivial
  exact tlX;all_goals exact .dead
 |cons y ys ih =>
  intro pre h3 h4;have hget:=getI PaD.enc pre ys y;have hlt:=ltI pre ys y;have h0:=zI pre.length;have hw:=wL pre ys y h3;have h86:=c86 (kd:=kd) 60 (by simp [big]) y T (by have:=h4 y (by simp);omega);have e60:((60:Nat):Int)=60:=rfl;rw[e60] at h86;have h60:=c60 (kd:=kd) h t y (h4 y (by simp)) T;rw[y.enc_eq] at hget h86 h60;rw[t.enc_eq] at h60;simp only[List.any_cons];cases h1:deepD 60 y with
  |true =>
   rw[h1] at h86;have hb:anyR ds t y=true:=by simp only[anyR,h1,Bool.true_or]
   simp only[hb,Bool.true_or,cond_true,firstR,h1];iterate 13 apply Exists.intro
   refine tJ rfl ?_;repeat first|with_reducible constructor|(with_reducible apply tG);kernel_rfl;intro _ _;(repeat apply tOp;intro _;simp only[List.length_map,hget,h0,h86,go_sem];rfl);rfl;simp only[go_sem];rfl|(with_reducible apply t1);rfl;trivial
   exact tlE;all_goals exact .dead
  |false =>
   rw[h1] at h86;cases h2:(chkPR ds t y != 0) with
   |true =>
    have hb:anyR ds t y=true:=by simp only[anyR,h1,h2,Bool.false_or]
    simp only[hb,Bool.true_or,cond_true,cond_false,firstR,h1,h2];iterate 13 apply Exists.intro
    refine tJ rfl ?_;repeat first|with_reducible constructor|(with_reducible apply tG);kernel_rfl;intro _ _;(repeat apply tOp;intro _;simp only[List.length_map,hget,h0,h86,h60,h2,go_sem];rfl);rfl;simp only[go_sem];rfl|(with_reducible apply t1);rfl;trivial|(with_reducible apply t0);rfl;trivial
    exact tlE;all_goals exact .dead
   |false =>
    have hb:anyR ds t y=false:=by simp only[anyR,h1,h2,Bool.false_or]
    obtain ⟨s0,s1,s2,s4,s6,s7,s8,s12,s20,s23,s27,s34,s43,ih⟩:=ih (pre++[y]) (by simpa using h3) (fun x hx=>h4 x (by simp [hx]));simp only[List.append_assoc,List.singleton_append] at ih;simp only[hb,Bool.false_or,firstR,h1,h2,cond_false];refine ⟨s0,s1,s2,s4,s6,s7,s8,s12,s20,s23,s27,s34,s43,?_⟩;cases hz:ys.any (anyR ds t)
    all_goals
     rw[hz] at ih;simp only[cond_true,cond_false] at ih ⊢;refine tJ rfl ?_;repeat first|with_reducible constructor|(with_reducible apply tG);kernel_rfl;intro _ _;(repeat apply tOp;intro _;simp only[List.length_map,hget,h0,h86,h60,h2,hw,go_sem];rfl);rfl;simp only[go_sem];rfl|(with_reducible apply t1);rfl;trivial|(with_reducible apply t0);rfl;trivial
     exact ih
def chkPsR (ds:List DaD) (t:TyD) (l:List PaD):Int:=bif chkTR ds t != 0 then 55 else bif decide (((l.length:Nat):Int) > 12)||decide (countRs l 120 0 > 120) then 2 else bif ((l.length:Nat):Int)==0 then 50 else firstR ds t l
theorem c40 {ds:List DaD} (h:DsOk ds) (hct:conTot ds+3 < big) (t:TyD) (ht:t.size < big) (l:List PaD) (hl:PaD.sizes l+1 < big) (T:Sto) :
  CF kd (.fn 40) [.val (.slice (ds.map DaD.enc)),.val t.enc,.val (.slice (l.map PaD.enc))] T=some (.ret (.val (.int .i64 (chkPsR ds t l))),T):=by
 have h31:=c31 (kd:=kd) h hct t ht T;have h88:=c88 (kd:=kd) l T hl;have hlen:=PaD.sizes_len l
 have hmem:∀ x∈l,x.size+1 < big:=fun x hx=>by
  have:x.size < PaD.sizes l:=PaD.sizes_mem hx
  omega
 obtain ⟨s0,s1,s2,s4,s6,s7,s8,s12,s20,s23,s27,s34,s43,hlp⟩:=loop40 (kd:=kd) h t T l [] (by simp only[List.nil_append];omega) hmem;simp only[List.nil_append,List.length_nil] at hlp;have e0:((0:Nat):Int)=0:=rfl;rw[e0] at hlp;unfold chkPsR;rw[t.enc_eq] at h31 ⊢;cases h1:(chkTR ds t != 0) with
 |true =>
  simp only[cond_true];apply tA;rfl;rfl;exact Tryz.func40;rfl;rfl;simp only[go_sem];rfl;refine tQ ?_;repeat first|with_reducible constructor|(with_reducible apply tG);kernel_rfl;intro _ _;(repeat apply tOp;intro _;simp only[h31,h1,go_sem];rfl);rfl;simp only[go_sem];rfl|(with_reducible apply t1);rfl;trivial
  exact fin0 rfl
 |false =>
 simp only[cond_false];cases h2:decide (((l.length:Nat):Int) > 12) with
 |true =>
  simp only[Bool.true_or,cond_true];apply tA;rfl;rfl;exact Tryz.func40;rfl;rfl;simp only[go_sem];rfl;refine tQ ?_;repeat first|with_reducible constructor|(with_reducible apply tG);kernel_rfl;intro _ _;(repeat apply tOp;intro _;simp only[h31,h1,List.length_map,h2,go_sem];rfl);rfl;simp only[go_sem];rfl|(with_reducible apply t1);rfl;trivial|(with_reducible apply t0);rfl;trivial
  exact fin0 rfl
 |false =>
 simp only[Bool.false_or];cases h3:decide (countRs l 120 0 > 120) with
 |true =>
  simp only[cond_true];apply tA;rfl;rfl;exact Tryz.func40;rfl;rfl;simp only[go_sem];rfl;refine tQ ?_;repeat first|with_reducible constructor|(with_reducible apply tG);kernel_rfl;intro _ _;(repeat apply tOp;intro _;simp only[h31,h1,List.length_map,h2,h88,h3,go_sem];rfl);rfl;simp only[go_sem];rfl|(with_reducible apply t1);rfl;trivial|(with_reducible apply t0);rfl;trivial
  exact fin0 rfl
 |false =>
 simp only[cond_false];cases h4:(((l.length:Nat):Int)==0) with
 |true =>
  simp only[cond_true];apply tA;rfl;rfl;exact Tryz.func40;rfl;rfl;simp only[go_sem];rfl;refine tQ ?_;repeat first|with_reducible constructor|(with_reducible apply tG);kernel_rfl;intro _ _;(repeat apply tOp;intro _;simp only[h31,h1,List.length_map,h2,h88,h3,h4,go_sem];rfl);rfl;simp only[go_sem];rfl|(with_reducible apply t1);rfl;trivial|(with_reducible apply t0);rfl;trivial
  exact fin0 rfl
 |false =>
 simp only[cond_false];cases h5:l.any (anyR ds t) with
 |true =>
  rw[h5] at hlp;simp only[cond_true] at hlp;apply tA;rfl;rfl;exact Tryz.func40;rfl;rfl;simp only[go_sem];rfl;refine tQ ?_;repeat first|with_reducible constructor|(with_reducible apply tG);kernel_rfl;intro _ _;(repeat apply tOp;intro _;simp only[h31,h1,List.length_map,h2,h88,h3,h4,go_sem];rfl);rfl;simp only[go_sem];rfl|(with_reducible apply tM);assumption|(with_reducible apply t0);rfl;trivial
  exact fin0 rfl
 |false =>
  rw[h5] at hlp;rw[firstR_none ds t l h5];simp only[cond_false] at hlp;apply tA;rfl;rfl;exact Tryz.func40;rfl;rfl;simp only[go_sem];rfl;refine tQ ?_;repeat first|with_reducible constructor|(with_reducible apply tG);kernel_rfl;intro _ _;(repeat apply tOp;intro _;simp only[h31,h1,List.length_map,h2,h88,h3,h4,go_sem];rfl);rfl;simp only[go_sem];rfl|(with_reducible apply tM);assumption|(with_reducible apply t0);rfl;trivial
  exact fin0 rfl
end Go.Proofs.YtkmnkiekmlcfdaaGreatDoor
end
