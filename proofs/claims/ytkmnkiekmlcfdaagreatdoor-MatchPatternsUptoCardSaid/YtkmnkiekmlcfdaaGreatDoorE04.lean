/- Part E04 of the proof of one law of the program. -/
import Derived.Test.YtkmnkiekmlcfdaaGreatDoorE03
set_option linter.all false
namespace Go.Proofs.YtkmnkiekmlcfdaaGreatDoor
open Go.AM
set_option maxRecDepth 100000
set_option maxHeartbeats 4000000
variable {kd:List UInt8→Int}
def shapeD (vr:List UInt8→Bool) (ds:List DaD) (t:TyD):Option Bool :=
 if vr t.name||t.name==[73,110,116] then some (((t.args.length:Nat):Int)==0)
 else if t.name==[45,62] then (if ((t.args.length:Nat):Int) != 2 then some false else none)
 else if t.name==[44] then (if decide (((t.args.length:Nat):Int) < 2)||decide (((t.args.length:Nat):Int) > 4) then some false else none)
 else if !(findD ds t.name).isSome||((((findD ds t.name).getD zeroDa).vars.length:Nat):Int) != ((t.args.length:Nat):Int) then some false else none
def typedD (vr:List UInt8→Bool) (ds:List DaD):Nat→TyD→Bool
 |0,_=>false
 |m+1,t=>match shapeD vr ds t with|some b=>b|none=>!t.args.any fun x=>!typedD vr ds m x
theorem ann134:(ans 134).ownArg=[]:=by rw[an134]
theorem c134 {ds:List DaD} {m:Nat} {x:TyD} {i j:Nat} {sto:Sto} (hm:m < big) (hi:sto.objs[i]?=some (.box [.val (.slice (ds.map DaD.enc))])) (hj:sto.objs[j]?=some (.box [.val (.int .i64 (m+1:Nat))])) {b:Bool}
  (h:CF kd (.fn 82) [.val (.slice (ds.map DaD.enc)),.val x.enc,.val (.int .i64 (m:Nat))] sto=some (.ret (.val (.bool b)),sto)) :
  CF kd (.fn 134) [.val x.enc,.val (.loc i 0),.val (.loc j 0)] sto=some (.ret (.val (.bool (!b))),sto):=by
 have hw:IntKind.i64.wrap (((m+1:Nat):Int) - 1)=(m:Nat):=by rw[wrapOk (by omega) (by simp only[big] at hm;omega)];omega
 rw[TyD.enc_eq] at h ⊢;apply tA;rfl;rfl;exact Tryz.func134;rfl;rfl;simp only[go_sem];rfl;refine tQ ?_;repeat first|with_reducible constructor|(with_reducible apply tG);kernel_rfl;intro _ _;(repeat apply tOp;intro _;simp only[hi,hj,hw,h,go_sem];rfl);rfl;simp only[go_sem];rfl
 exact fin0 rfl
theorem c82 {ds:List DaD} (hd:ds.length < big) (hdv:∀ d∈ds,d.vars.length < big) (m:Nat):m < big→∀ (t:TyD) (sto:Sto),t.size < big→sto.lo≤sto.objs.length →
  CF kd (.fn 82) [.val (.slice (ds.map DaD.enc)),.val t.enc,.val (.int .i64 (m:Nat))] sto=some (.ret (.val (.bool (typedD (isK kd 4) ds m t))),sto):=by
 induction m with
 |zero =>
  intro hm t sto ht hlo;have hb:((((0:Nat):Int)==0):Bool)=true:=rfl;rw[TyD.enc_eq];apply tA;rfl;rfl;exact Tryz.func82;rfl;rfl;simp only[go_sem];rfl;refine tQ ?_;repeat first|with_reducible constructor|(with_reducible apply tG);kernel_rfl;intro _ _;(repeat apply tOp;intro _;simp only[FL,FO,go_sem,Nat.reduceAdd];rfl);rfl;simp only[go_sem];rfl|(with_reducible apply t1);rfl;trivial
  exact finE [_,_] rfl
 |succ m ih =>
  intro hm t sto ht hlo;have hb:((((m+1:Nat):Int)==0):Bool)=false:=by simp;omega
  have hv:=fun s=>c132 (kd:=kd) t s
  have hf:=c113 (kd:=kd) ds hd t.name ⟨sto.objs++[.box [.val (.slice (ds.map DaD.enc))],.box [.val (.int .i64 (m+1:Nat))]],sto.lo⟩ (by simp;omega)
  have hc:=c133m (kd:=kd) TyD.enc (fun x=>!typedD (isK kd 4) ds m x) t.args ann134 [.loc sto.objs.length 0,.loc (sto.objs.length+1) 0]
   ⟨sto.objs++[.box [.val (.slice (ds.map DaD.enc))],.box [.val (.int .i64 (m+1:Nat))]],sto.lo⟩ (by have:=t.args_len;simp only[big] at ht;omega) (fun x _=>⟨_,_,x.enc_eq⟩)
   (fun x hx=>c134 (by omega) (by simp) (by simp) (ih (by omega) x _ (by have:=TyD.args_size hx;omega) (by simp;omega)))
  simp only[typedD,shapeD];rw[DaD.enc_eq] at hf;rw[TyD.enc_eq] at hv ⊢;cases hA:isK kd 4 t.name with
  |true =>
   rw[hA] at hv;apply tA;rfl;rfl;exact Tryz.func82;rfl;rfl;simp only[go_sem];rfl;refine tQ ?_;repeat first|with_reducible constructor|(with_reducible apply tG);kernel_rfl;intro _ _;(repeat apply tOp;intro _;simp only[FL,FO,hv,List.length_map,go_sem,Nat.reduceAdd];rfl);rfl;simp only[go_sem];rfl|(with_reducible apply t1);rfl;trivial|(with_reducible apply t0);rfl;trivial
   exact finE [_,_] rfl
  |false =>
   rw[hA] at hv;cases hB:(t.name==[73,110,116]) with
   |true =>
    apply tA;rfl;rfl;exact Tryz.func82;rfl;rfl;simp only[go_sem];rfl;refine tQ ?_;repeat first|with_reducible constructor|(with_reducible apply tG);kernel_rfl;intro _ _;(repeat apply tOp;intro _;simp only[FL,FO,hv,List.length_map,go_sem,Nat.reduceAdd];rfl);rfl;simp only[go_sem];rfl|(with_reducible apply t1);rfl;trivial|(with_reducible apply t0);rfl;trivial
    exact finE [_,_] rfl
   |false =>
    simp only[Bool.or_self,Bool.false_eq_true,if_false];cases hC:(t.name==[45,62]) with
    |true =>
     simp only[if_true];cases hn:(((t.args.length:Nat):Int) != 2) with
     |true =>
      apply tA;rfl;rfl;exact Tryz.func82;rfl;rfl;simp only[go_sem];rfl;refine tQ ?_;repeat first|with_reducible constructor|(with_reducible apply tG);kernel_rfl;intro _ _;(repeat apply tOp;intro _;simp only[FL,FO,hv,List.length_map,go_sem,Nat.reduceAdd];rfl);rfl;simp only[go_sem];rfl|(with_reducible apply t1);rfl;trivial|(with_reducible apply t0);rfl;trivial
      exact finE [_,_] rfl
     |false =>
      apply tA;rfl;rfl;exact Tryz.func82;rfl;rfl;simp only[go_sem];rfl;refine tQ ?_;repeat first|with_reducible constructor|(with_reducible apply tG);kernel_rfl;intro _ _;(repeat apply tOp;intro _;simp only[FL,FO,hv,List.length_map,hc,go_sem,Nat.reduceAdd];rfl);rfl;simp only[go_sem];rfl|(with_reducible apply t1);rfl;trivial|(with_reducible apply t0);rfl;trivial
      exact finE [_,_] rfl
    |false =>
     simp only[Bool.false_eq_true,if_false];cases hD:(t.name==[44]) with
     |true =>
      simp only[if_true];cases hn:decide (((t.args.length:Nat):Int) < 2) with
      |true =>
       simp only[Bool.true_or,if_true];apply tA;rfl;rfl;exact Tryz.func82;rfl;rfl;simp only[go_sem];rfl;refine tQ ?_;repeat first|with_reducible constructor|(with_reducible apply tG);kernel_rfl;intro _ _;(repeat apply tOp;intro _;simp only[FL,FO,hv,List.length_map,hn,go_sem,Nat.reduceAdd];rfl);rfl;simp only[go_sem];rfl|(with_reducible apply t1);rfl;trivial|(with_reducible apply t0);rfl;trivial
       exact finE [_,_] rfl
      |false =>
       simp only[Bool.false_or];cases ho:decide (((t.args.length:Nat):Int) > 4) with
       |true =>
        simp only[if_true];apply tA;rfl;rfl;exact Tryz.func82;rfl;rfl;simp only[go_sem];rfl;refine tQ ?_;repeat first|with_reducible constructor|(with_reducible apply tG);kernel_rfl;intro _ _;(repeat apply tOp;intro _;simp only[FL,FO,hv,List.length_map,hn,ho,go_sem,Nat.reduceAdd];rfl);rfl;simp only[go_sem];rfl|(with_reducible apply t1);rfl;trivial|(with_reducible apply t0);rfl;trivial
        exact finE [_,_] rfl
       |false =>
        simp only[Bool.false_eq_true,if_false];apply tA;rfl;rfl;exact Tryz.func82;rfl;rfl;simp only[go_sem];rfl;refine tQ ?_;repeat first|with_reducible constructor|(with_reducible apply tG);kernel_rfl;intro _ _;(repeat apply tOp;intro _;simp only[FL,FO,hv,List.length_map,hn,ho,hc,go_sem,Nat.reduceAdd];rfl);rfl;simp only[go_sem];rfl|(with_reducible apply t1);rfl;trivial|(with_reducible apply t0);rfl;trivial
        exact finE [_,_] rfl
     |false =>
      simp only[Bool.false_eq_true,if_false];cases hq:(findD ds t.name).isSome with
      |false =>
       rw[hq] at hf;simp only[Bool.not_false,Bool.true_or,if_true];apply tA;rfl;rfl;exact Tryz.func82;rfl;rfl;simp only[go_sem];rfl;refine tQ ?_;repeat first|with_reducible constructor|(with_reducible apply tG);kernel_rfl;intro _ _;(repeat apply tOp;intro _;simp only[FL,FO,hv,hf,List.length_map,go_sem,Nat.reduceAdd];rfl);rfl;simp only[go_sem];rfl|(with_reducible apply t1);rfl;trivial|(with_reducible apply t0);rfl;trivial
       exact finE [_,_] rfl
      |true =>
       rw[hq] at hf;simp only[Bool.not_true,Bool.false_or];cases ho:(((((findD ds t.name).getD zeroDa).vars.length:Nat):Int) != ((t.args.length:Nat):Int)) with
       |true =>
        simp only[if_true];apply tA;rfl;rfl;exact Tryz.func82;rfl;rfl;simp only[go_sem];rfl;refine tQ ?_;repeat first|with_reducible constructor|(with_reducible apply tG);kernel_rfl;intro _ _;(repeat apply tOp;intro _;simp only[FL,FO,hv,hf,List.length_map,ho,go_sem,Nat.reduceAdd];rfl);rfl;simp only[go_sem];rfl|(with_reducible apply t1);rfl;trivial|(with_reducible apply t0);rfl;trivial
        exact finE [_,_] rfl
       |false =>
        simp only[Bool.false_eq_true,if_false];apply tA;rfl;rfl;exact Tryz.func82;rfl;rfl;simp only[go_sem];rfl;refine tQ ?_;repeat first|with_reducible constructor|(with_reducible apply tG);kernel_rfl;intro _ _;(repeat apply tOp;intro _;simp only[FL,FO,hv,hf,List.length_map,ho,hc,go_sem,Nat.reduceAdd];rfl);rfl;simp only[go_sem];rfl|(with_reducible apply t0);rfl;trivial
        exact finE [_,_] rfl
end Go.Proofs.YtkmnkiekmlcfdaaGreatDoor
