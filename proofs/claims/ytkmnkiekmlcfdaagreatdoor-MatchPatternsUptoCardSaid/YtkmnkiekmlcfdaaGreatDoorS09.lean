/- Part S09 of the proof of one law of the program. -/
import Derived.Test.YtkmnkiekmlcfdaaGreatDoorS08
set_option linter.all false
namespace Go.Proofs.YtkmnkiekmlcfdaaGreatDoor
open Go.AM
section
open Go.AM
set_option maxRecDepth 100000
set_option maxHeartbeats 4000000
variable {kd:List UInt8→Int}
def varsBad:List (List UInt8)→List (List UInt8)→Bool
 |_,[]=>false
 |pre,y::ys=>(!tvarB y||pre.any fun z=>z==y)||varsBad (pre++[y]) ys
theorem loop29v (ds:List DaD) (a3 a4 a5:Slot) (dn:List UInt8) (dc:List CoD) (T:Sto) (ys:List (List UInt8)):∀ (pre:List (List UInt8)),(pre++ys).length < big →
  ∃ s2 s7 s8 s9 s10 s11 s12 s15 s21 s50 s60 s82 s87 s117 s130 s140 s155 s177,LP kd 29 (loopOf Tryz.f29 1) ⟨[.val (.slice (ds.map DaD.enc)),.dead,a3,a4,a5,.box [.val (.str dn),.val (.slice ((pre++ys).map .str)),.val (.slice (dc.map CoD.enc))],.val (.int .i64 (pre.length:Nat)),.dead,.dead,.dead,.dead,.dead,.dead,.dead,.dead,.dead,.dead,.dead,.dead,.dead,.dead,.dead,.dead],T⟩ =
   bif varsBad pre ys then some (.ret,⟨[.val (.slice (ds.map DaD.enc)),.val (.int .i64 55),a3,a4,a5,.box [.val (.str dn),.val (.slice ((pre++ys).map .str)),.val (.slice (dc.map CoD.enc))],s7,s8,s9,s10,s11,s12,s15,s21,s50,s60,s82,s87,s117,s130,s140,s155,s177],T⟩) else some (.exit 2,⟨[.val (.slice (ds.map DaD.enc)),s2,a3,a4,a5,.box [.val (.str dn),.val (.slice ((pre++ys).map .str)),.val (.slice (dc.map CoD.enc))],s7,s8,s9,s10,s11,s12,s15,s21,s50,s60,s82,s87,s117,s130,s140,s155,s177],T⟩):=by
 induction ys with
 |nil =>
  intro pre h3;have hlt:=geI pre;simp only[List.append_nil,varsBad,cond_false];iterate 18 apply Exists.intro
  refine tJ rfl ?_;repeat first|with_reducible constructor|(with_reducible apply tG);kernel_rfl;intro _ _;(repeat apply tOp;intro _;simp only[List.length_map,go_sem];rfl);rfl;simp only[go_sem];rfl|(with_reducible apply t0);rfl;trivial
  exact tlX;all_goals exact .dead
 |cons y ys ih =>
  intro pre h3;have hget:=getI AVal.str pre ys y;have hlt:=ltI pre ys y;have h0:=zI pre.length;have hw:=wL pre ys y h3;have h79:=c79 (kd:=kd) y T;have h78:=c78 (kd:=kd) y pre T (by simp at h3;omega);have hle:decide (((pre.length:Nat):Int)≤((pre++y::ys).length:Nat))=true:=by rw[decide_eq_true_eq];simp;omega
  have hle2:decide (((pre.length:Nat):Int)≤((pre.length:Nat):Int))=true:=by rw[decide_eq_true_eq];exact Int.le_refl _
  have hcut:((pre++y::ys).map AVal.str).take ((pre.length:Nat):Int).toNat=pre.map .str:=by
   show ((pre++y::ys).map AVal.str).take pre.length=_;rw[←List.map_take,List.take_left'];rfl
  have hhd:headOk 1 (pre.map AVal.str)=true:=by cases pre <;> rfl
  have d00:decide ((0:Int)≤0)=true:=rfl;have n0:Int.toNat 0=0:=rfl;have dT:decide True=true:=rfl;unfold varsBad;cases h1:tvarB y with
  |false =>
   rw[h1] at h79;simp only[Bool.not_false,Bool.true_or,cond_true];iterate 18 apply Exists.intro
   refine tJ rfl ?_;repeat first|with_reducible constructor|(with_reducible apply tG);kernel_rfl;intro _ _;(repeat apply tOp;intro _;simp only[List.length_map,hget,h0,h79,go_sem];rfl);rfl;simp only[go_sem];rfl|(with_reducible apply t1);rfl;trivial
   exact tlE;all_goals exact .dead
  |true =>
   rw[h1] at h79;cases hp:pre.any (fun z=>z==y) with
   |true =>
    rw[hp] at h78;simp only[Bool.not_true,Bool.false_or,Bool.true_or,cond_true];iterate 18 apply Exists.intro
    refine tJ rfl ?_;repeat first|with_reducible constructor|(with_reducible apply tG);kernel_rfl;intro _ _;(repeat apply tOp;intro _;simp only[List.length_map,hget,h0,h79,hle,hle2,hcut,hhd,d00,n0,dT,h78,go_sem,Nat.reduceAdd,reduceIte];rfl);rfl;simp only[go_sem];rfl|(with_reducible apply t1);rfl;trivial
    exact tlE;all_goals exact .dead
   |false =>
    rw[hp] at h78;obtain ⟨s2,s7,s8,s9,s10,s11,s12,s15,s21,s50,s60,s82,s87,s117,s130,s140,s155,s177,ih⟩:=ih (pre++[y]) (by simpa using h3);simp only[List.append_assoc,List.singleton_append] at ih;simp only[Bool.not_true,Bool.false_or];refine ⟨s2,s7,s8,s9,s10,s11,s12,s15,s21,s50,s60,s82,s87,s117,s130,s140,s155,s177,?_⟩;cases hz:varsBad (pre++[y]) ys
    all_goals
     rw[hz] at ih;simp only[cond_true,cond_false] at ih ⊢;refine tJ rfl ?_;repeat first|with_reducible constructor|(with_reducible apply tG);kernel_rfl;intro _ _;(repeat apply tOp;intro _;simp only[List.length_map,hget,h0,h79,hle,hle2,hcut,hhd,d00,n0,dT,h78,hw,go_sem,Nat.reduceAdd,reduceIte];rfl);rfl;simp only[go_sem];rfl|(with_reducible apply t1);rfl;trivial|(with_reducible apply t0);rfl;trivial
     exact ih
theorem cells1 (C:List (List UInt8)):((C.map AVal.str).all fun y=>Nat.beq y.cells.length 1)=true:=by
 induction C with
 |nil=>rfl
 |cons a l ih=>rw[List.map_cons,List.all_cons,ih];rfl
def accS (fu:Bool) (l:List AVal):Slot:=match fu with|true=>.full l|false=>.own 1 l
def conBad (C:List (List UInt8)) (c:CoD):Bool:=(!wordB 65 90 c.name||C.any fun z=>z==c.name)||decide (((c.args.length:Nat):Int) > 16)
def consBad:List (List UInt8)→List CoD→Bool
 |_,[]=>false
 |C,c::cs=>conBad C c||consBad (C++[c.name]) cs
theorem loop29c (ds:List DaD) (a3 a5:Slot) (dn:List UInt8) (dv:List (List UInt8)) (T:Sto) (ys:List CoD):∀ (pre:List CoD) (C:List (List UInt8)) (fu:Bool),(pre++ys).length < big→C.length+ys.length+1 < big →
  ∃ s0 s2 s3 s4 s5 s6 s7 s8 s9 s10 s11 s12 s15 s21 s50 s60 s82 s87 s117 s130 s140 s155 s177,LP kd 29 (loopOf Tryz.f29 2) ⟨[.val (.slice (ds.map DaD.enc)),.dead,a3,accS fu (C.map .str),a5,.box [.val (.str dn),.val (.slice (dv.map .str)),.val (.slice ((pre++ys).map CoD.enc))],.dead,.val (.int .i64 (pre.length:Nat)),.dead,.dead,.dead,.dead,.dead,.dead,.dead,.dead,.dead,.dead,.dead,.dead,.dead,.dead,.dead],T⟩ =
   bif consBad C ys then some (.ret,⟨[s0,.val (.int .i64 55),s3,s4,s5,s6,s7,s8,s9,s10,s11,s12,s15,s21,s50,s60,s82,s87,s117,s130,s140,s155,s177],T⟩) else some (.exit 4,⟨[.val (.slice (ds.map DaD.enc)),s2,a3,accS (fu&&ys.isEmpty) ((C++ys.map CoD.name).map .str),a5,.box [.val (.str dn),.val (.slice (dv.map .str)),.val (.slice ((pre++ys).map CoD.enc))],s7,s8,s9,s10,s11,s12,s15,s21,s50,s60,s82,s87,s117,s130,s140,s155,s177],T⟩):=by
 induction ys with
 |nil =>
  intro pre C fu h3 h4;have hlt:=geI pre;simp only[List.append_nil,consBad,cond_false,List.map_nil,List.isEmpty_nil,Bool.and_true];iterate 23 apply Exists.intro
  refine tJ rfl ?_;repeat first|with_reducible constructor|(with_reducible apply tG);kernel_rfl;intro _ _;(repeat apply tOp;intro _;simp only[List.length_map,go_sem];rfl);rfl;simp only[go_sem];rfl
  (with_reducible apply tF);simp only[go_sem];rfl;exact hlt;refine tQ ?_;repeat with_reducible constructor
  exact tlX;all_goals exact .dead
 |cons y ys ih =>
  intro pre C fu h3 h4;have hget:=getI CoD.enc pre ys y;have hlt:=ltI pre ys y;have h0:=zI pre.length;have hw:=wL pre ys y h3;have hr:Nat.ble (C.length+1) room=true:=Nat.ble_eq_true_of_le (by simp at h4;simp only[big] at h4;unfold room;omega);have hcl:=cells1 C;have h77:=c77 (kd:=kd) 65 90 y.name T;have h78:=c78 (kd:=kd) y.name C T (by simp only[List.length_cons] at h4;omega);rw[y.enc_eq] at hget
  replace hr:Nat.ble ((C.map AVal.str).length+1) room=true:=by rw[List.length_map];exact hr
  unfold consBad;cases fu
  all_goals
   simp only[accS];cases h1:wordB 65 90 y.name with
   |false =>
    rw[h1] at h77;have hb:conBad C y=true:=by simp only[conBad,h1,Bool.not_true,Bool.not_false,Bool.false_or,Bool.true_or,Bool.or_true,Bool.or_self]
    simp only[hb,Bool.true_or,cond_true];iterate 23 apply Exists.intro
    refine tJ rfl ?_;repeat first|with_reducible constructor|(with_reducible apply tG);kernel_rfl;intro _ _;(repeat apply tOp;intro _;simp only[List.length_map,go_sem];rfl);rfl;simp only[go_sem];rfl
    (with_reducible apply tT);simp only[go_sem];rfl;exact hlt;refine tQ ?_;repeat first|with_reducible constructor|(with_reducible apply tG);kernel_rfl;intro _ _;(repeat apply tOp;intro _;simp only[hget,h0,h77,go_sem];rfl);rfl;simp only[go_sem];rfl
    (with_reducible apply tT);simp only[go_sem];rfl;rfl;refine tQ ?_;repeat first|with_reducible constructor|(with_reducible apply tG);kernel_rfl;intro _ _;(repeat apply tOp;intro _;simp only[go_sem];rfl);rfl;simp only[go_sem];rfl
    exact tlE;all_goals exact .dead
   |true =>
    rw[h1] at h77;cases hp:C.any (fun z=>z==y.name) with
    |true =>
     rw[hp] at h78;have hb:conBad C y=true:=by simp only[conBad,h1,hp,Bool.not_true,Bool.not_false,Bool.false_or,Bool.true_or,Bool.or_true,Bool.or_self]
     simp only[hb,Bool.true_or,cond_true];iterate 23 apply Exists.intro
     refine tJ rfl ?_;repeat first|with_reducible constructor|(with_reducible apply tG);kernel_rfl;intro _ _;(repeat apply tOp;intro _;simp only[List.length_map,go_sem];rfl);rfl;simp only[go_sem];rfl
     (with_reducible apply tT);simp only[go_sem];rfl;exact hlt;refine tQ ?_;repeat first|with_reducible constructor|(with_reducible apply tG);kernel_rfl;intro _ _;(repeat apply tOp;intro _;simp only[hget,h0,h77,h78,go_sem];rfl);rfl;simp only[go_sem];rfl
     (with_reducible apply tT);simp only[go_sem];rfl;rfl;refine tQ ?_;repeat first|with_reducible constructor|(with_reducible apply tG);kernel_rfl;intro _ _;(repeat apply tOp;intro _;simp only[go_sem];rfl);rfl;simp only[go_sem];rfl
     exact tlE;all_goals exact .dead
    |false =>
     rw[hp] at h78;cases hn:decide (((y.args.length:Nat):Int) > 16) with
     |true =>
      have hb:conBad C y=true:=by simp only[conBad,h1,hp,hn,Bool.not_true,Bool.not_false,Bool.false_or,Bool.true_or,Bool.or_true,Bool.or_self]
      simp only[hb,Bool.true_or,cond_true];iterate 23 apply Exists.intro
      refine tJ rfl ?_;repeat first|with_reducible constructor|(with_reducible apply tG);kernel_rfl;intro _ _;(repeat apply tOp;intro _;simp only[List.length_map,go_sem];rfl);rfl;simp only[go_sem];rfl
      (with_reducible apply tT);simp only[go_sem];rfl;exact hlt;refine tQ ?_;repeat first|with_reducible constructor|(with_reducible apply tG);kernel_rfl;intro _ _;(repeat apply tOp;intro _;simp only[hget,h0,h77,h78,List.length_map,hn,go_sem];rfl);rfl;simp only[go_sem];rfl
      (with_reducible apply tT);simp only[go_sem];rfl;rfl;refine tQ ?_;repeat first|with_reducible constructor|(with_reducible apply tG);kernel_rfl;intro _ _;(repeat apply tOp;intro _;simp only[go_sem];rfl);rfl;simp only[go_sem];rfl
      exact tlE;all_goals exact .dead
     |false =>
      have hb:conBad C y=false:=by simp only[conBad,h1,hp,hn,Bool.not_true,Bool.not_false,Bool.false_or,Bool.true_or,Bool.or_true,Bool.or_self]
      simp only[hb,Bool.false_or];obtain ⟨s0,s2,s3,s4,s5,s6,s7,s8,s9,s10,s11,s12,s15,s21,s50,s60,s82,s87,s117,s130,s140,s155,s177,ih⟩:=ih (pre++[y]) (C++[y.name]) false (by simpa using h3) (by simp at h4 ⊢;omega);rw[show C++[y.name]++ys.map CoD.name=C++(y::ys).map CoD.name by simp,show (C++[y.name]).map AVal.str=C.map AVal.str++[.str y.name] by simp,show pre++[y]++ys=pre++y::ys by simp] at ih;simp only[accS] at ih;refine ⟨s0,s2,s3,s4,s5,s6,s7,s8,s9,s10,s11,s12,s15,s21,s50,s60,s82,s87,s117,s130,s140,s155,s177,?_⟩;cases hz:consBad (C++[y.name]) ys
      all_goals
       rw[hz] at ih;simp only[cond_true,cond_false] at ih ⊢;refine tJ rfl ?_;repeat first|with_reducible constructor|(with_reducible apply tG);kernel_rfl;intro _ _;(repeat apply tOp;intro _;simp only[List.length_map,go_sem];rfl);rfl;simp only[go_sem];rfl
       (with_reducible apply tT);simp only[go_sem];rfl;exact hlt;refine tQ ?_;repeat first|with_reducible constructor|(with_reducible apply tG);kernel_rfl;intro _ _;(repeat apply tOp;intro _;simp only[hget,h0,h77,h78,List.length_map,hn,go_sem];rfl);rfl;simp only[go_sem];rfl
       (with_reducible apply tF);simp only[go_sem];rfl;rfl;refine tQ ?_;repeat first|with_reducible constructor|(with_reducible apply tG);kernel_rfl;intro _ _;(repeat apply tOp;intro _;simp only[hget,h0,hr,hcl,hw,setElems,clean,flat,List.replicate,List.set_cons_zero,List.set_cons_succ,go_sem];rfl);rfl;simp only[go_sem];rfl
       exact ih
end
section
open Go.AM
set_option maxRecDepth 100000
set_option maxHeartbeats 4000000
variable {kd:List UInt8→Int}
def argBad (ds:List DaD) (vs:List (List UInt8)) (x:TyD):Bool:=nTyR ds vs false 100 x||growsR x
theorem ne_ofTy {ds:List DaD} (hne:∀ d∈ds,d.name≠[]) {vs:List (List UInt8)} {fr:Bool}:∀ (m:Nat) (t:TyD),nTyR ds vs fr m t=false→neD t=true:=by
 intro m;induction m with
 |zero=>intro t h;cases h
 |succ m ih =>
  intro t h
  have hname:t.name≠[]:=fun e=>by
   have hf:findD ds []=none:=by
    unfold findD;rw[List.find?_eq_none];intro d hd;rcases List.mem_cons.1 hd with hd|hd
    ·subst hd;decide
    ·have:=hne d hd
     simpa using this
   unfold nTyR shapeR at h;rw[e,hf] at h;simp [qB,peekN] at h
  have hargs:∀ a∈t.args,neD a=true:=by
   unfold nTyR at h;cases hs:shapeR ds vs fr t with
   |none =>
    rw[hs] at h;simp only[List.any_eq_false] at h;intro a ha;exact ih a (by simpa using h a ha)
   |some b =>
    rw[hs] at h;simp only[Bool.not_eq_false'] at h;subst h
    have hnil:t.args=[]:=by
     have hz:(((t.args.length:Nat):Int)==0)=true→t.args=[]:=fun e=>by
      have:t.args.length=0:=by simpa using e
      exact List.length_eq_zero_iff.1 this
     unfold shapeR at hs;cases h1:qB t.name with
     |true =>
      rw[h1] at hs;simp only[cond_true,Option.some.injEq,Bool.and_eq_true] at hs;exact hz hs.1.2
     |false =>
      rw[h1] at hs;simp only[cond_false] at hs;cases h2:(t.name==[73,110,116]) with
      |true =>
       rw[h2] at hs;simp only[cond_true,Option.some.injEq] at hs;exact hz hs
      |false =>
       rw[h2] at hs;simp only[cond_false] at hs;exfalso
       revert hs
       cases (t.name==[45,62]) <;> cases (((t.args.length:Nat):Int) != 2) <;> cases (t.name==[44]) <;> cases (decide (((t.args.length:Nat):Int)≥2)&&decide (((t.args.length:Nat):Int)≤4)) <;> cases (findD ds t.name).isSome <;> cases (((t.args.length:Nat):Int) != ((((findD ds t.name).getD zeroDa).vars.length:Nat):Int)) <;> simp
    intro a ha;rw[hnil] at ha;cases ha
  unfold neD;rw[hasVarD_eq,Bool.not_or,Bool.and_eq_true];refine ⟨by simpa using hname,?_⟩;simp only[Bool.not_eq_true',List.any_eq_false];intro a ha
  have:=hargs a ha
  unfold neD at this;simpa using this
theorem loop29a {ds:List DaD} (h:DsOk ds) (hne:∀ d∈ds,d.name≠[]) (i k:Nat) (dn:List UInt8) (dv:List (List UInt8)) (dc:List CoD) (hdv:dv.length < big) (hds:(ds.map DaD.enc)[((i:Nat):Int).toNat]?=some (.agg [.str dn,.slice (dv.map .str),.slice (dc.map CoD.enc)])) (T:Sto) (ys:List TyD):∀ (pre:List TyD),(pre++ys).length < big→(∀ x∈ys,x.size < big) →
  ∃ s2 s3 s4 s5 s6 s7 s8 s11 s12 s15 s21 s50 s60 s82 s87 s117 s130 s140 s155 s177,LP kd 29 (loopOf Tryz.f29 5) ⟨[.val (.slice (ds.map DaD.enc)),.dead,.dead,.dead,.dead,.dead,.dead,.dead,.val (.int .i64 (i:Nat)),.val (.int .i64 (k:Nat)),.val (.slice ((pre++ys).map TyD.enc)),.val (.int .i64 (pre.length:Nat)),.dead,.dead,.dead,.dead,.dead,.dead,.dead,.dead,.dead,.dead,.dead],T⟩ =
   bif ys.any (argBad ds dv) then some (.ret,⟨[.val (.slice (ds.map DaD.enc)),.val (.int .i64 55),s3,s4,s5,s6,s7,s8,.val (.int .i64 (i:Nat)),.val (.int .i64 (k:Nat)),s11,s12,s15,s21,s50,s60,s82,s87,s117,s130,s140,s155,s177],T⟩) else some (.exit 10,⟨[.val (.slice (ds.map DaD.enc)),s2,s3,s4,s5,s6,s7,s8,.val (.int .i64 (i:Nat)),.val (.int .i64 (k:Nat)),s11,s12,s15,s21,s50,s60,s82,s87,s117,s130,s140,s155,s177],T⟩):=by
 have hi:=zI i;induction ys with
 |nil =>
  intro pre h3 h4;have hlt:=geI pre;simp only[List.append_nil,List.any_nil,cond_false];iterate 20 apply Exists.intro
  refine tJ rfl ?_;repeat first|with_reducible constructor|(with_reducible apply tG);kernel_rfl;intro _ _;(repeat apply tOp;intro _;simp only[List.length_map,go_sem];rfl);rfl;simp only[go_sem];rfl|(with_reducible apply t0);rfl;trivial
  exact tlX;all_goals exact .dead
 |cons y ys ih =>
  intro pre h3 h4;have hget:=getI TyD.enc pre ys y;have hlt:=ltI pre ys y;have h0:=zI pre.length;have hw:=wL pre ys y h3;have h80:=c80 (kd:=kd) h dv hdv false 100 (by simp [big]) y T (h4 y (by simp));have e100:((100:Nat):Int)=100:=rfl;rw[e100] at h80;simp only[List.any_cons];cases h1:nTyR ds dv false 100 y with
  |true =>
   rw[h1] at h80;rw[y.enc_eq] at hget h80;have hb:argBad ds dv y=true:=by simp only[argBad,h1,Bool.true_or]
   simp only[hb,Bool.true_or,cond_true];iterate 20 apply Exists.intro
   refine tJ rfl ?_;repeat first|with_reducible constructor|(with_reducible apply tG);kernel_rfl;intro _ _;(repeat apply tOp;intro _;simp only[List.length_map,hget,h0,hds,hi,h80,go_sem];rfl);rfl;simp only[go_sem];rfl|(with_reducible apply t1);rfl;trivial
   exact tlE;all_goals exact .dead
  |false =>
   have h81:=c81 (kd:=kd) _ y (Nat.lt_succ_self _) (by have:=h4 y (by simp);omega) (ne_ofTy hne 100 y h1) T;rw[h1] at h80;rw[y.enc_eq] at hget h80 h81;cases h2:growsR y with
   |true =>
    rw[h2] at h81;have hb:argBad ds dv y=true:=by simp only[argBad,h1,h2,Bool.false_or]
    simp only[hb,Bool.true_or,cond_true];iterate 20 apply Exists.intro
    refine tJ rfl ?_;repeat first|with_reducible constructor|(with_reducible apply tG);kernel_rfl;intro _ _;(repeat apply tOp;intro _;simp only[List.length_map,hget,h0,hds,hi,h80,h81,go_sem];rfl);rfl;simp only[go_sem];rfl|(with_reducible apply t1);rfl;trivial
    exact tlE;all_goals exact .dead
   |false =>
    rw[h2] at h81;have hb:argBad ds dv y=false:=by simp only[argBad,h1,h2,Bool.false_or]
    obtain ⟨s2,s3,s4,s5,s6,s7,s8,s11,s12,s15,s21,s50,s60,s82,s87,s117,s130,s140,s155,s177,ih⟩:=ih (pre++[y]) (by simpa using h3) (fun x hx=>h4 x (by simp [hx]));simp only[List.append_assoc,List.singleton_append] at ih;simp only[hb,Bool.false_or];refine ⟨s2,s3,s4,s5,s6,s7,s8,s11,s12,s15,s21,s50,s60,s82,s87,s117,s130,s140,s155,s177,?_⟩;cases hz:ys.any (argBad ds dv)
    all_goals
     rw[hz] at ih;simp only[cond_true,cond_false] at ih ⊢;refine tJ rfl ?_;repeat first|with_reducible constructor|(with_reducible apply tG);kernel_rfl;intro _ _;(repeat apply tOp;intro _;simp only[List.length_map,hget,h0,hds,hi,h80,h81,hw,go_sem];rfl);rfl;simp only[go_sem];rfl|(with_reducible apply t1);rfl;trivial|(with_reducible apply t0);rfl;trivial
     exact ih
theorem loop29b {ds:List DaD} (h:DsOk ds) (hne:∀ d∈ds,d.name≠[]) (i:Nat) (d:DaD) (hd:d.ok) (hds:(ds.map DaD.enc)[((i:Nat):Int).toNat]?=some (.agg [.str d.name,.slice (d.vars.map .str),.slice (d.cons.map CoD.enc)])) (T:Sto) (ys:List CoD):∀ (pre:List CoD),d.cons=pre++ys →
  ∃ s2 s3 s4 s5 s6 s7 s8 s10 s11 s12 s15 s21 s50 s60 s82 s87 s117 s130 s140 s155 s177,LP kd 29 (loopOf Tryz.f29 4) ⟨[.val (.slice (ds.map DaD.enc)),.dead,.dead,.dead,.dead,.dead,.dead,.dead,.val (.int .i64 (i:Nat)),.val (.int .i64 (pre.length:Nat)),.dead,.dead,.dead,.dead,.dead,.dead,.dead,.dead,.dead,.dead,.dead,.dead,.dead],T⟩ =
   bif ys.any (fun c=>c.args.any (argBad ds d.vars)) then some (.ret,⟨[.val (.slice (ds.map DaD.enc)),.val (.int .i64 55),s3,s4,s5,s6,s7,s8,.val (.int .i64 (i:Nat)),s10,s11,s12,s15,s21,s50,s60,s82,s87,s117,s130,s140,s155,s177],T⟩) else some (.exit 8,⟨[.val (.slice (ds.map DaD.enc)),s2,s3,s4,s5,s6,s7,s8,.val (.int .i64 (i:Nat)),s10,s11,s12,s15,s21,s50,s60,s82,s87,s117,s130,s140,s155,s177],T⟩):=by
 have hi:=zI i;induction ys with
 |nil =>
  intro pre h1;rw[List.append_nil] at h1;have hlt:=geI d.cons;rw[←h1];simp only[List.any_nil,cond_false];iterate 21 apply Exists.intro
  refine tJ rfl ?_;repeat first|with_reducible constructor|(with_reducible apply tG);kernel_rfl;intro _ _;(repeat apply tOp;intro _;simp only[hds,hi,List.length_map,go_sem];rfl);rfl;simp only[go_sem];rfl|(with_reducible apply t0);rfl;trivial
  exact tlX;all_goals exact .dead
 |cons y ys ih =>
  intro pre h1;have hget:=getI CoD.enc pre ys y;have hlt:=ltI pre ys y;have h0:=zI pre.length;have hw:=wL pre ys y (by rw[←h1];have:=hd.cons;omega);have hym:y∈d.cons:=by rw[h1];simp
  rw[←h1,y.enc_eq] at hget;rw[←h1] at hlt;obtain ⟨s2,s3,s4,s5,s6,s7,s8,s11,s12,s15,s21,s50,s60,s82,s87,s117,s130,s140,s155,s177,hl⟩:=loop29a (kd:=kd) h hne i pre.length d.name d.vars d.cons hd.vars hds T y.args [] (by have:=hd.args y hym;simp only[List.nil_append];omega) (fun x hx=>hd.types y hym x hx);simp only[List.nil_append,List.length_nil] at hl;have e0:((0:Nat):Int)=0:=rfl;rw[e0] at hl;simp only[List.any_cons];cases hq:y.args.any (argBad ds d.vars) with
  |true =>
   rw[hq] at hl;simp only[cond_true] at hl;simp only[Bool.true_or,cond_true];iterate 21 apply Exists.intro
   refine tJ rfl ?_;repeat first|with_reducible constructor|(with_reducible apply tG);kernel_rfl;intro _ _;(repeat apply tOp;intro _;simp only[hds,hi,List.length_map,hget,h0,go_sem];rfl);rfl;simp only[go_sem];rfl|(with_reducible apply tM);assumption|(with_reducible apply t1);rfl;trivial
   exact tlE;all_goals exact .dead
  |false =>
   rw[hq] at hl;simp only[cond_false] at hl;obtain ⟨s2,s3,s4,s5,s6,s7,s8,s10,s11,s12,s15,s21,s50,s60,s82,s87,s117,s130,s140,s155,s177,ih⟩:=ih (pre++[y]) (by rw[h1];simp);simp only[Bool.false_or];refine ⟨s2,s3,s4,s5,s6,s7,s8,s10,s11,s12,s15,s21,s50,s60,s82,s87,s117,s130,s140,s155,s177,?_⟩;cases hz:ys.any (fun c=>c.args.any (argBad ds d.vars))
   all_goals
    rw[hz] at ih;simp only[cond_true,cond_false] at ih ⊢;refine tJ rfl ?_;repeat first|with_reducible constructor|(with_reducible apply tG);kernel_rfl;intro _ _;(repeat apply tOp;intro _;simp only[hds,hi,List.length_map,hget,h0,hw,go_sem];rfl);rfl;simp only[go_sem];rfl|(with_reducible apply tM);assumption|(with_reducible apply t1);rfl;trivial
    exact ih
def datArgs (ds:List DaD) (d:DaD):Bool:=d.cons.any fun c=>c.args.any (argBad ds d.vars)
theorem loop29e {ds:List DaD} (h:DsOk ds) (hne:∀ d∈ds,d.name≠[]) (T:Sto) (ys:List DaD):∀ (pre:List DaD),ds=pre++ys →
  ∃ s2 s3 s4 s5 s6 s7 s8 s9 s10 s11 s12 s15 s21 s50 s60 s82 s87 s117 s130 s140 s155 s177,LP kd 29 (loopOf Tryz.f29 3) ⟨[.val (.slice (ds.map DaD.enc)),.dead,.dead,.dead,.dead,.dead,.dead,.dead,.val (.int .i64 (pre.length:Nat)),.dead,.dead,.dead,.dead,.dead,.dead,.dead,.dead,.dead,.dead,.dead,.dead,.dead,.dead],T⟩ =
   bif ys.any (datArgs ds) then some (.ret,⟨[.val (.slice (ds.map DaD.enc)),.val (.int .i64 55),s3,s4,s5,s6,s7,s8,s9,s10,s11,s12,s15,s21,s50,s60,s82,s87,s117,s130,s140,s155,s177],T⟩) else some (.exit 6,⟨[.val (.slice (ds.map DaD.enc)),s2,s3,s4,s5,s6,s7,s8,s9,s10,s11,s12,s15,s21,s50,s60,s82,s87,s117,s130,s140,s155,s177],T⟩):=by
 induction ys with
 |nil =>
  intro pre h1;rw[List.append_nil] at h1;have hlt:=geI ds;rw[←h1];simp only[List.any_nil,cond_false];iterate 22 apply Exists.intro
  refine tJ rfl ?_;repeat first|with_reducible constructor|(with_reducible apply tG);kernel_rfl;intro _ _;(repeat apply tOp;intro _;simp only[List.length_map,go_sem];rfl);rfl;simp only[go_sem];rfl|(with_reducible apply t0);rfl;trivial
  exact tlX;all_goals exact .dead
 |cons y ys ih =>
  intro pre h1;have hget:=getI DaD.enc pre ys y;have hlt:=ltI pre ys y;have h0:=zI pre.length;have hw:=wL pre ys y (by rw[←h1];have:=h.len;omega);have hym:y∈ds:=by rw[h1];simp
  rw[←h1] at hget hlt;rw[show y.enc=.agg [.str y.name,.slice (y.vars.map .str),.slice (y.cons.map CoD.enc)] from rfl] at hget;obtain ⟨s2,s3,s4,s5,s6,s7,s8,s10,s11,s12,s15,s21,s50,s60,s82,s87,s117,s130,s140,s155,s177,hl⟩:=loop29b (kd:=kd) h hne pre.length y (h.ok y hym) hget T y.cons [] rfl;simp only[List.length_nil] at hl;have e0:((0:Nat):Int)=0:=rfl;rw[e0] at hl;simp only[List.any_cons];cases hq:datArgs ds y with
  |true =>
   rw[show (y.cons.any fun c=>c.args.any (argBad ds y.vars))=_ from hq] at hl;simp only[cond_true] at hl;simp only[Bool.true_or,cond_true];iterate 22 apply Exists.intro
   refine tJ rfl ?_;repeat first|with_reducible constructor|(with_reducible apply tG);kernel_rfl;intro _ _;(repeat apply tOp;intro _;simp only[List.length_map,go_sem];rfl);rfl;simp only[go_sem];rfl|(with_reducible apply tM);assumption|(with_reducible apply t1);rfl;trivial
   exact tlE;all_goals exact .dead
  |false =>
   rw[show (y.cons.any fun c=>c.args.any (argBad ds y.vars))=_ from hq] at hl;simp only[cond_false] at hl;obtain ⟨s2,s3,s4,s5,s6,s7,s8,s9,s10,s11,s12,s15,s21,s50,s60,s82,s87,s117,s130,s140,s155,s177,ih⟩:=ih (pre++[y]) (by rw[h1];simp);simp only[Bool.false_or];refine ⟨s2,s3,s4,s5,s6,s7,s8,s9,s10,s11,s12,s15,s21,s50,s60,s82,s87,s117,s130,s140,s155,s177,?_⟩;cases hz:ys.any (datArgs ds)
   all_goals
    rw[hz] at ih;simp only[cond_true,cond_false] at ih ⊢;refine tJ rfl ?_;repeat first|with_reducible constructor|(with_reducible apply tG);kernel_rfl;intro _ _;(repeat apply tOp;intro _;simp only[List.length_map,hw,go_sem];rfl);rfl;simp only[go_sem];rfl|(with_reducible apply tM);assumption|(with_reducible apply t1);rfl;trivial
    exact ih
end
end Go.Proofs.YtkmnkiekmlcfdaaGreatDoor
