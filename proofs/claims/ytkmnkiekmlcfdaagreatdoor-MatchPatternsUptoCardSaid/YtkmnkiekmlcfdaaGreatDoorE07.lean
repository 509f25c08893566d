/- Part E07 of the proof of one law of the program. -/
import Derived.Test.YtkmnkiekmlcfdaaGreatDoorE06
set_option linter.all false
namespace Go.Proofs.YtkmnkiekmlcfdaaGreatDoor
open Go.AM
section
open Go.AM
set_option maxRecDepth 100000
set_option maxHeartbeats 4000000
variable {kd:List UInt8→Int}
structure DsOk (ds:List DaD):Prop where
 len:ds.length+1 < big
 tot:conTot ds+1 < big
 ok:∀ d∈ds,d.ok
def chkT (vr cn:List UInt8→Bool) (ds:List DaD) (t:TyD):Bool:=declD vr cn ds&&typedD vr ds 100 t
theorem c30 {ds:List DaD} (h:DsOk ds) (t:TyD) (ht:t.size < big) (sto:Sto) (hlo:sto.lo≤sto.objs.length) :
  CF kd (.fn 30) [.val (.slice (ds.map DaD.enc)),.val t.enc] sto=some (.ret (.val (.int .i64 (bif chkT (isK kd 4) (isK kd 3) ds t then 0 else 55))),sto):=by
 have h1:=c76 (kd:=kd) ds h.len h.tot h.ok sto hlo;have h2:=c82 (kd:=kd) (ds:=ds) (by have:=h.len;omega) (fun d hd=>(h.ok d hd).vars) 100 (by simp [big]) t sto ht hlo;have e0:((100:Nat):Int)=100:=rfl;rw[e0] at h2;rw[t.enc_eq] at h2 ⊢;simp only[chkT];cases hA:declD (isK kd 4) (isK kd 3) ds with
 |false =>
  rw[hA] at h1;simp only[Bool.false_and,cond_false];apply tA;rfl;rfl;exact Tryz.func30;rfl;rfl;simp only[go_sem];rfl;refine tQ ?_;repeat first|with_reducible constructor|(with_reducible apply tG);kernel_rfl;intro _ _;(repeat apply tOp;intro _;simp only[h1,go_sem];rfl);rfl;simp only[go_sem];rfl|(with_reducible apply t1);rfl;trivial
  exact fin0 rfl
 |true =>
  rw[hA] at h1;simp only[Bool.true_and];cases hB:typedD (isK kd 4) ds 100 t with
  |false =>
   rw[hB] at h2;apply tA;rfl;rfl;exact Tryz.func30;rfl;rfl;simp only[go_sem];rfl;refine tQ ?_;repeat first|with_reducible constructor|(with_reducible apply tG);kernel_rfl;intro _ _;(repeat apply tOp;intro _;simp only[h1,h2,go_sem];rfl);rfl;simp only[go_sem];rfl|(with_reducible apply t1);rfl;trivial
   exact fin0 rfl
  |true =>
   rw[hB] at h2;apply tA;rfl;rfl;exact Tryz.func30;rfl;rfl;simp only[go_sem];rfl;refine tQ ?_;repeat first|with_reducible constructor|(with_reducible apply tG);kernel_rfl;intro _ _;(repeat apply tOp;intro _;simp only[h1,h2,go_sem];rfl);rfl;simp only[go_sem];rfl|(with_reducible apply t0);rfl;trivial
   exact fin0 rfl
def zeroTy:TyD:=.mk [] []
theorem zeroTy_enc:zeroTy.enc=.agg [.str [],.slice []]:=by simp [zeroTy,TyD.enc_mk]
def putD (f:List UInt8→Option TyD) (t:TyD):TyD:=match f t.name with|some x=>x|none=>.mk t.name (t.args.attach.map fun a=>putD f a.1)
termination_by t.size
decreasing_by exact TyD.args_size a.2
theorem putD_eq (f:List UInt8→Option TyD) (t:TyD):putD f t=match f t.name with|some x=>x|none=>.mk t.name (t.args.map (putD f)):=by
 rw[putD]
 have:(t.args.attach.map fun a=>putD f a.1)=t.args.map (putD f):=by simp
 rw[this]
theorem loop116 (f:List UInt8→Option TyD) (g:FuncId) (caps:List AVal) (nm:List UInt8) (a4:Slot) (sto:Sto) (ys:List TyD):∀ (pre:List TyD) (X:List AVal),(pre++ys).length < big→X.length+ys.length+1 < big →
  (∀ y∈ys,CF kd (.fn 116) [.val y.enc,.val (.func g caps)] sto=some (.ret (.val (putD f y).enc),sto)) →
  ∃ s0 s1 s2 s5 s6 s9 s17 s23 s24 s25 s26,LP kd 116 (loopOf Tryz.f116 0) ⟨[.dead,.val (.func g caps),.dead,a4,.dead,.dead,.box [.val (.str nm),.own 2 X],.dead,.dead,.val (.slice ((pre++ys).map TyD.enc)),.val (.int .i64 ((pre++ys).length:Nat)),.val (.int .i64 (pre.length:Nat)),.dead],sto⟩ =
   some (.exit 0,⟨[s0,s1,s2,a4,s5,s6,.box [.val (.str nm),.own 2 (X++ys.map fun y=>(putD f y).enc)],s9,s17,s23,s24,s25,s26],sto⟩):=by
 induction ys with
 |nil =>
  intro pre X h3 h4 h2;have hlt:=geI pre;simp only[List.map_nil,List.append_nil];iterate 11 apply Exists.intro
  refine tJ rfl ?_;repeat first|with_reducible constructor|(with_reducible apply tG);kernel_rfl;intro _ _;(repeat apply tOp;intro _;simp only[go_sem];rfl);rfl;simp only[go_sem];rfl|(with_reducible apply t0);rfl;trivial
  exact tlX;all_goals exact .dead
 |cons y ys ih =>
  intro pre X h3 h4 h2;have hget:=getI TyD.enc pre ys y;have hlt:=ltI pre ys y;have h0:=zI pre.length;have hw:=wL pre ys y h3;have hr:=roomI X (by simp at h4;omega);have hc:=h2 y (by simp);obtain ⟨s0,s1,s2,s5,s6,s9,s17,s23,s24,s25,s26,ih⟩:=ih (pre++[y]) (X++[(putD f y).enc]) (by simpa using h3) (by simp at h4 ⊢;omega) (fun x hx=>h2 x (by simp [hx]));simp only[List.append_assoc,List.singleton_append] at ih;simp only[List.map_cons];rw[(putD f y).enc_eq] at ih hc ⊢;rw[y.enc_eq] at hget hc;refine ⟨s0,s1,s2,s5,s6,s9,s17,s23,s24,s25,s26,?_⟩;refine tJ rfl ?_;repeat first|with_reducible constructor|(with_reducible apply tG);kernel_rfl;intro _ _;(repeat apply tOp;intro _;simp only[hget,h0,hw,hc,hr,setElems,clean,flat,AVal.cells,List.replicate,List.set_cons_zero,List.length_map,go_sem];rfl);rfl;simp only[go_sem];rfl|(with_reducible apply t1);rfl;trivial
  exact ih
theorem c116 {f:List UInt8→Option TyD} {g:FuncId} (hg:(ans g).ownArg=[]) {caps:List AVal}:∀ (t:TyD) (sto:Sto),t.size < big →
  (∀ s,CF kd (.fn g) (.val (.str s)::caps.map .val) sto=some (.ret (.tup [((f s).getD zeroTy).enc,.bool (f s).isSome]),sto)) →
  CF kd (.fn 116) [.val t.enc,.val (.func g caps)] sto=some (.ret (.val (putD f t).enc),sto):=by
 refine TyD.ind fun t ih sto ht hf=>?_
 have h1:=hf t.name;have hal:=t.args_len
 obtain ⟨s0,s1,s2,s5,s6,s9,s17,s23,s24,s25,s26,hl⟩:=loop116 (kd:=kd) f g caps t.name (.box [.val (.str []),.own 2 []]) sto t.args [] [] (by simp only[List.nil_append];omega) (by simp only[List.length_nil];simp only[big] at ht ⊢;omega)
  (fun y hy=>ih y hy sto (by have:=TyD.args_size hy;omega) hf)
 simp only[List.nil_append,List.length_nil] at hl;have e0:((0:Nat):Int)=0:=rfl;rw[e0] at hl;rw[putD_eq];rw[t.enc_eq];cases hA:f t.name with
 |some x =>
  rw[hA] at h1;simp only[Option.getD_some,Option.isSome_some] at h1 ⊢;rw[x.enc_eq] at h1 ⊢;apply tA;rfl;rfl;exact Tryz.func116;rfl;rfl;simp only[go_sem];rfl;refine tQ ?_;repeat first|with_reducible constructor|(with_reducible apply tG);kernel_rfl;intro _ _;(repeat apply tOp;intro _;simp only[h1,hg,go_sem];rfl);rfl;simp only[go_sem];rfl|(with_reducible apply t1);rfl;trivial
  exact fin0 rfl
 |none =>
  rw[hA] at h1;simp only[Option.getD_none,Option.isSome_none,zeroTy_enc] at h1;rw[TyD.enc_mk,List.map_map];have e1:(t.args.map (TyD.enc∘putD f))=t.args.map fun y=>(putD f y).enc:=rfl
  rw[e1];apply tA;rfl;rfl;exact Tryz.func116;rfl;rfl;simp only[go_sem];rfl;refine tQ ?_;repeat first|with_reducible constructor|(with_reducible apply tG);kernel_rfl;intro _ _;(repeat apply tOp;intro _;simp only[h1,hg,List.length_map,go_sem];rfl);rfl;simp only[go_sem];rfl|(with_reducible apply tM);assumption|(with_reducible apply t0);rfl;trivial
  exact fin0 rfl
end
section
open Go.AM
set_option maxRecDepth 100000
set_option maxHeartbeats 4000000
variable {kd:List UInt8→Int}
def ofD (vs:List (List UInt8)) (tas:List TyD) (s:List UInt8):Option TyD:=match vs.findIdx? (fun y=>s==y) with|some i=>tas[i]?|none=>none
theorem c114 {vs:List (List UInt8)} (hv:vs.length < big) {tas:List TyD} {i j:Nat} {a b c:Cell} {sto:Sto} (hi:sto.objs[i]?=some (.box [a,.val (.slice (vs.map .str)),b])) (hj:sto.objs[j]?=some (.box [c,.val (.slice (tas.map TyD.enc))])) (s:List UInt8) :
  CF kd (.fn 114) [.val (.str s),.val (.loc i 0),.val (.loc j 0)] sto=some (.ret (.tup [((ofD vs tas s).getD zeroTy).enc,.bool (ofD vs tas s).isSome]),sto):=by
 have h:=c115 (kd:=kd) s sto vs (by simp only[big] at hv;omega);simp only[ofD];cases hf:vs.findIdx? (fun y=>s==y) with
 |none =>
  rw[hf] at h;have hg:decide ((-1:Int)≥0)=false:=rfl;simp only[Option.getD_none,Option.isSome_none,zeroTy_enc];apply tA;rfl;rfl;exact Tryz.func114;rfl;rfl;simp only[go_sem];rfl;refine tQ ?_;repeat first|with_reducible constructor|(with_reducible apply tG);kernel_rfl;intro _ _;(repeat apply tOp;intro _;simp only[hi,hj,h,hg,Nat.zero_add,go_sem];rfl);rfl;simp only[go_sem];rfl|(with_reducible apply t0);rfl;trivial
  exact fin0 rfl
 |some k =>
  rw[hf] at h;have hg:decide (((k:Nat):Int)≥0)=true:=by simp
  have hl:(tas.map TyD.enc).length=tas.length:=by simp
  cases hk:tas[k]? with
  |none =>
   have hlt:decide (((k:Nat):Int) < (tas.length:Nat))=false:=by
    have:=List.getElem?_eq_none_iff.1 hk;simp;omega
   simp only[hk,Option.getD_none,Option.isSome_none,zeroTy_enc];apply tA;rfl;rfl;exact Tryz.func114;rfl;rfl;simp only[go_sem];rfl;refine tQ ?_;repeat first|with_reducible constructor|(with_reducible apply tG);kernel_rfl;intro _ _;(repeat apply tOp;intro _;simp only[hi,hj,h,hg,hlt,List.length_map,Nat.zero_add,go_sem];rfl);rfl;simp only[go_sem];rfl|(with_reducible apply t0);rfl;trivial
   exact fin0 rfl
  |some x =>
   have hlt:decide (((k:Nat):Int) < (tas.length:Nat))=true:=by
    have:=(List.getElem?_eq_some_iff.1 hk).1;simp;omega
   have hget:(tas.map TyD.enc)[((k:Nat):Int).toNat]?=some (.agg [.str x.name,.slice (x.args.map TyD.enc)]):=by
    simp [hk,x.enc_eq]
   have h0:=zI k;simp only[hk,Option.getD_some,Option.isSome_some];rw[x.enc_eq];apply tA;rfl;rfl;exact Tryz.func114;rfl;rfl;simp only[go_sem];rfl;refine tQ ?_;repeat first|with_reducible constructor|(with_reducible apply tG);kernel_rfl;intro _ _;(repeat apply tOp;intro _;simp only[hi,hj,h,hg,hlt,List.length_map,Nat.zero_add,hget,h0,go_sem];rfl);rfl;simp only[go_sem];rfl|(with_reducible apply t1);rfl;trivial
   exact fin0 rfl
theorem ann114:(ans 114).ownArg=[]:=by rw[an114]
theorem loop73b (f:List UInt8→Option TyD) (g:FuncId) (caps:List AVal) (a8 a39 a40 a41:Slot) (nm:List UInt8) (sto:Sto) (ys:List TyD):∀ (pre:List TyD) (X:List AVal),(pre++ys).length < big→X.length+ys.length+1 < big →
  (∀ y∈ys,CF kd (.fn 116) [.val y.enc,.val (.func g caps)] sto=some (.ret (.val (putD f y).enc),sto)) →
  ∃ s0 s1 s3 s4 s5 s6 s10 s13 s16 s36 s42 s49 s50 s51 s52,LP kd 73 (loopOf Tryz.f73 1) ⟨[.dead,.dead,.dead,.dead,.dead,.dead,.val (.func g caps),a8,.dead,.box [.val (.str nm),.own 2 X],.dead,.dead,.dead,a39,a40,a41,.dead,.val (.slice ((pre++ys).map TyD.enc)),.val (.int .i64 ((pre++ys).length:Nat)),.val (.int .i64 (pre.length:Nat)),.dead],sto⟩ =
   some (.exit 2,⟨[s0,s1,s3,s4,s5,s6,.val (.func g caps),a8,s10,.box [.val (.str nm),.own 2 (X++ys.map fun y=>(putD f y).enc)],s13,s16,s36,a39,a40,a41,s42,s49,s50,s51,s52],sto⟩):=by
 induction ys with
 |nil =>
  intro pre X h3 h4 h2;have hlt:=geI pre;simp only[List.map_nil,List.append_nil];iterate 15 apply Exists.intro
  refine tJ rfl ?_;repeat first|with_reducible constructor|(with_reducible apply tG);kernel_rfl;intro _ _;(repeat apply tOp;intro _;simp only[go_sem];rfl);rfl;simp only[go_sem];rfl|(with_reducible apply t0);rfl;trivial
  exact tlX;all_goals exact .dead
 |cons y ys ih =>
  intro pre X h3 h4 h2;have hget:=getI TyD.enc pre ys y;have hlt:=ltI pre ys y;have h0:=zI pre.length;have hw:=wL pre ys y h3;have hr:=roomI X (by simp at h4;omega);have hc:=h2 y (by simp);obtain ⟨s0,s1,s3,s4,s5,s6,s10,s13,s16,s36,s42,s49,s50,s51,s52,ih⟩:=ih (pre++[y]) (X++[(putD f y).enc]) (by simpa using h3) (by simp at h4 ⊢;omega) (fun x hx=>h2 x (by simp [hx]));simp only[List.append_assoc,List.singleton_append] at ih;simp only[List.map_cons];rw[(putD f y).enc_eq] at ih hc ⊢;rw[y.enc_eq] at hget hc;refine ⟨s0,s1,s3,s4,s5,s6,s10,s13,s16,s36,s42,s49,s50,s51,s52,?_⟩;refine tJ rfl ?_;repeat first|with_reducible constructor|(with_reducible apply tG);kernel_rfl;intro _ _;(repeat apply tOp;intro _;simp only[hget,h0,hw,hc,hr,setElems,clean,flat,AVal.cells,List.replicate,List.set_cons_zero,List.length_map,go_sem];rfl);rfl;simp only[go_sem];rfl|(with_reducible apply t1);rfl;trivial
  exact ih
def putC (f:List UInt8→Option TyD) (c:CoD):CoD:=⟨c.name,c.args.map (putD f)⟩
theorem loop73a (f:List UInt8→Option TyD) (g:FuncId) (caps:List AVal) (sto:Sto) (ys:List CoD):∀ (pre:List CoD) (X:List AVal),(pre++ys).length < big→X.length+ys.length+1 < big→(∀ c∈ys,c.args.length+1 < big) →
  (∀ c∈ys,∀ y∈c.args,CF kd (.fn 116) [.val y.enc,.val (.func g caps)] sto=some (.ret (.val (putD f y).enc),sto)) →
  ∃ s0 s1 s3 s4 s5 s6 s7 s10 s11 s13 s16 s36 s39 s40 s41 s42 s49 s50 s51 s52,LP kd 73 (loopOf Tryz.f73 0) ⟨[.dead,.dead,.dead,.dead,.dead,.dead,.val (.func g caps),.own 2 X,.dead,.dead,.dead,.dead,.dead,.val (.slice ((pre++ys).map CoD.enc)),.val (.int .i64 ((pre++ys).length:Nat)),.val (.int .i64 (pre.length:Nat)),.dead,.dead,.dead,.dead,.dead],sto⟩ =
   some (.exit 0,⟨[s0,s1,s3,s4,s5,s6,s7,.own 2 (X++ys.map fun c=>(putC f c).enc),s10,s11,s13,s16,s36,s39,s40,s41,s42,s49,s50,s51,s52],sto⟩):=by
 induction ys with
 |nil =>
  intro pre X h3 h4 hn h2;have hlt:=geI pre;simp only[List.map_nil,List.append_nil];iterate 20 apply Exists.intro
  refine tJ rfl ?_;repeat first|with_reducible constructor|(with_reducible apply tG);kernel_rfl;intro _ _;(repeat apply tOp;intro _;simp only[go_sem];rfl);rfl;simp only[go_sem];rfl|(with_reducible apply t0);rfl;trivial
  exact tlX;all_goals exact .dead
 |cons y ys ih =>
  intro pre X h3 h4 hn h2;have hget:=getI CoD.enc pre ys y;rw[y.enc_eq] at hget;have hlt:=ltI pre ys y;have h0:=zI pre.length;have hw:=wL pre ys y h3;have hr:=roomI X (by simp at h4;omega);obtain ⟨s0,s1,s3,s4,s5,s6,s10,s13,s16,s36,s42,s49,s50,s51,s52,hin⟩:=loop73b (kd:=kd) f g caps (.own 2 X) (.val (.slice ((pre++y::ys).map CoD.enc))) (.val (.int .i64 ((pre++y::ys).length:Nat))) (.val (.int .i64 (pre.length:Nat))) y.name sto y.args [] [] (by have:=hn y (by simp);simp only[List.nil_append];omega) (by have:=hn y (by simp);simp only[List.length_nil];omega) (h2 y (by simp));simp only[List.nil_append,List.length_nil] at hin;have e0:((0:Nat):Int)=0:=rfl;rw[e0] at hin;have ec:(putC f y).enc=.agg [.str y.name,.slice (y.args.map fun y=>(putD f y).enc)]:=by rw[CoD.enc_eq];simp [putC]
  obtain ⟨m0,m1,m3,m4,m5,m6,m7,m10,m11,m13,m16,m36,m39,m40,m41,m42,m49,m50,m51,m52,ih⟩:=ih (pre++[y]) (X++[(putC f y).enc]) (by simpa using h3) (by simp at h4 ⊢;omega) (fun x hx=>hn x (by simp [hx])) (fun x hx=>h2 x (by simp [hx]));simp only[List.append_assoc,List.singleton_append] at ih;simp only[List.map_cons];rw[ec] at ih ⊢;refine ⟨m0,m1,m3,m4,m5,m6,m7,m10,m11,m13,m16,m36,m39,m40,m41,m42,m49,m50,m51,m52,?_⟩;refine tJ rfl ?_;repeat first|with_reducible constructor|(with_reducible apply tG);kernel_rfl;intro _ _;(repeat apply tOp;intro _;simp only[hget,h0,List.length_map,hw,hr,setElems,clean,flat,AVal.cells,List.replicate,List.set_cons_zero,go_sem];rfl);rfl;simp only[go_sem];rfl|(with_reducible apply tM);assumption|(with_reducible apply t1);rfl;trivial
  exact ih
def consD (ds:List DaD) (t:TyD):List CoD:=if t.name==[44] then [⟨[44],t.args⟩] else match findD ds t.name with
 |none=>[]
 |some d=>d.cons.map (putC (ofD d.vars t.args))
theorem headT (l:List TyD):headOk 2 (l.map TyD.enc)=true:=by
 cases l with
 |nil=>rfl
 |cons x l=>simp only[List.map_cons,headOk];rw[x.enc_eq];rfl
theorem truthsD_ok:truthsD.ok:=by
 refine ⟨by simp [truthsD,big],by simp [truthsD,big],?_,?_⟩
 ·intro c hc;simp only[truthsD,List.mem_cons,List.not_mem_nil,or_false] at hc;rcases hc with rfl|rfl <;> simp [big]
 ·intro c hc x hx;simp only[truthsD,List.mem_cons,List.not_mem_nil,or_false] at hc;rcases hc with rfl|rfl <;> simp at hx
theorem findD_ok {ds:List DaD} (h:DsOk ds) {n:List UInt8} {d:DaD} (hf:findD ds n=some d):d.ok:=by
 rcases List.mem_cons.1 (List.mem_of_find?_eq_some hf) with rfl|hd
 ·exact truthsD_ok
 ·exact h.ok d hd
theorem c73 {ds:List DaD} (h:DsOk ds) (t:TyD) (sto:Sto) (hlo:sto.lo≤sto.objs.length) :
  CF kd (.fn 73) [.val (.slice (ds.map DaD.enc)),.val t.enc] sto=some (.ret (.val (.slice ((consD ds t).map CoD.enc))),sto):=by
 have hf:=c113 (kd:=kd) ds (by have:=h.len;omega) t.name ⟨sto.objs++[.box [.val (.str t.name),.val (.slice (t.args.map TyD.enc))]],sto.lo⟩ (by simp;omega);rw[DaD.enc_eq] at hf;have hb1:Nat.ble sto.lo (sto.objs.length+1)=true:=Nat.ble_eq_true_of_le (by omega);have htk:(t.args.map TyD.enc).take ((t.args.length:Nat):Int).toNat=t.args.map TyD.enc:=by rw[Int.toNat_natCast];apply List.take_of_length_le;simp
 have h0:=zI t.args.length;have hle:decide (((t.args.length:Nat):Int)≤((t.args.length:Nat):Int))=true:=by simp
 have heq:decide (((t.args.length:Nat):Int)=((t.args.length:Nat):Int))=true:=by simp
 simp only[consD];rw[t.enc_eq];cases hA:(t.name==[44]) with
 |true =>
  simp only[if_true,List.map_cons,List.map_nil];rw[CoD.enc_eq];apply tA;rfl;rfl;exact Tryz.func73;rfl;rfl;simp only[go_sem];rfl;refine tQ ?_;repeat first|with_reducible constructor|(with_reducible apply tG);kernel_rfl;intro _ _;(repeat apply tOp;intro _;simp only[FL,FO,Nat.add_zero,List.length_map,htk,h0,hle,heq,headT,setElems,clean,flat,AVal.cells,List.replicate,Int.toNat_zero,List.drop_zero,go_sem,Nat.reduceAdd];rfl);rfl;simp only[go_sem];rfl|(with_reducible apply t1);rfl;trivial
  exact finE [_] rfl
 |false =>
  simp only[Bool.false_eq_true,if_false];cases hq:findD ds t.name with
  |none =>
   rw[hq] at hf;apply tA;rfl;rfl;exact Tryz.func73;rfl;rfl;simp only[go_sem];rfl;refine tQ ?_;repeat first|with_reducible constructor|(with_reducible apply tG);kernel_rfl;intro _ _;(repeat apply tOp;intro _;simp only[FL,FO,Nat.add_zero,hf,hb1,go_sem,Nat.reduceAdd];rfl);rfl;simp only[go_sem];rfl|(with_reducible apply t1);rfl;trivial|(with_reducible apply t0);rfl;trivial
   exact finE [_,_] rfl
  |some d =>
   rw[hq] at hf;simp only[Option.getD_some,Option.isSome_some] at hf ⊢;have hd:=findD_ok h hq;have hi:(⟨sto.objs++[.box [.val (.str t.name),.val (.slice (t.args.map TyD.enc))],.box [.val (.str d.name),.val (.slice (d.vars.map .str)),.val (.slice (d.cons.map CoD.enc))]],sto.lo⟩:Sto).objs[sto.objs.length+1]?=some (.box [.val (.str d.name),.val (.slice (d.vars.map .str)),.val (.slice (d.cons.map CoD.enc))]):=by simp
   have hj:(⟨sto.objs++[.box [.val (.str t.name),.val (.slice (t.args.map TyD.enc))],.box [.val (.str d.name),.val (.slice (d.vars.map .str)),.val (.slice (d.cons.map CoD.enc))]],sto.lo⟩:Sto).objs[sto.objs.length]?=some (.box [.val (.str t.name),.val (.slice (t.args.map TyD.enc))]):=by simp
   obtain ⟨s0,s1,s3,s4,s5,s6,s7,s10,s11,s13,s16,s36,s39,s40,s41,s42,s49,s50,s51,s52,hl⟩:=loop73a (kd:=kd) (ofD d.vars t.args) 114 [.loc (sto.objs.length+1) 0,.loc sto.objs.length 0] ⟨sto.objs++[.box [.val (.str t.name),.val (.slice (t.args.map TyD.enc))],.box [.val (.str d.name),.val (.slice (d.vars.map .str)),.val (.slice (d.cons.map CoD.enc))]],sto.lo⟩ d.cons [] []
    (by have:=hd.cons;simp only[List.nil_append];omega) (by have:=hd.cons;simp only[List.length_nil];omega) hd.args
    (fun c hc y hy=>c116 ann114 y _ (hd.types c hc y hy) (fun s=>c114 hd.vars hi hj s))
   simp only[List.nil_append,List.length_nil] at hl;have e0:((0:Nat):Int)=0:=rfl;rw[e0] at hl;have e1:(d.cons.map fun c=>(putC (ofD d.vars t.args) c).enc)=(d.cons.map (putC (ofD d.vars t.args))).map CoD.enc:=by simp
   rw[e1] at hl;apply tA;rfl;rfl;exact Tryz.func73;rfl;rfl;simp only[go_sem];rfl;refine tQ ?_;repeat first|with_reducible constructor|(with_reducible apply tG);kernel_rfl;intro _ _;(repeat apply tOp;intro _;simp only[FL,FO,Nat.add_zero,hf,hb1,List.length_map,go_sem,Nat.reduceAdd];rfl);rfl;simp only[go_sem];rfl|(with_reducible apply tM);assumption|(with_reducible apply t0);rfl;trivial
   exact finE [_,_] rfl
end
end Go.Proofs.YtkmnkiekmlcfdaaGreatDoor
