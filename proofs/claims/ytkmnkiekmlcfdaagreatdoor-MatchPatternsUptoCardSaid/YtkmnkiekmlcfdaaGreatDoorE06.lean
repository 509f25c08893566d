/- Part E06 of the proof of one law of the program. -/
import Derived.Test.YtkmnkiekmlcfdaaGreatDoorE05
set_option linter.all false
namespace Go.Proofs.YtkmnkiekmlcfdaaGreatDoor
open Go.AM
set_option maxRecDepth 100000
set_option maxHeartbeats 4000000
variable {kd:List UInt8→Int}
def freeD (d:DaD) (s:List UInt8):Bool:=!d.vars.any fun y=>s==y
def okT (vr:List UInt8→Bool) (ds:List DaD) (d:DaD) (t:TyD):Bool:=typedD vr ds 100 t&&!hasVarD vr (freeD d) t&&!growsD vr t
theorem loop76e (ds:List DaD) (d:DaD) (i:Nat) (T:Sto) (a96 a97 a98 a104 a105 a106:Slot) (ys:List TyD):∀ (pre:List TyD),(pre++ys).length < big →
  (∀ x∈ys,CF kd (.fn 82) [.val (.slice (ds.map DaD.enc)),.val x.enc,.val (.int .i64 100)] T=some (.ret (.val (.bool (typedD (isK kd 4) ds 100 x))),T)) →
  (∀ x∈ys,CF kd (.fn 128) [.val x.enc,.val (.func 126 [.loc i 0])] T=some (.ret (.val (.bool (hasVarD (isK kd 4) (freeD d) x))),T)) →
  (∀ x∈ys,CF kd (.fn 129) [.val x.enc] T=some (.ret (.val (.bool (growsD (isK kd 4) x))),T)) →
  ∃ s0 s2 s3 s4 s6 s8 s9 s11 s12 s14 s16 s19 s20 s21 s22 s23 s57 s59 s60 s61 s62 s73 s95 s96 s97 s98 s99 s104 s105 s106 s107 s111 s112 s113 s114 s129,LP kd 76 (loopOf Tryz.f76 4) ⟨(.val (.slice (ds.map DaD.enc))::.dead::.dead::.dead::.dead::.dead::.dead::.dead::.val (.func 126 [.loc i 0])::.dead::.dead::.dead::.dead::.dead::.dead::.dead::.dead::.dead::.dead::.dead::.dead::.dead::.dead::a96::a97::a98::.dead::a104::a105::a106::.dead::.val (.slice ((pre++ys).map TyD.enc))::.val (.int .i64 ((pre++ys).length:Nat))::.val (.int .i64 (pre.length:Nat))::.dead::.dead::[]),T⟩ =
   bif ys.all (okT (isK kd 4) ds d) then some (.exit 8,⟨(.val (.slice (ds.map DaD.enc))::s2::s3::s4::s6::s8::s9::s11::.val (.func 126 [.loc i 0])::s14::s16::s19::s20::s21::s22::s23::s57::s59::s60::s61::s62::s73::s95::a96::a97::a98::s99::a104::a105::a106::s107::s111::s112::s113::s114::s129::[]),T⟩) else some (.ret,⟨(s0::.val (.bool false)::s3::s4::s6::s8::s9::s11::s12::s14::s16::s19::s20::s21::s22::s23::s57::s59::s60::s61::s62::s73::s95::s96::s97::s98::s99::s104::s105::s106::s107::s111::s112::s113::s114::s129::[]),T⟩):=by
 induction ys with
 |nil =>
  intro pre h3 h4 h5 h6;have hlt:=geI pre;simp only[List.all_nil,cond_true];iterate 36 apply Exists.intro
  refine tJ rfl ?_;repeat first|with_reducible constructor|(with_reducible apply tG);kernel_rfl;intro _ _;(repeat apply tOp;intro _;simp only[go_sem];rfl);rfl;simp only[go_sem];rfl|(with_reducible apply t0);rfl;trivial
  exact tlX;all_goals exact .dead
 |cons y ys ih =>
  intro pre h3 h4 h5 h6;have hget:=getI TyD.enc pre ys y;have h82:=h4 y (by simp);have h128:=h5 y (by simp);have h129:=h6 y (by simp);rw[y.enc_eq] at hget h82 h128 h129;have hlt:=ltI pre ys y;have h0:=zI pre.length;have hw:=wL pre ys y h3;simp only[List.all_cons,okT];cases hA:typedD (isK kd 4) ds 100 y with
  |false =>
   rw[hA] at h82;simp only[Bool.false_and,cond_false];iterate 36 apply Exists.intro
   refine tJ rfl ?_;repeat first|with_reducible constructor|(with_reducible apply tG);kernel_rfl;intro _ _;(repeat apply tOp;intro _;simp only[hget,h0,h82,go_sem];rfl);rfl;simp only[go_sem];rfl|(with_reducible apply t1);rfl;trivial
   exact tlE;all_goals exact .dead
  |true =>
   rw[hA] at h82;cases hB:hasVarD (isK kd 4) (freeD d) y with
   |true =>
    rw[hB] at h128;simp only[Bool.not_true,Bool.and_false,Bool.false_and,cond_false];iterate 36 apply Exists.intro
    refine tJ rfl ?_;repeat first|with_reducible constructor|(with_reducible apply tG);kernel_rfl;intro _ _;(repeat apply tOp;intro _;simp only[hget,h0,h82,h128,ann126,go_sem];rfl);rfl;simp only[go_sem];rfl|(with_reducible apply t1);rfl;trivial
    exact tlE;all_goals exact .dead
   |false =>
    rw[hB] at h128;cases hC:growsD (isK kd 4) y with
    |true =>
     rw[hC] at h129;simp only[Bool.not_true,Bool.and_false,Bool.false_and,cond_false];iterate 36 apply Exists.intro
     refine tJ rfl ?_;repeat first|with_reducible constructor|(with_reducible apply tG);kernel_rfl;intro _ _;(repeat apply tOp;intro _;simp only[hget,h0,h82,h128,h129,ann126,go_sem];rfl);rfl;simp only[go_sem];rfl|(with_reducible apply t1);rfl;trivial
     exact tlE;all_goals exact .dead
    |false =>
     rw[hC] at h129;obtain ⟨s0,s2,s3,s4,s6,s8,s9,s11,s12,s14,s16,s19,s20,s21,s22,s23,s57,s59,s60,s61,s62,s73,s95,s96,s97,s98,s99,s104,s105,s106,s107,s111,s112,s113,s114,s129,ih⟩:=ih (pre++[y]) (by simpa using h3) (fun x hx=>h4 x (by simp [hx])) (fun x hx=>h5 x (by simp [hx])) (fun x hx=>h6 x (by simp [hx]));simp only[List.append_assoc,List.singleton_append] at ih;simp only[Bool.not_false,Bool.and_self,Bool.true_and];refine ⟨s0,s2,s3,s4,s6,s8,s9,s11,s12,s14,s16,s19,s20,s21,s22,s23,s57,s59,s60,s61,s62,s73,s95,s96,s97,s98,s99,s104,s105,s106,s107,s111,s112,s113,s114,s129,?_⟩;cases hz:ys.all (okT (isK kd 4) ds d) with
     |true =>
      rw[hz] at ih;simp only[cond_true] at ih ⊢;refine tJ rfl ?_;repeat first|with_reducible constructor|(with_reducible apply tG);kernel_rfl;intro _ _;(repeat apply tOp;intro _;simp only[hget,h0,h82,h128,h129,ann126,hw,go_sem];rfl);rfl;simp only[go_sem];rfl|(with_reducible apply t1);rfl;trivial|(with_reducible apply t0);rfl;trivial
      exact ih
     |false =>
      rw[hz] at ih;simp only[cond_false] at ih ⊢;refine tJ rfl ?_;repeat first|with_reducible constructor|(with_reducible apply tG);kernel_rfl;intro _ _;(repeat apply tOp;intro _;simp only[hget,h0,h82,h128,h129,ann126,hw,go_sem];rfl);rfl;simp only[go_sem];rfl|(with_reducible apply t1);rfl;trivial|(with_reducible apply t0);rfl;trivial
      exact ih
theorem loop76d (ds:List DaD) (d:DaD) (i:Nat) (T:Sto) (a96 a97 a98:Slot) (ys:List CoD):∀ (pre:List CoD),(pre++ys).length < big→(∀ c∈ys,c.args.length < big) →
  (∀ c∈ys,∀ x∈c.args,CF kd (.fn 82) [.val (.slice (ds.map DaD.enc)),.val x.enc,.val (.int .i64 100)] T=some (.ret (.val (.bool (typedD (isK kd 4) ds 100 x))),T)) →
  (∀ c∈ys,∀ x∈c.args,CF kd (.fn 128) [.val x.enc,.val (.func 126 [.loc i 0])] T=some (.ret (.val (.bool (hasVarD (isK kd 4) (freeD d) x))),T)) →
  (∀ c∈ys,∀ x∈c.args,CF kd (.fn 129) [.val x.enc] T=some (.ret (.val (.bool (growsD (isK kd 4) x))),T)) →
  ∃ s0 s2 s3 s4 s6 s8 s9 s11 s12 s14 s16 s19 s20 s21 s22 s23 s57 s59 s60 s61 s62 s73 s95 s96 s97 s98 s99 s104 s105 s106 s107 s111 s112 s113 s114 s129,LP kd 76 (loopOf Tryz.f76 3) ⟨(.val (.slice (ds.map DaD.enc))::.dead::.dead::.dead::.dead::.dead::.dead::.dead::.val (.func 126 [.loc i 0])::.dead::.dead::.dead::.dead::.dead::.dead::.dead::.dead::.dead::.dead::.dead::.dead::.dead::.dead::a96::a97::a98::.dead::.val (.slice ((pre++ys).map CoD.enc))::.val (.int .i64 ((pre++ys).length:Nat))::.val (.int .i64 (pre.length:Nat))::.dead::.dead::.dead::.dead::.dead::.dead::[]),T⟩ =
   bif ys.all (fun c=>c.args.all (okT (isK kd 4) ds d)) then some (.exit 6,⟨(.val (.slice (ds.map DaD.enc))::s2::s3::s4::s6::s8::s9::s11::s12::s14::s16::s19::s20::s21::s22::s23::s57::s59::s60::s61::s62::s73::s95::a96::a97::a98::s99::s104::s105::s106::s107::s111::s112::s113::s114::s129::[]),T⟩) else some (.ret,⟨(s0::.val (.bool false)::s3::s4::s6::s8::s9::s11::s12::s14::s16::s19::s20::s21::s22::s23::s57::s59::s60::s61::s62::s73::s95::s96::s97::s98::s99::s104::s105::s106::s107::s111::s112::s113::s114::s129::[]),T⟩):=by
 induction ys with
 |nil =>
  intro pre h3 hn h4 h5 h6;have hlt:=geI pre;simp only[List.all_nil,cond_true];iterate 36 apply Exists.intro
  refine tJ rfl ?_;repeat first|with_reducible constructor|(with_reducible apply tG);kernel_rfl;intro _ _;(repeat apply tOp;intro _;simp only[go_sem];rfl);rfl;simp only[go_sem];rfl|(with_reducible apply t0);rfl;trivial
  exact tlX;all_goals exact .dead
 |cons y ys ih =>
  intro pre h3 hn h4 h5 h6;have hget:=getI CoD.enc pre ys y;rw[y.enc_eq] at hget;have hlt:=ltI pre ys y;have h0:=zI pre.length;have hw:=wL pre ys y h3;obtain ⟨s0,s2,s3,s4,s6,s8,s9,s11,s12,s14,s16,s19,s20,s21,s22,s23,s57,s59,s60,s61,s62,s73,s95,s96,s97,s98,s99,s104,s105,s106,s107,s111,s112,s113,s114,s129,hin⟩:=loop76e (kd:=kd) ds d i T a96 a97 a98 (.val (.slice ((pre++y::ys).map CoD.enc))) (.val (.int .i64 ((pre++y::ys).length:Nat))) (.val (.int .i64 (pre.length:Nat))) y.args [] (hn y (by simp)) (h4 y (by simp)) (h5 y (by simp)) (h6 y (by simp));simp only[List.nil_append,List.length_nil] at hin;have e0:((0:Nat):Int)=0:=rfl;rw[e0] at hin;simp only[List.all_cons];cases hq:y.args.all (okT (isK kd 4) ds d) with
  |false =>
   rw[hq] at hin;simp only[cond_false] at hin;simp only[Bool.false_and,cond_false];iterate 36 apply Exists.intro
   refine tJ rfl ?_;repeat first|with_reducible constructor|(with_reducible apply tG);kernel_rfl;intro _ _;(repeat apply tOp;intro _;simp only[hget,h0,List.length_map,go_sem];rfl);rfl;simp only[go_sem];rfl|(with_reducible apply tM);assumption|(with_reducible apply t1);rfl;trivial
   exact tlE;all_goals exact .dead
  |true =>
   rw[hq] at hin;simp only[cond_true] at hin;obtain ⟨m0,m2,m3,m4,m6,m8,m9,m11,m12,m14,m16,m19,m20,m21,m22,m23,m57,m59,m60,m61,m62,m73,m95,m96,m97,m98,m99,m104,m105,m106,m107,m111,m112,m113,m114,m129,ih⟩:=ih (pre++[y]) (by simpa using h3) (fun c hc=>hn c (by simp [hc])) (fun c hc=>h4 c (by simp [hc])) (fun c hc=>h5 c (by simp [hc])) (fun c hc=>h6 c (by simp [hc]));simp only[List.append_assoc,List.singleton_append] at ih;simp only[Bool.true_and];refine ⟨m0,m2,m3,m4,m6,m8,m9,m11,m12,m14,m16,m19,m20,m21,m22,m23,m57,m59,m60,m61,m62,m73,m95,m96,m97,m98,m99,m104,m105,m106,m107,m111,m112,m113,m114,m129,?_⟩;cases hz:ys.all (fun c=>c.args.all (okT (isK kd 4) ds d)) with
   |true =>
    rw[hz] at ih;simp only[cond_true] at ih ⊢;refine tJ rfl ?_;repeat first|with_reducible constructor|(with_reducible apply tG);kernel_rfl;intro _ _;(repeat apply tOp;intro _;simp only[hget,h0,List.length_map,hw,go_sem];rfl);rfl;simp only[go_sem];rfl|(with_reducible apply tM);assumption|(with_reducible apply t1);rfl;trivial
    exact ih
   |false =>
    rw[hz] at ih;simp only[cond_false] at ih ⊢;refine tJ rfl ?_;repeat first|with_reducible constructor|(with_reducible apply tG);kernel_rfl;intro _ _;(repeat apply tOp;intro _;simp only[hget,h0,List.length_map,hw,go_sem];rfl);rfl;simp only[go_sem];rfl|(with_reducible apply tM);assumption|(with_reducible apply t1);rfl;trivial
    exact ih
structure DaD.ok (d:DaD):Prop where
 vars:d.vars.length < big
 cons:d.cons.length+1 < big
 args:∀ c∈d.cons,c.args.length+1 < big
 types:∀ c∈d.cons,∀ x∈c.args,x.size < big
theorem loop76c (ds:List DaD) (hds:ds.length < big) (hok:∀ d∈ds,d.ok) (ys:List DaD):∀ (pre:List DaD) (T:Sto),T.lo≤T.objs.length→(pre++ys).length < big→(∀ d∈ys,d.ok) →
  ∃ E s0 s2 s3 s4 s6 s8 s9 s11 s12 s14 s16 s19 s20 s21 s22 s23 s57 s59 s60 s61 s62 s73 s95 s96 s97 s98 s99 s104 s105 s106 s107 s111 s112 s113 s114 s129,LP kd 76 (loopOf Tryz.f76 2) ⟨(.val (.slice (ds.map DaD.enc))::.dead::.dead::.dead::.dead::.dead::.dead::.dead::.dead::.dead::.dead::.dead::.dead::.dead::.dead::.dead::.dead::.dead::.dead::.dead::.dead::.dead::.dead::.val (.slice ((pre++ys).map DaD.enc))::.val (.int .i64 ((pre++ys).length:Nat))::.val (.int .i64 (pre.length:Nat))::.dead::.dead::.dead::.dead::.dead::.dead::.dead::.dead::.dead::.dead::[]),T⟩ =
   bif ys.all (fun d=>d.cons.all fun c=>c.args.all (okT (isK kd 4) ds d)) then some (.exit 4,⟨(s0::s2::s3::s4::s6::s8::s9::s11::s12::s14::s16::s19::s20::s21::s22::s23::s57::s59::s60::s61::s62::s73::s95::s96::s97::s98::s99::s104::s105::s106::s107::s111::s112::s113::s114::s129::[]),⟨T.objs++E,T.lo⟩⟩) else some (.ret,⟨(s0::.val (.bool false)::s3::s4::s6::s8::s9::s11::s12::s14::s16::s19::s20::s21::s22::s23::s57::s59::s60::s61::s62::s73::s95::s96::s97::s98::s99::s104::s105::s106::s107::s111::s112::s113::s114::s129::[]),⟨T.objs++E,T.lo⟩⟩):=by
 induction ys with
 |nil =>
  intro pre T hT h3 hn;have hlt:=geI pre;simp only[List.all_nil,cond_true];refine ⟨[],?_⟩;obtain ⟨O,lo⟩:=T;simp only[List.append_nil];iterate 36 apply Exists.intro
  refine tJ rfl ?_;repeat first|with_reducible constructor|(with_reducible apply tG);kernel_rfl;intro _ _;(repeat apply tOp;intro _;simp only[go_sem];rfl);rfl;simp only[go_sem];rfl|(with_reducible apply t0);rfl;trivial
  exact tlX;all_goals exact .dead
 |cons y ys ih =>
  intro pre T hT h3 hn;have hget:=getI DaD.enc pre ys y;rw[y.enc_eq] at hget;have hlt:=ltI pre ys y;have h0:=zI pre.length;have hw:=wL pre ys y h3;have hy:=hn y (by simp);have hb:=bleS hT;have hi:(⟨T.objs++[.box [.val (.str y.name),.val (.slice (y.vars.map .str)),.val (.slice (y.cons.map CoD.enc))]],T.lo⟩:Sto).objs[T.objs.length]?=some (.box [.val (.str y.name),.val (.slice (y.vars.map .str)),.val (.slice (y.cons.map CoD.enc))]):=by simp
  have hT1:T.lo≤(⟨T.objs++[.box [.val (.str y.name),.val (.slice (y.vars.map .str)),.val (.slice (y.cons.map CoD.enc))]],T.lo⟩:Sto).objs.length:=by simp;omega
  have h128:∀ c∈y.cons,∀ x∈c.args,CF kd (.fn 128) [.val x.enc,.val (.func 126 [.loc T.objs.length 0])] ⟨T.objs++[.box [.val (.str y.name),.val (.slice (y.vars.map .str)),.val (.slice (y.cons.map CoD.enc))]],T.lo⟩=some (.ret (.val (.bool (hasVarD (isK kd 4) (freeD y) x))),⟨T.objs++[.box [.val (.str y.name),.val (.slice (y.vars.map .str)),.val (.slice (y.cons.map CoD.enc))]],T.lo⟩) :=
   fun c hc x hx=>c128 ann126 [.loc T.objs.length 0] (freeD y) x _ (hy.types c hc x hx) (fun n hn=>by
    simp only[List.all_cons,List.all_nil,lokF,Bool.and_true,Nat.blt];apply Nat.ble_eq_true_of_le;simp at hn;omega)
    (fun s' hs' s=>c126 hy.vars (hs'.get hi) s)
  obtain ⟨s0,s2,s3,s4,s6,s8,s9,s11,s12,s14,s16,s19,s20,s21,s22,s23,s57,s59,s60,s61,s62,s73,s95,s96,s97,s98,s99,s104,s105,s106,s107,s111,s112,s113,s114,s129,hin⟩:=loop76d (kd:=kd) ds y T.objs.length ⟨T.objs++[.box [.val (.str y.name),.val (.slice (y.vars.map .str)),.val (.slice (y.cons.map CoD.enc))]],T.lo⟩ (.val (.slice ((pre++y::ys).map DaD.enc))) (.val (.int .i64 ((pre++y::ys).length:Nat))) (.val (.int .i64 (pre.length:Nat))) y.cons [] (by have:=hy.cons;simp only[List.nil_append];omega) (fun c hc=>by have:=hy.args c hc;omega)
   (fun c hc x hx=>c82 hds (fun d hd=>(hok d hd).vars) 100 (by simp [big]) x _ (hy.types c hc x hx) hT1)
   h128 (fun c hc x hx=>c129 x _ (hy.types c hc x hx) hT1)
  simp only[List.nil_append,List.length_nil] at hin;have e0:((0:Nat):Int)=0:=rfl;rw[e0] at hin;simp only[List.all_cons];cases hq:y.cons.all (fun c=>c.args.all (okT (isK kd 4) ds y)) with
  |false =>
   rw[hq] at hin;simp only[cond_false] at hin;simp only[Bool.false_and,cond_false];refine ⟨[.box [.val (.str y.name),.val (.slice (y.vars.map .str)),.val (.slice (y.cons.map CoD.enc))]],?_⟩;iterate 36 apply Exists.intro
   refine tJ rfl ?_;repeat first|with_reducible constructor|(with_reducible apply tG);kernel_rfl;intro _ _;(repeat apply tOp;intro _;simp only[hget,h0,hb,List.length_map,go_sem];rfl);rfl;simp only[go_sem];rfl|(with_reducible apply tM);assumption|(with_reducible apply t1);rfl;trivial
   exact tlE;all_goals exact .dead
  |true =>
   rw[hq] at hin;simp only[cond_true] at hin;obtain ⟨E,m0,m2,m3,m4,m6,m8,m9,m11,m12,m14,m16,m19,m20,m21,m22,m23,m57,m59,m60,m61,m62,m73,m95,m96,m97,m98,m99,m104,m105,m106,m107,m111,m112,m113,m114,m129,ih⟩:=ih (pre++[y]) ⟨T.objs++[.box [.val (.str y.name),.val (.slice (y.vars.map .str)),.val (.slice (y.cons.map CoD.enc))]],T.lo⟩ hT1 (by simpa using h3) (fun c hc=>hn c (by simp [hc]));simp only[List.append_assoc,List.singleton_append] at ih;simp only[Bool.true_and];refine ⟨.box [.val (.str y.name),.val (.slice (y.vars.map .str)),.val (.slice (y.cons.map CoD.enc))]::E,m0,m2,m3,m4,m6,m8,m9,m11,m12,m14,m16,m19,m20,m21,m22,m23,m57,m59,m60,m61,m62,m73,m95,m96,m97,m98,m99,m104,m105,m106,m107,m111,m112,m113,m114,m129,?_⟩;cases hz:ys.all (fun d=>d.cons.all fun c=>c.args.all (okT (isK kd 4) ds d)) with
   |true =>
    rw[hz] at ih;simp only[cond_true] at ih ⊢;refine tJ rfl ?_;repeat first|with_reducible constructor|(with_reducible apply tG);kernel_rfl;intro _ _;(repeat apply tOp;intro _;simp only[hget,h0,hb,List.length_map,hw,go_sem];rfl);rfl;simp only[go_sem];rfl|(with_reducible apply tM);assumption|(with_reducible apply t1);rfl;trivial
    exact ih
   |false =>
    rw[hz] at ih;simp only[cond_false] at ih ⊢;refine tJ rfl ?_;repeat first|with_reducible constructor|(with_reducible apply tG);kernel_rfl;intro _ _;(repeat apply tOp;intro _;simp only[hget,h0,hb,List.length_map,hw,go_sem];rfl);rfl;simp only[go_sem];rfl|(with_reducible apply tM);assumption|(with_reducible apply t1);rfl;trivial
    exact ih
def badN (cn:List UInt8→Bool) (ns cs:List (List UInt8)):Bool:=ns.any (fun s=>!cn s)||cs.any (fun s=>!cn s)||!diffD ns [[73,110,116],[66,111,111,108]]||!diffD cs [[70,97,108,115,101],[84,114,117,101]]
def declD (vr cn:List UInt8→Bool) (ds:List DaD):Bool :=
 !decide (((ds.length:Nat):Int) > 60)&&ds.all (okD vr)&&!badN cn (ds.map DaD.name) (conNames ds)&&ds.all fun d=>d.cons.all fun c=>c.args.all (okT vr ds d)
theorem conNames_len:∀ ds:List DaD,(conNames ds).length=conTot ds
 |[]=>rfl
 |d::ds=>by simp [conNames,conTot,conNames_len ds]
theorem c76 (ds:List DaD) (hds:ds.length+1 < big) (hct:conTot ds+1 < big) (hok:∀ d∈ds,d.ok) (sto:Sto) (hlo:sto.lo≤sto.objs.length) :
  CF kd (.fn 76) [.val (.slice (ds.map DaD.enc))] sto=some (.ret (.val (.bool (declD (isK kd 4) (isK kd 3) ds))),sto):=by
 have hb:=bleS hlo;have e0:((0:Nat):Int)=0:=rfl;obtain ⟨s0,s2,s3,s4,s6,s8,s9,s11,s12,s14,s16,s19,s20,s21,s22,s23,s57,s59,s60,s61,s62,s73,s95,s96,s97,s98,s99,s104,s105,s106,s107,s111,s112,s113,s114,s129,h1⟩:=loop76a (kd:=kd) sto hb (.slice (ds.map DaD.enc)) ds [] [] [] (by simp;omega) (by simp;omega) (by simp;omega) (fun y hy=>(hok y hy).vars);have hn:(ds.map fun d=>AVal.str d.name)=(ds.map DaD.name).map .str:=by simp
 simp only[List.nil_append,List.length_nil,hn] at h1;rw[e0] at h1;have hnl:(ds.map DaD.name).length < big:=by simp;omega
 have hcl:(conNames ds).length < big:=by rw[conNames_len];omega
 simp only[declD];cases g0:decide (((ds.length:Nat):Int) > 60) with
 |true =>
  apply tA;rfl;rfl;exact Tryz.func76;rfl;rfl;simp only[go_sem];rfl;refine tQ ?_;repeat first|with_reducible constructor|(with_reducible apply tG);kernel_rfl;intro _ _;(repeat apply tOp;intro _;simp only[List.length_map,go_sem];rfl);rfl;simp only[go_sem];rfl|(with_reducible apply t1);rfl;trivial
  exact fin0 rfl
 |false =>
  simp only[Bool.not_false,Bool.true_and];cases g1:ds.all (okD (isK kd 4)) with
  |false =>
   rw[g1] at h1;simp only[cond_false] at h1;apply tA;rfl;rfl;exact Tryz.func76;rfl;rfl;simp only[go_sem];rfl;refine tQ ?_;repeat first|with_reducible constructor|(with_reducible apply tG);kernel_rfl;intro _ _;(repeat apply tOp;intro _;simp only[List.length_map,go_sem];rfl);rfl;simp only[go_sem];rfl|(with_reducible apply tM);assumption|(with_reducible apply t0);rfl;trivial
   exact fin0 rfl
  |true =>
   rw[g1] at h1;simp only[cond_true] at h1;have k1:=c121m (kd:=kd) AVal.str (fun s=>!isK kd 3 s) (ds.map DaD.name) ann124 [] sto (by simp only[big] at hnl;omega) (fun x _=>⟨_,rfl⟩) (fun x _=>c124 x sto);have k2:=c121m (kd:=kd) AVal.str (fun s=>!isK kd 3 s) (conNames ds) ann124 [] sto (by simp only[big] at hcl;omega) (fun x _=>⟨_,rfl⟩) (fun x _=>c124 x sto);have k3:=c120 (kd:=kd) (ds.map DaD.name) [[73,110,116],[66,111,111,108]] sto hnl (by simp [big]) hb;have k4:=c120 (kd:=kd) (conNames ds) [[70,97,108,115,101],[84,114,117,101]] sto hcl (by simp [big]) hb;simp only[List.map_cons,List.map_nil] at k3 k4
   have hR:∀ (K':AExit→St→Option (ARes×Sto)) (r:ARes×Sto),K' .norm ⟨(.val (.slice (ds.map DaD.enc))::s2::.own 1 ((ds.map DaD.name).map .str)::.own 1 ((conNames ds).map .str)::s6::s8::.val (.func 124 [])::s11::s12::s14::s16::s19::s20::s21::s22::s23::s57::s59::s60::s61::s62::s73::.val (.bool (badN (isK kd 3) (ds.map DaD.name) (conNames ds)))::s96::s97::s98::s99::s104::s105::s106::s107::s111::s112::s113::s114::s129::[]),sto⟩=some r→XK Tryz.prog ans (CF kd) (LP kd) 76 (regOf Tryz.f76 19) ⟨(.val (.slice (ds.map DaD.enc))::s2::.own 1 ((ds.map DaD.name).map .str)::.own 1 ((conNames ds).map .str)::s6::s8::.val (.func 124 [])::s11::s12::s14::s16::s19::s20::s21::s22::s23::s57::s59::s60::s61::s62::s73::s95::s96::s97::s98::s99::s104::s105::s106::s107::s111::s112::s113::s114::s129::[]),sto⟩ K'=some r:=by
    intro K' r hK;rw[regQ_eq (by rfl)];simp only[badN] at hK;cases q1:(ds.map DaD.name).any (fun s=>!isK kd 3 s) with
    |true =>
     rw[q1] at k1;simp only[q1,Bool.true_or] at hK;first|((with_reducible apply tR);(focus (intro _ _;(repeat (apply tOp;(focus (intro _;simp only[k1,ann124,go_sem];rfl))));rfl));(focus (simp only[go_sem];rfl)))
     exact hK
    |false =>
     rw[q1] at k1;cases q2:(conNames ds).any (fun s=>!isK kd 3 s) with
     |true =>
      rw[q2] at k2;simp only[q1,q2,Bool.true_or,Bool.or_true] at hK;first|((with_reducible apply tR);(focus (intro _ _;(repeat (apply tOp;(focus (intro _;simp only[k1,k2,ann124,go_sem];rfl))));rfl));(focus (simp only[go_sem];rfl)))
      exact hK
     |false =>
      rw[q2] at k2;cases q3:diffD (ds.map DaD.name) [[73,110,116],[66,111,111,108]] with
      |false =>
       rw[q3] at k3;simp only[q1,q2,q3,Bool.not_false,Bool.true_or,Bool.or_true] at hK;first|((with_reducible apply tR);(focus (intro _ _;(repeat (apply tOp;(focus (intro _;simp only[k1,k2,k3,ann124,setElems,clean,flat,AVal.cells,List.replicate,List.set_cons_zero,List.set_cons_succ,go_sem];rfl))));rfl));(focus (simp only[go_sem];rfl)))
       exact hK
      |true =>
       rw[q3] at k3;simp only[q1,q2,q3,Bool.not_true,Bool.false_or] at hK;first|((with_reducible apply tR);(focus (intro _ _;(repeat (apply tOp;(focus (intro _;simp only[k1,k2,k3,k4,ann124,setElems,clean,flat,AVal.cells,List.replicate,List.set_cons_zero,List.set_cons_succ,go_sem];rfl))));rfl));(focus (simp only[go_sem];rfl)))
       exact hK
   cases g2:badN (isK kd 3) (ds.map DaD.name) (conNames ds) with
   |true =>
    rw[g2] at hR;apply tA;rfl;rfl;exact Tryz.func76;rfl;rfl;simp only[go_sem];rfl;refine tQ ?_;repeat first|with_reducible constructor|(with_reducible apply tG);kernel_rfl;intro _ _;(repeat apply tOp;intro _;simp only[List.length_map,go_sem];rfl);rfl;simp only[go_sem];rfl|(with_reducible apply tM);assumption|(with_reducible apply t0);rfl;trivial
    refine hR _ _ ?_;refine tQ ?_;repeat first|with_reducible constructor|(with_reducible apply tG);kernel_rfl;intro _ _;(repeat apply tOp;intro _;simp only[go_sem];rfl);rfl;simp only[go_sem];rfl|(with_reducible apply t1);rfl;trivial
    exact fin0 rfl
   |false =>
    rw[g2] at hR;obtain ⟨E,m0,m2,m3,m4,m6,m8,m9,m11,m12,m14,m16,m19,m20,m21,m22,m23,m57,m59,m60,m61,m62,m73,m95,m96,m97,m98,m99,m104,m105,m106,m107,m111,m112,m113,m114,m129,h2⟩:=loop76c (kd:=kd) ds (by omega) hok ds [] sto hlo (by simp;omega) hok;simp only[List.nil_append,List.length_nil] at h2;rw[e0] at h2;simp only[Bool.not_false,Bool.true_and];cases g3:ds.all (fun d=>d.cons.all fun c=>c.args.all (okT (isK kd 4) ds d)) with
    |true =>
     rw[g3] at h2;simp only[cond_true] at h2;apply tA;rfl;rfl;exact Tryz.func76;rfl;rfl;simp only[go_sem];rfl;refine tQ ?_;repeat first|with_reducible constructor|(with_reducible apply tG);kernel_rfl;intro _ _;(repeat apply tOp;intro _;simp only[List.length_map,go_sem];rfl);rfl;simp only[go_sem];rfl|(with_reducible apply tM);assumption|(with_reducible apply t0);rfl;trivial
     refine hR _ _ ?_;refine tQ ?_;repeat first|with_reducible constructor|(with_reducible apply tG);kernel_rfl;intro _ _;(repeat apply tOp;intro _;simp only[List.length_map,go_sem];rfl);rfl;simp only[go_sem];rfl|(with_reducible apply tM);assumption|(with_reducible apply t0);rfl;trivial
     exact finE E rfl
    |false =>
     rw[g3] at h2;simp only[cond_false] at h2;apply tA;rfl;rfl;exact Tryz.func76;rfl;rfl;simp only[go_sem];rfl;refine tQ ?_;repeat first|with_reducible constructor|(with_reducible apply tG);kernel_rfl;intro _ _;(repeat apply tOp;intro _;simp only[List.length_map,go_sem];rfl);rfl;simp only[go_sem];rfl|(with_reducible apply tM);assumption|(with_reducible apply t0);rfl;trivial
     refine hR _ _ ?_;refine tQ ?_;repeat first|with_reducible constructor|(with_reducible apply tG);kernel_rfl;intro _ _;(repeat apply tOp;intro _;simp only[List.length_map,go_sem];rfl);rfl;simp only[go_sem];rfl|(with_reducible apply tM);assumption|(with_reducible apply t0);rfl;trivial
     exact finE E rfl
end Go.Proofs.YtkmnkiekmlcfdaaGreatDoor
