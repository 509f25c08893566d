/- Part E05 of the proof of one law of the program. -/
import Derived.Test.YtkmnkiekmlcfdaaGreatDoorE04
set_option linter.all false
namespace Go.Proofs.YtkmnkiekmlcfdaaGreatDoor
open Go.AM
set_option maxRecDepth 100000
set_option maxHeartbeats 4000000
variable {kd:List UInt8→Int}
theorem c122 (s:List UInt8) (sto:Sto):CF kd (.fn 122) [.val (.str s)] sto=some (.ret (.val (.bool (!isK kd 4 s))),sto):=by
 have h:=c123 (kd:=kd) s sto;apply tA;rfl;rfl;exact Tryz.func122;rfl;rfl;simp only[go_sem];rfl;refine tQ ?_;repeat first|with_reducible constructor|(with_reducible apply tG);kernel_rfl;intro _ _;(repeat apply tOp;intro _;simp only[h,go_sem];rfl);rfl;simp only[go_sem];rfl
 exact fin0 rfl
theorem c124 (s:List UInt8) (sto:Sto):CF kd (.fn 124) [.val (.str s)] sto=some (.ret (.val (.bool (!isK kd 3 s))),sto):=by
 have h:=c125 (kd:=kd) s sto;apply tA;rfl;rfl;exact Tryz.func124;rfl;rfl;simp only[go_sem];rfl;refine tQ ?_;repeat first|with_reducible constructor|(with_reducible apply tG);kernel_rfl;intro _ _;(repeat apply tOp;intro _;simp only[h,go_sem];rfl);rfl;simp only[go_sem];rfl
 exact fin0 rfl
theorem c126 {vs:List (List UInt8)} (hv:vs.length < big) {i:Nat} {a b:Cell} {sto:Sto} (hi:sto.objs[i]?=some (.box [a,.val (.slice (vs.map .str)),b])) (s:List UInt8) :
  CF kd (.fn 126) [.val (.str s),.val (.loc i 0)] sto=some (.ret (.val (.bool (!vs.any fun y=>s==y))),sto):=by
 have h:=c127 (kd:=kd) s sto vs (by simp only[big] at hv;omega);apply tA;rfl;rfl;exact Tryz.func126;rfl;rfl;simp only[go_sem];rfl;refine tQ ?_;repeat first|with_reducible constructor|(with_reducible apply tG);kernel_rfl;intro _ _;(repeat apply tOp;intro _;simp only[hi,h,Nat.add_zero,go_sem,Nat.reduceAdd];rfl);rfl;simp only[go_sem];rfl
 exact fin0 rfl
theorem ann122:(ans 122).ownArg=[]:=by rw[an122]
theorem ann124:(ans 124).ownArg=[]:=by rw[an124]
theorem ann126:(ans 126).ownArg=[]:=by rw[an126]
def regs:Code→List (Nat×Code)
 |.seq a b=>regs a++regs b
 |.cond _ a b=>regs a++regs b
 |.block _ c=>regs c
 |.loop c=>regs c
 |.scope c=>regs c
 |.rangeFunc _ _ a b=>regs a++regs b
 |.region id ops d=>[(id,.region id ops d)]
 |_=>[]
def regL (n:Nat):List (Nat×Code)→Option Code
 |[]=>none
 |(i,c)::l=>bif Nat.beq i n then some c else regL n l
def regQ (fn:Func) (n:Nat):Option Code:=match fn.body with|some c=>regL n (regs c)|none=>none
def regOf (fn:Func) (n:Nat):Code:=(regQ fn n).getD .skip
theorem regQ_eq {fn:Func} {n:Nat} {c:Code} (h:regQ fn n=some c):regOf fn n=c:=by simp [regOf,h]
def okC (c:CoD):Bool:=!decide (((c.args.length:Nat):Int) > 16)
theorem roomI {α:Type} (l:List α) (h:l.length+1 < big):Nat.ble (l.length+1) room=true:=by
 apply Nat.ble_eq_true_of_le;simp only[room];simp only[big] at h;omega
theorem loop76b (ds:AVal) (N C0:List AVal) (L:AVal) (ln ix:Int) (sto:Sto) (ys:List CoD):∀ (pre:List CoD) (C:List AVal),(pre++ys).length < big→C.length+ys.length+1 < big →
  ∃ s0 s2 s3 s4 s6 s8 s9 s11 s12 s14 s16 s19 s20 s21 s22 s23 s57 s59 s60 s61 s62 s73 s95 s96 s97 s98 s99 s104 s105 s106 s107 s111 s112 s113 s114 s129,LP kd 76 (loopOf Tryz.f76 1) ⟨(.val ds::.dead::.own 1 N::.own 1 C::.dead::.dead::.dead::.dead::.dead::.dead::.dead::.dead::.val L::.val (.int .i64 ln)::.val (.int .i64 ix)::.dead::.dead::.val (.slice ((pre++ys).map CoD.enc))::.val (.int .i64 ((pre++ys).length:Nat))::.val (.int .i64 (pre.length:Nat))::.dead::.dead::.dead::.dead::.dead::.dead::.dead::.dead::.dead::.dead::.dead::.dead::.dead::.dead::.dead::.dead::[]),sto⟩ =
   bif ys.all okC then some (.exit 2,⟨(.val ds::s2::.own 1 N::.own 1 (C++ys.map fun c=>.str c.name)::s6::s8::s9::s11::s12::s14::s16::s19::.val L::.val (.int .i64 ln)::.val (.int .i64 ix)::s23::s57::s59::s60::s61::s62::s73::s95::s96::s97::s98::s99::s104::s105::s106::s107::s111::s112::s113::s114::s129::[]),sto⟩) else some (.ret,⟨(s0::.val (.bool false)::s3::s4::s6::s8::s9::s11::s12::s14::s16::s19::s20::s21::s22::s23::s57::s59::s60::s61::s62::s73::s95::s96::s97::s98::s99::s104::s105::s106::s107::s111::s112::s113::s114::s129::[]),sto⟩):=by
 induction ys with
 |nil =>
  intro pre C h3 h4;have hlt:=geI pre;simp only[List.all_nil,cond_true,List.map_nil,List.append_nil];iterate 36 apply Exists.intro
  refine tJ rfl ?_;repeat first|with_reducible constructor|(with_reducible apply tG);kernel_rfl;intro _ _;(repeat apply tOp;intro _;simp only[go_sem];rfl);rfl;simp only[go_sem];rfl|(with_reducible apply t0);rfl;trivial
  exact tlX;all_goals exact .dead
 |cons y ys ih =>
  intro pre C h3 h4;have hget:=getI CoD.enc pre ys y;rw[y.enc_eq] at hget;have hlt:=ltI pre ys y;have h0:=zI pre.length;have hw:=wL pre ys y h3;have hr:=roomI C (by simp at h4;omega);simp only[List.all_cons];cases hp:decide (((y.args.length:Nat):Int) > 16) with
  |true =>
   have hq:okC y=false:=by simp only[okC,hp,Bool.not_true]
   simp only[hq,Bool.false_and,cond_false];iterate 36 apply Exists.intro
   refine tJ rfl ?_;repeat first|with_reducible constructor|(with_reducible apply tG);kernel_rfl;intro _ _;(repeat apply tOp;intro _;simp only[hget,h0,setElems,clean,flat,AVal.cells,List.replicate,List.set_cons_zero,hr,List.length_map,go_sem];rfl);rfl;simp only[go_sem];rfl|(with_reducible apply t1);rfl;trivial
   exact tlE;all_goals exact .dead
  |false =>
   have hq:okC y=true:=by simp only[okC,hp,Bool.not_false]
   obtain ⟨s0,s2,s3,s4,s6,s8,s9,s11,s12,s14,s16,s19,s20,s21,s22,s23,s57,s59,s60,s61,s62,s73,s95,s96,s97,s98,s99,s104,s105,s106,s107,s111,s112,s113,s114,s129,ih⟩:=ih (pre++[y]) (C++[.str y.name]) (by simpa using h3) (by simp at h4 ⊢;omega);simp only[List.append_assoc,List.singleton_append] at ih;simp only[hq,Bool.true_and,List.map_cons];refine ⟨s0,s2,s3,s4,s6,s8,s9,s11,s12,s14,s16,s19,s20,s21,s22,s23,s57,s59,s60,s61,s62,s73,s95,s96,s97,s98,s99,s104,s105,s106,s107,s111,s112,s113,s114,s129,?_⟩;cases hz:ys.all okC with
   |true =>
    rw[hz] at ih;simp only[cond_true] at ih ⊢;refine tJ rfl ?_;repeat first|with_reducible constructor|(with_reducible apply tG);kernel_rfl;intro _ _;(repeat apply tOp;intro _;simp only[hget,h0,setElems,clean,flat,AVal.cells,List.replicate,List.set_cons_zero,hr,List.length_map,hw,go_sem];rfl);rfl;simp only[go_sem];rfl|(with_reducible apply t1);rfl;trivial|(with_reducible apply t0);rfl;trivial
    exact ih
   |false =>
    rw[hz] at ih;simp only[cond_false] at ih ⊢;refine tJ rfl ?_;repeat first|with_reducible constructor|(with_reducible apply tG);kernel_rfl;intro _ _;(repeat apply tOp;intro _;simp only[hget,h0,setElems,clean,flat,AVal.cells,List.replicate,List.set_cons_zero,hr,List.length_map,hw,go_sem];rfl);rfl;simp only[go_sem];rfl|(with_reducible apply t1);rfl;trivial|(with_reducible apply t0);rfl;trivial
    exact ih
def badA (vr:List UInt8→Bool) (d:DaD):Bool:=decide (((d.cons.length:Nat):Int) < 1)||decide (((d.cons.length:Nat):Int) > 16)||decide (((d.vars.length:Nat):Int) > 16)||!diffD d.vars []||d.vars.any fun s=>!vr s
def conTot:List DaD→Nat
 |[]=>0
 |d::ds=>d.cons.length+conTot ds
def conNames:List DaD→List (List UInt8)
 |[]=>[]
 |d::ds=>d.cons.map CoD.name++conNames ds
def okD (vr:List UInt8→Bool) (d:DaD):Bool:=!badA vr d&&d.cons.all okC
theorem loop76a (sto:Sto) (hlo:Nat.ble sto.lo sto.objs.length=true) (ds:AVal) (ys:List DaD):∀ (pre:List DaD) (N C:List AVal),(pre++ys).length < big→N.length+ys.length+1 < big→C.length+conTot ys+1 < big→(∀ y∈ys,y.vars.length < big) →
  ∃ s0 s2 s3 s4 s6 s8 s9 s11 s12 s14 s16 s19 s20 s21 s22 s23 s57 s59 s60 s61 s62 s73 s95 s96 s97 s98 s99 s104 s105 s106 s107 s111 s112 s113 s114 s129,LP kd 76 (loopOf Tryz.f76 0) ⟨(.val ds::.dead::.own 1 N::.own 1 C::.dead::.dead::.dead::.dead::.dead::.dead::.dead::.dead::.val (.slice ((pre++ys).map DaD.enc))::.val (.int .i64 ((pre++ys).length:Nat))::.val (.int .i64 (pre.length:Nat))::.dead::.dead::.dead::.dead::.dead::.dead::.dead::.dead::.dead::.dead::.dead::.dead::.dead::.dead::.dead::.dead::.dead::.dead::.dead::.dead::.dead::[]),sto⟩ =
   bif ys.all (okD (isK kd 4)) then some (.exit 0,⟨(.val ds::s2::.own 1 (N++ys.map fun d=>.str d.name)::.own 1 (C++(conNames ys).map .str)::s6::s8::s9::s11::s12::s14::s16::s19::s20::s21::s22::s23::s57::s59::s60::s61::s62::s73::s95::s96::s97::s98::s99::s104::s105::s106::s107::s111::s112::s113::s114::s129::[]),sto⟩) else some (.ret,⟨(s0::.val (.bool false)::s3::s4::s6::s8::s9::s11::s12::s14::s16::s19::s20::s21::s22::s23::s57::s59::s60::s61::s62::s73::s95::s96::s97::s98::s99::s104::s105::s106::s107::s111::s112::s113::s114::s129::[]),sto⟩):=by
 induction ys with
 |nil =>
  intro pre N C h3 h4 h5 hv;have hlt:=geI pre;simp only[List.all_nil,cond_true,List.map_nil,conNames,List.append_nil];iterate 36 apply Exists.intro
  refine tJ rfl ?_;repeat first|with_reducible constructor|(with_reducible apply tG);kernel_rfl;intro _ _;(repeat apply tOp;intro _;simp only[go_sem];rfl);rfl;simp only[go_sem];rfl|(with_reducible apply t0);rfl;trivial
  exact tlX;all_goals exact .dead
 |cons y ys ih =>
  intro pre N C h3 h4 h5 hv;have hget:=getI DaD.enc pre ys y;rw[y.enc_eq] at hget;have hlt:=ltI pre ys y;have h0:=zI pre.length;have hw:=wL pre ys y h3;have hr:=roomI N (by simp at h4;omega);have hvy:=hv y (by simp);simp only[conTot] at h5;have hd:=c120 (kd:=kd) y.vars [] sto hvy (by simp [big]) hlo;rw[List.map_nil] at hd;have hk:=c121m (kd:=kd) AVal.str (fun s=>!isK kd 4 s) y.vars ann122 [] sto (by simp only[big] at hvy;omega) (fun x _=>⟨_,rfl⟩) (fun x _=>c122 x sto)
  have hR8:∀ (K':AExit→St→Option (AExit×St)) (r:AExit×St),K' .norm ⟨(.val ds::.dead::.own 1 (N++[.str y.name])::.own 1 C::.box [.val (.str y.name),.val (.slice (y.vars.map .str)),.val (.slice (y.cons.map CoD.enc))]::.dead::.dead::.dead::.dead::.dead::.dead::.dead::.val (.slice ((pre++y::ys).map DaD.enc))::.val (.int .i64 ((pre++y::ys).length:Nat))::.val (.int .i64 (pre.length:Nat))::.val (.bool (decide ((pre.length:Int) < ((pre++y::ys).length:Nat))))::.val (.bool (badA (isK kd 4) y))::.dead::.dead::.dead::.dead::.dead::.dead::.dead::.dead::.dead::.dead::.dead::.dead::.dead::.dead::.dead::.dead::.dead::.dead::.dead::[]),sto⟩=some r→XK Tryz.prog ans (CF kd) (LP kd) 76 (regOf Tryz.f76 8) ⟨(.val ds::.dead::.own 1 (N++[.str y.name])::.own 1 C::.box [.val (.str y.name),.val (.slice (y.vars.map .str)),.val (.slice (y.cons.map CoD.enc))]::.dead::.dead::.dead::.dead::.dead::.dead::.dead::.val (.slice ((pre++y::ys).map DaD.enc))::.val (.int .i64 ((pre++y::ys).length:Nat))::.val (.int .i64 (pre.length:Nat))::.val (.bool (decide ((pre.length:Int) < ((pre++y::ys).length:Nat))))::.dead::.dead::.dead::.dead::.dead::.dead::.dead::.dead::.dead::.dead::.dead::.dead::.dead::.dead::.dead::.dead::.dead::.dead::.dead::.dead::[]),sto⟩ K'=some r:=by
   intro K' r hK;rw[regQ_eq (by rfl)];simp only[badA] at hK;cases g1:decide (((y.cons.length:Nat):Int) < 1) with
   |true =>
    simp only[g1,Bool.true_or] at hK;first|((with_reducible apply tR);(focus (intro _ _;(repeat (apply tOp;(focus (intro _;simp only[g1,List.length_map,go_sem];rfl))));rfl));(focus (simp only[go_sem];rfl)))
    exact hK
   |false =>
    cases g2:decide (((y.cons.length:Nat):Int) > 16) with
    |true =>
     simp only[g2,Bool.true_or,Bool.or_true] at hK;first|((with_reducible apply tR);(focus (intro _ _;(repeat (apply tOp;(focus (intro _;simp only[g1,g2,List.length_map,go_sem];rfl))));rfl));(focus (simp only[go_sem];rfl)))
     exact hK
    |false =>
     cases g3:decide (((y.vars.length:Nat):Int) > 16) with
     |true =>
      simp only[g3,Bool.true_or,Bool.or_true] at hK;first|((with_reducible apply tR);(focus (intro _ _;(repeat (apply tOp;(focus (intro _;simp only[g1,g2,g3,List.length_map,go_sem];rfl))));rfl));(focus (simp only[go_sem];rfl)))
      exact hK
     |false =>
      cases g4:diffD y.vars [] with
      |false =>
       simp only[g4,Bool.not_false,Bool.true_or,Bool.or_true] at hK;rw[g4] at hd;first|((with_reducible apply tR);(focus (intro _ _;(repeat (apply tOp;(focus (intro _;simp only[g1,g2,g3,hd,List.length_map,go_sem];rfl))));rfl));(focus (simp only[go_sem];rfl)))
       exact hK
      |true =>
       rw[g4] at hd;simp only[g1,g2,g3,g4,Bool.not_true,Bool.false_or] at hK;first|((with_reducible apply tR);(focus (intro _ _;(repeat (apply tOp;(focus (intro _;simp only[g1,g2,g3,hd,hk,List.length_map,go_sem];rfl))));rfl));(focus (simp only[go_sem];rfl)))
       exact hK
  simp only[List.all_cons,okD];cases hp:badA (isK kd 4) y with
  |true =>
   simp only[hp,Bool.not_true,Bool.false_and,cond_false] at hR8 ⊢;iterate 36 apply Exists.intro
   refine tJ rfl ?_;repeat first|with_reducible constructor|(with_reducible apply tG);kernel_rfl;intro _ _;(repeat apply tOp;intro _;simp only[hget,h0,setElems,clean,flat,AVal.cells,List.replicate,List.set_cons_zero,hr,List.length_map,go_sem];rfl);rfl;simp only[go_sem];rfl|(with_reducible apply t1);rfl;trivial
   refine hR8 _ _ ?_;refine tQ ?_;repeat first|with_reducible constructor|(with_reducible apply tG);kernel_rfl;intro _ _;(repeat apply tOp;intro _;simp only[go_sem];rfl);rfl;simp only[go_sem];rfl|(with_reducible apply t1);rfl;trivial
   exact tlE;all_goals exact .dead
  |false =>
   simp only[hp,Bool.not_false,Bool.true_and] at hR8 ⊢;obtain ⟨s0,s2,s3,s4,s6,s8,s9,s11,s12,s14,s16,s19,s20,s21,s22,s23,s57,s59,s60,s61,s62,s73,s95,s96,s97,s98,s99,s104,s105,s106,s107,s111,s112,s113,s114,s129,hin⟩:=loop76b (kd:=kd) ds (N++[.str y.name]) [] (.slice ((pre++y::ys).map DaD.enc)) ((pre++y::ys).length:Nat) (pre.length:Nat) sto y.cons [] C (by simp;omega) (by omega);simp only[List.nil_append,List.length_nil] at hin;have e0:((0:Nat):Int)=0:=rfl;rw[e0] at hin;cases hq:y.cons.all okC with
   |false =>
    rw[hq] at hin;simp only[cond_false] at hin;simp only[Bool.false_and,cond_false];iterate 36 apply Exists.intro
    refine tJ rfl ?_;repeat first|with_reducible constructor|(with_reducible apply tG);kernel_rfl;intro _ _;(repeat apply tOp;intro _;simp only[hget,h0,setElems,clean,flat,AVal.cells,List.replicate,List.set_cons_zero,hr,List.length_map,go_sem];rfl);rfl;simp only[go_sem];rfl|(with_reducible apply t1);rfl;trivial
    refine hR8 _ _ ?_;refine tQ ?_;repeat first|with_reducible constructor|(with_reducible apply tG);kernel_rfl;intro _ _;(repeat apply tOp;intro _;simp only[List.length_map,go_sem];rfl);rfl;simp only[go_sem];rfl|(with_reducible apply tM);assumption|(with_reducible apply t0);rfl;trivial
    exact tlE;all_goals exact .dead
   |true =>
    rw[hq] at hin;simp only[cond_true] at hin;obtain ⟨m0,m2,m3,m4,m6,m8,m9,m11,m12,m14,m16,m19,m20,m21,m22,m23,m57,m59,m60,m61,m62,m73,m95,m96,m97,m98,m99,m104,m105,m106,m107,m111,m112,m113,m114,m129,ih⟩:=ih (pre++[y]) (N++[.str y.name]) (C++y.cons.map fun c=>.str c.name) (by simpa using h3) (by simp at h4 ⊢;omega) (by simp;omega) (fun x hx=>hv x (by simp [hx]));have ec:(y.cons.map fun c=>AVal.str c.name)=(y.cons.map CoD.name).map .str:=by simp
    simp only[List.append_assoc,List.singleton_append] at ih;simp only[Bool.true_and,List.map_cons,conNames];refine ⟨m0,m2,m3,m4,m6,m8,m9,m11,m12,m14,m16,m19,m20,m21,m22,m23,m57,m59,m60,m61,m62,m73,m95,m96,m97,m98,m99,m104,m105,m106,m107,m111,m112,m113,m114,m129,?_⟩;have e2:(y.cons.map CoD.name++conNames ys).map AVal.str=(y.cons.map fun c=>.str c.name)++(conNames ys).map .str:=by simp
    rw[e2];cases hz':ys.all (okD (isK kd 4)) with
    |true =>
     rw[hz'] at ih;simp only[cond_true] at ih ⊢;refine tJ rfl ?_;repeat first|with_reducible constructor|(with_reducible apply tG);kernel_rfl;intro _ _;(repeat apply tOp;intro _;simp only[hget,h0,setElems,clean,flat,AVal.cells,List.replicate,List.set_cons_zero,hr,List.length_map,go_sem];rfl);rfl;simp only[go_sem];rfl|(with_reducible apply t1);rfl;trivial
     refine hR8 _ _ ?_;refine tQ ?_;repeat first|with_reducible constructor|(with_reducible apply tG);kernel_rfl;intro _ _;(repeat apply tOp;intro _;simp only[List.length_map,hw,go_sem];rfl);rfl;simp only[go_sem];rfl|(with_reducible apply tM);assumption|(with_reducible apply t0);rfl;trivial
     exact ih
    |false =>
     rw[hz'] at ih;simp only[cond_false] at ih ⊢;refine tJ rfl ?_;repeat first|with_reducible constructor|(with_reducible apply tG);kernel_rfl;intro _ _;(repeat apply tOp;intro _;simp only[hget,h0,setElems,clean,flat,AVal.cells,List.replicate,List.set_cons_zero,hr,List.length_map,go_sem];rfl);rfl;simp only[go_sem];rfl|(with_reducible apply t1);rfl;trivial
     refine hR8 _ _ ?_;refine tQ ?_;repeat first|with_reducible constructor|(with_reducible apply tG);kernel_rfl;intro _ _;(repeat apply tOp;intro _;simp only[List.length_map,hw,go_sem];rfl);rfl;simp only[go_sem];rfl|(with_reducible apply tM);assumption|(with_reducible apply t0);rfl;trivial
     exact ih
end Go.Proofs.YtkmnkiekmlcfdaaGreatDoor
