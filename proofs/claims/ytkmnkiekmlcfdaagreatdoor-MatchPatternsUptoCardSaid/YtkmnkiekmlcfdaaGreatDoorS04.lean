/- Part S04 of the proof of one law of the program. -/
import Derived.Test.YtkmnkiekmlcfdaaGreatDoorS03
import Derived.Test.YtkmnkiekmlcfdaaGreatDoorE07
set_option linter.all false
namespace Go.Proofs.YtkmnkiekmlcfdaaGreatDoor
open Go.AM
section
open Go.AM
set_option maxRecDepth 100000
set_option maxHeartbeats 4000000
variable {kd:List UInt8→Int}
def ofR (s:List UInt8) (tas:List TyD):List (List UInt8)→Nat→Option TyD
 |[],_=>none
 |y::ys,k=>match tas[k]? with
  |none=>none
  |some x=>bif s==y then some x else ofR s tas ys (k+1)
theorem ofR_eq (s:List UInt8) (tas:List TyD):∀ (ys:List (List UInt8)) (k:Nat),ofR s tas ys k=match ys.findIdx? (fun y=>s==y) with|some i=>tas[k+i]?|none=>none
 |[],k=>rfl
 |y::ys,k=>by
  have ih:=ofR_eq s tas ys (k+1);unfold ofR;rw[List.findIdx?_cons];cases hx:tas[k]? with
  |none =>
   have hk:=List.getElem?_eq_none_iff.1 hx;simp only;cases s==y with
   |true=>simp only[if_true,Nat.add_zero,hx]
   |false =>
    simp only[Bool.false_eq_true,if_false];cases ys.findIdx? (fun y=>s==y) with
    |none=>rfl
    |some i=>exact (List.getElem?_eq_none (by omega)).symm
  |some x =>
   simp only;cases hy:s==y with
   |true=>simp only[if_true,cond_true,Nat.add_zero,hx]
   |false =>
    simp only[Bool.false_eq_true,if_false,cond_false,ih];cases ys.findIdx? (fun y=>s==y) with
    |none=>rfl
    |some i=>simp only[Option.map_some];rw[show k+(i+1)=k+1+i by omega]
theorem ofR_ofD (s:List UInt8) (vs:List (List UInt8)) (tas:List TyD):ofR s tas vs 0=ofD vs tas s:=by
 rw[ofR_eq,ofD];cases vs.findIdx? (fun y=>s==y) with
 |none=>rfl
 |some i=>simp only[Nat.zero_add]
theorem loop119a (nm:List UInt8) (l:List TyD) (tas:List TyD) (T:Sto) (ys:List (List UInt8)):∀ (pre:List (List UInt8)),(pre++ys).length < big →
  ∃ s0 s1 s2 s3 s7 s8 s9 s19 s28 s40,LP kd 119 (loopOf Tryz.f119 0) ⟨[.dead,.val (.slice ((pre++ys).map .str)),.val (.slice (tas.map TyD.enc)),.box [.val (.str nm),.val (.slice (l.map TyD.enc))],.box [.val (.str []),.own 2 []],.val (.int .i64 (pre.length:Nat)),.dead,.dead,.dead,.dead,.dead],T⟩ =
   match ofR nm tas ys pre.length with
   |some x=>some (.ret,⟨[s0,s1,s2,s3,.box [.val (.str x.name),.val (.slice (x.args.map TyD.enc))],s7,s8,s9,s19,s28,s40],T⟩)
   |none=>some (.exit 0,⟨[s0,.val (.slice ((pre++ys).map .str)),.val (.slice (tas.map TyD.enc)),.box [.val (.str nm),.val (.slice (l.map TyD.enc))],.box [.val (.str []),.own 2 []],s7,s8,s9,s19,s28,s40],T⟩):=by
 induction ys with
 |nil =>
  intro pre h3;have hlt:=geI pre;simp only[List.append_nil,ofR];iterate 10 apply Exists.intro
  refine tJ rfl ?_;repeat first|with_reducible constructor|(with_reducible apply tG);kernel_rfl;intro _ _;(repeat apply tOp;intro _;simp only[List.length_map,hlt,go_sem];rfl);rfl;simp only[go_sem];rfl|(with_reducible apply t0);rfl;trivial
  exact tlX;all_goals exact .dead
 |cons y ys ih =>
  intro pre h3;have hget:=getI AVal.str pre ys y;have hlt:=ltI pre ys y;have h0:=zI pre.length;have hw:=wL pre ys y h3;unfold ofR;cases hx:tas[pre.length]? with
  |none =>
   have hk:decide (((pre.length:Nat):Int) < (tas.length:Nat))=false:=by
    have:=List.getElem?_eq_none_iff.1 hx
    rw[decide_eq_false_iff_not];omega
   iterate 10 apply Exists.intro
   refine tJ rfl ?_;repeat first|with_reducible constructor|(with_reducible apply tG);kernel_rfl;intro _ _;(repeat apply tOp;intro _;simp only[List.length_map,hlt,hk,go_sem];rfl);rfl;simp only[go_sem];rfl|(with_reducible apply t0);rfl;trivial
   exact tlX;all_goals exact .dead
  |some x =>
   have hk:decide (((pre.length:Nat):Int) < (tas.length:Nat))=true:=by
    have:=(List.getElem?_eq_some_iff.1 hx).1
    rw[decide_eq_true_eq];omega
   have hga:(tas.map TyD.enc)[((pre.length:Nat):Int).toNat]?=some x.enc:=by
    show (tas.map TyD.enc)[pre.length]?=_;rw[List.getElem?_map,hx];rfl
   rw[x.enc_eq] at hga;simp only;cases hp:(nm==y) with
   |true =>
    simp only[cond_true];iterate 10 apply Exists.intro
    refine tJ rfl ?_;repeat first|with_reducible constructor|(with_reducible apply tG);kernel_rfl;intro _ _;(repeat apply tOp;intro _;simp only[List.length_map,hlt,hk,hget,h0,hp,hga,go_sem];rfl);rfl;simp only[go_sem];rfl|(with_reducible apply t1);rfl;trivial
    exact tlE;all_goals exact .dead
   |false =>
    obtain ⟨s0,s1,s2,s3,s7,s8,s9,s19,s28,s40,ih⟩:=ih (pre++[y]) (by simpa using h3);rw[List.length_append,List.length_singleton] at hw;simp only[List.append_assoc,List.singleton_append,List.length_append,List.length_singleton] at ih;simp only[cond_false];refine ⟨s0,s1,s2,s3,s7,s8,s9,s19,s28,s40,?_⟩;cases hr:ofR nm tas ys (pre.length+1)
    all_goals
     rw[hr] at ih;simp only at ih ⊢;refine tJ rfl ?_;repeat first|with_reducible constructor|(with_reducible apply tG);kernel_rfl;intro _ _;(repeat apply tOp;intro _;simp only[List.length_map,hlt,hk,hget,h0,hp,hw,go_sem];rfl);rfl;simp only[go_sem];rfl|(with_reducible apply t1);rfl;trivial|(with_reducible apply t0);rfl;trivial
     exact ih
theorem loop119b (nm:List UInt8) (f:TyD→TyD) (vs:List (List UInt8)) (tas:List TyD) (T:Sto) (ys:List TyD):∀ (pre:List TyD) (X:List AVal),(pre++ys).length < big→X.length+ys.length+1 < big →
  (∀ x∈ys,CF kd (.fn 119) [.val x.enc,.val (.slice (vs.map .str)),.val (.slice (tas.map TyD.enc))] T=some (.ret (.val (f x).enc),T)) →
  ∃ s0 s1 s2 s3 s7 s9 s19 s28 s40,LP kd 119 (loopOf Tryz.f119 1) ⟨[.dead,.val (.slice (vs.map .str)),.val (.slice (tas.map TyD.enc)),.box [.val (.str nm),.val (.slice ((pre++ys).map TyD.enc))],.box [.val (.str []),.own 2 []],.dead,.box [.val (.str nm),.own 2 X],.val (.int .i64 (pre.length:Nat)),.dead,.dead,.dead],T⟩ =
   some (.exit 2,⟨[s0,s1,s2,s3,.box [.val (.str []),.own 2 []],s7,.box [.val (.str nm),.own 2 (X++ys.map fun x=>(f x).enc)],s9,s19,s28,s40],T⟩):=by
 induction ys with
 |nil =>
  intro pre X h3 h4 h5;have hlt:=geI pre;simp only[List.append_nil,List.map_nil];iterate 9 apply Exists.intro
  refine tJ rfl ?_;repeat first|with_reducible constructor|(with_reducible apply tG);kernel_rfl;intro _ _;(repeat apply tOp;intro _;simp only[List.length_map,go_sem];rfl);rfl;simp only[go_sem];rfl|(with_reducible apply t0);rfl;trivial
  exact tlX;all_goals exact .dead
 |cons y ys ih =>
  intro pre X h3 h4 h5;have hget:=getI TyD.enc pre ys y;have hy:=h5 y (by simp);have hlt:=ltI pre ys y;have h0:=zI pre.length;have hw:=wL pre ys y h3;have hr:Nat.ble (X.length+1) room=true:=Nat.ble_eq_true_of_le (by simp at h4;simp only[big] at h4;unfold room;omega);obtain ⟨s0,s1,s2,s3,s7,s9,s19,s28,s40,ih⟩:=ih (pre++[y]) (X++[(f y).enc]) (by simpa using h3) (by simp at h4 ⊢;omega) (fun x hx=>h5 x (by simp [hx]));simp only[List.append_assoc,List.singleton_append] at ih;rw[y.enc_eq,(f y).enc_eq] at hy;rw[y.enc_eq] at hget;simp only[List.map_cons];rw[(f y).enc_eq] at ih ⊢;refine ⟨s0,s1,s2,s3,s7,s9,s19,s28,s40,?_⟩;refine tJ rfl ?_;repeat first|with_reducible constructor|(with_reducible apply tG);kernel_rfl;intro _ _;(repeat apply tOp;intro _;simp only[List.length_map,hget,h0,hw,hr,hy,beq_self_eq_true,slotLok,setElems,clean,flat,List.replicate,List.set_cons_zero,List.set_cons_succ,go_sem];rfl);rfl;simp only[go_sem];rfl|(with_reducible apply t1);rfl;trivial
  exact ih
theorem c119 (vs:List (List UInt8)) (hv:vs.length < big) (tas:List TyD):∀ (m:Nat) (t:TyD),t.size < m→m≤big→∀ (T:Sto),
  CF kd (.fn 119) [.val t.enc,.val (.slice (vs.map .str)),.val (.slice (tas.map TyD.enc))] T=some (.ret (.val (putD (ofD vs tas) t).enc),T):=by
 intro m;induction m with
 |zero=>intro t h;omega
 |succ m ih =>
  intro t h1 h2 T;obtain ⟨s0,s1,s2,s3,s7,s8,s9,s19,s28,s40,hl⟩:=loop119a (kd:=kd) t.name t.args tas T vs [] (by simpa using hv);simp only[List.nil_append,List.length_nil] at hl;have e0:((0:Nat):Int)=0:=rfl;rw[e0,ofR_ofD] at hl;rw[putD_eq];cases hx:ofD vs tas t.name with
  |some x =>
   rw[hx] at hl;simp only at hl ⊢;rw[t.enc_eq,x.enc_eq];apply tA;rfl;rfl;exact Tryz.func119;rfl;rfl;simp only[go_sem];rfl;refine tQ ?_;repeat first|with_reducible constructor|(with_reducible apply tG);kernel_rfl;intro _ _;(repeat apply tOp;intro _;simp only[go_sem];rfl);rfl;simp only[go_sem];rfl|(with_reducible apply tM);assumption
   exact fin0 rfl
  |none =>
   rw[hx] at hl;simp only at hl ⊢;have hlen:=t.args_len;obtain ⟨s0,s1,s2,s3,s7,s9,s19,s28,s40,hb⟩:=loop119b (kd:=kd) t.name (putD (ofD vs tas)) vs tas T t.args [] [] (by simp only[List.nil_append];simp only[big] at h2 ⊢;omega) (by simp only[List.length_nil];simp only[big] at h2 ⊢;omega) (fun x hx=>ih x (by have:=TyD.args_size hx;omega) (by omega) T);simp only[List.nil_append,List.length_nil] at hb;rw[e0] at hb;rw[TyD.enc_mk,t.enc_eq];simp only[List.map_map];apply tA;rfl;rfl;exact Tryz.func119;rfl;rfl;simp only[go_sem];rfl;refine tQ ?_;repeat first|with_reducible constructor|(with_reducible apply tG);kernel_rfl;intro _ _;(repeat apply tOp;intro _;simp only[go_sem];rfl);rfl;simp only[go_sem];rfl|(with_reducible apply tM);assumption
   exact fin0 rfl
end
section
open Go.AM
set_option maxRecDepth 100000
set_option maxHeartbeats 4000000
variable {kd:List UInt8→Int}
theorem loop75b (d:DaD) (t:TyD) (f:TyD→TyD) (i:Nat) (nm:List UInt8) (as0:List TyD) (R:List AVal) (T:Sto) (hc:(d.cons.map CoD.enc)[((i:Nat):Int).toNat]?=some (.agg [.str nm,.slice (as0.map TyD.enc)])) (ys:List TyD):∀ (pre:List TyD) (X:List AVal),as0=pre++ys→as0.length < big→X.length+ys.length+1 < big →
  (∀ x∈ys,CF kd (.fn 119) [.val x.enc,.val (.slice (d.vars.map .str)),.val (.slice (t.args.map TyD.enc))] T=some (.ret (.val (f x).enc),T)) →
  ∃ s0 s1 s4 s6 s10 s13 s26 s31 s49,LP kd 75 (loopOf Tryz.f75 1) ⟨[.dead,.dead,.box [.val (.str t.name),.val (.slice (t.args.map TyD.enc))],.dead,.box [.val (.str d.name),.val (.slice (d.vars.map .str)),.val (.slice (d.cons.map CoD.enc))],.dead,.own 2 R,.val (.int .i64 (i:Nat)),.box [.val (.str nm),.own 2 X],.val (.int .i64 (pre.length:Nat)),.dead,.dead,.dead,.dead],T⟩ =
   some (.exit 2,⟨[s0,s1,.box [.val (.str t.name),.val (.slice (t.args.map TyD.enc))],s4,.box [.val (.str d.name),.val (.slice (d.vars.map .str)),.val (.slice (d.cons.map CoD.enc))],s6,.own 2 R,.val (.int .i64 (i:Nat)),.box [.val (.str nm),.own 2 (X++ys.map fun x=>(f x).enc)],s10,s13,s26,s31,s49],T⟩):=by
 have hi:=zI i;induction ys with
 |nil =>
  intro pre X h1 h3 h4 h5;rw[List.append_nil] at h1;subst h1;have hlt:=geI as0;simp only[List.append_nil,List.map_nil];iterate 9 apply Exists.intro
  refine tJ rfl ?_;repeat first|with_reducible constructor|(with_reducible apply tG);kernel_rfl;intro _ _;(repeat apply tOp;intro _;simp only[hc,hi,List.length_map,go_sem];rfl);rfl;simp only[go_sem];rfl|(with_reducible apply t0);rfl;trivial
  exact tlX;all_goals exact .dead
 |cons y ys ih =>
  intro pre X h1 h3 h4 h5;have hget:=getI TyD.enc pre ys y;have hy:=h5 y (by simp);have hlt:=ltI pre ys y;have h0:=zI pre.length;have hw:=wL pre ys y (by rw[←h1];exact h3);have hr:Nat.ble (X.length+1) room=true:=Nat.ble_eq_true_of_le (by simp at h4;simp only[big] at h4;unfold room;omega);obtain ⟨s0,s1,s4,s6,s10,s13,s26,s31,s49,ih⟩:=ih (pre++[y]) (X++[(f y).enc]) (by rw[h1];simp) h3 (by simp at h4 ⊢;omega) (fun x hx=>h5 x (by simp [hx]));simp only[List.append_assoc,List.singleton_append] at ih;rw[y.enc_eq,(f y).enc_eq] at hy;rw[y.enc_eq] at hget;rw[←h1] at hget hlt;simp only[List.map_cons];rw[(f y).enc_eq] at ih ⊢;refine ⟨s0,s1,s4,s6,s10,s13,s26,s31,s49,?_⟩;refine tJ rfl ?_;repeat first|with_reducible constructor|(with_reducible apply tG);kernel_rfl;intro _ _;(repeat apply tOp;intro _;simp only[hc,hi,List.length_map,hget,h0,hw,hr,hy,beq_self_eq_true,slotLok,setElems,clean,flat,List.replicate,List.set_cons_zero,List.set_cons_succ,go_sem];rfl);rfl;simp only[go_sem];rfl|(with_reducible apply t1);rfl;trivial
  exact ih
theorem loop75a (d:DaD) (t:TyD) (T:Sto) (hd:d.ok) (ys:List CoD):∀ (pre:List CoD) (R:List AVal),d.cons=pre++ys→R.length+ys.length+1 < big →
  ∃ s0 s1 s3 s4 s5 s6 s8 s9 s10 s13 s26 s31 s49,LP kd 75 (loopOf Tryz.f75 0) ⟨[.dead,.dead,.box [.val (.str t.name),.val (.slice (t.args.map TyD.enc))],.dead,.box [.val (.str d.name),.val (.slice (d.vars.map .str)),.val (.slice (d.cons.map CoD.enc))],.dead,.own 2 R,.val (.int .i64 (pre.length:Nat)),.dead,.dead,.dead,.dead,.dead,.dead],T⟩ =
   some (.exit 0,⟨[s0,s1,s3,s4,s5,s6,.own 2 (R++ys.map fun c=>(putC (ofD d.vars t.args) c).enc),s8,s9,s10,s13,s26,s31,s49],T⟩):=by
 induction ys with
 |nil =>
  intro pre R h1 h4;rw[List.append_nil] at h1;have hlt:=geI d.cons;rw[←h1];simp only[List.append_nil,List.map_nil];iterate 13 apply Exists.intro
  refine tJ rfl ?_;repeat first|with_reducible constructor|(with_reducible apply tG);kernel_rfl;intro _ _;(repeat apply tOp;intro _;simp only[List.length_map,go_sem];rfl);rfl;simp only[go_sem];rfl|(with_reducible apply t0);rfl;trivial
  exact tlX;all_goals exact .dead
 |cons y ys ih =>
  intro pre R h1 h4;have hget:=getI CoD.enc pre ys y;have hlt:=ltI pre ys y;have h0:=zI pre.length;have hw:=wL pre ys y (by rw[←h1];have:=hd.cons;omega);have hr:Nat.ble (R.length+1) room=true:=Nat.ble_eq_true_of_le (by simp at h4;simp only[big] at h4;unfold room;omega);have hym:y∈d.cons:=by rw[h1];simp
  have hal:=hd.args y hym;rw[←h1,y.enc_eq] at hget;obtain ⟨s0,s1,s4,s6,s10,s13,s26,s31,s49,hb⟩:=loop75b (kd:=kd) d t (putD (ofD d.vars t.args)) pre.length y.name y.args R T hget y.args [] [] rfl (by omega) (by simp only[List.length_nil];omega) (fun x hx=>c119 d.vars hd.vars t.args _ x (Nat.lt_succ_self _) (hd.types y hym x hx) T);obtain ⟨s0,s1,s3,s4,s5,s6,s8,s9,s10,s13,s26,s31,s49,ih⟩:=ih (pre++[y]) (R++[(putC (ofD d.vars t.args) y).enc]) (by rw[h1];simp) (by simp at h4 ⊢;omega);have e0:((0:Nat):Int)=0:=rfl;simp only[List.append_assoc,List.singleton_append] at ih;simp only[List.nil_append,List.length_nil] at hb;rw[e0] at hb;rw[←h1] at hlt;simp only[List.map_cons];rw[CoD.enc_eq] at ih ⊢;simp only[putC,List.map_map] at ih ⊢;refine ⟨s0,s1,s3,s4,s5,s6,s8,s9,s10,s13,s26,s31,s49,?_⟩;refine tJ rfl ?_;repeat first|with_reducible constructor|(with_reducible apply tG);kernel_rfl;intro _ _;(repeat apply tOp;intro _;simp only[List.length_map,hget,h0,setElems,clean,flat,List.replicate,List.set_cons_zero,List.set_cons_succ,hr,hw,go_sem];rfl);rfl;simp only[go_sem];rfl|(with_reducible apply tM);assumption|(with_reducible apply t1);rfl;trivial
  exact ih
theorem c75 {ds:List DaD} (h:DsOk ds) (t:TyD) (T:Sto):CF kd (.fn 75) [.val (.slice (ds.map DaD.enc)),.val t.enc] T=some (.ret (.val (.slice ((consD ds t).map CoD.enc))),T):=by
 unfold consD;rw[t.enc_eq];cases hcm:(t.name==[44]) with
 |true =>
  simp only[if_true,List.map_cons,List.map_nil,CoD.enc_eq];apply tA;rfl;rfl;exact Tryz.func75;rfl;rfl;simp only[go_sem];rfl;refine tQ ?_;repeat first|with_reducible constructor|(with_reducible apply tG);kernel_rfl;intro _ _;(repeat apply tOp;intro _;simp only[hcm,setElems,clean,flat,List.replicate,List.set_cons_zero,List.set_cons_succ,go_sem];rfl);rfl;simp only[go_sem];rfl|(with_reducible apply t1);rfl;trivial
  exact fin0 rfl
 |false =>
  simp only[Bool.false_eq_true,if_false];have h118:=c118 (kd:=kd) t.name ds T (by have:=h.len;omega);cases hf:findD ds t.name with
  |none =>
   rw[hf] at h118;simp only[Option.getD_none,Option.isSome_none,zeroDa_enc] at h118;simp only[List.map_nil];apply tA;rfl;rfl;exact Tryz.func75;rfl;rfl;simp only[go_sem];rfl;refine tQ ?_;repeat first|with_reducible constructor|(with_reducible apply tG);kernel_rfl;intro _ _;(repeat apply tOp;intro _;simp only[hcm,h118,go_sem];rfl);rfl;simp only[go_sem];rfl|(with_reducible apply t1);rfl;trivial|(with_reducible apply t0);rfl;trivial
   exact fin0 rfl
  |some d =>
   have hd:=findD_ok h hf;rw[hf] at h118;simp only[Option.getD_some,Option.isSome_some] at h118;rw[show d.enc=.agg [.str d.name,.slice (d.vars.map .str),.slice (d.cons.map CoD.enc)] from rfl] at h118;obtain ⟨s0,s1,s3,s4,s5,s6,s8,s9,s10,s13,s26,s31,s49,hl⟩:=loop75a (kd:=kd) d t T hd d.cons [] [] rfl (by have:=hd.cons;simp only[List.length_nil];omega);simp only[List.nil_append,List.length_nil] at hl;have e0:((0:Nat):Int)=0:=rfl;rw[e0] at hl;simp only[List.map_map];apply tA;rfl;rfl;exact Tryz.func75;rfl;rfl;simp only[go_sem];rfl;refine tQ ?_;repeat first|with_reducible constructor|(with_reducible apply tG);kernel_rfl;intro _ _;(repeat apply tOp;intro _;simp only[hcm,h118,go_sem];rfl);rfl;simp only[go_sem];rfl|(with_reducible apply tM);assumption|(with_reducible apply t0);rfl;trivial
   exact fin0 rfl
end
end Go.Proofs.YtkmnkiekmlcfdaaGreatDoor
