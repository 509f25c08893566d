/- Part S06 of the proof of one law of the program. -/
import Derived.Test.YtkmnkiekmlcfdaaGreatDoorS05
set_option linter.all false
namespace Go.Proofs.YtkmnkiekmlcfdaaGreatDoor
open Go.AM
set_option maxRecDepth 100000
set_option maxHeartbeats 4000000
variable {kd:List UInt8→Int}
def qB (s:List UInt8):Bool:=peekN s 0==39
abbrev allB:List UInt8→Bool:=fun _=>true
def neD (t:TyD):Bool:=!hasVarD (fun s=>s==[]) allB t
theorem neD_name {t:TyD} (h:neD t=true):∃ b:UInt8,t.name[(0:Int).toNat]?=some b∧peekN t.name 0=(b.toNat:Nat):=by
 unfold neD at h;rw[hasVarD_eq,Bool.not_or,Bool.and_eq_true] at h;have h1:=h.1;simp only[Bool.and_true,Bool.not_eq_true',beq_eq_false_iff_ne,ne_eq] at h1;exact peek_get (i:=0) (List.length_pos_iff.2 h1)
theorem neD_args {t a:TyD} (h:neD t=true) (ha:a∈t.args):neD a=true:=by
 unfold neD at h ⊢;rw[hasVarD_eq,Bool.not_or,Bool.and_eq_true] at h;have h2:=h.2;simp only[Bool.not_eq_true',List.any_eq_false] at h2;simp only[Bool.not_eq_true'];simpa using h2 a ha
theorem loop131 (nm:List UInt8) (T:Sto) (ys:List TyD):∀ (pre:List TyD),(pre++ys).length < big →
  (∀ x∈ys,CF kd (.fn 131) [.val x.enc] T=some (.ret (.val (.bool (!hasVarD qB allB x))),T)) →
  ∃ s0 s1 s2 s3 s7 s12 s21,LP kd 131 (loopOf Tryz.f131 0) ⟨[.dead,.box [.val (.str nm),.val (.slice ((pre++ys).map TyD.enc))],.dead,.val (.int .i64 (pre.length:Nat)),.dead,.dead,.dead],T⟩ =
   bif ys.any (fun y=>hasVarD qB allB y) then some (.ret,⟨[s0,s1,.val (.bool false),s3,s7,s12,s21],T⟩) else some (.exit 0,⟨[s0,s1,s2,s3,s7,s12,s21],T⟩):=by
 induction ys with
 |nil =>
  intro pre h3 h131;have hlt:=geI pre;simp only[List.append_nil,List.any_nil,cond_false];iterate 7 apply Exists.intro
  refine tJ rfl ?_;repeat first|with_reducible constructor|(with_reducible apply tG);kernel_rfl;intro _ _;(repeat apply tOp;intro _;simp only[List.length_map,go_sem];rfl);rfl;simp only[go_sem];rfl|(with_reducible apply t0);rfl;trivial
  exact tlX;all_goals exact .dead
 |cons y ys ih =>
  intro pre h3 h131;have hget:=getI TyD.enc pre ys y;have h131y:=h131 y (by simp);rw[y.enc_eq] at hget h131y;have hlt:=ltI pre ys y;have h0:=zI pre.length;have hw:=wL pre ys y h3;simp only[List.any_cons];cases hp:(hasVarD qB allB y) with
  |true =>
   rw[hp] at h131y;simp only[Bool.true_or,cond_true];iterate 7 apply Exists.intro
   refine tJ rfl ?_;repeat first|with_reducible constructor|(with_reducible apply tG);kernel_rfl;intro _ _;(repeat apply tOp;intro _;simp only[List.length_map,hget,h0,h131y,go_sem];rfl);rfl;simp only[go_sem];rfl|(with_reducible apply t1);rfl;trivial
   exact tlE;all_goals exact .dead
  |false =>
   rw[hp] at h131y;obtain ⟨s0,s1,s2,s3,s7,s12,s21,ih⟩:=ih (pre++[y]) (by simpa using h3) (fun x hx=>h131 x (by simp [hx]));simp only[List.append_assoc,List.singleton_append] at ih;simp only[Bool.false_or];refine ⟨s0,s1,s2,s3,s7,s12,s21,?_⟩;cases hz:ys.any (fun y=>hasVarD qB allB y)
   all_goals
    rw[hz] at ih;simp only[cond_true,cond_false] at ih ⊢;refine tJ rfl ?_;repeat first|with_reducible constructor|(with_reducible apply tG);kernel_rfl;intro _ _;(repeat apply tOp;intro _;simp only[List.length_map,hget,h0,h131y,hw,go_sem];rfl);rfl;simp only[go_sem];rfl|(with_reducible apply t1);rfl;trivial|(with_reducible apply t0);rfl;trivial
    exact ih
theorem c131:∀ (m:Nat) (t:TyD),t.size < m→m≤big→neD t=true→∀ (T:Sto),CF kd (.fn 131) [.val t.enc] T=some (.ret (.val (.bool (!hasVarD qB allB t))),T):=by
 intro m;induction m with
 |zero=>intro t h;omega
 |succ m ih =>
  intro t hs hm hn T;obtain ⟨b0,g0,p0⟩:=neD_name hn;have z0:decide ((0:Int)≤0)=true:=rfl;have hlen:=t.args_len;obtain ⟨s0,s1,s2,s3,s7,s12,s21,hl⟩:=loop131 (kd:=kd) t.name T t.args [] (by simp only[List.nil_append];simp only[big] at hm ⊢;omega) (fun x hx=>ih x (by have:=TyD.args_size hx;omega) (by omega) (neD_args hn hx) T);simp only[List.nil_append,List.length_nil] at hl;have e0:((0:Nat):Int)=0:=rfl;rw[e0] at hl;rw[hasVarD_eq,t.enc_eq];have hq:qB t.name=(((b0.toNat:Nat):Int)==39):=by unfold qB;rw[p0]
  cases hqq:(((b0.toNat:Nat):Int)==39) with
  |true =>
   rw[hq,hqq];simp only[Bool.and_self,Bool.true_or,Bool.not_true];apply tA;rfl;rfl;exact Tryz.func131;rfl;rfl;simp only[go_sem];rfl;refine tQ ?_;repeat first|with_reducible constructor|(with_reducible apply tG);kernel_rfl;intro _ _;(repeat apply tOp;intro _;simp only[g0,z0,hqq,go_sem];rfl);rfl;simp only[go_sem];rfl|(with_reducible apply t1);rfl;trivial
   exact fin0 rfl
  |false =>
   rw[hq,hqq];simp only[Bool.false_and,Bool.false_or];cases hr:t.args.any (hasVarD qB allB)
   all_goals
    rw[show (t.args.any fun y=>hasVarD qB allB y)=_ from hr] at hl;simp only[cond_true,cond_false] at hl;apply tA;rfl;rfl;exact Tryz.func131;rfl;rfl;simp only[go_sem];rfl;refine tQ ?_;repeat first|with_reducible constructor|(with_reducible apply tG);kernel_rfl;intro _ _;(repeat apply tOp;intro _;simp only[g0,z0,hqq,go_sem];rfl);rfl;simp only[go_sem];rfl|(with_reducible apply tM);assumption|(with_reducible apply t0);rfl;trivial
    exact fin0 rfl
def growsR (t:TyD):Bool:=t.args.attach.any fun a=>((!(t.name==[45,62])&&!(t.name==[44]))&&(!qB a.1.name&&hasVarD qB allB a.1))||growsR a.1
termination_by t.size
decreasing_by exact TyD.args_size a.2
theorem growsR_eq (t:TyD):growsR t=t.args.any fun a=>((!(t.name==[45,62])&&!(t.name==[44]))&&(!qB a.name&&hasVarD qB allB a))||growsR a:=by
 rw[growsR];exact any_attach t.args fun a=>((!(t.name==[45,62])&&!(t.name==[44]))&&(!qB a.name&&hasVarD qB allB a))||growsR a
def badR (nm:List UInt8) (a:TyD):Bool:=((!(nm==[45,62])&&!(nm==[44]))&&(!qB a.name&&hasVarD qB allB a))||growsR a
theorem loop81 (nm:List UInt8) (T:Sto) (ys:List TyD):∀ (pre:List TyD),(pre++ys).length < big→(∀ x∈ys,x.size+1 < big) →
  (∀ x∈ys,neD x=true) →
  (∀ x∈ys,CF kd (.fn 81) [.val x.enc] T=some (.ret (.val (.bool (!growsR x))),T)) →
  ∃ s0 s1 s2 s3 s4 s9 s48,LP kd 81 (loopOf Tryz.f81 0) ⟨[.dead,.box [.val (.str nm),.val (.slice ((pre++ys).map TyD.enc))],.dead,.val (.int .i64 (pre.length:Nat)),.dead,.dead,.dead],T⟩ =
   bif ys.any (badR nm) then some (.ret,⟨[s0,s1,.val (.bool false),s3,s4,s9,s48],T⟩) else some (.exit 0,⟨[s0,s1,s2,s3,s4,s9,s48],T⟩):=by
 induction ys with
 |nil =>
  intro pre h3 h4 h5 h6;have hlt:=geI pre;simp only[List.append_nil,List.any_nil,cond_false];iterate 7 apply Exists.intro
  refine tJ rfl ?_;repeat first|with_reducible constructor|(with_reducible apply tG);kernel_rfl;intro _ _;(repeat apply tOp;intro _;simp only[List.length_map,go_sem];rfl);rfl;simp only[go_sem];rfl|(with_reducible apply t0);rfl;trivial
  exact tlX;all_goals exact .dead
 |cons y ys ih =>
  intro pre h3 h4 h5 h6;have hget:=getI TyD.enc pre ys y;have hy:=h6 y (by simp);have hny:=h5 y (by simp);have h131:=c131 (kd:=kd) _ y (Nat.lt_succ_self _) (by have:=h4 y (by simp);omega) hny T;obtain ⟨b0,g0,p0⟩:=neD_name hny;have z0:decide ((0:Int)≤0)=true:=rfl;have hlt:=ltI pre ys y;have h0:=zI pre.length;have hw:=wL pre ys y h3;have hq:qB y.name=(((b0.toNat:Nat):Int)==39):=by unfold qB;rw[p0]
  rw[y.enc_eq] at hget hy h131;simp only[List.any_cons];obtain ⟨s0,s1,s2,s3,s4,s9,s48,ih⟩:=ih (pre++[y]) (by simpa using h3) (fun x hx=>h4 x (by simp [hx])) (fun x hx=>h5 x (by simp [hx])) (fun x hx=>h6 x (by simp [hx]));simp only[List.append_assoc,List.singleton_append] at ih;cases hqq:(((b0.toNat:Nat):Int)==39) with
  |true =>
   cases ha:(nm==[45,62]) with
   |true =>
    cases hg:growsR y with
    |true =>
     rw[hg] at hy;have hbad:badR nm y=true:=by simp[badR,hq,hqq,ha,hg]
     simp only[hbad,Bool.true_or,cond_true];iterate 7 apply Exists.intro
     refine tJ rfl ?_;repeat first|with_reducible constructor|(with_reducible apply tG);kernel_rfl;intro _ _;(repeat apply tOp;intro _;simp only[List.length_map,hget,h0,g0,z0,h131,hy,hqq,ha,go_sem];rfl);rfl;simp only[go_sem];rfl|(with_reducible apply t1);rfl;trivial
     exact tlE;all_goals exact .dead
    |false =>
     rw[hg] at hy;have hbad:badR nm y=false:=by simp[badR,hq,hqq,ha,hg]
     simp only[hbad,Bool.false_or];refine ⟨s0,s1,s2,s3,s4,s9,s48,?_⟩;cases hr:ys.any (badR nm)
     all_goals
      rw[hr] at ih;simp only[cond_true,cond_false] at ih ⊢;refine tJ rfl ?_;repeat first|with_reducible constructor|(with_reducible apply tG);kernel_rfl;intro _ _;(repeat apply tOp;intro _;simp only[List.length_map,hget,h0,g0,z0,h131,hy,hqq,ha,hw,go_sem];rfl);rfl;simp only[go_sem];rfl|(with_reducible apply t1);rfl;trivial|(with_reducible apply t0);rfl;trivial
      exact ih
   |false =>
    cases hb:(nm==[44]) with
    |true =>
     cases hg:growsR y with
     |true =>
      rw[hg] at hy;have hbad:badR nm y=true:=by simp[badR,hq,hqq,ha,hb,hg]
      simp only[hbad,Bool.true_or,cond_true];iterate 7 apply Exists.intro
      refine tJ rfl ?_;repeat first|with_reducible constructor|(with_reducible apply tG);kernel_rfl;intro _ _;(repeat apply tOp;intro _;simp only[List.length_map,hget,h0,g0,z0,h131,hy,hqq,ha,hb,go_sem];rfl);rfl;simp only[go_sem];rfl|(with_reducible apply t1);rfl;trivial
      exact tlE;all_goals exact .dead
     |false =>
      rw[hg] at hy;have hbad:badR nm y=false:=by simp[badR,hq,hqq,ha,hb,hg]
      simp only[hbad,Bool.false_or];refine ⟨s0,s1,s2,s3,s4,s9,s48,?_⟩;cases hr:ys.any (badR nm)
      all_goals
       rw[hr] at ih;simp only[cond_true,cond_false] at ih ⊢;refine tJ rfl ?_;repeat first|with_reducible constructor|(with_reducible apply tG);kernel_rfl;intro _ _;(repeat apply tOp;intro _;simp only[List.length_map,hget,h0,g0,z0,h131,hy,hqq,ha,hb,hw,go_sem];rfl);rfl;simp only[go_sem];rfl|(with_reducible apply t1);rfl;trivial|(with_reducible apply t0);rfl;trivial
       exact ih
    |false =>
     cases hg:growsR y with
     |true =>
      rw[hg] at hy;have hbad:badR nm y=true:=by simp[badR,hq,hqq,ha,hb,hg]
      simp only[hbad,Bool.true_or,cond_true];iterate 7 apply Exists.intro
      refine tJ rfl ?_;repeat first|with_reducible constructor|(with_reducible apply tG);kernel_rfl;intro _ _;(repeat apply tOp;intro _;simp only[List.length_map,hget,h0,g0,z0,h131,hy,hqq,ha,hb,go_sem];rfl);rfl;simp only[go_sem];rfl|(with_reducible apply t1);rfl;trivial
      exact tlE;all_goals exact .dead
     |false =>
      rw[hg] at hy;have hbad:badR nm y=false:=by simp[badR,hq,hqq,ha,hb,hg]
      simp only[hbad,Bool.false_or];refine ⟨s0,s1,s2,s3,s4,s9,s48,?_⟩;cases hr:ys.any (badR nm)
      all_goals
       rw[hr] at ih;simp only[cond_true,cond_false] at ih ⊢;refine tJ rfl ?_;repeat first|with_reducible constructor|(with_reducible apply tG);kernel_rfl;intro _ _;(repeat apply tOp;intro _;simp only[List.length_map,hget,h0,g0,z0,h131,hy,hqq,ha,hb,hw,go_sem];rfl);rfl;simp only[go_sem];rfl|(with_reducible apply t1);rfl;trivial|(with_reducible apply t0);rfl;trivial
       exact ih
  |false =>
   cases hv:hasVarD qB allB y with
   |true =>
    cases ha:(nm==[45,62]) with
    |true =>
     cases hg:growsR y with
     |true =>
      rw[hv] at h131;rw[hg] at hy;have hbad:badR nm y=true:=by simp[badR,hq,hqq,hv,ha,hg]
      simp only[hbad,Bool.true_or,cond_true];iterate 7 apply Exists.intro
      refine tJ rfl ?_;repeat first|with_reducible constructor|(with_reducible apply tG);kernel_rfl;intro _ _;(repeat apply tOp;intro _;simp only[List.length_map,hget,h0,g0,z0,h131,hy,hqq,ha,go_sem];rfl);rfl;simp only[go_sem];rfl|(with_reducible apply t1);rfl;trivial
      exact tlE;all_goals exact .dead
     |false =>
      rw[hv] at h131;rw[hg] at hy;have hbad:badR nm y=false:=by simp[badR,hq,hqq,hv,ha,hg]
      simp only[hbad,Bool.false_or];refine ⟨s0,s1,s2,s3,s4,s9,s48,?_⟩;cases hr:ys.any (badR nm)
      all_goals
       rw[hr] at ih;simp only[cond_true,cond_false] at ih ⊢;refine tJ rfl ?_;repeat first|with_reducible constructor|(with_reducible apply tG);kernel_rfl;intro _ _;(repeat apply tOp;intro _;simp only[List.length_map,hget,h0,g0,z0,h131,hy,hqq,ha,hw,go_sem];rfl);rfl;simp only[go_sem];rfl|(with_reducible apply t1);rfl;trivial|(with_reducible apply t0);rfl;trivial
       exact ih
    |false =>
     cases hb:(nm==[44]) with
     |true =>
      cases hg:growsR y with
      |true =>
       rw[hv] at h131;rw[hg] at hy;have hbad:badR nm y=true:=by simp[badR,hq,hqq,hv,ha,hb,hg]
       simp only[hbad,Bool.true_or,cond_true];iterate 7 apply Exists.intro
       refine tJ rfl ?_;repeat first|with_reducible constructor|(with_reducible apply tG);kernel_rfl;intro _ _;(repeat apply tOp;intro _;simp only[List.length_map,hget,h0,g0,z0,h131,hy,hqq,ha,hb,go_sem];rfl);rfl;simp only[go_sem];rfl|(with_reducible apply t1);rfl;trivial
       exact tlE;all_goals exact .dead
      |false =>
       rw[hv] at h131;rw[hg] at hy;have hbad:badR nm y=false:=by simp[badR,hq,hqq,hv,ha,hb,hg]
       simp only[hbad,Bool.false_or];refine ⟨s0,s1,s2,s3,s4,s9,s48,?_⟩;cases hr:ys.any (badR nm)
       all_goals
        rw[hr] at ih;simp only[cond_true,cond_false] at ih ⊢;refine tJ rfl ?_;repeat first|with_reducible constructor|(with_reducible apply tG);kernel_rfl;intro _ _;(repeat apply tOp;intro _;simp only[List.length_map,hget,h0,g0,z0,h131,hy,hqq,ha,hb,hw,go_sem];rfl);rfl;simp only[go_sem];rfl|(with_reducible apply t1);rfl;trivial|(with_reducible apply t0);rfl;trivial
        exact ih
     |false =>
      rw[hv] at h131;have hbad:badR nm y=true:=by simp[badR,hq,hqq,hv,ha,hb]
      simp only[hbad,Bool.true_or,cond_true];iterate 7 apply Exists.intro
      refine tJ rfl ?_;repeat first|with_reducible constructor|(with_reducible apply tG);kernel_rfl;intro _ _;(repeat apply tOp;intro _;simp only[List.length_map,hget,h0,g0,z0,h131,hy,hqq,ha,hb,go_sem];rfl);rfl;simp only[go_sem];rfl|(with_reducible apply t1);rfl;trivial
      exact tlE;all_goals exact .dead
   |false =>
    cases ha:(nm==[45,62]) with
    |true =>
     cases hg:growsR y with
     |true =>
      rw[hv] at h131;rw[hg] at hy;have hbad:badR nm y=true:=by simp[badR,hq,hqq,hv,ha,hg]
      simp only[hbad,Bool.true_or,cond_true];iterate 7 apply Exists.intro
      refine tJ rfl ?_;repeat first|with_reducible constructor|(with_reducible apply tG);kernel_rfl;intro _ _;(repeat apply tOp;intro _;simp only[List.length_map,hget,h0,g0,z0,h131,hy,hqq,ha,go_sem];rfl);rfl;simp only[go_sem];rfl|(with_reducible apply t1);rfl;trivial
      exact tlE;all_goals exact .dead
     |false =>
      rw[hv] at h131;rw[hg] at hy;have hbad:badR nm y=false:=by simp[badR,hq,hqq,hv,ha,hg]
      simp only[hbad,Bool.false_or];refine ⟨s0,s1,s2,s3,s4,s9,s48,?_⟩;cases hr:ys.any (badR nm)
      all_goals
       rw[hr] at ih;simp only[cond_true,cond_false] at ih ⊢;refine tJ rfl ?_;repeat first|with_reducible constructor|(with_reducible apply tG);kernel_rfl;intro _ _;(repeat apply tOp;intro _;simp only[List.length_map,hget,h0,g0,z0,h131,hy,hqq,ha,hw,go_sem];rfl);rfl;simp only[go_sem];rfl|(with_reducible apply t1);rfl;trivial|(with_reducible apply t0);rfl;trivial
       exact ih
    |false =>
     cases hb:(nm==[44]) with
     |true =>
      cases hg:growsR y with
      |true =>
       rw[hv] at h131;rw[hg] at hy;have hbad:badR nm y=true:=by simp[badR,hq,hqq,hv,ha,hb,hg]
       simp only[hbad,Bool.true_or,cond_true];iterate 7 apply Exists.intro
       refine tJ rfl ?_;repeat first|with_reducible constructor|(with_reducible apply tG);kernel_rfl;intro _ _;(repeat apply tOp;intro _;simp only[List.length_map,hget,h0,g0,z0,h131,hy,hqq,ha,hb,go_sem];rfl);rfl;simp only[go_sem];rfl|(with_reducible apply t1);rfl;trivial
       exact tlE;all_goals exact .dead
      |false =>
       rw[hv] at h131;rw[hg] at hy;have hbad:badR nm y=false:=by simp[badR,hq,hqq,hv,ha,hb,hg]
       simp only[hbad,Bool.false_or];refine ⟨s0,s1,s2,s3,s4,s9,s48,?_⟩;cases hr:ys.any (badR nm)
       all_goals
        rw[hr] at ih;simp only[cond_true,cond_false] at ih ⊢;refine tJ rfl ?_;repeat first|with_reducible constructor|(with_reducible apply tG);kernel_rfl;intro _ _;(repeat apply tOp;intro _;simp only[List.length_map,hget,h0,g0,z0,h131,hy,hqq,ha,hb,hw,go_sem];rfl);rfl;simp only[go_sem];rfl|(with_reducible apply t1);rfl;trivial|(with_reducible apply t0);rfl;trivial
        exact ih
     |false =>
      cases hg:growsR y with
      |true =>
       rw[hv] at h131;rw[hg] at hy;have hbad:badR nm y=true:=by simp[badR,hq,hqq,hv,ha,hb,hg]
       simp only[hbad,Bool.true_or,cond_true];iterate 7 apply Exists.intro
       refine tJ rfl ?_;repeat first|with_reducible constructor|(with_reducible apply tG);kernel_rfl;intro _ _;(repeat apply tOp;intro _;simp only[List.length_map,hget,h0,g0,z0,h131,hy,hqq,ha,hb,go_sem];rfl);rfl;simp only[go_sem];rfl|(with_reducible apply t1);rfl;trivial
       exact tlE;all_goals exact .dead
      |false =>
       rw[hv] at h131;rw[hg] at hy;have hbad:badR nm y=false:=by simp[badR,hq,hqq,hv,ha,hb,hg]
       simp only[hbad,Bool.false_or];refine ⟨s0,s1,s2,s3,s4,s9,s48,?_⟩;cases hr:ys.any (badR nm)
       all_goals
        rw[hr] at ih;simp only[cond_true,cond_false] at ih ⊢;refine tJ rfl ?_;repeat first|with_reducible constructor|(with_reducible apply tG);kernel_rfl;intro _ _;(repeat apply tOp;intro _;simp only[List.length_map,hget,h0,g0,z0,h131,hy,hqq,ha,hb,hw,go_sem];rfl);rfl;simp only[go_sem];rfl|(with_reducible apply t1);rfl;trivial|(with_reducible apply t0);rfl;trivial
        exact ih
theorem c81:∀ (m:Nat) (t:TyD),t.size < m→m≤big→neD t=true→∀ (T:Sto),CF kd (.fn 81) [.val t.enc] T=some (.ret (.val (.bool (!growsR t))),T):=by
 intro m;induction m with
 |zero=>intro t h;omega
 |succ m ih =>
  intro t hs hm hn T;have hlen:=t.args_len;obtain ⟨s0,s1,s2,s3,s4,s9,s48,hl⟩:=loop81 (kd:=kd) t.name T t.args [] (by simp only[List.nil_append];simp only[big] at hm ⊢;omega) (fun x hx=>by have:=TyD.args_size hx;simp only[big] at hm ⊢;omega) (fun x hx=>neD_args hn hx) (fun x hx=>ih x (by have:=TyD.args_size hx;omega) (by omega) (neD_args hn hx) T);simp only[List.nil_append,List.length_nil] at hl;have e0:((0:Nat):Int)=0:=rfl;rw[e0] at hl;rw[growsR_eq,t.enc_eq];cases hr:t.args.any (badR t.name)
  all_goals
   rw[hr] at hl;rw[show (t.args.any fun a=>((!(t.name==[45,62])&&!(t.name==[44]))&&(!qB a.name&&hasVarD qB allB a))||growsR a)=_ from hr];simp only[cond_true,cond_false,Bool.not_true,Bool.not_false] at hl ⊢;apply tA;rfl;rfl;exact Tryz.func81;rfl;rfl;simp only[go_sem];rfl;refine tQ ?_;repeat first|with_reducible constructor|(with_reducible apply tG);kernel_rfl;intro _ _;(repeat apply tOp;intro _;simp only[go_sem];rfl);rfl;simp only[go_sem];rfl|(with_reducible apply tM);assumption
   exact fin0 rfl
end Go.Proofs.YtkmnkiekmlcfdaaGreatDoor
