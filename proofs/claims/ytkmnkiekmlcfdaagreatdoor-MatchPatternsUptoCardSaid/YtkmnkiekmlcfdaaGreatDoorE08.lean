/- Part E08 of the proof of one law of the program. -/
import Derived.Test.YtkmnkiekmlcfdaaGreatDoorE07
set_option linter.all false
namespace Go.Proofs.YtkmnkiekmlcfdaaGreatDoor
open Go.AM
set_option maxRecDepth 100000
set_option maxHeartbeats 4000000
variable {kd:List UInt8→Int}
mutual
def formedD (nm:List UInt8→Bool) (ds:List DaD) (t:TyD) (p:PaD):Bool :=
 if p.kind==1 then p.name==[]&&((p.args.length:Nat):Int)==0
 else if p.kind==2 then nm p.name&&((p.args.length:Nat):Int)==0
 else if p.kind==3 then
  match (consD ds t).find? (fun c=>c.name==p.name) with
  |none=>false
  |some c=>if ((c.args.length:Nat):Int) != ((p.args.length:Nat):Int) then false else formedL nm ds c.args p.args
 else false
termination_by p.size
decreasing_by cases p;simp only[PaD.args,PaD.size];omega
def formedL (nm:List UInt8→Bool) (ds:List DaD) (ts:List TyD) (l:List PaD):Bool :=
 match l with
 |[]=>true
 |a::l=>match ts with
  |[]=>false
  |t::ts=>formedD nm ds t a&&formedL nm ds ts l
termination_by PaD.sizes l
decreasing_by
 ·simp only[PaD.sizes];omega
 ·simp only[PaD.sizes];omega
end
theorem formedL_nil (nm:List UInt8→Bool) (ds:List DaD) (ts:List TyD):formedL nm ds ts []=true:=by rw[formedL]
theorem formedL_cons (nm:List UInt8→Bool) (ds:List DaD) (t:TyD) (ts:List TyD) (a:PaD) (l:List PaD):formedL nm ds (t::ts) (a::l)=(formedD nm ds t a&&formedL nm ds ts l):=by rw[formedL]
theorem loop101b (ds:List DaD) (nmc:List UInt8) (sto:Sto) (ys:List PaD):∀ (pre:List PaD) (tpre ts:List TyD),tpre.length=pre.length→ts.length=ys.length→(pre++ys).length < big →
  (∀ y∈ys,∀ t:TyD,CF kd (.fn 101) [.val (.slice (ds.map DaD.enc)),.val t.enc,.val y.enc] sto=some (.ret (.val (.bool (formedD (isK kd 2) ds t y))),sto)) →
  ∃ s0 s1 s2 s4 s5 s6 s8 s9 s10 s12 s13 s24 s35 s39 s40 s41 s42 s49 s56 s58 s59 s60 s61 s73,LP kd 101 (loopOf Tryz.f101 1) ⟨[.val (.slice (ds.map DaD.enc)),.dead,.dead,.dead,.dead,.dead,.box [.val (.str nmc),.val (.slice ((tpre++ts).map TyD.enc))],.dead,.dead,.dead,.dead,.dead,.dead,.dead,.dead,.dead,.dead,.dead,.dead,.val (.slice ((pre++ys).map PaD.enc)),.val (.int .i64 ((pre++ys).length:Nat)),.val (.int .i64 (pre.length:Nat)),.dead,.dead],sto⟩ =
   bif formedL (isK kd 2) ds ts ys then some (.exit 3,⟨[s0,s1,s2,s4,s5,s6,s8,s9,s10,s12,s13,s24,s35,s39,s40,s41,s42,s49,s56,s58,s59,s60,s61,s73],sto⟩) else some (.ret,⟨[s0,s1,s2,s4,s5,.val (.bool false),s8,s9,s10,s12,s13,s24,s35,s39,s40,s41,s42,s49,s56,s58,s59,s60,s61,s73],sto⟩):=by
 induction ys with
 |nil =>
  intro pre tpre ts ht1 ht2 h3 h2;have hlt:=geI pre;simp only[formedL_nil,cond_true,List.append_nil];iterate 24 apply Exists.intro
  refine tJ rfl ?_;repeat first|with_reducible constructor|(with_reducible apply tG);kernel_rfl;intro _ _;(repeat apply tOp;intro _;simp only[go_sem];rfl);rfl;simp only[go_sem];rfl|(with_reducible apply t0);rfl;trivial
  exact tlX;all_goals exact .dead
 |cons y ys ih =>
  intro pre tpre ts ht1 ht2 h3 h2;cases ts with
  |nil=>simp at ht2
  |cons t ts =>
   have hget:=getI PaD.enc pre ys y;have hget2:=getI TyD.enc tpre ts t;rw[ht1] at hget2;have hlt:=ltI pre ys y;have h0:=zI pre.length;have hw:=wL pre ys y h3;have hc:=h2 y (by simp) t;rw[y.enc_eq] at hget hc;rw[t.enc_eq] at hget2 hc;rw[formedL_cons];cases hp:formedD (isK kd 2) ds t y with
   |false =>
    rw[hp] at hc;simp only[Bool.false_and,cond_false];iterate 24 apply Exists.intro
    refine tJ rfl ?_;repeat first|with_reducible constructor|(with_reducible apply tG);kernel_rfl;intro _ _;(repeat apply tOp;intro _;simp only[hget,hget2,h0,hc,go_sem];rfl);rfl;simp only[go_sem];rfl|(with_reducible apply t1);rfl;trivial
    exact tlE;all_goals exact .dead
   |true =>
    rw[hp] at hc;obtain ⟨s0,s1,s2,s4,s5,s6,s8,s9,s10,s12,s13,s24,s35,s39,s40,s41,s42,s49,s56,s58,s59,s60,s61,s73,ih⟩:=ih (pre++[y]) (tpre++[t]) ts (by simp [ht1]) (by simpa using ht2) (by simpa using h3) (fun x hx=>h2 x (by simp [hx]));simp only[List.append_assoc,List.singleton_append] at ih;simp only[Bool.true_and];refine ⟨s0,s1,s2,s4,s5,s6,s8,s9,s10,s12,s13,s24,s35,s39,s40,s41,s42,s49,s56,s58,s59,s60,s61,s73,?_⟩;cases hz:formedL (isK kd 2) ds ts ys with
    |true =>
     rw[hz] at ih;simp only[cond_true] at ih ⊢;refine tJ rfl ?_;repeat first|with_reducible constructor|(with_reducible apply tG);kernel_rfl;intro _ _;(repeat apply tOp;intro _;simp only[hget,hget2,h0,hc,hw,go_sem];rfl);rfl;simp only[go_sem];rfl|(with_reducible apply t1);rfl;trivial|(with_reducible apply t0);rfl;trivial
     exact ih
    |false =>
     rw[hz] at ih;simp only[cond_false] at ih ⊢;refine tJ rfl ?_;repeat first|with_reducible constructor|(with_reducible apply tG);kernel_rfl;intro _ _;(repeat apply tOp;intro _;simp only[hget,hget2,h0,hc,hw,go_sem];rfl);rfl;simp only[go_sem];rfl|(with_reducible apply t1);rfl;trivial|(with_reducible apply t0);rfl;trivial
     exact ih
theorem loop101a (ds:List DaD) (p:PaD) (hp3:p.size < big) (sto:Sto) (ys:List CoD):∀ (pre:List CoD),(pre++ys).length < big →
  (∀ y∈p.args,∀ t:TyD,CF kd (.fn 101) [.val (.slice (ds.map DaD.enc)),.val t.enc,.val y.enc] sto=some (.ret (.val (.bool (formedD (isK kd 2) ds t y))),sto)) →
  ∃ s0 s1 s2 s4 s5 s6 s8 s9 s10 s12 s13 s24 s35 s39 s40 s41 s42 s49 s56 s58 s59 s60 s61 s73,LP kd 101 (loopOf Tryz.f101 0) ⟨[.val (.slice (ds.map DaD.enc)),.dead,.dead,.dead,.box [.val (.int .i64 p.kind),.val (.str p.name),.val (.slice (p.args.map PaD.enc))],.dead,.dead,.dead,.dead,.dead,.dead,.dead,.dead,.val (.slice ((pre++ys).map CoD.enc)),.val (.int .i64 ((pre++ys).length:Nat)),.val (.int .i64 (pre.length:Nat)),.dead,.dead,.dead,.dead,.dead,.dead,.dead,.dead],sto⟩ =
   match ys.find? (fun c=>c.name==p.name) with
   |none=>some (.exit 1,⟨[s0,s1,s2,s4,s5,s6,s8,s9,s10,s12,s13,s24,s35,s39,s40,s41,s42,s49,s56,s58,s59,s60,s61,s73],sto⟩)
   |some c=>some (.ret,⟨[s0,s1,s2,s4,s5,.val (.bool (if ((c.args.length:Nat):Int) != ((p.args.length:Nat):Int) then false else formedL (isK kd 2) ds c.args p.args)),s8,s9,s10,s12,s13,s24,s35,s39,s40,s41,s42,s49,s56,s58,s59,s60,s61,s73],sto⟩):=by
 induction ys with
 |nil =>
  intro pre h3 h2;have hlt:=geI pre;simp only[List.find?_nil,List.append_nil];iterate 24 apply Exists.intro
  refine tJ rfl ?_;repeat first|with_reducible constructor|(with_reducible apply tG);kernel_rfl;intro _ _;(repeat apply tOp;intro _;simp only[go_sem];rfl);rfl;simp only[go_sem];rfl|(with_reducible apply t0);rfl;trivial
  exact tlX;all_goals exact .dead
 |cons y ys ih =>
  intro pre h3 h2;have hget:=getI CoD.enc pre ys y;rw[y.enc_eq] at hget;have hlt:=ltI pre ys y;have h0:=zI pre.length;have hw:=wL pre ys y h3;rw[List.find?_cons];cases hq:(y.name==p.name) with
  |false =>
   obtain ⟨s0,s1,s2,s4,s5,s6,s8,s9,s10,s12,s13,s24,s35,s39,s40,s41,s42,s49,s56,s58,s59,s60,s61,s73,ih⟩:=ih (pre++[y]) (by simpa using h3) h2;simp only[List.append_assoc,List.singleton_append] at ih;refine ⟨s0,s1,s2,s4,s5,s6,s8,s9,s10,s12,s13,s24,s35,s39,s40,s41,s42,s49,s56,s58,s59,s60,s61,s73,?_⟩;cases hz:ys.find? (fun c=>c.name==p.name) with
   |none =>
    rw[hz] at ih;simp only at ih ⊢;refine tJ rfl ?_;repeat first|with_reducible constructor|(with_reducible apply tG);kernel_rfl;intro _ _;(repeat apply tOp;intro _;simp only[hget,h0,go_sem];rfl);rfl;simp only[go_sem];rfl|(with_reducible apply t1);rfl;trivial
    (with_reducible apply tT);simp only[go_sem];rfl;simp [hq];refine tQ ?_;repeat first|with_reducible constructor|(with_reducible apply tG);kernel_rfl;intro _ _;(repeat apply tOp;intro _;simp only[hw,go_sem];rfl);rfl;simp only[go_sem];rfl
    exact ih
   |some c =>
    rw[hz] at ih;simp only at ih ⊢;refine tJ rfl ?_;repeat first|with_reducible constructor|(with_reducible apply tG);kernel_rfl;intro _ _;(repeat apply tOp;intro _;simp only[hget,h0,go_sem];rfl);rfl;simp only[go_sem];rfl|(with_reducible apply t1);rfl;trivial
    (with_reducible apply tT);simp only[go_sem];rfl;simp [hq];refine tQ ?_;repeat first|with_reducible constructor|(with_reducible apply tG);kernel_rfl;intro _ _;(repeat apply tOp;intro _;simp only[hw,go_sem];rfl);rfl;simp only[go_sem];rfl
    exact ih
  |true =>
   simp only;cases hn:(((y.args.length:Nat):Int) != ((p.args.length:Nat):Int)) with
   |true =>
    simp only[if_true];iterate 24 apply Exists.intro
    refine tJ rfl ?_;repeat first|with_reducible constructor|(with_reducible apply tG);kernel_rfl;intro _ _;(repeat apply tOp;intro _;simp only[hget,h0,go_sem];rfl);rfl;simp only[go_sem];rfl|(with_reducible apply t1);rfl;trivial
    (with_reducible apply tF);simp only[go_sem];rfl;simp [hq];refine tQ ?_;repeat first|with_reducible constructor|(with_reducible apply tG);kernel_rfl;intro _ _;(repeat apply tOp;intro _;simp only[List.length_map,go_sem];rfl);rfl;simp only[go_sem];rfl|(with_reducible apply t1);rfl;trivial
    exact tlE;all_goals exact .dead
   |false =>
    simp only[Bool.false_eq_true,if_false];have hal:=p.args_len;obtain ⟨s0,s1,s2,s4,s5,s6,s8,s9,s10,s12,s13,s24,s35,s39,s40,s41,s42,s49,s56,s58,s59,s60,s61,s73,hin⟩:=loop101b (kd:=kd) ds y.name sto p.args [] [] y.args rfl (by simp at hn;omega) (by simp only[List.nil_append];omega) h2;simp only[List.nil_append,List.length_nil] at hin;have e0:((0:Nat):Int)=0:=rfl;rw[e0] at hin;cases hz:formedL (isK kd 2) ds y.args p.args with
    |true =>
     rw[hz] at hin;simp only[cond_true] at hin;iterate 24 apply Exists.intro
     refine tJ rfl ?_;repeat first|with_reducible constructor|(with_reducible apply tG);kernel_rfl;intro _ _;(repeat apply tOp;intro _;simp only[hget,h0,go_sem];rfl);rfl;simp only[go_sem];rfl|(with_reducible apply t1);rfl;trivial
     (with_reducible apply tF);simp only[go_sem];rfl;simp [hq];refine tQ ?_;repeat first|with_reducible constructor|(with_reducible apply tG);kernel_rfl;intro _ _;(repeat apply tOp;intro _;simp only[List.length_map,go_sem];rfl);rfl;simp only[go_sem];rfl|(with_reducible apply tM);assumption|(with_reducible apply t0);rfl;trivial
     exact tlE;all_goals exact .dead
    |false =>
     rw[hz] at hin;simp only[cond_false] at hin;iterate 24 apply Exists.intro
     refine tJ rfl ?_;repeat first|with_reducible constructor|(with_reducible apply tG);kernel_rfl;intro _ _;(repeat apply tOp;intro _;simp only[hget,h0,go_sem];rfl);rfl;simp only[go_sem];rfl|(with_reducible apply t1);rfl;trivial
     (with_reducible apply tF);simp only[go_sem];rfl;simp [hq];refine tQ ?_;repeat first|with_reducible constructor|(with_reducible apply tG);kernel_rfl;intro _ _;(repeat apply tOp;intro _;simp only[List.length_map,go_sem];rfl);rfl;simp only[go_sem];rfl|(with_reducible apply tM);assumption|(with_reducible apply t0);rfl;trivial
     exact tlE;all_goals exact .dead
theorem consD_len {ds:List DaD} (h:DsOk ds) (t:TyD):(consD ds t).length < big:=by
 simp only[consD];split
 ·simp [big]
 ·split
  ·simp [big]
  ·rename_i d hd
   have:=(findD_ok h hd).cons
   simp only[List.length_map];omega
theorem formedD_eq (nm:List UInt8→Bool) (ds:List DaD) (t:TyD) (p:PaD):formedD nm ds t p =
 if p.kind==1 then p.name==[]&&((p.args.length:Nat):Int)==0
 else if p.kind==2 then nm p.name&&((p.args.length:Nat):Int)==0
 else if p.kind==3 then
  match (consD ds t).find? (fun c=>c.name==p.name) with
  |none=>false
  |some c=>if ((c.args.length:Nat):Int) != ((p.args.length:Nat):Int) then false else formedL nm ds c.args p.args
 else false:=by rw[formedD]
theorem c101 {ds:List DaD} (h:DsOk ds):∀ (p:PaD),p.size < big→∀ (t:TyD) (sto:Sto),sto.lo≤sto.objs.length →
  CF kd (.fn 101) [.val (.slice (ds.map DaD.enc)),.val t.enc,.val p.enc] sto=some (.ret (.val (.bool (formedD (isK kd 2) ds t p))),sto):=by
 refine PaD.ind fun p ih hp t sto hlo=>?_
 have h73:=c73 (kd:=kd) h t sto hlo;have h155:=c155 (kd:=kd) p.name sto;obtain ⟨s0,s1,s2,s4,s5,s6,s8,s9,s10,s12,s13,s24,s35,s39,s40,s41,s42,s49,s56,s58,s59,s60,s61,s73,hl⟩:=loop101a (kd:=kd) ds p hp sto (consD ds t) [] (by simpa using consD_len h t) (fun y hy t'=>ih y hy (by have:=PaD.args_size hy;omega) t' sto hlo);simp only[List.nil_append,List.length_nil] at hl;have e0:((0:Nat):Int)=0:=rfl;rw[e0] at hl;rw[formedD_eq];rw[t.enc_eq] at h73 ⊢;rw[p.enc_eq];cases h1:(p.kind==1) with
 |true =>
  simp only[if_true];cases hm:(p.name==[]) with
  |true =>
   apply tA;rfl;rfl;exact Tryz.func101;rfl;rfl;simp only[go_sem];rfl;refine tQ ?_;repeat first|with_reducible constructor|(with_reducible apply tG);kernel_rfl;intro _ _;(repeat apply tOp;intro _;simp only[hm,List.length_map,go_sem];rfl);rfl;simp only[go_sem];rfl|(with_reducible apply t1);rfl;trivial
   exact fin0 rfl
  |false =>
   apply tA;rfl;rfl;exact Tryz.func101;rfl;rfl;simp only[go_sem];rfl;refine tQ ?_;repeat first|with_reducible constructor|(with_reducible apply tG);kernel_rfl;intro _ _;(repeat apply tOp;intro _;simp only[hm,List.length_map,go_sem];rfl);rfl;simp only[go_sem];rfl|(with_reducible apply t1);rfl;trivial
   exact fin0 rfl
 |false =>
  simp only[Bool.false_eq_true,if_false];cases h2:(p.kind==2) with
  |true =>
   simp only[if_true];cases hm:isK kd 2 p.name with
   |true =>
    rw[hm] at h155;apply tA;rfl;rfl;exact Tryz.func101;rfl;rfl;simp only[go_sem];rfl;refine tQ ?_;repeat first|with_reducible constructor|(with_reducible apply tG);kernel_rfl;intro _ _;(repeat apply tOp;intro _;simp only[h155,List.length_map,go_sem];rfl);rfl;simp only[go_sem];rfl|(with_reducible apply t1);rfl;trivial|(with_reducible apply t0);rfl;trivial
    exact fin0 rfl
   |false =>
    rw[hm] at h155;apply tA;rfl;rfl;exact Tryz.func101;rfl;rfl;simp only[go_sem];rfl;refine tQ ?_;repeat first|with_reducible constructor|(with_reducible apply tG);kernel_rfl;intro _ _;(repeat apply tOp;intro _;simp only[h155,List.length_map,go_sem];rfl);rfl;simp only[go_sem];rfl|(with_reducible apply t1);rfl;trivial|(with_reducible apply t0);rfl;trivial
    exact fin0 rfl
  |false =>
   simp only[Bool.false_eq_true,if_false];cases h3:(p.kind==3) with
   |false =>
    simp only[Bool.false_eq_true,if_false];apply tA;rfl;rfl;exact Tryz.func101;rfl;rfl;simp only[go_sem];rfl;refine tQ ?_;repeat first|with_reducible constructor|(with_reducible apply tG);kernel_rfl;intro _ _;(repeat apply tOp;intro _;simp only[go_sem];rfl);rfl;simp only[go_sem];rfl|(with_reducible apply t0);rfl;trivial
    exact fin0 rfl
   |true =>
    simp only[if_true];cases hz:(consD ds t).find? (fun c=>c.name==p.name) with
    |none =>
     rw[hz] at hl;simp only at hl ⊢;apply tA;rfl;rfl;exact Tryz.func101;rfl;rfl;simp only[go_sem];rfl;refine tQ ?_;repeat first|with_reducible constructor|(with_reducible apply tG);kernel_rfl;intro _ _;(repeat apply tOp;intro _;simp only[h73,List.length_map,go_sem];rfl);rfl;simp only[go_sem];rfl|(with_reducible apply tM);assumption|(with_reducible apply t1);rfl;trivial|(with_reducible apply t0);rfl;trivial
     exact fin0 rfl
    |some c =>
     rw[hz] at hl;simp only at hl ⊢;apply tA;rfl;rfl;exact Tryz.func101;rfl;rfl;simp only[go_sem];rfl;refine tQ ?_;repeat first|with_reducible constructor|(with_reducible apply tG);kernel_rfl;intro _ _;(repeat apply tOp;intro _;simp only[h73,List.length_map,go_sem];rfl);rfl;simp only[go_sem];rfl|(with_reducible apply tM);assumption|(with_reducible apply t1);rfl;trivial|(with_reducible apply t0);rfl;trivial
     exact fin0 rfl
end Go.Proofs.YtkmnkiekmlcfdaaGreatDoor
