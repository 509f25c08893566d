/- Part E11 of the proof of one law of the program. -/
import Derived.Test.YtkmnkiekmlcfdaaGreatDoorE10
set_option linter.all false
namespace Go.Proofs.YtkmnkiekmlcfdaaGreatDoor
open Go.AM
set_option maxRecDepth 100000
set_option maxHeartbeats 1000000
variable {kd:List UInt8→Int}
def chkPsL (nm:List UInt8→Bool) (ds:List DaD) (t:TyD):List PaD→Int
 |[]=>0
 |p::l=>if deepD 60 p then 6 else if validD nm ds t p != 0 then validD nm ds t p else chkPsL nm ds t l
def chkPs (vr cn nm:List UInt8→Bool) (ds:List DaD) (t:TyD) (l:List PaD):Int :=
 if !chkT vr cn ds t then 55 else if manyD l then 2 else if ((l.length:Nat):Int)==0 then 50 else chkPsL nm ds t l
theorem loop39 {ds:List DaD} (h:DsOk ds) (t:TyD) (sto:Sto) (hlo:sto.lo≤sto.objs.length) (ys:List PaD):∀ (pre:List PaD),(pre++ys).length < big→(∀ y∈ys,y.size < big) →
  ∃ (b:Bool),(b=false→chkPsL (isK kd 2) ds t ys=0)∧∃ (s0 s1 s2 s4 s6 s7 s9 s10 s15 s17 s20 s24 s25 s26 s27 s31 s37:Slot),LP kd 39 (loopOf Tryz.f39 0) ⟨[.val (.slice (ds.map DaD.enc)),.dead,.dead,.box [.val (.str t.name),.val (.slice (t.args.map TyD.enc))],.dead,.dead,.dead,.dead,.dead,.dead,.dead,.val (.slice ((pre++ys).map PaD.enc)),.val (.int .i64 ((pre++ys).length:Nat)),.val (.int .i64 (pre.length:Nat)),.dead,.dead,.dead],sto⟩ =
   bif b then some (.ret,⟨[s0,s1,s2,s4,.val (.int .i64 (chkPsL (isK kd 2) ds t ys)),s7,s9,s10,s15,s17,s20,s24,s25,s26,s27,s31,s37],sto⟩) else some (.exit 1,⟨[s0,s1,s2,s4,s6,s7,s9,s10,s15,s17,s20,s24,s25,s26,s27,s31,s37],sto⟩):=by
 induction ys with
 |nil =>
  intro pre h3 h2;have hlt:=geI pre;simp only[chkPsL,List.append_nil];refine ⟨false,fun _=>by trivial,?_⟩;simp only[cond_false];iterate 17 apply Exists.intro
  refine tJ rfl ?_;repeat first|with_reducible constructor|(with_reducible apply tG);kernel_rfl;intro _ _;(repeat apply tOp;intro _;simp only[go_sem];rfl);rfl;simp only[go_sem];rfl|(with_reducible apply t0);rfl;trivial
  exact tlX;all_goals exact .dead
 |cons y ys ih =>
  intro pre h3 h2;have hget:=getI PaD.enc pre ys y;have hlt:=ltI pre ys y;have h0:=zI pre.length;have hw:=wL pre ys y h3;have hy:=h2 y (by simp);have h83:=c83 (kd:=kd) 60 (by simp [big]) y sto hy;have e60:((60:Nat):Int)=60:=rfl;rw[e60] at h83;have h55:=c55 (kd:=kd) h t y hy sto hlo;rw[y.enc_eq] at hget h83 h55;rw[t.enc_eq] at h55;simp only[chkPsL];cases g1:deepD 60 y with
  |true =>
   rw[g1] at h83;simp only[if_true];refine ⟨true,fun h=>by simp at h,?_⟩;simp only[cond_true];iterate 17 apply Exists.intro
   refine tJ rfl ?_;repeat first|with_reducible constructor|(with_reducible apply tG);kernel_rfl;intro _ _;(repeat apply tOp;intro _;simp only[hget,h0,h83,go_sem];rfl);rfl;simp only[go_sem];rfl|(with_reducible apply t1);rfl;trivial
   exact tlE;all_goals exact .dead
  |false =>
   rw[g1] at h83;simp only[Bool.false_eq_true,if_false];cases g2:(validD (isK kd 2) ds t y != 0) with
   |true =>
    simp only[if_true];refine ⟨true,fun h=>by simp at h,?_⟩;simp only[cond_true];iterate 17 apply Exists.intro
    refine tJ rfl ?_;repeat first|with_reducible constructor|(with_reducible apply tG);kernel_rfl;intro _ _;(repeat apply tOp;intro _;simp only[hget,h0,h83,h55,go_sem];rfl);rfl;simp only[go_sem];rfl|(with_reducible apply t1);rfl;trivial|(with_reducible apply t0);rfl;trivial
    exact tlE;all_goals exact .dead
   |false =>
    simp only[Bool.false_eq_true,if_false];obtain ⟨b,hbz,s0,s1,s2,s4,s6,s7,s9,s10,s15,s17,s20,s24,s25,s26,s27,s31,s37,ih⟩:=ih (pre++[y]) (by simpa using h3) (fun x hx=>h2 x (by simp [hx]));simp only[List.append_assoc,List.singleton_append] at ih;refine ⟨b,hbz,s0,s1,s2,s4,s6,s7,s9,s10,s15,s17,s20,s24,s25,s26,s27,s31,s37,?_⟩;cases b with
    |true =>
     simp only[cond_true] at ih ⊢;refine tJ rfl ?_;repeat first|with_reducible constructor|(with_reducible apply tG);kernel_rfl;intro _ _;(repeat apply tOp;intro _;simp only[hget,h0,h83,h55,hw,go_sem];rfl);rfl;simp only[go_sem];rfl|(with_reducible apply t1);rfl;trivial|(with_reducible apply t0);rfl;trivial
     exact ih
    |false =>
     simp only[cond_false] at ih ⊢;refine tJ rfl ?_;repeat first|with_reducible constructor|(with_reducible apply tG);kernel_rfl;intro _ _;(repeat apply tOp;intro _;simp only[hget,h0,h83,h55,hw,go_sem];rfl);rfl;simp only[go_sem];rfl|(with_reducible apply t1);rfl;trivial|(with_reducible apply t0);rfl;trivial
     exact ih
theorem c39 {ds:List DaD} (h:DsOk ds) (t:TyD) (ht:t.size < big) (l:List PaD) (hl:PaD.sizes l+1 < big) (sto:Sto) (hlo:sto.lo≤sto.objs.length) :
  CF kd (.fn 39) [.val (.slice (ds.map DaD.enc)),.val t.enc,.val (.slice (l.map PaD.enc))] sto=some (.ret (.val (.int .i64 (chkPs (isK kd 4) (isK kd 3) (isK kd 2) ds t l))),sto):=by
 have h30:=c30 (kd:=kd) h t ht sto hlo;have h84:=c84 (kd:=kd) l sto hl;have hll:=PaD.sizes_len l;obtain ⟨b,hbz,s0,s1,s2,s4,s6,s7,s9,s10,s15,s17,s20,s24,s25,s26,s27,s31,s37,hlp⟩:=loop39 (kd:=kd) h t sto hlo l [] (by simp only[List.nil_append];omega) (fun y hy=>by have:=PaD.sizes_mem hy;omega);simp only[List.nil_append,List.length_nil] at hlp;have e0:((0:Nat):Int)=0:=rfl;rw[e0] at hlp;simp only[chkPs];rw[t.enc_eq] at h30 ⊢;cases g1:chkT (isK kd 4) (isK kd 3) ds t with
 |false =>
  rw[g1] at h30;simp only[cond_false] at h30;simp only[Bool.not_false,if_true];apply tA;rfl;rfl;exact Tryz.func39;rfl;rfl;simp only[go_sem];rfl;refine tQ ?_;repeat first|with_reducible constructor|(with_reducible apply tG);kernel_rfl;intro _ _;(repeat apply tOp;intro _;simp only[h30,go_sem];rfl);rfl;simp only[go_sem];rfl|(with_reducible apply t1);rfl;trivial
  exact fin0 rfl
 |true =>
  rw[g1] at h30;simp only[cond_true] at h30;simp only[Bool.not_true,Bool.false_eq_true,if_false];cases g2:manyD l with
  |true =>
   rw[g2] at h84;simp only[if_true];apply tA;rfl;rfl;exact Tryz.func39;rfl;rfl;simp only[go_sem];rfl;refine tQ ?_;repeat first|with_reducible constructor|(with_reducible apply tG);kernel_rfl;intro _ _;(repeat apply tOp;intro _;simp only[h30,h84,go_sem];rfl);rfl;simp only[go_sem];rfl|(with_reducible apply t1);rfl;trivial|(with_reducible apply t0);rfl;trivial
   exact fin0 rfl
  |false =>
   rw[g2] at h84;simp only[Bool.false_eq_true,if_false];cases g3:(((l.length:Nat):Int)==0) with
   |true =>
    simp only[if_true];apply tA;rfl;rfl;exact Tryz.func39;rfl;rfl;simp only[go_sem];rfl;refine tQ ?_;repeat first|with_reducible constructor|(with_reducible apply tG);kernel_rfl;intro _ _;(repeat apply tOp;intro _;simp only[h30,h84,List.length_map,go_sem];rfl);rfl;simp only[go_sem];rfl|(with_reducible apply t1);rfl;trivial|(with_reducible apply t0);rfl;trivial
    exact fin0 rfl
   |false =>
    simp only[Bool.false_eq_true,if_false];cases b with
    |true =>
     simp only[cond_true] at hlp;apply tA;rfl;rfl;exact Tryz.func39;rfl;rfl;simp only[go_sem];rfl;refine tQ ?_;repeat first|with_reducible constructor|(with_reducible apply tG);kernel_rfl;intro _ _;(repeat apply tOp;intro _;simp only[h30,h84,List.length_map,go_sem];rfl);rfl;simp only[go_sem];rfl|(with_reducible apply tM);assumption|(with_reducible apply t0);rfl;trivial
     exact fin0 rfl
    |false =>
     simp only[cond_false] at hlp;rw[hbz rfl];apply tA;rfl;rfl;exact Tryz.func39;rfl;rfl;simp only[go_sem];rfl;refine tQ ?_;repeat first|with_reducible constructor|(with_reducible apply tG);kernel_rfl;intro _ _;(repeat apply tOp;intro _;simp only[h30,h84,List.length_map,go_sem];rfl);rfl;simp only[go_sem];rfl|(with_reducible apply tM);assumption|(with_reducible apply t0);rfl;trivial
     exact fin0 rfl
end Go.Proofs.YtkmnkiekmlcfdaaGreatDoor
