/- Part S12 of the proof of one law of the program. -/
import Derived.Test.YtkmnkiekmlcfdaaGreatDoorS10
import Derived.Test.YtkmnkiekmlcfdaaGreatDoorE11
set_option linter.all false
namespace Go.Proofs.YtkmnkiekmlcfdaaGreatDoor
open Go.AM
section
open Go.AM
set_option maxRecDepth 100000
set_option maxHeartbeats 4000000
variable {kd:List UInt8→Int}
theorem loop34 (T:Sto) (ys:List (List UInt8)):∀ (zs pre pre2:List (List UInt8)) (same:Bool),pre2.length=pre.length→zs.length=ys.length→(pre++ys).length < big →
  ∃ s0 s1 s4 s6 s18,LP kd 34 (loopOf Tryz.f34 0) ⟨[.val (.slice ((pre++ys).map .str)),.val (.slice ((pre2++zs).map .str)),.dead,.val (.bool same),.val (.int .i64 (pre.length:Nat)),.dead],T⟩ =
   some (.exit 0,⟨[s0,s1,s4,.val (.bool (same&&ys==zs)),s6,s18],T⟩):=by
 induction ys with
 |nil =>
  intro zs pre pre2 same h1 h2 h3;have hz:zs=[]:=List.length_eq_zero_iff.1 h2;subst hz;have hlt:=geI pre;simp only[List.append_nil,show (([]:List (List UInt8))==[])=true from rfl,Bool.and_true];iterate 5 apply Exists.intro
  refine tJ rfl ?_;repeat first|with_reducible constructor|(with_reducible apply tG);kernel_rfl;intro _ _;(repeat apply tOp;intro _;simp only[List.length_map,hlt,go_sem];rfl);rfl;simp only[go_sem];rfl|(with_reducible apply t0);rfl;trivial
  exact tlX;all_goals exact .dead
 |cons y ys ih =>
  intro zs pre pre2 same h1 h2 h3;cases zs with
  |nil=>cases h2
  |cons z zs =>
   have hget:=getI AVal.str pre ys y;have hget2:=getI AVal.str pre2 zs z;rw[h1] at hget2;have hlt:=ltI pre ys y;have h0:=zI pre.length;have hw:=wL pre ys y h3;cases same with
   |false =>
    simp only[Bool.false_and];iterate 5 apply Exists.intro
    refine tJ rfl ?_;repeat first|with_reducible constructor|(with_reducible apply tG);kernel_rfl;intro _ _;(repeat apply tOp;intro _;simp only[List.length_map,hlt,go_sem];rfl);rfl;simp only[go_sem];rfl|(with_reducible apply t0);rfl;trivial
    exact tlX;all_goals exact .dead
   |true =>
    obtain ⟨s0,s1,s4,s6,s18,ih⟩:=ih zs (pre++[y]) (pre2++[z]) (y==z) (by simp [h1]) (by simpa using h2) (by simpa using h3);simp only[List.append_assoc,List.singleton_append] at ih;rw[show (true&&(y::ys)==(z::zs))=(y==z&&ys==zs) from rfl];refine ⟨s0,s1,s4,s6,s18,?_⟩;refine tJ rfl ?_;repeat first|with_reducible constructor|(with_reducible apply tG);kernel_rfl;intro _ _;(repeat apply tOp;intro _;simp only[List.length_map,hlt,hget,hget2,h0,hw,go_sem];rfl);rfl;simp only[go_sem];rfl|(with_reducible apply t1);rfl;trivial
    exact ih
theorem loop34f (T:Sto) (a b:List (List UInt8)):∃ s0 s1 s4 s6 s18,LP kd 34 (loopOf Tryz.f34 0) ⟨[.val (.slice (a.map .str)),.val (.slice (b.map .str)),.dead,.val (.bool false),.val (.int .i64 0),.dead],T⟩ =
   some (.exit 0,⟨[s0,s1,s4,.val (.bool false),s6,s18],T⟩):=by
 cases hlt:decide ((0:Int) < (a.length:Nat))
 all_goals
  iterate 5 apply Exists.intro
  refine tJ rfl ?_;repeat first|with_reducible constructor|(with_reducible apply tG);kernel_rfl;intro _ _;(repeat apply tOp;intro _;simp only[List.length_map,hlt,go_sem];rfl);rfl;simp only[go_sem];rfl|(with_reducible apply t0);rfl;trivial
  exact tlX;all_goals exact .dead
theorem c34 (a b:List (List UInt8)) (T:Sto) (h:a.length < big):CF kd (.fn 34) [.val (.slice (a.map .str)),.val (.slice (b.map .str))] T=some (.ret (.val (.bool (a==b))),T):=by
 cases hl:(((a.length:Nat):Int)==((b.length:Nat):Int)) with
 |true =>
  have hle:b.length=a.length:=by
   have:((a.length:Nat):Int)=((b.length:Nat):Int):=by simpa using hl
   omega
  obtain ⟨s0,s1,s4,s6,s18,hlp⟩:=loop34 (kd:=kd) T a b [] [] true rfl hle (by simpa using h);simp only[List.nil_append,List.length_nil,Bool.true_and] at hlp;have e0:((0:Nat):Int)=0:=rfl;rw[e0] at hlp;apply tA;rfl;rfl;exact Tryz.func34;rfl;rfl;simp only[go_sem];rfl;refine tQ ?_;repeat first|with_reducible constructor|(with_reducible apply tG);kernel_rfl;intro _ _;(repeat apply tOp;intro _;simp only[List.length_map,hl,go_sem];rfl);rfl;simp only[go_sem];rfl|(with_reducible apply tM);assumption
  exact fin0 rfl
 |false =>
  have hne:(a==b)=false:=by
   rw[beq_eq_false_iff_ne]
   rintro rfl
   simp at hl
  obtain ⟨s0,s1,s4,s6,s18,hlp⟩:=loop34f (kd:=kd) T a b;rw[hne];apply tA;rfl;rfl;exact Tryz.func34;rfl;rfl;simp only[go_sem];rfl;refine tQ ?_;repeat first|with_reducible constructor|(with_reducible apply tG);kernel_rfl;intro _ _;(repeat apply tOp;intro _;simp only[List.length_map,hl,go_sem];rfl);rfl;simp only[go_sem];rfl|(with_reducible apply tM);assumption
  exact fin0 rfl
def chkPat (vr cn nm:List UInt8→Bool) (ds:List DaD) (t:TyD) (p:PaD):Int:=bif chkT vr cn ds t then validD nm ds t p else 55
theorem c37 {ds:List DaD} (h:DsOk ds) (t:TyD) (ht:t.size < big) (p:PaD) (hp:p.size < big) (T:Sto) (hlo:T.lo≤T.objs.length) :
  CF kd (.fn 37) [.val (.slice (ds.map DaD.enc)),.val t.enc,.val p.enc] T=some (.ret (.val (.int .i64 (chkPat (isK kd 4) (isK kd 3) (isK kd 2) ds t p))),T):=by
 have h30:=c30 (kd:=kd) h t ht T hlo;have h55:=c55 (kd:=kd) h t p hp T hlo;unfold chkPat;rw[t.enc_eq] at h30 h55 ⊢;rw[p.enc_eq] at h55 ⊢;cases h1:chkT (isK kd 4) (isK kd 3) ds t with
 |false =>
  rw[h1] at h30;simp only[cond_false] at h30 ⊢;apply tA;rfl;rfl;exact Tryz.func37;rfl;rfl;simp only[go_sem];rfl;refine tQ ?_;repeat first|with_reducible constructor|(with_reducible apply tG);kernel_rfl;intro _ _;(repeat apply tOp;intro _;simp only[h30,show ((55:Int) != 0)=true from rfl,go_sem];rfl);rfl;simp only[go_sem];rfl|(with_reducible apply t1);rfl;trivial
  exact fin0 rfl
 |true =>
  rw[h1] at h30;simp only[cond_true] at h30 ⊢;apply tA;rfl;rfl;exact Tryz.func37;rfl;rfl;simp only[go_sem];rfl;refine tQ ?_;repeat first|with_reducible constructor|(with_reducible apply tG);kernel_rfl;intro _ _;(repeat apply tOp;intro _;simp only[h30,show ((0:Int) != 0)=false from rfl,h55,go_sem];rfl);rfl;simp only[go_sem];rfl|(with_reducible apply t0);rfl;trivial
  exact fin0 rfl
end
section
open Go.AM
set_option maxRecDepth 100000
set_option maxHeartbeats 4000000
variable {kd:List UInt8→Int}
def sN2:List AVal→Slot
 |[]=>.nl
 |a::l=>.own 2 (a::l)
def cap (l:List (List UInt8×List Nat)):List (List UInt8×List Nat):=l.take 120
theorem cap_app (a b c:List (List UInt8×List Nat)):cap (cap (a++b)++c)=cap (a++b++c):=by
 unfold cap;rw[List.take_append,List.take_take,List.length_take,List.take_append (l₁:=a++b)];rcases Nat.le_total (a++b).length 120 with h|h
 ·rw[Nat.min_eq_right h,Nat.min_self]
 ·rw[Nat.min_eq_left h,Nat.min_self]
  have h1:120 - 120=0:=rfl;have h2:120 - (a++b).length=0:=by omega
  rw[h1,h2]
theorem cap_full {a:List (List UInt8×List Nat)} (h:a.length=120) (b:List (List UInt8×List Nat)):cap (a++b)=a:=by
 unfold cap;rw[List.take_append,h,Nat.sub_self,List.take_zero,List.append_nil,List.take_of_length_le (by omega)]
theorem cap_id {a:List (List UInt8×List Nat)} (h:a.length≤120):cap a=a:=List.take_of_length_le h
theorem cap_len (a:List (List UInt8×List Nat)):(cap a).length≤120:=by unfold cap;rw[List.length_take];omega
theorem intsC (l:List Nat):((l.map intE).all fun y=>Nat.beq y.cells.length 1)=true:=by
 induction l with
 |nil=>rfl
 |cons a l ih=>rw[List.map_cons,List.all_cons,ih];rfl
theorem loop71 (nm:List UInt8) (path:List Nat) (hpl:path.length < 100000) (n:Nat) (hn:n+1 < big) (T:Sto) (ys:List PaD):∀ (pre:List PaD) (X:List (List UInt8×List Nat)),X.length≤120→(pre++ys).length < big →
  (∀ x∈ys,∀ (Y:List (List UInt8×List Nat)) (k:Nat),Y.length≤120→CF kd (.fn 71) [sN2 (Y.map slotE),.val x.enc,.val (.slice ((path++[k]).map intE)),.val (.int .i64 (n:Nat))] T=some (.ret (sN2 ((cap (Y++slotsD n x (path++[k]))).map slotE)),T)) →
  ∃ s1 s2 s3 s5 s8 s9 s16 s20 s42,LP kd 71 (loopOf Tryz.f71 0) ⟨[sN2 (X.map slotE),.dead,.val (.slice (path.map intE)),.val (.int .i64 (n+1:Nat)),.box [.val (.int .i64 3),.val (.str nm),.val (.slice ((pre++ys).map PaD.enc))],.dead,.val (.int .i64 (pre.length:Nat)),.dead,.dead,.dead],T⟩ =
   some (.exit 0,⟨[sN2 ((cap (X++slotsL (slotsD n) path pre.length ys)).map slotE),s1,s2,s3,s5,s8,s9,s16,s20,s42],T⟩):=by
 induction ys with
 |nil =>
  intro pre X hX h3 h4;have hlt:=geI pre;simp only[List.append_nil,slotsL];rw[cap_id hX];cases hx:X.map slotE
  all_goals
   simp only[sN2];iterate 9 apply Exists.intro
   refine tJ rfl ?_;repeat first|with_reducible constructor|(with_reducible apply tG);kernel_rfl;intro _ _;(repeat apply tOp;intro _;simp only[List.length_map,hlt,go_sem];rfl);rfl;simp only[go_sem];rfl|(with_reducible apply t0);rfl;trivial
   exact tlX;all_goals exact .dead
 |cons y ys ih =>
  intro pre X hX h3 h4;have hget:=getI PaD.enc pre ys y;have hlt:=ltI pre ys y;have h0:=zI pre.length;have hw:=wL pre ys y h3;have hxl:(X.map slotE).length=X.length:=List.length_map ..;by_cases hfull:X.length=120
  ·rw[cap_full hfull]
   have h120:decide (((X.length:Nat):Int) < 120)=false:=by rw[decide_eq_false_iff_not];omega
   rw[←hxl] at h120;cases hx:X.map slotE with
   |nil=>rw[hx] at hxl;simp at hxl;omega
   |cons a l =>
    rw[hx] at h120;simp only[List.length_cons] at h120;simp only[sN2];iterate 9 apply Exists.intro
    refine tJ rfl ?_;repeat first|with_reducible constructor|(with_reducible apply tG);kernel_rfl;intro _ _;(repeat apply tOp;intro _;simp only[List.length_map,hlt,h120,go_sem];rfl);rfl;simp only[go_sem];rfl|(with_reducible apply t0);rfl;trivial
    exact tlX;all_goals exact .dead
  ·have hlx:X.length < 120:=by omega
   have h120:decide (((X.length:Nat):Int) < 120)=true:=by rw[decide_eq_true_eq];omega
   rw[←hxl] at h120;have h33:((3:Int)==3)=true:=rfl;have hy:=h4 y (by simp) X pre.length hX;rw[y.enc_eq] at hget hy;have hwn:IntKind.i64.wrap (((n+1:Nat):Int) - 1)=(n:Nat):=by rw[wrapOk (by omega) (by simp only[big] at hn;omega)];omega
   have hcp:=intsC path;have hr1:Nat.ble path.length room=true:=Nat.ble_eq_true_of_le (by unfold room;omega);have hr2:Nat.ble (path.length+1) room=true:=Nat.ble_eq_true_of_le (by unfold room;omega);have b00:((0:Nat)==0)=true:=rfl;have b10:((1:Nat)==0)=false:=rfl;have b20:((2:Nat)==0)=false:=rfl;have b30:((3:Nat)==0)=false:=rfl;have b595:((59:Nat)==5)=false:=rfl;have hcc:=cap_len (X++slotsD n y (path++[pre.length]));obtain ⟨s1,s2,s3,s5,s8,s9,s16,s20,s42,ih⟩:=ih (pre++[y]) (cap (X++slotsD n y (path++[pre.length]))) hcc (by simpa using h3) (fun x hx=>h4 x (by simp [hx]));rw[cap_app,show (pre++[y]).length=pre.length+1 by simp] at ih;simp only[List.append_assoc,List.singleton_append] at ih;rw[show (pre++[y]).length=pre.length+1 by simp] at hw;simp only[slotsL];simp only[List.map_append,List.map_cons,List.map_nil,intE] at hy;refine ⟨s1,s2,s3,s5,s8,s9,s16,s20,s42,?_⟩;cases hzz:(cap (X++slotsD n y (path++[pre.length]))).map slotE
   all_goals
    rw[hzz] at hy ih;cases hx:X.map slotE
    all_goals
     rw[hx] at hy h120;simp only[List.length_cons,List.length_nil] at h120;have hz120:decide ((0:Int) < 120)=true:=rfl;simp only[sN2] at hy ih ⊢;refine tJ rfl ?_;repeat first|with_reducible constructor|(with_reducible apply tG);kernel_rfl;intro _ _;(repeat apply tOp;intro _;simp only[List.length_map,hlt,h120,h33,hz120,hget,h0,hcp,hr1,hr2,hwn,hy,b00,b10,b20,b30,b595,setElems,clean,flat,List.replicate,List.set_cons_zero,List.set_cons_succ,hw,go_sem];rfl);rfl;simp only[go_sem];rfl|(with_reducible apply t1);rfl;trivial
     exact ih
end
section
open Go.AM
set_option maxRecDepth 100000
set_option maxHeartbeats 4000000
variable {kd:List UInt8→Int}
theorem loop71x (k:Int) (hk:(k==3)=false) (nm:List UInt8) (l:List PaD) (a2 a3:Slot) (T:Sto) (s0:List AVal) :
  ∃ s1 s2 s3 s5 s8 s9 s16 s20 s42,LP kd 71 (loopOf Tryz.f71 0) ⟨[sN2 s0,.dead,a2,a3,.box [.val (.int .i64 k),.val (.str nm),.val (.slice (l.map PaD.enc))],.dead,.val (.int .i64 0),.dead,.dead,.dead],T⟩ =
   some (.exit 0,⟨[sN2 s0,s1,s2,s3,s5,s8,s9,s16,s20,s42],T⟩):=by
 cases hlt:decide ((0:Int) < (l.length:Nat))
 all_goals
  cases s0 with
  |nil =>
   have hz120:decide ((0:Int) < 120)=true:=rfl;simp only[sN2];iterate 9 apply Exists.intro
   refine tJ rfl ?_;repeat first|with_reducible constructor|(with_reducible apply tG);kernel_rfl;intro _ _;(repeat apply tOp;intro _;simp only[List.length_map,hlt,hk,hz120,go_sem];rfl);rfl;simp only[go_sem];rfl|(with_reducible apply t0);rfl;trivial
   exact tlX;all_goals exact .dead
  |cons a r =>
   simp only[sN2];cases hl:decide (((r.length+1:Nat):Int) < 120)
   all_goals
    iterate 9 apply Exists.intro
    refine tJ rfl ?_;repeat first|with_reducible constructor|(with_reducible apply tG);kernel_rfl;intro _ _;(repeat apply tOp;intro _;simp only[List.length_map,hlt,hk,hl,go_sem];rfl);rfl;simp only[go_sem];rfl|(with_reducible apply t0);rfl;trivial
    exact tlX;all_goals exact .dead
theorem c71:∀ (n:Nat) (p:PaD) (path:List Nat) (X:List (List UInt8×List Nat)),n < 1000→path.length+n < 100000→p.size < big→X.length≤120→∀ (T:Sto),
  CF kd (.fn 71) [sN2 (X.map slotE),.val p.enc,.val (.slice (path.map intE)),.val (.int .i64 (n:Nat))] T=some (.ret (sN2 ((cap (X++slotsD n p path)).map slotE)),T):=by
 intro n;induction n with
 |zero =>
  intro p path X hn hp hs hX T;have hb:((((0:Nat):Int)==0):Bool)=true:=rfl;rw[PaD.enc_eq];simp only[slotsD,List.append_nil];rw[cap_id hX];cases X.map slotE
  all_goals
   simp only[sN2];apply tA;rfl;rfl;exact Tryz.func71;rfl;rfl;simp only[go_sem];rfl;refine tQ ?_;repeat first|with_reducible constructor|(with_reducible apply tG);kernel_rfl;intro _ _;(repeat apply tOp;intro _;simp only[hb,go_sem];rfl);rfl;simp only[go_sem];rfl|(with_reducible apply t1);rfl;trivial
   exact fin0 rfl
 |succ n ih =>
  intro p path X hn hp hs hX T;have hb:((((n+1:Nat):Int)==0):Bool)=false:=by simp;omega
  have hxl:(X.map slotE).length=X.length:=List.length_map ..;rw[PaD.enc_eq];by_cases hfull:X.length=120
  ·rw[cap_full hfull]
   have h120:decide (((X.length:Nat):Int)≥120)=true:=by rw[decide_eq_true_eq];omega
   rw[←hxl] at h120;cases hx:X.map slotE with
   |nil=>rw[hx] at hxl;simp at hxl;omega
   |cons a r =>
    rw[hx] at h120;simp only[List.length_cons] at h120;simp only[sN2];apply tA;rfl;rfl;exact Tryz.func71;rfl;rfl;simp only[go_sem];rfl;refine tQ ?_;repeat first|with_reducible constructor|(with_reducible apply tG);kernel_rfl;intro _ _;(repeat apply tOp;intro _;simp only[hb,h120,go_sem];rfl);rfl;simp only[go_sem];rfl|(with_reducible apply t1);rfl;trivial
    exact fin0 rfl
  ·have hlx:X.length < 120:=by omega
   have h120:decide (((X.length:Nat):Int)≥120)=false:=by rw[decide_eq_false_iff_not];omega
   have hz120:decide ((0:Int)≥120)=false:=rfl;rw[←hxl] at h120;have e0:((0:Nat):Int)=0:=rfl;unfold slotsD;cases h2:(p.kind==2) with
   |true =>
    have hk3:(p.kind==3)=false:=by
     have:p.kind=2:=by simpa using h2
     rw[this];rfl
    simp only[if_true];have hcl:cap (X++[(p.name,path)])=X++[(p.name,path)]:=cap_id (by simp;omega);rw[hcl];have hr:Nat.ble ((X.map slotE).length+1) room=true:=by rw[hxl];exact Nat.ble_eq_true_of_le (by unfold room;omega)
    simp only[List.map_append,List.map_cons,List.map_nil,slotE];cases hx:X.map slotE
    all_goals
     rw[hx] at h120 hr;simp only[List.length_cons,List.length_nil] at h120 hr
    ·obtain ⟨s1,s2,s3,s5,s8,s9,s16,s20,s42,hl⟩:=loop71x (kd:=kd) p.kind hk3 p.name p.args (.val (.slice (path.map intE))) (.val (.int .i64 (n+1:Nat))) T [.agg [.str p.name,.slice (path.map intE)]]
     simp only[hx,sN2,List.nil_append] at hl ⊢;apply tA;rfl;rfl;exact Tryz.func71;rfl;rfl;simp only[go_sem];rfl;refine tQ ?_;repeat first|with_reducible constructor|(with_reducible apply tG);kernel_rfl;intro _ _;(repeat apply tOp;intro _;simp only[hb,hz120,h120,hr,setElems,clean,flat,List.replicate,List.set_cons_zero,List.set_cons_succ,go_sem];rfl);rfl;simp only[go_sem];rfl|(with_reducible apply tM);assumption|(with_reducible apply t1);rfl;trivial|(with_reducible apply t0);rfl;trivial
     exact fin0 rfl
    ·rename_i a r
     obtain ⟨s1,s2,s3,s5,s8,s9,s16,s20,s42,hl⟩:=loop71x (kd:=kd) p.kind hk3 p.name p.args (.val (.slice (path.map intE))) (.val (.int .i64 (n+1:Nat))) T (a::r++[.agg [.str p.name,.slice (path.map intE)]]);simp only[hx,sN2,List.cons_append] at hl ⊢;apply tA;rfl;rfl;exact Tryz.func71;rfl;rfl;simp only[go_sem];rfl;refine tQ ?_;repeat first|with_reducible constructor|(with_reducible apply tG);kernel_rfl;intro _ _;(repeat apply tOp;intro _;simp only[hb,hz120,h120,hr,setElems,clean,flat,List.replicate,List.set_cons_zero,List.set_cons_succ,go_sem];rfl);rfl;simp only[go_sem];rfl|(with_reducible apply tM);assumption|(with_reducible apply t1);rfl;trivial|(with_reducible apply t0);rfl;trivial
     exact fin0 rfl
   |false =>
    simp only[Bool.false_eq_true,if_false];cases h3:(p.kind==3) with
    |false =>
     simp only[Bool.false_eq_true,if_false,List.append_nil];rw[cap_id hX];obtain ⟨s1,s2,s3,s5,s8,s9,s16,s20,s42,hl⟩:=loop71x (kd:=kd) p.kind h3 p.name p.args (.val (.slice (path.map intE))) (.val (.int .i64 (n+1:Nat))) T (X.map slotE);cases hx:X.map slotE
     all_goals
      rw[hx] at h120 hl;simp only[List.length_cons,List.length_nil] at h120;simp only[sN2] at hl ⊢;apply tA;rfl;rfl;exact Tryz.func71;rfl;rfl;simp only[go_sem];rfl;refine tQ ?_;repeat first|with_reducible constructor|(with_reducible apply tG);kernel_rfl;intro _ _;(repeat apply tOp;intro _;simp only[hb,hz120,h120,go_sem];rfl);rfl;simp only[go_sem];rfl|(with_reducible apply tM);assumption|(with_reducible apply t0);rfl;trivial
      exact fin0 rfl
    |true =>
     simp only[if_true];have hk:p.kind=3:=by simpa using h3
     have hlen:=p.args_len;obtain ⟨s1,s2,s3,s5,s8,s9,s16,s20,s42,hl⟩:=loop71 (kd:=kd) p.name path (by omega) n (by simp only[big];omega) T p.args [] X hX (by simp only[List.nil_append];simp only[big] at hs ⊢;omega) (fun x hx Y k hY=>ih x (path++[k]) Y (by omega) (by simp;omega) (by have:=PaD.args_size hx;omega) hY T);simp only[List.nil_append,List.length_nil] at hl;rw[e0] at hl;rw[hk] at h2 ⊢;cases hzz:(cap (X++slotsL (slotsD n) path 0 p.args)).map slotE
     all_goals
      rw[hzz] at hl;cases hx:X.map slotE
      all_goals
       rw[hx] at h120 hl;simp only[List.length_cons,List.length_nil] at h120;simp only[sN2] at hl ⊢;apply tA;rfl;rfl;exact Tryz.func71;rfl;rfl;simp only[go_sem];rfl;refine tQ ?_;repeat first|with_reducible constructor|(with_reducible apply tG);kernel_rfl;intro _ _;(repeat apply tOp;intro _;simp only[hb,hz120,h120,go_sem];rfl);rfl;simp only[go_sem];rfl|(with_reducible apply tM);assumption|(with_reducible apply t0);rfl;trivial
       exact fin0 rfl
end
end Go.Proofs.YtkmnkiekmlcfdaaGreatDoor
