/- Part S03 of the proof of one law of the program. -/
import Derived.Test.YtkmnkiekmlcfdaaGreatDoorS02
import Derived.Test.YtkmnkiekmlcfdaaGreatDoorE03
set_option linter.all false
namespace Go.Proofs.YtkmnkiekmlcfdaaGreatDoor
open Go.AM
section
open Go.AM
set_option maxRecDepth 100000
set_option maxHeartbeats 4000000
variable {kd:List UInt8→Int}
theorem loop86 (k:Int) (nm:List UInt8) (m:Nat) (hm:m+1 < big) (T:Sto) (ys:List PaD):∀ (pre:List PaD),(pre++ys).length < big →
  (∀ x∈ys,CF kd (.fn 86) [.val x.enc,.val (.int .i64 (m:Nat))] T=some (.ret (.val (.bool (deepD m x))),T)) →
  ∃ s0 s1 s2 s4 s5 s7 s12 s22,LP kd 86 (loopOf Tryz.f86 0) ⟨[.dead,.val (.int .i64 (m+1:Nat)),.box [.val (.int .i64 k),.val (.str nm),.val (.slice ((pre++ys).map PaD.enc))],.dead,.val (.int .i64 (pre.length:Nat)),.dead,.dead,.dead],T⟩ =
   bif ys.any (fun y=>deepD m y) then some (.ret,⟨[s0,s1,s2,.val (.bool true),s5,s7,s12,s22],T⟩) else some (.exit 0,⟨[s0,s1,s2,s4,s5,s7,s12,s22],T⟩):=by
 induction ys with
 |nil =>
  intro pre h3 h86;have hlt:=geI pre;simp only[List.append_nil,List.any_nil,cond_false];iterate 8 apply Exists.intro
  refine tJ rfl ?_;repeat first|with_reducible constructor|(with_reducible apply tG);kernel_rfl;intro _ _;(repeat apply tOp;intro _;simp only[List.length_map,go_sem];rfl);rfl;simp only[go_sem];rfl|(with_reducible apply t0);rfl;trivial
  exact tlX;all_goals exact .dead
 |cons y ys ih =>
  intro pre h3 h86;have hget:=getI PaD.enc pre ys y;have h86y:=h86 y (by simp);rw[y.enc_eq] at hget h86y;have hlt:=ltI pre ys y;have h0:=zI pre.length;have hw:=wL pre ys y h3;have hwm:IntKind.i64.wrap (((m+1:Nat):Int) - 1)=(m:Nat):=by rw[wrapOk (by omega) (by simp only[big] at hm;omega)];omega
  simp only[List.any_cons];cases hp:(deepD m y) with
  |true =>
   rw[hp] at h86y;simp only[Bool.true_or,cond_true];iterate 8 apply Exists.intro
   refine tJ rfl ?_;repeat first|with_reducible constructor|(with_reducible apply tG);kernel_rfl;intro _ _;(repeat apply tOp;intro _;simp only[List.length_map,hget,h0,h86y,hwm,go_sem];rfl);rfl;simp only[go_sem];rfl|(with_reducible apply t1);rfl;trivial
   exact tlE;all_goals exact .dead
  |false =>
   rw[hp] at h86y;obtain ⟨s0,s1,s2,s4,s5,s7,s12,s22,ih⟩:=ih (pre++[y]) (by simpa using h3) (fun x hx=>h86 x (by simp [hx]));simp only[List.append_assoc,List.singleton_append] at ih;simp only[Bool.false_or];refine ⟨s0,s1,s2,s4,s5,s7,s12,s22,?_⟩;cases hz:ys.any (fun y=>deepD m y)
   all_goals
    rw[hz] at ih;simp only[cond_true,cond_false] at ih ⊢;refine tJ rfl ?_;repeat first|with_reducible constructor|(with_reducible apply tG);kernel_rfl;intro _ _;(repeat apply tOp;intro _;simp only[List.length_map,hget,h0,h86y,hwm,hw,go_sem];rfl);rfl;simp only[go_sem];rfl|(with_reducible apply t1);rfl;trivial|(with_reducible apply t0);rfl;trivial
    exact ih
theorem c86 (m:Nat):m < big→∀ (p:PaD) (T:Sto),p.size < big→CF kd (.fn 86) [.val p.enc,.val (.int .i64 (m:Nat))] T=some (.ret (.val (.bool (deepD m p))),T):=by
 induction m with
 |zero =>
  intro hm p T hp;have hb:((((0:Nat):Int)==0):Bool)=true:=rfl;rw[PaD.enc_eq];apply tA;rfl;rfl;exact Tryz.func86;rfl;rfl;simp only[go_sem];rfl;refine tQ ?_;repeat first|with_reducible constructor|(with_reducible apply tG);kernel_rfl;intro _ _;(repeat apply tOp;intro _;simp only[hb,go_sem];rfl);rfl;simp only[go_sem];rfl|(with_reducible apply t1);rfl;trivial
  exact fin0 rfl
 |succ m ih =>
  intro hm p T hp;have hb:((((m+1:Nat):Int)==0):Bool)=false:=by simp;omega
  obtain ⟨s0,s1,s2,s4,s5,s7,s12,s22,hl⟩:=loop86 (kd:=kd) p.kind p.name m hm T p.args [] (by have:=p.args_len;simp only[List.nil_append];simp only[big] at hp ⊢;omega) (fun x hx=>ih (by omega) x T (by have:=PaD.args_size hx;omega));simp only[List.nil_append,List.length_nil] at hl;have e0:((0:Nat):Int)=0:=rfl;rw[e0] at hl;rw[PaD.enc_eq,deepD];cases hz:p.args.any (deepD m)
  all_goals
   rw[show (p.args.any fun y=>deepD m y)=_ from hz] at hl;simp only[cond_true,cond_false] at hl;apply tA;rfl;rfl;exact Tryz.func86;rfl;rfl;simp only[go_sem];rfl;refine tQ ?_;repeat first|with_reducible constructor|(with_reducible apply tG);kernel_rfl;intro _ _;(repeat apply tOp;intro _;simp only[hb,go_sem];rfl);rfl;simp only[go_sem];rfl|(with_reducible apply tM);assumption|(with_reducible apply t0);rfl;trivial
   exact fin0 rfl
mutual
def countR:PaD→Int→Int
 |.mk _ _ l,most=>countRs l most 1
def countRs:List PaD→Int→Int→Int
 |[],_,n=>n
 |a::l,most,n=>bif decide (n≤most) then countRs l most (n+countR a (most - n)) else n
end
mutual
theorem countR_le:∀ (p:PaD) (most:Int),0≤most→1≤countR p most∧countR p most≤most+1
 |.mk _ _ l,most,h=>countRs_le l most 1 h (by omega)
theorem countRs_le:∀ (l:List PaD) (most n:Int),0≤most→n≤most+1→n≤countRs l most n∧countRs l most n≤most+1
 |[],most,n,h,h1=>⟨Int.le_refl _,h1⟩
 |a::l,most,n,h,h1=>by
  unfold countRs;cases hc:decide (n≤most) with
  |false=>exact ⟨Int.le_refl _,h1⟩
  |true =>
   rw[decide_eq_true_eq] at hc;have h2:=countR_le a (most - n) (by omega);have h3:=countRs_le l most (n+countR a (most - n)) h (by omega);simp only[cond_true];exact ⟨by omega,h3.2⟩
end
theorem loop87 (k:Int) (nm:List UInt8) (most:Int) (hm0:0≤most) (hm1:most < 100000) (T:Sto) (ys:List PaD):∀ (pre:List PaD) (n:Int),0≤n→n≤most+1→(pre++ys).length < big →
  (∀ x∈ys,∀ m:Int,0≤m→m < 100000→CF kd (.fn 87) [.val x.enc,.val (.int .i64 m)] T=some (.ret (.val (.int .i64 (countR x m))),T)) →
  ∃ s0 s1 s2 s4 s6 s16,LP kd 87 (loopOf Tryz.f87 0) ⟨[.dead,.val (.int .i64 most),.box [.val (.int .i64 k),.val (.str nm),.val (.slice ((pre++ys).map PaD.enc))],.dead,.val (.int .i64 n),.val (.int .i64 (pre.length:Nat)),.dead],T⟩ =
   some (.exit 0,⟨[s0,s1,s2,s4,.val (.int .i64 (countRs ys most n)),s6,s16],T⟩):=by
 induction ys with
 |nil =>
  intro pre n h1 h2 h3 h4;have hlt:=geI pre;simp only[List.append_nil,countRs];iterate 6 apply Exists.intro
  refine tJ rfl ?_;repeat first|with_reducible constructor|(with_reducible apply tG);kernel_rfl;intro _ _;(repeat apply tOp;intro _;simp only[List.length_map,hlt,go_sem];rfl);rfl;simp only[go_sem];rfl|(with_reducible apply t0);rfl;trivial
  exact tlX;all_goals exact .dead
 |cons y ys ih =>
  intro pre n h1 h2 h3 h4;have hget:=getI PaD.enc pre ys y;have hlt:=ltI pre ys y;have h0:=zI pre.length;have hw:=wL pre ys y h3;unfold countRs;cases hc:decide (n≤most) with
  |false =>
   simp only[cond_false];iterate 6 apply Exists.intro
   refine tJ rfl ?_;repeat first|with_reducible constructor|(with_reducible apply tG);kernel_rfl;intro _ _;(repeat apply tOp;intro _;simp only[List.length_map,hlt,hc,go_sem];rfl);rfl;simp only[go_sem];rfl|(with_reducible apply t0);rfl;trivial
   exact tlX;all_goals exact .dead
  |true =>
   have hc':n≤most:=by simpa using hc
   have hcl:=countR_le y (most - n) (by omega);have hy:=h4 y (by simp) (most - n) (by omega) (by omega);have hw1:IntKind.i64.wrap (most - n)=most - n:=wrapOk (by omega) (by omega);have hw2:IntKind.i64.wrap (n+countR y (most - n))=n+countR y (most - n):=wrapOk (by omega) (by omega);obtain ⟨s0,s1,s2,s4,s6,s16,ih⟩:=ih (pre++[y]) (n+countR y (most - n)) (by omega) (by omega) (by simpa using h3) (fun x hx=>h4 x (by simp [hx]));simp only[List.append_assoc,List.singleton_append] at ih;simp only[cond_true];generalize hcc:countR y (most - n)=c at *;rw[y.enc_eq] at hget hy;refine ⟨s0,s1,s2,s4,s6,s16,?_⟩;refine tJ rfl ?_;repeat first|with_reducible constructor|(with_reducible apply tG);kernel_rfl;intro _ _;(repeat apply tOp;intro _;simp only[List.length_map,hlt,hc,hget,h0,hw1,hy,hw2,hw,go_sem];rfl);rfl;simp only[go_sem];rfl|(with_reducible apply t1);rfl;trivial
   exact ih
theorem c87:∀ (m:Nat) (p:PaD),p.size < m→m < big→∀ (most:Int) (T:Sto),0≤most→most < 100000→CF kd (.fn 87) [.val p.enc,.val (.int .i64 most)] T=some (.ret (.val (.int .i64 (countR p most))),T):=by
 intro m;induction m with
 |zero=>intro p h;omega
 |succ m ih =>
  intro p hp hm most T h0 h1;obtain ⟨s0,s1,s2,s4,s6,s16,hl⟩:=loop87 (kd:=kd) p.kind p.name most h0 h1 T p.args [] 1 (by omega) (by omega) (by have:=p.args_len;simp only[List.nil_append];simp only[big] at hm ⊢;omega) (fun x hx m' a b=>ih x (by have:=PaD.args_size hx;omega) (by omega) m' T a b);simp only[List.nil_append,List.length_nil] at hl;have e0:((0:Nat):Int)=0:=rfl;rw[e0] at hl;have hcr:countR p most=countRs p.args most 1:=by cases p;rfl
  rw[PaD.enc_eq,hcr];apply tA;rfl;rfl;exact Tryz.func87;rfl;rfl;simp only[go_sem];rfl;refine tQ ?_;repeat first|with_reducible constructor|(with_reducible apply tG);kernel_rfl;intro _ _;(repeat apply tOp;intro _;simp only[go_sem];rfl);rfl;simp only[go_sem];rfl|(with_reducible apply tM);assumption
  exact fin0 rfl
theorem loop88 (T:Sto) (ys:List PaD):∀ (pre:List PaD) (n:Int),0≤n→n≤121→(pre++ys).length < big→PaD.sizes ys+1 < big →
  ∃ s0 s2 s4 s12,LP kd 88 (loopOf Tryz.f88 0) ⟨[.val (.slice ((pre++ys).map PaD.enc)),.dead,.val (.int .i64 n),.val (.int .i64 (pre.length:Nat)),.dead],T⟩ =
   some (.exit 0,⟨[s0,s2,.val (.int .i64 (countRs ys 120 n)),s4,s12],T⟩):=by
 induction ys with
 |nil =>
  intro pre n h1 h2 h3 h4;have hlt:=geI pre;simp only[List.append_nil,countRs];iterate 4 apply Exists.intro
  refine tJ rfl ?_;repeat first|with_reducible constructor|(with_reducible apply tG);kernel_rfl;intro _ _;(repeat apply tOp;intro _;simp only[List.length_map,hlt,go_sem];rfl);rfl;simp only[go_sem];rfl|(with_reducible apply t0);rfl;trivial
  exact tlX;all_goals exact .dead
 |cons y ys ih =>
  intro pre n h1 h2 h3 h4;have hget:=getI PaD.enc pre ys y;have hlt:=ltI pre ys y;have h0:=zI pre.length;have hw:=wL pre ys y h3;have hsz:y.size < PaD.sizes (y::ys)∧PaD.sizes ys≤PaD.sizes (y::ys):=by simp only[PaD.sizes];omega
  unfold countRs;cases hc:decide (n≤120) with
  |false =>
   simp only[cond_false];iterate 4 apply Exists.intro
   refine tJ rfl ?_;repeat first|with_reducible constructor|(with_reducible apply tG);kernel_rfl;intro _ _;(repeat apply tOp;intro _;simp only[List.length_map,hlt,hc,go_sem];rfl);rfl;simp only[go_sem];rfl|(with_reducible apply t0);rfl;trivial
   exact tlX;all_goals exact .dead
  |true =>
   have hc':n≤120:=by simpa using hc
   have hcl:=countR_le y (120 - n) (by omega);have hy:=c87 (kd:=kd) _ y (Nat.lt_succ_self _) (by omega) (120 - n) T (by omega) (by omega);have hw1:IntKind.i64.wrap (120 - n)=120 - n:=wrapOk (by omega) (by omega);have hw2:IntKind.i64.wrap (n+countR y (120 - n))=n+countR y (120 - n):=wrapOk (by omega) (by omega);obtain ⟨s0,s2,s4,s12,ih⟩:=ih (pre++[y]) (n+countR y (120 - n)) (by omega) (by omega) (by simpa using h3) (by omega);simp only[List.append_assoc,List.singleton_append] at ih;simp only[cond_true];generalize hcc:countR y (120 - n)=c at *;rw[y.enc_eq] at hget hy;refine ⟨s0,s2,s4,s12,?_⟩;refine tJ rfl ?_;repeat first|with_reducible constructor|(with_reducible apply tG);kernel_rfl;intro _ _;(repeat apply tOp;intro _;simp only[List.length_map,hlt,hc,hget,h0,hw1,hy,hw2,hw,go_sem];rfl);rfl;simp only[go_sem];rfl|(with_reducible apply t1);rfl;trivial
   exact ih
theorem c88 (l:List PaD) (T:Sto) (hl:PaD.sizes l+1 < big):CF kd (.fn 88) [.val (.slice (l.map PaD.enc))] T=some (.ret (.val (.int .i64 (countRs l 120 0))),T):=by
 have hlen:=PaD.sizes_len l;obtain ⟨s0,s2,s4,s12,h⟩:=loop88 (kd:=kd) T l [] 0 (by omega) (by omega) (by simp only[List.nil_append];omega) hl;simp only[List.nil_append,List.length_nil] at h;have e0:((0:Nat):Int)=0:=rfl;rw[e0] at h;apply tA;rfl;rfl;exact Tryz.func88;rfl;rfl;simp only[go_sem];rfl;refine tQ ?_;repeat first|with_reducible constructor|(with_reducible apply tG);kernel_rfl;intro _ _;(repeat apply tOp;intro _;simp only[go_sem];rfl);rfl;simp only[go_sem];rfl|(with_reducible apply tM);assumption
 exact fin0 rfl
end
section
open Go.AM
set_option maxRecDepth 100000
set_option maxHeartbeats 4000000
variable {kd:List UInt8→Int}
def conAtI (v:List UInt8):List CoD→Nat→Int
 |[],_=>-1
 |c::cs,k=>bif c.name==v then (k:Nat) else conAtI v cs (k+1)
theorem conAtI_none (v:List UInt8):∀ (l:List CoD) (k:Nat),l.any (fun c=>c.name==v)=false→conAtI v l k=-1
 |[],_,_=>rfl
 |c::cs,k,h=>by
  rw[List.any_cons,Bool.or_eq_false_iff] at h;simp only[conAtI,h.1,cond_false];exact conAtI_none v cs _ h.2
theorem loop157 (v:List UInt8) (T:Sto) (ys:List CoD):∀ (pre:List CoD),(pre++ys).length < big →
  ∃ s0 s1 s4 s5 s9 s18,LP kd 157 (loopOf Tryz.f157 0) ⟨[.val (.slice ((pre++ys).map CoD.enc)),.val (.str v),.dead,.val (.int .i64 (pre.length:Nat)),.dead,.dead],T⟩ =
   bif ys.any (fun y=>y.name==v) then some (.ret,⟨[s0,s1,.val (.int .i64 (conAtI v ys pre.length)),s5,s9,s18],T⟩) else some (.exit 0,⟨[s0,s1,s4,s5,s9,s18],T⟩):=by
 induction ys with
 |nil =>
  intro pre h3;have hlt:=geI pre;simp only[List.append_nil,List.any_nil,cond_false];iterate 6 apply Exists.intro
  refine tJ rfl ?_;repeat first|with_reducible constructor|(with_reducible apply tG);kernel_rfl;intro _ _;(repeat apply tOp;intro _;simp only[List.length_map,go_sem];rfl);rfl;simp only[go_sem];rfl|(with_reducible apply t0);rfl;trivial
  exact tlX;all_goals exact .dead
 |cons y ys ih =>
  intro pre h3;have hget:=getI CoD.enc pre ys y;rw[y.enc_eq] at hget;have hlt:=ltI pre ys y;have h0:=zI pre.length;have hw:=wL pre ys y h3;simp only[List.any_cons];cases hp:(y.name==v) with
  |true =>
   simp only[Bool.true_or,cond_true,conAtI,hp];iterate 6 apply Exists.intro
   refine tJ rfl ?_;repeat first|with_reducible constructor|(with_reducible apply tG);kernel_rfl;intro _ _;(repeat apply tOp;intro _;simp only[List.length_map,hget,h0,go_sem];rfl);rfl;simp only[go_sem];rfl|(with_reducible apply t1);rfl;trivial
   exact tlE;all_goals exact .dead
  |false =>
   obtain ⟨s0,s1,s4,s5,s9,s18,ih⟩:=ih (pre++[y]) (by simpa using h3);simp only[List.append_assoc,List.singleton_append] at ih;rw[List.length_append,List.length_singleton] at hw;simp only[List.length_append,List.length_singleton] at ih;simp only[Bool.false_or,conAtI,hp,cond_false,Bool.false_eq_true,if_false];refine ⟨s0,s1,s4,s5,s9,s18,?_⟩;cases hz:ys.any (fun y=>y.name==v)
   all_goals
    rw[hz] at ih;simp only[cond_true,cond_false] at ih ⊢;refine tJ rfl ?_;repeat first|with_reducible constructor|(with_reducible apply tG);kernel_rfl;intro _ _;(repeat apply tOp;intro _;simp only[List.length_map,hget,h0,hw,go_sem];rfl);rfl;simp only[go_sem];rfl|(with_reducible apply t1);rfl;trivial|(with_reducible apply t0);rfl;trivial
    exact ih
theorem c157 (v:List UInt8) (l:List CoD) (T:Sto) (h:l.length < big):CF kd (.fn 157) [.val (.slice (l.map CoD.enc)),.val (.str v)] T=some (.ret (.val (.int .i64 (conAtI v l 0))),T):=by
 obtain ⟨s0,s1,s4,s5,s9,s18,hl⟩:=loop157 (kd:=kd) v T l [] (by simpa using h);simp only[List.nil_append,List.length_nil] at hl;have e0:((0:Nat):Int)=0:=rfl;rw[e0] at hl;cases hz:l.any (fun y=>y.name==v) with
 |false =>
  rw[conAtI_none v l 0 hz];rw[hz] at hl;simp only[cond_false] at hl;apply tA;rfl;rfl;exact Tryz.func157;rfl;rfl;simp only[go_sem];rfl;refine tQ ?_;repeat first|with_reducible constructor|(with_reducible apply tG);kernel_rfl;intro _ _;(repeat apply tOp;intro _;simp only[go_sem];rfl);rfl;simp only[go_sem];rfl|(with_reducible apply tM);assumption
  exact fin0 rfl
 |true =>
  rw[hz] at hl;simp only[cond_true] at hl;apply tA;rfl;rfl;exact Tryz.func157;rfl;rfl;simp only[go_sem];rfl;refine tQ ?_;repeat first|with_reducible constructor|(with_reducible apply tG);kernel_rfl;intro _ _;(repeat apply tOp;intro _;simp only[go_sem];rfl);rfl;simp only[go_sem];rfl|(with_reducible apply tM);assumption
  exact fin0 rfl
theorem c161 (T:Sto):CF kd (.fn 161) [] T=some (.ret (.val truthsD.enc),T):=by
 rw[truthsD_enc];apply tA;rfl;rfl;exact Tryz.func161;rfl;rfl;simp only[go_sem];rfl;refine tQ ?_;repeat first|with_reducible constructor|(with_reducible apply tG);kernel_rfl;intro _ _;(repeat apply tOp;intro _;simp only[setElems,clean,flat,List.replicate,List.set_cons_zero,List.set_cons_succ,go_sem];rfl);rfl;simp only[go_sem];rfl
 exact fin0 rfl
theorem loop118 (v:List UInt8) (T:Sto) (ys:List DaD):∀ (pre:List DaD),(pre++ys).length < big →
  ∃ s0 s1 s5 s6 s8 s13 s22,LP kd 118 (loopOf Tryz.f118 0) ⟨[.val (.slice ((pre++ys).map DaD.enc)),.val (.str v),.box [.val (.str []),.own 1 [],.own 2 []],.dead,.val (.int .i64 (pre.length:Nat)),.dead,.dead,.dead],T⟩ =
   bif ys.any (fun y=>y.name==v) then some (.ret,⟨[s0,s1,.box [.val (.str ((ys.find? fun d=>d.name==v).getD zeroDa).name),.val (.slice (((ys.find? fun d=>d.name==v).getD zeroDa).vars.map .str)),.val (.slice (((ys.find? fun d=>d.name==v).getD zeroDa).cons.map CoD.enc))],.val (.bool true),s6,s8,s13,s22],T⟩) else some (.exit 0,⟨[s0,s1,.box [.val (.str []),.own 1 [],.own 2 []],s5,s6,s8,s13,s22],T⟩):=by
 induction ys with
 |nil =>
  intro pre h3;have hlt:=geI pre;simp only[List.append_nil,List.any_nil,cond_false];iterate 7 apply Exists.intro
  refine tJ rfl ?_;repeat first|with_reducible constructor|(with_reducible apply tG);kernel_rfl;intro _ _;(repeat apply tOp;intro _;simp only[List.length_map,go_sem];rfl);rfl;simp only[go_sem];rfl|(with_reducible apply t0);rfl;trivial
  exact tlX;all_goals exact .dead
 |cons y ys ih =>
  intro pre h3;have hget:=getI DaD.enc pre ys y;rw[DaD.enc] at hget;have hlt:=ltI pre ys y;have h0:=zI pre.length;have hw:=wL pre ys y h3;simp only[List.any_cons];cases hp:(y.name==v) with
  |true =>
   simp only[Bool.true_or,cond_true,List.find?_cons,Option.getD_some,hp];iterate 7 apply Exists.intro
   refine tJ rfl ?_;repeat first|with_reducible constructor|(with_reducible apply tG);kernel_rfl;intro _ _;(repeat apply tOp;intro _;simp only[List.length_map,hget,h0,go_sem];rfl);rfl;simp only[go_sem];rfl|(with_reducible apply t1);rfl;trivial
   exact tlE;all_goals exact .dead
  |false =>
   obtain ⟨s0,s1,s5,s6,s8,s13,s22,ih⟩:=ih (pre++[y]) (by simpa using h3);simp only[List.append_assoc,List.singleton_append] at ih;rw[List.length_append,List.length_singleton] at hw;simp only[List.length_append,List.length_singleton] at ih;simp only[Bool.false_or,List.find?_cons,Option.getD_some,hp,cond_false,Bool.false_eq_true,if_false];refine ⟨s0,s1,s5,s6,s8,s13,s22,?_⟩;cases hz:ys.any (fun y=>y.name==v)
   all_goals
    rw[hz] at ih;simp only[cond_true,cond_false] at ih ⊢;refine tJ rfl ?_;repeat first|with_reducible constructor|(with_reducible apply tG);kernel_rfl;intro _ _;(repeat apply tOp;intro _;simp only[List.length_map,hget,h0,hw,go_sem];rfl);rfl;simp only[go_sem];rfl|(with_reducible apply t1);rfl;trivial|(with_reducible apply t0);rfl;trivial
    exact ih
theorem c118 (v:List UInt8) (ds:List DaD) (T:Sto) (h:ds.length < big):CF kd (.fn 118) [.val (.slice (ds.map DaD.enc)),.val (.str v)] T=some (.ret (.tup [((findD ds v).getD zeroDa).enc,.bool (findD ds v).isSome]),T):=by
 unfold findD;rw[List.find?_cons]
 have hs:([66,111,111,108]==v)=(v==[66,111,111,108]):=by
  cases h1:(v==[66,111,111,108]) with
  |true=>rw[beq_iff_eq] at h1;subst h1;rfl
  |false=>rw[beq_eq_false_iff_ne] at h1 ⊢;exact fun e=>h1 e.symm
 cases hb:(v==[66,111,111,108]) with
 |true =>
  have h161:=fun T=>c161 (kd:=kd) T
  simp only[truthsD_enc] at h161;simp only[show truthsD.name=[66,111,111,108] from rfl,hs,hb,Option.getD_some,Option.isSome_some,truthsD_enc];apply tA;rfl;rfl;exact Tryz.func118;rfl;rfl;simp only[go_sem];rfl;refine tQ ?_;repeat first|with_reducible constructor|(with_reducible apply tG);kernel_rfl;intro _ _;(repeat apply tOp;intro _;simp only[hb,h161,go_sem];rfl);rfl;simp only[go_sem];rfl|(with_reducible apply t1);rfl;trivial
  exact fin0 rfl
 |false =>
  obtain ⟨s0,s1,s5,s6,s8,s13,s22,hl⟩:=loop118 (kd:=kd) v T ds [] (by simpa using h);simp only[List.nil_append,List.length_nil] at hl;have e0:((0:Nat):Int)=0:=rfl;rw[e0] at hl;simp only[show truthsD.name=[66,111,111,108] from rfl,hs,hb];cases hz:ds.any (fun y=>y.name==v) with
  |false =>
   have hf:ds.find? (fun d=>d.name==v)=none:=by
    rw[List.find?_eq_none];intro x hx;rw[List.any_eq_false] at hz;exact hz x hx
   rw[hz] at hl;simp only[cond_false] at hl;simp only[hf,Option.getD_none,Option.isSome_none,zeroDa_enc];apply tA;rfl;rfl;exact Tryz.func118;rfl;rfl;simp only[go_sem];rfl;refine tQ ?_;repeat first|with_reducible constructor|(with_reducible apply tG);kernel_rfl;intro _ _;(repeat apply tOp;intro _;simp only[hb,go_sem];rfl);rfl;simp only[go_sem];rfl|(with_reducible apply tM);assumption|(with_reducible apply t0);rfl;trivial
   exact fin0 rfl
  |true =>
   have hf:(ds.find? fun d=>d.name==v).isSome=true:=by
    rw[List.find?_isSome];rw[List.any_eq_true] at hz;exact hz
   rw[hz] at hl;simp only[cond_true] at hl;generalize hd:(ds.find? fun d=>d.name==v)=r at *;simp only[hf];unfold DaD.enc;apply tA;rfl;rfl;exact Tryz.func118;rfl;rfl;simp only[go_sem];rfl;refine tQ ?_;repeat first|with_reducible constructor|(with_reducible apply tG);kernel_rfl;intro _ _;(repeat apply tOp;intro _;simp only[hb,go_sem];rfl);rfl;simp only[go_sem];rfl|(with_reducible apply tM);assumption|(with_reducible apply t0);rfl;trivial
   exact fin0 rfl
end
end Go.Proofs.YtkmnkiekmlcfdaaGreatDoor
