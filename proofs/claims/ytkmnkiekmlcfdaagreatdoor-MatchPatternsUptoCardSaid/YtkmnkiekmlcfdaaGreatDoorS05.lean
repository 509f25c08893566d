/- Part S05 of the proof of one law of the program. -/
import Derived.Test.YtkmnkiekmlcfdaaGreatDoorS04
import Derived.Test.YtkmnkiekmlcfdaaGreatDoorE08
set_option linter.all false
namespace Go.Proofs.YtkmnkiekmlcfdaaGreatDoor
open Go.AM
set_option maxRecDepth 100000
set_option maxHeartbeats 4000000
variable {kd:List UInt8→Int}
theorem conAtI_find (v:List UInt8):∀ (l:List CoD) (k:Nat),match l.find? (fun c=>c.name==v) with
  |none=>conAtI v l k=-1
  |some c=>∃ i:Nat,conAtI v l k=((k+i:Nat):Int)∧l[i]?=some c
 |[],k=>rfl
 |c::cs,k=>by
  rw[List.find?_cons];cases hp:(c.name==v) with
  |true =>
   simp only[conAtI,hp,cond_true];exact ⟨0,rfl,rfl⟩
  |false =>
   have ih:=conAtI_find v cs (k+1);simp only[conAtI,hp,cond_false];cases hf:cs.find? (fun c=>c.name==v) with
   |none=>rw[hf] at ih;exact ih
   |some c' =>
    rw[hf] at ih;obtain ⟨i,h1,h2⟩:=ih;exact ⟨i+1,by rw[h1];congr 1;omega,by simpa using h2⟩
theorem loop107 (ds:List DaD) (k:Int) (nm:List UInt8) (L:List CoD) (i:Nat) (nmc:List UInt8) (T:Sto) (ys:List PaD):∀ (pre:List PaD) (tpre ts:List TyD),tpre.length=pre.length→ts.length=ys.length→(pre++ys).length < big →
  (L.map CoD.enc)[((i:Nat):Int).toNat]?=some (.agg [.str nmc,.slice ((tpre++ts).map TyD.enc)]) →
  (∀ y∈ys,∀ t:TyD,CF kd (.fn 107) [.val (.slice (ds.map DaD.enc)),.val t.enc,.val y.enc] T=some (.ret (.val (.bool (formedD nameB ds t y))),T)) →
  ∃ s0 s1 s2 s4 s5 s6 s7 s8 s9 s11 s12 s23 s34 s56 s61 s79,LP kd 107 (loopOf Tryz.f107 0) ⟨[.val (.slice (ds.map DaD.enc)),.dead,.dead,.dead,.box [.val (.int .i64 k),.val (.str nm),.val (.slice ((pre++ys).map PaD.enc))],.dead,.val (.slice (L.map CoD.enc)),.val (.int .i64 (i:Nat)),.val (.int .i64 (pre.length:Nat)),.dead,.dead,.dead,.dead,.dead,.dead,.dead],T⟩ =
   bif formedL nameB ds ts ys then some (.exit 1,⟨[s0,s1,s2,s4,s5,s6,s7,s8,s9,s11,s12,s23,s34,s56,s61,s79],T⟩) else some (.ret,⟨[s0,s1,s2,s4,s5,.val (.bool false),s7,s8,s9,s11,s12,s23,s34,s56,s61,s79],T⟩):=by
 have hi:=zI i;induction ys with
 |nil =>
  intro pre tpre ts ht1 ht2 h3 hc h2;have hlt:=geI pre;simp only[formedL_nil,cond_true,List.append_nil];iterate 16 apply Exists.intro
  refine tJ rfl ?_;repeat first|with_reducible constructor|(with_reducible apply tG);kernel_rfl;intro _ _;(repeat apply tOp;intro _;simp only[List.length_map,go_sem];rfl);rfl;simp only[go_sem];rfl|(with_reducible apply t0);rfl;trivial
  exact tlX;all_goals exact .dead
 |cons y ys ih =>
  intro pre tpre ts ht1 ht2 h3 hc h2;cases ts with
  |nil=>simp at ht2
  |cons t ts =>
   have hget:=getI PaD.enc pre ys y;have hget2:=getI TyD.enc tpre ts t;rw[ht1] at hget2;have hlt:=ltI pre ys y;have h0:=zI pre.length;have hw:=wL pre ys y h3;have hy:=h2 y (by simp) t;rw[y.enc_eq] at hget hy;rw[t.enc_eq] at hget2 hy;rw[formedL_cons];cases hq:formedD nameB ds t y with
   |false =>
    rw[hq] at hy;simp only[Bool.false_and,cond_false];iterate 16 apply Exists.intro
    refine tJ rfl ?_;repeat first|with_reducible constructor|(with_reducible apply tG);kernel_rfl;intro _ _;(repeat apply tOp;intro _;simp only[List.length_map,hc,hi,hget,hget2,h0,hy,go_sem];rfl);rfl;simp only[go_sem];rfl|(with_reducible apply t1);rfl;trivial
    exact tlE;all_goals exact .dead
   |true =>
    rw[hq] at hy;obtain ⟨s0,s1,s2,s4,s5,s6,s7,s8,s9,s11,s12,s23,s34,s56,s61,s79,ih⟩:=ih (pre++[y]) (tpre++[t]) ts (by simp [ht1]) (by simpa using ht2) (by simpa using h3) (by simpa using hc) (fun x hx=>h2 x (by simp [hx]));simp only[List.append_assoc,List.singleton_append] at ih;simp only[Bool.true_and];refine ⟨s0,s1,s2,s4,s5,s6,s7,s8,s9,s11,s12,s23,s34,s56,s61,s79,?_⟩;cases hr:formedL nameB ds ts ys
    all_goals
     rw[hr] at ih;simp only[cond_true,cond_false] at ih ⊢;refine tJ rfl ?_;repeat first|with_reducible constructor|(with_reducible apply tG);kernel_rfl;intro _ _;(repeat apply tOp;intro _;simp only[List.length_map,hc,hi,hget,hget2,h0,hy,hw,go_sem];rfl);rfl;simp only[go_sem];rfl|(with_reducible apply t1);rfl;trivial|(with_reducible apply t0);rfl;trivial
     exact ih
theorem c107 {ds:List DaD} (h:DsOk ds):∀ (p:PaD),p.size < big→∀ (t:TyD) (T:Sto),
  CF kd (.fn 107) [.val (.slice (ds.map DaD.enc)),.val t.enc,.val p.enc] T=some (.ret (.val (.bool (formedD nameB ds t p))),T):=by
 refine PaD.ind fun p ih hp t T=>?_
 have h75:=c75 (kd:=kd) h t T;have h156:=c156 (kd:=kd) p.name T;have h157:=c157 (kd:=kd) p.name (consD ds t) T (consD_len h t);rw[formedD_eq];rw[t.enc_eq] at h75 ⊢;rw[p.enc_eq];cases h1:(p.kind==1) with
 |true =>
  simp only[if_true];cases hm:(p.name==[])
  all_goals
   apply tA;rfl;rfl;exact Tryz.func107;rfl;rfl;simp only[go_sem];rfl;refine tQ ?_;repeat first|with_reducible constructor|(with_reducible apply tG);kernel_rfl;intro _ _;(repeat apply tOp;intro _;simp only[hm,List.length_map,go_sem];rfl);rfl;simp only[go_sem];rfl|(with_reducible apply t1);rfl;trivial
   exact fin0 rfl
 |false =>
 simp only[Bool.false_eq_true,if_false];cases h2:(p.kind==2) with
 |true =>
  simp only[if_true];cases hm:nameB p.name
  all_goals
   rw[hm] at h156;apply tA;rfl;rfl;exact Tryz.func107;rfl;rfl;simp only[go_sem];rfl;refine tQ ?_;repeat first|with_reducible constructor|(with_reducible apply tG);kernel_rfl;intro _ _;(repeat apply tOp;intro _;simp only[h156,List.length_map,go_sem];rfl);rfl;simp only[go_sem];rfl|(with_reducible apply t1);rfl;trivial|(with_reducible apply t0);rfl;trivial
   exact fin0 rfl
 |false =>
 simp only[Bool.false_eq_true,if_false];cases h3:(p.kind==3) with
 |false =>
  simp only[Bool.false_eq_true,if_false];apply tA;rfl;rfl;exact Tryz.func107;rfl;rfl;simp only[go_sem];rfl;refine tQ ?_;repeat first|with_reducible constructor|(with_reducible apply tG);kernel_rfl;intro _ _;(repeat apply tOp;intro _;simp only[go_sem];rfl);rfl;simp only[go_sem];rfl|(with_reducible apply t0);rfl;trivial
  exact fin0 rfl
 |true =>
 simp only[if_true];have hcf:=conAtI_find p.name (consD ds t) 0;cases hf:(consD ds t).find? (fun c=>c.name==p.name) with
 |none =>
  rw[hf] at hcf;simp only at hcf;rw[hcf] at h157;apply tA;rfl;rfl;exact Tryz.func107;rfl;rfl;simp only[go_sem];rfl;refine tQ ?_;repeat first|with_reducible constructor|(with_reducible apply tG);kernel_rfl;intro _ _;(repeat apply tOp;intro _;simp only[h75,h157,show decide ((-1:Int) < 0)=true from rfl,go_sem];rfl);rfl;simp only[go_sem];rfl|(with_reducible apply t1);rfl;trivial|(with_reducible apply t0);rfl;trivial
  exact fin0 rfl
 |some c =>
  rw[hf] at hcf;obtain ⟨i,hi1,hi2⟩:=hcf;rw[Nat.zero_add] at hi1;rw[hi1] at h157;have hneg:decide (((i:Nat):Int) < 0)=false:=by rw[decide_eq_false_iff_not];omega
  have hi:=zI i
  have hc:((consD ds t).map CoD.enc)[((i:Nat):Int).toNat]?=some (.agg [.str c.name,.slice (c.args.map TyD.enc)]):=by
   show ((consD ds t).map CoD.enc)[i]?=_;rw[List.getElem?_map,hi2];simp only[Option.map_some,CoD.enc_eq]
  simp only;cases hl:(((c.args.length:Nat):Int) != ((p.args.length:Nat):Int)) with
  |true =>
   have hl':(((p.args.length:Nat):Int) != ((c.args.length:Nat):Int))=true:=by rw[bne_iff_ne] at hl ⊢;exact fun e=>hl e.symm
   simp only[if_true];apply tA;rfl;rfl;exact Tryz.func107;rfl;rfl;simp only[go_sem];rfl;refine tQ ?_;repeat first|with_reducible constructor|(with_reducible apply tG);kernel_rfl;intro _ _;(repeat apply tOp;intro _;simp only[h75,h157,hneg,hc,hi,List.length_map,hl',go_sem];rfl);rfl;simp only[go_sem];rfl|(with_reducible apply t1);rfl;trivial|(with_reducible apply t0);rfl;trivial
   exact fin0 rfl
  |false =>
   have hle:c.args.length=p.args.length:=by
    have:((c.args.length:Nat):Int)=((p.args.length:Nat):Int):=by simpa using hl
    omega
   have hl':(((p.args.length:Nat):Int) != ((c.args.length:Nat):Int))=false:=by rw[hle];simp
   simp only[Bool.false_eq_true,if_false];obtain ⟨s0,s1,s2,s4,s5,s6,s7,s8,s9,s11,s12,s23,s34,s56,s61,s79,hlp⟩:=loop107 (kd:=kd) ds p.kind p.name (consD ds t) i c.name T p.args [] [] c.args rfl hle (by have:=p.args_len;simp only[List.nil_append];simp only[big] at hp ⊢;omega) (by simpa using hc) (fun y hy t'=>ih y hy (by have:=PaD.args_size hy;omega) t' T);simp only[List.nil_append,List.length_nil] at hlp;have e0:((0:Nat):Int)=0:=rfl;rw[e0] at hlp;cases hr:formedL nameB ds c.args p.args
   all_goals
    rw[hr] at hlp;simp only[cond_true,cond_false] at hlp;apply tA;rfl;rfl;exact Tryz.func107;rfl;rfl;simp only[go_sem];rfl;refine tQ ?_;repeat first|with_reducible constructor|(with_reducible apply tG);kernel_rfl;intro _ _;(repeat apply tOp;intro _;simp only[h75,h157,hneg,hc,hi,List.length_map,hl',go_sem];rfl);rfl;simp only[go_sem];rfl|(with_reducible apply tM);assumption|(with_reducible apply t1);rfl;trivial|(with_reducible apply t0);rfl;trivial
    exact fin0 rfl
end Go.Proofs.YtkmnkiekmlcfdaaGreatDoor
