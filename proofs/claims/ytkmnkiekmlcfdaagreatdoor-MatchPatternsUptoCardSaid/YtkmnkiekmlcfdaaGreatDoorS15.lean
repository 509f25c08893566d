/- Part S15 of the proof of one law of the program. -/
import Derived.Test.YtkmnkiekmlcfdaaGreatDoorS14
import Derived.Test.YtkmnkiekmlcfdaaGreatDoorS16
set_option linter.all false
namespace Go.Proofs.YtkmnkiekmlcfdaaGreatDoor
open Go.AM
section
open Go.AM
set_option maxRecDepth 100000
set_option maxHeartbeats 4000000
variable {kd:List UInt8→Int}
def askE (ds:List DaD) (t:TyD) (l:List PaD):AVal:=.agg [.slice (ds.map DaD.enc),.str t.name,.slice (t.args.map TyD.enc),.slice (l.map PaD.enc)]
theorem loop7b (a2 a3:Slot) (L:List (List UInt8×List Nat)) (i:Nat) (nm:List UInt8) (pt:List Nat) (hpt:pt.length < big) (hg:(L.map slotE)[((i:Nat):Int).toNat]?=some (.agg [.str nm,.slice (pt.map intE)])) (T:Sto) (ys:List Nat):∀ (pre:List Nat),pt=pre++ys →
  ∃ s0 s1 s4 s6 s8 s11 s12 s13 s14 s34 s38 s77 s98,LP kd 7 (loopOf Tryz.f7 1) ⟨[.dead,.dead,a2,a3,.dead,.val (.slice (L.map slotE)),.dead,.val (.slice (L.map slotE)),.dead,.val (.int .i64 (i:Nat)),.val (.bool true),.val (.int .i64 (pre.length:Nat)),.dead,.dead,.dead,.dead,.dead,.dead,.dead],T⟩ =
   some (.exit 2,⟨[s0,s1,a2,a3,s4,.val (.slice (L.map slotE)),s6,.val (.slice (L.map slotE)),s8,.val (.int .i64 (i:Nat)),.val (.bool true),s11,s12,s13,s14,s34,s38,s77,s98],T⟩):=by
 have hi:=zI i;induction ys with
 |nil =>
  intro pre h1;rw[List.append_nil] at h1;subst h1;have hlt:=geI pt;iterate 13 apply Exists.intro
  refine tJ rfl ?_;repeat first|with_reducible constructor|(with_reducible apply tG);kernel_rfl;intro _ _;(repeat apply tOp;intro _;simp only[hg,hi,List.length_map,hlt,go_sem];rfl);rfl;simp only[go_sem];rfl|(with_reducible apply t0);rfl;trivial
  exact tlX;all_goals exact .dead
 |cons y ys ih =>
  intro pre h1;have hget:=getI intE pre ys y;have hlt:=ltI pre ys y;have h0:=zI pre.length;have hw:=wL pre ys y (by rw[←h1];exact hpt);rw[←h1] at hget hlt;rw[show intE y=.int .i64 (y:Nat) from rfl] at hget;obtain ⟨s0,s1,s4,s6,s8,s11,s12,s13,s14,s34,s38,s77,s98,ih⟩:=ih (pre++[y]) (by rw[h1];simp);refine ⟨s0,s1,s4,s6,s8,s11,s12,s13,s14,s34,s38,s77,s98,?_⟩;refine tJ rfl ?_;repeat first|with_reducible constructor|(with_reducible apply tG);kernel_rfl;intro _ _;(repeat apply tOp;intro _;simp only[hg,hi,List.length_map,hlt,hget,h0,beq_self_eq_true,hw,go_sem];rfl);rfl;simp only[go_sem];rfl|(with_reducible apply t1);rfl;trivial
  exact ih
theorem loop7a (a2 a3:Slot) (L:List (List UInt8×List Nat)) (hL:L.length < big) (hp:∀ s∈L,s.2.length < big) (T:Sto) (ys:List (List UInt8×List Nat)):∀ (pre:List (List UInt8×List Nat)),L=pre++ys →
  ∃ s0 s1 s4 s5 s6 s7 s8 s9 s10 s11 s12 s13 s14 s34 s38 s77 s98,LP kd 7 (loopOf Tryz.f7 0) ⟨[.dead,.dead,a2,a3,.dead,.val (.slice (L.map slotE)),.dead,.val (.slice (L.map slotE)),.dead,.val (.int .i64 (pre.length:Nat)),.dead,.dead,.dead,.dead,.dead,.dead,.dead,.dead,.dead],T⟩ =
   some (.exit 0,⟨[s0,s1,a2,a3,s4,s5,s6,s7,s8,s9,s10,s11,s12,s13,s14,s34,s38,s77,s98],T⟩):=by
 induction ys with
 |nil =>
  intro pre h1;rw[List.append_nil] at h1;subst h1;have hlt:=geI L;iterate 17 apply Exists.intro
  refine tJ rfl ?_;repeat first|with_reducible constructor|(with_reducible apply tG);kernel_rfl;intro _ _;(repeat apply tOp;intro _;simp only[List.length_map,go_sem];rfl);rfl;simp only[go_sem];rfl|(with_reducible apply t0);rfl;trivial
  exact tlX;all_goals exact .dead
 |cons y ys ih =>
  intro pre h1;have hget:=getI slotE pre ys y;have hlt:=ltI pre ys y;have h0:=zI pre.length;have hw:=wL pre ys y (by rw[←h1];exact hL);have hym:y∈L:=by rw[h1];simp
  rw[←h1] at hget hlt;rw[show slotE y=.agg [.str y.1,.slice (y.2.map intE)] from rfl] at hget;have e0:((0:Nat):Int)=0:=rfl;obtain ⟨s0,s1,s4,s6,s8,s11,s12,s13,s14,s34,s38,s77,s98,hb⟩:=loop7b (kd:=kd) a2 a3 L pre.length y.1 y.2 (hp y hym) hget T y.2 [] rfl;simp only[List.length_nil] at hb;rw[e0] at hb;obtain ⟨s0,s1,s4,s5,s6,s7,s8,s9,s10,s11,s12,s13,s14,s34,s38,s77,s98,ih⟩:=ih (pre++[y]) (by rw[h1];simp);refine ⟨s0,s1,s4,s5,s6,s7,s8,s9,s10,s11,s12,s13,s14,s34,s38,s77,s98,?_⟩;refine tJ rfl ?_;repeat first|with_reducible constructor|(with_reducible apply tG);kernel_rfl;intro _ _;(repeat apply tOp;intro _;simp only[List.length_map,hget,h0,beq_self_eq_true,hw,go_sem];rfl);rfl;simp only[go_sem];rfl|(with_reducible apply tM);assumption|(with_reducible apply t1);rfl;trivial|(with_reducible apply t0);rfl;trivial
  exact ih
theorem slotsL_path {f:PaD→List Nat→List (List UInt8×List Nat)} {n:Nat} (hf:∀ a path,∀ s∈f a path,s.2.length≤path.length+n) (path:List Nat):∀ (l:List PaD) (k:Nat),∀ s∈slotsL f path k l,s.2.length≤path.length+(n+1)
 |[],_,s,h=>by cases h
 |a::l,k,s,h=>by
  rcases List.mem_append.1 h with h|h
  ·have:=hf a _ s h
   simp only[List.length_append,List.length_singleton] at this;omega
  ·exact slotsL_path hf path l (k+1) s h
theorem slotsD_path:∀ (n:Nat) (p:PaD) (path:List Nat),∀ s∈slotsD n p path,s.2.length≤path.length+n:=by
 intro n;induction n with
 |zero=>intro p path s h;cases h
 |succ n ih =>
  intro p path s h;unfold slotsD at h
  split at h
  ·have:s=(p.name,path):=by simpa using h
   subst this;show path.length≤_;omega
  ·split at h
   ·exact slotsL_path (fun a path s h=>ih a path s h) path p.args 0 s h
   ·cases h
theorem c7 {ds:List DaD} (h:DsOk ds) (hct:conTot ds+3 < big) (t:TyD) (ht:t.size < big) (p:PaD) (hp:p.size+1 < big) (l:List PaD) (hl:PaD.sizes l+1 < big) (hk:isK kd 4=tvarB∧isK kd 3=wordB 65 90∧isK kd 2=nameB) (T:Sto) (hlo:T.lo≤T.objs.length)
  (h13:CF kd (.fn 13) [] T=some (.ret (.val (.bool true)),T)) (h32:CF kd (.fn 32) [.val p.enc] T=some (.ret (.tup [.slice ((slotsRS p).map slotE),.int .i64 (slotsRE p)]),T)) :
  CF kd (.fn 7) [.val (askE ds t l),.val p.enc] T=some (.ret (.val (.bool true)),T):=by
 have hLl:(slotsRS p).length≤120:=by
  unfold slotsRS;cases deepD 100 p <;> cases decide (countR p 120 > 120) <;> simp only[cond_true,cond_false,List.length_nil,Nat.zero_le]
  exact cap_len _
 have hLp:∀ s∈slotsRS p,s.2.length < big:=by
  intro s hs;unfold slotsRS at hs
  have hm:s∈slotsD 100 p []:=by
   revert hs
   cases deepD 100 p <;> cases decide (countR p 120 > 120) <;> simp only[cond_true,cond_false,List.not_mem_nil,false_implies]
   intro hs;exact List.mem_of_mem_take hs
  have:=slotsD_path 100 p [] s hm
  simp only[List.length_nil,big] at this ⊢;omega
 have h33:=c33 (kd:=kd) p hp T;have h36:=c36 (kd:=kd) p hp T;have h35:=c35 (kd:=kd) p (by omega) T hlo;rw[gath_take _ [] (by simp),List.nil_append,←List.map_take] at h35
 have hv:((slotsD 100 p []).take 120).map (fun s:List UInt8×List Nat=>AVal.str s.1)=(varsRV p).map AVal.str:=by
  unfold varsRV cap;rw[List.map_map];rfl
 rw[hv] at h35;have h34:=c34 (kd:=kd) (varsRV p) (varsRV p) T (by unfold varsRV;rw[List.length_map];have:=cap_len (slotsD 100 p []);simp only[big];omega);rw[show (varsRV p==varsRV p)=true by simp] at h34;have h37:=c37 (kd:=kd) h t ht p (by omega) T hlo;have h38:=c38 (kd:=kd) h hct t ht p hp T;have h39:=c39 (kd:=kd) h t ht l hl T hlo;have h40:=c40 (kd:=kd) h hct t ht l hl T;rw[hk.1,hk.2.1,hk.2.2] at h37 h39;rw[chkPs_same] at h39
 have h3738:chkPat tvarB (wordB 65 90) nameB ds t p=chkPatR ds t p:=by
  unfold chkPat chkPatR;rw[chkT_same,valid_same];rcases chkT_zero ds t with e|e <;> rw[e] <;> rfl
 rw[h3738] at h37;obtain ⟨s0,s1,s4,s5,s6,s7,s8,s9,s10,s11,s12,s13,s14,s34,s38,s77,s98,hlp⟩:=loop7a (kd:=kd) (.box [.val (.slice (ds.map DaD.enc)),.val (.str t.name),.val (.slice (t.args.map TyD.enc)),.val (.slice (l.map PaD.enc))]) (.box [.val (.int .i64 p.kind),.val (.str p.name),.val (.slice (p.args.map PaD.enc))]) (slotsRS p) (by simp only[big];omega) hLp T (slotsRS p) [] rfl;simp only[List.length_nil] at hlp;have e0:((0:Nat):Int)=0:=rfl;rw[e0] at hlp;have hb1:∀ x:Int,(x != x)=false:=fun x=>by simp
 have hb2:∀ x:Int,(x==x)=true:=fun x=>by simp
 unfold askE;rw[p.enc_eq] at h32 h33 h35 h36 h37 h38 ⊢;rw[t.enc_eq] at h37 h38 h39 h40;apply tA;rfl;rfl;exact Tryz.func7;rfl;rfl;simp only[go_sem];rfl;refine tQ ?_;repeat first|with_reducible constructor|(with_reducible apply tG);kernel_rfl;intro _ _;(repeat apply tOp;intro _;simp only[h32,h33,hb1,List.length_map,h35,h36,h34,h37,h38,h13,h39,h40,hb2,go_sem];rfl);rfl;simp only[go_sem];rfl|(with_reducible apply tM);assumption|(with_reducible apply t0);rfl;trivial
 exact fin0 rfl
end
section
open Go.AM
set_option maxRecDepth 100000
set_option maxHeartbeats 4000000
variable {kd:List UInt8→Int}
theorem c85 {p:PaD} (hp:p.size < big) (hl:(slotsD 100 p []).length+1 < big) {a b:Nat} {O:List AObj} {lo:Nat} (hlo:lo≤O.length)
  (ha:O[a]?=some (.box [.val (.int .i64 p.kind),.val (.str p.name),.val (.slice (p.args.map PaD.enc))])) (hb:O[b]?=some (.box [.val (.int .i64 (100:Nat))])) :
  CF kd (.fn 85) [.val (.func 104 [.loc a 0,.loc b 0])] ⟨O,lo⟩=some (.ret (.val (.slice ((slotsD 100 p []).map slotE))),⟨O,lo⟩):=by
 have h:=c137 (kd:=kd) hp hl hlo ha hb;have b00:((0:Nat)==0)=true:=rfl;have b10:((1:Nat)==0)=false:=rfl;apply tA;rfl;rfl;exact Tryz.func85;rfl;rfl;simp only[go_sem];rfl;refine tQ ?_;repeat first|with_reducible constructor|(with_reducible apply tG);kernel_rfl;intro _ _;(repeat apply tOp;intro _;simp only[h,b00,b10,go_sem];rfl);rfl;simp only[go_sem];rfl
 exact fin0 rfl
theorem slotsL_len {f:PaD→List Nat→List (List UInt8×List Nat)} (hf:∀ a path,(f a path).length≤totR a) (path:List Nat):∀ (l:List PaD) (k:Nat),(slotsL f path k l).length≤totRs l
 |[],_=>by simp [slotsL,totRs]
 |a::l,k=>by
  have h1:=hf a (path++[k]);have h2:=slotsL_len hf path l (k+1);simp only[slotsL,List.length_append,totRs];omega
theorem slotsD_len:∀ (n:Nat) (p:PaD) (path:List Nat),(slotsD n p path).length≤totR p:=by
 intro n;induction n with
 |zero=>intro p path;simp [slotsD]
 |succ n ih =>
  intro p path;unfold slotsD;rw[totR_eq];split
  ·simp
  ·split
   ·have:=slotsL_len (fun a path=>ih a path) path p.args 0
    omega
   ·simp
theorem one_many (p:PaD):manyD [p]=decide (countR p 120 > 120):=by
 rw[many_same]
 have h:countRs [p] 120 0=countR p 120:=by
  simp only[countRs,show decide ((0:Int)≤120)=true from rfl,cond_true,Int.sub_zero,Int.zero_add]
 rw[h];rfl
theorem c32 (p:PaD) (hp:p.size+3 < big) (T:Sto) (hlo:T.lo≤T.objs.length):CF kd (.fn 32) [.val p.enc] T=some (.ret (.tup [.slice ((slotsRS p).map slotE),.int .i64 (slotsRE p)]),T):=by
 have h83:=c83 (kd:=kd) 100 (by simp [big]) p T (by omega);have e100:((100:Nat):Int)=100:=rfl;rw[e100] at h83;have h84:=c84 (kd:=kd) [p] T (by simp only[PaD.sizes];omega);have h59:=fun s=>c59 (kd:=kd) p 100 s
 have hb0:Nat.ble T.lo T.objs.length=true:=Nat.ble_eq_true_of_le (by omega);have hb2:Nat.ble T.lo (T.objs.length+2)=true:=Nat.ble_eq_true_of_le (by omega);rw[one_many] at h84;simp only[List.map_cons,List.map_nil] at h84;unfold slotsRS slotsRE;cases h1:deepD 100 p with
 |true =>
  rw[h1] at h83;rw[p.enc_eq] at h83 ⊢;simp only[cond_true,List.map_nil];apply tA;rfl;rfl;exact Tryz.func32;rfl;rfl;simp only[go_sem];rfl;refine tQ ?_;repeat first|with_reducible constructor|(with_reducible apply tG);kernel_rfl;intro _ _;(repeat apply tOp;intro _;simp only[h83,go_sem];rfl);rfl;simp only[go_sem];rfl|(with_reducible apply t1);rfl;trivial
  exact fin0 rfl
 |false =>
 rw[h1] at h83;simp only[cond_false];cases h2:decide (countR p 120 > 120) with
 |true =>
  rw[h2] at h84;rw[p.enc_eq] at h83 h84 ⊢;simp only[cond_true,List.map_nil];apply tA;rfl;rfl;exact Tryz.func32;rfl;rfl;simp only[go_sem];rfl;refine tQ ?_;repeat first|with_reducible constructor|(with_reducible apply tG);kernel_rfl;intro _ _;(repeat apply tOp;intro _;simp only[h83,h84,setElems,clean,flat,List.replicate,List.set_cons_zero,List.set_cons_succ,go_sem];rfl);rfl;simp only[go_sem];rfl|(with_reducible apply t1);rfl;trivial|(with_reducible apply t0);rfl;trivial
  exact fin0 rfl
 |false =>
  rw[h2] at h84
  have hlen:(slotsD 100 p []).length≤120:=by
   have h3:=slotsD_len 100 p [];have h4:=countR_tot p 120 (by omega);rw[decide_eq_false_iff_not] at h2;omega
  rw[cap_id hlen];simp only[cond_false];have h85:=c85 (kd:=kd) (p:=p) (by omega) (by simp only[big];omega) (a:=T.objs.length) (b:=T.objs.length+1) (O:=T.objs++[.box [.val (.int .i64 p.kind),.val (.str p.name),.val (.slice (p.args.map PaD.enc))],.box [.val (.int .i64 100)]]) (lo:=T.lo) (by simp;omega) (by simp) (by simp);rw[p.enc_eq] at h83 h84 h59 ⊢;apply tA;rfl;rfl;exact Tryz.func32;rfl;rfl;simp only[go_sem];rfl;refine tQ ?_;repeat first|with_reducible constructor|(with_reducible apply tG);kernel_rfl;intro _ _;(repeat apply tOp;intro _;simp only[h83,h84,setElems,clean,flat,List.replicate,List.set_cons_zero,List.set_cons_succ,h59,h85,go_sem];rfl);rfl;simp only[go_sem];rfl|(with_reducible apply t0);rfl;trivial
  exact fin1 [_,_] rfl
end
end Go.Proofs.YtkmnkiekmlcfdaaGreatDoor
