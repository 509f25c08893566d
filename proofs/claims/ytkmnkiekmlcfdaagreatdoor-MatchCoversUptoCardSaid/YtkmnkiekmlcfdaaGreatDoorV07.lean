/- Part V07 of the proof of one law of the program. -/
import Derived.Test.YtkmnkiekmlcfdaaGreatDoorS04
import Derived.Test.YtkmnkiekmlcfdaaGreatDoorV04
set_option linter.all false
section
namespace Go.Proofs.YtkmnkiekmlcfdaaGreatDoor
open Go.AM
section
open Go.AM
set_option maxRecDepth 100000
set_option maxHeartbeats 4000000
variable {kd:List UInt8→Int}
theorem c109 (p:PaD) (T:Sto):CF kd (.fn 109) [.val p.enc] T=some (.ret (.val (.bool (p.kind != 3))),T):=by
 rw[p.enc_eq];apply tA;rfl;rfl;exact Tryz.func109;rfl;rfl;simp only[go_sem];rfl;refine tQ ?_;repeat first|with_reducible constructor|(with_reducible apply tG);kernel_rfl;intro _ _;(repeat apply tOp;intro _;simp only[go_sem];rfl);rfl;simp only[go_sem];rfl
 exact fin0 rfl
theorem wilds_succ (n:Nat):(wilds (n+1)).map PaD.enc=.agg [.int .i64 1,.str [],.slice []]::(wilds n).map PaD.enc:=by
 rw[wilds,List.replicate_succ,List.map_cons,wildD_enc];rfl
theorem loop169 (n:Nat) (hn:n+1 < big) (T:Sto):∀ (m i:Nat) (X:List AVal),i+m=n→X.length+m+1 < big →
  ∃ s0 s2 s4 s7,LP kd 169 (loopOf Tryz.f169 0) ⟨[.val (.int .i64 (n:Nat)),.dead,.own 3 X,.val (.int .i64 (i:Nat)),.dead],T⟩ =
   some (.exit 0,⟨[s0,s2,.own 3 (X++(wilds m).map PaD.enc),s4,s7],T⟩):=by
 intro m;induction m with
 |zero =>
  intro i X hi h3;have hlt:decide (((i:Nat):Int) < ((n:Nat):Int))=false:=by simp;omega
  simp only[wilds,List.replicate_zero,List.map_nil,List.append_nil];iterate 4 apply Exists.intro
  refine tJ rfl ?_;repeat first|with_reducible constructor|(with_reducible apply tG);kernel_rfl;intro _ _;(repeat apply tOp;intro _;simp only[go_sem];rfl);rfl;simp only[go_sem];rfl|(with_reducible apply t0);rfl;trivial
  exact tlX;all_goals exact .dead
 |succ m ih =>
  intro i X hi h3;have hlt:decide (((i:Nat):Int) < ((n:Nat):Int))=true:=by simp;omega
  have hw:IntKind.i64.wrap (((i:Nat):Int)+1)=((i+1:Nat):Int):=by rw[wrapOk (by omega) (by simp only[big] at hn;omega)];omega
  have hr:=roomI X (by omega);obtain ⟨s0,s2,s4,s7,ih⟩:=ih (i+1) (X++[.agg [.int .i64 1,.str [],.slice []]]) (by omega) (by simp only[List.length_append,List.length_singleton];omega);simp only[List.append_assoc,List.singleton_append] at ih;rw[wilds_succ];refine ⟨s0,s2,s4,s7,?_⟩;refine tJ rfl ?_;repeat first|with_reducible constructor|(with_reducible apply tG);kernel_rfl;intro _ _;(repeat apply tOp;intro _;simp only[hw,hr,setElems,clean,flat,List.replicate,List.set_cons_zero,List.set_cons_succ,go_sem];rfl);rfl;simp only[go_sem];rfl|(with_reducible apply t1);rfl;trivial
  exact ih
theorem c169 (n:Nat) (hn:n+1 < big) (T:Sto):CF kd (.fn 169) [.val (.int .i64 (n:Nat))] T=some (.ret (.own 3 ((wilds n).map PaD.enc)),T):=by
 obtain ⟨s0,s2,s4,s7,hl⟩:=loop169 (kd:=kd) n hn T n 0 [] (by omega) (by simp only[List.length_nil];omega);simp only[List.nil_append] at hl;have e0:((0:Nat):Int)=0:=rfl;rw[e0] at hl;apply tA;rfl;rfl;exact Tryz.func169;rfl;rfl;simp only[go_sem];rfl;refine tQ ?_;repeat first|with_reducible constructor|(with_reducible apply tG);kernel_rfl;intro _ _;(repeat apply tOp;intro _;simp only[go_sem];rfl);rfl;simp only[go_sem];rfl|(with_reducible apply tM);assumption
 exact fin0 rfl
def spreadD (p:PaD) (c:CoD):Option (List PaD):=bif (p.kind != 3) then some (wilds c.args.length) else bif (p.name==c.name) then some p.args else none
def spreadE (r:Option (List PaD)) (rest:List PaD):Slot:=.tup [.slice ((match r with|some f=>f++rest|none=>[]).map PaD.enc),.bool r.isSome]
theorem c154 (p:PaD) (rest:List PaD) (c:CoD) (hc:c.args.length+rest.length+1 < big) (hp:p.args.length+rest.length+1 < big) (T:Sto) :
  CF kd (.fn 154) [.val (.slice ((p::rest).map PaD.enc)),.val c.enc] T=some (.ret (spreadE (spreadD p c) rest),T):=by
 have h109:=c109 (kd:=kd) p T;have h169:=c169 (kd:=kd) c.args.length (by omega) T;have h00:=d00;have ha3:=all3 rest;have ha4:=all3 p.args;have b353:((35:Nat)==3)=false:=rfl;have b356:((35:Nat)==6)=false:=rfl;have b313:((31:Nat)==3)=false:=rfl;have b316:((31:Nat)==6)=false:=rfl;have h01:decide ((1:Int)≤((rest.length+1:Nat):Int))=true:=by simp;omega
 have hr0:=head3 rest;have hle:decide (((rest.length+1:Nat):Int)≤((rest.length+1:Nat):Int))=true:=by simp
 have hcut:(((p.enc::rest.map PaD.enc).take (((rest.length+1:Nat):Int)).toNat).drop ((1:Int)).toNat)=rest.map PaD.enc:=by
  rw[Int.toNat_natCast,List.take_of_length_le (by simp)];rfl
 simp only[List.map_cons];rw[p.enc_eq] at h109 hcut ⊢;rw[c.enc_eq];unfold spreadD spreadE;cases hk:(p.kind != 3) with
 |true =>
  rw[hk] at h109;simp only[cond_true,Option.isSome_some,List.map_append];have hr:=roomA (wilds c.args.length).length rest.length (by rw[wilds,List.length_replicate];omega);apply tA;rfl;rfl;exact Tryz.func154;rfl;rfl;simp only[go_sem];rfl;refine tQ ?_;repeat first|with_reducible constructor|(with_reducible apply tG);kernel_rfl;intro _ _;(repeat apply tOp;intro _;simp only[h109,h169,List.length_map,hle,hcut,h01,hr0,hr,ha3,Bool.false_eq_true,b353,b356,List.length_cons,go_sem,Nat.reduceAdd,reduceIte];rfl);rfl;simp only[go_sem];rfl|(with_reducible apply t0);rfl;trivial
  exact fin0 rfl
 |false =>
  rw[hk] at h109;simp only[cond_false];cases hn:(p.name==c.name) with
  |false =>
   simp only[cond_false,Option.isSome_none,List.map_nil];apply tA;rfl;rfl;exact Tryz.func154;rfl;rfl;simp only[go_sem];rfl;refine tQ ?_;repeat first|with_reducible constructor|(with_reducible apply tG);kernel_rfl;intro _ _;(repeat apply tOp;intro _;simp only[h109,hn,go_sem];rfl);rfl;simp only[go_sem];rfl|(with_reducible apply t1);rfl;trivial
   exact fin0 rfl
  |true =>
   simp only[cond_true,Option.isSome_some,List.map_append];have hr:=roomA p.args.length rest.length (by omega);have hra:=roomA 0 p.args.length (by omega);rw[Nat.zero_add] at hra;apply tA;rfl;rfl;exact Tryz.func154;rfl;rfl;simp only[go_sem];rfl;refine tQ ?_;repeat first|with_reducible constructor|(with_reducible apply tG);kernel_rfl;intro _ _;(repeat apply tOp;intro _;simp only[h109,hn,h169,List.length_map,List.replicate,hle,hcut,h01,hr0,hr,hra,ha3,ha4,Bool.false_eq_true,b353,b356,b313,b316,List.length_cons,go_sem,Nat.reduceAdd,reduceIte];rfl);rfl;simp only[go_sem];rfl|(with_reducible apply t1);rfl;trivial|(with_reducible apply t0);rfl;trivial
   exact fin0 rfl
end
section
open Go.AM
set_option maxRecDepth 100000
set_option maxHeartbeats 4000000
variable {kd:List UInt8→Int}
def tstD (b:Bool):List Row→Bool
 |[]=>b
 |y::ys=>tstD (b||!(y.1.kind != 3)) ys
theorem loop100a (a0 a1 a3:Slot) (T:Sto) (ys:List Row):∀ (pre:List Row) (b:Bool),(pre++ys).length < big →
  ∃ s8 s10 s11 s12 s13 s14 s15 s16 s17 s18 s19 s20 s23 s26 s35 s50 s54 s80 s93 s97 s112 s130,LP kd 100 (loopOf Tryz.f100 0) ⟨[a0,a1,.val (.slice ((pre++ys).map Row.enc)),a3,.dead,.val (.bool b),.val (.int .i64 (pre.length:Nat)),.dead,.dead,.dead,.dead,.dead,.dead,.dead,.dead,.dead,.dead,.dead,.dead,.dead,.dead,.dead,.dead,.dead,.dead,.dead,.dead],T⟩ =
   some (.exit 0,⟨[a0,a1,.val (.slice ((pre++ys).map Row.enc)),a3,s8,.val (.bool (tstD b ys)),s10,s11,s12,s13,s14,s15,s16,s17,s18,s19,s20,s23,s26,s35,s50,s54,s80,s93,s97,s112,s130],T⟩):=by
 induction ys with
 |nil =>
  intro pre b h3;have hlt:=geI pre;simp only[tstD,List.append_nil];iterate 22 apply Exists.intro
  refine tJ rfl ?_;repeat first|with_reducible constructor|(with_reducible apply tG);kernel_rfl;intro _ _;(repeat apply tOp;intro _;simp only[List.length_map,go_sem];rfl);rfl;simp only[go_sem];rfl|(with_reducible apply t0);rfl;trivial
  exact tlX;all_goals exact .dead
 |cons y ys ih =>
  intro pre b h3;have hget:=getI Row.enc pre ys y;rw[Row.enc_eq] at hget;have hlt:=ltI pre ys y;have h0:=zI pre.length;have hw:=wL pre ys y h3;have h109:=c109 (kd:=kd) y.1 T;rw[y.1.enc_eq] at h109;obtain ⟨s8,s10,s11,s12,s13,s14,s15,s16,s17,s18,s19,s20,s23,s26,s35,s50,s54,s80,s93,s97,s112,s130,ih⟩:=ih (pre++[y]) (b||!(y.1.kind != 3)) (by simpa using h3);simp only[List.append_assoc,List.singleton_append] at ih;simp only[tstD];refine ⟨s8,s10,s11,s12,s13,s14,s15,s16,s17,s18,s19,s20,s23,s26,s35,s50,s54,s80,s93,s97,s112,s130,?_⟩;cases b with
  |true =>
   simp only[Bool.true_or] at ih ⊢;refine tJ rfl ?_;repeat first|with_reducible constructor|(with_reducible apply tG);kernel_rfl;intro _ _;(repeat apply tOp;intro _;simp only[List.length_map,hget,h0,hw,d00,n0,h109,go_sem,Nat.reduceAdd,reduceIte];rfl);rfl;simp only[go_sem];rfl|(with_reducible apply t1);rfl;trivial
   exact ih
  |false =>
   simp only[Bool.false_or] at ih ⊢;refine tJ rfl ?_;repeat first|with_reducible constructor|(with_reducible apply tG);kernel_rfl;intro _ _;(repeat apply tOp;intro _;simp only[List.length_map,hget,h0,hw,d00,n0,h109,go_sem,Nat.reduceAdd,reduceIte];rfl);rfl;simp only[go_sem];rfl|(with_reducible apply t1);rfl;trivial
   exact ih
theorem loop100b (a0 a1 a3:Slot) (T:Sto) (ys:List Row):∀ (pre:List Row) (X:List AVal),(pre++ys).length < big→X.length+ys.length+1 < big →
  ∃ s2 s8 s9 s10 s12 s13 s14 s15 s16 s17 s18 s19 s20 s23 s26 s35 s50 s54 s80 s93 s97 s112 s130,LP kd 100 (loopOf Tryz.f100 1) ⟨[a0,a1,.val (.slice ((pre++ys).map Row.enc)),a3,.dead,.dead,.dead,.own 1 X,.val (.int .i64 (pre.length:Nat)),.dead,.dead,.dead,.dead,.dead,.dead,.dead,.dead,.dead,.dead,.dead,.dead,.dead,.dead,.dead,.dead,.dead,.dead],T⟩ =
   some (.exit 2,⟨[a0,a1,s2,a3,s8,s9,s10,.own 1 (X++(ys.map (·.2)).map rowE),s12,s13,s14,s15,s16,s17,s18,s19,s20,s23,s26,s35,s50,s54,s80,s93,s97,s112,s130],T⟩):=by
 induction ys with
 |nil =>
  intro pre X h3 h4;have hlt:=geI pre;simp only[List.map_nil,List.append_nil];iterate 23 apply Exists.intro
  refine tJ rfl ?_;repeat first|with_reducible constructor|(with_reducible apply tG);kernel_rfl;intro _ _;(repeat apply tOp;intro _;simp only[List.length_map,go_sem];rfl);rfl;simp only[go_sem];rfl|(with_reducible apply t0);rfl;trivial
  exact tlX;all_goals exact .dead
 |cons y ys ih =>
  intro pre X h3 h4;have hget:=getI Row.enc pre ys y;rw[Row.enc_eq] at hget;have hget2:=hget;rw[Int.toNat_natCast] at hget2;have hlt:=ltI pre ys y;have h0:=zI pre.length;have hw:=wL pre ys y h3;have hr:=roomI X (by simp at h4;omega);obtain ⟨s2,s8,s9,s10,s12,s13,s14,s15,s16,s17,s18,s19,s20,s23,s26,s35,s50,s54,s80,s93,s97,s112,s130,ih⟩:=ih (pre++[y]) (X++[rowE y.2]) (by simpa using h3) (by simp at h4 ⊢;omega);simp only[List.append_assoc,List.singleton_append] at ih;simp only[List.map_cons];simp only[rowE] at ih ⊢;refine ⟨s2,s8,s9,s10,s12,s13,s14,s15,s16,s17,s18,s19,s20,s23,s26,s35,s50,s54,s80,s93,s97,s112,s130,?_⟩;refine tJ rfl ?_;repeat first|with_reducible constructor|(with_reducible apply tG);kernel_rfl;intro _ _;(repeat apply tOp;intro _;simp only[List.length_map,hget2,h0,d00,n0,hw,hr,Bool.false_eq_true,d01,n1,leS,le1S,Int.toNat_natCast,takeP,head3,setElems,clean,flat,List.replicate,List.set_cons_zero,go_sem,Nat.reduceAdd,reduceIte];rfl);rfl;simp only[go_sem];rfl|(with_reducible apply t1);rfl;trivial
  exact ih
def underS (c:CoD):List Row→List (List PaD)
 |[]=>[]
 |y::ys=>match spreadD y.1 c with
  |some f=>(f++y.2)::underS c ys
  |none=>underS c ys
theorem loop100c (a0 a1 a3 a15:Slot) (T:Sto) (cs:List CoD) (i:Nat) (c:CoD) (hci:(cs.map CoD.enc)[((i:Nat):Int).toNat]?=some c.enc) (ys:List Row):∀ (pre:List Row) (X:List AVal),(pre++ys).length < big→X.length+ys.length+1 < big→(∀ y∈ys,c.args.length+y.2.length+1 < big∧y.1.args.length+y.2.length+1 < big) →
  ∃ s8 s9 s10 s11 s12 s16 s18 s19 s20 s23 s26 s35 s50 s54 s80 s93 s97 s112 s130,LP kd 100 (loopOf Tryz.f100 3) ⟨[a0,a1,.val (.slice ((pre++ys).map Row.enc)),a3,.dead,.dead,.dead,.dead,.dead,.val (.slice (cs.map CoD.enc)),.val (.int .i64 (i:Nat)),a15,.dead,.own 1 X,.val (.int .i64 (pre.length:Nat)),.dead,.dead,.dead,.dead,.dead,.dead,.dead,.dead,.dead,.dead,.dead,.dead],T⟩ =
   some (.exit 6,⟨[a0,a1,.val (.slice ((pre++ys).map Row.enc)),a3,s8,s9,s10,s11,s12,.val (.slice (cs.map CoD.enc)),.val (.int .i64 (i:Nat)),a15,s16,.own 1 (X++(underS c ys).map rowE),s18,s19,s20,s23,s26,s35,s50,s54,s80,s93,s97,s112,s130],T⟩):=by
 have hi:=zI i;induction ys with
 |nil =>
  intro pre X h3 h4 h5;have hlt:=geI pre;simp only[underS,List.map_nil,List.append_nil];iterate 19 apply Exists.intro
  refine tJ rfl ?_;repeat first|with_reducible constructor|(with_reducible apply tG);kernel_rfl;intro _ _;(repeat apply tOp;intro _;simp only[List.length_map,go_sem];rfl);rfl;simp only[go_sem];rfl|(with_reducible apply t0);rfl;trivial
  exact tlX;all_goals exact .dead
 |cons y ys ih =>
  intro pre X h3 h4 h5;have hget:=getI Row.enc pre ys y;rw[Row.enc_eq] at hget;have hlt:=ltI pre ys y;have h0:=zI pre.length;have hw:=wL pre ys y h3;have hr:=roomI X (by simp at h4;omega);have hy:=h5 y (by simp);have h154:=c154 (kd:=kd) y.1 y.2 c hy.1 hy.2 T;simp only[List.map_cons] at h154;rw[y.1.enc_eq,c.enc_eq] at h154;rw[c.enc_eq] at hci;simp only[underS];unfold spreadE at h154;cases hs:spreadD y.1 c with
  |none =>
   rw[hs] at h154;simp only[Option.isSome_none,List.map_nil] at h154;obtain ⟨s8,s9,s10,s11,s12,s16,s18,s19,s20,s23,s26,s35,s50,s54,s80,s93,s97,s112,s130,ih⟩:=ih (pre++[y]) X (by simpa using h3) (by simp at h4;omega) (fun x hx=>h5 x (by simp [hx]));simp only[List.append_assoc,List.singleton_append] at ih;refine ⟨s8,s9,s10,s11,s12,s16,s18,s19,s20,s23,s26,s35,s50,s54,s80,s93,s97,s112,s130,?_⟩;refine tJ rfl ?_;repeat first|with_reducible constructor|(with_reducible apply tG);kernel_rfl;intro _ _;(repeat apply tOp;intro _;simp only[List.length_map,hget,hci,hi,h0,h154,hw,go_sem];rfl);rfl;simp only[go_sem];rfl|(with_reducible apply t1);rfl;trivial|(with_reducible apply t0);rfl;trivial
   exact ih
  |some f =>
   rw[hs] at h154;simp only[Option.isSome_some] at h154;obtain ⟨s8,s9,s10,s11,s12,s16,s18,s19,s20,s23,s26,s35,s50,s54,s80,s93,s97,s112,s130,ih⟩:=ih (pre++[y]) (X++[rowE (f++y.2)]) (by simpa using h3) (by simp at h4 ⊢;omega) (fun x hx=>h5 x (by simp [hx]));simp only[List.append_assoc,List.singleton_append] at ih;simp only[List.map_cons];simp only[rowE] at ih ⊢;refine ⟨s8,s9,s10,s11,s12,s16,s18,s19,s20,s23,s26,s35,s50,s54,s80,s93,s97,s112,s130,?_⟩;refine tJ rfl ?_;repeat first|with_reducible constructor|(with_reducible apply tG);kernel_rfl;intro _ _;(repeat apply tOp;intro _;simp only[List.length_map,hget,hci,hi,h0,h154,hw,hr,setElems,clean,flat,List.replicate,List.set_cons_zero,List.set_cons_succ,go_sem];rfl);rfl;simp only[go_sem];rfl|(with_reducible apply t1);rfl;trivial
   exact ih
end
section
open Go.AM
set_option maxRecDepth 100000
set_option maxHeartbeats 4000000
variable {kd:List UInt8→Int}
structure BndU (c:CoD) (ts:List TyD) (q:Row) (rows:List Row):Prop where
 b1:c.args.length+ts.length+1 < big
 b2:∀ y∈q::rows,c.args.length+y.2.length+1 < big∧y.1.args.length+y.2.length+1 < big
theorem loop100d (ds:List DaD) (t:TyD) (ts:List TyD) (q0:PaD) (qt:List PaD) (rows:List Row) (hrl:rows.length+1 < big) (T:Sto) (Xf:CoD→Bool) (ys:List CoD):∀ (pre:List CoD),(pre++ys).length < big→(∀ c∈ys,BndU c ts (q0,qt) rows) →
  (∀ c∈ys,∀ f,spreadD q0 c=some f→CF kd (.fn 100) [.val (.slice (ds.map DaD.enc)),.val (.slice ((c.args++ts).map TyD.enc)),.val (.slice ((underS c rows).map rowE)),.val (.slice ((f++qt).map PaD.enc))] T=some (.ret (.val (.bool (Xf c))),T)) →
  ∃ s0 s1 s2 s3 s8 s9 s10 s11 s12 s13 s14 s15 s16 s17 s18 s19 s20 s23 s26 s35 s50 s54 s80 s93 s97 s112 s130,LP kd 100 (loopOf Tryz.f100 2) ⟨[.val (.slice (ds.map DaD.enc)),.val (.slice ((t::ts).map TyD.enc)),.val (.slice (rows.map Row.enc)),.val (.slice ((q0::qt).map PaD.enc)),.dead,.dead,.dead,.dead,.dead,.val (.slice ((pre++ys).map CoD.enc)),.val (.int .i64 (pre.length:Nat)),.dead,.dead,.dead,.dead,.dead,.dead,.dead,.dead,.dead,.dead,.dead,.dead,.dead,.dead,.dead,.dead],T⟩ =
   bif ys.any (fun c=>(spreadD q0 c).isSome&&Xf c) then some (.ret,⟨[s0,s1,s2,s3,.val (.bool true),s9,s10,s11,s12,s13,s14,s15,s16,s17,s18,s19,s20,s23,s26,s35,s50,s54,s80,s93,s97,s112,s130],T⟩) else some (.exit 4,⟨[s0,s1,s2,s3,s8,s9,s10,s11,s12,s13,s14,s15,s16,s17,s18,s19,s20,s23,s26,s35,s50,s54,s80,s93,s97,s112,s130],T⟩):=by
 induction ys with
 |nil =>
  intro pre h3 hb hX;have hlt:=geI pre;simp only[List.append_nil,List.any_nil,cond_false];iterate 27 apply Exists.intro
  refine tJ rfl ?_;repeat first|with_reducible constructor|(with_reducible apply tG);kernel_rfl;intro _ _;(repeat apply tOp;intro _;simp only[List.length_map,go_sem];rfl);rfl;simp only[go_sem];rfl|(with_reducible apply t0);rfl;trivial
  exact tlX;all_goals exact .dead
 |cons c ys ih =>
  intro pre h3 hb hX;have hget:=getI CoD.enc pre ys c;have hlt:=ltI pre ys c;have h0:=zI pre.length;have hw:=wL pre ys c h3;have hc:=hb c (by simp);have hqb:=hc.b2 (q0,qt) (by simp);have h154:=c154 (kd:=kd) q0 qt c hqb.1 hqb.2 T;have e0:((0:Nat):Int)=0:=rfl;have hci:=hget;rw[c.enc_eq] at hget h154;have hget2:=hget;rw[Int.toNat_natCast] at hget2;unfold spreadE at h154;rw[List.map_cons] at h154;simp only[List.any_cons];cases hs:spreadD q0 c with
  |none =>
   rw[hs] at h154;simp only[Option.isSome_none,List.map_nil] at h154;simp only[Option.isSome_none,Bool.false_and,Bool.false_or];obtain ⟨s0,s1,s2,s3,s8,s9,s10,s11,s12,s13,s14,s15,s16,s17,s18,s19,s20,s23,s26,s35,s50,s54,s80,s93,s97,s112,s130,ih⟩:=ih (pre++[c]) (by simpa using h3) (fun x hx=>hb x (by simp [hx])) (fun x hx=>hX x (by simp [hx]));simp only[List.append_assoc,List.singleton_append] at ih;refine ⟨s0,s1,s2,s3,s8,s9,s10,s11,s12,s13,s14,s15,s16,s17,s18,s19,s20,s23,s26,s35,s50,s54,s80,s93,s97,s112,s130,?_⟩;cases hz:ys.any (fun c=>(spreadD q0 c).isSome&&Xf c)
   all_goals
    rw[hz] at ih;simp only[cond_true,cond_false] at ih ⊢;refine tJ rfl ?_;repeat first|with_reducible constructor|(with_reducible apply tG);kernel_rfl;intro _ _;(repeat apply tOp;intro _;simp only[List.length_map,hget,h0,h154,hw,go_sem];rfl);rfl;simp only[go_sem];rfl|(with_reducible apply t1);rfl;trivial
    exact ih
  |some f =>
   rw[hs] at h154;simp only[Option.isSome_some] at h154;simp only[Option.isSome_some,Bool.true_and];have h100:=hX c (by simp) f hs;rw[List.map_append] at h100;obtain ⟨s8,s9,s10,s11,s12,s16,s18,s19,s20,s23,s26,s35,s50,s54,s80,s93,s97,s112,s130,hl⟩:=loop100c (kd:=kd) (.val (.slice (ds.map DaD.enc))) (.val (.slice ((t::ts).map TyD.enc))) (.val (.slice ((q0::qt).map PaD.enc))) (.val (.slice ((f++qt).map PaD.enc))) T (pre++c::ys) pre.length c hci rows [] [] (by simp only[List.nil_append];omega) (by simp only[List.length_nil];omega) (fun y hy=>hc.b2 y (by simp [hy]));simp only[List.nil_append,List.length_nil] at hl;rw[e0] at hl;have hra:=roomA c.args.length ts.length (by have:=hc.b1;omega);have hrb:=roomA 0 c.args.length (by have:=hc.b1;omega);rw[Nat.zero_add] at hrb;have ha2:=all2 c.args;have ha22:=all2 ts;cases hx:Xf c with
   |true =>
    rw[hx] at h100;simp only[Bool.true_or,cond_true];iterate 27 apply Exists.intro
    refine tJ rfl ?_;repeat first|with_reducible constructor|(with_reducible apply tG);kernel_rfl;intro _ _;(repeat apply tOp;intro _;simp only[List.length_map,hget,h0,h154,hget2,hra,hrb,ha2,ha22,h100,Bool.false_eq_true,List.replicate,d00,d01,n0,n1,leS,eqS,le1S,zI,Int.toNat_natCast,takeP,takeT,head3,headT,Nat.add_zero,go_sem,Nat.reduceAdd,reduceIte];rfl);rfl;simp only[go_sem];rfl|(with_reducible apply tM);assumption|(with_reducible apply t1);rfl;trivial|(with_reducible apply t0);rfl;trivial
    exact tlE;all_goals exact .dead
   |false =>
    rw[hx] at h100;simp only[Bool.false_or];obtain ⟨s0,s1,s2,s3,s8,s9,s10,s11,s12,s13,s14,s15,s16,s17,s18,s19,s20,s23,s26,s35,s50,s54,s80,s93,s97,s112,s130,ih⟩:=ih (pre++[c]) (by simpa using h3) (fun x hx=>hb x (by simp [hx])) (fun x hx=>hX x (by simp [hx]));simp only[List.append_assoc,List.singleton_append] at ih;refine ⟨s0,s1,s2,s3,s8,s9,s10,s11,s12,s13,s14,s15,s16,s17,s18,s19,s20,s23,s26,s35,s50,s54,s80,s93,s97,s112,s130,?_⟩;cases hz:ys.any (fun c=>(spreadD q0 c).isSome&&Xf c)
    all_goals
     rw[hz] at ih;simp only[cond_true,cond_false] at ih ⊢;refine tJ rfl ?_;repeat first|with_reducible constructor|(with_reducible apply tG);kernel_rfl;intro _ _;(repeat apply tOp;intro _;simp only[List.length_map,hget,h0,h154,hget2,hra,hrb,ha2,ha22,h100,Bool.false_eq_true,List.replicate,d00,d01,n0,n1,leS,eqS,le1S,zI,Int.toNat_natCast,takeP,takeT,head3,headT,Nat.add_zero,hw,go_sem,Nat.reduceAdd,reduceIte];rfl);rfl;simp only[go_sem];rfl|(with_reducible apply tM);assumption|(with_reducible apply t1);rfl;trivial|(with_reducible apply t0);rfl;trivial
     exact ih
end
end Go.Proofs.YtkmnkiekmlcfdaaGreatDoor
end
section
namespace Go.Proofs.YtkmnkiekmlcfdaaGreatDoor
open Go.AM
set_option maxRecDepth 100000
set_option maxHeartbeats 4000000
variable {kd:List UInt8→Int}
inductive Usf (ds:List DaD):List TyD→List (List PaD)→List PaD→Bool→Prop
 |free {ts q}:Usf ds ts [] q true
 |done {r rs q}:Usf ds [] (r::rs) q false
 |skip {t ts q0 qt r rs b}:(r::rs).length+1 < big→tstD (!(q0.kind != 3)) (r::rs)=false→Usf ds ts ((r::rs).map (·.2)) qt b→Usf ds (t::ts) (rowsL (r::rs)) (q0::qt) b
 |con {t ts q0 qt r rs} {X:CoD→Bool}:(r::rs).length+1 < big→tstD (!(q0.kind != 3)) (r::rs)=true→(∀ c∈consD ds t,BndU c ts (q0,qt) (r::rs)) →
   (∀ c∈consD ds t,∀ f,spreadD q0 c=some f→Usf ds (c.args++ts) (underS c (r::rs)) (f++qt) (X c))→Usf ds (t::ts) (rowsL (r::rs)) (q0::qt) ((consD ds t).any fun c=>(spreadD q0 c).isSome&&X c)
theorem c100 {ds:List DaD} (h:DsOk ds) {ts:List TyD} {rows:List (List PaD)} {q:List PaD} {b:Bool} (hu:Usf ds ts rows q b):∀ T:Sto,
  CF kd (.fn 100) [.val (.slice (ds.map DaD.enc)),.val (.slice (ts.map TyD.enc)),.val (.slice (rows.map rowE)),.val (.slice (q.map PaD.enc))] T=some (.ret (.val (.bool b)),T):=by
 induction hu with
 |free =>
  intro T;rw[List.map_nil];apply tA;rfl;rfl;exact Tryz.func100;rfl;rfl;simp only[go_sem];rfl;refine tQ ?_;repeat first|with_reducible constructor|(with_reducible apply tG);kernel_rfl;intro _ _;(repeat apply tOp;intro _;simp only[eq00,go_sem];rfl);rfl;simp only[go_sem];rfl|(with_reducible apply t1);rfl;trivial
  exact fin0 rfl
 |@done r rs q =>
  intro T;have h1:=eqS1 rs.length;rw[List.map_cons];apply tA;rfl;rfl;exact Tryz.func100;rfl;rfl;simp only[go_sem];rfl;refine tQ ?_;repeat first|with_reducible constructor|(with_reducible apply tG);kernel_rfl;intro _ _;(repeat apply tOp;intro _;simp only[h1,eq00,List.length_map,List.length_cons,go_sem];rfl);rfl;simp only[go_sem];rfl|(with_reducible apply t1);rfl;trivial|(with_reducible apply t0);rfl;trivial
  exact fin0 rfl
 |@skip t ts q0 qt r rs b hb ht hu ih =>
  intro T;have ih:=ih T;simp only[List.map_cons] at ih;have h1:=eqS1 rs.length;have h2:=eqS1 ts.length;have h109:=c109 (kd:=kd) q0 T;have e0:((0:Nat):Int)=0:=rfl;obtain ⟨s8,s10,s11,s12,s13,s14,s15,s16,s17,s18,s19,s20,s23,s26,s35,s50,s54,s80,s93,s97,s112,s130,ha⟩:=loop100a (kd:=kd) (.val (.slice (ds.map DaD.enc))) (.val (.slice ((t::ts).map TyD.enc))) (.val (.slice ((q0::qt).map PaD.enc))) T (r::rs) [] (!(q0.kind != 3)) (by simp only[List.nil_append];omega);obtain ⟨m2,m8,m9,m10,m12,m13,m14,m15,m16,m17,m18,m19,m20,m23,m26,m35,m50,m54,m80,m93,m97,m112,m130,hl⟩:=loop100b (kd:=kd) (.val (.slice (ds.map DaD.enc))) (.val (.slice ((t::ts).map TyD.enc))) (.val (.slice ((q0::qt).map PaD.enc))) T (r::rs) [] [] (by simp only[List.nil_append];omega) (by simp only[List.length_nil];omega);simp only[List.nil_append,List.length_nil] at ha hl;rw[e0] at ha hl;rw[ht] at ha;rw[rowsL_enc];rw[q0.enc_eq] at h109;have hq:(q0::qt).map PaD.enc=.agg [.int .i64 q0.kind,.str q0.name,.slice (q0.args.map PaD.enc)]::qt.map PaD.enc:=by rw[List.map_cons,q0.enc_eq]
  rw[hq] at ha hl ⊢;apply tA;rfl;rfl;exact Tryz.func100;rfl;rfl;simp only[go_sem];rfl;refine tQ ?_;repeat first|with_reducible constructor|(with_reducible apply tG);kernel_rfl;intro _ _;(repeat apply tOp;intro _;simp only[h1,List.length_map,List.length_cons,h2,h109,d00,n0,ih,Bool.false_eq_true,d01,n1,leS,eqS,le1S,zI,Int.toNat_natCast,takeP,takeT,head3,headT,Nat.add_zero,go_sem,Nat.reduceAdd,reduceIte];rfl);rfl;simp only[go_sem];rfl|(with_reducible apply tM);assumption|(with_reducible apply t1);rfl;trivial|(with_reducible apply t0);rfl;trivial
  exact fin0 rfl
 |@con t ts q0 qt r rs X hb ht hbn hu ih =>
  intro T;have h1:=eqS1 rs.length;have h2:=eqS1 ts.length;have h109:=c109 (kd:=kd) q0 T;have h75:=c75 (kd:=kd) h t T;have e0:((0:Nat):Int)=0:=rfl;obtain ⟨s8,s10,s11,s12,s13,s14,s15,s16,s17,s18,s19,s20,s23,s26,s35,s50,s54,s80,s93,s97,s112,s130,ha⟩:=loop100a (kd:=kd) (.val (.slice (ds.map DaD.enc))) (.val (.slice ((t::ts).map TyD.enc))) (.val (.slice ((q0::qt).map PaD.enc))) T (r::rs) [] (!(q0.kind != 3)) (by simp only[List.nil_append];omega);obtain ⟨m0,m1,m2,m3,m8,m9,m10,m11,m12,m13,m14,m15,m16,m17,m18,m19,m20,m23,m26,m35,m50,m54,m80,m93,m97,m112,m130,hl⟩:=loop100d (kd:=kd) ds t ts q0 qt (r::rs) hb T X (consD ds t) [] (by simpa using consD_len h t) hbn (fun c hc f hf=>ih c hc f hf T);simp only[List.nil_append,List.length_nil] at ha hl;rw[e0] at ha hl;rw[ht] at ha;rw[rowsL_enc];rw[q0.enc_eq] at h109;have hq:(q0::qt).map PaD.enc=.agg [.int .i64 q0.kind,.str q0.name,.slice (q0.args.map PaD.enc)]::qt.map PaD.enc:=by rw[List.map_cons,q0.enc_eq]
  have htt:(t::ts).map TyD.enc=.agg [.str t.name,.slice (t.args.map TyD.enc)]::ts.map TyD.enc:=by rw[List.map_cons,t.enc_eq]
  rw[t.enc_eq] at h75;rw[hq,htt] at ha hl ⊢;cases hz:(consD ds t).any fun c=>(spreadD q0 c).isSome&&X c
  all_goals
   rw[hz] at hl;simp only[cond_true,cond_false] at hl;apply tA;rfl;rfl;exact Tryz.func100;rfl;rfl;simp only[go_sem];rfl;refine tQ ?_;repeat first|with_reducible constructor|(with_reducible apply tG);kernel_rfl;intro _ _;(repeat apply tOp;intro _;simp only[h1,List.length_map,List.length_cons,h2,h109,d00,n0,h75,go_sem,Nat.reduceAdd,reduceIte];rfl);rfl;simp only[go_sem];rfl|(with_reducible apply tM);assumption|(with_reducible apply t0);rfl;trivial
   exact fin0 rfl
end Go.Proofs.YtkmnkiekmlcfdaaGreatDoor
end
