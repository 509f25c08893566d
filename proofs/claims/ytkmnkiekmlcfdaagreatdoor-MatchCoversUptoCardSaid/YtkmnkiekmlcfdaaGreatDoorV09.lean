/- Part V09 of the proof of one law of the program. -/
import Derived.Test.YtkmnkiekmlcfdaaGreatDoorV07
import Derived.Test.YtkmnkiekmlcfdaaGreatDoorS10
import Derived.Test.YtkmnkiekmlcfdaaGreatDoorV05
set_option linter.all false
section
namespace Go.Proofs.YtkmnkiekmlcfdaaGreatDoor
open Go.AM
section
open Go.AM
set_option maxRecDepth 100000
set_option maxHeartbeats 4000000
variable {kd:List UInt8→Int}
theorem loop50 (a0:Slot) (tn:List UInt8) (ta:List AVal) (pk:Int) (pn:List UInt8) (pa:List AVal) (T:Sto) (ys:List PaD):∀ (pre:List PaD) (X:List AVal),(pre++ys).length < big→X.length+ys.length+1 < big →
  ∃ s1 s2 s3 s8 s10 s14,LP kd 50 (loopOf Tryz.f50 0) ⟨[a0,.dead,.val (.slice ((pre++ys).map PaD.enc)),.dead,.box [.val (.str tn),.val (.slice ta)],.box [.val (.int .i64 pk),.val (.str pn),.val (.slice pa)],.dead,.own 1 X,.val (.int .i64 (pre.length:Nat)),.dead],T⟩ =
   some (.exit 0,⟨[a0,s1,s2,s3,.box [.val (.str tn),.val (.slice ta)],.box [.val (.int .i64 pk),.val (.str pn),.val (.slice pa)],s8,.own 1 (X++ys.map fun y=>rowE [y]),s10,s14],T⟩):=by
 induction ys with
 |nil =>
  intro pre X h3 h4;have hlt:=geI pre;simp only[List.map_nil,List.append_nil];iterate 6 apply Exists.intro
  refine tJ rfl ?_;repeat first|with_reducible constructor|(with_reducible apply tG);kernel_rfl;intro _ _;(repeat apply tOp;intro _;simp only[List.length_map,go_sem];rfl);rfl;simp only[go_sem];rfl|(with_reducible apply t0);rfl;trivial
  exact tlX;all_goals exact .dead
 |cons y ys ih =>
  intro pre X h3 h4;have hget:=getI PaD.enc pre ys y;rw[y.enc_eq] at hget;have hlt:=ltI pre ys y;have h0:=zI pre.length;have hw:=wL pre ys y h3;have hr:=roomI X (by simp at h4;omega);obtain ⟨s1,s2,s3,s8,s10,s14,ih⟩:=ih (pre++[y]) (X++[rowE [y]]) (by simpa using h3) (by simp at h4 ⊢;omega);simp only[List.append_assoc,List.singleton_append] at ih;simp only[List.map_cons];rw[show rowE [y]=.slice [.agg [.int .i64 y.kind,.str y.name,.slice (y.args.map PaD.enc)]] from by rw[←y.enc_eq];rfl] at ih ⊢;refine ⟨s1,s2,s3,s8,s10,s14,?_⟩;refine tJ rfl ?_;repeat first|with_reducible constructor|(with_reducible apply tG);kernel_rfl;intro _ _;(repeat apply tOp;intro _;simp only[List.length_map,hget,h0,hw,hr,setElems,clean,flat,List.replicate,List.set_cons_zero,List.set_cons_succ,go_sem];rfl);rfl;simp only[go_sem];rfl|(with_reducible apply t1);rfl;trivial
  exact ih
theorem c50 {ds:List DaD} (h:DsOk ds) (t:TyD) (l:List PaD) (p:PaD) (hl:l.length+1 < big) {b:Bool} (hu:Usf ds [t] (singleD l) [p] b) (T:Sto) :
  CF kd (.fn 50) [.val (.slice (ds.map DaD.enc)),.val t.enc,.val (.slice (l.map PaD.enc)),.val p.enc] T=some (.ret (.val (.bool b)),T):=by
 have h100:=c100 (kd:=kd) h hu T;obtain ⟨s1,s2,s3,s8,s10,s14,hlp⟩:=loop50 (kd:=kd) (.val (.slice (ds.map DaD.enc))) t.name (t.args.map TyD.enc) p.kind p.name (p.args.map PaD.enc) T l [] [] (by simp only[List.nil_append];omega) (by simp only[List.length_nil];omega);simp only[List.nil_append,List.length_nil] at hlp;have e0:((0:Nat):Int)=0:=rfl;rw[e0] at hlp;have e1:(l.map fun y=>rowE [y])=(singleD l).map rowE:=by simp [singleD]
 rw[e1] at hlp;rw[List.map_cons,List.map_nil,List.map_cons,List.map_nil] at h100;rw[t.enc_eq,p.enc_eq] at h100 ⊢;apply tA;rfl;rfl;exact Tryz.func50;rfl;rfl;simp only[go_sem];rfl;refine tQ ?_;repeat first|with_reducible constructor|(with_reducible apply tG);kernel_rfl;intro _ _;(repeat apply tOp;intro _;simp only[h100,setElems,clean,flat,List.replicate,List.set_cons_zero,List.set_cons_succ,go_sem];rfl);rfl;simp only[go_sem];rfl|(with_reducible apply tM);assumption
 exact fin0 rfl
theorem c10e {ds:List DaD} (h:DsOk ds) (hct:conTot ds+3 < big) (t:TyD) (ht:t.size < big) (l:List PaD) (hl:PaD.sizes l+1 < big) (he:(chkPsR ds t l != 0)=true) (T:Sto) :
  CF kd (.fn 10) [.val (.slice (ds.map DaD.enc)),.val t.enc,.val (.slice (l.map PaD.enc))] T=some (.ret (.tup [.bool false,.int .i64 (chkPsR ds t l)]),T):=by
 have h40:=c40 (kd:=kd) h hct t ht l hl T;rw[t.enc_eq] at h40 ⊢;apply tA;rfl;rfl;exact Tryz.func10;rfl;rfl;simp only[go_sem];rfl;refine tQ ?_;repeat first|with_reducible constructor|(with_reducible apply tG);kernel_rfl;intro _ _;(repeat apply tOp;intro _;simp only[h40,go_sem];rfl);rfl;simp only[go_sem];rfl|(with_reducible apply t1);rfl;trivial
 exact fin0 rfl
theorem c10o {ds:List DaD} (h:DsOk ds) (hct:conTot ds+3 < big) (t:TyD) (ht:t.size < big) (l:List PaD) (hl:PaD.sizes l+1 < big) (he:chkPsR ds t l=0) {b:Bool} (hu:Usf ds [t] (singleD l) [wildD] b) (T:Sto) :
  CF kd (.fn 10) [.val (.slice (ds.map DaD.enc)),.val t.enc,.val (.slice (l.map PaD.enc))] T=some (.ret (.tup [.bool (!b),.int .i64 0]),T):=by
 have h40:=c40 (kd:=kd) h hct t ht l hl T;have h50:=c50 (kd:=kd) h t l wildD (by have:=PaD.sizes_len l;omega) hu T;rw[he] at h40;rw[wildD_enc] at h50;rw[t.enc_eq] at h40 h50 ⊢;apply tA;rfl;rfl;exact Tryz.func10;rfl;rfl;simp only[go_sem];rfl;refine tQ ?_;repeat first|with_reducible constructor|(with_reducible apply tG);kernel_rfl;intro _ _;(repeat apply tOp;intro _;simp only[h40,h50,setElems,clean,flat,List.replicate,List.set_cons_zero,List.set_cons_succ,go_sem];rfl);rfl;simp only[go_sem];rfl|(with_reducible apply t0);rfl;trivial
 exact fin0 rfl
theorem loop12 {ds:List DaD} (h:DsOk ds) (t:TyD) (R:Nat→Option (List PaD)) (T:Sto) (l0:List PaD) (hR:∀ i y,l0[i]?=some y→Usf ds [t] (singleD (l0.take i)) [y] (R i).isSome) (ys:List PaD):∀ (pre:List PaD) (X:List AVal),l0=pre++ys→(pre++ys).length+1 < big→X.length+ys.length+1 < big →
  ∃ s0 s1 s2 s4 s6 s7 s8 s10 s16 s21 s35,LP kd 12 (loopOf Tryz.f12 0) ⟨[.val (.slice (ds.map DaD.enc)),.dead,.val (.slice (l0.map PaD.enc)),.box [.val (.str t.name),.val (.slice (t.args.map TyD.enc))],.dead,.dead,.dead,.own 1 X,.val (.int .i64 (pre.length:Nat)),.dead,.dead,.dead],T⟩ =
   some (.exit 0,⟨[s0,s1,s2,s4,s6,s7,s8,.own 1 (X++(usel R pre.length ys).map intE),s10,s16,s21,s35],T⟩):=by
 induction ys with
 |nil =>
  intro pre X hl h3 h4;subst hl;have hlt:=geI pre;simp only[usel,List.map_nil,List.append_nil];iterate 11 apply Exists.intro
  refine tJ rfl ?_;repeat first|with_reducible constructor|(with_reducible apply tG);kernel_rfl;intro _ _;(repeat apply tOp;intro _;simp only[List.length_map,go_sem];rfl);rfl;simp only[go_sem];rfl|(with_reducible apply t0);rfl;trivial
  exact tlX;all_goals exact .dead
 |cons y ys ih =>
  intro pre X hl h3 h4;have hu:=hR pre.length y (by rw[hl];simp);have htk:l0.take pre.length=pre:=by rw[hl];simp
  rw[htk] at hu;have h50:=c50 (kd:=kd) h t pre y (by simp at h3;omega) hu T;have hlt:=ltI pre ys y;have hget:=getI PaD.enc pre ys y;have hw:=wL pre ys y (by omega);have hll:l0.length=(pre++y::ys).length:=by rw[hl]
  rw[←hl] at hlt hget;have hget2:=hget;rw[Int.toNat_natCast] at hget2;have h0:=zI pre.length;have hr:=roomI X (by simp at h4;omega)
  have hcut2:(l0.map PaD.enc).take ((pre.length:Nat):Int).toNat=pre.map PaD.enc:=by
   rw[Int.toNat_natCast,hl,List.map_append,List.take_left' (by simp)]
  have hcut3:(l0.map PaD.enc).take pre.length=pre.map PaD.enc:=by
   rw[hl,List.map_append,List.take_left' (by simp)]
  have hle3:decide (((pre.length:Nat):Int)≤((l0.length:Nat):Int))=true:=by rw[hll];simp;omega
  have heq3:decide (((pre.length:Nat):Int)=((pre.length:Nat):Int))=true:=by simp
  have hd3:=head3 pre;rw[t.enc_eq,y.enc_eq] at h50;rw[y.enc_eq] at hget hget2;cases hq:R pre.length with
  |some w =>
   obtain ⟨s0,s1,s2,s4,s6,s7,s8,s10,s16,s21,s35,ih⟩:=ih (pre++[y]) X (by rw[hl];simp) (by rw[←List.append_cons];exact h3) (by simp at h4 ⊢;omega);rw[show (pre++[y]).length=pre.length+1 by simp] at ih;simp only[usel,hq,Option.isSome_some,cond_true];rw[hq] at h50;simp only[Option.isSome_some] at h50;refine ⟨s0,s1,s2,s4,s6,s7,s8,s10,s16,s21,s35,?_⟩;refine tJ rfl ?_;repeat first|with_reducible constructor|(with_reducible apply tG);kernel_rfl;intro _ _;(repeat apply tOp;intro _;simp only[List.length_map,d00,n0,h0,hget,hcut2,hle3,heq3,hd3,Bool.false_eq_true,h50,List.drop_zero,hw,List.length_append,List.length_cons,List.length_nil,go_sem,Nat.reduceAdd,reduceIte];rfl);rfl;simp only[go_sem];rfl|(with_reducible apply t1);rfl;trivial|(with_reducible apply t0);rfl;trivial
   exact ih
  |none =>
   obtain ⟨s0,s1,s2,s4,s6,s7,s8,s10,s16,s21,s35,ih⟩:=ih (pre++[y]) (X++[intE pre.length]) (by rw[hl];simp) (by rw[←List.append_cons];exact h3) (by simp at h4 ⊢;omega);rw[show (pre++[y]).length=pre.length+1 by simp] at ih;simp only[List.append_assoc,List.singleton_append] at ih;simp only[usel,hq,Option.isSome_none,cond_false,List.map_cons];rw[hq] at h50;simp only[Option.isSome_none] at h50;refine ⟨s0,s1,s2,s4,s6,s7,s8,s10,s16,s21,s35,?_⟩;refine tJ rfl ?_;repeat first|with_reducible constructor|(with_reducible apply tG);kernel_rfl;intro _ _;(repeat apply tOp;intro _;simp only[List.length_map,d00,n0,h0,hget,hcut2,hle3,heq3,hd3,Bool.false_eq_true,h50,List.drop_zero,hw,hr,setElems,clean,flat,List.replicate,List.set_cons_zero,List.length_append,List.length_cons,List.length_nil,go_sem,Nat.reduceAdd,reduceIte];rfl);rfl;simp only[go_sem];rfl|(with_reducible apply t1);rfl;trivial
   exact ih
theorem c12e {ds:List DaD} (h:DsOk ds) (hct:conTot ds+3 < big) (t:TyD) (ht:t.size < big) (l:List PaD) (hl:PaD.sizes l+1 < big) (he:(chkPsR ds t l != 0)=true) (T:Sto) :
  CF kd (.fn 12) [.val (.slice (ds.map DaD.enc)),.val t.enc,.val (.slice (l.map PaD.enc))] T=some (.ret (.tup [.slice [],.int .i64 (chkPsR ds t l)]),T):=by
 have h40:=c40 (kd:=kd) h hct t ht l hl T;rw[t.enc_eq] at h40 ⊢;apply tA;rfl;rfl;exact Tryz.func12;rfl;rfl;simp only[go_sem];rfl;refine tQ ?_;repeat first|with_reducible constructor|(with_reducible apply tG);kernel_rfl;intro _ _;(repeat apply tOp;intro _;simp only[h40,go_sem];rfl);rfl;simp only[go_sem];rfl|(with_reducible apply t1);rfl;trivial
 exact fin0 rfl
theorem c12o {ds:List DaD} (h:DsOk ds) (hct:conTot ds+3 < big) (t:TyD) (ht:t.size < big) (l:List PaD) (hl:PaD.sizes l+1 < big) (he:chkPsR ds t l=0) (R:Nat→Option (List PaD)) (hR:∀ i y,l[i]?=some y→Usf ds [t] (singleD (l.take i)) [y] (R i).isSome) (T:Sto) :
  CF kd (.fn 12) [.val (.slice (ds.map DaD.enc)),.val t.enc,.val (.slice (l.map PaD.enc))] T=some (.ret (.tup [.slice ((usel R 0 l).map intE),.int .i64 0]),T):=by
 have h40:=c40 (kd:=kd) h hct t ht l hl T;have hll:=PaD.sizes_len l;obtain ⟨s0,s1,s2,s4,s6,s7,s8,s10,s16,s21,s35,hlp⟩:=loop12 (kd:=kd) h t R T l hR l [] [] rfl (by simp only[List.nil_append];omega) (by simp only[List.length_nil];omega);simp only[List.nil_append,List.length_nil] at hlp;have e0:((0:Nat):Int)=0:=rfl;rw[e0] at hlp;rw[he] at h40;rw[t.enc_eq] at h40 ⊢;apply tA;rfl;rfl;exact Tryz.func12;rfl;rfl;simp only[go_sem];rfl;refine tQ ?_;repeat first|with_reducible constructor|(with_reducible apply tG);kernel_rfl;intro _ _;(repeat apply tOp;intro _;simp only[h40,go_sem];rfl);rfl;simp only[go_sem];rfl|(with_reducible apply tM);assumption|(with_reducible apply t0);rfl;trivial
 exact fin0 rfl
end
section
open Go.AM
set_option maxRecDepth 100000
set_option maxHeartbeats 4000000
variable {kd:List UInt8→Int}
def allZ (m:PaD→PaD→Bool):List PaD→List PaD→Bool
 |a::us,b::vs=>m a b&&allZ m us vs
 |_,_=>true
def meetG (o:PaD→Bool):Nat→PaD→PaD→Bool
 |0,_,_=>true
 |n+1,p,q=>o p||(o q||((p.name==q.name)&&(((p.args.length:Nat):Int)==((q.args.length:Nat):Int))&&allZ (meetG o n) p.args q.args))
theorem loop103 (m:PaD→PaD→Bool) (g:FuncId) (hg:(ans g).ownArg=[]) (T:Sto) (us:List PaD):∀ (vs preA preB:List PaD),(preA++us).length < big→preA.length=preB.length→us.length=vs.length →
  (∀ a∈us,∀ b∈vs,CF kd (.fn g) [.val a.enc,.val b.enc] T=some (.ret (.val (.bool (m a b))),T)) →
  ∃ s0 s1 s2 s6 s7 s8 s9 s14 s15 s16 s17 s18 s30,LP kd 103 (loopOf Tryz.f103 0) ⟨[.dead,.val (.slice ((preB++vs).map PaD.enc)),.val (.func g []),.dead,.dead,.dead,.dead,.dead,.val (.slice ((preA++us).map PaD.enc)),.val (.int .i64 ((preA++us).length:Nat)),.val (.int .i64 (preA.length:Nat)),.dead,.dead],T⟩ =
   bif allZ m us vs then some (.exit 0,⟨[s0,s1,s2,s6,s7,s8,s9,s14,s15,s16,s17,s18,s30],T⟩) else some (.ret,⟨[s0,s1,s2,.val (.bool false),s7,s8,s9,s14,s15,s16,s17,s18,s30],T⟩):=by
 induction us with
 |nil =>
  intro vs preA preB h3 hl hab hm;have hlt:=geI preA;simp only[allZ,cond_true,List.append_nil];iterate 13 apply Exists.intro
  refine tJ rfl ?_;repeat first|with_reducible constructor|(with_reducible apply tG);kernel_rfl;intro _ _;(repeat apply tOp;intro _;simp only[go_sem];rfl);rfl;simp only[go_sem];rfl|(with_reducible apply t0);rfl;trivial
  exact tlX;all_goals exact .dead
 |cons a us ih =>
  intro vs preA preB h3 hl hab hm;cases vs with
  |nil=>simp at hab
  |cons b vs =>
  have hgetA:=getI PaD.enc preA us a;have hgetB:=getI PaD.enc preB vs b;rw[←hl] at hgetB;have hlt:=ltI preA us a;have h0:=zI preA.length;have hw:=wL preA us a h3;have hc:=hm a (by simp) b (by simp);rw[a.enc_eq] at hgetA hc;rw[b.enc_eq] at hgetB hc;simp only[allZ];cases hmm:m a b with
  |false =>
   rw[hmm] at hc;simp only[Bool.false_and,cond_false];iterate 13 apply Exists.intro
   refine tJ rfl ?_;repeat first|with_reducible constructor|(with_reducible apply tG);kernel_rfl;intro _ _;(repeat apply tOp;intro _;simp only[hgetA,hgetB,h0,hc,hg,go_sem];rfl);rfl;simp only[go_sem];rfl|(with_reducible apply t1);rfl;trivial
   exact tlE;all_goals exact .dead
  |true =>
   rw[hmm] at hc;obtain ⟨s0,s1,s2,s6,s7,s8,s9,s14,s15,s16,s17,s18,s30,ih⟩:=ih vs (preA++[a]) (preB++[b]) (by simpa using h3) (by simp [hl]) (by simpa using hab) (fun x hx y hy=>hm x (by simp [hx]) y (by simp [hy]));simp only[List.append_assoc,List.singleton_append] at ih;simp only[Bool.true_and];refine ⟨s0,s1,s2,s6,s7,s8,s9,s14,s15,s16,s17,s18,s30,?_⟩;cases hz:allZ m us vs
   all_goals
    rw[hz] at ih;simp only[cond_true,cond_false] at ih ⊢;refine tJ rfl ?_;repeat first|with_reducible constructor|(with_reducible apply tG);kernel_rfl;intro _ _;(repeat apply tOp;intro _;simp only[hgetA,hgetB,h0,hc,hg,hw,go_sem];rfl);rfl;simp only[go_sem];rfl|(with_reducible apply t1);rfl;trivial|(with_reducible apply t0);rfl;trivial
    exact ih
theorem c103 (m:PaD→PaD→Bool) (g:FuncId) (hg:(ans g).ownArg=[]) (us vs:List PaD) (hl:us.length < big) (hm:∀ a∈us,∀ b∈vs,∀ T,CF kd (.fn g) [.val a.enc,.val b.enc] T=some (.ret (.val (.bool (m a b))),T)) (T:Sto) :
  CF kd (.fn 103) [.val (.slice (us.map PaD.enc)),.val (.slice (vs.map PaD.enc)),.val (.func g [])] T=some (.ret (.val (.bool ((((us.length:Nat):Int)==((vs.length:Nat):Int))&&allZ m us vs))),T):=by
 cases hne:(((us.length:Nat):Int)==((vs.length:Nat):Int)) with
 |false =>
  have hne2:(((us.length:Nat):Int) != ((vs.length:Nat):Int))=true:=by rw[bne,hne];rfl
  simp only[Bool.false_and];apply tA;rfl;rfl;exact Tryz.func103;rfl;rfl;simp only[go_sem];rfl;refine tQ ?_;repeat first|with_reducible constructor|(with_reducible apply tG);kernel_rfl;intro _ _;(repeat apply tOp;intro _;simp only[List.length_map,go_sem];rfl);rfl;simp only[go_sem];rfl|(with_reducible apply t1);rfl;trivial
  exact fin0 rfl
 |true =>
  have hne2:(((us.length:Nat):Int) != ((vs.length:Nat):Int))=false:=by rw[bne,hne];rfl
  obtain ⟨s0,s1,s2,s6,s7,s8,s9,s14,s15,s16,s17,s18,s30,hlp⟩:=loop103 (kd:=kd) m g hg T us vs [] [] (by simpa using hl) rfl (by have:=eq_of_beq hne;omega) (fun a ha b hb=>hm a ha b hb T);simp only[List.nil_append,List.length_nil] at hlp;have e0:((0:Nat):Int)=0:=rfl;rw[e0] at hlp;simp only[Bool.true_and];cases hz:allZ m us vs
  all_goals
   rw[hz] at hlp;simp only[cond_true,cond_false] at hlp;apply tA;rfl;rfl;exact Tryz.func103;rfl;rfl;simp only[go_sem];rfl;refine tQ ?_;repeat first|with_reducible constructor|(with_reducible apply tG);kernel_rfl;intro _ _;(repeat apply tOp;intro _;simp only[List.length_map,go_sem];rfl);rfl;simp only[go_sem];rfl|(with_reducible apply tM);assumption|(with_reducible apply t0);rfl;trivial
   exact fin0 rfl
theorem ann58:(ans 58).ownArg=[]:=by rw[an58]
theorem c58:∀ (n:Nat) (p q:PaD),p.size < n→n < big→∀ T:Sto,CF kd (.fn 58) [.val p.enc,.val q.enc] T=some (.ret (.val (.bool (meetG PaD.open n p q))),T):=by
 intro n;induction n with
 |zero=>intro p q h;omega
 |succ n ih =>
  intro p q hp hn T;have h1:=c102 (kd:=kd) p T;have h2:=c102 (kd:=kd) q T;have hlen:=p.args_len;have h103:=c103 (kd:=kd) (meetG PaD.open n) 58 ann58 p.args q.args (by omega) (fun a ha b hb T=>ih a b (by have:=PaD.args_size ha;omega) (by omega) T) T;simp only[meetG];rw[p.enc_eq] at h1 ⊢;rw[q.enc_eq] at h2 ⊢;cases g1:p.open with
  |true =>
   rw[g1] at h1;simp only[Bool.true_or];apply tA;rfl;rfl;exact Tryz.func58;rfl;rfl;simp only[go_sem];rfl;refine tQ ?_;repeat first|with_reducible constructor|(with_reducible apply tG);kernel_rfl;intro _ _;(repeat apply tOp;intro _;simp only[h1,go_sem];rfl);rfl;simp only[go_sem];rfl|(with_reducible apply t1);rfl;trivial
   exact fin0 rfl
  |false =>
   rw[g1] at h1;simp only[Bool.false_or];cases g2:q.open with
   |true =>
    rw[g2] at h2;simp only[Bool.true_or];apply tA;rfl;rfl;exact Tryz.func58;rfl;rfl;simp only[go_sem];rfl;refine tQ ?_;repeat first|with_reducible constructor|(with_reducible apply tG);kernel_rfl;intro _ _;(repeat apply tOp;intro _;simp only[h1,h2,go_sem];rfl);rfl;simp only[go_sem];rfl|(with_reducible apply t1);rfl;trivial
    exact fin0 rfl
   |false =>
    rw[g2] at h2;simp only[Bool.false_or];cases g3:(p.name==q.name) with
    |false =>
     simp only[Bool.false_and];apply tA;rfl;rfl;exact Tryz.func58;rfl;rfl;simp only[go_sem];rfl;refine tQ ?_;repeat first|with_reducible constructor|(with_reducible apply tG);kernel_rfl;intro _ _;(repeat apply tOp;intro _;simp only[h1,h2,g3,go_sem];rfl);rfl;simp only[go_sem];rfl|(with_reducible apply t0);rfl;trivial
     exact fin0 rfl
    |true =>
     simp only[Bool.true_and];apply tA;rfl;rfl;exact Tryz.func58;rfl;rfl;simp only[go_sem];rfl;refine tQ ?_;repeat first|with_reducible constructor|(with_reducible apply tG);kernel_rfl;intro _ _;(repeat apply tOp;intro _;simp only[h1,h2,g3,h103,ann58,go_sem];rfl);rfl;simp only[go_sem];rfl|(with_reducible apply t0);rfl;trivial
     exact fin0 rfl
theorem c57 {n:Nat} {p x:PaD} (hx:x.size < n) (hn:n < big) {i:Nat} {T:Sto} (hi:T.objs[i]?=some (.box [.val (.int .i64 p.kind),.val (.str p.name),.val (.slice (p.args.map PaD.enc))])) :
  CF kd (.fn 57) [.val x.enc,.val (.loc i 0)] T=some (.ret (.val (.bool (meetG PaD.open n x p))),T):=by
 have h58:=c58 (kd:=kd) n x p hx hn T;rw[x.enc_eq,p.enc_eq] at h58;rw[x.enc_eq];apply tA;rfl;rfl;exact Tryz.func57;rfl;rfl;simp only[go_sem];rfl;refine tQ ?_;repeat first|with_reducible constructor|(with_reducible apply tG);kernel_rfl;intro _ _;(repeat apply tOp;intro _;simp only[hi,h58,Nat.add_zero,go_sem,Nat.reduceAdd];rfl);rfl;simp only[go_sem];rfl
 exact fin0 rfl
theorem loop62 (pk qk:Int) (pn qn:List UInt8) (m:PaD→PaD→Bool) (T:Sto) (us:List PaD):∀ (vs preA preB:List PaD),(preA++us).length < big→preA.length=preB.length→us.length=vs.length →
  (∀ a∈us,∀ b∈vs,CF kd (.fn 62) [.val a.enc,.val b.enc] T=some (.ret (.val (.bool (m a b))),T)) →
  ∃ s0 s1 s2 s3 s4 s5 s11 s25 s30 s44,LP kd 62 (loopOf Tryz.f62 0) ⟨[.dead,.dead,.box [.val (.int .i64 pk),.val (.str pn),.val (.slice ((preA++us).map PaD.enc))],.box [.val (.int .i64 qk),.val (.str qn),.val (.slice ((preB++vs).map PaD.enc))],.dead,.val (.int .i64 (preA.length:Nat)),.dead,.dead,.dead,.dead],T⟩ =
   bif allZ m us vs then some (.exit 0,⟨[s0,s1,s2,s3,s4,s5,s11,s25,s30,s44],T⟩) else some (.ret,⟨[s0,s1,s2,s3,.val (.bool false),s5,s11,s25,s30,s44],T⟩):=by
 induction us with
 |nil =>
  intro vs preA preB h3 hl hab hm;have hlt:=geI preA;simp only[allZ,cond_true,List.append_nil];iterate 10 apply Exists.intro
  refine tJ rfl ?_;repeat first|with_reducible constructor|(with_reducible apply tG);kernel_rfl;intro _ _;(repeat apply tOp;intro _;simp only[List.length_map,go_sem];rfl);rfl;simp only[go_sem];rfl|(with_reducible apply t0);rfl;trivial
  exact tlX;all_goals exact .dead
 |cons a us ih =>
  intro vs preA preB h3 hl hab hm;cases vs with
  |nil=>simp at hab
  |cons b vs =>
  have hgetA:=getI PaD.enc preA us a;have hgetB:=getI PaD.enc preB vs b;rw[←hl] at hgetB;have hlt:=ltI preA us a;have h0:=zI preA.length;have hw:=wL preA us a h3;have hc:=hm a (by simp) b (by simp);rw[a.enc_eq] at hgetA hc;rw[b.enc_eq] at hgetB hc;simp only[allZ];cases hmm:m a b with
  |false =>
   rw[hmm] at hc;simp only[Bool.false_and,cond_false];iterate 10 apply Exists.intro
   refine tJ rfl ?_;repeat first|with_reducible constructor|(with_reducible apply tG);kernel_rfl;intro _ _;(repeat apply tOp;intro _;simp only[List.length_map,hgetA,hgetB,h0,hc,go_sem];rfl);rfl;simp only[go_sem];rfl|(with_reducible apply t1);rfl;trivial
   exact tlE;all_goals exact .dead
  |true =>
   rw[hmm] at hc;obtain ⟨s0,s1,s2,s3,s4,s5,s11,s25,s30,s44,ih⟩:=ih vs (preA++[a]) (preB++[b]) (by simpa using h3) (by simp [hl]) (by simpa using hab) (fun x hx y hy=>hm x (by simp [hx]) y (by simp [hy]));simp only[List.append_assoc,List.singleton_append] at ih;simp only[Bool.true_and];refine ⟨s0,s1,s2,s3,s4,s5,s11,s25,s30,s44,?_⟩;cases hz:allZ m us vs
   all_goals
    rw[hz] at ih;simp only[cond_true,cond_false] at ih ⊢;refine tJ rfl ?_;repeat first|with_reducible constructor|(with_reducible apply tG);kernel_rfl;intro _ _;(repeat apply tOp;intro _;simp only[List.length_map,hgetA,hgetB,h0,hc,hw,go_sem];rfl);rfl;simp only[go_sem];rfl|(with_reducible apply t1);rfl;trivial|(with_reducible apply t0);rfl;trivial
    exact ih
def opR (p:PaD):Bool:=p.kind != 3
theorem c62:∀ (n:Nat) (p q:PaD),p.size < n→n < big→∀ T:Sto,CF kd (.fn 62) [.val p.enc,.val q.enc] T=some (.ret (.val (.bool (meetG opR n p q))),T):=by
 intro n;induction n with
 |zero=>intro p q h;omega
 |succ n ih =>
  intro p q hp hn T;have h1:=c109 (kd:=kd) p T;have h2:=c109 (kd:=kd) q T;have hlen:=p.args_len;have e0:((0:Nat):Int)=0:=rfl;simp only[meetG,opR];rw[p.enc_eq] at h1 ⊢;rw[q.enc_eq] at h2 ⊢;cases g1:(p.kind != 3) with
  |true =>
   rw[g1] at h1;simp only[Bool.true_or];apply tA;rfl;rfl;exact Tryz.func62;rfl;rfl;simp only[go_sem];rfl;refine tQ ?_;repeat first|with_reducible constructor|(with_reducible apply tG);kernel_rfl;intro _ _;(repeat apply tOp;intro _;simp only[h1,go_sem];rfl);rfl;simp only[go_sem];rfl|(with_reducible apply t1);rfl;trivial
   exact fin0 rfl
  |false =>
   rw[g1] at h1;simp only[Bool.false_or];cases g2:(q.kind != 3) with
   |true =>
    rw[g2] at h2;simp only[Bool.true_or];apply tA;rfl;rfl;exact Tryz.func62;rfl;rfl;simp only[go_sem];rfl;refine tQ ?_;repeat first|with_reducible constructor|(with_reducible apply tG);kernel_rfl;intro _ _;(repeat apply tOp;intro _;simp only[h1,h2,go_sem];rfl);rfl;simp only[go_sem];rfl|(with_reducible apply t1);rfl;trivial
    exact fin0 rfl
   |false =>
    rw[g2] at h2;simp only[Bool.false_or];cases g3:(p.name==q.name) with
    |false =>
     simp only[Bool.false_and];apply tA;rfl;rfl;exact Tryz.func62;rfl;rfl;simp only[go_sem];rfl;refine tQ ?_;repeat first|with_reducible constructor|(with_reducible apply tG);kernel_rfl;intro _ _;(repeat apply tOp;intro _;simp only[h1,h2,g3,go_sem];rfl);rfl;simp only[go_sem];rfl|(with_reducible apply t1);rfl;trivial|(with_reducible apply t0);rfl;trivial
     exact fin0 rfl
    |true =>
     simp only[Bool.true_and];cases hne:(((p.args.length:Nat):Int)==((q.args.length:Nat):Int)) with
     |false =>
      have hne2:(((p.args.length:Nat):Int) != ((q.args.length:Nat):Int))=true:=by rw[bne,hne];rfl
      simp only[Bool.false_and];apply tA;rfl;rfl;exact Tryz.func62;rfl;rfl;simp only[go_sem];rfl;refine tQ ?_;repeat first|with_reducible constructor|(with_reducible apply tG);kernel_rfl;intro _ _;(repeat apply tOp;intro _;simp only[h1,h2,g3,hne2,List.length_map,go_sem];rfl);rfl;simp only[go_sem];rfl|(with_reducible apply t1);rfl;trivial|(with_reducible apply t0);rfl;trivial
      exact fin0 rfl
     |true =>
      have hne2:(((p.args.length:Nat):Int) != ((q.args.length:Nat):Int))=false:=by rw[bne,hne];rfl
      obtain ⟨s0,s1,s2,s3,s4,s5,s11,s25,s30,s44,hlp⟩:=loop62 (kd:=kd) p.kind q.kind p.name q.name (meetG opR n) T p.args q.args [] [] (by simp only[List.nil_append];omega) rfl (by have:=eq_of_beq hne;omega) (fun a ha b hb=>ih a b (by have:=PaD.args_size ha;omega) (by omega) T);simp only[List.nil_append,List.length_nil] at hlp;rw[e0] at hlp;simp only[Bool.true_and];show CF kd (.fn 62) _ T=some (.ret (.val (.bool (allZ (meetG opR n) p.args q.args))),T);cases hz:allZ (meetG opR n) p.args q.args
      all_goals
       rw[hz] at hlp;simp only[cond_true,cond_false] at hlp;apply tA;rfl;rfl;exact Tryz.func62;rfl;rfl;simp only[go_sem];rfl;refine tQ ?_;repeat first|with_reducible constructor|(with_reducible apply tG);kernel_rfl;intro _ _;(repeat apply tOp;intro _;simp only[h1,h2,g3,hne2,List.length_map,go_sem];rfl);rfl;simp only[go_sem];rfl|(with_reducible apply tM);assumption|(with_reducible apply t0);rfl;trivial
       exact fin0 rfl
end
end Go.Proofs.YtkmnkiekmlcfdaaGreatDoor
end
section
namespace Go.Proofs.YtkmnkiekmlcfdaaGreatDoor
open Go.AM
set_option maxRecDepth 100000
set_option maxHeartbeats 4000000
variable {kd:List UInt8→Int}
theorem y14 {s:List UInt8×List Nat} {O:List AObj} {lo:Nat} (hlo:lo≤O.length) {e0:Cell} {bq bp bm by1 bf:AObj} {s0 s1 s2 s3 s5 s7 s9 s10 s16 s23 s27 s29 s30} :
  CF kd (.yld (O.length+4)) [.val (slotE s)] ⟨O++[bq,.box [e0],bp,bm,.loop (rloop 14 Tryz.f14 0 [s0,s1,s2,s3,s5,s7,.val (.loc (O.length+1) 0),s9,s10,s16,s23,s27,s29,s30] none .ready),by1,bf],lo⟩ =
   some (.ret (.val (.bool false)),⟨O++[bq,.box [.val (.int .i64 52)],bp,bm,.loop (rloop 14 Tryz.f14 0 [s0,s1,s2,s3,s5,s7,.val (.loc (O.length+1) 0),s9,s10,s16,s23,s27,s29,s30] (some .ret) .done),by1,bf],lo⟩):=by
 have hb1:Nat.ble lo (O.length+1)=true:=Nat.ble_eq_true_of_le (by omega);simp only[slotE];apply tY
 ·(simp only[FL,FO,Nat.reduceAdd];try rfl)
 ·rfl
 ·kernel_rfl
 ·first|assumption|(apply Nat.ble_eq_true_of_le;(try simp only[FL,FO,Nat.reduceAdd]);omega)
 ·(simp only[setParams,List.zip,List.zipWith,List.reverse_cons,List.reverse_nil,go_sem];rfl)
 refine tQ ?_;repeat first|with_reducible constructor|(with_reducible apply tG);kernel_rfl;intro _ _;(repeat apply tOp;intro _;simp only[FL,FO,Nat.reduceAdd,go_sem,Nat.reduceAdd];rfl);rfl;simp only[go_sem];rfl
 apply ty1
 ·(simp only[FL,FO,Nat.reduceAdd];try rfl)
 ·(simp only[FL,FO,Nat.reduceAdd];try rfl)
 refine tQ ?_;repeat first|with_reducible constructor|(with_reducible apply tG);kernel_rfl;intro _ _;(repeat apply tOp;intro _;simp only[FL,FO,Nat.reduceAdd,hb1,Nat.add_zero,go_sem,Nat.reduceAdd];rfl);rfl;simp only[go_sem];rfl
 apply ty2r
 ·(simp only[FL,FO,Nat.reduceAdd];try rfl)
 ·(simp only[FL,FO,Nat.reduceAdd];try rfl)
noncomputable def St14 (O:List AObj) (lo:Nat) (bq bp bm by1 bf:AObj) (tm:List Slot) (e:Cell) (pd:Option Code) (st:LoopState):Sto :=
 ⟨O++[bq,.box [e],bp,bm,.loop (rloop 14 Tryz.f14 0 tm pd st),by1,bf],lo⟩
theorem yields14 {O:List AObj} {lo:Nat} (hlo:lo≤O.length) {e0:Cell} {bq bp bm by1 bf:AObj} {s0 s1 s2 s3 s5 s7 s9 s10 s16 s23 s27 s29 s30} (l:List (List UInt8×List Nat)) :
  Yields (CF kd) (O.length+4) (fun T=>∃ e pd st,T=St14 O lo bq bp bm by1 bf [s0,s1,s2,s3,s5,s7,.val (.loc (O.length+1) 0),s9,s10,s16,s23,s27,s29,s30] e pd st) (l.map slotE) (St14 O lo bq bp bm by1 bf [s0,s1,s2,s3,s5,s7,.val (.loc (O.length+1) 0),s9,s10,s16,s23,s27,s29,s30] e0 none .ready)
   (bif l.isEmpty then St14 O lo bq bp bm by1 bf [s0,s1,s2,s3,s5,s7,.val (.loc (O.length+1) 0),s9,s10,s16,s23,s27,s29,s30] e0 none .ready else St14 O lo bq bp bm by1 bf [s0,s1,s2,s3,s5,s7,.val (.loc (O.length+1) 0),s9,s10,s16,s23,s27,s29,s30] (.val (.int .i64 52)) (some .ret) .done) l.isEmpty:=by
 cases l with
 |nil=>exact .nil
 |cons s l=>exact .stop (y14 (kd:=kd) (s:=s) (O:=O) (lo:=lo) hlo (e0:=e0) (bq:=bq) (bp:=bp) (bm:=bm) (by1:=by1) (bf:=bf) (s0:=s0) (s1:=s1) (s2:=s2) (s3:=s3) (s5:=s5) (s7:=s7) (s9:=s9) (s10:=s10) (s16:=s16) (s23:=s23) (s27:=s27) (s29:=s29) (s30:=s30)) ⟨_,_,_,rfl⟩
theorem c14 {ds:List DaD} (h:DsOk ds) (t:TyD) (ht:t.size < big) (l:List PaD) (hl:PaD.sizes l+1 < big) (p:PaD) (hp:p.size < big) {n:Nat} (hn:n < big) (hln:∀ x∈l,x.size < n) (T:Sto) (hlo:T.lo≤T.objs.length) :
  CF kd (.fn 14) [.val (.slice (ds.map DaD.enc)),.val t.enc,.val (.slice (l.map PaD.enc)),.val p.enc] T=some (.ret (.val (.int .i64 (bif (chkPs (isK kd 4) (isK kd 3) (isK kd 2) ds t l != 0) then chkPs (isK kd 4) (isK kd 3) (isK kd 2) ds t l else bif (validD (isK kd 2) ds t p != 0) then validD (isK kd 2) ds t p else bif (l.any fun x=>meetG PaD.open n x p)||!(slotsD 100 p []).isEmpty then 52 else 0))),T):=by
 have hb1:Nat.ble T.lo (T.objs.length+1)=true:=Nat.ble_eq_true_of_le (by omega);have hb2:Nat.ble T.lo (T.objs.length+2)=true:=Nat.ble_eq_true_of_le (by omega);have hbb:Nat.ble (T.objs.length+2) (T.objs.length+2)=true:=Nat.ble_eq_true_of_le (by omega);have hll:=PaD.sizes_len l;have h39:=c39 (kd:=kd) h t ht l hl ⟨T.objs++[.box [.val (.int .i64 p.kind),.val (.str p.name),.val (.slice (p.args.map PaD.enc))],.box [.val (.int .i64 0)]],T.lo⟩ (by simp;omega);have h55:=c55 (kd:=kd) h t p hp ⟨T.objs++[.box [.val (.int .i64 p.kind),.val (.str p.name),.val (.slice (p.args.map PaD.enc))],.box [.val (.int .i64 0)]],T.lo⟩ (by simp;omega)
 have h56:=c56m (kd:=kd) PaD.enc (fun x=>meetG PaD.open n x p) l (g:=57) (by rw[an57]) [.loc T.objs.length 0] ⟨T.objs++[.box [.val (.int .i64 p.kind),.val (.str p.name),.val (.slice (p.args.map PaD.enc))],.box [.val (.int .i64 0)]],T.lo⟩ (by simp only[big] at hl;omega) (fun x _=>⟨_,_,_,x.enc_eq⟩)
  (fun x hx=>c57 (hln x hx) hn (by simp only[FL,FO,Nat.reduceAdd]))
 have h59:=fun s=>c59 (kd:=kd) p 100 s
 have hY:=fun s0 s1 s2 s3 s5 s7 s9 s10 s16 s23 s27 s29 s30=>yields14 (kd:=kd) (O:=T.objs) (lo:=T.lo) hlo (e0:=.val (.int .i64 0)) (bq:=.box [.val (.int .i64 p.kind),.val (.str p.name),.val (.slice (p.args.map PaD.enc))]) (bp:=.box [.val (.int .i64 p.kind),.val (.str p.name),.val (.slice (p.args.map PaD.enc))]) (bm:=.box [.val (.int .i64 100)]) (by1:=.box [.val (.yld (T.objs.length+4))]) (bf:=.box [.val (.func 105 [.loc (T.objs.length+5) 0,.loc (T.objs.length+6) 0])]) (s0:=s0) (s1:=s1) (s2:=s2) (s3:=s3) (s5:=s5) (s7:=s7) (s9:=s9) (s10:=s10) (s16:=s16) (s23:=s23) (s27:=s27) (s29:=s29) (s30:=s30) (slotsD 100 p [])
 have hc:=fun s0 s1 s2 s3 s5 s7 s9 s10 s16 s23 s27 s29 s30=>c104 (kd:=kd) (i:=T.objs.length+4) (a:=T.objs.length+2) (b:=T.objs.length+3) (P:=fun S=>∃ e pd st,S=St14 T.objs T.lo (.box [.val (.int .i64 p.kind),.val (.str p.name),.val (.slice (p.args.map PaD.enc))]) (.box [.val (.int .i64 p.kind),.val (.str p.name),.val (.slice (p.args.map PaD.enc))]) (.box [.val (.int .i64 100)]) (.box [.val (.yld (T.objs.length+4))]) (.box [.val (.func 105 [.loc (T.objs.length+5) 0,.loc (T.objs.length+6) 0])]) [s0,s1,s2,s3,s5,s7,.val (.loc (T.objs.length+1) 0),s9,s10,s16,s23,s27,s29,s30] e pd st)
  (S:=⟨T.objs++[.box [.val (.int .i64 p.kind),.val (.str p.name),.val (.slice (p.args.map PaD.enc))],.box [.val (.int .i64 0)],.box [.val (.int .i64 p.kind),.val (.str p.name),.val (.slice (p.args.map PaD.enc))],.box [.val (.int .i64 100)],.loop (rloop 14 Tryz.f14 0 [s0,s1,s2,s3,s5,s7,.val (.loc (T.objs.length+1) 0),s9,s10,s16,s23,s27,s29,s30] none .ready)],T.lo⟩) (p:=p) (n:=100)
  (by simp;omega) (by
   rintro S ⟨e,pd,st,rfl⟩
   refine ⟨?_,?_,?_⟩ <;> simp only[St14,FL,FO,Nat.reduceAdd,Nat.add_assoc]) hp (by simp [big]) (by simp)
  (by simp only[FL,FO,Nat.reduceAdd]) (by simp only[FL,FO,Nat.reduceAdd];rfl) ⟨.val (.int .i64 0),none,.ready,by simp only[St14,FL,FO,Nat.reduceAdd]⟩
  (by simpa only [St14,FL,FO,Nat.reduceAdd] using hY s0 s1 s2 s3 s5 s7 s9 s10 s16 s23 s27 s29 s30)
 rw[p.enc_eq] at h55 h59 ⊢;rw[t.enc_eq] at h39 h55 ⊢;cases g1:(chkPs (isK kd 4) (isK kd 3) (isK kd 2) ds t l != 0) with
 |true =>
  simp only[cond_true];apply tA;rfl;rfl;exact Tryz.func14;rfl;rfl;simp only[go_sem];rfl;refine tQ ?_;repeat first|with_reducible constructor|(with_reducible apply tG);kernel_rfl;intro _ _;(repeat apply tOp;intro _;simp only[FL,FO,h39,hb1,Nat.add_zero,go_sem,Nat.reduceAdd];rfl);rfl;simp only[go_sem];rfl|(with_reducible apply t1);rfl;trivial
  refine finE _ (finC1 rfl rfl ?_ rfl);show ∀ k:List AVal→Option (ARes×Sto),resK _ _ _ [.cell 8 31] _ k=_;intro k;simp only[FL,FO,Nat.reduceAdd,Nat.add_zero,resK,go_sem,Nat.reduceAdd];rfl
 |false =>
  simp only[cond_false];cases g2:(validD (isK kd 2) ds t p != 0) with
  |true =>
   simp only[cond_true];apply tA;rfl;rfl;exact Tryz.func14;rfl;rfl;simp only[go_sem];rfl;refine tQ ?_;repeat first|with_reducible constructor|(with_reducible apply tG);kernel_rfl;intro _ _;(repeat apply tOp;intro _;simp only[FL,FO,h39,h55,hb1,Nat.add_zero,go_sem,Nat.reduceAdd];rfl);rfl;simp only[go_sem];rfl|(with_reducible apply t1);rfl;trivial|(with_reducible apply t0);rfl;trivial
   refine finE _ (finC1 rfl rfl ?_ rfl);show ∀ k:List AVal→Option (ARes×Sto),resK _ _ _ [.cell 8 31] _ k=_;intro k;simp only[FL,FO,Nat.reduceAdd,Nat.add_zero,resK,go_sem,Nat.reduceAdd];rfl
  |false =>
   simp only[cond_false];cases g3:(l.any fun x=>meetG PaD.open n x p) with
   |true =>
    rw[g3] at h56;simp only[Bool.true_or,cond_true];apply tA;rfl;rfl;exact Tryz.func14;rfl;rfl;simp only[go_sem];rfl;refine tQ ?_;repeat first|with_reducible constructor|(with_reducible apply tG);kernel_rfl;intro _ _;(repeat apply tOp;intro _;simp only[FL,FO,h39,h55,h56,Nat.add_zero,hb1,go_sem,Nat.reduceAdd];rfl);rfl;simp only[go_sem];rfl|(with_reducible apply t1);rfl;trivial|(with_reducible apply t0);rfl;trivial
    refine finE _ (finC1 rfl rfl ?_ rfl);show ∀ k:List AVal→Option (ARes×Sto),resK _ _ _ [.cell 8 31] _ k=_;intro k;simp only[FL,FO,Nat.reduceAdd,Nat.add_zero,resK,go_sem,Nat.reduceAdd];rfl
   |false =>
    rw[g3] at h56;simp only[Bool.false_or];cases g4:(slotsD 100 p []).isEmpty with
    |true =>
     simp only[g4,cond_true,St14,FL,FO,Nat.reduceAdd] at hc;simp only[Bool.not_true,cond_false];apply tA;rfl;rfl;exact Tryz.func14;rfl;rfl;simp only[go_sem];rfl;refine tQ ?_;repeat first|with_reducible constructor|(with_reducible apply tG);kernel_rfl;intro _ _;(repeat apply tOp;intro _;simp only[FL,FO,h39,h55,h56,Nat.add_zero,h59,hb1,hb2,hbb,bleR,ble01,Nat.add_assoc,go_sem,Nat.reduceAdd];rfl);rfl;simp only[go_sem];rfl|(with_reducible apply t0);rfl;trivial
     with_reducible apply tGn
     ·rfl
     ·simp only[FL,FO,Nat.reduceAdd]
      exact hc _ _ _ _ _ _ _ _ _ _ _ _ _
     ·simp only[FL,FO,Nat.reduceAdd]
      rfl
     ·simp only[FL,FO,Nat.reduceAdd]
      rfl
     refine tQ ?_;repeat first|with_reducible constructor|(with_reducible apply tG);kernel_rfl;intro _ _;(repeat apply tOp;intro _;simp only[FL,FO,Nat.reduceAdd,hb1,Nat.add_zero,go_sem,Nat.reduceAdd];rfl);rfl;simp only[go_sem];rfl
     refine finE _ (finC1 rfl rfl ?_ rfl);show ∀ k:List AVal→Option (ARes×Sto),resK _ _ _ [.cell 8 31] _ k=_;intro k;simp only[FL,FO,Nat.reduceAdd,Nat.add_zero,resK,go_sem,Nat.reduceAdd];rfl
    |false =>
     simp only[g4,cond_false,St14,FL,FO,Nat.reduceAdd] at hc;simp only[Bool.not_false,cond_true];apply tA;rfl;rfl;exact Tryz.func14;rfl;rfl;simp only[go_sem];rfl;refine tQ ?_;repeat first|with_reducible constructor|(with_reducible apply tG);kernel_rfl;intro _ _;(repeat apply tOp;intro _;simp only[FL,FO,h39,h55,h56,Nat.add_zero,h59,hb1,hb2,hbb,bleR,ble01,Nat.add_assoc,go_sem,Nat.reduceAdd];rfl);rfl;simp only[go_sem];rfl|(with_reducible apply t0);rfl;trivial
     with_reducible apply tGr
     ·rfl
     ·simp only[FL,FO,Nat.reduceAdd]
      exact hc _ _ _ _ _ _ _ _ _ _ _ _ _
     ·simp only[FL,FO,Nat.reduceAdd]
      rfl
     ·simp only[FL,FO,Nat.reduceAdd]
      rfl
     refine tQ ?_;repeat first|with_reducible constructor|(with_reducible apply tG);kernel_rfl;intro _ _;(repeat apply tOp;intro _;simp only[FL,FO,Nat.reduceAdd,hb1,Nat.add_zero,go_sem,Nat.reduceAdd];rfl);rfl;simp only[go_sem];rfl
     refine finE _ (finC1 rfl rfl ?_ rfl);show ∀ k:List AVal→Option (ARes×Sto),resK _ _ _ [.cell 8 31] _ k=_;intro k;simp only[FL,FO,Nat.reduceAdd,Nat.add_zero,resK,go_sem,Nat.reduceAdd];rfl
theorem loop15 (p:PaD) {n:Nat} (hn:n < big) (T:Sto) (ys:List PaD):∀ (pre:List PaD),(pre++ys).length < big→(∀ x∈ys,x.size < n) →
  ∃ s0 s1 s2 s3 s5 s7 s8 s9 s10 s16 s23 s28 s32 s40,LP kd 15 (loopOf Tryz.f15 0) ⟨[.dead,.dead,.val (.slice ((pre++ys).map PaD.enc)),.dead,.dead,.box [.val (.int .i64 p.kind),.val (.str p.name),.val (.slice (p.args.map PaD.enc))],.dead,.dead,.val (.int .i64 (pre.length:Nat)),.dead,.dead,.dead,.dead,.dead],T⟩ =
   bif ys.any (fun x=>meetG opR n x p) then some (.ret,⟨[s0,s1,s2,s3,s5,s7,.val (.int .i64 52),s9,s10,s16,s23,s28,s32,s40],T⟩) else some (.exit 0,⟨[s0,s1,s2,s3,s5,s7,s8,s9,s10,s16,s23,s28,s32,s40],T⟩):=by
 induction ys with
 |nil =>
  intro pre h3 hs;have hlt:=geI pre;simp only[List.any_nil,cond_false,List.append_nil];iterate 14 apply Exists.intro
  refine tJ rfl ?_;repeat first|with_reducible constructor|(with_reducible apply tG);kernel_rfl;intro _ _;(repeat apply tOp;intro _;simp only[List.length_map,go_sem];rfl);rfl;simp only[go_sem];rfl|(with_reducible apply t0);rfl;trivial
  exact tlX;all_goals exact .dead
 |cons y ys ih =>
  intro pre h3 hs;have hget:=getI PaD.enc pre ys y;have hlt:=ltI pre ys y;have h0:=zI pre.length;have hw:=wL pre ys y h3;have h62:=c62 (kd:=kd) n y p (hs y (by simp)) hn T;rw[y.enc_eq] at hget h62;rw[p.enc_eq] at h62;simp only[List.any_cons];cases hm:meetG opR n y p with
  |true =>
   rw[hm] at h62;simp only[Bool.true_or,cond_true];iterate 14 apply Exists.intro
   refine tJ rfl ?_;repeat first|with_reducible constructor|(with_reducible apply tG);kernel_rfl;intro _ _;(repeat apply tOp;intro _;simp only[List.length_map,hget,h0,h62,go_sem];rfl);rfl;simp only[go_sem];rfl|(with_reducible apply t1);rfl;trivial
   exact tlE;all_goals exact .dead
  |false =>
   rw[hm] at h62;obtain ⟨s0,s1,s2,s3,s5,s7,s8,s9,s10,s16,s23,s28,s32,s40,ih⟩:=ih (pre++[y]) (by simpa using h3) (fun x hx=>hs x (by simp [hx]));simp only[List.append_assoc,List.singleton_append] at ih;simp only[Bool.false_or];refine ⟨s0,s1,s2,s3,s5,s7,s8,s9,s10,s16,s23,s28,s32,s40,?_⟩;cases hz:ys.any (fun x=>meetG opR n x p)
   all_goals
    rw[hz] at ih;simp only[cond_true,cond_false] at ih ⊢;refine tJ rfl ?_;repeat first|with_reducible constructor|(with_reducible apply tG);kernel_rfl;intro _ _;(repeat apply tOp;intro _;simp only[List.length_map,hget,h0,h62,hw,go_sem];rfl);rfl;simp only[go_sem];rfl|(with_reducible apply t1);rfl;trivial|(with_reducible apply t0);rfl;trivial
    exact ih
theorem c15 {ds:List DaD} (h:DsOk ds) (hct:conTot ds+3 < big) (t:TyD) (ht:t.size < big) (l:List PaD) (hl:PaD.sizes l+1 < big) (p:PaD) (hp:p.size+1 < big) {n:Nat} (hn:n < big) (hln:∀ x∈l,x.size < n) (T:Sto) :
  CF kd (.fn 15) [.val (.slice (ds.map DaD.enc)),.val t.enc,.val (.slice (l.map PaD.enc)),.val p.enc] T=some (.ret (.val (.int .i64 (bif (chkPsR ds t l != 0) then chkPsR ds t l else bif (chkPR ds t p != 0) then chkPR ds t p else bif !(varsR p).isEmpty||(l.any fun x=>meetG opR n x p) then 52 else 0))),T):=by
 have hll:=PaD.sizes_len l;have h40:=c40 (kd:=kd) h hct t ht l hl T;have h60:=c60 (kd:=kd) h t p hp T;have h61:=c61n (kd:=kd) p.size.succ p (Nat.lt_succ_self _) (by omega) T;obtain ⟨s0,s1,s2,s3,s5,s7,s8,s9,s10,s16,s23,s28,s32,s40,hlp⟩:=loop15 (kd:=kd) p hn T l [] (by simp only[List.nil_append];omega) hln;simp only[List.nil_append,List.length_nil] at hlp;have e0:((0:Nat):Int)=0:=rfl;rw[e0] at hlp;rw[p.enc_eq] at h60 h61 ⊢;rw[t.enc_eq] at h40 h60 ⊢;cases g1:(chkPsR ds t l != 0) with
 |true =>
  simp only[cond_true];apply tA;rfl;rfl;exact Tryz.func15;rfl;rfl;simp only[go_sem];rfl;refine tQ ?_;repeat first|with_reducible constructor|(with_reducible apply tG);kernel_rfl;intro _ _;(repeat apply tOp;intro _;simp only[h40,go_sem];rfl);rfl;simp only[go_sem];rfl|(with_reducible apply t1);rfl;trivial
  exact fin0 rfl
 |false =>
  simp only[cond_false];cases g2:(chkPR ds t p != 0) with
  |true =>
   simp only[cond_true];apply tA;rfl;rfl;exact Tryz.func15;rfl;rfl;simp only[go_sem];rfl;refine tQ ?_;repeat first|with_reducible constructor|(with_reducible apply tG);kernel_rfl;intro _ _;(repeat apply tOp;intro _;simp only[h40,h60,go_sem];rfl);rfl;simp only[go_sem];rfl|(with_reducible apply t1);rfl;trivial|(with_reducible apply t0);rfl;trivial
   exact fin0 rfl
  |false =>
   simp only[cond_false];cases g3:varsR p with
   |cons a m =>
    rw[g3] at h61;simp only[sN,List.map_cons] at h61;simp only[List.isEmpty_cons,Bool.not_false,Bool.true_or,cond_true];have hg:decide ((((m.length+1:Nat):Nat):Int) > 0)=true:=by simp
    apply tA;rfl;rfl;exact Tryz.func15;rfl;rfl;simp only[go_sem];rfl;refine tQ ?_;repeat first|with_reducible constructor|(with_reducible apply tG);kernel_rfl;intro _ _;(repeat apply tOp;intro _;simp only[h40,h60,h61,List.length_cons,List.length_map,go_sem];rfl);rfl;simp only[go_sem];rfl|(with_reducible apply t1);rfl;trivial|(with_reducible apply t0);rfl;trivial
    exact fin0 rfl
   |nil =>
    rw[g3] at h61;simp only[sN,List.map_nil] at h61;simp only[List.isEmpty_nil,Bool.not_true,Bool.false_or];cases g4:l.any (fun x=>meetG opR n x p)
    all_goals
     rw[g4] at hlp;simp only[cond_true,cond_false] at hlp ⊢;apply tA;rfl;rfl;exact Tryz.func15;rfl;rfl;simp only[go_sem];rfl;refine tQ ?_;repeat first|with_reducible constructor|(with_reducible apply tG);kernel_rfl;intro _ _;(repeat apply tOp;intro _;simp only[h40,h60,h61,go_sem];rfl);rfl;simp only[go_sem];rfl|(with_reducible apply tM);assumption|(with_reducible apply t0);rfl;trivial
     exact fin0 rfl
end Go.Proofs.YtkmnkiekmlcfdaaGreatDoor
end
