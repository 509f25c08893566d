/- Part V01 of the proof of one law of the program. -/
import Derived.Test.YtkmnkiekmlcfdaaGreatDoorE11
set_option linter.all false
namespace Go.Proofs.YtkmnkiekmlcfdaaGreatDoor
open Go.AM
section
open Go.AM
set_option maxRecDepth 100000
set_option maxHeartbeats 1000000
variable {kd:List UInt8→Int}
def wilds (n:Nat):List PaD:=List.replicate n wildD
def emptyD (c:CoD):PaD:=.mk 3 c.name (wilds c.args.length)
theorem emptyD_enc (c:CoD):(emptyD c).enc=.agg [.int .i64 3,.str c.name,.slice ((wilds c.args.length).map PaD.enc)]:=by rw[emptyD,PaD.enc_mk]
theorem c174 (x:AVal) (hx:Nat.beq x.cells.length 3=true) (n:Nat) (hn:n≤16) (sto:Sto):CF kd (.fn 174) [.val (.slice [x]),.val (.int .i64 (n:Nat))] sto=some (.ret (.val (.slice (List.replicate n x))),sto):=fnP (r:=.ret (.val (.slice (List.replicate n x)))) (by
 show (bif Nat.beq x.cells.length 3&&decide (0≤((n:Nat):Int))&&decide (((n:Nat):Int)≤16) then _ else _)=_;rw[hx,show decide (0≤((n:Nat):Int))=true by simp,show decide (((n:Nat):Int)≤16)=true by simp;omega];rfl) rfl
theorem c168 (c:CoD) (hc:c.args.length≤16) (sto:Sto):CF kd (.fn 168) [.val c.enc] sto=some (.ret (.val (emptyD c).enc),sto):=by
 have h90:=c90 (kd:=kd) ⟨sto.objs,sto.objs.length⟩;have h174:=c174 (kd:=kd) (.agg [.int .i64 1,.str [],.slice []]) rfl c.args.length hc ⟨sto.objs,sto.objs.length⟩
 have e1:List.replicate c.args.length (AVal.agg [.int .i64 1,.str [],.slice []])=(wilds c.args.length).map PaD.enc:=by
  rw[wilds,List.map_replicate,wildD_enc]
 rw[e1] at h174;rw[wildD_enc] at h90;rw[emptyD_enc,c.enc_eq];apply tA;rfl;rfl;exact Tryz.func168;rfl;rfl;simp only[go_sem];rfl;refine tQ ?_;repeat first|with_reducible constructor|(with_reducible apply tG);kernel_rfl;intro _ _;(repeat apply tOp;intro _;simp only[h90,h174,beq_self_eq_true,slotLok,setElems,clean,flat,List.replicate,List.set_cons_zero,List.length_map,go_sem];rfl);rfl;simp only[go_sem];rfl
 exact fin0 rfl
def fieldsD (p:PaD) (c:CoD):Option (List PaD):=if p.open then some (wilds c.args.length) else if p.name==c.name&&((p.args.length:Nat):Int)==((c.args.length:Nat):Int) then some p.args else none
theorem c152 (p:PaD) (c:CoD) (hc:c.args.length≤16) (sto:Sto):CF kd (.fn 152) [.val p.enc,.val c.enc] sto=some (.ret (.tup [.slice (((fieldsD p c).getD []).map PaD.enc),.bool (fieldsD p c).isSome]),sto):=by
 have h102:=c102 (kd:=kd) p sto;have h168:=c168 (kd:=kd) c hc sto;rw[emptyD_enc] at h168;simp only[fieldsD];rw[c.enc_eq] at h168 ⊢;rw[p.enc_eq] at h102 ⊢;cases g1:p.open with
 |true =>
  rw[g1] at h102;simp only[if_true,Option.getD_some,Option.isSome_some];apply tA;rfl;rfl;exact Tryz.func152;rfl;rfl;simp only[go_sem];rfl;refine tQ ?_;repeat first|with_reducible constructor|(with_reducible apply tG);kernel_rfl;intro _ _;(repeat apply tOp;intro _;simp only[h102,h168,go_sem];rfl);rfl;simp only[go_sem];rfl|(with_reducible apply t1);rfl;trivial
  exact fin0 rfl
 |false =>
  rw[g1] at h102;simp only[Bool.false_eq_true,if_false];cases g2:(p.name==c.name) with
  |false =>
   simp only[Bool.false_and,Bool.false_eq_true,if_false,Option.getD_none,Option.isSome_none,List.map_nil];apply tA;rfl;rfl;exact Tryz.func152;rfl;rfl;simp only[go_sem];rfl;refine tQ ?_;repeat first|with_reducible constructor|(with_reducible apply tG);kernel_rfl;intro _ _;(repeat apply tOp;intro _;simp only[h102,g2,go_sem];rfl);rfl;simp only[go_sem];rfl|(with_reducible apply t0);rfl;trivial
   exact fin0 rfl
  |true =>
   simp only[Bool.true_and];cases g3:(((p.args.length:Nat):Int)==((c.args.length:Nat):Int)) with
   |false =>
    simp only[Bool.false_eq_true,if_false,Option.getD_none,Option.isSome_none,List.map_nil];apply tA;rfl;rfl;exact Tryz.func152;rfl;rfl;simp only[go_sem];rfl;refine tQ ?_;repeat first|with_reducible constructor|(with_reducible apply tG);kernel_rfl;intro _ _;(repeat apply tOp;intro _;simp only[h102,g2,g3,List.length_map,go_sem];rfl);rfl;simp only[go_sem];rfl|(with_reducible apply t0);rfl;trivial
    exact fin0 rfl
   |true =>
    simp only[if_true,Option.getD_some,Option.isSome_some];apply tA;rfl;rfl;exact Tryz.func152;rfl;rfl;simp only[go_sem];rfl;refine tQ ?_;repeat first|with_reducible constructor|(with_reducible apply tG);kernel_rfl;intro _ _;(repeat apply tOp;intro _;simp only[h102,g2,g3,List.length_map,go_sem];rfl);rfl;simp only[go_sem];rfl|(with_reducible apply t1);rfl;trivial|(with_reducible apply t0);rfl;trivial
    exact fin0 rfl
end
section
open Go.AM
set_option maxRecDepth 100000
set_option maxHeartbeats 1000000
variable {kd:List UInt8→Int}
def rowE (r:List PaD):AVal:=.slice (r.map PaD.enc)
theorem head3 (l:List PaD):headOk 3 (l.map PaD.enc)=true:=by
 cases l with
 |nil=>rfl
 |cons x l=>simp only[List.map_cons,headOk];rw[x.enc_eq];rfl
theorem loop98 (sto:Sto) (l0:List PaD) (ys:List PaD):∀ (pre:List PaD) (X:List AVal),l0=pre++ys→(pre++ys).length < big→X.length+ys.length+1 < big →
  ∃ s0 s2 s4 s6 s7 s8,LP kd 98 (loopOf Tryz.f98 0) ⟨[.val (.slice (l0.map PaD.enc)),.dead,.own 1 X,.dead,.val (.int .i64 (l0.length:Nat)),.val (.int .i64 (pre.length:Nat)),.dead],sto⟩ =
   some (.exit 0,⟨[s0,s2,.own 1 (X++ys.map fun y=>rowE [y]),s4,s6,s7,s8],sto⟩):=by
 induction ys with
 |nil =>
  intro pre X hl h3 h4;subst hl;have hlt:=geI pre;simp only[List.map_nil,List.append_nil];iterate 6 apply Exists.intro
  refine tJ rfl ?_;repeat first|with_reducible constructor|(with_reducible apply tG);kernel_rfl;intro _ _;(repeat apply tOp;intro _;simp only[go_sem];rfl);rfl;simp only[go_sem];rfl|(with_reducible apply t0);rfl;trivial
  exact tlX;all_goals exact .dead
 |cons y ys ih =>
  intro pre X hl h3 h4;subst hl;have hlt:=ltI pre ys y;have h0:=zI pre.length;have hw:=wL pre ys y h3;have hr:=roomI X (by simp at h4;omega)
  have hcut:(((pre++y::ys).map PaD.enc).take (((pre++[y]).length:Nat):Int).toNat).drop ((pre.length:Nat):Int).toNat=[.agg [.int .i64 y.kind,.str y.name,.slice (y.args.map PaD.enc)]]:=by
   rw[←y.enc_eq,Int.toNat_natCast,Int.toNat_natCast]
   have:(pre++y::ys).map PaD.enc=(pre.map PaD.enc++[y.enc])++ys.map PaD.enc:=by simp
   rw[this,List.take_left' (by simp),List.drop_left' (by simp)]
  have hle:decide (((pre.length:Nat):Int)≤(((pre++[y]).length:Nat):Int))=true:=by simp;omega
  have hle2:decide ((((pre++[y]).length:Nat):Int)≤(((pre++y::ys).length:Nat):Int))=true:=by simp;omega
  have heq:decide ((((pre++[y]).length:Nat):Int)=(((pre++[y]).length:Nat):Int))=true:=by simp
  obtain ⟨s0,s2,s4,s6,s7,s8,ih⟩:=ih (pre++[y]) (X++[rowE [y]]) (by simp) (by simpa using h3) (by simp at h4 ⊢;omega);simp only[List.append_assoc,List.singleton_append] at ih;simp only[List.map_cons];rw[show rowE [y]=.slice [.agg [.int .i64 y.kind,.str y.name,.slice (y.args.map PaD.enc)]] from by rw[←y.enc_eq];rfl] at ih ⊢;refine ⟨s0,s2,s4,s6,s7,s8,?_⟩;refine tJ rfl ?_;repeat first|with_reducible constructor|(with_reducible apply tG);kernel_rfl;intro _ _;(repeat apply tOp;intro _;simp only[h0,hw,hr,hcut,hle,hle2,heq,headOk,setElems,clean,flat,List.replicate,List.set_cons_zero,List.length_map,go_sem,Nat.reduceAdd,reduceIte];rfl);rfl;simp only[go_sem];rfl|(with_reducible apply t1);rfl;trivial
  exact ih
def singleD (l:List PaD):List (List PaD):=l.map fun y=>[y]
theorem c98 (l:List PaD) (hl:l.length+1 < big) (sto:Sto):CF kd (.fn 98) [.val (.slice (l.map PaD.enc))] sto=some (.ret (.val (.slice ((singleD l).map rowE))),sto):=by
 obtain ⟨s0,s2,s4,s6,s7,s8,h⟩:=loop98 (kd:=kd) sto l l [] [] rfl (by simp only[List.nil_append];omega) (by simp only[List.length_nil];omega);simp only[List.nil_append,List.length_nil] at h;have e0:((0:Nat):Int)=0:=rfl;rw[e0] at h;have e1:(l.map fun y=>rowE [y])=(singleD l).map rowE:=by simp [singleD]
 rw[e1] at h;apply tA;rfl;rfl;exact Tryz.func98;rfl;rfl;simp only[go_sem];rfl;refine tQ ?_;repeat first|with_reducible constructor|(with_reducible apply tG);kernel_rfl;intro _ _;(repeat apply tOp;intro _;simp only[List.length_map,go_sem];rfl);rfl;simp only[go_sem];rfl|(with_reducible apply tM);assumption
 exact fin0 rfl
def beginD (cs:List CoD) (H:List (List UInt8)):PaD:=if ((H.length:Nat):Int)==0 then wildD else match cs.find? (fun c=>!H.contains c.name) with|some c=>emptyD c|none=>wildD
theorem loop153 {i:Nat} (H:List (List UInt8)) (a1 a2 a3:Cell) (sto:Sto) (hi:sto.objs[i]?=some (.map (seenE H))) (ys:List CoD):∀ (pre:List CoD),(pre++ys).length < big→(∀ c∈ys,c.args.length≤16) →
  ∃ s0 s1 s6 s9 s11 s12 s13 s14 s21,LP kd 153 (loopOf Tryz.f153 0) ⟨[.dead,.val (.amap i),.box [a1,a2,a3],.dead,.dead,.val (.slice ((pre++ys).map CoD.enc)),.val (.int .i64 ((pre++ys).length:Nat)),.val (.int .i64 (pre.length:Nat)),.dead,.dead],sto⟩ =
   match ys.find? (fun c=>!H.contains c.name) with
   |none=>some (.exit 0,⟨[s0,s1,.box [a1,a2,a3],s6,s9,s11,s12,s13,s14,s21],sto⟩)
   |some c=>some (.ret,⟨[s0,s1,.box [.val (.int .i64 3),.val (.str c.name),.val (.slice ((wilds c.args.length).map PaD.enc))],s6,s9,s11,s12,s13,s14,s21],sto⟩):=by
 induction ys with
 |nil =>
  intro pre h3 hca;have hlt:=geI pre;simp only[List.find?_nil,List.append_nil];iterate 9 apply Exists.intro
  refine tJ rfl ?_;repeat first|with_reducible constructor|(with_reducible apply tG);kernel_rfl;intro _ _;(repeat apply tOp;intro _;simp only[go_sem];rfl);rfl;simp only[go_sem];rfl|(with_reducible apply t0);rfl;trivial
  exact tlX;all_goals exact .dead
 |cons y ys ih =>
  intro pre h3 hca;have hget:=getI CoD.enc pre ys y;have h168:=c168 (kd:=kd) y (hca y (by simp)) sto;rw[emptyD_enc] at h168;rw[y.enc_eq] at hget h168;have hlt:=ltI pre ys y;have h0:=zI pre.length;have hw:=wL pre ys y h3;have hf:=find_seen y.name H;rw[List.find?_cons];cases hc:H.contains y.name with
  |false =>
   rw[hc] at hf;simp only[cond_false] at hf;simp only[Bool.not_false];iterate 9 apply Exists.intro
   refine tJ rfl ?_;repeat first|with_reducible constructor|(with_reducible apply tG);kernel_rfl;intro _ _;(repeat apply tOp;intro _;simp only[hget,h0,asMap,keyT,hi,hf,Option.getD_none,h168,go_sem];rfl);rfl;simp only[go_sem];rfl|(with_reducible apply t1);rfl;trivial
   exact tlE;all_goals exact .dead
  |true =>
   rw[hc] at hf;simp only[cond_true] at hf;simp only[Bool.not_true];obtain ⟨s0,s1,s6,s9,s11,s12,s13,s14,s21,ih⟩:=ih (pre++[y]) (by simpa using h3) (fun c hc=>hca c (by simp [hc]));simp only[List.append_assoc,List.singleton_append] at ih;refine ⟨s0,s1,s6,s9,s11,s12,s13,s14,s21,?_⟩;cases hz:ys.find? (fun c=>!H.contains c.name) with
   |none =>
    rw[hz] at ih;simp only at ih ⊢;refine tJ rfl ?_;repeat first|with_reducible constructor|(with_reducible apply tG);kernel_rfl;intro _ _;(repeat apply tOp;intro _;simp only[hget,h0,asMap,keyT,hi,hf,hw,go_sem];rfl);rfl;simp only[go_sem];rfl|(with_reducible apply t1);rfl;trivial|(with_reducible apply t0);rfl;trivial
    exact ih
   |some c =>
    rw[hz] at ih;simp only at ih ⊢;refine tJ rfl ?_;repeat first|with_reducible constructor|(with_reducible apply tG);kernel_rfl;intro _ _;(repeat apply tOp;intro _;simp only[hget,h0,asMap,keyT,hi,hf,hw,go_sem];rfl);rfl;simp only[go_sem];rfl|(with_reducible apply t1);rfl;trivial|(with_reducible apply t0);rfl;trivial
    exact ih
theorem c153 {i:Nat} (cs:List CoD) (hcs:cs.length < big) (hca:∀ c∈cs,c.args.length≤16) (H:List (List UInt8)) (sto:Sto) (hi:sto.objs[i]?=some (.map (seenE H))) :
  CF kd (.fn 153) [.val (.slice (cs.map CoD.enc)),.val (.amap i)] sto=some (.ret (.val (beginD cs H).enc),sto):=by
 have h90:=c90 (kd:=kd) sto;have hlen:(seenE H).length=H.length:=by simp [seenE]
 obtain ⟨s0,s1,s6,s9,s11,s12,s13,s14,s21,h⟩:=loop153 (kd:=kd) (i:=i) H (.val (.int .i64 0)) (.val (.str [])) (.own 3 []) sto hi cs [] (by simpa using hcs) hca;simp only[List.nil_append,List.length_nil] at h;have e0:((0:Nat):Int)=0:=rfl;rw[e0] at h;rw[wildD_enc] at h90;simp only[beginD];cases g:(((H.length:Nat):Int)==0) with
 |true =>
  simp only[if_true];rw[wildD_enc];apply tA;rfl;rfl;exact Tryz.func153;rfl;rfl;simp only[go_sem];rfl;refine tQ ?_;repeat first|with_reducible constructor|(with_reducible apply tG);kernel_rfl;intro _ _;(repeat apply tOp;intro _;simp only[asMap,hi,hlen,h90,go_sem];rfl);rfl;simp only[go_sem];rfl|(with_reducible apply t1);rfl;trivial
  exact fin0 rfl
 |false =>
  simp only[Bool.false_eq_true,if_false];cases hz:cs.find? (fun c=>!H.contains c.name) with
  |none =>
   rw[hz] at h;simp only at h ⊢;rw[wildD_enc];apply tA;rfl;rfl;exact Tryz.func153;rfl;rfl;simp only[go_sem];rfl;refine tQ ?_;repeat first|with_reducible constructor|(with_reducible apply tG);kernel_rfl;intro _ _;(repeat apply tOp;intro _;simp only[asMap,hi,hlen,List.length_map,h90,go_sem];rfl);rfl;simp only[go_sem];rfl|(with_reducible apply tM);assumption|(with_reducible apply t0);rfl;trivial
   exact fin0 rfl
  |some c =>
   rw[hz] at h;simp only at h ⊢;rw[emptyD_enc];apply tA;rfl;rfl;exact Tryz.func153;rfl;rfl;simp only[go_sem];rfl;refine tQ ?_;repeat first|with_reducible constructor|(with_reducible apply tG);kernel_rfl;intro _ _;(repeat apply tOp;intro _;simp only[asMap,hi,hlen,List.length_map,go_sem];rfl);rfl;simp only[go_sem];rfl|(with_reducible apply tM);assumption|(with_reducible apply t0);rfl;trivial
   exact fin0 rfl
inductive Thin:PaD→Prop
 |mk {p:PaD}:p.args.length+1 < big→(∀ a∈p.args,Thin a)→Thin p
def plainD (p:PaD):PaD:=if p.open then wildD else .mk p.kind p.name (p.args.attach.map fun a=>plainD a.1)
termination_by p.size
decreasing_by exact PaD.args_size a.2
theorem plainD_eq (p:PaD):plainD p=if p.open then wildD else .mk p.kind p.name (p.args.map plainD):=by
 rw[plainD]
 have:(p.args.attach.map fun a=>plainD a.1)=p.args.map plainD:=by simp
 rw[this]
theorem loop99 (k:Int) (nm:List UInt8) (a2:Slot) (sto:Sto) (ys:List PaD):∀ (pre:List PaD) (X:List AVal),(pre++ys).length < big→X.length+ys.length+1 < big →
  (∀ y∈ys,CF kd (.fn 99) [.val y.enc] sto=some (.ret (.val (plainD y).enc),sto)) →
  ∃ s0 s1 s5 s7 s15 s16 s17 s18,LP kd 99 (loopOf Tryz.f99 0) ⟨[.dead,.dead,a2,.box [.val (.int .i64 k),.val (.str nm),.own 3 X],.dead,.dead,.val (.slice ((pre++ys).map PaD.enc)),.val (.int .i64 ((pre++ys).length:Nat)),.val (.int .i64 (pre.length:Nat)),.dead],sto⟩ =
   some (.exit 0,⟨[s0,s1,a2,.box [.val (.int .i64 k),.val (.str nm),.own 3 (X++ys.map fun y=>(plainD y).enc)],s5,s7,s15,s16,s17,s18],sto⟩):=by
 induction ys with
 |nil =>
  intro pre X h3 h4 h2;have hlt:=geI pre;simp only[List.map_nil,List.append_nil];iterate 8 apply Exists.intro
  refine tJ rfl ?_;repeat first|with_reducible constructor|(with_reducible apply tG);kernel_rfl;intro _ _;(repeat apply tOp;intro _;simp only[go_sem];rfl);rfl;simp only[go_sem];rfl|(with_reducible apply t0);rfl;trivial
  exact tlX;all_goals exact .dead
 |cons y ys ih =>
  intro pre X h3 h4 h2;have hget:=getI PaD.enc pre ys y;have hlt:=ltI pre ys y;have h0:=zI pre.length;have hw:=wL pre ys y h3;have hr:=roomI X (by simp at h4;omega);have hc:=h2 y (by simp);obtain ⟨s0,s1,s5,s7,s15,s16,s17,s18,ih⟩:=ih (pre++[y]) (X++[(plainD y).enc]) (by simpa using h3) (by simp at h4 ⊢;omega) (fun x hx=>h2 x (by simp [hx]));simp only[List.append_assoc,List.singleton_append] at ih;simp only[List.map_cons];rw[(plainD y).enc_eq] at ih hc ⊢;rw[y.enc_eq] at hget hc;refine ⟨s0,s1,s5,s7,s15,s16,s17,s18,?_⟩;refine tJ rfl ?_;repeat first|with_reducible constructor|(with_reducible apply tG);kernel_rfl;intro _ _;(repeat apply tOp;intro _;simp only[hget,h0,hw,hc,hr,setElems,clean,flat,AVal.cells,List.replicate,List.set_cons_zero,List.length_map,go_sem];rfl);rfl;simp only[go_sem];rfl|(with_reducible apply t1);rfl;trivial
  exact ih
theorem c99:∀ (p:PaD) (sto:Sto),Thin p→CF kd (.fn 99) [.val p.enc] sto=some (.ret (.val (plainD p).enc),sto):=by
 refine PaD.ind fun p ih sto ht=>?_
 have h102:=c102 (kd:=kd) p sto;have h90:=c90 (kd:=kd) sto;rw[wildD_enc] at h90;cases ht with
 |mk h1 h2 =>
  obtain ⟨s0,s1,s5,s7,s15,s16,s17,s18,hl⟩:=loop99 (kd:=kd) p.kind p.name (.box [.val (.int .i64 0),.val (.str []),.own 3 []]) sto p.args [] [] (by simp only[List.nil_append];omega) (by simp only[List.length_nil];omega) (fun y hy=>ih y hy sto (h2 y hy));simp only[List.nil_append,List.length_nil] at hl;have e0:((0:Nat):Int)=0:=rfl;rw[e0] at hl;rw[plainD_eq];rw[p.enc_eq] at h102 ⊢;cases g:p.open with
  |true =>
   rw[g] at h102;simp only[if_true];rw[wildD_enc];apply tA;rfl;rfl;exact Tryz.func99;rfl;rfl;simp only[go_sem];rfl;refine tQ ?_;repeat first|with_reducible constructor|(with_reducible apply tG);kernel_rfl;intro _ _;(repeat apply tOp;intro _;simp only[h102,h90,go_sem];rfl);rfl;simp only[go_sem];rfl|(with_reducible apply t1);rfl;trivial
   exact fin0 rfl
  |false =>
   rw[g] at h102;simp only[Bool.false_eq_true,if_false];rw[PaD.enc_mk,List.map_map];have e1:(p.args.map (PaD.enc∘plainD))=p.args.map fun y=>(plainD y).enc:=rfl
   rw[e1];apply tA;rfl;rfl;exact Tryz.func99;rfl;rfl;simp only[go_sem];rfl;refine tQ ?_;repeat first|with_reducible constructor|(with_reducible apply tG);kernel_rfl;intro _ _;(repeat apply tOp;intro _;simp only[h102,List.length_map,go_sem];rfl);rfl;simp only[go_sem];rfl|(with_reducible apply tM);assumption|(with_reducible apply t0);rfl;trivial
   exact fin0 rfl
end
end Go.Proofs.YtkmnkiekmlcfdaaGreatDoor
