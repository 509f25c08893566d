/- Part E09 of the proof of one law of the program. -/
import Derived.Test.YtkmnkiekmlcfdaaGreatDoorE08
set_option linter.all false
namespace Go.Proofs.YtkmnkiekmlcfdaaGreatDoor
open Go.AM
set_option maxRecDepth 100000
set_option maxHeartbeats 1000000
variable {kd:List UInt8→Int}
def intE (n:Nat):AVal:=.int .i64 (n:Nat)
def slotE (s:List UInt8×List Nat):AVal:=.agg [.str s.1,.slice (s.2.map intE)]
def slotsL (f:PaD→List Nat→List (List UInt8×List Nat)) (path:List Nat):Nat→List PaD→List (List UInt8×List Nat)
 |_,[]=>[]
 |k,a::l=>f a (path++[k])++slotsL f path (k+1) l
def slotsD:Nat→PaD→List Nat→List (List UInt8×List Nat)
 |0,_,_=>[]
 |n+1,p,path=>if p.kind==2 then [(p.name,path)] else if p.kind==3 then slotsL (slotsD n) path 0 p.args else []
theorem yields_append {cf:Oracle} {i:Nat} {Inv:Sto→Prop}:∀ {xs ys:List AVal} {S S':Sto} {b:Bool},Inv S→Yields cf i Inv (xs++ys) S S' b→(∃ T,Inv T∧Yields cf i Inv xs S T true∧Yields cf i Inv ys T S' b)∨(b=false∧Yields cf i Inv xs S S' false)
 |[],ys,S,S',b,hS,h=>.inl ⟨S,hS,.nil,h⟩
 |x::xs,ys,S,S',b,hS,h=>by
  cases h with
  |stop h hi=>exact .inr ⟨rfl,.stop h hi⟩
  |more h hi h2 =>
   rcases yields_append hi h2 with ⟨T,hT,h3,h4⟩|⟨hb,h3⟩
   ·exact .inl ⟨T,hT,.more h hi h3,h4⟩
   ·exact .inr ⟨hb,.more h hi h3⟩
structure InvS (i m L:Nat) (T:Sto):Prop where
 len:T.objs.length=L
 yld:T.objs[m]?=some (.box [.val (.yld i)])
 fn:T.objs[m+1]?=some (.box [.val (.func 105 [.loc m 0,.loc (m+1) 0])])
theorem ann105:(ans 105).ownArg=[]:=by rw[an105]
theorem head1 (l:List Nat):headOk 1 (l.map intE)=true:=by cases l <;> rfl
theorem all1 (l:List Nat):((l.map intE).all fun y=>Nat.beq y.cells.length 1)=true:=by
 rw[List.all_eq_true];intro x hx;obtain ⟨n,_,rfl⟩:=List.mem_map.1 hx;rfl
theorem loop105 {i m L n:Nat} (hn:n < big) {P:Sto→Prop} (path:List Nat) (hpl:path.length+1 < big) (ys:List PaD):∀ (pre:List PaD) (S S':Sto) (b:Bool),(pre++ys).length < big→(∀ T,P T→InvS i m L T)→P S →
  (∀ y∈ys,∀ (k:Nat) (S S':Sto) (b:Bool),P S→Yields (CF kd) i P ((slotsD n y (path++[k])).map slotE) S S' b →
   CF kd (.fn 105) [.val y.enc,.val (.slice ((path++[k]).map intE)),.val (.int .i64 (n:Nat)),.val (.loc m 0),.val (.loc (m+1) 0)] S=some (.ret (.val (.bool b)),S')) →
  Yields (CF kd) i P ((slotsL (slotsD n) path pre.length ys).map slotE) S S' b →
  ∃ s0 s1 s2 s3 s4 s5 s8 s9 s10 s12 s25 s28 s30 s31 s32 s33 s51,LP kd 105 (loopOf Tryz.f105 0) ⟨[.dead,.val (.slice (path.map intE)),.val (.int .i64 ((n+1:Nat):Int)),.dead,.val (.loc (m+1) 0),.dead,.dead,.dead,.dead,.dead,.dead,.dead,.val (.slice ((pre++ys).map PaD.enc)),.val (.int .i64 ((pre++ys).length:Nat)),.val (.int .i64 (pre.length:Nat)),.dead,.dead],S⟩ =
   bif b then some (.exit 0,⟨[s0,s1,s2,s3,s4,s5,s8,s9,s10,s12,s25,s28,s30,s31,s32,s33,s51],S'⟩) else some (.ret,⟨[s0,s1,s2,s3,s4,s5,.val (.bool false),s9,s10,s12,s25,s28,s30,s31,s32,s33,s51],S'⟩):=by
 induction ys with
 |nil =>
  intro pre S S' b h3 hP hS h2 hY;have hlt:=geI pre;simp only[slotsL,List.map_nil] at hY;cases hY;simp only[cond_true,List.append_nil];iterate 17 apply Exists.intro
  refine tJ rfl ?_;repeat first|with_reducible constructor|(with_reducible apply tG);kernel_rfl;intro _ _;(repeat apply tOp;intro _;simp only[go_sem,Nat.reduceAdd,reduceIte];rfl);rfl;simp only[go_sem];rfl|(with_reducible apply t0);rfl;trivial
  exact tlX;all_goals exact .dead
 |cons y ys ih =>
  intro pre S S' b h3 hP hS h2 hY;have hget:=getI PaD.enc pre ys y;have hlt:=ltI pre ys y;have h0:=zI pre.length;have hw:=wL pre ys y h3;have hI:=hP S hS;have hfn:=hI.fn;have hc:=h2 y (by simp) pre.length S;have hr:=roomI path hpl;have hsub:IntKind.i64.wrap (((n+1:Nat):Int) - 1)=(n:Nat):=by rw[wrapOk (by omega) (by simp only[big] at hn;omega)];omega
  have htk:(path.map intE).take ((path.length:Nat):Int).toNat=path.map intE:=by rw[Int.toNat_natCast];apply List.take_of_length_le;simp
  have hz:=zI path.length;have hle:decide (((path.length:Nat):Int)≤((path.length:Nat):Int))=true:=by simp
  have heq:decide (((path.length:Nat):Int)=((path.length:Nat):Int))=true:=by simp
  have epath:(path++[pre.length]).map intE=path.map intE++[.int .i64 (pre.length:Nat)]:=by simp [intE]
  rw[y.enc_eq] at hget;rw[epath,y.enc_eq] at hc;simp only[slotsL,List.map_append] at hY;rcases yields_append hS hY with ⟨T,hT,h4,h5⟩|⟨rfl,h4⟩
  ·have hc:=hc _ _ hS (by simpa using h4)
   have h5:Yields (CF kd) i P ((slotsL (slotsD n) path (pre++[y]).length ys).map slotE) T S' b:=by simpa using h5
   obtain ⟨s0,s1,s2,s3,s4,s5,s8,s9,s10,s12,s25,s28,s30,s31,s32,s33,s51,ih⟩:=ih (pre++[y]) T S' b (by simpa using h3) hP hT (fun x hx=>h2 x (by simp [hx])) h5;simp only[List.append_assoc,List.singleton_append] at ih;refine ⟨s0,s1,s2,s3,s4,s5,s8,s9,s10,s12,s25,s28,s30,s31,s32,s33,s51,?_⟩;cases b with
   |true =>
    simp only[cond_true] at ih ⊢;refine tJ rfl ?_;repeat first|with_reducible constructor|(with_reducible apply tG);kernel_rfl;intro _ _;(repeat apply tOp;intro _;simp only[hget,h0,hfn,hc,hr,hsub,htk,hz,hle,heq,head1,all1,ann105,setElems,clean,flat,List.replicate,List.set_cons_zero,List.length_map,Int.toNat_zero,List.drop_zero,Nat.add_zero,hw,go_sem,Nat.reduceAdd,reduceIte];rfl);rfl;simp only[go_sem];rfl|(with_reducible apply t1);rfl;trivial|(with_reducible apply t0);rfl;trivial
    exact ih
   |false =>
    simp only[cond_false] at ih ⊢;refine tJ rfl ?_;repeat first|with_reducible constructor|(with_reducible apply tG);kernel_rfl;intro _ _;(repeat apply tOp;intro _;simp only[hget,h0,hfn,hc,hr,hsub,htk,hz,hle,heq,head1,all1,ann105,setElems,clean,flat,List.replicate,List.set_cons_zero,List.length_map,Int.toNat_zero,List.drop_zero,Nat.add_zero,hw,go_sem,Nat.reduceAdd,reduceIte];rfl);rfl;simp only[go_sem];rfl|(with_reducible apply t1);rfl;trivial|(with_reducible apply t0);rfl;trivial
    exact ih
  ·have hc:=hc _ _ hS (by simpa using h4)
   simp only[cond_false];iterate 17 apply Exists.intro
   refine tJ rfl ?_;repeat first|with_reducible constructor|(with_reducible apply tG);kernel_rfl;intro _ _;(repeat apply tOp;intro _;simp only[hget,h0,hfn,hc,hr,hsub,htk,hz,hle,heq,head1,all1,ann105,setElems,clean,flat,List.replicate,List.set_cons_zero,List.length_map,Int.toNat_zero,List.drop_zero,Nat.add_zero,go_sem,Nat.reduceAdd,reduceIte];rfl);rfl;simp only[go_sem];rfl|(with_reducible apply t1);rfl;trivial
   exact tlE;all_goals exact .dead
theorem c106 (l:List Nat) (hl:l.length < big) (sto:Sto):CF kd (.fn 106) [.val (.slice (l.map intE))] sto=some (.ret (.val (.slice (l.map intE))),sto):=fnP (r:=.ret (.val (.slice (l.map intE)))) (by
 have h:rowsOk 1 (l.map intE)=true:=by
  simp only[rowsOk,all1,List.length_map,Bool.true_and];apply Nat.ble_eq_true_of_le;simp only[room];simp only[big] at hl;omega
 show (bif rowsOk 1 (l.map intE) then _ else _)=_;rw[h];rfl) rfl
theorem c105 {i m L:Nat} {P:Sto→Prop} (hP:∀ T,P T→InvS i m L T):∀ (n:Nat) (p:PaD) (path:List Nat) (S S':Sto) (b:Bool),n < big→p.size < big→path.length+n+1 < big→P S→Yields (CF kd) i P ((slotsD n p path).map slotE) S S' b →
  CF kd (.fn 105) [.val p.enc,.val (.slice (path.map intE)),.val (.int .i64 (n:Nat)),.val (.loc m 0),.val (.loc (m+1) 0)] S=some (.ret (.val (.bool b)),S'):=by
 intro n;induction n with
 |zero =>
  intro p path S S' b hn hp hpl hS hY;have hb:((((0:Nat):Int)==0):Bool)=true:=rfl;simp only[slotsD,List.map_nil] at hY;cases hY;rw[p.enc_eq];apply tA;rfl;rfl;exact Tryz.func105;rfl;rfl;simp only[go_sem];rfl;refine tQ ?_;repeat first|with_reducible constructor|(with_reducible apply tG);kernel_rfl;intro _ _;(repeat apply tOp;intro _;simp only[go_sem];rfl);rfl;simp only[go_sem];rfl|(with_reducible apply t1);rfl;trivial
  exact fin0 rfl
 |succ n ih =>
  intro p path S S' b hn hp hpl hS hY;have hb:((((n+1:Nat):Int)==0):Bool)=false:=by simp;omega
  have hI:=hP S hS;have hy:=hI.yld;have hcl:=c106 (kd:=kd) path (by omega) ⟨S.objs,S.objs.length⟩;simp only[slotsD] at hY;rw[p.enc_eq];cases hA:(p.kind==2) with
  |true =>
   simp only[hA,if_true,List.map_cons,List.map_nil,slotE] at hY;have hk3:(p.kind != 3)=true:=by rw[eq_of_beq hA];rfl
   cases hY with
   |stop h hi =>
    apply tA;rfl;rfl;exact Tryz.func105;rfl;rfl;simp only[go_sem];rfl;refine tQ ?_;repeat first|with_reducible constructor|(with_reducible apply tG);kernel_rfl;intro _ _;(repeat apply tOp;intro _;simp only[hA,hy,hcl,h,beq_self_eq_true,slotLok,go_sem];rfl);rfl;simp only[go_sem];rfl|(with_reducible apply t1);rfl;trivial|(with_reducible apply t0);rfl;trivial
    exact fin3 (by rw[(hP _ hi).len,hI.len]) rfl
   |more h hi hY =>
    cases hY;apply tA;rfl;rfl;exact Tryz.func105;rfl;rfl;simp only[go_sem];rfl;refine tQ ?_;repeat first|with_reducible constructor|(with_reducible apply tG);kernel_rfl;intro _ _;(repeat apply tOp;intro _;simp only[hA,hy,hcl,h,beq_self_eq_true,slotLok,go_sem];rfl);rfl;simp only[go_sem];rfl|(with_reducible apply t1);rfl;trivial|(with_reducible apply t0);rfl;trivial
    exact fin3 (by rw[(hP _ hi).len,hI.len]) rfl
  |false =>
   simp only[hA,Bool.false_eq_true,if_false] at hY;cases hB:(p.kind==3) with
   |false =>
    simp only[hB,Bool.false_eq_true,if_false,List.map_nil] at hY;have hk3:(p.kind != 3)=true:=by rw[bne,hB];rfl
    cases hY;apply tA;rfl;rfl;exact Tryz.func105;rfl;rfl;simp only[go_sem];rfl;refine tQ ?_;repeat first|with_reducible constructor|(with_reducible apply tG);kernel_rfl;intro _ _;(repeat apply tOp;intro _;simp only[hA,go_sem];rfl);rfl;simp only[go_sem];rfl|(with_reducible apply t1);rfl;trivial|(with_reducible apply t0);rfl;trivial
    exact fin0 rfl
   |true =>
    simp only[hB,if_true] at hY;have hk3:(p.kind != 3)=false:=by rw[bne,hB];rfl
    have hal:=p.args_len
    obtain ⟨s0,s1,s2,s3,s4,s5,s8,s9,s10,s12,s25,s28,s30,s31,s32,s33,s51,hl⟩:=loop105 (kd:=kd) (i:=i) (m:=m) (L:=L) (n:=n) (by omega) (P:=P) path (by omega) p.args [] S S' b (by simp only[List.nil_append];omega) hP hS
     (fun y hy k T T' c hT hYT=>ih y (path++[k]) T T' c (by omega) (by have:=PaD.args_size hy;omega) (by simp;omega) hT hYT) hY
    simp only[List.nil_append,List.length_nil] at hl;have e0:((0:Nat):Int)=0:=rfl;rw[e0] at hl;have hS':S'.objs.length=S.objs.length:=yields_len (fun T hT=>(hP T hT).len.trans hI.len.symm) hY rfl;cases b with
    |true =>
     simp only[cond_true] at hl;apply tA;rfl;rfl;exact Tryz.func105;rfl;rfl;simp only[go_sem];rfl;refine tQ ?_;repeat first|with_reducible constructor|(with_reducible apply tG);kernel_rfl;intro _ _;(repeat apply tOp;intro _;simp only[hA,List.length_map,go_sem];rfl);rfl;simp only[go_sem];rfl|(with_reducible apply tM);assumption|(with_reducible apply t0);rfl;trivial
     exact fin3 hS' rfl
    |false =>
     simp only[cond_false] at hl;apply tA;rfl;rfl;exact Tryz.func105;rfl;rfl;simp only[go_sem];rfl;refine tQ ?_;repeat first|with_reducible constructor|(with_reducible apply tG);kernel_rfl;intro _ _;(repeat apply tOp;intro _;simp only[hA,List.length_map,go_sem];rfl);rfl;simp only[go_sem];rfl|(with_reducible apply tM);assumption|(with_reducible apply t0);rfl;trivial
     exact fin3 hS' rfl
end Go.Proofs.YtkmnkiekmlcfdaaGreatDoor
