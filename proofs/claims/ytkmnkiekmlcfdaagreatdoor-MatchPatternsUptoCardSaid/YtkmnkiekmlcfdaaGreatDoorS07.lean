/- Part S07 of the proof of one law of the program. -/
import Derived.Test.YtkmnkiekmlcfdaaGreatDoorS06
set_option linter.all false
namespace Go.Proofs.YtkmnkiekmlcfdaaGreatDoor
open Go.AM
set_option maxRecDepth 100000
set_option maxHeartbeats 4000000
variable {kd:List UInt8→Int}
def shapeR (ds:List DaD) (vs:List (List UInt8)) (fr:Bool) (t:TyD):Option Bool :=
 bif qB t.name then some ((tvarB t.name&&((t.args.length:Nat):Int)==0)&&(fr||vs.any fun y=>y==t.name))
 else bif t.name==[73,110,116] then some (((t.args.length:Nat):Int)==0)
 else bif t.name==[45,62] then (bif ((t.args.length:Nat):Int) != 2 then some false else none)
 else bif t.name==[44] then (bif decide (((t.args.length:Nat):Int)≥2)&&decide (((t.args.length:Nat):Int)≤4) then none else some false)
 else bif (findD ds t.name).isSome then (bif ((t.args.length:Nat):Int) != ((((findD ds t.name).getD zeroDa).vars.length:Nat):Int) then some false else none) else some false
def nTyR (ds:List DaD) (vs:List (List UInt8)) (fr:Bool):Nat→TyD→Bool
 |0,_=>true
 |m+1,t=>match shapeR ds vs fr t with|some b=>!b|none=>t.args.any (nTyR ds vs fr m)
theorem loop80 (ds:List DaD) (vs:List (List UInt8)) (fr:Bool) (nm:List UInt8) (m:Nat) (hm:m+1 < big) (T:Sto) (ys:List TyD):∀ (pre:List TyD),(pre++ys).length < big →
  (∀ x∈ys,CF kd (.fn 80) [.val (.slice (ds.map DaD.enc)),.val x.enc,.val (.slice (vs.map .str)),.val (.bool fr),.val (.int .i64 (m:Nat))] T=some (.ret (.val (.bool (!nTyR ds vs fr m x))),T)) →
  ∃ s0 s1 s2 s3 s4 s6 s10 s11 s12 s13 s15 s25 s45 s63 s64 s70 s75 s76 s82 s87 s101,LP kd 80 (loopOf Tryz.f80 0) ⟨[.val (.slice (ds.map DaD.enc)),.dead,.val (.slice (vs.map .str)),.val (.bool fr),.val (.int .i64 (m+1:Nat)),.box [.val (.str nm),.val (.slice ((pre++ys).map TyD.enc))],.dead,.dead,.dead,.val (.int .i64 (pre.length:Nat)),.dead,.dead,.dead,.dead,.dead,.dead,.dead,.dead,.dead,.dead,.dead],T⟩ =
   bif ys.any (fun y=>nTyR ds vs fr m y) then some (.ret,⟨[s0,s1,s2,s3,s4,s6,.val (.bool false),s11,s12,s13,s15,s25,s45,s63,s64,s70,s75,s76,s82,s87,s101],T⟩) else some (.exit 1,⟨[s0,s1,s2,s3,s4,s6,s10,s11,s12,s13,s15,s25,s45,s63,s64,s70,s75,s76,s82,s87,s101],T⟩):=by
 induction ys with
 |nil =>
  intro pre h3 h80;have hlt:=geI pre;simp only[List.append_nil,List.any_nil,cond_false];iterate 21 apply Exists.intro
  refine tJ rfl ?_;repeat first|with_reducible constructor|(with_reducible apply tG);kernel_rfl;intro _ _;(repeat apply tOp;intro _;simp only[List.length_map,go_sem];rfl);rfl;simp only[go_sem];rfl|(with_reducible apply t0);rfl;trivial
  exact tlX;all_goals exact .dead
 |cons y ys ih =>
  intro pre h3 h80;have hget:=getI TyD.enc pre ys y;have h80y:=h80 y (by simp);rw[y.enc_eq] at hget h80y;have hlt:=ltI pre ys y;have h0:=zI pre.length;have hw:=wL pre ys y h3;have hwm:IntKind.i64.wrap (((m+1:Nat):Int) - 1)=(m:Nat):=by rw[wrapOk (by omega) (by simp only[big] at hm;omega)];omega
  simp only[List.any_cons];cases hp:(nTyR ds vs fr m y) with
  |true =>
   rw[hp] at h80y;simp only[Bool.true_or,cond_true];iterate 21 apply Exists.intro
   refine tJ rfl ?_;repeat first|with_reducible constructor|(with_reducible apply tG);kernel_rfl;intro _ _;(repeat apply tOp;intro _;simp only[List.length_map,hget,h0,h80y,hwm,go_sem];rfl);rfl;simp only[go_sem];rfl|(with_reducible apply t1);rfl;trivial
   exact tlE;all_goals exact .dead
  |false =>
   rw[hp] at h80y;obtain ⟨s0,s1,s2,s3,s4,s6,s10,s11,s12,s13,s15,s25,s45,s63,s64,s70,s75,s76,s82,s87,s101,ih⟩:=ih (pre++[y]) (by simpa using h3) (fun x hx=>h80 x (by simp [hx]));simp only[List.append_assoc,List.singleton_append] at ih;simp only[Bool.false_or];refine ⟨s0,s1,s2,s3,s4,s6,s10,s11,s12,s13,s15,s25,s45,s63,s64,s70,s75,s76,s82,s87,s101,?_⟩;cases hz:ys.any (fun y=>nTyR ds vs fr m y)
   all_goals
    rw[hz] at ih;simp only[cond_true,cond_false] at ih ⊢;refine tJ rfl ?_;repeat first|with_reducible constructor|(with_reducible apply tG);kernel_rfl;intro _ _;(repeat apply tOp;intro _;simp only[List.length_map,hget,h0,h80y,hwm,hw,go_sem];rfl);rfl;simp only[go_sem];rfl|(with_reducible apply t1);rfl;trivial|(with_reducible apply t0);rfl;trivial
    exact ih
theorem len_pos {l:List UInt8} {b:UInt8} (h:l[(0:Int).toNat]?=some b):decide (((l.length:Nat):Int) > 0)=true:=by
 have:=(List.getElem?_eq_some_iff.1 h).1
 rw[decide_eq_true_eq];have h1:(0:Int).toNat=0:=rfl;omega
theorem c80 {ds:List DaD} (h:DsOk ds) (vs:List (List UInt8)) (hv:vs.length < big) (fr:Bool) (m:Nat):m < big→∀ (t:TyD) (T:Sto),t.size < big →
  CF kd (.fn 80) [.val (.slice (ds.map DaD.enc)),.val t.enc,.val (.slice (vs.map .str)),.val (.bool fr),.val (.int .i64 (m:Nat))] T=some (.ret (.val (.bool (!nTyR ds vs fr m t))),T):=by
 induction m with
 |zero =>
  intro hm t T ht;have hb:((((0:Nat):Int)==0):Bool)=true:=rfl;rw[TyD.enc_eq];apply tA;rfl;rfl;exact Tryz.func80;rfl;rfl;simp only[go_sem];rfl;refine tQ ?_;repeat first|with_reducible constructor|(with_reducible apply tG);kernel_rfl;intro _ _;(repeat apply tOp;intro _;simp only[hb,go_sem];rfl);rfl;simp only[go_sem];rfl|(with_reducible apply t1);rfl;trivial
  exact fin0 rfl
 |succ m ih =>
  intro hm t T ht;have hb:((((m+1:Nat):Int)==0):Bool)=false:=by simp;omega
  have hlen:=t.args_len;obtain ⟨s0,s1,s2,s3,s4,s6,s10,s11,s12,s13,s15,s25,s45,s63,s64,s70,s75,s76,s82,s87,s101,hl⟩:=loop80 (kd:=kd) ds vs fr t.name m hm T t.args [] (by simp only[List.nil_append];omega) (fun x hx=>ih (by omega) x T (by have:=TyD.args_size hx;omega));simp only[List.nil_append,List.length_nil] at hl;have e0:((0:Nat):Int)=0:=rfl;rw[e0] at hl;have h79:=c79 (kd:=kd) t.name T;have h78:=c78 (kd:=kd) t.name vs T hv;have h72:=c72 (kd:=kd) ((t.args.length:Nat):Int) 2 4 T;have h118:=c118 (kd:=kd) t.name ds T (by have:=h.len;omega);rw[show ((findD ds t.name).getD zeroDa).enc=.agg [.str ((findD ds t.name).getD zeroDa).name,.slice (((findD ds t.name).getD zeroDa).vars.map .str),.slice (((findD ds t.name).getD zeroDa).cons.map CoD.enc)] from rfl] at h118;unfold nTyR shapeR;rw[t.enc_eq];have z0:decide ((0:Int)≤0)=true:=rfl;cases hq:qB t.name with
  |true =>
   simp only[cond_true,Bool.not_not]
   obtain ⟨b0,g0,hqq⟩:∃ b0:UInt8,t.name[(0:Int).toNat]?=some b0∧(((b0.toNat:Nat):Int)==39)=true:=by
    have hp:t.name≠[]:=fun e=>by rw[e] at hq;cases hq
    obtain ⟨b,h1,h2⟩:=peek_get (s:=t.name) (i:=0) (List.length_pos_iff.2 hp);refine ⟨b,h1,?_⟩;unfold qB at hq;rw[h2] at hq;exact hq
   have hgt:=len_pos g0;cases hA:tvarB t.name with
   |false =>
    rw[hA] at h79;apply tA;rfl;rfl;exact Tryz.func80;rfl;rfl;simp only[go_sem];rfl;refine tQ ?_;repeat first|with_reducible constructor|(with_reducible apply tG);kernel_rfl;intro _ _;(repeat apply tOp;intro _;simp only[hb,hgt,g0,z0,hqq,h79,go_sem];rfl);rfl;simp only[go_sem];rfl|(with_reducible apply t1);rfl;trivial|(with_reducible apply t0);rfl;trivial
    exact fin0 rfl
   |true =>
    rw[hA] at h79;cases hB:(((t.args.length:Nat):Int)==0) with
    |false =>
     apply tA;rfl;rfl;exact Tryz.func80;rfl;rfl;simp only[go_sem];rfl;refine tQ ?_;repeat first|with_reducible constructor|(with_reducible apply tG);kernel_rfl;intro _ _;(repeat apply tOp;intro _;simp only[hb,hgt,g0,z0,hqq,h79,List.length_map,hB,go_sem];rfl);rfl;simp only[go_sem];rfl|(with_reducible apply t1);rfl;trivial|(with_reducible apply t0);rfl;trivial
     exact fin0 rfl
    |true =>
     cases fr with
     |true =>
      apply tA;rfl;rfl;exact Tryz.func80;rfl;rfl;simp only[go_sem];rfl;refine tQ ?_;repeat first|with_reducible constructor|(with_reducible apply tG);kernel_rfl;intro _ _;(repeat apply tOp;intro _;simp only[hb,hgt,g0,z0,hqq,h79,List.length_map,hB,go_sem];rfl);rfl;simp only[go_sem];rfl|(with_reducible apply t1);rfl;trivial|(with_reducible apply t0);rfl;trivial
      exact fin0 rfl
     |false =>
      apply tA;rfl;rfl;exact Tryz.func80;rfl;rfl;simp only[go_sem];rfl;refine tQ ?_;repeat first|with_reducible constructor|(with_reducible apply tG);kernel_rfl;intro _ _;(repeat apply tOp;intro _;simp only[hb,hgt,g0,z0,hqq,h79,List.length_map,hB,h78,go_sem];rfl);rfl;simp only[go_sem];rfl|(with_reducible apply t1);rfl;trivial|(with_reducible apply t0);rfl;trivial
      exact fin0 rfl
  |false =>
  simp only[cond_false]
  have hnq:(t.name=[]∧decide (((t.name.length:Nat):Int) > 0)=false)∨(decide (((t.name.length:Nat):Int) > 0)=true∧∃ b0:UInt8,t.name[(0:Int).toNat]?=some b0∧(((b0.toNat:Nat):Int)==39)=false):=by
   by_cases hp:t.name=[]
   ·exact .inl ⟨hp,by rw[hp];rfl⟩
   ·obtain ⟨b,h1,h2⟩:=peek_get (s:=t.name) (i:=0) (List.length_pos_iff.2 hp)
    refine .inr ⟨len_pos h1,b,h1,?_⟩;unfold qB at hq;rw[h2] at hq;exact hq
  rcases hnq with ⟨hemp,hgt⟩|⟨hgt,b0,g0,hqq⟩
  ·have hgt:=hgt
   cases hI:(t.name==[73,110,116]) with
   |true =>
    simp only[cond_true,Bool.not_not];apply tA;rfl;rfl;exact Tryz.func80;rfl;rfl;simp only[go_sem];rfl;refine tQ ?_;repeat first|with_reducible constructor|(with_reducible apply tG);kernel_rfl;intro _ _;(repeat apply tOp;intro _;simp only[hb,hgt,hI,List.length_map,go_sem];rfl);rfl;simp only[go_sem];rfl|(with_reducible apply t1);rfl;trivial|(with_reducible apply t0);rfl;trivial
    exact fin0 rfl
   |false =>
   simp only[cond_false];cases hF:(t.name==[45,62]) with
   |true =>
    simp only[cond_true];cases hn:(((t.args.length:Nat):Int) != 2) with
    |true =>
     simp only[cond_true,Bool.not_false];apply tA;rfl;rfl;exact Tryz.func80;rfl;rfl;simp only[go_sem];rfl;refine tQ ?_;repeat first|with_reducible constructor|(with_reducible apply tG);kernel_rfl;intro _ _;(repeat apply tOp;intro _;simp only[hb,hgt,hI,hF,List.length_map,hn,go_sem];rfl);rfl;simp only[go_sem];rfl|(with_reducible apply t1);rfl;trivial|(with_reducible apply t0);rfl;trivial
     exact fin0 rfl
    |false =>
     simp only[cond_false];cases hr:t.args.any (nTyR ds vs fr m)
     all_goals
      rw[show (t.args.any fun y=>nTyR ds vs fr m y)=_ from hr] at hl;simp only[cond_true,cond_false] at hl ⊢;apply tA;rfl;rfl;exact Tryz.func80;rfl;rfl;simp only[go_sem];rfl;refine tQ ?_;repeat first|with_reducible constructor|(with_reducible apply tG);kernel_rfl;intro _ _;(repeat apply tOp;intro _;simp only[hb,hgt,hI,hF,List.length_map,hn,go_sem];rfl);rfl;simp only[go_sem];rfl|(with_reducible apply tM);assumption|(with_reducible apply t1);rfl;trivial|(with_reducible apply t0);rfl;trivial
      exact fin0 rfl
   |false =>
   simp only[cond_false];cases hC:(t.name==[44]) with
   |true =>
    simp only[cond_true];cases hn:(decide (((t.args.length:Nat):Int)≥2)&&decide (((t.args.length:Nat):Int)≤4)) with
    |false =>
     rw[hn] at h72;simp only[cond_false,Bool.not_false];apply tA;rfl;rfl;exact Tryz.func80;rfl;rfl;simp only[go_sem];rfl;refine tQ ?_;repeat first|with_reducible constructor|(with_reducible apply tG);kernel_rfl;intro _ _;(repeat apply tOp;intro _;simp only[hb,hgt,hI,hF,hC,List.length_map,h72,go_sem];rfl);rfl;simp only[go_sem];rfl|(with_reducible apply t1);rfl;trivial|(with_reducible apply t0);rfl;trivial
     exact fin0 rfl
    |true =>
     rw[hn] at h72;simp only[cond_true];cases hr:t.args.any (nTyR ds vs fr m)
     all_goals
      rw[show (t.args.any fun y=>nTyR ds vs fr m y)=_ from hr] at hl;simp only[cond_true,cond_false] at hl ⊢;apply tA;rfl;rfl;exact Tryz.func80;rfl;rfl;simp only[go_sem];rfl;refine tQ ?_;repeat first|with_reducible constructor|(with_reducible apply tG);kernel_rfl;intro _ _;(repeat apply tOp;intro _;simp only[hb,hgt,hI,hF,hC,List.length_map,h72,go_sem];rfl);rfl;simp only[go_sem];rfl|(with_reducible apply tM);assumption|(with_reducible apply t1);rfl;trivial|(with_reducible apply t0);rfl;trivial
      exact fin0 rfl
   |false =>
   simp only[cond_false];generalize (findD ds t.name).getD zeroDa=d at *;cases hS:(findD ds t.name).isSome with
   |false =>
    rw[hS] at h118;simp only[cond_false,Bool.not_false];apply tA;rfl;rfl;exact Tryz.func80;rfl;rfl;simp only[go_sem];rfl;refine tQ ?_;repeat first|with_reducible constructor|(with_reducible apply tG);kernel_rfl;intro _ _;(repeat apply tOp;intro _;simp only[hb,hgt,hI,hF,hC,h118,go_sem];rfl);rfl;simp only[go_sem];rfl|(with_reducible apply t1);rfl;trivial|(with_reducible apply t0);rfl;trivial
    exact fin0 rfl
   |true =>
    rw[hS] at h118;simp only[cond_true];cases hn:(((t.args.length:Nat):Int) != ((d.vars.length:Nat):Int)) with
    |true =>
     simp only[cond_true,Bool.not_false];apply tA;rfl;rfl;exact Tryz.func80;rfl;rfl;simp only[go_sem];rfl;refine tQ ?_;repeat first|with_reducible constructor|(with_reducible apply tG);kernel_rfl;intro _ _;(repeat apply tOp;intro _;simp only[hb,hgt,hI,hF,hC,h118,List.length_map,hn,go_sem];rfl);rfl;simp only[go_sem];rfl|(with_reducible apply t1);rfl;trivial|(with_reducible apply t0);rfl;trivial
     exact fin0 rfl
    |false =>
     simp only[cond_false];cases hr:t.args.any (nTyR ds vs fr m)
     all_goals
      rw[show (t.args.any fun y=>nTyR ds vs fr m y)=_ from hr] at hl;simp only[cond_true,cond_false] at hl ⊢;apply tA;rfl;rfl;exact Tryz.func80;rfl;rfl;simp only[go_sem];rfl;refine tQ ?_;repeat first|with_reducible constructor|(with_reducible apply tG);kernel_rfl;intro _ _;(repeat apply tOp;intro _;simp only[hb,hgt,hI,hF,hC,h118,List.length_map,hn,go_sem];rfl);rfl;simp only[go_sem];rfl|(with_reducible apply tM);assumption|(with_reducible apply t0);rfl;trivial
      exact fin0 rfl
  ·have hgt:=hgt
   cases hI:(t.name==[73,110,116]) with
   |true =>
    simp only[cond_true,Bool.not_not];apply tA;rfl;rfl;exact Tryz.func80;rfl;rfl;simp only[go_sem];rfl;refine tQ ?_;repeat first|with_reducible constructor|(with_reducible apply tG);kernel_rfl;intro _ _;(repeat apply tOp;intro _;simp only[hb,hgt,g0,z0,hqq,hI,List.length_map,go_sem];rfl);rfl;simp only[go_sem];rfl|(with_reducible apply t1);rfl;trivial|(with_reducible apply t0);rfl;trivial
    exact fin0 rfl
   |false =>
   simp only[cond_false];cases hF:(t.name==[45,62]) with
   |true =>
    simp only[cond_true];cases hn:(((t.args.length:Nat):Int) != 2) with
    |true =>
     simp only[cond_true,Bool.not_false];apply tA;rfl;rfl;exact Tryz.func80;rfl;rfl;simp only[go_sem];rfl;refine tQ ?_;repeat first|with_reducible constructor|(with_reducible apply tG);kernel_rfl;intro _ _;(repeat apply tOp;intro _;simp only[hb,hgt,g0,z0,hqq,hI,hF,List.length_map,hn,go_sem];rfl);rfl;simp only[go_sem];rfl|(with_reducible apply t1);rfl;trivial|(with_reducible apply t0);rfl;trivial
     exact fin0 rfl
    |false =>
     simp only[cond_false];cases hr:t.args.any (nTyR ds vs fr m)
     all_goals
      rw[show (t.args.any fun y=>nTyR ds vs fr m y)=_ from hr] at hl;simp only[cond_true,cond_false] at hl ⊢;apply tA;rfl;rfl;exact Tryz.func80;rfl;rfl;simp only[go_sem];rfl;refine tQ ?_;repeat first|with_reducible constructor|(with_reducible apply tG);kernel_rfl;intro _ _;(repeat apply tOp;intro _;simp only[hb,hgt,g0,z0,hqq,hI,hF,List.length_map,hn,go_sem];rfl);rfl;simp only[go_sem];rfl|(with_reducible apply tM);assumption|(with_reducible apply t1);rfl;trivial|(with_reducible apply t0);rfl;trivial
      exact fin0 rfl
   |false =>
   simp only[cond_false];cases hC:(t.name==[44]) with
   |true =>
    simp only[cond_true];cases hn:(decide (((t.args.length:Nat):Int)≥2)&&decide (((t.args.length:Nat):Int)≤4)) with
    |false =>
     rw[hn] at h72;simp only[cond_false,Bool.not_false];apply tA;rfl;rfl;exact Tryz.func80;rfl;rfl;simp only[go_sem];rfl;refine tQ ?_;repeat first|with_reducible constructor|(with_reducible apply tG);kernel_rfl;intro _ _;(repeat apply tOp;intro _;simp only[hb,hgt,g0,z0,hqq,hI,hF,hC,List.length_map,h72,go_sem];rfl);rfl;simp only[go_sem];rfl|(with_reducible apply t1);rfl;trivial|(with_reducible apply t0);rfl;trivial
     exact fin0 rfl
    |true =>
     rw[hn] at h72;simp only[cond_true];cases hr:t.args.any (nTyR ds vs fr m)
     all_goals
      rw[show (t.args.any fun y=>nTyR ds vs fr m y)=_ from hr] at hl;simp only[cond_true,cond_false] at hl ⊢;apply tA;rfl;rfl;exact Tryz.func80;rfl;rfl;simp only[go_sem];rfl;refine tQ ?_;repeat first|with_reducible constructor|(with_reducible apply tG);kernel_rfl;intro _ _;(repeat apply tOp;intro _;simp only[hb,hgt,g0,z0,hqq,hI,hF,hC,List.length_map,h72,go_sem];rfl);rfl;simp only[go_sem];rfl|(with_reducible apply tM);assumption|(with_reducible apply t1);rfl;trivial|(with_reducible apply t0);rfl;trivial
      exact fin0 rfl
   |false =>
   simp only[cond_false];generalize (findD ds t.name).getD zeroDa=d at *;cases hS:(findD ds t.name).isSome with
   |false =>
    rw[hS] at h118;simp only[cond_false,Bool.not_false];apply tA;rfl;rfl;exact Tryz.func80;rfl;rfl;simp only[go_sem];rfl;refine tQ ?_;repeat first|with_reducible constructor|(with_reducible apply tG);kernel_rfl;intro _ _;(repeat apply tOp;intro _;simp only[hb,hgt,g0,z0,hqq,hI,hF,hC,h118,go_sem];rfl);rfl;simp only[go_sem];rfl|(with_reducible apply t1);rfl;trivial|(with_reducible apply t0);rfl;trivial
    exact fin0 rfl
   |true =>
    rw[hS] at h118;simp only[cond_true];cases hn:(((t.args.length:Nat):Int) != ((d.vars.length:Nat):Int)) with
    |true =>
     simp only[cond_true,Bool.not_false];apply tA;rfl;rfl;exact Tryz.func80;rfl;rfl;simp only[go_sem];rfl;refine tQ ?_;repeat first|with_reducible constructor|(with_reducible apply tG);kernel_rfl;intro _ _;(repeat apply tOp;intro _;simp only[hb,hgt,g0,z0,hqq,hI,hF,hC,h118,List.length_map,hn,go_sem];rfl);rfl;simp only[go_sem];rfl|(with_reducible apply t1);rfl;trivial|(with_reducible apply t0);rfl;trivial
     exact fin0 rfl
    |false =>
     simp only[cond_false];cases hr:t.args.any (nTyR ds vs fr m)
     all_goals
      rw[show (t.args.any fun y=>nTyR ds vs fr m y)=_ from hr] at hl;simp only[cond_true,cond_false] at hl ⊢;apply tA;rfl;rfl;exact Tryz.func80;rfl;rfl;simp only[go_sem];rfl;refine tQ ?_;repeat first|with_reducible constructor|(with_reducible apply tG);kernel_rfl;intro _ _;(repeat apply tOp;intro _;simp only[hb,hgt,g0,z0,hqq,hI,hF,hC,h118,List.length_map,hn,go_sem];rfl);rfl;simp only[go_sem];rfl|(with_reducible apply tM);assumption|(with_reducible apply t0);rfl;trivial
      exact fin0 rfl
end Go.Proofs.YtkmnkiekmlcfdaaGreatDoor
