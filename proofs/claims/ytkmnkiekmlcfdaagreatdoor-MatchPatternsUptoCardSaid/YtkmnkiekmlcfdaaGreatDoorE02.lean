/- Part E02 of the proof of one law of the program. -/
import Derived.Test.YtkmnkiekmlcfdaaGreatDoorE01
set_option linter.all false
namespace Go.Proofs.YtkmnkiekmlcfdaaGreatDoor
open Go.AM
section
open Go.AM
set_option maxRecDepth 100000
variable {kd:List UInt8→Int}
theorem getI {α:Type} (enc:α→AVal) (pre ys:List α) (y:α):((pre++y::ys).map enc)[((pre.length:Nat):Int).toNat]?=some (enc y):=by simp
theorem ltI {α:Type} (pre ys:List α) (y:α):decide (((pre.length:Nat):Int) < ((pre++y::ys).length:Nat))=true:=by simp;omega
theorem geI {α:Type} (l:List α):decide (((l.length:Nat):Int) < (l.length:Nat))=false:=by simp
theorem gtI {α:Type} (l:List α):decide (((l.length:Nat):Int) < ((l++[]).length:Nat))=false:=by simp
theorem zI (n:Nat):decide (0≤((n:Nat):Int))=true:=by simp
theorem wI (n:Nat) (h:n < big):IntKind.i64.wrap (((n:Nat):Int)+1)=((n+1:Nat):Int):=by
 simp only[big] at h;rw[wrapOk (by omega) (by omega)];rfl
theorem wL {α:Type} (pre ys:List α) (y:α) (h:(pre++y::ys).length < big):IntKind.i64.wrap (((pre.length:Nat):Int)+1)=((pre++[y]).length:Nat):=by
 rw[wI _ (by simp at h ⊢;omega)];simp
def PaD.open (p:PaD):Bool:=p.kind==1||p.kind==2
def cnt (most n:Nat) (l:List PaD):Nat :=
 match l with
 |[]=>n
 |p::ps=>if most < n+1 then n+1 else if most < n+1+cnt (most - (n+1)) 0 p.args then n+1+cnt (most - (n+1)) 0 p.args else cnt most (n+1+cnt (most - (n+1)) 0 p.args) ps
termination_by PaD.sizes l
decreasing_by
 ·cases p;simp only[PaD.args,PaD.sizes,PaD.size];omega
 ·simp only[PaD.sizes];omega
theorem cnt_nil (most n:Nat):cnt most n []=n:=by rw[cnt]
theorem cnt_cons (most n:Nat) (p:PaD) (ps:List PaD):cnt most n (p::ps)=if most < n+1 then n+1 else if most < n+1+cnt (most - (n+1)) 0 p.args then n+1+cnt (most - (n+1)) 0 p.args else cnt most (n+1+cnt (most - (n+1)) 0 p.args) ps:=by rw[cnt]
theorem sizes_args {p:PaD} {l:List PaD} (h:p∈l):PaD.sizes p.args < PaD.sizes l:=by
 have:=PaD.sizes_mem h;cases p;simp only[PaD.args,PaD.size] at this ⊢;omega
theorem cnt_le:∀ (m:Nat) (l:List PaD),PaD.sizes l < m→∀ most n,n≤most→cnt most n l≤most+1:=by
 intro m;induction m with
 |zero=>intro l h;omega
 |succ m ih =>
  intro l h most n hn;cases l with
  |nil=>rw[cnt_nil];omega
  |cons p ps =>
   rw[cnt_cons];have h1:PaD.sizes p.args < m:=by have:=sizes_args (p:=p) (l:=p::ps) (by simp);omega
   have h2:PaD.sizes ps < m:=by simp only[PaD.sizes] at h;omega
   split
   ·omega
   ·have:=ih p.args h1 (most - (n+1)) 0 (by omega)
    split
    ·omega
    ·exact ih ps h2 _ _ (by omega)
theorem loop136 {most:Nat} (hm:most < big) (sto:Sto) (ys:List PaD):∀ (pre:List PaD) (n:Nat),n≤most→(pre++ys).length < big →
  (∀ y∈ys,∀ k:Nat,k < big→CF kd (.fn 136) [.val (.int .i64 (k:Nat)),.val (.slice (y.args.map PaD.enc))] sto=some (.ret (.val (.int .i64 (cnt k 0 y.args:Nat))),sto)) →
  (∃ a b c tl,LP kd 136 (loopOf Tryz.f136 0) ⟨[.val (.int .i64 (most:Nat)),.dead,.dead,.val (.int .i64 (n:Nat)),.dead,.val (.slice ((pre++ys).map PaD.enc)),.val (.int .i64 ((pre++ys).length:Nat)),.val (.int .i64 (pre.length:Nat)),.dead,.dead,.dead],sto⟩=some (.ret,⟨a::b::.val (.int .i64 (cnt most n ys:Nat))::c::tl,sto⟩)) ∨
  (∃ a b c tl,LP kd 136 (loopOf Tryz.f136 0) ⟨[.val (.int .i64 (most:Nat)),.dead,.dead,.val (.int .i64 (n:Nat)),.dead,.val (.slice ((pre++ys).map PaD.enc)),.val (.int .i64 ((pre++ys).length:Nat)),.val (.int .i64 (pre.length:Nat)),.dead,.dead,.dead],sto⟩=some (.exit 0,⟨a::b::c::.val (.int .i64 (cnt most n ys:Nat))::tl,sto⟩)):=by
 induction ys with
 |nil =>
  intro pre n hn h3 h2;have hlt:=geI pre;rw[cnt_nil];refine .inr ?_;iterate 4 apply Exists.intro
  refine tJ rfl ?_;repeat first|with_reducible constructor|(with_reducible apply tG);kernel_rfl;intro _ _;(repeat apply tOp;intro _;simp only[go_sem];rfl);rfl;simp only[go_sem];rfl|(with_reducible apply t0);rfl;trivial
  exact tlX
 |cons y ys ih =>
  intro pre n hn h3 h2;have hget:=getI PaD.enc pre ys y;rw[y.enc_eq] at hget;have hlt:=ltI pre ys y;have h0:=zI pre.length;have hn1:=wI n (by omega);have hb:=h2 y (by simp) (most - (n+1)) (by omega);have hw:=wL pre ys y h3;rw[cnt_cons];by_cases hp:most < n+1
  ·rw[if_pos hp]
   refine .inl ?_;iterate 4 apply Exists.intro
   refine tJ rfl ?_;repeat first|with_reducible constructor|(with_reducible apply tG);kernel_rfl;intro _ _;(repeat apply tOp;intro _;simp only[hget,h0,hn1,go_sem];rfl);rfl;simp only[go_sem];rfl|(with_reducible apply t1);rfl;trivial
   (with_reducible apply tT);simp only[go_sem];rfl;simp;omega;refine tQ ?_;repeat first|with_reducible constructor|(with_reducible apply tG);kernel_rfl;intro _ _;(repeat apply tOp;intro _;simp only[go_sem];rfl);rfl;simp only[go_sem];rfl
   exact tlE
  ·have hs:IntKind.i64.wrap (((most:Nat):Int) - ((n+1:Nat):Int))=((most - (n+1):Nat):Int):=by
    simp only[big] at hm;rw[wrapOk (by omega) (by omega)];omega
   have hc:=cnt_le _ y.args (Nat.lt_succ_self _) (most - (n+1)) 0 (by omega)
   have ha:IntKind.i64.wrap (((n+1:Nat):Int)+((cnt (most - (n+1)) 0 y.args:Nat):Int))=((n+1+cnt (most - (n+1)) 0 y.args:Nat):Int):=by
    simp only[big] at hm;rw[wrapOk (by omega) (by omega)];omega
   rw[if_neg hp];by_cases hq:most < n+1+cnt (most - (n+1)) 0 y.args
   ·rw[if_pos hq]
    refine .inl ?_;iterate 4 apply Exists.intro
    refine tJ rfl ?_;repeat first|with_reducible constructor|(with_reducible apply tG);kernel_rfl;intro _ _;(repeat apply tOp;intro _;simp only[hget,h0,hn1,go_sem];rfl);rfl;simp only[go_sem];rfl|(with_reducible apply t1);rfl;trivial
    (with_reducible apply tF);simp only[go_sem];rfl;simp;omega;refine tQ ?_;repeat first|with_reducible constructor|(with_reducible apply tG);kernel_rfl;intro _ _;(repeat apply tOp;intro _;simp only[hs,hb,ha,go_sem];rfl);rfl;simp only[go_sem];rfl
    (with_reducible apply tT);simp only[go_sem];rfl;simp;omega;refine tQ ?_;repeat first|with_reducible constructor|(with_reducible apply tG);kernel_rfl;intro _ _;(repeat apply tOp;intro _;simp only[go_sem];rfl);rfl;simp only[go_sem];rfl
    exact tlE
   ·rw[if_neg hq]
    have ih:=ih (pre++[y]) (n+1+cnt (most - (n+1)) 0 y.args) (by omega) (by simpa using h3) (fun x hx=>h2 x (by simp [hx]));simp only[List.append_assoc,List.singleton_append] at ih;rcases ih with ⟨a,b,c,tl,ih⟩|⟨a,b,c,tl,ih⟩
    ·refine .inl ⟨a,b,c,tl,?_⟩
     refine tJ rfl ?_;repeat first|with_reducible constructor|(with_reducible apply tG);kernel_rfl;intro _ _;(repeat apply tOp;intro _;simp only[hget,h0,hn1,go_sem];rfl);rfl;simp only[go_sem];rfl|(with_reducible apply t1);rfl;trivial
     (with_reducible apply tF);simp only[go_sem];rfl;simp;omega;refine tQ ?_;repeat first|with_reducible constructor|(with_reducible apply tG);kernel_rfl;intro _ _;(repeat apply tOp;intro _;simp only[hs,hb,ha,go_sem];rfl);rfl;simp only[go_sem];rfl
     (with_reducible apply tF);simp only[go_sem];rfl;simp;omega;refine tQ ?_;repeat first|with_reducible constructor|(with_reducible apply tG);kernel_rfl;intro _ _;(repeat apply tOp;intro _;simp only[hw,go_sem];rfl);rfl;simp only[go_sem];rfl
     exact ih
    ·refine .inr ⟨a,b,c,tl,?_⟩
     refine tJ rfl ?_;repeat first|with_reducible constructor|(with_reducible apply tG);kernel_rfl;intro _ _;(repeat apply tOp;intro _;simp only[hget,h0,hn1,go_sem];rfl);rfl;simp only[go_sem];rfl|(with_reducible apply t1);rfl;trivial
     (with_reducible apply tF);simp only[go_sem];rfl;simp;omega;refine tQ ?_;repeat first|with_reducible constructor|(with_reducible apply tG);kernel_rfl;intro _ _;(repeat apply tOp;intro _;simp only[hs,hb,ha,go_sem];rfl);rfl;simp only[go_sem];rfl
     (with_reducible apply tF);simp only[go_sem];rfl;simp;omega;refine tQ ?_;repeat first|with_reducible constructor|(with_reducible apply tG);kernel_rfl;intro _ _;(repeat apply tOp;intro _;simp only[hw,go_sem];rfl);rfl;simp only[go_sem];rfl
     exact ih
theorem c136:∀ (m:Nat) (l:List PaD),PaD.sizes l < m→m < big→∀ (most:Nat) (sto:Sto),most < big →
  CF kd (.fn 136) [.val (.int .i64 (most:Nat)),.val (.slice (l.map PaD.enc))] sto=some (.ret (.val (.int .i64 (cnt most 0 l:Nat))),sto):=by
 intro m;induction m with
 |zero=>intro l h;omega
 |succ m ih =>
  intro l h hb most sto hm;have hl:=loop136 (kd:=kd) hm sto l [] 0 (by omega) (by have:=PaD.sizes_len l;simp;omega) (fun y hy k hk=>ih y.args (by have:=sizes_args hy;omega) (by omega) k sto hk);simp only[List.nil_append,List.length_nil] at hl;have e0:((0:Nat):Int)=0:=rfl;rw[e0] at hl;rcases hl with ⟨a,b,c,tl,hl⟩|⟨a,b,c,tl,hl⟩
  ·
   apply tA;rfl;rfl;exact Tryz.func136;rfl;rfl;simp only[go_sem];rfl;refine tQ ?_;repeat first|with_reducible constructor|(with_reducible apply tG);kernel_rfl;intro _ _;(repeat apply tOp;intro _;simp only[List.length_map,go_sem];rfl);rfl;simp only[go_sem];rfl|(with_reducible apply tM);assumption
   exact fin0 rfl
  ·
   apply tA;rfl;rfl;exact Tryz.func136;rfl;rfl;simp only[go_sem];rfl;refine tQ ?_;repeat first|with_reducible constructor|(with_reducible apply tG);kernel_rfl;intro _ _;(repeat apply tOp;intro _;simp only[List.length_map,go_sem];rfl);rfl;simp only[go_sem];rfl|(with_reducible apply tM);assumption
   exact fin0 rfl
def manyD (l:List PaD):Bool:=decide (((l.length:Nat):Int) > 12)||decide (((cnt 120 0 l:Nat):Int) > 120)
theorem c84 (l:List PaD) (sto:Sto) (hl:PaD.sizes l+1 < big):CF kd (.fn 84) [.val (.slice (l.map PaD.enc))] sto=some (.ret (.val (.bool (manyD l))),sto):=by
 have h:=c136 (kd:=kd) _ l (Nat.lt_succ_self _) hl 120 sto (by simp [big]);have e0:((120:Nat):Int)=120:=rfl;rw[e0] at h;simp only[manyD];cases hc:decide (((l.length:Nat):Int) > 12) with
 |true =>
  apply tA;rfl;rfl;exact Tryz.func84;rfl;rfl;simp only[go_sem];rfl;refine tQ ?_;repeat first|with_reducible constructor|(with_reducible apply tG);kernel_rfl;intro _ _;(repeat apply tOp;intro _;simp only[hc,List.length_map,go_sem];rfl);rfl;simp only[go_sem];rfl
  exact fin0 rfl
 |false =>
  apply tA;rfl;rfl;exact Tryz.func84;rfl;rfl;simp only[go_sem];rfl;refine tQ ?_;repeat first|with_reducible constructor|(with_reducible apply tG);kernel_rfl;intro _ _;(repeat apply tOp;intro _;simp only[hc,h,List.length_map,go_sem];rfl);rfl;simp only[go_sem];rfl
  exact fin0 rfl
end
section
open Go.AM
set_option maxRecDepth 100000
variable {kd:List UInt8→Int}
def seenE (S:List (List UInt8)):List (AVal×AVal):=S.map fun s=>(.str s,.bool true)
def addS (S:List (List UInt8)) (s:List UInt8):List (List UInt8):=if S.contains s then S else S++[s]
theorem find_seen (s:List UInt8):∀ S:List (List UInt8),findK (.str s) (seenE S)=some (bif S.contains s then some (.bool true) else none)
 |[]=>rfl
 |x::S=>by
  have ih:=find_seen s S;simp only[seenE,List.map_cons,findK,keyEq,Option.bind_some,List.contains_cons] at ih ⊢;cases h:(s==x) with
  |true=>simp
  |false=>simp only[cond_false,Bool.false_or,ih]
theorem upd_seen (s:List UInt8):∀ S:List (List UInt8),updK (.str s) (.bool true) (seenE S)=some (seenE (addS S s))
 |[]=>rfl
 |x::S=>by
  have ih:=upd_seen s S;simp only[seenE,addS,List.map_cons,updK,keyEq,Option.bind_some,List.contains_cons] at ih ⊢;cases h:(s==x) with
  |true=>simp only[cond_true,Bool.true_or,if_true];rw[eq_of_beq h];rfl
  |false =>
   simp only[cond_false,Bool.false_or,ih,Option.map_some]
   split <;> rfl
theorem seen_nil:seenE []=[]:=rfl
theorem loop120a {O:List AObj} {lo:Nat} (hb:Nat.ble lo O.length=true) (l0:AVal) (ys:List (List UInt8)):∀ (pre:List (List UInt8)) (S:List (List UInt8)),(pre++ys).length < big →
  (∃ s1 s4 s7 s9 s11 s12 s13 s14 s20 s21 s22 s23 s28,LP kd 120 (loopOf Tryz.f120 0) ⟨[.val l0,.dead,.dead,.val (.amap O.length),.dead,.dead,.val (.slice ((pre++ys).map .str)),.val (.int .i64 ((pre++ys).length:Nat)),.val (.int .i64 (pre.length:Nat)),.dead,.dead,.dead,.dead,.dead,.dead],⟨O++[.map (seenE S)],lo⟩⟩=some (.exit 0,⟨[.val l0,s1,s4,.val (.amap O.length),s7,s9,s11,s12,s13,s14,s20,s21,s22,s23,s28],⟨O++[.map (seenE (ys.foldl addS S))],lo⟩⟩)):=by
 induction ys with
 |nil =>
  intro pre S h3;have hlt:=geI pre;simp only[List.foldl_nil];iterate 13 apply Exists.intro
  refine tJ rfl ?_;repeat first|with_reducible constructor|(with_reducible apply tG);kernel_rfl;intro _ _;(repeat apply tOp;intro _;simp only[go_sem];rfl);rfl;simp only[go_sem];rfl|(with_reducible apply t0);rfl;trivial
  exact tlX
 |cons y ys ih =>
  intro pre S h3;have hget:=getI AVal.str pre ys y;have hlt:=ltI pre ys y;have h0:=zI pre.length;have hw:=wL pre ys y h3;have hu:=upd_seen y S;obtain ⟨s1,s4,s7,s9,s11,s12,s13,s14,s20,s21,s22,s23,s28,ih⟩:=ih (pre++[y]) (addS S y) (by simpa using h3);simp only[List.append_assoc,List.singleton_append] at ih;simp only[List.foldl_cons];refine ⟨s1,s4,s7,s9,s11,s12,s13,s14,s20,s21,s22,s23,s28,?_⟩;refine tJ rfl ?_;repeat first|with_reducible constructor|(with_reducible apply tG);kernel_rfl;intro _ _;(repeat apply tOp;intro _;simp only[hget,h0,asMap,keyT,clean,AVal.cells,flat,hb,hu,hw,go_sem];rfl);rfl;simp only[go_sem];rfl|(with_reducible apply t1);rfl;trivial
  exact ih
def diffL (S:List (List UInt8)):List (List UInt8)→Bool
 |[]=>true
 |s::l=>!S.contains s&&diffL (addS S s) l
theorem loop120b {O:List AObj} {lo:Nat} (hb:Nat.ble lo O.length=true) (ys:List (List UInt8)):∀ (pre:List (List UInt8)) (S:List (List UInt8)),(pre++ys).length < big →
  (∃ S' a b c d tl,LP kd 120 (loopOf Tryz.f120 1) ⟨[.dead,.dead,.dead,.val (.amap O.length),.dead,.dead,.dead,.dead,.dead,.dead,.val (.slice ((pre++ys).map .str)),.val (.int .i64 ((pre++ys).length:Nat)),.val (.int .i64 (pre.length:Nat)),.dead,.dead],⟨O++[.map (seenE S)],lo⟩⟩=(bif diffL S ys then some (.exit 2,⟨a::b::c::d::tl,⟨O++[.map (seenE S')],lo⟩⟩) else some (.ret,⟨a::b::.val (.bool false)::d::tl,⟨O++[.map (seenE S')],lo⟩⟩))):=by
 induction ys with
 |nil =>
  intro pre S h3;have hlt:=geI pre;simp only[diffL,cond_true];refine ⟨S,?_⟩;iterate 5 apply Exists.intro
  refine tJ rfl ?_;repeat first|with_reducible constructor|(with_reducible apply tG);kernel_rfl;intro _ _;(repeat apply tOp;intro _;simp only[go_sem];rfl);rfl;simp only[go_sem];rfl|(with_reducible apply t0);rfl;trivial
  exact tlX
 |cons y ys ih =>
  intro pre S h3;have hget:=getI AVal.str pre ys y;have hlt:=ltI pre ys y;have h0:=zI pre.length;have hw:=wL pre ys y h3;have hu:=upd_seen y S;have hf:=find_seen y S;cases hc:S.contains y with
  |true =>
   rw[hc] at hf;simp only[cond_true] at hf;simp only[diffL,hc,Bool.not_true,Bool.false_and,cond_false];refine ⟨S,?_⟩;apply Exists.intro;apply Exists.intro;refine ⟨.dead,?_⟩;apply Exists.intro;apply Exists.intro;refine tJ rfl ?_;repeat first|with_reducible constructor|(with_reducible apply tG);kernel_rfl;intro _ _;(repeat apply tOp;intro _;simp only[hget,h0,asMap,keyT,hf,go_sem];rfl);rfl;simp only[go_sem];rfl|(with_reducible apply t1);rfl;trivial
   exact tlE
  |false =>
   rw[hc] at hf;simp only[cond_false] at hf;obtain ⟨S',a,b,c,d,tl,ih⟩:=ih (pre++[y]) (addS S y) (by simpa using h3);simp only[List.append_assoc,List.singleton_append] at ih;simp only[diffL,hc,Bool.not_false,Bool.true_and];refine ⟨S',a,b,c,d,tl,?_⟩;cases hd:diffL (addS S y) ys with
   |true =>
    rw[hd] at ih;simp only[cond_true] at ih ⊢;refine tJ rfl ?_;repeat first|with_reducible constructor|(with_reducible apply tG);kernel_rfl;intro _ _;(repeat apply tOp;intro _;simp only[hget,h0,asMap,keyT,hf,Option.getD_none,clean,AVal.cells,flat,hb,hu,hw,go_sem];rfl);rfl;simp only[go_sem];rfl|(with_reducible apply t1);rfl;trivial|(with_reducible apply t0);rfl;trivial
    exact ih
   |false =>
    rw[hd] at ih;simp only[cond_false] at ih ⊢;refine tJ rfl ?_;repeat first|with_reducible constructor|(with_reducible apply tG);kernel_rfl;intro _ _;(repeat apply tOp;intro _;simp only[hget,h0,asMap,keyT,hf,Option.getD_none,clean,AVal.cells,flat,hb,hu,hw,go_sem];rfl);rfl;simp only[go_sem];rfl|(with_reducible apply t1);rfl;trivial|(with_reducible apply t0);rfl;trivial
    exact ih
def diffD (l not:List (List UInt8)):Bool:=diffL (not.foldl addS []) l
theorem c120 (l not:List (List UInt8)) (sto:Sto) (hl:l.length < big) (hn:not.length < big) (hb:Nat.ble sto.lo sto.objs.length=true) :
  CF kd (.fn 120) [.val (.slice (l.map .str)),.val (.slice (not.map .str))] sto=some (.ret (.val (.bool (diffD l not))),sto):=by
 obtain ⟨s1,s4,s7,s9,s11,s12,s13,s14,s20,s21,s22,s23,s28,h1⟩:=loop120a (kd:=kd) hb (.slice (l.map .str)) not [] [] (by simpa using hn);obtain ⟨S',a',b',c',d',tl',h2⟩:=loop120b (kd:=kd) hb l [] (not.foldl addS []) (by simpa using hl);simp only[List.nil_append,List.length_nil,seen_nil] at h1 h2;have e0:((0:Nat):Int)=0:=rfl;rw[e0] at h1 h2;simp only[diffD];cases hd:diffL (not.foldl addS []) l with
 |true =>
  rw[hd] at h2;simp only[cond_true] at h2;apply tA;rfl;rfl;exact Tryz.func120;rfl;rfl;simp only[go_sem];rfl;refine tQ ?_;repeat first|with_reducible constructor|(with_reducible apply tG);kernel_rfl;intro _ _;(repeat apply tOp;intro _;simp only[List.length_map,go_sem];rfl);rfl;simp only[go_sem];rfl|(with_reducible apply tM);assumption
  exact fin1 [_] rfl
 |false =>
  rw[hd] at h2;simp only[cond_false] at h2;apply tA;rfl;rfl;exact Tryz.func120;rfl;rfl;simp only[go_sem];rfl;refine tQ ?_;repeat first|with_reducible constructor|(with_reducible apply tG);kernel_rfl;intro _ _;(repeat apply tOp;intro _;simp only[List.length_map,go_sem];rfl);rfl;simp only[go_sem];rfl|(with_reducible apply tM);assumption
  exact fin1 [_] rfl
end
end Go.Proofs.YtkmnkiekmlcfdaaGreatDoor
