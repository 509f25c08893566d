import Derived.Test.YtdkkaldimefljaaGreatDoorT01
set_option linter.all false
section
namespace Go.Proofs.YtdkkaldimefljaaGreatDoor
open Go.AM
variable [Aps]
set_option maxRecDepth 100000
set_option maxHeartbeats 8000000
theorem aG3 (s:List UInt8) (n:Int) (sto:Sto) (ys:List VaD):∀ (pre:List VaD),(pre++ys).length+1 < big→(∀ y∈ys,CF (.fn 22) [.val y.enc] sto=some (.ret (.val y.enc),sto)) →
  ∃ s0 s1 s5 s12 s13 s14 s15,LP 22 (dQ Tryz.f22 0) ⟨[.dead,.dead,.box [.val (.str []),.val (.int .i64 0),.own 3 []],.box [.val (.str s),.val (.int .i64 n),.own 3 (pre.map VaD.enc)],.dead,.val (.slice ((pre++ys).map VaD.enc)),.val (.int .i64 ((pre++ys).length:Nat)),.val (.int .i64 (pre.length:Nat)),.dead],sto⟩ =
   some (.exit 0,⟨[s0,s1,.box [.val (.str []),.val (.int .i64 0),.own 3 []],.box [.val (.str s),.val (.int .i64 n),.own 3 ((pre++ys).map VaD.enc)],s5,s12,s13,s14,s15],sto⟩):=by
 induction ys with
 |nil =>
  intro pre h3 h2;have hlt:=geI pre;simp only[List.append_nil];(iterate 7 apply Exists.intro);refine tI rfl ?_;refine tQ ?_;repeat first|with_reducible constructor|with_reducible refine tW rfl ?_|((with_reducible apply tG);(·kernel_rfl);(·(intro _ _;(repeat (apply tOp;(·(intro _;simp only[go_sem];rfl))));rfl));(·(simp only[go_sem];rfl)))
  (with_reducible apply tF);simp only[go_sem];rfl;exact hlt;refine tQ ?_;repeat first|with_reducible constructor|with_reducible refine tW rfl ?_
  exact tlX;all_goals exact .dead
 |cons y ys ih =>
  intro pre h3 h2;have hget:=oH VaD.enc pre ys y;have hlt:=ltI pre ys y;have h0:=zI pre.length;have hw:=wL pre ys y (by omega);have hc:=h2 y (by simp);have hr:Nat.ble (pre.length+1) room=true:=by apply Nat.ble_eq_true_of_le;simp only[room];simp only[List.length_append,List.length_cons,big] at h3;omega
  have emap:(pre++[y]).map VaD.enc=pre.map VaD.enc++[y.enc]:=by simp
  obtain ⟨s0,s1,s5,s12,s13,s14,s15,ih⟩:=ih (pre++[y]) (by simpa using h3) (fun x hx=>h2 x (by simp [hx]));rw[emap] at ih;rw[y.enc_eq] at hget hc ih;simp only[List.append_assoc,List.singleton_append] at ih;refine ⟨s0,s1,s5,s12,s13,s14,s15,?_⟩;refine tI rfl ?_;refine tQ ?_;repeat first|with_reducible constructor|with_reducible refine tW rfl ?_|((with_reducible apply tG);(·kernel_rfl);(·(intro _ _;(repeat (apply tOp;(·(intro _;simp only[go_sem];rfl))));rfl));(·(simp only[go_sem];rfl)))
  (with_reducible apply tT);simp only[go_sem];rfl;exact hlt;refine tQ ?_;repeat first|with_reducible constructor|with_reducible refine tW rfl ?_|((with_reducible apply tG);(·kernel_rfl);(·(intro _ _;(repeat (apply tOp;(·(intro _;simp only[hget,h0,hc,hw,hr,List.length_map,bI,clean,flat,List.replicate,List.set_cons_zero,go_sem];rfl))));rfl));(·(simp only[go_sem];rfl)))
  exact ih
theorem c22:∀ (v:VaD) (sto:Sto),v.size < big→CF (.fn 22) [.val v.enc] sto=some (.ret (.val v.enc),sto):=by
 intro v;induction v using VaD.ind with
 |h v ih =>
  intro sto hs;obtain ⟨s0,s1,s5,s12,s13,s14,s15,hl⟩:=aG3 v.con v.num sto v.args [] (by have:=v.args_len;simp only[List.nil_append,big] at hs ⊢;omega) (fun y hy=>ih y hy sto (by have:=VaD.args_size hy;omega));simp only[List.nil_append,List.length_nil,List.map_nil] at hl;rw[v.enc_eq];apply tA;rfl;rfl;exact Tryz.func22;rfl;rfl;simp only[go_sem];rfl;refine tQ ?_;repeat first|with_reducible constructor|with_reducible refine tW rfl ?_|((with_reducible apply tG);(·kernel_rfl);(·(intro _ _;(repeat (apply tOp;(·(intro _;simp only[List.length_map,go_sem];rfl))));rfl));(·(simp only[go_sem];rfl)))
  apply tL;exact hl;refine tQ ?_;repeat first|with_reducible constructor|with_reducible refine tW rfl ?_|((with_reducible apply tG);(·kernel_rfl);(·(intro _ _;(repeat (apply tOp;(·(intro _;simp only[go_sem];rfl))));rfl));(·(simp only[go_sem];rfl)))
  exact dC rfl
def nilS:List UInt8:=[78,105,108]
def tC:List UInt8:=[67,111,110,115]
def aW:List VaD→VaD
 |[]=>.mk nilS 0 []
 |v::l=>.mk tC 0 [v,aW l]
mutual
def VaD.cnt:VaD→Nat
 |.mk _ _ al=>1+VaD.cnts al
def VaD.cnts:List VaD→Nat
 |[]=>0
 |t::ts=>t.cnt+VaD.cnts ts
end
theorem VaD.cnt_eq (v:VaD):v.cnt=1+VaD.cnts v.args:=by cases v;rfl
theorem VaD.cnts_append:∀ a b:List VaD,VaD.cnts (a++b)=VaD.cnts a+VaD.cnts b
 |[],b=>by simp [VaD.cnts]
 |x::a,b=>by simp only[List.cons_append,VaD.cnts,VaD.cnts_append a b];omega
theorem VaD.cnt_pos (v:VaD):0 < v.cnt:=by rw[VaD.cnt_eq];omega
theorem VaD.cnts_mem {t:VaD}:∀ {l:List VaD},t∈l→t.cnt≤VaD.cnts l
 |x::l,h=>by
  simp only[VaD.cnts];rcases List.mem_cons.1 h with h|h
  ·subst h;omega
  ·have:=VaD.cnts_mem h;omega
theorem aGg (s:List UInt8) (n:Int) (sto:Sto) (ys:List VaD):∀ (pre:List VaD),(pre++ys).length < big→1+VaD.cnts (pre++ys)≤4000→(∀ y∈ys,CF (.fn 29) [.val y.enc] sto=some (.ret (.val (.int .i64 (y.cnt:Nat))),sto)) →
  ∃ s0 s1 s2 s5 s7 s8 s9 s10 s18,LP 29 (dQ Tryz.f29 0) ⟨[.dead,.dead,.dead,.val (.int .i64 ((1+VaD.cnts pre:Nat):Int)),.dead,.val (.slice ((pre++ys).map VaD.enc)),.val (.int .i64 ((pre++ys).length:Nat)),.val (.int .i64 (pre.length:Nat)),.dead,.dead],sto⟩ =
   some (.exit 0,⟨[s0,s1,s2,.val (.int .i64 ((1+VaD.cnts (pre++ys):Nat):Int)),s5,s7,s8,s9,s10,s18],sto⟩):=by
 induction ys with
 |nil =>
  intro pre h3 h4 h2;have hlt:=geI pre;simp only[List.append_nil];(iterate 9 apply Exists.intro);refine tI rfl ?_;refine tQ ?_;repeat first|with_reducible constructor|with_reducible refine tW rfl ?_|((with_reducible apply tG);(·kernel_rfl);(·(intro _ _;(repeat (apply tOp;(·(intro _;simp only[go_sem];rfl))));rfl));(·(simp only[go_sem];rfl)))
  (with_reducible apply tF);simp only[go_sem];rfl;exact hlt;refine tQ ?_;repeat first|with_reducible constructor|with_reducible refine tW rfl ?_
  exact tlX;all_goals exact .dead
 |cons y ys ih =>
  intro pre h3 h4 h2;have hget:=oH VaD.enc pre ys y;have hlt:=ltI pre ys y;have h0:=zI pre.length;have hw:=wL pre ys y (by omega);have hc:=h2 y (by simp);have e1:VaD.cnts (pre++[y])=VaD.cnts pre+y.cnt:=by rw[VaD.cnts_append];simp [VaD.cnts]
  have e2:VaD.cnts (pre++y::ys)=VaD.cnts pre+(y.cnt+VaD.cnts ys):=by rw[VaD.cnts_append];simp [VaD.cnts]
  have hadd:IntKind.i64.wrap (((1+VaD.cnts pre:Nat):Int)+((y.cnt:Nat):Int))=((1+VaD.cnts (pre++[y]):Nat):Int):=by rw[wG (by omega) (by omega)];omega
  have hgt:decide (((1+VaD.cnts (pre++[y]):Nat):Int) > 4000)=false:=by simp;omega
  obtain ⟨s0,s1,s2,s5,s7,s8,s9,s10,s18,ih⟩:=ih (pre++[y]) (by simpa using h3) (by simpa using h4) (fun x hx=>h2 x (by simp [hx]));simp only[List.append_assoc,List.singleton_append] at ih;rw[y.enc_eq] at hget hc;refine ⟨s0,s1,s2,s5,s7,s8,s9,s10,s18,?_⟩;refine tI rfl ?_;refine tQ ?_;repeat first|with_reducible constructor|with_reducible refine tW rfl ?_|((with_reducible apply tG);(·kernel_rfl);(·(intro _ _;(repeat (apply tOp;(·(intro _;simp only[go_sem];rfl))));rfl));(·(simp only[go_sem];rfl)))
  (with_reducible apply tT);simp only[go_sem];rfl;exact hlt;refine tQ ?_;repeat first|with_reducible constructor|with_reducible refine tW rfl ?_|((with_reducible apply tG);(·kernel_rfl);(·(intro _ _;(repeat (apply tOp;(·(intro _;simp only[hget,h0,hc,hw,hadd,go_sem];rfl))));rfl));(·(simp only[go_sem];rfl)))
  (with_reducible apply tF);simp only[go_sem];rfl;exact hgt;refine tQ ?_;repeat first|with_reducible constructor|with_reducible refine tW rfl ?_|((with_reducible apply tG);(·kernel_rfl);(·(intro _ _;(repeat (apply tOp;(·(intro _;simp only[hw,go_sem];rfl))));rfl));(·(simp only[go_sem];rfl)))
  exact ih
theorem c29:∀ (v:VaD) (sto:Sto),v.size < big→v.cnt≤4000→CF (.fn 29) [.val v.enc] sto=some (.ret (.val (.int .i64 (v.cnt:Nat))),sto):=by
 intro v;induction v using VaD.ind with
 |h v ih =>
  intro sto hs hc;have hce:=v.cnt_eq;obtain ⟨s0,s1,s2,s5,s7,s8,s9,s10,s18,hl⟩:=aGg v.con v.num sto v.args [] (by have:=v.args_len;simp only[List.nil_append,big] at hs ⊢;omega) (by simp only[List.nil_append];omega) (fun y hy=>ih y hy sto (by have:=VaD.args_size hy;omega) (by have:=VaD.cnts_mem hy;omega));simp only[List.nil_append,List.length_nil,VaD.cnts,Nat.add_zero] at hl;rw[v.enc_eq,hce];apply tA;rfl;rfl;exact Tryz.func29;rfl;rfl;simp only[go_sem];rfl;refine tQ ?_;repeat first|with_reducible constructor|with_reducible refine tW rfl ?_|((with_reducible apply tG);(·kernel_rfl);(·(intro _ _;(repeat (apply tOp;(·(intro _;simp only[List.length_map,go_sem];rfl))));rfl));(·(simp only[go_sem];rfl)))
  apply tL;exact hl;refine tQ ?_;repeat first|with_reducible constructor|with_reducible refine tW rfl ?_|((with_reducible apply tG);(·kernel_rfl);(·(intro _ _;(repeat (apply tOp;(·(intro _;simp only[go_sem];rfl))));rfl));(·(simp only[go_sem];rfl)))
  exact dC rfl
theorem aJf (n:Nat):Nat.blt n n=false:=by
 simp only[Nat.blt];exact Bool.eq_false_iff.2 fun h=>by have:=Nat.le_of_ble_eq_true h;omega
theorem aJt {P:Program} {an:Ann} {fn:Func} {n:Nat} {tm:List Slot} {sto:Sto} {v:AVal} {t:Nat} (h1:an.ownRes=false) (h2:fn.results.toList=[.tmp t]) (h3:tlook an.keep tm t=.val v) (h4:lok n v=false):finish P an fn n ⟨tm,sto⟩=some (.ret (.val v),sto):=by
 simp only[finish,h1,h2,gP,h3,asV,trim,cH,h4,cond_false]
theorem c39 (l:List VaD) (sto:Sto):CF (.fn 39) [.val (.slice (l.map VaD.enc))] sto=some (.ret (.val (.func 108 [.loc sto.objs.length 0])),⟨sto.objs++[.box [.val (.slice (l.map VaD.enc))]],sto.lo⟩):=by
 apply tA;rfl;rfl;exact Tryz.func39;rfl;rfl;simp only[go_sem];rfl;refine tQ ?_;repeat first|with_reducible constructor|with_reducible refine tW rfl ?_|((with_reducible apply tG);(·kernel_rfl);(·(intro _ _;(repeat (apply tOp;(·(intro _;simp only[FL,FO,go_sem];rfl))));rfl));(·(simp only[go_sem];rfl)))
 refine aJt (t:=2) rfl rfl rfl ?_;simp only[lok,List.all_cons,lokF,aJf,Bool.false_and]
noncomputable def gf (O:List AObj) (lo:Nat) (bl:AObj) (tm:List Slot) (s:List UInt8) (n:Int) (c:Cell) (pd:Option Code) (st:LoopState):Sto :=
 ⟨O++[.box [.val (.str s),.val (.int .i64 n),c],bl,.loop (lB 23 Tryz.f23 0 tm pd st)],lo⟩
theorem aLc (v w:VaD) (S:Sto):CF (.fn 38) [.val (.str [67,111,110,115]),.val (.slice [v.enc,w.enc])] S=some (.ret (.val (.agg [.str [67,111,110,115],.int .i64 0,.slice [v.enc,w.enc]])),S):=by
 have:=c38 [67,111,110,115] [v,w] S
 simpa only [List.map_cons,List.map_nil,VaD.enc_mk] using this
theorem y23 {O:List AObj} {lo:Nat} (hlo:lo≤O.length) {bl:AObj} {k:Int} {v w:VaD} {c:Cell} (hc:c=.val (.slice (w.args.map VaD.enc))∨(c=.own 3 []∧w.args=[])) {s0 s2 s5 s8 s9 s10} :
  CF (.yld (O.length+2)) [.val (.int .i64 k),.val v.enc] (gf O lo bl [s0,s2,.val (.loc O.length 0),s5,s8,s9,s10] w.con w.num c none .ready) =
   some (.ret (.val (.bool true)),gf O lo bl [s0,s2,.val (.loc O.length 0),s5,s8,s9,s10] [67,111,110,115] 0 (.val (.slice [v.enc,w.enc])) none .ready):=by
 have hb0:Nat.ble lo O.length=true:=Nat.ble_eq_true_of_le (by omega);have h38:=fun S=>aLc v w S
 rw[v.enc_eq,w.enc_eq] at *;unfold gf;rcases hc with rfl|⟨rfl,hw⟩
 ·
  apply tY
  ·(simp only[FL,FO];try rfl)
  ·rfl
  ·kernel_rfl
  ·first|assumption|(apply Nat.ble_eq_true_of_le;(try simp only[FL,FO]);omega)
  ·(simp only[cG,List.zip,List.zipWith,List.reverse_cons,List.reverse_nil,go_sem];rfl)
  refine tQ ?_;repeat first|with_reducible constructor|with_reducible refine tW rfl ?_|((with_reducible apply tG);(·kernel_rfl);(·(intro _ _;(repeat (apply tOp;(·(intro _;simp only[FL,FO,go_sem];rfl))));rfl));(·(simp only[go_sem];rfl)))
  apply ty1
  ·(simp only[FL,FO];try rfl)
  ·(simp only[FL,FO];try rfl)
  refine tQ ?_;repeat first|with_reducible constructor|with_reducible refine tW rfl ?_|((with_reducible apply tG);(·kernel_rfl);(·(intro _ _;(repeat (apply tOp;(·(intro _;simp only[FL,FO,h38,hb0,bI,clean,flat,List.replicate,List.set_cons_zero,List.set_cons_succ,Nat.add_zero,go_sem];rfl))));rfl));(·(simp only[go_sem];rfl)))
  apply xh
  ·(simp only[FL,FO];try rfl)
  ·(simp only[FL,FO];try rfl)
 ·rw[hw,List.map_nil] at h38
  rw[hw,List.map_nil];apply tY
  ·(simp only[FL,FO];try rfl)
  ·rfl
  ·kernel_rfl
  ·first|assumption|(apply Nat.ble_eq_true_of_le;(try simp only[FL,FO]);omega)
  ·(simp only[cG,List.zip,List.zipWith,List.reverse_cons,List.reverse_nil,go_sem];rfl)
  refine tQ ?_;repeat first|with_reducible constructor|with_reducible refine tW rfl ?_|((with_reducible apply tG);(·kernel_rfl);(·(intro _ _;(repeat (apply tOp;(·(intro _;simp only[FL,FO,go_sem];rfl))));rfl));(·(simp only[go_sem];rfl)))
  apply ty1
  ·(simp only[FL,FO];try rfl)
  ·(simp only[FL,FO];try rfl)
  refine tQ ?_;repeat first|with_reducible constructor|with_reducible refine tW rfl ?_|((with_reducible apply tG);(·kernel_rfl);(·(intro _ _;(repeat (apply tOp;(·(intro _;simp only[FL,FO,h38,hb0,bI,clean,flat,List.replicate,List.set_cons_zero,List.set_cons_succ,Nat.add_zero,go_sem];rfl))));rfl));(·(simp only[go_sem];rfl)))
  apply xh
  ·(simp only[FL,FO];try rfl)
  ·(simp only[FL,FO];try rfl)
theorem aEW {j a:Nat} (S:List VaD→Sto) (l:List VaD) (hl:l.length < big) (ha:∀ ys,(S ys).objs[a]?=some (.box [.val (.slice (l.map VaD.enc))]))
  (hy:∀ pre y ys,l=pre++y::ys→CF (.yld j) [.val (.int .i64 (pre.length:Nat)),.val y.enc] (S ys)=some (.ret (.val (.bool true)),S (y::ys))) :
  ∀ (m:Nat) (xs ys:List VaD) (i:Int),xs.length=m→i=(m:Int) - 1→l=xs++ys →
  ∃ s0 s1 s3 s8 s18,LP 108 (dQ Tryz.f108 0) ⟨[.val (.yld j),.val (.loc a 0),.val (.int .i64 i),.dead,.dead],S ys⟩=some (.exit 0,⟨[s0,s1,s3,s8,s18],S l⟩):=by
 intro m;induction m with
 |zero =>
  intro xs ys i hx hi hlx
  have:=List.eq_nil_of_length_eq_zero hx
  subst this;subst hi;rw[hlx];have hlt:decide ((((0:Nat):Int) - 1)≥0)=false:=rfl;(iterate 5 apply Exists.intro);refine tI rfl ?_;refine tQ ?_;repeat first|with_reducible constructor|with_reducible refine tW rfl ?_|((with_reducible apply tG);(·kernel_rfl);(·(intro _ _;(repeat (apply tOp;(·(intro _;simp only[go_sem];rfl))));rfl));(·(simp only[go_sem];rfl)))
  (with_reducible apply tF);simp only[go_sem];rfl;exact hlt;refine tQ ?_;repeat first|with_reducible constructor|with_reducible refine tW rfl ?_
  exact tlX;all_goals exact .dead
 |succ m ih =>
  intro xs ys i hx hi hlx;obtain ⟨xs',y,rfl⟩:∃ xs' y,xs=xs'++[y]:=⟨xs.dropLast,xs.getLast (fun e=>by subst e;simp at hx),(List.dropLast_concat_getLast _).symm⟩
  have hx':xs'.length=m:=by simpa using hx
  have hi':i=((m:Nat):Int):=by rw[hi];omega
  subst hi';have hlx':l=xs'++y::ys:=by rw[hlx];simp
  have hge:decide (((m:Nat):Int)≥0)=true:=by simp
  have h0:=zI m
  have hget:(l.map VaD.enc)[((m:Nat):Int).toNat]?=some y.enc:=by
   rw[hlx',←hx'];exact oH VaD.enc xs' ys y
  have hm:m < big:=by rw[hlx'] at hl;simp at hl;omega
  have hw:IntKind.i64.wrap (((m:Nat):Int) - 1)=((m:Nat):Int) - 1:=by rw[wG (by omega) (by simp only[big] at hm;omega)]
  have hc:=hy xs' y ys hlx';have hob:=ha ys;rw[hx'] at hc;rw[y.enc_eq] at hget hc;obtain ⟨s0,s1,s3,s8,s18,ih⟩:=ih xs' (y::ys) (((m:Nat):Int) - 1) hx' rfl hlx';refine ⟨s0,s1,s3,s8,s18,?_⟩;refine tI rfl ?_;refine tQ ?_;repeat first|with_reducible constructor|with_reducible refine tW rfl ?_|((with_reducible apply tG);(·kernel_rfl);(·(intro _ _;(repeat (apply tOp;(·(intro _;simp only[go_sem];rfl))));rfl));(·(simp only[go_sem];rfl)))
  (with_reducible apply tT);simp only[go_sem];rfl;exact hge;refine tQ ?_;repeat first|with_reducible constructor|with_reducible refine tW rfl ?_|((with_reducible apply tG);(·kernel_rfl);(·(intro _ _;(repeat (apply tOp;(·(intro _;simp only[hget,h0,hc,hob,go_sem];rfl))));rfl));(·(simp only[go_sem];rfl)))
  (with_reducible apply tF);simp only[go_sem];rfl;rfl;refine tQ ?_;repeat first|with_reducible constructor|with_reducible refine tW rfl ?_|((with_reducible apply tG);(·kernel_rfl);(·(intro _ _;(repeat (apply tOp;(·(intro _;simp only[hw,go_sem];rfl))));rfl));(·(simp only[go_sem];rfl)))
  exact ih
theorem aIc {j a:Nat} (S:List VaD→Sto) (l:List VaD) (hl:l.length < big) (ha:∀ ys,(S ys).objs[a]?=some (.box [.val (.slice (l.map VaD.enc))]))
  (hy:∀ pre y ys,l=pre++y::ys→CF (.yld j) [.val (.int .i64 (pre.length:Nat)),.val y.enc] (S ys)=some (.ret (.val (.bool true)),S (y::ys))) :
  CF (.fn 108) [.val (.yld j),.val (.loc a 0)] (S [])=some (.ret (.tup []),⟨(S l).objs.take (S []).objs.length,(S l).lo⟩):=by
 have hob:=ha [];have hw:IntKind.i64.wrap (((l.length:Nat):Int) - 1)=((l.length:Nat):Int) - 1:=by rw[wG (by omega) (by simp only[big] at hl;omega)]
 obtain ⟨s0,s1,s3,s8,s18,hlp⟩:=aEW S l hl ha hy l.length l [] _ rfl rfl (by simp);apply tA;rfl;rfl;exact Tryz.func108;rfl;rfl;simp only[go_sem];rfl;refine tQ ?_;repeat first|with_reducible constructor|with_reducible refine tW rfl ?_|((with_reducible apply tG);(·kernel_rfl);(·(intro _ _;(repeat (apply tOp;(·(intro _;simp only[hob,hw,List.length_map,go_sem];rfl))));rfl));(·(simp only[go_sem];rfl)))
 apply tL;exact hlp;refine tQ ?_;repeat first|with_reducible constructor|with_reducible refine tW rfl ?_|((with_reducible apply tG);(·kernel_rfl);(·(intro _ _;(repeat (apply tOp;(·(intro _;simp only[go_sem];rfl))));rfl));(·(simp only[go_sem];rfl)))
 exact rfl
theorem aB9 (n:Nat):Nat.ble n (n+1)=true:=Nat.ble_eq_true_of_le (by omega)
theorem aNK (S:Sto):CF (.fn 38) [.val (.str [78,105,108]),.val (.slice [])] S=some (.ret (.val (.agg [.str [78,105,108],.int .i64 0,.slice []])),S):=by
 have:=c38 [78,105,108] [] S
 simpa only [List.map_nil,VaD.enc_mk] using this
theorem aCX {O:List AObj} {lo:Nat} (hlo:lo≤O.length) {bl:AObj} {s0 s2 s5 s8 s9 s10} (pre:List VaD) (y:VaD) (ys:List VaD) :
  CF (.yld (O.length+2)) [.val (.int .i64 (pre.length:Nat)),.val y.enc] (gf O lo bl [s0,s2,.val (.loc O.length 0),s5,s8,s9,s10] (aW ys).con (aW ys).num (.val (.slice ((aW ys).args.map VaD.enc))) none .ready) =
   some (.ret (.val (.bool true)),gf O lo bl [s0,s2,.val (.loc O.length 0),s5,s8,s9,s10] (aW (y::ys)).con (aW (y::ys)).num (.val (.slice ((aW (y::ys)).args.map VaD.enc))) none .ready):=by
 have:=y23 (k:=(pre.length:Nat)) (v:=y) (w:=aW ys) (bl:=bl) hlo (.inl rfl) (s0:=s0) (s2:=s2) (s5:=s5) (s8:=s8) (s9:=s9) (s10:=s10)
 simpa only [aW,VaD.args,VaD.con,VaD.num,List.map_cons,List.map_nil,tC] using this
theorem c23 (l:List VaD) (hl:l.length < big) (sto:Sto) (hlo:sto.lo≤sto.objs.length):CF (.fn 23) [.val (.slice (l.map VaD.enc))] sto=some (.ret (.val (aW l).enc),sto):=by
 have hb0:Nat.ble sto.lo sto.objs.length=true:=Nat.ble_eq_true_of_le (by omega);have h39:=fun s=>c39 l s
 have hc:=fun s0 s2 s5 s8 s9 s10=>aIc (j:=sto.objs.length+2) (a:=sto.objs.length+1)
  (fun ys=>gf sto.objs sto.lo (.box [.val (.slice (l.map VaD.enc))]) [s0,s2,.val (.loc sto.objs.length 0),s5,s8,s9,s10] (aW ys).con (aW ys).num (.val (.slice ((aW ys).args.map VaD.enc))) none .ready) l hl
  (fun ys=>by simp only[gf,FL,FO]) (fun pre y ys _=>aCX hlo (s0:=s0) (s2:=s2) (s5:=s5) (s8:=s8) (s9:=s9) (s10:=s10) pre y ys)
 simp only[gf,FL,FO] at hc;have e0:(aW []).con=[78,105,108]∧(aW []).num=0∧(aW []).args.map VaD.enc=[]:=⟨rfl,rfl,rfl⟩
 rw[e0.1,e0.2.1,e0.2.2] at hc;rw[VaD.enc_eq (aW l)];apply tA;rfl;rfl;exact Tryz.func23;rfl;rfl;simp only[go_sem];rfl;refine tQ ?_;repeat first|with_reducible constructor|with_reducible refine tW rfl ?_|((with_reducible apply tG);(·kernel_rfl);(·(intro _ _;(repeat (apply tOp;(·(intro _;simp only[FL,FO,aNK,h39,hb0,aB9,Nat.add_assoc,Nat.add_zero,go_sem];rfl))));rfl));(·(simp only[go_sem];rfl)))
 with_reducible apply tGn
 ·rfl
 ·simp only[FL,FO]
  exact hc _ _ _ _ _ _
 ·simp only[FL,FO]
  rfl
 ·simp only[FL,FO]
  rfl
 refine tQ ?_;repeat first|with_reducible constructor|with_reducible refine tW rfl ?_|((with_reducible apply tG);(·kernel_rfl);(·(intro _ _;(repeat (apply tOp;(·(intro _;simp only[FL,FO,hb0,Nat.add_zero,go_sem];rfl))));rfl));(·(simp only[go_sem];rfl)))
 exact nW [_,_] rfl
theorem oI:∀ l:List VaD,(aW l).size≤VaD.sizes l+6 * l.length+4
 |[]=>by simp [aW,VaD.size,VaD.sizes,nilS]
 |v::l=>by
  have:=oI l
  simp only[aW,VaD.size,VaD.sizes,tC,List.length_cons,List.length_nil];omega
theorem c8 (l:List VaD) (sto:Sto) (hs:VaD.sizes l+6 * l.length+4 < big) (hlo:sto.lo≤sto.objs.length):CF (.fn 8) [.val (.slice (l.map VaD.enc))] sto=some (.ret (.val (aW l).enc),sto):=by
 have hsz:=oI l;have h23:=c23 l (by omega) sto hlo;have h22:=c22 (aW l) sto (by omega);rw[VaD.enc_eq (aW l)] at *;apply tA;rfl;rfl;exact Tryz.func8;rfl;rfl;simp only[go_sem];rfl;refine tQ ?_;repeat first|with_reducible constructor|with_reducible refine tW rfl ?_|((with_reducible apply tG);(·kernel_rfl);(·(intro _ _;(repeat (apply tOp;(·(intro _;simp only[h23,h22,go_sem];rfl))));rfl));(·(simp only[go_sem];rfl)))
 exact dC rfl
theorem c6 (sto:Sto):CF (.fn 6) [] sto=some (.ret (.val (.bool true)),sto):=fnP (r:=.ret (.val (.bool true))) rfl rfl
end Go.Proofs.YtdkkaldimefljaaGreatDoor
end
section
namespace Go.Proofs.YtdkkaldimefljaaGreatDoor
open Go.AM
variable [Aps]
set_option maxRecDepth 100000
set_option maxHeartbeats 8000000
inductive Tr where
 |leaf
 |node (l:Tr) (x:Int) (r:Tr)
def Tr.val:Tr→VaD
 |.leaf=>.mk [76,101,97,102] 0 []
 |.node l x r=>.mk [78,111,100,101] 0 [l.val,b9 x,r.val]
def Tr.put (n:Int):Tr→Tr
 |.leaf=>.node .leaf n .leaf
 |.node l x r=>bif decide (n < x) then .node (l.put n) x r else bif decide (x < n) then .node l x (r.put n) else .node l x r
def Tr.flat:Tr→List Int
 |.leaf=>[]
 |.node l x r=>l.flat++x::r.flat
def Tr.depth:Tr→Nat
 |.leaf=>0
 |.node l _ r=>1+max l.depth r.depth
def Tr.mem (n:Int):Tr→Bool
 |.leaf=>false
 |.node l x r=>bif decide (n < x) then l.mem n else bif decide (x < n) then r.mem n else true
def Tr.nodes:Tr→Nat
 |.leaf=>0
 |.node l _ r=>1+l.nodes+r.nodes
theorem lM:Tr.leaf.val.enc=.agg [.str [76,101,97,102],.int .i64 0,.slice []]:=by simp only[Tr.val,VaD.enc_mk,List.map_nil]
theorem dN (n:Int):(b9 n).enc=.agg [.str [],.int .i64 n,.slice []]:=by simp only[b9,VaD.enc_mk,List.map_nil]
theorem hU (l r:Tr) (x:Int):(Tr.node l x r).val.enc=.agg [.str [78,111,100,101],.int .i64 0,.slice [l.val.enc,.agg [.str [],.int .i64 x,.slice []],r.val.enc]]:=by simp only[Tr.val,VaD.enc_mk,List.map_cons,List.map_nil,dN]
theorem aHN (a b c:VaD) (S:Sto):CF (.fn 38) [.val (.str [78,111,100,101]),.val (.slice [a.enc,b.enc,c.enc])] S=some (.ret (.val (.agg [.str [78,111,100,101],.int .i64 0,.slice [a.enc,b.enc,c.enc]])),S):=by
 have:=c38 [78,111,100,101] [a,b,c] S
 simpa only [List.map_cons,List.map_nil,VaD.enc_mk] using this
theorem aEz (n:Int) (S:Sto):CF (.fn 54) [.val (.int .i64 n)] S=some (.ret (.val (.agg [.str [],.int .i64 n,.slice []])),S):=by rw[←dN];exact c54 n S
theorem aKe (n:Int):∀ (t:Tr) (sto:Sto),CF (.fn 127) [.val (.int .i64 n),.val t.val.enc] sto=some (.ret (.val (t.put n).val.enc),sto):=by
 intro t;induction t with
 |leaf =>
  intro sto;have h54:=aEz n;have h38:=aHN Tr.leaf.val (b9 n) Tr.leaf.val;simp only[Tr.put,hU,lM,dN] at h38 ⊢;apply tA;rfl;rfl;exact Tryz.func127;rfl;rfl;simp only[go_sem];rfl;refine tQ ?_;repeat first|with_reducible constructor|with_reducible refine tW rfl ?_|((with_reducible apply tG);(·kernel_rfl);(·(intro _ _;(repeat (apply tOp;(·(intro _;simp only[go_sem];rfl))));rfl));(·(simp only[go_sem];rfl)))
  (with_reducible apply tT);simp only[go_sem];rfl;rfl;refine tQ ?_;repeat first|with_reducible constructor|with_reducible refine tW rfl ?_|((with_reducible apply tG);(·kernel_rfl);(·(intro _ _;(repeat (apply tOp;(·(intro _;simp only[h54,h38,bI,clean,flat,List.replicate,List.set_cons_zero,List.set_cons_succ,beq_self_eq_true,cH,go_sem];rfl))));rfl));(·(simp only[go_sem];rfl)))
  exact dC rfl
 |node l x r ihl ihr =>
  intro sto;have hl:=ihl;have hr:=ihr;simp only[Tr.put];cases h1:decide (n < x) with
  |true =>
   have h38:=aHN (l.put n).val (b9 x) r.val;simp only[cond_true,hU,dN] at h38 ⊢;rw[VaD.enc_eq (l.put n).val,VaD.enc_eq r.val] at h38 ⊢;rw[VaD.enc_eq (l.put n).val] at hl;rw[VaD.enc_eq l.val] at hl ⊢;apply tA;rfl;rfl;exact Tryz.func127;rfl;rfl;simp only[go_sem];rfl;refine tQ ?_;repeat first|with_reducible constructor|with_reducible refine tW rfl ?_|((with_reducible apply tG);(·kernel_rfl);(·(intro _ _;(repeat (apply tOp;(·(intro _;simp only[go_sem];rfl))));rfl));(·(simp only[go_sem];rfl)))
   (with_reducible apply tF);simp only[go_sem];rfl;rfl;refine tQ ?_;repeat first|with_reducible constructor|with_reducible refine tW rfl ?_|((with_reducible apply tG);(·kernel_rfl);(·(intro _ _;(repeat (apply tOp;(·(intro _;simp only[h1,go_sem];rfl))));rfl));(·(simp only[go_sem];rfl)))
   (with_reducible apply tT);simp only[go_sem];rfl;rfl;refine tQ ?_;repeat first|with_reducible constructor|with_reducible refine tW rfl ?_|((with_reducible apply tG);(·kernel_rfl);(·(intro _ _;(repeat (apply tOp;(·(intro _;simp only[hl,h38,bI,clean,flat,List.replicate,List.set_cons_zero,List.set_cons_succ,beq_self_eq_true,cH,go_sem];rfl))));rfl));(·(simp only[go_sem];rfl)))
   exact dC rfl
  |false =>
   cases h2:decide (x < n) with
   |true =>
    have h38:=aHN l.val (b9 x) (r.put n).val;simp only[cond_true,cond_false,hU,dN] at h38 ⊢;rw[VaD.enc_eq l.val,VaD.enc_eq (r.put n).val] at h38 ⊢;rw[VaD.enc_eq (r.put n).val] at hr;rw[VaD.enc_eq r.val] at hr ⊢;apply tA;rfl;rfl;exact Tryz.func127;rfl;rfl;simp only[go_sem];rfl;refine tQ ?_;repeat first|with_reducible constructor|with_reducible refine tW rfl ?_|((with_reducible apply tG);(·kernel_rfl);(·(intro _ _;(repeat (apply tOp;(·(intro _;simp only[go_sem];rfl))));rfl));(·(simp only[go_sem];rfl)))
    (with_reducible apply tF);simp only[go_sem];rfl;rfl;refine tQ ?_;repeat first|with_reducible constructor|with_reducible refine tW rfl ?_|((with_reducible apply tG);(·kernel_rfl);(·(intro _ _;(repeat (apply tOp;(·(intro _;simp only[h1,go_sem];rfl))));rfl));(·(simp only[go_sem];rfl)))
    (with_reducible apply tF);simp only[go_sem];rfl;rfl;refine tQ ?_;repeat first|with_reducible constructor|with_reducible refine tW rfl ?_|((with_reducible apply tG);(·kernel_rfl);(·(intro _ _;(repeat (apply tOp;(·(intro _;simp only[h2,go_sem];rfl))));rfl));(·(simp only[go_sem];rfl)))
    (with_reducible apply tT);simp only[go_sem];rfl;rfl;refine tQ ?_;repeat first|with_reducible constructor|with_reducible refine tW rfl ?_|((with_reducible apply tG);(·kernel_rfl);(·(intro _ _;(repeat (apply tOp;(·(intro _;simp only[hr,h38,bI,clean,flat,List.replicate,List.set_cons_zero,List.set_cons_succ,beq_self_eq_true,cH,go_sem];rfl))));rfl));(·(simp only[go_sem];rfl)))
    exact dC rfl
   |false =>
    simp only[cond_false,hU];rw[VaD.enc_eq l.val,VaD.enc_eq r.val];apply tA;rfl;rfl;exact Tryz.func127;rfl;rfl;simp only[go_sem];rfl;refine tQ ?_;repeat first|with_reducible constructor|with_reducible refine tW rfl ?_|((with_reducible apply tG);(·kernel_rfl);(·(intro _ _;(repeat (apply tOp;(·(intro _;simp only[go_sem];rfl))));rfl));(·(simp only[go_sem];rfl)))
    (with_reducible apply tF);simp only[go_sem];rfl;rfl;refine tQ ?_;repeat first|with_reducible constructor|with_reducible refine tW rfl ?_|((with_reducible apply tG);(·kernel_rfl);(·(intro _ _;(repeat (apply tOp;(·(intro _;simp only[h1,go_sem];rfl))));rfl));(·(simp only[go_sem];rfl)))
    (with_reducible apply tF);simp only[go_sem];rfl;rfl;refine tQ ?_;repeat first|with_reducible constructor|with_reducible refine tW rfl ?_|((with_reducible apply tG);(·kernel_rfl);(·(intro _ _;(repeat (apply tOp;(·(intro _;simp only[h2,go_sem];rfl))));rfl));(·(simp only[go_sem];rfl)))
    (with_reducible apply tF);simp only[go_sem];rfl;rfl;refine tQ ?_;repeat first|with_reducible constructor|with_reducible refine tW rfl ?_|((with_reducible apply tG);(·kernel_rfl);(·(intro _ _;(repeat (apply tOp;(·(intro _;simp only[go_sem];rfl))));rfl));(·(simp only[go_sem];rfl)))
    exact dC rfl
end Go.Proofs.YtdkkaldimefljaaGreatDoor
end
