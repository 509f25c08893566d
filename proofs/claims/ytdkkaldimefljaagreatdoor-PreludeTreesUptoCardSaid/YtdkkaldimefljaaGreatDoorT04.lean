import Derived.Test.YtdkkaldimefljaaGreatDoorT03
set_option linter.all false
section
namespace Go.Proofs.YtdkkaldimefljaaGreatDoor
open Go.AM
variable [Aps]
set_option maxRecDepth 100000
set_option maxHeartbeats 8000000
theorem aCO {P:Program} {an:Ann} {fn:Func} {n:Nat} {tm:List Slot} {sto:Sto} {xs:List AVal} {sz t:Nat} (h1:an.ownRes=true) (h2:fn.results.toList=[.tmp t]) (h3:tlook an.keep tm t=.own sz xs) :
  finish P an fn n ⟨tm,sto⟩=some (.ret (.own sz xs),⟨sto.objs.take n,sto.lo⟩):=by
 simp only[finish,h1,h2,h3,trim,cH,cond_true]
theorem aNR (l:List VaD) (hl:l.length+1 < big) (O:List AObj) (lo:Nat) (hlo:lo≤O.length) :
  CF (.fn 160) [.nl,.val (.func 161 [.loc O.length 0])] ⟨O++[.box (aS (aW l))],lo⟩=some (.ret (.own 3 (l.map VaD.enc)),⟨O++[.box (aS (aW []))],lo⟩):=by
 have hb0:Nat.ble lo O.length=true:=Nat.ble_eq_true_of_le (by omega);have hb1:Nat.ble lo (O.length+1)=true:=Nat.ble_eq_true_of_le (by omega)
 have hc:=fun s0 s1 s4 s5 s6 s7=>aJ0 (A:=List AVal) (j:=O.length+2) (a:=O.length) (fun v X=>rT O lo [s0,s1,.val (.loc (O.length+1) 0),s4,s5,s6,s7] v X) (fun X y=>X++[y.enc]) (fun X n=>X.length+n < big)
  (fun v X=>by simp only[rT,FL,FO]) (fun v X=>by simp only[rT];omega) (fun v w X=>by simp only[rT,FL,FO]) (fun X n y h=>by simp at h ⊢;omega) (fun v X n y h=>aKt hlo (by omega) (s0:=s0) (s1:=s1) (s4:=s4) (s5:=s5) (s6:=s6) (s7:=s7)) l [] (by simp;omega)
 have e0:l.foldl (fun (X:List AVal) (y:VaD)=>X++[y.enc]) []=l.map VaD.enc:=by rw[rF VaD.enc];simp
 simp only[e0] at hc;simp only[rT,FL,FO] at hc;apply tA;rfl;rfl;exact Tryz.func160;rfl;rfl;simp only[go_sem];rfl;refine tQ ?_;repeat first|with_reducible constructor|with_reducible refine tW rfl ?_|((with_reducible apply tG);(·kernel_rfl);(·(intro _ _;(repeat (apply tOp;(·(intro _;simp only[FL,FO,hb0,hb1,Nat.add_assoc,Nat.add_zero,go_sem];rfl))));rfl));(·(simp only[go_sem];rfl)))
 with_reducible apply tGn
 ·rfl
 ·simp only[FL,FO]
  exact hc _ _ _ _ _ _
 ·simp only[FL,FO]
  rfl
 ·simp only[FL,FO]
  rfl
 refine tQ ?_;repeat first|with_reducible constructor|with_reducible refine tW rfl ?_|((with_reducible apply tG);(·kernel_rfl);(·(intro _ _;(repeat (apply tOp;(·(intro _;simp only[FL,FO,hb0,hb1,Nat.add_zero,go_sem];rfl))));rfl));(·(simp only[go_sem];rfl)))
 refine (aCO rfl rfl rfl).trans ?_;simp only[FL,FO]
theorem aOm (l:List VaD) (hl:l.length+1 < big) (O:List AObj) (lo:Nat) (hlo:lo≤O.length) :
  CF (.fn 114) [.val (.func 161 [.loc O.length 0])] ⟨O++[.box (aS (aW l))],lo⟩=some (.ret (.own 3 (l.map VaD.enc)),⟨O++[.box (aS (aW []))],lo⟩):=by
 have h160:=aNR l hl O lo hlo;apply tA;rfl;rfl;exact Tryz.func114;rfl;rfl;simp only[go_sem];rfl;refine tQ ?_;repeat first|with_reducible constructor|with_reducible refine tW rfl ?_|((with_reducible apply tG);(·kernel_rfl);(·(intro _ _;(repeat (apply tOp;(·(intro _;simp only[h160,go_sem];rfl))));rfl));(·(simp only[go_sem];rfl)))
 refine (aCO rfl rfl rfl).trans ?_;simp only[FL,FO]
theorem c57 (l:List VaD) (hl:l.length+1 < big) (sto:Sto) (hlo:sto.lo≤sto.objs.length):CF (.fn 57) [.val (aW l).enc] sto=some (.ret (.own 3 (l.map VaD.enc)),sto):=by
 have h115:=fun s=>aJi (aW l) s
 have h114:=aOm l hl sto.objs sto.lo hlo;rw[dX l] at h115 ⊢;apply tA;rfl;rfl;exact Tryz.func57;rfl;rfl;simp only[go_sem];rfl;refine tQ ?_;repeat first|with_reducible constructor|with_reducible refine tW rfl ?_|((with_reducible apply tG);(·kernel_rfl);(·(intro _ _;(repeat (apply tOp;(·(intro _;simp only[h115,h114,go_sem];rfl))));rfl));(·(simp only[go_sem];rfl)))
 exact nW [_] (aCO rfl rfl rfl)
theorem c58 (l:List VaD) (hl:l.length+1 < big) (sto:Sto) (hlo:sto.lo≤sto.objs.length):CF (.fn 58) [.val (.slice [(aW l).enc])] sto=some (.ret (.val (b9 (l.length:Nat)).enc),sto):=by
 have h57:=c57 l hl sto hlo;have h54:=aEz ((l.length:Nat):Int);rw[dN];rw[dX l] at h57 ⊢;apply tA;rfl;rfl;exact Tryz.func58;rfl;rfl;simp only[go_sem];rfl;refine tQ ?_;repeat first|with_reducible constructor|with_reducible refine tW rfl ?_|((with_reducible apply tG);(·kernel_rfl);(·(intro _ _;(repeat (apply tOp;(·(intro _;simp only[h57,h54,List.length_map,go_sem];rfl))));rfl));(·(simp only[go_sem];rfl)))
 exact dC rfl
theorem c82 (n:Int) (t:Tr) (sto:Sto):CF (.fn 82) [.val (.agg []),.val (.slice [(b9 n).enc,t.val.enc])] sto=some (.ret (.val (t.put n).val.enc),sto):=by
 have h:=aKe n t sto;rw[dN];rw[VaD.enc_eq t.val,VaD.enc_eq (t.put n).val] at *;apply tA;rfl;rfl;exact Tryz.func82;rfl;rfl;simp only[go_sem];rfl;refine tQ ?_;repeat first|with_reducible constructor|with_reducible refine tW rfl ?_|((with_reducible apply tG);(·kernel_rfl);(·(intro _ _;(repeat (apply tOp;(·(intro _;simp only[h,go_sem];rfl))));rfl));(·(simp only[go_sem];rfl)))
 exact dC rfl
theorem lx (t:Tr):rW t=.nl∧t.flat=[]∨rW t=.own 3 (vals t.flat):=by
 cases t with
 |leaf=>exact .inl ⟨rfl,rfl⟩
 |node l x r=>exact .inr rfl
theorem ml (l:List Int):vals l=(l.map b9).map VaD.enc:=by simp [vals,dN,Function.comp_def]
theorem c84 (t:Tr) (sto:Sto) (hb:t.nodes < big) (hlo:sto.lo≤sto.objs.length):CF (.fn 84) [.val (.agg []),.val (.slice [t.val.enc])] sto=some (.ret (.val (aW (t.flat.map b9)).enc),sto):=by
 have h:=aFL t sto hb;have h23:=c23 (t.flat.map b9) (by rw[List.length_map,gY];exact hb) sto hlo;rw[←ml] at h23;rw[VaD.enc_eq t.val] at h ⊢;rw[dX] at h23 ⊢;rcases lx t with ⟨e1,e2⟩|e1
 ·rw[e1] at h
  rw[e2] at h23 ⊢;simp only[vals,List.map_nil] at h23 ⊢;apply tA;rfl;rfl;exact Tryz.func84;rfl;rfl;simp only[go_sem];rfl;refine tQ ?_;repeat first|with_reducible constructor|with_reducible refine tW rfl ?_|((with_reducible apply tG);(·kernel_rfl);(·(intro _ _;(repeat (apply tOp;(·(intro _;simp only[go_sem];rfl))));rfl));(·(simp only[go_sem];rfl)))
  refine tQ ?_;repeat first|with_reducible constructor|with_reducible refine tW rfl ?_|((with_reducible apply tG);(·kernel_rfl);(·(intro _ _;(repeat (apply tOp;(·(intro _;simp only[h,h23,go_sem];rfl))));rfl));(·(simp only[go_sem];rfl)))
  exact dC rfl
 ·rw[e1] at h
  apply tA;rfl;rfl;exact Tryz.func84;rfl;rfl;simp only[go_sem];rfl;refine tQ ?_;repeat first|with_reducible constructor|with_reducible refine tW rfl ?_|((with_reducible apply tG);(·kernel_rfl);(·(intro _ _;(repeat (apply tOp;(·(intro _;simp only[go_sem];rfl))));rfl));(·(simp only[go_sem];rfl)))
  refine tQ ?_;repeat first|with_reducible constructor|with_reducible refine tW rfl ?_|((with_reducible apply tG);(·kernel_rfl);(·(intro _ _;(repeat (apply tOp;(·(intro _;simp only[h,h23,go_sem];rfl))));rfl));(·(simp only[go_sem];rfl)))
  exact dC rfl
theorem c85 (t:Tr) (sto:Sto) (hb:t.nodes < big):CF (.fn 85) [.val (.agg []),.val (.slice [t.val.enc])] sto=some (.ret (.val (b9 (t.nodes:Nat)).enc),sto):=by
 have h:=aFL t sto hb;have h54:=aEz ((t.nodes:Nat):Int);have hfl:=gY t;rw[dN];rw[VaD.enc_eq t.val] at h ⊢;rcases lx t with ⟨e1,e2⟩|e1
 ·rw[e1] at h
  rw[e2] at hfl;rw[←hfl] at h54 ⊢;simp only[List.length_nil] at h54 ⊢;apply tA;rfl;rfl;exact Tryz.func85;rfl;rfl;simp only[go_sem];rfl;refine tQ ?_;repeat first|with_reducible constructor|with_reducible refine tW rfl ?_|((with_reducible apply tG);(·kernel_rfl);(·(intro _ _;(repeat (apply tOp;(·(intro _;simp only[h,h54,go_sem];rfl))));rfl));(·(simp only[go_sem];rfl)))
  exact dC rfl
 ·rw[e1] at h
  rw[←hfl,←kA] at h54 ⊢;apply tA;rfl;rfl;exact Tryz.func85;rfl;rfl;simp only[go_sem];rfl;refine tQ ?_;repeat first|with_reducible constructor|with_reducible refine tW rfl ?_|((with_reducible apply tG);(·kernel_rfl);(·(intro _ _;(repeat (apply tOp;(·(intro _;simp only[h,h54,go_sem];rfl))));rfl));(·(simp only[go_sem];rfl)))
  exact dC rfl
theorem c86 (t:Tr) (sto:Sto) (hb:t.nodes < big):CF (.fn 86) [.val (.agg []),.val (.slice [t.val.enc])] sto=some (.ret (.val (b9 (t.depth:Nat)).enc),sto):=by
 have h:=aMY t sto hb;have h54:=aEz ((t.depth:Nat):Int);rw[dN];rw[VaD.enc_eq t.val] at h ⊢;apply tA;rfl;rfl;exact Tryz.func86;rfl;rfl;simp only[go_sem];rfl;refine tQ ?_;repeat first|with_reducible constructor|with_reducible refine tW rfl ?_|((with_reducible apply tG);(·kernel_rfl);(·(intro _ _;(repeat (apply tOp;(·(intro _;simp only[h,h54,go_sem];rfl))));rfl));(·(simp only[go_sem];rfl)))
 exact dC rfl
end Go.Proofs.YtdkkaldimefljaaGreatDoor
end
section
namespace Go.Proofs.YtdkkaldimefljaaGreatDoor
open Go.AM
variable [Aps]
set_option maxRecDepth 100000
set_option maxHeartbeats 8000000
theorem aMQ (S:Sto):CF (.fn 50) [.val (.bool true)] S=some (.ret (.val (.agg [.str [84,114,117,101],.int .i64 0,.slice []])),S):=by
 have:=c50 true S
 simpa only [eB,VaD.enc_mk,List.map_nil,cond_true] using this
theorem aM9 (S:Sto):CF (.fn 50) [.val (.bool false)] S=some (.ret (.val (.agg [.str [70,97,108,115,101],.int .i64 0,.slice []])),S):=by
 have:=c50 false S
 simpa only [eB,VaD.enc_mk,List.map_nil,cond_false] using this
theorem aHd (n:Int) (b:AVal) (sto:Sto):∀ t:Tr,
  (t.mem n=true→∃ s0 s1 s5 s6 s12 s19 s30,LP 83 (dQ Tryz.f83 0) ⟨[.dead,.val (.slice [.agg [.str [],.int .i64 n,.slice []],b]),.box [.val (.str []),.val (.int .i64 0),.own 3 []],.box (aS t.val),.dead,.dead,.dead,.dead],sto⟩ =
   some (.ret,⟨[s0,s1,.box [.val (.str [84,114,117,101]),.val (.int .i64 0),.val (.slice [])],s5,s6,s12,s19,s30],sto⟩)) ∧
  (t.mem n=false→∃ s0 s1 s5 s6 s12 s19 s30,LP 83 (dQ Tryz.f83 0) ⟨[.dead,.val (.slice [.agg [.str [],.int .i64 n,.slice []],b]),.box [.val (.str []),.val (.int .i64 0),.own 3 []],.box (aS t.val),.dead,.dead,.dead,.dead],sto⟩ =
   some (.exit 0,⟨[s0,s1,.box [.val (.str []),.val (.int .i64 0),.own 3 []],s5,s6,s12,s19,s30],sto⟩)):=by
 intro t;induction t with
 |leaf =>
  refine ⟨fun h=>by simp [Tr.mem] at h,fun _=>?_⟩;simp only[aS,Tr.val,VaD.con,VaD.num,VaD.args,List.map_nil];(iterate 7 apply Exists.intro);refine tI rfl ?_;refine tQ ?_;repeat first|with_reducible constructor|with_reducible refine tW rfl ?_|((with_reducible apply tG);(·kernel_rfl);(·(intro _ _;(repeat (apply tOp;(·(intro _;simp only[go_sem];rfl))));rfl));(·(simp only[go_sem];rfl)))
  (with_reducible apply tF);simp only[go_sem];rfl;rfl;refine tQ ?_;repeat first|with_reducible constructor|with_reducible refine tW rfl ?_
  exact tlX;all_goals exact .dead
 |node l x r ihl ihr =>
  have hcell:aS (Tr.node l x r).val=[.val (.str [78,111,100,101]),.val (.int .i64 0),.val (.slice [.agg [.str l.val.con,.int .i64 l.val.num,.slice (l.val.args.map VaD.enc)],.agg [.str [],.int .i64 x,.slice []],.agg [.str r.val.con,.int .i64 r.val.num,.slice (r.val.args.map VaD.enc)]])]:=by
   rw[←VaD.enc_eq l.val,←VaD.enc_eq r.val];simp only[aS,Tr.val,VaD.con,VaD.num,VaD.args,List.map_cons,List.map_nil,dN]
  simp only[aS] at ihl ihr;rw[hcell];have h50:=aMQ;cases h1:decide (n < x) with
  |true =>
   have hm:(Tr.node l x r).mem n=l.mem n:=by simp only[Tr.mem,h1,cond_true]
   rw[hm];refine ⟨fun h=>?_,fun h=>?_⟩
   ·obtain ⟨s0,s1,s5,s6,s12,s19,s30,ih⟩:=ihl.1 h
    refine ⟨s0,s1,s5,s6,s12,s19,s30,?_⟩;refine tI rfl ?_;refine tQ ?_;repeat first|with_reducible constructor|with_reducible refine tW rfl ?_|((with_reducible apply tG);(·kernel_rfl);(·(intro _ _;(repeat (apply tOp;(·(intro _;simp only[go_sem];rfl))));rfl));(·(simp only[go_sem];rfl)))
    (with_reducible apply tT);simp only[go_sem];rfl;rfl;refine tQ ?_;repeat first|with_reducible constructor|with_reducible refine tW rfl ?_|((with_reducible apply tG);(·kernel_rfl);(·(intro _ _;(repeat (apply tOp;(·(intro _;simp only[h1,go_sem];rfl))));rfl));(·(simp only[go_sem];rfl)))
    (with_reducible apply tT);simp only[go_sem];rfl;rfl;refine tQ ?_;repeat first|with_reducible constructor|with_reducible refine tW rfl ?_|((with_reducible apply tG);(·kernel_rfl);(·(intro _ _;(repeat (apply tOp;(·(intro _;simp only[go_sem];rfl))));rfl));(·(simp only[go_sem];rfl)))
    exact ih
   ·obtain ⟨s0,s1,s5,s6,s12,s19,s30,ih⟩:=ihl.2 h
    refine ⟨s0,s1,s5,s6,s12,s19,s30,?_⟩;refine tI rfl ?_;refine tQ ?_;repeat first|with_reducible constructor|with_reducible refine tW rfl ?_|((with_reducible apply tG);(·kernel_rfl);(·(intro _ _;(repeat (apply tOp;(·(intro _;simp only[go_sem];rfl))));rfl));(·(simp only[go_sem];rfl)))
    (with_reducible apply tT);simp only[go_sem];rfl;rfl;refine tQ ?_;repeat first|with_reducible constructor|with_reducible refine tW rfl ?_|((with_reducible apply tG);(·kernel_rfl);(·(intro _ _;(repeat (apply tOp;(·(intro _;simp only[h1,go_sem];rfl))));rfl));(·(simp only[go_sem];rfl)))
    (with_reducible apply tT);simp only[go_sem];rfl;rfl;refine tQ ?_;repeat first|with_reducible constructor|with_reducible refine tW rfl ?_|((with_reducible apply tG);(·kernel_rfl);(·(intro _ _;(repeat (apply tOp;(·(intro _;simp only[go_sem];rfl))));rfl));(·(simp only[go_sem];rfl)))
    exact ih
  |false =>
   cases h2:decide (x < n) with
   |true =>
    have hm:(Tr.node l x r).mem n=r.mem n:=by simp only[Tr.mem,h1,h2,cond_true,cond_false]
    rw[hm];refine ⟨fun h=>?_,fun h=>?_⟩
    ·obtain ⟨s0,s1,s5,s6,s12,s19,s30,ih⟩:=ihr.1 h
     refine ⟨s0,s1,s5,s6,s12,s19,s30,?_⟩;refine tI rfl ?_;refine tQ ?_;repeat first|with_reducible constructor|with_reducible refine tW rfl ?_|((with_reducible apply tG);(·kernel_rfl);(·(intro _ _;(repeat (apply tOp;(·(intro _;simp only[go_sem];rfl))));rfl));(·(simp only[go_sem];rfl)))
     (with_reducible apply tT);simp only[go_sem];rfl;rfl;refine tQ ?_;repeat first|with_reducible constructor|with_reducible refine tW rfl ?_|((with_reducible apply tG);(·kernel_rfl);(·(intro _ _;(repeat (apply tOp;(·(intro _;simp only[h1,go_sem];rfl))));rfl));(·(simp only[go_sem];rfl)))
     (with_reducible apply tF);simp only[go_sem];rfl;rfl;refine tQ ?_;repeat first|with_reducible constructor|with_reducible refine tW rfl ?_|((with_reducible apply tG);(·kernel_rfl);(·(intro _ _;(repeat (apply tOp;(·(intro _;simp only[h2,go_sem];rfl))));rfl));(·(simp only[go_sem];rfl)))
     (with_reducible apply tT);simp only[go_sem];rfl;rfl;refine tQ ?_;repeat first|with_reducible constructor|with_reducible refine tW rfl ?_|((with_reducible apply tG);(·kernel_rfl);(·(intro _ _;(repeat (apply tOp;(·(intro _;simp only[go_sem];rfl))));rfl));(·(simp only[go_sem];rfl)))
     exact ih
    ·obtain ⟨s0,s1,s5,s6,s12,s19,s30,ih⟩:=ihr.2 h
     refine ⟨s0,s1,s5,s6,s12,s19,s30,?_⟩;refine tI rfl ?_;refine tQ ?_;repeat first|with_reducible constructor|with_reducible refine tW rfl ?_|((with_reducible apply tG);(·kernel_rfl);(·(intro _ _;(repeat (apply tOp;(·(intro _;simp only[go_sem];rfl))));rfl));(·(simp only[go_sem];rfl)))
     (with_reducible apply tT);simp only[go_sem];rfl;rfl;refine tQ ?_;repeat first|with_reducible constructor|with_reducible refine tW rfl ?_|((with_reducible apply tG);(·kernel_rfl);(·(intro _ _;(repeat (apply tOp;(·(intro _;simp only[h1,go_sem];rfl))));rfl));(·(simp only[go_sem];rfl)))
     (with_reducible apply tF);simp only[go_sem];rfl;rfl;refine tQ ?_;repeat first|with_reducible constructor|with_reducible refine tW rfl ?_|((with_reducible apply tG);(·kernel_rfl);(·(intro _ _;(repeat (apply tOp;(·(intro _;simp only[h2,go_sem];rfl))));rfl));(·(simp only[go_sem];rfl)))
     (with_reducible apply tT);simp only[go_sem];rfl;rfl;refine tQ ?_;repeat first|with_reducible constructor|with_reducible refine tW rfl ?_|((with_reducible apply tG);(·kernel_rfl);(·(intro _ _;(repeat (apply tOp;(·(intro _;simp only[go_sem];rfl))));rfl));(·(simp only[go_sem];rfl)))
     exact ih
   |false =>
    have hm:(Tr.node l x r).mem n=true:=by simp only[Tr.mem,h1,h2,cond_false]
    rw[hm];refine ⟨fun _=>?_,fun h=>by cases h⟩;(iterate 7 apply Exists.intro);refine tI rfl ?_;refine tQ ?_;repeat first|with_reducible constructor|with_reducible refine tW rfl ?_|((with_reducible apply tG);(·kernel_rfl);(·(intro _ _;(repeat (apply tOp;(·(intro _;simp only[go_sem];rfl))));rfl));(·(simp only[go_sem];rfl)))
    (with_reducible apply tT);simp only[go_sem];rfl;rfl;refine tQ ?_;repeat first|with_reducible constructor|with_reducible refine tW rfl ?_|((with_reducible apply tG);(·kernel_rfl);(·(intro _ _;(repeat (apply tOp;(·(intro _;simp only[h1,go_sem];rfl))));rfl));(·(simp only[go_sem];rfl)))
    (with_reducible apply tF);simp only[go_sem];rfl;rfl;refine tQ ?_;repeat first|with_reducible constructor|with_reducible refine tW rfl ?_|((with_reducible apply tG);(·kernel_rfl);(·(intro _ _;(repeat (apply tOp;(·(intro _;simp only[h2,go_sem];rfl))));rfl));(·(simp only[go_sem];rfl)))
    (with_reducible apply tF);simp only[go_sem];rfl;rfl;refine tQ ?_;repeat first|with_reducible constructor|with_reducible refine tW rfl ?_|((with_reducible apply tG);(·kernel_rfl);(·(intro _ _;(repeat (apply tOp;(·(intro _;simp only[h50,go_sem];rfl))));rfl));(·(simp only[go_sem];rfl)))
    exact tlE;all_goals exact .dead
theorem c83 (n:Int) (t:Tr) (sto:Sto):CF (.fn 83) [.val (.agg []),.val (.slice [(b9 n).enc,t.val.enc])] sto=some (.ret (.val (eB (t.mem n)).enc),sto):=by
 have hl:=aHd n t.val.enc sto t;rw[dN];simp only[aS] at hl;cases h:t.mem n with
 |true =>
  obtain ⟨s0,s1,s5,s6,s12,s19,s30,hl⟩:=hl.1 h;simp only[eB,VaD.enc_mk,List.map_nil,cond_true];rw[VaD.enc_eq t.val] at hl ⊢;apply tA;rfl;rfl;exact Tryz.func83;rfl;rfl;simp only[go_sem];rfl;refine tQ ?_;repeat first|with_reducible constructor|with_reducible refine tW rfl ?_|((with_reducible apply tG);(·kernel_rfl);(·(intro _ _;(repeat (apply tOp;(·(intro _;simp only[go_sem];rfl))));rfl));(·(simp only[go_sem];rfl)))
  apply tL;exact hl;refine tQ ?_;repeat first|with_reducible constructor|with_reducible refine tW rfl ?_
  exact dC rfl
 |false =>
  obtain ⟨s0,s1,s5,s6,s12,s19,s30,hl⟩:=hl.2 h;have h50:=aM9;simp only[eB,VaD.enc_mk,List.map_nil,cond_false];rw[VaD.enc_eq t.val] at hl ⊢;apply tA;rfl;rfl;exact Tryz.func83;rfl;rfl;simp only[go_sem];rfl;refine tQ ?_;repeat first|with_reducible constructor|with_reducible refine tW rfl ?_|((with_reducible apply tG);(·kernel_rfl);(·(intro _ _;(repeat (apply tOp;(·(intro _;simp only[go_sem];rfl))));rfl));(·(simp only[go_sem];rfl)))
  apply tL;exact hl;refine tQ ?_;repeat first|with_reducible constructor|with_reducible refine tW rfl ?_|((with_reducible apply tG);(·kernel_rfl);(·(intro _ _;(repeat (apply tOp;(·(intro _;simp only[h50,go_sem];rfl))));rfl));(·(simp only[go_sem];rfl)))
  exact dC rfl
def iH (n:Int):AVal:=.int .i64 n
theorem aHv (b:AVal) (sto:Sto) (ys:List Int):∀ (pre:List Int) (t:Tr),(pre++ys).length < big →
  ∃ s0 s1 s7 s12 s13 s14 s15,LP 87 (dQ Tryz.f87 0) ⟨[.dead,.dead,.box [.val (.str []),.val (.int .i64 0),.own 3 []],.box (aS t.val),.dead,.val (.slice ((pre++ys).map iH)),.val (.int .i64 ((pre++ys).length:Nat)),.val (.int .i64 (pre.length:Nat)),.dead],sto⟩ =
   some (.exit 0,⟨[s0,s1,.box [.val (.str []),.val (.int .i64 0),.own 3 []],.box (aS (ys.foldl (fun t n=>t.put n) t).val),s7,s12,s13,s14,s15],sto⟩):=by
 induction ys with
 |nil =>
  intro pre t h3;have hlt:=geI pre;simp only[List.append_nil,List.foldl_nil];(iterate 7 apply Exists.intro);refine tI rfl ?_;refine tQ ?_;repeat first|with_reducible constructor|with_reducible refine tW rfl ?_|((with_reducible apply tG);(·kernel_rfl);(·(intro _ _;(repeat (apply tOp;(·(intro _;simp only[go_sem];rfl))));rfl));(·(simp only[go_sem];rfl)))
  (with_reducible apply tF);simp only[go_sem];rfl;exact hlt;refine tQ ?_;repeat first|with_reducible constructor|with_reducible refine tW rfl ?_
  exact tlX;all_goals exact .dead
 |cons y ys ih =>
  intro pre t h3;have hget:=oH iH pre ys y;have hlt:=ltI pre ys y;have h0:=zI pre.length;have hw:=wL pre ys y h3;have hp:=aKe y t sto;obtain ⟨s0,s1,s7,s12,s13,s14,s15,ih⟩:=ih (pre++[y]) (t.put y) (by simpa using h3);simp only[List.append_assoc,List.singleton_append] at ih;simp only[List.foldl_cons];simp only[iH] at hget ih ⊢;simp only[aS] at ih ⊢;rw[VaD.enc_eq t.val,VaD.enc_eq (t.put y).val] at hp;refine ⟨s0,s1,s7,s12,s13,s14,s15,?_⟩;refine tI rfl ?_;refine tQ ?_;repeat first|with_reducible constructor|with_reducible refine tW rfl ?_|((with_reducible apply tG);(·kernel_rfl);(·(intro _ _;(repeat (apply tOp;(·(intro _;simp only[go_sem];rfl))));rfl));(·(simp only[go_sem];rfl)))
  (with_reducible apply tT);simp only[go_sem];rfl;exact hlt;refine tQ ?_;repeat first|with_reducible constructor|with_reducible refine tW rfl ?_|((with_reducible apply tG);(·kernel_rfl);(·(intro _ _;(repeat (apply tOp;(·(intro _;simp only[hget,h0,hp,hw,go_sem];rfl))));rfl));(·(simp only[go_sem];rfl)))
  exact ih
end Go.Proofs.YtdkkaldimefljaaGreatDoor
end
