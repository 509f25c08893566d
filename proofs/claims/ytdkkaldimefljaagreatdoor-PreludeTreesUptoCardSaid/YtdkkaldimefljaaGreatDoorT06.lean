import Derived.Test.YtdkkaldimefljaaGreatDoorT05
set_option linter.all false
section
namespace Go.Proofs.YtdkkaldimefljaaGreatDoor
open Go.AM
variable [Aps]
set_option maxRecDepth 100000
set_option maxHeartbeats 16000000
theorem finVal {P:Program} {an:Ann} {fn:Func} {n:Nat} {tm:List Slot} {sto:Sto} {v:AVal} {t:Nat} (h1:an.ownRes=false) (h2:fn.results.toList=[.tmp t]) (h3:tlook an.keep tm t=.val v) (h4:lok n v=true):finish P an fn n ⟨tm,sto⟩=some (.ret (.val v),⟨sto.objs.take n,sto.lo⟩):=by
 simp only[finish,h1,h2,gP,h3,asV,trim,cH,h4,cond_true]
theorem aMM (c:List UInt8) (h:l9 c=true) (sto:Sto):CF (.fn 157) [.val (.str c)] sto=some (.ret (.val (.int .i64 3)),sto):=by
 refine fnP (r:=.ret (.val (.int .i64 3))) ?_ rfl;show some (bif l9 c then some (ARes.ret (.val (.int .i64 3))) else none)=_;rw[h];rfl
theorem kq {c:List UInt8} (h:l9 c=true):(c==[])=false∧(c==[44])=false:=by
 simp only[l9,conTab,List.any_cons,List.any_nil,Bool.or_false,Bool.or_eq_true,beq_iff_eq] at h;rcases h with h|h|h|h|h|h|h|h <;> subst h <;> exact ⟨rfl,rfl⟩
theorem aJx (c:List UInt8) (h:l9 c=true) (sto:Sto):CF (.fn 109) [.val (.str c)] sto=some (.ret (.val (.bool true)),sto):=by
 have h1:=aMM c h sto;apply tA;rfl;rfl;exact Tryz.func109;rfl;rfl;simp only[go_sem];rfl;refine tQ ?_;repeat first|with_reducible constructor|with_reducible refine tW rfl ?_|((with_reducible apply tG);(·kernel_rfl);(·(intro _ _;(repeat (apply tOp;(·(intro _;simp only[h1,go_sem];rfl))));rfl));(·(simp only[go_sem];rfl)))
 exact dC rfl
mutual
def VaD.valid:VaD→Bool
 |.mk c n al=>bif c==[] then al.length==0 else (n==0)&&decide (al.length≤16)&&l9 c&&VaD.valids al
def VaD.valids:List VaD→Bool
 |[]=>true
 |v::l=>v.valid&&VaD.valids l
end
theorem VaD.valid_eq (v:VaD):v.valid=bif v.con==[] then v.args.length==0 else (v.num==0)&&decide (v.args.length≤16)&&l9 v.con&&VaD.valids v.args:=by cases v;rfl
theorem VaD.valids_mem:∀ {l:List VaD},VaD.valids l=true→∀ v∈l,v.valid=true
 |[],_,v,h=>by simp at h
 |x::l,h,v,hv=>by
  simp only[VaD.valids,Bool.and_eq_true] at h;rcases List.mem_cons.1 hv with hv|hv
  ·subst hv;exact h.1
  ·exact VaD.valids_mem h.2 v hv
def j3 (O:List AObj) (lo:Nat) (bv:AObj) (c:Nat):Sto:=⟨O++[bv,.box [.val (.int .i64 (c:Nat))]],lo⟩
theorem aEK {O:List AObj} {lo:Nat} (hlo:lo≤O.length) {bv:AObj} (s:List UInt8) (n:Int) (ys:List VaD):∀ (pre:List VaD) (c:Nat),(pre++ys).length < big→c+VaD.cnts ys≤4000 →
  (∀ y∈ys,∀ c:Nat,c+y.cnt≤4000→CF (.fn 40) [.val (.cptr y.enc),.val (.loc (O.length+1) 0)] (j3 O lo bv c)=some (.ret (.val (.bool true)),j3 O lo bv (c+y.cnt))) →
  ∃ s0 s1 s4 s5 s6 s17 s22 s30 s40 s71 s72 s73 s83,LP 40 (dQ Tryz.f40 0) ⟨[.val (.cptr (.agg [.str s,.int .i64 n,.slice ((pre++ys).map VaD.enc)])),.val (.loc (O.length+1) 0),.dead,.dead,.dead,.dead,.dead,.dead,.dead,.val (.int .i64 ((pre++ys).length:Nat)),.val (.int .i64 (pre.length:Nat)),.dead,.dead],j3 O lo bv c⟩ =
   some (.exit 1,⟨[s0,s1,s4,s5,s6,s17,s22,s30,s40,s71,s72,s73,s83],j3 O lo bv (c+VaD.cnts ys)⟩):=by
 induction ys with
 |nil =>
  intro pre c h3 h4 h2;have hlt:=geI pre;simp only[List.append_nil,VaD.cnts,Nat.add_zero];(iterate 13 apply Exists.intro);refine tI rfl ?_;refine tQ ?_;repeat first|with_reducible constructor|with_reducible refine tW rfl ?_|((with_reducible apply tG);(·kernel_rfl);(·(intro _ _;(repeat (apply tOp;(·(intro _;simp only[go_sem];rfl))));rfl));(·(simp only[go_sem];rfl)))
  (with_reducible apply tF);simp only[go_sem];rfl;exact hlt;refine tQ ?_;repeat first|with_reducible constructor|with_reducible refine tW rfl ?_
  exact tlX;all_goals exact .dead
 |cons y ys ih =>
  intro pre c h3 h4 h2;have hget:=oH VaD.enc pre ys y;have hlt:=ltI pre ys y;have h0:=zI pre.length;have hw:=wL pre ys y h3;simp only[VaD.cnts] at h4;have hc:=h2 y (by simp) c (by omega);obtain ⟨s0,s1,s4,s5,s6,s17,s22,s30,s40,s71,s72,s73,s83,ih⟩:=ih (pre++[y]) (c+y.cnt) (by simpa using h3) (by omega) (fun x hx=>h2 x (by simp [hx]));simp only[List.append_assoc,List.singleton_append] at ih;have e1:c+VaD.cnts (y::ys)=c+y.cnt+VaD.cnts ys:=by simp only[VaD.cnts];omega
  rw[e1];rw[y.enc_eq] at hget hc;simp only[j3] at hc ih ⊢;refine ⟨s0,s1,s4,s5,s6,s17,s22,s30,s40,s71,s72,s73,s83,?_⟩;refine tI rfl ?_;refine tQ ?_;repeat first|with_reducible constructor|with_reducible refine tW rfl ?_|((with_reducible apply tG);(·kernel_rfl);(·(intro _ _;(repeat (apply tOp;(·(intro _;simp only[go_sem];rfl))));rfl));(·(simp only[go_sem];rfl)))
  (with_reducible apply tT);simp only[go_sem];rfl;exact hlt;refine tQ ?_;repeat first|with_reducible constructor|with_reducible refine tW rfl ?_|((with_reducible apply tG);(·kernel_rfl);(·(intro _ _;(repeat (apply tOp;(·(intro _;simp only[FL,FO,hget,h0,hc,Nat.add_zero,go_sem];rfl))));rfl));(·(simp only[go_sem];rfl)))
  (with_reducible apply tF);simp only[go_sem];rfl;rfl;refine tQ ?_;repeat first|with_reducible constructor|with_reducible refine tW rfl ?_|((with_reducible apply tG);(·kernel_rfl);(·(intro _ _;(repeat (apply tOp;(·(intro _;simp only[hw,go_sem];rfl))));rfl));(·(simp only[go_sem];rfl)))
  exact ih
theorem aEL {O:List AObj} {lo:Nat} (hlo:lo≤O.length) (bl:List VaD) (s:List UInt8) (n:Int) (ys:List VaD):∀ (pre:List VaD) (c:Nat),bl=pre++ys→(pre++ys).length < big→c+VaD.cnts ys≤4000 →
  (∀ y∈ys,∀ c:Nat,c+y.cnt≤4000→CF (.fn 40) [.val (.cptr y.enc),.val (.loc (O.length+1) 0)] (j3 O lo (.box [.val (.str s),.val (.int .i64 n),.val (.slice (bl.map VaD.enc))]) c)=some (.ret (.val (.bool true)),j3 O lo (.box [.val (.str s),.val (.int .i64 n),.val (.slice (bl.map VaD.enc))]) (c+y.cnt))) →
  ∃ s0 s1 s4 s5 s6 s17 s22 s30 s40 s71 s72 s73 s83,LP 40 (dQ Tryz.f40 0) ⟨[.val (.loc O.length 0),.val (.loc (O.length+1) 0),.dead,.dead,.dead,.dead,.dead,.dead,.dead,.val (.int .i64 ((pre++ys).length:Nat)),.val (.int .i64 (pre.length:Nat)),.dead,.dead],j3 O lo (.box [.val (.str s),.val (.int .i64 n),.val (.slice (bl.map VaD.enc))]) c⟩ =
   some (.exit 1,⟨[s0,s1,s4,s5,s6,s17,s22,s30,s40,s71,s72,s73,s83],j3 O lo (.box [.val (.str s),.val (.int .i64 n),.val (.slice (bl.map VaD.enc))]) (c+VaD.cnts ys)⟩):=by
 induction ys with
 |nil =>
  intro pre c hbl h3 h4 h2;have hlt:=geI pre;simp only[List.append_nil,VaD.cnts,Nat.add_zero];(iterate 13 apply Exists.intro);refine tI rfl ?_;refine tQ ?_;repeat first|with_reducible constructor|with_reducible refine tW rfl ?_|((with_reducible apply tG);(·kernel_rfl);(·(intro _ _;(repeat (apply tOp;(·(intro _;simp only[go_sem];rfl))));rfl));(·(simp only[go_sem];rfl)))
  (with_reducible apply tF);simp only[go_sem];rfl;exact hlt;refine tQ ?_;repeat first|with_reducible constructor|with_reducible refine tW rfl ?_
  exact tlX;all_goals exact .dead
 |cons y ys ih =>
  intro pre c hbl h3 h4 h2;have hget:=oH VaD.enc pre ys y;rw[←hbl] at hget;have hlt:=ltI pre ys y;have h0:=zI pre.length;have hw:=wL pre ys y h3;simp only[VaD.cnts] at h4;have hc:=h2 y (by simp) c (by omega);obtain ⟨s0,s1,s4,s5,s6,s17,s22,s30,s40,s71,s72,s73,s83,ih⟩:=ih (pre++[y]) (c+y.cnt) (by simp [hbl]) (by simpa using h3) (by omega) (fun x hx=>h2 x (by simp [hx]));simp only[List.append_assoc,List.singleton_append] at ih;have e1:c+VaD.cnts (y::ys)=c+y.cnt+VaD.cnts ys:=by simp only[VaD.cnts];omega
  rw[e1];rw[y.enc_eq] at hget hc;simp only[j3] at hc ih ⊢;refine ⟨s0,s1,s4,s5,s6,s17,s22,s30,s40,s71,s72,s73,s83,?_⟩;refine tI rfl ?_;refine tQ ?_;repeat first|with_reducible constructor|with_reducible refine tW rfl ?_|((with_reducible apply tG);(·kernel_rfl);(·(intro _ _;(repeat (apply tOp;(·(intro _;simp only[go_sem];rfl))));rfl));(·(simp only[go_sem];rfl)))
  (with_reducible apply tT);simp only[go_sem];rfl;exact hlt;refine tQ ?_;repeat first|with_reducible constructor|with_reducible refine tW rfl ?_|((with_reducible apply tG);(·kernel_rfl);(·(intro _ _;(repeat (apply tOp;(·(intro _;simp only[FL,FO,hget,h0,hc,Nat.add_zero,go_sem];rfl))));rfl));(·(simp only[go_sem];rfl)))
  (with_reducible apply tF);simp only[go_sem];rfl;rfl;refine tQ ?_;repeat first|with_reducible constructor|with_reducible refine tW rfl ?_|((with_reducible apply tG);(·kernel_rfl);(·(intro _ _;(repeat (apply tOp;(·(intro _;simp only[hw,go_sem];rfl))));rfl));(·(simp only[go_sem];rfl)))
  exact ih
theorem aNq {O:List AObj} {lo:Nat} (hlo:lo≤O.length) {bv:AObj}:∀ (v:VaD) (c:Nat),v.valid=true→v.size < big→c+v.cnt≤4000 →
  CF (.fn 40) [.val (.cptr v.enc),.val (.loc (O.length+1) 0)] (j3 O lo bv c)=some (.ret (.val (.bool true)),j3 O lo bv (c+v.cnt)):=by
 intro v;induction v using VaD.ind with
 |h v ih =>
  intro c hv hs hc;have hb1:Nat.ble lo (O.length+1)=true:=Nat.ble_eq_true_of_le (by omega);have hcnt:=v.cnt_eq;have hpos:=v.cnt_pos;have hadd:IntKind.i64.wrap (((c:Nat):Int)+1)=((c+1:Nat):Int):=wI _ (by simp only[big];omega);have hgt:decide (((c+1:Nat):Int) > 4000)=false:=by simp;omega
  rw[VaD.valid_eq] at hv;cases h0:(v.con==[]) with
  |true =>
   rw[h0,cond_true] at hv;have hal:v.args=[]:=List.eq_nil_of_length_eq_zero (by simpa using hv);have e1:c+v.cnt=c+1:=by rw[hcnt,hal];simp [VaD.cnts]
   rw[e1];simp only[j3,aS];rw[VaD.enc_eq v,hal,List.map_nil];apply tA;rfl;rfl;exact Tryz.func40;rfl;rfl;simp only[go_sem];rfl;refine tQ ?_;repeat first|with_reducible constructor|with_reducible refine tW rfl ?_|((with_reducible apply tG);(·kernel_rfl);(·(intro _ _;(repeat (apply tOp;(·(intro _;simp only[FL,FO,hb1,hadd,hgt,Nat.add_zero,List.length_nil,go_sem];rfl))));rfl));(·(simp only[go_sem];rfl)))
   (with_reducible apply tF);simp only[go_sem];rfl;rfl;refine tQ ?_;repeat first|with_reducible constructor|with_reducible refine tW rfl ?_|((with_reducible apply tG);(·kernel_rfl);(·(intro _ _;(repeat (apply tOp;(·(intro _;simp only[FL,FO,h0,Nat.add_zero,go_sem];rfl))));rfl));(·(simp only[go_sem];rfl)))
   (with_reducible apply tT);simp only[go_sem];rfl;rfl;refine tQ ?_;repeat first|with_reducible constructor|with_reducible refine tW rfl ?_|((with_reducible apply tG);(·kernel_rfl);(·(intro _ _;(repeat (apply tOp;(·(intro _;simp only[FL,FO,Nat.add_zero,go_sem];rfl))));rfl));(·(simp only[go_sem];rfl)))
   refine (finVal rfl rfl rfl rfl).trans ?_;simp only[FL,FO];rfl
  |false =>
   rw[h0,cond_false] at hv;simp only[Bool.and_eq_true,decide_eq_true_eq] at hv;obtain ⟨⟨⟨hn,hl16⟩,hcon⟩,hval⟩:=hv;have hn':(v.num != 0)=false:=by simp only[bne,hn,Bool.not_true]
   have h16:decide (((v.args.length:Nat):Int) > 16)=false:=by simp;omega
   obtain ⟨_,hcomma⟩:=kq hcon;have h109:=fun S=>aJx v.con hcon S
   have hargs:=VaD.args_len v;have e1:c+v.cnt=c+1+VaD.cnts v.args:=by rw[hcnt];omega
   rw[e1];obtain ⟨s0,s1,s4,s5,s6,s17,s22,s30,s40,s71,s72,s73,s83,hlp⟩:=aEK (bv:=bv) hlo v.con v.num v.args [] (c+1) (by simp only[List.nil_append];omega) (by omega) (fun y hy c2 hc2=>ih y hy c2 (VaD.valids_mem hval y hy) (by have:=VaD.args_size hy;omega) hc2);simp only[List.nil_append,List.length_nil,j3] at hlp;simp only[j3,aS];rw[VaD.enc_eq v];apply tA;rfl;rfl;exact Tryz.func40;rfl;rfl;simp only[go_sem];rfl;refine tQ ?_;repeat first|with_reducible constructor|with_reducible refine tW rfl ?_|((with_reducible apply tG);(·kernel_rfl);(·(intro _ _;(repeat (apply tOp;(·(intro _;simp only[FL,FO,hb1,hadd,hgt,List.length_map,Nat.add_zero,go_sem];rfl))));rfl));(·(simp only[go_sem];rfl)))
   (with_reducible apply tF);simp only[go_sem];rfl;rfl;refine tQ ?_;repeat first|with_reducible constructor|with_reducible refine tW rfl ?_|((with_reducible apply tG);(·kernel_rfl);(·(intro _ _;(repeat (apply tOp;(·(intro _;simp only[FL,FO,h0,Nat.add_zero,go_sem];rfl))));rfl));(·(simp only[go_sem];rfl)))
   (with_reducible apply tF);simp only[go_sem];rfl;rfl;refine tQ ?_;repeat first|with_reducible constructor|with_reducible refine tW rfl ?_|((with_reducible apply tG);(·kernel_rfl);(·(intro _ _;(repeat (apply tOp;(·(intro _;simp only[FL,FO,hn',h16,Nat.add_zero,go_sem];rfl))));rfl));(·(simp only[go_sem];rfl)))
   (with_reducible apply tF);simp only[go_sem];rfl;rfl;refine tQ ?_;repeat first|with_reducible constructor|with_reducible refine tW rfl ?_|((with_reducible apply tG);(·kernel_rfl);(·(intro _ _;(repeat (apply tOp;(·(intro _;simp only[FL,FO,hcomma,Nat.add_zero,go_sem];rfl))));rfl));(·(simp only[go_sem];rfl)))
   (with_reducible apply tF);simp only[go_sem];rfl;rfl;refine tQ ?_;repeat first|with_reducible constructor|with_reducible refine tW rfl ?_|((with_reducible apply tG);(·kernel_rfl);(·(intro _ _;(repeat (apply tOp;(·(intro _;simp only[FL,FO,hcomma,h109,Nat.add_zero,go_sem];rfl))));rfl));(·(simp only[go_sem];rfl)))
   (with_reducible apply tF);simp only[go_sem];rfl;rfl;refine tQ ?_;repeat first|with_reducible constructor|with_reducible refine tW rfl ?_|((with_reducible apply tG);(·kernel_rfl);(·(intro _ _;(repeat (apply tOp;(·(intro _;simp only[FL,FO,List.length_map,Nat.add_zero,go_sem];rfl))));rfl));(·(simp only[go_sem];rfl)))
   apply tL;exact hlp;refine tQ ?_;repeat first|with_reducible constructor|with_reducible refine tW rfl ?_|((with_reducible apply tG);(·kernel_rfl);(·(intro _ _;(repeat (apply tOp;(·(intro _;simp only[go_sem];rfl))));rfl));(·(simp only[go_sem];rfl)))
   refine (finVal rfl rfl rfl rfl).trans ?_;simp only[FL,FO]
theorem aOH {O:List AObj} {lo:Nat} (hlo:lo≤O.length) (v:VaD) (c:Nat) (hv:v.valid=true) (hs:v.size < big) (hc:c+v.cnt≤4000) :
  CF (.fn 40) [.val (.loc O.length 0),.val (.loc (O.length+1) 0)] (j3 O lo (.box (aS v)) c)=some (.ret (.val (.bool true)),j3 O lo (.box (aS v)) (c+v.cnt)):=by
 have hb1:Nat.ble lo (O.length+1)=true:=Nat.ble_eq_true_of_le (by omega);have hcnt:=v.cnt_eq;have hpos:=v.cnt_pos;have hadd:IntKind.i64.wrap (((c:Nat):Int)+1)=((c+1:Nat):Int):=wI _ (by simp only[big];omega);have hgt:decide (((c+1:Nat):Int) > 4000)=false:=by simp;omega
 rw[VaD.valid_eq] at hv;cases h0:(v.con==[]) with
 |true =>
  rw[h0,cond_true] at hv;have hal:v.args=[]:=List.eq_nil_of_length_eq_zero (by simpa using hv);have e1:c+v.cnt=c+1:=by rw[hcnt,hal];simp [VaD.cnts]
  rw[e1];simp only[j3,aS];rw[hal,List.map_nil];apply tA;rfl;rfl;exact Tryz.func40;rfl;rfl;simp only[go_sem];rfl;refine tQ ?_;repeat first|with_reducible constructor|with_reducible refine tW rfl ?_|((with_reducible apply tG);(·kernel_rfl);(·(intro _ _;(repeat (apply tOp;(·(intro _;simp only[FL,FO,hb1,hadd,hgt,Nat.add_zero,List.length_nil,go_sem];rfl))));rfl));(·(simp only[go_sem];rfl)))
  (with_reducible apply tF);simp only[go_sem];rfl;rfl;refine tQ ?_;repeat first|with_reducible constructor|with_reducible refine tW rfl ?_|((with_reducible apply tG);(·kernel_rfl);(·(intro _ _;(repeat (apply tOp;(·(intro _;simp only[FL,FO,h0,Nat.add_zero,go_sem];rfl))));rfl));(·(simp only[go_sem];rfl)))
  (with_reducible apply tT);simp only[go_sem];rfl;rfl;refine tQ ?_;repeat first|with_reducible constructor|with_reducible refine tW rfl ?_|((with_reducible apply tG);(·kernel_rfl);(·(intro _ _;(repeat (apply tOp;(·(intro _;simp only[FL,FO,Nat.add_zero,go_sem];rfl))));rfl));(·(simp only[go_sem];rfl)))
  refine (finVal rfl rfl rfl rfl).trans ?_;simp only[FL,FO];rfl
 |false =>
  rw[h0,cond_false] at hv;simp only[Bool.and_eq_true,decide_eq_true_eq] at hv;obtain ⟨⟨⟨hn,hl16⟩,hcon⟩,hval⟩:=hv;have hn':(v.num != 0)=false:=by simp only[bne,hn,Bool.not_true]
  have h16:decide (((v.args.length:Nat):Int) > 16)=false:=by simp;omega
  obtain ⟨_,hcomma⟩:=kq hcon;have h109:=fun S=>aJx v.con hcon S
  have hargs:=VaD.args_len v;have e1:c+v.cnt=c+1+VaD.cnts v.args:=by rw[hcnt];omega
  rw[e1];obtain ⟨s0,s1,s4,s5,s6,s17,s22,s30,s40,s71,s72,s73,s83,hlp⟩:=aEL hlo v.args v.con v.num v.args [] (c+1) rfl (by simp only[List.nil_append];omega) (by omega) (fun y hy c2 hc2=>aNq hlo y c2 (VaD.valids_mem hval y hy) (by have:=VaD.args_size hy;omega) hc2);simp only[List.nil_append,List.length_nil,j3] at hlp;simp only[j3,aS];apply tA;rfl;rfl;exact Tryz.func40;rfl;rfl;simp only[go_sem];rfl;refine tQ ?_;repeat first|with_reducible constructor|with_reducible refine tW rfl ?_|((with_reducible apply tG);(·kernel_rfl);(·(intro _ _;(repeat (apply tOp;(·(intro _;simp only[FL,FO,hb1,hadd,hgt,List.length_map,Nat.add_zero,go_sem];rfl))));rfl));(·(simp only[go_sem];rfl)))
  (with_reducible apply tF);simp only[go_sem];rfl;rfl;refine tQ ?_;repeat first|with_reducible constructor|with_reducible refine tW rfl ?_|((with_reducible apply tG);(·kernel_rfl);(·(intro _ _;(repeat (apply tOp;(·(intro _;simp only[FL,FO,h0,Nat.add_zero,go_sem];rfl))));rfl));(·(simp only[go_sem];rfl)))
  (with_reducible apply tF);simp only[go_sem];rfl;rfl;refine tQ ?_;repeat first|with_reducible constructor|with_reducible refine tW rfl ?_|((with_reducible apply tG);(·kernel_rfl);(·(intro _ _;(repeat (apply tOp;(·(intro _;simp only[FL,FO,hn',h16,Nat.add_zero,go_sem];rfl))));rfl));(·(simp only[go_sem];rfl)))
  (with_reducible apply tF);simp only[go_sem];rfl;rfl;refine tQ ?_;repeat first|with_reducible constructor|with_reducible refine tW rfl ?_|((with_reducible apply tG);(·kernel_rfl);(·(intro _ _;(repeat (apply tOp;(·(intro _;simp only[FL,FO,hcomma,Nat.add_zero,go_sem];rfl))));rfl));(·(simp only[go_sem];rfl)))
  (with_reducible apply tF);simp only[go_sem];rfl;rfl;refine tQ ?_;repeat first|with_reducible constructor|with_reducible refine tW rfl ?_|((with_reducible apply tG);(·kernel_rfl);(·(intro _ _;(repeat (apply tOp;(·(intro _;simp only[FL,FO,hcomma,h109,Nat.add_zero,go_sem];rfl))));rfl));(·(simp only[go_sem];rfl)))
  (with_reducible apply tF);simp only[go_sem];rfl;rfl;refine tQ ?_;repeat first|with_reducible constructor|with_reducible refine tW rfl ?_|((with_reducible apply tG);(·kernel_rfl);(·(intro _ _;(repeat (apply tOp;(·(intro _;simp only[FL,FO,List.length_map,Nat.add_zero,go_sem];rfl))));rfl));(·(simp only[go_sem];rfl)))
  apply tL;exact hlp;refine tQ ?_;repeat first|with_reducible constructor|with_reducible refine tW rfl ?_|((with_reducible apply tG);(·kernel_rfl);(·(intro _ _;(repeat (apply tOp;(·(intro _;simp only[go_sem];rfl))));rfl));(·(simp only[go_sem];rfl)))
  refine (finVal rfl rfl rfl rfl).trans ?_;simp only[FL,FO]
theorem c24 (v:VaD) (hv:v.valid=true) (hs:v.size < big) (hc:v.cnt≤4000) (sto:Sto) (hlo:sto.lo≤sto.objs.length):CF (.fn 24) [.val v.enc] sto=some (.ret (.val (.int .i64 0)),sto):=by
 have h40:=aOH (O:=sto.objs) hlo v 0 hv hs (by omega);have hb1:Nat.ble sto.lo (sto.objs.length+1)=true:=Nat.ble_eq_true_of_le (by omega);simp only[j3,aS,Int.natCast_zero] at h40;rw[VaD.enc_eq v];apply tA;rfl;rfl;exact Tryz.func24;rfl;rfl;simp only[go_sem];rfl;refine tQ ?_;repeat first|with_reducible constructor|with_reducible refine tW rfl ?_|((with_reducible apply tG);(·kernel_rfl);(·(intro _ _;(repeat (apply tOp;(·(intro _;simp only[FL,FO,hb1,h40,Nat.add_zero,go_sem];rfl))));rfl));(·(simp only[go_sem];rfl)))
 (with_reducible apply tF);simp only[go_sem];rfl;rfl;refine tQ ?_;repeat first|with_reducible constructor|with_reducible refine tW rfl ?_|((with_reducible apply tG);(·kernel_rfl);(·(intro _ _;(repeat (apply tOp;(·(intro _;simp only[go_sem];rfl))));rfl));(·(simp only[go_sem];rfl)))
 exact nW [_,_] rfl
theorem c44 (v:VaD) (hv:v.valid=true) (hs:v.size < big) (hc:v.cnt≤4000) (sto:Sto) (hlo:sto.lo≤sto.objs.length):CF (.fn 44) [.val v.enc] sto=some (.ret (.val (.bool false)),sto):=by
 have h24:=c24 v hv hs hc sto hlo;rw[VaD.enc_eq v] at h24 ⊢;apply tA;rfl;rfl;exact Tryz.func44;rfl;rfl;simp only[go_sem];rfl;refine tQ ?_;repeat first|with_reducible constructor|with_reducible refine tW rfl ?_|((with_reducible apply tG);(·kernel_rfl);(·(intro _ _;(repeat (apply tOp;(·(intro _;simp only[h24,go_sem];rfl))));rfl));(·(simp only[go_sem];rfl)))
 exact dC rfl
theorem aD1 (sto:Sto) (hlo:sto.lo≤sto.objs.length) (ys:List VaD):∀ (pre:List VaD),(pre++ys).length < big→(∀ y∈ys,y.valid=true∧y.size < big∧y.cnt≤4000) →
  ∃ s0 s1 s4 s5 s7 s8 s9 s16,LP 112 (dQ Tryz.f112 0) ⟨[.val (.slice ((pre++ys).map VaD.enc)),.val (.func 44 []),.dead,.dead,.val (.int .i64 ((pre++ys).length:Nat)),.val (.int .i64 (pre.length:Nat)),.dead,.dead],sto⟩=some (.exit 0,⟨[s0,s1,s4,s5,s7,s8,s9,s16],sto⟩):=by
 induction ys with
 |nil =>
  intro pre h3 h2;have hlt:=geI pre;simp only[List.append_nil];(iterate 8 apply Exists.intro);refine tI rfl ?_;refine tQ ?_;repeat first|with_reducible constructor|with_reducible refine tW rfl ?_|((with_reducible apply tG);(·kernel_rfl);(·(intro _ _;(repeat (apply tOp;(·(intro _;simp only[go_sem];rfl))));rfl));(·(simp only[go_sem];rfl)))
  (with_reducible apply tF);simp only[go_sem];rfl;exact hlt;refine tQ ?_;repeat first|with_reducible constructor|with_reducible refine tW rfl ?_
  exact tlX;all_goals exact .dead
 |cons y ys ih =>
  intro pre h3 h2;have hget:=oH VaD.enc pre ys y;have hlt:=ltI pre ys y;have h0:=zI pre.length;have hw:=wL pre ys y h3;obtain ⟨v1,v2,v3⟩:=h2 y (by simp);have hc:=c44 y v1 v2 v3 sto hlo;obtain ⟨s0,s1,s4,s5,s7,s8,s9,s16,ih⟩:=ih (pre++[y]) (by simpa using h3) (fun x hx=>h2 x (by simp [hx]));simp only[List.append_assoc,List.singleton_append] at ih;rw[y.enc_eq] at hget hc;refine ⟨s0,s1,s4,s5,s7,s8,s9,s16,?_⟩;refine tI rfl ?_;refine tQ ?_;repeat first|with_reducible constructor|with_reducible refine tW rfl ?_|((with_reducible apply tG);(·kernel_rfl);(·(intro _ _;(repeat (apply tOp;(·(intro _;simp only[go_sem];rfl))));rfl));(·(simp only[go_sem];rfl)))
  (with_reducible apply tT);simp only[go_sem];rfl;exact hlt;refine tQ ?_;repeat first|with_reducible constructor|with_reducible refine tW rfl ?_|((with_reducible apply tG);(·kernel_rfl);(·(intro _ _;(repeat (apply tOp;(·(intro _;simp only[hget,h0,hc,go_sem];rfl))));rfl));(·(simp only[go_sem];rfl)))
  (with_reducible apply tF);simp only[go_sem];rfl;rfl;refine tQ ?_;repeat first|with_reducible constructor|with_reducible refine tW rfl ?_|((with_reducible apply tG);(·kernel_rfl);(·(intro _ _;(repeat (apply tOp;(·(intro _;simp only[hw,go_sem];rfl))));rfl));(·(simp only[go_sem];rfl)))
  exact ih
theorem c43 (l:List VaD) (hl:l.length < big) (h:∀ y∈l,y.valid=true∧y.size < big∧y.cnt≤4000) (sto:Sto) (hlo:sto.lo≤sto.objs.length):CF (.fn 43) [.val (.slice (l.map VaD.enc)),.val (.func 44 [])] sto=some (.ret (.val (.bool false)),sto):=by
 have h112:CF (.fn 112) [.val (.slice (l.map VaD.enc)),.val (.func 44 [])] sto=some (.ret (.val (.int .i64 (-1))),sto):=by
  obtain ⟨s0,s1,s4,s5,s7,s8,s9,s16,hlp⟩:=aD1 sto hlo l [] (by simpa using hl) h;simp only[List.nil_append,List.length_nil] at hlp;apply tA;rfl;rfl;exact Tryz.func112;rfl;rfl;simp only[go_sem];rfl;refine tQ ?_;repeat first|with_reducible constructor|with_reducible refine tW rfl ?_|((with_reducible apply tG);(·kernel_rfl);(·(intro _ _;(repeat (apply tOp;(·(intro _;simp only[List.length_map,go_sem];rfl))));rfl));(·(simp only[go_sem];rfl)))
  apply tL;exact hlp;refine tQ ?_;repeat first|with_reducible constructor|with_reducible refine tW rfl ?_|((with_reducible apply tG);(·kernel_rfl);(·(intro _ _;(repeat (apply tOp;(·(intro _;simp only[go_sem];rfl))));rfl));(·(simp only[go_sem];rfl)))
  exact dC rfl
 apply tA;rfl;rfl;exact Tryz.func43;rfl;rfl;simp only[go_sem];rfl;refine tQ ?_;repeat first|with_reducible constructor|with_reducible refine tW rfl ?_|((with_reducible apply tG);(·kernel_rfl);(·(intro _ _;(repeat (apply tOp;(·(intro _;simp only[h112,go_sem];rfl))));rfl));(·(simp only[go_sem];rfl)))
 exact dC rfl
end Go.Proofs.YtdkkaldimefljaaGreatDoor
end
