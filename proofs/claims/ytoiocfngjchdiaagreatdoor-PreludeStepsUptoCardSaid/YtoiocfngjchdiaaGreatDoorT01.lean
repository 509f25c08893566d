import Derived.Test.YtoiocfngjchdiaaGreatDoorT00
set_option linter.all false
set_option maxRecDepth 100000
set_option maxHeartbeats 16000000
namespace Go.Proofs.YtoiocfngjchdiaaGreatDoor
open Go.AM
variable [Aps]
theorem finVal{P:Program}{an:AF}{fn:Func}{n:Nat}{tm:List Slot}{sto:AH}{v:AVal}{t:Nat}(h2:fn.results.toList=[.tmp t])(h3:tlook an.keep tm t=.val v)(h4:lok n v=true):finish P an fn n ⟨tm,sto⟩=some (.ret (.val v),⟨sto.objs.take n,sto.lo⟩):=by
 simp only[finish,h2,fL,h3,DQ,trim,cF,h4,Bl]
theorem Rl(c:List UInt8)(k:Int)(h:eD c=some k)(sto:AH):CF (.fn 192) [.val (.str c)] sto=some (.ret (.val (.int .i64 k)),sto):=by
 refine NM (r:=.ret (.val (.int .i64 k))) ?_ rfl;show some ((eD c).map λk=>ARes.ret (.val (.int .i64 k)))=_;rw[h];rfl
theorem aCP{c:List UInt8}(h:nX c=true):eD c=some 3:=by simpa only[nX,Bx] using h
theorem iu{c:List UInt8}(h:nX c=true):(c==[])=false/\(c==[44])=false:=by
 constructor
 ·cases hc:c==[] with
  |false=>rfl
  |true=>rw[Bx.1 hc] at h;exact absurd h (by decide)
 ·cases hc:c==[44] with
  |false=>rfl
  |true=>rw[Bx.1 hc] at h;exact absurd h (by decide)
def fR(v:VaD):List Cell:=[.val (.str v.con),.val (.int .i64 v.num),.val (.slice (v.args.map VaD.enc))]
theorem ze(c:List UInt8)(h:nX c=true)(sto:AH):CF (.fn 150) [.val (.str c)] sto=some (.ret (.val (.bool true)),sto):=by
 have h1:=Rl c 3 (aCP h) sto;exact wk
mutual
def VaD.valid:VaD->Bool
 |.mk c n al=>bif c==[] then al.length==0 else(n==0)&&decide (al.length<=16)&&nX c&&VaD.valids al
def VaD.valids:List VaD->Bool
 |[]=>true
 |v::l=>v.valid&&VaD.valids l
end
theorem VaD.valid_eq(v:VaD):v.valid=bif v.con==[] then v.args.length==0 else(v.num==0)&&decide (v.args.length<=16)&&nX v.con&&VaD.valids v.args:=by cases v;rfl
theorem VaD.valids_mem:∀{l:List VaD},VaD.valids l=true->∀v∈l,v.valid=true
 |[],_,v,h=>by simp at h
 |x::l,h,v,hv=>by
  simp only[VaD.valids,Ac] at h;rcases Au.1 hv with hv|hv
  ·subst hv;exact h.1
  ·exact VaD.valids_mem h.2 v hv
def jU(O:List AObj)(lo:Nat)(bv:AObj)(c:Nat):AH:=⟨O++[bv,.box [.val (.int .i64 (c:Nat))]],lo⟩
theorem aGm{O:List AObj}{lo:Nat}(AP:lo<=O.length){bv:AObj}(s:List UInt8)(n:Int)(ys:List VaD):∀(pre:List VaD)(c:Nat),(pre++ys).length<AV->c+VaD.cnts ys<=4000 ->
  (∀y∈ys,∀c:Nat,c+y.cnt<=4000->CF (.fn 95) [.val (.cptr y.enc),.val (.loc (O.length+1) 0)] (jU O lo bv c)=some (.ret (.val (.bool true)),jU O lo bv (c+y.cnt))) ->
  ∃s0 s1 s4 s5 s6 CD DG KW CU KR KQ KP KO,LP 95 (aS Tryz.f95 0) ⟨[.val (.cptr (.agg [.str s,.int .i64 n,.slice ((pre++ys).map VaD.enc)])),.val (.loc (O.length+1) 0),.dead,.dead,.dead,.dead,.dead,.dead,.dead,.val (.int .i64 ((pre++ys).length:Nat)),.val (.int .i64 (pre.length:Nat)),.dead,.dead],jU O lo bv c⟩ =
   some (.exit 1,⟨[s0,s1,s4,s5,s6,CD,DG,KW,CU,KR,KQ,KP,KO],jU O lo bv (c+VaD.cnts ys)⟩):=by
 induction ys with
 |nil =>
  intro pre c h3 h4 h2;have AL:=DL pre;simp only[Ao,VaD.cnts,Aw];iterate 13 apply Exists.intro
  refine tI rfl ?_;exact wk;all_goals exact .dead
 |cons y ys ih =>
  intro pre c h3 h4 h2;have AN:=dK VaD.enc pre ys y;have AL:=CY pre ys y;have h0:=zI pre.length;have hw:=wL pre ys y h3;simp only[VaD.cnts] at h4;have hc:=h2 y (by simp) c (by omega);obtain⟨s0,s1,s4,s5,s6,CD,DG,KW,CU,KR,KQ,KP,KO,ih⟩:=ih (pre++[y]) (c+y.cnt) (by simpa using h3) (by omega) (λx hx=>h2 x (by simp[hx]));simp only[Aj,Am] at ih;have e1:c+VaD.cnts (y::ys)=c+y.cnt+VaD.cnts ys:=by simp only[VaD.cnts];omega
  rw[e1];rw[y.enc_eq] at AN hc;simp only[jU] at hc ih ⊢;refine⟨s0,s1,s4,s5,s6,CD,DG,KW,CU,KR,KQ,KP,KO,?_⟩;refine tI rfl ?_;exact B9
theorem aGn{O:List AObj}{lo:Nat}(AP:lo<=O.length)(bl:List VaD)(s:List UInt8)(n:Int)(ys:List VaD):∀(pre:List VaD)(c:Nat),bl=pre++ys->(pre++ys).length<AV->c+VaD.cnts ys<=4000 ->
  (∀y∈ys,∀c:Nat,c+y.cnt<=4000->CF (.fn 95) [.val (.cptr y.enc),.val (.loc (O.length+1) 0)] (jU O lo (.box [.val (.str s),.val (.int .i64 n),.val (.slice (bl.map VaD.enc))]) c)=some (.ret (.val (.bool true)),jU O lo (.box [.val (.str s),.val (.int .i64 n),.val (.slice (bl.map VaD.enc))]) (c+y.cnt))) ->
  ∃s0 s1 s4 s5 s6 CD DG KW CU KR KQ KP KO,LP 95 (aS Tryz.f95 0) ⟨[.val (.loc O.length 0),.val (.loc (O.length+1) 0),.dead,.dead,.dead,.dead,.dead,.dead,.dead,.val (.int .i64 ((pre++ys).length:Nat)),.val (.int .i64 (pre.length:Nat)),.dead,.dead],jU O lo (.box [.val (.str s),.val (.int .i64 n),.val (.slice (bl.map VaD.enc))]) c⟩ =
   some (.exit 1,⟨[s0,s1,s4,s5,s6,CD,DG,KW,CU,KR,KQ,KP,KO],jU O lo (.box [.val (.str s),.val (.int .i64 n),.val (.slice (bl.map VaD.enc))]) (c+VaD.cnts ys)⟩):=by
 induction ys with
 |nil =>
  intro pre c M4 h3 h4 h2;have AL:=DL pre;simp only[Ao,VaD.cnts,Aw];iterate 13 apply Exists.intro
  refine tI rfl ?_;refine tQ ?_;repeat first|with_reducible constructor|with_reducible refine tW rfl ?_|((with_reducible apply tG);(·kernel_rfl);(·(intro _ _;(repeat (apply BN;(·(intro _;simp only[go_sem];rfl))));rfl));(·(simp only[go_sem];rfl)))
  (with_reducible apply tF);simp only[go_sem];rfl;exact AL;refine tQ ?_;repeat first|with_reducible constructor|with_reducible refine tW rfl ?_
  exact Nx;all_goals exact .dead
 |cons y ys ih =>
  intro pre c M4 h3 h4 h2;have AN:=dK VaD.enc pre ys y;rw[<-M4] at AN;have AL:=CY pre ys y;have h0:=zI pre.length;have hw:=wL pre ys y h3;simp only[VaD.cnts] at h4;have hc:=h2 y (by simp) c (by omega);obtain⟨s0,s1,s4,s5,s6,CD,DG,KW,CU,KR,KQ,KP,KO,ih⟩:=ih (pre++[y]) (c+y.cnt) (by simp[M4]) (by simpa using h3) (by omega) (λx hx=>h2 x (by simp[hx]));simp only[Aj,Am] at ih;have e1:c+VaD.cnts (y::ys)=c+y.cnt+VaD.cnts ys:=by simp only[VaD.cnts];omega
  rw[e1];rw[y.enc_eq] at AN hc;simp only[jU] at hc ih ⊢;refine⟨s0,s1,s4,s5,s6,CD,DG,KW,CU,KR,KQ,KP,KO,?_⟩;refine tI rfl ?_;refine tQ ?_;repeat first|with_reducible constructor|with_reducible refine tW rfl ?_|((with_reducible apply tG);(·kernel_rfl);(·(intro _ _;(repeat (apply BN;(·(intro _;simp only[go_sem];rfl))));rfl));(·(simp only[go_sem];rfl)))
  (with_reducible apply tT);simp only[go_sem];rfl;exact AL;refine tQ ?_;repeat first|with_reducible constructor|with_reducible refine tW rfl ?_|((with_reducible apply tG);(·kernel_rfl);(·(intro _ _;(repeat (apply BN;(·(intro _;simp only[FL,FO,AN,h0,hc,Aw,go_sem];rfl))));rfl));(·(simp only[go_sem];rfl)))
  (with_reducible apply tF);simp only[go_sem];rfl;rfl;refine tQ ?_;repeat first|with_reducible constructor|with_reducible refine tW rfl ?_|((with_reducible apply tG);(·kernel_rfl);(·(intro _ _;(repeat (apply BN;(·(intro _;simp only[hw,go_sem];rfl))));rfl));(·(simp only[go_sem];rfl)))
  exact ih
theorem aYq{O:List AObj}{lo:Nat}(AP:lo<=O.length){bv:AObj}:∀(v:VaD)(c:Nat),v.valid=true->v.size<AV->c+v.cnt<=4000 ->
  CF (.fn 95) [.val (.cptr v.enc),.val (.loc (O.length+1) 0)] (jU O lo bv c)=some (.ret (.val (.bool true)),jU O lo bv (c+v.cnt)):=by
 intro v;induction v using VaD.ind with
 |h v ih =>
  intro c hv hs hc;have E8:Nat.ble lo (O.length+1)=true:=Ah (by omega);have GA:=v.cnt_eq;have CG:=v.cnt_pos;have hadd:IntKind.i64.wrap (((c:Nat):Int)+1)=((c+1:Nat):Int):=wI _ (by simp only[AV];omega);have hgt:decide (((c+1:Nat):Int)>4000)=false:=by simp;omega
  rw[VaD.valid_eq] at hv;cases h0:(v.con==[]) with
  |true =>
   rw[h0,Bl] at hv;have DU:v.args=[]:=Cs (by simpa using hv);have e1:c+v.cnt=c+1:=by rw[GA,DU];simp[VaD.cnts]
   rw[e1];simp only[jU,fR];rw[VaD.enc_eq v,DU,Ax];apply tA;rfl;rfl;exact Tryz.func95;rfl;rfl;simp only[go_sem];rfl;refine tQ ?_;repeat first|with_reducible constructor|with_reducible refine tW rfl ?_|((with_reducible apply tG);(·kernel_rfl);(·(intro _ _;(repeat (apply BN;(·(intro _;simp only[FL,FO,E8,hadd,hgt,Aw,Ar,go_sem];rfl))));rfl));(·(simp only[go_sem];rfl)))
   (with_reducible apply tF);simp only[go_sem];rfl;rfl;refine tQ ?_;repeat first|with_reducible constructor|with_reducible refine tW rfl ?_|((with_reducible apply tG);(·kernel_rfl);(·(intro _ _;(repeat (apply BN;(·(intro _;simp only[FL,FO,h0,Aw,go_sem];rfl))));rfl));(·(simp only[go_sem];rfl)))
   (with_reducible apply tT);simp only[go_sem];rfl;rfl;refine tQ ?_;repeat first|with_reducible constructor|with_reducible refine tW rfl ?_|((with_reducible apply tG);(·kernel_rfl);(·(intro _ _;(repeat (apply BN;(·(intro _;simp only[FL,FO,Aw,go_sem];rfl))));rfl));(·(simp only[go_sem];rfl)))
   refine(finVal rfl rfl rfl).trans ?_;simp only[FL,FO];rfl
  |false =>
   rw[h0,Be] at hv;simp only[Ac,Cf] at hv;obtain⟨⟨⟨hn,TM⟩,HY⟩,DM⟩:=hv;have IA:(v.num != 0)=false:=by simp only[bne,hn,Fc]
   have h16:decide (((v.args.length:Nat):Int)>16)=false:=by simp;omega
   obtain⟨_,FP⟩:=iu HY;have Me:=λS=>ze v.con HY S
   have CQ:=VaD.args_len v;have e1:c+v.cnt=c+1+VaD.cnts v.args:=by rw[GA];omega
   rw[e1];obtain⟨s0,s1,s4,s5,s6,CD,DG,KW,CU,KR,KQ,KP,KO,BJ⟩:=aGm (bv:=bv) AP v.con v.num v.args [] (c+1) (by simp only[Ak];omega) (by omega) (λy hy c2 CV=>ih y hy c2 (VaD.valids_mem DM y hy) (by have:=VaD.args_size hy;omega) CV);simp only[Ak,Ar,jU] at BJ;simp only[jU,fR];rw[VaD.enc_eq v];apply tA;rfl;rfl;exact Tryz.func95;rfl;rfl;simp only[go_sem];rfl;refine tQ ?_;repeat first|with_reducible constructor|with_reducible refine tW rfl ?_|((with_reducible apply tG);(·kernel_rfl);(·(intro _ _;(repeat (apply BN;(·(intro _;simp only[FL,FO,E8,hadd,hgt,Ay,Aw,go_sem];rfl))));rfl));(·(simp only[go_sem];rfl)))
   (with_reducible apply tF);simp only[go_sem];rfl;rfl;refine tQ ?_;repeat first|with_reducible constructor|with_reducible refine tW rfl ?_|((with_reducible apply tG);(·kernel_rfl);(·(intro _ _;(repeat (apply BN;(·(intro _;simp only[FL,FO,h0,Aw,go_sem];rfl))));rfl));(·(simp only[go_sem];rfl)))
   (with_reducible apply tF);simp only[go_sem];rfl;rfl;refine tQ ?_;repeat first|with_reducible constructor|with_reducible refine tW rfl ?_|((with_reducible apply tG);(·kernel_rfl);(·(intro _ _;(repeat (apply BN;(·(intro _;simp only[FL,FO,IA,h16,Aw,go_sem];rfl))));rfl));(·(simp only[go_sem];rfl)))
   (with_reducible apply tF);simp only[go_sem];rfl;rfl;refine tQ ?_;repeat first|with_reducible constructor|with_reducible refine tW rfl ?_|((with_reducible apply tG);(·kernel_rfl);(·(intro _ _;(repeat (apply BN;(·(intro _;simp only[FL,FO,FP,Aw,go_sem];rfl))));rfl));(·(simp only[go_sem];rfl)))
   (with_reducible apply tF);simp only[go_sem];rfl;rfl;refine tQ ?_;repeat first|with_reducible constructor|with_reducible refine tW rfl ?_|((with_reducible apply tG);(·kernel_rfl);(·(intro _ _;(repeat (apply BN;(·(intro _;simp only[FL,FO,FP,Me,Aw,go_sem];rfl))));rfl));(·(simp only[go_sem];rfl)))
   (with_reducible apply tF);simp only[go_sem];rfl;rfl;refine tQ ?_;repeat first|with_reducible constructor|with_reducible refine tW rfl ?_|((with_reducible apply tG);(·kernel_rfl);(·(intro _ _;(repeat (apply BN;(·(intro _;simp only[FL,FO,Ay,Aw,go_sem];rfl))));rfl));(·(simp only[go_sem];rfl)))
   apply tL;exact BJ;refine tQ ?_;repeat first|with_reducible constructor|with_reducible refine tW rfl ?_|((with_reducible apply tG);(·kernel_rfl);(·(intro _ _;(repeat (apply BN;(·(intro _;simp only[go_sem];rfl))));rfl));(·(simp only[go_sem];rfl)))
   refine(finVal rfl rfl rfl).trans ?_;simp only[FL,FO]
theorem aYr{O:List AObj}{lo:Nat}(AP:lo<=O.length)(v:VaD)(c:Nat)(hv:v.valid=true)(hs:v.size<AV)(hc:c+v.cnt<=4000) :
  CF (.fn 95) [.val (.loc O.length 0),.val (.loc (O.length+1) 0)] (jU O lo (.box (fR v)) c)=some (.ret (.val (.bool true)),jU O lo (.box (fR v)) (c+v.cnt)):=by
 have E8:Nat.ble lo (O.length+1)=true:=Ah (by omega);have GA:=v.cnt_eq;have CG:=v.cnt_pos;have hadd:IntKind.i64.wrap (((c:Nat):Int)+1)=((c+1:Nat):Int):=wI _ (by simp only[AV];omega);have hgt:decide (((c+1:Nat):Int)>4000)=false:=by simp;omega
 rw[VaD.valid_eq] at hv;cases h0:(v.con==[]) with
 |true =>
  rw[h0,Bl] at hv;have DU:v.args=[]:=Cs (by simpa using hv);have e1:c+v.cnt=c+1:=by rw[GA,DU];simp[VaD.cnts]
  rw[e1];simp only[jU,fR];rw[DU,Ax];apply tA;rfl;rfl;exact Tryz.func95;rfl;rfl;simp only[go_sem];rfl;refine tQ ?_;repeat first|with_reducible constructor|with_reducible refine tW rfl ?_|((with_reducible apply tG);(·kernel_rfl);(·(intro _ _;(repeat (apply BN;(·(intro _;simp only[FL,FO,E8,hadd,hgt,Aw,Ar,go_sem];rfl))));rfl));(·(simp only[go_sem];rfl)))
  (with_reducible apply tF);simp only[go_sem];rfl;rfl;refine tQ ?_;repeat first|with_reducible constructor|with_reducible refine tW rfl ?_|((with_reducible apply tG);(·kernel_rfl);(·(intro _ _;(repeat (apply BN;(·(intro _;simp only[FL,FO,h0,Aw,go_sem];rfl))));rfl));(·(simp only[go_sem];rfl)))
  (with_reducible apply tT);simp only[go_sem];rfl;rfl;refine tQ ?_;repeat first|with_reducible constructor|with_reducible refine tW rfl ?_|((with_reducible apply tG);(·kernel_rfl);(·(intro _ _;(repeat (apply BN;(·(intro _;simp only[FL,FO,Aw,go_sem];rfl))));rfl));(·(simp only[go_sem];rfl)))
  refine(finVal rfl rfl rfl).trans ?_;simp only[FL,FO];rfl
 |false =>
  rw[h0,Be] at hv;simp only[Ac,Cf] at hv;obtain⟨⟨⟨hn,TM⟩,HY⟩,DM⟩:=hv;have IA:(v.num != 0)=false:=by simp only[bne,hn,Fc]
  have h16:decide (((v.args.length:Nat):Int)>16)=false:=by simp;omega
  obtain⟨_,FP⟩:=iu HY;have Me:=λS=>ze v.con HY S
  have CQ:=VaD.args_len v;have e1:c+v.cnt=c+1+VaD.cnts v.args:=by rw[GA];omega
  rw[e1];obtain⟨s0,s1,s4,s5,s6,CD,DG,KW,CU,KR,KQ,KP,KO,BJ⟩:=aGn AP v.args v.con v.num v.args [] (c+1) rfl (by simp only[Ak];omega) (by omega) (λy hy c2 CV=>aYq AP y c2 (VaD.valids_mem DM y hy) (by have:=VaD.args_size hy;omega) CV);simp only[Ak,Ar,jU] at BJ;simp only[jU,fR];apply tA;rfl;rfl;exact Tryz.func95;rfl;rfl;simp only[go_sem];rfl;refine tQ ?_;repeat first|with_reducible constructor|with_reducible refine tW rfl ?_|((with_reducible apply tG);(·kernel_rfl);(·(intro _ _;(repeat (apply BN;(·(intro _;simp only[FL,FO,E8,hadd,hgt,Ay,Aw,go_sem];rfl))));rfl));(·(simp only[go_sem];rfl)))
  (with_reducible apply tF);simp only[go_sem];rfl;rfl;refine tQ ?_;repeat first|with_reducible constructor|with_reducible refine tW rfl ?_|((with_reducible apply tG);(·kernel_rfl);(·(intro _ _;(repeat (apply BN;(·(intro _;simp only[FL,FO,h0,Aw,go_sem];rfl))));rfl));(·(simp only[go_sem];rfl)))
  (with_reducible apply tF);simp only[go_sem];rfl;rfl;refine tQ ?_;repeat first|with_reducible constructor|with_reducible refine tW rfl ?_|((with_reducible apply tG);(·kernel_rfl);(·(intro _ _;(repeat (apply BN;(·(intro _;simp only[FL,FO,IA,h16,Aw,go_sem];rfl))));rfl));(·(simp only[go_sem];rfl)))
  (with_reducible apply tF);simp only[go_sem];rfl;rfl;refine tQ ?_;repeat first|with_reducible constructor|with_reducible refine tW rfl ?_|((with_reducible apply tG);(·kernel_rfl);(·(intro _ _;(repeat (apply BN;(·(intro _;simp only[FL,FO,FP,Aw,go_sem];rfl))));rfl));(·(simp only[go_sem];rfl)))
  (with_reducible apply tF);simp only[go_sem];rfl;rfl;refine tQ ?_;repeat first|with_reducible constructor|with_reducible refine tW rfl ?_|((with_reducible apply tG);(·kernel_rfl);(·(intro _ _;(repeat (apply BN;(·(intro _;simp only[FL,FO,FP,Me,Aw,go_sem];rfl))));rfl));(·(simp only[go_sem];rfl)))
  (with_reducible apply tF);simp only[go_sem];rfl;rfl;refine tQ ?_;repeat first|with_reducible constructor|with_reducible refine tW rfl ?_|((with_reducible apply tG);(·kernel_rfl);(·(intro _ _;(repeat (apply BN;(·(intro _;simp only[FL,FO,Ay,Aw,go_sem];rfl))));rfl));(·(simp only[go_sem];rfl)))
  apply tL;exact BJ;refine tQ ?_;repeat first|with_reducible constructor|with_reducible refine tW rfl ?_|((with_reducible apply tG);(·kernel_rfl);(·(intro _ _;(repeat (apply BN;(·(intro _;simp only[go_sem];rfl))));rfl));(·(simp only[go_sem];rfl)))
  refine(finVal rfl rfl rfl).trans ?_;simp only[FL,FO]
theorem c28(v:VaD)(hv:v.valid=true)(hs:v.size<AV)(hc:v.cnt<=4000)(sto:AH)(AP:sto.lo<=sto.objs.length):CF (.fn 28) [.val v.enc] sto=some (.ret (.val (.int .i64 0)),sto):=by
 have NL:=aYr (O:=sto.objs) AP v 0 hv hs (by omega);have E8:Nat.ble sto.lo (sto.objs.length+1)=true:=Ah (by omega);simp only[jU,fR,Int.natCast_zero] at NL;rw[VaD.enc_eq v];exact G5
theorem c49(v:VaD)(hv:v.valid=true)(hs:v.size<AV)(hc:v.cnt<=4000)(sto:AH)(AP:sto.lo<=sto.objs.length):CF (.fn 49) [.val v.enc] sto=some (.ret (.val (.bool false)),sto):=by
 have RQ:=c28 v hv hs hc sto AP;rw[VaD.enc_eq v] at RQ ⊢;exact wk
theorem aF8(sto:AH)(AP:sto.lo<=sto.objs.length)(ys:List VaD):∀(pre:List VaD),(pre++ys).length<AV->(∀y∈ys,y.valid=true/\y.size<AV/\y.cnt<=4000) ->
  ∃s0 s1 s4 s5 s7 s8 s9 BH,LP 132 (aS Tryz.f132 0) ⟨[.val (.slice ((pre++ys).map VaD.enc)),.val (.func 49 []),.dead,.dead,.val (.int .i64 ((pre++ys).length:Nat)),.val (.int .i64 (pre.length:Nat)),.dead,.dead],sto⟩=some (.exit 0,⟨[s0,s1,s4,s5,s7,s8,s9,BH],sto⟩):=by
 induction ys with
 |nil =>
  intro pre h3 h2;have AL:=DL pre;simp only[Ao];iterate 8 apply Exists.intro
  refine tI rfl ?_;exact wk;all_goals exact .dead
 |cons y ys ih =>
  intro pre h3 h2;have AN:=dK VaD.enc pre ys y;have AL:=CY pre ys y;have h0:=zI pre.length;have hw:=wL pre ys y h3;obtain⟨v1,v2,v3⟩:=h2 y (by simp);have hc:=c49 y v1 v2 v3 sto AP;obtain⟨s0,s1,s4,s5,s7,s8,s9,BH,ih⟩:=ih (pre++[y]) (by simpa using h3) (λx hx=>h2 x (by simp[hx]));simp only[Aj,Am] at ih;rw[y.enc_eq] at AN hc;refine⟨s0,s1,s4,s5,s7,s8,s9,BH,?_⟩;refine tI rfl ?_;exact wk
theorem c48(l:List VaD)(hl:l.length<AV)(h:∀y∈l,y.valid=true/\y.size<AV/\y.cnt<=4000)(sto:AH)(AP:sto.lo<=sto.objs.length):CF (.fn 48) [.val (.slice (l.map VaD.enc)),.val (.func 49 [])] sto=some (.ret (.val (.bool false)),sto):=by
 have h112:CF (.fn 132) [.val (.slice (l.map VaD.enc)),.val (.func 49 [])] sto=some (.ret (.val (.int .i64 (-1))),sto):=by
  obtain⟨s0,s1,s4,s5,s7,s8,s9,BH,BJ⟩:=aF8 sto AP l [] (by simpa using hl) h;simp only[Ak,Ar] at BJ;apply tA;rfl;rfl;exact Tryz.func132;rfl;rfl;simp only[go_sem];rfl;refine tQ ?_;repeat first|with_reducible constructor|with_reducible refine tW rfl ?_|((with_reducible apply tG);(·kernel_rfl);(·(intro _ _;(repeat (apply BN;(·(intro _;simp only[Ay,go_sem];rfl))));rfl));(·(simp only[go_sem];rfl)))
  apply tL;exact BJ;exact wk
 exact wk
theorem TyD.enc_mk(n:List UInt8)(al:List TyD):(TyD.mk n al).enc=.agg [.str n,.slice (al.map TyD.enc)]:=by simp[TyD.enc,TyD.encs_eq]
def tyName:TyD->List UInt8|.mk n _=>n
def dV:TyD->List TyD|.mk _ l=>l
theorem dN(t:TyD):t.enc=.agg [.str (tyName t),.slice ((dV t).map TyD.enc)]:=by cases t;exact TyD.enc_mk _ _
def oF:List TyD->TyD->TyD
 |[],r=>r
 |a::l,r=>.mk [45,62] [a,oF l r]
def nO(t:TyD):List Cell:=[.val (.str (tyName t)),.val (.slice ((dV t).map TyD.enc))]
theorem aMl(r:TyD)(hr:(tyName r==[45,62])=false)(sto:AH)(ys:List TyD):∀(pre:List TyD),pre.length+ys.length+1<AV ->
  ∃s0 s1 s2 s6,LP 47 (aS Tryz.f47 0) ⟨[.dead,.box (nO (oF ys r)),.dead,.own 2 (pre.map TyD.enc),.dead],sto⟩=some (.exit 0,⟨[s0,s1,s2,.own 2 ((pre++ys).map TyD.enc),s6],sto⟩):=by
 induction ys with
 |nil =>
  intro pre h3;simp only[Ao,oF,nO];iterate 4 apply Exists.intro
  refine tI rfl ?_;exact wk;all_goals exact .dead
 |cons y ys ih =>
  intro pre h3;have hrm:Nat.ble (pre.length+1) room=true:=by apply Ah;simp only[room];simp only[An,AV] at h3;omega
  have emap:(pre++[y]).map TyD.enc=pre.map TyD.enc++[y.enc]:=by simp
  obtain⟨s0,s1,s2,s6,ih⟩:=ih (pre++[y]) (by simp only[Bm,An,Ar] at h3 ⊢;omega);rw[emap,dN y] at ih;simp only[Aj,Am] at ih
  have CN:nO (oF (y::ys) r)=[.val (.str [45,62]),.val (.slice [.agg [.str (tyName y),.slice ((dV y).map TyD.enc)],.agg [.str (tyName (oF ys r)),.slice ((dV (oF ys r)).map TyD.enc)]])]:=by
   rw[<-dN y,<-dN (oF ys r)];simp only[nO,oF,tyName,dV,Bb,Ax]
  rw[CN];simp only[nO] at ih;refine⟨s0,s1,s2,s6,?_⟩;refine tI rfl ?_;exact B9
theorem c47(l:List TyD)(r:TyD)(hr:(tyName r==[45,62])=false)(hl:l.length+1<AV)(sto:AH):CF (.fn 47) [.val (oF l r).enc] sto=some (.ret (.val (.slice (l.map TyD.enc))),sto):=by
 obtain⟨s0,s1,s2,s6,BJ⟩:=aMl r hr sto l [] (by simp only[Ar];omega);simp only[Ak,Ax,nO] at BJ;rw[dN (oF l r)];exact wk
theorem aMm(sto:AH)(ys:List TyD):∀(zs:List VaD)(pre:List TyD)(GH:List VaD),pre.length=GH.length->ys.length=zs.length->(pre++ys).length<AV ->
  (∀(i:Nat)(t:TyD)(v:VaD),ys[i]?=some t->zs[i]?=some v->CF (.fn 133) [.val t.enc,.val v.enc] sto=some (.ret (.val (.bool true)),sto)) ->
  ∃s0 s1 s4 s5 s6 s7 s8 s9 s10 I9,LP 50 (aS Tryz.f50 0) ⟨[.dead,.val (.slice ((GH++zs).map VaD.enc)),.dead,.dead,.dead,.val (.slice ((pre++ys).map TyD.enc)),.val (.int .i64 ((pre++ys).length:Nat)),.val (.int .i64 (pre.length:Nat)),.dead,.dead],sto⟩=some (.exit 0,⟨[s0,s1,s4,s5,s6,s7,s8,s9,s10,I9],sto⟩):=by
 induction ys with
 |nil =>
  intro zs pre GH HS ON h3 h2;have AL:=DL pre;simp only[Ao];clear HS ON h3 h2;iterate 10 apply Exists.intro
  refine tI rfl ?_;exact wk;all_goals exact .dead
 |cons y ys ih =>
  intro zs pre GH HS ON h3 h2;cases zs with
  |nil=>simp at ON
  |cons z zs =>
  have AN:=dK TyD.enc pre ys y;have C4:=dK VaD.enc GH zs z;rw[<-HS] at C4;have AL:=CY pre ys y;have h0:=zI pre.length;have hw:=wL pre ys y h3;have hc:=h2 0 y z rfl rfl;obtain⟨s0,s1,s4,s5,s6,s7,s8,s9,s10,I9,ih⟩:=ih zs (pre++[y]) (GH++[z]) (by simp[HS]) (by simpa using ON) (by simpa using h3) (λi t v h4 h5=>h2 (i+1) t v (by simpa using h4) (by simpa using h5));simp only[Aj,Am] at ih;rw[dN y] at AN hc;rw[z.enc_eq] at C4 hc;refine⟨s0,s1,s4,s5,s6,s7,s8,s9,s10,I9,?_⟩;refine tI rfl ?_;clear HS ON h3 h2;exact B9
theorem Xc(ts:List TyD)(vs:List VaD)(hl:ts.length=vs.length)(hb:ts.length<AV)(sto:AH)(h:∀(i:Nat)(t:TyD)(v:VaD),ts[i]?=some t->vs[i]?=some v->CF (.fn 133) [.val t.enc,.val v.enc] sto=some (.ret (.val (.bool true)),sto)) :
  CF (.fn 50) [.val (.slice (ts.map TyD.enc)),.val (.slice (vs.map VaD.enc))] sto=some (.ret (.val (.bool true)),sto):=by
 obtain⟨s0,s1,s4,s5,s6,s7,s8,s9,s10,I9,BJ⟩:=aMm sto ts vs [] [] rfl hl (by simpa using hb) h;simp only[Ak,Ar] at BJ;clear hl hb h;exact B9
theorem aYc(ts:List TyD)(v:VaD)(n:Nat)(hl:ts.length=v.args.length)(sto:AH)(ho:sto.objs[n]?=some (.box (fR v)))(h45:CF (.fn 50) [.val (.slice (ts.map TyD.enc)),.val (.slice (v.args.map VaD.enc))] sto=some (.ret (.val (.bool true)),sto)) :
  CF (.fn 196) [.val (.slice (ts.map TyD.enc)),.val (.loc n 0)] sto=some (.ret (.val (.bool true)),sto):=by
 have he:(((ts.length:Nat):Int)==((v.args.length:Nat):Int))=true:=by simp[hl]
 simp only[fR] at ho;exact B9
theorem DeD.enc_eq(d:DeD):d.enc=.agg [.int .i64 d.kind,.str d.dname,.slice (d.vars.map .str),.slice (d.cons.map CoD.enc),.str d.name,.str d.tname,.slice (d.targs.map TyD.enc),.slice (d.funs.map FuD.enc),.int .i64 d.body.kind,.int .i64 d.body.num,.str d.body.name,.str d.body.arg,.slice (d.body.args.map ExD.enc),.slice (d.body.pats.map PaD.enc)]:=rfl
theorem FuD.enc_eq(f:FuD):f.enc=.agg [.str f.name,.str f.arg,.int .i64 f.body.kind,.int .i64 f.body.num,.str f.body.name,.str f.body.arg,.slice (f.body.args.map ExD.enc),.slice (f.body.pats.map PaD.enc)]:=rfl
theorem CoD.enc_eq(c:CoD):c.enc=.agg [.str c.name,.slice (c.args.map TyD.enc)]:=rfl
theorem aGc(n:Nat)(sto:AH)(ys:List DeD):∀(pre:List DeD),(pre++ys).length<AV->(∀x∈ys,CF (.fn 121) [.val (DeD.enc x),.val (.loc n 0)] sto=some (.ret (.val (.bool false)),sto)) ->
  ∃s0 s1 s4 s5 s7 s8 s9 BH,LP 187 (aS Tryz.f187 0) ⟨[.val (.slice ((pre++ys).map DeD.enc)),.val (.func 121 [.loc n 0]),.dead,.dead,.val (.int .i64 ((pre++ys).length:Nat)),.val (.int .i64 (pre.length:Nat)),.dead,.dead],sto⟩=some (.exit 0,⟨[s0,s1,s4,s5,s7,s8,s9,BH],sto⟩):=by
 induction ys with
 |nil =>
  intro pre h3 h2;have AL:=DL pre;simp only[Ao];clear h2;iterate 8 apply Exists.intro
  refine tI rfl ?_;exact wk;all_goals exact .dead
 |cons y ys ih =>
  intro pre h3 h2;have AN:=dK DeD.enc pre ys y;have AL:=CY pre ys y;have h0:=zI pre.length;have hw:=wL pre ys y h3;have hc:=h2 y (by simp);obtain⟨s0,s1,s4,s5,s7,s8,s9,BH,ih⟩:=ih (pre++[y]) (by simpa using h3) (λx hx=>h2 x (by simp[hx]));simp only[Aj,Am] at ih;rw[y.enc_eq] at AN hc;refine⟨s0,s1,s4,s5,s7,s8,s9,BH,?_⟩;refine tI rfl ?_;clear h2;exact wk
theorem aXP(g:FuncId)(n:Nat)(sto:AH)(hn:sto.objs[n]?=some (.box [.val (.func g [])]))(x:DeD)(h:∀L,CF (.fn g) [.val (DeD.enc x)] ⟨sto.objs++L,sto.lo⟩=some (.ret (.val (.bool true)),⟨sto.objs++L,sto.lo⟩)):CF (.fn 121) [.val (DeD.enc x),.val (.loc n 0)] sto=some (.ret (.val (.bool false)),sto):=by
 have h:=h [];rw[Ao] at h;rw[x.enc_eq] at h ⊢;exact wk
theorem c44(g:FuncId)(l:List DeD)(hl:l.length<AV)(sto:AH)(AP:sto.lo<=sto.objs.length)(h:∀x∈l,∀S:AH,S.lo<=S.objs.length->CF (.fn g) [.val (DeD.enc x)] S=some (.ret (.val (.bool true)),S)) :
  CF (.fn 44) [.val (.slice (l.map DeD.enc)),.val (.func g [])] sto=some (.ret (.val (.bool true)),sto):=by
 have hc:=λx hx=>aXP g sto.objs.length ⟨sto.objs++[.box [.val (.func g [])]],sto.lo⟩ (by simp) x (λL=>h x hx _ (by simp;omega))
 obtain⟨s0,s1,s4,s5,s7,s8,s9,BH,BJ⟩:=aGc sto.objs.length ⟨sto.objs++[.box [.val (.func g [])]],sto.lo⟩ l [] (by simpa using hl) hc;simp only[Ak,Ar] at BJ;have e0:((0:Nat):Int)=0:=rfl;rw[e0] at BJ;clear h hc
 have UH:CF (.fn 187) [.val (.slice (l.map DeD.enc)),.val (.func 121 [.loc sto.objs.length 0])] ⟨sto.objs++[.box [.val (.func g [])]],sto.lo⟩=some (.ret (.val (.int .i64 (-1))),⟨sto.objs++[.box [.val (.func g [])]],sto.lo⟩):=by
  exact B9
 have hm:decide ((-1:Int)>=0)=false:=rfl;clear BJ
 have h120:CF (.fn 120) [.val (.slice (l.map DeD.enc)),.val (.func 121 [.loc sto.objs.length 0])] ⟨sto.objs++[.box [.val (.func g [])]],sto.lo⟩=some (.ret (.val (.bool false)),⟨sto.objs++[.box [.val (.func g [])]],sto.lo⟩):=by
  exact wk
 clear UH;exact G5
theorem aGi(n:Nat)(sto:AH)(ys:List FuD):∀(pre:List FuD),(pre++ys).length<AV->(∀x∈ys,CF (.fn 194) [.val (FuD.enc x),.val (.loc n 0)] sto=some (.ret (.val (.bool false)),sto)) ->
  ∃s0 s1 s4 s5 s7 s8 s9 BH,LP 243 (aS Tryz.f243 0) ⟨[.val (.slice ((pre++ys).map FuD.enc)),.val (.func 194 [.loc n 0]),.dead,.dead,.val (.int .i64 ((pre++ys).length:Nat)),.val (.int .i64 (pre.length:Nat)),.dead,.dead],sto⟩=some (.exit 0,⟨[s0,s1,s4,s5,s7,s8,s9,BH],sto⟩):=by
 induction ys with
 |nil =>
  intro pre h3 h2;have AL:=DL pre;simp only[Ao];clear h2;iterate 8 apply Exists.intro
  refine tI rfl ?_;exact wk;all_goals exact .dead
 |cons y ys ih =>
  intro pre h3 h2;have AN:=dK FuD.enc pre ys y;have AL:=CY pre ys y;have h0:=zI pre.length;have hw:=wL pre ys y h3;have hc:=h2 y (by simp);obtain⟨s0,s1,s4,s5,s7,s8,s9,BH,ih⟩:=ih (pre++[y]) (by simpa using h3) (λx hx=>h2 x (by simp[hx]));simp only[Aj,Am] at ih;rw[y.enc_eq] at AN hc;refine⟨s0,s1,s4,s5,s7,s8,s9,BH,?_⟩;refine tI rfl ?_;clear h2;exact wk
theorem aYb(g:FuncId)(n:Nat)(sto:AH)(hn:sto.objs[n]?=some (.box [.val (.func g [])]))(x:FuD)(h:∀L,CF (.fn g) [.val (FuD.enc x)] ⟨sto.objs++L,sto.lo⟩=some (.ret (.val (.bool true)),⟨sto.objs++L,sto.lo⟩)):CF (.fn 194) [.val (FuD.enc x),.val (.loc n 0)] sto=some (.ret (.val (.bool false)),sto):=by
 have h:=h [];rw[Ao] at h;rw[x.enc_eq] at h ⊢;exact wk
theorem aXS(g:FuncId)(l:List FuD)(hl:l.length<AV)(sto:AH)(AP:sto.lo<=sto.objs.length)(h:∀x∈l,∀S:AH,S.lo<=S.objs.length->CF (.fn g) [.val (FuD.enc x)] S=some (.ret (.val (.bool true)),S)) :
  CF (.fn 128) [.val (.slice (l.map FuD.enc)),.val (.func g [])] sto=some (.ret (.val (.bool true)),sto):=by
 have hc:=λx hx=>aYb g sto.objs.length ⟨sto.objs++[.box [.val (.func g [])]],sto.lo⟩ (by simp) x (λL=>h x hx _ (by simp;omega))
 obtain⟨s0,s1,s4,s5,s7,s8,s9,BH,BJ⟩:=aGi sto.objs.length ⟨sto.objs++[.box [.val (.func g [])]],sto.lo⟩ l [] (by simpa using hl) hc;simp only[Ak,Ar] at BJ;have e0:((0:Nat):Int)=0:=rfl;rw[e0] at BJ;clear h hc
 have UE:CF (.fn 243) [.val (.slice (l.map FuD.enc)),.val (.func 194 [.loc sto.objs.length 0])] ⟨sto.objs++[.box [.val (.func g [])]],sto.lo⟩=some (.ret (.val (.int .i64 (-1))),⟨sto.objs++[.box [.val (.func g [])]],sto.lo⟩):=by
  exact B9
 have hm:decide ((-1:Int)>=0)=false:=rfl;clear BJ
 have h193:CF (.fn 193) [.val (.slice (l.map FuD.enc)),.val (.func 194 [.loc sto.objs.length 0])] ⟨sto.objs++[.box [.val (.func g [])]],sto.lo⟩=some (.ret (.val (.bool false)),⟨sto.objs++[.box [.val (.func g [])]],sto.lo⟩):=by
  exact wk
 clear UE;exact G5
theorem aGd(n:Nat)(sto:AH)(ys:List TyD):∀(pre:List TyD),(pre++ys).length<AV->(∀x∈ys,CF (.fn 237) [.val (TyD.enc x),.val (.loc n 0)] sto=some (.ret (.val (.bool false)),sto)) ->
  ∃s0 s1 s4 s5 s7 s8 s9 BH,LP 195 (aS Tryz.f195 0) ⟨[.val (.slice ((pre++ys).map TyD.enc)),.val (.func 237 [.loc n 0]),.dead,.dead,.val (.int .i64 ((pre++ys).length:Nat)),.val (.int .i64 (pre.length:Nat)),.dead,.dead],sto⟩=some (.exit 0,⟨[s0,s1,s4,s5,s7,s8,s9,BH],sto⟩):=by
 induction ys with
 |nil =>
  intro pre h3 h2;have AL:=DL pre;simp only[Ao];clear h2;iterate 8 apply Exists.intro
  refine tI rfl ?_;exact wk;all_goals exact .dead
 |cons y ys ih =>
  intro pre h3 h2;have AN:=dK TyD.enc pre ys y;have AL:=CY pre ys y;have h0:=zI pre.length;have hw:=wL pre ys y h3;have hc:=h2 y (by simp);obtain⟨s0,s1,s4,s5,s7,s8,s9,BH,ih⟩:=ih (pre++[y]) (by simpa using h3) (λx hx=>h2 x (by simp[hx]));simp only[Aj,Am] at ih;rw[dN y] at AN hc;refine⟨s0,s1,s4,s5,s7,s8,s9,BH,?_⟩;refine tI rfl ?_;clear h2;exact wk
theorem aYk(g:FuncId)(n:Nat)(sto:AH)(hn:sto.objs[n]?=some (.box [.val (.func g [])]))(x:TyD)(h:∀L,CF (.fn g) [.val (TyD.enc x)] ⟨sto.objs++L,sto.lo⟩=some (.ret (.val (.bool true)),⟨sto.objs++L,sto.lo⟩)):CF (.fn 237) [.val (TyD.enc x),.val (.loc n 0)] sto=some (.ret (.val (.bool false)),sto):=by
 have h:=h [];rw[Ao] at h;rw[dN x] at h ⊢;exact wk
theorem VA(g:FuncId)(l:List TyD)(hl:l.length<AV)(sto:AH)(AP:sto.lo<=sto.objs.length)(h:∀x∈l,∀S:AH,S.lo<=S.objs.length->CF (.fn g) [.val (TyD.enc x)] S=some (.ret (.val (.bool true)),S)) :
  CF (.fn 189) [.val (.slice (l.map TyD.enc)),.val (.func g [])] sto=some (.ret (.val (.bool true)),sto):=by
 have hc:=λx hx=>aYk g sto.objs.length ⟨sto.objs++[.box [.val (.func g [])]],sto.lo⟩ (by simp) x (λL=>h x hx _ (by simp;omega))
 obtain⟨s0,s1,s4,s5,s7,s8,s9,BH,BJ⟩:=aGd sto.objs.length ⟨sto.objs++[.box [.val (.func g [])]],sto.lo⟩ l [] (by simpa using hl) hc;simp only[Ak,Ar] at BJ;have e0:((0:Nat):Int)=0:=rfl;rw[e0] at BJ;clear h hc
 have UG:CF (.fn 195) [.val (.slice (l.map TyD.enc)),.val (.func 237 [.loc sto.objs.length 0])] ⟨sto.objs++[.box [.val (.func g [])]],sto.lo⟩=some (.ret (.val (.int .i64 (-1))),⟨sto.objs++[.box [.val (.func g [])]],sto.lo⟩):=by
  exact B9
 have hm:decide ((-1:Int)>=0)=false:=rfl;clear BJ
 have h130:CF (.fn 130) [.val (.slice (l.map TyD.enc)),.val (.func 237 [.loc sto.objs.length 0])] ⟨sto.objs++[.box [.val (.func g [])]],sto.lo⟩=some (.ret (.val (.bool false)),⟨sto.objs++[.box [.val (.func g [])]],sto.lo⟩):=by
  exact wk
 clear UG;exact G5
theorem aGj(n:Nat)(sto:AH)(ys:List ExD):∀(pre:List ExD),(pre++ys).length<AV->(∀x∈ys,CF (.fn 232) [.val (ExD.enc x),.val (.loc n 0)] sto=some (.ret (.val (.bool false)),sto)) ->
  ∃s0 s1 s4 s5 s7 s8 s9 BH,LP 261 (aS Tryz.f261 0) ⟨[.val (.slice ((pre++ys).map ExD.enc)),.val (.func 232 [.loc n 0]),.dead,.dead,.val (.int .i64 ((pre++ys).length:Nat)),.val (.int .i64 (pre.length:Nat)),.dead,.dead],sto⟩=some (.exit 0,⟨[s0,s1,s4,s5,s7,s8,s9,BH],sto⟩):=by
 induction ys with
 |nil =>
  intro pre h3 h2;have AL:=DL pre;simp only[Ao];clear h2;iterate 8 apply Exists.intro
  refine tI rfl ?_;exact wk;all_goals exact .dead
 |cons y ys ih =>
  intro pre h3 h2;have AN:=dK ExD.enc pre ys y;have AL:=CY pre ys y;have h0:=zI pre.length;have hw:=wL pre ys y h3;have hc:=h2 y (by simp);obtain⟨s0,s1,s4,s5,s7,s8,s9,BH,ih⟩:=ih (pre++[y]) (by simpa using h3) (λx hx=>h2 x (by simp[hx]));simp only[Aj,Am] at ih;rw[y.enc_eq] at AN hc;refine⟨s0,s1,s4,s5,s7,s8,s9,BH,?_⟩;refine tI rfl ?_;clear h2;exact wk
theorem aYg(g:FuncId)(n:Nat)(sto:AH)(hn:sto.objs[n]?=some (.box [.val (.func g [])]))(x:ExD)(h:∀L,CF (.fn g) [.val (ExD.enc x)] ⟨sto.objs++L,sto.lo⟩=some (.ret (.val (.bool true)),⟨sto.objs++L,sto.lo⟩)):CF (.fn 232) [.val (ExD.enc x),.val (.loc n 0)] sto=some (.ret (.val (.bool false)),sto):=by
 have h:=h [];rw[Ao] at h;rw[x.enc_eq] at h ⊢;exact wk
theorem ns(g:FuncId)(l:List ExD)(hl:l.length<AV)(sto:AH)(AP:sto.lo<=sto.objs.length)(h:∀x∈l,∀S:AH,S.lo<=S.objs.length->CF (.fn g) [.val (ExD.enc x)] S=some (.ret (.val (.bool true)),S)) :
  CF (.fn 180) [.val (.slice (l.map ExD.enc)),.val (.func g [])] sto=some (.ret (.val (.bool true)),sto):=by
 have hc:=λx hx=>aYg g sto.objs.length ⟨sto.objs++[.box [.val (.func g [])]],sto.lo⟩ (by simp) x (λL=>h x hx _ (by simp;omega))
 obtain⟨s0,s1,s4,s5,s7,s8,s9,BH,BJ⟩:=aGj sto.objs.length ⟨sto.objs++[.box [.val (.func g [])]],sto.lo⟩ l [] (by simpa using hl) hc;simp only[Ak,Ar] at BJ;have e0:((0:Nat):Int)=0:=rfl;rw[e0] at BJ;clear h hc
 have UD:CF (.fn 261) [.val (.slice (l.map ExD.enc)),.val (.func 232 [.loc sto.objs.length 0])] ⟨sto.objs++[.box [.val (.func g [])]],sto.lo⟩=some (.ret (.val (.int .i64 (-1))),⟨sto.objs++[.box [.val (.func g [])]],sto.lo⟩):=by
  exact B9
 have hm:decide ((-1:Int)>=0)=false:=rfl;clear BJ
 have h231:CF (.fn 231) [.val (.slice (l.map ExD.enc)),.val (.func 232 [.loc sto.objs.length 0])] ⟨sto.objs++[.box [.val (.func g [])]],sto.lo⟩=some (.ret (.val (.bool false)),⟨sto.objs++[.box [.val (.func g [])]],sto.lo⟩):=by
  exact wk
 clear UD;exact G5
theorem aGk(n:Nat)(sto:AH)(ys:List PaD):∀(pre:List PaD),(pre++ys).length<AV->(∀x∈ys,CF (.fn 234) [.val (PaD.enc x),.val (.loc n 0)] sto=some (.ret (.val (.bool false)),sto)) ->
  ∃s0 s1 s4 s5 s7 s8 s9 BH,LP 262 (aS Tryz.f262 0) ⟨[.val (.slice ((pre++ys).map PaD.enc)),.val (.func 234 [.loc n 0]),.dead,.dead,.val (.int .i64 ((pre++ys).length:Nat)),.val (.int .i64 (pre.length:Nat)),.dead,.dead],sto⟩=some (.exit 0,⟨[s0,s1,s4,s5,s7,s8,s9,BH],sto⟩):=by
 induction ys with
 |nil =>
  intro pre h3 h2;have AL:=DL pre;simp only[Ao];clear h2;iterate 8 apply Exists.intro
  refine tI rfl ?_;exact wk;all_goals exact .dead
 |cons y ys ih =>
  intro pre h3 h2;have AN:=dK PaD.enc pre ys y;have AL:=CY pre ys y;have h0:=zI pre.length;have hw:=wL pre ys y h3;have hc:=h2 y (by simp);obtain⟨s0,s1,s4,s5,s7,s8,s9,BH,ih⟩:=ih (pre++[y]) (by simpa using h3) (λx hx=>h2 x (by simp[hx]));simp only[Aj,Am] at ih;rw[y.enc_eq] at AN hc;refine⟨s0,s1,s4,s5,s7,s8,s9,BH,?_⟩;refine tI rfl ?_;clear h2;exact wk
theorem aYh(g:FuncId)(n:Nat)(sto:AH)(hn:sto.objs[n]?=some (.box [.val (.func g [])]))(x:PaD)(h:∀L,CF (.fn g) [.val (PaD.enc x)] ⟨sto.objs++L,sto.lo⟩=some (.ret (.val (.bool true)),⟨sto.objs++L,sto.lo⟩)):CF (.fn 234) [.val (PaD.enc x),.val (.loc n 0)] sto=some (.ret (.val (.bool false)),sto):=by
 have h:=h [];rw[Ao] at h;rw[x.enc_eq] at h ⊢;exact wk
theorem QG(g:FuncId)(l:List PaD)(hl:l.length<AV)(sto:AH)(AP:sto.lo<=sto.objs.length)(h:∀x∈l,∀S:AH,S.lo<=S.objs.length->CF (.fn g) [.val (PaD.enc x)] S=some (.ret (.val (.bool true)),S)) :
  CF (.fn 181) [.val (.slice (l.map PaD.enc)),.val (.func g [])] sto=some (.ret (.val (.bool true)),sto):=by
 have hc:=λx hx=>aYh g sto.objs.length ⟨sto.objs++[.box [.val (.func g [])]],sto.lo⟩ (by simp) x (λL=>h x hx _ (by simp;omega))
 obtain⟨s0,s1,s4,s5,s7,s8,s9,BH,BJ⟩:=aGk sto.objs.length ⟨sto.objs++[.box [.val (.func g [])]],sto.lo⟩ l [] (by simpa using hl) hc;simp only[Ak,Ar] at BJ;have e0:((0:Nat):Int)=0:=rfl;rw[e0] at BJ;clear h hc
 have UC:CF (.fn 262) [.val (.slice (l.map PaD.enc)),.val (.func 234 [.loc sto.objs.length 0])] ⟨sto.objs++[.box [.val (.func g [])]],sto.lo⟩=some (.ret (.val (.int .i64 (-1))),⟨sto.objs++[.box [.val (.func g [])]],sto.lo⟩):=by
  exact B9
 have hm:decide ((-1:Int)>=0)=false:=rfl;clear BJ
 have h233:CF (.fn 233) [.val (.slice (l.map PaD.enc)),.val (.func 234 [.loc sto.objs.length 0])] ⟨sto.objs++[.box [.val (.func g [])]],sto.lo⟩=some (.ret (.val (.bool false)),⟨sto.objs++[.box [.val (.func g [])]],sto.lo⟩):=by
  exact wk
 clear UC;exact G5
theorem aGl(n:Nat)(sto:AH)(ys:List (List UInt8)):∀(pre:List (List UInt8)),(pre++ys).length<AV->(∀x∈ys,CF (.fn 239) [.val (AVal.str x),.val (.loc n 0)] sto=some (.ret (.val (.bool false)),sto)) ->
  ∃s0 s1 s4 s5 s7 s8 s9 BH,LP 263 (aS Tryz.f263 0) ⟨[.val (.slice ((pre++ys).map AVal.str)),.val (.func 239 [.loc n 0]),.dead,.dead,.val (.int .i64 ((pre++ys).length:Nat)),.val (.int .i64 (pre.length:Nat)),.dead,.dead],sto⟩=some (.exit 0,⟨[s0,s1,s4,s5,s7,s8,s9,BH],sto⟩):=by
 induction ys with
 |nil =>
  intro pre h3 h2;have AL:=DL pre;simp only[Ao];clear h2;iterate 8 apply Exists.intro
  refine tI rfl ?_;exact wk;all_goals exact .dead
 |cons y ys ih =>
  intro pre h3 h2;have AN:=dK AVal.str pre ys y;have AL:=CY pre ys y;have h0:=zI pre.length;have hw:=wL pre ys y h3;have hc:=h2 y (by simp);obtain⟨s0,s1,s4,s5,s7,s8,s9,BH,ih⟩:=ih (pre++[y]) (by simpa using h3) (λx hx=>h2 x (by simp[hx]));simp only[Aj,Am] at ih;refine⟨s0,s1,s4,s5,s7,s8,s9,BH,?_⟩;refine tI rfl ?_;clear h2;exact wk
theorem aYl(g:FuncId)(n:Nat)(sto:AH)(hn:sto.objs[n]?=some (.box [.val (.func g [])]))(x:(List UInt8))(h:∀L,CF (.fn g) [.val (AVal.str x)] ⟨sto.objs++L,sto.lo⟩=some (.ret (.val (.bool true)),⟨sto.objs++L,sto.lo⟩)):CF (.fn 239) [.val (AVal.str x),.val (.loc n 0)] sto=some (.ret (.val (.bool false)),sto):=by
 have h:=h [];rw[Ao] at h;exact wk
theorem aX9(g:FuncId)(l:List (List UInt8))(hl:l.length<AV)(sto:AH)(AP:sto.lo<=sto.objs.length)(h:∀x∈l,∀S:AH,S.lo<=S.objs.length->CF (.fn g) [.val (AVal.str x)] S=some (.ret (.val (.bool true)),S)) :
  CF (.fn 190) [.val (.slice (l.map AVal.str)),.val (.func g [])] sto=some (.ret (.val (.bool true)),sto):=by
 have hc:=λx hx=>aYl g sto.objs.length ⟨sto.objs++[.box [.val (.func g [])]],sto.lo⟩ (by simp) x (λL=>h x hx _ (by simp;omega))
 obtain⟨s0,s1,s4,s5,s7,s8,s9,BH,BJ⟩:=aGl sto.objs.length ⟨sto.objs++[.box [.val (.func g [])]],sto.lo⟩ l [] (by simpa using hl) hc;simp only[Ak,Ar] at BJ;have e0:((0:Nat):Int)=0:=rfl;rw[e0] at BJ;clear h hc
 have UB:CF (.fn 263) [.val (.slice (l.map AVal.str)),.val (.func 239 [.loc sto.objs.length 0])] ⟨sto.objs++[.box [.val (.func g [])]],sto.lo⟩=some (.ret (.val (.int .i64 (-1))),⟨sto.objs++[.box [.val (.func g [])]],sto.lo⟩):=by
  exact B9
 have hm:decide ((-1:Int)>=0)=false:=rfl;clear BJ
 have h238:CF (.fn 238) [.val (.slice (l.map AVal.str)),.val (.func 239 [.loc sto.objs.length 0])] ⟨sto.objs++[.box [.val (.func g [])]],sto.lo⟩=some (.ret (.val (.bool false)),⟨sto.objs++[.box [.val (.func g [])]],sto.lo⟩):=by
  exact wk
 clear UB;exact G5
theorem aGe(n:Nat)(sto:AH)(ys:List CoD):∀(pre:List CoD),(pre++ys).length<AV->(∀x∈ys,CF (.fn 241) [.val (CoD.enc x),.val (.loc n 0)] sto=some (.ret (.val (.bool false)),sto)) ->
  ∃s0 s1 s4 s5 s7 s8 s9 BH,LP 214 (aS Tryz.f214 0) ⟨[.val (.slice ((pre++ys).map CoD.enc)),.val (.func 241 [.loc n 0]),.dead,.dead,.val (.int .i64 ((pre++ys).length:Nat)),.val (.int .i64 (pre.length:Nat)),.dead,.dead],sto⟩=some (.exit 0,⟨[s0,s1,s4,s5,s7,s8,s9,BH],sto⟩):=by
 induction ys with
 |nil =>
  intro pre h3 h2;have AL:=DL pre;simp only[Ao];clear h2;iterate 8 apply Exists.intro
  refine tI rfl ?_;exact wk;all_goals exact .dead
 |cons y ys ih =>
  intro pre h3 h2;have AN:=dK CoD.enc pre ys y;have AL:=CY pre ys y;have h0:=zI pre.length;have hw:=wL pre ys y h3;have hc:=h2 y (by simp);obtain⟨s0,s1,s4,s5,s7,s8,s9,BH,ih⟩:=ih (pre++[y]) (by simpa using h3) (λx hx=>h2 x (by simp[hx]));simp only[Aj,Am] at ih;rw[y.enc_eq] at AN hc;refine⟨s0,s1,s4,s5,s7,s8,s9,BH,?_⟩;refine tI rfl ?_;clear h2;exact wk
theorem aYm(g:FuncId)(n:Nat)(sto:AH)(hn:sto.objs[n]?=some (.box [.val (.func g [])]))(x:CoD)(h:∀L,CF (.fn g) [.val (CoD.enc x)] ⟨sto.objs++L,sto.lo⟩=some (.ret (.val (.bool true)),⟨sto.objs++L,sto.lo⟩)):CF (.fn 241) [.val (CoD.enc x),.val (.loc n 0)] sto=some (.ret (.val (.bool false)),sto):=by
 have h:=h [];rw[Ao] at h;rw[x.enc_eq] at h ⊢;exact wk
theorem aYa(g:FuncId)(l:List CoD)(hl:l.length<AV)(sto:AH)(AP:sto.lo<=sto.objs.length)(h:∀x∈l,∀S:AH,S.lo<=S.objs.length->CF (.fn g) [.val (CoD.enc x)] S=some (.ret (.val (.bool true)),S)) :
  CF (.fn 191) [.val (.slice (l.map CoD.enc)),.val (.func g [])] sto=some (.ret (.val (.bool true)),sto):=by
 have hc:=λx hx=>aYm g sto.objs.length ⟨sto.objs++[.box [.val (.func g [])]],sto.lo⟩ (by simp) x (λL=>h x hx _ (by simp;omega))
 obtain⟨s0,s1,s4,s5,s7,s8,s9,BH,BJ⟩:=aGe sto.objs.length ⟨sto.objs++[.box [.val (.func g [])]],sto.lo⟩ l [] (by simpa using hl) hc;simp only[Ak,Ar] at BJ;have e0:((0:Nat):Int)=0:=rfl;rw[e0] at BJ;clear h hc
 have UF:CF (.fn 214) [.val (.slice (l.map CoD.enc)),.val (.func 241 [.loc sto.objs.length 0])] ⟨sto.objs++[.box [.val (.func g [])]],sto.lo⟩=some (.ret (.val (.int .i64 (-1))),⟨sto.objs++[.box [.val (.func g [])]],sto.lo⟩):=by
  exact B9
 have hm:decide ((-1:Int)>=0)=false:=rfl;clear BJ
 have h240:CF (.fn 240) [.val (.slice (l.map CoD.enc)),.val (.func 241 [.loc sto.objs.length 0])] ⟨sto.objs++[.box [.val (.func g [])]],sto.lo⟩=some (.ret (.val (.bool false)),⟨sto.objs++[.box [.val (.func g [])]],sto.lo⟩):=by
  exact wk
 clear UF;exact G5
end Go.Proofs.YtoiocfngjchdiaaGreatDoor
