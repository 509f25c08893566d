import Derived.Test.YtdkkaldimefljaaGreatDoorT00
set_option linter.all false
section
namespace Go.Proofs.YtdkkaldimefljaaGreatDoor
open Go.AM
attribute [go_sem] nC iK oD aB dD gB nM gF mvK mv asV kP AM.asInt AM.asBool dH oW jO lF aU bV dI eL jN e8 bQ opS RS.look RS.put RS.putO bZ tlook commit k6 gJ l8 gH iY dT noRefTo aJ iQ iM dR isNilIface cQ Nat.beq Nat.ble Nat.blt cond_true cond_false Bool.and_true Bool.true_and Bool.and_self Bool.not_true Bool.not_false Bool.or_true Bool.or_false Bool.false_or Bool.true_or Bool.and_false Bool.false_and List.all_nil List.all_cons List.contains List.elem Option.bind_some Option.map_some Option.getD_some aK0 aLE aJ7 aM1 aHn aI7 aJu aJr aJD aN6 aLN aNN List.take_succ_cons List.take_zero List.drop_zero List.drop_succ_cons Nat.zero_add Cell.get Cell.lok AM.lok lokF wJ partOf List.map_nil List.map_cons List.length_cons List.length_nil List.getElem?_cons_zero List.getElem?_cons_succ List.nil_append List.cons_append List.append_nil List.getElem?_toArray List.toList_toArray Option.bind_none Option.map_none aIS aJd aJG aGF aI1 setCells List.take_append_drop List.drop_nil List.take_nil aLM aKk aKx aOp sz0 ag0 by0 Tryz.underlying0 sz3 ag3 zo3 zc3 by3 Tryz.underlying3 sz4 ag4 zo4 zc4 by4 Tryz.underlying4 sz9 ag9 zo9 zc9 by9 Tryz.underlying9 aKL aMt aNT aLS aMH aKv Tryz.underlying25 aKY aK9 aMl aOA aLX Tryz.underlying27 aNS aHb aHQ aHK an8 aOL aKW aMK aNj aKa aL2 aNJ aKX aMJ aNs Tryz.underlying87 aOF aNa aLQ aLt aNo Tryz.underlying86 aIn aJ3 aIj aI3 aJa Tryz.underlying154 aIu aIy aIl aOg aJj aJ9 aLY aLT aNP aNU aOJ aM6 Tryz.underlying22 aJo aIA aIK aIV aJp Tryz.underlying161 aIN aJF aJC aJs aI2 Tryz.underlying160 aLu aN0 aMS aMP aLv Tryz.underlying95 aI4 aN5 aNx aME aNu aNn aLd aJg aKQ aMd aN8 aOQ aMo Tryz.underlying97 aNC aMD aKP aNi an7 an9 aOk aL4 aMk aOq aMh aJO aJ1 aLs aOx aOs aNI aLo Tryz.underlying42 aLU aLD aNX aNc aK1 Tryz.underlying90 aL0 aMR aL3 aNF aKo Tryz.underlying91 aN9 aMb aId aNg aL8 aLn aN2 aLz aKJ Tryz.underlying56 aNd aKE aKp aMv aOB Tryz.underlying58 aKr aGS aGH aKb aIp aJX aKf aJn aIJ Tryz.underlying225 aLf aNh aLa aKs aKF Tryz.underlying43 aOj aL1 aLl Tryz.underlying82 an3 nB
attribute [go_sem_proc] Nat.reduceAdd reduceIte
variable [Aps]
set_option maxRecDepth 100000
set_option maxHeartbeats 4000000
theorem c38 (s:List UInt8) (l:List VaD) (sto:Sto):CF (.fn 38) [.val (.str s),.val (.slice (l.map VaD.enc))] sto=some (.ret (.val (VaD.mk s 0 l).enc),sto):=by
 rw[VaD.enc_mk];apply tA;rfl;rfl;exact Tryz.func38;rfl;rfl;simp only[go_sem];rfl;refine tQ ?_;repeat first|with_reducible constructor|with_reducible refine tW rfl ?_|((with_reducible apply tG);(·kernel_rfl);(·(intro _ _;(repeat (apply tOp;(·(intro _;simp only[go_sem];rfl))));rfl));(·(simp only[go_sem];rfl)))
 exact dC rfl
def b9 (n:Int):VaD:=.mk [] n []
def eB (b:Bool):VaD:=.mk (bif b then [84,114,117,101] else [70,97,108,115,101]) 0 []
theorem c54 (n:Int) (sto:Sto):CF (.fn 54) [.val (.int .i64 n)] sto=some (.ret (.val (b9 n).enc),sto):=by
 simp only[b9,VaD.enc_mk,List.map_nil];apply tA;rfl;rfl;exact Tryz.func54;rfl;rfl;simp only[go_sem];rfl;refine tQ ?_;repeat first|with_reducible constructor|with_reducible refine tW rfl ?_|((with_reducible apply tG);(·kernel_rfl);(·(intro _ _;(repeat (apply tOp;(·(intro _;simp only[go_sem];rfl))));rfl));(·(simp only[go_sem];rfl)))
 exact dC rfl
theorem c50 (b:Bool) (sto:Sto):CF (.fn 50) [.val (.bool b)] sto=some (.ret (.val (eB b).enc),sto):=by
 cases b with
 |true =>
  simp only[eB,VaD.enc_mk,List.map_nil,cond_true];apply tA;rfl;rfl;exact Tryz.func50;rfl;rfl;simp only[go_sem];rfl;refine tQ ?_;repeat first|with_reducible constructor|with_reducible refine tW rfl ?_|((with_reducible apply tG);(·kernel_rfl);(·(intro _ _;(repeat (apply tOp;(·(intro _;simp only[go_sem];rfl))));rfl));(·(simp only[go_sem];rfl)))
  (with_reducible apply tT);simp only[go_sem];rfl;rfl;refine tQ ?_;repeat first|with_reducible constructor|with_reducible refine tW rfl ?_|((with_reducible apply tG);(·kernel_rfl);(·(intro _ _;(repeat (apply tOp;(·(intro _;simp only[go_sem];rfl))));rfl));(·(simp only[go_sem];rfl)))
  exact dC rfl
 |false =>
  simp only[eB,VaD.enc_mk,List.map_nil,cond_false];apply tA;rfl;rfl;exact Tryz.func50;rfl;rfl;simp only[go_sem];rfl;refine tQ ?_;repeat first|with_reducible constructor|with_reducible refine tW rfl ?_|((with_reducible apply tG);(·kernel_rfl);(·(intro _ _;(repeat (apply tOp;(·(intro _;simp only[go_sem];rfl))));rfl));(·(simp only[go_sem];rfl)))
  (with_reducible apply tF);simp only[go_sem];rfl;rfl;refine tQ ?_;repeat first|with_reducible constructor|with_reducible refine tW rfl ?_|((with_reducible apply tG);(·kernel_rfl);(·(intro _ _;(repeat (apply tOp;(·(intro _;simp only[go_sem];rfl))));rfl));(·(simp only[go_sem];rfl)))
  exact dC rfl
mutual
def VaD.alike:VaD→VaD→Bool
 |.mk c n al,.mk d m bl=>(c==d)&&(n==m)&&VaD.alikes al bl
def VaD.alikes:List VaD→List VaD→Bool
 |[],[]=>true
 |a::al,b::bl=>a.alike b&&VaD.alikes al bl
 |[],_::_=>false
 |_::_,[]=>false
end
theorem VaD.alike_eq (v w:VaD):v.alike w=((v.con==w.con)&&(v.num==w.num)&&VaD.alikes v.args w.args):=by
 cases v;cases w;simp only[VaD.alike,VaD.con,VaD.num,VaD.args]
theorem VaD.alikes_len:∀ {al bl:List VaD},VaD.alikes al bl=true→al.length=bl.length
 |[],[],_=>rfl
 |[],_::_,h=>by simp [VaD.alikes] at h
 |_::_,[],h=>by simp [VaD.alikes] at h
 |a::al,b::bl,h=>by
  simp only[VaD.alikes,Bool.and_eq_true] at h;simp [VaD.alikes_len h.2]
theorem VaD.alike_iff:∀ v w:VaD,v.alike w=true↔v=w:=by
 intro v;induction v using VaD.ind with
 |h v ih =>
  intro w
  have key:∀ al bl:List VaD,(∀ a∈al,∀ w,a.alike w=true↔a=w)→(VaD.alikes al bl=true↔al=bl):=by
   intro al;induction al with
   |nil=>intro bl _;cases bl <;> simp [VaD.alikes]
   |cons a al ih2 =>
    intro bl h;cases bl with
    |nil=>simp [VaD.alikes]
    |cons b bl=>simp only[VaD.alikes,Bool.and_eq_true,List.cons.injEq,h a (by simp),ih2 bl (fun x hx=>h x (by simp [hx]))]
  rw[VaD.alike_eq];simp only[Bool.and_eq_true,beq_iff_eq,key v.args w.args ih];cases v;cases w;simp only[VaD.con,VaD.num,VaD.args,VaD.mk.injEq,and_assoc]
theorem aC9 (s s':List UInt8) (n n':Int) (sto:Sto) (ys:List VaD):∀ (zs pre qre:List VaD),pre.length=qre.length→(pre++ys).length < big→VaD.alikes ys zs=true→(∀ y∈ys,∀ z∈zs,CF (.fn 12) [.val y.enc,.val z.enc] sto=some (.ret (.val (.bool (y.alike z))),sto)) →
  ∃ s0 s1 s2 s3 s4 s5 s26 s31 s45,LP 12 (dQ Tryz.f12 0) ⟨[.dead,.dead,.box [.val (.str s),.val (.int .i64 n),.val (.slice ((pre++ys).map VaD.enc))],.box [.val (.str s'),.val (.int .i64 n'),.val (.slice ((qre++zs).map VaD.enc))],.dead,.val (.int .i64 (pre.length:Nat)),.dead,.dead,.dead],sto⟩=some (.exit 0,⟨[s0,s1,s2,s3,s4,s5,s26,s31,s45],sto⟩):=by
 induction ys with
 |nil =>
  intro zs pre qre hpq h3 hal h2;have hlt:=geI pre;simp only[List.append_nil];(iterate 9 apply Exists.intro);refine tI rfl ?_;refine tQ ?_;repeat first|with_reducible constructor|with_reducible refine tW rfl ?_|((with_reducible apply tG);(·kernel_rfl);(·(intro _ _;(repeat (apply tOp;(·(intro _;simp only[List.length_map,go_sem];rfl))));rfl));(·(simp only[go_sem];rfl)))
  (with_reducible apply tF);simp only[go_sem];rfl;exact hlt;refine tQ ?_;repeat first|with_reducible constructor|with_reducible refine tW rfl ?_
  exact tlX;all_goals exact .dead
 |cons y ys ih =>
  intro zs pre qre hpq h3 hal h2;cases zs with
  |nil=>simp [VaD.alikes] at hal
  |cons z zs =>
  simp only[VaD.alikes,Bool.and_eq_true] at hal;have hget:=oH VaD.enc pre ys y;have hget2:=oH VaD.enc qre zs z;rw[←hpq] at hget2;have hlt:=ltI pre ys y;have h0:=zI pre.length;have hw:=wL pre ys y h3;have hc:=h2 y (by simp) z (by simp);rw[hal.1] at hc;rw[y.enc_eq] at hget hc;rw[z.enc_eq] at hget2 hc;obtain ⟨s0,s1,s2,s3,s4,s5,s26,s31,s45,ih⟩:=ih zs (pre++[y]) (qre++[z]) (by simp [hpq]) (by simpa using h3) hal.2 (fun x hx x2 hx2=>h2 x (by simp [hx]) x2 (by simp [hx2]));simp only[List.append_assoc,List.singleton_append] at ih;refine ⟨s0,s1,s2,s3,s4,s5,s26,s31,s45,?_⟩;refine tI rfl ?_;refine tQ ?_;repeat first|with_reducible constructor|with_reducible refine tW rfl ?_|((with_reducible apply tG);(·kernel_rfl);(·(intro _ _;(repeat (apply tOp;(·(intro _;simp only[List.length_map,go_sem];rfl))));rfl));(·(simp only[go_sem];rfl)))
  (with_reducible apply tT);simp only[go_sem];rfl;exact hlt;refine tQ ?_;repeat first|with_reducible constructor|with_reducible refine tW rfl ?_|((with_reducible apply tG);(·kernel_rfl);(·(intro _ _;(repeat (apply tOp;(·(intro _;simp only[hget,hget2,h0,hc,List.length_map,go_sem];rfl))));rfl));(·(simp only[go_sem];rfl)))
  (with_reducible apply tF);simp only[go_sem];rfl;rfl;refine tQ ?_;repeat first|with_reducible constructor|with_reducible refine tW rfl ?_|((with_reducible apply tG);(·kernel_rfl);(·(intro _ _;(repeat (apply tOp;(·(intro _;simp only[hw,go_sem];rfl))));rfl));(·(simp only[go_sem];rfl)))
  exact ih
theorem aEG (s s':List UInt8) (n n':Int) (sto:Sto) (ys:List VaD):∀ (zs pre qre:List VaD),pre.length=qre.length→ys.length=zs.length→(pre++ys).length < big→VaD.alikes ys zs=false→(∀ y∈ys,∀ z∈zs,CF (.fn 12) [.val y.enc,.val z.enc] sto=some (.ret (.val (.bool (y.alike z))),sto)) →
  ∃ s0 s1 s2 s3 s5 s26 s31 s45,LP 12 (dQ Tryz.f12 0) ⟨[.dead,.dead,.box [.val (.str s),.val (.int .i64 n),.val (.slice ((pre++ys).map VaD.enc))],.box [.val (.str s'),.val (.int .i64 n'),.val (.slice ((qre++zs).map VaD.enc))],.dead,.val (.int .i64 (pre.length:Nat)),.dead,.dead,.dead],sto⟩=some (.ret,⟨[s0,s1,s2,s3,.val (.bool false),s5,s26,s31,s45],sto⟩):=by
 induction ys with
 |nil =>
  intro zs pre qre hpq hyz h3 hal h2;cases zs with
  |nil=>simp [VaD.alikes] at hal
  |cons z zs=>simp at hyz
 |cons y ys ih =>
  intro zs pre qre hpq hyz h3 hal h2;cases zs with
  |nil=>simp at hyz
  |cons z zs =>
  simp only[VaD.alikes,Bool.and_eq_false_iff] at hal;have hget:=oH VaD.enc pre ys y;have hget2:=oH VaD.enc qre zs z;rw[←hpq] at hget2;have hlt:=ltI pre ys y;have h0:=zI pre.length;have hw:=wL pre ys y h3;have hc:=h2 y (by simp) z (by simp);rw[y.enc_eq] at hget hc;rw[z.enc_eq] at hget2 hc;cases hyz2:y.alike z with
  |false =>
   rw[hyz2] at hc;(iterate 8 apply Exists.intro);refine tI rfl ?_;refine tQ ?_;repeat first|with_reducible constructor|with_reducible refine tW rfl ?_|((with_reducible apply tG);(·kernel_rfl);(·(intro _ _;(repeat (apply tOp;(·(intro _;simp only[List.length_map,go_sem];rfl))));rfl));(·(simp only[go_sem];rfl)))
   (with_reducible apply tT);simp only[go_sem];rfl;exact hlt;refine tQ ?_;repeat first|with_reducible constructor|with_reducible refine tW rfl ?_|((with_reducible apply tG);(·kernel_rfl);(·(intro _ _;(repeat (apply tOp;(·(intro _;simp only[hget,hget2,h0,hc,List.length_map,go_sem];rfl))));rfl));(·(simp only[go_sem];rfl)))
   (with_reducible apply tT);simp only[go_sem];rfl;rfl;refine tQ ?_;repeat first|with_reducible constructor|with_reducible refine tW rfl ?_|((with_reducible apply tG);(·kernel_rfl);(·(intro _ _;(repeat (apply tOp;(·(intro _;simp only[go_sem];rfl))));rfl));(·(simp only[go_sem];rfl)))
   exact tlE;all_goals exact .dead
  |true =>
  rw[hyz2] at hc;obtain ⟨s0,s1,s2,s3,s5,s26,s31,s45,ih⟩:=ih zs (pre++[y]) (qre++[z]) (by simp [hpq]) (by simpa using hyz) (by simpa using h3) (hal.resolve_left (by rw[hyz2];simp)) (fun x hx x2 hx2=>h2 x (by simp [hx]) x2 (by simp [hx2]));simp only[List.append_assoc,List.singleton_append] at ih;refine ⟨s0,s1,s2,s3,s5,s26,s31,s45,?_⟩;refine tI rfl ?_;refine tQ ?_;repeat first|with_reducible constructor|with_reducible refine tW rfl ?_|((with_reducible apply tG);(·kernel_rfl);(·(intro _ _;(repeat (apply tOp;(·(intro _;simp only[List.length_map,go_sem];rfl))));rfl));(·(simp only[go_sem];rfl)))
  (with_reducible apply tT);simp only[go_sem];rfl;exact hlt;refine tQ ?_;repeat first|with_reducible constructor|with_reducible refine tW rfl ?_|((with_reducible apply tG);(·kernel_rfl);(·(intro _ _;(repeat (apply tOp;(·(intro _;simp only[hget,hget2,h0,hc,List.length_map,go_sem];rfl))));rfl));(·(simp only[go_sem];rfl)))
  (with_reducible apply tF);simp only[go_sem];rfl;rfl;refine tQ ?_;repeat first|with_reducible constructor|with_reducible refine tW rfl ?_|((with_reducible apply tG);(·kernel_rfl);(·(intro _ _;(repeat (apply tOp;(·(intro _;simp only[hw,go_sem];rfl))));rfl));(·(simp only[go_sem];rfl)))
  exact ih
theorem c12:∀ (v w:VaD) (sto:Sto),v.size < big→w.size < big→CF (.fn 12) [.val v.enc,.val w.enc] sto=some (.ret (.val (.bool (v.alike w))),sto):=by
 intro v;induction v using VaD.ind with
 |h v ih =>
  intro w sto hs hs2;rw[VaD.alike_eq];have hlen:=v.args_len;cases h1:(v.con==w.con) with
  |false =>
   have h1':(v.con != w.con)=true:=by simp [bne,h1]
   simp only[Bool.false_and];rw[v.enc_eq,w.enc_eq];apply tA;rfl;rfl;exact Tryz.func12;rfl;rfl;simp only[go_sem];rfl;refine tQ ?_;repeat first|with_reducible constructor|with_reducible refine tW rfl ?_|((with_reducible apply tG);(·kernel_rfl);(·(intro _ _;(repeat (apply tOp;(·(intro _;simp only[h1,h1',List.length_map,go_sem];rfl))));rfl));(·(simp only[go_sem];rfl)))
   (with_reducible apply tT);simp only[go_sem];rfl;rfl;refine tQ ?_;repeat first|with_reducible constructor|with_reducible refine tW rfl ?_|((with_reducible apply tG);(·kernel_rfl);(·(intro _ _;(repeat (apply tOp;(·(intro _;simp only[go_sem];rfl))));rfl));(·(simp only[go_sem];rfl)))
   exact dC rfl
  |true =>
   have h1':(v.con != w.con)=false:=by simp [bne,h1]
   cases h2:(v.num==w.num) with
   |false =>
    have h2':(v.num != w.num)=true:=by simp [bne,h2]
    simp only[Bool.and_false,Bool.false_and];rw[v.enc_eq,w.enc_eq];apply tA;rfl;rfl;exact Tryz.func12;rfl;rfl;simp only[go_sem];rfl;refine tQ ?_;repeat first|with_reducible constructor|with_reducible refine tW rfl ?_|((with_reducible apply tG);(·kernel_rfl);(·(intro _ _;(repeat (apply tOp;(·(intro _;simp only[h1,h1',h2,h2',List.length_map,go_sem];rfl))));rfl));(·(simp only[go_sem];rfl)))
    (with_reducible apply tT);simp only[go_sem];rfl;rfl;refine tQ ?_;repeat first|with_reducible constructor|with_reducible refine tW rfl ?_|((with_reducible apply tG);(·kernel_rfl);(·(intro _ _;(repeat (apply tOp;(·(intro _;simp only[go_sem];rfl))));rfl));(·(simp only[go_sem];rfl)))
    exact dC rfl
   |true =>
    have h2':(v.num != w.num)=false:=by simp [bne,h2]
    simp only[Bool.true_and];by_cases h3:v.args.length=w.args.length
    ·have h3':(((v.args.length:Nat):Int) != ((w.args.length:Nat):Int))=false:=by simp [h3]
     have hargs:∀ y∈v.args,∀ z∈w.args,CF (.fn 12) [.val y.enc,.val z.enc] sto=some (.ret (.val (.bool (y.alike z))),sto):=fun y hy z hz=>ih y hy z sto (by have:=VaD.args_size hy;omega) (by have:=VaD.args_size hz;omega)
     cases h5:VaD.alikes v.args w.args with
     |true =>
      obtain ⟨s0,s1,s2,s3,s4,s5,s26,s31,s45,hl⟩:=aC9 v.con w.con v.num w.num sto v.args w.args [] [] rfl (by simp only[List.nil_append,big] at hs ⊢;omega) h5 hargs;simp only[List.nil_append,List.length_nil] at hl;rw[v.enc_eq,w.enc_eq];apply tA;rfl;rfl;exact Tryz.func12;rfl;rfl;simp only[go_sem];rfl;refine tQ ?_;repeat first|with_reducible constructor|with_reducible refine tW rfl ?_|((with_reducible apply tG);(·kernel_rfl);(·(intro _ _;(repeat (apply tOp;(·(intro _;simp only[h1,h1',h2,h2',h3',List.length_map,go_sem];rfl))));rfl));(·(simp only[go_sem];rfl)))
      (with_reducible apply tF);simp only[go_sem];rfl;rfl;refine tQ ?_;repeat first|with_reducible constructor|with_reducible refine tW rfl ?_|((with_reducible apply tG);(·kernel_rfl);(·(intro _ _;(repeat (apply tOp;(·(intro _;simp only[go_sem];rfl))));rfl));(·(simp only[go_sem];rfl)))
      apply tL;exact hl;refine tQ ?_;repeat first|with_reducible constructor|with_reducible refine tW rfl ?_|((with_reducible apply tG);(·kernel_rfl);(·(intro _ _;(repeat (apply tOp;(·(intro _;simp only[go_sem];rfl))));rfl));(·(simp only[go_sem];rfl)))
      exact dC rfl
     |false =>
      obtain ⟨s0,s1,s2,s3,s5,s26,s31,s45,hl⟩:=aEG v.con w.con v.num w.num sto v.args w.args [] [] rfl h3 (by simp only[List.nil_append,big] at hs ⊢;omega) h5 hargs;simp only[List.nil_append,List.length_nil] at hl;rw[v.enc_eq,w.enc_eq];apply tA;rfl;rfl;exact Tryz.func12;rfl;rfl;simp only[go_sem];rfl;refine tQ ?_;repeat first|with_reducible constructor|with_reducible refine tW rfl ?_|((with_reducible apply tG);(·kernel_rfl);(·(intro _ _;(repeat (apply tOp;(·(intro _;simp only[h1,h1',h2,h2',h3',List.length_map,go_sem];rfl))));rfl));(·(simp only[go_sem];rfl)))
      (with_reducible apply tF);simp only[go_sem];rfl;rfl;refine tQ ?_;repeat first|with_reducible constructor|with_reducible refine tW rfl ?_|((with_reducible apply tG);(·kernel_rfl);(·(intro _ _;(repeat (apply tOp;(·(intro _;simp only[go_sem];rfl))));rfl));(·(simp only[go_sem];rfl)))
      apply tL;exact hl;refine tQ ?_;repeat first|with_reducible constructor|with_reducible refine tW rfl ?_
      exact dC rfl
    ·have h3':(((v.args.length:Nat):Int) != ((w.args.length:Nat):Int))=true:=by simp;omega
     have h4:VaD.alikes v.args w.args=false:=by
      cases h5:VaD.alikes v.args w.args with
      |false=>rfl
      |true=>exact absurd (VaD.alikes_len h5) h3
     rw[h4,v.enc_eq,w.enc_eq];apply tA;rfl;rfl;exact Tryz.func12;rfl;rfl;simp only[go_sem];rfl;refine tQ ?_;repeat first|with_reducible constructor|with_reducible refine tW rfl ?_|((with_reducible apply tG);(·kernel_rfl);(·(intro _ _;(repeat (apply tOp;(·(intro _;simp only[h1,h1',h2,h2',h3',List.length_map,go_sem];rfl))));rfl));(·(simp only[go_sem];rfl)))
     (with_reducible apply tT);simp only[go_sem];rfl;rfl;refine tQ ?_;repeat first|with_reducible constructor|with_reducible refine tW rfl ?_|((with_reducible apply tG);(·kernel_rfl);(·(intro _ _;(repeat (apply tOp;(·(intro _;simp only[go_sem];rfl))));rfl));(·(simp only[go_sem];rfl)))
     exact dC rfl
end Go.Proofs.YtdkkaldimefljaaGreatDoor
end
