import Derived.Test.YtdkkaldimefljaaGreatDoorT00
set_option linter.all false
set_option maxRecDepth 100000
set_option maxHeartbeats 32000000
namespace Go.Proofs.YtdkkaldimefljaaGreatDoor
open Go.AM
variable [Aps]
theorem yE{P:Program}{an:AK}{fn:Func}{n:Nat}{tm:List Slot}{sto:AN}{xs:List AVal}{sz t:Nat}(h1:an.ownRes=true)(h2:fn.results.toList=[.tmp t])(h3:tlook an.keep tm t=.own sz xs) :
  finish P an fn n ⟨tm,sto⟩=some (.ret (.own sz xs),⟨sto.objs.take n,sto.lo⟩):=by
 simp only[finish,h1,h2,h3,trim,dB,Ba]
theorem c160(l:List VaD)(hl:l.length+1<BE)(O:List AObj)(lo:Nat)(AW:lo<=O.length) :
  CF (.fn 160) [.nl,.val (.func 161 [.loc O.length 0])] ⟨O++[.box (bM (aG l))],lo⟩=some (.ret (.own 3 (l.map VaD.enc)),⟨O++[.box (bM (aG []))],lo⟩):=by
 have G5:Nat.ble lo O.length=true:=Aj (by omega);have DD:Nat.ble lo (O.length+1)=true:=Aj (by omega)
 have hc:=λs0 s1 s4 s5 s6 s7=>aQU (A:=List AVal) (j:=O.length+2) (a:=O.length) (λv X=>uY O lo [s0,s1,.val (.loc (O.length+1) 0),s4,s5,s6,s7] v X) (λX y=>X++[y.enc]) (λX n=>X.length+n<BE)
  (λv X=>by simp only[uY,FL,FO]) (λv X=>by simp only[uY];omega) (λv w X=>by simp only[uY,FL,FO]) (λX n y h=>by simp at h ⊢;omega) (λv X n y h=>aT1 AW (by omega) (s0:=s0) (s1:=s1) (s4:=s4) (s5:=s5) (s6:=s6) (s7:=s7)) l [] (by simp;omega)
 have e0:l.foldl (λ(X:List AVal)(y:VaD)=>X++[y.enc]) []=l.map VaD.enc:=by rw[dw VaD.enc];simp
 simp only[e0] at hc;simp only[uY,FL,FO] at hc;apply tA;rfl;rfl;exact Tryz.func160;rfl;rfl;simp only[go_sem];rfl;refine tQ ?_;repeat first|with_reducible constructor|with_reducible refine tW rfl ?_|((with_reducible apply tG);(·kernel_rfl);(·(intro _ _;(repeat (apply CH;(·(intro _;simp only[FL,FO,G5,DD,De,Bk,go_sem];rfl))));rfl));(·(simp only[go_sem];rfl)))
 with_reducible apply Nq
 ·rfl
 ·simp only[FL,FO]
  exact hc _ _ _ _ _ _
 ·simp only[FL,FO]
  rfl
 ·simp only[FL,FO]
  rfl
 refine tQ ?_;repeat first|with_reducible constructor|with_reducible refine tW rfl ?_|((with_reducible apply tG);(·kernel_rfl);(·(intro _ _;(repeat (apply CH;(·(intro _;simp only[FL,FO,G5,DD,Bk,go_sem];rfl))));rfl));(·(simp only[go_sem];rfl)))
 refine(yE rfl rfl rfl).trans ?_;simp only[FL,FO]
theorem aQS(l:List VaD)(hl:l.length+1<BE)(O:List AObj)(lo:Nat)(AW:lo<=O.length) :
  CF (.fn 114) [.val (.func 161 [.loc O.length 0])] ⟨O++[.box (bM (aG l))],lo⟩=some (.ret (.own 3 (l.map VaD.enc)),⟨O++[.box (bM (aG []))],lo⟩):=by
 have N6:=c160 l hl O lo AW;apply tA;rfl;rfl;exact Tryz.func114;rfl;rfl;simp only[go_sem];rfl;refine tQ ?_;repeat first|with_reducible constructor|with_reducible refine tW rfl ?_|((with_reducible apply tG);(·kernel_rfl);(·(intro _ _;(repeat (apply CH;(·(intro _;simp only[N6,go_sem];rfl))));rfl));(·(simp only[go_sem];rfl)))
 refine(yE rfl rfl rfl).trans ?_;simp only[FL,FO]
theorem MX(l:List VaD)(hl:l.length+1<BE)(sto:AN)(AW:sto.lo<=sto.objs.length):CF (.fn 57) [.val (aG l).enc] sto=some (.ret (.own 3 (l.map VaD.enc)),sto):=by
 have FM:=λs=>aQT (aG l) s
 have Lg:=aQS l hl sto.objs sto.lo AW;rw[dO l] at FM ⊢;apply tA;rfl;rfl;exact Tryz.func57;rfl;rfl;simp only[go_sem];rfl;refine tQ ?_;repeat first|with_reducible constructor|with_reducible refine tW rfl ?_|((with_reducible apply tG);(·kernel_rfl);(·(intro _ _;(repeat (apply CH;(·(intro _;simp only[FM,Lg,go_sem];rfl))));rfl));(·(simp only[go_sem];rfl)))
 exact qQ [_] (yE rfl rfl rfl)
theorem c58(l:List VaD)(hl:l.length+1<BE)(sto:AN)(AW:sto.lo<=sto.objs.length):CF (.fn 58) [.val (.slice [(aG l).enc])] sto=some (.ret (.val (nO (l.length:Nat)).enc),sto):=by
 have KY:=MX l hl sto AW;have h54:=aQ7 ((l.length:Nat):Int);rw[lQ];rw[dO l] at KY ⊢;exact CT
theorem aHr{P:Program}{an:AK}{fn:Func}{n:Nat}{tm:List Slot}{sto:AN}{v:AVal}{t:Nat}(h1:an.ownRes=false)(h2:fn.results.toList=[.tmp t])(h3:tlook an.keep tm t=.val v)(h4:lok n v=true):finish P an fn n ⟨tm,sto⟩=some (.ret (.val v),⟨sto.objs.take n,sto.lo⟩):=by
 simp only[finish,h1,h2,iV,h3,DI,trim,dB,h4,Ba]
theorem c157(c:List UInt8)(sto:AN):CF (.fn 157) [.val (.str c)] sto=some (.ret (.val (.int .i64 (Aps.kd c))),sto):=Li (r:=.ret (.val (.int .i64 (Aps.kd c)))) rfl rfl
theorem c109(c:List UInt8)(sto:AN):CF (.fn 109) [.val (.str c)] sto=some (.ret (.val (.bool (kC c))),sto):=by
 have h:=c157 c;unfold kC;exact wk
def iM(c:List UInt8)(l:Nat):Bool:=bif c==[44] then decide (((l:Nat):Int)<2)||decide (((l:Nat):Int)>4) else !kC c
mutual
def VaD.vd:VaD->Nat->Bool×Nat
 |.mk c k al,n=>bif decide (((n+1:Nat):Int)>4000) then(false,n+1) else bif c==[] then(((al.length:Nat):Int)==0,n+1)
  else bif (k != 0)||decide (((al.length:Nat):Int)>16) then(false,n+1) else bif iM c al.length then(false,n+1) else VaD.vds al (n+1)
def VaD.vds:List VaD->Nat->Bool×Nat
 |[],n=>(true,n)
 |a::l,n=>bif (a.vd n).1 then VaD.vds l (a.vd n).2 else(false,(a.vd n).2)
end
theorem VaD.vd_eq(v:VaD)(n:Nat):v.vd n=bif decide (((n+1:Nat):Int)>4000) then(false,n+1) else bif v.con==[] then(((v.args.length:Nat):Int)==0,n+1)
  else bif (v.num != 0)||decide (((v.args.length:Nat):Int)>16) then(false,n+1) else bif iM v.con v.args.length then(false,n+1) else VaD.vds v.args (n+1):=by cases v;rfl
mutual
theorem VaD.vd_le:∀(v:VaD)(n:Nat),(v.vd n).1=true->(v.vd n).2<=4000
 |.mk c k al,n,h=>by
  have ih:=VaD.vds_le al (n+1);rw[VaD.vd] at h ⊢;by_cases h1:((n+1:Nat):Int)>4000
  ·rw[Ha h1] at h;cases h
  ·rw[Dw h1,Aq] at h ⊢
   cases hc:c==[]
   ·rw[hc,Aq] at h
    simp only[Aq];cases h2:((k != 0)||decide (((al.length:Nat):Int)>16))
    ·rw[h2,Aq] at h
     simp only[Aq];cases h3:iM c al.length
     ·rw[h3,Aq] at h
      simp only[Aq];exact ih h (by omega)
     ·rw[h3] at h;cases h
    ·rw[h2] at h;cases h
   ·simp only[Ba];omega
theorem VaD.vds_le:∀(l:List VaD)(n:Nat),(VaD.vds l n).1=true->n<=4000->(VaD.vds l n).2<=4000
 |[],n,_,hn=>by simpa[VaD.vds] using hn
 |a::l,n,h,hn=>by
  rw[VaD.vds] at h ⊢;cases ha:(a.vd n).1
  ·rw[ha] at h;cases h
  ·rw[ha,Ba] at h
   simp only[Ba];exact VaD.vds_le l _ h (VaD.vd_le a n ha)
end
def iZ(O:List AObj)(lo:Nat)(bv:AObj)(c:Nat):AN:=⟨O++[bv,.box [.val (.int .i64 (c:Nat))]],lo⟩
def iO(v:VaD):List Cell:=[.val (.str v.con),.val (.int .i64 v.num),.val (.slice (v.args.map VaD.enc))]
theorem aHS{O:List AObj}{lo:Nat}(AW:lo<=O.length){bv:AObj}(s:List UInt8)(n:Int)(ys:List VaD):∀(pre:List VaD)(c:Nat),(pre++ys).length<BE->c<=4000 ->
  (∀y∈ys,∀c:Nat,c<=4000->CF (.fn 40) [.val (.cptr y.enc),.val (.loc (O.length+1) 0)] (iZ O lo bv c)=some (.ret (.val (.bool (y.vd c).1)),iZ O lo bv (y.vd c).2)) ->
  ∃s0 s1 s5 s6 JX H5 JW JV JU JT JS JQ,LP 40 (cG Tryz.f40 0) ⟨[.val (.cptr (.agg [.str s,.int .i64 n,.slice ((pre++ys).map VaD.enc)])),.val (.loc (O.length+1) 0),.dead,.dead,.dead,.dead,.dead,.dead,.dead,.val (.int .i64 ((pre++ys).length:Nat)),.val (.int .i64 (pre.length:Nat)),.dead,.dead],iZ O lo bv c⟩ =
   bif (VaD.vds ys c).1 then some (.exit 1,⟨[s0,s1,.dead,s5,s6,JX,H5,JW,JV,JU,JT,JS,JQ],iZ O lo bv (VaD.vds ys c).2⟩) else some (.ret,⟨[s0,s1,.val (.bool false),s5,s6,JX,H5,JW,JV,JU,JT,JS,JQ],iZ O lo bv (VaD.vds ys c).2⟩):=by
 induction ys with
 |nil =>
  intro pre c h3 h4 h2;have AR:=MV pre;simp only[Bv,VaD.vds,Ba];clear h2;(iterate 12 apply Exists.intro);refine tI rfl ?_;exact wk;all_goals exact .dead
 |cons y ys ih =>
  intro pre c h3 h4 h2;have BI:=tN VaD.enc pre ys y;have AR:=Kz pre ys y;have hlt2:decide (((pre.length:Nat):Int)<((pre.length+(ys.length+1):Nat):Int))=true:=by rw[Am];omega
  have h0:=zI pre.length;have hw:=wL pre ys y h3;have hc:=h2 y (by simp) c h4;rw[VaD.vds];rw[y.enc_eq] at BI hc;cases hv:(y.vd c).1 with
  |false =>
   rw[hv] at hc;simp only[Aq];simp only[iZ] at hc ⊢;clear ih h2;(iterate 12 apply Exists.intro);refine tI rfl ?_;refine tQ ?_;repeat first|with_reducible constructor|with_reducible refine tW rfl ?_|((with_reducible apply tG);(·kernel_rfl);(·(intro _ _;(repeat (apply CH;(·(intro _;simp only[*,go_sem,Nat.reduceAdd,reduceIte,FL,FO,Bk];rfl))));rfl));(·(simp only[go_sem];rfl)))|((with_reducible apply t1);(·(simp only[go_sem];rfl));(·rfl))|((with_reducible apply t0);(·(simp only[go_sem];rfl));(·rfl))|((with_reducible apply tl);(·assumption))
   exact Np;all_goals exact .dead
  |true =>
   rw[hv] at hc;obtain⟨s0,s1,s5,s6,JX,H5,JW,JV,JU,JT,JS,JQ,ih⟩:=ih (pre++[y]) (y.vd c).2 (by simpa using h3) (VaD.vd_le y c hv) (λx hx=>h2 x (by simp[hx]));rw[show(pre++[y]).length=pre.length+1 by simp] at ih hw;simp only[As,Ca] at ih;simp only[Ba];simp only[iZ] at hc ih ⊢;clear h2 hv;refine⟨s0,s1,s5,s6,JX,H5,JW,JV,JU,JT,JS,JQ,?_⟩;generalize(y.vd c).2=c2 at *;generalize hb:(VaD.vds ys c2).1=bb at ih ⊢;cases bb
   all_goals
    simp only[Ba,Aq] at ih ⊢;refine tI rfl ?_;exact GJ
theorem aHT{O:List AObj}{lo:Nat}(AW:lo<=O.length)(bl:List VaD)(s:List UInt8)(n:Int)(ys:List VaD):∀(pre:List VaD)(c:Nat),bl=pre++ys->(pre++ys).length<BE->c<=4000 ->
  (∀y∈ys,∀c:Nat,c<=4000->CF (.fn 40) [.val (.cptr y.enc),.val (.loc (O.length+1) 0)] (iZ O lo (.box [.val (.str s),.val (.int .i64 n),.val (.slice (bl.map VaD.enc))]) c)=some (.ret (.val (.bool (y.vd c).1)),iZ O lo (.box [.val (.str s),.val (.int .i64 n),.val (.slice (bl.map VaD.enc))]) (y.vd c).2)) ->
  ∃s0 s1 s5 s6 JX H5 JW JV JU JT JS JQ,LP 40 (cG Tryz.f40 0) ⟨[.val (.loc O.length 0),.val (.loc (O.length+1) 0),.dead,.dead,.dead,.dead,.dead,.dead,.dead,.val (.int .i64 ((pre++ys).length:Nat)),.val (.int .i64 (pre.length:Nat)),.dead,.dead],iZ O lo (.box [.val (.str s),.val (.int .i64 n),.val (.slice (bl.map VaD.enc))]) c⟩ =
   bif (VaD.vds ys c).1 then some (.exit 1,⟨[s0,s1,.dead,s5,s6,JX,H5,JW,JV,JU,JT,JS,JQ],iZ O lo (.box [.val (.str s),.val (.int .i64 n),.val (.slice (bl.map VaD.enc))]) (VaD.vds ys c).2⟩) else some (.ret,⟨[s0,s1,.val (.bool false),s5,s6,JX,H5,JW,JV,JU,JT,JS,JQ],iZ O lo (.box [.val (.str s),.val (.int .i64 n),.val (.slice (bl.map VaD.enc))]) (VaD.vds ys c).2⟩):=by
 induction ys with
 |nil =>
  intro pre c KV h3 h4 h2;have AR:=MV pre;simp only[Bv,VaD.vds,Ba];clear h2 KV;(iterate 12 apply Exists.intro);refine tI rfl ?_;exact wk;all_goals exact .dead
 |cons y ys ih =>
  intro pre c KV h3 h4 h2;have BI:=tN VaD.enc pre ys y;rw[<-KV] at BI;have AR:=Kz pre ys y;have hlt2:decide (((pre.length:Nat):Int)<((pre.length+(ys.length+1):Nat):Int))=true:=by rw[Am];omega
  have h0:=zI pre.length;have hw:=wL pre ys y h3;have hc:=h2 y (by simp) c h4;rw[VaD.vds];rw[y.enc_eq] at BI hc;cases hv:(y.vd c).1 with
  |false =>
   rw[hv] at hc;simp only[Aq];simp only[iZ] at hc ⊢;clear ih h2 KV;(iterate 12 apply Exists.intro);refine tI rfl ?_;refine tQ ?_;repeat first|with_reducible constructor|with_reducible refine tW rfl ?_|((with_reducible apply tG);(·kernel_rfl);(·(intro _ _;(repeat (apply CH;(·(intro _;simp only[*,go_sem,Nat.reduceAdd,reduceIte,FL,FO,Bk];rfl))));rfl));(·(simp only[go_sem];rfl)))|((with_reducible apply t1);(·(simp only[go_sem];rfl));(·rfl))|((with_reducible apply t0);(·(simp only[go_sem];rfl));(·rfl))|((with_reducible apply tl);(·assumption))
   exact Np;all_goals exact .dead
  |true =>
   rw[hv] at hc;obtain⟨s0,s1,s5,s6,JX,H5,JW,JV,JU,JT,JS,JQ,ih⟩:=ih (pre++[y]) (y.vd c).2 (by simp[KV]) (by simpa using h3) (VaD.vd_le y c hv) (λx hx=>h2 x (by simp[hx]));rw[show(pre++[y]).length=pre.length+1 by simp] at ih hw;simp only[As,Ca] at ih;simp only[Ba];simp only[iZ] at hc ih ⊢;clear h2 hv KV;refine⟨s0,s1,s5,s6,JX,H5,JW,JV,JU,JT,JS,JQ,?_⟩;generalize(y.vd c).2=c2 at *;generalize hb:(VaD.vds ys c2).1=bb at ih ⊢;cases bb
   all_goals
    simp only[Ba,Aq] at ih ⊢;refine tI rfl ?_;exact GJ
theorem G7{α:Prop}(h:α:=by
 apply tA;rfl;rfl;exact Tryz.func40;rfl;rfl;simp only[go_sem];rfl;refine tQ ?_;repeat first|with_reducible constructor|with_reducible refine tW rfl ?_|((with_reducible apply tG);(·kernel_rfl);(·(intro _ _;(repeat (apply CH;(·(intro _;simp only[*,go_sem,Nat.reduceAdd,reduceIte,FL,FO,Cb,Bk];rfl))));rfl));(·(simp only[go_sem];rfl)))|((with_reducible apply t1);(·(simp only[go_sem];rfl));(·rfl))|((with_reducible apply t0);(·(simp only[go_sem];rfl));(·rfl))|((with_reducible apply tl);(·assumption))
 refine(aHr rfl rfl rfl rfl).trans ?_;simp only[*,FL,FO,Ba,Aq,Bool.true_or,Bool.or_true,Bool.or_false,Fx,Fw,Gj]):α:=h
theorem aQ6{O:List AObj}{lo:Nat}(AW:lo<=O.length){bv:AObj}:∀(v:VaD),v.size<BE->∀(c:Nat),c<=4000 ->
  CF (.fn 40) [.val (.cptr v.enc),.val (.loc (O.length+1) 0)] (iZ O lo bv c)=some (.ret (.val (.bool (v.vd c).1)),iZ O lo bv (v.vd c).2):=by
 refine VaD.ind λv ih hs c hc=>?_
 have BQ:=VaD.args_len v;have DD:Nat.ble lo (O.length+1)=true:=Aj (by omega);have hadd:IntKind.i64.wrap (((c:Nat):Int)+1)=((c+1:Nat):Int):=wI _ (by simp only[BE];omega);have Wc:=c109 v.con;rw[VaD.vd_eq];rcases Ck 4000 (c+1) with hg|hg
 ·have hgt:decide (((c+1:Nat):Int)>4000)=true:=by rw[Am];omega
  simp only[hgt,Ba];simp only[iZ,iO];rw[VaD.enc_eq v];clear BQ AW hc hs hg ih;exact G7
 have hgt:decide (((c+1:Nat):Int)>4000)=false:=by rw[Av];omega
 obtain⟨s0,s1,s5,s6,JX,H5,JW,JV,JU,JT,JS,JQ,CC⟩:=aHS (bv:=bv) AW v.con v.num v.args [] (c+1) (by simp only[Bl];omega) (by omega) (λy hy c2 EO=>ih y hy (by have:=VaD.args_size hy;omega) c2 EO);simp only[Bl,Bi,iZ,show((0:Nat):Int)=0 from rfl] at CC;simp only[iZ,iO];rw[VaD.enc_eq v];unfold iM;clear BQ AW hc hs hg ih;generalize hL:v.args.length=L at *;cases h0:(v.con==[])
 ·cases hn:(v.num != 0)
  ·cases h16:decide (((L:Nat):Int)>16)
   ·cases WK:(v.con==[44])
    ·cases hic:kC v.con
     ·exact G7
     ·cases hb:(VaD.vds v.args (c+1)).1
      all_goals
       rw[hb] at CC;simp only[Ba,Aq] at CC;exact G7
    ·cases Jp:decide (((L:Nat):Int)<2)
     ·cases hl4:decide (((L:Nat):Int)>4)
      ·cases hb:(VaD.vds v.args (c+1)).1
       all_goals
        rw[hb] at CC;simp only[Ba,Aq] at CC;exact G7
      ·exact G7
     ·exact G7
   ·exact G7
  ·exact G7
 ·exact G7
theorem aOl{O:List AObj}{lo:Nat}(AW:lo<=O.length)(v:VaD)(hs:v.size<BE)(c:Nat)(hc:c<=4000) :
  CF (.fn 40) [.val (.loc O.length 0),.val (.loc (O.length+1) 0)] (iZ O lo (.box (iO v)) c)=some (.ret (.val (.bool (v.vd c).1)),iZ O lo (.box (iO v)) (v.vd c).2):=by
 have BQ:=VaD.args_len v;have DD:Nat.ble lo (O.length+1)=true:=Aj (by omega);have hadd:IntKind.i64.wrap (((c:Nat):Int)+1)=((c+1:Nat):Int):=wI _ (by simp only[BE];omega);have Wc:=c109 v.con;rw[VaD.vd_eq];rcases Ck 4000 (c+1) with hg|hg
 ·have hgt:decide (((c+1:Nat):Int)>4000)=true:=by rw[Am];omega
  simp only[hgt,Ba];simp only[iZ,iO];clear BQ AW hc hs hg;exact G7
 have hgt:decide (((c+1:Nat):Int)>4000)=false:=by rw[Av];omega
 obtain⟨s0,s1,s5,s6,JX,H5,JW,JV,JU,JT,JS,JQ,CC⟩:=aHT AW v.args v.con v.num v.args [] (c+1) rfl (by simp only[Bl];omega) (by omega) (λy hy c2 EO=>aQ6 AW y (by have:=VaD.args_size hy;omega) c2 EO);simp only[Bl,Bi,iZ,show((0:Nat):Int)=0 from rfl] at CC;simp only[iZ,iO];unfold iM;clear BQ AW hc hs hg;generalize hL:v.args.length=L at *;cases h0:(v.con==[])
 ·cases hn:(v.num != 0)
  ·cases h16:decide (((L:Nat):Int)>16)
   ·cases WK:(v.con==[44])
    ·cases hic:kC v.con
     ·exact G7
     ·cases hb:(VaD.vds v.args (c+1)).1
      all_goals
       rw[hb] at CC;simp only[Ba,Aq] at CC;exact G7
    ·cases Jp:decide (((L:Nat):Int)<2)
     ·cases hl4:decide (((L:Nat):Int)>4)
      ·cases hb:(VaD.vds v.args (c+1)).1
       all_goals
        rw[hb] at CC;simp only[Ba,Aq] at CC;exact G7
      ·exact G7
     ·exact G7
   ·exact G7
  ·exact G7
 ·exact G7
theorem aOg(v:VaD)(hs:v.size<BE)(sto:AN)(AW:sto.lo<=sto.objs.length):CF (.fn 24) [.val v.enc] sto=some (.ret (.val (.int .i64 (bif (v.vd 0).1 then 0 else 62))),sto):=by
 have QG:=aOl (O:=sto.objs) AW v hs 0 (by decide);have DD:Nat.ble sto.lo (sto.objs.length+1)=true:=Aj (by omega);simp only[iZ,iO,show((0:Nat):Int)=0 from rfl] at QG;rw[VaD.enc_eq v];clear AW hs;generalize v.vd 0=r at *;obtain⟨b,m⟩:=r;cases b
 all_goals
  simp only[Ba,Aq] at QG ⊢;exact GJ
theorem aQX(v:VaD)(hs:v.size<BE)(sto:AN)(AW:sto.lo<=sto.objs.length):CF (.fn 25) [.val v.enc] sto=some (.ret (.val (.int .i64 (bif (v.vd 0).1 then((v.vd 0).2:Nat) else 0))),sto):=by
 have QG:=aOl (O:=sto.objs) AW v hs 0 (by decide);have DD:Nat.ble sto.lo (sto.objs.length+1)=true:=Aj (by omega);simp only[iZ,iO,show((0:Nat):Int)=0 from rfl] at QG;rw[VaD.enc_eq v];clear AW hs;generalize v.vd 0=r at *;obtain⟨b,m⟩:=r;cases b
 all_goals
  simp only[Ba,Aq] at QG ⊢;exact GJ
def u7(v:VaD):Bool:=(v.vd 0).1&&decide (((v.vd 0).2:Nat)<=(10:Int))
def pN:List VaD->List VaD->List VaD
 |X,[]=>X
 |X,y::ys=>bif decide (((X.length:Nat):Int)<20) then pN (bif u7 y then X++[y] else X) ys else X
theorem aLJ(sto:AN)(AW:sto.lo<=sto.objs.length)(ys:List VaD):∀(pre X:List VaD),(pre++ys).length<BE->X.length<=20->(∀y∈ys,y.size<BE) ->
  ∃s0 s2 s4 Ii Lu,LP 13 (cG Tryz.f13 0) ⟨[.val (.slice ((pre++ys).map VaD.enc)),.dead,.own 3 (X.map VaD.enc),.val (.int .i64 (pre.length:Nat)),.dead,.dead],sto⟩ =
   some (.exit 0,⟨[s0,s2,.own 3 ((pN X ys).map VaD.enc),s4,Ii,Lu],sto⟩):=by
 induction ys with
 |nil =>
  intro pre X h3 hX h2;have AR:=MV pre;simp only[Bv,pN];clear h2 AW;(iterate 5 apply Exists.intro);refine tI rfl ?_;exact CT;all_goals exact .dead
 |cons y ys ih =>
  intro pre X h3 hX h2;have BI:=tN VaD.enc pre ys y;have AR:=Kz pre ys y;have h0:=zI pre.length;have hw:=wL pre ys y h3;have JL:=aOg y (h2 y (by simp)) sto AW;have QJ:=aQX y (h2 y (by simp)) sto AW;have hr:Nat.ble (X.length+1) room=true:=Aj (by unfold room;omega);have k0:((0:Int)==0)=true:=rfl;have k62:((62:Int)==0)=false:=rfl;rw[pN];cases OG:decide (((X.length:Nat):Int)<20) with
  |false =>
   simp only[Aq];clear ih h2 AW;(iterate 5 apply Exists.intro);refine tI rfl ?_;exact CT;all_goals exact .dead
  |true =>
   simp only[Ba];have hX2:X.length<20:=by rw[Am] at OG;omega
   have IM:=ih (pre++[y]) X (by simpa using h3) hX (λx hx=>h2 x (by simp[hx]));have H8:=ih (pre++[y]) (X++[y]) (by simpa using h3) (by simp;omega) (λx hx=>h2 x (by simp[hx]));have e1:(X++[y]).map VaD.enc=X.map VaD.enc++[.agg [.str y.con,.int .i64 y.num,.slice (y.args.map VaD.enc)]]:=by rw[Ei,<-y.enc_eq];rfl
   rw[e1] at H8;simp only[As,Ca] at IM H8;rw[y.enc_eq] at BI JL QJ;clear ih h2 AW hX hX2 e1;cases hv:(y.vd 0).1
   ·obtain⟨s0,s2,s4,Ii,Lu,IM⟩:=IM
    rw[hv] at JL QJ;simp only[u7,hv,Ef,Aq];simp only[Aq] at JL QJ;clear H8 hv;refine⟨s0,s2,s4,Ii,Lu,?_⟩;refine tI rfl ?_;exact CT
   ·rw[hv] at JL QJ
    simp only[Ba] at JL QJ;cases h10:decide ((((y.vd 0).2:Nat):Int)<=10)
    ·obtain⟨s0,s2,s4,Ii,Lu,IM⟩:=IM
     simp only[u7,hv,h10,Fv,Aq];clear H8 hv;refine⟨s0,s2,s4,Ii,Lu,?_⟩;refine tI rfl ?_;exact CT
    ·obtain⟨s0,s2,s4,Ii,Lu,H8⟩:=H8
     simp only[u7,hv,h10,Fv,Ba];clear IM hv;refine⟨s0,s2,s4,Ii,Lu,?_⟩;refine tI rfl ?_;exact CT
theorem Wn(l:List VaD)(h:VaD.sizes l<BE)(sto:AN)(AW:sto.lo<=sto.objs.length):CF (.fn 13) [.val (.slice (l.map VaD.enc))] sto=some (.ret (.val (.slice ((pN [] l).map VaD.enc))),sto):=by
 have hl:=VaD.sizes_len l;obtain⟨s0,s2,s4,Ii,Lu,CC⟩:=aLJ sto AW l [] [] (by simp only[Bl];omega) (by decide) (λy hy=>by have:=VaD.sizes_mem hy;omega);simp only[Bl,Bi,Au,show((0:Nat):Int)=0 from rfl] at CC;clear h hl AW;exact wk
theorem aEF{c:List UInt8}(h:c∈xY):kC c=true:=by
 simpa[kC] using Aps.con c h
mutual
def VaD.valid:VaD->Bool
 |.mk c n al=>bif c==[] then al.length==0 else(n==0)&&decide (al.length<=16)&&!iM c al.length&&VaD.valids al
def VaD.valids:List VaD->Bool
 |[]=>true
 |v::l=>v.valid&&VaD.valids l
end
mutual
theorem VaD.vd_of:∀(v:VaD)(n:Nat),v.valid=true->n+v.cnt<=4000->v.vd n=(true,n+v.cnt)
 |.mk c k al,n,h,hn=>by
  have ih:=VaD.vds_of al (n+1);have hp:=VaD.cnt_pos (.mk c k al);have hc:=VaD.cnt_eq (.mk c k al);simp only[VaD.args] at hc;rw[VaD.valid] at h;rw[VaD.vd,Dw (by omega:¬((n+1:Nat):Int)>4000),Aq];cases h0:c==[]
  ·rw[h0,Aq] at h
   simp only[Ac,Am,Cd] at h;obtain⟨⟨⟨h1,h2⟩,h3⟩,h4⟩:=h;have N8:(k != 0)=false:=by simp only[bne,h1,Fw]
   rw[N8,Dw (by omega:¬((al.length:Nat):Int)>16),h3];simp only[Bool.or_false,Aq];rw[ih h4 (by omega)];rw[hc];congr 1;omega
  ·rw[h0,Ba] at h
   have hl:al=[]:=Ec (by simpa using h);subst hl;simp only[Ba,Bi];rw[hc];simp[VaD.cnts]
theorem VaD.vds_of:∀(l:List VaD)(n:Nat),VaD.valids l=true->n+VaD.cnts l<=4000->VaD.vds l n=(true,n+VaD.cnts l)
 |[],n,_,_=>by simp[VaD.vds,VaD.cnts]
 |a::l,n,h,hn=>by
  simp only[VaD.valids,Ac] at h;simp only[VaD.cnts] at hn ⊢;rw[VaD.vds,VaD.vd_of a n h.1 (by omega),Ba,VaD.vds_of l _ h.2 (by omega)];congr 1;omega
end
mutual
theorem VaD.of_vd:∀(v:VaD)(n:Nat),(v.vd n).1=true->v.valid=true/\(v.vd n).2=n+v.cnt
 |.mk c k al,n,h=>by
  have ih:=VaD.of_vds al (n+1);have hc:=VaD.cnt_eq (.mk c k al);simp only[VaD.args] at hc;rw[VaD.vd] at h ⊢;rw[VaD.valid];by_cases h1:((n+1:Nat):Int)>4000
  ·rw[Ha h1] at h;cases h
  rw[Dw h1,Aq] at h ⊢;cases h0:c==[]
  ·rw[h0,Aq] at h
   simp only[Aq];cases h2:((k != 0)||decide (((al.length:Nat):Int)>16))
   ·rw[h2,Aq] at h
    cases h3:iM c al.length
    ·rw[h3,Aq] at h
     obtain⟨i1,i2⟩:=ih h;rw[Dv] at h2;have hk:(k==0)=true:=by have:=h2.1;simpa[bne] using this
     have hl:decide (al.length<=16)=true:=by have:=h2.2;rw[Av] at this;rw[Am];omega
     simp only[Aq,hk,hl,i1,Gj,Gp,Fi];rw[i2,hc];omega
    ·rw[h3] at h;cases h
   ·rw[h2] at h;cases h
  ·rw[h0,Ba] at h
   simp only[Ba];have hl:al=[]:=Ec (by have:=h;simp only[Dq] at this;omega);subst hl;exact⟨rfl,by rw[hc];simp[VaD.cnts]⟩
theorem VaD.of_vds:∀(l:List VaD)(n:Nat),(VaD.vds l n).1=true->VaD.valids l=true/\(VaD.vds l n).2=n+VaD.cnts l
 |[],n,_=>by simp[VaD.vds,VaD.valids,VaD.cnts]
 |a::l,n,h=>by
  rw[VaD.vds] at h ⊢;cases ha:(a.vd n).1
  ·rw[ha] at h;cases h
  ·rw[ha,Ba] at h
   obtain⟨i1,i2⟩:=VaD.of_vd a n ha;obtain⟨j1,j2⟩:=VaD.of_vds l _ h;simp only[Ba,VaD.valids,VaD.cnts,i1,j1,Gp,Fi];rw[j2,i2];omega
end
theorem c24(v:VaD)(hv:v.valid=true)(hs:v.size<BE)(hc:v.cnt<=4000)(sto:AN)(AW:sto.lo<=sto.objs.length):CF (.fn 24) [.val v.enc] sto=some (.ret (.val (.int .i64 0)),sto):=by
 rw[aOg v hs sto AW,VaD.vd_of v 0 hv (by omega)];rfl
theorem c44(v:VaD)(hv:v.valid=true)(hs:v.size<BE)(hc:v.cnt<=4000)(sto:AN)(AW:sto.lo<=sto.objs.length):CF (.fn 44) [.val v.enc] sto=some (.ret (.val (.bool false)),sto):=by
 have JL:=c24 v hv hs hc sto AW;rw[VaD.enc_eq v] at JL ⊢;exact wk
theorem aHK(sto:AN)(AW:sto.lo<=sto.objs.length)(ys:List VaD):∀(pre:List VaD),(pre++ys).length<BE->(∀y∈ys,y.valid=true/\y.size<BE/\y.cnt<=4000) ->
  ∃s0 s1 s4 s5 s7 s8 s9 SA,LP 112 (cG Tryz.f112 0) ⟨[.val (.slice ((pre++ys).map VaD.enc)),.val (.func 44 []),.dead,.dead,.val (.int .i64 ((pre++ys).length:Nat)),.val (.int .i64 (pre.length:Nat)),.dead,.dead],sto⟩=some (.exit 0,⟨[s0,s1,s4,s5,s7,s8,s9,SA],sto⟩):=by
 induction ys with
 |nil =>
  intro pre h3 h2;have AR:=MV pre;simp only[Bv];(iterate 8 apply Exists.intro);refine tI rfl ?_;exact wk;all_goals exact .dead
 |cons y ys ih =>
  intro pre h3 h2;have BI:=tN VaD.enc pre ys y;have AR:=Kz pre ys y;have h0:=zI pre.length;have hw:=wL pre ys y h3;obtain⟨v1,v2,v3⟩:=h2 y (by simp);have hc:=c44 y v1 v2 v3 sto AW;obtain⟨s0,s1,s4,s5,s7,s8,s9,SA,ih⟩:=ih (pre++[y]) (by simpa using h3) (λx hx=>h2 x (by simp[hx]));simp only[As,Ca] at ih;rw[y.enc_eq] at BI hc;refine⟨s0,s1,s4,s5,s7,s8,s9,SA,?_⟩;refine tI rfl ?_;exact wk
theorem c43(l:List VaD)(hl:l.length<BE)(h:∀y∈l,y.valid=true/\y.size<BE/\y.cnt<=4000)(sto:AN)(AW:sto.lo<=sto.objs.length):CF (.fn 43) [.val (.slice (l.map VaD.enc)),.val (.func 44 [])] sto=some (.ret (.val (.bool false)),sto):=by
 have h112:CF (.fn 112) [.val (.slice (l.map VaD.enc)),.val (.func 44 [])] sto=some (.ret (.val (.int .i64 (-1))),sto):=by
  obtain⟨s0,s1,s4,s5,s7,s8,s9,SA,CC⟩:=aHK sto AW l [] (by simpa using hl) h;simp only[Bl,Bi] at CC;apply tA;rfl;rfl;exact Tryz.func112;rfl;rfl;simp only[go_sem];rfl;refine tQ ?_;repeat first|with_reducible constructor|with_reducible refine tW rfl ?_|((with_reducible apply tG);(·kernel_rfl);(·(intro _ _;(repeat (apply CH;(·(intro _;simp only[Cb,go_sem];rfl))));rfl));(·(simp only[go_sem];rfl)))
  apply tL;exact CC;exact wk
 exact wk
theorem TyD.enc_mk(n:List UInt8)(al:List TyD):(TyD.mk n al).enc=.agg [.str n,.slice (al.map TyD.enc)]:=by simp[TyD.enc,TyD.encs_eq]
def tyName:TyD->List UInt8|.mk n _=>n
def ak:TyD->List TyD|.mk _ l=>l
theorem iB(t:TyD):t.enc=.agg [.str (tyName t),.slice ((ak t).map TyD.enc)]:=by cases t;exact TyD.enc_mk _ _
def sW:List TyD->TyD->TyD
 |[],r=>r
 |a::l,r=>.mk [45,62] [a,sW l r]
def pH(t:TyD):List Cell:=[.val (.str (tyName t)),.val (.slice ((ak t).map TyD.enc))]
theorem aLM(r:TyD)(hr:(tyName r==[45,62])=false)(sto:AN)(ys:List TyD):∀(pre:List TyD),pre.length+ys.length+1<BE ->
  ∃s0 s1 s2 s6,LP 42 (cG Tryz.f42 0) ⟨[.dead,.box (pH (sW ys r)),.dead,.own 2 (pre.map TyD.enc),.dead],sto⟩=some (.exit 0,⟨[s0,s1,s2,.own 2 ((pre++ys).map TyD.enc),s6],sto⟩):=by
 induction ys with
 |nil =>
  intro pre h3;simp only[Bv,sW,pH];(iterate 4 apply Exists.intro);refine tI rfl ?_;exact wk;all_goals exact .dead
 |cons y ys ih =>
  intro pre h3;have hrm:Nat.ble (pre.length+1) room=true:=by apply Aj;simp only[room];simp only[Ay,BE] at h3;omega
  have emap:(pre++[y]).map TyD.enc=pre.map TyD.enc++[y.enc]:=by simp
  obtain⟨s0,s1,s2,s6,ih⟩:=ih (pre++[y]) (by simp only[Bu,Ay,Bi] at h3 ⊢;omega);rw[emap,iB y] at ih;simp only[As,Ca] at ih
  have CG:pH (sW (y::ys) r)=[.val (.str [45,62]),.val (.slice [.agg [.str (tyName y),.slice ((ak y).map TyD.enc)],.agg [.str (tyName (sW ys r)),.slice ((ak (sW ys r)).map TyD.enc)]])]:=by
   rw[<-iB y,<-iB (sW ys r)];simp only[pH,sW,tyName,ak,Aw,Au]
  rw[CG];simp only[pH] at ih;refine⟨s0,s1,s2,s6,?_⟩;refine tI rfl ?_;exact CT
theorem c42(l:List TyD)(r:TyD)(hr:(tyName r==[45,62])=false)(hl:l.length+1<BE)(sto:AN):CF (.fn 42) [.val (sW l r).enc] sto=some (.ret (.val (.slice (l.map TyD.enc))),sto):=by
 obtain⟨s0,s1,s2,s6,CC⟩:=aLM r hr sto l [] (by simp only[Bi];omega);simp only[Bl,Au,pH] at CC;rw[iB (sW l r)];exact wk
theorem aLN(sto:AN)(ys:List TyD):∀(zs:List VaD)(pre:List TyD)(GK:List VaD),pre.length=GK.length->ys.length=zs.length->(pre++ys).length<BE ->
  (∀(i:Nat)(t:TyD)(v:VaD),ys[i]?=some t->zs[i]?=some v->CF (.fn 113) [.val t.enc,.val v.enc] sto=some (.ret (.val (.bool true)),sto)) ->
  ∃s0 s1 s4 s5 s6 s7 s8 s9 s10 Rz,LP 45 (cG Tryz.f45 0) ⟨[.dead,.val (.slice ((GK++zs).map VaD.enc)),.dead,.dead,.dead,.val (.slice ((pre++ys).map TyD.enc)),.val (.int .i64 ((pre++ys).length:Nat)),.val (.int .i64 (pre.length:Nat)),.dead,.dead],sto⟩=some (.exit 0,⟨[s0,s1,s4,s5,s6,s7,s8,s9,s10,Rz],sto⟩):=by
 induction ys with
 |nil =>
  intro zs pre GK EX JA h3 h2;have AR:=MV pre;simp only[Bv];clear EX JA h3 h2;(iterate 10 apply Exists.intro);refine tI rfl ?_;exact wk;all_goals exact .dead
 |cons y ys ih =>
  intro zs pre GK EX JA h3 h2;cases zs with
  |nil=>simp at JA
  |cons z zs =>
  have BI:=tN TyD.enc pre ys y;have EW:=tN VaD.enc GK zs z;rw[<-EX] at EW;have AR:=Kz pre ys y;have h0:=zI pre.length;have hw:=wL pre ys y h3;have hc:=h2 0 y z rfl rfl;obtain⟨s0,s1,s4,s5,s6,s7,s8,s9,s10,Rz,ih⟩:=ih zs (pre++[y]) (GK++[z]) (by simp[EX]) (by simpa using JA) (by simpa using h3) (λi t v h4 h5=>h2 (i+1) t v (by simpa using h4) (by simpa using h5));simp only[As,Ca] at ih;rw[iB y] at BI hc;rw[z.enc_eq] at EW hc;refine⟨s0,s1,s4,s5,s6,s7,s8,s9,s10,Rz,?_⟩;refine tI rfl ?_;clear EX JA h3 h2;exact CT
theorem c45(ts:List TyD)(vs:List VaD)(hl:ts.length=vs.length)(hb:ts.length<BE)(sto:AN)(h:∀(i:Nat)(t:TyD)(v:VaD),ts[i]?=some t->vs[i]?=some v->CF (.fn 113) [.val t.enc,.val v.enc] sto=some (.ret (.val (.bool true)),sto)) :
  CF (.fn 45) [.val (.slice (ts.map TyD.enc)),.val (.slice (vs.map VaD.enc))] sto=some (.ret (.val (.bool true)),sto):=by
 obtain⟨s0,s1,s4,s5,s6,s7,s8,s9,s10,Rz,CC⟩:=aLN sto ts vs [] [] rfl hl (by simpa using hb) h;simp only[Bl,Bi] at CC;clear hl hb h;exact CT
theorem c159(ts:List TyD)(v:VaD)(n:Nat)(hl:ts.length=v.args.length)(sto:AN)(ho:sto.objs[n]?=some (.box (bM v)))(h45:CF (.fn 45) [.val (.slice (ts.map TyD.enc)),.val (.slice (v.args.map VaD.enc))] sto=some (.ret (.val (.bool true)),sto)) :
  CF (.fn 159) [.val (.slice (ts.map TyD.enc)),.val (.loc n 0)] sto=some (.ret (.val (.bool true)),sto):=by
 have he:(((ts.length:Nat):Int)==((v.args.length:Nat):Int))=true:=by simp[hl]
 simp only[bM] at ho;exact CT
inductive kM:TyD->VaD->Prop
 |int (n:Int):kM (.mk [73,110,116] []) (nO n)
 |nil (a:TyD):kM (.mk [76,105,115,116] [a]) (.mk [78,105,108] 0 [])
 |cons (a:TyD) (x l:VaD) (h1:kM a x) (h2:kM (.mk [76,105,115,116] [a]) l):kM (.mk [76,105,115,116] [a]) (.mk [67,111,110,115] 0 [x,l])
 |pair (a b:TyD) (x y:VaD) (h1:kM a x) (h2:kM b y):kM (.mk [44] [a,b]) (.mk [44] 0 [x,y])
 |var (v:VaD):kM (.mk [39,97] []) v
 |varb (v:VaD):kM (.mk [39,98] []) v
theorem zM(ts:List TyD)(v:VaD)(hl:ts.length=v.args.length)(hb:ts.length<BE)(sto:AN)(h:∀(i:Nat)(t:TyD)(w:VaD),ts[i]?=some t->v.args[i]?=some w->∀S:AN,S.lo<=S.objs.length->CF (.fn 113) [.val t.enc,.val w.enc] S=some (.ret (.val (.bool true)),S))(AW:sto.lo<=sto.objs.length) :
  CF (.fn 159) [.val (.slice (ts.map TyD.enc)),.val (.loc sto.objs.length 0)] ⟨sto.objs++[.box (bM v)],sto.lo⟩=some (.ret (.val (.bool true)),⟨sto.objs++[.box (bM v)],sto.lo⟩) :=
 c159 ts v _ hl _ (by simp) (c45 ts v.args hl hb _ λi t w h1 h2=>h i t w h1 h2 _ (by simp;omega))
theorem aQR:∀(t:TyD)(v:VaD),kM t v->∀sto:AN,sto.lo<=sto.objs.length->CF (.fn 113) [.val t.enc,.val v.enc] sto=some (.ret (.val (.bool true)),sto):=by
 intro t v hv;induction hv with
 |int n =>
  intro sto AW;rw[lQ,TyD.enc_mk,Au];exact GJ
 |nil a =>
  intro sto AW;have h:=zM [] (.mk [78,105,108] 0 []) rfl (by simp[BE]) sto (λi t w h1 _=>by simp at h1) AW;simp only[Au,bM,VaD.con,VaD.num,VaD.args] at h;simp only[VaD.enc_mk,TyD.enc_mk,Aw,Au];rw[iB a];exact GJ
 |cons a x l h1 h2 IM H8 =>
  intro sto AW
  have h:=zM [a,.mk [76,105,115,116] [a]] (.mk [67,111,110,115] 0 [x,l]) rfl (by simp[BE]) sto (λi t w h1 h2=>by
   match i with
   |0=>cases h1;cases h2;exact IM
   |1=>cases h1;cases h2;exact H8
   |i+2=>simp at h1) AW
  simp only[Aw,Au,bM,VaD.con,VaD.num,VaD.args,TyD.enc_mk] at h;rw[VaD.enc_eq x,VaD.enc_eq l,iB a] at h;simp only[VaD.enc_mk,TyD.enc_mk,Aw,Au];rw[VaD.enc_eq x,VaD.enc_eq l,iB a];clear IM H8 h1 h2;exact GJ
 |pair a b x y h1 h2 IM H8 =>
  intro sto AW
  have h:=zM [a,b] (.mk [44] 0 [x,y]) rfl (by simp[BE]) sto (λi t w h1 h2=>by
   match i with
   |0=>cases h1;cases h2;exact IM
   |1=>cases h1;cases h2;exact H8
   |i+2=>simp at h1) AW
  simp only[Aw,Au,bM,VaD.con,VaD.num,VaD.args,TyD.enc_mk] at h;rw[VaD.enc_eq x,VaD.enc_eq y,iB a,iB b] at h;simp only[VaD.enc_mk,TyD.enc_mk,Aw,Au];rw[VaD.enc_eq x,VaD.enc_eq y,iB a,iB b];clear IM H8 h1 h2;exact GJ
 |var v =>
  intro sto AW;rw[VaD.enc_eq v,TyD.enc_mk,Au];exact GJ
 |varb v =>
  intro sto AW;rw[VaD.enc_eq v,TyD.enc_mk,Au];exact GJ
theorem c36(nm:List UInt8)(t:TyD)(h:wG nm=some t)(sto:AN):CF (.fn 36) [.val (.str nm)] sto=some (.ret (.tup [t.enc,.bool true]),sto):=by
 refine Li (r:=.ret (.tup [t.enc,.bool true])) ?_ ?_
 ·show some ((wG nm).map λt=>ARes.ret (.tup [t.enc,.bool true]))=_
  rw[h];rfl
 ·rw[iB t];rfl
theorem c41(nm:List UInt8)(t:TyD)(h:wG nm=some t)(sto:AN):CF (.fn 41) [.val (.str nm)] sto=some (.ret (.val (.bool true)),sto):=by
 refine Li (r:=.ret (.val (.bool true))) ?_ rfl;show some ((wG nm).map λ_=>ARes.ret (.val (.bool true)))=_;rw[h];rfl
theorem c26(nm:List UInt8)(l:List TyD)(r:TyD)(ht:wG nm=some (sW l r))(hr:(tyName r==[45,62])=false)(args:List VaD)(hlen:l.length=args.length)(hb:l.length+1<BE)(hv:∀y∈args,y.valid=true/\y.size<BE/\y.cnt<=4000)
  (hh:∀(i:Nat)(t:TyD)(v:VaD),l[i]?=some t->args[i]?=some v->kM t v) (sto:AN) (AW:sto.lo<=sto.objs.length):CF (.fn 26) [.val (.str nm),.val (.slice (args.map VaD.enc))] sto=some (.ret (.val (.int .i64 0)),sto):=by
 have QH:=c36 nm _ ht sto;have Sm:=c41 nm _ ht sto;have h42:=c42 l r hr hb sto;have h43:=c43 args (by omega) hv sto AW;have h45:=c45 l args hlen (by omega) sto (λi t v h1 h2=>aQR t v (hh i t v h1 h2) sto AW);have BD:(((l.length:Nat):Int) != ((args.length:Nat):Int))=false:=by simp[hlen]
 rw[iB (sW l r)] at QH h42;exact CT
theorem H0(nm:List UInt8)(xs:List AVal)(v:VaD)(sto:AN)(QO:CF (.fn 18) [.val (.str nm),.val (.slice xs)] sto=some (.ret (.tup [v.enc,.int .i64 0]),sto)):CF (.fn 10) [.val (.str nm),.val (.slice xs)] sto=some (.ret (.val v.enc),sto):=by
 rw[VaD.enc_eq v] at QO ⊢;exact wk
end Go.Proofs.YtdkkaldimefljaaGreatDoor
