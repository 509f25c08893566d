import Derived.Test.YtoiocfngjchdiaaGreatDoorA10
set_option linter.all false
set_option maxRecDepth 100000
set_option maxHeartbeats 8000000
namespace Go.AM
theorem wA{α:Prop}(h:α:=by with_reducible first|exact Tryz.func4|exact Tryz.func5|exact Tryz.func6|exact Tryz.func7|exact Tryz.func8|exact Tryz.func9|exact Tryz.func10|exact Tryz.func11|exact Tryz.func12|exact Tryz.func13|exact Tryz.func14|exact Tryz.func15|exact Tryz.func16|exact Tryz.func17|exact Tryz.func18|exact Tryz.func22|exact Tryz.func23|exact Tryz.func24|exact Tryz.func27|exact Tryz.func28|exact Tryz.func29|exact Tryz.func31|exact Tryz.func32|exact Tryz.func33|exact Tryz.func34|exact Tryz.func35|exact Tryz.func37|exact Tryz.func39|exact Tryz.func40|exact Tryz.func41|exact Tryz.func42|exact Tryz.func43|exact Tryz.func44|exact Tryz.func45|exact Tryz.func46|exact Tryz.func47|exact Tryz.func48|exact Tryz.func49|exact Tryz.func50|exact Tryz.func55|exact Tryz.func59|exact Tryz.func62|exact Tryz.func63|exact Tryz.func66|exact Tryz.func87|exact Tryz.func88|exact Tryz.func89|exact Tryz.func90|exact Tryz.func91|exact Tryz.func92|exact Tryz.func93|exact Tryz.func94|exact Tryz.func95|exact Tryz.func101|exact Tryz.func102|exact Tryz.func104|exact Tryz.func105|exact Tryz.func106|exact Tryz.func107|exact Tryz.func115|exact Tryz.func116|exact Tryz.func117|exact Tryz.func118|exact Tryz.func119|exact Tryz.func120|exact Tryz.func121|exact Tryz.func122|exact Tryz.func123|exact Tryz.func124|exact Tryz.func125|exact Tryz.func126|exact Tryz.func127|exact Tryz.func128|exact Tryz.func129|exact Tryz.func130|exact Tryz.func132|exact Tryz.func133|exact Tryz.func134|exact Tryz.func135|exact Tryz.func147|exact Tryz.func148|exact Tryz.func149|exact Tryz.func150|exact Tryz.func158|exact Tryz.func159|exact Tryz.func160|exact Tryz.func161|exact Tryz.func162|exact Tryz.func172|exact Tryz.func173|exact Tryz.func174|exact Tryz.func175|exact Tryz.func176|exact Tryz.func177|exact Tryz.func178|exact Tryz.func179|exact Tryz.func180|exact Tryz.func181|exact Tryz.func182|exact Tryz.func183|exact Tryz.func184|exact Tryz.func185|exact Tryz.func186|exact Tryz.func187|exact Tryz.func188|exact Tryz.func189|exact Tryz.func190|exact Tryz.func191|exact Tryz.func192|exact Tryz.func193|exact Tryz.func194|exact Tryz.func195|exact Tryz.func196|exact Tryz.func197|exact Tryz.func198|exact Tryz.func214|exact Tryz.func216|exact Tryz.func217|exact Tryz.func228|exact Tryz.func229|exact Tryz.func230|exact Tryz.func231|exact Tryz.func232|exact Tryz.func233|exact Tryz.func234|exact Tryz.func235|exact Tryz.func236|exact Tryz.func237|exact Tryz.func238|exact Tryz.func239|exact Tryz.func240|exact Tryz.func241|exact Tryz.func243|exact Tryz.func252|exact Tryz.func261|exact Tryz.func262|exact Tryz.func263|exact Tryz.func370|exact Tryz.func371|exact Tryz.func372):α:=h
theorem Uy{α:Type}{X:Option (α×AH)}{r:α}{n:Nat}{S:AH}(hn:S.objs.length=n)(h:X=some (r,⟨S.objs.take n,S.lo⟩)):X=some (r,S):=by
 subst hn;rw[h,List.take_length]
structure Hid (p:Prop):Prop where
 out:p
theorem GR{α β:Prop}(k:β)(h:Hid β->α:=by
 intro k
 first
  |(apply tA
    ·rfl
    ·rfl
    ·exact wA
    ·rfl
    ·rfl
    ·simp only[go_sem];rfl)
  |(apply tBody
    ·exact wA
    ·rfl
    ·rfl
    ·simp only[go_sem];rfl)
  |skip
 refine tQ ?_
 repeat first
  |with_reducible constructor
  |with_reducible refine tW rfl ?_
  |(with_reducible apply tG
    ·kernel_rfl
    ·intro _ _
     repeat (apply BN;(·(intro _;simp only[*,go_sem];rfl)))
     rfl
    ·simp only[go_sem];rfl)
  |((with_reducible apply t1);(·(simp only[go_sem];rfl));(·rfl))
  |((with_reducible apply t0);(·(simp only[go_sem];rfl));(·rfl))
  |((with_reducible apply tl);(·assumption))
  |(with_reducible apply tP
    ·intro _ _
     repeat (apply BN;(·(intro _;simp only[*,go_sem];rfl)))
     apply R1;simp only[*,go_sem];rfl)
  |with_reducible apply Qd
  |with_reducible apply Qf
 all_goals exact k.out):α:=h ⟨k⟩
theorem nT{α β:Prop}(k:β)(h:Hid β->α:=by
 intro k
 first
  |(apply tA
    ·rfl
    ·rfl
    ·exact wA
    ·rfl
    ·rfl
    ·simp only[go_sem];rfl)
  |(apply tBody
    ·exact wA
    ·rfl
    ·rfl
    ·simp only[go_sem];rfl)
  |skip
 refine tQ ?_
 repeat first
  |with_reducible constructor
  |with_reducible refine tW rfl ?_
  |(with_reducible apply tG
    ·kernel_rfl
    ·intro _ _
     repeat (apply BN;(·(intro _;simp only[*,go_sem,Nat.reduceAdd,reduceIte,Ay,b9,clean,flat,List.replicate,Bq,Cw,Cd,Da,cF,Aw,Bj,Dm];rfl)))
     rfl
    ·simp only[go_sem];rfl)
  |((with_reducible apply t1);(·(simp only[go_sem];rfl));(·rfl))
  |((with_reducible apply t0);(·(simp only[go_sem];rfl));(·rfl))
  |((with_reducible apply tl);(·assumption))
  |(with_reducible apply tP
    ·intro _ _
     repeat (apply BN;(·(intro _;simp only[*,go_sem,Nat.reduceAdd,reduceIte,Ay,b9,clean,flat,List.replicate,Bq,Cw,Cd,Da,cF,Aw,Bj,Dm];rfl)))
     apply R1;simp only[*,go_sem,Nat.reduceAdd,reduceIte,Ay,b9,clean,flat,List.replicate,Bq,Cw,Cd,Da,cF,Aw,Bj,Dm];rfl)
  |with_reducible apply Qd
  |with_reducible apply Qf
 all_goals exact k.out):α:=h ⟨k⟩
theorem yP{α β:Prop}(k:β)(h:Hid β->α:=by
 intro k
 first
  |(apply tA
    ·rfl
    ·rfl
    ·exact wA
    ·rfl
    ·rfl
    ·simp only[go_sem];rfl)
  |(apply tY
    ·(simp only[FL,FO];try rfl)
    ·rfl
    ·kernel_rfl
    ·first|assumption|(apply Ah;(try simp only[FL,FO]);omega)
    ·(simp only[dB,List.zip,List.zipWith,List.reverse_cons,List.reverse_nil,go_sem];rfl))
  |(apply tBody
    ·exact wA
    ·rfl
    ·rfl
    ·simp only[go_sem];rfl)
  |skip
 refine tQ ?_
 repeat first
  |with_reducible constructor
  |with_reducible refine tW rfl ?_
  |(with_reducible apply tG
    ·kernel_rfl
    ·intro _ _
     repeat (apply BN;(·(intro _;simp only[*,go_sem,Nat.reduceAdd,reduceIte,FL,FO,Ay,b9,clean,flat,List.replicate,Bq,Cw,Cd,Da,cF,Aw,Bj,Dm];rfl)))
     rfl
    ·simp only[go_sem];rfl)
  |((with_reducible apply t1);(·(simp only[go_sem];rfl));(·rfl))
  |((with_reducible apply t0);(·(simp only[go_sem];rfl));(·rfl))
  |((with_reducible apply tl);(·assumption))
  |((with_reducible apply ty1);(·(simp only[FL,FO];try rfl));(·(simp only[FL,FO];try rfl));refine tQ ?_)
  |((with_reducible apply aZ2);(·(simp only[FL,FO];try rfl));(·(simp only[FL,FO];try rfl)))
  |(with_reducible apply tP
    ·intro _ _
     repeat (apply BN;(·(intro _;simp only[*,go_sem,Nat.reduceAdd,reduceIte,FL,FO,Ay,b9,clean,flat,List.replicate,Bq,Cw,Cd,Da,cF,Aw,Bj,Dm];rfl)))
     apply R1;simp only[*,go_sem,Nat.reduceAdd,reduceIte,FL,FO,Ay,b9,clean,flat,List.replicate,Bq,Cw,Cd,Da,cF,Aw,Bj,Dm];rfl)
  |with_reducible apply Qd
  |with_reducible apply Qf
 all_goals exact k.out):α:=h ⟨k⟩
theorem U1{α β:Prop}(k:β)(h:Hid β->α:=by
 intro k
 first
  |(apply tA
    ·rfl
    ·rfl
    ·exact wA
    ·rfl
    ·rfl
    ·simp only[go_sem];rfl)
  |(apply tBody
    ·exact wA
    ·rfl
    ·rfl
    ·simp only[go_sem];rfl)
  |skip
 refine tQ ?_
 repeat first
  |with_reducible constructor
  |with_reducible refine tW rfl ?_
  |(with_reducible apply tG
    ·kernel_rfl
    ·intro _ _
     repeat (apply BN;(·(intro _;simp only[*,go_sem,Nat.reduceAdd,reduceIte,Ay,b9,clean,flat,List.replicate,Bq,Cw,Cd,Da,cF,Aw,Bj,Dm,partOf,eY,kM,af,pB,Pf];rfl)))
     rfl
    ·simp only[go_sem];rfl)
  |((with_reducible apply t1);(·(simp only[go_sem];rfl));(·rfl))
  |((with_reducible apply t0);(·(simp only[go_sem];rfl));(·rfl))
  |((with_reducible apply tl);(·assumption))
  |(with_reducible apply tP
    ·intro _ _
     repeat (apply BN;(·(intro _;simp only[*,go_sem,Nat.reduceAdd,reduceIte,Ay,b9,clean,flat,List.replicate,Bq,Cw,Cd,Da,cF,Aw,Bj,Dm,partOf,eY,kM,af,pB,Pf];rfl)))
     apply R1;simp only[*,go_sem,Nat.reduceAdd,reduceIte,Ay,b9,clean,flat,List.replicate,Bq,Cw,Cd,Da,cF,Aw,Bj,Dm,partOf,eY,kM,af,pB,Pf];rfl)
  |with_reducible apply Qd
  |with_reducible apply Qf
 all_goals exact k.out):α:=h ⟨k⟩
theorem wk{α:Prop}(h:α:=by
 refine GR ?_;all_goals first|exact l7 rfl|exact ba [_] rfl|exact ba [_,_] rfl|exact ba [_,_,_] rfl|rfl|exact Nx|exact SM|exact Qe|assumption|exact Uy rfl rfl):α:=h
theorem B9{α:Prop}(h:α:=by
 refine nT ?_;all_goals first|exact l7 rfl|exact ba [_] rfl|exact ba [_,_] rfl|exact ba [_,_,_] rfl|rfl|exact Nx|exact SM|exact Qe|assumption|exact Uy rfl rfl):α:=h
theorem G5{α:Prop}(h:α:=by
 refine yP ?_;all_goals first|exact l7 rfl|exact ba [_] rfl|exact ba [_,_] rfl|exact ba [_,_,_] rfl|rfl|exact Nx|exact SM|exact Qe|assumption|exact Uy rfl rfl):α:=h
end Go.AM
noncomputable section
namespace Go.Proofs.YtoiocfngjchdiaaGreatDoor
open Go.AM
attribute [go_sem] jI iX oL aB cR lI lZ gF GU mv DQ kL AM.asInt AM.asBool cZ oY oZ aQP aW bR dJ eH iY e9 bM A6 RS.look RS.put RS.putO bU tlook commit kZ gE l6 iM iL dQ noRefTo aL gN gP dP isNilIface cN Nat.beq Nat.ble Nat.blt cond_true cond_false Bool.and_true Bool.true_and Bool.and_self Bool.not_true Bool.not_false Bool.or_true Bool.or_false Bool.false_or Bool.true_or Bool.and_false Bool.false_and List.all_nil List.all_cons List.contains List.elem Option.bind_some Option.map_some Option.getD_some aYs VO aRX aYv aKE aR0 aR1 aR3 aR2 aYt aYu aYw List.take_succ_cons List.take_zero List.drop_zero List.drop_succ_cons Nat.zero_add Cell.get Cell.lok AM.lok lokF wF partOf List.map_nil List.map_cons List.length_cons List.length_nil List.getElem?_cons_zero List.getElem?_cons_succ List.nil_append List.cons_append List.append_nil List.getElem?_toArray List.toList_toArray Option.bind_none Option.map_none aSJ aSK aSL aMB aSQ setCells List.take_append_drop List.drop_nil List.take_nil List.isEmpty_nil List.isEmpty_cons aWw aWy aWz aWW aPz sz0 ag0 by0 Tryz.underlying0 sz3 ag3 zo3 zc3 by3 Tryz.underlying3 sz4 ag4 zo4 zc4 by4 Tryz.underlying4 sz9 ag9 zo9 zc9 by9 Tryz.underlying9 aZr aV2 aZd a0v aZ7 aXh Tryz.underlying22 aZv aV6 a0y a0a aXl Tryz.underlying30 aYY aLb aLc aLd aZC aWd aZg a0D a0f aXs Tryz.underlying43 aWG aWI aWK aPA aPY aTD aO9 aVm aUN aRf Tryz.underlying149 aTC aO8 aVl aUM aRe Tryz.underlying148 aTS aPo aVz aU0 aRu Tryz.underlying221 aWx aWC aWH aWT aWU aWX aPR aPT aZw aV7 a0z a0b aXm Tryz.underlying31 aTs aOY aVb aUC aQ4 Tryz.underlying117 aTt aOZ aVc aUD aQ5 Tryz.underlying118 aTr aOX aVa aUB aQ3 Tryz.underlying107 aWS aWV aQm aZG aWh aZi a0F a0h aXw Tryz.underlying58 aZH aWi a0G a0i aXx Tryz.underlying60 aY1 aLh aLi aWQ aPG aPH aPO aPQ aP7 aP8 aQe aQg aQh aQi aQj aQk aQl aQn aQt aQu aQv aQw aQz aQA aQB aQC aQD aQE aQG aQH aQI aZs aV3 aZe a0w aZ8 aXi Tryz.underlying24 aZF aWg aZh a0E a0g aXv Tryz.underlying57 aZI aWj aZj a0H a0j aXy Tryz.underlying65 aZJ aWk aZk a0I a0k aXz Tryz.underlying66 aZK aWl a0J a0l aXA Tryz.underlying68 aY2 aZM aWn aZl a0K a0m aXC Tryz.underlying71 aZN aWo a0L a0n aXD Tryz.underlying73 aY3 aZO aWp aZm a0M a0o aXE Tryz.underlying74 aZP aWq a0N a0p aXF Tryz.underlying76 aY4 aTp aOV aU8 aUz aQ1 Tryz.underlying103 aTz aO5 aVi aUJ aRb Tryz.underlying141 aS6 aTT aPp aVA aU1 aRv Tryz.underlying242 aTc aTV aPr aVC aU3 aRx Tryz.underlying249 aTd aTK aPg aVt aUU aRm Tryz.underlying175 aTJ aPf aVs aUT aRl Tryz.underlying173 aTI aPe aVr aUS aRk Tryz.underlying170 aTU aPq aVB aU2 aRw Tryz.underlying246 aTq aOW aU9 aUA aQ2 Tryz.underlying104 aTW aPs aVD aU4 aRy Tryz.underlying252 aPx aPU aQp aQL aQM aQN aTu aO0 aVd aUE aQ6 Tryz.underlying132 aTw aO2 aVf aUG aQ8 Tryz.underlying136 aTL aPh aVu aUV aRn Tryz.underlying209 aTa aZq aV1 a0u aZ6 aXg Tryz.underlying20 aZR aWs a0P a0r aXH Tryz.underlying89 aY5 aFL aFM aFN aTZ aPv aRB Tryz.underlying283 aT0 aPw aVF aU6 aRC Tryz.underlying285 aFQ aFR aSN aSO aSM aTN aPj aVw aUX aRp Tryz.underlying211 aTO aPk aTn aVx aUY aRq Tryz.underlying212 aTP aPl aVy aUZ aRr Tryz.underlying214 aTb aFO aFP aFS aPW aPX aQo aQF aZx aV8 aXn Tryz.underlying32 aTM aPi aVv aUW aRo Tryz.underlying210 aTY aPu aRA Tryz.underlying281 aTA aO6 aVj aUK aRc Tryz.underlying142 aLo aLn aWJ aPV sz1 ag1 zo1 zc1 by1 Tryz.underlying1 aZQ aWr a0O a0q aXG Tryz.underlying87 aZS aWt a0Q a0s aXI Tryz.underlying91 aY6 aPB aPC aP1 aP2 aP3 aP4 aP5 aP6 aQc aQd aQr aQs aQx aQy aTE aPa aVn aUO aRg Tryz.underlying163 aTF aPb aVo aUP aRh Tryz.underlying165 aS8 aTG aPc aVp aUQ aRi Tryz.underlying166 aTH aPd aVq aUR aRj Tryz.underlying168 aS9 aFI aFK aFJ aWN aWO aPE aPF aZt aV4 a0x aZ9 aXj Tryz.underlying26 aYX aLa aLs aLt aLr aFU aLv aLw aFE aLx aPM aPN aPZ aP9 aQa aPD aP0 aQb aQq aLj aLk aLm aLl aWE aWM aWP aWR aPI aPJ aPK aPL aPP aQf aLu aLp aLq aFC aFD aFT aPS aTX aPt aVE aU5 aRz Tryz.underlying257 aWF aZU aWv aXK Tryz.underlying95 Vo aTy aO4 aVh aUI aRa Tryz.underlying139 aTB aO7 aVk aUL aRd Tryz.underlying144 aS7 aTQ aPm aRs Tryz.underlying218 aTR aPn aRt Tryz.underlying219 aLz aFG aFH aFF aPy aWL aWD Yx aZy aV9 aZf a0A a0c aXo Tryz.underlying34 aZB aWc a0C a0e aXr Tryz.underlying41 aY0 aZT aWu a0R a0t aXJ Tryz.underlying94 aTv aO1 aVe aUF aQ7 Tryz.underlying133 aTx aO3 aTm aVg aUH aQ9 Tryz.underlying138 aLg Yy aZz aWa a0B a0d aXp Tryz.underlying36 aYZ aLe QD an9 aLy aLf an7 aWA aWB aZE aWf aXu Tryz.underlying55 aZL aWm aXB Tryz.underlying69 aZD aWe aXt Tryz.underlying48 aZu aV5 aXk Tryz.underlying27 aZA aWb aXq Tryz.underlying37 an4
attribute [go_sem_proc] Nat.reduceAdd reduceIte
inductive PaD where
 |mk (kind:Int) (name:List UInt8) (args:List PaD)
def PaD.kind:PaD->Int|.mk k _ _=>k
def PaD.name:PaD->List UInt8|.mk _ n _=>n
def PaD.args:PaD->List PaD|.mk _ _ al=>al
mutual
def PaD.enc:PaD->AVal
 |.mk k n al=>.agg [.int .i64 k,.str n,.slice (PaD.encs al)]
def PaD.encs:List PaD->List AVal
 |[]=>[]
 |t::ts=>t.enc::PaD.encs ts
end
theorem PaD.encs_eq(l:List PaD):PaD.encs l=l.map PaD.enc:=by
 induction l with
 |nil=>simp[PaD.encs]
 |cons t ts ih=>simp[PaD.encs,ih]
theorem PaD.enc_mk(k:Int)(n:List UInt8)(al:List PaD):(PaD.mk k n al).enc=.agg [.int .i64 k,.str n,.slice (al.map PaD.enc)]:=by simp[PaD.enc,PaD.encs_eq]
theorem PaD.enc_eq(t:PaD):t.enc=.agg [.int .i64 t.kind,.str t.name,.slice (t.args.map PaD.enc)]:=by cases t;exact PaD.enc_mk _ _ _
mutual
def PaD.size:PaD->Nat
 |.mk _ n al=>n.length+1+PaD.sizes al
def PaD.sizes:List PaD->Nat
 |[]=>0
 |t::ts=>t.size+1+PaD.sizes ts
end
theorem PaD.sizes_len(l:List PaD):l.length<=PaD.sizes l:=by
 induction l with
 |nil=>simp[PaD.sizes]
 |cons t ts ih=>simp only[PaD.sizes,An];omega
theorem PaD.sizes_mem{t:PaD}:∀{l:List PaD},t∈l->t.size<PaD.sizes l
 |x::l,h=>by
  simp only[PaD.sizes];rcases Au.1 h with h|h
  ·subst h;omega
  ·have:=PaD.sizes_mem h;omega
theorem PaD.args_len(t:PaD):t.args.length<t.size:=by
 cases t;simp only[PaD.args,PaD.size];have:=PaD.sizes_len ‹_›;omega
theorem PaD.args_size{t a:PaD}(h:a∈t.args):a.size<t.size:=by
 cases t;simp only[PaD.args] at h;simp only[PaD.size];have:=PaD.sizes_mem h;omega
theorem PaD.ind{p:PaD->Prop}(h:∀t,(∀a∈t.args,p a)->p t):∀t,p t:=by
 have:∀n t,t.size<n->p t:=by
  intro n;induction n with
  |zero=>intro t ht;omega
  |succ n ih=>intro t ht;exact h t λa ha=>ih a (by have:=PaD.args_size ha;omega)
 exact λt=>this (t.size+1) t (by omega)
inductive ExD where
 |mk (kind num:Int) (name arg:List UInt8) (args:List ExD) (pats:List PaD)
def ExD.kind:ExD->Int|.mk k _ _ _ _ _=>k
def ExD.num:ExD->Int|.mk _ n _ _ _ _=>n
def ExD.name:ExD->List UInt8|.mk _ _ n _ _ _=>n
def ExD.arg:ExD->List UInt8|.mk _ _ _ a _ _=>a
def ExD.args:ExD->List ExD|.mk _ _ _ _ al _=>al
def ExD.pats:ExD->List PaD|.mk _ _ _ _ _ pl=>pl
mutual
def ExD.enc:ExD->AVal
 |.mk k n nm a al pl=>.agg [.int .i64 k,.int .i64 n,.str nm,.str a,.slice (ExD.encs al),.slice (pl.map PaD.enc)]
def ExD.encs:List ExD->List AVal
 |[]=>[]
 |t::ts=>t.enc::ExD.encs ts
end
theorem ExD.encs_eq(l:List ExD):ExD.encs l=l.map ExD.enc:=by
 induction l with
 |nil=>simp[ExD.encs]
 |cons t ts ih=>simp[ExD.encs,ih]
theorem ExD.enc_mk(k n:Int)(nm a:List UInt8)(al:List ExD)(pl:List PaD):(ExD.mk k n nm a al pl).enc=.agg [.int .i64 k,.int .i64 n,.str nm,.str a,.slice (al.map ExD.enc),.slice (pl.map PaD.enc)]:=by simp[ExD.enc,ExD.encs_eq]
theorem ExD.enc_eq(t:ExD):t.enc=.agg [.int .i64 t.kind,.int .i64 t.num,.str t.name,.str t.arg,.slice (t.args.map ExD.enc),.slice (t.pats.map PaD.enc)]:=by cases t;exact ExD.enc_mk _ _ _ _ _ _
mutual
def ExD.size:ExD->Nat
 |.mk _ _ n a al pl=>n.length+a.length+1+ExD.sizes al+PaD.sizes pl
def ExD.sizes:List ExD->Nat
 |[]=>0
 |t::ts=>t.size+1+ExD.sizes ts
end
theorem ExD.sizes_len(l:List ExD):l.length<=ExD.sizes l:=by
 induction l with
 |nil=>simp[ExD.sizes]
 |cons t ts ih=>simp only[ExD.sizes,An];omega
theorem ExD.sizes_mem{t:ExD}:∀{l:List ExD},t∈l->t.size<ExD.sizes l
 |x::l,h=>by
  simp only[ExD.sizes];rcases Au.1 h with h|h
  ·subst h;omega
  ·have:=ExD.sizes_mem h;omega
theorem ExD.args_len(t:ExD):t.args.length<t.size:=by
 cases t;simp only[ExD.args,ExD.size];have:=ExD.sizes_len ‹_›;omega
theorem ExD.args_size{t a:ExD}(h:a∈t.args):a.size<t.size:=by
 cases t;simp only[ExD.args] at h;simp only[ExD.size];have:=ExD.sizes_mem h;omega
theorem ExD.ind{p:ExD->Prop}(h:∀t,(∀a∈t.args,p a)->p t):∀t,p t:=by
 have:∀n t,t.size<n->p t:=by
  intro n;induction n with
  |zero=>intro t ht;omega
  |succ n ih=>intro t ht;exact h t λa ha=>ih a (by have:=ExD.args_size ha;omega)
 exact λt=>this (t.size+1) t (by omega)
mutual
inductive ItD where
 |num (n:Int)
 |mk (c:List UInt8) (l:List ItD)
 |fn (a:List UInt8) (b:ExD) (e:EnD)
inductive EnD where
 |nil
 |cons (n:List UInt8) (i:ItD) (o:EnD)
 |rc (f a:List UInt8) (b:ExD) (o:EnD)
end
mutual
def ItD.enc:ItD->AVal
 |.num n=>.iface 210 (.int .i64 n)
 |.mk c l=>.iface 211 (.cptr (.agg [.str c,.slice (ItD.encs l)]))
 |.fn a b e=>.iface 139 (.cptr (.agg [.str a,.cptr b.enc,e.enc]))
def ItD.encs:List ItD->List AVal
 |[]=>[]
 |t::ts=>t.enc::ItD.encs ts
def EnD.enc:EnD->AVal
 |.nil=>.nilptr
 |.cons n i o=>.cptr (.agg [.str n,i.enc,o.enc])
 |.rc f a b o=>.rc 139 f a (.cptr b.enc) o.enc
end
theorem ItD.encs_eq(l:List ItD):ItD.encs l=l.map ItD.enc:=by
 induction l with
 |nil=>simp[ItD.encs]
 |cons t ts ih=>simp[ItD.encs,ih]
theorem ItD.enc_num(n:Int):(ItD.num n).enc=.iface 210 (.int .i64 n):=by rw[ItD.enc]
theorem ItD.enc_mk(c:List UInt8)(l:List ItD):(ItD.mk c l).enc=.iface 211 (.cptr (.agg [.str c,.slice (l.map ItD.enc)])):=by rw[ItD.enc,ItD.encs_eq]
theorem ItD.enc_fn(a:List UInt8)(b:ExD)(e:EnD):(ItD.fn a b e).enc=.iface 139 (.cptr (.agg [.str a,.cptr b.enc,e.enc])):=by rw[ItD.enc]
theorem EnD.enc_nil:EnD.nil.enc=.nilptr:=by rw[EnD.enc]
theorem EnD.enc_cons(n:List UInt8)(i:ItD)(o:EnD):(EnD.cons n i o).enc=.cptr (.agg [.str n,i.enc,o.enc]):=by rw[EnD.enc]
theorem EnD.enc_rc(f a:List UInt8)(b:ExD)(o:EnD):(EnD.rc f a b o).enc=.rc 139 f a (.cptr b.enc) o.enc:=by rw[EnD.enc]
theorem ItD.form(i:ItD):∃t v,i.enc=.iface t v/\flatA v=true/\clean v=true:=by
 cases i with
 |num n=>exact⟨_,_,ItD.enc_num n,rfl,rfl⟩
 |mk c l=>exact⟨_,_,ItD.enc_mk c l,rfl,rfl⟩
 |fn a b e=>exact⟨_,_,ItD.enc_fn a b e,rfl,rfl⟩
def EnD.find:EnD->List UInt8->Option ItD
 |.nil,_=>none
 |.cons n i o,s=>bif n==s then some i else o.find s
 |.rc f a b o,s=>bif f==s then some (.fn a b (.rc f a b o)) else o.find s
def qM:List UInt8:=[84,114,117,101]
def kP:List UInt8:=[70,97,108,115,101]
def JL(s:List UInt8)(x y:Int):Option ItD :=
 bif s==[43] then some (.num (IntKind.i64.wrap (x+y)))
 else bif s==[45] then some (.num (IntKind.i64.wrap (x-y)))
 else bif s==[60] then some (.mk (bif decide (x<y) then qM else kP) [])
 else bif s==[61] then some (.mk (bif x==y then qM else kP) [])
 else none
mutual
def PaD.mtc:PaD->ItD->EnD->EnD×Bool
 |.mk k n al,x,e=>bif k==1 then(e,true) else bif k==2 then(.cons n x e,true) else
  match x with
  |.mk c l=>bif c==n&&l.length==al.length then PaD.mtcs al l e else(e,false)
  |_=>(e,false)
def PaD.mtcs:List PaD->List ItD->EnD->EnD×Bool
 |p::ps,x::xs,e=>bif (p.mtc x e).2 then PaD.mtcs ps xs (p.mtc x e).1 else((p.mtc x e).1,false)
 |_,_,e=>(e,true)
end
def eu:List PaD->List ExD->ItD->EnD->Option (ExD×EnD)
 |p::ps,a::l,v,e=>bif (p.mtc v e).2 then some (a,(p.mtc v e).1) else eu ps l v e
 |_,_,_,_=>none
mutual
inductive Ev:ExD->EnD->ItD->Nat->Prop
 |num {n:Int} {nm a:List UInt8} {al:List ExD} {pl:List PaD} {e:EnD}:Ev (.mk 1 n nm a al pl) e (.num n) 1
 |var {m:Int} {nm a:List UInt8} {al:List ExD} {pl:List PaD} {e:EnD} {i:ItD} (h:e.find nm=some i):Ev (.mk 2 m nm a al pl) e i 1
 |con {m:Int} {nm a:List UInt8} {al:List ExD} {pl:List PaD} {e:EnD} {l:List ItD} {n:Nat} (hs:al.length<1000) (h:EvL al e l n):Ev (.mk 3 m nm a al pl) e (.mk nm l) (n+1)
 |fn {m:Int} {nm a:List UInt8} {b:ExD} {al:List ExD} {pl:List PaD} {e:EnD}:Ev (.mk 5 m nm a (b::al) pl) e (.fn a b e) 1
 |op {m:Int} {nm a:List UInt8} {al:List ExD} {pl:List PaD} {e:EnD} {x y:Int} {v:ItD} {n:Nat} (h:EvL al e [.num x,.num y] n) (ho:JL nm x y=some v):Ev (.mk 9 m nm a al pl) e v (n+1)
 |app {m:Int} {nm a:List UInt8} {al:List ExD} {pl:List PaD} {e:EnD} {f:List UInt8} {b:ExD} {c:EnD} {v r:ItD} {n k:Nat} (h:EvL al e [.fn f b c,v] n) (h2:Ev b (.cons f v c) r k):Ev (.mk 4 m nm a al pl) e r (n+k+1)
 |recf {m:Int} {nm a:List UInt8} {b c:ExD} {al:List ExD} {pl:List PaD} {e:EnD} {r:ItD} {k:Nat} (h:Ev c (.rc nm a b e) r k):Ev (.mk 7 m nm a (b::c::al) pl) e r (k+1)
 |case {m:Int} {nm a:List UInt8} {b c:ExD} {al:List ExD} {pl:List PaD} {e e':EnD} {v r:ItD} {n k:Nat} (hs:PaD.sizes pl<4294967296) (h:Ev b e v n) (ha:eu pl al v e=some (c,e')) (h2:Ev c e' r k):Ev (.mk 8 m nm a (b::al) pl) e r (n+k+1)
inductive EvL:List ExD->EnD->List ItD->Nat->Prop
 |nil {e:EnD}:EvL [] e [] 0
 |cons {a:ExD} {l:List ExD} {e:EnD} {v:ItD} {vs:List ItD} {n k:Nat} (h:Ev a e v n) (t:EvL l e vs k):EvL (a::l) e (v::vs) (n+k)
end
structure CoD where
 name:List UInt8
 args:List TyD
structure FuD where
 name:List UInt8
 arg:List UInt8
 body:ExD
structure DeD where
 kind:Int
 dname:List UInt8
 vars:List (List UInt8)
 cons:List CoD
 name:List UInt8
 tname:List UInt8
 targs:List TyD
 funs:List FuD
 body:ExD
def CoD.enc(c:CoD):AVal:=.agg [.str c.name,.slice (c.args.map TyD.enc)]
def FuD.enc(f:FuD):AVal:=.agg [.str f.name,.str f.arg,.int .i64 f.body.kind,.int .i64 f.body.num,.str f.body.name,.str f.body.arg,.slice (f.body.args.map ExD.enc),.slice (f.body.pats.map PaD.enc)]
def DeD.enc(d:DeD):AVal:=.agg [.int .i64 d.kind,.str d.dname,.slice (d.vars.map .str),.slice (d.cons.map CoD.enc),.str d.name,.str d.tname,.slice (d.targs.map TyD.enc),.slice (d.funs.map FuD.enc),.int .i64 d.body.kind,.int .i64 d.body.num,.str d.body.name,.str d.body.arg,.slice (d.body.args.map ExD.enc),.slice (d.body.pats.map PaD.enc)]
def kH:ExD:=.mk 0 0 [] [] [] []
def l9(f:FuD):DeD:=⟨3,[],[],[],[],[],[],[f],kH⟩
def cU(n:List UInt8)(e:ExD):DeD:=⟨5,[],[],[],n,[],[],[],e⟩
def mS:List DeD->EnD->EnD->EnD×EnD
 |[],fe,ne=>(fe,ne)
 |d::l,fe,ne=>match d.funs with
  |[f]=>mS l (.rc f.name f.arg f.body fe) (.cons f.name (.fn f.arg f.body (.rc f.name f.arg f.body fe)) ne)
  |_=>mS l fe ne
def iw(d:DeD):Prop:=d.kind=1/\d.funs=[]\/∃f,d=l9 f
end Go.Proofs.YtoiocfngjchdiaaGreatDoor
end
namespace Go.Proofs.YtoiocfngjchdiaaGreatDoor
open Go.AM
section
variable [Aps]
theorem Yo(s:List UInt8)(l:List VaD)(sto:AH):CF (.fn 106) [.val (.str s),.val (.slice (l.map VaD.enc))] sto=some (.ret (.val (VaD.mk s 0 l).enc),sto):=by
 rw[VaD.enc_mk];exact wk
def cM(n:Int):VaD:=.mk [] n []
mutual
def VaD.alike:VaD->VaD->Bool
 |.mk c n al,.mk d m bl=>(c==d)&&(n==m)&&VaD.alikes al bl
def VaD.alikes:List VaD->List VaD->Bool
 |[],[]=>true
 |a::al,b::bl=>a.alike b&&VaD.alikes al bl
 |[],_::_=>false
 |_::_,[]=>false
end
theorem aMh(s:List UInt8)(n:Int)(sto:AH)(ys:List VaD):∀(pre:List VaD),(pre++ys).length+1<AV->(∀y∈ys,CF (.fn 29) [.val y.enc] sto=some (.ret (.val y.enc),sto)) ->
  ∃s0 s1 s5 BZ Ia G7 FA,LP 29 (aS Tryz.f29 0) ⟨[.dead,.dead,.box [.val (.str []),.val (.int .i64 0),.own 3 []],.box [.val (.str s),.val (.int .i64 n),.own 3 (pre.map VaD.enc)],.dead,.val (.slice ((pre++ys).map VaD.enc)),.val (.int .i64 ((pre++ys).length:Nat)),.val (.int .i64 (pre.length:Nat)),.dead],sto⟩ =
   some (.exit 0,⟨[s0,s1,.box [.val (.str []),.val (.int .i64 0),.own 3 []],.box [.val (.str s),.val (.int .i64 n),.own 3 ((pre++ys).map VaD.enc)],s5,BZ,Ia,G7,FA],sto⟩):=by
 induction ys with
 |nil =>
  intro pre h3 h2;have AL:=DL pre;simp only[Ao];iterate 7 apply Exists.intro
  refine tI rfl ?_;exact wk;all_goals exact .dead
 |cons y ys ih =>
  intro pre h3 h2;have AN:=dK VaD.enc pre ys y;have AL:=CY pre ys y;have h0:=zI pre.length;have hw:=wL pre ys y (by omega);have hc:=h2 y (by simp);have hr:Nat.ble (pre.length+1) room=true:=by apply Ah;simp only[room];simp only[Bm,An,AV] at h3;omega
  have emap:(pre++[y]).map VaD.enc=pre.map VaD.enc++[y.enc]:=by simp
  obtain⟨s0,s1,s5,BZ,Ia,G7,FA,ih⟩:=ih (pre++[y]) (by simpa using h3) (λx hx=>h2 x (by simp[hx]));rw[emap] at ih;rw[y.enc_eq] at AN hc ih;simp only[Aj,Am] at ih;refine⟨s0,s1,s5,BZ,Ia,G7,FA,?_⟩;refine tI rfl ?_;exact B9
theorem c29:∀(v:VaD)(sto:AH),v.size<AV->CF (.fn 29) [.val v.enc] sto=some (.ret (.val v.enc),sto):=by
 intro v;induction v using VaD.ind with
 |h v ih =>
  intro sto hs;obtain⟨s0,s1,s5,BZ,Ia,G7,FA,hl⟩:=aMh v.con v.num sto v.args [] (by have:=v.args_len;simp only[Ak,AV] at hs ⊢;omega) (λy hy=>ih y hy sto (by have:=VaD.args_size hy;omega));simp only[Ak,Ar,Ax] at hl;rw[v.enc_eq];apply tA;rfl;rfl;exact Tryz.func29;rfl;rfl;simp only[go_sem];rfl;refine tQ ?_;repeat first|with_reducible constructor|with_reducible refine tW rfl ?_|((with_reducible apply tG);(·kernel_rfl);(·(intro _ _;(repeat (apply BN;(·(intro _;simp only[Ay,go_sem];rfl))));rfl));(·(simp only[go_sem];rfl)))
  apply tL;exact hl;exact wk
def nilS:List UInt8:=[78,105,108]
def r8:List UInt8:=[67,111,110,115]
def bB:List VaD->VaD
 |[]=>.mk nilS 0 []
 |v::l=>.mk r8 0 [v,bB l]
mutual
def VaD.cnt:VaD->Nat
 |.mk _ _ al=>1+VaD.cnts al
def VaD.cnts:List VaD->Nat
 |[]=>0
 |t::ts=>t.cnt+VaD.cnts ts
end
theorem VaD.cnt_eq(v:VaD):v.cnt=1+VaD.cnts v.args:=by cases v;rfl
theorem VaD.cnt_pos(v:VaD):0<v.cnt:=by rw[VaD.cnt_eq];omega
theorem aXf(n:Nat):Nat.blt n n=false:=by
 simp only[Nat.blt];exact Fh.2 λh=>by have:=Ad h;omega
theorem aYz{P:Program}{an:AF}{fn:Func}{n:Nat}{tm:List Slot}{sto:AH}{v:AVal}{t:Nat}(h2:fn.results.toList=[.tmp t])(h3:tlook an.keep tm t=.val v)(h4:lok n v=false):finish P an fn n ⟨tm,sto⟩=some (.ret (.val v),sto):=by
 simp only[finish,h2,fL,h3,DQ,trim,cF,h4,Be]
theorem aXM(l:List VaD)(sto:AH):CF (.fn 107) [.val (.slice (l.map VaD.enc))] sto=some (.ret (.val (.func 162 [.loc sto.objs.length 0])),⟨sto.objs++[.box [.val (.slice (l.map VaD.enc))]],sto.lo⟩):=by
 refine yP ?_;refine aYz (t:=2) rfl rfl ?_;simp only[lok,Gb,lokF,aXf,Fz]
noncomputable def ek(O:List AObj)(lo:Nat)(bl:AObj)(tm:List Slot)(s:List UInt8)(n:Int)(c:Cell)(pd:Option Code)(st:LoopState):AH :=
 ⟨O++[.box [.val (.str s),.val (.int .i64 n),c],bl,.loop (qI 35 Tryz.f35 0 tm pd st)],lo⟩
theorem aRH(v w:VaD)(S:AH):CF (.fn 106) [.val (.str [67,111,110,115]),.val (.slice [v.enc,w.enc])] S=some (.ret (.val (.agg [.str [67,111,110,115],.int .i64 0,.slice [v.enc,w.enc]])),S):=by
 have:=Yo [67,111,110,115] [v,w] S
 simpa only[Bb,Ax,VaD.enc_mk] using this
theorem y23{O:List AObj}{lo:Nat}(AP:lo<=O.length){bl:AObj}{k:Int}{v w:VaD}{c:Cell}(hc:c=.val (.slice (w.args.map VaD.enc))\/(c=.own 3 []/\w.args=[])){s0 s2 s5 s8 s9 s10} :
  CF (.yld (O.length+2)) [.val (.int .i64 k),.val v.enc] (ek O lo bl [s0,s2,.val (.loc O.length 0),s5,s8,s9,s10] w.con w.num c none .ready) =
   some (.ret (.val (.bool true)),ek O lo bl [s0,s2,.val (.loc O.length 0),s5,s8,s9,s10] [67,111,110,115] 0 (.val (.slice [v.enc,w.enc])) none .ready):=by
 have RL:Nat.ble lo O.length=true:=Ah (by omega);have h38:=λS=>aRH v w S
 rw[v.enc_eq,w.enc_eq] at *;unfold ek;rcases hc with rfl|⟨rfl,hw⟩
 ·
  exact yP trivial
 ·rw[hw,Ax] at h38
  rw[hw,Ax];exact yP trivial
theorem aGb{j a:Nat}(S:List VaD->AH)(l:List VaD)(hl:l.length<AV)(ha:∀ys,(S ys).objs[a]?=some (.box [.val (.slice (l.map VaD.enc))]))
  (hy:∀pre y ys,l=pre++y::ys->CF (.yld j) [.val (.int .i64 (pre.length:Nat)),.val y.enc] (S ys)=some (.ret (.val (.bool true)),S (y::ys))) :
  ∀(m:Nat)(xs ys:List VaD)(i:Int),xs.length=m->i=(m:Int)-1->l=xs++ys ->
  ∃s0 s1 s3 s8 DD,LP 162 (aS Tryz.f162 0) ⟨[.val (.yld j),.val (.loc a 0),.val (.int .i64 i),.dead,.dead],S ys⟩=some (.exit 0,⟨[s0,s1,s3,s8,DD],S l⟩):=by
 intro m;induction m with
 |zero =>
  intro xs ys i hx hi RA
  have:=Cs hx
  subst this;subst hi;rw[RA];have AL:decide ((((0:Nat):Int)-1)>=0)=false:=rfl;iterate 5 apply Exists.intro
  refine tI rfl ?_;exact wk;all_goals exact .dead
 |succ m ih =>
  intro xs ys i hx hi RA;obtain⟨Hn,y,rfl⟩:∃Hn y,xs=Hn++[y]:=⟨xs.dropLast,xs.getLast (λe=>by subst e;simp at hx),(List.dropLast_concat_getLast _).symm⟩
  have GW:Hn.length=m:=by simpa using hx
  have DZ:i=((m:Nat):Int):=by rw[hi];omega
  subst DZ;have hlx':l=Hn++y::ys:=by rw[RA];simp
  have J8:decide (((m:Nat):Int)>=0)=true:=by simp
  have h0:=zI m
  have AN:(l.map VaD.enc)[((m:Nat):Int).toNat]?=some y.enc:=by
   rw[hlx',<-GW];exact dK VaD.enc Hn ys y
  have hm:m<AV:=by rw[hlx'] at hl;simp at hl;omega
  have hw:IntKind.i64.wrap (((m:Nat):Int)-1)=((m:Nat):Int)-1:=by rw[sk (by omega) (by simp only[AV] at hm;omega)]
  have hc:=hy Hn y ys hlx';have C0:=ha ys;rw[GW] at hc;rw[y.enc_eq] at AN hc;obtain⟨s0,s1,s3,s8,DD,ih⟩:=ih Hn (y::ys) (((m:Nat):Int)-1) GW rfl hlx';refine⟨s0,s1,s3,s8,DD,?_⟩;refine tI rfl ?_;clear hx hi RA GW hlx' hm hl hy ha;exact wk
theorem aXY{j a:Nat}(S:List VaD->AH)(l:List VaD)(hl:l.length<AV)(ha:∀ys,(S ys).objs[a]?=some (.box [.val (.slice (l.map VaD.enc))]))
  (hy:∀pre y ys,l=pre++y::ys->CF (.yld j) [.val (.int .i64 (pre.length:Nat)),.val y.enc] (S ys)=some (.ret (.val (.bool true)),S (y::ys))) :
  CF (.fn 162) [.val (.yld j),.val (.loc a 0)] (S [])=some (.ret (.tup []),⟨(S l).objs.take (S []).objs.length,(S l).lo⟩):=by
 have C0:=ha [];have hw:IntKind.i64.wrap (((l.length:Nat):Int)-1)=((l.length:Nat):Int)-1:=by rw[sk (by omega) (by simp only[AV] at hl;omega)]
 obtain⟨s0,s1,s3,s8,DD,BJ⟩:=aGb S l hl ha hy l.length l [] _ rfl rfl (by simp);clear hy ha hl;exact B9
theorem aQ0(n:Nat):Nat.ble n (n+1)=true:=Ah (by omega)
theorem aRI(S:AH):CF (.fn 106) [.val (.str [78,105,108]),.val (.slice [])] S=some (.ret (.val (.agg [.str [78,105,108],.int .i64 0,.slice []])),S):=by
 have:=Yo [78,105,108] [] S
 simpa only[Ax,VaD.enc_mk] using this
theorem aHb{O:List AObj}{lo:Nat}(AP:lo<=O.length){bl:AObj}{s0 s2 s5 s8 s9 s10}(pre:List VaD)(y:VaD)(ys:List VaD) :
  CF (.yld (O.length+2)) [.val (.int .i64 (pre.length:Nat)),.val y.enc] (ek O lo bl [s0,s2,.val (.loc O.length 0),s5,s8,s9,s10] (bB ys).con (bB ys).num (.val (.slice ((bB ys).args.map VaD.enc))) none .ready) =
   some (.ret (.val (.bool true)),ek O lo bl [s0,s2,.val (.loc O.length 0),s5,s8,s9,s10] (bB (y::ys)).con (bB (y::ys)).num (.val (.slice ((bB (y::ys)).args.map VaD.enc))) none .ready):=by
 have:=y23 (k:=(pre.length:Nat)) (v:=y) (w:=bB ys) (bl:=bl) AP (.inl rfl) (s0:=s0) (s2:=s2) (s5:=s5) (s8:=s8) (s9:=s9) (s10:=s10)
 simpa only[bB,VaD.args,VaD.con,VaD.num,Bb,Ax,r8] using this
theorem c35(l:List VaD)(hl:l.length<AV)(sto:AH)(AP:sto.lo<=sto.objs.length):CF (.fn 35) [.val (.slice (l.map VaD.enc))] sto=some (.ret (.val (bB l).enc),sto):=by
 have RL:Nat.ble sto.lo sto.objs.length=true:=Ah (by omega);have h39:=λs=>aXM l s
 have hc:=λs0 s2 s5 s8 s9 s10=>aXY (j:=sto.objs.length+2) (a:=sto.objs.length+1)
  (λys=>ek sto.objs sto.lo (.box [.val (.slice (l.map VaD.enc))]) [s0,s2,.val (.loc sto.objs.length 0),s5,s8,s9,s10] (bB ys).con (bB ys).num (.val (.slice ((bB ys).args.map VaD.enc))) none .ready) l hl
  (λys=>by simp only[ek,FL,FO]) (λpre y ys _=>aHb AP (s0:=s0) (s2:=s2) (s5:=s5) (s8:=s8) (s9:=s9) (s10:=s10) pre y ys)
 simp only[ek,FL,FO] at hc;have e0:(bB []).con=[78,105,108]/\(bB []).num=0/\(bB []).args.map VaD.enc=[]:=⟨rfl,rfl,rfl⟩
 rw[e0.1,e0.2.1,e0.2.2] at hc;rw[VaD.enc_eq (bB l)];apply tA;rfl;rfl;exact Tryz.func35;rfl;rfl;simp only[go_sem];rfl;refine tQ ?_;repeat first|with_reducible constructor|with_reducible refine tW rfl ?_|((with_reducible apply tG);(·kernel_rfl);(·(intro _ _;(repeat (apply BN;(·(intro _;simp only[FL,FO,aRI,h39,RL,aQ0,Dc,Aw,go_sem];rfl))));rfl));(·(simp only[go_sem];rfl)))
 with_reducible apply tGn
 ·rfl
 ·simp only[FL,FO]
  exact hc _ _ _ _ _ _
 ·simp only[FL,FO]
  rfl
 ·simp only[FL,FO]
  rfl
 exact G5
theorem vX:∀l:List VaD,(bB l).size<=VaD.sizes l+6*l.length+4
 |[]=>by simp[bB,VaD.size,VaD.sizes,nilS]
 |v::l=>by
  have:=vX l
  simp only[bB,VaD.size,VaD.sizes,r8,An,Ar];omega
theorem Xi(l:List VaD)(sto:AH)(hs:VaD.sizes l+6*l.length+4<AV)(AP:sto.lo<=sto.objs.length):CF (.fn 12) [.val (.slice (l.map VaD.enc))] sto=some (.ret (.val (bB l).enc),sto):=by
 have BC:=vX l;have Jd:=c35 l (by omega) sto AP;have RT:=c29 (bB l) sto (by omega);rw[VaD.enc_eq (bB l)] at *;exact wk
theorem c6(sto:AH):CF (.fn 6) [] sto=some (.ret (.val (.bool true)),sto):=NM (r:=.ret (.val (.bool true))) rfl rfl
theorem aCO(n:Int):(cM n).enc=.agg [.str [],.int .i64 n,.slice []]:=by simp only[cM,VaD.enc_mk,Ax]
end
def vals(l:List Int):List AVal:=l.map λn=>.agg [.str [],.int .i64 n,.slice []]
theorem mh(a b:List Int):vals (a++b)=vals a++vals b:=by simp[vals]
theorem aEG(a:List Int):(vals a).length=a.length:=by simp[vals]
section
variable [Aps]
def kT(n:Int):AVal:=.int .i64 n
theorem Xj(l:List Int)(hl:l.length<AV)(sto:AH):CF (.fn 11) [.val (.slice (l.map kT))] sto=some (.ret (.val (.slice ((l.take 30).map kT))),sto):=by
 by_cases h:l.length<=30
 ·have hgt:decide (((l.length:Nat):Int)>30)=false:=by simp;omega
  rw[Bs h];exact B9
 ·have hgt:decide (((l.length:Nat):Int)>30)=true:=by simp;omega
  have e1:(List.drop (Int.toNat 0) (List.take (Int.toNat 30) (l.map kT)))=(l.take 30).map kT:=by
   rw[List.map_take];rfl
  have hle:decide ((30:Int)<=((l.length:Nat):Int))=true:=by simp;omega
  have B7:((l.take 30).map kT).all (λy=>Nat.beq y.cells.length 1)=true:=by
   rw[As];intro x hx;obtain⟨n,_,rfl⟩:=Cm.1 hx;rfl
  have hhd:bh 1 ((l.take 30).map kT)=true:=by
   cases l with
   |nil=>rfl
   |cons a l=>rfl
  have hlen:((l.take 30).map kT).length=30:=by simp;omega
  exact B9
theorem aMg(sto:AH)(ys:List Int):∀(pre:List Int),(pre++ys).length+1<AV ->
  ∃s0 s2 s4 s8,LP 13 (aS Tryz.f13 0) ⟨[.val (.slice ((pre++ys).map kT)),.dead,.own 3 (vals pre),.val (.int .i64 (pre.length:Nat)),.dead],sto⟩=some (.exit 0,⟨[s0,s2,.own 3 (vals (pre++ys)),s4,s8],sto⟩):=by
 induction ys with
 |nil =>
  intro pre h3;have AL:=DL pre;simp only[Ao];iterate 4 apply Exists.intro
  refine tI rfl ?_;exact B9;all_goals exact .dead
 |cons y ys ih =>
  intro pre h3;have AN:=dK kT pre ys y;have AL:=CY pre ys y;have h0:=zI pre.length;have hw:=wL pre ys y (by omega);have hr:Nat.ble ((vals pre).length+1) room=true:=by apply Ah;simp only[room,aEG];simp only[Bm,An,AV] at h3;omega
  have emap:vals (pre++[y])=vals pre++[.agg [.str [],.int .i64 y,.slice []]]:=by rw[mh];rfl
  obtain⟨s0,s2,s4,s8,ih⟩:=ih (pre++[y]) (by simpa using h3);rw[emap] at ih;simp only[Aj,Am] at ih;simp only[kT] at AN;refine⟨s0,s2,s4,s8,?_⟩;refine tI rfl ?_;exact B9
theorem Xh(l:List Int)(hl:l.length+1<AV)(sto:AH):CF (.fn 13) [.val (.slice (l.map kT))] sto=some (.ret (.val (.slice (vals l))),sto):=by
 obtain⟨s0,s2,s4,s8,BJ⟩:=aMg sto l [] (by simpa using hl);have e0:vals []=[]:=rfl;simp only[Ak,Ar,e0] at BJ;apply tA;rfl;rfl;exact Tryz.func13;rfl;rfl;simp only[go_sem];rfl;refine tQ ?_;repeat first|with_reducible constructor|with_reducible refine tW rfl ?_|((with_reducible apply tG);(·kernel_rfl);(·(intro _ _;(repeat (apply BN;(·(intro _;simp only[Ay,go_sem];rfl))));rfl));(·(simp only[go_sem];rfl)))
 apply tL;exact BJ;exact wk
end
end Go.Proofs.YtoiocfngjchdiaaGreatDoor
