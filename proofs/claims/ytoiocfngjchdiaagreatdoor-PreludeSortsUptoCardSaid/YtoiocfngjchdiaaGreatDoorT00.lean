import Derived.Test.YtoiocfngjchdiaaGreatDoorA10
set_option linter.all false
namespace Go.AM
theorem zza(c:List ae):(ae.agg c).cells=c:=rfl
theorem zzb(b:Bool):(ae.bool b).cells=[.bool b]:=rfl
theorem zzc(s:List UInt8):(ae.str s).cells=[.str s]:=rfl
theorem zzd(s:List ae):(ae.slice s).cells=[.slice s]:=rfl
theorem zze(f:FuncId)(l:List ae):(ae.func f l).cells=[.func f l]:=rfl
theorem zzf:(ae.kQ).cells=[.kQ]:=rfl
theorem zzg:(ae.cW).cells=[.cW]:=rfl
theorem zzh:(ae.ld).cells=[.ld]:=rfl
theorem zzi(i o:Nat):(ae.loc i o).cells=[.loc i o]:=rfl
theorem zzj(i:Nat):(ae.ln i).cells=[.ln i]:=rfl
theorem zzk(i:Nat):(ae.bN i).cells=[.bN i]:=rfl
attribute [go_sem] zza zzb zzc zzd zze zzf zzg zzh zzi zzj zzk
end Go.AM
set_option maxRecDepth 100000
set_option maxHeartbeats 8000000
namespace Go.AM
theorem wA{α:Prop}(h:α:=by with_reducible first|exact Tryz.func5|exact Tryz.func7|exact Tryz.func8|exact Tryz.func9|exact Tryz.func10|exact Tryz.func11|exact Tryz.func12|exact Tryz.func13|exact Tryz.func15|exact Tryz.func16|exact Tryz.func17|exact Tryz.func18|exact Tryz.func22|exact Tryz.func23|exact Tryz.func24|exact Tryz.func27|exact Tryz.func28|exact Tryz.func29|exact Tryz.func31|exact Tryz.func32|exact Tryz.func33|exact Tryz.func34|exact Tryz.func35|exact Tryz.func39|exact Tryz.func40|exact Tryz.func41|exact Tryz.func42|exact Tryz.func43|exact Tryz.func44|exact Tryz.func45|exact Tryz.func47|exact Tryz.func48|exact Tryz.func49|exact Tryz.func50|exact Tryz.func89|exact Tryz.func95|exact Tryz.func102|exact Tryz.func104|exact Tryz.func105|exact Tryz.func106|exact Tryz.func107|exact Tryz.func115|exact Tryz.func116|exact Tryz.func117|exact Tryz.func118|exact Tryz.func119|exact Tryz.func120|exact Tryz.func121|exact Tryz.func122|exact Tryz.func123|exact Tryz.func124|exact Tryz.func125|exact Tryz.func126|exact Tryz.func127|exact Tryz.func128|exact Tryz.func129|exact Tryz.func130|exact Tryz.func132|exact Tryz.func133|exact Tryz.func148|exact Tryz.func150|exact Tryz.func158|exact Tryz.func159|exact Tryz.func160|exact Tryz.func161|exact Tryz.func162|exact Tryz.func172|exact Tryz.func173|exact Tryz.func174|exact Tryz.func175|exact Tryz.func176|exact Tryz.func177|exact Tryz.func178|exact Tryz.func179|exact Tryz.func180|exact Tryz.func181|exact Tryz.func182|exact Tryz.func183|exact Tryz.func184|exact Tryz.func185|exact Tryz.func186|exact Tryz.func187|exact Tryz.func188|exact Tryz.func189|exact Tryz.func190|exact Tryz.func191|exact Tryz.func193|exact Tryz.func194|exact Tryz.func195|exact Tryz.func196|exact Tryz.func214|exact Tryz.func216|exact Tryz.func217|exact Tryz.func228|exact Tryz.func229|exact Tryz.func230|exact Tryz.func231|exact Tryz.func232|exact Tryz.func233|exact Tryz.func234|exact Tryz.func235|exact Tryz.func236|exact Tryz.func237|exact Tryz.func238|exact Tryz.func239|exact Tryz.func240|exact Tryz.func241|exact Tryz.func243|exact Tryz.func252|exact Tryz.func261|exact Tryz.func262|exact Tryz.func263|exact Tryz.func370|exact Tryz.func371|exact Tryz.func372):α:=h
theorem Vr{α:Type}{X:Option (α×AH)}{r:α}{n:Nat}{S:AH}(hn:S.objs.length=n)(h:X=some (r,⟨S.objs.take n,S.lo⟩)):X=some (r,S):=by
 subst hn;rw[h,List.take_length]
structure Hid (p:Prop):Prop where
 out:p
theorem GZ{α β:Prop}(k:β)(h:Hid β->α:=by
 intro k
 first
  |(apply tA
    ·rfl
    ·rfl
    ·exact wA
    ·rfl
    ·rfl
    ·simp only[go_sem];rfl)
  |(apply xp
    ·exact wA
    ·rfl
    ·rfl
    ·simp only[go_sem];rfl)
  |skip
 refine tQ ?_
 repeat first
  |with_reducible constructor
  |with_reducible refine tW rfl ?_
  |(with_reducible apply tG
    ·kernel_rfl
    ·intro _ _
     repeat (apply BL;(·(intro _;simp only[*,go_sem];rfl)))
     rfl
    ·simp only[go_sem];rfl)
  |((with_reducible apply t1);(·(simp only[go_sem];rfl));(·rfl))
  |((with_reducible apply t0);(·(simp only[go_sem];rfl));(·rfl))
  |((with_reducible apply tl);(·assumption))
  |(with_reducible apply tP
    ·intro _ _
     repeat (apply BL;(·(intro _;simp only[*,go_sem];rfl)))
     apply SM;simp only[*,go_sem];rfl)
  |with_reducible apply RO
  |with_reducible apply RT
 all_goals exact k.out):α:=h ⟨k⟩
theorem l9{α β:Prop}(k:β)(h:Hid β->α:=by
 intro k
 first
  |(apply tA
    ·rfl
    ·rfl
    ·exact wA
    ·rfl
    ·rfl
    ·simp only[go_sem];rfl)
  |(apply xp
    ·exact wA
    ·rfl
    ·rfl
    ·simp only[go_sem];rfl)
  |skip
 refine tQ ?_
 repeat first
  |with_reducible constructor
  |with_reducible refine tW rfl ?_
  |(with_reducible apply tG
    ·kernel_rfl
    ·intro _ _
     repeat (apply BL;(·(intro _;simp only[*,go_sem,Nat.reduceAdd,reduceIte,Ay,cB,clean,flat,List.replicate,Bu,Db,Cf,Cd,cF,Ax,Bg,Dk];rfl)))
     rfl
    ·simp only[go_sem];rfl)
  |((with_reducible apply t1);(·(simp only[go_sem];rfl));(·rfl))
  |((with_reducible apply t0);(·(simp only[go_sem];rfl));(·rfl))
  |((with_reducible apply tl);(·assumption))
  |(with_reducible apply tP
    ·intro _ _
     repeat (apply BL;(·(intro _;simp only[*,go_sem,Nat.reduceAdd,reduceIte,Ay,cB,clean,flat,List.replicate,Bu,Db,Cf,Cd,cF,Ax,Bg,Dk];rfl)))
     apply SM;simp only[*,go_sem,Nat.reduceAdd,reduceIte,Ay,cB,clean,flat,List.replicate,Bu,Db,Cf,Cd,cF,Ax,Bg,Dk];rfl)
  |with_reducible apply RO
  |with_reducible apply RT
 all_goals exact k.out):α:=h ⟨k⟩
theorem zG{α β:Prop}(k:β)(h:Hid β->α:=by
 intro k
 first
  |(apply tA
    ·rfl
    ·rfl
    ·exact wA
    ·rfl
    ·rfl
    ·simp only[go_sem];rfl)
  |(apply tY
    ·(simp only[FL,FO];try rfl)
    ·rfl
    ·kernel_rfl
    ·first|assumption|(apply Ah;(try simp only[FL,FO]);omega)
    ·(simp only[dH,List.zip,List.zipWith,List.reverse_cons,List.reverse_nil,go_sem];rfl))
  |(apply xp
    ·exact wA
    ·rfl
    ·rfl
    ·simp only[go_sem];rfl)
  |skip
 refine tQ ?_
 repeat first
  |with_reducible constructor
  |with_reducible refine tW rfl ?_
  |(with_reducible apply tG
    ·kernel_rfl
    ·intro _ _
     repeat (apply BL;(·(intro _;simp only[*,go_sem,Nat.reduceAdd,reduceIte,FL,FO,Ay,cB,clean,flat,List.replicate,Bu,Db,Cf,Cd,cF,Ax,Bg,Dk];rfl)))
     rfl
    ·simp only[go_sem];rfl)
  |((with_reducible apply t1);(·(simp only[go_sem];rfl));(·rfl))
  |((with_reducible apply t0);(·(simp only[go_sem];rfl));(·rfl))
  |((with_reducible apply tl);(·assumption))
  |((with_reducible apply ty1);(·(simp only[FL,FO];try rfl));(·(simp only[FL,FO];try rfl));refine tQ ?_)
  |((with_reducible apply aXN);(·(simp only[FL,FO];try rfl));(·(simp only[FL,FO];try rfl)))
  |(with_reducible apply tP
    ·intro _ _
     repeat (apply BL;(·(intro _;simp only[*,go_sem,Nat.reduceAdd,reduceIte,FL,FO,Ay,cB,clean,flat,List.replicate,Bu,Db,Cf,Cd,cF,Ax,Bg,Dk];rfl)))
     apply SM;simp only[*,go_sem,Nat.reduceAdd,reduceIte,FL,FO,Ay,cB,clean,flat,List.replicate,Bu,Db,Cf,Cd,cF,Ax,Bg,Dk];rfl)
  |with_reducible apply RO
  |with_reducible apply RT
 all_goals exact k.out):α:=h ⟨k⟩
theorem VS{α β:Prop}(k:β)(h:Hid β->α:=by
 intro k
 first
  |(apply tA
    ·rfl
    ·rfl
    ·exact wA
    ·rfl
    ·rfl
    ·simp only[go_sem];rfl)
  |(apply xp
    ·exact wA
    ·rfl
    ·rfl
    ·simp only[go_sem];rfl)
  |skip
 refine tQ ?_
 repeat first
  |with_reducible constructor
  |with_reducible refine tW rfl ?_
  |(with_reducible apply tG
    ·kernel_rfl
    ·intro _ _
     repeat (apply BL;(·(intro _;simp only[*,go_sem,Nat.reduceAdd,reduceIte,Ay,cB,clean,flat,List.replicate,Bu,Db,Cf,Cd,cF,Ax,Bg,Dk,partOf,fB,lF,cw,qB,QW];rfl)))
     rfl
    ·simp only[go_sem];rfl)
  |((with_reducible apply t1);(·(simp only[go_sem];rfl));(·rfl))
  |((with_reducible apply t0);(·(simp only[go_sem];rfl));(·rfl))
  |((with_reducible apply tl);(·assumption))
  |(with_reducible apply tP
    ·intro _ _
     repeat (apply BL;(·(intro _;simp only[*,go_sem,Nat.reduceAdd,reduceIte,Ay,cB,clean,flat,List.replicate,Bu,Db,Cf,Cd,cF,Ax,Bg,Dk,partOf,fB,lF,cw,qB,QW];rfl)))
     apply SM;simp only[*,go_sem,Nat.reduceAdd,reduceIte,Ay,cB,clean,flat,List.replicate,Bu,Db,Cf,Cd,cF,Ax,Bg,Dk,partOf,fB,lF,cw,qB,QW];rfl)
  |with_reducible apply RO
  |with_reducible apply RT
 all_goals exact k.out):α:=h ⟨k⟩
theorem wk{α:Prop}(h:α:=by
 refine GZ ?_;all_goals first|exact jZ rfl|exact dx [_] rfl|exact dx [_,_] rfl|exact dx [_,_,_] rfl|rfl|exact RP|exact TI|exact RQ|assumption|exact Vr rfl rfl):α:=h
theorem BP{α:Prop}(h:α:=by
 refine l9 ?_;all_goals first|exact jZ rfl|exact dx [_] rfl|exact dx [_,_] rfl|exact dx [_,_,_] rfl|rfl|exact RP|exact TI|exact RQ|assumption|exact Vr rfl rfl):α:=h
theorem G0{α:Prop}(h:α:=by
 refine zG ?_;all_goals first|exact jZ rfl|exact dx [_] rfl|exact dx [_,_] rfl|exact dx [_,_,_] rfl|rfl|exact RP|exact TI|exact RQ|assumption|exact Vr rfl rfl):α:=h
end Go.AM
noncomputable section
namespace Go.Proofs.YtoiocfngjchdiaaGreatDoor
open Go.AM
attribute [go_sem] j3 iA pE aC cY fX mM gN Gz mv DS lD AM.asInt AM.asBool dD pS pT aT bS dO eN jQ fH bO AZ RS.look RS.put RS.jq bV bg ed lS gM mP jE jD dW uw aJ gZ hH dV isNilIface cO Nat.beq Nat.ble Nat.blt cond_true cond_false Bool.and_true Bool.true_and Bool.and_self Bool.not_true Bool.not_false Bool.or_true Bool.or_false Bool.false_or Bool.true_or Bool.and_false Bool.false_and List.all_nil List.all_cons List.contains List.elem Option.bind_some Option.map_some Option.getD_some WC List.take_succ_cons List.take_zero List.drop_zero List.drop_succ_cons Nat.zero_add Cell.get Cell.ct AM.ct js xH partOf List.map_nil List.map_cons List.length_cons List.length_nil List.getElem?_cons_zero List.getElem?_cons_succ List.nil_append List.cons_append List.append_nil List.getElem?_toArray List.toList_toArray Option.bind_none Option.map_none setCells List.take_append_drop List.drop_nil List.take_nil List.isEmpty_nil List.isEmpty_cons aU5 aU7 aU8 aQF Tryz.underlying0 sz3 ag3 zo3 zc3 by3 Tryz.underlying3 Tryz.underlying4 sz9 ag9 zo9 Tryz.underlying9 aXl aUM aXb Tryz.underlying22 aXo aUP aX2 aXS aVO Tryz.underlying30 aWX aMu aMv aMw aXe Tryz.underlying43 aVg aVi aVk aQG aQ1 Tryz.underlying149 Tryz.underlying148 Tryz.underlying221 aQV aU6 aVb aVh aVs aVt aVw aQT aQW aXp aUQ aXT Tryz.underlying31 Tryz.underlying117 Tryz.underlying118 Tryz.underlying107 aVr aVu aRj aXu aUU aXg Tryz.underlying58 aXv aUV aX4 aXW aVQ Tryz.underlying60 aMA aMB aVq aQL P_ aQR aQS aQ7 aQ8 aRd aRe aRf aRg aRh LS aRi aRk aRo L_ aRp Mu M7 aRq aKa aRr aKb aRs aRu aRv aRw aXm aUN aXc Tryz.underlying24 aXt aUT aXf Tryz.underlying57 aXw aUW aXh Tryz.underlying65 aXx aUX Tryz.underlying66 aXy aUY aX5 aXX aVR Tryz.underlying68 aWZ aXz aUZ Tryz.underlying71 aXA aU0 Tryz.underlying73 aXB aU1 Tryz.underlying74 aXC aU2 aX6 aXY aVS Tryz.underlying76 aW0 aTv aQm Tryz.underlying103 aTB aQr aUr Tryz.underlying141 aTO aQz aUx Tryz.underlying242 aTQ aQB aUy Tryz.underlying249 aTK aQx Tryz.underlying175 aTJ aQw Tryz.underlying173 aTI aQv Tryz.underlying170 aTP aQA Tryz.underlying246 aTw aQn Tryz.underlying104 aTR aQC Tryz.underlying252 aQD aQX aRm aRz aRA aRB aTy aQo Tryz.underlying132 aTz aQp aUA aRQ Tryz.underlying136 aTL aUv Tryz.underlying209 aTg Tryz.underlying20 aXE aU4 aX0 Tryz.underlying89 aW1 aGE aGF aGG Tryz.underlying283 Tryz.underlying285 aGJ aGK aSU aSV aST aUD Tryz.underlying211 aTM aQy aTt Tryz.underlying212 aTN aUw Tryz.underlying214 aTh aGH aGI aGL aQZ aQ0 aRl aRt Tryz.underlying32 aUC Tryz.underlying210 Tryz.underlying281 aTC aQs Tryz.underlying142 aMH aMG aVj aQY sz1 ag1 Tryz.underlying1 aXD aU3 aXZ Tryz.underlying87 aXF aX1 Tryz.underlying91 aW2 aQH aQI aQ3 R5 aQ4 aQ5 R_ aQ6 aRb aRc L1 L2 Mw M6 aTE aQt Tryz.underlying163 aTF aUt Tryz.underlying165 aTe aTG aQu Tryz.underlying166 aTH aUu Tryz.underlying168 aTf aGB aGD aGC aVn aVo aQJ aQK aXn aUO aXR Tryz.underlying26 aMt aML aMM aMK aGN aMO aMP aGx aMQ aQQ QV Q_ LI aQ9 P' aQ2 aRa aRn aMC aMD aMF aME aVe aVm aVp aRC aQM aQN aQO aQP Q' LJ aMN aMI aMJ aGv aGw aGM aQU Tryz.underlying257 aVf Tryz.underlying95 XA aTA aQq aUB aRR Tryz.underlying139 aTD aUs Tryz.underlying144 aTd Tryz.underlying218 Tryz.underlying219 aMS aGz aGA aGy aQE aVl aVd Zu aXq aUR aXd Tryz.underlying34 aXs aX3 aXV aVP Tryz.underlying41 aWY Tryz.underlying94 Tryz.underlying133 aTs Tryz.underlying138 aMz Zv aXr aUS aXU Tryz.underlying36 aMx RA an9 aMR aMy an7 aU9 Tryz.underlying55 Tryz.underlying69 Tryz.underlying48 Tryz.underlying27 Tryz.underlying37 Jf Tryz.underlying45 Tryz.underlying80 Tryz.underlying81 aVa aVc aVv aTx Tryz.underlying109 an5 Tryz.underlying50
attribute [go_sem_proc] Nat.reduceAdd reduceIte
inductive ag where
 |mk (kind:Int) (name:List UInt8) (args:List ag)
def ag.kind:ag->Int|.mk k _ _=>k
def ag.name:ag->List UInt8|.mk _ n _=>n
def ag.args:ag->List ag|.mk _ _ al=>al
mutual
def ag.enc:ag->ae
 |.mk k n al=>.agg [.int .i64 k,.str n,.slice (ag.jj al)]
def ag.jj:List ag->List ae
 |[]=>[]
 |t::ts=>t.enc::ag.jj ts
end
theorem ag.qc(l:List ag):ag.jj l=l.map ag.enc:=by
 induction l with
 |nil=>simp[ag.jj]
 |cons t ts ih=>simp[ag.jj,ih]
theorem ag.ce(k:Int)(n:List UInt8)(al:List ag):(ag.mk k n al).enc=.agg [.int .i64 k,.str n,.slice (al.map ag.enc)]:=by simp[ag.enc,ag.qc]
theorem ag.aw(t:ag):t.enc=.agg [.int .i64 t.kind,.str t.name,.slice (t.args.map ag.enc)]:=by cases t;exact ag.ce _ _ _
mutual
def ag.size:ag->Nat
 |.mk _ n al=>n.length+1+ag.f_ al
def ag.f_:List ag->Nat
 |[]=>0
 |t::ts=>t.size+1+ag.f_ ts
end
theorem ag.tM(l:List ag):l.length<=ag.f_ l:=by
 induction l with
 |nil=>simp[ag.f_]
 |cons t ts ih=>simp only[ag.f_,Ak];omega
theorem ag.qk{t:ag}:∀{l:List ag},t∈l->t.size<ag.f_ l
 |x::l,h=>by
  simp only[ag.f_];rcases As.1 h with h|h
  ·subst h;omega
  ·have:=ag.qk h;omega
theorem ag.p_(t:ag):t.args.length<t.size:=by
 cases t;simp only[ag.args,ag.size];have:=ag.tM ‹_›;omega
theorem ag.m7{t a:ag}(h:a∈t.args):a.size<t.size:=by
 cases t;simp only[ag.args] at h;simp only[ag.size];have:=ag.qk h;omega
theorem ag.ind{p:ag->Prop}(h:∀t,(∀a∈t.args,p a)->p t):∀t,p t:=by
 have:∀n t,t.size<n->p t:=by
  intro n;induction n with
  |zero=>intro t ht;omega
  |succ n ih=>intro t ht;exact h t λa ha=>ih a (by have:=ag.m7 ha;omega)
 exact λt=>this (t.size+1) t (by omega)
inductive af where
 |mk (kind num:Int) (name arg:List UInt8) (args:List af) (ez:List ag)
def af.kind:af->Int|.mk k _ _ _ _ _=>k
def af.num:af->Int|.mk _ n _ _ _ _=>n
def af.name:af->List UInt8|.mk _ _ n _ _ _=>n
def af.arg:af->List UInt8|.mk _ _ _ a _ _=>a
def af.args:af->List af|.mk _ _ _ _ al _=>al
def af.ez:af->List ag|.mk _ _ _ _ _ pl=>pl
mutual
def af.enc:af->ae
 |.mk k n nm a al pl=>.agg [.int .i64 k,.int .i64 n,.str nm,.str a,.slice (af.jj al),.slice (pl.map ag.enc)]
def af.jj:List af->List ae
 |[]=>[]
 |t::ts=>t.enc::af.jj ts
end
theorem af.qc(l:List af):af.jj l=l.map af.enc:=by
 induction l with
 |nil=>simp[af.jj]
 |cons t ts ih=>simp[af.jj,ih]
theorem af.ce(k n:Int)(nm a:List UInt8)(al:List af)(pl:List ag):(af.mk k n nm a al pl).enc=.agg [.int .i64 k,.int .i64 n,.str nm,.str a,.slice (al.map af.enc),.slice (pl.map ag.enc)]:=by simp[af.enc,af.qc]
theorem af.aw(t:af):t.enc=.agg [.int .i64 t.kind,.int .i64 t.num,.str t.name,.str t.arg,.slice (t.args.map af.enc),.slice (t.ez.map ag.enc)]:=by cases t;exact af.ce _ _ _ _ _ _
mutual
def af.size:af->Nat
 |.mk _ _ n a al pl=>n.length+a.length+1+af.f_ al+ag.f_ pl
def af.f_:List af->Nat
 |[]=>0
 |t::ts=>t.size+1+af.f_ ts
end
theorem af.tM(l:List af):l.length<=af.f_ l:=by
 induction l with
 |nil=>simp[af.f_]
 |cons t ts ih=>simp only[af.f_,Ak];omega
theorem af.qk{t:af}:∀{l:List af},t∈l->t.size<af.f_ l
 |x::l,h=>by
  simp only[af.f_];rcases As.1 h with h|h
  ·subst h;omega
  ·have:=af.qk h;omega
theorem af.p_(t:af):t.args.length<t.size:=by
 cases t;simp only[af.args,af.size];have:=af.tM ‹_›;omega
theorem af.m7{t a:af}(h:a∈t.args):a.size<t.size:=by
 cases t;simp only[af.args] at h;simp only[af.size];have:=af.qk h;omega
theorem af.ind{p:af->Prop}(h:∀t,(∀a∈t.args,p a)->p t):∀t,p t:=by
 have:∀n t,t.size<n->p t:=by
  intro n;induction n with
  |zero=>intro t ht;omega
  |succ n ih=>intro t ht;exact h t λa ha=>ih a (by have:=af.m7 ha;omega)
 exact λt=>this (t.size+1) t (by omega)
mutual
inductive au where
 |num (n:Int)
 |mk (c:List UInt8) (l:List au)
 |fn (a:List UInt8) (b:af) (e:aq)
inductive aq where
 |nil
 |cons (n:List UInt8) (i:au) (o:aq)
 |rc (f a:List UInt8) (b:af) (o:aq)
end
mutual
def au.enc:au->ae
 |.num n=>.iface 210 (.int .i64 n)
 |.mk c l=>.iface 211 (.ay (.agg [.str c,.slice (au.jj l)]))
 |.fn a b e=>.iface 139 (.ay (.agg [.str a,.ay b.enc,e.enc]))
def au.jj:List au->List ae
 |[]=>[]
 |t::ts=>t.enc::au.jj ts
def aq.enc:aq->ae
 |.nil=>.cW
 |.cons n i o=>.ay (.agg [.str n,i.enc,o.enc])
 |.rc f a b o=>.rc 139 f a (.ay b.enc) o.enc
end
theorem au.qc(l:List au):au.jj l=l.map au.enc:=by
 induction l with
 |nil=>simp[au.jj]
 |cons t ts ih=>simp[au.jj,ih]
theorem au.qb(n:Int):(au.num n).enc=.iface 210 (.int .i64 n):=by rw[au.enc]
theorem au.ce(c:List UInt8)(l:List au):(au.mk c l).enc=.iface 211 (.ay (.agg [.str c,.slice (l.map au.enc)])):=by rw[au.enc,au.qc]
theorem au.tp(a:List UInt8)(b:af)(e:aq):(au.fn a b e).enc=.iface 139 (.ay (.agg [.str a,.ay b.enc,e.enc])):=by rw[au.enc]
theorem aq.sh:aq.nil.enc=.cW:=by rw[aq.enc]
theorem aq.oX(n:List UInt8)(i:au)(o:aq):(aq.cons n i o).enc=.ay (.agg [.str n,i.enc,o.enc]):=by rw[aq.enc]
theorem aq.oa(f a:List UInt8)(b:af)(o:aq):(aq.rc f a b o).enc=.rc 139 f a (.ay b.enc) o.enc:=by rw[aq.enc]
theorem au.form(i:au):∃t v,i.enc=.iface t v/\oc v=true/\clean v=true:=by
 cases i with
 |num n=>exact⟨_,_,au.qb n,rfl,rfl⟩
 |mk c l=>exact⟨_,_,au.ce c l,rfl,rfl⟩
 |fn a b e=>exact⟨_,_,au.tp a b e,rfl,rfl⟩
def aq.find:aq->List UInt8->Option au
 |.nil,_=>none
 |.cons n i o,s=>bif n==s then some i else o.find s
 |.rc f a b o,s=>bif f==s then some (.fn a b (.rc f a b o)) else o.find s
def rF:List UInt8:=[84,114,117,101]
def lI:List UInt8:=[70,97,108,115,101]
def MV(s:List UInt8)(x y:Int):Option au :=
 bif s==[43] then some (.num (IntKind.i64.wrap (x+y)))
 else bif s==[45] then some (.num (IntKind.i64.wrap (x-y)))
 else bif s==[60] then some (.mk (bif decide (x<y) then rF else lI) [])
 else bif s==[61] then some (.mk (bif x==y then rF else lI) [])
 else none
mutual
def ag.jd:ag->au->aq->aq×Bool
 |.mk k n al,x,e=>bif k==1 then(e,true) else bif k==2 then(.cons n x e,true) else
  match x with
  |.mk c l=>bif c==n&&l.length==al.length then ag.kM al l e else(e,false)
  |_=>(e,false)
def ag.kM:List ag->List au->aq->aq×Bool
 |p::ps,x::xs,e=>bif (p.jd x e).2 then ag.kM ps xs (p.jd x e).1 else((p.jd x e).1,false)
 |_,_,e=>(e,true)
end
def jh:List ag->List af->au->aq->Option (af×aq)
 |p::ps,a::l,v,e=>bif (p.jd v e).2 then some (a,(p.jd v e).1) else jh ps l v e
 |_,_,_,_=>none
mutual
inductive Ev:af->aq->au->Nat->Prop
 |num {n:Int} {nm a:List UInt8} {al:List af} {pl:List ag} {e:aq}:Ev (.mk 1 n nm a al pl) e (.num n) 1
 |var {m:Int} {nm a:List UInt8} {al:List af} {pl:List ag} {e:aq} {i:au} (h:e.find nm=some i):Ev (.mk 2 m nm a al pl) e i 1
 |bh {m:Int} {nm a:List UInt8} {al:List af} {pl:List ag} {e:aq} {l:List au} {n:Nat} (hs:al.length<1000) (h:oI al e l n):Ev (.mk 3 m nm a al pl) e (.mk nm l) (n+1)
 |fn {m:Int} {nm a:List UInt8} {b:af} {al:List af} {pl:List ag} {e:aq}:Ev (.mk 5 m nm a (b::al) pl) e (.fn a b e) 1
 |op {m:Int} {nm a:List UInt8} {al:List af} {pl:List ag} {e:aq} {x y:Int} {v:au} {n:Nat} (h:oI al e [.num x,.num y] n) (ho:MV nm x y=some v):Ev (.mk 9 m nm a al pl) e v (n+1)
 |app {m:Int} {nm a:List UInt8} {al:List af} {pl:List ag} {e:aq} {f:List UInt8} {b:af} {c:aq} {v r:au} {n k:Nat} (h:oI al e [.fn f b c,v] n) (h2:Ev b (.cons f v c) r k):Ev (.mk 4 m nm a al pl) e r (n+k+1)
 |u9 {m:Int} {nm a:List UInt8} {b c:af} {al:List af} {pl:List ag} {e:aq} {r:au} {k:Nat} (h:Ev c (.rc nm a b e) r k):Ev (.mk 7 m nm a (b::c::al) pl) e r (k+1)
 |case {m:Int} {nm a:List UInt8} {b c:af} {al:List af} {pl:List ag} {e e':aq} {v r:au} {n k:Nat} (hs:ag.f_ pl<4294967296) (h:Ev b e v n) (ha:jh pl al v e=some (c,e')) (h2:Ev c e' r k):Ev (.mk 8 m nm a (b::al) pl) e r (n+k+1)
inductive oI:List af->aq->List au->Nat->Prop
 |nil {e:aq}:oI [] e [] 0
 |cons {a:af} {l:List af} {e:aq} {v:au} {vs:List au} {n k:Nat} (h:Ev a e v n) (t:oI l e vs k):oI (a::l) e (v::vs) (n+k)
end
structure gf where
 name:List UInt8
 args:List ah
structure gu where
 name:List UInt8
 arg:List UInt8
 body:af
structure ax where
 kind:Int
 t_:List UInt8
 vars:List (List UInt8)
 cons:List gf
 name:List UInt8
 a2v:List UInt8
 targs:List ah
 qd:List gu
 body:af
def gf.enc(c:gf):ae:=.agg [.str c.name,.slice (c.args.map ah.enc)]
def gu.enc(f:gu):ae:=.agg [.str f.name,.str f.arg,.int .i64 f.body.kind,.int .i64 f.body.num,.str f.body.name,.str f.body.arg,.slice (f.body.args.map af.enc),.slice (f.body.ez.map ag.enc)]
def ax.enc(d:ax):ae:=.agg [.int .i64 d.kind,.str d.t_,.slice (d.vars.map .str),.slice (d.cons.map gf.enc),.str d.name,.str d.a2v,.slice (d.targs.map ah.enc),.slice (d.qd.map gu.enc),.int .i64 d.body.kind,.int .i64 d.body.num,.str d.body.name,.str d.body.arg,.slice (d.body.args.map af.enc),.slice (d.body.ez.map ag.enc)]
def lB:af:=.mk 0 0 [] [] [] []
def mS(f:gu):ax:=⟨3,[],[],[],[],[],[],[f],lB⟩
def cU(n:List UInt8)(e:af):ax:=⟨5,[],[],[],n,[],[],[],e⟩
def nO:List ax->aq->aq->aq×aq
 |[],fe,ne=>(fe,ne)
 |d::l,fe,ne=>match d.qd with
  |[f]=>nO l (.rc f.name f.arg f.body fe) (.cons f.name (.fn f.arg f.body (.rc f.name f.arg f.body fe)) ne)
  |_=>nO l fe ne
def mh(d:ax):Prop:=d.kind=1/\d.qd=[]\/∃f,d=mS f
end Go.Proofs.YtoiocfngjchdiaaGreatDoor
end
namespace Go.Proofs.YtoiocfngjchdiaaGreatDoor
open Go.AM
variable [h_]
theorem Zw(s:List UInt8)(l:List ad)(sto:AH):CF (.fn 106) [.val (.str s),.val (.slice (l.map ad.enc))] sto=some (.ret (.val (ad.mk s 0 l).enc),sto):=by
 rw[ad.ce];exact wk
def bL(n:Int):ad:=.mk [] n []
mutual
def ad.alike:ad->ad->Bool
 |.mk c n al,.mk d m bl=>(c==d)&&(n==m)&&ad.ki al bl
def ad.ki:List ad->List ad->Bool
 |[],[]=>true
 |a::al,b::bl=>a.alike b&&ad.ki al bl
 |[],_::_=>false
 |_::_,[]=>false
end
theorem ad.a0i(v w:ad):v.alike w=((v.bh==w.bh)&&(v.num==w.num)&&ad.ki v.args w.args):=by
 cases v;cases w;simp only[ad.alike,ad.bh,ad.num,ad.args]
theorem ad.a0j:∀{al bl:List ad},ad.ki al bl=true->al.length=bl.length
 |[],[],_=>rfl
 |[],_::_,h=>by simp[ad.ki] at h
 |_::_,[],h=>by simp[ad.ki] at h
 |a::al,b::bl,h=>by
  simp only[ad.ki,Ac] at h;simp[ad.a0j h.2]
theorem ad.a5i:∀v w:ad,v.alike w=true↔v=w:=by
 intro v;induction v using ad.ind with
 |h v ih =>
  intro w
  have key:∀al bl:List ad,(∀a∈al,∀w,a.alike w=true↔a=w)->(ad.ki al bl=true↔al=bl):=by
   intro al;induction al with
   |nil=>intro bl _;cases bl<;>simp[ad.ki]
   |cons a al nq =>
    intro bl h;cases bl with
    |nil=>simp[ad.ki]
    |cons b bl=>simp only[ad.ki,Ac,Dj,h a (by simp),nq bl (λx hx=>h x (by simp[hx]))]
  rw[ad.a0i];simp only[Ac,Cb,key v.args w.args ih];cases v;cases w;simp only[ad.bh,ad.num,ad.args,ad.mk.injEq,and_assoc]
theorem aG6(s s':List UInt8)(n n':Int)(sto:AH)(ys:List ad):∀(zs pre DU:List ad),pre.length=DU.length->(pre++ys).length<AR->ad.ki ys zs=true->(∀y∈ys,∀z∈zs,CF (.fn 10) [.val y.enc,.val z.enc] sto=some (.ret (.val (.bool (y.alike z))),sto)) ->
  ∃s0 s1 s2 s3 s4 s5 CN FH DM,LP 10 (aN Tryz.f10 0) ⟨[.dead,.dead,.box [.val (.str s),.val (.int .i64 n),.val (.slice ((pre++ys).map ad.enc))],.box [.val (.str s'),.val (.int .i64 n'),.val (.slice ((DU++zs).map ad.enc))],.dead,.val (.int .i64 (pre.length:Nat)),.dead,.dead,.dead],sto⟩=some (.exit 0,⟨[s0,s1,s2,s3,s4,s5,CN,FH,DM],sto⟩):=by
 induction ys with
 |nil =>
  intro zs pre DU ED h3 CV h2;have AL:=DK pre;simp only[Ao];clear ED CV h2 h3;iterate 9 apply Exists.intro
  refine tI rfl ?_;exact BP;all_goals exact .dead
 |cons y ys ih =>
  intro zs pre DU ED h3 CV h2;cases zs with
  |nil=>simp[ad.ki] at CV
  |cons z zs =>
  simp only[ad.ki,Ac] at CV;have AN:=cQ ad.enc pre ys y;have B8:=cQ ad.enc DU zs z;rw[<-ED] at B8;have AL:=CQ pre ys y;have h0:=zI pre.length;have hw:=wL pre ys y h3;have hc:=h2 y (by simp) z (by simp);rw[CV.1] at hc;rw[y.aw] at AN hc;rw[z.aw] at B8 hc;obtain⟨s0,s1,s2,s3,s4,s5,CN,FH,DM,ih⟩:=ih zs (pre++[y]) (DU++[z]) (by simp[ED]) (by simpa using h3) CV.2 (λx hx x2 Hg=>h2 x (by simp[hx]) x2 (by simp[Hg]));simp only[Aj,Al] at ih;refine⟨s0,s1,s2,s3,s4,s5,CN,FH,DM,?_⟩;refine tI rfl ?_;clear ED CV h2 h3;exact BP
theorem aG5(s s':List UInt8)(n n':Int)(sto:AH)(ys:List ad):∀(zs pre DU:List ad),pre.length=DU.length->ys.length=zs.length->(pre++ys).length<AR->ad.ki ys zs=false->(∀y∈ys,∀z∈zs,CF (.fn 10) [.val y.enc,.val z.enc] sto=some (.ret (.val (.bool (y.alike z))),sto)) ->
  ∃s0 s1 s2 s3 s5 CN FH DM,LP 10 (aN Tryz.f10 0) ⟨[.dead,.dead,.box [.val (.str s),.val (.int .i64 n),.val (.slice ((pre++ys).map ad.enc))],.box [.val (.str s'),.val (.int .i64 n'),.val (.slice ((DU++zs).map ad.enc))],.dead,.val (.int .i64 (pre.length:Nat)),.dead,.dead,.dead],sto⟩=some (.ret,⟨[s0,s1,s2,s3,.val (.bool false),s5,CN,FH,DM],sto⟩):=by
 induction ys with
 |nil =>
  intro zs pre DU ED JX h3 CV h2;cases zs with
  |nil=>simp[ad.ki] at CV
  |cons z zs=>simp at JX
 |cons y ys ih =>
  intro zs pre DU ED JX h3 CV h2;cases zs with
  |nil=>simp at JX
  |cons z zs =>
  simp only[ad.ki,Bool.and_eq_false_iff] at CV;have AN:=cQ ad.enc pre ys y;have B8:=cQ ad.enc DU zs z;rw[<-ED] at B8;have AL:=CQ pre ys y;have h0:=zI pre.length;have hw:=wL pre ys y h3;have hc:=h2 y (by simp) z (by simp);rw[y.aw] at AN hc;rw[z.aw] at B8 hc;cases M4:y.alike z with
  |false =>
   rw[M4] at hc;clear ED JX CV h2 h3;iterate 8 apply Exists.intro
   refine tI rfl ?_;exact BP;all_goals exact .dead
  |true =>
  rw[M4] at hc;obtain⟨s0,s1,s2,s3,s5,CN,FH,DM,ih⟩:=ih zs (pre++[y]) (DU++[z]) (by simp[ED]) (by simpa using JX) (by simpa using h3) (CV.resolve_left (by rw[M4];simp)) (λx hx x2 Hg=>h2 x (by simp[hx]) x2 (by simp[Hg]));simp only[Aj,Al] at ih;refine⟨s0,s1,s2,s3,s5,CN,FH,DM,?_⟩;refine tI rfl ?_;clear ED JX CV h2 h3;exact BP
theorem c10:∀(v w:ad)(sto:AH),v.size<AR->w.size<AR->CF (.fn 10) [.val v.enc,.val w.enc] sto=some (.ret (.val (.bool (v.alike w))),sto):=by
 intro v;induction v using ad.ind with
 |h v ih =>
  intro w sto hs IE;rw[ad.a0i];have hlen:=v.p_;cases h1:(v.bh==w.bh) with
  |false =>
   have Kf:(v.bh != w.bh)=true:=by simp[bne,h1]
   simp only[Et];rw[v.aw,w.aw];exact BP
  |true =>
   have Kf:(v.bh != w.bh)=false:=by simp[bne,h1]
   cases h2:(v.num==w.num) with
   |false =>
    have Nk:(v.num != w.num)=true:=by simp[bne,h2]
    simp only[Bool.and_false,Et];rw[v.aw,w.aw];exact BP
   |true =>
    have Nk:(v.num != w.num)=false:=by simp[bne,h2]
    simp only[Gk];by_cases h3:v.args.length=w.args.length
    ·have h3':(((v.args.length:Nat):Int) != ((w.args.length:Nat):Int))=false:=by simp[h3]
     have B9:∀y∈v.args,∀z∈w.args,CF (.fn 10) [.val y.enc,.val z.enc] sto=some (.ret (.val (.bool (y.alike z))),sto):=λy hy z hz=>ih y hy z sto (by have:=ad.m7 hy;omega) (by have:=ad.m7 hz;omega)
     cases h5:ad.ki v.args w.args with
     |true =>
      obtain⟨s0,s1,s2,s3,s4,s5,CN,FH,DM,hl⟩:=aG6 v.bh w.bh v.num w.num sto v.args w.args [] [] rfl (by simp only[Ai,AR] at hs ⊢;omega) h5 B9;simp only[Ai,Ap] at hl;rw[v.aw,w.aw];clear B9 ih hlen;exact BP
     |false =>
      obtain⟨s0,s1,s2,s3,s5,CN,FH,DM,hl⟩:=aG5 v.bh w.bh v.num w.num sto v.args w.args [] [] rfl h3 (by simp only[Ai,AR] at hs ⊢;omega) h5 B9;simp only[Ai,Ap] at hl;rw[v.aw,w.aw];clear B9 ih hlen;exact BP
    ·have h3':(((v.args.length:Nat):Int) != ((w.args.length:Nat):Int))=true:=by simp;omega
     have h4:ad.ki v.args w.args=false:=by
      cases h5:ad.ki v.args w.args with
      |false=>rfl
      |true=>exact absurd (ad.a0j h5) h3
     rw[h4,v.aw,w.aw];exact BP
theorem aNz(s:List UInt8)(n:Int)(sto:AH)(ys:List ad):∀(pre:List ad),(pre++ys).length+1<AR->(∀y∈ys,CF (.fn 29) [.val y.enc] sto=some (.ret (.val y.enc),sto)) ->
  ∃s0 s1 s5 BU JD FJ D9,LP 29 (aN Tryz.f29 0) ⟨[.dead,.dead,.box [.val (.str []),.val (.int .i64 0),.own 3 []],.box [.val (.str s),.val (.int .i64 n),.own 3 (pre.map ad.enc)],.dead,.val (.slice ((pre++ys).map ad.enc)),.val (.int .i64 ((pre++ys).length:Nat)),.val (.int .i64 (pre.length:Nat)),.dead],sto⟩ =
   some (.exit 0,⟨[s0,s1,.box [.val (.str []),.val (.int .i64 0),.own 3 []],.box [.val (.str s),.val (.int .i64 n),.own 3 ((pre++ys).map ad.enc)],s5,BU,JD,FJ,D9],sto⟩):=by
 induction ys with
 |nil =>
  intro pre h3 h2;have AL:=DK pre;simp only[Ao];iterate 7 apply Exists.intro
  refine tI rfl ?_;exact wk;all_goals exact .dead
 |cons y ys ih =>
  intro pre h3 h2;have AN:=cQ ad.enc pre ys y;have AL:=CQ pre ys y;have h0:=zI pre.length;have hw:=wL pre ys y (by omega);have hc:=h2 y (by simp);have hr:Nat.ble (pre.length+1) room=true:=by apply Ah;simp only[room];simp only[Bc,Ak,AR] at h3;omega
  have emap:(pre++[y]).map ad.enc=pre.map ad.enc++[y.enc]:=by simp
  obtain⟨s0,s1,s5,BU,JD,FJ,D9,ih⟩:=ih (pre++[y]) (by simpa using h3) (λx hx=>h2 x (by simp[hx]));rw[emap] at ih;rw[y.aw] at AN hc ih;simp only[Aj,Al] at ih;refine⟨s0,s1,s5,BU,JD,FJ,D9,?_⟩;refine tI rfl ?_;exact BP
theorem VI:∀(v:ad)(sto:AH),v.size<AR->CF (.fn 29) [.val v.enc] sto=some (.ret (.val v.enc),sto):=by
 intro v;induction v using ad.ind with
 |h v ih =>
  intro sto hs;obtain⟨s0,s1,s5,BU,JD,FJ,D9,hl⟩:=aNz v.bh v.num sto v.args [] (by have:=v.p_;simp only[Ai,AR] at hs ⊢;omega) (λy hy=>ih y hy sto (by have:=ad.m7 hy;omega));simp only[Ai,Ap,Av] at hl;rw[v.aw];apply tA;rfl;rfl;exact Tryz.func29;rfl;rfl;simp only[go_sem];rfl;refine tQ ?_;repeat first|with_reducible constructor|with_reducible refine tW rfl ?_|((with_reducible apply tG);(·kernel_rfl);(·(intro _ _;(repeat (apply BL;(·(intro _;simp only[Ay,go_sem];rfl))));rfl));(·(simp only[go_sem];rfl)))
  apply tL;exact hl;exact wk
def ly:List UInt8:=[78,105,108]
def sZ:List UInt8:=[67,111,110,115]
def aM:List ad->ad
 |[]=>.mk ly 0 []
 |v::l=>.mk sZ 0 [v,aM l]
mutual
def ad.cu:ad->Nat
 |.mk _ _ al=>1+ad.cA al
def ad.cA:List ad->Nat
 |[]=>0
 |t::ts=>t.cu+ad.cA ts
end
theorem ad.tZ(v:ad):v.cu=1+ad.cA v.args:=by cases v;rfl
theorem ad.wa:∀a b:List ad,ad.cA (a++b)=ad.cA a+ad.cA b
 |[],b=>by simp[ad.cA]
 |x::a,b=>by simp only[Cw,ad.cA,ad.wa a b];omega
theorem ad.vr(v:ad):0<v.cu:=by rw[ad.tZ];omega
theorem ad.a0z{t:ad}:∀{l:List ad},t∈l->t.cu<=ad.cA l
 |x::l,h=>by
  simp only[ad.cA];rcases As.1 h with h|h
  ·subst h;omega
  ·have:=ad.a0z h;omega
theorem aNy(s:List UInt8)(n:Int)(sto:AH)(ys:List ad):∀(pre:List ad),(pre++ys).length<AR->1+ad.cA (pre++ys)<=4000->(∀y∈ys,CF (.fn 27) [.val y.enc] sto=some (.ret (.val (.int .i64 (y.cu:Nat))),sto)) ->
  ∃s0 s1 s2 s5 s7 s8 s9 s10 BZ,LP 27 (aN Tryz.f27 0) ⟨[.dead,.dead,.dead,.val (.int .i64 ((1+ad.cA pre:Nat):Int)),.dead,.val (.slice ((pre++ys).map ad.enc)),.val (.int .i64 ((pre++ys).length:Nat)),.val (.int .i64 (pre.length:Nat)),.dead,.dead],sto⟩ =
   some (.exit 0,⟨[s0,s1,s2,.val (.int .i64 ((1+ad.cA (pre++ys):Nat):Int)),s5,s7,s8,s9,s10,BZ],sto⟩):=by
 induction ys with
 |nil =>
  intro pre h3 h4 h2;have AL:=DK pre;simp only[Ao];iterate 9 apply Exists.intro
  refine tI rfl ?_;exact wk;all_goals exact .dead
 |cons y ys ih =>
  intro pre h3 h4 h2;have AN:=cQ ad.enc pre ys y;have AL:=CQ pre ys y;have h0:=zI pre.length;have hw:=wL pre ys y (by omega);have hc:=h2 y (by simp);have e1:ad.cA (pre++[y])=ad.cA pre+y.cu:=by rw[ad.wa];simp[ad.cA]
  have e2:ad.cA (pre++y::ys)=ad.cA pre+(y.cu+ad.cA ys):=by rw[ad.wa];simp[ad.cA]
  have k5:IntKind.i64.wrap (((1+ad.cA pre:Nat):Int)+((y.cu:Nat):Int))=((1+ad.cA (pre++[y]):Nat):Int):=by rw[iu (by omega) (by omega)];omega
  have pi:decide (((1+ad.cA (pre++[y]):Nat):Int)>4000)=false:=by simp;omega
  obtain⟨s0,s1,s2,s5,s7,s8,s9,s10,BZ,ih⟩:=ih (pre++[y]) (by simpa using h3) (by simpa using h4) (λx hx=>h2 x (by simp[hx]));simp only[Aj,Al] at ih;rw[y.aw] at AN hc;refine⟨s0,s1,s2,s5,s7,s8,s9,s10,BZ,?_⟩;refine tI rfl ?_;clear h4 e1 e2 h2 h3;exact wk
theorem c27:∀(v:ad)(sto:AH),v.size<AR->v.cu<=4000->CF (.fn 27) [.val v.enc] sto=some (.ret (.val (.int .i64 (v.cu:Nat))),sto):=by
 intro v;induction v using ad.ind with
 |h v ih =>
  intro sto hs hc;have YT:=v.tZ;obtain⟨s0,s1,s2,s5,s7,s8,s9,s10,BZ,hl⟩:=aNy v.bh v.num sto v.args [] (by have:=v.p_;simp only[Ai,AR] at hs ⊢;omega) (by simp only[Ai];omega) (λy hy=>ih y hy sto (by have:=ad.m7 hy;omega) (by have:=ad.a0z hy;omega));simp only[Ai,Ap,ad.cA,Ax] at hl;rw[v.aw,YT];clear ih hc YT hs;exact BP
theorem aVN(n:Nat):Nat.blt n n=false:=by
 simp only[Nat.blt];exact Fm.2 λh=>by have:=Ad h;omega
theorem aWC{P:Program}{an:AF}{fn:Func}{n:Nat}{tm:List Slot}{sto:AH}{v:ae}{t:Nat}(h1:an.ownRes=false)(h2:fn.results.toList=[.tmp t])(h3:bg an.keep tm t=.val v)(h4:ct n v=false):finish P an fn n ⟨tm,sto⟩=some (.ret (.val v),sto):=by
 simp only[finish,h1,h2,fG,h3,DS,trim,cF,h4,Bh]
theorem aVU(l:List ad)(sto:AH):CF (.fn 107) [.val (.slice (l.map ad.enc))] sto=some (.ret (.val (.func 162 [.loc sto.objs.length 0])),⟨sto.objs++[.box [.val (.slice (l.map ad.enc))]],sto.lo⟩):=by
 refine zG ?_;refine aWC (t:=2) rfl rfl rfl ?_;simp only[ct,Fh,js,aVN,Et]
noncomputable def jb(O:List ai)(lo:Nat)(bl:ai)(tm:List Slot)(s:List UInt8)(n:Int)(c:Cell)(a6I:Option Code)(st:LoopState):AH :=
 ⟨O++[.box [.val (.str s),.val (.int .i64 n),c],bl,.loop (rC 35 Tryz.f35 0 tm a6I st)],lo⟩
theorem aRW(v w:ad)(S:AH):CF (.fn 106) [.val (.str [67,111,110,115]),.val (.slice [v.enc,w.enc])] S=some (.ret (.val (.agg [.str [67,111,110,115],.int .i64 0,.slice [v.enc,w.enc]])),S):=by
 have:=Zw [67,111,110,115] [v,w] S
 simpa only[Ba,Av,ad.ce] using this
theorem y23{O:List ai}{lo:Nat}(AP:lo<=O.length){bl:ai}{k:Int}{v w:ad}{c:Cell}(hc:c=.val (.slice (w.args.map ad.enc))\/(c=.own 3 []/\w.args=[])){s0 s2 s5 s8 s9 s10} :
  CF (.bN (O.length+2)) [.val (.int .i64 k),.val v.enc] (jb O lo bl [s0,s2,.val (.loc O.length 0),s5,s8,s9,s10] w.bh w.num c none .ready) =
   some (.ret (.val (.bool true)),jb O lo bl [s0,s2,.val (.loc O.length 0),s5,s8,s9,s10] [67,111,110,115] 0 (.val (.slice [v.enc,w.enc])) none .ready):=by
 have Rz:Nat.ble lo O.length=true:=Ah (by omega);have h38:=λS=>aRW v w S
 rw[v.aw,w.aw] at *;unfold jb;rcases hc with rfl|⟨rfl,hw⟩
 ·
  exact zG trivial
 ·rw[hw,Av] at h38
  rw[hw,Av];exact zG trivial
theorem aHa{j a:Nat}(S:List ad->AH)(l:List ad)(hl:l.length<AR)(ha:∀ys,(S ys).objs[a]?=some (.box [.val (.slice (l.map ad.enc))]))
  (hy:∀pre y ys,l=pre++y::ys->CF (.bN j) [.val (.int .i64 (pre.length:Nat)),.val y.enc] (S ys)=some (.ret (.val (.bool true)),S (y::ys))) :
  ∀(m:Nat)(xs ys:List ad)(i:Int),xs.length=m->i=(m:Int)-1->l=xs++ys ->
  ∃s0 s1 s3 s8 BZ,LP 162 (aN Tryz.f162 0) ⟨[.val (.bN j),.val (.loc a 0),.val (.int .i64 i),.dead,.dead],S ys⟩=some (.exit 0,⟨[s0,s1,s3,s8,BZ],S l⟩):=by
 intro m;induction m with
 |zero =>
  intro xs ys i hx hi Ro
  have:=Cv hx
  subst this;subst hi;rw[Ro];have AL:decide ((((0:Nat):Int)-1)>=0)=false:=rfl;iterate 5 apply Exists.intro
  refine tI rfl ?_;exact wk;all_goals exact .dead
 |succ m ih =>
  intro xs ys i hx hi Ro;obtain⟨IP,y,rfl⟩:∃IP y,xs=IP++[y]:=⟨xs.dropLast,xs.getLast (λe=>by subst e;simp at hx),(List.dropLast_concat_getLast _).symm⟩
  have HB:IP.length=m:=by simpa using hx
  have D7:i=((m:Nat):Int):=by rw[hi];omega
  subst D7;have uo:l=IP++y::ys:=by rw[Ro];simp
  have Iu:decide (((m:Nat):Int)>=0)=true:=by simp
  have h0:=zI m
  have AN:(l.map ad.enc)[((m:Nat):Int).toNat]?=some y.enc:=by
   rw[uo,<-HB];exact cQ ad.enc IP ys y
  have hm:m<AR:=by rw[uo] at hl;simp at hl;omega
  have hw:IntKind.i64.wrap (((m:Nat):Int)-1)=((m:Nat):Int)-1:=by rw[iu (by omega) (by simp only[AR] at hm;omega)]
  have hc:=hy IP y ys uo;have DA:=ha ys;rw[HB] at hc;rw[y.aw] at AN hc;obtain⟨s0,s1,s3,s8,BZ,ih⟩:=ih IP (y::ys) (((m:Nat):Int)-1) HB rfl uo;refine⟨s0,s1,s3,s8,BZ,?_⟩;refine tI rfl ?_;clear hx hi Ro HB uo hm hl hy ha;exact wk
theorem aV7{j a:Nat}(S:List ad->AH)(l:List ad)(hl:l.length<AR)(ha:∀ys,(S ys).objs[a]?=some (.box [.val (.slice (l.map ad.enc))]))
  (hy:∀pre y ys,l=pre++y::ys->CF (.bN j) [.val (.int .i64 (pre.length:Nat)),.val y.enc] (S ys)=some (.ret (.val (.bool true)),S (y::ys))) :
  CF (.fn 162) [.val (.bN j),.val (.loc a 0)] (S [])=some (.ret (.aj []),⟨(S l).objs.take (S []).objs.length,(S l).lo⟩):=by
 have DA:=ha [];have hw:IntKind.i64.wrap (((l.length:Nat):Int)-1)=((l.length:Nat):Int)-1:=by rw[iu (by omega) (by simp only[AR] at hl;omega)]
 obtain⟨s0,s1,s3,s8,BZ,BJ⟩:=aHa S l hl ha hy l.length l [] _ rfl rfl (by simp);clear hy ha hl;exact BP
theorem aRP(n:Nat):Nat.ble n (n+1)=true:=Ah (by omega)
theorem aRX(S:AH):CF (.fn 106) [.val (.str [78,105,108]),.val (.slice [])] S=some (.ret (.val (.agg [.str [78,105,108],.int .i64 0,.slice []])),S):=by
 have:=Zw [78,105,108] [] S
 simpa only[Av,ad.ce] using this
theorem aIa{O:List ai}{lo:Nat}(AP:lo<=O.length){bl:ai}{s0 s2 s5 s8 s9 s10}(pre:List ad)(y:ad)(ys:List ad) :
  CF (.bN (O.length+2)) [.val (.int .i64 (pre.length:Nat)),.val y.enc] (jb O lo bl [s0,s2,.val (.loc O.length 0),s5,s8,s9,s10] (aM ys).bh (aM ys).num (.val (.slice ((aM ys).args.map ad.enc))) none .ready) =
   some (.ret (.val (.bool true)),jb O lo bl [s0,s2,.val (.loc O.length 0),s5,s8,s9,s10] (aM (y::ys)).bh (aM (y::ys)).num (.val (.slice ((aM (y::ys)).args.map ad.enc))) none .ready):=by
 have:=y23 (k:=(pre.length:Nat)) (v:=y) (w:=aM ys) (bl:=bl) AP (.inl rfl) (s0:=s0) (s2:=s2) (s5:=s5) (s8:=s8) (s9:=s9) (s10:=s10)
 simpa only[aM,ad.args,ad.bh,ad.num,Ba,Av,sZ] using this
theorem Yc(l:List ad)(hl:l.length<AR)(sto:AH)(AP:sto.lo<=sto.objs.length):CF (.fn 35) [.val (.slice (l.map ad.enc))] sto=some (.ret (.val (aM l).enc),sto):=by
 have Rz:Nat.ble sto.lo sto.objs.length=true:=Ah (by omega);have h39:=λs=>aVU l s
 have hc:=λs0 s2 s5 s8 s9 s10=>aV7 (j:=sto.objs.length+2) (a:=sto.objs.length+1)
  (λys=>jb sto.objs sto.lo (.box [.val (.slice (l.map ad.enc))]) [s0,s2,.val (.loc sto.objs.length 0),s5,s8,s9,s10] (aM ys).bh (aM ys).num (.val (.slice ((aM ys).args.map ad.enc))) none .ready) l hl
  (λys=>by simp only[jb,FL,FO]) (λpre y ys _=>aIa AP (s0:=s0) (s2:=s2) (s5:=s5) (s8:=s8) (s9:=s9) (s10:=s10) pre y ys)
 simp only[jb,FL,FO] at hc;have e0:(aM []).bh=[78,105,108]/\(aM []).num=0/\(aM []).args.map ad.enc=[]:=⟨rfl,rfl,rfl⟩
 rw[e0.1,e0.2.1,e0.2.2] at hc;rw[ad.aw (aM l)];apply tA;rfl;rfl;exact Tryz.func35;rfl;rfl;simp only[go_sem];rfl;refine tQ ?_;repeat first|with_reducible constructor|with_reducible refine tW rfl ?_|((with_reducible apply tG);(·kernel_rfl);(·(intro _ _;(repeat (apply BL;(·(intro _;simp only[FL,FO,aRX,h39,Rz,aRP,De,Ax,go_sem];rfl))));rfl));(·(simp only[go_sem];rfl)))
 with_reducible apply tGn
 ·rfl
 ·simp only[FL,FO]
  exact hc _ _ _ _ _ _
 ·simp only[FL,FO]
  rfl
 ·simp only[FL,FO]
  rfl
 exact G0
theorem pG:∀l:List ad,(aM l).size<=ad.f_ l+6*l.length+4
 |[]=>by simp[aM,ad.size,ad.f_,ly]
 |v::l=>by
  have:=pG l
  simp only[aM,ad.size,ad.f_,sZ,Ak,Ap];omega
theorem c12(l:List ad)(sto:AH)(hs:ad.f_ l+6*l.length+4<AR)(AP:sto.lo<=sto.objs.length):CF (.fn 12) [.val (.slice (l.map ad.enc))] sto=some (.ret (.val (aM l).enc),sto):=by
 have BD:=pG l;have IK:=Yc l (by omega) sto AP;have SE:=VI (aM l) sto (by omega);rw[ad.aw (aM l)] at *;exact wk
theorem c6(sto:AH):CF (.fn 6) [] sto=some (.ret (.val (.bool true)),sto):=NI (r:=.ret (.val (.bool true))) rfl rfl
theorem wQ(n:Int):(bL n).enc=.agg [.str [],.int .i64 n,.slice []]:=by simp only[bL,ad.ce,Av]
end Go.Proofs.YtoiocfngjchdiaaGreatDoor
