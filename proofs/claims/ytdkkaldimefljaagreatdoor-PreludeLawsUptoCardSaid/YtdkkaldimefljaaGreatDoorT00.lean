import Derived.Test.YtdkkaldimefljaaGreatDoorA11
set_option linter.all false
set_option maxRecDepth 100000
set_option maxHeartbeats 8000000
namespace Go.AM
theorem wA{α:Prop}(h:α:=by with_reducible first|exact Go.Proofs.Tryz.func4|exact Go.Proofs.Tryz.func8|exact Go.Proofs.Tryz.func10|exact Go.Proofs.Tryz.func12|exact Go.Proofs.Tryz.func13|exact Go.Proofs.Tryz.func22|exact Go.Proofs.Tryz.func23|exact Go.Proofs.Tryz.func24|exact Go.Proofs.Tryz.func25|exact Go.Proofs.Tryz.func26|exact Go.Proofs.Tryz.func29|exact Go.Proofs.Tryz.func38|exact Go.Proofs.Tryz.func39|exact Go.Proofs.Tryz.func40|exact Go.Proofs.Tryz.func42|exact Go.Proofs.Tryz.func43|exact Go.Proofs.Tryz.func44|exact Go.Proofs.Tryz.func45|exact Go.Proofs.Tryz.func54|exact Go.Proofs.Tryz.func56|exact Go.Proofs.Tryz.func57|exact Go.Proofs.Tryz.func58|exact Go.Proofs.Tryz.func62|exact Go.Proofs.Tryz.func67|exact Go.Proofs.Tryz.func70|exact Go.Proofs.Tryz.func71|exact Go.Proofs.Tryz.func73|exact Go.Proofs.Tryz.func74|exact Go.Proofs.Tryz.func108|exact Go.Proofs.Tryz.func109|exact Go.Proofs.Tryz.func112|exact Go.Proofs.Tryz.func113|exact Go.Proofs.Tryz.func114|exact Go.Proofs.Tryz.func115|exact Go.Proofs.Tryz.func118|exact Go.Proofs.Tryz.func157|exact Go.Proofs.Tryz.func159|exact Go.Proofs.Tryz.func160|exact Go.Proofs.Tryz.func161|exact Go.Proofs.Tryz.func207|exact Go.Proofs.Tryz.func243|exact Go.Proofs.Tryz.func244|exact Go.Proofs.Tryz.func245|exact Go.Proofs.Tryz.func270|exact Go.Proofs.Tryz.func271|exact Go.Proofs.Tryz.func272|exact Go.Proofs.Tryz.func282|exact Go.Proofs.Tryz.func283|exact Go.Proofs.Tryz.func284|exact Go.Proofs.Tryz.func285|exact Go.Proofs.Tryz.func286|exact Go.Proofs.Tryz.func287|exact Go.Proofs.Tryz.func288|exact Go.Proofs.Tryz.func289|exact Go.Proofs.Tryz.func290|exact Go.Proofs.Tryz.func291|exact Go.Proofs.Tryz.func292|exact Go.Proofs.Tryz.func293):α:=h
theorem Tf{α:Type}{X:Option (α×AN)}{r:α}{n:Nat}{S:AN}(hn:S.objs.length=n)(h:X=some (r,⟨S.objs.take n,S.lo⟩)):X=some (r,S):=by
 subst hn;rw[h,Ez]
theorem wk{α:Prop}(h:α:=by
 first
  |(apply tA
    ·rfl
    ·rfl
    ·exact wA
    ·rfl
    ·rfl
    ·simp only[go_sem];rfl)
  |(apply UE
    ·exact wA
    ·rfl
    ·rfl
    ·simp only[go_sem];rfl)
  |skip
 refine tQ ?_
 repeat first
  |with_reducible constructor
  |with_reducible refine tW rfl ?_
  |(with_reducible apply tG
    ·kernel_rfl
    ·intro _ _
     repeat (apply CH;(·(intro _;simp only[*,go_sem];rfl)))
     rfl
    ·simp only[go_sem];rfl)
  |((with_reducible apply t1);(·(simp only[go_sem];rfl));(·rfl))
  |((with_reducible apply t0);(·(simp only[go_sem];rfl));(·rfl))
  |((with_reducible apply tl);(·assumption))
  |(with_reducible apply tP
    ·intro _ _
     repeat (apply CH;(·(intro _;simp only[*,go_sem];rfl)))
     apply TY;simp only[*,go_sem];rfl)
  |with_reducible apply M5
  |with_reducible apply M6
 all_goals first|exact RU rfl|exact qQ [_] rfl|exact qQ [_,_] rfl|exact qQ [_,_,_] rfl|rfl|exact Rt|exact Ru|exact Np|assumption|exact Tf rfl rfl):α:=h
theorem CT{α:Prop}(h:α:=by
 first
  |(apply tA
    ·rfl
    ·rfl
    ·exact wA
    ·rfl
    ·rfl
    ·simp only[go_sem];rfl)
  |(apply UE
    ·exact wA
    ·rfl
    ·rfl
    ·simp only[go_sem];rfl)
  |skip
 refine tQ ?_
 repeat first
  |with_reducible constructor
  |with_reducible refine tW rfl ?_
  |(with_reducible apply tG
    ·kernel_rfl
    ·intro _ _
     repeat (apply CH;(·(intro _;simp only[*,go_sem,Nat.reduceAdd,reduceIte,Cb,dU,clean,flat,List.replicate,Di,Dj,Dp,Dx,dB,Bk,Bc,Dd];rfl)))
     rfl
    ·simp only[go_sem];rfl)
  |((with_reducible apply t1);(·(simp only[go_sem];rfl));(·rfl))
  |((with_reducible apply t0);(·(simp only[go_sem];rfl));(·rfl))
  |((with_reducible apply tl);(·assumption))
  |(with_reducible apply tP
    ·intro _ _
     repeat (apply CH;(·(intro _;simp only[*,go_sem,Nat.reduceAdd,reduceIte,Cb,dU,clean,flat,List.replicate,Di,Dj,Dp,Dx,dB,Bk,Bc,Dd];rfl)))
     apply TY;simp only[*,go_sem,Nat.reduceAdd,reduceIte,Cb,dU,clean,flat,List.replicate,Di,Dj,Dp,Dx,dB,Bk,Bc,Dd];rfl)
  |with_reducible apply M5
  |with_reducible apply M6
 all_goals first|exact RU rfl|exact qQ [_] rfl|exact qQ [_,_] rfl|exact qQ [_,_,_] rfl|rfl|exact Rt|exact Ru|exact Np|assumption|exact Tf rfl rfl):α:=h
theorem GJ{α:Prop}(h:α:=by
 first
  |(apply tA
    ·rfl
    ·rfl
    ·exact wA
    ·rfl
    ·rfl
    ·simp only[go_sem];rfl)
  |(apply tY
    ·(simp only[FL,FO];try rfl)
    ·rfl
    ·kernel_rfl
    ·first|assumption|(apply Aj;(try simp only[FL,FO]);omega)
    ·(simp only[cS,List.zip,List.zipWith,Eu,Fz,go_sem];rfl))
  |(apply UE
    ·exact wA
    ·rfl
    ·rfl
    ·simp only[go_sem];rfl)
  |skip
 refine tQ ?_
 repeat first
  |with_reducible constructor
  |with_reducible refine tW rfl ?_
  |(with_reducible apply tG
    ·kernel_rfl
    ·intro _ _
     repeat (apply CH;(·(intro _;simp only[*,go_sem,Nat.reduceAdd,reduceIte,FL,FO,Cb,dU,clean,flat,List.replicate,Di,Dj,Dp,Dx,dB,Bk,Bc,Dd];rfl)))
     rfl
    ·simp only[go_sem];rfl)
  |((with_reducible apply t1);(·(simp only[go_sem];rfl));(·rfl))
  |((with_reducible apply t0);(·(simp only[go_sem];rfl));(·rfl))
  |((with_reducible apply tl);(·assumption))
  |((with_reducible apply Ob);(·(simp only[FL,FO];try rfl));(·(simp only[FL,FO];try rfl));refine tQ ?_)
  |((with_reducible apply aRX);(·(simp only[FL,FO];try rfl));(·(simp only[FL,FO];try rfl)))
  |(with_reducible apply tP
    ·intro _ _
     repeat (apply CH;(·(intro _;simp only[*,go_sem,Nat.reduceAdd,reduceIte,FL,FO,Cb,dU,clean,flat,List.replicate,Di,Dj,Dp,Dx,dB,Bk,Bc,Dd];rfl)))
     apply TY;simp only[*,go_sem,Nat.reduceAdd,reduceIte,FL,FO,Cb,dU,clean,flat,List.replicate,Di,Dj,Dp,Dx,dB,Bk,Bc,Dd];rfl)
  |with_reducible apply M5
  |with_reducible apply M6
 all_goals first|exact RU rfl|exact qQ [_] rfl|exact qQ [_,_] rfl|exact qQ [_,_,_] rfl|rfl|exact Rt|exact Ru|exact Np|assumption|exact Tf rfl rfl):α:=h
theorem Km{α:Prop}(h:α:=by
 first
  |(apply tA
    ·rfl
    ·rfl
    ·exact wA
    ·rfl
    ·rfl
    ·simp only[go_sem];rfl)
  |(apply UE
    ·exact wA
    ·rfl
    ·rfl
    ·simp only[go_sem];rfl)
  |skip
 refine tQ ?_
 repeat first
  |with_reducible constructor
  |with_reducible refine tW rfl ?_
  |(with_reducible apply tG
    ·kernel_rfl
    ·intro _ _
     repeat (apply CH;(·(intro _;simp only[*,bne,Ev,go_sem];rfl)))
     rfl
    ·simp only[go_sem];rfl)
  |((with_reducible apply t1);(·(simp only[go_sem];rfl));(·rfl))
  |((with_reducible apply t0);(·(simp only[go_sem];rfl));(·rfl))
  |((with_reducible apply tl);(·assumption))
  |(with_reducible apply tP
    ·intro _ _
     repeat (apply CH;(·(intro _;simp only[*,bne,Ev,go_sem];rfl)))
     apply TY;simp only[*,bne,Ev,go_sem];rfl)
  |with_reducible apply M5
  |with_reducible apply M6
 all_goals first|exact RU rfl|exact qQ [_] rfl|exact qQ [_,_] rfl|exact qQ [_,_,_] rfl|rfl|exact Rt|exact Ru|exact Np|assumption|exact Tf rfl rfl):α:=h
end Go.AM
namespace Go.Proofs.YtdkkaldimefljaaGreatDoor
open Go.AM
section
attribute [go_sem] lT gG nK aD dJ gP nG hQ GL mv DI lJ AM.asInt AM.asBool dE pU iG lH aQ bQ dM eU jQ fF bG A9 RS.look RS.put RS.putO bL tlook commit kS hJ l8 iD jV dK noRefTo aL jI iF dR isNilIface cO Nat.beq Nat.ble Nat.blt cond_true cond_false Bool.and_true Bool.true_and Bool.and_self Bool.not_true Bool.not_false Bool.or_true Bool.or_false Bool.false_or Bool.true_or Bool.and_false Bool.false_and List.all_nil List.all_cons List.contains List.elem Option.bind_some Option.map_some Option.getD_some aOn aOq aJA aOu aD3 aJB aJD aJF aJE aOr aOs aOw List.take_succ_cons List.take_zero List.drop_zero List.drop_succ_cons Nat.zero_add Cell.get Cell.lok AM.lok lokF uD partOf List.map_nil List.map_cons List.length_cons List.length_nil List.getElem?_cons_zero List.getElem?_cons_succ List.nil_append List.cons_append List.append_nil List.getElem?_toArray List.toList_toArray Option.bind_none Option.map_none aJT aJU aJV aFe aJX setCells List.take_append_drop List.drop_nil List.take_nil List.isEmpty_nil List.isEmpty_cons an8 aQl aQt aQA Tryz.underlying0 Rv ag3 ZV ZW Tryz.underlying3 Ze ag9 Tryz.underlying9 aRN aQg aRI aT3 Tryz.underlying25 aRO aQh aT6 aT4 aQO Tryz.underlying27 aRD Tryz.underlying4 Tryz.underlying22 aLk aLl aLm aQn aQo aQs aQu aNz Tryz.underlying87 Tryz.underlying86 Tryz.underlying154 an4 aNE aNJ aRP Tryz.underlying35 aLn aLo aLp aLq Tryz.underlying160 Tryz.underlying161 Tryz.underlying95 aNI aQC aQD aND aQv aNA Tryz.underlying90 Tryz.underlying91 aQm aQp aQq aPD aNx aP8 Tryz.underlying42 aQx aQy aNB aQk aQw aQz aNH Tryz.underlying43 aRQ aQi aRJ Tryz.underlying56 aRR aQj aT7 aT5 aQP Tryz.underlying58 aLr aLs aNC Tryz.underlying225 aQr Tryz.underlying82 pM aQB aQF aQG aNF aRS Tryz.underlying97 aQH an6 Tryz.underlying45 Tryz.underlying47 Tryz.underlying48 Tryz.underlying50 Tryz.underlying52 Tryz.underlying53 Tryz.underlying55 Tryz.underlying60 Tryz.underlying61 Tryz.underlying64 Tryz.underlying125 Tryz.underlying126 Tryz.underlying130 Tryz.underlying132 aQI aQE xg
attribute [go_sem_proc] Nat.reduceAdd reduceIte
variable [Aps]
theorem Su(s:List UInt8)(l:List VaD)(sto:AN):CF (.fn 38) [.val (.str s),.val (.slice (l.map VaD.enc))] sto=some (.ret (.val (VaD.mk s 0 l).enc),sto):=by
 rw[VaD.enc_mk];exact wk
def nO(n:Int):VaD:=.mk [] n []
theorem c54(n:Int)(sto:AN):CF (.fn 54) [.val (.int .i64 n)] sto=some (.ret (.val (nO n).enc),sto):=by
 simp only[nO,VaD.enc_mk,Au];exact wk
mutual
def VaD.alike:VaD->VaD->Bool
 |.mk c n al,.mk d m bl=>(c==d)&&(n==m)&&VaD.alikes al bl
def VaD.alikes:List VaD->List VaD->Bool
 |[],[]=>true
 |a::al,b::bl=>a.alike b&&VaD.alikes al bl
 |[],_::_=>false
 |_::_,[]=>false
end
theorem VaD.alike_eq(v w:VaD):v.alike w=((v.con==w.con)&&(v.num==w.num)&&VaD.alikes v.args w.args):=by
 cases v;cases w;simp only[VaD.alike,VaD.con,VaD.num,VaD.args]
theorem VaD.alikes_len:∀{al bl:List VaD},VaD.alikes al bl=true->al.length=bl.length
 |[],[],_=>rfl
 |[],_::_,h=>by simp[VaD.alikes] at h
 |_::_,[],h=>by simp[VaD.alikes] at h
 |a::al,b::bl,h=>by
  simp only[VaD.alikes,Ac] at h;simp[VaD.alikes_len h.2]
theorem VaD.alike_iff:∀v w:VaD,v.alike w=true↔v=w:=by
 intro v;induction v using VaD.ind with
 |h v ih =>
  intro w
  have key:∀al bl:List VaD,(∀a∈al,∀w,a.alike w=true↔a=w)->(VaD.alikes al bl=true↔al=bl):=by
   intro al;induction al with
   |nil=>intro bl _;cases bl<;>simp[VaD.alikes]
   |cons a al H8 =>
    intro bl h;cases bl with
    |nil=>simp[VaD.alikes]
    |cons b bl=>simp only[VaD.alikes,Ac,Cz,h a (by simp),H8 bl (λx hx=>h x (by simp[hx]))]
  rw[VaD.alike_eq];simp only[Ac,Dq,key v.args w.args ih];cases v;cases w;simp only[VaD.con,VaD.num,VaD.args,VaD.mk.injEq,and_assoc]
theorem aHM(s s':List UInt8)(n n':Int)(sto:AN)(ys:List VaD):∀(zs pre GK:List VaD),pre.length=GK.length->(pre++ys).length<BE->VaD.alikes ys zs=true->(∀y∈ys,∀z∈zs,CF (.fn 12) [.val y.enc,.val z.enc] sto=some (.ret (.val (.bool (y.alike z))),sto)) ->
  ∃s0 s1 s2 s3 s4 s5 Kt Ks Kq,LP 12 (cG Tryz.f12 0) ⟨[.dead,.dead,.box [.val (.str s),.val (.int .i64 n),.val (.slice ((pre++ys).map VaD.enc))],.box [.val (.str s'),.val (.int .i64 n'),.val (.slice ((GK++zs).map VaD.enc))],.dead,.val (.int .i64 (pre.length:Nat)),.dead,.dead,.dead],sto⟩=some (.exit 0,⟨[s0,s1,s2,s3,s4,s5,Kt,Ks,Kq],sto⟩):=by
 induction ys with
 |nil =>
  intro zs pre GK EX h3 EC h2;have AR:=MV pre;simp only[Bv];clear EX EC h2 h3;(iterate 9 apply Exists.intro);refine tI rfl ?_;exact CT;all_goals exact .dead
 |cons y ys ih =>
  intro zs pre GK EX h3 EC h2;cases zs with
  |nil=>simp[VaD.alikes] at EC
  |cons z zs =>
  simp only[VaD.alikes,Ac] at EC;have BI:=tN VaD.enc pre ys y;have EW:=tN VaD.enc GK zs z;rw[<-EX] at EW;have AR:=Kz pre ys y;have h0:=zI pre.length;have hw:=wL pre ys y h3;have hc:=h2 y (by simp) z (by simp);rw[EC.1] at hc;rw[y.enc_eq] at BI hc;rw[z.enc_eq] at EW hc;obtain⟨s0,s1,s2,s3,s4,s5,Kt,Ks,Kq,ih⟩:=ih zs (pre++[y]) (GK++[z]) (by simp[EX]) (by simpa using h3) EC.2 (λx hx x2 IU=>h2 x (by simp[hx]) x2 (by simp[IU]));simp only[As,Ca] at ih;refine⟨s0,s1,s2,s3,s4,s5,Kt,Ks,Kq,?_⟩;refine tI rfl ?_;clear EX EC h2 h3;exact CT
theorem aHL(s s':List UInt8)(n n':Int)(sto:AN)(ys:List VaD):∀(zs pre GK:List VaD),pre.length=GK.length->ys.length=zs.length->(pre++ys).length<BE->VaD.alikes ys zs=false->(∀y∈ys,∀z∈zs,CF (.fn 12) [.val y.enc,.val z.enc] sto=some (.ret (.val (.bool (y.alike z))),sto)) ->
  ∃s0 s1 s2 s3 s5 Kt Ks Kq,LP 12 (cG Tryz.f12 0) ⟨[.dead,.dead,.box [.val (.str s),.val (.int .i64 n),.val (.slice ((pre++ys).map VaD.enc))],.box [.val (.str s'),.val (.int .i64 n'),.val (.slice ((GK++zs).map VaD.enc))],.dead,.val (.int .i64 (pre.length:Nat)),.dead,.dead,.dead],sto⟩=some (.ret,⟨[s0,s1,s2,s3,.val (.bool false),s5,Kt,Ks,Kq],sto⟩):=by
 induction ys with
 |nil =>
  intro zs pre GK EX JA h3 EC h2;cases zs with
  |nil=>simp[VaD.alikes] at EC
  |cons z zs=>simp at JA
 |cons y ys ih =>
  intro zs pre GK EX JA h3 EC h2;cases zs with
  |nil=>simp at JA
  |cons z zs =>
  simp only[VaD.alikes,Ej] at EC;have BI:=tN VaD.enc pre ys y;have EW:=tN VaD.enc GK zs z;rw[<-EX] at EW;have AR:=Kz pre ys y;have h0:=zI pre.length;have hw:=wL pre ys y h3;have hc:=h2 y (by simp) z (by simp);rw[y.enc_eq] at BI hc;rw[z.enc_eq] at EW hc;cases Mf:y.alike z with
  |false =>
   rw[Mf] at hc;clear EX JA EC h2 h3;(iterate 8 apply Exists.intro);refine tI rfl ?_;exact CT;all_goals exact .dead
  |true =>
  rw[Mf] at hc;obtain⟨s0,s1,s2,s3,s5,Kt,Ks,Kq,ih⟩:=ih zs (pre++[y]) (GK++[z]) (by simp[EX]) (by simpa using JA) (by simpa using h3) (EC.resolve_left (by rw[Mf];simp)) (λx hx x2 IU=>h2 x (by simp[hx]) x2 (by simp[IU]));simp only[As,Ca] at ih;refine⟨s0,s1,s2,s3,s5,Kt,Ks,Kq,?_⟩;refine tI rfl ?_;clear EX JA EC h2 h3;exact CT
theorem c12:∀(v w:VaD)(sto:AN),v.size<BE->w.size<BE->CF (.fn 12) [.val v.enc,.val w.enc] sto=some (.ret (.val (.bool (v.alike w))),sto):=by
 intro v;induction v using VaD.ind with
 |h v ih =>
  intro w sto hs HH;rw[VaD.alike_eq];have hlen:=v.args_len;cases h1:(v.con==w.con) with
  |false =>
   have N8:(v.con != w.con)=true:=by simp[bne,h1]
   simp only[Ef];rw[v.enc_eq,w.enc_eq];exact CT
  |true =>
   have N8:(v.con != w.con)=false:=by simp[bne,h1]
   cases h2:(v.num==w.num) with
   |false =>
    have OH:(v.num != w.num)=true:=by simp[bne,h2]
    simp only[Bool.and_false,Ef];rw[v.enc_eq,w.enc_eq];exact CT
   |true =>
    have OH:(v.num != w.num)=false:=by simp[bne,h2]
    simp only[Fv];by_cases h3:v.args.length=w.args.length
    ·have h3':(((v.args.length:Nat):Int) != ((w.args.length:Nat):Int))=false:=by simp[h3]
     have BQ:∀y∈v.args,∀z∈w.args,CF (.fn 12) [.val y.enc,.val z.enc] sto=some (.ret (.val (.bool (y.alike z))),sto):=λy hy z hz=>ih y hy z sto (by have:=VaD.args_size hy;omega) (by have:=VaD.args_size hz;omega)
     cases h5:VaD.alikes v.args w.args with
     |true =>
      obtain⟨s0,s1,s2,s3,s4,s5,Kt,Ks,Kq,hl⟩:=aHM v.con w.con v.num w.num sto v.args w.args [] [] rfl (by simp only[Bl,BE] at hs ⊢;omega) h5 BQ;simp only[Bl,Bi] at hl;rw[v.enc_eq,w.enc_eq];clear BQ ih hlen;exact CT
     |false =>
      obtain⟨s0,s1,s2,s3,s5,Kt,Ks,Kq,hl⟩:=aHL v.con w.con v.num w.num sto v.args w.args [] [] rfl h3 (by simp only[Bl,BE] at hs ⊢;omega) h5 BQ;simp only[Bl,Bi] at hl;rw[v.enc_eq,w.enc_eq];clear BQ ih hlen;exact CT
    ·have h3':(((v.args.length:Nat):Int) != ((w.args.length:Nat):Int))=true:=by simp;omega
     have h4:VaD.alikes v.args w.args=false:=by
      cases h5:VaD.alikes v.args w.args with
      |false=>rfl
      |true=>exact absurd (VaD.alikes_len h5) h3
     rw[h4,v.enc_eq,w.enc_eq];exact CT
end
section
variable [Aps]
theorem aLK(s:List UInt8)(n:Int)(sto:AN)(ys:List VaD):∀(pre:List VaD),(pre++ys).length+1<BE->(∀y∈ys,CF (.fn 22) [.val y.enc] sto=some (.ret (.val y.enc),sto)) ->
  ∃s0 s1 s5 s12 Ii SD SB,LP 22 (cG Tryz.f22 0) ⟨[.dead,.dead,.box [.val (.str []),.val (.int .i64 0),.own 3 []],.box [.val (.str s),.val (.int .i64 n),.own 3 (pre.map VaD.enc)],.dead,.val (.slice ((pre++ys).map VaD.enc)),.val (.int .i64 ((pre++ys).length:Nat)),.val (.int .i64 (pre.length:Nat)),.dead],sto⟩ =
   some (.exit 0,⟨[s0,s1,.box [.val (.str []),.val (.int .i64 0),.own 3 []],.box [.val (.str s),.val (.int .i64 n),.own 3 ((pre++ys).map VaD.enc)],s5,s12,Ii,SD,SB],sto⟩):=by
 induction ys with
 |nil =>
  intro pre h3 h2;have AR:=MV pre;simp only[Bv];(iterate 7 apply Exists.intro);refine tI rfl ?_;exact wk;all_goals exact .dead
 |cons y ys ih =>
  intro pre h3 h2;have BI:=tN VaD.enc pre ys y;have AR:=Kz pre ys y;have h0:=zI pre.length;have hw:=wL pre ys y (by omega);have hc:=h2 y (by simp);have hr:Nat.ble (pre.length+1) room=true:=by apply Aj;simp only[room];simp only[Bu,Ay,BE] at h3;omega
  have emap:(pre++[y]).map VaD.enc=pre.map VaD.enc++[y.enc]:=by simp
  obtain⟨s0,s1,s5,s12,Ii,SD,SB,ih⟩:=ih (pre++[y]) (by simpa using h3) (λx hx=>h2 x (by simp[hx]));rw[emap] at ih;rw[y.enc_eq] at BI hc ih;simp only[As,Ca] at ih;refine⟨s0,s1,s5,s12,Ii,SD,SB,?_⟩;refine tI rfl ?_;exact CT
theorem c22:∀(v:VaD)(sto:AN),v.size<BE->CF (.fn 22) [.val v.enc] sto=some (.ret (.val v.enc),sto):=by
 intro v;induction v using VaD.ind with
 |h v ih =>
  intro sto hs;obtain⟨s0,s1,s5,s12,Ii,SD,SB,hl⟩:=aLK v.con v.num sto v.args [] (by have:=v.args_len;simp only[Bl,BE] at hs ⊢;omega) (λy hy=>ih y hy sto (by have:=VaD.args_size hy;omega));simp only[Bl,Bi,Au] at hl;rw[v.enc_eq];apply tA;rfl;rfl;exact Tryz.func22;rfl;rfl;simp only[go_sem];rfl;refine tQ ?_;repeat first|with_reducible constructor|with_reducible refine tW rfl ?_|((with_reducible apply tG);(·kernel_rfl);(·(intro _ _;(repeat (apply CH;(·(intro _;simp only[Cb,go_sem];rfl))));rfl));(·(simp only[go_sem];rfl)))
  apply tL;exact hl;exact wk
def nilS:List UInt8:=[78,105,108]
def u6:List UInt8:=[67,111,110,115]
def aG:List VaD->VaD
 |[]=>.mk nilS 0 []
 |v::l=>.mk u6 0 [v,aG l]
mutual
def VaD.cnt:VaD->Nat
 |.mk _ _ al=>1+VaD.cnts al
def VaD.cnts:List VaD->Nat
 |[]=>0
 |t::ts=>t.cnt+VaD.cnts ts
end
theorem VaD.cnt_eq(v:VaD):v.cnt=1+VaD.cnts v.args:=by cases v;rfl
theorem VaD.cnts_append:∀a b:List VaD,VaD.cnts (a++b)=VaD.cnts a+VaD.cnts b
 |[],b=>by simp[VaD.cnts]
 |x::a,b=>by simp only[Dl,VaD.cnts,VaD.cnts_append a b];omega
theorem VaD.cnt_pos(v:VaD):0<v.cnt:=by rw[VaD.cnt_eq];omega
theorem VaD.cnts_mem{t:VaD}:∀{l:List VaD},t∈l->t.cnt<=VaD.cnts l
 |x::l,h=>by
  simp only[VaD.cnts];rcases Bb.1 h with h|h
  ·subst h;omega
  ·have:=VaD.cnts_mem h;omega
theorem aLL(s:List UInt8)(n:Int)(sto:AN)(ys:List VaD):∀(pre:List VaD),(pre++ys).length<BE->1+VaD.cnts (pre++ys)<=4000->(∀y∈ys,CF (.fn 29) [.val y.enc] sto=some (.ret (.val (.int .i64 (y.cnt:Nat))),sto)) ->
  ∃s0 s1 s2 s5 s7 s8 s9 s10 Kv,LP 29 (cG Tryz.f29 0) ⟨[.dead,.dead,.dead,.val (.int .i64 ((1+VaD.cnts pre:Nat):Int)),.dead,.val (.slice ((pre++ys).map VaD.enc)),.val (.int .i64 ((pre++ys).length:Nat)),.val (.int .i64 (pre.length:Nat)),.dead,.dead],sto⟩ =
   some (.exit 0,⟨[s0,s1,s2,.val (.int .i64 ((1+VaD.cnts (pre++ys):Nat):Int)),s5,s7,s8,s9,s10,Kv],sto⟩):=by
 induction ys with
 |nil =>
  intro pre h3 h4 h2;have AR:=MV pre;simp only[Bv];(iterate 9 apply Exists.intro);refine tI rfl ?_;exact wk;all_goals exact .dead
 |cons y ys ih =>
  intro pre h3 h4 h2;have BI:=tN VaD.enc pre ys y;have AR:=Kz pre ys y;have h0:=zI pre.length;have hw:=wL pre ys y (by omega);have hc:=h2 y (by simp);have e1:VaD.cnts (pre++[y])=VaD.cnts pre+y.cnt:=by rw[VaD.cnts_append];simp[VaD.cnts]
  have e2:VaD.cnts (pre++y::ys)=VaD.cnts pre+(y.cnt+VaD.cnts ys):=by rw[VaD.cnts_append];simp[VaD.cnts]
  have hadd:IntKind.i64.wrap (((1+VaD.cnts pre:Nat):Int)+((y.cnt:Nat):Int))=((1+VaD.cnts (pre++[y]):Nat):Int):=by rw[cZ (by omega) (by omega)];omega
  have hgt:decide (((1+VaD.cnts (pre++[y]):Nat):Int)>4000)=false:=by simp;omega
  obtain⟨s0,s1,s2,s5,s7,s8,s9,s10,Kv,ih⟩:=ih (pre++[y]) (by simpa using h3) (by simpa using h4) (λx hx=>h2 x (by simp[hx]));simp only[As,Ca] at ih;rw[y.enc_eq] at BI hc;refine⟨s0,s1,s2,s5,s7,s8,s9,s10,Kv,?_⟩;refine tI rfl ?_;clear h4 e1 e2 h2 h3;exact wk
theorem c29:∀(v:VaD)(sto:AN),v.size<BE->v.cnt<=4000->CF (.fn 29) [.val v.enc] sto=some (.ret (.val (.int .i64 (v.cnt:Nat))),sto):=by
 intro v;induction v using VaD.ind with
 |h v ih =>
  intro sto hs hc;have NQ:=v.cnt_eq;obtain⟨s0,s1,s2,s5,s7,s8,s9,s10,Kv,hl⟩:=aLL v.con v.num sto v.args [] (by have:=v.args_len;simp only[Bl,BE] at hs ⊢;omega) (by simp only[Bl];omega) (λy hy=>ih y hy sto (by have:=VaD.args_size hy;omega) (by have:=VaD.cnts_mem hy;omega));simp only[Bl,Bi,VaD.cnts,Bk] at hl;rw[v.enc_eq,NQ];clear ih hc NQ hs;exact CT
theorem Rl(n:Nat):Nat.blt n n=false:=by
 simp only[Nat.blt];exact Bool.eq_false_iff.2 λh=>by have:=Ah h;omega
theorem RT{P:Program}{an:AK}{fn:Func}{n:Nat}{tm:List Slot}{sto:AN}{v:AVal}{t:Nat}(h1:an.ownRes=false)(h2:fn.results.toList=[.tmp t])(h3:tlook an.keep tm t=.val v)(h4:lok n v=false):finish P an fn n ⟨tm,sto⟩=some (.ret (.val v),sto):=by
 simp only[finish,h1,h2,iV,h3,DI,trim,dB,h4,Aq]
theorem c39(l:List VaD)(sto:AN):CF (.fn 39) [.val (.slice (l.map VaD.enc))] sto=some (.ret (.val (.func 108 [.loc sto.objs.length 0])),⟨sto.objs++[.box [.val (.slice (l.map VaD.enc))]],sto.lo⟩):=by
 apply tA;rfl;rfl;exact Tryz.func39;rfl;rfl;simp only[go_sem];rfl;refine tQ ?_;repeat first|with_reducible constructor|with_reducible refine tW rfl ?_|((with_reducible apply tG);(·kernel_rfl);(·(intro _ _;(repeat (apply CH;(·(intro _;simp only[FL,FO,go_sem];rfl))));rfl));(·(simp only[go_sem];rfl)))
 refine RT (t:=2) rfl rfl rfl ?_;simp only[lok,Er,lokF,Rl,Ef]
noncomputable def ph(O:List AObj)(lo:Nat)(bl:AObj)(tm:List Slot)(s:List UInt8)(n:Int)(c:Cell)(pd:Option Code)(st:LoopState):AN :=
 ⟨O++[.box [.val (.str s),.val (.int .i64 n),c],bl,.loop (kG 23 Tryz.f23 0 tm pd st)],lo⟩
theorem aQ4(v w:VaD)(S:AN):CF (.fn 38) [.val (.str [67,111,110,115]),.val (.slice [v.enc,w.enc])] S=some (.ret (.val (.agg [.str [67,111,110,115],.int .i64 0,.slice [v.enc,w.enc]])),S):=by
 have:=Su [67,111,110,115] [v,w] S
 simpa only[Aw,Au,VaD.enc_mk] using this
theorem y23{O:List AObj}{lo:Nat}(AW:lo<=O.length){bl:AObj}{k:Int}{v w:VaD}{c:Cell}(hc:c=.val (.slice (w.args.map VaD.enc))\/(c=.own 3 []/\w.args=[])){s0 s2 s5 s8 s9 s10} :
  CF (.yld (O.length+2)) [.val (.int .i64 k),.val v.enc] (ph O lo bl [s0,s2,.val (.loc O.length 0),s5,s8,s9,s10] w.con w.num c none .ready) =
   some (.ret (.val (.bool true)),ph O lo bl [s0,s2,.val (.loc O.length 0),s5,s8,s9,s10] [67,111,110,115] 0 (.val (.slice [v.enc,w.enc])) none .ready):=by
 have G5:Nat.ble lo O.length=true:=Aj (by omega);have Lf:=λS=>aQ4 v w S
 rw[v.enc_eq,w.enc_eq] at *;unfold ph;rcases hc with rfl|⟨rfl,hw⟩
 ·
  exact GJ
 ·rw[hw,Au] at Lf
  rw[hw,Au];exact GJ
theorem aHJ{j a:Nat}(S:List VaD->AN)(l:List VaD)(hl:l.length<BE)(ha:∀ys,(S ys).objs[a]?=some (.box [.val (.slice (l.map VaD.enc))]))
  (hy:∀pre y ys,l=pre++y::ys->CF (.yld j) [.val (.int .i64 (pre.length:Nat)),.val y.enc] (S ys)=some (.ret (.val (.bool true)),S (y::ys))) :
  ∀(m:Nat)(xs ys:List VaD)(i:Int),xs.length=m->i=(m:Int)-1->l=xs++ys ->
  ∃s0 s1 s3 s8 Kv,LP 108 (cG Tryz.f108 0) ⟨[.val (.yld j),.val (.loc a 0),.val (.int .i64 i),.dead,.dead],S ys⟩=some (.exit 0,⟨[s0,s1,s3,s8,Kv],S l⟩):=by
 intro m;induction m with
 |zero =>
  intro xs ys i hx hi S9
  have:=Ec hx
  subst this;subst hi;rw[S9];have AR:decide ((((0:Nat):Int)-1)>=0)=false:=rfl;(iterate 5 apply Exists.intro);refine tI rfl ?_;exact wk;all_goals exact .dead
 |succ m ih =>
  intro xs ys i hx hi S9;obtain⟨xs',y,rfl⟩:∃xs' y,xs=xs'++[y]:=⟨xs.dropLast,xs.getLast (λe=>by subst e;simp at hx),(List.dropLast_concat_getLast _).symm⟩
  have FC:xs'.length=m:=by simpa using hx
  have EJ:i=((m:Nat):Int):=by rw[hi];omega
  subst EJ;have hlx':l=xs'++y::ys:=by rw[S9];simp
  have I3:decide (((m:Nat):Int)>=0)=true:=by simp
  have h0:=zI m
  have BI:(l.map VaD.enc)[((m:Nat):Int).toNat]?=some y.enc:=by
   rw[hlx',<-FC];exact tN VaD.enc xs' ys y
  have hm:m<BE:=by rw[hlx'] at hl;simp at hl;omega
  have hw:IntKind.i64.wrap (((m:Nat):Int)-1)=((m:Nat):Int)-1:=by rw[cZ (by omega) (by simp only[BE] at hm;omega)]
  have hc:=hy xs' y ys hlx';have BP:=ha ys;rw[FC] at hc;rw[y.enc_eq] at BI hc;obtain⟨s0,s1,s3,s8,Kv,ih⟩:=ih xs' (y::ys) (((m:Nat):Int)-1) FC rfl hlx';refine⟨s0,s1,s3,s8,Kv,?_⟩;refine tI rfl ?_;clear hx hi S9 FC hlx' hm hl hy ha;exact wk
theorem aQQ{j a:Nat}(S:List VaD->AN)(l:List VaD)(hl:l.length<BE)(ha:∀ys,(S ys).objs[a]?=some (.box [.val (.slice (l.map VaD.enc))]))
  (hy:∀pre y ys,l=pre++y::ys->CF (.yld j) [.val (.int .i64 (pre.length:Nat)),.val y.enc] (S ys)=some (.ret (.val (.bool true)),S (y::ys))) :
  CF (.fn 108) [.val (.yld j),.val (.loc a 0)] (S [])=some (.ret (.tup []),⟨(S l).objs.take (S []).objs.length,(S l).lo⟩):=by
 have BP:=ha [];have hw:IntKind.i64.wrap (((l.length:Nat):Int)-1)=((l.length:Nat):Int)-1:=by rw[cZ (by omega) (by simp only[BE] at hl;omega)]
 obtain⟨s0,s1,s3,s8,Kv,CC⟩:=aHJ S l hl ha hy l.length l [] _ rfl rfl (by simp);clear hy ha hl;exact CT
theorem Yu(n:Nat):Nat.ble n (n+1)=true:=Aj (by omega)
theorem aQ5(S:AN):CF (.fn 38) [.val (.str [78,105,108]),.val (.slice [])] S=some (.ret (.val (.agg [.str [78,105,108],.int .i64 0,.slice []])),S):=by
 have:=Su [78,105,108] [] S
 simpa only[Au,VaD.enc_mk] using this
theorem aIE{O:List AObj}{lo:Nat}(AW:lo<=O.length){bl:AObj}{s0 s2 s5 s8 s9 s10}(pre:List VaD)(y:VaD)(ys:List VaD) :
  CF (.yld (O.length+2)) [.val (.int .i64 (pre.length:Nat)),.val y.enc] (ph O lo bl [s0,s2,.val (.loc O.length 0),s5,s8,s9,s10] (aG ys).con (aG ys).num (.val (.slice ((aG ys).args.map VaD.enc))) none .ready) =
   some (.ret (.val (.bool true)),ph O lo bl [s0,s2,.val (.loc O.length 0),s5,s8,s9,s10] (aG (y::ys)).con (aG (y::ys)).num (.val (.slice ((aG (y::ys)).args.map VaD.enc))) none .ready):=by
 have:=y23 (k:=(pre.length:Nat)) (v:=y) (w:=aG ys) (bl:=bl) AW (.inl rfl) (s0:=s0) (s2:=s2) (s5:=s5) (s8:=s8) (s9:=s9) (s10:=s10)
 simpa only[aG,VaD.args,VaD.con,VaD.num,Aw,Au,u6] using this
theorem Ng(l:List VaD)(hl:l.length<BE)(sto:AN)(AW:sto.lo<=sto.objs.length):CF (.fn 23) [.val (.slice (l.map VaD.enc))] sto=some (.ret (.val (aG l).enc),sto):=by
 have G5:Nat.ble sto.lo sto.objs.length=true:=Aj (by omega);have KZ:=λs=>c39 l s
 have hc:=λs0 s2 s5 s8 s9 s10=>aQQ (j:=sto.objs.length+2) (a:=sto.objs.length+1)
  (λys=>ph sto.objs sto.lo (.box [.val (.slice (l.map VaD.enc))]) [s0,s2,.val (.loc sto.objs.length 0),s5,s8,s9,s10] (aG ys).con (aG ys).num (.val (.slice ((aG ys).args.map VaD.enc))) none .ready) l hl
  (λys=>by simp only[ph,FL,FO]) (λpre y ys _=>aIE AW (s0:=s0) (s2:=s2) (s5:=s5) (s8:=s8) (s9:=s9) (s10:=s10) pre y ys)
 simp only[ph,FL,FO] at hc;have e0:(aG []).con=[78,105,108]/\(aG []).num=0/\(aG []).args.map VaD.enc=[]:=⟨rfl,rfl,rfl⟩
 rw[e0.1,e0.2.1,e0.2.2] at hc;rw[VaD.enc_eq (aG l)];apply tA;rfl;rfl;exact Tryz.func23;rfl;rfl;simp only[go_sem];rfl;refine tQ ?_;repeat first|with_reducible constructor|with_reducible refine tW rfl ?_|((with_reducible apply tG);(·kernel_rfl);(·(intro _ _;(repeat (apply CH;(·(intro _;simp only[FL,FO,aQ5,KZ,G5,Yu,De,Bk,go_sem];rfl))));rfl));(·(simp only[go_sem];rfl)))
 with_reducible apply Nq
 ·rfl
 ·simp only[FL,FO]
  exact hc _ _ _ _ _ _
 ·simp only[FL,FO]
  rfl
 ·simp only[FL,FO]
  rfl
 exact GJ
theorem yY:∀l:List VaD,(aG l).size<=VaD.sizes l+6*l.length+4
 |[]=>by simp[aG,VaD.size,VaD.sizes,nilS]
 |v::l=>by
  have:=yY l
  simp only[aG,VaD.size,VaD.sizes,u6,Ay,Bi];omega
theorem c8(l:List VaD)(sto:AN)(hs:VaD.sizes l+6*l.length+4<BE)(AW:sto.lo<=sto.objs.length):CF (.fn 8) [.val (.slice (l.map VaD.enc))] sto=some (.ret (.val (aG l).enc),sto):=by
 have BG:=yY l;have Ia:=Ng l (by omega) sto AW;have QM:=c22 (aG l) sto (by omega);rw[VaD.enc_eq (aG l)] at *;exact wk
theorem c6(sto:AN):CF (.fn 6) [] sto=some (.ret (.val (.bool true)),sto):=Li (r:=.ret (.val (.bool true))) rfl rfl
theorem lQ(n:Int):(nO n).enc=.agg [.str [],.int .i64 n,.slice []]:=by simp only[nO,VaD.enc_mk,Au]
theorem aQ7(n:Int)(S:AN):CF (.fn 54) [.val (.int .i64 n)] S=some (.ret (.val (.agg [.str [],.int .i64 n,.slice []])),S):=by rw[<-lQ];exact c54 n S
def bM(v:VaD):List Cell:=[.val (.str v.con),.val (.int .i64 v.num),.val (.slice (v.args.map VaD.enc))]
theorem aQT(v:VaD)(sto:AN):CF (.fn 115) [.val v.enc] sto=some (.ret (.val (.func 161 [.loc sto.objs.length 0])),⟨sto.objs++[.box (bM v)],sto.lo⟩):=by
 rw[v.enc_eq,bM];apply tA;rfl;rfl;exact Tryz.func115;rfl;rfl;simp only[go_sem];rfl;refine tQ ?_;repeat first|with_reducible constructor|with_reducible refine tW rfl ?_|((with_reducible apply tG);(·kernel_rfl);(·(intro _ _;(repeat (apply CH;(·(intro _;simp only[FL,FO,go_sem];rfl))));rfl));(·(simp only[go_sem];rfl)))
 refine RT (t:=2) rfl rfl rfl ?_;simp only[lok,Er,lokF,Rl,Ef]
theorem dO(l:List VaD):(aG l).enc=.agg [.str (aG l).con,.int .i64 (aG l).num,.slice ((aG l).args.map VaD.enc)]:=VaD.enc_eq _
theorem aHN{A:Type}{j a:Nat}(S:VaD->A->AN)(step:A->VaD->A)(I:A->Nat->Prop)(ha:∀v x,(S v x).objs[a]?=some (.box (bM v)))(AW:∀v x,(S v x).lo<=a)
  (dA:∀v w x,({ S v x with objs:=(S v x).objs.set a (.box (bM w)) }:AN)=S w x) (hI:∀x n y,I x (n+1)->I (step x y) n)
  (hy:∀v x n y,I x (n+1)->CF (.yld j) [.val y.enc] (S v x)=some (.ret (.val (.bool true)),S v (step x y))):∀(l:List VaD)(x:A),I x l.length ->
  ∃s0 s1 s5 s12,LP 161 (cG Tryz.f161 0) ⟨[.val (.yld j),.val (.loc a 0),.dead,.dead],S (aG l) x⟩=some (.exit 0,⟨[s0,s1,s5,s12],S (aG []) (l.foldl step x)⟩):=by
 intro l;induction l with
 |nil =>
  intro x hx;have BP:=ha (aG []) x;simp only[aG,bM,VaD.con,VaD.num,VaD.args,nilS,Au] at BP;simp only[Hc];(iterate 4 apply Exists.intro);refine tI rfl ?_;exact wk;all_goals exact .dead
 |cons y ys ih =>
  intro x hx;have BP:=ha (aG (y::ys)) x;have EY:=ha (aG (y::ys)) (step x y);have hle:=Aj (AW (aG (y::ys)) (step x y));have hs:=dA (aG (y::ys)) (aG ys) (step x y);have hc:=hy (aG (y::ys)) x _ y hx;obtain⟨s0,s1,s5,s12,ih⟩:=ih (step x y) (hI _ _ _ hx);generalize hS1:S (aG (y::ys)) x=S1 at *;generalize hS2:S (aG (y::ys)) (step x y)=S2 at *;simp only[Dy];rw[<-hs] at ih;simp only[aG,bM,VaD.con,VaD.num,VaD.args,u6,Aw,Au] at BP EY;simp only[bM] at ih;rw[y.enc_eq] at BP EY hc;rw[dO ys] at BP EY;refine⟨s0,s1,s5,s12,?_⟩;refine tI rfl ?_;exact wk
theorem aQU{A:Type}{j a:Nat}(S:VaD->A->AN)(step:A->VaD->A)(I:A->Nat->Prop)(ha:∀v x,(S v x).objs[a]?=some (.box (bM v)))(AW:∀v x,(S v x).lo<=a)
  (dA:∀v w x,({ S v x with objs:=(S v x).objs.set a (.box (bM w)) }:AN)=S w x) (hI:∀x n y,I x (n+1)->I (step x y) n)
  (hy:∀v x n y,I x (n+1)->CF (.yld j) [.val y.enc] (S v x)=some (.ret (.val (.bool true)),S v (step x y))) (l:List VaD) (x:A) (hx:I x l.length) :
  CF (.fn 161) [.val (.yld j),.val (.loc a 0)] (S (aG l) x)=some (.ret (.tup []),⟨(S (aG []) (l.foldl step x)).objs.take (S (aG l) x).objs.length,(S (aG []) (l.foldl step x)).lo⟩):=by
 obtain⟨s0,s1,s5,s12,CC⟩:=aHN S step I ha AW dA hI hy l x hx;apply tA;rfl;rfl;exact Tryz.func161;rfl;rfl;simp only[go_sem];rfl;refine tQ ?_;repeat first|with_reducible constructor|with_reducible refine tW rfl ?_
 apply tL;exact CC;exact wk
theorem dw{α:Type}(g:α->AVal):∀(l:List α)(X:List AVal),l.foldl (λX y=>X++[g y]) X=X++l.map g
 |[],X=>by simp
 |y::l,X=>by simp[dw g l]
noncomputable def uY(O:List AObj)(lo:Nat)(tm:List Slot)(v:VaD)(X:List AVal):AN :=
 ⟨O++[.box (bM v),.box [.own 3 X],.loop (kG 160 Tryz.f160 0 tm none .ready)],lo⟩
theorem aT1{O:List AObj}{lo:Nat}(AW:lo<=O.length){X:List AVal}(hX:X.length+1<BE){v y:VaD}{s0 s1 s4 s5 s6 s7} :
  CF (.yld (O.length+2)) [.val y.enc] (uY O lo [s0,s1,.val (.loc (O.length+1) 0),s4,s5,s6,s7] v X)=some (.ret (.val (.bool true)),uY O lo [s0,s1,.val (.loc (O.length+1) 0),s4,s5,s6,s7] v (X++[y.enc])):=by
 have G5:Nat.ble lo O.length=true:=Aj (by omega);have DD:Nat.ble lo (O.length+1)=true:=Aj (by omega);have hr:Nat.ble (X.length+1) room=true:=Aj (by simp only[BE] at hX;unfold room;omega);rw[y.enc_eq];unfold uY;apply tY
 ·(simp only[FL,FO];try rfl)
 ·rfl
 ·kernel_rfl
 ·first|assumption|(apply Aj;(try simp only[FL,FO]);omega)
 ·(simp only[cS,List.zip,List.zipWith,Eu,Fz,go_sem];rfl)
 refine tQ ?_;repeat first|with_reducible constructor|with_reducible refine tW rfl ?_|((with_reducible apply tG);(·kernel_rfl);(·(intro _ _;(repeat (apply CH;(·(intro _;simp only[FL,FO,go_sem];rfl))));rfl));(·(simp only[go_sem];rfl)))
 apply Ob
 ·(simp only[FL,FO];try rfl)
 ·(simp only[FL,FO];try rfl)
 refine tQ ?_;repeat first|with_reducible constructor|with_reducible refine tW rfl ?_
 apply aPE (sz:=3)
 ·kernel_rfl
 ·kernel_rfl
 ·simp only[go_sem];rfl
 ·simp only[go_sem];rfl
 ·simp only[FL,FO];rfl
 ·simp only[FL,FO,hr,DD,go_sem];rfl
 simp only[FL,FO];repeat first|with_reducible constructor|with_reducible refine tW rfl ?_
 exact GJ
end
end Go.Proofs.YtdkkaldimefljaaGreatDoor
