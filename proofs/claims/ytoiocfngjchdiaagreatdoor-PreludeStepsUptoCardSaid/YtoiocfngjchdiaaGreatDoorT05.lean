import Derived.Test.YtoiocfngjchdiaaGreatDoorT04
set_option linter.all false
set_option maxRecDepth 100000
set_option maxHeartbeats 8000000
namespace Go.Proofs.YtoiocfngjchdiaaGreatDoor
open Go.AM
variable [Aps]
def ZO(e:ExD)(env:EnD)(r:ItD)(n:Nat):Prop:=∀(Q:List AObj)(ir d iq q lo s:Nat),RunOK Q ir d iq q lo->s+n<=q->∃(L:List AObj),∃s0 s1 s2 s7 s8 s9 s10 CL CR HB Iu It HA EZ EY EX EW,
 LP 104 (aS Tryz.f104 0) ⟨[.val (.loc ir 0),.val (.cptr e.enc),.val env.enc,.dead,.dead,.dead,.dead,.dead,.dead,.dead,.dead,.dead,.dead,.dead,.dead,.dead,.dead,.dead],⟨AW Q d s,lo⟩⟩=some (.ret,⟨[s0,s1,s2,.val r.enc,s7,s8,s9,s10,CL,CR,HB,Iu,It,HA,EZ,EY,EX,EW],⟨AW Q d (s+n)++L,lo⟩⟩)
theorem Yp{e:ExD}{env:EnD}{r:ItD}{n:Nat}(h:ZO e env r n):Rs e env r n:=by
 intro Q ir d iq q lo s hR hs;obtain⟨L,s0,s1,s2,s7,s8,s9,s10,CL,CR,HB,Iu,It,HA,EZ,EY,EX,EW,hl⟩:=h Q ir d iq q lo s hR hs;obtain⟨t,v,hr,hf,hc⟩:=r.form;rw[hr] at hl ⊢;clear hr hR hs h;apply tA;rfl;rfl;exact Tryz.func104;rfl;rfl;simp only[go_sem];rfl;refine tQ ?_;repeat first|with_reducible constructor|with_reducible refine tW rfl ?_|((with_reducible apply tG);(·kernel_rfl);(·(intro _ _;(repeat (apply BN;(·(intro _;simp only[*,go_sem];rfl))));rfl));(·(simp only[go_sem];rfl)))|((with_reducible apply t1);(·(simp only[go_sem];rfl));(·rfl))|((with_reducible apply t0);(·(simp only[go_sem];rfl));(·rfl))|((with_reducible apply tl);(·assumption))
 refine tL ((Dp (LP 104 (aS Tryz.f104 0)) (tM (env.thaw _))).trans hl) ?_;refine tQ ?_;repeat first|with_reducible constructor|with_reducible refine tW rfl ?_
 exact QA (finVal rfl rfl (Y8 _ hc))
theorem EvL.len:∀{al:List ExD}{e:EnD}{l:List ItD}{n:Nat},EvL al e l n->al.length=l.length
 |[],_,_,_,.nil=>rfl
 |_::_,_,_,_,.cons _ t=>by simp[t.len]
theorem aJb{P:Program}{an:AF}{fn:Func}{n:Nat}{tm:List Slot}{sto:AH}{v:AVal}{t:Nat}(h2:fn.results.toList=[.tmp t])(h3:tlook an.keep tm t=.val v)(h4:AM.lok n v=false):finish P an fn n ⟨tm,sto⟩=some (.ret (.val v),sto):=by
 simp only[finish,h2,fL,h3,DQ,trim,cF,h4,Be]
theorem EnD.three(e:EnD):e.enc=.nilptr\/(∃x,e.enc=.cptr x)\/∃t f a b o,e.enc=.rc t f a b o:=by
 cases e with
 |nil=>exact .inl EnD.enc_nil
 |cons n i o=>exact .inr (.inl ⟨_,EnD.enc_cons n i o⟩)
 |rc f a b o=>exact .inr (.inr ⟨_,_,_,_,_,EnD.enc_rc f a b o⟩)
theorem aRE(e:EnD)(s:List UInt8)(sto:AH):CF (.fn 102) [.val e.enc,.val (.str s),.val .nilif] sto=some (.ret (.val (.loc sto.objs.length 0)),⟨sto.objs++[.box [.val (.str s),.val .nilif,.val e.enc]],sto.lo⟩):=by
 have h4:lQ (.val .nilif)=false:=rfl;have hb:Nat.blt sto.objs.length sto.objs.length=false:=Fh.2 λh=>by have:=Ad h;omega
 rcases e.three with h|⟨x,h⟩|⟨t,f,a,b,o,h⟩<;>rw[h]
 all_goals
  clear h;refine GR ?_;exact aJb (v:=.loc sto.objs.length 0) (t:=6) rfl rfl hb
theorem main:∀(n:Nat)(e:ExD)(env:EnD)(r:ItD),Ev e env r n->ZO e env r n:=by
 intro n;induction n using Nat.strongRecOn with
 |_ n ih =>
 intro e env r h Q ir d iq q lo s hR hs;have BS:=c31 (s:=s) hR (by cases h<;>omega);have BA:=(jG hR.ne1 s).trans hR.run;have H:∀m e env r,Ev e env r m->m<n->Rs e env r m:=λm e env r h hm=>Yp (ih m hm e env r h)
 cases h with
 |@num n nm a al pl e =>
  refine⟨[],?_⟩;rw[ItD.enc_num,ExD.enc_mk];simp only[Ao];clear ih H hR;generalize env.enc=E;iterate 17 apply Exists.intro
  refine tI rfl ?_;exact wk;all_goals exact .dead
 |@var m nm a al pl e i h =>
  have hc:=λsto=>aXV nm sto r env h
  obtain⟨t,v,hi,hf,BM⟩:=r.form;refine⟨[],?_⟩;rw[ExD.enc_mk];rw[hi] at hc ⊢;simp only[Ao];clear ih H hR hi h;generalize env.enc=E at *;iterate 17 apply Exists.intro
  refine tI rfl ?_;exact wk;all_goals exact .dead
 |@con m nm a al pl e l k Hx h =>
  have hc:=VE (s:=s+1) hR k (λm e env r h hm=>H m e env r h (by omega)) env al l Hx h (by omega);have e1:s+(k+1)=s+1+k:=by omega
  rw[e1];refine⟨[],?_⟩;rw[ExD.enc_mk,ItD.enc_mk];simp only[Ao];clear ih H hR h e1 hs Hx;generalize env.enc=E at *;iterate 17 apply Exists.intro
  refine tI rfl ?_;exact B9;all_goals exact .dead
 |@fn m nm a b al pl e =>
  refine⟨[],?_⟩;rw[ExD.enc_mk,ItD.enc_fn,Bb];rw[b.enc_eq];simp only[Ao];have h1:=env.clean;have h2:=env.flat;have h3:=env.frz;have h6:=env.cells;have h4:lQ (.val (.str a))=true:=rfl;have h5:∀v,lQ (.val (.cptr v))=true:=λ_=>rfl
  clear ih H hR;generalize env.enc=E at *;iterate 17 apply Exists.intro
  refine tI rfl ?_;refine U1 ?_;exact Qe;all_goals exact .dead
 |@op m nm a al pl e x y v k h ho =>
  have hc:=VE (s:=s+1) hR k (λm e env r h hm=>H m e env r h (by omega)) env al _ (by rw[h.len];exact(by decide:2<1000)) h (by omega);have CV:=λsto=>aXW nm x y r ho sto
  have e1:s+(k+1)=s+1+k:=by omega
  rw[e1];obtain⟨t,v,hi,hf,BM⟩:=r.form;refine⟨[],?_⟩;rw[ExD.enc_mk];rw[hi] at CV ⊢;simp only[Ao];simp only[Bb,Ax,ItD.enc_num] at hc CV;clear ih H hR h e1 hs ho hi;generalize env.enc=E at *;iterate 17 apply Exists.intro
  refine tI rfl ?_;exact wk;all_goals exact .dead
 |@app m nm a al pl e f b c v r k k2 h h2 =>
  have hc:=VE (s:=s+1) hR k (λm e env r h hm=>H m e env r h (by omega)) env al _ (by rw[h.len];exact(by decide:2<1000)) h (by omega);have CV:=Yq c f v;obtain⟨L,s0,s1,s2,s7,s8,s9,s10,CL,CR,HB,Iu,It,HA,EZ,EY,EX,EW,hl⟩:=ih k2 (by omega) b (.cons f v c) r h2 Q ir d iq q lo (s+1+k) hR (by omega);have e1:s+(k+k2+1)=s+1+k+k2:=by omega
  rw[e1];obtain⟨t,v',hi,hf,BM⟩:=v.form;have Mw:=λO=>(EnD.cons f v c).thaw O
  have g1:=c.clean;have g2:=c.flat;have g3:=c.cells;refine⟨L,s0,s1,s2,s7,s8,s9,s10,CL,CR,HB,Iu,It,HA,EZ,EY,EX,EW,?_⟩;rw[ExD.enc_mk];rw[hi] at CV;simp only[Bb,Ax,ItD.enc_fn,hi] at hc;clear ih H hR h e1 hs h2 hi;generalize(EnD.cons f v c).enc=E' at *;generalize c.enc=C at *;generalize env.enc=E at *;generalize b.enc=B at *;refine tI rfl ?_;refine GR ?_;exact U5 (P:=Tryz.prog) (tM (Mw _)) hl
 |@recf m nm a b c al pl e r k h =>
  have hc:=aRE env nm
  have Mw:∀M,gZ (AW Q d (s+1)++AObj.frz (EnD.rc nm a b env).enc::M) (.val (.loc Q.length 0))=.val (EnD.rc nm a b env).enc:=λM=>by
   have h0:(AW Q d (s+1)++AObj.frz (EnD.rc nm a b env).enc::M)[Q.length]?=some (.frz (EnD.rc nm a b env).enc):=by
    rw[<-bW Q d (s+1)];simp
   simp only[gZ,h0];rfl
  obtain⟨L,s0,s1,s2,s7,s8,s9,s10,CL,CR,HB,Iu,It,HA,EZ,EY,EX,EW,hl⟩:=ih k (by omega) c (.rc nm a b env) r h (Q++[.frz (EnD.rc nm a b env).enc,.frz (.cptr (.agg [.str a,.cptr b.enc,(EnD.rc nm a b env).enc]))]) ir d iq q lo (s+1) (hR.app _) (by omega);rw[eR hR.lt,eR hR.lt,Aj] at hl;have e1:s+(k+1)=s+1+k:=by omega
  rw[e1];have g1:=env.clean;have g2:=env.flat;have g3:=env.cells;have k1:Nat.ble lo Q.length=true:=Ah (by have:=hR.lo;have:=hR.lt;omega);have k2:Nat.ble (Q.length+1) (Q.length+1)=true:=Ah (Af _);have k3:=λx=>bW Q d x
  have k4:Nat.beq Q.length Q.length=true:=by simp
  have o1:∀A M,(AW Q d (s+1)++A::M)[Q.length]?=some A:=λA M=>by rw[<-bW Q d (s+1)];simp
  have o2:∀A B M,(AW Q d (s+1)++A::B::M)[Q.length+1]?=some B:=λA B M=>by rw[<-bW Q d (s+1)];simp
  have o3:∀A M X,(AW Q d (s+1)++A::M).set Q.length X=AW Q d (s+1)++X::M:=λA M X=>by rw[<-bW Q d (s+1)];simp
  have o4:∀A B M X,(AW Q d (s+1)++A::B::M).set (Q.length+1) X=AW Q d (s+1)++A::X::M:=λA B M X=>by rw[<-bW Q d (s+1)];simp
  have f4:∀x,flat (.cptr x)=true:=λ_=>rfl
  have k5:Nat.ble Q.length Q.length=true:=Ah (Af _);have f1:∀n,lQ (.val (.loc n 0))=false:=λ_=>rfl
  have f2:∀x,lQ (.val (.str x))=true:=λ_=>rfl
  have f3:∀x,lQ (.val (.cptr x))=true:=λ_=>rfl
  refine⟨[.frz (EnD.rc nm a b env).enc,.frz (.cptr (.agg [.str a,.cptr b.enc,(EnD.rc nm a b env).enc]))]++L,s0,s1,s2,s7,s8,s9,s10,CL,CR,HB,Iu,It,HA,EZ,EY,EX,EW,?_⟩;rw[ExD.enc_mk,Bb,Bb];rw[EnD.enc_rc] at hl Mw ⊢;clear ih H hR h e1 hs;generalize env.enc=E at *;rw[b.enc_eq] at *;rw[c.enc_eq] at *;refine tI rfl ?_;refine tQ ?_;repeat first|with_reducible constructor|with_reducible refine tW rfl ?_|((with_reducible apply tG);(·kernel_rfl);(·(intro _ _;(repeat (apply BN;(·(intro _;simp only[*,go_sem,Nat.reduceAdd,reduceIte,partOf,kM,pB,Pf,eY,FL,FO,ov];rfl))));rfl));(·(simp only[go_sem];rfl)))|((with_reducible apply t1);(·(simp only[go_sem];rfl));(·rfl))|((with_reducible apply t0);(·(simp only[go_sem];rfl));(·rfl))|((with_reducible apply tl);(·assumption))
  exact U5 (P:=Tryz.prog) (tM (Mw _)) hl
 |@case m nm a b c al pl e e' v r k k2 Hx h ha h2 =>
  have hc:=H k b env v h (by omega) Q ir d iq q lo (s+1) hR (by omega);have CV:=λsto=>aXX (.mk 8 m nm a (b::al) pl) Hx b al rfl v env c e' ha sto
  obtain⟨L,s0,s1,s2,s7,s8,s9,s10,CL,CR,HB,Iu,It,HA,EZ,EY,EX,EW,hl⟩:=ih k2 (by omega) c e' r h2 Q ir d iq q lo (s+1+k) hR (by omega);have e1:s+(k+k2+1)=s+1+k+k2:=by omega
  rw[e1];obtain⟨t,v',hi,hf,BM⟩:=v.form;have Mw:=λO=>e'.thaw O
  refine⟨L,s0,s1,s2,s7,s8,s9,s10,CL,CR,HB,Iu,It,HA,EZ,EY,EX,EW,?_⟩;rw[ExD.enc_mk,Bb] at CV ⊢;rw[hi] at hc CV;rw[b.enc_eq] at hc CV ⊢;clear ih H hR h e1 hs h2 hi ha;generalize e'.enc=E' at *;generalize env.enc=E at *;generalize c.enc=B at *;refine tI rfl ?_;refine GR ?_;exact U5 (P:=Tryz.prog) (tM (Mw _)) hl
def toIt:VaD->ItD
 |.mk c n al=>bif c==[] then .num n else .mk c (toIts al)
where
 toIts:List VaD->List ItD
  |[]=>[]
  |v::l=>toIt v::toIts l
theorem aEe(l:List VaD):toIt.toIts l=l.map toIt:=by
 induction l with
 |nil=>simp[toIt.toIts]
 |cons a l ih=>simp[toIt.toIts,ih]
theorem xz(v:VaD):toIt v=bif v.con==[] then .num v.num else .mk v.con (v.args.map toIt):=by
 cases v;simp[toIt,aEe,VaD.con,VaD.num,VaD.args]
mutual
def VaD.okI:VaD->Bool
 |.mk c n al=>bif c==[] then al.length==0 else n==0&&VaD.okIs al
def VaD.okIs:List VaD->Bool
 |[]=>true
 |v::l=>v.okI&&VaD.okIs l
end
theorem VaD.okI_eq(v:VaD):v.okI=bif v.con==[] then v.args.length==0 else v.num==0&&VaD.okIs v.args:=by cases v;rfl
theorem VaD.okIs_mem:∀{l:List VaD},VaD.okIs l=true->∀v∈l,v.okI=true
 |[],_,v,h=>by simp at h
 |x::l,h,v,hv=>by
  simp only[VaD.okIs,Ac] at h;rcases Au.1 hv with hv|hv
  ·subst hv;exact h.1
  ·exact VaD.okIs_mem h.2 v hv
theorem aF7{Q:List AObj}{d lo:Nat}(hd:d<Q.length)(AP:lo<=d)(c:List UInt8)(ys:List VaD):∀(pre:List VaD)(s:Nat),(pre++ys).length<5000->s+VaD.cnts ys<=4000 ->
  (∀y∈ys,∀s,s+y.cnt<=4000->CF (.fn 105) [.val (toIt y).enc,.val (.loc d 0)] ⟨AW Q d s,lo⟩=some (.ret (.val y.enc),⟨AW Q d (s+y.cnt),lo⟩)) ->
  ∃s0 s1 s5 s6 s9 DD DR BX BU Qi Qh II IH CU HB,LP 105 (aS Tryz.f105 0) ⟨[.dead,.val (.loc d 0),.box [.val (.str []),.val (.int .i64 0),.own 3 []],.dead,.dead,.box [.val (.str c),.val (.int .i64 0),.own 3 (pre.map VaD.enc)],.dead,.dead,.dead,.dead,.dead,.dead,.dead,.val (.slice ((pre++ys).map λy=>(toIt y).enc)),.val (.int .i64 ((pre++ys).length:Nat)),.val (.int .i64 (pre.length:Nat)),.dead],⟨AW Q d s,lo⟩⟩ =
   some (.exit 1,⟨[s0,s1,.box [.val (.str []),.val (.int .i64 0),.own 3 []],s5,s6,.box [.val (.str c),.val (.int .i64 0),.own 3 ((pre++ys).map VaD.enc)],s9,DD,DR,BX,BU,Qi,Qh,II,IH,CU,HB],⟨AW Q d (s+VaD.cnts ys),lo⟩⟩):=by
 induction ys with
 |nil =>
  intro pre s h3 h4 h2;have AL:=DL pre;simp only[Ao,VaD.cnts,Aw];clear h2;iterate 15 apply Exists.intro
  refine tI rfl ?_;exact wk;all_goals exact .dead
 |cons y ys ih =>
  intro pre s h3 h4 h2;have AN:=dK (λy=>(toIt y).enc) pre ys y;have AL:=CY pre ys y;have h0:=zI pre.length;have hw:=wL pre ys y (by simp only[AV];omega);simp only[VaD.cnts] at h4;have hc:=h2 y (by simp) s (by omega);have hr:Nat.ble (pre.length+1) room=true:=by apply Ah;simp only[room];simp only[Bm,An] at h3;omega
  have emap:(pre++[y]).map VaD.enc=pre.map VaD.enc++[y.enc]:=by simp
  obtain⟨s0,s1,s5,s6,s9,DD,DR,BX,BU,Qi,Qh,II,IH,CU,HB,ih⟩:=ih (pre++[y]) (s+y.cnt) (by simpa using h3) (by omega) (λx hx=>h2 x (by simp[hx]));rw[emap] at ih;have e1:s+VaD.cnts (y::ys)=s+y.cnt+VaD.cnts ys:=by simp only[VaD.cnts];omega
  rw[e1];obtain⟨t,w,hi,hf,BM⟩:=(toIt y).form;rw[y.enc_eq] at hc ih;rw[hi] at AN hc;simp only[Aj,Am] at ih;refine⟨s0,s1,s5,s6,s9,DD,DR,BX,BU,Qi,Qh,II,IH,CU,HB,?_⟩;refine tI rfl ?_;clear h2 hi emap e1 h4;exact B9
theorem aXL{Q:List AObj}{d lo:Nat}(hd:d<Q.length)(AP:lo<=d):∀(v:VaD)(s:Nat),v.okI=true->s+v.cnt<=4000 ->
  CF (.fn 105) [.val (toIt v).enc,.val (.loc d 0)] ⟨AW Q d s,lo⟩=some (.ret (.val v.enc),⟨AW Q d (s+v.cnt),lo⟩):=by
 intro v;induction v using VaD.ind with
 |h v ih =>
  intro s hv hs;have GA:=v.cnt_eq;have CG:=v.cnt_pos;have g1:=λs=>dm hd s
  have g2:=λs s'=>dn Q d s s'
  have g3:Nat.ble lo d=true:=Ah AP;have hadd:IntKind.i64.wrap (((s:Nat):Int)+1)=((s+1:Nat):Int):=wI _ (by simp only[AV];omega);have hgt:decide (((s+1:Nat):Int)>4000)=false:=by simp;omega
  rw[VaD.okI_eq] at hv;cases h0:(v.con==[]) with
  |true =>
   rw[h0,Bl] at hv;have DU:v.args=[]:=Cs (by simpa using hv);have e1:s+v.cnt=s+1:=by rw[GA,DU];simp[VaD.cnts]
   have e2:v.con=[]:=Bx.1 h0;rw[e1,xz,h0,Bl,ItD.enc_num,VaD.enc_eq v,DU,Ax,e2];clear GA CG ih e1 e2 DU hv hs h0 hd AP;refine GR ?_;exact u9 rfl
  |false =>
   rw[h0,Be] at hv;simp only[Ac] at hv;obtain⟨hn,DM⟩:=hv;have IA:v.num=0:=by simpa using hn
   have e1:s+v.cnt=s+1+VaD.cnts v.args:=by rw[GA];omega
   have hlen:v.args.length<=VaD.cnts v.args:=by
    generalize v.args=l;induction l with
    |nil=>simp
    |cons a l ih=>simp only[An,VaD.cnts];have:=a.cnt_pos;omega
   obtain⟨s0,s1,s5,s6,s9,DD,DR,BX,BU,Qi,Qh,II,IH,CU,HB,BJ⟩:=aF7 hd AP v.con v.args [] (s+1) (by simp only[Ak];omega) (by omega) (λy hy s Jp=>ih y hy s (VaD.okIs_mem DM y hy) Jp);simp only[Ak,Ar,Ax,show((0:Nat):Int)=0 from rfl] at BJ;rw[e1,xz,h0,Be,ItD.enc_mk,VaD.enc_eq v,IA];have em:(v.args.map toIt).map ItD.enc=v.args.map λy=>(toIt y).enc:=by simp[Er]
   rw[em];clear GA CG ih e1 em IA hn DM hs h0 hd AP hlen;apply tA;rfl;rfl;exact Tryz.func105;rfl;rfl;simp only[go_sem];rfl;refine tQ ?_;repeat first|with_reducible constructor|with_reducible refine tW rfl ?_|((with_reducible apply tG);(·kernel_rfl);(·(intro _ _;(repeat (apply BN;(·(intro _;simp only[*,go_sem,Nat.reduceAdd,reduceIte,Ay];rfl))));rfl));(·(simp only[go_sem];rfl)))|((with_reducible apply t1);(·(simp only[go_sem];rfl));(·rfl))|((with_reducible apply t0);(·(simp only[go_sem];rfl));(·rfl))|((with_reducible apply tl);(·assumption))
   exact u9 rfl
def exprD:VaD->ExD
 |.mk c n al=>bif c==[] then .mk 1 n [] [] [] [] else .mk 3 0 c [] (exprDs al) []
where
 exprDs:List VaD->List ExD
  |[]=>[]
  |v::l=>exprD v::exprDs l
theorem zq(l:List VaD):exprD.exprDs l=l.map exprD:=by
 induction l with
 |nil=>simp[exprD.exprDs]
 |cons a l ih=>simp[exprD.exprDs,ih]
theorem aCk(v:VaD):exprD v=bif v.con==[] then .mk 1 v.num [] [] [] [] else .mk 3 0 v.con [] (v.args.map exprD) []:=by
 cases v;simp[exprD,zq,VaD.con,VaD.num,VaD.args]
theorem aMi(c:List UInt8)(sto:AH)(ys:List VaD):∀(pre:List VaD),(pre++ys).length+1<AV->(∀y∈ys,CF (.fn 39) [.val y.enc] sto=some (.ret (.val (exprD y).enc),sto)) ->
  ∃s0 s1 s5 s8 BH CD DD CL,LP 39 (aS Tryz.f39 0) ⟨[.dead,.dead,.box [.val (.int .i64 0),.val (.int .i64 0),.val (.str []),.val (.str []),.own 6 [],.own 3 []],.box [.val (.int .i64 3),.val (.int .i64 0),.val (.str c),.val (.str []),.own 6 (pre.map λy=>(exprD y).enc),.own 3 []],.dead,.dead,.val (.slice ((pre++ys).map VaD.enc)),.val (.int .i64 ((pre++ys).length:Nat)),.val (.int .i64 (pre.length:Nat)),.dead],sto⟩ =
   some (.exit 0,⟨[s0,s1,.box [.val (.int .i64 0),.val (.int .i64 0),.val (.str []),.val (.str []),.own 6 [],.own 3 []],.box [.val (.int .i64 3),.val (.int .i64 0),.val (.str c),.val (.str []),.own 6 ((pre++ys).map λy=>(exprD y).enc),.own 3 []],s5,s8,BH,CD,DD,CL],sto⟩):=by
 induction ys with
 |nil =>
  intro pre h3 h2;have AL:=DL pre;simp only[Ao];clear h2;iterate 8 apply Exists.intro
  refine tI rfl ?_;exact wk;all_goals exact .dead
 |cons y ys ih =>
  intro pre h3 h2;have AN:=dK VaD.enc pre ys y;have AL:=CY pre ys y;have h0:=zI pre.length;have hw:=wL pre ys y (by omega);have hc:=h2 y (by simp);have hr:Nat.ble (pre.length+1) room=true:=by apply Ah;simp only[room];simp only[Bm,An,AV] at h3;omega
  have emap:(pre++[y]).map (λy=>(exprD y).enc)=pre.map (λy=>(exprD y).enc)++[(exprD y).enc]:=by simp
  obtain⟨s0,s1,s5,s8,BH,CD,DD,CL,ih⟩:=ih (pre++[y]) (by simpa using h3) (λx hx=>h2 x (by simp[hx]));rw[emap] at ih;rw[y.enc_eq] at AN hc;rw[ExD.enc_eq (exprD y)] at hc ih;simp only[Aj,Am] at ih;refine⟨s0,s1,s5,s8,BH,CD,DD,CL,?_⟩;refine tI rfl ?_;clear h2 emap;exact B9
theorem Xf:∀(v:VaD)(sto:AH),v.size<AV->v.okI=true->CF (.fn 39) [.val v.enc] sto=some (.ret (.val (exprD v).enc),sto):=by
 intro v;induction v using VaD.ind with
 |h v ih =>
  intro sto hs hv;rw[VaD.okI_eq] at hv;rw[aCk];cases h0:(v.con==[]) with
  |true =>
   rw[h0,Bl] at hv;have DU:v.args=[]:=Cs (by simpa using hv);rw[Bl,ExD.enc_mk,VaD.enc_eq v,DU];simp only[Ax];clear ih hv DU hs;exact wk
  |false =>
   rw[h0,Be] at hv;simp only[Ac] at hv;obtain⟨hn,DM⟩:=hv;have DU:=v.args_len;obtain⟨s0,s1,s5,s8,BH,CD,DD,CL,hl⟩:=aMi v.con sto v.args [] (by simp only[Ak,AV] at hs ⊢;omega) (λy hy=>ih y hy sto (by have:=VaD.args_size hy;omega) (VaD.okIs_mem DM y hy));simp only[Ak,Ar,Ax,show((0:Nat):Int)=0 from rfl] at hl;rw[Be,ExD.enc_mk,VaD.enc_eq v];have em:(v.args.map exprD).map ExD.enc=v.args.map λy=>(exprD y).enc:=by simp[Er]
   rw[em];simp only[Ax];clear ih DU hs hn DM em;exact B9
def x7(e:ExD)(v:VaD):ExD:=.mk 4 0 [] [] [e,exprD v] []
def jL(nm:List UInt8)(vs:List VaD):ExD:=vs.foldl x7 (.mk 2 0 nm [] [] [])
abbrev Rm:Slot:=.box [.val (.int .i64 0),.val (.int .i64 0),.val (.str []),.val (.str []),.own 6 [],.own 3 []]
abbrev zd(e:ExD)(v:VaD):Slot:=.box [.val (.int .i64 4),.val (.int .i64 0),.val (.str []),.val (.str []),.val (.slice [e.enc,(exprD v).enc]),.own 3 []]
theorem aGh(sto:AH)(ys:List VaD):∀(pre:List VaD)(e:ExD)(v:VaD),(pre++ys).length<AV->(∀y∈ys,y.size<AV/\y.okI=true)->∃e' v',ys.foldl x7 (x7 e v)=x7 e' v' /\
  ∃s0 s1 s5 s6 s9 s10 FA I9 DR DG BX HD,LP 22 (aS Tryz.f22 0) ⟨[.dead,.dead,Rm,.dead,.dead,zd e v,.dead,.dead,.dead,.val (.slice ((pre++ys).map VaD.enc)),.val (.int .i64 ((pre++ys).length:Nat)),.val (.int .i64 (pre.length:Nat)),.dead,.dead],sto⟩=some (.exit 0,⟨[s0,s1,Rm,s5,s6,zd e' v',s9,s10,FA,I9,DR,DG,BX,HD],sto⟩):=by
 induction ys with
 |nil =>
  intro pre e v h3 h2;have AL:=DL pre;refine⟨e,v,rfl,?_⟩;simp only[Ao];clear h2;iterate 12 apply Exists.intro
  refine tI rfl ?_;exact wk;all_goals exact .dead
 |cons y ys ih =>
  intro pre e v h3 h2;have AN:=dK VaD.enc pre ys y;have AL:=CY pre ys y;have h0:=zI pre.length;have hw:=wL pre ys y h3;obtain⟨k1,k2⟩:=h2 y (by simp);have hc:=Xf y sto k1 k2;obtain⟨e',v',he,s0,s1,s5,s6,s9,s10,FA,I9,DR,DG,BX,HD,ih⟩:=ih (pre++[y]) (x7 e v) y (by simpa using h3) (λx hx=>h2 x (by simp[hx]));refine⟨e',v',he,s0,s1,s5,s6,s9,s10,FA,I9,DR,DG,BX,HD,?_⟩;have ea:(x7 e v).enc=.agg [.int .i64 4,.int .i64 0,.str [],.str [],.slice [e.enc,(exprD v).enc],.slice []]:=by simp[x7,ExD.enc_mk]
  simp only[zd] at ih ⊢;rw[ea] at ih;rw[y.enc_eq] at AN hc;rw[ExD.enc_eq (exprD y)] at hc ih;simp only[Aj,Am] at ih;refine tI rfl ?_;clear h2 k1 k2 ea he;exact B9
theorem aGg(nm:List UInt8)(sto:AH)(y:VaD)(ys:List VaD)(h3:(y::ys).length<AV)(h2:∀x∈y::ys,x.size<AV/\x.okI=true):∃e' v',jL nm (y::ys)=x7 e' v' /\
  ∃s0 s1 s5 s6 s9 s10 FA I9 DR DG BX HD,LP 22 (aS Tryz.f22 0) ⟨[.dead,.dead,Rm,.dead,.dead,.box [.val (.int .i64 2),.val (.int .i64 0),.val (.str nm),.val (.str []),.own 6 [],.own 3 []],.dead,.dead,.dead,.val (.slice ((y::ys).map VaD.enc)),.val (.int .i64 ((y::ys).length:Nat)),.val (.int .i64 0),.dead,.dead],sto⟩=some (.exit 0,⟨[s0,s1,Rm,s5,s6,zd e' v',s9,s10,FA,I9,DR,DG,BX,HD],sto⟩):=by
 have AN:=dK VaD.enc [] ys y;have AL:=CY [] ys y;have h0:=zI 0;have hw:=wL [] ys y (by simpa using h3);obtain⟨k1,k2⟩:=h2 y (by simp);have hc:=Xf y sto k1 k2;obtain⟨e',v',he,s0,s1,s5,s6,s9,s10,FA,I9,DR,DG,BX,HD,ih⟩:=aGh sto ys [y] (.mk 2 0 nm [] [] []) y (by simpa using h3) (λx hx=>h2 x (by simp[hx]));refine⟨e',v',he,s0,s1,s5,s6,s9,s10,FA,I9,DR,DG,BX,HD,?_⟩;have ea:(ExD.mk 2 0 nm [] [] []).enc=.agg [.int .i64 2,.int .i64 0,.str nm,.str [],.slice [],.slice []]:=by simp[ExD.enc_mk]
 simp only[zd] at ih ⊢;rw[ea] at ih;rw[y.enc_eq] at AN hc;rw[ExD.enc_eq (exprD y)] at hc ih;simp only[Ak,Ar,Am,show((0:Nat):Int)=0 from rfl] at ih AN AL h0 hw;refine tI rfl ?_;clear h2 k1 k2 ea he h3;generalize y::ys=L at *;exact B9
theorem c22(nm:List UInt8)(y:VaD)(ys:List VaD)(h3:(y::ys).length<AV)(h2:∀x∈y::ys,x.size<AV/\x.okI=true)(sto:AH)(RQ:CF (.fn 24) [.val (.str nm),.val (.slice ((y::ys).map VaD.enc))] sto=some (.ret (.val (.int .i64 0)),sto))(NL:CF (.fn 40) [.val (jL nm (y::ys)).enc] sto=some (.ret (.val (.int .i64 0)),sto)) :
  CF (.fn 22) [.val (.str nm),.val (.slice ((y::ys).map VaD.enc))] sto=some (.ret (.tup [(jL nm (y::ys)).enc,.int .i64 0]),sto):=by
 obtain⟨e',v',he,s0,s1,s5,s6,s9,s10,FA,I9,DR,DG,BX,HD,hl⟩:=aGg nm sto y ys h3 h2;rw[he] at NL ⊢;have ea:(x7 e' v').enc=.agg [.int .i64 4,.int .i64 0,.str [],.str [],.slice [e'.enc,(exprD v').enc],.slice []]:=by simp[x7,ExD.enc_mk]
 rw[ea] at NL ⊢;simp only[zd] at hl;generalize y::ys=L at *;clear h2 h3 he ea;exact B9
end Go.Proofs.YtoiocfngjchdiaaGreatDoor
namespace Go.AM
open Go.RowKit
structure Rc where
 P:Program
 ans:FuncId->AF
 cf:aJ
 fid:FuncId
 B0:Nat
 b:Frame
 cs:List Frame
 ds:List Deferred:=[]
structure Rc.OK (c:Rc):Prop where
 cf:kI c.P c.ans c.B0 c.cf
 dr:iC c.P c.ans c.cf
 fn:c.b.fn=c.fid
def Rch(c:Rc)(st:St)(items:List Item)(AY:St)(GV:List Item):Prop :=
 ∀w Ψ J ow tmps,At c.P c.ans c.fid c.B0 w Ψ J ow st tmps->∃w' Z' J' AQ tmps',At c.P c.ans c.fid c.B0 w' Z' J' AQ AY tmps'/\Fr w Ψ ow w' Z' AQ/\pre J J' /\
  Steps c.P (lone (c.b.atR ⟨tmps,c.ds⟩ items) c.cs w) (lone (c.b.atR ⟨tmps',c.ds⟩ GV) c.cs w')
variable {c:Rc}{st F2 AY:St}{k k1 k':List Item}{tm tm':List Slot}{sto sto':AH}
theorem Rch.refl:Rch c st k st k:=λw Ψ J ow tmps h=>⟨w,Ψ,J,ow,tmps,h,Fr.refl _ _ _,aG _,Steps.refl _ _⟩
theorem Rch.trans(h:Rch c st k F2 k1)(h':Rch c F2 k1 AY k'):Rch c st k AY k':=λw Ψ J ow tmps hA=>by
 obtain⟨w1,Z1,J1,BO,BF,a1,a2,a3,a4⟩:=h w Ψ J ow tmps hA;obtain⟨w2,Z2,J2,B5,B3,b1,b2,b3,b4⟩:=h' w1 Z1 J1 BO BF a1;exact⟨w2,Z2,J2,B5,B3,b1,a2.trans b2,dT a3 b3,a4.trans b4⟩
theorem Rch.step(hs:∀tmps w,step c.P (lone (c.b.atR ⟨tmps,c.ds⟩ k) c.cs w)=.next (lone (c.b.atR ⟨tmps,c.ds⟩ k1) c.cs w))(h:Rch c st k1 AY k'):Rch c st k AY k':=λw Ψ J ow tmps hA=>by
 obtain⟨w2,Z2,J2,B5,B3,b1,b2,b3,b4⟩:=h w Ψ J ow tmps hA;exact⟨w2,Z2,J2,B5,B3,b1,b2,b3,(Steps.one (hs tmps w)).trans b4⟩
theorem oU{x y:Code}(h:Rch c st (.code x::.code y::k) AY k'):Rch c st (.code (.seq x y)::k) AY k':=.step (λ_ _=>stepR_seq) h
theorem jD(h:Rch c st k AY k'):Rch c st (.code .skip::k) AY k':=.step (λ_ _=>stepR_skip) h
theorem fF{id:Nat}{x:Code}(h:Rch c st (.code x::.inBlock id::k) AY k'):Rch c st (.code (.block id x)::k) AY k':=.step (λ_ _=>stepR_block) h
theorem dF{id:Nat}(h:Rch c st k AY k'):Rch c st (.inBlock id::k) AY k':=.step (λ_ _=>stepR_inBlock) h
theorem jB{id:Nat}(e:exitTo id k=some k1)(h:Rch c st k1 AY k'):Rch c st (.code (.exit id)::k) AY k':=.step (λ_ _=>stepR_exit e) h
theorem V9{x:Code}(h:Rch c st (.code x::.inLoop x::k) AY k'):Rch c st (.code (.loop x)::k) AY k':=.step (λ_ _=>stepR_loop) h
theorem qF{x:Code}(h:Rch c st (.code x::.inLoop x::k) AY k'):Rch c st (.inLoop x::k) AY k':=.step (λ_ _=>stepR_inLoop) h
theorem Zj{o:Operand}{x y:Code}{t:Bool}(ho:A6 (c.ans c.fid).keep tm ⟨[],sto⟩ o=.val (.bool t))(h:Rch c ⟨tm,sto⟩ (.code (bif t then x else y)::k) AY k'):Rch c ⟨tm,sto⟩ (.code (.cond o x y)::k) AY k':=λw Ψ J ow tmps hA=>by
 obtain⟨w2,Z2,J2,B5,B3,b1,b2,b3,b4⟩:=h w Ψ J ow tmps hA
 have hv:(⟨tmps,c.ds⟩:Act).eval o=.bool t:=by
  obtain⟨tc,Hw,_⟩:=bG (ds:=c.ds) hA.rel o;rw[ho] at Hw;generalize(⟨tmps,c.ds⟩:Act).eval o=v at Hw;cases Hw with
  |val _ _ hv=>cases hv;rfl
 refine⟨w2,Z2,J2,B5,B3,b1,b2,b3,(Steps.one ?_).trans b4⟩
 have:=stepR_cond (P:=c.P) (b:=c.b) (a:=⟨tmps,c.ds⟩) (k:=k) (cs:=c.cs) (w:=w) (x:=x) (y:=y) hv
 cases t<;>exact this
def N7:bI->St->Option (bI×St):=λe st=>some (e,st)
theorem oT{id:Nat}{ops:Array Oper}{sc:List (Nat×Slot)}(H:c.OK)(h:∀(kp:AVal->RS->Option (bI×St))(kn:RS->Option (bI×St)),jI c.P c.ans (c.ans c.fid) false c.cf tm id ops kp kn ops.toList 0 ⟨[],sto⟩=kn ⟨sc,sto'⟩)(hc:commit (c.ans c.fid).keep tm sc=tm')
  (h':Rch c ⟨tm',sto'⟩ k AY k'):Rch c ⟨tm,sto⟩ (.code (.region id ops false)::k) AY k':=.trans (λw Ψ J ow tmps hA=>by
 have e:=h (λv rs=>N7 (.pan v) ⟨tm,rs.sto⟩) (λrs=>N7 .norm ⟨commit (c.ans c.fid).keep tm rs.sc,rs.sto⟩);rw[kW] at e;simp only[hc] at e;rcases pX (ds:=c.ds) (b:=c.b) (items:=k) (cs:=c.cs) H.cf hA.nr (rs:=⟨[],sto⟩) hA.rel hA.lo e with⟨AX,w',Z',J',AQ,tmps',a1,a2,a3,a4,a5,a6⟩|⟨x,AX,v,w',Z',J',AQ,tmps',DI,a1,a2,a3,a4,a5,a6,a7⟩
 ·simp only[N7,Al,Bz,true_and] at a1
  have KE:=At.commit hA.nr a2 (by rw[a5.lo];exact Bg hA.lo a5.len) rfl;rw[a1] at KE;exact⟨w',Z',J',AQ,tmps',KE,a3,a4,(Steps.one stepR_region).trans (a6.trans (.one stepR_region_end))⟩
 ·simp[N7] at a1) h'
theorem jC{id:Nat}{ops:Array Oper}{sc:List (Nat×Slot)}(H:c.OK)(hg:(oI c.ans (c.ans c.fid) id ops&&Lt c.ans (c.ans c.fid) id ops)=true)
  (h:∀(kp:AVal->RS->Option (bI×St))(kn:RS->Option (bI×St)),jI c.P c.ans (c.ans c.fid) true c.cf tm id ops kp kn ops.toList 0 ⟨[],sto⟩=kn ⟨sc,sto'⟩) (hc:commit (c.ans c.fid).keep tm sc=tm')
  (h':Rch c ⟨tm',sto'⟩ k AY k'):Rch c ⟨tm,sto⟩ (.code (.region id ops true)::k) AY k':=.trans (λw Ψ J ow tmps hA=>by
 have e:=h (λ_ _=>none) (λrs=>N7 .norm ⟨commit (c.ans c.fid).keep tm rs.sc,rs.sto⟩);rw[kW] at e;simp only[Ac] at hg;have e:=H.dr.2 (bI×St) c.fid tm id ops _ ⟨[],sto⟩ _ hg.1 hg.2 hA.nr rfl (λrs1 rs2 h1 h2=>by rw[kN _ _ h1,h2]) (e.trans (by simp only[hc];rfl)) (w.tape w.drawn (.order c.b.fn id));rw[show Region.linearise .any ops (w.tape w.drawn (.order c.b.fn id))=Region.schedule (c.P.follows .mixedOrders) ops (w.tape w.drawn (.order c.b.fn id)) by simp[Region.schedule,H.dr.1]] at e
 let w1:World:={ w with drawn:=w.drawn+1 }
 have GX:w1.heap=w.heap:=rfl;have JB:Fr w Ψ ow w1 Ψ ow:=Fr.heap rfl rfl rfl rfl;have h1:=hA.world GX;rcases pX (ds:=c.ds) (b:=c.b) (items:=k) (cs:=c.cs) H.cf hA.nr (rs:=⟨[],sto⟩) h1.rel h1.lo e with⟨AX,w',Z',J',AQ,tmps',a1,a2,a3,a4,a5,a6⟩|⟨x,AX,v,w',Z',J',AQ,tmps',DI,a1,a2,a3,a4,a5,a6,a7⟩
 ·simp only[N7,Al,Bz,true_and] at a1
  have KE:=At.commit hA.nr a2 (by rw[a5.lo];exact Bg hA.lo a5.len) rfl;rw[a1] at KE;exact⟨w',Z',J',AQ,tmps',KE,JB.trans a3,a4,(Steps.one stepR_region_draw).trans (a6.trans (.one stepR_region_end))⟩
 ·cases a1) h'
theorem Hq{o:Operand}{x y:Code}{t:Bool}(ho:A6 (c.ans c.fid).keep tm ⟨[],sto⟩ o=.val (.bool t))(e:t=true)(h:Rch c ⟨tm,sto⟩ (.code x::k) AY k'):Rch c ⟨tm,sto⟩ (.code (.cond o x y)::k) AY k':=Zj ho (by rw[e];exact h)
theorem Hr{o:Operand}{x y:Code}{t:Bool}(ho:A6 (c.ans c.fid).keep tm ⟨[],sto⟩ o=.val (.bool t))(e:t=false)(h:Rch c ⟨tm,sto⟩ (.code y::k) AY k'):Rch c ⟨tm,sto⟩ (.code (.cond o x y)::k) AY k':=Zj ho (by rw[e];exact h)
theorem Qm{fn:Func}{n:Nat}{x:Code}(e:Vk fn n=some x)(h:Rch c st (.code x::k) AY k'):Rch c st (.code (aS fn n)::k) AY k':=by
 have:aS fn n=x:=by simp[aS,e]
 rw[this];exact h
end Go.AM
namespace Go.Proofs.YtoiocfngjchdiaaGreatDoor
open Go.AM
variable [Aps]
noncomputable abbrev rT(B0:Nat)(b:Frame)(cs:List Frame):Rc:=⟨Tryz.prog,ans,CF,34,B0,b,cs,[]⟩
theorem r1(B0:Nat)(b:Frame)(cs:List Frame)(H:(rT B0 b cs).OK)(items:List Item)(Q:List AObj)(lo ip:Nat)(pre ys:List DeD)(y:DeD)(hy:y.kind=1)(ir:Nat)(fe ne:AVal)(ou:List AVal)(hb:(pre++y::ys).length<1000)
  (hp:Q[ip]?=some (.box [.val (.slice ((pre++y::ys).map DeD.enc))])) :
  ∃s6 s10 BI BZ Ia G7 BH CD BU HD LL LK LJ LI LH HJ HI HH HG HF HE,Rch (rT B0 b cs) ⟨[.val (.loc ir 0),.val (.loc ip 0),.val (.slice []),.dead,.own 4 ou,.val fe,.val ne,.dead,.dead,.dead,.dead,.dead,.dead,.dead,.val (.int .i64 ((pre++y::ys).length:Nat)),.val (.int .i64 (pre.length:Nat)),.dead,.dead,.dead,.dead,.dead,.dead,.dead,.dead,.dead,.dead,.dead,.dead,.dead],⟨Q,lo⟩⟩ (.code (aS Tryz.f34 0)::items)
   ⟨[.val (.loc ir 0),.val (.loc ip 0),.val (.slice []),s6,.own 4 ou,.val fe,.val ne,s10,BI,BZ,Ia,G7,BH,CD,.val (.int .i64 ((pre++y::ys).length:Nat)),.val (.int .i64 ((pre++[y]).length:Nat)),BU,HD,LL,LK,LJ,LI,LH,HJ,HI,HH,HG,HF,HE],⟨Q,lo⟩⟩ items:=by
 have AN:=dK DeD.enc pre ys y;have AL:=CY pre ys y;have h0:=zI pre.length;have hw:=wL pre ys y (by simp only[AV];omega);simp only[DeD.enc,hy] at AN;clear hb hy;iterate 21 apply Exists.intro
 refine Qm rfl ?_;repeat first|with_reducible refine oU ?_|with_reducible refine jD ?_|with_reducible refine fF ?_|with_reducible refine dF ?_|((with_reducible apply jB);(·rfl))|((with_reducible apply oT H);(·(intro _ _;(repeat (apply BN;(·(intro _;simp only[*,go_sem];rfl))));rfl));(·(simp only[go_sem];rfl)))|((with_reducible apply jC H);(·kernel_rfl);(·(intro _ _;(repeat (apply BN;(·(intro _;simp only[*,go_sem];rfl))));rfl));(·(simp only[go_sem];rfl)))|((with_reducible apply Hq);(·(simp only[go_sem];rfl));(·first|rfl|assumption))|((with_reducible apply Hr);(·(simp only[go_sem];rfl));(·first|rfl|assumption))
 exact Rch.refl;all_goals exact .dead
def FC(n:List UInt8)(v:VaD):AVal:=.agg [.str n,.str v.con,.int .i64 v.num,.slice (v.args.map VaD.enc)]
theorem r5(B0:Nat)(b:Frame)(cs:List Frame)(H:(rT B0 b cs).OK)(items:List Item)(Q:List AObj)(ir d iq q lo ip s n:Nat)(hR:RunOK Q ir d iq q lo)(hs:s+n<=q)(pre ys:List DeD)(nm:List UInt8)(e:ExD)(fe:AVal)(env:EnD)(v:VaD)(FX:Ev e env (toIt v) n)(hv:v.okI=true)(LV:v.cnt<=4000)(hb:(pre++cU nm e::ys).length<1000)(BD:ip≠d)
  (hp:Q[ip]?=some (.box [.val (.slice ((pre++cU nm e::ys).map DeD.enc))])) :
  ∃(M:List AObj)(s6 s10 BI BZ Ia G7 BH CD BU HD LL LK LJ LI LH HJ HI HH HG HF HE:Slot),Rch (rT B0 b cs) ⟨[.val (.loc ir 0),.val (.loc ip 0),.val (.slice []),.dead,.own 4 [],.val fe,.val env.enc,.dead,.dead,.dead,.dead,.dead,.dead,.dead,.val (.int .i64 ((pre++cU nm e::ys).length:Nat)),.val (.int .i64 (pre.length:Nat)),.dead,.dead,.dead,.dead,.dead,.dead,.dead,.dead,.dead,.dead,.dead,.dead,.dead],⟨AW Q d s,lo⟩⟩ (.code (aS Tryz.f34 0)::items)
   ⟨[.val (.loc ir 0),.val (.loc ip 0),.val (.slice []),s6,.own 4 [FC nm v],.val fe,.val env.enc,s10,BI,BZ,Ia,G7,BH,CD,.val (.int .i64 ((pre++cU nm e::ys).length:Nat)),.val (.int .i64 ((pre++[cU nm e]).length:Nat)),BU,HD,LL,LK,LJ,LI,LH,HJ,HI,HH,HG,HF,HE],⟨AW Q d (s+n)++M,lo⟩⟩ items:=by
 have AN:=dK DeD.enc pre ys (cU nm e);have AL:=CY pre ys (cU nm e);have h0:=zI pre.length;have hw:=wL pre ys (cU nm e) (by simp only[AV];omega);have Ii:=λs=>(jG BD s).trans hp
 have hc:=Yp (main n e env (toIt v) FX) (Q++[.box [.val (.int .i64 0)]]) ir d iq q lo s (hR.app _) hs;rw[eR hR.lt,eR hR.lt] at hc;have CV:=aXL (Q:=AW Q d (s+n)++[.box [.val (.int .i64 0)]]) (d:=Q.length) (lo:=lo) (by simp[bW]) (by have:=hR.lo;have:=hR.lt;omega) v 0 hv (by omega)
 have e1:∀x,AW (AW Q d (s+n)++[.box [.val (.int .i64 0)]]) Q.length x=AW Q d (s+n)++[.box [.val (.int .i64 (x:Nat))]]:=λx=>by
  show List.set _ _ _=_;rw[<-bW Q d (s+n)];simp
 rw[e1,e1] at CV;simp only[Bo,show((0:Nat):Int)=0 from rfl] at CV;have k3:=λx=>bW Q d x
 have k1:Nat.ble lo Q.length=true:=Ah (by have:=hR.lo;have:=hR.lt;omega);have o1:∀x A M,(AW Q d x++A::M)[Q.length]?=some A:=λx A M=>by rw[<-bW Q d x];simp
 have o3:∀x A M X,(AW Q d x++A::M).set Q.length X=AW Q d x++X::M:=λx A M X=>by rw[<-bW Q d x];simp
 obtain⟨t,w,hi,hf,BM⟩:=(toIt v).form;rw[v.enc_eq] at CV;rw[hi] at hc CV;have e0:(cU nm e).enc=.agg [.int .i64 5,.str [],.slice [],.slice [],.str nm,.str [],.slice [],.slice [],.int .i64 e.kind,.int .i64 e.num,.str e.name,.str e.arg,.slice (e.args.map ExD.enc),.slice (e.pats.map PaD.enc)]:=rfl;rw[e0] at AN;rw[e.enc_eq] at hc;simp only[FC];clear hb hR hs FX hv LV hp hi e1 BD e0;generalize env.enc=E at *;generalize pre++cU nm e::ys=D at *;generalize(pre++[cU nm e]).length=N2 at *;refine⟨[.box [.val (.int .i64 (v.cnt:Nat))]],?_⟩;iterate 21 apply Exists.intro
 refine Qm rfl ?_;repeat first|with_reducible refine oU ?_|with_reducible refine jD ?_|with_reducible refine fF ?_|with_reducible refine dF ?_|((with_reducible apply jB);(·rfl))|((with_reducible apply oT H);(·(intro _ _;(repeat (apply BN;(·(intro _;simp only[*,go_sem,Nat.reduceAdd,reduceIte,FL,FO,b9,clean,flat,List.replicate,Bq];rfl))));rfl));(·(simp only[go_sem];rfl)))|((with_reducible apply jC H);(·kernel_rfl);(·(intro _ _;(repeat (apply BN;(·(intro _;simp only[*,go_sem,Nat.reduceAdd,reduceIte,FL,FO,b9,clean,flat,List.replicate,Bq];rfl))));rfl));(·(simp only[go_sem];rfl)))|((with_reducible apply Hq);(·(simp only[go_sem];rfl));(·first|rfl|assumption))|((with_reducible apply Hr);(·(simp only[go_sem];rfl));(·first|rfl|assumption))
 exact Rch.refl;all_goals exact .dead
end Go.Proofs.YtoiocfngjchdiaaGreatDoor
namespace Go.AM
open Go.RowKit
variable {P:Program}{ans:FuncId->AF}{w:World}{B0:Nat}{Ψ:HT}{J:List Nat}{ow:Own}{tmps:Array Value}{fid:FuncId}{R:Type}{r:R}
def cv(j:Nat)(v:Value)(s s':Slot):Prop:=s'=.dead\/(s'=s/\∀u o,s≠.ref u o)\/(s=.val (.loc j 0)/\s'=.val (.raw v))\/(s=.val (.raw v)/\s'=.val (.loc j 0))
inductive xX (Q:Slot->Slot->Prop):List Slot->List Slot->Prop
 |nil:xX Q [] []
 |cons {a b:Slot} {l l':List Slot} (h:Q a b) (t:xX Q l l'):xX Q (a::l) (b::l')
theorem rW{Q:Slot->Slot->Prop}(hd:Q .dead .dead):∀{tm tm':List Slot}(ks:List Nat)(t:Nat),xX Q tm tm'->Q (tlook ks tm t) (tlook ks tm' t)
 |_,_,[],_,.nil=>hd
 |_,_,[],_,.cons _ _=>hd
 |_,_,_::_,_,.nil=>hd
 |_::_,_::_,k::ks,t,.cons h l=>by
  simp only[tlook];cases Nat.beq k t
  ·exact rW hd ks t l
  ·exact h
theorem At.cv{j b:Nat}{v:Value}{tm tm':List Slot}{sto:AH}(h:At P ans fid B0 w Ψ J ow ⟨tm,sto⟩ tmps)(hb:J[j]?=some b)(hv:v=.pointer (some ⟨b,0,none⟩))(hc:xX (AM.cv j v) tm tm'):At P ans fid B0 w Ψ J ow ⟨tm',sto⟩ tmps:=by
 have hE:∀t,AM.cv j v (sl (ans fid) tm ⟨[],sto⟩ t) (sl (ans fid) tm' ⟨[],sto⟩ t):=λt=>rW (Q:=AM.cv j v) (.inl rfl) (ans fid).keep t hc
 have Gt:noRef tm':=by
  intro s hs u o e
  have key:∀{tm tm':List Slot},xX (AM.cv j v) tm tm'->∀s∈tm',∃s0∈tm,AM.cv j v s0 s:=by
   intro tm tm' h;induction h with
   |nil=>intro s hs;cases hs
   |cons h1 h2 ih =>
    intro s hs;rcases Au.1 hs with hs|hs
    ·subst hs;exact⟨_,by simp,h1⟩
    ·obtain⟨s0,a1,a2⟩:=ih s hs;exact⟨s0,by simp[a1],a2⟩
  obtain⟨s0,h0,h1⟩:=key hc s hs;rcases h1 with h1|⟨h1,h2⟩|⟨_,h1⟩|⟨_,h1⟩
  ·rw[h1] at e;cases e
  ·rw[h1] at e;exact h2 u o e
  ·rw[h1] at e;cases e
  ·rw[h1] at e;cases e
 refine⟨⟨h.rel.size,h.rel.wsat,λt=>?_,λd u o hd=>?_,λt cs ht=>?_,h.rel.objs,h.rel.lt,h.rel.base,λt ht=>?_⟩,Gt,h.lo⟩
 ·have hs:=h.rel.slots t
  rcases hE t with h1|⟨h1,h2⟩|⟨h1,h2⟩|⟨h1,h2⟩
  ·rw[h1];exact .dead _
  ·rw[h1];exact hs
  ·rw[h2];rw[h1] at hs
   generalize tmps.getD t undef=u at hs;cases hs with
   |val _ _ hx=>cases hx with
    |loc _ _ b' BB=>rw[hb] at BB;cases BB;rw[hv];exact .val _ _ (.raw _ rfl)
  ·rw[h2];rw[h1] at hs
   generalize tmps.getD t undef=u at hs;cases hs with
   |val _ _ hx=>cases hx with
    |raw=>rw[hv];exact .val _ _ (.loc j 0 b hb)
 ·exact absurd hd (Gt.tlook _ _ _ _)
 ·rcases hE t with h1|⟨h1,h2⟩|⟨h1,h2⟩|⟨h1,h2⟩
  ·rw[h1] at ht;cases ht
  ·rw[h1] at ht;exact h.rel.boxes t cs ht
  ·rw[h2] at ht;cases ht
  ·rw[h2] at ht;cases ht
 ·have h0:=h.rel.hi t ht
  rcases hE t with h1|⟨h1,h2⟩|⟨h1,h2⟩|⟨h1,h2⟩
  ·exact h1
  ·rw[h1];exact h0
  ·rw[h1] at h0;cases h0
  ·rw[h1] at h0;cases h0
theorem aNm{c:Rc}{k k1 k':List Item}{tm tmS:List Slot}{tmW tmV:Value->List Slot}{sto sto':AH}{AY:St}(j:Nat){o:AObj}(ho:sto.objs[j]?=some o)(h1:∀v,xX (cv j v) tm (tmW v))
  (h:∀v,oneC v=true->Rch c ⟨tmW v,sto⟩ k ⟨tmV v,sto'⟩ k1) (h2:∀v,xX (cv j v) (tmV v) tmS) (h':Rch c ⟨tmS,sto'⟩ k1 AY k'):Rch c ⟨tm,sto⟩ k AY k' :=
 .trans (λw Ψ J ow tmps hA=>by
  obtain⟨b,hb,_⟩:=hA.rel.objs.2 j o ho;obtain⟨w',Z',J',AQ,tmps',a1,a2,a3,a4⟩:=h (.pointer (some ⟨b,0,none⟩)) rfl w Ψ J ow tmps (hA.cv hb rfl (h1 _));exact⟨w',Z',J',AQ,tmps',a1.cv (a3 j b hb) rfl (h2 _),a2,a3,a4⟩) h'
theorem wz{an:AF}{cf:aJ}{tm:List Slot}{drawn:Bool}{ds:List Deferred}{kp:AVal->RS->Option R}(BQ:kI P ans B0 cf)(hn:noRef tm){rid:Nat}{b:Frame}{ops:Array Oper}{items:List Item}{cs:List Frame}{kn:RS->Option R}{l2:List Nat}:∀{l:List Nat}{rs:RS}{w:World}{Ψ:HT}{J:List Nat}{ow:Own}{tmps:Array Value},
  Rel P ans B0 w Ψ J ow an (sl an tm rs) tmps rs.sto.objs->rs.sto.lo<=rs.sto.objs.length->iD P ans an drawn cf tm rid ops kp kn l rs=some r ->
  oW P ans an w B0 Ψ J ow tm rs ds b cs (lone (b.atR ⟨tmps,ds⟩ (.inRegion ops (l++l2)::items)) cs w) (.inRegion ops l2::items) kp kn r
 |[],rs,w,Ψ,J,ow,tmps,h,AP,e=>.inl ⟨rs,w,Ψ,J,ow,tmps,e,h,Fr.refl _ _ _,aG _,StoLe.refl _,Steps.refl _ _⟩
 |i::l,rs,w,Ψ,J,ow,tmps,h,AP,e=>by
  simp only[iD] at e
  split at e
  ·rename_i o ho
   rcases wx (ds:=ds) (b:=b) (items:=items) (cs:=cs) (rest:=l++l2) h BQ hn AP ho e with⟨AX,w',Z',J',AQ,tmps',a1,a2,a3,a4,a5,a6⟩|⟨x,AX,v,w',Z',J',AQ,tmps',DI,a1,a2,a3,a4,a5,a6,a7⟩
   ·rcases wz BQ hn (b:=b) (items:=items) (cs:=cs) a2 (by rw[a5.lo];exact Bg AP a5.len) a1 with⟨rs2,w2,Z2,J2,B5,B3,b1,b2,b3,b4,b5,b6⟩|⟨x,rs2,v,w2,Z2,J2,B5,B3,JH,b1,b2,b3,b4,b5,b6,b7⟩
    ·exact .inl ⟨rs2,w2,Z2,J2,B5,B3,b1,b2,a3.trans b3,dT a4 b4,a5.trans b5,a6.trans b6⟩
    ·exact .inr ⟨x,rs2,v,w2,Z2,J2,B5,B3,JH,b1,b2,b3,a3.trans b4,dT a4 b5,a5.trans b6,a6.trans b7⟩
   ·exact .inr ⟨x,AX,v,w',Z',J',AQ,tmps',DI,a1,a2,a3,a4,a5,a6,a7⟩
  ·cases e
end Go.AM
