import Derived.Test.YtoiocfngjchdiaaGreatDoorT04
set_option linter.all false
set_option maxRecDepth 100000
set_option maxHeartbeats 8000000
namespace Go.Proofs.YtoiocfngjchdiaaGreatDoor
open Go.AM
variable [h_]
def aPH(e:af)(env:aq)(r:au)(n:Nat):Prop:=∀(Q:List ai)(ir d iq q lo s:Nat),nk Q ir d iq q lo->s+n<=q->∃(L:List ai),∃s0 s1 s2 s7 s8 s9 s10 CD C0 HZ JW JV JU FA E9 E8 E7,
 LP 104 (aN Tryz.f104 0) ⟨[.val (.loc ir 0),.val (.ay e.enc),.val env.enc,.dead,.dead,.dead,.dead,.dead,.dead,.dead,.dead,.dead,.dead,.dead,.dead,.dead,.dead,.dead],⟨AW Q d s,lo⟩⟩=some (.ret,⟨[s0,s1,s2,.val r.enc,s7,s8,s9,s10,CD,C0,HZ,JW,JV,JU,FA,E9,E8,E7],⟨AW Q d (s+n)++L,lo⟩⟩)
theorem Zx{e:af}{env:aq}{r:au}{n:Nat}(h:aPH e env r n):Sk e env r n:=by
 intro Q ir d iq q lo s hR hs;obtain⟨L,s0,s1,s2,s7,s8,s9,s10,CD,C0,HZ,JW,JV,JU,FA,E9,E8,E7,hl⟩:=h Q ir d iq q lo s hR hs;obtain⟨t,v,hr,hf,hc⟩:=r.form;rw[hr] at hl ⊢;clear hr hR hs h;apply tA;rfl;rfl;exact Tryz.func104;rfl;rfl;simp only[go_sem];rfl;refine tQ ?_;repeat first|with_reducible constructor|with_reducible refine tW rfl ?_|((with_reducible apply tG);(·kernel_rfl);(·(intro _ _;(repeat (apply BL;(·(intro _;simp only[*,go_sem];rfl))));rfl));(·(simp only[go_sem];rfl)))|((with_reducible apply t1);(·(simp only[go_sem];rfl));(·rfl))|((with_reducible apply t0);(·(simp only[go_sem];rfl));(·rfl))|((with_reducible apply tl);(·assumption))
 refine tL ((Dd (LP 104 (aN Tryz.f104 0)) (uS (env.nN _))).trans hl) ?_;refine tQ ?_;repeat first|with_reducible constructor|with_reducible refine tW rfl ?_
 exact Qk (finVal rfl rfl rfl (Zt _ hc))
theorem oI.len:∀{al:List af}{e:aq}{l:List au}{n:Nat},oI al e l n->al.length=l.length
 |[],_,_,_,.nil=>rfl
 |_::_,_,_,_,.cons _ t=>by simp[t.len]
theorem aKt{P:Program}{an:AF}{fn:Func}{n:Nat}{tm:List Slot}{sto:AH}{v:ae}{t:Nat}(h1:an.ownRes=false)(h2:fn.results.toList=[.tmp t])(h3:bg an.keep tm t=.val v)(h4:AM.ct n v=false):finish P an fn n ⟨tm,sto⟩=some (.ret (.val v),sto):=by
 simp only[finish,h1,h2,fG,h3,DS,trim,cF,h4,Bh]
theorem aq.three(e:aq):e.enc=.cW\/(∃x,e.enc=.ay x)\/∃t f a b o,e.enc=.rc t f a b o:=by
 cases e with
 |nil=>exact .inl aq.sh
 |cons n i o=>exact .inr (.inl ⟨_,aq.oX n i o⟩)
 |rc f a b o=>exact .inr (.inr ⟨_,_,_,_,_,aq.oa f a b o⟩)
theorem aRT(e:aq)(s:List UInt8)(sto:AH):CF (.fn 102) [.val e.enc,.val (.str s),.val .fh] sto=some (.ret (.val (.loc sto.objs.length 0)),⟨sto.objs++[.box [.val (.str s),.val .fh,.val e.enc]],sto.lo⟩):=by
 have h4:mF (.val .fh)=false:=rfl;have hb:Nat.blt sto.objs.length sto.objs.length=false:=Fm.2 λh=>by have:=Ad h;omega
 rcases e.three with h|⟨x,h⟩|⟨t,f,a,b,o,h⟩<;>rw[h]
 all_goals
  clear h;refine GZ ?_;exact aKt (v:=.loc sto.objs.length 0) (t:=6) rfl rfl rfl hb
theorem main:∀(n:Nat)(e:af)(env:aq)(r:au),Ev e env r n->aPH e env r n:=by
 intro n;induction n using Nat.strongRecOn with
 |_ n ih =>
 intro e env r h Q ir d iq q lo s hR hs;have BW:=c31 (s:=s) hR (by cases h<;>omega);have A9:=(jV hR.ne1 s).trans hR.run;have H:∀m e env r,Ev e env r m->m<n->Sk e env r m:=λm e env r h hm=>Zx (ih m hm e env r h)
 cases h with
 |@num n nm a al pl e =>
  refine⟨[],?_⟩;rw[au.qb,af.ce];simp only[Ao];clear ih H hR;generalize env.enc=E;iterate 17 apply Exists.intro
  refine tI rfl ?_;exact wk;all_goals exact .dead
 |@var m nm a al pl e i h =>
  have hc:=λsto=>aV4 nm sto r env h
  obtain⟨t,v,hi,hf,BQ⟩:=r.form;refine⟨[],?_⟩;rw[af.ce];rw[hi] at hc ⊢;simp only[Ao];clear ih H hR hi h;generalize env.enc=E at *;iterate 17 apply Exists.intro
  refine tI rfl ?_;exact wk;all_goals exact .dead
 |@bh m nm a al pl e l k IF h =>
  have hc:=WL (s:=s+1) hR k (λm e env r h hm=>H m e env r h (by omega)) env al l IF h (by omega);have e1:s+(k+1)=s+1+k:=by omega
  rw[e1];refine⟨[],?_⟩;rw[af.ce,au.ce];simp only[Ao];clear ih H hR h e1 hs IF;generalize env.enc=E at *;iterate 17 apply Exists.intro
  refine tI rfl ?_;exact BP;all_goals exact .dead
 |@fn m nm a b al pl e =>
  refine⟨[],?_⟩;rw[af.ce,au.tp,Ba];rw[b.aw];simp only[Ao];have h1:=env.clean;have h2:=env.flat;have h3:=env.fw;have h6:=env.cells;have h4:mF (.val (.str a))=true:=rfl;have h5:∀v,mF (.val (.ay v))=true:=λ_=>rfl
  clear ih H hR;generalize env.enc=E at *;iterate 17 apply Exists.intro
  refine tI rfl ?_;refine VS ?_;exact RQ;all_goals exact .dead
 |@op m nm a al pl e x y v k h ho =>
  have hc:=WL (s:=s+1) hR k (λm e env r h hm=>H m e env r h (by omega)) env al _ (by rw[h.len];exact(by decide:2<1000)) h (by omega);have DB:=λsto=>aV5 nm x y r ho sto
  have e1:s+(k+1)=s+1+k:=by omega
  rw[e1];obtain⟨t,v,hi,hf,BQ⟩:=r.form;refine⟨[],?_⟩;rw[af.ce];rw[hi] at DB ⊢;simp only[Ao];simp only[Ba,Av,au.qb] at hc DB;clear ih H hR h e1 hs ho hi;generalize env.enc=E at *;iterate 17 apply Exists.intro
  refine tI rfl ?_;exact wk;all_goals exact .dead
 |@app m nm a al pl e f b c v r k k2 h h2 =>
  have hc:=WL (s:=s+1) hR k (λm e env r h hm=>H m e env r h (by omega)) env al _ (by rw[h.len];exact(by decide:2<1000)) h (by omega);have DB:=Zy c f v;obtain⟨L,s0,s1,s2,s7,s8,s9,s10,CD,C0,HZ,JW,JV,JU,FA,E9,E8,E7,hl⟩:=ih k2 (by omega) b (.cons f v c) r h2 Q ir d iq q lo (s+1+k) hR (by omega);have e1:s+(k+k2+1)=s+1+k+k2:=by omega
  rw[e1];obtain⟨t,v',hi,hf,BQ⟩:=v.form;have NZ:=λO=>(aq.cons f v c).nN O
  have g1:=c.clean;have g2:=c.flat;have g3:=c.cells;refine⟨L,s0,s1,s2,s7,s8,s9,s10,CD,C0,HZ,JW,JV,JU,FA,E9,E8,E7,?_⟩;rw[af.ce];rw[hi] at DB;simp only[Ba,Av,au.tp,hi] at hc;clear ih H hR h e1 hs h2 hi;generalize(aq.cons f v c).enc=E' at *;generalize c.enc=C at *;generalize env.enc=E at *;generalize b.enc=B at *;refine tI rfl ?_;refine GZ ?_;exact VO (P:=Tryz.prog) (uS (NZ _)) hl
 |@u9 m nm a b c al pl e r k h =>
  have hc:=aRT env nm
  have NZ:∀M,iL (AW Q d (s+1)++ai.fw (aq.rc nm a b env).enc::M) (.val (.loc Q.length 0))=.val (aq.rc nm a b env).enc:=λM=>by
   have h0:(AW Q d (s+1)++ai.fw (aq.rc nm a b env).enc::M)[Q.length]?=some (.fw (aq.rc nm a b env).enc):=by
    rw[<-bY Q d (s+1)];simp
   simp only[iL,h0];rfl
  obtain⟨L,s0,s1,s2,s7,s8,s9,s10,CD,C0,HZ,JW,JV,JU,FA,E9,E8,E7,hl⟩:=ih k (by omega) c (.rc nm a b env) r h (Q++[.fw (aq.rc nm a b env).enc,.fw (.ay (.agg [.str a,.ay b.enc,(aq.rc nm a b env).enc]))]) ir d iq q lo (s+1) (hR.app _) (by omega);rw[eX hR.lt,eX hR.lt,Aj] at hl;have e1:s+(k+1)=s+1+k:=by omega
  rw[e1];have g1:=env.clean;have g2:=env.flat;have g3:=env.cells;have k1:Nat.ble lo Q.length=true:=Ah (by have:=hR.lo;have:=hR.lt;omega);have k2:Nat.ble (Q.length+1) (Q.length+1)=true:=Ah (Ae _);have k3:=λx=>bY Q d x
  have k4:Nat.beq Q.length Q.length=true:=by simp
  have o1:∀A M,(AW Q d (s+1)++A::M)[Q.length]?=some A:=λA M=>by rw[<-bY Q d (s+1)];simp
  have o2:∀A B M,(AW Q d (s+1)++A::B::M)[Q.length+1]?=some B:=λA B M=>by rw[<-bY Q d (s+1)];simp
  have o3:∀A M X,(AW Q d (s+1)++A::M).set Q.length X=AW Q d (s+1)++X::M:=λA M X=>by rw[<-bY Q d (s+1)];simp
  have o4:∀A B M X,(AW Q d (s+1)++A::B::M).set (Q.length+1) X=AW Q d (s+1)++A::X::M:=λA B M X=>by rw[<-bY Q d (s+1)];simp
  have f4:∀x,flat (.ay x)=true:=λ_=>rfl
  have a6k:Nat.ble Q.length Q.length=true:=Ah (Ae _);have f1:∀n,mF (.val (.loc n 0))=false:=λ_=>rfl
  have f2:∀x,mF (.val (.str x))=true:=λ_=>rfl
  have f3:∀x,mF (.val (.ay x))=true:=λ_=>rfl
  refine⟨[.fw (aq.rc nm a b env).enc,.fw (.ay (.agg [.str a,.ay b.enc,(aq.rc nm a b env).enc]))]++L,s0,s1,s2,s7,s8,s9,s10,CD,C0,HZ,JW,JV,JU,FA,E9,E8,E7,?_⟩;rw[af.ce,Ba,Ba];rw[aq.oa] at hl NZ ⊢;clear ih H hR h e1 hs;generalize env.enc=E at *;rw[b.aw] at *;rw[c.aw] at *;refine tI rfl ?_;refine tQ ?_;repeat first|with_reducible constructor|with_reducible refine tW rfl ?_|((with_reducible apply tG);(·kernel_rfl);(·(intro _ _;(repeat (apply BL;(·(intro _;simp only[*,go_sem,Nat.reduceAdd,reduceIte,partOf,lF,qB,QW,fB,FL,FO,th];rfl))));rfl));(·(simp only[go_sem];rfl)))|((with_reducible apply t1);(·(simp only[go_sem];rfl));(·rfl))|((with_reducible apply t0);(·(simp only[go_sem];rfl));(·rfl))|((with_reducible apply tl);(·assumption))
  exact VO (P:=Tryz.prog) (uS (NZ _)) hl
 |@case m nm a b c al pl e e' v r k k2 IF h ha h2 =>
  have hc:=H k b env v h (by omega) Q ir d iq q lo (s+1) hR (by omega);have DB:=λsto=>aV6 (.mk 8 m nm a (b::al) pl) IF b al rfl v env c e' ha sto
  obtain⟨L,s0,s1,s2,s7,s8,s9,s10,CD,C0,HZ,JW,JV,JU,FA,E9,E8,E7,hl⟩:=ih k2 (by omega) c e' r h2 Q ir d iq q lo (s+1+k) hR (by omega);have e1:s+(k+k2+1)=s+1+k+k2:=by omega
  rw[e1];obtain⟨t,v',hi,hf,BQ⟩:=v.form;have NZ:=λO=>e'.nN O
  refine⟨L,s0,s1,s2,s7,s8,s9,s10,CD,C0,HZ,JW,JV,JU,FA,E9,E8,E7,?_⟩;rw[af.ce,Ba] at DB ⊢;rw[hi] at hc DB;rw[b.aw] at hc DB ⊢;clear ih H hR h e1 hs h2 hi ha;generalize e'.enc=E' at *;generalize env.enc=E at *;generalize c.enc=B at *;refine tI rfl ?_;refine GZ ?_;exact VO (P:=Tryz.prog) (uS (NZ _)) hl
def jf:ad->au
 |.mk c n al=>bif c==[] then .num n else .mk c (vh al)
where
 vh:List ad->List au
  |[]=>[]
  |v::l=>jf v::vh l
theorem aE8(l:List ad):jf.vh l=l.map jf:=by
 induction l with
 |nil=>simp[jf.vh]
 |cons a l ih=>simp[jf.vh,ih]
theorem xR(v:ad):jf v=bif v.bh==[] then .num v.num else .mk v.bh (v.args.map jf):=by
 cases v;simp[jf,aE8,ad.bh,ad.num,ad.args]
mutual
def ad.km:ad->Bool
 |.mk c n al=>bif c==[] then al.length==0 else n==0&&ad.sH al
def ad.sH:List ad->Bool
 |[]=>true
 |v::l=>v.km&&ad.sH l
end
theorem ad.a1Y(v:ad):v.km=bif v.bh==[] then v.args.length==0 else v.num==0&&ad.sH v.args:=by cases v;rfl
theorem ad.xo:∀{l:List ad},ad.sH l=true->∀v∈l,v.km=true
 |[],_,v,h=>by simp at h
 |x::l,h,v,hv=>by
  simp only[ad.sH,Ac] at h;rcases As.1 hv with hv|hv
  ·subst hv;exact h.1
  ·exact ad.xo h.2 v hv
theorem aG4{Q:List ai}{d lo:Nat}(hd:d<Q.length)(AP:lo<=d)(c:List UInt8)(ys:List ad):∀(pre:List ad)(s:Nat),(pre++ys).length<5000->s+ad.cA ys<=4000 ->
  (∀y∈ys,∀s,s+y.cu<=4000->CF (.fn 105) [.val (jf y).enc,.val (.loc d 0)] ⟨AW Q d s,lo⟩=some (.ret (.val y.enc),⟨AW Q d (s+y.cu),lo⟩)) ->
  ∃s0 s1 s5 s6 s9 BZ CP BT B2 RX RW Ib Ia C5 HZ,LP 105 (aN Tryz.f105 0) ⟨[.dead,.val (.loc d 0),.box [.val (.str []),.val (.int .i64 0),.own 3 []],.dead,.dead,.box [.val (.str c),.val (.int .i64 0),.own 3 (pre.map ad.enc)],.dead,.dead,.dead,.dead,.dead,.dead,.dead,.val (.slice ((pre++ys).map λy=>(jf y).enc)),.val (.int .i64 ((pre++ys).length:Nat)),.val (.int .i64 (pre.length:Nat)),.dead],⟨AW Q d s,lo⟩⟩ =
   some (.exit 1,⟨[s0,s1,.box [.val (.str []),.val (.int .i64 0),.own 3 []],s5,s6,.box [.val (.str c),.val (.int .i64 0),.own 3 ((pre++ys).map ad.enc)],s9,BZ,CP,BT,B2,RX,RW,Ib,Ia,C5,HZ],⟨AW Q d (s+ad.cA ys),lo⟩⟩):=by
 induction ys with
 |nil =>
  intro pre s h3 h4 h2;have AL:=DK pre;simp only[Ao,ad.cA,Ax];clear h2;iterate 15 apply Exists.intro
  refine tI rfl ?_;exact wk;all_goals exact .dead
 |cons y ys ih =>
  intro pre s h3 h4 h2;have AN:=cQ (λy=>(jf y).enc) pre ys y;have AL:=CQ pre ys y;have h0:=zI pre.length;have hw:=wL pre ys y (by simp only[AR];omega);simp only[ad.cA] at h4;have hc:=h2 y (by simp) s (by omega);have hr:Nat.ble (pre.length+1) room=true:=by apply Ah;simp only[room];simp only[Bc,Ak] at h3;omega
  have emap:(pre++[y]).map ad.enc=pre.map ad.enc++[y.enc]:=by simp
  obtain⟨s0,s1,s5,s6,s9,BZ,CP,BT,B2,RX,RW,Ib,Ia,C5,HZ,ih⟩:=ih (pre++[y]) (s+y.cu) (by simpa using h3) (by omega) (λx hx=>h2 x (by simp[hx]));rw[emap] at ih;have e1:s+ad.cA (y::ys)=s+y.cu+ad.cA ys:=by simp only[ad.cA];omega
  rw[e1];obtain⟨t,w,hi,hf,BQ⟩:=(jf y).form;rw[y.aw] at hc ih;rw[hi] at AN hc;simp only[Aj,Al] at ih;refine⟨s0,s1,s5,s6,s9,BZ,CP,BT,B2,RX,RW,Ib,Ia,C5,HZ,?_⟩;refine tI rfl ?_;clear h2 hi emap e1 h4;exact BP
theorem aVT{Q:List ai}{d lo:Nat}(hd:d<Q.length)(AP:lo<=d):∀(v:ad)(s:Nat),v.km=true->s+v.cu<=4000 ->
  CF (.fn 105) [.val (jf v).enc,.val (.loc d 0)] ⟨AW Q d s,lo⟩=some (.ret (.val v.enc),⟨AW Q d (s+v.cu),lo⟩):=by
 intro v;induction v using ad.ind with
 |h v ih =>
  intro s hv hs;have F7:=v.tZ;have CR:=v.vr;have g1:=λs=>gh hd s
  have g2:=λs s'=>gl Q d s s'
  have g3:Nat.ble lo d=true:=Ah AP;have k5:IntKind.i64.wrap (((s:Nat):Int)+1)=((s+1:Nat):Int):=wI _ (by simp only[AR];omega);have pi:decide (((s+1:Nat):Int)>4000)=false:=by simp;omega
  rw[ad.a1Y] at hv;cases h0:(v.bh==[]) with
  |true =>
   rw[h0,Bo] at hv;have CV:v.args=[]:=Cv (by simpa using hv);have e1:s+v.cu=s+1:=by rw[F7,CV];simp[ad.cA]
   have e2:v.bh=[]:=Cb.1 h0;rw[e1,xR,h0,Bo,au.qb,ad.aw v,CV,Av,e2];clear F7 CR ih e1 e2 CV hv hs h0 hd AP;refine GZ ?_;exact wC rfl
  |false =>
   rw[h0,Bh] at hv;simp only[Ac] at hv;obtain⟨hn,DV⟩:=hv;have I2:v.num=0:=by simpa using hn
   have e1:s+v.cu=s+1+ad.cA v.args:=by rw[F7];omega
   have hlen:v.args.length<=ad.cA v.args:=by
    generalize v.args=l;induction l with
    |nil=>simp
    |cons a l ih=>simp only[Ak,ad.cA];have:=a.vr;omega
   obtain⟨s0,s1,s5,s6,s9,BZ,CP,BT,B2,RX,RW,Ib,Ia,C5,HZ,BJ⟩:=aG4 hd AP v.bh v.args [] (s+1) (by simp only[Ai];omega) (by omega) (λy hy s IE=>ih y hy s (ad.xo DV y hy) IE);simp only[Ai,Ap,Av,show((0:Nat):Int)=0 from rfl] at BJ;rw[e1,xR,h0,Bh,au.ce,ad.aw v,I2];have em:(v.args.map jf).map au.enc=v.args.map λy=>(jf y).enc:=by simp[Dw]
   rw[em];clear F7 CR ih e1 em I2 hn DV hs h0 hd AP hlen;apply tA;rfl;rfl;exact Tryz.func105;rfl;rfl;simp only[go_sem];rfl;refine tQ ?_;repeat first|with_reducible constructor|with_reducible refine tW rfl ?_|((with_reducible apply tG);(·kernel_rfl);(·(intro _ _;(repeat (apply BL;(·(intro _;simp only[*,go_sem,Nat.reduceAdd,reduceIte,Ay];rfl))));rfl));(·(simp only[go_sem];rfl)))|((with_reducible apply t1);(·(simp only[go_sem];rfl));(·rfl))|((with_reducible apply t0);(·(simp only[go_sem];rfl));(·rfl))|((with_reducible apply tl);(·assumption))
   exact wC rfl
def gk:ad->af
 |.mk c n al=>bif c==[] then .mk 1 n [] [] [] [] else .mk 3 0 c [] (ue al) []
where
 ue:List ad->List af
  |[]=>[]
  |v::l=>gk v::ue l
theorem aAW(l:List ad):gk.ue l=l.map gk:=by
 induction l with
 |nil=>simp[gk.ue]
 |cons a l ih=>simp[gk.ue,ih]
theorem aC8(v:ad):gk v=bif v.bh==[] then .mk 1 v.num [] [] [] [] else .mk 3 0 v.bh [] (v.args.map gk) []:=by
 cases v;simp[gk,aAW,ad.bh,ad.num,ad.args]
theorem aNA(c:List UInt8)(sto:AH)(ys:List ad):∀(pre:List ad),(pre++ys).length+1<AR->(∀y∈ys,CF (.fn 39) [.val y.enc] sto=some (.ret (.val (gk y).enc),sto)) ->
  ∃s0 s1 s5 s8 BH B5 BZ CD,LP 39 (aN Tryz.f39 0) ⟨[.dead,.dead,.box [.val (.int .i64 0),.val (.int .i64 0),.val (.str []),.val (.str []),.own 6 [],.own 3 []],.box [.val (.int .i64 3),.val (.int .i64 0),.val (.str c),.val (.str []),.own 6 (pre.map λy=>(gk y).enc),.own 3 []],.dead,.dead,.val (.slice ((pre++ys).map ad.enc)),.val (.int .i64 ((pre++ys).length:Nat)),.val (.int .i64 (pre.length:Nat)),.dead],sto⟩ =
   some (.exit 0,⟨[s0,s1,.box [.val (.int .i64 0),.val (.int .i64 0),.val (.str []),.val (.str []),.own 6 [],.own 3 []],.box [.val (.int .i64 3),.val (.int .i64 0),.val (.str c),.val (.str []),.own 6 ((pre++ys).map λy=>(gk y).enc),.own 3 []],s5,s8,BH,B5,BZ,CD],sto⟩):=by
 induction ys with
 |nil =>
  intro pre h3 h2;have AL:=DK pre;simp only[Ao];clear h2;iterate 8 apply Exists.intro
  refine tI rfl ?_;exact wk;all_goals exact .dead
 |cons y ys ih =>
  intro pre h3 h2;have AN:=cQ ad.enc pre ys y;have AL:=CQ pre ys y;have h0:=zI pre.length;have hw:=wL pre ys y (by omega);have hc:=h2 y (by simp);have hr:Nat.ble (pre.length+1) room=true:=by apply Ah;simp only[room];simp only[Bc,Ak,AR] at h3;omega
  have emap:(pre++[y]).map (λy=>(gk y).enc)=pre.map (λy=>(gk y).enc)++[(gk y).enc]:=by simp
  obtain⟨s0,s1,s5,s8,BH,B5,BZ,CD,ih⟩:=ih (pre++[y]) (by simpa using h3) (λx hx=>h2 x (by simp[hx]));rw[emap] at ih;rw[y.aw] at AN hc;rw[af.aw (gk y)] at hc ih;simp only[Aj,Al] at ih;refine⟨s0,s1,s5,s8,BH,B5,BZ,CD,?_⟩;refine tI rfl ?_;clear h2 emap;exact BP
theorem Yb:∀(v:ad)(sto:AH),v.size<AR->v.km=true->CF (.fn 39) [.val v.enc] sto=some (.ret (.val (gk v).enc),sto):=by
 intro v;induction v using ad.ind with
 |h v ih =>
  intro sto hs hv;rw[ad.a1Y] at hv;rw[aC8];cases h0:(v.bh==[]) with
  |true =>
   rw[h0,Bo] at hv;have CV:v.args=[]:=Cv (by simpa using hv);rw[Bo,af.ce,ad.aw v,CV];simp only[Av];clear ih hv CV hs;exact wk
  |false =>
   rw[h0,Bh] at hv;simp only[Ac] at hv;obtain⟨hn,DV⟩:=hv;have CV:=v.p_;obtain⟨s0,s1,s5,s8,BH,B5,BZ,CD,hl⟩:=aNA v.bh sto v.args [] (by simp only[Ai,AR] at hs ⊢;omega) (λy hy=>ih y hy sto (by have:=ad.m7 hy;omega) (ad.xo DV y hy));simp only[Ai,Ap,Av,show((0:Nat):Int)=0 from rfl] at hl;rw[Bh,af.ce,ad.aw v];have em:(v.args.map gk).map af.enc=v.args.map λy=>(gk y).enc:=by simp[Dw]
   rw[em];simp only[Av];clear ih CV hs hn DV em;exact BP
def uD(e:af)(v:ad):af:=.mk 4 0 [] [] [e,gk v] []
def hJ(nm:List UInt8)(vs:List ad):af:=vs.foldl uD (.mk 2 0 nm [] [] [])
abbrev Sa:Slot:=.box [.val (.int .i64 0),.val (.int .i64 0),.val (.str []),.val (.str []),.own 6 [],.own 3 []]
abbrev OI(e:af)(v:ad):Slot:=.box [.val (.int .i64 4),.val (.int .i64 0),.val (.str []),.val (.str []),.val (.slice [e.enc,(gk v).enc]),.own 3 []]
theorem aHg(sto:AH)(ys:List ad):∀(pre:List ad)(e:af)(v:ad),(pre++ys).length<AR->(∀y∈ys,y.size<AR/\y.km=true)->∃e' v',ys.foldl uD (uD e v)=uD e' v' /\
  ∃s0 s1 s5 s6 s9 s10 D9 FI CP DP BT H3,LP 22 (aN Tryz.f22 0) ⟨[.dead,.dead,Sa,.dead,.dead,OI e v,.dead,.dead,.dead,.val (.slice ((pre++ys).map ad.enc)),.val (.int .i64 ((pre++ys).length:Nat)),.val (.int .i64 (pre.length:Nat)),.dead,.dead],sto⟩=some (.exit 0,⟨[s0,s1,Sa,s5,s6,OI e' v',s9,s10,D9,FI,CP,DP,BT,H3],sto⟩):=by
 induction ys with
 |nil =>
  intro pre e v h3 h2;have AL:=DK pre;refine⟨e,v,rfl,?_⟩;simp only[Ao];clear h2;iterate 12 apply Exists.intro
  refine tI rfl ?_;exact wk;all_goals exact .dead
 |cons y ys ih =>
  intro pre e v h3 h2;have AN:=cQ ad.enc pre ys y;have AL:=CQ pre ys y;have h0:=zI pre.length;have hw:=wL pre ys y h3;obtain⟨k1,k2⟩:=h2 y (by simp);have hc:=Yb y sto k1 k2;obtain⟨e',v',he,s0,s1,s5,s6,s9,s10,D9,FI,CP,DP,BT,H3,ih⟩:=ih (pre++[y]) (uD e v) y (by simpa using h3) (λx hx=>h2 x (by simp[hx]));refine⟨e',v',he,s0,s1,s5,s6,s9,s10,D9,FI,CP,DP,BT,H3,?_⟩;have ea:(uD e v).enc=.agg [.int .i64 4,.int .i64 0,.str [],.str [],.slice [e.enc,(gk v).enc],.slice []]:=by simp[uD,af.ce]
  simp only[OI] at ih ⊢;rw[ea] at ih;rw[y.aw] at AN hc;rw[af.aw (gk y)] at hc ih;simp only[Aj,Al] at ih;refine tI rfl ?_;clear h2 k1 k2 ea he;exact BP
theorem aHf(nm:List UInt8)(sto:AH)(y:ad)(ys:List ad)(h3:(y::ys).length<AR)(h2:∀x∈y::ys,x.size<AR/\x.km=true):∃e' v',hJ nm (y::ys)=uD e' v' /\
  ∃s0 s1 s5 s6 s9 s10 D9 FI CP DP BT H3,LP 22 (aN Tryz.f22 0) ⟨[.dead,.dead,Sa,.dead,.dead,.box [.val (.int .i64 2),.val (.int .i64 0),.val (.str nm),.val (.str []),.own 6 [],.own 3 []],.dead,.dead,.dead,.val (.slice ((y::ys).map ad.enc)),.val (.int .i64 ((y::ys).length:Nat)),.val (.int .i64 0),.dead,.dead],sto⟩=some (.exit 0,⟨[s0,s1,Sa,s5,s6,OI e' v',s9,s10,D9,FI,CP,DP,BT,H3],sto⟩):=by
 have AN:=cQ ad.enc [] ys y;have AL:=CQ [] ys y;have h0:=zI 0;have hw:=wL [] ys y (by simpa using h3);obtain⟨k1,k2⟩:=h2 y (by simp);have hc:=Yb y sto k1 k2;obtain⟨e',v',he,s0,s1,s5,s6,s9,s10,D9,FI,CP,DP,BT,H3,ih⟩:=aHg sto ys [y] (.mk 2 0 nm [] [] []) y (by simpa using h3) (λx hx=>h2 x (by simp[hx]));refine⟨e',v',he,s0,s1,s5,s6,s9,s10,D9,FI,CP,DP,BT,H3,?_⟩;have ea:(af.mk 2 0 nm [] [] []).enc=.agg [.int .i64 2,.int .i64 0,.str nm,.str [],.slice [],.slice []]:=by simp[af.ce]
 simp only[OI] at ih ⊢;rw[ea] at ih;rw[y.aw] at AN hc;rw[af.aw (gk y)] at hc ih;simp only[Ai,Ap,Al,show((0:Nat):Int)=0 from rfl] at ih AN AL h0 hw;refine tI rfl ?_;clear h2 k1 k2 ea he h3;generalize y::ys=L at *;exact BP
theorem c22(nm:List UInt8)(y:ad)(ys:List ad)(h3:(y::ys).length<AR)(h2:∀x∈y::ys,x.size<AR/\x.km=true)(sto:AH)(Nj:CF (.fn 24) [.val (.str nm),.val (.slice ((y::ys).map ad.enc))] sto=some (.ret (.val (.int .i64 0)),sto))(Ni:CF (.fn 40) [.val (hJ nm (y::ys)).enc] sto=some (.ret (.val (.int .i64 0)),sto)) :
  CF (.fn 22) [.val (.str nm),.val (.slice ((y::ys).map ad.enc))] sto=some (.ret (.aj [(hJ nm (y::ys)).enc,.int .i64 0]),sto):=by
 obtain⟨e',v',he,s0,s1,s5,s6,s9,s10,D9,FI,CP,DP,BT,H3,hl⟩:=aHf nm sto y ys h3 h2;rw[he] at Ni ⊢;have ea:(uD e' v').enc=.agg [.int .i64 4,.int .i64 0,.str [],.str [],.slice [e'.enc,(gk v').enc],.slice []]:=by simp[uD,af.ce]
 rw[ea] at Ni ⊢;simp only[OI] at hl;generalize y::ys=L at *;clear h2 h3 he ea;exact BP
end Go.Proofs.YtoiocfngjchdiaaGreatDoor
namespace Go.AM
open Go.RowKit
structure Rc where
 P:Program
 ans:FuncId->AF
 cf:aI
 fid:FuncId
 B0:Nat
 b:Frame
 cs:List Frame
 ds:List Deferred:=[]
structure Rc.OK (c:Rc):Prop where
 cf:kC c.P c.ans c.B0 c.cf
 a0C:gU c.P c.ans c.cf
 fn:c.b.fn=c.fid
def bE(c:Rc)(st:St)(items:List Item)(AY:St)(HA:List Item):Prop :=
 ∀w Ψ J ow tmps,At c.P c.ans c.fid c.B0 w Ψ J ow st tmps->∃w' Z' J' AO tmps',At c.P c.ans c.fid c.B0 w' Z' J' AO AY tmps'/\Fr w Ψ ow w' Z' AO/\pre J J' /\
  Steps c.P (lone (c.b.atR ⟨tmps,c.ds⟩ items) c.cs w) (lone (c.b.atR ⟨tmps',c.ds⟩ HA) c.cs w')
variable {c:Rc}{st GK AY:St}{k k1 k':List Item}{tm tm':List Slot}{sto sto':AH}
theorem bE.refl:bE c st k st k:=λw Ψ J ow tmps h=>⟨w,Ψ,J,ow,tmps,h,Fr.refl _ _ _,aG _,Steps.refl _ _⟩
theorem bE.trans(h:bE c st k GK k1)(h':bE c GK k1 AY k'):bE c st k AY k':=λw Ψ J ow tmps hA=>by
 obtain⟨w1,Z1,J1,BR,BF,a1,a2,a3,a4⟩:=h w Ψ J ow tmps hA;obtain⟨w2,Z2,J2,CG,CC,b1,b2,b3,b4⟩:=h' w1 Z1 J1 BR BF a1;exact⟨w2,Z2,J2,CG,CC,b1,a2.trans b2,dF a3 b3,a4.trans b4⟩
theorem bE.step(hs:∀tmps w,step c.P (lone (c.b.atR ⟨tmps,c.ds⟩ k) c.cs w)=.next (lone (c.b.atR ⟨tmps,c.ds⟩ k1) c.cs w))(h:bE c st k1 AY k'):bE c st k AY k':=λw Ψ J ow tmps hA=>by
 obtain⟨w2,Z2,J2,CG,CC,b1,b2,b3,b4⟩:=h w Ψ J ow tmps hA;exact⟨w2,Z2,J2,CG,CC,b1,b2,b3,(Steps.one (hs tmps w)).trans b4⟩
theorem nH{x y:Code}(h:bE c st (.code x::.code y::k) AY k'):bE c st (.code (.seq x y)::k) AY k':=.step (λ_ _=>stepR_seq) h
theorem iI(h:bE c st k AY k'):bE c st (.code .skip::k) AY k':=.step (λ_ _=>stepR_skip) h
theorem eQ{id:Nat}{x:Code}(h:bE c st (.code x::.inBlock id::k) AY k'):bE c st (.code (.block id x)::k) AY k':=.step (λ_ _=>stepR_block) h
theorem cT{id:Nat}(h:bE c st k AY k'):bE c st (.inBlock id::k) AY k':=.step (λ_ _=>stepR_inBlock) h
theorem iG{id:Nat}(e:exitTo id k=some k1)(h:bE c st k1 AY k'):bE c st (.code (.exit id)::k) AY k':=.step (λ_ _=>stepR_exit e) h
theorem W9{x:Code}(h:bE c st (.code x::.inLoop x::k) AY k'):bE c st (.code (.loop x)::k) AY k':=.step (λ_ _=>stepR_loop) h
theorem qZ{x:Code}(h:bE c st (.code x::.inLoop x::k) AY k'):bE c st (.inLoop x::k) AY k':=.step (λ_ _=>stepR_inLoop) h
theorem Y_{o:Operand}{x y:Code}{t:Bool}(ho:AZ (c.ans c.fid).keep tm ⟨[],sto⟩ o=.val (.bool t))(h:bE c ⟨tm,sto⟩ (.code (bif t then x else y)::k) AY k'):bE c ⟨tm,sto⟩ (.code (.cond o x y)::k) AY k':=λw Ψ J ow tmps hA=>by
 obtain⟨w2,Z2,J2,CG,CC,b1,b2,b3,b4⟩:=h w Ψ J ow tmps hA
 have hv:(⟨tmps,c.ds⟩:Act).eval o=.bool t:=by
  obtain⟨a7i,IZ,_⟩:=bH (ds:=c.ds) hA.rel o;rw[ho] at IZ;generalize(⟨tmps,c.ds⟩:Act).eval o=v at IZ;cases IZ with
  |val _ _ hv=>cases hv;rfl
 refine⟨w2,Z2,J2,CG,CC,b1,b2,b3,(Steps.one ?_).trans b4⟩
 have:=stepR_cond (P:=c.P) (b:=c.b) (a:=⟨tmps,c.ds⟩) (k:=k) (cs:=c.cs) (w:=w) (x:=x) (y:=y) hv
 cases t<;>exact this
def y9:bG->St->Option (bG×St):=λe st=>some (e,st)
theorem nG{id:Nat}{ops:Array Oper}{sc:List (Nat×Slot)}(H:c.OK)(h:∀(kp:ae->RS->Option (bG×St))(kn:RS->Option (bG×St)),j3 c.P c.ans (c.ans c.fid) false c.cf tm id ops kp kn ops.toList 0 ⟨[],sto⟩=kn ⟨sc,sto'⟩)(hc:ed (c.ans c.fid).keep tm sc=tm')
  (h':bE c ⟨tm',sto'⟩ k AY k'):bE c ⟨tm,sto⟩ (.code (.region id ops false)::k) AY k':=.trans (λw Ψ J ow tmps hA=>by
 have e:=h (λv rs=>y9 (.be v) ⟨tm,rs.sto⟩) (λrs=>y9 .norm ⟨ed (c.ans c.fid).keep tm rs.sc,rs.sto⟩);rw[lP] at e;simp only[hc] at e;rcases n8 (ds:=c.ds) (b:=c.b) (items:=k) (cs:=c.cs) H.cf hA.nr (rs:=⟨[],sto⟩) hA.rel hA.lo e with⟨rs',w',Z',J',AO,tmps',a1,a2,a3,a4,a5,a6⟩|⟨x,rs',v,w',Z',J',AO,tmps',DF,a1,a2,a3,a4,a5,a6,a7⟩
 ·simp only[y9,Am,Bq,Fw] at a1
  have Kd:=At.ed hA.nr a2 (by rw[a5.lo];exact Bi hA.lo a5.len) rfl;rw[a1] at Kd;exact⟨w',Z',J',AO,tmps',Kd,a3,a4,(Steps.one stepR_region).trans (a6.trans (.one stepR_region_end))⟩
 ·simp[y9] at a1) h'
theorem iH{id:Nat}{ops:Array Oper}{sc:List (Nat×Slot)}(H:c.OK)(hg:(pB c.ans (c.ans c.fid) id ops&&MW c.ans (c.ans c.fid) id ops)=true)
  (h:∀(kp:ae->RS->Option (bG×St))(kn:RS->Option (bG×St)),j3 c.P c.ans (c.ans c.fid) true c.cf tm id ops kp kn ops.toList 0 ⟨[],sto⟩=kn ⟨sc,sto'⟩) (hc:ed (c.ans c.fid).keep tm sc=tm')
  (h':bE c ⟨tm',sto'⟩ k AY k'):bE c ⟨tm,sto⟩ (.code (.region id ops true)::k) AY k':=.trans (λw Ψ J ow tmps hA=>by
 have e:=h (λ_ _=>none) (λrs=>y9 .norm ⟨ed (c.ans c.fid).keep tm rs.sc,rs.sto⟩);rw[lP] at e;simp only[Ac] at hg;have e:=H.a0C.2 (bG×St) c.fid tm id ops _ ⟨[],sto⟩ _ hg.1 hg.2 hA.nr rfl (λrs1 rs2 h1 h2=>by rw[lG _ _ h1,h2]) (e.trans (by simp only[hc];rfl)) (w.tape w.drawn (.order c.b.fn id));rw[show Region.linearise .any ops (w.tape w.drawn (.order c.b.fn id))=Region.schedule (c.P.follows .mixedOrders) ops (w.tape w.drawn (.order c.b.fn id)) by simp[Region.schedule,H.a0C.1]] at e
 let w1:World:={ w with drawn:=w.drawn+1 }
 have HD:w1.heap=w.heap:=rfl;have Jb:Fr w Ψ ow w1 Ψ ow:=Fr.heap rfl rfl rfl rfl;have h1:=hA.world HD;rcases n8 (ds:=c.ds) (b:=c.b) (items:=k) (cs:=c.cs) H.cf hA.nr (rs:=⟨[],sto⟩) h1.rel h1.lo e with⟨rs',w',Z',J',AO,tmps',a1,a2,a3,a4,a5,a6⟩|⟨x,rs',v,w',Z',J',AO,tmps',DF,a1,a2,a3,a4,a5,a6,a7⟩
 ·simp only[y9,Am,Bq,Fw] at a1
  have Kd:=At.ed hA.nr a2 (by rw[a5.lo];exact Bi hA.lo a5.len) rfl;rw[a1] at Kd;exact⟨w',Z',J',AO,tmps',Kd,Jb.trans a3,a4,(Steps.one stepR_region_draw).trans (a6.trans (.one stepR_region_end))⟩
 ·cases a1) h'
theorem Ha{o:Operand}{x y:Code}{t:Bool}(ho:AZ (c.ans c.fid).keep tm ⟨[],sto⟩ o=.val (.bool t))(e:t=true)(h:bE c ⟨tm,sto⟩ (.code x::k) AY k'):bE c ⟨tm,sto⟩ (.code (.cond o x y)::k) AY k':=Y_ ho (by rw[e];exact h)
theorem Hb{o:Operand}{x y:Code}{t:Bool}(ho:AZ (c.ans c.fid).keep tm ⟨[],sto⟩ o=.val (.bool t))(e:t=false)(h:bE c ⟨tm,sto⟩ (.code y::k) AY k'):bE c ⟨tm,sto⟩ (.code (.cond o x y)::k) AY k':=Y_ ho (by rw[e];exact h)
theorem R3{fn:Func}{n:Nat}{x:Code}(e:Wk fn n=some x)(h:bE c st (.code x::k) AY k'):bE c st (.code (aN fn n)::k) AY k':=by
 have:aN fn n=x:=by simp[aN,e]
 rw[this];exact h
end Go.AM
namespace Go.Proofs.YtoiocfngjchdiaaGreatDoor
open Go.AM
variable [h_]
noncomputable abbrev sL(B0:Nat)(b:Frame)(cs:List Frame):Rc:=⟨Tryz.prog,ans,CF,34,B0,b,cs,[]⟩
theorem r1(B0:Nat)(b:Frame)(cs:List Frame)(H:(sL B0 b cs).OK)(items:List Item)(Q:List ai)(lo ip:Nat)(pre ys:List ax)(y:ax)(hy:y.kind=1)(ir:Nat)(fe ne:ae)(ou:List ae)(hb:(pre++y::ys).length<1000)
  (hp:Q[ip]?=some (.box [.val (.slice ((pre++y::ys).map ax.enc))])) :
  ∃s6 s10 BK BU JD FJ BH B5 B2 H3 Lg Lf Ld Lc Lb H9 H8 H7 H6 H5 H4,bE (sL B0 b cs) ⟨[.val (.loc ir 0),.val (.loc ip 0),.val (.slice []),.dead,.own 4 ou,.val fe,.val ne,.dead,.dead,.dead,.dead,.dead,.dead,.dead,.val (.int .i64 ((pre++y::ys).length:Nat)),.val (.int .i64 (pre.length:Nat)),.dead,.dead,.dead,.dead,.dead,.dead,.dead,.dead,.dead,.dead,.dead,.dead,.dead],⟨Q,lo⟩⟩ (.code (aN Tryz.f34 0)::items)
   ⟨[.val (.loc ir 0),.val (.loc ip 0),.val (.slice []),s6,.own 4 ou,.val fe,.val ne,s10,BK,BU,JD,FJ,BH,B5,.val (.int .i64 ((pre++y::ys).length:Nat)),.val (.int .i64 ((pre++[y]).length:Nat)),B2,H3,Lg,Lf,Ld,Lc,Lb,H9,H8,H7,H6,H5,H4],⟨Q,lo⟩⟩ items:=by
 have AN:=cQ ax.enc pre ys y;have AL:=CQ pre ys y;have h0:=zI pre.length;have hw:=wL pre ys y (by simp only[AR];omega);simp only[ax.enc,hy] at AN;clear hb hy;iterate 21 apply Exists.intro
 refine R3 rfl ?_;repeat first|with_reducible refine nH ?_|with_reducible refine iI ?_|with_reducible refine eQ ?_|with_reducible refine cT ?_|((with_reducible apply iG);(·rfl))|((with_reducible apply nG H);(·(intro _ _;(repeat (apply BL;(·(intro _;simp only[*,go_sem];rfl))));rfl));(·(simp only[go_sem];rfl)))|((with_reducible apply iH H);(·kernel_rfl);(·(intro _ _;(repeat (apply BL;(·(intro _;simp only[*,go_sem];rfl))));rfl));(·(simp only[go_sem];rfl)))|((with_reducible apply Ha);(·(simp only[go_sem];rfl));(·first|rfl|assumption))|((with_reducible apply Hb);(·(simp only[go_sem];rfl));(·first|rfl|assumption))
 exact bE.refl;all_goals exact .dead
def GA(n:List UInt8)(v:ad):ae:=.agg [.str n,.str v.bh,.int .i64 v.num,.slice (v.args.map ad.enc)]
theorem r5(B0:Nat)(b:Frame)(cs:List Frame)(H:(sL B0 b cs).OK)(items:List Item)(Q:List ai)(ir d iq q lo ip s n:Nat)(hR:nk Q ir d iq q lo)(hs:s+n<=q)(pre ys:List ax)(nm:List UInt8)(e:af)(fe:ae)(env:aq)(v:ad)(GD:Ev e env (jf v) n)(hv:v.km=true)(Lo:v.cu<=4000)(hb:(pre++cU nm e::ys).length<1000)(BA:ip≠d)
  (hp:Q[ip]?=some (.box [.val (.slice ((pre++cU nm e::ys).map ax.enc))])) :
  ∃(M:List ai)(s6 s10 BK BU JD FJ BH B5 B2 H3 Lg Lf Ld Lc Lb H9 H8 H7 H6 H5 H4:Slot),bE (sL B0 b cs) ⟨[.val (.loc ir 0),.val (.loc ip 0),.val (.slice []),.dead,.own 4 [],.val fe,.val env.enc,.dead,.dead,.dead,.dead,.dead,.dead,.dead,.val (.int .i64 ((pre++cU nm e::ys).length:Nat)),.val (.int .i64 (pre.length:Nat)),.dead,.dead,.dead,.dead,.dead,.dead,.dead,.dead,.dead,.dead,.dead,.dead,.dead],⟨AW Q d s,lo⟩⟩ (.code (aN Tryz.f34 0)::items)
   ⟨[.val (.loc ir 0),.val (.loc ip 0),.val (.slice []),s6,.own 4 [GA nm v],.val fe,.val env.enc,s10,BK,BU,JD,FJ,BH,B5,.val (.int .i64 ((pre++cU nm e::ys).length:Nat)),.val (.int .i64 ((pre++[cU nm e]).length:Nat)),B2,H3,Lg,Lf,Ld,Lc,Lb,H9,H8,H7,H6,H5,H4],⟨AW Q d (s+n)++M,lo⟩⟩ items:=by
 have AN:=cQ ax.enc pre ys (cU nm e);have AL:=CQ pre ys (cU nm e);have h0:=zI pre.length;have hw:=wL pre ys (cU nm e) (by simp only[AR];omega);have K3:=λs=>(jV BA s).trans hp
 have hc:=Zx (main n e env (jf v) GD) (Q++[.box [.val (.int .i64 0)]]) ir d iq q lo s (hR.app _) hs;rw[eX hR.lt,eX hR.lt] at hc;have DB:=aVT (Q:=AW Q d (s+n)++[.box [.val (.int .i64 0)]]) (d:=Q.length) (lo:=lo) (by simp[bY]) (by have:=hR.lo;have:=hR.lt;omega) v 0 hv (by omega)
 have e1:∀x,AW (AW Q d (s+n)++[.box [.val (.int .i64 0)]]) Q.length x=AW Q d (s+n)++[.box [.val (.int .i64 (x:Nat))]]:=λx=>by
  show List.set _ _ _=_;rw[<-bY Q d (s+n)];simp
 rw[e1,e1] at DB;simp only[Bs,show((0:Nat):Int)=0 from rfl] at DB;have k3:=λx=>bY Q d x
 have k1:Nat.ble lo Q.length=true:=Ah (by have:=hR.lo;have:=hR.lt;omega);have o1:∀x A M,(AW Q d x++A::M)[Q.length]?=some A:=λx A M=>by rw[<-bY Q d x];simp
 have o3:∀x A M X,(AW Q d x++A::M).set Q.length X=AW Q d x++X::M:=λx A M X=>by rw[<-bY Q d x];simp
 obtain⟨t,w,hi,hf,BQ⟩:=(jf v).form;rw[v.aw] at DB;rw[hi] at hc DB;have e0:(cU nm e).enc=.agg [.int .i64 5,.str [],.slice [],.slice [],.str nm,.str [],.slice [],.slice [],.int .i64 e.kind,.int .i64 e.num,.str e.name,.str e.arg,.slice (e.args.map af.enc),.slice (e.ez.map ag.enc)]:=rfl;rw[e0] at AN;rw[e.aw] at hc;simp only[GA];clear hb hR hs GD hv Lo hp hi e1 BA e0;generalize env.enc=E at *;generalize pre++cU nm e::ys=D at *;generalize(pre++[cU nm e]).length=N2 at *;refine⟨[.box [.val (.int .i64 (v.cu:Nat))]],?_⟩;iterate 21 apply Exists.intro
 refine R3 rfl ?_;repeat first|with_reducible refine nH ?_|with_reducible refine iI ?_|with_reducible refine eQ ?_|with_reducible refine cT ?_|((with_reducible apply iG);(·rfl))|((with_reducible apply nG H);(·(intro _ _;(repeat (apply BL;(·(intro _;simp only[*,go_sem,Nat.reduceAdd,reduceIte,FL,FO,cB,clean,flat,List.replicate,Bu];rfl))));rfl));(·(simp only[go_sem];rfl)))|((with_reducible apply iH H);(·kernel_rfl);(·(intro _ _;(repeat (apply BL;(·(intro _;simp only[*,go_sem,Nat.reduceAdd,reduceIte,FL,FO,cB,clean,flat,List.replicate,Bu];rfl))));rfl));(·(simp only[go_sem];rfl)))|((with_reducible apply Ha);(·(simp only[go_sem];rfl));(·first|rfl|assumption))|((with_reducible apply Hb);(·(simp only[go_sem];rfl));(·first|rfl|assumption))
 exact bE.refl;all_goals exact .dead
end Go.Proofs.YtoiocfngjchdiaaGreatDoor
namespace Go.AM
open Go.RowKit
variable {P:Program}{ans:FuncId->AF}{w:World}{B0:Nat}{Ψ:HT}{J:List Nat}{ow:Own}{tmps:Array Value}{fid:FuncId}{R:Type}{r:R}
def cv(j:Nat)(v:Value)(s s':Slot):Prop:=s'=.dead\/(s'=s/\∀u o,s≠.ref u o)\/(s=.val (.loc j 0)/\s'=.val (.raw v))\/(s=.val (.raw v)/\s'=.val (.loc j 0))
inductive yT (Q:Slot->Slot->Prop):List Slot->List Slot->Prop
 |nil:yT Q [] []
 |cons {a b:Slot} {l l':List Slot} (h:Q a b) (t:yT Q l l'):yT Q (a::l) (b::l')
theorem sP{Q:Slot->Slot->Prop}(hd:Q .dead .dead):∀{tm tm':List Slot}(ks:List Nat)(t:Nat),yT Q tm tm'->Q (bg ks tm t) (bg ks tm' t)
 |_,_,[],_,.nil=>hd
 |_,_,[],_,.cons _ _=>hd
 |_,_,_::_,_,.nil=>hd
 |_::_,_::_,k::ks,t,.cons h l=>by
  simp only[bg];cases Nat.beq k t
  ·exact sP hd ks t l
  ·exact h
theorem At.cv{j b:Nat}{v:Value}{tm tm':List Slot}{sto:AH}(h:At P ans fid B0 w Ψ J ow ⟨tm,sto⟩ tmps)(hb:J[j]?=some b)(hv:v=.pointer (some ⟨b,0,none⟩))(hc:yT (AM.cv j v) tm tm'):At P ans fid B0 w Ψ J ow ⟨tm',sto⟩ tmps:=by
 have hE:∀t,AM.cv j v (sl (ans fid) tm ⟨[],sto⟩ t) (sl (ans fid) tm' ⟨[],sto⟩ t):=λt=>sP (Q:=AM.cv j v) (.inl rfl) (ans fid).keep t hc
 have HP:ij tm':=by
  intro s hs u o e
  have key:∀{tm tm':List Slot},yT (AM.cv j v) tm tm'->∀s∈tm',∃s0∈tm,AM.cv j v s0 s:=by
   intro tm tm' h;induction h with
   |nil=>intro s hs;cases hs
   |cons h1 h2 ih =>
    intro s hs;rcases As.1 hs with hs|hs
    ·subst hs;exact⟨_,by simp,h1⟩
    ·obtain⟨s0,a1,a2⟩:=ih s hs;exact⟨s0,by simp[a1],a2⟩
  obtain⟨s0,h0,h1⟩:=key hc s hs;rcases h1 with h1|⟨h1,h2⟩|⟨_,h1⟩|⟨_,h1⟩
  ·rw[h1] at e;cases e
  ·rw[h1] at e;exact h2 u o e
  ·rw[h1] at e;cases e
  ·rw[h1] at e;cases e
 refine⟨⟨h.rel.size,h.rel.b_,λt=>?_,λd u o hd=>?_,λt cs ht=>?_,h.rel.objs,h.rel.lt,h.rel.base,λt ht=>?_⟩,HP,h.lo⟩
 ·have hs:=h.rel.dr t
  rcases hE t with h1|⟨h1,h2⟩|⟨h1,h2⟩|⟨h1,h2⟩
  ·rw[h1];exact .dead _
  ·rw[h1];exact hs
  ·rw[h2];rw[h1] at hs
   generalize tmps.getD t undef=u at hs;cases hs with
   |val _ _ hx=>cases hx with
    |loc _ _ b' BC=>rw[hb] at BC;cases BC;rw[hv];exact .val _ _ (.raw _ rfl)
  ·rw[h2];rw[h1] at hs
   generalize tmps.getD t undef=u at hs;cases hs with
   |val _ _ hx=>cases hx with
    |raw=>rw[hv];exact .val _ _ (.loc j 0 b hb)
 ·exact absurd hd (HP.bg _ _ _ _)
 ·rcases hE t with h1|⟨h1,h2⟩|⟨h1,h2⟩|⟨h1,h2⟩
  ·rw[h1] at ht;cases ht
  ·rw[h1] at ht;exact h.rel.boxes t cs ht
  ·rw[h2] at ht;cases ht
  ·rw[h2] at ht;cases ht
 ·have h0:=h.rel.hi t ht
  rcases hE t with h1|⟨h1,h2⟩|⟨h1,h2⟩|⟨h1,h2⟩
  ·exact h1
  ·rw[h1];exact h0
  ·rw[h1] at h0;cases h0
  ·rw[h1] at h0;cases h0
theorem aO0{c:Rc}{k k1 k':List Item}{tm tmS:List Slot}{tmW tmV:Value->List Slot}{sto sto':AH}{AY:St}(j:Nat){o:ai}(ho:sto.objs[j]?=some o)(h1:∀v,yT (cv j v) tm (tmW v))
  (h:∀v,hV v=true->bE c ⟨tmW v,sto⟩ k ⟨tmV v,sto'⟩ k1) (h2:∀v,yT (cv j v) (tmV v) tmS) (h':bE c ⟨tmS,sto'⟩ k1 AY k'):bE c ⟨tm,sto⟩ k AY k' :=
 .trans (λw Ψ J ow tmps hA=>by
  obtain⟨b,hb,_⟩:=hA.rel.objs.2 j o ho;obtain⟨w',Z',J',AO,tmps',a1,a2,a3,a4⟩:=h (.pointer (some ⟨b,0,none⟩)) rfl w Ψ J ow tmps (hA.cv hb rfl (h1 _));exact⟨w',Z',J',AO,tmps',a1.cv (a3 j b hb) rfl (h2 _),a2,a3,a4⟩) h'
theorem a34{an:AF}{cf:aI}{tm:List Slot}{drawn:Bool}{ds:List Deferred}{kp:ae->RS->Option R}(BO:kC P ans B0 cf)(hn:ij tm){rid:Nat}{b:Frame}{ops:Array Oper}{items:List Item}{cs:List Frame}{kn:RS->Option R}{l2:List Nat}:∀{l:List Nat}{rs:RS}{w:World}{Ψ:HT}{J:List Nat}{ow:Own}{tmps:Array Value},
  Rel P ans B0 w Ψ J ow an (sl an tm rs) tmps rs.sto.objs->rs.sto.lo<=rs.sto.objs.length->gF P ans an drawn cf tm rid ops kp kn l rs=some r ->
  pP P ans an w B0 Ψ J ow tm rs ds b cs (lone (b.atR ⟨tmps,ds⟩ (.inRegion ops (l++l2)::items)) cs w) (.inRegion ops l2::items) kp kn r
 |[],rs,w,Ψ,J,ow,tmps,h,AP,e=>.inl ⟨rs,w,Ψ,J,ow,tmps,e,h,Fr.refl _ _ _,aG _,gr.refl _,Steps.refl _ _⟩
 |i::l,rs,w,Ψ,J,ow,tmps,h,AP,e=>by
  simp only[gF] at e
  split at e
  ·rename_i o ho
   rcases a32 (ds:=ds) (b:=b) (items:=items) (cs:=cs) (rest:=l++l2) h BO hn AP ho e with⟨rs',w',Z',J',AO,tmps',a1,a2,a3,a4,a5,a6⟩|⟨x,rs',v,w',Z',J',AO,tmps',DF,a1,a2,a3,a4,a5,a6,a7⟩
   ·rcases a34 BO hn (b:=b) (items:=items) (cs:=cs) a2 (by rw[a5.lo];exact Bi AP a5.len) a1 with⟨rs2,w2,Z2,J2,CG,CC,b1,b2,b3,b4,b5,b6⟩|⟨x,rs2,v,w2,Z2,J2,CG,CC,Ji,b1,b2,b3,b4,b5,b6,b7⟩
    ·exact .inl ⟨rs2,w2,Z2,J2,CG,CC,b1,b2,a3.trans b3,dF a4 b4,a5.trans b5,a6.trans b6⟩
    ·exact .inr ⟨x,rs2,v,w2,Z2,J2,CG,CC,Ji,b1,b2,b3,a3.trans b4,dF a4 b5,a5.trans b6,a6.trans b7⟩
   ·exact .inr ⟨x,rs',v,w',Z',J',AO,tmps',DF,a1,a2,a3,a4,a5,a6,a7⟩
  ·cases e
end Go.AM
