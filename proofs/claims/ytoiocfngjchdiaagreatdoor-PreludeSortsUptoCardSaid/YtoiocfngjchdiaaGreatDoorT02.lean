import Derived.Test.YtoiocfngjchdiaaGreatDoorT01
set_option linter.all false
set_option maxRecDepth 100000
set_option maxHeartbeats 16000000
namespace Go.Proofs.YtoiocfngjchdiaaGreatDoor
open Go.AM
variable [h_]
theorem ah.ce(n:List UInt8)(al:List ah):(ah.mk n al).enc=.agg [.str n,.slice (al.map ah.enc)]:=by simp[ah.enc,ah.qc]
def tyName:ah->List UInt8|.mk n _=>n
def eA:ah->List ah|.mk _ l=>l
theorem dA(t:ah):t.enc=.agg [.str (tyName t),.slice ((eA t).map ah.enc)]:=by cases t;exact ah.ce _ _
def o7:List ah->ah->ah
 |[],r=>r
 |a::l,r=>.mk [45,62] [a,o7 l r]
def oG(t:ah):List Cell:=[.val (.str (tyName t)),.val (.slice ((eA t).map ah.enc))]
theorem aND(r:ah)(hr:(tyName r==[45,62])=false)(sto:AH)(ys:List ah):∀(pre:List ah),pre.length+ys.length+1<AR ->
  ∃s0 s1 s2 s6,LP 47 (aN Tryz.f47 0) ⟨[.dead,.box (oG (o7 ys r)),.dead,.own 2 (pre.map ah.enc),.dead],sto⟩=some (.exit 0,⟨[s0,s1,s2,.own 2 ((pre++ys).map ah.enc),s6],sto⟩):=by
 induction ys with
 |nil =>
  intro pre h3;simp only[Ao,o7,oG];iterate 4 apply Exists.intro
  refine tI rfl ?_;exact wk;all_goals exact .dead
 |cons y ys ih =>
  intro pre h3;have hrm:Nat.ble (pre.length+1) room=true:=by apply Ah;simp only[room];simp only[Ak,AR] at h3;omega
  have emap:(pre++[y]).map ah.enc=pre.map ah.enc++[y.enc]:=by simp
  obtain⟨s0,s1,s2,s6,ih⟩:=ih (pre++[y]) (by simp only[Bc,Ak,Ap] at h3 ⊢;omega);rw[emap,dA y] at ih;simp only[Aj,Al] at ih
  have CY:oG (o7 (y::ys) r)=[.val (.str [45,62]),.val (.slice [.agg [.str (tyName y),.slice ((eA y).map ah.enc)],.agg [.str (tyName (o7 ys r)),.slice ((eA (o7 ys r)).map ah.enc)]])]:=by
   rw[<-dA y,<-dA (o7 ys r)];simp only[oG,o7,tyName,eA,Ba,Av]
  rw[CY];simp only[oG] at ih;refine⟨s0,s1,s2,s6,?_⟩;refine tI rfl ?_;exact BP
theorem c47(l:List ah)(r:ah)(hr:(tyName r==[45,62])=false)(hl:l.length+1<AR)(sto:AH):CF (.fn 47) [.val (o7 l r).enc] sto=some (.ret (.val (.slice (l.map ah.enc))),sto):=by
 obtain⟨s0,s1,s2,s6,BJ⟩:=aND r hr sto l [] (by simp only[Ap];omega);simp only[Ai,Av,oG] at BJ;rw[dA (o7 l r)];exact wk
theorem aNE(sto:AH)(ys:List ah):∀(zs:List ad)(pre:List ah)(DU:List ad),pre.length=DU.length->ys.length=zs.length->(pre++ys).length<AR ->
  (∀(i:Nat)(t:ah)(v:ad),ys[i]?=some t->zs[i]?=some v->CF (.fn 133) [.val t.enc,.val v.enc] sto=some (.ret (.val (.bool true)),sto)) ->
  ∃s0 s1 s4 s5 s6 s7 s8 s9 s10 FI,LP 50 (aN Tryz.f50 0) ⟨[.dead,.val (.slice ((DU++zs).map ad.enc)),.dead,.dead,.dead,.val (.slice ((pre++ys).map ah.enc)),.val (.int .i64 ((pre++ys).length:Nat)),.val (.int .i64 (pre.length:Nat)),.dead,.dead],sto⟩=some (.exit 0,⟨[s0,s1,s4,s5,s6,s7,s8,s9,s10,FI],sto⟩):=by
 induction ys with
 |nil =>
  intro zs pre DU ED JX h3 h2;have AL:=DK pre;simp only[Ao];clear ED JX h3 h2;iterate 10 apply Exists.intro
  refine tI rfl ?_;exact wk;all_goals exact .dead
 |cons y ys ih =>
  intro zs pre DU ED JX h3 h2;cases zs with
  |nil=>simp at JX
  |cons z zs =>
  have AN:=cQ ah.enc pre ys y;have B8:=cQ ad.enc DU zs z;rw[<-ED] at B8;have AL:=CQ pre ys y;have h0:=zI pre.length;have hw:=wL pre ys y h3;have hc:=h2 0 y z rfl rfl;obtain⟨s0,s1,s4,s5,s6,s7,s8,s9,s10,FI,ih⟩:=ih zs (pre++[y]) (DU++[z]) (by simp[ED]) (by simpa using JX) (by simpa using h3) (λi t v h4 h5=>h2 (i+1) t v (by simpa using h4) (by simpa using h5));simp only[Aj,Al] at ih;rw[dA y] at AN hc;rw[z.aw] at B8 hc;refine⟨s0,s1,s4,s5,s6,s7,s8,s9,s10,FI,?_⟩;refine tI rfl ?_;clear ED JX h3 h2;exact BP
theorem Y9(ts:List ah)(vs:List ad)(hl:ts.length=vs.length)(hb:ts.length<AR)(sto:AH)(h:∀(i:Nat)(t:ah)(v:ad),ts[i]?=some t->vs[i]?=some v->CF (.fn 133) [.val t.enc,.val v.enc] sto=some (.ret (.val (.bool true)),sto)) :
  CF (.fn 50) [.val (.slice (ts.map ah.enc)),.val (.slice (vs.map ad.enc))] sto=some (.ret (.val (.bool true)),sto):=by
 obtain⟨s0,s1,s4,s5,s6,s7,s8,s9,s10,FI,BJ⟩:=aNE sto ts vs [] [] rfl hl (by simpa using hb) h;simp only[Ai,Ap] at BJ;clear hl hb h;exact BP
theorem aWl(ts:List ah)(v:ad)(n:Nat)(hl:ts.length=v.args.length)(sto:AH)(ho:sto.objs[n]?=some (.box (cN v)))(h45:CF (.fn 50) [.val (.slice (ts.map ah.enc)),.val (.slice (v.args.map ad.enc))] sto=some (.ret (.val (.bool true)),sto)) :
  CF (.fn 196) [.val (.slice (ts.map ah.enc)),.val (.loc n 0)] sto=some (.ret (.val (.bool true)),sto):=by
 have he:(((ts.length:Nat):Int)==((v.args.length:Nat):Int))=true:=by simp[hl]
 simp only[cN] at ho;exact BP
theorem ax.aw(d:ax):d.enc=.agg [.int .i64 d.kind,.str d.t_,.slice (d.vars.map .str),.slice (d.cons.map gf.enc),.str d.name,.str d.a2v,.slice (d.targs.map ah.enc),.slice (d.qd.map gu.enc),.int .i64 d.body.kind,.int .i64 d.body.num,.str d.body.name,.str d.body.arg,.slice (d.body.args.map af.enc),.slice (d.body.ez.map ag.enc)]:=rfl
theorem gu.aw(f:gu):f.enc=.agg [.str f.name,.str f.arg,.int .i64 f.body.kind,.int .i64 f.body.num,.str f.body.name,.str f.body.arg,.slice (f.body.args.map af.enc),.slice (f.body.ez.map ag.enc)]:=rfl
theorem gf.aw(c:gf):c.enc=.agg [.str c.name,.slice (c.args.map ah.enc)]:=rfl
theorem aHb(n:Nat)(sto:AH)(ys:List ax):∀(pre:List ax),(pre++ys).length<AR->(∀x∈ys,CF (.fn 121) [.val (ax.enc x),.val (.loc n 0)] sto=some (.ret (.val (.bool false)),sto)) ->
  ∃s0 s1 s4 s5 s7 s8 s9 BH,LP 187 (aN Tryz.f187 0) ⟨[.val (.slice ((pre++ys).map ax.enc)),.val (.func 121 [.loc n 0]),.dead,.dead,.val (.int .i64 ((pre++ys).length:Nat)),.val (.int .i64 (pre.length:Nat)),.dead,.dead],sto⟩=some (.exit 0,⟨[s0,s1,s4,s5,s7,s8,s9,BH],sto⟩):=by
 induction ys with
 |nil =>
  intro pre h3 h2;have AL:=DK pre;simp only[Ao];clear h2;iterate 8 apply Exists.intro
  refine tI rfl ?_;exact wk;all_goals exact .dead
 |cons y ys ih =>
  intro pre h3 h2;have AN:=cQ ax.enc pre ys y;have AL:=CQ pre ys y;have h0:=zI pre.length;have hw:=wL pre ys y h3;have hc:=h2 y (by simp);obtain⟨s0,s1,s4,s5,s7,s8,s9,BH,ih⟩:=ih (pre++[y]) (by simpa using h3) (λx hx=>h2 x (by simp[hx]));simp only[Aj,Al] at ih;rw[y.aw] at AN hc;refine⟨s0,s1,s4,s5,s7,s8,s9,BH,?_⟩;refine tI rfl ?_;clear h2;exact wk
theorem aOb:(ans 121).ownArg=[]:=by rw[P_]
theorem aVY(g:FuncId)(hg:(ans g).ownArg=[])(n:Nat)(sto:AH)(hn:sto.objs[n]?=some (.box [.val (.func g [])]))(x:ax)(h:∀L,CF (.fn g) [.val (ax.enc x)] ⟨sto.objs++L,sto.lo⟩=some (.ret (.val (.bool true)),⟨sto.objs++L,sto.lo⟩)):CF (.fn 121) [.val (ax.enc x),.val (.loc n 0)] sto=some (.ret (.val (.bool false)),sto):=by
 have h:=h [];rw[Ao] at h;rw[x.aw] at h ⊢;exact wk
theorem c44(g:FuncId)(hg:(ans g).ownArg=[])(l:List ax)(hl:l.length<AR)(sto:AH)(AP:sto.lo<=sto.objs.length)(h:∀x∈l,∀S:AH,S.lo<=S.objs.length->CF (.fn g) [.val (ax.enc x)] S=some (.ret (.val (.bool true)),S)) :
  CF (.fn 44) [.val (.slice (l.map ax.enc)),.val (.func g [])] sto=some (.ret (.val (.bool true)),sto):=by
 have hc:=λx hx=>aVY g hg sto.objs.length ⟨sto.objs++[.box [.val (.func g [])]],sto.lo⟩ (by simp) x (λL=>h x hx _ (by simp;omega))
 obtain⟨s0,s1,s4,s5,s7,s8,s9,BH,BJ⟩:=aHb sto.objs.length ⟨sto.objs++[.box [.val (.func g [])]],sto.lo⟩ l [] (by simpa using hl) hc;simp only[Ai,Ap] at BJ;have e0:((0:Nat):Int)=0:=rfl;rw[e0] at BJ;have o:=aOb;clear h hc
 have a5c:CF (.fn 187) [.val (.slice (l.map ax.enc)),.val (.func 121 [.loc sto.objs.length 0])] ⟨sto.objs++[.box [.val (.func g [])]],sto.lo⟩=some (.ret (.val (.int .i64 (-1))),⟨sto.objs++[.box [.val (.func g [])]],sto.lo⟩):=by
  exact BP
 have hm:decide ((-1:Int)>=0)=false:=rfl;clear BJ
 have a8j:CF (.fn 120) [.val (.slice (l.map ax.enc)),.val (.func 121 [.loc sto.objs.length 0])] ⟨sto.objs++[.box [.val (.func g [])]],sto.lo⟩=some (.ret (.val (.bool false)),⟨sto.objs++[.box [.val (.func g [])]],sto.lo⟩):=by
  exact wk
 clear a5c;exact G0
theorem aHh(n:Nat)(sto:AH)(ys:List gu):∀(pre:List gu),(pre++ys).length<AR->(∀x∈ys,CF (.fn 194) [.val (gu.enc x),.val (.loc n 0)] sto=some (.ret (.val (.bool false)),sto)) ->
  ∃s0 s1 s4 s5 s7 s8 s9 BH,LP 243 (aN Tryz.f243 0) ⟨[.val (.slice ((pre++ys).map gu.enc)),.val (.func 194 [.loc n 0]),.dead,.dead,.val (.int .i64 ((pre++ys).length:Nat)),.val (.int .i64 (pre.length:Nat)),.dead,.dead],sto⟩=some (.exit 0,⟨[s0,s1,s4,s5,s7,s8,s9,BH],sto⟩):=by
 induction ys with
 |nil =>
  intro pre h3 h2;have AL:=DK pre;simp only[Ao];clear h2;iterate 8 apply Exists.intro
  refine tI rfl ?_;exact wk;all_goals exact .dead
 |cons y ys ih =>
  intro pre h3 h2;have AN:=cQ gu.enc pre ys y;have AL:=CQ pre ys y;have h0:=zI pre.length;have hw:=wL pre ys y h3;have hc:=h2 y (by simp);obtain⟨s0,s1,s4,s5,s7,s8,s9,BH,ih⟩:=ih (pre++[y]) (by simpa using h3) (λx hx=>h2 x (by simp[hx]));simp only[Aj,Al] at ih;rw[y.aw] at AN hc;refine⟨s0,s1,s4,s5,s7,s8,s9,BH,?_⟩;refine tI rfl ?_;clear h2;exact wk
theorem aOh:(ans 194).ownArg=[]:=by rw[LS]
theorem aWk(g:FuncId)(hg:(ans g).ownArg=[])(n:Nat)(sto:AH)(hn:sto.objs[n]?=some (.box [.val (.func g [])]))(x:gu)(h:∀L,CF (.fn g) [.val (gu.enc x)] ⟨sto.objs++L,sto.lo⟩=some (.ret (.val (.bool true)),⟨sto.objs++L,sto.lo⟩)):CF (.fn 194) [.val (gu.enc x),.val (.loc n 0)] sto=some (.ret (.val (.bool false)),sto):=by
 have h:=h [];rw[Ao] at h;rw[x.aw] at h ⊢;exact wk
theorem aV1(g:FuncId)(hg:(ans g).ownArg=[])(l:List gu)(hl:l.length<AR)(sto:AH)(AP:sto.lo<=sto.objs.length)(h:∀x∈l,∀S:AH,S.lo<=S.objs.length->CF (.fn g) [.val (gu.enc x)] S=some (.ret (.val (.bool true)),S)) :
  CF (.fn 128) [.val (.slice (l.map gu.enc)),.val (.func g [])] sto=some (.ret (.val (.bool true)),sto):=by
 have hc:=λx hx=>aWk g hg sto.objs.length ⟨sto.objs++[.box [.val (.func g [])]],sto.lo⟩ (by simp) x (λL=>h x hx _ (by simp;omega))
 obtain⟨s0,s1,s4,s5,s7,s8,s9,BH,BJ⟩:=aHh sto.objs.length ⟨sto.objs++[.box [.val (.func g [])]],sto.lo⟩ l [] (by simpa using hl) hc;simp only[Ai,Ap] at BJ;have e0:((0:Nat):Int)=0:=rfl;rw[e0] at BJ;have o:=aOh;clear h hc
 have a49:CF (.fn 243) [.val (.slice (l.map gu.enc)),.val (.func 194 [.loc sto.objs.length 0])] ⟨sto.objs++[.box [.val (.func g [])]],sto.lo⟩=some (.ret (.val (.int .i64 (-1))),⟨sto.objs++[.box [.val (.func g [])]],sto.lo⟩):=by
  exact BP
 have hm:decide ((-1:Int)>=0)=false:=rfl;clear BJ
 have a8n:CF (.fn 193) [.val (.slice (l.map gu.enc)),.val (.func 194 [.loc sto.objs.length 0])] ⟨sto.objs++[.box [.val (.func g [])]],sto.lo⟩=some (.ret (.val (.bool false)),⟨sto.objs++[.box [.val (.func g [])]],sto.lo⟩):=by
  exact wk
 clear a49;exact G0
theorem aHc(n:Nat)(sto:AH)(ys:List ah):∀(pre:List ah),(pre++ys).length<AR->(∀x∈ys,CF (.fn 237) [.val (ah.enc x),.val (.loc n 0)] sto=some (.ret (.val (.bool false)),sto)) ->
  ∃s0 s1 s4 s5 s7 s8 s9 BH,LP 195 (aN Tryz.f195 0) ⟨[.val (.slice ((pre++ys).map ah.enc)),.val (.func 237 [.loc n 0]),.dead,.dead,.val (.int .i64 ((pre++ys).length:Nat)),.val (.int .i64 (pre.length:Nat)),.dead,.dead],sto⟩=some (.exit 0,⟨[s0,s1,s4,s5,s7,s8,s9,BH],sto⟩):=by
 induction ys with
 |nil =>
  intro pre h3 h2;have AL:=DK pre;simp only[Ao];clear h2;iterate 8 apply Exists.intro
  refine tI rfl ?_;exact wk;all_goals exact .dead
 |cons y ys ih =>
  intro pre h3 h2;have AN:=cQ ah.enc pre ys y;have AL:=CQ pre ys y;have h0:=zI pre.length;have hw:=wL pre ys y h3;have hc:=h2 y (by simp);obtain⟨s0,s1,s4,s5,s7,s8,s9,BH,ih⟩:=ih (pre++[y]) (by simpa using h3) (λx hx=>h2 x (by simp[hx]));simp only[Aj,Al] at ih;rw[dA y] at AN hc;refine⟨s0,s1,s4,s5,s7,s8,s9,BH,?_⟩;refine tI rfl ?_;clear h2;exact wk
theorem aOo:(ans 237).ownArg=[]:=by rw[M7]
theorem aWt(g:FuncId)(hg:(ans g).ownArg=[])(n:Nat)(sto:AH)(hn:sto.objs[n]?=some (.box [.val (.func g [])]))(x:ah)(h:∀L,CF (.fn g) [.val (ah.enc x)] ⟨sto.objs++L,sto.lo⟩=some (.ret (.val (.bool true)),⟨sto.objs++L,sto.lo⟩)):CF (.fn 237) [.val (ah.enc x),.val (.loc n 0)] sto=some (.ret (.val (.bool false)),sto):=by
 have h:=h [];rw[Ao] at h;rw[dA x] at h ⊢;exact wk
theorem WI(g:FuncId)(hg:(ans g).ownArg=[])(l:List ah)(hl:l.length<AR)(sto:AH)(AP:sto.lo<=sto.objs.length)(h:∀x∈l,∀S:AH,S.lo<=S.objs.length->CF (.fn g) [.val (ah.enc x)] S=some (.ret (.val (.bool true)),S)) :
  CF (.fn 189) [.val (.slice (l.map ah.enc)),.val (.func g [])] sto=some (.ret (.val (.bool true)),sto):=by
 have hc:=λx hx=>aWt g hg sto.objs.length ⟨sto.objs++[.box [.val (.func g [])]],sto.lo⟩ (by simp) x (λL=>h x hx _ (by simp;omega))
 obtain⟨s0,s1,s4,s5,s7,s8,s9,BH,BJ⟩:=aHc sto.objs.length ⟨sto.objs++[.box [.val (.func g [])]],sto.lo⟩ l [] (by simpa using hl) hc;simp only[Ai,Ap] at BJ;have e0:((0:Nat):Int)=0:=rfl;rw[e0] at BJ;have o:=aOo;clear h hc
 have a5b:CF (.fn 195) [.val (.slice (l.map ah.enc)),.val (.func 237 [.loc sto.objs.length 0])] ⟨sto.objs++[.box [.val (.func g [])]],sto.lo⟩=some (.ret (.val (.int .i64 (-1))),⟨sto.objs++[.box [.val (.func g [])]],sto.lo⟩):=by
  exact BP
 have hm:decide ((-1:Int)>=0)=false:=rfl;clear BJ
 have a8k:CF (.fn 130) [.val (.slice (l.map ah.enc)),.val (.func 237 [.loc sto.objs.length 0])] ⟨sto.objs++[.box [.val (.func g [])]],sto.lo⟩=some (.ret (.val (.bool false)),⟨sto.objs++[.box [.val (.func g [])]],sto.lo⟩):=by
  exact wk
 clear a5b;exact G0
theorem aHi(n:Nat)(sto:AH)(ys:List af):∀(pre:List af),(pre++ys).length<AR->(∀x∈ys,CF (.fn 232) [.val (af.enc x),.val (.loc n 0)] sto=some (.ret (.val (.bool false)),sto)) ->
  ∃s0 s1 s4 s5 s7 s8 s9 BH,LP 261 (aN Tryz.f261 0) ⟨[.val (.slice ((pre++ys).map af.enc)),.val (.func 232 [.loc n 0]),.dead,.dead,.val (.int .i64 ((pre++ys).length:Nat)),.val (.int .i64 (pre.length:Nat)),.dead,.dead],sto⟩=some (.exit 0,⟨[s0,s1,s4,s5,s7,s8,s9,BH],sto⟩):=by
 induction ys with
 |nil =>
  intro pre h3 h2;have AL:=DK pre;simp only[Ao];clear h2;iterate 8 apply Exists.intro
  refine tI rfl ?_;exact wk;all_goals exact .dead
 |cons y ys ih =>
  intro pre h3 h2;have AN:=cQ af.enc pre ys y;have AL:=CQ pre ys y;have h0:=zI pre.length;have hw:=wL pre ys y h3;have hc:=h2 y (by simp);obtain⟨s0,s1,s4,s5,s7,s8,s9,BH,ih⟩:=ih (pre++[y]) (by simpa using h3) (λx hx=>h2 x (by simp[hx]));simp only[Aj,Al] at ih;rw[y.aw] at AN hc;refine⟨s0,s1,s4,s5,s7,s8,s9,BH,?_⟩;refine tI rfl ?_;clear h2;exact wk
theorem aOk:(ans 232).ownArg=[]:=by rw[L_]
theorem aWp(g:FuncId)(hg:(ans g).ownArg=[])(n:Nat)(sto:AH)(hn:sto.objs[n]?=some (.box [.val (.func g [])]))(x:af)(h:∀L,CF (.fn g) [.val (af.enc x)] ⟨sto.objs++L,sto.lo⟩=some (.ret (.val (.bool true)),⟨sto.objs++L,sto.lo⟩)):CF (.fn 232) [.val (af.enc x),.val (.loc n 0)] sto=some (.ret (.val (.bool false)),sto):=by
 have h:=h [];rw[Ao] at h;rw[x.aw] at h ⊢;exact wk
theorem sg(g:FuncId)(hg:(ans g).ownArg=[])(l:List af)(hl:l.length<AR)(sto:AH)(AP:sto.lo<=sto.objs.length)(h:∀x∈l,∀S:AH,S.lo<=S.objs.length->CF (.fn g) [.val (af.enc x)] S=some (.ret (.val (.bool true)),S)) :
  CF (.fn 180) [.val (.slice (l.map af.enc)),.val (.func g [])] sto=some (.ret (.val (.bool true)),sto):=by
 have hc:=λx hx=>aWp g hg sto.objs.length ⟨sto.objs++[.box [.val (.func g [])]],sto.lo⟩ (by simp) x (λL=>h x hx _ (by simp;omega))
 obtain⟨s0,s1,s4,s5,s7,s8,s9,BH,BJ⟩:=aHi sto.objs.length ⟨sto.objs++[.box [.val (.func g [])]],sto.lo⟩ l [] (by simpa using hl) hc;simp only[Ai,Ap] at BJ;have e0:((0:Nat):Int)=0:=rfl;rw[e0] at BJ;have o:=aOk;clear h hc
 have a48:CF (.fn 261) [.val (.slice (l.map af.enc)),.val (.func 232 [.loc sto.objs.length 0])] ⟨sto.objs++[.box [.val (.func g [])]],sto.lo⟩=some (.ret (.val (.int .i64 (-1))),⟨sto.objs++[.box [.val (.func g [])]],sto.lo⟩):=by
  exact BP
 have hm:decide ((-1:Int)>=0)=false:=rfl;clear BJ
 have a8p:CF (.fn 231) [.val (.slice (l.map af.enc)),.val (.func 232 [.loc sto.objs.length 0])] ⟨sto.objs++[.box [.val (.func g [])]],sto.lo⟩=some (.ret (.val (.bool false)),⟨sto.objs++[.box [.val (.func g [])]],sto.lo⟩):=by
  exact wk
 clear a48;exact G0
theorem aHj(n:Nat)(sto:AH)(ys:List ag):∀(pre:List ag),(pre++ys).length<AR->(∀x∈ys,CF (.fn 234) [.val (ag.enc x),.val (.loc n 0)] sto=some (.ret (.val (.bool false)),sto)) ->
  ∃s0 s1 s4 s5 s7 s8 s9 BH,LP 262 (aN Tryz.f262 0) ⟨[.val (.slice ((pre++ys).map ag.enc)),.val (.func 234 [.loc n 0]),.dead,.dead,.val (.int .i64 ((pre++ys).length:Nat)),.val (.int .i64 (pre.length:Nat)),.dead,.dead],sto⟩=some (.exit 0,⟨[s0,s1,s4,s5,s7,s8,s9,BH],sto⟩):=by
 induction ys with
 |nil =>
  intro pre h3 h2;have AL:=DK pre;simp only[Ao];clear h2;iterate 8 apply Exists.intro
  refine tI rfl ?_;exact wk;all_goals exact .dead
 |cons y ys ih =>
  intro pre h3 h2;have AN:=cQ ag.enc pre ys y;have AL:=CQ pre ys y;have h0:=zI pre.length;have hw:=wL pre ys y h3;have hc:=h2 y (by simp);obtain⟨s0,s1,s4,s5,s7,s8,s9,BH,ih⟩:=ih (pre++[y]) (by simpa using h3) (λx hx=>h2 x (by simp[hx]));simp only[Aj,Al] at ih;rw[y.aw] at AN hc;refine⟨s0,s1,s4,s5,s7,s8,s9,BH,?_⟩;refine tI rfl ?_;clear h2;exact wk
theorem aOl:(ans 234).ownArg=[]:=by rw[Mu]
theorem aWq(g:FuncId)(hg:(ans g).ownArg=[])(n:Nat)(sto:AH)(hn:sto.objs[n]?=some (.box [.val (.func g [])]))(x:ag)(h:∀L,CF (.fn g) [.val (ag.enc x)] ⟨sto.objs++L,sto.lo⟩=some (.ret (.val (.bool true)),⟨sto.objs++L,sto.lo⟩)):CF (.fn 234) [.val (ag.enc x),.val (.loc n 0)] sto=some (.ret (.val (.bool false)),sto):=by
 have h:=h [];rw[Ao] at h;rw[x.aw] at h ⊢;exact wk
theorem Qp(g:FuncId)(hg:(ans g).ownArg=[])(l:List ag)(hl:l.length<AR)(sto:AH)(AP:sto.lo<=sto.objs.length)(h:∀x∈l,∀S:AH,S.lo<=S.objs.length->CF (.fn g) [.val (ag.enc x)] S=some (.ret (.val (.bool true)),S)) :
  CF (.fn 181) [.val (.slice (l.map ag.enc)),.val (.func g [])] sto=some (.ret (.val (.bool true)),sto):=by
 have hc:=λx hx=>aWq g hg sto.objs.length ⟨sto.objs++[.box [.val (.func g [])]],sto.lo⟩ (by simp) x (λL=>h x hx _ (by simp;omega))
 obtain⟨s0,s1,s4,s5,s7,s8,s9,BH,BJ⟩:=aHj sto.objs.length ⟨sto.objs++[.box [.val (.func g [])]],sto.lo⟩ l [] (by simpa using hl) hc;simp only[Ai,Ap] at BJ;have e0:((0:Nat):Int)=0:=rfl;rw[e0] at BJ;have o:=aOl;clear h hc
 have a47:CF (.fn 262) [.val (.slice (l.map ag.enc)),.val (.func 234 [.loc sto.objs.length 0])] ⟨sto.objs++[.box [.val (.func g [])]],sto.lo⟩=some (.ret (.val (.int .i64 (-1))),⟨sto.objs++[.box [.val (.func g [])]],sto.lo⟩):=by
  exact BP
 have hm:decide ((-1:Int)>=0)=false:=rfl;clear BJ
 have a8q:CF (.fn 233) [.val (.slice (l.map ag.enc)),.val (.func 234 [.loc sto.objs.length 0])] ⟨sto.objs++[.box [.val (.func g [])]],sto.lo⟩=some (.ret (.val (.bool false)),⟨sto.objs++[.box [.val (.func g [])]],sto.lo⟩):=by
  exact wk
 clear a47;exact G0
theorem aHk(n:Nat)(sto:AH)(ys:List (List UInt8)):∀(pre:List (List UInt8)),(pre++ys).length<AR->(∀x∈ys,CF (.fn 239) [.val (ae.str x),.val (.loc n 0)] sto=some (.ret (.val (.bool false)),sto)) ->
  ∃s0 s1 s4 s5 s7 s8 s9 BH,LP 263 (aN Tryz.f263 0) ⟨[.val (.slice ((pre++ys).map ae.str)),.val (.func 239 [.loc n 0]),.dead,.dead,.val (.int .i64 ((pre++ys).length:Nat)),.val (.int .i64 (pre.length:Nat)),.dead,.dead],sto⟩=some (.exit 0,⟨[s0,s1,s4,s5,s7,s8,s9,BH],sto⟩):=by
 induction ys with
 |nil =>
  intro pre h3 h2;have AL:=DK pre;simp only[Ao];clear h2;iterate 8 apply Exists.intro
  refine tI rfl ?_;exact wk;all_goals exact .dead
 |cons y ys ih =>
  intro pre h3 h2;have AN:=cQ ae.str pre ys y;have AL:=CQ pre ys y;have h0:=zI pre.length;have hw:=wL pre ys y h3;have hc:=h2 y (by simp);obtain⟨s0,s1,s4,s5,s7,s8,s9,BH,ih⟩:=ih (pre++[y]) (by simpa using h3) (λx hx=>h2 x (by simp[hx]));simp only[Aj,Al] at ih;refine⟨s0,s1,s4,s5,s7,s8,s9,BH,?_⟩;refine tI rfl ?_;clear h2;exact wk
theorem aOp:(ans 239).ownArg=[]:=by rw[aKa]
theorem aWu(g:FuncId)(hg:(ans g).ownArg=[])(n:Nat)(sto:AH)(hn:sto.objs[n]?=some (.box [.val (.func g [])]))(x:(List UInt8))(h:∀L,CF (.fn g) [.val (ae.str x)] ⟨sto.objs++L,sto.lo⟩=some (.ret (.val (.bool true)),⟨sto.objs++L,sto.lo⟩)):CF (.fn 239) [.val (ae.str x),.val (.loc n 0)] sto=some (.ret (.val (.bool false)),sto):=by
 have h:=h [];rw[Ao] at h;exact wk
theorem aWi(g:FuncId)(hg:(ans g).ownArg=[])(l:List (List UInt8))(hl:l.length<AR)(sto:AH)(AP:sto.lo<=sto.objs.length)(h:∀x∈l,∀S:AH,S.lo<=S.objs.length->CF (.fn g) [.val (ae.str x)] S=some (.ret (.val (.bool true)),S)) :
  CF (.fn 190) [.val (.slice (l.map ae.str)),.val (.func g [])] sto=some (.ret (.val (.bool true)),sto):=by
 have hc:=λx hx=>aWu g hg sto.objs.length ⟨sto.objs++[.box [.val (.func g [])]],sto.lo⟩ (by simp) x (λL=>h x hx _ (by simp;omega))
 obtain⟨s0,s1,s4,s5,s7,s8,s9,BH,BJ⟩:=aHk sto.objs.length ⟨sto.objs++[.box [.val (.func g [])]],sto.lo⟩ l [] (by simpa using hl) hc;simp only[Ai,Ap] at BJ;have e0:((0:Nat):Int)=0:=rfl;rw[e0] at BJ;have o:=aOp;clear h hc
 have a46:CF (.fn 263) [.val (.slice (l.map ae.str)),.val (.func 239 [.loc sto.objs.length 0])] ⟨sto.objs++[.box [.val (.func g [])]],sto.lo⟩=some (.ret (.val (.int .i64 (-1))),⟨sto.objs++[.box [.val (.func g [])]],sto.lo⟩):=by
  exact BP
 have hm:decide ((-1:Int)>=0)=false:=rfl;clear BJ
 have a8r:CF (.fn 238) [.val (.slice (l.map ae.str)),.val (.func 239 [.loc sto.objs.length 0])] ⟨sto.objs++[.box [.val (.func g [])]],sto.lo⟩=some (.ret (.val (.bool false)),⟨sto.objs++[.box [.val (.func g [])]],sto.lo⟩):=by
  exact wk
 clear a46;exact G0
theorem aHd(n:Nat)(sto:AH)(ys:List gf):∀(pre:List gf),(pre++ys).length<AR->(∀x∈ys,CF (.fn 241) [.val (gf.enc x),.val (.loc n 0)] sto=some (.ret (.val (.bool false)),sto)) ->
  ∃s0 s1 s4 s5 s7 s8 s9 BH,LP 214 (aN Tryz.f214 0) ⟨[.val (.slice ((pre++ys).map gf.enc)),.val (.func 241 [.loc n 0]),.dead,.dead,.val (.int .i64 ((pre++ys).length:Nat)),.val (.int .i64 (pre.length:Nat)),.dead,.dead],sto⟩=some (.exit 0,⟨[s0,s1,s4,s5,s7,s8,s9,BH],sto⟩):=by
 induction ys with
 |nil =>
  intro pre h3 h2;have AL:=DK pre;simp only[Ao];clear h2;iterate 8 apply Exists.intro
  refine tI rfl ?_;exact wk;all_goals exact .dead
 |cons y ys ih =>
  intro pre h3 h2;have AN:=cQ gf.enc pre ys y;have AL:=CQ pre ys y;have h0:=zI pre.length;have hw:=wL pre ys y h3;have hc:=h2 y (by simp);obtain⟨s0,s1,s4,s5,s7,s8,s9,BH,ih⟩:=ih (pre++[y]) (by simpa using h3) (λx hx=>h2 x (by simp[hx]));simp only[Aj,Al] at ih;rw[y.aw] at AN hc;refine⟨s0,s1,s4,s5,s7,s8,s9,BH,?_⟩;refine tI rfl ?_;clear h2;exact wk
theorem aOq:(ans 241).ownArg=[]:=by rw[aKb]
theorem aWv(g:FuncId)(hg:(ans g).ownArg=[])(n:Nat)(sto:AH)(hn:sto.objs[n]?=some (.box [.val (.func g [])]))(x:gf)(h:∀L,CF (.fn g) [.val (gf.enc x)] ⟨sto.objs++L,sto.lo⟩=some (.ret (.val (.bool true)),⟨sto.objs++L,sto.lo⟩)):CF (.fn 241) [.val (gf.enc x),.val (.loc n 0)] sto=some (.ret (.val (.bool false)),sto):=by
 have h:=h [];rw[Ao] at h;rw[x.aw] at h ⊢;exact wk
theorem aWj(g:FuncId)(hg:(ans g).ownArg=[])(l:List gf)(hl:l.length<AR)(sto:AH)(AP:sto.lo<=sto.objs.length)(h:∀x∈l,∀S:AH,S.lo<=S.objs.length->CF (.fn g) [.val (gf.enc x)] S=some (.ret (.val (.bool true)),S)) :
  CF (.fn 191) [.val (.slice (l.map gf.enc)),.val (.func g [])] sto=some (.ret (.val (.bool true)),sto):=by
 have hc:=λx hx=>aWv g hg sto.objs.length ⟨sto.objs++[.box [.val (.func g [])]],sto.lo⟩ (by simp) x (λL=>h x hx _ (by simp;omega))
 obtain⟨s0,s1,s4,s5,s7,s8,s9,BH,BJ⟩:=aHd sto.objs.length ⟨sto.objs++[.box [.val (.func g [])]],sto.lo⟩ l [] (by simpa using hl) hc;simp only[Ai,Ap] at BJ;have e0:((0:Nat):Int)=0:=rfl;rw[e0] at BJ;have o:=aOq;clear h hc
 have a5a:CF (.fn 214) [.val (.slice (l.map gf.enc)),.val (.func 241 [.loc sto.objs.length 0])] ⟨sto.objs++[.box [.val (.func g [])]],sto.lo⟩=some (.ret (.val (.int .i64 (-1))),⟨sto.objs++[.box [.val (.func g [])]],sto.lo⟩):=by
  exact BP
 have hm:decide ((-1:Int)>=0)=false:=rfl;clear BJ
 have a8s:CF (.fn 240) [.val (.slice (l.map gf.enc)),.val (.func 241 [.loc sto.objs.length 0])] ⟨sto.objs++[.box [.val (.func g [])]],sto.lo⟩=some (.ret (.val (.bool false)),⟨sto.objs++[.box [.val (.func g [])]],sto.lo⟩):=by
  exact wk
 clear a5a;exact G0
theorem lF(t:TypeId)(v:ae):(ae.iface t v).cells=[.iface t v]:=rfl
theorem cw:ae.fh.cells=[.fh]:=rfl
theorem qB(v:ae):(ae.ay v).cells=[.ay v]:=rfl
theorem QW(t:TypeId)(f a:List UInt8)(b e:ae):(ae.rc t f a b e).cells=[.rc t f a b e]:=rfl
theorem aq.cells(e:aq):e.enc.cells=[e.enc]:=by cases e<;>simp only[aq.sh,aq.oX,aq.oa]<;>rfl
theorem aq.flat(e:aq):AM.flat e.enc=true:=by cases e<;>simp only[aq.sh,aq.oX,aq.oa]<;>rfl
theorem aq.clean(e:aq):AM.clean e.enc=true:=by cases e<;>simp only[aq.sh,aq.oX,aq.oa]<;>rfl
theorem aq.fw(e:aq):mF (.val e.enc)=true:=by cases e<;>simp only[aq.sh,aq.oX,aq.oa]<;>rfl
theorem Zy(e:aq)(s:List UInt8)(i:au)(sto:AH):CF (.fn 102) [.val e.enc,.val (.str s),.val i.enc] sto=some (.ret (.val (aq.cons s i e).enc),sto):=by
 have h1:=e.clean;have h2:=e.flat;have h3:=e.fw;have h6:=e.cells;rw[aq.oX];obtain⟨t,v,hi,hf,hc⟩:=i.form;rw[hi];have h4:mF (.val (.iface t v))=true:=by simp only[mF,Cell.get,AM.flat,hf];rfl
 have h5:mF (.val (.str s))=true:=rfl;generalize e.enc=E at *;clear hi;refine VS ?_;exact jZ rfl
theorem Zt{t:TypeId}{v:ae}(n:Nat)(h:AM.clean v=true):AM.ct n (.iface t v)=true:=by simp only[AM.ct,js,h,Bool.true_or]
theorem ep(s:List UInt8)(sto:AH)(i:au):∀(e:aq),e.find s=some i->∃s0 s1 s6 BH,LP 158 (aN Tryz.f158 0) ⟨[.val e.enc,.val (.str s),.val .fh,.dead,.dead],sto⟩=some (.ret,⟨[s0,s1,.val i.enc,s6,BH],sto⟩)
 |.nil,h=>by simp[aq.find] at h
 |.cons n j o,h=>by
  simp only[aq.find] at h;rw[aq.oX];obtain⟨t,v,hj,hf,hc⟩:=j.form;cases hb:n==s with
  |true =>
   rw[hb,Bo] at h;cases h;rw[hj];clear hj;generalize o.enc=E;iterate 4 apply Exists.intro
   refine tI rfl ?_;exact wk;all_goals exact .dead
  |false =>
   rw[hb,Bh] at h;rw[hj];obtain⟨s0,s1,s6,BH,ih⟩:=ep s sto i o h;have h1:=o.clean;have h2:=o.flat;have h3:=o.cells;generalize o.enc=E at *;clear hj;refine⟨s0,s1,s6,BH,?_⟩;refine tI rfl ?_;exact wk
 |.rc f a b o,h=>by
  simp only[aq.find] at h;rw[aq.oa];cases hb:f==s with
  |true =>
   rw[hb,Bo] at h;cases h;rw[au.tp,aq.oa];generalize o.enc=E;generalize b.enc=B;iterate 4 apply Exists.intro
   refine tI rfl ?_;exact wk;all_goals exact .dead
  |false =>
   rw[hb,Bh] at h;obtain⟨s0,s1,s6,BH,ih⟩:=ep s sto i o h;have h1:=o.clean;have h2:=o.flat;have h3:=o.cells;generalize o.enc=E at *;generalize b.enc=B;refine⟨s0,s1,s6,BH,?_⟩;refine tI rfl ?_;exact wk
theorem aV4(s:List UInt8)(sto:AH)(i:au)(e:aq)(h:e.find s=some i):CF (.fn 158) [.val e.enc,.val (.str s)] sto=some (.ret (.val i.enc),sto):=by
 obtain⟨s0,s1,s6,BH,hl⟩:=ep s sto i e h;obtain⟨t,v,hi,hf,hc⟩:=i.form;rw[hi] at hl ⊢;generalize e.enc=E at *;clear hi h;refine GZ ?_;exact jZ (finVal rfl rfl rfl (Zt _ hc))
theorem iP{P:Program}{an:AF}{fn:Func}{n:Nat}{tm:List Slot}{sto:AH}{v w:ae}{t u:Nat}(h1:an.ownRes=false)(h2:fn.results.toList=[.tmp t,.tmp u])(h3:bg an.keep tm t=.val v)(h4:bg an.keep tm u=.val w)(h5:ct n v=true)(h6:ct n w=true) :
  finish P an fn n ⟨tm,sto⟩=some (.ret (.aj [v,w]),⟨sto.objs.take n,sto.lo⟩):=by
 simp only[finish,h1,h2,fG,h3,h4,DS,trim,cF,Fh,List.all_nil,h5,h6,Bool.and_self,Bo]
theorem aq.ct(e:aq)(n:Nat):AM.ct n e.enc=true:=by cases e<;>simp only[aq.sh,aq.oX,aq.oa]<;>rfl
theorem aWD(b:Bool)(n:Nat):AM.ct n (.bool b)=true:=rfl
theorem aWx(n:Int)(x:ae)(e:aq)(sto:AH):CF (.fn 371) [.val (.int .i64 n),.val x,.val e.enc] sto=some (.ret (.aj [e.enc,.bool false]),sto):=by
 have h:=λn=>e.ct n
 generalize e.enc=E at *;refine GZ ?_;exact jZ (iP rfl rfl rfl rfl (h _) rfl)
theorem aWw(y x:ae)(e:aq)(sto:AH):CF (.fn 370) [.val (.ay y),.val x,.val e.enc] sto=some (.ret (.aj [e.enc,.bool false]),sto):=by
 have h:=λn=>e.ct n
 generalize e.enc=E at *;refine GZ ?_;exact jZ (iP rfl rfl rfl rfl (h _) rfl)
theorem aNJ(p:ag)(x:au)(e:aq):p.jd x e=bif p.kind==1 then(e,true) else bif p.kind==2 then(.cons p.name x e,true) else match x with
  |.mk c l=>bif c==p.name&&l.length==p.args.length then ag.kM p.args l e else(e,false)
  |_=>(e,false):=by
 cases p;cases x<;>rw[ag.jd]<;>first|rfl|(intro _ _ h;cases h)
theorem a0g(p:ag)(ps:List ag)(x:au)(xs:List au)(e:aq):ag.kM (p::ps) (x::xs) e=bif (p.jd x e).2 then ag.kM ps xs (p.jd x e).1 else((p.jd x e).1,false):=by rw[ag.kM]
theorem a1S(xs:List au)(e:aq):ag.kM [] xs e=(e,true):=by cases xs<;>rw[ag.kM]<;>simp
def Sj(p:ag):Prop:=∀(x:au)(e:aq)(sto:AH),CF (.fn 217) [.val (.ay p.enc),.val x.enc,.val e.enc] sto=some (.ret (.aj [(p.jd x e).1.enc,.bool (p.jd x e).2]),sto)
theorem aD0(c n:List UInt8)(k:Int)(sto:AH)(ys:List ag):∀(zs:List au)(pre:List ag)(DU:List au)(e:aq),pre.length=DU.length->ys.length=zs.length->(pre++ys).length<AR->(ag.kM ys zs e).2=true->(∀y∈ys,Sj y) ->
  ∃s0 s1 s6 s7 s8 s9 FH Kt Ib Ia Ks,LP 372 (aN Tryz.f372 0) ⟨[.val (.ay (.agg [.str c,.slice ((DU++zs).map au.enc)])),.val (.ay (.agg [.int .i64 k,.str n,.slice ((pre++ys).map ag.enc)])),.val e.enc,.dead,.dead,.dead,.dead,.dead,.val (.int .i64 ((pre++ys).length:Nat)),.val (.int .i64 (pre.length:Nat)),.dead,.dead],sto⟩ =
   some (.exit 0,⟨[s0,s1,.val (ag.kM ys zs e).1.enc,s6,s7,s8,s9,FH,Kt,Ib,Ia,Ks],sto⟩):=by
 induction ys with
 |nil =>
  intro zs pre DU e ED hl h3 hm h4;have AL:=DK pre;simp only[Ao,a1S];clear h4 hm ED hl;iterate 11 apply Exists.intro
  refine tI rfl ?_;exact wk;all_goals exact .dead
 |cons y ys ih =>
  intro zs pre DU e ED hl h3 hm h4;cases zs with
  |nil=>simp at hl
  |cons z zs =>
  have AN:=cQ ag.enc pre ys y;have B8:=cQ au.enc DU zs z;rw[<-ED] at B8;have AL:=CQ pre ys y;have h0:=zI pre.length;have hw:=wL pre ys y h3;have hc:=h4 y (by simp) z e sto;rw[a0g] at hm ⊢;cases hb:(y.jd z e).2 with
  |false=>rw[hb] at hm;cases hm
  |true =>
  rw[hb,Bo] at hm;simp only[Bo];rw[hb] at hc;obtain⟨s0,s1,s6,s7,s8,s9,FH,Kt,Ib,Ia,Ks,ih⟩:=ih zs (pre++[y]) (DU++[z]) (y.jd z e).1 (by simp[ED]) (by simpa using hl) (by simpa using h3) hm (λx hx=>h4 x (by simp[hx]));simp only[Aj,Al] at ih;obtain⟨t,v,hz,hf,BQ⟩:=z.form;have e1:=e.clean;have e2:=e.flat;have e3:=e.cells;have f1:=(y.jd z e).1.clean;have f2:=(y.jd z e).1.flat;have f3:=(y.jd z e).1.cells;rw[y.aw] at AN hc;rw[hz] at B8 hc;refine⟨s0,s1,s6,s7,s8,s9,FH,Kt,Ib,Ia,Ks,?_⟩;refine tI rfl ?_;generalize e.enc=E at *;generalize(y.jd z e).1.enc=E' at *;clear h4 hz hm hl ED;exact BP
theorem aDZ(c n:List UInt8)(k:Int)(sto:AH)(ys:List ag):∀(zs:List au)(pre:List ag)(DU:List au)(e:aq),pre.length=DU.length->ys.length=zs.length->(pre++ys).length<AR->(ag.kM ys zs e).2=false->(∀y∈ys,Sj y) ->
  ∃s0 s1 s2 s8 s9 FH Kt Ib Ia Ks,LP 372 (aN Tryz.f372 0) ⟨[.val (.ay (.agg [.str c,.slice ((DU++zs).map au.enc)])),.val (.ay (.agg [.int .i64 k,.str n,.slice ((pre++ys).map ag.enc)])),.val e.enc,.dead,.dead,.dead,.dead,.dead,.val (.int .i64 ((pre++ys).length:Nat)),.val (.int .i64 (pre.length:Nat)),.dead,.dead],sto⟩ =
   some (.ret,⟨[s0,s1,s2,.val (ag.kM ys zs e).1.enc,.val (.bool false),s8,s9,FH,Kt,Ib,Ia,Ks],sto⟩):=by
 induction ys with
 |nil =>
  intro zs pre DU e ED hl h3 hm h4;rw[a1S] at hm;cases hm
 |cons y ys ih =>
  intro zs pre DU e ED hl h3 hm h4;cases zs with
  |nil=>simp at hl
  |cons z zs =>
  have AN:=cQ ag.enc pre ys y;have B8:=cQ au.enc DU zs z;rw[<-ED] at B8;have AL:=CQ pre ys y;have h0:=zI pre.length;have hw:=wL pre ys y h3;have hc:=h4 y (by simp) z e sto;rw[a0g] at hm ⊢;obtain⟨t,v,hz,hf,BQ⟩:=z.form;have e1:=e.clean;have e2:=e.flat;have e3:=e.cells;have f1:=(y.jd z e).1.clean;have f2:=(y.jd z e).1.flat;have f3:=(y.jd z e).1.cells;cases hb:(y.jd z e).2 with
  |false =>
   simp only[Bh];rw[hb] at hc;rw[y.aw] at AN hc;rw[hz] at B8 hc;generalize e.enc=E at *;generalize(y.jd z e).1.enc=E' at *;clear h4 hz hm hl ED ih;iterate 10 apply Exists.intro
   refine tI rfl ?_;exact BP;all_goals exact .dead
  |true =>
  rw[hb,Bo] at hm;simp only[Bo];rw[hb] at hc;obtain⟨s0,s1,s2,s8,s9,FH,Kt,Ib,Ia,Ks,ih⟩:=ih zs (pre++[y]) (DU++[z]) (y.jd z e).1 (by simp[ED]) (by simpa using hl) (by simpa using h3) hm (λx hx=>h4 x (by simp[hx]));simp only[Aj,Al] at ih;rw[y.aw] at AN hc;rw[hz] at B8 hc;refine⟨s0,s1,s2,s8,s9,FH,Kt,Ib,Ia,Ks,?_⟩;refine tI rfl ?_;generalize e.enc=E at *;generalize(y.jd z e).1.enc=E' at *;clear h4 hz hm hl ED;exact BP
theorem aWy(p:ag)(hs:p.size<AR)(h:∀y∈p.args,Sj y)(c:List UInt8)(l:List au)(e:aq)(sto:AH)(r:aq×Bool)(hr:r=bif c==p.name&&l.length==p.args.length then ag.kM p.args l e else(e,false)) :
  CF (.fn 372) [.val (.ay (.agg [.str c,.slice (l.map au.enc)])),.val (.ay p.enc),.val e.enc] sto=some (.ret (.aj [r.1.enc,.bool r.2]),sto):=by
 have hk:=λ(e:aq) n=>e.ct n
 have CV:=p.p_;cases h1:c==p.name with
 |false =>
  have Kf:(c != p.name)=true:=by simp[bne,h1]
  rw[h1,Et,Bh] at hr;subst hr;rw[p.aw];have hk:=λn=>e.ct n
  generalize e.enc=E at *;clear h;refine l9 ?_;exact jZ (iP rfl rfl rfl rfl (hk _) rfl)
 |true =>
  have Kf:(c != p.name)=false:=by simp[bne,h1]
  rw[h1,Gk] at hr;cases h2:l.length==p.args.length with
  |false =>
   have Nk:(((l.length:Nat):Int) != ((p.args.length:Nat):Int))=true:=by
    have:l.length≠p.args.length:=by simpa using h2
    simp;omega
   rw[h2,Bh] at hr;subst hr;rw[p.aw];have hk:=λn=>e.ct n
   generalize e.enc=E at *;clear h h2;refine l9 ?_;exact jZ (iP rfl rfl rfl rfl (hk _) rfl)
  |true =>
   have un:l.length=p.args.length:=by simpa using h2
   have Nk:(((l.length:Nat):Int) != ((p.args.length:Nat):Int))=false:=by simp[un]
   rw[h2,Bo] at hr;subst hr;rw[p.aw];have hk:=λn=>(ag.kM p.args l e).1.ct n
   cases h3:(ag.kM p.args l e).2 with
   |true =>
    obtain⟨s0,s1,s6,s7,s8,s9,FH,Kt,Ib,Ia,Ks,hl⟩:=aD0 c p.name p.kind sto p.args l [] [] e rfl un.symm (by simp only[Ai];omega) h3 h;simp only[Ai,Ap] at hl;have e0:((0:Nat):Int)=0:=rfl;rw[e0] at hl;generalize(ag.kM p.args l e).1.enc=E' at *;generalize e.enc=E at *;clear h h2 un;refine l9 ?_;exact jZ (iP rfl rfl rfl rfl (hk _) rfl)
   |false =>
    obtain⟨s0,s1,s2,s8,s9,FH,Kt,Ib,Ia,Ks,hl⟩:=aDZ c p.name p.kind sto p.args l [] [] e rfl un.symm (by simp only[Ai];omega) h3 h;simp only[Ai,Ap] at hl;have e0:((0:Nat):Int)=0:=rfl;rw[e0] at hl;generalize(ag.kM p.args l e).1.enc=E' at *;generalize e.enc=E at *;clear h h2 un;refine l9 ?_;exact jZ (iP rfl rfl rfl rfl (hk _) rfl)
theorem aWm:∀p:ag,p.size<AR->Sj p:=by
 intro p;induction p using ag.ind with
 |h p ih =>
  intro hs x e sto;have hk:=λ(e:aq) n=>e.ct n
  rw[aNJ];cases h1:p.kind==1 with
  |true =>
   simp only[Bo];rw[p.aw];have hk:=λn=>e.ct n
   obtain⟨t,v,hx,hf,BQ⟩:=x.form;rw[hx];generalize e.enc=E at *;clear ih hx;refine GZ ?_;exact jZ (iP rfl rfl rfl rfl (hk _) rfl)
  |false =>
  cases h2:p.kind==2 with
  |true =>
   simp only[Bo,Bh];have hc:=Zy e p.name x;rw[p.aw];have hk:=λn=>(aq.cons p.name x e).ct n
   obtain⟨t,v,hx,hf,BQ⟩:=x.form;rw[hx] at hc ⊢;generalize(aq.cons p.name x e).enc=E' at *;generalize e.enc=E at *;clear ih hx;refine GZ ?_;exact jZ (iP rfl rfl rfl rfl (hk _) rfl)
  |false =>
  simp only[Bh];have hk:=λn=>e.ct n
  cases x with
  |num n =>
   have hc:=aWx n (.ay p.enc) e;rw[au.qb]
   dsimp only
   rw[p.aw] at hc ⊢;generalize e.enc=E at *;clear ih;refine GZ ?_;exact jZ (iP rfl rfl rfl rfl (hk _) rfl)
  |fn a b c =>
   have hc:=aWw (.agg [.str a,.ay b.enc,c.enc]) (.ay p.enc) e;rw[au.tp]
   dsimp only
   rw[p.aw] at hc ⊢;generalize c.enc=E2 at *;generalize b.enc=B at *;generalize e.enc=E at *;clear ih;refine GZ ?_;exact jZ (iP rfl rfl rfl rfl (hk _) rfl)
  |mk c l =>
   have hc:=λsto=>aWy p hs (λy hy=>ih y hy (by have:=ag.m7 hy;omega)) c l e sto _ rfl
   dsimp only
   generalize(bif c==p.name&&l.length==p.args.length then ag.kM p.args l e else(e,false))=r at *;have Mn:=λn=>r.1.ct n
   rw[au.ce];rw[p.aw] at hc ⊢;generalize r.1.enc=E' at *;generalize e.enc=E at *;clear ih;refine GZ ?_;exact jZ (iP rfl rfl rfl rfl (Mn _) (aWD _ _))
theorem aG9(x:af)(v:au)(e:aq)(sto:AH)(b:af)(e':aq)(hx:ag.f_ x.ez<AR)(ys:List ag):∀(pre:List ag)(zs Ns:List af),pre.length+1=Ns.length->x.ez=pre++ys->x.args=Ns++zs->jh ys zs v e=some (b,e') ->
  ∃s0 s1 s2 s8 s9 s10 D9 BH B5 FH,LP 161 (aN Tryz.f161 0) ⟨[.val (.ay (.agg [.int .i64 x.kind,.int .i64 x.num,.str x.name,.str x.arg,.slice (x.args.map af.enc),.slice (x.ez.map ag.enc)])),.val v.enc,.val e.enc,.val .cW,.val .cW,.dead,.dead,.dead,.val (.int .i64 (x.ez.length:Nat)),.val (.int .i64 (pre.length:Nat)),.dead,.dead],sto⟩ =
   some (.ret,⟨[s0,s1,s2,.val (.ay b.enc),.val e'.enc,s8,s9,s10,D9,BH,B5,FH],sto⟩):=by
 induction ys with
 |nil=>intro pre zs Ns hl hp ha h;cases zs<;>simp[jh] at h
 |cons y ys ih =>
  intro pre zs Ns hl hp ha h;cases zs with
  |nil=>simp[jh] at h
  |cons z zs =>
  have N3:=ag.tM x.ez;have AN:=cQ ag.enc pre ys y;have B8:=cQ af.enc Ns zs z;rw[<-hl] at B8;have AL:=CQ pre ys y;have h0:=zI pre.length;have Y2:=zI (pre.length+1);have hw:=wL pre ys y (by rw[<-hp];omega);simp only[Bc,Ak,Ap,Bs] at hw;have hc:=aWm y (by have:=ag.qk (t:=y) (l:=x.ez) (by rw[hp];simp);omega) v e sto;rw[<-hp] at AN AL;rw[<-ha] at B8;obtain⟨t,w,hv,hf,BQ⟩:=v.form;have e1:=e.clean;have e2:=e.flat;have e3:=e.cells;have f1:=(y.jd v e).1.clean;have f2:=(y.jd v e).1.flat;have f3:=(y.jd v e).1.cells;simp only[jh] at h;cases hb:(y.jd v e).2 with
  |true =>
   rw[hb,Bo] at h;simp only[Am,Bq] at h;obtain⟨h1,h2⟩:=h;subst h1 h2;rw[hb] at hc;rw[y.aw] at AN hc;rw[z.aw] at B8 ⊢;rw[hv] at hc ⊢;generalize(y.jd v e).1.enc=E' at *;generalize e.enc=E at *;clear hv hl hp ha ih;iterate 10 apply Exists.intro
   refine tI rfl ?_;exact BP;all_goals exact .dead
  |false =>
   rw[hb,Bh] at h;rw[hb] at hc;obtain⟨s0,s1,s2,s8,s9,s10,D9,BH,B5,FH,ih⟩:=ih (pre++[y]) zs (Ns++[z]) (by simp[hl]) (by simp[hp]) (by simp[ha]) h;simp only[Bc,Ak,Ap,Bs] at ih;rw[y.aw] at AN hc;rw[hv] at hc ih ⊢;generalize(y.jd v e).1.enc=E' at *;generalize e.enc=E at *;clear hv hl hp ha;refine⟨s0,s1,s2,s8,s9,s10,D9,BH,B5,FH,?_⟩;refine tI rfl ?_;exact BP
theorem aWE(v:ae)(n:Nat):AM.ct n (.ay v)=true:=rfl
theorem aV6(x:af)(hx:ag.f_ x.ez<AR)(b0:af)(al:List af)(ha:x.args=b0::al)(v:au)(e:aq)(b:af)(e':aq)(h:jh x.ez al v e=some (b,e'))(sto:AH) :
  CF (.fn 161) [.val (.ay x.enc),.val v.enc,.val e.enc] sto=some (.ret (.aj [.ay b.enc,e'.enc]),sto):=by
 obtain⟨s0,s1,s2,s8,s9,s10,D9,BH,B5,FH,hl⟩:=aG9 x v e sto b e' hx x.ez [] al [b0] rfl rfl ha h;simp only[Ap] at hl;have e0:((0:Nat):Int)=0:=rfl;rw[e0] at hl;have hk:=λn=>e'.ct n
 obtain⟨t,w,hv,hf,BQ⟩:=v.form;rw[x.aw];rw[hv] at hl ⊢;generalize e'.enc=E' at *;generalize e.enc=E at *;generalize b.enc=B at *;clear hv ha h;apply tA;rfl;rfl;exact Tryz.func161;rfl;rfl;simp only[go_sem];rfl;refine tQ ?_;repeat first|with_reducible constructor|with_reducible refine tW rfl ?_|((with_reducible apply tG);(·kernel_rfl);(·(intro _ _;(repeat (apply BL;(·(intro _;simp only[*,go_sem,Nat.reduceAdd,reduceIte,Ay,partOf];rfl))));rfl));(·(simp only[go_sem];rfl)))|((with_reducible apply t1);(·(simp only[go_sem];rfl));(·rfl))|((with_reducible apply t0);(·(simp only[go_sem];rfl));(·rfl))|((with_reducible apply tl);(·assumption))
 exact jZ (iP rfl rfl rfl rfl (aWE _ _) (hk _))
theorem Zi(b:Bool)(sto:AH):CF (.fn 252) [.val (.bool b)] sto=some (.ret (.val (.agg [.str (bif b then rF else lI),.int .i64 0,.slice []])),sto):=by
 cases b with
 |true =>
  simp only[Bo,rF];exact wk
 |false =>
  simp only[Bh,lI];exact wk
theorem aSc(x y:Int)(sto:AH):CF (.fn 216) [.val (.str [43]),.val (.int .i64 x),.val (.int .i64 y)] sto=some (.ret (.aj [.agg [.str [],.int .i64 (IntKind.i64.wrap (x+y)),.slice []],.int .i64 0]),sto):=by
 exact wk
theorem aSb(x y:Int)(sto:AH):CF (.fn 216) [.val (.str [45]),.val (.int .i64 x),.val (.int .i64 y)] sto=some (.ret (.aj [.agg [.str [],.int .i64 (IntKind.i64.wrap (x-y)),.slice []],.int .i64 0]),sto):=by
 exact wk
theorem aSa(x y:Int)(sto:AH):CF (.fn 216) [.val (.str [60]),.val (.int .i64 x),.val (.int .i64 y)] sto=some (.ret (.aj [.agg [.str (bif decide (x<y) then rF else lI),.int .i64 0,.slice []],.int .i64 0]),sto):=by
 have h:=Zi (decide (x<y));generalize(bif decide (x<y) then rF else lI)=r at *;exact wk
theorem aR9(x y:Int)(sto:AH):CF (.fn 216) [.val (.str [61]),.val (.int .i64 x),.val (.int .i64 y)] sto=some (.ret (.aj [.agg [.str (bif x==y then rF else lI),.int .i64 0,.slice []],.int .i64 0]),sto):=by
 have h:=Zi (x==y);generalize(bif x==y then rF else lI)=r at *;exact wk
theorem aKl(s:List UInt8)(x y n:Int)(sto:AH)(h:∀S,CF (.fn 216) [.val (.str s),.val (.int .i64 x),.val (.int .i64 y)] S=some (.ret (.aj [.agg [.str [],.int .i64 n,.slice []],.int .i64 0]),S)) :
  CF (.fn 160) [.val (.str s),.val (.iface 210 (.int .i64 x)),.val (.iface 210 (.int .i64 y))] sto=some (.ret (.val (.iface 210 (.int .i64 n))),sto):=by
 exact wk
theorem aKm(s:List UInt8)(x y:Int)(r:List UInt8)(hr:(r==[])=false)(sto:AH)(h:∀S,CF (.fn 216) [.val (.str s),.val (.int .i64 x),.val (.int .i64 y)] S=some (.ret (.aj [.agg [.str r,.int .i64 0,.slice []],.int .i64 0]),S)) :
  CF (.fn 160) [.val (.str s),.val (.iface 210 (.int .i64 x)),.val (.iface 210 (.int .i64 y))] sto=some (.ret (.val (.iface 211 (.ay (.agg [.str r,.slice []])))),sto):=by
 exact BP
theorem aV5(s:List UInt8)(x y:Int)(v:au)(hv:MV s x y=some v)(sto:AH):CF (.fn 160) [.val (.str s),.val (au.num x).enc,.val (au.num y).enc] sto=some (.ret (.val v.enc),sto):=by
 unfold MV at hv;rw[au.qb,au.qb];cases h1:s==[43] with
 |true =>
  rw[h1,Bo] at hv;cases hv;obtain rfl:=Cb.1 h1;rw[au.qb];exact aKl _ x y _ sto (aSc x y)
 |false =>
 rw[h1,Bh] at hv;cases h2:s==[45] with
 |true =>
  rw[h2,Bo] at hv;cases hv;obtain rfl:=Cb.1 h2;rw[au.qb];exact aKl _ x y _ sto (aSb x y)
 |false =>
 rw[h2,Bh] at hv;cases h3:s==[60] with
 |true =>
  rw[h3,Bo] at hv;cases hv;obtain rfl:=Cb.1 h3;rw[au.ce];exact aKm _ x y _ (by cases decide (x<y)<;>rfl) sto (aSa x y)
 |false =>
 rw[h3,Bh] at hv;cases h4:s==[61] with
 |true =>
  rw[h4,Bo] at hv;cases hv;obtain rfl:=Cb.1 h4;rw[au.ce];exact aKm _ x y _ (by cases x==y<;>rfl) sto (aR9 x y)
 |false=>rw[h4] at hv;cases hv
end Go.Proofs.YtoiocfngjchdiaaGreatDoor
