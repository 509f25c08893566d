import Derived.Test.YtoiocfngjchdiaaGreatDoorT03
set_option linter.all false
set_option maxRecDepth 100000
set_option maxHeartbeats 32000000
namespace Go.Proofs.YtoiocfngjchdiaaGreatDoor
open Go.AM
variable [h_]
def HX:List gf->Nat
 |[]=>0
 |c::l=>max (ah.az c.args) (HX l)
def Je:List gf->Nat
 |[]=>0
 |c::l=>ah.ba c.args+Je l
def HW:List gu->Nat
 |[]=>0
 |f::l=>max (1+f.body.hg) (HW l)
def Jc:List gu->Nat
 |[]=>0
 |f::l=>f.body.sz+Jc l
def ax.hg(d:ax):Nat:=bif d.kind==1 then HX d.cons else bif d.kind==3 then HW d.qd else 1+d.body.hg
def ax.sz(d:ax):Nat:=bif d.kind==1 then Je d.cons else bif d.kind==3 then Jc d.qd else d.body.sz
def D3:List ax->Nat
 |[]=>0
 |d::l=>max d.hg (D3 l)
def FE:List ax->Nat
 |[]=>0
 |d::l=>d.sz+FE l
def ax.oe(d:ax):Bool:=(d.kind==1||d.kind==3||d.kind==5)&&decide (d.cons.length<1000)&&(d.cons.all λc=>decide (c.args.length<1000))&&decide (d.qd.length<1000)
theorem aBd{Q:List ai}{d lo:Nat}(hd:d<Q.length)(AP:lo<=d)(RG RF RE:Slot)(ys:List ah):∀(pre:List ah)(m:Nat),(pre++ys).length<AR->ah.az ys<=100->ah.ba ys<4000 ->
  ∃s1 s3 s5 s7 s9 BK BU CD BT B2 DG CN C0 C5 EM EL DM EK EJ,LP 118 (aN Tryz.f118 1) ⟨[.val (.loc d 0),.dead,.dead,.dead,.dead,.dead,.dead,.dead,RG,RF,RE,.dead,.val (.slice ((pre++ys).map ah.enc)),.val (.int .i64 ((pre++ys).length:Nat)),.val (.int .i64 (pre.length:Nat)),.dead,.dead,.dead,.dead,.dead,.dead,.dead,.dead],⟨AW Q d m,lo⟩⟩ =
   some (.exit 3,⟨[.val (.loc d 0),s1,s3,s5,s7,s9,BK,BU,RG,RF,RE,CD,BT,B2,DG,CN,C0,C5,EM,EL,DM,EK,EJ],⟨AW Q d (max m (ah.az ys)),lo⟩⟩):=by
 induction ys with
 |nil =>
  intro pre m h3 h4 h5;have AL:=DK pre;have e1:max m (ah.az [])=m:=by simp only[ah.az];omega
  rw[e1];simp only[Ao];clear e1 h3;iterate 19 apply Exists.intro
  refine tI rfl ?_;exact wk;all_goals exact .dead
 |cons y ys ih =>
  intro pre m h3 h4 h5;have AN:=cQ ah.enc pre ys y;have AL:=CQ pre ys y;have h0:=zI pre.length;have hw:=wL pre ys y h3;simp only[ah.az] at h4;simp only[ah.ba] at h5;have hy:=aWf y Q d lo m 1 hd AP (by omega) (by omega);obtain⟨s1,s3,s5,s7,s9,BK,BU,CD,BT,B2,DG,CN,C0,C5,EM,EL,DM,EK,EJ,ih⟩:=ih (pre++[y]) (max m (1+y.hg)) (by simpa using h3) (by omega) (by omega);simp only[Aj,Al] at ih;have e1:max (max m (1+y.hg)) (ah.az ys)=max m (ah.az (y::ys)):=by simp only[ah.az];omega
  rw[e1] at ih;rw[dA y] at AN hy;have e0:((1:Nat):Int)=1:=rfl;rw[e0] at hy;refine⟨s1,s3,s5,s7,s9,BK,BU,CD,BT,B2,DG,CN,C0,C5,EM,EL,DM,EK,EJ,?_⟩;refine tI rfl ?_;clear e0 e1 h3 h4 h5 hd AP;exact wk
theorem aBc{Q:List ai}{d lo:Nat}(hd:d<Q.length)(AP:lo<=d)(ys:List gf):∀(pre:List gf)(m:Nat),(pre++ys).length<AR->HX ys<=100->Je ys<4000 ->
  ∃s1 s3 s5 s7 s9 BK BU BH B5 BZ CD BT B2 DG CN C0 C5 EM EL DM EK EJ,LP 118 (aN Tryz.f118 0) ⟨[.val (.loc d 0),.dead,.dead,.dead,.dead,.dead,.dead,.dead,.val (.slice ((pre++ys).map gf.enc)),.val (.int .i64 ((pre++ys).length:Nat)),.val (.int .i64 (pre.length:Nat)),.dead,.dead,.dead,.dead,.dead,.dead,.dead,.dead,.dead,.dead,.dead,.dead],⟨AW Q d m,lo⟩⟩ =
   some (.exit 1,⟨[.val (.loc d 0),s1,s3,s5,s7,s9,BK,BU,BH,B5,BZ,CD,BT,B2,DG,CN,C0,C5,EM,EL,DM,EK,EJ],⟨AW Q d (max m (HX ys)),lo⟩⟩):=by
 induction ys with
 |nil =>
  intro pre m h3 h4 h5;have AL:=DK pre;have e1:max m (HX [])=m:=by simp only[HX];omega
  rw[e1];simp only[Ao];clear e1 h3;iterate 22 apply Exists.intro
  refine tI rfl ?_;exact wk;all_goals exact .dead
 |cons y ys ih =>
  intro pre m h3 h4 h5;have AN:=cQ gf.enc pre ys y;have AL:=CQ pre ys y;have h0:=zI pre.length;have hw:=wL pre ys y h3;simp only[HX] at h4;simp only[Je] at h5;have HQ:=ah.nz y.args;obtain⟨m1,m3,m5,a6s,m9,Tl,m12,m19,Th,Tg,m25,m26,m34,m40,m43,m44,m45,m46,m54,hl⟩:=aBd hd AP (.val (.slice ((pre++y::ys).map gf.enc))) (.val (.int .i64 ((pre++y::ys).length:Nat))) (.val (.int .i64 (pre.length:Nat))) y.args [] m (by simp only[Ai,AR];omega) (by omega) (by omega);simp only[Ai,Ap] at hl;have e0:((0:Nat):Int)=0:=rfl;rw[e0] at hl;obtain⟨s1,s3,s5,s7,s9,BK,BU,BH,B5,BZ,CD,BT,B2,DG,CN,C0,C5,EM,EL,DM,EK,EJ,ih⟩:=ih (pre++[y]) (max m (ah.az y.args)) (by simpa using h3) (by omega) (by omega);simp only[Aj,Al] at ih;have e1:max (max m (ah.az y.args)) (HX ys)=max m (HX (y::ys)):=by simp only[HX];omega
  rw[e1] at ih;rw[y.aw] at AN;refine⟨s1,s3,s5,s7,s9,BK,BU,BH,B5,BZ,CD,BT,B2,DG,CN,C0,C5,EM,EL,DM,EK,EJ,?_⟩;refine tI rfl ?_;clear e0 e1 h3 h4 h5 hd AP HQ;exact BP
theorem aBe{Q:List ai}{d lo:Nat}(hd:d<Q.length)(AP:lo<=d)(ys:List gu):∀(pre:List gu)(m:Nat),(pre++ys).length<AR->HW ys<=100->Jc ys<4000 ->
  ∃s1 s3 s5 s7 s9 BK BU BH B5 BZ CD BT B2 DG CN C0 C5 EM EL DM EK EJ,LP 118 (aN Tryz.f118 2) ⟨[.val (.loc d 0),.dead,.dead,.dead,.dead,.dead,.dead,.dead,.dead,.dead,.dead,.dead,.dead,.dead,.dead,.dead,.dead,.dead,.val (.slice ((pre++ys).map gu.enc)),.val (.int .i64 ((pre++ys).length:Nat)),.val (.int .i64 (pre.length:Nat)),.dead,.dead],⟨AW Q d m,lo⟩⟩ =
   some (.exit 5,⟨[.val (.loc d 0),s1,s3,s5,s7,s9,BK,BU,BH,B5,BZ,CD,BT,B2,DG,CN,C0,C5,EM,EL,DM,EK,EJ],⟨AW Q d (max m (HW ys)),lo⟩⟩):=by
 induction ys with
 |nil =>
  intro pre m h3 h4 h5;have AL:=DK pre;have e1:max m (HW [])=m:=by simp only[HW];omega
  rw[e1];simp only[Ao];clear e1 h3;iterate 22 apply Exists.intro
  refine tI rfl ?_;exact wk;all_goals exact .dead
 |cons y ys ih =>
  intro pre m h3 h4 h5;have AN:=cQ gu.enc pre ys y;have AL:=CQ pre ys y;have h0:=zI pre.length;have hw:=wL pre ys y h3;simp only[HW] at h4;simp only[Jc] at h5;have hy:=WO y.body Q d lo m 1 hd AP (by omega) (by omega);obtain⟨s1,s3,s5,s7,s9,BK,BU,BH,B5,BZ,CD,BT,B2,DG,CN,C0,C5,EM,EL,DM,EK,EJ,ih⟩:=ih (pre++[y]) (max m (1+y.body.hg)) (by simpa using h3) (by omega) (by omega);simp only[Aj,Al] at ih;have e1:max (max m (1+y.body.hg)) (HW ys)=max m (HW (y::ys)):=by simp only[HW];omega
  rw[e1] at ih;rw[y.aw] at AN;rw[y.body.aw] at hy;have e0:((1:Nat):Int)=1:=rfl;rw[e0] at hy;refine⟨s1,s3,s5,s7,s9,BK,BU,BH,B5,BZ,CD,BT,B2,DG,CN,C0,C5,EM,EL,DM,EK,EJ,?_⟩;refine tI rfl ?_;clear e0 e1 h3 h4 h5 hd AP;exact wk
theorem aVW(x:ax)(hx:x.oe=true)(h4:x.hg<=100)(h5:x.sz<4000){Q:List ai}{d lo:Nat}(hd:d<Q.length)(AP:lo<=d)(m:Nat) :
  CF (.fn 118) [.val (.loc d 0),.val x.enc] ⟨AW Q d m,lo⟩=some (.ret (.aj []),⟨AW Q d (max m x.hg),lo⟩):=by
 simp only[ax.oe,Ac,Ck,Cj] at hx;obtain⟨⟨⟨hk,hc⟩,_⟩,hf⟩:=hx;rw[x.aw];rcases hk with(hk|hk)|hk
 ·obtain hk:=Cb.1 hk
  simp only[ax.hg,ax.sz,hk,Cf,Bo] at h4 h5 ⊢;obtain⟨s1,s3,s5,s7,s9,BK,BU,BH,B5,BZ,CD,BT,B2,DG,CN,C0,C5,EM,EL,DM,EK,EJ,hl⟩:=aBc hd AP x.cons [] m (by simp only[Ai,AR];omega) h4 h5;simp only[Ai,Ap] at hl;have e0:((0:Nat):Int)=0:=rfl;rw[e0] at hl;clear hd AP h4 h5 hc hf hk;refine l9 ?_;exact wC rfl
 ·obtain hk:=Cb.1 hk
  simp only[ax.hg,ax.sz,hk,show((3:Int)==1)=false from rfl,Cf,Bo,Bh] at h4 h5 ⊢;obtain⟨s1,s3,s5,s7,s9,BK,BU,BH,B5,BZ,CD,BT,B2,DG,CN,C0,C5,EM,EL,DM,EK,EJ,hl⟩:=aBe hd AP x.qd [] m (by simp only[Ai,AR];omega) h4 h5;simp only[Ai,Ap] at hl;have e0:((0:Nat):Int)=0:=rfl;rw[e0] at hl;clear hd AP h4 h5 hc hf hk;refine l9 ?_;exact wC rfl
 ·obtain hk:=Cb.1 hk
  simp only[ax.hg,ax.sz,hk,show((5:Int)==1)=false from rfl,show((5:Int)==3)=false from rfl,Bh] at h4 h5 ⊢;have hy:=WO x.body Q d lo m 1 hd AP (by omega) h5;rw[x.body.aw] at hy;have e0:((1:Nat):Int)=1:=rfl;rw[e0] at hy;clear hd AP h4 h5 hc hf hk e0;refine GZ ?_;exact wC rfl
theorem aNB{Q:List ai}{d lo:Nat}(hd:d<Q.length)(AP:lo<=d)(ys:List ax):∀(pre:List ax)(m:Nat),(pre++ys).length<AR->(∀y∈ys,y.oe=true)->D3 ys<=100->FE ys<4000 ->
  ∃s0 s1 s2 s5 s9 s10 BK BU,LP 41 (aN Tryz.f41 0) ⟨[.dead,.dead,.dead,.val (.loc d 0),.dead,.val (.slice ((pre++ys).map ax.enc)),.val (.int .i64 ((pre++ys).length:Nat)),.val (.int .i64 (pre.length:Nat)),.dead],⟨AW Q d m,lo⟩⟩ =
   some (.exit 0,⟨[s0,s1,s2,.val (.loc d 0),s5,s9,s10,BK,BU],⟨AW Q d (max m (D3 ys)),lo⟩⟩):=by
 induction ys with
 |nil =>
  intro pre m h3 hk h4 h5;have AL:=DK pre;have e1:max m (D3 [])=m:=by simp only[D3];omega
  rw[e1];simp only[Ao];clear e1 h3 hk;iterate 8 apply Exists.intro
  refine tI rfl ?_;exact wk;all_goals exact .dead
 |cons y ys ih =>
  intro pre m h3 hk h4 h5;have AN:=cQ ax.enc pre ys y;have AL:=CQ pre ys y;have h0:=zI pre.length;have hw:=wL pre ys y h3;simp only[D3] at h4;simp only[FE] at h5;have hy:=aVW y (hk y (by simp)) (by omega) (by omega) hd AP m;obtain⟨s0,s1,s2,s5,s9,s10,BK,BU,ih⟩:=ih (pre++[y]) (max m y.hg) (by simpa using h3) (λx hx=>hk x (by simp[hx])) (by omega) (by omega);simp only[Aj,Al] at ih;have e1:max (max m y.hg) (D3 ys)=max m (D3 (y::ys)):=by simp only[D3];omega
  rw[e1] at ih;rw[y.aw] at AN hy;refine⟨s0,s1,s2,s5,s9,s10,BK,BU,?_⟩;refine tI rfl ?_;clear e1 h3 h4 h5 hd AP hk;exact wk
theorem c41(l:List ax)(hl:l.length<AR)(hk:∀y∈l,y.oe=true)(h4:D3 l<=100)(h5:FE l<=2000)(O:List ai)(lo:Nat)(AP:lo<=O.length):CF (.fn 41) [.val (.agg [.slice (l.map ax.enc)])] ⟨O,lo⟩=some (.ret (.val (.int .i64 (D3 l:Nat))),⟨O,lo⟩):=by
 have e:∀m,AW (O++[.box []]) O.length m=O++[.box [.val (.int .i64 (m:Nat))]]:=λm=>by simp[AW]
 obtain⟨s0,s1,s2,s5,s9,s10,BK,BU,BJ⟩:=aNB (Q:=O++[.box []]) (d:=O.length) (lo:=lo) (by simp) AP l [] 0 (by simpa using hl) hk h4 (by omega);rw[e,e] at BJ;simp only[Ai,Ap,Gp,show((0:Nat):Int)=0 from rfl] at BJ;have o1:∀A,(O++[A])[O.length]?=some A:=λA=>by simp
 have k0:Nat.ble lo O.length=true:=Ah AP;clear hk AP e hl h4 h5;exact G0
theorem aBg{Q:List ai}{d lo:Nat}(hd:d<Q.length)(AP:lo<=d)(RG RF RE:Slot)(ys:List ah):∀(pre:List ah)(s m:Nat),(pre++ys).length<AR->ah.az ys<=100->ah.ba ys<4000->s+ah.ba ys<=2001 ->
  ∃s1 s3 s5 s7 s9 BK BU CD BT B2 DG CN C0 C5 EM EL DM EK EJ,LP 119 (aN Tryz.f119 1) ⟨[.val (.loc d 0),.dead,.dead,.dead,.dead,.dead,.dead,.dead,RG,RF,RE,.dead,.val (.slice ((pre++ys).map ah.enc)),.val (.int .i64 ((pre++ys).length:Nat)),.val (.int .i64 (pre.length:Nat)),.dead,.dead,.dead,.dead,.dead,.dead,.dead,.dead],⟨BG Q d s m,lo⟩⟩ =
   some (.exit 3,⟨[.val (.loc d 0),s1,s3,s5,s7,s9,BK,BU,RG,RF,RE,CD,BT,B2,DG,CN,C0,C5,EM,EL,DM,EK,EJ],⟨BG Q d (s+ah.ba ys) (max m (ah.az ys)),lo⟩⟩):=by
 induction ys with
 |nil =>
  intro pre s m h3 h4 h5 hs;have AL:=DK pre;have e1:max m (ah.az [])=m:=by simp only[ah.az];omega
  rw[e1];simp only[Ao,ah.ba,Ax];clear e1 h3;iterate 19 apply Exists.intro
  refine tI rfl ?_;exact wk;all_goals exact .dead
 |cons y ys ih =>
  intro pre s m h3 h4 h5 hs;have AN:=cQ ah.enc pre ys y;have AL:=CQ pre ys y;have h0:=zI pre.length;have hw:=wL pre ys y h3;simp only[ah.az] at h4;simp only[ah.ba] at h5 hs;have hy:=aWg y Q d lo s m 1 hd AP (by omega) (by omega) (by omega);obtain⟨s1,s3,s5,s7,s9,BK,BU,CD,BT,B2,DG,CN,C0,C5,EM,EL,DM,EK,EJ,ih⟩:=ih (pre++[y]) (s+y.sz) (max m (1+y.hg)) (by simpa using h3) (by omega) (by omega) (by omega);simp only[Aj,Al] at ih;have e1:max (max m (1+y.hg)) (ah.az ys)=max m (ah.az (y::ys)):=by simp only[ah.az];omega
  rw[e1] at ih;have e2:s+y.sz+ah.ba ys=s+ah.ba (y::ys):=by simp only[ah.ba];omega
  rw[e2] at ih;rw[dA y] at AN hy;have e0:((1:Nat):Int)=1:=rfl;rw[e0] at hy;refine⟨s1,s3,s5,s7,s9,BK,BU,CD,BT,B2,DG,CN,C0,C5,EM,EL,DM,EK,EJ,?_⟩;refine tI rfl ?_;clear e0 e1 h3 h4 h5 hd AP;exact wk
theorem aBf{Q:List ai}{d lo:Nat}(hd:d<Q.length)(AP:lo<=d)(ys:List gf):∀(pre:List gf)(s m:Nat),(pre++ys).length<AR->HX ys<=100->Je ys<4000->s+Je ys<=2001 ->
  ∃s1 s3 s5 s7 s9 BK BU BH B5 BZ CD BT B2 DG CN C0 C5 EM EL DM EK EJ,LP 119 (aN Tryz.f119 0) ⟨[.val (.loc d 0),.dead,.dead,.dead,.dead,.dead,.dead,.dead,.val (.slice ((pre++ys).map gf.enc)),.val (.int .i64 ((pre++ys).length:Nat)),.val (.int .i64 (pre.length:Nat)),.dead,.dead,.dead,.dead,.dead,.dead,.dead,.dead,.dead,.dead,.dead,.dead],⟨BG Q d s m,lo⟩⟩ =
   some (.exit 1,⟨[.val (.loc d 0),s1,s3,s5,s7,s9,BK,BU,BH,B5,BZ,CD,BT,B2,DG,CN,C0,C5,EM,EL,DM,EK,EJ],⟨BG Q d (s+Je ys) (max m (HX ys)),lo⟩⟩):=by
 induction ys with
 |nil =>
  intro pre s m h3 h4 h5 hs;have AL:=DK pre;have e1:max m (HX [])=m:=by simp only[HX];omega
  rw[e1];simp only[Ao,Je,Ax];clear e1 h3;iterate 22 apply Exists.intro
  refine tI rfl ?_;exact wk;all_goals exact .dead
 |cons y ys ih =>
  intro pre s m h3 h4 h5 hs;have AN:=cQ gf.enc pre ys y;have AL:=CQ pre ys y;have h0:=zI pre.length;have hw:=wL pre ys y h3;simp only[HX] at h4;simp only[Je] at h5 hs;have HQ:=ah.nz y.args;obtain⟨m1,m3,m5,a6s,m9,Tl,m12,m19,Th,Tg,m25,m26,m34,m40,m43,m44,m45,m46,m54,hl⟩:=aBg hd AP (.val (.slice ((pre++y::ys).map gf.enc))) (.val (.int .i64 ((pre++y::ys).length:Nat))) (.val (.int .i64 (pre.length:Nat))) y.args [] s m (by simp only[Ai,AR];omega) (by omega) (by omega) (by omega);simp only[Ai,Ap] at hl;have e0:((0:Nat):Int)=0:=rfl;rw[e0] at hl;obtain⟨s1,s3,s5,s7,s9,BK,BU,BH,B5,BZ,CD,BT,B2,DG,CN,C0,C5,EM,EL,DM,EK,EJ,ih⟩:=ih (pre++[y]) (s+ah.ba y.args) (max m (ah.az y.args)) (by simpa using h3) (by omega) (by omega) (by omega);simp only[Aj,Al] at ih;have e1:max (max m (ah.az y.args)) (HX ys)=max m (HX (y::ys)):=by simp only[HX];omega
  rw[e1] at ih;have e2:s+ah.ba y.args+Je ys=s+Je (y::ys):=by simp only[Je];omega
  rw[e2] at ih;rw[y.aw] at AN;refine⟨s1,s3,s5,s7,s9,BK,BU,BH,B5,BZ,CD,BT,B2,DG,CN,C0,C5,EM,EL,DM,EK,EJ,?_⟩;refine tI rfl ?_;clear e0 e1 h3 h4 h5 hd AP HQ;exact BP
theorem aBh{Q:List ai}{d lo:Nat}(hd:d<Q.length)(AP:lo<=d)(ys:List gu):∀(pre:List gu)(s m:Nat),(pre++ys).length<AR->HW ys<=100->Jc ys<4000->s+Jc ys<=2001 ->
  ∃s1 s3 s5 s7 s9 BK BU BH B5 BZ CD BT B2 DG CN C0 C5 EM EL DM EK EJ,LP 119 (aN Tryz.f119 2) ⟨[.val (.loc d 0),.dead,.dead,.dead,.dead,.dead,.dead,.dead,.dead,.dead,.dead,.dead,.dead,.dead,.dead,.dead,.dead,.dead,.val (.slice ((pre++ys).map gu.enc)),.val (.int .i64 ((pre++ys).length:Nat)),.val (.int .i64 (pre.length:Nat)),.dead,.dead],⟨BG Q d s m,lo⟩⟩ =
   some (.exit 5,⟨[.val (.loc d 0),s1,s3,s5,s7,s9,BK,BU,BH,B5,BZ,CD,BT,B2,DG,CN,C0,C5,EM,EL,DM,EK,EJ],⟨BG Q d (s+Jc ys) (max m (HW ys)),lo⟩⟩):=by
 induction ys with
 |nil =>
  intro pre s m h3 h4 h5 hs;have AL:=DK pre;have e1:max m (HW [])=m:=by simp only[HW];omega
  rw[e1];simp only[Ao,Jc,Ax];clear e1 h3;iterate 22 apply Exists.intro
  refine tI rfl ?_;exact wk;all_goals exact .dead
 |cons y ys ih =>
  intro pre s m h3 h4 h5 hs;have AN:=cQ gu.enc pre ys y;have AL:=CQ pre ys y;have h0:=zI pre.length;have hw:=wL pre ys y h3;simp only[HW] at h4;simp only[Jc] at h5 hs;have hy:=WN y.body Q d lo s m 1 hd AP (by omega) (by omega) (by omega);obtain⟨s1,s3,s5,s7,s9,BK,BU,BH,B5,BZ,CD,BT,B2,DG,CN,C0,C5,EM,EL,DM,EK,EJ,ih⟩:=ih (pre++[y]) (s+y.body.sz) (max m (1+y.body.hg)) (by simpa using h3) (by omega) (by omega) (by omega);simp only[Aj,Al] at ih;have e1:max (max m (1+y.body.hg)) (HW ys)=max m (HW (y::ys)):=by simp only[HW];omega
  rw[e1] at ih;have e2:s+y.body.sz+Jc ys=s+Jc (y::ys):=by simp only[Jc];omega
  rw[e2] at ih;rw[y.aw] at AN;rw[y.body.aw] at hy;have e0:((1:Nat):Int)=1:=rfl;rw[e0] at hy;refine⟨s1,s3,s5,s7,s9,BK,BU,BH,B5,BZ,CD,BT,B2,DG,CN,C0,C5,EM,EL,DM,EK,EJ,?_⟩;refine tI rfl ?_;clear e0 e1 h3 h4 h5 hd AP;exact wk
theorem aVX(x:ax)(hx:x.oe=true)(h4:x.hg<=100)(h5:x.sz<4000){Q:List ai}{d lo:Nat}(hd:d<Q.length)(AP:lo<=d)(s m:Nat)(hs:s+x.sz<=2001) :
  CF (.fn 119) [.val (.loc d 0),.val x.enc] ⟨BG Q d s m,lo⟩=some (.ret (.aj []),⟨BG Q d (s+x.sz) (max m x.hg),lo⟩):=by
 simp only[ax.oe,Ac,Ck,Cj] at hx;obtain⟨⟨⟨hk,hc⟩,_⟩,hf⟩:=hx;rw[x.aw];rcases hk with(hk|hk)|hk
 ·obtain hk:=Cb.1 hk
  simp only[ax.hg,ax.sz,hk,Cf,Bo] at h4 h5 hs ⊢;obtain⟨s1,s3,s5,s7,s9,BK,BU,BH,B5,BZ,CD,BT,B2,DG,CN,C0,C5,EM,EL,DM,EK,EJ,hl⟩:=aBf hd AP x.cons [] s m (by simp only[Ai,AR];omega) h4 h5 hs;simp only[Ai,Ap] at hl;have e0:((0:Nat):Int)=0:=rfl;rw[e0] at hl;clear hd AP h4 h5 hc hf hk;refine l9 ?_;exact wD rfl
 ·obtain hk:=Cb.1 hk
  simp only[ax.hg,ax.sz,hk,show((3:Int)==1)=false from rfl,Cf,Bo,Bh] at h4 h5 hs ⊢;obtain⟨s1,s3,s5,s7,s9,BK,BU,BH,B5,BZ,CD,BT,B2,DG,CN,C0,C5,EM,EL,DM,EK,EJ,hl⟩:=aBh hd AP x.qd [] s m (by simp only[Ai,AR];omega) h4 h5 hs;simp only[Ai,Ap] at hl;have e0:((0:Nat):Int)=0:=rfl;rw[e0] at hl;clear hd AP h4 h5 hc hf hk;refine l9 ?_;exact wD rfl
 ·obtain hk:=Cb.1 hk
  simp only[ax.hg,ax.sz,hk,show((5:Int)==1)=false from rfl,show((5:Int)==3)=false from rfl,Bh] at h4 h5 hs ⊢;have hy:=WN x.body Q d lo s m 1 hd AP (by omega) h5 (by omega);rw[x.body.aw] at hy;have e0:((1:Nat):Int)=1:=rfl;rw[e0] at hy;clear hd AP h4 h5 hc hf hk e0;refine GZ ?_;exact wD rfl
theorem aNC{Q:List ai}{d lo:Nat}(hd:d<Q.length)(AP:lo<=d)(ys:List ax):∀(pre:List ax)(s m:Nat),(pre++ys).length<AR->(∀y∈ys,y.oe=true)->D3 ys<=100->FE ys<4000->s+FE ys<=2001 ->
  ∃s0 s1 s2 s5 s9 s10 BK BU,LP 42 (aN Tryz.f42 0) ⟨[.dead,.dead,.dead,.val (.loc d 0),.dead,.val (.slice ((pre++ys).map ax.enc)),.val (.int .i64 ((pre++ys).length:Nat)),.val (.int .i64 (pre.length:Nat)),.dead],⟨BG Q d s m,lo⟩⟩ =
   some (.exit 0,⟨[s0,s1,s2,.val (.loc d 0),s5,s9,s10,BK,BU],⟨BG Q d (s+FE ys) (max m (D3 ys)),lo⟩⟩):=by
 induction ys with
 |nil =>
  intro pre s m h3 hk h4 h5 hs;have AL:=DK pre;have e1:max m (D3 [])=m:=by simp only[D3];omega
  rw[e1];simp only[Ao,FE,Ax];clear e1 h3 hk;iterate 8 apply Exists.intro
  refine tI rfl ?_;exact wk;all_goals exact .dead
 |cons y ys ih =>
  intro pre s m h3 hk h4 h5 hs;have AN:=cQ ax.enc pre ys y;have AL:=CQ pre ys y;have h0:=zI pre.length;have hw:=wL pre ys y h3;simp only[D3] at h4;simp only[FE] at h5 hs;have hy:=aVX y (hk y (by simp)) (by omega) (by omega) hd AP s m (by omega);obtain⟨s0,s1,s2,s5,s9,s10,BK,BU,ih⟩:=ih (pre++[y]) (s+y.sz) (max m y.hg) (by simpa using h3) (λx hx=>hk x (by simp[hx])) (by omega) (by omega) (by omega);simp only[Aj,Al] at ih;have e1:max (max m y.hg) (D3 ys)=max m (D3 (y::ys)):=by simp only[D3];omega
  rw[e1] at ih;have e2:s+y.sz+FE ys=s+FE (y::ys):=by simp only[FE];omega
  rw[e2] at ih;rw[y.aw] at AN hy;refine⟨s0,s1,s2,s5,s9,s10,BK,BU,?_⟩;refine tI rfl ?_;clear e1 h3 h4 h5 hd AP hk;exact wk
theorem c42(l:List ax)(hl:l.length<AR)(hk:∀y∈l,y.oe=true)(h4:D3 l<=100)(h5:FE l<=2000)(O:List ai)(lo:Nat)(AP:lo<=O.length):CF (.fn 42) [.val (.agg [.slice (l.map ax.enc)])] ⟨O,lo⟩=some (.ret (.val (.int .i64 (FE l:Nat))),⟨O,lo⟩):=by
 have e:∀s m,BG (O++[.box []]) O.length s m=O++[.box [.val (.int .i64 (s:Nat)),.val (.int .i64 (m:Nat))]]:=λs m=>by simp[BG]
 obtain⟨s0,s1,s2,s5,s9,s10,BK,BU,BJ⟩:=aNC (Q:=O++[.box []]) (d:=O.length) (lo:=lo) (by simp) AP l [] 0 0 (by simpa using hl) hk h4 (by omega) (by omega);rw[e,e] at BJ;simp only[Ai,Ap,Bs,Gp,show((0:Nat):Int)=0 from rfl] at BJ;have o1:∀A,(O++[A])[O.length]?=some A:=λA=>by simp
 have k0:Nat.ble lo O.length=true:=Ah AP;clear hk AP e hl h4 h5;exact G0
def opsL:List (List UInt8):=[[43],[45],[42],[47],[37],[60],[61]]
def WB(s:List UInt8)(n:Nat):Prop:=(s=[44]/\2<=n/\n<=4)\/(eC s=some 3/\n<=16)
inductive WT:ah->Prop
 |var (s:List UInt8) (h:eC s=some 4):WT (.mk s [])
 |bh (s:List UInt8) (l:List ah) (h:eC s=some 3) (hl:l.length<=16) (hw:∀a∈l,WT a):WT (.mk s l)
inductive WP:ag->Prop
 |a2P:WP (.mk 1 [] [])
 |var (s:List UInt8) (h:eC s=some 2):WP (.mk 2 s [])
 |bh (s:List UInt8) (l:List ag) (h:WB s l.length) (hw:∀a∈l,WP a):WP (.mk 3 s l)
inductive WE:af->Prop
 |num (n:Int):WE (.mk 1 n [] [] [] [])
 |var (s:List UInt8) (h:eC s=some 2):WE (.mk 2 0 s [] [] [])
 |bh (s:List UInt8) (l:List af) (h:WB s l.length) (hw:∀a∈l,WE a):WE (.mk 3 0 s [] l [])
 |app (l:List af) (hl:l.length=2) (hw:∀a∈l,WE a):WE (.mk 4 0 [] [] l [])
 |fn (a:List UInt8) (l:List af) (h:eC a=some 2) (hl:l.length=1) (hw:∀a∈l,WE a):WE (.mk 5 0 [] a l [])
 |u9 (s a:List UInt8) (l:List af) (h:eC s=some 2) (h2:eC a=some 2) (hl:l.length=2) (hw:∀a∈l,WE a):WE (.mk 7 0 s a l [])
 |case (l:List af) (pl:List ag) (h1:1<=pl.length) (h2:pl.length<=16) (h3:l.length=pl.length+1) (hw:∀a∈l,WE a) (hp:∀p∈pl,WP p):WE (.mk 8 0 [] [] l pl)
 |op (s:List UInt8) (l:List af) (h:s∈opsL) (hl:l.length=2) (hw:∀a∈l,WE a):WE (.mk 9 0 s [] l [])
theorem jm(s:List UInt8)(h:eC s=some 2)(S:AH):CF (.fn 126) [.val (.str s)] S=some (.ret (.val (.bool true)),S):=by
 have h1:=S9 s 2 h;clear h;exact wk
theorem aR6(s:List UInt8)(h:eC s=some 4)(S:AH):CF (.fn 172) [.val (.str s)] S=some (.ret (.val (.bool true)),S):=by
 have h1:=S9 s 4 h;clear h;exact wk
theorem aR7(s:List UInt8)(h:eC s=some 3)(S:AH):CF (.fn 172) [.val (.str s)] S=some (.ret (.val (.bool false)),S):=by
 have h1:=S9 s 3 h;clear h;exact wk
theorem uV{s:List UInt8}{k:Int}(h:eC s=some k):(s==[])=false/\(s==[44])=false/\(s==[45,62])=false:=by
 refine⟨?_,?_,?_⟩
 ·cases hc:s==[] with
  |false=>rfl
  |true=>rw[Cb.1 hc] at h;exact absurd h (by rw[show eC []=none by decide];intro h;cases h)
 ·cases hc:s==[44] with
  |false=>rfl
  |true=>rw[Cb.1 hc] at h;exact absurd h (by rw[show eC [44]=none by decide];intro h;cases h)
 ·cases hc:s==[45,62] with
  |false=>rfl
  |true=>rw[Cb.1 hc] at h;exact absurd h (by rw[show eC [45,62]=none by decide];intro h;cases h)
theorem qH{s:List UInt8}(h:eC s=some 3):mD s=true:=by simp only[mD,h,Cf]
theorem aR8(s:List UInt8)(n:Nat)(h:WB s n)(S:AH):CF (.fn 183) [.val (.str s),.val (.int .i64 (n:Nat))] S=some (.ret (.val (.bool true)),S):=by
 rcases h with⟨h1,h2,h3⟩|⟨h1,h2⟩
 ·subst h1
  have k1:decide (((n:Nat):Int)>=2)=true:=by simp;omega
  have k2:decide (((n:Nat):Int)<=4)=true:=by simp;omega
  clear h2 h3;exact wk
 ·have k1:=(uV h1).2.1
  have k2:=OH s (qH h1);have k3:decide (((n:Nat):Int)<=16)=true:=by simp;omega
  clear h1 h2;exact wk
theorem uv:(ans 127).ownArg=[]:=by rw[QV]
theorem xW:(ans 182).ownArg=[]:=by rw[LI]
theorem pI:(ans 117).ownArg=[]:=by rw[P']
theorem aV0:∀t:ah,WT t->∀S:AH,S.lo<=S.objs.length->CF (.fn 127) [.val t.enc] S=some (.ret (.val (.bool true)),S):=by
 intro t h;induction h with
 |var s h =>
  intro S hS;have h1:=WI 127 uv [] (by simp[AR]) S hS (λx hx=>by cases hx);have h2:=aR6 s h;obtain⟨_,k2,k3⟩:=uV h;rw[ah.ce];simp only[Av] at h1 ⊢;clear h hS;exact wk
 |bh s l h hl hw ih =>
  intro S hS;have h1:=WI 127 uv l (by simp only[AR];omega) S hS ih;have h2:=aR7 s h;have h3:=OH s (qH h);obtain⟨_,k2,k3⟩:=uV h;have k4:decide (((l.length:Nat):Int)<=16)=true:=by simp;omega
  rw[ah.ce];clear h hS hl hw ih;exact BP
theorem aWd:∀t:ag,WP t->∀S:AH,S.lo<=S.objs.length->CF (.fn 182) [.val t.enc] S=some (.ret (.val (.bool true)),S):=by
 intro t h;induction h with
 |a2P =>
  intro S hS;have h1:=Qp 182 xW [] (by simp[AR]) S hS (λx hx=>by cases hx);rw[ag.ce];simp only[Av] at h1 ⊢;clear hS;exact wk
 |var s h =>
  intro S hS;have h1:=Qp 182 xW [] (by simp[AR]) S hS (λx hx=>by cases hx);have h2:=jm s h;rw[ag.ce];simp only[Av] at h1 ⊢;clear h hS;exact wk
 |bh s l h hw ih =>
  intro S hS;have hl:l.length<1000:=by rcases h with⟨_,_,h⟩|⟨_,h⟩<;>omega
  have h1:=Qp 182 xW l (by simp only[AR];omega) S hS ih;have h2:=aR8 s l.length h;rw[ag.ce];clear h hS hl hw ih;exact BP
theorem aHe(s:List UInt8)(sto:AH)(ys:List (List UInt8)):∀(pre:List (List UInt8)),(pre++ys).length<AR->s∈ys ->
  ∃(r:Int),decide (r>=0)=true/\∃s0 s1 s5 s7 s8 s9 BH,LP 228 (aN Tryz.f228 0) ⟨[.val (.slice ((pre++ys).map .str)),.val (.str s),.dead,.dead,.val (.int .i64 ((pre++ys).length:Nat)),.val (.int .i64 (pre.length:Nat)),.dead,.dead],sto⟩=some (.ret,⟨[s0,s1,.val (.int .i64 r),s5,s7,s8,s9,BH],sto⟩):=by
 induction ys with
 |nil=>intro pre h3 hm;cases hm
 |cons y ys ih =>
  intro pre h3 hm;have AN:=cQ ae.str pre ys y;have AL:=CQ pre ys y;have h0:=zI pre.length;have hw:=wL pre ys y h3;cases hp:s==y with
  |true =>
   refine⟨(pre.length:Nat),h0,?_⟩;clear ih hm;iterate 7 apply Exists.intro
   refine tI rfl ?_;exact wk;all_goals exact .dead
  |false =>
   have N7:s∈ys:=by
    rcases As.1 hm with h|h
    ·rw[h,Cf] at hp;cases hp
    ·exact h
   obtain⟨r,hr,s0,s1,s5,s7,s8,s9,BH,ih⟩:=ih (pre++[y]) (by simpa using h3) N7;simp only[Aj,Al] at ih;refine⟨r,hr,s0,s1,s5,s7,s8,s9,BH,?_⟩;clear hm N7;refine tI rfl ?_;exact wk
theorem aV8(s:List UInt8)(h:s∈opsL)(sto:AH):CF (.fn 173) [.val (.slice (opsL.map .str)),.val (.str s)] sto=some (.ret (.val (.bool true)),sto):=by
 obtain⟨r,hr,s0,s1,s5,s7,s8,s9,BH,BJ⟩:=aHe s sto opsL [] (by simp[opsL,AR]) h;simp only[Ai,Ap] at BJ;have e0:((0:Nat):Int)=0:=rfl;rw[e0] at BJ;clear h
 have a8o:CF (.fn 228) [.val (.slice (opsL.map .str)),.val (.str s)] sto=some (.ret (.val (.int .i64 r)),sto):=by
  exact BP
 clear BJ;exact wk
theorem aWe(sto:AH):CF (.fn 184) [] sto=some (.ret (.val (.slice (opsL.map .str))),sto):=by
 show CF (.fn 184) [] sto=some (d_.ret (.val (.slice [.str [43],.str [45],.str [42],.str [47],.str [37],.str [60],.str [61]])),sto);exact BP
theorem WM:∀e:af,WE e->∀S:AH,S.lo<=S.objs.length->CF (.fn 117) [.val e.enc] S=some (.ret (.val (.bool true)),S):=by
 intro e h;have Jz:=λS hS=>sg 117 pI [] (by simp[AR]) S hS (λx hx=>by cases hx)
 have IG:=λS hS=>Qp 182 xW [] (by simp[AR]) S hS (λx hx=>by cases hx)
 simp only[Av] at Jz IG;induction h with
 |num n =>
  intro S hS;have h1:=Jz S hS;have h2:=IG S hS;rw[af.ce];simp only[Av];clear hS Jz IG;exact wk
 |var s h =>
  intro S hS;have h1:=Jz S hS;have h2:=IG S hS;have h3:=jm s h;rw[af.ce];simp only[Av];clear hS Jz IG h;exact wk
 |bh s l h hw ih =>
  intro S hS;have hl:l.length<1000:=by rcases h with⟨_,_,h⟩|⟨_,h⟩<;>omega
  have h1:=sg 117 pI l (by simp only[AR];omega) S hS ih;have h2:=IG S hS;have h3:=aR8 s l.length h;rw[af.ce];simp only[Av];clear hS Jz IG h hw ih hl;exact BP
 |app l hl hw ih =>
  intro S hS;have h1:=sg 117 pI l (by simp only[AR];omega) S hS ih;have h2:=IG S hS;have k1:((l.length:Nat):Int)=2:=by omega
  rw[af.ce];simp only[Av];clear hS Jz IG hw ih hl;exact BP
 |fn a l h hl hw ih =>
  intro S hS;have h1:=sg 117 pI l (by simp only[AR];omega) S hS ih;have h2:=IG S hS;have h3:=jm a h;have k1:((l.length:Nat):Int)=1:=by omega
  rw[af.ce];simp only[Av];clear hS Jz IG hw ih hl h;exact BP
 |u9 s a l h h' hl hw ih =>
  intro S hS;have h1:=sg 117 pI l (by simp only[AR];omega) S hS ih;have h2:=IG S hS;have h3:=jm s h;have h4:=jm a h';have k1:((l.length:Nat):Int)=2:=by omega
  rw[af.ce];simp only[Av];clear hS Jz IG hw ih hl h h';exact BP
 |case l pl h1 h2 h3 hw hp ih =>
  intro S hS;have g1:=sg 117 pI l (by simp only[AR];omega) S hS ih;have g2:=Qp 182 xW pl (by simp only[AR];omega) S hS (λp h=>aWd p (hp p h));have k1:IntKind.i64.wrap (((pl.length:Nat):Int)+1)=((l.length:Nat):Int):=by rw[wI _ (by simp only[AR];omega),h3]
  have k2:decide (((pl.length:Nat):Int)>=1)=true:=by simp;omega
  have k3:decide (((pl.length:Nat):Int)<=16)=true:=by simp;omega
  rw[af.ce];clear hS Jz IG hw ih hp h1 h2 h3;exact BP
 |op s l h hl hw ih =>
  intro S hS;have h1:=sg 117 pI l (by simp only[AR];omega) S hS ih;have h2:=IG S hS;have h3:=aV8 s h;have h4:=λS=>aWe S
  have k1:((l.length:Nat):Int)=2:=by omega
  rw[af.ce];simp only[Av];clear hS Jz IG hw ih hl h;exact BP
structure XB (c:gf):Prop where
 name:eC c.name=some 3
 len:c.args.length<=16
 args:∀a∈c.args,WT a
structure WF (f:gu):Prop where
 name:eC f.name=some 2
 arg:eC f.arg=some 2
 body:WE f.body
inductive WD:ax->Prop
 |data (n:List UInt8) (vs:List (List UInt8)) (cs:List gf) (h1:eC n=some 3) (h2:vs.length<=16) (h3:∀v∈vs,eC v=some 4) (h4:1<=cs.length) (h5:cs.length<=16) (h6:∀c∈cs,XB c):WD ⟨1,n,vs,cs,[],[],[],[],lB⟩
 |func (fs:List gu) (h1:1<=fs.length) (h2:fs.length<=16) (h3:∀f∈fs,WF f):WD ⟨3,[],[],[],[],[],[],fs,lB⟩
 |out (n:List UInt8) (e:af) (h1:eC n=some 2) (h2:WE e):WD (cU n e)
theorem aOd:(ans 172).ownArg=[]:=by rw[Q_]
theorem aOg:(ans 188).ownArg=[]:=by rw[LJ]
theorem aOc:(ans 129).ownArg=[]:=by rw[Q']
theorem aSW:(ans 45).ownArg=[]:=by rw[aRC]
theorem aWh(c:gf)(h:XB c)(S:AH)(hS:S.lo<=S.objs.length):CF (.fn 188) [.val c.enc] S=some (.ret (.val (.bool true)),S):=by
 have h1:=OH c.name (qH h.name);have h2:=WI 127 uv c.args (by have:=h.len;simp only[AR];omega) S hS (λa ha=>aV0 a (h.args a ha));have k1:decide (((c.args.length:Nat):Int)<=16)=true:=by have:=h.len;simp;omega
 rw[c.aw];clear h hS;exact BP
theorem aVZ(n:List UInt8)(vs:List (List UInt8))(cs:List gf)(h1:eC n=some 3)(h2:vs.length<=16)(h3:∀v∈vs,eC v=some 4)(h4:1<=cs.length)(h5:cs.length<=16)(h6:∀c∈cs,XB c)(S:AH)(hS:S.lo<=S.objs.length) :
  CF (.fn 125) [.val (.agg [.str n,.slice (vs.map .str),.slice (cs.map gf.enc)])] S=some (.ret (.val (.bool true)),S):=by
 have g1:=OH n (qH h1);have g2:=aWi 172 aOd vs (by simp only[AR];omega) S hS (λv hv S _=>aR6 v (h3 v hv) S);have g3:=aWj 188 aOg cs (by simp only[AR];omega) S hS (λc hc=>aWh c (h6 c hc));have k1:decide (((vs.length:Nat):Int)<=16)=true:=by simp;omega
 have k2:decide (((cs.length:Nat):Int)>=1)=true:=by simp;omega
 have k3:decide (((cs.length:Nat):Int)<=16)=true:=by simp;omega
 clear h1 h2 h3 h4 h5 h6 hS;exact BP
theorem aV2(f:gu)(h:WF f)(S:AH)(hS:S.lo<=S.objs.length):CF (.fn 129) [.val f.enc] S=some (.ret (.val (.bool true)),S):=by
 have h1:=jm f.name h.name;have h2:=jm f.arg h.arg;have h3:=WM f.body h.body S hS;rw[f.aw];rw[f.body.aw] at h3;clear h hS;exact wk
theorem aRZ(S:AH):CF (.fn 122) [.val (.agg [.str [],.slice [],.slice []])] S=some (.ret (.val (.bool true)),S):=by
 exact wk
theorem aRY(n:List UInt8)(vs cs:List ae)(h:(n==[])=false)(S:AH):CF (.fn 122) [.val (.agg [.str n,.slice vs,.slice cs])] S=some (.ret (.val (.bool false)),S):=by
 exact wk
theorem aR0(S:AH):CF (.fn 123) [.val (.agg [.str [],.slice []])] S=some (.ret (.val (.bool true)),S):=by
 exact wk
theorem aR2(S:AH):CF (.fn 124) [.val (.agg [.int .i64 0,.int .i64 0,.str [],.str [],.slice [],.slice []])] S=some (.ret (.val (.bool true)),S):=by
 exact wk
theorem aR1(k n:Int)(s a:List UInt8)(al pl:List ae)(h:(k==0)=false)(S:AH):CF (.fn 124) [.val (.agg [.int .i64 k,.int .i64 n,.str s,.str a,.slice al,.slice pl])] S=some (.ret (.val (.bool false)),S):=by
 exact wk
theorem WE.kind{e:af}(h:WE e):(e.kind==0)=false:=by cases h<;>rfl
theorem c45(d:ax)(h:WD d)(S:AH)(hS:S.lo<=S.objs.length):CF (.fn 45) [.val d.enc] S=some (.ret (.val (.bool true)),S):=by
 have a3E:=λS=>aRZ S
 have z2:=λS=>aR0 S
 have a3F:=λS=>aR2 S
 rw[d.aw];cases h with
 |data n vs cs h1 h2 h3 h4 h5 h6 =>
  have g1:=aVZ n vs cs h1 h2 h3 h4 h5 h6 S hS;have g2:=λS=>aRY n (vs.map .str) (cs.map gf.enc) (uV h1).1 S
  simp only[lB,af.kind,af.num,af.name,af.arg,af.args,af.ez,Av];clear h1 h2 h3 h4 h5 h6 hS;exact wk
 |func fs h1 h2 h3 =>
  have g1:=aV1 129 aOc fs (by simp only[AR];omega) S hS (λf hf=>aV2 f (h3 f hf));have k1:decide (((fs.length:Nat):Int)>=1)=true:=by simp;omega
  have k2:decide (((fs.length:Nat):Int)<=16)=true:=by simp;omega
  have k3:(((fs.length:Nat):Int)==0)=false:=by simp only[beq_eq_false_iff_ne,ne_eq];omega
  simp only[lB,af.kind,af.num,af.name,af.arg,af.args,af.ez,Av];clear h1 h2 h3 hS;exact BP
 |out n e h1 h2 =>
  have g1:=jm n h1;have g2:=WM e h2 S hS;have g3:=λS=>aR1 e.kind e.num e.name e.arg (e.args.map af.enc) (e.ez.map ag.enc) h2.kind S
  rw[e.aw] at g2;simp only[cU,Av];clear h1 h2 hS;exact wk
theorem Ya(d s:Nat)(h1:d<=100)(h2:s<=2000)(S:AH):CF (.fn 43) [.val (.int .i64 (d:Nat)),.val (.int .i64 (s:Nat)),.val (.bool true)] S=some (.ret (.val (.int .i64 0)),S):=by
 have k1:decide (((d:Nat):Int)>100)=false:=by simp;omega
 have k2:decide (((s:Nat):Int)>2000)=false:=by simp;omega
 clear h1 h2;exact wk
theorem c23(l:List ax)(hl:l.length<=60)(hk:∀y∈l,y.oe=true)(hw:∀y∈l,WD y)(h4:D3 l<=100)(h5:FE l<=2000)(S:AH)(hS:S.lo<=S.objs.length):CF (.fn 23) [.val (.agg [.slice (l.map ax.enc)])] S=some (.ret (.val (.int .i64 0)),S):=by
 obtain⟨O,lo⟩:=S;have g1:=c41 l (by simp only[AR];omega) hk h4 h5 O lo hS;have g2:=c42 l (by simp only[AR];omega) hk h4 h5 O lo hS;have g3:=c44 45 aSW l (by simp only[AR];omega) ⟨O,lo⟩ hS (λd hd=>c45 d (hw d hd));have g4:=Ya (D3 l) (FE l) h4 h5;have k1:decide (((l.length:Nat):Int)>60)=false:=by simp;omega
 have k2:decide (((D3 l:Nat):Int)<=100)=true:=by simp;omega
 have k3:decide (((FE l:Nat):Int)<=2000)=true:=by simp;omega
 clear hl hk hw h4 h5 hS;exact BP
theorem c40(e:af)(hw:WE e)(h4:1+e.hg<=100)(h5:e.sz<=2000)(S:AH)(hS:S.lo<=S.objs.length):CF (.fn 40) [.val e.enc] S=some (.ret (.val (.int .i64 0)),S):=by
 obtain⟨O,lo⟩:=S;have e1:∀m A,AW (O++[.box [],A]) O.length m=O++[.box [.val (.int .i64 (m:Nat))],A]:=λm A=>by simp[AW]
 have e2:∀s m A,BG (O++[A,.box []]) (O.length+1) s m=O++[A,.box [.val (.int .i64 (s:Nat)),.val (.int .i64 (m:Nat))]]:=λs m A=>by simp[BG,Em]
 have g1:=WO e (O++[.box [],.box [.val (.int .i64 0),.val (.int .i64 0)]]) O.length lo 0 1 (by simp) hS (by omega) (by omega);have g2:=WN e (O++[.box [.val (.int .i64 ((1+e.hg:Nat):Int))],.box []]) (O.length+1) lo 0 0 1 (by simp) (by simp only at hS;omega) (by omega) (by omega) (by omega);rw[e1,e1] at g1;rw[e2,e2] at g2;simp only[Gp,Bs,show((0:Nat):Int)=0 from rfl,show((1:Nat):Int)=1 from rfl] at g1 g2;have g3:∀A B,CF (.fn 117) [.val e.enc] ⟨O++[A,B],O.length+2⟩=some (.ret (.val (.bool true)),⟨O++[A,B],O.length+2⟩):=λA B=>WM e hw _ (by simp)
 have g4:=Ya (1+e.hg) e.sz h4 h5;have k1:decide (((1+e.hg:Nat):Int)<=100)=true:=by simp;omega
 have k2:decide (((e.sz:Nat):Int)<=2000)=true:=by simp;omega
 have o1:∀A B,(O++[A,B])[O.length]?=some A:=λA B=>by simp
 have o2:∀A B,(O++[A,B])[O.length+1]?=some B:=λA B=>by simp
 have k0:Nat.ble lo O.length=true:=Ah hS;have kb:Nat.ble O.length O.length=true:=Ah (Ae _);rw[e.aw] at *;clear e1 e2 hw h4 h5 hS;exact G0
inductive jB:ah->ad->Prop
 |int (n:Int):jB (.mk [73,110,116] []) (bL n)
 |nil (a:ah):jB (.mk [76,105,115,116] [a]) (.mk [78,105,108] 0 [])
 |cons (a:ah) (x l:ad) (h1:jB a x) (h2:jB (.mk [76,105,115,116] [a]) l):jB (.mk [76,105,115,116] [a]) (.mk [67,111,110,115] 0 [x,l])
 |pair (a b:ah) (x y:ad) (h1:jB a x) (h2:jB b y):jB (.mk [44] [a,b]) (.mk [44] 0 [x,y])
 |leaf (a:ah):jB (.mk [84,114,101,101] [a]) (.mk [76,101,97,102] 0 [])
 |node (a:ah) (l x r:ad) (h1:jB (.mk [84,114,101,101] [a]) l) (h2:jB a x) (h3:jB (.mk [84,114,101,101] [a]) r):jB (.mk [84,114,101,101] [a]) (.mk [78,111,100,101] 0 [l,x,r])
 |var (v:ad):jB (.mk [39,97] []) v
 |a7v (v:ad):jB (.mk [39,98] []) v
theorem nE(ts:List ah)(v:ad)(hl:ts.length=v.args.length)(hb:ts.length<AR)(sto:AH)(h:∀(i:Nat)(t:ah)(w:ad),ts[i]?=some t->v.args[i]?=some w->∀S:AH,S.lo<=S.objs.length->CF (.fn 133) [.val t.enc,.val w.enc] S=some (.ret (.val (.bool true)),S))(AP:sto.lo<=sto.objs.length) :
  CF (.fn 196) [.val (.slice (ts.map ah.enc)),.val (.loc sto.objs.length 0)] ⟨sto.objs++[.box (cN v)],sto.lo⟩=some (.ret (.val (.bool true)),⟨sto.objs++[.box (cN v)],sto.lo⟩) :=
 aWl ts v _ hl _ (by simp) (Y9 ts v.args hl hb _ λi t w h1 h2=>h i t w h1 h2 _ (by simp;omega))
theorem aV3:∀(t:ah)(v:ad),jB t v->∀sto:AH,sto.lo<=sto.objs.length->CF (.fn 133) [.val t.enc,.val v.enc] sto=some (.ret (.val (.bool true)),sto):=by
 intro t v hv;induction hv with
 |int n =>
  intro sto AP;rw[wQ,ah.ce,Av];exact G0
 |nil a =>
  intro sto AP;have h:=nE [] (.mk [78,105,108] 0 []) rfl (by simp[AR]) sto (λi t w h1 _=>by simp at h1) AP;simp only[Av,cN,ad.bh,ad.num,ad.args] at h;simp only[ad.ce,ah.ce,Ba,Av];rw[dA a];exact G0
 |cons a x l h1 h2 pj nq =>
  intro sto AP
  have h:=nE [a,.mk [76,105,115,116] [a]] (.mk [67,111,110,115] 0 [x,l]) rfl (by simp[AR]) sto (λi t w h1 h2=>by
   match i with
   |0=>cases h1;cases h2;exact pj
   |1=>cases h1;cases h2;exact nq
   |i+2=>simp at h1) AP
  simp only[Ba,Av,cN,ad.bh,ad.num,ad.args,ah.ce] at h;rw[ad.aw x,ad.aw l,dA a] at h;simp only[ad.ce,ah.ce,Ba,Av];rw[ad.aw x,ad.aw l,dA a];clear pj nq h1 h2;exact G0
 |pair a b x y h1 h2 pj nq =>
  intro sto AP
  have h:=nE [a,b] (.mk [44] 0 [x,y]) rfl (by simp[AR]) sto (λi t w h1 h2=>by
   match i with
   |0=>cases h1;cases h2;exact pj
   |1=>cases h1;cases h2;exact nq
   |i+2=>simp at h1) AP
  simp only[Ba,Av,cN,ad.bh,ad.num,ad.args,ah.ce] at h;rw[ad.aw x,ad.aw y,dA a,dA b] at h;simp only[ad.ce,ah.ce,Ba,Av];rw[ad.aw x,ad.aw y,dA a,dA b];clear pj nq h1 h2;exact G0
 |leaf a =>
  intro sto AP;have h:=nE [] (.mk [76,101,97,102] 0 []) rfl (by simp[AR]) sto (λi t w h1 _=>by simp at h1) AP;simp only[Av,cN,ad.bh,ad.num,ad.args] at h;simp only[ad.ce,ah.ce,Ba,Av];rw[dA a];exact G0
 |node a l x r h1 h2 h3 pj nq ih3 =>
  intro sto AP
  have h:=nE [.mk [84,114,101,101] [a],a,.mk [84,114,101,101] [a]] (.mk [78,111,100,101] 0 [l,x,r]) rfl (by simp[AR]) sto (λi t w h1 h2=>by
   match i with
   |0=>cases h1;cases h2;exact pj
   |1=>cases h1;cases h2;exact nq
   |2=>cases h1;cases h2;exact ih3
   |i+3=>simp at h1) AP
  simp only[Ba,Av,cN,ad.bh,ad.num,ad.args,ah.ce] at h;rw[ad.aw x,ad.aw l,ad.aw r,dA a] at h;simp only[ad.ce,ah.ce,Ba,Av];rw[ad.aw x,ad.aw l,ad.aw r,dA a];clear pj nq ih3 h1 h2 h3;exact G0
 |var v =>
  intro sto AP;rw[ad.aw v,ah.ce,Av];exact G0
 |a7v v =>
  intro sto AP;rw[ad.aw v,ah.ce,Av];exact G0
theorem c37(nm:List UInt8)(t:ah)(h:uL nm=some t)(sto:AH):CF (.fn 37) [.val (.str nm)] sto=some (.ret (.aj [t.enc,.bool true]),sto):=by
 refine NI (r:=.ret (.aj [t.enc,.bool true])) ?_ ?_
 ·show some ((uL nm).map λt=>d_.ret (.aj [t.enc,.bool true]))=_
  rw[h];rfl
 ·rw[dA t];rfl
theorem c46(nm:List UInt8)(t:ah)(h:uL nm=some t)(sto:AH):CF (.fn 46) [.val (.str nm)] sto=some (.ret (.val (.bool true)),sto):=by
 refine NI (r:=.ret (.val (.bool true))) ?_ rfl;show some ((uL nm).map λ_=>d_.ret (.val (.bool true)))=_;rw[h];rfl
theorem Ye(nm:List UInt8)(l:List ah)(r:ah)(ht:uL nm=some (o7 l r))(hr:(tyName r==[45,62])=false)(args:List ad)(hlen:l.length=args.length)(hb:l.length+1<AR)(hv:∀y∈args,y.valid=true/\y.size<AR/\y.cu<=4000)
  (hh:∀(i:Nat)(t:ah)(v:ad),l[i]?=some t->args[i]?=some v->jB t v) (sto:AH) (AP:sto.lo<=sto.objs.length):CF (.fn 24) [.val (.str nm),.val (.slice (args.map ad.enc))] sto=some (.ret (.val (.int .i64 0)),sto):=by
 have h36:=c37 nm _ ht sto;have h41:=c46 nm _ ht sto;have h42:=c47 l r hr hb sto;have h43:=c48 args (by omega) hv sto AP;have h45:=Y9 l args hlen (by omega) sto (λi t v h1 h2=>aV3 t v (hh i t v h1 h2) sto AP);have BA:(((l.length:Nat):Int) != ((args.length:Nat):Int))=false:=by simp[hlen]
 rw[dA (o7 l r)] at h36 h42;exact BP
end Go.Proofs.YtoiocfngjchdiaaGreatDoor
