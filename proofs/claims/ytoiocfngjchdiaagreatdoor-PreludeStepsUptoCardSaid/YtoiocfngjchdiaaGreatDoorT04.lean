import Derived.Test.YtoiocfngjchdiaaGreatDoorT03
set_option linter.all false
set_option maxRecDepth 100000
set_option maxHeartbeats 32000000
namespace Go.Proofs.YtoiocfngjchdiaaGreatDoor
open Go.AM
variable [Aps]
def Gy:List CoD->Nat
 |[]=>0
 |c::l=>max (TyD.hgs c.args) (Gy l)
def JE:List CoD->Nat
 |[]=>0
 |c::l=>TyD.szs c.args+JE l
def Gx:List FuD->Nat
 |[]=>0
 |f::l=>max (1+f.body.hg) (Gx l)
def JC:List FuD->Nat
 |[]=>0
 |f::l=>f.body.sz+JC l
def DeD.hg(d:DeD):Nat:=bif d.kind==1 then Gy d.cons else bif d.kind==3 then Gx d.funs else 1+d.body.hg
def DeD.sz(d:DeD):Nat:=bif d.kind==1 then JE d.cons else bif d.kind==3 then JC d.funs else d.body.sz
def DV:List DeD->Nat
 |[]=>0
 |d::l=>max d.hg (DV l)
def E6:List DeD->Nat
 |[]=>0
 |d::l=>d.sz+E6 l
def DeD.okK(d:DeD):Bool:=(d.kind==1||d.kind==3||d.kind==5)&&decide (d.cons.length<1000)&&(d.cons.all λc=>decide (c.args.length<1000))&&decide (d.funs.length<1000)
theorem aAk{Q:List AObj}{d lo:Nat}(hd:d<Q.length)(AP:lo<=d)(QX QW QV:Slot)(ys:List TyD):∀(pre:List TyD)(m:Nat),(pre++ys).length<AV->TyD.hgs ys<=100->TyD.szs ys<4000 ->
  ∃s1 s3 s5 s7 s9 BI BZ CL BX BU EF EE CR CU ED EC EB EA D9,LP 118 (aS Tryz.f118 1) ⟨[.val (.loc d 0),.dead,.dead,.dead,.dead,.dead,.dead,.dead,QX,QW,QV,.dead,.val (.slice ((pre++ys).map TyD.enc)),.val (.int .i64 ((pre++ys).length:Nat)),.val (.int .i64 (pre.length:Nat)),.dead,.dead,.dead,.dead,.dead,.dead,.dead,.dead],⟨AW Q d m,lo⟩⟩ =
   some (.exit 3,⟨[.val (.loc d 0),s1,s3,s5,s7,s9,BI,BZ,QX,QW,QV,CL,BX,BU,EF,EE,CR,CU,ED,EC,EB,EA,D9],⟨AW Q d (max m (TyD.hgs ys)),lo⟩⟩):=by
 induction ys with
 |nil =>
  intro pre m h3 h4 h5;have AL:=DL pre;have e1:max m (TyD.hgs [])=m:=by simp only[TyD.hgs];omega
  rw[e1];simp only[Ao];clear e1 h3;iterate 19 apply Exists.intro
  refine tI rfl ?_;exact wk;all_goals exact .dead
 |cons y ys ih =>
  intro pre m h3 h4 h5;have AN:=dK TyD.enc pre ys y;have AL:=CY pre ys y;have h0:=zI pre.length;have hw:=wL pre ys y h3;simp only[TyD.hgs] at h4;simp only[TyD.szs] at h5;have hy:=aX6 y Q d lo m 1 hd AP (by omega) (by omega);obtain⟨s1,s3,s5,s7,s9,BI,BZ,CL,BX,BU,EF,EE,CR,CU,ED,EC,EB,EA,D9,ih⟩:=ih (pre++[y]) (max m (1+y.hg)) (by simpa using h3) (by omega) (by omega);simp only[Aj,Am] at ih;have e1:max (max m (1+y.hg)) (TyD.hgs ys)=max m (TyD.hgs (y::ys)):=by simp only[TyD.hgs];omega
  rw[e1] at ih;rw[dN y] at AN hy;have e0:((1:Nat):Int)=1:=rfl;rw[e0] at hy;refine⟨s1,s3,s5,s7,s9,BI,BZ,CL,BX,BU,EF,EE,CR,CU,ED,EC,EB,EA,D9,?_⟩;refine tI rfl ?_;clear e0 e1 h3 h4 h5 hd AP;exact wk
theorem aAj{Q:List AObj}{d lo:Nat}(hd:d<Q.length)(AP:lo<=d)(ys:List CoD):∀(pre:List CoD)(m:Nat),(pre++ys).length<AV->Gy ys<=100->JE ys<4000 ->
  ∃s1 s3 s5 s7 s9 BI BZ BH CD DD CL BX BU EF EE CR CU ED EC EB EA D9,LP 118 (aS Tryz.f118 0) ⟨[.val (.loc d 0),.dead,.dead,.dead,.dead,.dead,.dead,.dead,.val (.slice ((pre++ys).map CoD.enc)),.val (.int .i64 ((pre++ys).length:Nat)),.val (.int .i64 (pre.length:Nat)),.dead,.dead,.dead,.dead,.dead,.dead,.dead,.dead,.dead,.dead,.dead,.dead],⟨AW Q d m,lo⟩⟩ =
   some (.exit 1,⟨[.val (.loc d 0),s1,s3,s5,s7,s9,BI,BZ,BH,CD,DD,CL,BX,BU,EF,EE,CR,CU,ED,EC,EB,EA,D9],⟨AW Q d (max m (Gy ys)),lo⟩⟩):=by
 induction ys with
 |nil =>
  intro pre m h3 h4 h5;have AL:=DL pre;have e1:max m (Gy [])=m:=by simp only[Gy];omega
  rw[e1];simp only[Ao];clear e1 h3;iterate 22 apply Exists.intro
  refine tI rfl ?_;exact wk;all_goals exact .dead
 |cons y ys ih =>
  intro pre m h3 h4 h5;have AN:=dK CoD.enc pre ys y;have AL:=CY pre ys y;have h0:=zI pre.length;have hw:=wL pre ys y h3;simp only[Gy] at h4;simp only[JE] at h5;have Gu:=TyD.szs_len y.args;obtain⟨m1,m3,m5,m7,m9,Sd,m12,m19,Sc,Sb,m25,m26,m34,m40,m43,m44,m45,m46,m54,hl⟩:=aAk hd AP (.val (.slice ((pre++y::ys).map CoD.enc))) (.val (.int .i64 ((pre++y::ys).length:Nat))) (.val (.int .i64 (pre.length:Nat))) y.args [] m (by simp only[Ak,AV];omega) (by omega) (by omega);simp only[Ak,Ar] at hl;have e0:((0:Nat):Int)=0:=rfl;rw[e0] at hl;obtain⟨s1,s3,s5,s7,s9,BI,BZ,BH,CD,DD,CL,BX,BU,EF,EE,CR,CU,ED,EC,EB,EA,D9,ih⟩:=ih (pre++[y]) (max m (TyD.hgs y.args)) (by simpa using h3) (by omega) (by omega);simp only[Aj,Am] at ih;have e1:max (max m (TyD.hgs y.args)) (Gy ys)=max m (Gy (y::ys)):=by simp only[Gy];omega
  rw[e1] at ih;rw[y.enc_eq] at AN;refine⟨s1,s3,s5,s7,s9,BI,BZ,BH,CD,DD,CL,BX,BU,EF,EE,CR,CU,ED,EC,EB,EA,D9,?_⟩;refine tI rfl ?_;clear e0 e1 h3 h4 h5 hd AP Gu;exact B9
theorem aAm{Q:List AObj}{d lo:Nat}(hd:d<Q.length)(AP:lo<=d)(ys:List FuD):∀(pre:List FuD)(m:Nat),(pre++ys).length<AV->Gx ys<=100->JC ys<4000 ->
  ∃s1 s3 s5 s7 s9 BI BZ BH CD DD CL BX BU EF EE CR CU ED EC EB EA D9,LP 118 (aS Tryz.f118 2) ⟨[.val (.loc d 0),.dead,.dead,.dead,.dead,.dead,.dead,.dead,.dead,.dead,.dead,.dead,.dead,.dead,.dead,.dead,.dead,.dead,.val (.slice ((pre++ys).map FuD.enc)),.val (.int .i64 ((pre++ys).length:Nat)),.val (.int .i64 (pre.length:Nat)),.dead,.dead],⟨AW Q d m,lo⟩⟩ =
   some (.exit 5,⟨[.val (.loc d 0),s1,s3,s5,s7,s9,BI,BZ,BH,CD,DD,CL,BX,BU,EF,EE,CR,CU,ED,EC,EB,EA,D9],⟨AW Q d (max m (Gx ys)),lo⟩⟩):=by
 induction ys with
 |nil =>
  intro pre m h3 h4 h5;have AL:=DL pre;have e1:max m (Gx [])=m:=by simp only[Gx];omega
  rw[e1];simp only[Ao];clear e1 h3;iterate 22 apply Exists.intro
  refine tI rfl ?_;exact wk;all_goals exact .dead
 |cons y ys ih =>
  intro pre m h3 h4 h5;have AN:=dK FuD.enc pre ys y;have AL:=CY pre ys y;have h0:=zI pre.length;have hw:=wL pre ys y h3;simp only[Gx] at h4;simp only[JC] at h5;have hy:=VH y.body Q d lo m 1 hd AP (by omega) (by omega);obtain⟨s1,s3,s5,s7,s9,BI,BZ,BH,CD,DD,CL,BX,BU,EF,EE,CR,CU,ED,EC,EB,EA,D9,ih⟩:=ih (pre++[y]) (max m (1+y.body.hg)) (by simpa using h3) (by omega) (by omega);simp only[Aj,Am] at ih;have e1:max (max m (1+y.body.hg)) (Gx ys)=max m (Gx (y::ys)):=by simp only[Gx];omega
  rw[e1] at ih;rw[y.enc_eq] at AN;rw[y.body.enc_eq] at hy;have e0:((1:Nat):Int)=1:=rfl;rw[e0] at hy;refine⟨s1,s3,s5,s7,s9,BI,BZ,BH,CD,DD,CL,BX,BU,EF,EE,CR,CU,ED,EC,EB,EA,D9,?_⟩;refine tI rfl ?_;clear e0 e1 h3 h4 h5 hd AP;exact wk
theorem aXN(x:DeD)(hx:x.okK=true)(h4:x.hg<=100)(h5:x.sz<4000){Q:List AObj}{d lo:Nat}(hd:d<Q.length)(AP:lo<=d)(m:Nat) :
  CF (.fn 118) [.val (.loc d 0),.val x.enc] ⟨AW Q d m,lo⟩=some (.ret (.tup []),⟨AW Q d (max m x.hg),lo⟩):=by
 simp only[DeD.okK,Ac,Ch,Cf] at hx;obtain⟨⟨⟨hk,hc⟩,_⟩,hf⟩:=hx;rw[x.enc_eq];rcases hk with(hk|hk)|hk
 ·obtain hk:=Bx.1 hk
  simp only[DeD.hg,DeD.sz,hk,Cd,Bl] at h4 h5 ⊢;obtain⟨s1,s3,s5,s7,s9,BI,BZ,BH,CD,DD,CL,BX,BU,EF,EE,CR,CU,ED,EC,EB,EA,D9,hl⟩:=aAj hd AP x.cons [] m (by simp only[Ak,AV];omega) h4 h5;simp only[Ak,Ar] at hl;have e0:((0:Nat):Int)=0:=rfl;rw[e0] at hl;clear hd AP h4 h5 hc hf hk;refine nT ?_;exact u9 rfl
 ·obtain hk:=Bx.1 hk
  simp only[DeD.hg,DeD.sz,hk,show((3:Int)==1)=false from rfl,Cd,Bl,Be] at h4 h5 ⊢;obtain⟨s1,s3,s5,s7,s9,BI,BZ,BH,CD,DD,CL,BX,BU,EF,EE,CR,CU,ED,EC,EB,EA,D9,hl⟩:=aAm hd AP x.funs [] m (by simp only[Ak,AV];omega) h4 h5;simp only[Ak,Ar] at hl;have e0:((0:Nat):Int)=0:=rfl;rw[e0] at hl;clear hd AP h4 h5 hc hf hk;refine nT ?_;exact u9 rfl
 ·obtain hk:=Bx.1 hk
  simp only[DeD.hg,DeD.sz,hk,show((5:Int)==1)=false from rfl,show((5:Int)==3)=false from rfl,Be] at h4 h5 ⊢;have hy:=VH x.body Q d lo m 1 hd AP (by omega) h5;rw[x.body.enc_eq] at hy;have e0:((1:Nat):Int)=1:=rfl;rw[e0] at hy;clear hd AP h4 h5 hc hf hk e0;refine GR ?_;exact u9 rfl
theorem aMj{Q:List AObj}{d lo:Nat}(hd:d<Q.length)(AP:lo<=d)(ys:List DeD):∀(pre:List DeD)(m:Nat),(pre++ys).length<AV->(∀y∈ys,y.okK=true)->DV ys<=100->E6 ys<4000 ->
  ∃s0 s1 s2 s5 s9 s10 BI BZ,LP 41 (aS Tryz.f41 0) ⟨[.dead,.dead,.dead,.val (.loc d 0),.dead,.val (.slice ((pre++ys).map DeD.enc)),.val (.int .i64 ((pre++ys).length:Nat)),.val (.int .i64 (pre.length:Nat)),.dead],⟨AW Q d m,lo⟩⟩ =
   some (.exit 0,⟨[s0,s1,s2,.val (.loc d 0),s5,s9,s10,BI,BZ],⟨AW Q d (max m (DV ys)),lo⟩⟩):=by
 induction ys with
 |nil =>
  intro pre m h3 hk h4 h5;have AL:=DL pre;have e1:max m (DV [])=m:=by simp only[DV];omega
  rw[e1];simp only[Ao];clear e1 h3 hk;iterate 8 apply Exists.intro
  refine tI rfl ?_;exact wk;all_goals exact .dead
 |cons y ys ih =>
  intro pre m h3 hk h4 h5;have AN:=dK DeD.enc pre ys y;have AL:=CY pre ys y;have h0:=zI pre.length;have hw:=wL pre ys y h3;simp only[DV] at h4;simp only[E6] at h5;have hy:=aXN y (hk y (by simp)) (by omega) (by omega) hd AP m;obtain⟨s0,s1,s2,s5,s9,s10,BI,BZ,ih⟩:=ih (pre++[y]) (max m y.hg) (by simpa using h3) (λx hx=>hk x (by simp[hx])) (by omega) (by omega);simp only[Aj,Am] at ih;have e1:max (max m y.hg) (DV ys)=max m (DV (y::ys)):=by simp only[DV];omega
  rw[e1] at ih;rw[y.enc_eq] at AN hy;refine⟨s0,s1,s2,s5,s9,s10,BI,BZ,?_⟩;refine tI rfl ?_;clear e1 h3 h4 h5 hd AP hk;exact wk
theorem c41(l:List DeD)(hl:l.length<AV)(hk:∀y∈l,y.okK=true)(h4:DV l<=100)(h5:E6 l<=2000)(O:List AObj)(lo:Nat)(AP:lo<=O.length):CF (.fn 41) [.val (.agg [.slice (l.map DeD.enc)])] ⟨O,lo⟩=some (.ret (.val (.int .i64 (DV l:Nat))),⟨O,lo⟩):=by
 have e:∀m,AW (O++[.box []]) O.length m=O++[.box [.val (.int .i64 (m:Nat))]]:=λm=>by simp[AW]
 obtain⟨s0,s1,s2,s5,s9,s10,BI,BZ,BJ⟩:=aMj (Q:=O++[.box []]) (d:=O.length) (lo:=lo) (by simp) AP l [] 0 (by simpa using hl) hk h4 (by omega);rw[e,e] at BJ;simp only[Ak,Ar,Gg,show((0:Nat):Int)=0 from rfl] at BJ;have o1:∀A,(O++[A])[O.length]?=some A:=λA=>by simp
 have k0:Nat.ble lo O.length=true:=Ah AP;clear hk AP e hl h4 h5;exact G5
theorem aAo{Q:List AObj}{d lo:Nat}(hd:d<Q.length)(AP:lo<=d)(QX QW QV:Slot)(ys:List TyD):∀(pre:List TyD)(s m:Nat),(pre++ys).length<AV->TyD.hgs ys<=100->TyD.szs ys<4000->s+TyD.szs ys<=2001 ->
  ∃s1 s3 s5 s7 s9 BI BZ CL BX BU EF EE CR CU ED EC EB EA D9,LP 119 (aS Tryz.f119 1) ⟨[.val (.loc d 0),.dead,.dead,.dead,.dead,.dead,.dead,.dead,QX,QW,QV,.dead,.val (.slice ((pre++ys).map TyD.enc)),.val (.int .i64 ((pre++ys).length:Nat)),.val (.int .i64 (pre.length:Nat)),.dead,.dead,.dead,.dead,.dead,.dead,.dead,.dead],⟨BG Q d s m,lo⟩⟩ =
   some (.exit 3,⟨[.val (.loc d 0),s1,s3,s5,s7,s9,BI,BZ,QX,QW,QV,CL,BX,BU,EF,EE,CR,CU,ED,EC,EB,EA,D9],⟨BG Q d (s+TyD.szs ys) (max m (TyD.hgs ys)),lo⟩⟩):=by
 induction ys with
 |nil =>
  intro pre s m h3 h4 h5 hs;have AL:=DL pre;have e1:max m (TyD.hgs [])=m:=by simp only[TyD.hgs];omega
  rw[e1];simp only[Ao,TyD.szs,Aw];clear e1 h3;iterate 19 apply Exists.intro
  refine tI rfl ?_;exact wk;all_goals exact .dead
 |cons y ys ih =>
  intro pre s m h3 h4 h5 hs;have AN:=dK TyD.enc pre ys y;have AL:=CY pre ys y;have h0:=zI pre.length;have hw:=wL pre ys y h3;simp only[TyD.hgs] at h4;simp only[TyD.szs] at h5 hs;have hy:=aX7 y Q d lo s m 1 hd AP (by omega) (by omega) (by omega);obtain⟨s1,s3,s5,s7,s9,BI,BZ,CL,BX,BU,EF,EE,CR,CU,ED,EC,EB,EA,D9,ih⟩:=ih (pre++[y]) (s+y.sz) (max m (1+y.hg)) (by simpa using h3) (by omega) (by omega) (by omega);simp only[Aj,Am] at ih;have e1:max (max m (1+y.hg)) (TyD.hgs ys)=max m (TyD.hgs (y::ys)):=by simp only[TyD.hgs];omega
  rw[e1] at ih;have e2:s+y.sz+TyD.szs ys=s+TyD.szs (y::ys):=by simp only[TyD.szs];omega
  rw[e2] at ih;rw[dN y] at AN hy;have e0:((1:Nat):Int)=1:=rfl;rw[e0] at hy;refine⟨s1,s3,s5,s7,s9,BI,BZ,CL,BX,BU,EF,EE,CR,CU,ED,EC,EB,EA,D9,?_⟩;refine tI rfl ?_;clear e0 e1 h3 h4 h5 hd AP;exact wk
theorem aAn{Q:List AObj}{d lo:Nat}(hd:d<Q.length)(AP:lo<=d)(ys:List CoD):∀(pre:List CoD)(s m:Nat),(pre++ys).length<AV->Gy ys<=100->JE ys<4000->s+JE ys<=2001 ->
  ∃s1 s3 s5 s7 s9 BI BZ BH CD DD CL BX BU EF EE CR CU ED EC EB EA D9,LP 119 (aS Tryz.f119 0) ⟨[.val (.loc d 0),.dead,.dead,.dead,.dead,.dead,.dead,.dead,.val (.slice ((pre++ys).map CoD.enc)),.val (.int .i64 ((pre++ys).length:Nat)),.val (.int .i64 (pre.length:Nat)),.dead,.dead,.dead,.dead,.dead,.dead,.dead,.dead,.dead,.dead,.dead,.dead],⟨BG Q d s m,lo⟩⟩ =
   some (.exit 1,⟨[.val (.loc d 0),s1,s3,s5,s7,s9,BI,BZ,BH,CD,DD,CL,BX,BU,EF,EE,CR,CU,ED,EC,EB,EA,D9],⟨BG Q d (s+JE ys) (max m (Gy ys)),lo⟩⟩):=by
 induction ys with
 |nil =>
  intro pre s m h3 h4 h5 hs;have AL:=DL pre;have e1:max m (Gy [])=m:=by simp only[Gy];omega
  rw[e1];simp only[Ao,JE,Aw];clear e1 h3;iterate 22 apply Exists.intro
  refine tI rfl ?_;exact wk;all_goals exact .dead
 |cons y ys ih =>
  intro pre s m h3 h4 h5 hs;have AN:=dK CoD.enc pre ys y;have AL:=CY pre ys y;have h0:=zI pre.length;have hw:=wL pre ys y h3;simp only[Gy] at h4;simp only[JE] at h5 hs;have Gu:=TyD.szs_len y.args;obtain⟨m1,m3,m5,m7,m9,Sd,m12,m19,Sc,Sb,m25,m26,m34,m40,m43,m44,m45,m46,m54,hl⟩:=aAo hd AP (.val (.slice ((pre++y::ys).map CoD.enc))) (.val (.int .i64 ((pre++y::ys).length:Nat))) (.val (.int .i64 (pre.length:Nat))) y.args [] s m (by simp only[Ak,AV];omega) (by omega) (by omega) (by omega);simp only[Ak,Ar] at hl;have e0:((0:Nat):Int)=0:=rfl;rw[e0] at hl;obtain⟨s1,s3,s5,s7,s9,BI,BZ,BH,CD,DD,CL,BX,BU,EF,EE,CR,CU,ED,EC,EB,EA,D9,ih⟩:=ih (pre++[y]) (s+TyD.szs y.args) (max m (TyD.hgs y.args)) (by simpa using h3) (by omega) (by omega) (by omega);simp only[Aj,Am] at ih;have e1:max (max m (TyD.hgs y.args)) (Gy ys)=max m (Gy (y::ys)):=by simp only[Gy];omega
  rw[e1] at ih;have e2:s+TyD.szs y.args+JE ys=s+JE (y::ys):=by simp only[JE];omega
  rw[e2] at ih;rw[y.enc_eq] at AN;refine⟨s1,s3,s5,s7,s9,BI,BZ,BH,CD,DD,CL,BX,BU,EF,EE,CR,CU,ED,EC,EB,EA,D9,?_⟩;refine tI rfl ?_;clear e0 e1 h3 h4 h5 hd AP Gu;exact B9
theorem aAp{Q:List AObj}{d lo:Nat}(hd:d<Q.length)(AP:lo<=d)(ys:List FuD):∀(pre:List FuD)(s m:Nat),(pre++ys).length<AV->Gx ys<=100->JC ys<4000->s+JC ys<=2001 ->
  ∃s1 s3 s5 s7 s9 BI BZ BH CD DD CL BX BU EF EE CR CU ED EC EB EA D9,LP 119 (aS Tryz.f119 2) ⟨[.val (.loc d 0),.dead,.dead,.dead,.dead,.dead,.dead,.dead,.dead,.dead,.dead,.dead,.dead,.dead,.dead,.dead,.dead,.dead,.val (.slice ((pre++ys).map FuD.enc)),.val (.int .i64 ((pre++ys).length:Nat)),.val (.int .i64 (pre.length:Nat)),.dead,.dead],⟨BG Q d s m,lo⟩⟩ =
   some (.exit 5,⟨[.val (.loc d 0),s1,s3,s5,s7,s9,BI,BZ,BH,CD,DD,CL,BX,BU,EF,EE,CR,CU,ED,EC,EB,EA,D9],⟨BG Q d (s+JC ys) (max m (Gx ys)),lo⟩⟩):=by
 induction ys with
 |nil =>
  intro pre s m h3 h4 h5 hs;have AL:=DL pre;have e1:max m (Gx [])=m:=by simp only[Gx];omega
  rw[e1];simp only[Ao,JC,Aw];clear e1 h3;iterate 22 apply Exists.intro
  refine tI rfl ?_;exact wk;all_goals exact .dead
 |cons y ys ih =>
  intro pre s m h3 h4 h5 hs;have AN:=dK FuD.enc pre ys y;have AL:=CY pre ys y;have h0:=zI pre.length;have hw:=wL pre ys y h3;simp only[Gx] at h4;simp only[JC] at h5 hs;have hy:=VG y.body Q d lo s m 1 hd AP (by omega) (by omega) (by omega);obtain⟨s1,s3,s5,s7,s9,BI,BZ,BH,CD,DD,CL,BX,BU,EF,EE,CR,CU,ED,EC,EB,EA,D9,ih⟩:=ih (pre++[y]) (s+y.body.sz) (max m (1+y.body.hg)) (by simpa using h3) (by omega) (by omega) (by omega);simp only[Aj,Am] at ih;have e1:max (max m (1+y.body.hg)) (Gx ys)=max m (Gx (y::ys)):=by simp only[Gx];omega
  rw[e1] at ih;have e2:s+y.body.sz+JC ys=s+JC (y::ys):=by simp only[JC];omega
  rw[e2] at ih;rw[y.enc_eq] at AN;rw[y.body.enc_eq] at hy;have e0:((1:Nat):Int)=1:=rfl;rw[e0] at hy;refine⟨s1,s3,s5,s7,s9,BI,BZ,BH,CD,DD,CL,BX,BU,EF,EE,CR,CU,ED,EC,EB,EA,D9,?_⟩;refine tI rfl ?_;clear e0 e1 h3 h4 h5 hd AP;exact wk
theorem aXO(x:DeD)(hx:x.okK=true)(h4:x.hg<=100)(h5:x.sz<4000){Q:List AObj}{d lo:Nat}(hd:d<Q.length)(AP:lo<=d)(s m:Nat)(hs:s+x.sz<=2001) :
  CF (.fn 119) [.val (.loc d 0),.val x.enc] ⟨BG Q d s m,lo⟩=some (.ret (.tup []),⟨BG Q d (s+x.sz) (max m x.hg),lo⟩):=by
 simp only[DeD.okK,Ac,Ch,Cf] at hx;obtain⟨⟨⟨hk,hc⟩,_⟩,hf⟩:=hx;rw[x.enc_eq];rcases hk with(hk|hk)|hk
 ·obtain hk:=Bx.1 hk
  simp only[DeD.hg,DeD.sz,hk,Cd,Bl] at h4 h5 hs ⊢;obtain⟨s1,s3,s5,s7,s9,BI,BZ,BH,CD,DD,CL,BX,BU,EF,EE,CR,CU,ED,EC,EB,EA,D9,hl⟩:=aAn hd AP x.cons [] s m (by simp only[Ak,AV];omega) h4 h5 hs;simp only[Ak,Ar] at hl;have e0:((0:Nat):Int)=0:=rfl;rw[e0] at hl;clear hd AP h4 h5 hc hf hk;refine nT ?_;exact vC rfl
 ·obtain hk:=Bx.1 hk
  simp only[DeD.hg,DeD.sz,hk,show((3:Int)==1)=false from rfl,Cd,Bl,Be] at h4 h5 hs ⊢;obtain⟨s1,s3,s5,s7,s9,BI,BZ,BH,CD,DD,CL,BX,BU,EF,EE,CR,CU,ED,EC,EB,EA,D9,hl⟩:=aAp hd AP x.funs [] s m (by simp only[Ak,AV];omega) h4 h5 hs;simp only[Ak,Ar] at hl;have e0:((0:Nat):Int)=0:=rfl;rw[e0] at hl;clear hd AP h4 h5 hc hf hk;refine nT ?_;exact vC rfl
 ·obtain hk:=Bx.1 hk
  simp only[DeD.hg,DeD.sz,hk,show((5:Int)==1)=false from rfl,show((5:Int)==3)=false from rfl,Be] at h4 h5 hs ⊢;have hy:=VG x.body Q d lo s m 1 hd AP (by omega) h5 (by omega);rw[x.body.enc_eq] at hy;have e0:((1:Nat):Int)=1:=rfl;rw[e0] at hy;clear hd AP h4 h5 hc hf hk e0;refine GR ?_;exact vC rfl
theorem aMk{Q:List AObj}{d lo:Nat}(hd:d<Q.length)(AP:lo<=d)(ys:List DeD):∀(pre:List DeD)(s m:Nat),(pre++ys).length<AV->(∀y∈ys,y.okK=true)->DV ys<=100->E6 ys<4000->s+E6 ys<=2001 ->
  ∃s0 s1 s2 s5 s9 s10 BI BZ,LP 42 (aS Tryz.f42 0) ⟨[.dead,.dead,.dead,.val (.loc d 0),.dead,.val (.slice ((pre++ys).map DeD.enc)),.val (.int .i64 ((pre++ys).length:Nat)),.val (.int .i64 (pre.length:Nat)),.dead],⟨BG Q d s m,lo⟩⟩ =
   some (.exit 0,⟨[s0,s1,s2,.val (.loc d 0),s5,s9,s10,BI,BZ],⟨BG Q d (s+E6 ys) (max m (DV ys)),lo⟩⟩):=by
 induction ys with
 |nil =>
  intro pre s m h3 hk h4 h5 hs;have AL:=DL pre;have e1:max m (DV [])=m:=by simp only[DV];omega
  rw[e1];simp only[Ao,E6,Aw];clear e1 h3 hk;iterate 8 apply Exists.intro
  refine tI rfl ?_;exact wk;all_goals exact .dead
 |cons y ys ih =>
  intro pre s m h3 hk h4 h5 hs;have AN:=dK DeD.enc pre ys y;have AL:=CY pre ys y;have h0:=zI pre.length;have hw:=wL pre ys y h3;simp only[DV] at h4;simp only[E6] at h5 hs;have hy:=aXO y (hk y (by simp)) (by omega) (by omega) hd AP s m (by omega);obtain⟨s0,s1,s2,s5,s9,s10,BI,BZ,ih⟩:=ih (pre++[y]) (s+y.sz) (max m y.hg) (by simpa using h3) (λx hx=>hk x (by simp[hx])) (by omega) (by omega) (by omega);simp only[Aj,Am] at ih;have e1:max (max m y.hg) (DV ys)=max m (DV (y::ys)):=by simp only[DV];omega
  rw[e1] at ih;have e2:s+y.sz+E6 ys=s+E6 (y::ys):=by simp only[E6];omega
  rw[e2] at ih;rw[y.enc_eq] at AN hy;refine⟨s0,s1,s2,s5,s9,s10,BI,BZ,?_⟩;refine tI rfl ?_;clear e1 h3 h4 h5 hd AP hk;exact wk
theorem c42(l:List DeD)(hl:l.length<AV)(hk:∀y∈l,y.okK=true)(h4:DV l<=100)(h5:E6 l<=2000)(O:List AObj)(lo:Nat)(AP:lo<=O.length):CF (.fn 42) [.val (.agg [.slice (l.map DeD.enc)])] ⟨O,lo⟩=some (.ret (.val (.int .i64 (E6 l:Nat))),⟨O,lo⟩):=by
 have e:∀s m,BG (O++[.box []]) O.length s m=O++[.box [.val (.int .i64 (s:Nat)),.val (.int .i64 (m:Nat))]]:=λs m=>by simp[BG]
 obtain⟨s0,s1,s2,s5,s9,s10,BI,BZ,BJ⟩:=aMk (Q:=O++[.box []]) (d:=O.length) (lo:=lo) (by simp) AP l [] 0 0 (by simpa using hl) hk h4 (by omega) (by omega);rw[e,e] at BJ;simp only[Ak,Ar,Bo,Gg,show((0:Nat):Int)=0 from rfl] at BJ;have o1:∀A,(O++[A])[O.length]?=some A:=λA=>by simp
 have k0:Nat.ble lo O.length=true:=Ah AP;clear hk AP e hl h4 h5;exact G5
def opsL:List (List UInt8):=[[43],[45],[42],[47],[37],[60],[61]]
def WB(s:List UInt8)(n:Nat):Prop:=(s=[44]/\2<=n/\n<=4)\/(eD s=some 3/\n<=16)
inductive WT:TyD->Prop
 |var (s:List UInt8) (h:eD s=some 4):WT (.mk s [])
 |con (s:List UInt8) (l:List TyD) (h:eD s=some 3) (hl:l.length<=16) (hw:∀a∈l,WT a):WT (.mk s l)
inductive WP:PaD->Prop
 |wild:WP (.mk 1 [] [])
 |var (s:List UInt8) (h:eD s=some 2):WP (.mk 2 s [])
 |con (s:List UInt8) (l:List PaD) (h:WB s l.length) (hw:∀a∈l,WP a):WP (.mk 3 s l)
inductive WE:ExD->Prop
 |num (n:Int):WE (.mk 1 n [] [] [] [])
 |var (s:List UInt8) (h:eD s=some 2):WE (.mk 2 0 s [] [] [])
 |con (s:List UInt8) (l:List ExD) (h:WB s l.length) (hw:∀a∈l,WE a):WE (.mk 3 0 s [] l [])
 |app (l:List ExD) (hl:l.length=2) (hw:∀a∈l,WE a):WE (.mk 4 0 [] [] l [])
 |fn (a:List UInt8) (l:List ExD) (h:eD a=some 2) (hl:l.length=1) (hw:∀a∈l,WE a):WE (.mk 5 0 [] a l [])
 |recf (s a:List UInt8) (l:List ExD) (h:eD s=some 2) (h2:eD a=some 2) (hl:l.length=2) (hw:∀a∈l,WE a):WE (.mk 7 0 s a l [])
 |case (l:List ExD) (pl:List PaD) (h1:1<=pl.length) (h2:pl.length<=16) (h3:l.length=pl.length+1) (hw:∀a∈l,WE a) (hp:∀p∈pl,WP p):WE (.mk 8 0 [] [] l pl)
 |op (s:List UInt8) (l:List ExD) (h:s∈opsL) (hl:l.length=2) (hw:∀a∈l,WE a):WE (.mk 9 0 s [] l [])
theorem ff(s:List UInt8)(h:eD s=some 2)(S:AH):CF (.fn 126) [.val (.str s)] S=some (.ret (.val (.bool true)),S):=by
 have h1:=Rl s 2 h;clear h;exact wk
theorem Yn(s:List UInt8)(h:eD s=some 4)(S:AH):CF (.fn 172) [.val (.str s)] S=some (.ret (.val (.bool true)),S):=by
 have h1:=Rl s 4 h;clear h;exact wk
theorem aRP(s:List UInt8)(h:eD s=some 3)(S:AH):CF (.fn 172) [.val (.str s)] S=some (.ret (.val (.bool false)),S):=by
 have h1:=Rl s 3 h;clear h;exact wk
theorem tU{s:List UInt8}{k:Int}(h:eD s=some k):(s==[])=false/\(s==[44])=false/\(s==[45,62])=false:=by
 refine⟨?_,?_,?_⟩
 ·cases hc:s==[] with
  |false=>rfl
  |true=>rw[Bx.1 hc] at h;exact absurd h (by rw[show eD []=none by decide];intro h;cases h)
 ·cases hc:s==[44] with
  |false=>rfl
  |true=>rw[Bx.1 hc] at h;exact absurd h (by rw[show eD [44]=none by decide];intro h;cases h)
 ·cases hc:s==[45,62] with
  |false=>rfl
  |true=>rw[Bx.1 hc] at h;exact absurd h (by rw[show eD [45,62]=none by decide];intro h;cases h)
theorem pL{s:List UInt8}(h:eD s=some 3):nX s=true:=by simp only[nX,h,Cd]
theorem Ym(s:List UInt8)(n:Nat)(h:WB s n)(S:AH):CF (.fn 183) [.val (.str s),.val (.int .i64 (n:Nat))] S=some (.ret (.val (.bool true)),S):=by
 rcases h with⟨h1,h2,h3⟩|⟨h1,h2⟩
 ·subst h1
  have k1:decide (((n:Nat):Int)>=2)=true:=by simp;omega
  have k2:decide (((n:Nat):Int)<=4)=true:=by simp;omega
  clear h2 h3;exact wk
 ·have k1:=(tU h1).2.1
  have k2:=ze s (pL h1);have k3:decide (((n:Nat):Int)<=16)=true:=by simp;omega
  clear h1 h2;exact wk
theorem aXR:∀t:TyD,WT t->∀S:AH,S.lo<=S.objs.length->CF (.fn 127) [.val t.enc] S=some (.ret (.val (.bool true)),S):=by
 intro t h;induction h with
 |var s h =>
  intro S hS;have h1:=VA 127 [] (by simp[AV]) S hS (λx hx=>by cases hx);have h2:=Yn s h;obtain⟨_,k2,k3⟩:=tU h;rw[TyD.enc_mk];simp only[Ax] at h1 ⊢;clear h hS;exact wk
 |con s l h hl hw ih =>
  intro S hS;have h1:=VA 127 l (by simp only[AV];omega) S hS ih;have h2:=aRP s h;have h3:=ze s (pL h);obtain⟨_,k2,k3⟩:=tU h;have k4:decide (((l.length:Nat):Int)<=16)=true:=by simp;omega
  rw[TyD.enc_mk];clear h hS hl hw ih;exact B9
theorem aX4:∀t:PaD,WP t->∀S:AH,S.lo<=S.objs.length->CF (.fn 182) [.val t.enc] S=some (.ret (.val (.bool true)),S):=by
 intro t h;induction h with
 |wild =>
  intro S hS;have h1:=QG 182 [] (by simp[AV]) S hS (λx hx=>by cases hx);rw[PaD.enc_mk];simp only[Ax] at h1 ⊢;clear hS;exact wk
 |var s h =>
  intro S hS;have h1:=QG 182 [] (by simp[AV]) S hS (λx hx=>by cases hx);have h2:=ff s h;rw[PaD.enc_mk];simp only[Ax] at h1 ⊢;clear h hS;exact wk
 |con s l h hw ih =>
  intro S hS;have hl:l.length<1000:=by rcases h with⟨_,_,h⟩|⟨_,h⟩<;>omega
  have h1:=QG 182 l (by simp only[AV];omega) S hS ih;have h2:=Ym s l.length h;rw[PaD.enc_mk];clear h hS hl hw ih;exact B9
theorem aGf(s:List UInt8)(sto:AH)(ys:List (List UInt8)):∀(pre:List (List UInt8)),(pre++ys).length<AV->s∈ys ->
  ∃(r:Int),decide (r>=0)=true/\∃s0 s1 s5 s7 s8 s9 BH,LP 228 (aS Tryz.f228 0) ⟨[.val (.slice ((pre++ys).map .str)),.val (.str s),.dead,.dead,.val (.int .i64 ((pre++ys).length:Nat)),.val (.int .i64 (pre.length:Nat)),.dead,.dead],sto⟩=some (.ret,⟨[s0,s1,.val (.int .i64 r),s5,s7,s8,s9,BH],sto⟩):=by
 induction ys with
 |nil=>intro pre h3 hm;cases hm
 |cons y ys ih =>
  intro pre h3 hm;have AN:=dK AVal.str pre ys y;have AL:=CY pre ys y;have h0:=zI pre.length;have hw:=wL pre ys y h3;cases hp:s==y with
  |true =>
   refine⟨(pre.length:Nat),h0,?_⟩;clear ih hm;iterate 7 apply Exists.intro
   refine tI rfl ?_;exact wk;all_goals exact .dead
  |false =>
   have NA:s∈ys:=by
    rcases Au.1 hm with h|h
    ·rw[h,Cd] at hp;cases hp
    ·exact h
   obtain⟨r,hr,s0,s1,s5,s7,s8,s9,BH,ih⟩:=ih (pre++[y]) (by simpa using h3) NA;simp only[Aj,Am] at ih;refine⟨r,hr,s0,s1,s5,s7,s8,s9,BH,?_⟩;clear hm NA;refine tI rfl ?_;exact wk
theorem aXZ(s:List UInt8)(h:s∈opsL)(sto:AH):CF (.fn 173) [.val (.slice (opsL.map .str)),.val (.str s)] sto=some (.ret (.val (.bool true)),sto):=by
 obtain⟨r,hr,s0,s1,s5,s7,s8,s9,BH,BJ⟩:=aGf s sto opsL [] (by simp[opsL,AV]) h;simp only[Ak,Ar] at BJ;have e0:((0:Nat):Int)=0:=rfl;rw[e0] at BJ;clear h
 have h228:CF (.fn 228) [.val (.slice (opsL.map .str)),.val (.str s)] sto=some (.ret (.val (.int .i64 r)),sto):=by
  exact B9
 clear BJ;exact wk
theorem aX5(sto:AH):CF (.fn 184) [] sto=some (.ret (.val (.slice (opsL.map .str))),sto):=by
 show CF (.fn 184) [] sto=some (ARes.ret (.val (.slice [.str [43],.str [45],.str [42],.str [47],.str [37],.str [60],.str [61]])),sto);exact B9
theorem VF:∀e:ExD,WE e->∀S:AH,S.lo<=S.objs.length->CF (.fn 117) [.val e.enc] S=some (.ret (.val (.bool true)),S):=by
 intro e h;have JY:=λS hS=>ns 117 [] (by simp[AV]) S hS (λx hx=>by cases hx)
 have He:=λS hS=>QG 182 [] (by simp[AV]) S hS (λx hx=>by cases hx)
 simp only[Ax] at JY He;induction h with
 |num n =>
  intro S hS;have h1:=JY S hS;have h2:=He S hS;rw[ExD.enc_mk];simp only[Ax];clear hS JY He;exact wk
 |var s h =>
  intro S hS;have h1:=JY S hS;have h2:=He S hS;have h3:=ff s h;rw[ExD.enc_mk];simp only[Ax];clear hS JY He h;exact wk
 |con s l h hw ih =>
  intro S hS;have hl:l.length<1000:=by rcases h with⟨_,_,h⟩|⟨_,h⟩<;>omega
  have h1:=ns 117 l (by simp only[AV];omega) S hS ih;have h2:=He S hS;have h3:=Ym s l.length h;rw[ExD.enc_mk];simp only[Ax];clear hS JY He h hw ih hl;exact B9
 |app l hl hw ih =>
  intro S hS;have h1:=ns 117 l (by simp only[AV];omega) S hS ih;have h2:=He S hS;have k1:((l.length:Nat):Int)=2:=by omega
  rw[ExD.enc_mk];simp only[Ax];clear hS JY He hw ih hl;exact B9
 |fn a l h hl hw ih =>
  intro S hS;have h1:=ns 117 l (by simp only[AV];omega) S hS ih;have h2:=He S hS;have h3:=ff a h;have k1:((l.length:Nat):Int)=1:=by omega
  rw[ExD.enc_mk];simp only[Ax];clear hS JY He hw ih hl h;exact B9
 |recf s a l h h' hl hw ih =>
  intro S hS;have h1:=ns 117 l (by simp only[AV];omega) S hS ih;have h2:=He S hS;have h3:=ff s h;have h4:=ff a h';have k1:((l.length:Nat):Int)=2:=by omega
  rw[ExD.enc_mk];simp only[Ax];clear hS JY He hw ih hl h h';exact B9
 |case l pl h1 h2 h3 hw hp ih =>
  intro S hS;have g1:=ns 117 l (by simp only[AV];omega) S hS ih;have g2:=QG 182 pl (by simp only[AV];omega) S hS (λp h=>aX4 p (hp p h));have k1:IntKind.i64.wrap (((pl.length:Nat):Int)+1)=((l.length:Nat):Int):=by rw[wI _ (by simp only[AV];omega),h3]
  have k2:decide (((pl.length:Nat):Int)>=1)=true:=by simp;omega
  have k3:decide (((pl.length:Nat):Int)<=16)=true:=by simp;omega
  rw[ExD.enc_mk];clear hS JY He hw ih hp h1 h2 h3;exact B9
 |op s l h hl hw ih =>
  intro S hS;have h1:=ns 117 l (by simp only[AV];omega) S hS ih;have h2:=He S hS;have h3:=aXZ s h;have h4:=λS=>aX5 S
  have k1:((l.length:Nat):Int)=2:=by omega
  rw[ExD.enc_mk];simp only[Ax];clear hS JY He hw ih hl h;exact B9
structure WA (c:CoD):Prop where
 name:eD c.name=some 3
 len:c.args.length<=16
 args:∀a∈c.args,WT a
structure WF (f:FuD):Prop where
 name:eD f.name=some 2
 arg:eD f.arg=some 2
 body:WE f.body
inductive WD:DeD->Prop
 |data (n:List UInt8) (vs:List (List UInt8)) (cs:List CoD) (h1:eD n=some 3) (h2:vs.length<=16) (h3:∀v∈vs,eD v=some 4) (h4:1<=cs.length) (h5:cs.length<=16) (h6:∀c∈cs,WA c):WD ⟨1,n,vs,cs,[],[],[],[],kH⟩
 |func (fs:List FuD) (h1:1<=fs.length) (h2:fs.length<=16) (h3:∀f∈fs,WF f):WD ⟨3,[],[],[],[],[],[],fs,kH⟩
 |out (n:List UInt8) (e:ExD) (h1:eD n=some 2) (h2:WE e):WD (cU n e)
theorem aX8(c:CoD)(h:WA c)(S:AH)(hS:S.lo<=S.objs.length):CF (.fn 188) [.val c.enc] S=some (.ret (.val (.bool true)),S):=by
 have h1:=ze c.name (pL h.name);have h2:=VA 127 c.args (by have:=h.len;simp only[AV];omega) S hS (λa ha=>aXR a (h.args a ha));have k1:decide (((c.args.length:Nat):Int)<=16)=true:=by have:=h.len;simp;omega
 rw[c.enc_eq];clear h hS;exact B9
theorem aXQ(n:List UInt8)(vs:List (List UInt8))(cs:List CoD)(h1:eD n=some 3)(h2:vs.length<=16)(h3:∀v∈vs,eD v=some 4)(h4:1<=cs.length)(h5:cs.length<=16)(h6:∀c∈cs,WA c)(S:AH)(hS:S.lo<=S.objs.length) :
  CF (.fn 125) [.val (.agg [.str n,.slice (vs.map .str),.slice (cs.map CoD.enc)])] S=some (.ret (.val (.bool true)),S):=by
 have g1:=ze n (pL h1);have g2:=aX9 172 vs (by simp only[AV];omega) S hS (λv hv S _=>Yn v (h3 v hv) S);have g3:=aYa 188 cs (by simp only[AV];omega) S hS (λc hc=>aX8 c (h6 c hc));have k1:decide (((vs.length:Nat):Int)<=16)=true:=by simp;omega
 have k2:decide (((cs.length:Nat):Int)>=1)=true:=by simp;omega
 have k3:decide (((cs.length:Nat):Int)<=16)=true:=by simp;omega
 clear h1 h2 h3 h4 h5 h6 hS;exact B9
theorem aXT(f:FuD)(h:WF f)(S:AH)(hS:S.lo<=S.objs.length):CF (.fn 129) [.val f.enc] S=some (.ret (.val (.bool true)),S):=by
 have h1:=ff f.name h.name;have h2:=ff f.arg h.arg;have h3:=VF f.body h.body S hS;rw[f.enc_eq];rw[f.body.enc_eq] at h3;clear h hS;exact wk
theorem aRK(S:AH):CF (.fn 122) [.val (.agg [.str [],.slice [],.slice []])] S=some (.ret (.val (.bool true)),S):=by
 exact wk
theorem aRJ(n:List UInt8)(vs cs:List AVal)(h:(n==[])=false)(S:AH):CF (.fn 122) [.val (.agg [.str n,.slice vs,.slice cs])] S=some (.ret (.val (.bool false)),S):=by
 exact wk
theorem aRL(S:AH):CF (.fn 123) [.val (.agg [.str [],.slice []])] S=some (.ret (.val (.bool true)),S):=by
 exact wk
theorem aRN(S:AH):CF (.fn 124) [.val (.agg [.int .i64 0,.int .i64 0,.str [],.str [],.slice [],.slice []])] S=some (.ret (.val (.bool true)),S):=by
 exact wk
theorem aRM(k n:Int)(s a:List UInt8)(al pl:List AVal)(h:(k==0)=false)(S:AH):CF (.fn 124) [.val (.agg [.int .i64 k,.int .i64 n,.str s,.str a,.slice al,.slice pl])] S=some (.ret (.val (.bool false)),S):=by
 exact wk
theorem WE.kind{e:ExD}(h:WE e):(e.kind==0)=false:=by cases h<;>rfl
theorem c45(d:DeD)(h:WD d)(S:AH)(hS:S.lo<=S.objs.length):CF (.fn 45) [.val d.enc] S=some (.ret (.val (.bool true)),S):=by
 have z1:=λS=>aRK S
 have z2:=λS=>aRL S
 have z3:=λS=>aRN S
 rw[d.enc_eq];cases h with
 |data n vs cs h1 h2 h3 h4 h5 h6 =>
  have g1:=aXQ n vs cs h1 h2 h3 h4 h5 h6 S hS;have g2:=λS=>aRJ n (vs.map .str) (cs.map CoD.enc) (tU h1).1 S
  simp only[kH,ExD.kind,ExD.num,ExD.name,ExD.arg,ExD.args,ExD.pats,Ax];clear h1 h2 h3 h4 h5 h6 hS;exact wk
 |func fs h1 h2 h3 =>
  have g1:=aXS 129 fs (by simp only[AV];omega) S hS (λf hf=>aXT f (h3 f hf));have k1:decide (((fs.length:Nat):Int)>=1)=true:=by simp;omega
  have k2:decide (((fs.length:Nat):Int)<=16)=true:=by simp;omega
  have k3:(((fs.length:Nat):Int)==0)=false:=by simp only[beq_eq_false_iff_ne,ne_eq];omega
  simp only[kH,ExD.kind,ExD.num,ExD.name,ExD.arg,ExD.args,ExD.pats,Ax];clear h1 h2 h3 hS;exact B9
 |out n e h1 h2 =>
  have g1:=ff n h1;have g2:=VF e h2 S hS;have g3:=λS=>aRM e.kind e.num e.name e.arg (e.args.map ExD.enc) (e.pats.map PaD.enc) h2.kind S
  rw[e.enc_eq] at g2;simp only[cU,Ax];clear h1 h2 hS;exact wk
theorem Xd(d s:Nat)(h1:d<=100)(h2:s<=2000)(S:AH):CF (.fn 43) [.val (.int .i64 (d:Nat)),.val (.int .i64 (s:Nat)),.val (.bool true)] S=some (.ret (.val (.int .i64 0)),S):=by
 have k1:decide (((d:Nat):Int)>100)=false:=by simp;omega
 have k2:decide (((s:Nat):Int)>2000)=false:=by simp;omega
 clear h1 h2;exact wk
theorem c23(l:List DeD)(hl:l.length<=60)(hk:∀y∈l,y.okK=true)(hw:∀y∈l,WD y)(h4:DV l<=100)(h5:E6 l<=2000)(S:AH)(hS:S.lo<=S.objs.length):CF (.fn 23) [.val (.agg [.slice (l.map DeD.enc)])] S=some (.ret (.val (.int .i64 0)),S):=by
 obtain⟨O,lo⟩:=S;have g1:=c41 l (by simp only[AV];omega) hk h4 h5 O lo hS;have g2:=c42 l (by simp only[AV];omega) hk h4 h5 O lo hS;have g3:=c44 45 l (by simp only[AV];omega) ⟨O,lo⟩ hS (λd hd=>c45 d (hw d hd));have g4:=Xd (DV l) (E6 l) h4 h5;have k1:decide (((l.length:Nat):Int)>60)=false:=by simp;omega
 have k2:decide (((DV l:Nat):Int)<=100)=true:=by simp;omega
 have k3:decide (((E6 l:Nat):Int)<=2000)=true:=by simp;omega
 clear hl hk hw h4 h5 hS;exact B9
theorem c40(e:ExD)(hw:WE e)(h4:1+e.hg<=100)(h5:e.sz<=2000)(S:AH)(hS:S.lo<=S.objs.length):CF (.fn 40) [.val e.enc] S=some (.ret (.val (.int .i64 0)),S):=by
 obtain⟨O,lo⟩:=S;have e1:∀m A,AW (O++[.box [],A]) O.length m=O++[.box [.val (.int .i64 (m:Nat))],A]:=λm A=>by simp[AW]
 have e2:∀s m A,BG (O++[A,.box []]) (O.length+1) s m=O++[A,.box [.val (.int .i64 (s:Nat)),.val (.int .i64 (m:Nat))]]:=λs m A=>by simp[BG,Ej]
 have g1:=VH e (O++[.box [],.box [.val (.int .i64 0),.val (.int .i64 0)]]) O.length lo 0 1 (by simp) hS (by omega) (by omega);have g2:=VG e (O++[.box [.val (.int .i64 ((1+e.hg:Nat):Int))],.box []]) (O.length+1) lo 0 0 1 (by simp) (by simp only at hS;omega) (by omega) (by omega) (by omega);rw[e1,e1] at g1;rw[e2,e2] at g2;simp only[Gg,Bo,show((0:Nat):Int)=0 from rfl,show((1:Nat):Int)=1 from rfl] at g1 g2;have g3:∀A B,CF (.fn 117) [.val e.enc] ⟨O++[A,B],O.length+2⟩=some (.ret (.val (.bool true)),⟨O++[A,B],O.length+2⟩):=λA B=>VF e hw _ (by simp)
 have g4:=Xd (1+e.hg) e.sz h4 h5;have k1:decide (((1+e.hg:Nat):Int)<=100)=true:=by simp;omega
 have k2:decide (((e.sz:Nat):Int)<=2000)=true:=by simp;omega
 have o1:∀A B,(O++[A,B])[O.length]?=some A:=λA B=>by simp
 have o2:∀A B,(O++[A,B])[O.length+1]?=some B:=λA B=>by simp
 have k0:Nat.ble lo O.length=true:=Ah hS;have kb:Nat.ble O.length O.length=true:=Ah (Af _);rw[e.enc_eq] at *;clear e1 e2 hw h4 h5 hS;exact G5
inductive kJ:TyD->VaD->Prop
 |int (n:Int):kJ (.mk [73,110,116] []) (cM n)
 |nil (a:TyD):kJ (.mk [76,105,115,116] [a]) (.mk [78,105,108] 0 [])
 |cons (a:TyD) (x l:VaD) (h1:kJ a x) (h2:kJ (.mk [76,105,115,116] [a]) l):kJ (.mk [76,105,115,116] [a]) (.mk [67,111,110,115] 0 [x,l])
 |pair (a b:TyD) (x y:VaD) (h1:kJ a x) (h2:kJ b y):kJ (.mk [44] [a,b]) (.mk [44] 0 [x,y])
 |var (v:VaD):kJ (.mk [39,97] []) v
 |varb (v:VaD):kJ (.mk [39,98] []) v
theorem wS(ts:List TyD)(v:VaD)(hl:ts.length=v.args.length)(hb:ts.length<AV)(sto:AH)(h:∀(i:Nat)(t:TyD)(w:VaD),ts[i]?=some t->v.args[i]?=some w->∀S:AH,S.lo<=S.objs.length->CF (.fn 133) [.val t.enc,.val w.enc] S=some (.ret (.val (.bool true)),S))(AP:sto.lo<=sto.objs.length) :
  CF (.fn 196) [.val (.slice (ts.map TyD.enc)),.val (.loc sto.objs.length 0)] ⟨sto.objs++[.box (fR v)],sto.lo⟩=some (.ret (.val (.bool true)),⟨sto.objs++[.box (fR v)],sto.lo⟩) :=
 aYc ts v _ hl _ (by simp) (Xc ts v.args hl hb _ λi t w h1 h2=>h i t w h1 h2 _ (by simp;omega))
theorem aXU:∀(t:TyD)(v:VaD),kJ t v->∀sto:AH,sto.lo<=sto.objs.length->CF (.fn 133) [.val t.enc,.val v.enc] sto=some (.ret (.val (.bool true)),sto):=by
 intro t v hv;induction hv with
 |int n =>
  intro sto AP;rw[aCO,TyD.enc_mk,Ax];exact G5
 |nil a =>
  intro sto AP;have h:=wS [] (.mk [78,105,108] 0 []) rfl (by simp[AV]) sto (λi t w h1 _=>by simp at h1) AP;simp only[Ax,fR,VaD.con,VaD.num,VaD.args] at h;simp only[VaD.enc_mk,TyD.enc_mk,Bb,Ax];rw[dN a];exact G5
 |cons a x l h1 h2 ih1 ih2 =>
  intro sto AP
  have h:=wS [a,.mk [76,105,115,116] [a]] (.mk [67,111,110,115] 0 [x,l]) rfl (by simp[AV]) sto (λi t w h1 h2=>by
   match i with
   |0=>cases h1;cases h2;exact ih1
   |1=>cases h1;cases h2;exact ih2
   |i+2=>simp at h1) AP
  simp only[Bb,Ax,fR,VaD.con,VaD.num,VaD.args,TyD.enc_mk] at h;rw[VaD.enc_eq x,VaD.enc_eq l,dN a] at h;simp only[VaD.enc_mk,TyD.enc_mk,Bb,Ax];rw[VaD.enc_eq x,VaD.enc_eq l,dN a];clear ih1 ih2 h1 h2;exact G5
 |pair a b x y h1 h2 ih1 ih2 =>
  intro sto AP
  have h:=wS [a,b] (.mk [44] 0 [x,y]) rfl (by simp[AV]) sto (λi t w h1 h2=>by
   match i with
   |0=>cases h1;cases h2;exact ih1
   |1=>cases h1;cases h2;exact ih2
   |i+2=>simp at h1) AP
  simp only[Bb,Ax,fR,VaD.con,VaD.num,VaD.args,TyD.enc_mk] at h;rw[VaD.enc_eq x,VaD.enc_eq y,dN a,dN b] at h;simp only[VaD.enc_mk,TyD.enc_mk,Bb,Ax];rw[VaD.enc_eq x,VaD.enc_eq y,dN a,dN b];clear ih1 ih2 h1 h2;exact G5
 |var v =>
  intro sto AP;rw[VaD.enc_eq v,TyD.enc_mk,Ax];exact G5
 |varb v =>
  intro sto AP;rw[VaD.enc_eq v,TyD.enc_mk,Ax];exact G5
theorem c37(nm:List UInt8)(t:TyD)(h:sT nm=some t)(sto:AH):CF (.fn 37) [.val (.str nm)] sto=some (.ret (.tup [t.enc,.bool true]),sto):=by
 refine NM (r:=.ret (.tup [t.enc,.bool true])) ?_ ?_
 ·show some ((sT nm).map λt=>ARes.ret (.tup [t.enc,.bool true]))=_
  rw[h];rfl
 ·rw[dN t];rfl
theorem c46(nm:List UInt8)(t:TyD)(h:sT nm=some t)(sto:AH):CF (.fn 46) [.val (.str nm)] sto=some (.ret (.val (.bool true)),sto):=by
 refine NM (r:=.ret (.val (.bool true))) ?_ rfl;show some ((sT nm).map λ_=>ARes.ret (.val (.bool true)))=_;rw[h];rfl
theorem c24(nm:List UInt8)(l:List TyD)(r:TyD)(ht:sT nm=some (oF l r))(hr:(tyName r==[45,62])=false)(args:List VaD)(hlen:l.length=args.length)(hb:l.length+1<AV)(hv:∀y∈args,y.valid=true/\y.size<AV/\y.cnt<=4000)
  (hh:∀(i:Nat)(t:TyD)(v:VaD),l[i]?=some t->args[i]?=some v->kJ t v) (sto:AH) (AP:sto.lo<=sto.objs.length):CF (.fn 24) [.val (.str nm),.val (.slice (args.map VaD.enc))] sto=some (.ret (.val (.int .i64 0)),sto):=by
 have h36:=c37 nm _ ht sto;have h41:=c46 nm _ ht sto;have h42:=c47 l r hr hb sto;have h43:=c48 args (by omega) hv sto AP;have h45:=Xc l args hlen (by omega) sto (λi t v h1 h2=>aXU t v (hh i t v h1 h2) sto AP);have BD:(((l.length:Nat):Int) != ((args.length:Nat):Int))=false:=by simp[hlen]
 rw[dN (oF l r)] at h36 h42;exact B9
end Go.Proofs.YtoiocfngjchdiaaGreatDoor
