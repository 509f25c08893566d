import Derived.Test.YtoiocfngjchdiaaGreatDoorF00
set_option linter.all false
noncomputable section
namespace Go.CM
section
theorem aNc(q:QR)(t:TQ V)(k:V->aa):Pn q t k=k (t.get gm.z q):=rfl
theorem aMd(q:QR)(v:V)(t:TQ V)(k:TQ V->aa):QH q v t k=k (TQ.put gm.z v q t):=rfl
theorem aNd(q:QN QR)(t:N5 V (TQ V))(k:V->aa):Pm q t k=k (N5.gt (TQ.get gm.z) t q):=by
 cases t;cases q<;>first|rfl|exact aNc _ _ _
theorem aMe(q:QN QR)(v:V)(t:N5 V (TQ V))(k:N5 V (TQ V)->aa):QG q v t k=k (N5.pt (TQ.put gm.z v) v q t):=by
 cases t;cases q<;>first|rfl|exact aMd _ _ _ _
theorem aNe(q:QN Q1)(t:N5 V (T1 V))(k:V->aa):Pk q t k=k (N5.gt (g1 (α:=V)) t q):=by
 cases t;cases q<;>first|rfl|exact aNd _ _ _
theorem aMf(q:QN Q1)(v:V)(t:N5 V (T1 V))(k:N5 V (T1 V)->aa):QF q v t k=k (N5.pt (p1 v) v q t):=by
 cases t;cases q<;>first|rfl|exact aMe _ _ _ _
theorem aNf(q:QN Q2)(t:N5 V (T2 V))(k:V->aa):Pj q t k=k (N5.gt (g2 (α:=V)) t q):=by
 cases t;cases q<;>first|rfl|exact aNe _ _ _
theorem aMg(q:QN Q2)(v:V)(t:N5 V (T2 V))(k:N5 V (T2 V)->aa):QE q v t k=k (N5.pt (p2 v) v q t):=by
 cases t;cases q<;>first|rfl|exact aMf _ _ _ _
theorem aNg(q:QN Q3)(t:N5 V (T3 V))(k:V->aa):Ph q t k=k (N5.gt (g3 (α:=V)) t q):=by
 cases t;cases q<;>first|rfl|exact aNf _ _ _
theorem aMh(q:QN Q3)(v:V)(t:N5 V (T3 V))(k:N5 V (T3 V)->aa):QD q v t k=k (N5.pt (p3 v) v q t):=by
 cases t;cases q<;>first|rfl|exact aMg _ _ _ _
theorem aNh(q:QN Q4)(t:N5 V (T4 V))(k:V->aa):Pf q t k=k (N5.gt (g4 (α:=V)) t q):=by
 cases t;cases q<;>first|rfl|exact aNg _ _ _
theorem aMi(q:QN Q4)(v:V)(t:N5 V (T4 V))(k:N5 V (T4 V)->aa):QC q v t k=k (N5.pt (p4 v) v q t):=by
 cases t;cases q<;>first|rfl|exact aMh _ _ _ _
theorem aNi(q:QN Q5)(t:N5 V (T5 V))(k:V->aa):Pe q t k=k (N5.gt (g5 (α:=V)) t q):=by
 cases t;cases q<;>first|rfl|exact aNh _ _ _
theorem aMj(q:QN Q5)(v:V)(t:N5 V (T5 V))(k:N5 V (T5 V)->aa):QB q v t k=k (N5.pt (p5 v) v q t):=by
 cases t;cases q<;>first|rfl|exact aMi _ _ _ _
theorem aNj(q:QN Q6)(t:N5 V (T6 V))(k:V->aa):Pd q t k=k (N5.gt (g6 (α:=V)) t q):=by
 cases t;cases q<;>first|rfl|exact aNi _ _ _
theorem aMk(q:QN Q6)(v:V)(t:N5 V (T6 V))(k:N5 V (T6 V)->aa):QA q v t k=k (N5.pt (p6 v) v q t):=by
 cases t;cases q<;>first|rfl|exact aMj _ _ _ _
theorem aNk(q:QN Q7)(t:N5 V (T7 V))(k:V->aa):Pc q t k=k (N5.gt (g7 (α:=V)) t q):=by
 cases t;cases q<;>first|rfl|exact aNj _ _ _
theorem aMl(q:QN Q7)(v:V)(t:N5 V (T7 V))(k:N5 V (T7 V)->aa):Pz q v t k=k (N5.pt (p7 v) v q t):=by
 cases t;cases q<;>first|rfl|exact aMk _ _ _ _
theorem aNl(q:QN Q8)(t:N5 V (T8 V))(k:V->aa):Pb q t k=k (N5.gt (g8 (α:=V)) t q):=by
 cases t;cases q<;>first|rfl|exact aNk _ _ _
theorem aMm(q:QN Q8)(v:V)(t:N5 V (T8 V))(k:N5 V (T8 V)->aa):Py q v t k=k (N5.pt (p8 v) v q t):=by
 cases t;cases q<;>first|rfl|exact aMl _ _ _ _
theorem aGU(q:QN Q9)(t:N5 V (T9 V))(k:V->aa):Za q t k=k (N5.gt (g9 (α:=V)) t q):=by
 cases t;cases q<;>first|rfl|exact aNl _ _ _
theorem aGr(q:QN Q9)(v:V)(t:N5 V (T9 V))(k:N5 V (T9 V)->aa):Zd q v t k=k (N5.pt (p9 v) v q t):=by
 cases t;cases q<;>first|rfl|exact aMm _ _ _ _
theorem dz(q:Q)(t:T V)(k:V->aa):ML q t k=gV q t k:=aGU q t k
theorem td(q:Q)(v:V)(t:T V)(k:T V->aa):NM q v t k=pV v q t k:=aGr q v t k
theorem aM2(q:QR)(t:TQ O)(k:O->aa):Px q t k=k (t.get gm.z q):=rfl
theorem aL3(q:QR)(v:O)(t:TQ O)(k:TQ O->aa):QT q v t k=k (TQ.put gm.z v q t):=rfl
theorem aM3(q:QN QR)(t:N5 O (TQ O))(k:O->aa):Pw q t k=k (N5.gt (TQ.get gm.z) t q):=by
 cases t;cases q<;>first|rfl|exact aM2 _ _ _
theorem aL4(q:QN QR)(v:O)(t:N5 O (TQ O))(k:N5 O (TQ O)->aa):QS q v t k=k (N5.pt (TQ.put gm.z v) v q t):=by
 cases t;cases q<;>first|rfl|exact aL3 _ _ _ _
theorem aM4(q:QN Q1)(t:N5 O (T1 O))(k:O->aa):go2 q t k=k (N5.gt (g1 (α:=O)) t q):=by
 cases t;cases q<;>first|rfl|exact aM3 _ _ _
theorem aL5(q:QN Q1)(v:O)(t:N5 O (T1 O))(k:N5 O (T1 O)->aa):QQ q v t k=k (N5.pt (p1 v) v q t):=by
 cases t;cases q<;>first|rfl|exact aL4 _ _ _ _
theorem aM5(q:QN Q2)(t:N5 O (T2 O))(k:O->aa):Pv q t k=k (N5.gt (g2 (α:=O)) t q):=by
 cases t;cases q<;>first|rfl|exact aM4 _ _ _
theorem aL6(q:QN Q2)(v:O)(t:N5 O (T2 O))(k:N5 O (T2 O)->aa):QP q v t k=k (N5.pt (p2 v) v q t):=by
 cases t;cases q<;>first|rfl|exact aL5 _ _ _ _
theorem aM6(q:QN Q3)(t:N5 O (T3 O))(k:O->aa):Pu q t k=k (N5.gt (g3 (α:=O)) t q):=by
 cases t;cases q<;>first|rfl|exact aM5 _ _ _
theorem aL7(q:QN Q3)(v:O)(t:N5 O (T3 O))(k:N5 O (T3 O)->aa):QO q v t k=k (N5.pt (p3 v) v q t):=by
 cases t;cases q<;>first|rfl|exact aL6 _ _ _ _
theorem aM7(q:QN Q4)(t:N5 O (T4 O))(k:O->aa):Ps q t k=k (N5.gt (g4 (α:=O)) t q):=by
 cases t;cases q<;>first|rfl|exact aM6 _ _ _
theorem aL8(q:QN Q4)(v:O)(t:N5 O (T4 O))(k:N5 O (T4 O)->aa):QM q v t k=k (N5.pt (p4 v) v q t):=by
 cases t;cases q<;>first|rfl|exact aL7 _ _ _ _
theorem aM8(q:QN Q5)(t:N5 O (T5 O))(k:O->aa):Pr q t k=k (N5.gt (g5 (α:=O)) t q):=by
 cases t;cases q<;>first|rfl|exact aM7 _ _ _
theorem aL9(q:QN Q5)(v:O)(t:N5 O (T5 O))(k:N5 O (T5 O)->aa):QL q v t k=k (N5.pt (p5 v) v q t):=by
 cases t;cases q<;>first|rfl|exact aL8 _ _ _ _
theorem aM9(q:QN Q6)(t:N5 O (T6 O))(k:O->aa):Pq q t k=k (N5.gt (g6 (α:=O)) t q):=by
 cases t;cases q<;>first|rfl|exact aM8 _ _ _
theorem aMa(q:QN Q6)(v:O)(t:N5 O (T6 O))(k:N5 O (T6 O)->aa):QK q v t k=k (N5.pt (p6 v) v q t):=by
 cases t;cases q<;>first|rfl|exact aL9 _ _ _ _
theorem aNa(q:QN Q7)(t:N5 O (T7 O))(k:O->aa):Pp q t k=k (N5.gt (g7 (α:=O)) t q):=by
 cases t;cases q<;>first|rfl|exact aM9 _ _ _
theorem aMb(q:QN Q7)(v:O)(t:N5 O (T7 O))(k:N5 O (T7 O)->aa):QJ q v t k=k (N5.pt (p7 v) v q t):=by
 cases t;cases q<;>first|rfl|exact aMa _ _ _ _
theorem aNb(q:QN Q8)(t:N5 O (T8 O))(k:O->aa):Po q t k=k (N5.gt (g8 (α:=O)) t q):=by
 cases t;cases q<;>first|rfl|exact aNa _ _ _
theorem aMc(q:QN Q8)(v:O)(t:N5 O (T8 O))(k:N5 O (T8 O)->aa):QI q v t k=k (N5.pt (p8 v) v q t):=by
 cases t;cases q<;>first|rfl|exact aMb _ _ _ _
theorem aGT(q:QN Q9)(t:N5 O (T9 O))(k:O->aa):Zb q t k=k (N5.gt (g9 (α:=O)) t q):=by
 cases t;cases q<;>first|rfl|exact aNb _ _ _
theorem aGq(q:QN Q9)(v:O)(t:N5 O (T9 O))(k:N5 O (T9 O)->aa):Zf q v t k=k (N5.pt (p9 v) v q t):=by
 cases t;cases q<;>first|rfl|exact aMc _ _ _ _
theorem gB(q:Q)(t:T O)(k:O->aa):GX q t k=gO q t k:=aGT q t k
theorem iO(q:Q)(v:O)(t:T O)(k:T O->aa):E6 q v t k=pO v q t k:=aGq q v t k
theorem aPa(q:QR)(k:QR->aa):X0 q k=k q.succ:=rfl
theorem aGb(p q:QR):Qo p q=p.beq q:=rfl
theorem aPb(q:QN QR)(k:QN QR->aa):XZ q k=k (QN.sc QR.succ QR.e q):=by
 cases q<;>first|rfl|exact aPa _ _
theorem aGc(p q:QN QR):Qn p q=QN.bq QR.beq p q:=by
 cases p<;>cases q<;>first|rfl|exact aGb _ _
theorem aPc(q:QN Q1)(k:QN Q1->aa):XY q k=k (QN.sc Xb (QN.e (α:=QR)) q):=by
 cases q<;>first|rfl|exact aPb _ _
theorem aGd(p q:QN Q1):Qm p q=QN.bq Yo p q:=by
 cases p<;>cases q<;>first|rfl|exact aGc _ _
theorem aPd(q:QN Q2)(k:QN Q2->aa):XX q k=k (QN.sc Xa (QN.e (α:=Q1)) q):=by
 cases q<;>first|rfl|exact aPc _ _
theorem aGe(p q:QN Q2):Qw p q=QN.bq Yn p q:=by
 cases p<;>cases q<;>first|rfl|exact aGd _ _
theorem aPe(q:QN Q3)(k:QN Q3->aa):XW q k=k (QN.sc X9 (QN.e (α:=Q2)) q):=by
 cases q<;>first|rfl|exact aPd _ _
theorem aGf(p q:QN Q3):Qv p q=QN.bq Ym p q:=by
 cases p<;>cases q<;>first|rfl|exact aGe _ _
theorem aPf(q:QN Q4)(k:QN Q4->aa):XV q k=k (QN.sc X8 (QN.e (α:=Q3)) q):=by
 cases q<;>first|rfl|exact aPe _ _
theorem aGg(p q:QN Q4):Qu p q=QN.bq Yl p q:=by
 cases p<;>cases q<;>first|rfl|exact aGf _ _
theorem aPg(q:QN Q5)(k:QN Q5->aa):XU q k=k (QN.sc X7 (QN.e (α:=Q4)) q):=by
 cases q<;>first|rfl|exact aPf _ _
theorem aGh(p q:QN Q5):Qt p q=QN.bq Yk p q:=by
 cases p<;>cases q<;>first|rfl|exact aGg _ _
theorem aPh(q:QN Q6)(k:QN Q6->aa):XT q k=k (QN.sc X6 (QN.e (α:=Q5)) q):=by
 cases q<;>first|rfl|exact aPg _ _
theorem aGi(p q:QN Q6):Qs p q=QN.bq Yj p q:=by
 cases p<;>cases q<;>first|rfl|exact aGh _ _
theorem aPi(q:QN Q7)(k:QN Q7->aa):XS q k=k (QN.sc X5 (QN.e (α:=Q6)) q):=by
 cases q<;>first|rfl|exact aPh _ _
theorem aGj(p q:QN Q7):Qr p q=QN.bq Yi p q:=by
 cases p<;>cases q<;>first|rfl|exact aGi _ _
theorem aPj(q:QN Q8)(k:QN Q8->aa):XQ q k=k (QN.sc X4 (QN.e (α:=Q7)) q):=by
 cases q<;>first|rfl|exact aPi _ _
theorem aGk(p q:QN Q8):Qq p q=QN.bq Yh p q:=by
 cases p<;>cases q<;>first|rfl|exact aGj _ _
theorem aIl(q:QN Q9)(k:QN Q9->aa):ZH q k=k (QN.sc X3 (QN.e (α:=Q8)) q):=by
 cases q<;>first|rfl|exact aPj _ _
theorem aCx(p q:QN Q9):Wl p q=QN.bq Yg p q:=by
 cases p<;>cases q<;>first|rfl|exact aGk _ _
theorem sO(q:Q)(k:Q->aa):IU q k=k9 q k:=aIl q k
theorem aLL(p q:Q):Wl p q=p.beq q:=aCx p q
theorem gI(n:Nat)(k:Nat->aa):fN n k=k n:=by cases n<;>rfl
theorem cM(b:Bool)(n:Nat)(k:aa):C7 b n k=gd b n k:=by cases b<;>rfl
theorem lL(b:Bool)(x y:aa):Ig b x y=match b with|true=>x|false=>y:=by cases b<;>rfl
theorem fW(a b:Bool):kJ a b=(a&&b):=by cases a<;>rfl
theorem n7(a:Bool):sF a=!a:=by cases a<;>rfl
theorem aF7(a b:Bool):WQ a b=(a==b):=by cases a<;>cases b<;>rfl
theorem pY(b:Bool)(k:V->aa):bF b k=bK b k:=by cases b<;>rfl
theorem sD(n b:Bool)(k:V->aa):R4 n b k=bK (n != b) k:=by cases n<;>cases b<;>rfl
theorem eg(k:IntKind):ef k=Jo k:=by cases k<;>rfl
theorem aGV(k:IntKind):Z9 k=M3 k:=by cases k<;>rfl
theorem ff(l:Nat):Qi l=pL l:=rfl
theorem aSp(n:Int)(k:Int->aa):fI n k=k n:=by cases n<;>simp only[fI,gI]
theorem a2h(kd:IntKind)(n:Int)(k:V->aa):qq kd n k=k (.int kd (kd.wrap n)):=by simp only[qq,aSp,UV]
theorem aFE(m:Nat)(kd:IntKind)(k:V->aa):Sn m kd k=match Nat.ble m (M3 kd) with|true=>k (.int kd (.ofNat m))|false=>k (.int kd (kd.wrap (.ofNat m))):=by
 unfold Sn;rw[aGV];cases Nat.ble m (M3 kd)
 ·exact a2h kd _ k
 ·rfl
theorem yR(n:Int)(kd:IntKind)(k:V->aa):bn n kd k=iV kd n λn=>k (.int kd n):=by
 cases n with
 |ofNat m =>
  show fN m (λm=>Sn m kd k)=iV kd (.ofNat m) λn=>k (.int kd n)
  rw[gI,aFE];simp only[iV,aF,fS];cases Nat.ble m (M3 kd)<;>rfl
 |negSucc m =>
  show qq kd (.negSucc m) k=iV kd (.negSucc m) λn=>k (.int kd n)
  rw[a2h];simp only[iV,fS]
theorem aFS(x y:Int):Vx x y=Se x y:=by cases x<;>cases y<;>rfl
theorem aIo(x y:Int):VQ x y=Nz x y:=by
 cases x with
 |negSucc a=>cases y<;>rfl
 |ofNat a =>
  cases y with
  |negSucc b=>rfl
  |ofNat b =>
   show @Bool.rec (λ_=>Int) _ _ (Nat.ble b a)=Nz (.ofNat a) (.ofNat b);simp only[Nz];cases Nat.ble b a<;>rfl
theorem wU(x y:Int):KU x y=LB x y:=by cases x<;>cases y<;>rfl
theorem dt(x y:Int):te x y=L3 x y:=by cases x<;>cases y<;>rfl
theorem aCt(op:BinOp)(kd:IntKind)(x y:Int)(k:V->aa):Wm op kd x y k=qA op kd x y k:=by
 cases op
 case add=>show bn (Vx x y) kd k=_;rw[yR,aFS];rfl
 case sub=>show bn (VQ x y) kd k=_;rw[yR,aIo];rfl
 case eql=>show bF (te x y) k=_;rw[pY,dt];rfl
 case neq=>show bF (sF (te x y)) k=_;rw[pY,n7,dt];rfl
 case lss=>show bF (sF (KU y x)) k=_;rw[pY,n7,wU];rfl
 case leq=>show bF (KU x y) k=_;rw[pY,wU];rfl
 case gtr=>show bF (sF (KU x y)) k=_;rw[pY,n7,wU];rfl
 case geq=>show bF (KU y x) k=_;rw[pY,wU];rfl
 all_goals rfl
theorem aCu(op:BinOp)(l n m j:Nat)(k:V->aa):aKh op l n m j k=OJ op l n m j k:=by
 cases op
 case add=>show WA l n m j k=_;simp only[WA,OJ,cM,gI,aF,ff];rfl
 case eql=>show bF (kJ (Nat.beq l m) (Nat.beq n j)) k=_;rw[pY,fW];rfl
 case neq=>show bF (sF (kJ (Nat.beq l m) (Nat.beq n j))) k=_;rw[pY,n7,fW];rfl
 all_goals rfl
theorem n0{α:Type}(l:List α):∀k:Nat->aa,mr l k=sA l k:=by
 induction l with
 |nil=>intro k;rfl
 |cons x l ih =>
  intro k;show mr l (λn=>fN (Nat.succ n) k)=_;rw[ih,cK,cK,gI];rfl
theorem pQ(l:List V):∀(m:List V)(k:List V->aa),rP l m k=k (l++m):=by
 induction l with
 |nil=>intro m k;rfl
 |cons v l ih=>intro m k;exact ih m λl'=>k (v::l')
theorem bu(fs args caps:List V)(k:List V->aa):OM fs args caps k=k (fs++(args++caps)):=by
 cases caps with
 |nil =>
  cases fs with
  |nil=>simp[OM]
  |cons f fs =>
   show rP (f::fs) args k=_;rw[pQ,Ao]
 |cons c cs =>
  show rP args (c::cs) (λl=>rP fs l k)=_;rw[pQ,pQ]
theorem xC(o:O)(k:Nat->T V->aa):Vd o k=fq o k:=by cases o<;>rfl
theorem a1H(o:O):yz o=wX o:=by cases o<;>rfl
theorem a3U(o:O)(k:List (V×V)->aa):Ql o k=wZ o k:=by cases o<;>rfl
theorem mX(o:O)(k:Lk):oP o k=mE o k:=by
 cases o<;>rfl
theorem a3m(h:T O)(o:Q)(off:Nat)(o':Q)(DN:Nat)(k:Bool->aa):Qx h o off o' DN k=JA h o off o' DN k:=by
 unfold Qx JA;rw[aLL];cases o.beq o'
 ·simp only[gB,cM,fW,a1H]
 ·show @Bool.rec (λ_=>T O->Q->(Bool->aa)->aa) _ _ (Nat.beq off DN) h o k=_
  cases Nat.beq off DN
  ·simp only[gB,cM,a1H]
  ·rfl
theorem zl(h:T O)(o:Q)(off:Nat)(k:V->aa):Ol h o off k=Jn h o off k:=by
 simp only[Ol,Jn,gB,xC,cM,dz,kF];rfl
theorem aDr(n:Nat):∀(i:Nat)(t:T V)(k:List V->aa),Wf n i t k=tJ n i t k:=by
 induction n with
 |zero=>intro i t k;rfl
 |succ n ih =>
  intro i t k;show ML (qn i) t (λv=>Wf n (Nat.succ i) t λl=>k (v::l))=Jl i λq=>gV q t λv=>aZ (i+1) λi'=>tJ n i' t λl=>k (v::l)
  simp only[dz,ih,kF,aF]
theorem ej(h:T O)(o:Q)(off n:Nat)(k:List V->aa):Ny h o off n k=mW h o off n k:=by
 simp only[Ny,mW,gB,xC,cM,aDr];rfl
theorem kZ(vs:List V):∀(i:Nat)(t:T V)(k:T V->aa),qW vs i t k=j8 vs i t k:=by
 induction vs with
 |nil=>intro i t k;rfl
 |cons v vs ih =>
  intro i t k;show NM (qn i) v t (λt'=>qW vs (Nat.succ i) t' k)=Jl i λq=>pV v q t λt'=>aZ (i+1) λi'=>j8 vs i' t' k
  simp only[td,ih,kF,aF]
theorem aAD(vs:List V):∀(i:Nat)(t:T V)(k:T V->aa),zN vs i t k=k (dK vs i t):=by
 induction vs with
 |nil=>intro i t k;rfl
 |cons v vs ih =>
  intro i t k;show NM (qn i) v t (λt'=>zN vs (Nat.succ i) t' k)=_;simp only[td,ih,zr];rfl
theorem a18(l:List V):∀(n:Nat)(k:List V->aa),Wc l n k=oW n l k:=by
 induction l with
 |nil=>intro n k;cases n<;>rfl
 |cons v l ih =>
  intro n k;cases n with
  |zero=>rfl
  |succ n=>exact ih n λl'=>k (v::l')
theorem aEH(l:List V):∀(off n:Nat)(k:List V->aa),Xr l off n k=uA off n l k:=by
 induction l with
 |nil =>
  intro off n k;cases off with
  |zero=>exact a18 [] n k
  |succ off=>rfl
 |cons v l ih =>
  intro off n k;cases off with
  |zero=>exact a18 (v::l) n k
  |succ off=>exact ih off n k
theorem a3Z(l:List V):∀(n:Nat)(k:V->aa),Vk l n k=ui l n k:=by
 induction l with
 |nil=>intro n k;rfl
 |cons v l ih =>
  intro n k;cases n with
  |zero=>rfl
  |succ n=>exact ih n k
theorem zq(agg:Bool)(off n:Nat)(l:List V)(k:V->aa):VB agg off n l k=NJ agg off n l k:=by
 cases agg
 ·exact a3Z l off k
 ·exact aEH l off n λl'=>k (.agg l')
theorem aEw(l:List V):∀(off:Nat)(new:List V)(k:List V->aa),W_ l off new k=oU l off new k:=by
 induction l with
 |nil =>
  intro off new k;cases off with
  |zero=>cases new<;>rfl
  |succ off=>rfl
 |cons x l ih =>
  intro off new k;cases off with
  |zero =>
   cases new with
   |nil=>rfl
   |cons v vs=>exact ih 0 vs λl'=>k (v::l')
  |succ off=>exact ih off new λl'=>k (x::l')
theorem yy(c:Nat)(o:Q)(off len sz i:Nat)(k:V->aa):SH c o off len sz i k=gd (Nat.blt i len) c (aZ (off+i*sz) λa=>k (.ptr o a)):=by
 simp only[SH,cM,gI,aF];rfl
theorem so(len sz:Nat)(h:T O)(o:Q)(off:Nat)(k:Nat->List V->aa):SI len sz h o off k=match len with|0=>k 0 []|len=>mW h o off (len*sz) λl=>k len l:=by
 cases len with
 |zero=>rfl
 |succ m=>exact ej h o off _ _
theorem yr(l:Nat):∀(n:Nat)(k:List V->aa),QY l n k=MO l n k:=by
 induction l with
 |zero=>intro n k;rfl
 |succ l ih =>
  intro n k;show fN (Nat.mod n 256) (λc=>fN (Nat.div n 256) λn'=>QY l n' λcs=>k (.int .u8 (.ofNat c)::cs))=_;simp only[gI,ih,MO,aF];rfl
theorem aDT(l:List Q):∀(h:T O)(k:T O->aa),Wi l h k=wS l h k:=by
 induction l with
 |nil=>intro h k;rfl
 |cons q l ih =>
  intro h k;show E6 q .dead h (λh'=>Wi l h' k)=_;simp only[iO,ih,wS]
theorem wo(o:Q)(off:Nat)(vs:List V)(h:T O)(k:T O->aa):O6 o off vs h k=KQ o off vs h k:=by
 simp only[O6,KQ,gB,bW];generalize h.ob o=ob;cases ob<;>try rfl
 rename_i n t B4 CJ ty ex;show TB n t B4 CJ ty ex o off vs h k=_;simp only[TB,n0,cM,kZ,lL,iO,XJ,aDT];rfl
theorem a1m(ty sz len m:Nat)(old new:List V)(h:T O)(nx:Q)(k:Kw):yi ty sz len m old new h nx k=mC ty sz len m old new h nx k:=by
 simp only[yi,mC,cM,kZ,gI,aF,iO,sO];rfl
theorem UN(v:V)(k:IntKind->Int->aa):vI v k=NP v k:=by cases v<;>rfl
theorem WX(v:V)(k:Bool->aa):vB v k=KP v k:=by cases v<;>rfl
theorem qm(v:V)(k:Nat->aa):vN v k=Kh v k:=by
 cases v<;>try rfl
 rename_i kd n;cases n<;>rfl
theorem WU(v:V)(k:Q->Nat->aa):vP v k=Kg v k:=by cases v<;>rfl
theorem wh(v:V)(k:Q->Nat->aa)(kr:RK->aa):RM v k kr=vG v k kr:=by cases v<;>rfl
theorem So(v:V)(k:Nat->Nat->aa):vS v k=KO v k:=by cases v<;>rfl
theorem UF(v:V)(k:List V->aa):vA v k=Nt v k:=by cases v<;>rfl
theorem aUa(v:V)(k:List V->aa):a2I v k=match v with|.aj l=>k l|_=>.bad 55:=by cases v<;>rfl
theorem yh(v:V)(k:Nat->aa):VL v k=tw v k:=by cases v<;>rfl
theorem aFo(v:V)(sz i:Nat)(k:V->aa):UL v sz i k=v7 sz v i k:=by
 cases v<;>try rfl
 ·exact yy _ _ _ _ _ _ k
 ·exact yy _ _ _ _ _ _ k
theorem ik(v:V)(k:List V->aa):Ob v k=Jd v k:=by cases v<;>rfl
theorem aIz(v:V)(k:V->aa):ZQ v k=match v with|.rr x=>SV x k|.ptr o off=>k (.ptr o off)|.fn f fs cs=>k (.fn f fs cs)|.kh t u=>k (.kh t u)|.bN l=>k (.bN l)|_=>.bad 48:=by cases v<;>rfl
theorem aIw(op:BinOp)(a b:V)(k:V->aa):ZT a op b k=ry op a b k:=by
 cases a<;>try rfl
 ·rename_i kd x
  show UI b op kd x k=_;cases b<;>try rfl
  rename_i IC y;show C7 (Nat.beq (ef kd) (ef IC)) 16 (Wm op kd x y k)=_;rw[cM,aCt,eg,eg];rfl
 ·rename_i l n
  show UJ b op l n k=_;cases b<;>try rfl
  rename_i m j;exact aCu op l n m j k
theorem aFu(h:T O)(a b:V)(k:Bool->aa):Sp a k=Gv .ly h a b k:=by cases a<;>rfl
theorem aFt(h:T O)(a b:V)(k:Bool->aa):Sq a k=Gv .px h a b k:=by cases a<;>rfl
theorem aFr(h:T O)(a b:V)(k:Bool->aa):Ss a k=Gv .pn h a b k:=by cases a<;>rfl
theorem aFs(h:T O)(a b:V)(k:Bool->aa):Sr a k=Gv .pp h a b k:=by cases a<;>rfl
theorem aBY(h:T O)(a b:V)(k:Bool->aa):z9 a h b k=Gv .ptr h a b k:=by
 cases a<;>try rfl
 ·show UO b k=_
  cases b<;>rfl
 ·rename_i o off
  show UP b h o off k=_;cases b<;>try rfl
  rename_i o' DN;exact a3m h o off o' DN k
theorem aIx(sz:Nat)(v:V)(lo hi:Nat)(k:V->aa):ZS v sz lo hi k=yZ sz v lo hi none k:=by
 cases v<;>try rfl
 ·show C7 (kJ (Nat.beq lo 0) (Nat.beq hi 0)) 40 (k .jk)=gd (Nat.beq lo 0&&Nat.beq hi 0&&true) 40 (k .jk)
  rw[cM,fW,Bool.and_true]
 ·rename_i o off len cap
  show Wr o off cap sz lo hi k=_;simp only[Wr,yZ,cM,fW,gI,aF,lL];rfl
 ·rename_i o off len z
  show C7 (Nat.beq sz z) 43 (Wq o off len sz lo hi k)=_;simp only[Wq,yZ,cM,fW,gI,aF,lL];cases Nat.beq sz z
  ·rfl
  ·rfl
 ·show C7 (kJ (Nat.beq lo 0) (Nat.beq hi 0)) 45 (k .se)=gd (Nat.beq lo 0&&Nat.beq hi 0) 45 (k .se)
  rw[cM,fW]
theorem aBX(sz:Nat)(v:V)(h:T O)(k:Nat->List V->aa):z5 v sz h k=jK sz v h k:=by
 cases v<;>try rfl
 ·rename_i l n
  show C7 (Nat.beq sz 1) 62 (QY l n λcs=>k l cs)=_;rw[cM,yr];rfl
 ·exact so _ sz h _ _ k
 ·exact so _ sz h _ _ k
theorem aPq(ty sz m:Nat)(v:V)(new:List V)(h:T O)(nx:Q)(k:Kw):XN v ty sz m new h nx k=Ki ty sz v m new h nx k:=by
 cases v<;>try rfl
 ·show Yr m ty sz new h nx k=_
  cases m with
  |zero=>rfl
  |succ m=>exact a1m ty sz 0 _ [] new h nx k
 ·rename_i o off len cap
  show Vw o off len cap ty sz m new h nx k=_;simp only[Vw,Ki,lL,so,a1m];show(match Nat.ble (len+m) cap with|true=>_|false=>_)=_;cases Nat.ble (len+m) cap
  ·simp only[jK]
   cases len<;>rfl
  ·cases m with
   |zero=>rfl
   |succ m=>simp only[wo,gI,aF];rfl
 ·rename_i o off len z
  show C7 (Nat.beq sz z) 63 (aRD m o off len ty sz new h nx k)=_;rw[cM];simp only[Ki];congr 1;cases m with
  |zero=>rfl
  |succ m =>
   show GX o h (λob=>aKe ob o off len ty sz (Nat.succ m) new h nx k)=_;rw[gB];simp only[bW];generalize h.ob o=ob;cases ob<;>try rfl
   rename_i n t B4 CJ HY ex;show Ig _ _ _=_;rw[lL];simp only[aKd,cM,fW,wo,kZ,gI,aF,iO,sO,<-Bool.and_assoc];rfl
theorem xO(ok:Bool)(z:V)(k:V->aa):VP ok z k=yD ok z k:=by cases ok<;>rfl
theorem aPt(ok:Bool)(t:Nat)(z v:V)(k:V->aa):XM v ok t z k=Oc ok t z v k:=by
 cases v<;>try rfl
 ·exact xO ok z k
 ·rename_i t' u
  show Wd ok t z t' u k=_;simp only[Wd,Oc,lL,xO];cases Nat.beq t' t
  ·rfl
  ·cases ok<;>rfl
def CB(g:Xg)(x:X):Prop:=∀tm k,g tm k=xK x tm k
def bp(g:Xs)(xs:List X):Prop:=∀tm k,g tm k=Hy xs tm k
def D4(p:Pg)(b:PB):Prop:=∀tm h k,p tm h k=pK b tm h k
def NS(a:Ag)(b:AB):Prop:=∀tm k,a tm k=aK b tm k
def NQ(w:Wg)(b:WB):Prop:=∀tm h nx k,w tm h nx k=wK b tm h nx k
def Jg(d:Dt)(q:Option Q):Prop:=∀v tm k,d v tm k=qV q v tm k
def Qz(b:Bd)(ps:List (Nat×Nat×X)):Prop:=∀tm l k,b tm l k=cr tm ps l k
def qy(g:Og)(x:Option X):Prop:=∀tm d k,g tm d k=xU x tm d k
def RB(g:Sg)(sz:Nat)(ps:List (Nat×X)):Prop:=∀tm t k,g tm t k=uF tm sz ps t k
theorem aUe(v:V):CB (a2T v) (.c v):=λ_ _=>rfl
theorem aIB:CB ZF .bad:=λ_ _=>rfl
theorem aPF:bp XH []:=λ_ _=>rfl
theorem aPE{g:Xg}{r:Xs}{x:X}{xs:List X}(h1:CB g x)(h2:bp r xs):bp (XI g r) (x::xs):=λtm k=>by
 show g tm (λv=>r tm λl=>k (v::l))=xK x tm λv=>Hy xs tm λl=>k (v::l)
 rw[h1];congr 1;funext v;exact h2 tm _
theorem aLJ:Qz Yp []:=λ_ _ _=>rfl
theorem aLI{g:Xg}{r:Bd}{x:X}{ps:List (Nat×Nat×X)}{off n:Nat}(h1:CB g x)(h2:Qz r ps):Qz (VK off n g r) ((off,n,x)::ps):=λtm l k=>by
 simp only[VK,cr,h1 tm,ik,n0,cM,aEw,h2 tm]
theorem aNU:qy Xw none:=λ_ _ _=>rfl
theorem aNV{g:Xg}{x:X}(h1:CB g x):qy (TZ g) (some x):=λtm d k=>by
 simp only[TZ,xU,h1 tm,qm]
theorem aO9{sz:Nat}:RB X2 sz []:=λ_ _ _=>rfl
theorem aO8{g:Xg}{r:Sg}{x:X}{ps:List (Nat×X)}{i sz:Nat}(h1:CB g x)(h2:RB r sz ps):RB (TM i sz g r) sz ((i,x)::ps):=λtm t k=>by
 simp only[TM,uF,h1 tm,ik,n0,cM,kZ,h2 tm];rfl
theorem z_(c:Nat)(v:V)(k:Nat->Nat->aa):O7 v c k=match v with|.str l n=>k l n|_=>.bad c:=by cases v<;>rfl
theorem z6(c:Nat)(v:V)(k:IntKind->Int->aa):O9 v c k=match v with|.int kd n=>k kd n|_=>.bad c:=by cases v<;>rfl
theorem z8(c:Nat)(v:V)(k:Q->Nat->aa):O8 v c k=match v with|.ptr o a=>k o a|_=>.bad c:=by cases v<;>rfl
theorem zk(s:KK)(h:T O)(x y:V)(k:Bool->aa):LC s h x y k=gK s h x y k:=by
 cases s
 ·show O7 x 35 (λl n=>O7 y 32 λm j=>k (kJ (Nat.beq l m) (Nat.beq n j)))=_
  rw[z_];cases x<;>try rfl
  simp only[z_];cases y<;>try rfl
  simp only[fW];rfl
 ·show O9 x 35 (λkd a=>O9 y 34 λIC b=>C7 (Nat.beq (ef kd) (ef IC)) 33 (k (te a b)))=_
  rw[z6];cases x<;>try rfl
  simp only[z6];cases y<;>try rfl
  simp only[cM,eg,dt];rfl
 ·show O8 x 35 (λo a=>O8 y 34 λo' b=>Qx h o a o' b k)=_
  rw[z8];cases x<;>try rfl
  simp only[z8];cases y<;>try rfl
  simp only[a3m];rfl
 ·rfl
theorem a1c(s:KK)(h:T O)(x:V)(k:V->aa)(kn:aa):∀es,findF es (LC s h) x k kn=kR s h x es k kn
 |[]=>rfl
 |(y,v)::es=>by
  show LC s h x y (λb=>Ig b (k v) (findF es (LC s h) x k kn))=_;rw[zk];simp only[kR];congr 1;funext b;rw[lL,a1c s h x k kn es];cases b<;>rfl
theorem ye(s:KK)(h:T O)(x:V)(f:V->V)(z:V):∀(es:List (V×V))(i:Nat)(k:Ku),VN es (LC s h) x f z i k=uM s h x f z es i k
 |[],i,k=>rfl
 |(y,u)::es,i,k=>by
  show LC s h x y (λb=>@Bool.rec (λ_=>V->V->List (V×V)->Ut->Ut) (λy u _ ih e x f z i k=>fN (Nat.succ i) λi'=>ih e x f z i' λDL j w=>k ((y,u)::DL) j w) (λ_ u es _ _ x f _ i k=>k ((x,f u)::es) i u) b y u es (VN es) (LC s h) x f z i k)=_;rw[zk];simp only[uM];congr 1;funext b;cases b
  ·simp only[gI,aF,ye s h x f z es]
  ·rfl
theorem ze(s:KK)(x:V)(k:aa):Tn s x k=jO s x k:=by cases s<;>rfl
theorem WV(c:Nat)(v:V)(k:Q->aa)(kn:aa):vM v c k kn=match v with|.map o=>k o|.mo=>kn|_=>.bad c:=by cases v<;>rfl
section
variable {x y z:Xg}{a b c:X}
theorem aOI(hx:CB x a):D4 (Xk x) (.mv a):=λtm _ k=>hx tm k
theorem aEF(hx:CB x a)(hy:CB y b)(hz:CB z c):D4 (Wa x y z) (.pick a b c):=λtm h k=>by
 simp only[Wa,pK,hx tm,WX];congr 1;funext v;congr 1;funext t;cases t
 ·exact hz tm k
 ·exact hy tm k
theorem aHL{op:BinOp}(hx:CB x a)(hy:CB y b):D4 (VW op x y) (.bin op a b):=λtm h k=>by simp only[VW,pK,hx tm,hy tm,aIw]
theorem aOu{neg:Bool}{m:oz}(hx:CB x a)(hy:CB y b):D4 (@oz.rec (λ_=>Pg) (SW neg x y) (SX neg x y) (oJ Sp neg x y) (oJ Sq neg x y) (oJ Ss neg x y) (oJ Sr neg x y) m) (.eq neg m a b):=λtm h k=>by
 cases m
 ·show SW neg x y tm h k=_
  simp only[SW,pK,hx tm,hy tm,aBY,sD]
 ·show SX neg x y tm h k=_
  simp only[SX,pK,hx tm,hy tm,WX,sD,aF7,Gv]
 ·show oJ Sp neg x y tm h k=_
  simp only[oJ,pK,hx tm,hy tm,sD];congr 1;funext u;congr 1;funext w;exact aFu h u w _
 ·show oJ Sq neg x y tm h k=_
  simp only[oJ,pK,hx tm,hy tm,sD];congr 1;funext u;congr 1;funext w;exact aFt h u w _
 ·show oJ Ss neg x y tm h k=_
  simp only[oJ,pK,hx tm,hy tm,sD];congr 1;funext u;congr 1;funext w;exact aFr h u w _
 ·show oJ Sr neg x y tm h k=_
  simp only[oJ,pK,hx tm,hy tm,sD];congr 1;funext u;congr 1;funext w;exact aFs h u w _
theorem aHZ(hx:CB x a):D4 (V2 x) (.not a):=λtm h k=>by simp only[V2,pK,hx tm,WX,pY,n7]
theorem aHN{kd:IntKind}(hx:CB x a):D4 (VU kd x) (.cvi kd a):=λtm h k=>by simp only[VU,pK,hx tm,UN,yR]
theorem aHM{l:List V}{r:Bd}{ps:List (Nat×Nat×X)}(hr:Qz r ps):D4 (VV l r) (.bld l ps):=λtm h k=>by simp only[VV,pK,hr tm]
theorem aHT(hx:CB x a):D4 (V8 x) (.ld1 a):=λtm h k=>by simp only[V8,pK,hx tm,wh,zl]
theorem aHU{n:Nat}(hx:CB x a):D4 (V7 n x) (.ldn n a):=λtm h k=>by simp only[V7,pK,hx tm,wh,ej]
theorem aHY(hx:CB x a):D4 (V3 x) (.nck a):=λtm h k=>by
 simp only[V3,pK,hx tm];congr 1;funext v;exact aIz v k
theorem aOw{off:Nat}(hx:CB x a):D4 (TV off x) (.fa off a):=λtm h k=>by simp only[TV,pK,hx tm,wh,gI,aF];rfl
theorem aOx{agg:Bool}{off n:Nat}(hx:CB x a):D4 (TU agg off n x) (.fd agg off n a):=λtm h k=>by simp only[TU,pK,hx tm,UF,zq]
theorem aOy{sz:Nat}(hx:CB x a)(hy:CB y b):D4 (TT sz x y) (.ia sz a b):=λtm h k=>by simp only[TT,pK,hx tm,hy tm,qm,aFo]
theorem aHQ{len sz:Nat}(hx:CB x a)(hy:CB y b):D4 (VT len sz x y) (.iaa len sz a b):=λtm h k=>by simp only[VT,pK,hx tm,hy tm,qm,WU,cM,gI,aF];rfl
theorem aHS(hx:CB x a)(hy:CB y b):D4 (V9 x y) (.ixs a b):=λtm h k=>by simp only[V9,pK,hx tm,hy tm,qm,So,cM,gI,aF,ff];rfl
theorem aHR{agg:Bool}{len sz:Nat}(hx:CB x a)(hy:CB y b):D4 (Va agg len sz x y) (.ixa agg len sz a b):=λtm h k=>by simp only[Va,pK,hx tm,hy tm,qm,UF,cM,gI,aF,zq];rfl
theorem aH1{lo hi:Og}{l u:Option X}(hx:CB x a)(hl:qy lo l)(hu:qy hi u):D4 (V0 x lo hi) (.slS a l u):=λtm h k=>by
 simp only[V0,pK,hx tm,So,hl tm,hu tm,cM,fW,gI,aF,ff];rfl
theorem aH0{sz:Nat}{lo hi:Og}{l u:Option X}(hx:CB x a)(hl:qy lo l)(hu:qy hi u):D4 (V1 sz x lo hi) (.slL sz a l u none):=λtm h k=>by
 simp only[V1,pK,hx tm,yh,hl tm,hu tm,aIx]
theorem aHX{t:Nat}(hx:CB x a):D4 (V4 t x) (.mki t a):=λtm h k=>by simp only[V4,pK,hx tm]
theorem aHW{f:Q}{r s:Xs}{xs ys:List X}(hr:bp r xs)(hs:bp s ys):D4 (V5 f r s) (.mkf f xs ys):=λtm h k=>by simp only[V5,pK,hr tm,hs tm]
theorem aOE{s:KK}{ok:Bool}{z:V}(hx:CB x a)(hy:CB y b):D4 (TS s ok z x y) (.lk s ok z a b):=λtm h k=>by
 simp only[TS,pK,hx tm,hy tm,ze,WV,gB,a3U,a1c];congr 1;funext m;congr 1;funext u;congr 1;cases m<;>try rfl
 ·cases ok<;>rfl
 ·cases ok<;>rfl
theorem aEC(hx:CB x a):D4 (Wb x) (.lenS a):=λtm h k=>by simp only[Wb,pK,hx tm,So]
theorem aEy(hx:CB x a):D4 (W3 x) (.lenL a):=λtm h k=>by simp only[W3,pK,hx tm,yh]
theorem aEA(hx:CB x a):D4 (W0 x) (.lenM a):=λtm h k=>by
 simp only[W0,pK,hx tm,WV,gB,a3U,n0];congr 1;funext v;cases v<;>rfl
theorem aHV(hx:CB x a)(hy:CB y b):D4 (V6 x y) (.max a b):=λtm h k=>by
 simp only[V6,pK,hx tm,hy tm,UN,lL,wU];rfl
theorem aOv{i:Nat}(hx:CB x a):D4 (TW i x) (.ex i a):=λtm h k=>by
 simp only[TW,pK,hx tm,aUa,a3Z];rfl
theorem aON{ok:Bool}{t:Nat}{z:V}(hx:CB x a):D4 (TP ok t z x) (.ta ok t z a):=λtm h k=>by simp only[TP,pK,hx tm,aPt]
theorem iC(b:PB):D4 (qT b) b:=λ_ _ _=>rfl
theorem aLf{ty n:Nat}{t:T V}:NS (xT ty n t) (.al ty n t):=λ_ _=>rfl
theorem aLh{ty n:Nat}(hx:CB x a):NS (Wz ty n x) (.bx ty n a):=λtm k=>by simp only[Wz,aK,hx tm,ik,n0,cM,kZ]
theorem aFO{ty sz len:Nat}{t:T V}{g:Sg}{ps:List (Nat×X)}(hg:RB g sz ps):NS (Vy ty sz len t g) (.bsl ty sz len t ps):=λtm k=>by
 simp only[Vy,aK,hg tm,gI,aF];rfl
theorem aFP:NS aPK .mkm:=λ_ _=>rfl
theorem aB4(b:AB):NS (P3 b) b:=λ_ _=>rfl
theorem aPz{n:Nat}(hx:CB x a)(hy:CB y b):NQ (TD n x y) (.st n a b):=λtm h nx k=>by simp only[TD,wK,hx tm,hy tm,WU,ik,n0,cM,wo]
theorem aIg(ob:O)(F:List (V×V)->(List (V×V)->aa)->aa)(k:O->aa):Ql ob (λes=>F es λDL=>aKV ob DL k)=wZ ob λes=>F es λDL=>k (Qg ob DL):=by cases ob<;>rfl
theorem aPw{s:KK}(hx:CB x a)(hy:CB y b)(hz:CB z c):NQ (TF s x y z) (.mu s a b c):=λtm h nx k=>by
 simp only[TF,wK,hx tm,hy tm,hz tm,ze,WV,gB,ye,iO];congr 1;funext m;congr 1;funext u;congr 1;funext v;congr 1;cases m<;>try rfl
 simp only[bW];exact aIg _ (λes g=>uM s h u (λ_=>v) v es 0 λDL _ _=>g DL) _
theorem aPu{ty sz:Nat}(hx:CB x a)(hy:CB y b):NQ (TG ty sz x y) (.ap ty sz a b):=λtm h nx k=>by
 simp only[TG,wK,hx tm,hy tm,aBX,cM,aPq]
theorem aPy(hx:CB x a):NQ (TE x) (.sb a):=λtm h nx k=>by
 simp only[TE,wK,hx tm,So,yr,kZ,iO,sO]
theorem rI(b:WB):NQ (qp b) b:=λ_ _ _ _=>rfl
end
end
section
def du{α:Type}(Φ:(α->aa)->aa):Prop:=(∃a,∀k,Φ k=k a)\/∃n,∀k,Φ k=.bad n
def tc(Φ:aa->aa):Prop:=(∀k,Φ k=k)\/∃n,∀k,Φ k=.bad n
def lm(Φ:Kw->aa):Prop:=(∃v h nx,∀k,Φ k=k v h nx)\/∃n,∀k,Φ k=.bad n
variable {α β:Type}
theorem du.ret(a:α):du (λk=>k a):=.inl ⟨a,λ_=>rfl⟩
theorem du.bad(n:Nat):du (λ_:α->aa=>.bad n):=.inr ⟨n,λ_=>rfl⟩
theorem lm.ret(v:V)(h:T O)(nx:Q):lm (λk=>k v h nx):=.inl ⟨v,h,nx,λ_=>rfl⟩
theorem lm.bad(n:Nat):lm (λ_=>.bad n):=.inr ⟨n,λ_=>rfl⟩
theorem du.bind{Φ:(α->aa)->aa}{Ψ:α->(β->aa)->aa}(h:du Φ)(hf:∀a,du (Ψ a)):du (λk=>Φ λa=>Ψ a k):=by
 rcases h with⟨a,h⟩|⟨n,h⟩
 ·rw[show(λk=>Φ λa=>Ψ a k)=Ψ a from funext λk=>h _];exact hf a
 ·exact .inr ⟨n,λk=>h _⟩
theorem du.dc{Φ:(α->aa)->aa}{Ψ:α->Kw->aa}(h:du Φ)(hf:∀a,lm (Ψ a)):lm (λk=>Φ λa=>Ψ a k):=by
 rcases h with⟨a,h⟩|⟨n,h⟩
 ·rw[show(λk=>Φ λa=>Ψ a k)=Ψ a from funext λk=>h _];exact hf a
 ·exact .inr ⟨n,λk=>h _⟩
theorem tc.bind{Φ:aa->aa}{Ψ:(β->aa)->aa}(h:tc Φ)(hf:du Ψ):du (λk=>Φ (Ψ k)):=by
 rcases h with h|⟨n,h⟩
 ·rw[show(λk=>Φ (Ψ k))=Ψ from funext λk=>h _];exact hf
 ·exact .inr ⟨n,λk=>h _⟩
theorem tc.dc{Φ:aa->aa}{Ψ:Kw->aa}(h:tc Φ)(hf:lm Ψ):lm (λk=>Φ (Ψ k)):=by
 rcases h with h|⟨n,h⟩
 ·rw[show(λk=>Φ (Ψ k))=Ψ from funext λk=>h _];exact hf
 ·exact .inr ⟨n,λk=>h _⟩
theorem eK(b:Bool)(n:Nat):tc (gd b n):=by cases b<;>first|exact .inl λ_=>rfl|exact .inr ⟨n,λ_=>rfl⟩
def oN{α β:Type}(Φ:(α->β->aa)->aa):Prop:=(∃a b,∀k,Φ k=k a b)\/∃n,∀k,Φ k=.bad n
theorem oN.dc{Φ:(α->β->aa)->aa}{Ψ:α->β->Kw->aa}(h:oN Φ)(hf:∀a b,lm (Ψ a b)):lm (λk=>Φ λa b=>Ψ a b k):=by
 rcases h with⟨a,b,h⟩|⟨n,h⟩
 ·rw[show(λk=>Φ λa b=>Ψ a b k)=Ψ a b from funext λk=>h _];exact hf a b
 ·exact .inr ⟨n,λk=>h _⟩
theorem oN.bind{γ:Type}{Φ:(α->β->aa)->aa}{Ψ:α->β->(γ->aa)->aa}(h:oN Φ)(hf:∀a b,du (Ψ a b)):du (λk=>Φ λa b=>Ψ a b k):=by
 rcases h with⟨a,b,h⟩|⟨n,h⟩
 ·rw[show(λk=>Φ λa b=>Ψ a b k)=Ψ a b from funext λk=>h _];exact hf a b
 ·exact .inr ⟨n,λk=>h _⟩
theorem oY(x:X)(tm:T V):du (xK x tm):=by
 cases x
 ·exact .inl ⟨_,λk=>dI _ tm k⟩
 ·exact .inl ⟨_,λ_=>rfl⟩
 ·exact .inr ⟨2,λ_=>rfl⟩
theorem z3(tm:T V):∀xs:List X,du (Hy xs tm)
 |[]=>.inl ⟨[],λ_=>rfl⟩
 |x::xs=>(oY x tm).bind λv=>(z3 tm xs).bind λl=>.ret (v::l)
theorem aTT(v:V):oN (Kg v):=by cases v<;>first|exact .inl ⟨_,_,λ_=>rfl⟩|exact .inr ⟨_,λ_=>rfl⟩
theorem WZ(v:V):oN (KO v):=by cases v<;>first|exact .inl ⟨_,_,λ_=>rfl⟩|exact .inr ⟨_,λ_=>rfl⟩
theorem aPo(v:V):du (Jd v):=by cases v<;>first|exact .inl ⟨_,λ_=>rfl⟩|exact .inr ⟨_,λ_=>rfl⟩
theorem x_{α:Type}(l:List α):du (sA l):=.inl ⟨_,λk=>cK l k⟩
theorem yb(o:O):oN (fq o):=by cases o<;>first|exact .inl ⟨_,_,λ_=>rfl⟩|exact .inr ⟨_,λ_=>rfl⟩
theorem aIs(o:O):du (wZ o):=by cases o<;>first|exact .inl ⟨_,λ_=>rfl⟩|exact .inr ⟨_,λ_=>rfl⟩
theorem l6(q:Q)(h:T O):du (gO q h):=.inl ⟨_,λk=>bW q h k⟩
theorem nP(v:O)(q:Q)(h:T O):du (pO v q h):=.inl ⟨_,λk=>c8 v q h k⟩
theorem nQ(vs:List V)(i:Nat)(t:T V):du (j8 vs i t):=.inl ⟨_,λk=>dB vs i t k⟩
theorem cS(n:Nat):du (aZ n):=.inl ⟨n,λk=>aF n k⟩
theorem yK(q:Q):du (k9 q):=.inl ⟨_,λ_=>rfl⟩
theorem a2b(n:Nat):∀(i:Nat)(t:T V),du (tJ n i t):=by
 induction n with
 |zero=>intro i t;exact .inl ⟨[],λ_=>rfl⟩
 |succ n ih =>
  intro i t;show du (λk=>Jl i λq=>gV q t λv=>aZ (i+1) λi'=>tJ n i' t λl=>k (v::l));simp only[kF,dI,aF];exact(ih (i+1) t).bind λl=>.ret _
theorem x3(h:T O)(o:Q)(off n:Nat):du (mW h o off n) :=
 (l6 o h).bind λob=>(yb ob).bind λm t=>(eK (Nat.ble (off+n) m) 47).bind (a2b n off t)
theorem a2c:∀(l:List Q)(h:T O),du (wS l h)
 |[],h=>.ret h
 |q::l,h=>(nP _ q h).bind λh'=>a2c l h'
theorem wc(o:Q)(off:Nat)(vs:List V)(h:T O):du (KQ o off vs h):=by
 unfold KQ;refine(l6 o h).bind λob=>?_
 cases ob<;>first|exact .bad _|skip
 rename_i n t B4 CJ ty ex;refine(x_ vs).bind λm=>(eK _ _).bind ((nQ vs off t).bind λt'=>?_)
 cases Nat.ble CJ off
 ·exact(a2c B4 h).bind λh'=>nP _ o h'
 ·exact nP _ o h
theorem aBQ(s:KK)(h:T O)(x y:V):du (gK s h x y):=by
 have hp:∀o a o' b,du (JA h o a o' b):=λo a o' b=>by
  unfold JA;cases o.beq o'
  ·exact(l6 _ h).bind λ_=>(l6 _ h).bind λ_=>(eK _ _).bind (.ret _)
  ·cases Nat.beq a b
   ·exact(l6 _ h).bind λ_=>(eK _ _).bind (.ret _)
   ·exact .ret _
 have hc:∀f u w,du (gA f u w):=λf u w=>by
  cases f<;>cases u<;>first|exact .bad _|skip
  all_goals (cases w<;>first|exact .bad _|exact .ret _|exact(eK _ _).bind (.ret _))
 have CU:∀fs us ws,du (fL fs us ws):=λfs=>by
  induction fs with
  |nil=>intro us ws;cases us<;>cases ws<;>first|exact .ret _|exact .bad _
  |cons f fs ih =>
   intro us ws;cases us<;>cases ws<;>first|exact .bad _|skip
   rename_i u us w ws;refine(hc f u w).bind λb=>?_
   cases b
   ·exact .ret _
   ·exact ih us ws
 cases s<;>cases x<;>first|exact .bad _|skip
 all_goals (cases y<;>first|exact .bad _|exact .ret _|exact(eK _ _).bind (.ret _)|exact hp _ _ _ _|exact CU _ _ _)
theorem aBP(s:KK)(x:V):tc (jO s x):=by
 cases s<;>first|exact .inl λ_=>rfl|skip
 rename_i fs;cases x<;>first|exact .inr ⟨_,λ_=>rfl⟩|skip
 rename_i cs;rcases eK (Nat.beq cs.length fs.length) 38 with h1|⟨n,h1⟩
 ·exact .inl λk=>by simp only[jO,cK];exact h1 k
 ·exact .inr ⟨n,λk=>by simp only[jO,cK];exact h1 k⟩
def v6(Φ:Ku->aa):Prop:=(∃es i v,∀k,Φ k=k es i v)\/∃n,∀k,Φ k=.bad n
theorem v6.dc{Φ:Ku->aa}{Ψ:List (V×V)->Nat->V->Kw->aa}(h:v6 Φ)(hf:∀a b c,lm (Ψ a b c)):lm (λk=>Φ λa b c=>Ψ a b c k):=by
 rcases h with⟨a,b,c,h⟩|⟨n,h⟩
 ·rw[show(λk=>Φ λa b c=>Ψ a b c k)=Ψ a b c from funext λk=>h _];exact hf a b c
 ·exact .inr ⟨n,λk=>h _⟩
theorem yd(s:KK)(h:T O)(x:V)(f:V->V)(z:V):∀(es:List (V×V))(i:Nat),v6 (uM s h x f z es i)
 |[],i=>.inl ⟨_,_,_,λ_=>rfl⟩
 |(y,u)::es,i=>by
  rcases aBQ s h x y with⟨b,hb⟩|⟨n,hn⟩
  ·cases b
   ·rcases yd s h x f z es (i+1) with⟨a,b,c,h1⟩|⟨n,h1⟩
    ·exact .inl ⟨(y,u)::a,b,c,λk=>by simp only[uM,hb,aF,h1]⟩
    ·exact .inr ⟨n,λk=>by simp only[uM,hb,aF,h1]⟩
   ·exact .inl ⟨(x,f u)::es,i,u,λk=>by simp only[uM,hb]⟩
  ·exact .inr ⟨n,λk=>by simp only[uM,hn]⟩
theorem ib:∀(l n:Nat),du (MO l n)
 |0,n=>.ret _
 |l+1,n=>(cS _).bind λ_=>(cS _).bind λn'=>(ib l n').bind λ_=>.ret _
theorem aFa(h:T O)(o:Q)(off n:Nat):du (eo h o off n):=by
 unfold eo;refine(l6 _ _).bind λob=>?_
 cases ob<;>first|exact .bad _|skip
 exact(eK _ _).bind (a2b _ _ _)
theorem a7G(sz:Nat)(x:RK)(h:T O):oN (sm sz x h):=by
 cases x<;>first|exact .inr ⟨_,λ_=>rfl⟩|exact .inl ⟨_,_,λ_=>rfl⟩|skip
 rename_i o off len;rcases aFa h o off (len*sz) with⟨a,ha⟩|⟨n,hn⟩
 ·exact .inl ⟨len,a,λk=>ha _⟩
 ·exact .inr ⟨n,λk=>hn _⟩
theorem a0t(sz:Nat)(v:V)(h:T O):oN (jK sz v h):=by
 have hl:∀o off len,oN (λk:Nat->List V->aa=>match len with|0=>k 0 []|len=>mW h o off (len*sz) λl=>k len l):=λo off len=>by
  cases len with
  |zero=>exact .inl ⟨_,_,λ_=>rfl⟩
  |succ m =>
   rcases x3 h o off ((m+1)*sz) with⟨a,ha⟩|⟨n,hn⟩
   ·exact .inl ⟨m+1,a,λk=>ha _⟩
   ·exact .inr ⟨n,λk=>hn _⟩
 cases v<;>first|exact .inr ⟨_,λ_=>rfl⟩|exact .inl ⟨_,_,λ_=>rfl⟩|exact hl _ _ _|exact a7G _ _ _|skip
 rename_i l n;rcases eK (Nat.beq sz 1) 62 with h1|⟨n',h1⟩
 ·rcases ib l n with⟨a,ha⟩|⟨n',hn⟩
  ·exact .inl ⟨l,a,λk=>by simp only[jK,h1,ha]⟩
  ·exact .inr ⟨n',λk=>by simp only[jK,h1,hn]⟩
 ·exact .inr ⟨n',λk=>h1 _⟩
theorem yJ(ty sz len m:Nat)(old new:List V)(h:T O)(nx:Q):lm (mC ty sz len m old new h nx) :=
 (eK _ _).dc ((nQ _ _ _).dc λt=>(nQ _ _ _).dc λt'=>(cS _).dc λn=>(cS _).dc λl=>(nP _ _ _).dc λh'=>(yK _).dc λnx'=>.ret _ _ _)
theorem aPn(ty sz:Nat)(a:V)(m:Nat)(new:List V)(h:T O)(nx:Q):lm (Ki ty sz a m new h nx):=by
 cases a<;>first|exact .bad _|skip
 ·cases m
  ·exact .ret _ _ _
  ·exact yJ _ _ _ _ _ _ _ _
 ·rename_i o off len cap
  simp only[show Ki ty sz (.sl o off len cap) m new h nx=λk=>(match Nat.ble (len+m) cap with
   |true=>(match m with
    |0=>k (.sl o off len cap) h nx
    |m=>KQ o (off+len*sz) new h λh'=>aZ (len+m) λl=>k (.sl o off l cap) h' nx)
   |false=>jK sz (.sl o off len cap) h λ_ old=>mC ty sz len m old new h nx k) from rfl]
  cases Nat.ble (len+m) cap
  ·exact(a0t _ _ _).dc λ_ old=>yJ _ _ _ _ _ _ _ _
  ·cases m
   ·exact .ret _ _ _
   ·exact(wc _ _ _ _).dc λh'=>(cS _).dc λl=>.ret _ _ _
 ·rename_i o off len z
  show lm (λk=>gd (Nat.beq sz z) 63 _);refine(eK _ _).dc (Ψ:=λk=>_) ?_;cases m
  ·exact .ret _ _ _
  ·refine(l6 _ _).dc λob=>?_
   cases ob<;>first|exact .bad _|skip
   rename_i m n t B4 CJ HY ex;simp only;cases Nat.ble (off+(len+(m+1))*sz) n
   ·exact(eK _ _).dc ((nQ _ _ _).dc λt'=>(cS _).dc λn'=>(cS _).dc λl=>(nP _ _ _).dc λh'=>(nP _ _ _).dc λMK=>(yK _).dc λnx'=>.ret _ _ _)
   ·exact(wc _ _ _ _).dc λh'=>(cS _).dc λl=>.ret _ _ _
 ·rename_i x
  cases x<;>first|exact .bad _|skip
  cases m
  ·exact .ret _ _ _
  ·exact yJ _ _ _ _ _ _ _ _
theorem aPv(b:WB)(tm:T V)(h:T O)(nx:Q):lm (wK b tm h nx):=by
 cases b
 ·exact(oY _ _).dc λp=>(aTT p).dc λo off=>(oY _ _).dc λv=>(aPo v).dc λc=>(x_ c).dc λm=>(eK _ _).dc ((wc _ _ _ _).dc λh'=>.ret _ _ _)
 ·refine(oY _ _).dc λm=>(oY _ _).dc λkv=>(oY _ _).dc λv=>(aBP _ kv).dc ?_
  cases m<;>first|exact .bad _|skip
  exact(l6 _ _).dc λob=>(aIs ob).dc λes=>(yd _ _ _ _ _ _ _).dc λDL _ _=>(nP _ _ _).dc λh'=>.ret _ _ _
 ·exact .bad _
 ·exact .bad _
 ·exact(oY _ _).dc λa=>(oY _ _).dc λb=>(a0t _ _ _).dc λm new=>(eK _ _).dc (aPn _ _ _ _ _ _ _)
 ·exact .bad _
 ·exact(oY _ _).dc λv=>(WZ v).dc λl n=>(ib l n).dc λcs=>(nQ _ _ _).dc λt=>(nP _ _ _).dc λh'=>(yK _).dc λnx'=>.ret _ _ _
 ·exact .bad _
theorem aFA{b:WB}{tm:T V}{h:T O}{nx:Q}{k:Kw}{r:V}(e:wK b tm h nx k=.ok r):∃v h' nx',k v h' nx'=.ok r/\∀k',wK b tm h nx k'=k' v h' nx':=by
 rcases aPv b tm h nx with⟨v,h',nx',h1⟩|⟨n,h1⟩
 ·exact⟨v,h',nx',(h1 k).symm.trans e,h1⟩
 ·rw[h1] at e;cases e
theorem nT{x:X}{tm:T V}{k:V->aa}{r:V}(e:xK x tm k=.ok r):∃v,k v=.ok r/\∀k',xK x tm k'=k' v:=by
 rcases oY x tm with⟨v,h1⟩|⟨n,h1⟩
 ·exact⟨v,(h1 k).symm.trans e,h1⟩
 ·rw[h1] at e;cases e
theorem sU{xs:List X}{tm:T V}{k:List V->aa}{r:V}(e:Hy xs tm k=.ok r):∃v,k v=.ok r/\∀k',Hy xs tm k'=k' v:=by
 rcases z3 tm xs with⟨v,h1⟩|⟨n,h1⟩
 ·exact⟨v,(h1 k).symm.trans e,h1⟩
 ·rw[h1] at e;cases e
end
def Gd{β:Type}(Φ:β->Prop)(c:(β->D)->D):Prop:=(∃g,Φ g/\∀k,c k=k g)\/∀k,c k=⟨nC⟩
theorem Gd.ret{β:Type}{Φ:β->Prop}{g:β}(h:Φ g):Gd Φ (λk=>k g):=.inl ⟨g,h,λ_=>rfl⟩
theorem Gd.bind{β γ:Type}{Φ:β->Prop}{Ψ:γ->Prop}{c:(β->D)->D}{f:β->(γ->D)->D}(h:Gd Φ c)(hf:∀g,Φ g->Gd Ψ (f g)):Gd Ψ (λk=>c λg=>f g k):=by
 rcases h with⟨g,hg,h⟩|h
 ·rw[show(λk=>c λg=>f g k)=f g from funext λk=>h _];exact hf g hg
 ·exact .inr λk=>h _
theorem aLi(q:QN Q5):Gd (λg:N5 V (T5 V)->(V->aa)->aa=>∀t k,g t k=k (N5.gt g5 t q)) (Qd q):=by
 cases q;exact .inl ⟨VG,λt k=>by cases t;rfl,λ_=>rfl⟩;all_goals exact .inr λ_=>rfl
theorem aOT(q:QN Q5):Gd (λp:JQ=>∀v t k,p v t k=k (N5.pt (p5 v) v q t)) (Oi q):=by
 cases q;exact .inl ⟨Td,λv t k=>by cases t;rfl,λ_=>rfl⟩;all_goals exact .inr λ_=>rfl
theorem aLj(q:QN Q6):Gd (λg:N5 V (T6 V)->(V->aa)->aa=>∀t k,g t k=k (N5.gt g6 t q)) (Qc q):=by
 cases q;exact .inl ⟨VF,λt k=>by cases t;rfl,λ_=>rfl⟩;all_goals exact(aLi _).bind λg hg=>.inl ⟨_,λt k=>by cases t;exact hg _ k,λ_=>rfl⟩
theorem aOU(q:QN Q6):Gd (λp:JP=>∀v t k,p v t k=k (N5.pt (p6 v) v q t)) (Oh q):=by
 cases q;exact .inl ⟨Tc,λv t k=>by cases t;rfl,λ_=>rfl⟩;all_goals exact(aOT _).bind λg hg=>.inl ⟨_,λv t k=>by cases t;exact hg _ _ _,λ_=>rfl⟩
theorem aLk(q:QN Q7):Gd (λg:N5 V (T7 V)->(V->aa)->aa=>∀t k,g t k=k (N5.gt g7 t q)) (Qb q):=by
 cases q;exact .inl ⟨VE,λt k=>by cases t;rfl,λ_=>rfl⟩;all_goals exact(aLj _).bind λg hg=>.inl ⟨_,λt k=>by cases t;exact hg _ k,λ_=>rfl⟩
theorem aOV(q:QN Q7):Gd (λp:JO=>∀v t k,p v t k=k (N5.pt (p7 v) v q t)) (Of q):=by
 cases q;exact .inl ⟨Tb,λv t k=>by cases t;rfl,λ_=>rfl⟩;all_goals exact(aOU _).bind λg hg=>.inl ⟨_,λv t k=>by cases t;exact hg _ _ _,λ_=>rfl⟩
theorem aLl(q:QN Q8):Gd (λg:N5 V (T8 V)->(V->aa)->aa=>∀t k,g t k=k (N5.gt g8 t q)) (Qa q):=by
 cases q;exact .inl ⟨VD,λt k=>by cases t;rfl,λ_=>rfl⟩;all_goals exact(aLk _).bind λg hg=>.inl ⟨_,λt k=>by cases t;exact hg _ k,λ_=>rfl⟩
theorem aOW(q:QN Q8):Gd (λp:JN=>∀v t k,p v t k=k (N5.pt (p8 v) v q t)) (Oe q):=by
 cases q;exact .inl ⟨Ta,λv t k=>by cases t;rfl,λ_=>rfl⟩;all_goals exact(aOV _).bind λg hg=>.inl ⟨_,λv t k=>by cases t;exact hg _ _ _,λ_=>rfl⟩
theorem aFR(q:QN Q9):Gd (λg:N5 V (T9 V)->(V->aa)->aa=>∀t k,g t k=k (N5.gt g9 t q)) (br q):=by
 cases q;exact .inl ⟨Vo,λt k=>by cases t;rfl,λ_=>rfl⟩;all_goals exact(aLl _).bind λg hg=>.inl ⟨_,λt k=>by cases t;exact hg _ k,λ_=>rfl⟩
theorem aH3(q:QN Q9):Gd (λp:RC=>∀v t k,p v t k=k (N5.pt (p9 v) v q t)) (VY q):=by
 cases q;exact .inl ⟨Vj,λv t k=>by cases t;rfl,λ_=>rfl⟩;all_goals exact(aOW _).bind λg hg=>.inl ⟨_,λv t k=>by cases t;exact hg _ _ _,λ_=>rfl⟩
theorem bt(q:Q):Gd (λg:Xg=>CB g (.t q)) (br q):=aFR q
theorem bT(x:X):Gd (λg:Xg=>CB g x) (cX x):=by
 cases x with
 |t q=>exact(bt q).bind λg hg=>.ret hg
 |c v=>exact .ret (aUe v)
 |bad=>exact .ret aIB
theorem rS:∀xs:List X,Gd (λg:Xs=>bp g xs) (Nr xs)
 |[]=>.ret aPF
 |x::xs=>(bT x).bind λ_ hg=>(rS xs).bind λ_ hr=>.ret (aPE hg hr)
theorem aGn(d:Option Q):Gd (λp:Dt=>Jg p d) (Zh d):=by
 cases d with
 |none=>exact .ret λ_ _ _=>rfl
 |some q=>exact(show Gd (λp:Dt=>Jg p (some q)) (VY q) from aH3 q).bind λp hp=>.ret hp
theorem cy(x:Option X):Gd (λg:Og=>qy g x) (QX x):=by
 cases x with
 |none=>exact .ret aNU
 |some x=>exact(bT x).bind λg hg=>.ret (aNV hg)
theorem yu:∀ps:List (Nat×Nat×X),Gd (λg:Bd=>Qz g ps) (Y8 ps)
 |[]=>.ret aLJ
 |(off,n,x)::ps=>(bT x).bind λ_ hg=>(yu ps).bind λ_ hr=>.ret (aLI hg hr)
theorem yw(sz:Nat):∀ps:List (Nat×X),Gd (λg:Sg=>RB g sz ps) (Y4 sz ps)
 |[]=>.ret aO9
 |(i,x)::ps=>(bT x).bind λ_ hg=>(yw sz ps).bind λ_ hr=>.ret (aO8 hg hr)
theorem aKq(b:PB):Gd (λp:Pg=>D4 p b) (cP b):=by
 cases b with
 |mv x=>exact(bT x).bind λ_ h=>.ret (aOI h)
 |pick c x y=>exact(bT c).bind λ_ h=>(bT x).bind λ_ h1=>(bT y).bind λ_ h2=>.ret (aEF h h1 h2)
 |bin op x y=>exact(bT x).bind λ_ h=>(bT y).bind λ_ h1=>.ret (aHL h h1)
 |eq neg m x y=>exact(bT x).bind λ_ h=>(bT y).bind λ_ h1=>.ret (aOu h h1)
 |not x=>exact(bT x).bind λ_ h=>.ret (aHZ h)
 |neg x=>exact .ret (iC _)
 |cvi kd x=>exact(bT x).bind λ_ h=>.ret (aHN h)
 |cvs x=>exact .ret (iC _)
 |cis x=>exact .ret (iC _)
 |ctu x=>exact .ret (iC _)
 |cfu ty n x=>exact .ret (iC _)
 |bld z ps=>exact(yu ps).bind λ_ h=>.ret (aHM h)
 |ld1 x=>exact(bT x).bind λ_ h=>.ret (aHT h)
 |ldn n x=>exact(bT x).bind λ_ h=>.ret (aHU h)
 |nck x=>exact(bT x).bind λ_ h=>.ret (aHY h)
 |fa off x=>exact(bT x).bind λ_ h=>.ret (aOw h)
 |fd agg off n x=>exact(bT x).bind λ_ h=>.ret (aOx h)
 |ia sz x i=>exact(bT x).bind λ_ h=>(bT i).bind λ_ h1=>.ret (aOy h h1)
 |iaa len sz x i=>exact(bT x).bind λ_ h=>(bT i).bind λ_ h1=>.ret (aHQ h h1)
 |ixs x i=>exact(bT x).bind λ_ h=>(bT i).bind λ_ h1=>.ret (aHS h h1)
 |ixa agg len sz x i=>exact(bT x).bind λ_ h=>(bT i).bind λ_ h1=>.ret (aHR h h1)
 |slS x lo hi=>exact(bT x).bind λ_ h=>(cy lo).bind λ_ h1=>(cy hi).bind λ_ h2=>.ret (aH1 h h1 h2)
 |slL sz x lo hi mx =>
  cases mx with
  |none=>exact(bT x).bind λ_ h=>(cy lo).bind λ_ h1=>(cy hi).bind λ_ h2=>.ret (aH0 h h1 h2)
  |some m=>exact .ret (iC _)
 |mki t x=>exact(bT x).bind λ_ h=>.ret (aHX h)
 |mkf f fs caps=>exact(rS fs).bind λ_ h=>(rS caps).bind λ_ h1=>.ret (aHW h h1)
 |lk s ok z m key=>exact(bT m).bind λ_ h=>(bT key).bind λ_ h1=>.ret (aOE h h1)
 |lenS x=>exact(bT x).bind λ_ h=>.ret (aEC h)
 |lenL x=>exact(bT x).bind λ_ h=>.ret (aEy h)
 |lenM x=>exact(bT x).bind λ_ h=>.ret (aEA h)
 |sd x=>exact .ret (iC _)
 |max x y=>exact(bT x).bind λ_ h=>(bT y).bind λ_ h1=>.ret (aHV h h1)
 |ex i x=>exact(bT x).bind λ_ h=>.ret (aOv h)
 |ta ok t z x=>exact(bT x).bind λ_ h=>.ret (aON h)
 |bad=>exact .ret (iC _)
theorem aSe(b:AB):Gd (λa:Ag=>NS a b) (a0v b):=by
 cases b with
 |al ty n t=>exact .ret aLf
 |bx ty n x=>exact(bT x).bind λ_ h=>.ret (aLh h)
 |bsl ty sz len t ps=>exact(yw sz ps).bind λ_ h=>.ret (aFO h)
 |mkm=>exact .ret aFP
 |mks ty sz z len cap=>exact .ret (aB4 _)
theorem aSh(b:WB):Gd (λw:Wg=>NQ w b) (a0y b):=by
 cases b with
 |st n x y=>exact(bT x).bind λ_ h=>(bT y).bind λ_ h1=>.ret (aPz h h1)
 |mu s m x v=>exact(bT m).bind λ_ h=>(bT x).bind λ_ h1=>(bT v).bind λ_ h2=>.ret (aPw h h1 h2)
 |me s z m x=>exact .ret (rI _)
 |es m s v=>exact .ret (rI _)
 |ap ty sz x y=>exact(bT x).bind λ_ h=>(bT y).bind λ_ h1=>.ret (aPu h h1)
 |cp sz x y=>exact .ret (rI _)
 |sb x=>exact(bT x).bind λ_ h=>.ret (aPy h)
 |us ty x n=>exact .ret (rI _)
end Go.CM
end
