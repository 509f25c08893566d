import Derived.Test.YtoiocfngjchdiaaGreatDoorF00
set_option linter.all false
noncomputable section
namespace Go.CM
section
theorem aLU(q:QR)(t:TQ V)(k:V->Res):PH q t k=k (t.get Dft.z q):=rfl
theorem aKU(q:QR)(v:V)(t:TQ V)(k:TQ V->Res):P2 q v t k=k (TQ.put Dft.z v q t):=rfl
theorem aLV(q:QN QR)(t:N5 V (TQ V))(k:V->Res):PF q t k=k (N5.gt (TQ.get Dft.z) t q):=by
 cases t;cases q<;>first|rfl|exact aLU _ _ _
theorem aKV(q:QN QR)(v:V)(t:N5 V (TQ V))(k:N5 V (TQ V)->Res):P1 q v t k=k (N5.pt (TQ.put Dft.z v) v q t):=by
 cases t;cases q<;>first|rfl|exact aKU _ _ _ _
theorem aLW(q:QN Q1)(t:N5 V (T1 V))(k:V->Res):PE q t k=k (N5.gt (g1 (α:=V)) t q):=by
 cases t;cases q<;>first|rfl|exact aLV _ _ _
theorem aKW(q:QN Q1)(v:V)(t:N5 V (T1 V))(k:N5 V (T1 V)->Res):P0 q v t k=k (N5.pt (p1 v) v q t):=by
 cases t;cases q<;>first|rfl|exact aKV _ _ _ _
theorem aLX(q:QN Q2)(t:N5 V (T2 V))(k:V->Res):PD q t k=k (N5.gt (g2 (α:=V)) t q):=by
 cases t;cases q<;>first|rfl|exact aLW _ _ _
theorem aKX(q:QN Q2)(v:V)(t:N5 V (T2 V))(k:N5 V (T2 V)->Res):PZ q v t k=k (N5.pt (p2 v) v q t):=by
 cases t;cases q<;>first|rfl|exact aKW _ _ _ _
theorem aLY(q:QN Q3)(t:N5 V (T3 V))(k:V->Res):PC q t k=k (N5.gt (g3 (α:=V)) t q):=by
 cases t;cases q<;>first|rfl|exact aLX _ _ _
theorem aKY(q:QN Q3)(v:V)(t:N5 V (T3 V))(k:N5 V (T3 V)->Res):PY q v t k=k (N5.pt (p3 v) v q t):=by
 cases t;cases q<;>first|rfl|exact aKX _ _ _ _
theorem aLZ(q:QN Q4)(t:N5 V (T4 V))(k:V->Res):PA q t k=k (N5.gt (g4 (α:=V)) t q):=by
 cases t;cases q<;>first|rfl|exact aLY _ _ _
theorem aKZ(q:QN Q4)(v:V)(t:N5 V (T4 V))(k:N5 V (T4 V)->Res):PX q v t k=k (N5.pt (p4 v) v q t):=by
 cases t;cases q<;>first|rfl|exact aKY _ _ _ _
theorem aL0(q:QN Q5)(t:N5 V (T5 V))(k:V->Res):Oz q t k=k (N5.gt (g5 (α:=V)) t q):=by
 cases t;cases q<;>first|rfl|exact aLZ _ _ _
theorem aK0(q:QN Q5)(v:V)(t:N5 V (T5 V))(k:N5 V (T5 V)->Res):PW q v t k=k (N5.pt (p5 v) v q t):=by
 cases t;cases q<;>first|rfl|exact aKZ _ _ _ _
theorem aL1(q:QN Q6)(t:N5 V (T6 V))(k:V->Res):Oy q t k=k (N5.gt (g6 (α:=V)) t q):=by
 cases t;cases q<;>first|rfl|exact aL0 _ _ _
theorem aK1(q:QN Q6)(v:V)(t:N5 V (T6 V))(k:N5 V (T6 V)->Res):PV q v t k=k (N5.pt (p6 v) v q t):=by
 cases t;cases q<;>first|rfl|exact aK0 _ _ _ _
theorem aL2(q:QN Q7)(t:N5 V (T7 V))(k:V->Res):Ox q t k=k (N5.gt (g7 (α:=V)) t q):=by
 cases t;cases q<;>first|rfl|exact aL1 _ _ _
theorem aK2(q:QN Q7)(v:V)(t:N5 V (T7 V))(k:N5 V (T7 V)->Res):PU q v t k=k (N5.pt (p7 v) v q t):=by
 cases t;cases q<;>first|rfl|exact aK1 _ _ _ _
theorem aL3(q:QN Q8)(t:N5 V (T8 V))(k:V->Res):Ow q t k=k (N5.gt (g8 (α:=V)) t q):=by
 cases t;cases q<;>first|rfl|exact aL2 _ _ _
theorem aK3(q:QN Q8)(v:V)(t:N5 V (T8 V))(k:N5 V (T8 V)->Res):PT q v t k=k (N5.pt (p8 v) v q t):=by
 cases t;cases q<;>first|rfl|exact aK2 _ _ _ _
theorem aF0(q:QN Q9)(t:N5 V (T9 V))(k:V->Res):Yb q t k=k (N5.gt (g9 (α:=V)) t q):=by
 cases t;cases q<;>first|rfl|exact aL3 _ _ _
theorem aFy(q:QN Q9)(v:V)(t:N5 V (T9 V))(k:N5 V (T9 V)->Res):Yr q v t k=k (N5.pt (p9 v) v q t):=by
 cases t;cases q<;>first|rfl|exact aK3 _ _ _ _
theorem bg(q:Q)(t:T V)(k:V->Res):Ll q t k=gV q t k:=aF0 q t k
theorem oh(q:Q)(v:V)(t:T V)(k:T V->Res):Mj q v t k=pV v q t k:=aFy q v t k
theorem aLK(q:QR)(t:TQ O)(k:O->Res):PR q t k=k (t.get Dft.z q):=rfl
theorem aKK(q:QR)(v:O)(t:TQ O)(k:TQ O->Res):Pc q v t k=k (TQ.put Dft.z v q t):=rfl
theorem aLL(q:QN QR)(t:N5 O (TQ O))(k:O->Res):PQ q t k=k (N5.gt (TQ.get Dft.z) t q):=by
 cases t;cases q<;>first|rfl|exact aLK _ _ _
theorem aKL(q:QN QR)(v:O)(t:N5 O (TQ O))(k:N5 O (TQ O)->Res):Pb q v t k=k (N5.pt (TQ.put Dft.z v) v q t):=by
 cases t;cases q<;>first|rfl|exact aKK _ _ _ _
theorem aLM(q:QN Q1)(t:N5 O (T1 O))(k:O->Res):go2 q t k=k (N5.gt (g1 (α:=O)) t q):=by
 cases t;cases q<;>first|rfl|exact aLL _ _ _
theorem aKM(q:QN Q1)(v:O)(t:N5 O (T1 O))(k:N5 O (T1 O)->Res):Pa q v t k=k (N5.pt (p1 v) v q t):=by
 cases t;cases q<;>first|rfl|exact aKL _ _ _ _
theorem aLN(q:QN Q2)(t:N5 O (T2 O))(k:O->Res):PO q t k=k (N5.gt (g2 (α:=O)) t q):=by
 cases t;cases q<;>first|rfl|exact aLM _ _ _
theorem aKN(q:QN Q2)(v:O)(t:N5 O (T2 O))(k:N5 O (T2 O)->Res):P9 q v t k=k (N5.pt (p2 v) v q t):=by
 cases t;cases q<;>first|rfl|exact aKM _ _ _ _
theorem aLO(q:QN Q3)(t:N5 O (T3 O))(k:O->Res):PN q t k=k (N5.gt (g3 (α:=O)) t q):=by
 cases t;cases q<;>first|rfl|exact aLN _ _ _
theorem aKO(q:QN Q3)(v:O)(t:N5 O (T3 O))(k:N5 O (T3 O)->Res):P8 q v t k=k (N5.pt (p3 v) v q t):=by
 cases t;cases q<;>first|rfl|exact aKN _ _ _ _
theorem aLP(q:QN Q4)(t:N5 O (T4 O))(k:O->Res):PM q t k=k (N5.gt (g4 (α:=O)) t q):=by
 cases t;cases q<;>first|rfl|exact aLO _ _ _
theorem aKP(q:QN Q4)(v:O)(t:N5 O (T4 O))(k:N5 O (T4 O)->Res):P7 q v t k=k (N5.pt (p4 v) v q t):=by
 cases t;cases q<;>first|rfl|exact aKO _ _ _ _
theorem aLQ(q:QN Q5)(t:N5 O (T5 O))(k:O->Res):PL q t k=k (N5.gt (g5 (α:=O)) t q):=by
 cases t;cases q<;>first|rfl|exact aLP _ _ _
theorem aKQ(q:QN Q5)(v:O)(t:N5 O (T5 O))(k:N5 O (T5 O)->Res):P6 q v t k=k (N5.pt (p5 v) v q t):=by
 cases t;cases q<;>first|rfl|exact aKP _ _ _ _
theorem aLR(q:QN Q6)(t:N5 O (T6 O))(k:O->Res):PK q t k=k (N5.gt (g6 (α:=O)) t q):=by
 cases t;cases q<;>first|rfl|exact aLQ _ _ _
theorem aKR(q:QN Q6)(v:O)(t:N5 O (T6 O))(k:N5 O (T6 O)->Res):P5 q v t k=k (N5.pt (p6 v) v q t):=by
 cases t;cases q<;>first|rfl|exact aKQ _ _ _ _
theorem aLS(q:QN Q7)(t:N5 O (T7 O))(k:O->Res):PJ q t k=k (N5.gt (g7 (α:=O)) t q):=by
 cases t;cases q<;>first|rfl|exact aLR _ _ _
theorem aKS(q:QN Q7)(v:O)(t:N5 O (T7 O))(k:N5 O (T7 O)->Res):P4 q v t k=k (N5.pt (p7 v) v q t):=by
 cases t;cases q<;>first|rfl|exact aKR _ _ _ _
theorem aLT(q:QN Q8)(t:N5 O (T8 O))(k:O->Res):PI q t k=k (N5.gt (g8 (α:=O)) t q):=by
 cases t;cases q<;>first|rfl|exact aLS _ _ _
theorem aKT(q:QN Q8)(v:O)(t:N5 O (T8 O))(k:N5 O (T8 O)->Res):P3 q v t k=k (N5.pt (p8 v) v q t):=by
 cases t;cases q<;>first|rfl|exact aKS _ _ _ _
theorem aFZ(q:QN Q9)(t:N5 O (T9 O))(k:O->Res):Yc q t k=k (N5.gt (g9 (α:=O)) t q):=by
 cases t;cases q<;>first|rfl|exact aLT _ _ _
theorem aFx(q:QN Q9)(v:O)(t:N5 O (T9 O))(k:N5 O (T9 O)->Res):Yt q v t k=k (N5.pt (p9 v) v q t):=by
 cases t;cases q<;>first|rfl|exact aKT _ _ _ _
theorem fU(q:Q)(t:T O)(k:O->Res):GB q t k=gO q t k:=aFZ q t k
theorem hJ(q:Q)(v:O)(t:T O)(k:T O->Res):EU q v t k=pO v q t k:=aFx q v t k
theorem aNw(q:QR)(k:QR->Res):W5 q k=k q.succ:=rfl
theorem aFi(p q:QR):QS p q=p.beq q:=rfl
theorem aNx(q:QN QR)(k:QN QR->Res):W4 q k=k (QN.sc QR.succ QR.e q):=by
 cases q<;>first|rfl|exact aNw _ _
theorem aFj(p q:QN QR):QQ p q=QN.bq QR.beq p q:=by
 cases p<;>cases q<;>first|rfl|exact aFi _ _
theorem aNy(q:QN Q1)(k:QN Q1->Res):W3 q k=k (QN.sc Wi (QN.e (α:=QR)) q):=by
 cases q<;>first|rfl|exact aNx _ _
theorem aFk(p q:QN Q1):QP p q=QN.bq Xu p q:=by
 cases p<;>cases q<;>first|rfl|exact aFj _ _
theorem aNz(q:QN Q2)(k:QN Q2->Res):W2 q k=k (QN.sc Wh (QN.e (α:=Q1)) q):=by
 cases q<;>first|rfl|exact aNy _ _
theorem aFl(p q:QN Q2):QO p q=QN.bq Xt p q:=by
 cases p<;>cases q<;>first|rfl|exact aFk _ _
theorem aNA(q:QN Q3)(k:QN Q3->Res):W1 q k=k (QN.sc Wf (QN.e (α:=Q2)) q):=by
 cases q<;>first|rfl|exact aNz _ _
theorem aFm(p q:QN Q3):QM p q=QN.bq Xq p q:=by
 cases p<;>cases q<;>first|rfl|exact aFl _ _
theorem aNB(q:QN Q4)(k:QN Q4->Res):W0 q k=k (QN.sc We (QN.e (α:=Q3)) q):=by
 cases q<;>first|rfl|exact aNA _ _
theorem aFn(p q:QN Q4):QL p q=QN.bq Xp p q:=by
 cases p<;>cases q<;>first|rfl|exact aFm _ _
theorem aNC(q:QN Q5)(k:QN Q5->Res):WZ q k=k (QN.sc Wd (QN.e (α:=Q4)) q):=by
 cases q<;>first|rfl|exact aNB _ _
theorem aFo(p q:QN Q5):QK p q=QN.bq Xo p q:=by
 cases p<;>cases q<;>first|rfl|exact aFn _ _
theorem aND(q:QN Q6)(k:QN Q6->Res):WY q k=k (QN.sc Wc (QN.e (α:=Q5)) q):=by
 cases q<;>first|rfl|exact aNC _ _
theorem aFp(p q:QN Q6):QJ p q=QN.bq Xn p q:=by
 cases p<;>cases q<;>first|rfl|exact aFo _ _
theorem aNE(q:QN Q7)(k:QN Q7->Res):WX q k=k (QN.sc Wb (QN.e (α:=Q6)) q):=by
 cases q<;>first|rfl|exact aND _ _
theorem aFq(p q:QN Q7):QI p q=QN.bq Xm p q:=by
 cases p<;>cases q<;>first|rfl|exact aFp _ _
theorem aNF(q:QN Q8)(k:QN Q8->Res):WW q k=k (QN.sc Wa (QN.e (α:=Q7)) q):=by
 cases q<;>first|rfl|exact aNE _ _
theorem aFr(p q:QN Q8):QH p q=QN.bq Xl p q:=by
 cases p<;>cases q<;>first|rfl|exact aFq _ _
theorem aHm(q:QN Q9)(k:QN Q9->Res):YV q k=k (QN.sc W9 (QN.e (α:=Q8)) q):=by
 cases q<;>first|rfl|exact aNF _ _
theorem aBI(p q:QN Q9):Vt p q=QN.bq Xk p q:=by
 cases p<;>cases q<;>first|rfl|exact aFr _ _
theorem rV(q:Q)(k:Q->Res):Hp q k=kG q k:=aHm q k
theorem aKr(p q:Q):Vt p q=p.beq q:=aBI p q
theorem gA(n:Nat)(k:Nat->Res):fN n k=k n:=by cases n<;>rfl
theorem cK(b:Bool)(n:Nat)(k:Res):CX b n k=gd b n k:=by cases b<;>rfl
theorem kS(b:Bool)(x y:Res):IL b x y=match b with|true=>x|false=>y:=by cases b<;>rfl
theorem fP(a b:Bool):j3 a b=(a&&b):=by cases a<;>rfl
theorem nE(a:Bool):rN a=!a:=by cases a<;>rfl
theorem aFe(a b:Bool):VI a b=(a==b):=by cases a<;>cases b<;>rfl
theorem o8(b:Bool)(k:V->Res):bF b k=bK b k:=by cases b<;>rfl
theorem rM(n b:Bool)(k:V->Res):Qn n b k=bK (n != b) k:=by cases n<;>cases b<;>rfl
theorem bp(k:IntKind):bo k=JN k:=by cases k<;>rfl
theorem aF1(k:IntKind):Ya k=Ly k:=by cases k<;>rfl
theorem cw(l:Nat):Px l=oR l:=rfl
theorem aSc(n:Int)(k:Int->Res):fI n k=k n:=by cases n<;>simp only[fI,gA]
theorem mn(kd:IntKind)(n:Int)(k:V->Res):ml kd n k=k (.int kd (kd.wrap n)):=by simp only[ml,aSc,aJO]
theorem aEL(m:Nat)(kd:IntKind)(k:V->Res):yq m kd k=match Nat.ble m (Ly kd) with|true=>k (.int kd (.ofNat m))|false=>k (.int kd (kd.wrap (.ofNat m))):=by
 unfold yq;rw[aF1];cases Nat.ble m (Ly kd)
 ·exact mn kd _ k
 ·rfl
theorem xV(n:Int)(kd:IntKind)(k:V->Res):zR n kd k=iB kd n λn=>k (.int kd n):=by
 cases n with
 |ofNat m =>
  show fN m (λm=>yq m kd k)=iB kd (.ofNat m) λn=>k (.int kd n)
  rw[gA,aEL];simp only[iB,aF,fJ];cases Nat.ble m (Ly kd)<;>rfl
 |negSucc m =>
  show ml kd (.negSucc m) k=iB kd (.negSucc m) λn=>k (.int kd n)
  rw[mn];simp only[iB,fJ]
theorem aEZ(x y:Int):VV x y=Rw x y:=by cases x<;>cases y<;>rfl
theorem aHr(x y:Int):U7 x y=N3 x y:=by
 cases x with
 |negSucc a=>cases y<;>rfl
 |ofNat a =>
  cases y with
  |negSucc b=>rfl
  |ofNat b =>
   show @Bool.rec (λ_=>Int) _ _ (Nat.ble b a)=N3 (.ofNat a) (.ofNat b);simp only[N3];cases Nat.ble b a<;>rfl
theorem vV(x y:Int):Jm x y=K5 x y:=by cases x<;>cases y<;>rfl
theorem ay(x y:Int):om x y=Kz x y:=by cases x<;>cases y<;>rfl
theorem aBE(op:BinOp)(kd:IntKind)(x y:Int)(k:V->Res):Vu op kd x y k=pA op kd x y k:=by
 cases op
 case add=>show zR (VV x y) kd k=_;rw[xV,aEZ];rfl
 case sub=>show zR (U7 x y) kd k=_;rw[xV,aHr];rfl
 case eql=>show bF (om x y) k=_;rw[o8,ay];rfl
 case neq=>show bF (rN (om x y)) k=_;rw[o8,nE,ay];rfl
 case lss=>show bF (rN (Jm y x)) k=_;rw[o8,nE,vV];rfl
 case leq=>show bF (Jm x y) k=_;rw[o8,vV];rfl
 case gtr=>show bF (rN (Jm x y)) k=_;rw[o8,nE,vV];rfl
 case geq=>show bF (Jm y x) k=_;rw[o8,vV];rfl
 all_goals rfl
theorem aBF(op:BinOp)(l n m j:Nat)(k:V->Res):aI0 op l n m j k=zc op l n m j k:=by
 cases op
 case add=>show VN l n m j k=_;simp only[VN,zc,cK,gA,aF,cw];rfl
 case eql=>show bF (j3 (Nat.beq l m) (Nat.beq n j)) k=_;rw[o8,fP];rfl
 case neq=>show bF (rN (j3 (Nat.beq l m) (Nat.beq n j))) k=_;rw[o8,nE,fP];rfl
 all_goals rfl
theorem nB{α:Type}(l:List α):∀k:Nat->Res,je l k=rJ l k:=by
 induction l with
 |nil=>intro k;rfl
 |cons x l ih =>
  intro k;show je l (λn=>fN (Nat.succ n) k)=_;rw[ih,cJ,cJ,gA];rfl
theorem oX(l:List V):∀(m:List V)(k:List V->Res),qU l m k=k (l++m):=by
 induction l with
 |nil=>intro m k;rfl
 |cons v l ih=>intro m k;exact ih m λl'=>k (v::l')
theorem zX(fs args caps:List V)(k:List V->Res):yw fs args caps k=k (fs++(args++caps)):=by
 cases caps with
 |nil =>
  cases fs with
  |nil=>simp[yw]
  |cons f fs =>
   show qU (f::fs) args k=_;rw[oX,Ao]
 |cons c cs =>
  show qU args (c::cs) (λl=>qU fs l k)=_;rw[oX,oX]
theorem xo(o:O)(k:Nat->T V->Res):UW o k=db o k:=by cases o<;>rfl
theorem jk(o:O):vv o=vY o:=by cases o<;>rfl
theorem vz(o:O)(k:List (V×V)->Res):Pv o k=v5 o k:=by cases o<;>rfl
theorem mE(o:O)(k:Lk):n0 o k=lM o k:=by
 cases o<;>rfl
theorem uj(h:T O)(o:Q)(off:Nat)(o':Q)(DE:Nat)(k:Bool->Res):QB h o off o' DE k=I6 h o off o' DE k:=by
 unfold QB I6;rw[aKr];cases o.beq o'
 ·simp only[fU,cK,fP,jk]
 ·show @Bool.rec (λ_=>T O->Q->(Bool->Res)->Res) _ _ (Nat.beq off DE) h o k=_
  cases Nat.beq off DE
  ·simp only[fU,cK,jk]
  ·rfl
theorem aC2(h:T O)(o:Q)(off:Nat)(k:V->Res):OJ h o off k=JM h o off k:=by
 simp only[OJ,JM,fU,xo,cK,bg,jX];rfl
theorem aCC(n:Nat):∀(i:Nat)(t:T V)(k:List V->Res),Vj n i t k=sB n i t k:=by
 induction n with
 |zero=>intro i t k;rfl
 |succ n ih =>
  intro i t k;show Ll (qn i) t (λv=>Vj n (Nat.succ i) t λl=>k (v::l))=JK i λq=>gV q t λv=>aY (i+1) λi'=>sB n i' t λl=>k (v::l)
  simp only[bg,ih,jX,aF]
theorem bt(h:T O)(o:Q)(off n:Nat)(k:List V->Res):NX h o off n k=mD h o off n k:=by
 simp only[NX,mD,fU,xo,cK,aCC];rfl
theorem kE(vs:List V):∀(i:Nat)(t:T V)(k:T V->Res),qC vs i t k=jP vs i t k:=by
 induction vs with
 |nil=>intro i t k;rfl
 |cons v vs ih =>
  intro i t k;show Mj (qn i) v t (λt'=>qC vs (Nat.succ i) t' k)=JK i λq=>pV v q t λt'=>aY (i+1) λi'=>jP vs i' t' k
  simp only[oh,ih,jX,aF]
theorem yy(vs:List V):∀(i:Nat)(t:T V)(k:T V->Res),yV vs i t k=k (dE vs i t):=by
 induction vs with
 |nil=>intro i t k;rfl
 |cons v vs ih =>
  intro i t k;show Mj (qn i) v t (λt'=>yV vs (Nat.succ i) t' k)=_;simp only[oh,ih,xe];rfl
theorem lf(l:List V):∀(n:Nat)(k:List V->Res),V1 l n k=n9 n l k:=by
 induction l with
 |nil=>intro n k;cases n<;>rfl
 |cons v l ih =>
  intro n k;cases n with
  |zero=>rfl
  |succ n=>exact ih n λl'=>k (v::l')
theorem aDN(l:List V):∀(off n:Nat)(k:List V->Res),Zn l off n k=sI off n l k:=by
 induction l with
 |nil =>
  intro off n k;cases off with
  |zero=>exact lf [] n k
  |succ off=>rfl
 |cons v l ih =>
  intro off n k;cases off with
  |zero=>exact lf (v::l) n k
  |succ off=>exact ih off n k
theorem wq(l:List V):∀(n:Nat)(k:V->Res),U8 l n k=qe l n k:=by
 induction l with
 |nil=>intro n k;rfl
 |cons v l ih =>
  intro n k;cases n with
  |zero=>rfl
  |succ n=>exact ih n k
theorem aCn(agg:Bool)(off n:Nat)(l:List V)(k:V->Res):UM agg off n l k=Mg agg off n l k:=by
 cases agg
 ·exact wq l off k
 ·exact aDN l off n λl'=>k (.agg l')
theorem aDC(l:List V):∀(off:Nat)(new:List V)(k:List V->Res),Zp l off new k=n8 l off new k:=by
 induction l with
 |nil =>
  intro off new k;cases off with
  |zero=>cases new<;>rfl
  |succ off=>rfl
 |cons x l ih =>
  intro off new k;cases off with
  |zero =>
   cases new with
   |nil=>rfl
   |cons v vs=>exact ih 0 vs λl'=>k (v::l')
  |succ off=>exact ih off new λl'=>k (x::l')
theorem aCa(c:Nat)(o:Q)(off len sz i:Nat)(k:V->Res):RY c o off len sz i k=gd (Nat.blt i len) c (aY (off+i*sz) λa=>k (.ptr o a)):=by
 simp only[RY,cK,gA,aF];rfl
theorem oc(len sz:Nat)(h:T O)(o:Q)(off:Nat)(k:Nat->List V->Res):RZ len sz h o off k=match len with|0=>k 0 []|len=>mD h o off (len*sz) λl=>k len l:=by
 cases len with
 |zero=>rfl
 |succ m=>exact bt h o off _ _
theorem aBT(l:Nat):∀(n:Nat)(k:List V->Res),Pj l n k=Ln l n k:=by
 induction l with
 |zero=>intro n k;rfl
 |succ l ih =>
  intro n k;show fN (Nat.mod n 256) (λc=>fN (Nat.div n 256) λn'=>Pj l n' λcs=>k (.int .u8 (.ofNat c)::cs))=_;simp only[gA,ih,Ln,aF];rfl
theorem aC0(l:List Q):∀(h:T O)(k:T O->Res),Vg l h k=vR l h k:=by
 induction l with
 |nil=>intro h k;rfl
 |cons q l ih =>
  intro h k;show EU q .dead h (λh'=>Vg l h' k)=_;simp only[hJ,ih,vR]
theorem sg(o:Q)(off:Nat)(vs:List V)(h:T O)(k:T O->Res):Nq o off vs h k=Jk o off vs h k:=by
 simp only[Nq,Jk,fU,bV];generalize h.ob o=ob;cases ob<;>try rfl
 rename_i n t BW CB ty ex;show SE n t BW CB ty ex o off vs h k=_;simp only[SE,nB,cK,kE,kS,hJ,WN,aC0];rfl
theorem gz(ty sz len m:Nat)(old new:List V)(h:T O)(nx:Q)(k:Kw):uw ty sz len m old new h nx k=lL ty sz len m old new h nx k:=by
 simp only[uw,lL,cK,kE,gA,aF,hJ,rV];rfl
theorem aJK(v:V)(k:IntKind->Int->Res):vI v k=Mm v k:=by cases v<;>rfl
theorem VY(v:V)(k:Bool->Res):vB v k=Ji v k:=by cases v<;>rfl
theorem mf(v:V)(k:Nat->Res):vN v k=KH v k:=by
 cases v<;>try rfl
 rename_i kd n;cases n<;>rfl
theorem V3(v:V)(k:Q->Nat->Res):vP v k=KG v k:=by cases v<;>rfl
theorem sa(v:V)(k:Q->Nat->Res)(kr:RK->Res):Qb v k kr=uM v k kr:=by cases v<;>rfl
theorem yp(v:V)(k:Nat->Nat->Res):vS v k=Jh v k:=by cases v<;>rfl
theorem aJG(v:V)(k:List V->Res):vA v k=NU v k:=by cases v<;>rfl
theorem aUi(v:V)(k:List V->Res):vT v k=match v with|.tup l=>k l|_=>.bad 55:=by cases v<;>rfl
theorem yj(v:V)(k:Nat->Res):U2 v k=pj v k:=by cases v<;>rfl
theorem aEu(v:V)(sz i:Nat)(k:V->Res):aJJ v sz i k=u3 sz v i k:=by
 cases v<;>try rfl
 ·exact aCa _ _ _ _ _ _ k
 ·exact aCa _ _ _ _ _ _ k
theorem eb(v:V)(k:List V->Res):Nv v k=JD v k:=by cases v<;>rfl
theorem aHC(v:V)(k:V->Res):YN v k=match v with|.rr x=>R8 x k|.ptr o off=>k (.ptr o off)|.fn f fs cs=>k (.fn f fs cs)|.ifc t u=>k (.ifc t u)|.yld l=>k (.yld l)|_=>.bad 48:=by cases v<;>rfl
theorem aHz(op:BinOp)(a b:V)(k:V->Res):YQ a op b k=nk op a b k:=by
 cases a<;>try rfl
 ·rename_i kd x
  show aJH b op kd x k=_;cases b<;>try rfl
  rename_i Hc y;show CX (Nat.beq (bo kd) (bo Hc)) 16 (Vu op kd x y k)=_;rw[cK,aBE,bp,bp];rfl
 ·rename_i l n
  show aJI b op l n k=_;cases b<;>try rfl
  rename_i m j;exact aBF op l n m j k
theorem aEA(h:T O)(a b:V)(k:Bool->Res):yo a k=GO .nilS h a b k:=by cases a<;>rfl
theorem aEz(h:T O)(a b:V)(k:Bool->Res):yn a k=GO .nilM h a b k:=by cases a<;>rfl
theorem aEx(h:T O)(a b:V)(k:Bool->Res):yk a k=GO .nilF h a b k:=by cases a<;>rfl
theorem aEy(h:T O)(a b:V)(k:Bool->Res):ym a k=GO .nilI h a b k:=by cases a<;>rfl
theorem aA6(h:T O)(a b:V)(k:Bool->Res):aED a h b k=GO .ptr h a b k:=by
 cases a<;>try rfl
 ·show aJL b k=_
  cases b<;>rfl
 ·rename_i o off
  show aJM b h o off k=_;cases b<;>try rfl
  rename_i o' DE;exact uj h o off o' DE k
theorem aHA(sz:Nat)(v:V)(lo hi:Nat)(k:V->Res):YP v sz lo hi k=yA sz v lo hi none k:=by
 cases v<;>try rfl
 ·show CX (j3 (Nat.beq lo 0) (Nat.beq hi 0)) 40 (k .nils)=gd (Nat.beq lo 0&&Nat.beq hi 0&&true) 40 (k .nils)
  rw[cK,fP,Bool.and_true]
 ·rename_i o off len cap
  show Vw o off cap sz lo hi k=_;simp only[Vw,yA,cK,fP,gA,aF,kS];rfl
 ·rename_i o off len z
  show CX (Nat.beq sz z) 43 (Vv o off len sz lo hi k)=_;simp only[Vv,yA,cK,fP,gA,aF,kS];cases Nat.beq sz z
  ·rfl
  ·rfl
 ·show CX (j3 (Nat.beq lo 0) (Nat.beq hi 0)) 45 (k .se)=gd (Nat.beq lo 0&&Nat.beq hi 0) 45 (k .se)
  rw[cK,fP]
theorem aA5(sz:Nat)(v:V)(h:T O)(k:Nat->List V->Res):aEr v sz h k=iS sz v h k:=by
 cases v<;>try rfl
 ·rename_i l n
  show CX (Nat.beq sz 1) 62 (Pj l n λcs=>k l cs)=_;rw[cK,aBT];rfl
 ·exact oc _ sz h _ _ k
 ·exact oc _ sz h _ _ k
theorem aNN(ty sz m:Nat)(v:V)(new:List V)(h:T O)(nx:Q)(k:Kw):WS v ty sz m new h nx k=KI ty sz v m new h nx k:=by
 cases v<;>try rfl
 ·show Xx m ty sz new h nx k=_
  cases m with
  |zero=>rfl
  |succ m=>exact gz ty sz 0 _ [] new h nx k
 ·rename_i o off len cap
  show VU o off len cap ty sz m new h nx k=_;simp only[VU,KI,kS,oc,gz];show(match Nat.ble (len+m) cap with|true=>_|false=>_)=_;cases Nat.ble (len+m) cap
  ·simp only[iS]
   cases len<;>rfl
  ·cases m with
   |zero=>rfl
   |succ m=>simp only[sg,gA,aF];rfl
 ·rename_i o off len z
  show CX (Nat.beq sz z) 63 (Yw m o off len ty sz new h nx k)=_;rw[cK];simp only[KI];congr 1;cases m with
  |zero=>rfl
  |succ m =>
   show GB o h (λob=>aIX ob o off len ty sz (Nat.succ m) new h nx k)=_;rw[fU];simp only[bV];generalize h.ob o=ob;cases ob<;>try rfl
   rename_i n t BW CB Gz ex;show IL _ _ _=_;rw[kS];simp only[aIW,cK,fP,sg,kE,gA,aF,hJ,rV,<-Bool.and_assoc];rfl
theorem xy(ok:Bool)(z:V)(k:V->Res):U6 ok z k=wZ ok z k:=by cases ok<;>rfl
theorem aNQ(ok:Bool)(t:Nat)(z v:V)(k:V->Res):WQ v ok t z k=Ny ok t z v k:=by
 cases v<;>try rfl
 ·exact xy ok z k
 ·rename_i t' u
  show V2 ok t z t' u k=_;simp only[V2,Ny,kS,xy];cases Nat.beq t' t
  ·rfl
  ·cases ok<;>rfl
def B2(g:Xg)(x:X):Prop:=∀tm k,g tm k=xK x tm k
def zT(g:Xs)(xs:List X):Prop:=∀tm k,g tm k=H8 xs tm k
def DW(p:Pg)(b:PB):Prop:=∀tm h k,p tm h k=pK b tm h k
def Mp(a:Ag)(b:AB):Prop:=∀tm k,a tm k=aK b tm k
def Mn(w:Wg)(b:WB):Prop:=∀tm h nx k,w tm h nx k=wK b tm h nx k
def JF(d:Dt)(q:Option Q):Prop:=∀v tm k,d v tm k=qB q v tm k
def QU(b:Bd)(ps:List (Nat×Nat×X)):Prop:=∀tm l k,b tm l k=aa tm ps l k
def mr(g:Og)(x:Option X):Prop:=∀tm d k,g tm d k=wP x tm d k
def QE(g:Sg)(sz:Nat)(ps:List (Nat×X)):Prop:=∀tm t k,g tm t k=sM tm sz ps t k
theorem aUm(v:V):B2 (xC v) (.c v):=λ_ _=>rfl
theorem aHE:B2 YL .bad:=λ_ _=>rfl
theorem aN2:zT WL []:=λ_ _=>rfl
theorem aN1{g:Xg}{r:Xs}{x:X}{xs:List X}(h1:B2 g x)(h2:zT r xs):zT (WM g r) (x::xs):=λtm k=>by
 show g tm (λv=>r tm λl=>k (v::l))=xK x tm λv=>H8 xs tm λl=>k (v::l)
 rw[h1];congr 1;funext v;exact h2 tm _
theorem aKp:QU Xv []:=λ_ _ _=>rfl
theorem aKo{g:Xg}{r:Bd}{x:X}{ps:List (Nat×Nat×X)}{off n:Nat}(h1:B2 g x)(h2:QU r ps):QU (US off n g r) ((off,n,x)::ps):=λtm l k=>by
 simp only[US,aa,h1 tm,eb,nB,cK,aDC,h2 tm]
theorem aMC:mr XA none:=λ_ _ _=>rfl
theorem aMD{g:Xg}{x:X}(h1:B2 g x):mr (S2 g) (some x):=λtm d k=>by
 simp only[S2,wP,h1 tm,mf]
theorem aNv{sz:Nat}:QE W8 sz []:=λ_ _ _=>rfl
theorem aNu{g:Xg}{r:Sg}{x:X}{ps:List (Nat×X)}{i sz:Nat}(h1:B2 g x)(h2:QE r sz ps):QE (SP i sz g r) sz ((i,x)::ps):=λtm t k=>by
 simp only[SP,sM,h1 tm,eb,nB,cK,kE,h2 tm];rfl
theorem aEE(c:Nat)(v:V)(k:Nat->Nat->Res):Nr v c k=match v with|.str l n=>k l n|_=>.bad c:=by cases v<;>rfl
theorem aEv(c:Nat)(v:V)(k:IntKind->Int->Res):Nt v c k=match v with|.int kd n=>k kd n|_=>.bad c:=by cases v<;>rfl
theorem aEC(c:Nat)(v:V)(k:Q->Nat->Res):Ns v c k=match v with|.ptr o a=>k o a|_=>.bad c:=by cases v<;>rfl
theorem aCX(s:KK)(h:T O)(x y:V)(k:Bool->Res):K6 s h x y k=gC s h x y k:=by
 cases s
 ·show Nr x 35 (λl n=>Nr y 32 λm j=>k (j3 (Nat.beq l m) (Nat.beq n j)))=_
  rw[aEE];cases x<;>try rfl
  simp only[aEE];cases y<;>try rfl
  simp only[fP];rfl
 ·show Nt x 35 (λkd a=>Nt y 34 λHc b=>CX (Nat.beq (bo kd) (bo Hc)) 33 (k (om a b)))=_
  rw[aEv];cases x<;>try rfl
  simp only[aEv];cases y<;>try rfl
  simp only[cK,bp,ay];rfl
 ·show Ns x 35 (λo a=>Ns y 34 λo' b=>QB h o a o' b k)=_
  rw[aEC];cases x<;>try rfl
  simp only[aEC];cases y<;>try rfl
  simp only[uj];rfl
 ·rfl
theorem gb(s:KK)(h:T O)(x:V)(k:V->Res)(kn:Res):∀es,findF es (K6 s h) x k kn=j6 s h x es k kn
 |[]=>rfl
 |(y,v)::es=>by
  show K6 s h x y (λb=>IL b (k v) (findF es (K6 s h) x k kn))=_;rw[aCX];simp only[j6];congr 1;funext b;rw[kS,gb s h x k kn es];cases b<;>rfl
theorem yh(s:KK)(h:T O)(x:V)(f:V->V)(z:V):∀(es:List (V×V))(i:Nat)(k:Ku),U4 es (K6 s h) x f z i k=sU s h x f z es i k
 |[],i,k=>rfl
 |(y,u)::es,i,k=>by
  show K6 s h x y (λb=>@Bool.rec (λ_=>V->V->List (V×V)->Ut->Ut) (λy u _ ih e x f z i k=>fN (Nat.succ i) λi'=>ih e x f z i' λDC j w=>k ((y,u)::DC) j w) (λ_ u es _ _ x f _ i k=>k ((x,f u)::es) i u) b y u es (U4 es) (K6 s h) x f z i k)=_;rw[aCX];simp only[sU];congr 1;funext b;cases b
  ·simp only[gA,aF,yh s h x f z es]
  ·rfl
theorem aCS(s:KK)(x:V)(k:Res):Sf s x k=iW s x k:=by cases s<;>rfl
theorem VW(c:Nat)(v:V)(k:Q->Res)(kn:Res):vM v c k kn=match v with|.map o=>k o|.nilm=>kn|_=>.bad c:=by cases v<;>rfl
section
variable {x y z:Xg}{a b c:X}
theorem aM4(hx:B2 x a):DW (Wp x) (.mv a):=λtm _ k=>hx tm k
theorem aDL(hx:B2 x a)(hy:B2 y b)(hz:B2 z c):DW (Va x y z) (.pick a b c):=λtm h k=>by
 simp only[Va,pK,hx tm,VY];congr 1;funext v;congr 1;funext t;cases t
 ·exact hz tm k
 ·exact hy tm k
theorem aGM{op:BinOp}(hx:B2 x a)(hy:B2 y b):DW (Ui op x y) (.bin op a b):=λtm h k=>by simp only[Ui,pK,hx tm,hy tm,aHz]
theorem aMQ{neg:Bool}{m:EqM}(hx:B2 x a)(hy:B2 y b):DW (@EqM.rec (λ_=>Pg) (Ra neg x y) (Rb neg x y) (nR yo neg x y) (nR yn neg x y) (nR yk neg x y) (nR ym neg x y) m) (.eq neg m a b):=λtm h k=>by
 cases m
 ·show Ra neg x y tm h k=_
  simp only[Ra,pK,hx tm,hy tm,aA6,rM]
 ·show Rb neg x y tm h k=_
  simp only[Rb,pK,hx tm,hy tm,VY,rM,aFe,GO]
 ·show nR yo neg x y tm h k=_
  simp only[nR,pK,hx tm,hy tm,rM];congr 1;funext u;congr 1;funext w;exact aEA h u w _
 ·show nR yn neg x y tm h k=_
  simp only[nR,pK,hx tm,hy tm,rM];congr 1;funext u;congr 1;funext w;exact aEz h u w _
 ·show nR yk neg x y tm h k=_
  simp only[nR,pK,hx tm,hy tm,rM];congr 1;funext u;congr 1;funext w;exact aEx h u w _
 ·show nR ym neg x y tm h k=_
  simp only[nR,pK,hx tm,hy tm,rM];congr 1;funext u;congr 1;funext w;exact aEy h u w _
theorem aG0(hx:B2 x a):DW (Uo x) (.not a):=λtm h k=>by simp only[Uo,pK,hx tm,VY,o8,nE]
theorem aGO{kd:IntKind}(hx:B2 x a):DW (Ug kd x) (.cvi kd a):=λtm h k=>by simp only[Ug,pK,hx tm,aJK,xV]
theorem aGN{l:List V}{r:Bd}{ps:List (Nat×Nat×X)}(hr:QU r ps):DW (Uh l r) (.bld l ps):=λtm h k=>by simp only[Uh,pK,hr tm]
theorem aGU(hx:B2 x a):DW (Uc x) (.ld1 a):=λtm h k=>by simp only[Uc,pK,hx tm,sa,aC2]
theorem aGV{n:Nat}(hx:B2 x a):DW (Ub n x) (.ldn n a):=λtm h k=>by simp only[Ub,pK,hx tm,sa,bt]
theorem aGZ(hx:B2 x a):DW (Up x) (.nck a):=λtm h k=>by
 simp only[Up,pK,hx tm];congr 1;funext v;exact aHC v k
theorem aMS{off:Nat}(hx:B2 x a):DW (SX off x) (.fa off a):=λtm h k=>by simp only[SX,pK,hx tm,sa,gA,aF];rfl
theorem aMT{agg:Bool}{off n:Nat}(hx:B2 x a):DW (SW agg off n x) (.fd agg off n a):=λtm h k=>by simp only[SW,pK,hx tm,aJG,aCn]
theorem aMU{sz:Nat}(hx:B2 x a)(hy:B2 y b):DW (SV sz x y) (.ia sz a b):=λtm h k=>by simp only[SV,pK,hx tm,hy tm,mf,aEu]
theorem aGR{len sz:Nat}(hx:B2 x a)(hy:B2 y b):DW (Uf len sz x y) (.iaa len sz a b):=λtm h k=>by simp only[Uf,pK,hx tm,hy tm,mf,V3,cK,gA,aF];rfl
theorem aGT(hx:B2 x a)(hy:B2 y b):DW (Ud x y) (.ixs a b):=λtm h k=>by simp only[Ud,pK,hx tm,hy tm,mf,yp,cK,gA,aF,cw];rfl
theorem aGS{agg:Bool}{len sz:Nat}(hx:B2 x a)(hy:B2 y b):DW (Ue agg len sz x y) (.ixa agg len sz a b):=λtm h k=>by simp only[Ue,pK,hx tm,hy tm,mf,aJG,cK,gA,aF,aCn];rfl
theorem aG2{lo hi:Og}{l u:Option X}(hx:B2 x a)(hl:mr lo l)(hu:mr hi u):DW (Um x lo hi) (.slS a l u):=λtm h k=>by
 simp only[Um,pK,hx tm,yp,hl tm,hu tm,cK,fP,gA,aF,cw];rfl
theorem aG1{sz:Nat}{lo hi:Og}{l u:Option X}(hx:B2 x a)(hl:mr lo l)(hu:mr hi u):DW (Un sz x lo hi) (.slL sz a l u none):=λtm h k=>by
 simp only[Un,pK,hx tm,yj,hl tm,hu tm,aHA]
theorem aGY{t:Nat}(hx:B2 x a):DW (Uq t x) (.mki t a):=λtm h k=>by simp only[Uq,pK,hx tm]
theorem aGX{f:Q}{r s:Xs}{xs ys:List X}(hr:zT r xs)(hs:zT s ys):DW (Ur f r s) (.mkf f xs ys):=λtm h k=>by simp only[Ur,pK,hr tm,hs tm]
theorem aM0{s:KK}{ok:Bool}{z:V}(hx:B2 x a)(hy:B2 y b):DW (SU s ok z x y) (.lk s ok z a b):=λtm h k=>by
 simp only[SU,pK,hx tm,hy tm,aCS,VW,fU,vz,gb];congr 1;funext m;congr 1;funext u;congr 1;cases m<;>try rfl
 ·cases ok<;>rfl
 ·cases ok<;>rfl
theorem aDI(hx:B2 x a):DW (Vb x) (.lenS a):=λtm h k=>by simp only[Vb,pK,hx tm,yp]
theorem aDE(hx:B2 x a):DW (Vd x) (.lenL a):=λtm h k=>by simp only[Vd,pK,hx tm,yj]
theorem aDG(hx:B2 x a):DW (Vc x) (.lenM a):=λtm h k=>by
 simp only[Vc,pK,hx tm,VW,fU,vz,nB];congr 1;funext v;cases v<;>rfl
theorem aGW(hx:B2 x a)(hy:B2 y b):DW (Us x y) (.max a b):=λtm h k=>by
 simp only[Us,pK,hx tm,hy tm,aJK,kS,vV];rfl
theorem aMR{i:Nat}(hx:B2 x a):DW (SY i x) (.ex i a):=λtm h k=>by
 simp only[SY,pK,hx tm,aUi,wq];rfl
theorem aM9{ok:Bool}{t:Nat}{z:V}(hx:B2 x a):DW (SS ok t z x) (.ta ok t z a):=λtm h k=>by simp only[SS,pK,hx tm,aNQ]
theorem gU(b:PB):DW (qA b) b:=λ_ _ _=>rfl
theorem aJT{ty n:Nat}{t:T V}:Mp (aAl ty n t) (.al ty n t):=λ_ _=>rfl
theorem aJV{ty n:Nat}(hx:B2 x a):Mp (Vl ty n x) (.bx ty n a):=λtm k=>by simp only[Vl,aK,hx tm,eb,nB,cK,kE]
theorem aEV{ty sz len:Nat}{t:T V}{g:Sg}{ps:List (Nat×X)}(hg:QE g sz ps):Mp (VT ty sz len t g) (.bsl ty sz len t ps):=λtm k=>by
 simp only[VT,aK,hg tm,gA,aF];rfl
theorem aEW:Mp ZL .mkm:=λ_ _=>rfl
theorem aBd(b:AB):Mp (aIU b) b:=λ_ _=>rfl
theorem aNW{n:Nat}(hx:B2 x a)(hy:B2 y b):Mn (SG n x y) (.st n a b):=λtm h nx k=>by simp only[SG,wK,hx tm,hy tm,V3,eb,nB,cK,sg]
theorem aHh(ob:O)(F:List (V×V)->(List (V×V)->Res)->Res)(k:O->Res):Pv ob (λes=>F es λDC=>aJA ob DC k)=v5 ob λes=>F es λDC=>k (Py ob DC):=by cases ob<;>rfl
theorem aNT{s:KK}(hx:B2 x a)(hy:B2 y b)(hz:B2 z c):Mn (SI s x y z) (.mu s a b c):=λtm h nx k=>by
 simp only[SI,wK,hx tm,hy tm,hz tm,aCS,VW,fU,yh,hJ];congr 1;funext m;congr 1;funext u;congr 1;funext v;congr 1;cases m<;>try rfl
 simp only[bV];exact aHh _ (λes g=>sU s h u (λ_=>v) v es 0 λDC _ _=>g DC) _
theorem aNR{ty sz:Nat}(hx:B2 x a)(hy:B2 y b):Mn (SJ ty sz x y) (.ap ty sz a b):=λtm h nx k=>by
 simp only[SJ,wK,hx tm,hy tm,aA5,cK,aNN]
theorem aNV(hx:B2 x a):Mn (SH x) (.sb a):=λtm h nx k=>by
 simp only[SH,wK,hx tm,yp,aBT,kE,hJ,rV]
theorem qO(b:WB):Mn (mi b) b:=λ_ _ _ _=>rfl
end
end
section
def Tot{α:Type}(Φ:(α->Res)->Res):Prop:=(∃a,∀k,Φ k=k a)\/∃n,∀k,Φ k=.bad n
def Tot0(Φ:Res->Res):Prop:=(∀k,Φ k=k)\/∃n,∀k,Φ k=.bad n
def TotW(Φ:Kw->Res):Prop:=(∃v h nx,∀k,Φ k=k v h nx)\/∃n,∀k,Φ k=.bad n
variable {α β:Type}
theorem Tot.ret(a:α):Tot (λk=>k a):=.inl ⟨a,λ_=>rfl⟩
theorem Tot.bad(n:Nat):Tot (λ_:α->Res=>.bad n):=.inr ⟨n,λ_=>rfl⟩
theorem TotW.ret(v:V)(h:T O)(nx:Q):TotW (λk=>k v h nx):=.inl ⟨v,h,nx,λ_=>rfl⟩
theorem TotW.bad(n:Nat):TotW (λ_=>.bad n):=.inr ⟨n,λ_=>rfl⟩
theorem Tot.bind{Φ:(α->Res)->Res}{Ψ:α->(β->Res)->Res}(h:Tot Φ)(hf:∀a,Tot (Ψ a)):Tot (λk=>Φ λa=>Ψ a k):=by
 rcases h with⟨a,h⟩|⟨n,h⟩
 ·rw[show(λk=>Φ λa=>Ψ a k)=Ψ a from funext λk=>h _];exact hf a
 ·exact .inr ⟨n,λk=>h _⟩
theorem Tot.bindW{Φ:(α->Res)->Res}{Ψ:α->Kw->Res}(h:Tot Φ)(hf:∀a,TotW (Ψ a)):TotW (λk=>Φ λa=>Ψ a k):=by
 rcases h with⟨a,h⟩|⟨n,h⟩
 ·rw[show(λk=>Φ λa=>Ψ a k)=Ψ a from funext λk=>h _];exact hf a
 ·exact .inr ⟨n,λk=>h _⟩
theorem Tot0.bind{Φ:Res->Res}{Ψ:(β->Res)->Res}(h:Tot0 Φ)(hf:Tot Ψ):Tot (λk=>Φ (Ψ k)):=by
 rcases h with h|⟨n,h⟩
 ·rw[show(λk=>Φ (Ψ k))=Ψ from funext λk=>h _];exact hf
 ·exact .inr ⟨n,λk=>h _⟩
theorem Tot0.bindW{Φ:Res->Res}{Ψ:Kw->Res}(h:Tot0 Φ)(hf:TotW Ψ):TotW (λk=>Φ (Ψ k)):=by
 rcases h with h|⟨n,h⟩
 ·rw[show(λk=>Φ (Ψ k))=Ψ from funext λk=>h _];exact hf
 ·exact .inr ⟨n,λk=>h _⟩
theorem eE(b:Bool)(n:Nat):Tot0 (gd b n):=by cases b<;>first|exact .inl λ_=>rfl|exact .inr ⟨n,λ_=>rfl⟩
def Tot2{α β:Type}(Φ:(α->β->Res)->Res):Prop:=(∃a b,∀k,Φ k=k a b)\/∃n,∀k,Φ k=.bad n
theorem Tot2.bindW{Φ:(α->β->Res)->Res}{Ψ:α->β->Kw->Res}(h:Tot2 Φ)(hf:∀a b,TotW (Ψ a b)):TotW (λk=>Φ λa b=>Ψ a b k):=by
 rcases h with⟨a,b,h⟩|⟨n,h⟩
 ·rw[show(λk=>Φ λa b=>Ψ a b k)=Ψ a b from funext λk=>h _];exact hf a b
 ·exact .inr ⟨n,λk=>h _⟩
theorem Tot2.bind{γ:Type}{Φ:(α->β->Res)->Res}{Ψ:α->β->(γ->Res)->Res}(h:Tot2 Φ)(hf:∀a b,Tot (Ψ a b)):Tot (λk=>Φ λa b=>Ψ a b k):=by
 rcases h with⟨a,b,h⟩|⟨n,h⟩
 ·rw[show(λk=>Φ λa b=>Ψ a b k)=Ψ a b from funext λk=>h _];exact hf a b
 ·exact .inr ⟨n,λk=>h _⟩
theorem oB(x:X)(tm:T V):Tot (xK x tm):=by
 cases x
 ·exact .inl ⟨_,λk=>dD _ tm k⟩
 ·exact .inl ⟨_,λ_=>rfl⟩
 ·exact .inr ⟨2,λ_=>rfl⟩
theorem aEi(tm:T V):∀xs:List X,Tot (H8 xs tm)
 |[]=>.inl ⟨[],λ_=>rfl⟩
 |x::xs=>(oB x tm).bind λv=>(aEi tm xs).bind λl=>.ret (v::l)
theorem aT1(v:V):Tot2 (KG v):=by cases v<;>first|exact .inl ⟨_,_,λ_=>rfl⟩|exact .inr ⟨_,λ_=>rfl⟩
theorem V0(v:V):Tot2 (Jh v):=by cases v<;>first|exact .inl ⟨_,_,λ_=>rfl⟩|exact .inr ⟨_,λ_=>rfl⟩
theorem aNL(v:V):Tot (JD v):=by cases v<;>first|exact .inl ⟨_,λ_=>rfl⟩|exact .inr ⟨_,λ_=>rfl⟩
theorem yd{α:Type}(l:List α):Tot (rJ l):=.inl ⟨_,λk=>cJ l k⟩
theorem yf(o:O):Tot2 (db o):=by cases o<;>first|exact .inl ⟨_,_,λ_=>rfl⟩|exact .inr ⟨_,λ_=>rfl⟩
theorem aHv(o:O):Tot (v5 o):=by cases o<;>first|exact .inl ⟨_,λ_=>rfl⟩|exact .inr ⟨_,λ_=>rfl⟩
theorem lG(q:Q)(h:T O):Tot (gO q h):=.inl ⟨_,λk=>bV q h k⟩
theorem mT(v:O)(q:Q)(h:T O):Tot (pO v q h):=.inl ⟨_,λk=>cT v q h k⟩
theorem mU(vs:List V)(i:Nat)(t:T V):Tot (jP vs i t):=.inl ⟨_,λk=>cV vs i t k⟩
theorem cQ(n:Nat):Tot (aY n):=.inl ⟨n,λk=>aF n k⟩
theorem xM(q:Q):Tot (kG q):=.inl ⟨_,λ_=>rfl⟩
theorem ln(n:Nat):∀(i:Nat)(t:T V),Tot (sB n i t):=by
 induction n with
 |zero=>intro i t;exact .inl ⟨[],λ_=>rfl⟩
 |succ n ih =>
  intro i t;show Tot (λk=>JK i λq=>gV q t λv=>aY (i+1) λi'=>sB n i' t λl=>k (v::l));simp only[jX,dD,aF];exact(ih (i+1) t).bind λl=>.ret _
theorem yb(h:T O)(o:Q)(off n:Nat):Tot (mD h o off n) :=
 (lG o h).bind λob=>(yf ob).bind λm t=>(eE (Nat.ble (off+n) m) 47).bind (ln n off t)
theorem lr:∀(l:List Q)(h:T O),Tot (vR l h)
 |[],h=>.ret h
 |q::l,h=>(mT _ q h).bind λh'=>lr l h'
theorem rv(o:Q)(off:Nat)(vs:List V)(h:T O):Tot (Jk o off vs h):=by
 unfold Jk;refine(lG o h).bind λob=>?_
 cases ob<;>first|exact .bad _|skip
 rename_i n t BW CB ty ex;refine(yd vs).bind λm=>(eE _ _).bind ((mU vs off t).bind λt'=>?_)
 cases Nat.ble CB off
 ·exact(lr BW h).bind λh'=>mT _ o h'
 ·exact mT _ o h
theorem aAZ(s:KK)(h:T O)(x y:V):Tot (gC s h x y):=by
 have hp:∀o a o' b,Tot (I6 h o a o' b):=λo a o' b=>by
  unfold I6;cases o.beq o'
  ·exact(lG _ h).bind λ_=>(lG _ h).bind λ_=>(eE _ _).bind (.ret _)
  ·cases Nat.beq a b
   ·exact(lG _ h).bind λ_=>(eE _ _).bind (.ret _)
   ·exact .ret _
 have hc:∀f u w,Tot (fT f u w):=λf u w=>by
  cases f<;>cases u<;>first|exact .bad _|skip
  all_goals (cases w<;>first|exact .bad _|exact .ret _|exact(eE _ _).bind (.ret _))
 have CK:∀fs us ws,Tot (fC fs us ws):=λfs=>by
  induction fs with
  |nil=>intro us ws;cases us<;>cases ws<;>first|exact .ret _|exact .bad _
  |cons f fs ih =>
   intro us ws;cases us<;>cases ws<;>first|exact .bad _|skip
   rename_i u us w ws;refine(hc f u w).bind λb=>?_
   cases b
   ·exact .ret _
   ·exact ih us ws
 cases s<;>cases x<;>first|exact .bad _|skip
 all_goals (cases y<;>first|exact .bad _|exact .ret _|exact(eE _ _).bind (.ret _)|exact hp _ _ _ _|exact CK _ _ _)
theorem aAY(s:KK)(x:V):Tot0 (iW s x):=by
 cases s<;>first|exact .inl λ_=>rfl|skip
 rename_i fs;cases x<;>first|exact .inr ⟨_,λ_=>rfl⟩|skip
 rename_i cs;rcases eE (Nat.beq cs.length fs.length) 38 with h1|⟨n,h1⟩
 ·exact .inl λk=>by simp only[iW,cJ];exact h1 k
 ·exact .inr ⟨n,λk=>by simp only[iW,cJ];exact h1 k⟩
def TotU(Φ:Ku->Res):Prop:=(∃es i v,∀k,Φ k=k es i v)\/∃n,∀k,Φ k=.bad n
theorem TotU.bindW{Φ:Ku->Res}{Ψ:List (V×V)->Nat->V->Kw->Res}(h:TotU Φ)(hf:∀a b c,TotW (Ψ a b c)):TotW (λk=>Φ λa b c=>Ψ a b c k):=by
 rcases h with⟨a,b,c,h⟩|⟨n,h⟩
 ·rw[show(λk=>Φ λa b c=>Ψ a b c k)=Ψ a b c from funext λk=>h _];exact hf a b c
 ·exact .inr ⟨n,λk=>h _⟩
theorem yg(s:KK)(h:T O)(x:V)(f:V->V)(z:V):∀(es:List (V×V))(i:Nat),TotU (sU s h x f z es i)
 |[],i=>.inl ⟨_,_,_,λ_=>rfl⟩
 |(y,u)::es,i=>by
  rcases aAZ s h x y with⟨b,hb⟩|⟨n,hn⟩
  ·cases b
   ·rcases yg s h x f z es (i+1) with⟨a,b,c,h1⟩|⟨n,h1⟩
    ·exact .inl ⟨(y,u)::a,b,c,λk=>by simp only[sU,hb,aF,h1]⟩
    ·exact .inr ⟨n,λk=>by simp only[sU,hb,aF,h1]⟩
   ·exact .inl ⟨(x,f u)::es,i,u,λk=>by simp only[sU,hb]⟩
  ·exact .inr ⟨n,λk=>by simp only[sU,hn]⟩
theorem dx:∀(l n:Nat),Tot (Ln l n)
 |0,n=>.ret _
 |l+1,n=>(cQ _).bind λ_=>(cQ _).bind λn'=>(dx l n').bind λ_=>.ret _
theorem aEg(h:T O)(o:Q)(off n:Nat):Tot (bw h o off n):=by
 unfold bw;refine(lG _ _).bind λob=>?_
 cases ob<;>first|exact .bad _|skip
 exact(eE _ _).bind (ln _ _ _)
theorem ru(sz:Nat)(x:RK)(h:T O):Tot2 (nz sz x h):=by
 cases x<;>first|exact .inr ⟨_,λ_=>rfl⟩|exact .inl ⟨_,_,λ_=>rfl⟩|skip
 rename_i o off len;rcases aEg h o off (len*sz) with⟨a,ha⟩|⟨n,hn⟩
 ·exact .inl ⟨len,a,λk=>ha _⟩
 ·exact .inr ⟨n,λk=>hn _⟩
theorem zP(sz:Nat)(v:V)(h:T O):Tot2 (iS sz v h):=by
 have hl:∀o off len,Tot2 (λk:Nat->List V->Res=>match len with|0=>k 0 []|len=>mD h o off (len*sz) λl=>k len l):=λo off len=>by
  cases len with
  |zero=>exact .inl ⟨_,_,λ_=>rfl⟩
  |succ m =>
   rcases yb h o off ((m+1)*sz) with⟨a,ha⟩|⟨n,hn⟩
   ·exact .inl ⟨m+1,a,λk=>ha _⟩
   ·exact .inr ⟨n,λk=>hn _⟩
 cases v<;>first|exact .inr ⟨_,λ_=>rfl⟩|exact .inl ⟨_,_,λ_=>rfl⟩|exact hl _ _ _|exact ru _ _ _|skip
 rename_i l n;rcases eE (Nat.beq sz 1) 62 with h1|⟨n',h1⟩
 ·rcases dx l n with⟨a,ha⟩|⟨n',hn⟩
  ·exact .inl ⟨l,a,λk=>by simp only[iS,h1,ha]⟩
  ·exact .inr ⟨n',λk=>by simp only[iS,h1,hn]⟩
 ·exact .inr ⟨n',λk=>h1 _⟩
theorem xJ(ty sz len m:Nat)(old new:List V)(h:T O)(nx:Q):TotW (lL ty sz len m old new h nx) :=
 (eE _ _).bindW ((mU _ _ _).bindW λt=>(mU _ _ _).bindW λt'=>(cQ _).bindW λn=>(cQ _).bindW λl=>(mT _ _ _).bindW λh'=>(xM _).bindW λnx'=>.ret _ _ _)
theorem aNK(ty sz:Nat)(a:V)(m:Nat)(new:List V)(h:T O)(nx:Q):TotW (KI ty sz a m new h nx):=by
 cases a<;>first|exact .bad _|skip
 ·cases m
  ·exact .ret _ _ _
  ·exact xJ _ _ _ _ _ _ _ _
 ·rename_i o off len cap
  simp only[show KI ty sz (.sl o off len cap) m new h nx=λk=>(match Nat.ble (len+m) cap with
   |true=>(match m with
    |0=>k (.sl o off len cap) h nx
    |m=>Jk o (off+len*sz) new h λh'=>aY (len+m) λl=>k (.sl o off l cap) h' nx)
   |false=>iS sz (.sl o off len cap) h λ_ old=>lL ty sz len m old new h nx k) from rfl]
  cases Nat.ble (len+m) cap
  ·exact(zP _ _ _).bindW λ_ old=>xJ _ _ _ _ _ _ _ _
  ·cases m
   ·exact .ret _ _ _
   ·exact(rv _ _ _ _).bindW λh'=>(cQ _).bindW λl=>.ret _ _ _
 ·rename_i o off len z
  show TotW (λk=>gd (Nat.beq sz z) 63 _);refine(eE _ _).bindW (Ψ:=λk=>_) ?_;cases m
  ·exact .ret _ _ _
  ·refine(lG _ _).bindW λob=>?_
   cases ob<;>first|exact .bad _|skip
   rename_i m n t BW CB Gz ex;simp only;cases Nat.ble (off+(len+(m+1))*sz) n
   ·exact(eE _ _).bindW ((mU _ _ _).bindW λt'=>(cQ _).bindW λn'=>(cQ _).bindW λl=>(mT _ _ _).bindW λh'=>(mT _ _ _).bindW λLj=>(xM _).bindW λnx'=>.ret _ _ _)
   ·exact(rv _ _ _ _).bindW λh'=>(cQ _).bindW λl=>.ret _ _ _
 ·rename_i x
  cases x<;>first|exact .bad _|skip
  cases m
  ·exact .ret _ _ _
  ·exact xJ _ _ _ _ _ _ _ _
theorem aNS(b:WB)(tm:T V)(h:T O)(nx:Q):TotW (wK b tm h nx):=by
 cases b
 ·exact(oB _ _).bindW λp=>(aT1 p).bindW λo off=>(oB _ _).bindW λv=>(aNL v).bindW λc=>(yd c).bindW λm=>(eE _ _).bindW ((rv _ _ _ _).bindW λh'=>.ret _ _ _)
 ·refine(oB _ _).bindW λm=>(oB _ _).bindW λkv=>(oB _ _).bindW λv=>(aAY _ kv).bindW ?_
  cases m<;>first|exact .bad _|skip
  exact(lG _ _).bindW λob=>(aHv ob).bindW λes=>(yg _ _ _ _ _ _ _).bindW λDC _ _=>(mT _ _ _).bindW λh'=>.ret _ _ _
 ·exact .bad _
 ·exact .bad _
 ·exact(oB _ _).bindW λa=>(oB _ _).bindW λb=>(zP _ _ _).bindW λm new=>(eE _ _).bindW (aNK _ _ _ _ _ _ _)
 ·exact .bad _
 ·exact(oB _ _).bindW λv=>(V0 v).bindW λl n=>(dx l n).bindW λcs=>(mU _ _ _).bindW λt=>(mT _ _ _).bindW λh'=>(xM _).bindW λnx'=>.ret _ _ _
 ·exact .bad _
theorem aEH{b:WB}{tm:T V}{h:T O}{nx:Q}{k:Kw}{r:V}(e:wK b tm h nx k=.ok r):∃v h' nx',k v h' nx'=.ok r/\∀k',wK b tm h nx k'=k' v h' nx':=by
 rcases aNS b tm h nx with⟨v,h',nx',h1⟩|⟨n,h1⟩
 ·exact⟨v,h',nx',(h1 k).symm.trans e,h1⟩
 ·rw[h1] at e;cases e
theorem mV{x:X}{tm:T V}{k:V->Res}{r:V}(e:xK x tm k=.ok r):∃v,k v=.ok r/\∀k',xK x tm k'=k' v:=by
 rcases oB x tm with⟨v,h1⟩|⟨n,h1⟩
 ·exact⟨v,(h1 k).symm.trans e,h1⟩
 ·rw[h1] at e;cases e
theorem r4{xs:List X}{tm:T V}{k:List V->Res}{r:V}(e:H8 xs tm k=.ok r):∃v,k v=.ok r/\∀k',H8 xs tm k'=k' v:=by
 rcases aEi tm xs with⟨v,h1⟩|⟨n,h1⟩
 ·exact⟨v,(h1 k).symm.trans e,h1⟩
 ·rw[h1] at e;cases e
end
def Gd{β:Type}(Φ:β->Prop)(c:(β->D)->D):Prop:=(∃g,Φ g/\∀k,c k=k g)\/∀k,c k=⟨mK⟩
theorem Gd.ret{β:Type}{Φ:β->Prop}{g:β}(h:Φ g):Gd Φ (λk=>k g):=.inl ⟨g,h,λ_=>rfl⟩
theorem Gd.bind{β γ:Type}{Φ:β->Prop}{Ψ:γ->Prop}{c:(β->D)->D}{f:β->(γ->D)->D}(h:Gd Φ c)(hf:∀g,Φ g->Gd Ψ (f g)):Gd Ψ (λk=>c λg=>f g k):=by
 rcases h with⟨g,hg,h⟩|h
 ·rw[show(λk=>c λg=>f g k)=f g from funext λk=>h _];exact hf g hg
 ·exact .inr λk=>h _
theorem aJW(q:QN Q5):Gd (λg:N5 V (T5 V)->(V->Res)->Res=>∀t k,g t k=k (N5.gt g5 t q)) (Pr q):=by
 cases q;exact .inl ⟨UQ,λt k=>by cases t;rfl,λ_=>rfl⟩;all_goals exact .inr λ_=>rfl
theorem aNf(q:QN Q5):Gd (λp:Iq=>∀v t k,p v t k=k (N5.pt (p5 v) v q t)) (OG q):=by
 cases q;exact .inl ⟨S8,λv t k=>by cases t;rfl,λ_=>rfl⟩;all_goals exact .inr λ_=>rfl
theorem aJX(q:QN Q6):Gd (λg:N5 V (T6 V)->(V->Res)->Res=>∀t k,g t k=k (N5.gt g6 t q)) (Pq q):=by
 cases q;exact .inl ⟨UP,λt k=>by cases t;rfl,λ_=>rfl⟩;all_goals exact(aJW _).bind λg hg=>.inl ⟨_,λt k=>by cases t;exact hg _ k,λ_=>rfl⟩
theorem aNg(q:QN Q6):Gd (λp:Ip=>∀v t k,p v t k=k (N5.pt (p6 v) v q t)) (OE q):=by
 cases q;exact .inl ⟨S7,λv t k=>by cases t;rfl,λ_=>rfl⟩;all_goals exact(aNf _).bind λg hg=>.inl ⟨_,λv t k=>by cases t;exact hg _ _ _,λ_=>rfl⟩
theorem aJY(q:QN Q7):Gd (λg:N5 V (T7 V)->(V->Res)->Res=>∀t k,g t k=k (N5.gt g7 t q)) (Pp q):=by
 cases q;exact .inl ⟨UO,λt k=>by cases t;rfl,λ_=>rfl⟩;all_goals exact(aJX _).bind λg hg=>.inl ⟨_,λt k=>by cases t;exact hg _ k,λ_=>rfl⟩
theorem aNh(q:QN Q7):Gd (λp:Io=>∀v t k,p v t k=k (N5.pt (p7 v) v q t)) (OD q):=by
 cases q;exact .inl ⟨S6,λv t k=>by cases t;rfl,λ_=>rfl⟩;all_goals exact(aNg _).bind λg hg=>.inl ⟨_,λv t k=>by cases t;exact hg _ _ _,λ_=>rfl⟩
theorem aJZ(q:QN Q8):Gd (λg:N5 V (T8 V)->(V->Res)->Res=>∀t k,g t k=k (N5.gt g8 t q)) (Po q):=by
 cases q;exact .inl ⟨UN,λt k=>by cases t;rfl,λ_=>rfl⟩;all_goals exact(aJY _).bind λg hg=>.inl ⟨_,λt k=>by cases t;exact hg _ k,λ_=>rfl⟩
theorem aNi(q:QN Q8):Gd (λp:Im=>∀v t k,p v t k=k (N5.pt (p8 v) v q t)) (OC q):=by
 cases q;exact .inl ⟨S5,λv t k=>by cases t;rfl,λ_=>rfl⟩;all_goals exact(aNh _).bind λg hg=>.inl ⟨_,λv t k=>by cases t;exact hg _ _ _,λ_=>rfl⟩
theorem aEY(q:QN Q9):Gd (λg:N5 V (T9 V)->(V->Res)->Res=>∀t k,g t k=k (N5.gt g9 t q)) (zU q):=by
 cases q;exact .inl ⟨VS,λt k=>by cases t;rfl,λ_=>rfl⟩;all_goals exact(aJZ _).bind λg hg=>.inl ⟨_,λt k=>by cases t;exact hg _ k,λ_=>rfl⟩
theorem aG4(q:QN Q9):Gd (λp:QF=>∀v t k,p v t k=k (N5.pt (p9 v) v q t)) (UZ q):=by
 cases q;exact .inl ⟨Ul,λv t k=>by cases t;rfl,λ_=>rfl⟩;all_goals exact(aNi _).bind λg hg=>.inl ⟨_,λv t k=>by cases t;exact hg _ _ _,λ_=>rfl⟩
theorem zV(q:Q):Gd (λg:Xg=>B2 g (.t q)) (zU q):=aEY q
theorem bS(x:X):Gd (λg:Xg=>B2 g x) (cX x):=by
 cases x with
 |t q=>exact(zV q).bind λg hg=>.ret hg
 |c v=>exact .ret (aUm v)
 |bad=>exact .ret aHE
theorem qY:∀xs:List X,Gd (λg:Xs=>zT g xs) (NS xs)
 |[]=>.ret aN2
 |x::xs=>(bS x).bind λ_ hg=>(qY xs).bind λ_ hr=>.ret (aN1 hg hr)
theorem aFu(d:Option Q):Gd (λp:Dt=>JF p d) (Yk d):=by
 cases d with
 |none=>exact .ret λ_ _ _=>rfl
 |some q=>exact(show Gd (λp:Dt=>JF p (some q)) (UZ q) from aG4 q).bind λp hp=>.ret hp
theorem ag(x:Option X):Gd (λg:Og=>mr g x) (Ph x):=by
 cases x with
 |none=>exact .ret aMC
 |some x=>exact(bS x).bind λg hg=>.ret (aMD hg)
theorem aBV:∀ps:List (Nat×Nat×X),Gd (λg:Bd=>QU g ps) (Xb ps)
 |[]=>.ret aKp
 |(off,n,x)::ps=>(bS x).bind λ_ hg=>(aBV ps).bind λ_ hr=>.ret (aKo hg hr)
theorem aBY(sz:Nat):∀ps:List (Nat×X),Gd (λg:Sg=>QE g sz ps) (X7 sz ps)
 |[]=>.ret aNv
 |(i,x)::ps=>(bS x).bind λ_ hg=>(aBY sz ps).bind λ_ hr=>.ret (aNu hg hr)
theorem aI9(b:PB):Gd (λp:Pg=>DW p b) (cP b):=by
 cases b with
 |mv x=>exact(bS x).bind λ_ h=>.ret (aM4 h)
 |pick c x y=>exact(bS c).bind λ_ h=>(bS x).bind λ_ h1=>(bS y).bind λ_ h2=>.ret (aDL h h1 h2)
 |bin op x y=>exact(bS x).bind λ_ h=>(bS y).bind λ_ h1=>.ret (aGM h h1)
 |eq neg m x y=>exact(bS x).bind λ_ h=>(bS y).bind λ_ h1=>.ret (aMQ h h1)
 |not x=>exact(bS x).bind λ_ h=>.ret (aG0 h)
 |neg x=>exact .ret (gU _)
 |cvi kd x=>exact(bS x).bind λ_ h=>.ret (aGO h)
 |cvs x=>exact .ret (gU _)
 |cis x=>exact .ret (gU _)
 |ctu x=>exact .ret (gU _)
 |cfu ty n x=>exact .ret (gU _)
 |bld z ps=>exact(aBV ps).bind λ_ h=>.ret (aGN h)
 |ld1 x=>exact(bS x).bind λ_ h=>.ret (aGU h)
 |ldn n x=>exact(bS x).bind λ_ h=>.ret (aGV h)
 |nck x=>exact(bS x).bind λ_ h=>.ret (aGZ h)
 |fa off x=>exact(bS x).bind λ_ h=>.ret (aMS h)
 |fd agg off n x=>exact(bS x).bind λ_ h=>.ret (aMT h)
 |ia sz x i=>exact(bS x).bind λ_ h=>(bS i).bind λ_ h1=>.ret (aMU h h1)
 |iaa len sz x i=>exact(bS x).bind λ_ h=>(bS i).bind λ_ h1=>.ret (aGR h h1)
 |ixs x i=>exact(bS x).bind λ_ h=>(bS i).bind λ_ h1=>.ret (aGT h h1)
 |ixa agg len sz x i=>exact(bS x).bind λ_ h=>(bS i).bind λ_ h1=>.ret (aGS h h1)
 |slS x lo hi=>exact(bS x).bind λ_ h=>(ag lo).bind λ_ h1=>(ag hi).bind λ_ h2=>.ret (aG2 h h1 h2)
 |slL sz x lo hi mx =>
  cases mx with
  |none=>exact(bS x).bind λ_ h=>(ag lo).bind λ_ h1=>(ag hi).bind λ_ h2=>.ret (aG1 h h1 h2)
  |some m=>exact .ret (gU _)
 |mki t x=>exact(bS x).bind λ_ h=>.ret (aGY h)
 |mkf f fs caps=>exact(qY fs).bind λ_ h=>(qY caps).bind λ_ h1=>.ret (aGX h h1)
 |lk s ok z m key=>exact(bS m).bind λ_ h=>(bS key).bind λ_ h1=>.ret (aM0 h h1)
 |lenS x=>exact(bS x).bind λ_ h=>.ret (aDI h)
 |lenL x=>exact(bS x).bind λ_ h=>.ret (aDE h)
 |lenM x=>exact(bS x).bind λ_ h=>.ret (aDG h)
 |sd x=>exact .ret (gU _)
 |max x y=>exact(bS x).bind λ_ h=>(bS y).bind λ_ h1=>.ret (aGW h h1)
 |ex i x=>exact(bS x).bind λ_ h=>.ret (aMR h)
 |ta ok t z x=>exact(bS x).bind λ_ h=>.ret (aM9 h)
 |bad=>exact .ret (gU _)
theorem aRW(b:AB):Gd (λa:Ag=>Mp a b) (cA b):=by
 cases b with
 |al ty n t=>exact .ret aJT
 |bx ty n x=>exact(bS x).bind λ_ h=>.ret (aJV h)
 |bsl ty sz len t ps=>exact(aBY sz ps).bind λ_ h=>.ret (aEV h)
 |mkm=>exact .ret aEW
 |mks ty sz z len cap=>exact .ret (aBd _)
theorem aR4(b:WB):Gd (λw:Wg=>Mn w b) (cW b):=by
 cases b with
 |st n x y=>exact(bS x).bind λ_ h=>(bS y).bind λ_ h1=>.ret (aNW h h1)
 |mu s m x v=>exact(bS m).bind λ_ h=>(bS x).bind λ_ h1=>(bS v).bind λ_ h2=>.ret (aNT h h1 h2)
 |me s z m x=>exact .ret (qO _)
 |es m s v=>exact .ret (qO _)
 |ap ty sz x y=>exact(bS x).bind λ_ h=>(bS y).bind λ_ h1=>.ret (aNR h h1)
 |cp sz x y=>exact .ret (qO _)
 |sb x=>exact(bS x).bind λ_ h=>.ret (aNV h)
 |us ty x n=>exact .ret (qO _)
end Go.CM
end
