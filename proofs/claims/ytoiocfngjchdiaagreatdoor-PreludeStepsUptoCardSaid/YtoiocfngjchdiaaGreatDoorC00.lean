import Derived.Test.YtoiocfngjchdiaaGreatDoorA
import Derived.AtR
set_option linter.all false
noncomputable section
namespace Go.CM
inductive QR where
 |e|a (q:QR)|b (q:QR)|c (q:QR)|d (q:QR)
inductive QN (α:Type) where
 |e|a (q:α)|b (q:α)|c (q:α)|d (q:α)
abbrev Q1:=QN QR
abbrev Q2:=QN Q1
abbrev Q3:=QN Q2
abbrev Q4:=QN Q3
abbrev Q5:=QN Q4
abbrev Q6:=QN Q5
abbrev Q7:=QN Q6
abbrev Q8:=QN Q7
abbrev Q9:=QN Q8
def Q:Type:=QN Q9
def Q.e:Q:=QN.e (α:=Q9)
inductive TQ (α:Type) where
 |nil
 |nd (v:α) (a b c d:TQ α)
structure N5 (α β:Type) where
 mk ::
 v:α
 a:β
 b:β
 c:β
 d:β
class Dft (α:Type) where
 z:α
abbrev T1(α:Type):=N5 α (TQ α)
abbrev T2(α:Type):=N5 α (T1 α)
abbrev T3(α:Type):=N5 α (T2 α)
abbrev T4(α:Type):=N5 α (T3 α)
abbrev T5(α:Type):=N5 α (T4 α)
abbrev T6(α:Type):=N5 α (T5 α)
abbrev T7(α:Type):=N5 α (T6 α)
abbrev T8(α:Type):=N5 α (T7 α)
abbrev T9(α:Type):=N5 α (T8 α)
def T(α:Type):Type:=N5 α (T9 α)
instance:Inhabited Q:=⟨Q.e⟩
inductive RK where
 |any
 |ptr (o:Q) (off:Nat)
 |sl (o:Q) (off len:Nat)
 |e
 |z
inductive V where
 |bot
 |bool (b:Bool)
 |int (k:IntKind) (n:Int)
 |str (l n:Nat)
 |nilp
 |ptr (o:Q) (off:Nat)
 |nils
 |sl (o:Q) (off len cap:Nat)
 |su (o:Q) (off len sz:Nat)
 |se
 |nilm
 |map (o:Q)
 |nilf
 |fn (f:Q) (fs caps:List V)
 |yld (l:Q)
 |nili
 |ifc (t:Nat) (v:V)
 |agg (vs:List V)
 |tup (vs:List V)
 |rr (x:RK)
instance:Inhabited V:=⟨.bot⟩
abbrev V.undef:V:=.tup []
instance:Dft V:=⟨.tup []⟩
inductive X where
 |t (q:Q)
 |c (v:V)
 |bad
inductive FK where
 |b|s|i
inductive KK where
 |str|int|ptr|st (l:List FK)
inductive EqM where
 |ptr|bool|nilS|nilM|nilF|nilI
inductive PB where
 |mv (x:X)
 |pick (c a b:X)
 |bin (op:BinOp) (x y:X)
 |eq (neg:Bool) (m:EqM) (x y:X)
 |not (x:X)
 |neg (x:X)
 |cvi (k:IntKind) (x:X)
 |cvs (x:X)
 |cis (x:X)
 |ctu (x:X)
 |cfu (ty n:Nat) (x:X)
 |bld (z:List V) (ps:List (Nat×Nat×X))
 |ld1 (x:X)
 |ldn (n:Nat) (x:X)
 |nck (x:X)
 |fa (off:Nat) (x:X)
 |fd (agg:Bool) (off n:Nat) (x:X)
 |ia (sz:Nat) (x i:X)
 |iaa (len sz:Nat) (x i:X)
 |ixs (x i:X)
 |ixa (agg:Bool) (len sz:Nat) (x i:X)
 |slS (x:X) (lo hi:Option X)
 |slL (sz:Nat) (x:X) (lo hi mx:Option X)
 |mki (t:Nat) (x:X)
 |mkf (f:Q) (fs caps:List X)
 |lk (s:KK) (ok:Bool) (z:V) (m k:X)
 |lenS (x:X)
 |lenL (x:X)
 |lenM (x:X)
 |sd (x:X)
 |max (x y:X)
 |ex (i:Nat) (x:X)
 |ta (ok:Bool) (t:Nat) (z:V) (x:X)
 |bad
inductive AB where
 |al (ty n:Nat) (t:T V)
 |bx (ty n:Nat) (x:X)
 |bsl (ty sz len:Nat) (t:T V) (ps:List (Nat×X))
 |mkm
 |mks (ty sz:Nat) (z:List V) (len cap:X)
inductive WB where
 |st (n:Nat) (x y:X)
 |mu (s:KK) (m k v:X)
 |me (s:KK) (z:V) (m k:X)
 |es (m s v:X)
 |ap (ty sz:Nat) (x y:X)
 |cp (sz:Nat) (x y:X)
 |sb (x:X)
 |us (ty:Nat) (x n:X)
inductive OB where
 |p (b:PB)
 |a (b:AB)
 |w (b:WB)
 |call (f:X) (args:List X)
 |inv (ms:List (Nat×Q)) (x:X) (args:List X)
 |dfr (f:X) (args:List X)
 |rcv
inductive CO where
 |mk (dst:Option Q) (g:Option (Q×Bool)) (b:OB)
inductive PS where
 |op (o:CO)
 |chk (g:Option (Q×Bool)) (p:PB) (q:Q)
inductive C where
 |skip
 |reg (l:List PS)
 |seq (a b:C)
 |cond (x:X) (a b:C)
 |block (id:Nat) (c:C)
 |loop (c:C)
 |rf (x:X) (params:List Q) (BV body:C)
 |exit (id:Nat)
 |scope (c:C)
 |ret
 |bad
inductive K where
 |nil
 |code (c:C) (k:K)
 |blk (id:Nat) (k:K)
 |lp (c:C) (k:K)
 |sc (k:K)
 |reg (l:List PS) (k:K)
 |inrf (l:Q) (k:K)
 |erf (l:Q) (k:K)
 |begin (k:K)
 |rtn
inductive RV where
 |t (q:Q)
 |cell (agg:Bool) (n:Nat) (q:Q)
inductive GT where
 |any (v:V)
 |leaf (l n:Nat) (v:V)
 |nd (p:Nat) (a b:GT)
 |ar (q:Q) (n:Nat) (v:V)
inductive CF where
 |none
 |mk (body:C) (rs:List RV)
 |ext (n:Nat)
 |giv (g:GT)
 |gor (v:V) (body:C) (rs:List RV)
inductive Jump where
 |none|ret|exit (id:Nat)
inductive Df where
 |call (f:Q) (args:List V)
 |coll (q:Q)
inductive Lp where
 |mk (st:Nat) (pend:Jump) (fn:Q) (tm:T V) (params:List Q) (BV body:C) (B8:Q)
inductive O where
 |dead
 |row (n:Nat) (t:T V) (BW:List Q) (CB:Nat) (ty:Nat) (ex:Bool)
 |ro (n:Nat) (t:T V)
 |map (es:List (V×V))
 |mapd (es:List (V×V))
 |loop (l:Lp)
 |dfd (taken:Bool)
 |rb (n:Nat) (t:T V)
instance:Dft O:=⟨.dead⟩
inductive Fr where
 |mk (f:Q) (dk:Bool) (rd:Option Q) (ds:List Df) (tm:T V) (k:K)
inductive Res where
 |ok (v:V)
 |bad (n:Nat)
 |fuel (f:Q) (dk:Bool) (rd:Option Q) (ds:List Df) (tm:T V) (k:K) (cs:List Fr) (h:T O) (nx:Q)
instance:Inhabited Res:=⟨.bad 0⟩
def aY(n:Nat)(k:Nat->Res):Res:=@Nat.rec (λ_=>Res) (k (nat_lit 0)) (λm _=>k (Nat.succ m)) n
def vH(n:Int)(k:Int->Res):Res :=
 match n with
 |.ofNat m=>aY m λm=>k (.ofNat m)
 |.negSucc m=>aY m λm=>k (.negSucc m)
def gd(b:Bool)(n:Nat)(k:Res):Res :=
 match b with
 |true=>k
 |false=>.bad n
def QR.nat:QR->Nat
 |.e=>0
 |.a q=>4*q.nat+1
 |.b q=>4*q.nat+2
 |.c q=>4*q.nat+3
 |.d q=>4*q.nat+4
def QR.succ:QR->QR
 |.e=>.a .e
 |.a q=>.b q
 |.b q=>.c q
 |.c q=>.d q
 |.d q=>.a q.succ
def QR.ofF:Nat->Nat->QR
 |0,_=>.e
 |f+1,n =>
  match n with
  |0=>.e
  |m+1=>(match m%4 with
   |0=>.a (QR.ofF f (m/4))
   |1=>.b (QR.ofF f (m/4))
   |2=>.c (QR.ofF f (m/4))
   |_=>.d (QR.ofF f (m/4)))
def QR.of(n:Nat):QR:=QR.ofF n n
def QR.beq:QR->QR->Bool
 |.e,.e=>true
 |.a p,.a q=>p.beq q
 |.b p,.b q=>p.beq q
 |.c p,.c q=>p.beq q
 |.d p,.d q=>p.beq q
 |_,_=>false
section
variable {α:Type}
def QN.nt(f:α->Nat):QN α->Nat
 |.e=>0
 |.a q=>4*f q+1
 |.b q=>4*f q+2
 |.c q=>4*f q+3
 |.d q=>4*f q+4
def QN.sc(s:α->α)(z:α):QN α->QN α
 |.e=>.a z
 |.a q=>.b q
 |.b q=>.c q
 |.c q=>.d q
 |.d q=>.a (s q)
def QN.dg(r:Nat)(q:α):QN α :=
 match r with
 |0=>.a q
 |1=>.b q
 |2=>.c q
 |_=>.d q
def QN.of(f:Nat->α)(n:Nat):QN α :=
 match n with
 |0=>.e
 |m+1=>QN.dg (m%4) (f (m/4))
def QN.bq(f:α->α->Bool):QN α->QN α->Bool
 |.e,.e=>true
 |.a p,.a q=>f p q
 |.b p,.b q=>f p q
 |.c p,.c q=>f p q
 |.d p,.d q=>f p q
 |_,_=>false
end
abbrev nt1:Q1->Nat:=QN.nt QR.nat
abbrev nt2:Q2->Nat:=QN.nt nt1
abbrev nt3:Q3->Nat:=QN.nt nt2
abbrev nt4:Q4->Nat:=QN.nt nt3
abbrev nt5:Q5->Nat:=QN.nt nt4
abbrev nt6:Q6->Nat:=QN.nt nt5
abbrev nt7:Q7->Nat:=QN.nt nt6
abbrev nt8:Q8->Nat:=QN.nt nt7
abbrev nt9:Q9->Nat:=QN.nt nt8
abbrev of1:Nat->Q1:=QN.of QR.of
abbrev of2:Nat->Q2:=QN.of of1
abbrev of3:Nat->Q3:=QN.of of2
abbrev of4:Nat->Q4:=QN.of of3
abbrev of5:Nat->Q5:=QN.of of4
abbrev of6:Nat->Q6:=QN.of of5
abbrev of7:Nat->Q7:=QN.of of6
abbrev of8:Nat->Q8:=QN.of of7
abbrev of9:Nat->Q9:=QN.of of8
abbrev Xu:Q1->Q1->Bool:=QN.bq QR.beq
abbrev Xt:Q2->Q2->Bool:=QN.bq Xu
abbrev Xq:Q3->Q3->Bool:=QN.bq Xt
abbrev Xp:Q4->Q4->Bool:=QN.bq Xq
abbrev Xo:Q5->Q5->Bool:=QN.bq Xp
abbrev Xn:Q6->Q6->Bool:=QN.bq Xo
abbrev Xm:Q7->Q7->Bool:=QN.bq Xn
abbrev Xl:Q8->Q8->Bool:=QN.bq Xm
abbrev Xk:Q9->Q9->Bool:=QN.bq Xl
abbrev Wi:Q1->Q1:=QN.sc QR.succ .e
abbrev Wh:Q2->Q2:=QN.sc Wi .e
abbrev Wf:Q3->Q3:=QN.sc Wh .e
abbrev We:Q4->Q4:=QN.sc Wf .e
abbrev Wd:Q5->Q5:=QN.sc We .e
abbrev Wc:Q6->Q6:=QN.sc Wd .e
abbrev Wb:Q7->Q7:=QN.sc Wc .e
abbrev Wa:Q8->Q8:=QN.sc Wb .e
abbrev W9:Q9->Q9:=QN.sc Wa .e
def Q.nat(q:Q):Nat:=QN.nt nt9 q
def Q.succ(q:Q):Q:=QN.sc W9 .e q
def Q.beq(p q:Q):Bool:=QN.bq Xk p q
def qn(n:Nat):Q:=QN.of of9 n
def TQ.get{α:Type}(z:α):TQ α->QR->α
 |.nil,_=>z
 |.nd v _ _ _ _,.e=>v
 |.nd _ a _ _ _,.a q=>a.get z q
 |.nd _ _ b _ _,.b q=>b.get z q
 |.nd _ _ _ c _,.c q=>c.get z q
 |.nd _ _ _ _ d,.d q=>d.get z q
def TQ.put{α:Type}(z:α)(v:α):QR->TQ α->TQ α
 |.e,.nil=>.nd v .nil .nil .nil .nil
 |.e,.nd _ a b c d=>.nd v a b c d
 |.a q,.nil=>.nd z (TQ.put z v q .nil) .nil .nil .nil
 |.a q,.nd u a b c d=>.nd u (TQ.put z v q a) b c d
 |.b q,.nil=>.nd z .nil (TQ.put z v q .nil) .nil .nil
 |.b q,.nd u a b c d=>.nd u a (TQ.put z v q b) c d
 |.c q,.nil=>.nd z .nil .nil (TQ.put z v q .nil) .nil
 |.c q,.nd u a b c d=>.nd u a b (TQ.put z v q c) d
 |.d q,.nil=>.nd z .nil .nil .nil (TQ.put z v q .nil)
 |.d q,.nd u a b c d=>.nd u a b c (TQ.put z v q d)
def N5.gt{α β U:Type}(g:β->U->α):N5 α β->QN U->α
 |t,.e=>t.v
 |t,.a q=>g t.a q
 |t,.b q=>g t.b q
 |t,.c q=>g t.c q
 |t,.d q=>g t.d q
def N5.pt{α β U:Type}(p:U->β->β)(v:α):QN U->N5 α β->N5 α β
 |.e,.mk _ a b c d=>.mk v a b c d
 |.a q,.mk u a b c d=>.mk u (p q a) b c d
 |.b q,.mk u a b c d=>.mk u a (p q b) c d
 |.c q,.mk u a b c d=>.mk u a b (p q c) d
 |.d q,.mk u a b c d=>.mk u a b c (p q d)
section
variable {α:Type}[Dft α]
def R7:T1 α:=.mk Dft.z .nil .nil .nil .nil
def R6:T2 α:=.mk Dft.z R7 R7 R7 R7
def R5:T3 α:=.mk Dft.z R6 R6 R6 R6
def R4:T4 α:=.mk Dft.z R5 R5 R5 R5
def R3:T5 α:=.mk Dft.z R4 R4 R4 R4
def Ri:T6 α:=.mk Dft.z R3 R3 R3 R3
def Rh:T7 α:=.mk Dft.z Ri Ri Ri Ri
def Rg:T8 α:=.mk Dft.z Rh Rh Rh Rh
def sQ:T9 α:=.mk Dft.z Rg Rg Rg Rg
def T.nil:T α:=N5.mk Dft.z sQ sQ sQ sQ
abbrev g1:T1 α->Q1->α:=N5.gt (TQ.get Dft.z)
abbrev g2:T2 α->Q2->α:=N5.gt g1
abbrev g3:T3 α->Q3->α:=N5.gt g2
abbrev g4:T4 α->Q4->α:=N5.gt g3
abbrev g5:T5 α->Q5->α:=N5.gt g4
abbrev g6:T6 α->Q6->α:=N5.gt g5
abbrev g7:T7 α->Q7->α:=N5.gt g6
abbrev g8:T8 α->Q8->α:=N5.gt g7
abbrev g9:T9 α->Q9->α:=N5.gt g8
def T.get(_:α)(t:T α)(q:Q):α:=N5.gt g9 t q
abbrev p1(v:α):Q1->T1 α->T1 α:=N5.pt (TQ.put Dft.z v) v
abbrev p2(v:α):Q2->T2 α->T2 α:=N5.pt (p1 v) v
abbrev p3(v:α):Q3->T3 α->T3 α:=N5.pt (p2 v) v
abbrev p4(v:α):Q4->T4 α->T4 α:=N5.pt (p3 v) v
abbrev p5(v:α):Q5->T5 α->T5 α:=N5.pt (p4 v) v
abbrev p6(v:α):Q6->T6 α->T6 α:=N5.pt (p5 v) v
abbrev p7(v:α):Q7->T7 α->T7 α:=N5.pt (p6 v) v
abbrev p8(v:α):Q8->T8 α->T8 α:=N5.pt (p7 v) v
abbrev p9(v:α):Q9->T9 α->T9 α:=N5.pt (p8 v) v
def T.put(_:α)(v:α)(q:Q)(t:T α):T α:=N5.pt (p9 v) v q t
end
def JK(n:Nat)(k:Q->Res):Res:=k (qn n)
def kG(q:Q)(k:Q->Res):Res:=k q.succ
def Ux{α:Type}[Dft α](z:α)(q:Q)(t:T α)(k:α->Res):Res:=k (t.get z q)
def UY{α:Type}[Dft α](z:α)(v:α)(q:Q)(t:T α)(k:T α->Res):Res:=k (t.put z v q)
def Uw(q:Q)(fe:Q->CF)(k:CF->Res):Res:=k (fe q)
abbrev gV(q:Q)(t:T V)(k:V->Res):Res:=Ux V.undef q t k
abbrev pV(v:V)(q:Q)(t:T V)(k:T V->Res):Res:=UY V.undef v q t k
abbrev gO(q:Q)(h:T O)(k:O->Res):Res:=Ux O.dead q h k
abbrev pO(v:O)(q:Q)(h:T O)(k:T O->Res):Res:=UY O.dead v q h k
def T.ofListF(z:V):List V->Q->T V->T V
 |[],_,t=>t
 |v::vs,q,t=>T.ofListF z vs q.succ (t.put z v q)
def T.ofList(vs:List V):T V:=T.ofListF V.undef vs .e .nil
def jP(vs:List V)(i:Nat)(t:T V)(k:T V->Res):Res :=
 @List.rec V (λ_=>Nat->T V->(T V->Res)->Res) (λ_ t k=>k t) (λv _ ih i t k=>JK i λq=>pV v q t λt'=>aY (i+1) λi'=>ih i' t' k) vs i t k
def sB(n:Nat)(i:Nat)(t:T V)(k:List V->Res):Res :=
 @Nat.rec (λ_=>Nat->(List V->Res)->Res) (λ_ k=>k []) (λ_ ih i k=>JK i λq=>gV q t λv=>aY (i+1) λi'=>ih i' λl=>k (v::l)) n i k
def rJ{α:Type}(l:List α)(k:Nat->Res):Res :=
 @List.rec α (λ_=>(Nat->Res)->Res) (λk=>k 0) (λ_ _ ih k=>ih λn=>aY (n+1) k) l k
def qe{α:Type}(l:List α)(n:Nat)(k:α->Res):Res :=
 @List.rec α (λ_=>Nat->Res) (λ_=>.bad 1) (λv _ ih n=>@Nat.rec (λ_=>Res) (k v) (λm _=>ih m) n) l n
def xK(x:X)(tm:T V)(k:V->Res):Res :=
 match x with
 |.t q=>gV q tm k
 |.c v=>k v
 |.bad=>.bad 2
def H8(xs:List X)(tm:T V)(k:List V->Res):Res :=
 @List.rec X (λ_=>(List V->Res)->Res) (λk=>k []) (λx _ ih k=>xK x tm λv=>ih λl=>k (v::l)) xs k
def Mm(v:V)(k:IntKind->Int->Res):Res :=
 match v with
 |.int kd n=>k kd n
 |_=>.bad 3
def Ji(v:V)(k:Bool->Res):Res :=
 match v with
 |.bool b=>k b
 |_=>.bad 4
def KH(v:V)(k:Nat->Res):Res :=
 match v with
 |.int _ n=>(match n with
  |.ofNat m=>k m
  |.negSucc _=>.bad 5)
 |_=>.bad 6
def KG(v:V)(k:Q->Nat->Res):Res :=
 match v with
 |.ptr o off=>k o off
 |_=>.bad 7
def Jh(v:V)(k:Nat->Nat->Res):Res :=
 match v with
 |.str l n=>k l n
 |_=>.bad 8
def NU(v:V)(k:List V->Res):Res :=
 match v with
 |.agg l=>k l
 |_=>.bad 9
def db(o:O)(k:Nat->T V->Res):Res :=
 match o with
 |.row n t _ _ _ _=>k n t
 |.ro n t=>k n t
 |_=>.bad 10
def v5(o:O)(k:List (V×V)->Res):Res :=
 match o with
 |.map es=>k es
 |.mapd es=>k es
 |_=>.bad 11
def Py(o:O)(es:List (V×V)):O :=
 match o with
 |.map _=>.map es
 |_=>.mapd es
def JN(k:IntKind):Nat :=
 match k with
 |.i8=>0|.i16=>1|.i32=>2|.i64=>3|.u8=>4|.u16=>5|.u32=>6|.u64=>7
def Ly(k:IntKind):Nat :=
 match k with
 |.i8=>127|.i16=>32767|.i32=>2147483647|.i64=>9223372036854775807|.u8=>255|.u16=>65535|.u32=>4294967295|.u64=>18446744073709551615
def iB(k:IntKind)(n:Int)(kn:Int->Res):Res :=
 match n with
 |.ofNat m=>aY m λm=>(match Nat.ble m (Ly k) with
  |true=>kn (.ofNat m)
  |false=>vH (k.wrap (.ofNat m)) kn)
 |.negSucc m=>vH (k.wrap (.negSucc m)) kn
def N3(x y:Int):Int :=
 match x,y with
 |.ofNat a,.ofNat b=>(match Nat.ble b a with
  |true=>.ofNat (a-b)
  |false=>.negSucc (b-a-1))
 |x,y=>x-y
def Rw(x y:Int):Int :=
 match x,y with
 |.ofNat a,.ofNat b=>.ofNat (a+b)
 |x,y=>x+y
def U9(x y:Int):Int :=
 match x,y with
 |.ofNat a,.ofNat b=>.ofNat (a*b)
 |x,y=>x*y
def K5(x y:Int):Bool :=
 match x,y with
 |.ofNat a,.ofNat b=>Nat.ble a b
 |.ofNat _,.negSucc _=>false
 |.negSucc _,.ofNat _=>true
 |.negSucc a,.negSucc b=>Nat.ble b a
def Kz(x y:Int):Bool :=
 match x,y with
 |.ofNat a,.ofNat b=>Nat.beq a b
 |.negSucc a,.negSucc b=>Nat.beq a b
 |_,_=>false
def bK(b:Bool)(k:V->Res):Res :=
 match b with
 |true=>k (.bool true)
 |false=>k (.bool false)
def oR(l:Nat):Nat:=Nat.pow 2 (8*l)
def pA(op:BinOp)(kd:IntKind)(x y:Int)(k:V->Res):Res :=
 match op with
 |.add=>iB kd (Rw x y) λn=>k (.int kd n)
 |.sub=>iB kd (N3 x y) λn=>k (.int kd n)
 |.mul=>iB kd (U9 x y) λn=>k (.int kd n)
 |.rem=>gd (!Kz y 0) 12 (vH (x.tmod y) λn=>k (.int kd n))
 |.eql=>bK (Kz x y) k
 |.neq=>bK (!Kz x y) k
 |.lss=>bK (!K5 y x) k
 |.leq=>bK (K5 x y) k
 |.gtr=>bK (!K5 x y) k
 |.geq=>bK (K5 y x) k
 |_=>.bad 13
def zc(op:BinOp)(l n m j:Nat)(k:V->Res):Res :=
 match op with
 |.add=>gd (Nat.ble (l+m) 4294967296) 14 (aY (l+m) λl'=>aY (n+j*oR l) λn'=>k (.str l' n'))
 |.eql=>bK (Nat.beq l m&&Nat.beq n j) k
 |.neq=>bK (!(Nat.beq l m&&Nat.beq n j)) k
 |_=>.bad 15
def nk(op:BinOp)(a b:V)(k:V->Res):Res :=
 match a with
 |.int kd x=>(match b with
  |.int Hc y=>gd (Nat.beq (JN kd) (JN Hc)) 16 (pA op kd x y k)
  |_=>.bad 17)
 |.str l n=>(match b with
  |.str m j=>zc op l n m j k
  |_=>.bad 18)
 |_=>.bad 19
def vY(o:O):Bool :=
 match o with
 |.row _ _ _ _ _ _=>true
 |_=>false
def I6(h:T O)(o:Q)(off:Nat)(o':Q)(DE:Nat)(k:Bool->Res):Res :=
 match o.beq o' with
 |true=>(match Nat.beq off DE with
  |true=>k true
  |false=>gO o h λx=>gd (vY x) 20 (k false))
 |false=>gO o h λx=>gO o' h λy=>gd (vY x&&vY y) 20 (k false)
def Yg(x:RK)(k:Bool->Res):Res :=
 match x with
 |.sl _ _ _=>k false
 |_=>.bad 21
def GO(m:EqM)(h:T O)(a b:V)(k:Bool->Res):Res :=
 match m with
 |.nilS=>(match a with
  |.nils=>k true
  |.sl _ _ _ _=>k false
  |.su _ _ _ _=>k false
  |.se=>k false
  |.rr x=>Yg x k
  |_=>.bad 21)
 |.nilM=>(match a with
  |.nilm=>k true
  |.map _=>k false
  |_=>.bad 21)
 |.nilF=>(match a with
  |.nilf=>k true
  |.fn _ _ _=>k false
  |.yld _=>k false
  |_=>.bad 21)
 |.nilI=>(match a with
  |.nili=>k true
  |.ifc _ _=>k false
  |_=>.bad 21)
 |.bool=>Ji a λx=>Ji b λy=>k (x==y)
 |.ptr=>(match a with
  |.nilp=>(match b with
   |.nilp=>k true
   |.ptr _ _=>k false
   |_=>.bad 23)
  |.ptr o off=>(match b with
   |.nilp=>k false
   |.ptr o' DE=>I6 h o off o' DE k
   |_=>.bad 24)
  |_=>.bad 25)
def ah(v:V):List V :=
 match v with
 |.agg l=>l
 |v=>[v]
def JD(v:V)(k:List V->Res):Res :=
 match v with
 |.agg l=>k l
 |.tup _=>.bad 110
 |.bot=>.bad 111
 |v=>k [v]
def n8:List V->Nat->List V->(List V->Res)->Res
 |[],off,new,k=>(match off with
  |0=>(match new with
   |[]=>k []
   |_=>.bad 26)
  |_+1=>.bad 27)
 |x::r,off,new,k=>(match off with
  |off+1=>n8 r off new λl'=>k (x::l')
  |0=>(match new with
   |[]=>k (x::r)
   |v::vs=>n8 r 0 vs λl'=>k (v::l')))
def aa(tm:T V):List (Nat×Nat×X)->List V->(List V->Res)->Res
 |[],l,k=>k l
 |(off,n,x)::ps,l,k=>xK x tm λv=>JD v λc=>rJ c λm=>gd (Nat.beq m n) 28 (n8 l off c λl'=>aa tm ps l' k)
def n9(n:Nat)(l:List V)(k:List V->Res):Res :=
 match n with
 |0=>k []
 |n+1=>(match l with
  |[]=>.bad 30
  |v::r=>n9 n r λl'=>k (v::l'))
def sI(off n:Nat)(l:List V)(k:List V->Res):Res :=
 match off with
 |0=>n9 n l k
 |off+1=>(match l with
  |[]=>.bad 31
  |_::r=>sI off n r k)
def Mg(agg:Bool)(off n:Nat)(l:List V)(k:V->Res):Res :=
 match agg with
 |true=>sI off n l λl'=>k (.agg l')
 |false=>qe l off k
def wP(x:Option X)(tm:T V)(d:Nat)(k:Nat->Res):Res :=
 match x with
 |none=>k d
 |some x=>xK x tm λv=>KH v k
def fT(f:FK)(x y:V)(k:Bool->Res):Res :=
 match f with
 |.b=>(match x with
  |.bool a=>(match y with
   |.bool b=>k (a==b)
   |_=>.bad 37)
  |_=>.bad 37)
 |.s=>(match x with
  |.str l n=>(match y with
   |.str m j=>k (Nat.beq l m&&Nat.beq n j)
   |_=>.bad 37)
  |_=>.bad 37)
 |.i=>(match x with
  |.int kd a=>(match y with
   |.int Hc b=>gd (Nat.beq (JN kd) (JN Hc)) 37 (k (Kz a b))
   |_=>.bad 37)
  |_=>.bad 37)
def fC:List FK->List V->List V->(Bool->Res)->Res
 |[],[],[],k=>k true
 |f::fs,x::xs,y::ys,k=>fT f x y λb=>(match b with
  |true=>fC fs xs ys k
  |false=>k false)
 |_,_,_,_=>.bad 37
def gC(s:KK)(h:T O)(x y:V)(k:Bool->Res):Res :=
 match s with
 |.str=>(match x with
  |.str l n=>(match y with
   |.str m j=>k (Nat.beq l m&&Nat.beq n j)
   |_=>.bad 32)
  |_=>.bad 35)
 |.int=>(match x with
  |.int kd a=>(match y with
   |.int Hc b=>gd (Nat.beq (JN kd) (JN Hc)) 33 (k (Kz a b))
   |_=>.bad 34)
  |_=>.bad 35)
 |.st fs=>(match x with
  |.agg l=>(match y with
   |.agg m=>fC fs l m k
   |_=>.bad 34)
  |_=>.bad 35)
 |.ptr=>(match x with
  |.ptr o a=>(match y with
   |.ptr o' b=>I6 h o a o' b k
   |_=>.bad 34)
  |_=>.bad 35)
def iW(s:KK)(x:V)(k:Res):Res :=
 match s with
 |.st fs=>(match x with
  |.agg cs=>rJ cs λn=>rJ fs λm=>gd (Nat.beq n m) 38 k
  |_=>.bad 38)
 |_=>k
def j6(s:KK)(h:T O)(x:V):List (V×V)->(V->Res)->Res->Res
 |[],_,kn=>kn
 |(y,v)::es,k,kn=>gC s h x y λb=>match b with
  |true=>k v
  |false=>j6 s h x es k kn
def sU(s:KK)(h:T O)(x:V)(f:V->V)(z:V):List (V×V)->Nat->(List (V×V)->Nat->V->Res)->Res
 |[],i,k=>k [(x,f z)] i z
 |(y,u)::es,i,k=>gC s h x y λb=>match b with
  |true=>k ((x,f u)::es) i u
  |false=>aY (i+1) λi'=>sU s h x f z es i' λDC j w=>k ((y,u)::DC) j w
def UT(v:V):Nat->List (V×V)->(List (V×V)->Res)->Res
 |_,[],_=>.bad 36
 |0,(y,_)::es,k=>k ((y,v)::es)
 |i+1,e::es,k=>UT v i es λDC=>k (e::DC)
def ui(sz:Nat)(x:RK)(i:Nat)(k:V->Res):Res :=
 match x with
 |.sl o off len=>gd (Nat.blt i len) 37 (aY (off+i*sz) λa=>k (.rr (.ptr o a)))
 |_=>.bad 38
def Ua(x:RK)(k:Nat->Res):Res :=
 match x with
 |.sl _ _ len=>k len
 |.e=>k 0
 |.z=>k 0
 |_=>.bad 39
def zm(x:RK)(lo hi:Nat)(mx:Option Nat)(k:V->Res):Res :=
 match x with
 |.sl o off len=>(match mx with
  |none=>gd (Nat.beq lo 0&&Nat.ble hi len) 45 (match hi with
   |0=>k (.rr .e)
   |hi=>k (.rr (.sl o off hi)))
  |some m=>gd (Nat.beq lo 0&&Nat.beq hi 0&&Nat.beq m 0) 45 (k (.rr .z)))
 |.e=>(match mx with
  |none=>gd (Nat.beq lo 0&&Nat.beq hi 0) 45 (k (.rr .e))
  |some m=>gd (Nat.beq lo 0&&Nat.beq hi 0&&Nat.beq m 0) 45 (k (.rr .z)))
 |_=>.bad 45
def u3(sz:Nat)(v:V)(i:Nat)(k:V->Res):Res :=
 match v with
 |.sl o off len _=>gd (Nat.blt i len) 36 (aY (off+i*sz) λa=>k (.ptr o a))
 |.su o off len _=>gd (Nat.blt i len) 37 (aY (off+i*sz) λa=>k (.ptr o a))
 |.rr x=>ui sz x i k
 |_=>.bad 38
def pj(v:V)(k:Nat->Res):Res :=
 match v with
 |.nils=>k 0
 |.sl _ _ len _=>k len
 |.su _ _ len _=>k len
 |.se=>k 0
 |.rr x=>Ua x k
 |_=>.bad 39
def yA(sz:Nat)(v:V)(lo:Nat)(hi:Nat)(mx:Option Nat)(k:V->Res):Res :=
 match v with
 |.nils=>gd (Nat.beq lo 0&&Nat.beq hi 0&&(match mx with|none=>true|some m=>Nat.beq m 0)) 40 (k .nils)
 |.sl o off len cap=>(match mx with
  |none=>gd (Nat.ble lo hi&&Nat.ble hi cap) 41 (aY (hi-lo) λl=>aY (cap-lo) λc=>(match Nat.beq lo cap with
   |true=>k (.sl o off l c)
   |false=>aY (off+lo*sz) λa=>k (.sl o a l c)))
  |some m=>gd (Nat.ble lo hi&&Nat.ble hi m&&Nat.ble m cap) 42 (aY (hi-lo) λl=>aY (m-lo) λc=>(match Nat.beq lo m with
   |true=>k (.sl o off l c)
   |false=>aY (off+lo*sz) λa=>k (.sl o a l c))))
 |.su o off len GG=>(match mx with
  |none=>gd (Nat.beq sz GG&&Nat.ble lo hi&&Nat.ble hi len) 43 (match Nat.blt lo len with
   |true=>aY (hi-lo) λl=>aY (off+lo*sz) λa=>k (.su o a l sz)
   |false=>(match Nat.beq lo 0 with
    |true=>k (.su o off 0 sz)
    |false=>k .se))
  |some m=>gd (Nat.ble lo hi&&Nat.ble hi m&&Nat.ble m len) 44 (aY (hi-lo) λl=>aY (m-lo) λc=>(match Nat.beq lo m with
   |true=>k (.sl o off l c)
   |false=>aY (off+lo*sz) λa=>k (.sl o a l c))))
 |.se=>(match mx with
  |none=>gd (Nat.beq lo 0&&Nat.beq hi 0) 45 (k .se)
  |some _=>.bad 45)
 |.rr x=>zm x lo hi mx k
 |_=>.bad 45
def JM(h:T O)(o:Q)(off:Nat)(k:V->Res):Res :=
 gO o h λob=>db ob λn t=>gd (Nat.blt off n) 46 (JK off λq=>gV q t k)
def mD(h:T O)(o:Q)(off n:Nat)(k:List V->Res):Res :=
 gO o h λob=>db ob λm t=>gd (Nat.ble (off+n) m) 47 (sB n off t k)
def uM(v:V)(k:Q->Nat->Res)(kr:RK->Res):Res :=
 match v with
 |.ptr o off=>k o off
 |.rr x=>kr x
 |_=>.bad 7
def Mt(o:O)(k:Nat->T V->Res):Res :=
 match o with
 |.rb n t=>k n t
 |_=>.bad 132
def LN(h:T O)(x:RK)(k:V->Res):Res :=
 match x with
 |.ptr o off=>gO o h λob=>Mt ob λn t=>gd (Nat.blt off n) 46 (JK off λq=>gV q t k)
 |_=>.bad 46
def bw(h:T O)(o:Q)(off n:Nat)(k:List V->Res):Res :=
 gO o h λob=>Mt ob λm t=>gd (Nat.ble (off+n) m) 47 (sB n off t k)
def ph(h:T O)(x:RK)(n:Nat)(k:List V->Res):Res :=
 match x with
 |.ptr o off=>bw h o off n k
 |_=>.bad 47
def NN(x:RK)(off:Nat)(k:V->Res):Res :=
 match x with
 |.ptr o a=>aY (a+off) λa'=>k (.rr (.ptr o a'))
 |_=>.bad 48
def R8(x:RK)(k:V->Res):Res :=
 match x with
 |.ptr o off=>k (.rr (.ptr o off))
 |_=>.bad 48
def wZ(ok:Bool)(z:V)(k:V->Res):Res :=
 match ok with
 |true=>k (.tup [z,.bool false])
 |false=>.bad 120
def Ny(ok:Bool)(t:Nat)(z:V)(v:V)(k:V->Res):Res :=
 match v with
 |.ifc t' u=>(match Nat.beq t' t with
  |true=>(match ok with
   |true=>k (.tup [u,.bool true])
   |false=>k u)
  |false=>wZ ok z k)
 |.nili=>wZ ok z k
 |_=>.bad 121
def pK(b:PB)(tm:T V)(h:T O)(k:V->Res):Res :=
 match b with
 |.mv x=>xK x tm k
 |.pick c x y=>xK c tm λv=>Ji v λt=>(match t with
  |true=>xK x tm k
  |false=>xK y tm k)
 |.bin op x y=>xK x tm λa=>xK y tm λb=>nk op a b k
 |.eq neg m x y=>xK x tm λa=>xK y tm λb=>GO m h a b λt=>bK (neg != t) k
 |.not x=>xK x tm λv=>Ji v λt=>bK (!t) k
 |.neg _=>.bad 140
 |.cvi kd x=>xK x tm λv=>Mm v λ_ n=>iB kd n λn'=>k (.int kd n')
 |.cis _=>.bad 140
 |.ctu _=>.bad 140
 |.cfu _ _ _=>.bad 140
 |.cvs _=>.bad 140
 |.bld z ps=>aa tm ps z λl=>k (.agg l)
 |.ld1 x=>xK x tm λv=>uM v (λo off=>JM h o off k) λx=>LN h x k
 |.ldn n x=>xK x tm λv=>uM v (λo off=>mD h o off n λl=>k (.agg l)) λx=>ph h x n λl=>k (.agg l)
 |.nck x=>xK x tm λv=>(match v with
  |.rr x=>R8 x k
  |.ptr o off=>k (.ptr o off)
  |.fn f fs cs=>k (.fn f fs cs)
  |.ifc t u=>k (.ifc t u)
  |.yld l=>k (.yld l)
  |_=>.bad 48)
 |.fa off x=>xK x tm λv=>uM v (λo a=>aY (a+off) λa'=>k (.ptr o a')) λx=>NN x off k
 |.fd agg off n x=>xK x tm λv=>NU v λl=>Mg agg off n l k
 |.ia sz x i=>xK x tm λv=>xK i tm λj=>KH j λj=>u3 sz v j k
 |.iaa len sz x i=>xK x tm λv=>xK i tm λj=>KH j λj=>KG v λo a=>gd (Nat.blt j len) 49 (aY (a+j*sz) λa'=>k (.ptr o a'))
 |.ixs x i=>xK x tm λv=>xK i tm λj=>KH j λj=>Jh v λl n=>gd (Nat.blt j l) 50 (aY (n/oR j%256) λc=>k (.int .u8 (.ofNat c)))
 |.ixa agg len sz x i=>xK x tm λv=>xK i tm λj=>KH j λj=>NU v λl=>gd (Nat.blt j len) 51 (aY (j*sz) λa=>Mg agg a sz l k)
 |.slS x lo hi=>xK x tm λv=>Jh v λl n=>wP lo tm 0 λa=>wP hi tm l λb=>gd (Nat.ble a b&&Nat.ble b l) 52 (aY (b-a) λl'=>aY (n/oR a%oR (b-a)) λn'=>k (.str l' n'))
 |.slL sz x lo hi mx=>xK x tm λv=>pj v λlen=>wP lo tm 0 λa=>wP hi tm len λb=>(match mx with
  |none=>yA sz v a b none k
  |some m=>xK m tm λm=>KH m λm=>yA sz v a b (some m) k)
 |.mki t x=>xK x tm λv=>k (.ifc t v)
 |.mkf f fs caps=>H8 fs tm λl=>H8 caps tm λm=>k (.fn f l m)
 |.lk s ok z m key=>xK m tm λm=>xK key tm λx=>iW s x (match m with
  |.nilm=>(match ok with
   |true=>k (.tup [z,.bool false])
   |false=>k z)
  |.map o=>gO o h λob=>v5 ob λes=>(match ok with
   |true=>j6 s h x es (λv=>k (.tup [v,.bool true])) (k (.tup [z,.bool false]))
   |false=>j6 s h x es k (k z))
  |_=>.bad 53)
 |.lenS x=>xK x tm λv=>Jh v λl _=>k (.int .i64 (.ofNat l))
 |.lenL x=>xK x tm λv=>pj v λl=>k (.int .i64 (.ofNat l))
 |.lenM x=>xK x tm λv=>(match v with
  |.nilm=>k (.int .i64 (.ofNat 0))
  |.map o=>gO o h λob=>v5 ob λes=>rJ es λn=>k (.int .i64 (.ofNat n))
  |_=>.bad 54)
 |.sd _=>.bad 140
 |.max x y=>xK x tm λa=>xK y tm λb=>Mm a λka n=>Mm b λ_ m=>(match K5 m n with
  |true=>k (.int ka n)
  |false=>k (.int ka m))
 |.ex i x=>xK x tm λv=>(match v with
  |.tup l=>qe l i k
  |_=>.bad 55)
 |.ta ok t z x=>xK x tm λv=>Ny ok t z v k
 |.bad=>.bad 56
def sM(tm:T V)(sz:Nat):List (Nat×X)->T V->(T V->Res)->Res
 |[],t,k=>k t
 |(i,x)::ps,t,k=>xK x tm λv=>JD v λc=>rJ c λm=>gd (Nat.beq m sz) 57 (jP c (i*sz) t λt'=>sM tm sz ps t' k)
def aK(b:AB)(tm:T V)(k:O->(Q->V)->Res):Res :=
 match b with
 |.al ty n t=>k (.row n t [] 0 ty true) λq=>.ptr q 0
 |.bx ty n x=>xK x tm λv=>JD v λc=>rJ c λm=>gd (Nat.beq m n) 58 (jP c 0 .nil λt=>k (.row n t [] 0 ty true) λq=>.ptr q 0)
 |.bsl ty sz len t ps=>sM tm sz ps t λt'=>aY (len*sz) λn=>k (.row n t' [] 0 ty true) λq=>.sl q 0 len len
 |.mkm=>k (.map []) λq=>.map q
 |.mks _ _ _ _ _=>.bad 140
def vR:List Q->T O->(T O->Res)->Res
 |[],h,k=>k h
 |q::qs,h,k=>pO .dead q h λh'=>vR qs h' k
def Jk(o:Q)(off:Nat)(vs:List V)(h:T O)(k:T O->Res):Res :=
 gO o h λob=>match ob with
  |.row n t BW CB ty ex=>rJ vs λm=>gd (Nat.ble (off+m) n) 60 (jP vs off t λt'=>(match Nat.ble CB off with
   |true=>pO (.row n t' BW CB ty ex) o h k
   |false=>vR BW h λh'=>pO (.row n t' [] 0 ty ex) o h' k))
  |_=>.bad 61
def Ln:Nat->Nat->(List V->Res)->Res
 |0,_,k=>k []
 |l+1,n,k=>aY (n%256) λc=>aY (n/256) λn'=>Ln l n' λcs=>k (.int .u8 (.ofNat c)::cs)
def nz(sz:Nat)(x:RK)(h:T O)(k:Nat->List V->Res):Res :=
 match x with
 |.sl o off len=>bw h o off (len*sz) λl=>k len l
 |.e=>k 0 []
 |.z=>k 0 []
 |_=>.bad 62
def iS(sz:Nat)(v:V)(h:T O)(k:Nat->List V->Res):Res :=
 match v with
 |.nils=>k 0 []
 |.sl o off len _=>(match len with
  |0=>k 0 []
  |len=>mD h o off (len*sz) λl=>k len l)
 |.su o off len _=>(match len with
  |0=>k 0 []
  |len=>mD h o off (len*sz) λl=>k len l)
 |.se=>k 0 []
 |.rr x=>nz sz x h k
 |.str l n=>gd (Nat.beq sz 1) 62 (Ln l n λcs=>k l cs)
 |_=>.bad 62
def lL(ty sz:Nat)(len m:Nat)(old new:List V)(h:T O)(nx:Q)(k:V->T O->Q->Res):Res :=
 gd (Nat.ble (len+m) 4294967296) 112 <| jP old 0 .nil λt=>jP new (len*sz) t λt'=>aY ((len+m)*sz) λn=>aY (len+m) λl=>pO (.row n t' [] 0 ty false) nx h λh'=>kG nx λnx'=>k (.su nx 0 l sz) h' nx'
def Xw(ty sz:Nat)(x:RK)(m:Nat)(new:List V)(h:T O)(nx:Q)(k:V->T O->Q->Res):Res :=
 match x with
 |.z=>(match m with
  |0=>k (.rr .z) h nx
  |m=>lL ty sz 0 m [] new h nx k)
 |_=>.bad 66
def KI(ty sz:Nat)(a:V)(m:Nat)(new:List V)(h:T O)(nx:Q)(k:V->T O->Q->Res):Res :=
 match a with
 |.nils=>(match m with
  |0=>k .nils h nx
  |m=>lL ty sz 0 m [] new h nx k)
 |.rr x=>Xw ty sz x m new h nx k
 |.sl o off len cap=>(match Nat.ble (len+m) cap with
  |true=>(match m with
   |0=>k (.sl o off len cap) h nx
   |m=>Jk o (off+len*sz) new h λh'=>aY (len+m) λl=>k (.sl o off l cap) h' nx)
  |false=>iS sz (.sl o off len cap) h λ_ old=>lL ty sz len m old new h nx k)
 |.su o off len GG=>gd (Nat.beq sz GG) 63 (match m with
  |0=>k (.su o off len sz) h nx
  |m=>gO o h λob=>(match ob with
   |.row n t BW CB Gz ex=>(match Nat.ble (off+(len+m)*sz) n with
    |true=>Jk o (off+len*sz) new h λh'=>aY (len+m) λl=>k (.su o off l sz) h' nx
    |false=>gd (Nat.beq (off+len*sz) n&&Nat.beq off 0&&Nat.beq ty Gz&&Nat.ble (len+m) 4294967296) 64 (jP new n t λt'=>aY (n+m*sz) λn'=>aY (len+m) λl=>pO (.ro n t) o h λh'=>pO (.row n' t' (o::BW) n Gz false) nx h' λLj=>kG nx λnx'=>k (.su nx off l sz) Lj nx'))
   |_=>.bad 65))
 |_=>.bad 66
def wK(b:WB)(tm:T V)(h:T O)(nx:Q)(k:V->T O->Q->Res):Res :=
 match b with
 |.st n x y=>xK x tm λp=>KG p λo off=>xK y tm λv=>JD v λc=>rJ c λm=>gd (Nat.beq m n) 67 (Jk o off c h λh'=>k V.undef h' nx)
 |.mu s m key x=>xK m tm λm=>xK key tm λkv=>xK x tm λv=>iW s kv (match m with
  |.map o=>gO o h λob=>v5 ob λes=>sU s h kv (λ_=>v) v es 0 λDC _ _=>pO (Py ob DC) o h λh'=>k V.undef h' nx
  |_=>.bad 68)
 |.me _ _ _ _=>.bad 140
 |.es _ _ _=>.bad 140
 |.ap ty sz x y=>xK x tm λa=>xK y tm λb=>iS sz b h λm new=>gd (Nat.ble m 16777216) 71 (KI ty sz a m new h nx k)
 |.us _ _ _=>.bad 140
 |.sb x=>xK x tm λv=>Jh v λl n=>Ln l n λcs=>jP cs 0 .nil λt=>pO (.ro l t) nx h λh'=>kG nx λnx'=>k (.su nx 0 l 1) h' nx'
 |.cp _ _ _=>.bad 140
def RX(a b:V):Bool :=
 match a,b with
 |.bool x,.bool y=>x==y
 |.int k x,.int k' y=>Nat.beq (JN k) (JN k')&&Kz x y
 |.str l n,.str m j=>Nat.beq l m&&Nat.beq n j
 |.nilp,.nilp=>true
 |.ptr o x,.ptr p y=>o.beq p&&Nat.beq x y
 |.nils,.nils=>true
 |.sl o x l c,.sl p y m d=>o.beq p&&Nat.beq x y&&Nat.beq l m&&Nat.beq c d
 |.su o x l c,.su p y m d=>o.beq p&&Nat.beq x y&&Nat.beq l m&&Nat.beq c d
 |.nilm,.nilm=>true
 |.map o,.map p=>o.beq p
 |.nilf,.nilf=>true
 |.yld o,.yld p=>o.beq p
 |.nili,.nili=>true
 |_,_=>false
def Mi:List V->List V->Bool
 |[],[]=>true
 |a::l,b::m=>(match RX a b with
  |true=>Mi l m
  |false=>false)
 |_,_=>false
def Lm(a b:V):Bool :=
 match a with
 |.agg l=>(match b with
  |.agg m=>Mi l m
  |_=>false)
 |.tup l=>(match b with
  |.tup m=>Mi l m
  |_=>false)
 |.fn f l l'=>(match b with
  |.fn g m m'=>f.beq g&&(Mi l m&&Mi l' m')
  |_=>false)
 |a=>RX a b
abbrev E9:=Q->Bool->Option Q->List Df->T V->K->List Fr->T O->Q->Res
def qB(dst:Option Q)(v:V)(tm:T V)(k:T V->Res):Res :=
 match dst with
 |some q=>pV v q tm k
 |none=>k tm
def l8(ih:E9)(fr:Fr)(cs:List Fr)(v:V)(h:T O)(nx:Q):Res :=
 match fr with
 |.mk f dk rd ds tm k=>(match k with
  |.reg l k=>(match l with
   |.op (.mk dst _ _)::l'=>qB dst v tm λtm'=>ih f dk rd ds tm' (.reg l' k) cs h nx
   |_=>.bad 80)
  |.inrf l k=>ih f dk rd ds tm (.erf l k) cs h nx
  |_=>.bad 81)
def fL(tm:T V)(h:T O):List RV->(List V->Res)->Res
 |[],k=>k []
 |.t q::r,k=>gV q tm λv=>fL tm h r λl=>k (v::l)
 |.cell agg n q::r,k=>gV q tm λp=>KG p λo off=>(match agg with
  |true=>mD h o off n λl=>fL tm h r λl'=>k (.agg l::l')
  |false=>JM h o off λv=>fL tm h r λl'=>k (v::l'))
def Rf(l:List V):V :=
 match l with
 |[v]=>v
 |l=>.tup l
def lT(vs:List V)(q:Q)(t:T V)(k:T V->Res):Res :=
 @List.rec V (λ_=>Q->T V->(T V->Res)->Res) (λ_ t k=>k t) (λv _ ih q t k=>pV v q t λt'=>kG q λq'=>ih q' t' k) vs q t k
def qq:List Q->List V->T V->(T V->Res)->Res
 |[],[],t,k=>k t
 |q::qs,v::vs,t,k=>pV v q t λt'=>qq qs vs t' k
 |_,_,_,_=>.bad 82
def sL(l m:List V)(k:List V->Res):Res :=
 match l with
 |[]=>k m
 |v::r=>sL r m λl'=>k (v::l')
def sA(c:Nat):Nat->Nat->Nat->(Int->Res)->Res
 |0,_,_,k=>k (.negSucc 0)
 |l+1,s,i,k=>(match Nat.beq (s%256) c with
  |true=>k (.ofNat i)
  |false=>aY (s/256) λs'=>aY (i+1) λi'=>sA c l s' i' k)
def x9(c:Nat):Nat->Nat->Nat->(Nat->Res)->Res
 |0,_,n,k=>k n
 |l+1,s,n,k=>(match Nat.beq (s%256) c with
  |true=>aY (s/256) λs'=>aY (n+1) λn'=>x9 c l s' n' k
  |false=>aY (s/256) λs'=>x9 c l s' n k)
def Rv(v:V)(k:Nat->Res):Res :=
 match v with
 |.int .u8 n=>(match n with
  |.ofNat c=>gd (Nat.blt c 256) 79 (k c)
  |.negSucc _=>.bad 79)
 |_=>.bad 79
def az(n:Nat)(args:List V)(k:V->Res):Res :=
 match n with
 |0=>(match args with
  |[x,y]=>Jh x λl s=>Rv y λc=>sA c l s 0 λi=>k (.int .i64 i)
  |_=>.bad 79)
 |1=>(match args with
  |[x,y]=>Jh x λl s=>Rv y λc=>x9 c l s 0 λi=>k (.int .i64 (.ofNat i))
  |_=>.bad 79)
 |_=>(match args with
  |[x]=>k x
  |_=>.bad 79)
def IF:GT->Nat->Nat->(V->Res)->Res
 |.any v,_,_,k=>k v
 |.leaf l n v,l',n',k=>gd (Nat.beq l l'&&Nat.beq n n') 131 (k v)
 |.nd p a b,l',n',k=>(match Nat.ble n' p with
  |true=>IF a l' n' k
  |false=>IF b l' n' k)
 |.ar _ _ _,_,_,_=>.bad 133
def Uu(g:GT)(x:RK)(k:V->Res):Res :=
 match x with
 |.sl o off len=>(match g with
  |.ar q n v=>gd (o.beq q&&Nat.beq off 0&&Nat.beq len n) 133 (k v)
  |_=>.bad 133)
 |_=>.bad 133
def QC(g:GT)(l:List V)(k:V->Res):Res :=
 match l with
 |[.rr x]=>Uu g x k
 |_=>.bad 133
def zy(g:GT)(args:List V)(k:V->Res):Res :=
 match args with
 |[]=>IF g 0 0 k
 |[x]=>(match x with
  |.str l n=>IF g l n k
  |.agg l=>QC g l k
  |_=>IF g 0 0 k)
 |_=>.bad 134
def Sj(args:List V):Bool :=
 match args with
 |[.rr .e]=>true
 |_=>false
def UU(cf:CF)(k:List RV->Res):Res :=
 match cf with
 |.mk _ rs=>k rs
 |.gor _ _ rs=>k rs
 |_=>.bad 98
def fS(fe:Q->CF)(ih:E9)(f:Q)(args:List V)(dk:Bool)(cs:List Fr)(h:T O)(nx:Q):Res :=
 Uw f fe λcf=>match cf with
  |.none=>.bad 83
  |.ext n=>(match cs with
   |c::BT=>(match dk with
    |false=>az n args λv=>l8 ih c BT v h nx
    |true=>.bad 78)
   |[]=>.bad 78)
  |.giv g=>(match cs with
   |c::BT=>(match dk with
    |false=>zy g args λv=>l8 ih c BT v h nx
    |true=>.bad 78)
   |[]=>.bad 78)
  |.gor v body _=>(match Sj args with
   |true=>(match cs with
    |c::BT=>(match dk with
     |false=>l8 ih c BT v h nx
     |true=>.bad 78)
    |[]=>.bad 78)
   |false=>lT args .e .nil λtm=>ih f dk none [] tm (.code body .nil) cs h nx)
  |.mk body _=>lT args .e .nil λtm=>ih f dk none [] tm (.code body .nil) cs h nx
def lM(o:O)(k:Nat->Jump->Q->T V->List Q->C->C->Q->Res):Res :=
 match o with
 |.loop (.mk st pend fn tm params BV body B8)=>k st pend fn tm params BV body B8
 |_=>.bad 84
def cR(fe:Q->CF)(ih:E9)(fv:V)(args:List V)(cs:List Fr)(h:T O)(nx:Q):Res :=
 match fv with
 |.fn f fs caps=>sL args caps λl=>sL fs l λl=>fS fe ih f l false cs h nx
 |.yld l=>gO l h λob=>lM ob λ_ _ fn tm params BV body _=>qq params args tm λtm'=>ih fn false (some l) [] tm' (.code BV (.begin (.code body .nil))) cs h nx
 |_=>.bad 85
def fw(ih:E9)(l:Q)(j:Jump)(b:Bool)(cs:List Fr)(h:T O)(nx:Q):Res :=
 gO l h λob=>lM ob λ_ _ fn tm params BV body B8=>pO (.loop (.mk (match b with|true=>0|false=>2) j fn tm params BV body B8)) l h λh' =>
  match cs with
  |[]=>.bad 86
  |c::cs=>l8 ih c cs (.bool b) h' nx
def eJ(id:Nat):K->(K->Res)->Res->Res
 |.blk C6 k,kf,kn=>(match Nat.beq C6 id with
  |true=>kf k
  |false=>eJ id k kf kn)
 |.nil,_,kn=>kn
 |.code _ k,kf,kn=>eJ id k kf kn
 |.lp _ k,kf,kn=>eJ id k kf kn
 |.sc k,kf,kn=>eJ id k kf kn
 |.reg _ k,kf,kn=>eJ id k kf kn
 |.inrf _ k,kf,kn=>eJ id k kf kn
 |.erf _ k,kf,kn=>eJ id k kf kn
 |.begin k,kf,kn=>eJ id k kf kn
 |.rtn,_,_=>.bad 87
def Pw(dk:Bool)(cs:List Fr)(k:Res):Res :=
 match dk with
 |false=>k
 |true=>(match cs with
  |.mk _ _ _ _ _ .rtn::_=>k
  |_=>.bad 88)
def pQ(t:Nat):List (Nat×Q)->(Q->Res)->Res
 |[],_=>.bad 122
 |(u,f)::ms,k=>(match Nat.beq u t with
  |true=>k f
  |false=>pQ t ms k)
def Uz(fe:Q->CF)(ih:E9)(ms:List (Nat×Q))(v:V)(vs:List V)(cs:List Fr)(h:T O)(nx:Q):Res :=
 match v with
 |.ifc t u=>pQ t ms λf=>cR fe ih (.fn f [] []) (u::vs) cs h nx
 |_=>.bad 123
def GI(fe:Q->CF)(ih:E9)(f:Q)(dk:Bool)(rd:Option Q)(ds:List Df)(tm:T V)(dst:Option Q)(b:OB)(l:List PS)(l0:List PS)(k:K)(cs:List Fr)(h:T O)(nx:Q):Res :=
 match b with
 |.p b=>pK b tm h λv=>qB dst v tm λtm'=>ih f dk rd ds tm' (.reg l k) cs h nx
 |.a b=>aK b tm λob mk=>pO ob nx h λh'=>qB dst (mk nx) tm λtm'=>kG nx λnx'=>ih f dk rd ds tm' (.reg l k) cs h' nx'
 |.w b=>wK b tm h nx λv h' nx'=>qB dst v tm λtm'=>ih f dk rd ds tm' (.reg l k) cs h' nx'
 |.call x args=>xK x tm λfv=>H8 args tm λvs=>cR fe ih fv vs (.mk f dk rd ds tm (.reg l0 k)::cs) h nx
 |.inv ms x args=>xK x tm λv=>H8 args tm λvs=>Uz fe ih ms v vs (.mk f dk rd ds tm (.reg l0 k)::cs) h nx
 |.dfr x args=>(match rd with
  |some _=>.bad 89
  |none=>xK x tm λfv=>H8 args tm λvs=>(match fv with
   |.fn g fs caps=>sL vs caps λCE=>sL fs CE λCE=>qB dst V.undef tm λtm'=>ih f dk rd (.call g CE::ds) tm' (.reg l k) cs h nx
   |_=>.bad 90))
 |.rcv=>(match rd with
  |some _=>.bad 91
  |none=>Pw dk cs (qB dst .nili tm λtm'=>ih f dk rd ds tm' (.reg l k) cs h nx))
def kF(fe:Q->CF)(ih:E9)(f:Q)(dk:Bool)(rd:Option Q)(ds:List Df)(tm:T V)(l:List PS)(k:K)(cs:List Fr)(h:T O)(nx:Q):Res :=
 match l with
 |[]=>ih f dk rd ds tm k cs h nx
 |.op (.mk dst g b)::l'=>(match g with
  |none=>GI fe ih f dk rd ds tm dst b l' l k cs h nx
  |some (q,want)=>gV q tm λv=>(match v with
   |.bool t=>(match t==want with
    |true=>GI fe ih f dk rd ds tm dst b l' l k cs h nx
    |false=>qB dst V.undef tm λtm'=>ih f dk rd ds tm' (.reg l' k) cs h nx)
   |.tup []=>qB dst V.undef tm λtm'=>ih f dk rd ds tm' (.reg l' k) cs h nx
   |_=>.bad 92))
 |.chk g b q::l'=>(match g with
  |none=>pK b tm h λv=>gV q tm λu=>gd (Lm v u) 93 (ih f dk rd ds tm (.reg l' k) cs h nx)
  |some (q',want)=>gV q' tm λv=>(match v with
   |.bool t=>(match t==want with
    |true=>pK b tm h λv=>gV q tm λu=>gd (Lm v u) 93 (ih f dk rd ds tm (.reg l' k) cs h nx)
    |false=>ih f dk rd ds tm (.reg l' k) cs h nx)
   |.tup []=>ih f dk rd ds tm (.reg l' k) cs h nx
   |_=>.bad 92))
def lJ(ih:E9)(f:Q)(dk:Bool)(rd:Option Q)(ds:List Df)(tm:T V)(c:C)(k:K)(cs:List Fr)(h:T O)(nx:Q)(fe:Q->CF):Res :=
 match c with
 |.skip=>ih f dk rd ds tm k cs h nx
 |.reg l=>ih f dk rd ds tm (.reg l k) cs h nx
 |.seq a b=>ih f dk rd ds tm (.code a (.code b k)) cs h nx
 |.cond x a b=>xK x tm λv=>Ji v λt=>(match t with
  |true=>ih f dk rd ds tm (.code a k) cs h nx
  |false=>ih f dk rd ds tm (.code b k) cs h nx)
 |.block id c=>ih f dk rd ds tm (.code c (.blk id k)) cs h nx
 |.loop c=>ih f dk rd ds tm (.code c (.lp c k)) cs h nx
 |.scope c=>ih f dk rd ds tm (.code c (.sc k)) cs h nx
 |.exit id=>eJ id k (λk'=>ih f dk rd ds tm k' cs h nx) (match rd with
  |none=>.bad 94
  |some l=>fw ih l (.exit id) false cs h nx)
 |.ret=>(match rd with
  |none=>ih f dk rd ds tm .rtn cs h nx
  |some l=>fw ih l .ret false cs h nx)
 |.rf x params BV body=>xK x tm λfv=>(match fv with
  |.fn g fs caps=>sL fs (.yld (match rd with|none=>nx.succ|some _=>nx)::caps) λargs=>(match rd with
   |none=>pO (.dfd false) nx h λh1=>kG nx λn1=>pO (.loop (.mk 0 .none f tm params BV body nx)) n1 h1 λh2=>kG n1 λn2 =>
     fS fe ih g args false (.mk f dk rd (.coll nx::ds) tm (.inrf n1 k)::cs) h2 n2
   |some l=>gO l h λob=>lM ob λ_ _ _ _ _ _ _ B8=>pO (.loop (.mk 0 .none f tm params BV body B8)) nx h λh2=>kG nx λn2 =>
     fS fe ih g args false (.mk f dk rd ds tm (.inrf nx k)::cs) h2 n2)
  |_=>.bad 95)
 |.bad=>.bad 96
def rowAt(o:O):Option (Nat×T V) :=
 match o with
 |.row n t _ _ _ _=>some (n,t)
 |_=>none
inductive Shp where
 |s
 |l (i:Nat)
def tabS:Nat->List Shp
 |0=>[.s,.l 0]
 |1=>[.s,.s,.l 1]
 |2=>[.s,.s,.s,.s,.l 2,.l 1]
 |3=>[.s,.s,.s,.s,.s,.s,.l 2,.l 1]
 |4=>[.s,.l 0]
 |5=>[.s,.s,.l 6,.l 4,.s,.s,.l 0,.l 3,.s,.s,.s,.s,.l 2,.l 1]
 |_=>[.s]
def scaV(v:V):V :=
 match v with
 |.int k n=>.int k n
 |.str l n=>.str l n
 |.bool b=>.bool b
 |_=>.bot
def Uk(l:List V):V :=
 match l with
 |[x]=>x
 |l=>.agg l
def rdCs(g:Shp->V->V):List Shp->T V->Nat->List V
 |[],_,_=>[]
 |s::l,t,off=>g s (t.get V.undef (qn off))::rdCs g l t (off+1)
def rdRow(g:Shp->V->V)(l:List Shp)(o:O)(off len:Nat):V :=
 match rowAt o with
 |some (k,t)=>(match Nat.ble (off+len*l.length) k with
  |true=>.tup ((List.range len).map λj=>Uk (rdCs g l t (off+j*l.length)))
  |false=>.bot)
 |none=>.bot
def rdC:Nat->T O->Shp->V->V
 |0,_,_,_=>.bot
 |f+1,h,s,v=>match s with
  |.s=>scaV v
  |.l i=>(match v with
   |.nils=>.tup []
   |.se=>.tup []
   |.sl o off len _=>rdRow (rdC f h) (tabS i) (h.get O.dead o) off len
   |.su o off len _=>rdRow (rdC f h) (tabS i) (h.get O.dead o) off len
   |_=>.bot)
def Ms(h:T O):List Shp->List V->List V
 |[],[]=>[]
 |s::l,v::vs=>rdC 24 h s v::Ms h l vs
 |_,_=>[.bot]
def rdA(h:T O)(l:List Shp)(v:V):V :=
 match v with
 |.agg vs=>.agg (Ms h l vs)
 |_=>.bot
def fin(v:V)(h:T O):V :=
 match v with
 |.tup [ty,b]=>.tup [rdA h (tabS 0) ty,b]
 |.tup [p,a,e]=>.tup [rdA h [.l 5] p,a,e]
 |.map o=>(match h.get O.dead o with
  |.map es=>.tup (es.map λp=>.tup [p.1,p.2])
  |_=>.bot)
 |.bool b=>.bool b
 |.int k n=>.int k n
 |_=>.bot
def rh(fe:Q->CF)(ih:E9)(f:Q)(dk:Bool)(rd:Option Q)(ds:List Df)(tm:T V)(cs:List Fr)(h:T O)(nx:Q):Res :=
 match ds with
 |.coll q::DH=>gO q h λob=>(match ob with
  |.dfd false=>pO (.dfd true) q h λh'=>ih f dk rd DH tm .rtn cs h' nx
  |_=>.bad 97)
 |.call g args::DH=>fS fe ih g args true (.mk f dk rd DH tm .rtn::cs) h nx
 |[]=>Uw f fe λcf=>UU cf λrs=>fL tm h rs λvs=>(match cs with
   |[]=>(match dk with
    |false=>.ok (fin (Rf vs) h)
    |true=>.bad 99)
   |c::BT=>(match dk with
    |false=>l8 ih c BT (Rf vs) h nx
    |true=>(match c with
     |.mk f2 Hl H9 E5 EV .rtn=>ih f2 Hl H9 E5 EV .rtn BT h nx
     |_=>.bad 100)))
def aB(fe:Q->CF)(ih:E9)(f:Q)(dk:Bool)(rd:Option Q)(ds:List Df)(tm:T V)(k:K)(cs:List Fr)(h:T O)(nx:Q):Res :=
 match k with
 |.nil=>(match rd with
  |none=>ih f dk rd ds tm .rtn cs h nx
  |some l=>fw ih l .none true cs h nx)
 |.code c k=>lJ ih f dk rd ds tm c k cs h nx fe
 |.blk _ k=>ih f dk rd ds tm k cs h nx
 |.lp c k=>ih f dk rd ds tm (.code c (.lp c k)) cs h nx
 |.sc k=>ih f dk rd ds tm k cs h nx
 |.reg l k=>kF fe ih f dk rd ds tm l k cs h nx
 |.inrf _ _=>.bad 101
 |.erf l k=>gO l h λob=>lM ob λst pend fn tm' params BV body B8=>gd (!Nat.beq st 1) 102 (pO (.loop (.mk 3 pend fn tm' params BV body B8)) l h λh'=>(match pend with
  |.none=>ih f dk rd ds tm k cs h' nx
  |.ret=>ih f dk rd ds tm (.code .ret k) cs h' nx
  |.exit id=>ih f dk rd ds tm (.code (.exit id) k) cs h' nx))
 |.begin k=>(match rd with
  |none=>.bad 103
  |some l=>gO l h λob=>lM ob λst pend fn tm' params BV body B8=>gd (Nat.beq st 0) 104 (pO (.loop (.mk 1 pend fn tm' params BV body B8)) l h λh'=>ih f dk rd ds tm k cs h' nx))
 |.rtn=>rh fe ih f dk rd ds tm cs h nx
def run(fe:Q->CF)(n:Nat):E9 :=
 @Nat.rec (λ_=>E9) .fuel (λ_ ih=>aB fe ih) n
end Go.CM
end
