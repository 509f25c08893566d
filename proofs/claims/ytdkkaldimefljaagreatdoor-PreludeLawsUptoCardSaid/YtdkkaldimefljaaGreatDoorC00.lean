import Derived.Test.YtdkkaldimefljaaGreatDoorA02
set_option linter.all false
noncomputable section
namespace Go.CM
section
inductive QR where
 |e|a (q:QR)|b (q:QR)|c (q:QR)|d (q:QR)
inductive QN (α:Type) where
 |e|a (q:α)|b (q:α)|c (q:α)|d (q:α)
abbrev Q1:=QN QR
abbrev Q2:=QN Q1
abbrev Q3:=QN Q2
abbrev Q4:=QN Q3
abbrev Q5:=QN Q4
abbrev Q6:=QN Q5
abbrev Q7:=QN Q6
abbrev Q8:=QN Q7
abbrev Q9:=QN Q8
def Q:Type:=QN Q9
def Q.e:Q:=QN.e (α:=Q9)
inductive TQ (α:Type) where
 |nil
 |nd (v:α) (a b c d:TQ α)
structure N5 (α β:Type) where
 mk ::
 v:α
 a:β
 b:β
 c:β
 d:β
class Dft (α:Type) where
 z:α
abbrev T1(α:Type):=N5 α (TQ α)
abbrev T2(α:Type):=N5 α (T1 α)
abbrev T3(α:Type):=N5 α (T2 α)
abbrev T4(α:Type):=N5 α (T3 α)
abbrev T5(α:Type):=N5 α (T4 α)
abbrev T6(α:Type):=N5 α (T5 α)
abbrev T7(α:Type):=N5 α (T6 α)
abbrev T8(α:Type):=N5 α (T7 α)
abbrev T9(α:Type):=N5 α (T8 α)
def T(α:Type):Type:=N5 α (T9 α)
instance:Inhabited Q:=⟨Q.e⟩
inductive V where
 |bot
 |bool (b:Bool)
 |int (k:IntKind) (n:Int)
 |str (l n:Nat)
 |nilp
 |ptr (o:Q) (off:Nat)
 |nils
 |sl (o:Q) (off len cap:Nat)
 |su (o:Q) (off len sz:Nat)
 |se
 |nilm
 |map (o:Q)
 |nilf
 |fn (f:Q) (fs caps:List V)
 |yld (l:Q)
 |nili
 |ifc (t:Nat) (v:V)
 |agg (vs:List V)
 |tup (vs:List V)
instance:Inhabited V:=⟨.bot⟩
abbrev V.undef:V:=.tup []
instance:Dft V:=⟨.tup []⟩
inductive X where
 |t (q:Q)
 |c (v:V)
 |bad
inductive FK where
 |b|s|i
inductive KK where
 |str|int|ptr|st (l:List FK)
inductive EqM where
 |ptr|bool|nilS|nilM|nilF|nilI
inductive PB where
 |mv (x:X)
 |pick (c a b:X)
 |bin (op:BinOp) (x y:X)
 |eq (neg:Bool) (m:EqM) (x y:X)
 |not (x:X)
 |neg (x:X)
 |cvi (k:IntKind) (x:X)
 |cvs (x:X)
 |cis (x:X)
 |ctu (x:X)
 |cfu (ty n:Nat) (x:X)
 |bld (z:List V) (ps:List (Nat×Nat×X))
 |ld1 (x:X)
 |ldn (n:Nat) (x:X)
 |nck (x:X)
 |fa (off:Nat) (x:X)
 |fd (agg:Bool) (off n:Nat) (x:X)
 |ia (sz:Nat) (x i:X)
 |iaa (len sz:Nat) (x i:X)
 |ixs (x i:X)
 |ixa (agg:Bool) (len sz:Nat) (x i:X)
 |slS (x:X) (lo hi:Option X)
 |slL (sz:Nat) (x:X) (lo hi mx:Option X)
 |mki (t:Nat) (x:X)
 |mkf (f:Q) (fs caps:List X)
 |lk (s:KK) (ok:Bool) (z:V) (m k:X)
 |lenS (x:X)
 |lenL (x:X)
 |lenM (x:X)
 |sd (x:X)
 |max (x y:X)
 |ex (i:Nat) (x:X)
 |ta (ok:Bool) (t:Nat) (z:V) (x:X)
 |bad
inductive AB where
 |al (ty n:Nat) (t:T V)
 |bx (ty n:Nat) (x:X)
 |bsl (ty sz len:Nat) (t:T V) (ps:List (Nat×X))
 |mkm
 |mks (ty sz:Nat) (z:List V) (len cap:X)
inductive WB where
 |st (n:Nat) (x y:X)
 |mu (s:KK) (m k v:X)
 |me (s:KK) (z:V) (m k:X)
 |es (m s v:X)
 |ap (ty sz:Nat) (x y:X)
 |cp (sz:Nat) (x y:X)
 |sb (x:X)
 |us (ty:Nat) (x n:X)
inductive OB where
 |p (b:PB)
 |a (b:AB)
 |w (b:WB)
 |call (f:X) (args:List X)
 |inv (ms:List (Nat×Q)) (x:X) (args:List X)
 |dfr (f:X) (args:List X)
 |dfd (s:KK) (m key:X)
 |rcv
inductive CO where
 |mk (dst:Option Q) (g:Option (Q×Bool)) (b:OB)
inductive PS where
 |op (o:CO)
 |chk (g:Option (Q×Bool)) (p:PB) (q:Q)
inductive C where
 |skip
 |reg (l:List PS)
 |seq (a b:C)
 |cond (x:X) (a b:C)
 |block (id:Nat) (c:C)
 |loop (c:C)
 |rf (x:X) (params:List Q) (BW body:C)
 |exit (id:Nat)
 |scope (c:C)
 |ret
 |bad
inductive K where
 |nil
 |code (c:C) (k:K)
 |blk (id:Nat) (k:K)
 |lp (c:C) (k:K)
 |sc (k:K)
 |reg (l:List PS) (k:K)
 |inrf (l:Q) (k:K)
 |erf (l:Q) (k:K)
 |begin (k:K)
 |rtn
inductive RV where
 |t (q:Q)
 |cell (agg:Bool) (n:Nat) (q:Q)
inductive CF where
 |none
 |mk (body:C) (rs:List RV)
 |ext (n:Nat)
inductive Jump where
 |none|ret|exit (id:Nat)
inductive Df where
 |call (f:Q) (args:List V)
 |coll (q:Q)
 |del (s:KK) (m key:V)
inductive Lp where
 |mk (st:Nat) (pend:Jump) (fn:Q) (tm:T V) (params:List Q) (BW body:C) (B8:Q)
inductive O where
 |dead
 |row (n:Nat) (t:T V) (BT:List Q) (B6:Nat) (ty:Nat) (ex:Bool)
 |ro (n:Nat) (t:T V)
 |map (es:List (V×V))
 |mapd (es:List (V×V))
 |loop (l:Lp)
 |dfd (taken:Bool)
instance:Dft O:=⟨.dead⟩
inductive Fr where
 |mk (f:Q) (dk:Bool) (rd:Option Q) (ds:List Df) (tm:T V) (k:K)
inductive AA where
 |ok (v:V)
 |bad (n:Nat)
 |fuel (f:Q) (dk:Bool) (rd:Option Q) (ds:List Df) (tm:T V) (k:K) (cs:List Fr) (h:T O) (nx:Q)
instance:Inhabited AA:=⟨.bad 0⟩
def aW(n:Nat)(k:Nat->AA):AA:=@Nat.rec (λ_=>AA) (k (nat_lit 0)) (λm _=>k (Nat.succ m)) n
def yJ(n:Int)(k:Int->AA):AA :=
 match n with
 |.ofNat m=>aW m λm=>k (.ofNat m)
 |.negSucc m=>aW m λm=>k (.negSucc m)
def gd(b:Bool)(n:Nat)(k:AA):AA :=
 match b with
 |true=>k
 |false=>.bad n
def QR.nat:QR->Nat
 |.e=>0
 |.a q=>4*q.nat+1
 |.b q=>4*q.nat+2
 |.c q=>4*q.nat+3
 |.d q=>4*q.nat+4
def QR.succ:QR->QR
 |.e=>.a .e
 |.a q=>.b q
 |.b q=>.c q
 |.c q=>.d q
 |.d q=>.a q.succ
def QR.ofF:Nat->Nat->QR
 |0,_=>.e
 |f+1,n =>
  match n with
  |0=>.e
  |m+1=>(match m%4 with
   |0=>.a (QR.ofF f (m/4))
   |1=>.b (QR.ofF f (m/4))
   |2=>.c (QR.ofF f (m/4))
   |_=>.d (QR.ofF f (m/4)))
def QR.of(n:Nat):QR:=QR.ofF n n
def QR.beq:QR->QR->Bool
 |.e,.e=>true
 |.a p,.a q=>p.beq q
 |.b p,.b q=>p.beq q
 |.c p,.c q=>p.beq q
 |.d p,.d q=>p.beq q
 |_,_=>false
section
variable {α:Type}
def QN.nt(f:α->Nat):QN α->Nat
 |.e=>0
 |.a q=>4*f q+1
 |.b q=>4*f q+2
 |.c q=>4*f q+3
 |.d q=>4*f q+4
def QN.sc(s:α->α)(z:α):QN α->QN α
 |.e=>.a z
 |.a q=>.b q
 |.b q=>.c q
 |.c q=>.d q
 |.d q=>.a (s q)
def QN.dg(r:Nat)(q:α):QN α :=
 match r with
 |0=>.a q
 |1=>.b q
 |2=>.c q
 |_=>.d q
def QN.of(f:Nat->α)(n:Nat):QN α :=
 match n with
 |0=>.e
 |m+1=>QN.dg (m%4) (f (m/4))
def QN.bq(f:α->α->Bool):QN α->QN α->Bool
 |.e,.e=>true
 |.a p,.a q=>f p q
 |.b p,.b q=>f p q
 |.c p,.c q=>f p q
 |.d p,.d q=>f p q
 |_,_=>false
end
abbrev nt1:Q1->Nat:=QN.nt QR.nat
abbrev nt2:Q2->Nat:=QN.nt nt1
abbrev nt3:Q3->Nat:=QN.nt nt2
abbrev nt4:Q4->Nat:=QN.nt nt3
abbrev nt5:Q5->Nat:=QN.nt nt4
abbrev nt6:Q6->Nat:=QN.nt nt5
abbrev nt7:Q7->Nat:=QN.nt nt6
abbrev nt8:Q8->Nat:=QN.nt nt7
abbrev nt9:Q9->Nat:=QN.nt nt8
abbrev of1:Nat->Q1:=QN.of QR.of
abbrev of2:Nat->Q2:=QN.of of1
abbrev of3:Nat->Q3:=QN.of of2
abbrev of4:Nat->Q4:=QN.of of3
abbrev of5:Nat->Q5:=QN.of of4
abbrev of6:Nat->Q6:=QN.of of5
abbrev of7:Nat->Q7:=QN.of of6
abbrev of8:Nat->Q8:=QN.of of7
abbrev of9:Nat->Q9:=QN.of of8
abbrev bq1:Q1->Q1->Bool:=QN.bq QR.beq
abbrev bq2:Q2->Q2->Bool:=QN.bq bq1
abbrev bq3:Q3->Q3->Bool:=QN.bq bq2
abbrev bq4:Q4->Q4->Bool:=QN.bq bq3
abbrev bq5:Q5->Q5->Bool:=QN.bq bq4
abbrev bq6:Q6->Q6->Bool:=QN.bq bq5
abbrev bq7:Q7->Q7->Bool:=QN.bq bq6
abbrev bq8:Q8->Q8->Bool:=QN.bq bq7
abbrev bq9:Q9->Q9->Bool:=QN.bq bq8
abbrev sc1:Q1->Q1:=QN.sc QR.succ .e
abbrev Zz:Q2->Q2:=QN.sc sc1 .e
abbrev Zy:Q3->Q3:=QN.sc Zz .e
abbrev Zx:Q4->Q4:=QN.sc Zy .e
abbrev Zw:Q5->Q5:=QN.sc Zx .e
abbrev Zv:Q6->Q6:=QN.sc Zw .e
abbrev Zu:Q7->Q7:=QN.sc Zv .e
abbrev Zt:Q8->Q8:=QN.sc Zu .e
abbrev Zs:Q9->Q9:=QN.sc Zt .e
def Q.nat(q:Q):Nat:=QN.nt nt9 q
def Q.succ(q:Q):Q:=QN.sc Zs .e q
def Q.beq(p q:Q):Bool:=QN.bq bq9 p q
def qn(n:Nat):Q:=QN.of of9 n
def TQ.get{α:Type}(z:α):TQ α->QR->α
 |.nil,_=>z
 |.nd v _ _ _ _,.e=>v
 |.nd _ a _ _ _,.a q=>a.get z q
 |.nd _ _ b _ _,.b q=>b.get z q
 |.nd _ _ _ c _,.c q=>c.get z q
 |.nd _ _ _ _ d,.d q=>d.get z q
def TQ.put{α:Type}(z:α)(v:α):QR->TQ α->TQ α
 |.e,.nil=>.nd v .nil .nil .nil .nil
 |.e,.nd _ a b c d=>.nd v a b c d
 |.a q,.nil=>.nd z (TQ.put z v q .nil) .nil .nil .nil
 |.a q,.nd u a b c d=>.nd u (TQ.put z v q a) b c d
 |.b q,.nil=>.nd z .nil (TQ.put z v q .nil) .nil .nil
 |.b q,.nd u a b c d=>.nd u a (TQ.put z v q b) c d
 |.c q,.nil=>.nd z .nil .nil (TQ.put z v q .nil) .nil
 |.c q,.nd u a b c d=>.nd u a b (TQ.put z v q c) d
 |.d q,.nil=>.nd z .nil .nil .nil (TQ.put z v q .nil)
 |.d q,.nd u a b c d=>.nd u a b c (TQ.put z v q d)
def N5.gt{α β U:Type}(g:β->U->α):N5 α β->QN U->α
 |t,.e=>t.v
 |t,.a q=>g t.a q
 |t,.b q=>g t.b q
 |t,.c q=>g t.c q
 |t,.d q=>g t.d q
def N5.pt{α β U:Type}(p:U->β->β)(v:α):QN U->N5 α β->N5 α β
 |.e,.mk _ a b c d=>.mk v a b c d
 |.a q,.mk u a b c d=>.mk u (p q a) b c d
 |.b q,.mk u a b c d=>.mk u a (p q b) c d
 |.c q,.mk u a b c d=>.mk u a b (p q c) d
 |.d q,.mk u a b c d=>.mk u a b c (p q d)
section
variable {α:Type}[Dft α]
def Tk:T1 α:=.mk Dft.z .nil .nil .nil .nil
def Tj:T2 α:=.mk Dft.z Tk Tk Tk Tk
def Ti:T3 α:=.mk Dft.z Tj Tj Tj Tj
def Th:T4 α:=.mk Dft.z Ti Ti Ti Ti
def Tt:T5 α:=.mk Dft.z Th Th Th Th
def Ts:T6 α:=.mk Dft.z Tt Tt Tt Tt
def Tr:T7 α:=.mk Dft.z Ts Ts Ts Ts
def Tq:T8 α:=.mk Dft.z Tr Tr Tr Tr
def wC:T9 α:=.mk Dft.z Tq Tq Tq Tq
def T.nil:T α:=N5.mk Dft.z wC wC wC wC
abbrev g1:T1 α->Q1->α:=N5.gt (TQ.get Dft.z)
abbrev g2:T2 α->Q2->α:=N5.gt g1
abbrev g3:T3 α->Q3->α:=N5.gt g2
abbrev g4:T4 α->Q4->α:=N5.gt g3
abbrev g5:T5 α->Q5->α:=N5.gt g4
abbrev g6:T6 α->Q6->α:=N5.gt g5
abbrev g7:T7 α->Q7->α:=N5.gt g6
abbrev g8:T8 α->Q8->α:=N5.gt g7
abbrev g9:T9 α->Q9->α:=N5.gt g8
def T.get(_:α)(t:T α)(q:Q):α:=N5.gt g9 t q
abbrev p1(v:α):Q1->T1 α->T1 α:=N5.pt (TQ.put Dft.z v) v
abbrev p2(v:α):Q2->T2 α->T2 α:=N5.pt (p1 v) v
abbrev p3(v:α):Q3->T3 α->T3 α:=N5.pt (p2 v) v
abbrev p4(v:α):Q4->T4 α->T4 α:=N5.pt (p3 v) v
abbrev p5(v:α):Q5->T5 α->T5 α:=N5.pt (p4 v) v
abbrev p6(v:α):Q6->T6 α->T6 α:=N5.pt (p5 v) v
abbrev p7(v:α):Q7->T7 α->T7 α:=N5.pt (p6 v) v
abbrev p8(v:α):Q8->T8 α->T8 α:=N5.pt (p7 v) v
abbrev p9(v:α):Q9->T9 α->T9 α:=N5.pt (p8 v) v
def T.put(_:α)(v:α)(q:Q)(t:T α):T α:=N5.pt (p9 v) v q t
end
def Jz(n:Nat)(k:Q->AA):AA:=k (qn n)
def mW(q:Q)(k:Q->AA):AA:=k q.succ
def XY{α:Type}[Dft α](z:α)(q:Q)(t:T α)(k:α->AA):AA:=k (t.get z q)
def XO{α:Type}[Dft α](z:α)(v:α)(q:Q)(t:T α)(k:T α->AA):AA:=k (t.put z v q)
def XX(q:Q)(fe:Q->CF)(k:CF->AA):AA:=k (fe q)
abbrev gV(q:Q)(t:T V)(k:V->AA):AA:=XY V.undef q t k
abbrev pV(v:V)(q:Q)(t:T V)(k:T V->AA):AA:=XO V.undef v q t k
abbrev gO(q:Q)(h:T O)(k:O->AA):AA:=XY O.dead q h k
abbrev pO(v:O)(q:Q)(h:T O)(k:T O->AA):AA:=XO O.dead v q h k
def T.ofListF(z:V):List V->Q->T V->T V
 |[],_,t=>t
 |v::vs,q,t=>T.ofListF z vs q.succ (t.put z v q)
def T.ofList(vs:List V):T V:=T.ofListF V.undef vs .e .nil
def kE(vs:List V)(i:Nat)(t:T V)(k:T V->AA):AA :=
 @List.rec V (λ_=>Nat->T V->(T V->AA)->AA) (λ_ t k=>k t) (λv _ ih i t k=>Jz i λq=>pV v q t λt'=>aW (i+1) λi'=>ih i' t' k) vs i t k
def vE(n:Nat)(i:Nat)(t:T V)(k:List V->AA):AA :=
 @Nat.rec (λ_=>Nat->(List V->AA)->AA) (λ_ k=>k []) (λ_ ih i k=>Jz i λq=>gV q t λv=>aW (i+1) λi'=>ih i' λl=>k (v::l)) n i k
def qX{α:Type}(l:List α)(k:Nat->AA):AA :=
 @List.rec α (λ_=>(Nat->AA)->AA) (λk=>k 0) (λ_ _ ih k=>ih λn=>aW (n+1) k) l k
def ym{α:Type}(l:List α)(n:Nat)(k:α->AA):AA :=
 @List.rec α (λ_=>Nat->AA) (λ_=>.bad 1) (λv _ ih n=>@Nat.rec (λ_=>AA) (k v) (λm _=>ih m) n) l n
def xK(x:X)(tm:T V)(k:V->AA):AA :=
 match x with
 |.t q=>gV q tm k
 |.c v=>k v
 |.bad=>.bad 2
def H4(xs:List X)(tm:T V)(k:List V->AA):AA :=
 @List.rec X (λ_=>(List V->AA)->AA) (λk=>k []) (λx _ ih k=>xK x tm λv=>ih λl=>k (v::l)) xs k
def MZ(v:V)(k:IntKind->Int->AA):AA :=
 match v with
 |.int kd n=>k kd n
 |_=>.bad 3
def Jv(v:V)(k:Bool->AA):AA :=
 match v with
 |.bool b=>k b
 |_=>.bad 4
def H3(v:V)(k:Nat->AA):AA :=
 match v with
 |.int _ n=>(match n with
  |.ofNat m=>k m
  |.negSucc _=>.bad 5)
 |_=>.bad 6
def II(v:V)(k:Q->Nat->AA):AA :=
 match v with
 |.ptr o off=>k o off
 |_=>.bad 7
def JN(v:V)(k:Nat->Nat->AA):AA :=
 match v with
 |.str l n=>k l n
 |_=>.bad 8
def ON(v:V)(k:List V->AA):AA :=
 match v with
 |.agg l=>k l
 |_=>.bad 9
def br(o:O)(k:Nat->T V->AA):AA :=
 match o with
 |.row n t _ _ _ _=>k n t
 |.ro n t=>k n t
 |_=>.bad 10
def rW(o:O)(k:List (V×V)->AA):AA :=
 match o with
 |.map es=>k es
 |.mapd es=>k es
 |_=>.bad 11
def R9(o:O)(k:List (V×V)->AA):AA :=
 match o with
 |.map es=>k es
 |_=>.bad 11
def RR(o:O)(es:List (V×V)):O :=
 match o with
 |.map _=>.map es
 |_=>.mapd es
def Ja(k:IntKind):Nat :=
 match k with
 |.i8=>0|.i16=>1|.i32=>2|.i64=>3|.u8=>4|.u16=>5|.u32=>6|.u64=>7
def LD(k:IntKind):Nat :=
 match k with
 |.i8=>127|.i16=>32767|.i32=>2147483647|.i64=>9223372036854775807|.u8=>255|.u16=>65535|.u32=>4294967295|.u64=>18446744073709551615
def jH(k:IntKind)(n:Int)(kn:Int->AA):AA :=
 match n with
 |.ofNat m=>aW m λm=>(match Nat.ble m (LD k) with
  |true=>kn (.ofNat m)
  |false=>yJ (k.wrap (.ofNat m)) kn)
 |.negSucc m=>yJ (k.wrap (.negSucc m)) kn
def zk(x y:Int):Int :=
 match x,y with
 |.ofNat a,.ofNat b=>(match Nat.ble b a with
  |true=>.ofNat (a-b)
  |false=>.negSucc (b-a-1))
 |x,y=>x-y
def Tv(x y:Int):Int :=
 match x,y with
 |.ofNat a,.ofNat b=>.ofNat (a+b)
 |x,y=>x+y
def X3(x y:Int):Int :=
 match x,y with
 |.ofNat a,.ofNat b=>.ofNat (a*b)
 |x,y=>x*y
def LB(x y:Int):Bool :=
 match x,y with
 |.ofNat a,.ofNat b=>Nat.ble a b
 |.ofNat _,.negSucc _=>false
 |.negSucc _,.ofNat _=>true
 |.negSucc a,.negSucc b=>Nat.ble b a
def Ll(x y:Int):Bool :=
 match x,y with
 |.ofNat a,.ofNat b=>Nat.beq a b
 |.negSucc a,.negSucc b=>Nat.beq a b
 |_,_=>false
def bK(b:Bool)(k:V->AA):AA :=
 match b with
 |true=>k (.bool true)
 |false=>k (.bool false)
def rA(l:Nat):Nat:=Nat.pow 2 (8*l)
def rM(op:BinOp)(kd:IntKind)(x y:Int)(k:V->AA):AA :=
 match op with
 |.add=>jH kd (Tv x y) λn=>k (.int kd n)
 |.sub=>jH kd (zk x y) λn=>k (.int kd n)
 |.mul=>jH kd (X3 x y) λn=>k (.int kd n)
 |.rem=>gd (!Ll y 0) 12 (yJ (x.tmod y) λn=>k (.int kd n))
 |.eql=>bK (Ll x y) k
 |.neq=>bK (!Ll x y) k
 |.lss=>bK (!LB y x) k
 |.leq=>bK (LB x y) k
 |.gtr=>bK (!LB x y) k
 |.geq=>bK (LB y x) k
 |_=>.bad 13
def OV(op:BinOp)(l n m j:Nat)(k:V->AA):AA :=
 match op with
 |.add=>gd (Nat.ble (l+m) 4294967296) 14 (aW (l+m) λl'=>aW (n+j*rA l) λn'=>k (.str l' n'))
 |.eql=>bK (Nat.beq l m&&Nat.beq n j) k
 |.neq=>bK (!(Nat.beq l m&&Nat.beq n j)) k
 |_=>.bad 15
def xn(op:BinOp)(a b:V)(k:V->AA):AA :=
 match a with
 |.int kd x=>(match b with
  |.int HB y=>gd (Nat.beq (Ja kd) (Ja HB)) 16 (rM op kd x y k)
  |_=>.bad 17)
 |.str l n=>(match b with
  |.str m j=>OV op l n m j k
  |_=>.bad 18)
 |_=>.bad 19
def yZ(o:O):Bool :=
 match o with
 |.row _ _ _ _ _ _=>true
 |_=>false
def Ib(h:T O)(o:Q)(off:Nat)(o':Q)(DG:Nat)(k:Bool->AA):AA :=
 match o.beq o' with
 |true=>(match Nat.beq off DG with
  |true=>k true
  |false=>gO o h λx=>gd (yZ x) 20 (k false))
 |false=>gO o h λx=>gO o' h λy=>gd (yZ x&&yZ y) 20 (k false)
def GR(m:EqM)(h:T O)(a b:V)(k:Bool->AA):AA :=
 match m with
 |.nilS=>(match a with
  |.nils=>k true
  |.sl _ _ _ _=>k false
  |.su _ _ _ _=>k false
  |.se=>k false
  |_=>.bad 21)
 |.nilM=>(match a with
  |.nilm=>k true
  |.map _=>k false
  |_=>.bad 21)
 |.nilF=>(match a with
  |.nilf=>k true
  |.fn _ _ _=>k false
  |.yld _=>k false
  |_=>.bad 21)
 |.nilI=>(match a with
  |.nili=>k true
  |.ifc _ _=>k false
  |_=>.bad 21)
 |.bool=>Jv a λx=>Jv b λy=>k (x==y)
 |.ptr=>(match a with
  |.nilp=>(match b with
   |.nilp=>k true
   |.ptr _ _=>k false
   |_=>.bad 23)
  |.ptr o off=>(match b with
   |.nilp=>k false
   |.ptr o' DG=>Ib h o off o' DG k
   |_=>.bad 24)
  |_=>.bad 25)
def iO(v:V):List V :=
 match v with
 |.agg l=>l
 |v=>[v]
def JM(v:V)(k:List V->AA):AA :=
 match v with
 |.agg l=>k l
 |.tup _=>.bad 110
 |.bot=>.bad 111
 |v=>k [v]
def qE:List V->Nat->List V->(List V->AA)->AA
 |[],off,new,k=>(match off with
  |0=>(match new with
   |[]=>k []
   |_=>.bad 26)
  |_+1=>.bad 27)
 |x::r,off,new,k=>(match off with
  |off+1=>qE r off new λl'=>k (x::l')
  |0=>(match new with
   |[]=>k (x::r)
   |v::vs=>qE r 0 vs λl'=>k (v::l')))
def gm(tm:T V):List (Nat×Nat×X)->List V->(List V->AA)->AA
 |[],l,k=>k l
 |(off,n,x)::ps,l,k=>xK x tm λv=>JM v λc=>qX c λm=>gd (Nat.beq m n) 28 (qE l off c λl'=>gm tm ps l' k)
def qK(n:Nat)(l:List V)(k:List V->AA):AA :=
 match n with
 |0=>k []
 |n+1=>(match l with
  |[]=>.bad 30
  |v::r=>qK n r λl'=>k (v::l'))
def vQ(off n:Nat)(l:List V)(k:List V->AA):AA :=
 match off with
 |0=>qK n l k
 |off+1=>(match l with
  |[]=>.bad 31
  |_::r=>vQ off n r k)
def N9(agg:Bool)(off n:Nat)(l:List V)(k:V->AA):AA :=
 match agg with
 |true=>vQ off n l λl'=>k (.agg l')
 |false=>ym l off k
def zH(x:Option X)(tm:T V)(d:Nat)(k:Nat->AA):AA :=
 match x with
 |none=>k d
 |some x=>xK x tm λv=>H3 v k
def hU(f:FK)(x y:V)(k:Bool->AA):AA :=
 match f with
 |.b=>(match x with
  |.bool a=>(match y with
   |.bool b=>k (a==b)
   |_=>.bad 37)
  |_=>.bad 37)
 |.s=>(match x with
  |.str l n=>(match y with
   |.str m j=>k (Nat.beq l m&&Nat.beq n j)
   |_=>.bad 37)
  |_=>.bad 37)
 |.i=>(match x with
  |.int kd a=>(match y with
   |.int HB b=>gd (Nat.beq (Ja kd) (Ja HB)) 37 (k (Ll a b))
   |_=>.bad 37)
  |_=>.bad 37)
def gK:List FK->List V->List V->(Bool->AA)->AA
 |[],[],[],k=>k true
 |f::fs,x::xs,y::ys,k=>hU f x y λb=>(match b with
  |true=>gK fs xs ys k
  |false=>k false)
 |_,_,_,_=>.bad 37
def eC(s:KK)(h:T O)(x y:V)(k:Bool->AA):AA :=
 match s with
 |.str=>(match x with
  |.str l n=>(match y with
   |.str m j=>k (Nat.beq l m&&Nat.beq n j)
   |_=>.bad 32)
  |_=>.bad 35)
 |.int=>(match x with
  |.int kd a=>(match y with
   |.int HB b=>gd (Nat.beq (Ja kd) (Ja HB)) 33 (k (Ll a b))
   |_=>.bad 34)
  |_=>.bad 35)
 |.st fs=>(match x with
  |.agg l=>(match y with
   |.agg m=>gK fs l m k
   |_=>.bad 34)
  |_=>.bad 35)
 |.ptr=>(match x with
  |.ptr o a=>(match y with
   |.ptr o' b=>Ib h o a o' b k
   |_=>.bad 34)
  |_=>.bad 35)
def hY(s:KK)(x:V)(k:AA):AA :=
 match s with
 |.st fs=>(match x with
  |.agg cs=>qX cs λn=>qX fs λm=>gd (Nat.beq n m) 38 k
  |_=>.bad 38)
 |_=>k
def fZ(s:KK)(h:T O)(x:V):List (V×V)->(V->AA)->AA->AA
 |[],_,kn=>kn
 |(y,v)::es,k,kn=>eC s h x y λb=>match b with
  |true=>k v
  |false=>fZ s h x es k kn
def mP(s:KK)(h:T O)(x:V)(f:V->V)(z:V):List (V×V)->Nat->(List (V×V)->Nat->V->AA)->AA
 |[],i,k=>k [(x,f z)] i z
 |(y,u)::es,i,k=>eC s h x y λb=>match b with
  |true=>k ((x,f u)::es) i u
  |false=>aW (i+1) λi'=>mP s h x f z es i' λes' j w=>k ((y,u)::es') j w
def ig(s:KK)(h:T O)(x:V):List (V×V)->(List (V×V)->AA)->AA
 |[],k=>k []
 |(y,u)::es,k=>eC s h x y λb=>match b with
  |true=>k es
  |false=>ig s h x es λes'=>k ((y,u)::es')
def OO(v:V):Nat->List (V×V)->(List (V×V)->AA)->AA
 |_,[],_=>.bad 36
 |0,(y,_)::es,k=>k ((y,v)::es)
 |i+1,e::es,k=>OO v i es λes'=>k (e::es')
def x9(sz:Nat)(v:V)(i:Nat)(k:V->AA):AA :=
 match v with
 |.sl o off len _=>gd (Nat.blt i len) 36 (aW (off+i*sz) λa=>k (.ptr o a))
 |.su o off len _=>gd (Nat.blt i len) 37 (aW (off+i*sz) λa=>k (.ptr o a))
 |_=>.bad 38
def mi(v:V)(k:Nat->AA):AA :=
 match v with
 |.nils=>k 0
 |.sl _ _ len _=>k len
 |.su _ _ len _=>k len
 |.se=>k 0
 |_=>.bad 39
def bg(sz:Nat)(v:V)(lo:Nat)(hi:Nat)(mx:Option Nat)(k:V->AA):AA :=
 match v with
 |.nils=>gd (Nat.beq lo 0&&Nat.beq hi 0&&(match mx with|none=>true|some m=>Nat.beq m 0)) 40 (k .nils)
 |.sl o off len cap=>(match mx with
  |none=>gd (Nat.ble lo hi&&Nat.ble hi cap) 41 (aW (hi-lo) λl=>aW (cap-lo) λc=>(match Nat.beq lo cap with
   |true=>k (.sl o off l c)
   |false=>aW (off+lo*sz) λa=>k (.sl o a l c)))
  |some m=>gd (Nat.ble lo hi&&Nat.ble hi m&&Nat.ble m cap) 42 (aW (hi-lo) λl=>aW (m-lo) λc=>(match Nat.beq lo m with
   |true=>k (.sl o off l c)
   |false=>aW (off+lo*sz) λa=>k (.sl o a l c))))
 |.su o off len EK=>(match mx with
  |none=>gd (Nat.beq sz EK&&Nat.ble lo hi&&Nat.ble hi len) 43 (match Nat.blt lo len with
   |true=>aW (hi-lo) λl=>aW (off+lo*sz) λa=>k (.su o a l sz)
   |false=>(match Nat.beq lo 0 with
    |true=>k (.su o off 0 sz)
    |false=>k .se))
  |some m=>gd (Nat.ble lo hi&&Nat.ble hi m&&Nat.ble m len) 44 (aW (hi-lo) λl=>aW (m-lo) λc=>(match Nat.beq lo m with
   |true=>k (.sl o off l c)
   |false=>aW (off+lo*sz) λa=>k (.sl o a l c))))
 |.se=>(match mx with
  |none=>gd (Nat.beq lo 0&&Nat.beq hi 0) 45 (k .se)
  |some _=>.bad 45)
 |_=>.bad 45
def J8(h:T O)(o:Q)(off:Nat)(k:V->AA):AA :=
 gO o h λob=>br ob λn t=>gd (Nat.blt off n) 46 (Jz off λq=>gV q t k)
def nP(h:T O)(o:Q)(off n:Nat)(k:List V->AA):AA :=
 gO o h λob=>br ob λm t=>gd (Nat.ble (off+n) m) 47 (vE n off t k)
def zX(ok:Bool)(z:V)(k:V->AA):AA :=
 match ok with
 |true=>k (.tup [z,.bool false])
 |false=>.bad 120
def Of(ok:Bool)(t:Nat)(z:V)(v:V)(k:V->AA):AA :=
 match v with
 |.ifc t' u=>(match Nat.beq t' t with
  |true=>(match ok with
   |true=>k (.tup [u,.bool true])
   |false=>k u)
  |false=>zX ok z k)
 |.nili=>zX ok z k
 |_=>.bad 121
def pK(b:PB)(tm:T V)(h:T O)(k:V->AA):AA :=
 match b with
 |.mv x=>xK x tm k
 |.pick c x y=>xK c tm λv=>Jv v λt=>(match t with
  |true=>xK x tm k
  |false=>xK y tm k)
 |.bin op x y=>xK x tm λa=>xK y tm λb=>xn op a b k
 |.eq neg m x y=>xK x tm λa=>xK y tm λb=>GR m h a b λt=>bK (neg != t) k
 |.not x=>xK x tm λv=>Jv v λt=>bK (!t) k
 |.neg x=>xK x tm λv=>MZ v λkd n=>jH kd (zk 0 n) λn'=>k (.int kd n')
 |.cvi kd x=>xK x tm λv=>MZ v λ_ n=>jH kd n λn'=>k (.int kd n')
 |.cis x=>xK x tm λv=>H3 v λn=>gd (Nat.blt n 128) 113 (k (.str 1 n))
 |.ctu x=>xK x tm λv=>(match v with
  |.nilp=>k .nilp
  |.ptr o off=>gO o h λob=>br ob λn _=>gd (Nat.blt off n) 118 (k (.ptr o off))
  |_=>.bad 118)
 |.cfu ty n x=>xK x tm λv=>(match v with
  |.nilp=>k .nilp
  |.ptr o off=>gO o h λob=>(match ob with
   |.row m _ _ _ E5 ex=>gd (Nat.beq off 0&&Nat.beq m n&&Nat.beq ty E5&&ex) 119 (k (.ptr o off))
   |_=>.bad 119)
  |_=>.bad 119)
 |.cvs x=>xK x tm λv=>JN v λl n=>k (.str l n)
 |.bld z ps=>gm tm ps z λl=>k (.agg l)
 |.ld1 x=>xK x tm λv=>II v λo off=>J8 h o off k
 |.ldn n x=>xK x tm λv=>II v λo off=>nP h o off n λl=>k (.agg l)
 |.nck x=>xK x tm λv=>(match v with
  |.ptr o off=>k (.ptr o off)
  |.fn f fs cs=>k (.fn f fs cs)
  |.ifc t u=>k (.ifc t u)
  |.yld l=>k (.yld l)
  |_=>.bad 48)
 |.fa off x=>xK x tm λv=>II v λo a=>aW (a+off) λa'=>k (.ptr o a')
 |.fd agg off n x=>xK x tm λv=>ON v λl=>N9 agg off n l k
 |.ia sz x i=>xK x tm λv=>xK i tm λj=>H3 j λj=>x9 sz v j k
 |.iaa len sz x i=>xK x tm λv=>xK i tm λj=>H3 j λj=>II v λo a=>gd (Nat.blt j len) 49 (aW (a+j*sz) λa'=>k (.ptr o a'))
 |.ixs x i=>xK x tm λv=>xK i tm λj=>H3 j λj=>JN v λl n=>gd (Nat.blt j l) 50 (aW (n/rA j%256) λc=>k (.int .u8 (.ofNat c)))
 |.ixa agg len sz x i=>xK x tm λv=>xK i tm λj=>H3 j λj=>ON v λl=>gd (Nat.blt j len) 51 (aW (j*sz) λa=>N9 agg a sz l k)
 |.slS x lo hi=>xK x tm λv=>JN v λl n=>zH lo tm 0 λa=>zH hi tm l λb=>gd (Nat.ble a b&&Nat.ble b l) 52 (aW (b-a) λl'=>aW (n/rA a%rA (b-a)) λn'=>k (.str l' n'))
 |.slL sz x lo hi mx=>xK x tm λv=>mi v λlen=>zH lo tm 0 λa=>zH hi tm len λb=>(match mx with
  |none=>bg sz v a b none k
  |some m=>xK m tm λm=>H3 m λm=>bg sz v a b (some m) k)
 |.mki t x=>xK x tm λv=>k (.ifc t v)
 |.mkf f fs caps=>H4 fs tm λl=>H4 caps tm λm=>k (.fn f l m)
 |.lk s ok z m key=>xK m tm λm=>xK key tm λx=>hY s x (match m with
  |.nilm=>(match ok with
   |true=>k (.tup [z,.bool false])
   |false=>k z)
  |.map o=>gO o h λob=>rW ob λes=>(match ok with
   |true=>fZ s h x es (λv=>k (.tup [v,.bool true])) (k (.tup [z,.bool false]))
   |false=>fZ s h x es k (k z))
  |_=>.bad 53)
 |.lenS x=>xK x tm λv=>JN v λl _=>k (.int .i64 (.ofNat l))
 |.lenL x=>xK x tm λv=>mi v λl=>k (.int .i64 (.ofNat l))
 |.lenM x=>xK x tm λv=>(match v with
  |.nilm=>k (.int .i64 (.ofNat 0))
  |.map o=>gO o h λob=>rW ob λes=>qX es λn=>k (.int .i64 (.ofNat n))
  |_=>.bad 54)
 |.sd x=>xK x tm λv=>(match v with
  |.nils=>k .nilp
  |.sl o off (_+1) _=>k (.ptr o off)
  |.su o off (_+1) _=>k (.ptr o off)
  |_=>.bad 114)
 |.max x y=>xK x tm λa=>xK y tm λb=>MZ a λka n=>MZ b λ_ m=>(match LB m n with
  |true=>k (.int ka n)
  |false=>k (.int ka m))
 |.ex i x=>xK x tm λv=>(match v with
  |.tup l=>ym l i k
  |_=>.bad 55)
 |.ta ok t z x=>xK x tm λv=>Of ok t z v k
 |.bad=>.bad 56
def vY(tm:T V)(sz:Nat):List (Nat×X)->T V->(T V->AA)->AA
 |[],t,k=>k t
 |(i,x)::ps,t,k=>xK x tm λv=>JM v λc=>qX c λm=>gd (Nat.beq m sz) 57 (kE c (i*sz) t λt'=>vY tm sz ps t' k)
def zy(z:List V)(n i:Nat)(t:T V)(k:T V->AA):AA :=
 @Nat.rec (λ_=>Nat->T V->(T V->AA)->AA) (λ_ t k=>k t) (λ_ ih i t k=>kE z i t λt'=>qX z λm=>aW (i+m) λi'=>ih i' t' k) n i t k
def aK(b:AB)(tm:T V)(k:O->(Q->V)->AA):AA :=
 match b with
 |.al ty n t=>k (.row n t [] 0 ty true) λq=>.ptr q 0
 |.bx ty n x=>xK x tm λv=>JM v λc=>qX c λm=>gd (Nat.beq m n) 58 (kE c 0 .nil λt=>k (.row n t [] 0 ty true) λq=>.ptr q 0)
 |.bsl ty sz len t ps=>vY tm sz ps t λt'=>aW (len*sz) λn=>k (.row n t' [] 0 ty true) λq=>.sl q 0 len len
 |.mkm=>k (.map []) λq=>.map q
 |.mks ty sz z len cap=>xK len tm λl=>H3 l λl=>xK cap tm λc=>H3 c λc=>gd (Nat.ble l c&&Nat.ble c 16777216) 59 (zy z c 0 .nil λt=>aW (c*sz) λn=>k (.row n t [] 0 ty true) λq=>.sl q 0 l c)
def yU:List Q->T O->(T O->AA)->AA
 |[],h,k=>k h
 |q::qs,h,k=>pO .dead q h λh'=>yU qs h' k
def Hv(o:Q)(off:Nat)(vs:List V)(h:T O)(k:T O->AA):AA :=
 gO o h λob=>match ob with
  |.row n t BT B6 ty ex=>qX vs λm=>gd (Nat.ble (off+m) n) 60 (kE vs off t λt'=>(match Nat.ble B6 off with
   |true=>pO (.row n t' BT B6 ty ex) o h k
   |false=>yU BT h λh'=>pO (.row n t' [] 0 ty ex) o h' k))
  |_=>.bad 61
def MY:Nat->Nat->(List V->AA)->AA
 |0,_,k=>k []
 |l+1,n,k=>aW (n%256) λc=>aW (n/256) λn'=>MY l n' λcs=>k (.int .u8 (.ofNat c)::cs)
def jL(sz:Nat)(v:V)(h:T O)(k:Nat->List V->AA):AA :=
 match v with
 |.nils=>k 0 []
 |.sl o off len _=>(match len with
  |0=>k 0 []
  |len=>nP h o off (len*sz) λl=>k len l)
 |.su o off len _=>(match len with
  |0=>k 0 []
  |len=>nP h o off (len*sz) λl=>k len l)
 |.se=>k 0 []
 |.str l n=>gd (Nat.beq sz 1) 62 (MY l n λcs=>k l cs)
 |_=>.bad 62
def pY(ty sz:Nat)(len m:Nat)(old new:List V)(h:T O)(nx:Q)(k:V->T O->Q->AA):AA :=
 gd (Nat.ble (len+m) 4294967296) 112 <| kE old 0 .nil λt=>kE new (len*sz) t λt'=>aW ((len+m)*sz) λn=>aW (len+m) λl=>pO (.row n t' [] 0 ty false) nx h λh'=>mW nx λnx'=>k (.su nx 0 l sz) h' nx'
def K4(ty sz:Nat)(a:V)(m:Nat)(new:List V)(h:T O)(nx:Q)(k:V->T O->Q->AA):AA :=
 match a with
 |.nils=>(match m with
  |0=>k .nils h nx
  |m=>pY ty sz 0 m [] new h nx k)
 |.sl o off len cap=>(match Nat.ble (len+m) cap with
  |true=>(match m with
   |0=>k (.sl o off len cap) h nx
   |m=>Hv o (off+len*sz) new h λh'=>aW (len+m) λl=>k (.sl o off l cap) h' nx)
  |false=>jL sz (.sl o off len cap) h λ_ old=>pY ty sz len m old new h nx k)
 |.su o off len EK=>gd (Nat.beq sz EK) 63 (match m with
  |0=>k (.su o off len sz) h nx
  |m=>gO o h λob=>(match ob with
   |.row n t BT B6 E5 ex=>(match Nat.ble (off+(len+m)*sz) n with
    |true=>Hv o (off+len*sz) new h λh'=>aW (len+m) λl=>k (.su o off l sz) h' nx
    |false=>gd (Nat.beq (off+len*sz) n&&Nat.beq off 0&&Nat.beq ty E5&&Nat.ble (len+m) 4294967296) 64 (kE new n t λt'=>aW (n+m*sz) λn'=>aW (len+m) λl=>pO (.ro n t) o h λh'=>pO (.row n' t' (o::BT) n E5 false) nx h' λMT=>mW nx λnx'=>k (.su nx off l sz) MT nx'))
   |_=>.bad 65))
 |_=>.bad 66
def Ol:List V->(Nat->AA)->AA
 |[],k=>k 0
 |v::r,k=>(match v with
  |.int .u8 (.ofNat c)=>gd (Nat.blt c 256) 115 (Ol r λn=>aW (c+256*n) k)
  |_=>.bad 115)
def wK(b:WB)(tm:T V)(h:T O)(nx:Q)(k:V->T O->Q->AA):AA :=
 match b with
 |.st n x y=>xK x tm λp=>II p λo off=>xK y tm λv=>JM v λc=>qX c λm=>gd (Nat.beq m n) 67 (Hv o off c h λh'=>k V.undef h' nx)
 |.mu s m key x=>xK m tm λm=>xK key tm λkv=>xK x tm λv=>hY s kv (match m with
  |.map o=>gO o h λob=>rW ob λes=>mP s h kv (λ_=>v) v es 0 λes' _ _=>pO (RR ob es') o h λh'=>k V.undef h' nx
  |_=>.bad 68)
 |.me s z m key=>xK m tm λm=>xK key tm λkv=>hY s kv (match m with
  |.map o=>gO o h λob=>R9 ob λes=>mP s h kv (λu=>u) z es 0 λes' i u=>pO (.map es') o h λh'=>k (.tup [u,.int .i64 (.ofNat i)]) h' nx
  |_=>.bad 69)
 |.es m s x=>xK m tm λm=>xK s tm λs=>H3 s λi=>xK x tm λv=>(match m with
  |.map o=>gO o h λob=>R9 ob λes=>OO v i es λes'=>pO (.map es') o h λh'=>k V.undef h' nx
  |_=>.bad 70)
 |.ap ty sz x y=>xK x tm λa=>xK y tm λb=>jL sz b h λm new=>gd (Nat.ble m 16777216) 71 (K4 ty sz a m new h nx k)
 |.us ty x n=>xK x tm λv=>xK n tm λw=>(match w with
  |.int .i64 (.ofNat l)=>(match v with
   |.nilp=>gd (Nat.beq l 0) 116 (k (.str 0 0) h nx)
   |.ptr o off=>gd (Nat.blt 0 l&&Nat.beq off 0&&Nat.ble l 9223372036854775807) 116 (gO o h λob=>(match ob with
    |.row m t _ _ E5 _=>gd (Nat.ble l m&&Nat.beq ty E5) 117 (vE l 0 t λcs=>Ol cs λn=>pO (.ro m t) o h λh'=>k (.str l n) h' nx)
    |_=>.bad 117))
   |_=>.bad 116)
  |_=>.bad 116)
 |.sb x=>xK x tm λv=>JN v λl n=>MY l n λcs=>kE cs 0 .nil λt=>pO (.ro l t) nx h λh'=>mW nx λnx'=>k (.su nx 0 l 1) h' nx'
 |.cp sz x y=>xK x tm λa=>xK y tm λb=>mi a λn=>jL sz b h λm new=>gd (Nat.beq n m) 72 (match a with
  |.sl o off _ _=>Hv o off new h λh'=>k (.int .i64 (.ofNat n)) h' nx
  |.su o off _ _=>Hv o off new h λh'=>k (.int .i64 (.ofNat n)) h' nx
  |_=>.bad 73)
def Sp(a b:V):Bool :=
 match a,b with
 |.bool x,.bool y=>x==y
 |.int k x,.int k' y=>Nat.beq (Ja k) (Ja k')&&Ll x y
 |.str l n,.str m j=>Nat.beq l m&&Nat.beq n j
 |.nilp,.nilp=>true
 |.ptr o x,.ptr p y=>o.beq p&&Nat.beq x y
 |.nils,.nils=>true
 |.sl o x l c,.sl p y m d=>o.beq p&&Nat.beq x y&&Nat.beq l m&&Nat.beq c d
 |.su o x l c,.su p y m d=>o.beq p&&Nat.beq x y&&Nat.beq l m&&Nat.beq c d
 |.nilm,.nilm=>true
 |.map o,.map p=>o.beq p
 |.nilf,.nilf=>true
 |.yld o,.yld p=>o.beq p
 |.nili,.nili=>true
 |_,_=>false
def Nb:List V->List V->Bool
 |[],[]=>true
 |a::l,b::m=>(match Sp a b with
  |true=>Nb l m
  |false=>false)
 |_,_=>false
def MW(a b:V):Bool :=
 match a with
 |.agg l=>(match b with
  |.agg m=>Nb l m
  |_=>false)
 |.tup l=>(match b with
  |.tup m=>Nb l m
  |_=>false)
 |.fn f l l'=>(match b with
  |.fn g m m'=>f.beq g&&(Nb l m&&Nb l' m')
  |_=>false)
 |a=>Sp a b
abbrev E9:=Q->Bool->Option Q->List Df->T V->K->List Fr->T O->Q->AA
def rB(dst:Option Q)(v:V)(tm:T V)(k:T V->AA):AA :=
 match dst with
 |some q=>pV v q tm k
 |none=>k tm
def qR(ih:E9)(fr:Fr)(cs:List Fr)(v:V)(h:T O)(nx:Q):AA :=
 match fr with
 |.mk f dk rd ds tm k=>(match k with
  |.reg l k=>(match l with
   |.op (.mk dst _ _)::l'=>rB dst v tm λBA=>ih f dk rd ds BA (.reg l' k) cs h nx
   |_=>.bad 80)
  |.inrf l k=>ih f dk rd ds tm (.erf l k) cs h nx
  |_=>.bad 81)
def iV(tm:T V)(h:T O):List RV->(List V->AA)->AA
 |[],k=>k []
 |.t q::r,k=>gV q tm λv=>iV tm h r λl=>k (v::l)
 |.cell agg n q::r,k=>gV q tm λp=>II p λo off=>(match agg with
  |true=>nP h o off n λl=>iV tm h r λl'=>k (.agg l::l')
  |false=>J8 h o off λv=>iV tm h r λl'=>k (v::l'))
def Tp(l:List V):V :=
 match l with
 |[v]=>v
 |l=>.tup l
def xJ(vs:List V)(q:Q)(t:T V)(k:T V->AA):AA :=
 @List.rec V (λ_=>Q->T V->(T V->AA)->AA) (λ_ t k=>k t) (λv _ ih q t k=>pV v q t λt'=>mW q λq'=>ih q' t' k) vs q t k
def yy:List Q->List V->T V->(T V->AA)->AA
 |[],[],t,k=>k t
 |q::qs,v::vs,t,k=>pV v q t λt'=>yy qs vs t' k
 |_,_,_,_=>.bad 82
def vX(l m:List V)(k:List V->AA):AA :=
 match l with
 |[]=>k m
 |v::r=>vX r m λl'=>k (v::l')
def vC(c:Nat):Nat->Nat->Nat->(Int->AA)->AA
 |0,_,_,k=>k (.negSucc 0)
 |l+1,s,i,k=>(match Nat.beq (s%256) c with
  |true=>k (.ofNat i)
  |false=>aW (s/256) λs'=>aW (i+1) λi'=>vC c l s' i' k)
def ba(c:Nat):Nat->Nat->Nat->(Nat->AA)->AA
 |0,_,n,k=>k n
 |l+1,s,n,k=>(match Nat.beq (s%256) c with
  |true=>aW (s/256) λs'=>aW (n+1) λn'=>ba c l s' n' k
  |false=>aW (s/256) λs'=>ba c l s' n k)
def Tu(v:V)(k:Nat->AA):AA :=
 match v with
 |.int .u8 n=>(match n with
  |.ofNat c=>gd (Nat.blt c 256) 79 (k c)
  |.negSucc _=>.bad 79)
 |_=>.bad 79
def jr(n:Nat)(args:List V)(k:V->AA):AA :=
 match n with
 |0=>(match args with
  |[x,y]=>JN x λl s=>Tu y λc=>vC c l s 0 λi=>k (.int .i64 i)
  |_=>.bad 79)
 |1=>(match args with
  |[x,y]=>JN x λl s=>Tu y λc=>ba c l s 0 λi=>k (.int .i64 (.ofNat i))
  |_=>.bad 79)
 |_=>(match args with
  |[x]=>k x
  |_=>.bad 79)
def iQ(fe:Q->CF)(ih:E9)(f:Q)(args:List V)(dk:Bool)(cs:List Fr)(h:T O)(nx:Q):AA :=
 XX f fe λcf=>match cf with
  |.none=>.bad 83
  |.ext n=>(match cs with
   |c::BZ=>(match dk with
    |false=>jr n args λv=>qR ih c BZ v h nx
    |true=>.bad 78)
   |[]=>.bad 78)
  |.mk body _=>xJ args .e .nil λtm=>ih f dk none [] tm (.code body .nil) cs h nx
def mV(o:O)(k:Nat->Jump->Q->T V->List Q->C->C->Q->AA):AA :=
 match o with
 |.loop (.mk st pend fn tm params BW body B8)=>k st pend fn tm params BW body B8
 |_=>.bad 84
def dJ(fe:Q->CF)(ih:E9)(fv:V)(args:List V)(cs:List Fr)(h:T O)(nx:Q):AA :=
 match fv with
 |.fn f fs caps=>vX args caps λl=>vX fs l λl=>iQ fe ih f l false cs h nx
 |.yld l=>gO l h λob=>mV ob λ_ _ fn tm params BW body _=>yy params args tm λBA=>ih fn false (some l) [] BA (.code BW (.begin (.code body .nil))) cs h nx
 |_=>.bad 85
def qz(ih:E9)(l:Q)(j:Jump)(b:Bool)(cs:List Fr)(h:T O)(nx:Q):AA :=
 gO l h λob=>mV ob λ_ _ fn tm params BW body B8=>pO (.loop (.mk (match b with|true=>0|false=>2) j fn tm params BW body B8)) l h λh' =>
  match cs with
  |[]=>.bad 86
  |c::cs=>qR ih c cs (.bool b) h' nx
def fB(id:Nat):K->(K->AA)->AA->AA
 |.blk C8 k,kf,kn=>(match Nat.beq C8 id with
  |true=>kf k
  |false=>fB id k kf kn)
 |.nil,_,kn=>kn
 |.code _ k,kf,kn=>fB id k kf kn
 |.lp _ k,kf,kn=>fB id k kf kn
 |.sc k,kf,kn=>fB id k kf kn
 |.reg _ k,kf,kn=>fB id k kf kn
 |.inrf _ k,kf,kn=>fB id k kf kn
 |.erf _ k,kf,kn=>fB id k kf kn
 |.begin k,kf,kn=>fB id k kf kn
 |.rtn,_,_=>.bad 87
def RP(dk:Bool)(cs:List Fr)(k:AA):AA :=
 match dk with
 |false=>k
 |true=>(match cs with
  |.mk _ _ _ _ _ .rtn::_=>k
  |_=>.bad 88)
def rY(t:Nat):List (Nat×Q)->(Q->AA)->AA
 |[],_=>.bad 122
 |(u,f)::ms,k=>(match Nat.beq u t with
  |true=>k f
  |false=>rY t ms k)
def XV(fe:Q->CF)(ih:E9)(ms:List (Nat×Q))(v:V)(vs:List V)(cs:List Fr)(h:T O)(nx:Q):AA :=
 match v with
 |.ifc t u=>rY t ms λf=>dJ fe ih (.fn f [] []) (u::vs) cs h nx
 |_=>.bad 123
def FV(fe:Q->CF)(ih:E9)(f:Q)(dk:Bool)(rd:Option Q)(ds:List Df)(tm:T V)(dst:Option Q)(b:OB)(l:List PS)(l0:List PS)(k:K)(cs:List Fr)(h:T O)(nx:Q):AA :=
 match b with
 |.p b=>pK b tm h λv=>rB dst v tm λBA=>ih f dk rd ds BA (.reg l k) cs h nx
 |.a b=>aK b tm λob mk=>pO ob nx h λh'=>rB dst (mk nx) tm λBA=>mW nx λnx'=>ih f dk rd ds BA (.reg l k) cs h' nx'
 |.w b=>wK b tm h nx λv h' nx'=>rB dst v tm λBA=>ih f dk rd ds BA (.reg l k) cs h' nx'
 |.call x args=>xK x tm λfv=>H4 args tm λvs=>dJ fe ih fv vs (.mk f dk rd ds tm (.reg l0 k)::cs) h nx
 |.inv ms x args=>xK x tm λv=>H4 args tm λvs=>XV fe ih ms v vs (.mk f dk rd ds tm (.reg l0 k)::cs) h nx
 |.dfr x args=>(match rd with
  |some _=>.bad 89
  |none=>xK x tm λfv=>H4 args tm λvs=>(match fv with
   |.fn g fs caps=>vX vs caps λB7=>vX fs B7 λB7=>rB dst V.undef tm λBA=>ih f dk rd (.call g B7::ds) BA (.reg l k) cs h nx
   |_=>.bad 90))
 |.dfd s m key=>(match rd with
  |some _=>.bad 89
  |none=>xK m tm λm=>xK key tm λkv=>rB dst V.undef tm λBA=>ih f dk rd (.del s m kv::ds) BA (.reg l k) cs h nx)
 |.rcv=>(match rd with
  |some _=>.bad 91
  |none=>RP dk cs (rB dst .nili tm λBA=>ih f dk rd ds BA (.reg l k) cs h nx))
def lW(fe:Q->CF)(ih:E9)(f:Q)(dk:Bool)(rd:Option Q)(ds:List Df)(tm:T V)(l:List PS)(k:K)(cs:List Fr)(h:T O)(nx:Q):AA :=
 match l with
 |[]=>ih f dk rd ds tm k cs h nx
 |.op (.mk dst g b)::l'=>(match g with
  |none=>FV fe ih f dk rd ds tm dst b l' l k cs h nx
  |some (q,want)=>gV q tm λv=>(match v with
   |.bool t=>(match t==want with
    |true=>FV fe ih f dk rd ds tm dst b l' l k cs h nx
    |false=>rB dst V.undef tm λBA=>ih f dk rd ds BA (.reg l' k) cs h nx)
   |.tup []=>rB dst V.undef tm λBA=>ih f dk rd ds BA (.reg l' k) cs h nx
   |_=>.bad 92))
 |.chk g b q::l'=>(match g with
  |none=>pK b tm h λv=>gV q tm λu=>gd (MW v u) 93 (ih f dk rd ds tm (.reg l' k) cs h nx)
  |some (q',want)=>gV q' tm λv=>(match v with
   |.bool t=>(match t==want with
    |true=>pK b tm h λv=>gV q tm λu=>gd (MW v u) 93 (ih f dk rd ds tm (.reg l' k) cs h nx)
    |false=>ih f dk rd ds tm (.reg l' k) cs h nx)
   |.tup []=>ih f dk rd ds tm (.reg l' k) cs h nx
   |_=>.bad 92))
def mS(ih:E9)(f:Q)(dk:Bool)(rd:Option Q)(ds:List Df)(tm:T V)(c:C)(k:K)(cs:List Fr)(h:T O)(nx:Q)(fe:Q->CF):AA :=
 match c with
 |.skip=>ih f dk rd ds tm k cs h nx
 |.reg l=>ih f dk rd ds tm (.reg l k) cs h nx
 |.seq a b=>ih f dk rd ds tm (.code a (.code b k)) cs h nx
 |.cond x a b=>xK x tm λv=>Jv v λt=>(match t with
  |true=>ih f dk rd ds tm (.code a k) cs h nx
  |false=>ih f dk rd ds tm (.code b k) cs h nx)
 |.block id c=>ih f dk rd ds tm (.code c (.blk id k)) cs h nx
 |.loop c=>ih f dk rd ds tm (.code c (.lp c k)) cs h nx
 |.scope c=>ih f dk rd ds tm (.code c (.sc k)) cs h nx
 |.exit id=>fB id k (λk'=>ih f dk rd ds tm k' cs h nx) (match rd with
  |none=>.bad 94
  |some l=>qz ih l (.exit id) false cs h nx)
 |.ret=>(match rd with
  |none=>ih f dk rd ds tm .rtn cs h nx
  |some l=>qz ih l .ret false cs h nx)
 |.rf x params BW body=>xK x tm λfv=>(match fv with
  |.fn g fs caps=>vX fs (.yld (match rd with|none=>nx.succ|some _=>nx)::caps) λargs=>(match rd with
   |none=>pO (.dfd false) nx h λh1=>mW nx λn1=>pO (.loop (.mk 0 .none f tm params BW body nx)) n1 h1 λh2=>mW n1 λn2 =>
     iQ fe ih g args false (.mk f dk rd (.coll nx::ds) tm (.inrf n1 k)::cs) h2 n2
   |some l=>gO l h λob=>mV ob λ_ _ _ _ _ _ _ B8=>pO (.loop (.mk 0 .none f tm params BW body B8)) nx h λh2=>mW nx λn2 =>
     iQ fe ih g args false (.mk f dk rd ds tm (.inrf nx k)::cs) h2 n2)
  |_=>.bad 95)
 |.bad=>.bad 96
def rowAt(o:O):Option (Nat×T V) :=
 match o with
 |.row n t _ _ _ _=>some (n,t)
 |_=>none
def rdTy:Nat->T O->V->V
 |0,_,_=>.bot
 |f+1,h,v=>match v with
  |.agg [.str l n,s]=>(match s with
   |.nils=>.tup [.str l n]
   |.se=>.tup [.str l n]
   |.sl o off len _=>(match rowAt (h.get O.dead o) with
    |some (k,t)=>(match Nat.ble (off+2*len) k with
     |true=>.tup (.str l n::(List.range len).map λi=>rdTy f h (.agg [t.get V.undef (qn (off+2*i)),t.get V.undef (qn (off+2*i+1))]))
     |false=>.bot)
    |none=>.bot)
   |.su o off len _=>(match rowAt (h.get O.dead o) with
    |some (k,t)=>(match Nat.ble (off+2*len) k with
     |true=>.tup (.str l n::(List.range len).map λi=>rdTy f h (.agg [t.get V.undef (qn (off+2*i)),t.get V.undef (qn (off+2*i+1))]))
     |false=>.bot)
    |none=>.bot)
   |_=>.bot)
  |_=>.bot
def fin(v:V)(h:T O):V :=
 match v with
 |.tup [ty,b]=>.tup [rdTy 12 h ty,b]
 |.map o=>(match h.get O.dead o with
  |.map es=>.tup (es.map λp=>.tup [p.1,p.2])
  |_=>.bot)
 |.bool b=>.bool b
 |.int k n=>.int k n
 |_=>.bot
def nw(fe:Q->CF)(ih:E9)(f:Q)(dk:Bool)(rd:Option Q)(ds:List Df)(tm:T V)(cs:List Fr)(h:T O)(nx:Q):AA :=
 match ds with
 |.coll q::DE=>gO q h λob=>(match ob with
  |.dfd false=>pO (.dfd true) q h λh'=>ih f dk rd DE tm .rtn cs h' nx
  |_=>.bad 97)
 |.call g args::DE=>iQ fe ih g args true (.mk f dk rd DE tm .rtn::cs) h nx
 |.del s m key::DE=>hY s key (match m with
  |.map o=>gO o h λob=>rW ob λes=>ig s h key es λes'=>pO (.mapd es') o h λh'=>ih f dk rd DE tm .rtn cs h' nx
  |_=>.bad 97)
 |[]=>XX f fe λcf=>(match cf with
  |.none=>.bad 98
  |.ext _=>.bad 98
  |.mk _ rs=>iV tm h rs λvs=>(match cs with
   |[]=>(match dk with
    |false=>.ok (fin (Tp vs) h)
    |true=>.bad 99)
   |c::BZ=>(match dk with
    |false=>qR ih c BZ (Tp vs) h nx
    |true=>(match c with
     |.mk f2 Ht H6 E8 CU .rtn=>ih f2 Ht H6 E8 CU .rtn BZ h nx
     |_=>.bad 100))))
def aD(fe:Q->CF)(ih:E9)(f:Q)(dk:Bool)(rd:Option Q)(ds:List Df)(tm:T V)(k:K)(cs:List Fr)(h:T O)(nx:Q):AA :=
 match k with
 |.nil=>(match rd with
  |none=>ih f dk rd ds tm .rtn cs h nx
  |some l=>qz ih l .none true cs h nx)
 |.code c k=>mS ih f dk rd ds tm c k cs h nx fe
 |.blk _ k=>ih f dk rd ds tm k cs h nx
 |.lp c k=>ih f dk rd ds tm (.code c (.lp c k)) cs h nx
 |.sc k=>ih f dk rd ds tm k cs h nx
 |.reg l k=>lW fe ih f dk rd ds tm l k cs h nx
 |.inrf _ _=>.bad 101
 |.erf l k=>gO l h λob=>mV ob λst pend fn BA params BW body B8=>gd (!Nat.beq st 1) 102 (pO (.loop (.mk 3 pend fn BA params BW body B8)) l h λh'=>(match pend with
  |.none=>ih f dk rd ds tm k cs h' nx
  |.ret=>ih f dk rd ds tm (.code .ret k) cs h' nx
  |.exit id=>ih f dk rd ds tm (.code (.exit id) k) cs h' nx))
 |.begin k=>(match rd with
  |none=>.bad 103
  |some l=>gO l h λob=>mV ob λst pend fn BA params BW body B8=>gd (Nat.beq st 0) 104 (pO (.loop (.mk 1 pend fn BA params BW body B8)) l h λh'=>ih f dk rd ds tm k cs h' nx))
 |.rtn=>nw fe ih f dk rd ds tm cs h nx
def run(fe:Q->CF)(n:Nat):E9 :=
 @Nat.rec (λ_=>E9) .fuel (λ_ ih=>aD fe ih) n
end
section
open Go.AM (bA aU bO aT AY)
def packL:List UInt8->Nat
 |[]=>0
 |b::r=>b.toNat+256*packL r
def jV(v:Value):V :=
 match v with
 |.bool b=>.bool b
 |.int k n=>.int k n
 |.string s=>.str s.data.toList.length (packL s.data.toList)
 |.pointer none=>.nilp
 |.slice none 0 0=>.nils
 |.map none=>.nilm
 |.nilFunc=>.nilf
 |.nilIface=>.nili
 |_=>.bot
def mE(v:V):Bool :=
 match v with
 |.bot=>false
 |_=>true
def iD(v:Value):V :=
 match v with
 |.agg cs=>(match(cs.toList.map jV).all mE with
  |true=>.agg (cs.toList.map jV)
  |false=>.bot)
 |v=>jV v
def aE(P:Program)(x:Operand):X :=
 match x with
 |.tmp t=>.t (qn t)
 |.const v=>(match mE (iD v) with
  |true=>.c (iD v)
  |false=>.bad)
 |.global g=>(match Nat.blt g P.globals.size with
  |true=>.c (.ptr (qn g) 0)
  |false=>.bad)
 |.func f=>.c (.fn (qn f) [] [])
def zeroV(P:Program)(t:TypeId):Option V :=
 ((P.info? t).bind (·.zero)).bind λv=>match mE (iD v) with
   |true=>some (iD v)
   |false=>none
def mX(P:Program)(t:TypeId):Option (List V) :=
 (zeroV P t).bind λv=>(bA P t).bind λs=>match Nat.beq (iO v).length s with
  |true=>some (iO v)
  |false=>none
def nZ(z:List V):Nat->List V
 |0=>[]
 |n+1=>z++nZ z n
def qZ(P:Program)(place:Nat->Option (Nat×Nat)):List (Nat×Operand)->Option (List (Nat×Nat×X))
 |[]=>some []
 |(i,x)::r=>(place i).bind λp=>(qZ P place r).map λl=>(p.1,p.2,aE P x)::l
def partsOf(P:Program)(t:TypeId)(parts:List (Nat×Operand)):Option (List (Nat×Nat×X)) :=
 match P.underlying t with
 |some (.struct fs)=>(fs.toList.mapM λf=>(P.info? f.type).map λi=>(f.offset,i.size)).bind λpl=>qZ P (λi=>pl[i]?) parts
 |some (.array _ e)=>(bA P e).bind λs=>qZ P (λi=>some (i*s,s)) parts
 |_=>none
def jO(m:EqM)(x:Operand):Bool :=
 match x with
 |.const (.slice none 0 0)=>(match m with|.nilS=>true|_=>false)
 |.const .nilIface=>(match m with|.nilI=>true|_=>false)
 |.const .nilFunc=>(match m with|.nilF=>true|_=>false)
 |.const (.map none)=>(match m with|.nilM=>true|_=>false)
 |_=>false
def gz(P:Program)(op:BinOp)(t:TypeId)(x y:Operand):PB :=
 let neg:Bool:=match op with|.neq=>true|_=>false
 let cmp:Bool:=match op with|.neq=>true|.eql=>true|_=>false
 match cmp with
 |false=>.bin op (aE P x) (aE P y)
 |true =>
  match P.underlying t with
  |some (.pointer e)=>(match bA P e with
   |some s=>(match Nat.blt 0 s with
    |true=>.eq neg .ptr (aE P x) (aE P y)
    |false=>.bad)
   |none=>.bad)
  |some .bool=>.eq neg .bool (aE P x) (aE P y)
  |some (.int _)=>.bin op (aE P x) (aE P y)
  |some .string=>.bin op (aE P x) (aE P y)
  |some (.slice _)=>(match jO .nilS y with|true=>.eq neg .nilS (aE P x) (aE P y)|false=>.bad)
  |some (.map _ _)=>(match jO .nilM y with|true=>.eq neg .nilM (aE P x) (aE P y)|false=>.bad)
  |some (.func _ _ _)=>(match jO .nilF y with|true=>.eq neg .nilF (aE P x) (aE P y)|false=>.bad)
  |some (.interface _)=>(match jO .nilI y with|true=>.eq neg .nilI (aE P x) (aE P y)|false=>.bad)
  |_=>.bad
def H7(o:Option PB):OB :=
 match o with
 |some p=>.p p
 |none=>.p .bad
def KD(o:Option AB):OB :=
 match o with
 |some p=>.a p
 |none=>.p .bad
def KC(o:Option WB):OB :=
 match o with
 |some p=>.w p
 |none=>.p .bad
def j7(P:Program)(l:List (Nat×Operand)):List (Nat×X):=l.map λp=>(p.1,aE P p.2)
def wV(P:Program)(name:String)(t:Nat):Option (Nat×Q) :=
 (P.info? t).bind λi=>(i.methods.find? (·.name==name)).bind λm=>(P.underlying t).bind λu=>m.func.bind λfp=>match m.path.isEmpty,u,fp.2 with
  |true,.pointer _,true=>some (t,qn fp.1)
  |true,.pointer _,false=>none
  |true,_,false=>some (t,qn fp.1)
  |_,_,_=>none
def jD(P:Program)(name:String):Nat->List (Nat×Q)
 |0=>[]
 |n+1=>(match wV P name n with
  |some p=>p::jD P name n
  |none=>jD P name n)
def gZ(P:Program)(c:Call):OB :=
 match c.callee with
 |.value f=>.call (aE P f) (c.args.toList.map (aE P))
 |.invoke recv name=>.inv (jD P name P.types.size) (aE P recv) (c.args.toList.map (aE P))
 |.builtin b =>
  match b,c.args.toList,c.argTypes.toList with
  |.append,[x,y],[t,u]=>KC ((aT P t).bind λe=>(match P.underlying u with|some (.slice _)=>some ()|some .string=>some ()|_=>none).bind λ_=>(bA P e).bind λs=>(mX P e).bind λz=>match Nat.blt 0 s&&Nat.ble (aU P e) 16384&&Nat.blt 0 (aU P e) with
   |true=>some (.ap e s (aE P x) (aE P y))
   |false=>none)
  |.len,[x],[t]=>(match P.underlying t with
   |some .string=>.p (.lenS (aE P x))
   |some (.slice _)=>.p (.lenL (aE P x))
   |some (.map _ _)=>.p (.lenM (aE P x))
   |_=>.p .bad)
  |.copy,[x,y],[t,u]=>KC ((aT P t).bind λe=>(aT P u).bind λ_=>(bA P e).map λs=>.cp s (aE P x) (aE P y))
  |.unsafeSliceData,[x],_=>.p (.sd (aE P x))
  |.unsafeString,[x,y],[pt,_]=>(match P.underlying pt with
   |some (.pointer e)=>(match Nat.beq (P.cellsOf e) 1 with
    |true=>.w (.us e (aE P x) (aE P y))
    |false=>.p .bad)
   |_=>.p .bad)
  |.max,[x,y],_=>.p (.max (aE P x) (aE P y))
  |.recover,[],_=>.rcv
  |_,_,_=>.p .bad
def lP(P:Program):List Field->Nat->Option (List FK)
 |[],_=>some []
 |f::fs,i=>(match Nat.beq f.offset i&&f.name != "_" with
  |true=>(match P.underlying f.type with
   |some .bool=>(lP P fs (i+1)).map (.b::·)
   |some .string=>(lP P fs (i+1)).map (.s::·)
   |some (.int _)=>(lP P fs (i+1)).map (.i::·)
   |_=>none)
  |false=>none)
def tZ(P:Program)(t:TypeId):Option (KK×TypeId) :=
 match P.underlying t with
 |some (.map k e)=>(match P.underlying k with
  |some .string=>some (.str,e)
  |some (.int _)=>some (.int,e)
  |some (.pointer p)=>(match bA P p with
   |some s=>(match Nat.blt 0 s with
    |true=>some (.ptr,e)
    |false=>none)
   |none=>none)
  |some (.struct fs)=>(match P.stoodInHeld k with
   |true=>none
   |false=>(lP P fs.toList 0).map λl=>(.st l,e))
  |_=>none)
 |_=>none
def bY(P:Program)(o:Oper):OB :=
 match o.op with
 |.move x=>.p (.mv (aE P x))
 |.assign x=>.p (.mv (aE P x))
 |.pick c a b=>.p (.pick (aE P c) (aE P a) (aE P b))
 |.alloc t=>KD ((mX P t).map λz=>.al t z.length (T.ofList z))
 |.box t x=>KD ((bA P t).map λs=>.bx t s (aE P x))
 |.build t parts=>H7 ((mX P t).bind λz=>(partsOf P t parts.toList).map λps=>.bld z ps)
 |.buildSlice t len parts=>KD ((aT P t).bind λe=>(mX P e).bind λz=>match Nat.blt 0 z.length&&Nat.ble (len*z.length) 16777216&&parts.toList.all (λp=>Nat.blt p.1 len) with
  |true=>some (.bsl e z.length len (T.ofList (nZ z len)) (j7 P parts.toList))
  |false=>none)
 |.load t a=>H7 ((bO P t).bind λg=>(bA P t).bind λs=>match g with
  |true=>some (.ldn s (aE P a))
  |false=>(match Nat.beq s 1 with
   |true=>some (.ld1 (aE P a))
   |false=>none))
 |.store t a x=>KC ((bA P t).map λs=>.st s (aE P a) (aE P x))
 |.nilCheck x=>.p (.nck (aE P x))
 |.binOp op t x y _=>.p (gz P op t x y)
 |.unOp op _ x=>(match op with
  |.neg=>.p (.neg (aE P x))
  |.not=>.p (.not (aE P x))
  |_=>.p .bad)
 |.convert s d x=>(match P.underlying s,P.underlying d with
  |some (.int _),some (.int k)=>.p (.cvi k (aE P x))
  |some .string,some .string=>.p (.cvs (aE P x))
  |some (.int _),some .string=>.p (.cis (aE P x))
  |some (.pointer e),some .unsafePointer=>(match bA P e with
   |some (_+1)=>.p (.ctu (aE P x))
   |_=>.p .bad)
  |some .unsafePointer,some (.pointer e)=>(match bA P e with
   |some (n+1)=>(match liesAt P P.depth e ((n+1)/P.cellsOf e) 0 e 1 with
    |true=>.p (.cfu e (n+1) (aE P x))
    |false=>.p .bad)
   |_=>.p .bad)
  |some .string,some (.slice e)=>(match P.underlying e with
   |some (.int .u8)=>.w (.sb (aE P x))
   |_=>.p .bad)
  |_,_=>.p .bad)
 |.makeInterface t x=>(match P.underlying t with
  |some (.interface _)=>.p .bad
  |some _=>.p (.mki t (aE P x))
  |none=>.p .bad)
 |.makeFunc fn first caps=>(match fn with
  |.func f=>.p (.mkf (qn f) (first.toList.map (aE P)) (caps.toList.map (aE P)))
  |_=>.p .bad)
 |.makeMap _ r=>(match r with
  |none=>.a .mkm
  |some _=>.p .bad)
 |.makeSlice t l c=>KD ((aT P t).bind λe=>(mX P e).bind λz=>match Nat.blt 0 z.length&&Nat.ble (aU P e) 16384 with
  |true=>some (.mks e z.length z (aE P l) (aE P c))
  |false=>none)
 |.slice t x lo hi mx=>(match P.underlying t,mx with
  |some .string,none=>.p (.slS (aE P x) (lo.map (aE P)) (hi.map (aE P)))
  |some (.slice e),mx=>(match mx.isSome&&hi.isNone with|true=>.p .bad|false=>H7 ((bA P e).map λs=>.slL s (aE P x) (lo.map (aE P)) (hi.map (aE P)) (mx.map (aE P))))
  |_,_=>.p .bad)
 |.fieldAddr t x f=>H7 ((AY P t f).bind λot=>(bA P ot.2).bind λs=>match Nat.blt 0 s with
  |true=>some (.fa ot.1 (aE P x))
  |false=>none)
 |.field t x f=>H7 ((AY P t f).bind λot=>(bA P ot.2).bind λs=>(bO P ot.2).map λg=>.fd g ot.1 s (aE P x))
 |.indexAddr t x i=>(match P.underlying t with
  |some (.slice e)=>H7 ((bA P e).map λs=>.ia s (aE P x) (aE P i))
  |some (.array len e)=>H7 ((bA P e).map λs=>.iaa len s (aE P x) (aE P i))
  |_=>.p .bad)
 |.index t x i=>(match P.underlying t with
  |some .string=>.p (.ixs (aE P x) (aE P i))
  |some (.array len e)=>H7 ((bA P e).bind λs=>(bO P e).map λg=>.ixa g len s (aE P x) (aE P i))
  |_=>.p .bad)
 |.lookup t m k ok=>(match tZ P t with
  |some (s,e)=>H7 ((zeroV P e).map λz=>.lk s ok z (aE P m) (aE P k))
  |_=>.p .bad)
 |.mapUpdate t m k x=>(match tZ P t with
  |some (s,_)=>.w (.mu s (aE P m) (aE P k) (aE P x))
  |_=>.p .bad)
 |.insert t m k x=>(match tZ P t with
  |some (s,_)=>.w (.mu s (aE P m) (aE P k) (aE P x))
  |_=>.p .bad)
 |.mapEntry t m k=>(match tZ P t with
  |some (s,e)=>KC ((zeroV P e).map λz=>.me s z (aE P m) (aE P k))
  |_=>.p .bad)
 |.entryStore _ m s x=>.w (.es (aE P m) (aE P s) (aE P x))
 |.extract t i=>.p (.ex i (aE P t))
 |.typeAssert x _ t ok=>H7 ((P.underlying t).bind λu=>match u with
  |.interface _=>none
  |_=>(zeroV P t).map λz=>.ta ok t z (aE P x))
 |.call c=>gZ P c
 |.defer c=>(match c.callee with
  |.value f=>.dfr (aE P f) (c.args.toList.map (aE P))
  |.builtin .delete=>(match c.args.toList,c.argTypes.toList with
   |[m,key],t::_=>(match tZ P t with
    |some (s,_)=>.dfd s (aE P m) (aE P key)
    |none=>.p .bad)
   |_,_=>.p .bad)
  |_=>.p .bad)
 |_=>.p .bad
def aOz(n:Nat)(o:Oper):Option (Option Q) :=
 match o.dst with
 |none=>some none
 |some d=>(match Nat.blt d n with
  |true=>some (some (qn d))
  |false=>none)
def fY:CO:=.mk none none (.p .bad)
def gR(P:Program)(n:Nat)(ops:Array Oper)(o:Oper):CO :=
 match aOz n o with
 |none=>fY
 |some d =>
  match o.guard with
  |none=>.mk d none (bY P o)
  |some (j,want)=>(match(ops[j]?).bind (·.dst) with
   |none=>fY
   |some t=>(match Nat.blt t n with
    |true=>.mk d (some (qn t,want)) (bY P o)
    |false=>fY))
inductive Pl where
 |run (i:Nat)
 |chk (i:Nat)
def LC(b:OB):Bool :=
 match b with
 |.p _=>false
 |.a _=>false
 |_=>true
def SU(b:PB):Bool :=
 match b with
 |.ld1 _=>true
 |.ldn _ _=>true
 |.lk _ _ _ _ _=>true
 |.lenM _=>true
 |.eq _ _ _ _=>true
 |.ctu _=>true
 |.cfu _ _ _=>true
 |_=>false
def Tn(b:OB):Bool :=
 match b with
 |.p b=>SU b
 |_=>false
inductive Inf where
 |mk (bf rd:Nat) (dst:Option Nat) (w r g:Bool)
def Inf.bf:Inf->Nat|.mk b _ _ _ _ _=>b
def Inf.rd:Inf->Nat|.mk _ r _ _ _ _=>r
def Inf.dst:Inf->Option Nat|.mk _ _ d _ _ _=>d
def Inf.w:Inf->Bool|.mk _ _ _ w _ _=>w
def Inf.r:Inf->Bool|.mk _ _ _ _ r _=>r
def Inf.g:Inf->Bool|.mk _ _ _ _ _ g=>g
instance:Inhabited Inf:=⟨.mk 0 0 none true false true⟩
def Lm:List Oper->List Nat->List Nat
 |[],acc=>acc
 |o::os,acc=>Lm os (acc++[o.after.toList.foldl (λs e=>if Region.binds .any e then s ||| 2^e.on ||| acc.getD e.on 0 else s) 0])
def kU(ops:Array Oper)(o:Oper):Nat :=
 o.op.operands.toList.foldl (λs x=>match x with|.tmp t=>s ||| 2^t|_=>s) (match o.guard with|some (j,_)=>(match(ops[j]?).bind (·.dst) with|some t=>2^t|none=>0)|none=>0)
def Te(o:Op):Bool :=
 match o with
 |.assign _=>true
 |_=>false
def yP(P:Program)(ops:Array Oper):List Oper->List Nat->List Inf
 |o::os,b::bs=>(match bY P o with
  |c=>.mk b (kU ops o) o.dst (LC c||Te o.op) (Tn c) o.guard.isSome)::yP P ops os bs
 |_,_=>[]
def sub(a b:Nat):Bool:=Nat.beq (Nat.land a b) a
def eager:List Inf->Nat->Nat->List Pl->(List Pl->Nat->List Pl)->List Pl
 |[],_,e,acc,k=>k acc e
 |f::fs,i,e,acc,k =>
  match !Nat.testBit e i&&!f.w&&sub f.bf e with
  |true=>eager fs (i+1) (e ||| 2^i) (.run i::acc) k
  |false=>eager fs (i+1) e acc k
def aJR:List Inf->Nat->Nat->Option (Nat×Nat)
 |[],_,_=>none
 |f::fs,i,e=>(match !Nat.testBit e i&&sub f.bf e with
  |true=>some (i,f.bf)
  |false=>aJR fs (i+1) e)
def Y2(Ko e:Nat):List Inf->Nat->List Pl
 |[],_=>[]
 |f::fs,i=>(match Nat.testBit e i&&f.r&&!Nat.testBit Ko i with
  |true=>.chk i::Y2 Ko e fs (i+1)
  |false=>Y2 Ko e fs (i+1))
def aJ1(fs:List Inf):Nat->Nat->List Pl
 |0,_=>[]
 |n+1,e =>
  eager fs 0 e [] λacc e'=>acc.reverse++(match aJR fs 0 e' with
   |none=>[]
   |some (w,b)=>.run w::(Y2 b e' fs 0++aJ1 fs n (e' ||| 2^w)))
def j9(i:Nat):List Pl->Bool
 |.chk j::l=>(match Nat.beq i j with
  |true=>true
  |false=>j9 i l)
 |_=>false
def Nl(w Ko e:Nat)(l:List Pl):List Inf->Nat->Bool
 |[],_=>true
 |f::fs,i=>(match Nat.beq i w with
  |true=>true
  |false=>(match Nat.testBit e i with
   |false=>Nat.testBit f.bf w
   |true=>!f.r||Nat.testBit Ko i||j9 i l))&&Nl w Ko e l fs (i+1)
def kD(fs:List Inf):List Pl->Nat->Bool
 |[],e=>Nat.beq e (2^fs.length-1)
 |.run i::l,e=>(match fs[i]? with
  |none=>false
  |some f=>!Nat.testBit e i&&sub f.bf e&&(!f.w||Nl i f.bf e l fs 0)&&kD fs l (e ||| 2^i))
 |.chk i::l,e=>(match fs[i]? with
  |none=>false
  |some f=>Nat.testBit e i&&!f.w&&kD fs l e)
def de(t i:Nat)(w:Bool)(bf:Nat):List Inf->Nat->Bool
 |[],_=>true
 |f::fs,j=>(match Nat.beq i j with
  |true=>w||!Nat.testBit f.rd t
  |false=>(match f.dst with
   |none=>true
   |some u=>!Nat.beq t u)&&(!Nat.testBit f.rd t||Nat.testBit f.bf i||(w&&Nat.testBit bf j)))&&de t i w bf fs (j+1)
def eu(all:List Inf):List Inf->Nat->Bool
 |[],_=>true
 |f::fs,i=>(match f.dst with
  |none=>true
  |some t=>de t i f.w f.bf all 0)&&eu all fs (i+1)
def x8:List Oper->Nat->Bool
 |[],_=>true
 |o::os,i=>o.after.toList.all (λe=>!Region.binds .any e||Nat.blt e.on i)&&x8 os (i+1)
def zd(P:Program)(n:Nat)(ops:Array Oper)(p:Pl):PS :=
 match p with
 |.run i=>(match ops[i]? with
  |some o=>.op (gR P n ops o)
  |none=>.op fY)
 |.chk i=>(match ops[i]? with
  |some o=>(match gR P n ops o with
   |.mk (some q) g (.p b)=>.chk g b q
   |_=>.op fY)
  |none=>.op fY)
def bk(P:Program)(ops:Array Oper):List Inf:=yP P ops ops.toList (Lm ops.toList [])
def aFO(P:Program)(n:Nat)(ops:Array Oper):List PS :=
 match bk P ops with
 |fs=>(match aJ1 fs (fs.length+1) 0 with
  |pl=>(match Nat.beq fs.length ops.size&&x8 ops.toList 0&&eu fs fs 0&&kD fs pl 0 with
   |true=>pl.map (zd P n ops)
   |false=>[.op fY]))
def dF(P:Program)(n:Nat):Code->C
 |.skip=>.skip
 |.label _=>.skip
 |.region _ ops draw=>(match draw with
  |false=>.reg (ops.toList.map λo=>.op (gR P n ops o))
  |true=>.reg (aFO P n ops))
 |.seq a b=>.seq (dF P n a) (dF P n b)
 |.cond x a b=>.cond (aE P x) (dF P n a) (dF P n b)
 |.block id c=>.block id (dF P n c)
 |.loop c=>.loop (dF P n c)
 |.rangeFunc f params BW body=>(match params.toList.all λt=>Nat.blt t n with
  |true=>.rf (aE P f) (params.toList.map qn) (dF P n BW) (dF P n body)
  |false=>.bad)
 |.exit id=>.exit id
 |.scope c=>.scope (dF P n c)
 |.ret=>.ret
 |_=>.bad
def u3(P:Program):List ResultVar->Option (List RV)
 |[]=>some []
 |.tmp t::r=>(u3 P r).map (.t (qn t)::·)
 |.cell a t::r=>(bO P t).bind λg=>(bA P t).bind λs=>match g||Nat.beq s 1 with
  |true=>(u3 P r).map (.cell g s (qn a)::·)
  |false=>none
def compF(P:Program)(f:Nat):CF :=
 match P.funcs[f]? with
 |none=>.none
 |some fn =>
  match fn.body with
  |none=>(match fn.name== "internal/bytealg.IndexByteString",fn.name== "internal/bytealg.CountString",fn.name== "internal/abi.NoEscape" with
   |true,_,_=>.ext 0
   |_,true,_=>.ext 1
   |_,_,true=>.ext 2
   |_,_,_=>.none)
  |some c=>(match fn.name== "runtime.NumGoroutine" with
   |true=>.none
   |false=>(match u3 P fn.results.toList with
    |none=>.none
    |some rs=>.mk (dF P fn.ntmps c) rs))
def SO(P:Program)(q:Q):CF:=compF P q.nat
end
end Go.CM
end
