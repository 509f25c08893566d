import Derived.Test.YtoiocfngjchdiaaGreatDoorA
import Derived.AtR
set_option linter.all false
noncomputable section
namespace Go.CM
inductive QR where
 |e|a (q:QR)|b (q:QR)|c (q:QR)|d (q:QR)
inductive QN (α:Type) where
 |e|a (q:α)|b (q:α)|c (q:α)|d (q:α)
abbrev Q1:=QN QR
abbrev Q2:=QN Q1
abbrev Q3:=QN Q2
abbrev Q4:=QN Q3
abbrev Q5:=QN Q4
abbrev Q6:=QN Q5
abbrev Q7:=QN Q6
abbrev Q8:=QN Q7
abbrev Q9:=QN Q8
def Q:Type:=QN Q9
def Q.e:Q:=QN.e (α:=Q9)
inductive TQ (α:Type) where
 |nil
 |nd (v:α) (a b c d:TQ α)
structure N5 (α β:Type) where
 mk ::
 v:α
 a:β
 b:β
 c:β
 d:β
class gm (α:Type) where
 z:α
abbrev T1(α:Type):=N5 α (TQ α)
abbrev T2(α:Type):=N5 α (T1 α)
abbrev T3(α:Type):=N5 α (T2 α)
abbrev T4(α:Type):=N5 α (T3 α)
abbrev T5(α:Type):=N5 α (T4 α)
abbrev T6(α:Type):=N5 α (T5 α)
abbrev T7(α:Type):=N5 α (T6 α)
abbrev T8(α:Type):=N5 α (T7 α)
abbrev T9(α:Type):=N5 α (T8 α)
def T(α:Type):Type:=N5 α (T9 α)
instance:Inhabited Q:=⟨Q.e⟩
inductive RK where
 |any
 |ptr (o:Q) (off:Nat)
 |sl (o:Q) (off len:Nat)
 |e
 |z
inductive V where
 |bot
 |bool (b:Bool)
 |int (k:IntKind) (n:Int)
 |str (l n:Nat)
 |nw
 |ptr (o:Q) (off:Nat)
 |jk
 |sl (o:Q) (off len cap:Nat)
 |su (o:Q) (off len sz:Nat)
 |se
 |mo
 |map (o:Q)
 |nf
 |fn (f:Q) (fs caps:List V)
 |bN (l:Q)
 |lz
 |kh (t:Nat) (v:V)
 |agg (vs:List V)
 |aj (vs:List V)
 |rr (x:RK)
instance:Inhabited V:=⟨.bot⟩
abbrev V.undef:V:=.aj []
instance:gm V:=⟨.aj []⟩
inductive X where
 |t (q:Q)
 |c (v:V)
 |bad
inductive FK where
 |b|s|i
inductive KK where
 |str|int|ptr|st (l:List FK)
inductive oz where
 |ptr|bool|ly|px|pn|pp
inductive PB where
 |mv (x:X)
 |pick (c a b:X)
 |bin (op:BinOp) (x y:X)
 |eq (neg:Bool) (m:oz) (x y:X)
 |not (x:X)
 |neg (x:X)
 |cvi (k:IntKind) (x:X)
 |cvs (x:X)
 |cis (x:X)
 |ctu (x:X)
 |cfu (ty n:Nat) (x:X)
 |bld (z:List V) (ps:List (Nat×Nat×X))
 |ld1 (x:X)
 |ldn (n:Nat) (x:X)
 |nck (x:X)
 |fa (off:Nat) (x:X)
 |fd (agg:Bool) (off n:Nat) (x:X)
 |ia (sz:Nat) (x i:X)
 |iaa (len sz:Nat) (x i:X)
 |ixs (x i:X)
 |ixa (agg:Bool) (len sz:Nat) (x i:X)
 |slS (x:X) (lo hi:Option X)
 |slL (sz:Nat) (x:X) (lo hi mx:Option X)
 |mki (t:Nat) (x:X)
 |mkf (f:Q) (fs caps:List X)
 |lk (s:KK) (ok:Bool) (z:V) (m k:X)
 |lenS (x:X)
 |lenL (x:X)
 |lenM (x:X)
 |sd (x:X)
 |max (x y:X)
 |ex (i:Nat) (x:X)
 |ta (ok:Bool) (t:Nat) (z:V) (x:X)
 |bad
inductive AB where
 |al (ty n:Nat) (t:T V)
 |bx (ty n:Nat) (x:X)
 |bsl (ty sz len:Nat) (t:T V) (ps:List (Nat×X))
 |mkm
 |mks (ty sz:Nat) (z:List V) (len cap:X)
inductive WB where
 |st (n:Nat) (x y:X)
 |mu (s:KK) (m k v:X)
 |me (s:KK) (z:V) (m k:X)
 |es (m s v:X)
 |ap (ty sz:Nat) (x y:X)
 |cp (sz:Nat) (x y:X)
 |sb (x:X)
 |us (ty:Nat) (x n:X)
inductive OB where
 |p (b:PB)
 |a (b:AB)
 |w (b:WB)
 |call (f:X) (args:List X)
 |inv (ms:List (Nat×Q)) (x:X) (args:List X)
 |dfr (f:X) (args:List X)
 |rcv
inductive CO where
 |mk (dst:Option Q) (g:Option (Q×Bool)) (b:OB)
inductive PS where
 |op (o:CO)
 |lu (g:Option (Q×Bool)) (p:PB) (q:Q)
inductive C where
 |skip
 |reg (l:List PS)
 |seq (a b:C)
 |cond (x:X) (a b:C)
 |block (id:Nat) (c:C)
 |loop (c:C)
 |rf (x:X) (params:List Q) (B3 body:C)
 |exit (id:Nat)
 |scope (c:C)
 |ret
 |bad
inductive K where
 |nil
 |code (c:C) (k:K)
 |n_ (id:Nat) (k:K)
 |lp (c:C) (k:K)
 |sc (k:K)
 |reg (l:List PS) (k:K)
 |mn (l:Q) (k:K)
 |oZ (l:Q) (k:K)
 |begin (k:K)
 |iN
inductive RV where
 |t (q:Q)
 |cell (agg:Bool) (n:Nat) (q:Q)
inductive GT where
 |any (v:V)
 |leaf (l n:Nat) (v:V)
 |nd (p:Nat) (a b:GT)
 |ar (q:Q) (n:Nat) (v:V)
inductive CF where
 |none
 |mk (body:C) (rs:List RV)
 |ext (n:Nat)
 |tr (g:GT)
 |nb (v:V) (body:C) (rs:List RV)
inductive Jump where
 |none|ret|exit (id:Nat)
inductive Df where
 |call (f:Q) (args:List V)
 |ml (q:Q)
inductive Lp where
 |mk (st:Nat) (pend:Jump) (fn:Q) (tm:T V) (params:List Q) (B3 body:C) (CH:Q)
inductive O where
 |dead
 |row (n:Nat) (t:T V) (B4:List Q) (CJ:Nat) (ty:Nat) (ex:Bool)
 |ro (n:Nat) (t:T V)
 |map (es:List (V×V))
 |mc (es:List (V×V))
 |loop (l:Lp)
 |kg (taken:Bool)
 |rb (n:Nat) (t:T V)
instance:gm O:=⟨.dead⟩
inductive Fr where
 |mk (f:Q) (dk:Bool) (rd:Option Q) (ds:List Df) (tm:T V) (k:K)
inductive aa where
 |ok (v:V)
 |bad (n:Nat)
 |fuel (f:Q) (dk:Bool) (rd:Option Q) (ds:List Df) (tm:T V) (k:K) (cs:List Fr) (h:T O) (nx:Q)
instance:Inhabited aa:=⟨.bad 0⟩
def aZ(n:Nat)(k:Nat->aa):aa:=@Nat.rec (λ_=>aa) (k (nat_lit 0)) (λm _=>k (Nat.succ m)) n
def wJ(n:Int)(k:Int->aa):aa :=
 match n with
 |.ofNat m=>aZ m λm=>k (.ofNat m)
 |.negSucc m=>aZ m λm=>k (.negSucc m)
def gd(b:Bool)(n:Nat)(k:aa):aa :=
 match b with
 |true=>k
 |false=>.bad n
def QR.nat:QR->Nat
 |.e=>0
 |.a q=>4*q.nat+1
 |.b q=>4*q.nat+2
 |.c q=>4*q.nat+3
 |.d q=>4*q.nat+4
def QR.succ:QR->QR
 |.e=>.a .e
 |.a q=>.b q
 |.b q=>.c q
 |.c q=>.d q
 |.d q=>.a q.succ
def QR.rM:Nat->Nat->QR
 |0,_=>.e
 |f+1,n =>
  match n with
  |0=>.e
  |m+1=>(match m%4 with
   |0=>.a (QR.rM f (m/4))
   |1=>.b (QR.rM f (m/4))
   |2=>.c (QR.rM f (m/4))
   |_=>.d (QR.rM f (m/4)))
def QR.of(n:Nat):QR:=QR.rM n n
def QR.beq:QR->QR->Bool
 |.e,.e=>true
 |.a p,.a q=>p.beq q
 |.b p,.b q=>p.beq q
 |.c p,.c q=>p.beq q
 |.d p,.d q=>p.beq q
 |_,_=>false
section
variable {α:Type}
def QN.nt(f:α->Nat):QN α->Nat
 |.e=>0
 |.a q=>4*f q+1
 |.b q=>4*f q+2
 |.c q=>4*f q+3
 |.d q=>4*f q+4
def QN.sc(s:α->α)(z:α):QN α->QN α
 |.e=>.a z
 |.a q=>.b q
 |.b q=>.c q
 |.c q=>.d q
 |.d q=>.a (s q)
def QN.dg(r:Nat)(q:α):QN α :=
 match r with
 |0=>.a q
 |1=>.b q
 |2=>.c q
 |_=>.d q
def QN.of(f:Nat->α)(n:Nat):QN α :=
 match n with
 |0=>.e
 |m+1=>QN.dg (m%4) (f (m/4))
def QN.bq(f:α->α->Bool):QN α->QN α->Bool
 |.e,.e=>true
 |.a p,.a q=>f p q
 |.b p,.b q=>f p q
 |.c p,.c q=>f p q
 |.d p,.d q=>f p q
 |_,_=>false
end
abbrev nt1:Q1->Nat:=QN.nt QR.nat
abbrev nt2:Q2->Nat:=QN.nt nt1
abbrev nt3:Q3->Nat:=QN.nt nt2
abbrev nt4:Q4->Nat:=QN.nt nt3
abbrev nt5:Q5->Nat:=QN.nt nt4
abbrev nt6:Q6->Nat:=QN.nt nt5
abbrev nt7:Q7->Nat:=QN.nt nt6
abbrev nt8:Q8->Nat:=QN.nt nt7
abbrev nt9:Q9->Nat:=QN.nt nt8
abbrev of1:Nat->Q1:=QN.of QR.of
abbrev of2:Nat->Q2:=QN.of of1
abbrev of3:Nat->Q3:=QN.of of2
abbrev of4:Nat->Q4:=QN.of of3
abbrev of5:Nat->Q5:=QN.of of4
abbrev of6:Nat->Q6:=QN.of of5
abbrev of7:Nat->Q7:=QN.of of6
abbrev of8:Nat->Q8:=QN.of of7
abbrev of9:Nat->Q9:=QN.of of8
abbrev Yo:Q1->Q1->Bool:=QN.bq QR.beq
abbrev Yn:Q2->Q2->Bool:=QN.bq Yo
abbrev Ym:Q3->Q3->Bool:=QN.bq Yn
abbrev Yl:Q4->Q4->Bool:=QN.bq Ym
abbrev Yk:Q5->Q5->Bool:=QN.bq Yl
abbrev Yj:Q6->Q6->Bool:=QN.bq Yk
abbrev Yi:Q7->Q7->Bool:=QN.bq Yj
abbrev Yh:Q8->Q8->Bool:=QN.bq Yi
abbrev Yg:Q9->Q9->Bool:=QN.bq Yh
abbrev Xb:Q1->Q1:=QN.sc QR.succ .e
abbrev Xa:Q2->Q2:=QN.sc Xb .e
abbrev X9:Q3->Q3:=QN.sc Xa .e
abbrev X8:Q4->Q4:=QN.sc X9 .e
abbrev X7:Q5->Q5:=QN.sc X8 .e
abbrev X6:Q6->Q6:=QN.sc X7 .e
abbrev X5:Q7->Q7:=QN.sc X6 .e
abbrev X4:Q8->Q8:=QN.sc X5 .e
abbrev X3:Q9->Q9:=QN.sc X4 .e
def Q.nat(q:Q):Nat:=QN.nt nt9 q
def Q.succ(q:Q):Q:=QN.sc X3 .e q
def Q.beq(p q:Q):Bool:=QN.bq Yg p q
def qn(n:Nat):Q:=QN.of of9 n
def TQ.get{α:Type}(z:α):TQ α->QR->α
 |.nil,_=>z
 |.nd v _ _ _ _,.e=>v
 |.nd _ a _ _ _,.a q=>a.get z q
 |.nd _ _ b _ _,.b q=>b.get z q
 |.nd _ _ _ c _,.c q=>c.get z q
 |.nd _ _ _ _ d,.d q=>d.get z q
def TQ.put{α:Type}(z:α)(v:α):QR->TQ α->TQ α
 |.e,.nil=>.nd v .nil .nil .nil .nil
 |.e,.nd _ a b c d=>.nd v a b c d
 |.a q,.nil=>.nd z (TQ.put z v q .nil) .nil .nil .nil
 |.a q,.nd u a b c d=>.nd u (TQ.put z v q a) b c d
 |.b q,.nil=>.nd z .nil (TQ.put z v q .nil) .nil .nil
 |.b q,.nd u a b c d=>.nd u a (TQ.put z v q b) c d
 |.c q,.nil=>.nd z .nil .nil (TQ.put z v q .nil) .nil
 |.c q,.nd u a b c d=>.nd u a b (TQ.put z v q c) d
 |.d q,.nil=>.nd z .nil .nil .nil (TQ.put z v q .nil)
 |.d q,.nd u a b c d=>.nd u a b c (TQ.put z v q d)
def N5.gt{α β U:Type}(g:β->U->α):N5 α β->QN U->α
 |t,.e=>t.v
 |t,.a q=>g t.a q
 |t,.b q=>g t.b q
 |t,.c q=>g t.c q
 |t,.d q=>g t.d q
def N5.pt{α β U:Type}(p:U->β->β)(v:α):QN U->N5 α β->N5 α β
 |.e,.mk _ a b c d=>.mk v a b c d
 |.a q,.mk u a b c d=>.mk u (p q a) b c d
 |.b q,.mk u a b c d=>.mk u a (p q b) c d
 |.c q,.mk u a b c d=>.mk u a b (p q c) d
 |.d q,.mk u a b c d=>.mk u a b c (p q d)
section
variable {α:Type}[gm α]
def SU:T1 α:=.mk gm.z .nil .nil .nil .nil
def SS:T2 α:=.mk gm.z SU SU SU SU
def SQ:T3 α:=.mk gm.z SS SS SS SS
def SP:T4 α:=.mk gm.z SQ SQ SQ SQ
def SO:T5 α:=.mk gm.z SP SP SP SP
def SN:T6 α:=.mk gm.z SO SO SO SO
def S2:T7 α:=.mk gm.z SN SN SN SN
def SZ:T8 α:=.mk gm.z S2 S2 S2 S2
def uI:T9 α:=.mk gm.z SZ SZ SZ SZ
def T.nil:T α:=N5.mk gm.z uI uI uI uI
abbrev g1:T1 α->Q1->α:=N5.gt (TQ.get gm.z)
abbrev g2:T2 α->Q2->α:=N5.gt g1
abbrev g3:T3 α->Q3->α:=N5.gt g2
abbrev g4:T4 α->Q4->α:=N5.gt g3
abbrev g5:T5 α->Q5->α:=N5.gt g4
abbrev g6:T6 α->Q6->α:=N5.gt g5
abbrev g7:T7 α->Q7->α:=N5.gt g6
abbrev g8:T8 α->Q8->α:=N5.gt g7
abbrev g9:T9 α->Q9->α:=N5.gt g8
def T.get(_:α)(t:T α)(q:Q):α:=N5.gt g9 t q
abbrev p1(v:α):Q1->T1 α->T1 α:=N5.pt (TQ.put gm.z v) v
abbrev p2(v:α):Q2->T2 α->T2 α:=N5.pt (p1 v) v
abbrev p3(v:α):Q3->T3 α->T3 α:=N5.pt (p2 v) v
abbrev p4(v:α):Q4->T4 α->T4 α:=N5.pt (p3 v) v
abbrev p5(v:α):Q5->T5 α->T5 α:=N5.pt (p4 v) v
abbrev p6(v:α):Q6->T6 α->T6 α:=N5.pt (p5 v) v
abbrev p7(v:α):Q7->T7 α->T7 α:=N5.pt (p6 v) v
abbrev p8(v:α):Q8->T8 α->T8 α:=N5.pt (p7 v) v
abbrev p9(v:α):Q9->T9 α->T9 α:=N5.pt (p8 v) v
def T.put(_:α)(v:α)(q:Q)(t:T α):T α:=N5.pt (p9 v) v q t
end
def Jl(n:Nat)(k:Q->aa):aa:=k (qn n)
def k9(q:Q)(k:Q->aa):aa:=k q.succ
def Vq{α:Type}[gm α](z:α)(q:Q)(t:T α)(k:α->aa):aa:=k (t.get z q)
def VX{α:Type}[gm α](z:α)(v:α)(q:Q)(t:T α)(k:T α->aa):aa:=k (t.put z v q)
def Vp(q:Q)(fe:Q->CF)(k:CF->aa):aa:=k (fe q)
abbrev gV(q:Q)(t:T V)(k:V->aa):aa:=Vq V.undef q t k
abbrev pV(v:V)(q:Q)(t:T V)(k:T V->aa):aa:=VX V.undef v q t k
abbrev gO(q:Q)(h:T O)(k:O->aa):aa:=Vq O.dead q h k
abbrev pO(v:O)(q:Q)(h:T O)(k:T O->aa):aa:=VX O.dead v q h k
def T.vT(z:V):List V->Q->T V->T V
 |[],_,t=>t
 |v::vs,q,t=>T.vT z vs q.succ (t.put z v q)
def T.ofList(vs:List V):T V:=T.vT V.undef vs .e .nil
def j8(vs:List V)(i:Nat)(t:T V)(k:T V->aa):aa :=
 @List.rec V (λ_=>Nat->T V->(T V->aa)->aa) (λ_ t k=>k t) (λv _ ih i t k=>Jl i λq=>pV v q t λt'=>aZ (i+1) λi'=>ih i' t' k) vs i t k
def tJ(n:Nat)(i:Nat)(t:T V)(k:List V->aa):aa :=
 @Nat.rec (λ_=>Nat->(List V->aa)->aa) (λ_ k=>k []) (λ_ ih i k=>Jl i λq=>gV q t λv=>aZ (i+1) λi'=>ih i' λl=>k (v::l)) n i k
def sA{α:Type}(l:List α)(k:Nat->aa):aa :=
 @List.rec α (λ_=>(Nat->aa)->aa) (λk=>k 0) (λ_ _ ih k=>ih λn=>aZ (n+1) k) l k
def ui{α:Type}(l:List α)(n:Nat)(k:α->aa):aa :=
 @List.rec α (λ_=>Nat->aa) (λ_=>.bad 1) (λv _ ih n=>@Nat.rec (λ_=>aa) (k v) (λm _=>ih m) n) l n
def xK(x:X)(tm:T V)(k:V->aa):aa :=
 match x with
 |.t q=>gV q tm k
 |.c v=>k v
 |.bad=>.bad 2
def Hy(xs:List X)(tm:T V)(k:List V->aa):aa :=
 @List.rec X (λ_=>(List V->aa)->aa) (λk=>k []) (λx _ ih k=>xK x tm λv=>ih λl=>k (v::l)) xs k
def NP(v:V)(k:IntKind->Int->aa):aa :=
 match v with
 |.int kd n=>k kd n
 |_=>.bad 3
def KP(v:V)(k:Bool->aa):aa :=
 match v with
 |.bool b=>k b
 |_=>.bad 4
def Kh(v:V)(k:Nat->aa):aa :=
 match v with
 |.int _ n=>(match n with
  |.ofNat m=>k m
  |.negSucc _=>.bad 5)
 |_=>.bad 6
def Kg(v:V)(k:Q->Nat->aa):aa :=
 match v with
 |.ptr o off=>k o off
 |_=>.bad 7
def KO(v:V)(k:Nat->Nat->aa):aa :=
 match v with
 |.str l n=>k l n
 |_=>.bad 8
def Nt(v:V)(k:List V->aa):aa :=
 match v with
 |.agg l=>k l
 |_=>.bad 9
def fq(o:O)(k:Nat->T V->aa):aa :=
 match o with
 |.row n t _ _ _ _=>k n t
 |.ro n t=>k n t
 |_=>.bad 10
def wZ(o:O)(k:List (V×V)->aa):aa :=
 match o with
 |.map es=>k es
 |.mc es=>k es
 |_=>.bad 11
def Qg(o:O)(es:List (V×V)):O :=
 match o with
 |.map _=>.map es
 |_=>.mc es
def Jo(k:IntKind):Nat :=
 match k with
 |.i8=>0|.i16=>1|.i32=>2|.i64=>3|.u8=>4|.u16=>5|.u32=>6|.u64=>7
def M3(k:IntKind):Nat :=
 match k with
 |.i8=>127|.i16=>32767|.i32=>2147483647|.i64=>9223372036854775807|.u8=>255|.u16=>65535|.u32=>4294967295|.u64=>18446744073709551615
def iV(k:IntKind)(n:Int)(kn:Int->aa):aa :=
 match n with
 |.ofNat m=>aZ m λm=>(match Nat.ble m (M3 k) with
  |true=>kn (.ofNat m)
  |false=>wJ (k.wrap (.ofNat m)) kn)
 |.negSucc m=>wJ (k.wrap (.negSucc m)) kn
def Nz(x y:Int):Int :=
 match x,y with
 |.ofNat a,.ofNat b=>(match Nat.ble b a with
  |true=>.ofNat (a-b)
  |false=>.negSucc (b-a-1))
 |x,y=>x-y
def Se(x y:Int):Int :=
 match x,y with
 |.ofNat a,.ofNat b=>.ofNat (a+b)
 |x,y=>x+y
def Vl(x y:Int):Int :=
 match x,y with
 |.ofNat a,.ofNat b=>.ofNat (a*b)
 |x,y=>x*y
def LB(x y:Int):Bool :=
 match x,y with
 |.ofNat a,.ofNat b=>Nat.ble a b
 |.ofNat _,.negSucc _=>false
 |.negSucc _,.ofNat _=>true
 |.negSucc a,.negSucc b=>Nat.ble b a
def L3(x y:Int):Bool :=
 match x,y with
 |.ofNat a,.ofNat b=>Nat.beq a b
 |.negSucc a,.negSucc b=>Nat.beq a b
 |_,_=>false
def bK(b:Bool)(k:V->aa):aa :=
 match b with
 |true=>k (.bool true)
 |false=>k (.bool false)
def pL(l:Nat):Nat:=Nat.pow 2 (8*l)
def qA(op:BinOp)(kd:IntKind)(x y:Int)(k:V->aa):aa :=
 match op with
 |.add=>iV kd (Se x y) λn=>k (.int kd n)
 |.sub=>iV kd (Nz x y) λn=>k (.int kd n)
 |.mul=>iV kd (Vl x y) λn=>k (.int kd n)
 |.rem=>gd (!L3 y 0) 12 (wJ (x.tmod y) λn=>k (.int kd n))
 |.eql=>bK (L3 x y) k
 |.neq=>bK (!L3 x y) k
 |.lss=>bK (!LB y x) k
 |.leq=>bK (LB x y) k
 |.gtr=>bK (!LB x y) k
 |.geq=>bK (LB y x) k
 |_=>.bad 13
def OJ(op:BinOp)(l n m j:Nat)(k:V->aa):aa :=
 match op with
 |.add=>gd (Nat.ble (l+m) 4294967296) 14 (aZ (l+m) λl'=>aZ (n+j*pL l) λn'=>k (.str l' n'))
 |.eql=>bK (Nat.beq l m&&Nat.beq n j) k
 |.neq=>bK (!(Nat.beq l m&&Nat.beq n j)) k
 |_=>.bad 15
def ry(op:BinOp)(a b:V)(k:V->aa):aa :=
 match a with
 |.int kd x=>(match b with
  |.int IC y=>gd (Nat.beq (Jo kd) (Jo IC)) 16 (qA op kd x y k)
  |_=>.bad 17)
 |.str l n=>(match b with
  |.str m j=>OJ op l n m j k
  |_=>.bad 18)
 |_=>.bad 19
def wX(o:O):Bool :=
 match o with
 |.row _ _ _ _ _ _=>true
 |_=>false
def JA(h:T O)(o:Q)(off:Nat)(o':Q)(DN:Nat)(k:Bool->aa):aa :=
 match o.beq o' with
 |true=>(match Nat.beq off DN with
  |true=>k true
  |false=>gO o h λx=>gd (wX x) 20 (k false))
 |false=>gO o h λx=>gO o' h λy=>gd (wX x&&wX y) 20 (k false)
def Zl(x:RK)(k:Bool->aa):aa :=
 match x with
 |.sl _ _ _=>k false
 |_=>.bad 21
def Gv(m:oz)(h:T O)(a b:V)(k:Bool->aa):aa :=
 match m with
 |.ly=>(match a with
  |.jk=>k true
  |.sl _ _ _ _=>k false
  |.su _ _ _ _=>k false
  |.se=>k false
  |.rr x=>Zl x k
  |_=>.bad 21)
 |.px=>(match a with
  |.mo=>k true
  |.map _=>k false
  |_=>.bad 21)
 |.pn=>(match a with
  |.nf=>k true
  |.fn _ _ _=>k false
  |.bN _=>k false
  |_=>.bad 21)
 |.pp=>(match a with
  |.lz=>k true
  |.kh _ _=>k false
  |_=>.bad 21)
 |.bool=>KP a λx=>KP b λy=>k (x==y)
 |.ptr=>(match a with
  |.nw=>(match b with
   |.nw=>k true
   |.ptr _ _=>k false
   |_=>.bad 23)
  |.ptr o off=>(match b with
   |.nw=>k false
   |.ptr o' DN=>JA h o off o' DN k
   |_=>.bad 24)
  |_=>.bad 25)
def cz(v:V):List V :=
 match v with
 |.agg l=>l
 |v=>[v]
def Jd(v:V)(k:List V->aa):aa :=
 match v with
 |.agg l=>k l
 |.aj _=>.bad 110
 |.bot=>.bad 111
 |v=>k [v]
def oU:List V->Nat->List V->(List V->aa)->aa
 |[],off,new,k=>(match off with
  |0=>(match new with
   |[]=>k []
   |_=>.bad 26)
  |_+1=>.bad 27)
 |x::r,off,new,k=>(match off with
  |off+1=>oU r off new λl'=>k (x::l')
  |0=>(match new with
   |[]=>k (x::r)
   |v::vs=>oU r 0 vs λl'=>k (v::l')))
def cr(tm:T V):List (Nat×Nat×X)->List V->(List V->aa)->aa
 |[],l,k=>k l
 |(off,n,x)::ps,l,k=>xK x tm λv=>Jd v λc=>sA c λm=>gd (Nat.beq m n) 28 (oU l off c λl'=>cr tm ps l' k)
def oW(n:Nat)(l:List V)(k:List V->aa):aa :=
 match n with
 |0=>k []
 |n+1=>(match l with
  |[]=>.bad 30
  |v::r=>oW n r λl'=>k (v::l'))
def uA(off n:Nat)(l:List V)(k:List V->aa):aa :=
 match off with
 |0=>oW n l k
 |off+1=>(match l with
  |[]=>.bad 31
  |_::r=>uA off n r k)
def NJ(agg:Bool)(off n:Nat)(l:List V)(k:V->aa):aa :=
 match agg with
 |true=>uA off n l λl'=>k (.agg l')
 |false=>ui l off k
def xU(x:Option X)(tm:T V)(d:Nat)(k:Nat->aa):aa :=
 match x with
 |none=>k d
 |some x=>xK x tm λv=>Kh v k
def gA(f:FK)(x y:V)(k:Bool->aa):aa :=
 match f with
 |.b=>(match x with
  |.bool a=>(match y with
   |.bool b=>k (a==b)
   |_=>.bad 37)
  |_=>.bad 37)
 |.s=>(match x with
  |.str l n=>(match y with
   |.str m j=>k (Nat.beq l m&&Nat.beq n j)
   |_=>.bad 37)
  |_=>.bad 37)
 |.i=>(match x with
  |.int kd a=>(match y with
   |.int IC b=>gd (Nat.beq (Jo kd) (Jo IC)) 37 (k (L3 a b))
   |_=>.bad 37)
  |_=>.bad 37)
def fL:List FK->List V->List V->(Bool->aa)->aa
 |[],[],[],k=>k true
 |f::fs,x::xs,y::ys,k=>gA f x y λb=>(match b with
  |true=>fL fs xs ys k
  |false=>k false)
 |_,_,_,_=>.bad 37
def gK(s:KK)(h:T O)(x y:V)(k:Bool->aa):aa :=
 match s with
 |.str=>(match x with
  |.str l n=>(match y with
   |.str m j=>k (Nat.beq l m&&Nat.beq n j)
   |_=>.bad 32)
  |_=>.bad 35)
 |.int=>(match x with
  |.int kd a=>(match y with
   |.int IC b=>gd (Nat.beq (Jo kd) (Jo IC)) 33 (k (L3 a b))
   |_=>.bad 34)
  |_=>.bad 35)
 |.st fs=>(match x with
  |.agg l=>(match y with
   |.agg m=>fL fs l m k
   |_=>.bad 34)
  |_=>.bad 35)
 |.ptr=>(match x with
  |.ptr o a=>(match y with
   |.ptr o' b=>JA h o a o' b k
   |_=>.bad 34)
  |_=>.bad 35)
def jO(s:KK)(x:V)(k:aa):aa :=
 match s with
 |.st fs=>(match x with
  |.agg cs=>sA cs λn=>sA fs λm=>gd (Nat.beq n m) 38 k
  |_=>.bad 38)
 |_=>k
def kR(s:KK)(h:T O)(x:V):List (V×V)->(V->aa)->aa->aa
 |[],_,kn=>kn
 |(y,v)::es,k,kn=>gK s h x y λb=>match b with
  |true=>k v
  |false=>kR s h x es k kn
def uM(s:KK)(h:T O)(x:V)(f:V->V)(z:V):List (V×V)->Nat->(List (V×V)->Nat->V->aa)->aa
 |[],i,k=>k [(x,f z)] i z
 |(y,u)::es,i,k=>gK s h x y λb=>match b with
  |true=>k ((x,f u)::es) i u
  |false=>aZ (i+1) λi'=>uM s h x f z es i' λDL j w=>k ((y,u)::DL) j w
def Vb(v:V):Nat->List (V×V)->(List (V×V)->aa)->aa
 |_,[],_=>.bad 36
 |0,(y,_)::es,k=>k ((y,v)::es)
 |i+1,e::es,k=>Vb v i es λDL=>k (e::DL)
def xz(sz:Nat)(x:RK)(i:Nat)(k:V->aa):aa :=
 match x with
 |.sl o off len=>gd (Nat.blt i len) 37 (aZ (off+i*sz) λa=>k (.rr (.ptr o a)))
 |_=>.bad 38
def Vf(x:RK)(k:Nat->aa):aa :=
 match x with
 |.sl _ _ len=>k len
 |.e=>k 0
 |.z=>k 0
 |_=>.bad 39
def OE(x:RK)(lo hi:Nat)(mx:Option Nat)(k:V->aa):aa :=
 match x with
 |.sl o off len=>(match mx with
  |none=>gd (Nat.beq lo 0&&Nat.ble hi len) 45 (match hi with
   |0=>k (.rr .e)
   |hi=>k (.rr (.sl o off hi)))
  |some m=>gd (Nat.beq lo 0&&Nat.beq hi 0&&Nat.beq m 0) 45 (k (.rr .z)))
 |.e=>(match mx with
  |none=>gd (Nat.beq lo 0&&Nat.beq hi 0) 45 (k (.rr .e))
  |some m=>gd (Nat.beq lo 0&&Nat.beq hi 0&&Nat.beq m 0) 45 (k (.rr .z)))
 |_=>.bad 45
def v7(sz:Nat)(v:V)(i:Nat)(k:V->aa):aa :=
 match v with
 |.sl o off len _=>gd (Nat.blt i len) 36 (aZ (off+i*sz) λa=>k (.ptr o a))
 |.su o off len _=>gd (Nat.blt i len) 37 (aZ (off+i*sz) λa=>k (.ptr o a))
 |.rr x=>xz sz x i k
 |_=>.bad 38
def tw(v:V)(k:Nat->aa):aa :=
 match v with
 |.jk=>k 0
 |.sl _ _ len _=>k len
 |.su _ _ len _=>k len
 |.se=>k 0
 |.rr x=>Vf x k
 |_=>.bad 39
def yZ(sz:Nat)(v:V)(lo:Nat)(hi:Nat)(mx:Option Nat)(k:V->aa):aa :=
 match v with
 |.jk=>gd (Nat.beq lo 0&&Nat.beq hi 0&&(match mx with|none=>true|some m=>Nat.beq m 0)) 40 (k .jk)
 |.sl o off len cap=>(match mx with
  |none=>gd (Nat.ble lo hi&&Nat.ble hi cap) 41 (aZ (hi-lo) λl=>aZ (cap-lo) λc=>(match Nat.beq lo cap with
   |true=>k (.sl o off l c)
   |false=>aZ (off+lo*sz) λa=>k (.sl o a l c)))
  |some m=>gd (Nat.ble lo hi&&Nat.ble hi m&&Nat.ble m cap) 42 (aZ (hi-lo) λl=>aZ (m-lo) λc=>(match Nat.beq lo m with
   |true=>k (.sl o off l c)
   |false=>aZ (off+lo*sz) λa=>k (.sl o a l c))))
 |.su o off len G1=>(match mx with
  |none=>gd (Nat.beq sz G1&&Nat.ble lo hi&&Nat.ble hi len) 43 (match Nat.blt lo len with
   |true=>aZ (hi-lo) λl=>aZ (off+lo*sz) λa=>k (.su o a l sz)
   |false=>(match Nat.beq lo 0 with
    |true=>k (.su o off 0 sz)
    |false=>k .se))
  |some m=>gd (Nat.ble lo hi&&Nat.ble hi m&&Nat.ble m len) 44 (aZ (hi-lo) λl=>aZ (m-lo) λc=>(match Nat.beq lo m with
   |true=>k (.sl o off l c)
   |false=>aZ (off+lo*sz) λa=>k (.sl o a l c))))
 |.se=>(match mx with
  |none=>gd (Nat.beq lo 0&&Nat.beq hi 0) 45 (k .se)
  |some _=>.bad 45)
 |.rr x=>OE x lo hi mx k
 |_=>.bad 45
def Jn(h:T O)(o:Q)(off:Nat)(k:V->aa):aa :=
 gO o h λob=>fq ob λn t=>gd (Nat.blt off n) 46 (Jl off λq=>gV q t k)
def mW(h:T O)(o:Q)(off n:Nat)(k:List V->aa):aa :=
 gO o h λob=>fq ob λm t=>gd (Nat.ble (off+n) m) 47 (tJ n off t k)
def vG(v:V)(k:Q->Nat->aa)(kr:RK->aa):aa :=
 match v with
 |.ptr o off=>k o off
 |.rr x=>kr x
 |_=>.bad 7
def NW(o:O)(k:Nat->T V->aa):aa :=
 match o with
 |.rb n t=>k n t
 |_=>.bad 132
def Li(h:T O)(x:RK)(k:V->aa):aa :=
 match x with
 |.ptr o off=>gO o h λob=>NW ob λn t=>gd (Nat.blt off n) 46 (Jl off λq=>gV q t k)
 |_=>.bad 46
def eo(h:T O)(o:Q)(off n:Nat)(k:List V->aa):aa :=
 gO o h λob=>NW ob λm t=>gd (Nat.ble (off+n) m) 47 (tJ n off t k)
def tv(h:T O)(x:RK)(n:Nat)(k:List V->aa):aa :=
 match x with
 |.ptr o off=>eo h o off n k
 |_=>.bad 47
def Nl(x:RK)(off:Nat)(k:V->aa):aa :=
 match x with
 |.ptr o a=>aZ (a+off) λa'=>k (.rr (.ptr o a'))
 |_=>.bad 48
def SV(x:RK)(k:V->aa):aa :=
 match x with
 |.ptr o off=>k (.rr (.ptr o off))
 |_=>.bad 48
def yD(ok:Bool)(z:V)(k:V->aa):aa :=
 match ok with
 |true=>k (.aj [z,.bool false])
 |false=>.bad 120
def Oc(ok:Bool)(t:Nat)(z:V)(v:V)(k:V->aa):aa :=
 match v with
 |.kh t' u=>(match Nat.beq t' t with
  |true=>(match ok with
   |true=>k (.aj [u,.bool true])
   |false=>k u)
  |false=>yD ok z k)
 |.lz=>yD ok z k
 |_=>.bad 121
def pK(b:PB)(tm:T V)(h:T O)(k:V->aa):aa :=
 match b with
 |.mv x=>xK x tm k
 |.pick c x y=>xK c tm λv=>KP v λt=>(match t with
  |true=>xK x tm k
  |false=>xK y tm k)
 |.bin op x y=>xK x tm λa=>xK y tm λb=>ry op a b k
 |.eq neg m x y=>xK x tm λa=>xK y tm λb=>Gv m h a b λt=>bK (neg != t) k
 |.not x=>xK x tm λv=>KP v λt=>bK (!t) k
 |.neg _=>.bad 140
 |.cvi kd x=>xK x tm λv=>NP v λ_ n=>iV kd n λn'=>k (.int kd n')
 |.cis _=>.bad 140
 |.ctu _=>.bad 140
 |.cfu _ _ _=>.bad 140
 |.cvs _=>.bad 140
 |.bld z ps=>cr tm ps z λl=>k (.agg l)
 |.ld1 x=>xK x tm λv=>vG v (λo off=>Jn h o off k) λx=>Li h x k
 |.ldn n x=>xK x tm λv=>vG v (λo off=>mW h o off n λl=>k (.agg l)) λx=>tv h x n λl=>k (.agg l)
 |.nck x=>xK x tm λv=>(match v with
  |.rr x=>SV x k
  |.ptr o off=>k (.ptr o off)
  |.fn f fs cs=>k (.fn f fs cs)
  |.kh t u=>k (.kh t u)
  |.bN l=>k (.bN l)
  |_=>.bad 48)
 |.fa off x=>xK x tm λv=>vG v (λo a=>aZ (a+off) λa'=>k (.ptr o a')) λx=>Nl x off k
 |.fd agg off n x=>xK x tm λv=>Nt v λl=>NJ agg off n l k
 |.ia sz x i=>xK x tm λv=>xK i tm λj=>Kh j λj=>v7 sz v j k
 |.iaa len sz x i=>xK x tm λv=>xK i tm λj=>Kh j λj=>Kg v λo a=>gd (Nat.blt j len) 49 (aZ (a+j*sz) λa'=>k (.ptr o a'))
 |.ixs x i=>xK x tm λv=>xK i tm λj=>Kh j λj=>KO v λl n=>gd (Nat.blt j l) 50 (aZ (n/pL j%256) λc=>k (.int .u8 (.ofNat c)))
 |.ixa agg len sz x i=>xK x tm λv=>xK i tm λj=>Kh j λj=>Nt v λl=>gd (Nat.blt j len) 51 (aZ (j*sz) λa=>NJ agg a sz l k)
 |.slS x lo hi=>xK x tm λv=>KO v λl n=>xU lo tm 0 λa=>xU hi tm l λb=>gd (Nat.ble a b&&Nat.ble b l) 52 (aZ (b-a) λl'=>aZ (n/pL a%pL (b-a)) λn'=>k (.str l' n'))
 |.slL sz x lo hi mx=>xK x tm λv=>tw v λlen=>xU lo tm 0 λa=>xU hi tm len λb=>(match mx with
  |none=>yZ sz v a b none k
  |some m=>xK m tm λm=>Kh m λm=>yZ sz v a b (some m) k)
 |.mki t x=>xK x tm λv=>k (.kh t v)
 |.mkf f fs caps=>Hy fs tm λl=>Hy caps tm λm=>k (.fn f l m)
 |.lk s ok z m key=>xK m tm λm=>xK key tm λx=>jO s x (match m with
  |.mo=>(match ok with
   |true=>k (.aj [z,.bool false])
   |false=>k z)
  |.map o=>gO o h λob=>wZ ob λes=>(match ok with
   |true=>kR s h x es (λv=>k (.aj [v,.bool true])) (k (.aj [z,.bool false]))
   |false=>kR s h x es k (k z))
  |_=>.bad 53)
 |.lenS x=>xK x tm λv=>KO v λl _=>k (.int .i64 (.ofNat l))
 |.lenL x=>xK x tm λv=>tw v λl=>k (.int .i64 (.ofNat l))
 |.lenM x=>xK x tm λv=>(match v with
  |.mo=>k (.int .i64 (.ofNat 0))
  |.map o=>gO o h λob=>wZ ob λes=>sA es λn=>k (.int .i64 (.ofNat n))
  |_=>.bad 54)
 |.sd _=>.bad 140
 |.max x y=>xK x tm λa=>xK y tm λb=>NP a λka n=>NP b λ_ m=>(match LB m n with
  |true=>k (.int ka n)
  |false=>k (.int ka m))
 |.ex i x=>xK x tm λv=>(match v with
  |.aj l=>ui l i k
  |_=>.bad 55)
 |.ta ok t z x=>xK x tm λv=>Oc ok t z v k
 |.bad=>.bad 56
def uF(tm:T V)(sz:Nat):List (Nat×X)->T V->(T V->aa)->aa
 |[],t,k=>k t
 |(i,x)::ps,t,k=>xK x tm λv=>Jd v λc=>sA c λm=>gd (Nat.beq m sz) 57 (j8 c (i*sz) t λt'=>uF tm sz ps t' k)
def aK(b:AB)(tm:T V)(k:O->(Q->V)->aa):aa :=
 match b with
 |.al ty n t=>k (.row n t [] 0 ty true) λq=>.ptr q 0
 |.bx ty n x=>xK x tm λv=>Jd v λc=>sA c λm=>gd (Nat.beq m n) 58 (j8 c 0 .nil λt=>k (.row n t [] 0 ty true) λq=>.ptr q 0)
 |.bsl ty sz len t ps=>uF tm sz ps t λt'=>aZ (len*sz) λn=>k (.row n t' [] 0 ty true) λq=>.sl q 0 len len
 |.mkm=>k (.map []) λq=>.map q
 |.mks _ _ _ _ _=>.bad 140
def wS:List Q->T O->(T O->aa)->aa
 |[],h,k=>k h
 |q::qs,h,k=>pO .dead q h λh'=>wS qs h' k
def KQ(o:Q)(off:Nat)(vs:List V)(h:T O)(k:T O->aa):aa :=
 gO o h λob=>match ob with
  |.row n t B4 CJ ty ex=>sA vs λm=>gd (Nat.ble (off+m) n) 60 (j8 vs off t λt'=>(match Nat.ble CJ off with
   |true=>pO (.row n t' B4 CJ ty ex) o h k
   |false=>wS B4 h λh'=>pO (.row n t' [] 0 ty ex) o h' k))
  |_=>.bad 61
def MO:Nat->Nat->(List V->aa)->aa
 |0,_,k=>k []
 |l+1,n,k=>aZ (n%256) λc=>aZ (n/256) λn'=>MO l n' λcs=>k (.int .u8 (.ofNat c)::cs)
def sm(sz:Nat)(x:RK)(h:T O)(k:Nat->List V->aa):aa :=
 match x with
 |.sl o off len=>eo h o off (len*sz) λl=>k len l
 |.e=>k 0 []
 |.z=>k 0 []
 |_=>.bad 62
def jK(sz:Nat)(v:V)(h:T O)(k:Nat->List V->aa):aa :=
 match v with
 |.jk=>k 0 []
 |.sl o off len _=>(match len with
  |0=>k 0 []
  |len=>mW h o off (len*sz) λl=>k len l)
 |.su o off len _=>(match len with
  |0=>k 0 []
  |len=>mW h o off (len*sz) λl=>k len l)
 |.se=>k 0 []
 |.rr x=>sm sz x h k
 |.str l n=>gd (Nat.beq sz 1) 62 (MO l n λcs=>k l cs)
 |_=>.bad 62
def mC(ty sz:Nat)(len m:Nat)(old new:List V)(h:T O)(nx:Q)(k:V->T O->Q->aa):aa :=
 gd (Nat.ble (len+m) 4294967296) 112 <| j8 old 0 .nil λt=>j8 new (len*sz) t λt'=>aZ ((len+m)*sz) λn=>aZ (len+m) λl=>pO (.row n t' [] 0 ty false) nx h λh'=>k9 nx λnx'=>k (.su nx 0 l sz) h' nx'
def Yq(ty sz:Nat)(x:RK)(m:Nat)(new:List V)(h:T O)(nx:Q)(k:V->T O->Q->aa):aa :=
 match x with
 |.z=>(match m with
  |0=>k (.rr .z) h nx
  |m=>mC ty sz 0 m [] new h nx k)
 |_=>.bad 66
def Ki(ty sz:Nat)(a:V)(m:Nat)(new:List V)(h:T O)(nx:Q)(k:V->T O->Q->aa):aa :=
 match a with
 |.jk=>(match m with
  |0=>k .jk h nx
  |m=>mC ty sz 0 m [] new h nx k)
 |.rr x=>Yq ty sz x m new h nx k
 |.sl o off len cap=>(match Nat.ble (len+m) cap with
  |true=>(match m with
   |0=>k (.sl o off len cap) h nx
   |m=>KQ o (off+len*sz) new h λh'=>aZ (len+m) λl=>k (.sl o off l cap) h' nx)
  |false=>jK sz (.sl o off len cap) h λ_ old=>mC ty sz len m old new h nx k)
 |.su o off len G1=>gd (Nat.beq sz G1) 63 (match m with
  |0=>k (.su o off len sz) h nx
  |m=>gO o h λob=>(match ob with
   |.row n t B4 CJ HY ex=>(match Nat.ble (off+(len+m)*sz) n with
    |true=>KQ o (off+len*sz) new h λh'=>aZ (len+m) λl=>k (.su o off l sz) h' nx
    |false=>gd (Nat.beq (off+len*sz) n&&Nat.beq off 0&&Nat.beq ty HY&&Nat.ble (len+m) 4294967296) 64 (j8 new n t λt'=>aZ (n+m*sz) λn'=>aZ (len+m) λl=>pO (.ro n t) o h λh'=>pO (.row n' t' (o::B4) n HY false) nx h' λMK=>k9 nx λnx'=>k (.su nx off l sz) MK nx'))
   |_=>.bad 65))
 |_=>.bad 66
def wK(b:WB)(tm:T V)(h:T O)(nx:Q)(k:V->T O->Q->aa):aa :=
 match b with
 |.st n x y=>xK x tm λp=>Kg p λo off=>xK y tm λv=>Jd v λc=>sA c λm=>gd (Nat.beq m n) 67 (KQ o off c h λh'=>k V.undef h' nx)
 |.mu s m key x=>xK m tm λm=>xK key tm λkv=>xK x tm λv=>jO s kv (match m with
  |.map o=>gO o h λob=>wZ ob λes=>uM s h kv (λ_=>v) v es 0 λDL _ _=>pO (Qg ob DL) o h λh'=>k V.undef h' nx
  |_=>.bad 68)
 |.me _ _ _ _=>.bad 140
 |.es _ _ _=>.bad 140
 |.ap ty sz x y=>xK x tm λa=>xK y tm λb=>jK sz b h λm new=>gd (Nat.ble m 16777216) 71 (Ki ty sz a m new h nx k)
 |.us _ _ _=>.bad 140
 |.sb x=>xK x tm λv=>KO v λl n=>MO l n λcs=>j8 cs 0 .nil λt=>pO (.ro l t) nx h λh'=>k9 nx λnx'=>k (.su nx 0 l 1) h' nx'
 |.cp _ _ _=>.bad 140
def SG(a b:V):Bool :=
 match a,b with
 |.bool x,.bool y=>x==y
 |.int k x,.int k' y=>Nat.beq (Jo k) (Jo k')&&L3 x y
 |.str l n,.str m j=>Nat.beq l m&&Nat.beq n j
 |.nw,.nw=>true
 |.ptr o x,.ptr p y=>o.beq p&&Nat.beq x y
 |.jk,.jk=>true
 |.sl o x l c,.sl p y m d=>o.beq p&&Nat.beq x y&&Nat.beq l m&&Nat.beq c d
 |.su o x l c,.su p y m d=>o.beq p&&Nat.beq x y&&Nat.beq l m&&Nat.beq c d
 |.mo,.mo=>true
 |.map o,.map p=>o.beq p
 |.nf,.nf=>true
 |.bN o,.bN p=>o.beq p
 |.lz,.lz=>true
 |_,_=>false
def NL:List V->List V->Bool
 |[],[]=>true
 |a::l,b::m=>(match SG a b with
  |true=>NL l m
  |false=>false)
 |_,_=>false
def MN(a b:V):Bool :=
 match a with
 |.agg l=>(match b with
  |.agg m=>NL l m
  |_=>false)
 |.aj l=>(match b with
  |.aj m=>NL l m
  |_=>false)
 |.fn f l l'=>(match b with
  |.fn g m m'=>f.beq g&&(NL l m&&NL l' m')
  |_=>false)
 |a=>SG a b
abbrev FQ:=Q->Bool->Option Q->List Df->T V->K->List Fr->T O->Q->aa
def qV(dst:Option Q)(v:V)(tm:T V)(k:T V->aa):aa :=
 match dst with
 |some q=>pV v q tm k
 |none=>k tm
def mQ(ih:FQ)(fr:Fr)(cs:List Fr)(v:V)(h:T O)(nx:Q):aa :=
 match fr with
 |.mk f dk rd ds tm k=>(match k with
  |.reg l k=>(match l with
   |.op (.mk dst _ _)::l'=>qV dst v tm λtm'=>ih f dk rd ds tm' (.reg l' k) cs h nx
   |_=>.bad 80)
  |.mn l k=>ih f dk rd ds tm (.oZ l k) cs h nx
  |_=>.bad 81)
def fG(tm:T V)(h:T O):List RV->(List V->aa)->aa
 |[],k=>k []
 |.t q::r,k=>gV q tm λv=>fG tm h r λl=>k (v::l)
 |.cell agg n q::r,k=>gV q tm λp=>Kg p λo off=>(match agg with
  |true=>mW h o off n λl=>fG tm h r λl'=>k (.agg l::l')
  |false=>Jn h o off λv=>fG tm h r λl'=>k (v::l'))
def SY(l:List V):V :=
 match l with
 |[v]=>v
 |l=>.aj l
def mH(vs:List V)(q:Q)(t:T V)(k:T V->aa):aa :=
 @List.rec V (λ_=>Q->T V->(T V->aa)->aa) (λ_ t k=>k t) (λv _ ih q t k=>pV v q t λt'=>k9 q λq'=>ih q' t' k) vs q t k
def vd:List Q->List V->T V->(T V->aa)->aa
 |[],[],t,k=>k t
 |q::qs,v::vs,t,k=>pV v q t λt'=>vd qs vs t' k
 |_,_,_,_=>.bad 82
def uE(l m:List V)(k:List V->aa):aa :=
 match l with
 |[]=>k m
 |v::r=>uE r m λl'=>k (v::l')
def tC(c:Nat):Nat->Nat->Nat->(Int->aa)->aa
 |0,_,_,k=>k (.negSucc 0)
 |l+1,s,i,k=>(match Nat.beq (s%256) c with
  |true=>k (.ofNat i)
  |false=>aZ (s/256) λs'=>aZ (i+1) λi'=>tC c l s' i' k)
def yY(c:Nat):Nat->Nat->Nat->(Nat->aa)->aa
 |0,_,n,k=>k n
 |l+1,s,n,k=>(match Nat.beq (s%256) c with
  |true=>aZ (s/256) λs'=>aZ (n+1) λn'=>yY c l s' n' k
  |false=>aZ (s/256) λs'=>yY c l s' n k)
def Sd(v:V)(k:Nat->aa):aa :=
 match v with
 |.int .u8 n=>(match n with
  |.ofNat c=>gd (Nat.blt c 256) 79 (k c)
  |.negSucc _=>.bad 79)
 |_=>.bad 79
def dw(n:Nat)(args:List V)(k:V->aa):aa :=
 match n with
 |0=>(match args with
  |[x,y]=>KO x λl s=>Sd y λc=>tC c l s 0 λi=>k (.int .i64 i)
  |_=>.bad 79)
 |1=>(match args with
  |[x,y]=>KO x λl s=>Sd y λc=>yY c l s 0 λi=>k (.int .i64 (.ofNat i))
  |_=>.bad 79)
 |_=>(match args with
  |[x]=>k x
  |_=>.bad 79)
def I7:GT->Nat->Nat->(V->aa)->aa
 |.any v,_,_,k=>k v
 |.leaf l n v,l',n',k=>gd (Nat.beq l l'&&Nat.beq n n') 131 (k v)
 |.nd p a b,l',n',k=>(match Nat.ble n' p with
  |true=>I7 a l' n' k
  |false=>I7 b l' n' k)
 |.ar _ _ _,_,_,_=>.bad 133
def Vt(g:GT)(x:RK)(k:V->aa):aa :=
 match x with
 |.sl o off len=>(match g with
  |.ar q n v=>gd (o.beq q&&Nat.beq off 0&&Nat.beq len n) 133 (k v)
  |_=>.bad 133)
 |_=>.bad 133
def Qj(g:GT)(l:List V)(k:V->aa):aa :=
 match l with
 |[.rr x]=>Vt g x k
 |_=>.bad 133
def OP(g:GT)(args:List V)(k:V->aa):aa :=
 match args with
 |[]=>I7 g 0 0 k
 |[x]=>(match x with
  |.str l n=>I7 g l n k
  |.agg l=>Qj g l k
  |_=>I7 g 0 0 k)
 |_=>.bad 134
def Tp(args:List V):Bool :=
 match args with
 |[.rr .e]=>true
 |_=>false
def Vc(cf:CF)(k:List RV->aa):aa :=
 match cf with
 |.mk _ rs=>k rs
 |.nb _ _ rs=>k rs
 |_=>.bad 98
def fZ(fe:Q->CF)(ih:FQ)(f:Q)(args:List V)(dk:Bool)(cs:List Fr)(h:T O)(nx:Q):aa :=
 Vp f fe λcf=>match cf with
  |.none=>.bad 83
  |.ext n=>(match cs with
   |c::BX=>(match dk with
    |false=>dw n args λv=>mQ ih c BX v h nx
    |true=>.bad 78)
   |[]=>.bad 78)
  |.tr g=>(match cs with
   |c::BX=>(match dk with
    |false=>OP g args λv=>mQ ih c BX v h nx
    |true=>.bad 78)
   |[]=>.bad 78)
  |.nb v body _=>(match Tp args with
   |true=>(match cs with
    |c::BX=>(match dk with
     |false=>mQ ih c BX v h nx
     |true=>.bad 78)
    |[]=>.bad 78)
   |false=>mH args .e .nil λtm=>ih f dk none [] tm (.code body .nil) cs h nx)
  |.mk body _=>mH args .e .nil λtm=>ih f dk none [] tm (.code body .nil) cs h nx
def mE(o:O)(k:Nat->Jump->Q->T V->List Q->C->C->Q->aa):aa :=
 match o with
 |.loop (.mk st pend fn tm params B3 body CH)=>k st pend fn tm params B3 body CH
 |_=>.bad 84
def cY(fe:Q->CF)(ih:FQ)(fv:V)(args:List V)(cs:List Fr)(h:T O)(nx:Q):aa :=
 match fv with
 |.fn f fs caps=>uE args caps λl=>uE fs l λl=>fZ fe ih f l false cs h nx
 |.bN l=>gO l h λob=>mE ob λ_ _ fn tm params B3 body _=>vd params args tm λtm'=>ih fn false (some l) [] tm' (.code B3 (.begin (.code body .nil))) cs h nx
 |_=>.bad 85
def jv(ih:FQ)(l:Q)(j:Jump)(b:Bool)(cs:List Fr)(h:T O)(nx:Q):aa :=
 gO l h λob=>mE ob λ_ _ fn tm params B3 body CH=>pO (.loop (.mk (match b with|true=>0|false=>2) j fn tm params B3 body CH)) l h λh' =>
  match cs with
  |[]=>.bad 86
  |c::cs=>mQ ih c cs (.bool b) h' nx
def eP(id:Nat):K->(K->aa)->aa->aa
 |.n_ DC k,kf,kn=>(match Nat.beq DC id with
  |true=>kf k
  |false=>eP id k kf kn)
 |.nil,_,kn=>kn
 |.code _ k,kf,kn=>eP id k kf kn
 |.lp _ k,kf,kn=>eP id k kf kn
 |.sc k,kf,kn=>eP id k kf kn
 |.reg _ k,kf,kn=>eP id k kf kn
 |.mn _ k,kf,kn=>eP id k kf kn
 |.oZ _ k,kf,kn=>eP id k kf kn
 |.begin k,kf,kn=>eP id k kf kn
 |.iN,_,_=>.bad 87
def Qh(dk:Bool)(cs:List Fr)(k:aa):aa :=
 match dk with
 |false=>k
 |true=>(match cs with
  |.mk _ _ _ _ _ .iN::_=>k
  |_=>.bad 88)
def qL(t:Nat):List (Nat×Q)->(Q->aa)->aa
 |[],_=>.bad 122
 |(u,f)::ms,k=>(match Nat.beq u t with
  |true=>k f
  |false=>qL t ms k)
def Vg(fe:Q->CF)(ih:FQ)(ms:List (Nat×Q))(v:V)(vs:List V)(cs:List Fr)(h:T O)(nx:Q):aa :=
 match v with
 |.kh t u=>qL t ms λf=>cY fe ih (.fn f [] []) (u::vs) cs h nx
 |_=>.bad 123
def G3(fe:Q->CF)(ih:FQ)(f:Q)(dk:Bool)(rd:Option Q)(ds:List Df)(tm:T V)(dst:Option Q)(b:OB)(l:List PS)(l0:List PS)(k:K)(cs:List Fr)(h:T O)(nx:Q):aa :=
 match b with
 |.p b=>pK b tm h λv=>qV dst v tm λtm'=>ih f dk rd ds tm' (.reg l k) cs h nx
 |.a b=>aK b tm λob mk=>pO ob nx h λh'=>qV dst (mk nx) tm λtm'=>k9 nx λnx'=>ih f dk rd ds tm' (.reg l k) cs h' nx'
 |.w b=>wK b tm h nx λv h' nx'=>qV dst v tm λtm'=>ih f dk rd ds tm' (.reg l k) cs h' nx'
 |.call x args=>xK x tm λfv=>Hy args tm λvs=>cY fe ih fv vs (.mk f dk rd ds tm (.reg l0 k)::cs) h nx
 |.inv ms x args=>xK x tm λv=>Hy args tm λvs=>Vg fe ih ms v vs (.mk f dk rd ds tm (.reg l0 k)::cs) h nx
 |.dfr x args=>(match rd with
  |some _=>.bad 89
  |none=>xK x tm λfv=>Hy args tm λvs=>(match fv with
   |.fn g fs caps=>uE vs caps λCL=>uE fs CL λCL=>qV dst V.undef tm λtm'=>ih f dk rd (.call g CL::ds) tm' (.reg l k) cs h nx
   |_=>.bad 90))
 |.rcv=>(match rd with
  |some _=>.bad 91
  |none=>Qh dk cs (qV dst .lz tm λtm'=>ih f dk rd ds tm' (.reg l k) cs h nx))
def k7(fe:Q->CF)(ih:FQ)(f:Q)(dk:Bool)(rd:Option Q)(ds:List Df)(tm:T V)(l:List PS)(k:K)(cs:List Fr)(h:T O)(nx:Q):aa :=
 match l with
 |[]=>ih f dk rd ds tm k cs h nx
 |.op (.mk dst g b)::l'=>(match g with
  |none=>G3 fe ih f dk rd ds tm dst b l' l k cs h nx
  |some (q,want)=>gV q tm λv=>(match v with
   |.bool t=>(match t==want with
    |true=>G3 fe ih f dk rd ds tm dst b l' l k cs h nx
    |false=>qV dst V.undef tm λtm'=>ih f dk rd ds tm' (.reg l' k) cs h nx)
   |.aj []=>qV dst V.undef tm λtm'=>ih f dk rd ds tm' (.reg l' k) cs h nx
   |_=>.bad 92))
 |.lu g b q::l'=>(match g with
  |none=>pK b tm h λv=>gV q tm λu=>gd (MN v u) 93 (ih f dk rd ds tm (.reg l' k) cs h nx)
  |some (q',want)=>gV q' tm λv=>(match v with
   |.bool t=>(match t==want with
    |true=>pK b tm h λv=>gV q tm λu=>gd (MN v u) 93 (ih f dk rd ds tm (.reg l' k) cs h nx)
    |false=>ih f dk rd ds tm (.reg l' k) cs h nx)
   |.aj []=>ih f dk rd ds tm (.reg l' k) cs h nx
   |_=>.bad 92))
def mA(ih:FQ)(f:Q)(dk:Bool)(rd:Option Q)(ds:List Df)(tm:T V)(c:C)(k:K)(cs:List Fr)(h:T O)(nx:Q)(fe:Q->CF):aa :=
 match c with
 |.skip=>ih f dk rd ds tm k cs h nx
 |.reg l=>ih f dk rd ds tm (.reg l k) cs h nx
 |.seq a b=>ih f dk rd ds tm (.code a (.code b k)) cs h nx
 |.cond x a b=>xK x tm λv=>KP v λt=>(match t with
  |true=>ih f dk rd ds tm (.code a k) cs h nx
  |false=>ih f dk rd ds tm (.code b k) cs h nx)
 |.block id c=>ih f dk rd ds tm (.code c (.n_ id k)) cs h nx
 |.loop c=>ih f dk rd ds tm (.code c (.lp c k)) cs h nx
 |.scope c=>ih f dk rd ds tm (.code c (.sc k)) cs h nx
 |.exit id=>eP id k (λk'=>ih f dk rd ds tm k' cs h nx) (match rd with
  |none=>.bad 94
  |some l=>jv ih l (.exit id) false cs h nx)
 |.ret=>(match rd with
  |none=>ih f dk rd ds tm .iN cs h nx
  |some l=>jv ih l .ret false cs h nx)
 |.rf x params B3 body=>xK x tm λfv=>(match fv with
  |.fn g fs caps=>uE fs (.bN (match rd with|none=>nx.succ|some _=>nx)::caps) λargs=>(match rd with
   |none=>pO (.kg false) nx h λh1=>k9 nx λn1=>pO (.loop (.mk 0 .none f tm params B3 body nx)) n1 h1 λh2=>k9 n1 λn2 =>
     fZ fe ih g args false (.mk f dk rd (.ml nx::ds) tm (.mn n1 k)::cs) h2 n2
   |some l=>gO l h λob=>mE ob λ_ _ _ _ _ _ _ CH=>pO (.loop (.mk 0 .none f tm params B3 body CH)) nx h λh2=>k9 nx λn2 =>
     fZ fe ih g args false (.mk f dk rd ds tm (.mn nx k)::cs) h2 n2)
  |_=>.bad 95)
 |.bad=>.bad 96
def rowAt(o:O):Option (Nat×T V) :=
 match o with
 |.row n t _ _ _ _=>some (n,t)
 |_=>none
inductive kx where
 |s
 |l (i:Nat)
def ke:Nat->List kx
 |0=>[.s,.l 0]
 |1=>[.s,.s,.l 1]
 |2=>[.s,.s,.s,.s,.l 2,.l 1]
 |3=>[.s,.s,.s,.s,.s,.s,.l 2,.l 1]
 |4=>[.s,.l 0]
 |5=>[.s,.s,.l 6,.l 4,.s,.s,.l 0,.l 3,.s,.s,.s,.s,.l 2,.l 1]
 |_=>[.s]
def sW(v:V):V :=
 match v with
 |.int k n=>.int k n
 |.str l n=>.str l n
 |.bool b=>.bool b
 |_=>.bot
def Vi(l:List V):V :=
 match l with
 |[x]=>x
 |l=>.agg l
def qi(g:kx->V->V):List kx->T V->Nat->List V
 |[],_,_=>[]
 |s::l,t,off=>g s (t.get V.undef (qn off))::qi g l t (off+1)
def tE(g:kx->V->V)(l:List kx)(o:O)(off len:Nat):V :=
 match rowAt o with
 |some (k,t)=>(match Nat.ble (off+len*l.length) k with
  |true=>.aj ((List.range len).map λj=>Vi (qi g l t (off+j*l.length)))
  |false=>.bot)
 |none=>.bot
def mw:Nat->T O->kx->V->V
 |0,_,_,_=>.bot
 |f+1,h,s,v=>match s with
  |.s=>sW v
  |.l i=>(match v with
   |.jk=>.aj []
   |.se=>.aj []
   |.sl o off len _=>tE (mw f h) (ke i) (h.get O.dead o) off len
   |.su o off len _=>tE (mw f h) (ke i) (h.get O.dead o) off len
   |_=>.bot)
def NV(h:T O):List kx->List V->List V
 |[],[]=>[]
 |s::l,v::vs=>mw 24 h s v::NV h l vs
 |_,_=>[.bot]
def sN(h:T O)(l:List kx)(v:V):V :=
 match v with
 |.agg vs=>.agg (NV h l vs)
 |_=>.bot
def fin(v:V)(h:T O):V :=
 match v with
 |.aj [ty,b]=>.aj [sN h (ke 0) ty,b]
 |.aj [p,a,e]=>.aj [sN h [.l 5] p,a,e]
 |.map o=>(match h.get O.dead o with
  |.map es=>.aj (es.map λp=>.aj [p.1,p.2])
  |_=>.bot)
 |.bool b=>.bool b
 |.int k n=>.int k n
 |_=>.bot
def vn(fe:Q->CF)(ih:FQ)(f:Q)(dk:Bool)(rd:Option Q)(ds:List Df)(tm:T V)(cs:List Fr)(h:T O)(nx:Q):aa :=
 match ds with
 |.ml q::DQ=>gO q h λob=>(match ob with
  |.kg false=>pO (.kg true) q h λh'=>ih f dk rd DQ tm .iN cs h' nx
  |_=>.bad 97)
 |.call g args::DQ=>fZ fe ih g args true (.mk f dk rd DQ tm .iN::cs) h nx
 |[]=>Vp f fe λcf=>Vc cf λrs=>fG tm h rs λvs=>(match cs with
   |[]=>(match dk with
    |false=>.ok (fin (SY vs) h)
    |true=>.bad 99)
   |c::BX=>(match dk with
    |false=>mQ ih c BX (SY vs) h nx
    |true=>(match c with
     |.mk f2 IL Hz FP DZ .iN=>ih f2 IL Hz FP DZ .iN BX h nx
     |_=>.bad 100)))
def aC(fe:Q->CF)(ih:FQ)(f:Q)(dk:Bool)(rd:Option Q)(ds:List Df)(tm:T V)(k:K)(cs:List Fr)(h:T O)(nx:Q):aa :=
 match k with
 |.nil=>(match rd with
  |none=>ih f dk rd ds tm .iN cs h nx
  |some l=>jv ih l .none true cs h nx)
 |.code c k=>mA ih f dk rd ds tm c k cs h nx fe
 |.n_ _ k=>ih f dk rd ds tm k cs h nx
 |.lp c k=>ih f dk rd ds tm (.code c (.lp c k)) cs h nx
 |.sc k=>ih f dk rd ds tm k cs h nx
 |.reg l k=>k7 fe ih f dk rd ds tm l k cs h nx
 |.mn _ _=>.bad 101
 |.oZ l k=>gO l h λob=>mE ob λst pend fn tm' params B3 body CH=>gd (!Nat.beq st 1) 102 (pO (.loop (.mk 3 pend fn tm' params B3 body CH)) l h λh'=>(match pend with
  |.none=>ih f dk rd ds tm k cs h' nx
  |.ret=>ih f dk rd ds tm (.code .ret k) cs h' nx
  |.exit id=>ih f dk rd ds tm (.code (.exit id) k) cs h' nx))
 |.begin k=>(match rd with
  |none=>.bad 103
  |some l=>gO l h λob=>mE ob λst pend fn tm' params B3 body CH=>gd (Nat.beq st 0) 104 (pO (.loop (.mk 1 pend fn tm' params B3 body CH)) l h λh'=>ih f dk rd ds tm k cs h' nx))
 |.iN=>vn fe ih f dk rd ds tm cs h nx
def run(fe:Q->CF)(n:Nat):FQ :=
 @Nat.rec (λ_=>FQ) .fuel (λ_ ih=>aC fe ih) n
end Go.CM
end
