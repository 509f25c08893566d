import Derived.AtR
set_option linter.all false
noncomputable section
namespace Go.CM
inductive QR where
 |e|a (q:QR)|b (q:QR)|c (q:QR)|d (q:QR)
inductive QN (α:Type) where
 |e|a (q:α)|b (q:α)|c (q:α)|d (q:α)
abbrev Q1:=QN QR
abbrev Q2:=QN Q1
abbrev Q3:=QN Q2
abbrev Q4:=QN Q3
abbrev Q5:=QN Q4
abbrev Q6:=QN Q5
abbrev Q7:=QN Q6
abbrev Q8:=QN Q7
abbrev Q9:=QN Q8
def Q:Type:=QN Q9
def Q.e:Q:=QN.e (α:=Q9)
inductive TQ (α:Type) where
 |nil
 |nd (v:α) (a b c d:TQ α)
structure N5 (α β:Type) where
 mk ::
 v:α
 a:β
 b:β
 c:β
 d:β
class Dft (α:Type) where
 z:α
abbrev T1 (α:Type):=N5 α (TQ α)
abbrev T2 (α:Type):=N5 α (T1 α)
abbrev T3 (α:Type):=N5 α (T2 α)
abbrev T4 (α:Type):=N5 α (T3 α)
abbrev T5 (α:Type):=N5 α (T4 α)
abbrev T6 (α:Type):=N5 α (T5 α)
abbrev T7 (α:Type):=N5 α (T6 α)
abbrev T8 (α:Type):=N5 α (T7 α)
abbrev T9 (α:Type):=N5 α (T8 α)
def T (α:Type):Type:=N5 α (T9 α)
instance:Inhabited Q:=⟨Q.e⟩
inductive V where
 |bot
 |bool (b:Bool)
 |int (k:IntKind) (n:Int)
 |str (l n:Nat)
 |nilp
 |ptr (o:Q) (off:Nat)
 |nils
 |sl (o:Q) (off len cap:Nat)
 |su (o:Q) (off len sz:Nat)
 |se
 |nilm
 |map (o:Q)
 |nilf
 |fn (f:Q) (fs caps:List V)
 |yld (l:Q)
 |nili
 |ifc (t:Nat) (v:V)
 |agg (vs:List V)
 |tup (vs:List V)
instance:Inhabited V:=⟨.bot⟩
abbrev V.undef:V:=.tup []
instance:Dft V:=⟨.tup []⟩
inductive X where
 |t (q:Q)
 |c (v:V)
 |bad
inductive FK where
 |b|s|i
inductive KK where
 |str|int|ptr|st (l:List FK)
inductive EqM where
 |ptr|bool|nilS|nilM|nilF|nilI
inductive PB where
 |mv (x:X)
 |pick (c a b:X)
 |bin (op:BinOp) (x y:X)
 |eq (neg:Bool) (m:EqM) (x y:X)
 |not (x:X)
 |neg (x:X)
 |cvi (k:IntKind) (x:X)
 |cvs (x:X)
 |cis (x:X)
 |ctu (x:X)
 |cfu (ty n:Nat) (x:X)
 |bld (z:List V) (ps:List (Nat×Nat×X))
 |ld1 (x:X)
 |ldn (n:Nat) (x:X)
 |nck (x:X)
 |fa (off:Nat) (x:X)
 |fd (agg:Bool) (off n:Nat) (x:X)
 |ia (sz:Nat) (x i:X)
 |iaa (len sz:Nat) (x i:X)
 |ixs (x i:X)
 |ixa (agg:Bool) (len sz:Nat) (x i:X)
 |slS (x:X) (lo hi:Option X)
 |slL (sz:Nat) (x:X) (lo hi mx:Option X)
 |mki (t:Nat) (x:X)
 |mkf (f:Q) (fs caps:List X)
 |lk (s:KK) (ok:Bool) (z:V) (m k:X)
 |lenS (x:X)
 |lenL (x:X)
 |lenM (x:X)
 |sd (x:X)
 |max (x y:X)
 |ex (i:Nat) (x:X)
 |ta (ok:Bool) (t:Nat) (z:V) (x:X)
 |bad
inductive AB where
 |al (ty n:Nat) (t:T V)
 |bx (ty n:Nat) (x:X)
 |bsl (ty sz len:Nat) (t:T V) (ps:List (Nat×X))
 |mkm
 |mks (ty sz:Nat) (z:List V) (len cap:X)
inductive WB where
 |st (n:Nat) (x y:X)
 |mu (s:KK) (m k v:X)
 |me (s:KK) (z:V) (m k:X)
 |es (m s v:X)
 |ap (ty sz:Nat) (x y:X)
 |cp (sz:Nat) (x y:X)
 |sb (x:X)
 |us (ty:Nat) (x n:X)
inductive OB where
 |p (b:PB)
 |a (b:AB)
 |w (b:WB)
 |call (f:X) (args:List X)
 |inv (ms:List (Nat×Q)) (x:X) (args:List X)
 |dfr (f:X) (args:List X)
 |dfd (s:KK) (m key:X)
 |rcv
inductive CO where
 |mk (dst:Option Q) (g:Option (Q×Bool)) (b:OB)
inductive PS where
 |op (o:CO)
 |chk (g:Option (Q×Bool)) (p:PB) (q:Q)
inductive C where
 |skip
 |reg (l:List PS)
 |seq (a b:C)
 |cond (x:X) (a b:C)
 |block (id:Nat) (c:C)
 |loop (c:C)
 |rf (x:X) (params:List Q) (asg body:C)
 |exit (id:Nat)
 |scope (c:C)
 |ret
 |bad
inductive K where
 |nil
 |code (c:C) (k:K)
 |blk (id:Nat) (k:K)
 |lp (c:C) (k:K)
 |sc (k:K)
 |reg (l:List PS) (k:K)
 |inrf (l:Q) (k:K)
 |erf (l:Q) (k:K)
 |begin (k:K)
 |rtn
inductive RV where
 |t (q:Q)
 |cell (agg:Bool) (n:Nat) (q:Q)
inductive CF where
 |none
 |mk (body:C) (rs:List RV)
 |ext (n:Nat)
inductive Jump where
 |none|ret|exit (id:Nat)
inductive Df where
 |call (f:Q) (args:List V)
 |coll (q:Q)
 |del (s:KK) (m key:V)
inductive Lp where
 |mk (st:Nat) (pend:Jump) (fn:Q) (tm:T V) (params:List Q) (asg body:C) (dfs:Q)
inductive O where
 |dead
 |row (n:Nat) (t:T V) (anc:List Q) (flo:Nat) (ty:Nat) (ex:Bool)
 |ro (n:Nat) (t:T V)
 |map (es:List (V×V))
 |mapd (es:List (V×V))
 |loop (l:Lp)
 |dfd (taken:Bool)
instance:Dft O:=⟨.dead⟩
inductive Fr where
 |mk (f:Q) (dk:Bool) (rd:Option Q) (ds:List Df) (tm:T V) (k:K)
inductive Res where
 |ok (v:V)
 |bad (n:Nat)
 |fuel (f:Q) (dk:Bool) (rd:Option Q) (ds:List Df) (tm:T V) (k:K) (cs:List Fr) (h:T O) (nx:Q)
instance:Inhabited Res:=⟨.bad 0⟩
def aX (n:Nat) (k:Nat→Res):Res:=@Nat.rec (fun _=>Res) (k (nat_lit 0)) (fun m _=>k (Nat.succ m)) n
def tN (n:Int) (k:Int→Res):Res :=
 match n with
 |.ofNat m=>aX m fun m=>k (.ofNat m)
 |.negSucc m=>aX m fun m=>k (.negSucc m)
def gd (b:Bool) (n:Nat) (k:Res):Res :=
 match b with
 |true=>k
 |false=>.bad n
def QR.nat:QR→Nat
 |.e=>0
 |.a q=>4 * q.nat+1
 |.b q=>4 * q.nat+2
 |.c q=>4 * q.nat+3
 |.d q=>4 * q.nat+4
def QR.succ:QR→QR
 |.e=>.a .e
 |.a q=>.b q
 |.b q=>.c q
 |.c q=>.d q
 |.d q=>.a q.succ
def QR.ofF:Nat→Nat→QR
 |0,_=>.e
 |f+1,n =>
  match n with
  |0=>.e
  |m+1=>(match m % 4 with
   |0=>.a (QR.ofF f (m / 4))
   |1=>.b (QR.ofF f (m / 4))
   |2=>.c (QR.ofF f (m / 4))
   |_=>.d (QR.ofF f (m / 4)))
def QR.of (n:Nat):QR:=QR.ofF n n
def QR.beq:QR→QR→Bool
 |.e,.e=>true
 |.a p,.a q=>p.beq q
 |.b p,.b q=>p.beq q
 |.c p,.c q=>p.beq q
 |.d p,.d q=>p.beq q
 |_,_=>false
section
variable {α:Type}
def QN.nt (f:α→Nat):QN α→Nat
 |.e=>0
 |.a q=>4 * f q+1
 |.b q=>4 * f q+2
 |.c q=>4 * f q+3
 |.d q=>4 * f q+4
def QN.sc (s:α→α) (z:α):QN α→QN α
 |.e=>.a z
 |.a q=>.b q
 |.b q=>.c q
 |.c q=>.d q
 |.d q=>.a (s q)
def QN.dg (r:Nat) (q:α):QN α :=
 match r with
 |0=>.a q
 |1=>.b q
 |2=>.c q
 |_=>.d q
def QN.of (f:Nat→α) (n:Nat):QN α :=
 match n with
 |0=>.e
 |m+1=>QN.dg (m % 4) (f (m / 4))
def QN.bq (f:α→α→Bool):QN α→QN α→Bool
 |.e,.e=>true
 |.a p,.a q=>f p q
 |.b p,.b q=>f p q
 |.c p,.c q=>f p q
 |.d p,.d q=>f p q
 |_,_=>false
end
abbrev nt1:Q1→Nat:=QN.nt QR.nat
abbrev nt2:Q2→Nat:=QN.nt nt1
abbrev nt3:Q3→Nat:=QN.nt nt2
abbrev nt4:Q4→Nat:=QN.nt nt3
abbrev nt5:Q5→Nat:=QN.nt nt4
abbrev nt6:Q6→Nat:=QN.nt nt5
abbrev nt7:Q7→Nat:=QN.nt nt6
abbrev nt8:Q8→Nat:=QN.nt nt7
abbrev nt9:Q9→Nat:=QN.nt nt8
abbrev of1:Nat→Q1:=QN.of QR.of
abbrev of2:Nat→Q2:=QN.of of1
abbrev of3:Nat→Q3:=QN.of of2
abbrev of4:Nat→Q4:=QN.of of3
abbrev of5:Nat→Q5:=QN.of of4
abbrev of6:Nat→Q6:=QN.of of5
abbrev of7:Nat→Q7:=QN.of of6
abbrev of8:Nat→Q8:=QN.of of7
abbrev of9:Nat→Q9:=QN.of of8
abbrev bq1:Q1→Q1→Bool:=QN.bq QR.beq
abbrev bq2:Q2→Q2→Bool:=QN.bq bq1
abbrev bq3:Q3→Q3→Bool:=QN.bq bq2
abbrev bq4:Q4→Q4→Bool:=QN.bq bq3
abbrev bq5:Q5→Q5→Bool:=QN.bq bq4
abbrev bq6:Q6→Q6→Bool:=QN.bq bq5
abbrev bq7:Q7→Q7→Bool:=QN.bq bq6
abbrev bq8:Q8→Q8→Bool:=QN.bq bq7
abbrev bq9:Q9→Q9→Bool:=QN.bq bq8
abbrev sc1:Q1→Q1:=QN.sc QR.succ .e
abbrev sc2:Q2→Q2:=QN.sc sc1 .e
abbrev sc3:Q3→Q3:=QN.sc sc2 .e
abbrev sc4:Q4→Q4:=QN.sc sc3 .e
abbrev sc5:Q5→Q5:=QN.sc sc4 .e
abbrev sc6:Q6→Q6:=QN.sc sc5 .e
abbrev sc7:Q7→Q7:=QN.sc sc6 .e
abbrev sc8:Q8→Q8:=QN.sc sc7 .e
abbrev sc9:Q9→Q9:=QN.sc sc8 .e
def Q.nat (q:Q):Nat:=QN.nt nt9 q
def Q.succ (q:Q):Q:=QN.sc sc9 .e q
def Q.beq (p q:Q):Bool:=QN.bq bq9 p q
def qn (n:Nat):Q:=QN.of of9 n
def TQ.get {α:Type} (z:α):TQ α→QR→α
 |.nil,_=>z
 |.nd v _ _ _ _,.e=>v
 |.nd _ a _ _ _,.a q=>a.get z q
 |.nd _ _ b _ _,.b q=>b.get z q
 |.nd _ _ _ c _,.c q=>c.get z q
 |.nd _ _ _ _ d,.d q=>d.get z q
def TQ.put {α:Type} (z:α) (v:α):QR→TQ α→TQ α
 |.e,.nil=>.nd v .nil .nil .nil .nil
 |.e,.nd _ a b c d=>.nd v a b c d
 |.a q,.nil=>.nd z (TQ.put z v q .nil) .nil .nil .nil
 |.a q,.nd u a b c d=>.nd u (TQ.put z v q a) b c d
 |.b q,.nil=>.nd z .nil (TQ.put z v q .nil) .nil .nil
 |.b q,.nd u a b c d=>.nd u a (TQ.put z v q b) c d
 |.c q,.nil=>.nd z .nil .nil (TQ.put z v q .nil) .nil
 |.c q,.nd u a b c d=>.nd u a b (TQ.put z v q c) d
 |.d q,.nil=>.nd z .nil .nil .nil (TQ.put z v q .nil)
 |.d q,.nd u a b c d=>.nd u a b c (TQ.put z v q d)
def N5.gt {α β κ:Type} (g:β→κ→α):N5 α β→QN κ→α
 |t,.e=>t.v
 |t,.a q=>g t.a q
 |t,.b q=>g t.b q
 |t,.c q=>g t.c q
 |t,.d q=>g t.d q
def N5.pt {α β κ:Type} (p:κ→β→β) (v:α):QN κ→N5 α β→N5 α β
 |.e,.mk _ a b c d=>.mk v a b c d
 |.a q,.mk u a b c d=>.mk u (p q a) b c d
 |.b q,.mk u a b c d=>.mk u a (p q b) c d
 |.c q,.mk u a b c d=>.mk u a b (p q c) d
 |.d q,.mk u a b c d=>.mk u a b c (p q d)
section
variable {α:Type} [Dft α]
def aEP:T1 α:=.mk Dft.z .nil .nil .nil .nil
def aEo:T2 α:=.mk Dft.z aEP aEP aEP aEP
def aEr:T3 α:=.mk Dft.z aEo aEo aEo aEo
def aEl:T4 α:=.mk Dft.z aEr aEr aEr aEr
def aDh:T5 α:=.mk Dft.z aEl aEl aEl aEl
def aEa:T6 α:=.mk Dft.z aDh aDh aDh aDh
def aEZ:T7 α:=.mk Dft.z aEa aEa aEa aEa
def aDn:T8 α:=.mk Dft.z aEZ aEZ aEZ aEZ
def r7:T9 α:=.mk Dft.z aDn aDn aDn aDn
def T.nil:T α:=N5.mk Dft.z r7 r7 r7 r7
abbrev g1:T1 α→Q1→α:=N5.gt (TQ.get Dft.z)
abbrev g2:T2 α→Q2→α:=N5.gt g1
abbrev g3:T3 α→Q3→α:=N5.gt g2
abbrev g4:T4 α→Q4→α:=N5.gt g3
abbrev g5:T5 α→Q5→α:=N5.gt g4
abbrev g6:T6 α→Q6→α:=N5.gt g5
abbrev g7:T7 α→Q7→α:=N5.gt g6
abbrev g8:T8 α→Q8→α:=N5.gt g7
abbrev g9:T9 α→Q9→α:=N5.gt g8
def T.get (_:α) (t:T α) (q:Q):α:=N5.gt g9 t q
abbrev p1 (v:α):Q1→T1 α→T1 α:=N5.pt (TQ.put Dft.z v) v
abbrev p2 (v:α):Q2→T2 α→T2 α:=N5.pt (p1 v) v
abbrev p3 (v:α):Q3→T3 α→T3 α:=N5.pt (p2 v) v
abbrev p4 (v:α):Q4→T4 α→T4 α:=N5.pt (p3 v) v
abbrev p5 (v:α):Q5→T5 α→T5 α:=N5.pt (p4 v) v
abbrev p6 (v:α):Q6→T6 α→T6 α:=N5.pt (p5 v) v
abbrev p7 (v:α):Q7→T7 α→T7 α:=N5.pt (p6 v) v
abbrev p8 (v:α):Q8→T8 α→T8 α:=N5.pt (p7 v) v
abbrev p9 (v:α):Q9→T9 α→T9 α:=N5.pt (p8 v) v
def T.put (_:α) (v:α) (q:Q) (t:T α):T α:=N5.pt (p9 v) v q t
end
def qnK (n:Nat) (k:Q→Res):Res:=k (qn n)
def lD (q:Q) (k:Q→Res):Res:=k q.succ
def aGJ {α:Type} [Dft α] (z:α) (q:Q) (t:T α) (k:α→Res):Res:=k (t.get z q)
def aGv {α:Type} [Dft α] (z:α) (v:α) (q:Q) (t:T α) (k:T α→Res):Res:=k (t.put z v q)
def aGa (q:Q) (fe:Q→CF) (k:CF→Res):Res:=k (fe q)
abbrev gV (q:Q) (t:T V) (k:V→Res):Res:=aGJ V.undef q t k
abbrev pV (v:V) (q:Q) (t:T V) (k:T V→Res):Res:=aGv V.undef v q t k
abbrev gO (q:Q) (h:T O) (k:O→Res):Res:=aGJ O.dead q h k
abbrev pO (v:O) (q:Q) (h:T O) (k:T O→Res):Res:=aGv O.dead v q h k
def T.ofListF (z:V):List V→Q→T V→T V
 |[],_,t=>t
 |v::vs,q,t=>T.ofListF z vs q.succ (t.put z v q)
def T.ofList (vs:List V):T V:=T.ofListF V.undef vs .e .nil
def jC (vs:List V) (i:Nat) (t:T V) (k:T V→Res):Res :=
 @List.rec V (fun _=>Nat→T V→(T V→Res)→Res) (fun _ t k=>k t) (fun v _ ih i t k=>qnK i fun q=>pV v q t fun t'=>aX (i+1) fun i'=>ih i' t' k) vs i t k
def rQ (n:Nat) (i:Nat) (t:T V) (k:List V→Res):Res :=
 @Nat.rec (fun _=>Nat→(List V→Res)→Res) (fun _ k=>k []) (fun _ ih i k=>qnK i fun q=>gV q t fun v=>aX (i+1) fun i'=>ih i' fun l=>k (v::l)) n i k
def nY {α:Type} (l:List α) (k:Nat→Res):Res :=
 @List.rec α (fun _=>(Nat→Res)→Res) (fun k=>k 0) (fun _ _ ih k=>ih fun n=>aX (n+1) k) l k
def pq {α:Type} (l:List α) (n:Nat) (k:α→Res):Res :=
 @List.rec α (fun _=>Nat→Res) (fun _=>.bad 1) (fun v _ ih n=>@Nat.rec (fun _=>Res) (k v) (fun m _=>ih m) n) l n
def xK (x:X) (tm:T V) (k:V→Res):Res :=
 match x with
 |.t q=>gV q tm k
 |.c v=>k v
 |.bad=>.bad 2
def xsK (xs:List X) (tm:T V) (k:List V→Res):Res :=
 @List.rec X (fun _=>(List V→Res)→Res) (fun k=>k []) (fun x _ ih k=>xK x tm fun v=>ih fun l=>k (v::l)) xs k
def asI (v:V) (k:IntKind→Int→Res):Res :=
 match v with
 |.int kd n=>k kd n
 |_=>.bad 3
def asB (v:V) (k:Bool→Res):Res :=
 match v with
 |.bool b=>k b
 |_=>.bad 4
def asN (v:V) (k:Nat→Res):Res :=
 match v with
 |.int _ n=>(match n with
  |.ofNat m=>k m
  |.negSucc _=>.bad 5)
 |_=>.bad 6
def asP (v:V) (k:Q→Nat→Res):Res :=
 match v with
 |.ptr o off=>k o off
 |_=>.bad 7
def asS (v:V) (k:Nat→Nat→Res):Res :=
 match v with
 |.str l n=>k l n
 |_=>.bad 8
def asA (v:V) (k:List V→Res):Res :=
 match v with
 |.agg l=>k l
 |_=>.bad 9
def xQ (o:O) (k:Nat→T V→Res):Res :=
 match o with
 |.row n t _ _ _ _=>k n t
 |.ro n t=>k n t
 |_=>.bad 10
def pP (o:O) (k:List (V×V)→Res):Res :=
 match o with
 |.map es=>k es
 |.mapd es=>k es
 |_=>.bad 11
def aBQ (o:O) (k:List (V×V)→Res):Res :=
 match o with
 |.map es=>k es
 |_=>.bad 11
def aAb (o:O) (es:List (V×V)):O :=
 match o with
 |.map _=>.map es
 |_=>.mapd es
def ikN (k:IntKind):Nat :=
 match k with
 |.i8=>0|.i16=>1|.i32=>2|.i64=>3|.u8=>4|.u16=>5|.u32=>6|.u64=>7
def ikM (k:IntKind):Nat :=
 match k with
 |.i8=>127|.i16=>32767|.i32=>2147483647|.i64=>9223372036854775807|.u8=>255|.u16=>65535|.u32=>4294967295|.u64=>18446744073709551615
def gX (k:IntKind) (n:Int) (kn:Int→Res):Res :=
 match n with
 |.ofNat m=>aX m fun m=>(match Nat.ble m (ikM k) with
  |true=>kn (.ofNat m)
  |false=>tN (k.wrap (.ofNat m)) kn)
 |.negSucc m=>tN (k.wrap (.negSucc m)) kn
def ng (x y:Int):Int :=
 match x,y with
 |.ofNat a,.ofNat b=>(match Nat.ble b a with
  |true=>.ofNat (a - b)
  |false=>.negSucc (b - a - 1))
 |x,y=>x - y
def aEp (x y:Int):Int :=
 match x,y with
 |.ofNat a,.ofNat b=>.ofNat (a+b)
 |x,y=>x+y
def aH9 (x y:Int):Int :=
 match x,y with
 |.ofNat a,.ofNat b=>.ofNat (a * b)
 |x,y=>x * y
def leI (x y:Int):Bool :=
 match x,y with
 |.ofNat a,.ofNat b=>Nat.ble a b
 |.ofNat _,.negSucc _=>false
 |.negSucc _,.ofNat _=>true
 |.negSucc a,.negSucc b=>Nat.ble b a
def eqI (x y:Int):Bool :=
 match x,y with
 |.ofNat a,.ofNat b=>Nat.beq a b
 |.negSucc a,.negSucc b=>Nat.beq a b
 |_,_=>false
def bK (b:Bool) (k:V→Res):Res :=
 match b with
 |true=>k (.bool true)
 |false=>k (.bool false)
def n5 (l:Nat):Nat:=Nat.pow 2 (8 * l)
def pG (op:BinOp) (kd:IntKind) (x y:Int) (k:V→Res):Res :=
 match op with
 |.add=>gX kd (aEp x y) fun n=>k (.int kd n)
 |.sub=>gX kd (ng x y) fun n=>k (.int kd n)
 |.mul=>gX kd (aH9 x y) fun n=>k (.int kd n)
 |.rem=>gd (!eqI y 0) 12 (tN (x.tmod y) fun n=>k (.int kd n))
 |.eql=>bK (eqI x y) k
 |.neq=>bK (!eqI x y) k
 |.lss=>bK (!leI y x) k
 |.leq=>bK (leI x y) k
 |.gtr=>bK (!leI x y) k
 |.geq=>bK (leI y x) k
 |_=>.bad 13
def ya (op:BinOp) (l n m j:Nat) (k:V→Res):Res :=
 match op with
 |.add=>gd (Nat.ble (l+m) 4294967296) 14 (aX (l+m) fun l'=>aX (n+j * n5 l) fun n'=>k (.str l' n'))
 |.eql=>bK (Nat.beq l m&&Nat.beq n j) k
 |.neq=>bK (!(Nat.beq l m&&Nat.beq n j)) k
 |_=>.bad 15
def qy (op:BinOp) (a b:V) (k:V→Res):Res :=
 match a with
 |.int kd x=>(match b with
  |.int kd' y=>gd (Nat.beq (ikN kd) (ikN kd')) 16 (pG op kd x y k)
  |_=>.bad 17)
 |.str l n=>(match b with
  |.str m j=>ya op l n m j k
  |_=>.bad 18)
 |_=>.bad 19
def wU (o:O):Bool :=
 match o with
 |.row _ _ _ _ _ _=>true
 |_=>false
def eqP (h:T O) (o:Q) (off:Nat) (o':Q) (off':Nat) (k:Bool→Res):Res :=
 match o.beq o' with
 |true=>(match Nat.beq off off' with
  |true=>k true
  |false=>gO o h fun x=>gd (wU x) 20 (k false))
 |false=>gO o h fun x=>gO o' h fun y=>gd (wU x&&wU y) 20 (k false)
def eqK (m:EqM) (h:T O) (a b:V) (k:Bool→Res):Res :=
 match m with
 |.nilS=>(match a with
  |.nils=>k true
  |.sl _ _ _ _=>k false
  |.su _ _ _ _=>k false
  |.se=>k false
  |_=>.bad 21)
 |.nilM=>(match a with
  |.nilm=>k true
  |.map _=>k false
  |_=>.bad 21)
 |.nilF=>(match a with
  |.nilf=>k true
  |.fn _ _ _=>k false
  |.yld _=>k false
  |_=>.bad 21)
 |.nilI=>(match a with
  |.nili=>k true
  |.ifc _ _=>k false
  |_=>.bad 21)
 |.bool=>asB a fun x=>asB b fun y=>k (x==y)
 |.ptr=>(match a with
  |.nilp=>(match b with
   |.nilp=>k true
   |.ptr _ _=>k false
   |_=>.bad 23)
  |.ptr o off=>(match b with
   |.nilp=>k false
   |.ptr o' off'=>eqP h o off o' off' k
   |_=>.bad 24)
  |_=>.bad 25)
def ff (v:V):List V :=
 match v with
 |.agg l=>l
 |v=>[v]
def cvK (v:V) (k:List V→Res):Res :=
 match v with
 |.agg l=>k l
 |.tup _=>.bad 110
 |.bot=>.bad 111
 |v=>k [v]
def nU:List V→Nat→List V→(List V→Res)→Res
 |[],off,new,k=>(match off with
  |0=>(match new with
   |[]=>k []
   |_=>.bad 26)
  |_+1=>.bad 27)
 |x::r,off,new,k=>(match off with
  |off+1=>nU r off new fun l'=>k (x::l')
  |0=>(match new with
   |[]=>k (x::r)
   |v::vs=>nU r 0 vs fun l'=>k (v::l')))
def y8 (tm:T V):List (Nat×Nat×X)→List V→(List V→Res)→Res
 |[],l,k=>k l
 |(off,n,x)::ps,l,k=>xK x tm fun v=>cvK v fun c=>nY c fun m=>gd (Nat.beq m n) 28 (nU l off c fun l'=>y8 tm ps l' k)
def nN (n:Nat) (l:List V) (k:List V→Res):Res :=
 match n with
 |0=>k []
 |n+1=>(match l with
  |[]=>.bad 30
  |v::r=>nN n r fun l'=>k (v::l'))
def rO (off n:Nat) (l:List V) (k:List V→Res):Res :=
 match off with
 |0=>nN n l k
 |off+1=>(match l with
  |[]=>.bad 31
  |_::r=>rO off n r k)
def fdK (agg:Bool) (off n:Nat) (l:List V) (k:V→Res):Res :=
 match agg with
 |true=>rO off n l fun l'=>k (.agg l')
 |false=>pq l off k
def sZ (x:Option X) (tm:T V) (d:Nat) (k:Nat→Res):Res :=
 match x with
 |none=>k d
 |some x=>xK x tm fun v=>asN v k
def fS (f:FK) (x y:V) (k:Bool→Res):Res :=
 match f with
 |.b=>(match x with
  |.bool a=>(match y with
   |.bool b=>k (a==b)
   |_=>.bad 37)
  |_=>.bad 37)
 |.s=>(match x with
  |.str l n=>(match y with
   |.str m j=>k (Nat.beq l m&&Nat.beq n j)
   |_=>.bad 37)
  |_=>.bad 37)
 |.i=>(match x with
  |.int kd a=>(match y with
   |.int kd' b=>gd (Nat.beq (ikN kd) (ikN kd')) 37 (k (eqI a b))
   |_=>.bad 37)
  |_=>.bad 37)
def fJ:List FK→List V→List V→(Bool→Res)→Res
 |[],[],[],k=>k true
 |f::fs,x::xs,y::ys,k=>fS f x y fun b=>(match b with
  |true=>fJ fs xs ys k
  |false=>k false)
 |_,_,_,_=>.bad 37
def dS (s:KK) (h:T O) (x y:V) (k:Bool→Res):Res :=
 match s with
 |.str=>(match x with
  |.str l n=>(match y with
   |.str m j=>k (Nat.beq l m&&Nat.beq n j)
   |_=>.bad 32)
  |_=>.bad 35)
 |.int=>(match x with
  |.int kd a=>(match y with
   |.int kd' b=>gd (Nat.beq (ikN kd) (ikN kd')) 33 (k (eqI a b))
   |_=>.bad 34)
  |_=>.bad 35)
 |.st fs=>(match x with
  |.agg l=>(match y with
   |.agg m=>fJ fs l m k
   |_=>.bad 34)
  |_=>.bad 35)
 |.ptr=>(match x with
  |.ptr o a=>(match y with
   |.ptr o' b=>eqP h o a o' b k
   |_=>.bad 34)
  |_=>.bad 35)
def fU (s:KK) (x:V) (k:Res):Res :=
 match s with
 |.st fs=>(match x with
  |.agg cs=>nY cs fun n=>nY fs fun m=>gd (Nat.beq n m) 38 k
  |_=>.bad 38)
 |_=>k
def fW (s:KK) (h:T O) (x:V):List (V×V)→(V→Res)→Res→Res
 |[],_,kn=>kn
 |(y,v)::es,k,kn=>dS s h x y fun b=>match b with
  |true=>k v
  |false=>fW s h x es k kn
def kR (s:KK) (h:T O) (x:V) (f:V→V) (z:V):List (V×V)→Nat→(List (V×V)→Nat→V→Res)→Res
 |[],i,k=>k [(x,f z)] i z
 |(y,u)::es,i,k=>dS s h x y fun b=>match b with
  |true=>k ((x,f u)::es) i u
  |false=>aX (i+1) fun i'=>kR s h x f z es i' fun es' j w=>k ((y,u)::es') j w
def aj (s:KK) (h:T O) (x:V):List (V×V)→(List (V×V)→Res)→Res
 |[],k=>k []
 |(y,u)::es,k=>dS s h x y fun b=>match b with
  |true=>k es
  |false=>aj s h x es fun es'=>k ((y,u)::es')
def yk (v:V):Nat→List (V×V)→(List (V×V)→Res)→Res
 |_,[],_=>.bad 36
 |0,(y,_)::es,k=>k ((y,v)::es)
 |i+1,e::es,k=>yk v i es fun es'=>k (e::es')
def sV (sz:Nat) (v:V) (i:Nat) (k:V→Res):Res :=
 match v with
 |.sl o off len _=>gd (Nat.blt i len) 36 (aX (off+i * sz) fun a=>k (.ptr o a))
 |.su o off len _=>gd (Nat.blt i len) 37 (aX (off+i * sz) fun a=>k (.ptr o a))
 |_=>.bad 38
def zH (v:V) (k:Nat→Res):Res :=
 match v with
 |.nils=>k 0
 |.sl _ _ len _=>k len
 |.su _ _ len _=>k len
 |.se=>k 0
 |_=>.bad 39
def w8 (sz:Nat) (v:V) (lo:Nat) (hi:Nat) (mx:Option Nat) (k:V→Res):Res :=
 match v with
 |.nils=>gd (Nat.beq lo 0&&Nat.beq hi 0&&(match mx with|none=>true|some m=>Nat.beq m 0)) 40 (k .nils)
 |.sl o off len cap=>(match mx with
  |none=>gd (Nat.ble lo hi&&Nat.ble hi cap) 41 (aX (hi - lo) fun l=>aX (cap - lo) fun c=>(match Nat.beq lo cap with
   |true=>k (.sl o off l c)
   |false=>aX (off+lo * sz) fun a=>k (.sl o a l c)))
  |some m=>gd (Nat.ble lo hi&&Nat.ble hi m&&Nat.ble m cap) 42 (aX (hi - lo) fun l=>aX (m - lo) fun c=>(match Nat.beq lo m with
   |true=>k (.sl o off l c)
   |false=>aX (off+lo * sz) fun a=>k (.sl o a l c))))
 |.su o off len sz'=>(match mx with
  |none=>gd (Nat.beq sz sz'&&Nat.ble lo hi&&Nat.ble hi len) 43 (match Nat.blt lo len with
   |true=>aX (hi - lo) fun l=>aX (off+lo * sz) fun a=>k (.su o a l sz)
   |false=>(match Nat.beq lo 0 with
    |true=>k (.su o off 0 sz)
    |false=>k .se))
  |some m=>gd (Nat.ble lo hi&&Nat.ble hi m&&Nat.ble m len) 44 (aX (hi - lo) fun l=>aX (m - lo) fun c=>(match Nat.beq lo m with
   |true=>k (.sl o off l c)
   |false=>aX (off+lo * sz) fun a=>k (.sl o a l c))))
 |.se=>(match mx with
  |none=>gd (Nat.beq lo 0&&Nat.beq hi 0) 45 (k .se)
  |some _=>.bad 45)
 |_=>.bad 45
def ldK (h:T O) (o:Q) (off:Nat) (k:V→Res):Res :=
 gO o h fun ob=>xQ ob fun n t=>gd (Nat.blt off n) 46 (qnK off fun q=>gV q t k)
def lP (h:T O) (o:Q) (off n:Nat) (k:List V→Res):Res :=
 gO o h fun ob=>xQ ob fun m t=>gd (Nat.ble (off+n) m) 47 (rQ n off t k)
def vZ (ok:Bool) (z:V) (k:V→Res):Res :=
 match ok with
 |true=>k (.tup [z,.bool false])
 |false=>.bad 120
def taK (ok:Bool) (t:Nat) (z:V) (v:V) (k:V→Res):Res :=
 match v with
 |.ifc t' u=>(match Nat.beq t' t with
  |true=>(match ok with
   |true=>k (.tup [u,.bool true])
   |false=>k u)
  |false=>vZ ok z k)
 |.nili=>vZ ok z k
 |_=>.bad 121
def pK (b:PB) (tm:T V) (h:T O) (k:V→Res):Res :=
 match b with
 |.mv x=>xK x tm k
 |.pick c x y=>xK c tm fun v=>asB v fun t=>(match t with
  |true=>xK x tm k
  |false=>xK y tm k)
 |.bin op x y=>xK x tm fun a=>xK y tm fun b=>qy op a b k
 |.eq neg m x y=>xK x tm fun a=>xK y tm fun b=>eqK m h a b fun t=>bK (neg != t) k
 |.not x=>xK x tm fun v=>asB v fun t=>bK (!t) k
 |.neg x=>xK x tm fun v=>asI v fun kd n=>gX kd (ng 0 n) fun n'=>k (.int kd n')
 |.cvi kd x=>xK x tm fun v=>asI v fun _ n=>gX kd n fun n'=>k (.int kd n')
 |.cis x=>xK x tm fun v=>asN v fun n=>gd (Nat.blt n 128) 113 (k (.str 1 n))
 |.ctu x=>xK x tm fun v=>(match v with
  |.nilp=>k .nilp
  |.ptr o off=>gO o h fun ob=>xQ ob fun n _=>gd (Nat.blt off n) 118 (k (.ptr o off))
  |_=>.bad 118)
 |.cfu ty n x=>xK x tm fun v=>(match v with
  |.nilp=>k .nilp
  |.ptr o off=>gO o h fun ob=>(match ob with
   |.row m _ _ _ ty' ex=>gd (Nat.beq off 0&&Nat.beq m n&&Nat.beq ty ty'&&ex) 119 (k (.ptr o off))
   |_=>.bad 119)
  |_=>.bad 119)
 |.cvs x=>xK x tm fun v=>asS v fun l n=>k (.str l n)
 |.bld z ps=>y8 tm ps z fun l=>k (.agg l)
 |.ld1 x=>xK x tm fun v=>asP v fun o off=>ldK h o off k
 |.ldn n x=>xK x tm fun v=>asP v fun o off=>lP h o off n fun l=>k (.agg l)
 |.nck x=>xK x tm fun v=>(match v with
  |.ptr o off=>k (.ptr o off)
  |.fn f fs cs=>k (.fn f fs cs)
  |.ifc t u=>k (.ifc t u)
  |.yld l=>k (.yld l)
  |_=>.bad 48)
 |.fa off x=>xK x tm fun v=>asP v fun o a=>aX (a+off) fun a'=>k (.ptr o a')
 |.fd agg off n x=>xK x tm fun v=>asA v fun l=>fdK agg off n l k
 |.ia sz x i=>xK x tm fun v=>xK i tm fun j=>asN j fun j=>sV sz v j k
 |.iaa len sz x i=>xK x tm fun v=>xK i tm fun j=>asN j fun j=>asP v fun o a=>gd (Nat.blt j len) 49 (aX (a+j * sz) fun a'=>k (.ptr o a'))
 |.ixs x i=>xK x tm fun v=>xK i tm fun j=>asN j fun j=>asS v fun l n=>gd (Nat.blt j l) 50 (aX (n / n5 j % 256) fun c=>k (.int .u8 (.ofNat c)))
 |.ixa agg len sz x i=>xK x tm fun v=>xK i tm fun j=>asN j fun j=>asA v fun l=>gd (Nat.blt j len) 51 (aX (j * sz) fun a=>fdK agg a sz l k)
 |.slS x lo hi=>xK x tm fun v=>asS v fun l n=>sZ lo tm 0 fun a=>sZ hi tm l fun b=>gd (Nat.ble a b&&Nat.ble b l) 52 (aX (b - a) fun l'=>aX (n / n5 a % n5 (b - a)) fun n'=>k (.str l' n'))
 |.slL sz x lo hi mx=>xK x tm fun v=>zH v fun len=>sZ lo tm 0 fun a=>sZ hi tm len fun b=>(match mx with
  |none=>w8 sz v a b none k
  |some m=>xK m tm fun m=>asN m fun m=>w8 sz v a b (some m) k)
 |.mki t x=>xK x tm fun v=>k (.ifc t v)
 |.mkf f fs caps=>xsK fs tm fun l=>xsK caps tm fun m=>k (.fn f l m)
 |.lk s ok z m key=>xK m tm fun m=>xK key tm fun x=>fU s x (match m with
  |.nilm=>(match ok with
   |true=>k (.tup [z,.bool false])
   |false=>k z)
  |.map o=>gO o h fun ob=>pP ob fun es=>(match ok with
   |true=>fW s h x es (fun v=>k (.tup [v,.bool true])) (k (.tup [z,.bool false]))
   |false=>fW s h x es k (k z))
  |_=>.bad 53)
 |.lenS x=>xK x tm fun v=>asS v fun l _=>k (.int .i64 (.ofNat l))
 |.lenL x=>xK x tm fun v=>zH v fun l=>k (.int .i64 (.ofNat l))
 |.lenM x=>xK x tm fun v=>(match v with
  |.nilm=>k (.int .i64 (.ofNat 0))
  |.map o=>gO o h fun ob=>pP ob fun es=>nY es fun n=>k (.int .i64 (.ofNat n))
  |_=>.bad 54)
 |.sd x=>xK x tm fun v=>(match v with
  |.nils=>k .nilp
  |.sl o off (_+1) _=>k (.ptr o off)
  |.su o off (_+1) _=>k (.ptr o off)
  |_=>.bad 114)
 |.max x y=>xK x tm fun a=>xK y tm fun b=>asI a fun ka n=>asI b fun _ m=>(match leI m n with
  |true=>k (.int ka n)
  |false=>k (.int ka m))
 |.ex i x=>xK x tm fun v=>(match v with
  |.tup l=>pq l i k
  |_=>.bad 55)
 |.ta ok t z x=>xK x tm fun v=>taK ok t z v k
 |.bad=>.bad 56
def rZ (tm:T V) (sz:Nat):List (Nat×X)→T V→(T V→Res)→Res
 |[],t,k=>k t
 |(i,x)::ps,t,k=>xK x tm fun v=>cvK v fun c=>nY c fun m=>gd (Nat.beq m sz) 57 (jC c (i * sz) t fun t'=>rZ tm sz ps t' k)
def nz (z:List V) (n i:Nat) (t:T V) (k:T V→Res):Res :=
 @Nat.rec (fun _=>Nat→T V→(T V→Res)→Res) (fun _ t k=>k t) (fun _ ih i t k=>jC z i t fun t'=>nY z fun m=>aX (i+m) fun i'=>ih i' t' k) n i t k
def aK (b:AB) (tm:T V) (k:O→(Q→V)→Res):Res :=
 match b with
 |.al ty n t=>k (.row n t [] 0 ty true) fun q=>.ptr q 0
 |.bx ty n x=>xK x tm fun v=>cvK v fun c=>nY c fun m=>gd (Nat.beq m n) 58 (jC c 0 .nil fun t=>k (.row n t [] 0 ty true) fun q=>.ptr q 0)
 |.bsl ty sz len t ps=>rZ tm sz ps t fun t'=>aX (len * sz) fun n=>k (.row n t' [] 0 ty true) fun q=>.sl q 0 len len
 |.mkm=>k (.map []) fun q=>.map q
 |.mks ty sz z len cap=>xK len tm fun l=>asN l fun l=>xK cap tm fun c=>asN c fun c=>gd (Nat.ble l c&&Nat.ble c 16777216) 59 (nz z c 0 .nil fun t=>aX (c * sz) fun n=>k (.row n t [] 0 ty true) fun q=>.sl q 0 l c)
def vH:List Q→T O→(T O→Res)→Res
 |[],h,k=>k h
 |q::qs,h,k=>pO .dead q h fun h'=>vH qs h' k
def wrK (o:Q) (off:Nat) (vs:List V) (h:T O) (k:T O→Res):Res :=
 gO o h fun ob=>match ob with
  |.row n t anc flo ty ex=>nY vs fun m=>gd (Nat.ble (off+m) n) 60 (jC vs off t fun t'=>(match Nat.ble flo off with
   |true=>pO (.row n t' anc flo ty ex) o h k
   |false=>vH anc h fun h'=>pO (.row n t' [] 0 ty ex) o h' k))
  |_=>.bad 61
def byL:Nat→Nat→(List V→Res)→Res
 |0,_,k=>k []
 |l+1,n,k=>aX (n % 256) fun c=>aX (n / 256) fun n'=>byL l n' fun cs=>k (.int .u8 (.ofNat c)::cs)
def iI (sz:Nat) (v:V) (h:T O) (k:Nat→List V→Res):Res :=
 match v with
 |.nils=>k 0 []
 |.sl o off len _=>(match len with
  |0=>k 0 []
  |len=>lP h o off (len * sz) fun l=>k len l)
 |.su o off len _=>(match len with
  |0=>k 0 []
  |len=>lP h o off (len * sz) fun l=>k len l)
 |.se=>k 0 []
 |.str l n=>gd (Nat.beq sz 1) 62 (byL l n fun cs=>k l cs)
 |_=>.bad 62
def nH (ty sz:Nat) (len m:Nat) (old new:List V) (h:T O) (nx:Q) (k:V→T O→Q→Res):Res :=
 gd (Nat.ble (len+m) 4294967296) 112 <| jC old 0 .nil fun t=>jC new (len * sz) t fun t'=>aX ((len+m) * sz) fun n=>aX (len+m) fun l=>pO (.row n t' [] 0 ty false) nx h fun h'=>lD nx fun nx'=>k (.su nx 0 l sz) h' nx'
def apK (ty sz:Nat) (a:V) (m:Nat) (new:List V) (h:T O) (nx:Q) (k:V→T O→Q→Res):Res :=
 match a with
 |.nils=>(match m with
  |0=>k .nils h nx
  |m=>nH ty sz 0 m [] new h nx k)
 |.sl o off len cap=>(match Nat.ble (len+m) cap with
  |true=>(match m with
   |0=>k (.sl o off len cap) h nx
   |m=>wrK o (off+len * sz) new h fun h'=>aX (len+m) fun l=>k (.sl o off l cap) h' nx)
  |false=>iI sz (.sl o off len cap) h fun _ old=>nH ty sz len m old new h nx k)
 |.su o off len sz'=>gd (Nat.beq sz sz') 63 (match m with
  |0=>k (.su o off len sz) h nx
  |m=>gO o h fun ob=>(match ob with
   |.row n t anc flo ty' ex=>(match Nat.ble (off+(len+m) * sz) n with
    |true=>wrK o (off+len * sz) new h fun h'=>aX (len+m) fun l=>k (.su o off l sz) h' nx
    |false=>gd (Nat.beq (off+len * sz) n&&Nat.beq off 0&&Nat.beq ty ty'&&Nat.ble (len+m) 4294967296) 64 (jC new n t fun t'=>aX (n+m * sz) fun n'=>aX (len+m) fun l=>pO (.ro n t) o h fun h'=>pO (.row n' t' (o::anc) n ty' false) nx h' fun h''=>lD nx fun nx'=>k (.su nx off l sz) h'' nx'))
   |_=>.bad 65))
 |_=>.bad 66
def pkK:List V→(Nat→Res)→Res
 |[],k=>k 0
 |v::r,k=>(match v with
  |.int .u8 (.ofNat c)=>gd (Nat.blt c 256) 115 (pkK r fun n=>aX (c+256 * n) k)
  |_=>.bad 115)
def wK (b:WB) (tm:T V) (h:T O) (nx:Q) (k:V→T O→Q→Res):Res :=
 match b with
 |.st n x y=>xK x tm fun p=>asP p fun o off=>xK y tm fun v=>cvK v fun c=>nY c fun m=>gd (Nat.beq m n) 67 (wrK o off c h fun h'=>k V.undef h' nx)
 |.mu s m key x=>xK m tm fun m=>xK key tm fun kv=>xK x tm fun v=>fU s kv (match m with
  |.map o=>gO o h fun ob=>pP ob fun es=>kR s h kv (fun _=>v) v es 0 fun es' _ _=>pO (aAb ob es') o h fun h'=>k V.undef h' nx
  |_=>.bad 68)
 |.me s z m key=>xK m tm fun m=>xK key tm fun kv=>fU s kv (match m with
  |.map o=>gO o h fun ob=>aBQ ob fun es=>kR s h kv (fun u=>u) z es 0 fun es' i u=>pO (.map es') o h fun h'=>k (.tup [u,.int .i64 (.ofNat i)]) h' nx
  |_=>.bad 69)
 |.es m s x=>xK m tm fun m=>xK s tm fun s=>asN s fun i=>xK x tm fun v=>(match m with
  |.map o=>gO o h fun ob=>aBQ ob fun es=>yk v i es fun es'=>pO (.map es') o h fun h'=>k V.undef h' nx
  |_=>.bad 70)
 |.ap ty sz x y=>xK x tm fun a=>xK y tm fun b=>iI sz b h fun m new=>gd (Nat.ble m 16777216) 71 (apK ty sz a m new h nx k)
 |.us ty x n=>xK x tm fun v=>xK n tm fun w=>(match w with
  |.int .i64 (.ofNat l)=>(match v with
   |.nilp=>gd (Nat.beq l 0) 116 (k (.str 0 0) h nx)
   |.ptr o off=>gd (Nat.blt 0 l&&Nat.beq off 0&&Nat.ble l 9223372036854775807) 116 (gO o h fun ob=>(match ob with
    |.row m t _ _ ty' _=>gd (Nat.ble l m&&Nat.beq ty ty') 117 (rQ l 0 t fun cs=>pkK cs fun n=>pO (.ro m t) o h fun h'=>k (.str l n) h' nx)
    |_=>.bad 117))
   |_=>.bad 116)
  |_=>.bad 116)
 |.sb x=>xK x tm fun v=>asS v fun l n=>byL l n fun cs=>jC cs 0 .nil fun t=>pO (.ro l t) nx h fun h'=>lD nx fun nx'=>k (.su nx 0 l 1) h' nx'
 |.cp sz x y=>xK x tm fun a=>xK y tm fun b=>zH a fun n=>iI sz b h fun m new=>gd (Nat.beq n m) 72 (match a with
  |.sl o off _ _=>wrK o off new h fun h'=>k (.int .i64 (.ofNat n)) h' nx
  |.su o off _ _=>wrK o off new h fun h'=>k (.int .i64 (.ofNat n)) h' nx
  |_=>.bad 73)
def eqF (a b:V):Bool :=
 match a,b with
 |.bool x,.bool y=>x==y
 |.int k x,.int k' y=>Nat.beq (ikN k) (ikN k')&&eqI x y
 |.str l n,.str m j=>Nat.beq l m&&Nat.beq n j
 |.nilp,.nilp=>true
 |.ptr o x,.ptr p y=>o.beq p&&Nat.beq x y
 |.nils,.nils=>true
 |.sl o x l c,.sl p y m d=>o.beq p&&Nat.beq x y&&Nat.beq l m&&Nat.beq c d
 |.su o x l c,.su p y m d=>o.beq p&&Nat.beq x y&&Nat.beq l m&&Nat.beq c d
 |.nilm,.nilm=>true
 |.map o,.map p=>o.beq p
 |.nilf,.nilf=>true
 |.yld o,.yld p=>o.beq p
 |.nili,.nili=>true
 |_,_=>false
def eqL:List V→List V→Bool
 |[],[]=>true
 |a::l,b::m=>(match eqF a b with
  |true=>eqL l m
  |false=>false)
 |_,_=>false
def eqV (a b:V):Bool :=
 match a with
 |.agg l=>(match b with
  |.agg m=>eqL l m
  |_=>false)
 |.tup l=>(match b with
  |.tup m=>eqL l m
  |_=>false)
 |.fn f l l'=>(match b with
  |.fn g m m'=>f.beq g&&(eqL l m&&eqL l' m')
  |_=>false)
 |a=>eqF a b
abbrev Run:=Q→Bool→Option Q→List Df→T V→K→List Fr→T O→Q→Res
def oB (dst:Option Q) (v:V) (tm:T V) (k:T V→Res):Res :=
 match dst with
 |some q=>pV v q tm k
 |none=>k tm
def nX (ih:Run) (fr:Fr) (cs:List Fr) (v:V) (h:T O) (nx:Q):Res :=
 match fr with
 |.mk f dk rd ds tm k=>(match k with
  |.reg l k=>(match l with
   |.op (.mk dst _ _)::l'=>oB dst v tm fun tm'=>ih f dk rd ds tm' (.reg l' k) cs h nx
   |_=>.bad 80)
  |.inrf l k=>ih f dk rd ds tm (.erf l k) cs h nx
  |_=>.bad 81)
def gP (tm:T V) (h:T O):List RV→(List V→Res)→Res
 |[],k=>k []
 |.t q::r,k=>gV q tm fun v=>gP tm h r fun l=>k (v::l)
 |.cell agg n q::r,k=>gV q tm fun p=>asP p fun o off=>(match agg with
  |true=>lP h o off n fun l=>gP tm h r fun l'=>k (.agg l::l')
  |false=>ldK h o off fun v=>gP tm h r fun l'=>k (v::l'))
def aDs (l:List V):V :=
 match l with
 |[v]=>v
 |l=>.tup l
def uG (vs:List V) (q:Q) (t:T V) (k:T V→Res):Res :=
 @List.rec V (fun _=>Q→T V→(T V→Res)→Res) (fun _ t k=>k t) (fun v _ ih q t k=>pV v q t fun t'=>lD q fun q'=>ih q' t' k) vs q t k
def oj:List Q→List V→T V→(T V→Res)→Res
 |[],[],t,k=>k t
 |q::qs,v::vs,t,k=>pV v q t fun t'=>oj qs vs t' k
 |_,_,_,_=>.bad 82
def r8 (l m:List V) (k:List V→Res):Res :=
 match l with
 |[]=>k m
 |v::r=>r8 r m fun l'=>k (v::l')
def rS (c:Nat):Nat→Nat→Nat→(Int→Res)→Res
 |0,_,_,k=>k (.negSucc 0)
 |l+1,s,i,k=>(match Nat.beq (s % 256) c with
  |true=>k (.ofNat i)
  |false=>aX (s / 256) fun s'=>aX (i+1) fun i'=>rS c l s' i' k)
def wZ (c:Nat):Nat→Nat→Nat→(Nat→Res)→Res
 |0,_,n,k=>k n
 |l+1,s,n,k=>(match Nat.beq (s % 256) c with
  |true=>aX (s / 256) fun s'=>aX (n+1) fun n'=>wZ c l s' n' k
  |false=>aX (s / 256) fun s'=>wZ c l s' n k)
def aEv (v:V) (k:Nat→Res):Res :=
 match v with
 |.int .u8 n=>(match n with
  |.ofNat c=>gd (Nat.blt c 256) 79 (k c)
  |.negSucc _=>.bad 79)
 |_=>.bad 79
def eg (n:Nat) (args:List V) (k:V→Res):Res :=
 match n with
 |0=>(match args with
  |[x,y]=>asS x fun l s=>aEv y fun c=>rS c l s 0 fun i=>k (.int .i64 i)
  |_=>.bad 79)
 |1=>(match args with
  |[x,y]=>asS x fun l s=>aEv y fun c=>wZ c l s 0 fun i=>k (.int .i64 (.ofNat i))
  |_=>.bad 79)
 |_=>(match args with
  |[x]=>k x
  |_=>.bad 79)
def gK (fe:Q→CF) (ih:Run) (f:Q) (args:List V) (dk:Bool) (cs:List Fr) (h:T O) (nx:Q):Res :=
 aGa f fe fun cf=>match cf with
  |.none=>.bad 83
  |.ext n=>(match cs with
   |c::cs'=>(match dk with
    |false=>eg n args fun v=>nX ih c cs' v h nx
    |true=>.bad 78)
   |[]=>.bad 78)
  |.mk body _=>uG args .e .nil fun tm=>ih f dk none [] tm (.code body .nil) cs h nx
def lG (o:O) (k:Nat→Jump→Q→T V→List Q→C→C→Q→Res):Res :=
 match o with
 |.loop (.mk st pend fn tm params asg body dfs)=>k st pend fn tm params asg body dfs
 |_=>.bad 84
def dD (fe:Q→CF) (ih:Run) (fv:V) (args:List V) (cs:List Fr) (h:T O) (nx:Q):Res :=
 match fv with
 |.fn f fs caps=>r8 args caps fun l=>r8 fs l fun l=>gK fe ih f l false cs h nx
 |.yld l=>gO l h fun ob=>lG ob fun _ _ fn tm params asg body _=>oj params args tm fun tm'=>ih fn false (some l) [] tm' (.code asg (.begin (.code body .nil))) cs h nx
 |_=>.bad 85
def iu (ih:Run) (l:Q) (j:Jump) (b:Bool) (cs:List Fr) (h:T O) (nx:Q):Res :=
 gO l h fun ob=>lG ob fun _ _ fn tm params asg body dfs=>pO (.loop (.mk (match b with|true=>0|false=>2) j fn tm params asg body dfs)) l h fun h' =>
  match cs with
  |[]=>.bad 86
  |c::cs=>nX ih c cs (.bool b) h' nx
def eP (id:Nat):K→(K→Res)→Res→Res
 |.blk id' k,kf,kn=>(match Nat.beq id' id with
  |true=>kf k
  |false=>eP id k kf kn)
 |.nil,_,kn=>kn
 |.code _ k,kf,kn=>eP id k kf kn
 |.lp _ k,kf,kn=>eP id k kf kn
 |.sc k,kf,kn=>eP id k kf kn
 |.reg _ k,kf,kn=>eP id k kf kn
 |.inrf _ k,kf,kn=>eP id k kf kn
 |.erf _ k,kf,kn=>eP id k kf kn
 |.begin k,kf,kn=>eP id k kf kn
 |.rtn,_,_=>.bad 87
def aCQ (dk:Bool) (cs:List Fr) (k:Res):Res :=
 match dk with
 |false=>k
 |true=>(match cs with
  |.mk _ _ _ _ _ .rtn::_=>k
  |_=>.bad 88)
def oL (t:Nat):List (Nat×Q)→(Q→Res)→Res
 |[],_=>.bad 122
 |(u,f)::ms,k=>(match Nat.beq u t with
  |true=>k f
  |false=>oL t ms k)
def aHq (fe:Q→CF) (ih:Run) (ms:List (Nat×Q)) (v:V) (vs:List V) (cs:List Fr) (h:T O) (nx:Q):Res :=
 match v with
 |.ifc t u=>oL t ms fun f=>dD fe ih (.fn f [] []) (u::vs) cs h nx
 |_=>.bad 123
def opK (fe:Q→CF) (ih:Run) (f:Q) (dk:Bool) (rd:Option Q) (ds:List Df) (tm:T V) (dst:Option Q) (b:OB) (l:List PS) (l0:List PS) (k:K) (cs:List Fr) (h:T O) (nx:Q):Res :=
 match b with
 |.p b=>pK b tm h fun v=>oB dst v tm fun tm'=>ih f dk rd ds tm' (.reg l k) cs h nx
 |.a b=>aK b tm fun ob mk=>pO ob nx h fun h'=>oB dst (mk nx) tm fun tm'=>lD nx fun nx'=>ih f dk rd ds tm' (.reg l k) cs h' nx'
 |.w b=>wK b tm h nx fun v h' nx'=>oB dst v tm fun tm'=>ih f dk rd ds tm' (.reg l k) cs h' nx'
 |.call x args=>xK x tm fun fv=>xsK args tm fun vs=>dD fe ih fv vs (.mk f dk rd ds tm (.reg l0 k)::cs) h nx
 |.inv ms x args=>xK x tm fun v=>xsK args tm fun vs=>aHq fe ih ms v vs (.mk f dk rd ds tm (.reg l0 k)::cs) h nx
 |.dfr x args=>(match rd with
  |some _=>.bad 89
  |none=>xK x tm fun fv=>xsK args tm fun vs=>(match fv with
   |.fn g fs caps=>r8 vs caps fun vs'=>r8 fs vs' fun vs'=>oB dst V.undef tm fun tm'=>ih f dk rd (.call g vs'::ds) tm' (.reg l k) cs h nx
   |_=>.bad 90))
 |.dfd s m key=>(match rd with
  |some _=>.bad 89
  |none=>xK m tm fun m=>xK key tm fun kv=>oB dst V.undef tm fun tm'=>ih f dk rd (.del s m kv::ds) tm' (.reg l k) cs h nx)
 |.rcv=>(match rd with
  |some _=>.bad 91
  |none=>aCQ dk cs (oB dst .nili tm fun tm'=>ih f dk rd ds tm' (.reg l k) cs h nx))
def j8 (fe:Q→CF) (ih:Run) (f:Q) (dk:Bool) (rd:Option Q) (ds:List Df) (tm:T V) (l:List PS) (k:K) (cs:List Fr) (h:T O) (nx:Q):Res :=
 match l with
 |[]=>ih f dk rd ds tm k cs h nx
 |.op (.mk dst g b)::l'=>(match g with
  |none=>opK fe ih f dk rd ds tm dst b l' l k cs h nx
  |some (q,want)=>gV q tm fun v=>(match v with
   |.bool t=>(match t==want with
    |true=>opK fe ih f dk rd ds tm dst b l' l k cs h nx
    |false=>oB dst V.undef tm fun tm'=>ih f dk rd ds tm' (.reg l' k) cs h nx)
   |.tup []=>oB dst V.undef tm fun tm'=>ih f dk rd ds tm' (.reg l' k) cs h nx
   |_=>.bad 92))
 |.chk g b q::l'=>(match g with
  |none=>pK b tm h fun v=>gV q tm fun u=>gd (eqV v u) 93 (ih f dk rd ds tm (.reg l' k) cs h nx)
  |some (q',want)=>gV q' tm fun v=>(match v with
   |.bool t=>(match t==want with
    |true=>pK b tm h fun v=>gV q tm fun u=>gd (eqV v u) 93 (ih f dk rd ds tm (.reg l' k) cs h nx)
    |false=>ih f dk rd ds tm (.reg l' k) cs h nx)
   |.tup []=>ih f dk rd ds tm (.reg l' k) cs h nx
   |_=>.bad 92))
def lI (ih:Run) (f:Q) (dk:Bool) (rd:Option Q) (ds:List Df) (tm:T V) (c:C) (k:K) (cs:List Fr) (h:T O) (nx:Q) (fe:Q→CF):Res :=
 match c with
 |.skip=>ih f dk rd ds tm k cs h nx
 |.reg l=>ih f dk rd ds tm (.reg l k) cs h nx
 |.seq a b=>ih f dk rd ds tm (.code a (.code b k)) cs h nx
 |.cond x a b=>xK x tm fun v=>asB v fun t=>(match t with
  |true=>ih f dk rd ds tm (.code a k) cs h nx
  |false=>ih f dk rd ds tm (.code b k) cs h nx)
 |.block id c=>ih f dk rd ds tm (.code c (.blk id k)) cs h nx
 |.loop c=>ih f dk rd ds tm (.code c (.lp c k)) cs h nx
 |.scope c=>ih f dk rd ds tm (.code c (.sc k)) cs h nx
 |.exit id=>eP id k (fun k'=>ih f dk rd ds tm k' cs h nx) (match rd with
  |none=>.bad 94
  |some l=>iu ih l (.exit id) false cs h nx)
 |.ret=>(match rd with
  |none=>ih f dk rd ds tm .rtn cs h nx
  |some l=>iu ih l .ret false cs h nx)
 |.rf x params asg body=>xK x tm fun fv=>(match fv with
  |.fn g fs caps=>r8 fs (.yld (match rd with|none=>nx.succ|some _=>nx)::caps) fun args=>(match rd with
   |none=>pO (.dfd false) nx h fun h1=>lD nx fun n1=>pO (.loop (.mk 0 .none f tm params asg body nx)) n1 h1 fun h2=>lD n1 fun n2 =>
     gK fe ih g args false (.mk f dk rd (.coll nx::ds) tm (.inrf n1 k)::cs) h2 n2
   |some l=>gO l h fun ob=>lG ob fun _ _ _ _ _ _ _ dfs=>pO (.loop (.mk 0 .none f tm params asg body dfs)) nx h fun h2=>lD nx fun n2 =>
     gK fe ih g args false (.mk f dk rd ds tm (.inrf nx k)::cs) h2 n2)
  |_=>.bad 95)
 |.bad=>.bad 96
def rowAt (o:O):Option (Nat×T V) :=
 match o with
 |.row n t _ _ _ _=>some (n,t)
 |_=>none
def rdTy:Nat→T O→V→V
 |0,_,_=>.bot
 |f+1,h,v=>match v with
  |.agg [.str l n,s]=>(match s with
   |.nils=>.tup [.str l n]
   |.se=>.tup [.str l n]
   |.sl o off len _=>(match rowAt (h.get O.dead o) with
    |some (k,t)=>(match Nat.ble (off+2 * len) k with
     |true=>.tup (.str l n::(List.range len).map fun i=>rdTy f h (.agg [t.get V.undef (qn (off+2 * i)),t.get V.undef (qn (off+2 * i+1))]))
     |false=>.bot)
    |none=>.bot)
   |.su o off len _=>(match rowAt (h.get O.dead o) with
    |some (k,t)=>(match Nat.ble (off+2 * len) k with
     |true=>.tup (.str l n::(List.range len).map fun i=>rdTy f h (.agg [t.get V.undef (qn (off+2 * i)),t.get V.undef (qn (off+2 * i+1))]))
     |false=>.bot)
    |none=>.bot)
   |_=>.bot)
  |_=>.bot
def fin (v:V) (h:T O):V :=
 match v with
 |.tup [ty,b]=>.tup [rdTy 12 h ty,b]
 |.map o=>(match h.get O.dead o with
  |.map es=>.tup (es.map fun p=>.tup [p.1,p.2])
  |_=>.bot)
 |.bool b=>.bool b
 |.int k n=>.int k n
 |_=>.bot
def ez (fe:Q→CF) (ih:Run) (f:Q) (dk:Bool) (rd:Option Q) (ds:List Df) (tm:T V) (cs:List Fr) (h:T O) (nx:Q):Res :=
 match ds with
 |.coll q::ds'=>gO q h fun ob=>(match ob with
  |.dfd false=>pO (.dfd true) q h fun h'=>ih f dk rd ds' tm .rtn cs h' nx
  |_=>.bad 97)
 |.call g args::ds'=>gK fe ih g args true (.mk f dk rd ds' tm .rtn::cs) h nx
 |.del s m key::ds'=>fU s key (match m with
  |.map o=>gO o h fun ob=>pP ob fun es=>aj s h key es fun es'=>pO (.mapd es') o h fun h'=>ih f dk rd ds' tm .rtn cs h' nx
  |_=>.bad 97)
 |[]=>aGa f fe fun cf=>(match cf with
  |.none=>.bad 98
  |.ext _=>.bad 98
  |.mk _ rs=>gP tm h rs fun vs=>(match cs with
   |[]=>(match dk with
    |false=>.ok (fin (aDs vs) h)
    |true=>.bad 99)
   |c::cs'=>(match dk with
    |false=>nX ih c cs' (aDs vs) h nx
    |true=>(match c with
     |.mk f2 dk2 rd2 ds2 tm2 .rtn=>ih f2 dk2 rd2 ds2 tm2 .rtn cs' h nx
     |_=>.bad 100))))
def aB (fe:Q→CF) (ih:Run) (f:Q) (dk:Bool) (rd:Option Q) (ds:List Df) (tm:T V) (k:K) (cs:List Fr) (h:T O) (nx:Q):Res :=
 match k with
 |.nil=>(match rd with
  |none=>ih f dk rd ds tm .rtn cs h nx
  |some l=>iu ih l .none true cs h nx)
 |.code c k=>lI ih f dk rd ds tm c k cs h nx fe
 |.blk _ k=>ih f dk rd ds tm k cs h nx
 |.lp c k=>ih f dk rd ds tm (.code c (.lp c k)) cs h nx
 |.sc k=>ih f dk rd ds tm k cs h nx
 |.reg l k=>j8 fe ih f dk rd ds tm l k cs h nx
 |.inrf _ _=>.bad 101
 |.erf l k=>gO l h fun ob=>lG ob fun st pend fn tm' params asg body dfs=>gd (!Nat.beq st 1) 102 (pO (.loop (.mk 3 pend fn tm' params asg body dfs)) l h fun h'=>(match pend with
  |.none=>ih f dk rd ds tm k cs h' nx
  |.ret=>ih f dk rd ds tm (.code .ret k) cs h' nx
  |.exit id=>ih f dk rd ds tm (.code (.exit id) k) cs h' nx))
 |.begin k=>(match rd with
  |none=>.bad 103
  |some l=>gO l h fun ob=>lG ob fun st pend fn tm' params asg body dfs=>gd (Nat.beq st 0) 104 (pO (.loop (.mk 1 pend fn tm' params asg body dfs)) l h fun h'=>ih f dk rd ds tm k cs h' nx))
 |.rtn=>ez fe ih f dk rd ds tm cs h nx
def run (fe:Q→CF) (n:Nat):Run :=
 @Nat.rec (fun _=>Run) .fuel (fun _ ih=>aB fe ih) n
end Go.CM
end
