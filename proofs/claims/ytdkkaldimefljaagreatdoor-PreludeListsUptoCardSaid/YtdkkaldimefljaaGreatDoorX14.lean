import Derived.Test.YtdkkaldimefljaaGreatDoorX13
import Derived.Test.YtdkkaldimefljaaGreatDoorX03
set_option linter.all false
noncomputable section
namespace Go.CM
open Go.AM (szOf bytesAt aggOf sliceElem fieldAt?)
def packL : List UInt8 → Nat
  | [] => 0
  | b :: r => b.toNat + 256 * packL r
def absC (v : Value) : V :=
  match v with
  | .bool b => .bool b
  | .int k n => .int k n
  | .string s => .str s.data.toList.length (packL s.data.toList)
  | .pointer none => .nilp
  | .slice none 0 0 => .nils
  | .map none => .nilm
  | .nilFunc => .nilf
  | .nilIface => .nili
  | _ => .bot
def notBot (v : V) : Bool :=
  match v with
  | .bot => false
  | _ => true
def absV (v : Value) : V :=
  match v with
  | .agg cs => (match (cs.toList.map absC).all notBot with
    | true => .agg (cs.toList.map absC)
    | false => .bot)
  | v => absC v
def compX (P : Program) (x : Operand) : X :=
  match x with
  | .tmp t => .t (qn t)
  | .const v => (match notBot (absV v) with
    | true => .c (absV v)
    | false => .bad)
  | .global g => (match Nat.blt g P.globals.size with
    | true => .c (.ptr (qn g) 0)
    | false => .bad)
  | .func f => .c (.fn (qn f) [] [])
def zeroV (P : Program) (t : TypeId) : Option V :=
  ((P.info? t).bind (·.zero)).bind fun v => match notBot (absV v) with
    | true => some (absV v)
    | false => none
def zeroL (P : Program) (t : TypeId) : Option (List V) :=
  (zeroV P t).bind fun v => (szOf P t).bind fun s => match Nat.beq (cellsV v).length s with
    | true => some (cellsV v)
    | false => none
def repL (z : List V) : Nat → List V
  | 0 => []
  | n + 1 => z ++ repL z n
def partsL (P : Program) (place : Nat → Option (Nat × Nat)) : List (Nat × Operand) → Option (List (Nat × Nat × X))
  | [] => some []
  | (i, x) :: r => (place i).bind fun p => (partsL P place r).map fun l => (p.1, p.2, compX P x) :: l
def partsOf (P : Program) (t : TypeId) (parts : List (Nat × Operand)) : Option (List (Nat × Nat × X)) :=
  match P.underlying t with
  | some (.struct fs) => (fs.toList.mapM fun f => (P.info? f.type).map fun i => (f.offset, i.size)).bind fun pl => partsL P (fun i => pl[i]?) parts
  | some (.array _ e) => (szOf P e).bind fun s => partsL P (fun i => some (i * s, s)) parts
  | _ => none
def isNilC (m : EqM) (x : Operand) : Bool :=
  match x with
  | .const (.slice none 0 0) => (match m with | .nilS => true | _ => false)
  | .const .nilIface => (match m with | .nilI => true | _ => false)
  | .const .nilFunc => (match m with | .nilF => true | _ => false)
  | .const (.map none) => (match m with | .nilM => true | _ => false)
  | _ => false
def compBin (P : Program) (op : BinOp) (t : TypeId) (x y : Operand) : PB :=
  let neg : Bool := match op with | .neq => true | _ => false
  let cmp : Bool := match op with | .neq => true | .eql => true | _ => false
  match cmp with
  | false => .bin op (compX P x) (compX P y)
  | true =>
    match P.underlying t with
    | some (.pointer e) => (match szOf P e with
      | some s => (match Nat.blt 0 s with
        | true => .eq neg .ptr (compX P x) (compX P y)
        | false => .bad)
      | none => .bad)
    | some .bool => .eq neg .bool (compX P x) (compX P y)
    | some (.int _) => .bin op (compX P x) (compX P y)
    | some .string => .bin op (compX P x) (compX P y)
    | some (.slice _) => (match isNilC .nilS y with | true => .eq neg .nilS (compX P x) (compX P y) | false => .bad)
    | some (.map _ _) => (match isNilC .nilM y with | true => .eq neg .nilM (compX P x) (compX P y) | false => .bad)
    | some (.func _ _ _) => (match isNilC .nilF y with | true => .eq neg .nilF (compX P x) (compX P y) | false => .bad)
    | some (.interface _) => (match isNilC .nilI y with | true => .eq neg .nilI (compX P x) (compX P y) | false => .bad)
    | _ => .bad
def orP (o : Option PB) : OB :=
  match o with
  | some p => .p p
  | none => .p .bad
def orA (o : Option AB) : OB :=
  match o with
  | some p => .a p
  | none => .p .bad
def orW (o : Option WB) : OB :=
  match o with
  | some p => .w p
  | none => .p .bad
def bslParts (P : Program) (l : List (Nat × Operand)) : List (Nat × X) := l.map fun p => (p.1, compX P p.2)
def ownMeth (P : Program) (name : String) (t : Nat) : Option (Nat × Q) :=
  (P.info? t).bind fun i => (i.methods.find? (·.name == name)).bind fun m => (P.underlying t).bind fun u => m.func.bind fun fp => match m.path.isEmpty, u, fp.2 with
    | true, .pointer _, true => some (t, qn fp.1)
    | true, .pointer _, false => none
    | true, _, false => some (t, qn fp.1)
    | _, _, _ => none
def ownMeths (P : Program) (name : String) : Nat → List (Nat × Q)
  | 0 => []
  | n + 1 => (match ownMeth P name n with
    | some p => p :: ownMeths P name n
    | none => ownMeths P name n)
def compCall (P : Program) (c : Call) : OB :=
  match c.callee with
  | .value f => .call (compX P f) (c.args.toList.map (compX P))
  | .invoke recv name => .inv (ownMeths P name P.types.size) (compX P recv) (c.args.toList.map (compX P))
  | .builtin b =>
    match b, c.args.toList, c.argTypes.toList with
    | .append, [x, y], [t, u] => orW ((sliceElem P t).bind fun e => (match P.underlying u with | some (.slice _) => some () | some .string => some () | _ => none).bind fun _ => (szOf P e).bind fun s => (zeroL P e).bind fun z => match Nat.blt 0 s && Nat.ble (bytesAt P e) 16384 && Nat.blt 0 (bytesAt P e) with
      | true => some (.ap e s (compX P x) (compX P y))
      | false => none)
    | .len, [x], [t] => (match P.underlying t with
      | some .string => .p (.lenS (compX P x))
      | some (.slice _) => .p (.lenL (compX P x))
      | some (.map _ _) => .p (.lenM (compX P x))
      | _ => .p .bad)
    | .copy, [x, y], [t, u] => orW ((sliceElem P t).bind fun e => (sliceElem P u).bind fun _ => (szOf P e).map fun s => .cp s (compX P x) (compX P y))
    | .unsafeSliceData, [x], _ => .p (.sd (compX P x))
    | .unsafeString, [x, y], [pt, _] => (match P.underlying pt with
      | some (.pointer e) => (match Nat.beq (P.cellsOf e) 1 with
        | true => .w (.us e (compX P x) (compX P y))
        | false => .p .bad)
      | _ => .p .bad)
    | .max, [x, y], _ => .p (.max (compX P x) (compX P y))
    | .recover, [], _ => .rcv
    | _, _, _ => .p .bad
def flatF (P : Program) : List Field → Nat → Option (List FK)
  | [], _ => some []
  | f :: fs, i => (match Nat.beq f.offset i && f.name != "_" with
    | true => (match P.underlying f.type with
      | some .bool => (flatF P fs (i + 1)).map (.b :: ·)
      | some .string => (flatF P fs (i + 1)).map (.s :: ·)
      | some (.int _) => (flatF P fs (i + 1)).map (.i :: ·)
      | _ => none)
    | false => none)
def mapT (P : Program) (t : TypeId) : Option (KK × TypeId) :=
  match P.underlying t with
  | some (.map k e) => (match P.underlying k with
    | some .string => some (.str, e)
    | some (.int _) => some (.int, e)
    | some (.pointer p) => (match szOf P p with
      | some s => (match Nat.blt 0 s with
        | true => some (.ptr, e)
        | false => none)
      | none => none)
    | some (.struct fs) => (match P.stoodInHeld k with
      | true => none
      | false => (flatF P fs.toList 0).map fun l => (.st l, e))
    | _ => none)
  | _ => none
def compOp (P : Program) (o : Oper) : OB :=
  match o.op with
  | .move x => .p (.mv (compX P x))
  | .assign x => .p (.mv (compX P x))
  | .pick c a b => .p (.pick (compX P c) (compX P a) (compX P b))
  | .alloc t => orA ((zeroL P t).map fun z => .al t z.length (T.ofList z))
  | .box t x => orA ((szOf P t).map fun s => .bx t s (compX P x))
  | .build t parts => orP ((zeroL P t).bind fun z => (partsOf P t parts.toList).map fun ps => .bld z ps)
  | .buildSlice t len parts => orA ((sliceElem P t).bind fun e => (zeroL P e).bind fun z => match Nat.blt 0 z.length && Nat.ble (len * z.length) 16777216 && parts.toList.all (fun p => Nat.blt p.1 len) with
    | true => some (.bsl e z.length len (T.ofList (repL z len)) (bslParts P parts.toList))
    | false => none)
  | .load t a => orP ((aggOf P t).bind fun g => (szOf P t).bind fun s => match g with
    | true => some (.ldn s (compX P a))
    | false => (match Nat.beq s 1 with
      | true => some (.ld1 (compX P a))
      | false => none))
  | .store t a x => orW ((szOf P t).map fun s => .st s (compX P a) (compX P x))
  | .nilCheck x => .p (.nck (compX P x))
  | .binOp op t x y _ => .p (compBin P op t x y)
  | .unOp op _ x => (match op with
    | .neg => .p (.neg (compX P x))
    | .not => .p (.not (compX P x))
    | _ => .p .bad)
  | .convert s d x => (match P.underlying s, P.underlying d with
    | some (.int _), some (.int k) => .p (.cvi k (compX P x))
    | some .string, some .string => .p (.cvs (compX P x))
    | some (.int _), some .string => .p (.cis (compX P x))
    | some (.pointer e), some .unsafePointer => (match szOf P e with
      | some (_ + 1) => .p (.ctu (compX P x))
      | _ => .p .bad)
    | some .unsafePointer, some (.pointer e) => (match szOf P e with
      | some (n + 1) => (match liesAt P P.depth e ((n + 1) / P.cellsOf e) 0 e 1 with
        | true => .p (.cfu e (n + 1) (compX P x))
        | false => .p .bad)
      | _ => .p .bad)
    | some .string, some (.slice e) => (match P.underlying e with
      | some (.int .u8) => .w (.sb (compX P x))
      | _ => .p .bad)
    | _, _ => .p .bad)
  | .makeInterface t x => (match P.underlying t with
    | some (.interface _) => .p .bad
    | some _ => .p (.mki t (compX P x))
    | none => .p .bad)
  | .makeFunc fn first caps => (match fn with
    | .func f => .p (.mkf (qn f) (first.toList.map (compX P)) (caps.toList.map (compX P)))
    | _ => .p .bad)
  | .makeMap _ r => (match r with
    | none => .a .mkm
    | some _ => .p .bad)
  | .makeSlice t l c => orA ((sliceElem P t).bind fun e => (zeroL P e).bind fun z => match Nat.blt 0 z.length && Nat.ble (bytesAt P e) 16384 with
    | true => some (.mks e z.length z (compX P l) (compX P c))
    | false => none)
  | .slice t x lo hi mx => (match P.underlying t, mx with
    | some .string, none => .p (.slS (compX P x) (lo.map (compX P)) (hi.map (compX P)))
    | some (.slice e), mx => (match mx.isSome && hi.isNone with | true => .p .bad | false => orP ((szOf P e).map fun s => .slL s (compX P x) (lo.map (compX P)) (hi.map (compX P)) (mx.map (compX P))))
    | _, _ => .p .bad)
  | .fieldAddr t x f => orP ((fieldAt? P t f).bind fun ot => (szOf P ot.2).bind fun s => match Nat.blt 0 s with
    | true => some (.fa ot.1 (compX P x))
    | false => none)
  | .field t x f => orP ((fieldAt? P t f).bind fun ot => (szOf P ot.2).bind fun s => (aggOf P ot.2).map fun g => .fd g ot.1 s (compX P x))
  | .indexAddr t x i => (match P.underlying t with
    | some (.slice e) => orP ((szOf P e).map fun s => .ia s (compX P x) (compX P i))
    | some (.array len e) => orP ((szOf P e).map fun s => .iaa len s (compX P x) (compX P i))
    | _ => .p .bad)
  | .index t x i => (match P.underlying t with
    | some .string => .p (.ixs (compX P x) (compX P i))
    | some (.array len e) => orP ((szOf P e).bind fun s => (aggOf P e).map fun g => .ixa g len s (compX P x) (compX P i))
    | _ => .p .bad)
  | .lookup t m k ok => (match mapT P t with
    | some (s, e) => orP ((zeroV P e).map fun z => .lk s ok z (compX P m) (compX P k))
    | _ => .p .bad)
  | .mapUpdate t m k x => (match mapT P t with
    | some (s, _) => .w (.mu s (compX P m) (compX P k) (compX P x))
    | _ => .p .bad)
  | .insert t m k x => (match mapT P t with
    | some (s, _) => .w (.mu s (compX P m) (compX P k) (compX P x))
    | _ => .p .bad)
  | .mapEntry t m k => (match mapT P t with
    | some (s, e) => orW ((zeroV P e).map fun z => .me s z (compX P m) (compX P k))
    | _ => .p .bad)
  | .entryStore _ m s x => .w (.es (compX P m) (compX P s) (compX P x))
  | .extract t i => .p (.ex i (compX P t))
  | .typeAssert x _ t ok => orP ((P.underlying t).bind fun u => match u with
    | .interface _ => none
    | _ => (zeroV P t).map fun z => .ta ok t z (compX P x))
  | .call c => compCall P c
  | .defer c => (match c.callee with
    | .value f => .dfr (compX P f) (c.args.toList.map (compX P))
    | .builtin .delete => (match c.args.toList, c.argTypes.toList with
      | [m, key], t :: _ => (match mapT P t with
        | some (s, _) => .dfd s (compX P m) (compX P key)
        | none => .p .bad)
      | _, _ => .p .bad)
    | _ => .p .bad)
  | _ => .p .bad
def dstN (n : Nat) (o : Oper) : Option (Option Q) :=
  match o.dst with
  | none => some none
  | some d => (match Nat.blt d n with
    | true => some (some (qn d))
    | false => none)
def badCO : CO := .mk none none (.p .bad)
def compO (P : Program) (n : Nat) (ops : Array Oper) (o : Oper) : CO :=
  match dstN n o with
  | none => badCO
  | some d =>
    match o.guard with
    | none => .mk d none (compOp P o)
    | some (j, want) => (match (ops[j]?).bind (·.dst) with
      | none => badCO
      | some t => (match Nat.blt t n with
        | true => .mk d (some (qn t, want)) (compOp P o)
        | false => badCO))
inductive Pl where
  | run (i : Nat)
  | chk (i : Nat)
def isW (b : OB) : Bool :=
  match b with
  | .p _ => false
  | .a _ => false
  | _ => true
def isR (b : PB) : Bool :=
  match b with
  | .ld1 _ => true
  | .ldn _ _ => true
  | .lk _ _ _ _ _ => true
  | .lenM _ => true
  | .eq _ _ _ _ => true
  | .ctu _ => true
  | .cfu _ _ _ => true
  | _ => false
def isRO (b : OB) : Bool :=
  match b with
  | .p b => isR b
  | _ => false
inductive Inf where
  | mk (bf rd : Nat) (dst : Option Nat) (w r g : Bool)
def Inf.bf : Inf → Nat | .mk b _ _ _ _ _ => b
def Inf.rd : Inf → Nat | .mk _ r _ _ _ _ => r
def Inf.dst : Inf → Option Nat | .mk _ _ d _ _ _ => d
def Inf.w : Inf → Bool | .mk _ _ _ w _ _ => w
def Inf.r : Inf → Bool | .mk _ _ _ _ r _ => r
def Inf.g : Inf → Bool | .mk _ _ _ _ _ g => g
instance : Inhabited Inf := ⟨.mk 0 0 none true false true⟩
def bfs : List Oper → List Nat → List Nat
  | [], acc => acc
  | o :: os, acc => bfs os (acc ++ [o.after.toList.foldl (fun s e => if Region.binds .any e then s ||| 2 ^ e.on ||| acc.getD e.on 0 else s) 0])
def rdsOf (ops : Array Oper) (o : Oper) : Nat :=
  o.op.operands.toList.foldl (fun s x => match x with | .tmp t => s ||| 2 ^ t | _ => s) (match o.guard with | some (j, _) => (match (ops[j]?).bind (·.dst) with | some t => 2 ^ t | none => 0) | none => 0)
def isAs (o : Op) : Bool :=
  match o with
  | .assign _ => true
  | _ => false
def infOf (P : Program) (ops : Array Oper) : List Oper → List Nat → List Inf
  | o :: os, b :: bs => (match compOp P o with
    | c => .mk b (rdsOf ops o) o.dst (isW c || isAs o.op) (isRO c) o.guard.isSome) :: infOf P ops os bs
  | _, _ => []
def sub (a b : Nat) : Bool := Nat.beq (Nat.land a b) a
def eager : List Inf → Nat → Nat → List Pl → (List Pl → Nat → List Pl) → List Pl
  | [], _, e, acc, k => k acc e
  | f :: fs, i, e, acc, k =>
    match !Nat.testBit e i && !f.w && sub f.bf e with
    | true => eager fs (i + 1) (e ||| 2 ^ i) (.run i :: acc) k
    | false => eager fs (i + 1) e acc k
def nextW : List Inf → Nat → Nat → Option (Nat × Nat)
  | [], _, _ => none
  | f :: fs, i, e => (match !Nat.testBit e i && sub f.bf e with
    | true => some (i, f.bf)
    | false => nextW fs (i + 1) e)
def rechk (wbf e : Nat) : List Inf → Nat → List Pl
  | [], _ => []
  | f :: fs, i => (match Nat.testBit e i && f.r && !Nat.testBit wbf i with
    | true => .chk i :: rechk wbf e fs (i + 1)
    | false => rechk wbf e fs (i + 1))
def planF (fs : List Inf) : Nat → Nat → List Pl
  | 0, _ => []
  | n + 1, e =>
    eager fs 0 e [] fun acc e' => acc.reverse ++ (match nextW fs 0 e' with
      | none => []
      | some (w, b) => .run w :: (rechk b e' fs 0 ++ planF fs n (e' ||| 2 ^ w)))
def chkHas (i : Nat) : List Pl → Bool
  | .chk j :: l => (match Nat.beq i j with
    | true => true
    | false => chkHas i l)
  | _ => false
def wOk (w wbf e : Nat) (l : List Pl) : List Inf → Nat → Bool
  | [], _ => true
  | f :: fs, i => (match Nat.beq i w with
    | true => true
    | false => (match Nat.testBit e i with
      | false => Nat.testBit f.bf w
      | true => !f.r || Nat.testBit wbf i || chkHas i l)) && wOk w wbf e l fs (i + 1)
def planCk (fs : List Inf) : List Pl → Nat → Bool
  | [], e => Nat.beq e (2 ^ fs.length - 1)
  | .run i :: l, e => (match fs[i]? with
    | none => false
    | some f => !Nat.testBit e i && sub f.bf e && (!f.w || wOk i f.bf e l fs 0) && planCk fs l (e ||| 2 ^ i))
  | .chk i :: l, e => (match fs[i]? with
    | none => false
    | some f => Nat.testBit e i && !f.w && planCk fs l e)
def dstCk (t i : Nat) (w : Bool) (bf : Nat) : List Inf → Nat → Bool
  | [], _ => true
  | f :: fs, j => (match Nat.beq i j with
    | true => w || !Nat.testBit f.rd t
    | false => (match f.dst with
      | none => true
      | some u => !Nat.beq t u) && (!Nat.testBit f.rd t || Nat.testBit f.bf i || (w && Nat.testBit bf j))) && dstCk t i w bf fs (j + 1)
def tmpCk (all : List Inf) : List Inf → Nat → Bool
  | [], _ => true
  | f :: fs, i => (match f.dst with
    | none => true
    | some t => dstCk t i f.w f.bf all 0) && tmpCk all fs (i + 1)
def edgeCk : List Oper → Nat → Bool
  | [], _ => true
  | o :: os, i => o.after.toList.all (fun e => !Region.binds .any e || Nat.blt e.on i) && edgeCk os (i + 1)
def psOf (P : Program) (n : Nat) (ops : Array Oper) (p : Pl) : PS :=
  match p with
  | .run i => (match ops[i]? with
    | some o => .op (compO P n ops o)
    | none => .op badCO)
  | .chk i => (match ops[i]? with
    | some o => (match compO P n ops o with
      | .mk (some q) g (.p b) => .chk g b q
      | _ => .op badCO)
    | none => .op badCO)
def infs (P : Program) (ops : Array Oper) : List Inf := infOf P ops ops.toList (bfs ops.toList [])
def planOf (P : Program) (n : Nat) (ops : Array Oper) : List PS :=
  match infs P ops with
  | fs => (match planF fs (fs.length + 1) 0 with
    | pl => (match Nat.beq fs.length ops.size && edgeCk ops.toList 0 && tmpCk fs fs 0 && planCk fs pl 0 with
      | true => pl.map (psOf P n ops)
      | false => [.op badCO]))
def compC (P : Program) (n : Nat) : Code → C
  | .skip => .skip
  | .label _ => .skip
  | .region _ ops draw => (match draw with
    | false => .reg (ops.toList.map fun o => .op (compO P n ops o))
    | true => .reg (planOf P n ops))
  | .seq a b => .seq (compC P n a) (compC P n b)
  | .cond x a b => .cond (compX P x) (compC P n a) (compC P n b)
  | .block id c => .block id (compC P n c)
  | .loop c => .loop (compC P n c)
  | .rangeFunc f params asg body => (match params.toList.all fun t => Nat.blt t n with
    | true => .rf (compX P f) (params.toList.map qn) (compC P n asg) (compC P n body)
    | false => .bad)
  | .exit id => .exit id
  | .scope c => .scope (compC P n c)
  | .ret => .ret
  | _ => .bad
def compR (P : Program) : List ResultVar → Option (List RV)
  | [] => some []
  | .tmp t :: r => (compR P r).map (.t (qn t) :: ·)
  | .cell a t :: r => (aggOf P t).bind fun g => (szOf P t).bind fun s => match g || Nat.beq s 1 with
    | true => (compR P r).map (.cell g s (qn a) :: ·)
    | false => none
def compF (P : Program) (f : Nat) : CF :=
  match P.funcs[f]? with
  | none => .none
  | some fn =>
    match fn.body with
    | none => (match fn.name == "internal/bytealg.IndexByteString", fn.name == "internal/bytealg.CountString", fn.name == "internal/abi.NoEscape" with
      | true, _, _ => .ext 0
      | _, true, _ => .ext 1
      | _, _, true => .ext 2
      | _, _, _ => .none)
    | some c => (match fn.name == "runtime.NumGoroutine" with
      | true => .none
      | false => (match compR P fn.results.toList with
        | none => .none
        | some rs => .mk (compC P fn.ntmps c) rs))
def mkT (P : Program) (q : Q) : CF := compF P q.nat
end Go.CM
end
noncomputable section
namespace Go.CM
theorem forceN_eq (n : Nat) (k : Nat → Res) : forceN n k = k n := by cases n <;> rfl
theorem forceI_eq (n : Int) (k : Int → Res) : forceI n k = k n := by cases n <;> simp only [forceI, forceN_eq]
theorem gd_ok {b : Bool} {n : Nat} {k : Res} {v : V} (h : gd b n k = .ok v) : b = true ∧ k = .ok v := by
  cases b
  · cases h
  · exact ⟨rfl, h⟩
theorem QR.nat_succ : ∀ q : QR, q.succ.nat = q.nat + 1
  | .e => rfl
  | .a q => by simp only [QR.succ, QR.nat]
  | .b q => by simp only [QR.succ, QR.nat]
  | .c q => by simp only [QR.succ, QR.nat]
  | .d q => by simp only [QR.succ, QR.nat, QR.nat_succ q]; omega
theorem QR.nat_inj : ∀ {p q : QR}, p.nat = q.nat → p = q
  | .e, .e, _ => rfl
  | .e, .a _, h | .e, .b _, h | .e, .c _, h | .e, .d _, h => by simp only [QR.nat] at h; omega
  | .a _, .e, h | .b _, .e, h | .c _, .e, h | .d _, .e, h => by simp only [QR.nat] at h; omega
  | .a p, .a q, h => by simp only [QR.nat] at h; rw [QR.nat_inj (p := p) (q := q) (by omega)]
  | .b p, .b q, h => by simp only [QR.nat] at h; rw [QR.nat_inj (p := p) (q := q) (by omega)]
  | .c p, .c q, h => by simp only [QR.nat] at h; rw [QR.nat_inj (p := p) (q := q) (by omega)]
  | .d p, .d q, h => by simp only [QR.nat] at h; rw [QR.nat_inj (p := p) (q := q) (by omega)]
  | .a _, .b _, h | .a _, .c _, h | .a _, .d _, h | .b _, .a _, h | .b _, .c _, h | .b _, .d _, h | .c _, .a _, h | .c _, .b _, h | .c _, .d _, h | .d _, .a _, h | .d _, .b _, h | .d _, .c _, h => by
    simp only [QR.nat] at h; omega
theorem QR.ofF_nat : ∀ (f n : Nat), n ≤ f → (QR.ofF f n).nat = n
  | 0, n, h => by simp only [QR.ofF, QR.nat]; omega
  | f + 1, 0, _ => rfl
  | f + 1, m + 1, h => by
    have ih := QR.ofF_nat f (m / 4) (by omega)
    have h4 : m % 4 = 0 ∨ m % 4 = 1 ∨ m % 4 = 2 ∨ m % 4 = 3 := by omega
    rcases h4 with hr | hr | hr | hr <;> simp only [QR.ofF, hr, QR.nat, ih] <;> omega
theorem QR.of_nat (n : Nat) : (QR.of n).nat = n := QR.ofF_nat n n (Nat.le_refl _)
theorem QR.beq_iff : ∀ {p q : QR}, p.beq q = true ↔ p = q
  | .e, .e => by simp [QR.beq]
  | .e, .a _ | .e, .b _ | .e, .c _ | .e, .d _ => by simp [QR.beq]
  | .a _, .e | .b _, .e | .c _, .e | .d _, .e => by simp [QR.beq]
  | .a p, .a q | .b p, .b q | .c p, .c q | .d p, .d q => by simp [QR.beq, QR.beq_iff (p := p) (q := q)]
  | .a _, .b _ | .a _, .c _ | .a _, .d _ | .b _, .a _ | .b _, .c _ | .b _, .d _ | .c _, .a _ | .c _, .b _ | .c _, .d _ | .d _, .a _ | .d _, .b _ | .d _, .c _ => by simp [QR.beq]
section
variable {α : Type}
theorem QN.nt_sc {f : α → Nat} {s : α → α} {z : α} (h : ∀ q, f (s q) = f q + 1) (hz : f z = 0) (q : QN α) : QN.nt f (QN.sc s z q) = QN.nt f q + 1 := by
  cases q <;> simp only [QN.nt, QN.sc, h, hz] <;> omega
theorem QN.nt_inj {f : α → Nat} (h : ∀ {p q}, f p = f q → p = q) {p q : QN α} (e : QN.nt f p = QN.nt f q) : p = q := by
  cases p <;> cases q <;> simp only [QN.nt] at e <;> first | rfl | omega | (rename_i p q; rw [h (p := p) (q := q) (by omega)])
theorem QN.nt_of {f : α → Nat} {g : Nat → α} (h : ∀ n, f (g n) = n) (n : Nat) : QN.nt f (QN.of g n) = n := by
  cases n with
  | zero => rfl
  | succ m =>
    simp only [QN.of]
    have : m % 4 < 4 := Nat.mod_lt _ (by omega)
    match hr : m % 4, this with
    | 0, _ => simp only [QN.dg, QN.nt, h]; omega
    | 1, _ => simp only [QN.dg, QN.nt, h]; omega
    | 2, _ => simp only [QN.dg, QN.nt, h]; omega
    | 3, _ => simp only [QN.dg, QN.nt, h]; omega
theorem QN.bq_iff {f : α → α → Bool} (h : ∀ {p q}, f p q = true ↔ p = q) {p q : QN α} : QN.bq f p q = true ↔ p = q := by
  cases p <;> cases q <;> simp [QN.bq, h]
end
theorem Q.nat_succ (q : Q) : q.succ.nat = q.nat + 1 :=
  QN.nt_sc (QN.nt_sc (QN.nt_sc (QN.nt_sc (QN.nt_sc (QN.nt_sc (QN.nt_sc (QN.nt_sc (QN.nt_sc (QN.nt_sc QR.nat_succ rfl) rfl) rfl) rfl) rfl) rfl) rfl) rfl) rfl) rfl q
theorem Q.nat_inj {p q : Q} (h : p.nat = q.nat) : p = q :=
  QN.nt_inj (QN.nt_inj (QN.nt_inj (QN.nt_inj (QN.nt_inj (QN.nt_inj (QN.nt_inj (QN.nt_inj (QN.nt_inj (QN.nt_inj QR.nat_inj))))))))) h
theorem qn_nat (n : Nat) : (qn n).nat = n :=
  QN.nt_of (QN.nt_of (QN.nt_of (QN.nt_of (QN.nt_of (QN.nt_of (QN.nt_of (QN.nt_of (QN.nt_of (QN.nt_of QR.of_nat))))))))) n
theorem qn_of (q : Q) : qn q.nat = q := Q.nat_inj (qn_nat _)
theorem qn_inj {m n : Nat} (h : qn m = qn n) : m = n := by rw [← qn_nat m, ← qn_nat n, h]
theorem qn_succ (n : Nat) : (qn n).succ = qn (n + 1) := Q.nat_inj (by rw [Q.nat_succ, qn_nat, qn_nat])
theorem Q.beq_iff {p q : Q} : p.beq q = true ↔ p = q :=
  QN.bq_iff (QN.bq_iff (QN.bq_iff (QN.bq_iff (QN.bq_iff (QN.bq_iff (QN.bq_iff (QN.bq_iff (QN.bq_iff (QN.bq_iff QR.beq_iff)))))))))
instance : DecidableEq Q := fun p q => decidable_of_iff (p.beq q = true) Q.beq_iff
instance : DecidableEq QR := fun p q => decidable_of_iff (p.beq q = true) QR.beq_iff
theorem qnK_eq (n : Nat) (k : Q → Res) : qnK n k = k (qn n) := rfl
theorem succK_eq (q : Q) (k : Q → Res) : succK q k = k q.succ := rfl
theorem getK_eq {α : Type} [Dft α] (z : α) (q : Q) (t : T α) (k : α → Res) : getK z q t k = k (t.get z q) := rfl
theorem putK_eq {α : Type} [Dft α] (z v : α) (q : Q) (t : T α) (k : T α → Res) : putK z v q t k = k (t.put z v q) := rfl
theorem getR_eq (q : Q) (fe : Q → CF) (k : CF → Res) : getR q fe k = k (fe q) := rfl
theorem TQ.get_put {α : Type} (z v : α) : ∀ (p q : QR) (t : TQ α), (TQ.put z v p t).get z q = if p = q then v else t.get z q
  | .e, .e, t => by cases t <;> rfl
  | .e, .a q, t | .e, .b q, t | .e, .c q, t | .e, .d q, t => by cases t <;> simp [TQ.put, TQ.get]
  | .a p, .e, t | .b p, .e, t | .c p, .e, t | .d p, .e, t => by cases t <;> simp [TQ.put, TQ.get]
  | .a p, .a q, t | .b p, .b q, t | .c p, .c q, t | .d p, .d q, t => by cases t <;> simp [TQ.put, TQ.get, TQ.get_put z v p q]
  | .a p, .b q, t | .a p, .c q, t | .a p, .d q, t | .b p, .a q, t | .b p, .c q, t | .b p, .d q, t | .c p, .a q, t | .c p, .b q, t | .c p, .d q, t | .d p, .a q, t | .d p, .b q, t | .d p, .c q, t => by
    cases t <;> simp [TQ.put, TQ.get]
theorem TQ.get_nil {α : Type} (z : α) (q : QR) : (TQ.nil : TQ α).get z q = z := by cases q <;> rfl
def GP {α β κ : Type} (g : β → κ → α) (p : κ → β → β) (v : α) : Prop := (∀ q t, g (p q t) q = v) ∧ ∀ q r t, q ≠ r → g (p q t) r = g t r
theorem N5.gp {α β κ : Type} {g : β → κ → α} {p : κ → β → β} {v : α} (h : GP g p v) : GP (N5.gt g) (N5.pt p v) v := by
  constructor
  · intro q t
    cases t; cases q <;> simp [N5.gt, N5.pt, h.1]
  · intro q r t hn
    cases t
    cases q <;> cases r <;> simp only [N5.gt, N5.pt] <;> first | exact absurd rfl hn | exact h.2 _ _ _ (fun e => hn (by rw [e]))
theorem TQ.gp {α : Type} (z v : α) : GP (TQ.get z) (TQ.put z v) v :=
  ⟨fun q t => by rw [TQ.get_put, if_pos rfl], fun q r t h => by rw [TQ.get_put, if_neg h]⟩
theorem T.gp {α : Type} [Dft α] (v : α) : GP (N5.gt g9) (N5.pt (p9 v) v) v :=
  N5.gp (N5.gp (N5.gp (N5.gp (N5.gp (N5.gp (N5.gp (N5.gp (N5.gp (N5.gp (TQ.gp _ v))))))))))
theorem N5.gt_nil {α β κ : Type} {g : β → κ → α} {z : α} {n : β} (h : ∀ r, g n r = z) (r : QN κ) : N5.gt g (.mk z n n n n) r = z := by cases r <;> simp [N5.gt, h]
theorem T.get_put {α : Type} [Dft α] (z v : α) (p q : Q) (t : T α) : (T.put z v p t).get z q = if p = q then v else t.get z q := by
  split
  · rename_i h; subst h; exact (T.gp v).1 p t
  · rename_i h; exact (T.gp v).2 p q t h
theorem T.get_nil {α : Type} [Dft α] (z : α) (q : Q) : (T.nil : T α).get z q = Dft.z :=
  N5.gt_nil (N5.gt_nil (N5.gt_nil (N5.gt_nil (N5.gt_nil (N5.gt_nil (N5.gt_nil (N5.gt_nil (N5.gt_nil (N5.gt_nil (TQ.get_nil _)))))))))) q
theorem T.get_put_same {α : Type} [Dft α] (z v : α) (p : Q) (t : T α) : (T.put z v p t).get z p = v := by rw [T.get_put, if_pos rfl]
theorem T.get_put_ne {α : Type} [Dft α] (z v : α) {p q : Q} (t : T α) (h : p ≠ q) : (T.put z v p t).get z q = t.get z q := by rw [T.get_put, if_neg h]
abbrev T.at (t : T V) (n : Nat) : V := t.get V.undef (qn n)
def putsL : List V → Nat → T V → T V
  | [], _, t => t
  | v :: vs, i, t => putsL vs (i + 1) (t.put V.undef v (qn i))
theorem putsK_eq (vs : List V) : ∀ (i : Nat) (t : T V) (k : T V → Res), putsK vs i t k = k (putsL vs i t) := by
  induction vs with
  | nil => intro i t k; rfl
  | cons v vs ih =>
    intro i t k
    show qnK i (fun q => pV v q t fun t' => forceN (i + 1) fun i' => putsK vs i' t' k) = _
    rw [qnK_eq, pV, putK_eq, forceN_eq, ih]; rfl
theorem putsL_at : ∀ (vs : List V) (i : Nat) (t : T V) (j : Nat), (putsL vs i t).at j = if i ≤ j ∧ j < i + vs.length then vs.getD (j - i) V.undef else t.at j
  | [], i, t, j => by simp [putsL]; intro h h'; omega
  | v :: vs, i, t, j => by
    simp only [putsL]
    rw [putsL_at vs (i + 1)]
    by_cases h : i = j
    · subst h
      rw [if_neg (by omega), T.at, T.get_put_same, if_pos (by simp)]
      simp
    · by_cases h2 : i + 1 ≤ j ∧ j < i + 1 + vs.length
      · rw [if_pos h2, if_pos (by simp; omega)]
        rw [show j - i = j - (i + 1) + 1 by omega]; simp
      · rw [if_neg h2, T.at, T.get_put_ne _ _ _ (fun e => h (qn_inj e)), if_neg (by simp; omega)]
def getsL (n i : Nat) (t : T V) : List V := (List.range' i n).map t.at
theorem getsK_eq (n : Nat) : ∀ (i : Nat) (t : T V) (k : List V → Res), getsK n i t k = k (getsL n i t) := by
  induction n with
  | zero => intro i t k; rfl
  | succ n ih =>
    intro i t k
    have ih' := fun j k => ih j t k
    show qnK i (fun q => gV q t fun v => forceN (i + 1) fun i' => getsK n i' t fun l => k (v :: l)) = _
    rw [qnK_eq, gV, getK_eq, forceN_eq, ih']
    simp [getsL, List.range'_succ]
theorem getsL_length (n i : Nat) (t : T V) : (getsL n i t).length = n := by simp [getsL]
theorem getsL_get {n i : Nat} {t : T V} {j : Nat} (h : j < n) : (getsL n i t)[j]? = some (t.at (i + j)) := by simp [getsL, h]
theorem lenK_eq {α : Type} (l : List α) : ∀ k : Nat → Res, lenK l k = k l.length := by
  induction l with
  | nil => intro k; rfl
  | cons a l ih => intro k; show lenK l (fun n => forceN (n + 1) k) = _; rw [ih, forceN_eq]; rfl
theorem nthK_eq {α : Type} (l : List α) : ∀ (n : Nat) (k : α → Res), nthK l n k = match l[n]? with | some v => k v | none => .bad 1 := by
  induction l with
  | nil => intro n k; rfl
  | cons a l ih => intro n k; cases n with | zero => rfl | succ n => exact ih n k
theorem nthK_ok {α : Type} {l : List α} {n : Nat} {k : α → Res} {r : V} (h : nthK l n k = .ok r) : ∃ v, l[n]? = some v ∧ k v = .ok r := by
  rw [nthK_eq] at h
  cases e : l[n]? with
  | none => rw [e] at h; cases h
  | some v => rw [e] at h; exact ⟨v, rfl, h⟩
def zerosL (z : List V) : Nat → Nat → T V → T V
  | 0, _, t => t
  | n + 1, i, t => zerosL z n (i + z.length) (putsL z i t)
theorem zerosK_eq (z : List V) (n : Nat) : ∀ (i : Nat) (t : T V) (k : T V → Res), zerosK z n i t k = k (zerosL z n i t) := by
  induction n with
  | zero => intro i t k; rfl
  | succ n ih =>
    intro i t k
    show putsK z i t (fun t' => lenK z fun m => forceN (i + m) fun i' => zerosK z n i' t' k) = _
    rw [putsK_eq, lenK_eq, forceN_eq, ih]; rfl
def argsL : List V → Q → T V → T V
  | [], _, t => t
  | v :: vs, q, t => argsL vs q.succ (t.put V.undef v q)
theorem argsK_eq (vs : List V) : ∀ (q : Q) (t : T V) (k : T V → Res), argsK vs q t k = k (argsL vs q t) := by
  induction vs with
  | nil => intro q t k; rfl
  | cons v vs ih =>
    intro q t k
    show pV v q t (fun t' => succK q fun q' => argsK vs q' t' k) = _
    rw [pV, putK_eq, succK_eq, ih]; rfl
theorem argsL_eq : ∀ (vs : List V) (n : Nat) (t : T V), argsL vs (qn n) t = putsL vs n t
  | [], n, t => rfl
  | v :: vs, n, t => by simp only [argsL, putsL, qn_succ, argsL_eq vs]
theorem appX_eq : ∀ (l m : List V) (k : List V → Res), appX l m k = k (l ++ m)
  | [], m, k => rfl
  | v :: l, m, k => by simp only [appX, appX_eq l]; rfl
def xE (tm : T V) : X → Option V
  | .t q => some (tm.get V.undef q)
  | .c v => some v
  | .bad => none
theorem xK_ok {x : X} {tm : T V} {k : V → Res} {r : V} (h : xK x tm k = .ok r) : ∃ v, xE tm x = some v ∧ k v = .ok r := by
  cases x with
  | t q => simp only [xK, gV, getK_eq] at h; exact ⟨_, rfl, h⟩
  | c v => exact ⟨v, rfl, h⟩
  | bad => cases h
def xsE (tm : T V) : List X → Option (List V)
  | [] => some []
  | x :: xs => (xE tm x).bind fun v => (xsE tm xs).map (v :: ·)
theorem xsK_ok {tm : T V} : ∀ {xs : List X} {k : List V → Res} {r : V}, xsK xs tm k = .ok r → ∃ vs, xsE tm xs = some vs ∧ k vs = .ok r
  | [], k, r, h => ⟨[], rfl, h⟩
  | x :: xs, k, r, h => by
    have h' : xK x tm (fun v => xsK xs tm fun l => k (v :: l)) = .ok r := h
    obtain ⟨v, h1, h2⟩ := xK_ok h'
    obtain ⟨vs, h3, h4⟩ := xsK_ok h2
    exact ⟨v :: vs, by simp [xsE, h1, h3], h4⟩
theorem asI_ok {v : V} {k : IntKind → Int → Res} {r : V} (h : asI v k = .ok r) : ∃ kd n, v = .int kd n ∧ k kd n = .ok r := by
  cases v <;> first | exact ⟨_, _, rfl, h⟩ | cases h
theorem asB_ok {v : V} {k : Bool → Res} {r : V} (h : asB v k = .ok r) : ∃ b, v = .bool b ∧ k b = .ok r := by
  cases v <;> first | exact ⟨_, rfl, h⟩ | cases h
theorem asN_ok {v : V} {k : Nat → Res} {r : V} (h : asN v k = .ok r) : ∃ kd n, v = .int kd (.ofNat n) ∧ k n = .ok r := by
  cases v with
  | int kd n => cases n with
    | ofNat m => exact ⟨_, _, rfl, h⟩
    | negSucc m => cases h
  | _ => cases h
theorem asP_ok {v : V} {k : Q → Nat → Res} {r : V} (h : asP v k = .ok r) : ∃ o off, v = .ptr o off ∧ k o off = .ok r := by
  cases v <;> first | exact ⟨_, _, rfl, h⟩ | cases h
theorem asS_ok {v : V} {k : Nat → Nat → Res} {r : V} (h : asS v k = .ok r) : ∃ l n, v = .str l n ∧ k l n = .ok r := by
  cases v <;> first | exact ⟨_, _, rfl, h⟩ | cases h
theorem asA_ok {v : V} {k : List V → Res} {r : V} (h : asA v k = .ok r) : ∃ l, v = .agg l ∧ k l = .ok r := by
  cases v <;> first | exact ⟨_, rfl, h⟩ | cases h
theorem rowO_ok {o : O} {k : Nat → T V → Res} {r : V} (h : rowO o k = .ok r) : ∃ n t, ((∃ anc flo ty ex, o = .row n t anc flo ty ex) ∨ o = .ro n t) ∧ k n t = .ok r := by
  cases o <;> first | exact ⟨_, _, .inl ⟨_, _, _, _, rfl⟩, h⟩ | exact ⟨_, _, .inr rfl, h⟩ | cases h
theorem mapO_ok {o : O} {k : List (V × V) → Res} {r : V} (h : mapO o k = .ok r) : ∃ es, (o = .map es ∨ o = .mapd es) ∧ k es = .ok r := by
  cases o <;> first | exact ⟨_, .inl rfl, h⟩ | exact ⟨_, .inr rfl, h⟩ | cases h
theorem mapE_ok {o : O} {k : List (V × V) → Res} {r : V} (h : mapE o k = .ok r) : ∃ es, o = .map es ∧ k es = .ok r := by
  cases o <;> first | exact ⟨_, rfl, h⟩ | cases h
theorem loopO_ok {o : O} {k : Nat → Jump → Q → T V → List Q → C → C → Q → Res} {r : V} (h : loopO o k = .ok r) :
    ∃ st pend fn tm ps asg body dfs, o = .loop (.mk st pend fn tm ps asg body dfs) ∧ k st pend fn tm ps asg body dfs = .ok r := by
  cases o with
  | loop l => cases l; exact ⟨_, _, _, _, _, _, _, _, rfl, h⟩
  | _ => cases h
abbrev T.ob (h : T O) (q : Q) : O := h.get O.dead q
theorem gO_eq (q : Q) (h : T O) (k : O → Res) : gO q h k = k (h.ob q) := getK_eq _ _ _ _
theorem pO_eq (v : O) (q : Q) (h : T O) (k : T O → Res) : pO v q h k = k (h.put .dead v q) := putK_eq _ _ _ _ _
theorem gV_eq (q : Q) (t : T V) (k : V → Res) : gV q t k = k (t.get V.undef q) := getK_eq _ _ _ _
theorem pV_eq (v : V) (q : Q) (t : T V) (k : T V → Res) : pV v q t k = k (t.put V.undef v q) := putK_eq _ _ _ _ _
end Go.CM
end
