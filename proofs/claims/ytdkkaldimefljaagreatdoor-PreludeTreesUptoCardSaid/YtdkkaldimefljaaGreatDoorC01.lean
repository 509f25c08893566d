import Derived.Test.YtdkkaldimefljaaGreatDoorC00
import Derived.Test.YtdkkaldimefljaaGreatDoorA03
set_option linter.all false
noncomputable section
namespace Go.CM
open Go.AM (aZ aL bC aR fieldAt?)
def packL:List UInt8→Nat
 |[]=>0
 |b::r=>b.toNat+256 * packL r
def iY (v:Value):V :=
 match v with
 |.bool b=>.bool b
 |.int k n=>.int k n
 |.string s=>.str s.data.toList.length (packL s.data.toList)
 |.pointer none=>.nilp
 |.slice none 0 0=>.nils
 |.map none=>.nilm
 |.nilFunc=>.nilf
 |.nilIface=>.nili
 |_=>.bot
def kX (v:V):Bool :=
 match v with
 |.bot=>false
 |_=>true
def gH (v:Value):V :=
 match v with
 |.agg cs=>(match (cs.toList.map iY).all kX with
  |true=>.agg (cs.toList.map iY)
  |false=>.bot)
 |v=>iY v
def aD (P:Program) (x:Operand):X :=
 match x with
 |.tmp t=>.t (qn t)
 |.const v=>(match kX (gH v) with
  |true=>.c (gH v)
  |false=>.bad)
 |.global g=>(match Nat.blt g P.globals.size with
  |true=>.c (.ptr (qn g) 0)
  |false=>.bad)
 |.func f=>.c (.fn (qn f) [] [])
def zeroV (P:Program) (t:TypeId):Option V :=
 ((P.info? t).bind (·.zero)).bind fun v=>match kX (gH v) with
   |true=>some (gH v)
   |false=>none
def lE (P:Program) (t:TypeId):Option (List V) :=
 (zeroV P t).bind fun v=>(aZ P t).bind fun s=>match Nat.beq (ff v).length s with
  |true=>some (ff v)
  |false=>none
def mA (z:List V):Nat→List V
 |0=>[]
 |n+1=>z++mA z n
def n6 (P:Program) (place:Nat→Option (Nat×Nat)):List (Nat×Operand)→Option (List (Nat×Nat×X))
 |[]=>some []
 |(i,x)::r=>(place i).bind fun p=>(n6 P place r).map fun l=>(p.1,p.2,aD P x)::l
def partsOf (P:Program) (t:TypeId) (parts:List (Nat×Operand)):Option (List (Nat×Nat×X)) :=
 match P.underlying t with
 |some (.struct fs)=>(fs.toList.mapM fun f=>(P.info? f.type).map fun i=>(f.offset,i.size)).bind fun pl=>n6 P (fun i=>pl[i]?) parts
 |some (.array _ e)=>(aZ P e).bind fun s=>n6 P (fun i=>some (i * s,s)) parts
 |_=>none
def iE (m:EqM) (x:Operand):Bool :=
 match x with
 |.const (.slice none 0 0)=>(match m with|.nilS=>true|_=>false)
 |.const .nilIface=>(match m with|.nilI=>true|_=>false)
 |.const .nilFunc=>(match m with|.nilF=>true|_=>false)
 |.const (.map none)=>(match m with|.nilM=>true|_=>false)
 |_=>false
def y7 (P:Program) (op:BinOp) (t:TypeId) (x y:Operand):PB :=
 let neg:Bool:=match op with|.neq=>true|_=>false
 let cmp:Bool:=match op with|.neq=>true|.eql=>true|_=>false
 match cmp with
 |false=>.bin op (aD P x) (aD P y)
 |true =>
  match P.underlying t with
  |some (.pointer e)=>(match aZ P e with
   |some s=>(match Nat.blt 0 s with
    |true=>.eq neg .ptr (aD P x) (aD P y)
    |false=>.bad)
   |none=>.bad)
  |some .bool=>.eq neg .bool (aD P x) (aD P y)
  |some (.int _)=>.bin op (aD P x) (aD P y)
  |some .string=>.bin op (aD P x) (aD P y)
  |some (.slice _)=>(match iE .nilS y with|true=>.eq neg .nilS (aD P x) (aD P y)|false=>.bad)
  |some (.map _ _)=>(match iE .nilM y with|true=>.eq neg .nilM (aD P x) (aD P y)|false=>.bad)
  |some (.func _ _ _)=>(match iE .nilF y with|true=>.eq neg .nilF (aD P x) (aD P y)|false=>.bad)
  |some (.interface _)=>(match iE .nilI y with|true=>.eq neg .nilI (aD P x) (aD P y)|false=>.bad)
  |_=>.bad
def orP (o:Option PB):OB :=
 match o with
 |some p=>.p p
 |none=>.p .bad
def orA (o:Option AB):OB :=
 match o with
 |some p=>.a p
 |none=>.p .bad
def orW (o:Option WB):OB :=
 match o with
 |some p=>.w p
 |none=>.p .bad
def jJ (P:Program) (l:List (Nat×Operand)):List (Nat×X):=l.map fun p=>(p.1,aD P p.2)
def sL (P:Program) (name:String) (t:Nat):Option (Nat×Q) :=
 (P.info? t).bind fun i=>(i.methods.find? (·.name==name)).bind fun m=>(P.underlying t).bind fun u=>m.func.bind fun fp=>match m.path.isEmpty,u,fp.2 with
  |true,.pointer _,true=>some (t,qn fp.1)
  |true,.pointer _,false=>none
  |true,_,false=>some (t,qn fp.1)
  |_,_,_=>none
def iC (P:Program) (name:String):Nat→List (Nat×Q)
 |0=>[]
 |n+1=>(match sL P name n with
  |some p=>p::iC P name n
  |none=>iC P name n)
def gC (P:Program) (c:Call):OB :=
 match c.callee with
 |.value f=>.call (aD P f) (c.args.toList.map (aD P))
 |.invoke recv name=>.inv (iC P name P.types.size) (aD P recv) (c.args.toList.map (aD P))
 |.builtin b =>
  match b,c.args.toList,c.argTypes.toList with
  |.append,[x,y],[t,u]=>orW ((aR P t).bind fun e=>(match P.underlying u with|some (.slice _)=>some ()|some .string=>some ()|_=>none).bind fun _=>(aZ P e).bind fun s=>(lE P e).bind fun z=>match Nat.blt 0 s&&Nat.ble (aL P e) 16384&&Nat.blt 0 (aL P e) with
   |true=>some (.ap e s (aD P x) (aD P y))
   |false=>none)
  |.len,[x],[t]=>(match P.underlying t with
   |some .string=>.p (.lenS (aD P x))
   |some (.slice _)=>.p (.lenL (aD P x))
   |some (.map _ _)=>.p (.lenM (aD P x))
   |_=>.p .bad)
  |.copy,[x,y],[t,u]=>orW ((aR P t).bind fun e=>(aR P u).bind fun _=>(aZ P e).map fun s=>.cp s (aD P x) (aD P y))
  |.unsafeSliceData,[x],_=>.p (.sd (aD P x))
  |.unsafeString,[x,y],[pt,_]=>(match P.underlying pt with
   |some (.pointer e)=>(match Nat.beq (P.cellsOf e) 1 with
    |true=>.w (.us e (aD P x) (aD P y))
    |false=>.p .bad)
   |_=>.p .bad)
  |.max,[x,y],_=>.p (.max (aD P x) (aD P y))
  |.recover,[],_=>.rcv
  |_,_,_=>.p .bad
def kJ (P:Program):List Field→Nat→Option (List FK)
 |[],_=>some []
 |f::fs,i=>(match Nat.beq f.offset i&&f.name != "_" with
  |true=>(match P.underlying f.type with
   |some .bool=>(kJ P fs (i+1)).map (.b::·)
   |some .string=>(kJ P fs (i+1)).map (.s::·)
   |some (.int _)=>(kJ P fs (i+1)).map (.i::·)
   |_=>none)
  |false=>none)
def qZ (P:Program) (t:TypeId):Option (KK×TypeId) :=
 match P.underlying t with
 |some (.map k e)=>(match P.underlying k with
  |some .string=>some (.str,e)
  |some (.int _)=>some (.int,e)
  |some (.pointer p)=>(match aZ P p with
   |some s=>(match Nat.blt 0 s with
    |true=>some (.ptr,e)
    |false=>none)
   |none=>none)
  |some (.struct fs)=>(match P.stoodInHeld k with
   |true=>none
   |false=>(kJ P fs.toList 0).map fun l=>(.st l,e))
  |_=>none)
 |_=>none
def bT (P:Program) (o:Oper):OB :=
 match o.op with
 |.move x=>.p (.mv (aD P x))
 |.assign x=>.p (.mv (aD P x))
 |.pick c a b=>.p (.pick (aD P c) (aD P a) (aD P b))
 |.alloc t=>orA ((lE P t).map fun z=>.al t z.length (T.ofList z))
 |.box t x=>orA ((aZ P t).map fun s=>.bx t s (aD P x))
 |.build t parts=>orP ((lE P t).bind fun z=>(partsOf P t parts.toList).map fun ps=>.bld z ps)
 |.buildSlice t len parts=>orA ((aR P t).bind fun e=>(lE P e).bind fun z=>match Nat.blt 0 z.length&&Nat.ble (len * z.length) 16777216&&parts.toList.all (fun p=>Nat.blt p.1 len) with
  |true=>some (.bsl e z.length len (T.ofList (mA z len)) (jJ P parts.toList))
  |false=>none)
 |.load t a=>orP ((bC P t).bind fun g=>(aZ P t).bind fun s=>match g with
  |true=>some (.ldn s (aD P a))
  |false=>(match Nat.beq s 1 with
   |true=>some (.ld1 (aD P a))
   |false=>none))
 |.store t a x=>orW ((aZ P t).map fun s=>.st s (aD P a) (aD P x))
 |.nilCheck x=>.p (.nck (aD P x))
 |.binOp op t x y _=>.p (y7 P op t x y)
 |.unOp op _ x=>(match op with
  |.neg=>.p (.neg (aD P x))
  |.not=>.p (.not (aD P x))
  |_=>.p .bad)
 |.convert s d x=>(match P.underlying s,P.underlying d with
  |some (.int _),some (.int k)=>.p (.cvi k (aD P x))
  |some .string,some .string=>.p (.cvs (aD P x))
  |some (.int _),some .string=>.p (.cis (aD P x))
  |some (.pointer e),some .unsafePointer=>(match aZ P e with
   |some (_+1)=>.p (.ctu (aD P x))
   |_=>.p .bad)
  |some .unsafePointer,some (.pointer e)=>(match aZ P e with
   |some (n+1)=>(match liesAt P P.depth e ((n+1) / P.cellsOf e) 0 e 1 with
    |true=>.p (.cfu e (n+1) (aD P x))
    |false=>.p .bad)
   |_=>.p .bad)
  |some .string,some (.slice e)=>(match P.underlying e with
   |some (.int .u8)=>.w (.sb (aD P x))
   |_=>.p .bad)
  |_,_=>.p .bad)
 |.makeInterface t x=>(match P.underlying t with
  |some (.interface _)=>.p .bad
  |some _=>.p (.mki t (aD P x))
  |none=>.p .bad)
 |.makeFunc fn first caps=>(match fn with
  |.func f=>.p (.mkf (qn f) (first.toList.map (aD P)) (caps.toList.map (aD P)))
  |_=>.p .bad)
 |.makeMap _ r=>(match r with
  |none=>.a .mkm
  |some _=>.p .bad)
 |.makeSlice t l c=>orA ((aR P t).bind fun e=>(lE P e).bind fun z=>match Nat.blt 0 z.length&&Nat.ble (aL P e) 16384 with
  |true=>some (.mks e z.length z (aD P l) (aD P c))
  |false=>none)
 |.slice t x lo hi mx=>(match P.underlying t,mx with
  |some .string,none=>.p (.slS (aD P x) (lo.map (aD P)) (hi.map (aD P)))
  |some (.slice e),mx=>(match mx.isSome&&hi.isNone with|true=>.p .bad|false=>orP ((aZ P e).map fun s=>.slL s (aD P x) (lo.map (aD P)) (hi.map (aD P)) (mx.map (aD P))))
  |_,_=>.p .bad)
 |.fieldAddr t x f=>orP ((fieldAt? P t f).bind fun ot=>(aZ P ot.2).bind fun s=>match Nat.blt 0 s with
  |true=>some (.fa ot.1 (aD P x))
  |false=>none)
 |.field t x f=>orP ((fieldAt? P t f).bind fun ot=>(aZ P ot.2).bind fun s=>(bC P ot.2).map fun g=>.fd g ot.1 s (aD P x))
 |.indexAddr t x i=>(match P.underlying t with
  |some (.slice e)=>orP ((aZ P e).map fun s=>.ia s (aD P x) (aD P i))
  |some (.array len e)=>orP ((aZ P e).map fun s=>.iaa len s (aD P x) (aD P i))
  |_=>.p .bad)
 |.index t x i=>(match P.underlying t with
  |some .string=>.p (.ixs (aD P x) (aD P i))
  |some (.array len e)=>orP ((aZ P e).bind fun s=>(bC P e).map fun g=>.ixa g len s (aD P x) (aD P i))
  |_=>.p .bad)
 |.lookup t m k ok=>(match qZ P t with
  |some (s,e)=>orP ((zeroV P e).map fun z=>.lk s ok z (aD P m) (aD P k))
  |_=>.p .bad)
 |.mapUpdate t m k x=>(match qZ P t with
  |some (s,_)=>.w (.mu s (aD P m) (aD P k) (aD P x))
  |_=>.p .bad)
 |.insert t m k x=>(match qZ P t with
  |some (s,_)=>.w (.mu s (aD P m) (aD P k) (aD P x))
  |_=>.p .bad)
 |.mapEntry t m k=>(match qZ P t with
  |some (s,e)=>orW ((zeroV P e).map fun z=>.me s z (aD P m) (aD P k))
  |_=>.p .bad)
 |.entryStore _ m s x=>.w (.es (aD P m) (aD P s) (aD P x))
 |.extract t i=>.p (.ex i (aD P t))
 |.typeAssert x _ t ok=>orP ((P.underlying t).bind fun u=>match u with
  |.interface _=>none
  |_=>(zeroV P t).map fun z=>.ta ok t z (aD P x))
 |.call c=>gC P c
 |.defer c=>(match c.callee with
  |.value f=>.dfr (aD P f) (c.args.toList.map (aD P))
  |.builtin .delete=>(match c.args.toList,c.argTypes.toList with
   |[m,key],t::_=>(match qZ P t with
    |some (s,_)=>.dfd s (aD P m) (aD P key)
    |none=>.p .bad)
   |_,_=>.p .bad)
  |_=>.p .bad)
 |_=>.p .bad
def aKh (n:Nat) (o:Oper):Option (Option Q) :=
 match o.dst with
 |none=>some none
 |some d=>(match Nat.blt d n with
  |true=>some (some (qn d))
  |false=>none)
def fC:CO:=.mk none none (.p .bad)
def fO (P:Program) (n:Nat) (ops:Array Oper) (o:Oper):CO :=
 match aKh n o with
 |none=>fC
 |some d =>
  match o.guard with
  |none=>.mk d none (bT P o)
  |some (j,want)=>(match (ops[j]?).bind (·.dst) with
   |none=>fC
   |some t=>(match Nat.blt t n with
    |true=>.mk d (some (qn t,want)) (bT P o)
    |false=>fC))
inductive Pl where
 |run (i:Nat)
 |chk (i:Nat)
def isW (b:OB):Bool :=
 match b with
 |.p _=>false
 |.a _=>false
 |_=>true
def isR (b:PB):Bool :=
 match b with
 |.ld1 _=>true
 |.ldn _ _=>true
 |.lk _ _ _ _ _=>true
 |.lenM _=>true
 |.eq _ _ _ _=>true
 |.ctu _=>true
 |.cfu _ _ _=>true
 |_=>false
def aEc (b:OB):Bool :=
 match b with
 |.p b=>isR b
 |_=>false
inductive Inf where
 |mk (bf rd:Nat) (dst:Option Nat) (w r g:Bool)
def Inf.bf:Inf→Nat|.mk b _ _ _ _ _=>b
def Inf.rd:Inf→Nat|.mk _ r _ _ _ _=>r
def Inf.dst:Inf→Option Nat|.mk _ _ d _ _ _=>d
def Inf.w:Inf→Bool|.mk _ _ _ w _ _=>w
def Inf.r:Inf→Bool|.mk _ _ _ _ r _=>r
def Inf.g:Inf→Bool|.mk _ _ _ _ _ g=>g
instance:Inhabited Inf:=⟨.mk 0 0 none true false true⟩
def bfs:List Oper→List Nat→List Nat
 |[],acc=>acc
 |o::os,acc=>bfs os (acc++[o.after.toList.foldl (fun s e=>if Region.binds .any e then s ||| 2 ^ e.on ||| acc.getD e.on 0 else s) 0])
def jV (ops:Array Oper) (o:Oper):Nat :=
 o.op.operands.toList.foldl (fun s x=>match x with|.tmp t=>s ||| 2 ^ t|_=>s) (match o.guard with|some (j,_)=>(match (ops[j]?).bind (·.dst) with|some t=>2 ^ t|none=>0)|none=>0)
def aD0 (o:Op):Bool :=
 match o with
 |.assign _=>true
 |_=>false
def wH (P:Program) (ops:Array Oper):List Oper→List Nat→List Inf
 |o::os,b::bs=>(match bT P o with
  |c=>.mk b (jV ops o) o.dst (isW c||aD0 o.op) (aEc c) o.guard.isSome)::wH P ops os bs
 |_,_=>[]
def sub (a b:Nat):Bool:=Nat.beq (Nat.land a b) a
def eager:List Inf→Nat→Nat→List Pl→(List Pl→Nat→List Pl)→List Pl
 |[],_,e,acc,k=>k acc e
 |f::fs,i,e,acc,k =>
  match !Nat.testBit e i&&!f.w&&sub f.bf e with
  |true=>eager fs (i+1) (e ||| 2 ^ i) (.run i::acc) k
  |false=>eager fs (i+1) e acc k
def aFJ:List Inf→Nat→Nat→Option (Nat×Nat)
 |[],_,_=>none
 |f::fs,i,e=>(match !Nat.testBit e i&&sub f.bf e with
  |true=>some (i,f.bf)
  |false=>aFJ fs (i+1) e)
def aBP (wbf e:Nat):List Inf→Nat→List Pl
 |[],_=>[]
 |f::fs,i=>(match Nat.testBit e i&&f.r&&!Nat.testBit wbf i with
  |true=>.chk i::aBP wbf e fs (i+1)
  |false=>aBP wbf e fs (i+1))
def aFF (fs:List Inf):Nat→Nat→List Pl
 |0,_=>[]
 |n+1,e =>
  eager fs 0 e [] fun acc e'=>acc.reverse++(match aFJ fs 0 e' with
   |none=>[]
   |some (w,b)=>.run w::(aBP b e' fs 0++aFF fs n (e' ||| 2 ^ w)))
def jP (i:Nat):List Pl→Bool
 |.chk j::l=>(match Nat.beq i j with
  |true=>true
  |false=>jP i l)
 |_=>false
def wOk (w wbf e:Nat) (l:List Pl):List Inf→Nat→Bool
 |[],_=>true
 |f::fs,i=>(match Nat.beq i w with
  |true=>true
  |false=>(match Nat.testBit e i with
   |false=>Nat.testBit f.bf w
   |true=>!f.r||Nat.testBit wbf i||jP i l))&&wOk w wbf e l fs (i+1)
def jF (fs:List Inf):List Pl→Nat→Bool
 |[],e=>Nat.beq e (2 ^ fs.length - 1)
 |.run i::l,e=>(match fs[i]? with
  |none=>false
  |some f=>!Nat.testBit e i&&sub f.bf e&&(!f.w||wOk i f.bf e l fs 0)&&jF fs l (e ||| 2 ^ i))
 |.chk i::l,e=>(match fs[i]? with
  |none=>false
  |some f=>Nat.testBit e i&&!f.w&&jF fs l e)
def yX (t i:Nat) (w:Bool) (bf:Nat):List Inf→Nat→Bool
 |[],_=>true
 |f::fs,j=>(match Nat.beq i j with
  |true=>w||!Nat.testBit f.rd t
  |false=>(match f.dst with
   |none=>true
   |some u=>!Nat.beq t u)&&(!Nat.testBit f.rd t||Nat.testBit f.bf i||(w&&Nat.testBit bf j)))&&yX t i w bf fs (j+1)
def yQ (all:List Inf):List Inf→Nat→Bool
 |[],_=>true
 |f::fs,i=>(match f.dst with
  |none=>true
  |some t=>yX t i f.w f.bf all 0)&&yQ all fs (i+1)
def uP:List Oper→Nat→Bool
 |[],_=>true
 |o::os,i=>o.after.toList.all (fun e=>!Region.binds .any e||Nat.blt e.on i)&&uP os (i+1)
def np (P:Program) (n:Nat) (ops:Array Oper) (p:Pl):PS :=
 match p with
 |.run i=>(match ops[i]? with
  |some o=>.op (fO P n ops o)
  |none=>.op fC)
 |.chk i=>(match ops[i]? with
  |some o=>(match fO P n ops o with
   |.mk (some q) g (.p b)=>.chk g b q
   |_=>.op fC)
  |none=>.op fC)
def xO (P:Program) (ops:Array Oper):List Inf:=wH P ops ops.toList (bfs ops.toList [])
def aCU (P:Program) (n:Nat) (ops:Array Oper):List PS :=
 match xO P ops with
 |fs=>(match aFF fs (fs.length+1) 0 with
  |pl=>(match Nat.beq fs.length ops.size&&uP ops.toList 0&&yQ fs fs 0&&jF fs pl 0 with
   |true=>pl.map (np P n ops)
   |false=>[.op fC]))
def cU (P:Program) (n:Nat):Code→C
 |.skip=>.skip
 |.label _=>.skip
 |.region _ ops draw=>(match draw with
  |false=>.reg (ops.toList.map fun o=>.op (fO P n ops o))
  |true=>.reg (aCU P n ops))
 |.seq a b=>.seq (cU P n a) (cU P n b)
 |.cond x a b=>.cond (aD P x) (cU P n a) (cU P n b)
 |.block id c=>.block id (cU P n c)
 |.loop c=>.loop (cU P n c)
 |.rangeFunc f params asg body=>(match params.toList.all fun t=>Nat.blt t n with
  |true=>.rf (aD P f) (params.toList.map qn) (cU P n asg) (cU P n body)
  |false=>.bad)
 |.exit id=>.exit id
 |.scope c=>.scope (cU P n c)
 |.ret=>.ret
 |_=>.bad
def rM (P:Program):List ResultVar→Option (List RV)
 |[]=>some []
 |.tmp t::r=>(rM P r).map (.t (qn t)::·)
 |.cell a t::r=>(bC P t).bind fun g=>(aZ P t).bind fun s=>match g||Nat.beq s 1 with
  |true=>(rM P r).map (.cell g s (qn a)::·)
  |false=>none
def compF (P:Program) (f:Nat):CF :=
 match P.funcs[f]? with
 |none=>.none
 |some fn =>
  match fn.body with
  |none=>(match fn.name== "internal/bytealg.IndexByteString",fn.name== "internal/bytealg.CountString",fn.name== "internal/abi.NoEscape" with
   |true,_,_=>.ext 0
   |_,true,_=>.ext 1
   |_,_,true=>.ext 2
   |_,_,_=>.none)
  |some c=>(match fn.name== "runtime.NumGoroutine" with
   |true=>.none
   |false=>(match rM P fn.results.toList with
    |none=>.none
    |some rs=>.mk (cU P fn.ntmps c) rs))
def mkT (P:Program) (q:Q):CF:=compF P q.nat
end Go.CM
end
noncomputable section
namespace Go.CM
theorem aF (n:Nat) (k:Nat→Res):aX n k=k n:=by cases n <;> rfl
theorem fQ (n:Int) (k:Int→Res):tN n k=k n:=by cases n <;> simp only[tN,aF]
theorem bR {b:Bool} {n:Nat} {k:Res} {v:V} (h:gd b n k=.ok v):b=true∧k=.ok v:=by
 cases b
 ·cases h
 ·exact ⟨rfl,h⟩
theorem QR.nat_succ:∀ q:QR,q.succ.nat=q.nat+1
 |.e=>rfl
 |.a q=>by simp only[QR.succ,QR.nat]
 |.b q=>by simp only[QR.succ,QR.nat]
 |.c q=>by simp only[QR.succ,QR.nat]
 |.d q=>by simp only[QR.succ,QR.nat,QR.nat_succ q];omega
theorem QR.nat_inj:∀ {p q:QR},p.nat=q.nat→p=q
 |.e,.e,_=>rfl
 |.e,.a _,h|.e,.b _,h|.e,.c _,h|.e,.d _,h=>by simp only[QR.nat] at h;omega
 |.a _,.e,h|.b _,.e,h|.c _,.e,h|.d _,.e,h=>by simp only[QR.nat] at h;omega
 |.a p,.a q,h=>by simp only[QR.nat] at h;rw[QR.nat_inj (p:=p) (q:=q) (by omega)]
 |.b p,.b q,h=>by simp only[QR.nat] at h;rw[QR.nat_inj (p:=p) (q:=q) (by omega)]
 |.c p,.c q,h=>by simp only[QR.nat] at h;rw[QR.nat_inj (p:=p) (q:=q) (by omega)]
 |.d p,.d q,h=>by simp only[QR.nat] at h;rw[QR.nat_inj (p:=p) (q:=q) (by omega)]
 |.a _,.b _,h|.a _,.c _,h|.a _,.d _,h|.b _,.a _,h|.b _,.c _,h|.b _,.d _,h|.c _,.a _,h|.c _,.b _,h|.c _,.d _,h|.d _,.a _,h|.d _,.b _,h|.d _,.c _,h=>by
  simp only[QR.nat] at h;omega
theorem QR.ofF_nat:∀ (f n:Nat),n≤f→(QR.ofF f n).nat=n
 |0,n,h=>by simp only[QR.ofF,QR.nat];omega
 |f+1,0,_=>rfl
 |f+1,m+1,h=>by
  have ih:=QR.ofF_nat f (m / 4) (by omega);have h4:m % 4=0∨m % 4=1∨m % 4=2∨m % 4=3:=by omega
  rcases h4 with hr|hr|hr|hr <;> simp only[QR.ofF,hr,QR.nat,ih] <;> omega
theorem QR.of_nat (n:Nat):(QR.of n).nat=n:=QR.ofF_nat n n (Nat.le_refl _)
theorem QR.beq_iff:∀ {p q:QR},p.beq q=true↔p=q
 |.e,.e=>by simp [QR.beq]
 |.e,.a _|.e,.b _|.e,.c _|.e,.d _=>by simp [QR.beq]
 |.a _,.e|.b _,.e|.c _,.e|.d _,.e=>by simp [QR.beq]
 |.a p,.a q|.b p,.b q|.c p,.c q|.d p,.d q=>by simp [QR.beq,QR.beq_iff (p:=p) (q:=q)]
 |.a _,.b _|.a _,.c _|.a _,.d _|.b _,.a _|.b _,.c _|.b _,.d _|.c _,.a _|.c _,.b _|.c _,.d _|.d _,.a _|.d _,.b _|.d _,.c _=>by simp [QR.beq]
section
variable {α:Type}
theorem QN.nt_sc {f:α→Nat} {s:α→α} {z:α} (h:∀ q,f (s q)=f q+1) (hz:f z=0) (q:QN α):QN.nt f (QN.sc s z q)=QN.nt f q+1:=by
 cases q <;> simp only[QN.nt,QN.sc,h,hz] <;> omega
theorem QN.nt_inj {f:α→Nat} (h:∀ {p q},f p=f q→p=q) {p q:QN α} (e:QN.nt f p=QN.nt f q):p=q:=by
 cases p <;> cases q <;> simp only[QN.nt] at e <;> first|rfl|omega|(rename_i p q;rw[h (p:=p) (q:=q) (by omega)])
theorem QN.nt_of {f:α→Nat} {g:Nat→α} (h:∀ n,f (g n)=n) (n:Nat):QN.nt f (QN.of g n)=n:=by
 cases n with
 |zero=>rfl
 |succ m =>
  simp only[QN.of]
  have:m % 4 < 4:=Nat.mod_lt _ (by omega)
  match hr:m % 4,this with
  |0,_=>simp only[QN.dg,QN.nt,h];omega
  |1,_=>simp only[QN.dg,QN.nt,h];omega
  |2,_=>simp only[QN.dg,QN.nt,h];omega
  |3,_=>simp only[QN.dg,QN.nt,h];omega
theorem QN.bq_iff {f:α→α→Bool} (h:∀ {p q},f p q=true↔p=q) {p q:QN α}:QN.bq f p q=true↔p=q:=by
 cases p <;> cases q <;> simp [QN.bq,h]
end
theorem Q.nat_succ (q:Q):q.succ.nat=q.nat+1 :=
 QN.nt_sc (QN.nt_sc (QN.nt_sc (QN.nt_sc (QN.nt_sc (QN.nt_sc (QN.nt_sc (QN.nt_sc (QN.nt_sc (QN.nt_sc QR.nat_succ rfl) rfl) rfl) rfl) rfl) rfl) rfl) rfl) rfl) rfl q
theorem Q.nat_inj {p q:Q} (h:p.nat=q.nat):p=q :=
 QN.nt_inj (QN.nt_inj (QN.nt_inj (QN.nt_inj (QN.nt_inj (QN.nt_inj (QN.nt_inj (QN.nt_inj (QN.nt_inj (QN.nt_inj QR.nat_inj))))))))) h
theorem dY (n:Nat):(qn n).nat=n :=
 QN.nt_of (QN.nt_of (QN.nt_of (QN.nt_of (QN.nt_of (QN.nt_of (QN.nt_of (QN.nt_of (QN.nt_of (QN.nt_of QR.of_nat))))))))) n
theorem nT (q:Q):qn q.nat=q:=Q.nat_inj (dY _)
theorem aCu {m n:Nat} (h:qn m=qn n):m=n:=by rw[←dY m,←dY n,h]
theorem ui (n:Nat):(qn n).succ=qn (n+1):=Q.nat_inj (by rw[Q.nat_succ,dY,dY])
theorem Q.beq_iff {p q:Q}:p.beq q=true↔p=q :=
 QN.bq_iff (QN.bq_iff (QN.bq_iff (QN.bq_iff (QN.bq_iff (QN.bq_iff (QN.bq_iff (QN.bq_iff (QN.bq_iff (QN.bq_iff QR.beq_iff)))))))))
instance:DecidableEq Q:=fun p q=>decidable_of_iff (p.beq q=true) Q.beq_iff
instance:DecidableEq QR:=fun p q=>decidable_of_iff (p.beq q=true) QR.beq_iff
theorem lX (n:Nat) (k:Q→Res):qnK n k=k (qn n):=rfl
theorem dO (q:Q) (k:Q→Res):lD q k=k q.succ:=rfl
theorem sM {α:Type} [Dft α] (z:α) (q:Q) (t:T α) (k:α→Res):aGJ z q t k=k (t.get z q):=rfl
theorem sQ {α:Type} [Dft α] (z v:α) (q:Q) (t:T α) (k:T α→Res):aGv z v q t k=k (t.put z v q):=rfl
theorem mU (q:Q) (fe:Q→CF) (k:CF→Res):aGa q fe k=k (fe q):=rfl
theorem TQ.get_put {α:Type} (z v:α):∀ (p q:QR) (t:TQ α),(TQ.put z v p t).get z q=if p=q then v else t.get z q
 |.e,.e,t=>by cases t <;> rfl
 |.e,.a q,t|.e,.b q,t|.e,.c q,t|.e,.d q,t=>by cases t <;> simp [TQ.put,TQ.get]
 |.a p,.e,t|.b p,.e,t|.c p,.e,t|.d p,.e,t=>by cases t <;> simp [TQ.put,TQ.get]
 |.a p,.a q,t|.b p,.b q,t|.c p,.c q,t|.d p,.d q,t=>by cases t <;> simp [TQ.put,TQ.get,TQ.get_put z v p q]
 |.a p,.b q,t|.a p,.c q,t|.a p,.d q,t|.b p,.a q,t|.b p,.c q,t|.b p,.d q,t|.c p,.a q,t|.c p,.b q,t|.c p,.d q,t|.d p,.a q,t|.d p,.b q,t|.d p,.c q,t=>by
  cases t <;> simp [TQ.put,TQ.get]
theorem TQ.get_nil {α:Type} (z:α) (q:QR):(TQ.nil:TQ α).get z q=z:=by cases q <;> rfl
def GP {α β κ:Type} (g:β→κ→α) (p:κ→β→β) (v:α):Prop:=(∀ q t,g (p q t) q=v)∧∀ q r t,q≠r→g (p q t) r=g t r
theorem N5.gp {α β κ:Type} {g:β→κ→α} {p:κ→β→β} {v:α} (h:GP g p v):GP (N5.gt g) (N5.pt p v) v:=by
 constructor
 ·intro q t
  cases t;cases q <;> simp [N5.gt,N5.pt,h.1]
 ·intro q r t hn
  cases t;cases q <;> cases r <;> simp only[N5.gt,N5.pt] <;> first|exact absurd rfl hn|exact h.2 _ _ _ (fun e=>hn (by rw[e]))
theorem TQ.gp {α:Type} (z v:α):GP (TQ.get z) (TQ.put z v) v :=
 ⟨fun q t=>by rw[TQ.get_put,if_pos rfl],fun q r t h=>by rw[TQ.get_put,if_neg h]⟩
theorem T.gp {α:Type} [Dft α] (v:α):GP (N5.gt g9) (N5.pt (p9 v) v) v :=
 N5.gp (N5.gp (N5.gp (N5.gp (N5.gp (N5.gp (N5.gp (N5.gp (N5.gp (N5.gp (TQ.gp _ v))))))))))
theorem N5.gt_nil {α β κ:Type} {g:β→κ→α} {z:α} {n:β} (h:∀ r,g n r=z) (r:QN κ):N5.gt g (.mk z n n n n) r=z:=by cases r <;> simp [N5.gt,h]
theorem T.get_put {α:Type} [Dft α] (z v:α) (p q:Q) (t:T α):(T.put z v p t).get z q=if p=q then v else t.get z q:=by
 split
 ·rename_i h;subst h;exact (T.gp v).1 p t
 ·rename_i h;exact (T.gp v).2 p q t h
theorem T.get_nil {α:Type} [Dft α] (z:α) (q:Q):(T.nil:T α).get z q=Dft.z :=
 N5.gt_nil (N5.gt_nil (N5.gt_nil (N5.gt_nil (N5.gt_nil (N5.gt_nil (N5.gt_nil (N5.gt_nil (N5.gt_nil (N5.gt_nil (TQ.get_nil _)))))))))) q
theorem T.get_put_same {α:Type} [Dft α] (z v:α) (p:Q) (t:T α):(T.put z v p t).get z p=v:=by rw[T.get_put,if_pos rfl]
theorem T.get_put_ne {α:Type} [Dft α] (z v:α) {p q:Q} (t:T α) (h:p≠q):(T.put z v p t).get z q=t.get z q:=by rw[T.get_put,if_neg h]
abbrev T.at (t:T V) (n:Nat):V:=t.get V.undef (qn n)
def dE:List V→Nat→T V→T V
 |[],_,t=>t
 |v::vs,i,t=>dE vs (i+1) (t.put V.undef v (qn i))
theorem dF (vs:List V):∀ (i:Nat) (t:T V) (k:T V→Res),jC vs i t k=k (dE vs i t):=by
 induction vs with
 |nil=>intro i t k;rfl
 |cons v vs ih =>
  intro i t k;show qnK i (fun q=>pV v q t fun t'=>aX (i+1) fun i'=>jC vs i' t' k)=_;rw[lX,pV,sQ,aF,ih];rfl
theorem iA:∀ (vs:List V) (i:Nat) (t:T V) (j:Nat),(dE vs i t).at j=if i≤j∧j < i+vs.length then vs.getD (j - i) V.undef else t.at j
 |[],i,t,j=>by simp [dE];intro h h';omega
 |v::vs,i,t,j=>by
  simp only[dE];rw[iA vs (i+1)];by_cases h:i=j
  ·subst h
   rw[if_neg (by omega),T.at,T.get_put_same,if_pos (by simp)];simp
  ·by_cases h2:i+1≤j∧j < i+1+vs.length
   ·rw[if_pos h2,if_pos (by simp;omega)]
    rw[show j - i=j - (i+1)+1 by omega];simp
   ·rw[if_neg h2,T.at,T.get_put_ne _ _ _ (fun e=>h (aCu e)),if_neg (by simp;omega)]
def lH (n i:Nat) (t:T V):List V:=(List.range' i n).map t.at
theorem pH (n:Nat):∀ (i:Nat) (t:T V) (k:List V→Res),rQ n i t k=k (lH n i t):=by
 induction n with
 |zero=>intro i t k;rfl
 |succ n ih =>
  intro i t k;have ih':=fun j k=>ih j t k
  show qnK i (fun q=>gV q t fun v=>aX (i+1) fun i'=>rQ n i' t fun l=>k (v::l))=_;rw[lX,gV,sM,aF,ih'];simp [lH,List.range'_succ]
theorem kV (n i:Nat) (t:T V):(lH n i t).length=n:=by simp [lH]
theorem qE {n i:Nat} {t:T V} {j:Nat} (h:j < n):(lH n i t)[j]?=some (t.at (i+j)):=by simp [lH,h]
theorem cF {α:Type} (l:List α):∀ k:Nat→Res,nY l k=k l.length:=by
 induction l with
 |nil=>intro k;rfl
 |cons a l ih=>intro k;show nY l (fun n=>aX (n+1) k)=_;rw[ih,aF];rfl
theorem rz {α:Type} (l:List α):∀ (n:Nat) (k:α→Res),pq l n k=match l[n]? with|some v=>k v|none=>.bad 1:=by
 induction l with
 |nil=>intro n k;rfl
 |cons a l ih=>intro n k;cases n with|zero=>rfl|succ n=>exact ih n k
theorem rp {α:Type} {l:List α} {n:Nat} {k:α→Res} {r:V} (h:pq l n k=.ok r):∃ v,l[n]?=some v∧k v=.ok r:=by
 rw[rz] at h;cases e:l[n]? with
 |none=>rw[e] at h;cases h
 |some v=>rw[e] at h;exact ⟨v,rfl,h⟩
def y6 (z:List V):Nat→Nat→T V→T V
 |0,_,t=>t
 |n+1,i,t=>y6 z n (i+z.length) (dE z i t)
theorem mL (z:List V) (n:Nat):∀ (i:Nat) (t:T V) (k:T V→Res),nz z n i t k=k (y6 z n i t):=by
 induction n with
 |zero=>intro i t k;rfl
 |succ n ih =>
  intro i t k;show jC z i t (fun t'=>nY z fun m=>aX (i+m) fun i'=>nz z n i' t' k)=_;rw[dF,cF,aF,ih];rfl
def td:List V→Q→T V→T V
 |[],_,t=>t
 |v::vs,q,t=>td vs q.succ (t.put V.undef v q)
theorem j7 (vs:List V):∀ (q:Q) (t:T V) (k:T V→Res),uG vs q t k=k (td vs q t):=by
 induction vs with
 |nil=>intro q t k;rfl
 |cons v vs ih =>
  intro q t k;show pV v q t (fun t'=>lD q fun q'=>uG vs q' t' k)=_;rw[pV,sQ,dO,ih];rfl
theorem wS:∀ (vs:List V) (n:Nat) (t:T V),td vs (qn n) t=dE vs n t
 |[],n,t=>rfl
 |v::vs,n,t=>by simp only[td,dE,ui,wS vs]
theorem eX:∀ (l m:List V) (k:List V→Res),r8 l m k=k (l++m)
 |[],m,k=>rfl
 |v::l,m,k=>by simp only[r8,eX l];rfl
def xE (tm:T V):X→Option V
 |.t q=>some (tm.get V.undef q)
 |.c v=>some v
 |.bad=>none
theorem dK {x:X} {tm:T V} {k:V→Res} {r:V} (h:xK x tm k=.ok r):∃ v,xE tm x=some v∧k v=.ok r:=by
 cases x with
 |t q=>simp only[xK,gV,sM] at h;exact ⟨_,rfl,h⟩
 |c v=>exact ⟨v,rfl,h⟩
 |bad=>cases h
def xsE (tm:T V):List X→Option (List V)
 |[]=>some []
 |x::xs=>(xE tm x).bind fun v=>(xsE tm xs).map (v::·)
theorem qF {tm:T V}:∀ {xs:List X} {k:List V→Res} {r:V},xsK xs tm k=.ok r→∃ vs,xsE tm xs=some vs∧k vs=.ok r
 |[],k,r,h=>⟨[],rfl,h⟩
 |x::xs,k,r,h=>by
  have h':xK x tm (fun v=>xsK xs tm fun l=>k (v::l))=.ok r:=h;obtain ⟨v,h1,h2⟩:=dK h';obtain ⟨vs,h3,h4⟩:=qF h2;exact ⟨v::vs,by simp [xsE,h1,h3],h4⟩
theorem ee {v:V} {k:IntKind→Int→Res} {r:V} (h:asI v k=.ok r):∃ kd n,v=.int kd n∧k kd n=.ok r:=by
 cases v <;> first|exact ⟨_,_,rfl,h⟩|cases h
theorem uH {v:V} {k:Bool→Res} {r:V} (h:asB v k=.ok r):∃ b,v=.bool b∧k b=.ok r:=by
 cases v <;> first|exact ⟨_,rfl,h⟩|cases h
theorem iF {v:V} {k:Nat→Res} {r:V} (h:asN v k=.ok r):∃ kd n,v=.int kd (.ofNat n)∧k n=.ok r:=by
 cases v with
 |int kd n=>cases n with
  |ofNat m=>exact ⟨_,_,rfl,h⟩
  |negSucc m=>cases h
 |_=>cases h
theorem kN {v:V} {k:Q→Nat→Res} {r:V} (h:asP v k=.ok r):∃ o off,v=.ptr o off∧k o off=.ok r:=by
 cases v <;> first|exact ⟨_,_,rfl,h⟩|cases h
theorem oG {v:V} {k:Nat→Nat→Res} {r:V} (h:asS v k=.ok r):∃ l n,v=.str l n∧k l n=.ok r:=by
 cases v <;> first|exact ⟨_,_,rfl,h⟩|cases h
theorem aAO {v:V} {k:List V→Res} {r:V} (h:asA v k=.ok r):∃ l,v=.agg l∧k l=.ok r:=by
 cases v <;> first|exact ⟨_,rfl,h⟩|cases h
theorem bp {o:O} {k:Nat→T V→Res} {r:V} (h:xQ o k=.ok r):∃ n t,((∃ anc flo ty ex,o=.row n t anc flo ty ex)∨o=.ro n t)∧k n t=.ok r:=by
 cases o <;> first|exact ⟨_,_,.inl ⟨_,_,_,_,rfl⟩,h⟩|exact ⟨_,_,.inr rfl,h⟩|cases h
theorem oR {o:O} {k:List (V×V)→Res} {r:V} (h:pP o k=.ok r):∃ es,(o=.map es∨o=.mapd es)∧k es=.ok r:=by
 cases o <;> first|exact ⟨_,.inl rfl,h⟩|exact ⟨_,.inr rfl,h⟩|cases h
theorem tq {o:O} {k:List (V×V)→Res} {r:V} (h:aBQ o k=.ok r):∃ es,o=.map es∧k es=.ok r:=by
 cases o <;> first|exact ⟨_,rfl,h⟩|cases h
theorem fF {o:O} {k:Nat→Jump→Q→T V→List Q→C→C→Q→Res} {r:V} (h:lG o k=.ok r) :
  ∃ st pend fn tm ps asg body dfs,o=.loop (.mk st pend fn tm ps asg body dfs)∧k st pend fn tm ps asg body dfs=.ok r:=by
 cases o with
 |loop l=>cases l;exact ⟨_,_,_,_,_,_,_,_,rfl,h⟩
 |_=>cases h
abbrev T.ob (h:T O) (q:Q):O:=h.get O.dead q
theorem bS (q:Q) (h:T O) (k:O→Res):gO q h k=k (h.ob q):=sM _ _ _ _
theorem cK (v:O) (q:Q) (h:T O) (k:T O→Res):pO v q h k=k (h.put .dead v q):=sQ _ _ _ _ _
theorem dL (q:Q) (t:T V) (k:V→Res):gV q t k=k (t.get V.undef q):=sM _ _ _ _
theorem tg (v:V) (q:Q) (t:T V) (k:T V→Res):pV v q t k=k (t.put V.undef v q):=sQ _ _ _ _ _
end Go.CM
end
noncomputable section
namespace Go.CM
open Go.AM (oneC)
abbrev Rho:=Q→Option (Nat×Nat)
def Rho.le (ρ ρ':Rho):Prop:=∀ q x,ρ q=some x→ρ' q=some x
theorem Rho.le_refl (ρ:Rho):ρ.le ρ:=fun _ _ h=>h
theorem Rho.le_trans {a b c:Rho} (h:a.le b) (k:b.le c):a.le c:=fun q x e=>k q x (h q x e)
def isCell:V→Bool
 |.agg _=>false
 |.tup _=>false
 |.bot=>false
 |_=>true
inductive VR (ρ:Rho):V→Value→Prop where
 |bool (b:Bool):VR ρ (.bool b) (.bool b)
 |int (k:IntKind) (n:Int):VR ρ (.int k n) (.int k n)
 |str (l n:Nat) (s:List UInt8) (hl:s.length=l) (hn:packL s=n):VR ρ (.str l n) (.string ⟨⟨s⟩⟩)
 |nilp:VR ρ .nilp (.pointer none)
 |ptr (o:Q) (off b N:Nat) (h:ρ o=some (b,N)):VR ρ (.ptr o off) (.pointer (some ⟨b,off,none⟩))
 |nils:VR ρ .nils (.slice none 0 0)
 |sl (o:Q) (off len cap b N:Nat) (h:ρ o=some (b,N)) (hc:len≤cap):VR ρ (.sl o off len cap) (.slice (some ⟨b,off,none⟩) len cap)
 |su (o:Q) (off len sz b N cap:Nat) (h:ρ o=some (b,N)) (hc:len≤cap) (hr:off+cap * sz=N):VR ρ (.su o off len sz) (.slice (some ⟨b,off,none⟩) len cap)
 |se (a:Addr) (cap:Nat):VR ρ .se (.slice (some a) 0 cap)
 |nilm:VR ρ .nilm (.map none)
 |map (o:Q) (b N:Nat) (h:ρ o=some (b,N)):VR ρ (.map o) (.map (some b))
 |nilf:VR ρ .nilf .nilFunc
 |fn (f:Q) (fs cs:List V) (us vs:List Value) (hl:fs.length=us.length) (hm:cs.length=vs.length)
   (hx:∀ (i:Nat) (c:V) (v:Value),fs[i]?=some c→us[i]?=some v→VR ρ c v)
   (hy:∀ (i:Nat) (c:V) (v:Value),cs[i]?=some c→vs[i]?=some v→VR ρ c v):VR ρ (.fn f fs cs) (.func (.func f.nat) ⟨us⟩ ⟨vs⟩)
 |yld (o:Q) (b N:Nat) (h:ρ o=some (b,N)):VR ρ (.yld o) (.func (.yield b) #[] #[])
 |nili:VR ρ .nili .nilIface
 |ifc (t:Nat) (x:V) (v:Value) (h:VR ρ x v):VR ρ (.ifc t x) (.iface t v)
 |agg (cs:List V) (vs:List Value) (hl:cs.length=vs.length) (hk:∀ c∈cs,isCell c=true)
   (hx:∀ (i:Nat) (c:V) (v:Value),cs[i]?=some c→vs[i]?=some v→VR ρ c v):VR ρ (.agg cs) (.agg ⟨vs⟩)
 |tup (cs:List V) (vs:List Value) (hl:cs.length=vs.length)
   (hx:∀ (i:Nat) (c:V) (v:Value),cs[i]?=some c→vs[i]?=some v→VR ρ c v):VR ρ (.tup cs) (.tuple ⟨vs⟩)
theorem VR.mono {ρ ρ':Rho} (hp:ρ.le ρ') {x:V} {v:Value} (h:VR ρ x v):VR ρ' x v:=by
 induction h with
 |bool b=>exact .bool b
 |int k n=>exact .int k n
 |str l n s hl hn=>exact .str l n s hl hn
 |nilp=>exact .nilp
 |ptr o off b N h=>exact .ptr o off b N (hp _ _ h)
 |nils=>exact .nils
 |sl o off len cap b N h hc=>exact .sl o off len cap b N (hp _ _ h) hc
 |su o off len sz b N cap h hc hr=>exact .su o off len sz b N cap (hp _ _ h) hc hr
 |se a cap=>exact .se a cap
 |nilm=>exact .nilm
 |map o b N h=>exact .map o b N (hp _ _ h)
 |nilf=>exact .nilf
 |fn f fs cs us vs hl hm hx hy ih1 ih2=>exact .fn f fs cs us vs hl hm ih1 ih2
 |yld o b N h=>exact .yld o b N (hp _ _ h)
 |nili=>exact .nili
 |ifc t x v h ih=>exact .ifc t x v ih
 |agg cs vs hl hk hx ih=>exact .agg cs vs hl hk ih
 |tup cs vs hl hx ih=>exact .tup cs vs hl ih
def VRs (ρ:Rho) (cs:List V) (vs:List Value):Prop:=cs.length=vs.length∧∀ (i:Nat) (c:V) (v:Value),cs[i]?=some c→vs[i]?=some v→VR ρ c v
theorem VRs.mono {ρ ρ':Rho} (hp:ρ.le ρ') {cs:List V} {vs:List Value} (h:VRs ρ cs vs):VRs ρ' cs vs:=⟨h.1,fun i c v h1 h2=>(h.2 i c v h1 h2).mono hp⟩
theorem VRs.nil {ρ:Rho}:VRs ρ [] []:=⟨rfl,fun i c v h=>by simp at h⟩
theorem VRs.cons {ρ:Rho} {c:V} {v:Value} {cs:List V} {vs:List Value} (h:VR ρ c v) (hs:VRs ρ cs vs):VRs ρ (c::cs) (v::vs) :=
 ⟨by simp [hs.1],fun i c' v' h1 h2=>by
  cases i with
  |zero=>simp at h1 h2;subst h1;subst h2;exact h
  |succ i=>exact hs.2 i c' v' (by simpa using h1) (by simpa using h2)⟩
theorem VRs.head {ρ:Rho} {c:V} {v:Value} {cs:List V} {vs:List Value} (h:VRs ρ (c::cs) (v::vs)):VR ρ c v:=h.2 0 c v rfl rfl
theorem VRs.tail {ρ:Rho} {c:V} {v:Value} {cs:List V} {vs:List Value} (h:VRs ρ (c::cs) (v::vs)):VRs ρ cs vs :=
 ⟨by simpa using h.1,fun i c' v' h1 h2=>h.2 (i+1) c' v' (by simpa using h1) (by simpa using h2)⟩
theorem VRs.inv_nil {ρ:Rho} {vs:List Value} (h:VRs ρ [] vs):vs=[]:=by
 have:=h.1
 exact List.length_eq_zero_iff.1 (by simpa using this.symm)
theorem VRs.inv_cons {ρ:Rho} {c:V} {cs:List V} {vs:List Value} (h:VRs ρ (c::cs) vs):∃ v vs',vs=v::vs'∧VR ρ c v∧VRs ρ cs vs':=by
 cases vs with
 |nil=>have:=h.1;simp at this
 |cons v vs'=>exact ⟨v,vs',rfl,h.head,h.tail⟩
theorem VRs.append {ρ:Rho}:∀ {cs ds:List V} {vs us:List Value},VRs ρ cs vs→VRs ρ ds us→VRs ρ (cs++ds) (vs++us)
 |[],ds,vs,us,h,k=>by rw[h.inv_nil];exact k
 |c::cs,ds,vs,us,h,k=>by
  obtain ⟨v,vs',rfl,h1,h2⟩:=h.inv_cons;exact .cons h1 (h2.append k)
theorem VRs.drop {ρ:Rho} {cs:List V} {vs:List Value} (h:VRs ρ cs vs) (n:Nat):VRs ρ (cs.drop n) (vs.drop n) :=
 ⟨by simp [h.1],fun i c v h1 h2=>h.2 (n+i) c v (by simpa using h1) (by simpa using h2)⟩
theorem VRs.take {ρ:Rho} {cs:List V} {vs:List Value} (h:VRs ρ cs vs) (n:Nat):VRs ρ (cs.take n) (vs.take n) :=
 ⟨by simp [h.1],fun i c v h1 h2=>by
  rw[List.getElem?_take] at h1 h2
  split at h1
  ·rename_i hi;rw[if_pos hi] at h2;exact h.2 i c v h1 h2
  ·cases h1⟩
theorem VRs.get {ρ:Rho} {cs:List V} {vs:List Value} (h:VRs ρ cs vs) {i:Nat} {c:V} (hc:cs[i]?=some c):∃ v,vs[i]?=some v∧VR ρ c v:=by
 have hi:i < vs.length:=by rw[←h.1];exact (List.getElem?_eq_some_iff.1 hc).1
 exact ⟨vs[i],by simp [hi],h.2 i c _ hc (by simp [hi])⟩
section inv
variable {ρ:Rho} {v:Value}
theorem VR.inv_bool {b:Bool} (h:VR ρ (.bool b) v):v=.bool b:=by cases h;rfl
theorem VR.inv_int {k:IntKind} {n:Int} (h:VR ρ (.int k n) v):v=.int k n:=by cases h;rfl
theorem VR.inv_str {l n:Nat} (h:VR ρ (.str l n) v):∃ s:List UInt8,v=.string ⟨⟨s⟩⟩∧s.length=l∧packL s=n:=by cases h;exact ⟨_,rfl,by assumption,by assumption⟩
theorem VR.inv_ptr {o:Q} {off:Nat} (h:VR ρ (.ptr o off) v):∃ b N,v=.pointer (some ⟨b,off,none⟩)∧ρ o=some (b,N):=by cases h;exact ⟨_,_,rfl,by assumption⟩
theorem VR.inv_agg {cs:List V} (h:VR ρ (.agg cs) v):∃ vs,v=.agg ⟨vs⟩∧VRs ρ cs vs∧∀ c∈cs,isCell c=true:=by cases h with|agg _ vs hl hk hx=>exact ⟨vs,rfl,⟨hl,hx⟩,hk⟩
theorem VR.inv_tup {cs:List V} (h:VR ρ (.tup cs) v):∃ vs,v=.tuple ⟨vs⟩∧VRs ρ cs vs:=by cases h with|tup _ vs hl hx=>exact ⟨vs,rfl,hl,hx⟩
theorem VR.inv_map {o:Q} (h:VR ρ (.map o) v):∃ b N,v=.map (some b)∧ρ o=some (b,N):=by cases h;exact ⟨_,_,rfl,by assumption⟩
theorem VR.inv_fn {f:Q} {fs cs:List V} (h:VR ρ (.fn f fs cs) v):∃ us vs,v=.func (.func f.nat) ⟨us⟩ ⟨vs⟩∧VRs ρ fs us∧VRs ρ cs vs:=by cases h with|fn _ _ _ us vs hl hm hx hy=>exact ⟨us,vs,rfl,⟨hl,hx⟩,hm,hy⟩
theorem VR.inv_yld {o:Q} (h:VR ρ (.yld o) v):∃ b N,v=.func (.yield b) #[] #[]∧ρ o=some (b,N):=by cases h;exact ⟨_,_,rfl,by assumption⟩
theorem VR.one {x:V} (h:VR ρ x v) (hc:isCell x=true):oneC v=true:=by cases h <;> first|rfl|simp [isCell] at hc
theorem VR.undef:VR ρ V.undef Go.undef:=.tup [] [] rfl fun i c v h=>by simp at h
end inv
def VC (v:V) (l:List V):Prop:=v=.agg l∨(isCell v=true∧l=[v])
theorem qV {v:V} {k:List V→Res} {r:V} (h:cvK v k=.ok r):∃ l,VC v l∧k l=.ok r:=by
 cases v <;> first|exact ⟨_,.inr ⟨rfl,rfl⟩,h⟩|exact ⟨_,.inl rfl,h⟩|cases h
theorem VR.cells {ρ:Rho} {x:V} {v:Value} {l:List V} (h:VR ρ x v) (hc:VC x l):VRs ρ l v.cells.toList∧(∀ c∈l,isCell c=true)∧∀ u∈v.cells.toList,oneC u=true:=by
 rcases hc with rfl|⟨h1,rfl⟩
 ·obtain ⟨vs,rfl,h2,h3⟩:=h.inv_agg
  refine ⟨h2,h3,fun u hu=>?_⟩;obtain ⟨i,hi⟩:=List.getElem?_of_mem hu;have hi':vs[i]?=some u:=hi;have hlt:i < l.length:=by rw[h2.1];exact (List.getElem?_eq_some_iff.1 hi').1
  exact (h2.2 i l[i] u (by simp [hlt]) hi').one (h3 _ (List.getElem_mem hlt))
 ·have h2:=h.one h1
  have hv:v.cells.toList=[v]:=by cases v <;> simp_all [Value.cells,oneC]
  rw[hv];exact ⟨.cons h .nil,fun c hc=>by simp at hc;subst hc;exact h1,fun u hu=>by simp at hu;subst hu;exact h2⟩
theorem VRs.oneC {ρ:Rho} {cs:List V} {vs:List Value} (h:VRs ρ cs vs) (hk:∀ c∈cs,isCell c=true):∀ u∈vs,oneC u=true:=fun u hu=>by
 obtain ⟨i,hi⟩:=List.getElem?_of_mem hu;have hlt:i < cs.length:=by rw[h.1];exact (List.getElem?_eq_some_iff.1 hi).1
 exact (h.2 i cs[i] u (by simp [hlt]) hi).one (hk _ (List.getElem_mem hlt))
theorem fZ {ρ:Rho} {v:Value} (h:kX (iY v)=true):VR ρ (iY v) v:=by
 unfold iY at h ⊢
 split at h <;> first|exact .bool _|exact .int _ _|exact .nilp|exact .nils|exact .nilm|exact .nilf|exact .nili|exact .str _ _ _ rfl rfl|cases h
theorem yW {v:Value} (h:kX (iY v)=true):isCell (iY v)=true:=by
 unfold iY at h ⊢
 split at h <;> first|rfl|cases h
theorem fA {ρ:Rho} {v:Value} (h:kX (gH v)=true):VR ρ (gH v) v:=by
 cases v with
 |agg cs =>
  simp only[gH] at h ⊢;cases he:(cs.toList.map iY).all kX with
  |false=>rw[he] at h;cases h
  |true =>
   have hall:=List.all_eq_true.1 he;refine .agg _ _ (by simp) (fun c hc=>?_) (fun i c u h1 h2=>?_)
   ·simp only[List.mem_map] at hc
    obtain ⟨u,hu,rfl⟩:=hc;exact yW (hall _ (List.mem_map.2 ⟨u,hu,rfl⟩))
   ·rw[List.getElem?_map] at h1
    rw[h2] at h1;simp at h1;subst h1;exact fZ (hall _ (List.mem_map.2 ⟨u,List.mem_of_getElem? h2,rfl⟩))
 |_ =>
  simp only[gH] at h ⊢;exact fZ h
abbrev ev (tmps:Array Value) (ds:List Deferred):Operand→Value:=(⟨tmps,ds⟩:Act).eval
def XR (ρ:Rho) (tm:T V) (tmps:Array Value) (xs:List Operand):Prop:=∀ t,Operand.tmp t∈xs→VR ρ (tm.at t) (tmps.getD t Go.undef)
def Glo (P:Program) (ρ:Rho):Prop:=∀ g,g < P.globals.size→∃ N,ρ (qn g)=some (g,N)
theorem eZ {P:Program} {ρ:Rho} {tm:T V} {tmps:Array Value} {ds:List Deferred} {x:Operand} {v:V} (hG:Glo P ρ) (hT:XR ρ tm tmps [x]) (h:xE tm (aD P x)=some v):VR ρ v (ev tmps ds x):=by
 cases x with
 |tmp t =>
  simp only[aD,xE,Option.some.injEq] at h;subst h;exact hT t (by simp)
 |const c =>
  simp only[aD] at h
  split at h
  ·rename_i hb
   simp only[xE,Option.some.injEq] at h;subst h;exact fA hb
  ·cases h
 |global g =>
  simp only[aD] at h
  split at h
  ·rename_i hb
   simp only[xE,Option.some.injEq] at h;subst h;obtain ⟨N,hN⟩:=hG g (by simpa [Nat.blt_eq] using hb);exact .ptr _ _ _ _ hN
  ·cases h
 |func f =>
  simp only[aD,xE,Option.some.injEq] at h;subst h
  have:=VR.fn (ρ:=ρ) (qn f) [] [] [] [] rfl rfl (fun i c v h=>by simp at h) (fun i c v h=>by simp at h)
  rw[dY] at this;exact this
theorem XR.sub {ρ:Rho} {tm:T V} {tmps:Array Value} {xs ys:List Operand} (h:XR ρ tm tmps xs) (hs:∀ x∈ys,x∈xs):XR ρ tm tmps ys:=fun t ht=>h t (hs _ ht)
theorem mJ {P:Program} {ρ:Rho} {tm:T V} {tmps:Array Value} {ds:List Deferred} (hG:Glo P ρ):∀ {xs:List Operand} {vs:List V},XR ρ tm tmps xs→xsE tm (xs.map (aD P))=some vs→VRs ρ vs (xs.map (ev tmps ds))
 |[],vs,hT,h=>by simp [xsE] at h;subst h;exact .nil
 |x::xs,vs,hT,h=>by
  simp only[List.map_cons,xsE,Option.bind_eq_some_iff,Option.map_eq_some_iff] at h;obtain ⟨v,h1,l,h2,rfl⟩:=h;exact .cons (eZ hG (hT.sub (by simp)) h1) (mJ hG (hT.sub (fun y hy=>by simp [hy])) h2)
end Go.CM
end
