import Derived.Test.YtdkkaldimefljaaGreatDoorA
import Derived.RangeFuncRecord
set_option linter.all false
namespace Go.AM
section
inductive AVal where
 |bool (b:Bool)
 |int (k:IntKind) (n:Int)
 |str (s:List UInt8)
 |slice (xs:List AVal)
 |agg (cs:List AVal)
 |nilptr
 |nilfunc
 |nilmap
 |nilif
 |loc (i off:Nat)
 |amap (i:Nat)
 |yld (i:Nat)
 |cptr (x:AVal)
 |func (f:FuncId) (caps:List AVal)
 |iface (t:TypeId) (v:AVal)
 |opq
 |raw (v:Value)
instance:Inhabited AVal:=⟨.nilptr⟩
def AVal.cells:AVal->List AVal
 |.agg cs=>cs
 |v=>[v]
inductive Cell where
 |val (v:AVal)
 |own (sz:Nat) (xs:List AVal)
inductive Slot where
 |dead
 |val (v:AVal)
 |tup (vs:List AVal)
 |own (sz:Nat) (xs:List AVal)
 |full (xs:List AVal)
 |nl
 |nn (xs:List AVal)
 |cells (cs:List Cell)
 |box (cs:List Cell)
 |ref (t off:Nat)
instance:Inhabited Slot:=⟨.dead⟩
structure AK where
 nt:Nat
 keep:List Nat
 loc:List Nat
 take:List (Nat×Nat)
 pure:List (Nat×Nat)
 heads:List (Nat×List (Nat×Option Nat))
 ownRes:Bool
 ownArg:List Nat
 prim:Bool:=false
 mac:List Nat:=[]
 apart:List (Nat×Nat×Nat):=[]
structure jR where
 fn:FuncId
 tm:List Slot
 params:Array Tmp
 assign:Code
 body:Code
 pend:Option Code
 state:LoopState
inductive AObj where
 |box (cs:List Cell)
 |map (es:List (AVal×AVal))
 |loop (l:jR)
structure AN where
 objs:List AObj
 lo:Nat
structure St where
 tm:List Slot
 sto:AN
structure RS where
 sc:List (Nat×Slot)
 sto:AN
inductive ARes where
 |ret (s:Slot)
 |pan (v:AVal)
inductive bD where
 |norm
 |exit (id:Nat)
 |ret
 |pan (v:AVal)
inductive Callee where
 |fn (f:FuncId)
 |yld (i:Nat)
def Cell.get:Cell->AVal
 |.val v=>v
 |.own _ xs=>.slice xs
abbrev aO:=Callee->List Slot->AN->Option (ARes×AN)
abbrev aP:=FuncId->Code->St->Option (bD×St)
abbrev dY:=FuncId->List Slot->Option (Option ARes)
section
variable {R:Type}
def DI(s:Slot)(k:AVal->Option R):Option R :=
 match s with
 |.val v=>k v
 |.own _ xs=>k (.slice xs)
 |.full xs=>k (.slice xs)
 |.nl=>k (.slice [])
 |.nn xs=>k (.slice xs)
 |.cells cs=>k (.agg (cs.map Cell.get))
 |_=>none
def lJ(s:Slot)(k:List AVal->Option R):Option R :=
 match s with
 |.val (.slice xs)=>k xs
 |.own _ xs=>k xs
 |.full xs=>k xs
 |.nl=>k []
 |.nn xs=>k xs
 |_=>none
def asInt(s:Slot)(k:IntKind->Int->Option R):Option R :=
 match s with
 |.val (.int kd n)=>k kd n
 |_=>none
def asBool(s:Slot)(k:Bool->Option R):Option R :=
 match s with
 |.val (.bool b)=>bif b then k true else k false
 |_=>none
def mv(s:Slot)(k:Slot->Option R):Option R :=
 match s with
 |.val v=>k (.val v)
 |.tup vs=>k (.tup vs)
 |.own _ xs=>k (.val (.slice xs))
 |.full xs=>k (.full xs)
 |.nl=>k .nl
 |.nn xs=>k (.nn xs)
 |.cells cs=>k (.val (.agg (cs.map Cell.get)))
 |.box _=>none
 |.ref t o=>k (.ref t o)
 |.dead=>none
def aL(b:Bool)(k:Option R):Option R:=bif b then k else none
def bA(P:Program)(t:TypeId):Option Nat:=(P.info? t).map (·.size)
def aU(P:Program)(t:TypeId):Nat:=((P.info? t).map (·.bytes)).getD 0
def bO(P:Program)(t:TypeId):Option Bool :=
 match P.underlying t with
 |some (.struct _)=>some true
 |some (.array _ _)=>some true
 |some _=>some false
 |none=>none
def aT(P:Program)(t:TypeId):Option TypeId :=
 match P.underlying t with
 |some (.slice e)=>some e
 |_=>none
def AY(P:Program)(t:TypeId)(f:Nat):Option (Nat×TypeId) :=
 match P.underlying t with
 |some (.struct fs)=>(fs[f]?).map λx=>(x.offset,x.type)
 |_=>none
def jV:Value->Option AVal
 |.bool b=>some (.bool b)
 |.int k n=>some (.int k n)
 |.string s=>some (.str s.data.toList)
 |.pointer none=>some .nilptr
 |.slice none 0 0=>some (.slice [])
 |.map none=>some .nilmap
 |.nilFunc=>some .nilfunc
 |.nilIface=>some .nilif
 |_=>none
def px:List Value->Option (List AVal)
 |[]=>some []
 |v::vs=>(jV v).bind λa=>(px vs).map (a::·)
def iD:Value->Option AVal
 |.agg cs=>(px cs.toList).map .agg
 |v=>jV v
def hints(P:Program):Nat->TypeId->List (Option Nat)
 |0,_=>[]
 |d+1,t =>
  match P.underlying t with
  |some (.struct fs)=>fs.toList.flatMap λf=>hints P d f.type
  |some (.slice e)=>[bA P e]
  |some (.array n e)=>(List.replicate n (hints P d e)).flatten
  |_=>[none]
def aE6:Option Nat->AVal->Cell
 |some sz,.slice []=>.own sz []
 |_,v=>.val v
def fJ:List (Option Nat)->List AVal->List Cell
 |h::hs,v::vs=>aE6 h v::fJ hs vs
 |_,vs=>vs.map .val
def zeroOf(P:Program)(t:TypeId):Option AVal:=((P.info? t).bind (·.zero)).bind iD
def zeroCells(P:Program)(t:TypeId):Option (List Cell):=(zeroOf P t).map λz=>fJ (hints P 8 t) z.cells
def partOf(agg:Bool)(cs:List AVal)(off s:Nat):Option AVal :=
 if agg then(bif Nat.ble (off+s) cs.length then some (.agg ((cs.drop off).take s)) else none) else cs[off]?
def flat:AVal->Bool
 |.loc _ _=>false
 |.amap _=>false
 |.yld _=>false
 |.func _ _=>false
 |.iface _ _=>false
 |.agg _=>false
 |_=>true
def clean(v:AVal):Bool:=v.cells.all flat
def lokF(n:Nat):AVal->Bool
 |.loc i _=>Nat.blt i n
 |.amap i=>Nat.blt i n
 |.yld i=>Nat.blt i n
 |.agg _=>false
 |.func _ _=>false
 |.iface _ v=>clean v
 |_=>true
def lok(n:Nat)(v:AVal):Bool :=
 match v with
 |.agg cs=>cs.all (lokF n)
 |.func _ caps=>caps.all (lokF n)
 |v=>lokF n v
def Cell.lok(n:Nat):Cell->Bool
 |.val v=>AM.lok n v
 |.own _ _=>true
def dB(n:Nat):Slot->Bool
 |.val v=>lok n v
 |.tup vs=>vs.all (lok n)
 |_=>true
def bL:List (Nat×Slot)->Nat->Option Slot
 |[],_=>none
 |(k,s)::r,t=>bif Nat.beq k t then some s else bL r t
def tlook:List Nat->List Slot->Nat->Slot
 |k::ks,s::ss,t=>bif Nat.beq k t then s else tlook ks ss t
 |_,_,_=>.dead
def RS.look(keep:List Nat)(tm:List Slot)(rs:RS)(t:Nat):Slot :=
 match bL rs.sc t with
 |some s=>s
 |none=>tlook keep tm t
def RS.put(rs:RS)(t:Nat)(s:Slot):RS:={ rs with sc:=(t,s)::rs.sc }
def RS.putO(rs:RS)(t:Option Nat)(s:Slot):RS :=
 match t with
 |some t=>rs.put t s
 |none=>rs
def hJ(v:Value):Slot :=
 match v with
 |.slice none 0 0=>.nl
 |v=>match iD v with
  |some a=>.val a
  |none=>.dead
def l8(P:Program)(t:TypeId)(v:Value):Slot :=
 match v with
 |.slice none 0 0=>(match(aT P t).bind (bA P) with
  |some sz=>.own sz []
  |none=>.nl)
 |v=>hJ v
def A9(keep:List Nat)(tm:List Slot)(rs:RS):Operand->Slot
 |.tmp t=>rs.look keep tm t
 |.const v=>hJ v
 |.func f=>.val (.func f [])
 |.global _=>.dead
def kS:Slot->Slot
 |.ref _ _=>.dead
 |s=>s
def commit:List Nat->List Slot->List (Nat×Slot)->List Slot
 |k::ks,s::ss,sc=>(match bL sc k with|some s'=>kS s'|none=>s)::commit ks ss sc
 |_,_,_=>[]
inductive Place where
 |loc (t off:Nat)
 |obj (i off:Nat)
 |imm (x:AVal)
def dE(x:Operand)(s:Slot)(k:Place->Option R):Option R :=
 match s with
 |.box _=>(match x with|.tmp t=>k (.loc t 0)|_=>none)
 |.ref t o=>k (.loc t o)
 |.val (.loc i o)=>k (.obj i o)
 |.val (.cptr x)=>k (.imm x)
 |_=>none
def pU(s:Slot)(k:List Cell->Option R):Option R :=
 match s with
 |.box cs=>k cs
 |_=>none
def iG(o:Option AObj)(k:List Cell->Option R):Option R :=
 match o with
 |some (.box cs)=>k cs
 |_=>none
def lH(o:Option AObj)(k:List (AVal×AVal)->Option R):Option R :=
 match o with
 |some (.map es)=>k es
 |_=>none
def aQ(keep:List Nat)(tm:List Slot)(rs:RS)(p:Place)(k:List Cell->Nat->Option R):Option R :=
 match p with
 |.loc t o=>pU (rs.look keep tm t) λcs=>k cs o
 |.obj i o=>iG rs.sto.objs[i]? λcs=>k cs o
 |.imm x=>k (x.cells.map .val) 0
def setCells(cs:List Cell)(off:Nat)(new:List Cell):List Cell:=cs.take off++new++cs.drop (off+new.length)
def bQ(rs:RS)(p:Place)(cs:List Cell)(k:RS->Option R):Option R :=
 match p with
 |.loc t _=>k (rs.put t (.box cs))
 |.obj i _=>aL (Nat.ble rs.sto.lo i&&cs.all (Cell.lok (i+1))) (k { rs with sto:={ rs.sto with objs:=rs.sto.objs.set i (.box cs) } })
 |.imm _=>none
def jI(op:BinOp)(x y:AVal):Option AVal :=
 match x,y with
 |.int k a,.int k' b =>
  if k=k' then
   match op with
   |.add=>some (.int k (k.wrap (a+b)))
   |.sub=>some (.int k (k.wrap (a-b)))
   |.mul=>some (.int k (k.wrap (a*b)))
   |.rem=>if b=0 then none else some (.int k (a.tmod b))
   |.eql=>some (.bool (a==b))
   |.neq=>some (.bool (a != b))
   |.lss=>some (.bool (a<b))
   |.leq=>some (.bool (a<=b))
   |.gtr=>some (.bool (a>b))
   |.geq=>some (.bool (a>=b))
   |_=>none
  else none
 |.str a,.str b =>
  match op with
  |.eql=>some (.bool (a==b))
  |.neq=>some (.bool (!(a==b)))
  |_=>none
 |.bool a,.bool b =>
  match op with
  |.eql=>some (.bool (a==b))
  |.neq=>some (.bool (!(a==b)))
  |_=>none
 |.nilif,.nilif=>none
 |.nilif,.iface _ _ =>
  match op with
  |.eql=>some (.bool false)
  |.neq=>some (.bool true)
  |_=>none
 |.iface _ _,.nilif =>
  match op with
  |.eql=>some (.bool false)
  |.neq=>some (.bool true)
  |_=>none
 |.nilptr,.nilptr =>
  match op with
  |.eql=>some (.bool true)
  |.neq=>some (.bool false)
  |_=>none
 |.cptr _,.nilptr =>
  match op with
  |.eql=>some (.bool false)
  |.neq=>some (.bool true)
  |_=>none
 |.loc _ _,.nilptr =>
  match op with
  |.eql=>some (.bool false)
  |.neq=>some (.bool true)
  |_=>none
 |_,_=>none
def gE(P:Program)(t:TypeId):Bool:=match P.underlying t with|some (.slice _)=>true|_=>false
def rT(P:Program)(t:TypeId):Bool:=match P.underlying t with|some (.interface _)=>true|_=>false
def mf(P:Program)(t:TypeId):Bool:=match P.underlying t with|some .bool=>true|_=>false
def yS(P:Program)(t:TypeId):Bool:=match P.underlying t with|some (.pointer _)=>true|_=>false
def aEH(P:Program)(t:TypeId):Bool:=match P.underlying t with|some (.map _ _)=>true|_=>false
def keyT(P:Program)(t:TypeId)(v:AVal):Bool :=
 match P.underlying t,v with
 |some (.int _),.int _ _=>true
 |some .string,.str _=>true
 |_,_=>false
def iF(P:Program)(t:TypeId):AVal->Bool
 |.int _ _=>true
 |.str _=>true
 |.bool _=>mf P t
 |.nilif=>rT P t
 |.iface _ _=>rT P t
 |.nilptr=>yS P t
 |.cptr _=>yS P t
 |.loc _ _=>yS P t
 |_=>false
def cO(s:Slot):Option Bool :=
 match s with
 |.nl=>some true
 |.nn _=>some false
 |.own _ (_::_)=>some false
 |.full (_::_)=>some false
 |.val (.slice (_::_))=>some false
 |_=>none
def dR:Operand->Bool
 |.const (.slice none _ _)=>true
 |_=>false
def isNilIface:Operand->Bool
 |.const .nilIface=>true
 |_=>false
def eC(x y:AVal):Option Bool :=
 match x,y with
 |.str a,.str b=>some (a==b)
 |.int k a,.int k' b=>if k=k' then some (a==b) else none
 |_,_=>none
def fZ(x:AVal):List (AVal×AVal)->Option (Option AVal)
 |[]=>some none
 |(k,v)::es=>(eC x k).bind λb=>bif b then some (some v) else fZ x es
def mP(x v:AVal):List (AVal×AVal)->Option (List (AVal×AVal))
 |[]=>some [(x,v)]
 |(k,u)::es=>(eC x k).bind λb=>bif b then some ((x,v)::es) else(mP x v es).map ((k,u)::·)
def isKey:AVal->Bool
 |.str _=>true
 |.int _ _=>true
 |_=>false
def u9(place:Nat->Option (Nat×Nat))(cs:List Cell):List (Nat×AVal)->Option (List Cell)
 |[]=>some cs
 |(i,v)::rest=>(place i).bind λp=>bif Nat.beq v.cells.length p.2&&Nat.ble (p.1+p.2) cs.length then u9 place (cs.take p.1++v.cells.map .val++cs.drop (p.1+v.cells.length)) rest else none
def dM(keep:List Nat)(tm:List Slot)(rs:RS)(x:Operand)(k:List Cell->RS->Option R):Option R :=
 match A9 keep tm rs x,x with
 |.own sz xs,.tmp t=>(match keep.contains t with
  |true=>k [.val (.slice xs)] rs
  |false=>k [.own sz xs] (rs.put t (.val (.slice xs))))
 |.own sz [],.const _=>k [.own sz []] rs
 |.cells cs,.tmp t=>(match keep.contains t with
  |true=>k (cs.map λc=>.val c.get) rs
  |false=>k cs (rs.put t (.val (.agg (cs.map Cell.get)))))
 |s,_=>DI s λv=>k (v.cells.map .val) rs
def eU(P:Program)(t:TypeId)(keep:List Nat)(tm:List Slot)(rs:RS)(x:Operand)(k:List Cell->RS->Option R):Option R :=
 match A9 keep tm rs x with
 |.nl=>(aT P t).bind λe=>(bA P e).bind λsz=>k [.own sz []] rs
 |_=>dM keep tm rs x k
def hQ(keep:List Nat)(tm:List Slot)(rs:RS)(ps:List (Nat×Operand))(k:List (Nat×AVal)->Option R):Option R :=
 match ps with
 |[]=>k []
 |(i,x)::r=>DI (A9 keep tm rs x) λv=>hQ keep tm rs r λl=>k ((i,v)::l)
def dU(s:Nat)(xs:List AVal):List (Nat×AVal)->Option (List AVal)
 |[]=>some xs
 |(i,v)::r=>bif Nat.beq v.cells.length s&&Nat.blt i xs.length&&clean v then dU s (xs.set i v) r else none
def gP(keep:List Nat)(tm:List Slot)(rs:RS)(own:List Nat)(i:Nat)(xs:List Operand)(k:List Slot->RS->Option R):Option R :=
 match xs with
 |[]=>k [] rs
 |x::r =>
  match A9 keep tm rs x,own.contains i,x with
  |.own sz l0,true,.tmp t=>gP keep tm (rs.put t (.val (.slice l0))) own (i+1) r λl rs'=>k (.own sz l0::l) rs'
  |.nl,true,_=>gP keep tm rs own (i+1) r λl rs'=>k (.nl::l) rs'
  |s,_,_=>DI s λv=>gP keep tm rs own (i+1) r λl rs'=>k (.val v::l) rs'
def nG(keep:List Nat)(tm:List Slot)(rs:RS)(xs:List Operand)(k:List AVal->Option R):Option R :=
 match xs with
 |[]=>k []
 |x::r=>DI (A9 keep tm rs x) λv=>nG keep tm rs r λl=>k (v::l)
def room:Nat:=4294967296
def lz(sz:Nat):List AVal->Bool
 |[]=>true
 |x::_=>Nat.beq x.cells.length sz
def fF(sz:Nat)(full:Bool)(xs:List AVal)(l h:Int)(k:Slot->Option R):Option R :=
 aL (decide (0<=l)&&decide (l<=h)&&decide (h<=(xs.length:Int))&&lz sz ((xs.take h.toNat).drop l.toNat))
  (k (if full then .full ((xs.take h.toNat).drop l.toNat) else .val (.slice ((xs.take h.toNat).drop l.toNat))))
def jQ(keep:List Nat)(tm:List Slot)(rs:RS)(x:Option Operand)(d:Int)(k:Int->Option R):Option R :=
 match x with
 |none=>k d
 |some x=>asInt (A9 keep tm rs x) λ_ n=>k n
def uD:Slot->Bool
 |.ref _ _=>false
 |_=>true
def dJ(AF:Bool)(cf:aO)(c:Callee)(args:List Slot)(rs:RS)(kp:AVal->RS->Option R)(k:Slot->RS->Option R):Option R :=
 match AF with
 |false=>(cf c args rs.sto).bind λr =>
  match r with
  |(.ret s,sto)=>aL (uD s) (k s { rs with sto:=sto })
  |(.pan v,sto)=>kp v { rs with sto:=sto }
 |true=>(cf c args { rs.sto with lo:=rs.sto.objs.length }).bind λr =>
  match r with
  |(.ret s,_)=>aL (dB rs.sto.objs.length s&&uD s) (k s rs)
  |(.pan _,_)=>none
def eY(loc:List Nat)(ops:List Oper):Nat->Operand->List Nat
 |0,_=>[]
 |n+1,.tmp t=>if loc.contains t then[t] else ops.flatMap λo=>if o.dst==some t then(match o.op with
  |.fieldAddr _ x _=>eY loc ops n x
  |.indexAddr _ x _=>eY loc ops n x
  |.nilCheck x=>eY loc ops n x
  |_=>[]) else[]
 |_,_=>[]
def addrOf(o:Oper):Operand :=
 match o.op with
 |.load _ a=>a
 |.store _ a _=>a
 |_=>.global 0
def bG(drawn:Bool)(SE:List Nat)(p:Place)(k:Option R):Option R :=
 match drawn with
 |false=>k
 |true=>match p with
  |.loc u _=>aL (SE.contains u) k
  |_=>aL SE.isEmpty k
def GL(P:Program)(an:AK)(tm:List Slot)(tk:Bool)(ty:TypeId)(x:Operand)(rs:RS)(k:Slot->RS->Option R):Option R :=
 match x with
 |.tmp t=>(match A9 an.keep tm rs x with
  |.own sz xs=>(match tk||!an.keep.contains t with
   |true=>k (.own sz xs) (rs.put t (.val (.slice xs)))
   |false=>k (.val (.slice xs)) rs)
  |.cells cs=>(match tk||!an.keep.contains t with
   |true=>k (.cells cs) (rs.put t (.val (.agg (cs.map Cell.get))))
   |false=>k (.val (.agg (cs.map Cell.get))) rs)
  |s=>mv s λs'=>k s' rs)
 |.const v=>(match l8 P ty v with
  |.dead=>none
  |s=>k s rs)
 |x=>mv (A9 an.keep tm rs x) λs'=>k s' rs
def aD(P:Program)(ans:FuncId->AK)(an:AK)(drawn AF:Bool)(DS:List Nat)(cf:aO)(tm:List Slot)(tk:Bool)(o:Oper)(rs:RS)(kp:AVal->RS->Option R)(k:Slot->RS->Option R):Option R :=
 let S:=A9 an.keep tm rs
 match o.op with
 |.move x=>GL P an tm tk o.type x rs k
 |.assign x=>GL P an tm tk o.type x rs k
 |.pick c a b=>asBool (S c) λt=>mv (S (match t with|true=>a|false=>b)) λs'=>k s' rs
 |.alloc t =>
  (zeroCells P t).bind λz=>(bA P t).bind λs=>aL (Nat.beq z.length s) (
   match o.dst with
   |some d=>match an.loc.contains d with
    |true=>k (.box z) rs
    |false=>k (.val (.loc rs.sto.objs.length 0)) { rs with sto:={ rs.sto with objs:=rs.sto.objs++[.box z] } }
   |none=>none)
 |.box t x =>
  eU P t an.keep tm rs x λv rs=>(bA P t).bind λs=>aL (Nat.beq v.length s) (
   match o.dst with
   |some d=>match an.loc.contains d with
    |true=>k (.box v) rs
    |false=>aL (v.all (Cell.lok rs.sto.objs.length)) (k (.val (.loc rs.sto.objs.length 0)) { rs with sto:={ rs.sto with objs:=rs.sto.objs++[.box v] } })
   |none=>none)
 |.build t parts =>
  (zeroCells P t).bind λz =>
  match P.underlying t with
  |some (.struct fs)=>hQ an.keep tm rs parts.toList λl =>
   (fs.toList.mapM λf=>(P.info? f.type).map λi=>(f.offset,i.size)).bind λplaces=>(u9 (places[·]?) z l).bind λcs=>k (.cells cs) rs
  |some (.array _ e)=>hQ an.keep tm rs parts.toList λl =>
   (bA P e).bind λs=>(u9 (λi=>some (i*s,s)) z l).bind λcs=>k (.cells cs) rs
  |_=>none
 |.buildSlice t len parts =>
  (aT P t).bind λe=>(bA P e).bind λs=>aL (Nat.blt 0 s&&Nat.ble (len*s) 16777216) (hQ an.keep tm rs parts.toList λl =>
   (zeroOf P e).bind λz=>aL (Nat.beq z.cells.length s&&clean z) ((dU s (List.replicate len z) l).bind λxs=>k (.full xs) rs))
 |.load t a =>
  dE a (S a) λp=>bG drawn DS p <| aQ an.keep tm rs p λcs off=>(bA P t).bind λs=>(bO P t).bind λagg =>
   match agg with
   |true=>(partOf true (cs.map Cell.get) off s).bind λv=>k (.val v) rs
   |false=>aL (Nat.beq s 1) (match tk,cs[off]? with
    |true,some (.own sz xs)=>bQ rs p (cs.set off (.val (.slice xs))) λrs'=>k (.own sz xs) rs'
    |_,c=>c.bind λc=>k (.val c.get) rs)
 |.store t a x =>
  dE a (S a) λp=>bG drawn DS p <| aQ an.keep tm rs p λcs off=>(bA P t).bind λs =>
   dM an.keep tm rs x λv rs=>aL (Nat.beq v.length s&&Nat.ble (off+s) cs.length) (bQ rs p (setCells cs off v) λrs'=>k .dead rs')
 |.nilCheck x =>
  match S x with
  |.box _=>(match x with|.tmp t=>k (.ref t 0) rs|_=>none)
  |.ref t o=>k (.ref t o) rs
  |.val (.loc i o)=>k (.val (.loc i o)) rs
  |.val (.cptr v)=>k (.val (.cptr v)) rs
  |.val (.func f cs)=>k (.val (.func f cs)) rs
  |_=>none
 |.binOp op ty x y _ =>
  match op,dR y with
  |.eql,true=>aL (gE P ty) ((cO (S x)).bind λb=>k (.val (.bool b)) rs)
  |.neq,true=>aL (gE P ty) ((cO (S x)).bind λb=>k (.val (.bool (!b))) rs)
  |_,_ =>
   match op,isNilIface y,S x with
   |.eql,true,.val .nilif=>aL (rT P ty) (k (.val (.bool true)) rs)
   |.neq,true,.val .nilif=>aL (rT P ty) (k (.val (.bool false)) rs)
   |_,_,sx=>DI sx λa=>DI (S y) λb=>aL (iF P ty a) ((jI op a b).bind λv=>k (.val v) rs)
 |.unOp op _ x =>
  match op,S x with
  |.not,.val (.bool b)=>k (.val (.bool (!b))) rs
  |.neg,.val (.int kd n)=>k (.val (.int kd (kd.wrap (0-n)))) rs
  |_,_=>none
 |.convert src dst x =>
  match P.underlying src,P.underlying dst with
  |some (.int _),some (.int kd)=>asInt (S x) λ_ n=>k (.val (.int kd (kd.wrap n))) rs
  |some .string,some .string=>(match S x with|.val (.str s)=>k (.val (.str s)) rs|_=>none)
  |_,_=>none
 |.fieldAddr t x f =>
  (AY P t f).bind λot=>(bA P ot.2).bind λs=>aL (Nat.blt 0 s) (dE x (S x) λp =>
   match p with
   |.loc t o=>k (.ref t (o+ot.1)) rs
   |.obj i o=>k (.val (.loc i (o+ot.1))) rs
   |.imm v=>(bO P ot.2).bind λagg=>(partOf agg v.cells ot.1 s).bind λu=>k (.val (.cptr u)) rs)
 |.field t x f =>
  (AY P t f).bind λot=>(bA P ot.2).bind λs=>(bO P ot.2).bind λagg =>
   match S x with
   |.val (.agg cs)=>(partOf agg cs ot.1 s).bind λu=>k (.val u) rs
   |_=>none
 |.indexAddr t x ix =>
  match P.underlying t with
  |some (.slice e)=>lJ (S x) λxs=>asInt (S ix) λ_ n=>(bA P e).bind λs=>aL (decide (0<=n)) ((xs[n.toNat]?).bind λv=>aL (Nat.beq v.cells.length s) (k (.val (.cptr v)) rs))
  |some (.array len e)=>dE x (S x) λp=>asInt (S ix) λ_ n=>(bA P e).bind λs=>aL (decide (0<=n)&&decide (n<len)) (
   match p with
   |.loc t o=>k (.ref t (o+n.toNat * s)) rs
   |.obj i o=>k (.val (.loc i (o+n.toNat * s))) rs
   |.imm v=>(bO P e).bind λagg=>(partOf agg v.cells (n.toNat * s) s).bind λu=>k (.val (.cptr u)) rs)
  |_=>none
 |.index t x ix =>
  match P.underlying t,S x with
  |some .string,.val (.str s)=>asInt (S ix) λ_ n=>aL (decide (0<=n)) ((s[n.toNat]?).bind λb=>k (.val (.int .u8 b.toNat)) rs)
  |some (.array len e),.val (.agg cs)=>asInt (S ix) λ_ n=>(bA P e).bind λs=>(bO P e).bind λagg=>aL (decide (0<=n)&&decide (n<len)) (
    (partOf agg cs (n.toNat * s) s).bind λu=>k (.val u) rs)
  |some (.array len e),.cells cs=>asInt (S ix) λ_ n=>(bA P e).bind λs=>(bO P e).bind λagg=>aL (decide (0<=n)&&decide (n<len)) (
    (partOf agg (cs.map Cell.get) (n.toNat * s) s).bind λu=>k (.val u) rs)
  |_,_=>none
 |.slice t x lo hi mx =>
  match P.underlying t with
  |some .string=>(match S x,mx with
   |.val (.str s),none=>jQ an.keep tm rs lo 0 λl=>jQ an.keep tm rs hi s.length λh =>
    aL (decide (0<=l)&&decide (l<=h)&&decide (h<=(s.length:Int))) (k (.val (.str ((s.take h.toNat).drop l.toNat))) rs)
   |_,_=>none)
  |some (.slice e)=>(bA P e).bind λsz=>lJ (S x) λxs=>jQ an.keep tm rs lo 0 λl=>jQ an.keep tm rs hi xs.length λh =>
   match mx with
   |none=>fF sz false xs l h λs=>k s rs
   |some m=>asInt (A9 an.keep tm rs m) λ_ m=>aL (decide (m=h)) (match hi with
    |some _=>fF sz true xs l h λs=>k s rs
    |none=>none)
  |_=>none
 |.makeInterface t x =>
  match P.underlying t with
  |some (.interface _)=>none
  |some _=>DI (S x) λv=>k (.val (.iface t v)) rs
  |none=>none
 |.makeFunc fn first caps =>
  match fn,first.toList with
  |.func f,[]=>nG an.keep tm rs caps.toList λl=>k (.val (.func f l)) rs
  |_,_=>none
 |.makeMap t r =>
  match r with
  |none=>k (.val (.amap rs.sto.objs.length)) { rs with sto:={ rs.sto with objs:=rs.sto.objs++[.map []] } }
  |some x=>asInt (S x) λ_ _=>aL (aEH P t) <| k (.val (.amap rs.sto.objs.length)) { rs with sto:={ rs.sto with objs:=rs.sto.objs++[.map []] } }
 |.lookup t m key ok =>
  match P.underlying t,S m with
  |some (.map kt e),.val (.amap i)=>lH rs.sto.objs[i]? λes=>DI (S key) λkv=>aL (keyT P kt kv) ((fZ kv es).bind λr=>(zeroOf P e).bind λz =>
   match ok with
   |true=>k (.tup [r.getD z,.bool r.isSome]) rs
   |false=>k (.val (r.getD z)) rs)
  |_,_=>none
 |.mapUpdate t m key x =>
  match P.underlying t,S m with
  |some (.map kt _),.val (.amap i)=>lH rs.sto.objs[i]? λes=>DI (S key) λkv=>DI (S x) λv=>aL (keyT P kt kv&&clean v&&Nat.ble rs.sto.lo i) (
   (mP kv v es).bind λes'=>k .dead { rs with sto:={ rs.sto with objs:=rs.sto.objs.set i (.map es') } })
  |_,_=>none
 |.extract t ix =>
  match S t with
  |.tup vs=>(vs[ix]?).bind λv=>k (.val v) rs
  |_=>none
 |.panic x =>
  match drawn,S x with
  |false,.val (.iface t v)=>kp (.iface t v) rs
  |_,_=>none
 |.call c =>
  match c.callee,c.args.toList with
  |.builtin .len,[x]=>(match(c.argTypes[0]?).bind P.underlying with
   |some .string=>(match S x with|.val (.str s)=>k (.val (.int .i64 s.length)) rs|_=>none)
   |some (.slice _)=>lJ (S x) λxs=>k (.val (.int .i64 xs.length)) rs
   |some (.array n _)=>k (.val (.int .i64 n)) rs
   |some (.map _ _)=>(match S x with
    |.val (.amap i)=>lH rs.sto.objs[i]? λes=>k (.val (.int .i64 es.length)) rs
    |_=>none)
   |_=>none)
  |.builtin .append,[s,x]=>(match(c.argTypes[0]?).bind (aT P),(c.argTypes[1]?).bind (aT P) with
   |some e,some _=>(bA P e).bind λsz=>(zeroOf P e).bind λz=>lJ (S x) λys=>aL (Nat.blt 0 sz&&Nat.beq z.cells.length sz&&Nat.ble (aU P e) 16384&&Nat.blt 0 (aU P e)&&ys.all (λy=>Nat.beq y.cells.length sz)) (match S s,s with
    |.own EK xs,.tmp t=>aL (Nat.beq sz EK&&Nat.ble (xs.length+ys.length) room) (k (.own sz (xs++ys)) (rs.put t (.val (.slice xs))))
    |.full xs,_=>aL (xs.all (λy=>Nat.beq y.cells.length sz)&&Nat.ble (xs.length+ys.length) room&&(xs.isEmpty||!ys.isEmpty)) (k (.own sz (xs++ys)) rs)
    |.nl,_=>aL (Nat.ble ys.length room) (k (.own sz ys) rs)
    |_,_=>none)
   |_,_=>none)
  |.builtin .max,[x,y]=>asInt (S x) λkd n=>asInt (S y) λ_ m=>k (.val (.int kd (bif decide (m>n) then m else n))) rs
  |.builtin .min,[x,y]=>asInt (S x) λkd n=>asInt (S y) λ_ m=>k (.val (.int kd (bif decide (m<n) then m else n))) rs
  |.value f,args=>(match S f with
   |.val (.func g caps)=>gP an.keep tm rs (ans g).ownArg 0 args λl rs'=>dJ AF cf (.fn g) (l++caps.map .val) rs' kp k
   |.val (.yld i)=>gP an.keep tm rs [] 0 args λl rs'=>dJ AF cf (.yld i) l rs' kp k
   |_=>none)
  |_,_=>none
 |_=>none
def noRefTo(d:Nat)(sc:List (Nat×Slot)):Bool:=sc.all λp=>match bL sc p.1 with|some (.ref t _)=>!Nat.beq t d|_=>true
def dK(an:AK)(o:Oper)(s:Slot)(rs:RS):Bool :=
 match o.dst with
 |none=>true
 |some d=>Nat.blt d an.nt&&(match s with|.ref t _=>!Nat.beq t d|_=>true)&&(!an.loc.contains d||noRefTo d rs.sc)
def nK(s:Slot)(k:Bool->Option R)(skip:Option R):Option R:=match s with
 |.val (.bool b)=>k b
 |.tup []=>skip
 |_=>none
def gG(P:Program)(ans:FuncId->AK)(an:AK)(drawn:Bool)(cf:aO)(tm:List Slot)(rid:Nat)(ops:Array Oper)(kp:AVal->RS->Option R)(o:Oper)(i:Nat)(rs:RS)(next:RS->Option R):Option R :=
 let go (rs:RS):Option R:=aD P ans an drawn (an.pure.contains (rid,i)) (match drawn with|true=>eY an.loc ops.toList ops.size (addrOf o)|false=>[]) cf tm (an.take.contains (rid,i)) o rs kp λs rs'=>aL (dK an o s rs') (next (rs'.putO o.dst s))
 match o.guard with
 |none=>go rs
 |some (j,want) =>
  match(ops[j]?).bind (·.dst) with
  |none=>none
  |some d=>nK (rs.look an.keep tm d) (λb=>match b==want with
   |true=>go (rs.put d (.val (.bool b)))
   |false=>aL (dK an o .dead rs) (next ((rs.put d (.val (.bool b))).putO o.dst (.tup [])))) (aL (dK an o .dead rs) (next (rs.putO o.dst (.tup []))))
def lT(P:Program)(ans:FuncId->AK)(an:AK)(drawn:Bool)(cf:aO)(tm:List Slot)(rid:Nat)(ops:Array Oper)(kp:AVal->RS->Option R)(kn:RS->Option R):List Oper->Nat->RS->Option R
 |[],_,rs=>kn rs
 |o::os,i,rs=>gG P ans an drawn cf tm rid ops kp o i rs λrs'=>lT P ans an drawn cf tm rid ops kp kn os (i+1) rs'
inductive Cls where
 |p|r|c|t|w|x
def cN(ans:FuncId->AK)(loc:List Nat)(ops:Array Oper)(pure tk:Bool)(o:Oper):Cls :=
 match o.op with
 |.move _|.assign _|.pick ..|.build ..|.buildSlice ..|.nilCheck _|.binOp ..|.unOp ..|.convert ..|.fieldAddr ..|.field ..|.indexAddr ..|.index ..|.slice ..|.makeInterface ..|.makeFunc ..|.extract ..=>.p
 |.alloc _|.box ..=>(match o.dst with|some d=>if loc.contains d then .p else .w|none=>.x)
 |.load _ a=>(match eY loc ops.toList ops.size a,tk with
  |_::_,_=>.p
  |[],true=>.t
  |[],false=>.r)
 |.store _ a _=>(match eY loc ops.toList ops.size a with|_::_=>.p|[]=>.w)
 |.lookup ..=>.r
 |.mapUpdate ..|.makeMap ..=>.w
 |.call c=>(match c.callee with
  |.builtin .append=>.p
  |.builtin .len=>.r
  |.builtin .max=>.p
  |.builtin .min=>.p
  |.value f=>(match pure,f with
   |true,.func g=>if(ans g).prim then .p else .c
   |true,_=>.c
   |false,_=>.w)
  |_=>.x)
 |_=>.x
def Cls.clash:Cls->Cls->Bool
 |.x,_=>true
 |_,.x=>true
 |.p,_=>false
 |_,.p=>false
 |.w,_=>true
 |_,.w=>true
 |.t,.t=>true
 |.t,.c=>true
 |.c,.t=>true
 |_,_=>false
def FA(ops:Array Oper)(o:Oper):List Nat :=
 (o.op.operands.toList.filterMap fun|.tmp t=>some t|_=>none)++(match o.guard with|some (j,_)=>((ops[j]?).bind (·.dst)).toList|none=>[])
def cons(keep:List Nat)(tk:Bool)(o:Oper):List Nat :=
 match o.op with
 |.call c=>(match c.callee with
  |.builtin .append=>(c.args.toList.filterMap fun|.tmp t=>some t|_=>none)
  |.value _=>(c.args.toList.filterMap fun|.tmp t=>some t|_=>none)
  |_=>[])
 |.move (.tmp t)=>if tk||!keep.contains t then[t] else[]
 |.assign (.tmp t)=>if tk||!keep.contains t then[t] else[]
 |.store _ _ (.tmp t)=>if !keep.contains t then[t] else[]
 |.box _ (.tmp t)=>if !keep.contains t then[t] else[]
 |_=>[]
def IJ(loc:List Nat)(ops:Array Oper)(o:Oper):List Nat :=
 match o.op with
 |.load _ a=>eY loc ops.toList ops.size a
 |.store _ a _=>eY loc ops.toList ops.size a
 |_=>[]
def Hw(loc:List Nat)(ops:Array Oper)(o:Oper):List Nat :=
 match o.op with
 |.store _ a _=>eY loc ops.toList ops.size a
 |_=>[]
def G9(loc:List Nat)(ops:Array Oper)(tk:Bool)(o:Oper):List Nat :=
 match o.op with
 |.load _ a=>if tk then eY loc ops.toList ops.size a else[]
 |_=>[]
def meets(l m:List Nat):Bool:=l.any λt=>m.contains t
def oO(keep loc:List Nat)(ops:Array Oper)(ta tb:Bool)(a b:Oper):Bool :=
 meets (a.dst.toList++cons keep ta a) (FA ops b++IJ loc ops b++b.dst.toList++cons keep tb b)||meets (Hw loc ops a) (IJ loc ops b)||meets (G9 loc ops ta a) (G9 loc ops tb b++Hw loc ops b)
def eW(o:Oper):Option Nat :=
 match o.op with
 |.nilCheck (.tmp t)=>some t
 |.fieldAddr _ (.tmp t) _=>some t
 |.indexAddr _ (.tmp t) _=>some t
 |_=>none
def Tl(loc:List Nat)(o:Oper):Option Nat :=
 match o.dst,o.op,o.guard with
 |some d,.load _ (.tmp u),none=>bif loc.contains d then none else some u
 |_,_,_=>none
def TX(an:AK)(rid:Nat)(ta tb:Bool)(a b:Oper):Bool :=
 match Tl an.loc a,Tl an.loc b with
 |some u,some v=>ta&&tb&&an.apart.any λp=>Nat.beq p.1 rid&&(Nat.beq p.2.1 u&&Nat.beq p.2.2 v)
 |_,_=>false
def xh(an:AK)(rid:Nat)(o:Oper):Bool:=an.apart.all λp=>!Nat.beq p.1 rid||(!(o.dst.toList++cons an.keep true o).contains p.2.1&&!(o.dst.toList++cons an.keep true o).contains p.2.2)
def tg:Slot->Option Nat
 |.val (.loc i _)=>some i
 |_=>none
def gf(s t:Slot):Bool:=match tg s,tg t with
 |some i,some j=>!Nat.beq i j
 |_,_=>false
def sT(an:AK)(rid:Nat)(tm:List Slot):Bool:=an.apart.all λp=>!Nat.beq p.1 rid||gf (tlook an.keep tm p.2.1) (tlook an.keep tm p.2.2)
def tH(ans:FuncId->AK)(an:AK)(rid:Nat)(ops:Array Oper):Bool :=
 let bf:=Region.before ops
 let n:=ops.size
 ops.toList.all (xh an rid)&&(List.range n).all λj=>(List.range j).all λi =>
  match ops[i]?,ops[j]? with
  |some a,some b =>
   let ta:=an.take.contains (rid,i)
   let tb:=an.take.contains (rid,j)
   (bf.getD j 0).testBit i||!(((cN ans an.loc ops (an.pure.contains (rid,i)) ta a).clash (cN ans an.loc ops (an.pure.contains (rid,j)) tb b)&&!TX an rid ta tb a b)||oO an.keep an.loc ops ta tb a b||oO an.keep an.loc ops tb ta b a)
  |_,_=>false
def yR(an:AK)(rid:Nat):Bool:=an.mac.any λi=>Nat.beq i rid
def Ma(ans:FuncId->AK)(an:AK)(rid:Nat)(ops:Array Oper):Bool :=
 !yR an rid&&(List.range ops.size).all λi=>match ops[i]? with
  |some a=>(match cN ans an.loc ops (an.pure.contains (rid,i)) (an.take.contains (rid,i)) a with|.x=>false|_=>true)&&!meets a.dst.toList (FA ops a)&&a.after.all (λe=>!Region.binds .any e||Nat.blt e.on i) &&
   (match a.dst with|some d=>!an.loc.contains d||ops.all (λo=>match eW o with|some t=>!Nat.beq t d|none=>true)|none=>true)
  |none=>false
def gA:Code->Option Nat
 |.region id _ _=>some id
 |.seq a b=>match gA a with|some i=>some i|none=>gA b
 |.cond _ a b=>match gA a with|some i=>some i|none=>gA b
 |.block _ c=>gA c
 |.loop c=>gA c
 |.rangeFunc _ _ a b=>match gA a with|some i=>some i|none=>gA b
 |.scope c=>gA c
 |_=>none
def nM(c:Option (Option Nat))(s:Slot):Slot :=
 match c with
 |none=>.dead
 |some none=>s
 |some (some sz)=>match s with
  |.nl=>.own sz []
  |s=>s
def Y9:List (Nat×Option Nat)->Nat->Option (Option Nat)
 |[],_=>none
 |(k,c)::r,t=>bif Nat.beq k t then some c else Y9 r t
def iR(h:List (Nat×Option Nat)):List Nat->List Slot->List Slot
 |k::ks,s::ss=>nM (Y9 h k) s::iR h ks ss
 |_,_=>[]
def aEw:List (Nat×List (Nat×Option Nat))->Nat->Option (List (Nat×Option Nat))
 |[],_=>none
 |(k,h)::r,t=>bif Nat.beq k t then some h else aEw r t
def jN(an:AK)(c:Code)(st:St):St :=
 match(gA c).bind (aEw an.heads) with
 |some h=>{ st with tm:=iR h an.keep st.tm }
 |none=>st
def dV:Slot->Slot
 |.val v=>.val v
 |.full xs=>.full xs
 |.nl=>.nl
 |.nn xs=>.nn xs
 |.own _ xs=>.val (.slice xs)
 |.cells cs=>.val (.agg (cs.map Cell.get))
 |_=>.dead
def cS(keep:List Nat)(tm:List Slot)(ps:List (Nat×Slot)):List Slot:=commit keep tm ps.reverse
def fD(o:Oper):List Nat:=(o.after.toList.filter (Region.binds .any ·)).map (·.on)
def mD:List Nat->List Nat->Bool
 |[],[]=>true
 |a::l,b::m=>Nat.beq a b&&mD l m
 |_,_=>false
def To(o:Oper)(d a:Nat)(es:List Nat):Option TypeId :=
 match o.dst,o.op,o.guard with
 |some d',.load t (.tmp a'),none=>bif Nat.beq d' d&&Nat.beq a' a&&mD (fD o) es then some t else none
 |_,_,_=>none
def X4(o:Oper)(d a:Nat)(es:List Nat):Option TypeId :=
 match o.dst,o.op,o.guard with
 |some d',.call ⟨.builtin .len,⟨[.tmp a']⟩,⟨[t]⟩⟩,none=>bif Nat.beq d' d&&Nat.beq a' a&&mD (fD o) es then some t else none
 |_,_,_=>none
def X6(o:Oper)(d:Nat)(es:List Nat):Option (TypeId×Value) :=
 match o.dst,o.op,o.guard with
 |some d',.buildSlice t n ⟨[(i,.const z)]⟩,none=>bif Nat.beq d' d&&Nat.beq n 1&&Nat.beq i 0&&mD (fD o) es then some (t,z) else none
 |_,_,_=>none
def X7(o:Oper)(d a b:Nat)(es:List Nat):Option (TypeId×TypeId) :=
 match o.dst,o.op,o.guard with
 |some d',.call ⟨.builtin .append,⟨[.tmp a',.tmp b']⟩,⟨[t,u]⟩⟩,none=>bif Nat.beq d' d&&Nat.beq a' a&&Nat.beq b' b&&mD (fD o) es then some (t,u) else none
 |_,_,_=>none
def X5(o:Oper)(d a b:Nat)(es:List Nat):Option TypeId :=
 match o.dst,o.op,o.guard with
 |some d',.indexAddr t (.tmp a') (.tmp b'),none=>bif Nat.beq d' d&&Nat.beq a' a&&Nat.beq b' b&&mD (fD o) es then some t else none
 |_,_,_=>none
def Tm(o:Oper)(a b:Nat)(es:List Nat):Option TypeId :=
 match o.dst,o.op,o.guard with
 |none,.store t (.tmp a') (.tmp b'),none=>bif Nat.beq a' a&&Nat.beq b' b&&mD (fD o) es then some t else none
 |_,_,_=>none
def nB(ops:List Oper):Option (TypeId×TypeId×Value) :=
 match ops with
 |[o0,o1,o2,o3,o4,o5,o6,o7] =>
  (To o0 8 2 []).bind λs=>(To o1 9 5 []).bind λe=>(X4 o2 10 8 [0]).bind λs2=>(X6 o3 11 []).bind λs3=>(X7 o4 12 8 11 [0,3,0,1,2,3]).bind λs4=>(X5 o5 13 12 10 [4,2,0,1,2,3,4]).bind λs5 =>
   (Tm o6 13 9 [5,1,4,0,1,2,3,4]).bind λe6=>(Tm o7 2 12 [4,4,0,1,2,3,4]).bind λs7 =>
    bif Nat.beq s2 s&&Nat.beq s3.1 s&&Nat.beq s4.1 s&&Nat.beq s4.2 s&&Nat.beq s5 s&&Nat.beq e6 e&&Nat.beq s7 s then some (s,e,s3.2) else none
 |_=>none
def ee(a b:Slot)(k:Nat->List Cell->Option R):Option R :=
 match a,b with
 |.val (.loc i 0),.box cs=>k i cs
 |_,_=>none
def ed(bs:List Cell)(k:Nat->List AVal->Option R):Option R :=
 match bs with
 |[.own sz xs]=>k sz xs
 |_=>none
def y5(P:Program)(an:AK)(ops:List Oper)(st:St)(K:bD->St->Option R):Option R :=
 (nB ops).bind λse=>(aT P se.1).bind λe=>(bA P se.1).bind λs1=>(bA P e).bind λsz=>(zeroOf P e).bind λz=>(iD se.2.2).bind λzc=>(bO P e).bind λag=>(bO P se.1).bind λag1 =>
  aL (Nat.beq e se.2.1&&Nat.beq s1 1&&Nat.blt 0 sz&&ag&&!ag1&&Nat.beq z.cells.length sz&&clean z&&Nat.beq zc.cells.length sz&&clean zc&&Nat.ble (aU P e) 16384&&Nat.blt 0 (aU P e)&&Nat.ble sz 16777216&&Nat.blt 13 an.nt &&
    [8,9,10,11,12,13].all (λt=>!an.keep.contains t)) <|
   ee (tlook an.keep st.tm 2) (tlook an.keep st.tm 5) λi cs=>iG st.sto.objs[i]? λbs=>ed bs λEK xs =>
    aL (Nat.beq sz EK&&Nat.beq cs.length sz&&clean (.agg (cs.map Cell.get))&&Nat.ble (xs.length+1) room&&Nat.ble st.sto.lo i)
     (K .norm ⟨st.tm,{ st.sto with objs:=st.sto.objs.set i (.box [.own sz (xs++[.agg (cs.map Cell.get)])]) }⟩)
def XK(P:Program)(ans:FuncId->AK)(cf:aO)(lp:aP)(fid:FuncId):Code->St->(bD->St->Option R)->Option R
 |.skip,st,K=>K .norm st
 |.label _,st,K=>K .norm st
 |.seq a b,st,K=>XK P ans cf lp fid a st λe BF =>
  match e with
  |.norm=>XK P ans cf lp fid b BF K
  |.exit id=>K (.exit id) BF
  |.ret=>K .ret BF
  |.pan v=>K (.pan v) BF
 |.cond c a b,st,K=>asBool (A9 (ans fid).keep st.tm ⟨[],st.sto⟩ c) λt =>
  match t with
  |true=>XK P ans cf lp fid a st K
  |false=>XK P ans cf lp fid b st K
 |.block id c,st,K=>XK P ans cf lp fid c st λe BF =>
  match e with
  |.norm=>K .norm BF
  |.exit C8=>(bif Nat.beq C8 id then K .norm BF else K (.exit C8) BF)
  |.ret=>K .ret BF
  |.pan v=>K (.pan v) BF
 |.scope c,st,K=>XK P ans cf lp fid c st K
 |.exit id,st,K=>K (.exit id) st
 |.ret,st,K=>K .ret st
 |.region id ops false,st,K=>lT P ans (ans fid) false cf st.tm id ops (λv rs=>K (.pan v) ⟨st.tm,rs.sto⟩) (λrs=>K .norm ⟨commit (ans fid).keep st.tm rs.sc,rs.sto⟩) ops.toList 0 ⟨[],st.sto⟩
 |.region id ops true,st,K =>
  bif yR (ans fid) id then y5 P (ans fid) ops.toList st K else
  aL (tH ans (ans fid) id ops&&Ma ans (ans fid) id ops) <| aL (sT (ans fid) id st.tm) (lT P ans (ans fid) true cf st.tm id ops (λ_ _=>none) (λrs=>K .norm ⟨commit (ans fid).keep st.tm rs.sc,rs.sto⟩) ops.toList 0 ⟨[],st.sto⟩)
 |.loop c,st,K=>(lp fid c (jN (ans fid) c st)).bind λp=>K p.1 p.2
 |.rangeFunc f params assign body,st,K =>
  match A9 (ans fid).keep st.tm ⟨[],st.sto⟩ f with
  |.val (.func g caps) =>
   (cf (.fn g) (.val (.yld st.sto.objs.length)::caps.map .val)
    { st.sto with objs:=st.sto.objs++[.loop ⟨fid,st.tm.map dV,params,assign,body,none,.ready⟩] }).bind λr =>
   match r with
   |(.pan v,sto)=>K (.pan v) { st with sto:=sto }
   |(.ret _,sto) =>
    match sto.objs[st.sto.objs.length]? with
    |some (.loop l) =>
     match l.state,l.pend with
     |.ready,none=>K .norm { st with sto:={ sto with objs:=sto.objs.take st.sto.objs.length } }
     |.done,some .ret=>K .ret { st with sto:={ sto with objs:=sto.objs.take st.sto.objs.length } }
     |.done,some (.exit id)=>K (.exit id) { st with sto:={ sto with objs:=sto.objs.take st.sto.objs.length } }
     |_,_=>none
    |_=>none
  |_=>none
 |_,_,_=>none
def cD:Code->Bool
 |.seq a b=>cD a&&cD b
 |.cond _ a b=>cD a&&cD b
 |.block _ c=>cD c
 |.loop c=>cD c
 |.scope c=>cD c
 |.rangeFunc ..=>false
 |_=>true
def setLoop(sto:AN)(i:Nat)(l:jR):AN:={ sto with objs:=sto.objs.set i (.loop l) }
def dN(sto:AN)(i:Nat)(k:jR->Option R):Option R :=
 match sto.objs[i]? with
 |some (.loop l)=>k l
 |_=>none
def cut(n:Nat)(sto:AN):AN:={ sto with objs:=sto.objs.take n }
def Slot.isVal:Slot->Bool
 |.val _=>true
 |_=>false
def iV(P:Program)(an:AK)(tm:List Slot)(rs:List ResultVar)(sto:AN)(k:List AVal->Option R):Option R :=
 match rs with
 |[]=>k []
 |.tmp t::r=>DI (tlook an.keep tm t) λv=>iV P an tm r sto λl=>k (v::l)
 |.cell a t::r=>dE (.tmp a) (tlook an.keep tm a) λp=>aQ an.keep tm ⟨[],sto⟩ p λcs off=>(bA P t).bind λs=>(bO P t).bind λagg =>
  aL (agg||Nat.beq s 1) ((partOf agg (cs.map Cell.get) off s).bind λv=>iV P an tm r sto λl=>k (v::l))
end
def trim(n:Nat)(s:Slot)(sto:AN):AN:=bif dB n s then{ sto with objs:=sto.objs.take n } else sto
def finish(P:Program)(an:AK)(fn:Func)(n:Nat)(st:St):Option (ARes×AN) :=
  match an.ownRes,fn.results.toList with
  |true,[.tmp t]=>(match tlook an.keep st.tm t with
   |.own sz xs=>some (.ret (.own sz xs),trim n (.own sz xs) st.sto)
   |.nl=>some (.ret .nl,trim n .nl st.sto)
   |s=>DI s λv=>some (.ret (.val v),trim n (.val v) st.sto))
  |_,rs=>iV P an st.tm rs st.sto λvs =>
   match vs with
   |[v]=>some (.ret (.val v),trim n (.val v) st.sto)
   |vs=>some (.ret (.tup vs),trim n (.tup vs) st.sto)
def zN:ARes->Option Slot
 |.ret s=>aL (dB 0 s) (some s)
 |.pan _=>none
def cE(P:Program)(ans:FuncId->AK)(pr:dY)(cf:aO)(lp:aP):aO
 |.fn f,args,sto =>
  match pr f args with
  |some r=>(r.bind zN).map λs=>(.ret s,sto)
  |none=>bif (ans f).prim then none else
   match P.funcs[f]? with
   |none=>none
   |some fn =>
    match fn.body with
    |none=>none
    |some c=>aL (Nat.beq fn.ntmps (ans f).nt&&Nat.ble args.length fn.ntmps) <| XK P ans cf lp f c ⟨(ans f).keep.map λt=>(args[t]?).getD .dead,sto⟩ λe st =>
     match e with
     |.norm=>finish P (ans f) fn sto.objs.length st
     |.ret=>finish P (ans f) fn sto.objs.length st
     |.pan v=>some (.pan v,st.sto)
     |.exit _=>none
 |.yld i,args,sto =>
  dN sto i λl =>
   match l.state with
   |.ready=>aL (Nat.ble sto.lo i&&Nat.beq args.length l.params.size&&cD l.assign&&cD l.body&&args.all Slot.isVal&&(P.funcs[l.fn]?).isSome&&l.params.toList.all (λp=>Nat.blt p (ans l.fn).nt))
     (XK P ans cf lp l.fn l.assign ⟨cS (ans l.fn).keep l.tm (l.params.toList.zip args),sto⟩ λe st =>
      match e with
      |.norm=>dN st.sto i λl1 =>
       match l1.state with
       |.ready=>XK P ans cf lp l.fn l.body { st with sto:=setLoop st.sto i { l1 with state:=.busy } } λe st =>
        match e with
        |.norm=>dN st.sto i λl2=>some (.ret (.val (.bool true)),cut sto.objs.length (setLoop st.sto i { l2 with state:=.ready,pend:=none }))
        |.ret=>dN st.sto i λl2=>some (.ret (.val (.bool false)),cut sto.objs.length (setLoop st.sto i { l2 with state:=.done,pend:=some .ret }))
        |.exit id=>dN st.sto i λl2=>some (.ret (.val (.bool false)),cut sto.objs.length (setLoop st.sto i { l2 with state:=.done,pend:=some (.exit id) }))
        |.pan v=>some (.pan v,st.sto)
       |_=>none
      |_=>none)
   |_=>none
def jC(P:Program)(ans:FuncId->AK)(cf:aO)(lp:aP):aP:=λfid c st =>
 XK P ans cf lp fid c st λe BF =>
  match e with
  |.norm=>lp fid c (jN (ans fid) c BF)
  |e=>some (e,BF)
def run(P:Program)(ans:FuncId->AK)(pr:dY):Nat->aO×aP
 |0=>(λ_ _ _=>none,λ_ _ _=>none)
 |n+1=>(cE P ans pr (run P ans pr n).1 (run P ans pr n).2,jC P ans (run P ans pr n).1 (run P ans pr n).2)
end
abbrev HC:=AVal->Prop
def hno:HC:=λ_=>False
abbrev HT:=Nat->Nat->HC
def HT.le(Z Z':HT):Prop:=∀b o c,Z b o c->Z' b o c
theorem HT.le_refl(Z:HT):Z.le Z:=λ_ _ _ h=>h
theorem HT.le_trans{A B C:HT}(h:A.le B)(k:B.le C):A.le C:=λb o c x=>k b o c (h b o c x)
def pre(J J':List Nat):Prop:=∀i b:Nat,J[i]?=some b->J'[i]?=some b
theorem aI(J:List Nat):pre J J:=λ_ _ h=>h
theorem iU{a b c:List Nat}(h:pre a b)(k:pre b c):pre a c:=λi x y=>k i x (h i x y)
theorem eG(J l:List Nat):pre J (J++l):=λi b h=>by
 rw[Bg (Ab.1 h).1];exact h
theorem pre_nil(J:List Nat):pre [] J:=λi b h=>by simp at h
theorem ek{J:List Nat}{m:Nat}:pre (J.take m) J:=λi b hb=>by
 rw[Bm] at hb
 split at hb
 ·exact hb
 ·simp at hb
def oneC:Value->Bool
 |.agg _=>false
 |.tuple _=>false
 |_=>true
def AVal.isCell:AVal->Bool
 |.agg _=>false
 |_=>true
inductive VRel (Z:HT) (J:List Nat):AVal->Value->Prop where
 |bool (b:Bool):VRel Z J (.bool b) (.bool b)
 |int (k:IntKind) (n:Int):VRel Z J (.int k n) (.int k n)
 |str (s:List UInt8):VRel Z J (.str s) (.string ⟨⟨s⟩⟩)
 |slice (xs:List AVal) (a:Option Addr) (len cap s:Nat) (hl:xs.length=len) (hc:len<=cap)
   (hx:∀(i:Nat)(x:AVal),xs[i]?=some x->x.cells.length=s/\∃b o:Nat,a=some ⟨b,o,none⟩/\∀(j:Nat)(c:AVal),x.cells[j]?=some c->Z b (o+i*s+j) c):VRel Z J (.slice xs) (.slice a len cap)
 |agg (cs:List AVal) (vs:List Value) (hl:cs.length=vs.length) (hk:∀(i:Nat)(c:AVal),cs[i]?=some c->c.isCell=true)
   (hx:∀(i:Nat)(c:AVal)(v:Value),cs[i]?=some c->vs[i]?=some v->VRel Z J c v):VRel Z J (.agg cs) (.agg ⟨vs⟩)
 |nilptr:VRel Z J .nilptr (.pointer none)
 |nilfunc:VRel Z J .nilfunc .nilFunc
 |nilmap:VRel Z J .nilmap (.map none)
 |nilif:VRel Z J .nilif .nilIface
 |loc (i off b:Nat) (h:J[i]?=some b):VRel Z J (.loc i off) (.pointer (some ⟨b,off,none⟩))
 |amap (i b:Nat) (h:J[i]?=some b):VRel Z J (.amap i) (.map (some b))
 |yld (i b:Nat) (h:J[i]?=some b):VRel Z J (.yld i) (.func (.yield b) #[] #[])
 |cptr (x:AVal) (b o:Nat) (h:∀(j:Nat)(c:AVal),x.cells[j]?=some c->Z b (o+j) c):VRel Z J (.cptr x) (.pointer (some ⟨b,o,none⟩))
 |func (f:FuncId) (cs:List AVal) (vs:List Value) (hl:cs.length=vs.length)
   (hx:∀(i:Nat)(c:AVal)(v:Value),cs[i]?=some c->vs[i]?=some v->VRel Z J c v):VRel Z J (.func f cs) (.func (.func f) #[] ⟨vs⟩)
 |iface (t:TypeId) (x:AVal) (v:Value) (h:VRel Z J x v):VRel Z J (.iface t x) (.iface t v)
 |opq (v:Value) (h:v=.nilIface\/∃t x,v=.iface t x):VRel Z J .opq v
 |raw (v:Value) (h:oneC v=true):VRel Z J (.raw v) v
theorem VRel.mono{Z Z':HT}(hΨ:Z.le Z'){J J':List Nat}(hp:pre J J'){x:AVal}{v:Value}(h:VRel Z J x v):VRel Z' J' x v:=by
 induction h with
 |bool=>exact .bool _
 |int=>exact .int _ _
 |str=>exact .str _
 |slice xs a len cap s hl hc hx =>
  exact .slice xs a len cap s hl hc λi x e=>by
   obtain⟨h1,b,o,h2,h3⟩:=hx i x e;exact⟨h1,b,o,h2,λj c hj=>hΨ _ _ _ (h3 j c hj)⟩
 |agg cs vs hl hk hx ih=>exact .agg cs vs hl hk λi c v h1 h2=>ih i c v h1 h2
 |nilptr=>exact .nilptr
 |nilfunc=>exact .nilfunc
 |nilmap=>exact .nilmap
 |nilif=>exact .nilif
 |loc i off b h=>exact .loc i off b (hp i b h)
 |amap i b h=>exact .amap i b (hp i b h)
 |yld i b h=>exact .yld i b (hp i b h)
 |cptr x b o h=>exact .cptr x b o λj c hj=>hΨ _ _ _ (h j c hj)
 |func f cs vs hl hx ih=>exact .func f cs vs hl λi c v h1 h2=>ih i c v h1 h2
 |iface t x v h ih=>exact .iface t x v ih
 |opq v h=>exact .opq v h
 |raw v h=>exact .raw v h
theorem VRel.flat{Z:HT}{J J':List Nat}{x:AVal}{v:Value}(h:VRel Z J x v)(hf:AM.flat x=true):VRel Z J' x v:=by
 cases h with
 |bool=>exact .bool _
 |int=>exact .int _ _
 |str=>exact .str _
 |slice xs a len cap s hl hc hx=>exact .slice xs a _ cap s hl hc hx
 |nilptr=>exact .nilptr
 |nilfunc=>exact .nilfunc
 |nilmap=>exact .nilmap
 |nilif=>exact .nilif
 |cptr x b o h=>exact .cptr x b o h
 |agg=>simp[AM.flat] at hf
 |loc=>simp[AM.flat] at hf
 |amap=>simp[AM.flat] at hf
 |yld=>simp[AM.flat] at hf
 |func=>simp[AM.flat] at hf
 |iface=>simp[AM.flat] at hf
 |opq v h=>exact .opq v h
 |raw v h=>exact .raw v h
theorem jB{x:AVal}(h:flat x=true):x.isCell=true:=by cases x<;>simp_all [flat,AVal.isCell]
theorem gJ{x:AVal}(h:x.isCell=true):x.cells=[x]:=by cases x<;>simp_all [AVal.cells,AVal.isCell]
theorem VRel.one{Z:HT}{J:List Nat}{x:AVal}{v:Value}(h:VRel Z J x v)(hc:x.isCell=true):oneC v=true:=by
 cases h with
 |opq v h=>rcases h with rfl|⟨t,x,rfl⟩<;>rfl
 |raw v h=>exact h
 |_=>simp_all [oneC,AVal.isCell]
theorem VRel.cells{Z:HT}{J:List Nat}{x:AVal}{v:Value}(h:VRel Z J x v) :
  x.cells.length=v.cells.size/\(∀(i:Nat)(c:AVal),x.cells[i]?=some c->c.isCell=true)/\∀(i:Nat)(c:AVal)(u:Value),x.cells[i]?=some c->v.cells[i]?=some u->VRel Z J c u:=by
 by_cases hx:x.isCell=true
 ·have h1:=h.one hx
  rw[gJ hx];have hv:v.cells=#[v]:=by cases v<;>simp_all [Value.cells,oneC]
  rw[hv];refine⟨rfl,?_,?_⟩
  ·intro i c hi
   cases i with
   |zero=>simp at hi;subst hi;exact hx
   |succ n=>simp at hi
  ·intro i c u hi hu
   cases i with
   |zero=>simp at hi hu;subst hi;subst hu;exact h
   |succ n=>simp at hi
 ·cases h with
  |agg cs vs hl hk FC=>exact⟨by simpa[AVal.cells,Value.cells] using hl,hk,λi c u h1 h2=>FC i c u h1 (by simpa[Value.cells] using h2)⟩
  |_=>simp_all [AVal.isCell]
theorem VRel.clean{Z:HT}{J J':List Nat}{x:AVal}{v:Value}(h:VRel Z J x v)(hf:AM.clean x=true):VRel Z J' x v:=by
 by_cases hx:x.isCell=true
 ·refine h.flat ?_
  simpa[AM.clean,gJ hx] using hf
 ·cases h with
  |agg cs vs hl hk FC =>
   refine .agg cs vs hl hk λi c v h1 h2=>(FC i c v h1 h2).flat ?_
   have:=An.1 (show cs.all AM.flat=true from hf) c (Be h1)
   exact this
  |_=>simp_all [AVal.isCell]
theorem VRel.lokF{Z:HT}{J:List Nat}{n:Nat}{x:AVal}{v:Value}(h:VRel Z J x v)(hf:AM.lokF n x=true):VRel Z (J.take n) x v:=by
 cases h with
 |bool=>exact .bool _
 |int=>exact .int _ _
 |str=>exact .str _
 |slice xs a len cap s hl hc hx=>exact .slice xs a _ cap s hl hc hx
 |nilptr=>exact .nilptr
 |nilfunc=>exact .nilfunc
 |nilmap=>exact .nilmap
 |nilif=>exact .nilif
 |cptr x b o h=>exact .cptr x b o h
 |agg=>simp[AM.lokF] at hf
 |loc i off b h=>exact .loc i off b (by rw[Bm,Bo (by simpa[AM.lokF,Dc] using hf)];exact h)
 |amap i b h=>exact .amap i b (by rw[Bm,Bo (by simpa[AM.lokF,Dc] using hf)];exact h)
 |yld i b h=>exact .yld i b (by rw[Bm,Bo (by simpa[AM.lokF,Dc] using hf)];exact h)
 |func=>simp[AM.lokF] at hf
 |iface t x v h=>exact .iface t x v (h.clean hf)
 |opq v h=>exact .opq v h
 |raw v h=>exact .raw v h
theorem VRel.lok{Z:HT}{J:List Nat}{n:Nat}{x:AVal}{v:Value}(h:VRel Z J x v)(hf:AM.lok n x=true):VRel Z (J.take n) x v:=by
 cases h with
 |agg cs vs hl hk FC=>exact .agg cs vs hl hk λi c v h1 h2=>(FC i c v h1 h2).lokF (An.1 (show cs.all (AM.lokF n)=true from hf) c (Be h1))
 |func f cs vs hl FC=>exact .func f cs vs hl λi c v h1 h2=>(FC i c v h1 h2).lokF (An.1 (show cs.all (AM.lokF n)=true from hf) c (Be h1))
 |bool=>exact .bool _
 |int=>exact .int _ _
 |str=>exact .str _
 |slice xs a len cap s hl hc hx=>exact .slice xs a _ cap s hl hc hx
 |nilptr=>exact .nilptr
 |nilfunc=>exact .nilfunc
 |nilmap=>exact .nilmap
 |nilif=>exact .nilif
 |cptr x b o h=>exact .cptr x b o h
 |loc i off b h=>exact VRel.lokF (.loc i off b h) hf
 |amap i b h=>exact VRel.lokF (.amap i b h) hf
 |yld i b h=>exact VRel.lokF (.yld i b h) hf
 |iface t x v h=>exact VRel.lokF (.iface t x v h) hf
 |opq v h=>exact .opq v h
 |raw v h=>exact .raw v h
structure Glob (Z:HT):Prop where
 maxLen:∃m:Int,Z 0 0 (.int .i64 m)
 syn:Z 1 0 .opq
 rng:Z 2 0 .opq
 pow:∀i,i<20->Z 5 i (.int .u64 ((10^i:Nat):Int))
theorem Glob.mono{Z Z':HT}(h:Glob Z)(hl:Z.le Z'):Glob Z':=⟨h.maxLen.imp λ_=>hl _ _ _,hl _ _ _ h.syn,hl _ _ _ h.rng,λi hi=>hl _ _ _ (h.pow i hi)⟩
def Xx(w:World):Prop:=∃cs t fr,w.heap[5]?=some (.cells cs t fr)/\cs.size=20
structure WSat (Z:HT) (w:World):Prop where
 size8:8<=w.heap.size
 glob:Glob Z
 len5:Xx w
 sat:∀b o c,Z b o c->flat c=true/\∃v,w.cell? ⟨b,o,none⟩=some v/\VRel Z [] c v
abbrev Hu:=Bool×Nat×Nat
abbrev Own:=Nat->Option Hu
structure OwnRel (w:World) (B0:Nat) (Z:HT) (ow:Own) (id:Hu) (sz:Nat) (xs:List AVal) (v:Value):Prop where
 rel:VRel Z [] (.slice xs) v
 elems:∀x∈xs,x.cells.length=sz
 rest:∃a len cap,v=.slice a len cap/\(xs=[]/\len=cap\/∃b o cs E,a=some ⟨b,o,none⟩/\ow b=some id/\w.heap[b]?=some (.cells cs E (0,0))/\B0<=b/\o+cap*sz<=cs.size/\∀o',o+len*sz<=o'->Z b o'=hno)
inductive CRel (w:World) (B0:Nat) (Z:HT) (J:List Nat) (ow:Own) (id:Hu):Cell->Value->Prop where
 |val (c:AVal) (v:Value) (hc:c.isCell=true) (h:VRel Z J c v):CRel w B0 Z J ow id (.val c) v
 |own (sz:Nat) (xs:List AVal) (v:Value) (h:OwnRel w B0 Z ow id sz xs v):CRel w B0 Z J ow id (.own sz xs) v
def CsRel(w:World)(B0:Nat)(Z:HT)(J:List Nat)(ow:Own)(k:Bool)(i:Nat)(cs:List Cell)(vs:List Value):Prop :=
 cs.length=vs.length/\∀(j:Nat)(c:Cell)(v:Value),cs[j]?=some c->vs[j]?=some v->CRel w B0 Z J ow (k,i,j+1) c v
structure BoxRel (w:World) (B0:Nat) (Z:HT) (J:List Nat) (ow:Own) (k:Bool) (i:Nat) (cs:List Cell) (b:Nat):Prop where
 own:ow b=some (k,i,0)
 base:B0<=b
 free:∀o,Z b o=hno
 heap:∃vs T,w.heap[b]?=some (.cells ⟨vs⟩ T (0,0))/\CsRel w B0 Z J ow k i cs vs
inductive SRel (w:World) (B0:Nat) (Z:HT) (J:List Nat) (ow:Own) (tmps:Array Value) (t:Nat):Slot->Value->Prop where
 |dead (v:Value):SRel w B0 Z J ow tmps t .dead v
 |val (x:AVal) (v:Value) (h:VRel Z J x v):SRel w B0 Z J ow tmps t (.val x) v
 |tup (xs:List AVal) (vs:List Value) (hl:xs.length=vs.length) (h:∀(i:Nat)(x:AVal)(v:Value),xs[i]?=some x->vs[i]?=some v->VRel Z J x v):SRel w B0 Z J ow tmps t (.tup xs) (.tuple ⟨vs⟩)
 |own (sz:Nat) (xs:List AVal) (v:Value) (h:OwnRel w B0 Z ow (false,t,1) sz xs v):SRel w B0 Z J ow tmps t (.own sz xs) v
 |full (xs:List AVal) (a:Option Addr) (n:Nat) (h:VRel Z [] (.slice xs) (.slice a n n)):SRel w B0 Z J ow tmps t (.full xs) (.slice a n n)
 |nl:SRel w B0 Z J ow tmps t .nl (.slice none 0 0)
 |nn (xs:List AVal) (a:Addr) (n c:Nat) (h:VRel Z [] (.slice xs) (.slice (some a) n c)):SRel w B0 Z J ow tmps t (.nn xs) (.slice (some a) n c)
 |cells (cs:List Cell) (vs:List Value) (h:CsRel w B0 Z J ow false t cs vs):SRel w B0 Z J ow tmps t (.cells cs) (.agg ⟨vs⟩)
 |box (cs:List Cell) (b:Nat) (h:BoxRel w B0 Z J ow false t cs b):SRel w B0 Z J ow tmps t (.box cs) (.pointer (some ⟨b,0,none⟩))
 |ref (u o b:Nat) (h:tmps.getD u undef=.pointer (some ⟨b,0,none⟩)):SRel w B0 Z J ow tmps t (.ref u o) (.pointer (some ⟨b,o,none⟩))
def mapRel(Z:HT)(es:List (AVal×AVal))(AD:List MapEntry):Prop :=
 es.length=AD.length/\∀(i:Nat)(p:AVal×AVal)(e:MapEntry),es[i]?=some p->AD[i]?=some e->isKey p.1=true/\VRel Z [] p.1 e.key/\VRel Z [] p.2 e.val
structure LoopRel (w:World) (Z:HT) (J:List Nat) (ans:FuncId->AK) (l:jR) (r:Loop):Prop where
 state:r.state=l.state
 pend:r.pending=l.pend
 fn:r.fn=l.fn
 params:r.params=l.params
 assign:r.assign=l.assign
 body:r.body=l.body
 size:r.tmps.size=(ans l.fn).nt
 slots:∀t,SRel w 0 Z J (λ_=>none) r.tmps t (tlook (ans l.fn).keep l.tm t) (r.tmps.getD t undef)
 snap:∀s∈l.tm,dV s=s
 hi:∀t,(ans l.fn).nt<=t->tlook (ans l.fn).keep l.tm t=.dead
inductive ORel (w:World) (B0:Nat) (Z:HT) (J:List Nat) (ow:Own) (ans:FuncId->AK) (i:Nat):AObj->Nat->Prop where
 |box (cs:List Cell) (b:Nat) (h:BoxRel w B0 Z (J.take (i+1)) ow true i cs b):ORel w B0 Z J ow ans i (.box cs) b
 |map (es:List (AVal×AVal)) (b:Nat) (AD:Array MapEntry) (clock:Nat) (hb:w.heap[b]?=some (.map AD clock)) (ho:ow b=some (true,i,0)) (h0:B0<=b) (hf:∀o,Z b o=hno)
   (h:mapRel Z es AD.toList):ORel w B0 Z J ow ans i (.map es) b
 |loop (l:jR) (b:Nat) (r:Loop) (hb:w.heap[b]?=some (.loop r)) (ho:ow b=some (true,i,0)) (h0:B0<=b) (hf:∀o,Z b o=hno)
   (h:LoopRel w Z (J.take (i+1)) ans l r):ORel w B0 Z J ow ans i (.loop l) b
def OsRel(w:World)(B0:Nat)(Z:HT)(J:List Nat)(ow:Own)(ans:FuncId->AK)(objs:List AObj):Prop :=
 J.length=objs.length/\∀(i:Nat)(o:AObj),objs[i]?=some o->∃b:Nat,J[i]?=some b/\ORel w B0 Z J ow ans i o b
structure Fr (w:World) (Z:HT) (ow:Own) (w':World) (Z':HT) (AP:Own):Prop where
 le:Z.le Z'
 size:w.heap.size<=w'.heap.size
 keep:∀b,b<w.heap.size->ow b=none->w'.heap[b]?=w.heap[b]?/\∀o,Z' b o=Z b o
 own:∀b,AP b≠none->ow b≠none\/w.heap.size<=b
 os:w'.os=w.os
 tape:w'.tape=w.tape
 output:w'.output=w.output
theorem Fr.refl(w:World)(Z:HT)(ow:Own):Fr w Z ow w Z ow:=⟨Z.le_refl,Ae _,λ_ _ _=>⟨rfl,λ_=>rfl⟩,λ_ h=>.inl h,rfl,rfl,rfl⟩
theorem Fr.trans{w w1 w2:World}{Z Z1 Z2:HT}{ow BX CJ:Own}(h:Fr w Z ow w1 Z1 BX)(k:Fr w1 Z1 BX w2 Z2 CJ):Fr w Z ow w2 Z2 CJ where
 le:=HT.le_trans h.le k.le
 size:=Bj h.size k.size
 keep:=λb hb ho=>by
  have h1:=h.keep b hb ho
  have Nv:BX b=none:=by
   cases e:BX b with
   |none=>rfl
   |some x=>rcases h.own b (by simp[e]) with h'|h'
            ·exact absurd ho h'
            ·omega
  have h2:=k.keep b (Bx hb h.size) Nv;exact⟨h2.1.trans h1.1,λo=>(h2.2 o).trans (h1.2 o)⟩
 own:=λb hb=>by
  rcases k.own b hb with h'|h'
  ·exact h.own b h'
  ·exact .inr (Bj h.size h')
 os:=k.os.trans h.os
 tape:=k.tape.trans h.tape
 output:=k.output.trans h.output
end Go.AM
