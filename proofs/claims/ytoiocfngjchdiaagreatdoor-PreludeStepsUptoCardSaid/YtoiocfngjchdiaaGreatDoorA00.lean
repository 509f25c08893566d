import Derived.Test.YtoiocfngjchdiaaGreatDoorA
import Derived.RangeFuncRecord
set_option linter.all false
namespace Go.AM
section
inductive AVal where
 |bool (b:Bool)
 |int (k:IntKind) (n:Int)
 |str (s:List UInt8)
 |slice (xs:List AVal)
 |agg (cs:List AVal)
 |nilptr
 |nilfunc
 |nilmap
 |nilif
 |loc (i off:Nat)
 |amap (i:Nat)
 |yld (i:Nat)
 |cptr (x:AVal)
 |func (f:FuncId) (caps:List AVal)
 |iface (t:TypeId) (v:AVal)
 |opq
 |raw (v:Value)
 |rc (t:TypeId) (f a:List UInt8) (b e:AVal)
instance:Inhabited AVal:=⟨.nilptr⟩
def AVal.cells:AVal->List AVal
 |.agg cs=>cs
 |v=>[v]
inductive Cell where
 |val (v:AVal)
 |own (sz:Nat) (xs:List AVal)
inductive Slot where
 |dead
 |val (v:AVal)
 |tup (vs:List AVal)
 |own (sz:Nat) (xs:List AVal)
 |full (xs:List AVal)
 |nl
 |nn (xs:List AVal)
 |cells (cs:List Cell)
 |box (cs:List Cell)
 |ref (t off:Nat)
instance:Inhabited Slot:=⟨.dead⟩
structure AF where
 nt:Nat
 keep:List Nat
 loc:List Nat
 take:List (Nat×Nat)
 pure:List (Nat×Nat)
 heads:List (Nat×List (Nat×Option Nat))
 prim:Bool:=false
 thaw:List Nat:=[]
structure iA where
 fn:FuncId
 tm:List Slot
 params:Array Tmp
 assign:Code
 body:Code
 pend:Option Code
 state:LoopState
inductive AObj where
 |box (cs:List Cell)
 |map (es:List (AVal×AVal))
 |loop (l:iA)
 |frz (v:AVal)
structure AH where
 objs:List AObj
 lo:Nat
structure St where
 tm:List Slot
 sto:AH
structure RS where
 sc:List (Nat×Slot)
 sto:AH
inductive ARes where
 |ret (s:Slot)
 |pan (v:AVal)
inductive bI where
 |norm
 |exit (id:Nat)
 |ret
 |pan (v:AVal)
inductive Callee where
 |fn (f:FuncId)
 |yld (i:Nat)
def Cell.get:Cell->AVal
 |.val v=>v
 |.own _ xs=>.slice xs
abbrev aJ:=Callee->List Slot->AH->Option (ARes×AH)
abbrev aQ:=FuncId->Code->St->Option (bI×St)
abbrev fY:=FuncId->List Slot->Option (Option ARes)
section
variable {R:Type}
def DQ(s:Slot)(k:AVal->Option R):Option R :=
 match s with
 |.val v=>k v
 |.own _ xs=>k (.slice xs)
 |.full xs=>k (.slice xs)
 |.nl=>k (.slice [])
 |.nn xs=>k (.slice xs)
 |.cells cs=>k (.agg (cs.map Cell.get))
 |_=>none
def kL(s:Slot)(k:List AVal->Option R):Option R :=
 match s with
 |.val (.slice xs)=>k xs
 |.own _ xs=>k xs
 |.full xs=>k xs
 |.nl=>k []
 |.nn xs=>k xs
 |_=>none
def asInt(s:Slot)(k:IntKind->Int->Option R):Option R :=
 match s with
 |.val (.int kd n)=>k kd n
 |_=>none
def asBool(s:Slot)(k:Bool->Option R):Option R :=
 match s with
 |.val (.bool b)=>bif b then k true else k false
 |_=>none
def mv(s:Slot)(k:Slot->Option R):Option R :=
 match s with
 |.val v=>k (.val v)
 |.tup vs=>k (.tup vs)
 |.own _ xs=>k (.val (.slice xs))
 |.full xs=>k (.full xs)
 |.nl=>k .nl
 |.nn xs=>k (.nn xs)
 |.cells cs=>k (.val (.agg (cs.map Cell.get)))
 |.box _=>none
 |.ref t o=>k (.ref t o)
 |.dead=>none
def aL(b:Bool)(k:Option R):Option R:=bif b then k else none
def aP(P:Program)(t:TypeId):Option Nat:=(P.info? t).map (·.size)
def aC(P:Program)(t:TypeId):Nat:=((P.info? t).map (·.bytes)).getD 0
def aM(P:Program)(t:TypeId):Option Bool :=
 match P.underlying t with
 |some (.struct _)=>some true
 |some (.array _ _)=>some true
 |some _=>some false
 |none=>none
def aO(P:Program)(t:TypeId):Option TypeId :=
 match P.underlying t with
 |some (.slice e)=>some e
 |_=>none
def AD(P:Program)(t:TypeId)(f:Nat):Option (Nat×TypeId) :=
 match P.underlying t with
 |some (.struct fs)=>(fs[f]?).map λx=>(x.offset,x.type)
 |_=>none
def iL:Value->Option AVal
 |.bool b=>some (.bool b)
 |.int k n=>some (.int k n)
 |.string s=>some (.str s.data.toList)
 |.pointer none=>some .nilptr
 |.slice none 0 0=>some (.slice [])
 |.map none=>some .nilmap
 |.nilFunc=>some .nilfunc
 |.nilIface=>some .nilif
 |_=>none
def ep:List Value->Option (List AVal)
 |[]=>some []
 |v::vs=>(iL v).bind λa=>(ep vs).map (a::·)
def iM:Value->Option AVal
 |.agg cs=>(ep cs.toList).map .agg
 |v=>iL v
def hints(P:Program):Nat->TypeId->List (Option Nat)
 |0,_=>[]
 |d+1,t =>
  match P.underlying t with
  |some (.struct fs)=>fs.toList.flatMap λf=>hints P d f.type
  |some (.slice e)=>[aP P e]
  |some (.array n e)=>(List.replicate n (hints P d e)).flatten
  |_=>[none]
def aDb:Option Nat->AVal->Cell
 |some sz,.slice []=>.own sz []
 |_,v=>.val v
def eM:List (Option Nat)->List AVal->List Cell
 |h::hs,v::vs=>aDb h v::eM hs vs
 |_,vs=>vs.map .val
def zeroOf(P:Program)(t:TypeId):Option AVal:=((P.info? t).bind (·.zero)).bind iM
def zeroCells(P:Program)(t:TypeId):Option (List Cell):=(zeroOf P t).map λz=>eM (hints P 8 t) z.cells
def partOf(agg:Bool)(cs:List AVal)(off s:Nat):Option AVal :=
 if agg then(bif Nat.ble (off+s) cs.length then some (.agg ((cs.drop off).take s)) else none) else cs[off]?
def flatA:AVal->Bool
 |.loc _ _=>false
 |.amap _=>false
 |.yld _=>false
 |.func _ _=>false
 |.iface _ _=>false
 |.agg _=>false
 |_=>true
def flat:AVal->Bool
 |.loc _ _=>false
 |.amap _=>false
 |.yld _=>false
 |.func _ _=>false
 |.iface _ v=>flatA v
 |.agg _=>false
 |_=>true
def R0(t:TypeId)(f a:List UInt8)(b e:AVal):AVal:=.agg [.str f,.iface t (.cptr (.agg [.str a,b,.rc t f a b e])),e]
def clean(v:AVal):Bool:=v.cells.all flat
def ji(n:Nat):AVal->Bool
 |.loc i _=>Nat.blt i n
 |_=>false
def lokF(n:Nat):AVal->Bool
 |.loc i _=>Nat.blt i n
 |.amap i=>Nat.blt i n
 |.yld i=>Nat.blt i n
 |.agg _=>false
 |.func _ _=>false
 |.iface _ v=>clean v||ji n v
 |_=>true
def lok(n:Nat)(v:AVal):Bool :=
 match v with
 |.agg cs=>cs.all (lokF n)
 |.func _ caps=>caps.all (lokF n)
 |v=>lokF n v
def Cell.lok(n:Nat):Cell->Bool
 |.val v=>AM.lok n v
 |.own _ _=>true
def cF(n:Nat):Slot->Bool
 |.val v=>lok n v
 |.tup vs=>vs.all (lok n)
 |_=>true
def bU:List (Nat×Slot)->Nat->Option Slot
 |[],_=>none
 |(k,s)::r,t=>bif Nat.beq k t then some s else bU r t
def tlook:List Nat->List Slot->Nat->Slot
 |k::ks,s::ss,t=>bif Nat.beq k t then s else tlook ks ss t
 |_,_,_=>.dead
def RS.look(keep:List Nat)(tm:List Slot)(rs:RS)(t:Nat):Slot :=
 match bU rs.sc t with
 |some s=>s
 |none=>tlook keep tm t
def RS.put(rs:RS)(t:Nat)(s:Slot):RS:={ rs with sc:=(t,s)::rs.sc }
def RS.putO(rs:RS)(t:Option Nat)(s:Slot):RS :=
 match t with
 |some t=>rs.put t s
 |none=>rs
def gE(v:Value):Slot :=
 match v with
 |.slice none 0 0=>.nl
 |v=>match iM v with
  |some a=>.val a
  |none=>.dead
def l6(P:Program)(t:TypeId)(v:Value):Slot :=
 match v with
 |.slice none 0 0=>(match(aO P t).bind (aP P) with
  |some sz=>.own sz []
  |none=>.nl)
 |v=>gE v
def A6(keep:List Nat)(tm:List Slot)(rs:RS):Operand->Slot
 |.tmp t=>rs.look keep tm t
 |.const v=>gE v
 |.func f=>.val (.func f [])
 |.global _=>.dead
def kZ:Slot->Slot
 |.ref _ _=>.dead
 |s=>s
def commit:List Nat->List Slot->List (Nat×Slot)->List Slot
 |k::ks,s::ss,sc=>(match bU sc k with|some s'=>kZ s'|none=>s)::commit ks ss sc
 |_,_,_=>[]
inductive Place where
 |loc (t off:Nat)
 |obj (i off:Nat)
 |imm (x:AVal)
def cZ(x:Operand)(s:Slot)(k:Place->Option R):Option R :=
 match s with
 |.box _=>(match x with|.tmp t=>k (.loc t 0)|_=>none)
 |.ref t o=>k (.loc t o)
 |.val (.loc i o)=>k (.obj i o)
 |.val (.cptr x)=>k (.imm x)
 |.val (.rc t f a b e)=>k (.imm (R0 t f a b e))
 |_=>none
def oY(s:Slot)(k:List Cell->Option R):Option R :=
 match s with
 |.box cs=>k cs
 |_=>none
def oZ(o:Option AObj)(k:List Cell->Option R):Option R :=
 match o with
 |some (.box cs)=>k cs
 |_=>none
def aQP(o:Option AObj)(k:List (AVal×AVal)->Option R):Option R :=
 match o with
 |some (.map es)=>k es
 |_=>none
def aW(keep:List Nat)(tm:List Slot)(rs:RS)(p:Place)(k:List Cell->Nat->Option R):Option R :=
 match p with
 |.loc t o=>oY (rs.look keep tm t) λcs=>k cs o
 |.obj i o=>oZ rs.sto.objs[i]? λcs=>k cs o
 |.imm x=>k (x.cells.map .val) 0
def setCells(cs:List Cell)(off:Nat)(new:List Cell):List Cell:=cs.take off++new++cs.drop (off+new.length)
def bR(rs:RS)(p:Place)(cs:List Cell)(k:RS->Option R):Option R :=
 match p with
 |.loc t _=>k (rs.put t (.box cs))
 |.obj i _=>aL (Nat.ble rs.sto.lo i&&cs.all (Cell.lok (i+1))) (k { rs with sto:={ rs.sto with objs:=rs.sto.objs.set i (.box cs) } })
 |.imm _=>none
def gN(op:BinOp)(x y:AVal):Option AVal :=
 match x,y with
 |.int k a,.int k' b =>
  if k=k' then
   match op with
   |.add=>some (.int k (k.wrap (a+b)))
   |.sub=>some (.int k (k.wrap (a-b)))
   |.mul=>some (.int k (k.wrap (a*b)))
   |.rem=>if b=0 then none else some (.int k (a.tmod b))
   |.shl=>if b<0 then none else some (.int k (k.wrap (a*2^(min b.toNat k.bits))))
   |.eql=>some (.bool (a==b))
   |.neq=>some (.bool (a != b))
   |.lss=>some (.bool (a<b))
   |.leq=>some (.bool (a<=b))
   |.gtr=>some (.bool (a>b))
   |.geq=>some (.bool (a>=b))
   |_=>none
  else none
 |.str a,.str b =>
  match op with
  |.eql=>some (.bool (a==b))
  |.neq=>some (.bool (!(a==b)))
  |_=>none
 |.bool a,.bool b =>
  match op with
  |.eql=>some (.bool (a==b))
  |.neq=>some (.bool (!(a==b)))
  |_=>none
 |.nilif,.nilif=>none
 |.nilif,.iface _ _ =>
  match op with
  |.eql=>some (.bool false)
  |.neq=>some (.bool true)
  |_=>none
 |.iface _ _,.nilif =>
  match op with
  |.eql=>some (.bool false)
  |.neq=>some (.bool true)
  |_=>none
 |.nilptr,.nilptr =>
  match op with
  |.eql=>some (.bool true)
  |.neq=>some (.bool false)
  |_=>none
 |.cptr _,.nilptr =>
  match op with
  |.eql=>some (.bool false)
  |.neq=>some (.bool true)
  |_=>none
 |.rc _ _ _ _ _,.nilptr =>
  match op with
  |.eql=>some (.bool false)
  |.neq=>some (.bool true)
  |_=>none
 |.loc _ _,.nilptr =>
  match op with
  |.eql=>some (.bool false)
  |.neq=>some (.bool true)
  |_=>none
 |_,_=>none
def e7(P:Program)(t:TypeId):Bool:=match P.underlying t with|some (.slice _)=>true|_=>false
def pM(P:Program)(t:TypeId):Bool:=match P.underlying t with|some (.interface _)=>true|_=>false
def br(P:Program)(t:TypeId):Bool:=match P.underlying t with|some .bool=>true|_=>false
def rG(P:Program)(t:TypeId):Bool:=match P.underlying t with|some (.pointer _)=>true|_=>false
def gP(P:Program)(t:TypeId):AVal->Bool
 |.int _ _=>true
 |.str _=>true
 |.bool _=>br P t
 |.nilif=>pM P t
 |.iface _ _=>pM P t
 |.nilptr=>rG P t
 |.cptr _=>rG P t
 |.loc _ _=>rG P t
 |.rc _ _ _ _ _=>rG P t
 |_=>false
def cN(s:Slot):Option Bool :=
 match s with
 |.nl=>some true
 |.nn _=>some false
 |.own _ (_::_)=>some false
 |.full (_::_)=>some false
 |.val (.slice (_::_))=>some false
 |_=>none
def dP:Operand->Bool
 |.const (.slice none _ _)=>true
 |_=>false
def isNilIface:Operand->Bool
 |.const .nilIface=>true
 |_=>false
def isKey:AVal->Bool
 |.str _=>true
 |.int _ _=>true
 |_=>false
def eY(place:Nat->Option (Nat×Nat))(cs:List Cell):List (Nat×AVal)->Option (List Cell)
 |[]=>some cs
 |(i,v)::rest=>(place i).bind λp=>bif Nat.beq v.cells.length p.2&&Nat.ble (p.1+p.2) cs.length then eY place (cs.take p.1++v.cells.map .val++cs.drop (p.1+v.cells.length)) rest else none
def dJ(keep:List Nat)(tm:List Slot)(rs:RS)(x:Operand)(k:List Cell->RS->Option R):Option R :=
 match A6 keep tm rs x,x with
 |.own sz xs,.tmp t=>(match keep.contains t with
  |true=>k [.val (.slice xs)] rs
  |false=>k [.own sz xs] (rs.put t (.val (.slice xs))))
 |.own sz [],.const _=>k [.own sz []] rs
 |.cells cs,.tmp t=>(match keep.contains t with
  |true=>k (cs.map λc=>.val c.get) rs
  |false=>k cs (rs.put t (.val (.agg (cs.map Cell.get)))))
 |s,_=>DQ s λv=>k (v.cells.map .val) rs
def eH(P:Program)(t:TypeId)(keep:List Nat)(tm:List Slot)(rs:RS)(x:Operand)(k:List Cell->RS->Option R):Option R :=
 match A6 keep tm rs x with
 |.nl=>(aO P t).bind λe=>(aP P e).bind λsz=>k [.own sz []] rs
 |_=>dJ keep tm rs x k
def gF(keep:List Nat)(tm:List Slot)(rs:RS)(ps:List (Nat×Operand))(k:List (Nat×AVal)->Option R):Option R :=
 match ps with
 |[]=>k []
 |(i,x)::r=>DQ (A6 keep tm rs x) λv=>gF keep tm rs r λl=>k ((i,v)::l)
def b9(s:Nat)(xs:List AVal):List (Nat×AVal)->Option (List AVal)
 |[]=>some xs
 |(i,v)::r=>bif Nat.beq v.cells.length s&&Nat.blt i xs.length&&clean v then b9 s (xs.set i v) r else none
def lI(keep:List Nat)(tm:List Slot)(rs:RS)(i:Nat)(xs:List Operand)(k:List Slot->RS->Option R):Option R :=
 match xs with
 |[]=>k [] rs
 |x::r=>DQ (A6 keep tm rs x) λv=>lI keep tm rs (i+1) r λl AX=>k (.val v::l) AX
def lZ(keep:List Nat)(tm:List Slot)(rs:RS)(xs:List Operand)(k:List AVal->Option R):Option R :=
 match xs with
 |[]=>k []
 |x::r=>DQ (A6 keep tm rs x) λv=>lZ keep tm rs r λl=>k (v::l)
def room:Nat:=4294967296
def bh(sz:Nat):List AVal->Bool
 |[]=>true
 |x::_=>Nat.beq x.cells.length sz
def e9(sz:Nat)(full:Bool)(xs:List AVal)(l h:Int)(k:Slot->Option R):Option R :=
 aL (decide (0<=l)&&decide (l<=h)&&decide (h<=(xs.length:Int))&&bh sz ((xs.take h.toNat).drop l.toNat))
  (k (if full then .full ((xs.take h.toNat).drop l.toNat) else .val (.slice ((xs.take h.toNat).drop l.toNat))))
def iY(keep:List Nat)(tm:List Slot)(rs:RS)(x:Option Operand)(d:Int)(k:Int->Option R):Option R :=
 match x with
 |none=>k d
 |some x=>asInt (A6 keep tm rs x) λ_ n=>k n
def wF:Slot->Bool
 |.ref _ _=>false
 |_=>true
def cR(AA:Bool)(cf:aJ)(c:Callee)(args:List Slot)(rs:RS)(kp:AVal->RS->Option R)(k:Slot->RS->Option R):Option R :=
 match AA with
 |false=>(cf c args rs.sto).bind λr =>
  match r with
  |(.ret s,sto)=>aL (wF s) (k s { rs with sto:=sto })
  |(.pan v,sto)=>kp v { rs with sto:=sto }
 |true=>(cf c args { rs.sto with lo:=rs.sto.objs.length }).bind λr =>
  match r with
  |(.ret s,_)=>aL (cF rs.sto.objs.length s&&wF s) (k s rs)
  |(.pan _,_)=>none
def fV(imm:Bool)(p:Place)(k:Option R):Option R :=
 match imm with
 |false=>k
 |true=>match p with
  |.imm _=>k
  |_=>none
def lQ(c:Cell):Bool:=flat c.get&&(match c.get with|.nilif=>false|_=>true)
def N8(P:Program)(name:String)(t:Nat):Option FuncId :=
 (P.info? t).bind λi=>(i.methods.find? (·.name==name)).bind λm=>(P.underlying t).bind λu=>m.func.bind λfp=>match m.path.isEmpty,u,fp.2 with
  |true,.pointer _,true=>some fp.1
  |true,.pointer _,false=>none
  |true,_,false=>some fp.1
  |_,_,_=>none
def ov(P:Program)(t:TypeId)(keep:List Nat)(tm:List Slot)(rs:RS)(a x:Operand)(k:RS->Option R):Option R :=
 match A6 keep tm rs a,A6 keep tm rs x with
 |.val (.loc i 1),.val (.iface ty (.loc j 0)) =>
  match rs.sto.objs[i]?,rs.sto.objs[j]? with
  |some (.box [.val (.str f),.val .nilif,.val e]),some (.box [.val (.str g),.val b,.val (.loc i' 0)]) =>
   (aP P t).bind λs=>aL (Nat.beq s 1&&Nat.beq i i'&&Nat.blt i j&&Nat.ble rs.sto.lo i&&flat e&&flat b)
    (k { rs with sto:={ rs.sto with objs:=(rs.sto.objs.set i (.frz (.rc ty f g b e))).set j (.frz (.cptr (.agg [.str g,b,.rc ty f g b e]))) } })
  |_,_=>none
 |_,_=>none
def eG(loc:List Nat)(ops:List Oper):Nat->Operand->List Nat
 |0,_=>[]
 |n+1,.tmp t=>if loc.contains t then[t] else ops.flatMap λo=>if o.dst==some t then(match o.op with
  |.fieldAddr _ x _=>eG loc ops n x
  |.indexAddr _ x _=>eG loc ops n x
  |.nilCheck x=>eG loc ops n x
  |_=>[]) else[]
 |_,_=>[]
def addrOf(o:Oper):Operand :=
 match o.op with
 |.load _ a=>a
 |.store _ a _=>a
 |_=>.global 0
def bM(drawn:Bool)(Qj:List Nat)(p:Place)(k:Option R):Option R :=
 match drawn with
 |false=>k
 |true=>match p with
  |.loc u _=>aL (Qj.contains u) k
  |_=>aL Qj.isEmpty k
def GU(P:Program)(an:AF)(tm:List Slot)(tk:Bool)(ty:TypeId)(x:Operand)(rs:RS)(k:Slot->RS->Option R):Option R :=
 match x with
 |.tmp t=>(match A6 an.keep tm rs x with
  |.own sz xs=>(match tk||!an.keep.contains t with
   |true=>k (.own sz xs) (rs.put t (.val (.slice xs)))
   |false=>k (.val (.slice xs)) rs)
  |.cells cs=>(match tk||!an.keep.contains t with
   |true=>k (.cells cs) (rs.put t (.val (.agg (cs.map Cell.get))))
   |false=>k (.val (.agg (cs.map Cell.get))) rs)
  |s=>mv s λs'=>k s' rs)
 |.const v=>(match l6 P ty v with
  |.dead=>none
  |s=>k s rs)
 |x=>mv (A6 an.keep tm rs x) λs'=>k s' rs
def aB(P:Program)(ans:FuncId->AF)(an:AF)(drawn AA:Bool)(D1:List Nat)(cf:aJ)(tm:List Slot)(tk:Bool)(o:Oper)(rs:RS)(kp:AVal->RS->Option R)(k:Slot->RS->Option R):Option R :=
 let S:=A6 an.keep tm rs
 match o.op with
 |.move x=>GU P an tm tk o.type x rs k
 |.assign x=>GU P an tm tk o.type x rs k
 |.pick c a b=>asBool (S c) λt=>mv (S (match t with|true=>a|false=>b)) λs'=>k s' rs
 |.alloc t =>
  (zeroCells P t).bind λz=>(aP P t).bind λs=>aL (Nat.beq z.length s) (
   match o.dst with
   |some d=>match an.loc.contains d with
    |true=>k (.box z) rs
    |false=>k (.val (.loc rs.sto.objs.length 0)) { rs with sto:={ rs.sto with objs:=rs.sto.objs++[.box z] } }
   |none=>none)
 |.box t x =>
  eH P t an.keep tm rs x λv rs=>(aP P t).bind λs=>aL (Nat.beq v.length s) (
   match o.dst with
   |some d=>match an.loc.contains d with
    |true=>k (.box v) rs
    |false=>match tk&&v.all lQ with
     |true=>k (.val (.cptr (.agg (v.map Cell.get)))) rs
     |false=>aL (!(drawn&&tk)&&v.all (Cell.lok rs.sto.objs.length)) (k (.val (.loc rs.sto.objs.length 0)) { rs with sto:={ rs.sto with objs:=rs.sto.objs++[.box v] } })
   |none=>none)
 |.build t parts =>
  (zeroCells P t).bind λz =>
  match P.underlying t with
  |some (.struct fs)=>gF an.keep tm rs parts.toList λl =>
   (fs.toList.mapM λf=>(P.info? f.type).map λi=>(f.offset,i.size)).bind λplaces=>(eY (places[·]?) z l).bind λcs=>k (.cells cs) rs
  |some (.array _ e)=>gF an.keep tm rs parts.toList λl =>
   (aP P e).bind λs=>(eY (λi=>some (i*s,s)) z l).bind λcs=>k (.cells cs) rs
  |_=>none
 |.buildSlice t len parts =>
  (aO P t).bind λe=>(aP P e).bind λs=>aL (Nat.blt 0 s&&Nat.ble (len*s) 16777216) (gF an.keep tm rs parts.toList λl =>
   (zeroOf P e).bind λz=>aL (Nat.beq z.cells.length s&&clean z) ((b9 s (List.replicate len z) l).bind λxs=>k (.full xs) rs))
 |.load t a =>
  cZ a (S a) λp=>bM drawn D1 p <| fV AA p <| aW an.keep tm rs p λcs off=>(aP P t).bind λs=>(aM P t).bind λagg =>
   match agg with
   |true=>(partOf true (cs.map Cell.get) off s).bind λv=>k (.val v) rs
   |false=>aL (Nat.beq s 1) (match tk,cs[off]? with
    |true,some (.own sz xs)=>bR rs p (cs.set off (.val (.slice xs))) λAX=>k (.own sz xs) AX
    |_,c=>c.bind λc=>k (.val c.get) rs)
 |.store t a x =>
  match tk with
  |true=>aL (!drawn||D1.isEmpty) (ov P t an.keep tm rs a x λAX=>k .dead AX)
  |false=>cZ a (S a) λp=>bM drawn D1 p <| aW an.keep tm rs p λcs off=>(aP P t).bind λs =>
   dJ an.keep tm rs x λv rs=>aL (Nat.beq v.length s&&Nat.ble (off+s) cs.length) (bR rs p (setCells cs off v) λAX=>k .dead AX)
 |.nilCheck x =>
  match S x with
  |.box _=>(match x with|.tmp t=>k (.ref t 0) rs|_=>none)
  |.ref t o=>k (.ref t o) rs
  |.val (.loc i o)=>k (.val (.loc i o)) rs
  |.val (.cptr v)=>k (.val (.cptr v)) rs
  |.val (.rc t f a b e)=>k (.val (.rc t f a b e)) rs
  |.val (.func f cs)=>k (.val (.func f cs)) rs
  |_=>none
 |.binOp op ty x y _ =>
  match op,dP y with
  |.eql,true=>aL (e7 P ty) ((cN (S x)).bind λb=>k (.val (.bool b)) rs)
  |.neq,true=>aL (e7 P ty) ((cN (S x)).bind λb=>k (.val (.bool (!b))) rs)
  |_,_ =>
   match op,isNilIface y,S x with
   |.eql,true,.val .nilif=>aL (pM P ty) (k (.val (.bool true)) rs)
   |.neq,true,.val .nilif=>aL (pM P ty) (k (.val (.bool false)) rs)
   |_,_,sx=>DQ sx λa=>DQ (S y) λb=>aL (gP P ty a) ((gN op a b).bind λv=>k (.val v) rs)
 |.unOp op _ x =>
  match op,S x with
  |.not,.val (.bool b)=>k (.val (.bool (!b))) rs
  |_,_=>none
 |.fieldAddr t x f =>
  (AD P t f).bind λot=>(aP P ot.2).bind λs=>aL (Nat.blt 0 s) (cZ x (S x) λp =>
   match p with
   |.loc t o=>k (.ref t (o+ot.1)) rs
   |.obj i o=>k (.val (.loc i (o+ot.1))) rs
   |.imm v=>(aM P ot.2).bind λagg=>(partOf agg v.cells ot.1 s).bind λu=>k (.val (.cptr u)) rs)
 |.indexAddr t x ix =>
  match P.underlying t with
  |some (.slice e)=>kL (S x) λxs=>asInt (S ix) λ_ n=>(aP P e).bind λs=>aL (decide (0<=n)) ((xs[n.toNat]?).bind λv=>aL (Nat.beq v.cells.length s) (k (.val (.cptr v)) rs))
  |some (.array len e)=>cZ x (S x) λp=>asInt (S ix) λ_ n=>(aP P e).bind λs=>aL (decide (0<=n)&&decide (n<len)) (
   match p with
   |.loc t o=>k (.ref t (o+n.toNat * s)) rs
   |.obj i o=>k (.val (.loc i (o+n.toNat * s))) rs
   |.imm v=>(aM P e).bind λagg=>(partOf agg v.cells (n.toNat * s) s).bind λu=>k (.val (.cptr u)) rs)
  |_=>none
 |.slice t x lo hi mx =>
  match P.underlying t with
  |some .string=>(match S x,mx with
   |.val (.str s),none=>iY an.keep tm rs lo 0 λl=>iY an.keep tm rs hi s.length λh =>
    aL (decide (0<=l)&&decide (l<=h)&&decide (h<=(s.length:Int))) (k (.val (.str ((s.take h.toNat).drop l.toNat))) rs)
   |_,_=>none)
  |some (.slice e)=>(aP P e).bind λsz=>kL (S x) λxs=>iY an.keep tm rs lo 0 λl=>iY an.keep tm rs hi xs.length λh =>
   match mx with
   |none=>e9 sz false xs l h λs=>k s rs
   |some m=>asInt (A6 an.keep tm rs m) λ_ m=>aL (decide (m=h)) (match hi with
    |some _=>e9 sz true xs l h λs=>k s rs
    |none=>none)
  |_=>none
 |.makeInterface t x =>
  match P.underlying t with
  |some (.interface _)=>none
  |some _=>DQ (S x) λv=>k (.val (.iface t v)) rs
  |none=>none
 |.makeFunc fn first caps =>
  match fn,first.toList with
  |.func f,[]=>lZ an.keep tm rs caps.toList λl=>k (.val (.func f l)) rs
  |_,_=>none
 |.typeAssert x _ t ok =>
  match P.underlying t with
  |some (.interface _)=>none
  |some _=>(zeroOf P t).bind λz =>
   match S x with
   |.val .nilif=>aL ok (k (.tup [z,.bool false]) rs)
   |.val (.iface u v)=>(match Nat.beq u t with
    |true=>(match ok with
     |true=>k (.tup [v,.bool true]) rs
     |false=>k (.val v) rs)
    |false=>aL ok (k (.tup [z,.bool false]) rs))
   |_=>none
  |none=>none
 |.extract t ix =>
  match S t with
  |.tup vs=>(vs[ix]?).bind λv=>k (.val v) rs
  |_=>none
 |.panic x =>
  match drawn,S x with
  |false,.val (.iface t v)=>kp (.iface t v) rs
  |_,_=>none
 |.call c =>
  match c.callee,c.args.toList with
  |.builtin .len,[x]=>(match(c.argTypes[0]?).bind P.underlying with
   |some .string=>(match S x with|.val (.str s)=>k (.val (.int .i64 s.length)) rs|_=>none)
   |some (.slice _)=>kL (S x) λxs=>k (.val (.int .i64 xs.length)) rs
   |some (.array n _)=>k (.val (.int .i64 n)) rs
   |_=>none)
  |.builtin .append,[s,x]=>(match(c.argTypes[0]?).bind (aO P),(c.argTypes[1]?).bind (aO P) with
   |some e,some _=>(aP P e).bind λsz=>(zeroOf P e).bind λz=>kL (S x) λys=>aL (Nat.blt 0 sz&&Nat.beq z.cells.length sz&&Nat.ble (aC P e) 16384&&Nat.blt 0 (aC P e)&&ys.all (λy=>Nat.beq y.cells.length sz)) (match S s,s with
    |.own GG xs,.tmp t=>aL (Nat.beq sz GG&&Nat.ble (xs.length+ys.length) room) (k (.own sz (xs++ys)) (rs.put t (.val (.slice xs))))
    |.full xs,_=>aL (xs.all (λy=>Nat.beq y.cells.length sz)&&Nat.ble (xs.length+ys.length) room&&(xs.isEmpty||!ys.isEmpty)) (k (.own sz (xs++ys)) rs)
    |.nl,_=>aL (Nat.ble ys.length room) (k (.own sz ys) rs)
    |_,_=>none)
   |_,_=>none)
  |.builtin .max,[x,y]=>asInt (S x) λkd n=>asInt (S y) λ_ m=>k (.val (.int kd (bif decide (m>n) then m else n))) rs
  |.value f,args=>(match S f with
   |.val (.func g caps)=>lI an.keep tm rs 0 args λl AX=>cR AA cf (.fn g) (l++caps.map .val) AX kp k
   |.val (.yld i)=>lI an.keep tm rs 0 args λl AX=>cR AA cf (.yld i) l AX kp k
   |_=>none)
  |.invoke r m,args=>(match S r with
   |.val (.iface u v)=>(N8 P m u).bind λf=>lZ an.keep tm rs args λl=>cR AA cf (.fn f) ((v::l).map .val) rs kp k
   |_=>none)
  |_,_=>none
 |_=>none
def noRefTo(d:Nat)(sc:List (Nat×Slot)):Bool:=sc.all λp=>match bU sc p.1 with|some (.ref t _)=>!Nat.beq t d|_=>true
def dQ(an:AF)(o:Oper)(s:Slot)(rs:RS):Bool :=
 match o.dst with
 |none=>true
 |some d=>Nat.blt d an.nt&&(match s with|.ref t _=>!Nat.beq t d|_=>true)&&(!an.loc.contains d||noRefTo d rs.sc)
def oL(s:Slot)(k:Bool->Option R)(skip:Option R):Option R:=match s with
 |.val (.bool b)=>k b
 |.tup []=>skip
 |_=>none
def iX(P:Program)(ans:FuncId->AF)(an:AF)(drawn:Bool)(cf:aJ)(tm:List Slot)(rid:Nat)(ops:Array Oper)(kp:AVal->RS->Option R)(o:Oper)(i:Nat)(rs:RS)(next:RS->Option R):Option R :=
 let go (rs:RS):Option R:=aB P ans an drawn (an.pure.contains (rid,i)) (match drawn with|true=>eG an.loc ops.toList ops.size (addrOf o)|false=>[]) cf tm (an.take.contains (rid,i)) o rs kp λs AX=>aL (dQ an o s AX) (next (AX.putO o.dst s))
 match o.guard with
 |none=>go rs
 |some (j,want) =>
  match(ops[j]?).bind (·.dst) with
  |none=>none
  |some d=>oL (rs.look an.keep tm d) (λb=>match b==want with
   |true=>go (rs.put d (.val (.bool b)))
   |false=>aL (dQ an o .dead rs) (next ((rs.put d (.val (.bool b))).putO o.dst (.tup [])))) (aL (dQ an o .dead rs) (next (rs.putO o.dst (.tup []))))
def jI(P:Program)(ans:FuncId->AF)(an:AF)(drawn:Bool)(cf:aJ)(tm:List Slot)(rid:Nat)(ops:Array Oper)(kp:AVal->RS->Option R)(kn:RS->Option R):List Oper->Nat->RS->Option R
 |[],_,rs=>kn rs
 |o::os,i,rs=>iX P ans an drawn cf tm rid ops kp o i rs λAX=>jI P ans an drawn cf tm rid ops kp kn os (i+1) AX
inductive Cls where
 |p|r|c|t|w|x
def cI(ans:FuncId->AF)(loc:List Nat)(ops:Array Oper)(pure tk:Bool)(o:Oper):Cls :=
 match o.op with
 |.move _|.assign _|.pick ..|.build ..|.buildSlice ..|.nilCheck _|.binOp ..|.unOp ..|.convert ..|.fieldAddr ..|.field ..|.indexAddr ..|.index ..|.slice ..|.makeInterface ..|.makeFunc ..|.extract ..=>.p
 |.alloc _=>(match o.dst with|some d=>if loc.contains d then .p else .w|none=>.x)
 |.box ..=>(match o.dst with|some d=>if loc.contains d||tk then .p else .w|none=>.x)
 |.load _ a=>(match pure,eG loc ops.toList ops.size a,tk with
  |true,_,_=>.p
  |_,_::_,_=>.p
  |_,[],true=>.t
  |_,[],false=>.r)
 |.store _ a _=>(match eG loc ops.toList ops.size a with|_::_=>.p|[]=>.w)
 |.lookup ..=>.r
 |.mapUpdate ..|.makeMap ..=>.w
 |.call c=>(match c.callee with
  |.builtin .append=>.p
  |.builtin .len=>.r
  |.builtin .max=>.p
  |.builtin .min=>.p
  |.value f=>(match pure,f with
   |true,.func g=>if(ans g).prim then .p else .c
   |true,_=>.c
   |false,_=>.w)
  |_=>.x)
 |_=>.x
def Cls.clash:Cls->Cls->Bool
 |.x,_=>true
 |_,.x=>true
 |.p,_=>false
 |_,.p=>false
 |.w,_=>true
 |_,.w=>true
 |.t,.t=>true
 |.t,.c=>true
 |.c,.t=>true
 |_,_=>false
def F3(ops:Array Oper)(o:Oper):List Nat :=
 (o.op.operands.toList.filterMap fun|.tmp t=>some t|_=>none)++(match o.guard with|some (j,_)=>((ops[j]?).bind (·.dst)).toList|none=>[])
def cons(keep:List Nat)(tk:Bool)(o:Oper):List Nat :=
 match o.op with
 |.call c=>(match c.callee with
  |.builtin .append=>(c.args.toList.filterMap fun|.tmp t=>some t|_=>none)
  |.value _=>(c.args.toList.filterMap fun|.tmp t=>some t|_=>none)
  |_=>[])
 |.move (.tmp t)=>if tk||!keep.contains t then[t] else[]
 |.assign (.tmp t)=>if tk||!keep.contains t then[t] else[]
 |.store _ _ (.tmp t)=>if !keep.contains t then[t] else[]
 |.box _ (.tmp t)=>if !keep.contains t then[t] else[]
 |_=>[]
def IK(loc:List Nat)(ops:Array Oper)(o:Oper):List Nat :=
 match o.op with
 |.load _ a=>eG loc ops.toList ops.size a
 |.store _ a _=>eG loc ops.toList ops.size a
 |_=>[]
def Ho(loc:List Nat)(ops:Array Oper)(o:Oper):List Nat :=
 match o.op with
 |.store _ a _=>eG loc ops.toList ops.size a
 |_=>[]
def G6(loc:List Nat)(ops:Array Oper)(tk:Bool)(o:Oper):List Nat :=
 match o.op with
 |.load _ a=>if tk then eG loc ops.toList ops.size a else[]
 |_=>[]
def meets(l m:List Nat):Bool:=l.any λt=>m.contains t
def mX(keep loc:List Nat)(ops:Array Oper)(ta tb:Bool)(a b:Oper):Bool :=
 meets (a.dst.toList++cons keep ta a) (F3 ops b++IK loc ops b++b.dst.toList++cons keep tb b)||meets (Ho loc ops a) (IK loc ops b)||meets (G6 loc ops ta a) (G6 loc ops tb b++Ho loc ops b)
def eF(o:Oper):Option Nat :=
 match o.op with
 |.nilCheck (.tmp t)=>some t
 |.fieldAddr _ (.tmp t) _=>some t
 |.indexAddr _ (.tmp t) _=>some t
 |_=>none
def oI(ans:FuncId->AF)(an:AF)(rid:Nat)(ops:Array Oper):Bool :=
 let bf:=Region.before ops
 let n:=ops.size
 (List.range n).all λj=>(List.range j).all λi =>
  match ops[i]?,ops[j]? with
  |some a,some b =>
   let ta:=an.take.contains (rid,i)
   let tb:=an.take.contains (rid,j)
   (bf.getD j 0).testBit i||!((cI ans an.loc ops (an.pure.contains (rid,i)) ta a).clash (cI ans an.loc ops (an.pure.contains (rid,j)) tb b)||mX an.keep an.loc ops ta tb a b||mX an.keep an.loc ops tb ta b a)
  |_,_=>false
def Lt(ans:FuncId->AF)(an:AF)(rid:Nat)(ops:Array Oper):Bool :=
 (List.range ops.size).all λi=>match ops[i]? with
  |some a=>(match cI ans an.loc ops (an.pure.contains (rid,i)) (an.take.contains (rid,i)) a with|.x=>false|_=>true)&&!meets a.dst.toList (F3 ops a)&&a.after.all (λe=>!Region.binds .any e||Nat.blt e.on i) &&
   (match a.dst with|some d=>!an.loc.contains d||ops.all (λo=>match eF o with|some t=>!Nat.beq t d|none=>true)|none=>true)
  |none=>false
def eZ:Code->Option Nat
 |.region id _ _=>some id
 |.seq a b=>match eZ a with|some i=>some i|none=>eZ b
 |.cond _ a b=>match eZ a with|some i=>some i|none=>eZ b
 |.block _ c=>eZ c
 |.loop c=>eZ c
 |.rangeFunc _ _ a b=>match eZ a with|some i=>some i|none=>eZ b
 |.scope c=>eZ c
 |_=>none
def mC(c:Option (Option Nat))(s:Slot):Slot :=
 match c with
 |none=>.dead
 |some none=>s
 |some (some sz)=>match s with
  |.nl=>.own sz []
  |s=>s
def Vi:List (Nat×Option Nat)->Nat->Option (Option Nat)
 |[],_=>none
 |(k,c)::r,t=>bif Nat.beq k t then some c else Vi r t
def gG(h:List (Nat×Option Nat)):List Nat->List Slot->List Slot
 |k::ks,s::ss=>mC (Vi h k) s::gG h ks ss
 |_,_=>[]
def aCH:List (Nat×List (Nat×Option Nat))->Nat->Option (List (Nat×Option Nat))
 |[],_=>none
 |(k,h)::r,t=>bif Nat.beq k t then some h else aCH r t
def gZ(objs:List AObj)(s:Slot):Slot :=
 match s with
 |.val (.loc i o)=>bif Nat.beq o 0 then(match objs[i]? with
  |some (.frz v)=>.val v
  |_=>s) else s
 |s=>s
def dU(objs:List AObj)(l:List Nat):List Nat->List Slot->List Slot
 |k::ks,s::ss=>(bif l.contains k then gZ objs s else s)::dU objs l ks ss
 |_,_=>[]
def mY(an:AF)(c:Code)(st:St):St :=
 match(eZ c).bind (aCH an.heads) with
 |some h=>{ st with tm:=gG h an.keep st.tm }
 |none=>st
def eV(an:AF)(c:Code)(st:St):St :=
 match an.thaw with
 |[]=>mY an c st
 |l=>mY an c { st with tm:=dU st.sto.objs l an.keep st.tm }
def dO:Slot->Slot
 |.val v=>.val v
 |.full xs=>.full xs
 |.nl=>.nl
 |.nn xs=>.nn xs
 |.own _ xs=>.val (.slice xs)
 |.cells cs=>.val (.agg (cs.map Cell.get))
 |_=>.dead
def dB(keep:List Nat)(tm:List Slot)(ps:List (Nat×Slot)):List Slot:=commit keep tm ps.reverse
def XK(P:Program)(ans:FuncId->AF)(cf:aJ)(lp:aQ)(fid:FuncId):Code->St->(bI->St->Option R)->Option R
 |.skip,st,K=>K .norm st
 |.label _,st,K=>K .norm st
 |.seq a b,st,K=>XK P ans cf lp fid a st λe AY =>
  match e with
  |.norm=>XK P ans cf lp fid b AY K
  |.exit id=>K (.exit id) AY
  |.ret=>K .ret AY
  |.pan v=>K (.pan v) AY
 |.cond c a b,st,K=>asBool (A6 (ans fid).keep st.tm ⟨[],st.sto⟩ c) λt =>
  match t with
  |true=>XK P ans cf lp fid a st K
  |false=>XK P ans cf lp fid b st K
 |.block id c,st,K=>XK P ans cf lp fid c st λe AY =>
  match e with
  |.norm=>K .norm AY
  |.exit C6=>(bif Nat.beq C6 id then K .norm AY else K (.exit C6) AY)
  |.ret=>K .ret AY
  |.pan v=>K (.pan v) AY
 |.scope c,st,K=>XK P ans cf lp fid c st K
 |.exit id,st,K=>K (.exit id) st
 |.ret,st,K=>K .ret st
 |.region id ops false,st,K=>jI P ans (ans fid) false cf st.tm id ops (λv rs=>K (.pan v) ⟨st.tm,rs.sto⟩) (λrs=>K .norm ⟨commit (ans fid).keep st.tm rs.sc,rs.sto⟩) ops.toList 0 ⟨[],st.sto⟩
 |.region id ops true,st,K =>
   aL (oI ans (ans fid) id ops&&Lt ans (ans fid) id ops) (jI P ans (ans fid) true cf st.tm id ops (λ_ _=>none) (λrs=>K .norm ⟨commit (ans fid).keep st.tm rs.sc,rs.sto⟩) ops.toList 0 ⟨[],st.sto⟩)
 |.loop c,st,K=>(lp fid c (eV (ans fid) c st)).bind λp=>K p.1 p.2
 |.rangeFunc f params assign body,st,K =>
  match A6 (ans fid).keep st.tm ⟨[],st.sto⟩ f with
  |.val (.func g caps) =>
   (cf (.fn g) (.val (.yld st.sto.objs.length)::caps.map .val)
    { st.sto with objs:=st.sto.objs++[.loop ⟨fid,st.tm.map dO,params,assign,body,none,.ready⟩] }).bind λr =>
   match r with
   |(.pan v,sto)=>K (.pan v) { st with sto:=sto }
   |(.ret _,sto) =>
    match sto.objs[st.sto.objs.length]? with
    |some (.loop l) =>
     match l.state,l.pend with
     |.ready,none=>K .norm { st with sto:={ sto with objs:=sto.objs.take st.sto.objs.length } }
     |.done,some .ret=>K .ret { st with sto:={ sto with objs:=sto.objs.take st.sto.objs.length } }
     |.done,some (.exit id)=>K (.exit id) { st with sto:={ sto with objs:=sto.objs.take st.sto.objs.length } }
     |_,_=>none
    |_=>none
  |_=>none
 |_,_,_=>none
def bZ:Code->Bool
 |.seq a b=>bZ a&&bZ b
 |.cond _ a b=>bZ a&&bZ b
 |.block _ c=>bZ c
 |.loop c=>bZ c
 |.scope c=>bZ c
 |.rangeFunc ..=>false
 |_=>true
def setLoop(sto:AH)(i:Nat)(l:iA):AH:={ sto with objs:=sto.objs.set i (.loop l) }
def c8(sto:AH)(i:Nat)(k:iA->Option R):Option R :=
 match sto.objs[i]? with
 |some (.loop l)=>k l
 |_=>none
def cut(n:Nat)(sto:AH):AH:={ sto with objs:=sto.objs.take n }
def Slot.isVal:Slot->Bool
 |.val _=>true
 |_=>false
def fL(P:Program)(an:AF)(tm:List Slot)(rs:List ResultVar)(sto:AH)(k:List AVal->Option R):Option R :=
 match rs with
 |[]=>k []
 |.tmp t::r=>DQ (tlook an.keep tm t) λv=>fL P an tm r sto λl=>k (v::l)
 |.cell a t::r=>cZ (.tmp a) (tlook an.keep tm a) λp=>aW an.keep tm ⟨[],sto⟩ p λcs off=>(aP P t).bind λs=>(aM P t).bind λagg =>
  aL (agg||Nat.beq s 1) ((partOf agg (cs.map Cell.get) off s).bind λv=>fL P an tm r sto λl=>k (v::l))
end
def trim(n:Nat)(s:Slot)(sto:AH):AH:=bif cF n s then{ sto with objs:=sto.objs.take n } else sto
def finish(P:Program)(an:AF)(fn:Func)(n:Nat)(st:St):Option (ARes×AH) :=
  fL P an st.tm fn.results.toList st.sto λvs =>
   match vs with
   |[v]=>some (.ret (.val v),trim n (.val v) st.sto)
   |vs=>some (.ret (.tup vs),trim n (.tup vs) st.sto)
def cy:ARes->Option Slot
 |.ret s=>aL (cF 0 s) (some s)
 |.pan _=>none
def cD(P:Program)(ans:FuncId->AF)(pr:fY)(cf:aJ)(lp:aQ):aJ
 |.fn f,args,sto =>
  match pr f args with
  |some r=>(r.bind cy).map λs=>(.ret s,sto)
  |none=>bif (ans f).prim then none else
   match P.funcs[f]? with
   |none=>none
   |some fn =>
    match fn.body with
    |none=>none
    |some c=>aL (Nat.beq fn.ntmps (ans f).nt&&Nat.ble args.length fn.ntmps) <| XK P ans cf lp f c ⟨(ans f).keep.map λt=>(args[t]?).getD .dead,sto⟩ λe st =>
     match e with
     |.norm=>finish P (ans f) fn sto.objs.length st
     |.ret=>finish P (ans f) fn sto.objs.length st
     |.pan v=>some (.pan v,st.sto)
     |.exit _=>none
 |.yld i,args,sto =>
  c8 sto i λl =>
   match l.state with
   |.ready=>aL (Nat.ble sto.lo i&&Nat.beq args.length l.params.size&&bZ l.assign&&bZ l.body&&args.all Slot.isVal&&(P.funcs[l.fn]?).isSome&&l.params.toList.all (λp=>Nat.blt p (ans l.fn).nt))
     (XK P ans cf lp l.fn l.assign ⟨dB (ans l.fn).keep l.tm (l.params.toList.zip args),sto⟩ λe st =>
      match e with
      |.norm=>c8 st.sto i λl1 =>
       match l1.state with
       |.ready=>XK P ans cf lp l.fn l.body { st with sto:=setLoop st.sto i { l1 with state:=.busy } } λe st =>
        match e with
        |.norm=>c8 st.sto i λl2=>some (.ret (.val (.bool true)),cut sto.objs.length (setLoop st.sto i { l2 with state:=.ready,pend:=none }))
        |.ret=>c8 st.sto i λl2=>some (.ret (.val (.bool false)),cut sto.objs.length (setLoop st.sto i { l2 with state:=.done,pend:=some .ret }))
        |.exit id=>c8 st.sto i λl2=>some (.ret (.val (.bool false)),cut sto.objs.length (setLoop st.sto i { l2 with state:=.done,pend:=some (.exit id) }))
        |.pan v=>some (.pan v,st.sto)
       |_=>none
      |_=>none)
   |_=>none
def gS(P:Program)(ans:FuncId->AF)(cf:aJ)(lp:aQ):aQ:=λfid c st =>
 XK P ans cf lp fid c st λe AY =>
  match e with
  |.norm=>lp fid c (eV (ans fid) c AY)
  |e=>some (e,AY)
def run(P:Program)(ans:FuncId->AF)(pr:fY):Nat->aJ×aQ
 |0=>(λ_ _ _=>none,λ_ _ _=>none)
 |n+1=>(cD P ans pr (run P ans pr n).1 (run P ans pr n).2,gS P ans (run P ans pr n).1 (run P ans pr n).2)
end
abbrev HC:=AVal->Prop
def F7:HC:=λ_=>False
abbrev HT:=Nat->Nat->HC
def HT.le(Ψ Z':HT):Prop:=∀b o c,Ψ b o c->Z' b o c
theorem HT.le_refl(Ψ:HT):Ψ.le Ψ:=λ_ _ _ h=>h
theorem HT.le_trans{A B C:HT}(h:A.le B)(k:B.le C):A.le C:=λb o c x=>k b o c (h b o c x)
def pre(J J':List Nat):Prop:=∀i b:Nat,J[i]?=some b->J'[i]?=some b
theorem aG(J:List Nat):pre J J:=λ_ _ h=>h
theorem dT{a b c:List Nat}(h:pre a b)(k:pre b c):pre a c:=λi x y=>k i x (h i x y)
theorem dW(J l:List Nat):pre J (J++l):=λi b h=>by
 rw[Az (Ab.1 h).1];exact h
theorem pre_nil(J:List Nat):pre [] J:=λi b h=>by simp at h
theorem zL{J:List Nat}{m:Nat}:pre (J.take m) J:=λi b hb=>by
 rw[Bh] at hb
 split at hb
 ·exact hb
 ·simp at hb
def oneC:Value->Bool
 |.agg _=>false
 |.tuple _=>false
 |_=>true
def AVal.isCell:AVal->Bool
 |.agg _=>false
 |_=>true
inductive VRel (Ψ:HT) (J:List Nat):AVal->Value->Prop where
 |bool (b:Bool):VRel Ψ J (.bool b) (.bool b)
 |int (k:IntKind) (n:Int):VRel Ψ J (.int k n) (.int k n)
 |str (s:List UInt8):VRel Ψ J (.str s) (.string ⟨⟨s⟩⟩)
 |slice (xs:List AVal) (a:Option Addr) (len cap s:Nat) (hl:xs.length=len) (hc:len<=cap)
   (hx:∀(i:Nat)(x:AVal),xs[i]?=some x->x.cells.length=s/\∃b o:Nat,a=some ⟨b,o,none⟩/\∀(j:Nat)(c:AVal),x.cells[j]?=some c->Ψ b (o+i*s+j) c):VRel Ψ J (.slice xs) (.slice a len cap)
 |agg (cs:List AVal) (vs:List Value) (hl:cs.length=vs.length) (hk:∀(i:Nat)(c:AVal),cs[i]?=some c->c.isCell=true)
   (hx:∀(i:Nat)(c:AVal)(v:Value),cs[i]?=some c->vs[i]?=some v->VRel Ψ J c v):VRel Ψ J (.agg cs) (.agg ⟨vs⟩)
 |nilptr:VRel Ψ J .nilptr (.pointer none)
 |nilfunc:VRel Ψ J .nilfunc .nilFunc
 |nilmap:VRel Ψ J .nilmap (.map none)
 |nilif:VRel Ψ J .nilif .nilIface
 |loc (i off b:Nat) (h:J[i]?=some b):VRel Ψ J (.loc i off) (.pointer (some ⟨b,off,none⟩))
 |amap (i b:Nat) (h:J[i]?=some b):VRel Ψ J (.amap i) (.map (some b))
 |yld (i b:Nat) (h:J[i]?=some b):VRel Ψ J (.yld i) (.func (.yield b) #[] #[])
 |cptr (x:AVal) (b o:Nat) (h:∀(j:Nat)(c:AVal),x.cells[j]?=some c->Ψ b (o+j) c):VRel Ψ J (.cptr x) (.pointer (some ⟨b,o,none⟩))
 |func (f:FuncId) (cs:List AVal) (vs:List Value) (hl:cs.length=vs.length)
   (hx:∀(i:Nat)(c:AVal)(v:Value),cs[i]?=some c->vs[i]?=some v->VRel Ψ J c v):VRel Ψ J (.func f cs) (.func (.func f) #[] ⟨vs⟩)
 |iface (t:TypeId) (x:AVal) (v:Value) (h:VRel Ψ J x v):VRel Ψ J (.iface t x) (.iface t v)
 |opq (v:Value) (h:v=.nilIface\/∃t x,v=.iface t x):VRel Ψ J .opq v
 |raw (v:Value) (h:oneC v=true):VRel Ψ J (.raw v) v
 |rc (t:TypeId) (f a:List UInt8) (x e:AVal) (b o:Nat) (h:∀(j:Nat)(c:AVal),(R0 t f a x e).cells[j]?=some c->Ψ b (o+j) c):VRel Ψ J (.rc t f a x e) (.pointer (some ⟨b,o,none⟩))
theorem VRel.mono{Ψ Z':HT}(hΨ:Ψ.le Z'){J J':List Nat}(hp:pre J J'){x:AVal}{v:Value}(h:VRel Ψ J x v):VRel Z' J' x v:=by
 induction h with
 |bool=>exact .bool _
 |int=>exact .int _ _
 |str=>exact .str _
 |slice xs a len cap s hl hc hx =>
  exact .slice xs a len cap s hl hc λi x e=>by
   obtain⟨h1,b,o,h2,h3⟩:=hx i x e;exact⟨h1,b,o,h2,λj c hj=>hΨ _ _ _ (h3 j c hj)⟩
 |agg cs vs hl hk hx ih=>exact .agg cs vs hl hk λi c v h1 h2=>ih i c v h1 h2
 |nilptr=>exact .nilptr
 |nilfunc=>exact .nilfunc
 |nilmap=>exact .nilmap
 |nilif=>exact .nilif
 |loc i off b h=>exact .loc i off b (hp i b h)
 |amap i b h=>exact .amap i b (hp i b h)
 |yld i b h=>exact .yld i b (hp i b h)
 |cptr x b o h=>exact .cptr x b o λj c hj=>hΨ _ _ _ (h j c hj)
 |func f cs vs hl hx ih=>exact .func f cs vs hl λi c v h1 h2=>ih i c v h1 h2
 |iface t x v h ih=>exact .iface t x v ih
 |opq v h=>exact .opq v h
 |raw v h=>exact .raw v h
 |rc t f a x e b o h=>exact .rc t f a x e b o λj c hj=>hΨ _ _ _ (h j c hj)
theorem VRel.flatA{Ψ:HT}{J J':List Nat}{x:AVal}{v:Value}(h:VRel Ψ J x v)(hf:AM.flatA x=true):VRel Ψ J' x v:=by
 cases h with
 |bool=>exact .bool _
 |int=>exact .int _ _
 |str=>exact .str _
 |slice xs a len cap s hl hc hx=>exact .slice xs a _ cap s hl hc hx
 |nilptr=>exact .nilptr
 |nilfunc=>exact .nilfunc
 |nilmap=>exact .nilmap
 |nilif=>exact .nilif
 |cptr x b o h=>exact .cptr x b o h
 |agg=>simp[AM.flatA] at hf
 |loc=>simp[AM.flatA] at hf
 |amap=>simp[AM.flatA] at hf
 |yld=>simp[AM.flatA] at hf
 |func=>simp[AM.flatA] at hf
 |iface=>simp[AM.flatA] at hf
 |opq v h=>exact .opq v h
 |raw v h=>exact .raw v h
 |rc t f a x e b o h=>exact .rc t f a x e b o h
theorem VRel.flat{Ψ:HT}{J J':List Nat}{x:AVal}{v:Value}(h:VRel Ψ J x v)(hf:AM.flat x=true):VRel Ψ J' x v:=by
 cases h with
 |bool=>exact .bool _
 |int=>exact .int _ _
 |str=>exact .str _
 |slice xs a len cap s hl hc hx=>exact .slice xs a _ cap s hl hc hx
 |nilptr=>exact .nilptr
 |nilfunc=>exact .nilfunc
 |nilmap=>exact .nilmap
 |nilif=>exact .nilif
 |cptr x b o h=>exact .cptr x b o h
 |agg=>simp[AM.flat] at hf
 |loc=>simp[AM.flat] at hf
 |amap=>simp[AM.flat] at hf
 |yld=>simp[AM.flat] at hf
 |func=>simp[AM.flat] at hf
 |iface t x v h=>exact .iface t x v (h.flatA hf)
 |opq v h=>exact .opq v h
 |raw v h=>exact .raw v h
 |rc t f a x e b o h=>exact .rc t f a x e b o h
theorem jM{x:AVal}(h:flat x=true):x.isCell=true:=by cases x<;>simp_all [flat,AVal.isCell]
theorem fB{x:AVal}(h:x.isCell=true):x.cells=[x]:=by cases x<;>simp_all [AVal.cells,AVal.isCell]
theorem VRel.one{Ψ:HT}{J:List Nat}{x:AVal}{v:Value}(h:VRel Ψ J x v)(hc:x.isCell=true):oneC v=true:=by
 cases h with
 |opq v h=>rcases h with rfl|⟨t,x,rfl⟩<;>rfl
 |raw v h=>exact h
 |_=>simp_all [oneC,AVal.isCell]
theorem VRel.cells{Ψ:HT}{J:List Nat}{x:AVal}{v:Value}(h:VRel Ψ J x v) :
  x.cells.length=v.cells.size/\(∀(i:Nat)(c:AVal),x.cells[i]?=some c->c.isCell=true)/\∀(i:Nat)(c:AVal)(u:Value),x.cells[i]?=some c->v.cells[i]?=some u->VRel Ψ J c u:=by
 by_cases hx:x.isCell=true
 ·have h1:=h.one hx
  rw[fB hx];have hv:v.cells=#[v]:=by cases v<;>simp_all [Value.cells,oneC]
  rw[hv];refine⟨rfl,?_,?_⟩
  ·intro i c hi
   cases i with
   |zero=>simp at hi;subst hi;exact hx
   |succ n=>simp at hi
  ·intro i c u hi hu
   cases i with
   |zero=>simp at hi hu;subst hi;subst hu;exact h
   |succ n=>simp at hi
 ·cases h with
  |agg cs vs hl hk GW=>exact⟨by simpa[AVal.cells,Value.cells] using hl,hk,λi c u h1 h2=>GW i c u h1 (by simpa[Value.cells] using h2)⟩
  |_=>simp_all [AVal.isCell]
theorem VRel.clean{Ψ:HT}{J J':List Nat}{x:AVal}{v:Value}(h:VRel Ψ J x v)(hf:AM.clean x=true):VRel Ψ J' x v:=by
 by_cases hx:x.isCell=true
 ·refine h.flat ?_
  simpa[AM.clean,fB hx] using hf
 ·cases h with
  |agg cs vs hl hk GW =>
   refine .agg cs vs hl hk λi c v h1 h2=>(GW i c v h1 h2).flat ?_
   have:=As.1 (show cs.all AM.flat=true from hf) c (Ba h1)
   exact this
  |_=>simp_all [AVal.isCell]
theorem VRel.lokF{Ψ:HT}{J:List Nat}{n:Nat}{x:AVal}{v:Value}(h:VRel Ψ J x v)(hf:AM.lokF n x=true):VRel Ψ (J.take n) x v:=by
 cases h with
 |bool=>exact .bool _
 |int=>exact .int _ _
 |str=>exact .str _
 |slice xs a len cap s hl hc hx=>exact .slice xs a _ cap s hl hc hx
 |nilptr=>exact .nilptr
 |nilfunc=>exact .nilfunc
 |nilmap=>exact .nilmap
 |nilif=>exact .nilif
 |cptr x b o h=>exact .cptr x b o h
 |agg=>simp[AM.lokF] at hf
 |loc i off b h=>exact .loc i off b (by rw[Bh,Bu (by simpa[AM.lokF,Ct] using hf)];exact h)
 |amap i b h=>exact .amap i b (by rw[Bh,Bu (by simpa[AM.lokF,Ct] using hf)];exact h)
 |yld i b h=>exact .yld i b (by rw[Bh,Bu (by simpa[AM.lokF,Ct] using hf)];exact h)
 |func=>simp[AM.lokF] at hf
 |iface t x v h =>
  rcases Bool.or_eq_true_iff.1 (show(AM.clean x||ji n x)=true from hf) with hf|hf
  ·exact .iface t x v (h.clean hf)
  ·cases h with
   |loc i off b h=>exact .iface _ _ _ (.loc i off b (by rw[Bh,Bu (by simpa[ji,Ct] using hf)];exact h))
   |_=>simp[ji] at hf
 |opq v h=>exact .opq v h
 |raw v h=>exact .raw v h
 |rc t f a x e b o h=>exact .rc t f a x e b o h
theorem VRel.lok{Ψ:HT}{J:List Nat}{n:Nat}{x:AVal}{v:Value}(h:VRel Ψ J x v)(hf:AM.lok n x=true):VRel Ψ (J.take n) x v:=by
 cases h with
 |agg cs vs hl hk GW=>exact .agg cs vs hl hk λi c v h1 h2=>(GW i c v h1 h2).lokF (As.1 (show cs.all (AM.lokF n)=true from hf) c (Ba h1))
 |func f cs vs hl GW=>exact .func f cs vs hl λi c v h1 h2=>(GW i c v h1 h2).lokF (As.1 (show cs.all (AM.lokF n)=true from hf) c (Ba h1))
 |bool=>exact .bool _
 |int=>exact .int _ _
 |str=>exact .str _
 |slice xs a len cap s hl hc hx=>exact .slice xs a _ cap s hl hc hx
 |nilptr=>exact .nilptr
 |nilfunc=>exact .nilfunc
 |nilmap=>exact .nilmap
 |nilif=>exact .nilif
 |cptr x b o h=>exact .cptr x b o h
 |loc i off b h=>exact VRel.lokF (.loc i off b h) hf
 |amap i b h=>exact VRel.lokF (.amap i b h) hf
 |yld i b h=>exact VRel.lokF (.yld i b h) hf
 |iface t x v h=>exact VRel.lokF (.iface t x v h) hf
 |opq v h=>exact .opq v h
 |raw v h=>exact .raw v h
 |rc t f a x e b o h=>exact .rc t f a x e b o h
structure WSat (Ψ:HT) (w:World):Prop where
 size8:8<=w.heap.size
 sat:∀b o c,Ψ b o c->flat c=true/\∃v,w.cell? ⟨b,o,none⟩=some v/\VRel Ψ [] c v
abbrev Hm:=Bool×Nat×Nat
abbrev Own:=Nat->Option Hm
structure OwnRel (w:World) (B0:Nat) (Ψ:HT) (ow:Own) (id:Hm) (sz:Nat) (xs:List AVal) (v:Value):Prop where
 rel:VRel Ψ [] (.slice xs) v
 elems:∀x∈xs,x.cells.length=sz
 rest:∃a len cap,v=.slice a len cap/\(xs=[]/\len=cap\/∃b o cs E,a=some ⟨b,o,none⟩/\ow b=some id/\w.heap[b]?=some (.cells cs E (0,0))/\B0<=b/\o+cap*sz<=cs.size/\∀o',o+len*sz<=o'->Ψ b o'=F7)
inductive CRel (w:World) (B0:Nat) (Ψ:HT) (J:List Nat) (ow:Own) (id:Hm):Cell->Value->Prop where
 |val (c:AVal) (v:Value) (hc:c.isCell=true) (h:VRel Ψ J c v):CRel w B0 Ψ J ow id (.val c) v
 |own (sz:Nat) (xs:List AVal) (v:Value) (h:OwnRel w B0 Ψ ow id sz xs v):CRel w B0 Ψ J ow id (.own sz xs) v
def CsRel(w:World)(B0:Nat)(Ψ:HT)(J:List Nat)(ow:Own)(k:Bool)(i:Nat)(cs:List Cell)(vs:List Value):Prop :=
 cs.length=vs.length/\∀(j:Nat)(c:Cell)(v:Value),cs[j]?=some c->vs[j]?=some v->CRel w B0 Ψ J ow (k,i,j+1) c v
structure BoxRel (w:World) (B0:Nat) (Ψ:HT) (J:List Nat) (ow:Own) (k:Bool) (i:Nat) (cs:List Cell) (b:Nat):Prop where
 own:ow b=some (k,i,0)
 base:B0<=b
 free:∀o,Ψ b o=F7
 heap:∃vs T,w.heap[b]?=some (.cells ⟨vs⟩ T (0,0))/\CsRel w B0 Ψ J ow k i cs vs
inductive SRel (w:World) (B0:Nat) (Ψ:HT) (J:List Nat) (ow:Own) (tmps:Array Value) (t:Nat):Slot->Value->Prop where
 |dead (v:Value):SRel w B0 Ψ J ow tmps t .dead v
 |val (x:AVal) (v:Value) (h:VRel Ψ J x v):SRel w B0 Ψ J ow tmps t (.val x) v
 |tup (xs:List AVal) (vs:List Value) (hl:xs.length=vs.length) (h:∀(i:Nat)(x:AVal)(v:Value),xs[i]?=some x->vs[i]?=some v->VRel Ψ J x v):SRel w B0 Ψ J ow tmps t (.tup xs) (.tuple ⟨vs⟩)
 |own (sz:Nat) (xs:List AVal) (v:Value) (h:OwnRel w B0 Ψ ow (false,t,1) sz xs v):SRel w B0 Ψ J ow tmps t (.own sz xs) v
 |full (xs:List AVal) (a:Option Addr) (n:Nat) (h:VRel Ψ [] (.slice xs) (.slice a n n)):SRel w B0 Ψ J ow tmps t (.full xs) (.slice a n n)
 |nl:SRel w B0 Ψ J ow tmps t .nl (.slice none 0 0)
 |nn (xs:List AVal) (a:Addr) (n c:Nat) (h:VRel Ψ [] (.slice xs) (.slice (some a) n c)):SRel w B0 Ψ J ow tmps t (.nn xs) (.slice (some a) n c)
 |cells (cs:List Cell) (vs:List Value) (h:CsRel w B0 Ψ J ow false t cs vs):SRel w B0 Ψ J ow tmps t (.cells cs) (.agg ⟨vs⟩)
 |box (cs:List Cell) (b:Nat) (h:BoxRel w B0 Ψ J ow false t cs b):SRel w B0 Ψ J ow tmps t (.box cs) (.pointer (some ⟨b,0,none⟩))
 |ref (u o b:Nat) (h:tmps.getD u undef=.pointer (some ⟨b,0,none⟩)):SRel w B0 Ψ J ow tmps t (.ref u o) (.pointer (some ⟨b,o,none⟩))
def aMo(Ψ:HT)(es:List (AVal×AVal))(AK:List MapEntry):Prop :=
 es.length=AK.length/\∀(i:Nat)(p:AVal×AVal)(e:MapEntry),es[i]?=some p->AK[i]?=some e->isKey p.1=true/\VRel Ψ [] p.1 e.key/\VRel Ψ [] p.2 e.val
structure LoopRel (w:World) (Ψ:HT) (J:List Nat) (ans:FuncId->AF) (l:iA) (r:Loop):Prop where
 state:r.state=l.state
 pend:r.pending=l.pend
 fn:r.fn=l.fn
 params:r.params=l.params
 assign:r.assign=l.assign
 body:r.body=l.body
 size:r.tmps.size=(ans l.fn).nt
 slots:∀t,SRel w 0 Ψ J (λ_=>none) r.tmps t (tlook (ans l.fn).keep l.tm t) (r.tmps.getD t undef)
 snap:∀s∈l.tm,dO s=s
 hi:∀t,(ans l.fn).nt<=t->tlook (ans l.fn).keep l.tm t=.dead
inductive ORel (w:World) (B0:Nat) (Ψ:HT) (J:List Nat) (ow:Own) (ans:FuncId->AF) (i:Nat):AObj->Nat->Prop where
 |box (cs:List Cell) (b:Nat) (h:BoxRel w B0 Ψ (J.take (i+1)) ow true i cs b):ORel w B0 Ψ J ow ans i (.box cs) b
 |map (es:List (AVal×AVal)) (b:Nat) (AK:Array MapEntry) (clock:Nat) (hb:w.heap[b]?=some (.map AK clock)) (ho:ow b=some (true,i,0)) (h0:B0<=b) (hf:∀o,Ψ b o=F7)
   (h:aMo Ψ es AK.toList):ORel w B0 Ψ J ow ans i (.map es) b
 |loop (l:iA) (b:Nat) (r:Loop) (hb:w.heap[b]?=some (.loop r)) (ho:ow b=some (true,i,0)) (h0:B0<=b) (hf:∀o,Ψ b o=F7)
   (h:LoopRel w Ψ (J.take (i+1)) ans l r):ORel w B0 Ψ J ow ans i (.loop l) b
 |frz (v:AVal) (b:Nat) (h:VRel Ψ [] v (.pointer (some ⟨b,0,none⟩))):ORel w B0 Ψ J ow ans i (.frz v) b
def OsRel(w:World)(B0:Nat)(Ψ:HT)(J:List Nat)(ow:Own)(ans:FuncId->AF)(objs:List AObj):Prop :=
 J.length=objs.length/\∀(i:Nat)(o:AObj),objs[i]?=some o->∃b:Nat,J[i]?=some b/\ORel w B0 Ψ J ow ans i o b
structure Fr (w:World) (Ψ:HT) (ow:Own) (w':World) (Z':HT) (AQ:Own):Prop where
 le:Ψ.le Z'
 size:w.heap.size<=w'.heap.size
 keep:∀b,b<w.heap.size->ow b=none->w'.heap[b]?=w.heap[b]?/\∀o,Z' b o=Ψ b o
 own:∀b,AQ b≠none->ow b≠none\/w.heap.size<=b
 os:w'.os=w.os
 tape:w'.tape=w.tape
 output:w'.output=w.output
theorem Fr.refl(w:World)(Ψ:HT)(ow:Own):Fr w Ψ ow w Ψ ow:=⟨Ψ.le_refl,Af _,λ_ _ _=>⟨rfl,λ_=>rfl⟩,λ_ h=>.inl h,rfl,rfl,rfl⟩
theorem Fr.trans{w w1 w2:World}{Ψ Z1 Z2:HT}{ow BO B5:Own}(h:Fr w Ψ ow w1 Z1 BO)(k:Fr w1 Z1 BO w2 Z2 B5):Fr w Ψ ow w2 Z2 B5 where
 le:=HT.le_trans h.le k.le
 size:=Bg h.size k.size
 keep:=λb hb ho=>by
  have h1:=h.keep b hb ho
  have My:BO b=none:=by
   cases e:BO b with
   |none=>rfl
   |some x=>rcases h.own b (by simp[e]) with h'|h'
            ·exact absurd ho h'
            ·omega
  have h2:=k.keep b (Bt hb h.size) My;exact⟨h2.1.trans h1.1,λo=>(h2.2 o).trans (h1.2 o)⟩
 own:=λb hb=>by
  rcases k.own b hb with h'|h'
  ·exact h.own b h'
  ·exact .inr (Bg h.size h')
 os:=k.os.trans h.os
 tape:=k.tape.trans h.tape
 output:=k.output.trans h.output
end Go.AM
