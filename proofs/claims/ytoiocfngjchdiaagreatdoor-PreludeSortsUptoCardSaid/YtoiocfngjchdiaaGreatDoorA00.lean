import Derived.Test.YtoiocfngjchdiaaGreatDoorA
import Derived.RangeFuncRecord
set_option linter.all false
namespace Go.AM
section
inductive ae where
 |bool (b:Bool)
 |int (k:IntKind) (n:Int)
 |str (s:List UInt8)
 |slice (xs:List ae)
 |agg (cs:List ae)
 |cW
 |kQ
 |ld
 |fh
 |loc (i off:Nat)
 |ln (i:Nat)
 |bN (i:Nat)
 |ay (x:ae)
 |func (f:FuncId) (caps:List ae)
 |iface (t:TypeId) (v:ae)
 |ko
 |raw (v:Value)
 |rc (t:TypeId) (f a:List UInt8) (b e:ae)
instance:Inhabited ae:=⟨.cW⟩
def ae.cells:ae->List ae
 |.agg cs=>cs
 |v=>[v]
inductive Cell where
 |val (v:ae)
 |own (sz:Nat) (xs:List ae)
inductive Slot where
 |dead
 |val (v:ae)
 |aj (vs:List ae)
 |own (sz:Nat) (xs:List ae)
 |full (xs:List ae)
 |nl
 |nn (xs:List ae)
 |cells (cs:List Cell)
 |box (cs:List Cell)
 |ref (t off:Nat)
instance:Inhabited Slot:=⟨.dead⟩
structure AF where
 nt:Nat
 keep:List Nat
 loc:List Nat
 take:List (Nat×Nat)
 pure:List (Nat×Nat)
 heads:List (Nat×List (Nat×Option Nat))
 ownRes:Bool
 ownArg:List Nat
 jx:Bool:=false
 nN:List Nat:=[]
structure iU where
 fn:FuncId
 tm:List Slot
 params:Array Tmp
 assign:Code
 body:Code
 pend:Option Code
 state:LoopState
inductive ai where
 |box (cs:List Cell)
 |map (es:List (ae×ae))
 |loop (l:iU)
 |fw (v:ae)
structure AH where
 objs:List ai
 lo:Nat
structure St where
 tm:List Slot
 sto:AH
structure RS where
 sc:List (Nat×Slot)
 sto:AH
inductive d_ where
 |ret (s:Slot)
 |be (v:ae)
inductive bG where
 |norm
 |exit (id:Nat)
 |ret
 |be (v:ae)
inductive Callee where
 |fn (f:FuncId)
 |bN (i:Nat)
def Cell.get:Cell->ae
 |.val v=>v
 |.own _ xs=>.slice xs
abbrev aI:=Callee->List Slot->AH->Option (d_×AH)
abbrev aO:=FuncId->Code->St->Option (bG×St)
abbrev gG:=FuncId->List Slot->Option (Option d_)
section
variable {R:Type}
def DS(s:Slot)(k:ae->Option R):Option R :=
 match s with
 |.val v=>k v
 |.own _ xs=>k (.slice xs)
 |.full xs=>k (.slice xs)
 |.nl=>k (.slice [])
 |.nn xs=>k (.slice xs)
 |.cells cs=>k (.agg (cs.map Cell.get))
 |_=>none
def lD(s:Slot)(k:List ae->Option R):Option R :=
 match s with
 |.val (.slice xs)=>k xs
 |.own _ xs=>k xs
 |.full xs=>k xs
 |.nl=>k []
 |.nn xs=>k xs
 |_=>none
def asInt(s:Slot)(k:IntKind->Int->Option R):Option R :=
 match s with
 |.val (.int kd n)=>k kd n
 |_=>none
def asBool(s:Slot)(k:Bool->Option R):Option R :=
 match s with
 |.val (.bool b)=>bif b then k true else k false
 |_=>none
def mv(s:Slot)(k:Slot->Option R):Option R :=
 match s with
 |.val v=>k (.val v)
 |.aj vs=>k (.aj vs)
 |.own _ xs=>k (.val (.slice xs))
 |.full xs=>k (.full xs)
 |.nl=>k .nl
 |.nn xs=>k (.nn xs)
 |.cells cs=>k (.val (.agg (cs.map Cell.get)))
 |.box _=>none
 |.ref t o=>k (.ref t o)
 |.dead=>none
def aJ(b:Bool)(k:Option R):Option R:=bif b then k else none
def aU(P:Program)(t:TypeId):Option Nat:=(P.info? t).map (·.size)
def bC(P:Program)(t:TypeId):Nat:=((P.info? t).map (·.bytes)).getD 0
def aW(P:Program)(t:TypeId):Option Bool :=
 match P.underlying t with
 |some (.struct _)=>some true
 |some (.array _ _)=>some true
 |some _=>some false
 |none=>none
def aQ(P:Program)(t:TypeId):Option TypeId :=
 match P.underlying t with
 |some (.slice e)=>some e
 |_=>none
def AD(P:Program)(t:TypeId)(f:Nat):Option (Nat×TypeId) :=
 match P.underlying t with
 |some (.struct fs)=>(fs[f]?).map λx=>(x.offset,x.type)
 |_=>none
def jD:Value->Option ae
 |.bool b=>some (.bool b)
 |.int k n=>some (.int k n)
 |.string s=>some (.str s.data.toList)
 |.pointer none=>some .cW
 |.slice none 0 0=>some (.slice [])
 |.map none=>some .ld
 |.nilFunc=>some .kQ
 |.nilIface=>some .fh
 |_=>none
def je:List Value->Option (List ae)
 |[]=>some []
 |v::vs=>(jD v).bind λa=>(je vs).map (a::·)
def jE:Value->Option ae
 |.agg cs=>(je cs.toList).map .agg
 |v=>jD v
def hints(P:Program):Nat->TypeId->List (Option Nat)
 |0,_=>[]
 |d+1,t =>
  match P.underlying t with
  |some (.struct fs)=>fs.toList.flatMap λf=>hints P d f.type
  |some (.slice e)=>[aU P e]
  |some (.array n e)=>(List.replicate n (hints P d e)).flatten
  |_=>[none]
def y0:Option Nat->ae->Cell
 |some sz,.slice []=>.own sz []
 |_,v=>.val v
def eR:List (Option Nat)->List ae->List Cell
 |h::hs,v::vs=>y0 h v::eR hs vs
 |_,vs=>vs.map .val
def zeroOf(P:Program)(t:TypeId):Option ae:=((P.info? t).bind (·.zero)).bind jE
def zeroCells(P:Program)(t:TypeId):Option (List Cell):=(zeroOf P t).map λz=>eR (hints P 8 t) z.cells
def partOf(agg:Bool)(cs:List ae)(off s:Nat):Option ae :=
 if agg then(bif Nat.ble (off+s) cs.length then some (.agg ((cs.drop off).take s)) else none) else cs[off]?
def oc:ae->Bool
 |.loc _ _=>false
 |.ln _=>false
 |.bN _=>false
 |.func _ _=>false
 |.iface _ _=>false
 |.agg _=>false
 |_=>true
def flat:ae->Bool
 |.loc _ _=>false
 |.ln _=>false
 |.bN _=>false
 |.func _ _=>false
 |.iface _ v=>oc v
 |.agg _=>false
 |_=>true
def SK(t:TypeId)(f a:List UInt8)(b e:ae):ae:=.agg [.str f,.iface t (.ay (.agg [.str a,b,.rc t f a b e])),e]
def clean(v:ae):Bool:=v.cells.all flat
def ng(n:Nat):ae->Bool
 |.loc i _=>Nat.blt i n
 |_=>false
def js(n:Nat):ae->Bool
 |.loc i _=>Nat.blt i n
 |.ln i=>Nat.blt i n
 |.bN i=>Nat.blt i n
 |.agg _=>false
 |.func _ _=>false
 |.iface _ v=>clean v||ng n v
 |_=>true
def ct(n:Nat)(v:ae):Bool :=
 match v with
 |.agg cs=>cs.all (js n)
 |.func _ caps=>caps.all (js n)
 |v=>js n v
def Cell.ct(n:Nat):Cell->Bool
 |.val v=>AM.ct n v
 |.own _ _=>true
def cF(n:Nat):Slot->Bool
 |.val v=>ct n v
 |.aj vs=>vs.all (ct n)
 |_=>true
def bV:List (Nat×Slot)->Nat->Option Slot
 |[],_=>none
 |(k,s)::r,t=>bif Nat.beq k t then some s else bV r t
def bg:List Nat->List Slot->Nat->Slot
 |k::ks,s::ss,t=>bif Nat.beq k t then s else bg ks ss t
 |_,_,_=>.dead
def RS.look(keep:List Nat)(tm:List Slot)(rs:RS)(t:Nat):Slot :=
 match bV rs.sc t with
 |some s=>s
 |none=>bg keep tm t
def RS.put(rs:RS)(t:Nat)(s:Slot):RS:={ rs with sc:=(t,s)::rs.sc }
def RS.jq(rs:RS)(t:Option Nat)(s:Slot):RS :=
 match t with
 |some t=>rs.put t s
 |none=>rs
def gM(v:Value):Slot :=
 match v with
 |.slice none 0 0=>.nl
 |v=>match jE v with
  |some a=>.val a
  |none=>.dead
def mP(P:Program)(t:TypeId)(v:Value):Slot :=
 match v with
 |.slice none 0 0=>(match(aQ P t).bind (aU P) with
  |some sz=>.own sz []
  |none=>.nl)
 |v=>gM v
def AZ(keep:List Nat)(tm:List Slot)(rs:RS):Operand->Slot
 |.tmp t=>rs.look keep tm t
 |.const v=>gM v
 |.func f=>.val (.func f [])
 |.global _=>.dead
def lS:Slot->Slot
 |.ref _ _=>.dead
 |s=>s
def ed:List Nat->List Slot->List (Nat×Slot)->List Slot
 |k::ks,s::ss,sc=>(match bV sc k with|some s'=>lS s'|none=>s)::ed ks ss sc
 |_,_,_=>[]
inductive Place where
 |loc (t off:Nat)
 |obj (i off:Nat)
 |kc (x:ae)
def dD(x:Operand)(s:Slot)(k:Place->Option R):Option R :=
 match s with
 |.box _=>(match x with|.tmp t=>k (.loc t 0)|_=>none)
 |.ref t o=>k (.loc t o)
 |.val (.loc i o)=>k (.obj i o)
 |.val (.ay x)=>k (.kc x)
 |.val (.rc t f a b e)=>k (.kc (SK t f a b e))
 |_=>none
def pS(s:Slot)(k:List Cell->Option R):Option R :=
 match s with
 |.box cs=>k cs
 |_=>none
def pT(o:Option ai)(k:List Cell->Option R):Option R :=
 match o with
 |some (.box cs)=>k cs
 |_=>none
def aT(keep:List Nat)(tm:List Slot)(rs:RS)(p:Place)(k:List Cell->Nat->Option R):Option R :=
 match p with
 |.loc t o=>pS (rs.look keep tm t) λcs=>k cs o
 |.obj i o=>pT rs.sto.objs[i]? λcs=>k cs o
 |.kc x=>k (x.cells.map .val) 0
def setCells(cs:List Cell)(off:Nat)(new:List Cell):List Cell:=cs.take off++new++cs.drop (off+new.length)
def bS(rs:RS)(p:Place)(cs:List Cell)(k:RS->Option R):Option R :=
 match p with
 |.loc t _=>k (rs.put t (.box cs))
 |.obj i _=>aJ (Nat.ble rs.sto.lo i&&cs.all (Cell.ct (i+1))) (k { rs with sto:={ rs.sto with objs:=rs.sto.objs.set i (.box cs) } })
 |.kc _=>none
def gZ(op:BinOp)(x y:ae):Option ae :=
 match x,y with
 |.int k a,.int k' b =>
  if k=k' then
   match op with
   |.add=>some (.int k (k.wrap (a+b)))
   |.sub=>some (.int k (k.wrap (a-b)))
   |.mul=>some (.int k (k.wrap (a*b)))
   |.rem=>if b=0 then none else some (.int k (a.tmod b))
   |.shl=>if b<0 then none else some (.int k (k.wrap (a*2^(min b.toNat k.bits))))
   |.eql=>some (.bool (a==b))
   |.neq=>some (.bool (a != b))
   |.lss=>some (.bool (a<b))
   |.leq=>some (.bool (a<=b))
   |.gtr=>some (.bool (a>b))
   |.geq=>some (.bool (a>=b))
   |_=>none
  else none
 |.str a,.str b =>
  match op with
  |.eql=>some (.bool (a==b))
  |.neq=>some (.bool (!(a==b)))
  |_=>none
 |.bool a,.bool b =>
  match op with
  |.eql=>some (.bool (a==b))
  |.neq=>some (.bool (!(a==b)))
  |_=>none
 |.fh,.fh=>none
 |.fh,.iface _ _ =>
  match op with
  |.eql=>some (.bool false)
  |.neq=>some (.bool true)
  |_=>none
 |.iface _ _,.fh =>
  match op with
  |.eql=>some (.bool false)
  |.neq=>some (.bool true)
  |_=>none
 |.cW,.cW =>
  match op with
  |.eql=>some (.bool true)
  |.neq=>some (.bool false)
  |_=>none
 |.ay _,.cW =>
  match op with
  |.eql=>some (.bool false)
  |.neq=>some (.bool true)
  |_=>none
 |.rc _ _ _ _ _,.cW =>
  match op with
  |.eql=>some (.bool false)
  |.neq=>some (.bool true)
  |_=>none
 |.loc _ _,.cW =>
  match op with
  |.eql=>some (.bool false)
  |.neq=>some (.bool true)
  |_=>none
 |_,_=>none
def fD(P:Program)(t:TypeId):Bool:=match P.underlying t with|some (.slice _)=>true|_=>false
def qI(P:Program)(t:TypeId):Bool:=match P.underlying t with|some (.interface _)=>true|_=>false
def ei(P:Program)(t:TypeId):Bool:=match P.underlying t with|some .bool=>true|_=>false
def rZ(P:Program)(t:TypeId):Bool:=match P.underlying t with|some (.pointer _)=>true|_=>false
def hH(P:Program)(t:TypeId):ae->Bool
 |.int _ _=>true
 |.str _=>true
 |.bool _=>ei P t
 |.fh=>qI P t
 |.iface _ _=>qI P t
 |.cW=>rZ P t
 |.ay _=>rZ P t
 |.loc _ _=>rZ P t
 |.rc _ _ _ _ _=>rZ P t
 |_=>false
def cO(s:Slot):Option Bool :=
 match s with
 |.nl=>some true
 |.nn _=>some false
 |.own _ (_::_)=>some false
 |.full (_::_)=>some false
 |.val (.slice (_::_))=>some false
 |_=>none
def dV:Operand->Bool
 |.const (.slice none _ _)=>true
 |_=>false
def isNilIface:Operand->Bool
 |.const .nilIface=>true
 |_=>false
def isKey:ae->Bool
 |.str _=>true
 |.int _ _=>true
 |_=>false
def fB(place:Nat->Option (Nat×Nat))(cs:List Cell):List (Nat×ae)->Option (List Cell)
 |[]=>some cs
 |(i,v)::rest=>(place i).bind λp=>bif Nat.beq v.cells.length p.2&&Nat.ble (p.1+p.2) cs.length then fB place (cs.take p.1++v.cells.map .val++cs.drop (p.1+v.cells.length)) rest else none
def dO(keep:List Nat)(tm:List Slot)(rs:RS)(x:Operand)(k:List Cell->RS->Option R):Option R :=
 match AZ keep tm rs x,x with
 |.own sz xs,.tmp t=>(match keep.contains t with
  |true=>k [.val (.slice xs)] rs
  |false=>k [.own sz xs] (rs.put t (.val (.slice xs))))
 |.own sz [],.const _=>k [.own sz []] rs
 |.cells cs,.tmp t=>(match keep.contains t with
  |true=>k (cs.map λc=>.val c.get) rs
  |false=>k cs (rs.put t (.val (.agg (cs.map Cell.get)))))
 |s,_=>DS s λv=>k (v.cells.map .val) rs
def eN(P:Program)(t:TypeId)(keep:List Nat)(tm:List Slot)(rs:RS)(x:Operand)(k:List Cell->RS->Option R):Option R :=
 match AZ keep tm rs x with
 |.nl=>(aQ P t).bind λe=>(aU P e).bind λsz=>k [.own sz []] rs
 |_=>dO keep tm rs x k
def gN(keep:List Nat)(tm:List Slot)(rs:RS)(ps:List (Nat×Operand))(k:List (Nat×ae)->Option R):Option R :=
 match ps with
 |[]=>k []
 |(i,x)::r=>DS (AZ keep tm rs x) λv=>gN keep tm rs r λl=>k ((i,v)::l)
def cB(s:Nat)(xs:List ae):List (Nat×ae)->Option (List ae)
 |[]=>some xs
 |(i,v)::r=>bif Nat.beq v.cells.length s&&Nat.blt i xs.length&&clean v then cB s (xs.set i v) r else none
def fX(keep:List Nat)(tm:List Slot)(rs:RS)(own:List Nat)(i:Nat)(xs:List Operand)(k:List Slot->RS->Option R):Option R :=
 match xs with
 |[]=>k [] rs
 |x::r =>
  match AZ keep tm rs x,own.contains i,x with
  |.own sz l0,true,.tmp t=>fX keep tm (rs.put t (.val (.slice l0))) own (i+1) r λl rs'=>k (.own sz l0::l) rs'
  |.nl,true,_=>fX keep tm rs own (i+1) r λl rs'=>k (.nl::l) rs'
  |s,_,_=>DS s λv=>fX keep tm rs own (i+1) r λl rs'=>k (.val v::l) rs'
def mM(keep:List Nat)(tm:List Slot)(rs:RS)(xs:List Operand)(k:List ae->Option R):Option R :=
 match xs with
 |[]=>k []
 |x::r=>DS (AZ keep tm rs x) λv=>mM keep tm rs r λl=>k (v::l)
def room:Nat:=4294967296
def eb(sz:Nat):List ae->Bool
 |[]=>true
 |x::_=>Nat.beq x.cells.length sz
def fH(sz:Nat)(full:Bool)(xs:List ae)(l h:Int)(k:Slot->Option R):Option R :=
 aJ (decide (0<=l)&&decide (l<=h)&&decide (h<=(xs.length:Int))&&eb sz ((xs.take h.toNat).drop l.toNat))
  (k (if full then .full ((xs.take h.toNat).drop l.toNat) else .val (.slice ((xs.take h.toNat).drop l.toNat))))
def jQ(keep:List Nat)(tm:List Slot)(rs:RS)(x:Option Operand)(d:Int)(k:Int->Option R):Option R :=
 match x with
 |none=>k d
 |some x=>asInt (AZ keep tm rs x) λ_ n=>k n
def xH:Slot->Bool
 |.ref _ _=>false
 |_=>true
def cY(AA:Bool)(cf:aI)(c:Callee)(args:List Slot)(rs:RS)(kp:ae->RS->Option R)(k:Slot->RS->Option R):Option R :=
 match AA with
 |false=>(cf c args rs.sto).bind λr =>
  match r with
  |(.ret s,sto)=>aJ (xH s) (k s { rs with sto:=sto })
  |(.be v,sto)=>kp v { rs with sto:=sto }
 |true=>(cf c args { rs.sto with lo:=rs.sto.objs.length }).bind λr =>
  match r with
  |(.ret s,_)=>aJ (cF rs.sto.objs.length s&&xH s) (k s rs)
  |(.be _,_)=>none
def gC(kc:Bool)(p:Place)(k:Option R):Option R :=
 match kc with
 |false=>k
 |true=>match p with
  |.kc _=>k
  |_=>none
def mF(c:Cell):Bool:=flat c.get&&(match c.get with|.fh=>false|_=>true)
def Nu(P:Program)(name:String)(t:Nat):Option FuncId :=
 (P.info? t).bind λi=>(i.methods.find? (·.name==name)).bind λm=>(P.underlying t).bind λu=>m.func.bind λfp=>match m.path.isEmpty,u,fp.2 with
  |true,.pointer _,true=>some fp.1
  |true,.pointer _,false=>none
  |true,_,false=>some fp.1
  |_,_,_=>none
def th(P:Program)(t:TypeId)(keep:List Nat)(tm:List Slot)(rs:RS)(a x:Operand)(k:RS->Option R):Option R :=
 match AZ keep tm rs a,AZ keep tm rs x with
 |.val (.loc i 1),.val (.iface ty (.loc j 0)) =>
  match rs.sto.objs[i]?,rs.sto.objs[j]? with
  |some (.box [.val (.str f),.val .fh,.val e]),some (.box [.val (.str g),.val b,.val (.loc i' 0)]) =>
   (aU P t).bind λs=>aJ (Nat.beq s 1&&Nat.beq i i'&&Nat.blt i j&&Nat.ble rs.sto.lo i&&flat e&&flat b)
    (k { rs with sto:={ rs.sto with objs:=(rs.sto.objs.set i (.fw (.rc ty f g b e))).set j (.fw (.ay (.agg [.str g,b,.rc ty f g b e]))) } })
  |_,_=>none
 |_,_=>none
def eM(loc:List Nat)(ops:List Oper):Nat->Operand->List Nat
 |0,_=>[]
 |n+1,.tmp t=>if loc.contains t then[t] else ops.flatMap λo=>if o.dst==some t then(match o.op with
  |.fieldAddr _ x _=>eM loc ops n x
  |.indexAddr _ x _=>eM loc ops n x
  |.nilCheck x=>eM loc ops n x
  |_=>[]) else[]
 |_,_=>[]
def addrOf(o:Oper):Operand :=
 match o.op with
 |.load _ a=>a
 |.store _ a _=>a
 |_=>.global 0
def bO(drawn:Bool)(RY:List Nat)(p:Place)(k:Option R):Option R :=
 match drawn with
 |false=>k
 |true=>match p with
  |.loc u _=>aJ (RY.contains u) k
  |_=>aJ RY.isEmpty k
def Gz(P:Program)(an:AF)(tm:List Slot)(tk:Bool)(ty:TypeId)(x:Operand)(rs:RS)(k:Slot->RS->Option R):Option R :=
 match x with
 |.tmp t=>(match AZ an.keep tm rs x with
  |.own sz xs=>(match tk||!an.keep.contains t with
   |true=>k (.own sz xs) (rs.put t (.val (.slice xs)))
   |false=>k (.val (.slice xs)) rs)
  |.cells cs=>(match tk||!an.keep.contains t with
   |true=>k (.cells cs) (rs.put t (.val (.agg (cs.map Cell.get))))
   |false=>k (.val (.agg (cs.map Cell.get))) rs)
  |s=>mv s λs'=>k s' rs)
 |.const v=>(match mP P ty v with
  |.dead=>none
  |s=>k s rs)
 |x=>mv (AZ an.keep tm rs x) λs'=>k s' rs
def aC(P:Program)(ans:FuncId->AF)(an:AF)(drawn AA:Bool)(EB:List Nat)(cf:aI)(tm:List Slot)(tk:Bool)(o:Oper)(rs:RS)(kp:ae->RS->Option R)(k:Slot->RS->Option R):Option R :=
 let S:=AZ an.keep tm rs
 match o.op with
 |.move x=>Gz P an tm tk o.type x rs k
 |.assign x=>Gz P an tm tk o.type x rs k
 |.pick c a b=>asBool (S c) λt=>mv (S (match t with|true=>a|false=>b)) λs'=>k s' rs
 |.alloc t =>
  (zeroCells P t).bind λz=>(aU P t).bind λs=>aJ (Nat.beq z.length s) (
   match o.dst with
   |some d=>match an.loc.contains d with
    |true=>k (.box z) rs
    |false=>k (.val (.loc rs.sto.objs.length 0)) { rs with sto:={ rs.sto with objs:=rs.sto.objs++[.box z] } }
   |none=>none)
 |.box t x =>
  eN P t an.keep tm rs x λv rs=>(aU P t).bind λs=>aJ (Nat.beq v.length s) (
   match o.dst with
   |some d=>match an.loc.contains d with
    |true=>k (.box v) rs
    |false=>match tk&&v.all mF with
     |true=>k (.val (.ay (.agg (v.map Cell.get)))) rs
     |false=>aJ (!(drawn&&tk)&&v.all (Cell.ct rs.sto.objs.length)) (k (.val (.loc rs.sto.objs.length 0)) { rs with sto:={ rs.sto with objs:=rs.sto.objs++[.box v] } })
   |none=>none)
 |.build t parts =>
  (zeroCells P t).bind λz =>
  match P.underlying t with
  |some (.struct fs)=>gN an.keep tm rs parts.toList λl =>
   (fs.toList.mapM λf=>(P.info? f.type).map λi=>(f.offset,i.size)).bind λplaces=>(fB (places[·]?) z l).bind λcs=>k (.cells cs) rs
  |some (.array _ e)=>gN an.keep tm rs parts.toList λl =>
   (aU P e).bind λs=>(fB (λi=>some (i*s,s)) z l).bind λcs=>k (.cells cs) rs
  |_=>none
 |.buildSlice t len parts =>
  (aQ P t).bind λe=>(aU P e).bind λs=>aJ (Nat.blt 0 s&&Nat.ble (len*s) 16777216) (gN an.keep tm rs parts.toList λl =>
   (zeroOf P e).bind λz=>aJ (Nat.beq z.cells.length s&&clean z) ((cB s (List.replicate len z) l).bind λxs=>k (.full xs) rs))
 |.load t a =>
  dD a (S a) λp=>bO drawn EB p <| gC AA p <| aT an.keep tm rs p λcs off=>(aU P t).bind λs=>(aW P t).bind λagg =>
   match agg with
   |true=>(partOf true (cs.map Cell.get) off s).bind λv=>k (.val v) rs
   |false=>aJ (Nat.beq s 1) (match tk,cs[off]? with
    |true,some (.own sz xs)=>bS rs p (cs.set off (.val (.slice xs))) λrs'=>k (.own sz xs) rs'
    |_,c=>c.bind λc=>k (.val c.get) rs)
 |.store t a x =>
  match tk with
  |true=>aJ (!drawn||EB.isEmpty) (th P t an.keep tm rs a x λrs'=>k .dead rs')
  |false=>dD a (S a) λp=>bO drawn EB p <| aT an.keep tm rs p λcs off=>(aU P t).bind λs =>
   dO an.keep tm rs x λv rs=>aJ (Nat.beq v.length s&&Nat.ble (off+s) cs.length) (bS rs p (setCells cs off v) λrs'=>k .dead rs')
 |.nilCheck x =>
  match S x with
  |.box _=>(match x with|.tmp t=>k (.ref t 0) rs|_=>none)
  |.ref t o=>k (.ref t o) rs
  |.val (.loc i o)=>k (.val (.loc i o)) rs
  |.val (.ay v)=>k (.val (.ay v)) rs
  |.val (.rc t f a b e)=>k (.val (.rc t f a b e)) rs
  |.val (.func f cs)=>k (.val (.func f cs)) rs
  |_=>none
 |.binOp op ty x y _ =>
  match op,dV y with
  |.eql,true=>aJ (fD P ty) ((cO (S x)).bind λb=>k (.val (.bool b)) rs)
  |.neq,true=>aJ (fD P ty) ((cO (S x)).bind λb=>k (.val (.bool (!b))) rs)
  |_,_ =>
   match op,isNilIface y,S x with
   |.eql,true,.val .fh=>aJ (qI P ty) (k (.val (.bool true)) rs)
   |.neq,true,.val .fh=>aJ (qI P ty) (k (.val (.bool false)) rs)
   |_,_,sx=>DS sx λa=>DS (S y) λb=>aJ (hH P ty a) ((gZ op a b).bind λv=>k (.val v) rs)
 |.unOp op _ x =>
  match op,S x with
  |.not,.val (.bool b)=>k (.val (.bool (!b))) rs
  |_,_=>none
 |.fieldAddr t x f =>
  (AD P t f).bind λot=>(aU P ot.2).bind λs=>aJ (Nat.blt 0 s) (dD x (S x) λp =>
   match p with
   |.loc t o=>k (.ref t (o+ot.1)) rs
   |.obj i o=>k (.val (.loc i (o+ot.1))) rs
   |.kc v=>(aW P ot.2).bind λagg=>(partOf agg v.cells ot.1 s).bind λu=>k (.val (.ay u)) rs)
 |.indexAddr t x ix =>
  match P.underlying t with
  |some (.slice e)=>lD (S x) λxs=>asInt (S ix) λ_ n=>(aU P e).bind λs=>aJ (decide (0<=n)) ((xs[n.toNat]?).bind λv=>aJ (Nat.beq v.cells.length s) (k (.val (.ay v)) rs))
  |some (.array len e)=>dD x (S x) λp=>asInt (S ix) λ_ n=>(aU P e).bind λs=>aJ (decide (0<=n)&&decide (n<len)) (
   match p with
   |.loc t o=>k (.ref t (o+n.toNat * s)) rs
   |.obj i o=>k (.val (.loc i (o+n.toNat * s))) rs
   |.kc v=>(aW P e).bind λagg=>(partOf agg v.cells (n.toNat * s) s).bind λu=>k (.val (.ay u)) rs)
  |_=>none
 |.slice t x lo hi mx =>
  match P.underlying t with
  |some .string=>(match S x,mx with
   |.val (.str s),none=>jQ an.keep tm rs lo 0 λl=>jQ an.keep tm rs hi s.length λh =>
    aJ (decide (0<=l)&&decide (l<=h)&&decide (h<=(s.length:Int))) (k (.val (.str ((s.take h.toNat).drop l.toNat))) rs)
   |_,_=>none)
  |some (.slice e)=>(aU P e).bind λsz=>lD (S x) λxs=>jQ an.keep tm rs lo 0 λl=>jQ an.keep tm rs hi xs.length λh =>
   match mx with
   |none=>fH sz false xs l h λs=>k s rs
   |some m=>asInt (AZ an.keep tm rs m) λ_ m=>aJ (decide (m=h)) (match hi with
    |some _=>fH sz true xs l h λs=>k s rs
    |none=>none)
  |_=>none
 |.makeInterface t x =>
  match P.underlying t with
  |some (.interface _)=>none
  |some _=>DS (S x) λv=>k (.val (.iface t v)) rs
  |none=>none
 |.makeFunc fn first caps =>
  match fn,first.toList with
  |.func f,[]=>mM an.keep tm rs caps.toList λl=>k (.val (.func f l)) rs
  |_,_=>none
 |.typeAssert x _ t ok =>
  match P.underlying t with
  |some (.interface _)=>none
  |some _=>(zeroOf P t).bind λz =>
   match S x with
   |.val .fh=>aJ ok (k (.aj [z,.bool false]) rs)
   |.val (.iface u v)=>(match Nat.beq u t with
    |true=>(match ok with
     |true=>k (.aj [v,.bool true]) rs
     |false=>k (.val v) rs)
    |false=>aJ ok (k (.aj [z,.bool false]) rs))
   |_=>none
  |none=>none
 |.extract t ix =>
  match S t with
  |.aj vs=>(vs[ix]?).bind λv=>k (.val v) rs
  |_=>none
 |.panic x =>
  match drawn,S x with
  |false,.val (.iface t v)=>kp (.iface t v) rs
  |_,_=>none
 |.call c =>
  match c.callee,c.args.toList with
  |.builtin .len,[x]=>(match(c.argTypes[0]?).bind P.underlying with
   |some .string=>(match S x with|.val (.str s)=>k (.val (.int .i64 s.length)) rs|_=>none)
   |some (.slice _)=>lD (S x) λxs=>k (.val (.int .i64 xs.length)) rs
   |some (.array n _)=>k (.val (.int .i64 n)) rs
   |_=>none)
  |.builtin .append,[s,x]=>(match(c.argTypes[0]?).bind (aQ P),(c.argTypes[1]?).bind (aQ P) with
   |some e,some _=>(aU P e).bind λsz=>(zeroOf P e).bind λz=>lD (S x) λys=>aJ (Nat.blt 0 sz&&Nat.beq z.cells.length sz&&Nat.ble (bC P e) 16384&&Nat.blt 0 (bC P e)&&ys.all (λy=>Nat.beq y.cells.length sz)) (match S s,s with
    |.own G1 xs,.tmp t=>aJ (Nat.beq sz G1&&Nat.ble (xs.length+ys.length) room) (k (.own sz (xs++ys)) (rs.put t (.val (.slice xs))))
    |.full xs,_=>aJ (xs.all (λy=>Nat.beq y.cells.length sz)&&Nat.ble (xs.length+ys.length) room&&(xs.isEmpty||!ys.isEmpty)) (k (.own sz (xs++ys)) rs)
    |.nl,_=>aJ (Nat.ble ys.length room) (k (.own sz ys) rs)
    |_,_=>none)
   |_,_=>none)
  |.builtin .max,[x,y]=>asInt (S x) λkd n=>asInt (S y) λ_ m=>k (.val (.int kd (bif decide (m>n) then m else n))) rs
  |.value f,args=>(match S f with
   |.val (.func g caps)=>fX an.keep tm rs (ans g).ownArg 0 args λl rs'=>cY AA cf (.fn g) (l++caps.map .val) rs' kp k
   |.val (.bN i)=>fX an.keep tm rs [] 0 args λl rs'=>cY AA cf (.bN i) l rs' kp k
   |_=>none)
  |.invoke r m,args=>(match S r with
   |.val (.iface u v)=>(Nu P m u).bind λf=>mM an.keep tm rs args λl=>cY AA cf (.fn f) ((v::l).map .val) rs kp k
   |_=>none)
  |_,_=>none
 |_=>none
def uw(d:Nat)(sc:List (Nat×Slot)):Bool:=sc.all λp=>match bV sc p.1 with|some (.ref t _)=>!Nat.beq t d|_=>true
def dW(an:AF)(o:Oper)(s:Slot)(rs:RS):Bool :=
 match o.dst with
 |none=>true
 |some d=>Nat.blt d an.nt&&(match s with|.ref t _=>!Nat.beq t d|_=>true)&&(!an.loc.contains d||uw d rs.sc)
def pE(s:Slot)(k:Bool->Option R)(skip:Option R):Option R:=match s with
 |.val (.bool b)=>k b
 |.aj []=>skip
 |_=>none
def iA(P:Program)(ans:FuncId->AF)(an:AF)(drawn:Bool)(cf:aI)(tm:List Slot)(rid:Nat)(ops:Array Oper)(kp:ae->RS->Option R)(o:Oper)(i:Nat)(rs:RS)(next:RS->Option R):Option R :=
 let go (rs:RS):Option R:=aC P ans an drawn (an.pure.contains (rid,i)) (match drawn with|true=>eM an.loc ops.toList ops.size (addrOf o)|false=>[]) cf tm (an.take.contains (rid,i)) o rs kp λs rs'=>aJ (dW an o s rs') (next (rs'.jq o.dst s))
 match o.guard with
 |none=>go rs
 |some (j,want) =>
  match(ops[j]?).bind (·.dst) with
  |none=>none
  |some d=>pE (rs.look an.keep tm d) (λb=>match b==want with
   |true=>go (rs.put d (.val (.bool b)))
   |false=>aJ (dW an o .dead rs) (next ((rs.put d (.val (.bool b))).jq o.dst (.aj [])))) (aJ (dW an o .dead rs) (next (rs.jq o.dst (.aj []))))
def j3(P:Program)(ans:FuncId->AF)(an:AF)(drawn:Bool)(cf:aI)(tm:List Slot)(rid:Nat)(ops:Array Oper)(kp:ae->RS->Option R)(kn:RS->Option R):List Oper->Nat->RS->Option R
 |[],_,rs=>kn rs
 |o::os,i,rs=>iA P ans an drawn cf tm rid ops kp o i rs λrs'=>j3 P ans an drawn cf tm rid ops kp kn os (i+1) rs'
inductive lA where
 |p|r|c|t|w|x
def cJ(ans:FuncId->AF)(loc:List Nat)(ops:Array Oper)(pure tk:Bool)(o:Oper):lA :=
 match o.op with
 |.move _|.assign _|.pick ..|.build ..|.buildSlice ..|.nilCheck _|.binOp ..|.unOp ..|.convert ..|.fieldAddr ..|.field ..|.indexAddr ..|.index ..|.slice ..|.makeInterface ..|.makeFunc ..|.extract ..=>.p
 |.alloc _=>(match o.dst with|some d=>if loc.contains d then .p else .w|none=>.x)
 |.box ..=>(match o.dst with|some d=>if loc.contains d||tk then .p else .w|none=>.x)
 |.load _ a=>(match pure,eM loc ops.toList ops.size a,tk with
  |true,_,_=>.p
  |_,_::_,_=>.p
  |_,[],true=>.t
  |_,[],false=>.r)
 |.store _ a _=>(match eM loc ops.toList ops.size a with|_::_=>.p|[]=>.w)
 |.lookup ..=>.r
 |.mapUpdate ..|.makeMap ..=>.w
 |.call c=>(match c.callee with
  |.builtin .append=>.p
  |.builtin .len=>.r
  |.builtin .max=>.p
  |.builtin .min=>.p
  |.value f=>(match pure,f with
   |true,.func g=>if(ans g).jx then .p else .c
   |true,_=>.c
   |false,_=>.w)
  |_=>.x)
 |_=>.x
def lA.qa:lA->lA->Bool
 |.x,_=>true
 |_,.x=>true
 |.p,_=>false
 |_,.p=>false
 |.w,_=>true
 |_,.w=>true
 |.t,.t=>true
 |.t,.c=>true
 |.c,.t=>true
 |_,_=>false
def GR(ops:Array Oper)(o:Oper):List Nat :=
 (o.op.operands.toList.filterMap fun|.tmp t=>some t|_=>none)++(match o.guard with|some (j,_)=>((ops[j]?).bind (·.dst)).toList|none=>[])
def cons(keep:List Nat)(tk:Bool)(o:Oper):List Nat :=
 match o.op with
 |.call c=>(match c.callee with
  |.builtin .append=>(c.args.toList.filterMap fun|.tmp t=>some t|_=>none)
  |.value _=>(c.args.toList.filterMap fun|.tmp t=>some t|_=>none)
  |_=>[])
 |.move (.tmp t)=>if tk||!keep.contains t then[t] else[]
 |.assign (.tmp t)=>if tk||!keep.contains t then[t] else[]
 |.store _ _ (.tmp t)=>if !keep.contains t then[t] else[]
 |.box _ (.tmp t)=>if !keep.contains t then[t] else[]
 |_=>[]
def Ic(loc:List Nat)(ops:Array Oper)(o:Oper):List Nat :=
 match o.op with
 |.load _ a=>eM loc ops.toList ops.size a
 |.store _ a _=>eM loc ops.toList ops.size a
 |_=>[]
def IQ(loc:List Nat)(ops:Array Oper)(o:Oper):List Nat :=
 match o.op with
 |.store _ a _=>eM loc ops.toList ops.size a
 |_=>[]
def HL(loc:List Nat)(ops:Array Oper)(tk:Bool)(o:Oper):List Nat :=
 match o.op with
 |.load _ a=>if tk then eM loc ops.toList ops.size a else[]
 |_=>[]
def meets(l m:List Nat):Bool:=l.any λt=>m.contains t
def nW(keep loc:List Nat)(ops:Array Oper)(ta tb:Bool)(a b:Oper):Bool :=
 meets (a.dst.toList++cons keep ta a) (GR ops b++Ic loc ops b++b.dst.toList++cons keep tb b)||meets (IQ loc ops a) (Ic loc ops b)||meets (HL loc ops ta a) (HL loc ops tb b++IQ loc ops b)
def eL(o:Oper):Option Nat :=
 match o.op with
 |.nilCheck (.tmp t)=>some t
 |.fieldAddr _ (.tmp t) _=>some t
 |.indexAddr _ (.tmp t) _=>some t
 |_=>none
def pB(ans:FuncId->AF)(an:AF)(rid:Nat)(ops:Array Oper):Bool :=
 let bf:=Region.before ops
 let n:=ops.size
 (List.range n).all λj=>(List.range j).all λi =>
  match ops[i]?,ops[j]? with
  |some a,some b =>
   let ta:=an.take.contains (rid,i)
   let tb:=an.take.contains (rid,j)
   (bf.getD j 0).testBit i||!((cJ ans an.loc ops (an.pure.contains (rid,i)) ta a).qa (cJ ans an.loc ops (an.pure.contains (rid,j)) tb b)||nW an.keep an.loc ops ta tb a b||nW an.keep an.loc ops tb ta b a)
  |_,_=>false
def MW(ans:FuncId->AF)(an:AF)(rid:Nat)(ops:Array Oper):Bool :=
 (List.range ops.size).all λi=>match ops[i]? with
  |some a=>(match cJ ans an.loc ops (an.pure.contains (rid,i)) (an.take.contains (rid,i)) a with|.x=>false|_=>true)&&!meets a.dst.toList (GR ops a)&&a.after.all (λe=>!Region.binds .any e||Nat.blt e.on i) &&
   (match a.dst with|some d=>!an.loc.contains d||ops.all (λo=>match eL o with|some t=>!Nat.beq t d|none=>true)|none=>true)
  |none=>false
def fC:Code->Option Nat
 |.region id _ _=>some id
 |.seq a b=>match fC a with|some i=>some i|none=>fC b
 |.cond _ a b=>match fC a with|some i=>some i|none=>fC b
 |.block _ c=>fC c
 |.loop c=>fC c
 |.rangeFunc _ _ a b=>match fC a with|some i=>some i|none=>fC b
 |.scope c=>fC c
 |_=>none
def mV(c:Option (Option Nat))(s:Slot):Slot :=
 match c with
 |none=>.dead
 |some none=>s
 |some (some sz)=>match s with
  |.nl=>.own sz []
  |s=>s
def We:List (Nat×Option Nat)->Nat->Option (Option Nat)
 |[],_=>none
 |(k,c)::r,t=>bif Nat.beq k t then some c else We r t
def gP(h:List (Nat×Option Nat)):List Nat->List Slot->List Slot
 |k::ks,s::ss=>mV (We h k) s::gP h ks ss
 |_,_=>[]
def zy:List (Nat×List (Nat×Option Nat))->Nat->Option (List (Nat×Option Nat))
 |[],_=>none
 |(k,h)::r,t=>bif Nat.beq k t then some h else zy r t
def iL(objs:List ai)(s:Slot):Slot :=
 match s with
 |.val (.loc i o)=>bif Nat.beq o 0 then(match objs[i]? with
  |some (.fw v)=>.val v
  |_=>s) else s
 |s=>s
def dZ(objs:List ai)(l:List Nat):List Nat->List Slot->List Slot
 |k::ks,s::ss=>(bif l.contains k then iL objs s else s)::dZ objs l ks ss
 |_,_=>[]
def nX(an:AF)(c:Code)(st:St):St :=
 match(fC c).bind (zy an.heads) with
 |some h=>{ st with tm:=gP h an.keep st.tm }
 |none=>st
def e8(an:AF)(c:Code)(st:St):St :=
 match an.nN with
 |[]=>nX an c st
 |l=>nX an c { st with tm:=dZ st.sto.objs l an.keep st.tm }
def dU:Slot->Slot
 |.val v=>.val v
 |.full xs=>.full xs
 |.nl=>.nl
 |.nn xs=>.nn xs
 |.own _ xs=>.val (.slice xs)
 |.cells cs=>.val (.agg (cs.map Cell.get))
 |_=>.dead
def dH(keep:List Nat)(tm:List Slot)(ps:List (Nat×Slot)):List Slot:=ed keep tm ps.reverse
def XK(P:Program)(ans:FuncId->AF)(cf:aI)(lp:aO)(fid:FuncId):Code->St->(bG->St->Option R)->Option R
 |.skip,st,K=>K .norm st
 |.label _,st,K=>K .norm st
 |.seq a b,st,K=>XK P ans cf lp fid a st λe AY =>
  match e with
  |.norm=>XK P ans cf lp fid b AY K
  |.exit id=>K (.exit id) AY
  |.ret=>K .ret AY
  |.be v=>K (.be v) AY
 |.cond c a b,st,K=>asBool (AZ (ans fid).keep st.tm ⟨[],st.sto⟩ c) λt =>
  match t with
  |true=>XK P ans cf lp fid a st K
  |false=>XK P ans cf lp fid b st K
 |.block id c,st,K=>XK P ans cf lp fid c st λe AY =>
  match e with
  |.norm=>K .norm AY
  |.exit DC=>(bif Nat.beq DC id then K .norm AY else K (.exit DC) AY)
  |.ret=>K .ret AY
  |.be v=>K (.be v) AY
 |.scope c,st,K=>XK P ans cf lp fid c st K
 |.exit id,st,K=>K (.exit id) st
 |.ret,st,K=>K .ret st
 |.region id ops false,st,K=>j3 P ans (ans fid) false cf st.tm id ops (λv rs=>K (.be v) ⟨st.tm,rs.sto⟩) (λrs=>K .norm ⟨ed (ans fid).keep st.tm rs.sc,rs.sto⟩) ops.toList 0 ⟨[],st.sto⟩
 |.region id ops true,st,K =>
   aJ (pB ans (ans fid) id ops&&MW ans (ans fid) id ops) (j3 P ans (ans fid) true cf st.tm id ops (λ_ _=>none) (λrs=>K .norm ⟨ed (ans fid).keep st.tm rs.sc,rs.sto⟩) ops.toList 0 ⟨[],st.sto⟩)
 |.loop c,st,K=>(lp fid c (e8 (ans fid) c st)).bind λp=>K p.1 p.2
 |.rangeFunc f params assign body,st,K =>
  match AZ (ans fid).keep st.tm ⟨[],st.sto⟩ f with
  |.val (.func g caps) =>
   (cf (.fn g) (.val (.bN st.sto.objs.length)::caps.map .val)
    { st.sto with objs:=st.sto.objs++[.loop ⟨fid,st.tm.map dU,params,assign,body,none,.ready⟩] }).bind λr =>
   match r with
   |(.be v,sto)=>K (.be v) { st with sto:=sto }
   |(.ret _,sto) =>
    match sto.objs[st.sto.objs.length]? with
    |some (.loop l) =>
     match l.state,l.pend with
     |.ready,none=>K .norm { st with sto:={ sto with objs:=sto.objs.take st.sto.objs.length } }
     |.done,some .ret=>K .ret { st with sto:={ sto with objs:=sto.objs.take st.sto.objs.length } }
     |.done,some (.exit id)=>K (.exit id) { st with sto:={ sto with objs:=sto.objs.take st.sto.objs.length } }
     |_,_=>none
    |_=>none
  |_=>none
 |_,_,_=>none
def b8:Code->Bool
 |.seq a b=>b8 a&&b8 b
 |.cond _ a b=>b8 a&&b8 b
 |.block _ c=>b8 c
 |.loop c=>b8 c
 |.scope c=>b8 c
 |.rangeFunc ..=>false
 |_=>true
def gv(sto:AH)(i:Nat)(l:iU):AH:={ sto with objs:=sto.objs.set i (.loop l) }
def dE(sto:AH)(i:Nat)(k:iU->Option R):Option R :=
 match sto.objs[i]? with
 |some (.loop l)=>k l
 |_=>none
def cut(n:Nat)(sto:AH):AH:={ sto with objs:=sto.objs.take n }
def Slot.isVal:Slot->Bool
 |.val _=>true
 |_=>false
def fG(P:Program)(an:AF)(tm:List Slot)(rs:List ResultVar)(sto:AH)(k:List ae->Option R):Option R :=
 match rs with
 |[]=>k []
 |.tmp t::r=>DS (bg an.keep tm t) λv=>fG P an tm r sto λl=>k (v::l)
 |.cell a t::r=>dD (.tmp a) (bg an.keep tm a) λp=>aT an.keep tm ⟨[],sto⟩ p λcs off=>(aU P t).bind λs=>(aW P t).bind λagg =>
  aJ (agg||Nat.beq s 1) ((partOf agg (cs.map Cell.get) off s).bind λv=>fG P an tm r sto λl=>k (v::l))
end
def trim(n:Nat)(s:Slot)(sto:AH):AH:=bif cF n s then{ sto with objs:=sto.objs.take n } else sto
def finish(P:Program)(an:AF)(fn:Func)(n:Nat)(st:St):Option (d_×AH) :=
  match an.ownRes,fn.results.toList with
  |true,[.tmp t]=>(match bg an.keep st.tm t with
   |.own sz xs=>some (.ret (.own sz xs),trim n (.own sz xs) st.sto)
   |.nl=>some (.ret .nl,trim n .nl st.sto)
   |s=>DS s λv=>some (.ret (.val v),trim n (.val v) st.sto))
  |_,rs=>fG P an st.tm rs st.sto λvs =>
   match vs with
   |[v]=>some (.ret (.val v),trim n (.val v) st.sto)
   |vs=>some (.ret (.aj vs),trim n (.aj vs) st.sto)
def fg:d_->Option Slot
 |.ret s=>aJ (cF 0 s) (some s)
 |.be _=>none
def cG(P:Program)(ans:FuncId->AF)(pr:gG)(cf:aI)(lp:aO):aI
 |.fn f,args,sto =>
  match pr f args with
  |some r=>(r.bind fg).map λs=>(.ret s,sto)
  |none=>bif (ans f).jx then none else
   match P.funcs[f]? with
   |none=>none
   |some fn =>
    match fn.body with
    |none=>none
    |some c=>aJ (Nat.beq fn.ntmps (ans f).nt&&Nat.ble args.length fn.ntmps) <| XK P ans cf lp f c ⟨(ans f).keep.map λt=>(args[t]?).getD .dead,sto⟩ λe st =>
     match e with
     |.norm=>finish P (ans f) fn sto.objs.length st
     |.ret=>finish P (ans f) fn sto.objs.length st
     |.be v=>some (.be v,st.sto)
     |.exit _=>none
 |.bN i,args,sto =>
  dE sto i λl =>
   match l.state with
   |.ready=>aJ (Nat.ble sto.lo i&&Nat.beq args.length l.params.size&&b8 l.assign&&b8 l.body&&args.all Slot.isVal&&(P.funcs[l.fn]?).isSome&&l.params.toList.all (λp=>Nat.blt p (ans l.fn).nt))
     (XK P ans cf lp l.fn l.assign ⟨dH (ans l.fn).keep l.tm (l.params.toList.zip args),sto⟩ λe st =>
      match e with
      |.norm=>dE st.sto i λl1 =>
       match l1.state with
       |.ready=>XK P ans cf lp l.fn l.body { st with sto:=gv st.sto i { l1 with state:=.busy } } λe st =>
        match e with
        |.norm=>dE st.sto i λl2=>some (.ret (.val (.bool true)),cut sto.objs.length (gv st.sto i { l2 with state:=.ready,pend:=none }))
        |.ret=>dE st.sto i λl2=>some (.ret (.val (.bool false)),cut sto.objs.length (gv st.sto i { l2 with state:=.done,pend:=some .ret }))
        |.exit id=>dE st.sto i λl2=>some (.ret (.val (.bool false)),cut sto.objs.length (gv st.sto i { l2 with state:=.done,pend:=some (.exit id) }))
        |.be v=>some (.be v,st.sto)
       |_=>none
      |_=>none)
   |_=>none
def hY(P:Program)(ans:FuncId->AF)(cf:aI)(lp:aO):aO:=λfid c st =>
 XK P ans cf lp fid c st λe AY =>
  match e with
  |.norm=>lp fid c (e8 (ans fid) c AY)
  |e=>some (e,AY)
def run(P:Program)(ans:FuncId->AF)(pr:gG):Nat->aI×aO
 |0=>(λ_ _ _=>none,λ_ _ _=>none)
 |n+1=>(cG P ans pr (run P ans pr n).1 (run P ans pr n).2,hY P ans (run P ans pr n).1 (run P ans pr n).2)
end
abbrev HC:=ae->Prop
def FZ:HC:=λ_=>False
abbrev HT:=Nat->Nat->HC
def HT.le(Ψ Z':HT):Prop:=∀b o c,Ψ b o c->Z' b o c
theorem HT.le_refl(Ψ:HT):Ψ.le Ψ:=λ_ _ _ h=>h
theorem HT.le_trans{A B C:HT}(h:A.le B)(k:B.le C):A.le C:=λb o c x=>k b o c (h b o c x)
def pre(J J':List Nat):Prop:=∀i b:Nat,J[i]?=some b->J'[i]?=some b
theorem aG(J:List Nat):pre J J:=λ_ _ h=>h
theorem dF{a b c:List Nat}(h:pre a b)(k:pre b c):pre a c:=λi x y=>k i x (h i x y)
theorem eD(J l:List Nat):pre J (J++l):=λi b h=>by
 rw[Az (Ab.1 h).1];exact h
theorem pre_nil(J:List Nat):pre [] J:=λi b h=>by simp at h
theorem a0m{J:List Nat}{m:Nat}:pre (J.take m) J:=λi b hb=>by
 rw[Bl] at hb
 split at hb
 ·exact hb
 ·simp at hb
def hV:Value->Bool
 |.agg _=>false
 |.tuple _=>false
 |_=>true
def ae.ci:ae->Bool
 |.agg _=>false
 |_=>true
inductive am (Ψ:HT) (J:List Nat):ae->Value->Prop where
 |bool (b:Bool):am Ψ J (.bool b) (.bool b)
 |int (k:IntKind) (n:Int):am Ψ J (.int k n) (.int k n)
 |str (s:List UInt8):am Ψ J (.str s) (.string ⟨⟨s⟩⟩)
 |slice (xs:List ae) (a:Option Addr) (len cap s:Nat) (hl:xs.length=len) (hc:len<=cap)
   (hx:∀(i:Nat)(x:ae),xs[i]?=some x->x.cells.length=s/\∃b o:Nat,a=some ⟨b,o,none⟩/\∀(j:Nat)(c:ae),x.cells[j]?=some c->Ψ b (o+i*s+j) c):am Ψ J (.slice xs) (.slice a len cap)
 |agg (cs:List ae) (vs:List Value) (hl:cs.length=vs.length) (hk:∀(i:Nat)(c:ae),cs[i]?=some c->c.ci=true)
   (hx:∀(i:Nat)(c:ae)(v:Value),cs[i]?=some c->vs[i]?=some v->am Ψ J c v):am Ψ J (.agg cs) (.agg ⟨vs⟩)
 |cW:am Ψ J .cW (.pointer none)
 |kQ:am Ψ J .kQ .nilFunc
 |ld:am Ψ J .ld (.map none)
 |fh:am Ψ J .fh .nilIface
 |loc (i off b:Nat) (h:J[i]?=some b):am Ψ J (.loc i off) (.pointer (some ⟨b,off,none⟩))
 |ln (i b:Nat) (h:J[i]?=some b):am Ψ J (.ln i) (.map (some b))
 |bN (i b:Nat) (h:J[i]?=some b):am Ψ J (.bN i) (.func (.yield b) #[] #[])
 |ay (x:ae) (b o:Nat) (h:∀(j:Nat)(c:ae),x.cells[j]?=some c->Ψ b (o+j) c):am Ψ J (.ay x) (.pointer (some ⟨b,o,none⟩))
 |func (f:FuncId) (cs:List ae) (vs:List Value) (hl:cs.length=vs.length)
   (hx:∀(i:Nat)(c:ae)(v:Value),cs[i]?=some c->vs[i]?=some v->am Ψ J c v):am Ψ J (.func f cs) (.func (.func f) #[] ⟨vs⟩)
 |iface (t:TypeId) (x:ae) (v:Value) (h:am Ψ J x v):am Ψ J (.iface t x) (.iface t v)
 |ko (v:Value) (h:v=.nilIface\/∃t x,v=.iface t x):am Ψ J .ko v
 |raw (v:Value) (h:hV v=true):am Ψ J (.raw v) v
 |rc (t:TypeId) (f a:List UInt8) (x e:ae) (b o:Nat) (h:∀(j:Nat)(c:ae),(SK t f a x e).cells[j]?=some c->Ψ b (o+j) c):am Ψ J (.rc t f a x e) (.pointer (some ⟨b,o,none⟩))
theorem am.mono{Ψ Z':HT}(hΨ:Ψ.le Z'){J J':List Nat}(hp:pre J J'){x:ae}{v:Value}(h:am Ψ J x v):am Z' J' x v:=by
 induction h with
 |bool=>exact .bool _
 |int=>exact .int _ _
 |str=>exact .str _
 |slice xs a len cap s hl hc hx =>
  exact .slice xs a len cap s hl hc λi x e=>by
   obtain⟨h1,b,o,h2,h3⟩:=hx i x e;exact⟨h1,b,o,h2,λj c hj=>hΨ _ _ _ (h3 j c hj)⟩
 |agg cs vs hl hk hx ih=>exact .agg cs vs hl hk λi c v h1 h2=>ih i c v h1 h2
 |cW=>exact .cW
 |kQ=>exact .kQ
 |ld=>exact .ld
 |fh=>exact .fh
 |loc i off b h=>exact .loc i off b (hp i b h)
 |ln i b h=>exact .ln i b (hp i b h)
 |bN i b h=>exact .bN i b (hp i b h)
 |ay x b o h=>exact .ay x b o λj c hj=>hΨ _ _ _ (h j c hj)
 |func f cs vs hl hx ih=>exact .func f cs vs hl λi c v h1 h2=>ih i c v h1 h2
 |iface t x v h ih=>exact .iface t x v ih
 |ko v h=>exact .ko v h
 |raw v h=>exact .raw v h
 |rc t f a x e b o h=>exact .rc t f a x e b o λj c hj=>hΨ _ _ _ (h j c hj)
theorem am.oc{Ψ:HT}{J J':List Nat}{x:ae}{v:Value}(h:am Ψ J x v)(hf:AM.oc x=true):am Ψ J' x v:=by
 cases h with
 |bool=>exact .bool _
 |int=>exact .int _ _
 |str=>exact .str _
 |slice xs a len cap s hl hc hx=>exact .slice xs a _ cap s hl hc hx
 |cW=>exact .cW
 |kQ=>exact .kQ
 |ld=>exact .ld
 |fh=>exact .fh
 |ay x b o h=>exact .ay x b o h
 |agg=>simp[AM.oc] at hf
 |loc=>simp[AM.oc] at hf
 |ln=>simp[AM.oc] at hf
 |bN=>simp[AM.oc] at hf
 |func=>simp[AM.oc] at hf
 |iface=>simp[AM.oc] at hf
 |ko v h=>exact .ko v h
 |raw v h=>exact .raw v h
 |rc t f a x e b o h=>exact .rc t f a x e b o h
theorem am.flat{Ψ:HT}{J J':List Nat}{x:ae}{v:Value}(h:am Ψ J x v)(hf:AM.flat x=true):am Ψ J' x v:=by
 cases h with
 |bool=>exact .bool _
 |int=>exact .int _ _
 |str=>exact .str _
 |slice xs a len cap s hl hc hx=>exact .slice xs a _ cap s hl hc hx
 |cW=>exact .cW
 |kQ=>exact .kQ
 |ld=>exact .ld
 |fh=>exact .fh
 |ay x b o h=>exact .ay x b o h
 |agg=>simp[AM.flat] at hf
 |loc=>simp[AM.flat] at hf
 |ln=>simp[AM.flat] at hf
 |bN=>simp[AM.flat] at hf
 |func=>simp[AM.flat] at hf
 |iface t x v h=>exact .iface t x v (h.oc hf)
 |ko v h=>exact .ko v h
 |raw v h=>exact .raw v h
 |rc t f a x e b o h=>exact .rc t f a x e b o h
theorem j6{x:ae}(h:flat x=true):x.ci=true:=by cases x<;>simp_all [flat,ae.ci]
theorem fK{x:ae}(h:x.ci=true):x.cells=[x]:=by cases x<;>simp_all [ae.cells,ae.ci]
theorem am.one{Ψ:HT}{J:List Nat}{x:ae}{v:Value}(h:am Ψ J x v)(hc:x.ci=true):hV v=true:=by
 cases h with
 |ko v h=>rcases h with rfl|⟨t,x,rfl⟩<;>rfl
 |raw v h=>exact h
 |_=>simp_all [hV,ae.ci]
theorem am.cells{Ψ:HT}{J:List Nat}{x:ae}{v:Value}(h:am Ψ J x v) :
  x.cells.length=v.cells.size/\(∀(i:Nat)(c:ae),x.cells[i]?=some c->c.ci=true)/\∀(i:Nat)(c:ae)(u:Value),x.cells[i]?=some c->v.cells[i]?=some u->am Ψ J c u:=by
 by_cases hx:x.ci=true
 ·have h1:=h.one hx
  rw[fK hx];have hv:v.cells=#[v]:=by cases v<;>simp_all [Value.cells,hV]
  rw[hv];refine⟨rfl,?_,?_⟩
  ·intro i c hi
   cases i with
   |zero=>simp at hi;subst hi;exact hx
   |succ n=>simp at hi
  ·intro i c u hi hu
   cases i with
   |zero=>simp at hi hu;subst hi;subst hu;exact h
   |succ n=>simp at hi
 ·cases h with
  |agg cs vs hl hk HB=>exact⟨by simpa[ae.cells,Value.cells] using hl,hk,λi c u h1 h2=>HB i c u h1 (by simpa[Value.cells] using h2)⟩
  |_=>simp_all [ae.ci]
theorem am.clean{Ψ:HT}{J J':List Nat}{x:ae}{v:Value}(h:am Ψ J x v)(hf:AM.clean x=true):am Ψ J' x v:=by
 by_cases hx:x.ci=true
 ·refine h.flat ?_
  simpa[AM.clean,fK hx] using hf
 ·cases h with
  |agg cs vs hl hk HB =>
   refine .agg cs vs hl hk λi c v h1 h2=>(HB i c v h1 h2).flat ?_
   have:=Au.1 (show cs.all AM.flat=true from hf) c (Be h1)
   exact this
  |_=>simp_all [ae.ci]
theorem am.js{Ψ:HT}{J:List Nat}{n:Nat}{x:ae}{v:Value}(h:am Ψ J x v)(hf:AM.js n x=true):am Ψ (J.take n) x v:=by
 cases h with
 |bool=>exact .bool _
 |int=>exact .int _ _
 |str=>exact .str _
 |slice xs a len cap s hl hc hx=>exact .slice xs a _ cap s hl hc hx
 |cW=>exact .cW
 |kQ=>exact .kQ
 |ld=>exact .ld
 |fh=>exact .fh
 |ay x b o h=>exact .ay x b o h
 |agg=>simp[AM.js] at hf
 |loc i off b h=>exact .loc i off b (by rw[Bl,Br (by simpa[AM.js,Cy] using hf)];exact h)
 |ln i b h=>exact .ln i b (by rw[Bl,Br (by simpa[AM.js,Cy] using hf)];exact h)
 |bN i b h=>exact .bN i b (by rw[Bl,Br (by simpa[AM.js,Cy] using hf)];exact h)
 |func=>simp[AM.js] at hf
 |iface t x v h =>
  rcases Bool.or_eq_true_iff.1 (show(AM.clean x||ng n x)=true from hf) with hf|hf
  ·exact .iface t x v (h.clean hf)
  ·cases h with
   |loc i off b h=>exact .iface _ _ _ (.loc i off b (by rw[Bl,Br (by simpa[ng,Cy] using hf)];exact h))
   |_=>simp[ng] at hf
 |ko v h=>exact .ko v h
 |raw v h=>exact .raw v h
 |rc t f a x e b o h=>exact .rc t f a x e b o h
theorem am.ct{Ψ:HT}{J:List Nat}{n:Nat}{x:ae}{v:Value}(h:am Ψ J x v)(hf:AM.ct n x=true):am Ψ (J.take n) x v:=by
 cases h with
 |agg cs vs hl hk HB=>exact .agg cs vs hl hk λi c v h1 h2=>(HB i c v h1 h2).js (Au.1 (show cs.all (AM.js n)=true from hf) c (Be h1))
 |func f cs vs hl HB=>exact .func f cs vs hl λi c v h1 h2=>(HB i c v h1 h2).js (Au.1 (show cs.all (AM.js n)=true from hf) c (Be h1))
 |bool=>exact .bool _
 |int=>exact .int _ _
 |str=>exact .str _
 |slice xs a len cap s hl hc hx=>exact .slice xs a _ cap s hl hc hx
 |cW=>exact .cW
 |kQ=>exact .kQ
 |ld=>exact .ld
 |fh=>exact .fh
 |ay x b o h=>exact .ay x b o h
 |loc i off b h=>exact am.js (.loc i off b h) hf
 |ln i b h=>exact am.js (.ln i b h) hf
 |bN i b h=>exact am.js (.bN i b h) hf
 |iface t x v h=>exact am.js (.iface t x v h) hf
 |ko v h=>exact .ko v h
 |raw v h=>exact .raw v h
 |rc t f a x e b o h=>exact .rc t f a x e b o h
structure c_ (Ψ:HT) (w:World):Prop where
 kS:8<=w.heap.size
 sat:∀b o c,Ψ b o c->flat c=true/\∃v,w.cell? ⟨b,o,none⟩=some v/\am Ψ [] c v
abbrev IM:=Bool×Nat×Nat
abbrev Own:=Nat->Option IM
structure kw (w:World) (B0:Nat) (Ψ:HT) (ow:Own) (id:IM) (sz:Nat) (xs:List ae) (v:Value):Prop where
 rel:am Ψ [] (.slice xs) v
 elems:∀x∈xs,x.cells.length=sz
 rest:∃a len cap,v=.slice a len cap/\(xs=[]/\len=cap\/∃b o cs E,a=some ⟨b,o,none⟩/\ow b=some id/\w.heap[b]?=some (.cells cs E (0,0))/\B0<=b/\o+cap*sz<=cs.size/\∀o',o+len*sz<=o'->Ψ b o'=FZ)
inductive mL (w:World) (B0:Nat) (Ψ:HT) (J:List Nat) (ow:Own) (id:IM):Cell->Value->Prop where
 |val (c:ae) (v:Value) (hc:c.ci=true) (h:am Ψ J c v):mL w B0 Ψ J ow id (.val c) v
 |own (sz:Nat) (xs:List ae) (v:Value) (h:kw w B0 Ψ ow id sz xs v):mL w B0 Ψ J ow id (.own sz xs) v
def ie(w:World)(B0:Nat)(Ψ:HT)(J:List Nat)(ow:Own)(k:Bool)(i:Nat)(cs:List Cell)(vs:List Value):Prop :=
 cs.length=vs.length/\∀(j:Nat)(c:Cell)(v:Value),cs[j]?=some c->vs[j]?=some v->mL w B0 Ψ J ow (k,i,j+1) c v
structure lf (w:World) (B0:Nat) (Ψ:HT) (J:List Nat) (ow:Own) (k:Bool) (i:Nat) (cs:List Cell) (b:Nat):Prop where
 own:ow b=some (k,i,0)
 base:B0<=b
 free:∀o,Ψ b o=FZ
 heap:∃vs T,w.heap[b]?=some (.cells ⟨vs⟩ T (0,0))/\ie w B0 Ψ J ow k i cs vs
inductive bX (w:World) (B0:Nat) (Ψ:HT) (J:List Nat) (ow:Own) (tmps:Array Value) (t:Nat):Slot->Value->Prop where
 |dead (v:Value):bX w B0 Ψ J ow tmps t .dead v
 |val (x:ae) (v:Value) (h:am Ψ J x v):bX w B0 Ψ J ow tmps t (.val x) v
 |aj (xs:List ae) (vs:List Value) (hl:xs.length=vs.length) (h:∀(i:Nat)(x:ae)(v:Value),xs[i]?=some x->vs[i]?=some v->am Ψ J x v):bX w B0 Ψ J ow tmps t (.aj xs) (.tuple ⟨vs⟩)
 |own (sz:Nat) (xs:List ae) (v:Value) (h:kw w B0 Ψ ow (false,t,1) sz xs v):bX w B0 Ψ J ow tmps t (.own sz xs) v
 |full (xs:List ae) (a:Option Addr) (n:Nat) (h:am Ψ [] (.slice xs) (.slice a n n)):bX w B0 Ψ J ow tmps t (.full xs) (.slice a n n)
 |nl:bX w B0 Ψ J ow tmps t .nl (.slice none 0 0)
 |nn (xs:List ae) (a:Addr) (n c:Nat) (h:am Ψ [] (.slice xs) (.slice (some a) n c)):bX w B0 Ψ J ow tmps t (.nn xs) (.slice (some a) n c)
 |cells (cs:List Cell) (vs:List Value) (h:ie w B0 Ψ J ow false t cs vs):bX w B0 Ψ J ow tmps t (.cells cs) (.agg ⟨vs⟩)
 |box (cs:List Cell) (b:Nat) (h:lf w B0 Ψ J ow false t cs b):bX w B0 Ψ J ow tmps t (.box cs) (.pointer (some ⟨b,0,none⟩))
 |ref (u o b:Nat) (h:tmps.getD u undef=.pointer (some ⟨b,0,none⟩)):bX w B0 Ψ J ow tmps t (.ref u o) (.pointer (some ⟨b,o,none⟩))
def aNH(Ψ:HT)(es:List (ae×ae))(AJ:List MapEntry):Prop :=
 es.length=AJ.length/\∀(i:Nat)(p:ae×ae)(e:MapEntry),es[i]?=some p->AJ[i]?=some e->isKey p.1=true/\am Ψ [] p.1 e.key/\am Ψ [] p.2 e.val
structure s_ (w:World) (Ψ:HT) (J:List Nat) (ans:FuncId->AF) (l:iU) (r:Loop):Prop where
 state:r.state=l.state
 pend:r.pending=l.pend
 fn:r.fn=l.fn
 params:r.params=l.params
 assign:r.assign=l.assign
 body:r.body=l.body
 size:r.tmps.size=(ans l.fn).nt
 dr:∀t,bX w 0 Ψ J (λ_=>none) r.tmps t (bg (ans l.fn).keep l.tm t) (r.tmps.getD t undef)
 snap:∀s∈l.tm,dU s=s
 hi:∀t,(ans l.fn).nt<=t->bg (ans l.fn).keep l.tm t=.dead
inductive m6 (w:World) (B0:Nat) (Ψ:HT) (J:List Nat) (ow:Own) (ans:FuncId->AF) (i:Nat):ai->Nat->Prop where
 |box (cs:List Cell) (b:Nat) (h:lf w B0 Ψ (J.take (i+1)) ow true i cs b):m6 w B0 Ψ J ow ans i (.box cs) b
 |map (es:List (ae×ae)) (b:Nat) (AJ:Array MapEntry) (clock:Nat) (hb:w.heap[b]?=some (.map AJ clock)) (ho:ow b=some (true,i,0)) (h0:B0<=b) (hf:∀o,Ψ b o=FZ)
   (h:aNH Ψ es AJ.toList):m6 w B0 Ψ J ow ans i (.map es) b
 |loop (l:iU) (b:Nat) (r:Loop) (hb:w.heap[b]?=some (.loop r)) (ho:ow b=some (true,i,0)) (h0:B0<=b) (hf:∀o,Ψ b o=FZ)
   (h:s_ w Ψ (J.take (i+1)) ans l r):m6 w B0 Ψ J ow ans i (.loop l) b
 |fw (v:ae) (b:Nat) (h:am Ψ [] v (.pointer (some ⟨b,0,none⟩))):m6 w B0 Ψ J ow ans i (.fw v) b
def i_(w:World)(B0:Nat)(Ψ:HT)(J:List Nat)(ow:Own)(ans:FuncId->AF)(objs:List ai):Prop :=
 J.length=objs.length/\∀(i:Nat)(o:ai),objs[i]?=some o->∃b:Nat,J[i]?=some b/\m6 w B0 Ψ J ow ans i o b
structure Fr (w:World) (Ψ:HT) (ow:Own) (w':World) (Z':HT) (AO:Own):Prop where
 le:Ψ.le Z'
 size:w.heap.size<=w'.heap.size
 keep:∀b,b<w.heap.size->ow b=none->w'.heap[b]?=w.heap[b]?/\∀o,Z' b o=Ψ b o
 own:∀b,AO b≠none->ow b≠none\/w.heap.size<=b
 os:w'.os=w.os
 tape:w'.tape=w.tape
 output:w'.output=w.output
theorem Fr.refl(w:World)(Ψ:HT)(ow:Own):Fr w Ψ ow w Ψ ow:=⟨Ψ.le_refl,Ae _,λ_ _ _=>⟨rfl,λ_=>rfl⟩,λ_ h=>.inl h,rfl,rfl,rfl⟩
theorem Fr.trans{w w1 w2:World}{Ψ Z1 Z2:HT}{ow BR CG:Own}(h:Fr w Ψ ow w1 Z1 BR)(k:Fr w1 Z1 BR w2 Z2 CG):Fr w Ψ ow w2 Z2 CG where
 le:=HT.le_trans h.le k.le
 size:=Bi h.size k.size
 keep:=λb hb ho=>by
  have h1:=h.keep b hb ho
  have N4:BR b=none:=by
   cases e:BR b with
   |none=>rfl
   |some x=>rcases h.own b (by simp[e]) with h'|h'
            ·exact absurd ho h'
            ·omega
  have h2:=k.keep b (Bt hb h.size) N4;exact⟨h2.1.trans h1.1,λo=>(h2.2 o).trans (h1.2 o)⟩
 own:=λb hb=>by
  rcases k.own b hb with h'|h'
  ·exact h.own b h'
  ·exact .inr (Bi h.size h')
 os:=k.os.trans h.os
 tape:=k.tape.trans h.tape
 output:=k.output.trans h.output
end Go.AM
