import Derived.AtR
import Derived.RangeFuncRecord
set_option linter.all false
section
namespace Go.AM
inductive AVal where
 |bool (b:Bool)
 |int (k:IntKind) (n:Int)
 |str (s:List UInt8)
 |slice (xs:List AVal)
 |agg (cs:List AVal)
 |nilptr
 |nilfunc
 |nilmap
 |nilif
 |loc (i off:Nat)
 |amap (i:Nat)
 |yld (i:Nat)
 |cptr (x:AVal)
 |func (f:FuncId) (caps:List AVal)
 |iface (t:TypeId) (v:AVal)
 |opq
instance:Inhabited AVal:=⟨.nilptr⟩
def AVal.cells:AVal→List AVal
 |.agg cs=>cs
 |v=>[v]
inductive Cell where
 |val (v:AVal)
 |own (sz:Nat) (xs:List AVal)
inductive Slot where
 |dead
 |val (v:AVal)
 |tup (vs:List AVal)
 |own (sz:Nat) (xs:List AVal)
 |full (xs:List AVal)
 |nl
 |nn (xs:List AVal)
 |cells (cs:List Cell)
 |box (cs:List Cell)
 |ref (t off:Nat)
instance:Inhabited Slot:=⟨.dead⟩
structure Ann where
 nt:Nat
 keep:List Nat
 loc:List Nat
 take:List (Nat×Nat)
 pure:List (Nat×Nat)
 heads:List (Nat×List (Nat×Option Nat))
 ownRes:Bool
 ownArg:List Nat
 prim:Bool:=false
 mac:List Nat:=[]
structure iP where
 fn:FuncId
 tm:List Slot
 params:Array Tmp
 assign:Code
 body:Code
 pend:Option Code
 state:LoopState
inductive AObj where
 |box (cs:List Cell)
 |map (es:List (AVal×AVal))
 |loop (l:iP)
structure Sto where
 objs:List AObj
 lo:Nat
structure St where
 tm:List Slot
 sto:Sto
structure RS where
 sc:List (Nat×Slot)
 sto:Sto
inductive ARes where
 |ret (s:Slot)
 |pan (v:AVal)
inductive bM where
 |norm
 |exit (id:Nat)
 |ret
 |pan (v:AVal)
inductive Callee where
 |fn (f:FuncId)
 |yld (i:Nat)
def Cell.get:Cell→AVal
 |.val v=>v
 |.own _ xs=>.slice xs
abbrev aO:=Callee→List Slot→Sto→Option (ARes×Sto)
abbrev aT:=FuncId→Code→St→Option (bM×St)
abbrev hZ:=FuncId→List Slot→Option (Option ARes)
section
variable {R:Type}
def asV (s:Slot) (k:AVal→Option R):Option R :=
 match s with
 |.val v=>k v
 |.own _ xs=>k (.slice xs)
 |.full xs=>k (.slice xs)
 |.nl=>k (.slice [])
 |.nn xs=>k (.slice xs)
 |.cells cs=>k (.agg (cs.map Cell.get))
 |_=>none
def kP (s:Slot) (k:List AVal→Option R):Option R :=
 match s with
 |.val (.slice xs)=>k xs
 |.own _ xs=>k xs
 |.full xs=>k xs
 |.nl=>k []
 |.nn xs=>k xs
 |_=>none
def asInt (s:Slot) (k:IntKind→Int→Option R):Option R :=
 match s with
 |.val (.int kd n)=>k kd n
 |_=>none
def asBool (s:Slot) (k:Bool→Option R):Option R :=
 match s with
 |.val (.bool b)=>bif b then k true else k false
 |_=>none
def mv (s:Slot) (k:Slot→Option R):Option R :=
 match s with
 |.val v=>k (.val v)
 |.tup vs=>k (.tup vs)
 |.own _ xs=>k (.val (.slice xs))
 |.full xs=>k (.full xs)
 |.nl=>k .nl
 |.nn xs=>k (.nn xs)
 |.cells cs=>k (.val (.agg (cs.map Cell.get)))
 |.box _=>none
 |.ref t o=>k (.ref t o)
 |.dead=>none
def aJ (b:Bool) (k:Option R):Option R:=bif b then k else none
def aZ (P:Program) (t:TypeId):Option Nat:=(P.info? t).map (·.size)
def aL (P:Program) (t:TypeId):Nat:=((P.info? t).map (·.bytes)).getD 0
def bC (P:Program) (t:TypeId):Option Bool :=
 match P.underlying t with
 |some (.struct _)=>some true
 |some (.array _ _)=>some true
 |some _=>some false
 |none=>none
def aR (P:Program) (t:TypeId):Option TypeId :=
 match P.underlying t with
 |some (.slice e)=>some e
 |_=>none
def fieldAt? (P:Program) (t:TypeId) (f:Nat):Option (Nat×TypeId) :=
 match P.underlying t with
 |some (.struct fs)=>(fs[f]?).map fun x=>(x.offset,x.type)
 |_=>none
def iY:Value→Option AVal
 |.bool b=>some (.bool b)
 |.int k n=>some (.int k n)
 |.string s=>some (.str s.data.toList)
 |.pointer none=>some .nilptr
 |.slice none 0 0=>some (.slice [])
 |.map none=>some .nilmap
 |.nilFunc=>some .nilfunc
 |.nilIface=>some .nilif
 |_=>none
def kh:List Value→Option (List AVal)
 |[]=>some []
 |v::vs=>(iY v).bind fun a=>(kh vs).map (a::·)
def gH:Value→Option AVal
 |.agg cs=>(kh cs.toList).map .agg
 |v=>iY v
def hints (P:Program):Nat→TypeId→List (Option Nat)
 |0,_=>[]
 |d+1,t =>
  match P.underlying t with
  |some (.struct fs)=>fs.toList.flatMap fun f=>hints P d f.type
  |some (.slice e)=>[aZ P e]
  |some (.array n e)=>(List.replicate n (hints P d e)).flatten
  |_=>[none]
def aCr:Option Nat→AVal→Cell
 |some sz,.slice []=>.own sz []
 |_,v=>.val v
def eO:List (Option Nat)→List AVal→List Cell
 |h::hs,v::vs=>aCr h v::eO hs vs
 |_,vs=>vs.map .val
def zeroOf (P:Program) (t:TypeId):Option AVal:=((P.info? t).bind (·.zero)).bind gH
def zeroCells (P:Program) (t:TypeId):Option (List Cell):=(zeroOf P t).map fun z=>eO (hints P 8 t) z.cells
def partOf (agg:Bool) (cs:List AVal) (off s:Nat):Option AVal :=
 if agg then (bif Nat.ble (off+s) cs.length then some (.agg ((cs.drop off).take s)) else none) else cs[off]?
def flat:AVal→Bool
 |.loc _ _=>false
 |.amap _=>false
 |.yld _=>false
 |.func _ _=>false
 |.iface _ _=>false
 |.agg _=>false
 |_=>true
def clean (v:AVal):Bool:=v.cells.all flat
def lokF (n:Nat):AVal→Bool
 |.loc i _=>Nat.blt i n
 |.amap i=>Nat.blt i n
 |.yld i=>Nat.blt i n
 |.agg _=>false
 |.func _ _=>false
 |.iface _ v=>clean v
 |_=>true
def lok (n:Nat) (v:AVal):Bool :=
 match v with
 |.agg cs=>cs.all (lokF n)
 |.func _ caps=>caps.all (lokF n)
 |v=>lokF n v
def Cell.lok (n:Nat):Cell→Bool
 |.val v=>AM.lok n v
 |.own _ _=>true
def cH (n:Nat):Slot→Bool
 |.val v=>lok n v
 |.tup vs=>vs.all (lok n)
 |_=>true
def bZ:List (Nat×Slot)→Nat→Option Slot
 |[],_=>none
 |(k,s)::r,t=>bif Nat.beq k t then some s else bZ r t
def tlook:List Nat→List Slot→Nat→Slot
 |k::ks,s::ss,t=>bif Nat.beq k t then s else tlook ks ss t
 |_,_,_=>.dead
def RS.look (keep:List Nat) (tm:List Slot) (rs:RS) (t:Nat):Slot :=
 match bZ rs.sc t with
 |some s=>s
 |none=>tlook keep tm t
def RS.put (rs:RS) (t:Nat) (s:Slot):RS:={ rs with sc:=(t,s)::rs.sc }
def RS.putO (rs:RS) (t:Option Nat) (s:Slot):RS :=
 match t with
 |some t=>rs.put t s
 |none=>rs
def gJ (v:Value):Slot :=
 match v with
 |.slice none 0 0=>.nl
 |v=>match gH v with
  |some a=>.val a
  |none=>.dead
def l8 (P:Program) (t:TypeId) (v:Value):Slot :=
 match v with
 |.slice none 0 0=>(match (aR P t).bind (aZ P) with
  |some sz=>.own sz []
  |none=>.nl)
 |v=>gJ v
def opS (keep:List Nat) (tm:List Slot) (rs:RS):Operand→Slot
 |.tmp t=>rs.look keep tm t
 |.const v=>gJ v
 |.func f=>.val (.func f [])
 |.global _=>.dead
def k6:Slot→Slot
 |.ref _ _=>.dead
 |s=>s
def commit:List Nat→List Slot→List (Nat×Slot)→List Slot
 |k::ks,s::ss,sc=>(match bZ sc k with|some s'=>k6 s'|none=>s)::commit ks ss sc
 |_,_,_=>[]
inductive Place where
 |loc (t off:Nat)
 |obj (i off:Nat)
 |imm (x:AVal)
def dH (x:Operand) (s:Slot) (k:Place→Option R):Option R :=
 match s with
 |.box _=>(match x with|.tmp t=>k (.loc t 0)|_=>none)
 |.ref t o=>k (.loc t o)
 |.val (.loc i o)=>k (.obj i o)
 |.val (.cptr x)=>k (.imm x)
 |_=>none
def oW (s:Slot) (k:List Cell→Option R):Option R :=
 match s with
 |.box cs=>k cs
 |_=>none
def jO (o:Option AObj) (k:List Cell→Option R):Option R :=
 match o with
 |some (.box cs)=>k cs
 |_=>none
def lF (o:Option AObj) (k:List (AVal×AVal)→Option R):Option R :=
 match o with
 |some (.map es)=>k es
 |_=>none
def aU (keep:List Nat) (tm:List Slot) (rs:RS) (p:Place) (k:List Cell→Nat→Option R):Option R :=
 match p with
 |.loc t o=>oW (rs.look keep tm t) fun cs=>k cs o
 |.obj i o=>jO rs.sto.objs[i]? fun cs=>k cs o
 |.imm x=>k (x.cells.map .val) 0
def setCells (cs:List Cell) (off:Nat) (new:List Cell):List Cell:=cs.take off++new++cs.drop (off+new.length)
def bV (rs:RS) (p:Place) (cs:List Cell) (k:RS→Option R):Option R :=
 match p with
 |.loc t _=>k (rs.put t (.box cs))
 |.obj i _=>aJ (Nat.ble rs.sto.lo i&&cs.all (Cell.lok (i+1))) (k { rs with sto:={ rs.sto with objs:=rs.sto.objs.set i (.box cs) } })
 |.imm _=>none
def iQ (op:BinOp) (x y:AVal):Option AVal :=
 match x,y with
 |.int k a,.int k' b =>
  if k=k' then
   match op with
   |.add=>some (.int k (k.wrap (a+b)))
   |.sub=>some (.int k (k.wrap (a - b)))
   |.mul=>some (.int k (k.wrap (a * b)))
   |.rem=>if b=0 then none else some (.int k (a.tmod b))
   |.eql=>some (.bool (a==b))
   |.neq=>some (.bool (a != b))
   |.lss=>some (.bool (a < b))
   |.leq=>some (.bool (a≤b))
   |.gtr=>some (.bool (a > b))
   |.geq=>some (.bool (a≥b))
   |_=>none
  else none
 |.str a,.str b =>
  match op with
  |.eql=>some (.bool (a==b))
  |.neq=>some (.bool (!(a==b)))
  |_=>none
 |.bool a,.bool b =>
  match op with
  |.eql=>some (.bool (a==b))
  |.neq=>some (.bool (!(a==b)))
  |_=>none
 |.nilif,.nilif=>none
 |.nilif,.iface _ _ =>
  match op with
  |.eql=>some (.bool false)
  |.neq=>some (.bool true)
  |_=>none
 |.iface _ _,.nilif =>
  match op with
  |.eql=>some (.bool false)
  |.neq=>some (.bool true)
  |_=>none
 |.nilptr,.nilptr =>
  match op with
  |.eql=>some (.bool true)
  |.neq=>some (.bool false)
  |_=>none
 |.cptr _,.nilptr =>
  match op with
  |.eql=>some (.bool false)
  |.neq=>some (.bool true)
  |_=>none
 |.loc _ _,.nilptr =>
  match op with
  |.eql=>some (.bool false)
  |.neq=>some (.bool true)
  |_=>none
 |_,_=>none
def fB (P:Program) (t:TypeId):Bool:=match P.underlying t with|some (.slice _)=>true|_=>false
def oJ (P:Program) (t:TypeId):Bool:=match P.underlying t with|some (.interface _)=>true|_=>false
def zP (P:Program) (t:TypeId):Bool:=match P.underlying t with|some .bool=>true|_=>false
def u6 (P:Program) (t:TypeId):Bool:=match P.underlying t with|some (.pointer _)=>true|_=>false
def aCL (P:Program) (t:TypeId):Bool:=match P.underlying t with|some (.map _ _)=>true|_=>false
def keyT (P:Program) (t:TypeId) (v:AVal):Bool :=
 match P.underlying t,v with
 |some (.int _),.int _ _=>true
 |some .string,.str _=>true
 |_,_=>false
def iM (P:Program) (t:TypeId):AVal→Bool
 |.int _ _=>true
 |.str _=>true
 |.bool _=>zP P t
 |.nilif=>oJ P t
 |.iface _ _=>oJ P t
 |.nilptr=>u6 P t
 |.cptr _=>u6 P t
 |.loc _ _=>u6 P t
 |_=>false
def cQ (s:Slot):Option Bool :=
 match s with
 |.nl=>some true
 |.nn _=>some false
 |.own _ (_::_)=>some false
 |.full (_::_)=>some false
 |.val (.slice (_::_))=>some false
 |_=>none
def dR:Operand→Bool
 |.const (.slice none _ _)=>true
 |_=>false
def isNilIface:Operand→Bool
 |.const .nilIface=>true
 |_=>false
def dS (x y:AVal):Option Bool :=
 match x,y with
 |.str a,.str b=>some (a==b)
 |.int k a,.int k' b=>if k=k' then some (a==b) else none
 |_,_=>none
def fW (x:AVal):List (AVal×AVal)→Option (Option AVal)
 |[]=>some none
 |(k,v)::es=>(dS x k).bind fun b=>bif b then some (some v) else fW x es
def kR (x v:AVal):List (AVal×AVal)→Option (List (AVal×AVal))
 |[]=>some [(x,v)]
 |(k,u)::es=>(dS x k).bind fun b=>bif b then some ((x,v)::es) else (kR x v es).map ((k,u)::·)
def isKey:AVal→Bool
 |.str _=>true
 |.int _ _=>true
 |_=>false
def rX (place:Nat→Option (Nat×Nat)) (cs:List Cell):List (Nat×AVal)→Option (List Cell)
 |[]=>some cs
 |(i,v)::rest=>(place i).bind fun p=>bif Nat.beq v.cells.length p.2&&Nat.ble (p.1+p.2) cs.length then rX place (cs.take p.1++v.cells.map .val++cs.drop (p.1+v.cells.length)) rest else none
def dI (keep:List Nat) (tm:List Slot) (rs:RS) (x:Operand) (k:List Cell→RS→Option R):Option R :=
 match opS keep tm rs x,x with
 |.own sz xs,.tmp t=>(match keep.contains t with
  |true=>k [.val (.slice xs)] rs
  |false=>k [.own sz xs] (rs.put t (.val (.slice xs))))
 |.own sz [],.const _=>k [.own sz []] rs
 |.cells cs,.tmp t=>(match keep.contains t with
  |true=>k (cs.map fun c=>.val c.get) rs
  |false=>k cs (rs.put t (.val (.agg (cs.map Cell.get)))))
 |s,_=>asV s fun v=>k (v.cells.map .val) rs
def eL (P:Program) (t:TypeId) (keep:List Nat) (tm:List Slot) (rs:RS) (x:Operand) (k:List Cell→RS→Option R):Option R :=
 match opS keep tm rs x with
 |.nl=>(aR P t).bind fun e=>(aZ P e).bind fun sz=>k [.own sz []] rs
 |_=>dI keep tm rs x k
def gF (keep:List Nat) (tm:List Slot) (rs:RS) (ps:List (Nat×Operand)) (k:List (Nat×AVal)→Option R):Option R :=
 match ps with
 |[]=>k []
 |(i,x)::r=>asV (opS keep tm rs x) fun v=>gF keep tm rs r fun l=>k ((i,v)::l)
def bI (s:Nat) (xs:List AVal):List (Nat×AVal)→Option (List AVal)
 |[]=>some xs
 |(i,v)::r=>bif Nat.beq v.cells.length s&&Nat.blt i xs.length&&clean v then bI s (xs.set i v) r else none
def gB (keep:List Nat) (tm:List Slot) (rs:RS) (own:List Nat) (i:Nat) (xs:List Operand) (k:List Slot→RS→Option R):Option R :=
 match xs with
 |[]=>k [] rs
 |x::r =>
  match opS keep tm rs x,own.contains i,x with
  |.own sz l0,true,.tmp t=>gB keep tm (rs.put t (.val (.slice l0))) own (i+1) r fun l rs'=>k (.own sz l0::l) rs'
  |.nl,true,_=>gB keep tm rs own (i+1) r fun l rs'=>k (.nl::l) rs'
  |s,_,_=>asV s fun v=>gB keep tm rs own (i+1) r fun l rs'=>k (.val v::l) rs'
def nM (keep:List Nat) (tm:List Slot) (rs:RS) (xs:List Operand) (k:List AVal→Option R):Option R :=
 match xs with
 |[]=>k []
 |x::r=>asV (opS keep tm rs x) fun v=>nM keep tm rs r fun l=>k (v::l)
def room:Nat:=4294967296
def qx (sz:Nat):List AVal→Bool
 |[]=>true
 |x::_=>Nat.beq x.cells.length sz
def e8 (sz:Nat) (full:Bool) (xs:List AVal) (l h:Int) (k:Slot→Option R):Option R :=
 aJ (decide (0≤l)&&decide (l≤h)&&decide (h≤(xs.length:Int))&&qx sz ((xs.take h.toNat).drop l.toNat))
  (k (if full then .full ((xs.take h.toNat).drop l.toNat) else .val (.slice ((xs.take h.toNat).drop l.toNat))))
def jN (keep:List Nat) (tm:List Slot) (rs:RS) (x:Option Operand) (d:Int) (k:Int→Option R):Option R :=
 match x with
 |none=>k d
 |some x=>asInt (opS keep tm rs x) fun _ n=>k n
def wJ:Slot→Bool
 |.ref _ _=>false
 |_=>true
def dD (prot:Bool) (cf:aO) (c:Callee) (args:List Slot) (rs:RS) (kp:AVal→RS→Option R) (k:Slot→RS→Option R):Option R :=
 match prot with
 |false=>(cf c args rs.sto).bind fun r =>
  match r with
  |(.ret s,sto)=>aJ (wJ s) (k s { rs with sto:=sto })
  |(.pan v,sto)=>kp v { rs with sto:=sto }
 |true=>(cf c args { rs.sto with lo:=rs.sto.objs.length }).bind fun r =>
  match r with
  |(.ret s,_)=>aJ (cH rs.sto.objs.length s&&wJ s) (k s rs)
  |(.pan _,_)=>none
def eK (loc:List Nat) (ops:List Oper):Nat→Operand→List Nat
 |0,_=>[]
 |n+1,.tmp t=>if loc.contains t then [t] else ops.flatMap fun o=>if o.dst==some t then (match o.op with
  |.fieldAddr _ x _=>eK loc ops n x
  |.indexAddr _ x _=>eK loc ops n x
  |.nilCheck x=>eK loc ops n x
  |_=>[]) else []
 |_,_=>[]
def addrOf (o:Oper):Operand :=
 match o.op with
 |.load _ a=>a
 |.store _ a _=>a
 |_=>.global 0
def bQ (drawn:Bool) (rts:List Nat) (p:Place) (k:Option R):Option R :=
 match drawn with
 |false=>k
 |true=>match p with
  |.loc u _=>aJ (rts.contains u) k
  |_=>aJ rts.isEmpty k
def mvK (P:Program) (an:Ann) (tm:List Slot) (tk:Bool) (ty:TypeId) (x:Operand) (rs:RS) (k:Slot→RS→Option R):Option R :=
 match x with
 |.tmp t=>(match opS an.keep tm rs x with
  |.own sz xs=>(match tk||!an.keep.contains t with
   |true=>k (.own sz xs) (rs.put t (.val (.slice xs)))
   |false=>k (.val (.slice xs)) rs)
  |.cells cs=>(match tk||!an.keep.contains t with
   |true=>k (.cells cs) (rs.put t (.val (.agg (cs.map Cell.get))))
   |false=>k (.val (.agg (cs.map Cell.get))) rs)
  |s=>mv s fun s'=>k s' rs)
 |.const v=>(match l8 P ty v with
  |.dead=>none
  |s=>k s rs)
 |x=>mv (opS an.keep tm rs x) fun s'=>k s' rs
def aB (P:Program) (ans:FuncId→Ann) (an:Ann) (drawn prot:Bool) (lcl:List Nat) (cf:aO) (tm:List Slot) (tk:Bool) (o:Oper) (rs:RS) (kp:AVal→RS→Option R) (k:Slot→RS→Option R):Option R :=
 let S:=opS an.keep tm rs
 match o.op with
 |.move x=>mvK P an tm tk o.type x rs k
 |.assign x=>mvK P an tm tk o.type x rs k
 |.pick c a b=>asBool (S c) fun t=>mv (S (match t with|true=>a|false=>b)) fun s'=>k s' rs
 |.alloc t =>
  (zeroCells P t).bind fun z=>(aZ P t).bind fun s=>aJ (Nat.beq z.length s) (
   match o.dst with
   |some d=>match an.loc.contains d with
    |true=>k (.box z) rs
    |false=>k (.val (.loc rs.sto.objs.length 0)) { rs with sto:={ rs.sto with objs:=rs.sto.objs++[.box z] } }
   |none=>none)
 |.box t x =>
  eL P t an.keep tm rs x fun v rs=>(aZ P t).bind fun s=>aJ (Nat.beq v.length s) (
   match o.dst with
   |some d=>match an.loc.contains d with
    |true=>k (.box v) rs
    |false=>aJ (v.all (Cell.lok rs.sto.objs.length)) (k (.val (.loc rs.sto.objs.length 0)) { rs with sto:={ rs.sto with objs:=rs.sto.objs++[.box v] } })
   |none=>none)
 |.build t parts =>
  (zeroCells P t).bind fun z =>
  match P.underlying t with
  |some (.struct fs)=>gF an.keep tm rs parts.toList fun l =>
   (fs.toList.mapM fun f=>(P.info? f.type).map fun i=>(f.offset,i.size)).bind fun places=>(rX (places[·]?) z l).bind fun cs=>k (.cells cs) rs
  |some (.array _ e)=>gF an.keep tm rs parts.toList fun l =>
   (aZ P e).bind fun s=>(rX (fun i=>some (i * s,s)) z l).bind fun cs=>k (.cells cs) rs
  |_=>none
 |.buildSlice t len parts =>
  (aR P t).bind fun e=>(aZ P e).bind fun s=>aJ (Nat.blt 0 s&&Nat.ble (len * s) 16777216) (gF an.keep tm rs parts.toList fun l =>
   (zeroOf P e).bind fun z=>aJ (Nat.beq z.cells.length s&&clean z) ((bI s (List.replicate len z) l).bind fun xs=>k (.full xs) rs))
 |.load t a =>
  dH a (S a) fun p=>bQ drawn lcl p <| aU an.keep tm rs p fun cs off=>(aZ P t).bind fun s=>(bC P t).bind fun agg =>
   match agg with
   |true=>(partOf true (cs.map Cell.get) off s).bind fun v=>k (.val v) rs
   |false=>aJ (Nat.beq s 1) (match tk,cs[off]? with
    |true,some (.own sz xs)=>bV rs p (cs.set off (.val (.slice xs))) fun rs'=>k (.own sz xs) rs'
    |_,c=>c.bind fun c=>k (.val c.get) rs)
 |.store t a x =>
  dH a (S a) fun p=>bQ drawn lcl p <| aU an.keep tm rs p fun cs off=>(aZ P t).bind fun s =>
   dI an.keep tm rs x fun v rs=>aJ (Nat.beq v.length s&&Nat.ble (off+s) cs.length) (bV rs p (setCells cs off v) fun rs'=>k .dead rs')
 |.nilCheck x =>
  match S x with
  |.box _=>(match x with|.tmp t=>k (.ref t 0) rs|_=>none)
  |.ref t o=>k (.ref t o) rs
  |.val (.loc i o)=>k (.val (.loc i o)) rs
  |.val (.cptr v)=>k (.val (.cptr v)) rs
  |.val (.func f cs)=>k (.val (.func f cs)) rs
  |_=>none
 |.binOp op ty x y _ =>
  match op,dR y with
  |.eql,true=>aJ (fB P ty) ((cQ (S x)).bind fun b=>k (.val (.bool b)) rs)
  |.neq,true=>aJ (fB P ty) ((cQ (S x)).bind fun b=>k (.val (.bool (!b))) rs)
  |_,_ =>
   match op,isNilIface y,S x with
   |.eql,true,.val .nilif=>aJ (oJ P ty) (k (.val (.bool true)) rs)
   |.neq,true,.val .nilif=>aJ (oJ P ty) (k (.val (.bool false)) rs)
   |_,_,sx=>asV sx fun a=>asV (S y) fun b=>aJ (iM P ty a) ((iQ op a b).bind fun v=>k (.val v) rs)
 |.unOp op _ x =>
  match op,S x with
  |.not,.val (.bool b)=>k (.val (.bool (!b))) rs
  |.neg,.val (.int kd n)=>k (.val (.int kd (kd.wrap (0 - n)))) rs
  |_,_=>none
 |.convert src dst x =>
  match P.underlying src,P.underlying dst with
  |some (.int _),some (.int kd)=>asInt (S x) fun _ n=>k (.val (.int kd (kd.wrap n))) rs
  |some .string,some .string=>(match S x with|.val (.str s)=>k (.val (.str s)) rs|_=>none)
  |_,_=>none
 |.fieldAddr t x f =>
  (fieldAt? P t f).bind fun ot=>(aZ P ot.2).bind fun s=>aJ (Nat.blt 0 s) (dH x (S x) fun p =>
   match p with
   |.loc t o=>k (.ref t (o+ot.1)) rs
   |.obj i o=>k (.val (.loc i (o+ot.1))) rs
   |.imm v=>(bC P ot.2).bind fun agg=>(partOf agg v.cells ot.1 s).bind fun u=>k (.val (.cptr u)) rs)
 |.field t x f =>
  (fieldAt? P t f).bind fun ot=>(aZ P ot.2).bind fun s=>(bC P ot.2).bind fun agg =>
   match S x with
   |.val (.agg cs)=>(partOf agg cs ot.1 s).bind fun u=>k (.val u) rs
   |_=>none
 |.indexAddr t x ix =>
  match P.underlying t with
  |some (.slice e)=>kP (S x) fun xs=>asInt (S ix) fun _ n=>(aZ P e).bind fun s=>aJ (decide (0≤n)) ((xs[n.toNat]?).bind fun v=>aJ (Nat.beq v.cells.length s) (k (.val (.cptr v)) rs))
  |some (.array len e)=>dH x (S x) fun p=>asInt (S ix) fun _ n=>(aZ P e).bind fun s=>aJ (decide (0≤n)&&decide (n < len)) (
   match p with
   |.loc t o=>k (.ref t (o+n.toNat * s)) rs
   |.obj i o=>k (.val (.loc i (o+n.toNat * s))) rs
   |.imm v=>(bC P e).bind fun agg=>(partOf agg v.cells (n.toNat * s) s).bind fun u=>k (.val (.cptr u)) rs)
  |_=>none
 |.index t x ix =>
  match P.underlying t,S x with
  |some .string,.val (.str s)=>asInt (S ix) fun _ n=>aJ (decide (0≤n)) ((s[n.toNat]?).bind fun b=>k (.val (.int .u8 b.toNat)) rs)
  |some (.array len e),.val (.agg cs)=>asInt (S ix) fun _ n=>(aZ P e).bind fun s=>(bC P e).bind fun agg=>aJ (decide (0≤n)&&decide (n < len)) (
    (partOf agg cs (n.toNat * s) s).bind fun u=>k (.val u) rs)
  |some (.array len e),.cells cs=>asInt (S ix) fun _ n=>(aZ P e).bind fun s=>(bC P e).bind fun agg=>aJ (decide (0≤n)&&decide (n < len)) (
    (partOf agg (cs.map Cell.get) (n.toNat * s) s).bind fun u=>k (.val u) rs)
  |_,_=>none
 |.slice t x lo hi mx =>
  match P.underlying t with
  |some .string=>(match S x,mx with
   |.val (.str s),none=>jN an.keep tm rs lo 0 fun l=>jN an.keep tm rs hi s.length fun h =>
    aJ (decide (0≤l)&&decide (l≤h)&&decide (h≤(s.length:Int))) (k (.val (.str ((s.take h.toNat).drop l.toNat))) rs)
   |_,_=>none)
  |some (.slice e)=>(aZ P e).bind fun sz=>kP (S x) fun xs=>jN an.keep tm rs lo 0 fun l=>jN an.keep tm rs hi xs.length fun h =>
   match mx with
   |none=>e8 sz false xs l h fun s=>k s rs
   |some m=>asInt (opS an.keep tm rs m) fun _ m=>aJ (decide (m=h)) (match hi with
    |some _=>e8 sz true xs l h fun s=>k s rs
    |none=>none)
  |_=>none
 |.makeInterface t x =>
  match P.underlying t with
  |some (.interface _)=>none
  |some _=>asV (S x) fun v=>k (.val (.iface t v)) rs
  |none=>none
 |.makeFunc fn first caps =>
  match fn,first.toList with
  |.func f,[]=>nM an.keep tm rs caps.toList fun l=>k (.val (.func f l)) rs
  |_,_=>none
 |.makeMap t r =>
  match r with
  |none=>k (.val (.amap rs.sto.objs.length)) { rs with sto:={ rs.sto with objs:=rs.sto.objs++[.map []] } }
  |some x=>asInt (S x) fun _ _=>aJ (aCL P t) <| k (.val (.amap rs.sto.objs.length)) { rs with sto:={ rs.sto with objs:=rs.sto.objs++[.map []] } }
 |.lookup t m key ok =>
  match P.underlying t,S m with
  |some (.map kt e),.val (.amap i)=>lF rs.sto.objs[i]? fun es=>asV (S key) fun kv=>aJ (keyT P kt kv) ((fW kv es).bind fun r=>(zeroOf P e).bind fun z =>
   match ok with
   |true=>k (.tup [r.getD z,.bool r.isSome]) rs
   |false=>k (.val (r.getD z)) rs)
  |_,_=>none
 |.mapUpdate t m key x =>
  match P.underlying t,S m with
  |some (.map kt _),.val (.amap i)=>lF rs.sto.objs[i]? fun es=>asV (S key) fun kv=>asV (S x) fun v=>aJ (keyT P kt kv&&clean v&&Nat.ble rs.sto.lo i) (
   (kR kv v es).bind fun es'=>k .dead { rs with sto:={ rs.sto with objs:=rs.sto.objs.set i (.map es') } })
  |_,_=>none
 |.extract t ix =>
  match S t with
  |.tup vs=>(vs[ix]?).bind fun v=>k (.val v) rs
  |_=>none
 |.panic x =>
  match drawn,S x with
  |false,.val (.iface t v)=>kp (.iface t v) rs
  |_,_=>none
 |.call c =>
  match c.callee,c.args.toList with
  |.builtin .len,[x]=>(match (c.argTypes[0]?).bind P.underlying with
   |some .string=>(match S x with|.val (.str s)=>k (.val (.int .i64 s.length)) rs|_=>none)
   |some (.slice _)=>kP (S x) fun xs=>k (.val (.int .i64 xs.length)) rs
   |some (.array n _)=>k (.val (.int .i64 n)) rs
   |some (.map _ _)=>(match S x with
    |.val (.amap i)=>lF rs.sto.objs[i]? fun es=>k (.val (.int .i64 es.length)) rs
    |_=>none)
   |_=>none)
  |.builtin .append,[s,x]=>(match (c.argTypes[0]?).bind (aR P),(c.argTypes[1]?).bind (aR P) with
   |some e,some _=>(aZ P e).bind fun sz=>(zeroOf P e).bind fun z=>kP (S x) fun ys=>aJ (Nat.blt 0 sz&&Nat.beq z.cells.length sz&&Nat.ble (aL P e) 16384&&Nat.blt 0 (aL P e)&&ys.all (fun y=>Nat.beq y.cells.length sz)) (match S s,s with
    |.own sz' xs,.tmp t=>aJ (Nat.beq sz sz'&&Nat.ble (xs.length+ys.length) room) (k (.own sz (xs++ys)) (rs.put t (.val (.slice xs))))
    |.full xs,_=>aJ (xs.all (fun y=>Nat.beq y.cells.length sz)&&Nat.ble (xs.length+ys.length) room) (k (.own sz (xs++ys)) rs)
    |.nl,_=>aJ (Nat.ble ys.length room) (k (.own sz ys) rs)
    |_,_=>none)
   |_,_=>none)
  |.builtin .max,[x,y]=>asInt (S x) fun kd n=>asInt (S y) fun _ m=>k (.val (.int kd (bif decide (m > n) then m else n))) rs
  |.value f,args=>(match S f with
   |.val (.func g caps)=>gB an.keep tm rs (ans g).ownArg 0 args fun l rs'=>dD prot cf (.fn g) (l++caps.map .val) rs' kp k
   |.val (.yld i)=>gB an.keep tm rs [] 0 args fun l rs'=>dD prot cf (.yld i) l rs' kp k
   |_=>none)
  |_,_=>none
 |_=>none
def noRefTo (d:Nat) (sc:List (Nat×Slot)):Bool:=sc.all fun p=>match bZ sc p.1 with|some (.ref t _)=>!Nat.beq t d|_=>true
def dT (an:Ann) (o:Oper) (s:Slot) (rs:RS):Bool :=
 match o.dst with
 |none=>true
 |some d=>Nat.blt d an.nt&&(match s with|.ref t _=>!Nat.beq t d|_=>true)&&(!an.loc.contains d||noRefTo d rs.sc)
def oD (s:Slot) (k:Bool→Option R) (skip:Option R):Option R:=match s with
 |.val (.bool b)=>k b
 |.tup []=>skip
 |_=>none
def iK (P:Program) (ans:FuncId→Ann) (an:Ann) (drawn:Bool) (cf:aO) (tm:List Slot) (rid:Nat) (ops:Array Oper) (kp:AVal→RS→Option R) (o:Oper) (i:Nat) (rs:RS) (next:RS→Option R):Option R :=
 let go (rs:RS):Option R:=aB P ans an drawn (an.pure.contains (rid,i)) (match drawn with|true=>eK an.loc ops.toList ops.size (addrOf o)|false=>[]) cf tm (an.take.contains (rid,i)) o rs kp fun s rs'=>aJ (dT an o s rs') (next (rs'.putO o.dst s))
 match o.guard with
 |none=>go rs
 |some (j,want) =>
  match (ops[j]?).bind (·.dst) with
  |none=>none
  |some d=>oD (rs.look an.keep tm d) (fun b=>match b==want with
   |true=>go (rs.put d (.val (.bool b)))
   |false=>aJ (dT an o .dead rs) (next ((rs.put d (.val (.bool b))).putO o.dst (.tup [])))) (aJ (dT an o .dead rs) (next (rs.putO o.dst (.tup []))))
def nC (P:Program) (ans:FuncId→Ann) (an:Ann) (drawn:Bool) (cf:aO) (tm:List Slot) (rid:Nat) (ops:Array Oper) (kp:AVal→RS→Option R) (kn:RS→Option R):List Oper→Nat→RS→Option R
 |[],_,rs=>kn rs
 |o::os,i,rs=>iK P ans an drawn cf tm rid ops kp o i rs fun rs'=>nC P ans an drawn cf tm rid ops kp kn os (i+1) rs'
inductive Cls where
 |p|r|c|t|w|x
def cM (ans:FuncId→Ann) (loc:List Nat) (ops:Array Oper) (pure tk:Bool) (o:Oper):Cls :=
 match o.op with
 |.move _|.assign _|.pick ..|.build ..|.buildSlice ..|.nilCheck _|.binOp ..|.unOp ..|.convert ..|.fieldAddr ..|.field ..|.indexAddr ..|.index ..|.slice ..|.makeInterface ..|.makeFunc ..|.extract ..=>.p
 |.alloc _|.box ..=>(match o.dst with|some d=>if loc.contains d then .p else .w|none=>.x)
 |.load _ a=>(match eK loc ops.toList ops.size a,tk with
  |_::_,_=>.p
  |[],true=>.t
  |[],false=>.r)
 |.store _ a _=>(match eK loc ops.toList ops.size a with|_::_=>.p|[]=>.w)
 |.lookup ..=>.r
 |.mapUpdate ..|.makeMap ..=>.w
 |.call c=>(match c.callee with
  |.builtin .append=>.p
  |.builtin .len=>.r
  |.builtin .max=>.p
  |.value f=>(match pure,f with
   |true,.func g=>if (ans g).prim then .p else .c
   |true,_=>.c
   |false,_=>.w)
  |_=>.x)
 |_=>.x
def Cls.clash:Cls→Cls→Bool
 |.x,_=>true
 |_,.x=>true
 |.p,_=>false
 |_,.p=>false
 |.w,_=>true
 |_,.w=>true
 |.t,.t=>true
 |.t,.c=>true
 |.c,.t=>true
 |_,_=>false
def rdS (ops:Array Oper) (o:Oper):List Nat :=
 (o.op.operands.toList.filterMap fun|.tmp t=>some t|_=>none)++(match o.guard with|some (j,_)=>((ops[j]?).bind (·.dst)).toList|none=>[])
def cons (keep:List Nat) (tk:Bool) (o:Oper):List Nat :=
 match o.op with
 |.call c=>(match c.callee with
  |.builtin .append=>(c.args.toList.filterMap fun|.tmp t=>some t|_=>none)
  |.value _=>(c.args.toList.filterMap fun|.tmp t=>some t|_=>none)
  |_=>[])
 |.move (.tmp t)=>if tk||!keep.contains t then [t] else []
 |.assign (.tmp t)=>if tk||!keep.contains t then [t] else []
 |.store _ _ (.tmp t)=>if !keep.contains t then [t] else []
 |.box _ (.tmp t)=>if !keep.contains t then [t] else []
 |_=>[]
def rdB (loc:List Nat) (ops:Array Oper) (o:Oper):List Nat :=
 match o.op with
 |.load _ a=>eK loc ops.toList ops.size a
 |.store _ a _=>eK loc ops.toList ops.size a
 |_=>[]
def wrB (loc:List Nat) (ops:Array Oper) (o:Oper):List Nat :=
 match o.op with
 |.store _ a _=>eK loc ops.toList ops.size a
 |_=>[]
def tkB (loc:List Nat) (ops:Array Oper) (tk:Bool) (o:Oper):List Nat :=
 match o.op with
 |.load _ a=>if tk then eK loc ops.toList ops.size a else []
 |_=>[]
def meets (l m:List Nat):Bool:=l.any fun t=>m.contains t
def mT (keep loc:List Nat) (ops:Array Oper) (ta tb:Bool) (a b:Oper):Bool :=
 meets (a.dst.toList++cons keep ta a) (rdS ops b++rdB loc ops b++b.dst.toList++cons keep tb b)||meets (wrB loc ops a) (rdB loc ops b)||meets (tkB loc ops ta a) (tkB loc ops tb b++wrB loc ops b)
def eI (o:Oper):Option Nat :=
 match o.op with
 |.nilCheck (.tmp t)=>some t
 |.fieldAddr _ (.tmp t) _=>some t
 |.indexAddr _ (.tmp t) _=>some t
 |_=>none
def qR (ans:FuncId→Ann) (an:Ann) (rid:Nat) (ops:Array Oper):Bool :=
 let bf:=Region.before ops
 let n:=ops.size
 (List.range n).all fun j=>(List.range j).all fun i =>
  match ops[i]?,ops[j]? with
  |some a,some b =>
   let ta:=an.take.contains (rid,i)
   let tb:=an.take.contains (rid,j)
   (bf.getD j 0).testBit i||!((cM ans an.loc ops (an.pure.contains (rid,i)) ta a).clash (cM ans an.loc ops (an.pure.contains (rid,j)) tb b)||mT an.keep an.loc ops ta tb a b||mT an.keep an.loc ops tb ta b a)
  |_,_=>false
def vR (an:Ann) (rid:Nat):Bool:=an.mac.any fun i=>Nat.beq i rid
def noX (ans:FuncId→Ann) (an:Ann) (rid:Nat) (ops:Array Oper):Bool :=
 !vR an rid&&(List.range ops.size).all fun i=>match ops[i]? with
  |some a=>(match cM ans an.loc ops (an.pure.contains (rid,i)) (an.take.contains (rid,i)) a with|.x=>false|_=>true)&&!meets a.dst.toList (rdS ops a)&&a.after.all (fun e=>!Region.binds .any e||Nat.blt e.on i) &&
   (match a.dst with|some d=>!an.loc.contains d||ops.all (fun o=>match eI o with|some t=>!Nat.beq t d|none=>true)|none=>true)
  |none=>false
def fD:Code→Option Nat
 |.region id _ _=>some id
 |.seq a b=>match fD a with|some i=>some i|none=>fD b
 |.cond _ a b=>match fD a with|some i=>some i|none=>fD b
 |.block _ c=>fD c
 |.loop c=>fD c
 |.rangeFunc _ _ a b=>match fD a with|some i=>some i|none=>fD b
 |.scope c=>fD c
 |_=>none
def mD (c:Option (Option Nat)) (s:Slot):Slot :=
 match c with
 |none=>.dead
 |some none=>s
 |some (some sz)=>match s with
  |.nl=>.own sz []
  |s=>s
def aAR:List (Nat×Option Nat)→Nat→Option (Option Nat)
 |[],_=>none
 |(k,c)::r,t=>bif Nat.beq k t then some c else aAR r t
def gM (h:List (Nat×Option Nat)):List Nat→List Slot→List Slot
 |k::ks,s::ss=>mD (aAR h k) s::gM h ks ss
 |_,_=>[]
def aAp:List (Nat×List (Nat×Option Nat))→Nat→Option (List (Nat×Option Nat))
 |[],_=>none
 |(k,h)::r,t=>bif Nat.beq k t then some h else aAp r t
def jM (an:Ann) (c:Code) (st:St):St :=
 match (fD c).bind (aAp an.heads) with
 |some h=>{ st with tm:=gM h an.keep st.tm }
 |none=>st
def dM:Slot→Slot
 |.val v=>.val v
 |.full xs=>.full xs
 |.nl=>.nl
 |.nn xs=>.nn xs
 |.own _ xs=>.val (.slice xs)
 |.cells cs=>.val (.agg (cs.map Cell.get))
 |_=>.dead
def cG (keep:List Nat) (tm:List Slot) (ps:List (Nat×Slot)):List Slot:=commit keep tm ps.reverse
def eN (o:Oper):List Nat:=(o.after.toList.filter (Region.binds .any ·)).map (·.on)
def lA:List Nat→List Nat→Bool
 |[],[]=>true
 |a::l,b::m=>Nat.beq a b&&lA l m
 |_,_=>false
def aDy (o:Oper) (d a:Nat) (es:List Nat):Option TypeId :=
 match o.dst,o.op,o.guard with
 |some d',.load t (.tmp a'),none=>bif Nat.beq d' d&&Nat.beq a' a&&lA (eN o) es then some t else none
 |_,_,_=>none
def aHs (o:Oper) (d a:Nat) (es:List Nat):Option TypeId :=
 match o.dst,o.op,o.guard with
 |some d',.call ⟨.builtin .len,⟨[.tmp a']⟩,⟨[t]⟩⟩,none=>bif Nat.beq d' d&&Nat.beq a' a&&lA (eN o) es then some t else none
 |_,_,_=>none
def aG9 (o:Oper) (d:Nat) (es:List Nat):Option (TypeId×Value) :=
 match o.dst,o.op,o.guard with
 |some d',.buildSlice t n ⟨[(i,.const z)]⟩,none=>bif Nat.beq d' d&&Nat.beq n 1&&Nat.beq i 0&&lA (eN o) es then some (t,z) else none
 |_,_,_=>none
def aFT (o:Oper) (d a b:Nat) (es:List Nat):Option (TypeId×TypeId) :=
 match o.dst,o.op,o.guard with
 |some d',.call ⟨.builtin .append,⟨[.tmp a',.tmp b']⟩,⟨[t,u]⟩⟩,none=>bif Nat.beq d' d&&Nat.beq a' a&&Nat.beq b' b&&lA (eN o) es then some (t,u) else none
 |_,_,_=>none
def aG6 (o:Oper) (d a b:Nat) (es:List Nat):Option TypeId :=
 match o.dst,o.op,o.guard with
 |some d',.indexAddr t (.tmp a') (.tmp b'),none=>bif Nat.beq d' d&&Nat.beq a' a&&Nat.beq b' b&&lA (eN o) es then some t else none
 |_,_,_=>none
def aEB (o:Oper) (a b:Nat) (es:List Nat):Option TypeId :=
 match o.dst,o.op,o.guard with
 |none,.store t (.tmp a') (.tmp b'),none=>bif Nat.beq a' a&&Nat.beq b' b&&lA (eN o) es then some t else none
 |_,_,_=>none
def mC (ops:List Oper):Option (TypeId×TypeId×Value) :=
 match ops with
 |[o0,o1,o2,o3,o4,o5,o6,o7] =>
  (aDy o0 8 2 []).bind fun s=>(aDy o1 9 5 []).bind fun e=>(aHs o2 10 8 [0]).bind fun s2=>(aG9 o3 11 []).bind fun s3=>(aFT o4 12 8 11 [0,3,0,1,2,3]).bind fun s4=>(aG6 o5 13 12 10 [4,2,0,1,2,3,4]).bind fun s5 =>
   (aEB o6 13 9 [5,1,4,0,1,2,3,4]).bind fun e6=>(aEB o7 2 12 [4,4,0,1,2,3,4]).bind fun s7 =>
    bif Nat.beq s2 s&&Nat.beq s3.1 s&&Nat.beq s4.1 s&&Nat.beq s4.2 s&&Nat.beq s5 s&&Nat.beq e6 e&&Nat.beq s7 s then some (s,e,s3.2) else none
 |_=>none
def yN (a b:Slot) (k:Nat→List Cell→Option R):Option R :=
 match a,b with
 |.val (.loc i 0),.box cs=>k i cs
 |_,_=>none
def yP (bs:List Cell) (k:Nat→List AVal→Option R):Option R :=
 match bs with
 |[.own sz xs]=>k sz xs
 |_=>none
def uA (P:Program) (an:Ann) (ops:List Oper) (st:St) (K:bM→St→Option R):Option R :=
 (mC ops).bind fun se=>(aR P se.1).bind fun e=>(aZ P se.1).bind fun s1=>(aZ P e).bind fun sz=>(zeroOf P e).bind fun z=>(gH se.2.2).bind fun zc=>(bC P e).bind fun ag=>(bC P se.1).bind fun ag1 =>
  aJ (Nat.beq e se.2.1&&Nat.beq s1 1&&Nat.blt 0 sz&&ag&&!ag1&&Nat.beq z.cells.length sz&&clean z&&Nat.beq zc.cells.length sz&&clean zc&&Nat.ble (aL P e) 16384&&Nat.blt 0 (aL P e)&&Nat.ble sz 16777216&&Nat.blt 13 an.nt &&
    [8,9,10,11,12,13].all (fun t=>!an.keep.contains t)) <|
   yN (tlook an.keep st.tm 2) (tlook an.keep st.tm 5) fun i cs=>jO st.sto.objs[i]? fun bs=>yP bs fun sz' xs =>
    aJ (Nat.beq sz sz'&&Nat.beq cs.length sz&&clean (.agg (cs.map Cell.get))&&Nat.ble (xs.length+1) room&&Nat.ble st.sto.lo i)
     (K .norm ⟨st.tm,{ st.sto with objs:=st.sto.objs.set i (.box [.own sz (xs++[.agg (cs.map Cell.get)])]) }⟩)
def XK (P:Program) (ans:FuncId→Ann) (cf:aO) (lp:aT) (fid:FuncId):Code→St→(bM→St→Option R)→Option R
 |.skip,st,K=>K .norm st
 |.label _,st,K=>K .norm st
 |.seq a b,st,K=>XK P ans cf lp fid a st fun e st' =>
  match e with
  |.norm=>XK P ans cf lp fid b st' K
  |.exit id=>K (.exit id) st'
  |.ret=>K .ret st'
  |.pan v=>K (.pan v) st'
 |.cond c a b,st,K=>asBool (opS (ans fid).keep st.tm ⟨[],st.sto⟩ c) fun t =>
  match t with
  |true=>XK P ans cf lp fid a st K
  |false=>XK P ans cf lp fid b st K
 |.block id c,st,K=>XK P ans cf lp fid c st fun e st' =>
  match e with
  |.norm=>K .norm st'
  |.exit id'=>(bif Nat.beq id' id then K .norm st' else K (.exit id') st')
  |.ret=>K .ret st'
  |.pan v=>K (.pan v) st'
 |.scope c,st,K=>XK P ans cf lp fid c st K
 |.exit id,st,K=>K (.exit id) st
 |.ret,st,K=>K .ret st
 |.region id ops false,st,K=>nC P ans (ans fid) false cf st.tm id ops (fun v rs=>K (.pan v) ⟨st.tm,rs.sto⟩) (fun rs=>K .norm ⟨commit (ans fid).keep st.tm rs.sc,rs.sto⟩) ops.toList 0 ⟨[],st.sto⟩
 |.region id ops true,st,K =>
  bif vR (ans fid) id then uA P (ans fid) ops.toList st K else
  aJ (qR ans (ans fid) id ops&&noX ans (ans fid) id ops) (nC P ans (ans fid) true cf st.tm id ops (fun _ _=>none) (fun rs=>K .norm ⟨commit (ans fid).keep st.tm rs.sc,rs.sto⟩) ops.toList 0 ⟨[],st.sto⟩)
 |.loop c,st,K=>(lp fid c (jM (ans fid) c st)).bind fun p=>K p.1 p.2
 |.rangeFunc f params assign body,st,K =>
  match opS (ans fid).keep st.tm ⟨[],st.sto⟩ f with
  |.val (.func g caps) =>
   (cf (.fn g) (.val (.yld st.sto.objs.length)::caps.map .val)
    { st.sto with objs:=st.sto.objs++[.loop ⟨fid,st.tm.map dM,params,assign,body,none,.ready⟩] }).bind fun r =>
   match r with
   |(.pan v,sto)=>K (.pan v) { st with sto:=sto }
   |(.ret _,sto) =>
    match sto.objs[st.sto.objs.length]? with
    |some (.loop l) =>
     match l.state,l.pend with
     |.ready,none=>K .norm { st with sto:={ sto with objs:=sto.objs.take st.sto.objs.length } }
     |.done,some .ret=>K .ret { st with sto:={ sto with objs:=sto.objs.take st.sto.objs.length } }
     |.done,some (.exit id)=>K (.exit id) { st with sto:={ sto with objs:=sto.objs.take st.sto.objs.length } }
     |_,_=>none
    |_=>none
  |_=>none
 |_,_,_=>none
def cB:Code→Bool
 |.seq a b=>cB a&&cB b
 |.cond _ a b=>cB a&&cB b
 |.block _ c=>cB c
 |.loop c=>cB c
 |.scope c=>cB c
 |.rangeFunc ..=>false
 |_=>true
def setLoop (sto:Sto) (i:Nat) (l:iP):Sto:={ sto with objs:=sto.objs.set i (.loop l) }
def dB (sto:Sto) (i:Nat) (k:iP→Option R):Option R :=
 match sto.objs[i]? with
 |some (.loop l)=>k l
 |_=>none
def cut (n:Nat) (sto:Sto):Sto:={ sto with objs:=sto.objs.take n }
def Slot.isVal:Slot→Bool
 |.val _=>true
 |_=>false
def gP (P:Program) (an:Ann) (tm:List Slot) (rs:List ResultVar) (sto:Sto) (k:List AVal→Option R):Option R :=
 match rs with
 |[]=>k []
 |.tmp t::r=>asV (tlook an.keep tm t) fun v=>gP P an tm r sto fun l=>k (v::l)
 |.cell a t::r=>dH (.tmp a) (tlook an.keep tm a) fun p=>aU an.keep tm ⟨[],sto⟩ p fun cs off=>(aZ P t).bind fun s=>(bC P t).bind fun agg =>
  aJ (agg||Nat.beq s 1) ((partOf agg (cs.map Cell.get) off s).bind fun v=>gP P an tm r sto fun l=>k (v::l))
end
def trim (n:Nat) (s:Slot) (sto:Sto):Sto:=bif cH n s then { sto with objs:=sto.objs.take n } else sto
def finish (P:Program) (an:Ann) (fn:Func) (n:Nat) (st:St):Option (ARes×Sto) :=
  match an.ownRes,fn.results.toList with
  |true,[.tmp t]=>(match tlook an.keep st.tm t with
   |.own sz xs=>some (.ret (.own sz xs),trim n (.own sz xs) st.sto)
   |.nl=>some (.ret .nl,trim n .nl st.sto)
   |s=>asV s fun v=>some (.ret (.val v),trim n (.val v) st.sto))
  |_,rs=>gP P an st.tm rs st.sto fun vs =>
   match vs with
   |[v]=>some (.ret (.val v),trim n (.val v) st.sto)
   |vs=>some (.ret (.tup vs),trim n (.tup vs) st.sto)
def oq:ARes→Option Slot
 |.ret s=>aJ (cH 0 s) (some s)
 |.pan _=>none
def cJ (P:Program) (ans:FuncId→Ann) (pr:hZ) (cf:aO) (lp:aT):aO
 |.fn f,args,sto =>
  match pr f args with
  |some r=>(r.bind oq).map fun s=>(.ret s,sto)
  |none=>bif (ans f).prim then none else
   match P.funcs[f]? with
   |none=>none
   |some fn =>
    match fn.body with
    |none=>none
    |some c=>aJ (Nat.beq fn.ntmps (ans f).nt&&Nat.ble args.length fn.ntmps) <| XK P ans cf lp f c ⟨(ans f).keep.map fun t=>(args[t]?).getD .dead,sto⟩ fun e st =>
     match e with
     |.norm=>finish P (ans f) fn sto.objs.length st
     |.ret=>finish P (ans f) fn sto.objs.length st
     |.pan v=>some (.pan v,st.sto)
     |.exit _=>none
 |.yld i,args,sto =>
  dB sto i fun l =>
   match l.state with
   |.ready=>aJ (Nat.ble sto.lo i&&Nat.beq args.length l.params.size&&cB l.assign&&cB l.body&&args.all Slot.isVal&&(P.funcs[l.fn]?).isSome&&l.params.toList.all (fun p=>Nat.blt p (ans l.fn).nt))
     (XK P ans cf lp l.fn l.assign ⟨cG (ans l.fn).keep l.tm (l.params.toList.zip args),sto⟩ fun e st =>
      match e with
      |.norm=>dB st.sto i fun l1 =>
       match l1.state with
       |.ready=>XK P ans cf lp l.fn l.body { st with sto:=setLoop st.sto i { l1 with state:=.busy } } fun e st =>
        match e with
        |.norm=>dB st.sto i fun l2=>some (.ret (.val (.bool true)),cut sto.objs.length (setLoop st.sto i { l2 with state:=.ready,pend:=none }))
        |.ret=>dB st.sto i fun l2=>some (.ret (.val (.bool false)),cut sto.objs.length (setLoop st.sto i { l2 with state:=.done,pend:=some .ret }))
        |.exit id=>dB st.sto i fun l2=>some (.ret (.val (.bool false)),cut sto.objs.length (setLoop st.sto i { l2 with state:=.done,pend:=some (.exit id) }))
        |.pan v=>some (.pan v,st.sto)
       |_=>none
      |_=>none)
   |_=>none
def iB (P:Program) (ans:FuncId→Ann) (cf:aO) (lp:aT):aT:=fun fid c st =>
 XK P ans cf lp fid c st fun e st' =>
  match e with
  |.norm=>lp fid c (jM (ans fid) c st')
  |e=>some (e,st')
def run (P:Program) (ans:FuncId→Ann) (pr:hZ):Nat→aO×aT
 |0=>(fun _ _ _=>none,fun _ _ _=>none)
 |n+1=>(cJ P ans pr (run P ans pr n).1 (run P ans pr n).2,iB P ans (run P ans pr n).1 (run P ans pr n).2)
end Go.AM
end
