import Derived.Test.YtoiocfngjchdiaaGreatDoorC00
import Derived.Test.YtoiocfngjchdiaaGreatDoorA02
set_option linter.all false
noncomputable section
namespace Go.CM
section
open Go.AM (aU bC aW aQ AD)
def cC:List UInt8->Nat
 |[]=>0
 |b::r=>b.toNat+256*cC r
def jD(v:Value):V :=
 match v with
 |.bool b=>.bool b
 |.int k n=>.int k n
 |.string s=>.str s.data.toList.length (cC s.data.toList)
 |.pointer none=>.nw
 |.slice none 0 0=>.jk
 |.map none=>.mo
 |.nilFunc=>.nf
 |.nilIface=>.lz
 |_=>.bot
def lO(v:V):Bool :=
 match v with
 |.bot=>false
 |_=>true
def jE(v:Value):V :=
 match v with
 |.agg cs=>(match(cs.toList.map jD).all lO with
  |true=>.agg (cs.toList.map jD)
  |false=>.bot)
 |v=>jD v
def aE(P:Program)(x:Operand):X :=
 match x with
 |.tmp t=>.t (qn t)
 |.const v=>(match lO (jE v) with
  |true=>.c (jE v)
  |false=>.bad)
 |.global g=>(match Nat.blt g P.globals.size with
  |true=>.c (.ptr (qn g) 0)
  |false=>.bad)
 |.func f=>.c (.fn (qn f) [] [])
def zeroV(P:Program)(t:TypeId):Option V :=
 ((P.info? t).bind (·.zero)).bind λv=>match lO (jE v) with
   |true=>some (jE v)
   |false=>none
def o5(P:Program)(t:TypeId):Option (List V) :=
 (zeroV P t).bind λv=>(aU P t).bind λs=>match Nat.beq (cz v).length s with
  |true=>some (cz v)
  |false=>none
def uK(z:List V):Nat->List V
 |0=>[]
 |n+1=>z++uK z n
def pJ(P:Program)(place:Nat->Option (Nat×Nat)):List (Nat×Operand)->Option (List (Nat×Nat×X))
 |[]=>some []
 |(i,x)::r=>(place i).bind λp=>(pJ P place r).map λl=>(p.1,p.2,aE P x)::l
def partsOf(P:Program)(t:TypeId)(parts:List (Nat×Operand)):Option (List (Nat×Nat×X)) :=
 match P.underlying t with
 |some (.struct fs)=>(fs.toList.mapM λf=>(P.info? f.type).map λi=>(f.offset,i.size)).bind λpl=>pJ P (λi=>pl[i]?) parts
 |some (.array _ e)=>(aU P e).bind λs=>pJ P (λi=>some (i*s,s)) parts
 |_=>none
def iQ(m:oz)(x:Operand):Bool :=
 match x with
 |.const (.slice none 0 0)=>(match m with|.ly=>true|_=>false)
 |.const .nilIface=>(match m with|.pp=>true|_=>false)
 |.const .nilFunc=>(match m with|.pn=>true|_=>false)
 |.const (.map none)=>(match m with|.px=>true|_=>false)
 |_=>false
def dh(P:Program)(op:BinOp)(t:TypeId)(x y:Operand):PB :=
 let neg:Bool:=match op with|.neq=>true|_=>false
 let cmp:Bool:=match op with|.neq=>true|.eql=>true|_=>false
 match cmp with
 |false=>.bin op (aE P x) (aE P y)
 |true =>
  match P.underlying t with
  |some (.pointer e)=>(match aU P e with
   |some s=>(match Nat.blt 0 s with
    |true=>.eq neg .ptr (aE P x) (aE P y)
    |false=>.bad)
   |none=>.bad)
  |some .bool=>.eq neg .bool (aE P x) (aE P y)
  |some (.int _)=>.bin op (aE P x) (aE P y)
  |some .string=>.bin op (aE P x) (aE P y)
  |some (.slice _)=>(match iQ .ly y with|true=>.eq neg .ly (aE P x) (aE P y)|false=>.bad)
  |some (.map _ _)=>(match iQ .px y with|true=>.eq neg .px (aE P x) (aE P y)|false=>.bad)
  |some (.func _ _ _)=>(match iQ .pn y with|true=>.eq neg .pn (aE P x) (aE P y)|false=>.bad)
  |some (.interface _)=>(match iQ .pp y with|true=>.eq neg .pp (aE P x) (aE P y)|false=>.bad)
  |_=>.bad
def IA(o:Option PB):OB :=
 match o with
 |some p=>.p p
 |none=>.p .bad
def Ky(o:Option AB):OB :=
 match o with
 |some p=>.a p
 |none=>.p .bad
def Lh(o:Option WB):OB :=
 match o with
 |some p=>.w p
 |none=>.p .bad
def jH(P:Program)(l:List (Nat×Operand)):List (Nat×X):=l.map λp=>(p.1,aE P p.2)
def uZ(P:Program)(name:String)(t:Nat):Option (Nat×Q) :=
 (P.info? t).bind λi=>(i.methods.find? (·.name==name)).bind λm=>(P.underlying t).bind λu=>m.func.bind λfp=>match m.path.isEmpty,u,fp.2 with
  |true,.pointer _,true=>some (t,qn fp.1)
  |true,.pointer _,false=>none
  |true,_,false=>some (t,qn fp.1)
  |_,_,_=>none
def iB(P:Program)(name:String):Nat->List (Nat×Q)
 |0=>[]
 |n+1=>(match uZ P name n with
  |some p=>p::iB P name n
  |none=>iB P name n)
def hU(P:Program)(c:Call):OB :=
 match c.callee with
 |.value f=>.call (aE P f) (c.args.toList.map (aE P))
 |.invoke recv name=>.inv (iB P name P.types.size) (aE P recv) (c.args.toList.map (aE P))
 |.builtin b =>
  match b,c.args.toList,c.argTypes.toList with
  |.append,[x,y],[t,u]=>Lh ((aQ P t).bind λe=>(match P.underlying u with|some (.slice _)=>some ()|some .string=>some ()|_=>none).bind λ_=>(aU P e).bind λs=>(o5 P e).bind λz=>match Nat.blt 0 s&&Nat.ble (bC P e) 16384&&Nat.blt 0 (bC P e) with
   |true=>some (.ap e s (aE P x) (aE P y))
   |false=>none)
  |.len,[x],[t]=>(match P.underlying t with
   |some .string=>.p (.lenS (aE P x))
   |some (.slice _)=>.p (.lenL (aE P x))
   |_=>.p .bad)
  |.max,[x,y],_=>.p (.max (aE P x) (aE P y))
  |.recover,[],_=>.rcv
  |_,_,_=>.p .bad
def kU(P:Program):List Field->Nat->Option (List FK)
 |[],_=>some []
 |f::fs,i=>(match Nat.beq f.offset i&&f.name != "_" with
  |true=>(match P.underlying f.type with
   |some .bool=>(kU P fs (i+1)).map (.b::·)
   |some .string=>(kU P fs (i+1)).map (.s::·)
   |some (.int _)=>(kU P fs (i+1)).map (.i::·)
   |_=>none)
  |false=>none)
def ud(P:Program)(t:TypeId):Option (KK×TypeId) :=
 match P.underlying t with
 |some (.map k e)=>(match P.underlying k with
  |some .string=>some (.str,e)
  |some (.int _)=>some (.int,e)
  |some (.pointer p)=>(match aU P p with
   |some s=>(match Nat.blt 0 s with
    |true=>some (.ptr,e)
    |false=>none)
   |none=>none)
  |some (.struct fs)=>(match P.stoodInHeld k with
   |true=>none
   |false=>(kU P fs.toList 0).map λl=>(.st l,e))
  |_=>none)
 |_=>none
def bU(P:Program)(o:Oper):OB :=
 match o.op with
 |.move x=>.p (.mv (aE P x))
 |.assign x=>.p (.mv (aE P x))
 |.pick c a b=>.p (.pick (aE P c) (aE P a) (aE P b))
 |.alloc t=>Ky ((o5 P t).map λz=>.al t z.length (T.ofList z))
 |.box t x=>Ky ((aU P t).map λs=>.bx t s (aE P x))
 |.build t parts=>IA ((o5 P t).bind λz=>(partsOf P t parts.toList).map λps=>.bld z ps)
 |.buildSlice t len parts=>Ky ((aQ P t).bind λe=>(o5 P e).bind λz=>match Nat.blt 0 z.length&&Nat.ble (len*z.length) 16777216&&parts.toList.all (λp=>Nat.blt p.1 len) with
  |true=>some (.bsl e z.length len (T.ofList (uK z len)) (jH P parts.toList))
  |false=>none)
 |.load t a=>IA ((aW P t).bind λg=>(aU P t).bind λs=>match g with
  |true=>some (.ldn s (aE P a))
  |false=>(match Nat.beq s 1 with
   |true=>some (.ld1 (aE P a))
   |false=>none))
 |.store t a x=>Lh ((aU P t).map λs=>.st s (aE P a) (aE P x))
 |.nilCheck x=>.p (.nck (aE P x))
 |.binOp op t x y _=>.p (dh P op t x y)
 |.unOp op _ x=>(match op with
  |.not=>.p (.not (aE P x))
  |_=>.p .bad)
 |.convert s d x=>(match P.underlying s,P.underlying d with
  |some (.int _),some (.int k)=>.p (.cvi k (aE P x))
  |some .string,some (.slice e)=>(match P.underlying e with
   |some (.int .u8)=>.w (.sb (aE P x))
   |_=>.p .bad)
  |_,_=>.p .bad)
 |.makeInterface t x=>(match P.underlying t with
  |some (.interface _)=>.p .bad
  |some _=>.p (.mki t (aE P x))
  |none=>.p .bad)
 |.makeFunc fn first caps=>(match fn with
  |.func f=>.p (.mkf (qn f) (first.toList.map (aE P)) (caps.toList.map (aE P)))
  |_=>.p .bad)
 |.makeMap _ r=>(match r with
  |none=>.a .mkm
  |some _=>.p .bad)
 |.slice t x lo hi mx=>(match P.underlying t,mx with
  |some .string,none=>.p (.slS (aE P x) (lo.map (aE P)) (hi.map (aE P)))
  |some (.slice e),mx=>(match mx.isSome&&hi.isNone with|true=>.p .bad|false=>IA ((aU P e).map λs=>.slL s (aE P x) (lo.map (aE P)) (hi.map (aE P)) (mx.map (aE P))))
  |_,_=>.p .bad)
 |.fieldAddr t x f=>IA ((AD P t f).bind λot=>(aU P ot.2).bind λs=>match Nat.blt 0 s with
  |true=>some (.fa ot.1 (aE P x))
  |false=>none)
 |.field t x f=>IA ((AD P t f).bind λot=>(aU P ot.2).bind λs=>(aW P ot.2).map λg=>.fd g ot.1 s (aE P x))
 |.indexAddr t x i=>(match P.underlying t with
  |some (.slice e)=>IA ((aU P e).map λs=>.ia s (aE P x) (aE P i))
  |some (.array len e)=>IA ((aU P e).map λs=>.iaa len s (aE P x) (aE P i))
  |_=>.p .bad)
 |.index t x i=>(match P.underlying t with
  |some .string=>.p (.ixs (aE P x) (aE P i))
  |some (.array len e)=>IA ((aU P e).bind λs=>(aW P e).map λg=>.ixa g len s (aE P x) (aE P i))
  |_=>.p .bad)
 |.lookup t m k ok=>(match ud P t with
  |some (s,e)=>IA ((zeroV P e).map λz=>.lk s ok z (aE P m) (aE P k))
  |_=>.p .bad)
 |.mapUpdate t m k x=>(match ud P t with
  |some (s,_)=>.w (.mu s (aE P m) (aE P k) (aE P x))
  |_=>.p .bad)
 |.insert t m k x=>(match ud P t with
  |some (s,_)=>.w (.mu s (aE P m) (aE P k) (aE P x))
  |_=>.p .bad)
 |.extract t i=>.p (.ex i (aE P t))
 |.typeAssert x _ t ok=>IA ((P.underlying t).bind λu=>match u with
  |.interface _=>none
  |_=>(zeroV P t).map λz=>.ta ok t z (aE P x))
 |.call c=>hU P c
 |.defer c=>(match c.callee with
  |.value f=>.dfr (aE P f) (c.args.toList.map (aE P))
  |_=>.p .bad)
 |_=>.p .bad
def Ze(n:Nat)(o:Oper):Option (Option Q) :=
 match o.dst with
 |none=>some none
 |some d=>(match Nat.blt d n with
  |true=>some (some (qn d))
  |false=>none)
def fA:CO:=.mk none none (.p .bad)
def fR(P:Program)(n:Nat)(ops:Array Oper)(o:Oper):CO :=
 match Ze n o with
 |none=>fA
 |some d =>
  match o.guard with
  |none=>.mk d none (bU P o)
  |some (j,want)=>(match(ops[j]?).bind (·.dst) with
   |none=>fA
   |some t=>(match Nat.blt t n with
    |true=>.mk d (some (qn t,want)) (bU P o)
    |false=>fA))
inductive Pl where
 |run (i:Nat)
 |lu (i:Nat)
def LD(b:OB):Bool :=
 match b with
 |.p _=>false
 |.a _=>false
 |_=>true
def Ra(b:PB):Bool :=
 match b with
 |.ld1 _=>true
 |.ldn _ _=>true
 |.lk _ _ _ _ _=>true
 |.lenM _=>true
 |.eq _ _ _ _=>true
 |.ctu _=>true
 |.cfu _ _ _=>true
 |_=>false
def Sb(b:OB):Bool :=
 match b with
 |.p b=>Ra b
 |_=>false
inductive g_ where
 |mk (bf rd:Nat) (dst:Option Nat) (w r g:Bool)
def g_.bf:g_->Nat|.mk b _ _ _ _ _=>b
def g_.rd:g_->Nat|.mk _ r _ _ _ _=>r
def g_.dst:g_->Option Nat|.mk _ _ d _ _ _=>d
def g_.w:g_->Bool|.mk _ _ _ w _ _=>w
def g_.r:g_->Bool|.mk _ _ _ _ r _=>r
def g_.g:g_->Bool|.mk _ _ _ _ _ g=>g
instance:Inhabited g_:=⟨.mk 0 0 none true false true⟩
def L5:List Oper->List Nat->List Nat
 |[],acc=>acc
 |o::os,acc=>L5 os (acc++[o.after.toList.foldl (λs e=>if Region.binds .any e then s ||| 2^e.on ||| acc.getD e.on 0 else s) 0])
def j9(ops:Array Oper)(o:Oper):Nat :=
 o.op.operands.toList.foldl (λs x=>match x with|.tmp t=>s ||| 2^t|_=>s) (match o.guard with|some (j,_)=>(match(ops[j]?).bind (·.dst) with|some t=>2^t|none=>0)|none=>0)
def Sc(o:Op):Bool :=
 match o with
 |.assign _=>true
 |_=>false
def wP(P:Program)(ops:Array Oper):List Oper->List Nat->List g_
 |o::os,b::bs=>(match bU P o with
  |c=>.mk b (j9 ops o) o.dst (LD c||Sc o.op) (Sb c) o.guard.isSome)::wP P ops os bs
 |_,_=>[]
def sub(a b:Nat):Bool:=Nat.beq (Nat.land a b) a
def eager:List g_->Nat->Nat->List Pl->(List Pl->Nat->List Pl)->List Pl
 |[],_,e,acc,k=>k acc e
 |f::fs,i,e,acc,k =>
  match !Nat.testBit e i&&!f.w&&sub f.bf e with
  |true=>eager fs (i+1) (e ||| 2^i) (.run i::acc) k
  |false=>eager fs (i+1) e acc k
def VH:List g_->Nat->Nat->Option (Nat×Nat)
 |[],_,_=>none
 |f::fs,i,e=>(match !Nat.testBit e i&&sub f.bf e with
  |true=>some (i,f.bf)
  |false=>VH fs (i+1) e)
def W8(Km e:Nat):List g_->Nat->List Pl
 |[],_=>[]
 |f::fs,i=>(match Nat.testBit e i&&f.r&&!Nat.testBit Km i with
  |true=>.lu i::W8 Km e fs (i+1)
  |false=>W8 Km e fs (i+1))
def X_(fs:List g_):Nat->Nat->List Pl
 |0,_=>[]
 |n+1,e =>
  eager fs 0 e [] λacc e'=>acc.reverse++(match VH fs 0 e' with
   |none=>[]
   |some (w,b)=>.run w::(W8 b e' fs 0++X_ fs n (e' ||| 2^w)))
def jL(i:Nat):List Pl->Bool
 |.lu j::l=>(match Nat.beq i j with
  |true=>true
  |false=>jL i l)
 |_=>false
def NU(w Km e:Nat)(l:List Pl):List g_->Nat->Bool
 |[],_=>true
 |f::fs,i=>(match Nat.beq i w with
  |true=>true
  |false=>(match Nat.testBit e i with
   |false=>Nat.testBit f.bf w
   |true=>!f.r||Nat.testBit Km i||jL i l))&&NU w Km e l fs (i+1)
def jR(fs:List g_):List Pl->Nat->Bool
 |[],e=>Nat.beq e (2^fs.length-1)
 |.run i::l,e=>(match fs[i]? with
  |none=>false
  |some f=>!Nat.testBit e i&&sub f.bf e&&(!f.w||NU i f.bf e l fs 0)&&jR fs l (e ||| 2^i))
 |.lu i::l,e=>(match fs[i]? with
  |none=>false
  |some f=>Nat.testBit e i&&!f.w&&jR fs l e)
def zT(t i:Nat)(w:Bool)(bf:Nat):List g_->Nat->Bool
 |[],_=>true
 |f::fs,j=>(match Nat.beq i j with
  |true=>w||!Nat.testBit f.rd t
  |false=>(match f.dst with
   |none=>true
   |some u=>!Nat.beq t u)&&(!Nat.testBit f.rd t||Nat.testBit f.bf i||(w&&Nat.testBit bf j)))&&zT t i w bf fs (j+1)
def bc(all:List g_):List g_->Nat->Bool
 |[],_=>true
 |f::fs,i=>(match f.dst with
  |none=>true
  |some t=>zT t i f.w f.bf all 0)&&bc all fs (i+1)
def vZ:List Oper->Nat->Bool
 |[],_=>true
 |o::os,i=>o.after.toList.all (λe=>!Region.binds .any e||Nat.blt e.on i)&&vZ os (i+1)
def vg(P:Program)(n:Nat)(ops:Array Oper)(p:Pl):PS :=
 match p with
 |.run i=>(match ops[i]? with
  |some o=>.op (fR P n ops o)
  |none=>.op fA)
 |.lu i=>(match ops[i]? with
  |some o=>(match fR P n ops o with
   |.mk (some q) g (.p b)=>.lu g b q
   |_=>.op fA)
  |none=>.op fA)
def y2(P:Program)(ops:Array Oper):List g_:=wP P ops ops.toList (L5 ops.toList [])
def zD(P:Program)(n:Nat)(ops:Array Oper):List PS :=
 match y2 P ops with
 |fs=>(match X_ fs (fs.length+1) 0 with
  |pl=>(match Nat.beq fs.length ops.size&&vZ ops.toList 0&&bc fs fs 0&&jR fs pl 0 with
   |true=>pl.map (vg P n ops)
   |false=>[.op fA]))
def cZ(P:Program)(n:Nat):Code->C
 |.skip=>.skip
 |.label _=>.skip
 |.region _ ops draw=>(match draw with
  |false=>.reg (ops.toList.map λo=>.op (fR P n ops o))
  |true=>.reg (zD P n ops))
 |.seq a b=>.seq (cZ P n a) (cZ P n b)
 |.cond x a b=>.cond (aE P x) (cZ P n a) (cZ P n b)
 |.block id c=>.block id (cZ P n c)
 |.loop c=>.loop (cZ P n c)
 |.rangeFunc f params B3 body=>(match params.toList.all λt=>Nat.blt t n with
  |true=>.rf (aE P f) (params.toList.map qn) (cZ P n B3) (cZ P n body)
  |false=>.bad)
 |.exit id=>.exit id
 |.scope c=>.scope (cZ P n c)
 |.ret=>.ret
 |_=>.bad
def sY(P:Program):List ResultVar->Option (List RV)
 |[]=>some []
 |.tmp t::r=>(sY P r).map (.t (qn t)::·)
 |.cell a t::r=>(aW P t).bind λg=>(aU P t).bind λs=>match g||Nat.beq s 1 with
  |true=>(sY P r).map (.cell g s (qn a)::·)
  |false=>none
def fk(P:Program)(f:Nat):CF :=
 match P.funcs[f]? with
 |none=>.none
 |some fn =>
  match fn.body with
  |none=>(match fn.name== "internal/bytealg.IndexByteString",fn.name== "internal/bytealg.CountString",fn.name== "internal/abi.NoEscape" with
   |true,_,_=>.ext 0
   |_,true,_=>.ext 1
   |_,_,true=>.ext 2
   |_,_,_=>.none)
  |some c=>(match fn.name== "runtime.NumGoroutine" with
   |true=>.none
   |false=>(match sY P fn.results.toList with
    |none=>.none
    |some rs=>.mk (cZ P fn.ntmps c) rs))
def R6(P:Program)(q:Q):CF:=fk P q.nat
end
section
theorem aF(n:Nat)(k:Nat->aa):aZ n k=k n:=by cases n<;>rfl
theorem fS(n:Int)(k:Int->aa):wJ n k=k n:=by cases n<;>simp only[wJ,aF]
theorem bQ{b:Bool}{n:Nat}{k:aa}{v:V}(h:gd b n k=.ok v):b=true/\k=.ok v:=by
 cases b
 ·cases h
 ·exact⟨rfl,h⟩
theorem QR.kl:∀q:QR,q.succ.nat=q.nat+1
 |.e=>rfl
 |.a q=>by simp only[QR.succ,QR.nat]
 |.b q=>by simp only[QR.succ,QR.nat]
 |.c q=>by simp only[QR.succ,QR.nat]
 |.d q=>by simp only[QR.succ,QR.nat,QR.kl q];omega
theorem QR.rH:∀{p q:QR},p.nat=q.nat->p=q
 |.e,.e,_=>rfl
 |.e,.a _,h|.e,.b _,h|.e,.c _,h|.e,.d _,h=>by simp only[QR.nat] at h;omega
 |.a _,.e,h|.b _,.e,h|.c _,.e,h|.d _,.e,h=>by simp only[QR.nat] at h;omega
 |.a p,.a q,h=>by simp only[QR.nat] at h;rw[QR.rH (p:=p) (q:=q) (by omega)]
 |.b p,.b q,h=>by simp only[QR.nat] at h;rw[QR.rH (p:=p) (q:=q) (by omega)]
 |.c p,.c q,h=>by simp only[QR.nat] at h;rw[QR.rH (p:=p) (q:=q) (by omega)]
 |.d p,.d q,h=>by simp only[QR.nat] at h;rw[QR.rH (p:=p) (q:=q) (by omega)]
 |.a _,.b _,h|.a _,.c _,h|.a _,.d _,h|.b _,.a _,h|.b _,.c _,h|.b _,.d _,h|.c _,.a _,h|.c _,.b _,h|.c _,.d _,h|.d _,.a _,h|.d _,.b _,h|.d _,.c _,h=>by
  simp only[QR.nat] at h;omega
theorem QR.a1U:∀(f n:Nat),n<=f->(QR.rM f n).nat=n
 |0,n,h=>by simp only[QR.rM,QR.nat];omega
 |f+1,0,_=>rfl
 |f+1,m+1,h=>by
  have ih:=QR.a1U f (m/4) (by omega);have h4:m%4=0\/m%4=1\/m%4=2\/m%4=3:=by omega
  rcases h4 with hr|hr|hr|hr<;>simp only[QR.rM,hr,QR.nat,ih]<;>omega
theorem QR.a6E(n:Nat):(QR.of n).nat=n:=QR.a1U n n (Ae _)
theorem QR.beq_iff:∀{p q:QR},p.beq q=true↔p=q
 |.e,.e=>by simp[QR.beq]
 |.e,.a _|.e,.b _|.e,.c _|.e,.d _=>by simp[QR.beq]
 |.a _,.e|.b _,.e|.c _,.e|.d _,.e=>by simp[QR.beq]
 |.a p,.a q|.b p,.b q|.c p,.c q|.d p,.d q=>by simp[QR.beq,QR.beq_iff (p:=p) (q:=q)]
 |.a _,.b _|.a _,.c _|.a _,.d _|.b _,.a _|.b _,.c _|.b _,.d _|.c _,.a _|.c _,.b _|.c _,.d _|.d _,.a _|.d _,.b _|.d _,.c _=>by simp[QR.beq]
section
variable {α:Type}
theorem QN.pz{f:α->Nat}{s:α->α}{z:α}(h:∀q,f (s q)=f q+1)(hz:f z=0)(q:QN α):QN.nt f (QN.sc s z q)=QN.nt f q+1:=by
 cases q<;>simp only[QN.nt,QN.sc,h,hz]<;>omega
theorem QN.py{f:α->Nat}(h:∀{p q},f p=f q->p=q){p q:QN α}(e:QN.nt f p=QN.nt f q):p=q:=by
 cases p<;>cases q<;>simp only[QN.nt] at e<;>first|rfl|omega|(rename_i p q;rw[h (p:=p) (q:=q) (by omega)])
theorem QN.ny{f:α->Nat}{g:Nat->α}(h:∀n,f (g n)=n)(n:Nat):QN.nt f (QN.of g n)=n:=by
 cases n with
 |zero=>rfl
 |succ m =>
  simp only[QN.of]
  have:m%4<4:=Fb _ (by omega)
  match hr:m%4,this with
  |0,_=>simp only[QN.dg,QN.nt,h];omega
  |1,_=>simp only[QN.dg,QN.nt,h];omega
  |2,_=>simp only[QN.dg,QN.nt,h];omega
  |3,_=>simp only[QN.dg,QN.nt,h];omega
theorem QN.oQ{f:α->α->Bool}(h:∀{p q},f p q=true↔p=q){p q:QN α}:QN.bq f p q=true↔p=q:=by
 cases p<;>cases q<;>simp[QN.bq,h]
end
theorem Q.kl(q:Q):q.succ.nat=q.nat+1 :=
 QN.pz (QN.pz (QN.pz (QN.pz (QN.pz (QN.pz (QN.pz (QN.pz (QN.pz (QN.pz QR.kl rfl) rfl) rfl) rfl) rfl) rfl) rfl) rfl) rfl) rfl q
theorem Q.rH{p q:Q}(h:p.nat=q.nat):p=q :=
 QN.py (QN.py (QN.py (QN.py (QN.py (QN.py (QN.py (QN.py (QN.py (QN.py QR.rH))))))))) h
theorem dY(n:Nat):(qn n).nat=n :=
 QN.ny (QN.ny (QN.ny (QN.ny (QN.ny (QN.ny (QN.ny (QN.ny (QN.ny (QN.ny QR.a6E))))))))) n
theorem iF(q:Q):qn q.nat=q:=Q.rH (dY _)
theorem zF{m n:Nat}(h:qn m=qn n):m=n:=by rw[<-dY m,<-dY n,h]
theorem a39(n:Nat):(qn n).succ=qn (n+1):=Q.rH (by rw[Q.kl,dY,dY])
theorem Q.beq_iff{p q:Q}:p.beq q=true↔p=q :=
 QN.oQ (QN.oQ (QN.oQ (QN.oQ (QN.oQ (QN.oQ (QN.oQ (QN.oQ (QN.oQ (QN.oQ QR.beq_iff)))))))))
instance:DecidableEq Q:=λp q=>decidable_of_iff (p.beq q=true) Q.beq_iff
instance:DecidableEq QR:=λp q=>decidable_of_iff (p.beq q=true) QR.beq_iff
theorem kF(n:Nat)(k:Q->aa):Jl n k=k (qn n):=rfl
theorem dC(q:Q)(k:Q->aa):k9 q k=k q.succ:=rfl
theorem uR{α:Type}[gm α](z:α)(q:Q)(t:T α)(k:α->aa):Vq z q t k=k (t.get z q):=rfl
theorem u3{α:Type}[gm α](z v:α)(q:Q)(t:T α)(k:T α->aa):VX z v q t k=k (t.put z v q):=rfl
theorem lJ(q:Q)(fe:Q->CF)(k:CF->aa):Vp q fe k=k (fe q):=rfl
theorem TQ.q0{α:Type}(z v:α):∀(p q:QR)(t:TQ α),(TQ.put z v p t).get z q=if p=q then v else t.get z q
 |.e,.e,t=>by cases t<;>rfl
 |.e,.a q,t|.e,.b q,t|.e,.c q,t|.e,.d q,t=>by cases t<;>simp[TQ.put,TQ.get]
 |.a p,.e,t|.b p,.e,t|.c p,.e,t|.d p,.e,t=>by cases t<;>simp[TQ.put,TQ.get]
 |.a p,.a q,t|.b p,.b q,t|.c p,.c q,t|.d p,.d q,t=>by cases t<;>simp[TQ.put,TQ.get,TQ.q0 z v p q]
 |.a p,.b q,t|.a p,.c q,t|.a p,.d q,t|.b p,.a q,t|.b p,.c q,t|.b p,.d q,t|.c p,.a q,t|.c p,.b q,t|.c p,.d q,t|.d p,.a q,t|.d p,.b q,t|.d p,.c q,t=>by
  cases t<;>simp[TQ.put,TQ.get]
theorem TQ.get_nil{α:Type}(z:α)(q:QR):(TQ.nil:TQ α).get z q=z:=by cases q<;>rfl
def GP{α β U:Type}(g:β->U->α)(p:U->β->β)(v:α):Prop:=(∀q t,g (p q t) q=v)/\∀q r t,q≠r->g (p q t) r=g t r
theorem N5.gp{α β U:Type}{g:β->U->α}{p:U->β->β}{v:α}(h:GP g p v):GP (N5.gt g) (N5.pt p v) v:=by
 constructor
 ·intro q t
  cases t;cases q<;>simp[N5.gt,N5.pt,h.1]
 ·intro q r t hn
  cases t;cases q<;>cases r<;>simp only[N5.gt,N5.pt]<;>first|exact absurd rfl hn|exact h.2 _ _ _ (λe=>hn (by rw[e]))
theorem TQ.gp{α:Type}(z v:α):GP (TQ.get z) (TQ.put z v) v :=
 ⟨λq t=>by rw[TQ.q0,Br rfl],λq r t h=>by rw[TQ.q0,Bf h]⟩
theorem T.gp{α:Type}[gm α](v:α):GP (N5.gt g9) (N5.pt (p9 v) v) v :=
 N5.gp (N5.gp (N5.gp (N5.gp (N5.gp (N5.gp (N5.gp (N5.gp (N5.gp (N5.gp (TQ.gp _ v))))))))))
theorem N5.o_{α β U:Type}{g:β->U->α}{z:α}{n:β}(h:∀r,g n r=z)(r:QN U):N5.gt g (.mk z n n n n) r=z:=by cases r<;>simp[N5.gt,h]
theorem T.q0{α:Type}[gm α](z v:α)(p q:Q)(t:T α):(T.put z v p t).get z q=if p=q then v else t.get z q:=by
 split
 ·rename_i h;subst h;exact(T.gp v).1 p t
 ·rename_i h;exact(T.gp v).2 p q t h
theorem T.get_nil{α:Type}[gm α](z:α)(q:Q):(T.nil:T α).get z q=gm.z :=
 N5.o_ (N5.o_ (N5.o_ (N5.o_ (N5.o_ (N5.o_ (N5.o_ (N5.o_ (N5.o_ (N5.o_ (TQ.get_nil _)))))))))) q
theorem T.a5E{α:Type}[gm α](z v:α)(p:Q)(t:T α):(T.put z v p t).get z p=v:=by rw[T.q0,Br rfl]
theorem T.uh{α:Type}[gm α](z v:α){p q:Q}(t:T α)(h:p≠q):(T.put z v p t).get z q=t.get z q:=by rw[T.q0,Bf h]
abbrev T.at(t:T V)(n:Nat):V:=t.get V.undef (qn n)
def dK:List V->Nat->T V->T V
 |[],_,t=>t
 |v::vs,i,t=>dK vs (i+1) (t.put V.undef v (qn i))
theorem dB(vs:List V):∀(i:Nat)(t:T V)(k:T V->aa),j8 vs i t k=k (dK vs i t):=by
 induction vs with
 |nil=>intro i t k;rfl
 |cons v vs ih =>
  intro i t k;show Jl i (λq=>pV v q t λt'=>aZ (i+1) λi'=>j8 vs i' t' k)=_;rw[kF,pV,u3,aF,ih];rfl
theorem iE:∀(vs:List V)(i:Nat)(t:T V)(j:Nat),(dK vs i t).at j=if i<=j/\j<i+vs.length then vs.getD (j-i) V.undef else t.at j
 |[],i,t,j=>by simp[dK];intro h h';omega
 |v::vs,i,t,j=>by
  simp only[dK];rw[iE vs (i+1)];by_cases h:i=j
  ·subst h
   rw[Bf (by omega),T.at,T.a5E,Br (by simp)];simp
  ·by_cases h2:i+1<=j/\j<i+1+vs.length
   ·rw[Br h2,Br (by simp;omega)]
    rw[show j-i=j-(i+1)+1 by omega];simp
   ·rw[Bf h2,T.at,T.uh _ _ _ (λe=>h (zF e)),Bf (by simp;omega)]
def jN(n i:Nat)(t:T V):List V:=(List.range' i n).map t.at
theorem mT(n:Nat):∀(i:Nat)(t:T V)(k:List V->aa),tJ n i t k=k (jN n i t):=by
 induction n with
 |zero=>intro i t k;rfl
 |succ n ih =>
  intro i t k;have ih':=λj k=>ih j t k
  show Jl i (λq=>gV q t λv=>aZ (i+1) λi'=>tJ n i' t λl=>k (v::l))=_;rw[kF,gV,uR,aF,ih'];simp[jN,Fs]
theorem eT(n i:Nat)(t:T V):(jN n i t).length=n:=by simp[jN]
theorem kW{n i:Nat}{t:T V}{j:Nat}(h:j<n):(jN n i t)[j]?=some (t.at (i+j)):=by simp[jN,h]
theorem cK{α:Type}(l:List α):∀k:Nat->aa,sA l k=k l.length:=by
 induction l with
 |nil=>intro k;rfl
 |cons a l ih=>intro k;show sA l (λn=>aZ (n+1) k)=_;rw[ih,aF];rfl
theorem a30{α:Type}(l:List α):∀(n:Nat)(k:α->aa),ui l n k=match l[n]? with|some v=>k v|none=>.bad 1:=by
 induction l with
 |nil=>intro n k;rfl
 |cons a l ih=>intro n k;cases n with|zero=>rfl|succ n=>exact ih n k
theorem a31{α:Type}{l:List α}{n:Nat}{k:α->aa}{r:V}(h:ui l n k=.ok r):∃v,l[n]?=some v/\k v=.ok r:=by
 rw[a30] at h;cases e:l[n]? with
 |none=>rw[e] at h;cases h
 |some v=>rw[e] at h;exact⟨v,rfl,h⟩
def wx:List V->Q->T V->T V
 |[],_,t=>t
 |v::vs,q,t=>wx vs q.succ (t.put V.undef v q)
theorem kL(vs:List V):∀(q:Q)(t:T V)(k:T V->aa),mH vs q t k=k (wx vs q t):=by
 induction vs with
 |nil=>intro q t k;rfl
 |cons v vs ih =>
  intro q t k;show pV v q t (λt'=>k9 q λq'=>mH vs q' t' k)=_;rw[pV,u3,dC,ih];rfl
theorem vC:∀(vs:List V)(n:Nat)(t:T V),wx vs (qn n) t=dK vs n t
 |[],n,t=>rfl
 |v::vs,n,t=>by simp only[wx,dK,a39,vC vs]
theorem eS:∀(l m:List V)(k:List V->aa),uE l m k=k (l++m)
 |[],m,k=>rfl
 |v::l,m,k=>by simp only[uE,eS l];rfl
def xE(tm:T V):X->Option V
 |.t q=>some (tm.get V.undef q)
 |.c v=>some v
 |.bad=>none
theorem fJ{x:X}{tm:T V}{k:V->aa}{r:V}(h:xK x tm k=.ok r):∃v,xE tm x=some v/\k v=.ok r:=by
 cases x with
 |t q=>simp only[xK,gV,uR] at h;exact⟨_,rfl,h⟩
 |c v=>exact⟨v,rfl,h⟩
 |bad=>cases h
def NT(tm:T V):List X->Option (List V)
 |[]=>some []
 |x::xs=>(xE tm x).bind λv=>(NT tm xs).map (v::·)
theorem sT{tm:T V}:∀{xs:List X}{k:List V->aa}{r:V},Hy xs tm k=.ok r->∃vs,NT tm xs=some vs/\k vs=.ok r
 |[],k,r,h=>⟨[],rfl,h⟩
 |x::xs,k,r,h=>by
  have h':xK x tm (λv=>Hy xs tm λl=>k (v::l))=.ok r:=h;obtain⟨v,h1,h2⟩:=fJ h';obtain⟨vs,h3,h4⟩:=sT h2;exact⟨v::vs,by simp[NT,h1,h3],h4⟩
theorem rh{v:V}{k:IntKind->Int->aa}{r:V}(h:NP v k=.ok r):∃kd n,v=.int kd n/\k kd n=.ok r:=by
 cases v<;>first|exact⟨_,_,rfl,h⟩|cases h
theorem vD{v:V}{k:Bool->aa}{r:V}(h:KP v k=.ok r):∃b,v=.bool b/\k b=.ok r:=by
 cases v<;>first|exact⟨_,rfl,h⟩|cases h
theorem rQ{v:V}{k:Nat->aa}{r:V}(h:Kh v k=.ok r):∃kd n,v=.int kd (.ofNat n)/\k n=.ok r:=by
 cases v with
 |int kd n=>cases n with
  |ofNat m=>exact⟨_,_,rfl,h⟩
  |negSucc m=>cases h
 |_=>cases h
theorem bw{v:V}{k:Q->Nat->aa}{r:V}(h:Kg v k=.ok r):∃o off,v=.ptr o off/\k o off=.ok r:=by
 cases v<;>first|exact⟨_,_,rfl,h⟩|cases h
theorem rR{v:V}{k:Nat->Nat->aa}{r:V}(h:KO v k=.ok r):∃l n,v=.str l n/\k l n=.ok r:=by
 cases v<;>first|exact⟨_,_,rfl,h⟩|cases h
theorem yk{v:V}{k:List V->aa}{r:V}(h:Nt v k=.ok r):∃l,v=.agg l/\k l=.ok r:=by
 cases v<;>first|exact⟨_,rfl,h⟩|cases h
theorem xJ{o:O}{k:Nat->T V->aa}{r:V}(h:fq o k=.ok r):∃n t,((∃B4 CJ ty ex,o=.row n t B4 CJ ty ex)\/o=.ro n t)/\k n t=.ok r:=by
 cases o<;>first|exact⟨_,_,.inl ⟨_,_,_,_,rfl⟩,h⟩|exact⟨_,_,.inr rfl,h⟩|cases h
theorem uX{o:O}{k:List (V×V)->aa}{r:V}(h:wZ o k=.ok r):∃es,(o=.map es\/o=.mc es)/\k es=.ok r:=by
 cases o<;>first|exact⟨_,.inl rfl,h⟩|exact⟨_,.inr rfl,h⟩|cases h
theorem fF{o:O}{k:Nat->Jump->Q->T V->List Q->C->C->Q->aa}{r:V}(h:mE o k=.ok r) :
  ∃st pend fn tm ps B3 body CH,o=.loop (.mk st pend fn tm ps B3 body CH)/\k st pend fn tm ps B3 body CH=.ok r:=by
 cases o with
 |loop l=>cases l;exact⟨_,_,_,_,_,_,_,_,rfl,h⟩
 |_=>cases h
abbrev T.ob(h:T O)(q:Q):O:=h.get O.dead q
theorem bW(q:Q)(h:T O)(k:O->aa):gO q h k=k (h.ob q):=uR _ _ _ _
theorem c8(v:O)(q:Q)(h:T O)(k:T O->aa):pO v q h k=k (h.put .dead v q):=u3 _ _ _ _ _
theorem dI(q:Q)(t:T V)(k:V->aa):gV q t k=k (t.get V.undef q):=uR _ _ _ _
theorem zr(v:V)(q:Q)(t:T V)(k:T V->aa):pV v q t k=k (t.put V.undef v q):=u3 _ _ _ _ _
end
section
open Go.AM (hV)
abbrev ak:=Q->Option (Nat×Nat)
def ak.le(J J':ak):Prop:=∀q x,J q=some x->J' q=some x
theorem ak.le_refl(J:ak):J.le J:=λ_ _ h=>h
theorem ak.le_trans{a b c:ak}(h:a.le b)(k:b.le c):a.le c:=λq x e=>k q x (h q x e)
def ci:V->Bool
 |.agg _=>false
 |.aj _=>false
 |.bot=>false
 |_=>true
inductive VR (J:ak):V->Value->Prop where
 |bool (b:Bool):VR J (.bool b) (.bool b)
 |int (k:IntKind) (n:Int):VR J (.int k n) (.int k n)
 |str (l n:Nat) (s:List UInt8) (hl:s.length=l) (hn:cC s=n):VR J (.str l n) (.string ⟨⟨s⟩⟩)
 |nw:VR J .nw (.pointer none)
 |ptr (o:Q) (off b N:Nat) (h:J o=some (b,N)):VR J (.ptr o off) (.pointer (some ⟨b,off,none⟩))
 |jk:VR J .jk (.slice none 0 0)
 |sl (o:Q) (off len cap b N:Nat) (h:J o=some (b,N)) (hc:len<=cap):VR J (.sl o off len cap) (.slice (some ⟨b,off,none⟩) len cap)
 |su (o:Q) (off len sz b N cap:Nat) (h:J o=some (b,N)) (hc:len<=cap) (hr:off+cap*sz=N):VR J (.su o off len sz) (.slice (some ⟨b,off,none⟩) len cap)
 |se (a:Addr) (cap:Nat):VR J .se (.slice (some a) 0 cap)
 |mo:VR J .mo (.map none)
 |map (o:Q) (b N:Nat) (h:J o=some (b,N)):VR J (.map o) (.map (some b))
 |nf:VR J .nf .nilFunc
 |fn (f:Q) (fs cs:List V) (us vs:List Value) (hl:fs.length=us.length) (hm:cs.length=vs.length)
   (hx:∀(i:Nat)(c:V)(v:Value),fs[i]?=some c->us[i]?=some v->VR J c v)
   (hy:∀(i:Nat)(c:V)(v:Value),cs[i]?=some c->vs[i]?=some v->VR J c v):VR J (.fn f fs cs) (.func (.func f.nat) ⟨us⟩ ⟨vs⟩)
 |bN (o:Q) (b N:Nat) (h:J o=some (b,N)):VR J (.bN o) (.func (.yield b) #[] #[])
 |lz:VR J .lz .nilIface
 |kh (t:Nat) (x:V) (v:Value) (h:VR J x v):VR J (.kh t x) (.iface t v)
 |agg (cs:List V) (vs:List Value) (hl:cs.length=vs.length) (hk:∀c∈cs,ci c=true)
   (hx:∀(i:Nat)(c:V)(v:Value),cs[i]?=some c->vs[i]?=some v->VR J c v):VR J (.agg cs) (.agg ⟨vs⟩)
 |aj (cs:List V) (vs:List Value) (hl:cs.length=vs.length)
   (hx:∀(i:Nat)(c:V)(v:Value),cs[i]?=some c->vs[i]?=some v->VR J c v):VR J (.aj cs) (.tuple ⟨vs⟩)
 |uC (v:Value) (h:hV v=true):VR J (.rr .any) v
 |tK (o:Q) (off b B:Nat) (h:J o=some (b,B)):VR J (.rr (.ptr o off)) (.pointer (some ⟨b,B+off,none⟩))
 |og (o:Q) (off len b B cap:Nat) (h:J o=some (b,B)) (hc:len<=cap):VR J (.rr (.sl o off len)) (.slice (some ⟨b,B+off,none⟩) len cap)
 |re (a:Option Addr) (cap:Nat):VR J (.rr .e) (.slice a 0 cap)
 |rz (a:Option Addr):VR J (.rr .z) (.slice a 0 0)
theorem VR.mono{J J':ak}(hp:J.le J'){x:V}{v:Value}(h:VR J x v):VR J' x v:=by
 induction h with
 |bool b=>exact .bool b
 |int k n=>exact .int k n
 |str l n s hl hn=>exact .str l n s hl hn
 |nw=>exact .nw
 |ptr o off b N h=>exact .ptr o off b N (hp _ _ h)
 |jk=>exact .jk
 |sl o off len cap b N h hc=>exact .sl o off len cap b N (hp _ _ h) hc
 |su o off len sz b N cap h hc hr=>exact .su o off len sz b N cap (hp _ _ h) hc hr
 |se a cap=>exact .se a cap
 |mo=>exact .mo
 |map o b N h=>exact .map o b N (hp _ _ h)
 |nf=>exact .nf
 |fn f fs cs us vs hl hm hx hy pj nq=>exact .fn f fs cs us vs hl hm pj nq
 |bN o b N h=>exact .bN o b N (hp _ _ h)
 |lz=>exact .lz
 |kh t x v h ih=>exact .kh t x v ih
 |agg cs vs hl hk hx ih=>exact .agg cs vs hl hk ih
 |aj cs vs hl hx ih=>exact .aj cs vs hl ih
 |uC v h=>exact .uC v h
 |tK o off b B h=>exact .tK o off b B (hp _ _ h)
 |og o off len b B cap h hc=>exact .og o off len b B cap (hp _ _ h) hc
 |re a cap=>exact .re a cap
 |rz a=>exact .rz a
def a_(J:ak)(cs:List V)(vs:List Value):Prop:=cs.length=vs.length/\∀(i:Nat)(c:V)(v:Value),cs[i]?=some c->vs[i]?=some v->VR J c v
theorem a_.mono{J J':ak}(hp:J.le J'){cs:List V}{vs:List Value}(h:a_ J cs vs):a_ J' cs vs:=⟨h.1,λi c v h1 h2=>(h.2 i c v h1 h2).mono hp⟩
theorem a_.nil{J:ak}:a_ J [] []:=⟨rfl,λi c v h=>by simp at h⟩
theorem a_.cons{J:ak}{c:V}{v:Value}{cs:List V}{vs:List Value}(h:VR J c v)(hs:a_ J cs vs):a_ J (c::cs) (v::vs) :=
 ⟨by simp[hs.1],λi c' v' h1 h2=>by
  cases i with
  |zero=>simp at h1 h2;subst h1;subst h2;exact h
  |succ i=>exact hs.2 i c' v' (by simpa using h1) (by simpa using h2)⟩
theorem a_.head{J:ak}{c:V}{v:Value}{cs:List V}{vs:List Value}(h:a_ J (c::cs) (v::vs)):VR J c v:=h.2 0 c v rfl rfl
theorem a_.tail{J:ak}{c:V}{v:Value}{cs:List V}{vs:List Value}(h:a_ J (c::cs) (v::vs)):a_ J cs vs :=
 ⟨by simpa using h.1,λi c' v' h1 h2=>h.2 (i+1) c' v' (by simpa using h1) (by simpa using h2)⟩
theorem a_.k_{J:ak}{vs:List Value}(h:a_ J [] vs):vs=[]:=by
 have:=h.1
 exact Ds.1 (by simpa using this.symm)
theorem a_.k6{J:ak}{c:V}{cs:List V}{vs:List Value}(h:a_ J (c::cs) vs):∃v CL,vs=v::CL/\VR J c v/\a_ J cs CL:=by
 cases vs with
 |nil=>have:=h.1;simp at this
 |cons v CL=>exact⟨v,CL,rfl,h.head,h.tail⟩
theorem a_.append{J:ak}:∀{cs ds:List V}{vs us:List Value},a_ J cs vs->a_ J ds us->a_ J (cs++ds) (vs++us)
 |[],ds,vs,us,h,k=>by rw[h.k_];exact k
 |c::cs,ds,vs,us,h,k=>by
  obtain⟨v,CL,rfl,h1,h2⟩:=h.k6;exact .cons h1 (h2.append k)
theorem a_.drop{J:ak}{cs:List V}{vs:List Value}(h:a_ J cs vs)(n:Nat):a_ J (cs.drop n) (vs.drop n) :=
 ⟨by simp[h.1],λi c v h1 h2=>h.2 (n+i) c v (by simpa using h1) (by simpa using h2)⟩
theorem a_.take{J:ak}{cs:List V}{vs:List Value}(h:a_ J cs vs)(n:Nat):a_ J (cs.take n) (vs.take n) :=
 ⟨by simp[h.1],λi c v h1 h2=>by
  rw[Bl] at h1 h2
  split at h1
  ·rename_i hi;rw[Br hi] at h2;exact h.2 i c v h1 h2
  ·cases h1⟩
theorem a_.get{J:ak}{cs:List V}{vs:List Value}(h:a_ J cs vs){i:Nat}{c:V}(hc:cs[i]?=some c):∃v,vs[i]?=some v/\VR J c v:=by
 have hi:i<vs.length:=by rw[<-h.1];exact(Ab.1 hc).1
 exact⟨vs[i],by simp[hi],h.2 i c _ hc (by simp[hi])⟩
section inv
variable {J:ak}{v:Value}
theorem VR.od{b:Bool}(h:VR J (.bool b) v):v=.bool b:=by cases h;rfl
theorem VR.kj{k:IntKind}{n:Int}(h:VR J (.int k n) v):v=.int k n:=by cases h;rfl
theorem VR.l_{l n:Nat}(h:VR J (.str l n) v):∃s:List UInt8,v=.string ⟨⟨s⟩⟩/\s.length=l/\cC s=n:=by cases h;exact⟨_,rfl,by assumption,by assumption⟩
theorem VR.ns{o:Q}{off:Nat}(h:VR J (.ptr o off) v):∃b N,v=.pointer (some ⟨b,off,none⟩)/\J o=some (b,N):=by cases h;exact⟨_,_,rfl,by assumption⟩
theorem VR.qh{cs:List V}(h:VR J (.agg cs) v):∃vs,v=.agg ⟨vs⟩/\a_ J cs vs/\∀c∈cs,ci c=true:=by cases h with|agg _ vs hl hk hx=>exact⟨vs,rfl,⟨hl,hx⟩,hk⟩
theorem VR.xj{cs:List V}(h:VR J (.aj cs) v):∃vs,v=.tuple ⟨vs⟩/\a_ J cs vs:=by cases h with|aj _ vs hl hx=>exact⟨vs,rfl,hl,hx⟩
theorem VR.vF{o:Q}(h:VR J (.map o) v):∃b N,v=.map (some b)/\J o=some (b,N):=by cases h;exact⟨_,_,rfl,by assumption⟩
theorem VR.uu{f:Q}{fs cs:List V}(h:VR J (.fn f fs cs) v):∃us vs,v=.func (.func f.nat) ⟨us⟩ ⟨vs⟩/\a_ J fs us/\a_ J cs vs:=by cases h with|fn _ _ _ us vs hl hm hx hy=>exact⟨us,vs,rfl,⟨hl,hx⟩,hm,hy⟩
theorem VR.a0W{o:Q}(h:VR J (.bN o) v):∃b N,v=.func (.yield b) #[] #[]/\J o=some (b,N):=by cases h;exact⟨_,_,rfl,by assumption⟩
theorem VR.one{x:V}(h:VR J x v)(hc:ci x=true):hV v=true:=by cases h<;>first|rfl|assumption|simp[ci] at hc
theorem VR.undef:VR J V.undef Go.undef:=.aj [] [] rfl λi c v h=>by simp at h
end inv
def VC(v:V)(l:List V):Prop:=v=.agg l\/(ci v=true/\l=[v])
theorem rV{v:V}{k:List V->aa}{r:V}(h:Jd v k=.ok r):∃l,VC v l/\k l=.ok r:=by
 cases v<;>first|exact⟨_,.inr ⟨rfl,rfl⟩,h⟩|exact⟨_,.inl rfl,h⟩|cases h
theorem VR.cells{J:ak}{x:V}{v:Value}{l:List V}(h:VR J x v)(hc:VC x l):a_ J l v.cells.toList/\(∀c∈l,ci c=true)/\∀u∈v.cells.toList,hV u=true:=by
 rcases hc with rfl|⟨h1,rfl⟩
 ·obtain⟨vs,rfl,h2,h3⟩:=h.qh
  refine⟨h2,h3,λu hu=>?_⟩;obtain⟨i,hi⟩:=Di hu;have D7:vs[i]?=some u:=hi;have AL:i<l.length:=by rw[h2.1];exact(Ab.1 D7).1
  exact(h2.2 i l[i] u (by simp[AL]) D7).one (h3 _ (Ea AL))
 ·have h2:=h.one h1
  have hv:v.cells.toList=[v]:=by cases v<;>simp_all [Value.cells,hV]
  rw[hv];exact⟨.cons h .nil,λc hc=>by simp at hc;subst hc;exact h1,λu hu=>by simp at hu;subst hu;exact h2⟩
theorem a_.hV{J:ak}{cs:List V}{vs:List Value}(h:a_ J cs vs)(hk:∀c∈cs,ci c=true):∀u∈vs,hV u=true:=λu hu=>by
 obtain⟨i,hi⟩:=Di hu;have AL:i<cs.length:=by rw[h.1];exact(Ab.1 hi).1
 exact(h.2 i cs[i] u (by simp[AL]) hi).one (hk _ (Ea AL))
theorem fU{J:ak}{v:Value}(h:lO (jD v)=true):VR J (jD v) v:=by
 unfold jD at h ⊢
 split at h<;>first|exact .bool _|exact .int _ _|exact .nw|exact .jk|exact .mo|exact .nf|exact .lz|exact .str _ _ _ rfl rfl|cases h
theorem a3J{v:Value}(h:lO (jD v)=true):ci (jD v)=true:=by
 unfold jD at h ⊢
 split at h<;>first|rfl|cases h
theorem jF{J:ak}{v:Value}(h:lO (jE v)=true):VR J (jE v) v:=by
 cases v with
 |agg cs =>
  simp only[jE] at h ⊢;cases he:(cs.toList.map jD).all lO with
  |false=>rw[he] at h;cases h
  |true =>
   have CA:=Au.1 he;refine .agg _ _ (by simp) (λc hc=>?_) (λi c u h1 h2=>?_)
   ·simp only[Cn] at hc
    obtain⟨u,hu,rfl⟩:=hc;exact a3J (CA _ (Cn.2 ⟨u,hu,rfl⟩))
   ·rw[Aw] at h1
    rw[h2] at h1;simp at h1;subst h1;exact fU (CA _ (Cn.2 ⟨u,Be h2,rfl⟩))
 |_ =>
  simp only[jE] at h ⊢;exact fU h
abbrev ev(tmps:Array Value)(ds:List Deferred):Operand->Value:=(⟨tmps,ds⟩:Act).eval
def XR(J:ak)(tm:T V)(tmps:Array Value)(xs:List Operand):Prop:=∀t,Operand.tmp t∈xs->VR J (tm.at t) (tmps.getD t Go.undef)
def XE(P:Program)(J:ak):Prop:=∀g,g<P.globals.size->∃N,J (qn g)=some (g,N)
theorem iT{P:Program}{J:ak}{tm:T V}{tmps:Array Value}{ds:List Deferred}{x:Operand}{v:V}(hG:XE P J)(hT:XR J tm tmps [x])(h:xE tm (aE P x)=some v):VR J v (ev tmps ds x):=by
 cases x with
 |tmp t =>
  simp only[aE,xE,Am] at h;subst h;exact hT t (by simp)
 |const c =>
  simp only[aE] at h
  split at h
  ·rename_i hb
   simp only[xE,Am] at h;subst h;exact jF hb
  ·cases h
 |global g =>
  simp only[aE] at h
  split at h
  ·rename_i hb
   simp only[xE,Am] at h;subst h;obtain⟨N,hN⟩:=hG g (by simpa[Cy] using hb);exact .ptr _ _ _ _ hN
  ·cases h
 |func f =>
  simp only[aE,xE,Am] at h;subst h
  have:=VR.fn (J:=J) (qn f) [] [] [] [] rfl rfl (λi c v h=>by simp at h) (λi c v h=>by simp at h)
  rw[dY] at this;exact this
theorem XR.sub{J:ak}{tm:T V}{tmps:Array Value}{xs ys:List Operand}(h:XR J tm tmps xs)(hs:∀x∈ys,x∈xs):XR J tm tmps ys:=λt ht=>h t (hs _ ht)
theorem oH{P:Program}{J:ak}{tm:T V}{tmps:Array Value}{ds:List Deferred}(hG:XE P J):∀{xs:List Operand}{vs:List V},XR J tm tmps xs->NT tm (xs.map (aE P))=some vs->a_ J vs (xs.map (ev tmps ds))
 |[],vs,hT,h=>by simp[NT] at h;subst h;exact .nil
 |x::xs,vs,hT,h=>by
  simp only[Ba,NT,Da,Aq] at h;obtain⟨v,h1,l,h2,rfl⟩:=h;exact .cons (iT hG (hT.sub (by simp)) h1) (oH hG (hT.sub (λy hy=>by simp[hy])) h2)
end
section
open Go.AM (hV overwrite)
structure cL extends World where
 v3:ak
variable {P:Program}{w0:cL}{w:World}{J J':ak}{h h':T O}{nx:Q}
inductive RH:Nat->LoopState->Prop where
 |ready:RH 0 .ready
 |busy:RH 1 .busy
 |done:RH 2 .done
 |exhausted:RH 3 .exhausted
inductive JR:Jump->Option Code->Prop where
 |none:JR .none none
 |ret:JR .ret (some .ret)
 |exit (id:Nat):JR (.exit id) (some (.exit id))
structure TR (J:ak) (n:Nat) (tm:T V) (tmps:Array Value):Prop where
 size:n<=tmps.size
 rel:∀t,VR J (tm.at t) (tmps.getD t Go.undef)
theorem TR.mono{n:Nat}{tm:T V}{tmps:Array Value}(hp:J.le J')(h:TR J n tm tmps):TR J' n tm tmps:=⟨h.size,λt=>(h.rel t).mono hp⟩
def nt(P:Program)(f:Nat):Nat:=((P.funcs[f]?).map (·.ntmps)).getD 0
inductive LR (P:Program) (J:ak):Lp->Loop->Prop where
 |mk (st:Nat) (pend:Jump) (fn:Nat) (tm:T V) (CH:Q) (r:Loop) (N:Nat) (h1:RH st r.state) (h2:JR pend r.pending) (h3:r.fn=fn) (h4:TR J (nt P fn) tm r.tmps)
   (h5:∀t∈r.params.toList,t<nt P fn) (h6:J CH=some (r.defers,N)) :
   LR P J (.mk st pend (qn fn) tm (r.params.toList.map qn) (cZ P (nt P fn) r.assign) (cZ P (nt P fn) r.body) CH) r
theorem LR.mono{l:Lp}{r:Loop}(hp:J.le J')(h:LR P J l r):LR P J' l r:=by
 cases h with
 |mk st pend fn tm CH r N h1 h2 h3 h4 h5 h6=>exact .mk st pend fn tm CH r N h1 h2 h3 (h4.mono hp) h5 (hp _ _ h6)
structure MR (J:ak) (es:List (V×V)) (AJ:List MapEntry):Prop where
 len:es.length=AJ.length
 key:∀(i:Nat) p e,es[i]?=some p->AJ[i]?=some e->VR J p.1 e.key
 val:∀(i:Nat) p e,es[i]?=some p->AJ[i]?=some e->VR J p.2 e.val
def oq(AJ:List MapEntry)(clock:Nat):Prop:=clock=AJ.length/\∀(i:Nat)(e:MapEntry),AJ[i]?=some e->e.born=i
theorem MR.mono{es:List (V×V)}{AJ:List MapEntry}(hp:J.le J')(h:MR J es AJ):MR J' es AJ:=⟨h.len,λi p e h1 h2=>(h.key i p e h1 h2).mono hp,λi p e h1 h2=>(h.val i p e h1 h2).mono hp⟩
inductive OR (P:Program) (J:ak) (w:World) (B0:Nat):O->Nat->Nat->Prop where
 |dead (b N:Nat):OR P J w B0 .dead b N
 |row (n:Nat) (t:T V) (B4:List Q) (CJ:Nat) (T:TypeId) (ex:Bool) (b N:Nat) (vs:List Value) (hb:B0<=b) (hw:w.heap[b]?=some (.cells ⟨vs⟩ T (0,0))) (hN:vs.length=N) (hn:n<=N) (hf:CJ<=n) (he:ex=true->n=N)
   (ha:∀a∈B4,J a≠none) (hx:∀(i:Nat) v,i<n->vs[i]?=some v->VR J (t.at i) v) (hk:∀i,i<n->ci (t.at i)=true):OR P J w B0 (.row n t B4 CJ T ex) b N
 |ro (n:Nat) (t:T V) (b N:Nat) (vs:List Value) (T:TypeId) (fz:Nat×Nat) (hw:w.heap[b]?=some (.cells ⟨vs⟩ T fz)) (hn:n<=vs.length)
   (hx:∀(i:Nat) v,i<n->vs[i]?=some v->VR J (t.at i) v) (hk:∀i,i<n->ci (t.at i)=true):OR P J w B0 (.ro n t) b N
 |map (es:List (V×V)) (AJ:List MapEntry) (cl b N:Nat) (hb:B0<=b) (hw:w.heap[b]?=some (.map ⟨AJ⟩ cl)) (hm:MR J es AJ) (hc:oq AJ cl):OR P J w B0 (.map es) b N
 |mc (es:List (V×V)) (AJ:List MapEntry) (cl b N:Nat) (hb:B0<=b) (hw:w.heap[b]?=some (.map ⟨AJ⟩ cl)) (hm:MR J es AJ):OR P J w B0 (.mc es) b N
 |loop (l:Lp) (r:Loop) (b N:Nat) (hb:B0<=b) (hw:w.heap[b]?=some (.loop r)) (hl:LR P J l r):OR P J w B0 (.loop l) b N
 |kg (taken:Bool) (b N:Nat) (hb:B0<=b) (hw:w.heap[b]?=some (.deferred (if taken then none else some []))):OR P J w B0 (.kg taken) b N
 |rb (n:Nat) (t:T V) (b B:Nat) (vs:List Value) (T:TypeId) (fz:Nat×Nat) (hb:b<B0) (hw:w.heap[b]?=some (.cells ⟨vs⟩ T fz)) (hn:B+n<=vs.length)
   (hx:∀(i:Nat) v,i<n->vs[B+i]?=some v->VR J (t.at i) v) (hk:∀i,i<n->ci (t.at i)=true):OR P J w B0 (.rb n t) b B
def Sh(x y:O)(q:Q):Prop :=
 match x with
 |.row _ _ B4 CJ _ _=>y=.dead\/∃n t,y=.ro n t/\q∈B4/\n<=CJ
 |.map _|.mc _|.loop _|.kg _=>y=.dead
 |.dead|.ro _ _|.rb _ _=>True
structure HR (P:Program) (w0:cL) (J:ak) (h:T O) (nx:Q) (w:World):Prop where
 size:w0.heap.size<=w.heap.size
 old:∀b,b<w0.heap.size->w.heap[b]?=w0.heap[b]?
 os:w.os=w0.os
 tape:w.tape=w0.tape
 output:w.output=w0.output
 jt:XE P J
 fresh:∀q,nx.nat<=q.nat->J q=none
 lt:∀q b N,J q=some (b,N)->b<w.heap.size
 obj:∀q b N,J q=some (b,N)->OR P J w w0.heap.size (h.ob q) b N
 sep:∀q q' b N N',q≠q'->J q=some (b,N)->J q'=some (b,N')->Sh (h.ob q) (h.ob q') q'
 dead:∀q,nx.nat<=q.nat->h.ob q=.dead
 base:w0.v3.le J
theorem OR.mono{B0:Nat}{o:O}{b N:Nat}{w':World}(hp:J.le J')(DX:w'.heap[b]?=w.heap[b]?)(h:OR P J w B0 o b N):OR P J' w' B0 o b N:=by
 cases h with
 |dead=>exact .dead _ _
 |row n t B4 CJ T ex _ _ vs hb hw hN hn hf he ha hx hk =>
  exact .row n t B4 CJ T ex _ _ vs hb (by rw[DX];exact hw) hN hn hf he (λa h1=>by
   cases e:J a with
   |none=>exact absurd e (ha a h1)
   |some x=>rw[hp a x e];simp) (λi v h1 h2=>(hx i v h1 h2).mono hp) hk
 |ro n t _ _ vs T fz hw hn hx hk=>exact .ro n t _ _ vs T fz (by rw[DX];exact hw) hn (λi v h1 h2=>(hx i v h1 h2).mono hp) hk
 |map es AJ cl _ _ hb hw hm hc=>exact .map es AJ cl _ _ hb (by rw[DX];exact hw) (hm.mono hp) hc
 |mc es AJ cl _ _ hb hw hm=>exact .mc es AJ cl _ _ hb (by rw[DX];exact hw) (hm.mono hp)
 |loop l r _ _ hb hw hl=>exact .loop l r _ _ hb (by rw[DX];exact hw) (hl.mono hp)
 |kg taken _ _ hb hw=>exact .kg taken _ _ hb (by rw[DX];exact hw)
 |rb n t _ _ vs T fz hb hw hn hx hk=>exact .rb n t _ _ vs T fz hb (by rw[DX];exact hw) hn (λi v h1 h2=>(hx i v h1 h2).mono hp) hk
theorem HR.cell(H:HR P w0 J h nx w){o:Q}{b N n off:Nat}{t:T V}(ho:J o=some (b,N))(hr:(∃B4 CJ ty ex,h.ob o=.row n t B4 CJ ty ex)\/h.ob o=.ro n t)(hi:off<n) :
  ∃v,w.cell? ⟨b,off,none⟩=some v/\VR J (t.at off) v/\ci (t.at off)=true:=by
 have:=H.obj o b N ho
 rcases hr with⟨B4,CJ,ty,ex,hr⟩|hr
 ·rw[hr] at this
  cases this with
  |row _ _ _ _ _ _ _ _ vs hb hw hN hn hf he ha hx hk =>
   have AL:off<vs.length:=by omega
   exact⟨vs[off],by rw[AM.cell_of_heap hw];simp[AL],hx off _ hi (by simp[AL]),hk off hi⟩
 ·rw[hr] at this
  cases this with
  |ro _ _ _ _ vs T fz hw hn hx hk =>
   have AL:off<vs.length:=by omega
   exact⟨vs[off],by rw[AM.cell_of_heap hw];simp[AL],hx off _ hi (by simp[AL]),hk off hi⟩
theorem HR.cells(H:HR P w0 J h nx w){o:Q}{b N n off m:Nat}{t:T V}(ho:J o=some (b,N))(hr:(∃B4 CJ ty ex,h.ob o=.row n t B4 CJ ty ex)\/h.ob o=.ro n t)(hi:off+m<=n) :
  ∃vs:List Value,vs.length=m/\(∀(j:Nat) v,vs[j]?=some v->w.cell? ⟨b,off+j,none⟩=some v)/\a_ J (jN m off t) vs/\∀c∈jN m off t,ci c=true:=by
 have hex:∀j,j<m->∃v,w.cell? ⟨b,off+j,none⟩=some v/\VR J (t.at (off+j)) v/\ci (t.at (off+j))=true:=λj hj=>H.cell ho hr (by omega)
 refine⟨(List.range m).map λj=>(w.cell? ⟨b,off+j,none⟩).getD Go.undef,by simp,λj v hv=>?_,⟨by simp[eT],λi c v hc hv=>?_⟩,λc hc=>?_⟩
 ·have hj:j<m:=by have:=(Ab.1 hv).1;simpa using this
  obtain⟨u,hu,_⟩:=hex j hj;rw[Aw,Ch hj] at hv;simp[hu] at hv ⊢;exact hv
 ·have hj:i<m:=by have:=(Ab.1 hc).1;simpa[eT] using this
  obtain⟨u,hu,h1,_⟩:=hex i hj;rw[kW hj] at hc;rw[Aw,Ch hj] at hv;simp[hu] at hc hv;subst hc;subst hv;exact h1
 ·obtain⟨i,D7⟩:=Di hc
  have hj:i<m:=by have:=(Ab.1 D7).1;simpa[eT] using this
  rw[kW hj] at D7;simp at D7;subst D7;exact(hex i hj).choose_spec.2.2
theorem HR.a2l(H:HR P w0 J h nx w){o:Q}{b B n off:Nat}{t:T V}(ho:J o=some (b,B))(hr:h.ob o=.rb n t)(hi:off<n):∃v,w.cell? ⟨b,B+off,none⟩=some v/\VR J (t.at off) v/\ci (t.at off)=true:=by
 have:=H.obj o b B ho
 rw[hr] at this;cases this with
 |rb _ _ _ _ vs T fz hb hw hn hx hk =>
  have AL:B+off<vs.length:=by omega
  exact⟨vs[B+off],by rw[AM.cell_of_heap hw];simp[AL],hx off _ hi (by simp[AL]),hk off hi⟩
theorem HR.a2m(H:HR P w0 J h nx w){o:Q}{b B n off m:Nat}{t:T V}(ho:J o=some (b,B))(hr:h.ob o=.rb n t)(hi:off+m<=n) :
  ∃vs:List Value,vs.length=m/\(∀(j:Nat) v,vs[j]?=some v->w.cell? ⟨b,B+(off+j),none⟩=some v)/\a_ J (jN m off t) vs/\∀c∈jN m off t,ci c=true:=by
 have hex:∀j,j<m->∃v,w.cell? ⟨b,B+(off+j),none⟩=some v/\VR J (t.at (off+j)) v/\ci (t.at (off+j))=true:=λj hj=>H.a2l ho hr (by omega)
 refine⟨(List.range m).map λj=>(w.cell? ⟨b,B+(off+j),none⟩).getD Go.undef,by simp,λj v hv=>?_,⟨by simp[eT],λi c v hc hv=>?_⟩,λc hc=>?_⟩
 ·have hj:j<m:=by have:=(Ab.1 hv).1;simpa using this
  obtain⟨u,hu,_⟩:=hex j hj;rw[Aw,Ch hj] at hv;simp[hu] at hv ⊢;exact hv
 ·have hj:i<m:=by have:=(Ab.1 hc).1;simpa[eT] using this
  obtain⟨u,hu,h1,_⟩:=hex i hj;rw[kW hj] at hc;rw[Aw,Ch hj] at hv;simp[hu] at hc hv;subst hc;subst hv;exact h1
 ·obtain⟨i,D7⟩:=Di hc
  have hj:i<m:=by have:=(Ab.1 D7).1;simpa[eT] using this
  rw[kW hj] at D7;simp at D7;subst D7;exact(hex i hj).choose_spec.2.2
structure ec (β:Nat) (J:ak) (h:T O) (J':ak) (h':T O):Prop where
 le:J.le J'
 pend:∀q:Q,q.nat < β->J q=none->J' q=none/\h'.ob q=h.ob q
theorem ec.refl(β:Nat)(J:ak)(h:T O):ec β J h J h:=⟨ak.le_refl _,λ_ _ hq=>⟨hq,rfl⟩⟩
theorem ec.trans{β:Nat}{J1 J2 J3:ak}{h1 h2 h3:T O}(a:ec β J1 h1 J2 h2)(b:ec β J2 h2 J3 h3):ec β J1 h1 J3 h3 :=
 ⟨ak.le_trans a.le b.le,λq hq hn=>by
  obtain⟨x,y⟩:=a.pend q hq hn;obtain⟨x',y'⟩:=b.pend q hq x;exact⟨x',y'.trans y⟩⟩
theorem ec.down{β β':Nat}(hle:β'<=β)(a:ec β J h J' h'):ec β' J h J' h':=⟨a.le,λq hq=>a.pend q (by omega)⟩
theorem HR.drawn(H:HR P w0 J h nx w)(d:Nat):HR P w0 J h nx { w with drawn:=d } :=
 ⟨H.size,H.old,H.os,H.tape,H.output,H.jt,H.fresh,H.lt,λq b N e=>OR.mono (w:=w) (w':={ w with drawn:=d }) (ak.le_refl _) rfl (H.obj q b N e),H.sep,H.dead,H.base⟩
theorem HR.pend(H:HR P w0 J h nx w){q:Q}(hq:J q=none)(o:O){nx':Q}(hx:nx.nat<=nx'.nat)(hqx:q.nat < nx'.nat):HR P w0 J (h.put .dead o q) nx' w:=by
 have BA:∀p x,J p=some x->q≠p:=λp x e he=>by subst he;rw[hq] at e;cases e
 refine⟨H.size,H.old,H.os,H.tape,H.output,H.jt,λp hp=>H.fresh p (by omega),H.lt,λp b N e=>?_,λp p' b N N' h1 h2 h3=>?_,λp hp=>?_,H.base⟩
 ·rw[T.ob,T.uh _ _ _ (BA p _ e)];exact H.obj p b N e
 ·rw[T.ob,T.ob,T.uh _ _ _ (BA p _ h2),T.uh _ _ _ (BA p' _ h3)];exact H.sep p p' b N N' h1 h2 h3
 ·rw[T.ob,T.uh _ _ _ (λe=>by subst e;omega)];exact H.dead p (by omega)
def ak.set(J:ak)(q:Q)(b N:Nat):ak:=λp=>if p=q then some (b,N) else J p
theorem ak.mz{q:Q}{b N:Nat}(hq:J q=none):J.le (J.set q b N):=λp x e=>by
 unfold ak.set;split
 ·subst_vars;rw[hq] at e;cases e
 ·exact e
theorem ak.nh{q:Q}{b N:Nat}:J.set q b N q=some (b,N):=by simp[ak.set]
theorem HR.born(H:HR P w0 J h nx w){q:Q}(hq:J q=none)(hn:q.nat < nx.nat){x:Obj}{N:Nat}
  (ho:OR P (J.set q w.heap.size N) (w.alloc x) w0.heap.size (h.ob q) w.heap.size N):HR P w0 (J.set q w.heap.size N) h nx (w.alloc x):=by
 have hle:=ak.mz (b:=w.heap.size) (N:=N) hq;have AL:∀p b N',J p=some (b,N')->b<w.heap.size:=H.lt;refine⟨?_,λb hb=>?_,H.os,H.tape,H.output,λg hg=>?_,λp hp=>?_,λp b N' e=>?_,λp b N' e=>?_,λp p' b N1 N2 h1 h2 h3=>?_,H.dead,ak.le_trans H.base hle⟩
 ·have:=H.size
  show w0.heap.size<=(w.heap.push x).size;simp;omega
 ·rw[AM.heap_alloc_old _ (Bt hb H.size)];exact H.old b hb
 ·obtain⟨N',e⟩:=H.jt g hg
  exact⟨N',hle _ _ e⟩
 ·unfold ak.set
  rw[Bf (λe=>by subst e;omega)];exact H.fresh p hp
 ·show b<(w.heap.push x).size
  simp only[Array.size_push];unfold ak.set at e
  split at e
  ·simp at e;omega
  ·have:=AL _ _ _ e;omega
 ·by_cases hp:p=q
  ·subst hp
   rw[ak.nh] at e;simp at e;obtain⟨rfl,rfl⟩:=e;exact ho
  ·unfold ak.set at e
   rw[Bf hp] at e;exact(H.obj p b N' e).mono hle (AM.heap_alloc_old _ (AL _ _ _ e))
 ·unfold ak.set at h2 h3
  by_cases hp:p=q
  ·rw[Br hp] at h2
   simp at h2;rw[Bf (λe=>h1 (by rw[hp,e]))] at h3
   have:=AL _ _ _ h3;omega
  ·rw[Bf hp] at h2
   by_cases K3:p'=q
   ·rw[Br K3] at h3
    simp at h3
    have:=AL _ _ _ h2;omega
   ·rw[Bf K3] at h3
    exact H.sep p p' b N1 N2 h1 h2 h3
end
end Go.CM
end
