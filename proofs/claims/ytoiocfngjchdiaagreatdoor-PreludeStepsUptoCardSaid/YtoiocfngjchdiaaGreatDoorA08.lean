import Derived.Test.YtoiocfngjchdiaaGreatDoorA07
import Derived.IntWalk
set_option linter.all false
namespace Go.AM
section
variable {P:Program}{ans:FuncId->AF}{an:AF}{tm:List Slot}{rs:RS}
inductive Out where
 |ret (s:Slot) (rs:RS)
 |pan (v:AVal) (rs:RS)
 |call (AA:Bool) (c:Callee) (args:List Slot) (rs:RS)
 |none
def Out.run{R:Type}(cf:aJ)(kp:AVal->RS->Option R)(k:Slot->RS->Option R):Out->Option R
 |.ret s rs=>k s rs
 |.pan v rs=>kp v rs
 |.call AA c args rs=>cR AA cf c args rs kp k
 |.none=>Option.none
abbrev FF:=∀(R:Type),aJ->(AVal->RS->Option R)->(Slot->RS->Option R)->Option R
def bA(F:FF):Prop:=∃out:Out,∀R cf kp k,F R cf kp k=out.run cf kp k
theorem bL{s:Slot}{rs:RS}:bA (λ_ _ _ k=>k s rs):=⟨.ret s rs,λ_ _ _ _=>rfl⟩
theorem aL5{s:AVal}{rs:RS}:bA (λ_ _ kp _=>kp s rs):=⟨.pan s rs,λ_ _ _ _=>rfl⟩
theorem aN:bA (λ_ _ _ _=>none):=⟨.none,λ_ _ _ _=>rfl⟩
theorem vd{AA:Bool}{c:Callee}{args:List Slot}{rs:RS}:bA (λ_ cf kp k=>cR AA cf c args rs kp k):=⟨.call AA c args rs,λ_ _ _ _=>rfl⟩
theorem bJ{α:Type}{x:Option α}{G:α->FF}(h:∀a,bA (G a)):bA (λR cf kp k=>x.bind λa=>G a R cf kp k):=by
 cases x with
 |none=>exact aN
 |some a=>exact h a
theorem bQ{b:Bool}{F:FF}(h:bA F):bA (λR cf kp k=>aL b (F R cf kp k)):=by
 cases b with
 |true=>exact h
 |false=>exact aN
theorem oM{s:Slot}{G:AVal->FF}(h:∀v,bA (G v)):bA (λR cf kp k=>DQ s λv=>G v R cf kp k):=by
 cases s<;>first|exact h _|exact aN
theorem pI{s:Slot}{G:List AVal->FF}(h:∀v,bA (G v)):bA (λR cf kp k=>kL s λv=>G v R cf kp k):=by
 cases s with
 |val v=>cases v<;>first|exact h _|exact aN
 |_=>first|exact h _|exact aN
theorem kB{s:Slot}{G:IntKind->Int->FF}(h:∀a b,bA (G a b)):bA (λR cf kp k=>asInt s λa b=>G a b R cf kp k):=by
 cases s with
 |val v=>cases v<;>first|exact h _ _|exact aN
 |_=>exact aN
theorem aAb{s:Slot}{G:Bool->FF}(h:∀a,bA (G a)):bA (λR cf kp k=>asBool s λa=>G a R cf kp k):=by
 cases s with
 |val v=>cases v with
  |bool b=>cases b<;>exact h _
  |_=>exact aN
 |_=>exact aN
theorem Vh{s:Slot}{G:Slot->FF}(h:∀a,bA (G a)):bA (λR cf kp k=>mv s λa=>G a R cf kp k):=by
 cases s<;>first|exact h _|exact aN
theorem kR{x:Operand}{s:Slot}{G:Place->FF}(h:∀a,bA (G a)):bA (λR cf kp k=>cZ x s λa=>G a R cf kp k):=by
 cases s with
 |box cs=>cases x<;>first|exact h _|exact aN
 |ref t o=>exact h _
 |val v=>cases v<;>first|exact h _|exact aN
 |_=>exact aN
theorem aCJ{s:Slot}{G:List Cell->FF}(h:∀a,bA (G a)):bA (λR cf kp k=>oY s λa=>G a R cf kp k):=by
 cases s<;>first|exact h _|exact aN
theorem aCK{s:Option AObj}{G:List Cell->FF}(h:∀a,bA (G a)):bA (λR cf kp k=>oZ s λa=>G a R cf kp k):=by
 rcases s with _|o
 ·exact aN
 ·cases o<;>first|exact h _|exact aN
theorem ig{keep:List Nat}{p:Place}{G:List Cell->Nat->FF}(h:∀a b,bA (G a b)):bA (λR cf kp k=>aW keep tm rs p λa b=>G a b R cf kp k):=by
 cases p with
 |loc t o=>exact aCJ λa=>h a o
 |obj i o=>exact aCK λa=>h a o
 |imm x=>exact h _ _
theorem ik{p:Place}{cs:List Cell}{G:RS->FF}(h:∀a,bA (G a)):bA (λR cf kp k=>bR rs p cs λa=>G a R cf kp k):=by
 cases p with
 |loc t o=>exact h _
 |obj i o=>exact bQ (h _)
 |imm x=>exact aN
theorem vK{keep:List Nat}{x:Operand}{G:List Cell->RS->FF}(h:∀a b,bA (G a b)):bA (λR cf kp k=>dJ keep tm rs x λa b=>G a b R cf kp k):=by
 unfold dJ;generalize A6 keep tm rs x=s;have hv:bA (λR cf kp k=>DQ s λv=>G (v.cells.map .val) rs R cf kp k):=oM λv=>h _ _
 cases s with
 |own sz xs =>
  cases x with
  |tmp t=>dsimp only;cases keep.contains t<;>exact h _ _
  |const v=>cases xs<;>first|exact h _ _|exact hv
  |_=>exact hv
 |cells cs =>
  cases x with
  |tmp t=>dsimp only;cases keep.contains t<;>exact h _ _
  |_=>exact hv
 |_=>exact hv
theorem ic{t0:TypeId}{keep:List Nat}{x:Operand}{G:List Cell->RS->FF}(h:∀a b,bA (G a b)):bA (λR cf kp k=>eH P t0 keep tm rs x λa b=>G a b R cf kp k):=by
 unfold eH;cases hs:A6 keep tm rs x
 case nl=>exact bJ λe=>bJ λsz=>h _ _
 all_goals exact vK h
theorem vL{keep:List Nat}:∀{ps:List (Nat×Operand)}{G:List (Nat×AVal)->FF},(∀a,bA (G a))->bA (λR cf kp k=>gF keep tm rs ps λa=>G a R cf kp k)
 |[],G,h=>h _
 |(i,x)::r,G,h=>oM λv=>vL (ps:=r) λa=>h _
theorem bn{keep:List Nat}:∀{ps:List Operand}{G:List AVal->FF},(∀a,bA (G a))->bA (λR cf kp k=>lZ keep tm rs ps λa=>G a R cf kp k)
 |[],G,h=>h _
 |x::r,G,h=>oM λv=>bn (ps:=r) λa=>h _
theorem vc{keep:List Nat}:∀{ps:List Operand}{rs:RS}{i:Nat}{G:List Slot->RS->FF},(∀a b,bA (G a b))->bA (λR cf kp k=>lI keep tm rs i ps λa b=>G a b R cf kp k)
 |[],rs,i,G,h=>h _ _
 |x::r,rs,i,G,h=>oM λv=>vc (ps:=r) λa b=>h _ _
theorem iI{keep:List Nat}{x:Option Operand}{d:Int}{G:Int->FF}(h:∀a,bA (G a)):bA (λR cf kp k=>iY keep tm rs x d λa=>G a R cf kp k):=by
 cases x with
 |none=>exact h _
 |some x=>exact kB λa b=>h b
theorem aCL{sz:Nat}{full:Bool}{xs:List AVal}{l hh:Int}{G:Slot->FF}(h:∀a,bA (G a)):bA (λR cf kp k=>e9 sz full xs l hh λa=>G a R cf kp k):=bQ (h _)
theorem ij{drawn:Bool}{Qj:List Nat}{p:Place}{F:FF}(h:bA F):bA (λR cf kp k=>bM drawn Qj p (F R cf kp k)):=by
 cases drawn with
 |false=>exact h
 |true=>cases p<;>exact bQ h
theorem aL4{b:Bool}{p:Place}{F:FF}(h:bA F):bA (λR cf kp k=>fV b p (F R cf kp k)):=by
 cases b with
 |false=>exact h
 |true=>cases p<;>first|exact h|exact aN
theorem aCN{tk:Bool}{ty:TypeId}{x:Operand}{G:Slot->RS->FF}(h:∀a b,bA (G a b)):bA (λR cf kp k=>GU P an tm tk ty x rs λa b=>G a b R cf kp k):=by
 cases x with
 |tmp t =>
  simp only[GU];generalize A6 an.keep tm rs (.tmp t)=s;have hv:bA (λR cf kp k=>mv s λs'=>G s' rs R cf kp k):=Vh λv=>h _ _
  cases s with
  |own sz xs=>dsimp only;cases(tk||!an.keep.contains t)<;>exact h _ _
  |cells cs=>dsimp only;cases(tk||!an.keep.contains t)<;>exact h _ _
  |_=>exact hv
 |const v =>
  simp only[GU];generalize l6 P ty v=s;cases s<;>first|exact h _ _|exact aN
 |_=>simp only[GU];exact Vh λv=>h _ _
theorem aAP(drawn AA:Bool)(D1:List Nat)(tk:Bool)(o:Oper):bA (λ_ cf kp k=>aB P ans an drawn AA D1 cf tm tk o rs kp k):=by
 obtain⟨dst,op,ty,pos,AJ,gd⟩:=o;cases op with
 |move x=>simp only[aB];exact aCN λ_ _=>bL
 |assign x=>simp only[aB];exact aCN λ_ _=>bL
 |pick c a b=>simp only[aB];exact aAb λ_=>Vh λ_=>bL
 |alloc t =>
  simp only[aB];refine bJ λz=>bJ λs=>bQ ?_
  cases dst with
  |none=>exact aN
  |some d=>dsimp only;cases an.loc.contains d<;>exact bL
 |box t x =>
  simp only[aB];refine ic λv rs=>bJ λs=>bQ ?_
  cases dst with
  |none=>exact aN
  |some d =>
   dsimp only
   cases an.loc.contains d
   ·dsimp only
    cases(tk&&v.all lQ)
    ·exact bQ bL
    ·exact bL
   ·exact bL
 |build t parts =>
  simp only[aB];refine bJ λz=>?_
  generalize P.underlying t=u;rcases u with _|u
  ·exact aN
  ·cases u<;>first
    |exact vL λl=>bJ λs=>bJ λcs=>bL
    |exact aN
 |buildSlice t len parts=>simp only[aB];exact bJ λe=>bJ λs=>bQ (vL λl=>bJ λz=>bQ (bJ λxs=>bL))
 |load t a =>
  simp only[aB];refine kR λp=>ij (aL4 (ig λcs off=>bJ λs=>bJ λagg=>?_))
  cases agg with
  |true=>exact bJ λv=>bL
  |false =>
   refine bQ ?_;generalize cs[off]?=c;have hc:bA (λ_ _ _ k=>c.bind λc=>k (.val c.get) rs):=bJ λc=>bL
   cases tk with
   |false=>exact hc
   |true =>
    rcases c with _|c
    ·exact hc
    ·cases c with
     |own sz xs=>exact ik λ_=>bL
     |val v=>exact hc
 |store t a x =>
  simp only[aB];cases tk with
  |true =>
   refine bQ ?_;unfold ov;split
   ·split
    ·exact bJ λs=>bQ bL
    ·exact aN
   ·exact aN
  |false=>exact kR λp=>ij (ig λcs off=>bJ λs=>vK λv rs=>bQ (ik λ_=>bL))
 |nilCheck x =>
  simp only[aB];generalize A6 an.keep tm rs x=s;cases s with
  |box cs=>cases x<;>first|exact bL|exact aN
  |ref t o=>exact bL
  |val v=>cases v<;>first|exact bL|exact aN
  |_=>exact aN
 |binOp op t x y w =>
  simp only[aB];generalize A6 an.keep tm rs x=s;generalize A6 an.keep tm rs y=s';generalize dP y=b1;generalize isNilIface y=b2;have hz:bA (λ_ _ _ k=>DQ s λa=>DQ s' λb=>aL (gP P t a) ((gN op a b).bind λv=>k (.val v) rs)):=oM λa=>oM λb=>bQ (bJ λv=>bL)
  have hn:∀f:Bool->Bool,bA (λ_ _ _ k=>aL (e7 P t) ((cN s).bind λb=>k (.val (.bool (f b))) rs)):=λf=>bQ (bJ λb=>bL)
  cases op<;>cases b1<;>first
   |exact hn id
   |exact hn (!·)
   |(cases b2 with
     |false=>exact hz
     |true =>
      cases s with
      |val v=>cases v<;>first|exact bQ bL|exact hz
      |_=>exact hz)
   |exact hz
 |unOp op t x =>
  simp only[aB];generalize A6 an.keep tm rs x=s
  cases op<;>first
   |exact aN
   |(cases s with
     |val v=>cases v<;>first|exact bL|exact aN
     |_=>exact aN)
 |fieldAddr t x f =>
  simp only[aB];refine bJ λot=>bJ λs=>bQ (kR λp=>?_)
  cases p with
  |loc t o=>exact bL
  |obj i o=>exact bL
  |imm v=>exact bJ λ_=>bJ λ_=>bL
 |indexAddr t x ix =>
  simp only[aB];generalize P.underlying t=u;rcases u with _|u
  ·exact aN
  ·cases u<;>first
    |exact aN
    |exact pI λxs=>kB λ_ n=>bJ λs=>bQ (bJ λv=>bQ bL)
    |(refine kR λp=>kB λ_ n=>bJ λs=>bQ ?_
      cases p with
      |loc t o=>exact bL
      |obj i o=>exact bL
      |imm v=>exact bJ λ_=>bJ λ_=>bL)
 |slice t x lo hi mx =>
  simp only[aB];generalize P.underlying t=u;generalize A6 an.keep tm rs x=s;rcases u with _|u
  ·exact aN
  ·cases u<;>first
    |exact aN
    |(cases mx with
      |some m=>first
       |(cases s with
         |val v=>cases v<;>exact aN
         |_=>exact aN)
       |(refine bJ λsz=>pI λxs=>iI λl=>iI λh=>kB λ_ m=>bQ ?_
         cases hi with
         |none=>exact aN
         |some x=>exact aCL λ_=>bL)
      |none=>first
       |(cases s with
         |val v=>cases v<;>first
          |exact iI λl=>iI λh=>bQ bL
          |exact aN
         |_=>exact aN)
       |exact bJ λsz=>pI λxs=>iI λl=>iI λh=>aCL λ_=>bL)
 |makeInterface t x =>
  simp only[aB];generalize P.underlying t=u;rcases u with _|u
  ·exact aN
  ·cases u<;>first|exact aN|exact oM λv=>bL
 |typeAssert x xt t ok =>
  simp only[aB];generalize P.underlying t=u;generalize A6 an.keep tm rs x=s;rcases u with _|u
  ·exact aN
  ·cases u<;>first
    |exact aN
    |(refine bJ λz=>?_
      cases s with
      |val v=>cases v<;>first
       |exact bQ bL
       |(dsimp only
         rename_i ut y;cases Nat.beq ut t
         ·exact bQ bL
         ·cases ok<;>exact bL)
       |exact aN
      |_=>exact aN)
 |makeFunc fn first caps =>
  simp only[aB];generalize first.toList=l
  cases fn<;>cases l<;>first
   |exact aN
   |exact bn λl=>bL
 |extract t ix =>
  simp only[aB];generalize A6 an.keep tm rs t=s;cases s<;>first|exact bJ λv=>bL|exact aN
 |panic x =>
  simp only[aB];generalize A6 an.keep tm rs x=s;cases drawn with
  |true=>exact aN
  |false =>
   cases s with
   |val v=>cases v<;>first|exact aL5|exact aN
   |_=>exact aN
 |call c =>
  obtain⟨callee,args,argTypes⟩:=c;simp only[aB];generalize args.toList=l;cases callee with
  |value f =>
   dsimp only
   generalize A6 an.keep tm rs f=s;cases s with
   |val v=>cases v<;>first
    |exact vc λl AX=>vd
    |exact aN
   |_=>exact aN
  |builtin b =>
   have hlen:∀x,bA (λ_ _ _ k=>match(argTypes[0]?).bind P.underlying with
     |some .string=>(match A6 an.keep tm rs x with|.val (.str s)=>k (.val (.int .i64 s.length)) rs|_=>none)
     |some (.slice _)=>kL (A6 an.keep tm rs x) λxs=>k (.val (.int .i64 xs.length)) rs
     |some (.array n _)=>k (.val (.int .i64 n)) rs
     |_=>none):=λx=>by
    generalize(argTypes[0]?).bind P.underlying=u;generalize A6 an.keep tm rs x=s;rcases u with _|u
    ·exact aN
    ·cases u<;>first
      |exact aN
      |exact pI λxs=>bL
      |exact bL
      |(cases s with
        |val v=>cases v<;>first
         |exact bL
         |exact aN
        |_=>exact aN)
   have Tn:∀s x,bA (λ_ _ _ k=>match(argTypes[0]?).bind (aO P),(argTypes[1]?).bind (aO P) with
     |some e,some _=>(aP P e).bind λsz=>(zeroOf P e).bind λz=>kL (A6 an.keep tm rs x) λys=>aL (Nat.blt 0 sz&&Nat.beq z.cells.length sz&&Nat.ble (aC P e) 16384&&Nat.blt 0 (aC P e)&&ys.all (λy=>Nat.beq y.cells.length sz)) (match A6 an.keep tm rs s,s with
      |.own GG xs,.tmp t=>aL (Nat.beq sz GG&&Nat.ble (xs.length+ys.length) room) (k (.own sz (xs++ys)) (rs.put t (.val (.slice xs))))
      |.full xs,_=>aL (xs.all (λy=>Nat.beq y.cells.length sz)&&Nat.ble (xs.length+ys.length) room&&(xs.isEmpty||!ys.isEmpty)) (k (.own sz (xs++ys)) rs)
      |.nl,_=>aL (Nat.ble ys.length room) (k (.own sz ys) rs)
      |_,_=>none)
     |_,_=>none):=λs x=>by
    generalize(argTypes[0]?).bind (aO P)=u1;generalize(argTypes[1]?).bind (aO P)=u2;rcases u1 with _|u1
    ·exact aN
    ·rcases u2 with _|u2
     ·exact aN
     ·refine bJ λsz=>bJ λz=>pI λys=>bQ ?_
      generalize A6 an.keep tm rs s=v;cases v with
      |own GG xs=>cases s<;>first|exact bQ bL|exact aN
      |full xs=>exact bQ bL
      |nl=>exact bQ bL
      |_=>exact aN
   rcases l with _|⟨x,l⟩
   ·cases b<;>exact aN
   ·rcases l with _|⟨y,l⟩
    ·cases b<;>first|exact hlen x|exact aN
    ·rcases l with _|⟨z,l⟩
     ·cases b<;>first|exact Tn x y|exact kB λ_ _=>kB λ_ _=>bL|exact aN
     ·cases b<;>exact aN
  |invoke r m =>
   dsimp only
   generalize A6 an.keep tm rs r=s;cases s with
   |val v=>cases v<;>first
    |exact bJ λf=>bn λl=>vd
    |exact aN
   |_=>exact aN
 |_=>exact aN
end
section
variable {P:Program}{ans:FuncId->AF}{pr:fY}{R:Type}{r:R}
variable {H7:aJ}{K3:aQ}{cf:Nat->aJ}{lp:Nat->aQ}{fid:FuncId}
def Evl(x:Nat->Option R)(r:R):Prop:=∃n,∀m,n<=m->x m=some r
theorem Evl.const{x:Option R}(h:x=some r):Evl (λ_=>x) r:=⟨0,λ_ _=>h⟩
theorem Evl.congr{x y:Nat->Option R}(h:Evl x r)(e:∀m,y m=x m):Evl y r:=by
 obtain⟨n,h⟩:=h;exact⟨n,λm hm=>(e m).trans (h m hm)⟩
theorem Evl.bind{α:Type}{x:Nat->Option α}{a:α}{f:Nat->α->Option R}(h:Evl x a)(k:Evl (λm=>f m a) r):Evl (λm=>(x m).bind (f m)) r:=by
 obtain⟨n,h⟩:=h;obtain⟨n',k⟩:=k;exact⟨max n n',λm hm=>by show(x m).bind (f m)=some r;rw[h m (by omega)];exact k m (by omega)⟩
def oV(H7:aJ)(cf:Nat->aJ):Prop:=∀c a s r,H7 c a s=some r->Evl (λm=>cf m c a s) r
def yR(K3:aQ)(lp:Nat->aQ):Prop:=∀f c st r,K3 f c st=some r->Evl (λm=>lp m f c st) r
theorem aDB(hc:oV H7 cf){Jn:AVal->RS->Option R}{kp:Nat->AVal->RS->Option R}{k0:Slot->RS->Option R}{k:Nat->Slot->RS->Option R}
  (hp:∀v rs r,Jn v rs=some r->Evl (λm=>kp m v rs) r) (hk:∀s rs r,k0 s rs=some r->Evl (λm=>k m s rs) r) {out:Out} (e:out.run H7 Jn k0=some r):Evl (λm=>out.run (cf m) (kp m) (k m)) r:=by
 cases out with
 |none=>cases e
 |ret s rs=>exact hk _ _ _ e
 |pan v rs=>exact hp _ _ _ e
 |call AA c args rs =>
  cases AA with
  |false =>
   simp only[Out.run,cR] at e ⊢;obtain⟨⟨x,sto⟩,h1,e⟩:=aH e;refine(hc _ _ _ _ h1).bind ?_;cases x with
   |ret s =>
    obtain⟨hg,e⟩:=aA e;exact(hk _ _ _ e).congr λm=>aD hg _
   |pan v=>exact hp _ _ _ e
  |true =>
   simp only[Out.run,cR] at e ⊢;obtain⟨⟨x,sto⟩,h1,e⟩:=aH e;refine(hc _ _ _ _ h1).bind ?_;cases x with
   |ret s =>
    obtain⟨hg,e⟩:=aA e;exact(hk _ _ _ e).congr λm=>aD hg _
   |pan v=>cases e
theorem aAA(hc:oV H7 cf){an:AF}{drawn:Bool}{tm:List Slot}{rid:Nat}{ops:Array Oper}{o:Oper}{i:Nat}{rs:RS}{Jn:AVal->RS->Option R}{kp:Nat->AVal->RS->Option R}{k0:RS->Option R}{k:Nat->RS->Option R}
  (hp:∀v rs r,Jn v rs=some r->Evl (λm=>kp m v rs) r) (hk:∀rs r,k0 rs=some r->Evl (λm=>k m rs) r)
  (e:iX P ans an drawn H7 tm rid ops Jn o i rs k0=some r):Evl (λm=>iX P ans an drawn (cf m) tm rid ops (kp m) o i rs (k m)) r:=by
 have go:∀rs lc,aB P ans an drawn (an.pure.contains (rid,i)) lc H7 tm (an.take.contains (rid,i)) o rs Jn (λs AX=>aL (dQ an o s AX) (k0 (AX.putO o.dst s)))=some r ->
   Evl (λm=>aB P ans an drawn (an.pure.contains (rid,i)) lc (cf m) tm (an.take.contains (rid,i)) o rs (kp m) (λs AX=>aL (dQ an o s AX) (k m (AX.putO o.dst s)))) r:=λrs lc e=>by
  obtain⟨out,h⟩:=aAP (P:=P) (ans:=ans) (an:=an) (tm:=tm) (rs:=rs) drawn (an.pure.contains (rid,i)) lc (an.take.contains (rid,i)) o;have h0:=h R H7 Jn λs AX=>aL (dQ an o s AX) (k0 (AX.putO o.dst s))
  simp only at h0;rw[h0] at e;refine(aDB hc hp (k:=λm s AX=>aL (dQ an o s AX) (k m (AX.putO o.dst s))) (λs AX r e=>?_) e).congr λm=>h _ _ _ _
  obtain⟨hg,e⟩:=aA e;exact(hk _ _ e).congr λm=>aD hg _
 unfold iX at e ⊢;simp only at e ⊢;cases hg:o.guard with
 |none =>
  rw[hg] at e;exact go _ _ e
 |some jw =>
  obtain⟨j,want⟩:=jw;rw[hg] at e;simp only at e ⊢;cases hd:(ops[j]?).bind (·.dst) with
  |none=>rw[hd] at e;cases e
  |some d =>
   rw[hd] at e;simp only at e ⊢;generalize rs.look an.keep tm d=s at e ⊢;cases s with
   |val v =>
    cases v with
    |bool b =>
     cases b<;>cases want
     ·exact(go _ _ e).congr λm=>rfl
     ·obtain⟨h1,h2⟩:=aA (show aL (dQ an o .dead rs) (k0 ((rs.put d (.val (.bool false))).putO o.dst (.tup [])))=some r from e)
      exact(hk _ _ h2).congr λm=>aD h1 _
     ·obtain⟨h1,h2⟩:=aA (show aL (dQ an o .dead rs) (k0 ((rs.put d (.val (.bool true))).putO o.dst (.tup [])))=some r from e)
      exact(hk _ _ h2).congr λm=>aD h1 _
     ·exact(go _ _ e).congr λm=>rfl
    |_=>cases e
   |tup l =>
    cases l with
    |nil =>
     obtain⟨h1,h2⟩:=aA (show aL (dQ an o .dead rs) (k0 (rs.putO o.dst (.tup [])))=some r from e);exact(hk _ _ h2).congr λm=>aD h1 _
    |cons _ _=>cases e
   |_=>cases e
theorem rQ(hc:oV H7 cf){an:AF}{drawn:Bool}{tm:List Slot}{rid:Nat}{ops:Array Oper}{Jn:AVal->RS->Option R}{kp:Nat->AVal->RS->Option R}{k0:RS->Option R}{k:Nat->RS->Option R}
  (hp:∀v rs r,Jn v rs=some r->Evl (λm=>kp m v rs) r) (hk:∀rs r,k0 rs=some r->Evl (λm=>k m rs) r):∀{l:List Oper}{i:Nat}{rs:RS}{r:R},
  jI P ans an drawn H7 tm rid ops Jn k0 l i rs=some r->Evl (λm=>jI P ans an drawn (cf m) tm rid ops (kp m) (k m) l i rs) r
 |[],i,rs,r,e=>hk _ _ e
 |o::l,i,rs,r,e=>aAA (r:=r) hc hp (λrs r e=>rQ hc hp hk e) e
theorem gK(hc:oV H7 cf)(hl:yR K3 lp):∀(c:Code){st:St}{K0:bI->St->Option R}{K:Nat->bI->St->Option R}{r:R},(∀e st r,K0 e st=some r->Evl (λm=>K m e st) r) ->
  XK P ans H7 K3 fid c st K0=some r->Evl (λm=>XK P ans (cf m) (lp m) fid c st (K m)) r
 |.skip,st,K0,K,r,hk,e=>hk _ _ _ e
 |.label _,st,K0,K,r,hk,e=>hk _ _ _ e
 |.seq a b,st,K0,K,r,hk,e=>by
  simp only[XK] at e ⊢;refine gK hc hl a (K:=λm e AY=>match e with
   |.norm=>XK P ans (cf m) (lp m) fid b AY (K m)
   |.exit id=>K m (.exit id) AY
   |.ret=>K m .ret AY
   |.pan v=>K m (.pan v) AY) (λex AY r e=>?_) e
  cases ex with
  |norm=>exact gK hc hl b hk e
  |_=>exact hk _ _ _ e
 |.cond c a b,st,K0,K,r,hk,e=>by
  simp only[XK] at e ⊢;generalize A6 (ans fid).keep st.tm ⟨[],st.sto⟩ c=s at e ⊢;cases s with
  |val v =>
   cases v with
   |bool t=>cases t with
    |true=>exact gK hc hl a hk e
    |false=>exact gK hc hl b hk e
   |_=>cases e
  |_=>cases e
 |.block id c,st,K0,K,r,hk,e=>by
  simp only[XK] at e ⊢;refine gK hc hl c (K:=λm e AY=>match e with
   |.norm=>K m .norm AY
   |.exit C6=>(bif Nat.beq C6 id then K m .norm AY else K m (.exit C6) AY)
   |.ret=>K m .ret AY
   |.pan v=>K m (.pan v) AY) (λex AY r e=>?_) e
  cases ex with
  |exit C6 =>
   simp only at e ⊢;cases hb:Nat.beq C6 id with
   |true=>rw[hb] at e;exact hk _ _ _ e
   |false=>rw[hb] at e;exact hk _ _ _ e
  |_=>exact hk _ _ _ e
 |.scope c,st,K0,K,r,hk,e=>gK hc hl c hk e
 |.exit id,st,K0,K,r,hk,e=>hk _ _ _ e
 |.ret,st,K0,K,r,hk,e=>hk _ _ _ e
 |.region id ops false,st,K0,K,r,hk,e=>by
  simp only[XK] at e ⊢;exact rQ hc (kp:=λm v rs=>K m (.pan v) ⟨st.tm,rs.sto⟩) (k:=λm rs=>K m .norm ⟨commit (ans fid).keep st.tm rs.sc,rs.sto⟩) (λv rs r e=>hk _ _ _ e) (λrs r e=>hk _ _ _ e) e
 |.region id ops true,st,K0,K,r,hk,e=>by
  simp only[XK] at e ⊢;obtain⟨hg,e⟩:=aA e;exact(rQ hc (kp:=λm v rs=>none) (k:=λm rs=>K m .norm ⟨commit (ans fid).keep st.tm rs.sc,rs.sto⟩) (λv rs r e=>by cases e) (λrs r e=>hk _ _ _ e) e).congr λm=>aD hg _
 |.loop c,st,K0,K,r,hk,e=>by
  simp only[XK] at e ⊢;obtain⟨p,h1,e⟩:=aH e;exact(hl _ _ _ _ h1).bind (hk _ _ _ e)
 |.rangeFunc f params assign body,st,K0,K,r,hk,e=>by
  simp only[XK] at e ⊢;generalize A6 (ans fid).keep st.tm ⟨[],st.sto⟩ f=s at e ⊢;cases s with
  |val v =>
   cases v with
   |func g caps =>
    simp only at e ⊢;obtain⟨⟨x,sto⟩,h1,e⟩:=aH e;refine(hc _ _ _ _ h1).bind ?_;cases x with
    |pan v=>exact hk _ _ _ e
    |ret s =>
     simp only at e ⊢;generalize sto.objs[st.sto.objs.length]?=ob at e ⊢;rcases ob with _|ob
     ·cases e
     ·cases ob with
      |loop l =>
       simp only at e ⊢;generalize l.state=ls at e ⊢;generalize l.pend=Lv at e ⊢
       cases ls<;>rcases Lv with _|Lv<;>first
        |exact hk _ _ _ e
        |cases e
        |(cases Lv<;>first|exact hk _ _ _ e|cases e)
      |_=>cases e
   |_=>cases e
  |_=>cases e
 |.goto _,st,K0,K,r,hk,e=>by simp[XK] at e
 |.refuse _,st,K0,K,r,hk,e=>by simp[XK] at e
end
section
variable {P:Program}{ans:FuncId->AF}{pr:fY}
variable {H7:aJ}{K3:aQ}{cf:Nat->aJ}{lp:Nat->aQ}
theorem sF{R:Type}{r:R}{sto:AH}{i:Nat}{k0:iA->Option R}{k:Nat->iA->Option R}(hk:∀l r,k0 l=some r->Evl (λm=>k m l) r)(e:c8 sto i k0=some r):Evl (λm=>c8 sto i (k m)) r:=by
 unfold c8 at e ⊢;generalize sto.objs[i]?=o at e ⊢;rcases o with _|o
 ·cases e
 ·cases o with
  |loop l=>exact hk _ _ e
  |_=>cases e
theorem nV(hc:oV H7 cf)(hl:yR K3 lp):oV (cD P ans pr H7 K3) (λm=>cD P ans pr (cf m) (lp m))
 |.fn f,a,s,r,e=>by
  simp only[cD] at e ⊢;generalize pr f a=p at e ⊢;cases p with
  |some x=>exact Evl.const e
  |none =>
   simp only at e ⊢;cases hp:(ans f).prim with
   |true=>rw[hp] at e;cases e
   |false =>
    rw[hp] at e;simp only[Be] at e ⊢;generalize P.funcs[f]?=F at e ⊢;rcases F with _|F
    ·cases e
    ·simp only at e ⊢
     generalize hb:F.body=b at e ⊢;rcases b with _|c
     ·cases e
     ·simp only at e ⊢
      obtain⟨hg,e⟩:=aA e;exact(gK hc hl c (K:=λ_ e st=>match e with
       |.norm=>finish P (ans f) F s.objs.length st
       |.ret=>finish P (ans f) F s.objs.length st
       |.pan v=>some (.pan v,st.sto)
       |.exit _=>none) (λe st r h=>Evl.const h) e).congr λm=>aD hg _
 |.yld i,a,s,r,e=>by
  simp only[cD] at e ⊢;refine sF (λl r e=>?_) e;generalize RB:l.state=ls at e ⊢
  cases ls<;>first
   |cases e
   |(simp only at e ⊢
     obtain⟨hg,e⟩:=aA e
     refine(gK hc hl l.assign (K:=λm e st =>
       match e with
       |.norm=>c8 st.sto i λl1 =>
        match l1.state with
        |.ready=>XK P ans (cf m) (lp m) l.fn l.body { st with sto:=setLoop st.sto i { l1 with state:=.busy } } λe st =>
         match e with
         |.norm=>c8 st.sto i λl2=>some (.ret (.val (.bool true)),cut s.objs.length (setLoop st.sto i { l2 with state:=.ready,pend:=none }))
         |.ret=>c8 st.sto i λl2=>some (.ret (.val (.bool false)),cut s.objs.length (setLoop st.sto i { l2 with state:=.done,pend:=some .ret }))
         |.exit id=>c8 st.sto i λl2=>some (.ret (.val (.bool false)),cut s.objs.length (setLoop st.sto i { l2 with state:=.done,pend:=some (.exit id) }))
         |.pan v=>some (.pan v,st.sto)
        |_=>none
       |_=>none) (λex st r e=>?_) e).congr λm=>aD hg _
     cases ex with
     |norm =>
      simp only at e ⊢;refine sF (λl1 r e=>?_) e;generalize l1.state=ls at e ⊢
      cases ls<;>first
       |cases e
       |exact gK hc hl l.body (K:=λ_ e st =>
         match e with
         |.norm=>c8 st.sto i λl2=>some (.ret (.val (.bool true)),cut s.objs.length (setLoop st.sto i { l2 with state:=.ready,pend:=none }))
         |.ret=>c8 st.sto i λl2=>some (.ret (.val (.bool false)),cut s.objs.length (setLoop st.sto i { l2 with state:=.done,pend:=some .ret }))
         |.exit id=>c8 st.sto i λl2=>some (.ret (.val (.bool false)),cut s.objs.length (setLoop st.sto i { l2 with state:=.done,pend:=some (.exit id) }))
         |.pan v=>some (.pan v,st.sto)) (λe st r h=>Evl.const h) e
     |_=>cases e)
theorem n5(hc:oV H7 cf)(hl:yR K3 lp):yR (gS P ans H7 K3) (λm=>gS P ans (cf m) (lp m)):=λf c st r e=>by
 simp only[gS] at e ⊢;refine gK hc hl c (K:=λm e AY=>match e with
  |.norm=>lp m f c (eV (ans f) c AY)
  |e=>some (e,AY)) (λex AY r e=>?_) e
 cases ex with
 |norm=>exact hl _ _ _ _ e
 |_=>exact Evl.const e
def CfLe(a b:aJ):Prop:=∀c x s r,a c x s=some r->b c x s=some r
def LpLe(a b:aQ):Prop:=∀f c s r,a f c s=some r->b f c s=some r
theorem CfLe.lim{a b:aJ}(h:CfLe a b):oV a λ_=>b:=λc x s r e=>Evl.const (h c x s r e)
theorem LpLe.lim{a b:aQ}(h:LpLe a b):yR a λ_=>b:=λc x s r e=>Evl.const (h c x s r e)
theorem Evl.one{R:Type}{r:R}{x:Option R}(h:Evl (λ_=>x) r):x=some r:=by
 obtain⟨n,h⟩:=h;exact h n (Af _)
theorem r6{a b:aJ}{c d:aQ}(h:CfLe a b)(k:LpLe c d):CfLe (cD P ans pr a c) (cD P ans pr b d):=λx y s r e=>(nV h.lim k.lim x y s r e).one
theorem sG{a b:aJ}{c d:aQ}(h:CfLe a b)(k:LpLe c d):LpLe (gS P ans a c) (gS P ans b d):=λx y s r e=>(n5 h.lim k.lim x y s r e).one
theorem dH:∀n,CfLe (run P ans pr n).1 (run P ans pr (n+1)).1/\LpLe (run P ans pr n).2 (run P ans pr (n+1)).2
 |0=>⟨λc x s r e=>(by cases e),λc x s r e=>(by cases e)⟩
 |n+1=>⟨r6 (dH n).1 (dH n).2,sG (dH n).1 (dH n).2⟩
theorem dh{n m:Nat}(h:n<=m):CfLe (run P ans pr n).1 (run P ans pr m).1/\LpLe (run P ans pr n).2 (run P ans pr m).2:=by
 induction h with
 |refl=>exact⟨λ_ _ _ _ e=>e,λ_ _ _ _ e=>e⟩
 |step _ ih=>exact⟨λc x s r e=>(dH _).1 _ _ _ _ (ih.1 c x s r e),λc x s r e=>(dH _).2 _ _ _ _ (ih.2 c x s r e)⟩
open Classical in
noncomputable def lim{α:Type}(x:Nat->Option α):Option α:=if h:∃n r,x n=some r then x (Classical.choose h) else none
theorem jf{α:Type}{x:Nat->Option α}{r:α}(hm:∀n m r,n<=m->x n=some r->x m=some r):lim x=some r↔∃n,x n=some r:=by
 unfold lim;constructor
 ·intro h
  split at h
  ·exact⟨_,h⟩
  ·cases h
 ·rintro⟨n,hn⟩
  rw[dif_pos ⟨n,r,hn⟩];have hch:=Classical.choose_spec (⟨n,r,hn⟩:∃n r,x n=some r);obtain⟨r',TA⟩:=hch;have h1:=hm _ (max n (Classical.choose (⟨n,r,hn⟩:∃n r,x n=some r))) _ (Nat.le_max_right _ _) TA;have h2:=hm n _ _ (Nat.le_max_left _ (Classical.choose (⟨n,r,hn⟩:∃n r,x n=some r))) hn;rw[h1] at h2;rw[TA];exact h2
variable (P ans pr) in
noncomputable def GC:aJ:=λc a s=>lim λn=>(run P ans pr n).1 c a s
variable (P ans pr) in
noncomputable def HM:aQ:=λf c st=>lim λn=>(run P ans pr n).2 f c st
theorem gQ{c:Callee}{a:List Slot}{s:AH}{r:ARes×AH}:GC P ans pr c a s=some r↔∃n,(run P ans pr n).1 c a s=some r:=jf λn m r h e=>(dh h).1 _ _ _ _ e
theorem pP{f:FuncId}{c:Code}{s:St}{r:bI×St}:HM P ans pr f c s=some r↔∃n,(run P ans pr n).2 f c s=some r:=jf λn m r h e=>(dh h).2 _ _ _ _ e
theorem tv:oV (GC P ans pr) λm=>(run P ans pr m).1:=λc a s r e=>by
 obtain⟨n,hn⟩:=gQ.1 e;exact⟨n,λm hm=>(dh hm).1 _ _ _ _ hn⟩
theorem vy:yR (HM P ans pr) λm=>(run P ans pr m).2:=λc a s r e=>by
 obtain⟨n,hn⟩:=pP.1 e;exact⟨n,λm hm=>(dh hm).2 _ _ _ _ hn⟩
theorem uF(n:Nat):CfLe (run P ans pr n).1 (GC P ans pr)/\LpLe (run P ans pr n).2 (HM P ans pr):=⟨λ_ _ _ _ e=>gQ.2 ⟨n,e⟩,λ_ _ _ _ e=>pP.2 ⟨n,e⟩⟩
theorem uU(c:Callee)(a:List Slot)(s:AH):GC P ans pr c a s=cD P ans pr (GC P ans pr) (HM P ans pr) c a s:=by
 refine Option.ext λr=>⟨λe=>?_,λe=>?_⟩
 ·obtain⟨n,hn⟩:=gQ.1 e
  cases n with
  |zero=>cases hn
  |succ n=>exact r6 (uF n).1 (uF n).2 _ _ _ _ hn
 ·obtain⟨n,hn⟩:=nV tv vy _ _ _ _ e
  exact gQ.2 ⟨n+1,hn n (Af _)⟩
theorem aMn(f:FuncId)(c:Code)(s:St):HM P ans pr f c s=gS P ans (GC P ans pr) (HM P ans pr) f c s:=by
 refine Option.ext λr=>⟨λe=>?_,λe=>?_⟩
 ·obtain⟨n,hn⟩:=pP.1 e
  cases n with
  |zero=>cases hn
  |succ n=>exact sG (uF n).1 (uF n).2 _ _ _ _ hn
 ·obtain⟨n,hn⟩:=n5 tv vy _ _ _ _ e
  exact pP.2 ⟨n+1,hn n (Af _)⟩
theorem zi{B0:Nat}(E:Env P ans B0 pr){f:FuncId}{args:List Slot}{sto:AH}{res:ARes}{sto':AH}(Gs:pr f args=none)(e:GC P ans pr (.fn f) args sto=some (res,sto')){w:World}{Ψ:HT}{J:List Nat}{ow:Own}{vs:Array Value}(BL:dR ans B0 w Ψ J ow args vs sto) :
  Calls P f vs w λe w'=>∃Z' J' AQ,Fr w Ψ ow w' Z' AQ/\WSat Z' w'/\match res with
   |.ret s=>∃v,e=.returned v/\SRel w' B0 Z' J' AQ #[] 0 s v
   |.pan x=>∃v,e=.panicked [{ v,recovered:=false }]/\VRel Z' J' x v:=by
 obtain⟨n,hn⟩:=gQ.1 e;cases n with
 |zero=>cases hn
 |succ n=>exact aAN E Gs hn BL
end
theorem NM{P:Program}{ans:FuncId->AF}{pr:fY}{f:FuncId}{args:List Slot}{sto:AH}{r:ARes}{s:Slot}(h1:pr f args=some (some r))(h2:cy r=some s):GC P ans pr (.fn f) args sto=some (.ret s,sto):=by
 rw[uU];simp only[cD,h1,Aq,h2,Bw]
theorem l7{α:Type}{X:Option (α×AH)}{r:α}{sto:AH}(h:X=some (r,⟨sto.objs.take sto.objs.length,sto.lo⟩)):X=some (r,sto):=by
 rw[h,List.take_length]
def loops:Code->List Code
 |.seq a b=>loops a++loops b
 |.cond _ a b=>loops a++loops b
 |.block _ c=>loops c
 |.loop c=>c::loops c
 |.scope c=>loops c
 |.rangeFunc _ _ a b=>loops a++loops b
 |_=>[]
def Vk(fn:Func)(n:Nat):Option Code:=match fn.body with|some c=>(loops c)[n]?|none=>none
def aS(fn:Func)(n:Nat):Code:=(Vk fn n).getD .skip
section
variable {P:Program}{ans:FuncId->AF}{cf:aJ}{lp:aQ}{f:FuncId}{R:Type}{K:bI->St->Option R}{a b c:Code}{st:St}{tm tm':List Slot}{sto sto':AH}{sc:List (Nat×Slot)}
def KS(P:Program)(ans:FuncId->AF)(cf:aJ)(lp:aQ)(f:FuncId)(b:Code)(K:bI->St->Option R):bI->St->Option R:=λe AY =>
 match e with
 |.norm=>XK P ans cf lp f b AY K
 |.exit id=>K (.exit id) AY
 |.ret=>K .ret AY
 |.pan v=>K (.pan v) AY
def KB(id:Nat)(K:bI->St->Option R):bI->St->Option R:=λe AY =>
 match e with
 |.norm=>K .norm AY
 |.exit C6=>(bif Nat.beq C6 id then K .norm AY else K (.exit C6) AY)
 |.ret=>K .ret AY
 |.pan v=>K (.pan v) AY
theorem xK:XK P ans cf lp f .skip st K=K .norm st:=rfl
theorem xE:XK P ans cf lp f .ret st K=K .ret st:=rfl
theorem kbX{id:Nat}:KB id K (.exit id) st=K .norm st:=by simp[KB]
theorem kbO{id i:Nat}(h:Nat.beq i id=false):KB id K (.exit i) st=K (.exit i) st:=by simp[KB,h]
theorem xT{o:Operand}{t:Bool}(h:A6 (ans f).keep tm ⟨[],sto⟩ o=.val (.bool t))(ht:t=true):XK P ans cf lp f (.cond o a b) ⟨tm,sto⟩ K=XK P ans cf lp f a ⟨tm,sto⟩ K:=by
 subst ht;simp only[XK,h,asBool,Bl]
theorem xF{o:Operand}{t:Bool}(h:A6 (ans f).keep tm ⟨[],sto⟩ o=.val (.bool t))(ht:t=false):XK P ans cf lp f (.cond o a b) ⟨tm,sto⟩ K=XK P ans cf lp f b ⟨tm,sto⟩ K:=by
 subst ht;simp only[XK,h,asBool,Be]
theorem xR{id:Nat}{ops:Array Oper}(h:∀(kp:AVal->RS->Option R)(kn:RS->Option R),jI P ans (ans f) false cf tm id ops kp kn ops.toList 0 ⟨[],sto⟩=kn ⟨sc,sto'⟩)(hc:commit (ans f).keep tm sc=tm'):XK P ans cf lp f (.region id ops false) ⟨tm,sto⟩ K=K .norm ⟨tm',sto'⟩:=by
 simp only[XK,h,hc]
theorem xD{id:Nat}{ops:Array Oper}(hg:(oI ans (ans f) id ops&&Lt ans (ans f) id ops)=true)(h:∀(kp:AVal->RS->Option R)(kn:RS->Option R),jI P ans (ans f) true cf tm id ops kp kn ops.toList 0 ⟨[],sto⟩=kn ⟨sc,sto'⟩)(hc:commit (ans f).keep tm sc=tm'):XK P ans cf lp f (.region id ops true) ⟨tm,sto⟩ K=K .norm ⟨tm',sto'⟩:=by
 simp only[XK,h,hc,hg];rfl
theorem xL{e:bI}{AY:St}(h:lp f c (eV (ans f) c st)=some (e,AY)):XK P ans cf lp f (.loop c) st K=K e AY:=by
 simp only[XK,h,Aq]
def KF(P:Program)(ans:FuncId->AF)(f:FuncId)(fn:Func)(n:Nat):bI->St->Option (ARes×AH):=λe st =>
 match e with
 |.norm=>finish P (ans f) fn n st
 |.ret=>finish P (ans f) fn n st
 |.pan v=>some (.pan v,st.sto)
 |.exit _=>none
theorem fnX{pr:fY}{fn:Func}{args:List Slot}(h1:pr f args=none)(h3:(ans f).prim=false)(h2:P.funcs[f]?=some fn)(hb:fn.body=some c)(hg:(Nat.beq fn.ntmps (ans f).nt&&Nat.ble args.length fn.ntmps)=true)(ht:((ans f).keep.map λt=>(args[t]?).getD .dead)=tm) :
  GC P ans pr (.fn f) args sto=XK P ans (GC P ans pr) (HM P ans pr) f c ⟨tm,sto⟩ (KF P ans f fn sto.objs.length):=by
 rw[uU];simp only[cD,h1,h2,h3,hb,Be,hg,aL,Bl,ht];rfl
def KL(P:Program)(ans:FuncId->AF)(lp:aQ)(f:FuncId)(c:Code):bI->St->Option (bI×St):=λe AY =>
 match e with
 |.norm=>lp f c (eV (ans f) c AY)
 |e=>some (e,AY)
theorem lpX{pr:fY}:HM P ans pr f c st=XK P ans (GC P ans pr) (HM P ans pr) f c st (KL P ans (HM P ans pr) f c):=by rw[aMn];rfl
theorem sk{n:Int}(h1:-9223372036854775808<=n)(h2:n<9223372036854775808):IntKind.i64.wrap n=n:=by
 rw[IntKind.wrap_i64];omega
theorem aSJ(l:List AObj)(a:AObj):(l++[a])[l.length]?=some a:=by simp
theorem aSK(l:List AObj)(a b:AObj):((l++[a])++[b])[l.length]?=some a:=by simp
theorem aSL(l:List AObj)(a b c:AObj):(((l++[a])++[b])++[c])[l.length]?=some a:=by simp
theorem aMB(l:List AObj)(a b c:AObj):(((l++[a])++[b])++[c])[(l++[a]).length]?=some b:=by simp
theorem aSQ(l:List AObj)(a b:AObj):(l++[a]).set l.length b=l++[b]:=by simp
theorem aYs(cs:List AVal):(AVal.agg cs).cells=cs:=rfl
theorem VO(k:IntKind)(n:Int):(AVal.int k n).cells=[.int k n]:=rfl
theorem aRX(b:Bool):(AVal.bool b).cells=[.bool b]:=rfl
theorem aYv(s:List UInt8):(AVal.str s).cells=[.str s]:=rfl
theorem aKE(s:List AVal):(AVal.slice s).cells=[.slice s]:=rfl
theorem aR0(f:FuncId)(l:List AVal):(AVal.func f l).cells=[.func f l]:=rfl
theorem aR1:AVal.nilfunc.cells=[.nilfunc]:=rfl
theorem aR3:AVal.nilptr.cells=[.nilptr]:=rfl
theorem aR2:AVal.nilmap.cells=[.nilmap]:=rfl
theorem aYt(i o:Nat):(AVal.loc i o).cells=[.loc i o]:=rfl
theorem aYu(i:Nat):(AVal.amap i).cells=[.amap i]:=rfl
theorem aYw(i:Nat):(AVal.yld i).cells=[.yld i]:=rfl
theorem tI{pr:fY}{fn:Func}{n:Nat}{x:bI×St}(h:Vk fn n=some c)(k:XK P ans (GC P ans pr) (HM P ans pr) f c st (KL P ans (HM P ans pr) f (aS fn n))=some x):HM P ans pr f (aS fn n) st=some x:=by
 have hc:aS fn n=c:=by simp[aS,h]
 rw[lpX,hc];rw[hc] at k;exact k
theorem tA{pr:fY}{fn:Func}{args:List Slot}{x:ARes×AH}(h1:pr f args=none)(h3:(ans f).prim=false)(h2:P.funcs[f]?=some fn)(hb:fn.body=some c)(hg:(Nat.beq fn.ntmps (ans f).nt&&Nat.ble args.length fn.ntmps)=true)(ht:((ans f).keep.map λt=>(args[t]?).getD .dead)=tm)
  (k:XK P ans (GC P ans pr) (HM P ans pr) f c ⟨tm,sto⟩ (KF P ans f fn sto.objs.length)=some x):GC P ans pr (.fn f) args sto=some x:=(fnX h1 h3 h2 hb hg ht).trans k
variable {r:R}
theorem tS(h:XK P ans cf lp f a st (KS P ans cf lp f b K)=some r):XK P ans cf lp f (.seq a b) st K=some r:=h
theorem tB{id:Nat}(h:XK P ans cf lp f c st (KB id K)=some r):XK P ans cf lp f (.block id c) st K=some r:=h
theorem tO(h:XK P ans cf lp f c st K=some r):XK P ans cf lp f (.scope c) st K=some r:=h
theorem tK(h:K .norm st=some r):XK P ans cf lp f .skip st K=some r:=h
theorem tX{id:Nat}(h:K (.exit id) st=some r):XK P ans cf lp f (.exit id) st K=some r:=h
theorem tE(h:K .ret st=some r):XK P ans cf lp f .ret st K=some r:=h
theorem tsN(h:XK P ans cf lp f b st K=some r):KS P ans cf lp f b K .norm st=some r:=h
theorem tsX{id:Nat}(h:K (.exit id) st=some r):KS P ans cf lp f b K (.exit id) st=some r:=h
theorem tsE(h:K .ret st=some r):KS P ans cf lp f b K .ret st=some r:=h
theorem tbN{id:Nat}(h:K .norm st=some r):KB id K .norm st=some r:=h
theorem tbX{id:Nat}(h:K .norm st=some r):KB id K (.exit id) st=some r:=kbX.trans h
theorem WV{id i:Nat}(hi:Nat.beq i id=false)(h:K (.exit i) st=some r):KB id K (.exit i) st=some r:=(kbO hi).trans h
theorem tbE{id:Nat}(h:K .ret st=some r):KB id K .ret st=some r:=h
theorem tT{o:Operand}{t:Bool}(h:A6 (ans f).keep tm ⟨[],sto⟩ o=.val (.bool t))(ht:t=true)(k:XK P ans cf lp f a ⟨tm,sto⟩ K=some r):XK P ans cf lp f (.cond o a b) ⟨tm,sto⟩ K=some r:=(xT h ht).trans k
theorem tF{o:Operand}{t:Bool}(h:A6 (ans f).keep tm ⟨[],sto⟩ o=.val (.bool t))(ht:t=false)(k:XK P ans cf lp f b ⟨tm,sto⟩ K=some r):XK P ans cf lp f (.cond o a b) ⟨tm,sto⟩ K=some r:=(xF h ht).trans k
theorem tR{id:Nat}{ops:Array Oper}(h:∀(kp:AVal->RS->Option R)(kn:RS->Option R),jI P ans (ans f) false cf tm id ops kp kn ops.toList 0 ⟨[],sto⟩=kn ⟨sc,sto'⟩)(hc:commit (ans f).keep tm sc=tm')(k:K .norm ⟨tm',sto'⟩=some r):XK P ans cf lp f (.region id ops false) ⟨tm,sto⟩ K=some r:=(xR h hc).trans k
theorem tD{id:Nat}{ops:Array Oper}(hg:(oI ans (ans f) id ops&&Lt ans (ans f) id ops)=true)(h:∀(kp:AVal->RS->Option R)(kn:RS->Option R),jI P ans (ans f) true cf tm id ops kp kn ops.toList 0 ⟨[],sto⟩=kn ⟨sc,sto'⟩)(hc:commit (ans f).keep tm sc=tm')(k:K .norm ⟨tm',sto'⟩=some r):XK P ans cf lp f (.region id ops true) ⟨tm,sto⟩ K=some r:=(xD hg h hc).trans k
theorem BN{an:AF}{drawn:Bool}{id i:Nat}{ops:Array Oper}{kp:AVal->RS->Option R}{kn:RS->Option R}{o:Oper}{os:List Oper}{rs AX:RS}{x:Option R}(h:∀next:RS->Option R,iX P ans an drawn cf tm id ops kp o i rs next=next AX)(k:jI P ans an drawn cf tm id ops kp kn os (i+1) AX=x):jI P ans an drawn cf tm id ops kp kn (o::os) i rs=x:=(h _).trans k
theorem tL{e:bI}{AY:St}(h:lp f c (eV (ans f) c st)=some (e,AY))(k:K e AY=some r):XK P ans cf lp f (.loop c) st K=some r:=(xL h).trans k
theorem tfE{fn:Func}{n:Nat}{x:ARes×AH}(h:finish P (ans f) fn n st=some x):KF P ans f fn n .ret st=some x:=h
theorem tfN{fn:Func}{n:Nat}{x:ARes×AH}(h:finish P (ans f) fn n st=some x):KF P ans f fn n .norm st=some x:=h
theorem tlN{x:bI×St}{lp:aQ}(h:lp f c (eV (ans f) c st)=some x):KL P ans lp f c .norm st=some x:=h
theorem Nx{id:Nat}:KL P ans lp f c (.exit id) st=some (.exit id,st):=rfl
theorem Qe:KL P ans lp f c .ret st=some (.ret,st):=rfl
end
section
variable {P:Program}{ans:FuncId->AF}{cf:aJ}{lp:aQ}{f:FuncId}{R:Type}{K:bI->St->Option R}{tm:List Slot}{sto:AH}{r:R}
def ranges:Code->List (Array Tmp×Code×Code)
 |.seq a b=>ranges a++ranges b
 |.cond _ a b=>ranges a++ranges b
 |.block _ c=>ranges c
 |.loop c=>ranges c
 |.scope c=>ranges c
 |.rangeFunc _ ps a b=>(ps,a,b)::(ranges a++ranges b)
 |_=>[]
def aDT(fn:Func)(n:Nat):Option (Array Tmp×Code×Code):=match fn.body with|some c=>(ranges c)[n]?|none=>none
def qG(fn:Func)(n:Nat):Array Tmp×Code×Code:=(aDT fn n).getD (#[],.skip,.skip)
def qI(f:FuncId)(fn:Func)(n:Nat)(tm:List Slot)(p:Option Code)(s:LoopState):iA:=⟨f,tm,(qG fn n).1,(qG fn n).2.1,(qG fn n).2.2,p,s⟩
theorem tGn{fo:Operand}{ps:Array Tmp}{assign body:Code}{g:FuncId}{caps:List AVal}{s:Slot}{O O':List AObj}{lo n:Nat}{fn:Func}{f':FuncId}{tl:List Slot}
  (h:A6 (ans f).keep tm ⟨[],sto⟩ fo=.val (.func g caps))
  (hc:cf (.fn g) (.val (.yld sto.objs.length)::caps.map .val) ⟨sto.objs++[.loop ⟨f,tm.map dO,ps,assign,body,none,.ready⟩],sto.lo⟩=some (.ret s,⟨O',lo⟩))
  (hl:O'[sto.objs.length]?=some (.loop (qI f' fn n tl none .ready))) (ht:O'.take sto.objs.length=O)
  (k:K .norm ⟨tm,⟨O,lo⟩⟩=some r):XK P ans cf lp f (.rangeFunc fo ps assign body) ⟨tm,sto⟩ K=some r:=by
 subst ht;simp only[XK,h,hc,Aq,hl,qI];exact k
def SA(i n:Nat):bI->St->Option (ARes×AH):=λe st =>
 match e with
 |.norm=>c8 st.sto i λl2=>some (.ret (.val (.bool true)),cut n (setLoop st.sto i { l2 with state:=.ready,pend:=none }))
 |.ret=>c8 st.sto i λl2=>some (.ret (.val (.bool false)),cut n (setLoop st.sto i { l2 with state:=.done,pend:=some .ret }))
 |.exit id=>c8 st.sto i λl2=>some (.ret (.val (.bool false)),cut n (setLoop st.sto i { l2 with state:=.done,pend:=some (.exit id) }))
 |.pan v=>some (.pan v,st.sto)
def WH(P:Program)(ans:FuncId->AF)(cf:aJ)(lp:aQ)(i n:Nat)(f:FuncId)(body:Code):bI->St->Option (ARes×AH):=λe st =>
 match e with
 |.norm=>c8 st.sto i λl1 =>
  match l1.state with
  |.ready=>XK P ans cf lp f body { st with sto:=setLoop st.sto i { l1 with state:=.busy } } (SA i n)
  |_=>none
 |_=>none
theorem tY{pr:fY}{i n:Nat}{args:List Slot}{O:List AObj}{lo:Nat}{f:FuncId}{fn:Func}{p:Option Code}{tm tm':List Slot}{ps:Array Tmp}{a b:Code}{x:ARes×AH}(hl:O[i]?=some (.loop (qI f fn n tm p .ready)))(hq:aDT fn n=some (ps,a,b))
  (hg:(Nat.beq args.length ps.size&&bZ a&&bZ b&&args.all Slot.isVal&&(P.funcs[f]?).isSome&&ps.toList.all (λp=>Nat.blt p (ans f).nt))=true) (hb:Nat.ble lo i=true)
  (ht:dB (ans f).keep tm (ps.toList.zip args)=tm')
  (k:XK P ans (GC P ans pr) (HM P ans pr) f a ⟨tm',⟨O,lo⟩⟩ (WH P ans (GC P ans pr) (HM P ans pr) i O.length f b)=some x) :
  GC P ans pr (.yld i) args ⟨O,lo⟩=some x:=by
 have h1:qG fn n=(ps,a,b):=by simp[qG,hq]
 rw[uU];simp only[cD,c8,hl];simp only[Ac] at hg;obtain⟨⟨⟨⟨⟨g1,g2⟩,g3⟩,g4⟩,g5⟩,g6⟩:=hg;simp only[qI,h1,hb,g1,g2,g3,g4,g5,g6,Bool.and_self,aL,Bl];subst ht;exact k
theorem ty1{i n m:Nat}{O O':List AObj}{lo:Nat}{f:FuncId}{fn:Func}{p:Option Code}{tm tl:List Slot}{b:Code}{x:ARes×AH}(hl:O[i]?=some (.loop (qI f fn n tl p .ready)))(hs:O.set i (.loop (qI f fn n tl p .busy))=O')
  (k:XK P ans cf lp f b ⟨tm,⟨O',lo⟩⟩ (SA i m)=some x) :
  WH P ans cf lp i m f b .norm ⟨tm,⟨O,lo⟩⟩=some x:=by
 subst hs;simp only[WH,c8,hl,setLoop];exact k
theorem aZ2{i n m:Nat}{O O':List AObj}{lo:Nat}{f:FuncId}{fn:Func}{p:Option Code}{s:LoopState}{tm tl:List Slot}(hl:O[i]?=some (.loop (qI f fn n tl p s)))(hs:(O.set i (.loop (qI f fn n tl none .ready))).take m=O') :
  SA i m .norm ⟨tm,⟨O,lo⟩⟩=some (.ret (.val (.bool true)),⟨O',lo⟩):=by
 subst hs;simp only[SA,c8,hl,setLoop,cut];rfl
theorem cq(l e:List AObj)(k:Nat):(l++e)[l.length+k]?=e[k]?:=by rw[Bi (by omega)];congr 1;omega
theorem qg(l e:List AObj):(l++e)[l.length]?=e[0]?:=by rw[Bi (by omega)];congr 1;omega
theorem UT(l e:List AObj)(k:Nat)(v:AObj):(l++e).set (l.length+k) v=l++e.set k v:=by rw[Gk _ _ (by omega)];congr 2;omega
theorem aZn(l e:List AObj)(v:AObj):(l++e).set l.length v=l++e.set 0 v:=by rw[Gk _ _ (by omega)];congr 2;omega
theorem n9(l e:List AObj)(k:Nat):(l++e).take (l.length+k)=l++e.take k:=by rw[List.take_append,Bs (by omega)];congr 2;omega
theorem ba{α:Type}{X:Option (α×AH)}{r:α}{sto:AH}(e:List AObj)(h:X=some (r,⟨(sto.objs++e).take sto.objs.length,sto.lo⟩)):X=some (r,sto):=by
 rw[h,Fq];rfl
theorem FL.{u}{α : Type u} : (∀a b c : List α, (a ++ b) ++ c=a ++ (b ++ c))/\(∀a b : List α, (a ++ b).length=a.length+b.length)/\(∀(a : α)(l : List α), (a :: l).length=l.length+1)/\(([] : List α).length=0) /\
 (∀(a : α)(l m : List α), (a :: l) ++ m=a :: (l ++ m))/\(∀l : List α, [] ++ l=l)/\(∀l : List α, l.take 0=[])/\(∀(n : Nat)(a : α)(l : List α), (a :: l).take (n+1)=a :: l.take n) /\
 (∀(a b : α)(l : List α), (a :: l).set 0 b=b :: l)/\(∀(n : Nat)(a b : α)(l : List α), (a :: l).set (n+1) b=a :: l.set n b)/\(∀(a : α)(l : List α), (a :: l)[0]?=some a)/\(∀(n : Nat)(a : α)(l : List α), (a :: l)[n+1]?=l[n]?) := ⟨Aj, λ_ _ => Bm, λ_ _ => rfl, rfl, λ_ _ _ => rfl, λ_ => rfl, λ_ => rfl, λ_ _ _ => rfl, λ_ _ _ => rfl, λ_ _ _ _ => rfl, λ_ _ => rfl, λ_ _ _ => rfl⟩
theorem FO : (∀(l e : List AObj)(k : Nat), (l ++ e)[l.length+k]?=e[k]?)/\(∀l e : List AObj, (l ++ e)[l.length]?=e[0]?)/\(∀(l e : List AObj)(k : Nat)(v : AObj), (l ++ e).set (l.length+k) v=l ++ e.set k v)/\(∀(l e : List AObj)(v : AObj), (l ++ e).set l.length v=l ++ e.set 0 v)/\(∀(l e : List AObj)(k : Nat), (l ++ e).take (l.length+k)=l ++ e.take k)/\(∀n : Nat, 0+n=n) := ⟨cq, qg, UT, aZn, n9, Bo⟩
end
section
variable {P:Program}{ans:FuncId->AF}{cf:aJ}{lp:aQ}{f:FuncId}
inductive C8:{R:Type}->Option R->R->Prop
 |s {P:Program} {ans:FuncId->AF} {R:Type} {cf:aJ} {lp:aQ} {f:FuncId} {a b:Code} {st:St} {K:bI->St->Option R} {r:R} (h:C8 (XK P ans cf lp f a st (KS P ans cf lp f b K)) r):C8 (XK P ans cf lp f (.seq a b) st K) r
 |b {P:Program} {ans:FuncId->AF} {R:Type} {cf:aJ} {lp:aQ} {f:FuncId} {c:Code} {id:Nat} {st:St} {K:bI->St->Option R} {r:R} (h:C8 (XK P ans cf lp f c st (KB id K)) r):C8 (XK P ans cf lp f (.block id c) st K) r
 |o {P:Program} {ans:FuncId->AF} {R:Type} {cf:aJ} {lp:aQ} {f:FuncId} {c:Code} {st:St} {K:bI->St->Option R} {r:R} (h:C8 (XK P ans cf lp f c st K) r):C8 (XK P ans cf lp f (.scope c) st K) r
 |k {P:Program} {ans:FuncId->AF} {R:Type} {cf:aJ} {lp:aQ} {f:FuncId} {st:St} {K:bI->St->Option R} {r:R} (h:C8 (K .norm st) r):C8 (XK P ans cf lp f .skip st K) r
 |x {P:Program} {ans:FuncId->AF} {R:Type} {cf:aJ} {lp:aQ} {f:FuncId} {id:Nat} {st:St} {K:bI->St->Option R} {r:R} (h:C8 (K (.exit id) st) r):C8 (XK P ans cf lp f (.exit id) st K) r
 |e {P:Program} {ans:FuncId->AF} {R:Type} {cf:aJ} {lp:aQ} {f:FuncId} {st:St} {K:bI->St->Option R} {r:R} (h:C8 (K .ret st) r):C8 (XK P ans cf lp f .ret st K) r
 |sN {P:Program} {ans:FuncId->AF} {R:Type} {cf:aJ} {lp:aQ} {f:FuncId} {b:Code} {st:St} {K:bI->St->Option R} {r:R} (h:C8 (XK P ans cf lp f b st K) r):C8 (KS P ans cf lp f b K .norm st) r
 |sX {P:Program} {ans:FuncId->AF} {R:Type} {cf:aJ} {lp:aQ} {f:FuncId} {b:Code} {id:Nat} {st:St} {K:bI->St->Option R} {r:R} (h:C8 (K (.exit id) st) r):C8 (KS P ans cf lp f b K (.exit id) st) r
 |sE {P:Program} {ans:FuncId->AF} {R:Type} {cf:aJ} {lp:aQ} {f:FuncId} {b:Code} {st:St} {K:bI->St->Option R} {r:R} (h:C8 (K .ret st) r):C8 (KS P ans cf lp f b K .ret st) r
 |bN {R:Type} {id:Nat} {st:St} {K:bI->St->Option R} {r:R} (h:C8 (K .norm st) r):C8 (KB id K .norm st) r
 |bX {R:Type} {id:Nat} {st:St} {K:bI->St->Option R} {r:R} (h:C8 (K .norm st) r):C8 (KB id K (.exit id) st) r
 |bE {R:Type} {id:Nat} {st:St} {K:bI->St->Option R} {r:R} (h:C8 (K .ret st) r):C8 (KB id K .ret st) r
 |fE {P:Program} {ans:FuncId->AF} {f:FuncId} {fn:Func} {n:Nat} {st:St} {x:ARes×AH} (h:C8 (finish P (ans f) fn n st) x):C8 (KF P ans f fn n .ret st) x
 |fN {P:Program} {ans:FuncId->AF} {f:FuncId} {fn:Func} {n:Nat} {st:St} {x:ARes×AH} (h:C8 (finish P (ans f) fn n st) x):C8 (KF P ans f fn n .norm st) x
 |lN {P:Program} {ans:FuncId->AF} {lp:aQ} {f:FuncId} {c:Code} {st:St} {x:bI×St} (h:C8 (lp f c (eV (ans f) c st)) x):C8 (KL P ans lp f c .norm st) x
 |w {R:Type} {id i:Nat} {st:St} {K:bI->St->Option R} {r:R} (hi:Nat.beq i id=false) (h:C8 (K (.exit i) st) r):C8 (KB id K (.exit i) st) r
 |z {R:Type} {x:Option R} {r:R} (h:x=some r):C8 x r
theorem tQ{R:Type}{x:Option R}{r:R}(h:C8 x r):x=some r:=by
 induction h with
 |s _ ih=>exact tS ih
 |b _ ih=>exact tB ih
 |o _ ih=>exact tO ih
 |k _ ih=>exact tK ih
 |x _ ih=>exact tX ih
 |e _ ih=>exact tE ih
 |sN _ ih=>exact tsN ih
 |sX _ ih=>exact tsX ih
 |sE _ ih=>exact tsE ih
 |bN _ ih=>exact tbN ih
 |bX _ ih=>exact tbX ih
 |bE _ ih=>exact tbE ih
 |fE _ ih=>exact tfE ih
 |fN _ ih=>exact tfN ih
 |lN _ ih=>exact tlN ih
 |w hi _ ih=>exact WV hi ih
 |z h=>exact h
theorem tW{R:Type}{id i:Nat}{st:St}{K:bI->St->Option R}{r:R}(hi:Nat.beq i id=false)(h:C8 (K (.exit i) st) r):KB id K (.exit i) st=some r:=WV hi (tQ h)
theorem tG{R:Type}{id:Nat}{ops:Array Oper}{d:Bool}{tm tm':List Slot}{sc:List (Nat×Slot)}{sto sto':AH}{K:bI->St->Option R}{r:R}(hg:(bif d then oI ans (ans f) id ops&&Lt ans (ans f) id ops else true)=true)
  (h:∀(kp:AVal->RS->Option R)(kn:RS->Option R),jI P ans (ans f) d cf tm id ops kp kn ops.toList 0 ⟨[],sto⟩=kn ⟨sc,sto'⟩) (hc:commit (ans f).keep tm sc=tm') (k:C8 (K .norm ⟨tm',sto'⟩) r):XK P ans cf lp f (.region id ops d) ⟨tm,sto⟩ K=some r:=by
 cases d with
 |false=>exact tR h hc (tQ k)
 |true=>exact tD hg h hc (tQ k)
theorem t1{P:Program}{ans:FuncId->AF}{R:Type}{cf:aJ}{lp:aQ}{f:FuncId}{a b:Code}{tm:List Slot}{sto:AH}{K:bI->St->Option R}{r:R}{o:Operand}{t:Bool}(h:A6 (ans f).keep tm ⟨[],sto⟩ o=.val (.bool t))(ht:t=true)(k:C8 (XK P ans cf lp f a ⟨tm,sto⟩ K) r):XK P ans cf lp f (.cond o a b) ⟨tm,sto⟩ K=some r:=tT h ht (tQ k)
theorem t0{P:Program}{ans:FuncId->AF}{R:Type}{cf:aJ}{lp:aQ}{f:FuncId}{a b:Code}{tm:List Slot}{sto:AH}{K:bI->St->Option R}{r:R}{o:Operand}{t:Bool}(h:A6 (ans f).keep tm ⟨[],sto⟩ o=.val (.bool t))(ht:t=false)(k:C8 (XK P ans cf lp f b ⟨tm,sto⟩ K) r):XK P ans cf lp f (.cond o a b) ⟨tm,sto⟩ K=some r:=tF h ht (tQ k)
theorem tl{P:Program}{ans:FuncId->AF}{R:Type}{cf:aJ}{lp:aQ}{f:FuncId}{c:Code}{st:St}{K:bI->St->Option R}{r:R}{e:bI}{AY:St}(h:lp f c (eV (ans f) c st)=some (e,AY))(k:C8 (K e AY) r):XK P ans cf lp f (.loop c) st K=some r:=tL h (tQ k)
end
section
variable {P:Program}{ans:FuncId->AF}{cf:aJ}{lp:aQ}{f:FuncId}{R:Type}{K:bI->St->Option R}{b c:Code}{tm:List Slot}{sto sto':AH}{r:R}{v:AVal}{st:St}
theorem tP{id:Nat}{ops:Array Oper}{sc:List (Nat×Slot)}(h:∀(kp:AVal->RS->Option R)(kn:RS->Option R),jI P ans (ans f) false cf tm id ops kp kn ops.toList 0 ⟨[],sto⟩=kp v ⟨sc,sto'⟩)(k:K (.pan v) ⟨tm,sto'⟩=some r):XK P ans cf lp f (.region id ops false) ⟨tm,sto⟩ K=some r:=by
 simp only[XK,h];exact k
theorem R1{an:AF}{drawn:Bool}{id i:Nat}{ops:Array Oper}{kp:AVal->RS->Option R}{kn:RS->Option R}{o:Oper}{os:List Oper}{rs:RS}{x:Option R}(h:iX P ans an drawn cf tm id ops kp o i rs (λAX=>jI P ans an drawn cf tm id ops kp kn os (i+1) AX)=x):jI P ans an drawn cf tm id ops kp kn (o::os) i rs=x:=h
theorem Qd(h:K (.pan v) st=some r):KS P ans cf lp f b K (.pan v) st=some r:=h
theorem Qf{id:Nat}(h:K (.pan v) st=some r):KB id K (.pan v) st=some r:=h
theorem SM{lp:aQ}:KL P ans lp f c (.pan v) st=some (.pan v,st):=rfl
end
end Go.AM
