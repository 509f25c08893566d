/- Part A07 of the proof of one law of the program. -/
import Derived.Test.YtkmnkiekmlcfdaaGreatDoorA06
import Derived.IntWalk
set_option linter.all false
section
namespace Go.AM
variable {P:Program} {ans:FuncId→Ann} {an:Ann} {tm:List Slot} {rs:RS}
inductive Out where
 |ret (s:Slot) (rs:RS)
 |pan (v:AVal) (rs:RS)
 |call (prot:Bool) (c:Callee) (args:List Slot) (rs:RS)
 |none
def Out.run {R:Type} (cf:Oracle) (kp:AVal→RS→Option R) (k:Slot→RS→Option R):Out→Option R
 |.ret s rs=>k s rs
 |.pan v rs=>kp v rs
 |.call prot c args rs=>callK prot cf c args rs kp k
 |.none=>Option.none
abbrev FF:=∀ (R:Type),Oracle→(AVal→RS→Option R)→(Slot→RS→Option R)→Option R
def HasOut (F:FF):Prop:=∃ out:Out,∀ R cf kp k,F R cf kp k=out.run cf kp k
theorem ho_ret {s:Slot} {rs:RS}:HasOut (fun _ _ _ k=>k s rs):=⟨.ret s rs,fun _ _ _ _=>rfl⟩
theorem ho_pan {s:AVal} {rs:RS}:HasOut (fun _ _ kp _=>kp s rs):=⟨.pan s rs,fun _ _ _ _=>rfl⟩
theorem ho_none:HasOut (fun _ _ _ _=>none):=⟨.none,fun _ _ _ _=>rfl⟩
theorem ho_call {prot:Bool} {c:Callee} {args:List Slot} {rs:RS}:HasOut (fun _ cf kp k=>callK prot cf c args rs kp k):=⟨.call prot c args rs,fun _ _ _ _=>rfl⟩
theorem ho_bind {α:Type} {x:Option α} {G:α→FF} (h:∀ a,HasOut (G a)):HasOut (fun R cf kp k=>x.bind fun a=>G a R cf kp k):=by
 cases x with
 |none=>exact ho_none
 |some a=>exact h a
theorem ho_guard {b:Bool} {F:FF} (h:HasOut F):HasOut (fun R cf kp k=>guardB b (F R cf kp k)):=by
 cases b with
 |true=>exact h
 |false=>exact ho_none
theorem ho_asV {s:Slot} {G:AVal→FF} (h:∀ v,HasOut (G v)):HasOut (fun R cf kp k=>asV s fun v=>G v R cf kp k):=by
 cases s <;> first|exact h _|exact ho_none
theorem ho_asSl {s:Slot} {G:List AVal→FF} (h:∀ v,HasOut (G v)):HasOut (fun R cf kp k=>asSl s fun v=>G v R cf kp k):=by
 cases s with
 |val v=>cases v <;> first|exact h _|exact ho_none
 |_=>first|exact h _|exact ho_none
theorem ho_asInt {s:Slot} {G:IntKind→Int→FF} (h:∀ a b,HasOut (G a b)):HasOut (fun R cf kp k=>asInt s fun a b=>G a b R cf kp k):=by
 cases s with
 |val v=>cases v <;> first|exact h _ _|exact ho_none
 |_=>exact ho_none
theorem ho_asBool {s:Slot} {G:Bool→FF} (h:∀ a,HasOut (G a)):HasOut (fun R cf kp k=>asBool s fun a=>G a R cf kp k):=by
 cases s with
 |val v=>cases v with
  |bool b=>cases b <;> exact h _
  |_=>exact ho_none
 |_=>exact ho_none
theorem ho_mv {s:Slot} {G:Slot→FF} (h:∀ a,HasOut (G a)):HasOut (fun R cf kp k=>mv s fun a=>G a R cf kp k):=by
 cases s <;> first|exact h _|exact ho_none
theorem ho_asPlace {x:Operand} {s:Slot} {G:Place→FF} (h:∀ a,HasOut (G a)):HasOut (fun R cf kp k=>asPlace x s fun a=>G a R cf kp k):=by
 cases s with
 |box cs=>cases x <;> first|exact h _|exact ho_none
 |ref t o=>exact h _
 |val v=>cases v <;> first|exact h _|exact ho_none
 |_=>exact ho_none
theorem ho_asBox {s:Slot} {G:List Cell→FF} (h:∀ a,HasOut (G a)):HasOut (fun R cf kp k=>asBox s fun a=>G a R cf kp k):=by
 cases s <;> first|exact h _|exact ho_none
theorem ho_asObj {s:Option AObj} {G:List Cell→FF} (h:∀ a,HasOut (G a)):HasOut (fun R cf kp k=>asObj s fun a=>G a R cf kp k):=by
 rcases s with _|o
 ·exact ho_none
 ·cases o <;> first|exact h _|exact ho_none
theorem ho_asMap {s:Option AObj} {G:List (AVal×AVal)→FF} (h:∀ a,HasOut (G a)):HasOut (fun R cf kp k=>asMap s fun a=>G a R cf kp k):=by
 rcases s with _|o
 ·exact ho_none
 ·cases o <;> first|exact h _|exact ho_none
theorem ho_cells {keep:List Nat} {p:Place} {G:List Cell→Nat→FF} (h:∀ a b,HasOut (G a b)):HasOut (fun R cf kp k=>cellsOfPlace keep tm rs p fun a b=>G a b R cf kp k):=by
 cases p with
 |loc t o=>exact ho_asBox fun a=>h a o
 |obj i o=>exact ho_asObj fun a=>h a o
 |imm x=>exact h _ _
theorem ho_write {p:Place} {cs:List Cell} {G:RS→FF} (h:∀ a,HasOut (G a)):HasOut (fun R cf kp k=>writePlace rs p cs fun a=>G a R cf kp k):=by
 cases p with
 |loc t o=>exact h _
 |obj i o=>exact ho_guard (h _)
 |imm x=>exact ho_none
theorem ho_asCells {keep:List Nat} {x:Operand} {G:List Cell→RS→FF} (h:∀ a b,HasOut (G a b)):HasOut (fun R cf kp k=>asCells keep tm rs x fun a b=>G a b R cf kp k):=by
 unfold asCells;generalize opS keep tm rs x=s;have hv:HasOut (fun R cf kp k=>asV s fun v=>G (v.cells.map .val) rs R cf kp k):=ho_asV fun v=>h _ _
 cases s with
 |own sz xs =>
  cases x with
  |tmp t=>dsimp only;cases keep.contains t <;> exact h _ _
  |const v=>cases xs <;> first|exact h _ _|exact hv
  |_=>exact hv
 |cells cs =>
  cases x with
  |tmp t=>dsimp only;cases keep.contains t <;> exact h _ _
  |_=>exact hv
 |_=>exact hv
theorem ho_boxCells {t0:TypeId} {keep:List Nat} {x:Operand} {G:List Cell→RS→FF} (h:∀ a b,HasOut (G a b)):HasOut (fun R cf kp k=>boxCells P t0 keep tm rs x fun a b=>G a b R cf kp k):=by
 unfold boxCells;cases hs:opS keep tm rs x
 case nl=>exact ho_bind fun e=>ho_bind fun sz=>h _ _
 all_goals exact ho_asCells h
theorem ho_elems {keep:List Nat}:∀ {ps:List (Nat×Operand)} {G:List (Nat×AVal)→FF},(∀ a,HasOut (G a))→HasOut (fun R cf kp k=>elemsA keep tm rs ps fun a=>G a R cf kp k)
 |[],G,h=>h _
 |(i,x)::r,G,h=>ho_asV fun v=>ho_elems (ps:=r) fun a=>h _
theorem ho_caps {keep:List Nat}:∀ {ps:List Operand} {G:List AVal→FF},(∀ a,HasOut (G a))→HasOut (fun R cf kp k=>capsA keep tm rs ps fun a=>G a R cf kp k)
 |[],G,h=>h _
 |x::r,G,h=>ho_asV fun v=>ho_caps (ps:=r) fun a=>h _
theorem ho_args {keep own:List Nat}:∀ {ps:List Operand} {rs:RS} {i:Nat} {G:List Slot→RS→FF},(∀ a b,HasOut (G a b))→HasOut (fun R cf kp k=>argsA keep tm rs own i ps fun a b=>G a b R cf kp k)
 |[],rs,i,G,h=>h _ _
 |x::r,rs,i,G,h=>by
  have hv:HasOut (fun R cf kp k=>asV (opS keep tm rs x) fun v=>argsA keep tm rs own (i+1) r fun l rs'=>G (.val v::l) rs' R cf kp k):=ho_asV fun v=>ho_args (ps:=r) fun a b=>h _ _
  simp only[argsA]
  revert hv
  generalize opS keep tm rs x=s;intro hv;cases own.contains i with
  |false=>cases s <;> exact hv
  |true =>
   cases s with
   |own sz l0 =>
    cases x with
    |tmp t=>exact ho_args (ps:=r) fun a b=>h _ _
    |_=>exact hv
   |nl=>exact ho_args (ps:=r) fun a b=>h _ _
   |_=>exact hv
theorem ho_optInt {keep:List Nat} {x:Option Operand} {d:Int} {G:Int→FF} (h:∀ a,HasOut (G a)):HasOut (fun R cf kp k=>optInt keep tm rs x d fun a=>G a R cf kp k):=by
 cases x with
 |none=>exact h _
 |some x=>exact ho_asInt fun a b=>h b
theorem ho_cut {sz:Nat} {full:Bool} {xs:List AVal} {l hh:Int} {G:Slot→FF} (h:∀ a,HasOut (G a)):HasOut (fun R cf kp k=>sliceCut sz full xs l hh fun a=>G a R cf kp k):=ho_guard (h _)
theorem ho_drawn {drawn:Bool} {rts:List Nat} {p:Place} {F:FF} (h:HasOut F):HasOut (fun R cf kp k=>drawnPlace drawn rts p (F R cf kp k)):=by
 cases drawn with
 |false=>exact h
 |true=>cases p <;> exact ho_guard h
theorem ho_mvK {tk:Bool} {ty:TypeId} {x:Operand} {G:Slot→RS→FF} (h:∀ a b,HasOut (G a b)):HasOut (fun R cf kp k=>mvK P an tm tk ty x rs fun a b=>G a b R cf kp k):=by
 cases x with
 |tmp t =>
  simp only[mvK];generalize opS an.keep tm rs (.tmp t)=s;have hv:HasOut (fun R cf kp k=>mv s fun s'=>G s' rs R cf kp k):=ho_mv fun v=>h _ _
  cases s with
  |own sz xs=>dsimp only;cases (tk||!an.keep.contains t) <;> exact h _ _
  |cells cs=>dsimp only;cases (tk||!an.keep.contains t) <;> exact h _ _
  |_=>exact hv
 |const v =>
  simp only[mvK];generalize constT P ty v=s;cases s <;> first|exact h _ _|exact ho_none
 |_=>simp only[mvK];exact ho_mv fun v=>h _ _
theorem stepK_out (drawn prot:Bool) (lcl:List Nat) (tk:Bool) (o:Oper):HasOut (fun _ cf kp k=>stepK P ans an drawn prot lcl cf tm tk o rs kp k):=by
 obtain ⟨dst,op,ty,pos,aft,gd⟩:=o;cases op with
 |move x=>simp only[stepK];exact ho_mvK fun _ _=>ho_ret
 |assign x=>simp only[stepK];exact ho_mvK fun _ _=>ho_ret
 |pick c a b=>simp only[stepK];exact ho_asBool fun _=>ho_mv fun _=>ho_ret
 |alloc t =>
  simp only[stepK];refine ho_bind fun z=>ho_bind fun s=>ho_guard ?_
  cases dst with
  |none=>exact ho_none
  |some d=>dsimp only;cases an.loc.contains d <;> exact ho_ret
 |box t x =>
  simp only[stepK];refine ho_boxCells fun v rs=>ho_bind fun s=>ho_guard ?_
  cases dst with
  |none=>exact ho_none
  |some d =>
   dsimp only
   cases an.loc.contains d
   ·exact ho_guard ho_ret
   ·exact ho_ret
 |build t parts =>
  simp only[stepK];refine ho_bind fun z=>?_
  generalize P.underlying t=u;rcases u with _|u
  ·exact ho_none
  ·cases u <;> first
    |exact ho_elems fun l=>ho_bind fun s=>ho_bind fun cs=>ho_ret
    |exact ho_none
 |buildSlice t len parts=>simp only[stepK];exact ho_bind fun e=>ho_bind fun s=>ho_guard (ho_elems fun l=>ho_bind fun z=>ho_guard (ho_bind fun xs=>ho_ret))
 |load t a =>
  simp only[stepK];refine ho_asPlace fun p=>ho_drawn (ho_cells fun cs off=>ho_bind fun s=>ho_bind fun agg=>?_)
  cases agg with
  |true=>exact ho_bind fun v=>ho_ret
  |false =>
   refine ho_guard ?_;generalize cs[off]?=c;have hc:HasOut (fun _ _ _ k=>c.bind fun c=>k (.val c.get) rs):=ho_bind fun c=>ho_ret
   cases tk with
   |false=>exact hc
   |true =>
    rcases c with _|c
    ·exact hc
    ·cases c with
     |own sz xs=>exact ho_write fun _=>ho_ret
     |val v=>exact hc
 |store t a x=>simp only[stepK];exact ho_asPlace fun p=>ho_drawn (ho_cells fun cs off=>ho_bind fun s=>ho_asCells fun v rs=>ho_guard (ho_write fun _=>ho_ret))
 |nilCheck x =>
  simp only[stepK];generalize opS an.keep tm rs x=s;cases s with
  |box cs=>cases x <;> first|exact ho_ret|exact ho_none
  |ref t o=>exact ho_ret
  |val v=>cases v <;> first|exact ho_ret|exact ho_none
  |_=>exact ho_none
 |binOp op t x y w =>
  simp only[stepK];generalize opS an.keep tm rs x=s;generalize opS an.keep tm rs y=s';generalize isNilSlice y=b1;generalize isNilIface y=b2;have hz:HasOut (fun _ _ _ k=>asV s fun a=>asV s' fun b=>guardB (abinT P t a) ((abin op a b).bind fun v=>k (.val v) rs)):=ho_asV fun a=>ho_asV fun b=>ho_guard (ho_bind fun v=>ho_ret)
  have hn:∀ f:Bool→Bool,HasOut (fun _ _ _ k=>guardB (isSliceT P t) ((nilTest s).bind fun b=>k (.val (.bool (f b))) rs)):=fun f=>ho_guard (ho_bind fun b=>ho_ret)
  cases op <;> cases b1 <;> first
   |exact hn id
   |exact hn (!·)
   |(cases b2 with
     |false=>exact hz
     |true =>
      cases s with
      |val v=>cases v <;> first|exact ho_guard ho_ret|exact hz
      |_=>exact hz)
   |exact hz
 |unOp op t x =>
  simp only[stepK];generalize opS an.keep tm rs x=s
  cases op <;> first
   |exact ho_none
   |(cases s with
     |val v=>cases v <;> first|exact ho_ret|exact ho_none
     |_=>exact ho_none)
 |convert src dt x =>
  simp only[stepK];generalize P.underlying src=u1;generalize P.underlying dt=u2;generalize opS an.keep tm rs x=s;rcases u1 with _|u1
  ·exact ho_none
  ·rcases u2 with _|u2
   ·cases u1 <;> exact ho_none
   ·cases u1 <;> cases u2 <;> first
     |exact ho_none
     |exact ho_asInt fun _ _=>ho_ret
     |(cases s with
       |val v=>cases v <;> first|exact ho_ret|exact ho_none
       |_=>exact ho_none)
 |fieldAddr t x f =>
  simp only[stepK];refine ho_bind fun ot=>ho_bind fun s=>ho_guard (ho_asPlace fun p=>?_)
  cases p with
  |loc t o=>exact ho_ret
  |obj i o=>exact ho_ret
  |imm v=>exact ho_bind fun _=>ho_bind fun _=>ho_ret
 |field t x f =>
  simp only[stepK];refine ho_bind fun ot=>ho_bind fun s=>ho_bind fun agg=>?_
  generalize opS an.keep tm rs x=s';cases s' with
  |val v=>cases v <;> first|exact ho_bind fun _=>ho_ret|exact ho_none
  |_=>exact ho_none
 |indexAddr t x ix =>
  simp only[stepK];generalize P.underlying t=u;rcases u with _|u
  ·exact ho_none
  ·cases u <;> first
    |exact ho_none
    |exact ho_asSl fun xs=>ho_asInt fun _ n=>ho_bind fun s=>ho_guard (ho_bind fun v=>ho_guard ho_ret)
    |(refine ho_asPlace fun p=>ho_asInt fun _ n=>ho_bind fun s=>ho_guard ?_
      cases p with
      |loc t o=>exact ho_ret
      |obj i o=>exact ho_ret
      |imm v=>exact ho_bind fun _=>ho_bind fun _=>ho_ret)
 |index t x ix =>
  simp only[stepK];generalize P.underlying t=u;generalize opS an.keep tm rs x=s;rcases u with _|u
  ·exact ho_none
  ·cases u <;> first
    |exact ho_none
    |(cases s with
      |val v=>cases v <;> first
       |exact ho_asInt fun _ n=>ho_guard (ho_bind fun b=>ho_ret)
       |exact ho_asInt fun _ n=>ho_bind fun s=>ho_bind fun agg=>ho_guard (ho_bind fun u=>ho_ret)
       |exact ho_none
      |cells cs=>first
       |exact ho_asInt fun _ n=>ho_bind fun s=>ho_bind fun agg=>ho_guard (ho_bind fun u=>ho_ret)
       |exact ho_none
      |_=>exact ho_none)
 |slice t x lo hi mx =>
  simp only[stepK];generalize P.underlying t=u;generalize opS an.keep tm rs x=s;rcases u with _|u
  ·exact ho_none
  ·cases u <;> first
    |exact ho_none
    |(cases mx with
      |some m=>first
       |(cases s with
         |val v=>cases v <;> exact ho_none
         |_=>exact ho_none)
       |(refine ho_bind fun sz=>ho_asSl fun xs=>ho_optInt fun l=>ho_optInt fun h=>ho_asInt fun _ m=>ho_guard ?_
         cases hi with
         |none=>exact ho_none
         |some x=>exact ho_cut fun _=>ho_ret)
      |none=>first
       |(cases s with
         |val v=>cases v <;> first
          |exact ho_optInt fun l=>ho_optInt fun h=>ho_guard ho_ret
          |exact ho_none
         |_=>exact ho_none)
       |exact ho_bind fun sz=>ho_asSl fun xs=>ho_optInt fun l=>ho_optInt fun h=>ho_cut fun _=>ho_ret)
 |makeInterface t x =>
  simp only[stepK];generalize P.underlying t=u;rcases u with _|u
  ·exact ho_none
  ·cases u <;> first|exact ho_none|exact ho_asV fun v=>ho_ret
 |makeFunc fn first caps =>
  simp only[stepK];generalize first.toList=l
  cases fn <;> cases l <;> first
   |exact ho_none
   |exact ho_caps fun l=>ho_ret
 |makeMap t r =>
  simp only[stepK];cases r with
  |none=>exact ho_ret
  |some x=>exact ho_asInt fun _ _=>ho_guard ho_ret
 |lookup t m key ok =>
  simp only[stepK];generalize P.underlying t=u;generalize opS an.keep tm rs m=s;rcases u with _|u
  ·exact ho_none
  ·cases u <;> first
    |exact ho_none
    |(cases s with
      |val v=>cases v <;> first
       |exact ho_none
       |(refine ho_asMap fun es=>ho_asV fun kv=>ho_guard (ho_bind fun r=>ho_bind fun z=>?_)
         cases ok <;> exact ho_ret)
      |_=>exact ho_none)
 |mapUpdate t m key x =>
  simp only[stepK];generalize P.underlying t=u;generalize opS an.keep tm rs m=s;rcases u with _|u
  ·exact ho_none
  ·cases u <;> first
    |exact ho_none
    |(cases s with
      |val v=>cases v <;> first
       |exact ho_none
       |exact ho_asMap fun es=>ho_asV fun kv=>ho_asV fun v=>ho_guard (ho_bind fun r=>ho_ret)
      |_=>exact ho_none)
 |extract t ix =>
  simp only[stepK];generalize opS an.keep tm rs t=s;cases s <;> first|exact ho_bind fun v=>ho_ret|exact ho_none
 |panic x =>
  simp only[stepK];generalize opS an.keep tm rs x=s;cases drawn with
  |true=>exact ho_none
  |false =>
   cases s with
   |val v=>cases v <;> first|exact ho_pan|exact ho_none
   |_=>exact ho_none
 |call c =>
  obtain ⟨callee,args,argTypes⟩:=c;simp only[stepK];generalize args.toList=l;cases callee with
  |value f =>
   dsimp only
   generalize opS an.keep tm rs f=s;cases s with
   |val v=>cases v <;> first
    |exact ho_args fun l rs'=>ho_call
    |exact ho_none
   |_=>exact ho_none
  |builtin b =>
   have hlen:∀ x,HasOut (fun _ _ _ k=>match (argTypes[0]?).bind P.underlying with
     |some .string=>(match opS an.keep tm rs x with|.val (.str s)=>k (.val (.int .i64 s.length)) rs|_=>none)
     |some (.slice _)=>asSl (opS an.keep tm rs x) fun xs=>k (.val (.int .i64 xs.length)) rs
     |some (.array n _)=>k (.val (.int .i64 n)) rs
     |some (.map _ _)=>(match opS an.keep tm rs x with
      |.val (.amap i)=>asMap rs.sto.objs[i]? fun es=>k (.val (.int .i64 es.length)) rs
      |_=>none)
     |_=>none):=fun x=>by
    generalize (argTypes[0]?).bind P.underlying=u;generalize opS an.keep tm rs x=s;rcases u with _|u
    ·exact ho_none
    ·cases u <;> first
      |exact ho_none
      |exact ho_asSl fun xs=>ho_ret
      |exact ho_ret
      |(cases s with
        |val v=>cases v <;> first
         |exact ho_ret
         |exact ho_asMap fun es=>ho_ret
         |exact ho_none
        |_=>exact ho_none)
   have happ:∀ s x,HasOut (fun _ _ _ k=>match (argTypes[0]?).bind (sliceElem P),(argTypes[1]?).bind (sliceElem P) with
     |some e,some _=>(szOf P e).bind fun sz=>(zeroOf P e).bind fun z=>asSl (opS an.keep tm rs x) fun ys=>guardB (Nat.blt 0 sz&&Nat.beq z.cells.length sz&&Nat.ble (bytesAt P e) 16384&&Nat.blt 0 (bytesAt P e)&&ys.all (fun y=>Nat.beq y.cells.length sz)) (match opS an.keep tm rs s,s with
      |.own sz' xs,.tmp t=>guardB (Nat.beq sz sz'&&Nat.ble (xs.length+ys.length) room) (k (.own sz (xs++ys)) (rs.put t (.val (.slice xs))))
      |.full xs,_=>guardB (xs.all (fun y=>Nat.beq y.cells.length sz)&&Nat.ble (xs.length+ys.length) room) (k (.own sz (xs++ys)) rs)
      |.nl,_=>guardB (Nat.ble ys.length room) (k (.own sz ys) rs)
      |_,_=>none)
     |_,_=>none):=fun s x=>by
    generalize (argTypes[0]?).bind (sliceElem P)=u1;generalize (argTypes[1]?).bind (sliceElem P)=u2;rcases u1 with _|u1
    ·exact ho_none
    ·rcases u2 with _|u2
     ·exact ho_none
     ·refine ho_bind fun sz=>ho_bind fun z=>ho_asSl fun ys=>ho_guard ?_
      generalize opS an.keep tm rs s=v;cases v with
      |own sz' xs=>cases s <;> first|exact ho_guard ho_ret|exact ho_none
      |full xs=>exact ho_guard ho_ret
      |nl=>exact ho_guard ho_ret
      |_=>exact ho_none
   rcases l with _|⟨x,l⟩
   ·cases b <;> exact ho_none
   ·rcases l with _|⟨y,l⟩
    ·cases b <;> first|exact hlen x|exact ho_none
    ·rcases l with _|⟨z,l⟩
     ·cases b <;> first|exact happ x y|exact ho_none
     ·cases b <;> exact ho_none
  |_=>exact ho_none
 |_=>exact ho_none
end Go.AM
end
section
namespace Go.AM
variable {P:Program} {ans:FuncId→Ann} {pr:Prims} {R:Type} {r:R}
variable {cf0:Oracle} {lp0:LpOracle} {cf:Nat→Oracle} {lp:Nat→LpOracle} {fid:FuncId}
def Evl (x:Nat→Option R) (r:R):Prop:=∃ n,∀ m,n≤m→x m=some r
theorem Evl.const {x:Option R} (h:x=some r):Evl (fun _=>x) r:=⟨0,fun _ _=>h⟩
theorem Evl.congr {x y:Nat→Option R} (h:Evl x r) (e:∀ m,y m=x m):Evl y r:=by
 obtain ⟨n,h⟩:=h;exact ⟨n,fun m hm=>(e m).trans (h m hm)⟩
theorem Evl.bind {α:Type} {x:Nat→Option α} {a:α} {f:Nat→α→Option R} (h:Evl x a) (k:Evl (fun m=>f m a) r):Evl (fun m=>(x m).bind (f m)) r:=by
 obtain ⟨n,h⟩:=h;obtain ⟨n',k⟩:=k;exact ⟨max n n',fun m hm=>by show (x m).bind (f m)=some r;rw[h m (by omega)];exact k m (by omega)⟩
def CfLim (cf0:Oracle) (cf:Nat→Oracle):Prop:=∀ c a s r,cf0 c a s=some r→Evl (fun m=>cf m c a s) r
def LpLim (lp0:LpOracle) (lp:Nat→LpOracle):Prop:=∀ f c st r,lp0 f c st=some r→Evl (fun m=>lp m f c st) r
theorem out_cont (hc:CfLim cf0 cf) {kp0:AVal→RS→Option R} {kp:Nat→AVal→RS→Option R} {k0:Slot→RS→Option R} {k:Nat→Slot→RS→Option R}
  (hp:∀ v rs r,kp0 v rs=some r→Evl (fun m=>kp m v rs) r) (hk:∀ s rs r,k0 s rs=some r→Evl (fun m=>k m s rs) r) {out:Out} (e:out.run cf0 kp0 k0=some r):Evl (fun m=>out.run (cf m) (kp m) (k m)) r:=by
 cases out with
 |none=>cases e
 |ret s rs=>exact hk _ _ _ e
 |pan v rs=>exact hp _ _ _ e
 |call prot c args rs =>
  cases prot with
  |false =>
   simp only[Out.run,callK] at e ⊢;obtain ⟨⟨x,sto⟩,h1,e⟩:=bind_ok e;refine (hc _ _ _ _ h1).bind ?_;cases x with
   |ret s =>
    obtain ⟨hg,e⟩:=guardB_ok e;exact (hk _ _ _ e).congr fun m=>guardB_true hg _
   |pan v=>exact hp _ _ _ e
  |true =>
   simp only[Out.run,callK] at e ⊢;obtain ⟨⟨x,sto⟩,h1,e⟩:=bind_ok e;refine (hc _ _ _ _ h1).bind ?_;cases x with
   |ret s =>
    obtain ⟨hg,e⟩:=guardB_ok e;exact (hk _ _ _ e).congr fun m=>guardB_true hg _
   |pan v=>cases e
theorem oneK_cont (hc:CfLim cf0 cf) {an:Ann} {drawn:Bool} {tm:List Slot} {rid:Nat} {ops:Array Oper} {o:Oper} {i:Nat} {rs:RS} {kp0:AVal→RS→Option R} {kp:Nat→AVal→RS→Option R} {k0:RS→Option R} {k:Nat→RS→Option R}
  (hp:∀ v rs r,kp0 v rs=some r→Evl (fun m=>kp m v rs) r) (hk:∀ rs r,k0 rs=some r→Evl (fun m=>k m rs) r)
  (e:oneK P ans an drawn cf0 tm rid ops kp0 o i rs k0=some r):Evl (fun m=>oneK P ans an drawn (cf m) tm rid ops (kp m) o i rs (k m)) r:=by
 have go:∀ rs lc,stepK P ans an drawn (an.pure.contains (rid,i)) lc cf0 tm (an.take.contains (rid,i)) o rs kp0 (fun s rs'=>guardB (dstOk an o s rs') (k0 (rs'.putO o.dst s)))=some r →
   Evl (fun m=>stepK P ans an drawn (an.pure.contains (rid,i)) lc (cf m) tm (an.take.contains (rid,i)) o rs (kp m) (fun s rs'=>guardB (dstOk an o s rs') (k m (rs'.putO o.dst s)))) r:=fun rs lc e=>by
  obtain ⟨out,h⟩:=stepK_out (P:=P) (ans:=ans) (an:=an) (tm:=tm) (rs:=rs) drawn (an.pure.contains (rid,i)) lc (an.take.contains (rid,i)) o;have h0:=h R cf0 kp0 fun s rs'=>guardB (dstOk an o s rs') (k0 (rs'.putO o.dst s))
  simp only at h0;rw[h0] at e;refine (out_cont hc hp (k:=fun m s rs'=>guardB (dstOk an o s rs') (k m (rs'.putO o.dst s))) (fun s rs' r e=>?_) e).congr fun m=>h _ _ _ _
  obtain ⟨hg,e⟩:=guardB_ok e;exact (hk _ _ e).congr fun m=>guardB_true hg _
 unfold oneK at e ⊢;simp only at e ⊢;cases hg:o.guard with
 |none =>
  rw[hg] at e;exact go _ _ e
 |some jw =>
  obtain ⟨j,want⟩:=jw;rw[hg] at e;simp only at e ⊢;cases hd:(ops[j]?).bind (·.dst) with
  |none=>rw[hd] at e;cases e
  |some d =>
   rw[hd] at e;simp only at e ⊢;generalize rs.look an.keep tm d=s at e ⊢;cases s with
   |val v =>
    cases v with
    |bool b =>
     cases b <;> cases want
     ·exact (go _ _ e).congr fun m=>rfl
     ·obtain ⟨h1,h2⟩:=guardB_ok (show guardB (dstOk an o .dead rs) (k0 ((rs.put d (.val (.bool false))).putO o.dst (.tup [])))=some r from e)
      exact (hk _ _ h2).congr fun m=>guardB_true h1 _
     ·obtain ⟨h1,h2⟩:=guardB_ok (show guardB (dstOk an o .dead rs) (k0 ((rs.put d (.val (.bool true))).putO o.dst (.tup [])))=some r from e)
      exact (hk _ _ h2).congr fun m=>guardB_true h1 _
     ·exact (go _ _ e).congr fun m=>rfl
    |_=>cases e
   |tup l =>
    cases l with
    |nil =>
     obtain ⟨h1,h2⟩:=guardB_ok (show guardB (dstOk an o .dead rs) (k0 (rs.putO o.dst (.tup [])))=some r from e);exact (hk _ _ h2).congr fun m=>guardB_true h1 _
    |cons _ _=>cases e
   |_=>cases e
theorem opsK_cont (hc:CfLim cf0 cf) {an:Ann} {drawn:Bool} {tm:List Slot} {rid:Nat} {ops:Array Oper} {kp0:AVal→RS→Option R} {kp:Nat→AVal→RS→Option R} {k0:RS→Option R} {k:Nat→RS→Option R}
  (hp:∀ v rs r,kp0 v rs=some r→Evl (fun m=>kp m v rs) r) (hk:∀ rs r,k0 rs=some r→Evl (fun m=>k m rs) r):∀ {l:List Oper} {i:Nat} {rs:RS} {r:R},
  opsK P ans an drawn cf0 tm rid ops kp0 k0 l i rs=some r→Evl (fun m=>opsK P ans an drawn (cf m) tm rid ops (kp m) (k m) l i rs) r
 |[],i,rs,r,e=>hk _ _ e
 |o::l,i,rs,r,e=>oneK_cont (r:=r) hc hp (fun rs r e=>opsK_cont hc hp hk e) e
theorem XK_cont (hc:CfLim cf0 cf) (hl:LpLim lp0 lp):∀ (c:Code) {st:St} {K0:AExit→St→Option R} {K:Nat→AExit→St→Option R} {r:R},(∀ e st r,K0 e st=some r→Evl (fun m=>K m e st) r) →
  XK P ans cf0 lp0 fid c st K0=some r→Evl (fun m=>XK P ans (cf m) (lp m) fid c st (K m)) r
 |.skip,st,K0,K,r,hk,e=>hk _ _ _ e
 |.label _,st,K0,K,r,hk,e=>hk _ _ _ e
 |.seq a b,st,K0,K,r,hk,e=>by
  simp only[XK] at e ⊢;refine XK_cont hc hl a (K:=fun m e st'=>match e with
   |.norm=>XK P ans (cf m) (lp m) fid b st' (K m)
   |.exit id=>K m (.exit id) st'
   |.ret=>K m .ret st'
   |.pan v=>K m (.pan v) st') (fun ex st' r e=>?_) e
  cases ex with
  |norm=>exact XK_cont hc hl b hk e
  |_=>exact hk _ _ _ e
 |.cond c a b,st,K0,K,r,hk,e=>by
  simp only[XK] at e ⊢;generalize opS (ans fid).keep st.tm ⟨[],st.sto⟩ c=s at e ⊢;cases s with
  |val v =>
   cases v with
   |bool t=>cases t with
    |true=>exact XK_cont hc hl a hk e
    |false=>exact XK_cont hc hl b hk e
   |_=>cases e
  |_=>cases e
 |.block id c,st,K0,K,r,hk,e=>by
  simp only[XK] at e ⊢;refine XK_cont hc hl c (K:=fun m e st'=>match e with
   |.norm=>K m .norm st'
   |.exit id'=>(bif Nat.beq id' id then K m .norm st' else K m (.exit id') st')
   |.ret=>K m .ret st'
   |.pan v=>K m (.pan v) st') (fun ex st' r e=>?_) e
  cases ex with
  |exit id' =>
   simp only at e ⊢;cases hb:Nat.beq id' id with
   |true=>rw[hb] at e;exact hk _ _ _ e
   |false=>rw[hb] at e;exact hk _ _ _ e
  |_=>exact hk _ _ _ e
 |.scope c,st,K0,K,r,hk,e=>XK_cont hc hl c hk e
 |.exit id,st,K0,K,r,hk,e=>hk _ _ _ e
 |.ret,st,K0,K,r,hk,e=>hk _ _ _ e
 |.region id ops false,st,K0,K,r,hk,e=>by
  simp only[XK] at e ⊢;exact opsK_cont hc (kp:=fun m v rs=>K m (.pan v) ⟨st.tm,rs.sto⟩) (k:=fun m rs=>K m .norm ⟨commit (ans fid).keep st.tm rs.sc,rs.sto⟩) (fun v rs r e=>hk _ _ _ e) (fun rs r e=>hk _ _ _ e) e
 |.region id ops true,st,K0,K,r,hk,e=>by
  simp only[XK] at e ⊢;obtain ⟨hg,e⟩:=guardB_ok e;exact (opsK_cont hc (kp:=fun m v rs=>none) (k:=fun m rs=>K m .norm ⟨commit (ans fid).keep st.tm rs.sc,rs.sto⟩) (fun v rs r e=>by cases e) (fun rs r e=>hk _ _ _ e) e).congr fun m=>guardB_true hg _
 |.loop c,st,K0,K,r,hk,e=>by
  simp only[XK] at e ⊢;obtain ⟨p,h1,e⟩:=bind_ok e;exact (hl _ _ _ _ h1).bind (hk _ _ _ e)
 |.rangeFunc f params assign body,st,K0,K,r,hk,e=>by
  simp only[XK] at e ⊢;generalize opS (ans fid).keep st.tm ⟨[],st.sto⟩ f=s at e ⊢;cases s with
  |val v =>
   cases v with
   |func g caps =>
    simp only at e ⊢;obtain ⟨⟨x,sto⟩,h1,e⟩:=bind_ok e;refine (hc _ _ _ _ h1).bind ?_;cases x with
    |pan v=>exact hk _ _ _ e
    |ret s =>
     simp only at e ⊢;generalize sto.objs[st.sto.objs.length]?=ob at e ⊢;rcases ob with _|ob
     ·cases e
     ·cases ob with
      |loop l =>
       simp only at e ⊢;generalize l.state=ls at e ⊢;generalize l.pend=lp' at e ⊢
       cases ls <;> rcases lp' with _|lp' <;> first
        |exact hk _ _ _ e
        |cases e
        |(cases lp' <;> first|exact hk _ _ _ e|cases e)
      |_=>cases e
   |_=>cases e
  |_=>cases e
 |.goto _,st,K0,K,r,hk,e=>by simp [XK] at e
 |.refuse _,st,K0,K,r,hk,e=>by simp [XK] at e
end Go.AM
end
section
namespace Go.AM
variable {P:Program} {ans:FuncId→Ann} {pr:Prims}
variable {cf0:Oracle} {lp0:LpOracle} {cf:Nat→Oracle} {lp:Nat→LpOracle}
theorem loopAt_cont {R:Type} {r:R} {sto:Sto} {i:Nat} {k0:ALoop→Option R} {k:Nat→ALoop→Option R} (hk:∀ l r,k0 l=some r→Evl (fun m=>k m l) r) (e:loopAt sto i k0=some r):Evl (fun m=>loopAt sto i (k m)) r:=by
 unfold loopAt at e ⊢;generalize sto.objs[i]?=o at e ⊢;rcases o with _|o
 ·cases e
 ·cases o with
  |loop l=>exact hk _ _ e
  |_=>cases e
theorem callStep_cont (hc:CfLim cf0 cf) (hl:LpLim lp0 lp):CfLim (callStep P ans pr cf0 lp0) (fun m=>callStep P ans pr (cf m) (lp m))
 |.fn f,a,s,r,e=>by
  simp only[callStep] at e ⊢;generalize pr f a=p at e ⊢;cases p with
  |some x=>exact Evl.const e
  |none =>
   simp only at e ⊢;cases hp:(ans f).prim with
   |true=>rw[hp] at e;cases e
   |false =>
    rw[hp] at e;simp only[cond_false] at e ⊢;generalize P.funcs[f]?=F at e ⊢;rcases F with _|F
    ·cases e
    ·simp only at e ⊢
     generalize hb:F.body=b at e ⊢;rcases b with _|c
     ·cases e
     ·simp only at e ⊢
      obtain ⟨hg,e⟩:=guardB_ok e;exact (XK_cont hc hl c (K:=fun _ e st=>match e with
       |.norm=>finish P (ans f) F s.objs.length st
       |.ret=>finish P (ans f) F s.objs.length st
       |.pan v=>some (.pan v,st.sto)
       |.exit _=>none) (fun e st r h=>Evl.const h) e).congr fun m=>guardB_true hg _
 |.yld i,a,s,r,e=>by
  simp only[callStep] at e ⊢;refine loopAt_cont (fun l r e=>?_) e;generalize hls:l.state=ls at e ⊢
  cases ls <;> first
   |cases e
   |(simp only at e ⊢
     obtain ⟨hg,e⟩:=guardB_ok e
     refine (XK_cont hc hl l.assign (K:=fun m e st =>
       match e with
       |.norm=>loopAt st.sto i fun l1 =>
        match l1.state with
        |.ready=>XK P ans (cf m) (lp m) l.fn l.body { st with sto:=setLoop st.sto i { l1 with state:=.busy } } fun e st =>
         match e with
         |.norm=>loopAt st.sto i fun l2=>some (.ret (.val (.bool true)),cut s.objs.length (setLoop st.sto i { l2 with state:=.ready,pend:=none }))
         |.ret=>loopAt st.sto i fun l2=>some (.ret (.val (.bool false)),cut s.objs.length (setLoop st.sto i { l2 with state:=.done,pend:=some .ret }))
         |.exit id=>loopAt st.sto i fun l2=>some (.ret (.val (.bool false)),cut s.objs.length (setLoop st.sto i { l2 with state:=.done,pend:=some (.exit id) }))
         |.pan v=>some (.pan v,st.sto)
        |_=>none
       |_=>none) (fun ex st r e=>?_) e).congr fun m=>guardB_true hg _
     cases ex with
     |norm =>
      simp only at e ⊢;refine loopAt_cont (fun l1 r e=>?_) e;generalize l1.state=ls at e ⊢
      cases ls <;> first
       |cases e
       |exact XK_cont hc hl l.body (K:=fun _ e st =>
         match e with
         |.norm=>loopAt st.sto i fun l2=>some (.ret (.val (.bool true)),cut s.objs.length (setLoop st.sto i { l2 with state:=.ready,pend:=none }))
         |.ret=>loopAt st.sto i fun l2=>some (.ret (.val (.bool false)),cut s.objs.length (setLoop st.sto i { l2 with state:=.done,pend:=some .ret }))
         |.exit id=>loopAt st.sto i fun l2=>some (.ret (.val (.bool false)),cut s.objs.length (setLoop st.sto i { l2 with state:=.done,pend:=some (.exit id) }))
         |.pan v=>some (.pan v,st.sto)) (fun e st r h=>Evl.const h) e
     |_=>cases e)
theorem loopStep_cont (hc:CfLim cf0 cf) (hl:LpLim lp0 lp):LpLim (loopStep P ans cf0 lp0) (fun m=>loopStep P ans (cf m) (lp m)):=fun f c st r e=>by
 simp only[loopStep] at e ⊢;refine XK_cont hc hl c (K:=fun m e st'=>match e with
  |.norm=>lp m f c (headSt (ans f) c st')
  |e=>some (e,st')) (fun ex st' r e=>?_) e
 cases ex with
 |norm=>exact hl _ _ _ _ e
 |_=>exact Evl.const e
def CfLe (a b:Oracle):Prop:=∀ c x s r,a c x s=some r→b c x s=some r
def LpLe (a b:LpOracle):Prop:=∀ f c s r,a f c s=some r→b f c s=some r
theorem CfLe.lim {a b:Oracle} (h:CfLe a b):CfLim a fun _=>b:=fun c x s r e=>Evl.const (h c x s r e)
theorem LpLe.lim {a b:LpOracle} (h:LpLe a b):LpLim a fun _=>b:=fun c x s r e=>Evl.const (h c x s r e)
theorem Evl.one {R:Type} {r:R} {x:Option R} (h:Evl (fun _=>x) r):x=some r:=by
 obtain ⟨n,h⟩:=h;exact h n (Nat.le_refl _)
theorem callStep_le {a b:Oracle} {c d:LpOracle} (h:CfLe a b) (k:LpLe c d):CfLe (callStep P ans pr a c) (callStep P ans pr b d):=fun x y s r e=>(callStep_cont h.lim k.lim x y s r e).one
theorem loopStep_le {a b:Oracle} {c d:LpOracle} (h:CfLe a b) (k:LpLe c d):LpLe (loopStep P ans a c) (loopStep P ans b d):=fun x y s r e=>(loopStep_cont h.lim k.lim x y s r e).one
theorem run_succ:∀ n,CfLe (run P ans pr n).1 (run P ans pr (n+1)).1∧LpLe (run P ans pr n).2 (run P ans pr (n+1)).2
 |0=>⟨fun c x s r e=>(by cases e),fun c x s r e=>(by cases e)⟩
 |n+1=>⟨callStep_le (run_succ n).1 (run_succ n).2,loopStep_le (run_succ n).1 (run_succ n).2⟩
theorem run_le {n m:Nat} (h:n≤m):CfLe (run P ans pr n).1 (run P ans pr m).1∧LpLe (run P ans pr n).2 (run P ans pr m).2:=by
 induction h with
 |refl=>exact ⟨fun _ _ _ _ e=>e,fun _ _ _ _ e=>e⟩
 |step _ ih=>exact ⟨fun c x s r e=>(run_succ _).1 _ _ _ _ (ih.1 c x s r e),fun c x s r e=>(run_succ _).2 _ _ _ _ (ih.2 c x s r e)⟩
open Classical in
noncomputable def lim {α:Type} (x:Nat→Option α):Option α:=if h:∃ n r,x n=some r then x (Classical.choose h) else none
theorem lim_some {α:Type} {x:Nat→Option α} {r:α} (hm:∀ n m r,n≤m→x n=some r→x m=some r):lim x=some r↔∃ n,x n=some r:=by
 unfold lim;constructor
 ·intro h
  split at h
  ·exact ⟨_,h⟩
  ·cases h
 ·rintro ⟨n,hn⟩
  rw[dif_pos ⟨n,r,hn⟩];have hch:=Classical.choose_spec (⟨n,r,hn⟩:∃ n r,x n=some r);obtain ⟨r',hr'⟩:=hch;have h1:=hm _ (max n (Classical.choose (⟨n,r,hn⟩:∃ n r,x n=some r))) _ (Nat.le_max_right _ _) hr';have h2:=hm n _ _ (Nat.le_max_left _ (Classical.choose (⟨n,r,hn⟩:∃ n r,x n=some r))) hn;rw[h1] at h2;rw[hr'];exact h2
variable (P ans pr) in
noncomputable def cfW:Oracle:=fun c a s=>lim fun n=>(run P ans pr n).1 c a s
variable (P ans pr) in
noncomputable def lpW:LpOracle:=fun f c st=>lim fun n=>(run P ans pr n).2 f c st
theorem cfW_some {c:Callee} {a:List Slot} {s:Sto} {r:ARes×Sto}:cfW P ans pr c a s=some r↔∃ n,(run P ans pr n).1 c a s=some r:=lim_some fun n m r h e=>(run_le h).1 _ _ _ _ e
theorem lpW_some {f:FuncId} {c:Code} {s:St} {r:AExit×St}:lpW P ans pr f c s=some r↔∃ n,(run P ans pr n).2 f c s=some r:=lim_some fun n m r h e=>(run_le h).2 _ _ _ _ e
theorem cfW_lim:CfLim (cfW P ans pr) fun m=>(run P ans pr m).1:=fun c a s r e=>by
 obtain ⟨n,hn⟩:=cfW_some.1 e;exact ⟨n,fun m hm=>(run_le hm).1 _ _ _ _ hn⟩
theorem lpW_lim:LpLim (lpW P ans pr) fun m=>(run P ans pr m).2:=fun c a s r e=>by
 obtain ⟨n,hn⟩:=lpW_some.1 e;exact ⟨n,fun m hm=>(run_le hm).2 _ _ _ _ hn⟩
theorem run_leW (n:Nat):CfLe (run P ans pr n).1 (cfW P ans pr)∧LpLe (run P ans pr n).2 (lpW P ans pr):=⟨fun _ _ _ _ e=>cfW_some.2 ⟨n,e⟩,fun _ _ _ _ e=>lpW_some.2 ⟨n,e⟩⟩
theorem cfW_eq (c:Callee) (a:List Slot) (s:Sto):cfW P ans pr c a s=callStep P ans pr (cfW P ans pr) (lpW P ans pr) c a s:=by
 refine Option.ext fun r=>⟨fun e=>?_,fun e=>?_⟩
 ·obtain ⟨n,hn⟩:=cfW_some.1 e
  cases n with
  |zero=>cases hn
  |succ n=>exact callStep_le (run_leW n).1 (run_leW n).2 _ _ _ _ hn
 ·obtain ⟨n,hn⟩:=callStep_cont cfW_lim lpW_lim _ _ _ _ e
  exact cfW_some.2 ⟨n+1,hn n (Nat.le_refl _)⟩
theorem lpW_eq (f:FuncId) (c:Code) (s:St):lpW P ans pr f c s=loopStep P ans (cfW P ans pr) (lpW P ans pr) f c s:=by
 refine Option.ext fun r=>⟨fun e=>?_,fun e=>?_⟩
 ·obtain ⟨n,hn⟩:=lpW_some.1 e
  cases n with
  |zero=>cases hn
  |succ n=>exact loopStep_le (run_leW n).1 (run_leW n).2 _ _ _ _ hn
 ·obtain ⟨n,hn⟩:=loopStep_cont cfW_lim lpW_lim _ _ _ _ e
  exact lpW_some.2 ⟨n+1,hn n (Nat.le_refl _)⟩
theorem cfW_calls {B0:Nat} (E:Env P ans B0 pr) {f:FuncId} {args:List Slot} {sto:Sto} {res:ARes} {sto':Sto} (hpr:pr f args=none) (e:cfW P ans pr (.fn f) args sto=some (res,sto')) {w:World} {Ψ:HT} {ρ:List Nat} {ow:Own} {vs:Array Value} (hpre:CallPre ans B0 w Ψ ρ ow args vs sto) :
  Calls P f vs w fun e w'=>∃ Ψ' ρ' ow',Fr w Ψ ow w' Ψ' ow'∧WSat Ψ' w'∧match res with
   |.ret s=>∃ v,e=.returned v∧SRel w' B0 Ψ' ρ' ow' #[] 0 s v
   |.pan x=>∃ v,e=.panicked [{ v,recovered:=false }]∧VRel Ψ' ρ' x v:=by
 obtain ⟨n,hn⟩:=cfW_some.1 e;cases n with
 |zero=>cases hn
 |succ n=>exact run_calls E hpr hn hpre
end Go.AM
end
section
namespace Go.AM
theorem fnP {P:Program} {ans:FuncId→Ann} {pr:Prims} {f:FuncId} {args:List Slot} {sto:Sto} {r:ARes} {s:Slot} (h1:pr f args=some (some r)) (h2:primOk r=some s):cfW P ans pr (.fn f) args sto=some (.ret s,sto):=by
 rw[cfW_eq];simp only[callStep,h1,Option.bind_some,h2,Option.map_some]
theorem fin0 {α:Type} {X:Option (α×Sto)} {r:α} {sto:Sto} (h:X=some (r,⟨sto.objs.take sto.objs.length,sto.lo⟩)):X=some (r,sto):=by
 rw[h,List.take_length]
theorem fin1 {α:Type} {X:Option (α×Sto)} {r:α} {sto:Sto} (extra:List AObj) (h:X=some (r,⟨(sto.objs++extra).take sto.objs.length,sto.lo⟩)):X=some (r,sto):=by
 rw[h,List.take_left'];rfl
theorem fin2 {α:Type} {X:Option (α×Sto)} {r:α} {sto:Sto} (e1 e2:List AObj) (h:X=some (r,⟨((sto.objs++e1)++e2).take sto.objs.length,sto.lo⟩)):X=some (r,sto):=by
 rw[h,List.append_assoc,List.take_left'];rfl
def loops:Code→List Code
 |.seq a b=>loops a++loops b
 |.cond _ a b=>loops a++loops b
 |.block _ c=>loops c
 |.loop c=>c::loops c
 |.scope c=>loops c
 |.rangeFunc _ _ a b=>loops a++loops b
 |_=>[]
def loopQ (fn:Func) (n:Nat):Option Code:=match fn.body with|some c=>(loops c)[n]?|none=>none
def loopOf (fn:Func) (n:Nat):Code:=(loopQ fn n).getD .skip
end Go.AM
end
section
namespace Go.AM
variable {P:Program} {ans:FuncId→Ann} {cf:Oracle} {lp:LpOracle} {f:FuncId} {R:Type} {K:AExit→St→Option R} {a b c:Code} {st:St} {tm tm':List Slot} {sto sto':Sto} {sc:List (Nat×Slot)}
def KS (P:Program) (ans:FuncId→Ann) (cf:Oracle) (lp:LpOracle) (f:FuncId) (b:Code) (K:AExit→St→Option R):AExit→St→Option R:=fun e st' =>
 match e with
 |.norm=>XK P ans cf lp f b st' K
 |.exit id=>K (.exit id) st'
 |.ret=>K .ret st'
 |.pan v=>K (.pan v) st'
def KB (id:Nat) (K:AExit→St→Option R):AExit→St→Option R:=fun e st' =>
 match e with
 |.norm=>K .norm st'
 |.exit id'=>(bif Nat.beq id' id then K .norm st' else K (.exit id') st')
 |.ret=>K .ret st'
 |.pan v=>K (.pan v) st'
theorem kbX {id:Nat}:KB id K (.exit id) st=K .norm st:=by simp [KB]
theorem kbO {id i:Nat} (h:Nat.beq i id=false):KB id K (.exit i) st=K (.exit i) st:=by simp [KB,h]
theorem xT {o:Operand} {t:Bool} (h:opS (ans f).keep tm ⟨[],sto⟩ o=.val (.bool t)) (ht:t=true):XK P ans cf lp f (.cond o a b) ⟨tm,sto⟩ K=XK P ans cf lp f a ⟨tm,sto⟩ K:=by
 subst ht;simp only[XK,h,asBool,cond_true]
theorem xF {o:Operand} {t:Bool} (h:opS (ans f).keep tm ⟨[],sto⟩ o=.val (.bool t)) (ht:t=false):XK P ans cf lp f (.cond o a b) ⟨tm,sto⟩ K=XK P ans cf lp f b ⟨tm,sto⟩ K:=by
 subst ht;simp only[XK,h,asBool,cond_false]
theorem xR {id:Nat} {ops:Array Oper} (h:∀ (kp:AVal→RS→Option R) (kn:RS→Option R),opsK P ans (ans f) false cf tm id ops kp kn ops.toList 0 ⟨[],sto⟩=kn ⟨sc,sto'⟩) (hc:commit (ans f).keep tm sc=tm'):XK P ans cf lp f (.region id ops false) ⟨tm,sto⟩ K=K .norm ⟨tm',sto'⟩:=by
 simp only[XK,h,hc]
theorem xD {id:Nat} {ops:Array Oper} (hg:(drawOk ans (ans f) id ops&&noX ans (ans f) id ops)=true) (h:∀ (kp:AVal→RS→Option R) (kn:RS→Option R),opsK P ans (ans f) true cf tm id ops kp kn ops.toList 0 ⟨[],sto⟩=kn ⟨sc,sto'⟩) (hc:commit (ans f).keep tm sc=tm'):XK P ans cf lp f (.region id ops true) ⟨tm,sto⟩ K=K .norm ⟨tm',sto'⟩:=by
 simp only[XK,h,hc,hg];rfl
theorem xL {e:AExit} {st':St} (h:lp f c (headSt (ans f) c st)=some (e,st')):XK P ans cf lp f (.loop c) st K=K e st':=by
 simp only[XK,h,Option.bind_some]
def KF (P:Program) (ans:FuncId→Ann) (f:FuncId) (fn:Func) (n:Nat):AExit→St→Option (ARes×Sto):=fun e st =>
 match e with
 |.norm=>finish P (ans f) fn n st
 |.ret=>finish P (ans f) fn n st
 |.pan v=>some (.pan v,st.sto)
 |.exit _=>none
theorem fnX {pr:Prims} {fn:Func} {args:List Slot} (h1:pr f args=none) (h3:(ans f).prim=false) (h2:P.funcs[f]?=some fn) (hb:fn.body=some c) (hg:(Nat.beq fn.ntmps (ans f).nt&&Nat.ble args.length fn.ntmps)=true) (ht:((ans f).keep.map fun t=>(args[t]?).getD .dead)=tm) :
  cfW P ans pr (.fn f) args sto=XK P ans (cfW P ans pr) (lpW P ans pr) f c ⟨tm,sto⟩ (KF P ans f fn sto.objs.length):=by
 rw[cfW_eq];simp only[callStep,h1,h2,h3,hb,cond_false,hg,guardB,cond_true,ht];rfl
def KL (P:Program) (ans:FuncId→Ann) (lp:LpOracle) (f:FuncId) (c:Code):AExit→St→Option (AExit×St):=fun e st' =>
 match e with
 |.norm=>lp f c (headSt (ans f) c st')
 |e=>some (e,st')
theorem lpX {pr:Prims}:lpW P ans pr f c st=XK P ans (cfW P ans pr) (lpW P ans pr) f c st (KL P ans (lpW P ans pr) f c):=by rw[lpW_eq];rfl
theorem wrapOk {n:Int} (h1:-9223372036854775808≤n) (h2:n < 9223372036854775808):IntKind.i64.wrap n=n:=by
 rw[IntKind.wrap_i64];omega
theorem objs1 (l:List AObj) (a:AObj):(l++[a])[l.length]?=some a:=by simp
theorem objs2 (l:List AObj) (a b:AObj):((l++[a])++[b])[l.length]?=some a:=by simp
theorem objs3 (l:List AObj) (a b c:AObj):(((l++[a])++[b])++[c])[l.length]?=some a:=by simp
theorem objs32 (l:List AObj) (a b c:AObj):(((l++[a])++[b])++[c])[(l++[a]).length]?=some b:=by simp
theorem oset1 (l:List AObj) (a b:AObj):(l++[a]).set l.length b=l++[b]:=by simp
theorem cAgg (cs:List AVal):(AVal.agg cs).cells=cs:=rfl
theorem cInt (k:IntKind) (n:Int):(AVal.int k n).cells=[.int k n]:=rfl
theorem cBool (b:Bool):(AVal.bool b).cells=[.bool b]:=rfl
theorem cStr (s:List UInt8):(AVal.str s).cells=[.str s]:=rfl
theorem cSlice (s:List AVal):(AVal.slice s).cells=[.slice s]:=rfl
theorem cFunc (f:FuncId) (l:List AVal):(AVal.func f l).cells=[.func f l]:=rfl
theorem cNilf:AVal.nilfunc.cells=[.nilfunc]:=rfl
theorem cNilp:AVal.nilptr.cells=[.nilptr]:=rfl
theorem cNilm:AVal.nilmap.cells=[.nilmap]:=rfl
theorem cLoc (i o:Nat):(AVal.loc i o).cells=[.loc i o]:=rfl
theorem cMap (i:Nat):(AVal.amap i).cells=[.amap i]:=rfl
theorem cYld (i:Nat):(AVal.yld i).cells=[.yld i]:=rfl
theorem tI {pr:Prims} {fn:Func} {n:Nat} {x:AExit×St} (h:loopQ fn n=some c) (k:XK P ans (cfW P ans pr) (lpW P ans pr) f c st (KL P ans (lpW P ans pr) f (loopOf fn n))=some x):lpW P ans pr f (loopOf fn n) st=some x:=by
 have hc:loopOf fn n=c:=by simp [loopOf,h]
 rw[lpX,hc];rw[hc] at k;exact k
theorem tA {pr:Prims} {fn:Func} {args:List Slot} {x:ARes×Sto} (h1:pr f args=none) (h3:(ans f).prim=false) (h2:P.funcs[f]?=some fn) (hb:fn.body=some c) (hg:(Nat.beq fn.ntmps (ans f).nt&&Nat.ble args.length fn.ntmps)=true) (ht:((ans f).keep.map fun t=>(args[t]?).getD .dead)=tm)
  (k:XK P ans (cfW P ans pr) (lpW P ans pr) f c ⟨tm,sto⟩ (KF P ans f fn sto.objs.length)=some x):cfW P ans pr (.fn f) args sto=some x:=(fnX h1 h3 h2 hb hg ht).trans k
variable {r:R}
theorem tS (h:XK P ans cf lp f a st (KS P ans cf lp f b K)=some r):XK P ans cf lp f (.seq a b) st K=some r:=h
theorem tB {id:Nat} (h:XK P ans cf lp f c st (KB id K)=some r):XK P ans cf lp f (.block id c) st K=some r:=h
theorem tO (h:XK P ans cf lp f c st K=some r):XK P ans cf lp f (.scope c) st K=some r:=h
theorem tK (h:K .norm st=some r):XK P ans cf lp f .skip st K=some r:=h
theorem tX {id:Nat} (h:K (.exit id) st=some r):XK P ans cf lp f (.exit id) st K=some r:=h
theorem tE (h:K .ret st=some r):XK P ans cf lp f .ret st K=some r:=h
theorem tsN (h:XK P ans cf lp f b st K=some r):KS P ans cf lp f b K .norm st=some r:=h
theorem tsX {id:Nat} (h:K (.exit id) st=some r):KS P ans cf lp f b K (.exit id) st=some r:=h
theorem tsE (h:K .ret st=some r):KS P ans cf lp f b K .ret st=some r:=h
theorem tbN {id:Nat} (h:K .norm st=some r):KB id K .norm st=some r:=h
theorem tbX {id:Nat} (h:K .norm st=some r):KB id K (.exit id) st=some r:=kbX.trans h
theorem tbO {id i:Nat} (hi:Nat.beq i id=false) (h:K (.exit i) st=some r):KB id K (.exit i) st=some r:=(kbO hi).trans h
theorem tbE {id:Nat} (h:K .ret st=some r):KB id K .ret st=some r:=h
theorem tT {o:Operand} {t:Bool} (h:opS (ans f).keep tm ⟨[],sto⟩ o=.val (.bool t)) (ht:t=true) (k:XK P ans cf lp f a ⟨tm,sto⟩ K=some r):XK P ans cf lp f (.cond o a b) ⟨tm,sto⟩ K=some r:=(xT h ht).trans k
theorem tF {o:Operand} {t:Bool} (h:opS (ans f).keep tm ⟨[],sto⟩ o=.val (.bool t)) (ht:t=false) (k:XK P ans cf lp f b ⟨tm,sto⟩ K=some r):XK P ans cf lp f (.cond o a b) ⟨tm,sto⟩ K=some r:=(xF h ht).trans k
theorem tR {id:Nat} {ops:Array Oper} (h:∀ (kp:AVal→RS→Option R) (kn:RS→Option R),opsK P ans (ans f) false cf tm id ops kp kn ops.toList 0 ⟨[],sto⟩=kn ⟨sc,sto'⟩) (hc:commit (ans f).keep tm sc=tm') (k:K .norm ⟨tm',sto'⟩=some r):XK P ans cf lp f (.region id ops false) ⟨tm,sto⟩ K=some r:=(xR h hc).trans k
theorem tD {id:Nat} {ops:Array Oper} (hg:(drawOk ans (ans f) id ops&&noX ans (ans f) id ops)=true) (h:∀ (kp:AVal→RS→Option R) (kn:RS→Option R),opsK P ans (ans f) true cf tm id ops kp kn ops.toList 0 ⟨[],sto⟩=kn ⟨sc,sto'⟩) (hc:commit (ans f).keep tm sc=tm') (k:K .norm ⟨tm',sto'⟩=some r):XK P ans cf lp f (.region id ops true) ⟨tm,sto⟩ K=some r:=(xD hg h hc).trans k
theorem tOp {an:Ann} {drawn:Bool} {id i:Nat} {ops:Array Oper} {kp:AVal→RS→Option R} {kn:RS→Option R} {o:Oper} {os:List Oper} {rs rs':RS} {x:Option R} (h:∀ next:RS→Option R,oneK P ans an drawn cf tm id ops kp o i rs next=next rs') (k:opsK P ans an drawn cf tm id ops kp kn os (i+1) rs'=x):opsK P ans an drawn cf tm id ops kp kn (o::os) i rs=x:=(h _).trans k
theorem tL {e:AExit} {st':St} (h:lp f c (headSt (ans f) c st)=some (e,st')) (k:K e st'=some r):XK P ans cf lp f (.loop c) st K=some r:=(xL h).trans k
theorem tfE {fn:Func} {n:Nat} {x:ARes×Sto} (h:finish P (ans f) fn n st=some x):KF P ans f fn n .ret st=some x:=h
theorem tfN {fn:Func} {n:Nat} {x:ARes×Sto} (h:finish P (ans f) fn n st=some x):KF P ans f fn n .norm st=some x:=h
theorem tlN {x:AExit×St} {lp:LpOracle} (h:lp f c (headSt (ans f) c st)=some x):KL P ans lp f c .norm st=some x:=h
theorem tlX {id:Nat}:KL P ans lp f c (.exit id) st=some (.exit id,st):=rfl
theorem tlE:KL P ans lp f c .ret st=some (.ret,st):=rfl
end Go.AM
end
section
namespace Go.AM
variable {P:Program} {ans:FuncId→Ann} {cf:Oracle} {lp:LpOracle} {f:FuncId} {R:Type} {K:AExit→St→Option R} {tm:List Slot} {sto:Sto} {r:R}
def ranges:Code→List (Array Tmp×Code×Code)
 |.seq a b=>ranges a++ranges b
 |.cond _ a b=>ranges a++ranges b
 |.block _ c=>ranges c
 |.loop c=>ranges c
 |.scope c=>ranges c
 |.rangeFunc _ ps a b=>(ps,a,b)::(ranges a++ranges b)
 |_=>[]
def rangeQ (fn:Func) (n:Nat):Option (Array Tmp×Code×Code):=match fn.body with|some c=>(ranges c)[n]?|none=>none
def rangeOf (fn:Func) (n:Nat):Array Tmp×Code×Code:=(rangeQ fn n).getD (#[],.skip,.skip)
def rloop (f:FuncId) (fn:Func) (n:Nat) (tm:List Slot) (p:Option Code) (s:LoopState):ALoop:=⟨f,tm,(rangeOf fn n).1,(rangeOf fn n).2.1,(rangeOf fn n).2.2,p,s⟩
theorem tGn {fo:Operand} {ps:Array Tmp} {assign body:Code} {g:FuncId} {caps:List AVal} {s:Slot} {O O':List AObj} {lo n:Nat} {fn:Func} {f':FuncId} {tl:List Slot}
  (h:opS (ans f).keep tm ⟨[],sto⟩ fo=.val (.func g caps))
  (hc:cf (.fn g) (.val (.yld sto.objs.length)::caps.map .val) ⟨sto.objs++[.loop ⟨f,tm.map snapSlot,ps,assign,body,none,.ready⟩],sto.lo⟩=some (.ret s,⟨O',lo⟩))
  (hl:O'[sto.objs.length]?=some (.loop (rloop f' fn n tl none .ready))) (ht:O'.take sto.objs.length=O)
  (k:K .norm ⟨tm,⟨O,lo⟩⟩=some r):XK P ans cf lp f (.rangeFunc fo ps assign body) ⟨tm,sto⟩ K=some r:=by
 subst ht;simp only[XK,h,hc,Option.bind_some,hl,rloop];exact k
theorem tGr {fo:Operand} {ps:Array Tmp} {assign body:Code} {g:FuncId} {caps:List AVal} {s:Slot} {O O':List AObj} {lo n:Nat} {fn:Func} {f':FuncId} {tl:List Slot}
  (h:opS (ans f).keep tm ⟨[],sto⟩ fo=.val (.func g caps))
  (hc:cf (.fn g) (.val (.yld sto.objs.length)::caps.map .val) ⟨sto.objs++[.loop ⟨f,tm.map snapSlot,ps,assign,body,none,.ready⟩],sto.lo⟩=some (.ret s,⟨O',lo⟩))
  (hl:O'[sto.objs.length]?=some (.loop (rloop f' fn n tl (some .ret) .done))) (ht:O'.take sto.objs.length=O)
  (k:K .ret ⟨tm,⟨O,lo⟩⟩=some r):XK P ans cf lp f (.rangeFunc fo ps assign body) ⟨tm,sto⟩ K=some r:=by
 subst ht;simp only[XK,h,hc,Option.bind_some,hl,rloop];exact k
theorem tGx {fo:Operand} {ps:Array Tmp} {assign body:Code} {g:FuncId} {caps:List AVal} {s:Slot} {O O':List AObj} {lo n id:Nat} {fn:Func} {f':FuncId} {tl:List Slot}
  (h:opS (ans f).keep tm ⟨[],sto⟩ fo=.val (.func g caps))
  (hc:cf (.fn g) (.val (.yld sto.objs.length)::caps.map .val) ⟨sto.objs++[.loop ⟨f,tm.map snapSlot,ps,assign,body,none,.ready⟩],sto.lo⟩=some (.ret s,⟨O',lo⟩))
  (hl:O'[sto.objs.length]?=some (.loop (rloop f' fn n tl (some (.exit id)) .done))) (ht:O'.take sto.objs.length=O)
  (k:K (.exit id) ⟨tm,⟨O,lo⟩⟩=some r):XK P ans cf lp f (.rangeFunc fo ps assign body) ⟨tm,sto⟩ K=some r:=by
 subst ht;simp only[XK,h,hc,Option.bind_some,hl,rloop];exact k
def KY2 (i n:Nat):AExit→St→Option (ARes×Sto):=fun e st =>
 match e with
 |.norm=>loopAt st.sto i fun l2=>some (.ret (.val (.bool true)),cut n (setLoop st.sto i { l2 with state:=.ready,pend:=none }))
 |.ret=>loopAt st.sto i fun l2=>some (.ret (.val (.bool false)),cut n (setLoop st.sto i { l2 with state:=.done,pend:=some .ret }))
 |.exit id=>loopAt st.sto i fun l2=>some (.ret (.val (.bool false)),cut n (setLoop st.sto i { l2 with state:=.done,pend:=some (.exit id) }))
 |.pan v=>some (.pan v,st.sto)
def KY1 (P:Program) (ans:FuncId→Ann) (cf:Oracle) (lp:LpOracle) (i n:Nat) (f:FuncId) (body:Code):AExit→St→Option (ARes×Sto):=fun e st =>
 match e with
 |.norm=>loopAt st.sto i fun l1 =>
  match l1.state with
  |.ready=>XK P ans cf lp f body { st with sto:=setLoop st.sto i { l1 with state:=.busy } } (KY2 i n)
  |_=>none
 |_=>none
theorem tY {pr:Prims} {i n:Nat} {args:List Slot} {O:List AObj} {lo:Nat} {f:FuncId} {fn:Func} {p:Option Code} {tm tm':List Slot} {ps:Array Tmp} {a b:Code} {x:ARes×Sto} (hl:O[i]?=some (.loop (rloop f fn n tm p .ready))) (hq:rangeQ fn n=some (ps,a,b))
  (hg:(Nat.beq args.length ps.size&&noRange a&&noRange b&&args.all Slot.isVal&&(P.funcs[f]?).isSome&&ps.toList.all (fun p=>Nat.blt p (ans f).nt))=true) (hb:Nat.ble lo i=true)
  (ht:setParams (ans f).keep tm (ps.toList.zip args)=tm')
  (k:XK P ans (cfW P ans pr) (lpW P ans pr) f a ⟨tm',⟨O,lo⟩⟩ (KY1 P ans (cfW P ans pr) (lpW P ans pr) i O.length f b)=some x) :
  cfW P ans pr (.yld i) args ⟨O,lo⟩=some x:=by
 have h1:rangeOf fn n=(ps,a,b):=by simp [rangeOf,hq]
 rw[cfW_eq];simp only[callStep,loopAt,hl];simp only[Bool.and_eq_true] at hg;obtain ⟨⟨⟨⟨⟨g1,g2⟩,g3⟩,g4⟩,g5⟩,g6⟩:=hg;simp only[rloop,h1,hb,g1,g2,g3,g4,g5,g6,Bool.and_self,guardB,cond_true];subst ht;exact k
theorem ty1 {i n m:Nat} {O O':List AObj} {lo:Nat} {f:FuncId} {fn:Func} {p:Option Code} {tm tl:List Slot} {b:Code} {x:ARes×Sto} (hl:O[i]?=some (.loop (rloop f fn n tl p .ready))) (hs:O.set i (.loop (rloop f fn n tl p .busy))=O')
  (k:XK P ans cf lp f b ⟨tm,⟨O',lo⟩⟩ (KY2 i m)=some x) :
  KY1 P ans cf lp i m f b .norm ⟨tm,⟨O,lo⟩⟩=some x:=by
 subst hs;simp only[KY1,loopAt,hl,setLoop];exact k
theorem ty2n {i n m:Nat} {O O':List AObj} {lo:Nat} {f:FuncId} {fn:Func} {p:Option Code} {s:LoopState} {tm tl:List Slot} (hl:O[i]?=some (.loop (rloop f fn n tl p s))) (hs:(O.set i (.loop (rloop f fn n tl none .ready))).take m=O') :
  KY2 i m .norm ⟨tm,⟨O,lo⟩⟩=some (.ret (.val (.bool true)),⟨O',lo⟩):=by
 subst hs;simp only[KY2,loopAt,hl,setLoop,cut];rfl
theorem ty2r {i n m:Nat} {O O':List AObj} {lo:Nat} {f:FuncId} {fn:Func} {p:Option Code} {s:LoopState} {tm tl:List Slot} (hl:O[i]?=some (.loop (rloop f fn n tl p s))) (hs:(O.set i (.loop (rloop f fn n tl (some .ret) .done))).take m=O') :
  KY2 i m .ret ⟨tm,⟨O,lo⟩⟩=some (.ret (.val (.bool false)),⟨O',lo⟩):=by
 subst hs;simp only[KY2,loopAt,hl,setLoop,cut];rfl
theorem ty2x {i n m id:Nat} {O O':List AObj} {lo:Nat} {f:FuncId} {fn:Func} {p:Option Code} {s:LoopState} {tm tl:List Slot} (hl:O[i]?=some (.loop (rloop f fn n tl p s))) (hs:(O.set i (.loop (rloop f fn n tl (some (.exit id)) .done))).take m=O') :
  KY2 i m (.exit id) ⟨tm,⟨O,lo⟩⟩=some (.ret (.val (.bool false)),⟨O',lo⟩):=by
 subst hs;simp only[KY2,loopAt,hl,setLoop,cut];rfl
theorem objK (l e:List AObj) (k:Nat):(l++e)[l.length+k]?=e[k]?:=by rw[List.getElem?_append_right (by omega)];congr 1;omega
theorem obj0 (l e:List AObj):(l++e)[l.length]?=e[0]?:=by rw[List.getElem?_append_right (by omega)];congr 1;omega
theorem setK (l e:List AObj) (k:Nat) (v:AObj):(l++e).set (l.length+k) v=l++e.set k v:=by rw[List.set_append_right _ _ (by omega)];congr 2;omega
theorem set0 (l e:List AObj) (v:AObj):(l++e).set l.length v=l++e.set 0 v:=by rw[List.set_append_right _ _ (by omega)];congr 2;omega
theorem takeK (l e:List AObj) (k:Nat):(l++e).take (l.length+k)=l++e.take k:=by rw[List.take_append,List.take_of_length_le (by omega)];congr 2;omega
theorem FL.{u} {α : Type u} : (∀ a b c : List α, (a ++ b) ++ c = a ++ (b ++ c)) ∧ (∀ a b : List α, (a ++ b).length = a.length + b.length) ∧ (∀ (a : α) (l : List α), (a :: l).length = l.length + 1) ∧ (([] : List α).length = 0) ∧
 (∀ (a : α) (l m : List α), (a :: l) ++ m = a :: (l ++ m)) ∧ (∀ l : List α, [] ++ l = l) ∧ (∀ l : List α, l.take 0 = []) ∧ (∀ (n : Nat) (a : α) (l : List α), (a :: l).take (n + 1) = a :: l.take n) ∧
 (∀ (a b : α) (l : List α), (a :: l).set 0 b = b :: l) ∧ (∀ (n : Nat) (a b : α) (l : List α), (a :: l).set (n + 1) b = a :: l.set n b) ∧ (∀ (a : α) (l : List α), (a :: l)[0]? = some a) ∧ (∀ (n : Nat) (a : α) (l : List α), (a :: l)[n + 1]? = l[n]?) := ⟨List.append_assoc, fun _ _ => List.length_append, fun _ _ => rfl, rfl, fun _ _ _ => rfl, fun _ => rfl, fun _ => rfl, fun _ _ _ => rfl, fun _ _ _ => rfl, fun _ _ _ _ => rfl, fun _ _ => rfl, fun _ _ _ => rfl⟩
theorem FO : (∀ (l e : List AObj) (k : Nat), (l ++ e)[l.length + k]? = e[k]?) ∧ (∀ l e : List AObj, (l ++ e)[l.length]? = e[0]?) ∧ (∀ (l e : List AObj) (k : Nat) (v : AObj), (l ++ e).set (l.length + k) v = l ++ e.set k v) ∧ (∀ (l e : List AObj) (v : AObj), (l ++ e).set l.length v = l ++ e.set 0 v) ∧ (∀ (l e : List AObj) (k : Nat), (l ++ e).take (l.length + k) = l ++ e.take k) ∧ (∀ n : Nat, 0 + n = n) := ⟨objK, obj0, setK, set0, takeK, Nat.zero_add⟩
theorem finE {α:Type} {X:Option (α×Sto)} {r:α} {sto:Sto} (e:List AObj) (h:X=some (r,⟨(sto.objs++e).take sto.objs.length,sto.lo⟩)):X=some (r,sto):=by
 rw[h,List.take_left'];rfl
end Go.AM
end
section
namespace Go.AM
variable {P:Program} {ans:FuncId→Ann} {cf:Oracle} {lp:LpOracle} {f:FuncId}
inductive Adm:{R:Type}→Option R→R→Prop
 |s {P:Program} {ans:FuncId→Ann} {R:Type} {cf:Oracle} {lp:LpOracle} {f:FuncId} {a b:Code} {st:St} {K:AExit→St→Option R} {r:R} (h:Adm (XK P ans cf lp f a st (KS P ans cf lp f b K)) r):Adm (XK P ans cf lp f (.seq a b) st K) r
 |b {P:Program} {ans:FuncId→Ann} {R:Type} {cf:Oracle} {lp:LpOracle} {f:FuncId} {c:Code} {id:Nat} {st:St} {K:AExit→St→Option R} {r:R} (h:Adm (XK P ans cf lp f c st (KB id K)) r):Adm (XK P ans cf lp f (.block id c) st K) r
 |o {P:Program} {ans:FuncId→Ann} {R:Type} {cf:Oracle} {lp:LpOracle} {f:FuncId} {c:Code} {st:St} {K:AExit→St→Option R} {r:R} (h:Adm (XK P ans cf lp f c st K) r):Adm (XK P ans cf lp f (.scope c) st K) r
 |k {P:Program} {ans:FuncId→Ann} {R:Type} {cf:Oracle} {lp:LpOracle} {f:FuncId} {st:St} {K:AExit→St→Option R} {r:R} (h:Adm (K .norm st) r):Adm (XK P ans cf lp f .skip st K) r
 |x {P:Program} {ans:FuncId→Ann} {R:Type} {cf:Oracle} {lp:LpOracle} {f:FuncId} {id:Nat} {st:St} {K:AExit→St→Option R} {r:R} (h:Adm (K (.exit id) st) r):Adm (XK P ans cf lp f (.exit id) st K) r
 |e {P:Program} {ans:FuncId→Ann} {R:Type} {cf:Oracle} {lp:LpOracle} {f:FuncId} {st:St} {K:AExit→St→Option R} {r:R} (h:Adm (K .ret st) r):Adm (XK P ans cf lp f .ret st K) r
 |sN {P:Program} {ans:FuncId→Ann} {R:Type} {cf:Oracle} {lp:LpOracle} {f:FuncId} {b:Code} {st:St} {K:AExit→St→Option R} {r:R} (h:Adm (XK P ans cf lp f b st K) r):Adm (KS P ans cf lp f b K .norm st) r
 |sX {P:Program} {ans:FuncId→Ann} {R:Type} {cf:Oracle} {lp:LpOracle} {f:FuncId} {b:Code} {id:Nat} {st:St} {K:AExit→St→Option R} {r:R} (h:Adm (K (.exit id) st) r):Adm (KS P ans cf lp f b K (.exit id) st) r
 |sE {P:Program} {ans:FuncId→Ann} {R:Type} {cf:Oracle} {lp:LpOracle} {f:FuncId} {b:Code} {st:St} {K:AExit→St→Option R} {r:R} (h:Adm (K .ret st) r):Adm (KS P ans cf lp f b K .ret st) r
 |bN {R:Type} {id:Nat} {st:St} {K:AExit→St→Option R} {r:R} (h:Adm (K .norm st) r):Adm (KB id K .norm st) r
 |bX {R:Type} {id:Nat} {st:St} {K:AExit→St→Option R} {r:R} (h:Adm (K .norm st) r):Adm (KB id K (.exit id) st) r
 |bE {R:Type} {id:Nat} {st:St} {K:AExit→St→Option R} {r:R} (h:Adm (K .ret st) r):Adm (KB id K .ret st) r
 |fE {P:Program} {ans:FuncId→Ann} {f:FuncId} {fn:Func} {n:Nat} {st:St} {x:ARes×Sto} (h:Adm (finish P (ans f) fn n st) x):Adm (KF P ans f fn n .ret st) x
 |fN {P:Program} {ans:FuncId→Ann} {f:FuncId} {fn:Func} {n:Nat} {st:St} {x:ARes×Sto} (h:Adm (finish P (ans f) fn n st) x):Adm (KF P ans f fn n .norm st) x
 |lN {P:Program} {ans:FuncId→Ann} {lp:LpOracle} {f:FuncId} {c:Code} {st:St} {x:AExit×St} (h:Adm (lp f c (headSt (ans f) c st)) x):Adm (KL P ans lp f c .norm st) x
 |w {R:Type} {id i:Nat} {st:St} {K:AExit→St→Option R} {r:R} (hi:Nat.beq i id=false) (h:Adm (K (.exit i) st) r):Adm (KB id K (.exit i) st) r
 |z {R:Type} {x:Option R} {r:R} (h:x=some r):Adm x r
theorem tQ {R:Type} {x:Option R} {r:R} (h:Adm x r):x=some r:=by
 induction h with
 |s _ ih=>exact tS ih
 |b _ ih=>exact tB ih
 |o _ ih=>exact tO ih
 |k _ ih=>exact tK ih
 |x _ ih=>exact tX ih
 |e _ ih=>exact tE ih
 |sN _ ih=>exact tsN ih
 |sX _ ih=>exact tsX ih
 |sE _ ih=>exact tsE ih
 |bN _ ih=>exact tbN ih
 |bX _ ih=>exact tbX ih
 |bE _ ih=>exact tbE ih
 |fE _ ih=>exact tfE ih
 |fN _ ih=>exact tfN ih
 |lN _ ih=>exact tlN ih
 |w hi _ ih=>exact tbO hi ih
 |z h=>exact h
theorem t1 {P:Program} {ans:FuncId→Ann} {R:Type} {cf:Oracle} {lp:LpOracle} {f:FuncId} {a b:Code} {tm:List Slot} {sto:Sto} {K:AExit→St→Option R} {r:R} {o:Operand} {t:Bool} (h:opS (ans f).keep tm ⟨[],sto⟩ o=.val (.bool t)) (ht:t=true) (k:Adm (XK P ans cf lp f a ⟨tm,sto⟩ K) r):XK P ans cf lp f (.cond o a b) ⟨tm,sto⟩ K=some r:=tT h ht (tQ k)
theorem t0 {P:Program} {ans:FuncId→Ann} {R:Type} {cf:Oracle} {lp:LpOracle} {f:FuncId} {a b:Code} {tm:List Slot} {sto:Sto} {K:AExit→St→Option R} {r:R} {o:Operand} {t:Bool} (h:opS (ans f).keep tm ⟨[],sto⟩ o=.val (.bool t)) (ht:t=false) (k:Adm (XK P ans cf lp f b ⟨tm,sto⟩ K) r):XK P ans cf lp f (.cond o a b) ⟨tm,sto⟩ K=some r:=tF h ht (tQ k)
theorem tM {P:Program} {ans:FuncId→Ann} {R:Type} {cf:Oracle} {lp:LpOracle} {f:FuncId} {c:Code} {e:AExit} {st st':St} {K:AExit→St→Option R} {r:R} (h:lp f c (headSt (ans f) c st)=some (e,st')) (k:Adm (K e st') r):XK P ans cf lp f (.loop c) st K=some r:=tL h (tQ k)
theorem tJ {P:Program} {ans:FuncId→Ann} {f:FuncId} {c:Code} {st:St} {pr:Prims} {fn:Func} {n:Nat} {x:AExit×St} (h:loopQ fn n=some c) (k:Adm (XK P ans (cfW P ans pr) (lpW P ans pr) f c st (KL P ans (lpW P ans pr) f (loopOf fn n))) x):lpW P ans pr f (loopOf fn n) st=some x:=tI h (tQ k)
theorem tW {R:Type} {id i:Nat} {st:St} {K:AExit→St→Option R} {r:R} (hi:Nat.beq i id=false) (h:Adm (K (.exit i) st) r):KB id K (.exit i) st=some r:=tbO hi (tQ h)
theorem tG {R:Type} {id:Nat} {ops:Array Oper} {d:Bool} {tm tm':List Slot} {sc:List (Nat×Slot)} {sto sto':Sto} {K:AExit→St→Option R} {r:R} (hg:(bif d then drawOk ans (ans f) id ops&&noX ans (ans f) id ops else true)=true)
  (h:∀ (kp:AVal→RS→Option R) (kn:RS→Option R),opsK P ans (ans f) d cf tm id ops kp kn ops.toList 0 ⟨[],sto⟩=kn ⟨sc,sto'⟩) (hc:commit (ans f).keep tm sc=tm') (k:Adm (K .norm ⟨tm',sto'⟩) r):XK P ans cf lp f (.region id ops d) ⟨tm,sto⟩ K=some r:=by
 cases d with
 |false=>exact tR h hc (tQ k)
 |true=>exact tD hg h hc (tQ k)
end Go.AM
end
section
namespace Go.AM
variable {P:Program} {ans:FuncId→Ann} {cf:Oracle} {lp:LpOracle} {f:FuncId} {R:Type} {K:AExit→St→Option R} {b c:Code} {tm:List Slot} {sto sto':Sto} {r:R} {v:AVal} {st:St}
theorem tP {id:Nat} {ops:Array Oper} {sc:List (Nat×Slot)} (h:∀ (kp:AVal→RS→Option R) (kn:RS→Option R),opsK P ans (ans f) false cf tm id ops kp kn ops.toList 0 ⟨[],sto⟩=kp v ⟨sc,sto'⟩) (k:K (.pan v) ⟨tm,sto'⟩=some r):XK P ans cf lp f (.region id ops false) ⟨tm,sto⟩ K=some r:=by
 simp only[XK,h];exact k
theorem tOpP {an:Ann} {drawn:Bool} {id i:Nat} {ops:Array Oper} {kp:AVal→RS→Option R} {kn:RS→Option R} {o:Oper} {os:List Oper} {rs:RS} {x:Option R} (h:oneK P ans an drawn cf tm id ops kp o i rs (fun rs'=>opsK P ans an drawn cf tm id ops kp kn os (i+1) rs')=x):opsK P ans an drawn cf tm id ops kp kn (o::os) i rs=x:=h
theorem tsP (h:K (.pan v) st=some r):KS P ans cf lp f b K (.pan v) st=some r:=h
theorem tbP {id:Nat} (h:K (.pan v) st=some r):KB id K (.pan v) st=some r:=h
theorem tlP {lp:LpOracle}:KL P ans lp f c (.pan v) st=some (.pan v,st):=rfl
theorem tGp {fo:Operand} {ps:Array Tmp} {assign body:Code} {g:FuncId} {caps:List AVal} {sto2:Sto}
  (h:opS (ans f).keep tm ⟨[],sto⟩ fo=.val (.func g caps))
  (hc:cf (.fn g) (.val (.yld sto.objs.length)::caps.map .val) ⟨sto.objs++[.loop ⟨f,tm.map snapSlot,ps,assign,body,none,.ready⟩],sto.lo⟩=some (.pan v,sto2))
  (k:K (.pan v) ⟨tm,sto2⟩=some r):XK P ans cf lp f (.rangeFunc fo ps assign body) ⟨tm,sto⟩ K=some r:=by
 simp only[XK,h,hc,Option.bind_some];exact k
def fstC:Code→Code|.seq a _=>a|c=>c
def sndC:Code→Code|.seq _ b=>b|c=>c
def inB:Code→Code|.block _ c=>c|c=>c
end Go.AM
end
