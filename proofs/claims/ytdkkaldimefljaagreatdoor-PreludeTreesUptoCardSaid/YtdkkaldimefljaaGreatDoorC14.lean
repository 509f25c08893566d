import Derived.Test.YtdkkaldimefljaaGreatDoorC13
import Derived.Test.YtdkkaldimefljaaGreatDoorC10
set_option linter.all false
noncomputable section
namespace Go.CM
def Tot {α:Type} (Φ:(α→Res)→Res):Prop:=(∃ a,∀ k,Φ k=k a)∨∃ n,∀ k,Φ k=.bad n
def Tot0 (Φ:Res→Res):Prop:=(∀ k,Φ k=k)∨∃ n,∀ k,Φ k=.bad n
def TotW (Φ:Kw→Res):Prop:=(∃ v h nx,∀ k,Φ k=k v h nx)∨∃ n,∀ k,Φ k=.bad n
variable {α β:Type}
theorem Tot.ret (a:α):Tot (fun k=>k a):=.inl ⟨a,fun _=>rfl⟩
theorem Tot.bad (n:Nat):Tot (fun _:α→Res=>.bad n):=.inr ⟨n,fun _=>rfl⟩
theorem TotW.ret (v:V) (h:T O) (nx:Q):TotW (fun k=>k v h nx):=.inl ⟨v,h,nx,fun _=>rfl⟩
theorem TotW.bad (n:Nat):TotW (fun _=>.bad n):=.inr ⟨n,fun _=>rfl⟩
theorem Tot.bind {Φ:(α→Res)→Res} {Ψ:α→(β→Res)→Res} (h:Tot Φ) (hf:∀ a,Tot (Ψ a)):Tot (fun k=>Φ fun a=>Ψ a k):=by
 rcases h with ⟨a,h⟩|⟨n,h⟩
 ·rw[show (fun k=>Φ fun a=>Ψ a k)=Ψ a from funext fun k=>h _];exact hf a
 ·exact .inr ⟨n,fun k=>h _⟩
theorem Tot.bindW {Φ:(α→Res)→Res} {Ψ:α→Kw→Res} (h:Tot Φ) (hf:∀ a,TotW (Ψ a)):TotW (fun k=>Φ fun a=>Ψ a k):=by
 rcases h with ⟨a,h⟩|⟨n,h⟩
 ·rw[show (fun k=>Φ fun a=>Ψ a k)=Ψ a from funext fun k=>h _];exact hf a
 ·exact .inr ⟨n,fun k=>h _⟩
theorem Tot0.bind {Φ:Res→Res} {Ψ:(β→Res)→Res} (h:Tot0 Φ) (hf:Tot Ψ):Tot (fun k=>Φ (Ψ k)):=by
 rcases h with h|⟨n,h⟩
 ·rw[show (fun k=>Φ (Ψ k))=Ψ from funext fun k=>h _];exact hf
 ·exact .inr ⟨n,fun k=>h _⟩
theorem Tot0.bindW {Φ:Res→Res} {Ψ:Kw→Res} (h:Tot0 Φ) (hf:TotW Ψ):TotW (fun k=>Φ (Ψ k)):=by
 rcases h with h|⟨n,h⟩
 ·rw[show (fun k=>Φ (Ψ k))=Ψ from funext fun k=>h _];exact hf
 ·exact .inr ⟨n,fun k=>h _⟩
theorem dV (b:Bool) (n:Nat):Tot0 (gd b n):=by cases b <;> first|exact .inl fun _=>rfl|exact .inr ⟨n,fun _=>rfl⟩
def Tot2 {α β:Type} (Φ:(α→β→Res)→Res):Prop:=(∃ a b,∀ k,Φ k=k a b)∨∃ n,∀ k,Φ k=.bad n
theorem Tot2.bindW {Φ:(α→β→Res)→Res} {Ψ:α→β→Kw→Res} (h:Tot2 Φ) (hf:∀ a b,TotW (Ψ a b)):TotW (fun k=>Φ fun a b=>Ψ a b k):=by
 rcases h with ⟨a,b,h⟩|⟨n,h⟩
 ·rw[show (fun k=>Φ fun a b=>Ψ a b k)=Ψ a b from funext fun k=>h _];exact hf a b
 ·exact .inr ⟨n,fun k=>h _⟩
theorem Tot2.bind {γ:Type} {Φ:(α→β→Res)→Res} {Ψ:α→β→(γ→Res)→Res} (h:Tot2 Φ) (hf:∀ a b,Tot (Ψ a b)):Tot (fun k=>Φ fun a b=>Ψ a b k):=by
 rcases h with ⟨a,b,h⟩|⟨n,h⟩
 ·rw[show (fun k=>Φ fun a b=>Ψ a b k)=Ψ a b from funext fun k=>h _];exact hf a b
 ·exact .inr ⟨n,fun k=>h _⟩
theorem fT (x:X) (tm:T V):Tot (xK x tm):=by
 cases x
 ·exact .inl ⟨_,fun k=>dL _ tm k⟩
 ·exact .inl ⟨_,fun _=>rfl⟩
 ·exact .inr ⟨2,fun _=>rfl⟩
theorem aBN (tm:T V):∀ xs:List X,Tot (xsK xs tm)
 |[]=>.inl ⟨[],fun _=>rfl⟩
 |x::xs=>(fT x tm).bind fun v=>(aBN tm xs).bind fun l=>.ret (v::l)
theorem aJl (v:V):Tot2 (asP v):=by cases v <;> first|exact .inl ⟨_,_,fun _=>rfl⟩|exact .inr ⟨_,fun _=>rfl⟩
theorem aBB (v:V):Tot2 (asS v):=by cases v <;> first|exact .inl ⟨_,_,fun _=>rfl⟩|exact .inr ⟨_,fun _=>rfl⟩
theorem aIx (v:V):Tot (asN v):=by
 cases v <;> first|exact .inr ⟨_,fun _=>rfl⟩|skip
 rename_i kd n;cases n <;> first|exact .inl ⟨_,fun _=>rfl⟩|exact .inr ⟨_,fun _=>rfl⟩
theorem aH0 (v:V):Tot (cvK v):=by cases v <;> first|exact .inl ⟨_,fun _=>rfl⟩|exact .inr ⟨_,fun _=>rfl⟩
theorem rh {α:Type} (l:List α):Tot (nY l):=.inl ⟨_,fun k=>cF l k⟩
theorem vo (o:O):Tot2 (xQ o):=by cases o <;> first|exact .inl ⟨_,_,fun _=>rfl⟩|exact .inr ⟨_,fun _=>rfl⟩
theorem ud (o:O):Tot (pP o):=by cases o <;> first|exact .inl ⟨_,fun _=>rfl⟩|exact .inr ⟨_,fun _=>rfl⟩
theorem jb (o:O):Tot (aBQ o):=by cases o <;> first|exact .inl ⟨_,fun _=>rfl⟩|exact .inr ⟨_,fun _=>rfl⟩
theorem jE (q:Q) (h:T O):Tot (gO q h):=.inl ⟨_,fun k=>bS q h k⟩
theorem iW (v:O) (q:Q) (h:T O):Tot (pO v q h):=.inl ⟨_,fun k=>cK v q h k⟩
theorem mI (vs:List V) (i:Nat) (t:T V):Tot (jC vs i t):=.inl ⟨_,fun k=>dF vs i t k⟩
theorem cN (n:Nat):Tot (aX n):=.inl ⟨n,fun k=>aF n k⟩
theorem u7 (q:Q):Tot (lD q):=.inl ⟨_,fun _=>rfl⟩
theorem jf (n:Nat):∀ (i:Nat) (t:T V),Tot (rQ n i t):=by
 induction n with
 |zero=>intro i t;exact .inl ⟨[],fun _=>rfl⟩
 |succ n ih =>
  intro i t;show Tot (fun k=>qnK i fun q=>gV q t fun v=>aX (i+1) fun i'=>rQ n i' t fun l=>k (v::l));simp only[lX,dL,aF];exact (ih (i+1) t).bind fun l=>.ret _
theorem uz (h:T O) (o:Q) (off n:Nat):Tot (lP h o off n) :=
 (jE o h).bind fun ob=>(vo ob).bind fun m t=>(dV (Nat.ble (off+n) m) 47).bind (jf n off t)
theorem jm:∀ (l:List Q) (h:T O),Tot (vH l h)
 |[],h=>.ret h
 |q::l,h=>(iW _ q h).bind fun h'=>jm l h'
theorem u9 (o:Q) (off:Nat) (vs:List V) (h:T O):Tot (wrK o off vs h):=by
 unfold wrK;refine (jE o h).bind fun ob=>?_
 cases ob <;> first|exact .bad _|skip
 rename_i n t anc flo ty ex;refine (rh vs).bind fun m=>(dV _ _).bind ((mI vs off t).bind fun t'=>?_)
 cases Nat.ble flo off
 ·exact (jm anc h).bind fun h'=>iW _ o h'
 ·exact iW _ o h
theorem yL (s:KK) (h:T O) (x y:V):Tot (dS s h x y):=by
 have hp:∀ o a o' b,Tot (eqP h o a o' b):=fun o a o' b=>by
  unfold eqP;cases o.beq o'
  ·exact (jE _ h).bind fun _=>(jE _ h).bind fun _=>(dV _ _).bind (.ret _)
  ·cases Nat.beq a b
   ·exact (jE _ h).bind fun _=>(dV _ _).bind (.ret _)
   ·exact .ret _
 have hc:∀ f u w,Tot (fS f u w):=fun f u w=>by
  cases f <;> cases u <;> first|exact .bad _|skip
  all_goals (cases w <;> first|exact .bad _|exact .ret _|exact (dV _ _).bind (.ret _))
 have hcs:∀ fs us ws,Tot (fJ fs us ws):=fun fs=>by
  induction fs with
  |nil=>intro us ws;cases us <;> cases ws <;> first|exact .ret _|exact .bad _
  |cons f fs ih =>
   intro us ws;cases us <;> cases ws <;> first|exact .bad _|skip
   rename_i u us w ws;refine (hc f u w).bind fun b=>?_
   cases b
   ·exact .ret _
   ·exact ih us ws
 cases s <;> cases x <;> first|exact .bad _|skip
 all_goals (cases y <;> first|exact .bad _|exact .ret _|exact (dV _ _).bind (.ret _)|exact hp _ _ _ _|exact hcs _ _ _)
theorem qL (s:KK) (x:V):Tot0 (fU s x):=by
 cases s <;> first|exact .inl fun _=>rfl|skip
 rename_i fs;cases x <;> first|exact .inr ⟨_,fun _=>rfl⟩|skip
 rename_i cs;rcases dV (Nat.beq cs.length fs.length) 38 with h1|⟨n,h1⟩
 ·exact .inl fun k=>by simp only[fU,cF];exact h1 k
 ·exact .inr ⟨n,fun k=>by simp only[fU,cF];exact h1 k⟩
def TotU (Φ:Ku→Res):Prop:=(∃ es i v,∀ k,Φ k=k es i v)∨∃ n,∀ k,Φ k=.bad n
theorem TotU.bindW {Φ:Ku→Res} {Ψ:List (V×V)→Nat→V→Kw→Res} (h:TotU Φ) (hf:∀ a b c,TotW (Ψ a b c)):TotW (fun k=>Φ fun a b c=>Ψ a b c k):=by
 rcases h with ⟨a,b,c,h⟩|⟨n,h⟩
 ·rw[show (fun k=>Φ fun a b c=>Ψ a b c k)=Ψ a b c from funext fun k=>h _];exact hf a b c
 ·exact .inr ⟨n,fun k=>h _⟩
theorem cw (s:KK) (h:T O) (x:V) (f:V→V) (z:V):∀ (es:List (V×V)) (i:Nat),TotU (kR s h x f z es i)
 |[],i=>.inl ⟨_,_,_,fun _=>rfl⟩
 |(y,u)::es,i=>by
  rcases yL s h x y with ⟨b,hb⟩|⟨n,hn⟩
  ·cases b
   ·rcases cw s h x f z es (i+1) with ⟨a,b,c,h1⟩|⟨n,h1⟩
    ·exact .inl ⟨(y,u)::a,b,c,fun k=>by simp only[kR,hb,aF,h1]⟩
    ·exact .inr ⟨n,fun k=>by simp only[kR,hb,aF,h1]⟩
   ·exact .inl ⟨(x,f u)::es,i,u,fun k=>by simp only[kR,hb]⟩
  ·exact .inr ⟨n,fun k=>by simp only[kR,hn]⟩
theorem iz (v:V):∀ (i:Nat) (es:List (V×V)),Tot (yk v i es)
 |i,[]=>by cases i <;> exact .bad _
 |0,(y,_)::es=>.ret _
 |i+1,e::es=>(iz v i es).bind fun _=>.ret _
theorem zA:∀ (l n:Nat),Tot (byL l n)
 |0,n=>.ret _
 |l+1,n=>(cN _).bind fun _=>(cN _).bind fun n'=>(zA l n').bind fun _=>.ret _
theorem qN (sz:Nat) (v:V) (h:T O):Tot2 (iI sz v h):=by
 have hl:∀ o off len,Tot2 (fun k:Nat→List V→Res=>match len with|0=>k 0 []|len=>lP h o off (len * sz) fun l=>k len l):=fun o off len=>by
  cases len with
  |zero=>exact .inl ⟨_,_,fun _=>rfl⟩
  |succ m =>
   rcases uz h o off ((m+1) * sz) with ⟨a,ha⟩|⟨n,hn⟩
   ·exact .inl ⟨m+1,a,fun k=>ha _⟩
   ·exact .inr ⟨n,fun k=>hn _⟩
 cases v <;> first|exact .inr ⟨_,fun _=>rfl⟩|exact .inl ⟨_,_,fun _=>rfl⟩|exact hl _ _ _|skip
 rename_i l n;rcases dV (Nat.beq sz 1) 62 with h1|⟨n',h1⟩
 ·rcases zA l n with ⟨a,ha⟩|⟨n',hn⟩
  ·exact .inl ⟨l,a,fun k=>by simp only[iI,h1,ha]⟩
  ·exact .inr ⟨n',fun k=>by simp only[iI,h1,hn]⟩
 ·exact .inr ⟨n',fun k=>h1 _⟩
theorem ki (ty sz len m:Nat) (old new:List V) (h:T O) (nx:Q):TotW (nH ty sz len m old new h nx) :=
 (dV _ _).bindW ((mI _ _ _).bindW fun t=>(mI _ _ _).bindW fun t'=>(cN _).bindW fun n=>(cN _).bindW fun l=>(iW _ _ _).bindW fun h'=>(u7 _).bindW fun nx'=>.ret _ _ _)
theorem aGA (ty sz:Nat) (a:V) (m:Nat) (new:List V) (h:T O) (nx:Q):TotW (apK ty sz a m new h nx):=by
 cases a <;> first|exact .bad _|skip
 ·cases m
  ·exact .ret _ _ _
  ·exact ki _ _ _ _ _ _ _ _
 ·rename_i o off len cap
  simp only[show apK ty sz (.sl o off len cap) m new h nx=fun k=>(match Nat.ble (len+m) cap with
   |true=>(match m with
    |0=>k (.sl o off len cap) h nx
    |m=>wrK o (off+len * sz) new h fun h'=>aX (len+m) fun l=>k (.sl o off l cap) h' nx)
   |false=>iI sz (.sl o off len cap) h fun _ old=>nH ty sz len m old new h nx k) from rfl]
  cases Nat.ble (len+m) cap
  ·exact (qN _ _ _).bindW fun _ old=>ki _ _ _ _ _ _ _ _
  ·cases m
   ·exact .ret _ _ _
   ·exact (u9 _ _ _ _).bindW fun h'=>(cN _).bindW fun l=>.ret _ _ _
 ·rename_i o off len z
  show TotW (fun k=>gd (Nat.beq sz z) 63 _);refine (dV _ _).bindW (Ψ:=fun k=>_) ?_;cases m
  ·exact .ret _ _ _
  ·refine (jE _ _).bindW fun ob=>?_
   cases ob <;> first|exact .bad _|skip
   rename_i m n t anc flo ty' ex;simp only;cases Nat.ble (off+(len+(m+1)) * sz) n
   ·exact (dV _ _).bindW ((mI _ _ _).bindW fun t'=>(cN _).bindW fun n'=>(cN _).bindW fun l=>(iW _ _ _).bindW fun h'=>(iW _ _ _).bindW fun h''=>(u7 _).bindW fun nx'=>.ret _ _ _)
   ·exact (u9 _ _ _ _).bindW fun h'=>(cN _).bindW fun l=>.ret _ _ _
theorem aAj:∀ l:List V,Tot (pkK l)
 |[]=>.ret _
 |v::l=>by
  cases v <;> first|exact .bad _|skip
  rename_i kd n;cases kd <;> first|exact .bad _|skip
  cases n <;> first|exact .bad _|skip
  exact (dV _ _).bind ((aAj l).bind fun n=>cN _)
theorem aBc (v:V):Tot (zH v):=by cases v <;> first|exact .inl ⟨_,fun _=>rfl⟩|exact .inr ⟨_,fun _=>rfl⟩
theorem aFP (b:WB) (tm:T V) (h:T O) (nx:Q):TotW (wK b tm h nx):=by
 cases b
 ·exact (fT _ _).bindW fun p=>(aJl p).bindW fun o off=>(fT _ _).bindW fun v=>(aH0 v).bindW fun c=>(rh c).bindW fun m=>(dV _ _).bindW ((u9 _ _ _ _).bindW fun h'=>.ret _ _ _)
 ·refine (fT _ _).bindW fun m=>(fT _ _).bindW fun kv=>(fT _ _).bindW fun v=>(qL _ kv).bindW ?_
  cases m <;> first|exact .bad _|skip
  exact (jE _ _).bindW fun ob=>(ud ob).bindW fun es=>(cw _ _ _ _ _ _ _).bindW fun es' _ _=>(iW _ _ _).bindW fun h'=>.ret _ _ _
 ·refine (fT _ _).bindW fun m=>(fT _ _).bindW fun kv=>(qL _ kv).bindW ?_
  cases m <;> first|exact .bad _|skip
  exact (jE _ _).bindW fun ob=>(jb ob).bindW fun es=>(cw _ _ _ _ _ _ _).bindW fun es' i u=>(iW _ _ _).bindW fun h'=>.ret _ _ _
 ·refine (fT _ _).bindW fun m=>(fT _ _).bindW fun s=>(aIx s).bindW fun i=>(fT _ _).bindW fun v=>?_
  cases m <;> first|exact .bad _|skip
  exact (jE _ _).bindW fun ob=>(jb ob).bindW fun es=>(iz _ _ _).bindW fun es'=>(iW _ _ _).bindW fun h'=>.ret _ _ _
 ·exact (fT _ _).bindW fun a=>(fT _ _).bindW fun b=>(qN _ _ _).bindW fun m new=>(dV _ _).bindW (aGA _ _ _ _ _ _ _)
 ·refine (fT _ _).bindW fun a=>(fT _ _).bindW fun b=>(aBc a).bindW fun n=>(qN _ _ _).bindW fun m new=>(dV _ _).bindW ?_
  cases a <;> first|exact .bad _|skip
  ·exact (u9 _ _ _ _).bindW fun h'=>.ret _ _ _
  ·exact (u9 _ _ _ _).bindW fun h'=>.ret _ _ _
 ·exact (fT _ _).bindW fun v=>(aBB v).bindW fun l n=>(zA l n).bindW fun cs=>(mI _ _ _).bindW fun t=>(iW _ _ _).bindW fun h'=>(u7 _).bindW fun nx'=>.ret _ _ _
 ·refine (fT _ _).bindW fun v=>(fT _ _).bindW fun w=>?_
  cases w <;> first|exact .bad _|skip
  rename_i kd n;cases kd <;> first|exact .bad _|skip
  cases n <;> first|exact .bad _|skip
  cases v <;> first|exact .bad _|skip
  ·exact (dV _ _).bindW (.ret _ _ _)
  ·refine (dV _ _).bindW ((jE _ _).bindW fun ob=>?_)
   cases ob <;> first|exact .bad _|skip
   exact (dV _ _).bindW ((jf _ _ _).bindW fun cs=>(aAj cs).bindW fun n=>(iW _ _ _).bindW fun h'=>.ret _ _ _)
theorem aBg {b:WB} {tm:T V} {h:T O} {nx:Q} {k:Kw} {r:V} (e:wK b tm h nx k=.ok r):∃ v h' nx',k v h' nx'=.ok r∧∀ k',wK b tm h nx k'=k' v h' nx':=by
 rcases aFP b tm h nx with ⟨v,h',nx',h1⟩|⟨n,h1⟩
 ·exact ⟨v,h',nx',(h1 k).symm.trans e,h1⟩
 ·rw[h1] at e;cases e
theorem jB {x:X} {tm:T V} {k:V→Res} {r:V} (e:xK x tm k=.ok r):∃ v,k v=.ok r∧∀ k',xK x tm k'=k' v:=by
 rcases fT x tm with ⟨v,h1⟩|⟨n,h1⟩
 ·exact ⟨v,(h1 k).symm.trans e,h1⟩
 ·rw[h1] at e;cases e
theorem rC {xs:List X} {tm:T V} {k:List V→Res} {r:V} (e:xsK xs tm k=.ok r):∃ v,k v=.ok r∧∀ k',xsK xs tm k'=k' v:=by
 rcases aBN tm xs with ⟨v,h1⟩|⟨n,h1⟩
 ·exact ⟨v,(h1 k).symm.trans e,h1⟩
 ·rw[h1] at e;cases e
end Go.CM
end
noncomputable section
namespace Go.CM
def Gd {β:Type} (Φ:β→Prop) (c:(β→D)→D):Prop:=(∃ g,Φ g∧∀ k,c k=k g)∨∀ k,c k=⟨l6⟩
theorem Gd.ret {β:Type} {Φ:β→Prop} {g:β} (h:Φ g):Gd Φ (fun k=>k g):=.inl ⟨g,h,fun _=>rfl⟩
theorem Gd.bind {β γ:Type} {Φ:β→Prop} {Ψ:γ→Prop} {c:(β→D)→D} {f:β→(γ→D)→D} (h:Gd Φ c) (hf:∀ g,Φ g→Gd Ψ (f g)):Gd Ψ (fun k=>c fun g=>f g k):=by
 rcases h with ⟨g,hg,h⟩|h
 ·rw[show (fun k=>c fun g=>f g k)=f g from funext fun k=>h _];exact hf g hg
 ·exact .inr fun k=>h _
theorem zR (q:QN Q5):Gd (fun g:N5 V (T5 V)→(V→Res)→Res=>∀ t k,g t k=k (N5.gt g5 t q)) (ac6 q):=by
 cases q with
 |e=>exact .inl ⟨ev6,fun t k=>by cases t;rfl,fun _=>rfl⟩
 |a q=>exact .inr fun _=>rfl
 |b q=>exact .inr fun _=>rfl
 |c q=>exact .inr fun _=>rfl
 |d q=>exact .inr fun _=>rfl
theorem zD (q:QN Q5):Gd (fun p:Pv6=>∀ v t k,p v t k=k (N5.pt (p5 v) v q t)) (pc6 q):=by
 cases q with
 |e=>exact .inl ⟨nv6,fun v t k=>by cases t;rfl,fun _=>rfl⟩
 |a q=>exact .inr fun _=>rfl
 |b q=>exact .inr fun _=>rfl
 |c q=>exact .inr fun _=>rfl
 |d q=>exact .inr fun _=>rfl
theorem fh (q:QN Q6):Gd (fun g:N5 V (T6 V)→(V→Res)→Res=>∀ t k,g t k=k (N5.gt g6 t q)) (ac7 q):=by
 cases q with
 |e=>exact .inl ⟨ev7,fun t k=>by cases t;rfl,fun _=>rfl⟩
 |a q=>exact (zR q).bind (f:=fun g k=>k (aEM g)) fun g hg=>.inl ⟨aEM g,fun t k=>by cases t;exact hg _ k,fun _=>rfl⟩
 |b q=>exact (zR q).bind (f:=fun g k=>k (aE3 g)) fun g hg=>.inl ⟨aE3 g,fun t k=>by cases t;exact hg _ k,fun _=>rfl⟩
 |c q=>exact (zR q).bind (f:=fun g k=>k (aES g)) fun g hg=>.inl ⟨aES g,fun t k=>by cases t;exact hg _ k,fun _=>rfl⟩
 |d q=>exact (zR q).bind (f:=fun g k=>k (aEY g)) fun g hg=>.inl ⟨aEY g,fun t k=>by cases t;exact hg _ k,fun _=>rfl⟩
theorem zS (q:QN Q6):Gd (fun p:Pv7=>∀ v t k,p v t k=k (N5.pt (p6 v) v q t)) (pc7 q):=by
 cases q with
 |e=>exact .inl ⟨nv7,fun v t k=>by cases t;rfl,fun _=>rfl⟩
 |a q=>exact (zD q).bind (f:=fun g k=>k (aDb g)) fun g hg=>.inl ⟨aDb g,fun v t k=>by obtain ⟨u,a,b,c,d⟩:=t;exact hg v a fun x=>k ⟨u,x,b,c,d⟩,fun _=>rfl⟩
 |b q=>exact (zD q).bind (f:=fun g k=>k (aDd g)) fun g hg=>.inl ⟨aDd g,fun v t k=>by obtain ⟨u,a,b,c,d⟩:=t;exact hg v b fun x=>k ⟨u,a,x,c,d⟩,fun _=>rfl⟩
 |c q=>exact (zD q).bind (f:=fun g k=>k (aCZ g)) fun g hg=>.inl ⟨aCZ g,fun v t k=>by obtain ⟨u,a,b,c,d⟩:=t;exact hg v c fun x=>k ⟨u,a,b,x,d⟩,fun _=>rfl⟩
 |d q=>exact (zD q).bind (f:=fun g k=>k (aDw g)) fun g hg=>.inl ⟨aDw g,fun v t k=>by obtain ⟨u,a,b,c,d⟩:=t;exact hg v d fun x=>k ⟨u,a,b,c,x⟩,fun _=>rfl⟩
theorem zX (q:QN Q7):Gd (fun g:N5 V (T7 V)→(V→Res)→Res=>∀ t k,g t k=k (N5.gt g7 t q)) (ac8 q):=by
 cases q with
 |e=>exact .inl ⟨ev8,fun t k=>by cases t;rfl,fun _=>rfl⟩
 |a q=>exact (fh q).bind (f:=fun g k=>k (aE5 g)) fun g hg=>.inl ⟨aE5 g,fun t k=>by cases t;exact hg _ k,fun _=>rfl⟩
 |b q=>exact (fh q).bind (f:=fun g k=>k (aC5 g)) fun g hg=>.inl ⟨aC5 g,fun t k=>by cases t;exact hg _ k,fun _=>rfl⟩
 |c q=>exact (fh q).bind (f:=fun g k=>k (aDk g)) fun g hg=>.inl ⟨aDk g,fun t k=>by cases t;exact hg _ k,fun _=>rfl⟩
 |d q=>exact (fh q).bind (f:=fun g k=>k (aDP g)) fun g hg=>.inl ⟨aDP g,fun t k=>by cases t;exact hg _ k,fun _=>rfl⟩
theorem bn (q:QN Q7):Gd (fun p:Pv8=>∀ v t k,p v t k=k (N5.pt (p7 v) v q t)) (pc8 q):=by
 cases q with
 |e=>exact .inl ⟨nv8,fun v t k=>by cases t;rfl,fun _=>rfl⟩
 |a q=>exact (zS q).bind (f:=fun g k=>k (aEU g)) fun g hg=>.inl ⟨aEU g,fun v t k=>by obtain ⟨u,a,b,c,d⟩:=t;exact hg v a fun x=>k ⟨u,x,b,c,d⟩,fun _=>rfl⟩
 |b q=>exact (zS q).bind (f:=fun g k=>k (aDX g)) fun g hg=>.inl ⟨aDX g,fun v t k=>by obtain ⟨u,a,b,c,d⟩:=t;exact hg v b fun x=>k ⟨u,a,x,c,d⟩,fun _=>rfl⟩
 |c q=>exact (zS q).bind (f:=fun g k=>k (aDO g)) fun g hg=>.inl ⟨aDO g,fun v t k=>by obtain ⟨u,a,b,c,d⟩:=t;exact hg v c fun x=>k ⟨u,a,b,x,d⟩,fun _=>rfl⟩
 |d q=>exact (zS q).bind (f:=fun g k=>k (aDj g)) fun g hg=>.inl ⟨aDj g,fun v t k=>by obtain ⟨u,a,b,c,d⟩:=t;exact hg v d fun x=>k ⟨u,a,b,c,x⟩,fun _=>rfl⟩
theorem ah (q:QN Q8):Gd (fun g:N5 V (T8 V)→(V→Res)→Res=>∀ t k,g t k=k (N5.gt g8 t q)) (ac9 q):=by
 cases q with
 |e=>exact .inl ⟨ev9,fun t k=>by cases t;rfl,fun _=>rfl⟩
 |a q=>exact (zX q).bind (f:=fun g k=>k (aEn g)) fun g hg=>.inl ⟨aEn g,fun t k=>by cases t;exact hg _ k,fun _=>rfl⟩
 |b q=>exact (zX q).bind (f:=fun g k=>k (aDu g)) fun g hg=>.inl ⟨aDu g,fun t k=>by cases t;exact hg _ k,fun _=>rfl⟩
 |c q=>exact (zX q).bind (f:=fun g k=>k (aEj g)) fun g hg=>.inl ⟨aEj g,fun t k=>by cases t;exact hg _ k,fun _=>rfl⟩
 |d q=>exact (zX q).bind (f:=fun g k=>k (aDF g)) fun g hg=>.inl ⟨aDF g,fun t k=>by cases t;exact hg _ k,fun _=>rfl⟩
theorem zZ (q:QN Q8):Gd (fun p:Pv9=>∀ v t k,p v t k=k (N5.pt (p8 v) v q t)) (pc9 q):=by
 cases q with
 |e=>exact .inl ⟨nv9,fun v t k=>by cases t;rfl,fun _=>rfl⟩
 |a q=>exact (bn q).bind (f:=fun g k=>k (aDC g)) fun g hg=>.inl ⟨aDC g,fun v t k=>by obtain ⟨u,a,b,c,d⟩:=t;exact hg v a fun x=>k ⟨u,x,b,c,d⟩,fun _=>rfl⟩
 |b q=>exact (bn q).bind (f:=fun g k=>k (aEQ g)) fun g hg=>.inl ⟨aEQ g,fun v t k=>by obtain ⟨u,a,b,c,d⟩:=t;exact hg v b fun x=>k ⟨u,a,x,c,d⟩,fun _=>rfl⟩
 |c q=>exact (bn q).bind (f:=fun g k=>k (aE0 g)) fun g hg=>.inl ⟨aE0 g,fun v t k=>by obtain ⟨u,a,b,c,d⟩:=t;exact hg v c fun x=>k ⟨u,a,b,x,d⟩,fun _=>rfl⟩
 |d q=>exact (bn q).bind (f:=fun g k=>k (aEw g)) fun g hg=>.inl ⟨aEw g,fun v t k=>by obtain ⟨u,a,b,c,d⟩:=t;exact hg v d fun x=>k ⟨u,a,b,c,x⟩,fun _=>rfl⟩
theorem aDp (q:QN Q9):Gd (fun g:N5 V (T9 V)→(V→Res)→Res=>∀ t k,g t k=k (N5.gt g9 t q)) (bu q):=by
 cases q with
 |e=>exact .inl ⟨aHP,fun t k=>by cases t;rfl,fun _=>rfl⟩
 |a q=>exact (ah q).bind (f:=fun g k=>k (wx g)) fun g hg=>.inl ⟨wx g,fun t k=>by cases t;exact hg _ k,fun _=>rfl⟩
 |b q=>exact (ah q).bind (f:=fun g k=>k (ur g)) fun g hg=>.inl ⟨ur g,fun t k=>by cases t;exact hg _ k,fun _=>rfl⟩
 |c q=>exact (ah q).bind (f:=fun g k=>k (re g)) fun g hg=>.inl ⟨re g,fun t k=>by cases t;exact hg _ k,fun _=>rfl⟩
 |d q=>exact (ah q).bind (f:=fun g k=>k (wu g)) fun g hg=>.inl ⟨wu g,fun t k=>by cases t;exact hg _ k,fun _=>rfl⟩
theorem aC1 (q:QN Q9):Gd (fun p:aBG=>∀ v t k,p v t k=k (N5.pt (p9 v) v q t)) (aHg q):=by
 cases q with
 |e=>exact .inl ⟨aHr,fun v t k=>by cases t;rfl,fun _=>rfl⟩
 |a q=>exact (zZ q).bind (f:=fun g k=>k (uj g)) fun g hg=>.inl ⟨uj g,fun v t k=>by obtain ⟨u,a,b,c,d⟩:=t;exact hg v a fun x=>k ⟨u,x,b,c,d⟩,fun _=>rfl⟩
 |b q=>exact (zZ q).bind (f:=fun g k=>k (wm g)) fun g hg=>.inl ⟨wm g,fun v t k=>by obtain ⟨u,a,b,c,d⟩:=t;exact hg v b fun x=>k ⟨u,a,x,c,d⟩,fun _=>rfl⟩
 |c q=>exact (zZ q).bind (f:=fun g k=>k (rm g)) fun g hg=>.inl ⟨rm g,fun v t k=>by obtain ⟨u,a,b,c,d⟩:=t;exact hg v c fun x=>k ⟨u,a,b,x,d⟩,fun _=>rfl⟩
 |d q=>exact (zZ q).bind (f:=fun g k=>k (vm g)) fun g hg=>.inl ⟨vm g,fun v t k=>by obtain ⟨u,a,b,c,d⟩:=t;exact hg v d fun x=>k ⟨u,a,b,c,x⟩,fun _=>rfl⟩
theorem ad (q:Q):Gd (fun g:Xg=>XOK g (.t q)) (bu q):=aDp q
theorem bL (x:X):Gd (fun g:Xg=>XOK g x) (cX x):=by
 cases x with
 |t q=>exact (ad q).bind fun g hg=>.ret hg
 |c v=>exact .ret (aJM v)
 |bad=>exact .ret aD6
theorem qD:∀ xs:List X,Gd (fun g:Xs=>cy g xs) (cXs xs)
 |[]=>.ret aHI
 |x::xs=>(bL x).bind fun _ hg=>(qD xs).bind fun _ hr=>.ret (aGP hg hr)
theorem aEN (d:Option Q):Gd (fun p:Dt=>DOK p d) (aJb d):=by
 cases d with
 |none=>exact .ret fun _ _ _=>rfl
 |some q=>exact (show Gd (fun p:Dt=>DOK p (some q)) (aHg q) from aC1 q).bind fun p hp=>.ret hp
theorem bo (x:Option X):Gd (fun g:Og=>pe g x) (cOg x):=by
 cases x with
 |none=>exact .ret aHm
 |some x=>exact (bL x).bind fun g hg=>.ret (aH1 hg)
theorem aCw:∀ ps:List (Nat×Nat×X),Gd (fun g:Bd=>aAg g ps) (cBd ps)
 |[]=>.ret aFU
 |(off,n,x)::ps=>(bL x).bind fun _ hg=>(aCw ps).bind fun _ hr=>.ret (aFX hg hr)
theorem aBA (sz:Nat):∀ ps:List (Nat×X),Gd (fun g:Sg=>aBl g sz ps) (cSg sz ps)
 |[]=>.ret aHc
 |(i,x)::ps=>(bL x).bind fun _ hg=>(aBA sz ps).bind fun _ hr=>.ret (aFS hg hr)
theorem aFM (b:PB):Gd (fun p:Pg=>POK p b) (cP b):=by
 cases b with
 |mv x=>exact (bL x).bind fun _ h=>.ret (aH2 h)
 |pick c x y=>exact (bL c).bind fun _ h=>(bL x).bind fun _ h1=>(bL y).bind fun _ h2=>.ret (aCa h h1 h2)
 |bin op x y=>exact (bL x).bind fun _ h=>(bL y).bind fun _ h1=>.ret (aEt h h1)
 |eq neg m x y=>exact (bL x).bind fun _ h=>(bL y).bind fun _ h1=>.ret (aGo h h1)
 |not x=>exact (bL x).bind fun _ h=>.ret (aFb h)
 |neg x=>exact (bL x).bind fun _ h=>.ret (aC8 h)
 |cvi kd x=>exact (bL x).bind fun _ h=>.ret (aEX h)
 |cvs x=>exact (bL x).bind fun _ h=>.ret (aDB h)
 |cis x=>exact (bL x).bind fun _ h=>.ret (aD3 h)
 |ctu x=>exact .ret (pI _)
 |cfu ty n x=>exact .ret (pI _)
 |bld z ps=>exact (aCw ps).bind fun _ h=>.ret (aC0 h)
 |ld1 x=>exact (bL x).bind fun _ h=>.ret (aE8 h)
 |ldn n x=>exact (bL x).bind fun _ h=>.ret (aEH h)
 |nck x=>exact (bL x).bind fun _ h=>.ret (aDi h)
 |fa off x=>exact (bL x).bind fun _ h=>.ret (aHa h)
 |fd agg off n x=>exact (bL x).bind fun _ h=>.ret (aG8 h)
 |ia sz x i=>exact (bL x).bind fun _ h=>(bL i).bind fun _ h1=>.ret (aH6 h h1)
 |iaa len sz x i=>exact (bL x).bind fun _ h=>(bL i).bind fun _ h1=>.ret (aC6 h h1)
 |ixs x i=>exact (bL x).bind fun _ h=>(bL i).bind fun _ h1=>.ret (aEd h h1)
 |ixa agg len sz x i=>exact (bL x).bind fun _ h=>(bL i).bind fun _ h1=>.ret (aDN h h1)
 |slS x lo hi=>exact (bL x).bind fun _ h=>(bo lo).bind fun _ h1=>(bo hi).bind fun _ h2=>.ret (aDt h h1 h2)
 |slL sz x lo hi mx =>
  cases mx with
  |none=>exact (bL x).bind fun _ h=>(bo lo).bind fun _ h1=>(bo hi).bind fun _ h2=>.ret (aDg h h1 h2)
  |some m=>exact .ret (pI _)
 |mki t x=>exact (bL x).bind fun _ h=>.ret (aDe h)
 |mkf f fs caps=>exact (qD fs).bind fun _ h=>(qD caps).bind fun _ h1=>.ret (aDz h h1)
 |lk s ok z m key=>exact (bL m).bind fun _ h=>(bL key).bind fun _ h1=>.ret (aFR h h1)
 |lenS x=>exact (bL x).bind fun _ h=>.ret (aAs h)
 |lenL x=>exact (bL x).bind fun _ h=>.ret (aBs h)
 |lenM x=>exact (bL x).bind fun _ h=>.ret (aB1 h)
 |sd x=>exact (bL x).bind fun _ h=>.ret (aH7 h)
 |max x y=>exact (bL x).bind fun _ h=>(bL y).bind fun _ h1=>.ret (aC4 h h1)
 |ex i x=>exact (bL x).bind fun _ h=>.ret (aHk h)
 |ta ok t z x=>exact (bL x).bind fun _ h=>.ret (aGO h)
 |bad=>exact .ret (pI _)
theorem aKi (b:AB):Gd (fun a:Ag=>AOK a b) (cA b):=by
 cases b with
 |al ty n t=>exact .ret aGT
 |bx ty n x=>exact (bL x).bind fun _ h=>.ret (aHh h)
 |bsl ty sz len t ps=>exact (aBA sz ps).bind fun _ h=>.ret (aDv h)
 |mkm=>exact .ret aDU
 |mks ty sz z len cap=>exact .ret (aAe _)
theorem aJv (b:WB):Gd (fun w:Wg=>WOK w b) (cW b):=by
 cases b with
 |st n x y=>exact (bL x).bind fun _ h=>(bL y).bind fun _ h1=>.ret (aGd h h1)
 |mu s m x v=>exact (bL m).bind fun _ h=>(bL x).bind fun _ h1=>(bL v).bind fun _ h2=>.ret (aHL h h1 h2)
 |me s z m x=>exact (bL m).bind fun _ h=>(bL x).bind fun _ h1=>.ret (aGW h h1)
 |es m s v=>exact .ret (iy _)
 |ap ty sz x y=>exact (bL x).bind fun _ h=>(bL y).bind fun _ h1=>.ret (aHF h h1)
 |cp sz x y=>exact (bL x).bind fun _ h=>(bL y).bind fun _ h1=>.ret (aGm h h1)
 |sb x=>exact (bL x).bind fun _ h=>.ret (aGX h)
 |us ty x n=>exact .ret (iy _)
end Go.CM
end
noncomputable section
namespace Go.CM
def aOo (tm:T V) (d:Option Q) (v:V):T V :=
 match d with
 |some q=>tm.put V.undef v q
 |none=>tm
theorem hJ (d:Option Q) (v:V) (tm:T V) (k:T V→Res):oB d v tm k=k (aOo tm d v):=by
 cases d <;> rfl
def aFl (ih:Run) (dk:Bool) (cs:List Fr) (v:V) (h:T O) (nx:Q):Res :=
 match cs with
 |[]=>(match dk with
  |false=>.ok (fin v h)
  |true=>.bad 99)
 |c::cs'=>(match dk with
  |false=>nX ih c cs' v h nx
  |true=>(match c with
   |.mk f2 dk2 rd2 ds2 tm2 .rtn=>ih f2 dk2 rd2 ds2 tm2 .rtn cs' h nx
   |_=>.bad 100))
def rL:List (Nat×St)→Nat→Option St
 |[],_=>none
 |(i,κ)::r,id=>(match Nat.beq i id with
  |true=>some κ
  |false=>rL r id)
theorem jz (id:Nat) (kn:St):∀ env,wo env id kn=(rL env id).getD kn
 |[]=>rfl
 |(i,κ)::r=>by
  show @Bool.rec (fun _=>St→(Nat→St→St)→Nat→St→St) _ _ (Nat.beq i id) κ (wo r) id kn=_;simp only[rL];cases Nat.beq i id
  ·exact jz id kn r
  ·rfl
theorem dA (fe:Q→CF) (m:Nat) (f:Q) (dk:Bool) (rd:Option Q) (ds:List Df) (tm:T V) (k:K) (cs:List Fr) (h:T O) (nx:Q):run fe (m+1) f dk rd ds tm k cs h nx=aB fe (run fe m) f dk rd ds tm k cs h nx:=rfl
section
variable (fe:Q→CF) (r:V)
def jK (f:Q) (dk:Bool) (rd:Option Q) (cs:List Fr) (κ:St) (k:K):Prop:=∀ tm h nx ds,κ tm ⟨h,nx,ds⟩=.ok r→∃ m,run fe m f dk rd ds tm k cs h nx=.ok r
def xS (dk:Bool) (cs:List Fr) (kret:Kr):Prop:=∀ v h nx,kret v h nx=.ok r→∃ m,aFl (run fe m) dk cs v h nx=.ok r
structure lz (cl:Cl):Prop where
 plain:∀ fv args c cs h nx kret,xS fe r false (c::cs) kret→cl fv args false h nx kret=.ok r→∃ m,dD fe (run fe m) fv args (c::cs) h nx=.ok r
 dfd:∀ g args f2 dk2 rd2 ds2 tm2 cs h nx kret,xS fe r true (.mk f2 dk2 rd2 ds2 tm2 .rtn::cs) kret→cl (.fn g [] []) args true h nx kret=.ok r→∃ m,gK fe (run fe m) g args true (.mk f2 dk2 rd2 ds2 tm2 .rtn::cs) h nx=.ok r
def aJ4 (f:Q) (dk:Bool) (rd:Option Q) (cs:List Fr) (env:List (Nat×St)) (k:K):Prop :=
 ∀ id,(∃ κ k',rL env id=some κ∧jK fe r f dk rd cs κ k'∧∀ kf kn,eP id k kf kn=kf k')∨(rL env id=none∧∀ kf kn,eP id k kf kn=kn)
structure CxOK (f:Q) (dk:Bool) (rd:Option Q) (cs:List Fr) (cx:Cx) (k:K):Prop where
 hf:cx.f=f
 hrd:cx.rd=rd
 cl:lz fe r cx.cl
 env:aJ4 fe r f dk rd cs cx.env k
 kr:rd=none→jK fe r f dk rd cs cx.kr .rtn
 ky:∀ l,rd=some l→∃ c cs',cs=c::cs'∧xS fe r false (c::cs') cx.ky
 dk:dk=true→∃ f2 dk2 rd2 ds2 tm2 cs',cs=.mk f2 dk2 rd2 ds2 tm2 .rtn::cs'
def jx (c:C) (o:Op):Prop:=∀ f dk rd cs cx k κ,CxOK fe r f dk rd cs cx k→jK fe r f dk rd cs κ k→jK fe r f dk rd cs (o cx κ) (.code c k)
def LOK (l:List PS) (o:Op):Prop:=∀ f dk rd cs cx k κ,CxOK fe r f dk rd cs cx k→jK fe r f dk rd cs κ k→jK fe r f dk rd cs (o cx κ) (.reg l k)
def aEh (p:PS) (o:Op):Prop:=∀ f dk rd cs cx k κ l,CxOK fe r f dk rd cs cx k→jK fe r f dk rd cs κ (.reg l k)→jK fe r f dk rd cs (o cx κ) (.reg (p::l) k)
def wV (b:OB) (dst:Option Q) (o:Op):Prop:=∀ f dk rd cs cx k κ l g,CxOK fe r f dk rd cs cx k→jK fe r f dk rd cs κ (.reg l k) →
 ∀ tm h nx ds,o cx κ tm ⟨h,nx,ds⟩=.ok r→∃ m,opK fe (run fe m) f dk rd ds tm dst b l (.op (.mk dst g b)::l) k cs h nx=.ok r
end
variable {fe:Q→CF} {r:V} {f:Q} {dk:Bool} {rd:Option Q} {cs:List Fr} {cx:Cx} {k k':K} {κ:St} {env:List (Nat×St)} {l:Q} {c:Fr}
theorem CxOK.to (C:CxOK fe r f dk rd cs cx k) (h:∀ id kf kn,eP id k' kf kn=eP id k kf kn):CxOK fe r f dk rd cs cx k' :=
 ⟨C.hf,C.hrd,C.cl,fun id=>by
  rcases C.env id with ⟨κ,k1,h1,h2,h3⟩|⟨h1,h2⟩
  ·exact .inl ⟨κ,k1,h1,h2,fun kf kn=>(h id kf kn).trans (h3 kf kn)⟩
  ·exact .inr ⟨h1,fun kf kn=>(h id kf kn).trans (h2 kf kn)⟩,C.kr,C.ky,C.dk⟩
theorem z9 {j:Jump} {st:Nat} {b:Bool} {ky:Kr} {h:T O} {nx:Q} {ds:List Df} (hst:st=match b with|true=>0|false=>2) (hk:xS fe r false (c::cs) ky) (e:zp l j st b ky ⟨h,nx,ds⟩=.ok r):∃ m,iu (run fe m) l j b (c::cs) h nx=.ok r:=by
 have e':goT l h (fun ob=>nF ob fun _ _ fn tm params asg body dfs=>doT l (.loop (.mk st j fn tm params asg body dfs)) h fun h'=>ky (.bool b) h' nx)=.ok r:=e;simp only[fL,bS,mF,gR,cK] at e';obtain ⟨st',pend,fn,tm,ps,asg,body,dfs,ho,e1⟩:=fF e';obtain ⟨m,hm⟩:=hk _ _ _ e1;refine ⟨m,?_⟩;simp only[iu,bS,ho,lG,cK];subst hst;exact hm
theorem nb (C:CxOK fe r f dk rd cs cx k) (id:Nat):jK fe r f dk rd cs (aBt cx id) (.code (.exit id) k):=by
 intro tm h nx ds e;obtain ⟨cl,f',rd',env,kr,ky⟩:=cx;have hrd:=C.hrd;simp only at hrd;subst hrd;have e':wo env id (@Option.rec Q (fun _=>Nat→Kr→St) aJZ aFd rd' id ky) tm ⟨h,nx,ds⟩=.ok r:=e;rw[jz] at e';rcases C.env id with ⟨κ,k1,h1,h2,h3⟩|⟨h1,h2⟩
 ·simp only at h1
  rw[h1] at e';obtain ⟨m,hm⟩:=h2 tm h nx ds e';refine ⟨m+1,?_⟩;show eP id k _ _=.ok r;rw[h3];exact hm
 ·simp only at h1
  rw[h1] at e';cases rd' with
  |none=>cases e'
  |some l =>
   obtain ⟨c,cs',rfl,hk⟩:=C.ky l rfl;obtain ⟨m,hm⟩:=z9 (st:=2) (b:=false) (ds:=ds) rfl hk e';refine ⟨m+1,?_⟩;show eP id k _ _=.ok r;rw[h2];exact hm
theorem th (C:CxOK fe r f dk rd cs cx k):jK fe r f dk rd cs (aGx cx) (.code .ret k):=by
 intro tm h nx ds e;obtain ⟨cl,f',rd',env,kr,ky⟩:=cx;have hrd:=C.hrd;simp only at hrd;subst hrd;cases rd' with
 |none =>
  obtain ⟨m,hm⟩:=C.kr rfl tm h nx ds e;exact ⟨m+1,hm⟩
 |some l =>
  obtain ⟨c,cs',rfl,hk⟩:=C.ky l rfl;obtain ⟨m,hm⟩:=z9 (st:=2) (b:=false) (ds:=ds) rfl hk e;exact ⟨m+1,hm⟩
section
variable {dst:Option Q}
theorem aGM {b:PB} {p:Pg} {d:Dt} (hp:POK p b) (hd:DOK d dst):wV fe r (.p b) dst (opP p d):=by
 intro f dk rd cs cx k κ l g C hκ tm h nx ds e;have e':p tm h (fun v=>d v tm fun tm'=>κ tm' ⟨h,nx,ds⟩)=.ok r:=e;rw[hp] at e';obtain ⟨v,h1,h2⟩:=pN e';rw[hd,hJ] at h2;obtain ⟨m,hm⟩:=hκ _ _ _ _ h2;refine ⟨m,?_⟩;simp only[opK];rw[qu,h1];simp only[bB,hJ];exact hm
theorem aGh {b:AB} {a:Ag} {d:Dt} (ha:AOK a b) (hd:DOK d dst):wV fe r (.a b) dst (opA a d):=by
 intro f dk rd cs cx k κ l g C hκ tm h nx ds e;have e':a tm (fun ob mk=>doT nx ob h fun h'=>d (mk nx) tm fun tm'=>sqT nx fun nx'=>κ tm' ⟨h',nx',ds⟩)=.ok r:=e;rw[ha] at e';obtain ⟨ob,mk,h1,h2⟩:=js e';simp only[gR,cK,hd _ _ _,hJ,qI,dO] at h2;obtain ⟨m,hm⟩:=hκ _ _ _ _ h2;refine ⟨m,?_⟩;simp only[opK];rw[h1];simp only[cK,hJ,dO];exact hm
theorem aF4 {b:WB} {w:Wg} {d:Dt} (hw:WOK w b) (hd:DOK d dst):wV fe r (.w b) dst (opW w d):=by
 intro f dk rd cs cx k κ l g C hκ tm h nx ds e;have e':w tm h nx (fun v h' nx'=>d v tm fun tm'=>κ tm' ⟨h',nx',ds⟩)=.ok r:=e;rw[hw] at e';obtain ⟨v,h',nx',h1,h2⟩:=aBg e';rw[hd,hJ] at h1;obtain ⟨m,hm⟩:=hκ _ _ _ _ h1;refine ⟨m,?_⟩;simp only[opK,h2,hJ];exact hm
theorem wa {d:Dt} {ob:OB} {g:Option (Q×Bool)} {l:List PS} {tm:T V} {ds:List Df} (hd:DOK d dst) (hκ:jK fe r f dk rd cs κ (.reg l k)) :
  xS fe r false (.mk f dk rd ds tm (.reg (.op (.mk dst g ob)::l) k)::cs) fun v h' nx'=>d v tm fun tm'=>κ tm' ⟨h',nx',ds⟩:=by
 intro v h nx e;have e:d v tm (fun tm'=>κ tm' ⟨h,nx,ds⟩)=.ok r:=e;rw[hd,hJ] at e;obtain ⟨m,hm⟩:=hκ _ _ _ _ e;refine ⟨m,?_⟩;simp only[aFl,nX,hJ];exact hm
theorem bc (cx:Cx):rY cx=cx.cl:=by cases cx;rfl
theorem xp {x:X} {xs:List X} {g:Xg} {gs:Xs} {d:Dt} (hx:XOK g x) (hxs:cy gs xs) (hd:DOK d dst):wV fe r (.call x xs) dst (aCS g gs d):=by
 intro f dk rd cs cx k κ l gg C hκ tm h nx ds e;have e':g tm (fun fv=>gs tm fun vs=>rY cx fv vs false h nx fun v h' nx'=>d v tm fun tm'=>κ tm' ⟨h',nx',ds⟩)=.ok r:=e;rw[hx] at e';obtain ⟨fv,h1,h2⟩:=jB e';rw[hxs] at h1;obtain ⟨vs,h3,h4⟩:=rC h1;rw[bc] at h3;obtain ⟨m,hm⟩:=C.cl.plain _ _ (.mk f dk rd ds tm (.reg (.op (.mk dst gg (.call x xs))::l) k)) cs _ _ _ (wa hd hκ) h3;refine ⟨m,?_⟩;simp only[opK,h2,h4];exact hm
theorem fx (t:Nat) (k:Q→Res):∀ ms,vc ms t k=oL t ms k
 |[]=>rfl
 |(u,f)::ms=>by
  show ifF (Nat.beq u t) (k f) (vc ms t k)=_;rw[kO,fx t k ms];simp only[oL];cases Nat.beq u t <;> rfl
theorem mf (t:Nat):∀ ms,Tot (oL t ms)
 |[]=>.bad _
 |(u,f)::ms=>by
  simp only[show oL t ((u,f)::ms)=fun k=>(match Nat.beq u t with|true=>k f|false=>oL t ms k) from rfl];cases Nat.beq u t
  ·exact mf t ms
  ·exact .ret f
theorem aEk {v:V} {kk:Nat→V→Res} (e:aGN v kk=.ok r):∃ t u,v=.ifc t u∧kk t u=.ok r:=by
 cases v <;> first|(cases e;done)|exact ⟨_,_,rfl,e⟩
theorem aBY {ms:List (Nat×Q)} {x:X} {xs:List X} {g:Xg} {gs:Xs} {d:Dt} (hx:XOK g x) (hxs:cy gs xs) (hd:DOK d dst):wV fe r (.inv ms x xs) dst (aFt ms g gs d):=by
 intro f dk rd cs cx k κ l gg C hκ tm h nx ds e;have e':g tm (fun v=>gs tm fun vs=>aGN v fun t u=>vc ms t fun f=>rY cx (.fn f [] []) (u::vs) false h nx fun v h' nx'=>d v tm fun tm'=>κ tm' ⟨h',nx',ds⟩)=.ok r:=e;rw[hx] at e';obtain ⟨v,h1,h2⟩:=jB e';rw[hxs] at h1;obtain ⟨vs,h3,h4⟩:=rC h1;obtain ⟨t,u,rfl,h5⟩:=aEk h3;rw[fx] at h5;rcases mf t ms with ⟨q,h6⟩|⟨n,h6⟩
 ·rw[h6,bc] at h5
  obtain ⟨m,hm⟩:=C.cl.plain _ _ (.mk f dk rd ds tm (.reg (.op (.mk dst gg (.inv ms x xs))::l) k)) cs _ _ _ (wa hd hκ) h5;refine ⟨m,?_⟩;simp only[opK,h2,h4,aHq,h6];exact hm
 ·rw[h6] at h5;cases h5
theorem aAz {x:X} {xs:List X} {g:Xg} {gs:Xs} {d:Dt} (hx:XOK g x) (hxs:cy gs xs) (hd:DOK d dst):wV fe r (.dfr x xs) dst (aB6 g gs d):=by
 intro f dk rd cs cx k κ l gg C hκ tm h nx ds e;simp only[aB6,C.hrd] at e;cases rd with
 |some l=>cases e
 |none =>
  simp only at e;rw[hx] at e;obtain ⟨fv,h1,h2⟩:=jB e;rw[hxs] at h1;obtain ⟨vs,h3,h4⟩:=rC h1
  split at h3
  ·rename_i q fs caps
   simp only[eX,hd _ _ _,hJ] at h3;obtain ⟨m,hm⟩:=hκ _ _ _ _ h3;refine ⟨m,?_⟩;simp only[opK,h2,h4,eX,hJ];exact hm
  ·cases h3
theorem aBF {s:KK} {x y:X} {g g':Xg} {d:Dt} (hx:XOK g x) (hy:XOK g' y) (hd:DOK d dst):wV fe r (.dfd s x y) dst (aA0 s g g' d):=by
 intro f dk rd cs cx k κ l gg C hκ tm h nx ds e;simp only[aA0,C.hrd] at e;cases rd with
 |some l=>cases e
 |none =>
  simp only at e;rw[hx] at e;obtain ⟨mv,h1,h2⟩:=jB e;rw[hy] at h1;obtain ⟨kv,h3,h4⟩:=jB h1;simp only[hd _ _ _,hJ] at h3;obtain ⟨m,hm⟩:=hκ _ _ _ _ h3;refine ⟨m,?_⟩;simp only[opK,h2,h4,hJ];exact hm
theorem aBe {d:Dt} (hd:DOK d dst):wV fe r .rcv dst (aCk d):=by
 intro f dk rd cs cx k κ l gg C hκ tm h nx ds e;simp only[aCk,C.hrd] at e;cases rd with
 |some l=>cases e
 |none =>
  simp only[hd _ _ _,hJ] at e;obtain ⟨m,hm⟩:=hκ _ _ _ _ e;refine ⟨m,?_⟩;simp only[opK,aCQ,hJ];cases dk with
  |false=>exact hm
  |true =>
   obtain ⟨f2,dk2,rd2,ds2,tm2,cs',rfl⟩:=C.dk rfl;exact hm
theorem aGf {d:Dt} (hd:DOK d dst) (b:OB):Gd (fun o:Op=>wV fe r b dst o) (cOB b d):=by
 cases b with
 |p b=>exact (aFM b).bind fun _ h=>.ret (aGM h hd)
 |a b=>exact (aKi b).bind fun _ h=>.ret (aGh h hd)
 |w b=>exact (aJv b).bind fun _ h=>.ret (aF4 h hd)
 |call x xs=>exact (bL x).bind fun _ h=>(qD xs).bind fun _ h1=>.ret (xp h h1 hd)
 |inv ms x xs=>exact (bL x).bind fun _ h=>(qD xs).bind fun _ h1=>.ret (aBY h h1 hd)
 |dfr x xs=>exact (bL x).bind fun _ h=>(qD xs).bind fun _ h1=>.ret (aAz h h1 hd)
 |dfd s x y=>exact (bL x).bind fun _ h=>(bL y).bind fun _ h1=>.ret (aBF h h1 hd)
 |rcv=>exact .ret (aBe hd)
end
theorem aIZ {dst:Option Q} {b:OB} {o:Op} (h:wV fe r b dst o):aEh fe r (.op (.mk dst none b)) o:=by
 intro f dk rd cs cx k κ l C hκ tm h' nx ds e;obtain ⟨m,hm⟩:=h f dk rd cs cx k κ l none C hκ tm h' nx ds e;exact ⟨m+1,hm⟩
theorem x6 {v:V} {w:Bool} {go skip:St} {tm:T V} {s:S} (e:u3 v w go skip tm s=.ok r) :
  (∃ t,v=.bool t∧(t==w)=true∧go tm s=.ok r)∨(((∃ t,v=.bool t∧(t==w)=false)∨v=.tup [])∧skip tm s=.ok r):=by
 cases v <;> try (cases e;done)
 ·rename_i t
  have e':wz t w go skip tm s=.ok r:=e
  cases t <;> cases w <;> first
   |exact .inl ⟨_,rfl,rfl,e'⟩
   |exact .inr ⟨.inl ⟨_,rfl,rfl⟩,e'⟩
 ·rename_i vs
  cases vs
  ·exact .inr ⟨.inr rfl,e⟩
  ·cases e
theorem aF7 {dst:Option Q} {q:Q} {w:Bool} {b:OB} {g:Xg} {o:Op} {d:Dt} (hg:XOK g (.t q)) (h:wV fe r b dst o) (hd:DOK d dst):aEh fe r (.op (.mk dst (some (q,w)) b)) (opG g w o d):=by
 intro f dk rd cs cx k κ l C hκ tm h' nx ds e;have e':g tm (fun v=>u3 v w (o cx κ) (fun tm s=>d V.undef tm fun tm'=>κ tm' s) tm ⟨h',nx,ds⟩)=.ok r:=e;rw[hg] at e';simp only[xK,dL] at e';rcases x6 e' with ⟨t,hv,ht,e1⟩|⟨hv,e1⟩
 ·obtain ⟨m,hm⟩:=h f dk rd cs cx k κ l (some (q,w)) C hκ tm h' nx ds e1
  refine ⟨m+1,?_⟩;show j8 fe (run fe m) f dk rd ds tm (.op (.mk dst (some (q,w)) b)::l) k cs h' nx=.ok r;simp only[j8,dL,hv,ht];exact hm
 ·simp only[hd _ _ _,hJ] at e1
  obtain ⟨m,hm⟩:=hκ _ _ _ _ e1;refine ⟨m+1,?_⟩;show j8 fe (run fe m) f dk rd ds tm (.op (.mk dst (some (q,w)) b)::l) k cs h' nx=.ok r;rcases hv with ⟨t,hv,ht⟩|hv
  ·simp only[j8,dL,hv,ht,hJ];exact hm
  ·simp only[j8,dL,hv,hJ];exact hm
theorem aH5 (o:CO):Gd (fun g:Op=>aEh fe r (.op o) g) (cCO o):=by
 obtain ⟨dst,g,b⟩:=o;refine (aEN dst).bind fun d hd=>(aGf (fe:=fe) (r:=r) hd b).bind fun o ho=>?_
 cases g with
 |none=>exact .ret (aIZ ho)
 |some qw=>exact (ad qw.1).bind (f:=fun g k=>k (opG g qw.2 o d)) fun g hg=>.ret (aF7 hg ho hd)
theorem vp {p:PB} {q:Q} {l:List PS} {tm:T V} {h:T O} {nx:Q} {ds:List Df} {pg:Pg} {rg:Xg} (hp:POK pg p) (hr:XOK rg (.t q)) (hκ:jK fe r f dk rd cs κ (.reg l k)) (e:oZ pg rg cx κ tm ⟨h,nx,ds⟩=.ok r) :
  ∃ m,pK p tm h (fun v=>gV q tm fun u=>gd (eqV v u) 93 (run fe m f dk rd ds tm (.reg l k) cs h nx))=.ok r:=by
 have e':pg tm h (fun v=>rg tm fun u=>gdF (eqV v u) 93 (κ tm ⟨h,nx,ds⟩))=.ok r:=e;rw[hp] at e';obtain ⟨v,h1,h2⟩:=pN e';rw[hr] at h2;simp only[xK,dL,cI] at h2;obtain ⟨h3,h4⟩:=bR h2;obtain ⟨m,hm⟩:=hκ _ _ _ _ h4;refine ⟨m,?_⟩;rw[qu,h1];simp only[bB,dL,h3,gd];exact hm
theorem aHe (p:PS):Gd (fun g:Op=>aEh fe r p g) (cPS p):=by
 cases p with
 |op o=>exact aH5 o
 |chk g p q =>
  refine (aFM p).bind (f:=fun pg k=>bu q fun r=>@Option.rec (Q×Bool) (fun _=>D) (k (oZ pg r)) (fun qw=>@Prod.rec Q Bool (fun _=>D) (fun q w=>bu q fun g=>k (aa g w (oZ pg r))) qw) g) fun pg hp=>(ad q).bind (f:=fun r k=>@Option.rec (Q×Bool) (fun _=>D) (k (oZ pg r)) (fun qw=>@Prod.rec Q Bool (fun _=>D) (fun q w=>bu q fun g=>k (aa g w (oZ pg r))) qw) g) fun rg hr=>?_
  cases g with
  |none =>
   refine .ret ?_;intro f dk rd cs cx k κ l C hκ tm h nx ds e;obtain ⟨m,hm⟩:=vp hp hr hκ e;exact ⟨m+1,hm⟩
  |some qw =>
   refine (ad qw.1).bind (f:=fun g k=>k (aa g qw.2 (oZ pg rg))) fun g hg=>.ret ?_
   intro f dk rd cs cx k κ l C hκ tm h nx ds e;have e':g tm (fun v=>u3 v qw.2 (oZ pg rg cx κ) κ tm ⟨h,nx,ds⟩)=.ok r:=e;rw[hg] at e';simp only[xK,dL] at e';rcases x6 e' with ⟨t,hv,ht,e1⟩|⟨hv,e1⟩
   ·obtain ⟨m,hm⟩:=vp hp hr hκ e1
    refine ⟨m+1,?_⟩;show j8 fe (run fe m) f dk rd ds tm (.chk (some qw) p q::l) k cs h nx=.ok r;simp only[j8,dL,hv,ht];simp only[dL] at hm;exact hm
   ·obtain ⟨m,hm⟩:=hκ _ _ _ _ e1
    refine ⟨m+1,?_⟩;show j8 fe (run fe m) f dk rd ds tm (.chk (some qw) p q::l) k cs h nx=.ok r;rcases hv with ⟨t,hv,ht⟩|hv
    ·simp only[j8,dL,hv,ht];exact hm
    ·simp only[j8,dL,hv];exact hm
theorem aFi:∀ l:List PS,Gd (fun g:Op=>LOK fe r l g) (cL l)
 |[]=>.ret fun f dk rd cs cx k κ C hκ tm h nx ds e=>by
  obtain ⟨m,hm⟩:=hκ _ _ _ _ e;exact ⟨m+1,hm⟩
 |p::l=>(aHe p).bind fun o ho=>(aFi l).bind fun o' ho'=>.ret fun f dk rd cs cx k κ C hκ=>ho f dk rd cs cx k (o' cx κ) l C (ho' f dk rd cs cx k κ C hκ)
end Go.CM
end
