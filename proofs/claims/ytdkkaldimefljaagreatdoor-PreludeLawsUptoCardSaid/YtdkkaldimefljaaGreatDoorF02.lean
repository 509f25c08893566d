import Derived.Test.YtdkkaldimefljaaGreatDoorF01
import Derived.Test.YtdkkaldimefljaaGreatDoorC06
set_option linter.all false
noncomputable section
namespace Go.CM
section
def Gd{β:Type}(Φ:β->Prop)(c:(β->D)->D):Prop:=(∃g,Φ g/\∀k,c k=k g)\/∀k,c k=⟨nV⟩
theorem Gd.ret{β:Type}{Φ:β->Prop}{g:β}(h:Φ g):Gd Φ (λk=>k g):=.inl ⟨g,h,λ_=>rfl⟩
theorem Gd.bind{β γ:Type}{Φ:β->Prop}{Z:γ->Prop}{c:(β->D)->D}{f:β->(γ->D)->D}(h:Gd Φ c)(hf:∀g,Φ g->Gd Z (f g)):Gd Z (λk=>c λg=>f g k):=by
 rcases h with⟨g,hg,h⟩|h
 ·rw[show(λk=>c λg=>f g k)=f g from funext λk=>h _];exact hf g hg
 ·exact .inr λk=>h _
theorem fu(q:QN Q5):Gd (λg:N5 V (T5 V)->(V->AA)->AA=>∀t k,g t k=k (N5.gt g5 t q)) (RM q):=by
 cases q with
 |e=>exact .inl ⟨Wj,λt k=>by cases t;rfl,λ_=>rfl⟩
 |a q=>exact .inr λ_=>rfl
 |b q=>exact .inr λ_=>rfl
 |c q=>exact .inr λ_=>rfl
 |d q=>exact .inr λ_=>rfl
theorem ng(q:QN Q5):Gd (λp:Iw=>∀v t k,p v t k=k (N5.pt (p5 v) v q t)) (Oq q):=by
 cases q with
 |e=>exact .inl ⟨VB,λv t k=>by cases t;rfl,λ_=>rfl⟩
 |a q=>exact .inr λ_=>rfl
 |b q=>exact .inr λ_=>rfl
 |c q=>exact .inr λ_=>rfl
 |d q=>exact .inr λ_=>rfl
theorem fw(q:QN Q6):Gd (λg:N5 V (T6 V)->(V->AA)->AA=>∀t k,g t k=k (N5.gt g6 t q)) (RL q):=by
 cases q with
 |e=>exact .inl ⟨Wi,λt k=>by cases t;rfl,λ_=>rfl⟩
 |a q=>exact(fu q).bind (f:=λg k=>k (Tb g)) λg hg=>.inl ⟨Tb g,λt k=>by cases t;exact hg _ k,λ_=>rfl⟩
 |b q=>exact(fu q).bind (f:=λg k=>k (Ta g)) λg hg=>.inl ⟨Ta g,λt k=>by cases t;exact hg _ k,λ_=>rfl⟩
 |c q=>exact(fu q).bind (f:=λg k=>k (TF g)) λg hg=>.inl ⟨TF g,λt k=>by cases t;exact hg _ k,λ_=>rfl⟩
 |d q=>exact(fu q).bind (f:=λg k=>k (TE g)) λg hg=>.inl ⟨TE g,λt k=>by cases t;exact hg _ k,λ_=>rfl⟩
theorem nh(q:QN Q6):Gd (λp:Iv=>∀v t k,p v t k=k (N5.pt (p6 v) v q t)) (Oo q):=by
 cases q with
 |e=>exact .inl ⟨VA,λv t k=>by cases t;rfl,λ_=>rfl⟩
 |a q=>exact(ng q).bind (f:=λg k=>k (TV g)) λg hg=>.inl ⟨TV g,λv t k=>by obtain⟨u,a,b,c,d⟩:=t;exact hg v a λx=>k ⟨u,x,b,c,d⟩,λ_=>rfl⟩
 |b q=>exact(ng q).bind (f:=λg k=>k (TU g)) λg hg=>.inl ⟨TU g,λv t k=>by obtain⟨u,a,b,c,d⟩:=t;exact hg v b λx=>k ⟨u,a,x,c,d⟩,λ_=>rfl⟩
 |c q=>exact(ng q).bind (f:=λg k=>k (TT g)) λg hg=>.inl ⟨TT g,λv t k=>by obtain⟨u,a,b,c,d⟩:=t;exact hg v c λx=>k ⟨u,a,b,x,d⟩,λ_=>rfl⟩
 |d q=>exact(ng q).bind (f:=λg k=>k (TS g)) λg hg=>.inl ⟨TS g,λv t k=>by obtain⟨u,a,b,c,d⟩:=t;exact hg v d λx=>k ⟨u,a,b,c,x⟩,λ_=>rfl⟩
theorem fx(q:QN Q7):Gd (λg:N5 V (T7 V)->(V->AA)->AA=>∀t k,g t k=k (N5.gt g7 t q)) (RJ q):=by
 cases q with
 |e=>exact .inl ⟨Wh,λt k=>by cases t;rfl,λ_=>rfl⟩
 |a q=>exact(fw q).bind (f:=λg k=>k (TD g)) λg hg=>.inl ⟨TD g,λt k=>by cases t;exact hg _ k,λ_=>rfl⟩
 |b q=>exact(fw q).bind (f:=λg k=>k (TC g)) λg hg=>.inl ⟨TC g,λt k=>by cases t;exact hg _ k,λ_=>rfl⟩
 |c q=>exact(fw q).bind (f:=λg k=>k (TB g)) λg hg=>.inl ⟨TB g,λt k=>by cases t;exact hg _ k,λ_=>rfl⟩
 |d q=>exact(fw q).bind (f:=λg k=>k (TA g)) λg hg=>.inl ⟨TA g,λt k=>by cases t;exact hg _ k,λ_=>rfl⟩
theorem ni(q:QN Q7):Gd (λp:Iu=>∀v t k,p v t k=k (N5.pt (p7 v) v q t)) (On q):=by
 cases q with
 |e=>exact .inl ⟨Uz,λv t k=>by cases t;rfl,λ_=>rfl⟩
 |a q=>exact(nh q).bind (f:=λg k=>k (TP g)) λg hg=>.inl ⟨TP g,λv t k=>by obtain⟨u,a,b,c,d⟩:=t;exact hg v a λx=>k ⟨u,x,b,c,d⟩,λ_=>rfl⟩
 |b q=>exact(nh q).bind (f:=λg k=>k (TO g)) λg hg=>.inl ⟨TO g,λv t k=>by obtain⟨u,a,b,c,d⟩:=t;exact hg v b λx=>k ⟨u,a,x,c,d⟩,λ_=>rfl⟩
 |c q=>exact(nh q).bind (f:=λg k=>k (TN g)) λg hg=>.inl ⟨TN g,λv t k=>by obtain⟨u,a,b,c,d⟩:=t;exact hg v c λx=>k ⟨u,a,b,x,d⟩,λ_=>rfl⟩
 |d q=>exact(nh q).bind (f:=λg k=>k (TM g)) λg hg=>.inl ⟨TM g,λv t k=>by obtain⟨u,a,b,c,d⟩:=t;exact hg v d λx=>k ⟨u,a,b,c,x⟩,λ_=>rfl⟩
theorem fy(q:QN Q8):Gd (λg:N5 V (T8 V)->(V->AA)->AA=>∀t k,g t k=k (N5.gt g8 t q)) (RI q):=by
 cases q with
 |e=>exact .inl ⟨Wf,λt k=>by cases t;rfl,λ_=>rfl⟩
 |a q=>exact(fx q).bind (f:=λg k=>k (Sz g)) λg hg=>.inl ⟨Sz g,λt k=>by cases t;exact hg _ k,λ_=>rfl⟩
 |b q=>exact(fx q).bind (f:=λg k=>k (Sy g)) λg hg=>.inl ⟨Sy g,λt k=>by cases t;exact hg _ k,λ_=>rfl⟩
 |c q=>exact(fx q).bind (f:=λg k=>k (Sx g)) λg hg=>.inl ⟨Sx g,λt k=>by cases t;exact hg _ k,λ_=>rfl⟩
 |d q=>exact(fx q).bind (f:=λg k=>k (Sw g)) λg hg=>.inl ⟨Sw g,λt k=>by cases t;exact hg _ k,λ_=>rfl⟩
theorem nj(q:QN Q8):Gd (λp:It=>∀v t k,p v t k=k (N5.pt (p8 v) v q t)) (Om q):=by
 cases q with
 |e=>exact .inl ⟨Uy,λv t k=>by cases t;rfl,λ_=>rfl⟩
 |a q=>exact(ni q).bind (f:=λg k=>k (TK g)) λg hg=>.inl ⟨TK g,λv t k=>by obtain⟨u,a,b,c,d⟩:=t;exact hg v a λx=>k ⟨u,x,b,c,d⟩,λ_=>rfl⟩
 |b q=>exact(ni q).bind (f:=λg k=>k (TJ g)) λg hg=>.inl ⟨TJ g,λv t k=>by obtain⟨u,a,b,c,d⟩:=t;exact hg v b λx=>k ⟨u,a,x,c,d⟩,λ_=>rfl⟩
 |c q=>exact(ni q).bind (f:=λg k=>k (TI g)) λg hg=>.inl ⟨TI g,λv t k=>by obtain⟨u,a,b,c,d⟩:=t;exact hg v c λx=>k ⟨u,a,b,x,d⟩,λ_=>rfl⟩
 |d q=>exact(ni q).bind (f:=λg k=>k (Td g)) λg hg=>.inl ⟨Td g,λv t k=>by obtain⟨u,a,b,c,d⟩:=t;exact hg v d λx=>k ⟨u,a,b,c,x⟩,λ_=>rfl⟩
theorem aGP(q:QN Q9):Gd (λg:N5 V (T9 V)->(V->AA)->AA=>∀t k,g t k=k (N5.gt g9 t q)) (ft q):=by
 cases q with
 |e=>exact .inl ⟨XZ,λt k=>by cases t;rfl,λ_=>rfl⟩
 |a q=>exact(fy q).bind (f:=λg k=>k (UJ g)) λg hg=>.inl ⟨UJ g,λt k=>by cases t;exact hg _ k,λ_=>rfl⟩
 |b q=>exact(fy q).bind (f:=λg k=>k (UI g)) λg hg=>.inl ⟨UI g,λt k=>by cases t;exact hg _ k,λ_=>rfl⟩
 |c q=>exact(fy q).bind (f:=λg k=>k (UH g)) λg hg=>.inl ⟨UH g,λt k=>by cases t;exact hg _ k,λ_=>rfl⟩
 |d q=>exact(fy q).bind (f:=λg k=>k (UG g)) λg hg=>.inl ⟨UG g,λt k=>by cases t;exact hg _ k,λ_=>rfl⟩
theorem aIA(q:QN Q9):Gd (λp:Ro=>∀v t k,p v t k=k (N5.pt (p9 v) v q t)) (XQ q):=by
 cases q with
 |e=>exact .inl ⟨X1,λv t k=>by cases t;rfl,λ_=>rfl⟩
 |a q=>exact(nj q).bind (f:=λg k=>k (UD g)) λg hg=>.inl ⟨UD g,λv t k=>by obtain⟨u,a,b,c,d⟩:=t;exact hg v a λx=>k ⟨u,x,b,c,d⟩,λ_=>rfl⟩
 |b q=>exact(nj q).bind (f:=λg k=>k (UC g)) λg hg=>.inl ⟨UC g,λv t k=>by obtain⟨u,a,b,c,d⟩:=t;exact hg v b λx=>k ⟨u,a,x,c,d⟩,λ_=>rfl⟩
 |c q=>exact(nj q).bind (f:=λg k=>k (UB g)) λg hg=>.inl ⟨UB g,λv t k=>by obtain⟨u,a,b,c,d⟩:=t;exact hg v c λx=>k ⟨u,a,b,x,d⟩,λ_=>rfl⟩
 |d q=>exact(nj q).bind (f:=λg k=>k (UA g)) λg hg=>.inl ⟨UA g,λv t k=>by obtain⟨u,a,b,c,d⟩:=t;exact hg v d λx=>k ⟨u,a,b,c,x⟩,λ_=>rfl⟩
theorem ga(q:Q):Gd (λg:Xg=>BS g (.t q)) (ft q):=aGP q
theorem bP(x:X):Gd (λg:Xg=>BS g x) (cX x):=by
 cases x with
 |t q=>exact(ga q).bind λg hg=>.ret hg
 |c v=>exact .ret (aPY v)
 |bad=>exact .ret aI7
theorem sY:∀xs:List X,Gd (λg:Xs=>fq g xs) (OM xs)
 |[]=>.ret aNf
 |x::xs=>(bP x).bind λ_ hg=>(sY xs).bind λ_ hr=>.ret (aNe hg hr)
theorem aHd(d:Option Q):Gd (λp:Dt=>Ix p d) (aOp d):=by
 cases d with
 |none=>exact .ret λ_ _ _=>rfl
 |some q=>exact(show Gd (λp:Dt=>Ix p (some q)) (XQ q) from aIA q).bind λp hp=>.ret hp
theorem gr(x:Option X):Gd (λg:Og=>xd g x) (RF x):=by
 cases x with
 |none=>exact .ret aLY
 |some x=>exact(bP x).bind λg hg=>.ret (aLZ hg)
theorem aD1:∀ps:List (Nat×Nat×X),Gd (λg:Bd=>Rq g ps) (cBd ps)
 |[]=>.ret aK1
 |(off,n,x)::ps=>(bP x).bind λ_ hg=>(aD1 ps).bind λ_ hr=>.ret (aK0 hg hr)
theorem aD2(sz:Nat):∀ps:List (Nat×X),Gd (λg:Sg=>Rn g sz ps) (cSg sz ps)
 |[]=>.ret aML
 |(i,x)::ps=>(bP x).bind λ_ hg=>(aD2 sz ps).bind λ_ hr=>.ret (aMK hg hr)
theorem aJG(b:PB):Gd (λp:Pg=>DP p b) (cP b):=by
 cases b with
 |mv x=>exact(bP x).bind λ_ h=>.ret (aMq h)
 |pick c x y=>exact(bP c).bind λ_ h=>(bP x).bind λ_ h1=>(bP y).bind λ_ h2=>.ret (aFI h h1 h2)
 |bin op x y=>exact(bP x).bind λ_ h=>(bP y).bind λ_ h1=>.ret (aIf h h1)
 |eq neg m x y=>exact(bP x).bind λ_ h=>(bP y).bind λ_ h1=>.ret (aMc h h1)
 |not x=>exact(bP x).bind λ_ h=>.ret (aIw h)
 |neg x=>exact(bP x).bind λ_ h=>.ret (aIv h)
 |cvi kd x=>exact(bP x).bind λ_ h=>.ret (aIi h)
 |cvs x=>exact(bP x).bind λ_ h=>.ret (aIj h)
 |cis x=>exact(bP x).bind λ_ h=>.ret (aIh h)
 |ctu x=>exact .ret (sC _)
 |cfu ty n x=>exact .ret (sC _)
 |bld z ps=>exact(aD1 ps).bind λ_ h=>.ret (aIg h)
 |ld1 x=>exact(bP x).bind λ_ h=>.ret (aIp h)
 |ldn n x=>exact(bP x).bind λ_ h=>.ret (aIq h)
 |nck x=>exact(bP x).bind λ_ h=>.ret (aIu h)
 |fa off x=>exact(bP x).bind λ_ h=>.ret (aMe h)
 |fd agg off n x=>exact(bP x).bind λ_ h=>.ret (aMf h)
 |ia sz x i=>exact(bP x).bind λ_ h=>(bP i).bind λ_ h1=>.ret (aMg h h1)
 |iaa len sz x i=>exact(bP x).bind λ_ h=>(bP i).bind λ_ h1=>.ret (aIm h h1)
 |ixs x i=>exact(bP x).bind λ_ h=>(bP i).bind λ_ h1=>.ret (aIo h h1)
 |ixa agg len sz x i=>exact(bP x).bind λ_ h=>(bP i).bind λ_ h1=>.ret (aIn h h1)
 |slS x lo hi=>exact(bP x).bind λ_ h=>(gr lo).bind λ_ h1=>(gr hi).bind λ_ h2=>.ret (aIy h h1 h2)
 |slL sz x lo hi mx =>
  cases mx with
  |none=>exact(bP x).bind λ_ h=>(gr lo).bind λ_ h1=>(gr hi).bind λ_ h2=>.ret (aIx h h1 h2)
  |some m=>exact .ret (sC _)
 |mki t x=>exact(bP x).bind λ_ h=>.ret (aIt h)
 |mkf f fs caps=>exact(sY fs).bind λ_ h=>(sY caps).bind λ_ h1=>.ret (aIs h h1)
 |lk s ok z m key=>exact(bP m).bind λ_ h=>(bP key).bind λ_ h1=>.ret (aMm h h1)
 |lenS x=>exact(bP x).bind λ_ h=>.ret (aFF h)
 |lenL x=>exact(bP x).bind λ_ h=>.ret (aFB h)
 |lenM x=>exact(bP x).bind λ_ h=>.ret (aFD h)
 |sd x=>exact(bP x).bind λ_ h=>.ret (aMu h)
 |max x y=>exact(bP x).bind λ_ h=>(bP y).bind λ_ h1=>.ret (aIr h h1)
 |ex i x=>exact(bP x).bind λ_ h=>.ret (aMd h)
 |ta ok t z x=>exact(bP x).bind λ_ h=>.ret (aMx h)
 |bad=>exact .ret (sC _)
theorem aOm(b:AB):Gd (λa:Ag=>Nj a b) (cA b):=by
 cases b with
 |al ty n t=>exact .ret aKh
 |bx ty n x=>exact(bP x).bind λ_ h=>.ret (aKj h)
 |bsl ty sz len t ps=>exact(aD2 sz ps).bind λ_ h=>.ret (aGM h)
 |mkm=>exact .ret aGN
 |mks ty sz z len cap=>exact .ret (aDk _)
theorem aOv(b:WB):Gd (λw:Wg=>Lq w b) (cW b):=by
 cases b with
 |st n x y=>exact(bP x).bind λ_ h=>(bP y).bind λ_ h1=>.ret (aNd h h1)
 |mu s m x v=>exact(bP m).bind λ_ h=>(bP x).bind λ_ h1=>(bP v).bind λ_ h2=>.ret (aNa h h1 h2)
 |me s z m x=>exact(bP m).bind λ_ h=>(bP x).bind λ_ h1=>.ret (aM9 h h1)
 |es m s v=>exact .ret (wx _)
 |ap ty sz x y=>exact(bP x).bind λ_ h=>(bP y).bind λ_ h1=>.ret (aM6 h h1)
 |cp sz x y=>exact(bP x).bind λ_ h=>(bP y).bind λ_ h1=>.ret (aM7 h h1)
 |sb x=>exact(bP x).bind λ_ h=>.ret (aNc h)
 |us ty x n=>exact .ret (wx _)
def aRE(tm:T V)(d:Option Q)(v:V):T V :=
 match d with
 |some q=>tm.put V.undef v q
 |none=>tm
theorem jE(d:Option Q)(v:V)(tm:T V)(k:T V->AA):rB d v tm k=k (aRE tm d v):=by
 cases d<;>rfl
def aJ4(ih:E9)(dk:Bool)(cs:List Fr)(v:V)(h:T O)(nx:Q):AA :=
 match cs with
 |[]=>(match dk with
  |false=>.ok (fin v h)
  |true=>.bad 99)
 |c::BZ=>(match dk with
  |false=>qR ih c BZ v h nx
  |true=>(match c with
   |.mk f2 Ht H6 E8 CU .rtn=>ih f2 Ht H6 E8 CU .rtn BZ h nx
   |_=>.bad 100))
def vH:List (Nat×St)->Nat->Option St
 |[],_=>none
 |(i,U)::r,id=>(match Nat.beq i id with
  |true=>some U
  |false=>vH r id)
theorem tq(id:Nat)(kn:St):∀env,UW env id kn=(vH env id).getD kn
 |[]=>rfl
 |(i,U)::r=>by
  show @Bool.rec (λ_=>St->(Nat->St->St)->Nat->St->St) _ _ (Nat.beq i id) U (UW r) id kn=_;simp only[vH];cases Nat.beq i id
  ·exact tq id kn r
  ·rfl
theorem dL(fe:Q->CF)(m:Nat)(f:Q)(dk:Bool)(rd:Option Q)(ds:List Df)(tm:T V)(k:K)(cs:List Fr)(h:T O)(nx:Q):run fe (m+1) f dk rd ds tm k cs h nx=aD fe (run fe m) f dk rd ds tm k cs h nx:=rfl
section
variable (fe:Q->CF)(r:V)
def j4(f:Q)(dk:Bool)(rd:Option Q)(cs:List Fr)(U:St)(k:K):Prop:=∀tm h nx ds,U tm ⟨h,nx,ds⟩=.ok r->∃m,run fe m f dk rd ds tm k cs h nx=.ok r
def ax(dk:Bool)(cs:List Fr)(BC:Kr):Prop:=∀v h nx,BC v h nx=.ok r->∃m,aJ4 (run fe m) dk cs v h nx=.ok r
structure oz (cl:Cl):Prop where
 plain:∀fv args c cs h nx BC,ax fe r false (c::cs) BC->cl fv args false h nx BC=.ok r->∃m,dJ fe (run fe m) fv args (c::cs) h nx=.ok r
 dfd:∀g args f2 Ht H6 E8 CU cs h nx BC,ax fe r true (.mk f2 Ht H6 E8 CU .rtn::cs) BC->cl (.fn g [] []) args true h nx BC=.ok r->∃m,iQ fe (run fe m) g args true (.mk f2 Ht H6 E8 CU .rtn::cs) h nx=.ok r
def aNi(f:Q)(dk:Bool)(rd:Option Q)(cs:List Fr)(env:List (Nat×St))(k:K):Prop :=
 ∀id,(∃U k',vH env id=some U/\j4 fe r f dk rd cs U k'/\∀kf kn,fB id k kf kn=kf k')\/(vH env id=none/\∀kf kn,fB id k kf kn=kn)
structure CxOK (f:Q) (dk:Bool) (rd:Option Q) (cs:List Fr) (cx:Cx) (k:K):Prop where
 hf:cx.f=f
 hrd:cx.rd=rd
 cl:oz fe r cx.cl
 env:aNi fe r f dk rd cs cx.env k
 kr:rd=none->j4 fe r f dk rd cs cx.kr .rtn
 ky:∀l,rd=some l->∃c BZ,cs=c::BZ/\ax fe r false (c::BZ) cx.ky
 dk:dk=true->∃f2 Ht H6 E8 CU BZ,cs=.mk f2 Ht H6 E8 CU .rtn::BZ
def pf(c:C)(o:Op):Prop:=∀f dk rd cs cx k U,CxOK fe r f dk rd cs cx k->j4 fe r f dk rd cs U k->j4 fe r f dk rd cs (o cx U) (.code c k)
def LOK(l:List PS)(o:Op):Prop:=∀f dk rd cs cx k U,CxOK fe r f dk rd cs cx k->j4 fe r f dk rd cs U k->j4 fe r f dk rd cs (o cx U) (.reg l k)
def Tx(p:PS)(o:Op):Prop:=∀f dk rd cs cx k U l,CxOK fe r f dk rd cs cx k->j4 fe r f dk rd cs U (.reg l k)->j4 fe r f dk rd cs (o cx U) (.reg (p::l) k)
def xB(b:OB)(dst:Option Q)(o:Op):Prop:=∀f dk rd cs cx k U l g,CxOK fe r f dk rd cs cx k->j4 fe r f dk rd cs U (.reg l k) ->
 ∀tm h nx ds,o cx U tm ⟨h,nx,ds⟩=.ok r->∃m,FV fe (run fe m) f dk rd ds tm dst b l (.op (.mk dst g b)::l) k cs h nx=.ok r
end
variable {fe:Q->CF}{r:V}{f:Q}{dk:Bool}{rd:Option Q}{cs:List Fr}{cx:Cx}{k k':K}{U:St}{env:List (Nat×St)}{l:Q}{c:Fr}
theorem CxOK.to(C:CxOK fe r f dk rd cs cx k)(h:∀id kf kn,fB id k' kf kn=fB id k kf kn):CxOK fe r f dk rd cs cx k' :=
 ⟨C.hf,C.hrd,C.cl,λid=>by
  rcases C.env id with⟨U,k1,h1,h2,h3⟩|⟨h1,h2⟩
  ·exact .inl ⟨U,k1,h1,h2,λkf kn=>(h id kf kn).trans (h3 kf kn)⟩
  ·exact .inr ⟨h1,λkf kn=>(h id kf kn).trans (h2 kf kn)⟩,C.kr,C.ky,C.dk⟩
theorem jm{j:Jump}{st:Nat}{b:Bool}{ky:Kr}{h:T O}{nx:Q}{ds:List Df}(A7:st=match b with|true=>0|false=>2)(hk:ax fe r false (c::cs) ky)(e:OZ l j st b ky ⟨h,nx,ds⟩=.ok r):∃m,qz (run fe m) l j b (c::cs) h nx=.ok r:=by
 have e':F7 l h (λob=>qA ob λ_ _ fn tm params BW body B8=>ES l (.loop (.mk st j fn tm params BW body B8)) h λh'=>ky (.bool b) h' nx)=.ok r:=e;simp only[gM,bV,nR,iP,cM] at e';obtain⟨BF,pend,fn,tm,ps,BW,body,B8,ho,e1⟩:=gF e';obtain⟨m,hm⟩:=hk _ _ _ e1;refine⟨m,?_⟩;simp only[qz,bV,ho,mV,cM];subst A7;exact hm
theorem rh(C:CxOK fe r f dk rd cs cx k)(id:Nat):j4 fe r f dk rd cs (Yb cx id) (.code (.exit id) k):=by
 intro tm h nx ds e;obtain⟨cl,f',Kx,env,kr,ky⟩:=cx;have hrd:=C.hrd;simp only at hrd;subst hrd;have e':UW env id (@Option.rec Q (λ_=>Nat->Kr->St) aOP aJL Kx id ky) tm ⟨h,nx,ds⟩=.ok r:=e;rw[tq] at e';rcases C.env id with⟨U,k1,h1,h2,h3⟩|⟨h1,h2⟩
 ·simp only at h1
  rw[h1] at e';obtain⟨m,hm⟩:=h2 tm h nx ds e';refine⟨m+1,?_⟩;show fB id k _ _=.ok r;rw[h3];exact hm
 ·simp only at h1
  rw[h1] at e';cases Kx with
  |none=>cases e'
  |some l =>
   obtain⟨c,BZ,rfl,hk⟩:=C.ky l rfl;obtain⟨m,hm⟩:=jm (st:=2) (b:=false) (ds:=ds) rfl hk e';refine⟨m+1,?_⟩;show fB id k _ _=.ok r;rw[h2];exact hm
theorem aBd(C:CxOK fe r f dk rd cs cx k):j4 fe r f dk rd cs (XN cx) (.code .ret k):=by
 intro tm h nx ds e;obtain⟨cl,f',Kx,env,kr,ky⟩:=cx;have hrd:=C.hrd;simp only at hrd;subst hrd;cases Kx with
 |none =>
  obtain⟨m,hm⟩:=C.kr rfl tm h nx ds e;exact⟨m+1,hm⟩
 |some l =>
  obtain⟨c,BZ,rfl,hk⟩:=C.ky l rfl;obtain⟨m,hm⟩:=jm (st:=2) (b:=false) (ds:=ds) rfl hk e;exact⟨m+1,hm⟩
section
variable {dst:Option Q}
theorem aL4{b:PB}{p:Pg}{d:Dt}(hp:DP p b)(hd:Ix d dst):xB fe r (.p b) dst (opP p d):=by
 intro f dk rd cs cx k U l g C hκ tm h nx ds e;have e':p tm h (λv=>d v tm λBA=>U BA ⟨h,nx,ds⟩)=.ok r:=e;rw[hp] at e';obtain⟨v,h1,h2⟩:=sB e';rw[hd,jE] at h2;obtain⟨m,hm⟩:=hκ _ _ _ _ h2;refine⟨m,?_⟩;simp only[FV];rw[yw,h1];simp only[bC,jE];exact hm
theorem aL1{b:AB}{a:Ag}{d:Dt}(ha:Nj a b)(hd:Ix d dst):xB fe r (.a b) dst (opA a d):=by
 intro f dk rd cs cx k U l g C hκ tm h nx ds e;have e':a tm (λob mk=>ES nx ob h λh'=>d (mk nx) tm λBA=>Hx nx λnx'=>U BA ⟨h',nx',ds⟩)=.ok r:=e;rw[ha] at e';obtain⟨ob,mk,h1,h2⟩:=pw e';simp only[iP,cM,hd _ _ _,jE,uQ,eD] at h2;obtain⟨m,hm⟩:=hκ _ _ _ _ h2;refine⟨m,?_⟩;simp only[FV];rw[h1];simp only[cM,jE,eD];exact hm
theorem aL5{b:WB}{w:Wg}{d:Dt}(hw:Lq w b)(hd:Ix d dst):xB fe r (.w b) dst (opW w d):=by
 intro f dk rd cs cx k U l g C hκ tm h nx ds e;have e':w tm h nx (λv h' nx'=>d v tm λBA=>U BA ⟨h',nx',ds⟩)=.ok r:=e;rw[hw] at e';obtain⟨v,h',nx',h1,h2⟩:=aGD e';rw[hd,jE] at h1;obtain⟨m,hm⟩:=hκ _ _ _ _ h1;refine⟨m,?_⟩;simp only[FV,h2,jE];exact hm
theorem aAG{d:Dt}{ob:OB}{g:Option (Q×Bool)}{l:List PS}{tm:T V}{ds:List Df}(hd:Ix d dst)(hκ:j4 fe r f dk rd cs U (.reg l k)) :
  ax fe r false (.mk f dk rd ds tm (.reg (.op (.mk dst g ob)::l) k)::cs) λv h' nx'=>d v tm λBA=>U BA ⟨h',nx',ds⟩:=by
 intro v h nx e;have e:d v tm (λBA=>U BA ⟨h,nx,ds⟩)=.ok r:=e;rw[hd,jE] at e;obtain⟨m,hm⟩:=hκ _ _ _ _ e;refine⟨m,?_⟩;simp only[aJ4,qR,jE];exact hm
theorem ic(cx:Cx):v7 cx=cx.cl:=by cases cx;rfl
theorem aCn{x:X}{xs:List X}{g:Xg}{gs:Xs}{d:Dt}(hx:BS g x)(C9:fq gs xs)(hd:Ix d dst):xB fe r (.call x xs) dst (aFh g gs d):=by
 intro f dk rd cs cx k U l gg C hκ tm h nx ds e;have e':g tm (λfv=>gs tm λvs=>v7 cx fv vs false h nx λv h' nx'=>d v tm λBA=>U BA ⟨h',nx',ds⟩)=.ok r:=e;rw[hx] at e';obtain⟨fv,h1,h2⟩:=kL e';rw[C9] at h1;obtain⟨vs,h3,h4⟩:=uW h1;rw[ic] at h3;obtain⟨m,hm⟩:=C.cl.plain _ _ (.mk f dk rd ds tm (.reg (.op (.mk dst gg (.call x xs))::l) k)) cs _ _ _ (aAG hd hκ) h3;refine⟨m,?_⟩;simp only[FV,h2,h4];exact hm
theorem uc(t:Nat)(k:Q->AA):∀ms,UU ms t k=rY t ms k
 |[]=>rfl
 |(u,f)::ms=>by
  show IP (Nat.beq u t) (k f) (UU ms t k)=_;rw[mC,uc t k ms];simp only[rY];cases Nat.beq u t<;>rfl
theorem wh(t:Nat):∀ms,Tot (rY t ms)
 |[]=>.bad _
 |(u,f)::ms=>by
  simp only[show rY t ((u,f)::ms)=λk=>(match Nat.beq u t with|true=>k f|false=>rY t ms k) from rfl];cases Nat.beq u t
  ·exact wh t ms
  ·exact .ret f
theorem aI3{v:V}{kk:Nat->V->AA}(e:XU v kk=.ok r):∃t u,v=.ifc t u/\kk t u=.ok r:=by
 cases v<;>first|(cases e;done)|exact⟨_,_,rfl,e⟩
theorem aFm{ms:List (Nat×Q)}{x:X}{xs:List X}{g:Xg}{gs:Xs}{d:Dt}(hx:BS g x)(C9:fq gs xs)(hd:Ix d dst):xB fe r (.inv ms x xs) dst (aJW ms g gs d):=by
 intro f dk rd cs cx k U l gg C hκ tm h nx ds e;have e':g tm (λv=>gs tm λvs=>XU v λt u=>UU ms t λf=>v7 cx (.fn f [] []) (u::vs) false h nx λv h' nx'=>d v tm λBA=>U BA ⟨h',nx',ds⟩)=.ok r:=e;rw[hx] at e';obtain⟨v,h1,h2⟩:=kL e';rw[C9] at h1;obtain⟨vs,h3,h4⟩:=uW h1;obtain⟨t,u,rfl,h5⟩:=aI3 h3;rw[uc] at h5;rcases wh t ms with⟨q,h6⟩|⟨n,h6⟩
 ·rw[h6,ic] at h5
  obtain⟨m,hm⟩:=C.cl.plain _ _ (.mk f dk rd ds tm (.reg (.op (.mk dst gg (.inv ms x xs))::l) k)) cs _ _ _ (aAG hd hκ) h5;refine⟨m,?_⟩;simp only[FV,h2,h4,XV,h6];exact hm
 ·rw[h6] at h5;cases h5
theorem aFl{x:X}{xs:List X}{g:Xg}{gs:Xs}{d:Dt}(hx:BS g x)(C9:fq gs xs)(hd:Ix d dst):xB fe r (.dfr x xs) dst (Y0 g gs d):=by
 intro f dk rd cs cx k U l gg C hκ tm h nx ds e;simp only[Y0,C.hrd] at e;cases rd with
 |some l=>cases e
 |none =>
  simp only at e;rw[hx] at e;obtain⟨fv,h1,h2⟩:=kL e;rw[C9] at h1;obtain⟨vs,h3,h4⟩:=uW h1
  split at h3
  ·rename_i q fs caps
   simp only[fL,hd _ _ _,jE] at h3;obtain⟨m,hm⟩:=hκ _ _ _ _ h3;refine⟨m,?_⟩;simp only[FV,h2,h4,fL,jE];exact hm
  ·cases h3
theorem aFj{s:KK}{x y:X}{g g':Xg}{d:Dt}(hx:BS g x)(hy:BS g' y)(hd:Ix d dst):xB fe r (.dfd s x y) dst (Y1 s g g' d):=by
 intro f dk rd cs cx k U l gg C hκ tm h nx ds e;simp only[Y1,C.hrd] at e;cases rd with
 |some l=>cases e
 |none =>
  simp only at e;rw[hx] at e;obtain⟨mv,h1,h2⟩:=kL e;rw[hy] at h1;obtain⟨kv,h3,h4⟩:=kL h1;simp only[hd _ _ _,jE] at h3;obtain⟨m,hm⟩:=hκ _ _ _ _ h3;refine⟨m,?_⟩;simp only[FV,h2,h4,jE];exact hm
theorem aFo{d:Dt}(hd:Ix d dst):xB fe r .rcv dst (YZ d):=by
 intro f dk rd cs cx k U l gg C hκ tm h nx ds e;simp only[YZ,C.hrd] at e;cases rd with
 |some l=>cases e
 |none =>
  simp only[hd _ _ _,jE] at e;obtain⟨m,hm⟩:=hκ _ _ _ _ e;refine⟨m,?_⟩;simp only[FV,RP,jE];cases dk with
  |false=>exact hm
  |true =>
   obtain⟨f2,Ht,H6,E8,CU,BZ,rfl⟩:=C.dk rfl;exact hm
theorem aK7{d:Dt}(hd:Ix d dst)(b:OB):Gd (λo:Op=>xB fe r b dst o) (cOB b d):=by
 cases b with
 |p b=>exact(aJG b).bind λ_ h=>.ret (aL4 h hd)
 |a b=>exact(aOm b).bind λ_ h=>.ret (aL1 h hd)
 |w b=>exact(aOv b).bind λ_ h=>.ret (aL5 h hd)
 |call x xs=>exact(bP x).bind λ_ h=>(sY xs).bind λ_ h1=>.ret (aCn h h1 hd)
 |inv ms x xs=>exact(bP x).bind λ_ h=>(sY xs).bind λ_ h1=>.ret (aFm h h1 hd)
 |dfr x xs=>exact(bP x).bind λ_ h=>(sY xs).bind λ_ h1=>.ret (aFl h h1 hd)
 |dfd s x y=>exact(bP x).bind λ_ h=>(bP y).bind λ_ h1=>.ret (aFj h h1 hd)
 |rcv=>exact .ret (aFo hd)
end
theorem aOT{dst:Option Q}{b:OB}{o:Op}(h:xB fe r b dst o):Tx fe r (.op (.mk dst none b)) o:=by
 intro f dk rd cs cx k U l C hκ tm h' nx ds e;obtain⟨m,hm⟩:=h f dk rd cs cx k U l none C hκ tm h' nx ds e;exact⟨m+1,hm⟩
theorem ff{v:V}{w:Bool}{go skip:St}{tm:T V}{s:S}(e:aq v w go skip tm s=.ok r) :
  (∃t,v=.bool t/\(t==w)=true/\go tm s=.ok r)\/(((∃t,v=.bool t/\(t==w)=false)\/v=.tup [])/\skip tm s=.ok r):=by
 cases v<;>try(cases e;done)
 ·rename_i t
  have e':aAk t w go skip tm s=.ok r:=e
  cases t<;>cases w<;>first
   |exact .inl ⟨_,rfl,rfl,e'⟩
   |exact .inr ⟨.inl ⟨_,rfl,rfl⟩,e'⟩
 ·rename_i vs
  cases vs
  ·exact .inr ⟨.inr rfl,e⟩
  ·cases e
theorem aL3{dst:Option Q}{q:Q}{w:Bool}{b:OB}{g:Xg}{o:Op}{d:Dt}(hg:BS g (.t q))(h:xB fe r b dst o)(hd:Ix d dst):Tx fe r (.op (.mk dst (some (q,w)) b)) (Uw g w o d):=by
 intro f dk rd cs cx k U l C hκ tm h' nx ds e;have e':g tm (λv=>aq v w (o cx U) (λtm s=>d V.undef tm λBA=>U BA s) tm ⟨h',nx,ds⟩)=.ok r:=e;rw[hg] at e';simp only[xK,dZ] at e';rcases ff e' with⟨t,hv,ht,e1⟩|⟨hv,e1⟩
 ·obtain⟨m,hm⟩:=h f dk rd cs cx k U l (some (q,w)) C hκ tm h' nx ds e1
  refine⟨m+1,?_⟩;show lW fe (run fe m) f dk rd ds tm (.op (.mk dst (some (q,w)) b)::l) k cs h' nx=.ok r;simp only[lW,dZ,hv,ht];exact hm
 ·simp only[hd _ _ _,jE] at e1
  obtain⟨m,hm⟩:=hκ _ _ _ _ e1;refine⟨m+1,?_⟩;show lW fe (run fe m) f dk rd ds tm (.op (.mk dst (some (q,w)) b)::l) k cs h' nx=.ok r;rcases hv with⟨t,hv,ht⟩|hv
  ·simp only[lW,dZ,hv,ht,jE];exact hm
  ·simp only[lW,dZ,hv,jE];exact hm
theorem aK6(o:CO):Gd (λg:Op=>Tx fe r (.op o) g) (cCO o):=by
 obtain⟨dst,g,b⟩:=o;refine(aHd dst).bind λd hd=>(aK7 (fe:=fe) (r:=r) hd b).bind λo ho=>?_
 cases g with
 |none=>exact .ret (aOT ho)
 |some qw=>exact(ga qw.1).bind (f:=λg k=>k (Uw g qw.2 o d)) λg hg=>.ret (aL3 hg ho hd)
theorem aAo{p:PB}{q:Q}{l:List PS}{tm:T V}{h:T O}{nx:Q}{ds:List Df}{pg:Pg}{rg:Xg}(hp:DP pg p)(hr:BS rg (.t q))(hκ:j4 fe r f dk rd cs U (.reg l k))(e:r7 pg rg cx U tm ⟨h,nx,ds⟩=.ok r) :
  ∃m,pK p tm h (λv=>gV q tm λu=>gd (MW v u) 93 (run fe m f dk rd ds tm (.reg l k) cs h nx))=.ok r:=by
 have e':pg tm h (λv=>rg tm λu=>CV (MW v u) 93 (U tm ⟨h,nx,ds⟩))=.ok r:=e;rw[hp] at e';obtain⟨v,h1,h2⟩:=sB e';rw[hr] at h2;simp only[xK,dZ,cJ] at h2;obtain⟨h3,h4⟩:=bW h2;obtain⟨m,hm⟩:=hκ _ _ _ _ h4;refine⟨m,?_⟩;rw[yw,h1];simp only[bC,dZ,h3,gd];exact hm
theorem aK8(p:PS):Gd (λg:Op=>Tx fe r p g) (cPS p):=by
 cases p with
 |op o=>exact aK6 o
 |chk g p q =>
  refine(aJG p).bind (f:=λpg k=>ft q λr=>@Option.rec (Q×Bool) (λ_=>D) (k (r7 pg r)) (λqw=>@Prod.rec Q Bool (λ_=>D) (λq w=>ft q λg=>k (mw g w (r7 pg r))) qw) g) λpg hp=>(ga q).bind (f:=λr k=>@Option.rec (Q×Bool) (λ_=>D) (k (r7 pg r)) (λqw=>@Prod.rec Q Bool (λ_=>D) (λq w=>ft q λg=>k (mw g w (r7 pg r))) qw) g) λrg hr=>?_
  cases g with
  |none =>
   refine .ret ?_;intro f dk rd cs cx k U l C hκ tm h nx ds e;obtain⟨m,hm⟩:=aAo hp hr hκ e;exact⟨m+1,hm⟩
  |some qw =>
   refine(ga qw.1).bind (f:=λg k=>k (mw g qw.2 (r7 pg rg))) λg hg=>.ret ?_
   intro f dk rd cs cx k U l C hκ tm h nx ds e;have e':g tm (λv=>aq v qw.2 (r7 pg rg cx U) U tm ⟨h,nx,ds⟩)=.ok r:=e;rw[hg] at e';simp only[xK,dZ] at e';rcases ff e' with⟨t,hv,ht,e1⟩|⟨hv,e1⟩
   ·obtain⟨m,hm⟩:=aAo hp hr hκ e1
    refine⟨m+1,?_⟩;show lW fe (run fe m) f dk rd ds tm (.chk (some qw) p q::l) k cs h nx=.ok r;simp only[lW,dZ,hv,ht];simp only[dZ] at hm;exact hm
   ·obtain⟨m,hm⟩:=hκ _ _ _ _ e1
    refine⟨m+1,?_⟩;show lW fe (run fe m) f dk rd ds tm (.chk (some qw) p q::l) k cs h nx=.ok r;rcases hv with⟨t,hv,ht⟩|hv
    ·simp only[lW,dZ,hv,ht];exact hm
    ·simp only[lW,dZ,hv];exact hm
theorem aJC:∀l:List PS,Gd (λg:Op=>LOK fe r l g) (cL l)
 |[]=>.ret λf dk rd cs cx k U C hκ tm h nx ds e=>by
  obtain⟨m,hm⟩:=hκ _ _ _ _ e;exact⟨m+1,hm⟩
 |p::l=>(aK8 p).bind λo ho=>(aJC l).bind λo' DL=>.ret λf dk rd cs cx k U C hκ=>ho f dk rd cs cx k (o' cx U) l C (DL f dk rd cs cx k U C hκ)
end
section
variable {fe:Q->CF}{r:V}{f:Q}{dk:Bool}{rd:Option Q}{cs:List Fr}{cx:Cx}{k k':K}{U:St}{env:List (Nat×St)}{l:Q}{c:Fr}
theorem yi(id i:Nat)(U:St)(env:List (Nat×St)):vH ((i,U)::env) id=match Nat.beq i id with|true=>some U|false=>vH env id:=by
 simp only[vH]<;>(cases Nat.beq i id<;>rfl)
theorem CxOK.push(C:CxOK fe r f dk rd cs cx k)(hκ:j4 fe r f dk rd cs U k)(id:Nat):CxOK fe r f dk rd cs ⟨cx.cl,cx.f,cx.rd,(id,U)::cx.env,cx.kr,cx.ky⟩ (.blk id k) :=
 ⟨C.hf,C.hrd,C.cl,λi=>by
  simp only[yi,fB];cases hb:Nat.beq id i
  ·simp only
   exact C.env i
  ·exact .inl ⟨U,k,rfl,hκ,λ_ _=>rfl⟩,C.kr,C.ky,C.dk⟩
theorem aL2(id:Nat)(o:Op)(cx:Cx)(U:St):opB id o cx U=o ⟨cx.cl,cx.f,cx.rd,(id,U)::cx.env,cx.kr,cx.ky⟩ U:=by cases cx;rfl
theorem aGr{v:V}{a b:St}{tm:T V}{s:S}(e:YS v a b tm s=.ok r):∃t,v=.bool t/\(match t with|true=>a|false=>b) tm s=.ok r:=by
 cases v<;>try(cases e;done)
 rename_i t;refine⟨t,rfl,?_⟩;cases t<;>exact e
theorem aIB{pend:Jump}(C:CxOK fe r f dk rd cs cx k)(hκ:j4 fe r f dk rd cs U k){tm:T V}{h:T O}{nx:Q}{ds:List Df}(e:aJ0 pend cx U tm ⟨h,nx,ds⟩=.ok r) :
  ∃m,(match pend with
   |.none=>run fe m f dk rd ds tm k cs h nx
   |.ret=>run fe m f dk rd ds tm (.code .ret k) cs h nx
   |.exit id=>run fe m f dk rd ds tm (.code (.exit id) k) cs h nx)=.ok r:=by
 cases pend with
 |none=>exact hκ _ _ _ _ e
 |ret=>exact aBd C _ _ _ _ e
 |exit id=>exact rh C id _ _ _ _ e
theorem aAv(C:CxOK fe r f dk rd cs cx k)(hκ:j4 fe r f dk rd cs U k){tm:T V}{h:T O}{nx:Q}{ds:List Df}(e:re cx l U tm h nx ds=.ok r):∃m,run fe m f dk rd ds tm (.erf l k) cs h nx=.ok r:=by
 unfold re at e;simp only[gM,bV,nR,cJ,oZ,iP,cM] at e;obtain⟨st,pend,fn,BA,ps,BW,body,B8,ho,e1⟩:=gF e;obtain⟨h1,e2⟩:=bW e1;obtain⟨m,hm⟩:=aIB C hκ e2;refine⟨m+1,?_⟩;have h2:Nat.beq st 1=false:=by simpa using h1
 simp only[dL,aD,bV,ho,mV,cM,h2,Gj,gd];cases pend<;>exact hm
theorem aMH{x:X}{g:Xg}{ps:List Q}{BW body:C}(hx:BS g x):pf fe r (.rf x ps BW body) (rfO g ps BW body):=by
 intro f dk rd cs cx k U C hκ tm h nx ds e
 have e':g tm (λfv=>O8 fv (λg fs caps=>@Option.rec Q (λ_=>AA)
   (Hx nx λn1=>sU fs (.yld n1::caps) λargs=>ES nx (.dfd false) h λh1=>ES n1 (.loop (.mk 0 .none cx.f tm ps BW body nx)) h1 λh2=>Hx n1 λn2 =>
     v7 cx (.fn g [] []) args false h2 n2 λ_ h nx'=>re cx n1 U tm h nx' (.coll nx::ds))
   (λl=>sU fs (.yld nx::caps) λargs=>F7 l h λob=>qA ob λ_ _ _ _ _ _ _ B8=>ES nx (.loop (.mk 0 .none cx.f tm ps BW body B8)) h λh2=>Hx nx λn2 =>
     v7 cx (.fn g [] []) args false h2 n2 λ_ h nx'=>re cx nx U tm h nx' ds) cx.rd)
  (λ_=>.bad 95))=.ok r:=e
 rw[hx] at e';obtain⟨fv,e1,Hs⟩:=kL e';cases fv<;>try(cases e1;done)
 rename_i q fs caps
 have DY:∀{args:List V}{c:Fr}{cs:List Fr}{h:T O}{nx:Q}{BC:Kr},ax fe r false (c::cs) BC->v7 cx (.fn q [] []) args false h nx BC=.ok r->∃m,iQ fe (run fe m) q args false (c::cs) h nx=.ok r:=λhk e0=>by
  rw[ic] at e0;obtain⟨m,hm⟩:=C.cl.plain _ _ _ _ _ _ _ hk e0;refine⟨m,?_⟩;have hm':vX _ [] (λl=>vX [] l λl=>iQ fe (run fe m) q l false _ _ _)=.ok r:=hm;simpa only[fL,Bv,Bl] using hm'
 cases rd with
 |none =>
  have e2:(Hx nx λn1=>sU fs (.yld n1::caps) λargs=>ES nx (.dfd false) h λh1=>ES n1 (.loop (.mk 0 .none cx.f tm ps BW body nx)) h1 λh2=>Hx n1 λn2 =>
     v7 cx (.fn q [] []) args false h2 n2 λ_ h nx'=>re cx n1 U tm h nx' (.coll nx::ds))=.ok r:=by
   have:O8 (.fn q fs caps) _ _=.ok r:=e1
   rw[C.hrd] at this;exact this
  simp only[uQ,eD,rH,iP,cM,C.hf] at e2
  obtain⟨m,hm⟩:=DY (c:=.mk f dk none (.coll nx::ds) tm (.inrf nx.succ k)) (cs:=cs) (λv h' nx' e0=>by
   obtain⟨m,hm⟩:=aAv C hκ e0;exact⟨m,hm⟩) e2
  refine⟨m+1,?_⟩;simp only[dL,aD,mS,Hs,fL,cM,eD];exact hm
 |some l =>
  have e2:(sU fs (.yld nx::caps) λargs=>F7 l h λob=>qA ob λ_ _ _ _ _ _ _ B8=>ES nx (.loop (.mk 0 .none cx.f tm ps BW body B8)) h λh2=>Hx nx λn2 =>
     v7 cx (.fn q [] []) args false h2 n2 λ_ h nx'=>re cx nx U tm h nx' ds)=.ok r:=by
   have:O8 (.fn q fs caps) _ _=.ok r:=e1
   rw[C.hrd] at this;exact this
  simp only[rH,gM,bV,nR] at e2;obtain⟨st,pend,fn,BA,ps',RH,GS,B8,ho,e3⟩:=gF e2;simp only[iP,cM,uQ,eD,C.hf] at e3
  obtain⟨m,hm⟩:=DY (c:=.mk f dk (some l) ds tm (.inrf nx k)) (cs:=cs) (λv h' nx' e0=>by
   obtain⟨m,hm⟩:=aAv C hκ e0;exact⟨m,hm⟩) e3
  refine⟨m+1,?_⟩;simp only[dL,aD,mS,Hs,fL,bV,ho,mV,cM,eD];exact hm
theorem aOo(cd:C):Gd (λo:Op=>pf fe r cd o) (cC cd):=by
 induction cd with
 |skip =>
  exact .ret λf dk rd cs cx k U C hκ tm h nx ds e=>by
   obtain⟨m,hm⟩:=hκ _ _ _ _ e;exact⟨m+1,hm⟩
 |reg l =>
  exact(aJC (fe:=fe) (r:=r) l).bind (f:=λo k=>k o) λo ho=>.ret λf dk rd cs cx k U C hκ tm h nx ds e=>by
   obtain⟨m,hm⟩:=ho f dk rd cs cx k U C hκ _ _ _ _ e;exact⟨m+1,hm⟩
 |seq a b Me Md =>
  exact Me.bind λo ho=>Md.bind λo' DL=>.ret λf dk rd cs cx k U C hκ tm h nx ds e=>by
   obtain⟨m,hm⟩:=ho f dk rd cs cx (.code b k) (o' cx U) (C.to λ_ _ _=>rfl) (DL f dk rd cs cx k U C hκ) _ _ _ _ e;exact⟨m+1,hm⟩
 |cond x a b Me Md =>
  exact(bP x).bind λg hg=>Me.bind λo ho=>Md.bind λo' DL=>.ret λf dk rd cs cx k U C hκ tm h nx ds e=>by
   have e':g tm (λv=>YS v (o cx U) (o' cx U) tm ⟨h,nx,ds⟩)=.ok r:=e;rw[hg] at e';obtain⟨v,e1,hv⟩:=kL e';obtain⟨t,rfl,e2⟩:=aGr e1;cases t with
   |true =>
    obtain⟨m,hm⟩:=ho f dk rd cs cx k U C hκ _ _ _ _ e2;refine⟨m+1,?_⟩;simp only[dL,aD,mS,hv,Jv];exact hm
   |false =>
    obtain⟨m,hm⟩:=DL f dk rd cs cx k U C hκ _ _ _ _ e2;refine⟨m+1,?_⟩;simp only[dL,aD,mS,hv,Jv];exact hm
 |block id a ih =>
  exact ih.bind λo ho=>.ret λf dk rd cs cx k U C hκ tm h nx ds e=>by
   rw[aL2] at e
   have WW:j4 fe r f dk rd cs U (.blk id k):=λtm h nx ds e0=>by
    obtain⟨m,hm⟩:=hκ _ _ _ _ e0;exact⟨m+1,hm⟩
   obtain⟨m,hm⟩:=ho f dk rd cs _ (.blk id k) U (C.push hκ id) WW _ _ _ _ e;exact⟨m+1,hm⟩
 |loop a ih =>
  exact ih.bind λo ho=>.ret λf dk rd cs cx k U C hκ tm h nx ds e=>by
   have hl:∀n,j4 fe r f dk rd cs (@Nat.rec (λ_=>St) eZ (λ_ again=>o cx again) n) (.lp a k):=λn=>by
    induction n with
    |zero=>intro tm h nx ds e0;cases e0
    |succ n ihn =>
     intro tm h nx ds e0;obtain⟨m,hm⟩:=ho f dk rd cs cx (.lp a k) _ (C.to λ_ _ _=>rfl) ihn _ _ _ _ e0;exact⟨m+1,hm⟩
   obtain⟨m,hm⟩:=hl 1000000 _ _ _ _ e;cases m with
   |zero=>cases hm
   |succ m=>exact⟨m+1,hm⟩
 |rf x ps BW body _ _ =>
  exact(bP x).bind λg hg=>.ret (aMH hg)
 |exit id =>
  exact .ret λf dk rd cs cx k U C hκ=>rh C id
 |scope a ih =>
  exact ih.bind (f:=λo k=>k o) λo ho=>.ret λf dk rd cs cx k U C hκ tm h nx ds e=>by
   have WW:j4 fe r f dk rd cs U (.sc k):=λtm h nx ds e0=>by
    obtain⟨m,hm⟩:=hκ _ _ _ _ e0;exact⟨m+1,hm⟩
   obtain⟨m,hm⟩:=ho f dk rd cs cx (.sc k) U (C.to λ_ _ _=>rfl) WW _ _ _ _ e;exact⟨m+1,hm⟩
 |ret =>
  exact .ret λf dk rd cs cx k U C hκ=>aBd C
 |bad =>
  exact .ret λf dk rd cs cx k U C hκ tm h nx ds e=>by cases e
theorem ny(cd:C):pf fe r cd (vi (KE cd)):=by
 rcases aOo (fe:=fe) (r:=r) cd with⟨o,ho,h⟩|h
 ·have:KE cd=⟨o⟩:=h D.mk
  rw[this];exact ho
 ·have:KE cd=⟨nV⟩:=h D.mk
  rw[this];intro f dk rd cs cx k U C hκ tm h nx ds e;cases e
theorem wX(tm:T V)(h:T O):∀(rs:List RV)(k:List V->AA),OP rs tm h k=iV tm h rs k
 |[],k=>rfl
 |.t q::rs,k=>by
  show MU q tm (λv=>OP rs tm h λl=>k (v::l))=_;rw[ly];simp only[iV,wX tm h rs]
 |.cell agg n q::rs,k=>by
  show MU q tm (λp=>vP p λo off=>@Bool.rec (λ_=>AA) (Oy h o off λv=>OP rs tm h λl'=>k (v::l')) (OS h o off n λl=>OP rs tm h λl'=>k (.agg l::l')) agg)=_;rw[ly];simp only[iV,fh];congr 1;funext p;congr 1;funext o off;cases agg
  ·simp only[aET,wX tm h rs]
  ·simp only[mg,wX tm h rs]
theorem aH6(l:List V)(k:V->AA):Xb l k=k (Tp l):=by
 cases l with
 |nil=>rfl
 |cons v l=>cases l<;>rfl
theorem mJ{tm:T V}{h:T O}:∀{rs:List RV}{k:List V->AA},iV tm h rs k=.ok r->∃vs,k vs=.ok r/\∀k',iV tm h rs k'=k' vs
 |[],k,e=>⟨[],e,λ_=>rfl⟩
 |.t q::rs,k,e=>by
  simp only[iV,dZ] at e;obtain⟨vs,h1,h2⟩:=mJ e;exact⟨_::vs,h1,λk'=>by simp only[iV,dZ,h2]⟩
 |.cell agg n q::rs,k,e=>by
  simp only[iV,dZ] at e;obtain⟨o,off,hp,e1⟩:=l7 e;cases agg with
  |true =>
   simp only at e1;rcases aBo h o off n with⟨l,hl⟩|⟨b,hl⟩
   ·rw[hl] at e1
    obtain⟨vs,h1,h2⟩:=mJ e1;exact⟨_,h1,λk'=>by simp only[iV,dZ,hp,II,hl,h2]⟩
   ·rw[hl] at e1;cases e1
  |false =>
   simp only at e1;rcases(show Tot (J8 h o off) from(kJ o h).bind λob=>(aBs ob).bind λn t=>(eM (Nat.blt off n) 46).bind (Z:=λk=>Jz off λq=>gV q t k) (.inl ⟨t.get V.undef (qn off),λk=>rfl⟩)) with⟨l,hl⟩|⟨b,hl⟩
   ·rw[hl] at e1
    obtain⟨vs,h1,h2⟩:=mJ e1;exact⟨_,h1,λk'=>by simp only[iV,dZ,hp,II,hl,h2]⟩
   ·rw[hl] at e1;cases e1
theorem aMJ{cl:Cl}{rs:List RV}{BC:Kr}{body:C}(B5:oz fe r cl)(hf:fe f=.mk body rs)(hk:ax fe r dk cs BC):j4 fe r f dk none cs (zg cl rs BC) .rtn:=by
 intro tm h nx ds e;have e':RZ ds cl rs BC tm h nx=.ok r:=e;clear e;induction ds generalizing h nx with
 |nil =>
  have e1:OP rs tm h (λvs=>Xb vs λv=>BC v h nx)=.ok r:=e';rw[wX] at e1;obtain⟨vs,h1,h2⟩:=mJ e1;rw[aH6] at h1;obtain⟨m,hm⟩:=hk _ _ _ h1;refine⟨m+1,?_⟩;simp only[dL,aD,nw,oM,hf,h2];exact hm
 |cons d ds ih =>
  cases d with
  |call q args =>
   have e1:cl (.fn q [] []) args true h nx (λ_ h' nx'=>RZ ds cl rs BC tm h' nx')=.ok r:=e'
   obtain⟨m,hm⟩:=B5.dfd q args f dk none ds tm cs h nx _ (λv h' nx' e0=>by
    obtain⟨m,hm⟩:=ih h' nx' e0;exact⟨m,hm⟩) e1
   exact⟨m+1,hm⟩
  |coll q =>
   have e1:Yw q (λh' nx'=>RZ ds cl rs BC tm h' nx') h nx=.ok r:=e';simp only[Yw,bV] at e1
   split at e1
   ·rename_i ho
    rw[cM] at e1;obtain⟨m,hm⟩:=ih _ _ e1;refine⟨m+1,?_⟩;simp only[dL,aD,nw,bV,ho,cM];exact hm
   ·cases e1
  |del s m key =>
   have e1:X0 s m key (λh' nx'=>RZ ds cl rs BC tm h' nx') h nx=.ok r:=e';unfold X0 at e1;rcases uT s key with Sc|⟨n,Sc⟩
   ·rw[Sc] at e1
    cases m<;>try(cases e1;done)
    rename_i o;simp only[bV] at e1;rcases aBq (h.ob o) with⟨es,B3⟩|⟨n,B3⟩
    ·rw[B3] at e1
     rcases(show Tot (ig s h key es) from by
      clear e1 B3;induction es with
      |nil=>exact .ret _
      |cons p es ihe =>
       obtain⟨y,u⟩:=p;simp only[show ig s h key ((y,u)::es)=λk=>eC s h key y λb=>(match b with|true=>k es|false=>ig s h key es λes'=>k ((y,u)::es')) from rfl];refine(ey s h key y).bind λb=>?_
       cases b
       ·exact ihe.bind λes'=>.ret _
       ·exact .ret es) with⟨es',hd⟩|⟨n,hd⟩
     ·rw[hd,cM] at e1
      obtain⟨m,hm⟩:=ih _ _ e1;refine⟨m+1,?_⟩;simp only[dL,aD,nw,Sc,bV,B3,hd,cM];exact hm
     ·rw[hd] at e1;cases e1
    ·rw[B3] at e1;cases e1
   ·rw[Sc] at e1;cases e1
theorem aAj{cl:Cl}{rs:List RV}{BC:Kr}{body:C}{tm:T V}{h:T O}{nx:Q}(B5:oz fe r cl)(hf:fe f=.mk body rs)(hk:ax fe r dk cs BC)
  (Sf:dk=true->∃f2 Ht H6 E8 CU BZ,cs=.mk f2 Ht H6 E8 CU .rtn::BZ) (e:jo (vi (KE body)) cl f tm h nx (zg cl rs BC)=.ok r) :
  ∃m,run fe m f dk none [] tm (.code body .nil) cs h nx=.ok r:=by
 have hr:=aMJ (f:=f) (dk:=dk) B5 hf hk
 have hn:j4 fe r f dk none cs (zg cl rs BC) .nil:=λtm h nx ds e0=>by
  obtain⟨m,hm⟩:=hr _ _ _ _ e0;exact⟨m+1,hm⟩
 exact ny body f dk none cs ⟨cl,f,none,[],zg cl rs BC,aJM⟩ .nil _ ⟨rfl,rfl,B5,λid=>.inr ⟨rfl,λ_ _=>rfl⟩,λ_=>hr,λ_ h0=>(by cases h0),Sf⟩ hn _ _ _ _ e
theorem qb(vs:List V)(k:T V->AA):cy vs 0 .nil k=xJ vs .e .nil k:=by
 rw[aBO,lG,show(Q.e:Q)=qn 0 from rfl,xN]
theorem aD5{cl:Cl}{BC:Kr}{g:Q}{args:List V}{h:T O}{nx:Q}(B5:oz fe r cl)(hk:ax fe r dk (c::cs) BC)
  (Sf:dk=true->∃f2 Ht H6 E8 CU BZ,c::cs=.mk f2 Ht H6 E8 CU .rtn::BZ) (e:RE (fe g) cl g args dk h nx BC=.ok r):∃m,iQ fe (run fe m) g args dk (c::cs) h nx=.ok r:=by
 cases hc:fe g with
 |none=>rw[hc] at e;cases e
 |mk body rs =>
  rw[hc] at e;have e1:cy args 0 .nil (λtm=>jo (vi (KE body)) cl g tm h nx (zg cl rs BC))=.ok r:=e;rw[qb,lG] at e1;obtain⟨m,hm⟩:=aAj B5 hc hk Sf e1;refine⟨m,?_⟩;simp only[iQ,oM,hc,lG];exact hm
 |ext n =>
  rw[hc] at e;cases dk with
  |true=>cases e
  |false =>
   have e1:jr n args (λv=>BC v h nx)=.ok r:=e
   have Lr:∀v,Tot (Tu v):=λv=>by
    cases v<;>first|exact .bad _|skip
    rename_i kd n;cases kd<;>first|exact .bad _|skip
    cases n<;>first|exact .bad _|exact(eM _ _).bind (.ret _)
   have hfb:∀cc l s i,Tot (vC cc l s i):=λcc l=>by
    induction l with
    |zero=>intro s i;exact .ret _
    |succ l ih =>
     intro s i;simp only[show vC cc (l+1) s i=λk=>(match Nat.beq (s%256) cc with|true=>k (.ofNat i)|false=>aW (s/256) λs'=>aW (i+1) λi'=>vC cc l s' i' k) from rfl];cases Nat.beq (s%256) cc
     ·exact(cQ _).bind λs'=>(cQ _).bind λi'=>ih s' i'
     ·exact .ret _
   have hcb:∀cc l s n,Tot (ba cc l s n):=λcc l=>by
    induction l with
    |zero=>intro s n;exact .ret _
    |succ l ih =>
     intro s n;simp only[show ba cc (l+1) s n=λk=>(match Nat.beq (s%256) cc with|true=>aW (s/256) λs'=>aW (n+1) λn'=>ba cc l s' n' k|false=>aW (s/256) λs'=>ba cc l s' n k) from rfl];cases Nat.beq (s%256) cc
     ·exact(cQ _).bind λs'=>ih s' n
     ·exact(cQ _).bind λs'=>(cQ _).bind λn'=>ih s' n'
   have ht:Tot (jr n args):=by
    unfold jr;split
    ·split
     ·exact(YU _).bind λl s=>(Lr _).bind λc=>(hfb _ _ _ _).bind λi=>.ret _
     ·exact .bad _
    ·split
     ·exact(YU _).bind λl s=>(Lr _).bind λc=>(hcb _ _ _ _).bind λi=>.ret _
     ·exact .bad _
    ·split
     ·exact .ret _
     ·exact .bad _
   rcases ht with⟨v,hv⟩|⟨b,hv⟩
   ·rw[hv] at e1
    obtain⟨m,hm⟩:=hk _ _ _ e1;refine⟨m,?_⟩;simp only[iQ,oM,hc,hv];exact hm
   ·rw[hv] at e1;cases e1
theorem aA5:∀(ps:List Q)(vs:List V)(t:T V)(k:T V->AA),XS ps vs t k=yy ps vs t k
 |[],[],t,k=>rfl
 |[],_::_,t,k=>rfl
 |_::_,[],t,k=>rfl
 |p::ps,v::vs,t,k=>by
  show Nc p v t (λt'=>XS ps vs t' k)=_;simp only[xz,aA5 ps vs,yy]
theorem aBr:∀(ps:List Q)(vs:List V)(t:T V),Tot (yy ps vs t)
 |[],[],t=>.ret t
 |[],_::_,t=>.bad _
 |_::_,[],t=>.bad _
 |p::ps,v::vs,t=>(show Tot (pV v p t) from .inl ⟨_,λk=>U1 v p t k⟩).bind λt'=>aBr ps vs t'
theorem aF2{cl:Cl}{BC:Kr}{args:List V}{h:T O}{nx:Q}(B5:oz fe r cl)(hk:ax fe r false (c::cs) BC)(e:zf cl l args h nx BC=.ok r):∃m,dJ fe (run fe m) (.yld l) args (c::cs) h nx=.ok r:=by
 unfold zf at e;simp only[gM,bV,nR] at e;obtain⟨st,pend,fn,tm,ps,BW,body,B8,ho,e1⟩:=gF e;rw[aA5] at e1;rcases aBr ps args tm with⟨BA,ht⟩|⟨b,ht⟩
 ·rw[ht] at e1
  have OC:∀k,(∀id kf kn,fB id k kf kn=kn)->CxOK fe r fn false (some l) (c::cs) ⟨cl,fn,some l,[],eZ,BC⟩ k:=λk Sb =>
   ⟨rfl,rfl,B5,λid=>.inr ⟨rfl,λkf kn=>Sb id kf kn⟩,λh0=>(by cases h0),λl' h0=>(by cases h0;exact⟨c,cs,rfl,hk⟩),λh0=>(by cases h0)⟩
  have FJ:j4 fe r fn false (some l) (c::cs) (λ_ s=>OZ l .none 0 true BC s) .nil:=λtm h nx ds e0=>by
   obtain⟨m,hm⟩:=jm (st:=0) (b:=true) (ds:=ds) rfl hk e0;exact⟨m+1,hm⟩
  have DN:j4 fe r fn false (some l) (c::cs) (aJw cl l fn body BC) (.begin (.code body .nil)):=λtm h nx ds e0=>by
   have e2:F7 l h (λob=>qA ob λst pend F8 BA params BW GS B8=>CV (Nat.beq st 0) 104 (ES l (.loop (.mk 1 pend F8 BA params BW GS B8)) h λh' =>
    vi (KE body) ⟨cl,fn,some l,[],eZ,BC⟩ (λ_ s=>OZ l .none 0 true BC s) tm ⟨h',nx,ds⟩))=.ok r:=e0
   simp only[gM,bV,nR,cJ,iP,cM] at e2;obtain⟨st,pend,F8,BA,ps',RH,GS,B8,ho,e3⟩:=gF e2;obtain⟨h1,e4⟩:=bW e3;obtain⟨m,hm⟩:=ny body fn false (some l) (c::cs) _ .nil _ (OC .nil λ_ _ _=>rfl) FJ _ _ _ _ e4;refine⟨m+1,?_⟩;simp only[dL,aD,bV,ho,mV,h1,gd,cM];exact hm
  obtain⟨m,hm⟩:=ny BW fn false (some l) (c::cs) _ (.begin (.code body .nil)) _ (OC _ λ_ _ _=>rfl) DN _ _ _ _ e1;refine⟨m,?_⟩;simp only[dJ,bV,ho,mV,ht];exact hm
 ·rw[ht] at e1;cases e1
theorem aLb{cl:Cl}(B5:oz fe r cl):oz fe r (aOx fe cl):=by
 constructor
 ·intro fv args c cs h nx BC hk e
  cases fv<;>try(cases e;done)
  ·rename_i q fs caps
   have e1:OY fs args caps (λl=>RE (fe q) cl q l false h nx BC)=.ok r:=e;rw[gh] at e1;obtain⟨m,hm⟩:=aD5 B5 hk (λh0=>by cases h0) e1;refine⟨m,?_⟩;simp only[dJ,fL];exact hm
  ·exact aF2 B5 hk e
 ·intro g args f2 Ht H6 E8 CU cs h nx BC hk e
  have e1:OY [] args [] (λl=>RE (fe g) cl g l true h nx BC)=.ok r:=e;rw[gh] at e1;simp only[Bl,Bv] at e1;exact aD5 B5 hk (λ_=>⟨f2,Ht,H6,E8,CU,cs,rfl⟩) e1
theorem qo:∀n,oz fe r (qm fe n)
 |0=>⟨λ_ _ _ _ _ _ _ _ e=>(by cases e),λ_ _ _ _ _ _ _ _ _ _ _ _ e=>(by cases e)⟩
 |n+1=>aLb (qo n)
theorem aIG{n:Nat}{g:Q}{args:List V}{nx:Q}{body:C}{rs:List RV}(hg:fe g=.mk body rs)(e:runF fe (n+1) g args nx=.ok r):∃m,xJ args .e .nil (λtm=>run fe m g false none [] tm (.code body .nil) [] .nil nx)=.ok r:=by
 have e1:OY [] args [] (λl=>RE (fe g) (qm fe n) g l false .nil nx λv h _=>.ok (fin v h))=.ok r:=e;rw[gh,hg] at e1;simp only[Bl,Bv] at e1;have e2:cy args 0 .nil (λtm=>jo (vi (KE body)) (qm fe n) g tm .nil nx (zg (qm fe n) rs λv h _=>.ok (fin v h)))=.ok r:=e1;rw[qb,lG] at e2;obtain⟨m,hm⟩:=aAj (dk:=false) (cs:=[]) (qo n) hg (λv h nx e0=>⟨0,e0⟩) (λh0=>by cases h0) e2;exact⟨m,by rw[lG];exact hm⟩
end
end Go.CM
end
