import Derived.Test.YtdkkaldimefljaaGreatDoorT03
import Derived.Shelf.SlicesQ.Reverse
import Derived.Test.YtdkkaldimefljaaGreatDoorT02
import Derived.Test.YtdkkaldimefljaaGreatDoorL02
set_option linter.all false
set_option maxRecDepth 100000
set_option maxHeartbeats 8000000
namespace Go.Proofs.YtdkkaldimefljaaGreatDoor
open Go.AM
variable [Aps]
structure RaD where
 a:Value
 b:Value
 c:Value
 ok:oneC a=true/\oneC b=true/\oneC c=true
def RaD.enc(u:RaD):AVal:=.agg [.raw u.a,.raw u.b,.raw u.c]
def kF:List RaD->AVal
 |[]=>.agg [.str nilS,.int .i64 0,.slice []]
 |u::us=>.agg [.str u6,.int .i64 0,.slice [u.enc,kF us]]
def lV:List RaD->List AVal
 |[]=>[.str nilS,.int .i64 0,.slice []]
 |u::us=>[.str u6,.int .i64 0,.slice [u.enc,kF us]]
theorem aOt(v:Value):(AVal.raw v).cells=[.raw v]:=rfl
attribute [local go_sem] aOt
theorem aOc(l:List RaD)(sto:AN):CF (.fn 115) [.val (kF l)] sto=some (.ret (.val (.func 161 [.loc sto.objs.length 0])),⟨sto.objs++[.box ((lV l).map .val)],sto.lo⟩):=by
 cases l with
 |nil =>
  simp only[kF,lV,Aw,Au];apply tA;rfl;rfl;exact Tryz.func115;rfl;rfl;simp only[go_sem];rfl;refine tQ ?_;repeat first|with_reducible constructor|with_reducible refine tW rfl ?_|((with_reducible apply tG);(·kernel_rfl);(·(intro _ _;(repeat (apply CH;(·(intro _;simp only[FL,FO,go_sem];rfl))));rfl));(·(simp only[go_sem];rfl)))
  refine RT (t:=2) rfl rfl rfl ?_;simp only[lok,Er,lokF,Rl,Ef]
 |cons u us =>
  simp only[kF,lV,Aw,Au];apply tA;rfl;rfl;exact Tryz.func115;rfl;rfl;simp only[go_sem];rfl;refine tQ ?_;repeat first|with_reducible constructor|with_reducible refine tW rfl ?_|((with_reducible apply tG);(·kernel_rfl);(·(intro _ _;(repeat (apply CH;(·(intro _;simp only[FL,FO,go_sem];rfl))));rfl));(·(simp only[go_sem];rfl)))
  refine RT (t:=2) rfl rfl rfl ?_;simp only[lok,Er,lokF,Rl,Ef]
theorem aEY{A:Type}{j a:Nat}(S:List RaD->A->AN)(step:A->RaD->A)(I:A->Nat->Prop)(ha:∀v x,(S v x).objs[a]?=some (.box ((lV v).map .val)))(AW:∀v x,(S v x).lo<=a)
  (dA:∀v w x,({ S v x with objs:=(S v x).objs.set a (.box ((lV w).map .val)) }:AN)=S w x) (hI:∀x n y,I x (n+1)->I (step x y) n)
  (hy:∀v x n y,I x (n+1)->CF (.yld j) [.val y.enc] (S v x)=some (.ret (.val (.bool true)),S v (step x y))):∀(l:List RaD)(x:A),I x l.length ->
  ∃s0 s1 s5 s12,LP 161 (cG Tryz.f161 0) ⟨[.val (.yld j),.val (.loc a 0),.dead,.dead],S l x⟩=some (.exit 0,⟨[s0,s1,s5,s12],S [] (l.foldl step x)⟩):=by
 intro l;induction l with
 |nil =>
  intro x hx;have BP:=ha [] x;simp only[lV,nilS,Au,Aw] at BP;simp only[Hc];(iterate 4 apply Exists.intro);refine tI rfl ?_;exact wk;all_goals exact .dead
 |cons y ys ih =>
  intro x hx;have BP:=ha (y::ys) x;have EY:=ha (y::ys) (step x y);have hle:=Aj (AW (y::ys) (step x y));have hs:=dA (y::ys) ys (step x y);have hc:=hy (y::ys) x _ y hx;obtain⟨s0,s1,s5,s12,ih⟩:=ih (step x y) (hI _ _ _ hx);generalize hS1:S (y::ys) x=S1 at *;generalize hS2:S (y::ys) (step x y)=S2 at *;simp only[Dy];rw[<-hs] at ih;simp only[lV,u6,Aw,Au] at BP EY;simp only[RaD.enc] at BP EY hc;cases ys with
  |nil =>
   simp only[kF,lV,Aw,Au] at BP EY ih;refine⟨s0,s1,s5,s12,?_⟩;refine tI rfl ?_;exact wk
  |cons y2 ys =>
   simp only[kF,lV,Aw,Au] at BP EY ih;refine⟨s0,s1,s5,s12,?_⟩;refine tI rfl ?_;exact wk
theorem aOf{A:Type}{j a:Nat}(S:List RaD->A->AN)(step:A->RaD->A)(I:A->Nat->Prop)(ha:∀v x,(S v x).objs[a]?=some (.box ((lV v).map .val)))(AW:∀v x,(S v x).lo<=a)
  (dA:∀v w x,({ S v x with objs:=(S v x).objs.set a (.box ((lV w).map .val)) }:AN)=S w x) (hI:∀x n y,I x (n+1)->I (step x y) n)
  (hy:∀v x n y,I x (n+1)->CF (.yld j) [.val y.enc] (S v x)=some (.ret (.val (.bool true)),S v (step x y))) (l:List RaD) (x:A) (hx:I x l.length) :
  CF (.fn 161) [.val (.yld j),.val (.loc a 0)] (S l x)=some (.ret (.tup []),⟨(S [] (l.foldl step x)).objs.take (S l x).objs.length,(S [] (l.foldl step x)).lo⟩):=by
 obtain⟨s0,s1,s5,s12,CC⟩:=aEY S step I ha AW dA hI hy l x hx;apply tA;rfl;rfl;exact Tryz.func161;rfl;rfl;simp only[go_sem];rfl;refine tQ ?_;repeat first|with_reducible constructor|with_reducible refine tW rfl ?_
 apply tL;exact CC;exact wk
noncomputable def mZ(O:List AObj)(lo:Nat)(tm:List Slot)(v:List RaD)(X:List AVal):AN :=
 ⟨O++[.box ((lV v).map .val),.box [.own 3 X],.loop (kG 160 Tryz.f160 0 tm none .ready)],lo⟩
theorem aP3{O:List AObj}{lo:Nat}(AW:lo<=O.length){X:List AVal}(hX:X.length+1<BE){v:List RaD}{y:RaD}{s0 s1 s4 s5 s6 s7} :
  CF (.yld (O.length+2)) [.val y.enc] (mZ O lo [s0,s1,.val (.loc (O.length+1) 0),s4,s5,s6,s7] v X)=some (.ret (.val (.bool true)),mZ O lo [s0,s1,.val (.loc (O.length+1) 0),s4,s5,s6,s7] v (X++[y.enc])):=by
 have G5:Nat.ble lo O.length=true:=Aj (by omega);have DD:Nat.ble lo (O.length+1)=true:=Aj (by omega);have hr:Nat.ble (X.length+1) room=true:=Aj (by simp only[BE] at hX;unfold room;omega);simp only[RaD.enc];unfold mZ;apply tY
 ·(simp only[FL,FO];try rfl)
 ·rfl
 ·kernel_rfl
 ·first|assumption|(apply Aj;(try simp only[FL,FO]);omega)
 ·(simp only[cS,List.zip,List.zipWith,Eu,Fz,go_sem];rfl)
 refine tQ ?_;repeat first|with_reducible constructor|with_reducible refine tW rfl ?_|((with_reducible apply tG);(·kernel_rfl);(·(intro _ _;(repeat (apply CH;(·(intro _;simp only[FL,FO,go_sem];rfl))));rfl));(·(simp only[go_sem];rfl)))
 apply Ob
 ·(simp only[FL,FO];try rfl)
 ·(simp only[FL,FO];try rfl)
 refine tQ ?_;repeat first|with_reducible constructor|with_reducible refine tW rfl ?_
 apply aPE (sz:=3)
 ·kernel_rfl
 ·kernel_rfl
 ·simp only[go_sem];rfl
 ·simp only[go_sem];rfl
 ·simp only[FL,FO];rfl
 ·simp only[FL,FO,hr,DD,go_sem];rfl
 simp only[FL,FO];repeat first|with_reducible constructor|with_reducible refine tW rfl ?_
 exact GJ
theorem yH:∀(l:List RaD)(X:List AVal),l.foldl (λX y=>X++[y.enc]) X=X++l.map RaD.enc
 |[],X=>by simp
 |y::l,X=>by simp[yH l]
theorem aOe(l:List RaD)(hl:l.length+1<BE)(O:List AObj)(lo:Nat)(AW:lo<=O.length) :
  CF (.fn 160) [.nl,.val (.func 161 [.loc O.length 0])] ⟨O++[.box ((lV l).map .val)],lo⟩=some (.ret (.own 3 (l.map RaD.enc)),⟨O++[.box ((lV []).map .val)],lo⟩):=by
 have G5:Nat.ble lo O.length=true:=Aj (by omega);have DD:Nat.ble lo (O.length+1)=true:=Aj (by omega)
 have hc:=λs0 s1 s4 s5 s6 s7=>aOf (A:=List AVal) (j:=O.length+2) (a:=O.length) (λv X=>mZ O lo [s0,s1,.val (.loc (O.length+1) 0),s4,s5,s6,s7] v X) (λX y=>X++[y.enc]) (λX n=>X.length+n<BE)
  (λv X=>by simp only[mZ,FL,FO]) (λv X=>by simp only[mZ];omega) (λv w X=>by simp only[mZ,FL,FO]) (λX n y h=>by simp at h ⊢;omega) (λv X n y h=>aP3 AW (by omega) (s0:=s0) (s1:=s1) (s4:=s4) (s5:=s5) (s6:=s6) (s7:=s7)) l [] (by simp;omega)
 have e0:l.foldl (λ(X:List AVal)(y:RaD)=>X++[y.enc]) []=l.map RaD.enc:=by rw[yH];simp
 simp only[e0] at hc;simp only[mZ,FL,FO] at hc;generalize(lV l).map Cell.val=C at *;generalize(lV []).map Cell.val=C0 at *;apply tA;rfl;rfl;exact Tryz.func160;rfl;rfl;simp only[go_sem];rfl;refine tQ ?_;repeat first|with_reducible constructor|with_reducible refine tW rfl ?_|((with_reducible apply tG);(·kernel_rfl);(·(intro _ _;(repeat (apply CH;(·(intro _;simp only[FL,FO,G5,DD,De,Bk,go_sem];rfl))));rfl));(·(simp only[go_sem];rfl)))
 with_reducible apply Nq
 ·rfl
 ·simp only[FL,FO]
  exact hc _ _ _ _ _ _
 ·simp only[FL,FO]
  rfl
 ·simp only[FL,FO]
  rfl
 refine tQ ?_;repeat first|with_reducible constructor|with_reducible refine tW rfl ?_|((with_reducible apply tG);(·kernel_rfl);(·(intro _ _;(repeat (apply CH;(·(intro _;simp only[FL,FO,G5,DD,Bk,go_sem];rfl))));rfl));(·(simp only[go_sem];rfl)))
 refine(yE rfl rfl rfl).trans ?_;simp only[FL,FO]
theorem aOb(l:List RaD)(hl:l.length+1<BE)(O:List AObj)(lo:Nat)(AW:lo<=O.length) :
  CF (.fn 114) [.val (.func 161 [.loc O.length 0])] ⟨O++[.box ((lV l).map .val)],lo⟩=some (.ret (.own 3 (l.map RaD.enc)),⟨O++[.box ((lV []).map .val)],lo⟩):=by
 have N6:=aOe l hl O lo AW;apply tA;rfl;rfl;exact Tryz.func114;rfl;rfl;simp only[go_sem];rfl;refine tQ ?_;repeat first|with_reducible constructor|with_reducible refine tW rfl ?_|((with_reducible apply tG);(·kernel_rfl);(·(intro _ _;(repeat (apply CH;(·(intro _;simp only[N6,go_sem];rfl))));rfl));(·(simp only[go_sem];rfl)))
 refine(yE rfl rfl rfl).trans ?_;simp only[FL,FO]
theorem aQ8(l:List RaD)(hl:l.length+1<BE)(sto:AN)(AW:sto.lo<=sto.objs.length):CF (.fn 57) [.val (kF l)] sto=some (.ret (.own 3 (l.map RaD.enc)),sto):=by
 have FM:=λs=>aOc l s
 have Lg:=aOb l hl sto.objs sto.lo AW;cases l with
 |nil =>
  simp only[kF,lV,Aw,Au] at *;apply tA;rfl;rfl;exact Tryz.func57;rfl;rfl;simp only[go_sem];rfl;refine tQ ?_;repeat first|with_reducible constructor|with_reducible refine tW rfl ?_|((with_reducible apply tG);(·kernel_rfl);(·(intro _ _;(repeat (apply CH;(·(intro _;simp only[FM,Lg,go_sem];rfl))));rfl));(·(simp only[go_sem];rfl)))
  exact qQ [_] (yE rfl rfl rfl)
 |cons u us =>
  simp only[kF,lV,Aw,Au] at *;apply tA;rfl;rfl;exact Tryz.func57;rfl;rfl;simp only[go_sem];rfl;refine tQ ?_;repeat first|with_reducible constructor|with_reducible refine tW rfl ?_|((with_reducible apply tG);(·kernel_rfl);(·(intro _ _;(repeat (apply CH;(·(intro _;simp only[FM,Lg,go_sem];rfl))));rfl));(·(simp only[go_sem];rfl)))
  exact qQ [_] (yE rfl rfl rfl)
end Go.Proofs.YtdkkaldimefljaaGreatDoor
namespace Go.AM
variable {Z Z':HT}{w:World}{b o:Nat}
def nN(Z:HT)(b o:Nat)(cs:List AVal):HT:=λb' o' c'=>Z b' o' c'\/(b'=b/\∃p,o'=o+p/\cs[p]?=some c')
theorem oQ{cs:List AVal}:Z.le (nN Z b o cs):=λ_ _ _ h=>.inl h
theorem WSat.addRow(h:WSat Z w){cs:List AVal}(hc:∀(p:Nat) c,cs[p]?=some c->flat c=true/\∃v,w.cell? ⟨b,o+p,none⟩=some v/\VRel Z [] c v):WSat (nN Z b o cs) w :=
 ⟨h.size8,h.glob.mono oQ,h.len5,λb' o' c' e=>by
  rcases e with e|⟨rfl,p,rfl,e⟩
  ·obtain⟨h1,v,h2,h3⟩:=h.sat _ _ _ e
   exact⟨h1,v,h2,h3.mono oQ (aI _)⟩
  ·obtain⟨h1,v,h2,h3⟩:=hc p c' e
   exact⟨h1,v,h2,h3.mono oQ (aI _)⟩⟩
theorem VRel.agg3{c0 c1 c2:AVal}{v0 v1 v2:Value}(k0:c0.isCell=true)(k1:c1.isCell=true)(k2:c2.isCell=true)(h0:VRel Z [] c0 v0)(h1:VRel Z [] c1 v1)(h2:VRel Z [] c2 v2):VRel Z [] (.agg [c0,c1,c2]) (.agg ⟨[v0,v1,v2]⟩):=by
 refine .agg _ _ rfl (λi c h=>?_) (λi c v h h'=>?_)
 ·match i with
  |0=>cases h;exact k0
  |1=>cases h;exact k1
  |2=>cases h;exact k2
  |i+3=>cases h
 ·match i with
  |0=>cases h;cases h';exact h0
  |1=>cases h;cases h';exact h1
  |2=>cases h;cases h';exact h2
  |i+3=>cases h
theorem VRel.inv3{c0 c1 c2:AVal}{v:Value}(h:VRel Z [] (.agg [c0,c1,c2]) v):∃v0 v1 v2,v=.agg ⟨[v0,v1,v2]⟩/\VRel Z [] c0 v0/\VRel Z [] c1 v1/\VRel Z [] c2 v2:=by
 cases h with
 |agg _ vs hl hk hx =>
  match vs,hl with
  |[v0,v1,v2],_=>exact⟨v0,v1,v2,rfl,hx 0 _ _ rfl rfl,hx 1 _ _ rfl rfl,hx 2 _ _ rfl rfl⟩
end Go.AM
namespace Go.Proofs.YtdkkaldimefljaaGreatDoor
section
open Go.AM
theorem uw(us:List RaD):∃r0 r1 r2,kF us=.agg [r0,r1,r2]/\flat r0=true/\flat r1=true/\flat r2=true:=by
 cases us with
 |nil=>exact⟨_,_,_,rfl,rfl,rfl,rfl⟩
 |cons u us=>exact⟨_,_,_,rfl,rfl,rfl,rfl⟩
theorem aFU{Z:HT}{w:World}(hw:WSat Z w):∀(l:List VaD)(v:Value),VRel Z [] (aG l).enc v->∃(us:List RaD)(Z':HT),Z.le Z'/\WSat Z' w/\VRel Z' [] (kF us) v/\us.length=l.length /\
  ∀(i:Nat) x u,l[i]?=some x->us[i]?=some u->VRel Z [] x.enc (.agg ⟨[u.a,u.b,u.c]⟩)
 |[],v,h=>⟨[],Z,Z.le_refl,hw,by simpa only[aG,VaD.enc_mk,Au,kF] using h,rfl,λi x u h=>by simp at h⟩
 |y::ys,v,h=>by
  simp only[aG,VaD.enc_mk,Aw,Au] at h;obtain⟨v0,v1,v2,rfl,h0,h1,h2⟩:=h.inv3;have GO:=y.enc_eq;have het:=(aG ys).enc_eq
  have hs:∀x∈[y.enc,(aG ys).enc],x.cells.length=3:=λx hx=>by
   simp only[Bb,Ce,Eb] at hx;rcases hx with rfl|rfl
   ·rw[GO];rfl
   ·rw[het];rfl
  cases h2 with
  |slice _ a len cap s hl hc hx =>
  obtain⟨e1,e2,e3⟩:=(VRel.slice (J:=[]) _ a len cap s hl hc hx).rows hs;obtain⟨b,o,rfl,ht⟩:=e3 (by simp);obtain⟨vs,k1,k2,k3,k4⟩:=hw.row ht
  have hf:aM [y.enc,(aG ys).enc]=[.str y.con,.int .i64 y.num,.slice (y.args.map VaD.enc),.str (aG ys).con,.int .i64 (aG ys).num,.slice ((aG ys).args.map VaD.enc)]:=by
   rw[GO,het];rfl
  rw[hf] at k1 k4
  match vs,k1 with
  |[u0,u1,u2,t0,t1,t2],_ =>
  have hy:VRel Z [] y.enc (.agg ⟨[u0,u1,u2]⟩):=by rw[GO];exact .agg3 rfl rfl rfl (k4 0 _ _ rfl rfl).2 (k4 1 _ _ rfl rfl).2 (k4 2 _ _ rfl rfl).2
  have VJ:VRel Z [] (aG ys).enc (.agg ⟨[t0,t1,t2]⟩):=by rw[het];exact .agg3 rfl rfl rfl (k4 3 _ _ rfl rfl).2 (k4 4 _ _ rfl rfl).2 (k4 5 _ _ rfl rfl).2
  obtain⟨us,Z1,hle,DJ,hr,hlen,GD⟩:=aFU hw ys _ VJ;obtain⟨r0,r1,r2,er,f0,f1,f2⟩:=uw us;rw[er] at hr;obtain⟨x0,x1,x2,ex,g0,g1,g2⟩:=hr.inv3;cases ex
  let row:List AVal:=[.raw u0,.raw u1,.raw u2,r0,r1,r2]
  have Jg:∀(p:Nat) c,row[p]?=some c->flat c=true/\∃v,w.cell? ⟨b,o+p,none⟩=some v/\VRel Z1 [] c v:=λp c hc=>by
   match p with
   |0=>cases hc;exact⟨rfl,u0,k2 0 _ rfl,.raw _ (k3 _ (by simp))⟩
   |1=>cases hc;exact⟨rfl,u1,k2 1 _ rfl,.raw _ (k3 _ (by simp))⟩
   |2=>cases hc;exact⟨rfl,u2,k2 2 _ rfl,.raw _ (k3 _ (by simp))⟩
   |3=>cases hc;exact⟨f0,t0,k2 3 _ rfl,g0⟩
   |4=>cases hc;exact⟨f1,t1,k2 4 _ rfl,g1⟩
   |5=>cases hc;exact⟨f2,t2,k2 5 _ rfl,g2⟩
   |p+6=>cases hc
  refine⟨⟨u0,u1,u2,k3 _ (by simp),k3 _ (by simp),k3 _ (by simp)⟩::us,nN Z1 b o row,HT.le_trans hle oQ,DJ.addRow Jg,?_,by simp[hlen],λi x u h1 h2=>?_⟩
  ·simp only[kF]
   refine .agg3 rfl rfl rfl ?_ ?_ ?_
   ·cases h0;exact .str _
   ·cases h1;exact .int _ _
   ·refine .of_rows (s:=3) hl hc (λx hx=>?_) λ_=>⟨b,o,rfl,λp c hc=>.inr ⟨rfl,p,rfl,?_⟩⟩
    ·simp only[Bb,Ce,Eb] at hx
     rcases hx with rfl|rfl
     ·rfl
     ·rw[er];rfl
    ·rw[er] at hc
     exact hc
  ·cases i with
   |zero=>cases h1;cases h2;exact hy
   |succ i=>exact GD i x u h1 h2
open Go.Shelf
def ren63:Go.Shelf.Ren:=⟨fun|35=>63|n=>n,fun|22=>25|23=>27|n=>n,λn=>n⟩
theorem aES:SlLaysE0.n35 Tryz.prog ren63:={
 mixed:=by kernel_rfl
 f35:=⟨ "slices.Reverse[[]restitch/api.Value,restitch/api.Value]",by decide,Tryz.func63.trans (Ar some (by kernel_rfl))⟩
 t0:=Tryz.underlying0
 a0:=Tryz.isAgg0
 z0:=Tryz.sizeOf0
 v0:=Tryz.zeroValue0
 t3:=Tryz.underlying3
 a3:=Tryz.isAgg3
 z3:=Tryz.sizeOf3
 v3:=Tryz.zeroValue3
 t4:=Tryz.underlying4
 a4:=Tryz.isAgg4
 z4:=Tryz.sizeOf4
 v4:=Tryz.zeroValue4
 t22:=Tryz.underlying25
 a22:=Tryz.isAgg25
 z22:=Tryz.sizeOf25
 v22:=Tryz.zeroValue25 }
instance:Inhabited RaD:=⟨⟨.bool false,.bool false,.bool false,rfl,rfl,rfl⟩⟩
def v8(u:RaD):List Value:=[u.a,u.b,u.c]
theorem uH{v:Value}(h:oneC v=true):v.oneCell'=true:=by cases v<;>first|rfl|cases h
theorem aNy(w:World):(isAgg (ren63.t 23)).run Tryz.prog w=.ok true w:=Tryz.isAgg27 w
theorem aPs(w:World):(Go.sizeOf (ren63.t 23)).run Tryz.prog w=.ok 3 w:=Tryz.sizeOf27 w
theorem aHe(us:List RaD)(blk off cap:Nat)(w:World)(hH:Sort.HoldsK v8 3 w blk off us.toArray)(BG:us.length<BE) :
  Calls Tryz.prog 63 #[.slice (some ⟨blk,off,none⟩) us.length cap] w λe w'=>e=.returned (.tuple #[])/\∃n,w'=Sort.putRowK v8 3 (Sort.ahead w n) blk off us.reverse.toArray:=by
 have:=AnyQ.slices_Reverse aES 3 aNy aPs v8 (λ_=>rfl) (λu v hv=>by
  simp only[v8,Bb,Ce,Eb] at hv;rcases hv with rfl|rfl|rfl
  ·exact uH u.ok.1
  ·exact uH u.ok.2.1
  ·exact uH u.ok.2.2) blk off cap us.toArray w hH (by simp only[BE] at BG;simp;omega)
 simp only[Fo,List.reverse_toArray] at this;exact this
theorem qq(a:Option Addr)(cap:Nat)(w:World):Calls Tryz.prog 63 #[.slice a 0 cap] w λe w'=>e=.returned (.tuple #[])/\w'=w:=AnyQ.slices_Reverse_empty aES a cap w
end
section
open Go.AM
variable [Aps]
attribute [local go_sem] aOt
noncomputable def Sv:Code:=(Tryz.f62.body).getD .skip
noncomputable def Ul:Code:=kB Sv
noncomputable def SI:Code:=kB (dX Sv)
noncomputable def Lv:Code:=kB (dX (dX Sv))
noncomputable def Ky:Code:=kB (dX (dX (dX Sv)))
theorem aQK:Tryz.f62.body=some (.seq Ul (.seq SI (.seq Lv (.seq Ky .ret)))):=by kernel_rfl
abbrev zB:Slot:=.box [.val (.str []),.val (.int .i64 0),.own 3 []]
abbrev zC:Slot:=.box [.val (.str []),.val (.int .i64 0),.val (.slice [])]
theorem aRc(x:AVal):XK Tryz.prog ans CF LP 62 Ul ⟨[.val (.slice [x]),.dead,.dead],⟨[],0⟩⟩ rC=some (.norm,⟨[.val (.slice [x]),zB,.dead],⟨[],0⟩⟩):=by
 show XK _ _ _ _ _ (.region _ _ _) _ _=_;exact wk
theorem aRd(us:List RaD)(hl:us.length+1<BE):XK Tryz.prog ans CF LP 62 SI ⟨[.val (.slice [kF us]),zB,.dead],⟨[],0⟩⟩ rC=some (.norm,⟨[.val (.slice [kF us]),zB,.own 3 (us.map RaD.enc)],⟨[],0⟩⟩):=by
 have KY:=aQ8 us hl ⟨[],0⟩ (Ae _);cases us with
 |nil =>
  simp only[kF,Au] at *;show XK _ _ _ _ _ (.region _ _ _) _ _=_;exact wk
 |cons u us =>
  simp only[kF,Aw] at *;show XK _ _ _ _ _ (.region _ _ _) _ _=_;exact wk
theorem aRe(l:List VaD)(hl:l.length<BE):XK Tryz.prog ans CF LP 62 Ky ⟨[.dead,zC,.val (.slice (l.map VaD.enc))],⟨[],0⟩⟩ rC=some (.norm,⟨[.dead,.box (bM (aG l)),.val (.slice (l.map VaD.enc))],⟨[],0⟩⟩):=by
 have Ia:=Ng l hl ⟨[],0⟩ (Ae _);simp only[bM];rw[VaD.enc_eq (aG l)] at Ia;show XK _ _ _ _ _ (.region _ _ _) _ _=_;exact wk
end
section
open Go.AM Go.RowKit
noncomputable def o62:Array Oper:=aF0 Lv
theorem aRF:Lv=.region (vg Lv) o62 false:=by kernel_rfl
theorem aAW:o62.size=2:=by kernel_rfl
noncomputable def RO(i:Nat):Oper:=o62.getD i ⟨none,.move (.tmp 0),0,default,#[],none⟩
theorem aJJ{i:Nat}(h:i<2):o62[i]?=some (RO i):=by
 have h':i<o62.size:=by rw[aAW];exact h
 simp[RO,Array.getD,h']
noncomputable def aNZ(o:Oper):Array TypeId:=match o.op with
 |.call c=>c.argTypes
 |_=>#[]
theorem j0:Is (RO 0) (some 8) (.move (.tmp 3)):=⟨by kernel_rfl,by kernel_rfl,by kernel_rfl⟩
theorem j1:Is (RO 1) (some 9) (.call ⟨.value (.func 63),#[.tmp 8],aNZ (RO 1)⟩):=⟨by kernel_rfl,by kernel_rfl,by kernel_rfl⟩
theorem aMF{Z:HT}{w:World}(hw:WSat Z w)(l:List VaD)(v:Value)(h:VRel Z [] (.slice [(aG l).enc]) v):∃(us:List RaD)(Z':HT),Z.le Z'/\WSat Z' w/\VRel Z' [] (.slice [kF us]) v/\us.length=l.length /\
  ∀(i:Nat) x u,l[i]?=some x->us[i]?=some u->VRel Z [] x.enc (.agg ⟨[u.a,u.b,u.c]⟩):=by
 have het:=(aG l).enc_eq;have hs:∀x∈[(aG l).enc],x.cells.length=3:=λx hx=>by rw[Bz.1 hx,het];rfl
 cases h with
 |slice _ a len cap s hl hc hx =>
 obtain⟨e1,e2,e3⟩:=(VRel.slice (J:=[]) _ a len cap s hl hc hx).rows hs;obtain⟨b,o,rfl,ht⟩:=e3 (by simp);obtain⟨vs,k1,k2,k3,k4⟩:=hw.row ht;have hf:aM [(aG l).enc]=[.str (aG l).con,.int .i64 (aG l).num,.slice ((aG l).args.map VaD.enc)]:=by rw[het];rfl
 rw[hf] at k1 k4
 match vs,k1 with
 |[t0,t1,t2],_ =>
 have VJ:VRel Z [] (aG l).enc (.agg ⟨[t0,t1,t2]⟩):=by rw[het];exact .agg3 rfl rfl rfl (k4 0 _ _ rfl rfl).2 (k4 1 _ _ rfl rfl).2 (k4 2 _ _ rfl rfl).2
 obtain⟨us,Z1,hle,DJ,hr,hlen,GD⟩:=aFU hw l _ VJ;obtain⟨r0,r1,r2,er,f0,f1,f2⟩:=uw us;rw[er] at hr;obtain⟨x0,x1,x2,ex,g0,g1,g2⟩:=hr.inv3;cases ex
 have Jg:∀(p:Nat) c,[r0,r1,r2][p]?=some c->flat c=true/\∃v,w.cell? ⟨b,o+p,none⟩=some v/\VRel Z1 [] c v:=λp c hc=>by
  match p with
  |0=>cases hc;exact⟨f0,t0,k2 0 _ rfl,g0⟩
  |1=>cases hc;exact⟨f1,t1,k2 1 _ rfl,g1⟩
  |2=>cases hc;exact⟨f2,t2,k2 2 _ rfl,g2⟩
  |p+3=>cases hc
 refine⟨us,nN Z1 b o [r0,r1,r2],HT.le_trans hle oQ,DJ.addRow Jg,?_,hlen,GD⟩;refine .of_rows (s:=3) hl hc (λx hx=>?_) λ_=>⟨b,o,rfl,λp c hc=>.inr ⟨rfl,p,rfl,?_⟩⟩
 ·rw[Bz.1 hx,er];rfl
 ·rw[er] at hc;exact hc
theorem aPo{w:World}{N:Nat}{Z:HT}{ow:Own}{us:List RaD}{v:Value}(hw:WSat Z w)(ho:OwnRel w N Z ow (false,3,1) 3 (us.map RaD.enc) v)(hl:us.length<BE){bx:Nat}(Sj:ow bx=some (false,2,0))(hN:N<=bx)(c:Frame)(cs:List Frame) :
  ∃w' b o cap a,Steps Tryz.prog (lone (Frame.enter Tryz.prog 63 #[v] .normal) (c::cs) w) (lone (c.finish (.tuple #[])) cs w')/\v=.slice a us.length cap/\us.length<=cap/\(us≠[]->a=some ⟨b,o,none⟩)/\N<=b/\b≠bx /\
   w'.heap.size=w.heap.size/\(∀b',b'≠b->w'.heap[b']?=w.heap[b']?)/\w'.os=w.os/\w'.tape=w.tape/\w'.output=w.output /\
   ∀i j,i<us.length->j<3->w'.cell? ⟨b,o+i*3+j,none⟩=some ((v8 us.reverse[i]!)[j]!):=by
 obtain⟨hx,C9,a,len,cap,rfl,CX⟩:=ho;obtain⟨e1,e2,e3⟩:=hx.rows C9;rw[Cb] at e1;subst e1;rcases CX with⟨he,rfl⟩|⟨b,o,hc,T,rfl,h1,h2,h3,h4,h5⟩
 ·obtain rfl:us=[]:=Gk.1 he
  obtain⟨w',v',⟨rfl,rfl⟩,hs⟩:=fG (R:=λv' w'=>v'=.tuple #[]/\w'=w) ((qq a 0 w).mono λe w' h=>⟨_,h.1,rfl,h.2⟩) c cs;exact⟨_,bx+1,0,0,a,hs,rfl,Ae _,λh=>absurd rfl h,by omega,by omega,rfl,λ_ _=>rfl,rfl,rfl,rfl,λi j hi=>by simp at hi⟩
 ·by_cases BD:us=[]
  ·subst BD
   obtain⟨w',v',⟨rfl,rfl⟩,hs⟩:=fG (R:=λv' w'=>v'=.tuple #[]/\w'=w) ((qq (some ⟨b,o,none⟩) cap w).mono λe w' h=>⟨_,h.1,rfl,h.2⟩) c cs;exact⟨_,bx+1,0,cap,_,hs,rfl,e2,λh=>absurd rfl h,by omega,by omega,rfl,λ_ _=>rfl,rfl,rfl,rfl,λi j hi=>by simp at hi⟩
  ·obtain⟨b',o',ha,ht⟩:=e3 (by simpa using BD)
   obtain⟨rfl,rfl⟩:b=b'/\o=o':=by simpa using ha
   have hH:Sort.HoldsK v8 3 w b o us.toArray:=λp hp=>by
    rw[Sort.size_flatK] at hp;have LV:p<us.length*3:=by simpa using hp
    rw[Sort.get_flatK _ _ _ _ hp];have hi:p/3<us.length:=by omega
    have hj:p%3<3:=Fc _ (by omega);have hg:(us.map RaD.enc)[p/3]?=some (us[p/3]).enc:=by rw[Ao,Bf hi];rfl
    have hfc:=gB C9 hg hj;rw[show p/3*3+p%3=p by omega] at hfc;have hgu:us.toArray[p/3]! =us[p/3]:=by simp[hi]
    rw[hgu]
    have key:∀k,k<3->∃x,(us[p/3]).enc.cells[k]?=some (.raw x)/\(v8 us[p/3])[k]! =x:=λk hk=>by
     match k,hk with
     |0,_=>exact⟨_,rfl,rfl⟩
     |1,_=>exact⟨_,rfl,rfl⟩
     |2,_=>exact⟨_,rfl,rfl⟩
    obtain⟨x,kx,ky⟩:=key _ hj;rw[ky];obtain⟨_,y,y1,y2⟩:=hw.sat _ _ _ (ht p _ (hfc.trans kx));cases y2;refine⟨y1,?_⟩;simp only[World.frozen?,h2];simp
   obtain⟨w',v',⟨rfl,n,rfl⟩,hs⟩:=fG (R:=λv' w'=>v'=.tuple #[]/\∃n,w'=Sort.putRowK v8 3 (Sort.ahead w n) b o us.reverse.toArray) ((aHe us b o cap w hH hl).mono λe w' h=>⟨_,h.1,rfl,h.2⟩) c cs;have hH2:Sort.HoldsK v8 3 (Sort.putRowK v8 3 (Sort.ahead w n) b o us.reverse.toArray) b o us.reverse.toArray:=Sort.holdsK_putRowK v8 3 _ b o us.toArray _ (Sort.holdsK_ahead v8 3 w n b o _ hH) (by simp);refine⟨_,b,o,cap,_,hs,rfl,e2,λ_=>rfl,h3,(λe=>by rw[e,Sj] at h1;cases h1),?_,λb' AX=>?_,rfl,rfl,rfl,λi j hi hj=>?_⟩
   ·simp[Sort.putRowK,Sort.putRow,Sort.mapBlock,Sort.ahead]
   ·simp only[Sort.putRowK,Sort.putRow,Sort.mapBlock,Sort.ahead,Da]
    rw[Ax (Co AX)]
   ·have:=(hH2.cell (i:=i) (c:=j) (by simpa using hi) hj).1
    rw[this];simp[hi]
end
end Go.Proofs.YtdkkaldimefljaaGreatDoor
namespace Go.AM
variable {Z:HT}{w w':World}{b o:Nat}
theorem yO{cs:List AVal}{b':Nat}(h:b'≠b)(o':Nat):nN Z b o cs b' o'=Z b' o':=by
 funext c;exact propext ⟨λe=>e.elim id λe=>absurd e.1 h,.inl⟩
end Go.AM
namespace Go.Proofs.YtdkkaldimefljaaGreatDoor
open Go.AM Go.RowKit
def fr62:Frame:={ (default:Frame) with fn:=62,kind:=.normal,roundOf:=none }
theorem aPn{tm:Array Value}{w:World}{b:Nat}{s v:Value}{n:Int}{T:TypeId}(h:w.heap[b]?=some (.cells #[s,.int .i64 n,v] T (0,0)))(e:tm.getD 2 undef=.pointer (some ⟨b,0,none⟩)) :
  (results Tryz.f62 tm).run Tryz.prog w=.ok (.agg #[s,.int .i64 n,v]) w:=by
 have c0:w.cell? ⟨b,0,none⟩=some s:=(cell_of_heap h 0).trans rfl;have c1:w.cell? ⟨b,1,none⟩=some (.int .i64 n):=(cell_of_heap h 1).trans rfl;have c2:w.cell? ⟨b,2,none⟩=some v:=(cell_of_heap h 2).trans rfl;have e':tm[2]?.getD undef=.pointer (some ⟨b,0,none⟩):=by simpa using e
 simp[results,Tryz.results62,e',go_sem,c0,c1,c2]
theorem aHI{tm:Array Value}{todo:List Item}{w:World}{v:Value}(cs:List Frame)(hr:(results Tryz.f62 tm).run Tryz.prog w=.ok v w)(c:Frame) :
  Steps Tryz.prog (lone { fr62.atR ⟨tm,[]⟩ todo with mode:=.returning } (c::cs) w) (lone (c.finish v) cs w):=by
 have hL:Leaves Tryz.prog Tryz.f62 tm (λe w1=>e=.returned v/\w1=w) [] .returning w:=⟨v,hr,rfl,rfl⟩
 obtain⟨e,w1,Lh,⟨rfl,rfl⟩,hs,_,hl⟩:=leaves_steps [] .returning w { fr62.atR ⟨tm,[]⟩ todo with mode:=.returning } (c::cs) rfl rfl rfl Tryz.func62 rfl hL;exact Steps.trans hs (.one (step_leave_returned hl))
variable [Aps]
theorem p62(E:∀B0,Env Tryz.prog ans B0 jU)(l:List VaD)(hl:l.length+1<BE):PureOK Tryz.prog 62 [.slice [(aG l).enc]] (aG l.reverse).enc:=by
 refine⟨⟨_,Tryz.func62,by kernel_rfl⟩,λw Z vs hw hlen ha c cs=>?_⟩;have BK:kZ Tryz.prog ans w.heap.size CF:=gx (E w.heap.size);have nt:(ans 62).nt=12:=by rw[xg]
 obtain⟨us,Z1,hle1,DJ,V4,H9,GD⟩:=aMF hw l _ (ha 0 _ rfl)
 have Jt:=nH (P:=Tryz.prog) (ans:=ans) (f:=62) (lM (ans:=ans) DJ (args:=[.val (.slice [kF us])]) (vs:=vs) hlen (λx hx=>by rw[Bz.1 hx];rfl) (λi x hx=>by
  match i with
  |0=>cases hx;exact .val _ _ V4
  |i+1=>simp at hx)) (by rw[nt];show 1<=12;omega)
 have PK:((ans 62).keep.map λt=>(([.val (.slice [kF us])]:List Slot)[t]?).getD .dead)=[.val (.slice [kF us]),.dead,.dead]:=by rw[xg];rfl
 rw[PK] at Jt
 have henter:Frame.enter Tryz.prog 62 vs .normal=fr62.atR ⟨vs++Array.replicate ((ans 62).nt-vs.size) undef,[]⟩ [.code (.seq Ul (.seq SI (.seq Lv (.seq Ky .ret))))]:=by
  rw[nt];simp only[Frame.enter,Tryz.func62,Ai,aQK,Tryz.ntmps62,Frame.atR,fr62];rfl
 rw[henter];obtain⟨w2,Z2,J2,CJ,CU,A2,F2,p2,_,S2⟩:=kV (ds:=[]) (b:=fr62) (cs:=c::cs) (items:=[.code (.seq SI (.seq Lv (.seq Ky .ret)))]) BK (aRc (kF us)) Jt;obtain⟨w3,Z3,J3,M9,DR,A3,F3,p3,_,S3⟩:=kV (ds:=[]) (b:=fr62) (cs:=c::cs) (items:=[.code (.seq Lv (.seq Ky .ret))]) BK (aRd us (by omega)) A2;have F:=F2.trans F3;have Rv:DR.size=12:=A3.rel.size.trans nt;have s2:=A3.rel.slots 2;have s3:=A3.rel.slots 3;rw[xg] at s2 s3
 obtain⟨bx,v2,bR⟩:∃bx,DR.getD 2 undef=.pointer (some ⟨bx,0,none⟩)/\BoxRel w3 w.heap.size Z3 J3 M9 false 2 [.val (.str []),.val (.int .i64 0),.own 3 []] bx:=by
  generalize DR.getD 2 undef=u at s2;cases s2 with
  |box _ b h=>exact⟨b,rfl,h⟩
 have hO:OwnRel w3 w.heap.size Z3 M9 (false,3,1) 3 (us.map RaD.enc) (DR.getD 3 undef):=by
  generalize DR.getD 3 undef=u at s3;cases s3 with
  |own _ _ _ h=>exact h
 generalize hv3:DR.getD 3 undef=v3 at hO
 let t3:=DR.setIfInBounds 8 v3
 let t4:=t3.setIfInBounds 9 (.tuple #[])
 obtain⟨w4,b,o,cap,a,S4,e4,GG,ha4,hbN,Pv,PL,Se,MF,htp,hou,CG⟩:=aPo (c:=fr62.atR ⟨t3,[]⟩ (.inRegion o62 [1]::[.code (.seq Ky .ret)])) (cs:=c::cs) A3.rel.wsat hO (by simp only[BE] at *;omega) bR.own bR.base;have SR:=Steps.one (stepR_region (P:=Tryz.prog) (b:=fr62) (a:=⟨DR,[]⟩) (k:=[.code (.seq Ky .ret)]) (cs:=c::cs) (w:=w3) (id:=vg Lv) (ops:=o62));rw[aAW] at SR
 have T0:=iY (P:=Tryz.prog) (w':=w3) (b:=fr62) (tm:=DR) (ds:=[]) (k:=[.code (.seq Ky .ret)]) (cs:=c::cs) (rest:=[1]) (v:=v3) (aJJ (i:=0) (by omega)) j0 (λc e=>by cases e) (by
  have h1:(⟨DR,[]⟩:Act).eval (.tmp 3)=v3:=hv3;simp only[execOp,h1];rfl)
 have Vg:=mr 63 Tryz.f63 Tryz.func63 (by kernel_rfl)
 have hb63:¬Tryz.f63.body=none:=by
  have hs:Tryz.f63.body.isSome=true:=by kernel_rfl
  intro hn;rw[hn] at hs;cases hs
 have g8:t3.getD 8 undef=v3:=by rw[bZ _ _ _ _ (by omega),Bo rfl]
 have T1:=rF (P:=Tryz.prog) (w:=w3) (w':=w3) (b:=fr62) (tm:=t3) (ds:=[]) (k:=[.code (.seq Ky .ret)]) (cs:=c::cs) (rest:=[]) (aJJ (i:=1) (by omega)) j1 (λc e=>by cases e) (by
  have h1:t3[8]?.getD undef=v3:=by simpa using g8
  simp[execOp,resolve,Deferred.ofValue,invoke,callFunc,Tryz.func63,Vg,hb63,h1,go_sem]) S4
 have Ou:∀b',b'<w.heap.size->w4.heap[b']?=w.heap[b']?:=λb' AX=>(Se b' (by omega)).trans (F.keep b' AX rfl).1
 have KX:Below w.heap.size w w4:=⟨MF.trans F.os,htp.trans F.tape,hou.trans F.output,by rw[PL];exact F.size,Ou⟩
 have W4:=eH hw KX
 let xs:=l.reverse.map VaD.enc
 have C9:∀x∈xs,x.cells.length=3:=λx hx=>by obtain⟨y,_,rfl⟩:=Cu.1 hx;rw[y.enc_eq];rfl
 have W4':WSat (nN Z b o (aM xs)) w4:=W4.addRow λp c' CA=>by
  obtain⟨i,j,x,rfl,hj,hi,CA⟩:=gC C9 CA;have MK:i<l.length:=by have:=(Ab.1 hi).1;simpa[xs] using this
  have Vt:i<us.length:=by omega
  obtain⟨y,hy,rfl⟩:∃y,l.reverse[i]?=some y/\y.enc=x:=by
   simp only[xs,Ao,Al] at hi;exact hi
  have Mj:us.reverse[i]?=some us.reverse[i]!:=by simp[Vt]
  rw[Hq MK] at hy;have PJ:=Mj;rw[Hq Vt,H9] at PJ;have EL:=GD _ _ _ hy PJ;have B5:=CG i j Vt hj;generalize us.reverse[i]! =u at EL B5;rw[<-De];rw[y.enc_eq] at EL CA;obtain⟨v0,v1,v2,ev,r0,r1,r2⟩:=EL.inv3;cases ev
  match j,hj with
  |0,_=>cases CA;exact⟨rfl,_,B5,r0⟩
  |1,_=>cases CA;exact⟨rfl,_,B5,r1⟩
  |2,_=>cases CA;exact⟨rfl,_,B5,r2⟩
 let Z4:=nN Z b o (aM xs)
 let HA:Own:=λb'=>if b'=bx then some (false,2,0) else none
 have B9:∀o',Z4 bx o'=hno:=λo'=>by
  rw[show Z4 bx o'=Z bx o' from yO (Co Pv) o'];exact hw.none_of_ge bR.base o'
 obtain⟨bvs,bT,bh,bl,bc⟩:=bR.heap
 match bvs,bl,bh,bc with
 |[y0,y1,y2],_,bh,bc =>
 have WM:bx<w3.heap.size:=(Ad.1 bh).1
 have g2:t4.getD 2 undef=.pointer (some ⟨bx,0,none⟩):=by
  rw[bZ _ _ _ _ (by simp[t3];omega),Ax (by omega),bZ _ _ _ _ (by omega),Ax (by omega)];exact v2
 have g3:t4.getD 3 undef=v3:=by
  rw[bZ _ _ _ _ (by simp[t3];omega),Ax (by omega),bZ _ _ _ _ (by omega),Ax (by omega)];exact hv3
 have PC:VRel Z4 [] (.str []) y0:=by
  have:=bc 0 _ _ rfl rfl
  cases this with
  |val _ _ _ h=>cases h;exact .str _
 have HF:VRel Z4 [] (.int .i64 0) y1:=by
  have:=bc 1 _ _ rfl rfl
  cases this with
  |val _ _ _ h=>cases h;exact .int _ _
 have GU:VRel Z4 [] (.slice []) y2:=by
  have:=bc 2 _ _ rfl rfl
  cases this with
  |own _ _ _ h =>
   have h:=h.rel;cases h with
   |slice _ a len cap s hl hc hx=>exact .slice _ a len cap s hl hc λi x h=>by simp at h
 have GH:BoxRel w4 w.heap.size Z4 [] HA false 2 [.val (.str []),.val (.int .i64 0),.val (.slice [])] bx:=by
  refine⟨by simp[HA],bR.base,B9,[y0,y1,y2],bT,(Se bx (Co Pv)).trans bh,rfl,λj c v h h'=>?_⟩
  match j with
  |0=>cases h;cases h';exact .val _ _ rfl PC
  |1=>cases h;cases h';exact .val _ _ rfl HF
  |2=>cases h;cases h';exact .val _ _ rfl GU
  |j+3=>cases h
 have Mq:VRel Z4 [] (.slice xs) v3:=by
  rw[e4];refine .of_rows (s:=3) (by simp[xs,H9]) GG C9 λBD=>⟨b,o,ha4 λe=>BD (by simp[xs];rw[e] at H9;exact Cm.1 H9.symm),λp c hc=>.inr ⟨rfl,p,rfl,hc⟩⟩
 have I2:∀t,sl (ans 62) [.dead,.box [.val (.str []),.val (.int .i64 0),.val (.slice [])],.val (.slice xs)] ⟨[],⟨[],0⟩⟩ t=if t=2 then .box [.val (.str []),.val (.int .i64 0),.val (.slice [])] else if t=3 then .val (.slice xs) else .dead:=λt=>by
  show tlook (ans 62).keep _ t=_;rw[xg];by_cases h2:t=2
  ·subst h2;rfl
  ·by_cases h3:t=3
   ·subst h3;rfl
   ·rw[Ax h2,Ax h3]
    simp only[tlook];have b2:Nat.beq 2 t=false:=by cases h:Nat.beq 2 t with|false=>rfl|true=>exact absurd (Aa h).symm h2
    have b3:Nat.beq 3 t=false:=by cases h:Nat.beq 3 t with|false=>rfl|true=>exact absurd (Aa h).symm h3
    rw[b2,b3];cases Nat.beq 0 t<;>rfl
 have A4:At Tryz.prog ans 62 w.heap.size w4 Z4 [] HA ⟨[.dead,.box [.val (.str []),.val (.int .i64 0),.val (.slice [])],.val (.slice xs)],⟨[],0⟩⟩ t4:=by
  refine⟨⟨by rw[nt];simp[t4,t3,Rv],W4',λt=>?_,λd u o e=>?_,λt cs e=>?_,⟨rfl,λi o h=>by simp at h⟩,λb' AX=>?_,KX.size,λt ht=>?_⟩,?_,Ae _⟩
  ·rw[I2]
   by_cases h2:t=2
   ·subst h2;rw[Bo rfl,g2];exact .box _ _ GH
   ·by_cases h3:t=3
    ·subst h3;rw[Ax h2,Bo rfl,g3];exact .val _ _ Mq
    ·rw[Ax h2,Ax h3];exact .dead _
  ·rw[I2] at e
   split at e
   ·cases e
   ·split at e<;>cases e
  ·rw[I2] at e
   split at e
   ·rename_i h2;subst h2;rw[xg];rfl
   ·split at e<;>cases e
  ·have:b'=bx:=by
    simp only[HA] at AX
    split at AX
    ·assumption
    ·exact absurd rfl AX
   subst this;rw[PL];exact WM
  ·rw[nt] at ht
   rw[I2,Ax (by omega),Ax (by omega)]
  ·intro s hs u x
   simp only[Bb,Ce,Eb] at hs;rcases hs with rfl|rfl|rfl<;>simp
 have F4:Fr w Z (λ_=>none) w4 Z4 HA:=⟨oQ,KX.size,λb' AX _=>⟨Ou b' AX,λo'=>yO (by omega) o'⟩,λb' AX=>.inr (by
  have:b'=bx:=by
   simp only[HA] at AX
   split at AX
   ·assumption
   ·exact absurd rfl AX
  subst this;exact bR.base),KX.os,KX.tape,KX.output⟩
 obtain⟨w5,Z5,J5,ow5,Nn,A5,F5,p5,_,S5⟩:=kV (ds:=[]) (b:=fr62) (cs:=c::cs) (items:=[.code .ret]) BK (aRe l.reverse (by simp;omega)) A4;have s5:=A5.rel.slots 2;rw[xg] at s5
 obtain⟨b5,e5,bR5⟩:∃b5,Nn.getD 2 undef=.pointer (some ⟨b5,0,none⟩)/\BoxRel w5 w.heap.size Z5 J5 ow5 false 2 (bM (aG l.reverse)) b5:=by
  generalize Nn.getD 2 undef=u at s5;cases s5 with
  |box _ b h=>exact⟨b,rfl,h⟩
 obtain⟨cvs,cT,ch,cl,cc⟩:=bR5.heap;simp only[bM] at cl cc
 match cvs,cl,ch,cc with
 |[z0,z1,z2],_,ch,cc =>
 have k0:=cc 0 _ _ rfl rfl;have k1:=cc 1 _ _ rfl rfl;have k2:=cc 2 _ _ rfl rfl;cases k0 with
 |val _ _ _ k0 =>
 cases k1 with
 |val _ _ _ k1 =>
 cases k2 with
 |val _ _ _ k2 =>
 cases k1;have hJ5:J5=[]:=Cm.1 A5.rel.objs.1;subst hJ5;have FF:=F4.trans F5;refine⟨w5,Z5,.agg ⟨[z0,.int .i64 (aG l.reverse).num,z2]⟩,⟨FF.le,FF.size,FF.keep,λb hb=>absurd rfl hb,FF.os,FF.tape,FF.output⟩,A5.rel.wsat,?_,?_⟩
 ·rw[VaD.enc_eq]
  exact .agg3 rfl rfl rfl k0 (.int _ _) k2
 ·have L:=aHI (tm:=Nn) (todo:=[.code .ret]) cs (aPn ch e5) c
  rw[<-aRF] at SR;exact(Steps.one stepR_seq).trans (S2.trans ((Steps.one stepR_seq).trans (S3.trans ((Steps.one stepR_seq).trans (SR.trans (T0.trans (T1.trans ((Steps.one stepR_region_end).trans ((Steps.one stepR_seq).trans (S5.trans ((Steps.one (stepR_ret rfl)).trans L)))))))))))
end Go.Proofs.YtdkkaldimefljaaGreatDoor
namespace Go.AM
open Go.RowKit
variable {P:Program}{ans:FuncId->AK}{B0:Nat}
theorem PureOK.ofOwn{Jw:FuncId->AK}{Ok:dY}(E:∀B0,Env P Jw B0 Ok){f:FuncId}{args:List AVal}{sz:Nat}{xs:List AVal}(e:DF P Jw Ok (.fn f) (args.map .val) ⟨[],0⟩=some (.ret (.own sz xs),⟨[],0⟩)):PureOK P f args (.slice xs):=by
 obtain⟨n,hn⟩:=eK.1 e;have key:=λB0=>(mK (E B0) n).1.fn f _ _ _ _ hn
 obtain⟨F,h1,h2,_⟩:=(key 0).1;refine⟨⟨F,h1,h2⟩,λw Z vs hw hl ha c cs=>?_⟩
 obtain⟨w',Z',J',AP,hf,_,C4,ho,_,_,_,v,hs,A7⟩:=(key w.heap.size).2 w Z [] (λ_=>none) vs (lM hw (by simpa using hl) (λs hs=>by
  obtain⟨a,_,rfl⟩:=Cu.1 hs;rfl) (λi s hs=>by
  rw[Ao,Al] at hs;obtain⟨a,I9,rfl⟩:=hs;exact .val _ _ (ha i a I9))) c cs
 refine⟨w',Z',v,⟨hf.le,hf.size,hf.keep,λb hb=>absurd rfl hb,hf.os,hf.tape,hf.output⟩,C4,?_,A7⟩;cases hs with
 |own _ _ _ h=>exact h.rel
end Go.AM
namespace Go.Proofs.YtdkkaldimefljaaGreatDoor
open Go.AM Go.RowKit
section
variable [Aps]
theorem aOD(E:∀B0,Env Tryz.prog ans B0 jU)(B0:Nat):Env Tryz.prog ay B0 uM:=aE8 λf args res h=>by
 unfold uM at h;cases hi:SS f with
 |false=>rw[hi] at h;cases h
 |true =>
  rw[hi,Ba] at h
  split at h
  ·rename_i hx
   cases h;have hp:=hx.choose_spec;generalize hx.choose=r at hp ⊢;cases hp with
   |items l hl=>exact(PureOK.ofOwn E (args:=[(aG l).enc]) (MX l hl ⟨[],0⟩ (Ae _))).prim (λa ha=>by rw[Bz.1 ha];exact VaD.lok _)
   |list l hl=>exact(PureOK.ofRun E (args:=[.slice (l.map VaD.enc)]) (Ng l hl ⟨[],0⟩ (Ae _))).prim (λa ha=>by rw[Bz.1 ha];exact nQ l)
   |made s l=>exact(PureOK.ofRun E (args:=[.str s,.slice (l.map VaD.enc)]) (Su s l ⟨[],0⟩)).prim (λa ha=>by
     simp only[Bb,Ce,Eb] at ha;rcases ha with rfl|rfl
     ·rfl
     ·exact nQ l)
  ·cases h
theorem gN(E:∀B0,Env Tryz.prog ans B0 jU){nm:List UInt8}{args:List VaD}{l:List TyD}{t:TyD}{r:VaD}{g:Nat}{m:Bool}(hg:CM.lookTab nm.length (CM.packL nm) CM.fnTab=some (g,m))(ht:wG nm=some (sW l t))(JC:(tyName t==[45,62])=false)(hlen:l.length=args.length)(hb:l.length<=2)
  (hv:∀y∈args,Good y) (hh:∀(i:Nat)(t:TyD)(v:VaD),l[i]?=some t->args[i]?=some v->kM t v) (hr:Good r) (hp:PureOK Tryz.prog g (Yx m (args.map VaD.enc)) r.enc):PureT Tryz.prog 18 [.str nm,.slice (args.map VaD.enc)] [r.enc,.int .i64 0] :=
 aDq E (n:=(r.cnt:Nat)) hg (nQ args) hp (by have:=hr.2.2;omega) r.lok
  (c26 nm l t ht JC args hlen (by simp only[BE];omega) hv hh ⟨[zV,zE],0⟩ (En _)) (c29 r ⟨[zV,zE],0⟩ hr.2.1 hr.2.2) (c24 r hr.1 hr.2.1 hr.2.2 ⟨[zV,zE],0⟩ (En _)) (c22 r ⟨[zV,zE],0⟩ hr.2.1)
theorem wT{t:TyD}{v:VaD}(h:kM t v):∀(i:Nat)(t':TyD)(v':VaD),[t][i]?=some t'->[v][i]?=some v'->kM t' v'
 |0,_,_,h1,h2=>by cases h1;cases h2;exact h
 |i+1,_,_,h1,h2=>by simp at h1
theorem w8{t u:TyD}{v w:VaD}(h:kM t v)(k:kM u w):∀(i:Nat)(t':TyD)(v':VaD),[t,u][i]?=some t'->[v,w][i]?=some v'->kM t' v'
 |0,_,_,h1,h2=>by cases h1;cases h2;exact h
 |1,_,_,h1,h2=>by cases h1;cases h2;exact k
 |i+2,_,_,h1,h2=>by simp at h1
theorem r6{v:VaD}(h:Good v):∀y∈[v],Good y:=λy hy=>by rw[Bz.1 hy];exact h
theorem sL{v w:VaD}(h:Good v)(k:Good w):∀y∈[v,w],Good y:=λy hy=>by
 simp only[Bb,Ce,Eb] at hy;rcases hy with rfl|rfl
 ·exact h
 ·exact k
abbrev XL:TyD:=.mk [73,110,116] []
abbrev tA:TyD:=.mk [39,97] []
abbrev tB:TyD:=.mk [39,98] []
abbrev tL(a:TyD):TyD:=.mk [76,105,115,116] [a]
theorem nL{a:TyD}:∀l:List VaD,(∀x∈l,kM a x)->kM (tL a) (aG l)
 |[],_=>.nil a
 |x::l,h=>.cons a _ _ (h x (by simp)) (nL l λy hy=>h y (by simp[hy]))
theorem rR(l:List VaD):kM (tL tA) (aG l):=nL l λx _=>.var x
theorem aOJ(l:List VaD):kM (tL tB) (aG l):=nL l λx _=>.varb x
theorem Okl.zip:∀{a b:List VaD}{m n:Nat},Okl a m->Okl b n->Okl (iE a b) (m+n)/\∀y∈iE a b,∃p q,y=fT p q
 |[],b,m,n,h,k=>⟨⟨λx hx=>by simp[iE] at hx,by simp[iE,VaD.cnts]⟩,λy hy=>by simp[iE] at hy⟩
 |x::a,[],m,n,h,k=>⟨⟨λx hx=>by simp[iE] at hx,by simp[iE,VaD.cnts]⟩,λy hy=>by simp[iE] at hy⟩
 |x::a,y::b,m,n,h,k=>by
  have e:iE (x::a) (y::b)=fT x y::iE a b:=rfl;have h1:=h.cnt;have k1:=k.cnt;simp only[Ay,VaD.cnts] at h1 k1;have hx:=x.cnt_pos;obtain⟨i1,i2⟩:=Okl.zip (a:=a) (b:=b) (m:=m-1-x.cnt) (n:=n-1-y.cnt) ⟨λz hz=>h.valid z (by simp[hz]),by omega⟩ ⟨λz hz=>k.valid z (by simp[hz]),by omega⟩;have i3:=i1.cnt;rw[e];refine⟨⟨λz hz=>?_,?_⟩,λz hz=>?_⟩
  ·rcases Bb.1 hz with hz|hz
   ·subst hz
    simp only[fT,VaD.valid,VaD.valids,h.valid x (by simp),k.valid y (by simp),iM];rfl
   ·exact i1.valid z hz
  ·simp only[Ay,VaD.cnts,fT,VaD.cnt];omega
  ·rcases Bb.1 hz with hz|hz
   ·exact⟨x,y,hz⟩
   ·exact i2 z hz
theorem zip_fst:∀(a b:List VaD),a.length=b.length->(iE a b).map rp=a/\(iE a b).map vo=b
 |[],[],_=>⟨rfl,rfl⟩
 |[],_::_,h=>by cases h
 |_::_,[],h=>by cases h
 |x::a,y::b,h=>by
  have ih:=zip_fst a b (by simpa using h);have e:iE (x::a) (y::b)=fT x y::iE a b:=rfl;rw[e];exact⟨Ar (x::·) ih.1,Ar (y::·) ih.2⟩
theorem aBN(E:∀B0,Env Tryz.prog ans B0 jU)(hL:∀c,kC c=true->c.length<=24){nm:List UInt8}{vs:List VaD}{r:VaD}(h:AppR nm vs r):PureT Tryz.prog 18 [.str nm,.slice (vs.map VaD.enc)] [r.enc,.int .i64 0]:=by
 have z0:(⟨[],0⟩:AN).lo<=(⟨[],0⟩:AN).objs.length:=Ae _;have g:∀{l:List VaD},Okl l 1000->Good (aG l):=λh=>fO hL h (by omega)
 cases h with
 |append a b h k =>
  have hl:=h.len;have kl:=k.len
  exact gN E (g:=56) (m:=false) (l:=[tL tA,tL tA]) (t:=tL tA) (by kernel_rfl) rfl rfl rfl (by simp) (sL (g h) (g k)) (w8 (rR a) (rR b)) (fO hL (h.append k) (by omega))
   (PureOK.ofRun E (c56 a b (by simp only[BE];omega) ⟨[],0⟩ z0))
 |reverse l h =>
  have hl:=h.len;exact gN E (g:=62) (m:=false) (l:=[tL tA]) (t:=tL tA) (by kernel_rfl) rfl rfl rfl (by simp) (r6 (g h)) (wT (rR l)) (g h.reverse) (p62 E l (by simp only[BE];omega))
 |length l h =>
  have hl:=h.len
  exact gN E (g:=58) (m:=false) (l:=[tL tA]) (t:=XL) (by kernel_rfl) rfl rfl rfl (by simp) (r6 (g h)) (wT (rR l)) (yK _)
   (PureOK.ofRun E (c58 l (by simp only[BE];omega) ⟨[],0⟩ z0))
 |take n l h =>
  have hl:=h.len
  exact gN E (g:=70) (m:=true) (l:=[XL,tL tA]) (t:=tL tA) (by kernel_rfl) rfl rfl rfl (by simp) (sL (yK n) (g h)) (w8 (.int n) (rR l)) (g (h.take _))
   (PureOK.ofRun E (c70 n l (by simp only[BE];omega) ⟨[],0⟩ z0))
 |drop n l h =>
  have hl:=h.len
  exact gN E (g:=71) (m:=true) (l:=[XL,tL tA]) (t:=tL tA) (by kernel_rfl) rfl rfl rfl (by simp) (sL (yK n) (g h)) (w8 (.int n) (rR l)) (g (h.drop _))
   (PureOK.ofRun E (c71 n l (by simp only[BE];omega) ⟨[],0⟩ z0))
 |concat a b h k =>
  have hl:=h.len;have kl:=k.len;have hh:=h.cnt;have kk:=k.cnt
  have gL:Good (aG [aG a,aG b]):=fO hL (n:=2004) ⟨λx hx=>by
   simp only[Bb,Ce,Eb] at hx;rcases hx with rfl|rfl
   ·exact(g h).1
   ·exact(g k).1,by simp only[VaD.cnts,lR,Ay,Bi];omega⟩ (by omega)
  have hc:=c67 [a,b] (by simp only[BE];simp;omega) [] 0 (Ae _);simp only[Aw,Au,List.flatten_cons,List.flatten_nil,Bv] at hc
  exact gN E (g:=67) (m:=true) (l:=[tL (tL tA)]) (t:=tL tA) (by kernel_rfl) rfl rfl rfl (by simp) (r6 gL) (wT (nL _ λx hx=>by
   simp only[Bb,Ce,Eb] at hx;rcases hx with rfl|rfl
   ·exact rR a
   ·exact rR b)) (fO hL (h.append k) (by omega)) (PureOK.ofRun (aOD E) hc)
 |zip a b h k e =>
  have hl:=h.len;have kl:=k.len;obtain⟨o,_⟩:=Okl.zip h k
  exact gN E (g:=73) (m:=true) (l:=[tL tA,tL tB]) (t:=tL (.mk [44] [tA,tB])) (by kernel_rfl) rfl rfl rfl (by simp) (sL (g h) (g k)) (w8 (rR a) (aOJ b)) (fO hL o (by omega))
   (PureOK.ofRun E (c73 a b (by simp only[BE];omega) (by simp only[BE];omega) ⟨[],0⟩ z0))
 |unzip a b h k e =>
  have hl:=h.len;have kl:=k.len;obtain⟨o,hp⟩:=Okl.zip h k;have ol:=o.len;have hc:=c74 (iE a b) hp (by simp only[BE];omega) [] 0 (Ae _);rw[(zip_fst a b e).1,(zip_fst a b e).2] at hc
  have gu:Good (fT (aG a) (aG b)):=aAz hL (by
   simp only[fT,VaD.valid,VaD.valids,(g h).1,(g k).1,iM];rfl) (by
   have:=h.cnt
   have:=k.cnt
   simp only[fT,VaD.cnt,VaD.cnts,lR];omega)
  exact gN E (g:=74) (m:=true) (l:=[tL (.mk [44] [tA,tB])]) (t:=.mk [44] [tL tA,tL tB]) (by kernel_rfl) rfl rfl rfl (by simp) (r6 (fO hL o (by omega))) (wT (nL _ λy hy=>by
   obtain⟨p,q,rfl⟩:=hp y hy;exact .pair _ _ _ _ (.var _) (.varb _))) gu (PureOK.ofRun (aOD E) hc)
end
theorem aEE{a b:Int}(h:nO a=nO b):a=b:=by simpa[nO] using h
variable [Aps] in
theorem zip_inj:∀{a b a' b':List VaD},a.length=b.length->a'.length=b'.length->iE a b=iE a' b'->a=a'/\b=b':=λ{a b a' b'} h h' e=>by
 obtain⟨h1,h2⟩:=zip_fst a b h;obtain⟨k1,k2⟩:=zip_fst a' b' h';rw[e] at h1 h2;exact⟨h1.symm.trans k1,h2.symm.trans k2⟩
variable [Aps] in
theorem AppR.fn{nm VD:List UInt8}{vs B7:List VaD}{r r':VaD}(h:AppR nm vs r)(h':AppR VD B7 r')(hn:nm=VD)(hv:vs=B7):r=r':=by
 cases h<;>cases h'<;>first
  |(exfalso;revert hn;decide)
  |(simp only[Cz,Fs] at hv
    first
     |(obtain⟨e1,e2⟩:=hv
       first
        |rw[eL e1,eL e2]
        |rw[aEE e1,eL e2])
     |(have e:=eL hv
       simp only[Cz,Fs] at e;rw[eL e.1,eL e.2])
     |(rename_i e _ _ _ _ e'
       obtain⟨e1,e2⟩:=zip_inj e e' (eL hv);rw[e1,e2])
     |rw[eL hv])
theorem aEK(c:List UInt8)(h:IL c=3):c.length<=24:=((YY c).2.1 (by rw[h];decide)).1
@[reducible] noncomputable def A0:Aps:=⟨λ_=>some none,IL,aD8,aJQ⟩
theorem aRi(c:List UInt8)(h:@kC A0 c=true):c.length<=24:=aEK c (by have h:(IL c==3)=true:=h;simpa using h)
theorem aOB(B0:Nat):Env Tryz.prog ans B0 (@jU A0):=aOC A0 B0 aOV λargs res h=>by cases h
def ApP(args:List Slot)(r:VaD):Prop:=∃nm vs,args=[.val (.str nm),.val (.slice (vs.map VaD.enc))]/\@AppR A0 nm vs r
theorem ApP.fn{args:List Slot}{r r':VaD}(h:ApP args r)(h':ApP args r'):r=r':=by
 obtain⟨nm,vs,e,h⟩:=h;obtain⟨VD,B7,e',h'⟩:=h';rw[e] at e';simp only[Cz,Slot.val.injEq,AVal.str.injEq,AVal.slice.injEq,Fs] at e';exact @AppR.fn A0 _ _ _ _ _ _ h h' e'.1 (y6 e'.2)
open Classical in
@[reducible] noncomputable def A1:Aps:=⟨λargs=>if h:∃r,ApP args r then some (some (.ret (.tup [h.choose.enc,.int .i64 0]))) else some none,IL,aD8,aJQ⟩
theorem aJk{args:List Slot}{r:VaD}(h:ApP args r):A1.ap args=some (some (.ret (.tup [r.enc,.int .i64 0]))):=by
 have hx:∃r,ApP args r:=⟨r,h⟩
 have e:hx.choose=r:=hx.choose_spec.fn h;have e2:A1.ap args=some (some (.ret (.tup [hx.choose.enc,.int .i64 0]))):=dif_pos hx;rw[e2,e]
theorem aRa(B0:Nat):Env Tryz.prog ans B0 (@jU A1):=aOC A1 B0 aOV λargs res h=>by
 by_cases hx:∃r,ApP args r
 ·obtain⟨r,hr⟩:=hx
  rw[aJk hr] at h;cases h;obtain⟨nm,vs,rfl,hr⟩:=hr
  exact((@aBN A0 aOB aRi _ _ _ hr).prim (ans:=ans) (B0:=B0) (λa ha=>by
   simp only[Bb,Ce,Eb] at ha;rcases ha with rfl|rfl
   ·rfl
   ·exact nQ vs)).2
 ·have:A1.ap args=some none:=dif_neg hx
  rw[this] at h;cases h
mutual
theorem wv(A B:Aps)(h:A.kd=B.kd):∀v:VaD,@VaD.valid A v=@VaD.valid B v
 |.mk c n al=>by
  have ih:=fj A B h al;simp only[VaD.valid,iM,kC,h,ih]
theorem fj(A B:Aps)(h:A.kd=B.kd):∀l:List VaD,@VaD.valids A l=@VaD.valids B l
 |[]=>rfl
 |v::l=>by simp only[VaD.valids,wv A B h v,fj A B h l]
end
theorem aI6(v:VaD):@VaD.valid A1 v=@VaD.valid A0 v:=wv A1 A0 rfl v
theorem Okl.swap{l:List VaD}{n:Nat}(h:@Okl A1 l n):@Okl A0 l n:=@Okl.mk A0 l n (λx hx=>(aI6 x).symm.trans (@Okl.valid A1 l n h x hx)) (@Okl.cnt A1 l n h)
theorem AppR.swap{nm:List UInt8}{vs:List VaD}{r:VaD}(h:@AppR A1 nm vs r):@AppR A0 nm vs r:=by
 cases h with
 |append a b h k=>exact @AppR.append A0 a b h.swap k.swap
 |reverse l h=>exact @AppR.reverse A0 l h.swap
 |length l h=>exact @AppR.length A0 l h.swap
 |take n l h=>exact @AppR.take A0 n l h.swap
 |drop n l h=>exact @AppR.drop A0 n l h.swap
 |concat a b h k=>exact @AppR.concat A0 a b h.swap k.swap
 |zip a b h k e=>exact @AppR.zip A0 a b h.swap k.swap e
 |unzip a b h k e=>exact @AppR.unzip A0 a b h.swap k.swap e
theorem c18{nm:List UInt8}{vs:List VaD}{r:VaD}(h:@AppR A0 nm vs r)(S:AN):@CF A1 (.fn 18) [.val (.str nm),.val (.slice (vs.map VaD.enc))] S=some (.ret (.tup [r.enc,.int .i64 0]),S):=by
 refine Li (r:=.ret (.tup [r.enc,.int .i64 0])) ?_ ?_
 ·show A1.ap _=_
  exact aJk ⟨nm,vs,rfl,h⟩
 ·rw[VaD.enc_eq r];rfl
theorem aCg(A B C:List VaD)(N:Int)(hA:VaD.sizes A<BE)(hB:VaD.sizes B<BE)(hC:VaD.sizes C<BE)(sto:AN)(AW:sto.lo<=sto.objs.length) :
  @CF A1 (.fn 4) [.val (.agg [.slice (A.map VaD.enc),.slice (B.map VaD.enc),.slice (C.map VaD.enc),.int .i64 N])] sto=some (.ret (.val (.bool true)),sto) :=
 @c4 A1 A B C N hA hB hC sto AW (λc h=>aEK c (by have h:(IL c==3)=true:=h;simpa using h)) λnm vs r h S=>c18 h.swap S
end Go.Proofs.YtdkkaldimefljaaGreatDoor
