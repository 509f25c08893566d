import Derived.Test.YtoiocfngjchdiaaGreatDoorT02
set_option linter.all false
set_option maxRecDepth 100000
set_option maxHeartbeats 8000000
namespace Go.Proofs.YtoiocfngjchdiaaGreatDoor
open Go.AM
variable [h_]
def AW(Q:List ai)(d s:Nat):List ai:=Q.set d (.box [.val (.int .i64 (s:Nat))])
theorem bY(Q:List ai)(d s:Nat):(AW Q d s).length=Q.length:=by simp[AW]
theorem gh{Q:List ai}{d:Nat}(h:d<Q.length)(s:Nat):(AW Q d s)[d]?=some (.box [.val (.int .i64 (s:Nat))]):=by simp[AW,h]
theorem jV{Q:List ai}{d i:Nat}(h:i≠d)(s:Nat):(AW Q d s)[i]?=Q[i]?:=by simp[AW,Ce,Dc h]
theorem gl(Q:List ai)(d s s':Nat):(AW Q d s).set d (.box [.val (.int .i64 (s':Nat))])=AW Q d s':=by simp[AW]
theorem eX{Q:List ai}{d:Nat}(h:d<Q.length)(L:List ai)(s:Nat):AW (Q++L) d s=AW Q d s++L:=by simp[AW,Em,h]
theorem wC{α:Type}{X:Option (α×AH)}{r:α}{Q:List ai}{d s s' lo:Nat}(h:X=some (r,⟨(AW Q d s').take (AW Q d s).length,lo⟩)):X=some (r,⟨AW Q d s',lo⟩):=by
 rw[h,Bz];rw[bY,bY];exact Ae _
theorem Qk{α:Type}{X:Option (α×AH)}{r:α}{Q L:List ai}{d s s' lo:Nat}(h:X=some (r,⟨(AW Q d s'++L).take (AW Q d s).length,lo⟩)):X=some (r,⟨AW Q d s',lo⟩):=by
 rw[h,Fz];rw[bY,bY]
structure nk (Q:List ai) (ir d iq q lo:Nat):Prop where
 lt:d<Q.length
 run:Q[ir]?=some (.box [.val (.func 31 [.loc d 0,.loc iq 0])])
 fuel:Q[iq]?=some (.box [.val (.int .i64 (q:Nat))])
 ne1:ir≠d
 ne2:iq≠d
 lo:lo<=d
 max:q<4294967296
theorem nk.app{Q:List ai}{ir d iq q lo:Nat}(h:nk Q ir d iq q lo)(L:List ai):nk (Q++L) ir d iq q lo :=
 ⟨by simp;have:=h.lt;omega,by rw[Az (Ab.1 h.run).1];exact h.run,by rw[Az (Ab.1 h.fuel).1];exact h.fuel,h.ne1,h.ne2,h.lo,h.max⟩
theorem c31{Q:List ai}{ir d iq q lo s:Nat}(h:nk Q ir d iq q lo)(hs:s<q):CF (.fn 31) [.val (.loc d 0),.val (.loc iq 0)] ⟨AW Q d s,lo⟩=some (.ret (.aj []),⟨AW Q d (s+1),lo⟩):=by
 have h1:=gh h.lt s;have h2:=(jV h.ne2 s).trans h.fuel;have h3:=gl Q d s (s+1);have h4:decide (((s:Nat):Int)>=(q:Nat))=false:=by simp;omega
 have h5:IntKind.i64.wrap (((s:Nat):Int)+1)=((s+1:Nat):Int):=wI _ (by have:=h.max;simp only[AR];omega);have h6:Nat.ble lo d=true:=Ah h.lo;have hl:=bY Q d;clear h hs;refine GZ ?_;exact wC rfl
def Sk(e:af)(env:aq)(r:au)(n:Nat):Prop:=∀(Q:List ai)(ir d iq q lo s:Nat),nk Q ir d iq q lo->s+n<=q->CF (.fn 104) [.val (.loc ir 0),.val (.ay e.enc),.val env.enc] ⟨AW Q d s,lo⟩=some (.ret (.val r.enc),⟨AW Q d (s+n),lo⟩)
theorem aG8{Q:List ai}{ir d iq q lo:Nat}(hR:nk Q ir d iq q lo)(N:Nat)(H:∀m e env r,Ev e env r m->m<=N->Sk e env r m)(env:aq)(ys:List af):∀(pre:List af)(X rs:List au)(s n:Nat),(pre++ys).length<1000->X.length=pre.length->oI ys env rs n->n<=N->s+n<=q ->
  ∃s0 s1 s2 s6 s8 s10 BK BU,LP 159 (aN Tryz.f159 0) ⟨[.val (.loc ir 0),.val (.slice ((pre++ys).map af.enc)),.val env.enc,.dead,.own 1 (X.map au.enc),.dead,.val (.int .i64 ((pre++ys).length:Nat)),.val (.int .i64 (pre.length:Nat)),.dead],⟨AW Q d s,lo⟩⟩ =
   some (.exit 0,⟨[s0,s1,s2,s6,.own 1 ((X++rs).map au.enc),s8,s10,BK,BU],⟨AW Q d (s+n),lo⟩⟩):=by
 induction ys with
 |nil =>
  intro pre X rs s n h3 hX h h4 h5;cases h;have AL:=DK pre;simp only[Ao,Ax];clear hX H hR h5;iterate 8 apply Exists.intro
  refine tI rfl ?_;exact wk;all_goals exact .dead
 |cons y ys ih =>
  intro pre X rs s n h3 hX h h4 h5;cases h with
  |@cons _ _ _ v vs n k h1 h2 =>
  have AN:=cQ af.enc pre ys y;have AL:=CQ pre ys y;have h0:=zI pre.length;have hw:=wL pre ys y (by simp only[AR];omega);have hc:=H n y env v h1 (by omega) Q ir d iq q lo s hR (by omega);have hr:Nat.ble (X.length+1) room=true:=Ah (by unfold room;simp only[Bc,Ak] at h3;omega);obtain⟨s0,s1,s2,s6,s8,s10,BK,BU,ih⟩:=ih (pre++[y]) (X++[v]) vs (s+n) k (by simpa using h3) (by simp[hX]) h2 (by omega) (by omega);have e1:s+(n+k)=s+n+k:=by omega
  rw[e1];obtain⟨t,w,hv,hf,BQ⟩:=v.form;have emap:(X++[v]).map au.enc=X.map au.enc++[.iface t w]:=by simp[hv]
  rw[emap] at ih;simp only[Aj,Al] at ih;rw[y.aw] at AN hc;rw[hv] at hc;generalize env.enc=E at *;refine⟨s0,s1,s2,s6,s8,s10,BK,BU,?_⟩;refine tI rfl ?_;clear H hR h1 h2 hX hv emap e1 h4 h5;refine VS ?_;exact ih
theorem U4(l:List ae)(n:Nat):AM.ct n (.slice l)=true:=rfl
theorem WL{Q:List ai}{ir d iq q lo s:Nat}(hR:nk Q ir d iq q lo)(n:Nat)(H:∀m e env r,Ev e env r m->m<=n->Sk e env r m)(env:aq)(al:List af)(rs:List au)(hl:al.length<1000)(h:oI al env rs n)(h5:s+n<=q) :
  CF (.fn 159) [.val (.loc ir 0),.val (.slice (al.map af.enc)),.val env.enc] ⟨AW Q d s,lo⟩=some (.ret (.val (.slice (rs.map au.enc))),⟨AW Q d (s+n),lo⟩):=by
 obtain⟨s0,s1,s2,s6,s8,s10,BK,BU,BJ⟩:=aG8 hR n H env al [] [] rs s n (by simpa using hl) rfl h (Ae _) h5;simp only[Ai,Ap,Av,show((0:Nat):Int)=0 from rfl] at BJ;generalize env.enc=E at *;clear H hR h hl h5;refine l9 ?_;exact wC (finVal rfl rfl rfl (U4 _ _))
theorem aq.nN(e:aq)(o:List ai):iL o (.val e.enc)=.val e.enc:=by cases e<;>simp only[aq.sh,aq.oX,aq.oa]<;>rfl
theorem VO{P:Program}{ans:FuncId->AF}{lp:aO}{f:FuncId}{c:Code}{st AY:St}{x:bG×St}(h:e8 (ans f) c st=AY)(k:lp f c AY=some x):KL P ans lp f c .norm st=some x:=by
 show lp f c (e8 (ans f) c st)=_;rw[h];exact k
theorem uS{E:ae}{a b:Slot}{O:List ai}{lo:Nat}{E':ae}(h:iL O (.val E)=.val E'){s6 s7 s8 s9 s10 CD C0 HZ JW JV JU FA E9 E8 E7:Slot} :
  e8 (ans 104) (aN Tryz.f104 0) ⟨[a,b,.val E,s6,s7,s8,s9,s10,CD,C0,HZ,JW,JV,JU,FA,E9,E8,E7],⟨O,lo⟩⟩=⟨[a,b,.val E',.dead,.dead,.dead,.dead,.dead,.dead,.dead,.dead,.dead,.dead,.dead,.dead,.dead,.dead,.dead],⟨O,lo⟩⟩:=by
 have h1:∀st,e8 (ans 104) (aN Tryz.f104 0) st=nX (ans 104) (aN Tryz.f104 0) ⟨dZ st.sto.objs [2] (ans 104).keep st.tm,st.sto⟩:=λst=>by rw[XA];rfl
 rw[h1,XA]
 have e0:dZ O [2] v8.keep [a,b,.val E,s6,s7,s8,s9,s10,CD,C0,HZ,JW,JV,JU,FA,E9,E8,E7]=[a,b,.val E',s6,s7,s8,s9,s10,CD,C0,HZ,JW,JV,JU,FA,E9,E8,E7]:=by
  show a::b::iL O (.val E)::_=_;rw[h];rfl
 simp only;rw[e0];rfl
end Go.Proofs.YtoiocfngjchdiaaGreatDoor
namespace Go.AM
mutual
def ah.sz:ah->Nat
 |.mk _ al=>1+ah.ba al
def ah.ba:List ah->Nat
 |[]=>0
 |t::ts=>t.sz+ah.ba ts
end
mutual
def ah.hg:ah->Nat
 |.mk _ al=>ah.az al
def ah.az:List ah->Nat
 |[]=>0
 |t::ts=>max (1+t.hg) (ah.az ts)
end
theorem ah.mB{t:ah}:∀{l:List ah},t∈l->t.sz<=ah.ba l
 |x::l,h=>by
  simp only[ah.ba];rcases As.1 h with h|h
  ·subst h;omega
  ·have:=ah.mB h;omega
theorem ah.nc{t:ah}:∀{l:List ah},t∈l->1+t.hg<=ah.az l
 |x::l,h=>by
  simp only[ah.az];rcases As.1 h with h|h
  ·subst h;omega
  ·have:=ah.nc h;omega
end Go.AM
namespace Go.Proofs.YtoiocfngjchdiaaGreatDoor
open Go.AM
variable [h_]
def BG(Q:List ai)(d s m:Nat):List ai:=Q.set d (.box [.val (.int .i64 (s:Nat)),.val (.int .i64 (m:Nat))])
theorem kB(Q:List ai)(d s m:Nat):(BG Q d s m).length=Q.length:=by simp[BG]
theorem aIm{Q:List ai}{d:Nat}(h:d<Q.length)(s m:Nat):(BG Q d s m)[d]?=some (.box [.val (.int .i64 (s:Nat)),.val (.int .i64 (m:Nat))]):=by simp[BG,h]
theorem aIn(Q:List ai)(d s m s' m':Nat):(BG Q d s m).set d (.box [.val (.int .i64 (s':Nat)),.val (.int .i64 (m':Nat))])=BG Q d s' m':=by simp[BG]
theorem lY{Q:List ai}{d:Nat}(h:d<Q.length)(L:List ai)(s m:Nat):BG (Q++L) d s m=BG Q d s m++L:=by simp[BG,Em,h]
theorem iW{Q:List ai}{d:Nat}(h:d<Q.length)(L:List ai)(s i:Nat):(AW (Q++L) d s)[Q.length+i]?=L[i]?:=by
 rw[eX h,<-bY Q d s];exact ew _ _ _
theorem iX{Q:List ai}{d:Nat}(h:d<Q.length)(L:List ai)(s m i:Nat):(BG (Q++L) d s m)[Q.length+i]?=L[i]?:=by
 rw[lY h,<-kB Q d s m];exact ew _ _ _
theorem wD{α:Type}{X:Option (α×AH)}{r:α}{Q:List ai}{d s m s' m' lo:Nat}(h:X=some (r,⟨(BG Q d s' m').take (BG Q d s m).length,lo⟩)):X=some (r,⟨BG Q d s' m',lo⟩):=by
 rw[h,Bz];rw[kB,kB];exact Ae _
theorem Wh{α:Type}{X:Option (α×AH)}{r:α}{Q L:List ai}{d s m s' m' lo:Nat}(h:X=some (r,⟨(BG Q d s' m'++L).take (BG Q d s m).length,lo⟩)):X=some (r,⟨BG Q d s' m',lo⟩):=by
 rw[h,Fz];rw[kB,kB]
theorem Zs(a b:Nat):(bif decide (((b:Nat):Int)>(a:Nat)) then((b:Nat):Int) else(a:Nat))=((max a b:Nat):Int):=by
 by_cases h:a<b
 ·rw[show decide (((b:Nat):Int)>(a:Nat))=true by simp;omega,Bo];congr 1;omega
 ·rw[show decide (((b:Nat):Int)>(a:Nat))=false by simp;omega,Bh];congr 1;omega
mutual
def ag.sz:ag->Nat
 |.mk _ _ al=>1+ag.ba al
def ag.ba:List ag->Nat
 |[]=>0
 |t::ts=>t.sz+ag.ba ts
end
mutual
def ag.hg:ag->Nat
 |.mk _ _ al=>ag.az al
def ag.az:List ag->Nat
 |[]=>0
 |t::ts=>max (1+t.hg) (ag.az ts)
end
mutual
def af.sz:af->Nat
 |.mk _ _ _ _ al pl=>1+af.ba al+ag.ba pl
def af.ba:List af->Nat
 |[]=>0
 |t::ts=>t.sz+af.ba ts
end
mutual
def af.hg:af->Nat
 |.mk _ _ _ _ al pl=>max (af.az al) (ag.az pl)
def af.az:List af->Nat
 |[]=>0
 |t::ts=>max (1+t.hg) (af.az ts)
end
end Go.Proofs.YtoiocfngjchdiaaGreatDoor
namespace Go.AM
open Go.Proofs.YtoiocfngjchdiaaGreatDoor
theorem ah.kT(t:ah):t.sz=1+ah.ba (eA t):=by cases t;rfl
end Go.AM
namespace Go.Proofs.YtoiocfngjchdiaaGreatDoor
open Go.AM
variable [h_]
end Go.Proofs.YtoiocfngjchdiaaGreatDoor
namespace Go.AM
open Go.Proofs.YtoiocfngjchdiaaGreatDoor
theorem ah.lx(t:ah):t.hg=ah.az (eA t):=by cases t;rfl
end Go.AM
namespace Go.Proofs.YtoiocfngjchdiaaGreatDoor
open Go.AM
variable [h_]
theorem ag.kT(t:ag):t.sz=1+ag.ba t.args:=by cases t;rfl
theorem ag.lx(t:ag):t.hg=ag.az t.args:=by cases t;rfl
theorem af.kT(t:af):t.sz=1+af.ba t.args+ag.ba t.ez:=by cases t;rfl
theorem af.lx(t:af):t.hg=max (af.az t.args) (ag.az t.ez):=by cases t;rfl
end Go.Proofs.YtoiocfngjchdiaaGreatDoor
namespace Go.AM
open Go.Proofs.YtoiocfngjchdiaaGreatDoor
theorem ah.ve(t:ah):0<t.sz:=by rw[ah.kT];omega
end Go.AM
namespace Go.Proofs.YtoiocfngjchdiaaGreatDoor
open Go.AM
variable [h_]
theorem ag.ve(t:ag):0<t.sz:=by rw[ag.kT];omega
theorem af.ve(t:af):0<t.sz:=by rw[af.kT];omega
end Go.Proofs.YtoiocfngjchdiaaGreatDoor
namespace Go.AM
open Go.Proofs.YtoiocfngjchdiaaGreatDoor
theorem ah.nz(l:List ah):l.length<=ah.ba l:=by
 induction l with
 |nil=>simp[ah.ba]
 |cons t ts ih=>simp only[ah.ba,Ak];have:=t.ve;omega
end Go.AM
namespace Go.Proofs.YtoiocfngjchdiaaGreatDoor
open Go.AM
variable [h_]
theorem ag.nz(l:List ag):l.length<=ag.ba l:=by
 induction l with
 |nil=>simp[ag.ba]
 |cons t ts ih=>simp only[ag.ba,Ak];have:=t.ve;omega
theorem ag.mB{t:ag}:∀{l:List ag},t∈l->t.sz<=ag.ba l
 |x::l,h=>by
  simp only[ag.ba];rcases As.1 h with h|h
  ·subst h;omega
  ·have:=ag.mB h;omega
theorem ag.nc{t:ag}:∀{l:List ag},t∈l->1+t.hg<=ag.az l
 |x::l,h=>by
  simp only[ag.az];rcases As.1 h with h|h
  ·subst h;omega
  ·have:=ag.nc h;omega
theorem af.nz(l:List af):l.length<=af.ba l:=by
 induction l with
 |nil=>simp[af.ba]
 |cons t ts ih=>simp only[af.ba,Ak];have:=t.ve;omega
theorem af.mB{t:af}:∀{l:List af},t∈l->t.sz<=af.ba l
 |x::l,h=>by
  simp only[af.ba];rcases As.1 h with h|h
  ·subst h;omega
  ·have:=af.mB h;omega
theorem af.nc{t:af}:∀{l:List af},t∈l->1+t.hg<=af.az l
 |x::l,h=>by
  simp only[af.az];rcases As.1 h with h|h
  ·subst h;omega
  ·have:=af.nc h;omega
end Go.Proofs.YtoiocfngjchdiaaGreatDoor
namespace Go.AM
open Go.Proofs.YtoiocfngjchdiaaGreatDoor
theorem ah.ind{p:ah->Prop}(h:∀t,(∀a∈eA t,p a)->p t):∀t,p t:=by
 have:∀n t,ah.sz t<n->p t:=by
  intro n;induction n with
  |zero=>intro t ht;omega
  |succ n ih=>intro t ht;exact h t λa ha=>ih a (by have:=ah.mB ha;rw[ah.kT] at ht;omega)
 exact λt=>this (t.sz+1) t (by omega)
end Go.AM
namespace Go.Proofs.YtoiocfngjchdiaaGreatDoor
open Go.AM
variable [h_]
def eH(e:af):List Cell:=[.val (.int .i64 e.kind),.val (.int .i64 e.num),.val (.str e.name),.val (.str e.arg),.val (.slice (e.args.map af.enc)),.val (.slice (e.ez.map ag.enc))]
def eI(p:ag):List Cell:=[.val (.int .i64 p.kind),.val (.str p.name),.val (.slice (p.args.map ag.enc))]
def eJ(t:ah):List Cell:=[.val (.str (tyName t)),.val (.slice ((eA t).map ah.enc))]
theorem WK{Q:List ai}{d lo:Nat}{g:FuncId}{caps:List ae}(hg:(ans g).ownArg=[])(hd:d<Q.length)(AP:lo<=d)(m k m':Nat)(hk:k<=100)
  (h:CF (.fn g) (caps.map .val) ⟨AW Q d (max m k),lo⟩=some (.ret (.aj []),⟨AW Q d m',lo⟩)) :
  CF (.fn 174) [.val (.loc d 0),.val (.int .i64 (k:Nat)),.val (.func g caps)] ⟨AW Q d m,lo⟩=some (.ret (.aj []),⟨AW Q d m',lo⟩):=by
 have AN:=gh hd m;have fM:=λx=>gl Q d m x
 have hle:Nat.ble lo d=true:=Ah AP;have Rm:=Zs m k;have I3:decide (((k:Nat):Int)<=100)=true:=by simp;omega
 clear hd AP hk;refine GZ ?_;exact wC rfl
theorem WJ{Q:List ai}{d lo:Nat}{g:FuncId}{caps:List ae}(hg:(ans g).ownArg=[])(hd:d<Q.length)(AP:lo<=d)(s m k s' m':Nat)(hk:k<=100)(hs:s<=2000)
  (h:CF (.fn g) (caps.map .val) ⟨BG Q d (s+1) (max m k),lo⟩=some (.ret (.aj []),⟨BG Q d s' m',lo⟩)) :
  CF (.fn 177) [.val (.loc d 0),.val (.int .i64 (k:Nat)),.val (.func g caps)] ⟨BG Q d s m,lo⟩=some (.ret (.aj []),⟨BG Q d s' m',lo⟩):=by
 have AN:=λs m=>aIm hd s m
 have fM:=λs m s' m'=>aIn Q d s m s' m'
 have hle:Nat.ble lo d=true:=Ah AP;have Rm:=Zs m k;have I3:decide (((k:Nat):Int)>100)=false:=by simp;omega
 have Io:decide (((s:Nat):Int)>2000)=false:=by simp;omega
 have k5:IntKind.i64.wrap (((s:Nat):Int)+1)=((s+1:Nat):Int):=wI _ (by simp only[AR];omega);clear hd AP hk hs;refine GZ ?_;exact wD rfl
theorem aBo{Q:List ai}{d lo a b c k:Nat}(hb:∀m,(AW Q d m)[b]?=some (.box [.val (.loc d 0)]))(hc:∀m,(AW Q d m)[c]?=some (.box [.val (.int .i64 (k:Nat))]))(hk:k<=100)(ys:List ah):∀(pre:List ah)(m:Nat),(pre++ys).length<AR->k<=m->(∀y∈ys,∀m,k<=m->CF (.fn 185) [.val (.loc d 0),.val y.enc,.val (.int .i64 ((k+1:Nat):Int))] ⟨AW Q d m,lo⟩=some (.ret (.aj []),⟨AW Q d (max m (k+1+y.hg)),lo⟩)) ->
  ∃s0 s4 s6 s7 s8 s9,LP 235 (aN Tryz.f235 0) ⟨[.dead,.val (.loc b 0),.val (.loc c 0),.dead,.val (.slice ((pre++ys).map ah.enc)),.val (.int .i64 ((pre++ys).length:Nat)),.val (.int .i64 (pre.length:Nat)),.dead],⟨AW Q d m,lo⟩⟩ =
   some (.exit 0,⟨[s0,.val (.loc b 0),.val (.loc c 0),s4,s6,s7,s8,s9],⟨AW Q d (max m (k+ah.az ys)),lo⟩⟩):=by
 induction ys with
 |nil =>
  intro pre m h3 hm h4;have AL:=DK pre;have e1:max m (k+ah.az [])=m:=by simp only[ah.az];omega
  rw[e1];simp only[Ao];clear h4 hb hc e1;iterate 6 apply Exists.intro
  refine tI rfl ?_;exact wk;all_goals exact .dead
 |cons y ys ih =>
  intro pre m h3 hm h4;have AN:=cQ ah.enc pre ys y;have AL:=CQ pre ys y;have h0:=zI pre.length;have hw:=wL pre ys y h3;have hy:=h4 y (by simp) m hm;have GG:=hb m;have MF:=hc m;have k5:IntKind.i64.wrap (((k:Nat):Int)+1)=((k+1:Nat):Int):=wI _ (by simp only[AR];omega);obtain⟨s0,s4,s6,s7,s8,s9,ih⟩:=ih (pre++[y]) (max m (k+1+y.hg)) (by simpa using h3) (by omega) (λx hx=>h4 x (by simp[hx]));simp only[Aj,Al] at ih;have e1:max (max m (k+1+y.hg)) (k+ah.az ys)=max m (k+ah.az (y::ys)):=by simp only[ah.az];omega
  rw[e1] at ih;rw[dA y] at AN hy;refine⟨s0,s4,s6,s7,s8,s9,?_⟩;refine tI rfl ?_;clear h4 hb hc hk e1 hm;exact wk
theorem aOm:(ans 235).ownArg=[]:=by rw[Mw]
theorem aWr{Q:List ai}{d lo a b c k:Nat}(x:ah)(hx:x.sz<4000)(ha:∀m,(AW Q d m)[a]?=some (.box (eJ x)))(hb:∀m,(AW Q d m)[b]?=some (.box [.val (.loc d 0)]))(hc:∀m,(AW Q d m)[c]?=some (.box [.val (.int .i64 (k:Nat))]))(hk:k<=100)(m:Nat)(hm:k<=m)
  (h0:∀y∈(eA x),∀m,k<=m->CF (.fn 185) [.val (.loc d 0),.val y.enc,.val (.int .i64 ((k+1:Nat):Int))] ⟨AW Q d m,lo⟩=some (.ret (.aj []),⟨AW Q d (max m (k+1+y.hg)),lo⟩)) :
  CF (.fn 235) [.val (.loc a 0),.val (.loc b 0),.val (.loc c 0)] ⟨AW Q d m,lo⟩=some (.ret (.aj []),⟨AW Q d (max m (k+x.hg)),lo⟩):=by
 have BD:=x.kT;have F8:=ah.nz (eA x);obtain⟨s0,s4,s6,s7,s8,s9,hl⟩:=aBo (lo:=lo) (a:=a) hb hc hk (eA x) [] (m) (by simp only[Ai,AR];omega) (by omega) h0;simp only[Ai,Ap] at hl;have e0:((0:Nat):Int)=0:=rfl;rw[e0] at hl;have e1:max m (k+ah.az (eA x))=max m (k+x.hg):=by rw[x.lx]<;>omega
 rw[e1] at hl;have KJ:=ha m;simp only[eJ] at KJ;clear ha hb hc h0 BD hx e1 hm hk F8;refine l9 ?_;exact wC rfl
theorem aWf:∀(x:ah)(Q:List ai)(d lo m k:Nat),d<Q.length->lo<=d->k+x.hg<=100->x.sz<4000 ->
  CF (.fn 185) [.val (.loc d 0),.val x.enc,.val (.int .i64 (k:Nat))] ⟨AW Q d m,lo⟩=some (.ret (.aj []),⟨AW Q d (max m (k+x.hg)),lo⟩):=by
 intro x;induction x using ah.ind with
 |h x ih =>
  intro Q d lo m k hd AP hk hx;have BD:=x.kT;have hb:Nat.ble (Nat.succ d) Q.length=true:=Ah hd;have hlen:=λm=>bY Q d m
  have D1:d<(Q++[ai.box [.val (.loc d 0)],.box (eJ x),.box [.val (.int .i64 (k:Nat))]]).length:=by simp;omega
  have GU:=uj (AW Q d m) [ai.box [.val (.loc d 0)],.box (eJ x),.box [.val (.int .i64 (k:Nat))]];have HH:=ew (AW Q d m) [ai.box [.val (.loc d 0)],.box (eJ x),.box [.val (.int .i64 (k:Nat))]] 2
  have BQ:=aWr (Q:=Q++[ai.box [.val (.loc d 0)],.box (eJ x),.box [.val (.int .i64 (k:Nat))]]) (d:=d) (lo:=lo) (a:=Q.length+1) (b:=Q.length) (c:=Q.length+2) (k:=k) x hx
   (λm=>by rw[iW hd]<;>rfl) (λm=>by have:=iW hd [ai.box [.val (.loc d 0)],.box (eJ x),.box [.val (.int .i64 (k:Nat))]] m 0;rw[Ax] at this;rw[this];rfl) (λm=>by rw[iW hd]<;>rfl) (by omega) (max m k) (by omega)
   (λy hy m _=>ih y hy _ d lo m (k+1) D1 AP (by have:=ah.nc hy;rw[x.lx] at hk;omega) (by have:=ah.mB hy;omega))
  have hc:=WK (Q:=Q++[ai.box [.val (.loc d 0)],.box (eJ x),.box [.val (.int .i64 (k:Nat))]]) (d:=d) (lo:=lo) (g:=235) (caps:=[.loc (Q.length+1) 0,.loc Q.length 0,.loc (Q.length+2) 0]) aOm D1 AP m k _ (by omega) BQ;rw[eX hd,eX hd] at hc;have e1:max (max m k) (k+x.hg)=max m (k+x.hg):=by omega
  rw[e1] at hc;simp only[hlen] at GU HH;simp only[eJ,Cc,Ca] at GU HH hc;rw[dA x];clear BQ ih hd AP hk hx D1 BD e1;refine zG ?_;exact Qk rfl
theorem aBm{Q:List ai}{d lo a b c k:Nat}(hb:∀m,(AW Q d m)[b]?=some (.box [.val (.loc d 0)]))(hc:∀m,(AW Q d m)[c]?=some (.box [.val (.int .i64 (k:Nat))]))(hk:k<=100)(ys:List ag):∀(pre:List ag)(m:Nat),(pre++ys).length<AR->k<=m->(∀y∈ys,∀m,k<=m->CF (.fn 176) [.val (.loc d 0),.val y.enc,.val (.int .i64 ((k+1:Nat):Int))] ⟨AW Q d m,lo⟩=some (.ret (.aj []),⟨AW Q d (max m (k+1+y.hg)),lo⟩)) ->
  ∃s0 s4 s6 s7 s8 s9,LP 229 (aN Tryz.f229 0) ⟨[.dead,.val (.loc b 0),.val (.loc c 0),.dead,.val (.slice ((pre++ys).map ag.enc)),.val (.int .i64 ((pre++ys).length:Nat)),.val (.int .i64 (pre.length:Nat)),.dead],⟨AW Q d m,lo⟩⟩ =
   some (.exit 0,⟨[s0,.val (.loc b 0),.val (.loc c 0),s4,s6,s7,s8,s9],⟨AW Q d (max m (k+ag.az ys)),lo⟩⟩):=by
 induction ys with
 |nil =>
  intro pre m h3 hm h4;have AL:=DK pre;have e1:max m (k+ag.az [])=m:=by simp only[ag.az];omega
  rw[e1];simp only[Ao];clear h4 hb hc e1;iterate 6 apply Exists.intro
  refine tI rfl ?_;exact wk;all_goals exact .dead
 |cons y ys ih =>
  intro pre m h3 hm h4;have AN:=cQ ag.enc pre ys y;have AL:=CQ pre ys y;have h0:=zI pre.length;have hw:=wL pre ys y h3;have hy:=h4 y (by simp) m hm;have GG:=hb m;have MF:=hc m;have k5:IntKind.i64.wrap (((k:Nat):Int)+1)=((k+1:Nat):Int):=wI _ (by simp only[AR];omega);obtain⟨s0,s4,s6,s7,s8,s9,ih⟩:=ih (pre++[y]) (max m (k+1+y.hg)) (by simpa using h3) (by omega) (λx hx=>h4 x (by simp[hx]));simp only[Aj,Al] at ih;have e1:max (max m (k+1+y.hg)) (k+ag.az ys)=max m (k+ag.az (y::ys)):=by simp only[ag.az];omega
  rw[e1] at ih;rw[y.aw] at AN hy;refine⟨s0,s4,s6,s7,s8,s9,?_⟩;refine tI rfl ?_;clear h4 hb hc hk e1 hm;exact wk
theorem aOi:(ans 229).ownArg=[]:=by rw[L1]
theorem aWn{Q:List ai}{d lo a b c k:Nat}(x:ag)(hx:x.sz<4000)(ha:∀m,(AW Q d m)[a]?=some (.box (eI x)))(hb:∀m,(AW Q d m)[b]?=some (.box [.val (.loc d 0)]))(hc:∀m,(AW Q d m)[c]?=some (.box [.val (.int .i64 (k:Nat))]))(hk:k<=100)(m:Nat)(hm:k<=m)
  (h0:∀y∈x.args,∀m,k<=m->CF (.fn 176) [.val (.loc d 0),.val y.enc,.val (.int .i64 ((k+1:Nat):Int))] ⟨AW Q d m,lo⟩=some (.ret (.aj []),⟨AW Q d (max m (k+1+y.hg)),lo⟩)) :
  CF (.fn 229) [.val (.loc a 0),.val (.loc b 0),.val (.loc c 0)] ⟨AW Q d m,lo⟩=some (.ret (.aj []),⟨AW Q d (max m (k+x.hg)),lo⟩):=by
 have BD:=x.kT;have F8:=ag.nz x.args;obtain⟨s0,s4,s6,s7,s8,s9,hl⟩:=aBm (lo:=lo) (a:=a) hb hc hk x.args [] (m) (by simp only[Ai,AR];omega) (by omega) h0;simp only[Ai,Ap] at hl;have e0:((0:Nat):Int)=0:=rfl;rw[e0] at hl;have e1:max m (k+ag.az x.args)=max m (k+x.hg):=by rw[x.lx]<;>omega
 rw[e1] at hl;have KJ:=ha m;simp only[eI] at KJ;clear ha hb hc h0 BD hx e1 hm hk F8;refine l9 ?_;exact wC rfl
theorem aWa:∀(x:ag)(Q:List ai)(d lo m k:Nat),d<Q.length->lo<=d->k+x.hg<=100->x.sz<4000 ->
  CF (.fn 176) [.val (.loc d 0),.val x.enc,.val (.int .i64 (k:Nat))] ⟨AW Q d m,lo⟩=some (.ret (.aj []),⟨AW Q d (max m (k+x.hg)),lo⟩):=by
 intro x;induction x using ag.ind with
 |h x ih =>
  intro Q d lo m k hd AP hk hx;have BD:=x.kT;have hb:Nat.ble (Nat.succ d) Q.length=true:=Ah hd;have hlen:=λm=>bY Q d m
  have D1:d<(Q++[ai.box [.val (.loc d 0)],.box (eI x),.box [.val (.int .i64 (k:Nat))]]).length:=by simp;omega
  have GU:=uj (AW Q d m) [ai.box [.val (.loc d 0)],.box (eI x),.box [.val (.int .i64 (k:Nat))]];have HH:=ew (AW Q d m) [ai.box [.val (.loc d 0)],.box (eI x),.box [.val (.int .i64 (k:Nat))]] 2
  have BQ:=aWn (Q:=Q++[ai.box [.val (.loc d 0)],.box (eI x),.box [.val (.int .i64 (k:Nat))]]) (d:=d) (lo:=lo) (a:=Q.length+1) (b:=Q.length) (c:=Q.length+2) (k:=k) x hx
   (λm=>by rw[iW hd]<;>rfl) (λm=>by have:=iW hd [ai.box [.val (.loc d 0)],.box (eI x),.box [.val (.int .i64 (k:Nat))]] m 0;rw[Ax] at this;rw[this];rfl) (λm=>by rw[iW hd]<;>rfl) (by omega) (max m k) (by omega)
   (λy hy m _=>ih y hy _ d lo m (k+1) D1 AP (by have:=ag.nc hy;rw[x.lx] at hk;omega) (by have:=ag.mB hy;omega))
  have hc:=WK (Q:=Q++[ai.box [.val (.loc d 0)],.box (eI x),.box [.val (.int .i64 (k:Nat))]]) (d:=d) (lo:=lo) (g:=229) (caps:=[.loc (Q.length+1) 0,.loc Q.length 0,.loc (Q.length+2) 0]) aOi D1 AP m k _ (by omega) BQ;rw[eX hd,eX hd] at hc;have e1:max (max m k) (k+x.hg)=max m (k+x.hg):=by omega
  rw[e1] at hc;simp only[hlen] at GU HH;simp only[eI,Cc,Ca] at GU HH hc;rw[x.aw];clear BQ ih hd AP hk hx D1 BD e1;refine zG ?_;exact Qk rfl
theorem aBi{Q:List ai}{d lo a b c k:Nat}(hb:∀m,(AW Q d m)[b]?=some (.box [.val (.loc d 0)]))(hc:∀m,(AW Q d m)[c]?=some (.box [.val (.int .i64 (k:Nat))]))(hk:k<=100)(ys:List af):∀(pre:List af)(m:Nat),(pre++ys).length<AR->k<=m->(∀y∈ys,∀m,k<=m->CF (.fn 115) [.val (.loc d 0),.val y.enc,.val (.int .i64 ((k+1:Nat):Int))] ⟨AW Q d m,lo⟩=some (.ret (.aj []),⟨AW Q d (max m (k+1+y.hg)),lo⟩)) ->
  ∃s4 s6 s8 s9 s10 BK CP DP BT B2,LP 175 (aN Tryz.f175 0) ⟨[.val (.loc a 0),.val (.loc b 0),.val (.loc c 0),.dead,.dead,.val (.slice ((pre++ys).map af.enc)),.val (.int .i64 ((pre++ys).length:Nat)),.val (.int .i64 (pre.length:Nat)),.dead,.dead,.dead,.dead,.dead],⟨AW Q d m,lo⟩⟩ =
   some (.exit 0,⟨[.val (.loc a 0),.val (.loc b 0),.val (.loc c 0),s4,s6,s8,s9,s10,BK,CP,DP,BT,B2],⟨AW Q d (max m (k+af.az ys)),lo⟩⟩):=by
 induction ys with
 |nil =>
  intro pre m h3 hm h4;have AL:=DK pre;have e1:max m (k+af.az [])=m:=by simp only[af.az];omega
  rw[e1];simp only[Ao];clear h4 hb hc e1;iterate 10 apply Exists.intro
  refine tI rfl ?_;exact wk;all_goals exact .dead
 |cons y ys ih =>
  intro pre m h3 hm h4;have AN:=cQ af.enc pre ys y;have AL:=CQ pre ys y;have h0:=zI pre.length;have hw:=wL pre ys y h3;have hy:=h4 y (by simp) m hm;have GG:=hb m;have MF:=hc m;have k5:IntKind.i64.wrap (((k:Nat):Int)+1)=((k+1:Nat):Int):=wI _ (by simp only[AR];omega);obtain⟨s4,s6,s8,s9,s10,BK,CP,DP,BT,B2,ih⟩:=ih (pre++[y]) (max m (k+1+y.hg)) (by simpa using h3) (by omega) (λx hx=>h4 x (by simp[hx]));simp only[Aj,Al] at ih;have e1:max (max m (k+1+y.hg)) (k+af.az ys)=max m (k+af.az (y::ys)):=by simp only[af.az];omega
  rw[e1] at ih;rw[y.aw] at AN hy;refine⟨s4,s6,s8,s9,s10,BK,CP,DP,BT,B2,?_⟩;refine tI rfl ?_;clear h4 hb hc hk e1 hm;exact wk
theorem aBj{Q:List ai}{d lo a b c k:Nat}(hb:∀m,(AW Q d m)[b]?=some (.box [.val (.loc d 0)]))(hc:∀m,(AW Q d m)[c]?=some (.box [.val (.int .i64 (k:Nat))]))(hk:k<=100)(ys:List ag):∀(pre:List ag)(m:Nat),(pre++ys).length<AR->k<=m->(∀y∈ys,∀m,k<=m->CF (.fn 176) [.val (.loc d 0),.val y.enc,.val (.int .i64 ((k+1:Nat):Int))] ⟨AW Q d m,lo⟩=some (.ret (.aj []),⟨AW Q d (max m (k+1+y.hg)),lo⟩)) ->
  ∃s0 s4 s6 s8 s9 s10 BK CP DP BT B2,LP 175 (aN Tryz.f175 1) ⟨[.dead,.val (.loc b 0),.val (.loc c 0),.dead,.dead,.dead,.dead,.dead,.dead,.val (.slice ((pre++ys).map ag.enc)),.val (.int .i64 ((pre++ys).length:Nat)),.val (.int .i64 (pre.length:Nat)),.dead],⟨AW Q d m,lo⟩⟩ =
   some (.exit 2,⟨[s0,.val (.loc b 0),.val (.loc c 0),s4,s6,s8,s9,s10,BK,CP,DP,BT,B2],⟨AW Q d (max m (k+ag.az ys)),lo⟩⟩):=by
 induction ys with
 |nil =>
  intro pre m h3 hm h4;have AL:=DK pre;have e1:max m (k+ag.az [])=m:=by simp only[ag.az];omega
  rw[e1];simp only[Ao];clear h4 hb hc e1;iterate 11 apply Exists.intro
  refine tI rfl ?_;exact wk;all_goals exact .dead
 |cons y ys ih =>
  intro pre m h3 hm h4;have AN:=cQ ag.enc pre ys y;have AL:=CQ pre ys y;have h0:=zI pre.length;have hw:=wL pre ys y h3;have hy:=h4 y (by simp) m hm;have GG:=hb m;have MF:=hc m;have k5:IntKind.i64.wrap (((k:Nat):Int)+1)=((k+1:Nat):Int):=wI _ (by simp only[AR];omega);obtain⟨s0,s4,s6,s8,s9,s10,BK,CP,DP,BT,B2,ih⟩:=ih (pre++[y]) (max m (k+1+y.hg)) (by simpa using h3) (by omega) (λx hx=>h4 x (by simp[hx]));simp only[Aj,Al] at ih;have e1:max (max m (k+1+y.hg)) (k+ag.az ys)=max m (k+ag.az (y::ys)):=by simp only[ag.az];omega
  rw[e1] at ih;rw[y.aw] at AN hy;refine⟨s0,s4,s6,s8,s9,s10,BK,CP,DP,BT,B2,?_⟩;refine tI rfl ?_;clear h4 hb hc hk e1 hm;exact wk
theorem aOe:(ans 175).ownArg=[]:=by rw[R5]
theorem aV9{Q:List ai}{d lo a b c k:Nat}(x:af)(hx:x.sz<4000)(ha:∀m,(AW Q d m)[a]?=some (.box (eH x)))(hb:∀m,(AW Q d m)[b]?=some (.box [.val (.loc d 0)]))(hc:∀m,(AW Q d m)[c]?=some (.box [.val (.int .i64 (k:Nat))]))(hk:k<=100)(m:Nat)(hm:k<=m)
  (h0:∀y∈x.args,∀m,k<=m->CF (.fn 115) [.val (.loc d 0),.val y.enc,.val (.int .i64 ((k+1:Nat):Int))] ⟨AW Q d m,lo⟩=some (.ret (.aj []),⟨AW Q d (max m (k+1+y.hg)),lo⟩))
  (h1:∀y∈x.ez,∀m,k<=m->CF (.fn 176) [.val (.loc d 0),.val y.enc,.val (.int .i64 ((k+1:Nat):Int))] ⟨AW Q d m,lo⟩=some (.ret (.aj []),⟨AW Q d (max m (k+1+y.hg)),lo⟩)) :
  CF (.fn 175) [.val (.loc a 0),.val (.loc b 0),.val (.loc c 0)] ⟨AW Q d m,lo⟩=some (.ret (.aj []),⟨AW Q d (max m (k+x.hg)),lo⟩):=by
 have BD:=x.kT;have F8:=af.nz x.args;obtain⟨s4,s6,s8,s9,s10,BK,CP,DP,BT,B2,hl⟩:=aBi (lo:=lo) (a:=a) hb hc hk x.args [] (m) (by simp only[Ai,AR];omega) (by omega) h0;have Mx:=ag.nz x.ez;obtain⟨m0,m4,a6r,a6t,m9,m10,Tl,m21,m22,Th,Tg,G7⟩:=aBj (lo:=lo) (a:=a) hb hc hk x.ez [] (max m (k+af.az x.args)) (by simp only[Ai,AR];omega) (by omega) h1;simp only[Ai,Ap] at hl G7;have e0:((0:Nat):Int)=0:=rfl;rw[e0] at hl G7;have e1:max (max m (k+af.az x.args)) (k+ag.az x.ez)=max m (k+x.hg):=by rw[x.lx]<;>omega
 rw[e1] at G7;have KJ:=ha m;have Nf:=ha (max m (k+af.az x.args));simp only[eH] at KJ Nf;clear ha hb hc h0 h1 BD hx e1 hm hk F8 Mx;refine l9 ?_;exact wC rfl
theorem WO:∀(x:af)(Q:List ai)(d lo m k:Nat),d<Q.length->lo<=d->k+x.hg<=100->x.sz<4000 ->
  CF (.fn 115) [.val (.loc d 0),.val x.enc,.val (.int .i64 (k:Nat))] ⟨AW Q d m,lo⟩=some (.ret (.aj []),⟨AW Q d (max m (k+x.hg)),lo⟩):=by
 intro x;induction x using af.ind with
 |h x ih =>
  intro Q d lo m k hd AP hk hx;have BD:=x.kT;have hb:Nat.ble (Nat.succ d) Q.length=true:=Ah hd;have hlen:=λm=>bY Q d m
  have D1:d<(Q++[ai.box [.val (.loc d 0)],.box (eH x),.box [.val (.int .i64 (k:Nat))]]).length:=by simp;omega
  have GU:=uj (AW Q d m) [ai.box [.val (.loc d 0)],.box (eH x),.box [.val (.int .i64 (k:Nat))]];have HH:=ew (AW Q d m) [ai.box [.val (.loc d 0)],.box (eH x),.box [.val (.int .i64 (k:Nat))]] 2
  have BQ:=aV9 (Q:=Q++[ai.box [.val (.loc d 0)],.box (eH x),.box [.val (.int .i64 (k:Nat))]]) (d:=d) (lo:=lo) (a:=Q.length+1) (b:=Q.length) (c:=Q.length+2) (k:=k) x hx
   (λm=>by rw[iW hd]<;>rfl) (λm=>by have:=iW hd [ai.box [.val (.loc d 0)],.box (eH x),.box [.val (.int .i64 (k:Nat))]] m 0;rw[Ax] at this;rw[this];rfl) (λm=>by rw[iW hd]<;>rfl) (by omega) (max m k) (by omega)
   (λy hy m _=>ih y hy _ d lo m (k+1) D1 AP (by have:=af.nc hy;rw[x.lx] at hk;omega) (by have:=af.mB hy;omega))
   (λy hy m _=>aWa y _ d lo m (k+1) D1 AP (by have:=ag.nc hy;rw[x.lx] at hk;omega) (by have:=ag.mB hy;omega))
  have hc:=WK (Q:=Q++[ai.box [.val (.loc d 0)],.box (eH x),.box [.val (.int .i64 (k:Nat))]]) (d:=d) (lo:=lo) (g:=175) (caps:=[.loc (Q.length+1) 0,.loc Q.length 0,.loc (Q.length+2) 0]) aOe D1 AP m k _ (by omega) BQ;rw[eX hd,eX hd] at hc;have e1:max (max m k) (k+x.hg)=max m (k+x.hg):=by omega
  rw[e1] at hc;simp only[hlen] at GU HH;simp only[eH,Cc,Ca] at GU HH hc;rw[x.aw];clear BQ ih hd AP hk hx D1 BD e1;refine zG ?_;exact Qk rfl
theorem aBp{Q:List ai}{d lo a b c k:Nat}(hb:∀s m,(BG Q d s m)[b]?=some (.box [.val (.loc d 0)]))(hc:∀s m,(BG Q d s m)[c]?=some (.box [.val (.int .i64 (k:Nat))]))(hk:k<=100)(ys:List ah):∀(pre:List ah)(s m:Nat),(pre++ys).length<AR->k<=m->s+ah.ba ys<=2001->(∀y∈ys,∀s m,s+y.sz<=2001->k<=m->CF (.fn 186) [.val (.loc d 0),.val y.enc,.val (.int .i64 ((k+1:Nat):Int))] ⟨BG Q d s m,lo⟩=some (.ret (.aj []),⟨BG Q d (s+y.sz) (max m (k+1+y.hg)),lo⟩)) ->
  ∃s0 s4 s6 s7 s8 s9,LP 236 (aN Tryz.f236 0) ⟨[.dead,.val (.loc b 0),.val (.loc c 0),.dead,.val (.slice ((pre++ys).map ah.enc)),.val (.int .i64 ((pre++ys).length:Nat)),.val (.int .i64 (pre.length:Nat)),.dead],⟨BG Q d s m,lo⟩⟩ =
   some (.exit 0,⟨[s0,.val (.loc b 0),.val (.loc c 0),s4,s6,s7,s8,s9],⟨BG Q d (s+ah.ba ys) (max m (k+ah.az ys)),lo⟩⟩):=by
 induction ys with
 |nil =>
  intro pre s m h3 hm hs h4;have AL:=DK pre;have e1:max m (k+ah.az [])=m:=by simp only[ah.az];omega
  rw[e1];simp only[Ao,ah.ba,Ax];clear h4 hb hc e1;iterate 6 apply Exists.intro
  refine tI rfl ?_;exact wk;all_goals exact .dead
 |cons y ys ih =>
  intro pre s m h3 hm hs h4;have AN:=cQ ah.enc pre ys y;have AL:=CQ pre ys y;have h0:=zI pre.length;have hw:=wL pre ys y h3;simp only[ah.ba] at hs;have hy:=h4 y (by simp) s m (by omega) hm;have GG:=hb s m;have MF:=hc s m;have k5:IntKind.i64.wrap (((k:Nat):Int)+1)=((k+1:Nat):Int):=wI _ (by simp only[AR];omega);obtain⟨s0,s4,s6,s7,s8,s9,ih⟩:=ih (pre++[y]) (s+y.sz) (max m (k+1+y.hg)) (by simpa using h3) (by omega) (by omega) (λx hx=>h4 x (by simp[hx]));simp only[Aj,Al] at ih;have e1:max (max m (k+1+y.hg)) (k+ah.az ys)=max m (k+ah.az (y::ys)):=by simp only[ah.az];omega
  rw[e1] at ih;have e2:s+y.sz+ah.ba ys=s+ah.ba (y::ys):=by simp only[ah.ba];omega
  rw[e2] at ih;rw[dA y] at AN hy;refine⟨s0,s4,s6,s7,s8,s9,?_⟩;refine tI rfl ?_;clear h4 hb hc hk e1 hm;exact wk
theorem aOn:(ans 236).ownArg=[]:=by rw[M6]
theorem aWs{Q:List ai}{d lo a b c k:Nat}(x:ah)(hx:x.sz<4000)(ha:∀s m,(BG Q d s m)[a]?=some (.box (eJ x)))(hb:∀s m,(BG Q d s m)[b]?=some (.box [.val (.loc d 0)]))(hc:∀s m,(BG Q d s m)[c]?=some (.box [.val (.int .i64 (k:Nat))]))(hk:k<=100)(s m:Nat)(hm:k<=m)(hs:s+(ah.ba (eA x))<=2001)
  (h0:∀y∈(eA x),∀s m,s+y.sz<=2001->k<=m->CF (.fn 186) [.val (.loc d 0),.val y.enc,.val (.int .i64 ((k+1:Nat):Int))] ⟨BG Q d s m,lo⟩=some (.ret (.aj []),⟨BG Q d (s+y.sz) (max m (k+1+y.hg)),lo⟩)) :
  CF (.fn 236) [.val (.loc a 0),.val (.loc b 0),.val (.loc c 0)] ⟨BG Q d s m,lo⟩=some (.ret (.aj []),⟨BG Q d (s+(ah.ba (eA x))) (max m (k+x.hg)),lo⟩):=by
 have BD:=x.kT;have F8:=ah.nz (eA x);obtain⟨s0,s4,s6,s7,s8,s9,hl⟩:=aBp (lo:=lo) (a:=a) hb hc hk (eA x) [] (s) (m) (by simp only[Ai,AR];omega) (by omega) (by omega) h0;simp only[Ai,Ap] at hl;have e0:((0:Nat):Int)=0:=rfl;rw[e0] at hl;have e1:max m (k+ah.az (eA x))=max m (k+x.hg):=by rw[x.lx]<;>omega
 rw[e1] at hl;have KJ:=ha s m;simp only[eJ] at KJ;clear ha hb hc h0 BD hx e1 hm hk hs F8;refine l9 ?_;exact wD rfl
theorem aWg:∀(x:ah)(Q:List ai)(d lo s m k:Nat),d<Q.length->lo<=d->k+x.hg<=100->x.sz<4000->s+x.sz<=2001 ->
  CF (.fn 186) [.val (.loc d 0),.val x.enc,.val (.int .i64 (k:Nat))] ⟨BG Q d s m,lo⟩=some (.ret (.aj []),⟨BG Q d (s+x.sz) (max m (k+x.hg)),lo⟩):=by
 intro x;induction x using ah.ind with
 |h x ih =>
  intro Q d lo s m k hd AP hk hx hs;have BD:=x.kT;have hb:Nat.ble (Nat.succ d) Q.length=true:=Ah hd;have hlen:=λs m=>kB Q d s m
  have D1:d<(Q++[ai.box [.val (.loc d 0)],.box (eJ x),.box [.val (.int .i64 (k:Nat))]]).length:=by simp;omega
  have GU:=uj (BG Q d s m) [ai.box [.val (.loc d 0)],.box (eJ x),.box [.val (.int .i64 (k:Nat))]];have HH:=ew (BG Q d s m) [ai.box [.val (.loc d 0)],.box (eJ x),.box [.val (.int .i64 (k:Nat))]] 2
  have BQ:=aWs (Q:=Q++[ai.box [.val (.loc d 0)],.box (eJ x),.box [.val (.int .i64 (k:Nat))]]) (d:=d) (lo:=lo) (a:=Q.length+1) (b:=Q.length) (c:=Q.length+2) (k:=k) x hx
   (λs m=>by rw[iX hd]<;>rfl) (λs m=>by have:=iX hd [ai.box [.val (.loc d 0)],.box (eJ x),.box [.val (.int .i64 (k:Nat))]] s m 0;rw[Ax] at this;rw[this];rfl) (λs m=>by rw[iX hd]<;>rfl) (by omega) (s+1) (max m k) (by omega) (by omega)
   (λy hy s m h1 _=>ih y hy _ d lo s m (k+1) D1 AP (by have:=ah.nc hy;rw[x.lx] at hk;omega) (by have:=ah.mB hy;omega) h1)
  have hc:=WJ (Q:=Q++[ai.box [.val (.loc d 0)],.box (eJ x),.box [.val (.int .i64 (k:Nat))]]) (d:=d) (lo:=lo) (g:=236) (caps:=[.loc (Q.length+1) 0,.loc Q.length 0,.loc (Q.length+2) 0]) aOn D1 AP s m k _ _ (by omega) (by omega) BQ;rw[lY hd,lY hd] at hc;have e1:max (max m k) (k+x.hg)=max m (k+x.hg):=by omega
  rw[e1] at hc;have e2:s+1+(ah.ba (eA x))=s+x.sz:=by omega
  rw[e2] at hc;simp only[hlen] at GU HH;simp only[eJ,Cc,Ca] at GU HH hc;rw[dA x];clear BQ ih hd AP hk hx D1 BD e1 hs e2;refine zG ?_;exact Wh rfl
theorem aBn{Q:List ai}{d lo a b c k:Nat}(hb:∀s m,(BG Q d s m)[b]?=some (.box [.val (.loc d 0)]))(hc:∀s m,(BG Q d s m)[c]?=some (.box [.val (.int .i64 (k:Nat))]))(hk:k<=100)(ys:List ag):∀(pre:List ag)(s m:Nat),(pre++ys).length<AR->k<=m->s+ag.ba ys<=2001->(∀y∈ys,∀s m,s+y.sz<=2001->k<=m->CF (.fn 179) [.val (.loc d 0),.val y.enc,.val (.int .i64 ((k+1:Nat):Int))] ⟨BG Q d s m,lo⟩=some (.ret (.aj []),⟨BG Q d (s+y.sz) (max m (k+1+y.hg)),lo⟩)) ->
  ∃s0 s4 s6 s7 s8 s9,LP 230 (aN Tryz.f230 0) ⟨[.dead,.val (.loc b 0),.val (.loc c 0),.dead,.val (.slice ((pre++ys).map ag.enc)),.val (.int .i64 ((pre++ys).length:Nat)),.val (.int .i64 (pre.length:Nat)),.dead],⟨BG Q d s m,lo⟩⟩ =
   some (.exit 0,⟨[s0,.val (.loc b 0),.val (.loc c 0),s4,s6,s7,s8,s9],⟨BG Q d (s+ag.ba ys) (max m (k+ag.az ys)),lo⟩⟩):=by
 induction ys with
 |nil =>
  intro pre s m h3 hm hs h4;have AL:=DK pre;have e1:max m (k+ag.az [])=m:=by simp only[ag.az];omega
  rw[e1];simp only[Ao,ag.ba,Ax];clear h4 hb hc e1;iterate 6 apply Exists.intro
  refine tI rfl ?_;exact wk;all_goals exact .dead
 |cons y ys ih =>
  intro pre s m h3 hm hs h4;have AN:=cQ ag.enc pre ys y;have AL:=CQ pre ys y;have h0:=zI pre.length;have hw:=wL pre ys y h3;simp only[ag.ba] at hs;have hy:=h4 y (by simp) s m (by omega) hm;have GG:=hb s m;have MF:=hc s m;have k5:IntKind.i64.wrap (((k:Nat):Int)+1)=((k+1:Nat):Int):=wI _ (by simp only[AR];omega);obtain⟨s0,s4,s6,s7,s8,s9,ih⟩:=ih (pre++[y]) (s+y.sz) (max m (k+1+y.hg)) (by simpa using h3) (by omega) (by omega) (λx hx=>h4 x (by simp[hx]));simp only[Aj,Al] at ih;have e1:max (max m (k+1+y.hg)) (k+ag.az ys)=max m (k+ag.az (y::ys)):=by simp only[ag.az];omega
  rw[e1] at ih;have e2:s+y.sz+ag.ba ys=s+ag.ba (y::ys):=by simp only[ag.ba];omega
  rw[e2] at ih;rw[y.aw] at AN hy;refine⟨s0,s4,s6,s7,s8,s9,?_⟩;refine tI rfl ?_;clear h4 hb hc hk e1 hm;exact wk
theorem aOj:(ans 230).ownArg=[]:=by rw[L2]
theorem aWo{Q:List ai}{d lo a b c k:Nat}(x:ag)(hx:x.sz<4000)(ha:∀s m,(BG Q d s m)[a]?=some (.box (eI x)))(hb:∀s m,(BG Q d s m)[b]?=some (.box [.val (.loc d 0)]))(hc:∀s m,(BG Q d s m)[c]?=some (.box [.val (.int .i64 (k:Nat))]))(hk:k<=100)(s m:Nat)(hm:k<=m)(hs:s+(ag.ba x.args)<=2001)
  (h0:∀y∈x.args,∀s m,s+y.sz<=2001->k<=m->CF (.fn 179) [.val (.loc d 0),.val y.enc,.val (.int .i64 ((k+1:Nat):Int))] ⟨BG Q d s m,lo⟩=some (.ret (.aj []),⟨BG Q d (s+y.sz) (max m (k+1+y.hg)),lo⟩)) :
  CF (.fn 230) [.val (.loc a 0),.val (.loc b 0),.val (.loc c 0)] ⟨BG Q d s m,lo⟩=some (.ret (.aj []),⟨BG Q d (s+(ag.ba x.args)) (max m (k+x.hg)),lo⟩):=by
 have BD:=x.kT;have F8:=ag.nz x.args;obtain⟨s0,s4,s6,s7,s8,s9,hl⟩:=aBn (lo:=lo) (a:=a) hb hc hk x.args [] (s) (m) (by simp only[Ai,AR];omega) (by omega) (by omega) h0;simp only[Ai,Ap] at hl;have e0:((0:Nat):Int)=0:=rfl;rw[e0] at hl;have e1:max m (k+ag.az x.args)=max m (k+x.hg):=by rw[x.lx]<;>omega
 rw[e1] at hl;have KJ:=ha s m;simp only[eI] at KJ;clear ha hb hc h0 BD hx e1 hm hk hs F8;refine l9 ?_;exact wD rfl
theorem aWc:∀(x:ag)(Q:List ai)(d lo s m k:Nat),d<Q.length->lo<=d->k+x.hg<=100->x.sz<4000->s+x.sz<=2001 ->
  CF (.fn 179) [.val (.loc d 0),.val x.enc,.val (.int .i64 (k:Nat))] ⟨BG Q d s m,lo⟩=some (.ret (.aj []),⟨BG Q d (s+x.sz) (max m (k+x.hg)),lo⟩):=by
 intro x;induction x using ag.ind with
 |h x ih =>
  intro Q d lo s m k hd AP hk hx hs;have BD:=x.kT;have hb:Nat.ble (Nat.succ d) Q.length=true:=Ah hd;have hlen:=λs m=>kB Q d s m
  have D1:d<(Q++[ai.box [.val (.loc d 0)],.box (eI x),.box [.val (.int .i64 (k:Nat))]]).length:=by simp;omega
  have GU:=uj (BG Q d s m) [ai.box [.val (.loc d 0)],.box (eI x),.box [.val (.int .i64 (k:Nat))]];have HH:=ew (BG Q d s m) [ai.box [.val (.loc d 0)],.box (eI x),.box [.val (.int .i64 (k:Nat))]] 2
  have BQ:=aWo (Q:=Q++[ai.box [.val (.loc d 0)],.box (eI x),.box [.val (.int .i64 (k:Nat))]]) (d:=d) (lo:=lo) (a:=Q.length+1) (b:=Q.length) (c:=Q.length+2) (k:=k) x hx
   (λs m=>by rw[iX hd]<;>rfl) (λs m=>by have:=iX hd [ai.box [.val (.loc d 0)],.box (eI x),.box [.val (.int .i64 (k:Nat))]] s m 0;rw[Ax] at this;rw[this];rfl) (λs m=>by rw[iX hd]<;>rfl) (by omega) (s+1) (max m k) (by omega) (by omega)
   (λy hy s m h1 _=>ih y hy _ d lo s m (k+1) D1 AP (by have:=ag.nc hy;rw[x.lx] at hk;omega) (by have:=ag.mB hy;omega) h1)
  have hc:=WJ (Q:=Q++[ai.box [.val (.loc d 0)],.box (eI x),.box [.val (.int .i64 (k:Nat))]]) (d:=d) (lo:=lo) (g:=230) (caps:=[.loc (Q.length+1) 0,.loc Q.length 0,.loc (Q.length+2) 0]) aOj D1 AP s m k _ _ (by omega) (by omega) BQ;rw[lY hd,lY hd] at hc;have e1:max (max m k) (k+x.hg)=max m (k+x.hg):=by omega
  rw[e1] at hc;have e2:s+1+(ag.ba x.args)=s+x.sz:=by omega
  rw[e2] at hc;simp only[hlen] at GU HH;simp only[eI,Cc,Ca] at GU HH hc;rw[x.aw];clear BQ ih hd AP hk hx D1 BD e1 hs e2;refine zG ?_;exact Wh rfl
theorem aBk{Q:List ai}{d lo a b c k:Nat}(hb:∀s m,(BG Q d s m)[b]?=some (.box [.val (.loc d 0)]))(hc:∀s m,(BG Q d s m)[c]?=some (.box [.val (.int .i64 (k:Nat))]))(hk:k<=100)(ys:List af):∀(pre:List af)(s m:Nat),(pre++ys).length<AR->k<=m->s+af.ba ys<=2001->(∀y∈ys,∀s m,s+y.sz<=2001->k<=m->CF (.fn 116) [.val (.loc d 0),.val y.enc,.val (.int .i64 ((k+1:Nat):Int))] ⟨BG Q d s m,lo⟩=some (.ret (.aj []),⟨BG Q d (s+y.sz) (max m (k+1+y.hg)),lo⟩)) ->
  ∃s4 s6 s8 s9 s10 BK CP DP BT B2,LP 178 (aN Tryz.f178 0) ⟨[.val (.loc a 0),.val (.loc b 0),.val (.loc c 0),.dead,.dead,.val (.slice ((pre++ys).map af.enc)),.val (.int .i64 ((pre++ys).length:Nat)),.val (.int .i64 (pre.length:Nat)),.dead,.dead,.dead,.dead,.dead],⟨BG Q d s m,lo⟩⟩ =
   some (.exit 0,⟨[.val (.loc a 0),.val (.loc b 0),.val (.loc c 0),s4,s6,s8,s9,s10,BK,CP,DP,BT,B2],⟨BG Q d (s+af.ba ys) (max m (k+af.az ys)),lo⟩⟩):=by
 induction ys with
 |nil =>
  intro pre s m h3 hm hs h4;have AL:=DK pre;have e1:max m (k+af.az [])=m:=by simp only[af.az];omega
  rw[e1];simp only[Ao,af.ba,Ax];clear h4 hb hc e1;iterate 10 apply Exists.intro
  refine tI rfl ?_;exact wk;all_goals exact .dead
 |cons y ys ih =>
  intro pre s m h3 hm hs h4;have AN:=cQ af.enc pre ys y;have AL:=CQ pre ys y;have h0:=zI pre.length;have hw:=wL pre ys y h3;simp only[af.ba] at hs;have hy:=h4 y (by simp) s m (by omega) hm;have GG:=hb s m;have MF:=hc s m;have k5:IntKind.i64.wrap (((k:Nat):Int)+1)=((k+1:Nat):Int):=wI _ (by simp only[AR];omega);obtain⟨s4,s6,s8,s9,s10,BK,CP,DP,BT,B2,ih⟩:=ih (pre++[y]) (s+y.sz) (max m (k+1+y.hg)) (by simpa using h3) (by omega) (by omega) (λx hx=>h4 x (by simp[hx]));simp only[Aj,Al] at ih;have e1:max (max m (k+1+y.hg)) (k+af.az ys)=max m (k+af.az (y::ys)):=by simp only[af.az];omega
  rw[e1] at ih;have e2:s+y.sz+af.ba ys=s+af.ba (y::ys):=by simp only[af.ba];omega
  rw[e2] at ih;rw[y.aw] at AN hy;refine⟨s4,s6,s8,s9,s10,BK,CP,DP,BT,B2,?_⟩;refine tI rfl ?_;clear h4 hb hc hk e1 hm;exact wk
theorem aBl{Q:List ai}{d lo a b c k:Nat}(hb:∀s m,(BG Q d s m)[b]?=some (.box [.val (.loc d 0)]))(hc:∀s m,(BG Q d s m)[c]?=some (.box [.val (.int .i64 (k:Nat))]))(hk:k<=100)(ys:List ag):∀(pre:List ag)(s m:Nat),(pre++ys).length<AR->k<=m->s+ag.ba ys<=2001->(∀y∈ys,∀s m,s+y.sz<=2001->k<=m->CF (.fn 179) [.val (.loc d 0),.val y.enc,.val (.int .i64 ((k+1:Nat):Int))] ⟨BG Q d s m,lo⟩=some (.ret (.aj []),⟨BG Q d (s+y.sz) (max m (k+1+y.hg)),lo⟩)) ->
  ∃s0 s4 s6 s8 s9 s10 BK CP DP BT B2,LP 178 (aN Tryz.f178 1) ⟨[.dead,.val (.loc b 0),.val (.loc c 0),.dead,.dead,.dead,.dead,.dead,.dead,.val (.slice ((pre++ys).map ag.enc)),.val (.int .i64 ((pre++ys).length:Nat)),.val (.int .i64 (pre.length:Nat)),.dead],⟨BG Q d s m,lo⟩⟩ =
   some (.exit 2,⟨[s0,.val (.loc b 0),.val (.loc c 0),s4,s6,s8,s9,s10,BK,CP,DP,BT,B2],⟨BG Q d (s+ag.ba ys) (max m (k+ag.az ys)),lo⟩⟩):=by
 induction ys with
 |nil =>
  intro pre s m h3 hm hs h4;have AL:=DK pre;have e1:max m (k+ag.az [])=m:=by simp only[ag.az];omega
  rw[e1];simp only[Ao,ag.ba,Ax];clear h4 hb hc e1;iterate 11 apply Exists.intro
  refine tI rfl ?_;exact wk;all_goals exact .dead
 |cons y ys ih =>
  intro pre s m h3 hm hs h4;have AN:=cQ ag.enc pre ys y;have AL:=CQ pre ys y;have h0:=zI pre.length;have hw:=wL pre ys y h3;simp only[ag.ba] at hs;have hy:=h4 y (by simp) s m (by omega) hm;have GG:=hb s m;have MF:=hc s m;have k5:IntKind.i64.wrap (((k:Nat):Int)+1)=((k+1:Nat):Int):=wI _ (by simp only[AR];omega);obtain⟨s0,s4,s6,s8,s9,s10,BK,CP,DP,BT,B2,ih⟩:=ih (pre++[y]) (s+y.sz) (max m (k+1+y.hg)) (by simpa using h3) (by omega) (by omega) (λx hx=>h4 x (by simp[hx]));simp only[Aj,Al] at ih;have e1:max (max m (k+1+y.hg)) (k+ag.az ys)=max m (k+ag.az (y::ys)):=by simp only[ag.az];omega
  rw[e1] at ih;have e2:s+y.sz+ag.ba ys=s+ag.ba (y::ys):=by simp only[ag.ba];omega
  rw[e2] at ih;rw[y.aw] at AN hy;refine⟨s0,s4,s6,s8,s9,s10,BK,CP,DP,BT,B2,?_⟩;refine tI rfl ?_;clear h4 hb hc hk e1 hm;exact wk
theorem aOf:(ans 178).ownArg=[]:=by rw[R_]
theorem aWb{Q:List ai}{d lo a b c k:Nat}(x:af)(hx:x.sz<4000)(ha:∀s m,(BG Q d s m)[a]?=some (.box (eH x)))(hb:∀s m,(BG Q d s m)[b]?=some (.box [.val (.loc d 0)]))(hc:∀s m,(BG Q d s m)[c]?=some (.box [.val (.int .i64 (k:Nat))]))(hk:k<=100)(s m:Nat)(hm:k<=m)(hs:s+(af.ba x.args+ag.ba x.ez)<=2001)
  (h0:∀y∈x.args,∀s m,s+y.sz<=2001->k<=m->CF (.fn 116) [.val (.loc d 0),.val y.enc,.val (.int .i64 ((k+1:Nat):Int))] ⟨BG Q d s m,lo⟩=some (.ret (.aj []),⟨BG Q d (s+y.sz) (max m (k+1+y.hg)),lo⟩))
  (h1:∀y∈x.ez,∀s m,s+y.sz<=2001->k<=m->CF (.fn 179) [.val (.loc d 0),.val y.enc,.val (.int .i64 ((k+1:Nat):Int))] ⟨BG Q d s m,lo⟩=some (.ret (.aj []),⟨BG Q d (s+y.sz) (max m (k+1+y.hg)),lo⟩)) :
  CF (.fn 178) [.val (.loc a 0),.val (.loc b 0),.val (.loc c 0)] ⟨BG Q d s m,lo⟩=some (.ret (.aj []),⟨BG Q d (s+(af.ba x.args+ag.ba x.ez)) (max m (k+x.hg)),lo⟩):=by
 have BD:=x.kT;have F8:=af.nz x.args;obtain⟨s4,s6,s8,s9,s10,BK,CP,DP,BT,B2,hl⟩:=aBk (lo:=lo) (a:=a) hb hc hk x.args [] (s) (m) (by simp only[Ai,AR];omega) (by omega) (by omega) h0;have Mx:=ag.nz x.ez;obtain⟨m0,m4,a6r,a6t,m9,m10,Tl,m21,m22,Th,Tg,G7⟩:=aBl (lo:=lo) (a:=a) hb hc hk x.ez [] (s+af.ba x.args) (max m (k+af.az x.args)) (by simp only[Ai,AR];omega) (by omega) (by omega) h1;simp only[Ai,Ap] at hl G7;have e0:((0:Nat):Int)=0:=rfl;rw[e0] at hl G7;have e1:max (max m (k+af.az x.args)) (k+ag.az x.ez)=max m (k+x.hg):=by rw[x.lx]<;>omega
 rw[e1] at G7;have e2:s+af.ba x.args+ag.ba x.ez=s+(af.ba x.args+ag.ba x.ez):=by omega
 rw[e2] at G7;have KJ:=ha s m;have Nf:=ha (s+af.ba x.args) (max m (k+af.az x.args));simp only[eH] at KJ Nf;clear ha hb hc h0 h1 BD hx e1 hm hk hs F8 Mx;refine l9 ?_;exact wD rfl
theorem WN:∀(x:af)(Q:List ai)(d lo s m k:Nat),d<Q.length->lo<=d->k+x.hg<=100->x.sz<4000->s+x.sz<=2001 ->
  CF (.fn 116) [.val (.loc d 0),.val x.enc,.val (.int .i64 (k:Nat))] ⟨BG Q d s m,lo⟩=some (.ret (.aj []),⟨BG Q d (s+x.sz) (max m (k+x.hg)),lo⟩):=by
 intro x;induction x using af.ind with
 |h x ih =>
  intro Q d lo s m k hd AP hk hx hs;have BD:=x.kT;have hb:Nat.ble (Nat.succ d) Q.length=true:=Ah hd;have hlen:=λs m=>kB Q d s m
  have D1:d<(Q++[ai.box [.val (.loc d 0)],.box (eH x),.box [.val (.int .i64 (k:Nat))]]).length:=by simp;omega
  have GU:=uj (BG Q d s m) [ai.box [.val (.loc d 0)],.box (eH x),.box [.val (.int .i64 (k:Nat))]];have HH:=ew (BG Q d s m) [ai.box [.val (.loc d 0)],.box (eH x),.box [.val (.int .i64 (k:Nat))]] 2
  have BQ:=aWb (Q:=Q++[ai.box [.val (.loc d 0)],.box (eH x),.box [.val (.int .i64 (k:Nat))]]) (d:=d) (lo:=lo) (a:=Q.length+1) (b:=Q.length) (c:=Q.length+2) (k:=k) x hx
   (λs m=>by rw[iX hd]<;>rfl) (λs m=>by have:=iX hd [ai.box [.val (.loc d 0)],.box (eH x),.box [.val (.int .i64 (k:Nat))]] s m 0;rw[Ax] at this;rw[this];rfl) (λs m=>by rw[iX hd]<;>rfl) (by omega) (s+1) (max m k) (by omega) (by omega)
   (λy hy s m h1 _=>ih y hy _ d lo s m (k+1) D1 AP (by have:=af.nc hy;rw[x.lx] at hk;omega) (by have:=af.mB hy;omega) h1)
   (λy hy s m h1 _=>aWc y _ d lo s m (k+1) D1 AP (by have:=ag.nc hy;rw[x.lx] at hk;omega) (by have:=ag.mB hy;omega) h1)
  have hc:=WJ (Q:=Q++[ai.box [.val (.loc d 0)],.box (eH x),.box [.val (.int .i64 (k:Nat))]]) (d:=d) (lo:=lo) (g:=178) (caps:=[.loc (Q.length+1) 0,.loc Q.length 0,.loc (Q.length+2) 0]) aOf D1 AP s m k _ _ (by omega) (by omega) BQ;rw[lY hd,lY hd] at hc;have e1:max (max m k) (k+x.hg)=max m (k+x.hg):=by omega
  rw[e1] at hc;have e2:s+1+(af.ba x.args+ag.ba x.ez)=s+x.sz:=by omega
  rw[e2] at hc;simp only[hlen] at GU HH;simp only[eH,Cc,Ca] at GU HH hc;rw[x.aw];clear BQ ih hd AP hk hx D1 BD e1 hs e2;refine zG ?_;exact Wh rfl
end Go.Proofs.YtoiocfngjchdiaaGreatDoor
