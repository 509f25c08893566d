import Derived.Test.YtoiocfngjchdiaaGreatDoorT02
set_option linter.all false
set_option maxRecDepth 100000
set_option maxHeartbeats 8000000
namespace Go.AM
mutual
def TyD.sz:TyD->Nat
 |.mk _ al=>1+TyD.szs al
def TyD.szs:List TyD->Nat
 |[]=>0
 |t::ts=>t.sz+TyD.szs ts
end
mutual
def TyD.hg:TyD->Nat
 |.mk _ al=>TyD.hgs al
def TyD.hgs:List TyD->Nat
 |[]=>0
 |t::ts=>max (1+t.hg) (TyD.hgs ts)
end
theorem TyD.szs_mem{t:TyD}:∀{l:List TyD},t∈l->t.sz<=TyD.szs l
 |x::l,h=>by
  simp only[TyD.szs];rcases Au.1 h with h|h
  ·subst h;omega
  ·have:=TyD.szs_mem h;omega
theorem TyD.hgs_mem{t:TyD}:∀{l:List TyD},t∈l->1+t.hg<=TyD.hgs l
 |x::l,h=>by
  simp only[TyD.hgs];rcases Au.1 h with h|h
  ·subst h;omega
  ·have:=TyD.hgs_mem h;omega
end Go.AM
namespace Go.Proofs.YtoiocfngjchdiaaGreatDoor
open Go.AM
variable [Aps]
def BG(Q:List AObj)(d s m:Nat):List AObj:=Q.set d (.box [.val (.int .i64 (s:Nat)),.val (.int .i64 (m:Nat))])
theorem jT(Q:List AObj)(d s m:Nat):(BG Q d s m).length=Q.length:=by simp[BG]
theorem aHn{Q:List AObj}{d:Nat}(h:d<Q.length)(s m:Nat):(BG Q d s m)[d]?=some (.box [.val (.int .i64 (s:Nat)),.val (.int .i64 (m:Nat))]):=by simp[BG,h]
theorem aHo(Q:List AObj)(d s m s' m':Nat):(BG Q d s m).set d (.box [.val (.int .i64 (s':Nat)),.val (.int .i64 (m':Nat))])=BG Q d s' m':=by simp[BG]
theorem lC{Q:List AObj}{d:Nat}(h:d<Q.length)(L:List AObj)(s m:Nat):BG (Q++L) d s m=BG Q d s m++L:=by simp[BG,Ej,h]
theorem iE{Q:List AObj}{d:Nat}(h:d<Q.length)(L:List AObj)(s i:Nat):(AW (Q++L) d s)[Q.length+i]?=L[i]?:=by
 rw[eR h,<-bW Q d s];exact cq _ _ _
theorem iF{Q:List AObj}{d:Nat}(h:d<Q.length)(L:List AObj)(s m i:Nat):(BG (Q++L) d s m)[Q.length+i]?=L[i]?:=by
 rw[lC h,<-jT Q d s m];exact cq _ _ _
theorem vC{α:Type}{X:Option (α×AH)}{r:α}{Q:List AObj}{d s m s' m' lo:Nat}(h:X=some (r,⟨(BG Q d s' m').take (BG Q d s m).length,lo⟩)):X=some (r,⟨BG Q d s' m',lo⟩):=by
 rw[h,Bs];rw[jT,jT];exact Af _
theorem Ve{α:Type}{X:Option (α×AH)}{r:α}{Q L:List AObj}{d s m s' m' lo:Nat}(h:X=some (r,⟨(BG Q d s' m'++L).take (BG Q d s m).length,lo⟩)):X=some (r,⟨BG Q d s' m',lo⟩):=by
 rw[h,Fq];rw[jT,jT]
theorem Y7(a b:Nat):(bif decide (((b:Nat):Int)>(a:Nat)) then((b:Nat):Int) else(a:Nat))=((max a b:Nat):Int):=by
 by_cases h:a<b
 ·rw[show decide (((b:Nat):Int)>(a:Nat))=true by simp;omega,Bl];congr 1;omega
 ·rw[show decide (((b:Nat):Int)>(a:Nat))=false by simp;omega,Be];congr 1;omega
mutual
def PaD.sz:PaD->Nat
 |.mk _ _ al=>1+PaD.szs al
def PaD.szs:List PaD->Nat
 |[]=>0
 |t::ts=>t.sz+PaD.szs ts
end
mutual
def PaD.hg:PaD->Nat
 |.mk _ _ al=>PaD.hgs al
def PaD.hgs:List PaD->Nat
 |[]=>0
 |t::ts=>max (1+t.hg) (PaD.hgs ts)
end
mutual
def ExD.sz:ExD->Nat
 |.mk _ _ _ _ al pl=>1+ExD.szs al+PaD.szs pl
def ExD.szs:List ExD->Nat
 |[]=>0
 |t::ts=>t.sz+ExD.szs ts
end
mutual
def ExD.hg:ExD->Nat
 |.mk _ _ _ _ al pl=>max (ExD.hgs al) (PaD.hgs pl)
def ExD.hgs:List ExD->Nat
 |[]=>0
 |t::ts=>max (1+t.hg) (ExD.hgs ts)
end
end Go.Proofs.YtoiocfngjchdiaaGreatDoor
namespace Go.AM
open Go.Proofs.YtoiocfngjchdiaaGreatDoor
theorem TyD.sz_eq(t:TyD):t.sz=1+TyD.szs (dV t):=by cases t;rfl
end Go.AM
namespace Go.Proofs.YtoiocfngjchdiaaGreatDoor
open Go.AM
variable [Aps]
end Go.Proofs.YtoiocfngjchdiaaGreatDoor
namespace Go.AM
open Go.Proofs.YtoiocfngjchdiaaGreatDoor
theorem TyD.hg_eq(t:TyD):t.hg=TyD.hgs (dV t):=by cases t;rfl
end Go.AM
namespace Go.Proofs.YtoiocfngjchdiaaGreatDoor
open Go.AM
variable [Aps]
theorem PaD.sz_eq(t:PaD):t.sz=1+PaD.szs t.args:=by cases t;rfl
theorem PaD.hg_eq(t:PaD):t.hg=PaD.hgs t.args:=by cases t;rfl
theorem ExD.sz_eq(t:ExD):t.sz=1+ExD.szs t.args+PaD.szs t.pats:=by cases t;rfl
theorem ExD.hg_eq(t:ExD):t.hg=max (ExD.hgs t.args) (PaD.hgs t.pats):=by cases t;rfl
end Go.Proofs.YtoiocfngjchdiaaGreatDoor
namespace Go.AM
open Go.Proofs.YtoiocfngjchdiaaGreatDoor
theorem TyD.sz_pos(t:TyD):0<t.sz:=by rw[TyD.sz_eq];omega
end Go.AM
namespace Go.Proofs.YtoiocfngjchdiaaGreatDoor
open Go.AM
variable [Aps]
theorem PaD.sz_pos(t:PaD):0<t.sz:=by rw[PaD.sz_eq];omega
theorem ExD.sz_pos(t:ExD):0<t.sz:=by rw[ExD.sz_eq];omega
end Go.Proofs.YtoiocfngjchdiaaGreatDoor
namespace Go.AM
open Go.Proofs.YtoiocfngjchdiaaGreatDoor
theorem TyD.szs_len(l:List TyD):l.length<=TyD.szs l:=by
 induction l with
 |nil=>simp[TyD.szs]
 |cons t ts ih=>simp only[TyD.szs,An];have:=t.sz_pos;omega
end Go.AM
namespace Go.Proofs.YtoiocfngjchdiaaGreatDoor
open Go.AM
variable [Aps]
theorem PaD.szs_len(l:List PaD):l.length<=PaD.szs l:=by
 induction l with
 |nil=>simp[PaD.szs]
 |cons t ts ih=>simp only[PaD.szs,An];have:=t.sz_pos;omega
theorem PaD.szs_mem{t:PaD}:∀{l:List PaD},t∈l->t.sz<=PaD.szs l
 |x::l,h=>by
  simp only[PaD.szs];rcases Au.1 h with h|h
  ·subst h;omega
  ·have:=PaD.szs_mem h;omega
theorem PaD.hgs_mem{t:PaD}:∀{l:List PaD},t∈l->1+t.hg<=PaD.hgs l
 |x::l,h=>by
  simp only[PaD.hgs];rcases Au.1 h with h|h
  ·subst h;omega
  ·have:=PaD.hgs_mem h;omega
theorem ExD.szs_len(l:List ExD):l.length<=ExD.szs l:=by
 induction l with
 |nil=>simp[ExD.szs]
 |cons t ts ih=>simp only[ExD.szs,An];have:=t.sz_pos;omega
theorem ExD.szs_mem{t:ExD}:∀{l:List ExD},t∈l->t.sz<=ExD.szs l
 |x::l,h=>by
  simp only[ExD.szs];rcases Au.1 h with h|h
  ·subst h;omega
  ·have:=ExD.szs_mem h;omega
theorem ExD.hgs_mem{t:ExD}:∀{l:List ExD},t∈l->1+t.hg<=ExD.hgs l
 |x::l,h=>by
  simp only[ExD.hgs];rcases Au.1 h with h|h
  ·subst h;omega
  ·have:=ExD.hgs_mem h;omega
end Go.Proofs.YtoiocfngjchdiaaGreatDoor
namespace Go.AM
open Go.Proofs.YtoiocfngjchdiaaGreatDoor
theorem TyD.ind{p:TyD->Prop}(h:∀t,(∀a∈dV t,p a)->p t):∀t,p t:=by
 have:∀n t,TyD.sz t<n->p t:=by
  intro n;induction n with
  |zero=>intro t ht;omega
  |succ n ih=>intro t ht;exact h t λa ha=>ih a (by have:=TyD.szs_mem ha;rw[TyD.sz_eq] at ht;omega)
 exact λt=>this (t.sz+1) t (by omega)
end Go.AM
namespace Go.Proofs.YtoiocfngjchdiaaGreatDoor
open Go.AM
variable [Aps]
def eA(e:ExD):List Cell:=[.val (.int .i64 e.kind),.val (.int .i64 e.num),.val (.str e.name),.val (.str e.arg),.val (.slice (e.args.map ExD.enc)),.val (.slice (e.pats.map PaD.enc))]
def eB(p:PaD):List Cell:=[.val (.int .i64 p.kind),.val (.str p.name),.val (.slice (p.args.map PaD.enc))]
def eC(t:TyD):List Cell:=[.val (.str (tyName t)),.val (.slice ((dV t).map TyD.enc))]
theorem VD{Q:List AObj}{d lo:Nat}{g:FuncId}{caps:List AVal}(hd:d<Q.length)(AP:lo<=d)(m k m':Nat)(hk:k<=100)
  (h:CF (.fn g) (caps.map .val) ⟨AW Q d (max m k),lo⟩=some (.ret (.tup []),⟨AW Q d m',lo⟩)) :
  CF (.fn 174) [.val (.loc d 0),.val (.int .i64 (k:Nat)),.val (.func g caps)] ⟨AW Q d m,lo⟩=some (.ret (.tup []),⟨AW Q d m',lo⟩):=by
 have AN:=dm hd m;have fD:=λx=>dn Q d m x
 have hle:Nat.ble lo d=true:=Ah AP;have Qy:=Y7 m k;have IB:decide (((k:Nat):Int)<=100)=true:=by simp;omega
 clear hd AP hk;refine GR ?_;exact u9 rfl
theorem VB{Q:List AObj}{d lo:Nat}{g:FuncId}{caps:List AVal}(hd:d<Q.length)(AP:lo<=d)(s m k s' m':Nat)(hk:k<=100)(hs:s<=2000)
  (h:CF (.fn g) (caps.map .val) ⟨BG Q d (s+1) (max m k),lo⟩=some (.ret (.tup []),⟨BG Q d s' m',lo⟩)) :
  CF (.fn 177) [.val (.loc d 0),.val (.int .i64 (k:Nat)),.val (.func g caps)] ⟨BG Q d s m,lo⟩=some (.ret (.tup []),⟨BG Q d s' m',lo⟩):=by
 have AN:=λs m=>aHn hd s m
 have fD:=λs m s' m'=>aHo Q d s m s' m'
 have hle:Nat.ble lo d=true:=Ah AP;have Qy:=Y7 m k;have IB:decide (((k:Nat):Int)>100)=false:=by simp;omega
 have IW:decide (((s:Nat):Int)>2000)=false:=by simp;omega
 have hadd:IntKind.i64.wrap (((s:Nat):Int)+1)=((s+1:Nat):Int):=wI _ (by simp only[AV];omega);clear hd AP hk hs;refine GR ?_;exact vC rfl
theorem aAw{Q:List AObj}{d lo a b c k:Nat}(hb:∀m,(AW Q d m)[b]?=some (.box [.val (.loc d 0)]))(hc:∀m,(AW Q d m)[c]?=some (.box [.val (.int .i64 (k:Nat))]))(hk:k<=100)(ys:List TyD):∀(pre:List TyD)(m:Nat),(pre++ys).length<AV->k<=m->(∀y∈ys,∀m,k<=m->CF (.fn 185) [.val (.loc d 0),.val y.enc,.val (.int .i64 ((k+1:Nat):Int))] ⟨AW Q d m,lo⟩=some (.ret (.tup []),⟨AW Q d (max m (k+1+y.hg)),lo⟩)) ->
  ∃s0 s4 s6 s7 s8 s9,LP 235 (aS Tryz.f235 0) ⟨[.dead,.val (.loc b 0),.val (.loc c 0),.dead,.val (.slice ((pre++ys).map TyD.enc)),.val (.int .i64 ((pre++ys).length:Nat)),.val (.int .i64 (pre.length:Nat)),.dead],⟨AW Q d m,lo⟩⟩ =
   some (.exit 0,⟨[s0,.val (.loc b 0),.val (.loc c 0),s4,s6,s7,s8,s9],⟨AW Q d (max m (k+TyD.hgs ys)),lo⟩⟩):=by
 induction ys with
 |nil =>
  intro pre m h3 hm h4;have AL:=DL pre;have e1:max m (k+TyD.hgs [])=m:=by simp only[TyD.hgs];omega
  rw[e1];simp only[Ao];clear h4 hb hc e1;iterate 6 apply Exists.intro
  refine tI rfl ?_;exact wk;all_goals exact .dead
 |cons y ys ih =>
  intro pre m h3 hm h4;have AN:=dK TyD.enc pre ys y;have AL:=CY pre ys y;have h0:=zI pre.length;have hw:=wL pre ys y h3;have hy:=h4 y (by simp) m hm;have E8:=hb m;have KA:=hc m;have hadd:IntKind.i64.wrap (((k:Nat):Int)+1)=((k+1:Nat):Int):=wI _ (by simp only[AV];omega);obtain⟨s0,s4,s6,s7,s8,s9,ih⟩:=ih (pre++[y]) (max m (k+1+y.hg)) (by simpa using h3) (by omega) (λx hx=>h4 x (by simp[hx]));simp only[Aj,Am] at ih;have e1:max (max m (k+1+y.hg)) (k+TyD.hgs ys)=max m (k+TyD.hgs (y::ys)):=by simp only[TyD.hgs];omega
  rw[e1] at ih;rw[dN y] at AN hy;refine⟨s0,s4,s6,s7,s8,s9,?_⟩;refine tI rfl ?_;clear h4 hb hc hk e1 hm;exact wk
theorem aYi{Q:List AObj}{d lo a b c k:Nat}(x:TyD)(hx:x.sz<4000)(ha:∀m,(AW Q d m)[a]?=some (.box (eC x)))(hb:∀m,(AW Q d m)[b]?=some (.box [.val (.loc d 0)]))(hc:∀m,(AW Q d m)[c]?=some (.box [.val (.int .i64 (k:Nat))]))(hk:k<=100)(m:Nat)(hm:k<=m)
  (h0:∀y∈(dV x),∀m,k<=m->CF (.fn 185) [.val (.loc d 0),.val y.enc,.val (.int .i64 ((k+1:Nat):Int))] ⟨AW Q d m,lo⟩=some (.ret (.tup []),⟨AW Q d (max m (k+1+y.hg)),lo⟩)) :
  CF (.fn 235) [.val (.loc a 0),.val (.loc b 0),.val (.loc c 0)] ⟨AW Q d m,lo⟩=some (.ret (.tup []),⟨AW Q d (max m (k+x.hg)),lo⟩):=by
 have BC:=x.sz_eq;have FQ:=TyD.szs_len (dV x);obtain⟨s0,s4,s6,s7,s8,s9,hl⟩:=aAw (lo:=lo) (a:=a) hb hc hk (dV x) [] (m) (by simp only[Ak,AV];omega) (by omega) h0;simp only[Ak,Ar] at hl;have e0:((0:Nat):Int)=0:=rfl;rw[e0] at hl;have e1:max m (k+TyD.hgs (dV x))=max m (k+x.hg):=by rw[x.hg_eq]<;>omega
 rw[e1] at hl;have Jb:=ha m;simp only[eC] at Jb;clear ha hb hc h0 BC hx e1 hm hk FQ;refine nT ?_;exact u9 rfl
theorem aX6:∀(x:TyD)(Q:List AObj)(d lo m k:Nat),d<Q.length->lo<=d->k+x.hg<=100->x.sz<4000 ->
  CF (.fn 185) [.val (.loc d 0),.val x.enc,.val (.int .i64 (k:Nat))] ⟨AW Q d m,lo⟩=some (.ret (.tup []),⟨AW Q d (max m (k+x.hg)),lo⟩):=by
 intro x;induction x using TyD.ind with
 |h x ih =>
  intro Q d lo m k hd AP hk hx;have BC:=x.sz_eq;have hb:Nat.ble (Nat.succ d) Q.length=true:=Ah hd;have hlen:=λm=>bW Q d m
  have DT:d<(Q++[AObj.box [.val (.loc d 0)],.box (eC x),.box [.val (.int .i64 (k:Nat))]]).length:=by simp;omega
  have F8:=qg (AW Q d m) [AObj.box [.val (.loc d 0)],.box (eC x),.box [.val (.int .i64 (k:Nat))]];have G2:=cq (AW Q d m) [AObj.box [.val (.loc d 0)],.box (eC x),.box [.val (.int .i64 (k:Nat))]] 2
  have BM:=aYi (Q:=Q++[AObj.box [.val (.loc d 0)],.box (eC x),.box [.val (.int .i64 (k:Nat))]]) (d:=d) (lo:=lo) (a:=Q.length+1) (b:=Q.length) (c:=Q.length+2) (k:=k) x hx
   (λm=>by rw[iE hd]<;>rfl) (λm=>by have:=iE hd [AObj.box [.val (.loc d 0)],.box (eC x),.box [.val (.int .i64 (k:Nat))]] m 0;rw[Aw] at this;rw[this];rfl) (λm=>by rw[iE hd]<;>rfl) (by omega) (max m k) (by omega)
   (λy hy m _=>ih y hy _ d lo m (k+1) DT AP (by have:=TyD.hgs_mem hy;rw[x.hg_eq] at hk;omega) (by have:=TyD.szs_mem hy;omega))
  have hc:=VD (Q:=Q++[AObj.box [.val (.loc d 0)],.box (eC x),.box [.val (.int .i64 (k:Nat))]]) (d:=d) (lo:=lo) (g:=235) (caps:=[.loc (Q.length+1) 0,.loc Q.length 0,.loc (Q.length+2) 0]) DT AP m k _ (by omega) BM;rw[eR hd,eR hd] at hc;have e1:max (max m k) (k+x.hg)=max m (k+x.hg):=by omega
  rw[e1] at hc;simp only[hlen] at F8 G2;simp only[eC,Ca,Bv] at F8 G2 hc;rw[dN x];clear BM ih hd AP hk hx DT BC e1;refine yP ?_;exact QA rfl
theorem aAu{Q:List AObj}{d lo a b c k:Nat}(hb:∀m,(AW Q d m)[b]?=some (.box [.val (.loc d 0)]))(hc:∀m,(AW Q d m)[c]?=some (.box [.val (.int .i64 (k:Nat))]))(hk:k<=100)(ys:List PaD):∀(pre:List PaD)(m:Nat),(pre++ys).length<AV->k<=m->(∀y∈ys,∀m,k<=m->CF (.fn 176) [.val (.loc d 0),.val y.enc,.val (.int .i64 ((k+1:Nat):Int))] ⟨AW Q d m,lo⟩=some (.ret (.tup []),⟨AW Q d (max m (k+1+y.hg)),lo⟩)) ->
  ∃s0 s4 s6 s7 s8 s9,LP 229 (aS Tryz.f229 0) ⟨[.dead,.val (.loc b 0),.val (.loc c 0),.dead,.val (.slice ((pre++ys).map PaD.enc)),.val (.int .i64 ((pre++ys).length:Nat)),.val (.int .i64 (pre.length:Nat)),.dead],⟨AW Q d m,lo⟩⟩ =
   some (.exit 0,⟨[s0,.val (.loc b 0),.val (.loc c 0),s4,s6,s7,s8,s9],⟨AW Q d (max m (k+PaD.hgs ys)),lo⟩⟩):=by
 induction ys with
 |nil =>
  intro pre m h3 hm h4;have AL:=DL pre;have e1:max m (k+PaD.hgs [])=m:=by simp only[PaD.hgs];omega
  rw[e1];simp only[Ao];clear h4 hb hc e1;iterate 6 apply Exists.intro
  refine tI rfl ?_;exact wk;all_goals exact .dead
 |cons y ys ih =>
  intro pre m h3 hm h4;have AN:=dK PaD.enc pre ys y;have AL:=CY pre ys y;have h0:=zI pre.length;have hw:=wL pre ys y h3;have hy:=h4 y (by simp) m hm;have E8:=hb m;have KA:=hc m;have hadd:IntKind.i64.wrap (((k:Nat):Int)+1)=((k+1:Nat):Int):=wI _ (by simp only[AV];omega);obtain⟨s0,s4,s6,s7,s8,s9,ih⟩:=ih (pre++[y]) (max m (k+1+y.hg)) (by simpa using h3) (by omega) (λx hx=>h4 x (by simp[hx]));simp only[Aj,Am] at ih;have e1:max (max m (k+1+y.hg)) (k+PaD.hgs ys)=max m (k+PaD.hgs (y::ys)):=by simp only[PaD.hgs];omega
  rw[e1] at ih;rw[y.enc_eq] at AN hy;refine⟨s0,s4,s6,s7,s8,s9,?_⟩;refine tI rfl ?_;clear h4 hb hc hk e1 hm;exact wk
theorem aYe{Q:List AObj}{d lo a b c k:Nat}(x:PaD)(hx:x.sz<4000)(ha:∀m,(AW Q d m)[a]?=some (.box (eB x)))(hb:∀m,(AW Q d m)[b]?=some (.box [.val (.loc d 0)]))(hc:∀m,(AW Q d m)[c]?=some (.box [.val (.int .i64 (k:Nat))]))(hk:k<=100)(m:Nat)(hm:k<=m)
  (h0:∀y∈x.args,∀m,k<=m->CF (.fn 176) [.val (.loc d 0),.val y.enc,.val (.int .i64 ((k+1:Nat):Int))] ⟨AW Q d m,lo⟩=some (.ret (.tup []),⟨AW Q d (max m (k+1+y.hg)),lo⟩)) :
  CF (.fn 229) [.val (.loc a 0),.val (.loc b 0),.val (.loc c 0)] ⟨AW Q d m,lo⟩=some (.ret (.tup []),⟨AW Q d (max m (k+x.hg)),lo⟩):=by
 have BC:=x.sz_eq;have FQ:=PaD.szs_len x.args;obtain⟨s0,s4,s6,s7,s8,s9,hl⟩:=aAu (lo:=lo) (a:=a) hb hc hk x.args [] (m) (by simp only[Ak,AV];omega) (by omega) h0;simp only[Ak,Ar] at hl;have e0:((0:Nat):Int)=0:=rfl;rw[e0] at hl;have e1:max m (k+PaD.hgs x.args)=max m (k+x.hg):=by rw[x.hg_eq]<;>omega
 rw[e1] at hl;have Jb:=ha m;simp only[eB] at Jb;clear ha hb hc h0 BC hx e1 hm hk FQ;refine nT ?_;exact u9 rfl
theorem aX1:∀(x:PaD)(Q:List AObj)(d lo m k:Nat),d<Q.length->lo<=d->k+x.hg<=100->x.sz<4000 ->
  CF (.fn 176) [.val (.loc d 0),.val x.enc,.val (.int .i64 (k:Nat))] ⟨AW Q d m,lo⟩=some (.ret (.tup []),⟨AW Q d (max m (k+x.hg)),lo⟩):=by
 intro x;induction x using PaD.ind with
 |h x ih =>
  intro Q d lo m k hd AP hk hx;have BC:=x.sz_eq;have hb:Nat.ble (Nat.succ d) Q.length=true:=Ah hd;have hlen:=λm=>bW Q d m
  have DT:d<(Q++[AObj.box [.val (.loc d 0)],.box (eB x),.box [.val (.int .i64 (k:Nat))]]).length:=by simp;omega
  have F8:=qg (AW Q d m) [AObj.box [.val (.loc d 0)],.box (eB x),.box [.val (.int .i64 (k:Nat))]];have G2:=cq (AW Q d m) [AObj.box [.val (.loc d 0)],.box (eB x),.box [.val (.int .i64 (k:Nat))]] 2
  have BM:=aYe (Q:=Q++[AObj.box [.val (.loc d 0)],.box (eB x),.box [.val (.int .i64 (k:Nat))]]) (d:=d) (lo:=lo) (a:=Q.length+1) (b:=Q.length) (c:=Q.length+2) (k:=k) x hx
   (λm=>by rw[iE hd]<;>rfl) (λm=>by have:=iE hd [AObj.box [.val (.loc d 0)],.box (eB x),.box [.val (.int .i64 (k:Nat))]] m 0;rw[Aw] at this;rw[this];rfl) (λm=>by rw[iE hd]<;>rfl) (by omega) (max m k) (by omega)
   (λy hy m _=>ih y hy _ d lo m (k+1) DT AP (by have:=PaD.hgs_mem hy;rw[x.hg_eq] at hk;omega) (by have:=PaD.szs_mem hy;omega))
  have hc:=VD (Q:=Q++[AObj.box [.val (.loc d 0)],.box (eB x),.box [.val (.int .i64 (k:Nat))]]) (d:=d) (lo:=lo) (g:=229) (caps:=[.loc (Q.length+1) 0,.loc Q.length 0,.loc (Q.length+2) 0]) DT AP m k _ (by omega) BM;rw[eR hd,eR hd] at hc;have e1:max (max m k) (k+x.hg)=max m (k+x.hg):=by omega
  rw[e1] at hc;simp only[hlen] at F8 G2;simp only[eB,Ca,Bv] at F8 G2 hc;rw[x.enc_eq];clear BM ih hd AP hk hx DT BC e1;refine yP ?_;exact QA rfl
theorem aAq{Q:List AObj}{d lo a b c k:Nat}(hb:∀m,(AW Q d m)[b]?=some (.box [.val (.loc d 0)]))(hc:∀m,(AW Q d m)[c]?=some (.box [.val (.int .i64 (k:Nat))]))(hk:k<=100)(ys:List ExD):∀(pre:List ExD)(m:Nat),(pre++ys).length<AV->k<=m->(∀y∈ys,∀m,k<=m->CF (.fn 115) [.val (.loc d 0),.val y.enc,.val (.int .i64 ((k+1:Nat):Int))] ⟨AW Q d m,lo⟩=some (.ret (.tup []),⟨AW Q d (max m (k+1+y.hg)),lo⟩)) ->
  ∃s4 s6 s8 s9 s10 BI DR DG BX BU,LP 175 (aS Tryz.f175 0) ⟨[.val (.loc a 0),.val (.loc b 0),.val (.loc c 0),.dead,.dead,.val (.slice ((pre++ys).map ExD.enc)),.val (.int .i64 ((pre++ys).length:Nat)),.val (.int .i64 (pre.length:Nat)),.dead,.dead,.dead,.dead,.dead],⟨AW Q d m,lo⟩⟩ =
   some (.exit 0,⟨[.val (.loc a 0),.val (.loc b 0),.val (.loc c 0),s4,s6,s8,s9,s10,BI,DR,DG,BX,BU],⟨AW Q d (max m (k+ExD.hgs ys)),lo⟩⟩):=by
 induction ys with
 |nil =>
  intro pre m h3 hm h4;have AL:=DL pre;have e1:max m (k+ExD.hgs [])=m:=by simp only[ExD.hgs];omega
  rw[e1];simp only[Ao];clear h4 hb hc e1;iterate 10 apply Exists.intro
  refine tI rfl ?_;exact wk;all_goals exact .dead
 |cons y ys ih =>
  intro pre m h3 hm h4;have AN:=dK ExD.enc pre ys y;have AL:=CY pre ys y;have h0:=zI pre.length;have hw:=wL pre ys y h3;have hy:=h4 y (by simp) m hm;have E8:=hb m;have KA:=hc m;have hadd:IntKind.i64.wrap (((k:Nat):Int)+1)=((k+1:Nat):Int):=wI _ (by simp only[AV];omega);obtain⟨s4,s6,s8,s9,s10,BI,DR,DG,BX,BU,ih⟩:=ih (pre++[y]) (max m (k+1+y.hg)) (by simpa using h3) (by omega) (λx hx=>h4 x (by simp[hx]));simp only[Aj,Am] at ih;have e1:max (max m (k+1+y.hg)) (k+ExD.hgs ys)=max m (k+ExD.hgs (y::ys)):=by simp only[ExD.hgs];omega
  rw[e1] at ih;rw[y.enc_eq] at AN hy;refine⟨s4,s6,s8,s9,s10,BI,DR,DG,BX,BU,?_⟩;refine tI rfl ?_;clear h4 hb hc hk e1 hm;exact wk
theorem aAr{Q:List AObj}{d lo a b c k:Nat}(hb:∀m,(AW Q d m)[b]?=some (.box [.val (.loc d 0)]))(hc:∀m,(AW Q d m)[c]?=some (.box [.val (.int .i64 (k:Nat))]))(hk:k<=100)(ys:List PaD):∀(pre:List PaD)(m:Nat),(pre++ys).length<AV->k<=m->(∀y∈ys,∀m,k<=m->CF (.fn 176) [.val (.loc d 0),.val y.enc,.val (.int .i64 ((k+1:Nat):Int))] ⟨AW Q d m,lo⟩=some (.ret (.tup []),⟨AW Q d (max m (k+1+y.hg)),lo⟩)) ->
  ∃s0 s4 s6 s8 s9 s10 BI DR DG BX BU,LP 175 (aS Tryz.f175 1) ⟨[.dead,.val (.loc b 0),.val (.loc c 0),.dead,.dead,.dead,.dead,.dead,.dead,.val (.slice ((pre++ys).map PaD.enc)),.val (.int .i64 ((pre++ys).length:Nat)),.val (.int .i64 (pre.length:Nat)),.dead],⟨AW Q d m,lo⟩⟩ =
   some (.exit 2,⟨[s0,.val (.loc b 0),.val (.loc c 0),s4,s6,s8,s9,s10,BI,DR,DG,BX,BU],⟨AW Q d (max m (k+PaD.hgs ys)),lo⟩⟩):=by
 induction ys with
 |nil =>
  intro pre m h3 hm h4;have AL:=DL pre;have e1:max m (k+PaD.hgs [])=m:=by simp only[PaD.hgs];omega
  rw[e1];simp only[Ao];clear h4 hb hc e1;iterate 11 apply Exists.intro
  refine tI rfl ?_;exact wk;all_goals exact .dead
 |cons y ys ih =>
  intro pre m h3 hm h4;have AN:=dK PaD.enc pre ys y;have AL:=CY pre ys y;have h0:=zI pre.length;have hw:=wL pre ys y h3;have hy:=h4 y (by simp) m hm;have E8:=hb m;have KA:=hc m;have hadd:IntKind.i64.wrap (((k:Nat):Int)+1)=((k+1:Nat):Int):=wI _ (by simp only[AV];omega);obtain⟨s0,s4,s6,s8,s9,s10,BI,DR,DG,BX,BU,ih⟩:=ih (pre++[y]) (max m (k+1+y.hg)) (by simpa using h3) (by omega) (λx hx=>h4 x (by simp[hx]));simp only[Aj,Am] at ih;have e1:max (max m (k+1+y.hg)) (k+PaD.hgs ys)=max m (k+PaD.hgs (y::ys)):=by simp only[PaD.hgs];omega
  rw[e1] at ih;rw[y.enc_eq] at AN hy;refine⟨s0,s4,s6,s8,s9,s10,BI,DR,DG,BX,BU,?_⟩;refine tI rfl ?_;clear h4 hb hc hk e1 hm;exact wk
theorem aX0{Q:List AObj}{d lo a b c k:Nat}(x:ExD)(hx:x.sz<4000)(ha:∀m,(AW Q d m)[a]?=some (.box (eA x)))(hb:∀m,(AW Q d m)[b]?=some (.box [.val (.loc d 0)]))(hc:∀m,(AW Q d m)[c]?=some (.box [.val (.int .i64 (k:Nat))]))(hk:k<=100)(m:Nat)(hm:k<=m)
  (h0:∀y∈x.args,∀m,k<=m->CF (.fn 115) [.val (.loc d 0),.val y.enc,.val (.int .i64 ((k+1:Nat):Int))] ⟨AW Q d m,lo⟩=some (.ret (.tup []),⟨AW Q d (max m (k+1+y.hg)),lo⟩))
  (h1:∀y∈x.pats,∀m,k<=m->CF (.fn 176) [.val (.loc d 0),.val y.enc,.val (.int .i64 ((k+1:Nat):Int))] ⟨AW Q d m,lo⟩=some (.ret (.tup []),⟨AW Q d (max m (k+1+y.hg)),lo⟩)) :
  CF (.fn 175) [.val (.loc a 0),.val (.loc b 0),.val (.loc c 0)] ⟨AW Q d m,lo⟩=some (.ret (.tup []),⟨AW Q d (max m (k+x.hg)),lo⟩):=by
 have BC:=x.sz_eq;have FQ:=ExD.szs_len x.args;obtain⟨s4,s6,s8,s9,s10,BI,DR,DG,BX,BU,hl⟩:=aAq (lo:=lo) (a:=a) hb hc hk x.args [] (m) (by simp only[Ak,AV];omega) (by omega) h0;have M6:=PaD.szs_len x.pats;obtain⟨m0,m4,m6,m8,m9,m10,Sd,m21,m22,Sc,Sb,Gv⟩:=aAr (lo:=lo) (a:=a) hb hc hk x.pats [] (max m (k+ExD.hgs x.args)) (by simp only[Ak,AV];omega) (by omega) h1;simp only[Ak,Ar] at hl Gv;have e0:((0:Nat):Int)=0:=rfl;rw[e0] at hl Gv;have e1:max (max m (k+ExD.hgs x.args)) (k+PaD.hgs x.pats)=max m (k+x.hg):=by rw[x.hg_eq]<;>omega
 rw[e1] at Gv;have Jb:=ha m;have NI:=ha (max m (k+ExD.hgs x.args));simp only[eA] at Jb NI;clear ha hb hc h0 h1 BC hx e1 hm hk FQ M6;refine nT ?_;exact u9 rfl
theorem VH:∀(x:ExD)(Q:List AObj)(d lo m k:Nat),d<Q.length->lo<=d->k+x.hg<=100->x.sz<4000 ->
  CF (.fn 115) [.val (.loc d 0),.val x.enc,.val (.int .i64 (k:Nat))] ⟨AW Q d m,lo⟩=some (.ret (.tup []),⟨AW Q d (max m (k+x.hg)),lo⟩):=by
 intro x;induction x using ExD.ind with
 |h x ih =>
  intro Q d lo m k hd AP hk hx;have BC:=x.sz_eq;have hb:Nat.ble (Nat.succ d) Q.length=true:=Ah hd;have hlen:=λm=>bW Q d m
  have DT:d<(Q++[AObj.box [.val (.loc d 0)],.box (eA x),.box [.val (.int .i64 (k:Nat))]]).length:=by simp;omega
  have F8:=qg (AW Q d m) [AObj.box [.val (.loc d 0)],.box (eA x),.box [.val (.int .i64 (k:Nat))]];have G2:=cq (AW Q d m) [AObj.box [.val (.loc d 0)],.box (eA x),.box [.val (.int .i64 (k:Nat))]] 2
  have BM:=aX0 (Q:=Q++[AObj.box [.val (.loc d 0)],.box (eA x),.box [.val (.int .i64 (k:Nat))]]) (d:=d) (lo:=lo) (a:=Q.length+1) (b:=Q.length) (c:=Q.length+2) (k:=k) x hx
   (λm=>by rw[iE hd]<;>rfl) (λm=>by have:=iE hd [AObj.box [.val (.loc d 0)],.box (eA x),.box [.val (.int .i64 (k:Nat))]] m 0;rw[Aw] at this;rw[this];rfl) (λm=>by rw[iE hd]<;>rfl) (by omega) (max m k) (by omega)
   (λy hy m _=>ih y hy _ d lo m (k+1) DT AP (by have:=ExD.hgs_mem hy;rw[x.hg_eq] at hk;omega) (by have:=ExD.szs_mem hy;omega))
   (λy hy m _=>aX1 y _ d lo m (k+1) DT AP (by have:=PaD.hgs_mem hy;rw[x.hg_eq] at hk;omega) (by have:=PaD.szs_mem hy;omega))
  have hc:=VD (Q:=Q++[AObj.box [.val (.loc d 0)],.box (eA x),.box [.val (.int .i64 (k:Nat))]]) (d:=d) (lo:=lo) (g:=175) (caps:=[.loc (Q.length+1) 0,.loc Q.length 0,.loc (Q.length+2) 0]) DT AP m k _ (by omega) BM;rw[eR hd,eR hd] at hc;have e1:max (max m k) (k+x.hg)=max m (k+x.hg):=by omega
  rw[e1] at hc;simp only[hlen] at F8 G2;simp only[eA,Ca,Bv] at F8 G2 hc;rw[x.enc_eq];clear BM ih hd AP hk hx DT BC e1;refine yP ?_;exact QA rfl
theorem aAx{Q:List AObj}{d lo a b c k:Nat}(hb:∀s m,(BG Q d s m)[b]?=some (.box [.val (.loc d 0)]))(hc:∀s m,(BG Q d s m)[c]?=some (.box [.val (.int .i64 (k:Nat))]))(hk:k<=100)(ys:List TyD):∀(pre:List TyD)(s m:Nat),(pre++ys).length<AV->k<=m->s+TyD.szs ys<=2001->(∀y∈ys,∀s m,s+y.sz<=2001->k<=m->CF (.fn 186) [.val (.loc d 0),.val y.enc,.val (.int .i64 ((k+1:Nat):Int))] ⟨BG Q d s m,lo⟩=some (.ret (.tup []),⟨BG Q d (s+y.sz) (max m (k+1+y.hg)),lo⟩)) ->
  ∃s0 s4 s6 s7 s8 s9,LP 236 (aS Tryz.f236 0) ⟨[.dead,.val (.loc b 0),.val (.loc c 0),.dead,.val (.slice ((pre++ys).map TyD.enc)),.val (.int .i64 ((pre++ys).length:Nat)),.val (.int .i64 (pre.length:Nat)),.dead],⟨BG Q d s m,lo⟩⟩ =
   some (.exit 0,⟨[s0,.val (.loc b 0),.val (.loc c 0),s4,s6,s7,s8,s9],⟨BG Q d (s+TyD.szs ys) (max m (k+TyD.hgs ys)),lo⟩⟩):=by
 induction ys with
 |nil =>
  intro pre s m h3 hm hs h4;have AL:=DL pre;have e1:max m (k+TyD.hgs [])=m:=by simp only[TyD.hgs];omega
  rw[e1];simp only[Ao,TyD.szs,Aw];clear h4 hb hc e1;iterate 6 apply Exists.intro
  refine tI rfl ?_;exact wk;all_goals exact .dead
 |cons y ys ih =>
  intro pre s m h3 hm hs h4;have AN:=dK TyD.enc pre ys y;have AL:=CY pre ys y;have h0:=zI pre.length;have hw:=wL pre ys y h3;simp only[TyD.szs] at hs;have hy:=h4 y (by simp) s m (by omega) hm;have E8:=hb s m;have KA:=hc s m;have hadd:IntKind.i64.wrap (((k:Nat):Int)+1)=((k+1:Nat):Int):=wI _ (by simp only[AV];omega);obtain⟨s0,s4,s6,s7,s8,s9,ih⟩:=ih (pre++[y]) (s+y.sz) (max m (k+1+y.hg)) (by simpa using h3) (by omega) (by omega) (λx hx=>h4 x (by simp[hx]));simp only[Aj,Am] at ih;have e1:max (max m (k+1+y.hg)) (k+TyD.hgs ys)=max m (k+TyD.hgs (y::ys)):=by simp only[TyD.hgs];omega
  rw[e1] at ih;have e2:s+y.sz+TyD.szs ys=s+TyD.szs (y::ys):=by simp only[TyD.szs];omega
  rw[e2] at ih;rw[dN y] at AN hy;refine⟨s0,s4,s6,s7,s8,s9,?_⟩;refine tI rfl ?_;clear h4 hb hc hk e1 hm;exact wk
theorem aYj{Q:List AObj}{d lo a b c k:Nat}(x:TyD)(hx:x.sz<4000)(ha:∀s m,(BG Q d s m)[a]?=some (.box (eC x)))(hb:∀s m,(BG Q d s m)[b]?=some (.box [.val (.loc d 0)]))(hc:∀s m,(BG Q d s m)[c]?=some (.box [.val (.int .i64 (k:Nat))]))(hk:k<=100)(s m:Nat)(hm:k<=m)(hs:s+(TyD.szs (dV x))<=2001)
  (h0:∀y∈(dV x),∀s m,s+y.sz<=2001->k<=m->CF (.fn 186) [.val (.loc d 0),.val y.enc,.val (.int .i64 ((k+1:Nat):Int))] ⟨BG Q d s m,lo⟩=some (.ret (.tup []),⟨BG Q d (s+y.sz) (max m (k+1+y.hg)),lo⟩)) :
  CF (.fn 236) [.val (.loc a 0),.val (.loc b 0),.val (.loc c 0)] ⟨BG Q d s m,lo⟩=some (.ret (.tup []),⟨BG Q d (s+(TyD.szs (dV x))) (max m (k+x.hg)),lo⟩):=by
 have BC:=x.sz_eq;have FQ:=TyD.szs_len (dV x);obtain⟨s0,s4,s6,s7,s8,s9,hl⟩:=aAx (lo:=lo) (a:=a) hb hc hk (dV x) [] (s) (m) (by simp only[Ak,AV];omega) (by omega) (by omega) h0;simp only[Ak,Ar] at hl;have e0:((0:Nat):Int)=0:=rfl;rw[e0] at hl;have e1:max m (k+TyD.hgs (dV x))=max m (k+x.hg):=by rw[x.hg_eq]<;>omega
 rw[e1] at hl;have Jb:=ha s m;simp only[eC] at Jb;clear ha hb hc h0 BC hx e1 hm hk hs FQ;refine nT ?_;exact vC rfl
theorem aX7:∀(x:TyD)(Q:List AObj)(d lo s m k:Nat),d<Q.length->lo<=d->k+x.hg<=100->x.sz<4000->s+x.sz<=2001 ->
  CF (.fn 186) [.val (.loc d 0),.val x.enc,.val (.int .i64 (k:Nat))] ⟨BG Q d s m,lo⟩=some (.ret (.tup []),⟨BG Q d (s+x.sz) (max m (k+x.hg)),lo⟩):=by
 intro x;induction x using TyD.ind with
 |h x ih =>
  intro Q d lo s m k hd AP hk hx hs;have BC:=x.sz_eq;have hb:Nat.ble (Nat.succ d) Q.length=true:=Ah hd;have hlen:=λs m=>jT Q d s m
  have DT:d<(Q++[AObj.box [.val (.loc d 0)],.box (eC x),.box [.val (.int .i64 (k:Nat))]]).length:=by simp;omega
  have F8:=qg (BG Q d s m) [AObj.box [.val (.loc d 0)],.box (eC x),.box [.val (.int .i64 (k:Nat))]];have G2:=cq (BG Q d s m) [AObj.box [.val (.loc d 0)],.box (eC x),.box [.val (.int .i64 (k:Nat))]] 2
  have BM:=aYj (Q:=Q++[AObj.box [.val (.loc d 0)],.box (eC x),.box [.val (.int .i64 (k:Nat))]]) (d:=d) (lo:=lo) (a:=Q.length+1) (b:=Q.length) (c:=Q.length+2) (k:=k) x hx
   (λs m=>by rw[iF hd]<;>rfl) (λs m=>by have:=iF hd [AObj.box [.val (.loc d 0)],.box (eC x),.box [.val (.int .i64 (k:Nat))]] s m 0;rw[Aw] at this;rw[this];rfl) (λs m=>by rw[iF hd]<;>rfl) (by omega) (s+1) (max m k) (by omega) (by omega)
   (λy hy s m h1 _=>ih y hy _ d lo s m (k+1) DT AP (by have:=TyD.hgs_mem hy;rw[x.hg_eq] at hk;omega) (by have:=TyD.szs_mem hy;omega) h1)
  have hc:=VB (Q:=Q++[AObj.box [.val (.loc d 0)],.box (eC x),.box [.val (.int .i64 (k:Nat))]]) (d:=d) (lo:=lo) (g:=236) (caps:=[.loc (Q.length+1) 0,.loc Q.length 0,.loc (Q.length+2) 0]) DT AP s m k _ _ (by omega) (by omega) BM;rw[lC hd,lC hd] at hc;have e1:max (max m k) (k+x.hg)=max m (k+x.hg):=by omega
  rw[e1] at hc;have e2:s+1+(TyD.szs (dV x))=s+x.sz:=by omega
  rw[e2] at hc;simp only[hlen] at F8 G2;simp only[eC,Ca,Bv] at F8 G2 hc;rw[dN x];clear BM ih hd AP hk hx DT BC e1 hs e2;refine yP ?_;exact Ve rfl
theorem aAv{Q:List AObj}{d lo a b c k:Nat}(hb:∀s m,(BG Q d s m)[b]?=some (.box [.val (.loc d 0)]))(hc:∀s m,(BG Q d s m)[c]?=some (.box [.val (.int .i64 (k:Nat))]))(hk:k<=100)(ys:List PaD):∀(pre:List PaD)(s m:Nat),(pre++ys).length<AV->k<=m->s+PaD.szs ys<=2001->(∀y∈ys,∀s m,s+y.sz<=2001->k<=m->CF (.fn 179) [.val (.loc d 0),.val y.enc,.val (.int .i64 ((k+1:Nat):Int))] ⟨BG Q d s m,lo⟩=some (.ret (.tup []),⟨BG Q d (s+y.sz) (max m (k+1+y.hg)),lo⟩)) ->
  ∃s0 s4 s6 s7 s8 s9,LP 230 (aS Tryz.f230 0) ⟨[.dead,.val (.loc b 0),.val (.loc c 0),.dead,.val (.slice ((pre++ys).map PaD.enc)),.val (.int .i64 ((pre++ys).length:Nat)),.val (.int .i64 (pre.length:Nat)),.dead],⟨BG Q d s m,lo⟩⟩ =
   some (.exit 0,⟨[s0,.val (.loc b 0),.val (.loc c 0),s4,s6,s7,s8,s9],⟨BG Q d (s+PaD.szs ys) (max m (k+PaD.hgs ys)),lo⟩⟩):=by
 induction ys with
 |nil =>
  intro pre s m h3 hm hs h4;have AL:=DL pre;have e1:max m (k+PaD.hgs [])=m:=by simp only[PaD.hgs];omega
  rw[e1];simp only[Ao,PaD.szs,Aw];clear h4 hb hc e1;iterate 6 apply Exists.intro
  refine tI rfl ?_;exact wk;all_goals exact .dead
 |cons y ys ih =>
  intro pre s m h3 hm hs h4;have AN:=dK PaD.enc pre ys y;have AL:=CY pre ys y;have h0:=zI pre.length;have hw:=wL pre ys y h3;simp only[PaD.szs] at hs;have hy:=h4 y (by simp) s m (by omega) hm;have E8:=hb s m;have KA:=hc s m;have hadd:IntKind.i64.wrap (((k:Nat):Int)+1)=((k+1:Nat):Int):=wI _ (by simp only[AV];omega);obtain⟨s0,s4,s6,s7,s8,s9,ih⟩:=ih (pre++[y]) (s+y.sz) (max m (k+1+y.hg)) (by simpa using h3) (by omega) (by omega) (λx hx=>h4 x (by simp[hx]));simp only[Aj,Am] at ih;have e1:max (max m (k+1+y.hg)) (k+PaD.hgs ys)=max m (k+PaD.hgs (y::ys)):=by simp only[PaD.hgs];omega
  rw[e1] at ih;have e2:s+y.sz+PaD.szs ys=s+PaD.szs (y::ys):=by simp only[PaD.szs];omega
  rw[e2] at ih;rw[y.enc_eq] at AN hy;refine⟨s0,s4,s6,s7,s8,s9,?_⟩;refine tI rfl ?_;clear h4 hb hc hk e1 hm;exact wk
theorem aYf{Q:List AObj}{d lo a b c k:Nat}(x:PaD)(hx:x.sz<4000)(ha:∀s m,(BG Q d s m)[a]?=some (.box (eB x)))(hb:∀s m,(BG Q d s m)[b]?=some (.box [.val (.loc d 0)]))(hc:∀s m,(BG Q d s m)[c]?=some (.box [.val (.int .i64 (k:Nat))]))(hk:k<=100)(s m:Nat)(hm:k<=m)(hs:s+(PaD.szs x.args)<=2001)
  (h0:∀y∈x.args,∀s m,s+y.sz<=2001->k<=m->CF (.fn 179) [.val (.loc d 0),.val y.enc,.val (.int .i64 ((k+1:Nat):Int))] ⟨BG Q d s m,lo⟩=some (.ret (.tup []),⟨BG Q d (s+y.sz) (max m (k+1+y.hg)),lo⟩)) :
  CF (.fn 230) [.val (.loc a 0),.val (.loc b 0),.val (.loc c 0)] ⟨BG Q d s m,lo⟩=some (.ret (.tup []),⟨BG Q d (s+(PaD.szs x.args)) (max m (k+x.hg)),lo⟩):=by
 have BC:=x.sz_eq;have FQ:=PaD.szs_len x.args;obtain⟨s0,s4,s6,s7,s8,s9,hl⟩:=aAv (lo:=lo) (a:=a) hb hc hk x.args [] (s) (m) (by simp only[Ak,AV];omega) (by omega) (by omega) h0;simp only[Ak,Ar] at hl;have e0:((0:Nat):Int)=0:=rfl;rw[e0] at hl;have e1:max m (k+PaD.hgs x.args)=max m (k+x.hg):=by rw[x.hg_eq]<;>omega
 rw[e1] at hl;have Jb:=ha s m;simp only[eB] at Jb;clear ha hb hc h0 BC hx e1 hm hk hs FQ;refine nT ?_;exact vC rfl
theorem aX3:∀(x:PaD)(Q:List AObj)(d lo s m k:Nat),d<Q.length->lo<=d->k+x.hg<=100->x.sz<4000->s+x.sz<=2001 ->
  CF (.fn 179) [.val (.loc d 0),.val x.enc,.val (.int .i64 (k:Nat))] ⟨BG Q d s m,lo⟩=some (.ret (.tup []),⟨BG Q d (s+x.sz) (max m (k+x.hg)),lo⟩):=by
 intro x;induction x using PaD.ind with
 |h x ih =>
  intro Q d lo s m k hd AP hk hx hs;have BC:=x.sz_eq;have hb:Nat.ble (Nat.succ d) Q.length=true:=Ah hd;have hlen:=λs m=>jT Q d s m
  have DT:d<(Q++[AObj.box [.val (.loc d 0)],.box (eB x),.box [.val (.int .i64 (k:Nat))]]).length:=by simp;omega
  have F8:=qg (BG Q d s m) [AObj.box [.val (.loc d 0)],.box (eB x),.box [.val (.int .i64 (k:Nat))]];have G2:=cq (BG Q d s m) [AObj.box [.val (.loc d 0)],.box (eB x),.box [.val (.int .i64 (k:Nat))]] 2
  have BM:=aYf (Q:=Q++[AObj.box [.val (.loc d 0)],.box (eB x),.box [.val (.int .i64 (k:Nat))]]) (d:=d) (lo:=lo) (a:=Q.length+1) (b:=Q.length) (c:=Q.length+2) (k:=k) x hx
   (λs m=>by rw[iF hd]<;>rfl) (λs m=>by have:=iF hd [AObj.box [.val (.loc d 0)],.box (eB x),.box [.val (.int .i64 (k:Nat))]] s m 0;rw[Aw] at this;rw[this];rfl) (λs m=>by rw[iF hd]<;>rfl) (by omega) (s+1) (max m k) (by omega) (by omega)
   (λy hy s m h1 _=>ih y hy _ d lo s m (k+1) DT AP (by have:=PaD.hgs_mem hy;rw[x.hg_eq] at hk;omega) (by have:=PaD.szs_mem hy;omega) h1)
  have hc:=VB (Q:=Q++[AObj.box [.val (.loc d 0)],.box (eB x),.box [.val (.int .i64 (k:Nat))]]) (d:=d) (lo:=lo) (g:=230) (caps:=[.loc (Q.length+1) 0,.loc Q.length 0,.loc (Q.length+2) 0]) DT AP s m k _ _ (by omega) (by omega) BM;rw[lC hd,lC hd] at hc;have e1:max (max m k) (k+x.hg)=max m (k+x.hg):=by omega
  rw[e1] at hc;have e2:s+1+(PaD.szs x.args)=s+x.sz:=by omega
  rw[e2] at hc;simp only[hlen] at F8 G2;simp only[eB,Ca,Bv] at F8 G2 hc;rw[x.enc_eq];clear BM ih hd AP hk hx DT BC e1 hs e2;refine yP ?_;exact Ve rfl
theorem aAs{Q:List AObj}{d lo a b c k:Nat}(hb:∀s m,(BG Q d s m)[b]?=some (.box [.val (.loc d 0)]))(hc:∀s m,(BG Q d s m)[c]?=some (.box [.val (.int .i64 (k:Nat))]))(hk:k<=100)(ys:List ExD):∀(pre:List ExD)(s m:Nat),(pre++ys).length<AV->k<=m->s+ExD.szs ys<=2001->(∀y∈ys,∀s m,s+y.sz<=2001->k<=m->CF (.fn 116) [.val (.loc d 0),.val y.enc,.val (.int .i64 ((k+1:Nat):Int))] ⟨BG Q d s m,lo⟩=some (.ret (.tup []),⟨BG Q d (s+y.sz) (max m (k+1+y.hg)),lo⟩)) ->
  ∃s4 s6 s8 s9 s10 BI DR DG BX BU,LP 178 (aS Tryz.f178 0) ⟨[.val (.loc a 0),.val (.loc b 0),.val (.loc c 0),.dead,.dead,.val (.slice ((pre++ys).map ExD.enc)),.val (.int .i64 ((pre++ys).length:Nat)),.val (.int .i64 (pre.length:Nat)),.dead,.dead,.dead,.dead,.dead],⟨BG Q d s m,lo⟩⟩ =
   some (.exit 0,⟨[.val (.loc a 0),.val (.loc b 0),.val (.loc c 0),s4,s6,s8,s9,s10,BI,DR,DG,BX,BU],⟨BG Q d (s+ExD.szs ys) (max m (k+ExD.hgs ys)),lo⟩⟩):=by
 induction ys with
 |nil =>
  intro pre s m h3 hm hs h4;have AL:=DL pre;have e1:max m (k+ExD.hgs [])=m:=by simp only[ExD.hgs];omega
  rw[e1];simp only[Ao,ExD.szs,Aw];clear h4 hb hc e1;iterate 10 apply Exists.intro
  refine tI rfl ?_;exact wk;all_goals exact .dead
 |cons y ys ih =>
  intro pre s m h3 hm hs h4;have AN:=dK ExD.enc pre ys y;have AL:=CY pre ys y;have h0:=zI pre.length;have hw:=wL pre ys y h3;simp only[ExD.szs] at hs;have hy:=h4 y (by simp) s m (by omega) hm;have E8:=hb s m;have KA:=hc s m;have hadd:IntKind.i64.wrap (((k:Nat):Int)+1)=((k+1:Nat):Int):=wI _ (by simp only[AV];omega);obtain⟨s4,s6,s8,s9,s10,BI,DR,DG,BX,BU,ih⟩:=ih (pre++[y]) (s+y.sz) (max m (k+1+y.hg)) (by simpa using h3) (by omega) (by omega) (λx hx=>h4 x (by simp[hx]));simp only[Aj,Am] at ih;have e1:max (max m (k+1+y.hg)) (k+ExD.hgs ys)=max m (k+ExD.hgs (y::ys)):=by simp only[ExD.hgs];omega
  rw[e1] at ih;have e2:s+y.sz+ExD.szs ys=s+ExD.szs (y::ys):=by simp only[ExD.szs];omega
  rw[e2] at ih;rw[y.enc_eq] at AN hy;refine⟨s4,s6,s8,s9,s10,BI,DR,DG,BX,BU,?_⟩;refine tI rfl ?_;clear h4 hb hc hk e1 hm;exact wk
theorem aAt{Q:List AObj}{d lo a b c k:Nat}(hb:∀s m,(BG Q d s m)[b]?=some (.box [.val (.loc d 0)]))(hc:∀s m,(BG Q d s m)[c]?=some (.box [.val (.int .i64 (k:Nat))]))(hk:k<=100)(ys:List PaD):∀(pre:List PaD)(s m:Nat),(pre++ys).length<AV->k<=m->s+PaD.szs ys<=2001->(∀y∈ys,∀s m,s+y.sz<=2001->k<=m->CF (.fn 179) [.val (.loc d 0),.val y.enc,.val (.int .i64 ((k+1:Nat):Int))] ⟨BG Q d s m,lo⟩=some (.ret (.tup []),⟨BG Q d (s+y.sz) (max m (k+1+y.hg)),lo⟩)) ->
  ∃s0 s4 s6 s8 s9 s10 BI DR DG BX BU,LP 178 (aS Tryz.f178 1) ⟨[.dead,.val (.loc b 0),.val (.loc c 0),.dead,.dead,.dead,.dead,.dead,.dead,.val (.slice ((pre++ys).map PaD.enc)),.val (.int .i64 ((pre++ys).length:Nat)),.val (.int .i64 (pre.length:Nat)),.dead],⟨BG Q d s m,lo⟩⟩ =
   some (.exit 2,⟨[s0,.val (.loc b 0),.val (.loc c 0),s4,s6,s8,s9,s10,BI,DR,DG,BX,BU],⟨BG Q d (s+PaD.szs ys) (max m (k+PaD.hgs ys)),lo⟩⟩):=by
 induction ys with
 |nil =>
  intro pre s m h3 hm hs h4;have AL:=DL pre;have e1:max m (k+PaD.hgs [])=m:=by simp only[PaD.hgs];omega
  rw[e1];simp only[Ao,PaD.szs,Aw];clear h4 hb hc e1;iterate 11 apply Exists.intro
  refine tI rfl ?_;exact wk;all_goals exact .dead
 |cons y ys ih =>
  intro pre s m h3 hm hs h4;have AN:=dK PaD.enc pre ys y;have AL:=CY pre ys y;have h0:=zI pre.length;have hw:=wL pre ys y h3;simp only[PaD.szs] at hs;have hy:=h4 y (by simp) s m (by omega) hm;have E8:=hb s m;have KA:=hc s m;have hadd:IntKind.i64.wrap (((k:Nat):Int)+1)=((k+1:Nat):Int):=wI _ (by simp only[AV];omega);obtain⟨s0,s4,s6,s8,s9,s10,BI,DR,DG,BX,BU,ih⟩:=ih (pre++[y]) (s+y.sz) (max m (k+1+y.hg)) (by simpa using h3) (by omega) (by omega) (λx hx=>h4 x (by simp[hx]));simp only[Aj,Am] at ih;have e1:max (max m (k+1+y.hg)) (k+PaD.hgs ys)=max m (k+PaD.hgs (y::ys)):=by simp only[PaD.hgs];omega
  rw[e1] at ih;have e2:s+y.sz+PaD.szs ys=s+PaD.szs (y::ys):=by simp only[PaD.szs];omega
  rw[e2] at ih;rw[y.enc_eq] at AN hy;refine⟨s0,s4,s6,s8,s9,s10,BI,DR,DG,BX,BU,?_⟩;refine tI rfl ?_;clear h4 hb hc hk e1 hm;exact wk
theorem aX2{Q:List AObj}{d lo a b c k:Nat}(x:ExD)(hx:x.sz<4000)(ha:∀s m,(BG Q d s m)[a]?=some (.box (eA x)))(hb:∀s m,(BG Q d s m)[b]?=some (.box [.val (.loc d 0)]))(hc:∀s m,(BG Q d s m)[c]?=some (.box [.val (.int .i64 (k:Nat))]))(hk:k<=100)(s m:Nat)(hm:k<=m)(hs:s+(ExD.szs x.args+PaD.szs x.pats)<=2001)
  (h0:∀y∈x.args,∀s m,s+y.sz<=2001->k<=m->CF (.fn 116) [.val (.loc d 0),.val y.enc,.val (.int .i64 ((k+1:Nat):Int))] ⟨BG Q d s m,lo⟩=some (.ret (.tup []),⟨BG Q d (s+y.sz) (max m (k+1+y.hg)),lo⟩))
  (h1:∀y∈x.pats,∀s m,s+y.sz<=2001->k<=m->CF (.fn 179) [.val (.loc d 0),.val y.enc,.val (.int .i64 ((k+1:Nat):Int))] ⟨BG Q d s m,lo⟩=some (.ret (.tup []),⟨BG Q d (s+y.sz) (max m (k+1+y.hg)),lo⟩)) :
  CF (.fn 178) [.val (.loc a 0),.val (.loc b 0),.val (.loc c 0)] ⟨BG Q d s m,lo⟩=some (.ret (.tup []),⟨BG Q d (s+(ExD.szs x.args+PaD.szs x.pats)) (max m (k+x.hg)),lo⟩):=by
 have BC:=x.sz_eq;have FQ:=ExD.szs_len x.args;obtain⟨s4,s6,s8,s9,s10,BI,DR,DG,BX,BU,hl⟩:=aAs (lo:=lo) (a:=a) hb hc hk x.args [] (s) (m) (by simp only[Ak,AV];omega) (by omega) (by omega) h0;have M6:=PaD.szs_len x.pats;obtain⟨m0,m4,m6,m8,m9,m10,Sd,m21,m22,Sc,Sb,Gv⟩:=aAt (lo:=lo) (a:=a) hb hc hk x.pats [] (s+ExD.szs x.args) (max m (k+ExD.hgs x.args)) (by simp only[Ak,AV];omega) (by omega) (by omega) h1;simp only[Ak,Ar] at hl Gv;have e0:((0:Nat):Int)=0:=rfl;rw[e0] at hl Gv;have e1:max (max m (k+ExD.hgs x.args)) (k+PaD.hgs x.pats)=max m (k+x.hg):=by rw[x.hg_eq]<;>omega
 rw[e1] at Gv;have e2:s+ExD.szs x.args+PaD.szs x.pats=s+(ExD.szs x.args+PaD.szs x.pats):=by omega
 rw[e2] at Gv;have Jb:=ha s m;have NI:=ha (s+ExD.szs x.args) (max m (k+ExD.hgs x.args));simp only[eA] at Jb NI;clear ha hb hc h0 h1 BC hx e1 hm hk hs FQ M6;refine nT ?_;exact vC rfl
theorem VG:∀(x:ExD)(Q:List AObj)(d lo s m k:Nat),d<Q.length->lo<=d->k+x.hg<=100->x.sz<4000->s+x.sz<=2001 ->
  CF (.fn 116) [.val (.loc d 0),.val x.enc,.val (.int .i64 (k:Nat))] ⟨BG Q d s m,lo⟩=some (.ret (.tup []),⟨BG Q d (s+x.sz) (max m (k+x.hg)),lo⟩):=by
 intro x;induction x using ExD.ind with
 |h x ih =>
  intro Q d lo s m k hd AP hk hx hs;have BC:=x.sz_eq;have hb:Nat.ble (Nat.succ d) Q.length=true:=Ah hd;have hlen:=λs m=>jT Q d s m
  have DT:d<(Q++[AObj.box [.val (.loc d 0)],.box (eA x),.box [.val (.int .i64 (k:Nat))]]).length:=by simp;omega
  have F8:=qg (BG Q d s m) [AObj.box [.val (.loc d 0)],.box (eA x),.box [.val (.int .i64 (k:Nat))]];have G2:=cq (BG Q d s m) [AObj.box [.val (.loc d 0)],.box (eA x),.box [.val (.int .i64 (k:Nat))]] 2
  have BM:=aX2 (Q:=Q++[AObj.box [.val (.loc d 0)],.box (eA x),.box [.val (.int .i64 (k:Nat))]]) (d:=d) (lo:=lo) (a:=Q.length+1) (b:=Q.length) (c:=Q.length+2) (k:=k) x hx
   (λs m=>by rw[iF hd]<;>rfl) (λs m=>by have:=iF hd [AObj.box [.val (.loc d 0)],.box (eA x),.box [.val (.int .i64 (k:Nat))]] s m 0;rw[Aw] at this;rw[this];rfl) (λs m=>by rw[iF hd]<;>rfl) (by omega) (s+1) (max m k) (by omega) (by omega)
   (λy hy s m h1 _=>ih y hy _ d lo s m (k+1) DT AP (by have:=ExD.hgs_mem hy;rw[x.hg_eq] at hk;omega) (by have:=ExD.szs_mem hy;omega) h1)
   (λy hy s m h1 _=>aX3 y _ d lo s m (k+1) DT AP (by have:=PaD.hgs_mem hy;rw[x.hg_eq] at hk;omega) (by have:=PaD.szs_mem hy;omega) h1)
  have hc:=VB (Q:=Q++[AObj.box [.val (.loc d 0)],.box (eA x),.box [.val (.int .i64 (k:Nat))]]) (d:=d) (lo:=lo) (g:=178) (caps:=[.loc (Q.length+1) 0,.loc Q.length 0,.loc (Q.length+2) 0]) DT AP s m k _ _ (by omega) (by omega) BM;rw[lC hd,lC hd] at hc;have e1:max (max m k) (k+x.hg)=max m (k+x.hg):=by omega
  rw[e1] at hc;have e2:s+1+(ExD.szs x.args+PaD.szs x.pats)=s+x.sz:=by omega
  rw[e2] at hc;simp only[hlen] at F8 G2;simp only[eA,Ca,Bv] at F8 G2 hc;rw[x.enc_eq];clear BM ih hd AP hk hx DT BC e1 hs e2;refine yP ?_;exact Ve rfl
end Go.Proofs.YtoiocfngjchdiaaGreatDoor
