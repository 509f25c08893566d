import Derived.WalkSpells
import Derived.Test.YtoiocfngjchdiaaGreatDoorT07
import Derived.Test.YtoiocfngjchdiaaGreatDoorK01
import Derived.Test.YtoiocfngjchdiaaGreatDoorK02
import Derived.Test.YtoiocfngjchdiaaGreatDoorK03
set_option linter.all false
set_option maxRecDepth 100000
set_option maxHeartbeats 4000000
namespace Go.Proofs.YtoiocfngjchdiaaGreatDoor
open Go.AM
def IW(s:List UInt8)(k:Int):Bool:=eC s==some k
theorem gQ{s:List UInt8}{k:Int}(h:IW s k=true):eC s=some k:=by simpa[IW] using h
def RJ(s:List UInt8)(n:Nat):Bool:=(s==[44]&&Nat.ble 2 n&&Nat.ble n 4)||(IW s 3&&Nat.ble n 16)
theorem z0{s:List UInt8}{n:Nat}(h:RJ s n=true):WB s n:=by
 simp only[RJ,Ck,Ac] at h;rcases h with⟨⟨h1,h2⟩,h3⟩|⟨h1,h2⟩
 ·exact .inl ⟨by simpa using h1,Ad h2,Ad h3⟩
 ·exact .inr ⟨gQ h1,Ad h2⟩
mutual
def TA:ah->Bool
 |.mk s l=>(IW s 4&&l.isEmpty)||(IW s 3&&Nat.ble l.length 16&&Qe l)
def Qe:List ah->Bool
 |[]=>true
 |t::l=>TA t&&Qe l
end
mutual
def TC:ag->Bool
 |.mk k s l=>(k==1&&s.isEmpty&&l.isEmpty)||(k==2&&IW s 2&&l.isEmpty)||(k==3&&RJ s l.length&&Qf l)
def Qf:List ag->Bool
 |[]=>true
 |t::l=>TC t&&Qf l
end
mutual
def RI:af->Bool
 |.mk k n s a l p =>
  (k==1&&s.isEmpty&&a.isEmpty&&l.isEmpty&&p.isEmpty)||(n==0&&(
  (k==2&&IW s 2&&a.isEmpty&&l.isEmpty&&p.isEmpty) ||
  (k==3&&RJ s l.length&&a.isEmpty&&p.isEmpty&&il l) ||
  (k==4&&s.isEmpty&&a.isEmpty&&p.isEmpty&&Nat.beq l.length 2&&il l) ||
  (k==5&&s.isEmpty&&IW a 2&&p.isEmpty&&Nat.beq l.length 1&&il l) ||
  (k==7&&IW s 2&&IW a 2&&p.isEmpty&&Nat.beq l.length 2&&il l) ||
  (k==8&&s.isEmpty&&a.isEmpty&&Nat.ble 1 p.length&&Nat.ble p.length 16&&Nat.beq l.length (p.length+1)&&il l&&Qf p) ||
  (k==9&&opsL.contains s&&a.isEmpty&&p.isEmpty&&Nat.beq l.length 2&&il l)))
def il:List af->Bool
 |[]=>true
 |t::l=>RI t&&il l
end
mutual
theorem aPD:∀{t:ah},TA t=true->WT t
 |.mk s l,h=>by
  simp only[TA,Ck,Ac] at h;rcases h with⟨h1,h2⟩|⟨⟨h1,h2⟩,h3⟩
  ·rw[Ft.1 h2];exact .var _ (gQ h1)
  ·exact .bh _ _ (gQ h1) (Ad h2) (iw h3)
theorem iw:∀{l:List ah},Qe l=true->∀a∈l,WT a
 |[],_,a,ha=>by simp at ha
 |t::l,h,a,ha=>by
  simp only[Qe,Ac] at h;rcases As.1 ha with e|ha
  ·rw[e];exact aPD h.1
  ·exact iw h.2 a ha
end
mutual
theorem aPC:∀{t:ag},TC t=true->WP t
 |.mk k s l,h=>by
  simp only[TC,Ck,Ac,Ft,Cb] at h;rcases h with(⟨⟨rfl,rfl⟩,rfl⟩|⟨⟨rfl,h1⟩,rfl⟩)|⟨⟨rfl,h1⟩,h2⟩
  ·exact .a2P
  ·exact .var _ (gQ h1)
  ·exact .bh _ _ (z0 h1) (im h2)
theorem im:∀{l:List ag},Qf l=true->∀a∈l,WP a
 |[],_,a,ha=>by simp at ha
 |t::l,h,a,ha=>by
  simp only[Qf,Ac] at h;rcases As.1 ha with e|ha
  ·rw[e];exact aPC h.1
  ·exact im h.2 a ha
end
mutual
theorem z1:∀{t:af},RI t=true->WE t
 |.mk k n s a l p,h=>by
  simp only[RI,Ck,Ac,Ft,Cb] at h;rcases h with⟨⟨⟨⟨rfl,rfl⟩,rfl⟩,rfl⟩,rfl⟩|⟨rfl,((((((h|h)|h)|h)|h)|h)|h)⟩
  ·exact .num _
  ·obtain⟨⟨⟨⟨rfl,h1⟩,rfl⟩,rfl⟩,rfl⟩:=h
   exact .var _ (gQ h1)
  ·obtain⟨⟨⟨⟨rfl,h1⟩,rfl⟩,rfl⟩,h2⟩:=h
   exact .bh _ _ (z0 h1) (l7 h2)
  ·obtain⟨⟨⟨⟨⟨rfl,rfl⟩,rfl⟩,rfl⟩,h1⟩,h2⟩:=h
   exact .app _ (Aa h1) (l7 h2)
  ·obtain⟨⟨⟨⟨⟨rfl,rfl⟩,h0⟩,rfl⟩,h1⟩,h2⟩:=h
   exact .fn _ _ (gQ h0) (Aa h1) (l7 h2)
  ·obtain⟨⟨⟨⟨⟨rfl,h3⟩,h0⟩,rfl⟩,h1⟩,h2⟩:=h
   exact .u9 _ _ _ (gQ h3) (gQ h0) (Aa h1) (l7 h2)
  ·obtain⟨⟨⟨⟨⟨⟨⟨rfl,rfl⟩,rfl⟩,h1⟩,h2⟩,h3⟩,h4⟩,h5⟩:=h
   exact .case _ _ (Ad h1) (Ad h2) (Aa h3) (l7 h4) (im h5)
  ·obtain⟨⟨⟨⟨⟨rfl,h3⟩,rfl⟩,rfl⟩,h1⟩,h2⟩:=h
   exact .op _ _ (by simpa using h3) (Aa h1) (l7 h2)
theorem l7:∀{l:List af},il l=true->∀a∈l,WE a
 |[],_,a,ha=>by simp at ha
 |t::l,h,a,ha=>by
  simp only[il,Ac] at h;rcases As.1 ha with e|ha
  ·rw[e];exact z1 h.1
  ·exact l7 h.2 a ha
end
def XL(d:ax):Bool:=(IW d.t_ 3&&Nat.ble d.vars.length 16&&d.vars.all (IW · 4)&&Nat.ble 1 d.cons.length&&Nat.ble d.cons.length 16&&d.cons.all λc=>IW c.name 3&&Nat.ble c.args.length 16&&Qe c.args)
theorem aG2:(vL.all XL&&xk.all λf=>IW f.name 2&&IW f.arg 2&&RI f.body)=true:=by kernel_rfl
theorem a0e:∀d∈vL,d=⟨1,d.t_,d.vars,d.cons,[],[],[],[],lB⟩:=by
 intro d hd;simp only[vL,As,Dg,Ep] at hd;rcases hd with rfl|rfl|rfl|rfl<;>rfl
theorem aNt:∀y∈c7,WD y:=by
 have h0:=aG2;rw[Ac] at h0;intro y hy;rcases Bk.1 hy with hy|hy
 ·have h:=Au.1 h0.1 y hy
  simp only[XL,Ac] at h;obtain⟨⟨⟨⟨⟨h1,h2⟩,h3⟩,h4⟩,h5⟩,h6⟩:=h;rw[a0e y hy]
  exact .data _ _ _ (gQ h1) (Ad h2) (λv hv=>gQ (Au.1 h3 v hv)) (Ad h4) (Ad h5) λc hc=>by
   have:=Au.1 h6 c hc
   simp only[Ac] at this;exact⟨gQ this.1.1,Ad this.1.2,iw this.2⟩
 ·obtain⟨f,hf,rfl⟩:=Cn.1 hy
  have h:=Au.1 h0.2 f hf;simp only[Ac] at h
  exact .func [f] (by simp) (by simp) λg hg=>by
   rw[Ct.1 hg];exact⟨gQ h.1.1,gQ h.1.2,z1 h.2⟩
theorem aG3:∀y∈c7,y.oe=true:=Au.1 (show c7.all ax.oe=true by kernel_rfl)
theorem uW:c7.length=54:=by kernel_rfl
theorem aBb:∀y∈c7,mh y:=by
 intro y hy;rcases Bk.1 hy with hy|hy
 ·rw[a0e y hy];exact .inl ⟨rfl,rfl⟩
 ·obtain⟨f,hf,rfl⟩:=Cn.1 hy
  exact .inr ⟨f,rfl⟩
theorem aSA:D3 c7<=60:=by
 have:(Nat.ble (D3 c7) 60)=true:=by kernel_rfl
 exact Ad this
theorem aSB:FE c7<=1700:=by
 have:(Nat.ble (FE c7) 1700)=true:=by kernel_rfl
 exact Ad this
theorem a3e:∀(a b:List ax),D3 (a++b)=max (D3 a) (D3 b)
 |[],b=>by simp[D3]
 |x::a,b=>by simp only[Cw,D3,a3e a b];omega
theorem a3f:∀(a b:List ax),FE (a++b)=FE a+FE b
 |[],b=>by simp[FE]
 |x::a,b=>by simp only[Cw,FE,a3f a b];omega
section
variable [h_]
abbrev vy:ah:=.mk [73,110,116] []
abbrev Od:ah:=.mk [39,97] []
abbrev La(a:ah):ah:=.mk [76,105,115,116] [a]
theorem a1o{a:ah}:∀l:List ad,(∀x∈l,jB a x)->jB (La a) (aM l)
 |[],_=>.nil a
 |x::l,h=>.cons a _ _ (h x (by simp)) (a1o l λy hy=>h y (by simp[hy]))
theorem aDw(l:List Int):jB (La vy) (aM (l.map bL)):=a1o _ λx hx=>by
 obtain⟨n,_,rfl⟩:=Cn.1 hx;exact .int n
theorem zi:eC ly=some 3:=by kernel_rfl
theorem a3u:eC sZ=some 3:=by kernel_rfl
theorem yP:∀l:List Int,(aM (l.map bL)).valid=true
 |[]=>by simp only[Av,aM,ad.valid,ad.qt,mD,zi];rfl
 |x::l=>by
  have:=yP l
  simp only[Ba,aM,ad.valid,ad.qt,bL,this,mD,a3u];rfl
theorem ga:∀l:List Int,(aM (l.map bL)).size<=20*l.length+4
 |[]=>by simp[aM,ad.size,ad.f_,ly]
 |x::l=>by
  have:=ga l
  simp only[Ba,aM,ad.size,ad.f_,bL,Ak,Ap,sZ];omega
theorem UQ:∀l:List Int,WE (gk (aM (l.map bL)))
 |[]=>.bh ly [] (.inr ⟨zi,by simp⟩) (λa ha=>by simp at ha)
 |x::l=>.bh sZ [nu x,gk (aM (l.map bL))] (.inr ⟨a3u,by simp⟩) λa ha=>by
  simp only[As,Dg,Ep] at ha;rcases ha with rfl|rfl
  ·exact .num x
  ·exact UQ l
theorem aKv:∀l:List Int,(gk (aM (l.map bL))).hg<=l.length
 |[]=>Ae _
 |x::l=>by
  have:=aKv l
  show(af.mk 3 0 sZ [] [nu x,gk (aM (l.map bL))] []).hg<=_;simp only[af.hg,af.az,ag.az,Ak];omega
theorem aKW:∀l:List Int,(gk (aM (l.map bL))).sz=2*l.length+1
 |[]=>rfl
 |x::l=>by
  have:=aKW l
  show(af.mk 3 0 sZ [] [nu x,gk (aM (l.map bL))] []).sz=_;simp only[af.sz,af.ba,ag.ba,this,Ak];omega
structure wv (t:ah) (v:ad):Prop where
 km:v.km=true
 size:v.size<AR
 valid:v.valid=true
 cu:v.cu<=4000
 has:jB t v
 we:WE (gk v)
 hg:(gk v).hg<=30
 sz:(gk v).sz<=61
theorem aLr{t:ah}(l:List Int)(h:l.length<=30)(hh:jB t (aM (l.map bL))):wv t (aM (l.map bL)) :=
 ⟨xP l,by have:=ga l;simp only[AR];omega,yP l,by rw[de];omega,hh,UQ l,Bi (aKv l) h,by rw[aKW];omega⟩
structure rN (nm:List UInt8) (vs:List ad):Prop where
 ty:∃l r,uL nm=some (o7 l r)/\(tyName r==[45,62])=false/\l.length=vs.length/\∀(i:Nat) t v,l[i]?=some t->vs[i]?=some v->wv t v
 ne:∃y ys,vs=y::ys
 len:vs.length<=2
 we:WE (hJ nm vs)
 hg:(hJ nm vs).hg<=40
 sz:(hJ nm vs).sz<=130
theorem aSi{nm:List UInt8}{t r:ah}{v:ad}(ht:uL nm=some (o7 [t] r))(hr:(tyName r==[45,62])=false)(hk:eC nm=some 2)(h:wv t v):rN nm [v] where
 ty:=⟨[t],r,ht,hr,rfl,λi t' v' h1 h2=>by
  match i with
  |0=>cases h1;cases h2;exact h
  |i+1=>simp at h1⟩
 ne:=⟨v,[],rfl⟩
 len:=by simp
 we:=.app [va nm,gk v] rfl λa ha=>by
  simp only[As,Dg,Ep] at ha;rcases ha with rfl|rfl
  ·exact .var nm hk
  ·exact h.we
 hg:=by
  have:=h.hg
  show(af.mk 4 0 [] [] [va nm,gk v] []).hg<=_;simp only[af.hg,af.az,ag.az];omega
 sz:=by
  have:=h.sz
  show(af.mk 4 0 [] [] [va nm,gk v] []).sz<=_;simp only[af.sz,af.ba,ag.ba];omega
def pf(nm:List UInt8)(vs:List ad):List ax:=c7++[cU oS (hJ nm vs)]
theorem aKU{nm:List UInt8}{vs:List ad}(h:rN nm vs)(S:AH)(hS:S.lo<=S.objs.length):CF (.fn 23) [.val (.agg [.slice ((pf nm vs).map ax.enc)])] S=some (.ret (.val (.int .i64 0)),S):=by
 have h1:=aSA;have h2:=aSB;have h3:=h.hg;have h4:=h.sz;refine c23 _ (by rw[pf,Bc,uW];simp) (λy hy=>?_) (λy hy=>?_) ?_ ?_ S hS
 ·rcases Bk.1 hy with hy|hy
  ·exact aG3 y hy
  ·rw[Ct.1 hy];rfl
 ·rcases Bk.1 hy with hy|hy
  ·exact aNt y hy
  ·rw[Ct.1 hy];exact .out oS _ (by kernel_rfl) h.we
 ·rw[pf,a3e]
  show max (D3 c7) (max (1+(hJ nm vs).hg) 0)<=100;omega
 ·rw[pf,a3f]
  show FE c7+((hJ nm vs).sz+0)<=2000;omega
theorem aW8(JI:h_.pg=.agg [.slice (c7.map ax.enc)]){nm:List UInt8}{vs:List ad}(h:rN nm vs)(S:AH)(hS:S.lo<=S.objs.length) :
  CF (.fn 7) [.val (.str nm),.val (.slice (vs.map ad.enc))] S=some (.ret (.aj [.agg [.slice ((pf nm vs).map ax.enc)],.bool true]),S):=by
 obtain⟨l,r,ht,hr,hl,hA⟩:=h.ty
 have CA:∀v∈vs,∃t,wv t v:=λv hv=>by
  obtain⟨i,hi⟩:=Di hv;have AL:=(Ab.1 hi).1;exact⟨l[i]'(by omega),hA i _ v (by simp) hi⟩
 have Nj:=Ye nm l r ht hr vs hl (by have:=h.len;simp only[AR];omega) (λy hy=>by
  obtain⟨t,k⟩:=CA y hy;exact⟨k.valid,k.size,k.cu⟩) (λi t v h1 h2=>(hA i t v h1 h2).has) S hS
 have Ni:=c40 (hJ nm vs) h.we (by have:=h.hg;omega) (by have:=h.sz;omega) S hS;have IK:=aKU h S hS;have hlen:=h.len;obtain⟨y,ys,rfl⟩:=h.ne
 have SE:=c22 nm y ys (by simp only[AR];omega) (λx hx=>by
  obtain⟨t,k⟩:=CA x hx;exact⟨k.size,k.km⟩) S Nj Ni
 exact a5o c7 JI (by rw[uW];omega) (by intro e;have:=uW;rw[e] at this;simp at this) nm _ _ S SE IK
def lV(nm:List UInt8)(vs:List ad):List Slot:=[.val (.agg [.slice ((pf nm vs).map ax.enc)]),.val (.slice []),.val (.int .i64 200000)]
def pM(v:ad)(n:Nat):d_:=.ret (.aj [.agg [.slice [GA oS v],.int .i64 (n:Nat)],.int .i64 0])
end
end Go.Proofs.YtoiocfngjchdiaaGreatDoor
namespace Go.AM
open Go.RowKit
variable {P:Program}{ans:FuncId->AF}{B0:Nat}
def IB(Ψ:HT)(B:Nat)(w:World):Nat->HT
 |0=>Ψ
 |n+1=>λb o c=>IB Ψ B w n b o c\/(B<=b/\flat c=true/\∃v,w.cell? ⟨b,o,none⟩=some v/\am (IB Ψ B w n) [] c v)
variable {Ψ:HT}{B:Nat}{w w':World}
theorem tz(n:Nat):(IB Ψ B w n).le (IB Ψ B w (n+1)):=λ_ _ _ h=>.inl h
theorem zo:∀n,Ψ.le (IB Ψ B w n)
 |0=>HT.le_refl _
 |n+1=>HT.le_trans (zo n) (tz n)
theorem a3B:∀(n:Nat){b:Nat},b<B->∀o,IB Ψ B w n b o=Ψ b o
 |0,b,_,o=>rfl
 |n+1,b,hb,o=>by
  funext c;have ih:=congrFun (a3B n hb o) c;show(IB Ψ B w n b o c\/_)=_;rw[ih];exact propext ⟨λh=>h.elim id λh=>absurd h.1 (by omega),.inl⟩
theorem a3C(h:c_ Ψ w):∀n,c_ (IB Ψ B w n) w
 |0=>h
 |n+1=>⟨h.kS,λb o c e=>by
  rcases e with e|⟨_,h1,v,h2,h3⟩
  ·obtain⟨h1,v,h2,h3⟩:=(a3C h n).sat b o c e
   exact⟨h1,v,h2,h3.mono (tz n) (aG _)⟩
  ·exact⟨h1,v,h2,h3.mono (tz n) (aG _)⟩⟩
theorem yO:∀{a:ae},a.v≠.bot:=λ{a}=>by cases a<;>simp[ae.v]
theorem xN{w:World}{Ψ:HT}{J:CM.ak}{x:CM.V}{u:Value}{a:ae}(hx:CM.VR J x u)(e:CM.sW x=a.v):am Ψ [] a u/\flat a=true:=by
 unfold CM.sW at e
 split at e
 ·cases a<;>simp[ae.v] at e
  obtain⟨rfl,rfl⟩:=e;rw[hx.kj];exact⟨.int _ _,rfl⟩
 ·cases a<;>simp[ae.v] at e
  obtain⟨h1,h2⟩:=e;obtain⟨s',rfl,hl,hn⟩:=hx.l_;obtain rfl:=CM.uB (hl.trans h1) (hn.trans h2);exact⟨.str _,rfl⟩
 ·cases a<;>simp[ae.v] at e
  subst e;rw[hx.od];exact⟨.bool _,rfl⟩
 ·exact absurd e.symm yO
theorem a10(g:CM.kx->CM.V->CM.V)(t:CM.T CM.V):∀(l:List CM.kx)(off k:Nat),(CM.qi g l t off)[k]?=(l[k]?).map λs=>g s (t.at (off+k))
 |[],off,k=>by simp[CM.qi]
 |s::l,off,0=>by simp[CM.qi]
 |s::l,off,k+1=>by
  simp only[CM.qi,Ca];rw[a10 g t l (off+1) k,show off+1+k=off+(k+1) by omega]
theorem a11(g:CM.kx->CM.V->CM.V)(t:CM.T CM.V):∀(l:List CM.kx)(off:Nat),(CM.qi g l t off).length=l.length
 |[],off=>rfl
 |s::l,off=>by simp[CM.qi,a11 g t l (off+1)]
theorem aH8(f:Nat)(h:CM.T CM.O)(s:CM.kx)(x:CM.V)(l:List CM.V):CM.mw f h s x≠.agg l:=by
 cases f with
 |zero=>intro e;cases e
 |succ f =>
  cases s with
  |s =>
   simp only[CM.mw,CM.sW]
   split<;>(intro e;cases e)
  |l i =>
   have hr:∀(g:CM.kx->CM.V->CM.V)(o:CM.O)(off len:Nat),CM.tE g (CM.ke i) o off len≠.agg l:=λg o off len=>by
    unfold CM.tE;split
    ·split<;>(intro e;cases e)
    ·intro e;cases e
   simp only[CM.mw]
   split<;>first|exact hr _ _ _ _|(intro e;cases e)
theorem aIA{a:ae}(h:∀l,a.v≠.agg l):a.cells=[a]:=by cases a<;>first|rfl|exact absurd rfl (h _)
open CM in
theorem a0n{w0:cL}{J:ak}{h:T O}{nx:Q}{f:Nat}(H:HR P w0 J h nx w){o:Q}{off len b N cap i:Nat}{a:ae}(ho:J o=some (b,N))(hc:len<=cap)
  (ih:∀(s:kx)(x:V)(u:Value)(a:ae),VR J x u->mw f h s x=a.v->am (IB Ψ w0.heap.size w f) [] a u/\flat a=true)
  (e:tE (mw f h) (ke i) (h.get O.dead o) off len=a.v):am (IB Ψ w0.heap.size w (f+1)) [] a (.slice (some ⟨b,off,none⟩) len cap)/\flat a=true:=by
 unfold tE at e
 split at e
 case h_2=>exact absurd e.symm yO
 rename_i k t hr
 split at e
 case h_2=>exact absurd e.symm yO
 rename_i hk;have hk:=Ad hk
 have Js:∃B4 CJ ty ex,h.ob o=.row k t B4 CJ ty ex:=by
  have:CM.rowAt (h.ob o)=some (k,t):=hr
  unfold CM.rowAt at this
  split at this
  ·rename_i n t' B4 CJ ty ex he
   cases this;exact⟨_,_,_,_,he⟩
  ·cases this
 have hB:w0.heap.size<=b:=by
  have:=H.obj o b N ho
  obtain⟨B4,CJ,ty,ex,he⟩:=Js;rw[he] at this;cases this with
  |row _ _ _ _ _ _ _ _ vs hb=>exact hb
 cases a<;>simp only[ae.v] at e<;>first|cases e|skip
 rename_i l;simp only[V.aj.injEq] at e;rw[ae.vo] at e;have hlen:l.length=len:=by have:=Dd List.length e;simpa using this.symm
 refine⟨.slice _ _ _ _ (ke i).length hlen hc λj x hj=>?_,rfl⟩;have YL:j<len:=by rw[<-hlen];exact(Ab.1 hj).1
 have ex:Vi (qi (mw f h) (ke i) t (off+j*(ke i).length))=x.v:=by
  have:=Dd (λl=>l[j]?) e
  simpa[YL,hj] using this
 have BQ:=a11 (mw f h) t (ke i) (off+j*(ke i).length)
 have hjn:off+j*(ke i).length+(ke i).length<=k:=by
  have:j*(ke i).length+(ke i).length<=len*(ke i).length:=by rw[<-Ez];exact Cs _ YL
  omega
 have key:x.cells.length=(ke i).length/\∀(m:Nat)(c:ae),x.cells[m]?=some c->∃s,(ke i)[m]?=some s/\mw f h s (t.at (off+j*(ke i).length+m))=c.v:=by
  have hg:=λm=>a10 (mw f h) t (ke i) (off+j*(ke i).length) m
  unfold Vi at ex
  split at ex
  ·rename_i y hy
   rw[hy] at BQ;simp only[Ak,Ap,Bs] at BQ;have h0:=hg 0;rw[hy] at h0;simp only[Cc] at h0;obtain⟨s,hs,Rb⟩:=Aq.1 h0.symm;have CU:x.cells=[x]:=aIA λl=>by rw[<-ex,<-Rb];exact aH8 _ _ _ _ _
   rw[CU];refine⟨by simp[<-BQ],λm c hm=>?_⟩
   match m with
   |0=>cases hm;exact⟨s,hs,by rw[Rb,ex]⟩
   |m+1=>simp at hm
  ·cases x<;>simp only[ae.v] at ex<;>first|cases ex|skip
   rename_i cs;simp only[V.agg.injEq] at ex;rw[ae.vo] at ex;refine⟨by rw[<-BQ,ex];simp[ae.cells],λm c hm=>?_⟩;have h1:=hg m;rw[ex,Aw] at h1;have N7:cs[m]?=some c:=hm;rw[N7] at h1;obtain⟨s,hs,h2⟩:=Aq.1 h1.symm;exact⟨s,hs,h2⟩
 refine⟨key.1,b,off,rfl,λm c hm=>?_⟩;obtain⟨s,hs,hv⟩:=key.2 m c hm;have hml:m<(ke i).length:=(Ab.1 hs).1;obtain⟨v0,g0,r0,k0⟩:=H.cell (off:=off+j*(ke i).length+m) ho (.inl Js) (by omega);obtain⟨r1,r2⟩:=ih s _ _ c r0 hv;exact .inr ⟨hB,r2,v0,g0,r1⟩
open CM in
theorem a4a{w0:cL}{J:ak}{h:T O}{nx:Q}(H:HR P w0 J h nx w):∀(f:Nat)(s:kx)(x:V)(u:Value)(a:ae),VR J x u->mw f h s x=a.v->am (IB Ψ w0.heap.size w f) [] a u/\flat a=true
 |0,s,x,u,a,_,e=>absurd e.symm yO
 |f+1,.s,x,u,a,hx,e=>xN (w:=w) hx e
 |f+1,.l i,x,u,a,hx,e=>by
  have ih:=a4a H f;simp only[mw] at e
  split at e
  ·cases a<;>simp only[ae.v] at e<;>first|cases e|skip
   rename_i l;simp only[V.aj.injEq,ae.vo] at e;obtain rfl:l=[]:=by cases l with|nil=>rfl|cons _ _=>simp at e
   cases hx;exact⟨.slice _ _ _ _ 0 rfl (Ae _) λi x h=>by simp at h,rfl⟩
  ·cases a<;>simp only[ae.v] at e<;>first|cases e|skip
   rename_i l;simp only[V.aj.injEq,ae.vo] at e;obtain rfl:l=[]:=by cases l with|nil=>rfl|cons _ _=>simp at e
   cases hx;exact⟨.slice _ _ _ _ 0 rfl (Dr _) λi x h=>by simp at h,rfl⟩
  ·cases hx with
   |sl _ _ _ _ b N ho hc=>exact a0n H ho hc ih e
  ·cases hx with
   |su _ _ _ _ b N cap ho hc hr=>exact a0n H ho hc ih e
  ·exact absurd e.symm yO
open CM in
theorem a4b{w0:cL}{J:ak}{h:T O}{nx:Q}(H:HR P w0 J h nx w):∀{l:List kx}{vs:List V}{us:List Value}{cs:List ae},a_ J vs us->NV h l vs=cs.map ae.v ->
  cs.length=us.length/\∀(i:Nat)(c:ae)(v:Value),cs[i]?=some c->us[i]?=some v->am (IB Ψ w0.heap.size w 24) [] c v/\flat c=true
 |[],[],us,cs,hv,e=>by
  obtain rfl:=hv.k_;obtain rfl:cs=[]:=by cases cs with|nil=>rfl|cons _ _=>cases e
  exact⟨rfl,λi c v hc=>by simp at hc⟩
 |[],v::vs,us,cs,hv,e=>by
  cases cs with
  |nil=>cases e
  |cons c cs=>simp only[NV,Ba,Dj] at e;exact absurd e.1.symm yO
 |s::l,[],us,cs,hv,e=>by
  cases cs with
  |nil=>cases e
  |cons c cs=>simp only[NV,Ba,Dj] at e;exact absurd e.1.symm yO
 |s::l,v::vs,us,cs,hv,e=>by
  obtain⟨u,us,rfl,h1,h2⟩:=hv.k6;cases cs with
  |nil=>cases e
  |cons c cs =>
   simp only[NV,Ba,Dj] at e;obtain⟨g1,g2⟩:=a4b H h2 e.2;refine⟨by simp[g1],λi c' v' hc HF=>?_⟩
   match i with
   |0=>cases hc;cases HF;exact a4a H 24 _ _ _ _ h1 e.1
   |i+1=>exact g2 i c' v' (by simpa using hc) (by simpa using HF)
open CM in
theorem aH7{w0:cL}{J:ak}{h:T O}{nx:Q}(H:HR P w0 J h nx w){l:List kx}{x:V}{u:Value}{cs:List ae}(hx:VR J x u)(e:sN h l x=(ae.agg cs).v):am (IB Ψ w0.heap.size w 24) [] (.agg cs) u:=by
 unfold sN at e
 split at e
 case h_2=>cases e
 rename_i vs;obtain⟨us,rfl,Ow,_⟩:=hx.qh;simp only[ae.v,V.agg.injEq,ae.vo] at e;obtain⟨g1,g2⟩:=a4b (Ψ:=Ψ) H Ow e;exact .agg _ _ g1 (λi c hc=>j6 (g2 i c (us[i]'(by rw[<-g1];exact(Ab.1 hc).1)) hc (by simp)).2) λi c v hc hv=>(g2 i c v hc hv).1
end Go.AM
noncomputable section
namespace Go.Proofs.YtoiocfngjchdiaaGreatDoor
open Go.AM Go.RowKit
theorem aNO(c:Nat)(w:World):Calls Tryz.prog 209 #[.slice none 0 c] w λe w'=>e=.returned (.slice none 0 0)/\w'=w:=by
 have hq:=run_eql_nil_slice (P:=Tryz.prog) w 57 9 none 0 0 0 c Tryz.underlying57
 go_enter Tryz.func209,Tryz.ntmps209
 go_wp2
 all_goals go_ret
 all_goals exact⟨rfl,rfl⟩
theorem aIi(a:Addr)(c:Nat)(w:World):Calls Tryz.prog 209 #[.slice (some a) 0 c] w λe w'=>e=.returned (.slice (some ⟨w.heap.size,0,none⟩) 0 0)/\Below w.heap.size w w':=by
 have hq:=Lib.run_eql_slice_nil (P:=Tryz.prog) w 57 9 (some a) 0 c 0 0 Tryz.underlying57
 go_enter Tryz.func209,Tryz.ntmps209
 go_wp2
 all_goals go_ret
 all_goals exact⟨rfl,Below.alloc (.refl _ _) (Ae _) _⟩
theorem aNP(c:Nat)(w:World):Calls Tryz.prog 210 #[.slice none 0 c] w λe w'=>e=.returned (.slice none 0 0)/\w'=w:=by
 have hq:=run_eql_nil_slice (P:=Tryz.prog) w 71 249 none 0 0 0 c Tryz.underlying71
 go_enter Tryz.func210,Tryz.ntmps210
 go_wp2
 all_goals go_ret
 all_goals exact⟨rfl,rfl⟩
theorem aIj(a:Addr)(c:Nat)(w:World):Calls Tryz.prog 210 #[.slice (some a) 0 c] w λe w'=>e=.returned (.slice (some ⟨w.heap.size,0,none⟩) 0 0)/\Below w.heap.size w w':=by
 have hq:=Lib.run_eql_slice_nil (P:=Tryz.prog) w 71 249 (some a) 0 c 0 0 Tryz.underlying71
 go_enter Tryz.func210,Tryz.ntmps210
 go_wp2
 all_goals go_ret
 all_goals exact⟨rfl,Below.alloc (.refl _ _) (Ae _) _⟩
theorem aNQ(c:Nat)(w:World):Calls Tryz.prog 211 #[.slice none 0 c] w λe w'=>e=.returned (.slice none 0 0)/\w'=w:=by
 have hq:=run_eql_nil_slice (P:=Tryz.prog) w 58 60 none 0 0 0 c Tryz.underlying58
 go_enter Tryz.func211,Tryz.ntmps211
 go_wp2
 all_goals go_ret
 all_goals exact⟨rfl,rfl⟩
theorem aIk(a:Addr)(c:Nat)(w:World):Calls Tryz.prog 211 #[.slice (some a) 0 c] w λe w'=>e=.returned (.slice (some ⟨w.heap.size,0,none⟩) 0 0)/\Below w.heap.size w w':=by
 have hq:=Lib.run_eql_slice_nil (P:=Tryz.prog) w 58 60 (some a) 0 c 0 0 Tryz.underlying58
 go_enter Tryz.func211,Tryz.ntmps211
 go_wp2
 all_goals go_ret
 all_goals exact⟨rfl,Below.alloc (.refl _ _) (Ae _) _⟩
theorem aA4{w w':World}(h:Below w.heap.size w w'):CM.qz w w':=⟨h.size,h.block,h.os,h.tape,h.output⟩
theorem sq{f:Nat}(hn:∀(c:Nat)(w:World),Calls Tryz.prog f #[.slice none 0 c] w λe w'=>e=.returned (.slice none 0 0)/\w'=w)
  (hs:∀(a:Addr)(c:Nat)(w:World),Calls Tryz.prog f #[.slice (some a) 0 c] w λe w'=>e=.returned (.slice (some ⟨w.heap.size,0,none⟩) 0 0)/\Below w.heap.size w w') (w0:CM.cL):CM.tV Tryz.prog w0 f (.rr .e):=by
 intro w J us _ _ _ hv;obtain⟨u,us,rfl,h1,h2⟩:=hv.k6;obtain rfl:=h2.k_;cases h1 with
 |re a cap =>
  cases a with
  |none =>
   refine⟨.slice none 0 0,.re _ _,λc cs=>?_⟩;obtain⟨w',v,⟨rfl,rfl⟩,h⟩:=a1E ((hn cap w).mono (R':=λe w'=>∃v,e=.returned v/\(v=.slice none 0 0/\w'=w)) λe w' ⟨e1,e2⟩=>⟨_,e1,rfl,e2⟩) c cs;exact⟨w',⟨Ae _,λ_ _=>rfl,rfl,rfl,rfl⟩,h⟩
  |some a =>
   refine⟨.slice (some ⟨w.heap.size,0,none⟩) 0 0,.re _ _,λc cs=>?_⟩;obtain⟨w',v,⟨rfl,hb⟩,h⟩:=a1E ((hs a cap w).mono (R':=λe w'=>∃v,e=.returned v/\(v=.slice (some ⟨w.heap.size,0,none⟩) 0 0/\Below w.heap.size w w')) λe w' ⟨e1,e2⟩=>⟨_,e1,rfl,e2⟩) c cs;exact⟨w',aA4 hb,h⟩
theorem mJ{P:Program}{w w':World}{J:CM.ak}{h:CM.T CM.O}{nx:CM.Q}{r:CM.ak}(H:CM.HR P ⟨w,r⟩ J h nx w'):Below w.heap.size w w':=⟨H.os,H.tape,H.output,H.size,H.old⟩
theorem gn{s:List UInt8}{vs:Array Value}{Ψ:HT}(hl:[ae.str s].length=vs.size)(ha:∀(i:Nat) a,[ae.str s][i]?=some a->am Ψ [] a (vs.getD i undef)):vs=⟨[.string ⟨⟨s⟩⟩]⟩:=by
 obtain⟨vs⟩:=vs
 match vs,hl with
 |[v],_ =>
  have:=ha 0 _ rfl
  cases this;rfl
theorem gw(s:List UInt8)(J:CM.ak):CM.a_ J [CM.sV s] [.string ⟨⟨s⟩⟩]:=.cons (.str _ _ s rfl rfl) .nil
theorem aH5{f:Nat}{s:List UInt8}{k:IntKind}{n:Int}(hF:∃F,Tryz.prog.funcs[f]?=some F/\F.body.isSome=true)(hc:CM.pk (CM.fk Tryz.prog f)=true)(e:CM.my CM.lw 1000 (CM.qn f) [CM.sV s] (CM.qn 8)=.ok (.int k n)):kI Tryz.prog f [.str s] (.int k n):=by
 refine⟨hF,λw Ψ vs hw hl ha c cs=>?_⟩;obtain rfl:=gn hl ha;obtain⟨w',J',h',nx',u,x,h1,h2,h3,h4⟩:=CM.call26 (n:=999) hc (gw s) e w hw.kS c cs;rw[CM.a0K h4] at h3;rw[h3.kj] at h1;have hb:=mJ h2;exact⟨w',Ψ,.int k n,mR hb,fP hw hb,.int _ _,h1⟩
theorem aEK{f:Nat}{s:List UInt8}{b:Bool}(hF:∃F,Tryz.prog.funcs[f]?=some F/\F.body.isSome=true)(hc:CM.pk (CM.fk Tryz.prog f)=true)(e:CM.my CM.lw 1000 (CM.qn f) [CM.sV s] (CM.qn 8)=.ok (.bool b)):kI Tryz.prog f [.str s] (.bool b):=by
 refine⟨hF,λw Ψ vs hw hl ha c cs=>?_⟩;obtain rfl:=gn hl ha;obtain⟨w',J',h',nx',u,x,h1,h2,h3,h4⟩:=CM.call26 (n:=999) hc (gw s) e w hw.kS c cs;rw[CM.a0J h4] at h3;rw[h3.od] at h1;have hb:=mJ h2;exact⟨w',Ψ,.bool b,mR hb,fP hw hb,.bool _,h1⟩
theorem z4{w w':World}{Ψ:HT}{J:CM.ak}{h:CM.T CM.O}{nx:CM.Q}{r:CM.ak}(hw:c_ Ψ w)(H:CM.HR Tryz.prog ⟨w,r⟩ J h nx w'){l:List CM.kx}{x:CM.V}{xs:List CM.V}{u:Value}{cs res:List ae}(hx:CM.VR J (.aj (x::xs)) u)(e:CM.sN h l x=(ae.agg cs).v)(hr:xs=res.map ae.v)(B7:∀a∈res,CM.sW a.v=a.v) :
  ∃us,u=.tuple ⟨us⟩/\Fr w Ψ (λ_=>none) w' (IB Ψ w.heap.size w' 24) (λ_=>none)/\c_ (IB Ψ w.heap.size w' 24) w'/\(ae.agg cs::res).length=us.length/\∀(i:Nat) a v,(ae.agg cs::res)[i]?=some a->us[i]?=some v->am (IB Ψ w.heap.size w' 24) [] a v:=by
 have hb:=mJ H;have DX:=fP hw hb;obtain⟨us,rfl,h1⟩:=hx.xj;obtain⟨u0,us,rfl,r0,r1⟩:=h1.k6;have Hj:=aH7 (Ψ:=Ψ) H r0 e
 refine⟨_,rfl,⟨zo 24,hb.size,λb AL _=>⟨hb.block b AL,λo=>a3B 24 AL o⟩,λb hb=>absurd rfl hb,hb.os,hb.tape,hb.output⟩,a3C DX 24,by
  have:=r1.1
  rw[hr] at this;simpa using this,λi a v h5 h6=>?_⟩
 match i with
 |0=>cases h5;cases h6;exact Hj
 |i+1 =>
  have h5:res[i]?=some a:=by simpa using h5
  have h6:us[i]?=some v:=by simpa using h6
  have h7:=r1.2 i a.v v (by rw[hr,Aw,h5];rfl) h6;exact(xN (w:=w') h7 (B7 a (Be h5))).1
theorem aOY{f:Nat}{s:List UInt8}{t:ah}(hF:∃F,Tryz.prog.funcs[f]?=some F/\F.body.isSome=true)(hc:CM.pk (CM.fk Tryz.prog f)=true)(e:CM.my CM.lw 1000 (CM.qn f) [CM.sV s] (CM.qn 8)=.ok (.aj [t.enc.v,.bool true])):tX Tryz.prog f [.str s] [t.enc,.bool true]:=by
 refine⟨hF,λw Ψ vs hw hl ha c cs=>?_⟩;obtain rfl:=gn hl ha;obtain⟨w',J',h',nx',u,x,h1,h2,h3,h4⟩:=CM.call26 (n:=999) hc (gw s) e w hw.kS c cs
 have hx:∃ty,x=.aj [ty,.bool true]/\CM.sN h' (CM.ke 0) ty=t.enc.v:=by
  unfold CM.fin at h4
  split at h4
  ·simp only[CM.V.aj.injEq,Dj,Fx] at h4
   exact⟨_,by rw[h4.2],h4.1⟩
  ·simp at h4
  ·split at h4
   ·simp only[CM.V.aj.injEq] at h4
    have h5:=Dd (λl=>l[1]?) h4;simp only[Aw,Ca,Cc,Aq] at h5;obtain⟨p,_,h5⟩:=h5;cases h5
   ·cases h4
  ·cases h4
  ·cases h4
  ·cases h4
 obtain⟨ty,rfl,fc⟩:=hx;obtain⟨nm,al⟩:=t;simp only[ah.enc] at fc ⊢;obtain⟨us,rfl,g1,g2,g3,g4⟩:=z4 hw h2 (res:=[.bool true]) h3 fc rfl (by simp[ae.v,CM.sW]);exact⟨w',_,us,g1,g2,g3,g4,h1⟩
theorem a6N:tX Tryz.prog 20 [.str []] [.agg [.slice (c7.map ax.enc)],.int .i64 0,.int .i64 0]:=by
 refine⟨⟨_,Tryz.func20,by kernel_rfl⟩,λw Ψ vs hw hl ha c cs=>?_⟩;obtain rfl:=gn hl ha;obtain⟨w',J',h',nx',u,x,h1,h2,h3,h4⟩:=CM.call26 (n:=999) (g:=20) (by kernel_rfl) (gw []) CM.a6L w hw.kS c cs
 have hx:∃p,x=.aj [p,.int .i64 0,.int .i64 0]/\CM.sN h' [.l 5] p=(ae.agg [.slice (c7.map ax.enc)]).v:=by
  generalize(ae.agg [.slice (c7.map ax.enc)]).v=V at h4 ⊢;unfold CM.fin at h4
  split at h4
  ·simp at h4
  ·simp only[CM.V.aj.injEq,Dj,Fx] at h4
   exact⟨_,by rw[h4.2.1,h4.2.2],h4.1⟩
  ·split at h4
   ·simp only[CM.V.aj.injEq] at h4
    have h5:=Dd (λl=>l[1]?) h4;simp only[Aw,Ca,Cc,Aq] at h5;obtain⟨p,_,h5⟩:=h5;cases h5
   ·cases h4
  ·cases h4
  ·cases h4
  ·cases h4
 obtain⟨p,rfl,fc⟩:=hx;obtain⟨us,rfl,g1,g2,g3,g4⟩:=z4 hw h2 (res:=[.int .i64 0,.int .i64 0]) h3 fc rfl (by simp[ae.v,CM.sW]);exact⟨w',_,us,g1,g2,g3,g4,h1⟩
theorem a6M:kI Tryz.prog 6 [] (.bool true):=by
 refine⟨⟨_,Tryz.func6,by kernel_rfl⟩,λw Ψ vs hw hl ha c cs=>?_⟩;obtain rfl:vs=#[]:=Array.eq_empty_of_size_eq_zero hl.symm;obtain⟨w',J',h',nx',u,x,h1,h2,h3,h4⟩:=CM.call26 (n:=999) (g:=6) (by kernel_rfl) (λ_=>.nil) CM.a64 w hw.kS c cs;rw[CM.a0J h4] at h3;rw[h3.od] at h1;have hb:=mJ h2;exact⟨w',Ψ,.bool true,mR hb,fP hw hb,.bool _,h1⟩
theorem aSF:CM.pk (CM.fk Tryz.prog 192)=true:=by kernel_rfl
theorem aWH:CM.pk (CM.fk Tryz.prog 37)=true:=by kernel_rfl
theorem aWI:CM.pk (CM.fk Tryz.prog 46)=true:=by kernel_rfl
theorem Zj{p:List UInt8×Int}(h:p∈sE):kI Tryz.prog 192 [.str p.1] (.int .i64 p.2):=aH5 ⟨_,Tryz.func192,by kernel_rfl⟩ aSF (CM.a6l.mem p h)
theorem p37{p:List UInt8×ah}(h:p∈tO):tX Tryz.prog 37 [.str p.1] [p.2.enc,.bool true]:=aOY ⟨_,Tryz.func37,by kernel_rfl⟩ aWH (CM.a7m.mem p h)
theorem p46{p:List UInt8×ah}(h:p∈tO):kI Tryz.prog 46 [.str p.1] (.bool true):=aEK ⟨_,Tryz.func46,by kernel_rfl⟩ aWI (CM.a6K.mem p h)
end Go.Proofs.YtoiocfngjchdiaaGreatDoor
end
noncomputable section
namespace Go.AM
open Go.RowKit
inductive Trm where
 |si (n:Int)
 |ss (s:List UInt8)
 |any
 |sl (s len:Nat) (cs:List Trm)
mutual
def NX:Trm->ae->Bool
 |.si n,a=>(match a with
  |.int .i64 m=>n==m
  |_=>false)
 |.ss s,a=>(match a with
  |.str t=>s==t
  |_=>false)
 |.any,a=>a.ci
 |.sl s len cs,a=>(match a with
  |.slice xs=>Nat.ble 1 s&&Nat.beq xs.length len&&xs.all (λx=>Nat.beq x.cells.length s)&&Nw cs (xs.flatMap ae.cells)
  |_=>false)
def Nw:List Trm->List ae->Bool
 |[],al=>al.isEmpty
 |t::ts,al=>(match al with
  |[]=>false
  |a::al=>NX t a&&Nw ts al)
end
end Go.AM
end
noncomputable section
namespace Go.CM
section
open Go.AM
mutual
def Lj:Trm->T O->Q->(V->T O->Q->aa)->aa
 |.si n,h,nx,k=>k (.int .i64 n) h nx
 |.ss s,h,nx,k=>k (.str s.length (cC s)) h nx
 |.any,h,nx,k=>k (.rr .any) h nx
 |.sl s len cs,h,nx,k=>(match len with
  |0=>k (.rr .e) h nx
  |m+1=>ON cs h nx λvs h1 n1=>j8 vs 0 .nil λt=>pO (.rb ((m+1)*s) t) n1 h1 λh2=>k9 n1 λn2=>k (.rr (.sl n1 0 (m+1))) h2 n2)
def ON:List Trm->T O->Q->(List V->T O->Q->aa)->aa
 |[],h,nx,k=>k [] h nx
 |t::ts,h,nx,k=>Lj t h nx λv h1 n1=>ON ts h1 n1 λvs h2 n2=>k (v::vs) h2 n2
end
variable {P:Program}{w0:cL}{w:World}{Ψ:HT}{r:V}
theorem aNW{J:ak}{h:T O}{nx:Q}(H:HR P w0 J h nx w){q:Q}{b N:Nat}(e:J q=some (b,N))(hb:b<w0.heap.size):OO (h.ob q)=false:=by
 have:=H.obj q b N e
 generalize h.ob q=o at this;cases this<;>first|rfl|omega
theorem HR.a6G{J:ak}{h:T O}{nx:Q}(H:HR P w0 J h nx w)(hw:w0.heap.size=w.heap.size){b B n:Nat}{t:T V}{vs:List Value}{ty:TypeId}{fz:Nat×Nat}(hb:w.heap[b]?=some (.cells ⟨vs⟩ ty fz))(hn:B+n<=vs.length)
  (hx:∀(i:Nat) v,i<n->vs[B+i]?=some v->VR J (t.at i) v) (hk:∀i,i<n->ci (t.at i)=true) :
  HR P w0 (J.set nx b B) (h.put .dead (.rb n t) nx) nx.succ w/\J.le (J.set nx b B):=by
 have AL:=(An.1 hb).1;have hle:=ak.mz (b:=b) (N:=B) (H.fresh nx (Ae _));exact⟨(H.share AL (.rb n t b B vs ty fz (by omega) hb hn (λi v h1 h2=>(hx i v h1 h2).mono hle) hk) λq N' e=>⟨trivial,aNW H e (by omega)⟩).1,hle⟩
theorem a3O{b o:Nat}{v:Value}(h:w.cell? ⟨b,o,none⟩=some v):∃vs ty fz,w.heap[b]?=some (.cells ⟨vs⟩ ty fz)/\vs[o]?=some v:=by
 unfold World.cell? at h;simp only at h
 split at h<;>first|cases h|skip
 rename_i cs ty fz hc;exact⟨cs.toList,ty,fz,by simpa using hc,by simpa using h⟩
theorem a7j{xs:List ae}{s:Nat}(h:∀x∈xs,x.cells.length=s):(xs.flatMap ae.cells).length=xs.length*s/\∀(i:Nat) c,(xs.flatMap ae.cells)[i]?=some c->∃j m x,xs[j]?=some x/\x.cells[m]?=some c/\i=j*s+m:=by
 induction xs with
 |nil=>simp
 |cons x xs ih =>
  obtain⟨h1,h2⟩:=ih λy hy=>h y (by simp[hy])
  have hx:=h x (by simp);refine⟨by simp only[Eh,Bc,h1,hx,Ak,Ez];omega,λi c hc=>?_⟩;simp only[Eh] at hc;by_cases hi:i<s
  ·rw[Az (by omega)] at hc
   exact⟨0,i,x,rfl,hc,by omega⟩
  ·rw[Bm (by omega),hx] at hc
   obtain⟨j,m,y,g1,g2,g3⟩:=h2 _ _ hc;exact⟨j+1,m,y,by simpa using g1,g2,by rw[Ez];omega⟩
mutual
theorem a1l(hs:c_ Ψ w)(hw:w0.heap.size=w.heap.size):∀(t:Trm){a:ae}{u:Value}{J:ak}{h:T O}{nx:Q}{k:V->T O->Q->aa},NX t a=true->am Ψ [] a u->HR P w0 J h nx w->Lj t h nx k=.ok r ->
  ∃v J' h' nx',(∀k',Lj t h nx k'=k' v h' nx')/\k v h' nx'=.ok r/\HR P w0 J' h' nx' w/\J.le J'/\VR J' v u/\ci v=true
 |.si n,a,u,J,h,nx,k,ho,ha,H,e=>by
  simp only[NX] at ho
  split at ho
  ·obtain rfl:n=_:=by simpa using ho
   cases ha;exact⟨_,_,_,_,λ_=>rfl,e,H,ak.le_refl _,.int _ _,rfl⟩
  ·cases ho
 |.ss s,a,u,J,h,nx,k,ho,ha,H,e=>by
  simp only[NX] at ho
  split at ho
  ·obtain rfl:s=_:=by simpa using ho
   cases ha;exact⟨_,_,_,_,λ_=>rfl,e,H,ak.le_refl _,.str _ _ _ rfl rfl,rfl⟩
  ·cases ho
 |.any,a,u,J,h,nx,k,ho,ha,H,e=>⟨_,_,_,_,λ_=>rfl,e,H,ak.le_refl _,.uC _ (ha.one ho),rfl⟩
 |.sl s len cs,a,u,J,h,nx,k,ho,ha,H,e=>by
  simp only[NX] at ho
  split at ho
  case h_2=>cases ho
  rename_i xs;simp only[Ac] at ho;obtain⟨⟨⟨h0,h1⟩,h2⟩,h3⟩:=ho;have h0:=Ad h0;have h1:=Aa h1;have h2:∀x∈xs,x.cells.length=s:=λx hx=>Aa (Au.1 h2 x hx)
  cases ha with
  |slice _ a8g LA cap s' hl hc hx =>
  cases len with
  |zero =>
   simp only[Lj] at e
   have:LA=0:=by omega
   subst this;exact⟨_,_,_,_,λ_=>rfl,e,H,ak.le_refl _,.re _ _,rfl⟩
  |succ m =>
   simp only[Lj] at e;obtain⟨f1,f2⟩:=a7j h2;have BA:xs≠[]:=λe=>by rw[e] at h1;simp at h1
   obtain⟨x0,hx0⟩:∃x0,xs[0]?=some x0:=by cases xs with|nil=>exact absurd rfl BA|cons y _=>exact⟨y,rfl⟩
   obtain⟨_,b,o,rfl,_⟩:=hx 0 x0 hx0
   have CY:∀(i:Nat) c,(xs.flatMap ae.cells)[i]?=some c->∃v,w.cell? ⟨b,o+i,none⟩=some v/\am Ψ [] c v:=λi c hc=>by
    obtain⟨j,m',x,g1,g2,g3⟩:=f2 i c hc;obtain⟨q1,b',o',q2,q3⟩:=hx j x g1;simp only[Am,Addr.mk.injEq,Fx] at q2;obtain⟨rfl,rfl⟩:=q2;have JG:s'=s:=by rw[<-q1];exact h2 x (Be g1)
    subst JG;obtain⟨_,v,k1,k2⟩:=hs.sat _ _ _ (q3 m' c g2);exact⟨v,by rw[g3,<-De];exact k1,k2⟩
   obtain⟨vs,J1,Kf,n1,MX,e1,H1,R9,Lq,hk1⟩:=a3x hs hw cs (us:=(List.range (xs.flatMap ae.cells).length).map λi=>(w.cell? ⟨b,o+i,none⟩).getD Go.undef) h3 (by simp) (λi c v hc hv=>by
    have hi:=(Ab.1 hc).1;obtain⟨v',k1,k2⟩:=CY i c hc;rw[Aw,Ch hi] at hv;simp only[Bx,Am] at hv;rw[k1] at hv;simp only[Cm] at hv;subst hv;exact k2) H e
   rw[dB,c8,dC] at e1;have sw:vs.length=(m+1)*s:=by rw[Lq.1];simp[f1,h1]
   have hz:0<(m+1)*s:=Nat.mul_pos (by omega) h0;obtain⟨c0,wy⟩:∃c0,(xs.flatMap ae.cells)[0]?=some c0:=⟨_,Bv (by rw[f1,h1];omega)⟩
   obtain⟨v0,k1,_⟩:=CY 0 c0 wy;obtain⟨ws,ty,fz,b1,_⟩:=a3O k1
   have YV:∀i,i<(m+1)*s->∃v,ws[o+i]?=some v/\w.cell? ⟨b,o+i,none⟩=some v:=λi hi=>by
    obtain⟨v,g1,_⟩:=CY i _ (Bv (by rw[f1,h1];exact hi));obtain⟨ws',HY,fz',b2,b3⟩:=a3O g1;rw[b1] at b2;simp only[Am,Obj.cells.injEq,Array.mk.injEq] at b2;obtain⟨rfl,_,_⟩:=b2;exact⟨v,b3,g1⟩
   have P4:=TL.puts vs .nil
   obtain⟨H2,R8⟩:=H1.a6G hw (B:=o) (n:=(m+1)*s) (t:=dK vs 0 .nil) b1 (by
    obtain⟨v,g,_⟩:=YV ((m+1)*s-1) (by omega)
    have:=(Ab.1 g).1
    omega) (λi v hi hv=>by
    obtain⟨v',g1,g2⟩:=YV i hi;rw[hv] at g1;cases g1;rw[P4 i vs[i] (by simp[sw,hi])];refine Lq.2 i _ v (by simp[sw,hi]) ?_;rw[Aw,Ch (by rw[f1,h1];exact hi),Bx,g2];rfl) (λi hi=>by
    rw[P4 i vs[i] (by simp[sw,hi])];exact hk1 _ (Ea _))
   refine⟨_,_,_,_,λk'=>by simp only[Lj];rw[MX,dB,c8,dC],e1,H2,ak.le_trans R9 R8,?_,rfl⟩;have hlen:m+1=LA:=by rw[<-hl,h1]
   rw[hlen];exact .og _ 0 _ _ _ _ ak.nh hc
theorem a3x(hs:c_ Ψ w)(hw:w0.heap.size=w.heap.size):∀(ts:List Trm){al:List ae}{us:List Value}{J:ak}{h:T O}{nx:Q}{k:List V->T O->Q->aa},Nw ts al=true->al.length=us.length->(∀(i:Nat) c v,al[i]?=some c->us[i]?=some v->am Ψ [] c v)->HR P w0 J h nx w->ON ts h nx k=.ok r ->
  ∃vs J' h' nx',(∀k',ON ts h nx k'=k' vs h' nx')/\k vs h' nx'=.ok r/\HR P w0 J' h' nx' w/\J.le J'/\a_ J' vs us/\∀v∈vs,ci v=true
 |[],al,us,J,h,nx,k,ho,hl,ha,H,e=>by
  obtain rfl:al=[]:=by simpa[Nw] using ho
  obtain rfl:us=[]:=Cv hl.symm;exact⟨[],_,_,_,λ_=>rfl,e,H,ak.le_refl _,.nil,by simp⟩
 |t::ts,al,us,J,h,nx,k,ho,hl,ha,H,e=>by
  cases al with
  |nil=>simp[Nw] at ho
  |cons a al =>
   cases us with
   |nil=>simp at hl
   |cons u us =>
    simp only[Nw,Ac] at ho;simp only[ON] at e;obtain⟨v,J1,h1,n1,MX,e1,H1,R9,r1,c1⟩:=a1l hs hw t ho.1 (ha 0 a u rfl rfl) H e;obtain⟨vs,J2,h2,n2,a4I,e2,H2,R8,r2,c2⟩:=a3x hs hw ts ho.2 (by simpa using hl) (λi c v h1 h2=>ha (i+1) c v (by simpa using h1) (by simpa using h2)) H1 e1
    exact⟨_,_,_,_,λk'=>by simp only[ON];rw[MX,a4I],e2,H2,ak.le_trans R9 R8,.cons (r1.mono R8) r2,λx hx=>by
     rcases As.1 hx with rfl|hx
     ·exact c1
     ·exact c2 x hx⟩
end
end
def MZ:GT:=.nd 1701670739 (.nd 25705 (.nd 111 (.nd 104 (.nd 98 (.nd 97 (.leaf 1 97 (.int .i64 2)) (.leaf 1 98 (.int .i64 2))) (.nd 102 (.leaf 1 102 (.int .i64 2)) (.nd 103 (.leaf 1 103 (.int .i64 2)) (.leaf 1 104 (.int .i64 2))))) (.nd 107 (.nd 105 (.leaf 1 105 (.int .i64 2)) (.leaf 1 107 (.int .i64 2))) (.nd 108 (.leaf 1 108 (.int .i64 2)) (.nd 110 (.leaf 1 110 (.int .i64 2)) (.leaf 1 111 (.int .i64 2)))))) (.nd 118 (.nd 114 (.nd 112 (.leaf 1 112 (.int .i64 2)) (.leaf 1 114 (.int .i64 2))) (.nd 115 (.leaf 1 115 (.int .i64 2)) (.nd 116 (.leaf 1 116 (.int .i64 2)) (.leaf 1 118 (.int .i64 2))))) (.nd 122 (.nd 120 (.leaf 1 120 (.int .i64 2)) (.nd 121 (.leaf 1 121 (.int .i64 2)) (.leaf 1 122 (.int .i64 2)))) (.nd 24871 (.leaf 2 24871 (.int .i64 4)) (.nd 25127 (.leaf 2 25127 (.int .i64 4)) (.leaf 2 25705 (.int .i64 2))))))) (.nd 7367034 (.nd 6845550 (.nd 6579047 (.nd 28519 (.leaf 2 28519 (.int .i64 2)) (.leaf 3 6579047 (.int .i64 2))) (.nd 6581829 (.leaf 3 6581829 (.int .i64 3)) (.nd 6581875 (.leaf 3 6581875 (.int .i64 2)) (.leaf 3 6845550 (.int .i64 2))))) (.nd 7173491 (.nd 7104846 (.leaf 3 7104846 (.int .i64 3)) (.nd 7105633 (.leaf 3 7105633 (.int .i64 2)) (.leaf 3 7173491 (.int .i64 2)))) (.nd 7235949 (.leaf 3 7235949 (.int .i64 2)) (.nd 7364973 (.leaf 3 7364973 (.int .i64 2)) (.leaf 3 7367034 (.int .i64 2)))))) (.nd 7889261 (.nd 7630409 (.nd 7561825 (.leaf 3 7561825 (.int .i64 2)) (.leaf 3 7630409 (.int .i64 3))) (.nd 7630702 (.leaf 3 7630702 (.int .i64 2)) (.nd 7631718 (.leaf 3 7631718 (.int .i64 2)) (.leaf 3 7889261 (.int .i64 2))))) (.nd 1701147220 (.nd 7958113 (.leaf 3 7958113 (.int .i64 2)) (.nd 1701080910 (.leaf 4 1701080910 (.int .i64 3)) (.leaf 4 1701147220 (.int .i64 3)))) (.nd 1701147252 (.leaf 4 1701147252 (.int .i64 2)) (.nd 1701536116 (.leaf 4 1701536116 (.int .i64 2)) (.leaf 4 1701670739 (.int .i64 3)))))))) (.nd 499984920691 (.nd 1953720652 (.nd 1835365449 (.nd 1702195796 (.nd 1701736270 (.leaf 4 1701736270 (.int .i64 3)) (.leaf 4 1702195796 (.int .i64 3))) (.nd 1717658956 (.leaf 4 1717658956 (.int .i64 3)) (.nd 1752461154 (.leaf 4 1752461154 (.int .i64 2)) (.leaf 4 1835365449 (.int .i64 3))))) (.nd 1886351972 (.nd 1885957222 (.leaf 4 1885957222 (.int .i64 2)) (.leaf 4 1886351972 (.int .i64 2))) (.nd 1936617283 (.leaf 4 1936617283 (.int .i64 3)) (.nd 1937010249 (.leaf 4 1937010249 (.int .i64 3)) (.leaf 4 1953720652 (.int .i64 3)))))) (.nd 435845428084 (.nd 435526984050 (.nd 1953720684 (.leaf 4 1953720684 (.int .i64 2)) (.leaf 5 435526984050 (.int .i64 2))) (.nd 435527247213 (.leaf 5 435527247213 (.int .i64 2)) (.nd 435728179526 (.leaf 5 435728179526 (.int .i64 3)) (.leaf 5 435845428084 (.int .i64 2))))) (.nd 491311099750 (.nd 465541295974 (.leaf 5 465541295974 (.int .i64 2)) (.nd 482805968501 (.leaf 5 482805968501 (.int .i64 2)) (.leaf 5 491311099750 (.int .i64 2)))) (.nd 491328597872 (.leaf 5 491328597872 (.int .i64 2)) (.nd 495756604521 (.leaf 5 495756604521 (.int .i64 2)) (.leaf 5 499984920691 (.int .i64 2))))))) (.nd 125779768599917 (.nd 500152823651 (.nd 500136113005 (.nd 500136113001 (.leaf 5 500136113001 (.int .i64 2)) (.leaf 5 500136113005 (.int .i64 2))) (.nd 500136113009 (.leaf 5 500136113009 (.int .i64 2)) (.nd 500152495220 (.leaf 5 500152495220 (.int .i64 2)) (.leaf 5 500152823651 (.int .i64 2))))) (.nd 114849311188084 (.nd 110425311047777 (.leaf 6 110425311047777 (.int .i64 2)) (.nd 114849160783212 (.leaf 6 114849160783212 (.int .i64 2)) (.leaf 6 114849311188084 (.int .i64 2)))) (.nd 121424789663823 (.leaf 6 121424789663823 (.int .i64 3)) (.nd 123649615949676 (.leaf 6 123649615949676 (.int .i64 2)) (.leaf 6 125779768599917 (.int .i64 2)))))) (.nd 28555895112560483 (.nd 125780070525286 (.nd 125779869722981 (.leaf 6 125779869722981 (.int .i64 2)) (.leaf 6 125780070525286 (.int .i64 2))) (.nd 127961628831587 (.leaf 6 127961628831587 (.int .i64 2)) (.nd 128034677157481 (.leaf 6 128034677157481 (.int .i64 2)) (.leaf 7 28555895112560483 (.int .i64 2))))) (.nd 32760453145784944 (.nd 28555907813500274 (.leaf 7 28555907813500274 (.int .i64 2)) (.nd 32199620761578868 (.leaf 7 32199620761578868 (.int .i64 2)) (.leaf 7 32760453145784944 (.int .i64 2)))) (.nd 32776877352315252 (.leaf 7 32776877352315252 (.int .i64 2)) (.nd 1871507244730247308658 (.leaf 9 1871507244730247308658 (.int .i64 2)) (.leaf 9 2037169923915089338736 (.int .i64 2))))))))
end Go.CM
end
namespace Go.Proofs.YtoiocfngjchdiaaGreatDoor
open Go.AM
mutual
def aXM:ah->List Trm
 |.mk n al=>[.ss n,.sl 2 al.length (WY al)]
def WY:List ah->List Trm
 |[]=>[]
 |t::l=>aXM t++WY l
end
def aXK(c:gf):List Trm:=[.ss c.name,.sl 2 c.args.length (WY c.args)]
def aXL(d:ax):List Trm:=[.si d.kind,.ss d.t_,.sl 1 d.vars.length (d.vars.map .ss),.sl 2 d.cons.length (d.cons.flatMap aXK),.any,.any,.any,.any,.any,.any,.any,.any,.any,.any]
def TH(l:List ax):Trm:=.sl 14 l.length (l.flatMap aXL)
end Go.Proofs.YtoiocfngjchdiaaGreatDoor
