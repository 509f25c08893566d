import Derived.Test.YtoiocfngjchdiaaGreatDoorF01
import Derived.Test.YtoiocfngjchdiaaGreatDoorC06
set_option linter.all false
noncomputable section
namespace Go.CM
section
def aY7(tm:T V)(d:Option Q)(v:V):T V :=
 match d with
 |some q=>tm.put V.undef v q
 |none=>tm
theorem jA(d:Option Q)(v:V)(tm:T V)(k:T V->Res):qB d v tm k=k (aY7 tm d v):=by
 cases d<;>rfl
def Zh(ih:E9)(dk:Bool)(cs:List Fr)(v:V)(h:T O)(nx:Q):Res :=
 match cs with
 |[]=>(match dk with
  |false=>.ok (fin v h)
  |true=>.bad 99)
 |c::BT=>(match dk with
  |false=>l8 ih c BT v h nx
  |true=>(match c with
   |.mk f2 Hl H9 E5 EV .rtn=>ih f2 Hl H9 E5 EV .rtn BT h nx
   |_=>.bad 100))
def sD:List (Nat×St)->Nat->Option St
 |[],_=>none
 |(i,U)::r,id=>(match Nat.beq i id with
  |true=>some U
  |false=>sD r id)
theorem jl(id:Nat)(kn:St):∀env,vw env id kn=(sD env id).getD kn
 |[]=>rfl
 |(i,U)::r=>by
  show @Bool.rec (λ_=>St->(Nat->St->St)->Nat->St->St) _ _ (Nat.beq i id) U (vw r) id kn=_;simp only[sD];cases Nat.beq i id
  ·exact jl id kn r
  ·rfl
theorem dH(fe:Q->CF)(m:Nat)(f:Q)(dk:Bool)(rd:Option Q)(ds:List Df)(tm:T V)(k:K)(cs:List Fr)(h:T O)(nx:Q):run fe (m+1) f dk rd ds tm k cs h nx=aB fe (run fe m) f dk rd ds tm k cs h nx:=rfl
section
variable (fe:Q->CF)(r:V)
def iK(f:Q)(dk:Bool)(rd:Option Q)(cs:List Fr)(U:St)(k:K):Prop:=∀tm h nx ds,U tm ⟨h,nx,ds⟩=.ok r->∃m,run fe m f dk rd ds tm k cs h nx=.ok r
def x5(dk:Bool)(cs:List Fr)(A5:Kr):Prop:=∀v h nx,A5 v h nx=.ok r->∃m,Zh (run fe m) dk cs v h nx=.ok r
structure ef (cl:Cl):Prop where
 plain:∀fv args c cs h nx A5,x5 fe r false (c::cs) A5->cl fv args false h nx A5=.ok r->∃m,cR fe (run fe m) fv args (c::cs) h nx=.ok r
 dfd:∀g args f2 Hl H9 E5 EV cs h nx A5,x5 fe r true (.mk f2 Hl H9 E5 EV .rtn::cs) A5->cl (.fn g [] []) args true h nx A5=.ok r->∃m,fS fe (run fe m) g args true (.mk f2 Hl H9 E5 EV .rtn::cs) h nx=.ok r
def aOa(f:Q)(dk:Bool)(rd:Option Q)(cs:List Fr)(env:List (Nat×St))(k:K):Prop :=
 ∀id,(∃U k',sD env id=some U/\iK fe r f dk rd cs U k'/\∀kf kn,eJ id k kf kn=kf k')\/(sD env id=none/\∀kf kn,eJ id k kf kn=kn)
structure CxOK (f:Q) (dk:Bool) (rd:Option Q) (cs:List Fr) (cx:Cx) (k:K):Prop where
 hf:cx.f=f
 hrd:cx.rd=rd
 cl:ef fe r cx.cl
 env:aOa fe r f dk rd cs cx.env k
 kr:rd=none->iK fe r f dk rd cs cx.kr .rtn
 ky:∀l,rd=some l->∃c BT,cs=c::BT/\x5 fe r false (c::BT) cx.ky
 dk:dk=true->∃f2 Hl H9 E5 EV BT,cs=.mk f2 Hl H9 E5 EV .rtn::BT
def ej(c:C)(o:Op):Prop:=∀f dk rd cs cx k U,CxOK fe r f dk rd cs cx k->iK fe r f dk rd cs U k->iK fe r f dk rd cs (o cx U) (.code c k)
def LOK(l:List PS)(o:Op):Prop:=∀f dk rd cs cx k U,CxOK fe r f dk rd cs cx k->iK fe r f dk rd cs U k->iK fe r f dk rd cs (o cx U) (.reg l k)
def Rq(p:PS)(o:Op):Prop:=∀f dk rd cs cx k U l,CxOK fe r f dk rd cs cx k->iK fe r f dk rd cs U (.reg l k)->iK fe r f dk rd cs (o cx U) (.reg (p::l) k)
def x6(b:OB)(dst:Option Q)(o:Op):Prop:=∀f dk rd cs cx k U l g,CxOK fe r f dk rd cs cx k->iK fe r f dk rd cs U (.reg l k) ->
 ∀tm h nx ds,o cx U tm ⟨h,nx,ds⟩=.ok r->∃m,GI fe (run fe m) f dk rd ds tm dst b l (.op (.mk dst g b)::l) k cs h nx=.ok r
end
variable {fe:Q->CF}{r:V}{f:Q}{dk:Bool}{rd:Option Q}{cs:List Fr}{cx:Cx}{k k':K}{U:St}{env:List (Nat×St)}{l:Q}{c:Fr}
theorem CxOK.to(C:CxOK fe r f dk rd cs cx k)(h:∀id kf kn,eJ id k' kf kn=eJ id k kf kn):CxOK fe r f dk rd cs cx k' :=
 ⟨C.hf,C.hrd,C.cl,λid=>by
  rcases C.env id with⟨U,k1,h1,h2,h3⟩|⟨h1,h2⟩
  ·exact .inl ⟨U,k1,h1,h2,λkf kn=>(h id kf kn).trans (h3 kf kn)⟩
  ·exact .inr ⟨h1,λkf kn=>(h id kf kn).trans (h2 kf kn)⟩,C.kr,C.ky,C.dk⟩
theorem au{j:Jump}{st:Nat}{b:Bool}{ky:Kr}{h:T O}{nx:Q}{ds:List Df}(A7:st=match b with|true=>0|false=>2)(hk:x5 fe r false (c::cs) ky)(e:zo l j st b ky ⟨h,nx,ds⟩=.ok r):∃m,fw (run fe m) l j b (c::cs) h nx=.ok r:=by
 have e':GB l h (λob=>n0 ob λ_ _ fn tm params BV body B8=>EU l (.loop (.mk st j fn tm params BV body B8)) h λh'=>ky (.bool b) h' nx)=.ok r:=e;simp only[fU,bV,mE,hJ,cT] at e';obtain⟨AY,pend,fn,tm,ps,BV,body,B8,ho,e1⟩:=e8 e';obtain⟨m,hm⟩:=hk _ _ _ e1;refine⟨m,?_⟩;simp only[fw,bV,ho,lM,cT];subst A7;exact hm
theorem fy(C:CxOK fe r f dk rd cs cx k)(id:Nat):iK fe r f dk rd cs (Vf cx id) (.code (.exit id) k):=by
 intro tm h nx ds e;obtain⟨cl,f',JJ,env,kr,ky⟩:=cx;have hrd:=C.hrd;simp only at hrd;subst hrd;have e':vw env id (@Option.rec Q (λ_=>Nat->Kr->St) Y9 aJe JJ id ky) tm ⟨h,nx,ds⟩=.ok r:=e;rw[jl] at e';rcases C.env id with⟨U,k1,h1,h2,h3⟩|⟨h1,h2⟩
 ·simp only at h1
  rw[h1] at e';obtain⟨m,hm⟩:=h2 tm h nx ds e';refine⟨m+1,?_⟩;show eJ id k _ _=.ok r;rw[h3];exact hm
 ·simp only at h1
  rw[h1] at e';cases JJ with
  |none=>cases e'
  |some l =>
   obtain⟨c,BT,rfl,hk⟩:=C.ky l rfl;obtain⟨m,hm⟩:=au (st:=2) (b:=false) (ds:=ds) rfl hk e';refine⟨m+1,?_⟩;show eJ id k _ _=.ok r;rw[h2];exact hm
theorem xn(C:CxOK fe r f dk rd cs cx k):iK fe r f dk rd cs (UX cx) (.code .ret k):=by
 intro tm h nx ds e;obtain⟨cl,f',JJ,env,kr,ky⟩:=cx;have hrd:=C.hrd;simp only at hrd;subst hrd;cases JJ with
 |none =>
  obtain⟨m,hm⟩:=C.kr rfl tm h nx ds e;exact⟨m+1,hm⟩
 |some l =>
  obtain⟨c,BT,rfl,hk⟩:=C.ky l rfl;obtain⟨m,hm⟩:=au (st:=2) (b:=false) (ds:=ds) rfl hk e;exact⟨m+1,hm⟩
section
variable {dst:Option Q}
theorem aMK{b:PB}{p:Pg}{d:Dt}(hp:DW p b)(hd:JF d dst):x6 fe r (.p b) dst (Ws p d):=by
 intro f dk rd cs cx k U l g C hκ tm h nx ds e;have e':p tm h (λv=>d v tm λtm'=>U tm' ⟨h,nx,ds⟩)=.ok r:=e;rw[hp] at e';obtain⟨v,h1,h2⟩:=pZ e';rw[hd,jA] at h2;obtain⟨m,hm⟩:=hκ _ _ _ _ h2;refine⟨m,?_⟩;simp only[GI];rw[qo,h1];simp only[aT,jA];exact hm
theorem aMH{b:AB}{a:Ag}{d:Dt}(ha:Mp a b)(hd:JF d dst):x6 fe r (.a b) dst (Ww a d):=by
 intro f dk rd cs cx k U l g C hκ tm h nx ds e;have e':a tm (λob mk=>EU nx ob h λh'=>d (mk nx) tm λtm'=>Hp nx λnx'=>U tm' ⟨h',nx',ds⟩)=.ok r:=e;rw[ha] at e';obtain⟨ob,mk,h1,h2⟩:=eo e';simp only[hJ,cT,hd _ _ _,jA,rV,cY] at h2;obtain⟨m,hm⟩:=hκ _ _ _ _ h2;refine⟨m,?_⟩;simp only[GI];rw[h1];simp only[cT,jA,cY];exact hm
theorem aML{b:WB}{w:Wg}{d:Dt}(hw:Mn w b)(hd:JF d dst):x6 fe r (.w b) dst (Wr w d):=by
 intro f dk rd cs cx k U l g C hκ tm h nx ds e;have e':w tm h nx (λv h' nx'=>d v tm λtm'=>U tm' ⟨h',nx',ds⟩)=.ok r:=e;rw[hw] at e';obtain⟨v,h',nx',h1,h2⟩:=aEH e';rw[hd,jA] at h1;obtain⟨m,hm⟩:=hκ _ _ _ _ h1;refine⟨m,?_⟩;simp only[GI,h2,jA];exact hm
theorem vh{d:Dt}{ob:OB}{g:Option (Q×Bool)}{l:List PS}{tm:T V}{ds:List Df}(hd:JF d dst)(hκ:iK fe r f dk rd cs U (.reg l k)) :
  x5 fe r false (.mk f dk rd ds tm (.reg (.op (.mk dst g ob)::l) k)::cs) λv h' nx'=>d v tm λtm'=>U tm' ⟨h',nx',ds⟩:=by
 intro v h nx e;have e:d v tm (λtm'=>U tm' ⟨h,nx,ds⟩)=.ok r:=e;rw[hd,jA] at e;obtain⟨m,hm⟩:=hκ _ _ _ _ e;refine⟨m,?_⟩;simp only[Zh,l8,jA];exact hm
theorem aq(cx:Cx):sO cx=cx.cl:=by cases cx;rfl
theorem aAB{x:X}{xs:List X}{g:Xg}{gs:Xs}{d:Dt}(hx:B2 g x)(E0:zT gs xs)(hd:JF d dst):x6 fe r (.call x xs) dst (aDm g gs d):=by
 intro f dk rd cs cx k U l gg C hκ tm h nx ds e;have e':g tm (λfv=>gs tm λvs=>sO cx fv vs false h nx λv h' nx'=>d v tm λtm'=>U tm' ⟨h',nx',ds⟩)=.ok r:=e;rw[hx] at e';obtain⟨fv,h1,h2⟩:=mV e';rw[E0] at h1;obtain⟨vs,h3,h4⟩:=r4 h1;rw[aq] at h3;obtain⟨m,hm⟩:=C.cl.plain _ _ (.mk f dk rd ds tm (.reg (.op (.mk dst gg (.call x xs))::l) k)) cs _ _ _ (vh hd hκ) h3;refine⟨m,?_⟩;simp only[GI,h2,h4];exact hm
theorem jq(t:Nat)(k:Q->Res):∀ms,wg ms t k=pQ t ms k
 |[]=>rfl
 |(u,f)::ms=>by
  show IL (Nat.beq u t) (k f) (wg ms t k)=_;rw[kS,jq t k ms];simp only[pQ];cases Nat.beq u t<;>rfl
theorem lu(t:Nat):∀ms,Tot (pQ t ms)
 |[]=>.bad _
 |(u,f)::ms=>by
  simp only[show pQ t ((u,f)::ms)=λk=>(match Nat.beq u t with|true=>k f|false=>pQ t ms k) from rfl];cases Nat.beq u t
  ·exact lu t ms
  ·exact .ret f
theorem aHB{v:V}{kk:Nat->V->Res}(e:U3 v kk=.ok r):∃t u,v=.ifc t u/\kk t u=.ok r:=by
 cases v<;>first|(cases e;done)|exact⟨_,_,rfl,e⟩
theorem aDp{ms:List (Nat×Q)}{x:X}{xs:List X}{g:Xg}{gs:Xs}{d:Dt}(hx:B2 g x)(E0:zT gs xs)(hd:JF d dst):x6 fe r (.inv ms x xs) dst (Zs ms g gs d):=by
 intro f dk rd cs cx k U l gg C hκ tm h nx ds e;have e':g tm (λv=>gs tm λvs=>U3 v λt u=>wg ms t λf=>sO cx (.fn f [] []) (u::vs) false h nx λv h' nx'=>d v tm λtm'=>U tm' ⟨h',nx',ds⟩)=.ok r:=e;rw[hx] at e';obtain⟨v,h1,h2⟩:=mV e';rw[E0] at h1;obtain⟨vs,h3,h4⟩:=r4 h1;obtain⟨t,u,rfl,h5⟩:=aHB h3;rw[jq] at h5;rcases lu t ms with⟨q,h6⟩|⟨n,h6⟩
 ·rw[h6,aq] at h5
  obtain⟨m,hm⟩:=C.cl.plain _ _ (.mk f dk rd ds tm (.reg (.op (.mk dst gg (.inv ms x xs))::l) k)) cs _ _ _ (vh hd hκ) h5;refine⟨m,?_⟩;simp only[GI,h2,h4,Uz,h6];exact hm
 ·rw[h6] at h5;cases h5
theorem aDo{x:X}{xs:List X}{g:Xg}{gs:Xs}{d:Dt}(hx:B2 g x)(E0:zT gs xs)(hd:JF d dst):x6 fe r (.dfr x xs) dst (V7 g gs d):=by
 intro f dk rd cs cx k U l gg C hκ tm h nx ds e;simp only[V7,C.hrd] at e;cases rd with
 |some l=>cases e
 |none =>
  simp only at e;rw[hx] at e;obtain⟨fv,h1,h2⟩:=mV e;rw[E0] at h1;obtain⟨vs,h3,h4⟩:=r4 h1
  split at h3
  ·rename_i q fs caps
   simp only[eN,hd _ _ _,jA] at h3;obtain⟨m,hm⟩:=hκ _ _ _ _ h3;refine⟨m,?_⟩;simp only[GI,h2,h4,eN,jA];exact hm
  ·cases h3
theorem aDr{d:Dt}(hd:JF d dst):x6 fe r .rcv dst (V6 d):=by
 intro f dk rd cs cx k U l gg C hκ tm h nx ds e;simp only[V6,C.hrd] at e;cases rd with
 |some l=>cases e
 |none =>
  simp only[hd _ _ _,jA] at e;obtain⟨m,hm⟩:=hκ _ _ _ _ e;refine⟨m,?_⟩;simp only[GI,Pw,jA];cases dk with
  |false=>exact hm
  |true =>
   obtain⟨f2,Hl,H9,E5,EV,BT,rfl⟩:=C.dk rfl;exact hm
theorem aKC{d:Dt}(hd:JF d dst)(b:OB):Gd (λo:Op=>x6 fe r b dst o) (X9 b d):=by
 cases b with
 |p b=>exact(aI9 b).bind λ_ h=>.ret (aMK h hd)
 |a b=>exact(aRW b).bind λ_ h=>.ret (aMH h hd)
 |w b=>exact(aR4 b).bind λ_ h=>.ret (aML h hd)
 |call x xs=>exact(bS x).bind λ_ h=>(qY xs).bind λ_ h1=>.ret (aAB h h1 hd)
 |inv ms x xs=>exact(bS x).bind λ_ h=>(qY xs).bind λ_ h1=>.ret (aDp h h1 hd)
 |dfr x xs=>exact(bS x).bind λ_ h=>(qY xs).bind λ_ h1=>.ret (aDo h h1 hd)
 |rcv=>exact .ret (aDr hd)
end
theorem aSH{dst:Option Q}{b:OB}{o:Op}(h:x6 fe r b dst o):Rq fe r (.op (.mk dst none b)) o:=by
 intro f dk rd cs cx k U l C hκ tm h' nx ds e;obtain⟨m,hm⟩:=h f dk rd cs cx k U l none C hκ tm h' nx ds e;exact⟨m+1,hm⟩
theorem zQ{v:V}{w:Bool}{go skip:St}{tm:T V}{s:S}(e:xQ v w go skip tm s=.ok r) :
  (∃t,v=.bool t/\(t==w)=true/\go tm s=.ok r)\/(((∃t,v=.bool t/\(t==w)=false)\/v=.tup [])/\skip tm s=.ok r):=by
 cases v<;>try(cases e;done)
 ·rename_i t
  have e':tn t w go skip tm s=.ok r:=e
  cases t<;>cases w<;>first
   |exact .inl ⟨_,rfl,rfl,e'⟩
   |exact .inr ⟨.inl ⟨_,rfl,rfl⟩,e'⟩
 ·rename_i vs
  cases vs
  ·exact .inr ⟨.inr rfl,e⟩
  ·cases e
theorem aMJ{dst:Option Q}{q:Q}{w:Bool}{b:OB}{g:Xg}{o:Op}{d:Dt}(hg:B2 g (.t q))(h:x6 fe r b dst o)(hd:JF d dst):Rq fe r (.op (.mk dst (some (q,w)) b)) (S0 g w o d):=by
 intro f dk rd cs cx k U l C hκ tm h' nx ds e;have e':g tm (λv=>xQ v w (o cx U) (λtm s=>d V.undef tm λtm'=>U tm' s) tm ⟨h',nx,ds⟩)=.ok r:=e;rw[hg] at e';simp only[xK,dD] at e';rcases zQ e' with⟨t,hv,ht,e1⟩|⟨hv,e1⟩
 ·obtain⟨m,hm⟩:=h f dk rd cs cx k U l (some (q,w)) C hκ tm h' nx ds e1
  refine⟨m+1,?_⟩;show kF fe (run fe m) f dk rd ds tm (.op (.mk dst (some (q,w)) b)::l) k cs h' nx=.ok r;simp only[kF,dD,hv,ht];exact hm
 ·simp only[hd _ _ _,jA] at e1
  obtain⟨m,hm⟩:=hκ _ _ _ _ e1;refine⟨m+1,?_⟩;show kF fe (run fe m) f dk rd ds tm (.op (.mk dst (some (q,w)) b)::l) k cs h' nx=.ok r;rcases hv with⟨t,hv,ht⟩|hv
  ·simp only[kF,dD,hv,ht,jA];exact hm
  ·simp only[kF,dD,hv,jA];exact hm
theorem aKz(o:CO):Gd (λg:Op=>Rq fe r (.op o) g) (Xa o):=by
 obtain⟨dst,g,b⟩:=o;refine(aFu dst).bind λd hd=>(aKC (fe:=fe) (r:=r) hd b).bind λo ho=>?_
 cases g with
 |none=>exact .ret (aSH ho)
 |some qw=>exact(zV qw.1).bind (f:=λg k=>k (S0 g qw.2 o d)) λg hg=>.ret (aMJ hg ho hd)
theorem tw{p:PB}{q:Q}{l:List PS}{tm:T V}{h:T O}{nx:Q}{ds:List Df}{pg:Pg}{rg:Xg}(hp:DW pg p)(hr:B2 rg (.t q))(hκ:iK fe r f dk rd cs U (.reg l k))(e:pT pg rg cx U tm ⟨h,nx,ds⟩=.ok r) :
  ∃m,pK p tm h (λv=>gV q tm λu=>gd (Lm v u) 93 (run fe m f dk rd ds tm (.reg l k) cs h nx))=.ok r:=by
 have e':pg tm h (λv=>rg tm λu=>CX (Lm v u) 93 (U tm ⟨h,nx,ds⟩))=.ok r:=e;rw[hp] at e';obtain⟨v,h1,h2⟩:=pZ e';rw[hr] at h2;simp only[xK,dD,cK] at h2;obtain⟨h3,h4⟩:=bP h2;obtain⟨m,hm⟩:=hκ _ _ _ _ h4;refine⟨m,?_⟩;rw[qo,h1];simp only[aT,dD,h3,gd];exact hm
theorem aKD(p:PS):Gd (λg:Op=>Rq fe r p g) (X8 p):=by
 cases p with
 |op o=>exact aKz o
 |chk g p q =>
  refine(aI9 p).bind (f:=λpg k=>zU q λr=>@Option.rec (Q×Bool) (λ_=>D) (k (pT pg r)) (λqw=>@Prod.rec Q Bool (λ_=>D) (λq w=>zU q λg=>k (cr g w (pT pg r))) qw) g) λpg hp=>(zV q).bind (f:=λr k=>@Option.rec (Q×Bool) (λ_=>D) (k (pT pg r)) (λqw=>@Prod.rec Q Bool (λ_=>D) (λq w=>zU q λg=>k (cr g w (pT pg r))) qw) g) λrg hr=>?_
  cases g with
  |none =>
   refine .ret ?_;intro f dk rd cs cx k U l C hκ tm h nx ds e;obtain⟨m,hm⟩:=tw hp hr hκ e;exact⟨m+1,hm⟩
  |some qw =>
   refine(zV qw.1).bind (f:=λg k=>k (cr g qw.2 (pT pg rg))) λg hg=>.ret ?_
   intro f dk rd cs cx k U l C hκ tm h nx ds e;have e':g tm (λv=>xQ v qw.2 (pT pg rg cx U) U tm ⟨h,nx,ds⟩)=.ok r:=e;rw[hg] at e';simp only[xK,dD] at e';rcases zQ e' with⟨t,hv,ht,e1⟩|⟨hv,e1⟩
   ·obtain⟨m,hm⟩:=tw hp hr hκ e1
    refine⟨m+1,?_⟩;show kF fe (run fe m) f dk rd ds tm (.chk (some qw) p q::l) k cs h nx=.ok r;simp only[kF,dD,hv,ht];simp only[dD] at hm;exact hm
   ·obtain⟨m,hm⟩:=hκ _ _ _ _ e1
    refine⟨m+1,?_⟩;show kF fe (run fe m) f dk rd ds tm (.chk (some qw) p q::l) k cs h nx=.ok r;rcases hv with⟨t,hv,ht⟩|hv
    ·simp only[kF,dD,hv,ht];exact hm
    ·simp only[kF,dD,hv];exact hm
theorem aI7:∀l:List PS,Gd (λg:Op=>LOK fe r l g) (cL l)
 |[]=>.ret λf dk rd cs cx k U C hκ tm h nx ds e=>by
  obtain⟨m,hm⟩:=hκ _ _ _ _ e;exact⟨m+1,hm⟩
 |p::l=>(aKD p).bind λo ho=>(aI7 l).bind λo' E7=>.ret λf dk rd cs cx k U C hκ=>ho f dk rd cs cx k (o' cx U) l C (E7 f dk rd cs cx k U C hκ)
end
section
variable {fe:Q->CF}{r:V}{f:Q}{dk:Bool}{rd:Option Q}{cs:List Fr}{cx:Cx}{k k':K}{U:St}{env:List (Nat×St)}{l:Q}{c:Fr}
theorem pn(id i:Nat)(U:St)(env:List (Nat×St)):sD ((i,U)::env) id=match Nat.beq i id with|true=>some U|false=>sD env id:=by
 simp only[sD]<;>(cases Nat.beq i id<;>rfl)
theorem CxOK.push(C:CxOK fe r f dk rd cs cx k)(hκ:iK fe r f dk rd cs U k)(id:Nat):CxOK fe r f dk rd cs ⟨cx.cl,cx.f,cx.rd,(id,U)::cx.env,cx.kr,cx.ky⟩ (.blk id k) :=
 ⟨C.hf,C.hrd,C.cl,λi=>by
  simp only[pn,eJ];cases hb:Nat.beq id i
  ·simp only
   exact C.env i
  ·exact .inl ⟨U,k,rfl,hκ,λ_ _=>rfl⟩,C.kr,C.ky,C.dk⟩
theorem aMI(id:Nat)(o:Op)(cx:Cx)(U:St):Wv id o cx U=o ⟨cx.cl,cx.f,cx.rd,(id,U)::cx.env,cx.kr,cx.ky⟩ U:=by cases cx;rfl
theorem aEt{v:V}{a b:St}{tm:T V}{s:S}(e:VX v a b tm s=.ok r):∃t,v=.bool t/\(match t with|true=>a|false=>b) tm s=.ok r:=by
 cases v<;>try(cases e;done)
 rename_i t;refine⟨t,rfl,?_⟩;cases t<;>exact e
theorem aG5{pend:Jump}(C:CxOK fe r f dk rd cs cx k)(hκ:iK fe r f dk rd cs U k){tm:T V}{h:T O}{nx:Q}{ds:List Df}(e:Zm pend cx U tm ⟨h,nx,ds⟩=.ok r) :
  ∃m,(match pend with
   |.none=>run fe m f dk rd ds tm k cs h nx
   |.ret=>run fe m f dk rd ds tm (.code .ret k) cs h nx
   |.exit id=>run fe m f dk rd ds tm (.code (.exit id) k) cs h nx)=.ok r:=by
 cases pend with
 |none=>exact hκ _ _ _ _ e
 |ret=>exact xn C _ _ _ _ e
 |exit id=>exact fy C id _ _ _ _ e
theorem uk(C:CxOK fe r f dk rd cs cx k)(hκ:iK fe r f dk rd cs U k){tm:T V}{h:T O}{nx:Q}{ds:List Df}(e:fx cx l U tm h nx ds=.ok r):∃m,run fe m f dk rd ds tm (.erf l k) cs h nx=.ok r:=by
 unfold fx at e;simp only[fU,bV,mE,cK,nE,hJ,cT] at e;obtain⟨st,pend,fn,tm',ps,BV,body,B8,ho,e1⟩:=e8 e;obtain⟨h1,e2⟩:=bP e1;obtain⟨m,hm⟩:=aG5 C hκ e2;refine⟨m+1,?_⟩;have h2:Nat.beq st 1=false:=by simpa using h1
 simp only[dH,aB,bV,ho,lM,cT,h2,Bool.not_false,gd];cases pend<;>exact hm
theorem aNo{x:X}{g:Xg}{ps:List Q}{BV body:C}(hx:B2 g x):ej fe r (.rf x ps BV body) (Wk g ps BV body):=by
 intro f dk rd cs cx k U C hκ tm h nx ds e
 have e':g tm (λfv=>Nu fv (λg fs caps=>@Option.rec Q (λ_=>Res)
   (Hp nx λn1=>qU fs (.yld n1::caps) λargs=>EU nx (.dfd false) h λh1=>EU n1 (.loop (.mk 0 .none cx.f tm ps BV body nx)) h1 λh2=>Hp n1 λn2 =>
     sO cx (.fn g [] []) args false h2 n2 λ_ h nx'=>fx cx n1 U tm h nx' (.coll nx::ds))
   (λl=>qU fs (.yld nx::caps) λargs=>GB l h λob=>n0 ob λ_ _ _ _ _ _ _ B8=>EU nx (.loop (.mk 0 .none cx.f tm ps BV body B8)) h λh2=>Hp nx λn2 =>
     sO cx (.fn g [] []) args false h2 n2 λ_ h nx'=>fx cx nx U tm h nx' ds) cx.rd)
  (λ_=>.bad 95))=.ok r:=e
 rw[hx] at e';obtain⟨fv,e1,Hg⟩:=mV e';cases fv<;>try(cases e1;done)
 rename_i q fs caps
 have CP:∀{args:List V}{c:Fr}{cs:List Fr}{h:T O}{nx:Q}{A5:Kr},x5 fe r false (c::cs) A5->sO cx (.fn q [] []) args false h nx A5=.ok r->∃m,fS fe (run fe m) q args false (c::cs) h nx=.ok r:=λhk e0=>by
  rw[aq] at e0;obtain⟨m,hm⟩:=C.cl.plain _ _ _ _ _ _ _ hk e0;refine⟨m,?_⟩;have NA:sL _ [] (λl=>sL [] l λl=>fS fe (run fe m) q l false _ _ _)=.ok r:=hm;simpa only[eN,Ao,Ak] using NA
 cases rd with
 |none =>
  have e2:(Hp nx λn1=>qU fs (.yld n1::caps) λargs=>EU nx (.dfd false) h λh1=>EU n1 (.loop (.mk 0 .none cx.f tm ps BV body nx)) h1 λh2=>Hp n1 λn2 =>
     sO cx (.fn q [] []) args false h2 n2 λ_ h nx'=>fx cx n1 U tm h nx' (.coll nx::ds))=.ok r:=by
   have:Nu (.fn q fs caps) _ _=.ok r:=e1
   rw[C.hrd] at this;exact this
  simp only[rV,cY,oX,hJ,cT,C.hf] at e2
  obtain⟨m,hm⟩:=CP (c:=.mk f dk none (.coll nx::ds) tm (.inrf nx.succ k)) (cs:=cs) (λv h' nx' e0=>by
   obtain⟨m,hm⟩:=uk C hκ e0;exact⟨m,hm⟩) e2
  refine⟨m+1,?_⟩;simp only[dH,aB,lJ,Hg,eN,cT,cY];exact hm
 |some l =>
  have e2:(qU fs (.yld nx::caps) λargs=>GB l h λob=>n0 ob λ_ _ _ _ _ _ _ B8=>EU nx (.loop (.mk 0 .none cx.f tm ps BV body B8)) h λh2=>Hp nx λn2 =>
     sO cx (.fn q [] []) args false h2 n2 λ_ h nx'=>fx cx nx U tm h nx' ds)=.ok r:=by
   have:Nu (.fn q fs caps) _ _=.ok r:=e1
   rw[C.hrd] at this;exact this
  simp only[oX,fU,bV,mE] at e2;obtain⟨st,pend,fn,tm',Wn,Pm,GQ,B8,ho,e3⟩:=e8 e2;simp only[hJ,cT,rV,cY,C.hf] at e3
  obtain⟨m,hm⟩:=CP (c:=.mk f dk (some l) ds tm (.inrf nx k)) (cs:=cs) (λv h' nx' e0=>by
   obtain⟨m,hm⟩:=uk C hκ e0;exact⟨m,hm⟩) e3
  refine⟨m+1,?_⟩;simp only[dH,aB,lJ,Hg,eN,bV,ho,lM,cT,cY];exact hm
theorem aRY(cd:C):Gd (λo:Op=>ej fe r cd o) (cC cd):=by
 induction cd with
 |skip =>
  exact .ret λf dk rd cs cx k U C hκ tm h nx ds e=>by
   obtain⟨m,hm⟩:=hκ _ _ _ _ e;exact⟨m+1,hm⟩
 |reg l =>
  exact(aI7 (fe:=fe) (r:=r) l).bind (f:=λo k=>k o) λo ho=>.ret λf dk rd cs cx k U C hκ tm h nx ds e=>by
   obtain⟨m,hm⟩:=ho f dk rd cs cx k U C hκ _ _ _ _ e;exact⟨m+1,hm⟩
 |seq a b Hv Hu =>
  exact Hv.bind λo ho=>Hu.bind λo' E7=>.ret λf dk rd cs cx k U C hκ tm h nx ds e=>by
   obtain⟨m,hm⟩:=ho f dk rd cs cx (.code b k) (o' cx U) (C.to λ_ _ _=>rfl) (E7 f dk rd cs cx k U C hκ) _ _ _ _ e;exact⟨m+1,hm⟩
 |cond x a b Hv Hu =>
  exact(bS x).bind λg hg=>Hv.bind λo ho=>Hu.bind λo' E7=>.ret λf dk rd cs cx k U C hκ tm h nx ds e=>by
   have e':g tm (λv=>VX v (o cx U) (o' cx U) tm ⟨h,nx,ds⟩)=.ok r:=e;rw[hg] at e';obtain⟨v,e1,hv⟩:=mV e';obtain⟨t,rfl,e2⟩:=aEt e1;cases t with
   |true =>
    obtain⟨m,hm⟩:=ho f dk rd cs cx k U C hκ _ _ _ _ e2;refine⟨m+1,?_⟩;simp only[dH,aB,lJ,hv,Ji];exact hm
   |false =>
    obtain⟨m,hm⟩:=E7 f dk rd cs cx k U C hκ _ _ _ _ e2;refine⟨m+1,?_⟩;simp only[dH,aB,lJ,hv,Ji];exact hm
 |block id a ih =>
  exact ih.bind λo ho=>.ret λf dk rd cs cx k U C hκ tm h nx ds e=>by
   rw[aMI] at e
   have Tq:iK fe r f dk rd cs U (.blk id k):=λtm h nx ds e0=>by
    obtain⟨m,hm⟩:=hκ _ _ _ _ e0;exact⟨m+1,hm⟩
   obtain⟨m,hm⟩:=ho f dk rd cs _ (.blk id k) U (C.push hκ id) Tq _ _ _ _ e;exact⟨m+1,hm⟩
 |loop a ih =>
  exact ih.bind λo ho=>.ret λf dk rd cs cx k U C hκ tm h nx ds e=>by
   have hl:∀n,iK fe r f dk rd cs (@Nat.rec (λ_=>St) dZ (λ_ again=>o cx again) n) (.lp a k):=λn=>by
    induction n with
    |zero=>intro tm h nx ds e0;cases e0
    |succ n ihn =>
     intro tm h nx ds e0;obtain⟨m,hm⟩:=ho f dk rd cs cx (.lp a k) _ (C.to λ_ _ _=>rfl) ihn _ _ _ _ e0;exact⟨m+1,hm⟩
   obtain⟨m,hm⟩:=hl 1000000 _ _ _ _ e;cases m with
   |zero=>cases hm
   |succ m=>exact⟨m+1,hm⟩
 |rf x ps BV body _ _ =>
  exact(bS x).bind λg hg=>.ret (aNo hg)
 |exit id =>
  exact .ret λf dk rd cs cx k U C hκ=>fy C id
 |scope a ih =>
  exact ih.bind (f:=λo k=>k o) λo ho=>.ret λf dk rd cs cx k U C hκ tm h nx ds e=>by
   have Tq:iK fe r f dk rd cs U (.sc k):=λtm h nx ds e0=>by
    obtain⟨m,hm⟩:=hκ _ _ _ _ e0;exact⟨m+1,hm⟩
   obtain⟨m,hm⟩:=ho f dk rd cs cx (.sc k) U (C.to λ_ _ _=>rfl) Tq _ _ _ _ e;exact⟨m+1,hm⟩
 |ret =>
  exact .ret λf dk rd cs cx k U C hκ=>xn C
 |bad =>
  exact .ret λf dk rd cs cx k U C hκ tm h nx ds e=>by cases e
theorem de(cd:C):ej fe r cd (kj (Jl cd)):=by
 rcases aRY (fe:=fe) (r:=r) cd with⟨o,ho,h⟩|h
 ·have:Jl cd=⟨o⟩:=h D.mk
  rw[this];exact ho
 ·have:Jl cd=⟨mK⟩:=h D.mk
  rw[this];intro f dk rd cs cx k U C hκ tm h nx ds e;cases e
theorem uE(tm:T V)(h:T O):∀(rs:List RV)(k:List V->Res),N6 rs tm h k=fL tm h rs k
 |[],k=>rfl
 |.t q::rs,k=>by
  show Ll q tm (λv=>N6 rs tm h λl=>k (v::l))=_;rw[bg];simp only[fL,uE tm h rs]
 |.cell agg n q::rs,k=>by
  show Ll q tm (λp=>vP p λo off=>@Bool.rec (λ_=>Res) (OJ h o off λv=>N6 rs tm h λl'=>k (v::l')) (NX h o off n λl=>N6 rs tm h λl'=>k (.agg l::l')) agg)=_;rw[bg];simp only[fL,V3];congr 1;funext p;congr 1;funext o off;cases agg
  ·simp only[aC2,uE tm h rs]
  ·simp only[bt,uE tm h rs]
theorem aGD(l:List V)(k:V->Res):Uj l k=k (Rf l):=by
 cases l with
 |nil=>rfl
 |cons v l=>cases l<;>rfl
theorem k7{tm:T V}{h:T O}:∀{rs:List RV}{k:List V->Res},fL tm h rs k=.ok r->∃vs,k vs=.ok r/\∀k',fL tm h rs k'=k' vs
 |[],k,e=>⟨[],e,λ_=>rfl⟩
 |.t q::rs,k,e=>by
  simp only[fL,dD] at e;obtain⟨vs,h1,h2⟩:=k7 e;exact⟨_::vs,h1,λk'=>by simp only[fL,dD,h2]⟩
 |.cell agg n q::rs,k,e=>by
  simp only[fL,dD] at e;obtain⟨o,off,hp,e1⟩:=zY e;cases agg with
  |true =>
   simp only at e1;rcases yb h o off n with⟨l,hl⟩|⟨b,hl⟩
   ·rw[hl] at e1
    obtain⟨vs,h1,h2⟩:=k7 e1;exact⟨_,h1,λk'=>by simp only[fL,dD,hp,KG,hl,h2]⟩
   ·rw[hl] at e1;cases e1
  |false =>
   simp only at e1;rcases(show Tot (JM h o off) from(lG o h).bind λob=>(yf ob).bind λn t=>(eE (Nat.blt off n) 46).bind (Ψ:=λk=>JK off λq=>gV q t k) (.inl ⟨t.get V.undef (qn off),λk=>rfl⟩)) with⟨l,hl⟩|⟨b,hl⟩
   ·rw[hl] at e1
    obtain⟨vs,h1,h2⟩:=k7 e1;exact⟨_,h1,λk'=>by simp only[fL,dD,hp,KG,hl,h2]⟩
   ·rw[hl] at e1;cases e1
theorem aNs{cl:Cl}{rs:List RV}{A5:Kr}{body:C}(BM:ef fe r cl)(hf:fe f=.mk body rs)(hk:x5 fe r dk cs A5):iK fe r f dk none cs (ra cl rs A5) .rtn:=by
 intro tm h nx ds e;have e':Rk ds cl rs A5 tm h nx=.ok r:=e;clear e;induction ds generalizing h nx with
 |nil =>
  have e1:N6 rs tm h (λvs=>Uj vs λv=>A5 v h nx)=.ok r:=e';rw[uE] at e1;obtain⟨vs,h1,h2⟩:=k7 e1;rw[aGD] at h1;obtain⟨m,hm⟩:=hk _ _ _ h1;refine⟨m+1,?_⟩;simp only[dH,aB,rh,kQ,hf,UU,h2];exact hm
 |cons d ds ih =>
  cases d with
  |call q args =>
   have e1:cl (.fn q [] []) args true h nx (λ_ h' nx'=>Rk ds cl rs A5 tm h' nx')=.ok r:=e'
   obtain⟨m,hm⟩:=BM.dfd q args f dk none ds tm cs h nx _ (λv h' nx' e0=>by
    obtain⟨m,hm⟩:=ih h' nx' e0;exact⟨m,hm⟩) e1
   exact⟨m+1,hm⟩
  |coll q =>
   have e1:Vx q (λh' nx'=>Rk ds cl rs A5 tm h' nx') h nx=.ok r:=e';simp only[Vx,bV] at e1
   split at e1
   ·rename_i ho
    rw[cT] at e1;obtain⟨m,hm⟩:=ih _ _ e1;refine⟨m+1,?_⟩;simp only[dH,aB,rh,bV,ho,cT];exact hm
   ·cases e1
theorem tj{cl:Cl}{rs:List RV}{A5:Kr}{body:C}{tm:T V}{h:T O}{nx:Q}(BM:ef fe r cl)(hf:fe f=.mk body rs)(hk:x5 fe r dk cs A5)
  (RH:dk=true->∃f2 Hl H9 E5 EV BT,cs=.mk f2 Hl H9 E5 EV .rtn::BT) (e:ax (kj (Jl body)) cl f tm h nx (ra cl rs A5)=.ok r) :
  ∃m,run fe m f dk none [] tm (.code body .nil) cs h nx=.ok r:=by
 have hr:=aNs (f:=f) (dk:=dk) BM hf hk
 have hn:iK fe r f dk none cs (ra cl rs A5) .nil:=λtm h nx ds e0=>by
  obtain⟨m,hm⟩:=hr _ _ _ _ e0;exact⟨m+1,hm⟩
 exact de body f dk none cs ⟨cl,f,none,[],ra cl rs A5,Zz⟩ .nil _ ⟨rfl,rfl,BM,λid=>.inr ⟨rfl,λ_ _=>rfl⟩,λ_=>hr,λ_ h0=>(by cases h0),RH⟩ hn _ _ _ _ e
theorem et(vs:List V)(k:T V->Res):yV vs 0 .nil k=lT vs .e .nil k:=by
 rw[yy,j4,show(Q.e:Q)=qn 0 from rfl,uJ]
theorem aCG(g:GT)(l n:Nat)(k:V->Res):FU g l n k=IF g l n k:=by
 induction g with
 |any v=>rfl
 |ar q m v=>rfl
 |leaf l' n' v=>show CX (j3 (Nat.beq l' l) (Nat.beq n' n)) 131 (k v)=_;rw[cK,fP];rfl
 |nd p a b Hv Hu =>
  show @Bool.rec (λ_=>(Nat->Nat->(V->Res)->Res)->(Nat->Nat->(V->Res)->Res)->Nat->Nat->(V->Res)->Res) (λ_ b l n k=>b l n k) (λa _ l n k=>a l n k) (Nat.ble n p) (FU a) (FU b) l n k=_;simp only[IF];cases Nat.ble n p
  ·exact Hu
  ·exact Hv
theorem aFY(g:GT)(args:List V)(k:V->Res):Uv g args k=zy g args k:=by
 cases args with
 |nil=>exact aCG g 0 0 k
 |cons x l =>
  cases l with
  |cons _ _=>rfl
  |nil =>
  show YO x g k=_;cases x<;>first|rfl|exact aCG g _ _ k
theorem aEf(g:GT)(l n:Nat):Tot (IF g l n):=by
 induction g with
 |any v=>exact .ret v
 |ar q m v=>exact .bad _
 |leaf l' n' v=>exact(eE _ _).bind (.ret v)
 |nd p a b Hv Hu =>
  simp only[show IF (.nd p a b) l n=λk=>(match Nat.ble n p with|true=>IF a l n k|false=>IF b l n k) from rfl];cases Nat.ble n p
  ·exact Hu
  ·exact Hv
theorem aHu(g:GT)(args:List V):Tot (zy g args):=by
 cases args with
 |nil=>exact aEf g 0 0
 |cons x l =>
  cases l with
  |cons _ _=>exact .bad _
  |nil =>
  cases x<;>first|exact aEf g _ _|skip
  rename_i vs;show Tot (QC g vs);cases vs with
  |nil=>exact .bad _
  |cons y vs =>
   cases vs with
   |cons _ _=>cases y<;>exact .bad _
   |nil =>
    cases y<;>first|exact .bad _|skip
    rename_i x;cases x<;>first|exact .bad _|skip
    cases g<;>first|exact .bad _|exact(eE _ _).bind (.ret _)
theorem aB2{cl:Cl}{A5:Kr}{g:Q}{args:List V}{h:T O}{nx:Q}(BM:ef fe r cl)(hk:x5 fe r dk (c::cs) A5)
  (RH:dk=true->∃f2 Hl H9 E5 EV BT,c::cs=.mk f2 Hl H9 E5 EV .rtn::BT) (e:Pd (fe g) cl g args dk h nx A5=.ok r):∃m,fS fe (run fe m) g args dk (c::cs) h nx=.ok r:=by
 cases hc:fe g with
 |none=>rw[hc] at e;cases e
 |mk body rs =>
  rw[hc] at e;have e1:yV args 0 .nil (λtm=>ax (kj (Jl body)) cl g tm h nx (ra cl rs A5))=.ok r:=e;rw[et,j4] at e1;obtain⟨m,hm⟩:=tj BM hc hk RH e1;refine⟨m,?_⟩;simp only[fS,kQ,hc,j4];exact hm
 |ext n =>
  rw[hc] at e;cases dk with
  |true=>cases e
  |false =>
   have e1:az n args (λv=>A5 v h nx)=.ok r:=e
   have LG:∀v,Tot (Rv v):=λv=>by
    cases v<;>first|exact .bad _|skip
    rename_i kd n;cases kd<;>first|exact .bad _|skip
    cases n<;>first|exact .bad _|exact(eE _ _).bind (.ret _)
   have hfb:∀cc l s i,Tot (sA cc l s i):=λcc l=>by
    induction l with
    |zero=>intro s i;exact .ret _
    |succ l ih =>
     intro s i;simp only[show sA cc (l+1) s i=λk=>(match Nat.beq (s%256) cc with|true=>k (.ofNat i)|false=>aY (s/256) λs'=>aY (i+1) λi'=>sA cc l s' i' k) from rfl];cases Nat.beq (s%256) cc
     ·exact(cQ _).bind λs'=>(cQ _).bind λi'=>ih s' i'
     ·exact .ret _
   have hcb:∀cc l s n,Tot (x9 cc l s n):=λcc l=>by
    induction l with
    |zero=>intro s n;exact .ret _
    |succ l ih =>
     intro s n;simp only[show x9 cc (l+1) s n=λk=>(match Nat.beq (s%256) cc with|true=>aY (s/256) λs'=>aY (n+1) λn'=>x9 cc l s' n' k|false=>aY (s/256) λs'=>x9 cc l s' n k) from rfl];cases Nat.beq (s%256) cc
     ·exact(cQ _).bind λs'=>ih s' n
     ·exact(cQ _).bind λs'=>(cQ _).bind λn'=>ih s' n'
   have ht:Tot (az n args):=by
    unfold az;split
    ·split
     ·exact(V0 _).bind λl s=>(LG _).bind λc=>(hfb _ _ _ _).bind λi=>.ret _
     ·exact .bad _
    ·split
     ·exact(V0 _).bind λl s=>(LG _).bind λc=>(hcb _ _ _ _).bind λi=>.ret _
     ·exact .bad _
    ·split
     ·exact .ret _
     ·exact .bad _
   rcases ht with⟨v,hv⟩|⟨b,hv⟩
   ·rw[hv] at e1
    obtain⟨m,hm⟩:=hk _ _ _ e1;refine⟨m,?_⟩;simp only[fS,kQ,hc,hv];exact hm
   ·rw[hv] at e1;cases e1
 |gor v body rs =>
  rw[hc] at e;cases e
 |giv t =>
  rw[hc] at e;cases dk with
  |true=>cases e
  |false =>
   have e1:Uv t args (λv=>A5 v h nx)=.ok r:=e;rw[aFY] at e1;rcases aHu t args with⟨v,hv⟩|⟨b,hv⟩
   ·rw[hv] at e1
    obtain⟨m,hm⟩:=hk _ _ _ e1;refine⟨m,?_⟩;simp only[fS,kQ,hc,hv];exact hm
   ·rw[hv] at e1;cases e1
theorem xf:∀(ps:List Q)(vs:List V)(t:T V)(k:T V->Res),U0 ps vs t k=qq ps vs t k
 |[],[],t,k=>rfl
 |[],_::_,t,k=>rfl
 |_::_,[],t,k=>rfl
 |p::ps,v::vs,t,k=>by
  show Mj p v t (λt'=>U0 ps vs t' k)=_;simp only[oh,xf ps vs,qq]
theorem ye:∀(ps:List Q)(vs:List V)(t:T V),Tot (qq ps vs t)
 |[],[],t=>.ret t
 |[],_::_,t=>.bad _
 |_::_,[],t=>.bad _
 |p::ps,v::vs,t=>(show Tot (pV v p t) from .inl ⟨_,λk=>xe v p t k⟩).bind λt'=>ye ps vs t'
theorem aD1{cl:Cl}{A5:Kr}{args:List V}{h:T O}{nx:Q}(BM:ef fe r cl)(hk:x5 fe r false (c::cs) A5)(e:qy cl l args h nx A5=.ok r):∃m,cR fe (run fe m) (.yld l) args (c::cs) h nx=.ok r:=by
 unfold qy at e;simp only[fU,bV,mE] at e;obtain⟨st,pend,fn,tm,ps,BV,body,B8,ho,e1⟩:=e8 e;rw[xf] at e1;rcases ye ps args tm with⟨tm',ht⟩|⟨b,ht⟩
 ·rw[ht] at e1
  have NG:∀k,(∀id kf kn,eJ id k kf kn=kn)->CxOK fe r fn false (some l) (c::cs) ⟨cl,fn,some l,[],dZ,A5⟩ k:=λk RD =>
   ⟨rfl,rfl,BM,λid=>.inr ⟨rfl,λkf kn=>RD id kf kn⟩,λh0=>(by cases h0),λl' h0=>(by cases h0;exact⟨c,cs,rfl,hk⟩),λh0=>(by cases h0)⟩
  have EL:iK fe r fn false (some l) (c::cs) (λ_ s=>zo l .none 0 true A5 s) .nil:=λtm h nx ds e0=>by
   obtain⟨m,hm⟩:=au (st:=0) (b:=true) (ds:=ds) rfl hk e0;exact⟨m+1,hm⟩
  have I3:iK fe r fn false (some l) (c::cs) (aI1 cl l fn body A5) (.begin (.code body .nil)):=λtm h nx ds e0=>by
   have e2:GB l h (λob=>n0 ob λst pend FZ tm' params BV GQ B8=>CX (Nat.beq st 0) 104 (EU l (.loop (.mk 1 pend FZ tm' params BV GQ B8)) h λh' =>
    kj (Jl body) ⟨cl,fn,some l,[],dZ,A5⟩ (λ_ s=>zo l .none 0 true A5 s) tm ⟨h',nx,ds⟩))=.ok r:=e0
   simp only[fU,bV,mE,cK,hJ,cT] at e2;obtain⟨st,pend,FZ,tm',Wn,Pm,GQ,B8,ho,e3⟩:=e8 e2;obtain⟨h1,e4⟩:=bP e3;obtain⟨m,hm⟩:=de body fn false (some l) (c::cs) _ .nil _ (NG .nil λ_ _ _=>rfl) EL _ _ _ _ e4;refine⟨m+1,?_⟩;simp only[dH,aB,bV,ho,lM,h1,gd,cT];exact hm
  obtain⟨m,hm⟩:=de BV fn false (some l) (c::cs) _ (.begin (.code body .nil)) _ (NG _ λ_ _ _=>rfl) I3 _ _ _ _ e1;refine⟨m,?_⟩;simp only[cR,bV,ho,lM,ht];exact hm
 ·rw[ht] at e1;cases e1
theorem aKH{cl:Cl}(BM:ef fe r cl):ef fe r (Yu fe cl):=by
 constructor
 ·intro fv args c cs h nx A5 hk e
  cases fv<;>try(cases e;done)
  ·rename_i q fs caps
   have e1:yw fs args caps (λl=>Pd (fe q) cl q l false h nx A5)=.ok r:=e;rw[zX] at e1;obtain⟨m,hm⟩:=aB2 BM hk (λh0=>by cases h0) e1;refine⟨m,?_⟩;simp only[cR,eN];exact hm
  ·exact aD1 BM hk e
 ·intro g args f2 Hl H9 E5 EV cs h nx A5 hk e
  have e1:yw [] args [] (λl=>Pd (fe g) cl g l true h nx A5)=.ok r:=e;rw[zX] at e1;simp only[Ak,Ao] at e1;exact aB2 BM hk (λ_=>⟨f2,Hl,H9,E5,EV,cs,rfl⟩) e1
theorem fm:∀n,ef fe r (fh fe n)
 |0=>⟨λ_ _ _ _ _ _ _ _ e=>(by cases e),λ_ _ _ _ _ _ _ _ _ _ _ _ e=>(by cases e)⟩
 |n+1=>aKH (fm n)
theorem aHg{n:Nat}{g:Q}{args:List V}{h0:T O}{nx:Q}{body:C}{rs:List RV}(hg:fe g=.mk body rs)(e:YW fe (n+1) g args h0 nx=.ok r):∃m,lT args .e .nil (λtm=>run fe m g false none [] tm (.code body .nil) [] h0 nx)=.ok r:=by
 have e1:yw [] args [] (λl=>Pd (fe g) (fh fe n) g l false h0 nx λv h _=>.ok (fin v h))=.ok r:=e;rw[zX,hg] at e1;simp only[Ak,Ao] at e1;have e2:yV args 0 .nil (λtm=>ax (kj (Jl body)) (fh fe n) g tm h0 nx (ra (fh fe n) rs λv h _=>.ok (fin v h)))=.ok r:=e1;rw[et,j4] at e2;obtain⟨m,hm⟩:=tj (dk:=false) (cs:=[]) (fm n) hg (λv h nx e0=>⟨0,e0⟩) (λh0=>by cases h0) e2;exact⟨m,by rw[j4];exact hm⟩
theorem aHf{n:Nat}{g:Q}{args:List V}{nx:Q}{body:C}{rs:List RV}(hg:fe g=.mk body rs)(e:runF fe (n+1) g args nx=.ok r):∃m,lT args .e .nil (λtm=>run fe m g false none [] tm (.code body .nil) [] .nil nx)=.ok r:=aHg hg e
end
end Go.CM
end
namespace Go.AM
mutual
def AVal.v:AVal->CM.V
 |.int k n=>.int k n
 |.str s=>.str s.length (CM.packL s)
 |.bool b=>.bool b
 |.agg l=>.agg (AVal.vs l)
 |.slice l=>.tup (AVal.vs l)
 |_=>.yld default
def AVal.vs:List AVal->List CM.V
 |[]=>[]
 |t::ts=>t.v::AVal.vs ts
end
theorem AVal.vs_eq(l:List AVal):AVal.vs l=l.map AVal.v:=by
 induction l with
 |nil=>simp[AVal.vs]
 |cons t ts ih=>simp[AVal.vs,ih]
end Go.AM
