import Derived.Test.YtoiocfngjchdiaaGreatDoorF01
import Derived.Test.YtoiocfngjchdiaaGreatDoorC06
set_option linter.all false
noncomputable section
namespace Go.CM
section
def aW3(tm:T V)(d:Option Q)(v:V):T V :=
 match d with
 |some q=>tm.put V.undef v q
 |none=>tm
theorem jS(d:Option Q)(v:V)(tm:T V)(k:T V->aa):qV d v tm k=k (aW3 tm d v):=by
 cases d<;>rfl
def Z5(ih:FQ)(dk:Bool)(cs:List Fr)(v:V)(h:T O)(nx:Q):aa :=
 match cs with
 |[]=>(match dk with
  |false=>.ok (fin v h)
  |true=>.bad 99)
 |c::BX=>(match dk with
  |false=>mQ ih c BX v h nx
  |true=>(match c with
   |.mk f2 IL Hz FP DZ .iN=>ih f2 IL Hz FP DZ .iN BX h nx
   |_=>.bad 100))
def tN:List (Nat×St)->Nat->Option St
 |[],_=>none
 |(i,U)::r,id=>(match Nat.beq i id with
  |true=>some U
  |false=>tN r id)
theorem a1I(id:Nat)(kn:St):∀env,za env id kn=(tN env id).getD kn
 |[]=>rfl
 |(i,U)::r=>by
  show @Bool.rec (λ_=>St->(Nat->St->St)->Nat->St->St) _ _ (Nat.beq i id) U (za r) id kn=_;simp only[tN];cases Nat.beq i id
  ·exact a1I id kn r
  ·rfl
theorem dM(fe:Q->CF)(m:Nat)(f:Q)(dk:Bool)(rd:Option Q)(ds:List Df)(tm:T V)(k:K)(cs:List Fr)(h:T O)(nx:Q):run fe (m+1) f dk rd ds tm k cs h nx=aC fe (run fe m) f dk rd ds tm k cs h nx:=rfl
section
variable (fe:Q->CF)(r:V)
def jC(f:Q)(dk:Bool)(rd:Option Q)(cs:List Fr)(U:St)(k:K):Prop:=∀tm h nx ds,U tm ⟨h,nx,ds⟩=.ok r->∃m,run fe m f dk rd ds tm k cs h nx=.ok r
def yV(dk:Bool)(cs:List Fr)(A7:Kr):Prop:=∀v h nx,A7 v h nx=.ok r->∃m,Z5 (run fe m) dk cs v h nx=.ok r
structure iy (cl:Cl):Prop where
 plain:∀fv args c cs h nx A7,yV fe r false (c::cs) A7->cl fv args false h nx A7=.ok r->∃m,cY fe (run fe m) fv args (c::cs) h nx=.ok r
 kg:∀g args f2 IL Hz FP DZ cs h nx A7,yV fe r true (.mk f2 IL Hz FP DZ .iN::cs) A7->cl (.fn g [] []) args true h nx A7=.ok r->∃m,fZ fe (run fe m) g args true (.mk f2 IL Hz FP DZ .iN::cs) h nx=.ok r
def aPG(f:Q)(dk:Bool)(rd:Option Q)(cs:List Fr)(env:List (Nat×St))(k:K):Prop :=
 ∀id,(∃U k',tN env id=some U/\jC fe r f dk rd cs U k'/\∀kf kn,eP id k kf kn=kf k')\/(tN env id=none/\∀kf kn,eP id k kf kn=kn)
structure lN (f:Q) (dk:Bool) (rd:Option Q) (cs:List Fr) (cx:Cx) (k:K):Prop where
 hf:cx.f=f
 fc:cx.rd=rd
 cl:iy fe r cx.cl
 env:aPG fe r f dk rd cs cx.env k
 kr:rd=none->jC fe r f dk rd cs cx.kr .iN
 ky:∀l,rd=some l->∃c BX,cs=c::BX/\yV fe r false (c::BX) cx.ky
 dk:dk=true->∃f2 IL Hz FP DZ BX,cs=.mk f2 IL Hz FP DZ .iN::BX
def ja(c:C)(o:Op):Prop:=∀f dk rd cs cx k U,lN fe r f dk rd cs cx k->jC fe r f dk rd cs U k->jC fe r f dk rd cs (o cx U) (.code c k)
def LOK(l:List PS)(o:Op):Prop:=∀f dk rd cs cx k U,lN fe r f dk rd cs cx k->jC fe r f dk rd cs U k->jC fe r f dk rd cs (o cx U) (.reg l k)
def Si(p:PS)(o:Op):Prop:=∀f dk rd cs cx k U l,lN fe r f dk rd cs cx k->jC fe r f dk rd cs U (.reg l k)->jC fe r f dk rd cs (o cx U) (.reg (p::l) k)
def yW(b:OB)(dst:Option Q)(o:Op):Prop:=∀f dk rd cs cx k U l g,lN fe r f dk rd cs cx k->jC fe r f dk rd cs U (.reg l k) ->
 ∀tm h nx ds,o cx U tm ⟨h,nx,ds⟩=.ok r->∃m,G3 fe (run fe m) f dk rd ds tm dst b l (.op (.mk dst g b)::l) k cs h nx=.ok r
end
variable {fe:Q->CF}{r:V}{f:Q}{dk:Bool}{rd:Option Q}{cs:List Fr}{cx:Cx}{k k':K}{U:St}{env:List (Nat×St)}{l:Q}{c:Fr}
theorem lN.to(C:lN fe r f dk rd cs cx k)(h:∀id kf kn,eP id k' kf kn=eP id k kf kn):lN fe r f dk rd cs cx k' :=
 ⟨C.hf,C.fc,C.cl,λid=>by
  rcases C.env id with⟨U,k1,h1,h2,h3⟩|⟨h1,h2⟩
  ·exact .inl ⟨U,k1,h1,h2,λkf kn=>(h id kf kn).trans (h3 kf kn)⟩
  ·exact .inr ⟨h1,λkf kn=>(h id kf kn).trans (h2 kf kn)⟩,C.kr,C.ky,C.dk⟩
theorem dn{j:Jump}{st:Nat}{b:Bool}{ky:Kr}{h:T O}{nx:Q}{ds:List Df}(A8:st=match b with|true=>0|false=>2)(hk:yV fe r false (c::cs) ky)(e:OC l j st b ky ⟨h,nx,ds⟩=.ok r):∃m,jv (run fe m) l j b (c::cs) h nx=.ok r:=by
 have e':GX l h (λob=>oP ob λ_ _ fn tm params B3 body CH=>E6 l (.loop (.mk st j fn tm params B3 body CH)) h λh'=>ky (.bool b) h' nx)=.ok r:=e;simp only[gB,bW,mX,iO,c8] at e';obtain⟨AY,pend,fn,tm,ps,B3,body,CH,ho,e1⟩:=fF e';obtain⟨m,hm⟩:=hk _ _ _ e1;refine⟨m,?_⟩;simp only[jv,bW,ho,mE,c8];subst A8;exact hm
theorem a05(C:lN fe r f dk rd cs cx k)(id:Nat):jC fe r f dk rd cs (Wy cx id) (.code (.exit id) k):=by
 intro tm h nx ds e;obtain⟨cl,f',Jk,env,kr,ky⟩:=cx;have fc:=C.fc;simp only at fc;subst fc;have e':za env id (@Option.rec Q (λ_=>Nat->Kr->St) Z3 UW Jk id ky) tm ⟨h,nx,ds⟩=.ok r:=e;rw[a1I] at e';rcases C.env id with⟨U,k1,h1,h2,h3⟩|⟨h1,h2⟩
 ·simp only at h1
  rw[h1] at e';obtain⟨m,hm⟩:=h2 tm h nx ds e';refine⟨m+1,?_⟩;show eP id k _ _=.ok r;rw[h3];exact hm
 ·simp only at h1
  rw[h1] at e';cases Jk with
  |none=>cases e'
  |some l =>
   obtain⟨c,BX,rfl,hk⟩:=C.ky l rfl;obtain⟨m,hm⟩:=dn (st:=2) (b:=false) (ds:=ds) rfl hk e';refine⟨m+1,?_⟩;show eP id k _ _=.ok r;rw[h2];exact hm
theorem xA(C:lN fe r f dk rd cs cx k):jC fe r f dk rd cs (Ve cx) (.code .ret k):=by
 intro tm h nx ds e;obtain⟨cl,f',Jk,env,kr,ky⟩:=cx;have fc:=C.fc;simp only at fc;subst fc;cases Jk with
 |none =>
  obtain⟨m,hm⟩:=C.kr rfl tm h nx ds e;exact⟨m+1,hm⟩
 |some l =>
  obtain⟨c,BX,rfl,hk⟩:=C.ky l rfl;obtain⟨m,hm⟩:=dn (st:=2) (b:=false) (ds:=ds) rfl hk e;exact⟨m+1,hm⟩
section
variable {dst:Option Q}
theorem aN3{b:PB}{p:Pg}{d:Dt}(hp:D4 p b)(hd:Jg d dst):yW fe r (.p b) dst (Xp p d):=by
 intro f dk rd cs cx k U l g C hκ tm h nx ds e;have e':p tm h (λv=>d v tm λtm'=>U tm' ⟨h,nx,ds⟩)=.ok r:=e;rw[hp] at e';obtain⟨v,h1,h2⟩:=qS e';rw[hd,jS] at h2;obtain⟨m,hm⟩:=hκ _ _ _ _ h2;refine⟨m,?_⟩;simp only[G3];rw[uz,h1];simp only[aR,jS];exact hm
theorem aNZ{b:AB}{a:Ag}{d:Dt}(ha:NS a b)(hd:Jg d dst):yW fe r (.a b) dst (Xu a d):=by
 intro f dk rd cs cx k U l g C hκ tm h nx ds e;have e':a tm (λob mk=>E6 nx ob h λh'=>d (mk nx) tm λtm'=>IU nx λnx'=>U tm' ⟨h',nx',ds⟩)=.ok r:=e;rw[ha] at e';obtain⟨ob,mk,h1,h2⟩:=a0X e';simp only[iO,c8,hd _ _ _,jS,sO,dC] at h2;obtain⟨m,hm⟩:=hκ _ _ _ _ h2;refine⟨m,?_⟩;simp only[G3];rw[h1];simp only[c8,jS,dC];exact hm
theorem aN4{b:WB}{w:Wg}{d:Dt}(hw:NQ w b)(hd:Jg d dst):yW fe r (.w b) dst (Xo w d):=by
 intro f dk rd cs cx k U l g C hκ tm h nx ds e;have e':w tm h nx (λv h' nx'=>d v tm λtm'=>U tm' ⟨h',nx',ds⟩)=.ok r:=e;rw[hw] at e';obtain⟨v,h',nx',h1,h2⟩:=aFA e';rw[hd,jS] at h1;obtain⟨m,hm⟩:=hκ _ _ _ _ h1;refine⟨m,?_⟩;simp only[G3,h2,jS];exact hm
theorem a3v{d:Dt}{ob:OB}{g:Option (Q×Bool)}{l:List PS}{tm:T V}{ds:List Df}(hd:Jg d dst)(hκ:jC fe r f dk rd cs U (.reg l k)) :
  yV fe r false (.mk f dk rd ds tm (.reg (.op (.mk dst g ob)::l) k)::cs) λv h' nx'=>d v tm λtm'=>U tm' ⟨h',nx',ds⟩:=by
 intro v h nx e;have e:d v tm (λtm'=>U tm' ⟨h,nx,ds⟩)=.ok r:=e;rw[hd,jS] at e;obtain⟨m,hm⟩:=hκ _ _ _ _ e;refine⟨m,?_⟩;simp only[Z5,mQ,jS];exact hm
theorem dj(cx:Cx):uG cx=cx.cl:=by cases cx;rfl
theorem aBt{x:X}{xs:List X}{g:Xg}{gs:Xs}{d:Dt}(hx:CB g x)(EC:bp gs xs)(hd:Jg d dst):yW fe r (.call x xs) dst (zX g gs d):=by
 intro f dk rd cs cx k U l gg C hκ tm h nx ds e;have e':g tm (λfv=>gs tm λvs=>uG cx fv vs false h nx λv h' nx'=>d v tm λtm'=>U tm' ⟨h',nx',ds⟩)=.ok r:=e;rw[hx] at e';obtain⟨fv,h1,h2⟩:=nT e';rw[EC] at h1;obtain⟨vs,h3,h4⟩:=sU h1;rw[dj] at h3;obtain⟨m,hm⟩:=C.cl.plain _ _ (.mk f dk rd ds tm (.reg (.op (.mk dst gg (.call x xs))::l) k)) cs _ _ _ (a3v hd hκ) h3;refine⟨m,?_⟩;simp only[G3,h2,h4];exact hm
theorem a1L(t:Nat)(k:Q->aa):∀ms,zf ms t k=qL t ms k
 |[]=>rfl
 |(u,f)::ms=>by
  show Ig (Nat.beq u t) (k f) (zf ms t k)=_;rw[lL,a1L t k ms];simp only[qL];cases Nat.beq u t<;>rfl
theorem a2d(t:Nat):∀ms,du (qL t ms)
 |[]=>.bad _
 |(u,f)::ms=>by
  simp only[show qL t ((u,f)::ms)=λk=>(match Nat.beq u t with|true=>k f|false=>qL t ms k) from rfl];cases Nat.beq u t
  ·exact a2d t ms
  ·exact .ret f
theorem aIy{v:V}{kk:Nat->V->aa}(e:VM v kk=.ok r):∃t u,v=.kh t u/\kk t u=.ok r:=by
 cases v<;>first|(cases e;done)|exact⟨_,_,rfl,e⟩
theorem aEj{ms:List (Nat×Q)}{x:X}{xs:List X}{g:Xg}{gs:Xs}{d:Dt}(hx:CB g x)(EC:bp gs xs)(hd:Jg d dst):yW fe r (.inv ms x xs) dst (V' ms g gs d):=by
 intro f dk rd cs cx k U l gg C hκ tm h nx ds e;have e':g tm (λv=>gs tm λvs=>VM v λt u=>zf ms t λf=>uG cx (.fn f [] []) (u::vs) false h nx λv h' nx'=>d v tm λtm'=>U tm' ⟨h',nx',ds⟩)=.ok r:=e;rw[hx] at e';obtain⟨v,h1,h2⟩:=nT e';rw[EC] at h1;obtain⟨vs,h3,h4⟩:=sU h1;obtain⟨t,u,rfl,h5⟩:=aIy h3;rw[a1L] at h5;rcases a2d t ms with⟨q,h6⟩|⟨n,h6⟩
 ·rw[h6,dj] at h5
  obtain⟨m,hm⟩:=C.cl.plain _ _ (.mk f dk rd ds tm (.reg (.op (.mk dst gg (.inv ms x xs))::l) k)) cs _ _ _ (a3v hd hκ) h5;refine⟨m,?_⟩;simp only[G3,h2,h4,Vg,h6];exact hm
 ·rw[h6] at h5;cases h5
theorem aEi{x:X}{xs:List X}{g:Xg}{gs:Xs}{d:Dt}(hx:CB g x)(EC:bp gs xs)(hd:Jg d dst):yW fe r (.dfr x xs) dst (W7 g gs d):=by
 intro f dk rd cs cx k U l gg C hκ tm h nx ds e;simp only[W7,C.fc] at e;cases rd with
 |some l=>cases e
 |none =>
  simp only at e;rw[hx] at e;obtain⟨fv,h1,h2⟩:=nT e;rw[EC] at h1;obtain⟨vs,h3,h4⟩:=sU h1
  split at h3
  ·rename_i q fs caps
   simp only[eS,hd _ _ _,jS] at h3;obtain⟨m,hm⟩:=hκ _ _ _ _ h3;refine⟨m,?_⟩;simp only[G3,h2,h4,eS,jS];exact hm
  ·cases h3
theorem aEl{d:Dt}(hd:Jg d dst):yW fe r .rcv dst (W6 d):=by
 intro f dk rd cs cx k U l gg C hκ tm h nx ds e;simp only[W6,C.fc] at e;cases rd with
 |some l=>cases e
 |none =>
  simp only[hd _ _ _,jS] at e;obtain⟨m,hm⟩:=hκ _ _ _ _ e;refine⟨m,?_⟩;simp only[G3,Qh,jS];cases dk with
  |false=>exact hm
  |true =>
   obtain⟨f2,IL,Hz,FP,DZ,BX,rfl⟩:=C.dk rfl;exact hm
theorem aLW{d:Dt}(hd:Jg d dst)(b:OB):Gd (λo:Op=>yW fe r b dst o) (Y6 b d):=by
 cases b with
 |p b=>exact(aKq b).bind λ_ h=>.ret (aN3 h hd)
 |a b=>exact(aSe b).bind λ_ h=>.ret (aNZ h hd)
 |w b=>exact(aSh b).bind λ_ h=>.ret (aN4 h hd)
 |call x xs=>exact(bT x).bind λ_ h=>(rS xs).bind λ_ h1=>.ret (aBt h h1 hd)
 |inv ms x xs=>exact(bT x).bind λ_ h=>(rS xs).bind λ_ h1=>.ret (aEj h h1 hd)
 |dfr x xs=>exact(bT x).bind λ_ h=>(rS xs).bind λ_ h1=>.ret (aEi h h1 hd)
 |rcv=>exact .ret (aEl hd)
end
theorem aSR{dst:Option Q}{b:OB}{o:Op}(h:yW fe r b dst o):Si fe r (.op (.mk dst none b)) o:=by
 intro f dk rd cs cx k U l C hκ tm h' nx ds e;obtain⟨m,hm⟩:=h f dk rd cs cx k U l none C hκ tm h' nx ds e;exact⟨m+1,hm⟩
theorem a0u{v:V}{w:Bool}{go skip:St}{tm:T V}{s:S}(e:yN v w go skip tm s=.ok r) :
  (∃t,v=.bool t/\(t==w)=true/\go tm s=.ok r)\/(((∃t,v=.bool t/\(t==w)=false)\/v=.aj [])/\skip tm s=.ok r):=by
 cases v<;>try(cases e;done)
 ·rename_i t
  have e':a27 t w go skip tm s=.ok r:=e
  cases t<;>cases w<;>first
   |exact .inl ⟨_,rfl,rfl,e'⟩
   |exact .inr ⟨.inl ⟨_,rfl,rfl⟩,e'⟩
 ·rename_i vs
  cases vs
  ·exact .inr ⟨.inr rfl,e⟩
  ·cases e
theorem aN1{dst:Option Q}{q:Q}{w:Bool}{b:OB}{g:Xg}{o:Op}{d:Dt}(hg:CB g (.t q))(h:yW fe r b dst o)(hd:Jg d dst):Si fe r (.op (.mk dst (some (q,w)) b)) (TY g w o d):=by
 intro f dk rd cs cx k U l C hκ tm h' nx ds e;have e':g tm (λv=>yN v w (o cx U) (λtm s=>d V.undef tm λtm'=>U tm' s) tm ⟨h',nx,ds⟩)=.ok r:=e;rw[hg] at e';simp only[xK,dI] at e';rcases a0u e' with⟨t,hv,ht,e1⟩|⟨hv,e1⟩
 ·obtain⟨m,hm⟩:=h f dk rd cs cx k U l (some (q,w)) C hκ tm h' nx ds e1
  refine⟨m+1,?_⟩;show k7 fe (run fe m) f dk rd ds tm (.op (.mk dst (some (q,w)) b)::l) k cs h' nx=.ok r;simp only[k7,dI,hv,ht];exact hm
 ·simp only[hd _ _ _,jS] at e1
  obtain⟨m,hm⟩:=hκ _ _ _ _ e1;refine⟨m+1,?_⟩;show k7 fe (run fe m) f dk rd ds tm (.op (.mk dst (some (q,w)) b)::l) k cs h' nx=.ok r;rcases hv with⟨t,hv,ht⟩|hv
  ·simp only[k7,dI,hv,ht,jS];exact hm
  ·simp only[k7,dI,hv,jS];exact hm
theorem aLT(o:CO):Gd (λg:Op=>Si fe r (.op o) g) (Y7 o):=by
 obtain⟨dst,g,b⟩:=o;refine(aGn dst).bind λd hd=>(aLW (fe:=fe) (r:=r) hd b).bind λo ho=>?_
 cases g with
 |none=>exact .ret (aSR ho)
 |some qw=>exact(bt qw.1).bind (f:=λg k=>k (TY g qw.2 o d)) λg hg=>.ret (aN1 hg ho hd)
theorem a3a{p:PB}{q:Q}{l:List PS}{tm:T V}{h:T O}{nx:Q}{ds:List Df}{pg:Pg}{rg:Xg}(hp:D4 pg p)(hr:CB rg (.t q))(hκ:jC fe r f dk rd cs U (.reg l k))(e:qO pg rg cx U tm ⟨h,nx,ds⟩=.ok r) :
  ∃m,pK p tm h (λv=>gV q tm λu=>gd (MN v u) 93 (run fe m f dk rd ds tm (.reg l k) cs h nx))=.ok r:=by
 have e':pg tm h (λv=>rg tm λu=>C7 (MN v u) 93 (U tm ⟨h,nx,ds⟩))=.ok r:=e;rw[hp] at e';obtain⟨v,h1,h2⟩:=qS e';rw[hr] at h2;simp only[xK,dI,cM] at h2;obtain⟨h3,h4⟩:=bQ h2;obtain⟨m,hm⟩:=hκ _ _ _ _ h4;refine⟨m,?_⟩;rw[uz,h1];simp only[aR,dI,h3,gd];exact hm
theorem aLX(p:PS):Gd (λg:Op=>Si fe r p g) (Y5 p):=by
 cases p with
 |op o=>exact aLT o
 |lu g p q =>
  refine(aKq p).bind (f:=λpg k=>br q λr=>@Option.rec (Q×Bool) (λ_=>D) (k (qO pg r)) (λqw=>@Prod.rec Q Bool (λ_=>D) (λq w=>br q λg=>k (ey g w (qO pg r))) qw) g) λpg hp=>(bt q).bind (f:=λr k=>@Option.rec (Q×Bool) (λ_=>D) (k (qO pg r)) (λqw=>@Prod.rec Q Bool (λ_=>D) (λq w=>br q λg=>k (ey g w (qO pg r))) qw) g) λrg hr=>?_
  cases g with
  |none =>
   refine .ret ?_;intro f dk rd cs cx k U l C hκ tm h nx ds e;obtain⟨m,hm⟩:=a3a hp hr hκ e;exact⟨m+1,hm⟩
  |some qw =>
   refine(bt qw.1).bind (f:=λg k=>k (ey g qw.2 (qO pg rg))) λg hg=>.ret ?_
   intro f dk rd cs cx k U l C hκ tm h nx ds e;have e':g tm (λv=>yN v qw.2 (qO pg rg cx U) U tm ⟨h,nx,ds⟩)=.ok r:=e;rw[hg] at e';simp only[xK,dI] at e';rcases a0u e' with⟨t,hv,ht,e1⟩|⟨hv,e1⟩
   ·obtain⟨m,hm⟩:=a3a hp hr hκ e1
    refine⟨m+1,?_⟩;show k7 fe (run fe m) f dk rd ds tm (.lu (some qw) p q::l) k cs h nx=.ok r;simp only[k7,dI,hv,ht];simp only[dI] at hm;exact hm
   ·obtain⟨m,hm⟩:=hκ _ _ _ _ e1
    refine⟨m+1,?_⟩;show k7 fe (run fe m) f dk rd ds tm (.lu (some qw) p q::l) k cs h nx=.ok r;rcases hv with⟨t,hv,ht⟩|hv
    ·simp only[k7,dI,hv,ht];exact hm
    ·simp only[k7,dI,hv];exact hm
theorem aKo:∀l:List PS,Gd (λg:Op=>LOK fe r l g) (a0x l)
 |[]=>.ret λf dk rd cs cx k U C hκ tm h nx ds e=>by
  obtain⟨m,hm⟩:=hκ _ _ _ _ e;exact⟨m+1,hm⟩
 |p::l=>(aLX p).bind λo ho=>(aKo l).bind λo' FM=>.ret λf dk rd cs cx k U C hκ=>ho f dk rd cs cx k (o' cx U) l C (FM f dk rd cs cx k U C hκ)
end
section
variable {fe:Q->CF}{r:V}{f:Q}{dk:Bool}{rd:Option Q}{cs:List Fr}{cx:Cx}{k k':K}{U:St}{env:List (Nat×St)}{l:Q}{c:Fr}
theorem a7n(id i:Nat)(U:St)(env:List (Nat×St)):tN ((i,U)::env) id=match Nat.beq i id with|true=>some U|false=>tN env id:=by
 simp only[tN]<;>(cases Nat.beq i id<;>rfl)
theorem lN.push(C:lN fe r f dk rd cs cx k)(hκ:jC fe r f dk rd cs U k)(id:Nat):lN fe r f dk rd cs ⟨cx.cl,cx.f,cx.rd,(id,U)::cx.env,cx.kr,cx.ky⟩ (.n_ id k) :=
 ⟨C.hf,C.fc,C.cl,λi=>by
  simp only[a7n,eP];cases hb:Nat.beq id i
  ·simp only
   exact C.env i
  ·exact .inl ⟨U,k,rfl,hκ,λ_ _=>rfl⟩,C.kr,C.ky,C.dk⟩
theorem aN0(id:Nat)(o:Op)(cx:Cx)(U:St):Xt id o cx U=o ⟨cx.cl,cx.f,cx.rd,(id,U)::cx.env,cx.kr,cx.ky⟩ U:=by cases cx;rfl
theorem aFn{v:V}{a b:St}{tm:T V}{s:S}(e:WW v a b tm s=.ok r):∃t,v=.bool t/\(match t with|true=>a|false=>b) tm s=.ok r:=by
 cases v<;>try(cases e;done)
 rename_i t;refine⟨t,rfl,?_⟩;cases t<;>exact e
theorem aH4{pend:Jump}(C:lN fe r f dk rd cs cx k)(hκ:jC fe r f dk rd cs U k){tm:T V}{h:T O}{nx:Q}{ds:List Df}(e:X' pend cx U tm ⟨h,nx,ds⟩=.ok r) :
  ∃m,(match pend with
   |.none=>run fe m f dk rd ds tm k cs h nx
   |.ret=>run fe m f dk rd ds tm (.code .ret k) cs h nx
   |.exit id=>run fe m f dk rd ds tm (.code (.exit id) k) cs h nx)=.ok r:=by
 cases pend with
 |none=>exact hκ _ _ _ _ e
 |ret=>exact xA C _ _ _ _ e
 |exit id=>exact a05 C id _ _ _ _ e
theorem a3n(C:lN fe r f dk rd cs cx k)(hκ:jC fe r f dk rd cs U k){tm:T V}{h:T O}{nx:Q}{ds:List Df}(e:jy cx l U tm h nx ds=.ok r):∃m,run fe m f dk rd ds tm (.oZ l k) cs h nx=.ok r:=by
 unfold jy at e;simp only[gB,bW,mX,cM,n7,iO,c8] at e;obtain⟨st,pend,fn,tm',ps,B3,body,CH,ho,e1⟩:=fF e;obtain⟨h1,e2⟩:=bQ e1;obtain⟨m,hm⟩:=aH4 C hκ e2;refine⟨m+1,?_⟩;have h2:Nat.beq st 1=false:=by simpa using h1
 simp only[dM,aC,bW,ho,mE,c8,h2,Bool.not_false,gd];cases pend<;>exact hm
theorem aO3{x:X}{g:Xg}{ps:List Q}{B3 body:C}(hx:CB g x):ja fe r (.rf x ps B3 body) (Xd g ps B3 body):=by
 intro f dk rd cs cx k U C hκ tm h nx ds e
 have e':g tm (λfv=>Oa fv (λg fs caps=>@Option.rec Q (λ_=>aa)
   (IU nx λn1=>rP fs (.bN n1::caps) λargs=>E6 nx (.kg false) h λh1=>E6 n1 (.loop (.mk 0 .none cx.f tm ps B3 body nx)) h1 λh2=>IU n1 λn2 =>
     uG cx (.fn g [] []) args false h2 n2 λ_ h nx'=>jy cx n1 U tm h nx' (.ml nx::ds))
   (λl=>rP fs (.bN nx::caps) λargs=>GX l h λob=>oP ob λ_ _ _ _ _ _ _ CH=>E6 nx (.loop (.mk 0 .none cx.f tm ps B3 body CH)) h λh2=>IU nx λn2 =>
     uG cx (.fn g [] []) args false h2 n2 λ_ h nx'=>jy cx nx U tm h nx' ds) cx.rd)
  (λ_=>.bad 95))=.ok r:=e
 rw[hx] at e';obtain⟨fv,e1,II⟩:=nT e';cases fv<;>try(cases e1;done)
 rename_i q fs caps
 have CZ:∀{args:List V}{c:Fr}{cs:List Fr}{h:T O}{nx:Q}{A7:Kr},yV fe r false (c::cs) A7->uG cx (.fn q [] []) args false h nx A7=.ok r->∃m,fZ fe (run fe m) q args false (c::cs) h nx=.ok r:=λhk e0=>by
  rw[dj] at e0;obtain⟨m,hm⟩:=C.cl.plain _ _ _ _ _ _ _ hk e0;refine⟨m,?_⟩;have N7:uE _ [] (λl=>uE [] l λl=>fZ fe (run fe m) q l false _ _ _)=.ok r:=hm;simpa only[eS,Ao,Ai] using N7
 cases rd with
 |none =>
  have e2:(IU nx λn1=>rP fs (.bN n1::caps) λargs=>E6 nx (.kg false) h λh1=>E6 n1 (.loop (.mk 0 .none cx.f tm ps B3 body nx)) h1 λh2=>IU n1 λn2 =>
     uG cx (.fn q [] []) args false h2 n2 λ_ h nx'=>jy cx n1 U tm h nx' (.ml nx::ds))=.ok r:=by
   have:Oa (.fn q fs caps) _ _=.ok r:=e1
   rw[C.fc] at this;exact this
  simp only[sO,dC,pQ,iO,c8,C.hf] at e2
  obtain⟨m,hm⟩:=CZ (c:=.mk f dk none (.ml nx::ds) tm (.mn nx.succ k)) (cs:=cs) (λv h' nx' e0=>by
   obtain⟨m,hm⟩:=a3n C hκ e0;exact⟨m,hm⟩) e2
  refine⟨m+1,?_⟩;simp only[dM,aC,mA,II,eS,c8,dC];exact hm
 |some l =>
  have e2:(rP fs (.bN nx::caps) λargs=>GX l h λob=>oP ob λ_ _ _ _ _ _ _ CH=>E6 nx (.loop (.mk 0 .none cx.f tm ps B3 body CH)) h λh2=>IU nx λn2 =>
     uG cx (.fn q [] []) args false h2 n2 λ_ h nx'=>jy cx nx U tm h nx' ds)=.ok r:=by
   have:Oa (.fn q fs caps) _ _=.ok r:=e1
   rw[C.fc] at this;exact this
  simp only[pQ,gB,bW,mX] at e2;obtain⟨st,pend,fn,tm',Xi,QZ,Gw,CH,ho,e3⟩:=fF e2;simp only[iO,c8,sO,dC,C.hf] at e3
  obtain⟨m,hm⟩:=CZ (c:=.mk f dk (some l) ds tm (.mn nx k)) (cs:=cs) (λv h' nx' e0=>by
   obtain⟨m,hm⟩:=a3n C hκ e0;exact⟨m,hm⟩) e3
  refine⟨m+1,?_⟩;simp only[dM,aC,mA,II,eS,bW,ho,mE,c8,dC];exact hm
theorem aSf(cd:C):Gd (λo:Op=>ja fe r cd o) (a0w cd):=by
 induction cd with
 |skip =>
  exact .ret λf dk rd cs cx k U C hκ tm h nx ds e=>by
   obtain⟨m,hm⟩:=hκ _ _ _ _ e;exact⟨m+1,hm⟩
 |reg l =>
  exact(aKo (fe:=fe) (r:=r) l).bind (f:=λo k=>k o) λo ho=>.ret λf dk rd cs cx k U C hκ tm h nx ds e=>by
   obtain⟨m,hm⟩:=ho f dk rd cs cx k U C hκ _ _ _ _ e;exact⟨m+1,hm⟩
 |seq a b IY IX =>
  exact IY.bind λo ho=>IX.bind λo' FM=>.ret λf dk rd cs cx k U C hκ tm h nx ds e=>by
   obtain⟨m,hm⟩:=ho f dk rd cs cx (.code b k) (o' cx U) (C.to λ_ _ _=>rfl) (FM f dk rd cs cx k U C hκ) _ _ _ _ e;exact⟨m+1,hm⟩
 |cond x a b IY IX =>
  exact(bT x).bind λg hg=>IY.bind λo ho=>IX.bind λo' FM=>.ret λf dk rd cs cx k U C hκ tm h nx ds e=>by
   have e':g tm (λv=>WW v (o cx U) (o' cx U) tm ⟨h,nx,ds⟩)=.ok r:=e;rw[hg] at e';obtain⟨v,e1,hv⟩:=nT e';obtain⟨t,rfl,e2⟩:=aFn e1;cases t with
   |true =>
    obtain⟨m,hm⟩:=ho f dk rd cs cx k U C hκ _ _ _ _ e2;refine⟨m+1,?_⟩;simp only[dM,aC,mA,hv,KP];exact hm
   |false =>
    obtain⟨m,hm⟩:=FM f dk rd cs cx k U C hκ _ _ _ _ e2;refine⟨m+1,?_⟩;simp only[dM,aC,mA,hv,KP];exact hm
 |block id a ih =>
  exact ih.bind λo ho=>.ret λf dk rd cs cx k U C hκ tm h nx ds e=>by
   rw[aN0] at e
   have Uf:jC fe r f dk rd cs U (.n_ id k):=λtm h nx ds e0=>by
    obtain⟨m,hm⟩:=hκ _ _ _ _ e0;exact⟨m+1,hm⟩
   obtain⟨m,hm⟩:=ho f dk rd cs _ (.n_ id k) U (C.push hκ id) Uf _ _ _ _ e;exact⟨m+1,hm⟩
 |loop a ih =>
  exact ih.bind λo ho=>.ret λf dk rd cs cx k U C hκ tm h nx ds e=>by
   have hl:∀n,jC fe r f dk rd cs (@Nat.rec (λ_=>St) eG (λ_ again=>o cx again) n) (.lp a k):=λn=>by
    induction n with
    |zero=>intro tm h nx ds e0;cases e0
    |succ n ihn =>
     intro tm h nx ds e0;obtain⟨m,hm⟩:=ho f dk rd cs cx (.lp a k) _ (C.to λ_ _ _=>rfl) ihn _ _ _ _ e0;exact⟨m+1,hm⟩
   obtain⟨m,hm⟩:=hl 1000000 _ _ _ _ e;cases m with
   |zero=>cases hm
   |succ m=>exact⟨m+1,hm⟩
 |rf x ps B3 body _ _ =>
  exact(bT x).bind λg hg=>.ret (aO3 hg)
 |exit id =>
  exact .ret λf dk rd cs cx k U C hκ=>a05 C id
 |scope a ih =>
  exact ih.bind (f:=λo k=>k o) λo ho=>.ret λf dk rd cs cx k U C hκ tm h nx ds e=>by
   have Uf:jC fe r f dk rd cs U (.sc k):=λtm h nx ds e0=>by
    obtain⟨m,hm⟩:=hκ _ _ _ _ e0;exact⟨m+1,hm⟩
   obtain⟨m,hm⟩:=ho f dk rd cs cx (.sc k) U (C.to λ_ _ _=>rfl) Uf _ _ _ _ e;exact⟨m+1,hm⟩
 |ret =>
  exact .ret λf dk rd cs cx k U C hκ=>xA C
 |bad =>
  exact .ret λf dk rd cs cx k U C hκ tm h nx ds e=>by cases e
theorem fu(cd:C):ja fe r cd (ph (KR cd)):=by
 rcases aSf (fe:=fe) (r:=r) cd with⟨o,ho,h⟩|h
 ·have:KR cd=⟨o⟩:=h D.mk
  rw[this];exact ho
 ·have:KR cd=⟨nC⟩:=h D.mk
  rw[this];intro f dk rd cs cx k U C hκ tm h nx ds e;cases e
theorem u4(tm:T V)(h:T O):∀(rs:List RV)(k:List V->aa),OA rs tm h k=fG tm h rs k
 |[],k=>rfl
 |.t q::rs,k=>by
  show ML q tm (λv=>OA rs tm h λl=>k (v::l))=_;rw[dz];simp only[fG,u4 tm h rs]
 |.cell agg n q::rs,k=>by
  show ML q tm (λp=>vP p λo off=>@Bool.rec (λ_=>aa) (Ol h o off λv=>OA rs tm h λl'=>k (v::l')) (Ny h o off n λl=>OA rs tm h λl'=>k (.agg l::l')) agg)=_;rw[dz];simp only[fG,WU];congr 1;funext p;congr 1;funext o off;cases agg
  ·simp only[zl,u4 tm h rs]
  ·simp only[ej,u4 tm h rs]
theorem aHC(l:List V)(k:V->aa):Vh l k=k (SY l):=by
 cases l with
 |nil=>rfl
 |cons v l=>cases l<;>rfl
theorem lU{tm:T V}{h:T O}:∀{rs:List RV}{k:List V->aa},fG tm h rs k=.ok r->∃vs,k vs=.ok r/\∀k',fG tm h rs k'=k' vs
 |[],k,e=>⟨[],e,λ_=>rfl⟩
 |.t q::rs,k,e=>by
  simp only[fG,dI] at e;obtain⟨vs,h1,h2⟩:=lU e;exact⟨_::vs,h1,λk'=>by simp only[fG,dI,h2]⟩
 |.cell agg n q::rs,k,e=>by
  simp only[fG,dI] at e;obtain⟨o,off,hp,e1⟩:=bw e;cases agg with
  |true =>
   simp only at e1;rcases x3 h o off n with⟨l,hl⟩|⟨b,hl⟩
   ·rw[hl] at e1
    obtain⟨vs,h1,h2⟩:=lU e1;exact⟨_,h1,λk'=>by simp only[fG,dI,hp,Kg,hl,h2]⟩
   ·rw[hl] at e1;cases e1
  |false =>
   simp only at e1;rcases(show du (Jn h o off) from(l6 o h).bind λob=>(yb ob).bind λn t=>(eK (Nat.blt off n) 46).bind (Ψ:=λk=>Jl off λq=>gV q t k) (.inl ⟨t.get V.undef (qn off),λk=>rfl⟩)) with⟨l,hl⟩|⟨b,hl⟩
   ·rw[hl] at e1
    obtain⟨vs,h1,h2⟩:=lU e1;exact⟨_,h1,λk'=>by simp only[fG,dI,hp,Kg,hl,h2]⟩
   ·rw[hl] at e1;cases e1
theorem aO6{cl:Cl}{rs:List RV}{A7:Kr}{body:C}(BQ:iy fe r cl)(hf:fe f=.mk body rs)(hk:yV fe r dk cs A7):jC fe r f dk none cs (vm cl rs A7) .iN:=by
 intro tm h nx ds e;have e':S8 ds cl rs A7 tm h nx=.ok r:=e;clear e;induction ds generalizing h nx with
 |nil =>
  have e1:OA rs tm h (λvs=>Vh vs λv=>A7 v h nx)=.ok r:=e';rw[u4] at e1;obtain⟨vs,h1,h2⟩:=lU e1;rw[aHC] at h1;obtain⟨m,hm⟩:=hk _ _ _ h1;refine⟨m+1,?_⟩;simp only[dM,aC,vn,lJ,hf,Vc,h2];exact hm
 |cons d ds ih =>
  cases d with
  |call q args =>
   have e1:cl (.fn q [] []) args true h nx (λ_ h' nx'=>S8 ds cl rs A7 tm h' nx')=.ok r:=e'
   obtain⟨m,hm⟩:=BQ.kg q args f dk none ds tm cs h nx _ (λv h' nx' e0=>by
    obtain⟨m,hm⟩:=ih h' nx' e0;exact⟨m,hm⟩) e1
   exact⟨m+1,hm⟩
  |ml q =>
   have e1:Ws q (λh' nx'=>S8 ds cl rs A7 tm h' nx') h nx=.ok r:=e';simp only[Ws,bW] at e1
   split at e1
   ·rename_i ho
    rw[c8] at e1;obtain⟨m,hm⟩:=ih _ _ e1;refine⟨m+1,?_⟩;simp only[dM,aC,vn,bW,ho,c8];exact hm
   ·cases e1
theorem a26{cl:Cl}{rs:List RV}{A7:Kr}{body:C}{tm:T V}{h:T O}{nx:Q}(BQ:iy fe r cl)(hf:fe f=.mk body rs)(hk:yV fe r dk cs A7)
  (Rw:dk=true->∃f2 IL Hz FP DZ BX,cs=.mk f2 IL Hz FP DZ .iN::BX) (e:dq (ph (KR body)) cl f tm h nx (vm cl rs A7)=.ok r) :
  ∃m,run fe m f dk none [] tm (.code body .nil) cs h nx=.ok r:=by
 have hr:=aO6 (f:=f) (dk:=dk) BQ hf hk
 have hn:jC fe r f dk none cs (vm cl rs A7) .nil:=λtm h nx ds e0=>by
  obtain⟨m,hm⟩:=hr _ _ _ _ e0;exact⟨m+1,hm⟩
 exact fu body f dk none cs ⟨cl,f,none,[],vm cl rs A7,UX⟩ .nil _ ⟨rfl,rfl,BQ,λid=>.inr ⟨rfl,λ_ _=>rfl⟩,λ_=>hr,λ_ h0=>(by cases h0),Rw⟩ hn _ _ _ _ e
theorem a0Y(vs:List V)(k:T V->aa):zN vs 0 .nil k=mH vs .e .nil k:=by
 rw[aAD,kL,show(Q.e:Q)=qn 0 from rfl,vC]
theorem zx(g:GT)(l n:Nat)(k:V->aa):F9 g l n k=I7 g l n k:=by
 induction g with
 |any v=>rfl
 |ar q m v=>rfl
 |leaf l' n' v=>show C7 (kJ (Nat.beq l' l) (Nat.beq n' n)) 131 (k v)=_;rw[cM,fW];rfl
 |nd p a b IY IX =>
  show @Bool.rec (λ_=>(Nat->Nat->(V->aa)->aa)->(Nat->Nat->(V->aa)->aa)->Nat->Nat->(V->aa)->aa) (λ_ b l n k=>b l n k) (λa _ l n k=>a l n k) (Nat.ble n p) (F9 a) (F9 b) l n k=_;simp only[I7];cases Nat.ble n p
  ·exact IX
  ·exact IY
theorem aGS(g:GT)(args:List V)(k:V->aa):Vu g args k=OP g args k:=by
 cases args with
 |nil=>exact zx g 0 0 k
 |cons x l =>
  cases l with
  |cons _ _=>rfl
  |nil =>
  show ZR x g k=_;cases x<;>first|rfl|exact zx g _ _ k
theorem zB(g:GT)(l n:Nat):du (I7 g l n):=by
 induction g with
 |any v=>exact .ret v
 |ar q m v=>exact .bad _
 |leaf l' n' v=>exact(eK _ _).bind (.ret v)
 |nd p a b IY IX =>
  simp only[show I7 (.nd p a b) l n=λk=>(match Nat.ble n p with|true=>I7 a l n k|false=>I7 b l n k) from rfl];cases Nat.ble n p
  ·exact IX
  ·exact IY
theorem aIr(g:GT)(args:List V):du (OP g args):=by
 cases args with
 |nil=>exact zB g 0 0
 |cons x l =>
  cases l with
  |cons _ _=>exact .bad _
  |nil =>
  cases x<;>first|exact zB g _ _|skip
  rename_i vs;show du (Qj g vs);cases vs with
  |nil=>exact .bad _
  |cons y vs =>
   cases vs with
   |cons _ _=>cases y<;>exact .bad _
   |nil =>
    cases y<;>first|exact .bad _|skip
    rename_i x;cases x<;>first|exact .bad _|skip
    cases g<;>first|exact .bad _|exact(eK _ _).bind (.ret _)
theorem yx{cl:Cl}{A7:Kr}{g:Q}{args:List V}{h:T O}{nx:Q}(BQ:iy fe r cl)(hk:yV fe r dk (c::cs) A7)
  (Rw:dk=true->∃f2 IL Hz FP DZ BX,c::cs=.mk f2 IL Hz FP DZ .iN::BX) (e:QU (fe g) cl g args dk h nx A7=.ok r):∃m,fZ fe (run fe m) g args dk (c::cs) h nx=.ok r:=by
 cases hc:fe g with
 |none=>rw[hc] at e;cases e
 |mk body rs =>
  rw[hc] at e;have e1:zN args 0 .nil (λtm=>dq (ph (KR body)) cl g tm h nx (vm cl rs A7))=.ok r:=e;rw[a0Y,kL] at e1;obtain⟨m,hm⟩:=a26 BQ hc hk Rw e1;refine⟨m,?_⟩;simp only[fZ,lJ,hc,kL];exact hm
 |ext n =>
  rw[hc] at e;cases dk with
  |true=>cases e
  |false =>
   have e1:dw n args (λv=>A7 v h nx)=.ok r:=e
   have L8:∀v,du (Sd v):=λv=>by
    cases v<;>first|exact .bad _|skip
    rename_i kd n;cases kd<;>first|exact .bad _|skip
    cases n<;>first|exact .bad _|exact(eK _ _).bind (.ret _)
   have hfb:∀cc l s i,du (tC cc l s i):=λcc l=>by
    induction l with
    |zero=>intro s i;exact .ret _
    |succ l ih =>
     intro s i;simp only[show tC cc (l+1) s i=λk=>(match Nat.beq (s%256) cc with|true=>k (.ofNat i)|false=>aZ (s/256) λs'=>aZ (i+1) λi'=>tC cc l s' i' k) from rfl];cases Nat.beq (s%256) cc
     ·exact(cS _).bind λs'=>(cS _).bind λi'=>ih s' i'
     ·exact .ret _
   have hcb:∀cc l s n,du (yY cc l s n):=λcc l=>by
    induction l with
    |zero=>intro s n;exact .ret _
    |succ l ih =>
     intro s n;simp only[show yY cc (l+1) s n=λk=>(match Nat.beq (s%256) cc with|true=>aZ (s/256) λs'=>aZ (n+1) λn'=>yY cc l s' n' k|false=>aZ (s/256) λs'=>yY cc l s' n k) from rfl];cases Nat.beq (s%256) cc
     ·exact(cS _).bind λs'=>ih s' n
     ·exact(cS _).bind λs'=>(cS _).bind λn'=>ih s' n'
   have ht:du (dw n args):=by
    unfold dw;split
    ·split
     ·exact(WZ _).bind λl s=>(L8 _).bind λc=>(hfb _ _ _ _).bind λi=>.ret _
     ·exact .bad _
    ·split
     ·exact(WZ _).bind λl s=>(L8 _).bind λc=>(hcb _ _ _ _).bind λi=>.ret _
     ·exact .bad _
    ·split
     ·exact .ret _
     ·exact .bad _
   rcases ht with⟨v,hv⟩|⟨b,hv⟩
   ·rw[hv] at e1
    obtain⟨m,hm⟩:=hk _ _ _ e1;refine⟨m,?_⟩;simp only[fZ,lJ,hc,hv];exact hm
   ·rw[hv] at e1;cases e1
 |nb v body rs =>
  rw[hc] at e;cases e
 |tr t =>
  rw[hc] at e;cases dk with
  |true=>cases e
  |false =>
   have e1:Vu t args (λv=>A7 v h nx)=.ok r:=e;rw[aGS] at e1;rcases aIr t args with⟨v,hv⟩|⟨b,hv⟩
   ·rw[hv] at e1
    obtain⟨m,hm⟩:=hk _ _ _ e1;refine⟨m,?_⟩;simp only[fZ,lJ,hc,hv];exact hm
   ·rw[hv] at e1;cases e1
theorem a37:∀(ps:List Q)(vs:List V)(t:T V)(k:T V->aa),VZ ps vs t k=vd ps vs t k
 |[],[],t,k=>rfl
 |[],_::_,t,k=>rfl
 |_::_,[],t,k=>rfl
 |p::ps,v::vs,t,k=>by
  show NM p v t (λt'=>VZ ps vs t' k)=_;simp only[td,a37 ps vs,vd]
theorem ya:∀(ps:List Q)(vs:List V)(t:T V),du (vd ps vs t)
 |[],[],t=>.ret t
 |[],_::_,t=>.bad _
 |_::_,[],t=>.bad _
 |p::ps,v::vs,t=>(show du (pV v p t) from .inl ⟨_,λk=>zr v p t k⟩).bind λt'=>ya ps vs t'
theorem aEU{cl:Cl}{A7:Kr}{args:List V}{h:T O}{nx:Q}(BQ:iy fe r cl)(hk:yV fe r false (c::cs) A7)(e:vl cl l args h nx A7=.ok r):∃m,cY fe (run fe m) (.bN l) args (c::cs) h nx=.ok r:=by
 unfold vl at e;simp only[gB,bW,mX] at e;obtain⟨st,pend,fn,tm,ps,B3,body,CH,ho,e1⟩:=fF e;rw[a37] at e1;rcases ya ps args tm with⟨tm',ht⟩|⟨b,ht⟩
 ·rw[ht] at e1
  have Nc:∀k,(∀id kf kn,eP id k kf kn=kn)->lN fe r fn false (some l) (c::cs) ⟨cl,fn,some l,[],eG,A7⟩ k:=λk Rr =>
   ⟨rfl,rfl,BQ,λid=>.inr ⟨rfl,λkf kn=>Rr id kf kn⟩,λh0=>(by cases h0),λl' h0=>(by cases h0;exact⟨c,cs,rfl,hk⟩),λh0=>(by cases h0)⟩
  have ET:jC fe r fn false (some l) (c::cs) (λ_ s=>OC l .none 0 true A7 s) .nil:=λtm h nx ds e0=>by
   obtain⟨m,hm⟩:=dn (st:=0) (b:=true) (ds:=ds) rfl hk e0;exact⟨m+1,hm⟩
  have E4:jC fe r fn false (some l) (c::cs) (aKi cl l fn body A7) (.begin (.code body .nil)):=λtm h nx ds e0=>by
   have e2:GX l h (λob=>oP ob λst pend GH tm' params B3 Gw CH=>C7 (Nat.beq st 0) 104 (E6 l (.loop (.mk 1 pend GH tm' params B3 Gw CH)) h λh' =>
    ph (KR body) ⟨cl,fn,some l,[],eG,A7⟩ (λ_ s=>OC l .none 0 true A7 s) tm ⟨h',nx,ds⟩))=.ok r:=e0
   simp only[gB,bW,mX,cM,iO,c8] at e2;obtain⟨st,pend,GH,tm',Xi,QZ,Gw,CH,ho,e3⟩:=fF e2;obtain⟨h1,e4⟩:=bQ e3;obtain⟨m,hm⟩:=fu body fn false (some l) (c::cs) _ .nil _ (Nc .nil λ_ _ _=>rfl) ET _ _ _ _ e4;refine⟨m+1,?_⟩;simp only[dM,aC,bW,ho,mE,h1,gd,c8];exact hm
  obtain⟨m,hm⟩:=fu B3 fn false (some l) (c::cs) _ (.begin (.code body .nil)) _ (Nc _ λ_ _ _=>rfl) E4 _ _ _ _ e1;refine⟨m,?_⟩;simp only[cY,bW,ho,mE,ht];exact hm
 ·rw[ht] at e1;cases e1
theorem aL0{cl:Cl}(BQ:iy fe r cl):iy fe r (Zg fe cl):=by
 constructor
 ·intro fv args c cs h nx A7 hk e
  cases fv<;>try(cases e;done)
  ·rename_i q fs caps
   have e1:OM fs args caps (λl=>QU (fe q) cl q l false h nx A7)=.ok r:=e;rw[bu] at e1;obtain⟨m,hm⟩:=yx BQ hk (λh0=>by cases h0) e1;refine⟨m,?_⟩;simp only[cY,eS];exact hm
  ·exact aEU BQ hk e
 ·intro g args f2 IL Hz FP DZ cs h nx A7 hk e
  have e1:OM [] args [] (λl=>QU (fe g) cl g l true h nx A7)=.ok r:=e;rw[bu] at e1;simp only[Ai,Ao] at e1;exact yx BQ hk (λ_=>⟨f2,IL,Hz,FP,DZ,cs,rfl⟩) e1
theorem a01:∀n,iy fe r (jn fe n)
 |0=>⟨λ_ _ _ _ _ _ _ _ e=>(by cases e),λ_ _ _ _ _ _ _ _ _ _ _ _ e=>(by cases e)⟩
 |n+1=>aL0 (a01 n)
theorem aIf{n:Nat}{g:Q}{args:List V}{h0:T O}{nx:Q}{body:C}{rs:List RV}(hg:fe g=.mk body rs)(e:ZI fe (n+1) g args h0 nx=.ok r):∃m,mH args .e .nil (λtm=>run fe m g false none [] tm (.code body .nil) [] h0 nx)=.ok r:=by
 have e1:OM [] args [] (λl=>QU (fe g) (jn fe n) g l false h0 nx λv h _=>.ok (fin v h))=.ok r:=e;rw[bu,hg] at e1;simp only[Ai,Ao] at e1;have e2:zN args 0 .nil (λtm=>dq (ph (KR body)) (jn fe n) g tm h0 nx (vm (jn fe n) rs λv h _=>.ok (fin v h)))=.ok r:=e1;rw[a0Y,kL] at e2;obtain⟨m,hm⟩:=a26 (dk:=false) (cs:=[]) (a01 n) hg (λv h nx e0=>⟨0,e0⟩) (λh0=>by cases h0) e2;exact⟨m,by rw[kL];exact hm⟩
theorem aIe{n:Nat}{g:Q}{args:List V}{nx:Q}{body:C}{rs:List RV}(hg:fe g=.mk body rs)(e:my fe (n+1) g args nx=.ok r):∃m,mH args .e .nil (λtm=>run fe m g false none [] tm (.code body .nil) [] .nil nx)=.ok r:=aIf hg e
end
end Go.CM
end
namespace Go.AM
mutual
def ae.v:ae->CM.V
 |.int k n=>.int k n
 |.str s=>.str s.length (CM.cC s)
 |.bool b=>.bool b
 |.agg l=>.agg (ae.vs l)
 |.slice l=>.aj (ae.vs l)
 |_=>.bN default
def ae.vs:List ae->List CM.V
 |[]=>[]
 |t::ts=>t.v::ae.vs ts
end
theorem ae.vo(l:List ae):ae.vs l=l.map ae.v:=by
 induction l with
 |nil=>simp[ae.vs]
 |cons t ts ih=>simp[ae.vs,ih]
end Go.AM
