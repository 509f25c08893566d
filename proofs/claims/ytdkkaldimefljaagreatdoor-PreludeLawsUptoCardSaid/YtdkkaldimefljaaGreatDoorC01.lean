import Derived.Test.YtdkkaldimefljaaGreatDoorC00
import Derived.Test.YtdkkaldimefljaaGreatDoorA04
import Derived.LaidEqlPtr
set_option linter.all false
noncomputable section
namespace Go.CM
section
theorem aH(n:Nat)(k:Nat->AA):aW n k=k n:=by cases n<;>rfl
theorem gS(n:Int)(k:Int->AA):yJ n k=k n:=by cases n<;>simp only[yJ,aH]
theorem bW{b:Bool}{n:Nat}{k:AA}{v:V}(h:gd b n k=.ok v):b=true/\k=.ok v:=by
 cases b
 ·cases h
 ·exact⟨rfl,h⟩
theorem QR.nat_succ:∀q:QR,q.succ.nat=q.nat+1
 |.e=>rfl
 |.a q=>by simp only[QR.succ,QR.nat]
 |.b q=>by simp only[QR.succ,QR.nat]
 |.c q=>by simp only[QR.succ,QR.nat]
 |.d q=>by simp only[QR.succ,QR.nat,QR.nat_succ q];omega
theorem QR.nat_inj:∀{p q:QR},p.nat=q.nat->p=q
 |.e,.e,_=>rfl
 |.e,.a _,h|.e,.b _,h|.e,.c _,h|.e,.d _,h=>by simp only[QR.nat] at h;omega
 |.a _,.e,h|.b _,.e,h|.c _,.e,h|.d _,.e,h=>by simp only[QR.nat] at h;omega
 |.a p,.a q,h=>by simp only[QR.nat] at h;rw[QR.nat_inj (p:=p) (q:=q) (by omega)]
 |.b p,.b q,h=>by simp only[QR.nat] at h;rw[QR.nat_inj (p:=p) (q:=q) (by omega)]
 |.c p,.c q,h=>by simp only[QR.nat] at h;rw[QR.nat_inj (p:=p) (q:=q) (by omega)]
 |.d p,.d q,h=>by simp only[QR.nat] at h;rw[QR.nat_inj (p:=p) (q:=q) (by omega)]
 |.a _,.b _,h|.a _,.c _,h|.a _,.d _,h|.b _,.a _,h|.b _,.c _,h|.b _,.d _,h|.c _,.a _,h|.c _,.b _,h|.c _,.d _,h|.d _,.a _,h|.d _,.b _,h|.d _,.c _,h=>by
  simp only[QR.nat] at h;omega
theorem QR.ofF_nat:∀(f n:Nat),n<=f->(QR.ofF f n).nat=n
 |0,n,h=>by simp only[QR.ofF,QR.nat];omega
 |f+1,0,_=>rfl
 |f+1,m+1,h=>by
  have ih:=QR.ofF_nat f (m/4) (by omega);have h4:m%4=0\/m%4=1\/m%4=2\/m%4=3:=by omega
  rcases h4 with hr|hr|hr|hr<;>simp only[QR.ofF,hr,QR.nat,ih]<;>omega
theorem QR.of_nat(n:Nat):(QR.of n).nat=n:=QR.ofF_nat n n (Ae _)
theorem QR.beq_iff:∀{p q:QR},p.beq q=true↔p=q
 |.e,.e=>by simp[QR.beq]
 |.e,.a _|.e,.b _|.e,.c _|.e,.d _=>by simp[QR.beq]
 |.a _,.e|.b _,.e|.c _,.e|.d _,.e=>by simp[QR.beq]
 |.a p,.a q|.b p,.b q|.c p,.c q|.d p,.d q=>by simp[QR.beq,QR.beq_iff (p:=p) (q:=q)]
 |.a _,.b _|.a _,.c _|.a _,.d _|.b _,.a _|.b _,.c _|.b _,.d _|.c _,.a _|.c _,.b _|.c _,.d _|.d _,.a _|.d _,.b _|.d _,.c _=>by simp[QR.beq]
section
variable {α:Type}
theorem QN.nt_sc{f:α->Nat}{s:α->α}{z:α}(h:∀q,f (s q)=f q+1)(hz:f z=0)(q:QN α):QN.nt f (QN.sc s z q)=QN.nt f q+1:=by
 cases q<;>simp only[QN.nt,QN.sc,h,hz]<;>omega
theorem QN.nt_inj{f:α->Nat}(h:∀{p q},f p=f q->p=q){p q:QN α}(e:QN.nt f p=QN.nt f q):p=q:=by
 cases p<;>cases q<;>simp only[QN.nt] at e<;>first|rfl|omega|(rename_i p q;rw[h (p:=p) (q:=q) (by omega)])
theorem QN.nt_of{f:α->Nat}{g:Nat->α}(h:∀n,f (g n)=n)(n:Nat):QN.nt f (QN.of g n)=n:=by
 cases n with
 |zero=>rfl
 |succ m =>
  simp only[QN.of]
  have:m%4<4:=Fc _ (by omega)
  match hr:m%4,this with
  |0,_=>simp only[QN.dg,QN.nt,h];omega
  |1,_=>simp only[QN.dg,QN.nt,h];omega
  |2,_=>simp only[QN.dg,QN.nt,h];omega
  |3,_=>simp only[QN.dg,QN.nt,h];omega
theorem QN.bq_iff{f:α->α->Bool}(h:∀{p q},f p q=true↔p=q){p q:QN α}:QN.bq f p q=true↔p=q:=by
 cases p<;>cases q<;>simp[QN.bq,h]
end
theorem Q.nat_succ(q:Q):q.succ.nat=q.nat+1 :=
 QN.nt_sc (QN.nt_sc (QN.nt_sc (QN.nt_sc (QN.nt_sc (QN.nt_sc (QN.nt_sc (QN.nt_sc (QN.nt_sc (QN.nt_sc QR.nat_succ rfl) rfl) rfl) rfl) rfl) rfl) rfl) rfl) rfl) rfl q
theorem Q.nat_inj{p q:Q}(h:p.nat=q.nat):p=q :=
 QN.nt_inj (QN.nt_inj (QN.nt_inj (QN.nt_inj (QN.nt_inj (QN.nt_inj (QN.nt_inj (QN.nt_inj (QN.nt_inj (QN.nt_inj QR.nat_inj))))))))) h
theorem eP(n:Nat):(qn n).nat=n :=
 QN.nt_of (QN.nt_of (QN.nt_of (QN.nt_of (QN.nt_of (QN.nt_of (QN.nt_of (QN.nt_of (QN.nt_of (QN.nt_of QR.of_nat))))))))) n
theorem qI(q:Q):qn q.nat=q:=Q.nat_inj (eP _)
theorem aFS{m n:Nat}(h:qn m=qn n):m=n:=by rw[<-eP m,<-eP n,h]
theorem aBa(n:Nat):(qn n).succ=qn (n+1):=Q.nat_inj (by rw[Q.nat_succ,eP,eP])
theorem Q.beq_iff{p q:Q}:p.beq q=true↔p=q :=
 QN.bq_iff (QN.bq_iff (QN.bq_iff (QN.bq_iff (QN.bq_iff (QN.bq_iff (QN.bq_iff (QN.bq_iff (QN.bq_iff (QN.bq_iff QR.beq_iff)))))))))
instance:DecidableEq Q:=λp q=>decidable_of_iff (p.beq q=true) Q.beq_iff
instance:DecidableEq QR:=λp q=>decidable_of_iff (p.beq q=true) QR.beq_iff
theorem nY(n:Nat)(k:Q->AA):Jz n k=k (qn n):=rfl
theorem eD(q:Q)(k:Q->AA):mW q k=k q.succ:=rfl
theorem wN{α:Type}[Dft α](z:α)(q:Q)(t:T α)(k:α->AA):XY z q t k=k (t.get z q):=rfl
theorem wW{α:Type}[Dft α](z v:α)(q:Q)(t:T α)(k:T α->AA):XO z v q t k=k (t.put z v q):=rfl
theorem oM(q:Q)(fe:Q->CF)(k:CF->AA):XX q fe k=k (fe q):=rfl
theorem TQ.get_put{α:Type}(z v:α):∀(p q:QR)(t:TQ α),(TQ.put z v p t).get z q=if p=q then v else t.get z q
 |.e,.e,t=>by cases t<;>rfl
 |.e,.a q,t|.e,.b q,t|.e,.c q,t|.e,.d q,t=>by cases t<;>simp[TQ.put,TQ.get]
 |.a p,.e,t|.b p,.e,t|.c p,.e,t|.d p,.e,t=>by cases t<;>simp[TQ.put,TQ.get]
 |.a p,.a q,t|.b p,.b q,t|.c p,.c q,t|.d p,.d q,t=>by cases t<;>simp[TQ.put,TQ.get,TQ.get_put z v p q]
 |.a p,.b q,t|.a p,.c q,t|.a p,.d q,t|.b p,.a q,t|.b p,.c q,t|.b p,.d q,t|.c p,.a q,t|.c p,.b q,t|.c p,.d q,t|.d p,.a q,t|.d p,.b q,t|.d p,.c q,t=>by
  cases t<;>simp[TQ.put,TQ.get]
theorem TQ.get_nil{α:Type}(z:α)(q:QR):(TQ.nil:TQ α).get z q=z:=by cases q<;>rfl
def GP{α β U:Type}(g:β->U->α)(p:U->β->β)(v:α):Prop:=(∀q t,g (p q t) q=v)/\∀q r t,q≠r->g (p q t) r=g t r
theorem N5.gp{α β U:Type}{g:β->U->α}{p:U->β->β}{v:α}(h:GP g p v):GP (N5.gt g) (N5.pt p v) v:=by
 constructor
 ·intro q t
  cases t;cases q<;>simp[N5.gt,N5.pt,h.1]
 ·intro q r t hn
  cases t;cases q<;>cases r<;>simp only[N5.gt,N5.pt]<;>first|exact absurd rfl hn|exact h.2 _ _ _ (λe=>hn (by rw[e]))
theorem TQ.gp{α:Type}(z v:α):GP (TQ.get z) (TQ.put z v) v :=
 ⟨λq t=>by rw[TQ.get_put,Bo rfl],λq r t h=>by rw[TQ.get_put,Ax h]⟩
theorem T.gp{α:Type}[Dft α](v:α):GP (N5.gt g9) (N5.pt (p9 v) v) v :=
 N5.gp (N5.gp (N5.gp (N5.gp (N5.gp (N5.gp (N5.gp (N5.gp (N5.gp (N5.gp (TQ.gp _ v))))))))))
theorem N5.gt_nil{α β U:Type}{g:β->U->α}{z:α}{n:β}(h:∀r,g n r=z)(r:QN U):N5.gt g (.mk z n n n n) r=z:=by cases r<;>simp[N5.gt,h]
theorem T.get_put{α:Type}[Dft α](z v:α)(p q:Q)(t:T α):(T.put z v p t).get z q=if p=q then v else t.get z q:=by
 split
 ·rename_i h;subst h;exact(T.gp v).1 p t
 ·rename_i h;exact(T.gp v).2 p q t h
theorem T.get_nil{α:Type}[Dft α](z:α)(q:Q):(T.nil:T α).get z q=Dft.z :=
 N5.gt_nil (N5.gt_nil (N5.gt_nil (N5.gt_nil (N5.gt_nil (N5.gt_nil (N5.gt_nil (N5.gt_nil (N5.gt_nil (N5.gt_nil (TQ.get_nil _)))))))))) q
theorem T.get_put_same{α:Type}[Dft α](z v:α)(p:Q)(t:T α):(T.put z v p t).get z p=v:=by rw[T.get_put,Bo rfl]
theorem T.get_put_ne{α:Type}[Dft α](z v:α){p q:Q}(t:T α)(h:p≠q):(T.put z v p t).get z q=t.get z q:=by rw[T.get_put,Ax h]
abbrev T.at(t:T V)(n:Nat):V:=t.get V.undef (qn n)
def dP:List V->Nat->T V->T V
 |[],_,t=>t
 |v::vs,i,t=>dP vs (i+1) (t.put V.undef v (qn i))
theorem dT(vs:List V):∀(i:Nat)(t:T V)(k:T V->AA),kE vs i t k=k (dP vs i t):=by
 induction vs with
 |nil=>intro i t k;rfl
 |cons v vs ih =>
  intro i t k;show Jz i (λq=>pV v q t λt'=>aW (i+1) λi'=>kE vs i' t' k)=_;rw[nY,pV,wW,aH,ih];rfl
theorem jF:∀(vs:List V)(i:Nat)(t:T V)(j:Nat),(dP vs i t).at j=if i<=j/\j<i+vs.length then vs.getD (j-i) V.undef else t.at j
 |[],i,t,j=>by simp[dP];intro h h';omega
 |v::vs,i,t,j=>by
  simp only[dP];rw[jF vs (i+1)];by_cases h:i=j
  ·subst h
   rw[Ax (by omega),T.at,T.get_put_same,Bo (by simp)];simp
  ·by_cases h2:i+1<=j/\j<i+1+vs.length
   ·rw[Bo h2,Bo (by simp;omega)]
    rw[show j-i=j-(i+1)+1 by omega];simp
   ·rw[Ax h2,T.at,T.get_put_ne _ _ _ (λe=>h (aFS e)),Ax (by simp;omega)]
def mU(n i:Nat)(t:T V):List V:=(List.range' i n).map t.at
theorem rQ(n:Nat):∀(i:Nat)(t:T V)(k:List V->AA),vE n i t k=k (mU n i t):=by
 induction n with
 |zero=>intro i t k;rfl
 |succ n ih =>
  intro i t k;have ih':=λj k=>ih j t k
  show Jz i (λq=>gV q t λv=>aW (i+1) λi'=>vE n i' t λl=>k (v::l))=_;rw[nY,gV,wN,aH,ih'];simp[mU,Gu]
theorem mA(n i:Nat)(t:T V):(mU n i t).length=n:=by simp[mU]
theorem tU{n i:Nat}{t:T V}{j:Nat}(h:j<n):(mU n i t)[j]?=some (t.at (i+j)):=by simp[mU,h]
theorem cI{α:Type}(l:List α):∀k:Nat->AA,qX l k=k l.length:=by
 induction l with
 |nil=>intro k;rfl
 |cons a l ih=>intro k;show qX l (λn=>aW (n+1) k)=_;rw[ih,aH];rfl
theorem aAU{α:Type}(l:List α):∀(n:Nat)(k:α->AA),ym l n k=match l[n]? with|some v=>k v|none=>.bad 1:=by
 induction l with
 |nil=>intro n k;rfl
 |cons a l ih=>intro n k;cases n with|zero=>rfl|succ n=>exact ih n k
theorem aAV{α:Type}{l:List α}{n:Nat}{k:α->AA}{r:V}(h:ym l n k=.ok r):∃v,l[n]?=some v/\k v=.ok r:=by
 rw[aAU] at h;cases e:l[n]? with
 |none=>rw[e] at h;cases h
 |some v=>rw[e] at h;exact⟨v,rfl,h⟩
def ov(z:List V):Nat->Nat->T V->T V
 |0,_,t=>t
 |n+1,i,t=>ov z n (i+z.length) (dP z i t)
theorem pL(z:List V)(n:Nat):∀(i:Nat)(t:T V)(k:T V->AA),zy z n i t k=k (ov z n i t):=by
 induction n with
 |zero=>intro i t k;rfl
 |succ n ih =>
  intro i t k;show kE z i t (λt'=>qX z λm=>aW (i+m) λi'=>zy z n i' t' k)=_;rw[dT,cI,aH,ih];rfl
def UP:List V->Q->T V->T V
 |[],_,t=>t
 |v::vs,q,t=>UP vs q.succ (t.put V.undef v q)
theorem lG(vs:List V):∀(q:Q)(t:T V)(k:T V->AA),xJ vs q t k=k (UP vs q t):=by
 induction vs with
 |nil=>intro q t k;rfl
 |cons v vs ih =>
  intro q t k;show pV v q t (λt'=>mW q λq'=>xJ vs q' t' k)=_;rw[pV,wW,eD,ih];rfl
theorem xN:∀(vs:List V)(n:Nat)(t:T V),UP vs (qn n) t=dP vs n t
 |[],n,t=>rfl
 |v::vs,n,t=>by simp only[UP,dP,aBa,xN vs]
theorem fL:∀(l m:List V)(k:List V->AA),vX l m k=k (l++m)
 |[],m,k=>rfl
 |v::l,m,k=>by simp only[vX,fL l];rfl
def xE(tm:T V):X->Option V
 |.t q=>some (tm.get V.undef q)
 |.c v=>some v
 |.bad=>none
theorem eF{x:X}{tm:T V}{k:V->AA}{r:V}(h:xK x tm k=.ok r):∃v,xE tm x=some v/\k v=.ok r:=by
 cases x with
 |t q=>simp only[xK,gV,wN] at h;exact⟨_,rfl,h⟩
 |c v=>exact⟨v,rfl,h⟩
 |bad=>cases h
def Nk(tm:T V):List X->Option (List V)
 |[]=>some []
 |x::xs=>(xE tm x).bind λv=>(Nk tm xs).map (v::·)
theorem uV{tm:T V}:∀{xs:List X}{k:List V->AA}{r:V},H4 xs tm k=.ok r->∃vs,Nk tm xs=some vs/\k vs=.ok r
 |[],k,r,h=>⟨[],rfl,h⟩
 |x::xs,k,r,h=>by
  have h':xK x tm (λv=>H4 xs tm λl=>k (v::l))=.ok r:=h;obtain⟨v,h1,h2⟩:=eF h';obtain⟨vs,h3,h4⟩:=uV h2;exact⟨v::vs,by simp[Nk,h1,h3],h4⟩
theorem gk{v:V}{k:IntKind->Int->AA}{r:V}(h:MZ v k=.ok r):∃kd n,v=.int kd n/\k kd n=.ok r:=by
 cases v<;>first|exact⟨_,_,rfl,h⟩|cases h
theorem xO{v:V}{k:Bool->AA}{r:V}(h:Jv v k=.ok r):∃b,v=.bool b/\k b=.ok r:=by
 cases v<;>first|exact⟨_,rfl,h⟩|cases h
theorem jJ{v:V}{k:Nat->AA}{r:V}(h:H3 v k=.ok r):∃kd n,v=.int kd (.ofNat n)/\k n=.ok r:=by
 cases v with
 |int kd n=>cases n with
  |ofNat m=>exact⟨_,_,rfl,h⟩
  |negSucc m=>cases h
 |_=>cases h
theorem l7{v:V}{k:Q->Nat->AA}{r:V}(h:II v k=.ok r):∃o off,v=.ptr o off/\k o off=.ok r:=by
 cases v<;>first|exact⟨_,_,rfl,h⟩|cases h
theorem qP{v:V}{k:Nat->Nat->AA}{r:V}(h:JN v k=.ok r):∃l n,v=.str l n/\k l n=.ok r:=by
 cases v<;>first|exact⟨_,_,rfl,h⟩|cases h
theorem aDr{v:V}{k:List V->AA}{r:V}(h:ON v k=.ok r):∃l,v=.agg l/\k l=.ok r:=by
 cases v<;>first|exact⟨_,rfl,h⟩|cases h
theorem nu{o:O}{k:Nat->T V->AA}{r:V}(h:br o k=.ok r):∃n t,((∃BT B6 ty ex,o=.row n t BT B6 ty ex)\/o=.ro n t)/\k n t=.ok r:=by
 cases o<;>first|exact⟨_,_,.inl ⟨_,_,_,_,rfl⟩,h⟩|exact⟨_,_,.inr rfl,h⟩|cases h
theorem rX{o:O}{k:List (V×V)->AA}{r:V}(h:rW o k=.ok r):∃es,(o=.map es\/o=.mapd es)/\k es=.ok r:=by
 cases o<;>first|exact⟨_,.inl rfl,h⟩|exact⟨_,.inr rfl,h⟩|cases h
theorem aAL{o:O}{k:List (V×V)->AA}{r:V}(h:R9 o k=.ok r):∃es,o=.map es/\k es=.ok r:=by
 cases o<;>first|exact⟨_,rfl,h⟩|cases h
theorem gF{o:O}{k:Nat->Jump->Q->T V->List Q->C->C->Q->AA}{r:V}(h:mV o k=.ok r) :
  ∃st pend fn tm ps BW body B8,o=.loop (.mk st pend fn tm ps BW body B8)/\k st pend fn tm ps BW body B8=.ok r:=by
 cases o with
 |loop l=>cases l;exact⟨_,_,_,_,_,_,_,_,rfl,h⟩
 |_=>cases h
abbrev T.ob(h:T O)(q:Q):O:=h.get O.dead q
theorem bV(q:Q)(h:T O)(k:O->AA):gO q h k=k (h.ob q):=wN _ _ _ _
theorem cM(v:O)(q:Q)(h:T O)(k:T O->AA):pO v q h k=k (h.put .dead v q):=wW _ _ _ _ _
theorem dZ(q:Q)(t:T V)(k:V->AA):gV q t k=k (t.get V.undef q):=wN _ _ _ _
theorem U1(v:V)(q:Q)(t:T V)(k:T V->AA):pV v q t k=k (t.put V.undef v q):=wW _ _ _ _ _
end
section
open Go.AM (oneC)
abbrev Rho:=Q->Option (Nat×Nat)
def Rho.le(J J':Rho):Prop:=∀q x,J q=some x->J' q=some x
theorem Rho.le_refl(J:Rho):J.le J:=λ_ _ h=>h
theorem Rho.le_trans{a b c:Rho}(h:a.le b)(k:b.le c):a.le c:=λq x e=>k q x (h q x e)
def isCell:V->Bool
 |.agg _=>false
 |.tup _=>false
 |.bot=>false
 |_=>true
inductive VR (J:Rho):V->Value->Prop where
 |bool (b:Bool):VR J (.bool b) (.bool b)
 |int (k:IntKind) (n:Int):VR J (.int k n) (.int k n)
 |str (l n:Nat) (s:List UInt8) (hl:s.length=l) (hn:packL s=n):VR J (.str l n) (.string ⟨⟨s⟩⟩)
 |nilp:VR J .nilp (.pointer none)
 |ptr (o:Q) (off b N:Nat) (h:J o=some (b,N)):VR J (.ptr o off) (.pointer (some ⟨b,off,none⟩))
 |nils:VR J .nils (.slice none 0 0)
 |sl (o:Q) (off len cap b N:Nat) (h:J o=some (b,N)) (hc:len<=cap):VR J (.sl o off len cap) (.slice (some ⟨b,off,none⟩) len cap)
 |su (o:Q) (off len sz b N cap:Nat) (h:J o=some (b,N)) (hc:len<=cap) (hr:off+cap*sz=N):VR J (.su o off len sz) (.slice (some ⟨b,off,none⟩) len cap)
 |se (a:Addr) (cap:Nat):VR J .se (.slice (some a) 0 cap)
 |nilm:VR J .nilm (.map none)
 |map (o:Q) (b N:Nat) (h:J o=some (b,N)):VR J (.map o) (.map (some b))
 |nilf:VR J .nilf .nilFunc
 |fn (f:Q) (fs cs:List V) (us vs:List Value) (hl:fs.length=us.length) (hm:cs.length=vs.length)
   (hx:∀(i:Nat)(c:V)(v:Value),fs[i]?=some c->us[i]?=some v->VR J c v)
   (hy:∀(i:Nat)(c:V)(v:Value),cs[i]?=some c->vs[i]?=some v->VR J c v):VR J (.fn f fs cs) (.func (.func f.nat) ⟨us⟩ ⟨vs⟩)
 |yld (o:Q) (b N:Nat) (h:J o=some (b,N)):VR J (.yld o) (.func (.yield b) #[] #[])
 |nili:VR J .nili .nilIface
 |ifc (t:Nat) (x:V) (v:Value) (h:VR J x v):VR J (.ifc t x) (.iface t v)
 |agg (cs:List V) (vs:List Value) (hl:cs.length=vs.length) (hk:∀c∈cs,isCell c=true)
   (hx:∀(i:Nat)(c:V)(v:Value),cs[i]?=some c->vs[i]?=some v->VR J c v):VR J (.agg cs) (.agg ⟨vs⟩)
 |tup (cs:List V) (vs:List Value) (hl:cs.length=vs.length)
   (hx:∀(i:Nat)(c:V)(v:Value),cs[i]?=some c->vs[i]?=some v->VR J c v):VR J (.tup cs) (.tuple ⟨vs⟩)
theorem VR.mono{J J':Rho}(hp:J.le J'){x:V}{v:Value}(h:VR J x v):VR J' x v:=by
 induction h with
 |bool b=>exact .bool b
 |int k n=>exact .int k n
 |str l n s hl hn=>exact .str l n s hl hn
 |nilp=>exact .nilp
 |ptr o off b N h=>exact .ptr o off b N (hp _ _ h)
 |nils=>exact .nils
 |sl o off len cap b N h hc=>exact .sl o off len cap b N (hp _ _ h) hc
 |su o off len sz b N cap h hc hr=>exact .su o off len sz b N cap (hp _ _ h) hc hr
 |se a cap=>exact .se a cap
 |nilm=>exact .nilm
 |map o b N h=>exact .map o b N (hp _ _ h)
 |nilf=>exact .nilf
 |fn f fs cs us vs hl hm hx hy IM H8=>exact .fn f fs cs us vs hl hm IM H8
 |yld o b N h=>exact .yld o b N (hp _ _ h)
 |nili=>exact .nili
 |ifc t x v h ih=>exact .ifc t x v ih
 |agg cs vs hl hk hx ih=>exact .agg cs vs hl hk ih
 |tup cs vs hl hx ih=>exact .tup cs vs hl ih
def VRs(J:Rho)(cs:List V)(vs:List Value):Prop:=cs.length=vs.length/\∀(i:Nat)(c:V)(v:Value),cs[i]?=some c->vs[i]?=some v->VR J c v
theorem VRs.mono{J J':Rho}(hp:J.le J'){cs:List V}{vs:List Value}(h:VRs J cs vs):VRs J' cs vs:=⟨h.1,λi c v h1 h2=>(h.2 i c v h1 h2).mono hp⟩
theorem VRs.nil{J:Rho}:VRs J [] []:=⟨rfl,λi c v h=>by simp at h⟩
theorem VRs.cons{J:Rho}{c:V}{v:Value}{cs:List V}{vs:List Value}(h:VR J c v)(hs:VRs J cs vs):VRs J (c::cs) (v::vs) :=
 ⟨by simp[hs.1],λi c' v' h1 h2=>by
  cases i with
  |zero=>simp at h1 h2;subst h1;subst h2;exact h
  |succ i=>exact hs.2 i c' v' (by simpa using h1) (by simpa using h2)⟩
theorem VRs.head{J:Rho}{c:V}{v:Value}{cs:List V}{vs:List Value}(h:VRs J (c::cs) (v::vs)):VR J c v:=h.2 0 c v rfl rfl
theorem VRs.tail{J:Rho}{c:V}{v:Value}{cs:List V}{vs:List Value}(h:VRs J (c::cs) (v::vs)):VRs J cs vs :=
 ⟨by simpa using h.1,λi c' v' h1 h2=>h.2 (i+1) c' v' (by simpa using h1) (by simpa using h2)⟩
theorem VRs.inv_nil{J:Rho}{vs:List Value}(h:VRs J [] vs):vs=[]:=by
 have:=h.1
 exact Cm.1 (by simpa using this.symm)
theorem VRs.inv_cons{J:Rho}{c:V}{cs:List V}{vs:List Value}(h:VRs J (c::cs) vs):∃v B7,vs=v::B7/\VR J c v/\VRs J cs B7:=by
 cases vs with
 |nil=>have:=h.1;simp at this
 |cons v B7=>exact⟨v,B7,rfl,h.head,h.tail⟩
theorem VRs.append{J:Rho}:∀{cs ds:List V}{vs us:List Value},VRs J cs vs->VRs J ds us->VRs J (cs++ds) (vs++us)
 |[],ds,vs,us,h,k=>by rw[h.inv_nil];exact k
 |c::cs,ds,vs,us,h,k=>by
  obtain⟨v,B7,rfl,h1,h2⟩:=h.inv_cons;exact .cons h1 (h2.append k)
theorem VRs.drop{J:Rho}{cs:List V}{vs:List Value}(h:VRs J cs vs)(n:Nat):VRs J (cs.drop n) (vs.drop n) :=
 ⟨by simp[h.1],λi c v h1 h2=>h.2 (n+i) c v (by simpa using h1) (by simpa using h2)⟩
theorem VRs.take{J:Rho}{cs:List V}{vs:List Value}(h:VRs J cs vs)(n:Nat):VRs J (cs.take n) (vs.take n) :=
 ⟨by simp[h.1],λi c v h1 h2=>by
  rw[Bm] at h1 h2
  split at h1
  ·rename_i hi;rw[Bo hi] at h2;exact h.2 i c v h1 h2
  ·cases h1⟩
theorem VRs.get{J:Rho}{cs:List V}{vs:List Value}(h:VRs J cs vs){i:Nat}{c:V}(hc:cs[i]?=some c):∃v,vs[i]?=some v/\VR J c v:=by
 have hi:i<vs.length:=by rw[<-h.1];exact(Ab.1 hc).1
 exact⟨vs[i],by simp[hi],h.2 i c _ hc (by simp[hi])⟩
section inv
variable {J:Rho}{v:Value}
theorem VR.inv_bool{b:Bool}(h:VR J (.bool b) v):v=.bool b:=by cases h;rfl
theorem VR.inv_int{k:IntKind}{n:Int}(h:VR J (.int k n) v):v=.int k n:=by cases h;rfl
theorem VR.inv_str{l n:Nat}(h:VR J (.str l n) v):∃s:List UInt8,v=.string ⟨⟨s⟩⟩/\s.length=l/\packL s=n:=by cases h;exact⟨_,rfl,by assumption,by assumption⟩
theorem VR.inv_ptr{o:Q}{off:Nat}(h:VR J (.ptr o off) v):∃b N,v=.pointer (some ⟨b,off,none⟩)/\J o=some (b,N):=by cases h;exact⟨_,_,rfl,by assumption⟩
theorem VR.inv_agg{cs:List V}(h:VR J (.agg cs) v):∃vs,v=.agg ⟨vs⟩/\VRs J cs vs/\∀c∈cs,isCell c=true:=by cases h with|agg _ vs hl hk hx=>exact⟨vs,rfl,⟨hl,hx⟩,hk⟩
theorem VR.inv_tup{cs:List V}(h:VR J (.tup cs) v):∃vs,v=.tuple ⟨vs⟩/\VRs J cs vs:=by cases h with|tup _ vs hl hx=>exact⟨vs,rfl,hl,hx⟩
theorem VR.inv_map{o:Q}(h:VR J (.map o) v):∃b N,v=.map (some b)/\J o=some (b,N):=by cases h;exact⟨_,_,rfl,by assumption⟩
theorem VR.inv_fn{f:Q}{fs cs:List V}(h:VR J (.fn f fs cs) v):∃us vs,v=.func (.func f.nat) ⟨us⟩ ⟨vs⟩/\VRs J fs us/\VRs J cs vs:=by cases h with|fn _ _ _ us vs hl hm hx hy=>exact⟨us,vs,rfl,⟨hl,hx⟩,hm,hy⟩
theorem VR.inv_yld{o:Q}(h:VR J (.yld o) v):∃b N,v=.func (.yield b) #[] #[]/\J o=some (b,N):=by cases h;exact⟨_,_,rfl,by assumption⟩
theorem VR.one{x:V}(h:VR J x v)(hc:isCell x=true):oneC v=true:=by cases h<;>first|rfl|simp[isCell] at hc
theorem VR.undef:VR J V.undef Go.undef:=.tup [] [] rfl λi c v h=>by simp at h
end inv
def VC(v:V)(l:List V):Prop:=v=.agg l\/(isCell v=true/\l=[v])
theorem tC{v:V}{k:List V->AA}{r:V}(h:JM v k=.ok r):∃l,VC v l/\k l=.ok r:=by
 cases v<;>first|exact⟨_,.inr ⟨rfl,rfl⟩,h⟩|exact⟨_,.inl rfl,h⟩|cases h
theorem VR.cells{J:Rho}{x:V}{v:Value}{l:List V}(h:VR J x v)(hc:VC x l):VRs J l v.cells.toList/\(∀c∈l,isCell c=true)/\∀u∈v.cells.toList,oneC u=true:=by
 rcases hc with rfl|⟨h1,rfl⟩
 ·obtain⟨vs,rfl,h2,h3⟩:=h.inv_agg
  refine⟨h2,h3,λu hu=>?_⟩;obtain⟨i,hi⟩:=Ds hu;have EJ:vs[i]?=some u:=hi;have AR:i<l.length:=by rw[h2.1];exact(Ab.1 EJ).1
  exact(h2.2 i l[i] u (by simp[AR]) EJ).one (h3 _ (El AR))
 ·have h2:=h.one h1
  have hv:v.cells.toList=[v]:=by cases v<;>simp_all [Value.cells,oneC]
  rw[hv];exact⟨.cons h .nil,λc hc=>by simp at hc;subst hc;exact h1,λu hu=>by simp at hu;subst hu;exact h2⟩
theorem VRs.oneC{J:Rho}{cs:List V}{vs:List Value}(h:VRs J cs vs)(hk:∀c∈cs,isCell c=true):∀u∈vs,oneC u=true:=λu hu=>by
 obtain⟨i,hi⟩:=Ds hu;have AR:i<cs.length:=by rw[h.1];exact(Ab.1 hi).1
 exact(h.2 i cs[i] u (by simp[AR]) hi).one (hk _ (El AR))
theorem gX{J:Rho}{v:Value}(h:mE (jV v)=true):VR J (jV v) v:=by
 unfold jV at h ⊢
 split at h<;>first|exact .bool _|exact .int _ _|exact .nilp|exact .nils|exact .nilm|exact .nilf|exact .nili|exact .str _ _ _ rfl rfl|cases h
theorem ct{v:Value}(h:mE (jV v)=true):isCell (jV v)=true:=by
 unfold jV at h ⊢
 split at h<;>first|rfl|cases h
theorem fX{J:Rho}{v:Value}(h:mE (iD v)=true):VR J (iD v) v:=by
 cases v with
 |agg cs =>
  simp only[iD] at h ⊢;cases he:(cs.toList.map jV).all mE with
  |false=>rw[he] at h;cases h
  |true =>
   have CN:=An.1 he;refine .agg _ _ (by simp) (λc hc=>?_) (λi c u h1 h2=>?_)
   ·simp only[Cu] at hc
    obtain⟨u,hu,rfl⟩:=hc;exact ct (CN _ (Cu.2 ⟨u,hu,rfl⟩))
   ·rw[Ao] at h1
    rw[h2] at h1;simp at h1;subst h1;exact gX (CN _ (Cu.2 ⟨u,Be h2,rfl⟩))
 |_ =>
  simp only[iD] at h ⊢;exact gX h
abbrev ev(tmps:Array Value)(ds:List Deferred):Operand->Value:=(⟨tmps,ds⟩:Act).eval
def XR(J:Rho)(tm:T V)(tmps:Array Value)(xs:List Operand):Prop:=∀t,Operand.tmp t∈xs->VR J (tm.at t) (tmps.getD t Go.undef)
def ZT(P:Program)(J:Rho):Prop:=∀g,g<P.globals.size->∃N,J (qn g)=some (g,N)
theorem fV{P:Program}{J:Rho}{tm:T V}{tmps:Array Value}{ds:List Deferred}{x:Operand}{v:V}(hG:ZT P J)(hT:XR J tm tmps [x])(h:xE tm (aE P x)=some v):VR J v (ev tmps ds x):=by
 cases x with
 |tmp t =>
  simp only[aE,xE,Ak] at h;subst h;exact hT t (by simp)
 |const c =>
  simp only[aE] at h
  split at h
  ·rename_i hb
   simp only[xE,Ak] at h;subst h;exact fX hb
  ·cases h
 |global g =>
  simp only[aE] at h
  split at h
  ·rename_i hb
   simp only[xE,Ak] at h;subst h;obtain⟨N,hN⟩:=hG g (by simpa[Dc] using hb);exact .ptr _ _ _ _ hN
  ·cases h
 |func f =>
  simp only[aE,xE,Ak] at h;subst h
  have:=VR.fn (J:=J) (qn f) [] [] [] [] rfl rfl (λi c v h=>by simp at h) (λi c v h=>by simp at h)
  rw[eP] at this;exact this
theorem XR.sub{J:Rho}{tm:T V}{tmps:Array Value}{xs ys:List Operand}(h:XR J tm tmps xs)(hs:∀x∈ys,x∈xs):XR J tm tmps ys:=λt ht=>h t (hs _ ht)
theorem pJ{P:Program}{J:Rho}{tm:T V}{tmps:Array Value}{ds:List Deferred}(hG:ZT P J):∀{xs:List Operand}{vs:List V},XR J tm tmps xs->Nk tm (xs.map (aE P))=some vs->VRs J vs (xs.map (ev tmps ds))
 |[],vs,hT,h=>by simp[Nk] at h;subst h;exact .nil
 |x::xs,vs,hT,h=>by
  simp only[Aw,Nk,Ch,Al] at h;obtain⟨v,h1,l,h2,rfl⟩:=h;exact .cons (fV hG (hT.sub (by simp)) h1) (pJ hG (hT.sub (λy hy=>by simp[hy])) h2)
end
section
open Go.AM (oneC overwrite)
variable {P:Program}{w0 w:World}{J J':Rho}{h h':T O}{nx:Q}
inductive Rr:Nat->LoopState->Prop where
 |ready:Rr 0 .ready
 |busy:Rr 1 .busy
 |done:Rr 2 .done
 |exhausted:Rr 3 .exhausted
inductive JR:Jump->Option Code->Prop where
 |none:JR .none none
 |ret:JR .ret (some .ret)
 |exit (id:Nat):JR (.exit id) (some (.exit id))
structure TR (J:Rho) (n:Nat) (tm:T V) (tmps:Array Value):Prop where
 size:n<=tmps.size
 rel:∀t,VR J (tm.at t) (tmps.getD t Go.undef)
theorem TR.mono{n:Nat}{tm:T V}{tmps:Array Value}(hp:J.le J')(h:TR J n tm tmps):TR J' n tm tmps:=⟨h.size,λt=>(h.rel t).mono hp⟩
def nt(P:Program)(f:Nat):Nat:=((P.funcs[f]?).map (·.ntmps)).getD 0
inductive LR (P:Program) (J:Rho):Lp->Loop->Prop where
 |mk (st:Nat) (pend:Jump) (fn:Nat) (tm:T V) (B8:Q) (r:Loop) (N:Nat) (h1:Rr st r.state) (h2:JR pend r.pending) (h3:r.fn=fn) (h4:TR J (nt P fn) tm r.tmps)
   (h5:∀t∈r.params.toList,t<nt P fn) (h6:J B8=some (r.defers,N)) :
   LR P J (.mk st pend (qn fn) tm (r.params.toList.map qn) (dF P (nt P fn) r.assign) (dF P (nt P fn) r.body) B8) r
theorem LR.mono{l:Lp}{r:Loop}(hp:J.le J')(h:LR P J l r):LR P J' l r:=by
 cases h with
 |mk st pend fn tm B8 r N h1 h2 h3 h4 h5 h6=>exact .mk st pend fn tm B8 r N h1 h2 h3 (h4.mono hp) h5 (hp _ _ h6)
structure MR (J:Rho) (es:List (V×V)) (AD:List MapEntry):Prop where
 len:es.length=AD.length
 key:∀(i:Nat) p e,es[i]?=some p->AD[i]?=some e->VR J p.1 e.key
 val:∀(i:Nat) p e,es[i]?=some p->AD[i]?=some e->VR J p.2 e.val
def Born(AD:List MapEntry)(clock:Nat):Prop:=clock=AD.length/\∀(i:Nat)(e:MapEntry),AD[i]?=some e->e.born=i
theorem MR.mono{es:List (V×V)}{AD:List MapEntry}(hp:J.le J')(h:MR J es AD):MR J' es AD:=⟨h.len,λi p e h1 h2=>(h.key i p e h1 h2).mono hp,λi p e h1 h2=>(h.val i p e h1 h2).mono hp⟩
inductive OR (P:Program) (J:Rho) (w:World) (B0:Nat):O->Nat->Nat->Prop where
 |dead (b N:Nat):OR P J w B0 .dead b N
 |row (n:Nat) (t:T V) (BT:List Q) (B6:Nat) (T:TypeId) (ex:Bool) (b N:Nat) (vs:List Value) (hb:B0<=b) (hw:w.heap[b]?=some (.cells ⟨vs⟩ T (0,0))) (hN:vs.length=N) (hn:n<=N) (hf:B6<=n) (he:ex=true->n=N)
   (ha:∀a∈BT,J a≠none) (hx:∀(i:Nat) v,i<n->vs[i]?=some v->VR J (t.at i) v) (hk:∀i,i<n->isCell (t.at i)=true):OR P J w B0 (.row n t BT B6 T ex) b N
 |ro (n:Nat) (t:T V) (b N:Nat) (vs:List Value) (T:TypeId) (fz:Nat×Nat) (hw:w.heap[b]?=some (.cells ⟨vs⟩ T fz)) (hn:n<=vs.length)
   (hx:∀(i:Nat) v,i<n->vs[i]?=some v->VR J (t.at i) v) (hk:∀i,i<n->isCell (t.at i)=true):OR P J w B0 (.ro n t) b N
 |map (es:List (V×V)) (AD:List MapEntry) (cl b N:Nat) (hb:B0<=b) (hw:w.heap[b]?=some (.map ⟨AD⟩ cl)) (hm:MR J es AD) (hc:Born AD cl):OR P J w B0 (.map es) b N
 |mapd (es:List (V×V)) (AD:List MapEntry) (cl b N:Nat) (hb:B0<=b) (hw:w.heap[b]?=some (.map ⟨AD⟩ cl)) (hm:MR J es AD):OR P J w B0 (.mapd es) b N
 |loop (l:Lp) (r:Loop) (b N:Nat) (hb:B0<=b) (hw:w.heap[b]?=some (.loop r)) (hl:LR P J l r):OR P J w B0 (.loop l) b N
 |dfd (taken:Bool) (b N:Nat) (hb:B0<=b) (hw:w.heap[b]?=some (.deferred (if taken then none else some []))):OR P J w B0 (.dfd taken) b N
def Sh(x y:O)(q:Q):Prop :=
 match x with
 |.row _ _ BT B6 _ _=>y=.dead\/∃n t,y=.ro n t/\q∈BT/\n<=B6
 |.map _|.mapd _|.loop _|.dfd _=>y=.dead
 |.dead|.ro _ _=>True
structure HR (P:Program) (w0:World) (J:Rho) (h:T O) (nx:Q) (w:World):Prop where
 size:w0.heap.size<=w.heap.size
 old:∀b,b<w0.heap.size->w.heap[b]?=w0.heap[b]?
 os:w.os=w0.os
 tape:w.tape=w0.tape
 output:w.output=w0.output
 glob:ZT P J
 fresh:∀q,nx.nat<=q.nat->J q=none
 lt:∀q b N,J q=some (b,N)->b<w.heap.size
 obj:∀q b N,J q=some (b,N)->OR P J w w0.heap.size (h.ob q) b N
 sep:∀q q' b N N',q≠q'->J q=some (b,N)->J q'=some (b,N')->Sh (h.ob q) (h.ob q') q'
 dead:∀q,nx.nat<=q.nat->h.ob q=.dead
theorem OR.mono{B0:Nat}{o:O}{b N:Nat}{w':World}(hp:J.le J')(C4:w'.heap[b]?=w.heap[b]?)(h:OR P J w B0 o b N):OR P J' w' B0 o b N:=by
 cases h with
 |dead=>exact .dead _ _
 |row n t BT B6 T ex _ _ vs hb hw hN hn hf he ha hx hk =>
  exact .row n t BT B6 T ex _ _ vs hb (by rw[C4];exact hw) hN hn hf he (λa h1=>by
   cases e:J a with
   |none=>exact absurd e (ha a h1)
   |some x=>rw[hp a x e];simp) (λi v h1 h2=>(hx i v h1 h2).mono hp) hk
 |ro n t _ _ vs T fz hw hn hx hk=>exact .ro n t _ _ vs T fz (by rw[C4];exact hw) hn (λi v h1 h2=>(hx i v h1 h2).mono hp) hk
 |map es AD cl _ _ hb hw hm hc=>exact .map es AD cl _ _ hb (by rw[C4];exact hw) (hm.mono hp) hc
 |mapd es AD cl _ _ hb hw hm=>exact .mapd es AD cl _ _ hb (by rw[C4];exact hw) (hm.mono hp)
 |loop l r _ _ hb hw hl=>exact .loop l r _ _ hb (by rw[C4];exact hw) (hl.mono hp)
 |dfd taken _ _ hb hw=>exact .dfd taken _ _ hb (by rw[C4];exact hw)
theorem HR.cell(H:HR P w0 J h nx w){o:Q}{b N n off:Nat}{t:T V}(ho:J o=some (b,N))(hr:(∃BT B6 ty ex,h.ob o=.row n t BT B6 ty ex)\/h.ob o=.ro n t)(hi:off<n) :
  ∃v,w.cell? ⟨b,off,none⟩=some v/\VR J (t.at off) v/\isCell (t.at off)=true:=by
 have:=H.obj o b N ho
 rcases hr with⟨BT,B6,ty,ex,hr⟩|hr
 ·rw[hr] at this
  cases this with
  |row _ _ _ _ _ _ _ _ vs hb hw hN hn hf he ha hx hk =>
   have AR:off<vs.length:=by omega
   exact⟨vs[off],by rw[AM.cell_of_heap hw];simp[AR],hx off _ hi (by simp[AR]),hk off hi⟩
 ·rw[hr] at this
  cases this with
  |ro _ _ _ _ vs T fz hw hn hx hk =>
   have AR:off<vs.length:=by omega
   exact⟨vs[off],by rw[AM.cell_of_heap hw];simp[AR],hx off _ hi (by simp[AR]),hk off hi⟩
theorem HR.cells(H:HR P w0 J h nx w){o:Q}{b N n off m:Nat}{t:T V}(ho:J o=some (b,N))(hr:(∃BT B6 ty ex,h.ob o=.row n t BT B6 ty ex)\/h.ob o=.ro n t)(hi:off+m<=n) :
  ∃vs:List Value,vs.length=m/\(∀(j:Nat) v,vs[j]?=some v->w.cell? ⟨b,off+j,none⟩=some v)/\VRs J (mU m off t) vs/\∀c∈mU m off t,isCell c=true:=by
 have hex:∀j,j<m->∃v,w.cell? ⟨b,off+j,none⟩=some v/\VR J (t.at (off+j)) v/\isCell (t.at (off+j))=true:=λj hj=>H.cell ho hr (by omega)
 refine⟨(List.range m).map λj=>(w.cell? ⟨b,off+j,none⟩).getD Go.undef,by simp,λj v hv=>?_,⟨by simp[mA],λi c v hc hv=>?_⟩,λc hc=>?_⟩
 ·have hj:j<m:=by have:=(Ab.1 hv).1;simpa using this
  obtain⟨u,hu,_⟩:=hex j hj;rw[Ao,Cv hj] at hv;simp[hu] at hv ⊢;exact hv
 ·have hj:i<m:=by have:=(Ab.1 hc).1;simpa[mA] using this
  obtain⟨u,hu,h1,_⟩:=hex i hj;rw[tU hj] at hc;rw[Ao,Cv hj] at hv;simp[hu] at hc hv;subst hc;subst hv;exact h1
 ·obtain⟨i,EJ⟩:=Ds hc
  have hj:i<m:=by have:=(Ab.1 EJ).1;simpa[mA] using this
  rw[tU hj] at EJ;simp at EJ;subst EJ;exact(hex i hj).choose_spec.2.2
structure Keep (β:Nat) (J:Rho) (h:T O) (J':Rho) (h':T O):Prop where
 le:J.le J'
 pend:∀q:Q,q.nat < β->J q=none->J' q=none/\h'.ob q=h.ob q
theorem Keep.refl(β:Nat)(J:Rho)(h:T O):Keep β J h J h:=⟨Rho.le_refl _,λ_ _ hq=>⟨hq,rfl⟩⟩
theorem Keep.trans{β:Nat}{J1 J2 J3:Rho}{h1 h2 h3:T O}(a:Keep β J1 h1 J2 h2)(b:Keep β J2 h2 J3 h3):Keep β J1 h1 J3 h3 :=
 ⟨Rho.le_trans a.le b.le,λq hq hn=>by
  obtain⟨x,y⟩:=a.pend q hq hn;obtain⟨x',y'⟩:=b.pend q hq x;exact⟨x',y'.trans y⟩⟩
theorem Keep.down{β β':Nat}(hle:β'<=β)(a:Keep β J h J' h'):Keep β' J h J' h':=⟨a.le,λq hq=>a.pend q (by omega)⟩
theorem HR.drawn(H:HR P w0 J h nx w)(d:Nat):HR P w0 J h nx { w with drawn:=d } :=
 ⟨H.size,H.old,H.os,H.tape,H.output,H.glob,H.fresh,H.lt,λq b N e=>OR.mono (w:=w) (w':={ w with drawn:=d }) (Rho.le_refl _) rfl (H.obj q b N e),H.sep,H.dead⟩
theorem HR.pend(H:HR P w0 J h nx w){q:Q}(hq:J q=none)(o:O){nx':Q}(hx:nx.nat<=nx'.nat)(hqx:q.nat < nx'.nat):HR P w0 J (h.put .dead o q) nx' w:=by
 have BD:∀p x,J p=some x->q≠p:=λp x e he=>by subst he;rw[hq] at e;cases e
 refine⟨H.size,H.old,H.os,H.tape,H.output,H.glob,λp hp=>H.fresh p (by omega),H.lt,λp b N e=>?_,λp p' b N N' h1 h2 h3=>?_,λp hp=>?_⟩
 ·rw[T.ob,T.get_put_ne _ _ _ (BD p _ e)];exact H.obj p b N e
 ·rw[T.ob,T.ob,T.get_put_ne _ _ _ (BD p _ h2),T.get_put_ne _ _ _ (BD p' _ h3)];exact H.sep p p' b N N' h1 h2 h3
 ·rw[T.ob,T.get_put_ne _ _ _ (λe=>by subst e;omega)];exact H.dead p (by omega)
def Rho.set(J:Rho)(q:Q)(b N:Nat):Rho:=λp=>if p=q then some (b,N) else J p
theorem Rho.set_le{q:Q}{b N:Nat}(hq:J q=none):J.le (J.set q b N):=λp x e=>by
 unfold Rho.set;split
 ·subst_vars;rw[hq] at e;cases e
 ·exact e
theorem Rho.set_same{q:Q}{b N:Nat}:J.set q b N q=some (b,N):=by simp[Rho.set]
theorem HR.born(H:HR P w0 J h nx w){q:Q}(hq:J q=none)(hn:q.nat < nx.nat){x:Obj}{N:Nat}
  (ho:OR P (J.set q w.heap.size N) (w.alloc x) w0.heap.size (h.ob q) w.heap.size N):HR P w0 (J.set q w.heap.size N) h nx (w.alloc x):=by
 have hle:=Rho.set_le (b:=w.heap.size) (N:=N) hq;have AR:∀p b N',J p=some (b,N')->b<w.heap.size:=H.lt;refine⟨?_,λb hb=>?_,H.os,H.tape,H.output,λg hg=>?_,λp hp=>?_,λp b N' e=>?_,λp b N' e=>?_,λp p' b N1 N2 h1 h2 h3=>?_,H.dead⟩
 ·have:=H.size
  show w0.heap.size<=(w.heap.push x).size;simp;omega
 ·rw[AM.heap_alloc_old _ (Bx hb H.size)];exact H.old b hb
 ·obtain⟨N',e⟩:=H.glob g hg
  exact⟨N',hle _ _ e⟩
 ·unfold Rho.set
  rw[Ax (λe=>by subst e;omega)];exact H.fresh p hp
 ·show b<(w.heap.push x).size
  simp only[Array.size_push];unfold Rho.set at e
  split at e
  ·simp at e;omega
  ·have:=AR _ _ _ e;omega
 ·by_cases hp:p=q
  ·subst hp
   rw[Rho.set_same] at e;simp at e;obtain⟨rfl,rfl⟩:=e;exact ho
  ·unfold Rho.set at e
   rw[Ax hp] at e;exact(H.obj p b N' e).mono hle (AM.heap_alloc_old _ (AR _ _ _ e))
 ·unfold Rho.set at h2 h3
  by_cases hp:p=q
  ·rw[Bo hp] at h2
   simp at h2;rw[Ax (λe=>h1 (by rw[hp,e]))] at h3
   have:=AR _ _ _ h3;omega
  ·rw[Ax hp] at h2
   by_cases LV:p'=q
   ·rw[Bo LV] at h3
    simp at h3
    have:=AR _ _ _ h2;omega
   ·rw[Ax LV] at h3
    exact H.sep p p' b N1 N2 h1 h2 h3
end
section
open Go.AM (oneC overwrite run_underlying run_sizeOf cY aS bA bO b8)
variable {P:Program}{w0 w:World}{J:Rho}{h:T O}{nx:Q}
theorem pC(l:Nat):rA l=256^l:=by
 unfold rA;rw[show Nat.pow 2 (8*l)=2^(8*l) from rfl,Nat.pow_mul]
theorem uj:∀s:List UInt8,packL s<256^s.length
 |[]=>by simp[packL]
 |b::s=>by
  have h1:=uj s;have h2:b.toNat < 256:=b.toNat_lt;simp only[packL,Ay,Nat.pow_succ];omega
theorem mH:∀a b:List UInt8,packL (a++b)=packL a+packL b*256^a.length
 |[],b=>by simp[packL]
 |x::a,b=>by
  simp only[Dl,packL,mH a b,Ay,Nat.pow_succ,Nat.mul_add];rw[De,Nat.mul_left_comm 256 (packL b),Hl 256 (256^a.length)]
theorem pA:∀{a b:List UInt8},a.length=b.length->packL a=packL b->a=b
 |[],[],_,_=>rfl
 |[],_::_,h,_=>by simp at h
 |_::_,[],h,_=>by simp at h
 |x::a,y::b,h,e=>by
  simp only[packL] at e;have h1:x.toNat < 256:=x.toNat_lt;have h2:y.toNat < 256:=y.toNat_lt;have h3:x.toNat=y.toNat:=by omega
  have h4:=pA (a:=a) (b:=b) (by simpa using h) (by omega);rw[Gw.1 h3,h4]
theorem uL(s:List UInt8)(k:Nat)(hk:k<=s.length):packL (s.take k)=packL s%256^k/\packL (s.drop k)=packL s/256^k:=by
 have h1:=mH (s.take k) (s.drop k);rw[Dg,Cj,Nat.min_eq_left hk] at h1;have h2:=uj (s.take k);rw[Cj,Nat.min_eq_left hk] at h2;have hp:0<256^k:=Nat.pow_pos (by omega);rw[h1];constructor
 ·rw[Nat.add_mul_mod_self_right,Ey h2]
 ·rw[Nat.add_mul_div_right _ _ hp,Nat.div_eq_of_lt h2,Bn]
theorem aCq(s:List UInt8)(j:Nat)(hj:j<s.length):packL s/256^j%256=(s[j]).toNat:=by
 have h1:=(uL s j (by omega)).2;rw[Cc hj] at h1;rw[<-h1];simp only[packL];have h2:(s[j]).toNat < 256:=(s[j]).toNat_lt;omega
theorem aw(k:IntKind)(m:Nat)(hm:m<=LD k):k.wrap (.ofNat m)=.ofNat m:=by
 cases k<;>simp only[LD] at hm<;>simp[IntKind.wrap,IntKind.bits,IntKind.signed]<;>omega
theorem oI{k:IntKind}{n:Int}{kn:Int->AA}{r:V}(e:jH k n kn=.ok r):kn (k.wrap n)=.ok r:=by
 cases n with
 |ofNat m =>
  simp only[jH,aH] at e
  split at e
  ·rename_i hb
   rw[aw k m (Ah hb)];exact e
  ·rw[gS] at e;exact e
 |negSucc m=>simp only[jH,aH,gS] at e;exact e
theorem aGS(x y:Int):Tv x y=x+y:=by
 unfold Tv;split<;>rfl
theorem aHV(x y:Int):X3 x y=x*y:=by
 unfold X3;split<;>rfl
theorem aBk(x y:Int):zk x y=x-y:=by
 unfold zk;split
 ·rename_i a b
  split
  ·rename_i hb
   have:=Ah hb
   simp only[Du];omega
  ·rename_i hb
   have:¬b<=a:=λh=>by rw[Aj h] at hb;cases hb
   simp only[Du];omega
 ·rfl
theorem yX(x y:Int):LB x y=decide (x<=y):=by
 unfold LB;split
 ·rename_i a b
  rw[Dz,Nat.ble_eq,Am];simp only[Du];omega
 ·rename_i a b;rw[eq_comm,Av];simp only[Du];omega
 ·rename_i a b;rw[eq_comm,Am];simp only[Du];omega
 ·rename_i a b
  rw[Dz,Nat.ble_eq,Am];omega
theorem tM(x y:Int):Ll x y=(x==y):=by
 unfold Ll;split
 ·rename_i a b;rw[Dz,Hf,Dq];simp only[Du];omega
 ·rename_i a b;rw[Dz,Hf,Dq];omega
 ·rename_i h1 h2
  rw[eq_comm,Em];intro e;subst e;cases x with
  |ofNat a=>exact h1 a a rfl rfl
  |negSucc a=>exact h2 a a rfl rfl
theorem nD{b:Bool}{k:V->AA}{r:V}(e:bK b k=.ok r):k (.bool b)=.ok r:=by cases b<;>exact e
theorem wP{k k':IntKind}(e:Nat.beq (Ja k) (Ja k')=true):k=k':=by
 cases k<;>cases k'<;>first|rfl|(exact absurd e (by decide))
theorem aGZ{op:BinOp}{kd:IntKind}{x y:Int}{k:V->AA}{r:V}{t:TypeId}{ox oy:Operand}(e:rM op kd x y k=.ok r) :
  ∃c u,k c=.ok r/\(eqGuard op t ox oy (.int kd x) (.int kd y)).run P w=.ok () w/\(binOp op t (.int kd x) (.int kd y)).run P w=.ok u w/\VR J c u:=by
 have hg:(eqGuard op t ox oy (.int kd x) (.int kd y)).run P w=.ok () w:=by rw[eqGuard_at_int];rfl
 cases op<;>simp only[rM] at e<;>first|cases e|skip
 case add =>
  have e:=oI e;rw[aGS] at e;exact⟨_,.int kd (kd.wrap (x+y)),e,hg,by simp[binOp,Op.intArith],.int _ _⟩
 case sub =>
  have e:=oI e;rw[aBk] at e;exact⟨_,.int kd (kd.wrap (x-y)),e,hg,by simp[binOp,Op.intArith],.int _ _⟩
 case mul =>
  have e:=oI e;rw[aHV] at e;exact⟨_,.int kd (kd.wrap (x*y)),e,hg,by simp[binOp,Op.intArith],.int _ _⟩
 case rem =>
  obtain⟨h1,h2⟩:=bW e;rw[gS] at h2;rw[tM] at h1;have h0:¬y=0:=by simpa using h1
  exact⟨_,.int kd (x.tmod y),h2,hg,by simp[binOp,Op.intDiv,h0],.int _ _⟩
 case eql =>
  have e:=nD e;rw[tM] at e;exact⟨_,.bool (x==y),e,hg,by simp[binOp,Op.intCmp],.bool _⟩
 case neq =>
  have e:=nD e;rw[tM] at e;exact⟨_,.bool (!(x==y)),e,hg,by simp[binOp,Op.intCmp,bne],.bool _⟩
 case lss =>
  have e:=nD e;rw[yX,show(!decide (y<=x))=decide (x<y) by rw[Dz];simp] at e;exact⟨_,.bool (decide (x<y)),e,hg,by simp[binOp,Op.intCmp],.bool _⟩
 case leq =>
  have e:=nD e;rw[yX] at e;exact⟨_,.bool (decide (x<=y)),e,hg,by simp[binOp,Op.intCmp],.bool _⟩
 case gtr =>
  have e:=nD e;rw[yX,show(!decide (x<=y))=decide (x>y) by rw[Dz];simp] at e;exact⟨_,.bool (decide (x>y)),e,hg,by simp[binOp,Op.intCmp],.bool _⟩
 case geq =>
  have e:=nD e;rw[yX] at e;exact⟨_,.bool (decide (x>=y)),e,hg,by simp[binOp,Op.intCmp],.bool _⟩
theorem yx{s s':List UInt8}:(Nat.beq s.length s'.length&&Nat.beq (packL s) (packL s'))=(s==s'):=by
 rw[Dz,Ac,Hf,Hf,Dq];exact⟨λ⟨a,b⟩=>pA a b,λe=>by subst e;exact⟨rfl,rfl⟩⟩
theorem aG1{op:BinOp}{s s':List UInt8}{k:V->AA}{r:V}{t:TypeId}{ox oy:Operand}(e:OV op s.length (packL s) s'.length (packL s') k=.ok r) :
  ∃c u,k c=.ok r/\(eqGuard op t ox oy (.string ⟨⟨s⟩⟩) (.string ⟨⟨s'⟩⟩)).run P w=.ok () w/\(binOp op t (.string ⟨⟨s⟩⟩) (.string ⟨⟨s'⟩⟩)).run P w=.ok u w/\VR J c u:=by
 have hg:(eqGuard op t ox oy (.string ⟨⟨s⟩⟩) (.string ⟨⟨s'⟩⟩)).run P w=.ok () w:=by rw[eqGuard_at_string];rfl
 cases op<;>simp only[OV] at e<;>first|cases e|skip
 case add =>
  obtain⟨h1,h2⟩:=bW e;rw[aH,aH] at h2;have hle:=Ah h1
  have NC:¬((s.length:Int)+(s'.length:Int)>IntKind.i64.max):=by
   rw[show IntKind.i64.max=9223372036854775807 by decide];omega
  refine⟨_,.string ⟨⟨s++s'⟩⟩,h2,hg,?_,.str _ _ _ (by simp) (by rw[mH,pC])⟩;have h3:((⟨⟨s⟩⟩:ByteArray).size:Int)+((⟨⟨s'⟩⟩:ByteArray).size:Int)=(s.length:Int)+(s'.length:Int):=rfl
  have h4:(⟨⟨s⟩⟩:ByteArray)++⟨⟨s'⟩⟩=⟨⟨s++s'⟩⟩:=by
   apply ByteArray.ext;simp
  simp only[binOp,Op.stringOp];rw[Ax (by simpa[h3] using NC),h4];rfl
 case eql =>
  have e:=nD e;rw[yx] at e;exact⟨_,.bool (s==s'),e,hg,by simp[binOp,Op.stringOp,ByteArray.toList_eq],.bool _⟩
 case neq =>
  have e:=nD e;rw[yx] at e;exact⟨_,.bool (!(s==s')),e,hg,by simp[binOp,Op.stringOp,ByteArray.toList_eq],.bool _⟩
theorem aG0{op:BinOp}{a b:V}{k:V->AA}{r:V}{t:TypeId}{ox oy:Operand}{va vb:Value}(ha:VR J a va)(hb:VR J b vb)(e:xn op a b k=.ok r) :
  ∃c u,k c=.ok r/\(eqGuard op t ox oy va vb).run P w=.ok () w/\(binOp op t va vb).run P w=.ok u w/\VR J c u:=by
 cases a<;>simp only[xn] at e<;>first|cases e|skip
 ·rename_i kd x
  cases b<;>simp only at e<;>first|cases e|skip
  obtain⟨h1,h2⟩:=bW e;obtain rfl:=wP h1;rw[ha.inv_int,hb.inv_int];exact aGZ h2
 ·cases b<;>simp only at e<;>first|cases e|skip
  obtain⟨s,rfl,rfl,rfl⟩:=ha.inv_str;obtain⟨s',rfl,rfl,rfl⟩:=hb.inv_str;exact aG1 e
end
section
open Go.AM (oneC overwrite run_underlying run_sizeOf cY aS bA bO aU aT AY CP b8 cF)
variable {P:Program}{w0 w:World}{J:Rho}{h:T O}{nx:Q}{tm:T V}{tmps:Array Value}{ds:List Deferred}{k:V->AA}{r v:V}
variable {dst:Option Nat}{ty:TypeId}{pos:String}{AH:Array Edge}{A8:Option (Nat×Bool)}
def PG(P:Program)(w:World)(J:Rho)(tmps:Array Value)(ds:List Deferred)(o:Oper)(v:V):Prop:=∃u,(execOp (ev tmps ds) o).run P w=.ok (.value u) w/\VR J v u
theorem XR.of{xs:List Operand}{ys:Array Operand}(hT:XR J tm tmps ys.toList)(hs:∀x∈xs,x∈ys.toList):XR J tm tmps xs:=λt ht=>hT t (hs _ ht)
theorem opd(H:HR P w0 J h nx w){o:Oper}(hT:XR J tm tmps o.op.operands.toList){x:Operand}(hx:x∈o.op.operands.toList){k:V->AA}(e:xK (aE P x) tm k=.ok r) :
  ∃c,k c=.ok r/\VR J c (ev tmps ds x):=by
 obtain⟨c,h1,h2⟩:=eF e;exact⟨c,h2,fV H.glob (hT.sub (by simpa using hx)) h1⟩
theorem aMy(H:HR P w0 J h nx w){x:Operand}(hT:XR J tm tmps (Op.operands (.move x)).toList)(e:pK (.mv (aE P x)) tm h k=.ok r):∃v,k v=.ok r/\PG P w J tmps ds ⟨dst,.move x,ty,pos,AH,A8⟩ v:=by
 obtain⟨c,e,hc⟩:=opd (ds:=ds) (o:=⟨dst,.move x,ty,pos,AH,A8⟩) H hT (by simp[Op.operands]) e;exact⟨c,e,_,by simp[execOp],hc⟩
theorem aFJ(H:HR P w0 J h nx w){x:Operand}(hT:XR J tm tmps (Op.operands (.assign x)).toList)(e:pK (.mv (aE P x)) tm h k=.ok r):∃v,k v=.ok r/\PG P w J tmps ds ⟨dst,.assign x,ty,pos,AH,A8⟩ v:=by
 obtain⟨c,e,hc⟩:=opd (ds:=ds) (o:=⟨dst,.assign x,ty,pos,AH,A8⟩) H hT (by simp[Op.operands]) e;exact⟨c,e,_,by simp[execOp],hc⟩
theorem aMz(H:HR P w0 J h nx w){c a b:Operand}(hT:XR J tm tmps (Op.operands (.pick c a b)).toList)(e:pK (.pick (aE P c) (aE P a) (aE P b)) tm h k=.ok r) :
  ∃v,k v=.ok r/\PG P w J tmps ds ⟨dst,.pick c a b,ty,pos,AH,A8⟩ v:=by
 have OD:=hT;simp only[pK] at e;obtain⟨x,e,hx⟩:=opd (ds:=ds) (o:=⟨dst,.pick c a b,ty,pos,AH,A8⟩) H hT (by simp[Op.operands]) e;obtain⟨t,rfl,e⟩:=xO e;have FC:=hx.inv_bool;cases t with
 |true =>
  obtain⟨y,e,hy⟩:=opd (ds:=ds) (o:=⟨dst,.pick c a b,ty,pos,AH,A8⟩) H hT (by simp[Op.operands]) e;exact⟨y,e,_,by simp[execOp,FC,Go.asBool],hy⟩
 |false =>
  obtain⟨y,e,hy⟩:=opd (ds:=ds) (o:=⟨dst,.pick c a b,ty,pos,AH,A8⟩) H hT (by simp[Op.operands]) e;exact⟨y,e,_,by simp[execOp,FC,Go.asBool],hy⟩
theorem y4{o:O}(e:yZ o=true):∃n t BT B6 ty ex,o=.row n t BT B6 ty ex:=by
 cases o<;>first|exact⟨_,_,_,_,_,_,rfl⟩|cases e
theorem aEm(H:HR P w0 J h nx w){o o':Q}{off DG b b' N N':Nat}{k:Bool->AA}(h1:J o=some (b,N))(h2:J o'=some (b',N'))(e:Ib h o off o' DG k=.ok r) :
  ∃t,k t=.ok r/\(t=true->b=b'/\off=DG)/\(t=false->(⟨b,off,none⟩:Addr)≠⟨b',DG,none⟩/\(∃ca ta,w.heap[b]?=some (.cells ca ta (0,0)))/\∃ca ta,w.heap[b']?=some (.cells ca ta (0,0))):=by
 have row:∀{q:Q}{b N:Nat},J q=some (b,N)->yZ (h.ob q)=true->∃ca ta,w.heap[b]?=some (.cells ca ta (0,0)):=λ{q b N} hq hl=>by
  obtain⟨n,t,BT,B6,ty,ex,ho⟩:=y4 hl
  have:=H.obj q b N hq
  rw[ho] at this;cases this with|row _ _ _ _ _ _ _ _ vs hb hw=>exact⟨_,_,hw⟩
 unfold Ib at e
 split at e
 ·rename_i hb
  obtain rfl:=Q.beq_iff.1 hb;rw[h1] at h2;obtain⟨rfl,rfl⟩:b=b'/\N=N':=by simpa using h2
  split at e
  ·rename_i ho
   exact⟨true,e,λ_=>⟨rfl,Aa ho⟩,(λh=>by cases h)⟩
  ·rename_i ho
   rw[bV] at e;obtain⟨hg,e⟩:=bW e;refine⟨false,e,(λh=>by cases h),λ_=>⟨λhe=>?_,row h1 hg,row h1 hg⟩⟩;simp at he;subst he;rw[Cs] at ho;cases ho
 ·rename_i hb
  rw[bV,bV] at e;obtain⟨hg,e⟩:=bW e;rw[Ac] at hg;refine⟨false,e,(λh=>by cases h),λ_=>⟨λhe=>?_,row h1 hg.1,row h2 hg.2⟩⟩;simp at he;obtain⟨rfl,_⟩:=he;have BD:o≠o':=λe=>by rw[Q.beq_iff.2 e] at hb;cases hb
  have hs:=H.sep o o' b N N' BD h1 h2;obtain⟨n,t,BT,B6,ty,ex,ho⟩:=y4 hg.1;obtain⟨n',t',Lo,Lj,E5,ex',DL⟩:=y4 hg.2;rw[ho,DL] at hs;simp[Sh] at hs
def ZU(P:Program)(t:TypeId):EqM->Operand->Prop
 |.ptr,_=>∃e j,P.underlying t=some (.pointer e)/\P.info? e=some j/\j.size≠0
 |.bool,_=>P.underlying t=some .bool
 |.nilS,y=>y=.const (.slice none 0 0)/\∃e,P.underlying t=some (.slice e)
 |.nilM,y=>y=.const (.map none)/\∃a b,P.underlying t=some (.map a b)
 |.nilF,y=>y=.const .nilFunc/\∃a b c,P.underlying t=some (.func a b c)
 |.nilI,y=>y=.const .nilIface/\∃m,P.underlying t=some (.interface m)
theorem aEj(H:HR P w0 J h nx w){m:EqM}{a b:V}{k:Bool->AA}{t:TypeId}{x y:Operand}{u u':Value}(ht:ZU P t m y)(ha:VR J a u)(hb:VR J b u')(hy:∀c,y=.const c->u'=c)(e:GR m h a b k=.ok r) :
  ∃z,k z=.ok r/\(∀op,(eqGuard op t x y u u').run P w=.ok () w)/\(binOp .eql t u u').run P w=.ok (.bool z) w/\(binOp .neq t u u').run P w=.ok (.bool (!z)) w:=by
 have neq:∀{u u':Value}{z:Bool},(∀n,(Op.equalIn (n+1) t u u').run P w=.ok z w)->(binOp .eql t u u'=do pure (.bool (<-Op.equal t u u')))->(binOp .neq t u u'=do pure (.bool (!(<-Op.equal t u u')))) ->
   (binOp .eql t u u').run P w=.ok (.bool z) w/\(binOp .neq t u u').run P w=.ok (.bool (!z)) w:=λ{u u' z} h1 h2 h3=>by
  have h4:(Op.equal t u u').run P w=.ok z w:=h1 9999;rw[h2,h3];constructor
  ·simp[h4]
  ·simp[h4]
 cases m with
 |ptr =>
  obtain⟨el,j,hu,hi,hs⟩:=ht;simp only[GR] at e;cases a<;>simp only at e<;>first|cases e|skip
  ·cases ha
   cases b<;>simp only at e<;>first|cases e|skip
   ·cases hb
    exact⟨true,e,λop=>by rw[eqGuard_at_pointer];rfl,neq (λn=>by simp[Op.equalIn,run_underlying hu]) rfl rfl⟩
   ·obtain⟨bb,N,rfl,h1⟩:=hb.inv_ptr
    exact⟨false,e,λop=>by rw[eqGuard_at_pointer];rfl,neq (λn=>by simp[Op.equalIn,run_underlying hu]) rfl rfl⟩
  ·obtain⟨b1,N1,rfl,h1⟩:=ha.inv_ptr
   cases b<;>simp only at e<;>first|cases e|skip
   ·cases hb
    exact⟨false,e,λop=>by rw[eqGuard_at_pointer];rfl,neq (λn=>by simp[Op.equalIn,run_underlying hu]) rfl rfl⟩
   ·obtain⟨b2,N2,rfl,h2⟩:=hb.inv_ptr
    obtain⟨z,e,HF,GU⟩:=aEm H h1 h2 e;refine⟨z,e,λop=>by rw[eqGuard_at_pointer];rfl,?_⟩;cases z with
    |true =>
     obtain⟨rfl,rfl⟩:=HF rfl;exact neq (λn=>by simp[Op.equalIn,run_underlying hu,sizeOf,typeInfo,hi,run_sameAddr_same]) rfl rfl
    |false =>
     obtain⟨g1,⟨ca,ta,g2⟩,cb,tb,g3⟩:=GU rfl;exact neq (λn=>by simp[Op.equalIn,run_underlying hu,sizeOf,typeInfo,hi,hs,run_sameAddr_other w g1 g2 g3]) rfl rfl
 |bool =>
  simp only[GR] at e;obtain⟨p,hp,e1⟩:=xO e;obtain⟨q,hq,e2⟩:=xO e1;subst hp;subst hq;rw[ha.inv_bool,hb.inv_bool];have hu:P.underlying t=some .bool:=ht;exact⟨p==q,e2,λop=>by rw[eqGuard_at_bool];rfl,neq (λn=>by simp[Op.equalIn,run_underlying hu]) rfl rfl⟩
 |nilS =>
  simp only[GR] at e;obtain⟨rfl,el,hu⟩:=ht;obtain rfl:=hy _ rfl;cases ha<;>simp only at e<;>first|cases e|skip
  all_goals exact⟨_,e,λop=>by rw[eqGuard_at_slice];rfl,neq (λn=>by simp[Op.equalIn,run_underlying hu]) rfl rfl⟩
 |nilM =>
  simp only[GR] at e;obtain⟨rfl,a',b',hu⟩:=ht;obtain rfl:=hy _ rfl;cases ha<;>simp only at e<;>first|cases e|skip
  all_goals exact⟨_,e,λop=>by cases op<;>rfl,neq (λn=>by simp[Op.equalIn,run_underlying hu]) rfl rfl⟩
 |nilF =>
  simp only[GR] at e;obtain⟨rfl,a',b',c',hu⟩:=ht;obtain rfl:=hy _ rfl;cases ha<;>simp only at e<;>first|cases e|skip
  all_goals exact⟨_,e,λop=>by cases op<;>rfl,neq (λn=>by simp[Op.equalIn,run_underlying hu]) rfl rfl⟩
 |nilI =>
  simp only[GR] at e;obtain⟨rfl,m',hu⟩:=ht;obtain rfl:=hy _ rfl;cases ha<;>simp only at e<;>first|cases e|skip
  ·exact⟨_,e,λop=>by rw[eqGuard_nil_constR];rfl,neq (λn=>by simp[Op.equalIn,run_underlying hu]) rfl rfl⟩
  ·exact⟨_,e,λop=>by rw[eqGuard_at_iface];rfl,neq (λn=>by simp[Op.equalIn,run_underlying hu]) rfl rfl⟩
end
end Go.CM
end
