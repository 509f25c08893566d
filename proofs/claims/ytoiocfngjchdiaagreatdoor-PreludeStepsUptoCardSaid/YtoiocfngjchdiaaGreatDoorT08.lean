import Derived.WalkSpells
import Derived.Test.YtoiocfngjchdiaaGreatDoorK01
import Derived.Test.YtoiocfngjchdiaaGreatDoorK02
import Derived.Test.YtoiocfngjchdiaaGreatDoorK03
set_option linter.all false
set_option maxRecDepth 100000
set_option maxHeartbeats 8000000
namespace Go.Proofs.YtoiocfngjchdiaaGreatDoor
open Go.AM
abbrev Jj(l:List Int):Prop:=l.Pairwise (·<=·)
theorem aCl:(En 37).find nD=some (.fn [120] z0 (En 37)):=by kernel_rfl
theorem zr:(En 38).find nD=some (.fn [120] z0 (En 37)):=by kernel_rfl
theorem uo:(En 39).find mI=some (.fn [97] nf (En 39)):=by kernel_rfl
theorem aFB:(En 40).find wC=some (.fn [108] z9 (En 40)):=by kernel_rfl
theorem gf:(En 41).find oN=some (.fn [108] z7 (En 41)):=by kernel_rfl
theorem aCt:(En 41).find wC=some (.fn [108] z9 (En 40)):=by kernel_rfl
theorem aCs:(En 41).find mI=some (.fn [97] nf (En 39)):=by kernel_rfl
theorem XB{x y:Int}(h:x<y):JL [60] x y=some (Pk true):=by rw[Re];simp[h]
theorem XC{x y:Int}(h:¬x<y):JL [60] x y=some (Pk false):=by rw[Re];simp[h]
abbrev aFX:ExD:=cs (va [108]) [cn bC [va [120],cn dC []],cs (op [60] (va [104]) (va [120])) [cn bC [va [104],ap (ap (va nD) (va [120])) (va [116])],cn bC [va [120],va [108]]] [pc c9 [],pc cH []]] [pc dC [],pc bC [pv [104],pv [116]]]
theorem zD(x:Int):∀l:List Int,∃m n,m.Perm (x::l)/\(Jj l->Jj m)/\n<=14*l.length+5/\Ev aFX (.cons [108] (F5 l) (.cons [120] (.num x) (En 37))) (F5 m) n
 |[]=>⟨[x],_,.refl _,λ_=>by simp[Jj],by simp,DX (A9 bD) (by decide) rfl (iJ (A9 (aI rfl bD)) xY)⟩
 |h::t=>by
  by_cases hx:h<x
  ·obtain⟨m,n,h1,h2,h3,h4⟩:=zD x t
   refine⟨h::m,_,(h1.cons h).trans (.swap x h t),λhs=>?_,?_,DX (A9 bD) (by decide) rfl (DX (KM (A9 (aI rfl bD)) (A9 (aI rfl (aI rfl (aI rfl bD)))) (XB hx)) (by decide) rfl (iJ (A9 (aI rfl bD)) (C5 (C5 (A9 (aI rfl (aI rfl (aI rfl (aI rfl aCl))))) (A9 (aI rfl (aI rfl (aI rfl bD)))) GD) (A9 bD) h4)))⟩
   ·obtain⟨k1,k2⟩:=Cc.1 hs
    refine Cc.2 ⟨λy hy=>?_,h2 k2⟩;rcases Au.1 (h1.mem_iff.1 hy) with rfl|hy
    ·omega
    ·exact k1 y hy
   ·simp only[An];omega
  ·refine⟨x::h::t,_,.refl _,λhs=>?_,?_,DX (A9 bD) (by decide) rfl (DX (KM (A9 (aI rfl bD)) (A9 (aI rfl (aI rfl (aI rfl bD)))) (XC hx)) (by decide) rfl (iJ (A9 (aI rfl (aI rfl (aI rfl bD)))) (A9 (aI rfl (aI rfl bD)))))⟩
   ·obtain⟨k1,k2⟩:=Cc.1 hs
    refine Cc.2 ⟨λy hy=>?_,hs⟩;rcases Au.1 hy with rfl|hy
    ·omega
    ·have:=k1 y hy;omega
   ·simp only[An];omega
theorem aAW(n:Nat):dw (λi=>14*i+6) n=7*(n*n)+8*n+3:=by
 induction n with
 |zero=>rfl
 |succ n ih =>
  have:(n+1)*(n+1)=n*n+2*n+1:=by rw[Fj,Es];omega
  simp only[dw,ih,this];omega
theorem aCR(a:List Int):∃m n,m.Perm a/\Jj m/\n<=7*(a.length*a.length)+8*a.length+13/\Ev nc (.cons [108] (F5 a) (En 38)) (F5 m) n:=by
 obtain⟨r,n,⟨a',h0,m,rfl,h1,Je⟩,h2,h3⟩:=vG (e:=.cons [108] (F5 a) (En 38)) (aI rfl aCo) (l:=a.map .num) (λi=>14*i+6) (λt r=>∃t':List Int,t=t'.map .num/\∃m:List Int,r=F5 m/\m.Perm t'/\Jj m) (A9 (aI rfl zr)) xY (A9 bD)
  (λx t r ⟨p,e⟩ ⟨t',ht,m,hr,hm,hs⟩=>by
   have hx:x∈a.map ItD.num:=by rw[e];simp
   obtain⟨y,_,rfl⟩:=Cm.1 hx;subst hr ht;obtain⟨m',n,k1,k2,k3,k4⟩:=zD y m;refine⟨_,_,⟨_,_,_,_,_,_,_,_,rfl,GD,k4,rfl⟩,?_,y::t',rfl,m',rfl,k1.trans (hm.cons y),k2 hs⟩
   have:=hm.length_eq
   simp only[Ay];omega) ⟨[],rfl,[],rfl,.refl _,by simp[Jj]⟩
 have e:a'=a:=by
  have:=Dp (List.map λi:ItD=>match i with|.num n=>n|_=>0) h0
  simpa[Gl,Er] using this.symm
 subst e;rw[aAW,Ay] at h2;exact⟨m,n,h1,Je,by omega,h3⟩
abbrev aLF:ExD:=cs (cn [44] [va [97],va [98]]) [va [98],va [97],cs (op [60] (va [121]) (va [120])) [cn bC [va [121],ap (ap (va mI) (va [97])) (va [115])],cn bC [va [120],ap (ap (va mI) (va [114])) (va [98])]] [pc c9 [],pc cH []]] [pc [44] [pc dC [],pw],pc [44] [pw,pc dC []],pc [44] [pc bC [pv [120],pv [114]],pc bC [pv [121],pv [115]]]]
theorem v8:∀(a b:List Int),∃m n,m.Perm (a++b)/\(Jj a->Jj b->Jj m)/\n<=16*(a.length+b.length)+5/\Ev aLF (.cons [98] (F5 b) (.cons [97] (F5 a) (En 39))) (F5 m) n
 |[],b=>⟨b,_,.refl _,λ_ h=>h,by simp,DX (iJ (A9 (aI rfl bD)) (A9 bD)) (by decide) rfl (A9 bD)⟩
 |x::r,[]=>⟨x::r,_,by simp,λh _=>h,by simp,DX (iJ (A9 (aI rfl bD)) (A9 bD)) (by decide) rfl (A9 (aI rfl bD))⟩
 |x::r,y::s=>by
  by_cases hx:y<x
  ·obtain⟨m,n,h1,h2,h3,h4⟩:=v8 (x::r) s
   refine⟨y::m,_,(h1.cons y).trans List.perm_middle.symm,λha hb=>?_,?_,DX (iJ (A9 (aI rfl bD)) (A9 bD)) (by decide) rfl (DX (KM (A9 (aI rfl bD)) (A9 (aI rfl (aI rfl (aI rfl bD)))) (XB hx)) (by decide) rfl
    (iJ (A9 (aI rfl bD)) (C5 (C5 (A9 (aI rfl (aI rfl (aI rfl (aI rfl (aI rfl (aI rfl uo))))))) (A9 (aI rfl (aI rfl (aI rfl (aI rfl (aI rfl bD)))))) GD) (A9 bD) h4)))⟩
   ·obtain⟨k1,k2⟩:=Cc.1 hb
    obtain⟨j1,j2⟩:=Cc.1 ha;refine Cc.2 ⟨λz hz=>?_,h2 ha k2⟩;rcases Bn.1 (h1.mem_iff.1 hz) with hz|hz
    ·rcases Au.1 hz with rfl|hz
     ·omega
     ·have:=j1 z hz;omega
    ·exact k1 z hz
   ·simp only[An] at h3 ⊢;omega
  ·obtain⟨m,n,h1,h2,h3,h4⟩:=v8 r (y::s)
   refine⟨x::m,_,h1.cons x,λha hb=>?_,?_,DX (iJ (A9 (aI rfl bD)) (A9 bD)) (by decide) rfl (DX (KM (A9 (aI rfl bD)) (A9 (aI rfl (aI rfl (aI rfl bD)))) (XC hx)) (by decide) rfl
    (iJ (A9 (aI rfl (aI rfl (aI rfl bD)))) (C5 (C5 (A9 (aI rfl (aI rfl (aI rfl (aI rfl (aI rfl (aI rfl uo))))))) (A9 (aI rfl (aI rfl bD))) GD) (A9 (aI rfl (aI rfl (aI rfl (aI rfl bD))))) h4)))⟩
   ·obtain⟨k1,k2⟩:=Cc.1 hb
    obtain⟨j1,j2⟩:=Cc.1 ha;refine Cc.2 ⟨λz hz=>?_,h2 j2 hb⟩;rcases Bn.1 (h1.mem_iff.1 hz) with hz|hz
    ·exact j1 z hz
    ·rcases Au.1 hz with rfl|hz
     ·omega
     ·have:=k1 z hz;omega
   ·simp only[An] at h3 ⊢;omega
termination_by a b=>a.length+b.length
theorem kx:∀(l:List Int),∃a b n,(a++b).Perm l/\a.length=(l.length+1)/2/\b.length=l.length/2/\n<=13*(l.length/2)+5/\Ev z9 (.cons [108] (F5 l) (En 40)) (.mk [44] [F5 a,F5 b]) n
 |[]=>⟨[],[],_,.refl _,by simp,by simp,by simp,DX (A9 bD) (by decide) rfl (iJ (A9 bD) xY)⟩
 |[x]=>⟨[x],[],_,.refl _,by simp,by simp,by simp,DX (A9 bD) (by decide) rfl (iJ (A9 bD) xY)⟩
 |x::y::t=>by
  obtain⟨a,b,n,h1,h2,h3,h4,h5⟩:=kx t
  refine⟨x::a,y::b,_,(List.perm_middle.trans (h1.cons y)).cons x,?_,?_,?_,DX (A9 bD) (by decide) rfl (DX (C5 (A9 (aI rfl (aI rfl (aI rfl (aI rfl aFB))))) (A9 bD) h5) (by decide) rfl
   (iJ (iJ (A9 (aI rfl (aI rfl (aI rfl (aI rfl bD))))) (A9 (aI rfl bD))) (iJ (A9 (aI rfl (aI rfl (aI rfl bD)))) (A9 bD))))⟩<;>simp only[An]<;>omega
theorem v9:∀(k:Nat)(l:List Int),l.length<=2^k->l≠[]->∃m n,m.Perm l/\Jj m/\n+26<=23*(l.length*k)+29*l.length/\Ev z7 (.cons [108] (F5 l) (En 41)) (F5 m) n
 |_,[],_,h=>absurd rfl h
 |k,[x],_,_=>⟨[x],_,.refl _,by simp[Jj],by simp only[An,Ar];omega,DX (A9 bD) (by decide) rfl (A9 bD)⟩
 |0,x::y::t,h,_=>by simp at h
 |k+1,x::y::t,h,_=>by
  obtain⟨a,b,n,h1,h2,h3,h4,h5⟩:=kx (x::y::t);have hp:2^(k+1)=2*2^k:=by rw[Gi];omega
  rw[hp] at h;obtain⟨ma,na,a1,a2,a3,a4⟩:=v9 k a (by omega) (by intro e;rw[e] at h2;simp at h2;omega);obtain⟨mb,nb,b1,b2,b3,b4⟩:=v9 k b (by omega) (by intro e;rw[e] at h3;simp at h3;omega);obtain⟨m,nm,m1,m2,m3,m4⟩:=v8 ma mb
  refine⟨m,_,m1.trans ((a1.append b1).trans h1),m2 a2 b2,?_,DX (A9 bD) (by decide) rfl (DX (C5 (A9 (aI rfl (aI rfl (aI rfl (aI rfl aCt))))) (A9 (aI rfl (aI rfl (aI rfl bD)))) h5) (by decide) rfl
   (C5 (C5 (A9 (aI rfl (aI rfl (aI rfl (aI rfl (aI rfl (aI rfl aCs))))))) (C5 (A9 (aI rfl (aI rfl (aI rfl (aI rfl (aI rfl (aI rfl gf))))))) (A9 (aI rfl bD)) a4) GD) (C5 (A9 (aI rfl (aI rfl (aI rfl (aI rfl (aI rfl (aI rfl gf))))))) (A9 bD) b4) m4))⟩
  have e1:=a1.length_eq;have e2:=b1.length_eq;rw[e1,e2] at m3;have hl:a.length+b.length=(x::y::t).length:=by rw[<-Bm];exact h1.length_eq
  have hk:(x::y::t).length*(k+1)=a.length*k+b.length*k+(x::y::t).length:=by rw[<-hl,Fj,Cr]
  rw[hk];generalize a.length*k=u at *;generalize b.length*k=v at *;omega
def OI(n:Nat):Nat->Nat->Nat
 |0,k=>k
 |d+1,k=>bif decide ((2:Int)^k<(n:Int)) then OI n d (k+1) else k
def lg(n:Nat):Nat:=OI n 5 0
inductive StepR:List UInt8->List VaD->Int->Prop
 |append (a b:List Int) (h:a.length<=30) (k:b.length<=30):StepR kU [bB (a.map cM),bB (b.map cM)] (20*((a.length+b.length:Nat):Int)+20)
 |zip (a b:List Int) (h:a.length<=30) (k:b.length<=30):StepR qc [bB (a.map cM),bB (b.map cM)] (20*((a.length+b.length:Nat):Int)+20)
 |reverse (a:List Int) (h:a.length<=30):StepR pR [bB (a.map cM)] (20*((a.length:Nat):Int)+20)
 |length (a:List Int) (h:a.length<=30):StepR uA [bB (a.map cM)] (20*((a.length:Nat):Int)+20)
 |sum (a:List Int) (h:a.length<=30):StepR R9 [bB (a.map cM)] (20*((a.length:Nat):Int)+20)
 |take (n:Int) (a:List Int) (h:a.length<=30):StepR wD [cM n,bB (a.map cM)] (20*((a.length:Nat):Int)+20)
 |msort (a:List Int) (h:a.length<=30):StepR oN [bB (a.map cM)] (40*((a.length:Nat):Int)*((lg a.length:Nat)+1:Int)+40)
 |isort (a:List Int) (h:a.length<=30):StepR cj [bB (a.map cM)] (10*((a.length:Nat):Int)*((a.length:Nat):Int)+30*((a.length:Nat):Int)+20)
theorem lP(e:EnD):∀l:List Int,Ev (exprD (bB (l.map cM))) e (F5 l) (2*l.length+1)
 |[]=>xY
 |x::l=>by
  have:=iJ (s:=bC) (LD (n:=x)) (lP e l)
  have e1:1+(2*l.length+1)+1=2*(x::l).length+1:=by simp only[An];omega
  rw[<-e1];exact this
theorem nN:∀l:List Int,toIt (bB (l.map cM))=F5 l
 |[]=>rfl
 |x::l=>by
  have:=nN l
  show ItD.mk bC [.num x,toIt (bB (l.map cM))]=_;rw[this];rfl
theorem oH:∀l:List Int,(bB (l.map cM)).cnt=2*l.length+1
 |[]=>rfl
 |x::l=>by
  have:=oH l
  simp only[Bb,bB,VaD.cnt,VaD.cnts,cM,this,An];omega
theorem oP:∀l:List Int,(bB (l.map cM)).okI=true
 |[]=>rfl
 |x::l=>by
  have:=oP l
  simp only[Bb,bB,VaD.okI,VaD.okIs,cM,this];rfl
def Lr(p:Int×Int):VaD:=.mk [44] 0 [cM p.1,cM p.2]
theorem ya:∀l:List (Int×Int),toIt (bB (l.map Lr))=D7 (l.map λp=>.mk [44] [.num p.1,.num p.2])
 |[]=>rfl
 |x::l=>by
  have:=ya l
  show ItD.mk bC [.mk [44] [.num x.1,.num x.2],toIt (bB (l.map Lr))]=_;rw[this];rfl
theorem aB3:∀l:List (Int×Int),(bB (l.map Lr)).cnt=4*l.length+1
 |[]=>rfl
 |x::l=>by
  have:=aB3 l
  simp only[Bb,bB,VaD.cnt,VaD.cnts,Lr,cM,this,An];omega
theorem aDk:∀l:List (Int×Int),(bB (l.map Lr)).okI=true
 |[]=>rfl
 |x::l=>by
  have:=aDk l
  simp only[Bb,bB,VaD.okI,VaD.okIs,Lr,cM,this];rfl
def topN:EnD:=(mS lib .nil .nil).2
theorem zu:topN.find kU=some (.fn [97] sv (En 19)):=by kernel_rfl
theorem aLE:topN.find qc=some (.fn [97] VJ (En 30)):=by kernel_rfl
theorem oz:topN.find pR=some (.fn [108] uP (En 20)):=by kernel_rfl
theorem zw:topN.find uA=some (.fn [108] z6 (En 22)):=by kernel_rfl
theorem aLD:topN.find R9=some (.fn [108] VK (En 23)):=by kernel_rfl
theorem aFV:topN.find wD=some (.fn [110] Vm (En 27)):=by kernel_rfl
theorem gm:topN.find oN=some (.fn [108] z7 (En 41)):=by kernel_rfl
theorem aCy:topN.find cj=some (.fn [108] nc (En 38)):=by kernel_rfl
theorem aSp:∀n:Fin 31,n.val<=2^lg n.val:=by decide
theorem aXd:∀n:Fin 31,((23*(n.val*lg n.val)+31*n.val:Nat):Int)<=40*((n.val:Nat):Int)*((lg n.val:Nat)+1:Int)+40+22:=by decide
theorem aXc:∀n:Fin 31,((7*(n.val*n.val)+10*n.val+16:Nat):Int)<=10*((n.val:Nat):Int)*((n.val:Nat):Int)+30*((n.val:Nat):Int)+20:=by decide
theorem aHq{nm:List UInt8}{vs:List VaD}{m:Int}(h:StepR nm vs m):∃(v:VaD)(n:Nat),Ev (jL nm vs) topN (toIt v) n/\(n:Int)<=m/\v.okI=true/\v.cnt<=4000:=by
 cases h with
 |append a b h k =>
  obtain⟨n,h1,h2⟩:=yx (a.map .num) (b.map .num);rw[<-Fs,show D7 ((a++b).map .num)=_ from(nN (a++b)).symm] at h2;refine⟨bB ((a++b).map cM),_,C5 (C5 (A9 zu) (lP _ a) GD) (lP _ b) h2,?_,oP _,?_⟩
  ·rw[Ay] at h1;omega
  ·rw[oH,Bm];omega
 |zip a b h k =>
  obtain⟨n,h1,h2⟩:=aEO (a.map .num) (b.map .num)
  have e:(((a.map ItD.num).zip (b.map ItD.num)).map λp=>ItD.mk [44] [p.1,p.2])=(a.zip b).map λp=>.mk [44] [.num p.1,.num p.2]:=by
   rw[List.zip_map,Gl];rfl
  rw[e,<-ya] at h2;refine⟨bB ((a.zip b).map Lr),_,C5 (C5 (A9 aLE) (lP _ a) GD) (lP _ b) h2,?_,aDk _,?_⟩
  ·rw[Ay] at h1;omega
  ·rw[aB3,List.length_zip];omega
 |reverse a h =>
  obtain⟨n,h1,h2⟩:=qx (a.map .num);rw[<-List.map_reverse,show D7 (a.reverse.map .num)=_ from(nN a.reverse).symm] at h2;refine⟨bB (a.reverse.map cM),_,C5 (A9 oz) (lP _ a) h2,?_,oP _,?_⟩
  ·rw[Ay] at h1;omega
  ·rw[oH,Ez];omega
 |length a h =>
  obtain⟨s,n,h1,h2⟩:=aAh (a.map .num);refine⟨cM s,_,C5 (A9 zw) (lP _ a) h2,?_,rfl,by simp[VaD.cnt,VaD.cnts,cM]⟩;rw[Ay] at h1;omega
 |sum a h =>
  obtain⟨s,n,h1,h2⟩:=aNH a;refine⟨cM s,_,C5 (A9 aLD) (lP _ a) h2,?_,rfl,by simp[VaD.cnt,VaD.cnts,cM]⟩;omega
 |take k a h =>
  obtain⟨b,n,h0,h1,h2⟩:=qK a k;rw[<-nN b] at h2;refine⟨bB (b.map cM),_,C5 (C5 (A9 aFV) (LD (n:=k)) GD) (lP _ a) h2,?_,oP _,?_⟩
  ·omega
  ·rw[oH];omega
 |msort a h =>
  have RO:a.length<31:=by omega
  by_cases h0:a=[]
  ·subst h0
   exact⟨bB [],_,C5 (A9 gm) (lP _ []) (DX (A9 bD) (by decide) rfl (A9 bD)),by decide,rfl,by decide⟩
  ·obtain⟨m,n,h1,h2,h3,h4⟩:=v9 (lg a.length) a (aSp ⟨a.length,RO⟩) h0
   rw[<-nN m] at h4;refine⟨bB (m.map cM),_,C5 (A9 gm) (lP _ a) h4,?_,oP _,?_⟩
   ·have:=aXd ⟨a.length,RO⟩
    simp only at this;omega
   ·rw[oH,h1.length_eq];omega
 |isort a h =>
  have RO:a.length<31:=by omega
  obtain⟨m,n,h1,h2,h3,h4⟩:=aCR a;rw[<-nN m] at h4;refine⟨bB (m.map cM),_,C5 (A9 aCy) (lP _ a) h4,?_,oP _,?_⟩
  ·have:=aXc ⟨a.length,RO⟩
   simp only at this;omega
  ·rw[oH,h1.length_eq];omega
theorem aHp{nm:List UInt8}{vs:List VaD}{m:Int}(h:StepR nm vs m):m<=200000:=by
 have k1:∀n:Fin 31,40*((n.val:Nat):Int)*((lg n.val:Nat)+1:Int)+40<=200000:=by decide
 have k2:∀n:Fin 31,10*((n.val:Nat):Int)*((n.val:Nat):Int)+30*((n.val:Nat):Int)+20<=200000:=by decide
 cases h with
 |msort a h=>exact k1 ⟨a.length,by omega⟩
 |isort a h=>exact k2 ⟨a.length,by omega⟩
 |_=>omega
def Ht(s:List UInt8)(k:Int):Bool:=eD s==some k
theorem gH{s:List UInt8}{k:Int}(h:Ht s k=true):eD s=some k:=by simpa[Ht] using h
def Q0(s:List UInt8)(n:Nat):Bool:=(s==[44]&&Nat.ble 2 n&&Nat.ble n 4)||(Ht s 3&&Nat.ble n 16)
theorem aEI{s:List UInt8}{n:Nat}(h:Q0 s n=true):WB s n:=by
 simp only[Q0,Ch,Ac] at h;rcases h with⟨⟨h1,h2⟩,h3⟩|⟨h1,h2⟩
 ·exact .inl ⟨by simpa using h1,Ad h2,Ad h3⟩
 ·exact .inr ⟨gH h1,Ad h2⟩
mutual
def SD:TyD->Bool
 |.mk s l=>(Ht s 4&&l.isEmpty)||(Ht s 3&&Nat.ble l.length 16&&Ps l)
def Ps:List TyD->Bool
 |[]=>true
 |t::l=>SD t&&Ps l
end
mutual
def SF:PaD->Bool
 |.mk k s l=>(k==1&&s.isEmpty&&l.isEmpty)||(k==2&&Ht s 2&&l.isEmpty)||(k==3&&Q0 s l.length&&Pu l)
def Pu:List PaD->Bool
 |[]=>true
 |t::l=>SF t&&Pu l
end
mutual
def QZ:ExD->Bool
 |.mk k n s a l p =>
  (k==1&&s.isEmpty&&a.isEmpty&&l.isEmpty&&p.isEmpty)||(n==0&&(
  (k==2&&Ht s 2&&a.isEmpty&&l.isEmpty&&p.isEmpty) ||
  (k==3&&Q0 s l.length&&a.isEmpty&&p.isEmpty&&ec l) ||
  (k==4&&s.isEmpty&&a.isEmpty&&p.isEmpty&&Nat.beq l.length 2&&ec l) ||
  (k==5&&s.isEmpty&&Ht a 2&&p.isEmpty&&Nat.beq l.length 1&&ec l) ||
  (k==7&&Ht s 2&&Ht a 2&&p.isEmpty&&Nat.beq l.length 2&&ec l) ||
  (k==8&&s.isEmpty&&a.isEmpty&&Nat.ble 1 p.length&&Nat.ble p.length 16&&Nat.beq l.length (p.length+1)&&ec l&&Pu p) ||
  (k==9&&opsL.contains s&&a.isEmpty&&p.isEmpty&&Nat.beq l.length 2&&ec l)))
def ec:List ExD->Bool
 |[]=>true
 |t::l=>QZ t&&ec l
end
mutual
theorem aN0:∀{t:TyD},SD t=true->WT t
 |.mk s l,h=>by
  simp only[SD,Ch,Ac] at h;rcases h with⟨h1,h2⟩|⟨⟨h1,h2⟩,h3⟩
  ·rw[Fm.1 h2];exact .var _ (gH h1)
  ·exact .con _ _ (gH h1) (Ad h2) (ee h3)
theorem ee:∀{l:List TyD},Ps l=true->∀a∈l,WT a
 |[],_,a,ha=>by simp at ha
 |t::l,h,a,ha=>by
  simp only[Ps,Ac] at h;rcases Au.1 ha with e|ha
  ·rw[e];exact aN0 h.1
  ·exact ee h.2 a ha
end
mutual
theorem aNZ:∀{t:PaD},SF t=true->WP t
 |.mk k s l,h=>by
  simp only[SF,Ch,Ac,Fm,Bx] at h;rcases h with(⟨⟨rfl,rfl⟩,rfl⟩|⟨⟨rfl,h1⟩,rfl⟩)|⟨⟨rfl,h1⟩,h2⟩
  ·exact .wild
  ·exact .var _ (gH h1)
  ·exact .con _ _ (aEI h1) (ed h2)
theorem ed:∀{l:List PaD},Pu l=true->∀a∈l,WP a
 |[],_,a,ha=>by simp at ha
 |t::l,h,a,ha=>by
  simp only[Pu,Ac] at h;rcases Au.1 ha with e|ha
  ·rw[e];exact aNZ h.1
  ·exact ed h.2 a ha
end
mutual
theorem aEJ:∀{t:ExD},QZ t=true->WE t
 |.mk k n s a l p,h=>by
  simp only[QZ,Ch,Ac,Fm,Bx] at h;rcases h with⟨⟨⟨⟨rfl,rfl⟩,rfl⟩,rfl⟩,rfl⟩|⟨rfl,((((((h|h)|h)|h)|h)|h)|h)⟩
  ·exact .num _
  ·obtain⟨⟨⟨⟨rfl,h1⟩,rfl⟩,rfl⟩,rfl⟩:=h
   exact .var _ (gH h1)
  ·obtain⟨⟨⟨⟨rfl,h1⟩,rfl⟩,rfl⟩,h2⟩:=h
   exact .con _ _ (aEI h1) (lH h2)
  ·obtain⟨⟨⟨⟨⟨rfl,rfl⟩,rfl⟩,rfl⟩,h1⟩,h2⟩:=h
   exact .app _ (Aa h1) (lH h2)
  ·obtain⟨⟨⟨⟨⟨rfl,rfl⟩,h0⟩,rfl⟩,h1⟩,h2⟩:=h
   exact .fn _ _ (gH h0) (Aa h1) (lH h2)
  ·obtain⟨⟨⟨⟨⟨rfl,h3⟩,h0⟩,rfl⟩,h1⟩,h2⟩:=h
   exact .recf _ _ _ (gH h3) (gH h0) (Aa h1) (lH h2)
  ·obtain⟨⟨⟨⟨⟨⟨⟨rfl,rfl⟩,rfl⟩,h1⟩,h2⟩,h3⟩,h4⟩,h5⟩:=h
   exact .case _ _ (Ad h1) (Ad h2) (Aa h3) (lH h4) (ed h5)
  ·obtain⟨⟨⟨⟨⟨rfl,h3⟩,rfl⟩,rfl⟩,h1⟩,h2⟩:=h
   exact .op _ _ (by simpa using h3) (Aa h1) (lH h2)
theorem lH:∀{l:List ExD},ec l=true->∀a∈l,WE a
 |[],_,a,ha=>by simp at ha
 |t::l,h,a,ha=>by
  simp only[ec,Ac] at h;rcases Au.1 ha with e|ha
  ·rw[e];exact aEJ h.1
  ·exact lH h.2 a ha
end
def WO(d:DeD):Bool:=(Ht d.dname 3&&Nat.ble d.vars.length 16&&d.vars.all (Ht · 4)&&Nat.ble 1 d.cons.length&&Nat.ble d.cons.length 16&&d.cons.all λc=>Ht c.name 3&&Nat.ble c.args.length 16&&Ps c.args)
theorem aF5:(libT.all WO&&libF.all λf=>Ht f.name 2&&Ht f.arg 2&&QZ f.body)=true:=by kernel_rfl
theorem zE:∀d∈libT,d=⟨1,d.dname,d.vars,d.cons,[],[],[],[],kH⟩:=by
 intro d hd;simp only[libT,Au,Cz,Eh] at hd;rcases hd with rfl|rfl|rfl|rfl<;>rfl
theorem aMf:∀y∈lib,WD y:=by
 have h0:=aF5;rw[Ac] at h0;intro y hy;rcases Bn.1 hy with hy|hy
 ·have h:=As.1 h0.1 y hy
  simp only[WO,Ac] at h;obtain⟨⟨⟨⟨⟨h1,h2⟩,h3⟩,h4⟩,h5⟩,h6⟩:=h;rw[zE y hy]
  exact .data _ _ _ (gH h1) (Ad h2) (λv hv=>gH (As.1 h3 v hv)) (Ad h4) (Ad h5) λc hc=>by
   have:=As.1 h6 c hc
   simp only[Ac] at this;exact⟨gH this.1.1,Ad this.1.2,ee this.2⟩
 ·obtain⟨f,hf,rfl⟩:=Cm.1 hy
  have h:=As.1 h0.2 f hf;simp only[Ac] at h
  exact .func [f] (by simp) (by simp) λg hg=>by
   rw[Cy.1 hg];exact⟨gH h.1.1,gH h.1.2,aEJ h.2⟩
theorem aF6:∀y∈lib,y.okK=true:=As.1 (show lib.all DeD.okK=true by kernel_rfl)
theorem tV:lib.length=54:=by kernel_rfl
theorem aAi:∀y∈lib,iw y:=by
 intro y hy;rcases Bn.1 hy with hy|hy
 ·rw[zE y hy];exact .inl ⟨rfl,rfl⟩
 ·obtain⟨f,hf,rfl⟩:=Cm.1 hy
  exact .inr ⟨f,rfl⟩
theorem aSq:DV lib<=60:=by
 have:(Nat.ble (DV lib) 60)=true:=by kernel_rfl
 exact Ad this
theorem aSr:E6 lib<=1700:=by
 have:(Nat.ble (E6 lib) 1700)=true:=by kernel_rfl
 exact Ad this
theorem ue:∀(a b:List DeD),DV (a++b)=max (DV a) (DV b)
 |[],b=>by simp[DV]
 |x::a,b=>by simp only[De,DV,ue a b];omega
theorem ug:∀(a b:List DeD),E6 (a++b)=E6 a+E6 b
 |[],b=>by simp[E6]
 |x::a,b=>by simp only[De,E6,ug a b];omega
section
variable [Aps]
theorem aEF(l:List Int):vals l=(l.map cM).map VaD.enc:=by
 simp only[vals,Gl];rfl
theorem w4:∀n:Fin 31,IntKind.i64.wrap (20*((n.val:Nat):Int))=20*((n.val:Nat):Int)/\IntKind.i64.wrap (20*((n.val:Nat):Int)+20)=20*((n.val:Nat):Int)+20 /\
  IntKind.i64.wrap (40*((n.val:Nat):Int))=40*((n.val:Nat):Int)/\IntKind.i64.wrap (((lg n.val:Nat):Int)+1)=((lg n.val:Nat):Int)+1 /\
  IntKind.i64.wrap (40*((n.val:Nat):Int)*(((lg n.val:Nat):Int)+1))=40*((n.val:Nat):Int)*(((lg n.val:Nat):Int)+1) /\
  IntKind.i64.wrap (40*((n.val:Nat):Int)*(((lg n.val:Nat):Int)+1)+40)=40*((n.val:Nat):Int)*(((lg n.val:Nat):Int)+1)+40 /\
  IntKind.i64.wrap (10*((n.val:Nat):Int))=10*((n.val:Nat):Int)/\IntKind.i64.wrap (10*((n.val:Nat):Int)*((n.val:Nat):Int))=10*((n.val:Nat):Int)*((n.val:Nat):Int) /\
  IntKind.i64.wrap (30*((n.val:Nat):Int))=30*((n.val:Nat):Int) /\
  IntKind.i64.wrap (10*((n.val:Nat):Int)*((n.val:Nat):Int)+30*((n.val:Nat):Int))=10*((n.val:Nat):Int)*((n.val:Nat):Int)+30*((n.val:Nat):Int) /\
  IntKind.i64.wrap (10*((n.val:Nat):Int)*((n.val:Nat):Int)+30*((n.val:Nat):Int)+20)=10*((n.val:Nat):Int)*((n.val:Nat):Int)+30*((n.val:Nat):Int)+20:=by decide
theorem w4b:∀n:Fin 61,IntKind.i64.wrap (20*((n.val:Nat):Int))=20*((n.val:Nat):Int)/\IntKind.i64.wrap (20*((n.val:Nat):Int)+20)=20*((n.val:Nat):Int)+20:=by decide
theorem W7:∀k:Fin 6,IntKind.i64.wrap (1*2^(min (((k.val:Nat):Int).toNat) 64))=(2:Int)^k.val:=by decide
theorem aSt(n:Nat)(hn:n<=30)(sto:AH)(K:Int)(cs:List Cell)(xs:List AVal):∀d k,k+d=5 ->
  ∃s0 s1 s6 s8 s9 BI G7 FA Qg HA KX,LP 4 (aS Tryz.f4 0) ⟨[.dead,.dead,.val (.int .i64 K),.dead,.val (.bool true),.dead,.dead,.box cs,.dead,.val (.int .i64 (n:Nat)),.full xs,.dead,.dead,.val (.int .i64 (k:Nat)),.dead,.dead,.dead],sto⟩=some (.exit 0,⟨[s0,s1,.val (.int .i64 K),s6,.val (.bool true),s8,s9,.box cs,BI,.val (.int .i64 (n:Nat)),.full xs,G7,FA,.val (.int .i64 (OI n d k:Nat)),Qg,HA,KX],sto⟩):=by
 intro d;induction d with
 |zero =>
  intro k h;have hk:k=5:=by omega
  subst hk;have AL:decide ((2:Int)^5<(n:Int))=false:=by simp;omega
  have hs:=W7 5;iterate 11 apply Exists.intro
  refine tI rfl ?_;refine GR ?_;(with_reducible apply tF);simp only[go_sem];rfl;exact AL;refine tQ ?_;repeat first|with_reducible constructor|with_reducible refine tW rfl ?_
  exact Nx;all_goals exact .dead
 |succ d ih =>
  intro k h;have hs:=W7 ⟨k,by omega⟩;simp only at hs;have hw:IntKind.i64.wrap (((k:Nat):Int)+1)=((k+1:Nat):Int):=by simp[IntKind.wrap,IntKind.bits,IntKind.signed];omega
  obtain⟨s0,s1,s6,s8,s9,BI,G7,FA,Qg,HA,KX,ih⟩:=ih (k+1) (by omega);simp only[OI];cases AL:decide ((2:Int)^k<(n:Int)) with
  |true =>
   simp only[Bl];refine⟨s0,s1,s6,s8,s9,BI,G7,FA,Qg,HA,KX,?_⟩;refine tI rfl ?_;exact wk
  |false =>
   simp only[Be];iterate 11 apply Exists.intro
   refine tI rfl ?_;exact wk;all_goals exact .dead
theorem c4(A0 B0:List Int)(K:Int)(hA:A0.length<AV)(hB:B0.length<AV)(sto:AH)(AP:sto.lo<=sto.objs.length)
  (H:∀nm vs m,StepR nm vs m->∀S:AH,S.lo<=S.objs.length->CF (.fn 14) [.val (.str nm),.val (.slice (vs.map VaD.enc)),.val (.int .i64 m)] S=some (.ret (.val (.bool true)),S)) :
  CF (.fn 4) [.val (.slice (A0.map kT)),.val (.slice (B0.map kT)),.val (.int .i64 K)] sto=some (.ret (.val (.bool true)),sto):=by
 have h6:CF (.fn 6) [] sto=some (.ret (.val (.bool true)),sto):=c6 sto;have h11a:=Xj A0 hA sto;have h11b:=Xj B0 hB sto;have lA:(A0.take 30).length<=30:=by simp;omega
 have lB:(B0.take 30).length<=30:=by simp;omega
 generalize A0.take 30=A at *;generalize B0.take 30=B at *;have UJ:=Xh A (by simp only[AV];omega) sto;have UI:=Xh B (by simp only[AV];omega) sto;rw[aEF] at UJ UI
 have sz:∀l:List Int,l.length<=30->VaD.sizes (l.map cM)+6*(l.map cM).length+4<AV:=λl h=>by
  have:VaD.sizes (l.map cM)<=4*l.length:=by
   clear h;induction l with
   |nil=>simp[VaD.sizes]
   |cons x l ih=>simp only[Bb,VaD.sizes,VaD.size,cM,An,Ar];omega
  simp only[Ay,AV];omega
 have h12a:=Xi _ sto (sz A lA) AP;have h12b:=Xi _ sto (sz B lB) AP;have a1:=H _ _ _ (.append A B lA lB) sto AP;have a2:=H _ _ _ (.zip A B lA lB) sto AP;have a3:=H _ _ _ (.reverse A lA) sto AP;have a4:=H _ _ _ (.length A lA) sto AP;have a5:=H _ _ _ (.sum A lA) sto AP;have a6:=H _ _ _ (.take K A lA) sto AP;have a7:=H _ _ _ (.msort A lA) sto AP;have a8:=H _ _ _ (.isort A lA) sto AP;clear H sz hA hB;simp only[Bb,Ax,cM,VaD.enc_mk] at a1 a2 a3 a4 a5 a6 a7 a8;obtain⟨w1,w2,w3,w5,w6,w7,w8,w9,w10,w11,w12⟩:=w4 ⟨A.length,by omega⟩;obtain⟨w13,w14⟩:=w4b ⟨A.length+B.length,by omega⟩
 have w0:IntKind.i64.wrap (((A.length:Nat):Int)+((B.length:Nat):Int))=((A.length+B.length:Nat):Int):=by
  simp[IntKind.wrap,IntKind.bits,IntKind.signed];omega
 have hlg:OI A.length 5 0=lg A.length:=rfl;generalize bB (A.map cM)=a at *;generalize bB (B.map cM)=b at *;rw[VaD.enc_eq a] at *;rw[VaD.enc_eq b] at *;obtain⟨s0,s1,s6,s8,s9,BI,G7,FA,Qg,HA,KX,hl⟩:=aSt A.length lA sto K [.val (.str a.con),.val (.int .i64 a.num),.val (.slice (a.args.map VaD.enc))] [.agg [.str a.con,.int .i64 a.num,.slice (a.args.map VaD.enc)]] 5 0 rfl;rw[hlg] at hl;simp only[show((0:Nat):Int)=0 from rfl] at hl;simp only at w1 w2 w3 w5 w6 w7 w8 w9 w10 w11 w12 w13 w14;simp only[kU,qc,pR,uA,R9,wD,oN,cj] at a1 a2 a3 a4 a5 a6 a7 a8;clear hlg;have ci:(AVal.int .i64 K).cells=[.int .i64 K]:=rfl;exact B9
abbrev yM:TyD:=.mk [73,110,116] []
abbrev JI:TyD:=.mk [39,97] []
abbrev SN:TyD:=.mk [39,98] []
abbrev GF(a:TyD):TyD:=.mk [76,105,115,116] [a]
theorem pH{a:TyD}:∀l:List VaD,(∀x∈l,kJ a x)->kJ (GF a) (bB l)
 |[],_=>.nil a
 |x::l,h=>.cons a _ _ (h x (by simp)) (pH l λy hy=>h y (by simp[hy]))
theorem vJ(l:List Int):kJ (GF yM) (bB (l.map cM)):=pH _ λx hx=>by
 obtain⟨n,_,rfl⟩:=Cm.1 hx;exact .int n
theorem zB(l:List VaD):kJ (GF JI) (bB l):=pH l λx _=>.var x
theorem aSh(l:List VaD):kJ (GF SN) (bB l):=pH l λx _=>.varb x
theorem aCV:eD nilS=some 3:=by kernel_rfl
theorem ve:eD r8=some 3:=by kernel_rfl
theorem mg:∀l:List Int,(bB (l.map cM)).valid=true
 |[]=>by simp only[Ax,bB,VaD.valid,VaD.valids,nX,aCV];rfl
 |x::l=>by
  have:=mg l
  simp only[Bb,bB,VaD.valid,VaD.valids,cM,this,nX,ve];rfl
theorem xx:∀l:List Int,(bB (l.map cM)).size<=20*l.length+4
 |[]=>by simp[bB,VaD.size,VaD.sizes,nilS]
 |x::l=>by
  have:=xx l
  simp only[Bb,bB,VaD.size,VaD.sizes,cM,An,Ar,r8];omega
theorem aJN:∀l:List Int,WE (exprD (bB (l.map cM)))
 |[]=>.con nilS [] (.inr ⟨aCV,by simp⟩) (λa ha=>by simp at ha)
 |x::l=>.con r8 [nu x,exprD (bB (l.map cM))] (.inr ⟨ve,by simp⟩) λa ha=>by
  simp only[Au,Cz,Eh] at ha;rcases ha with rfl|rfl
  ·exact .num x
  ·exact aJN l
theorem aJd:∀l:List Int,(exprD (bB (l.map cM))).hg<=l.length
 |[]=>Af _
 |x::l=>by
  have:=aJd l
  show(ExD.mk 3 0 r8 [] [nu x,exprD (bB (l.map cM))] []).hg<=_;simp only[ExD.hg,ExD.hgs,PaD.hgs,An];omega
theorem aJB:∀l:List Int,(exprD (bB (l.map cM))).sz=2*l.length+1
 |[]=>rfl
 |x::l=>by
  have:=aJB l
  show(ExD.mk 3 0 r8 [] [nu x,exprD (bB (l.map cM))] []).sz=_;simp only[ExD.sz,ExD.szs,PaD.szs,this,An];omega
structure uG (t:TyD) (v:VaD):Prop where
 okI:v.okI=true
 size:v.size<AV
 valid:v.valid=true
 cnt:v.cnt<=4000
 has:kJ t v
 we:WE (exprD v)
 hg:(exprD v).hg<=30
 sz:(exprD v).sz<=61
theorem aE2(n:Int):uG yM (cM n):=⟨rfl,by simp[cM,VaD.size,VaD.sizes,AV],rfl,by simp[cM,VaD.cnt,VaD.cnts],.int n,.num n,Di _,(by show(1:Nat)<=61;omega)⟩
theorem jV{t:TyD}(l:List Int)(h:l.length<=30)(hh:kJ t (bB (l.map cM))):uG t (bB (l.map cM)) :=
 ⟨oP l,by have:=xx l;simp only[AV];omega,mg l,by rw[oH];omega,hh,aJN l,Bg (aJd l) h,by rw[aJB];omega⟩
structure lR (nm:List UInt8) (vs:List VaD):Prop where
 ty:∃l r,sT nm=some (oF l r)/\(tyName r==[45,62])=false/\l.length=vs.length/\∀(i:Nat) t v,l[i]?=some t->vs[i]?=some v->uG t v
 ne:∃y ys,vs=y::ys
 len:vs.length<=2
 we:WE (jL nm vs)
 hg:(jL nm vs).hg<=40
 sz:(jL nm vs).sz<=130
theorem fg{nm:List UInt8}{t r:TyD}{v:VaD}(ht:sT nm=some (oF [t] r))(hr:(tyName r==[45,62])=false)(hk:eD nm=some 2)(h:uG t v):lR nm [v] where
 ty:=⟨[t],r,ht,hr,rfl,λi t' v' h1 h2=>by
  match i with
  |0=>cases h1;cases h2;exact h
  |i+1=>simp at h1⟩
 ne:=⟨v,[],rfl⟩
 len:=by simp
 we:=.app [va nm,exprD v] rfl λa ha=>by
  simp only[Au,Cz,Eh] at ha;rcases ha with rfl|rfl
  ·exact .var nm hk
  ·exact h.we
 hg:=by
  have:=h.hg
  show(ExD.mk 4 0 [] [] [va nm,exprD v] []).hg<=_;simp only[ExD.hg,ExD.hgs,PaD.hgs];omega
 sz:=by
  have:=h.sz
  show(ExD.mk 4 0 [] [] [va nm,exprD v] []).sz<=_;simp only[ExD.sz,ExD.szs,PaD.szs];omega
theorem call2{nm:List UInt8}{t u r:TyD}{v w:VaD}(ht:sT nm=some (oF [t,u] r))(hr:(tyName r==[45,62])=false)(hk:eD nm=some 2)(h:uG t v)(k:uG u w):lR nm [v,w] where
 ty:=⟨[t,u],r,ht,hr,rfl,λi t' v' h1 h2=>by
  match i with
  |0=>cases h1;cases h2;exact h
  |1=>cases h1;cases h2;exact k
  |i+2=>simp at h1⟩
 ne:=⟨v,[w],rfl⟩
 len:=by simp
 we:=.app [ap (va nm) (exprD v),exprD w] rfl λa ha=>by
  simp only[Au,Cz,Eh] at ha;rcases ha with rfl|rfl
  ·refine .app [va nm,exprD v] rfl λa ha=>?_
   simp only[Au,Cz,Eh] at ha;rcases ha with rfl|rfl
   ·exact .var nm hk
   ·exact h.we
  ·exact k.we
 hg:=by
  have:=h.hg
  have:=k.hg
  show(ExD.mk 4 0 [] [] [ap (va nm) (exprD v),exprD w] []).hg<=_;simp only[ExD.hg,ExD.hgs,PaD.hgs];omega
 sz:=by
  have:=h.sz
  have:=k.sz
  show(ExD.mk 4 0 [] [] [ap (va nm) (exprD v),exprD w] []).sz<=_;simp only[ExD.sz,ExD.szs,PaD.szs];omega
theorem StepR.call{nm:List UInt8}{vs:List VaD}{m:Int}(h:StepR nm vs m):lR nm vs:=by
 cases h with
 |append a b h k=>exact call2 (t:=GF JI) (u:=GF JI) (r:=GF JI) (by kernel_rfl) rfl (by kernel_rfl) (jV a h (zB _)) (jV b k (zB _))
 |zip a b h k=>exact call2 (t:=GF JI) (u:=GF SN) (r:=GF (.mk [44] [JI,SN])) (by kernel_rfl) rfl (by kernel_rfl) (jV a h (zB _)) (jV b k (aSh _))
 |reverse a h=>exact fg (t:=GF JI) (r:=GF JI) (by kernel_rfl) rfl (by kernel_rfl) (jV a h (zB _))
 |length a h=>exact fg (t:=GF JI) (r:=yM) (by kernel_rfl) rfl (by kernel_rfl) (jV a h (zB _))
 |sum a h=>exact fg (t:=GF yM) (r:=yM) (by kernel_rfl) rfl (by kernel_rfl) (jV a h (vJ _))
 |take n a h=>exact call2 (t:=yM) (u:=GF JI) (r:=GF JI) (by kernel_rfl) rfl (by kernel_rfl) (aE2 n) (jV a h (zB _))
 |msort a h=>exact fg (t:=GF yM) (r:=GF yM) (by kernel_rfl) rfl (by kernel_rfl) (jV a h (vJ _))
 |isort a h=>exact fg (t:=GF yM) (r:=GF yM) (by kernel_rfl) rfl (by kernel_rfl) (jV a h (vJ _))
def qz(nm:List UInt8)(vs:List VaD):List DeD:=lib++[cU oS (jL nm vs)]
theorem Zf{nm:List UInt8}{vs:List VaD}(h:lR nm vs)(S:AH)(hS:S.lo<=S.objs.length):CF (.fn 23) [.val (.agg [.slice ((qz nm vs).map DeD.enc)])] S=some (.ret (.val (.int .i64 0)),S):=by
 have h1:=aSq;have h2:=aSr;have h3:=h.hg;have h4:=h.sz;refine c23 _ (by rw[qz,Bm,tV];simp) (λy hy=>?_) (λy hy=>?_) ?_ ?_ S hS
 ·rcases Bn.1 hy with hy|hy
  ·exact aF6 y hy
  ·rw[Cy.1 hy];rfl
 ·rcases Bn.1 hy with hy|hy
  ·exact aMf y hy
  ·rw[Cy.1 hy];exact .out oS _ (by kernel_rfl) h.we
 ·rw[qz,ue]
  show max (DV lib) (max (1+(jL nm vs).hg) 0)<=100;omega
 ·rw[qz,ug]
  show E6 lib+((jL nm vs).sz+0)<=2000;omega
theorem aZb(Ih:Aps.pg=.agg [.slice (lib.map DeD.enc)]){nm:List UInt8}{vs:List VaD}(h:lR nm vs)(S:AH)(hS:S.lo<=S.objs.length) :
  CF (.fn 7) [.val (.str nm),.val (.slice (vs.map VaD.enc))] S=some (.ret (.tup [.agg [.slice ((qz nm vs).map DeD.enc)],.bool true]),S):=by
 obtain⟨l,r,ht,hr,hl,hA⟩:=h.ty
 have B7:∀v∈vs,∃t,uG t v:=λv hv=>by
  obtain⟨i,hi⟩:=Dg hv;have AL:=(Ab.1 hi).1;exact⟨l[i]'(by omega),hA i _ v (by simp) hi⟩
 have RQ:=c24 nm l r ht hr vs hl (by have:=h.len;simp only[AV];omega) (λy hy=>by
  obtain⟨t,k⟩:=B7 y hy;exact⟨k.valid,k.size,k.cnt⟩) (λi t v h1 h2=>(hA i t v h1 h2).has) S hS
 have NL:=c40 (jL nm vs) h.we (by have:=h.hg;omega) (by have:=h.sz;omega) S hS;have Jd:=Zf h S hS;have hlen:=h.len;obtain⟨y,ys,rfl⟩:=h.ne
 have RT:=c22 nm y ys (by simp only[AV];omega) (λx hx=>by
  obtain⟨t,k⟩:=B7 x hx;exact⟨k.size,k.okI⟩) S RQ NL
 exact c7 lib Ih (by rw[tV];omega) (by intro e;have:=tV;rw[e] at this;simp at this) nm _ _ S RT Jd
def Pz(nm:List UInt8)(vs:List VaD):List Slot:=[.val (.agg [.slice ((qz nm vs).map DeD.enc)]),.val (.slice []),.val (.int .i64 200000)]
def N4(v:VaD)(n:Nat):ARes:=.ret (.tup [.agg [.slice [FC oS v],.int .i64 (n:Nat)],.int .i64 0])
theorem aTh(Ih:Aps.pg=.agg [.slice (lib.map DeD.enc)]){nm:List UInt8}{vs:List VaD}{m:Int}(h:lR nm vs){v:VaD}{n:Nat}(hn:(n:Int)<=m)(Iw:Aps.rn (Pz nm vs)=some (some (N4 v n)))(S:AH)(hS:S.lo<=S.objs.length) :
  CF (.fn 14) [.val (.str nm),.val (.slice (vs.map VaD.enc)),.val (.int .i64 m)] S=some (.ret (.val (.bool true)),S):=by
 have h9:CF (.fn 9) (Pz nm vs) S=some (.ret (.tup [.agg [.slice [FC oS v],.int .i64 (n:Nat)],.int .i64 0]),S):=NM (r:=N4 v n) (by show Aps.rn _=_;exact Iw) rfl;exact c14 nm _ v n m S (by simpa using hn) (c15 _ nm _ v n S ⟨_,rfl⟩ (aZb Ih h S hS) h9)
end
end Go.Proofs.YtoiocfngjchdiaaGreatDoor
namespace Go.AM
open Go.RowKit
variable {P:Program}{ans:FuncId->AF}{B0:Nat}
def Hb(Ψ:HT)(B:Nat)(w:World):Nat->HT
 |0=>Ψ
 |n+1=>λb o c=>Hb Ψ B w n b o c\/(B<=b/\flat c=true/\∃v,w.cell? ⟨b,o,none⟩=some v/\VRel (Hb Ψ B w n) [] c v)
variable {Ψ:HT}{B:Nat}{w w':World}
theorem pk(n:Nat):(Hb Ψ B w n).le (Hb Ψ B w (n+1)):=λ_ _ _ h=>.inl h
theorem aC5:∀n,Ψ.le (Hb Ψ B w n)
 |0=>HT.le_refl _
 |n+1=>HT.le_trans (aC5 n) (pk n)
theorem vr:∀(n:Nat){b:Nat},b<B->∀o,Hb Ψ B w n b o=Ψ b o
 |0,b,_,o=>rfl
 |n+1,b,hb,o=>by
  funext c;have ih:=congrFun (vr n hb o) c;show(Hb Ψ B w n b o c\/_)=_;rw[ih];exact propext ⟨λh=>h.elim id λh=>absurd h.1 (by omega),.inl⟩
theorem vt(h:WSat Ψ w):∀n,WSat (Hb Ψ B w n) w
 |0=>h
 |n+1=>⟨h.size8,λb o c e=>by
  rcases e with e|⟨_,h1,v,h2,h3⟩
  ·obtain⟨h1,v,h2,h3⟩:=(vt h n).sat b o c e
   exact⟨h1,v,h2,h3.mono (pk n) (aG _)⟩
  ·exact⟨h1,v,h2,h3.mono (pk n) (aG _)⟩⟩
theorem xS:∀{a:AVal},a.v≠.bot:=λ{a}=>by cases a<;>simp[AVal.v]
theorem xw{w:World}{Ψ:HT}{J:CM.Rho}{x:CM.V}{u:Value}{a:AVal}(hx:CM.VR J x u)(e:CM.scaV x=a.v):VRel Ψ [] a u/\flat a=true:=by
 unfold CM.scaV at e
 split at e
 ·cases a<;>simp[AVal.v] at e
  obtain⟨rfl,rfl⟩:=e;rw[hx.inv_int];exact⟨.int _ _,rfl⟩
 ·cases a<;>simp[AVal.v] at e
  obtain⟨h1,h2⟩:=e;obtain⟨s',rfl,hl,hn⟩:=hx.inv_str;obtain rfl:=CM.packL_inj (hl.trans h1) (hn.trans h2);exact⟨.str _,rfl⟩
 ·cases a<;>simp[AVal.v] at e
  subst e;rw[hx.inv_bool];exact⟨.bool _,rfl⟩
 ·exact absurd e.symm xS
theorem ke(g:CM.Shp->CM.V->CM.V)(t:CM.T CM.V):∀(l:List CM.Shp)(off k:Nat),(CM.rdCs g l t off)[k]?=(l[k]?).map λs=>g s (t.at (off+k))
 |[],off,k=>by simp[CM.rdCs]
 |s::l,off,0=>by simp[CM.rdCs]
 |s::l,off,k+1=>by
  simp only[CM.rdCs,Bv];rw[ke g t l (off+1) k,show off+1+k=off+(k+1) by omega]
theorem kg(g:CM.Shp->CM.V->CM.V)(t:CM.T CM.V):∀(l:List CM.Shp)(off:Nat),(CM.rdCs g l t off).length=l.length
 |[],off=>rfl
 |s::l,off=>by simp[CM.rdCs,kg g t l (off+1)]
theorem aG9(f:Nat)(h:CM.T CM.O)(s:CM.Shp)(x:CM.V)(l:List CM.V):CM.rdC f h s x≠.agg l:=by
 cases f with
 |zero=>intro e;cases e
 |succ f =>
  cases s with
  |s =>
   simp only[CM.rdC,CM.scaV]
   split<;>(intro e;cases e)
  |l i =>
   have hr:∀(g:CM.Shp->CM.V->CM.V)(o:CM.O)(off len:Nat),CM.rdRow g (CM.tabS i) o off len≠.agg l:=λg o off len=>by
    unfold CM.rdRow;split
    ·split<;>(intro e;cases e)
    ·intro e;cases e
   simp only[CM.rdC]
   split<;>first|exact hr _ _ _ _|(intro e;cases e)
theorem aHD{a:AVal}(h:∀l,a.v≠.agg l):a.cells=[a]:=by cases a<;>first|rfl|exact absurd rfl (h _)
open CM in
theorem zM{w0:Base}{J:Rho}{h:T O}{nx:Q}{f:Nat}(H:HR P w0 J h nx w){o:Q}{off len b N cap i:Nat}{a:AVal}(ho:J o=some (b,N))(hc:len<=cap)
  (ih:∀(s:Shp)(x:V)(u:Value)(a:AVal),VR J x u->rdC f h s x=a.v->VRel (Hb Ψ w0.heap.size w f) [] a u/\flat a=true)
  (e:rdRow (rdC f h) (tabS i) (h.get O.dead o) off len=a.v):VRel (Hb Ψ w0.heap.size w (f+1)) [] a (.slice (some ⟨b,off,none⟩) len cap)/\flat a=true:=by
 unfold rdRow at e
 split at e
 case h_2=>exact absurd e.symm xS
 rename_i k t hr
 split at e
 case h_2=>exact absurd e.symm xS
 rename_i hk;have hk:=Ad hk
 have JQ:∃BW CB ty ex,h.ob o=.row k t BW CB ty ex:=by
  have:CM.rowAt (h.ob o)=some (k,t):=hr
  unfold CM.rowAt at this
  split at this
  ·rename_i n t' BW CB ty ex he
   cases this;exact⟨_,_,_,_,he⟩
  ·cases this
 have hB:w0.heap.size<=b:=by
  have:=H.obj o b N ho
  obtain⟨BW,CB,ty,ex,he⟩:=JQ;rw[he] at this;cases this with
  |row _ _ _ _ _ _ _ _ vs hb=>exact hb
 cases a<;>simp only[AVal.v] at e<;>first|cases e|skip
 rename_i l;simp only[V.tup.injEq] at e;rw[AVal.vs_eq] at e;have hlen:l.length=len:=by have:=Dp List.length e;simpa using this.symm
 refine⟨.slice _ _ _ _ (tabS i).length hlen hc λj x hj=>?_,rfl⟩;have XU:j<len:=by rw[<-hlen];exact(Ab.1 hj).1
 have ex:Uk (rdCs (rdC f h) (tabS i) t (off+j*(tabS i).length))=x.v:=by
  have:=Dp (λl=>l[j]?) e
  simpa[XU,hj] using this
 have BM:=kg (rdC f h) t (tabS i) (off+j*(tabS i).length)
 have hjn:off+j*(tabS i).length+(tabS i).length<=k:=by
  have:j*(tabS i).length+(tabS i).length<=len*(tabS i).length:=by rw[<-Es];exact Cq _ XU
  omega
 have key:x.cells.length=(tabS i).length/\∀(m:Nat)(c:AVal),x.cells[m]?=some c->∃s,(tabS i)[m]?=some s/\rdC f h s (t.at (off+j*(tabS i).length+m))=c.v:=by
  have hg:=λm=>ke (rdC f h) t (tabS i) (off+j*(tabS i).length) m
  unfold Uk at ex
  split at ex
  ·rename_i y hy
   rw[hy] at BM;simp only[An,Ar,Bo] at BM;have h0:=hg 0;rw[hy] at h0;simp only[Ca] at h0;obtain⟨s,hs,Qs⟩:=Ap.1 h0.symm;have CK:x.cells=[x]:=aHD λl=>by rw[<-ex,<-Qs];exact aG9 _ _ _ _ _
   rw[CK];refine⟨by simp[<-BM],λm c hm=>?_⟩
   match m with
   |0=>cases hm;exact⟨s,hs,by rw[Qs,ex]⟩
   |m+1=>simp at hm
  ·cases x<;>simp only[AVal.v] at ex<;>first|cases ex|skip
   rename_i cs;simp only[V.agg.injEq] at ex;rw[AVal.vs_eq] at ex;refine⟨by rw[<-BM,ex];simp[AVal.cells],λm c hm=>?_⟩;have h1:=hg m;rw[ex,Av] at h1;have NA:cs[m]?=some c:=hm;rw[NA] at h1;obtain⟨s,hs,h2⟩:=Ap.1 h1.symm;exact⟨s,hs,h2⟩
 refine⟨key.1,b,off,rfl,λm c hm=>?_⟩;obtain⟨s,hs,hv⟩:=key.2 m c hm;have hml:m<(tabS i).length:=(Ab.1 hs).1;obtain⟨v0,g0,r0,k0⟩:=H.cell (off:=off+j*(tabS i).length+m) ho (.inl JQ) (by omega);obtain⟨r1,r2⟩:=ih s _ _ c r0 hv;exact .inr ⟨hB,r2,v0,g0,r1⟩
open CM in
theorem xj{w0:Base}{J:Rho}{h:T O}{nx:Q}(H:HR P w0 J h nx w):∀(f:Nat)(s:Shp)(x:V)(u:Value)(a:AVal),VR J x u->rdC f h s x=a.v->VRel (Hb Ψ w0.heap.size w f) [] a u/\flat a=true
 |0,s,x,u,a,_,e=>absurd e.symm xS
 |f+1,.s,x,u,a,hx,e=>xw (w:=w) hx e
 |f+1,.l i,x,u,a,hx,e=>by
  have ih:=xj H f;simp only[rdC] at e
  split at e
  ·cases a<;>simp only[AVal.v] at e<;>first|cases e|skip
   rename_i l;simp only[V.tup.injEq,AVal.vs_eq] at e;obtain rfl:l=[]:=by cases l with|nil=>rfl|cons _ _=>simp at e
   cases hx;exact⟨.slice _ _ _ _ 0 rfl (Af _) λi x h=>by simp at h,rfl⟩
  ·cases a<;>simp only[AVal.v] at e<;>first|cases e|skip
   rename_i l;simp only[V.tup.injEq,AVal.vs_eq] at e;obtain rfl:l=[]:=by cases l with|nil=>rfl|cons _ _=>simp at e
   cases hx;exact⟨.slice _ _ _ _ 0 rfl (Di _) λi x h=>by simp at h,rfl⟩
  ·cases hx with
   |sl _ _ _ _ b N ho hc=>exact zM H ho hc ih e
  ·cases hx with
   |su _ _ _ _ b N cap ho hc hr=>exact zM H ho hc ih e
  ·exact absurd e.symm xS
open CM in
theorem xk{w0:Base}{J:Rho}{h:T O}{nx:Q}(H:HR P w0 J h nx w):∀{l:List Shp}{vs:List V}{us:List Value}{cs:List AVal},VRs J vs us->Ms h l vs=cs.map AVal.v ->
  cs.length=us.length/\∀(i:Nat)(c:AVal)(v:Value),cs[i]?=some c->us[i]?=some v->VRel (Hb Ψ w0.heap.size w 24) [] c v/\flat c=true
 |[],[],us,cs,hv,e=>by
  obtain rfl:=hv.inv_nil;obtain rfl:cs=[]:=by cases cs with|nil=>rfl|cons _ _=>cases e
  exact⟨rfl,λi c v hc=>by simp at hc⟩
 |[],v::vs,us,cs,hv,e=>by
  cases cs with
  |nil=>cases e
  |cons c cs=>simp only[Ms,Bb,Em] at e;exact absurd e.1.symm xS
 |s::l,[],us,cs,hv,e=>by
  cases cs with
  |nil=>cases e
  |cons c cs=>simp only[Ms,Bb,Em] at e;exact absurd e.1.symm xS
 |s::l,v::vs,us,cs,hv,e=>by
  obtain⟨u,us,rfl,h1,h2⟩:=hv.inv_cons;cases cs with
  |nil=>cases e
  |cons c cs =>
   simp only[Ms,Bb,Em] at e;obtain⟨g1,g2⟩:=xk H h2 e.2;refine⟨by simp[g1],λi c' v' hc GZ=>?_⟩
   match i with
   |0=>cases hc;cases GZ;exact xj H 24 _ _ _ _ h1 e.1
   |i+1=>exact g2 i c' v' (by simpa using hc) (by simpa using GZ)
open CM in
theorem aG8{w0:Base}{J:Rho}{h:T O}{nx:Q}(H:HR P w0 J h nx w){l:List Shp}{x:V}{u:Value}{cs:List AVal}(hx:VR J x u)(e:rdA h l x=(AVal.agg cs).v):VRel (Hb Ψ w0.heap.size w 24) [] (.agg cs) u:=by
 unfold rdA at e
 split at e
 case h_2=>cases e
 rename_i vs;obtain⟨us,rfl,OU,_⟩:=hx.inv_agg;simp only[AVal.v,V.agg.injEq,AVal.vs_eq] at e;obtain⟨g1,g2⟩:=xk (Ψ:=Ψ) H OU e;exact .agg _ _ g1 (λi c hc=>jM (g2 i c (us[i]'(by rw[<-g1];exact(Ab.1 hc).1)) hc (by simp)).2) λi c v hc hv=>(g2 i c v hc hv).1
end Go.AM
noncomputable section
namespace Go.Proofs.YtoiocfngjchdiaaGreatDoor
open Go.AM Go.RowKit
theorem aMv(c:Nat)(w:World):Calls Tryz.prog 209 #[.slice none 0 c] w λe w'=>e=.returned (.slice none 0 0)/\w'=w:=by
 have hq:=run_eql_nil_slice (P:=Tryz.prog) w 57 9 none 0 0 0 c Tryz.underlying57
 go_enter Tryz.func209,Tryz.ntmps209
 go_wp2
 all_goals go_ret
 all_goals exact⟨rfl,rfl⟩
theorem aHj(a:Addr)(c:Nat)(w:World):Calls Tryz.prog 209 #[.slice (some a) 0 c] w λe w'=>e=.returned (.slice (some ⟨w.heap.size,0,none⟩) 0 0)/\Below w.heap.size w w':=by
 have hq:=Lib.run_eql_slice_nil (P:=Tryz.prog) w 57 9 (some a) 0 c 0 0 Tryz.underlying57
 go_enter Tryz.func209,Tryz.ntmps209
 go_wp2
 all_goals go_ret
 all_goals exact⟨rfl,Below.alloc (.refl _ _) (Af _) _⟩
theorem aMw(c:Nat)(w:World):Calls Tryz.prog 210 #[.slice none 0 c] w λe w'=>e=.returned (.slice none 0 0)/\w'=w:=by
 have hq:=run_eql_nil_slice (P:=Tryz.prog) w 71 249 none 0 0 0 c Tryz.underlying71
 go_enter Tryz.func210,Tryz.ntmps210
 go_wp2
 all_goals go_ret
 all_goals exact⟨rfl,rfl⟩
theorem aHk(a:Addr)(c:Nat)(w:World):Calls Tryz.prog 210 #[.slice (some a) 0 c] w λe w'=>e=.returned (.slice (some ⟨w.heap.size,0,none⟩) 0 0)/\Below w.heap.size w w':=by
 have hq:=Lib.run_eql_slice_nil (P:=Tryz.prog) w 71 249 (some a) 0 c 0 0 Tryz.underlying71
 go_enter Tryz.func210,Tryz.ntmps210
 go_wp2
 all_goals go_ret
 all_goals exact⟨rfl,Below.alloc (.refl _ _) (Af _) _⟩
theorem aMx(c:Nat)(w:World):Calls Tryz.prog 211 #[.slice none 0 c] w λe w'=>e=.returned (.slice none 0 0)/\w'=w:=by
 have hq:=run_eql_nil_slice (P:=Tryz.prog) w 58 60 none 0 0 0 c Tryz.underlying58
 go_enter Tryz.func211,Tryz.ntmps211
 go_wp2
 all_goals go_ret
 all_goals exact⟨rfl,rfl⟩
theorem aHl(a:Addr)(c:Nat)(w:World):Calls Tryz.prog 211 #[.slice (some a) 0 c] w λe w'=>e=.returned (.slice (some ⟨w.heap.size,0,none⟩) 0 0)/\Below w.heap.size w w':=by
 have hq:=Lib.run_eql_slice_nil (P:=Tryz.prog) w 58 60 (some a) 0 c 0 0 Tryz.underlying58
 go_enter Tryz.func211,Tryz.ntmps211
 go_wp2
 all_goals go_ret
 all_goals exact⟨rfl,Below.alloc (.refl _ _) (Af _) _⟩
theorem aAa{w w':World}(h:Below w.heap.size w w'):CM.Grw w w':=⟨h.size,h.block,h.os,h.tape,h.output⟩
theorem od{f:Nat}(hn:∀(c:Nat)(w:World),Calls Tryz.prog f #[.slice none 0 c] w λe w'=>e=.returned (.slice none 0 0)/\w'=w)
  (hs:∀(a:Addr)(c:Nat)(w:World),Calls Tryz.prog f #[.slice (some a) 0 c] w λe w'=>e=.returned (.slice (some ⟨w.heap.size,0,none⟩) 0 0)/\Below w.heap.size w w') (w0:CM.Base):CM.GorOK Tryz.prog w0 f (.rr .e):=by
 intro w J us _ _ _ hv;obtain⟨u,us,rfl,h1,h2⟩:=hv.inv_cons;obtain rfl:=h2.inv_nil;cases h1 with
 |re a cap =>
  cases a with
  |none =>
   refine⟨.slice none 0 0,.re _ _,λc cs=>?_⟩;obtain⟨w',v,⟨rfl,rfl⟩,h⟩:=mR ((hn cap w).mono (R':=λe w'=>∃v,e=.returned v/\(v=.slice none 0 0/\w'=w)) λe w' ⟨e1,e2⟩=>⟨_,e1,rfl,e2⟩) c cs;exact⟨w',⟨Af _,λ_ _=>rfl,rfl,rfl,rfl⟩,h⟩
  |some a =>
   refine⟨.slice (some ⟨w.heap.size,0,none⟩) 0 0,.re _ _,λc cs=>?_⟩;obtain⟨w',v,⟨rfl,hb⟩,h⟩:=mR ((hs a cap w).mono (R':=λe w'=>∃v,e=.returned v/\(v=.slice (some ⟨w.heap.size,0,none⟩) 0 0/\Below w.heap.size w w')) λe w' ⟨e1,e2⟩=>⟨_,e1,rfl,e2⟩) c cs;exact⟨w',aAa hb,h⟩
theorem lW{P:Program}{w w':World}{J:CM.Rho}{h:CM.T CM.O}{nx:CM.Q}{r:CM.Rho}(H:CM.HR P ⟨w,r⟩ J h nx w'):Below w.heap.size w w':=⟨H.os,H.tape,H.output,H.size,H.old⟩
theorem dq{s:List UInt8}{vs:Array Value}{Ψ:HT}(hl:[AVal.str s].length=vs.size)(ha:∀(i:Nat) a,[AVal.str s][i]?=some a->VRel Ψ [] a (vs.getD i undef)):vs=⟨[.string ⟨⟨s⟩⟩]⟩:=by
 obtain⟨vs⟩:=vs
 match vs,hl with
 |[v],_ =>
  have:=ha 0 _ rfl
  cases this;rfl
theorem dt(s:List UInt8)(J:CM.Rho):CM.VRs J [CM.sV s] [.string ⟨⟨s⟩⟩]:=.cons (.str _ _ s rfl rfl) .nil
theorem aG6{f:Nat}{s:List UInt8}{k:IntKind}{n:Int}(hF:∃F,Tryz.prog.funcs[f]?=some F/\F.body.isSome=true)(hc:CM.isMk (CM.compF Tryz.prog f)=true)(e:CM.runF CM.fe26 1000 (CM.qn f) [CM.sV s] (CM.qn 8)=.ok (.int k n)):PureOK Tryz.prog f [.str s] (.int k n):=by
 refine⟨hF,λw Ψ vs hw hl ha c cs=>?_⟩;obtain rfl:=dq hl ha;obtain⟨w',J',h',nx',u,x,h1,h2,h3,h4⟩:=CM.call26 (n:=999) hc (dt s) e w hw.size8 c cs;rw[CM.fin_int h4] at h3;rw[h3.inv_int] at h1;have hb:=lW h2;exact⟨w',Ψ,.int k n,pG hb,gJ hw hb,.int _ _,h1⟩
theorem aDQ{f:Nat}{s:List UInt8}{b:Bool}(hF:∃F,Tryz.prog.funcs[f]?=some F/\F.body.isSome=true)(hc:CM.isMk (CM.compF Tryz.prog f)=true)(e:CM.runF CM.fe26 1000 (CM.qn f) [CM.sV s] (CM.qn 8)=.ok (.bool b)):PureOK Tryz.prog f [.str s] (.bool b):=by
 refine⟨hF,λw Ψ vs hw hl ha c cs=>?_⟩;obtain rfl:=dq hl ha;obtain⟨w',J',h',nx',u,x,h1,h2,h3,h4⟩:=CM.call26 (n:=999) hc (dt s) e w hw.size8 c cs;rw[CM.fin_bool h4] at h3;rw[h3.inv_bool] at h1;have hb:=lW h2;exact⟨w',Ψ,.bool b,pG hb,gJ hw hb,.bool _,h1⟩
theorem aEk{w w':World}{Ψ:HT}{J:CM.Rho}{h:CM.T CM.O}{nx:CM.Q}{r:CM.Rho}(hw:WSat Ψ w)(H:CM.HR Tryz.prog ⟨w,r⟩ J h nx w'){l:List CM.Shp}{x:CM.V}{xs:List CM.V}{u:Value}{cs res:List AVal}(hx:CM.VR J (.tup (x::xs)) u)(e:CM.rdA h l x=(AVal.agg cs).v)(hr:xs=res.map AVal.v)(B6:∀a∈res,CM.scaV a.v=a.v) :
  ∃us,u=.tuple ⟨us⟩/\Fr w Ψ (λ_=>none) w' (Hb Ψ w.heap.size w' 24) (λ_=>none)/\WSat (Hb Ψ w.heap.size w' 24) w'/\(AVal.agg cs::res).length=us.length/\∀(i:Nat) a v,(AVal.agg cs::res)[i]?=some a->us[i]?=some v->VRel (Hb Ψ w.heap.size w' 24) [] a v:=by
 have hb:=lW H;have DO:=gJ hw hb;obtain⟨us,rfl,h1⟩:=hx.inv_tup;obtain⟨u0,us,rfl,r0,r1⟩:=h1.inv_cons;have HO:=aG8 (Ψ:=Ψ) H r0 e
 refine⟨_,rfl,⟨aC5 24,hb.size,λb AL _=>⟨hb.block b AL,λo=>vr 24 AL o⟩,λb hb=>absurd rfl hb,hb.os,hb.tape,hb.output⟩,vt DO 24,by
  have:=r1.1
  rw[hr] at this;simpa using this,λi a v h5 h6=>?_⟩
 match i with
 |0=>cases h5;cases h6;exact HO
 |i+1 =>
  have h5:res[i]?=some a:=by simpa using h5
  have h6:us[i]?=some v:=by simpa using h6
  have h7:=r1.2 i a.v v (by rw[hr,Av,h5];rfl) h6;exact(xw (w:=w') h7 (B6 a (Ba h5))).1
theorem aNk{f:Nat}{s:List UInt8}{t:TyD}(hF:∃F,Tryz.prog.funcs[f]?=some F/\F.body.isSome=true)(hc:CM.isMk (CM.compF Tryz.prog f)=true)(e:CM.runF CM.fe26 1000 (CM.qn f) [CM.sV s] (CM.qn 8)=.ok (.tup [t.enc.v,.bool true])):PureT Tryz.prog f [.str s] [t.enc,.bool true]:=by
 refine⟨hF,λw Ψ vs hw hl ha c cs=>?_⟩;obtain rfl:=dq hl ha;obtain⟨w',J',h',nx',u,x,h1,h2,h3,h4⟩:=CM.call26 (n:=999) hc (dt s) e w hw.size8 c cs
 have hx:∃ty,x=.tup [ty,.bool true]/\CM.rdA h' (CM.tabS 0) ty=t.enc.v:=by
  unfold CM.fin at h4
  split at h4
  ·simp only[CM.V.tup.injEq,Em,and_true] at h4
   exact⟨_,by rw[h4.2],h4.1⟩
  ·simp at h4
  ·split at h4
   ·simp only[CM.V.tup.injEq] at h4
    have h5:=Dp (λl=>l[1]?) h4;simp only[Av,Bv,Ca,Ap] at h5;obtain⟨p,_,h5⟩:=h5;cases h5
   ·cases h4
  ·cases h4
  ·cases h4
  ·cases h4
 obtain⟨ty,rfl,hrd⟩:=hx;obtain⟨nm,al⟩:=t;simp only[TyD.enc] at hrd ⊢;obtain⟨us,rfl,g1,g2,g3,g4⟩:=aEk hw h2 (res:=[.bool true]) h3 hrd rfl (by simp[AVal.v,CM.scaV]);exact⟨w',_,us,g1,g2,g3,g4,h1⟩
theorem pureProg:PureT Tryz.prog 20 [.str []] [.agg [.slice (lib.map DeD.enc)],.int .i64 0,.int .i64 0]:=by
 refine⟨⟨_,Tryz.func20,by kernel_rfl⟩,λw Ψ vs hw hl ha c cs=>?_⟩;obtain rfl:=dq hl ha;obtain⟨w',J',h',nx',u,x,h1,h2,h3,h4⟩:=CM.call26 (n:=999) (g:=20) (by kernel_rfl) (dt []) CM.prog_run w hw.size8 c cs
 have hx:∃p,x=.tup [p,.int .i64 0,.int .i64 0]/\CM.rdA h' [.l 5] p=(AVal.agg [.slice (lib.map DeD.enc)]).v:=by
  generalize(AVal.agg [.slice (lib.map DeD.enc)]).v=V at h4 ⊢;unfold CM.fin at h4
  split at h4
  ·simp at h4
  ·simp only[CM.V.tup.injEq,Em,and_true] at h4
   exact⟨_,by rw[h4.2.1,h4.2.2],h4.1⟩
  ·split at h4
   ·simp only[CM.V.tup.injEq] at h4
    have h5:=Dp (λl=>l[1]?) h4;simp only[Av,Bv,Ca,Ap] at h5;obtain⟨p,_,h5⟩:=h5;cases h5
   ·cases h4
  ·cases h4
  ·cases h4
  ·cases h4
 obtain⟨p,rfl,hrd⟩:=hx;obtain⟨us,rfl,g1,g2,g3,g4⟩:=aEk hw h2 (res:=[.int .i64 0,.int .i64 0]) h3 hrd rfl (by simp[AVal.v,CM.scaV]);exact⟨w',_,us,g1,g2,g3,g4,h1⟩
theorem pure6:PureOK Tryz.prog 6 [] (.bool true):=by
 refine⟨⟨_,Tryz.func6,by kernel_rfl⟩,λw Ψ vs hw hl ha c cs=>?_⟩;obtain rfl:vs=#[]:=Array.eq_empty_of_size_eq_zero hl.symm;obtain⟨w',J',h',nx',u,x,h1,h2,h3,h4⟩:=CM.call26 (n:=999) (g:=6) (by kernel_rfl) (λ_=>.nil) CM.sane26_run w hw.size8 c cs;rw[CM.fin_bool h4] at h3;rw[h3.inv_bool] at h1;have hb:=lW h2;exact⟨w',Ψ,.bool true,pG hb,gJ hw hb,.bool _,h1⟩
theorem aSv:CM.isMk (CM.compF Tryz.prog 192)=true:=by kernel_rfl
theorem aYH:CM.isMk (CM.compF Tryz.prog 37)=true:=by kernel_rfl
theorem aYI:CM.isMk (CM.compF Tryz.prog 46)=true:=by kernel_rfl
theorem Yf{p:List UInt8×Int}(h:p∈kdTab):PureOK Tryz.prog 192 [.str p.1] (.int .i64 p.2):=aG6 ⟨_,Tryz.func192,by kernel_rfl⟩ aSv (CM.kd_runs.mem p h)
theorem p37{p:List UInt8×TyD}(h:p∈tyTab):PureT Tryz.prog 37 [.str p.1] [p.2.enc,.bool true]:=aNk ⟨_,Tryz.func37,by kernel_rfl⟩ aYH (CM.ty_runs.mem p h)
theorem p46{p:List UInt8×TyD}(h:p∈tyTab):PureOK Tryz.prog 46 [.str p.1] (.bool true):=aDQ ⟨_,Tryz.func46,by kernel_rfl⟩ aYI (CM.pl_runs.mem p h)
end Go.Proofs.YtoiocfngjchdiaaGreatDoor
end
