import Derived.Test.YtoiocfngjchdiaaGreatDoorT07
set_option linter.all false
set_option maxRecDepth 100000
set_option maxHeartbeats 8000000
namespace Go.Proofs.YtoiocfngjchdiaaGreatDoor
section
open Go.AM
theorem aMs:(En 36).find gT=some (.fn [112] o9 (En 36)):=by kernel_rfl
theorem aGO:(En 42).find gT=some (.fn [112] o9 (En 36)):=by kernel_rfl
theorem aAZ:(En 42).find qM=some (.fn [97] a20 (En 19)):=by kernel_rfl
theorem a3p:(En 42).find iS=some (.fn [108] ch (En 42)):=by kernel_rfl
theorem a3S:(En 43).find gD=some (.fn [120] vK (En 43)):=by kernel_rfl
theorem a6m:(En 48).find gD=some (.fn [120] vK (En 43)):=by kernel_rfl
theorem aA0:(En 48).find pH=some (.fn [102] rm (En 18)):=by kernel_rfl
theorem aDn:qo.find iS=some (.fn [108] ch (En 42)):=by kernel_rfl
theorem aGP:qo.find qN=some (.fn [108] Wn (En 48)):=by kernel_rfl
abbrev aSq:af:=cs (va [108]) [cn [44] [cn dP [],cn dP []],cs (ap (ap (va gT) (va [112])) (va [116])) [cs (ap (va [112]) (va [104])) [cn [44] [cn bI [va [104],va [97]],va [98]],cn [44] [va [97],cn bI [va [104],va [98]]]] [pc cV [],pc cD []]] [pc [44] [pv [97],pv [98]]]] [pc dP [],pc bI [pv [104],pv [116]]]
theorem qU(q:Int->Bool)(f:List UInt8)(b:af)(C:aq)(K:Nat)(hq:∀x,∃k,k<=K/\Ev b (.cons f (.num x) C) (SJ (q x)) k) :
  ∀l:List Int,∃n,n<=(20+K)*l.length+5/\Ev aSq (.cons [108] (D6 l) (.cons [112] (.fn f b C) (En 36))) (.mk [44] [D6 (l.filter q),D6 (l.filter λx=>!q x)]) n
 |[]=>⟨_,by simp,C8 (AX aY) (by decide) rfl (jY u7 u7)⟩
 |h::t=>by
  obtain⟨n,h1,h2⟩:=qU q f b C K hq t;obtain⟨k,k1,k2⟩:=hq h;have hp:=CX (CX (AX (e:=.cons [116] (D6 t) (.cons [104] (.num h) (.cons [108] (D6 (h::t)) (.cons [112] (.fn f b C) (En 36))))) (aA rfl (aA rfl (aA rfl (aA rfl aMs))))) (AX (aA rfl (aA rfl (aA rfl aY)))) HK) (AX aY) h2;cases e:q h with
  |true =>
   rw[e] at k2;have e1:(h::t).filter q=h::t.filter q:=by simp[e]
   have e2:(h::t).filter (λx=>!q x)=t.filter λx=>!q x:=by simp[e]
   rw[e1,e2];refine⟨_,?_,C8 (AX aY) (by decide) rfl (C8 hp (by decide) rfl (C8 (CX (AX (aA rfl (aA rfl (aA rfl (aA rfl (aA rfl aY)))))) (AX (aA rfl (aA rfl (aA rfl aY)))) k2) (by decide) rfl (jY (jY (AX (aA rfl (aA rfl (aA rfl aY)))) (AX (aA rfl aY))) (AX aY))))⟩;simp only[Ak,Er];omega
  |false =>
   rw[e] at k2;have e1:(h::t).filter q=t.filter q:=by simp[e]
   have e2:(h::t).filter (λx=>!q x)=h::t.filter λx=>!q x:=by simp[e]
   rw[e1,e2];refine⟨_,?_,C8 (AX aY) (by decide) rfl (C8 hp (by decide) rfl (C8 (CX (AX (aA rfl (aA rfl (aA rfl (aA rfl (aA rfl aY)))))) (AX (aA rfl (aA rfl (aA rfl aY)))) k2) (by decide) rfl (jY (AX (aA rfl aY)) (jY (AX (aA rfl (aA rfl (aA rfl aY)))) (AX aY)))))⟩;simp only[Ak,Er];omega
theorem a3D(q:Int->Bool):∀l:List Int,(l.filter q++l.filter λx=>!q x).Perm l
 |[]=>.refl _
 |h::t=>by
  have ih:=a3D q t;cases e:q h with
  |true=>simp only[Fu,e,Dq,Ey,Bg,Dk,Cw];exact ih.cons h
  |false=>simp only[Fu,e,Bg,Dk,Bool.not_false,Dq];exact List.perm_middle.trans (ih.cons h)
theorem x5:∀(k:Nat)(l:List Int),l.length<=k->∃m n,m.Perm l/\GI m/\n<=25*(l.length*l.length)+60*l.length+3/\Ev ch (.cons [108] (D6 l) (En 42)) (D6 m) n
 |_,[],_=>⟨[],_,.refl _,by simp[GI],by simp,C8 (AX aY) (by decide) rfl u7⟩
 |0,_::_,h=>by simp at h
 |k+1,h::t,hl=>by
  obtain⟨a8B,p1,p2⟩:=qU (λx=>decide (x<h)) [120] (op [60] (va [120]) (va [104])) (.cons [116] (D6 t) (.cons [104] (.num h) (.cons [108] (D6 (h::t)) (En 42)))) 3 (λx=>⟨_,by omega,Kl (AX aY) (AX (aA rfl (aA rfl aY))) Vm⟩) t;have hp:=a3D (λx=>decide (x<h)) t;have hlen:=hp.length_eq;have ha:∀x∈t.filter λx=>decide (x<h),x<h:=λx hx=>by simpa using(Cu.1 hx).2
  have hb:∀x∈t.filter λx=>!decide (x<h),h<=x:=λx hx=>by simpa using(Cu.1 hx).2
  simp only[Bc] at hlen;simp only[Ak] at hl;generalize t.filter (λx=>decide (x<h))=a at *;generalize t.filter (λx=>!decide (x<h))=b at *;obtain⟨ma,na,a1,a2,a3,a4⟩:=x5 k a (by omega);obtain⟨mb,a6y,b1,b2,b3,b4⟩:=x5 k b (by omega);obtain⟨a8A,c1,c2⟩:=aAC (ma.map .num) ((h::mb).map .num);rw[<-Fa] at c2
  refine⟨ma++h::mb,_,(a1.append (b1.cons h)).trans (List.perm_middle.trans (hp.cons h)),?_,?_,C8 (AX aY) (by decide) rfl (C8 (CX (CX (AX (aA rfl (aA rfl (aA rfl aGO)))) HK HK) (AX aY) p2) (by decide) rfl
   (CX (CX (AX (aA rfl (aA rfl (aA rfl (aA rfl (aA rfl aAZ)))))) (CX (AX (aA rfl (aA rfl (aA rfl (aA rfl (aA rfl a3p)))))) (AX (aA rfl aY)) a4) HK) (jY (AX (aA rfl (aA rfl (aA rfl aY)))) (CX (AX (aA rfl (aA rfl (aA rfl (aA rfl (aA rfl a3p)))))) (AX aY) b4)) c2))⟩
  ·refine Dh.2 ⟨a2,Bb.2 ⟨λy hy=>hb y (b1.mem_iff.1 hy),b2⟩,λx hx y hy=>?_⟩
   have h1:=ha x (a1.mem_iff.1 hx);rcases As.1 hy with rfl|hy
   ·omega
   ·have:=hb y (b1.mem_iff.1 hy);omega
  ·rw[Ay,a1.length_eq] at c1
   simp only[Ak]
   have e:(t.length+1)*(t.length+1)=a.length*a.length+b.length*b.length+2*(a.length*b.length)+2*t.length+1:=by
    rw[<-hlen];simp only[Co,Nat.mul_add,Nat.mul_one,Nat.one_mul,Fp b.length a.length];omega
   rw[e];generalize a.length*a.length=u at *;generalize b.length*b.length=v at *;generalize a.length*b.length=w at *;omega
def MP:Tr->au
 |.leaf=>.mk kP []
 |.node l x r=>.mk jI [MP l,.num x,MP r]
theorem Vz{s:List UInt8}{a b c:af}{e:aq}{u v w:au}{n1 n2 n3:Nat}(h1:Ev a e u n1)(h2:Ev b e v n2)(h3:Ev c e w n3):Ev (cn s [a,b,c]) e (.mk s [u,v,w]) (n1+(n2+n3)+1):=.bh (by simp) (.cons h1 (.cons h2 (.cons h3 .nil)))
abbrev aSr:af:=cs (va [116]) [cn jI [cn kP [],va [120],cn kP []],cs (op [60] (va [120]) (va [121])) [cn jI [ap (ap (va gD) (va [120])) (va [108]),va [121],va [114]],cs (op [60] (va [121]) (va [120])) [cn jI [va [108],va [121],ap (ap (va gD) (va [120])) (va [114])],va [116]] [pc cV [],pc cD []]] [pc cV [],pc cD []]] [pc kP [],pc jI [pv [108],pv [121],pv [114]]]
theorem gy(x:Int):∀t:Tr,∃n,n<=24*t.nodes+6/\Ev aSr (.cons [116] (MP t) (.cons [120] (.num x) (En 43))) (MP (t.put x)) n
 |.leaf=>⟨_,by simp,C8 (AX aY) (by decide) rfl (Vz u7 (AX (aA rfl aY)) u7)⟩
 |.node l y r=>by
  by_cases h1:x<y
  ·obtain⟨n,k1,k2⟩:=gy x l
   have e:(Tr.node l y r).put x=.node (l.put x) y r:=by simp[Tr.put,h1]
   rw[e]
   refine⟨_,?_,C8 (AX aY) (by decide) rfl (C8 (Kl (AX (aA rfl (aA rfl (aA rfl (aA rfl aY))))) (AX (aA rfl aY)) (R7 h1)) (by decide) rfl
    (Vz (CX (CX (AX (aA rfl (aA rfl (aA rfl (aA rfl (aA rfl a3S)))))) (AX (aA rfl (aA rfl (aA rfl (aA rfl aY))))) HK) (AX (aA rfl (aA rfl aY))) k2) (AX (aA rfl aY)) (AX aY)))⟩
   simp only[Tr.nodes];omega
  ·by_cases h2:y<x
   ·obtain⟨n,k1,k2⟩:=gy x r
    have e:(Tr.node l y r).put x=.node l y (r.put x):=by simp[Tr.put,h1,h2]
    rw[e]
    refine⟨_,?_,C8 (AX aY) (by decide) rfl (C8 (Kl (AX (aA rfl (aA rfl (aA rfl (aA rfl aY))))) (AX (aA rfl aY)) (Ok h1)) (by decide) rfl (C8 (Kl (AX (aA rfl aY)) (AX (aA rfl (aA rfl (aA rfl (aA rfl aY))))) (R7 h2)) (by decide) rfl
     (Vz (AX (aA rfl (aA rfl aY))) (AX (aA rfl aY)) (CX (CX (AX (aA rfl (aA rfl (aA rfl (aA rfl (aA rfl a3S)))))) (AX (aA rfl (aA rfl (aA rfl (aA rfl aY))))) HK) (AX aY) k2))))⟩
    simp only[Tr.nodes];omega
   ·have e:(Tr.node l y r).put x=.node l y r:=by simp[Tr.put,h1,h2]
    rw[e];refine⟨_,?_,C8 (AX aY) (by decide) rfl (C8 (Kl (AX (aA rfl (aA rfl (aA rfl (aA rfl aY))))) (AX (aA rfl aY)) (Ok h1)) (by decide) rfl (C8 (Kl (AX (aA rfl aY)) (AX (aA rfl (aA rfl (aA rfl (aA rfl aY))))) (Ok h2)) (by decide) rfl (AX (aA rfl (aA rfl (aA rfl aY))))))⟩;simp only[Tr.nodes];omega
theorem oC(x:Int):∀t:Tr,(t.put x).nodes<=t.nodes+1
 |.leaf=>by simp[Tr.put,Tr.nodes]
 |.node l y r=>by
  have h1:=oC x l;have h2:=oC x r;simp only[Tr.put];cases decide (x<y)<;>cases decide (y<x)<;>simp only[Bo,Bh,Tr.nodes]<;>omega
def dX(l:List Int):Tr:=l.foldl (λt x=>t.put x) .leaf
theorem aIt(a:List Int)(ha:a.length<=30):∃n,n<=40000/\Ev Wn (.cons [108] (D6 a) (En 48)) (MP (dX a)) n:=by
 obtain⟨r,n,⟨d,T,rfl,h1,Kf,a8h⟩,h2,h3⟩:=aDi (e:=.cons [108] (D6 a) (En 48)) (F:=.fn [116] (la [120] (ap (ap (va gD) (va [120])) (va [116]))) (.cons [108] (D6 a) (En 48))) (aA rfl aA0) (l:=a.map .num) 760 (λt z=>∃(d:List Int)(T:Tr),z=MP T/\(d.map au.num++t=a.map .num)/\T=dX d/\T.nodes<=d.length) HK u7 (AX aY)
  (λx t z ⟨d,T,hz,hd,hT,hn⟩=>by
   have hx:x∈a.map au.num:=by rw[<-hd];simp
   obtain⟨y,_,rfl⟩:=Cn.1 hx;have hl:=Dd List.length hd;simp only[Bc,Ay,Ak] at hl;obtain⟨n,k1,k2⟩:=gy y T;have hp:=oC y T;subst hz;refine⟨_,_,⟨_,_,_,_,_,_,_,_,rfl,HK,CX (CX (AX (aA rfl (aA rfl (aA rfl a6m)))) (AX aY) HK) (AX (aA rfl aY)) k2,rfl⟩,?_,d++[y],T.put y,rfl,by simpa using hd,?_,by simp only[Bc,Ak,Ap];omega⟩
   ·omega
   ·subst hT;simp[dX,List.foldl_append]) ⟨[],.leaf,rfl,rfl,rfl,Ae _⟩
 have e:d=a:=by
  have:=Dd (List.map λi:au=>match i with|.num n=>n|_=>0) h1
  simpa[List.map_map,Dw] using this
 subst e Kf;rw[Ay] at h2;refine⟨n,?_,h3⟩
 have:(12+760)*d.length<=(12+760)*30:=Nat.mul_le_mul_left _ ha
 omega
end
section
open Go.AM
abbrev Kj(l:List Int):Prop:=l.Pairwise (· < ·)
theorem x4(x:Int):∀t:Tr,Kj t.flat->Kj (t.put x).flat/\∀y,y∈(t.put x).flat↔y=x\/y∈t.flat
 |.leaf,_=>⟨by simp[Tr.put,Tr.flat,Kj],λy=>by simp[Tr.put,Tr.flat]⟩
 |.node l z r,h=>by
  simp only[Tr.flat] at h;obtain⟨hl,ID,CW⟩:=Dh.1 h;obtain⟨hz,hr⟩:=Bb.1 ID;by_cases h1:x<z
  ·obtain⟨i1,i2⟩:=x4 x l hl
   have e:(Tr.node l z r).put x=.node (l.put x) z r:=by simp[Tr.put,h1]
   rw[e];simp only[Tr.flat];refine⟨Dh.2 ⟨i1,ID,λa ha b hb=>?_⟩,λy=>?_⟩
   ·rcases(i2 a).1 ha with rfl|ha
    ·rcases As.1 hb with rfl|hb
     ·exact h1
     ·have:=hz b hb;omega
    ·exact CW a ha b hb
   ·simp only[Bk,As,i2,or_assoc]
  ·by_cases h2:z<x
   ·obtain⟨i1,i2⟩:=x4 x r hr
    have e:(Tr.node l z r).put x=.node l z (r.put x):=by simp[Tr.put,h1,h2]
    rw[e];simp only[Tr.flat];refine⟨Dh.2 ⟨hl,Bb.2 ⟨λb hb=>?_,i1⟩,λa ha b hb=>?_⟩,λy=>?_⟩
    ·rcases(i2 b).1 hb with rfl|hb
     ·exact h2
     ·exact hz b hb
    ·have Ik:=CW a ha z (by simp)
     rcases As.1 hb with rfl|hb
     ·exact Ik
     ·rcases(i2 b).1 hb with rfl|hb
      ·omega
      ·exact CW a ha b (by simp[hb])
    ·simp only[Bk,As,i2]
     constructor
     ·rintro(h|h|h|h)<;>simp[h]
     ·rintro(h|h|h|h)<;>simp[h]
   ·have e:(Tr.node l z r).put x=.node l z r:=by simp[Tr.put,h1,h2]
    have e2:x=z:=by omega
    rw[e];refine⟨h,λy=>⟨.inr,?_⟩⟩
    rintro(rfl|h)
    ·simp[Tr.flat,e2]
    ·exact h
theorem a3I:∀(a:List Int)(t:Tr),Kj t.flat->Kj (a.foldl (λt x=>t.put x) t).flat/\∀y,y∈(a.foldl (λt x=>t.put x) t).flat↔y∈t.flat\/y∈a
 |[],t,h=>⟨h,by simp⟩
 |x::a,t,h=>by
  obtain⟨h1,h2⟩:=x4 x t h;obtain⟨i1,i2⟩:=a3I a (t.put x) h1;refine⟨i1,λy=>(i2 y).trans ?_⟩;rw[h2,As];constructor
  ·rintro((h|h)|h)<;>simp[h]
  ·rintro(h|h|h)<;>simp[h]
theorem vt:∀{a b:List Int},a.Perm b->GI a->GI b->a=b
 |[],b,h,_,_=>(List.nil_perm.1 h).symm
 |x::a,[],h,_,_=>by simp at h
 |x::a,y::b,h,ha,hb=>by
  obtain⟨a1,a2⟩:=Bb.1 ha;obtain⟨b1,b2⟩:=Bb.1 hb
  have h1:y<=x:=by
   rcases As.1 (h.mem_iff.1 (by simp:x∈x::a)) with rfl|h
   ·exact Gb _
   ·exact b1 x h
  have h2:x<=y:=by
   rcases As.1 (h.mem_iff.2 (by simp:y∈y::b)) with rfl|h
   ·exact Gb _
   ·exact a1 y h
  obtain rfl:x=y:=by omega
  rw[vt h.cons_inv a2 b2]
theorem zz:∀{a b:List Int},Kj a->Kj b->(∀y,y∈a↔y∈b)->a=b
 |[],[],_,_,_=>rfl
 |[],y::b,_,_,h=>absurd ((h y).2 (by simp)) (by simp)
 |x::a,[],_,_,h=>absurd ((h x).1 (by simp)) (by simp)
 |x::a,y::b,ha,hb,h=>by
  obtain⟨a1,a2⟩:=Bb.1 ha;obtain⟨b1,b2⟩:=Bb.1 hb
  have h1:y<=x:=by
   rcases As.1 ((h x).1 (by simp)) with rfl|h
   ·exact Gb _
   ·exact Int.le_of_lt (b1 x h)
  have h2:x<=y:=by
   rcases As.1 ((h y).2 (by simp)) with rfl|h
   ·exact Gb _
   ·exact Int.le_of_lt (a1 y h)
  obtain rfl:x=y:=by omega
  rw[zz a2 b2 λz=>⟨λhz=>?_,λhz=>?_⟩]
  ·rcases As.1 ((h z).1 (by simp[hz])) with rfl|h
   ·have:=a1 z hz;omega
   ·exact h
  ·rcases As.1 ((h z).2 (by simp[hz])) with rfl|h
   ·have:=b1 z hz;omega
   ·exact h
def dd(p:Int):List Int->List Int
 |[]=>[]
 |y::t=>bif y==p then dd p t else y::dd y t
theorem Wp:∀(l:List Int)(p:Int),GI (p::l)->Kj (p::dd p l)/\∀y,y∈p::dd p l↔y∈p::l
 |[],p,_=>⟨by simp[dd,Kj],λy=>by simp[dd]⟩
 |y::t,p,h=>by
  obtain⟨h1,h2⟩:=Bb.1 h;cases e:y==p with
  |true =>
   obtain rfl:y=p:=by simpa using e
   obtain⟨i1,i2⟩:=Wp t y h2;have e2:dd y (y::t)=dd y t:=by simp only[dd,e,Bo]
   rw[e2];exact⟨i1,λz=>(i2 z).trans (by simp)⟩
  |false =>
   have BA:y≠p:=by simpa using e
   have hle:=h1 y (by simp);obtain⟨i1,i2⟩:=Wp t y h2;have e2:dd p (y::t)=y::dd y t:=by simp only[dd,e,Bh]
   rw[e2];refine⟨Bb.2 ⟨λz hz=>?_,i1⟩,λz=>by rw[As,i2,<-As]⟩;rcases As.1 hz with rfl|hz
   ·omega
   ·have:=(Bb.1 i1).1 z hz;omega
theorem dm(p:Int):∀l:List Int,(dd p l).length<=l.length
 |[]=>Ae _
 |y::t=>by
  simp only[dd];have h1:=dm p t;have h2:=dm y t;cases y==p<;>simp only[Bo,Bh,Ak]<;>omega
theorem ic{A:List Int}:∀{m:List Int},m.Perm A->GI m->(dX A).flat=match m with|[]=>[]|x::t=>x::dd x t
 |[],h,_=>by rw[List.nil_perm.1 h];rfl
 |x::t,h,hs=>by
  obtain⟨i1,i2⟩:=a3I A .leaf (by simp[Tr.flat,Kj]);obtain⟨j1,j2⟩:=Wp t x hs;refine zz i1 j1 λy=>(i2 y).trans ?_
  rw[j2,h.mem_iff];simp[Tr.flat]
theorem a7F{A m:List Int}(h:m.Perm A)(v:Int):dN v m=dN v A:=h.countP_eq _
end
section
open Go.AM
variable [h_]
theorem a0f(l:List ad):(aM l).enc=.agg [.str (aM l).bh,.int .i64 0,.slice ((aM l).args.map ad.enc)]:=by
 rw[ad.aw];cases l<;>rfl
theorem aNv(sto:AH)(l:List ad):∀out:List ad,out.length+l.length<2000->(∀v∈l,v.size<AR) ->
  ∃s0 s2 s3 BZ CP RU,LP 16 (aN Tryz.f16 0) ⟨[.dead,.box [.val (.str (aM l).bh),.val (.int .i64 0),.val (.slice ((aM l).args.map ad.enc))],.dead,.dead,.own 3 (out.map ad.enc),.dead,.dead,.dead],sto⟩ =
   some (.exit 0,⟨[s0,.box [.val (.str [78,105,108]),.val (.int .i64 0),.val (.slice [])],s2,s3,.own 3 ((out++l).map ad.enc),BZ,CP,RU],sto⟩):=by
 induction l with
 |nil =>
  intro out ho hs;have e1:(aM []).bh=[78,105,108]:=rfl;have e2:(aM []).args.map ad.enc=[]:=rfl;rw[Ao,e1,e2];iterate 6 apply Exists.intro
  refine tI rfl ?_;exact BP;all_goals exact .dead
 |cons a l ih =>
  intro out ho hs;have Iu:(((out.length:Nat):Int)==2000)=false:=by simp;omega
  have hr:Nat.ble (out.length+1) room=true:=by apply Ah;simp only[room];omega
  have emap:(out++[a]).map ad.enc=out.map ad.enc++[a.enc]:=by simp
  have PZ:=VI a ⟨sto.objs,sto.objs.length⟩ (hs a (by simp));obtain⟨s0,s2,s3,BZ,CP,RU,ih⟩:=ih (out++[a]) (by simp only[Bc,Ak,Ap] at ho ⊢;omega) (λv hv=>hs v (by simp[hv]));rw[emap] at ih;simp only[Aj,Al] at ih;have e1:(aM (a::l)).bh=[67,111,110,115]:=rfl;have e2:(aM (a::l)).args.map ad.enc=[a.enc,(aM l).enc]:=rfl;rw[e1,e2,a0f l];rw[a.aw] at PZ ih ⊢;clear e1 e2 emap hs ho;refine⟨s0,s2,s3,BZ,CP,RU,?_⟩;refine tI rfl ?_;exact BP
theorem c16(l:List ad)(hl:l.length<2000)(hs:∀v∈l,v.size<AR)(sto:AH):CF (.fn 16) [.val (aM l).enc] sto=some (.ret (.aj [.slice (l.map ad.enc),.bool true]),sto):=by
 obtain⟨s0,s2,s3,BZ,CP,RU,BJ⟩:=aNv sto l [] (by simpa using hl) hs;simp only[Ai,Av] at BJ;rw[a0f];clear hs hl;exact BP
def vE(n:Int):ae:=.agg [.str [],.int .i64 n,.slice []]
theorem aNx(sto:AH)(ys:List Int):∀(pre:List Int),(pre++ys).length+1<AR ->
  ∃s0 s2 s4 s8,LP 18 (aN Tryz.f18 0) ⟨[.val (.slice ((pre++ys).map vE)),.dead,.own 1 (pre.map fO),.val (.int .i64 (pre.length:Nat)),.dead],sto⟩=some (.exit 0,⟨[s0,s2,.own 1 ((pre++ys).map fO),s4,s8],sto⟩):=by
 induction ys with
 |nil =>
  intro pre h3;have AL:=DK pre;simp only[Ao];iterate 4 apply Exists.intro
  refine tI rfl ?_;exact BP;all_goals exact .dead
 |cons y ys ih =>
  intro pre h3;have AN:=cQ vE pre ys y;have AL:=CQ pre ys y;have h0:=zI pre.length;have hw:=wL pre ys y (by omega);have hr:Nat.ble (pre.length+1) room=true:=by apply Ah;simp only[room];simp only[Bc,Ak,AR] at h3;omega
  have emap:(pre++[y]).map fO=pre.map fO++[.int .i64 y]:=by simp[fO]
  obtain⟨s0,s2,s4,s8,ih⟩:=ih (pre++[y]) (by simpa using h3);rw[emap] at ih;simp only[Aj,Al] at ih;simp only[vE] at AN;refine⟨s0,s2,s4,s8,?_⟩;refine tI rfl ?_;exact BP
theorem Yf(l:List Int)(hl:l.length+1<AR)(sto:AH):CF (.fn 18) [.val (.slice (dv l))] sto=some (.ret (.val (.slice (l.map fO))),sto):=by
 obtain⟨s0,s2,s4,s8,BJ⟩:=aNx sto l [] (by simpa using hl);have e0:([]:List Int).map fO=[]:=rfl;simp only[Ai,Ap,e0] at BJ;have e1:((0:Nat):Int)=0:=rfl;rw[e1] at BJ;show CF (.fn 18) [.val (.slice (l.map vE))] sto=_;exact BP
theorem aDf(t:Tr):tH t=.nl/\t.flat=[]\/tH t=.own 3 (dv t.flat):=by
 cases t with
 |leaf=>exact .inl ⟨rfl,rfl⟩
 |node l x r=>exact .inr rfl
theorem sR(l:List Int):dv l=(l.map bL).map ad.enc:=by simp[dv,wQ,Dw]
theorem a6x(l:List ad):(aM l).enc=.agg [.str (aM l).bh,.int .i64 (aM l).num,.slice ((aM l).args.map ad.enc)]:=ad.aw _
theorem c89(t:Tr)(sto:AH)(hb:t.nodes<AR)(AP:sto.lo<=sto.objs.length):CF (.fn 89) [.val (.agg []),.val (.slice [t.val.enc])] sto=some (.ret (.val (aM (t.flat.map bL)).enc),sto):=by
 have h:=aR3 t sto hb;have IK:=Yc (t.flat.map bL) (by rw[Ay,kV];exact hb) sto AP;rw[<-sR] at IK;rw[ad.aw t.val] at h ⊢;rw[a6x] at IK ⊢;clear hb AP;rcases aDf t with⟨e1,e2⟩|e1
 ·rw[e1] at h
  rw[e2] at IK ⊢;simp only[dv,Av] at IK ⊢;exact BP
 ·rw[e1] at h
  exact BP
theorem aSD(A:List Int)(sto:AH)(GW:∀v,CF (.fn 17) [.val (.slice (A.map fO)),.val (.int .i64 v)] sto=some (.ret (.val (.int .i64 (dN v A:Nat))),sto))(ys:List Int):∀(q:List Int)(p:Int)(d:List Int),(q++p::ys).length<=30->d.length<=q.length+1->GI (p::ys)->(∀v,dN v (q++p::ys)=dN v A) ->
  ∃s0 s2 s4 s5 s6 s8 s9 BK BU FJ D9 B5 BZ CD FI CP BT DG CN G2 GQ GO GN GM GL,LP 5 (aN Tryz.f5 0) ⟨[.dead,.dead,.val (.bool true),.val (.slice (A.map fO)),.dead,.dead,.dead,.dead,.dead,.dead,.dead,.dead,.dead,.dead,.dead,.val (.slice ((q++p::ys).map vE)),.dead,.val (.slice ((d++dd p ys).map vE)),.dead,.val (.int .i64 (d.length:Nat)),.val (.int .i64 ((q++[p]).length:Nat)),.dead,.dead,.dead,.dead,.dead,.dead,.dead],sto⟩ =
   some (.exit 0,⟨[s0,s2,.val (.bool true),s4,s5,s6,s8,s9,BK,BU,FJ,D9,B5,BZ,CD,FI,CP,.val (.slice ((d++dd p ys).map vE)),BT,.val (.int .i64 ((d++dd p ys).length:Nat)),DG,CN,G2,GQ,GO,GN,GM,GL],sto⟩):=by
 induction ys with
 |nil =>
  intro q p d hl hd hs ht;have AL:decide ((((q++[p]).length:Nat):Int)<((q++[p]).length:Nat))=false:=by simp
  simp only[dd,Ao];iterate 25 apply Exists.intro
  refine tI rfl ?_;exact BP;all_goals exact .dead
 |cons y ys ih =>
  intro q p d hl hd hs ht;obtain⟨hp,JG⟩:=Bb.1 hs;have hpy:=hp y (by simp);have hlen:(q++p::y::ys).length=q.length+(ys.length+2):=by simp
  have I0:(q++[p]).length=q.length+1:=by simp
  have AL:decide ((((q++[p]).length:Nat):Int)<((q++p::y::ys).length:Nat))=true:=by rw[hlen,I0];simp;omega
  have a5V:decide (((q.length:Nat):Int)<((q++p::y::ys).length:Nat))=true:=by rw[hlen];simp;omega
  have h0:=zI (q++[p]).length;have Y1:=zI q.length
  have Ru:((q++p::y::ys).map vE)[(((q++[p]).length:Nat):Int).toNat]?=some (vE y):=by
   have:=cQ vE (q++[p]) ys y
   simpa only[Aj,Al] using this
  have EF:=cQ vE q (y::ys) p
  have Jr:IntKind.i64.wrap ((((q++[p]).length:Nat):Int)-1)=((q.length:Nat):Int):=by
   rw[I0];rw[hlen] at hl;simp[IntKind.wrap,IntKind.bits,IntKind.signed];omega
  have a8v:decide ((((q++[p]).length:Nat):Int)>0)=true:=by rw[I0];simp<;>omega
  have hz0:((((q++[p]).length:Nat):Int)==0)=false:=by rw[I0];simp;omega
  have pi:decide (p>y)=false:=by simp;omega
  have Ux:=Yf (q++p::y::ys) (by simp only[AR];omega) sto;have hv:dv (q++p::y::ys)=(q++p::y::ys).map vE:=rfl;rw[hv] at Ux;have NG:=VJ (q++p::y::ys) y (by simp only[AR];omega) sto;have a5d:=GW y;rw[ht y] at NG;have BA:(((dN y A:Nat):Int) != ((dN y A:Nat):Int))=false:=Cd _
  have hw:IntKind.i64.wrap ((((q++[p]).length:Nat):Int)+1)=(((q++[p])++[y]).length:Nat):=by
   rw[wI _ (by rw[hlen] at hl;rw[I0];simp only[AR];omega)];simp<;>omega
  have ea:q++p::y::ys=(q++[p])++y::ys:=by simp
  have ih:=λd h1=>ih (q++[p]) y d (by rw[<-ea];exact hl) h1 JG (λv=>by rw[<-ea];exact ht v)
  simp only[<-ea] at ih;simp only[vE] at Ru EF;cases e:y==p with
  |true =>
   obtain rfl:y=p:=by simpa using e
   have Rl:(y != y)=false:=Cd _;have e2:dd y (y::ys)=dd y ys:=by simp only[dd,e,Bo]
   rw[e2];obtain⟨s0,s2,s4,s5,s6,s8,s9,BK,BU,FJ,D9,B5,BZ,CD,FI,CP,BT,DG,CN,G2,GQ,GO,GN,GM,GL,ih⟩:=ih d (by omega);clear GW ht hs JG hp hl hd hlen I0 ea hv e2;refine⟨s0,s2,s4,s5,s6,s8,s9,BK,BU,FJ,D9,B5,BZ,CD,FI,CP,BT,DG,CN,G2,GQ,GO,GN,GM,GL,?_⟩;refine tI rfl ?_;exact BP
  |false =>
   have Rl:(p != y)=true:=by
    have:y≠p:=by simpa using e
    simp only[bne_iff_ne,ne_eq];exact λh=>this h.symm
   have e2:dd p (y::ys)=y::dd y ys:=by simp only[dd,e,Bh]
   rw[e2];have Iu:decide (((d.length:Nat):Int)>=((d++y::dd y ys).length:Nat))=false:=by simp;omega
   have PN:=CQ d (dd y ys) y;have h03:=zI d.length;have LM:=cQ vE d (dd y ys) y
   have Re:=wL d (dd y ys) y (by
    have:=dm y ys
    simp only[Bc,Ak,AR];rw[hlen] at hl;omega)
   have hyy:(y != y)=false:=Cd _;have a0G:d++[y]++dd y ys=d++y::dd y ys:=by simp
   have ih:=ih (d++[y]) (by simp;omega);rw[a0G] at ih;obtain⟨s0,s2,s4,s5,s6,s8,s9,BK,BU,FJ,D9,B5,BZ,CD,FI,CP,BT,DG,CN,G2,GQ,GO,GN,GM,GL,ih⟩:=ih;simp only[vE] at LM;clear GW ht hs JG hp hl hd hlen I0 ea hv e2 a0G;refine⟨s0,s2,s4,s5,s6,s8,s9,BK,BU,FJ,D9,B5,BZ,CD,FI,CP,BT,DG,CN,G2,GQ,GO,GN,GM,GL,?_⟩;refine tI rfl ?_;exact BP
theorem aNF(A:List Int)(sto:AH)(GW:∀v,CF (.fn 17) [.val (.slice (A.map fO)),.val (.int .i64 v)] sto=some (.ret (.val (.int .i64 (dN v A:Nat))),sto))(hA:A.length<=30):∀(m:List Int),m.Perm A->GI m ->
  ∃s0 s2 s4 s5 s6 s8 s9 BK BU FJ D9 B5 BZ CD FI CP BT DG CN G2 GQ GO GN GM GL,LP 5 (aN Tryz.f5 0) ⟨[.dead,.dead,.val (.bool true),.val (.slice (A.map fO)),.dead,.dead,.dead,.dead,.dead,.dead,.dead,.dead,.dead,.dead,.dead,.val (.slice (m.map vE)),.dead,.val (.slice ((dX A).flat.map vE)),.dead,.val (.int .i64 0),.val (.int .i64 0),.dead,.dead,.dead,.dead,.dead,.dead,.dead],sto⟩ =
   some (.exit 0,⟨[s0,s2,.val (.bool true),s4,s5,s6,s8,s9,BK,BU,FJ,D9,B5,BZ,CD,FI,CP,.val (.slice ((dX A).flat.map vE)),BT,.val (.int .i64 ((dX A).flat.length:Nat)),DG,CN,G2,GQ,GO,GN,GM,GL],sto⟩)
 |[],hm,hs=>by
  have e:=ic hm hs;simp only at e;rw[e];have AL:decide ((0:Int)<((0:Nat):Int))=false:=rfl;simp only[Av,Ap,show((0:Nat):Int)=0 from rfl];iterate 25 apply Exists.intro
  refine tI rfl ?_;exact BP;all_goals exact .dead
 |x::t,hm,hs=>by
  have e:=ic hm hs;simp only at e;rw[e];have hl:=hm.length_eq;have hT:=a7F hm;obtain⟨s0,s2,s4,s5,s6,s8,s9,BK,BU,FJ,D9,B5,BZ,CD,FI,CP,BT,DG,CN,G2,GQ,GO,GN,GM,GL,BJ⟩:=aSD A sto GW t [] x [x] (by simp only[Ai,hl];exact hA) (by simp) hs hT;have e1:[x]++dd x t=x::dd x t:=rfl;have e2:(([x]:List Int).length:Int)=1:=rfl;have e3:(([]++[x]:List Int).length:Int)=1:=rfl;rw[e1,e2,e3,Ai] at BJ;have Ux:=Yf (x::t) (by simp only[AR];omega) sto;have hv:dv (x::t)=(x::t).map vE:=rfl;rw[hv] at Ux;have NG:=VJ (x::t) x (by simp only[AR];omega) sto;have a5d:=GW x;rw[hT x] at NG;have BA:(((dN x A:Nat):Int) != ((dN x A:Nat):Int))=false:=Cd _;have Ru:((x::t).map vE)[(0:Int).toNat]?=some (.agg [.str [],.int .i64 x,.slice []]):=rfl;have EF:((x::dd x t).map vE)[(0:Int).toNat]?=some (.agg [.str [],.int .i64 x,.slice []]):=rfl;have KA:decide ((0:Int)<((x::t).length:Nat))=true:=by simp<;>omega
  have a5V:decide ((0:Int)<((x::dd x t).length:Nat))=true:=by simp<;>omega
  have Iu:decide ((0:Int)>=((x::dd x t).length:Nat))=false:=by simp<;>omega
  have xf:(x != x)=false:=Cd _;have hw0:IntKind.i64.wrap (0+1)=1:=rfl;generalize x::t=M at *;generalize x::dd x t=S at *;clear GW e hm hs hl hT e1 e2 e3 hv;refine⟨s0,s2,s4,s5,s6,s8,s9,BK,BU,FJ,D9,B5,BZ,CD,FI,CP,BT,DG,CN,G2,GQ,GO,GN,GM,GL,?_⟩;refine tI rfl ?_;exact BP
theorem a0o(l:List Int):ad.f_ (l.map bL)<=4*l.length:=by
 induction l with
 |nil=>simp[ad.f_]
 |cons x l ih=>simp only[Ba,ad.f_,ad.size,bL,Ak,Ap];omega
theorem aGW(l:List Int):(l.map bL).map ad.enc=l.map vE:=(sR l).symm
theorem aR5(l:List Int)(hl:l.length<=30)(sto:AH):CF (.fn 16) [.val (aM (l.map bL)).enc] sto=some (.ret (.aj [.slice (l.map vE),.bool true]),sto):=by
 have h:=c16 (l.map bL) (by simp;omega) (λv hv=>by
  obtain⟨x,_,rfl⟩:=Cn.1 hv;simp[ad.size,ad.f_,bL,AR]) sto
 rwa [aGW] at h
theorem aVV(l:List Int)(hl:l.length<=30)(sto:AH):CF (.fn 10) [.val (aM (l.map bL)).enc,.val (aM (l.map bL)).enc] sto=some (.ret (.val (.bool true)),sto):=by
 have hs:(aM (l.map bL)).size<AR:=by
  have h1:=pG (l.map bL);have h2:=a0o l;rw[Ay] at h1;simp only[AR];omega
 have h:=c10 (aM (l.map bL)) (aM (l.map bL)) sto hs hs
 rwa [(ad.a5i _ _).2 rfl] at h
theorem aBR(A:List Int)(m:List Int)(hm:m.Perm A)(hs:GI m):(dX A).flat.length<=A.length:=by
 rw[ic hm hs,<-hm.length_eq];cases m with
 |nil=>simp
 |cons x t=>simp only[Ak];have:=dm x t;omega
theorem c5(A0:List Int)(hA:A0.length<AR)(sto:AH)(AP:sto.lo<=sto.objs.length){m:List Int}(hm:m.Perm (A0.take 30))(hs:GI m)(n1 n2 n3 n4:Nat)
  (h1:CF (.fn 15) [.val (.str lM),.val (.slice [(aM ((A0.take 30).map bL)).enc])] sto=some (.ret (.aj [(aM (m.map bL)).enc,.int .i64 (n1:Nat),.bool true]),sto))
  (h2:CF (.fn 15) [.val (.str iR),.val (.slice [(aM ((A0.take 30).map bL)).enc])] sto=some (.ret (.aj [(aM (m.map bL)).enc,.int .i64 (n2:Nat),.bool true]),sto))
  (h3:CF (.fn 15) [.val (.str iS),.val (.slice [(aM ((A0.take 30).map bL)).enc])] sto=some (.ret (.aj [(aM (m.map bL)).enc,.int .i64 (n3:Nat),.bool true]),sto))
  (h4:CF (.fn 15) [.val (.str qN),.val (.slice [(aM ((A0.take 30).map bL)).enc])] sto=some (.ret (.aj [(dX (A0.take 30)).val.enc,.int .i64 (n4:Nat),.bool true]),sto))
  (h8:CF (.fn 8) [.val (.str jP),.val (.slice [(dX (A0.take 30)).val.enc])] sto=some (.ret (.aj [(aM ((dX (A0.take 30)).flat.map bL)).enc,.int .i64 0]),sto)) :
  CF (.fn 5) [.val (.slice (A0.map fO))] sto=some (.ret (.val (.bool true)),sto):=by
 have h6:CF (.fn 6) [] sto=some (.ret (.val (.bool true)),sto):=c6 sto;have h11:=c11 A0 hA sto;have a1k:(A0.take 30).length<=30:=by simp;omega
 generalize A0.take 30=A at *;have h13:=c13 A (by simp only[AR];omega) sto;rw[sR] at h13;have h12:=c12 (A.map bL) sto (by have:=a0o A;simp only[Ay,AR];omega) AP;have hl:=hm.length_eq;have hT:=aBR A m hm hs;have a8l:=aR5 m (by omega) sto;have a8m:=aR5 (dX A).flat (by omega) sto;have h10:=aVV m (by omega) sto;have GW:=λv=>VJ A v (by simp only[AR];omega) sto
 obtain⟨s0,s2,s4,s5,s6,s8,s9,BK,BU,FJ,D9,B5,BZ,CD,FI,CP,BT,DG,CN,G2,GQ,GO,GN,GM,GL,BJ⟩:=aNF A sto GW a1k m hm hs;have BA:(((m.length:Nat):Int) != ((A.length:Nat):Int))=false:=by rw[hl];exact Cd _
 have hee:((((dX A).flat.length:Nat):Int)==((dX A).flat.length:Nat))=true:=Cf _;simp only[lM,iR,iS,qN,jP] at h1 h2 h3 h4 h8;generalize(dX A).flat=S at *;generalize(dX A).val=T at *;generalize aM (m.map bL)=L at *;generalize aM (S.map bL)=D at *;generalize aM (A.map bL)=B at *;rw[L.aw,T.aw,D.aw,B.aw] at *;clear GW hm hs hl hT a1k hA;exact BP
end
end Go.Proofs.YtoiocfngjchdiaaGreatDoor
