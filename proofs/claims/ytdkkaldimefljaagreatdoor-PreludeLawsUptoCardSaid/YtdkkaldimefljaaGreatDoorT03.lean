import Derived.Test.YtdkkaldimefljaaGreatDoorT01
set_option linter.all false
set_option maxRecDepth 100000
set_option maxHeartbeats 32000000
namespace Go.Proofs.YtdkkaldimefljaaGreatDoor
open Go.AM
variable [Aps]
theorem aRj(A B:List VaD):(A++B).map VaD.enc=A.map VaD.enc++B.map VaD.enc:=Ei ..
theorem c56(a b:List VaD)(hl:a.length+b.length+1<BE)(sto:AN)(AW:sto.lo<=sto.objs.length):CF (.fn 56) [.val (.slice [(aG a).enc,(aG b).enc])] sto=some (.ret (.val (aG (a++b)).enc),sto):=by
 have ha:=MX a (by omega);have hb:=MX b (by omega);have Ia:=Ng (a++b) (by simp only[Bu];omega);have hr:Nat.ble (a.length+b.length) room=true:=Aj (by simp only[BE] at hl;unfold room;omega)
 have CN:((b.map VaD.enc).all λy=>Nat.beq y.cells.length 3)=true:=by
  rw[An];intro x hx;obtain⟨n,_,rfl⟩:=Cu.1 hx;rw[n.enc_eq];rfl
 have hle:=Ae sto.objs.length;rw[aRj] at Ia;have ha1:=ha sto AW;have DD:=hb sto AW;have ha2:=ha ⟨sto.objs,sto.objs.length⟩ (Ae _);have EP:=hb ⟨sto.objs,sto.objs.length⟩ (Ae _);have QL:=Ia sto AW;have QK:=Ia ⟨sto.objs,sto.objs.length⟩ (Ae _);rw[VaD.enc_eq (aG (a++b))] at *;rw[VaD.enc_eq (aG a)] at *;rw[VaD.enc_eq (aG b)] at *;clear ha hb Ia hl;exact CT
def fU(n:Int)(k:Nat):Nat:=(max 0 (min n k)).toNat
theorem aAr(n:Int)(k:Nat):fU n k<=k:=by unfold fU;omega
theorem aOd(n:Int)(k:Nat)(sto:AN):CF (.fn 118) [.val (.int .i64 n),.val (.int .i64 (k:Nat))] sto=some (.ret (.val (.int .i64 (fU n k:Nat))),sto):=by
 have e:(bif decide ((bif decide (((k:Nat):Int)<n) then((k:Nat):Int) else n)>0) then(bif decide (((k:Nat):Int)<n) then((k:Nat):Int) else n) else 0)=((fU n k:Nat):Int):=by
  unfold fU;cases h1:decide (((k:Nat):Int)<n)
  ·rw[Av] at h1
   simp only[Aq];cases h2:decide (n>0)
   ·rw[Av] at h2;simp only[Aq];omega
   ·rw[Am] at h2;simp only[Ba];omega
  ·rw[Am] at h1
   simp only[Ba];cases h2:decide (((k:Nat):Int)>0)
   ·rw[Av] at h2;simp only[Aq];omega
   ·rw[Am] at h2;simp only[Ba];omega
 rw[<-e];clear e;exact wk
theorem c70(n:Int)(l:List VaD)(hl:l.length+1<BE)(sto:AN)(AW:sto.lo<=sto.objs.length):CF (.fn 70) [.val (.agg []),.val (.slice [(nO n).enc,(aG l).enc])] sto=some (.ret (.val (aG (l.take (fU n l.length))).enc),sto):=by
 have hk:=aAr n l.length;have KY:=MX l hl sto AW;have Wb:=aOd n l.length;have Ia:=Ng (l.take (fU n l.length)) (by rw[Cj];omega) sto AW;rw[List.map_take] at Ia;have hz:=zI (fU n l.length);have hle:decide (((fU n l.length:Nat):Int)<=((l.length:Nat):Int))=true:=by rw[Am];omega
 have z0:decide ((0:Int)<=0)=true:=rfl;have nd:∀L:List AVal,List.drop (0:Int).toNat L=L:=λ_=>rfl
 have tk:∀(k:Nat)(L:List AVal),List.take ((k:Nat):Int).toNat L=List.take k L:=λ_ _=>rfl
 have hh:lz 3 (List.take (fU n l.length) (l.map VaD.enc))=true:=by
  rw[<-List.map_take];cases h:l.take (fU n l.length) with
  |nil=>rfl
  |cons a r=>rw[Aw,a.enc_eq];rfl
 rw[lQ] at *;rw[VaD.enc_eq (aG (l.take (fU n l.length)))] at *;rw[VaD.enc_eq (aG l)] at *;generalize fU n l.length=k at *;clear hk hl;exact CT
theorem c71(n:Int)(l:List VaD)(hl:l.length+1<BE)(sto:AN)(AW:sto.lo<=sto.objs.length):CF (.fn 71) [.val (.agg []),.val (.slice [(nO n).enc,(aG l).enc])] sto=some (.ret (.val (aG (l.drop (fU n l.length))).enc),sto):=by
 have hk:=aAr n l.length;have KY:=MX l hl sto AW;have Wb:=aOd n l.length;have Ia:=Ng (l.drop (fU n l.length)) (by rw[Cp];omega) sto AW;rw[List.map_drop] at Ia;have hz:=zI (fU n l.length);have hle:decide (((fU n l.length:Nat):Int)<=((l.length:Nat):Int))=true:=by rw[Am];omega
 have hll:decide (((l.length:Nat):Int)<=((l.length:Nat):Int))=true:=by rw[Am];omega
 have tl:List.take ((l.length:Nat):Int).toNat (l.map VaD.enc)=l.map VaD.enc:=by
  rw[Ev,<-Cb (f:=VaD.enc),Ez]
 have nd:∀(k:Nat)(L:List AVal),List.drop ((k:Nat):Int).toNat L=List.drop k L:=λ_ _=>rfl
 have hh:lz 3 (List.drop (fU n l.length) (l.map VaD.enc))=true:=by
  rw[<-List.map_drop];cases h:l.drop (fU n l.length) with
  |nil=>rfl
  |cons a r=>rw[Aw,a.enc_eq];rfl
 rw[lQ] at *;rw[VaD.enc_eq (aG (l.drop (fU n l.length)))] at *;rw[VaD.enc_eq (aG l)] at *;generalize fU n l.length=k at *;clear hk hl;exact CT
def fT(a b:VaD):VaD:=.mk [44] 0 [a,b]
def iE(a b:List VaD):List VaD:=List.zipWith fT a b
theorem aLO(a b:List VaD)(ha:a.length<BE)(s4:Slot)(sto:AN):∀(n k:Nat)(X:List VaD),k+n=min a.length b.length->X.length+n+1<BE ->
  ∃s0 s1 s5 s6 s8 Ry H5 Rx,LP 73 (cG Tryz.f73 0) ⟨[.dead,.dead,s4,.own 3 (a.map VaD.enc),.own 3 (b.map VaD.enc),.own 3 (X.map VaD.enc),.dead,.val (.int .i64 (min a.length b.length:Nat)),.val (.int .i64 (k:Nat)),.dead],sto⟩ =
   some (.exit 0,⟨[s0,s1,s4,s5,s6,.own 3 ((X++iE (a.drop k) (b.drop k)).map VaD.enc),s8,Ry,H5,Rx],sto⟩):=by
 intro n;induction n with
 |zero =>
  intro k X hk hX;have AR:decide (((k:Nat):Int)<((min a.length b.length:Nat):Int))=false:=by rw[Av];omega
  have e0:iE (a.drop k) (b.drop k)=[]:=by
   rcases Nat.le_total a.length b.length with h|h
   ·rw[Dn (by omega:a.length<=k)];rfl
   ·rw[Dn (by omega:b.length<=k)];exact List.zipWith_nil_right
  rw[e0,Bv];clear e0 hX;generalize min a.length b.length=m at *;clear hk;(iterate 8 apply Exists.intro);refine tI rfl ?_;exact wk;all_goals exact .dead
 |succ n ih =>
  intro k X hk hX;have hka:k<a.length:=by omega
  have hkb:k<b.length:=by omega
  have hga:(a.map VaD.enc)[((k:Nat):Int).toNat]?=some (a[k]).enc:=by
   show(a.map VaD.enc)[k]?=_;rw[Ao,Bf hka];rfl
  have hgb:(b.map VaD.enc)[((k:Nat):Int).toNat]?=some (b[k]).enc:=by
   show(b.map VaD.enc)[k]?=_;rw[Ao,Bf hkb];rfl
  have AR:decide (((k:Nat):Int)<((min a.length b.length:Nat):Int))=true:=by rw[Am];omega
  have hz:=zI k;have hw:IntKind.i64.wrap (((k:Nat):Int)+1)=((k+1:Nat):Int):=wI k (by omega);have hr:Nat.ble (X.length+1) room=true:=Aj (by simp only[BE] at hX;unfold room;omega);have Lf:=Su [44] [a[k],b[k]]
  have ez:iE (a.drop k) (b.drop k)=fT a[k] b[k]::iE (a.drop (k+1)) (b.drop (k+1)):=by
   rw[Cc hka,Cc hkb];rfl
  obtain⟨s0,s1,s5,s6,s8,Ry,H5,Rx,ih⟩:=ih (k+1) (X++[fT a[k] b[k]]) (by omega) (by simp only[Bu,Ay,Bi];omega);rw[ez];simp only[As,Ca] at ih;have e1:(X++[fT a[k] b[k]]).map VaD.enc=X.map VaD.enc++[(fT a[k] b[k]).enc]:=by rw[Ei];rfl
  rw[e1] at ih;clear ez e1 hX;generalize min a.length b.length=m at *;clear hk;refine⟨s0,s1,s5,s6,s8,Ry,H5,Rx,?_⟩;refine tI rfl ?_;simp only[fT] at ih ⊢;generalize a[k]=x at *;generalize b[k]=y at *;simp only[Aw,Au,VaD.enc_mk] at Lf ih;rw[x.enc_eq] at hga Lf ih;rw[y.enc_eq] at hgb Lf ih;exact CT
theorem aRk(m n:Nat):(bif decide (((m:Nat):Int)<((n:Nat):Int)) then((m:Nat):Int) else((n:Nat):Int))=((min n m:Nat):Int):=by
 cases h:decide (((m:Nat):Int)<((n:Nat):Int))
 ·rw[Av] at h;simp only[Aq];omega
 ·rw[Am] at h;simp only[Ba];omega
theorem aGH(a b:List VaD):(iE a b).length=min a.length b.length:=List.length_zipWith
theorem c73(a b:List VaD)(ha:a.length+1<BE)(hb:b.length+1<BE)(sto:AN)(AW:sto.lo<=sto.objs.length):CF (.fn 73) [.val (.agg []),.val (.slice [(aG a).enc,(aG b).enc])] sto=some (.ret (.val (aG (iE a b)).enc),sto):=by
 have KY:=λS h=>MX a ha S h
 have N3:=λS h=>MX b hb S h
 have ha1:=KY sto AW;have DD:=N3 sto AW;have ha2:=KY ⟨sto.objs,sto.objs.length⟩ (Ae _);have EP:=N3 ⟨sto.objs,sto.objs.length⟩ (Ae _);have Ia:=Ng (iE a b) (by rw[aGH];omega) sto AW;have hl:=λs4=>aLO a b (by omega) s4 sto (min a.length b.length) 0 [] (by omega) (by simp only[Bi];omega)
 simp only[Ee,Bl,Au,show((0:Nat):Int)=0 from rfl] at hl;have hm:=aRk b.length a.length;clear KY N3 ha hb;rw[VaD.enc_eq (aG (iE a b))] at *;rw[VaD.enc_eq (aG a)] at *;rw[VaD.enc_eq (aG b)] at *;generalize min a.length b.length=m at *;obtain⟨s0,s1,s5,s6,s8,Ry,H5,Rx,hl⟩:=hl (.box [.val (.str []),.val (.int .i64 0),.own 3 []]);exact CT
theorem parts(n:Int)(l:List VaD):l.take (fU n l.length)++l.drop (fU n l.length)=l:=Dg _ _
theorem aBM(a b c:List VaD):(a++b)++c=a++(b++c):=As _ _ _
theorem aID(a b:List VaD):(a++b).reverse=b.reverse++a.reverse:=List.reverse_append
theorem rev_rev(a:List VaD):a.reverse.reverse=a:=List.reverse_reverse a
theorem aBe(a:List VaD):a.length=a.reverse.length:=by simp
theorem aEq:∀(l X:List VaD),X.length<=20->(pN X l).length<=20
 |[],X,h=>by simpa[pN] using h
 |y::l,X,h=>by
  rw[pN];cases OG:decide (((X.length:Nat):Int)<20)
  ·simpa using h
  ·rw[Am] at OG
   simp only[Ba];refine aEq l _ ?_;cases u7 y
   ·simpa using h
   ·simp only[Ba,Bu,Ay,Bi];omega
theorem js:∀(l X:List VaD)(y:VaD),y∈pN X l->y∈X\/(u7 y=true/\y∈l)
 |[],X,y,h=>.inl (by simpa[pN] using h)
 |a::l,X,y,h=>by
  rw[pN] at h;cases OG:decide (((X.length:Nat):Int)<20)
  ·rw[OG,Aq] at h;exact .inl h
  ·rw[OG,Ba] at h
   cases ha:u7 a
   ·rw[ha,Aq] at h
    exact(js l X y h).imp id λk=>⟨k.1,Fa _ k.2⟩
   ·rw[ha,Ba] at h
    rcases js l _ y h with h|h
    ·rcases Bs.1 h with h|h
     ·exact .inl h
     ·obtain rfl:=Bz.1 h
      exact .inr ⟨ha,List.mem_cons_self⟩
    ·exact .inr ⟨h.1,Fa _ h.2⟩
structure Okl (l:List VaD) (n:Nat):Prop where
 valid:∀x∈l,x.valid=true
 cnt:l.length+VaD.cnts l<=n
theorem Okl.mono{l:List VaD}{m n:Nat}(h:Okl l m)(k:m<=n):Okl l n:=⟨h.valid,Bj h.cnt k⟩
theorem Okl.append{a b:List VaD}{m n:Nat}(h:Okl a m)(k:Okl b n):Okl (a++b) (m+n) :=
 ⟨λx hx=>(Bs.1 hx).elim (h.valid x) (k.valid x),by have:=h.cnt;have:=k.cnt;rw[Bu,VaD.cnts_append];omega⟩
theorem rN:∀l:List VaD,VaD.cnts l.reverse=VaD.cnts l
 |[]=>rfl
 |x::l=>by simp only[Eu,VaD.cnts_append,VaD.cnts,rN l];omega
theorem Okl.reverse{l:List VaD}{n:Nat}(h:Okl l n):Okl l.reverse n:=⟨λx hx=>h.valid x (by simpa using hx),by rw[List.length_reverse,rN];exact h.cnt⟩
theorem Okl.take{l:List VaD}{n:Nat}(h:Okl l n)(k:Nat):Okl (l.take k) n:=⟨λx hx=>h.valid x (Ge hx),by
 have h1:=h.cnt;have h2:VaD.cnts l=VaD.cnts (l.take k)+VaD.cnts (l.drop k):=by rw[<-VaD.cnts_append,Dg]
 rw[Cj];omega⟩
theorem Okl.drop{l:List VaD}{n:Nat}(h:Okl l n)(k:Nat):Okl (l.drop k) n:=⟨λx hx=>h.valid x (Gf hx),by
 have h1:=h.cnt;have h2:VaD.cnts l=VaD.cnts (l.take k)+VaD.cnts (l.drop k):=by rw[<-VaD.cnts_append,Dg]
 rw[Cp];omega⟩
theorem jt(l:List VaD):Okl (pN [] l) 220:=by
 have h1:=aEq l [] (by simp)
 have h2:∀y∈pN [] l,y.valid=true/\y.cnt<=10:=λy hy=>by
  rcases js l [] y hy with h|h
  ·simp at h
  ·have h:=h.1
   simp only[u7,Ac,Am] at h;obtain⟨k1,k2⟩:=VaD.of_vd y 0 h.1;exact⟨k1,by have:=h.2;omega⟩
 have h3:∀m:List VaD,(∀y∈m,y.cnt<=10)->VaD.cnts m<=10*m.length:=by
  intro m;induction m with
  |nil=>intro _;simp[VaD.cnts]
  |cons y m ih=>intro h;have:=ih λx hx=>h x (by simp[hx]);have:=h y (by simp);simp only[VaD.cnts,Ay];omega
 exact⟨λy hy=>(h2 y hy).1,by have:=h3 _ λy hy=>(h2 y hy).2;omega⟩
mutual
theorem VaD.valid_size(hL:∀c,kC c=true->c.length<=24):∀v:VaD,v.valid=true->v.size+1<=28*v.cnt
 |.mk c n al,h=>by
  rw[VaD.valid] at h;simp only[VaD.size,VaD.cnt];cases h0:c==[]
  ·rw[h0,Aq] at h
   simp only[Ac,Cd] at h;obtain⟨⟨⟨_,_⟩,h3⟩,h4⟩:=h
   have:=VaD.valids_size hL al h4
   have hc:c.length<=24:=by
    unfold iM at h3;cases h5:c==[44]
    ·rw[h5,Aq] at h3
     exact hL c (by simpa using h3)
    ·have:c=[44]:=by simpa using h5
     rw[this];decide
   omega
  ·rw[h0,Ba] at h
   have hl:al=[]:=Ec (by simpa using h);have hc:c=[]:=by simpa using h0
   subst hl hc;simp[VaD.sizes,VaD.cnts]
theorem VaD.valids_size(hL:∀c,kC c=true->c.length<=24):∀l:List VaD,VaD.valids l=true->VaD.sizes l<=28*VaD.cnts l
 |[],_=>by simp[VaD.sizes]
 |v::l,h=>by
  simp only[VaD.valids,Ac] at h
  have:=VaD.valid_size hL v h.1
  have:=VaD.valids_size hL l h.2
  simp only[VaD.sizes,VaD.cnts];omega
end
theorem VaD.valids_of:∀{l:List VaD},(∀x∈l,x.valid=true)->VaD.valids l=true
 |[],_=>rfl
 |x::l,h=>by
  have h1:=h x (by simp);have h2:VaD.valids l=true:=VaD.valids_of λy hy=>h y (by simp[hy])
  simp only[VaD.valids,h1,h2,Bool.and_self]
theorem lR:∀l:List VaD,(aG l).cnt=1+l.length+VaD.cnts l
 |[]=>rfl
 |x::l=>by simp only[aG,VaD.cnt,VaD.cnts,lR l,Ay];omega
theorem aAp{c:List UInt8}(h:c∈xY)(n:Nat)(h2:(c==[44])=false):iM c n=false:=by
 unfold iM;rw[h2,Aq,aEF h];rfl
theorem vF:∀l:List VaD,(∀x∈l,x.valid=true)->(aG l).valid=true
 |[],_=>by
  rw[aG,VaD.valid,aAp (by decide) _ rfl];rfl
 |x::l,h=>by
  rw[aG,VaD.valid,aAp (by decide) _ rfl];simp only[VaD.valids,h x (by simp),vF l λy hy=>h y (by simp[hy])];rfl
def Good(v:VaD):Prop:=v.valid=true/\v.size<BE/\v.cnt<=4000
theorem aAz(hL:∀c,kC c=true->c.length<=24){v:VaD}(h:v.valid=true)(k:v.cnt<=4000):Good v:=⟨h,by have:=VaD.valid_size hL v h;simp only[BE];omega,k⟩
theorem fO(hL:∀c,kC c=true->c.length<=24){l:List VaD}{n:Nat}(h:Okl l n)(k:n<=3999):Good (aG l):=aAz hL (vF l h.valid) (by rw[lR];have:=h.cnt;omega)
theorem yK(n:Int):Good (nO n):=⟨rfl,by simp[nO,VaD.size,VaD.sizes,BE],by simp[nO,VaD.cnt,VaD.cnts]⟩
theorem Okl.len{l:List VaD}{n:Nat}(h:Okl l n):l.length<=n:=by have:=h.cnt;omega
inductive AppR:List UInt8->List VaD->VaD->Prop
 |append (a b:List VaD) (h:Okl a 1000) (k:Okl b 1000):AppR [97,112,112,101,110,100] [aG a,aG b] (aG (a++b))
 |reverse (l:List VaD) (h:Okl l 1000):AppR [114,101,118,101,114,115,101] [aG l] (aG l.reverse)
 |length (l:List VaD) (h:Okl l 1000):AppR [108,101,110,103,116,104] [aG l] (nO (l.length:Nat))
 |take (n:Int) (l:List VaD) (h:Okl l 1000):AppR [116,97,107,101] [nO n,aG l] (aG (l.take (fU n l.length)))
 |drop (n:Int) (l:List VaD) (h:Okl l 1000):AppR [100,114,111,112] [nO n,aG l] (aG (l.drop (fU n l.length)))
 |concat (a b:List VaD) (h:Okl a 1000) (k:Okl b 1000):AppR [99,111,110,99,97,116] [aG [aG a,aG b]] (aG (a++b))
 |zip (a b:List VaD) (h:Okl a 1000) (k:Okl b 1000) (e:a.length=b.length):AppR [122,105,112] [aG a,aG b] (aG (iE a b))
 |unzip (a b:List VaD) (h:Okl a 1000) (k:Okl b 1000) (e:a.length=b.length):AppR [117,110,122,105,112] [aG (iE a b)] (fT (aG a) (aG b))
theorem c4(A0 B0 C0:List VaD)(N:Int)(hA:VaD.sizes A0<BE)(hB:VaD.sizes B0<BE)(hC:VaD.sizes C0<BE)(sto:AN)(AW:sto.lo<=sto.objs.length)(hL:∀c,kC c=true->c.length<=24)
  (H:∀nm vs r,AppR nm vs r->∀S:AN,CF (.fn 18) [.val (.str nm),.val (.slice (vs.map VaD.enc))] S=some (.ret (.tup [r.enc,.int .i64 0]),S)) :
  CF (.fn 4) [.val (.agg [.slice (A0.map VaD.enc),.slice (B0.map VaD.enc),.slice (C0.map VaD.enc),.int .i64 N])] sto=some (.ret (.val (.bool true)),sto):=by
 have h6:=c6 sto;have h13a:=Wn A0 hA sto AW;have h13b:=Wn B0 hB sto AW;have h13c:=Wn C0 hC sto AW;have oA:=jt A0;have oB:=jt B0;have oC:=jt C0;generalize pN [] A0=A at *;generalize pN [] B0=B at *;generalize pN [] C0=C at *
 have Oh:∀{l:List VaD}{n:Nat},Okl l n->n<=3000->VaD.sizes l+6*l.length+4<BE:=λ{l n} h k=>by
  have h1:=VaD.valids_size hL l (VaD.valids_of h.valid);have h2:=h.cnt;simp only[BE];omega
 have h8a:=c8 A sto (Oh oA (by omega)) AW;have h8b:=c8 B sto (Oh oB (by omega)) AW;have h8c:=c8 C sto (Oh oC (by omega)) AW;have JZ:=oA.append oB;have oBC:=oB.append oC;have Ow:=JZ.append oC;have oT:=JZ.take (fU N (A++B).length);have oD:=JZ.drop (fU N (A++B).length);have gT:=fO hL oT (by omega);have gD:=fO hL oD (by omega)
 have oP:Okl [aG ((A++B).take (fU N (A++B).length)),aG ((A++B).drop (fU N (A++B).length))] 1000:=⟨λx hx=>by
  simp only[Bb,Ce,Eb] at hx;rcases hx with rfl|rfl
  ·exact gT.1
  ·exact gD.1,by
  have h1:=oT.cnt;have h2:=oD.cnt;simp only[VaD.cnts,lR,Ay,Bi];omega⟩
 have h8p:=c8 _ sto (Oh oP (by omega)) AW;have a1:=H0 _ _ _ sto (H _ _ _ (.append A B (oA.mono (by omega)) (oB.mono (by omega))) sto);have a2:=H0 _ _ _ sto (H _ _ _ (.append B C (oB.mono (by omega)) (oC.mono (by omega))) sto);have a3:=H0 _ _ _ sto (H _ _ _ (.append (A++B) C (JZ.mono (by omega)) (oC.mono (by omega))) sto);have a4:=H0 _ _ _ sto (H _ _ _ (.append A (B++C) (oA.mono (by omega)) (oBC.mono (by omega))) sto);have a5:=H0 _ _ _ sto (H _ _ _ (.reverse A (oA.mono (by omega))) sto);have a6:=H0 _ _ _ sto (H _ _ _ (.reverse B (oB.mono (by omega))) sto);have a7:=H0 _ _ _ sto (H _ _ _ (.reverse A.reverse (oA.reverse.mono (by omega))) sto);have a8:=H0 _ _ _ sto (H _ _ _ (.reverse (A++B) (JZ.mono (by omega))) sto);have a9:=H0 _ _ _ sto (H _ _ _ (.append B.reverse A.reverse (oB.reverse.mono (by omega)) (oA.reverse.mono (by omega))) sto);have a10:=H0 _ _ _ sto (H _ _ _ (.length A (oA.mono (by omega))) sto);have a11:=H0 _ _ _ sto (H _ _ _ (.length B (oB.mono (by omega))) sto);have a12:=H0 _ _ _ sto (H _ _ _ (.length (A++B) (JZ.mono (by omega))) sto);have a13:=H0 _ _ _ sto (H _ _ _ (.take N (A++B) (JZ.mono (by omega))) sto);have a14:=H0 _ _ _ sto (H _ _ _ (.drop N (A++B) (JZ.mono (by omega))) sto);have a15:=H0 _ _ _ sto (H _ _ _ (.concat _ _ (oT.mono (by omega)) (oD.mono (by omega))) sto);have a16:=H0 _ _ _ sto (H _ _ _ (.zip A A.reverse (oA.mono (by omega)) (oA.reverse.mono (by omega)) (aBe A)) sto);have a17:=H0 _ _ _ sto (H _ _ _ (.unzip A A.reverse (oA.mono (by omega)) (oA.reverse.mono (by omega)) (aBe A)) sto)
 have Ns:∀{l:List VaD}{n:Nat},Okl l n->n<=3000->CF (.fn 12) [.val (aG l).enc,.val (aG l).enc] sto=some (.ret (.val (.bool true)),sto):=λ{l n} h k=>by
  have g:=(fO hL h (by omega)).2.1
  have:=c12 (aG l) (aG l) sto g g
  rwa [(VaD.alike_iff _ _).2 rfl] at this
 have b1:=Ns Ow (by omega);have b2:=Ns oA (by omega);have b3:=Ns JZ.reverse (by omega);have b4:=Ns JZ (by omega);have b5:=Ns oA.reverse (by omega);rw[<-aBM] at a4;rw[rev_rev] at a7;rw[<-aID] at a9;rw[parts] at a15;have lA:=oA.len;have lB:=oB.len
 have ew:IntKind.i64.wrap (((A.length:Nat):Int)+((B.length:Nat):Int))=(((A++B).length:Nat):Int):=by
  rw[Bu];simp[IntKind.wrap,IntKind.bits,IntKind.signed];omega
 clear H Oh Ns oA oB oC JZ oBC Ow oT oD gT gD oP hA hB hC hL lA lB AW;generalize aG (A++B++C)=abc at *;generalize aG (B++C)=bc at *;generalize aG (A++B).reverse=rab at *;generalize aG (iE A A.reverse)=z at *;generalize aG A.reverse=ra at *;generalize aG B.reverse=rb at *;simp only[Aw,Au] at h8p;generalize Mu:aG [aG ((A++B).take (fU N (A++B).length)),aG ((A++B).drop (fU N (A++B).length))]=pl at *;generalize aG ((A++B).take (fU N (A++B).length))=tk at *;generalize aG ((A++B).drop (fU N (A++B).length))=dp at *;generalize(A++B).length=nAB at *;generalize aG (A++B)=ab at *;generalize aG A=a at *;generalize aG B=b at *;generalize aG C=c at *;clear Mu;simp only[Aw,Au,lQ,fT,VaD.enc_mk] at a1 a2 a3 a4 a5 a6 a7 a8 a9 a10 a11 a12 a13 a14 a15 a16 a17;rw[VaD.enc_eq a] at *;rw[VaD.enc_eq b] at *;rw[VaD.enc_eq c] at *;rw[VaD.enc_eq ab] at *;rw[VaD.enc_eq bc] at *;rw[VaD.enc_eq abc] at *;rw[VaD.enc_eq ra] at *;rw[VaD.enc_eq rb] at *;rw[VaD.enc_eq rab] at *;rw[VaD.enc_eq tk] at *;rw[VaD.enc_eq dp] at *;rw[VaD.enc_eq pl] at *;rw[VaD.enc_eq z] at *;apply tA;rfl;rfl;exact Tryz.func4;rfl;rfl;simp only[go_sem];rfl;refine tQ ?_;repeat first|with_reducible constructor|with_reducible refine tW rfl ?_|((with_reducible apply tG);(·kernel_rfl);(·(intro _ _;(repeat (apply CH;(·(intro _;simp only[*,go_sem,Nat.reduceAdd,reduceIte,Dx,Dp,Cb,dU,clean,flat,List.replicate,Di,Dj];rfl))));rfl));(·(simp only[go_sem];rfl)))|((with_reducible apply t1);(·(simp only[go_sem];rfl));(·rfl))|((with_reducible apply t0);(·(simp only[go_sem];rfl));(·rfl))|((with_reducible apply tl);(·assumption))
 exact RU rfl
end Go.Proofs.YtdkkaldimefljaaGreatDoor
noncomputable section
namespace Go.Proofs.YtdkkaldimefljaaGreatDoor
open Go.AM
theorem map_inj{enc:VaD->AVal}:∀{l l':List VaD},(∀a∈l,∀b,enc a=enc b->a=b)->l.map enc=l'.map enc->l=l'
 |[],[],_,_=>rfl
 |[],_::_,_,h=>by simp at h
 |_::_,[],_,h=>by simp at h
 |x::l,y::l',hi,h=>by
  simp only[Aw,Cz] at h;rw[hi x (by simp) y h.1,map_inj (λa ha=>hi a (by simp[ha])) h.2]
theorem VaD.enc_inj:∀v w:VaD,v.enc=w.enc->v=w:=by
 apply VaD.ind (p:=λv=>∀w,v.enc=w.enc->v=w);intro v ih w h;rw[VaD.enc_eq v,VaD.enc_eq w] at h;simp only[AVal.agg.injEq,Cz,AVal.str.injEq,AVal.int.injEq,AVal.slice.injEq,Fi,Fs] at h;obtain⟨h1,h2,h3⟩:=h;have h4:=map_inj ih h3;cases v;cases w;simp only[VaD.con,VaD.num,VaD.args] at h1 h2 h4;rw[h1,h2,h4]
theorem eL:∀{a b:List VaD},aG a=aG b->a=b
 |[],[],_=>rfl
 |[],_::_,h=>by simp[aG] at h
 |_::_,[],h=>by simp[aG] at h
 |x::a,y::b,h=>by
  simp only[aG,VaD.mk.injEq,Cz,Fs,Fi] at h;rw[h.1,eL h.2]
theorem y6{a b:List VaD}(h:a.map VaD.enc=b.map VaD.enc):a=b:=map_inj (λa _=>VaD.enc_inj a) h
theorem VaD.lok:∀v:VaD,AM.lok 0 v.enc=true:=by
 apply VaD.ind;intro v ih;rw[VaD.enc_eq];simp only[AM.lok,lokF,Gp,Fv,Er,List.all_nil]
theorem nQ(vs:List VaD):AM.lok 0 (.slice (vs.map VaD.enc))=true:=by
 simp only[AM.lok,lokF]
inductive XP:FuncId->List Slot->AVal->Prop
 |items (l:List VaD) (h:l.length+1<BE):XP 57 [.val (aG l).enc] (.slice (l.map VaD.enc))
 |list (l:List VaD) (h:l.length<BE):XP 23 [.val (.slice (l.map VaD.enc))] (aG l).enc
 |made (s:List UInt8) (l:List VaD):XP 38 [.val (.str s),.val (.slice (l.map VaD.enc))] (VaD.mk s 0 l).enc
theorem XP.fn{f g:FuncId}{a b:List Slot}{r r':AVal}(h:XP f a r)(h':XP g b r')(e:f=g)(k:a=b):r=r':=by
 cases h<;>cases h'<;>first
  |(exfalso;revert e;decide)
  |(simp only[Cz,Slot.val.injEq,AVal.slice.injEq,AVal.str.injEq,Fs] at k
    first
     |rw[eL (VaD.enc_inj _ _ k)]
     |rw[y6 k]
     |rw[k.1,y6 k.2])
theorem XP.lok{f:FuncId}{a:List Slot}{r:AVal}(h:XP f a r):lok 0 r=true:=by
 cases h with
 |items l=>exact nQ l
 |list l=>exact VaD.lok _
 |made s l=>exact VaD.lok _
def SS(f:FuncId):Bool:=Nat.beq f 57||(Nat.beq f 23||Nat.beq f 38)
def ay(f:FuncId):AK:=bif SS f then{ ans f with prim:=true } else ans f
open Classical in
noncomputable def uM:dY:=λf args=>bif SS f then(if h:∃r,XP f args r then some (some (.ret (.val h.choose))) else some none) else none
theorem XP.prim{f:FuncId}{a:List Slot}{r:AVal}(h:XP f a r):uM f a=some (some (.ret (.val r))):=by
 have hx:∃r,XP f a r:=⟨r,h⟩
 have e:hx.choose=r:=hx.choose_spec.fn h rfl rfl;have hi:SS f=true:=by cases h<;>rfl
 unfold uM;rw[hi,Ba,dif_pos hx,e]
noncomputable abbrev Iy:aO:=DF Tryz.prog ay uM
noncomputable abbrev LPX:aP:=EH Tryz.prog ay uM
theorem XP.call{f:FuncId}{a:List Slot}{r:AVal}(h:XP f a r)(S:AN):Iy (.fn f) a S=some (.ret (.val r),S):=by
 rw[Iy,sZ];simp[cE,h.prim,zN,dB,h.lok,aL]
theorem i57(l:List VaD)(h:l.length+1<BE)(S:AN):Iy (.fn 57) [.val (aG l).enc] S=some (.ret (.val (.slice (l.map VaD.enc))),S):=(XP.items l h).call S
theorem i23(l:List VaD)(h:l.length<BE)(S:AN):Iy (.fn 23) [.val (.slice (l.map VaD.enc))] S=some (.ret (.val (aG l).enc),S):=(XP.list l h).call S
theorem i38(s:List UInt8)(l:List VaD)(S:AN):Iy (.fn 38) [.val (.str s),.val (.slice (l.map VaD.enc))] S=some (.ret (.val (VaD.mk s 0 l).enc),S):=(XP.made s l).call S
theorem aKO:ay 67=ans 67:=rfl
theorem aKP:ay 74=ans 74:=rfl
theorem aDl:ay 115=ans 115:=rfl
theorem aDm:ay 161=ans 161:=rfl
theorem aKN:(ay 57).ownArg=[]:=by kernel_rfl
theorem aKL:(ay 23).ownArg=[]:=by kernel_rfl
theorem aKM:(ay 38).ownArg=[]:=by kernel_rfl
end Go.Proofs.YtdkkaldimefljaaGreatDoor
end
namespace Go.Proofs.YtdkkaldimefljaaGreatDoor
open Go.AM
variable [Aps]
attribute [local go_sem] aKO aKP aDl aDm aKN aKL aKM
theorem aJy(v:VaD)(sto:AN):Iy (.fn 115) [.val v.enc] sto=some (.ret (.val (.func 161 [.loc sto.objs.length 0])),⟨sto.objs++[.box (bM v)],sto.lo⟩):=by
 rw[v.enc_eq,bM];apply tA;rfl;rfl;exact Tryz.func115;rfl;rfl;simp only[go_sem];rfl;refine tQ ?_;repeat first|with_reducible constructor|with_reducible refine tW rfl ?_|((with_reducible apply tG);(·kernel_rfl);(·(intro _ _;(repeat (apply CH;(·(intro _;simp only[FL,FO,go_sem];rfl))));rfl));(·(simp only[go_sem];rfl)))
 refine RT (t:=2) rfl rfl rfl ?_;simp only[lok,Er,lokF,Rl,Ef]
theorem aEX{A:Type}{j a:Nat}(S:VaD->A->AN)(step:A->VaD->A)(I:A->List VaD->Prop)(ha:∀v x,(S v x).objs[a]?=some (.box (bM v)))(AW:∀v x,(S v x).lo<=a)
  (dA:∀v w x,({ S v x with objs:=(S v x).objs.set a (.box (bM w)) }:AN)=S w x) (hI:∀x y ys,I x (y::ys)->I (step x y) ys)
  (hy:∀v x y ys,I x (y::ys)->Iy (.yld j) [.val y.enc] (S v x)=some (.ret (.val (.bool true)),S v (step x y))):∀(l:List VaD)(x:A),I x l ->
  ∃s0 s1 s5 s12,LPX 161 (cG Tryz.f161 0) ⟨[.val (.yld j),.val (.loc a 0),.dead,.dead],S (aG l) x⟩=some (.exit 0,⟨[s0,s1,s5,s12],S (aG []) (l.foldl step x)⟩):=by
 intro l;induction l with
 |nil =>
  intro x hx;have BP:=ha (aG []) x;simp only[aG,bM,VaD.con,VaD.num,VaD.args,nilS,Au] at BP;simp only[Hc];(iterate 4 apply Exists.intro);refine tI rfl ?_;exact wk;all_goals exact .dead
 |cons y ys ih =>
  intro x hx;have BP:=ha (aG (y::ys)) x;have EY:=ha (aG (y::ys)) (step x y);have hle:=Aj (AW (aG (y::ys)) (step x y));have hs:=dA (aG (y::ys)) (aG ys) (step x y);have hc:=hy (aG (y::ys)) x y ys hx;obtain⟨s0,s1,s5,s12,ih⟩:=ih (step x y) (hI _ _ _ hx);generalize hS1:S (aG (y::ys)) x=S1 at *;generalize hS2:S (aG (y::ys)) (step x y)=S2 at *;simp only[Dy];rw[<-hs] at ih;simp only[aG,bM,VaD.con,VaD.num,VaD.args,u6,Aw,Au] at BP EY;simp only[bM] at ih;rw[y.enc_eq] at BP EY hc;rw[dO ys] at BP EY;refine⟨s0,s1,s5,s12,?_⟩;refine tI rfl ?_;exact wk
theorem aJz{A:Type}{j a:Nat}(S:VaD->A->AN)(step:A->VaD->A)(I:A->List VaD->Prop)(ha:∀v x,(S v x).objs[a]?=some (.box (bM v)))(AW:∀v x,(S v x).lo<=a)
  (dA:∀v w x,({ S v x with objs:=(S v x).objs.set a (.box (bM w)) }:AN)=S w x) (hI:∀x y ys,I x (y::ys)->I (step x y) ys)
  (hy:∀v x y ys,I x (y::ys)->Iy (.yld j) [.val y.enc] (S v x)=some (.ret (.val (.bool true)),S v (step x y))) (l:List VaD) (x:A) (hx:I x l) :
  Iy (.fn 161) [.val (.yld j),.val (.loc a 0)] (S (aG l) x)=some (.ret (.tup []),⟨(S (aG []) (l.foldl step x)).objs.take (S (aG l) x).objs.length,(S (aG []) (l.foldl step x)).lo⟩):=by
 obtain⟨s0,s1,s5,s12,CC⟩:=aEX S step I ha AW dA hI hy l x hx;apply tA;rfl;rfl;exact Tryz.func161;rfl;rfl;simp only[go_sem];rfl;refine tQ ?_;repeat first|with_reducible constructor|with_reducible refine tW rfl ?_
 apply tL;exact CC;exact wk
noncomputable def pk(O:List AObj)(lo:Nat)(tm:List Slot)(v:VaD)(A B:List VaD):AN :=
 ⟨O++[.box [.own 3 (A.map VaD.enc)],.box [.own 3 (B.map VaD.enc)],.box (bM v),.loop (kG 74 Tryz.f74 0 tm none .ready)],lo⟩
theorem y74{O:List AObj}{lo:Nat}(AW:lo<=O.length){A B:List VaD}(hA:A.length+1<BE)(hB:B.length+1<BE){v p q:VaD}{s0 s1 s4 s7 s11 s12} :
  Iy (.yld (O.length+3)) [.val (fT p q).enc] (pk O lo [s0,s1,s4,.val (.loc O.length 0),.val (.loc (O.length+1) 0),s7,s11,s12] v A B)=some (.ret (.val (.bool true)),pk O lo [s0,s1,s4,.val (.loc O.length 0),.val (.loc (O.length+1) 0),s7,s11,s12] v (A++[p]) (B++[q])):=by
 have G5:Nat.ble lo O.length=true:=Aj (by omega);have DD:Nat.ble lo (O.length+1)=true:=Aj (by omega);have Ir:Nat.ble lo (O.length+3)=true:=Aj (by omega);have hrA:Nat.ble (A.length+1) room=true:=Aj (by simp only[BE] at hA;unfold room;omega);have hrB:Nat.ble (B.length+1) room=true:=Aj (by simp only[BE] at hB;unfold room;omega)
 have BD:Nat.beq O.length (O.length+1)=false:=by
  cases h:Nat.beq O.length (O.length+1) with
  |false=>rfl
  |true=>have:=Aa h;omega
 have eA:(A++[p]).map VaD.enc=A.map VaD.enc++[p.enc]:=by rw[Ei];rfl
 have eB:(B++[q]).map VaD.enc=B.map VaD.enc++[q.enc]:=by rw[Ei];rfl
 unfold pk;rw[eA,eB];simp only[fT,VaD.enc_mk,Aw,Au];rw[p.enc_eq,q.enc_eq];apply tY
 ·(simp only[FL,FO];try rfl)
 ·rfl
 ·kernel_rfl
 ·first|assumption|(apply Aj;(try simp only[FL,FO]);omega)
 ·(simp only[cS,List.zip,List.zipWith,Eu,Fz,go_sem];rfl)
 refine tQ ?_;repeat first|with_reducible constructor|with_reducible refine tW rfl ?_|((with_reducible apply tG);(·kernel_rfl);(·(intro _ _;(repeat (apply CH;(·(intro _;simp only[FL,FO,go_sem];rfl))));rfl));(·(simp only[go_sem];rfl)))
 apply Ob
 ·(simp only[FL,FO];try rfl)
 ·(simp only[FL,FO];try rfl)
 refine tQ ?_;repeat first|with_reducible constructor|with_reducible refine tW rfl ?_
 with_reducible apply tD
 ·kernel_rfl
 ·simp only[sT,gf,tg,BD,go_sem]
 ·intro _ _
  repeat (apply CH;(·(intro _;simp only[FL,FO,G5,DD,hrA,hrB,Cb,Bk,dU,clean,flat,List.replicate,Di,Dj,go_sem];rfl)))
  rfl
 ·simp only[go_sem];rfl
 refine tQ ?_;repeat first|with_reducible constructor|with_reducible refine tW rfl ?_
 exact GJ
def rp(p:VaD):VaD:=p.args.headD (.mk [] 0 [])
def vo(p:VaD):VaD:=(p.args.drop 1).headD (.mk [] 0 [])
theorem yI:∀(L A B:List VaD),L.foldl (λ(X:List VaD×List VaD) y=>(X.1++[rp y],X.2++[vo y])) (A,B)=(A++L.map rp,B++L.map vo)
 |[],A,B=>by simp
 |y::L,A,B=>by simp[yI L]
theorem c74(L:List VaD)(hL:∀y∈L,∃p q,y=fT p q)(hl:L.length+1<BE)(O:List AObj)(lo:Nat)(AW:lo<=O.length):Iy (.fn 74) [.val (.agg []),.val (.slice [(aG L).enc])] ⟨O,lo⟩=some (.ret (.val (fT (aG (L.map rp)) (aG (L.map vo))).enc),⟨O,lo⟩):=by
 have G5:Nat.ble lo O.length=true:=Aj (by omega);have DD:Nat.ble lo (O.length+1)=true:=Aj (by omega);have FM:=λs=>aJy (aG L) s
 have hc:=λs0 s1 s4 s7 s11 s12=>aJz (A:=List VaD×List VaD) (j:=O.length+3) (a:=O.length+2) (λv X=>pk O lo [s0,s1,s4,.val (.loc O.length 0),.val (.loc (O.length+1) 0),s7,s11,s12] v X.1 X.2) (λX y=>(X.1++[rp y],X.2++[vo y]))
  (λX ys=>(∀y∈ys,∃p q,y=fT p q)/\X.1.length+ys.length+1<BE/\X.2.length+ys.length+1<BE)
  (λv X=>by simp only[pk,FL,FO]) (λv X=>by simp only[pk];omega) (λv w X=>by simp only[pk,FL,FO]) (λX y ys h=>⟨λy hy=>h.1 y (by simp[hy]),by have:=h.2.1;simp at this ⊢;omega,by have:=h.2.2;simp at this ⊢;omega⟩)
  (λv X y ys h=>by
   obtain⟨p,q,rfl⟩:=h.1 y (by simp);exact y74 AW (by have:=h.2.1;simp at this;omega) (by have:=h.2.2;simp at this;omega) (s0:=s0) (s1:=s1) (s4:=s4) (s7:=s7) (s11:=s11) (s12:=s12)) L ([],[])
  ⟨hL,by simp only[Bi];omega,by simp only[Bi];omega⟩
 have e0:=yI L [] [];simp only[Bl] at e0;simp only[e0] at hc;simp only[pk,FL,FO] at hc;have QL:=λS=>i23 (L.map rp) (by rw[Cb];omega) S
 have QK:=λS=>i23 (L.map vo) (by rw[Cb];omega) S
 have Lf:=λS=>i38 [44] [aG (L.map rp),aG (L.map vo)] S
 simp only[Aw,Au,VaD.enc_mk] at Lf;simp only[fT,VaD.enc_mk,Aw,Au];generalize L.map rp=A at *;generalize L.map vo=B at *;rw[dO L] at FM ⊢;rw[dO A] at QL Lf ⊢;rw[dO B] at QK Lf ⊢;apply tA;rfl;rfl;exact Tryz.func74;rfl;rfl;simp only[go_sem];rfl;refine tQ ?_;repeat first|with_reducible constructor|with_reducible refine tW rfl ?_|((with_reducible apply tG);(·kernel_rfl);(·(intro _ _;(repeat (apply CH;(·(intro _;simp only[FL,FO,FM,G5,DD,Yu,De,Bk,go_sem];rfl))));rfl));(·(simp only[go_sem];rfl)))
 with_reducible apply Nq
 ·rfl
 ·simp only[FL,FO]
  exact hc _ _ _ _ _ _
 ·simp only[FL,FO]
  rfl
 ·simp only[FL,FO]
  rfl
 exact GJ
open Classical in
noncomputable def kR(v:VaD):List VaD:=if h:∃m,v=aG m then h.choose else[]
theorem jW(m:List VaD):kR (aG m)=m:=by
 have h:∃k,aG m=aG k:=⟨m,rfl⟩
 unfold kR;rw[dif_pos h];exact(eL h.choose_spec).symm
theorem yf(L:List (List VaD)):((L.map aG).map kR).flatten=L.flatten:=by
 rw[List.map_map,show kR∘aG=id from funext jW,List.map_id]
theorem vD:∀(L:List (List VaD))(X:List VaD),(L.map aG).foldl (λX y=>X++kR y) X=X++L.flatten
 |[],X=>by simp
 |m::L,X=>by simp[vD L,jW]
noncomputable def pj(O:List AObj)(lo:Nat)(tm:List Slot)(v:VaD)(X:List VaD):AN :=
 ⟨O++[.box [.own 3 (X.map VaD.enc)],.box (bM v),.loop (kG 67 Tryz.f67 0 tm none .ready)],lo⟩
theorem y67{O:List AObj}{lo:Nat}(AW:lo<=O.length){X m:List VaD}(hX:X.length+m.length+1<BE){v:VaD}{s0 s1 s4 s6 s10 s11} :
  Iy (.yld (O.length+2)) [.val (aG m).enc] (pj O lo [s0,s1,s4,.val (.loc O.length 0),s6,s10,s11] v X)=some (.ret (.val (.bool true)),pj O lo [s0,s1,s4,.val (.loc O.length 0),s6,s10,s11] v (X++m)):=by
 have G5:Nat.ble lo O.length=true:=Aj (by omega);have hr:Nat.ble (X.length+m.length) room=true:=Aj (by simp only[BE] at hX;unfold room;omega)
 have CN:((m.map VaD.enc).all λy=>Nat.beq y.cells.length 3)=true:=by
  rw[An];intro x hx;obtain⟨n,_,rfl⟩:=Cu.1 hx;rw[n.enc_eq];rfl
 have KY:=λS=>i57 m (by omega) S
 rw[dO m] at KY ⊢;unfold pj;rw[show(X++m).map VaD.enc=X.map VaD.enc++m.map VaD.enc from Ei ..];exact GJ
theorem c67(L:List (List VaD))(hl:L.length+L.flatten.length+1<BE)(O:List AObj)(lo:Nat)(AW:lo<=O.length):Iy (.fn 67) [.val (.agg []),.val (.slice [(aG (L.map aG)).enc])] ⟨O,lo⟩=some (.ret (.val (aG L.flatten).enc),⟨O,lo⟩):=by
 have G5:Nat.ble lo O.length=true:=Aj (by omega);have FM:=λs=>aJy (aG (L.map aG)) s
 have hc:=λs0 s1 s4 s6 s10 s11=>aJz (A:=List VaD) (j:=O.length+2) (a:=O.length+1) (λv X=>pj O lo [s0,s1,s4,.val (.loc O.length 0),s6,s10,s11] v X) (λX y=>X++kR y)
  (λX ys=>(∀y∈ys,∃m,y=aG m)/\X.length+(ys.map kR).flatten.length+1<BE)
  (λv X=>by simp only[pj,FL,FO]) (λv X=>by simp only[pj];omega) (λv w X=>by simp only[pj,FL,FO]) (λX y ys h=>⟨λy hy=>h.1 y (by simp[hy]),by have:=h.2;simp at this ⊢;omega⟩)
  (λv X y ys h=>by
   obtain⟨m,rfl⟩:=h.1 y (by simp);rw[jW];exact y67 AW (by have:=h.2;simp[jW] at this;omega) (s0:=s0) (s1:=s1) (s4:=s4) (s6:=s6) (s10:=s10) (s11:=s11)) (L.map aG) []
  ⟨λy hy=>by obtain⟨m,_,rfl⟩:=Cu.1 hy;exact⟨m,rfl⟩,by rw[yf,Bi];omega⟩
 have e0:(L.map aG).foldl (λX y=>X++kR y) []=L.flatten:=by rw[vD];simp
 simp only[e0] at hc;simp only[pj,FL,FO] at hc;have Ia:=λS=>i23 L.flatten (by omega) S
 rw[dO (L.map aG)] at FM ⊢;rw[dO L.flatten] at Ia ⊢;apply tA;rfl;rfl;exact Tryz.func67;rfl;rfl;simp only[go_sem];rfl;refine tQ ?_;repeat first|with_reducible constructor|with_reducible refine tW rfl ?_|((with_reducible apply tG);(·kernel_rfl);(·(intro _ _;(repeat (apply CH;(·(intro _;simp only[FL,FO,FM,G5,Yu,De,Bk,go_sem];rfl))));rfl));(·(simp only[go_sem];rfl)))
 with_reducible apply Nq
 ·rfl
 ·simp only[FL,FO]
  exact hc _ _ _ _ _ _
 ·simp only[FL,FO]
  rfl
 ·simp only[FL,FO]
  rfl
 exact GJ
end Go.Proofs.YtdkkaldimefljaaGreatDoor
