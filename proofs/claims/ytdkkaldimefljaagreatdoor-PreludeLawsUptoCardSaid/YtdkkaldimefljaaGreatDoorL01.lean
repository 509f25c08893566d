import Derived.Test.YtdkkaldimefljaaGreatDoorL00
set_option linter.all false
set_option maxRecDepth 100000
set_option maxHeartbeats 4000000
namespace Go.Proofs.YtdkkaldimefljaaGreatDoor
section
open Go.AM
theorem za{l p:List UInt8}(h:Lib.hasPrefix l p=true):p.length<=l.length:=by
 exact(Gy.1 h).length_le
def UF:List UInt8:=[40,41,44,59,58,124,61,60,43,45,42,47,37,95]
theorem aCr(s:List UInt8)(i:Nat):0<=aZ s i/\aZ s i<256:=by
 unfold aZ;cases s[i]? with
 |none=>exact⟨Int.le_refl 0,by decide⟩
 |some b=>exact⟨by simp,by have:=b.toNat_lt;show((b.toNat:Nat):Int)<256;omega⟩
theorem aED{c:Int}(h0:0<=c)(h1:c<256)(sto:AN):CL (.fn 294) [.val (.str [40,41,44,59,58,124,61,60,43,45,42,47,37,95]),.val (.int .u8 c)] sto=some (.ret (.val (.int .i64 (Lib.indexByte UF c.toNat.toUInt8))),sto):=by
 refine Li (r:=.ret (.val (.int .i64 (Lib.indexByte UF c.toNat.toUInt8)))) ?_ rfl;have h:(decide (0<=c)&&decide (c<256))=true:=by simp[h0,h1]
 simp only[Nr,show Nat.beq 294 294=true from rfl,Ba,h];rfl
theorem qG{c:Int}(h:cH c=true):eO c=true:=by simp[eO,h]
theorem qF{c:Int}(h:cU c=true):eO c=true:=by simp[eO,h]
def RN(s:List UInt8)(at_:Nat):Nat:=1+runN eO s (at_+1)
def XT(s:List UInt8)(at_:Nat):List UInt8:=(s.take (at_+RN s at_)).drop at_
structure qN (s:List UInt8) (at_:Nat) (kd:Int) (BB:List UInt8):Prop where
 small:cH (aZ s at_)=true->BB=jT s at_/\kd=bif wordL.contains BB then 5 else 2
 great:cH (aZ s at_)=false->cU (aZ s at_)=true->BB=jT s at_/\kd=bif wordL.contains BB then 5 else 3
 var:(aZ s at_==39)=true->cH (aZ s (at_+1))=true->BB=XT s at_/\kd=4
 other:cH (aZ s at_)=false->cU (aZ s at_)=false->((aZ s at_==39)=false\/cH (aZ s (at_+1))=false)->kd=1\/kd=6
structure pq (s:List UInt8) (at_:Nat):Prop where
 small:cH (aZ s at_)=true->24<iJ s at_
 great:cU (aZ s at_)=true->24<iJ s at_
 var:(aZ s at_==39)=true->cH (aZ s (at_+1))=true->24<RN s at_
theorem aOS{c:Int}(h:(c==39)=true):cH c=false/\cU c=false/\jA c=false/\(c==126)=false:=by
 have:c=39:=by simpa using h
 subst this;exact⟨by decide,by decide,by decide,by decide⟩
theorem aJS{c:Int}(h:(jA c||c==126)=true):cH c=false/\cU c=false/\(c==39)=false:=by
 simp only[jA,cH,cU,Db,Ac,Am,Dq,Ej,Av,Em,ne_eq] at h ⊢;omega
theorem aAR{c:Int}(h:cH c=true):cU c=false/\(c==39)=false:=by
 simp only[cH,cU,Ac,Am,Ej,Av,Em,ne_eq] at h ⊢;omega
theorem rZ{c:Int}(h:cU c=true):cH c=false/\(c==39)=false:=by
 simp only[cH,cU,Ac,Am,Ej,Av,Em,ne_eq] at h ⊢;omega
theorem ad{s:List UInt8}{at_:Nat}{kd:Int}{BB:List UInt8}(h:(jA (aZ s at_)||aZ s at_==126)=true)(hk:kd=1):qN s at_ kd BB:=by
 obtain⟨h1,h2,h3⟩:=aJS h;exact⟨λe=>(by rw[h1] at e;cases e),λ_ e=>(by rw[h2] at e;cases e),λe=>(by rw[h3] at e;cases e),λ_ _ _=>.inl hk⟩
theorem ae{s:List UInt8}{at_:Nat}(h:(jA (aZ s at_)||aZ s at_==126)=true):pq s at_:=by
 obtain⟨h1,h2,h3⟩:=aJS h;exact⟨λe=>(by rw[h1] at e;cases e),λe=>(by rw[h2] at e;cases e),λe=>(by rw[h3] at e;cases e)⟩
theorem zn{s:List UInt8}{at_:Nat}{kd:Int}{BB:List UInt8}(h:cH (aZ s at_)=true)(hq:BB=jT s at_/\kd=bif wordL.contains BB then 5 else 2):qN s at_ kd BB:=by
 obtain⟨h1,h2⟩:=aAR h;exact⟨λ_=>hq,λe=>(by rw[h] at e;cases e),λe=>(by rw[h2] at e;cases e),λe=>(by rw[h] at e;cases e)⟩
theorem zp{s:List UInt8}{at_:Nat}(h:cH (aZ s at_)=true)(hq:24<iJ s at_):pq s at_:=by
 obtain⟨h1,h2⟩:=aAR h;exact⟨λ_=>hq,λ_=>hq,λe=>(by rw[h2] at e;cases e)⟩
theorem zm{s:List UInt8}{at_:Nat}{kd:Int}{BB:List UInt8}(h:cU (aZ s at_)=true)(hq:BB=jT s at_/\kd=bif wordL.contains BB then 5 else 3):qN s at_ kd BB:=by
 obtain⟨h1,h2⟩:=rZ h;exact⟨λe=>(by rw[h1] at e;cases e),λ_ _=>hq,λe=>(by rw[h2] at e;cases e),λ_ e=>(by rw[h] at e;cases e)⟩
theorem zo{s:List UInt8}{at_:Nat}(h:cU (aZ s at_)=true)(hq:24<iJ s at_):pq s at_:=by
 obtain⟨h1,h2⟩:=rZ h;exact⟨λ_=>hq,λ_=>hq,λe=>(by rw[h2] at e;cases e)⟩
theorem j3{s:List UInt8}{at_:Nat}{kd:Int}{BB:List UInt8}(h1:cH (aZ s at_)=false)(h2:cU (aZ s at_)=false)(h3:(aZ s at_==39)=false\/cH (aZ s (at_+1))=false)(hq:kd=6):qN s at_ kd BB :=
 ⟨λe=>(by rw[h1] at e;cases e),λ_ e=>(by rw[h2] at e;cases e),λe e'=>(by rcases h3 with h3|h3<;>simp_all),λ_ _ _=>.inr hq⟩
theorem gW{s:List UInt8}{at_:Nat}(h1:cH (aZ s at_)=false)(h2:cU (aZ s at_)=false)(h3:(aZ s at_==39)=false\/cH (aZ s (at_+1))=false):pq s at_ :=
 ⟨λe=>(by rw[h1] at e;cases e),λe=>(by rw[h2] at e;cases e),λe e'=>(by rcases h3 with h3|h3<;>simp_all)⟩
theorem aGe{s:List UInt8}{at_:Nat}{kd:Int}{BB:List UInt8}(h:(aZ s at_==39)=true)(h':cH (aZ s (at_+1))=true)(hq:BB=XT s at_/\kd=4):qN s at_ kd BB:=by
 obtain⟨h1,h2,_⟩:=aOS h;exact⟨λe=>(by rw[h1] at e;cases e),λ_ e=>(by rw[h2] at e;cases e),λ_ _=>hq,λ_ _ e=>(by rcases e with e|e<;>simp_all)⟩
theorem aGf{s:List UInt8}{at_:Nat}(h:(aZ s at_==39)=true)(hq:24<RN s at_):pq s at_:=by
 obtain⟨h1,h2,_⟩:=aOS h;exact⟨λe=>(by rw[h1] at e;cases e),λe=>(by rw[h2] at e;cases e),λ_ _=>hq⟩
theorem aQZ{A B:AObj}{rest:List AObj}{lo:Nat}{c4:Cell}(s:List UInt8)(at_:Nat)(h1:at_<s.length)(h2:s.length<1000) :
  cr (CL (.fn 272) [.val (.loc 3 0)] ⟨A::B::.map cR::sb s at_ (.val (.amap 2)) c4::rest,lo⟩) s at_ ⟨A::B::.map cR::sb s at_ (.val (.amap 2)) c4::rest,lo⟩ (qN s at_) (pq s at_):=by
 have g293:(ans 293).ownArg=[]:=by rw[Yj]
 have GI:=xp (A:=A) (B:=B) (C:=.map cR) (rest:=rest) (lo:=lo) (c3:=.val (.amap 2)) (c4:=c4) s at_ 0 0 rfl (by omega);rw[Bk] at GI;have hb:=aCr s at_;have h287:=Rm (aZ s at_);have h289:=YO (aZ s at_);have h291:=aOk (aZ s at_);have h294:=λsto=>aED hb.1 hb.2 sto
 have Ju:=aOj (A:=A) (B:=B) (C:=.map cR) (rest:=rest) (lo:=lo) (c3:=.val (.amap 2)) (c4:=c4) s at_ h1 h2;have MS:=aOi (A:=A) (B:=B) (C:=.map cR) (rest:=rest) (lo:=lo) (c3:=.val (.amap 2)) (c4:=c4) s at_ h1 h2;have N4:=λk=>aQ2 (A:=A) (B:=B) (rest:=rest) (lo:=lo) (c4:=c4) s at_ k h1 h2
 have IG:=λp=>YP (A:=A) (B:=B) (C:=.map cR) (rest:=rest) (lo:=lo) (c3:=.val (.amap 2)) (c4:=c4) s p at_ (by omega)
 have HX:=λn kind K (hK:K=((n:Nat):Int)) (hn:at_+n<=s.length) (hp:0<n)=>wR (A:=A) (B:=B) (C:=.map cR) (rest:=rest) (lo:=lo) (c3:=.val (.amap 2)) (c4:=c4) s at_ n kind K hK hn (by omega) hp
 have HY:=xp (A:=A) (B:=B) (C:=.map cR) (rest:=rest) (lo:=lo) (c3:=.val (.amap 2)) (c4:=c4) s at_ 1 1 rfl (by omega);have h289b:=YO (aZ s (at_+1));have E4:=OU (A:=A) (B:=B) (C:=.map cR) (rest:=rest) (lo:=lo) (c3:=.val (.amap 2)) (c4:=c4) 293 g293 eO Tg s at_ 1 1 rfl (by omega);have IC:=kY eO s (at_+1);generalize hd:runN eO s (at_+1)=d at *;have DJ:IntKind.i64.wrap (1+(d:Int))=((1+d:Nat):Int):=by rw[cZ (by omega) (by omega)];omega
 have JE:aZ s (at_+1)≠0->at_+1<s.length:=pB s (at_+1);have BM:=λp=>za (l:=s.drop at_) (p:=p)
 simp only[Cp] at BM;generalize BU:aZ s at_=c at *;generalize hcn:aZ s (at_+1)=c1 at *;rw[EE] at GI HY E4 Ju MS ⊢;simp only[EE] at N4 IG HX;cases e1:jA c with
 |true =>
  cases e2:(c==126) with
  |true =>
   rcases Ju e2 with⟨kd,num,BB,hm,DM,C5,hq⟩|⟨a,e,hm,hq⟩
   ·
    rw[cV] at hm;refine .inl ⟨kd,num,BB,?_,DM,C5,ad (by rw[BU];simp[e1,e2]) hq⟩;rw[cV];clear hq;exact wk
   ·
    rw[bB] at hm;refine .inr ⟨a,e,?_,ae (by rw[BU];simp[e1,e2])⟩;rw[bB];exact wk
  |false =>
   rcases MS e2 e1 with⟨kd,num,BB,hm,DM,C5,hq⟩|⟨a,e,hm,hq⟩
   ·
    rw[cV] at hm;refine .inl ⟨kd,num,BB,?_,DM,C5,ad (by rw[BU];simp[e1,e2]) hq⟩;rw[cV];clear hq;exact wk
   ·
    rw[bB] at hm;refine .inr ⟨a,e,?_,ae (by rw[BU];simp[e1,e2])⟩;rw[bB];exact wk
 |false =>
 cases e2:(c==126) with
 |true =>
  rcases Ju e2 with⟨kd,num,BB,hm,DM,C5,hq⟩|⟨a,e,hm,hq⟩
  ·
   rw[cV] at hm;refine .inl ⟨kd,num,BB,?_,DM,C5,ad (by rw[BU];simp[e1,e2]) hq⟩;rw[cV];clear hq;exact wk
  ·
   rw[bB] at hm;refine .inr ⟨a,e,?_,ae (by rw[BU];simp[e1,e2])⟩;rw[bB];exact wk
 |false =>
 cases e3:cH c with
 |true =>
  rcases N4 2 (qG e3) with⟨kd,num,BB,hm,DM,C5,hq⟩|⟨a,e,hm,hq⟩
  ·
   rw[cV] at hm;refine .inl ⟨kd,num,BB,?_,DM,C5,zn (by rw[BU];exact e3) hq⟩;rw[cV];clear hq;exact wk
  ·
   rw[bB] at hm;refine .inr ⟨a,e,?_,zp (by rw[BU];exact e3) hq⟩;rw[bB];exact wk
 |false =>
 cases e4:cU c with
 |true =>
  rcases N4 3 (qF e4) with⟨kd,num,BB,hm,DM,C5,hq⟩|⟨a,e,hm,hq⟩
  ·
   rw[cV] at hm;refine .inl ⟨kd,num,BB,?_,DM,C5,zm (by rw[BU];exact e4) hq⟩;rw[cV];clear hq;exact wk
  ·
   rw[bB] at hm;refine .inr ⟨a,e,?_,zo (by rw[BU];exact e4) hq⟩;rw[bB];exact wk
 |false =>
 have rest_:∀(qx:((c==39)=false)\/((c==39)=true/\cH c1=false)),cr (CL (.fn 272) [.val (.loc 3 0)] ⟨A::B::.map cR::.box [.val (.str s),.val (.int .i64 (at_:Nat)),.val (.amap 2),c4]::rest,lo⟩) s at_ ⟨A::B::.map cR::.box [.val (.str s),.val (.int .i64 (at_:Nat)),.val (.amap 2),c4]::rest,lo⟩ (qN s at_) (pq s at_):=by
  intro qx;have qy:(c==39)=false\/cH c1=false:=qx.imp id And.right;rcases qx with e5|⟨e5,e6⟩
  ·
   cases e7:Lib.hasPrefix (s.drop at_) [61,62] with
   |true =>
    have h6:=IG [61,62];have hl:=BM _ e7;simp only[Ay,Bi] at hl;rcases HX 2 6 2 rfl (by omega) (by omega) with⟨kd,num,BB,hm,DM,C5,hq⟩|⟨a,e,hm,hq⟩
    ·
     rw[cV] at hm;refine .inl ⟨kd,num,BB,?_,DM,C5,j3 (by rw[BU];exact e3) (by rw[BU];exact e4) (by rw[BU,hcn];exact qy) hq.1⟩;rw[cV];clear hq;exact wk
    ·
     rw[bB] at hm;refine .inr ⟨a,e,?_,gW (by rw[BU];exact e3) (by rw[BU];exact e4) (by rw[BU,hcn];exact qy)⟩;rw[bB];exact wk
   |false =>
   have h6:=IG [61,62];have h7:=IG [45,62];cases e8:Lib.hasPrefix (s.drop at_) [45,62] with
   |true =>
    have hl:=BM _ e8;simp only[Ay,Bi] at hl;rcases HX 2 6 2 rfl (by omega) (by omega) with⟨kd,num,BB,hm,DM,C5,hq⟩|⟨a,e,hm,hq⟩
    ·
     rw[cV] at hm;refine .inl ⟨kd,num,BB,?_,DM,C5,j3 (by rw[BU];exact e3) (by rw[BU];exact e4) (by rw[BU,hcn];exact qy) hq.1⟩;rw[cV];clear hq;exact wk
    ·
     rw[bB] at hm;refine .inr ⟨a,e,?_,gW (by rw[BU];exact e3) (by rw[BU];exact e4) (by rw[BU,hcn];exact qy)⟩;rw[bB];exact wk
   |false =>
   cases e9:decide (Lib.indexByte UF c.toNat.toUInt8>=0) with
   |true =>
    rcases HX 1 6 1 rfl (by omega) (by omega) with⟨kd,num,BB,hm,DM,C5,hq⟩|⟨a,e,hm,hq⟩
    ·
     rw[cV] at hm;refine .inl ⟨kd,num,BB,?_,DM,C5,j3 (by rw[BU];exact e3) (by rw[BU];exact e4) (by rw[BU,hcn];exact qy) hq.1⟩;rw[cV];clear hq;exact wk
    ·
     rw[bB] at hm;refine .inr ⟨a,e,?_,gW (by rw[BU];exact e3) (by rw[BU];exact e4) (by rw[BU,hcn];exact qy)⟩;rw[bB];exact wk
   |false =>
    refine .inr ⟨(at_:Nat),11,?_,gW (by rw[BU];exact e3) (by rw[BU];exact e4) (by rw[BU,hcn];exact qy)⟩;rw[bB];exact wk
  ·
   cases e7:Lib.hasPrefix (s.drop at_) [61,62] with
   |true =>
    have h6:=IG [61,62];have hl:=BM _ e7;simp only[Ay,Bi] at hl;rcases HX 2 6 2 rfl (by omega) (by omega) with⟨kd,num,BB,hm,DM,C5,hq⟩|⟨a,e,hm,hq⟩
    ·
     rw[cV] at hm;refine .inl ⟨kd,num,BB,?_,DM,C5,j3 (by rw[BU];exact e3) (by rw[BU];exact e4) (by rw[BU,hcn];exact qy) hq.1⟩;rw[cV];clear hq;exact wk
    ·
     rw[bB] at hm;refine .inr ⟨a,e,?_,gW (by rw[BU];exact e3) (by rw[BU];exact e4) (by rw[BU,hcn];exact qy)⟩;rw[bB];exact wk
   |false =>
   have h6:=IG [61,62];have h7:=IG [45,62];cases e8:Lib.hasPrefix (s.drop at_) [45,62] with
   |true =>
    have hl:=BM _ e8;simp only[Ay,Bi] at hl;rcases HX 2 6 2 rfl (by omega) (by omega) with⟨kd,num,BB,hm,DM,C5,hq⟩|⟨a,e,hm,hq⟩
    ·
     rw[cV] at hm;refine .inl ⟨kd,num,BB,?_,DM,C5,j3 (by rw[BU];exact e3) (by rw[BU];exact e4) (by rw[BU,hcn];exact qy) hq.1⟩;rw[cV];clear hq;exact wk
    ·
     rw[bB] at hm;refine .inr ⟨a,e,?_,gW (by rw[BU];exact e3) (by rw[BU];exact e4) (by rw[BU,hcn];exact qy)⟩;rw[bB];exact wk
   |false =>
   cases e9:decide (Lib.indexByte UF c.toNat.toUInt8>=0) with
   |true =>
    rcases HX 1 6 1 rfl (by omega) (by omega) with⟨kd,num,BB,hm,DM,C5,hq⟩|⟨a,e,hm,hq⟩
    ·
     rw[cV] at hm;refine .inl ⟨kd,num,BB,?_,DM,C5,j3 (by rw[BU];exact e3) (by rw[BU];exact e4) (by rw[BU,hcn];exact qy) hq.1⟩;rw[cV];clear hq;exact wk
    ·
     rw[bB] at hm;refine .inr ⟨a,e,?_,gW (by rw[BU];exact e3) (by rw[BU];exact e4) (by rw[BU,hcn];exact qy)⟩;rw[bB];exact wk
   |false =>
    refine .inr ⟨(at_:Nat),11,?_,gW (by rw[BU];exact e3) (by rw[BU];exact e4) (by rw[BU,hcn];exact qy)⟩;rw[bB];exact wk
 cases e5:(c==39) with
 |false=>exact rest_ (.inl e5)
 |true =>
  cases e6:cH c1 with
  |false=>exact rest_ (.inr ⟨e5,e6⟩)
  |true =>
   have HH:=JE (by intro h;rw[h] at e6;cases e6);rcases HX (1+d) 4 ((1+d:Nat):Int) rfl (by omega) (by omega) with⟨kd,num,BB,hm,DM,C5,hq⟩|⟨a,e,hm,hq⟩
   ·
    rw[cV] at hm;refine .inl ⟨kd,num,BB,?_,DM,C5,aGe (by rw[BU];exact e5) (by rw[hcn];exact e6) ⟨hq.2.trans (by rw[XT,RN,hd]),hq.1⟩⟩;rw[cV];clear hq;exact wk
   ·
    rw[bB] at hm;refine .inr ⟨a,e,?_,aGf (by rw[BU];exact e5) (by rw[RN,hd];exact hq)⟩;rw[bB];exact wk
theorem vR{l p:List UInt8}(h:Lib.hasPrefix l p=true):p.length<=l.length:=(Gy.1 h).length_le
def ComOr(x:Option (bD×St))(mk:Nat->AN)(at_ len:Nat):Prop :=
 (∃tm at',x=some (.ret,⟨tm,mk at'⟩)/\at_<at'/\at'<=len)\/∃tm at' a e,x=some (.pan (bB a e),⟨tm,mk at'⟩)
theorem ComOr.mono{x:Option (bD×St)}{mk:Nat->AN}{a b len:Nat}(h:ComOr x mk b len)(hab:a<=b):ComOr x mk a len:=by
 rcases h with⟨tm,at',h1,h2,h3⟩|h
 ·exact .inl ⟨tm,at',h1,by omega,h3⟩
 ·exact .inr h
theorem aHR{A B C:AObj}{rest:List AObj}{lo:Nat}{X:List AVal}(AW:Nat.ble lo 3=true)(s:List UInt8)(hs:s.length<1000)(fr:Int):∀(m at_:Nat)(op:Int),s.length-at_<=m->at_<=s.length->-(at_:Int)<=op->op<=100 ->
  ComOr (LL 285 (cG Tryz.f285 0) ⟨[.val (.loc 3 0),.val (.int .i64 fr),.val (.int .i64 op),.dead,.dead,.dead,.dead,.dead],⟨A::B::C::sb s at_ (.val (.amap 2)) (.own 2 X)::rest,lo⟩⟩) (λa=>⟨A::B::C::sb s a (.val (.amap 2)) (.own 2 X)::rest,lo⟩) at_ s.length:=by
 intro m;induction m with
 |zero =>
  intro at_ op h1 h2 h3 h4;have I3:decide ((at_:Int)>=(s.length:Nat))=true:=by rw[Am];omega
  refine .inr ⟨?_,at_,fr,12,?_⟩
  rotate_left
  ·simp only[EE]
   rw[bB];refine tI rfl ?_;exact wk
 |succ m ih =>
  intro at_ op h1 h2 h3 h4;have hx:=λp=>YP (A:=A) (B:=B) (C:=C) (rest:=rest) (lo:=lo) (c3:=.val (.amap 2)) (c4:=.own 2 X) s p at_ h2
  simp only[EE] at hx;have ha:=hx [40,42];have hb:=hx [42,41];have DJ:IntKind.i64.wrap ((at_:Int)+1)=((at_+1:Nat):Int):=by rw[cZ (by omega) (by omega)];omega
  have HG:IntKind.i64.wrap ((at_:Int)+2)=((at_+2:Nat):Int):=by rw[cZ (by omega) (by omega)];omega
  have hw3:IntKind.i64.wrap (op+1)=op+1:=by rw[cZ (by omega) (by omega)]
  have hw4:IntKind.i64.wrap (op-1)=op-1:=by rw[cZ (by omega) (by omega)]
  cases I3:decide ((at_:Int)>=(s.length:Nat)) with
  |true =>
   refine .inr ⟨?_,at_,fr,12,?_⟩
   rotate_left
   ·simp only[EE]
    rw[bB];refine tI rfl ?_;exact wk
  |false =>
   have AR:at_<s.length:=by rw[Av] at I3;omega
   cases e1:Lib.hasPrefix (s.drop at_) [40,42] with
   |true =>
    have hl:=vR e1;simp only[Cp,Ay,Bi] at hl;cases e2:decide (op>=100) with
    |true =>
     refine .inr ⟨?_,at_,(at_:Nat),6,?_⟩
     rotate_left
     ·simp only[EE]
      rw[bB];refine tI rfl ?_;exact wk
    |false =>
     rw[Av] at e2;have e2':decide (op>=100)=false:=by rw[Av];exact e2
     have key:=(ih (at_+2) (op+1) (by omega) (by omega) (by omega) (by omega)).mono (a:=at_) (by omega)
     suffices hh:LL 285 (cG Tryz.f285 0) ⟨[.val (.loc 3 0),.val (.int .i64 fr),.val (.int .i64 op),.dead,.dead,.dead,.dead,.dead],⟨A::B::C::sb s at_ (.val (.amap 2)) (.own 2 X)::rest,lo⟩⟩=LL 285 (cG Tryz.f285 0) ⟨[.val (.loc 3 0),.val (.int .i64 fr),.val (.int .i64 (op+1)),.dead,.dead,.dead,.dead,.dead],⟨A::B::C::sb s (at_+2) (.val (.amap 2)) (.own 2 X)::rest,lo⟩⟩ by
      rw[hh];exact key
     rcases key with⟨tm,at',hk,_,_⟩|⟨tm,at',a,e,hk⟩
     all_goals
      rw[hk];simp only[EE] at hk ⊢;refine tI rfl ?_;exact CT
   |false =>
    cases e3:Lib.hasPrefix (s.drop at_) [42,41] with
    |true =>
     have hl:=vR e3;simp only[Cp,Ay,Bi] at hl;cases e4:(op-1==0) with
     |true =>
      refine .inl ⟨?_,at_+2,?_,by omega,by omega⟩
      rotate_left
      ·simp only[EE]
       refine tI rfl ?_;exact CT
     |false =>
      have key:=(ih (at_+2) (op-1) (by omega) (by omega) (by omega) (by omega)).mono (a:=at_) (by omega)
      suffices hh:LL 285 (cG Tryz.f285 0) ⟨[.val (.loc 3 0),.val (.int .i64 fr),.val (.int .i64 op),.dead,.dead,.dead,.dead,.dead],⟨A::B::C::sb s at_ (.val (.amap 2)) (.own 2 X)::rest,lo⟩⟩=LL 285 (cG Tryz.f285 0) ⟨[.val (.loc 3 0),.val (.int .i64 fr),.val (.int .i64 (op-1)),.dead,.dead,.dead,.dead,.dead],⟨A::B::C::sb s (at_+2) (.val (.amap 2)) (.own 2 X)::rest,lo⟩⟩ by
       rw[hh];exact key
      rcases key with⟨tm,at',hk,_,_⟩|⟨tm,at',a,e,hk⟩
      all_goals
       rw[hk];simp only[EE] at hk ⊢;refine tI rfl ?_;exact CT
    |false =>
     have key:=(ih (at_+1) op (by omega) (by omega) (by omega) (by omega)).mono (a:=at_) (by omega)
     suffices hh:LL 285 (cG Tryz.f285 0) ⟨[.val (.loc 3 0),.val (.int .i64 fr),.val (.int .i64 op),.dead,.dead,.dead,.dead,.dead],⟨A::B::C::sb s at_ (.val (.amap 2)) (.own 2 X)::rest,lo⟩⟩=LL 285 (cG Tryz.f285 0) ⟨[.val (.loc 3 0),.val (.int .i64 fr),.val (.int .i64 op),.dead,.dead,.dead,.dead,.dead],⟨A::B::C::sb s (at_+1) (.val (.amap 2)) (.own 2 X)::rest,lo⟩⟩ by
      rw[hh];exact key
     rcases key with⟨tm,at',hk,_,_⟩|⟨tm,at',a,e,hk⟩
     all_goals
      rw[hk];simp only[EE] at hk ⊢;refine tI rfl ?_;exact CT
def aJm(x:Option (ARes×AN))(mk:Nat->AN)(at_ len:Nat):Prop :=
 (∃at',x=some (.ret (.tup []),mk at')/\at_<at'/\at'<=len)\/∃at' a e,x=some (.pan (bB a e),mk at')
theorem aQ1{A B C:AObj}{rest:List AObj}{lo:Nat}{X:List AVal}(AW:Nat.ble lo 3=true)(s:List UInt8)(hs:s.length<1000)(at_:Nat)(h:at_<=s.length) :
  aJm (CL (.fn 285) [.val (.loc 3 0)] ⟨A::B::C::sb s at_ (.val (.amap 2)) (.own 2 X)::rest,lo⟩) (λa=>⟨A::B::C::sb s a (.val (.amap 2)) (.own 2 X)::rest,lo⟩) at_ s.length:=by
 rcases aHR (A:=A) (B:=B) (C:=C) (rest:=rest) (X:=X) AW s hs (at_:Nat) _ at_ 0 (Ae _) h (by omega) (by omega) with⟨tm,at',hk,h1,h2⟩|⟨tm,at',a,e,hk⟩
 ·refine .inl ⟨at',?_,h1,h2⟩
  simp only[EE] at hk ⊢;apply tA;rfl;rfl;exact Tryz.func285;rfl;rfl;simp only[go_sem];rfl;refine tQ ?_;repeat first|with_reducible constructor|with_reducible refine tW rfl ?_|((with_reducible apply tG);(·kernel_rfl);(·(intro _ _;(repeat (apply CH;(·(intro _;simp only[go_sem];rfl))));rfl));(·(simp only[go_sem];rfl)))
  apply tL;exact hk;exact wk
 ·refine .inr ⟨at',a,e,?_⟩
  simp only[EE] at hk ⊢;apply tA;rfl;rfl;exact Tryz.func285;rfl;rfl;simp only[go_sem];rfl;refine tQ ?_;repeat first|with_reducible constructor|with_reducible refine tW rfl ?_|((with_reducible apply tG);(·kernel_rfl);(·(intro _ _;(repeat (apply CH;(·(intro _;simp only[go_sem];rfl))));rfl));(·(simp only[go_sem];rfl)))
  apply tL;exact hk;repeat first|with_reducible apply M5|with_reducible apply M6
  rfl
def Lt(A B C:AObj)(rest:List AObj)(lo:Nat)(s:List UInt8)(at_:Nat)(X:List AVal):AN:=⟨A::B::C::sb s at_ (.val (.amap 2)) (.own 2 X)::rest,lo⟩
theorem zW(A B C:AObj)(rest:List AObj)(lo:Nat)(s:List UInt8)(at_:Nat)(X:List AVal):Lt A B C rest lo s at_ X=⟨A::B::C::.box [.val (.str s),.val (.int .i64 (at_:Nat)),.val (.amap 2),.own 2 X]::rest,lo⟩:=rfl
def pn(s:List UInt8)(at_:Nat):Prop:=runN lD s at_=0/\Lib.hasPrefix (s.drop at_) [40,42]=false
def PassL(x:Option (bD×St))(mk:Nat->List AVal->AN)(at_ len:Nat)(S:Prop):Prop :=
 (∃tm at' X',x=some (.ret,⟨tm,mk at' X'⟩)/\at_<=at'/\at'<=len/\X'.length<=at'/\(S->at'=at_))\/∃tm at' X' a e,x=some (.pan (bB a e),⟨tm,mk at' X'⟩)/\¬S
theorem PassL.mono{x:Option (bD×St)}{mk:Nat->List AVal->AN}{a b len:Nat}{S S':Prop}(h:PassL x mk b len S')(hab:a<=b)(hS:¬S):PassL x mk a len S:=by
 rcases h with⟨tm,at',X',h1,h2,h3,h4,_⟩|⟨tm,at',X',a,e,h1,_⟩
 ·exact .inl ⟨tm,at',X',h1,by omega,h3,h4,λh=>absurd h hS⟩
 ·exact .inr ⟨tm,at',X',a,e,h1,hS⟩
theorem aHP{A B C:AObj}{rest:List AObj}{lo:Nat}(AW:Nat.ble lo 3=true)(s:List UInt8)(hs:s.length<1000):∀(m at_:Nat)(X:List AVal),s.length-at_<m->at_<=s.length->X.length<=at_ ->
  PassL (LL 271 (cG Tryz.f271 0) ⟨[.val (.loc 3 0),.dead,.dead],Lt A B C rest lo s at_ X⟩) (Lt A B C rest lo s) at_ s.length (pn s at_):=by
 have g283:(ans 283).ownArg=[]:=by rw[aJr]
 intro m;induction m with
 |zero=>intro at_ X h1;omega
 |succ m ih =>
  intro at_ X h1 h2 h3;have P7:=kY lD s at_;have E4:=λlo=>OU (A:=A) (B:=B) (C:=C) (rest:=rest) (lo:=lo) (c3:=.val (.amap 2)) (c4:=.own 2 X) 283 g283 lD aQ0 s at_ 0 0 rfl (by omega)
  simp only[Bk] at E4;generalize hn:runN lD s at_=n at *;have DJ:IntKind.i64.wrap ((at_:Int)+(n:Int))=((at_+n:Nat):Int):=by rw[cZ (by omega) (by omega)];omega
  have ha:=YP (A:=A) (B:=B) (C:=C) (rest:=rest) (lo:=lo) (c3:=.val (.amap 2)) (c4:=.own 2 X) s [40,42] (at_+n) (by omega);have hc:=aQ1 (A:=A) (B:=B) (C:=C) (rest:=rest) (lo:=lo) (X:=X) AW s hs (at_+n) (by omega);simp only[EE,aJm] at E4 ha hc;cases e1:Lib.hasPrefix (s.drop (at_+n)) [40,42] with
  |false =>
   refine .inl ⟨?_,at_+n,X,?_,by omega,by omega,by omega,λhS=>by have:=hS.1;omega⟩
   rotate_left
   ·simp only[zW]
    refine tI rfl ?_;exact CT
  |true =>
   have hS:¬pn s at_:=λhS=>by
    have h0:n=0:=by have:=hS.1;omega
    rw[h0,Bk,hS.2] at e1;cases e1
   rcases hc with⟨at',hc,hc1,EO⟩|⟨at',a,e,hc⟩
   ·have DV:Nat.ble (X.length+1) room=true:=Aj (by unfold room;omega)
    have key:=(ih at' (X++[.agg [.int .i64 ((at_+n:Nat):Int),.int .i64 (at':Nat)]]) (by omega) EO (by simp only[Bu,Ew];omega)).mono (a:=at_) (S:=pn s at_) (by omega) hS
    suffices hh:LL 271 (cG Tryz.f271 0) ⟨[.val (.loc 3 0),.dead,.dead],Lt A B C rest lo s at_ X⟩=LL 271 (cG Tryz.f271 0) ⟨[.val (.loc 3 0),.dead,.dead],Lt A B C rest lo s at' (X++[.agg [.int .i64 ((at_+n:Nat):Int),.int .i64 (at':Nat)]])⟩ by
     rw[hh];exact key
    rcases key with⟨tm,FQ,Jx,hk,_⟩|⟨tm,FQ,Jx,a,e,hk,_⟩
    all_goals
     rw[hk];simp only[zW] at hk ⊢;refine tI rfl ?_;exact CT
   ·refine .inr ⟨?_,at',X,a,e,?_,hS⟩
    rotate_left
    ·simp only[zW,bB] at hc ⊢
     refine tI rfl ?_;exact CT
def aKg(x:Option (ARes×AN))(mk:Nat->List AVal->AN)(at_ len:Nat)(S:Prop):Prop :=
 (∃at' X',x=some (.ret (.tup []),mk at' X')/\at_<=at'/\at'<=len/\X'.length<=at'/\(S->at'=at_))\/∃at' X' a e,x=some (.pan (bB a e),mk at' X')/\¬S
theorem aOh{A B C:AObj}{rest:List AObj}{lo:Nat}(AW:Nat.ble lo 3=true)(s:List UInt8)(hs:s.length<1000)(at_:Nat)(X:List AVal)(h:at_<=s.length)(hX:X.length<=at_) :
  aKg (CL (.fn 271) [.val (.loc 3 0)] (Lt A B C rest lo s at_ X)) (Lt A B C rest lo s) at_ s.length (pn s at_):=by
 rcases aHP (A:=A) (B:=B) (C:=C) (rest:=rest) AW s hs _ at_ X (Nat.lt_succ_self _) h hX with⟨tm,at',X',hk,h1⟩|⟨tm,at',X',a,e,hk,h1⟩
 ·refine .inl ⟨at',X',?_,h1⟩
  simp only[zW] at hk ⊢;apply tA;rfl;rfl;exact Tryz.func271;rfl;rfl;simp only[go_sem];rfl;refine tQ ?_;repeat first|with_reducible constructor|with_reducible refine tW rfl ?_|((with_reducible apply tG);(·kernel_rfl);(·(intro _ _;(repeat (apply CH;(·(intro _;simp only[go_sem];rfl))));rfl));(·(simp only[go_sem];rfl)))
  apply tL;exact hk;exact wk
 ·refine .inr ⟨at',X',a,e,?_,h1⟩
  simp only[zW] at hk ⊢;apply tA;rfl;rfl;exact Tryz.func271;rfl;rfl;simp only[go_sem];rfl;refine tQ ?_;repeat first|with_reducible constructor|with_reducible refine tW rfl ?_|((with_reducible apply tG);(·kernel_rfl);(·(intro _ _;(repeat (apply CH;(·(intro _;simp only[go_sem];rfl))));rfl));(·(simp only[go_sem];rfl)))
  apply tL;exact hk;repeat first|with_reducible apply M5|with_reducible apply M6
  rfl
noncomputable def vK(s:List UInt8):AObj:=.loop (kG 207 Tryz.f207 0 [.val (.str s),.val (.loc 3 0),.val (.loc 0 0),.val (.loc 1 0),.dead,.val (.func 270 [.loc 4 0]),.dead] none .ready)
theorem aLP(s:List UInt8):vK s=.loop (kG 207 Tryz.f207 0 [.val (.str s),.val (.loc 3 0),.val (.loc 0 0),.val (.loc 1 0),.dead,.val (.func 270 [.loc 4 0]),.dead] none .ready):=rfl
def fH:AObj:=.box [.val (.int .i64 0),.val (.int .i64 0)]
theorem aT2(s:List UInt8)(L:List AVal)(hL:L.length<1000)(B C D E:AObj)(kind num:Int)(BB:List UInt8)(at_:Nat) :
  CL (.yld 5) [.val (cV kind num BB at_)] ⟨[.box [.own 4 L],B,C,D,E,vK s],0⟩=some (.ret (.val (.bool true)),⟨[.box [.own 4 (L++[cV kind num BB at_])],B,C,D,E,vK s],0⟩):=by
 have DV:Nat.ble (L.length+1) room=true:=Aj (by unfold room;omega);simp only[aLP,cV];exact GJ
noncomputable def Ie(s:List UInt8)(L:List AVal)(at_:Nat)(X:List AVal):AN:=Lt (.box [.own 4 L]) fH (.map cR) [.box [.val (.loc 3 0)],vK s] 0 s at_ X
theorem zi(s:List UInt8)(L:List AVal)(at_:Nat)(X:List AVal):Ie s L at_ X=⟨[.box [.own 4 L],fH,.map cR,.box [.val (.str s),.val (.int .i64 (at_:Nat)),.val (.amap 2),.own 2 X],.box [.val (.loc 3 0)],vK s],0⟩:=rfl
def zz(s:List UInt8)(x:AVal):Prop:=∃kind num BB at_,x=cV kind num BB at_/\qN s at_ kind BB/\at_+BB.length<=s.length
def One(s:List UInt8)(at_:Nat):Prop:=at_<s.length/\¬pq s at_/\∀kd BB,qN s at_ kd BB->at_+BB.length=s.length
theorem vp(s:List UInt8):pn s s.length:=by
 unfold pn runN;rw[List.drop_length];exact⟨rfl,rfl⟩
def aNg(x:Option (bD×St))(s:List UInt8)(at_:Nat)(L:List AVal):Prop :=
 (∃tm at' X' M,x=some (.exit 0,⟨tm,Ie s (L++M) at' X'⟩)/\(L++M).length<=s.length/\(∀t∈M,zz s t)/\(at_=s.length->M=[])/\(One s at_->∃kd num BB,M=[cV kd num BB at_]/\qN s at_ kd BB)) \/
 ∃tm at' X' L' a e,x=some (.pan (bB a e),⟨tm,Ie s L' at' X'⟩)/\at_≠s.length/\¬One s at_
theorem aHO(s:List UInt8)(hs:s.length<900):∀(m at_:Nat)(X L:List AVal),s.length-at_<m->at_<=s.length->X.length<=at_->L.length<=at_ ->
  aNg (LL 270 (cG Tryz.f270 0) ⟨[.val (.yld 5),.val (.loc 4 0),.dead,.dead,.dead],Ie s L at_ X⟩) s at_ L:=by
 intro m;induction m with
 |zero=>intro at_ X L h1;omega
 |succ m ih =>
  intro at_ X L h1 h2 h3 h4;cases AR:decide ((at_:Int)<(s.length:Nat)) with
  |false =>
   refine .inl ⟨?_,at_,X,[],?_,by rw[Bv];omega,λt h=>(by cases h),λ_=>rfl,λh=>(by have:=h.1;rw[Av] at AR;omega)⟩
   rotate_left
   ·rw[Bv]
    simp only[zi];refine tI rfl ?_;exact wk
  |true =>
   have Jn:at_<s.length:=by rw[Am] at AR;omega
   have ht:=aQZ (A:=.box [.own 4 L]) (B:=fH) (rest:=[.box [.val (.loc 3 0)],vK s]) (lo:=0) (c4:=.own 2 X) s at_ Jn (by omega);rcases ht with⟨kind,num,BB,ht,DM,C5,SX⟩|⟨a,e,ht,htr⟩
   ·have DJ:IntKind.i64.wrap ((at_:Int)+((BB.length:Nat):Int))=((at_+BB.length:Nat):Int):=by rw[cZ (by omega) (by omega)];omega
    have hy:=aT2 s L (by omega) fH (.map cR) (.box [.val (.str s),.val (.int .i64 ((at_+BB.length:Nat):Int)),.val (.amap 2),.own 2 X]) (.box [.val (.loc 3 0)]) kind num BB at_;have hp:=aOh (A:=.box [.own 4 (L++[cV kind num BB at_])]) (B:=fH) (C:=.map cR) (rest:=[.box [.val (.loc 3 0)],vK s]) (lo:=0) rfl s (by omega) (at_+BB.length) X C5 (by omega);rw[EE] at ht;rcases hp with⟨at',X',hp,PZ,E6,Va,LU⟩|⟨at',X',a,e,hp,LU⟩
    ·have Il:One s at_->at'=s.length:=λho=>by
      have hx:=ho.2.2 _ _ SX;rw[hx] at LU;exact LU (vp s)
     have key:=ih at' X' (L++[cV kind num BB at_]) (by omega) E6 Va (by rw[Bu,Ew];omega)
     replace key:aNg (LL 270 (cG Tryz.f270 0) ⟨[.val (.yld 5),.val (.loc 4 0),.dead,.dead,.dead],Ie s (L++[cV kind num BB at_]) at' X'⟩) s at_ L:=by
      rcases key with⟨tm,FQ,Jx,M,k1,k2,k3,k4,k5⟩|⟨tm,FQ,Jx,Ni,a,e,k1,k2,k3⟩
      ·rw[As] at k1 k2
       refine .inl ⟨tm,FQ,Jx,[cV kind num BB at_]++M,k1,k2,λt h=>?_,λh=>by omega,λh=>?_⟩
       ·rcases Bs.1 h with h|h
        ·exact⟨kind,num,BB,at_,Bz.1 h,SX,C5⟩
        ·exact k3 t h
       ·rw[k4 (Il h)]
        exact⟨kind,num,BB,rfl,SX⟩
      ·exact .inr ⟨tm,FQ,Jx,Ni,a,e,k1,by omega,λh=>k2 (Il h)⟩
     suffices hh:LL 270 (cG Tryz.f270 0) ⟨[.val (.yld 5),.val (.loc 4 0),.dead,.dead,.dead],Ie s L at_ X⟩=LL 270 (cG Tryz.f270 0) ⟨[.val (.yld 5),.val (.loc 4 0),.dead,.dead,.dead],Ie s (L++[cV kind num BB at_]) at' X'⟩ by
      rw[hh];exact key
     rcases key with⟨tm,FQ,Jx,Ni,hk,_⟩|⟨tm,FQ,Jx,Ni,a,e,hk,_⟩
     all_goals
      rw[hk];simp only[zi,zW,cV] at hk ht hy hp ⊢;refine tI rfl ?_;exact CT
    ·refine .inr ⟨?_,at',X',L++[cV kind num BB at_],a,e,?_,by omega,λh=>LU (by rw[h.2.2 _ _ SX];exact vp s)⟩
     rotate_left
     ·simp only[zi,zW,cV,bB] at ht hy hp ⊢
      refine tI rfl ?_;exact CT
   ·refine .inr ⟨?_,at_,X,L,a,e,?_,by omega,λh=>h.2.1 htr⟩
    rotate_left
    ·rw[EE] at ht
     simp only[zi,zW,bB] at ht ⊢;refine tI rfl ?_;exact wk
def xe(s:List UInt8):Prop:=One s 0/\pn s 0
def aNh(x:Option (ARes×AN))(s:List UInt8):Prop :=
 (∃at' X' L',x=some (.ret (.tup []),Ie s L' at' X')/\L'.length<=s.length/\(∀t∈L',zz s t)/\(xe s->∃kd num BB,L'=[cV kd num BB 0]/\qN s 0 kd BB))\/∃at' X' L' a e,x=some (.pan (bB a e),Ie s L' at' X')/\¬xe s
theorem aQY(s:List UInt8)(hs:s.length<900):aNh (CL (.fn 270) [.val (.yld 5),.val (.loc 4 0)] (Ie s [] 0 [])) s:=by
 have hp:=aOh (A:=.box [.own 4 []]) (B:=fH) (C:=.map cR) (rest:=[.box [.val (.loc 3 0)],vK s]) (lo:=0) rfl s (by omega) 0 [] (by omega) (Ae _);rcases hp with⟨at',X',hp,PZ,E6,Va,LU⟩|⟨at',X',a,e,hp,LU⟩
 ·rcases aHO s hs _ at' X' [] (Nat.lt_succ_self _) E6 Va (En _) with⟨tm,FQ,Jx,Ni,hk,h1,h2,_,h3⟩|⟨tm,FQ,Jx,Ni,a,e,hk,_,h3⟩
  ·rw[Bl] at hk h1
   refine .inl ⟨FQ,Jx,Ni,?_,h1,h2,λh=>(by rw[LU h.2] at h3;exact h3 h.1)⟩;simp only[zi,zW] at hk hp ⊢;apply tA;rfl;rfl;exact Tryz.func270;rfl;rfl;simp only[go_sem];rfl;refine tQ ?_;repeat first|with_reducible constructor|with_reducible refine tW rfl ?_|((with_reducible apply tG);(·kernel_rfl);(·(intro _ _;(repeat (apply CH;(·(intro _;simp only[hp,go_sem];rfl))));rfl));(·(simp only[go_sem];rfl)))
   apply tL;exact hk;exact wk
  ·refine .inr ⟨FQ,Jx,Ni,a,e,?_,λh=>(by rw[LU h.2] at h3;exact h3 h.1)⟩
   simp only[zi,zW] at hk hp ⊢;apply tA;rfl;rfl;exact Tryz.func270;rfl;rfl;simp only[go_sem];rfl;refine tQ ?_;repeat first|with_reducible constructor|with_reducible refine tW rfl ?_|((with_reducible apply tG);(·kernel_rfl);(·(intro _ _;(repeat (apply CH;(·(intro _;simp only[hp,go_sem];rfl))));rfl));(·(simp only[go_sem];rfl)))
   apply tL;exact hk;repeat first|with_reducible apply M5|with_reducible apply M6
   rfl
 ·refine .inr ⟨at',X',[],a,e,?_,λh=>LU h.2⟩
  simp only[zi,zW,bB] at hp ⊢;exact wk
theorem aQV(s:List UInt8)(A B:AObj):CL (.fn 243) [.val (.str s)] ⟨[A,B],0⟩=some (.ret (.val (.loc 3 0)),⟨[A,B,.map cR,.box [.val (.str s),.val (.int .i64 0),.val (.amap 2),.own 2 []]],0⟩) :=
 eK.2 ⟨30,by kernel_rfl⟩
theorem aQW(A B C D:AObj):CL (.fn 245) [.val (.loc 3 0)] ⟨[A,B,C,D],0⟩=some (.ret (.val (.func 270 [.loc 4 0])),⟨[A,B,C,D,.box [.val (.loc 3 0)]],0⟩) :=
 eK.2 ⟨30,by kernel_rfl⟩
noncomputable def OX:Code:=(Tryz.f207.body).getD .skip
noncomputable def q0:Code:=kB OX
noncomputable def q1:Code:=kB (dX OX)
noncomputable def q2:Code:=kB (dX (dX OX))
noncomputable def q3:Code:=kB (kB (dX (dX (dX OX))))
noncomputable def q4:Code:=inB (dX (kB (dX (dX (dX OX)))))
noncomputable def q5:Code:=dX (dX (dX (dX OX)))
theorem aN0:Tryz.f207.body=some (.seq q0 (.seq q1 (.seq q2 (.seq (.seq q3 (.block 0 q4)) q5)))):=by kernel_rfl
def wF:bD->St->Option (bD×St):=λe st=>some (e,st)
theorem h0(s:List UInt8):XK Tryz.prog ans CL LL 207 q0 ⟨[.val (.str s),.dead,.dead,.dead,.dead,.dead,.dead],⟨[],0⟩⟩ wF=some (.norm,⟨[.val (.str s),.val .nilptr,.val (.loc 0 0),.val (.loc 1 0),.dead,.dead,.dead],⟨[.box [.own 4 []],fH],0⟩⟩):=by
 show XK _ _ _ _ _ (.region _ _ _) _ _=_;exact wk
theorem h1(s:List UInt8):XK Tryz.prog ans CL LL 207 q1 ⟨[.val (.str s),.val .nilptr,.val (.loc 0 0),.val (.loc 1 0),.dead,.dead,.dead],⟨[.box [.own 4 []],fH],0⟩⟩ wF=some (.norm,⟨[.val (.str s),.val (.loc 3 0),.val (.loc 0 0),.val (.loc 1 0),.dead,.dead,.dead],⟨[.box [.own 4 []],fH,.map cR,.box [.val (.str s),.val (.int .i64 0),.val (.amap 2),.own 2 []]],0⟩⟩):=by
 have h:=aQV s (.box [.own 4 []]) fH;show XK _ _ _ _ _ (.region _ _ _) _ _=_;exact wk
theorem h3(s:List UInt8):XK Tryz.prog ans CL LL 207 q3 ⟨[.val (.str s),.val (.loc 3 0),.val (.loc 0 0),.val (.loc 1 0),.dead,.dead,.dead],⟨[.box [.own 4 []],fH,.map cR,.box [.val (.str s),.val (.int .i64 0),.val (.amap 2),.own 2 []]],0⟩⟩ wF=some (.norm,⟨[.val (.str s),.val (.loc 3 0),.val (.loc 0 0),.val (.loc 1 0),.dead,.val (.func 270 [.loc 4 0]),.dead],⟨[.box [.own 4 []],fH,.map cR,.box [.val (.str s),.val (.int .i64 0),.val (.amap 2),.own 2 []],.box [.val (.loc 3 0)]],0⟩⟩):=by
 have h:=aQW (.box [.own 4 []]) fH (.map cR) (.box [.val (.str s),.val (.int .i64 0),.val (.amap 2),.own 2 []]);show XK _ _ _ _ _ (.region _ _ _) _ _=_;exact wk
theorem h4(s:List UInt8)(hs:s.length<900):(∃at_ X L,XK Tryz.prog ans CL LL 207 q4 ⟨[.val (.str s),.val (.loc 3 0),.val (.loc 0 0),.val (.loc 1 0),.dead,.val (.func 270 [.loc 4 0]),.dead],⟨[.box [.own 4 []],fH,.map cR,.box [.val (.str s),.val (.int .i64 0),.val (.amap 2),.own 2 []],.box [.val (.loc 3 0)]],0⟩⟩ wF =
   some (.norm,⟨[.val (.str s),.val (.loc 3 0),.val (.loc 0 0),.val (.loc 1 0),.dead,.val (.func 270 [.loc 4 0]),.dead],⟨[.box [.own 4 L],fH,.map cR,.box [.val (.str s),.val (.int .i64 (at_:Nat)),.val (.amap 2),.own 2 X],.box [.val (.loc 3 0)]],0⟩⟩)/\L.length<=s.length/\(∀t∈L,zz s t)/\(xe s->∃kd num BB,L=[cV kd num BB 0]/\qN s 0 kd BB)) \/
  ∃at_ X L a e,XK Tryz.prog ans CL LL 207 q4 ⟨[.val (.str s),.val (.loc 3 0),.val (.loc 0 0),.val (.loc 1 0),.dead,.val (.func 270 [.loc 4 0]),.dead],⟨[.box [.own 4 []],fH,.map cR,.box [.val (.str s),.val (.int .i64 0),.val (.amap 2),.own 2 []],.box [.val (.loc 3 0)]],0⟩⟩ wF =
   some (.pan (bB a e),⟨[.val (.str s),.val (.loc 3 0),.val (.loc 0 0),.val (.loc 1 0),.dead,.val (.func 270 [.loc 4 0]),.dead],Ie s L at_ X⟩)/\¬xe s:=by
 rcases aQY s hs with⟨at',X',L',hk,h1⟩|⟨at',X',L',a,e,hk,h2⟩
 ·refine .inl ⟨at',X',L',?_,h1⟩
  show XK _ _ _ _ _ (.rangeFunc _ _ _ _) _ _=_;apply Nq
  ·simp only[go_sem];rfl
  ·exact hk
  ·rfl
  ·rfl
  rfl
 ·refine .inr ⟨at',X',L',a,e,?_,h2⟩
  show XK _ _ _ _ _ (.rangeFunc _ _ _ _) _ _=_;apply tGp
  ·simp only[go_sem];rfl
  ·exact hk
  rfl
end
section
open Go.AM Go.RowKit
theorem aPi(tmps:Array Value)(hs:tmps.size=19)(w:World):q2.wp Tryz.prog (λe a w'=>e=.normal/\w'=w/\a.tmps=tmps.setIfInBounds 8 (.func (.func 244) #[] #[tmps.getD 3 undef,tmps.getD 4 undef])/\a.defers=[{ target:=.fn (.func 244) #[tmps.getD 3 undef,tmps.getD 4 undef],args:=#[] }]) ⟨tmps,[]⟩ w:=by
 have hmf:∀(fn:Fn)(first cap:Array Value)(w:World),(Instr.makeFunc fn first cap).run Tryz.prog w=.ok (.func fn first cap) w:=λ_ _ _ _=>rfl
 show(Code.region _ _ _).wp _ _ _ _
 go_wp2
theorem rD{w:World}{b o:Nat}{cs:Array Value}{T:TypeId}{fr:Nat×Nat}{v:Value}(h:w.heap[b]?=some (.cells cs T fr))(hv:cs[o]?=some v):w.setCell ⟨b,o,none⟩ v=w:=by
 obtain⟨hb,he⟩:=Ad.1 h
 have hc:cs.setIfInBounds o v=cs:=by
  apply Gq
  ·simp
  ·intro i h1 h2
   rw[Array.getElem_setIfInBounds h2];split
   ·subst_vars
    rw[Az h2] at hv;exact(Ap hv).symm
   ·rfl
 have key:∀F:Obj->Obj,F (.cells cs T fr)=.cells cs T fr->w.heap.modify b F=w.heap:=λF hF=>by
  apply Gq
  ·simp
  ·intro i h1 h2
   rw[Array.getElem_modify];split
   ·subst_vars
    rw[he,hF]
   ·rfl
 unfold World.setCell;rw[key _ (by simp only[Gm,Bc,Dd,hc])]
theorem aPk(t0 t1 t2 t5 t6 t7 t8 t9 t10 t11 t12 t13 t14 t15 t16 t17 t18:Value)(b3 b4:Nat)(a3:Option Addr)(l3 k3:Nat)(x y:Int)(T3 T4:TypeId)(f3 f4:Nat×Nat)(ds:List Deferred)(w:World)(W6:b3≠b4)
  (h3:w.heap[b3]?=some (.cells #[.slice a3 l3 k3] T3 f3)) (h4:w.heap[b4]?=some (.cells #[.int .i64 x,.int .i64 y] T4 f4)) (WE:w.frozen? ⟨b3,0,none⟩=false) (WD:w.frozen? ⟨b4,0,none⟩=false) (WC:w.frozen? ⟨b4,1,none⟩=false) :
  q5.wp Tryz.prog (λe a w'=>e=.ret/\w'.heap=w.heap/\w'.os=w.os/\w'.tape=w.tape/\w'.output=w.output/\a.tmps.getD 2 undef=t2/\a.tmps.getD 3 undef=.pointer (some ⟨b3,0,none⟩)/\a.tmps.getD 4 undef=.pointer (some ⟨b4,0,none⟩)/\a.defers=ds)
   ⟨#[t0,t1,t2,.pointer (some ⟨b3,0,none⟩),.pointer (some ⟨b4,0,none⟩),t5,t6,t7,t8,t9,t10,t11,t12,t13,t14,t15,t16,t17,t18],ds⟩ w:=by
 show(Code.seq (Code.region _ _ _) _).wp _ _ _ _;have d3:w.drew.heap[b3]?=_:=h3;have d4:w.drew.heap[b4]?=_:=h4;have c3:w.drew.cell? ⟨b3,0,none⟩=some (.slice a3 l3 k3):=(cell_of_heap d3 0).trans rfl;have c4:w.drew.cell? ⟨b4,0,none⟩=some (.int .i64 x):=(cell_of_heap d4 0).trans rfl;have c5:w.drew.cell? ⟨b4,1,none⟩=some (.int .i64 y):=(cell_of_heap d4 1).trans rfl;have e3:w.cell? ⟨b3,0,none⟩=some (.slice a3 l3 k3):=c3;have e4:w.cell? ⟨b4,0,none⟩=some (.int .i64 x):=c4;have e5:w.cell? ⟨b4,1,none⟩=some (.int .i64 y):=c5;have h43:¬b4=b3:=λh=>W6 h.symm
 have g3:w.drew.frozen? ⟨b3,0,none⟩=false:=WE;have g4:w.drew.frozen? ⟨b4,0,none⟩=false:=WD;have g5:w.drew.frozen? ⟨b4,1,none⟩=false:=WC
 go_wp2
 go_region
 rw[rD h3 rfl,rD h4 rfl,rD h4 rfl]
 go_wp2
 exact⟨rfl,rfl,rfl⟩
theorem xu(p q:Value)(w:World):CallsD Tryz.prog 244 #[p,q] .returning w λe u' w'=>e=.returned (.tuple #[])/\u'=.returning/\w'=w:=by
 refine callsD_of_wpS Tryz.func244 rfl λc₀ cs hu=>?_
 apply wpS_seq;apply wpS_region;simp[wpOpsS,go_sem,recoverD,hu,Tryz.ntmps244,Exit.thenS];refine wpS_of_wp ?_
 go_wp2
 cases c₀
 simp_all [bodyPostS,results,Tryz.results244]
theorem vZ(b3 b4:Nat)(a3:Option Addr)(l3 k3:Nat)(x y a e:Int)(T3 T4:TypeId)(f3 f4:Nat×Nat)(w:World)(W6:b3≠b4)
  (h3:w.heap[b3]?=some (.cells #[.slice a3 l3 k3] T3 f3)) (h4:w.heap[b4]?=some (.cells #[.int .i64 x,.int .i64 y] T4 f4)) (WE:w.frozen? ⟨b3,0,none⟩=false) (WD:w.frozen? ⟨b4,0,none⟩=false) (WC:w.frozen? ⟨b4,1,none⟩=false) :
  CallsD Tryz.prog 244 #[.pointer (some ⟨b3,0,none⟩),.pointer (some ⟨b4,0,none⟩)] (.panicking [{ v:=.iface 277 (.agg #[.int .i64 a,.int .i64 e]),recovered:=false }]) w λen u' w' =>
   en=.returned (.tuple #[])/\u'=.panicking [{ v:=.iface 277 (.agg #[.int .i64 a,.int .i64 e]),recovered:=true }] /\
    w'=((((((w.alloc (.cells #[.int .i64 a,.int .i64 e] 277 (0,0))).drew).setCell ⟨b3,0,none⟩ (.slice none 0 0)).setCell ⟨b4,0,none⟩ (.int .i64 a)).setCell ⟨b4,1,none⟩ (.int .i64 e))):=by
 refine callsD_of_wpS Tryz.func244 rfl λc₀ cs hu=>?_
 apply wpS_seq;apply wpS_region;simp[wpOpsS,go_sem,recoverD,hu,Tryz.ntmps244,Exit.thenS];refine wpS_of_wp ?_
 have hta:∀w:World,(Instr.typeAssert (.iface 277 (.agg #[.int .i64 a,.int .i64 e])) 20 277 true).run Tryz.prog w=.ok (.tuple #[.agg #[.int .i64 a,.int .i64 e],.bool true]) w:=λw=>by
  simp[Instr.typeAssert,run_underlying Tryz.underlying277,go_sem]
 have d3:(w.alloc (.cells #[.int .i64 a,.int .i64 e] 277 (0,0))).heap[b3]?=_:=(AM.heap_alloc_old _ (Ad.1 h3).1).trans h3;have d4:(w.alloc (.cells #[.int .i64 a,.int .i64 e] 277 (0,0))).heap[b4]?=_:=(AM.heap_alloc_old _ (Ad.1 h4).1).trans h4;have h43:¬b4=b3:=λh=>W6 h.symm
 go_wp2
 have b3w:¬b3=w.heap.size:=λh=>by have:=(Ad.1 h3).1;omega
 have b4w:¬b4=w.heap.size:=λh=>by have:=(Ad.1 h4).1;omega
 have d5:(w.alloc (.cells #[.int .i64 a,.int .i64 e] 277 (0,0))).heap[w.heap.size]?=_:=AM.heap_alloc_new _;have k3:(w.alloc (.cells #[.int .i64 a,.int .i64 e] 277 (0,0))).frozen? ⟨b3,0,none⟩=false:=by rw[<-WE];simp only[World.frozen?,d3,h3]
 have k4:(w.alloc (.cells #[.int .i64 a,.int .i64 e] 277 (0,0))).frozen? ⟨b4,0,none⟩=false:=by rw[<-WD];simp only[World.frozen?,d4,h4]
 have k5:(w.alloc (.cells #[.int .i64 a,.int .i64 e] 277 (0,0))).frozen? ⟨b4,1,none⟩=false:=by rw[<-WC];simp only[World.frozen?,d4,h4]
 generalize hW:w.alloc (.cells #[.int .i64 a,.int .i64 e] 277 (0,0))=W at *;generalize w.heap.size=n at *;have e3:W.cell? ⟨b3,0,none⟩=some (.slice a3 l3 _):=(cell_of_heap d3 0).trans rfl;have e4:W.cell? ⟨b4,0,none⟩=some (.int .i64 x):=(cell_of_heap d4 0).trans rfl;have e5:W.cell? ⟨b4,1,none⟩=some (.int .i64 y):=(cell_of_heap d4 1).trans rfl;have e6:W.cell? ⟨n,0,none⟩=some (.int .i64 a):=(cell_of_heap d5 0).trans rfl;have e7:W.cell? ⟨n,1,none⟩=some (.int .i64 e):=(cell_of_heap d5 1).trans rfl
 change Code.wp _ _ _ ⟨#[.pointer (some ⟨b3,0,none⟩),.pointer (some ⟨b4,0,none⟩),undef,.pointer (some ⟨n,0,none⟩),undef,.iface 277 (.agg #[.int .i64 a,.int .i64 e]),undef,.bool false,.tuple #[(.agg #[.int .i64 a,.int .i64 e]),.bool true],.bool true,(.agg #[.int .i64 a,.int .i64 e]),undef],[]⟩ _
 have q3:W.drew.cell? ⟨b3,0,none⟩=_:=e3;have q4:W.drew.cell? ⟨b4,0,none⟩=_:=e4;have q5:W.drew.cell? ⟨b4,1,none⟩=_:=e5;have q6:W.drew.cell? ⟨n,0,none⟩=_:=e6;have q7:W.drew.cell? ⟨n,1,none⟩=_:=e7;have r3:W.drew.frozen? ⟨b3,0,none⟩=_:=k3;have r4:W.drew.frozen? ⟨b4,0,none⟩=_:=k4;have r5:W.drew.frozen? ⟨b4,1,none⟩=_:=k5;have n3:¬n=b3:=λh=>b3w h.symm
 have n4:¬n=b4:=λh=>b4w h.symm
 go_region
 clear hta d3 d4 d5 e3 e4 e5 e6 e7 q3 q4 q5 q6 q7 r3 r4 r5 k3 k4 k5
 go_wp2
 all_goals subst hW
 all_goals cases c₀
 all_goals simp_all [bodyPostS,results,Tryz.results244]
end
end Go.Proofs.YtdkkaldimefljaaGreatDoor
