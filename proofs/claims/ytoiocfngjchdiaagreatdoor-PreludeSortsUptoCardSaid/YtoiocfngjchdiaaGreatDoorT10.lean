import Derived.Test.YtoiocfngjchdiaaGreatDoorT09
import Derived.Test.YtoiocfngjchdiaaGreatDoorK04
set_option linter.all false
set_option maxRecDepth 1000000
set_option maxHeartbeats 8000000
noncomputable section
namespace Go.CM
open Go.AM Go.Proofs.YtoiocfngjchdiaaGreatDoor
variable {P:Program}{w0:cL}{w:World}{Ψ:HT}
def leaves:GT->List (Nat×Nat×V)
 |.leaf l n v=>[(l,n,v)]
 |.nd _ a b=>leaves a++leaves b
 |_=>[]
def ao:GT->Bool
 |.leaf _ _ _=>true
 |.nd _ a b=>ao a&&ao b
 |_=>false
theorem a1n{g:GT}{l n:Nat}{k:V->aa}{r:V}(h:ao g=true)(e:I7 g l n k=.ok r):∃v,(l,n,v)∈leaves g/\k v=.ok r:=by
 induction g with
 |any v=>cases h
 |ar q m v=>cases h
 |leaf l' n' v =>
  have e:gd (Nat.beq l' l&&Nat.beq n' n) 131 (k v)=.ok r:=e;obtain⟨hg,e⟩:=bQ e;rw[Ac] at hg;exact⟨v,by rw[Aa hg.1,Aa hg.2];simp[leaves],e⟩
 |nd p a b IY IX =>
  simp only[ao,Ac] at h;have e:(match Nat.ble n p with|true=>I7 a l n k|false=>I7 b l n k)=.ok r:=e
  split at e
  ·obtain⟨v,h1,h2⟩:=IY h.1 e
   exact⟨v,by simp[leaves,h1],h2⟩
  ·obtain⟨v,h1,h2⟩:=IX h.2 e
   exact⟨v,by simp[leaves,h1],h2⟩
def To(v:V)(m:Int):Bool :=
 match v with
 |.int k n=>(match k with
  |.i64=>n==m
  |_=>false)
 |_=>false
theorem aNq{v:V}{m:Int}(h:To v m=true):v=.int .i64 m:=by
 unfold To at h
 split at h
 ·split at h
  ·have h:=eq_of_beq h
   rw[h]
  ·cases h
 ·cases h
def zn(p:List UInt8×Int)(q:Nat×Nat×V):Bool:=Nat.beq q.1 p.1.length&&Nat.beq q.2.1 (cC p.1)&&To q.2.2 p.2
theorem zg:(ao MZ&&(leaves MZ).all λq=>sE.any λp=>zn p q)=true:=by kernel_rfl
theorem a1x{l n:Nat}{v:V}(h:(l,n,v)∈leaves MZ):∃p∈sE,l=p.1.length/\n=cC p.1/\v=.int .i64 p.2:=by
 have h0:=zg;rw[Ac] at h0;have h1:=Au.1 h0.2 _ h;obtain⟨p,hp,h2⟩:=List.any_eq_true.1 h1;simp only[zn,Ac] at h2;exact⟨p,hp,Aa h2.1.1,Aa h2.1.2,aNq h2.2⟩
theorem aA8:sE.all (λp=>Nat.ble 1 p.1.length)=true:=by kernel_rfl
theorem a2i{w w':World}(hw:c_ Ψ w)(h:qz w w'):c_ Ψ w':=fP hw ⟨h.os,h.tape,h.output,h.size,h.old⟩
theorem zw{w w':World}{Ψ Z':HT}(h:AM.Fr w Ψ (λ_=>none) w' Z' (λ_=>none)):qz w w':=⟨h.size,λb hb=>(h.keep b hb rfl).1,h.os,h.tape,h.output⟩
theorem a5j{J:ak}{q:Q}{b B n cap:Nat}(hb:J q=some (b,B))(hc:n<=cap):VR J (.agg [.rr (.sl q 0 n)]) (.agg ⟨[.slice (some ⟨b,B+0,none⟩) n cap]⟩):=by
 refine .agg _ _ rfl (λc hc=>?_) λi c u hc hu=>?_
 ·simp only[As,Dg,Ep] at hc
  subst hc;rfl
 ·match i with
  |0=>cases hc;cases hu;exact .og _ _ _ _ _ _ hb (by assumption)
  |i+1=>simp at hc
theorem aWG:pk (fk Go.Proofs.Tryz.prog 30)=true:=by kernel_rfl
theorem a5n:∃rs,fk Go.Proofs.Tryz.prog 30=.mk sa rs:=by
 have h1:=aWG;unfold sa;generalize fk Go.Proofs.Tryz.prog 30=c at *;cases c with
 |mk b rs=>exact⟨rs,rfl⟩
 |_=>cases h1
theorem a5H(hs:c_ Ψ w0.toWorld):zH Go.Proofs.Tryz.prog w0 192 MZ:=by
 refine⟨⟨_,Go.Proofs.Tryz.func192,by kernel_rfl,by kernel_rfl⟩,λw J vs us k r _ hg _ hv e=>?_⟩;have hna:ao MZ=true:=by have:=zg;rw[Ac] at this;exact this.1
 have zero:∀{r:V}{k:V->aa},I7 MZ 0 0 k=.ok r->False:=λe=>by
  obtain⟨v,h1,_⟩:=a1n hna e;obtain⟨p,hp,h2,_⟩:=a1x h1
  have:=Ad (Au.1 aA8 p hp)
  omega
 unfold OP at e
 split at e
 ·exact(zero e).elim
 ·rename_i x
  obtain⟨u,us,rfl,r1,r2⟩:=hv.k6;obtain rfl:=r2.k_
  split at e
  ·rename_i l n
   obtain⟨v,h1,h2⟩:=a1n hna e;obtain⟨p,hp,rfl,rfl,rfl⟩:=a1x h1;obtain⟨s,rfl,q1,q2⟩:=r1.l_;obtain rfl:=uB q1 q2;refine⟨_,_,h2,.int _ _,λc cs=>?_⟩
   obtain⟨w',Z',v,f1,f2,f3,f4⟩:=(Zj hp).2 w Ψ ⟨[.string ⟨⟨p.1⟩⟩]⟩ (a2i hs hg) rfl (λi a ha=>by
    match i with
    |0=>cases ha;exact .str _
    |i+1=>simp at ha) c cs
   cases f3;exact⟨w',zw f1,f4⟩
  ·rename_i l
   unfold Qj at e
   split at e
   ·unfold Vt at e
    split at e
    ·split at e
     ·rename_i heq;cases heq
     ·cases e
    ·cases e
   ·cases e
  ·exact(zero e).elim
 ·cases e
theorem a5G(hs:c_ Ψ w0.toWorld){D:List ae}{b B cap:Nat}(hq:w0.v3 (qn 22)=some (b,B))(hu:am Ψ [] (.slice D) (.slice (some ⟨b,B,none⟩) 55 cap))(IK:kI Go.Proofs.Tryz.prog 23 [.agg [.slice D]] (.int .i64 0)):zH Go.Proofs.Tryz.prog w0 23 (.ar (qn 22) 55 (.int .i64 0)):=by
 refine⟨⟨_,Go.Proofs.Tryz.func23,by kernel_rfl,by kernel_rfl⟩,λw J vs us k r _ hg hle hv e=>?_⟩;unfold OP at e
 split at e
 ·cases e
 ·rename_i x
  obtain⟨u,us,rfl,r1,r2⟩:=hv.k6;obtain rfl:=r2.k_
  split at e
  ·cases e
  ·unfold Qj at e
   split at e
   ·rename_i y
    unfold Vt at e
    split at e
    ·rename_i o off len
     obtain⟨hb,e⟩:=bQ e;simp only[Ac] at hb;obtain⟨⟨b1,b2⟩,b3⟩:=hb;obtain rfl:=Q.beq_iff.1 b1;obtain rfl:=Aa b2;obtain rfl:=Aa b3;obtain⟨us,rfl,s1,_⟩:=r1.qh;obtain⟨u0,us,rfl,t1,t2⟩:=s1.k6;obtain rfl:=t2.k_;cases t1 with
     |og _ _ _ b' a75 L4 BC C6 =>
     rw[hle _ _ hq] at BC;simp only[Am,Bq] at BC;obtain⟨rfl,rfl⟩:=BC;refine⟨_,_,e,.int _ _,λc cs=>?_⟩
     have Hj:am Ψ [] (.agg [.slice D]) (.agg ⟨[.slice (some ⟨b,B+0,none⟩) 55 L4]⟩):=by
      cases hu with
      |slice _ _ _ _ s h1 h2 h3 =>
      refine .agg _ _ rfl (λi c hc=>?_) λi c v hc hv=>?_
      ·match i with
       |0=>cases hc;rfl
       |i+1=>simp at hc
      ·match i with
       |0=>cases hc;cases hv;exact .slice _ _ _ _ s h1 C6 h3
       |i+1=>simp at hc
     obtain⟨w',Z',v,f1,f2,f3,f4⟩:=IK.2 w Ψ ⟨[.agg ⟨[.slice (some ⟨b,B+0,none⟩) 55 L4]⟩]⟩ (a2i hs hg) rfl (λi a ha=>by
      match i with
      |0=>cases ha;exact Hj
      |i+1=>simp at ha) c cs
     cases f3;exact⟨w',zw f1,f4⟩
    ·cases e
   ·cases e
  ·cases e
 ·cases e
end Go.CM
end
noncomputable section
namespace Go.Proofs.YtoiocfngjchdiaaGreatDoor
open Go.AM Go.RowKit
theorem aSj(e:af):NX (TH (c7++[cU [111] lB])) (.slice ((c7++[cU oS e]).map ax.enc))=true:=by kernel_rfl
theorem aOX(e:af)(IK:kI Tryz.prog 23 [.agg [.slice ((c7++[cU oS e]).map ax.enc)]] (.int .i64 0)):kI Tryz.prog 30 [.agg [.slice ((c7++[cU oS e]).map ax.enc)],.slice []] (.int .i64 0):=by
 refine⟨⟨_,Tryz.func30,by kernel_rfl⟩,λw Ψ vs hw hl ha c cs=>?_⟩;obtain⟨vs⟩:=vs
 match vs,hl with
 |[v1,v2],_ =>
 have h1:am Ψ [] _ v1:=ha 0 _ rfl;have h2:am Ψ [] _ v2:=ha 1 _ rfl;cases h1 with
 |agg _ us J9 _ hx =>
 match us,J9 with
 |[u],_ =>
 have hu:am Ψ [] _ u:=hx 0 _ _ rfl rfl;have H0:=CM.gHR (P:=Tryz.prog) w (by rw[CM.vv];exact hw.kS);rw[CM.vv] at H0;obtain⟨v,J,h,nx,nat,k1,H1,R9,r1,c1⟩:=CM.a1l hw rfl _ (aSj e) hu H0 CM.a5s
 have hv:CM.isS v=true:=by
  have:=CM.a5t
  rw[nat] at this;simpa using this
 obtain rfl:=CM.a6e hv;cases r1 with
 |og _ _ _ b B cap hb hc =>
 let w0:CM.cL:=⟨w,J⟩
 have H2:CM.HR Tryz.prog w0 J h nx w:=⟨H1.size,H1.old,H1.os,H1.tape,H1.output,H1.jt,H1.fresh,H1.lt,H1.obj,H1.sep,H1.dead,CM.ak.le_refl _⟩
 have C4:CM.j_ Tryz.prog w0 CM.feC:=CM.a6w _ _ _ _ (λp hp=>by
  simp only[CM.giL,As,Dg,Ep] at hp;rcases hp with rfl|rfl
  ·exact CM.a5H hw
  ·exact CM.a5G hw hb hu IK) (λp hp=>by
  simp only[CM.a0M,As,Dg,Ep] at hp;rcases hp with rfl|rfl|rfl
  ·exact sq aNO aIi w0
  ·exact sq aNP aIj w0
  ·exact sq aNQ aIk w0)
 obtain⟨rs,K7⟩:=CM.a5n
 have JH:CM.VR J (.rr .e) v2:=by
  cases h2 with
  |slice _ a len cap s h1 _ _ =>
  obtain rfl:len=0:=by simpa using h1.symm
  exact .re _ _
 have B9:CM.a_ J [.agg [.rr (.sl (CM.qn 22) 0 55)],.rr .e] [.agg ⟨[.slice (some ⟨b,B+0,none⟩) 55 cap]⟩,v2]:=by
  exact .cons (CM.a5j hb hc) (.cons JH .nil)
 obtain⟨w',J',h',nx',u',x,q1,q2,q3,q4⟩:=CM.a2n (w0:=w0) CM.a0L C4 (CM.a0I CM.a0H) K7 H2 B9 k1 c cs;rw[CM.a0K q4] at q3;rw[q3.kj] at q1;have hb:=mJ q2;exact⟨w',Ψ,.int .i64 0,mR hb,fP hw hb,.int _ _,q1⟩
end Go.Proofs.YtoiocfngjchdiaaGreatDoor
end
namespace Go.Proofs.YtoiocfngjchdiaaGreatDoor
open Go.AM Go.RowKit
theorem names(f:Nat)(F:Func)(h:Tryz.prog.funcs[f]?=some F)(_:F.body.isSome=true):F.name≠ "runtime.NumGoroutine":=by
 have CA:Tryz.prog.funcs.all (λF=>!(F.name== "runtime.NumGoroutine"))=true:=by kernel_rfl
 have:=Fk.1 CA F (Ei h)
 intro e;rw[e] at this;simp at this
theorem aSG{B0:Nat}{pr:gG}(h:∀f args res,pr f args=some (some res)->(∃F,Tryz.prog.funcs[f]?=some F/\F.body.isSome=true)/\∀sto w Ψ J ow vs,dT ans B0 w Ψ J ow args vs sto->∀c cs,dS Tryz.prog ans B0 w Ψ J ow sto c cs (lone (Frame.enter Tryz.prog f vs .normal) (c::cs) w) res sto):Env Tryz.prog ans B0 pr :=
 ⟨h,names,λ_ hc=>a3g (by kernel_rfl) hc⟩
theorem a2g{s:List UInt8}{t:ah}(h:uL s=some t):(s,t)∈tO:=by
 simp only[uL,Aq] at h;obtain⟨p,h1,h2⟩:=h;have h3:=List.find?_some h1;have h4:=Gg h1;obtain⟨a,b⟩:=p;simp only[Cb] at h3;subst h3 h2;exact h4
theorem Zc(A:h_)(B0:Nat)(hap:∀args res,A.ap args=some (some res)->∀sto w Ψ J ow vs,dT ans B0 w Ψ J ow args vs sto->∀c cs,dS Tryz.prog ans B0 w Ψ J ow sto c cs (lone (Frame.enter Tryz.prog 8 vs .normal) (c::cs) w) res sto)(JI:A.pg=.agg [.slice (c7.map ax.enc)])
  (JY:∀args res,A.rn args=some (some res)->∀sto w Ψ J ow vs,dT ans B0 w Ψ J ow args vs sto->∀c cs,dS Tryz.prog ans B0 w Ψ J ow sto c cs (lone (Frame.enter Tryz.prog 9 vs .normal) (c::cs) w) res sto):Env Tryz.prog ans B0 (@oV A):=aSG λf args res h=>by
 unfold oV at h;cases h8:Nat.beq f 8 with
 |true =>
  rw[h8] at h;obtain rfl:=Aa h8;exact⟨⟨_,Tryz.func8,by kernel_rfl⟩,hap args res h⟩
 |false =>
 rw[h8,Bh] at h;cases h9:Nat.beq f 9 with
 |true =>
  rw[h9] at h;obtain rfl:=Aa h9;exact⟨⟨_,Tryz.func9,by kernel_rfl⟩,JY args res h⟩
 |false =>
 rw[h9,Bh] at h;cases h6:Nat.beq f 6 with
 |true =>
  rw[h6] at h;obtain rfl:=Aa h6;simp only[Bo] at h
  split at h
  ·cases h
   exact a6M.jx (λa ha=>by simp at ha)
  ·cases h
 |false =>
 rw[h6,Bh] at h;cases SF:Nat.beq f 20 with
 |true =>
  rw[SF] at h;obtain rfl:=Aa SF;simp only[Bo] at h
  split at h
  ·cases h
   rw[JI];exact a6N.jx (λa ha=>by rw[Ct.1 ha];rfl)
  ·cases h
 |false =>
 rw[SF,Bh] at h;cases Un:Nat.beq f 37 with
 |true =>
  rw[Un] at h;obtain rfl:=Aa Un;simp only[Bo] at h
  split at h
  ·rename_i s
   simp only[Am,Aq] at h;obtain⟨t,ht,rfl⟩:=h;exact(p37 (a2g ht)).jx (λa ha=>by rw[Ct.1 ha];rfl)
  ·cases h
 |false =>
 rw[Un,Bh] at h;cases Um:Nat.beq f 46 with
 |true =>
  rw[Um] at h;obtain rfl:=Aa Um;simp only[Bo] at h
  split at h
  ·rename_i s
   simp only[Am,Aq] at h;obtain⟨t,ht,rfl⟩:=h;exact(p46 (a2g ht)).jx (λa ha=>by rw[Ct.1 ha];rfl)
  ·cases h
 |false =>
 rw[Um,Bh] at h;cases NF:Nat.beq f 192 with
 |true =>
  rw[NF] at h;obtain rfl:=Aa NF;simp only[Bo] at h
  split at h
  ·rename_i s
   simp only[Am,Aq] at h;obtain⟨k,hk,rfl⟩:=h;exact(Zj (aDN hk)).jx (λa ha=>by rw[Ct.1 ha];rfl)
  ·cases h
 |false=>rw[NF] at h;cases h
@[reducible] def A0:h_:=⟨λ_=>some none,λ_=>some none,.agg [.slice (c7.map ax.enc)]⟩
theorem Qy(B0:Nat):Env Tryz.prog ans B0 (@oV A0):=Zc A0 B0 (λargs res h=>by cases h) rfl λargs res h=>by cases h
theorem aIb{f:FuncId}{args:List ae}{res:ae}(h:kI Tryz.prog f args res)(hl:∀a∈args,ct 0 a=true)(sto:AH):Row Tryz.prog ans f (args.map .val) sto (.ret (.val res)) sto:=by
 obtain⟨F,h1,h2⟩:=h.1;exact⟨⟨F,h1,h2,names f F h1 h2⟩,λB0=>(h.jx (B0:=B0) hl).2 sto⟩
theorem ft{nm:List UInt8}{vs:List ad}{v:ad}{n:Nat}(h:rN nm vs)(GD:Ev (hJ nm vs) qo (jf v) n)(hn:n<=200000)(hv:v.km=true)(hc:v.cu<=4000)(O:List ai)(lo:Nat)(AP:lo<=O.length) :
  Row Tryz.prog ans 9 (lV nm vs) ⟨O,lo⟩ (pM v n) ⟨O,lo⟩:=by
 have IK:kI Tryz.prog 23 [.agg [.slice ((pf nm vs).map ax.enc)]] (.int .i64 0):=kI.a1V Qy (@aKU A0 nm vs h ⟨[],0⟩ (Ae _))
 exact @aXa A0 Qy c7 aBb oS (hJ nm vs) v n hn GD hv hc (by rw[Bc,uW];simp) (λsto _=>aIb (aOX _ IK) (λa ha=>by
  simp only[As,Dg,Ep] at ha;rcases ha with rfl|rfl<;>rfl) sto) O lo AP
end Go.Proofs.YtoiocfngjchdiaaGreatDoor
namespace Go.CM
open Go.AM (mf bytes_beq)
def m_(g:Nat)(m:Bool):Value:=.func (.func g) (match m with|true=>#[.agg #[]]|false=>#[]) #[]
def tD(l n:Nat):List (Nat×Nat×Nat×Bool)->Option (Nat×Bool)
 |[]=>none
 |p::r=>bif Nat.beq p.1 l&&Nat.beq p.2.1 n then some (p.2.2.1,p.2.2.2) else tD l n r
def Sf(Jj:List (Nat×Nat×Nat×Bool))(AJ:List MapEntry):Prop:=Jj.length=AJ.length/\∀(i:Nat) p e,Jj[i]?=some p->AJ[i]?=some e->(∃s:List UInt8,e.key=.string ⟨⟨s⟩⟩/\s.length=p.1/\cC s=p.2.1)/\e.val=m_ p.2.2.1 p.2.2.2
theorem a1d(s:List UInt8){g:Nat}{m:Bool}:∀{Jj:List (Nat×Nat×Nat×Bool)}{AJ:List MapEntry}(i:Nat),Sf Jj AJ->tD s.length (cC s) Jj=some (g,m)->∃j,Instr.findNow .string (.string ⟨⟨s⟩⟩) AJ i=some (some (j,m_ g m))
 |[],AJ,i,_,e=>by cases e
 |p::Jj,[],i,h,e=>by have:=h.1;simp at this
 |p::Jj,en::AJ,i,h,e=>by
  obtain⟨⟨s',hk,hl,hn⟩,hv⟩:=h.2 0 p en rfl rfl;have Ox:Sf Jj AJ:=⟨by simpa using h.1,λi p' e' h1 h2=>h.2 (i+1) p' e' (by simpa using h1) (by simpa using h2)⟩
  have B6:Instr.sameNow .string (.string ⟨⟨s⟩⟩) en.key=some (s==s'):=by rw[hk];simp only[Instr.sameNow,bytes_beq]
  simp only[tD] at e;cases hc:Nat.beq p.1 s.length&&Nat.beq p.2.1 (cC s) with
  |true =>
   rw[hc] at e;cases e;simp only[Ac] at hc;have hs:s=s':=uB (by rw[hl,Aa hc.1]) (by rw[hn,Aa hc.2]);refine⟨i,?_⟩
   have:(s==s')=true:=by simpa using hs
   simp only[Instr.findNow,B6,this,hv]
  |false =>
   rw[hc] at e
   have hs:(s==s')=false:=by
    cases h2:(s==s') with
    |false=>rfl
    |true =>
     have:s=s':=by simpa using h2
     subst this;rw[<-hl,<-hn] at hc;rw[show Nat.beq s.length s.length=true from Ci _,show Nat.beq (cC s) (cC s)=true from Ci _] at hc;cases hc
   obtain⟨j,hj⟩:=a1d s (i+1) Ox e;exact⟨j,by simp only[Instr.findNow,B6,hs];exact hj⟩
theorem a6p{P:Program}{w:World}{t kt el:TypeId}{b cl:Nat}{AJ:Array MapEntry}{Jj:List (Nat×Nat×Nat×Bool)}{s:List UInt8}{g:Nat}{m:Bool}(hu:P.underlying t=some (.map kt el))(hk:P.underlying kt=some .string)(hh:w.heap[b]?=some (.map AJ cl))(hT:Sf Jj AJ.toList)
  (e:tD s.length (cC s) Jj=some (g,m)):(Instr.lookup t (.map (some b)) (.string ⟨⟨s⟩⟩) false).run P w=.ok (m_ g m) w:=by
 obtain⟨j,hj⟩:=a1d s 0 hT e;have AN:=mf (P:=P) hh (by simp);have HV:=(λn=>by simp[Instr.checkKey,AM.run_underlying hk]:∀n,(Instr.checkKey AJ.isEmpty (n+1) kt (.string ⟨⟨s⟩⟩)).run P w=.ok () w) 9999;have PY:(Instr.findKey kt (.string ⟨⟨s⟩⟩) AJ.toList).run P w=.ok (some (j,m_ g m)) w:=by simp[Instr.findKey,AM.run_underlying hk,hj]
 simp only[Instr.lookup,Sem.run_bind,AM.run_underlying hu,Result.andThen_ok,AN,Sem.run_pure,HV,PY];rfl
set_option maxRecDepth 1000000 in
theorem aWF:pk (fk Go.Proofs.Tryz.prog 26)=true:=by kernel_rfl
theorem a5p(w:World)(hw:8<=w.heap.size)(c:Frame)(cs:List Frame) :
  ∃(w':World)(b:Nat)(AJ:Array MapEntry)(cl:Nat),Steps Go.Proofs.Tryz.prog (lone (Frame.enter Go.Proofs.Tryz.prog 26 #[] .normal) (c::cs) w) (lone (c.finish (.map (some b))) cs w')/\w'.heap[b]?=some (.map AJ cl)/\Sf sj AJ.toList /\
   w.heap.size<=w'.heap.size/\(∀b,b<w.heap.size->w'.heap[b]?=w.heap[b]?)/\w'.os=w.os/\w'.tape=w.tape/\w'.output=w.output:=by
 obtain⟨w',J',h',nx',u,x,h1,h2,h3,h4⟩:=call26 (n:=999) aWF (λ_=>.nil) aMV w hw c cs;unfold fin at h4
 split at h4
 ·simp only[V.aj.injEq] at h4
  have:=Dd List.length h4
  simp[sj] at this
 ·simp only[V.aj.injEq] at h4
  have:=Dd List.length h4
  simp[sj] at this
 ·rename_i o
  split at h4
  ·rename_i es D8
   obtain⟨b,N,rfl,hb⟩:=h3.vF;have hO:=h2.obj o b N hb;rw[show h'.ob o=.map es from D8] at hO;cases hO with
   |map _ AJ cl _ _ hB hW hM hBn =>
   simp only[V.aj.injEq] at h4;refine⟨w',b,⟨AJ⟩,cl,h1,hW,⟨?_,λi p e hp he=>?_⟩,h2.size,h2.old,h2.os,h2.tape,h2.output⟩
   ·have:=Dd List.length h4
    simp only[Ay] at this;rw[<-this];exact hM.len
   ·have hei:es.length=sj.length:=by have:=Dd List.length h4;simpa using this
    have AL:i<es.length:=by rw[hei];exact(Ab.1 hp).1
    have h5:=Dd (λl=>l[i]?) h4;simp only[Aw,hp,Bv AL,Bx,Am,Y3,V.aj.injEq,Dj,Fx] at h5;have hk:=hM.key i _ e (Bv AL) he;have hv:=hM.val i _ e (Bv AL) he;rw[h5.1] at hk;rw[h5.2] at hv;obtain⟨s,e1,e2,e3⟩:=hk.l_;refine⟨⟨s,e1,e2,e3⟩,?_⟩;obtain⟨us,vs,e4,r1,r2⟩:=hv.uu;obtain rfl:=r2.k_;rw[e4,dY];unfold m_;cases hm:p.2.2.2 with
    |false =>
     rw[hm] at r1;obtain rfl:=r1.k_;rfl
    |true =>
     rw[hm] at r1;obtain⟨v,CL,rfl,q1,q2⟩:=r1.k6;obtain rfl:=q2.k_;obtain⟨ws,rfl,q3,_⟩:=q1.qh;obtain rfl:=q3.k_;rfl
  ·cases h4
 ·cases h4
 ·cases h4
 ·cases h4
end Go.CM
namespace Go.AM
section
variable {P:Program}{ans:FuncId->AF}{an:AF}{w w':World}{B0:Nat}{Ψ Z':HT}{J:List Nat}{ow:Own}{tmps:Array Value}{fid:FuncId}{st:St}
theorem Rel.fr{E:Nat->Slot}{objs:List ai}(h:Rel P ans B0 w Ψ J ow an E tmps objs)(hF:Fr w Ψ (λ_=>none) w' Z' (λ_=>none))(hw:c_ Z' w'):Rel P ans B0 w' Z' J ow an E tmps objs:=by
 have same:∀kk i,e_ w Ψ ow w' Z' ow kk i kk i:=λkk i b s hb=>by
  have AL:=h.lt b (by simp[hb])
  have:=hF.keep b AL rfl
  exact⟨hb,this.1,λo ho=>by rw[this.2 o];exact ho⟩
 exact⟨h.size,hw,λu=>(h.dr u).mono hF.le (aG _) (same false u) (λ_ _ _=>rfl),h.refs,h.boxes,h.objs.mono hF.le λi _=>same true i,λb hb=>Bt (h.lt b hb) hF.size,Bi h.base hF.size,h.hi⟩
theorem At.fr(h:At P ans fid B0 w Ψ J ow st tmps)(hF:Fr w Ψ (λ_=>none) w' Z' (λ_=>none))(hw:c_ Z' w'):At P ans fid B0 w' Z' J ow st tmps:=⟨h.rel.fr hF hw,h.nr,h.lo⟩
theorem Fr.any{ow:Own}(hF:Fr w Ψ (λ_=>none) w' Z' (λ_=>none)):Fr w Ψ ow w' Z' ow:=⟨hF.le,hF.size,λb hb _=>hF.keep b hb rfl,λ_ hb=>.inl hb,hF.os,hF.tape,hF.output⟩
end
section
variable {P:Program}{w:World}{b:Frame}{tm:Array Value}{ds:List Deferred}{k:List Item}{cs:List Frame}{ops:Array Oper}{i:Nat}{rest:List Nat}{o:Oper}{w':World}{d:Option Nat}{op:Op}
theorem yC{v:Value}(ho:ops[i]?=some o)(hI:Is o d op)(hd:∀c,op≠.defer c)(hr:(execOp (⟨tm,ds⟩:Act).eval ⟨d,op,o.type,o.pos,o.after,none⟩).run P w=.ok (.value v) w') :
  Steps P (lone (b.atR ⟨tm,ds⟩ (.inRegion ops (i::rest)::k)) cs w) (lone (b.atR ((⟨tm,ds⟩:Act).put d v) (.inRegion ops rest::k)) cs w'):=by
 have h1:(execOp (⟨tm,ds⟩:Act).eval o).run P w=.ok (.value v) w':=by rw[hI.eq];exact hr
 have:=Steps.one (c9 (b:=b) (a:=⟨tm,ds⟩) (k:=k) (cs:=cs) (rest:=rest) ho (by unfold Region.wanted;rw[hI.gd]) (by rw[hI.op];exact hd) h1)
 rw[hI.dst] at this;exact this
theorem a3h{f:FuncId}{args:Array Value}{v:Value}{w1:World}(ho:ops[i]?=some o)(hI:Is o d op)(hd:∀c,op≠.defer c)(hr:(execOp (⟨tm,ds⟩:Act).eval ⟨d,op,o.type,o.pos,o.after,none⟩).run P w=.ok (.enter f args) w')
  (S:Steps P (lone (Frame.enter P f args .normal) (b.atR ⟨tm,ds⟩ (.inRegion ops (i::rest)::k)::cs) w') (lone ((b.atR ⟨tm,ds⟩ (.inRegion ops (i::rest)::k)).finish v) cs w1)) :
  Steps P (lone (b.atR ⟨tm,ds⟩ (.inRegion ops (i::rest)::k)) cs w) (lone (b.atR ((⟨tm,ds⟩:Act).put d v) (.inRegion ops rest::k)) cs w1):=by
 have h1:(execOp (⟨tm,ds⟩:Act).eval o).run P w=.ok (.enter f args) w':=by rw[hI.eq];exact hr
 have h2:=Steps.one (jW (b:=b) (a:=⟨tm,ds⟩) (k:=k) (cs:=cs) (rest:=rest) ho (by unfold Region.wanted;rw[hI.gd]) (by rw[hI.op];exact hd) h1);rw[Frame.finish_atR,ho] at S;simp only[Ar,hI.dst] at S;exact h2.trans S
end
variable {P:Program}{ans:FuncId->AF}{an:AF}{drawn:Bool}{cf:aI}{tm:List Slot}{R:Type}
theorem ZP{rid i:Nat}{ops:Array Oper}{kp:ae->RS->Option R}{kn:RS->Option R}{o:Oper}{l:List Nat}{rs rs':RS}{x:Option R}(ho:ops[i]?=some o)(h:∀next:RS->Option R,iA P ans an drawn cf tm rid ops kp o i rs next=next rs')(k:gF P ans an drawn cf tm rid ops kp kn l rs'=x):gF P ans an drawn cf tm rid ops kp kn (i::l) rs=x:=by
 simp only[gF,ho];rw[h];exact k
end Go.AM
namespace Go.Proofs.YtoiocfngjchdiaaGreatDoor
open Go.AM
section
open Go.RowKit
variable [h_]
theorem zR(f:Nat)(F:Func)(h:Tryz.prog.funcs[f]?=some F)(_:F.body.isSome=true):F.name≠ "runtime.NumGoroutine":=by
 have CA:Tryz.prog.funcs.all (λF=>!(F.name== "runtime.NumGoroutine"))=true:=by kernel_rfl
 have:=Fk.1 CA F (Ei h)
 intro e;rw[e] at this;simp at this
theorem a6j(p q:Value)(w:World):CallsD Tryz.prog 25 #[p,q] .returning w λe u' w'=>e=.returned (.tuple #[])/\u'=.returning/\w'=w:=by
 refine callsD_of_wpS Tryz.func25 rfl λc₀ cs hu=>?_
 apply wpS_seq;apply wpS_region;simp[wpOpsS,go_sem,Nat.reduceAdd,reduceIte,recoverD,hu,Tryz.ntmps25,Exit.thenS];refine wpS_of_wp ?_
 go_wp2
 cases c₀
 simp_all [bodyPostS,results,Tryz.results25]
noncomputable abbrev R1(cf:aI)(B0:Nat)(cs:List Frame)(ds:List Deferred):Rc:=⟨Tryz.prog,ans,cf,8,B0,FN 8,cs,ds⟩
def OD(a b:Nat):Deferred:={ target:=.fn (.func 25) #[.pointer (some ⟨a,0,none⟩),.pointer (some ⟨b,0,none⟩)],args:=#[] }
noncomputable def t8:Code:=match(Tryz.f8.body).getD .skip with
 |.seq _ (.seq _ d)=>d
 |c=>c
noncomputable def d8:Code:=match t8 with
 |.seq d _=>d
 |c=>c
noncomputable def l8:Code:=match t8 with
 |.seq _ (.seq e _)=>e
 |c=>c
noncomputable def q8:Code:=match t8 with
 |.seq _ (.seq _ f)=>f
 |c=>c
theorem aTj(tmps:Array Value)(hs:tmps.size=33)(w:World):d8.wp Tryz.prog (λe a w'=>e=.normal/\w'=w/\a.tmps=tmps.setIfInBounds 15 (.func (.func 25) #[] #[tmps.getD 4 undef,tmps.getD 5 undef])/\a.defers=[{ target:=.fn (.func 25) #[tmps.getD 4 undef,tmps.getD 5 undef],args:=#[] }]) ⟨tmps,[]⟩ w:=by
 have hmf:∀(fn:Fn)(first cap:Array Value)(w:World),(Instr.makeFunc fn first cap).run Tryz.prog w=.ok (.func fn first cap) w:=λ_ _ _ _=>rfl
 show(Code.region _ _ _).wp _ _ _ _
 go_wp2
noncomputable def o8:Array Oper:=match l8 with
 |.region _ ops _=>ops
 |_=>#[]
noncomputable def r8:Nat:=match l8 with
 |.region i _ _=>i
 |_=>0
theorem l8E:l8=.region r8 o8 false:=by kernel_rfl
theorem zU:o8.size=7:=by kernel_rfl
noncomputable def Jm(i:Nat):Oper:=o8.getD i ⟨none,.move (.tmp 0),0,default,#[],none⟩
theorem tj{i:Nat}(h:i<7):o8[i]?=some (Jm i):=by
 have h':i<o8.size:=by rw[zU];exact h
 simp[Jm,Array.getD,h']
noncomputable def aRE(o:Oper):Array TypeId:=match o.op with
 |.call c=>c.argTypes
 |_=>#[]
theorem i0:Is (Jm 0) (some 16) (.call ⟨.value (.func 26),#[],aRE (Jm 0)⟩):=⟨by kernel_rfl,by kernel_rfl,by kernel_rfl⟩
theorem i1:Is (Jm 1) (some 17) (.move (.tmp 0)):=⟨by kernel_rfl,by kernel_rfl,by kernel_rfl⟩
theorem i2:Is (Jm 2) (some 18) (.lookup 81 (.tmp 16) (.tmp 17) false):=⟨by kernel_rfl,by kernel_rfl,by kernel_rfl⟩
theorem i3:Is (Jm 3) (some 19) (.move (.tmp 1)):=⟨by kernel_rfl,by kernel_rfl,by kernel_rfl⟩
theorem i4:Is (Jm 4) (some 20) (.call ⟨.value (.tmp 18),#[.tmp 19],aRE (Jm 4)⟩):=⟨by kernel_rfl,by kernel_rfl,by kernel_rfl⟩
abbrev Gx(nm:List UInt8)(xs:List ae)(n:Nat)(s t u:Slot):List Slot:=[.val (.str nm),.val (.slice xs),.val (.loc n 0),.val (.loc (n+1) 0),.val (.int .i64 0),s,t,u]
theorem s56(cf:aI)(nm:List UInt8)(xs:List ae)(n:Nat)(r:ad)(S:AH):∃sc,(∀(kp:ae->RS->Option (bG×St))(kn:RS->Option (bG×St)),gF Tryz.prog ans (ans 8) false cf (Gx nm xs n .dead (.val (.bool false)) .dead) r8 o8 kp kn [5,6] ⟨[(20,.val r.enc)],S⟩=kn ⟨sc,S⟩) /\
  ed (ans 8).keep (Gx nm xs n .dead (.val (.bool false)) .dead) sc=Gx nm xs n (.box (cN r)) (.val (.bool false)) .dead:=by
 rw[ad.aw r];simp only[cN];refine⟨[(7,.box [.val (.str r.bh),.val (.int .i64 r.num),.val (.slice (r.args.map ad.enc))]),(7,.box [.val (.str []),.val (.int .i64 0),.own 3 []]),(20,.val (.agg [.str r.bh,.int .i64 r.num,.slice (r.args.map ad.enc)]))],λkp kn=>?_,?_⟩
 ·refine ZP (o:=Jm 5) (rs':=⟨[(7,.box [.val (.str []),.val (.int .i64 0),.own 3 []]),(20,.val (.agg [.str r.bh,.int .i64 r.num,.slice (r.args.map ad.enc)]))],S⟩) (tj (by omega)) (λnext=>?_) ?_
  rotate_left
  ·refine ZP (o:=Jm 6) (rs':=⟨[(7,.box [.val (.str r.bh),.val (.int .i64 r.num),.val (.slice (r.args.map ad.enc))]),(7,.box [.val (.str []),.val (.int .i64 0),.own 3 []]),(20,.val (.agg [.str r.bh,.int .i64 r.num,.slice (r.args.map ad.enc)]))],S⟩) (tj (by omega)) (λnext=>?_) ?_
   rotate_left
   ·rfl
   ·show iA _ _ _ _ _ _ _ _ _ ⟨_,.store _ _ _,_,_,_,_⟩ _ _ _=_
    simp only[go_sem]
  ·show iA _ _ _ _ _ _ _ _ _ ⟨_,.alloc _,_,_,_,_⟩ _ _ _=_
   simp only[go_sem];rfl
 ·simp only[go_sem]
def aKr(m:Bool)(xs:List ae):List ae:=match m with
 |true=>[.agg [],.slice xs]
 |false=>[.slice xs]
abbrev zV:ai:=.box [.val (.str []),.val (.int .i64 0),.own 3 []]
abbrev zE:ai:=.box [.val (.int .i64 0)]
theorem aW7{cf:aI}{B0:Nat}(BO:kC Tryz.prog ans B0 cf){nm:List UInt8}{xs:List ae}{n:Nat}{S:AH}{r:ad}{g:Nat}{m:Bool}(hg:CM.tD nm.length (CM.cC nm) CM.sj=some (g,m))(hx:ct 0 (.slice xs)=true)(hp:kI Tryz.prog g (aKr m xs) r.enc)
  {w:World} {Ψ:HT} {J:List Nat} {ow:Own} {tmps:Array Value} {ds:List Deferred} {b:Frame} {cs:List Frame} {items:List Item} (h:At Tryz.prog ans 8 B0 w Ψ J ow ⟨Gx nm xs n .dead (.val (.bool false)) .dead,S⟩ tmps) :
  ∃w' Z' J' AO tmps',At Tryz.prog ans 8 B0 w' Z' J' AO ⟨Gx nm xs n (.box (cN r)) (.val (.bool false)) .dead,S⟩ tmps'/\Fr w Ψ ow w' Z' AO/\pre J J'/\Steps Tryz.prog (lone (b.atR ⟨tmps,ds⟩ (.code l8::items)) cs w) (lone (b.atR ⟨tmps',ds⟩ items) cs w'):=by
 have nt:(ans 8).nt=33:=by rw[Jf]
 have sz:∀{w Ψ J ow st tmps},At Tryz.prog ans 8 B0 w Ψ J ow st tmps->tmps.size=33:=λh=>h.rel.size.trans nt
 have SR:=Steps.one (stepR_region (P:=Tryz.prog) (b:=b) (a:=⟨tmps,ds⟩) (k:=items) (cs:=cs) (w:=w) (id:=r8) (ops:=o8));rw[zU] at SR;rw[l8E];obtain⟨w1,bm,AJ,cl,a4F,hm,hT,hz,hb,ho,ht,Md⟩:=CM.a5p w h.rel.b_.kS (b.atR ⟨tmps,ds⟩ (.inRegion o8 [0,1,2,3,4,5,6]::items)) cs;have KI:Below w.heap.size w w1:=⟨ho,ht,Md,hz,hb⟩
 have F1:=mR (Ψ:=Ψ) KI;have W1:=fP h.rel.b_ KI;have a4T:=zR 26 Tryz.f26 Tryz.func26 (by kernel_rfl)
 have a5O:¬Tryz.f26.body=none:=by
  have hs:Tryz.f26.body.isSome=true:=by kernel_rfl
  intro hn;rw[hn] at hs;cases hs
 have a4H:=a3h (P:=Tryz.prog) (w:=w) (w':=w) (b:=b) (ds:=ds) (k:=items) (tj (by omega)) i0 (λc e=>by cases e) (by simp[execOp,resolve,Deferred.ofValue,invoke,callFunc,Act.eval,Tryz.func26,a4T,a5O,go_sem]) a4F;have A1:=kO (h.fr F1 W1) 16 (.map (some bm)) (by rw[nt];omega) (by rw[Jf];rfl);generalize a0T:tmps.setIfInBounds 16 (.map (some bm))=FG at A1;have T1:=yC (P:=Tryz.prog) (w':=w1) (b:=b) (tm:=FG) (ds:=ds) (k:=items) (cs:=cs) (rest:=[2,3,4,5,6]) (v:=FG.getD 0 undef) (tj (i:=1) (by omega)) i1 (λc e=>by cases e) rfl;have A2:=kO A1 17 (FG.getD 0 undef) (by rw[nt];omega) (by rw[Jf];rfl)
 have e16:(FG.setIfInBounds 17 (FG.getD 0 undef)).getD 16 undef=.map (some bm):=by
  rw[eF _ _ _ _ (by rw[sz A1];omega),Bf (by omega),<-a0T,eF _ _ _ _ (by rw[sz h];omega),Br rfl]
 have e17:(FG.setIfInBounds 17 (FG.getD 0 undef)).getD 17 undef=.string ⟨⟨nm⟩⟩:=by
  rw[eF _ _ _ _ (by rw[sz A1];omega),Br rfl]
  have:=A1.rel.dr 0
  rw[Jf] at this;generalize FG.getD 0 undef=u at this;cases this with
  |val _ _ h=>cases h;rfl
 generalize a50:FG.setIfInBounds 17 (FG.getD 0 undef)=DZ at A2 e16 e17;have hl:=CM.a6p (P:=Tryz.prog) Tryz.underlying81 Tryz.underlying9 hm hT hg
 have T2:=yC (P:=Tryz.prog) (w':=w1) (b:=b) (tm:=DZ) (ds:=ds) (k:=items) (cs:=cs) (rest:=[3,4,5,6]) (v:=CM.m_ g m) (tj (i:=2) (by omega)) i2 (λc e=>by cases e) (by
  have h1:(⟨DZ,ds⟩:Act).eval (.tmp 16)=.map (some bm):=e16;have h2:(⟨DZ,ds⟩:Act).eval (.tmp 17)=.string ⟨⟨nm⟩⟩:=e17;simp only[execOp,h1,h2,Sem.run_bind];rw[hl];rfl)
 have A3:=kO A2 18 (CM.m_ g m) (by rw[nt];omega) (by rw[Jf];rfl);have e18:(DZ.setIfInBounds 18 (CM.m_ g m)).getD 18 undef=CM.m_ g m:=by rw[eF _ _ _ _ (by rw[sz A2];omega),Br rfl]
 generalize a51:DZ.setIfInBounds 18 (CM.m_ g m)=JT at A3 e18;have T3:=yC (P:=Tryz.prog) (w':=w1) (b:=b) (tm:=JT) (ds:=ds) (k:=items) (cs:=cs) (rest:=[4,5,6]) (v:=JT.getD 1 undef) (tj (i:=3) (by omega)) i3 (λc e=>by cases e) rfl;have A4:=kO A3 19 (JT.getD 1 undef) (by rw[nt];omega) (by rw[Jf];rfl);have wg:(JT.setIfInBounds 19 (JT.getD 1 undef)).getD 18 undef=CM.m_ g m:=by rw[eF _ _ _ _ (by rw[sz A3];omega),Bf (by omega),e18]
 have wl:(JT.setIfInBounds 19 (JT.getD 1 undef)).getD 19 undef=JT.getD 1 undef:=by rw[eF _ _ _ _ (by rw[sz A3];omega),Br rfl]
 have EC:am Ψ [] (.slice xs) (JT.getD 1 undef):=by
  have:=A3.rel.dr 1
  rw[Jf] at this;generalize JT.getD 1 undef=u at this;cases this with
  |val _ _ h=>exact h.ct hx
 generalize JT.getD 1 undef=vx at wl EC T3 A4 wg;generalize a52:JT.setIfInBounds 19 vx=L9 at A4 wg wl
 obtain⟨w2,Z2,v,F2,a5f,hv,S4⟩:=hp.2 w1 Ψ (match m with|true=>#[.agg #[],vx]|false=>#[vx]) W1 (by cases m<;>rfl) (λi a ha=>by
  cases m with
  |true=>match i with
   |0=>cases ha;exact .agg [] [] rfl (λi c h=>by cases h) (λi c v h=>by cases h)
   |1=>cases ha;exact EC
   |i+2=>cases ha
  |false=>match i with
   |0=>cases ha;exact EC
   |i+1=>cases ha) (b.atR ⟨L9,ds⟩ (.inRegion o8 [4,5,6]::items)) cs
 have T4:=a3h (P:=Tryz.prog) (w:=w1) (w':=w1) (b:=b) (ds:=ds) (k:=items) (tj (by omega)) i4 (λc e=>by cases e) (by
  have h1:L9[18]?.getD undef=CM.m_ g m:=by simpa using wg
  have h2:L9[19]?.getD undef=vx:=by simpa using wl
  obtain⟨F,hF,E4⟩:=hp.1;have Hn:=zR g F hF E4
  have MI:¬F.body=none:=by
   intro hn;rw[hn] at E4;cases E4
  cases m<;>simp[execOp,resolve,Deferred.ofValue,invoke,callFunc,CM.m_,h1,h2,hF,MI,Hn,go_sem]) S4
 have A5:=A4.fr F2 a5f
 have a4E:Rel Tryz.prog ans B0 w2 Z2 J ow (ans 8) (sl (ans 8) (Gx nm xs n .dead (.val (.bool false)) .dead) ⟨[(20,.val r.enc)],S⟩) (L9.setIfInBounds 20 v) S.objs:=by
  have:=A5.rel.write 20 (.val r.enc) v (by rw[nt];omega) (λt o e=>absurd e (A5.nr.bg _ _ _ _)) (λu o e=>by cases e) (λcs e=>by cases e) Z2.le_refl (aG _) A5.rel.b_ (λt _ _=>e_.refl _ _ _ _ _) (.val _ v (hv.mono (HT.le_refl _) (pre_nil _))) A5.rel.objs A5.rel.lt (Ae _)
  rw[show sl (ans 8) (Gx nm xs n .dead (.val (.bool false)) .dead) ⟨[(20,.val r.enc)],S⟩=jl (sl (ans 8) (Gx nm xs n .dead (.val (.bool false)) .dead) ⟨[],S⟩) 20 (.val r.enc) from dJ (ans 8).keep (Gx nm xs n .dead (.val (.bool false)) .dead) ⟨[],S⟩ 20 (.val r.enc)];exact this
 obtain⟨sc,a4P,hcm⟩:=s56 cf nm xs n r S;have hk:=a4P (λv rs=>y9 (.be v) ⟨Gx nm xs n .dead (.val (.bool false)) .dead,rs.sto⟩) (λrs=>y9 .norm ⟨ed (ans 8).keep (Gx nm xs n .dead (.val (.bool false)) .dead) rs.sc,rs.sto⟩);simp only[hcm] at hk;rcases n8 (ds:=ds) (b:=b) (items:=items) (cs:=cs) BO A4.nr a4E A4.lo hk with⟨rs',w',Z',J',AO,tmps',a1,a2,a3,a4,a5,a6⟩|⟨x,rs',v,w',Z',J',AO,tmps',DF,a1,a2,a3,a4,a5,a6,a7⟩
 ·simp only[y9,Am,Bq,Fw] at a1
  have hA:=At.ed (sto:=rs'.sto) A4.nr a2 (by rw[a5.lo];exact Bi A4.lo a5.len) rfl
  have hA:At Tryz.prog ans 8 B0 w' Z' J' AO ⟨Gx nm xs n (.box (cN r)) (.val (.bool false)) .dead,S⟩ tmps':=by
   have a1':(⟨ed (ans 8).keep (Gx nm xs n .dead (.val (.bool false)) .dead) rs'.sc,rs'.sto⟩:St)=⟨Gx nm xs n (.box (cN r)) (.val (.bool false)) .dead,S⟩:=a1;rw[<-a1'];exact hA
  refine⟨w',Z',J',AO,tmps',hA,(F1.any.trans F2.any).trans a3,a4,SR.trans ?_⟩;subst a0T a50 a51 a52;exact a4H.trans (T1.trans (T2.trans (T3.trans (T4.trans (a6.trans (.one stepR_region_end))))))
 ·simp[y9] at a1
theorem aW9{cf:aI}(BO:∀B0,kC Tryz.prog ans B0 cf)(E0:gU Tryz.prog ans cf){nm:List UInt8}{xs:List ae}{r:ad}{g:Nat}{m:Bool}{k:Int}(hg:CM.tD nm.length (CM.cC nm) CM.sj=some (g,m))(hx:ct 0 (.slice xs)=true)(hp:kI Tryz.prog g (aKr m xs) r.enc)(hn:decide (k>4000)=false)
  {O:List ai} {lo:Nat} (AP:lo<=O.length) (Nj:cf (.fn 24) [.val (.str nm),.val (.slice xs)] ⟨O++[zV,zE],lo⟩=some (.ret (.val (.int .i64 0)),⟨O++[zV,zE],lo⟩)) (Y0:cf (.fn 27) [.val r.enc] ⟨O++[zV,zE],lo⟩=some (.ret (.val (.int .i64 k)),⟨O++[zV,zE],lo⟩))
  (YZ:cf (.fn 28) [.val r.enc] ⟨O++[zV,zE],lo⟩=some (.ret (.val (.int .i64 0)),⟨O++[zV,zE],lo⟩)) (YY:cf (.fn 29) [.val r.enc] ⟨O++[zV,zE],lo⟩=some (.ret (.val r.enc),⟨O++[zV,zE],lo⟩)) :
  Row Tryz.prog ans 8 [.val (.str nm),.val (.slice xs)] ⟨O,lo⟩ (.ret (.aj [r.enc,.int .i64 0])) ⟨O,lo⟩:=by
 refine⟨⟨_,Tryz.func8,by kernel_rfl,by decide⟩,λB0 w Ψ J ow vs BM c cs=>?_⟩;have nt:(ans 8).nt=33:=by rw[Jf]
 have Iz:=qD (P:=Tryz.prog) BM (by rw[nt];show 2<=33;omega);have Iz:At Tryz.prog ans 8 B0 w Ψ J ow ⟨[.val (.str nm),.val (.slice xs),.dead,.dead,.dead,.dead,.dead,.dead],⟨O,lo⟩⟩ _:=Iz;have H0:(R1 cf B0 (c::cs) []).OK:=⟨BO B0,E0,rfl⟩
 have h0:bE (R1 cf B0 (c::cs) []) ⟨[.val (.str nm),.val (.slice xs),.dead,.dead,.dead,.dead,.dead,.dead],⟨O,lo⟩⟩ [.code ((Tryz.f8.body).getD .skip)] ⟨Gx nm xs O.length .dead (.val (.bool false)) .dead,⟨O++[zV,zE],lo⟩⟩ [.code d8,.code (.seq l8 q8)]:=by
  have H:=H0;clear hp Y0 YZ YY;show bE _ ⟨[_,_,_,_,_,_,_,_],_⟩ [.code (.seq _ (.seq _ (.seq _ _)))] _ _;repeat first|with_reducible refine nH ?_|with_reducible refine iI ?_|with_reducible refine eQ ?_|with_reducible refine cT ?_|((with_reducible apply iG);(·rfl))|((with_reducible apply nG H);(·(intro _ _;(repeat (apply BL;(·(intro _;simp only[*,go_sem,Nat.reduceAdd,reduceIte,FL,FO];rfl))));rfl));(·(simp only[go_sem];rfl)))|((with_reducible apply iH H);(·kernel_rfl);(·(intro _ _;(repeat (apply BL;(·(intro _;simp only[*,go_sem,Nat.reduceAdd,reduceIte,FL,FO];rfl))));rfl));(·(simp only[go_sem];rfl)))|((with_reducible apply Ha);(·(simp only[go_sem];rfl));(·first|rfl|assumption))|((with_reducible apply Hb);(·(simp only[go_sem];rfl));(·first|rfl|assumption))
  exact bE.refl
 have h2:∀ds,bE (R1 cf B0 (c::cs) ds) ⟨Gx nm xs O.length (.box (cN r)) (.val (.bool false)) .dead,⟨O++[zV,zE],lo⟩⟩ [.code q8] ⟨Gx nm xs O.length (.box (cN r)) (.val (.bool false)) (.val (.bool false)),⟨O++[.box (cN r),zE],lo⟩⟩ [.code .ret]:=λds=>by
  have H:(R1 cf B0 (c::cs) ds).OK:=⟨BO B0,E0,rfl⟩
  have k1:Nat.ble lo O.length=true:=Ah AP;have k2:Nat.ble lo (O.length+1)=true:=Ah (by omega);clear hp Nj h0 H0 Iz;rw[ad.aw r] at Y0 YZ YY;simp only[cN];show bE _ _ [.code (.seq _ (.seq _ _))] _ _;repeat first|with_reducible refine nH ?_|with_reducible refine iI ?_|with_reducible refine eQ ?_|with_reducible refine cT ?_|((with_reducible apply iG);(·rfl))|((with_reducible apply nG H);(·(intro _ _;(repeat (apply BL;(·(intro _;simp only[*,go_sem,Nat.reduceAdd,reduceIte,FL,FO];rfl))));rfl));(·(simp only[go_sem];rfl)))|((with_reducible apply iH H);(·kernel_rfl);(·(intro _ _;(repeat (apply BL;(·(intro _;simp only[*,go_sem,Nat.reduceAdd,reduceIte,FL,FO];rfl))));rfl));(·(simp only[go_sem];rfl)))|((with_reducible apply Ha);(·(simp only[go_sem];rfl));(·first|rfl|assumption))|((with_reducible apply Hb);(·(simp only[go_sem];rfl));(·first|rfl|assumption))
  exact bE.refl
 obtain⟨w1,Z1,J1,BR,FG,A1,F1,p1,S1⟩:=h0 w Ψ J ow _ Iz;have A1:At Tryz.prog ans 8 B0 w1 Z1 J1 BR ⟨Gx nm xs O.length .dead (.val (.bool false)) .dead,⟨O++[zV,zE],lo⟩⟩ FG:=A1;have BD:FG.size=33:=A1.rel.size.trans nt;obtain⟨b4,r4,_⟩:=A1.rel.objs.2 O.length zV (by simp);obtain⟨b5,r5,_⟩:=A1.rel.objs.2 (O.length+1) zE (by simp[Cg])
 have v4:FG.getD 4 undef=.pointer (some ⟨b4,0,none⟩):=by
  have:=A1.rel.dr 4
  rw[Jf] at this;generalize FG.getD 4 undef=u at this;cases this with
  |val _ _ h=>cases h with
   |loc _ _ b' h=>rw[r4] at h;cases h;rfl
 have a7u:FG.getD 5 undef=.pointer (some ⟨b5,0,none⟩):=by
  have:=A1.rel.dr 5
  rw[Jf] at this;generalize FG.getD 5 undef=u at this;cases this with
  |val _ _ h=>cases h with
   |loc _ _ b' h=>rw[r5] at h;cases h;rfl
 obtain⟨e3,a3,w3,⟨rfl,rfl,ht,hd⟩,S3⟩:=aTj FG BD w1 (FN 8) [.code (.seq l8 q8)] (c::cs);rw[v4,a7u] at ht hd;have A3:=kO A1 15 (.func (.func 25) #[] #[.pointer (some ⟨b4,0,none⟩),.pointer (some ⟨b5,0,none⟩)]) (by rw[nt];omega) (by rw[Jf];rfl);obtain⟨w4,Z4,J4,Xm,L9,A4,F4,p4,S4⟩:=aW7 (BO B0) hg hx hp (ds:=[OD b4 b5]) (b:=FN 8) (cs:=c::cs) (items:=[.code q8]) A3;obtain⟨w5,a5h,J5,Xl,XO,A5,a4f,p5,a4G⟩:=h2 [OD b4 b5] w4 Z4 J4 Xm _ A4
 have HJ:finish Tryz.prog (ans 8) Tryz.f8 O.length ⟨Gx nm xs O.length (.box (cN r)) (.val (.bool false)) (.val (.bool false)),⟨O++[.box (cN r),zE],lo⟩⟩=some (.ret (.aj [r.enc,.int .i64 0]),⟨O,lo⟩):=by
  have o1:∀A B,(O++[A,B])[O.length]?=some A:=λA B=>by simp
  have o2:∀A B,(O++[A,B])[O.length+1]?=some B:=λA B=>by simp[Cg]
  have o3:∀A B,(O++[A,B]).take O.length=O:=λA B=>by simp
  have hr:Tryz.f8.results.toList=[.cell 4 30,.cell 5 31]:=by rw[Tryz.results8]
  have hlk:ct O.length r.enc=true:=by rw[ad.aw];rfl
  have G7:ct O.length (.int .i64 0)=true:=rfl;rw[ad.aw r] at hlk ⊢;simp only[finish,hr,fG,cF,trim,cN,go_sem,Nat.reduceAdd,reduceIte,o1,o2,Dq,Dk,Bg,Ar,Fh,List.all_nil,hlk,G7,o3]
 obtain⟨a68,v,a4h,ow6,q1,q2,q3,q4,q5,q6,MT,q7,q8',q9,MU⟩:=nV A5 (by simp) HJ;cases q1;have JM:=BM.objs.1;refine⟨w5,a5h,a4h,ow6,(((F1.trans F4).trans a4f)).trans q6,iD (dF (dF p1 p4) p5) JM.symm MU,A5.rel.b_,q5,λb hb=>A5.rel.lt b (MT b hb),⟨rfl,Ae _,λ_ _=>rfl⟩,q2,v,q4,?_⟩
 have hL:Leaves Tryz.prog Tryz.f8 XO (λe w1=>e=.returned v/\w1=w5) [OD b4 b5] .returning w5:=by
  refine leaves_cons (f:=25) (args:=#[.pointer (some ⟨b4,0,none⟩),.pointer (some ⟨b5,0,none⟩)]) (by simp) (by simp[OD,go_sem]) ?_;refine(a6j (.pointer (some ⟨b4,0,none⟩)) (.pointer (some ⟨b5,0,none⟩)) w5).mono ?_
  rintro e u' w1 ⟨rfl,hs,rfl⟩
  show Leaves _ _ _ _ [] (settle u') _;rw[hs];exact⟨v,q3,rfl,rfl⟩
 obtain⟨e5,a8G,MM,⟨rfl,rfl⟩,UD,_,hl⟩:=leaves_steps [OD b4 b5] .returning w5 { (FN 8).atR ⟨XO,[OD b4 b5]⟩ [.code .ret] with mode:=.returning } (c::cs) rfl rfl rfl Tryz.func8 rfl hL;have SL:=Steps.trans UD (.one (step_leave_returned hl));obtain⟨t3,d3⟩:=a3;simp only at ht hd;subst ht hd
 have sv:Frame.enter Tryz.prog 8 vs .normal=(FN 8).atR ⟨vs++Array.replicate ((ans 8).nt-vs.size) undef,[]⟩ [.code ((Tryz.f8.body).getD .skip)]:=by
  exact a04 Tryz.func8 rfl rfl
 rw[sv];exact S1.trans (S3.trans ((Steps.one stepR_seq).trans (S4.trans (a4G.trans ((Steps.one (stepR_ret rfl)).trans SL)))))
end
end Go.Proofs.YtoiocfngjchdiaaGreatDoor
