import Derived.Test.YtoiocfngjchdiaaGreatDoorT10
import Derived.Deep.Strs
import Derived.Lib.LaidTab
import Derived.Shelf.Vars
import Derived.OpenShut
import Derived.Test.YtoiocfngjchdiaaGreatDoorCards
import Derived.SevenTiedAt
import Derived.LaidOnce
import Derived.ProofKit
import Derived.Deep.DeepWitnessRowRef
import Derived.Lib.LaidIn
set_option linter.all false
set_option maxRecDepth 1000000
set_option maxHeartbeats 4000000
noncomputable section
namespace Go.CM
open Go.AM Go.Proofs.YtoiocfngjchdiaaGreatDoor
variable {P:Program}{w0:Base}{w:World}{Ψ:HT}
def leaves:GT->List (Nat×Nat×V)
 |.leaf l n v=>[(l,n,v)]
 |.nd _ a b=>leaves a++leaves b
 |_=>[]
def zH:GT->Bool
 |.leaf _ _ _=>true
 |.nd _ a b=>zH a&&zH b
 |_=>false
theorem ib{g:GT}{l n:Nat}{k:V->Res}{r:V}(h:zH g=true)(e:IF g l n k=.ok r):∃v,(l,n,v)∈leaves g/\k v=.ok r:=by
 induction g with
 |any v=>cases h
 |ar q m v=>cases h
 |leaf l' n' v =>
  have e:gd (Nat.beq l' l&&Nat.beq n' n) 131 (k v)=.ok r:=e;obtain⟨hg,e⟩:=bP e;rw[Ac] at hg;exact⟨v,by rw[Aa hg.1,Aa hg.2];simp[leaves],e⟩
 |nd p a b Hv Hu =>
  simp only[zH,Ac] at h;have e:(match Nat.ble n p with|true=>IF a l n k|false=>IF b l n k)=.ok r:=e
  split at e
  ·obtain⟨v,h1,h2⟩:=Hv h.1 e
   exact⟨v,by simp[leaves,h1],h2⟩
  ·obtain⟨v,h1,h2⟩:=Hu h.2 e
   exact⟨v,by simp[leaves,h1],h2⟩
def Si(v:V)(m:Int):Bool :=
 match v with
 |.int k n=>(match k with
  |.i64=>n==m
  |_=>false)
 |_=>false
theorem aL8{v:V}{m:Int}(h:Si v m=true):v=.int .i64 m:=by
 unfold Si at h
 split at h
 ·split at h
  ·have h:=eq_of_beq h
   rw[h]
  ·cases h
 ·cases h
def aC4(p:List UInt8×Int)(q:Nat×Nat×V):Bool:=Nat.beq q.1 p.1.length&&Nat.beq q.2.1 (packL p.1)&&Si q.2.2 p.2
theorem aCT:(zH Lw&&(leaves Lw).all λq=>kdTab.any λp=>aC4 p q)=true:=by kernel_rfl
theorem iz{l n:Nat}{v:V}(h:(l,n,v)∈leaves Lw):∃p∈kdTab,l=p.1.length/\n=packL p.1/\v=.int .i64 p.2:=by
 have h0:=aCT;rw[Ac] at h0;have h1:=As.1 h0.2 _ h;obtain⟨p,hp,h2⟩:=List.any_eq_true.1 h1;simp only[aC4,Ac] at h2;exact⟨p,hp,Aa h2.1.1,Aa h2.1.2,aL8 h2.2⟩
theorem aAe:kdTab.all (λp=>Nat.ble 1 p.1.length)=true:=by kernel_rfl
theorem mo{w w':World}(hw:WSat Ψ w)(h:Grw w w'):WSat Ψ w':=gJ hw ⟨h.os,h.tape,h.output,h.size,h.old⟩
theorem aCF{w w':World}{Ψ Z':HT}(h:AM.Fr w Ψ (λ_=>none) w' Z' (λ_=>none)):Grw w w':=⟨h.size,λb hb=>(h.keep b hb rfl).1,h.os,h.tape,h.output⟩
theorem argRel{J:Rho}{q:Q}{b B n cap:Nat}(hb:J q=some (b,B))(hc:n<=cap):VR J (.agg [.rr (.sl q 0 n)]) (.agg ⟨[.slice (some ⟨b,B+0,none⟩) n cap]⟩):=by
 refine .agg _ _ rfl (λc hc=>?_) λi c u hc hu=>?_
 ·simp only[Au,Cz,Eh] at hc
  subst hc;rfl
 ·match i with
  |0=>cases hc;cases hu;exact .rsl _ _ _ _ _ _ hb (by assumption)
  |i+1=>simp at hc
theorem aYG:isMk (compF Go.Proofs.Tryz.prog 30)=true:=by kernel_rfl
theorem body30_ok:∃rs,compF Go.Proofs.Tryz.prog 30=.mk np rs:=by
 have h1:=aYG;unfold np;generalize compF Go.Proofs.Tryz.prog 30=c at *;cases c with
 |mk b rs=>exact⟨rs,rfl⟩
 |_=>cases h1
theorem givKd(hs:WSat Ψ w0.toWorld):yQ Go.Proofs.Tryz.prog w0 192 Lw:=by
 refine⟨⟨_,Go.Proofs.Tryz.func192,by kernel_rfl,by kernel_rfl⟩,λw J vs us k r _ hg _ hv e=>?_⟩;have hna:zH Lw=true:=by have:=aCT;rw[Ac] at this;exact this.1
 have zero:∀{r:V}{k:V->Res},IF Lw 0 0 k=.ok r->False:=λe=>by
  obtain⟨v,h1,_⟩:=ib hna e;obtain⟨p,hp,h2,_⟩:=iz h1
  have:=Ad (As.1 aAe p hp)
  omega
 unfold zy at e
 split at e
 ·exact(zero e).elim
 ·rename_i x
  obtain⟨u,us,rfl,r1,r2⟩:=hv.inv_cons;obtain rfl:=r2.inv_nil
  split at e
  ·rename_i l n
   obtain⟨v,h1,h2⟩:=ib hna e;obtain⟨p,hp,rfl,rfl,rfl⟩:=iz h1;obtain⟨s,rfl,q1,q2⟩:=r1.inv_str;obtain rfl:=packL_inj q1 q2;refine⟨_,_,h2,.int _ _,λc cs=>?_⟩
   obtain⟨w',Z',v,f1,f2,f3,f4⟩:=(Yf hp).2 w Ψ ⟨[.string ⟨⟨p.1⟩⟩]⟩ (mo hs hg) rfl (λi a ha=>by
    match i with
    |0=>cases ha;exact .str _
    |i+1=>simp at ha) c cs
   cases f3;exact⟨w',aCF f1,f4⟩
  ·rename_i l
   unfold QC at e
   split at e
   ·unfold Uu at e
    split at e
    ·split at e
     ·rename_i heq;cases heq
     ·cases e
    ·cases e
   ·cases e
  ·exact(zero e).elim
 ·cases e
theorem givChk(hs:WSat Ψ w0.toWorld){D:List AVal}{b B cap:Nat}(hq:w0.rho (qn 22)=some (b,B))(hu:VRel Ψ [] (.slice D) (.slice (some ⟨b,B,none⟩) 55 cap))(Jd:PureOK Go.Proofs.Tryz.prog 23 [.agg [.slice D]] (.int .i64 0)):yQ Go.Proofs.Tryz.prog w0 23 (.ar (qn 22) 55 (.int .i64 0)):=by
 refine⟨⟨_,Go.Proofs.Tryz.func23,by kernel_rfl,by kernel_rfl⟩,λw J vs us k r _ hg hle hv e=>?_⟩;unfold zy at e
 split at e
 ·cases e
 ·rename_i x
  obtain⟨u,us,rfl,r1,r2⟩:=hv.inv_cons;obtain rfl:=r2.inv_nil
  split at e
  ·cases e
  ·unfold QC at e
   split at e
   ·rename_i y
    unfold Uu at e
    split at e
    ·rename_i o off len
     obtain⟨hb,e⟩:=bP e;simp only[Ac] at hb;obtain⟨⟨b1,b2⟩,b3⟩:=hb;obtain rfl:=Q.beq_iff.1 b1;obtain rfl:=Aa b2;obtain rfl:=Aa b3;obtain⟨us,rfl,s1,_⟩:=r1.inv_agg;obtain⟨u0,us,rfl,t1,t2⟩:=s1.inv_cons;obtain rfl:=t2.inv_nil;cases t1 with
     |rsl _ _ _ b' B' LA BB CW =>
     rw[hle _ _ hq] at BB;simp only[Al,Bz] at BB;obtain⟨rfl,rfl⟩:=BB;refine⟨_,_,e,.int _ _,λc cs=>?_⟩
     have HO:VRel Ψ [] (.agg [.slice D]) (.agg ⟨[.slice (some ⟨b,B+0,none⟩) 55 LA]⟩):=by
      cases hu with
      |slice _ _ _ _ s h1 h2 h3 =>
      refine .agg _ _ rfl (λi c hc=>?_) λi c v hc hv=>?_
      ·match i with
       |0=>cases hc;rfl
       |i+1=>simp at hc
      ·match i with
       |0=>cases hc;cases hv;exact .slice _ _ _ _ s h1 CW h3
       |i+1=>simp at hc
     obtain⟨w',Z',v,f1,f2,f3,f4⟩:=Jd.2 w Ψ ⟨[.agg ⟨[.slice (some ⟨b,B+0,none⟩) 55 LA]⟩]⟩ (mo hs hg) rfl (λi a ha=>by
      match i with
      |0=>cases ha;exact HO
      |i+1=>simp at ha) c cs
     cases f3;exact⟨w',aCF f1,f4⟩
    ·cases e
   ·cases e
  ·cases e
 ·cases e
end Go.CM
end
noncomputable section
namespace Go.Proofs.YtoiocfngjchdiaaGreatDoor
open Go.AM Go.RowKit
theorem aR5(e:ExD):Mu (SK (lib++[cU [111] kH])) (.slice ((lib++[cU oS e]).map DeD.enc))=true:=by kernel_rfl
theorem aNj(e:ExD)(Jd:PureOK Tryz.prog 23 [.agg [.slice ((lib++[cU oS e]).map DeD.enc)]] (.int .i64 0)):PureOK Tryz.prog 30 [.agg [.slice ((lib++[cU oS e]).map DeD.enc)],.slice []] (.int .i64 0):=by
 refine⟨⟨_,Tryz.func30,by kernel_rfl⟩,λw Ψ vs hw hl ha c cs=>?_⟩;obtain⟨vs⟩:=vs
 match vs,hl with
 |[v1,v2],_ =>
 have h1:VRel Ψ [] _ v1:=ha 0 _ rfl;have h2:VRel Ψ [] _ v2:=ha 1 _ rfl;cases h1 with
 |agg _ us Iz _ hx =>
 match us,Iz with
 |[u],_ =>
 have hu:VRel Ψ [] _ u:=hx 0 _ _ rfl rfl;have H0:=CM.gHR (P:=Tryz.prog) w (by rw[CM.globals26];exact hw.size8);rw[CM.globals26] at H0;obtain⟨v,J,h,nx,nat,k1,H1,Qq,r1,c1⟩:=CM.ldC_ok hw rfl _ (aR5 e) hu H0 CM.ci_run
 have hv:CM.isS v=true:=by
  have:=CM.ci_v
  rw[nat] at this;simpa using this
 obtain rfl:=CM.isS_ok hv;cases r1 with
 |rsl _ _ _ b B cap hb hc =>
 let w0:CM.Base:=⟨w,J⟩
 have H2:CM.HR Tryz.prog w0 J h nx w:=⟨H1.size,H1.old,H1.os,H1.tape,H1.output,H1.glob,H1.fresh,H1.lt,H1.obj,H1.sep,H1.dead,CM.Rho.le_refl _⟩
 have CT:CM.FeOK Tryz.prog w0 CM.feC:=CM.mkG_ok _ _ _ _ (λp hp=>by
  simp only[CM.giL,Au,Cz,Eh] at hp;rcases hp with rfl|rfl
  ·exact CM.givKd hw
  ·exact CM.givChk hw hb hu Jd) (λp hp=>by
  simp only[CM.gorE,Au,Cz,Eh] at hp;rcases hp with rfl|rfl|rfl
  ·exact od aMv aHj w0
  ·exact od aMw aHk w0
  ·exact od aMx aHl w0)
 obtain⟨rs,Jw⟩:=CM.body30_ok
 have Hy:CM.VR J (.rr .e) v2:=by
  cases h2 with
  |slice _ a len cap s h1 _ _ =>
  obtain rfl:len=0:=by simpa using h1.symm
  exact .re _ _
 have CQ:CM.VRs J [.agg [.rr (.sl (CM.qn 22) 0 55)],.rr .e] [.agg ⟨[.slice (some ⟨b,B+0,none⟩) 55 cap]⟩,v2]:=by
  exact .cons (CM.argRel hb hc) (.cons Hy .nil)
 obtain⟨w',J',h',nx',u',x,q1,q2,q3,q4⟩:=CM.run_callH (w0:=w0) CM.follows26 CT (CM.ext_ok CM.ext26) Jw H2 CQ k1 c cs;rw[CM.fin_int q4] at q3;rw[q3.inv_int] at q1;have hb:=lW q2;exact⟨w',Ψ,.int .i64 0,pG hb,gJ hw hb,.int _ _,q1⟩
end Go.Proofs.YtoiocfngjchdiaaGreatDoor
end
namespace Go.Proofs.YtoiocfngjchdiaaGreatDoor
section
open Go.AM Go.RowKit
theorem names(f:Nat)(F:Func)(h:Tryz.prog.funcs[f]?=some F)(_:F.body.isSome=true):F.name≠ "runtime.NumGoroutine":=by
 have B7:Tryz.prog.funcs.all (λF=>!(F.name== "runtime.NumGoroutine"))=true:=by kernel_rfl
 have:=Array.all_eq_true_iff_forall_mem.1 B7 F (Gn h)
 intro e;rw[e] at this;simp at this
theorem aSw{B0:Nat}{pr:fY}(h:∀f args res,pr f args=some (some res)->(∃F,Tryz.prog.funcs[f]?=some F/\F.body.isSome=true)/\∀sto w Ψ J ow vs,dR ans B0 w Ψ J ow args vs sto->∀c cs,dS Tryz.prog ans B0 w Ψ J ow sto c cs (lone (Frame.enter Tryz.prog f vs .normal) (c::cs) w) res sto):Env Tryz.prog ans B0 pr :=
 ⟨h,names,λ_ hc=>uh (by kernel_rfl) hc⟩
theorem mc{s:List UInt8}{t:TyD}(h:sT s=some t):(s,t)∈tyTab:=by
 simp only[sT,Ap] at h;obtain⟨p,h1,h2⟩:=h;have h3:=List.find?_some h1;have h4:=Fw h1;obtain⟨a,b⟩:=p;simp only[Bx] at h3;subst h3 h2;exact h4
theorem Yd(A:Aps)(B0:Nat)(hap:∀args res,A.ap args=some (some res)->False)(Ih:A.pg=.agg [.slice (lib.map DeD.enc)])
  (Iw:∀args res,A.rn args=some (some res)->∀sto w Ψ J ow vs,dR ans B0 w Ψ J ow args vs sto->∀c cs,dS Tryz.prog ans B0 w Ψ J ow sto c cs (lone (Frame.enter Tryz.prog 9 vs .normal) (c::cs) w) res sto):Env Tryz.prog ans B0 (@kD A):=aSw λf args res h=>by
 unfold kD at h;cases h8:Nat.beq f 8 with
 |true=>rw[h8] at h;exact(hap _ _ h).elim
 |false =>
 rw[h8,Be] at h;cases h9:Nat.beq f 9 with
 |true =>
  rw[h9] at h;obtain rfl:=Aa h9;exact⟨⟨_,Tryz.func9,by kernel_rfl⟩,Iw args res h⟩
 |false =>
 rw[h9,Be] at h;cases h6:Nat.beq f 6 with
 |true =>
  rw[h6] at h;obtain rfl:=Aa h6;simp only[Bl] at h
  split at h
  ·cases h
   exact pure6.prim (λa ha=>by simp at ha)
  ·cases h
 |false =>
 rw[h6,Be] at h;cases RU:Nat.beq f 20 with
 |true =>
  rw[RU] at h;obtain rfl:=Aa RU;simp only[Bl] at h
  split at h
  ·cases h
   rw[Ih];exact pureProg.prim (λa ha=>by rw[Cy.1 ha];rfl)
  ·cases h
 |false =>
 rw[RU,Be] at h;cases Tz:Nat.beq f 37 with
 |true =>
  rw[Tz] at h;obtain rfl:=Aa Tz;simp only[Bl] at h
  split at h
  ·rename_i s
   simp only[Al,Ap] at h;obtain⟨t,ht,rfl⟩:=h;exact(p37 (mc ht)).prim (λa ha=>by rw[Cy.1 ha];rfl)
  ·cases h
 |false =>
 rw[Tz,Be] at h;cases Ty:Nat.beq f 46 with
 |true =>
  rw[Ty] at h;obtain rfl:=Aa Ty;simp only[Bl] at h
  split at h
  ·rename_i s
   simp only[Al,Ap] at h;obtain⟨t,ht,rfl⟩:=h;exact(p46 (mc ht)).prim (λa ha=>by rw[Cy.1 ha];rfl)
  ·cases h
 |false =>
 rw[Ty,Be] at h;cases Md:Nat.beq f 192 with
 |true =>
  rw[Md] at h;obtain rfl:=Aa Md;simp only[Bl] at h
  split at h
  ·rename_i s
   simp only[Al,Ap] at h;obtain⟨k,hk,rfl⟩:=h;exact(Yf (aCU hk)).prim (λa ha=>by rw[Cy.1 ha];rfl)
  ·cases h
 |false=>rw[Md] at h;cases h
@[reducible] def A0:Aps:=⟨λ_=>some none,λ_=>some none,.agg [.slice (lib.map DeD.enc)]⟩
theorem Ye(B0:Nat):Env Tryz.prog ans B0 (@kD A0):=Yd A0 B0 (λargs res h=>by cases h) rfl λargs res h=>by cases h
theorem aHc{f:FuncId}{args:List AVal}{res:AVal}(h:PureOK Tryz.prog f args res)(hl:∀a∈args,lok 0 a=true)(sto:AH):Row Tryz.prog ans f (args.map .val) sto (.ret (.val res)) sto:=by
 obtain⟨F,h1,h2⟩:=h.1;exact⟨⟨F,h1,h2,names f F h1 h2⟩,λB0=>(h.prim (B0:=B0) hl).2 sto⟩
theorem aNq{nm:List UInt8}{vs:List VaD}{v:VaD}{n:Nat}(h:lR nm vs)(FX:Ev (jL nm vs) topN (toIt v) n)(hn:n<=200000)(hv:v.okI=true)(hc:v.cnt<=4000)(O:List AObj)(lo:Nat)(AP:lo<=O.length) :
  Row Tryz.prog ans 9 (Pz nm vs) ⟨O,lo⟩ (N4 v n) ⟨O,lo⟩:=by
 have Jd:PureOK Tryz.prog 23 [.agg [.slice ((qz nm vs).map DeD.enc)]] (.int .i64 0):=PureOK.ofRun Ye (@Zf A0 nm vs h ⟨[],0⟩ (Af _))
 exact @aZc A0 Ye lib aAi oS (jL nm vs) v n hn FX hv hc (by rw[Bm,tV];simp) (λsto _=>aHc (aNj _ Jd) (λa ha=>by
  simp only[Au,Cz,Eh] at ha;rcases ha with rfl|rfl<;>rfl) sto) O lo AP
def ei(args:List Slot)(n:Nat)(v:VaD):Prop:=∃nm vs,args=Pz nm vs/\lR nm vs/\Ev (jL nm vs) topN (toIt v) n/\n<=200000/\v.okI=true/\v.cnt<=4000
theorem least{p:Nat->Prop}:∀n,p n->∃m,p m/\∀k,p k->m<=k:=λn=>by
 induction n using Nat.strongRecOn with
 |ind n ih =>
  intro h;by_cases hx:∃k,k<n/\p k
  ·obtain⟨k,hk,hp⟩:=hx
   exact ih k hk hp
  ·exact⟨n,h,λk hk=>Nat.le_of_not_lt λAL=>hx ⟨k,AL,hk⟩⟩
def Vz(args:List Slot)(p:Nat×VaD):Prop:=ei args p.1 p.2/\∀k v,ei args k v->p.1<=k
theorem aXe{args:List Slot}{n:Nat}{v:VaD}(h:ei args n v):∃p,Vz args p:=by
 obtain⟨m,⟨w,h1⟩,h2⟩:=least (p:=λn=>∃v,ei args n v) n ⟨v,h⟩;exact⟨(m,w),h1,λk v hk=>h2 k ⟨v,hk⟩⟩
open Classical in
@[reducible] noncomputable def A1:Aps:=⟨λ_=>some none,λargs=>if h:∃p,Vz args p then some (some (N4 h.choose.2 h.choose.1)) else some none,.agg [.slice (lib.map DeD.enc)]⟩
theorem aN3{args:List Slot}{n:Nat}{v:VaD}(h:ei args n v):∃m w,m<=n/\A1.rn args=some (some (N4 w m)):=by
 have hx:=aXe h;exact⟨hx.choose.1,hx.choose.2,hx.choose_spec.2 _ _ h,dif_pos hx⟩
theorem aYx(B0:Nat):Env Tryz.prog ans B0 (@kD A1):=Yd A1 B0 (λargs res h=>by cases h) rfl λargs res h=>by
 by_cases hx:∃p,Vz args p
 ·have e:A1.rn args=some (some (N4 hx.choose.2 hx.choose.1)):=dif_pos hx
  rw[e] at h;cases h;obtain⟨nm,vs,h1,h2,h3,h4,h5,h6⟩:=hx.choose_spec.1;intro sto w Ψ J ow ws hp;have Ii:=hp;rw[h1] at Ii;exact(aNq h2 h3 h4 h5 h6 sto.objs sto.lo hp.lo).2 B0 w Ψ J ow ws Ii
 ·have:A1.rn args=some none:=dif_neg hx
  rw[this] at h;cases h
theorem rq(A B:List Int)(K:Int)(hA:A.length<AV)(hB:B.length<AV)(sto:AH)(AP:sto.lo<=sto.objs.length) :
  @CF A1 (.fn 4) [.val (.slice (A.map kT)),.val (.slice (B.map kT)),.val (.int .i64 K)] sto=some (.ret (.val (.bool true)),sto) :=
 @c4 A1 A B K hA hB sto AP λnm vs m h S hS=>by
  obtain⟨v,n,h1,h2,h3,h4⟩:=aHq h;have h5:=aHp h;obtain⟨k,w,h6,h7⟩:=aN3 (args:=Pz nm vs) (n:=n) (v:=v) ⟨nm,vs,rfl,@StepR.call A1 _ _ _ h,h1,by omega,h3,h4⟩;exact @aTh A1 rfl nm vs m (@StepR.call A1 _ _ _ h) w k (by omega) h7 S hS
end
section
open Go.Proofs.YtoiocfngjchdiaaGreatDoor Go.AM
inductive CAbs (W:World):AVal->Value->Prop
 |int (k:IntKind) (n:Int):CAbs W (.int k n) (.int k n)
 |str (s:ByteArray):CAbs W (.str s.data.toList) (.string s)
 |nil:CAbs W (.slice []) (.slice none 0 0)
 |opq (v:Value) (h:v=.nilIface\/∃t x,v=.iface t x):CAbs W .opq v
 |slice (xs:List AVal) (b o len cap s:Nat) (sp:Option Nat) (vs:Nat->Nat->Value) (hl:xs.length=len) (hc:len<=cap) (hp:xs≠[]->sp=none) (hs:∀(i:Nat)(x:AVal),xs[i]?=some x->x.cells.length=s)
   (hf:∀(i:Nat)(x:AVal)(j:Nat)(c:AVal),xs[i]?=some x->x.cells[j]?=some c->flat c=true/\W.cell? ⟨b,o+i*s+j,none⟩=some (vs i j))
   (hx:∀(i:Nat)(x:AVal)(j:Nat)(c:AVal),xs[i]?=some x->x.cells[j]?=some c->CAbs W c (vs i j)):CAbs W (.slice xs) (.slice (some ⟨b,o,sp⟩) len cap)
def Ry(W:World):HT:=λb o c=>flat c=true/\∃v,W.cell? ⟨b,o,none⟩=some v/\CAbs W c v
theorem CAbs.rel{W:World}{J:List Nat}{c:AVal}{v:Value}(h:CAbs W c v):VRel (Ry W) J c v:=by
 induction h with
 |int k n=>exact .int k n
 |str s =>
  have:s=⟨⟨s.data.toList⟩⟩:=by cases s;simp
  rw[this];exact .str _
 |nil=>exact .slice [] none 0 0 0 rfl (Af _) (λi x e=>by simp at e)
 |opq v h=>exact .opq v h
 |slice xs b o len cap s sp vs hl hc hp hs hf hx ih =>
  refine .slice xs _ len cap s hl hc λi x e=>⟨hs i x e,b,o,?_,λj c hj=>⟨(hf i x j c e hj).1,_,(hf i x j c e hj).2,hx i x j c e hj⟩⟩
  rw[hp (λh=>by rw[h] at e;simp at e)]
structure Rd (W:World) (xs:List AVal) (vs:List Value):Prop where
 len:xs.length=vs.length
 abs:∀(j:Nat)(c:AVal)(v:Value),xs[j]?=some c->vs[j]?=some v->flat c=true/\CAbs W c v
theorem Rd.one{W:World}{c:AVal}{v:Value}(hf:flat c=true)(h:CAbs W c v):Rd W [c] [v]:=⟨rfl,λj x u hx hu=>by
 cases j with
 |zero=>simp at hx hu;subst hx;subst hu;exact⟨hf,h⟩
 |succ j=>simp at hx⟩
theorem Rd.append{W:World}{a b:List AVal}{u v:List Value}(h:Rd W a u)(k:Rd W b v):Rd W (a++b) (u++v):=⟨by simp[h.len,k.len],λj c x hc hx=>by
 rw[Ck] at hc hx;rw[h.len] at hc
 split at hc
 ·rename_i hj;rw[Bu hj] at hx;exact h.abs j c x hc hx
 ·rename_i hj;rw[Bc hj] at hx;exact k.abs _ c x hc hx⟩
section
variable {H:Type}{enc:TypeId×Value->H}{W:World}{sp:Nat->Bool}{hd:Bool}
noncomputable abbrev rd(enc:TypeId×Value->H)(W:World)(sp:Nat->Bool)(hd:Bool)(n:Nat)(t:TypeId)(cs:List Value):=DataW.trod enc Tryz.prog W 0 sp hd n t cs
theorem Zi{n t k}(ht:Tryz.prog.underlying t=some (.int k)){cs:List Value}{x}(h:rd enc W sp hd n t cs=some x):∃z:Int,cs=[.int k z]/\(Lit.int k z).wf=true/\Rd W [.int k z] cs/\1<=Rows.uptoBulk x.1:=by
 obtain⟨z,rfl,rfl,hw⟩:=DataW.trod_int ht h;exact⟨z,rfl,hw,.one rfl (.int _ _),by simp[Rows.uptoBulk]⟩
def I7{α:Type}(sz:α->Nat):List α->Nat
 |[]=>0
 |a::l=>sz a+1+I7 sz l
theorem xI{α:Type}(sz:α->Nat):∀a b:List α,I7 sz (a++b)=I7 sz a+I7 sz b
 |[],b=>by simp[I7]
 |x::a,b=>by simp only[De,I7,xI sz a b];omega
theorem lY{H:Type}:∀l r:List (DataW H),Rows.uptoBulkAll (l++r)=Rows.uptoBulkAll l+Rows.uptoBulkAll r
 |[],r=>by simp[Rows.uptoBulkAll]
 |x::l,r=>by simp only[De,Rows.uptoBulkAll,lY l r];omega
theorem aHa{α:Type}(en:α->AVal)(sz:α->Nat){n t e s:Nat}(ht:Tryz.prog.underlying t=some (.slice e))(hs:Tryz.prog.cellsOf e=s)(Gr:0<s)(Kj:∀a,(en a).cells.length=s){cs:List Value}{x}
  (ih:∀m,m<n->∀cs x,rd enc W sp hd m e cs=some x->∃a:α,Rd W (en a).cells cs/\sz a+1<=Rows.uptoBulk x.1)
  (h:rd enc W sp hd n t cs=some x):∃l:List α,Rd W [.slice (l.map en)] cs/\I7 sz l+1<=Rows.uptoBulk x.1:=by
 rcases DataW.trod_slice ht h with⟨rfl,rfl⟩|⟨a,len,cap,elems,rest,m,rfl,rfl,rfl,hb,Oa,Qy,J9,hE,_,_⟩
 ·exact⟨[],.one rfl .nil,by simp[I7,Rows.uptoBulk]⟩
 ·have build:∀k,k<=len->∃l:List α,l.length=k/\(∀(i:Nat)(a0:α),l[i]?=some a0->∃BT,W.cells? 0 (a.add (i*s)) s=some BT/\Rd W (en a0).cells BT)/\I7 sz l<=Rows.uptoBulkAll ((elems.take k).map (·.1)):=by
   intro k;induction k with
   |zero=>intro _;exact⟨[],rfl,λi a0 e=>by simp at e,by simp[I7]⟩
   |succ k ihk =>
    intro hk;obtain⟨l,l1,l2,l3⟩:=ihk (by omega);have h1:=hE k (by omega);have RD:k<elems.length:=by omega
    rw[Cg RD] at h1;obtain⟨BT,g1,g2⟩:=Cv.1 h1;obtain⟨a0,k1,k2⟩:=ih m (by omega) BT _ g2;refine⟨l++[a0],by simp[l1],λi b0 e=>?_,?_⟩
    ·rw[Ck] at e
     split at e
     ·exact l2 i b0 e
     ·rename_i hi
      have Oe:i=k:=by
       have:=(Ab.1 e).1
       simp at this;omega
      subst Oe;simp[l1] at e;subst e;exact⟨BT,by rw[<-hs];exact g1,k1⟩
    ·rw[List.take_add_one,Cg RD]
     simp only[Option.toList_some,Fs,Bb,Ax,lY,xI];simp only[I7,Rows.uptoBulkAll];omega
  obtain⟨l,l1,l2,l3⟩:=build len (Af _);rw[Bs (by omega)] at l3;refine⟨l,?_,by simp only[Rows.uptoBulk];omega⟩
  have CN:∀(i:Nat)(a0:α)(j:Nat)(c:AVal),l[i]?=some a0->(en a0).cells[j]?=some c->∃v,W.cell? (a.add (i*s+j))=some v/\flat c=true/\CAbs W c v:=λi a0 j c h1 h2=>by
   obtain⟨BT,g1,g2⟩:=l2 i a0 h1;obtain⟨_,g3,g4⟩:=World.cells?_some g1;have hj:j<s:=by rw[<-Kj a0];exact(Ab.1 h2).1
   have XV:j<BT.length:=by omega
   have h5:=g4 j hj;rw[Addr.add_add,Cg XV] at h5;have h6:=g2.abs j c _ h2 (Cg XV);exact⟨_,h5,h6.1,h6.2⟩
  obtain⟨b,o,W6⟩:=a
  have hspot:l.map en≠[]->W6=none:=λBD=>by
   cases l with
   |nil=>exact absurd rfl BD
   |cons a0 l =>
    have h0:0<(en a0).cells.length:=by rw[Kj];exact Gr
    obtain⟨v,h1,_⟩:=CN 0 a0 0 _ rfl (Cg h0)
    have:=World.cell?_spot h1
    simpa[Addr.add] using this
  refine .one rfl (.slice (l.map en) b o len cap s W6 (λi j=>(W.cell? ⟨b,o+i*s+j,none⟩).getD undef) (by simp[l1]) Oa hspot (λi x e=>?_) (λi x j c e hj=>?_) (λi x j c e hj=>?_))
  all_goals
   rw[Av,Ap] at e;obtain⟨a0,e1,rfl⟩:=e
  ·exact Kj a0
  ·obtain⟨v,h1,h2,_⟩:=CN i a0 j c e1 hj
   have G0:=hspot (λh=>by have:=List.map_eq_nil_iff.1 h;subst this;simp at e1);subst G0;rw[Go.WideShapes.add_plain,<-Dc] at h1;exact⟨h2,by rw[h1];rfl⟩
  ·obtain⟨v,h1,_,h3⟩:=CN i a0 j c e1 hj
   have G0:=hspot (λh=>by have:=List.map_eq_nil_iff.1 h;subst this;simp at e1);subst G0;rw[Go.WideShapes.add_plain,<-Dc] at h1;rw[h1];exact h3
theorem k3:Tryz.prog.cellsOf 3=1:=by kernel_rfl
theorem lx:∀l:List Int,I7 (λ_:Int=>0) l=l.length
 |[]=>rfl
 |t::l=>by simp only[I7,An,lx l];omega
theorem aDW(n:Nat)(cs:List Value)(x:DataW H×List MemPlace)(h:rd enc W sp hd n 43 cs=some x):∃l:List Int,Rd W [.slice (l.map kT)] cs/\l.length+1<=Rows.uptoBulk x.1:=by
 obtain⟨l,r,b⟩:=aHa kT (λ_=>0) Tryz.underlying43 k3 (by omega) (λa=>rfl) (λm' _ cs x h=>by
  obtain⟨z,_,_,r1,b1⟩:=Zi Tryz.underlying3 h;exact⟨z,r1,by omega⟩) h
 rw[lx] at b;exact⟨l,r,b⟩
end
end
section
open Go.Proofs.YtoiocfngjchdiaaGreatDoor Go.AM Go.RowKit
theorem vl{P:Program}{W:World}:∀{l:List (String×DataW Unit)}{ps:List MemPlace},DataW.LaidVars P W l ps->∀(i:Nat)(n:String)(d:DataW Unit),l[i]?=some (n,d) ->
  ∃g t cs fuel p,P.globalNamed n=some g/\(P.globals[g]?).map (·.type)=some t/\W.var? P n=some cs/\DataW.trod (λ_=>()) P W 0 (λ_=>true) false fuel t cs.toList=some (d,p)
 |(m,e)::r,ps,h,i,n,d,hi=>by
  obtain⟨g,t,cs,fuel,p,q,h1,h2,h3,h4,h5,_⟩:=h;cases i with
  |zero=>simp at hi;obtain⟨rfl,rfl⟩:=hi;exact⟨g,t,cs,fuel,p,h1,h2,h3,h4⟩
  |succ i=>exact vl h5 i n d (by simpa using hi)
theorem gTab:Tryz.prog.globalNamed "math/bits.deBruijn64tab"=some 7:=by kernel_rfl
theorem size8{W:World}(hl:laidMet Tryz.prog Rows.preludeStepsRow.laid W):8<=W.heap.size:=by
 obtain⟨ps,h,_⟩:=hl;obtain⟨g,t,cs,fuel,p,h1,h2,h3,h4⟩:=vl h 1 "math/bits.deBruijn64tab" _ rfl;obtain rfl:=Bp (gTab.symm.trans h1);simp only[World.var?,h1,Aq] at h3
 split at h3
 ·rename_i hh
  have:=(Ai.1 hh).1
  omega
 ·cases h3
theorem wsat{W:World}(h:8<=W.heap.size):WSat (Ry W) W:=⟨h,λb o c ⟨h1,v,h2,h3⟩=>⟨h1,v,h2,h3.rel⟩⟩
theorem ez{W w':World}{Ψ Z':HT}{AQ:Own}(h:Fr W Ψ (λ_=>none) w' Z' AQ):Below W.heap.size W w':=⟨h.os,h.tape,h.output,h.size,λk hk=>(h.keep k hk rfl).1⟩
end
section
open Go.Proofs.YtoiocfngjchdiaaGreatDoor Go.AM Go.RowKit Go.Lib
theorem aYQ:ownKnob Tryz.prog.godebug=none:=by kernel_rfl
theorem laidOut:laidOutB Tryz.prog=true:=by kernel_rfl
def y7:Nat->DataW Unit->List Value
 |0,_=>[]
 |_+1,.lit (.int k z)=>[.int k z]
 |n+1,.agg l=>l.flatMap (y7 n)
 |_,_=>[]
noncomputable def N0:Nat:=(World.settled Tryz.prog default).heap.size
noncomputable def nA(os:Os):World :=
 let N:=(World.settled Tryz.prog os).heap.size
 let w0:=World.holding Tryz.prog os ⟨#[.cells #[.string ⟨#[118,97,108,117,101,32,111,117,116,32,111,102,32,114,97,110,103,101]⟩] 389,.cells #[.string ⟨#[105,110,118,97,108,105,100,32,115,121,110,116,97,120]⟩] 389],#[],[]⟩
 let put (h:Array Obj) (g:Nat) (cs:Array Value):Array Obj:=h.modify g fun
  |.cells _ t frozen=>.cells cs t frozen
  |o=>o
 let h1:=put w0.heap 1 #[.iface 387 (.pointer (some ⟨N+1,0,none⟩))]
 let h2:=put h1 2 #[.iface 387 (.pointer (some ⟨N,0,none⟩))]
 let h3:=put h2 3 (y7 3 Rows.laid_unicode_utf8_first).toArray
 let h4:=put h3 4 (y7 3 (Rows.laid_unicode_utf8_acceptRanges (H:=Unit))).toArray
 let h5:=put h4 5 (y7 3 (Rows.laid_internal_strconv_uint64pow10 (H:=Unit))).toArray
 let h6:=put h5 6 (y7 3 (Rows.laid_math_bits_deBruijn32tab (H:=Unit))).toArray
 let h7:=put h6 7 (y7 3 (Rows.laid_math_bits_deBruijn64tab (H:=Unit))).toArray
 { w0 with heap:=h7 }
theorem aC1(os:Os)(args:Array Value):laidMet Tryz.prog Rows.preludeStepsRow.laid ((nA os).forCall (λ_ _=>0) ⟨#[],args,[]⟩).memory :=
 (LaidIn.of_run [1,2,3,4,5,6,7,N0,N0+1] 8 (by kernel_rfl) (by kernel_rfl) (by kernel_rfl) (by kernel_rfl)).met
theorem aZX:Tryz.prog.laidByTextLater [("math/bits.deBruijn32tab",Rows.laid_math_bits_deBruijn32tab),("math/bits.deBruijn64tab",Rows.laid_math_bits_deBruijn64tab),("internal/strconv.uint64pow10",Rows.laid_internal_strconv_uint64pow10),("unicode/utf8.acceptRanges",Rows.laid_unicode_utf8_acceptRanges),("strconv.ErrRange",Rows.laid_strconv_ErrRange),("strconv.ErrSyntax",Rows.laid_strconv_ErrSyntax)] [.data,.data,.data,.data,.sentinel,.sentinel] true :=
 Program.laidByTextLater_by_one 72 8 65 (by kernel_rfl) (by kernel_rfl) (by kernel_rfl) (by kernel_rfl) (by kernel_rfl) (by kernel_rfl) (λ_ _=>by kernel_rfl)
theorem aZW:Tryz.pinned.checked.prog.pinnedFits "unicode/utf8.first"=true:=by kernel_rfl
theorem aZY:Tryz.pinned.checked.prog.headLifts.contains "ownunsafe"=false:=by kernel_rfl
theorem aZV:Tryz.pinned.checked.prog.listedFits [("math/bits.deBruijn32tab",Rows.laid_math_bits_deBruijn32tab),("math/bits.deBruijn64tab",Rows.laid_math_bits_deBruijn64tab),("internal/strconv.uint64pow10",Rows.laid_internal_strconv_uint64pow10),("unicode/utf8.acceptRanges",Rows.laid_unicode_utf8_acceptRanges),("strconv.ErrRange",Rows.laid_strconv_ErrRange),("strconv.ErrSyntax",Rows.laid_strconv_ErrSyntax),("unicode/utf8.first",Rows.laid_unicode_utf8_first)]=true:=by
 unfold Program.listedFits;rw[aZY]
 kernel_rfl
theorem aAR:Rows.preludeStepsUptoRow.laidByTextAt .later Tryz.pinned [.data,.data,.data,.data,.sentinel,.sentinel,.pinned] true :=
 OpenClaim.laidByTextAt_pinned rfl rfl aZX rfl rfl rfl rfl (λy hy _e=>by
  simp only[Rows.preludeStepsUptoRow,List.zip_cons_cons,List.zip_nil_right,Au,List.mem_nil_iff,Eh] at hy;rcases hy with rfl|rfl|rfl|rfl|rfl|rfl|rfl
  ·cases _e
  ·cases _e
  ·cases _e
  ·cases _e
  ·cases _e
  ·cases _e
  ·exact⟨aZW,by kernel_rfl⟩) aZV
end
section
open Go.Proofs.YtoiocfngjchdiaaGreatDoor Go.AM Go.RowKit Go.ChangeShapes Go.WideShapes Go.ChangeAt
theorem qt{H:Type}{enc:TypeId×Value->H}{P:Program}{f:Func}{s:ChangeSpec}{W W':World}{args:Array Value}{v:Value}{ds gs:List (DataW H)}{before pa pv:List MemPlace}
  (hW:DataW.Whole enc P f.params.toList s.vars false W args.toList ds gs before) (hb:Below W.heap.size W W')
  (B6:∀(b:Nat)(sp:Nat->Bool)(hd:Bool),DataW.TrodAll enc P W' b sp hd f.resultTypes.toList (v.resultList f.resultTypes.size) (s.fn H (ds++gs)).results [])
  (CQ:∀sp:Nat->Bool,(∀p∈before,sp p.block=true)->DataW.TrodAll enc P W' 0 sp true f.params.toList args.toList (s.fn H (ds++gs)).args pa)
  (OT:∀sp:Nat->Bool,(∀p∈before,sp p.block=true)->DataW.TrodVars enc P W' sp s.vars (s.fn H (ds++gs)).vars pv)
  (XO:before=pa++pv)
  (D3:∀(j:Nat)(t:TypeId)(r:Value),f.resultTypes[j]?=some t->(v.resultList f.resultTypes.size)[j]?=some r->Value.okWide P W' .any 0 t r) :
  s.post enc P f false true false false W args v W':=by
 have hold:∀p∈before,(λb=>decide (b<W.heap.size)) p.block=true:=λp hp=>by simpa using hW.lt p hp
 refine⟨ds,gs,before,[],pa,pv,hW,B6 _ _ _,CQ _ hold,OT _ hold,hb.frame _,λh=>?_⟩;cases h
theorem xU{W:World}{x:AVal}{v:Value}(h:Rd W [x] [v]):VRel (Ry W) [] x v:=(h.abs 0 x v rfl rfl).2.rel
set_option maxRecDepth 100000 in
theorem aB6(E:∀B0,Env Tryz.prog ans B0 (@kD A1))(H:Type)(enc:TypeId×Value->H)(W:World)(base:Nat)(args:Array Value)(ds gs:List (DataW H))(before:List MemPlace)
  (DM:∀(j:Nat) t v,Tryz.f4.params[j]?=some t->args[j]?=some v->Value.okWide Tryz.prog W .any base t v)
  (hW:DataW.Whole enc Tryz.prog Tryz.f4.params.toList Rows.preludeStepsSpec.vars false W args.toList ds gs before) (hk:Rows.uptoSmall H (ds++gs)=true) (hL:laidMetH Tryz.prog Rows.preludeStepsRow.laid W) (XN:W.ShapedOpen Tryz.prog) :
  Calls Tryz.prog 4 args W λe W'=>∃v,e=.returned v/\Rows.preludeStepsSpec.post enc Tryz.prog Tryz.f4 false true false false W args v W':=by
 have Tp:=hW;obtain⟨p,q,Kx,hV,rfl,I1,GL⟩:=hW;have hA:DataW.TrodAll enc Tryz.prog W 0 (λ_=>true) true Tryz.f4.params.toList args.toList ds p:=Kx;rw[Tryz.params4] at hA DM;obtain⟨v0,vs0,d0,ds0,p0,q0,CQ,rfl,rfl,h0,r0⟩:=trodAll_cons hA;obtain⟨v1,vs1,d1,Hk,p1,q1,rfl,rfl,rfl,h1,r1⟩:=trodAll_cons r0;obtain⟨v2,vs2,d2,E5,p2,q2,rfl,rfl,rfl,h2,r2⟩:=trodAll_cons r1;obtain⟨rfl,rfl,rfl⟩:=trodAll_nil r2;obtain rfl:args=#[v0,v1,v2]:=Array.toList_inj.1 CQ;obtain⟨rfl,rfl⟩:=trodVars_none hV;have Wz:=DM 0 43 v0 (by kernel_rfl) (by simp);have Wy:=DM 1 43 v1 (by kernel_rfl) (by simp);have Wx:=DM 2 3 v2 (by kernel_rfl) (by simp)
 have hc0:v0.cells=#[v0]:=by
  simp only[Value.okWide,Tryz.underlying43] at Wz;cases v0<;>first|rfl|(exfalso;simp[Cell.okWide,Cell.ok,Tryz.underlying43] at Wz)
 have KA:v1.cells=#[v1]:=by
  simp only[Value.okWide,Tryz.underlying43] at Wy;cases v1<;>first|rfl|(exfalso;simp[Cell.okWide,Cell.ok,Tryz.underlying43] at Wy)
 have CV:v2.cells=#[v2]:=by
  simp only[Value.okWide,Tryz.underlying3] at Wx;cases v2<;>first|rfl|(exfalso;simp[Cell.okWide,Cell.ok,Tryz.underlying3] at Wx)
 have h0k:=h0;have h1k:=h1;have h2k:=h2;obtain⟨f0,h0⟩:=h0;obtain⟨f1,h1⟩:=h1;obtain⟨f2,h2⟩:=h2;rw[hc0] at h0;rw[KA] at h1;rw[CV] at h2;obtain⟨A,MG,RL⟩:=aDW f0 _ _ h0;obtain⟨B,Kg,E8⟩:=aDW f1 _ _ h1;obtain⟨n,F8,_,Hy,Lh⟩:=Zi Tryz.underlying3 h2;clear Kx;simp only[Ao] at Tp hk;have hsm:Rows.uptoBulkAll [d0,d1,d2]<=1048576:=Ed hk;simp only[Rows.uptoBulkAll] at hsm;simp only at RL E8 Lh;have hc:=rq A B n (by simp only[AV];omega) (by simp only[AV];omega) ⟨[],0⟩ (Af _)
 have BL:dR ans W.heap.size W (Ry W) [] (λ_=>none) [.val (.slice (A.map kT)),.val (.slice (B.map kT)),.val (.int .i64 n)] #[v0,v1,v2] ⟨[],0⟩:=by
  refine⟨wsat (size8 hL),Af _,λb h=>absurd rfl h,rfl,λs hs=>?_,λi s hi=>?_,⟨rfl,λi o h=>by simp at h⟩,Af _⟩
  ·simp at hs;rcases hs with rfl|rfl|rfl<;>rfl
  ·match i,hi with
   |0,hi=>cases hi;exact .val _ _ (xU MG)
   |1,hi=>cases hi;exact .val _ _ (xU Kg)
   |2,hi=>cases hi;exact .val _ _ (xU Hy)
 refine(zi (E W.heap.size) rfl hc BL).mono λe W' h=>?_
 obtain⟨Z',J',AQ,DS,_,v,rfl,hs⟩:=h
 have hv:v=.bool true:=by
  cases hs with
  |val x v h=>cases h;rfl
 subst hv;have Kq:=ez DS;have AL:∀x∈p0++(p1++(p2++[])),x.block<W.heap.size:=λx hx=>Tp.lt x (by simpa using hx)
 refine⟨_,rfl,qt (pa:=p0++(p1++(p2++[]))) (pv:=[]) Tp Kq (λ_ _ _=>trodAll_cons_mk (shut_bool Tryz.underlying4 _) trodAll_mk0) (λsp G0=>?_) (λ_ _=>rfl) (by simp) (ok_one (by kernel_rfl) rfl (okWide_bool_mk Tryz.underlying4 _))⟩
 exact trodAll_cons_mk (WideElems.Trod_stays laidOut (by kernel_rfl) (Ed (by kernel_rfl)) h0k (λx hx=>Kq.same (AL x (by simp[hx]))) (λx hx=>G0 x (by simp[hx])))
  (trodAll_cons_mk (WideElems.Trod_stays laidOut (by kernel_rfl) (Ed (by kernel_rfl)) h1k (λx hx=>Kq.same (AL x (by simp[hx]))) (λx hx=>G0 x (by simp[hx])))
   (trodAll_cons_mk (WideElems.Trod_stays laidOut (by kernel_rfl) (Ed (by kernel_rfl)) h2k (λx hx=>Kq.same (AL x (by simp[hx]))) (λx hx=>G0 x (by simp[hx])))
    trodAll_mk0))
end
end Go.Proofs.YtoiocfngjchdiaaGreatDoor
