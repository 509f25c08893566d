import Derived.Test.YtoiocfngjchdiaaGreatDoorT10
import Derived.Test.YtoiocfngjchdiaaGreatDoorT19
import Derived.Test.YtoiocfngjchdiaaGreatDoorT21
import Derived.Deep.Strs
import Derived.Lib.LaidTab
import Derived.Shelf.Vars
import Derived.OpenShut
import Derived.Test.YtoiocfngjchdiaaGreatDoorCards
import Derived.SevenTiedAt
import Derived.LaidOnce
import Derived.ProofKit
import Derived.Deep.DeepWitnessRowRef
import Derived.Lib.LaidIn
set_option linter.all false
set_option maxRecDepth 100000
set_option maxHeartbeats 8000000
namespace Go.Proofs.YtoiocfngjchdiaaGreatDoor
section
open Go.AM Go.RowKit
abbrev TJ(a:ah):ah:=.mk [84,114,101,101] [a]
theorem wM[h_]:∀t:Tr,jB (TJ Od) t.val
 |.leaf=>.leaf Od
 |.node l x r=>.node Od _ _ _ (wM l) (.var _) (wM r)
theorem aG0:eC [76,101,97,102]=some 3:=by kernel_rfl
theorem aG1:eC [78,111,100,101]=some 3:=by kernel_rfl
theorem yQ:∀t:Tr,t.val.valid=true
 |.leaf=>by simp only[Tr.val,ad.valid,ad.qt,mD,aG0];rfl
 |.node l x r=>by
  have h1:=yQ l;have h2:=yQ r;simp only[Tr.val,ad.valid,ad.qt,bL,h1,h2,mD,aG1];rfl
theorem gb:∀t:Tr,t.val.size<=30*t.nodes+5
 |.leaf=>by simp[Tr.val,ad.size,ad.f_,Tr.nodes]
 |.node l x r=>by
  have h1:=gb l;have h2:=gb r;simp only[Tr.val,ad.size,ad.f_,bL,Tr.nodes,Ak,Ap];omega
theorem df:∀t:Tr,t.val.cu=3*t.nodes+1
 |.leaf=>rfl
 |.node l x r=>by
  have h1:=df l;have h2:=df r;simp only[Tr.val,ad.cu,ad.cA,bL,Tr.nodes,h1,h2];omega
theorem uk:∀t:Tr,t.val.km=true
 |.leaf=>rfl
 |.node l x r=>by
  have h1:=uk l;have h2:=uk r;simp only[Tr.val,ad.km,ad.sH,bL,h1,h2];rfl
theorem gz:∀t:Tr,jf t.val=MP t
 |.leaf=>rfl
 |.node l x r=>by
  have h1:=gz l;have h2:=gz r;show au.mk jI [jf l.val,.num x,jf r.val]=_;rw[h1,h2];rfl
theorem a2N:∀(a:List Int)(t:Tr),(a.foldl (λt x=>t.put x) t).nodes<=t.nodes+a.length
 |[],t=>Ae _
 |x::a,t=>by
  have h1:=a2N a (t.put x);have h2:=oC x t;simp only[Ef,Ak];omega
theorem a6P(a:List Int):(dX a).nodes<=a.length:=by
 have:=a2N a .leaf
 simp only[Tr.nodes,Bs] at this;exact this
theorem aTq(t:Tr)(ht:t.nodes<=30)(O:List ai)(lo:Nat)(AP:lo<=O.length) :
  Row Tryz.prog ans 8 [.val (.str jP),.val (.slice [t.val.enc])] ⟨O,lo⟩ (.ret (.aj [(aM (t.flat.map bL)).enc,.int .i64 0])) ⟨O,lo⟩:=by
 have hl:=@kV A0 t;have IF:=gb t;have IE:=@ga A0 t.flat;have hc:=de t.flat;have hb:(aM (t.flat.map bL)).size<AR:=by simp only[AR];omega
 have hS:lo<=(O++[zV,zE]).length:=by simp;omega
 refine @aW9 A0 (@CF A0) (λB0=>qC (Qy B0)) ((Qy 0).drawn _ mN) jP [t.val.enc] (aM (t.flat.map bL)) 89 true ((aM (t.flat.map bL)).cu:Nat) (by kernel_rfl) rfl
  (kI.a1V Qy (@c89 A0 t ⟨[],0⟩ (by simp only[AR];omega) (Ae _))) (by rw[hc];simp;omega) O lo AP ?_ (@c27 A0 _ ⟨O++[zV,zE],lo⟩ hb (by omega)) (@Yd A0 _ (@yP A0 _) hb (by omega) ⟨O++[zV,zE],lo⟩ hS) (@VI A0 _ ⟨O++[zV,zE],lo⟩ hb)
 exact @Ye A0 jP [TJ Od] (La Od) (by kernel_rfl) rfl [t.val] rfl (by simp[AR]) (λy hy=>by
  rw[Ct.1 hy];exact⟨yQ t,by simp only[AR];omega,by rw[df];omega⟩) (λi t' v h1 h2=>by
  match i with
  |0=>cases h1;cases h2;exact @wM A0 t
  |i+1=>simp at h1) ⟨O++[zV,zE],lo⟩ hS
theorem aEV{nm Xx:List UInt8}{x:ad}(h:lV nm [x]=lV Xx [x]):nm=Xx:=by
 simp only[lV,pf,Fa,Ba,Av,Dj,Slot.val.injEq,ae.agg.injEq,ae.slice.injEq,List.append_cancel_left_eq,Fx] at h;simp only[ax.enc,cU,hJ,uD,gk,af.ce,Ba,Av,ae.agg.injEq,Dj,ae.slice.injEq,ae.str.injEq,Fx,Fw] at h;simp[uD,af.args,af.ce] at h;exact h.2.2.2.2.1
open Classical in
@[reducible] noncomputable def A2(x t m d:ad)(n1 n2 n3 n4:Nat):h_ :=
 ⟨λargs=>if args=[.val (.str jP),.val (.slice [t.enc])] then some (some (.ret (.aj [d.enc,.int .i64 0]))) else some none,
  λargs=>if args=lV lM [x] then some (some (pM m n1)) else if args=lV iR [x] then some (some (pM m n2)) else if args=lV iS [x] then some (some (pM m n3)) else if args=lV qN [x] then some (some (pM t n4)) else some none,
  .agg [.slice (c7.map ax.enc)]⟩
theorem aBG(x:List Int)(hx:x.length<=30):∃(m:List Int)(n1 n2 n3 n4:Nat),m.Perm x/\GI m/\n1<=200000/\n2<=200000/\n3<=200000/\n4<=200000 /\
  Ev (hJ lM [aM (x.map bL)]) qo (jf (aM (m.map bL))) n1/\Ev (hJ iR [aM (x.map bL)]) qo (jf (aM (m.map bL))) n2/\Ev (hJ iS [aM (x.map bL)]) qo (jf (aM (m.map bL))) n3/\Ev (hJ qN [aM (x.map bL)]) qo (jf (dX x).val) n4:=by
 have xf:x.length*x.length<=30*30:=Ge hx hx;obtain⟨m,a,h1,h2,h3,h4⟩:=aDG x;obtain⟨m',b,k1,k2,k3,k4⟩:=x5 x.length x (Ae _);obtain rfl:m'=m:=vt (k1.trans h1.symm) k2 h2;obtain⟨c,t1,t2⟩:=aIt x hx
 obtain⟨b',BC,q⟩:∃b',b'<=100000/\Ev vH (.cons [108] (D6 x) (En 41)) (D6 m') b':=by
  by_cases h0:x=[]
  ·subst h0
   obtain rfl:=List.perm_nil.1 h1;exact⟨_,by decide,C8 (AX aY) (by decide) rfl (AX aY)⟩
  ·obtain⟨m2,n,r1,r2,r3,r4⟩:=w9 5 x (by omega) h0
   obtain rfl:m2=m':=vt (r1.trans h1.symm) r2 h2;exact⟨n,by omega,r4⟩
 rw[<-xS m'] at h4 k4 q;rw[<-gz] at t2;exact⟨m',_,_,_,_,h1,h2,by omega,by omega,by omega,by omega,CX (AX aDl) (qv _ x) h4,CX (AX aDm) (qv _ x) q,CX (AX aDn) (qv _ x) k4,CX (AX aGP) (qv _ x) t2⟩
theorem xm{nm:List UInt8}{r:ah}(x:List Int)(hx:x.length<=30)(ht:uL nm=some (o7 [La vy] r))(hr:(tyName r==[45,62])=false)(hk:eC nm=some 2):rN nm [aM (x.map bL)] :=
 @aSi A0 nm (La vy) r _ ht hr hk (@aLr A0 _ x hx (@aDw A0 x))
theorem Su[h_](JI:h_.pg=.agg [.slice (c7.map ax.enc)]){nm:List UInt8}{vs:List ad}(h:rN nm vs){v:ad}{n:Nat}(JY:h_.rn (lV nm vs)=some (some (pM v n)))(S:AH)(hS:S.lo<=S.objs.length) :
  CF (.fn 15) [.val (.str nm),.val (.slice (vs.map ad.enc))] S=some (.ret (.aj [v.enc,.int .i64 (n:Nat),.bool true]),S) :=
 c15 _ nm _ v n S ⟨_,rfl⟩ (aW8 JI h S hS) (NI (r:=pM v n) (by show h_.rn _=_;exact JY) rfl)
open Classical in
theorem a7C(A:List Int)(hA:A.length<AR)(sto:AH)(AP:sto.lo<=sto.objs.length) :
  ∃I:h_,(∀B0,Env Tryz.prog ans B0 (@oV I))/\@CF I (.fn 5) [.val (.slice (A.map fO))] sto=some (.ret (.val (.bool true)),sto):=by
 have hx:(A.take 30).length<=30:=by simp;omega
 obtain⟨m,n1,n2,n3,n4,p1,p2,b1,b2,b3,b4,e1,e2,e3,e4⟩:=aBG (A.take 30) hx;have hm:m.length<=30:=by rw[p1.length_eq];exact hx
 have hN:=a6P (A.take 30);have a06:=xm (nm:=lM) (r:=La vy) _ hx (by kernel_rfl) rfl (by kernel_rfl);have a07:=xm (nm:=iR) (r:=La vy) _ hx (by kernel_rfl) rfl (by kernel_rfl);have a08:=xm (nm:=iS) (r:=La vy) _ hx (by kernel_rfl) rfl (by kernel_rfl);have a1a:=xm (nm:=qN) (r:=TJ vy) _ hx (by kernel_rfl) rfl (by kernel_rfl);have cm:(aM (m.map bL)).cu<=4000:=by rw[de];omega
 have a5u:(dX (A.take 30)).val.cu<=4000:=by rw[df];omega
 have BA:∀{a b:List UInt8},a≠b->lV a [aM ((A.take 30).map bL)]≠lV b [aM ((A.take 30).map bL)]:=λh e=>h (aEV e)
 let I:=A2 (aM ((A.take 30).map bL)) (dX (A.take 30)).val (aM (m.map bL)) (aM ((dX (A.take 30)).flat.map bL)) n1 n2 n3 n4
 refine⟨I,λB0=>Zc I B0 (λargs res h=>?_) rfl (λargs res h=>?_),?_⟩
 ·have h:(if args=[.val (.str jP),.val (.slice [(dX (A.take 30)).val.enc])] then some (some (d_.ret (.aj [(aM ((dX (A.take 30)).flat.map bL)).enc,.int .i64 0]))) else some none)=some (some res):=h
  split at h
  ·rename_i ha
   cases h;subst ha;intro sto w Ψ J ow ws hp;exact(aTq _ (by omega) sto.objs sto.lo hp.lo).2 B0 w Ψ J ow ws hp
  ·cases h
 ·have h:(if args=lV lM [aM ((A.take 30).map bL)] then some (some (pM (aM (m.map bL)) n1)) else if args=lV iR [aM ((A.take 30).map bL)] then some (some (pM (aM (m.map bL)) n2)) else if args=lV iS [aM ((A.take 30).map bL)] then some (some (pM (aM (m.map bL)) n3)) else if args=lV qN [aM ((A.take 30).map bL)] then some (some (pM (dX (A.take 30)).val n4)) else some none)=some (some res):=h
  split at h
  ·rename_i ha
   cases h;subst ha;intro sto w Ψ J ow ws hp;exact(ft a06 e1 b1 (xP m) cm sto.objs sto.lo hp.lo).2 B0 w Ψ J ow ws hp
  split at h
  ·rename_i ha
   cases h;subst ha;intro sto w Ψ J ow ws hp;exact(ft a07 e2 b2 (xP m) cm sto.objs sto.lo hp.lo).2 B0 w Ψ J ow ws hp
  split at h
  ·rename_i ha
   cases h;subst ha;intro sto w Ψ J ow ws hp;exact(ft a08 e3 b3 (xP m) cm sto.objs sto.lo hp.lo).2 B0 w Ψ J ow ws hp
  split at h
  ·rename_i ha
   cases h;subst ha;intro sto w Ψ J ow ws hp;exact(ft a1a e4 b4 (uk _) a5u sto.objs sto.lo hp.lo).2 B0 w Ψ J ow ws hp
  ·cases h
 ·have r1:I.rn (lV lM [aM ((A.take 30).map bL)])=some (some (pM (aM (m.map bL)) n1)):=Br rfl
  have r2:I.rn (lV iR [aM ((A.take 30).map bL)])=some (some (pM (aM (m.map bL)) n2)):=(Bf (BA (by decide))).trans (Br rfl);have r3:I.rn (lV iS [aM ((A.take 30).map bL)])=some (some (pM (aM (m.map bL)) n3)):=(Bf (BA (by decide))).trans ((Bf (BA (by decide))).trans (Br rfl));have r4:I.rn (lV qN [aM ((A.take 30).map bL)])=some (some (pM (dX (A.take 30)).val n4)):=(Bf (BA (by decide))).trans ((Bf (BA (by decide))).trans ((Bf (BA (by decide))).trans (Br rfl)));have r8:I.ap [.val (.str jP),.val (.slice [(dX (A.take 30)).val.enc])]=some (some (d_.ret (.aj [(aM ((dX (A.take 30)).flat.map bL)).enc,.int .i64 0]))):=Br rfl
  exact @c5 I A hA sto AP m p1 p2 n1 n2 n3 n4 (@Su I rfl _ _ a06 _ _ r1 sto AP) (@Su I rfl _ _ a07 _ _ r2 sto AP) (@Su I rfl _ _ a08 _ _ r3 sto AP) (@Su I rfl _ _ a1a _ _ r4 sto AP)
   (NI (pr:=@oV I) (f:=8) (r:=.ret (.aj [(aM ((dX (A.take 30)).flat.map bL)).enc,.int .i64 0])) (by show I.ap _=_;exact r8) (by rw[ad.aw];rfl))
end
section
open Go.Proofs.YtoiocfngjchdiaaGreatDoor Go.AM Go.RowKit Go.ChangeShapes Go.WideShapes Go.ChangeAt
theorem a7w{H:Type}{enc:TypeId×Value->H}{P:Program}{f:Func}{s:ChangeSpec}{W W':World}{args:Array Value}{v:Value}{ds gs:List (DataW H)}{before pa pv:List MemPlace}
  (hW:DataW.Whole enc P f.params.toList s.vars false W args.toList ds gs before) (hb:Below W.heap.size W W')
  (B7:∀(b:Nat)(sp:Nat->Bool)(hd:Bool),DataW.TrodAll enc P W' b sp hd f.resultTypes.toList (v.resultList f.resultTypes.size) (s.fn H (ds++gs)).results [])
  (B9:∀sp:Nat->Bool,(∀p∈before,sp p.block=true)->DataW.TrodAll enc P W' 0 sp true f.params.toList args.toList (s.fn H (ds++gs)).args pa)
  (a4s:∀sp:Nat->Bool,(∀p∈before,sp p.block=true)->DataW.TrodVars enc P W' sp s.vars (s.fn H (ds++gs)).vars pv)
  (YH:before=pa++pv)
  (EE:∀(j:Nat)(t:TypeId)(r:Value),f.resultTypes[j]?=some t->(v.resultList f.resultTypes.size)[j]?=some r->Value.okWide P W' .any 0 t r) :
  s.post enc P f false true false false W args v W':=by
 have hold:∀p∈before,(λb=>decide (b<W.heap.size)) p.block=true:=λp hp=>by simpa using hW.lt p hp
 refine⟨ds,gs,before,[],pa,pv,hW,B7 _ _ _,B9 _ hold,a4s _ hold,hb.frame _,λh=>?_⟩;cases h
theorem aFz{W:World}{x:ae}{v:Value}(h:Rd W [x] [v]):am (Sw W) [] x v:=(h.abs 0 x v rfl rfl).2.rel
set_option maxRecDepth 100000 in
theorem a03(H:Type)(enc:TypeId×Value->H)(W:World)(base:Nat)(args:Array Value)(ds gs:List (DataW H))(before:List MemPlace)
  (DV:∀(j:Nat) t v,Tryz.f5.params[j]?=some t->args[j]?=some v->Value.okWide Tryz.prog W .any base t v)
  (hW:DataW.Whole enc Tryz.prog Tryz.f5.params.toList Rows.preludeSortsSpec.vars false W args.toList ds gs before) (hk:Rows.uptoSmall H (ds++gs)=true) (hL:laidMetH Tryz.prog Rows.preludeSortsRow.laid W) (Rg:W.ShapedOpen Tryz.prog) :
  Calls Tryz.prog 5 args W λe W'=>∃v,e=.returned v/\Rows.preludeSortsSpec.post enc Tryz.prog Tryz.f5 false true false false W args v W':=by
 have Ue:=hW;obtain⟨p,q,Iz,a5M,rfl,Iv,G6⟩:=hW;have hA:DataW.TrodAll enc Tryz.prog W 0 (λ_=>true) true Tryz.f5.params.toList args.toList ds p:=Iz;rw[Tryz.params5] at hA DV;obtain⟨v0,vs0,d0,ds0,a12,a8C,B9,rfl,rfl,h0,r0⟩:=trodAll_cons hA;obtain⟨rfl,rfl,rfl⟩:=trodAll_nil r0;obtain rfl:args=#[v0]:=Array.toList_inj.1 B9;obtain⟨rfl,rfl⟩:=trodVars_none a5M;have Xv:=DV 0 43 v0 (by kernel_rfl) (by simp)
 have wy:v0.cells=#[v0]:=by
  simp only[Value.okWide,Tryz.underlying43] at Xv;cases v0<;>first|rfl|(exfalso;simp[Cell.okWide,Cell.ok,Tryz.underlying43] at Xv)
 have h0k:=h0;obtain⟨f0,h0⟩:=h0;rw[wy] at h0;obtain⟨A,Mb,Rz⟩:=aO1 f0 _ _ h0;clear Iz;simp only[Ao] at Ue hk;have hsm:Rows.uptoBulkAll [d0]<=1048576:=Eu hk;simp only[Rows.uptoBulkAll] at hsm;simp only at Rz;obtain⟨I,E,hc⟩:=a7C A (by simp only[AR];omega) ⟨[],0⟩ (Ae _)
 have BM:dT ans W.heap.size W (Sw W) [] (λ_=>none) [.val (.slice (A.map fO))] #[v0] ⟨[],0⟩:=by
  refine⟨b_ (kS hL),Ae _,λb h=>absurd rfl h,rfl,λs hs=>?_,λi s hi=>?_,⟨rfl,λi o h=>by simp at h⟩,Ae _⟩
  ·simp at hs;subst hs;rfl
  ·match i,hi with
   |0,hi=>cases hi;exact .val _ _ (aFz Mb)
 refine(aAN (E W.heap.size) rfl hc BM).mono λe W' h=>?_
 obtain⟨Z',J',AO,D0,_,v,rfl,hs⟩:=h
 have hv:v=.bool true:=by
  cases hs with
  |val x v h=>cases h;rfl
 subst hv;have KI:=a6g D0;have AL:∀x∈a12++[],x.block<W.heap.size:=λx hx=>Ue.lt x (by simpa using hx)
 refine⟨_,rfl,a7w (pa:=a12++[]) (pv:=[]) Ue KI (λ_ _ _=>trodAll_cons_mk (shut_bool Tryz.underlying4 _) trodAll_mk0) (λsp Hi=>?_) (λ_ _=>rfl) (by simp) (ok_one (by kernel_rfl) rfl (okWide_bool_mk Tryz.underlying4 _))⟩
 exact trodAll_cons_mk (WideElems.Trod_stays laidOut (by kernel_rfl) (Eu (by kernel_rfl)) h0k (λx hx=>KI.same (AL x (by simp[hx]))) (λx hx=>Hi x (by simp[hx])))
  trodAll_mk0
end
end Go.Proofs.YtoiocfngjchdiaaGreatDoor
