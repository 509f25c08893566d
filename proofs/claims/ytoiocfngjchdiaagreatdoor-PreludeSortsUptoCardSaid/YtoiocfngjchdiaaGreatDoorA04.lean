import Derived.Test.YtoiocfngjchdiaaGreatDoorA03
set_option linter.all false
namespace Go.AM
section
variable {P:Program}{ans:FuncId->AF}{an:AF}{w:World}{B0:Nat}{Ψ:HT}{J:List Nat}{ow:Own}{tmps:Array Value}{R:Type}{r:R}
variable {tm:List Slot}{rs:RS}{m:Machine}{mk mp:Value->World->Machine}{kp:ae->RS->Option R}{k:Slot->RS->Option R}{ds:List Deferred}
variable {drawn AA tk:Bool}{EB:List Nat}{cf:aI}{dst:Option Nat}{ty:TypeId}{pos:String}{AK:Array Edge}{gd:Option (Nat×Bool)}
theorem j7{J J':List Nat}(h:pre J J'){n:Nat}(hn:n<=J.length):J'.take n=J.take n:=by
 apply Fl;intro i;rw[Bl,Bl];split
 ·rename_i hi
  have:i<J.length:=by omega
  rw[h i J[i] (by simp[this])];simp[this]
 ·rfl
theorem bX.a1p{n:Nat}{t:Nat}{s:Slot}{v:Value}(h:bX w B0 Ψ J ow tmps t s v)(hf:s.free=true)(hl:cF n s=true):bX w B0 Ψ (J.take n) ow tmps t s v:=by
 cases h with
 |dead=>simp[Slot.free] at hf
 |val x v h=>exact .val x v (h.ct hl)
 |aj xs vs hl' h =>
  refine .aj xs vs hl' λi x v h1 h2=>(h i x v h1 h2).ct ?_
  exact Au.1 (show xs.all (ct n)=true from hl) x (Be h1)
 |own sz xs v h=>exact .own sz xs v h
 |full xs a n h=>exact .full xs a n h
 |nl=>exact .nl
 |nn xs a n c h=>exact .nn xs a n c h
 |cells=>simp[Slot.free] at hf
 |box=>simp[Slot.free] at hf
 |ref=>simp[Slot.free] at hf
theorem i_.old{J':List Nat}{objs EW:List ai}(h:i_ w B0 Ψ J' ow ans EW)(hp:pre J J')(hl:J.length=objs.length)(hk:∀i,i<objs.length->EW[i]?=objs[i]?):i_ w B0 Ψ J ow ans objs:=by
 refine⟨hl,λi o ho=>?_⟩;have hi:=(Ab.1 ho).1;obtain⟨b,h1,h2⟩:=h.2 i o (by rw[hk i hi];exact ho)
 have hb:J[i]?=some b:=by
  have D7:i<J.length:=by omega
  have:=hp i J[i] (by simp[D7])
  rw[h1] at this;simp[D7,Bp this]
 refine⟨b,hb,h2.mono Ψ.le_refl ?_ (e_.refl _ _ _ _ _)⟩;rw[j7 hp (by omega)];exact aG _
theorem jJ(h:Rel P ans B0 w Ψ J ow an (sl an tm rs) tmps rs.sto.objs){cc:Callee}{args:List Slot}{c:Frame}{cs:List Frame}{m1:Machine}
  (e:cY AA cf cc args rs kp k=some r)
  (Lx:∀sto res sto',sto.objs=rs.sto.objs->sto.lo<=sto.objs.length->cf cc args sto=some (res,sto')->dS P ans B0 w Ψ J (qR an.nt ow) sto c cs m1 res sto') (AP:rs.sto.lo<=rs.sto.objs.length)
  (A8:Steps P m m1) (K7:∀v w',lone (c.finish v) cs w'=mk v w') (Mi:∀v w',lone (c.raise [{ v,recovered:=false }]) cs w'=mp v w') :
  Goal P ans an w B0 Ψ J ow tmps tm rs dst m mk mp kp k r:=by
 cases AA with
 |false =>
  simp only[cY] at e;obtain⟨⟨res,sto'⟩,hc,e⟩:=aH e;obtain⟨w',Z',J',D5,hF,hp,hw,K4,AL,C9,B7⟩:=Lx _ _ _ rfl AP hc;obtain⟨hR,Ja⟩:=vQ h hF hp hw hp K4 AL;cases res with
  |ret s =>
   obtain⟨_,e⟩:=aB e;obtain⟨D0,v,hs,C1⟩:=B7;refine .inl ⟨s,{ rs with sto:=sto' },v,w',Z',J',_,e,hR,?_,(λu o he=>by subst he;simp[Slot.free] at D0),(λcs he=>by subst he;simp[Slot.free] at D0),Ja,hp,C9,A8.trans (by rw[<-K7];exact C1)⟩;refine bX.mono (hs.uf (tmps':=tmps) D0) Z'.le_refl (aG _) (λb s hb=>⟨by simp[eZ,hb],rfl,λ_ h=>h⟩) (λ_ _ _=>rfl)
  |be x =>
   obtain⟨v,hv,C1⟩:=B7;exact .inr ⟨x,{ rs with sto:=sto' },v,w',Z',J',_,e,hR,hv,Ja,hp,C9,A8.trans (by rw[<-Mi];exact C1)⟩
 |true =>
  simp only[cY] at e;obtain⟨⟨res,sto'⟩,hc,e⟩:=aH e;obtain⟨w',Z',J',D5,hF,hp,hw,K4,AL,C9,B7⟩:=Lx { rs.sto with lo:=rs.sto.objs.length } _ _ rfl (Ae _) hc;cases res with
  |ret s =>
   obtain⟨hg,e⟩:=aB e;simp only[Ac] at hg
   replace hg:=hg.1
   obtain⟨D0,v,hs,C1⟩:=B7;have K5:=h.objs.1;have a4S:=K4.old (J:=J) (objs:=rs.sto.objs) hp K5 (λi hi=>C9.keep i hi);obtain⟨hR,Ja⟩:=vQ h hF hp hw (aG _) a4S AL;refine .inl ⟨s,rs,v,w',Z',J,_,e,hR,?_,(λu o he=>by subst he;simp[Slot.free] at D0),(λcs he=>by subst he;simp[Slot.free] at D0),Ja,aG _,gr.refl _,A8.trans (by rw[<-K7];exact C1)⟩;have IE:=(hs.uf (tmps':=tmps) D0).a1p D0 hg;rw[j7 hp (by rw[K5];exact Ae _),Bz (by rw[K5];exact Ae _)] at IE;exact IE.mono Z'.le_refl (aG _) (λb s hb=>⟨by simp[eZ,hb],rfl,λ_ h=>h⟩) (λ_ _ _=>rfl)
  |be x=>cases e
theorem mK{o:Option TypeId}{β:Type}{f:TypeId->Option β}{b:β}(h:o.bind f=some b):∃t,o=some t/\f t=some b:=by
 cases o with
 |none=>cases h
 |some t=>exact⟨t,rfl,h⟩
theorem aHK{name:String}{t:Nat}{f:FuncId}(h:Nu P name t=some f)(n:Nat)(x:Value):(method (n+1) t x name).run P w=.ok (f,x) w:=by
 unfold Nu at h;obtain⟨i,hi,h⟩:=aH h;obtain⟨mm,hm,h⟩:=aH h;obtain⟨d,hd,h⟩:=aH h;obtain⟨fp,hf,h⟩:=aH h;obtain⟨fi,fb⟩:=fp;have HN:(typeInfo t).run P w=.ok i w:=by simp[typeInfo,hi]
 have key:∀(hp:mm.path.isEmpty=true),fi=f->(∀wr,(receiverAt t (.val x) fb wr).run P w=.ok x w)->(method (n+1) t x name).run P w=.ok (f,x) w:=by
  intro hp hq M9;subst hq;have w7:mm.path=#[]:=by simpa using hp
  simp only[method,Sem.run_bind,HN,Result.andThen_ok,hm];simp[w7,follow,hf,M9]
 cases hp:mm.path.isEmpty with
 |false=>rw[hp] at h;cases d<;>cases fb<;>cases h
 |true =>
  rw[hp] at h
  cases d<;>cases fb<;>first
   |(cases h;done)
   |(cases h;exact key hp rfl λwr=>by simp[receiverAt,run_underlying hd,Place.get])
theorem aHF(h:Rel P ans B0 w Ψ J ow an (sl an tm rs) tmps rs.sto.objs){c:Call}(BO:kC P ans B0 cf)(AP:rs.sto.lo<=rs.sto.objs.length){fr:Frame}{cs:List Frame}(X:Ex P tmps ds w ⟨dst,.call c,ty,pos,AK,gd⟩ m mk)
  (Xe:∀f args,(execOp (ev tmps ds) ⟨dst,.call c,ty,pos,AK,gd⟩).run P w=.ok (.enter f args) w->Steps P m (lone (Frame.enter P f args .normal) (fr::cs) w))
  (a5g:∀l f tmps' x y,(execOp (ev tmps ds) ⟨dst,.call c,ty,pos,AK,gd⟩).run P w=.ok (.round l f tmps' x y) w->Steps P m (lone (Frame.round l f tmps' x y .normal) (fr::cs) w))
  (K7:∀v w',lone (fr.finish v) cs w'=mk v w') (Mi:∀v w',lone (fr.raise [{ v,recovered:=false }]) cs w'=mp v w')
  (e:aC P ans an drawn AA EB cf tm tk ⟨dst,.call c,ty,pos,AK,gd⟩ rs kp k=some r):Goal P ans an w B0 Ψ J ow tmps tm rs dst m mk mp kp k r:=by
 obtain⟨NN,⟨DT⟩,NO⟩:=c;simp only[aC] at e
 split at e
 ·rename_i x
  obtain⟨tx,CK,_⟩:=bH (ds:=ds) h x
  have hex:∀v,(Builtin.len_ NO ty #[ev tmps ds x]).run P w=.ok v w->Steps P m (mk v w):=λv hv=>X.val _ _ (by
   simp[execOp,resolve,invoke,builtin];simp[ev] at hv;simp[hv])
  split at e
  ·rename_i hu
   obtain⟨t,ht,hu⟩:=mK hu
   split at e
   ·rename_i s hx
    rw[hx] at CK;generalize EZ:(⟨tmps,ds⟩:Act).eval x=vx at CK;cases CK with
    |val _ _ hv=>cases hv with
     |str=>exact .val h e (.int _ _) (hex _ (by simp[Builtin.len_,ht,run_underlying hu,ev,EZ,goInt];rfl))
   ·cases e
  ·rename_i el hu
   obtain⟨t,ht,hu⟩:=mK hu;obtain⟨xs,e,EC⟩:=uO CK e;generalize EZ:(⟨tmps,ds⟩:Act).eval x=vx at EC;cases EC with
   |slice _ a len cap s' hl hc hx=>exact .val h e (by rw[hl];exact .int _ _) (hex _ (by simp[Builtin.len_,ht,run_underlying hu,ev,EZ,goInt]))
  ·rename_i n el hu
   obtain⟨t,ht,hu⟩:=mK hu;exact .val h e (.int _ _) (hex _ (by simp[Builtin.len_,ht,run_underlying hu,goInt]))
  ·cases e
 ·rename_i s x
  obtain⟨tx,CK,_⟩:=bH (ds:=ds) h x;obtain⟨tS,Io,A8⟩:=bH (ds:=ds) h s
  split at e
  ·rename_i el el2 FU EN
   obtain⟨t1,ht1,FU⟩:=mK FU;obtain⟨t2,ht2,EN⟩:=mK EN
   have sle:∀{t q:TypeId},aQ P t=some q->P.underlying t=some (.slice q):=λhq=>by
    unfold aQ at hq
    split at hq
    ·rename_i e' he;cases hq;exact he
    ·cases hq
   obtain⟨sz,BD,e⟩:=aH e;obtain⟨z,hz,e⟩:=aH e;obtain⟨ys,e,NY⟩:=uO CK e;obtain⟨hg,e⟩:=aB e;simp only[Ac] at hg;obtain⟨⟨⟨⟨g1,g2⟩,g3⟩,g4⟩,g5⟩:=hg;have CR:0<sz:=by simpa[Cy] using g1
   have Ht:0<bC P el:=by simpa[Cy] using g4
   have a4J:∀y∈ys,y.cells.length=sz:=λy hy=>Aa (Au.1 g5 y hy)
   simp only[zeroOf,Da] at hz;obtain⟨zv,Ik,Ij⟩:=hz
   have xh:(P.info? el).bind (·.zero)=some zv:=by
    obtain⟨ti,a1,a2⟩:=Ik;rw[a1];exact a2
   have Ii:zv.cells.size=sz:=by
    have:=(jF (Ψ:=Ψ) (J:=J) Ij).cells.1
    rw[<-this];exact Aa g2
   have hex:∀v w',(Builtin.append_ NO ty #[ev tmps ds s,ev tmps ds x]).run P w=.ok v w'->Steps P m (mk v w'):=λv w' hv=>X.val _ _ (by
    simp[execOp,resolve,invoke,builtin];simp[ev] at hv;simp[hv])
   have core:∀{rs1:RS}{BR:Own}{xs:List ae},rs1.sto=rs.sto->Rel P ans B0 w Ψ J BR an (sl an tm rs1) tmps rs1.sto.objs->Fr w Ψ ow w Ψ BR->(am Ψ [] (.slice xs) (ev tmps ds s)/\(∀x∈xs,x.cells.length=sz)/\∃a len cap,ev tmps ds s=.slice a len cap/\(len=cap\/∃b o cs E,a=some ⟨b,o,none⟩/\BR b=some (false,an.nt,1)/\w.heap[b]?=some (.cells cs E (0,0))/\B0<=b/\o+cap*sz<=cs.size/\∀o',o+len*sz<=o'->Ψ b o'=FZ))->(ys=[]->kw w B0 Ψ BR (false,an.nt,1) sz xs (ev tmps ds s))->xs.length+ys.length<=room ->
     k (.own sz (xs++ys)) rs1=some r->Goal P ans an w B0 Ψ J ow tmps tm rs dst m mk mp kp k r:=λUE h1 hF ho Mt EX hk=>by
    obtain⟨v',w',Z',AO,A9,hR,hO,Ja⟩:=a6f h1 ho Mt NY a4J (ty:=ty) ht1 ht2 (sle FU) (sle EN) BD CR xh Ii (Ad g3) Ht EX;exact .inl ⟨_,_,v',w',Z',J,AO,hk,hR,.own _ _ _ hO,(λu o he=>by cases he),(λcs he=>by cases he),hF.trans Ja,aG _,by rw[UE];exact gr.refl _,hex _ _ A9⟩
   have e3:(∃G1 xs t,AZ an.keep tm rs s=.own G1 xs/\s=.tmp t/\aJ (Nat.beq sz G1&&Nat.ble (xs.length+ys.length) room) (k (.own sz (xs++ys)) (rs.put t (.val (.slice xs))))=some r) \/
     (∃xs,AZ an.keep tm rs s=.full xs/\aJ (xs.all (λy=>Nat.beq y.cells.length sz)&&Nat.ble (xs.length+ys.length) room&&(xs.isEmpty||!ys.isEmpty)) (k (.own sz (xs++ys)) rs)=some r) \/
     (AZ an.keep tm rs s=.nl/\aJ (Nat.ble ys.length room) (k (.own sz ys) rs)=some r):=by
    split at e
    ·exact .inl ⟨_,_,_,by assumption,rfl,e⟩
    ·exact .inr (.inl ⟨_,by assumption,e⟩)
    ·exact .inr (.inr ⟨by assumption,e⟩)
    ·cases e
   rcases e3 with⟨G1,xs,t,hs,LH,e3⟩|⟨xs,hs,e3⟩|⟨hs,e3⟩
   ·obtain rfl:=A8 t LH
    subst LH;obtain⟨hg,e3⟩:=aB e3;simp only[Ac] at hg;have LF:=Aa hg.1;have JG:sl an tm rs tS=.own G1 xs:=hs;have Ln:am Ψ J (.slice xs) (tmps.getD tS undef):=by have:=h.dr tS;rw[JG] at this;cases this with|own _ _ _ hv=>exact hv.val
    obtain⟨h1,h2⟩:=h.take tS (h.rD (by rw[JG];simp)) (.slice xs) Ln (by rw[JG];simp) an.nt;rw[JG] at h2
    have hO:kw w B0 Ψ (fE ow false tS false an.nt 0) (false,an.nt,1) sz xs (tmps.getD tS undef):=by
     rw[LF];cases h2 with|own _ _ _ hv=>exact hv
    refine core (rs1:=rs.put tS (.val (.slice xs))) rfl ?_ (Fr.fE _ _ _) hO.tR (λ_=>hO) (Ad hg.2) e3;rw[show sl an tm (rs.put tS (.val (.slice xs)))=jl (sl an tm rs) tS (.val (.slice xs)) from dJ _ _ _ _ _];exact h1
   ·obtain⟨hg,e3⟩:=aB e3
    simp only[Ac] at hg;have Ot:∀y∈xs,y.cells.length=sz:=λy hy=>Aa (Au.1 hg.1.1 y hy)
    rw[hs] at Io
    have hee:ys=[]->xs=[]:=λe=>by
     have:=hg.2
     rw[e] at this;simpa using this
    refine core rfl h (Fr.refl _ _ _) ?_ ?_ (Ad hg.1.2) e3
    all_goals
     generalize EZ:(⟨tmps,ds⟩:Act).eval s=vx at Io;cases Io with
     |full _ a n hv =>
      rw[ev,EZ]
      first
       |exact⟨hv,Ot,a,n,n,rfl,.inl rfl⟩
       |exact λe=>⟨hv,Ot,a,n,n,rfl,.inl ⟨hee e,rfl⟩⟩
   ·obtain⟨hg,e3⟩:=aB e3
    rw[hs] at Io;have J7:kw w B0 Ψ ow (false,an.nt,1) sz [] (ev tmps ds s):=?_;refine core (xs:=[]) rfl h (Fr.refl _ _ _) J7.tR (λ_=>J7) (by simpa using Ad hg) e3;generalize EZ:(⟨tmps,ds⟩:Act).eval s=vx at Io;cases Io with
    |nl=>rw[ev,EZ];exact xX _ _
  ·cases e
 ·rename_i x y
  obtain⟨tx,CK,_⟩:=bH (ds:=ds) h x;obtain⟨tY,Tw,_⟩:=bH (ds:=ds) h y;obtain⟨kd,n,e,hn⟩:=kN CK e;obtain⟨IC,m,e,hm⟩:=kN Tw e;refine .val h e (.int _ _) (X.val _ _ ?_);have hb:(bif decide (m>n) then m else n)=(if m>n then m else n):=by by_cases hc:m>n<;>simp[hc]
  rw[hb];simp[execOp,resolve,invoke,builtin,Builtin.max_,Builtin.max2,ev,hn,hm]
 ·rename_i f
  obtain⟨a2u,Ip,_⟩:=bH (ds:=ds) h f
  split at e
  ·rename_i g caps hf
   rw[hf] at Ip;generalize EZ:(⟨tmps,ds⟩:Act).eval f=vf at Ip;cases Ip with
   |val _ _ hv=>cases hv with
    |func _ _ cv BQ Iw =>
     obtain⟨l,rs1,BR,e,h1,C9,hl,D0,ha,hF,_⟩:=pR (ds:=ds) h e;have BM:=λsto JF FX=>uN (ds:=ds) h1 sto JF FX hl D0 ha BQ Iw
     have hG:Goal P ans an w B0 Ψ J BR tmps tm rs1 dst m mk mp kp k r:=by
      cases CZ:cf (.fn g) (l++caps.map .val) (if AA then{ rs1.sto with lo:=rs1.sto.objs.length } else rs1.sto) with
      |none=>cases AA<;>simp only[Dq,Bg,Dk] at CZ<;>simp[cY,CZ] at e
      |some p =>
       have HU:=(BO.fn g _ _ p.1 p.2 CZ).1;obtain⟨F,Jb,NB,LX⟩:=HU;refine jJ (c:=fr) (cs:=cs) (m1:=lone (Frame.enter P g ⟨DT.map (⟨tmps,ds⟩:Act).eval++cv⟩ .normal) (fr::cs) w) h1 e (λsto res sto' JF FX hc=>(BO.fn g _ _ _ _ hc).2 w Ψ J _ _ (BM sto JF FX) fr cs) (by rw[C9];exact AP) (Xe _ _ ?_) K7 Mi;obtain⟨a0r,G9⟩:=Ec.1 NB;simp[execOp,resolve,ev,EZ,Deferred.ofValue,invoke,callFunc,Jb,LX,G9]
     rcases hG with⟨s,rs',v,w',Z',J',AO,a1,a2,a3,a4,a5,a6,a7,a8,a9⟩|⟨x,rs',v,w',Z',J',AO,a1,a2,a3,a6,a7,a8,a9⟩
     ·exact .inl ⟨s,rs',v,w',Z',J',AO,a1,a2,a3,a4,a5,hF.trans a6,a7,by rw[<-C9];exact a8,a9⟩
     ·exact .inr ⟨x,rs',v,w',Z',J',AO,a1,a2,a3,hF.trans a6,a7,by rw[<-C9];exact a8,a9⟩
  ·rename_i i hf
   rw[hf] at Ip;generalize EZ:(⟨tmps,ds⟩:Act).eval f=vf at Ip;cases Ip with
   |val _ _ hv=>cases hv with
    |bN _ b hb =>
     obtain⟨l,rs1,BR,e,h1,C9,hl,D0,ha,hF,_⟩:=pR (ds:=ds) h e;have BM:=λsto JF FX=>uN (ds:=ds) h1 sto JF FX hl D0 ha (caps:=[]) (cv:=[]) rfl (λi c v hc=>by simp at hc)
     simp only[Av,Ao] at BM
     have hG:Goal P ans an w B0 Ψ J BR tmps tm rs1 dst m mk mp kp k r:=by
      cases CZ:cf (.bN i) l (if AA then{ rs1.sto with lo:=rs1.sto.objs.length } else rs1.sto) with
      |none=>cases AA<;>simp only[Dq,Bg,Dk] at CZ<;>simp[cY,CZ] at e
      |some p =>
       obtain⟨al,CV,hlen,_⟩:=BO.bN i _ _ p.1 p.2 CZ;have My:rs1.sto.objs[i]?=some (.loop al):=by cases AA<;>exact CV
       obtain⟨b',BC,Ly⟩:=h1.objs.2 i _ My;obtain rfl:b=b':=by rw[hb] at BC;exact Bp BC
       cases Ly with
       |loop _ _ rr Lt w6 h00 K9 CW =>
        refine jJ (c:=fr) (cs:=cs) (m1:=lone (Frame.round b rr.fn ((rr.params.zip ⟨DT.map (⟨tmps,ds⟩:Act).eval⟩).foldl (λt (p,a)=>t.setIfInBounds p a) rr.tmps) rr.assign rr.body .normal) (fr::cs) w) h1 e
         (λsto res sto' JF FX hc=>?_) (by rw[C9];exact AP) (a5g _ _ _ _ _ ?_) K7 Mi
        ·obtain⟨_,_,_,DB⟩:=BO.bN i _ _ _ _ hc
         exact DB w Ψ J _ _ (BM sto JF FX) b rr hb Lt fr cs
        ·have qe:DT.length=rr.params.size:=by rw[CW.params,<-hlen,hl]
         have AN:=mf (P:=P) Lt (by simp);simp[execOp,resolve,ev,EZ,Deferred.ofValue,invoke,Instr.yield,Instr.getLoop,AN,qe]
     rcases hG with⟨s,rs',v,w',Z',J',AO,a1,a2,a3,a4,a5,a6,a7,a8,a9⟩|⟨x,rs',v,w',Z',J',AO,a1,a2,a3,a6,a7,a8,a9⟩
     ·exact .inl ⟨s,rs',v,w',Z',J',AO,a1,a2,a3,a4,a5,hF.trans a6,a7,by rw[<-C9];exact a8,a9⟩
     ·exact .inr ⟨x,rs',v,w',Z',J',AO,a1,a2,a3,hF.trans a6,a7,by rw[<-C9];exact a8,a9⟩
  ·cases e
 ·rename_i rc nm
  obtain⟨a2u,Ip,_⟩:=bH (ds:=ds) h rc
  split at e
  ·rename_i ut y hf
   rw[hf] at Ip;generalize EZ:(⟨tmps,ds⟩:Act).eval rc=vf at Ip;obtain⟨g,hg,e⟩:=aH e;obtain⟨l,e,hl,hr⟩:=vR (ds:=ds) h e;cases Ip with
   |val _ _ hv=>cases hv with
    |iface _ _ u hu =>
     have BM:=λsto JF FX=>uN (ds:=ds) h sto JF FX (l:=[]) (xs:=[]) rfl (λs hs=>by cases hs) (λj s x hs=>by simp at hs) (caps:=y::l) (cv:=u::DT.map (⟨tmps,ds⟩:Act).eval) (by simp[hl]) (λi c v h1 h2=>by
      cases i with
      |zero=>cases h1;cases h2;exact hu
      |succ i=>exact hr i c v h1 h2)
     simp only[Av,Ai] at BM;cases CZ:cf (.fn g) ((y::l).map .val) (if AA then{ rs.sto with lo:=rs.sto.objs.length } else rs.sto) with
     |none=>cases AA<;>simp only[Dq,Bg,Dk] at CZ<;>simp only[cY,CZ,Option.bind_none] at e<;>cases e
     |some p =>
      obtain⟨F,Jb,NB,LX⟩:=(BO.fn g _ _ p.1 p.2 CZ).1;refine jJ (c:=fr) (cs:=cs) (m1:=lone (Frame.enter P g ⟨u::DT.map (⟨tmps,ds⟩:Act).eval⟩ .normal) (fr::cs) w) h e (λsto res sto' JF FX hc=>(BO.fn g _ _ _ _ hc).2 w Ψ J _ _ (BM sto JF FX) fr cs) AP (Xe _ _ ?_) K7 Mi;obtain⟨a0r,G9⟩:=Ec.1 NB;have CR:0<Made.depth:=by decide
      obtain⟨nn,J7⟩:∃nn,P.types.size+Made.depth=nn+1:=⟨P.types.size+Made.depth-1,by omega⟩
      have Ho:=aHK (w:=w) hg nn u;rw[<-J7] at Ho;have w_:(program).run P w=.ok P w:=rfl;simp only[execOp,resolve,ev,EZ,Sem.run_bind,Sem.run_pure,Result.andThen_ok,invoke,callMethod];have GB:List.take DT.length (List.map (⟨tmps,ds⟩:Act).eval DT)=List.map (⟨tmps,ds⟩:Act).eval DT:=Bz (by simp);simp[w_,Ho,GB,callFunc,Jb,LX,G9]
  ·cases e
 ·cases e
theorem aE1(h:Rel P ans B0 w Ψ J ow an (sl an tm rs) tmps rs.sto.objs)(BO:kC P ans B0 cf)(AP:rs.sto.lo<=rs.sto.objs.length){o:Oper}{b:Frame}{ops:Array Oper}{i:Nat}{rest:List Nat}{items:List Item}{cs:List Frame}
  (ho:ops[i]?=some o) (hw:Region.wanted o (yielded ops tmps)=true)
  (e:aC P ans an drawn AA EB cf tm tk o rs kp k=some r) :
  Goal P ans an w B0 Ψ J ow tmps tm rs o.dst (lone (b.atR ⟨tmps,ds⟩ (.inRegion ops (i::rest)::items)) cs w) (λv w'=>lone (b.atR ((⟨tmps,ds⟩:Act).put o.dst v) (.inRegion ops rest::items)) cs w')
   (λv w'=>lone { b.atR ⟨tmps,ds⟩ (.inRegion ops (i::rest)::items) with mode:=.panicking [{ v,recovered:=false }] } cs w') kp k r:=by
 have G6:∀c,o.op≠.defer c:=λc hc=>by
  obtain⟨d,op,ty,pos,AK,gd⟩:=o;simp only at hc;subst hc;simp[aC] at e
 have X:Ex P tmps ds w o (lone (b.atR ⟨tmps,ds⟩ (.inRegion ops (i::rest)::items)) cs w) (λv w'=>lone (b.atR ((⟨tmps,ds⟩:Act).put o.dst v) (.inRegion ops rest::items)) cs w') :=
  ⟨λv w' hr=>.one (c9 (a:=⟨tmps,ds⟩) ho hw G6 hr),λw' hr=>.one (eY (a:=⟨tmps,ds⟩) ho hw G6 hr)⟩
 have K7:∀v w',lone ((b.atR ⟨tmps,ds⟩ (.inRegion ops (i::rest)::items)).finish v) cs w'=lone (b.atR ((⟨tmps,ds⟩:Act).put o.dst v) (.inRegion ops rest::items)) cs w':=λv w'=>by
  rw[Frame.finish_atR,ho];rfl
 have Mi:∀v w',lone ((b.atR ⟨tmps,ds⟩ (.inRegion ops (i::rest)::items)).raise [{ v,recovered:=false }]) cs w'=lone { b.atR ⟨tmps,ds⟩ (.inRegion ops (i::rest)::items) with mode:=.panicking [{ v,recovered:=false }] } cs w':=λv w'=>by
  rw[Frame.raise_atR]
 obtain⟨d,op,ty,pos,AK,gd⟩:=o;cases op
 case move=>exact aHH h X e
 case assign=>exact aBu h X e
 case pick=>exact aHI h X e
 case alloc=>exact aEm h AP X e
 case box=>exact aOa h AP X e
 case build=>exact aEo h X e
 case buildSlice=>exact a7T h X e
 case load=>exact aHG h X e
 case store=>exact aEr h X e
 case nilCheck=>exact a6D h X e
 case binOp=>exact aEn h X e
 case unOp=>exact aHJ h X e
 case fieldAddr=>exact a5x h X e
 case indexAddr=>exact a5z h X e
 case slice=>exact aEq h X e
 case makeInterface=>exact a61 h X e
 case typeAssert=>exact a7U h X e
 case makeFunc=>exact a6C h X e
 case extract=>exact a7q h X e
 case panic=>exact aEp h (λv hr=>.one (a7D (a:=⟨tmps,ds⟩) ho hw G6 hr)) e
 case call=>exact aHF h BO AP X (λf args hr=>.one (jW (a:=⟨tmps,ds⟩) ho hw G6 hr)) (λl f t x y hr=>.one (lZ (a:=⟨tmps,ds⟩) ho hw G6 hr)) K7 Mi e
 all_goals (simp[aC] at e)
end
section
variable {P:Program}{ans:FuncId->AF}{an:AF}{w:World}{B0:Nat}{Ψ:HT}{J:List Nat}{ow:Own}{tmps:Array Value}{R:Type}{r:R}
variable {tm:List Slot}{rs:RS}{kp:ae->RS->Option R}{ds:List Deferred}{drawn:Bool}{cf:aI}
def gF(P:Program)(ans:FuncId->AF)(an:AF)(drawn:Bool)(cf:aI)(tm:List Slot)(rid:Nat)(ops:Array Oper)(kp:ae->RS->Option R)(kn:RS->Option R):List Nat->RS->Option R
 |[],rs=>kn rs
 |i::l,rs=>match ops[i]? with
  |some o=>iA P ans an drawn cf tm rid ops kp o i rs λrs'=>gF P ans an drawn cf tm rid ops kp kn l rs'
  |none=>none
theorem a33{rid:Nat}{ops:Array Oper}{kn:RS->Option R}:∀(n i:Nat)(rs:RS),i+n=ops.size->j3 P ans an drawn cf tm rid ops kp kn (ops.toList.drop i) i rs=gF P ans an drawn cf tm rid ops kp kn (List.range' i n) rs
 |0,i,rs,h=>by
  rw[List.drop_of_length_le (by simp;omega)];rfl
 |n+1,i,rs,h=>by
  have hi:i<ops.size:=by omega
  rw[Dy (by simpa using hi),Fs];simp only[j3,gF,Array.getElem_toList,Bj hi];congr 1;funext rs';exact a33 n (i+1) rs' (by omega)
theorem lP{rid:Nat}{ops:Array Oper}{kn:RS->Option R}(rs:RS):j3 P ans an drawn cf tm rid ops kp kn ops.toList 0 rs=gF P ans an drawn cf tm rid ops kp kn (List.range ops.size) rs:=by
 have:=a33 (P:=P) (ans:=ans) (an:=an) (drawn:=drawn) (cf:=cf) (tm:=tm) (rid:=rid) (ops:=ops) (kp:=kp) (kn:=kn) ops.size 0 rs (by omega)
 rw[Gh] at this;rw[this,List.range_eq_range']
def ij(tm:List Slot):Prop:=∀s∈tm,∀u o,s≠.ref u o
theorem a3L:∀{sc:List (Nat×Slot)}{t:Nat}{s:Slot},bV sc t=some s->∃p∈sc,p.1=t
 |[],t,s,h=>by simp[bV] at h
 |(k,x)::sc,t,s,h=>by
  simp only[bV] at h;cases hk:Nat.beq k t with
  |true=>exact⟨(k,x),by simp,Aa hk⟩
  |false =>
   rw[hk] at h;obtain⟨p,hp,he⟩:=a3L (show bV sc t=some s from h);exact⟨p,by simp[hp],he⟩
theorem oF:∀{ks:List Nat}{tm:List Slot}{t:Nat},bg ks tm t=.dead\/bg ks tm t∈tm
 |[],tm,t=>.inl (by cases tm<;>rfl)
 |k::ks,[],t=>.inl rfl
 |k::ks,s::ss,t=>by
  simp only[bg];cases hk:Nat.beq k t with
  |true=>exact .inr (by simp)
  |false=>rcases oF (ks:=ks) (tm:=ss) (t:=t) with h|h
          ·exact .inl h
          ·exact .inr (by simp only[Bh];exact Ek _ h)
theorem a1K(hn:ij tm){t d o:Nat}(h:sl an tm rs t=.ref d o):∃p∈rs.sc,bV rs.sc p.1=some (.ref d o):=by
 unfold sl RS.look at h
 split at h
 ·rename_i s hs
  subst h;obtain⟨p,hp,he⟩:=a3L hs;exact⟨p,hp,by rw[he];exact hs⟩
 ·rcases oF (ks:=an.keep) (tm:=tm) (t:=t) with h1|h1
  ·rw[h1] at h;cases h
  ·exact absurd h (hn _ h1 d o)
theorem Rel.dst(h:Rel P ans B0 w Ψ J ow an (sl an tm rs) tmps rs.sto.objs)(hn:ij tm){o:Oper}{s:Slot}{v:Value}(hs:bX w B0 Ψ J ow tmps an.nt s v)
  (Hk:∀u x,s=.ref u x->∃cs,sl an tm rs u=.box cs) (Hu:∀cs,s=.box cs->∃d,o.dst=some d/\an.loc.contains d=true) (EE:dW an o s rs=true) :
  ∃AO,Rel P ans B0 w Ψ J AO an (sl an tm (rs.jq o.dst s)) ((⟨tmps,ds⟩:Act).put o.dst v).tmps rs.sto.objs/\Fr w Ψ ow w Ψ AO:=by
 unfold dW at EE;cases hd:o.dst with
 |none=>exact⟨ow,h,Fr.refl _ _ _⟩
 |some d =>
  rw[hd] at EE Hu;simp only[Ac,Ck,Cz] at EE;obtain⟨⟨h1,h2⟩,h3⟩:=EE;have YR:d<an.nt:=by simpa[Cy] using h1
  have YE:∀u x,s=.ref u x->u≠d:=λu x he hh=>by
   subst he;simp only[Cz] at h2;subst hh
   have:Nat.beq u u=true:=Ci u
   rw[this] at h2;cases h2
  refine⟨fE ow false an.nt false d 0,?_,Fr.fE _ _ _⟩;rw[show sl an tm (rs.jq (some d) s)=jl (sl an tm rs) d s from dJ _ _ _ _ _];refine h.write d s v YR (λt x he=>?_) (λu x he=>⟨YE u x he,Hk u x he⟩) (λcs he=>?_) Ψ.le_refl (aG _) h.b_ (λt ht KY=>eV _ _ _ (by simp;omega)) ?_ (h.objs.mono Ψ.le_refl λi _=>eV _ _ _ (by simp)) (λb hb=>h.lt b (lT _ hb)) (Ae _)
  ·rcases h3 with h3|h3
   ·obtain⟨cs,hc⟩:=h.refs t d x he
    have:=h.boxes d cs hc
    rw[h3] at this;cases this
   ·obtain⟨p,hp,hl⟩:=a1K hn he
    have:=Au.1 h3 p hp
    rw[hl] at this;simp only[Cz] at this;have hb:Nat.beq d d=true:=Ci d;rw[hb] at this;cases this
  ·obtain⟨d',Nb,hl⟩:=Hu cs he
   cases Nb;exact hl
  ·refine hs.mono Ψ.le_refl (aG _) (x7 _ _ _) (λu x he=>?_)
   rw[eF _ _ _ _ (by rw[h.size];exact YR),Bf (YE u x he)]
def pP(P:Program)(ans:FuncId->AF)(an:AF)(w:World)(B0:Nat)(Ψ:HT)(J:List Nat)(ow:Own)(tm:List Slot)(rs:RS)(ds:List Deferred)(b:Frame)(cs:List Frame)(m:Machine)(todo:List Item)(kp:ae->RS->Option R)(next:RS->Option R)(r:R):Prop :=
 (∃rs' w' Z' J' AO tmps',next rs'=some r/\Rel P ans B0 w' Z' J' AO an (sl an tm rs') tmps' rs'.sto.objs/\Fr w Ψ ow w' Z' AO/\pre J J'/\gr rs.sto rs'.sto/\Steps P m (lone (b.atR ⟨tmps',ds⟩ todo) cs w')) \/
 (∃x rs' v w' Z' J' AO tmps' DF,kp x rs'=some r/\Rel P ans B0 w' Z' J' AO an (sl an tm rs') tmps' rs'.sto.objs/\am Z' J' x v/\Fr w Ψ ow w' Z' AO/\pre J J'/\gr rs.sto rs'.sto /\
  Steps P m (lone { b.atR ⟨tmps',ds⟩ DF with mode:=.panicking [{ v,recovered:=false }] } cs w'))
theorem a32(h:Rel P ans B0 w Ψ J ow an (sl an tm rs) tmps rs.sto.objs)(BO:kC P ans B0 cf)(hn:ij tm)(AP:rs.sto.lo<=rs.sto.objs.length){rid:Nat}{o:Oper}{b:Frame}{ops:Array Oper}{i:Nat}{rest:List Nat}{items:List Item}{cs:List Frame}{next:RS->Option R}
  (ho:ops[i]?=some o) (e:iA P ans an drawn cf tm rid ops kp o i rs next=some r) :
  pP P ans an w B0 Ψ J ow tm rs ds b cs (lone (b.atR ⟨tmps,ds⟩ (.inRegion ops (i::rest)::items)) cs w) (.inRegion ops rest::items) kp next r:=by
 have go:∀(lc:List Nat)(rs0:RS),rs0.sto=rs.sto->Rel P ans B0 w Ψ J ow an (sl an tm rs0) tmps rs0.sto.objs->Region.wanted o (yielded ops tmps)=true ->
   aC P ans an drawn (an.pure.contains (rid,i)) lc cf tm (an.take.contains (rid,i)) o rs0 kp (λs rs'=>aJ (dW an o s rs') (next (rs'.jq o.dst s)))=some r ->
   pP P ans an w B0 Ψ J ow tm rs ds b cs (lone (b.atR ⟨tmps,ds⟩ (.inRegion ops (i::rest)::items)) cs w) (.inRegion ops rest::items) kp next r:=λlc rs0 G4 h0 hw e=>by
  rcases aE1 (ds:=ds) (b:=b) (items:=items) (cs:=cs) (rest:=rest) h0 BO (by rw[G4];exact AP) ho hw e with⟨s,rs',v,w',Z',J',AO,a1,a2,a3,a4,a5,a6,a7,a8,a9⟩|⟨x,rs',v,w',Z',J',AO,a1,a2,a3,a6,a7,a8,a9⟩
  ·obtain⟨hg,a1⟩:=aB a1
   obtain⟨CG,b1,b2⟩:=a2.dst (ds:=ds) hn a3 a4 a5 hg;have C9:(rs'.jq o.dst s).sto=rs'.sto:=by cases o.dst<;>rfl
   have Mz:((⟨tmps,ds⟩:Act).put o.dst v)=⟨((⟨tmps,ds⟩:Act).put o.dst v).tmps,ds⟩:=by cases o.dst<;>rfl
   refine .inl ⟨_,w',Z',J',CG,_,a1,by rw[C9];exact b1,a6.trans b2,a7,by rw[C9,<-G4];exact a8,?_⟩;rw[<-Mz];exact a9
  ·exact .inr ⟨x,rs',v,w',Z',J',AO,tmps,_,a1,a2,a3,a6,a7,by rw[<-G4];exact a8,a9⟩
 unfold iA at e;simp only at e
 split at e
 ·rename_i hg
  exact go _ rs rfl h (by simp[Region.wanted,hg]) e
 ·rename_i j want hg
  split at e
  ·cases e
  ·rename_i d hd
   have fin:∀(rs0:RS),rs0.sto=rs.sto->Rel P ans B0 w Ψ J ow an (sl an tm rs0) tmps rs0.sto.objs->yielded ops tmps j≠some want->dW an o .dead rs0=true->next (rs0.jq o.dst (.aj []))=some r ->
     pP P ans an w B0 Ψ J ow tm rs ds b cs (lone (b.atR ⟨tmps,ds⟩ (.inRegion ops (i::rest)::items)) cs w) (.inRegion ops rest::items) kp next r:=λrs0 G4 Hj hy Mg e=>by
    have hwf:((ops[i]?).map (Region.wanted · (yielded ops tmps))).getD false=false:=by
     simp[ho,Region.wanted,hg,hy]
    obtain⟨CG,b1,b2⟩:=Hj.dst (ds:=ds) (v:=undef) (s:=.aj []) hn (.aj [] [] rfl (λi x v h=>by simp at h)) (λu x he=>by cases he) (λcs he=>by cases he) Mg;have C9:(rs0.jq o.dst (.aj [])).sto=rs.sto:=by rw[<-G4];cases o.dst<;>rfl
    have Mz:((⟨tmps,ds⟩:Act).put o.dst undef)=⟨((⟨tmps,ds⟩:Act).put o.dst undef).tmps,ds⟩:=by cases o.dst<;>rfl
    refine .inl ⟨_,w,Ψ,J,CG,_,e,by rw[C9,<-G4];exact b1,b2,aG _,by rw[C9];exact gr.refl _,?_⟩;rw[<-Mz]
    have:=stepR_op_skip (P:=P) (b:=b) (a:=⟨tmps,ds⟩) (k:=items) (cs:=cs) (w:=w) (rest:=rest) hwf
    rw[ho] at this;exact .one this
   have U2:(∃bb lc,sl an tm rs d=.val (.bool bb)/\(match bb==want with
     |true=>aC P ans an drawn (an.pure.contains (rid,i)) lc cf tm (an.take.contains (rid,i)) o (rs.put d (.val (.bool bb))) kp λs rs'=>aJ (dW an o s rs') (next (rs'.jq o.dst s))
     |false=>aJ (dW an o .dead rs) (next ((rs.put d (.val (.bool bb))).jq o.dst (.aj []))))=some r) \/
     (sl an tm rs d=.aj []/\aJ (dW an o .dead rs) (next (rs.jq o.dst (.aj [])))=some r):=by
    unfold pE at e
    split at e
    ·rename_i bb hb
     exact .inl ⟨bb,_,hb,e⟩
    ·rename_i hb
     exact .inr ⟨hb,e⟩
    ·cases e
   rcases U2 with⟨bb,lc,hs,e⟩|⟨hs,e⟩
   rotate_left
   ·obtain⟨EE,e⟩:=aB e
    refine fin rs rfl h ?_ EE e;have FC:=h.dr d;rw[hs] at FC
    have hv:tmps.getD d undef=.tuple #[]:=by
     generalize tmps.getD d undef=v at FC;cases FC with
     |aj _ vs hl _ =>
      have:vs=[]:=Ds.1 hl.symm
      subst this;rfl
    have:yielded ops tmps j=none:=by
     simp only[yielded,hd,Ar];rw[Af] at hv;cases hh:tmps[d]? with
     |none=>rfl
     |some x=>rw[hh] at hv;simp only[Cm] at hv;subst hv;rfl
    rw[this];simp
   have hv:tmps.getD d undef=.bool bb:=by
    have FC:=h.dr d;rw[hs] at FC;generalize tmps.getD d undef=v at FC;cases FC with
    |val _ _ hh=>cases hh;rfl
   have B6:sl an tm (rs.put d (.val (.bool bb)))=sl an tm rs:=by
    rw[show sl an tm (rs.put d (.val (.bool bb)))=jl (sl an tm rs) d (.val (.bool bb)) from dJ _ _ _ _ _];funext t;by_cases ht:t=d
    ·subst ht;rw[eB];exact hs.symm
    ·rw[bD _ _ ht]
   have hdb:tmps[d]?=some (.bool bb):=by
    rw[Af] at hv;cases hh:tmps[d]? with
    |none=>rw[hh] at hv;simp[undef] at hv
    |some x=>rw[hh] at hv;simpa using hv
   have hy:yielded ops tmps j=some bb:=by simp[yielded,hd,hdb]
   have Hj:Rel P ans B0 w Ψ J ow an (sl an tm (rs.put d (.val (.bool bb)))) tmps (rs.put d (.val (.bool bb))).sto.objs:=by rw[B6];exact h
   cases pe:bb==want with
   |true =>
    rw[pe] at e;refine go _ (rs.put d (.val (.bool bb))) rfl Hj ?_ e
    have:bb=want:=by simpa using pe
    simp[Region.wanted,hg,hy,this]
   |false =>
    rw[pe] at e;simp only at e;obtain⟨EE,e⟩:=aB e
    have Mg:dW an o .dead (rs.put d (.val (.bool bb)))=true:=by
     unfold dW at EE ⊢;cases GC:o.dst with
     |none=>rfl
     |some d' =>
      rw[GC] at EE;simp only[Ac,Ck,Cz] at EE ⊢;refine⟨EE.1,?_⟩;rcases EE.2 with h3|h3
      ·exact .inl h3
      ·refine .inr (Au.2 λp hp=>?_)
       simp only[RS.put,As] at hp
       have CV:bV (rs.put d (.val (.bool bb))).sc p.1=if d=p.1 then some (.val (.bool bb)) else bV rs.sc p.1:=by
        simp only[RS.put,bV];cases hb:Nat.beq d p.1 with
        |true=>rw[Br (Aa hb)];rfl
        |false =>
         rw[Bf];rfl;intro he;rw[he,show Nat.beq p.1 p.1=true from Ci p.1] at hb;cases hb
       rw[CV];by_cases wz:d=p.1
       ·rw[Br wz]
       ·rw[Bf wz]
        rcases hp with hp|hp
        ·subst hp;exact absurd rfl wz
        ·exact Au.1 h3 p hp
    exact fin (rs.put d (.val (.bool bb))) rfl Hj (λhc=>by rw[hy] at hc;rw[Bp hc] at pe;simp at pe) Mg e
theorem n8(BO:kC P ans B0 cf)(hn:ij tm){rid:Nat}{b:Frame}{ops:Array Oper}{items:List Item}{cs:List Frame}{kn:RS->Option R}:∀{l:List Nat}{rs:RS}{w:World}{Ψ:HT}{J:List Nat}{ow:Own}{tmps:Array Value},
  Rel P ans B0 w Ψ J ow an (sl an tm rs) tmps rs.sto.objs->rs.sto.lo<=rs.sto.objs.length->gF P ans an drawn cf tm rid ops kp kn l rs=some r ->
  pP P ans an w B0 Ψ J ow tm rs ds b cs (lone (b.atR ⟨tmps,ds⟩ (.inRegion ops l::items)) cs w) (.inRegion ops []::items) kp kn r
 |[],rs,w,Ψ,J,ow,tmps,h,AP,e=>.inl ⟨rs,w,Ψ,J,ow,tmps,e,h,Fr.refl _ _ _,aG _,gr.refl _,Steps.refl _ _⟩
 |i::l,rs,w,Ψ,J,ow,tmps,h,AP,e=>by
  simp only[gF] at e
  split at e
  ·rename_i o ho
   rcases a32 (ds:=ds) (b:=b) (items:=items) (cs:=cs) (rest:=l) h BO hn AP ho e with⟨rs',w',Z',J',AO,tmps',a1,a2,a3,a4,a5,a6⟩|⟨x,rs',v,w',Z',J',AO,tmps',DF,a1,a2,a3,a4,a5,a6,a7⟩
   ·rcases n8 BO hn (b:=b) (items:=items) (cs:=cs) a2 (by rw[a5.lo];exact Bi AP a5.len) a1 with⟨rs2,w2,Z2,J2,CG,CC,b1,b2,b3,b4,b5,b6⟩|⟨x,rs2,v,w2,Z2,J2,CG,CC,Ji,b1,b2,b3,b4,b5,b6,b7⟩
    ·exact .inl ⟨rs2,w2,Z2,J2,CG,CC,b1,b2,a3.trans b3,dF a4 b4,a5.trans b5,a6.trans b6⟩
    ·exact .inr ⟨x,rs2,v,w2,Z2,J2,CG,CC,Ji,b1,b2,b3,a3.trans b4,dF a4 b5,a5.trans b6,a6.trans b7⟩
   ·exact .inr ⟨x,rs',v,w',Z',J',AO,tmps',DF,a1,a2,a3,a4,a5,a6,a7⟩
  ·cases e
end
section
variable {P:Program}{ans:FuncId->AF}{an:AF}{w:World}{B0:Nat}{Ψ:HT}{J:List Nat}{ow:Own}{tmps:Array Value}{R:Type}{r:R}
variable {tm:List Slot}{rs:RS}{ds:List Deferred}{cf:aI}{lp:aO}
theorem Rel.tR{E E':Nat->Slot}{objs:List ai}(h:Rel P ans B0 w Ψ J ow an E tmps objs)(hE:∀t,E' t=.dead\/(E' t=E t/\∀u o,E' t≠.ref u o)\/∃sz,E' t=.own sz []/\E t=.nl):Rel P ans B0 w Ψ J ow an E' tmps objs:=by
 refine⟨h.size,h.b_,λt=>?_,λd u o e=>?_,λt cs e=>?_,h.objs,h.lt,h.base,λt ht=>?_⟩
 ·rcases hE t with h1|⟨h1,_⟩|⟨sz,h1,h2⟩
  ·rw[h1];exact .dead _
  ·rw[h1];exact h.dr t
  ·have:=h.dr t
   rw[h2] at this;rw[h1];generalize tmps.getD t undef=v at this;cases this with|nl=>exact .own _ _ _ (xX _ _)
 ·rcases hE d with h1|⟨_,h2⟩|⟨sz,h1,_⟩
  ·rw[h1] at e;cases e
  ·exact absurd e (h2 u o)
  ·rw[h1] at e;cases e
 ·rcases hE t with h1|⟨h1,_⟩|⟨sz,h1,_⟩
  ·rw[h1] at e;cases e
  ·rw[h1] at e;exact h.boxes t cs e
  ·rw[h1] at e;cases e
 ·rcases hE t with h1|⟨h1,_⟩|⟨sz,h1,h2⟩
  ·exact h1
  ·rw[h1];exact h.hi t ht
  ·have:=h.hi t ht;rw[h2] at this;cases this
theorem l5:∀(ks:List Nat)(tm:List Slot)(sc:List (Nat×Slot))(t:Nat),bg ks (ed ks tm sc) t=.dead\/bg ks (ed ks tm sc) t=(match bV sc t with|some s=>lS s|none=>bg ks tm t)
 |[],tm,sc,t=>.inl (by cases tm<;>rfl)
 |k::ks,[],sc,t=>.inl rfl
 |k::ks,s::ss,sc,t=>by
  simp only[ed,bg];cases hk:Nat.beq k t with
  |true =>
   have:=Aa hk
   subst this;exact .inr rfl
  |false =>
   simp only[Bh];exact l5 ks ss sc t
theorem a3i(h:List (Nat×Option Nat)):∀(ks:List Nat)(tm:List Slot)(t:Nat),bg ks (gP h ks tm) t=.dead\/bg ks (gP h ks tm) t=mV (We h t) (bg ks tm t)
 |[],tm,t=>.inl (by cases tm<;>rfl)
 |k::ks,[],t=>.inl rfl
 |k::ks,s::ss,t=>by
  simp only[gP,bg];cases hk:Nat.beq k t with
  |true =>
   have:=Aa hk
   subst this;exact .inr rfl
  |false =>
   simp only[Bh];exact a3i h ks ss t
theorem sQ(f:Slot->Slot)(hf:f .dead=.dead):∀(ks:List Nat)(tm:List Slot)(t:Nat),bg ks (tm.map f) t=f (bg ks tm t)
 |[],tm,t=>by cases tm<;>simp[bg,hf]
 |k::ks,[],t=>by simp[bg,hf]
 |k::ks,s::ss,t=>by
  simp only[Ba,bg];cases hk:Nat.beq k t with
  |true=>rfl
  |false=>exact sQ f hf ks ss t
theorem ij.bg(h:ij tm)(ks:List Nat)(t u o:Nat):bg ks tm t≠.ref u o:=by
 rcases oF (ks:=ks) (tm:=tm) (t:=t) with h1|h1
 ·rw[h1];simp
 ·exact h _ h1 u o
theorem a6F(s:Slot)(u o:Nat):lS s≠.ref u o:=by cases s<;>simp[lS]
theorem ij.ed:∀{ks:List Nat}{tm:List Slot}{sc:List (Nat×Slot)},ij tm->ij (ed ks tm sc)
 |[],tm,sc,h=>by cases tm<;>(intro s hs;simp[AM.ed] at hs)
 |k::ks,[],sc,h=>by intro s hs;simp[AM.ed] at hs
 |k::ks,s::ss,sc,h=>by
  intro x hx u o;simp only[AM.ed,As] at hx;rcases hx with hx|hx
  ·subst hx
   split
   ·exact a6F _ u o
   ·exact h s (by simp) u o
  ·exact ij.ed (ks:=ks) (tm:=ss) (sc:=sc) (λy hy=>h y (by simp[hy])) x hx u o
theorem a5w{c:Option (Option Nat)}{s:Slot}(h:∀u o,s≠.ref u o)(u o:Nat):mV c s≠.ref u o:=by
 unfold mV;split
 ·simp
 ·exact h u o
 ·split
  ·simp
  ·exact h u o
theorem ij.head(hh:List (Nat×Option Nat)):∀{ks:List Nat}{tm:List Slot},ij tm->ij (gP hh ks tm)
 |[],tm,h=>by cases tm<;>(intro s hs;simp[gP] at hs)
 |k::ks,[],h=>by intro s hs;simp[gP] at hs
 |k::ks,s::ss,h=>by
  intro x hx u o;simp only[gP,As] at hx;rcases hx with hx|hx
  ·subst hx;exact a5w (h s (by simp)) u o
  ·exact ij.head hh (ks:=ks) (tm:=ss) (λy hy=>h y (by simp[hy])) x hx u o
structure At (P:Program) (ans:FuncId->AF) (fid:FuncId) (B0:Nat) (w:World) (Ψ:HT) (J:List Nat) (ow:Own) (st:St) (tmps:Array Value):Prop where
 rel:Rel P ans B0 w Ψ J ow (ans fid) (sl (ans fid) st.tm ⟨[],st.sto⟩) tmps st.sto.objs
 nr:ij st.tm
 lo:st.sto.lo<=st.sto.objs.length
theorem At.ed{fid:FuncId}{sto:AH}(hn:ij tm)(h:Rel P ans B0 w Ψ J ow (ans fid) (sl (ans fid) tm rs) tmps rs.sto.objs)(AP:rs.sto.lo<=rs.sto.objs.length)(hs:sto=rs.sto):At P ans fid B0 w Ψ J ow ⟨ed (ans fid).keep tm rs.sc,sto⟩ tmps:=by
 subst hs;refine⟨h.tR λt=>?_,hn.ed,AP⟩;show bg (ans fid).keep (AM.ed (ans fid).keep tm rs.sc) t=.dead\/_;rcases l5 (ans fid).keep tm rs.sc t with h1|h1
 ·exact .inl h1
 ·show _\/(bg (ans fid).keep (AM.ed (ans fid).keep tm rs.sc) t=RS.look (ans fid).keep tm rs t/\∀u o,bg (ans fid).keep (AM.ed (ans fid).keep tm rs.sc) t≠.ref u o)\/_
  rw[h1];unfold RS.look;cases hs:bV rs.sc t with
  |some s =>
   by_cases hr:∃u o,s=.ref u o
   ·obtain⟨u,o,rfl⟩:=hr;exact .inl rfl
   ·have:lS s=s:=by cases s<;>simp_all [lS]
    simp only[this];exact .inr (.inl ⟨trivial,λu o he=>hr ⟨u,o,he⟩⟩)
  |none=>exact .inr (.inl ⟨rfl,λu o=>hn.bg _ _ _ _⟩)
theorem aBO{objs:List ai}{s:Slot}(h:∀u o,s≠.ref u o)(u o:Nat):iL objs s≠.ref u o:=by
 unfold iL;split
 ·cases Nat.beq _ _
  ·exact h u o
  ·simp only[Bo]
   split
   ·simp
   ·exact h u o
 ·exact h u o
theorem ij.nN{objs:List ai}{l:List Nat}:∀{ks:List Nat}{tm:List Slot},ij tm->ij (dZ objs l ks tm)
 |[],tm,h=>by cases tm<;>(intro s hs;simp[dZ] at hs)
 |k::ks,[],h=>by intro s hs;simp[dZ] at hs
 |k::ks,s::ss,h=>by
  intro x hx u o;simp only[dZ,As] at hx;rcases hx with hx|hx
  ·subst hx
   cases l.contains k
   ·exact h s (by simp) u o
   ·exact aBO (h s (by simp)) u o
  ·exact ij.nN (ks:=ks) (tm:=ss) (λy hy=>h y (by simp[hy])) x hx u o
theorem a3k{objs:List ai}{l:List Nat}:∀(ks:List Nat)(tm:List Slot)(t:Nat),bg ks (dZ objs l ks tm) t=.dead\/bg ks (dZ objs l ks tm) t=bg ks tm t\/bg ks (dZ objs l ks tm) t=iL objs (bg ks tm t)
 |[],tm,t=>.inl (by cases tm<;>rfl)
 |k::ks,[],t=>.inl rfl
 |k::ks,s::ss,t=>by
  simp only[dZ,bg];cases hk:Nat.beq k t with
  |true =>
   simp only[Bo];cases l.contains k
   ·exact .inr (.inl rfl)
   ·exact .inr (.inr rfl)
  |false =>
   simp only[Bh];exact a3k ks ss t
theorem At.nN{fid:FuncId}{st:St}(h:At P ans fid B0 w Ψ J ow st tmps)(l:List Nat):At P ans fid B0 w Ψ J ow { st with tm:=dZ st.sto.objs l (ans fid).keep st.tm } tmps:=by
 have HP:=λt u o=>h.nr.bg (ans fid).keep t u o
 have hE:∀t,sl (ans fid) (dZ st.sto.objs l (ans fid).keep st.tm) ⟨[],st.sto⟩ t=.dead\/sl (ans fid) (dZ st.sto.objs l (ans fid).keep st.tm) ⟨[],st.sto⟩ t=sl (ans fid) st.tm ⟨[],st.sto⟩ t\/sl (ans fid) (dZ st.sto.objs l (ans fid).keep st.tm) ⟨[],st.sto⟩ t=iL st.sto.objs (sl (ans fid) st.tm ⟨[],st.sto⟩ t):=λt=>a3k _ _ _
 have Hs:∀t,sl (ans fid) (dZ st.sto.objs l (ans fid).keep st.tm) ⟨[],st.sto⟩ t=.dead\/sl (ans fid) (dZ st.sto.objs l (ans fid).keep st.tm) ⟨[],st.sto⟩ t=sl (ans fid) st.tm ⟨[],st.sto⟩ t\/∃i v,sl (ans fid) st.tm ⟨[],st.sto⟩ t=.val (.loc i 0)/\st.sto.objs[i]?=some (.fw v)/\sl (ans fid) (dZ st.sto.objs l (ans fid).keep st.tm) ⟨[],st.sto⟩ t=.val v:=λt=>by
  rcases hE t with h1|h1|h1
  ·exact .inl h1
  ·exact .inr (.inl h1)
  ·generalize hs:sl (ans fid) st.tm ⟨[],st.sto⟩ t=s at h1
   rw[h1];unfold iL;split
   ·rename_i i o
    cases hb:Nat.beq o 0 with
    |false=>exact .inr (.inl rfl)
    |true =>
     obtain rfl:=Aa hb;simp only[Bo];split
     ·rename_i v hv;exact .inr (.inr ⟨i,v,rfl,hv,rfl⟩)
     ·exact .inr (.inl rfl)
   ·exact .inr (.inl rfl)
 refine⟨⟨h.rel.size,h.rel.b_,λt=>?_,λd u o hd=>?_,λt cs ht=>?_,h.rel.objs,h.rel.lt,h.rel.base,λt ht=>?_⟩,h.nr.nN,h.lo⟩
 ·rcases Hs t with h1|h1|⟨i,v,h1,h2,h3⟩
  ·rw[h1];exact .dead _
  ·rw[h1];exact h.rel.dr t
  ·rw[h3]
   have hs:=h.rel.dr t;rw[h1] at hs;obtain⟨b,hb,ho⟩:=h.rel.objs.2 i _ h2;generalize tmps.getD t undef=u at hs;cases hs with
   |val _ _ hv=>cases hv with
    |loc _ _ b' BC =>
     rw[hb] at BC;cases BC;cases ho with
     |fw _ _ hf=>exact .val _ _ (hf.mono Ψ.le_refl (pre_nil _))
 ·exact absurd hd ((h.nr.nN (objs:=st.sto.objs) (l:=l) (ks:=(ans fid).keep)).bg _ _ _ _)
 ·rcases Hs t with h1|h1|⟨i,v,_,_,h3⟩
  ·rw[h1] at ht;cases ht
  ·rw[h1] at ht;exact h.rel.boxes t cs ht
  ·rw[h3] at ht;cases ht
 ·rcases Hs t with h1|h1|⟨i,v,h1,_,_⟩
  ·exact h1
  ·rw[h1];exact h.rel.hi t ht
  ·have:=h.rel.hi t ht;rw[h1] at this;cases this
theorem At.a0Q{fid:FuncId}{st:St}(h:At P ans fid B0 w Ψ J ow st tmps)(c:Code):At P ans fid B0 w Ψ J ow (nX (ans fid) c st) tmps/\(nX (ans fid) c st).sto=st.sto:=by
 unfold nX;split
 ·rename_i hh _
  refine⟨⟨h.rel.tR λt=>?_,h.nr.head hh,h.lo⟩,rfl⟩;show bg (ans fid).keep (gP hh (ans fid).keep st.tm) t=.dead\/(bg (ans fid).keep (gP hh (ans fid).keep st.tm) t=bg (ans fid).keep st.tm t/\∀u o,bg (ans fid).keep (gP hh (ans fid).keep st.tm) t≠.ref u o)\/∃sz,bg (ans fid).keep (gP hh (ans fid).keep st.tm) t=_/\bg (ans fid).keep st.tm t=_;have HP:=λu o=>h.nr.bg (ans fid).keep t u o
  rcases a3i hh (ans fid).keep st.tm t with h1|h1
  ·exact .inl h1
  ·rw[h1]
   unfold mV;split
   ·exact .inl rfl
   ·exact .inr (.inl ⟨rfl,HP⟩)
   ·split
    ·exact .inr (.inr ⟨_,rfl,by assumption⟩)
    ·exact .inr (.inl ⟨rfl,HP⟩)
 ·exact⟨h,rfl⟩
theorem At.head{fid:FuncId}{st:St}(h:At P ans fid B0 w Ψ J ow st tmps)(c:Code):At P ans fid B0 w Ψ J ow (e8 (ans fid) c st) tmps/\(e8 (ans fid) c st).sto=st.sto:=by
 unfold e8;split
 ·exact h.a0Q c
 ·exact(h.nN _).a0Q c
structure oM (w:World) (ow:Own) (B1:Nat) (ds:List Deferred):Prop where
 all:∀d∈ds,∃D,d.target=.collected D/\w.heap[D]?=some (.deferred (some []))/\ow D=none/\B1<=D
 nodup:ds.Pairwise λd d'=>d.target≠d'.target
theorem oM.nil(w:World)(ow:Own)(B1:Nat):oM w ow B1 []:=⟨by simp,by simp⟩
theorem oM.mono{w':World}{Z':HT}{AO:Own}{B1:Nat}(h:oM w ow B1 ds)(hF:Fr w Ψ ow w' Z' AO):oM w' AO B1 ds :=
 ⟨λd hd=>by
  obtain⟨D,h1,h2,h3,h4⟩:=h.all d hd;have AL:D<w.heap.size:=(An.1 h2).1;refine⟨D,h1,(hF.keep D AL h3).1.trans h2,?_,h4⟩;cases e:AO D with
  |none=>rfl
  |some x=>rcases hF.own D (by simp[e]) with h5|h5
           ·exact absurd h3 h5
           ·omega,h.nodup⟩
def Marks(w:World)(ow:Own)(B1:Nat)(b:Frame)(ds:List Deferred):Prop:=∃ms,ds=ms++b.defers/\oM w ow B1 ms
theorem Marks.nil(w:World)(ow:Own)(B1:Nat){b:Frame}(h:b.defers=[]:=by rfl):Marks w ow B1 b []:=⟨[],by rw[h];rfl,.nil w ow B1⟩
theorem Marks.mono{w':World}{Z':HT}{AO:Own}{B1:Nat}{b:Frame}(h:Marks w ow B1 b ds)(hF:Fr w Ψ ow w' Z' AO):Marks w' AO B1 b ds:=by
 obtain⟨ms,h1,h2⟩:=h;exact⟨ms,h1,h2.mono hF⟩
def tU(P:Program)(Ψ:HT)(J:List Nat)(b:Frame)(cs:List Frame)(items:List Item)(m:Machine)(tmps:Array Value)(ds:List Deferred)(w:World):bG->Prop
 |.norm=>Steps P m (lone (b.atR ⟨tmps,ds⟩ items) cs w)
 |.exit id=>∃k,exitTo id k=exitTo id items/\Steps P m (lone (b.atR ⟨tmps,ds⟩ (.code (.exit id)::k)) cs w)
 |.ret=>∃k,Steps P m (lone (b.atR ⟨tmps,ds⟩ (.code .ret::k)) cs w)
 |.be x=>∃v k,am Ψ J x v/\Steps P m (lone { b.atR ⟨tmps,ds⟩ k with mode:=.panicking [{ v,recovered:=false }] } cs w)
theorem tU.head{b:Frame}{cs:List Frame}{items:List Item}{m m1:Machine}{e:bG}(h:tU P Ψ J b cs items m1 tmps ds w e)(hs:Steps P m m1):tU P Ψ J b cs items m tmps ds w e:=by
 cases e with
 |norm=>exact hs.trans h
 |exit id=>obtain⟨k,h1,h2⟩:=h;exact⟨k,h1,hs.trans h2⟩
 |ret=>obtain⟨k,h2⟩:=h;exact⟨k,hs.trans h2⟩
 |be x=>obtain⟨v,k,h1,h2⟩:=h;exact⟨v,k,h1,hs.trans h2⟩
structure Rest (ans:FuncId->AF) (B0:Nat) (w:World) (Ψ:HT) (J:List Nat) (ow:Own) (sto:AH):Prop where
 b_:c_ Ψ w
 objs:i_ w B0 Ψ J ow ans sto.objs
 lt:∀b,ow b≠none->b<w.heap.size
def r9(P:Program)(ans:FuncId->AF)(fid:FuncId)(B0:Nat)(w:World)(Ψ:HT)(J:List Nat)(ow:Own)(st:St)(tmps:Array Value):bG->Prop
 |.be _=>Rest ans B0 w Ψ J ow st.sto
 |_=>At P ans fid B0 w Ψ J ow st tmps
theorem At.rest{fid:FuncId}{st:St}(h:At P ans fid B0 w Ψ J ow st tmps):Rest ans B0 w Ψ J ow st.sto:=⟨h.rel.b_,h.rel.objs,h.rel.lt⟩
theorem r9.rest{fid:FuncId}{st:St}{e:bG}(h:r9 P ans fid B0 w Ψ J ow st tmps e):Rest ans B0 w Ψ J ow st.sto:=by
 cases e with
 |be x=>exact h
 |norm=>exact At.rest h
 |exit=>exact At.rest h
 |ret=>exact At.rest h
def mj(P:Program)(ans:FuncId->AF)(fid:FuncId)(B0 B1:Nat)(w:World)(Ψ:HT)(J:List Nat)(ow:Own)(sto:AH)(b:Frame)(cs:List Frame)(items:List Item)(m:Machine)(e:bG)(AY:St):Prop :=
 ∃w' Z' J' AO tmps' DQ,r9 P ans fid B0 w' Z' J' AO AY tmps' e/\Marks w' AO B1 b DQ/\Fr w Ψ ow w' Z' AO/\pre J J'/\gr sto AY.sto/\tU P Z' J' b cs items m tmps' DQ w' e
theorem mj.head{fid:FuncId}{B1:Nat}{sto:AH}{b:Frame}{cs:List Frame}{items:List Item}{m m1:Machine}{e:bG}{AY:St}(h:mj P ans fid B0 B1 w Ψ J ow sto b cs items m1 e AY)(hs:Steps P m m1):mj P ans fid B0 B1 w Ψ J ow sto b cs items m e AY:=by
 obtain⟨w',Z',J',AO,tmps',DQ,h1,h2,h3,h4,h5,h6⟩:=h;exact⟨w',Z',J',AO,tmps',DQ,h1,h2,h3,h4,h5,h6.head hs⟩
theorem mj.pre{fid:FuncId}{B1:Nat}{sto Gy:AH}{b:Frame}{cs:List Frame}{items:List Item}{m:Machine}{e:bG}{AY:St}{w1:World}{Z1:HT}{J1:List Nat}{BR:Own}(h:mj P ans fid B0 B1 w1 Z1 J1 BR Gy b cs items m e AY)(h1:Fr w Ψ ow w1 Z1 BR)(h2:AM.pre J J1)(h3:gr sto Gy):mj P ans fid B0 B1 w Ψ J ow sto b cs items m e AY:=by
 obtain⟨w',Z',J',AO,tmps',DQ,a1,a2,a3,a4,a5,a6⟩:=h;exact⟨w',Z',J',AO,tmps',DQ,a1,a2,h1.trans a3,dF h2 a4,h3.trans a5,a6⟩
def qx(P:Program)(ans:FuncId->AF)(B0:Nat)(lp:aO):Prop :=
 ∀fid c st e AY,lp fid c st=some (e,AY)->∀B1 w Ψ J ow tmps ds b cs items,b.fn=fid->(b.roundOf=none\/b8 c=true)->At P ans fid B0 w Ψ J ow st tmps->Marks w ow B1 b ds->B1<=w.heap.size ->
  mj P ans fid B0 B1 w Ψ J ow st.sto b cs items (lone (b.atR ⟨tmps,ds⟩ (.code c::.inLoop c::items)) cs w) e AY
theorem nM{b:Frame}{a:Act}{k:List Item}{cs:List Frame}{c:Code}:step P (lone (b.atR a (.code (.scope c)::k)) cs w)=.next (lone (b.atR a (.code c::.inScope c::k)) cs w) :=
 step_lone_go (by simp[stepG,stepG.exec,Frame.atR])
theorem kG{b:Frame}{a:Act}{k:List Item}{cs:List Frame}{c:Code}:step P (lone (b.atR a (.inScope c::k)) cs w)=.next (lone (b.atR a k) cs w) :=
 step_lone_go (by simp[stepG,stepG.exec,Frame.atR])
theorem bX.snap{t:Nat}{s:Slot}{v:Value}{w':World}{Z':HT}{J':List Nat}{tmps':Array Value}(h:bX w B0 Ψ J ow tmps t s v)(hΨ:Ψ.le Z')(hp:pre J J'):bX w' 0 Z' J' (λ_=>none) tmps' t (dU s) v:=by
 cases h with
 |dead=>exact .dead _
 |val x v h=>exact .val x v (h.mono hΨ hp)
 |aj=>exact .dead _
 |own sz xs v h=>exact .val _ _ (h.rel.mono hΨ (pre_nil _))
 |full xs a n h=>exact .full xs a n (h.mono hΨ (aG _))
 |nl=>exact .nl
 |nn xs a n c h=>exact .nn xs a n c (h.mono hΨ (aG _))
 |cells cs vs h=>exact .val _ _ (h.agg.mono hΨ hp)
 |box=>exact .dead _
 |ref=>exact .dead _
theorem aBF(s:Slot):dU (dU s)=dU s:=by cases s<;>rfl
theorem i_.front{objs:List ai}(h:i_ w B0 Ψ J ow ans objs)(n:Nat)(hn:n<=objs.length):i_ w B0 Ψ (J.take n) ow ans (objs.take n):=by
 refine⟨by simp[h.1],λi o ho=>?_⟩;rw[Bl] at ho
 split at ho
 ·rename_i hi
  obtain⟨b,h1,h2⟩:=h.2 i o ho;refine⟨b,by rw[Bl,Br hi];exact h1,h2.mono Ψ.le_refl ?_ (e_.refl _ _ _ _ _)⟩;rw[Gf,show min (i+1) n=i+1 by omega];exact aG _
 ·cases ho
end
end Go.AM
