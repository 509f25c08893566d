import Derived.Test.YtoiocfngjchdiaaGreatDoorA03
set_option linter.all false
namespace Go.AM
section
variable {P:Program}{ans:FuncId->AF}{an:AF}{w:World}{B0:Nat}{Ψ:HT}{J:List Nat}{ow:Own}{tmps:Array Value}{R:Type}{r:R}
variable {tm:List Slot}{rs:RS}{m:Machine}{mk mp:Value->World->Machine}{kp:AVal->RS->Option R}{k:Slot->RS->Option R}{ds:List Deferred}
variable {drawn AA tk:Bool}{D1:List Nat}{cf:aJ}{dst:Option Nat}{ty:TypeId}{pos:String}{AJ:Array Edge}{gd:Option (Nat×Bool)}
theorem jO{J J':List Nat}(h:pre J J'){n:Nat}(hn:n<=J.length):J'.take n=J.take n:=by
 apply Fg;intro i;rw[Bh,Bh];split
 ·rename_i hi
  have:i<J.length:=by omega
  rw[h i J[i] (by simp[this])];simp[this]
 ·rfl
theorem SRel.lokS{n:Nat}{t:Nat}{s:Slot}{v:Value}(h:SRel w B0 Ψ J ow tmps t s v)(hf:s.free=true)(hl:cF n s=true):SRel w B0 Ψ (J.take n) ow tmps t s v:=by
 cases h with
 |dead=>simp[Slot.free] at hf
 |val x v h=>exact .val x v (h.lok hl)
 |tup xs vs hl' h =>
  refine .tup xs vs hl' λi x v h1 h2=>(h i x v h1 h2).lok ?_
  exact As.1 (show xs.all (lok n)=true from hl) x (Ba h1)
 |own sz xs v h=>exact .own sz xs v h
 |full xs a n h=>exact .full xs a n h
 |nl=>exact .nl
 |nn xs a n c h=>exact .nn xs a n c h
 |cells=>simp[Slot.free] at hf
 |box=>simp[Slot.free] at hf
 |ref=>simp[Slot.free] at hf
theorem OsRel.old{J':List Nat}{objs EO:List AObj}(h:OsRel w B0 Ψ J' ow ans EO)(hp:pre J J')(hl:J.length=objs.length)(hk:∀i,i<objs.length->EO[i]?=objs[i]?):OsRel w B0 Ψ J ow ans objs:=by
 refine⟨hl,λi o ho=>?_⟩;have hi:=(Ab.1 ho).1;obtain⟨b,h1,h2⟩:=h.2 i o (by rw[hk i hi];exact ho)
 have hb:J[i]?=some b:=by
  have DZ:i<J.length:=by omega
  have:=hp i J[i] (by simp[DZ])
  rw[h1] at this;simp[DZ,Bp this]
 refine⟨b,hb,h2.mono Ψ.le_refl ?_ (Same.refl _ _ _ _ _)⟩;rw[jO hp (by omega)];exact aG _
theorem iR(h:Rel P ans B0 w Ψ J ow an (sl an tm rs) tmps rs.sto.objs){cc:Callee}{args:List Slot}{c:Frame}{cs:List Frame}{m1:Machine}
  (e:cR AA cf cc args rs kp k=some r)
  (L6:∀sto res sto',sto.objs=rs.sto.objs->sto.lo<=sto.objs.length->cf cc args sto=some (res,sto')->dS P ans B0 w Ψ J (pY an.nt ow) sto c cs m1 res sto') (AP:rs.sto.lo<=rs.sto.objs.length)
  (A7:Steps P m m1) (Jw:∀v w',lone (c.finish v) cs w'=mk v w') (MN:∀v w',lone (c.raise [{ v,recovered:=false }]) cs w'=mp v w') :
  Goal P ans an w B0 Ψ J ow tmps tm rs dst m mk mp kp k r:=by
 cases AA with
 |false =>
  simp only[cR] at e;obtain⟨⟨res,sto'⟩,hc,e⟩:=aH e;obtain⟨w',Z',J',DY,hF,hp,hw,Js,AL,CZ,B6⟩:=L6 _ _ _ rfl AP hc;obtain⟨hR,JA⟩:=uS h hF hp hw hp Js AL;cases res with
  |ret s =>
   obtain⟨_,e⟩:=aA e;obtain⟨DS,v,hs,CS⟩:=B6;refine .inl ⟨s,{ rs with sto:=sto' },v,w',Z',J',_,e,hR,?_,(λu o he=>by subst he;simp[Slot.free] at DS),(λcs he=>by subst he;simp[Slot.free] at DS),JA,hp,CZ,A7.trans (by rw[<-Jw];exact CS)⟩;refine SRel.mono (hs.free_tmps (tmps':=tmps) DS) Z'.le_refl (aG _) (λb s hb=>⟨by simp[eT,hb],rfl,λ_ h=>h⟩) (λ_ _ _=>rfl)
  |pan x =>
   obtain⟨v,hv,CS⟩:=B6;exact .inr ⟨x,{ rs with sto:=sto' },v,w',Z',J',_,e,hR,hv,JA,hp,CZ,A7.trans (by rw[<-MN];exact CS)⟩
 |true =>
  simp only[cR] at e;obtain⟨⟨res,sto'⟩,hc,e⟩:=aH e;obtain⟨w',Z',J',DY,hF,hp,hw,Js,AL,CZ,B6⟩:=L6 { rs.sto with lo:=rs.sto.objs.length } _ _ rfl (Af _) hc;cases res with
  |ret s =>
   obtain⟨hg,e⟩:=aA e;simp only[Ac] at hg
   replace hg:=hg.1
   obtain⟨DS,v,hs,CS⟩:=B6;have Jt:=h.objs.1;have TE:=Js.old (J:=J) (objs:=rs.sto.objs) hp Jt (λi hi=>CZ.keep i hi);obtain⟨hR,JA⟩:=uS h hF hp hw (aG _) TE AL;refine .inl ⟨s,rs,v,w',Z',J,_,e,hR,?_,(λu o he=>by subst he;simp[Slot.free] at DS),(λcs he=>by subst he;simp[Slot.free] at DS),JA,aG _,StoLe.refl _,A7.trans (by rw[<-Jw];exact CS)⟩;have Jp:=(hs.free_tmps (tmps':=tmps) DS).lokS DS hg;rw[jO hp (by rw[Jt];exact Af _),Bs (by rw[Jt];exact Af _)] at Jp;exact Jp.mono Z'.le_refl (aG _) (λb s hb=>⟨by simp[eT,hb],rfl,λ_ h=>h⟩) (λ_ _ _=>rfl)
  |pan x=>cases e
theorem lX{o:Option TypeId}{β:Type}{f:TypeId->Option β}{b:β}(h:o.bind f=some b):∃t,o=some t/\f t=some b:=by
 cases o with
 |none=>cases h
 |some t=>exact⟨t,rfl,h⟩
theorem aGL{name:String}{t:Nat}{f:FuncId}(h:N8 P name t=some f)(n:Nat)(x:Value):(method (n+1) t x name).run P w=.ok (f,x) w:=by
 unfold N8 at h;obtain⟨i,hi,h⟩:=aH h;obtain⟨mm,hm,h⟩:=aH h;obtain⟨d,hd,h⟩:=aH h;obtain⟨fp,hf,h⟩:=aH h;obtain⟨fi,fb⟩:=fp;have G9:(typeInfo t).run P w=.ok i w:=by simp[typeInfo,hi]
 have key:∀(hp:mm.path.isEmpty=true),fi=f->(∀wr,(receiverAt t (.val x) fb wr).run P w=.ok x w)->(method (n+1) t x name).run P w=.ok (f,x) w:=by
  intro hp hq MF;subst hq;have hpe:mm.path=#[]:=by simpa using hp
  simp only[method,Sem.run_bind,G9,Result.andThen_ok,hm];simp[hpe,follow,hf,MF]
 cases hp:mm.path.isEmpty with
 |false=>rw[hp] at h;cases d<;>cases fb<;>cases h
 |true =>
  rw[hp] at h
  cases d<;>cases fb<;>first
   |(cases h;done)
   |(cases h;exact key hp rfl λwr=>by simp[receiverAt,run_underlying hd,Place.get])
theorem aGG(h:Rel P ans B0 w Ψ J ow an (sl an tm rs) tmps rs.sto.objs){c:Call}(BQ:kI P ans B0 cf)(AP:rs.sto.lo<=rs.sto.objs.length){fr:Frame}{cs:List Frame}(X:Ex P tmps ds w ⟨dst,.call c,ty,pos,AJ,gd⟩ m mk)
  (Xe:∀f args,(execOp (ev tmps ds) ⟨dst,.call c,ty,pos,AJ,gd⟩).run P w=.ok (.enter f args) w->Steps P m (lone (Frame.enter P f args .normal) (fr::cs) w))
  (Xr:∀l f tmps' x y,(execOp (ev tmps ds) ⟨dst,.call c,ty,pos,AJ,gd⟩).run P w=.ok (.round l f tmps' x y) w->Steps P m (lone (Frame.round l f tmps' x y .normal) (fr::cs) w))
  (Jw:∀v w',lone (fr.finish v) cs w'=mk v w') (MN:∀v w',lone (fr.raise [{ v,recovered:=false }]) cs w'=mp v w')
  (e:aB P ans an drawn AA D1 cf tm tk ⟨dst,.call c,ty,pos,AJ,gd⟩ rs kp k=some r):Goal P ans an w B0 Ψ J ow tmps tm rs dst m mk mp kp k r:=by
 obtain⟨Mk,⟨DK⟩,Ml⟩:=c;simp only[aB] at e
 split at e
 ·rename_i x
  obtain⟨tx,CC,_⟩:=bG (ds:=ds) h x
  have hex:∀v,(Builtin.len_ Ml ty #[ev tmps ds x]).run P w=.ok v w->Steps P m (mk v w):=λv hv=>X.val _ _ (by
   simp[execOp,resolve,invoke,builtin];simp[ev] at hv;simp[hv])
  split at e
  ·rename_i hu
   obtain⟨t,ht,hu⟩:=lX hu
   split at e
   ·rename_i s hx
    rw[hx] at CC;generalize ER:(⟨tmps,ds⟩:Act).eval x=vx at CC;cases CC with
    |val _ _ hv=>cases hv with
     |str=>exact .val h e (.int _ _) (hex _ (by simp[Builtin.len_,ht,run_underlying hu,ev,ER,goInt];rfl))
   ·cases e
  ·rename_i el hu
   obtain⟨t,ht,hu⟩:=lX hu;obtain⟨xs,e,E0⟩:=sY CC e;generalize ER:(⟨tmps,ds⟩:Act).eval x=vx at E0;cases E0 with
   |slice _ a len cap s' hl hc hx=>exact .val h e (by rw[hl];exact .int _ _) (hex _ (by simp[Builtin.len_,ht,run_underlying hu,ev,ER,goInt]))
  ·rename_i n el hu
   obtain⟨t,ht,hu⟩:=lX hu;exact .val h e (.int _ _) (hex _ (by simp[Builtin.len_,ht,run_underlying hu,goInt]))
  ·cases e
 ·rename_i s x
  obtain⟨tx,CC,_⟩:=bG (ds:=ds) h x;obtain⟨tS,IW,A7⟩:=bG (ds:=ds) h s
  split at e
  ·rename_i el el2 FD EG
   obtain⟨t1,ht1,FD⟩:=lX FD;obtain⟨t2,ht2,EG⟩:=lX EG
   have sle:∀{t q:TypeId},aO P t=some q->P.underlying t=some (.slice q):=λhq=>by
    unfold aO at hq
    split at hq
    ·rename_i e' he;cases hq;exact he
    ·cases hq
   obtain⟨sz,BC,e⟩:=aH e;obtain⟨z,hz,e⟩:=aH e;obtain⟨ys,e,Mv⟩:=sY CC e;obtain⟨hg,e⟩:=aA e;simp only[Ac] at hg;obtain⟨⟨⟨⟨g1,g2⟩,g3⟩,g4⟩,g5⟩:=hg;have CG:0<sz:=by simpa[Ct] using g1
   have H3:0<aC P el:=by simpa[Ct] using g4
   have Sk:∀y∈ys,y.cells.length=sz:=λy hy=>Aa (As.1 g5 y hy)
   simp only[zeroOf,Cv] at hz;obtain⟨zv,Iv,IQ⟩:=hz
   have hz1':(P.info? el).bind (·.zero)=some zv:=by
    obtain⟨ti,a1,a2⟩:=Iv;rw[a1];exact a2
   have IP:zv.cells.size=sz:=by
    have:=(iO (Ψ:=Ψ) (J:=J) IQ).cells.1
    rw[<-this];exact Aa g2
   have hex:∀v w',(Builtin.append_ Ml ty #[ev tmps ds s,ev tmps ds x]).run P w=.ok v w'->Steps P m (mk v w'):=λv w' hv=>X.val _ _ (by
    simp[execOp,resolve,invoke,builtin];simp[ev] at hv;simp[hv])
   have core:∀{rs1:RS}{BO:Own}{xs:List AVal},rs1.sto=rs.sto->Rel P ans B0 w Ψ J BO an (sl an tm rs1) tmps rs1.sto.objs->Fr w Ψ ow w Ψ BO->(VRel Ψ [] (.slice xs) (ev tmps ds s)/\(∀x∈xs,x.cells.length=sz)/\∃a len cap,ev tmps ds s=.slice a len cap/\(len=cap\/∃b o cs E,a=some ⟨b,o,none⟩/\BO b=some (false,an.nt,1)/\w.heap[b]?=some (.cells cs E (0,0))/\B0<=b/\o+cap*sz<=cs.size/\∀o',o+len*sz<=o'->Ψ b o'=F7))->(ys=[]->OwnRel w B0 Ψ BO (false,an.nt,1) sz xs (ev tmps ds s))->xs.length+ys.length<=room ->
     k (.own sz (xs++ys)) rs1=some r->Goal P ans an w B0 Ψ J ow tmps tm rs dst m mk mp kp k r:=λSy h1 hF ho M0 GJ hk=>by
    obtain⟨v',w',Z',AQ,BA,hR,hO,JA⟩:=er h1 ho M0 Mv Sk (ty:=ty) ht1 ht2 (sle FD) (sle EG) BC CG hz1' IP (Ad g3) H3 GJ;exact .inl ⟨_,_,v',w',Z',J,AQ,hk,hR,.own _ _ _ hO,(λu o he=>by cases he),(λcs he=>by cases he),hF.trans JA,aG _,by rw[Sy];exact StoLe.refl _,hex _ _ BA⟩
   have e3:(∃GG xs t,A6 an.keep tm rs s=.own GG xs/\s=.tmp t/\aL (Nat.beq sz GG&&Nat.ble (xs.length+ys.length) room) (k (.own sz (xs++ys)) (rs.put t (.val (.slice xs))))=some r) \/
     (∃xs,A6 an.keep tm rs s=.full xs/\aL (xs.all (λy=>Nat.beq y.cells.length sz)&&Nat.ble (xs.length+ys.length) room&&(xs.isEmpty||!ys.isEmpty)) (k (.own sz (xs++ys)) rs)=some r) \/
     (A6 an.keep tm rs s=.nl/\aL (Nat.ble ys.length room) (k (.own sz ys) rs)=some r):=by
    split at e
    ·exact .inl ⟨_,_,_,by assumption,rfl,e⟩
    ·exact .inr (.inl ⟨_,by assumption,e⟩)
    ·exact .inr (.inr ⟨by assumption,e⟩)
    ·cases e
   rcases e3 with⟨GG,xs,t,hs,Kb,e3⟩|⟨xs,hs,e3⟩|⟨hs,e3⟩
   ·obtain rfl:=A7 t Kb
    subst Kb;obtain⟨hg,e3⟩:=aA e3;simp only[Ac] at hg;have K8:=Aa hg.1;have Kc:sl an tm rs tS=.own GG xs:=hs;have LU:VRel Ψ J (.slice xs) (tmps.getD tS undef):=by have:=h.slots tS;rw[Kc] at this;cases this with|own _ _ _ hv=>exact hv.val
    obtain⟨h1,h2⟩:=h.take tS (h.lt_of (by rw[Kc];simp)) (.slice xs) LU (by rw[Kc];simp) an.nt;rw[Kc] at h2
    have hO:OwnRel w B0 Ψ (ren ow false tS false an.nt 0) (false,an.nt,1) sz xs (tmps.getD tS undef):=by
     rw[K8];cases h2 with|own _ _ _ hv=>exact hv
    refine core (rs1:=rs.put tS (.val (.slice xs))) rfl ?_ (Fr.ren _ _ _) hO.weak (λ_=>hO) (Ad hg.2) e3;rw[show sl an tm (rs.put tS (.val (.slice xs)))=upd (sl an tm rs) tS (.val (.slice xs)) from eK _ _ _ _ _];exact h1
   ·obtain⟨hg,e3⟩:=aA e3
    simp only[Ac] at hg;have OQ:∀y∈xs,y.cells.length=sz:=λy hy=>Aa (As.1 hg.1.1 y hy)
    rw[hs] at IW
    have hee:ys=[]->xs=[]:=λe=>by
     have:=hg.2
     rw[e] at this;simpa using this
    refine core rfl h (Fr.refl _ _ _) ?_ ?_ (Ad hg.1.2) e3
    all_goals
     generalize ER:(⟨tmps,ds⟩:Act).eval s=vx at IW;cases IW with
     |full _ a n hv =>
      rw[ev,ER]
      first
       |exact⟨hv,OQ,a,n,n,rfl,.inl rfl⟩
       |exact λe=>⟨hv,OQ,a,n,n,rfl,.inl ⟨hee e,rfl⟩⟩
   ·obtain⟨hg,e3⟩:=aA e3
    rw[hs] at IW;have Iy:OwnRel w B0 Ψ ow (false,an.nt,1) sz [] (ev tmps ds s):=?_;refine core (xs:=[]) rfl h (Fr.refl _ _ _) Iy.weak (λ_=>Iy) (by simpa using Ad hg) e3;generalize ER:(⟨tmps,ds⟩:Act).eval s=vx at IW;cases IW with
    |nl=>rw[ev,ER];exact wR _ _
  ·cases e
 ·rename_i x y
  obtain⟨tx,CC,_⟩:=bG (ds:=ds) h x;obtain⟨tY,Sr,_⟩:=bG (ds:=ds) h y;obtain⟨kd,n,e,hn⟩:=j5 CC e;obtain⟨Hc,m,e,hm⟩:=j5 Sr e;refine .val h e (.int _ _) (X.val _ _ ?_);have hb:(bif decide (m>n) then m else n)=(if m>n then m else n):=by by_cases hc:m>n<;>simp[hc]
  rw[hb];simp[execOp,resolve,invoke,builtin,Builtin.max_,Builtin.max2,ev,hn,hm]
 ·rename_i f
  obtain⟨tf,IX,_⟩:=bG (ds:=ds) h f
  split at e
  ·rename_i g caps hf
   rw[hf] at IX;generalize ER:(⟨tmps,ds⟩:Act).eval f=vf at IX;cases IX with
   |val _ _ hv=>cases hv with
    |func _ _ cv BM I2 =>
     obtain⟨l,rs1,BO,e,h1,CZ,hl,DS,ha,hF,_⟩:=uI (ds:=ds) h e;have BL:=λsto Ig FH=>sW (ds:=ds) h1 sto Ig FH hl DS ha BM I2
     have hG:Goal P ans an w B0 Ψ J BO tmps tm rs1 dst m mk mp kp k r:=by
      cases CP:cf (.fn g) (l++caps.map .val) (if AA then{ rs1.sto with lo:=rs1.sto.objs.length } else rs1.sto) with
      |none=>cases AA<;>simp only[Ds,Bj,Dm] at CP<;>simp[cR,CP] at e
      |some p =>
       have Hh:=(BQ.fn g _ _ p.1 p.2 CP).1;obtain⟨F,JB,Ma,Kv⟩:=Hh;refine iR (c:=fr) (cs:=cs) (m1:=lone (Frame.enter P g ⟨DK.map (⟨tmps,ds⟩:Act).eval++cv⟩ .normal) (fr::cs) w) h1 e (λsto res sto' Ig FH hc=>(BQ.fn g _ _ _ _ hc).2 w Ψ J _ _ (BL sto Ig FH) fr cs) (by rw[CZ];exact AP) (Xe _ _ ?_) Jw MN;obtain⟨bd,GN⟩:=Dz.1 Ma;simp[execOp,resolve,ev,ER,Deferred.ofValue,invoke,callFunc,JB,Kv,GN]
     rcases hG with⟨s,AX,v,w',Z',J',AQ,a1,a2,a3,a4,a5,a6,a7,a8,a9⟩|⟨x,AX,v,w',Z',J',AQ,a1,a2,a3,a6,a7,a8,a9⟩
     ·exact .inl ⟨s,AX,v,w',Z',J',AQ,a1,a2,a3,a4,a5,hF.trans a6,a7,by rw[<-CZ];exact a8,a9⟩
     ·exact .inr ⟨x,AX,v,w',Z',J',AQ,a1,a2,a3,hF.trans a6,a7,by rw[<-CZ];exact a8,a9⟩
  ·rename_i i hf
   rw[hf] at IX;generalize ER:(⟨tmps,ds⟩:Act).eval f=vf at IX;cases IX with
   |val _ _ hv=>cases hv with
    |yld _ b hb =>
     obtain⟨l,rs1,BO,e,h1,CZ,hl,DS,ha,hF,_⟩:=uI (ds:=ds) h e;have BL:=λsto Ig FH=>sW (ds:=ds) h1 sto Ig FH hl DS ha (caps:=[]) (cv:=[]) rfl (λi c v hc=>by simp at hc)
     simp only[Ax,Ao] at BL
     have hG:Goal P ans an w B0 Ψ J BO tmps tm rs1 dst m mk mp kp k r:=by
      cases CP:cf (.yld i) l (if AA then{ rs1.sto with lo:=rs1.sto.objs.length } else rs1.sto) with
      |none=>cases AA<;>simp only[Ds,Bj,Dm] at CP<;>simp[cR,CP] at e
      |some p =>
       obtain⟨al,DU,hlen,_⟩:=BQ.yld i _ _ p.1 p.2 CP;have M7:rs1.sto.objs[i]?=some (.loop al):=by cases AA<;>exact DU
       obtain⟨b',BB,MI⟩:=h1.objs.2 i _ M7;obtain rfl:b=b':=by rw[hb] at BB;exact Bp BB
       cases MI with
       |loop _ _ rr LY ho0 h00 Jy C1 =>
        refine iR (c:=fr) (cs:=cs) (m1:=lone (Frame.round b rr.fn ((rr.params.zip ⟨DK.map (⟨tmps,ds⟩:Act).eval⟩).foldl (λt (p,a)=>t.setIfInBounds p a) rr.tmps) rr.assign rr.body .normal) (fr::cs) w) h1 e
         (λsto res sto' Ig FH hc=>?_) (by rw[CZ];exact AP) (Xr _ _ _ _ _ ?_) Jw MN
        ·obtain⟨_,_,_,CV⟩:=BQ.yld i _ _ _ _ hc
         exact CV w Ψ J _ _ (BL sto Ig FH) b rr hb LY fr cs
        ·have hsize:DK.length=rr.params.size:=by rw[C1.params,<-hlen,hl]
         have AN:=run_getObj (P:=P) LY (by simp);simp[execOp,resolve,ev,ER,Deferred.ofValue,invoke,Instr.yield,Instr.getLoop,AN,hsize]
     rcases hG with⟨s,AX,v,w',Z',J',AQ,a1,a2,a3,a4,a5,a6,a7,a8,a9⟩|⟨x,AX,v,w',Z',J',AQ,a1,a2,a3,a6,a7,a8,a9⟩
     ·exact .inl ⟨s,AX,v,w',Z',J',AQ,a1,a2,a3,a4,a5,hF.trans a6,a7,by rw[<-CZ];exact a8,a9⟩
     ·exact .inr ⟨x,AX,v,w',Z',J',AQ,a1,a2,a3,hF.trans a6,a7,by rw[<-CZ];exact a8,a9⟩
  ·cases e
 ·rename_i rc nm
  obtain⟨tf,IX,_⟩:=bG (ds:=ds) h rc
  split at e
  ·rename_i ut y hf
   rw[hf] at IX;generalize ER:(⟨tmps,ds⟩:Act).eval rc=vf at IX;obtain⟨g,hg,e⟩:=aH e;obtain⟨l,e,hl,hr⟩:=uT (ds:=ds) h e;cases IX with
   |val _ _ hv=>cases hv with
    |iface _ _ u hu =>
     have BL:=λsto Ig FH=>sW (ds:=ds) h sto Ig FH (l:=[]) (xs:=[]) rfl (λs hs=>by cases hs) (λj s x hs=>by simp at hs) (caps:=y::l) (cv:=u::DK.map (⟨tmps,ds⟩:Act).eval) (by simp[hl]) (λi c v h1 h2=>by
      cases i with
      |zero=>cases h1;cases h2;exact hu
      |succ i=>exact hr i c v h1 h2)
     simp only[Ax,Ak] at BL;cases CP:cf (.fn g) ((y::l).map .val) (if AA then{ rs.sto with lo:=rs.sto.objs.length } else rs.sto) with
     |none=>cases AA<;>simp only[Ds,Bj,Dm] at CP<;>simp only[cR,CP,Option.bind_none] at e<;>cases e
     |some p =>
      obtain⟨F,JB,Ma,Kv⟩:=(BQ.fn g _ _ p.1 p.2 CP).1;refine iR (c:=fr) (cs:=cs) (m1:=lone (Frame.enter P g ⟨u::DK.map (⟨tmps,ds⟩:Act).eval⟩ .normal) (fr::cs) w) h e (λsto res sto' Ig FH hc=>(BQ.fn g _ _ _ _ hc).2 w Ψ J _ _ (BL sto Ig FH) fr cs) AP (Xe _ _ ?_) Jw MN;obtain⟨bd,GN⟩:=Dz.1 Ma;have CG:0<Made.depth:=by decide
      obtain⟨nn,Iy⟩:∃nn,P.types.size+Made.depth=nn+1:=⟨P.types.size+Made.depth-1,by omega⟩
      have HV:=aGL (w:=w) hg nn u;rw[<-Iy] at HV;have hprog:(program).run P w=.ok P w:=rfl;simp only[execOp,resolve,ev,ER,Sem.run_bind,Sem.run_pure,Result.andThen_ok,invoke,callMethod];have FV:List.take DK.length (List.map (⟨tmps,ds⟩:Act).eval DK)=List.map (⟨tmps,ds⟩:Act).eval DK:=Bs (by simp);simp[hprog,HV,FV,callFunc,JB,Kv,GN]
  ·cases e
 ·cases e
theorem aD8(h:Rel P ans B0 w Ψ J ow an (sl an tm rs) tmps rs.sto.objs)(BQ:kI P ans B0 cf)(AP:rs.sto.lo<=rs.sto.objs.length){o:Oper}{b:Frame}{ops:Array Oper}{i:Nat}{rest:List Nat}{items:List Item}{cs:List Frame}
  (ho:ops[i]?=some o) (hw:Region.wanted o (yielded ops tmps)=true)
  (e:aB P ans an drawn AA D1 cf tm tk o rs kp k=some r) :
  Goal P ans an w B0 Ψ J ow tmps tm rs o.dst (lone (b.atR ⟨tmps,ds⟩ (.inRegion ops (i::rest)::items)) cs w) (λv w'=>lone (b.atR ((⟨tmps,ds⟩:Act).put o.dst v) (.inRegion ops rest::items)) cs w')
   (λv w'=>lone { b.atR ⟨tmps,ds⟩ (.inRegion ops (i::rest)::items) with mode:=.panicking [{ v,recovered:=false }] } cs w') kp k r:=by
 have GL:∀c,o.op≠.defer c:=λc hc=>by
  obtain⟨d,op,ty,pos,AJ,gd⟩:=o;simp only at hc;subst hc;simp[aB] at e
 have X:Ex P tmps ds w o (lone (b.atR ⟨tmps,ds⟩ (.inRegion ops (i::rest)::items)) cs w) (λv w'=>lone (b.atR ((⟨tmps,ds⟩:Act).put o.dst v) (.inRegion ops rest::items)) cs w') :=
  ⟨λv w' hr=>.one (dI (a:=⟨tmps,ds⟩) ho hw GL hr),λw' hr=>.one (eS (a:=⟨tmps,ds⟩) ho hw GL hr)⟩
 have Jw:∀v w',lone ((b.atR ⟨tmps,ds⟩ (.inRegion ops (i::rest)::items)).finish v) cs w'=lone (b.atR ((⟨tmps,ds⟩:Act).put o.dst v) (.inRegion ops rest::items)) cs w':=λv w'=>by
  rw[Frame.finish_atR,ho];rfl
 have MN:∀v w',lone ((b.atR ⟨tmps,ds⟩ (.inRegion ops (i::rest)::items)).raise [{ v,recovered:=false }]) cs w'=lone { b.atR ⟨tmps,ds⟩ (.inRegion ops (i::rest)::items) with mode:=.panicking [{ v,recovered:=false }] } cs w':=λv w'=>by
  rw[Frame.raise_atR]
 obtain⟨d,op,ty,pos,AJ,gd⟩:=o;cases op
 case move=>exact aGI h X e
 case assign=>exact aAC h X e
 case pick=>exact aGJ h X e
 case alloc=>exact aDs h AP X e
 case box=>exact aMM h AP X e
 case build=>exact aDu h X e
 case buildSlice=>exact yF h X e
 case load=>exact aGH h X e
 case store=>exact aDx h X e
 case nilCheck=>exact ju h X e
 case binOp=>exact aDt h X e
 case unOp=>exact aGK h X e
 case fieldAddr=>exact ct h X e
 case indexAddr=>exact cu h X e
 case slice=>exact aDw h X e
 case makeInterface=>exact rP h X e
 case typeAssert=>exact yG h X e
 case makeFunc=>exact jt h X e
 case extract=>exact qh h X e
 case panic=>exact aDv h (λv hr=>.one (rp (a:=⟨tmps,ds⟩) ho hw GL hr)) e
 case call=>exact aGG h BQ AP X (λf args hr=>.one (lD (a:=⟨tmps,ds⟩) ho hw GL hr)) (λl f t x y hr=>.one (lE (a:=⟨tmps,ds⟩) ho hw GL hr)) Jw MN e
 all_goals (simp[aB] at e)
end
section
variable {P:Program}{ans:FuncId->AF}{an:AF}{w:World}{B0:Nat}{Ψ:HT}{J:List Nat}{ow:Own}{tmps:Array Value}{R:Type}{r:R}
variable {tm:List Slot}{rs:RS}{kp:AVal->RS->Option R}{ds:List Deferred}{drawn:Bool}{cf:aJ}
def iD(P:Program)(ans:FuncId->AF)(an:AF)(drawn:Bool)(cf:aJ)(tm:List Slot)(rid:Nat)(ops:Array Oper)(kp:AVal->RS->Option R)(kn:RS->Option R):List Nat->RS->Option R
 |[],rs=>kn rs
 |i::l,rs=>match ops[i]? with
  |some o=>iX P ans an drawn cf tm rid ops kp o i rs λAX=>iD P ans an drawn cf tm rid ops kp kn l AX
  |none=>none
theorem wy{rid:Nat}{ops:Array Oper}{kn:RS->Option R}:∀(n i:Nat)(rs:RS),i+n=ops.size->jI P ans an drawn cf tm rid ops kp kn (ops.toList.drop i) i rs=iD P ans an drawn cf tm rid ops kp kn (List.range' i n) rs
 |0,i,rs,h=>by
  rw[List.drop_of_length_le (by simp;omega)];rfl
 |n+1,i,rs,h=>by
  have hi:i<ops.size:=by omega
  rw[Dv (by simpa using hi),Fl];simp only[jI,iD,Array.getElem_toList,Bf hi];congr 1;funext AX;exact wy n (i+1) AX (by omega)
theorem kW{rid:Nat}{ops:Array Oper}{kn:RS->Option R}(rs:RS):jI P ans an drawn cf tm rid ops kp kn ops.toList 0 rs=iD P ans an drawn cf tm rid ops kp kn (List.range ops.size) rs:=by
 have:=wy (P:=P) (ans:=ans) (an:=an) (drawn:=drawn) (cf:=cf) (tm:=tm) (rid:=rid) (ops:=ops) (kp:=kp) (kn:=kn) ops.size 0 rs (by omega)
 rw[Fx] at this;rw[this,List.range_eq_range']
def noRef(tm:List Slot):Prop:=∀s∈tm,∀u o,s≠.ref u o
theorem yU:∀{sc:List (Nat×Slot)}{t:Nat}{s:Slot},bU sc t=some s->∃p∈sc,p.1=t
 |[],t,s,h=>by simp[bU] at h
 |(k,x)::sc,t,s,h=>by
  simp only[bU] at h;cases hk:Nat.beq k t with
  |true=>exact⟨(k,x),by simp,Aa hk⟩
  |false =>
   rw[hk] at h;obtain⟨p,hp,he⟩:=yU (show bU sc t=some s from h);exact⟨p,by simp[hp],he⟩
theorem nM:∀{ks:List Nat}{tm:List Slot}{t:Nat},tlook ks tm t=.dead\/tlook ks tm t∈tm
 |[],tm,t=>.inl (by cases tm<;>rfl)
 |k::ks,[],t=>.inl rfl
 |k::ks,s::ss,t=>by
  simp only[tlook];cases hk:Nat.beq k t with
  |true=>exact .inr (by simp)
  |false=>rcases nM (ks:=ks) (tm:=ss) (t:=t) with h|h
          ·exact .inl h
          ·exact .inr (by simp only[Be];exact Eg _ h)
theorem jn(hn:noRef tm){t d o:Nat}(h:sl an tm rs t=.ref d o):∃p∈rs.sc,bU rs.sc p.1=some (.ref d o):=by
 unfold sl RS.look at h
 split at h
 ·rename_i s hs
  subst h;obtain⟨p,hp,he⟩:=yU hs;exact⟨p,hp,by rw[he];exact hs⟩
 ·rcases nM (ks:=an.keep) (tm:=tm) (t:=t) with h1|h1
  ·rw[h1] at h;cases h
  ·exact absurd h (hn _ h1 d o)
theorem Rel.dst(h:Rel P ans B0 w Ψ J ow an (sl an tm rs) tmps rs.sto.objs)(hn:noRef tm){o:Oper}{s:Slot}{v:Value}(hs:SRel w B0 Ψ J ow tmps an.nt s v)
  (HP:∀u x,s=.ref u x->∃cs,sl an tm rs u=.box cs) (H4:∀cs,s=.box cs->∃d,o.dst=some d/\an.loc.contains d=true) (D3:dQ an o s rs=true) :
  ∃AQ,Rel P ans B0 w Ψ J AQ an (sl an tm (rs.putO o.dst s)) ((⟨tmps,ds⟩:Act).put o.dst v).tmps rs.sto.objs/\Fr w Ψ ow w Ψ AQ:=by
 unfold dQ at D3;cases hd:o.dst with
 |none=>exact⟨ow,h,Fr.refl _ _ _⟩
 |some d =>
  rw[hd] at D3 H4;simp only[Ac,Ch,Cu] at D3;obtain⟨⟨h1,h2⟩,h3⟩:=D3;have X0:d<an.nt:=by simpa[Ct] using h1
  have XJ:∀u x,s=.ref u x->u≠d:=λu x he hh=>by
   subst he;simp only[Cu] at h2;subst hh
   have:Nat.beq u u=true:=Cj u
   rw[this] at h2;cases h2
  refine⟨ren ow false an.nt false d 0,?_,Fr.ren _ _ _⟩;rw[show sl an tm (rs.putO (some d) s)=upd (sl an tm rs) d s from eK _ _ _ _ _];refine h.write d s v X0 (λt x he=>?_) (λu x he=>⟨XJ u x he,HP u x he⟩) (λcs he=>?_) Ψ.le_refl (aG _) h.wsat (λt ht MB=>gI _ _ _ (by simp;omega)) ?_ (h.objs.mono Ψ.le_refl λi _=>gI _ _ _ (by simp)) (λb hb=>h.lt b (mM _ hb)) (Af _)
  ·rcases h3 with h3|h3
   ·obtain⟨cs,hc⟩:=h.refs t d x he
    have:=h.boxes d cs hc
    rw[h3] at this;cases this
   ·obtain⟨p,hp,hl⟩:=jn hn he
    have:=As.1 h3 p hp
    rw[hl] at this;simp only[Cu] at this;have hb:Nat.beq d d=true:=Cj d;rw[hb] at this;cases this
  ·obtain⟨d',NF,hl⟩:=H4 cs he
   cases NF;exact hl
  ·refine hs.mono Ψ.le_refl (aG _) (ki _ _ _) (λu x he=>?_)
   rw[j9 _ _ _ _ (by rw[h.size];exact X0),Bc (XJ u x he)]
def oW(P:Program)(ans:FuncId->AF)(an:AF)(w:World)(B0:Nat)(Ψ:HT)(J:List Nat)(ow:Own)(tm:List Slot)(rs:RS)(ds:List Deferred)(b:Frame)(cs:List Frame)(m:Machine)(todo:List Item)(kp:AVal->RS->Option R)(next:RS->Option R)(r:R):Prop :=
 (∃AX w' Z' J' AQ tmps',next AX=some r/\Rel P ans B0 w' Z' J' AQ an (sl an tm AX) tmps' AX.sto.objs/\Fr w Ψ ow w' Z' AQ/\pre J J'/\StoLe rs.sto AX.sto/\Steps P m (lone (b.atR ⟨tmps',ds⟩ todo) cs w')) \/
 (∃x AX v w' Z' J' AQ tmps' DI,kp x AX=some r/\Rel P ans B0 w' Z' J' AQ an (sl an tm AX) tmps' AX.sto.objs/\VRel Z' J' x v/\Fr w Ψ ow w' Z' AQ/\pre J J'/\StoLe rs.sto AX.sto /\
  Steps P m (lone { b.atR ⟨tmps',ds⟩ DI with mode:=.panicking [{ v,recovered:=false }] } cs w'))
theorem wx(h:Rel P ans B0 w Ψ J ow an (sl an tm rs) tmps rs.sto.objs)(BQ:kI P ans B0 cf)(hn:noRef tm)(AP:rs.sto.lo<=rs.sto.objs.length){rid:Nat}{o:Oper}{b:Frame}{ops:Array Oper}{i:Nat}{rest:List Nat}{items:List Item}{cs:List Frame}{next:RS->Option R}
  (ho:ops[i]?=some o) (e:iX P ans an drawn cf tm rid ops kp o i rs next=some r) :
  oW P ans an w B0 Ψ J ow tm rs ds b cs (lone (b.atR ⟨tmps,ds⟩ (.inRegion ops (i::rest)::items)) cs w) (.inRegion ops rest::items) kp next r:=by
 have go:∀(lc:List Nat)(rs0:RS),rs0.sto=rs.sto->Rel P ans B0 w Ψ J ow an (sl an tm rs0) tmps rs0.sto.objs->Region.wanted o (yielded ops tmps)=true ->
   aB P ans an drawn (an.pure.contains (rid,i)) lc cf tm (an.take.contains (rid,i)) o rs0 kp (λs AX=>aL (dQ an o s AX) (next (AX.putO o.dst s)))=some r ->
   oW P ans an w B0 Ψ J ow tm rs ds b cs (lone (b.atR ⟨tmps,ds⟩ (.inRegion ops (i::rest)::items)) cs w) (.inRegion ops rest::items) kp next r:=λlc rs0 Gr h0 hw e=>by
  rcases aD8 (ds:=ds) (b:=b) (items:=items) (cs:=cs) (rest:=rest) h0 BQ (by rw[Gr];exact AP) ho hw e with⟨s,AX,v,w',Z',J',AQ,a1,a2,a3,a4,a5,a6,a7,a8,a9⟩|⟨x,AX,v,w',Z',J',AQ,a1,a2,a3,a6,a7,a8,a9⟩
  ·obtain⟨hg,a1⟩:=aA a1
   obtain⟨B5,b1,b2⟩:=a2.dst (ds:=ds) hn a3 a4 a5 hg;have CZ:(AX.putO o.dst s).sto=AX.sto:=by cases o.dst<;>rfl
   have M8:((⟨tmps,ds⟩:Act).put o.dst v)=⟨((⟨tmps,ds⟩:Act).put o.dst v).tmps,ds⟩:=by cases o.dst<;>rfl
   refine .inl ⟨_,w',Z',J',B5,_,a1,by rw[CZ];exact b1,a6.trans b2,a7,by rw[CZ,<-Gr];exact a8,?_⟩;rw[<-M8];exact a9
  ·exact .inr ⟨x,AX,v,w',Z',J',AQ,tmps,_,a1,a2,a3,a6,a7,by rw[<-Gr];exact a8,a9⟩
 unfold iX at e;simp only at e
 split at e
 ·rename_i hg
  exact go _ rs rfl h (by simp[Region.wanted,hg]) e
 ·rename_i j want hg
  split at e
  ·cases e
  ·rename_i d hd
   have fin:∀(rs0:RS),rs0.sto=rs.sto->Rel P ans B0 w Ψ J ow an (sl an tm rs0) tmps rs0.sto.objs->yielded ops tmps j≠some want->dQ an o .dead rs0=true->next (rs0.putO o.dst (.tup []))=some r ->
     oW P ans an w B0 Ψ J ow tm rs ds b cs (lone (b.atR ⟨tmps,ds⟩ (.inRegion ops (i::rest)::items)) cs w) (.inRegion ops rest::items) kp next r:=λrs0 Gr HO hy ML e=>by
    have hwf:((ops[i]?).map (Region.wanted · (yielded ops tmps))).getD false=false:=by
     simp[ho,Region.wanted,hg,hy]
    obtain⟨B5,b1,b2⟩:=HO.dst (ds:=ds) (v:=undef) (s:=.tup []) hn (.tup [] [] rfl (λi x v h=>by simp at h)) (λu x he=>by cases he) (λcs he=>by cases he) ML;have CZ:(rs0.putO o.dst (.tup [])).sto=rs.sto:=by rw[<-Gr];cases o.dst<;>rfl
    have M8:((⟨tmps,ds⟩:Act).put o.dst undef)=⟨((⟨tmps,ds⟩:Act).put o.dst undef).tmps,ds⟩:=by cases o.dst<;>rfl
    refine .inl ⟨_,w,Ψ,J,B5,_,e,by rw[CZ,<-Gr];exact b1,b2,aG _,by rw[CZ];exact StoLe.refl _,?_⟩;rw[<-M8]
    have:=stepR_op_skip (P:=P) (b:=b) (a:=⟨tmps,ds⟩) (k:=items) (cs:=cs) (w:=w) (rest:=rest) hwf
    rw[ho] at this;exact .one this
   have TZ:(∃bb lc,sl an tm rs d=.val (.bool bb)/\(match bb==want with
     |true=>aB P ans an drawn (an.pure.contains (rid,i)) lc cf tm (an.take.contains (rid,i)) o (rs.put d (.val (.bool bb))) kp λs AX=>aL (dQ an o s AX) (next (AX.putO o.dst s))
     |false=>aL (dQ an o .dead rs) (next ((rs.put d (.val (.bool bb))).putO o.dst (.tup []))))=some r) \/
     (sl an tm rs d=.tup []/\aL (dQ an o .dead rs) (next (rs.putO o.dst (.tup [])))=some r):=by
    unfold oL at e
    split at e
    ·rename_i bb hb
     exact .inl ⟨bb,_,hb,e⟩
    ·rename_i hb
     exact .inr ⟨hb,e⟩
    ·cases e
   rcases TZ with⟨bb,lc,hs,e⟩|⟨hs,e⟩
   rotate_left
   ·obtain⟨D3,e⟩:=aA e
    refine fin rs rfl h ?_ D3 e;have Gq:=h.slots d;rw[hs] at Gq
    have hv:tmps.getD d undef=.tuple #[]:=by
     generalize tmps.getD d undef=v at Gq;cases Gq with
     |tup _ vs hl _ =>
      have:vs=[]:=Dn.1 hl.symm
      subst this;rfl
    have:yielded ops tmps j=none:=by
     simp only[yielded,hd,Aq];rw[Ae] at hv;cases hh:tmps[d]? with
     |none=>rfl
     |some x=>rw[hh] at hv;simp only[Ci] at hv;subst hv;rfl
    rw[this];simp
   have hv:tmps.getD d undef=.bool bb:=by
    have Gq:=h.slots d;rw[hs] at Gq;generalize tmps.getD d undef=v at Gq;cases Gq with
    |val _ _ hh=>cases hh;rfl
   have CA:sl an tm (rs.put d (.val (.bool bb)))=sl an tm rs:=by
    rw[show sl an tm (rs.put d (.val (.bool bb)))=upd (sl an tm rs) d (.val (.bool bb)) from eK _ _ _ _ _];funext t;by_cases ht:t=d
    ·subst ht;rw[eL];exact hs.symm
    ·rw[bH _ _ ht]
   have hdb:tmps[d]?=some (.bool bb):=by
    rw[Ae] at hv;cases hh:tmps[d]? with
    |none=>rw[hh] at hv;simp[undef] at hv
    |some x=>rw[hh] at hv;simpa using hv
   have hy:yielded ops tmps j=some bb:=by simp[yielded,hd,hdb]
   have HO:Rel P ans B0 w Ψ J ow an (sl an tm (rs.put d (.val (.bool bb)))) tmps (rs.put d (.val (.bool bb))).sto.objs:=by rw[CA];exact h
   cases hbw:bb==want with
   |true =>
    rw[hbw] at e;refine go _ (rs.put d (.val (.bool bb))) rfl HO ?_ e
    have:bb=want:=by simpa using hbw
    simp[Region.wanted,hg,hy,this]
   |false =>
    rw[hbw] at e;simp only at e;obtain⟨D3,e⟩:=aA e
    have ML:dQ an o .dead (rs.put d (.val (.bool bb)))=true:=by
     unfold dQ at D3 ⊢;cases FW:o.dst with
     |none=>rfl
     |some d' =>
      rw[FW] at D3;simp only[Ac,Ch,Cu] at D3 ⊢;refine⟨D3.1,?_⟩;rcases D3.2 with h3|h3
      ·exact .inl h3
      ·refine .inr (As.2 λp hp=>?_)
       simp only[RS.put,Au] at hp
       have DU:bU (rs.put d (.val (.bool bb))).sc p.1=if d=p.1 then some (.val (.bool bb)) else bU rs.sc p.1:=by
        simp only[RS.put,bU];cases hb:Nat.beq d p.1 with
        |true=>rw[Bu (Aa hb)];rfl
        |false =>
         rw[Bc];rfl;intro he;rw[he,show Nat.beq p.1 p.1=true from Cj p.1] at hb;cases hb
       rw[DU];by_cases hdp:d=p.1
       ·rw[Bu hdp]
       ·rw[Bc hdp]
        rcases hp with hp|hp
        ·subst hp;exact absurd rfl hdp
        ·exact As.1 h3 p hp
    exact fin (rs.put d (.val (.bool bb))) rfl HO (λhc=>by rw[hy] at hc;rw[Bp hc] at hbw;simp at hbw) ML e
theorem pX(BQ:kI P ans B0 cf)(hn:noRef tm){rid:Nat}{b:Frame}{ops:Array Oper}{items:List Item}{cs:List Frame}{kn:RS->Option R}:∀{l:List Nat}{rs:RS}{w:World}{Ψ:HT}{J:List Nat}{ow:Own}{tmps:Array Value},
  Rel P ans B0 w Ψ J ow an (sl an tm rs) tmps rs.sto.objs->rs.sto.lo<=rs.sto.objs.length->iD P ans an drawn cf tm rid ops kp kn l rs=some r ->
  oW P ans an w B0 Ψ J ow tm rs ds b cs (lone (b.atR ⟨tmps,ds⟩ (.inRegion ops l::items)) cs w) (.inRegion ops []::items) kp kn r
 |[],rs,w,Ψ,J,ow,tmps,h,AP,e=>.inl ⟨rs,w,Ψ,J,ow,tmps,e,h,Fr.refl _ _ _,aG _,StoLe.refl _,Steps.refl _ _⟩
 |i::l,rs,w,Ψ,J,ow,tmps,h,AP,e=>by
  simp only[iD] at e
  split at e
  ·rename_i o ho
   rcases wx (ds:=ds) (b:=b) (items:=items) (cs:=cs) (rest:=l) h BQ hn AP ho e with⟨AX,w',Z',J',AQ,tmps',a1,a2,a3,a4,a5,a6⟩|⟨x,AX,v,w',Z',J',AQ,tmps',DI,a1,a2,a3,a4,a5,a6,a7⟩
   ·rcases pX BQ hn (b:=b) (items:=items) (cs:=cs) a2 (by rw[a5.lo];exact Bg AP a5.len) a1 with⟨rs2,w2,Z2,J2,B5,B3,b1,b2,b3,b4,b5,b6⟩|⟨x,rs2,v,w2,Z2,J2,B5,B3,JH,b1,b2,b3,b4,b5,b6,b7⟩
    ·exact .inl ⟨rs2,w2,Z2,J2,B5,B3,b1,b2,a3.trans b3,dT a4 b4,a5.trans b5,a6.trans b6⟩
    ·exact .inr ⟨x,rs2,v,w2,Z2,J2,B5,B3,JH,b1,b2,b3,a3.trans b4,dT a4 b5,a5.trans b6,a6.trans b7⟩
   ·exact .inr ⟨x,AX,v,w',Z',J',AQ,tmps',DI,a1,a2,a3,a4,a5,a6,a7⟩
  ·cases e
end
section
variable {P:Program}{ans:FuncId->AF}{an:AF}{w:World}{B0:Nat}{Ψ:HT}{J:List Nat}{ow:Own}{tmps:Array Value}{R:Type}{r:R}
variable {tm:List Slot}{rs:RS}{ds:List Deferred}{cf:aJ}{lp:aQ}
theorem Rel.weak{E E':Nat->Slot}{objs:List AObj}(h:Rel P ans B0 w Ψ J ow an E tmps objs)(hE:∀t,E' t=.dead\/(E' t=E t/\∀u o,E' t≠.ref u o)\/∃sz,E' t=.own sz []/\E t=.nl):Rel P ans B0 w Ψ J ow an E' tmps objs:=by
 refine⟨h.size,h.wsat,λt=>?_,λd u o e=>?_,λt cs e=>?_,h.objs,h.lt,h.base,λt ht=>?_⟩
 ·rcases hE t with h1|⟨h1,_⟩|⟨sz,h1,h2⟩
  ·rw[h1];exact .dead _
  ·rw[h1];exact h.slots t
  ·have:=h.slots t
   rw[h2] at this;rw[h1];generalize tmps.getD t undef=v at this;cases this with|nl=>exact .own _ _ _ (wR _ _)
 ·rcases hE d with h1|⟨_,h2⟩|⟨sz,h1,_⟩
  ·rw[h1] at e;cases e
  ·exact absurd e (h2 u o)
  ·rw[h1] at e;cases e
 ·rcases hE t with h1|⟨h1,_⟩|⟨sz,h1,_⟩
  ·rw[h1] at e;cases e
  ·rw[h1] at e;exact h.boxes t cs e
  ·rw[h1] at e;cases e
 ·rcases hE t with h1|⟨h1,_⟩|⟨sz,h1,h2⟩
  ·exact h1
  ·rw[h1];exact h.hi t ht
  ·have:=h.hi t ht;rw[h2] at this;cases this
theorem lF:∀(ks:List Nat)(tm:List Slot)(sc:List (Nat×Slot))(t:Nat),tlook ks (commit ks tm sc) t=.dead\/tlook ks (commit ks tm sc) t=(match bU sc t with|some s=>kZ s|none=>tlook ks tm t)
 |[],tm,sc,t=>.inl (by cases tm<;>rfl)
 |k::ks,[],sc,t=>.inl rfl
 |k::ks,s::ss,sc,t=>by
  simp only[commit,tlook];cases hk:Nat.beq k t with
  |true =>
   have:=Aa hk
   subst this;exact .inr rfl
  |false =>
   simp only[Be];exact lF ks ss sc t
theorem xA(h:List (Nat×Option Nat)):∀(ks:List Nat)(tm:List Slot)(t:Nat),tlook ks (gG h ks tm) t=.dead\/tlook ks (gG h ks tm) t=mC (Vi h t) (tlook ks tm t)
 |[],tm,t=>.inl (by cases tm<;>rfl)
 |k::ks,[],t=>.inl rfl
 |k::ks,s::ss,t=>by
  simp only[gG,tlook];cases hk:Nat.beq k t with
  |true =>
   have:=Aa hk
   subst this;exact .inr rfl
  |false =>
   simp only[Be];exact xA h ks ss t
theorem rX(f:Slot->Slot)(hf:f .dead=.dead):∀(ks:List Nat)(tm:List Slot)(t:Nat),tlook ks (tm.map f) t=f (tlook ks tm t)
 |[],tm,t=>by cases tm<;>simp[tlook,hf]
 |k::ks,[],t=>by simp[tlook,hf]
 |k::ks,s::ss,t=>by
  simp only[Bb,tlook];cases hk:Nat.beq k t with
  |true=>rfl
  |false=>exact rX f hf ks ss t
theorem noRef.tlook(h:noRef tm)(ks:List Nat)(t u o:Nat):tlook ks tm t≠.ref u o:=by
 rcases nM (ks:=ks) (tm:=tm) (t:=t) with h1|h1
 ·rw[h1];simp
 ·exact h _ h1 u o
theorem jy(s:Slot)(u o:Nat):kZ s≠.ref u o:=by cases s<;>simp[kZ]
theorem noRef.commit:∀{ks:List Nat}{tm:List Slot}{sc:List (Nat×Slot)},noRef tm->noRef (commit ks tm sc)
 |[],tm,sc,h=>by cases tm<;>(intro s hs;simp[AM.commit] at hs)
 |k::ks,[],sc,h=>by intro s hs;simp[AM.commit] at hs
 |k::ks,s::ss,sc,h=>by
  intro x hx u o;simp only[AM.commit,Au] at hx;rcases hx with hx|hx
  ·subst hx
   split
   ·exact jy _ u o
   ·exact h s (by simp) u o
  ·exact noRef.commit (ks:=ks) (tm:=ss) (sc:=sc) (λy hy=>h y (by simp[hy])) x hx u o
theorem bm{c:Option (Option Nat)}{s:Slot}(h:∀u o,s≠.ref u o)(u o:Nat):mC c s≠.ref u o:=by
 unfold mC;split
 ·simp
 ·exact h u o
 ·split
  ·simp
  ·exact h u o
theorem noRef.head(hh:List (Nat×Option Nat)):∀{ks:List Nat}{tm:List Slot},noRef tm->noRef (gG hh ks tm)
 |[],tm,h=>by cases tm<;>(intro s hs;simp[gG] at hs)
 |k::ks,[],h=>by intro s hs;simp[gG] at hs
 |k::ks,s::ss,h=>by
  intro x hx u o;simp only[gG,Au] at hx;rcases hx with hx|hx
  ·subst hx;exact bm (h s (by simp)) u o
  ·exact noRef.head hh (ks:=ks) (tm:=ss) (λy hy=>h y (by simp[hy])) x hx u o
structure At (P:Program) (ans:FuncId->AF) (fid:FuncId) (B0:Nat) (w:World) (Ψ:HT) (J:List Nat) (ow:Own) (st:St) (tmps:Array Value):Prop where
 rel:Rel P ans B0 w Ψ J ow (ans fid) (sl (ans fid) st.tm ⟨[],st.sto⟩) tmps st.sto.objs
 nr:noRef st.tm
 lo:st.sto.lo<=st.sto.objs.length
theorem At.commit{fid:FuncId}{sto:AH}(hn:noRef tm)(h:Rel P ans B0 w Ψ J ow (ans fid) (sl (ans fid) tm rs) tmps rs.sto.objs)(AP:rs.sto.lo<=rs.sto.objs.length)(hs:sto=rs.sto):At P ans fid B0 w Ψ J ow ⟨commit (ans fid).keep tm rs.sc,sto⟩ tmps:=by
 subst hs;refine⟨h.weak λt=>?_,hn.commit,AP⟩;show tlook (ans fid).keep (AM.commit (ans fid).keep tm rs.sc) t=.dead\/_;rcases lF (ans fid).keep tm rs.sc t with h1|h1
 ·exact .inl h1
 ·show _\/(tlook (ans fid).keep (AM.commit (ans fid).keep tm rs.sc) t=RS.look (ans fid).keep tm rs t/\∀u o,tlook (ans fid).keep (AM.commit (ans fid).keep tm rs.sc) t≠.ref u o)\/_
  rw[h1];unfold RS.look;cases hs:bU rs.sc t with
  |some s =>
   by_cases hr:∃u o,s=.ref u o
   ·obtain⟨u,o,rfl⟩:=hr;exact .inl rfl
   ·have:kZ s=s:=by cases s<;>simp_all [kZ]
    simp only[this];exact .inr (.inl ⟨trivial,λu o he=>hr ⟨u,o,he⟩⟩)
  |none=>exact .inr (.inl ⟨rfl,λu o=>hn.tlook _ _ _ _⟩)
theorem aAX{objs:List AObj}{s:Slot}(h:∀u o,s≠.ref u o)(u o:Nat):gZ objs s≠.ref u o:=by
 unfold gZ;split
 ·cases Nat.beq _ _
  ·exact h u o
  ·simp only[Bl]
   split
   ·simp
   ·exact h u o
 ·exact h u o
theorem noRef.thaw{objs:List AObj}{l:List Nat}:∀{ks:List Nat}{tm:List Slot},noRef tm->noRef (dU objs l ks tm)
 |[],tm,h=>by cases tm<;>(intro s hs;simp[dU] at hs)
 |k::ks,[],h=>by intro s hs;simp[dU] at hs
 |k::ks,s::ss,h=>by
  intro x hx u o;simp only[dU,Au] at hx;rcases hx with hx|hx
  ·subst hx
   cases l.contains k
   ·exact h s (by simp) u o
   ·exact aAX (h s (by simp)) u o
  ·exact noRef.thaw (ks:=ks) (tm:=ss) (λy hy=>h y (by simp[hy])) x hx u o
theorem xG{objs:List AObj}{l:List Nat}:∀(ks:List Nat)(tm:List Slot)(t:Nat),tlook ks (dU objs l ks tm) t=.dead\/tlook ks (dU objs l ks tm) t=tlook ks tm t\/tlook ks (dU objs l ks tm) t=gZ objs (tlook ks tm t)
 |[],tm,t=>.inl (by cases tm<;>rfl)
 |k::ks,[],t=>.inl rfl
 |k::ks,s::ss,t=>by
  simp only[dU,tlook];cases hk:Nat.beq k t with
  |true =>
   simp only[Bl];cases l.contains k
   ·exact .inr (.inl rfl)
   ·exact .inr (.inr rfl)
  |false =>
   simp only[Be];exact xG ks ss t
theorem At.thaw{fid:FuncId}{st:St}(h:At P ans fid B0 w Ψ J ow st tmps)(l:List Nat):At P ans fid B0 w Ψ J ow { st with tm:=dU st.sto.objs l (ans fid).keep st.tm } tmps:=by
 have Gt:=λt u o=>h.nr.tlook (ans fid).keep t u o
 have hE:∀t,sl (ans fid) (dU st.sto.objs l (ans fid).keep st.tm) ⟨[],st.sto⟩ t=.dead\/sl (ans fid) (dU st.sto.objs l (ans fid).keep st.tm) ⟨[],st.sto⟩ t=sl (ans fid) st.tm ⟨[],st.sto⟩ t\/sl (ans fid) (dU st.sto.objs l (ans fid).keep st.tm) ⟨[],st.sto⟩ t=gZ st.sto.objs (sl (ans fid) st.tm ⟨[],st.sto⟩ t):=λt=>xG _ _ _
 have HZ:∀t,sl (ans fid) (dU st.sto.objs l (ans fid).keep st.tm) ⟨[],st.sto⟩ t=.dead\/sl (ans fid) (dU st.sto.objs l (ans fid).keep st.tm) ⟨[],st.sto⟩ t=sl (ans fid) st.tm ⟨[],st.sto⟩ t\/∃i v,sl (ans fid) st.tm ⟨[],st.sto⟩ t=.val (.loc i 0)/\st.sto.objs[i]?=some (.frz v)/\sl (ans fid) (dU st.sto.objs l (ans fid).keep st.tm) ⟨[],st.sto⟩ t=.val v:=λt=>by
  rcases hE t with h1|h1|h1
  ·exact .inl h1
  ·exact .inr (.inl h1)
  ·generalize hs:sl (ans fid) st.tm ⟨[],st.sto⟩ t=s at h1
   rw[h1];unfold gZ;split
   ·rename_i i o
    cases hb:Nat.beq o 0 with
    |false=>exact .inr (.inl rfl)
    |true =>
     obtain rfl:=Aa hb;simp only[Bl];split
     ·rename_i v hv;exact .inr (.inr ⟨i,v,rfl,hv,rfl⟩)
     ·exact .inr (.inl rfl)
   ·exact .inr (.inl rfl)
 refine⟨⟨h.rel.size,h.rel.wsat,λt=>?_,λd u o hd=>?_,λt cs ht=>?_,h.rel.objs,h.rel.lt,h.rel.base,λt ht=>?_⟩,h.nr.thaw,h.lo⟩
 ·rcases HZ t with h1|h1|⟨i,v,h1,h2,h3⟩
  ·rw[h1];exact .dead _
  ·rw[h1];exact h.rel.slots t
  ·rw[h3]
   have hs:=h.rel.slots t;rw[h1] at hs;obtain⟨b,hb,ho⟩:=h.rel.objs.2 i _ h2;generalize tmps.getD t undef=u at hs;cases hs with
   |val _ _ hv=>cases hv with
    |loc _ _ b' BB =>
     rw[hb] at BB;cases BB;cases ho with
     |frz _ _ hf=>exact .val _ _ (hf.mono Ψ.le_refl (pre_nil _))
 ·exact absurd hd ((h.nr.thaw (objs:=st.sto.objs) (l:=l) (ks:=(ans fid).keep)).tlook _ _ _ _)
 ·rcases HZ t with h1|h1|⟨i,v,_,_,h3⟩
  ·rw[h1] at ht;cases ht
  ·rw[h1] at ht;exact h.rel.boxes t cs ht
  ·rw[h3] at ht;cases ht
 ·rcases HZ t with h1|h1|⟨i,v,h1,_,_⟩
  ·exact h1
  ·rw[h1];exact h.rel.hi t ht
  ·have:=h.rel.hi t ht;rw[h1] at this;cases this
theorem At.head0{fid:FuncId}{st:St}(h:At P ans fid B0 w Ψ J ow st tmps)(c:Code):At P ans fid B0 w Ψ J ow (mY (ans fid) c st) tmps/\(mY (ans fid) c st).sto=st.sto:=by
 unfold mY;split
 ·rename_i hh _
  refine⟨⟨h.rel.weak λt=>?_,h.nr.head hh,h.lo⟩,rfl⟩;show tlook (ans fid).keep (gG hh (ans fid).keep st.tm) t=.dead\/(tlook (ans fid).keep (gG hh (ans fid).keep st.tm) t=tlook (ans fid).keep st.tm t/\∀u o,tlook (ans fid).keep (gG hh (ans fid).keep st.tm) t≠.ref u o)\/∃sz,tlook (ans fid).keep (gG hh (ans fid).keep st.tm) t=_/\tlook (ans fid).keep st.tm t=_;have Gt:=λu o=>h.nr.tlook (ans fid).keep t u o
  rcases xA hh (ans fid).keep st.tm t with h1|h1
  ·exact .inl h1
  ·rw[h1]
   unfold mC;split
   ·exact .inl rfl
   ·exact .inr (.inl ⟨rfl,Gt⟩)
   ·split
    ·exact .inr (.inr ⟨_,rfl,by assumption⟩)
    ·exact .inr (.inl ⟨rfl,Gt⟩)
 ·exact⟨h,rfl⟩
theorem At.head{fid:FuncId}{st:St}(h:At P ans fid B0 w Ψ J ow st tmps)(c:Code):At P ans fid B0 w Ψ J ow (eV (ans fid) c st) tmps/\(eV (ans fid) c st).sto=st.sto:=by
 unfold eV;split
 ·exact h.head0 c
 ·exact(h.thaw _).head0 c
structure MarksL (w:World) (ow:Own) (B1:Nat) (ds:List Deferred):Prop where
 all:∀d∈ds,∃D,d.target=.collected D/\w.heap[D]?=some (.deferred (some []))/\ow D=none/\B1<=D
 nodup:ds.Pairwise λd d'=>d.target≠d'.target
theorem MarksL.nil(w:World)(ow:Own)(B1:Nat):MarksL w ow B1 []:=⟨by simp,by simp⟩
theorem MarksL.mono{w':World}{Z':HT}{AQ:Own}{B1:Nat}(h:MarksL w ow B1 ds)(hF:Fr w Ψ ow w' Z' AQ):MarksL w' AQ B1 ds :=
 ⟨λd hd=>by
  obtain⟨D,h1,h2,h3,h4⟩:=h.all d hd;have AL:D<w.heap.size:=(Ai.1 h2).1;refine⟨D,h1,(hF.keep D AL h3).1.trans h2,?_,h4⟩;cases e:AQ D with
  |none=>rfl
  |some x=>rcases hF.own D (by simp[e]) with h5|h5
           ·exact absurd h3 h5
           ·omega,h.nodup⟩
def Marks(w:World)(ow:Own)(B1:Nat)(b:Frame)(ds:List Deferred):Prop:=∃ms,ds=ms++b.defers/\MarksL w ow B1 ms
theorem Marks.nil(w:World)(ow:Own)(B1:Nat){b:Frame}(h:b.defers=[]:=by rfl):Marks w ow B1 b []:=⟨[],by rw[h];rfl,.nil w ow B1⟩
theorem Marks.mono{w':World}{Z':HT}{AQ:Own}{B1:Nat}{b:Frame}(h:Marks w ow B1 b ds)(hF:Fr w Ψ ow w' Z' AQ):Marks w' AQ B1 b ds:=by
 obtain⟨ms,h1,h2⟩:=h;exact⟨ms,h1,h2.mono hF⟩
def Arr(P:Program)(Ψ:HT)(J:List Nat)(b:Frame)(cs:List Frame)(items:List Item)(m:Machine)(tmps:Array Value)(ds:List Deferred)(w:World):bI->Prop
 |.norm=>Steps P m (lone (b.atR ⟨tmps,ds⟩ items) cs w)
 |.exit id=>∃k,exitTo id k=exitTo id items/\Steps P m (lone (b.atR ⟨tmps,ds⟩ (.code (.exit id)::k)) cs w)
 |.ret=>∃k,Steps P m (lone (b.atR ⟨tmps,ds⟩ (.code .ret::k)) cs w)
 |.pan x=>∃v k,VRel Ψ J x v/\Steps P m (lone { b.atR ⟨tmps,ds⟩ k with mode:=.panicking [{ v,recovered:=false }] } cs w)
theorem Arr.head{b:Frame}{cs:List Frame}{items:List Item}{m m1:Machine}{e:bI}(h:Arr P Ψ J b cs items m1 tmps ds w e)(hs:Steps P m m1):Arr P Ψ J b cs items m tmps ds w e:=by
 cases e with
 |norm=>exact hs.trans h
 |exit id=>obtain⟨k,h1,h2⟩:=h;exact⟨k,h1,hs.trans h2⟩
 |ret=>obtain⟨k,h2⟩:=h;exact⟨k,hs.trans h2⟩
 |pan x=>obtain⟨v,k,h1,h2⟩:=h;exact⟨v,k,h1,hs.trans h2⟩
structure Rest (ans:FuncId->AF) (B0:Nat) (w:World) (Ψ:HT) (J:List Nat) (ow:Own) (sto:AH):Prop where
 wsat:WSat Ψ w
 objs:OsRel w B0 Ψ J ow ans sto.objs
 lt:∀b,ow b≠none->b<w.heap.size
def AtE(P:Program)(ans:FuncId->AF)(fid:FuncId)(B0:Nat)(w:World)(Ψ:HT)(J:List Nat)(ow:Own)(st:St)(tmps:Array Value):bI->Prop
 |.pan _=>Rest ans B0 w Ψ J ow st.sto
 |_=>At P ans fid B0 w Ψ J ow st tmps
theorem At.rest{fid:FuncId}{st:St}(h:At P ans fid B0 w Ψ J ow st tmps):Rest ans B0 w Ψ J ow st.sto:=⟨h.rel.wsat,h.rel.objs,h.rel.lt⟩
theorem AtE.rest{fid:FuncId}{st:St}{e:bI}(h:AtE P ans fid B0 w Ψ J ow st tmps e):Rest ans B0 w Ψ J ow st.sto:=by
 cases e with
 |pan x=>exact h
 |norm=>exact At.rest h
 |exit=>exact At.rest h
 |ret=>exact At.rest h
def XEnd(P:Program)(ans:FuncId->AF)(fid:FuncId)(B0 B1:Nat)(w:World)(Ψ:HT)(J:List Nat)(ow:Own)(sto:AH)(b:Frame)(cs:List Frame)(items:List Item)(m:Machine)(e:bI)(AY:St):Prop :=
 ∃w' Z' J' AQ tmps' DH,AtE P ans fid B0 w' Z' J' AQ AY tmps' e/\Marks w' AQ B1 b DH/\Fr w Ψ ow w' Z' AQ/\pre J J'/\StoLe sto AY.sto/\Arr P Z' J' b cs items m tmps' DH w' e
theorem XEnd.head{fid:FuncId}{B1:Nat}{sto:AH}{b:Frame}{cs:List Frame}{items:List Item}{m m1:Machine}{e:bI}{AY:St}(h:XEnd P ans fid B0 B1 w Ψ J ow sto b cs items m1 e AY)(hs:Steps P m m1):XEnd P ans fid B0 B1 w Ψ J ow sto b cs items m e AY:=by
 obtain⟨w',Z',J',AQ,tmps',DH,h1,h2,h3,h4,h5,h6⟩:=h;exact⟨w',Z',J',AQ,tmps',DH,h1,h2,h3,h4,h5,h6.head hs⟩
theorem XEnd.pre{fid:FuncId}{B1:Nat}{sto GS:AH}{b:Frame}{cs:List Frame}{items:List Item}{m:Machine}{e:bI}{AY:St}{w1:World}{Z1:HT}{J1:List Nat}{BO:Own}(h:XEnd P ans fid B0 B1 w1 Z1 J1 BO GS b cs items m e AY)(h1:Fr w Ψ ow w1 Z1 BO)(h2:AM.pre J J1)(h3:StoLe sto GS):XEnd P ans fid B0 B1 w Ψ J ow sto b cs items m e AY:=by
 obtain⟨w',Z',J',AQ,tmps',DH,a1,a2,a3,a4,a5,a6⟩:=h;exact⟨w',Z',J',AQ,tmps',DH,a1,a2,h1.trans a3,dT h2 a4,h3.trans a5,a6⟩
def mq(P:Program)(ans:FuncId->AF)(B0:Nat)(lp:aQ):Prop :=
 ∀fid c st e AY,lp fid c st=some (e,AY)->∀B1 w Ψ J ow tmps ds b cs items,b.fn=fid->(b.roundOf=none\/bZ c=true)->At P ans fid B0 w Ψ J ow st tmps->Marks w ow B1 b ds->B1<=w.heap.size ->
  XEnd P ans fid B0 B1 w Ψ J ow st.sto b cs items (lone (b.atR ⟨tmps,ds⟩ (.code c::.inLoop c::items)) cs w) e AY
theorem mQ{b:Frame}{a:Act}{k:List Item}{cs:List Frame}{c:Code}:step P (lone (b.atR a (.code (.scope c)::k)) cs w)=.next (lone (b.atR a (.code c::.inScope c::k)) cs w) :=
 step_lone_go (by simp[stepG,stepG.exec,Frame.atR])
theorem jY{b:Frame}{a:Act}{k:List Item}{cs:List Frame}{c:Code}:step P (lone (b.atR a (.inScope c::k)) cs w)=.next (lone (b.atR a k) cs w) :=
 step_lone_go (by simp[stepG,stepG.exec,Frame.atR])
theorem SRel.snap{t:Nat}{s:Slot}{v:Value}{w':World}{Z':HT}{J':List Nat}{tmps':Array Value}(h:SRel w B0 Ψ J ow tmps t s v)(hΨ:Ψ.le Z')(hp:pre J J'):SRel w' 0 Z' J' (λ_=>none) tmps' t (dO s) v:=by
 cases h with
 |dead=>exact .dead _
 |val x v h=>exact .val x v (h.mono hΨ hp)
 |tup=>exact .dead _
 |own sz xs v h=>exact .val _ _ (h.rel.mono hΨ (pre_nil _))
 |full xs a n h=>exact .full xs a n (h.mono hΨ (aG _))
 |nl=>exact .nl
 |nn xs a n c h=>exact .nn xs a n c (h.mono hΨ (aG _))
 |cells cs vs h=>exact .val _ _ (h.agg.mono hΨ hp)
 |box=>exact .dead _
 |ref=>exact .dead _
theorem aAO(s:Slot):dO (dO s)=dO s:=by cases s<;>rfl
theorem OsRel.front{objs:List AObj}(h:OsRel w B0 Ψ J ow ans objs)(n:Nat)(hn:n<=objs.length):OsRel w B0 Ψ (J.take n) ow ans (objs.take n):=by
 refine⟨by simp[h.1],λi o ho=>?_⟩;rw[Bh] at ho
 split at ho
 ·rename_i hi
  obtain⟨b,h1,h2⟩:=h.2 i o ho;refine⟨b,by rw[Bh,Bu hi];exact h1,h2.mono Ψ.le_refl ?_ (Same.refl _ _ _ _ _)⟩;rw[Fv,show min (i+1) n=i+1 by omega];exact aG _
 ·cases ho
end
end Go.AM
