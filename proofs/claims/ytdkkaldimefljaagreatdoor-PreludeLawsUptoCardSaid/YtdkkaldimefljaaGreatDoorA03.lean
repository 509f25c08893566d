import Derived.Test.YtdkkaldimefljaaGreatDoorA02
import Derived.Laws.Strings
import Derived.Laws.Slices
set_option linter.all false
namespace Go.AM
variable {P:Program}{ans:FuncId->AK}{an:AK}{w:World}{B0:Nat}{Z:HT}{J:List Nat}{ow:Own}{tmps:Array Value}{R:Type}{r:R}
variable {tm:List Slot}{rs:RS}{m:Machine}{mk mp:Value->World->Machine}{kp:AVal->RS->Option R}{k:Slot->RS->Option R}{ds:List Deferred}
variable {drawn AF tk:Bool}{DS:List Nat}{cf:aO}{dst:Option Nat}{ty:TypeId}{pos:String}{AH:Array Edge}{gd:Option (Nat×Bool)}
abbrev ev(tmps:Array Value)(ds:List Deferred):Operand->Value:=(⟨tmps,ds⟩:Act).eval
structure Ex (P:Program) (tmps:Array Value) (ds:List Deferred) (w:World) (o:Oper) (m:Machine) (mk:Value->World->Machine):Prop where
 val:∀v w',(execOp (ev tmps ds) o).run P w=.ok (.value v) w'->Steps P m (mk v w')
 skip:∀w',(execOp (ev tmps ds) o).run P w=.ok .skip w'->Steps P m (mk undef w')
theorem pX{d:Bool}{l:List Nat}{p:Place}{K:Option R}(e:bG d l p K=some r):K=some r:=by
 unfold bG at e
 split at e
 ·exact e
 ·split at e
  ·exact(aB e).2
  ·exact(aB e).2
theorem aIc(h:Rel P ans B0 w Z J ow an (sl an tm rs) tmps rs.sto.objs){x:Operand}(X:Ex P tmps ds w ⟨dst,.move x,ty,pos,AH,gd⟩ m mk)(e:aD P ans an drawn AF DS cf tm tk ⟨dst,.move x,ty,pos,AH,gd⟩ rs kp k=some r):Goal P ans an w B0 Z J ow tmps tm rs dst m mk mp kp k r :=
 aE9 (ds:=ds) h (by simpa only[aD] using e) (X.val _ _ (by simp[execOp]))
theorem aCo(h:Rel P ans B0 w Z J ow an (sl an tm rs) tmps rs.sto.objs){x:Operand}(X:Ex P tmps ds w ⟨dst,.assign x,ty,pos,AH,gd⟩ m mk)(e:aD P ans an drawn AF DS cf tm tk ⟨dst,.assign x,ty,pos,AH,gd⟩ rs kp k=some r):Goal P ans an w B0 Z J ow tmps tm rs dst m mk mp kp k r :=
 aE9 (ds:=ds) h (by simpa only[aD] using e) (X.val _ _ (by simp[execOp]))
theorem aId(h:Rel P ans B0 w Z J ow an (sl an tm rs) tmps rs.sto.objs){c a b:Operand}(X:Ex P tmps ds w ⟨dst,.pick c a b,ty,pos,AH,gd⟩ m mk)(e:aD P ans an drawn AF DS cf tm tk ⟨dst,.pick c a b,ty,pos,AH,gd⟩ rs kp k=some r):Goal P ans an w B0 Z J ow tmps tm rs dst m mk mp kp k r:=by
 simp only[aD] at e;obtain⟨t,hs,_⟩:=bH (ds:=ds) h c;obtain⟨tt,e,hc,_⟩:=cz hs e;cases tt with
 |true =>
  obtain⟨u,hu,_⟩:=bH (ds:=ds) h a;exact UT h hu (r8 h a) e (X.val _ _ (by simp[execOp,ev,hc,Go.asBool]))
 |false =>
  obtain⟨u,hu,_⟩:=bH (ds:=ds) h b;exact UT h hu (r8 h b) e (X.val _ _ (by simp[execOp,ev,hc,Go.asBool]))
theorem newLocal{z:List Cell}{vs:List Value}{T:TypeId}{d:Nat}(hd:dst=some d)(hl:an.loc.contains d=true){BX:Own}(hF:Fr w Z ow w Z BX){rs1:RS}(h1:Rel P ans B0 w Z J BX an (sl an tm rs1) tmps rs1.sto.objs)(A7:rs1.sto=rs.sto)
  (hz:CsRel w B0 Z J BX false an.nt z vs) (e:k (.box z) rs1=some r) (hs:Steps P m (mk (.pointer (some ⟨w.heap.size,0,none⟩)) (w.alloc (.cells ⟨vs⟩ T)))):Goal P ans an w B0 Z J ow tmps tm rs dst m mk mp kp k r:=by
 obtain⟨a1,a2,a3⟩:=aLU (T:=T) h1 hz;exact .inl ⟨_,_,_,_,_,J,_,e,a1,a2,(λu o he=>by cases he),(λcs _=>⟨d,hd,hl⟩),hF.trans a3,aI _,by rw[A7];exact StoLe.refl _,hs⟩
theorem aFb(h:Rel P ans B0 w Z J ow an (sl an tm rs) tmps rs.sto.objs){z:List Cell}{vs:List Value}{T:TypeId}{BX:Own}(AW:rs.sto.lo<=rs.sto.objs.length)(hF:Fr w Z ow w Z BX){rs1:RS}(h1:Rel P ans B0 w Z J BX an (sl an tm rs1) tmps rs1.sto.objs)(A7:rs1.sto=rs.sto)
  (hz:CsRel w B0 Z J BX false an.nt z vs) (e:k (.val (.loc rs1.sto.objs.length 0)) { rs1 with sto:={ rs1.sto with objs:=rs1.sto.objs++[.box z] } }=some r)
  (hs:Steps P m (mk (.pointer (some ⟨w.heap.size,0,none⟩)) (w.alloc (.cells ⟨vs⟩ T)))):Goal P ans an w B0 Z J ow tmps tm rs dst m mk mp kp k r:=by
 have hl:=h1.objs.1;have LY:∀b,BX b≠none->b<w.heap.size:=h1.lt
 let CJ:=ren BX false an.nt true rs1.sto.objs.length 0
 have hn:ORel (w.alloc (.cells ⟨vs⟩ T)) B0 Z (J++[w.heap.size]) (oset CJ w.heap.size (some (true,rs1.sto.objs.length,0))) ans rs1.sto.objs.length (.box z) w.heap.size:=by
  refine .box _ _ ⟨by simp[oset],h.base,h.wsat.none_of_ge (Ae _),vs,T,heap_alloc_new _,?_⟩;refine hz.mono Z.le_refl ?_ ?_
  ·rw[Ci (by simp[hl])];exact eG _ _
  ·intro b s hb
   have AX:=LY b (by simp[hb]);exact⟨by simp[oset,show ¬b=w.heap.size by omega,CJ,ren,hb],heap_alloc_old _ AX,λ_ h=>h⟩
 obtain⟨g1,g2⟩:=uC (o:=.cells ⟨vs⟩ T) h1 CJ (λb hb=>lC _ hb) (λkk i hk=>fP _ _ _ hk) hn;refine .inl ⟨_,_,_,_,Z,J++[w.heap.size],_,e,g1,?_,(λu o he=>by cases he),(λcs he=>by cases he),hF.trans g2,eG _ _,?_,hs⟩
 ·refine .val _ _ (.loc _ _ _ ?_)
  rw[Bh (by rw[hl];exact Ae _)];simp[hl]
 ·rw[A7]
  exact⟨rfl,by simp,λi hi=>by rw[Bg (by omega)]⟩
theorem aFp(h:Rel P ans B0 w Z J ow an (sl an tm rs) tmps rs.sto.objs){t:TypeId}(AW:rs.sto.lo<=rs.sto.objs.length)(X:Ex P tmps ds w ⟨dst,.alloc t,ty,pos,AH,gd⟩ m mk)(e:aD P ans an drawn AF DS cf tm tk ⟨dst,.alloc t,ty,pos,AH,gd⟩ rs kp k=some r):Goal P ans an w B0 Z J ow tmps tm rs dst m mk mp kp k r:=by
 simp only[aD] at e;obtain⟨z,hz,e⟩:=aC e;obtain⟨s,_,e⟩:=aC e;obtain⟨_,e⟩:=aB e;obtain⟨v,hv,HE⟩:=qM (w:=w) (B0:=B0) (Z:=Z) (J:=J) (ow:=ow) hz false an.nt
 have AZ:(execOp (ev tmps ds) ⟨dst,.alloc t,ty,pos,AH,gd⟩).run P w=.ok (.value (.pointer (some ⟨w.heap.size,0,none⟩))) (w.alloc (.cells ⟨v.cells.toList⟩ t)):=by
  simp[execOp,Instr.alloc,aS hv,newVar,newRow]
 cases dst with
 |none=>simp at e
 |some d =>
  simp only at e
  split at e
  ·exact newLocal rfl (by assumption) (Fr.refl _ _ _) h rfl HE e (X.val _ _ AZ)
  ·exact aFb h AW (Fr.refl _ _ _) h rfl HE e (X.val _ _ AZ)
theorem aL6(h:Rel P ans B0 w Z J ow an (sl an tm rs) tmps rs.sto.objs){t:TypeId}{x:Operand}(AW:rs.sto.lo<=rs.sto.objs.length)(X:Ex P tmps ds w ⟨dst,.box t x,ty,pos,AH,gd⟩ m mk)(e:aD P ans an drawn AF DS cf tm tk ⟨dst,.box t x,ty,pos,AH,gd⟩ rs kp k=some r):Goal P ans an w B0 Z J ow tmps tm rs dst m mk mp kp k r:=by
 simp only[aD] at e;obtain⟨cs,rs1,BX,e,h1,CI,hF,A7,_,_⟩:=qk (ds:=ds) h an.nt e;obtain⟨s,_,e⟩:=aC e;obtain⟨_,e⟩:=aB e
 have AZ:(execOp (ev tmps ds) ⟨dst,.box t x,ty,pos,AH,gd⟩).run P w=.ok (.value (.pointer (some ⟨w.heap.size,0,none⟩))) (w.alloc (.cells ⟨(ev tmps ds x).cells.toList⟩ t)):=by
  simp[execOp,Instr.box,newVar,newRow]
 cases dst with
 |none=>simp at e
 |some d =>
  simp only at e
  split at e
  ·exact newLocal rfl (by assumption) hF h1 A7 CI e (X.val _ _ AZ)
  ·obtain⟨_,e⟩:=aB e
   exact aFb h AW hF h1 A7 CI e (X.val _ _ AZ)
theorem aFr(h:Rel P ans B0 w Z J ow an (sl an tm rs) tmps rs.sto.objs){t:TypeId}{parts:Array (Nat×Operand)}(X:Ex P tmps ds w ⟨dst,.build t parts,ty,pos,AH,gd⟩ m mk)(e:aD P ans an drawn AF DS cf tm tk ⟨dst,.build t parts,ty,pos,AH,gd⟩ rs kp k=some r):Goal P ans an w B0 Z J ow tmps tm rs dst m mk mp kp k r:=by
 simp only[aD] at e;obtain⟨z,hz,e⟩:=aC e
 have fin:∀{place:Nat->Option (Nat×Nat)}{l:List (Nat×AVal)}{cs:List Cell},l.length=parts.toList.length ->
   (∀(n:Nat)(p:Nat×AVal)(q:Nat×Operand),l[n]?=some p->parts.toList[n]?=some q->p.1=q.1/\VRel Z J p.2 (ev tmps ds q.2))->u9 place z l=some cs->k (.cells cs) rs=some r ->
   (∀zv,(P.info? t).bind (·.zero)=some zv->P.built t (parts.map λ(i,x)=>(i,ev tmps ds x)).toList=Instr.fill place zv.cells (parts.map λ(i,x)=>(i,ev tmps ds x)).toList)->Goal P ans an w B0 Z J ow tmps tm rs dst m mk mp kp k r:=λhl hr hf hk hb=>by
  obtain⟨vs,AZ,CI⟩:=aDY (ds:=ds) h hz hl hr hf hb;exact .plain h hk (.cells _ _ CI) (λ_ _ e=>by cases e) (λ_ e=>by cases e) (X.val _ _ (by simp[execOp,AZ]))
 split at e
 ·rename_i fs hu
  obtain⟨l,e,hl,hr⟩:=oL (ds:=ds) h e;obtain⟨places,hp,e⟩:=aC e;obtain⟨cs,hf,e⟩:=aC e;refine fin hl hr hf e λzv Hy=>?_
  cases hi:P.info? t with
  |none=>simp[hi] at Hy
  |some it =>
   simp[hi] at Hy;simp[Program.built,hi,hu,Hy,hp]
 ·rename_i n el hu
  obtain⟨l,e,hl,hr⟩:=oL (ds:=ds) h e;obtain⟨s,hs,e⟩:=aC e;obtain⟨cs,hf,e⟩:=aC e;refine fin hl hr hf e λzv Hy=>?_
  cases hi:P.info? t with
  |none=>simp[hi] at Hy
  |some it =>
   simp[hi] at Hy;cases KQ:P.info? el with
   |none=>simp[bA,KQ] at hs
   |some ie =>
    simp[bA,KQ] at hs;simp[Program.built,hi,hu,Hy,KQ,hs]
 ·cases e
theorem bp(h:Rel P ans B0 w Z J ow an (sl an tm rs) tmps rs.sto.objs){t:TypeId}{len:Nat}{parts:Array (Nat×Operand)}(X:Ex P tmps ds w ⟨dst,.buildSlice t len parts,ty,pos,AH,gd⟩ m mk)(e:aD P ans an drawn AF DS cf tm tk ⟨dst,.buildSlice t len parts,ty,pos,AH,gd⟩ rs kp k=some r):Goal P ans an w B0 Z J ow tmps tm rs dst m mk mp kp k r:=by
 simp only[aD] at e;obtain⟨el,GD,e⟩:=aC e;obtain⟨s,hs,e⟩:=aC e;obtain⟨hg,e⟩:=aB e;obtain⟨l,e,hl,hr⟩:=oL (ds:=ds) h e;obtain⟨z,hz,e⟩:=aC e;obtain⟨DX,e⟩:=aB e;obtain⟨xs,hf,e⟩:=aC e
 have hu:P.underlying t=some (.slice el):=by
  unfold aT at GD
  split at GD
  ·rename_i e' he;cases GD;exact he
  ·cases GD
 simp only[Ac] at hg DX;obtain⟨v,w',Z',AZ,hR,hS,hF⟩:=az (ds:=ds) h hu hs (by simpa[Dc] using hg.1) (Ah hg.2) hz (Aa DX.1) DX.2 hl hr hf;exact .inl ⟨_,rs,v,w',Z',J,ow,e,hR,hS,(λu o he=>by cases he),(λcs he=>by cases he),hF,aI _,StoLe.refl _,X.val _ _ (by simp[execOp,AZ])⟩
theorem aIb(h:Rel P ans B0 w Z J ow an (sl an tm rs) tmps rs.sto.objs){t:TypeId}{a:Operand}(X:Ex P tmps ds w ⟨dst,.load t a,ty,pos,AH,gd⟩ m mk)(e:aD P ans an drawn AF DS cf tm tk ⟨dst,.load t a,ty,pos,AH,gd⟩ rs kp k=some r):Goal P ans an w B0 Z J ow tmps tm rs dst m mk mp kp k r:=by
 simp only[aD] at e;obtain⟨p,e,hp⟩:=j5 (ds:=ds) h e;have e:=pX e;obtain⟨cs,off,b,o,e,hv,hrd,NH,Jj⟩:=jM h hp e;obtain⟨s,hs,e⟩:=aC e;obtain⟨agg,DO,e⟩:=aC e;have AZ:∀v,(loadVar t ⟨b,o,none⟩).run P w=.ok v w->Steps P m (mk v w):=λv hl=>X.val _ _ (by simp[execOp,Instr.loadAt,ev,hv,Instr.sureAddr,hl])
 cases agg with
 |true =>
  simp only at e;obtain⟨x,hx,e⟩:=aC e;obtain⟨v,hl,PF⟩:=sw (P:=P) hrd DO hs hx;exact .val h e PF (AZ v hl)
 |false =>
  simp only at e
  replace e:=(aB e).2
  have one:∀c,cs[off]?=some c->k (.val c.get) rs=some r->Goal P ans an w B0 Z J ow tmps tm rs dst m mk mp kp k r:=λc hc e=>by
   obtain⟨v,hl,PF⟩:=td (P:=P) hrd DO hc;exact .val h e PF (AZ v hl)
  cases CI:cs[off]? with
  |none=>cases tk<;>simp[CI] at e
  |some c =>
   cases c with
   |val c=>cases tk<;>exact one _ CI (by simpa[CI] using e)
   |own sz xs =>
    cases tk with
    |false=>exact one _ CI (by simpa[CI] using e)
    |true =>
     simp only[CI] at e;obtain⟨u,hu,_,Mj⟩:=hrd 0 _ (by simpa using CI);have EA:w.cell? ⟨b,o,none⟩=some u:=by simpa using hu
     have A7:=AZ u (run_loadVar_one DO EA);cases p with
     |loc t' o' =>
      obtain⟨l1,l2,l3,l4⟩:=NH t' o' rfl;simp only[bQ] at e;subst l2;obtain⟨g1,g2⟩:=aGd h l1 l4 l3 CI EA;refine .inl ⟨_,_,_,w,Z,J,_,e,?_,.own _ _ _ g2,(λu o he=>by cases he),(λcs he=>by cases he),?_,aI _,StoLe.refl _,A7⟩
      ·rw[show sl an tm (rs.put t' (.box (cs.set off (.val (.slice xs)))))=upd (sl an tm rs) t' (.box (cs.set off (.val (.slice xs)))) from dS _ _ _ _ _];exact g1
      ·exact⟨Z.le_refl,Ae _,λ_ _ _=>⟨rfl,λ_=>rfl⟩,λb hb=>.inl (lX hb),rfl,rfl,rfl⟩
     |obj i o' =>
      obtain⟨l1,l2,l3,l4⟩:=Jj i o' rfl;simp only[bQ] at e;obtain⟨hg,e⟩:=aB e;simp only[Ac] at hg;subst l2;obtain⟨g1,g2⟩:=vw h l1 l3 l4 CI EA;refine .inl ⟨_,_,_,w,Z,J,_,e,g1,.own _ _ _ g2,(λu o he=>by cases he),(λcs he=>by cases he),?_,aI _,⟨rfl,by simp,λj hj=>?_⟩,A7⟩
      ·exact⟨Z.le_refl,Ae _,λ_ _ _=>⟨rfl,λ_=>rfl⟩,λb hb=>.inl (lX hb),rfl,rfl,rfl⟩
      ·have:=Ah hg.1
       simp[Cw,show ¬i=j by omega]
     |imm x=>simp[bQ] at e
theorem aFw(h:Rel P ans B0 w Z J ow an (sl an tm rs) tmps rs.sto.objs){t:TypeId}{a x:Operand}(X:Ex P tmps ds w ⟨dst,.store t a x,ty,pos,AH,gd⟩ m mk)(e:aD P ans an drawn AF DS cf tm tk ⟨dst,.store t a x,ty,pos,AH,gd⟩ rs kp k=some r):Goal P ans an w B0 Z J ow tmps tm rs dst m mk mp kp k r:=by
 simp only[aD] at e;obtain⟨p,e,hp⟩:=j5 (ds:=ds) h e;have e:=pX e;obtain⟨cs,off,b,o,e,hv,hrd,NH,Jj⟩:=jM h hp e;obtain⟨s,hs,e⟩:=aC e;obtain⟨new,rs1,BX,e,h1,hn,hF,A7,B4,GH⟩:=xP (ds:=ds) h an.nt e;obtain⟨hg,e⟩:=aB e;simp only[Ac] at hg;have Hr:new.length=s:=Aa hg.1;have hle:off+s<=cs.length:=Ah hg.2;have C9:(ev tmps ds x).cells.size=s:=by rw[<-Hr,hn.1];simp
 have AZ:∀vs T,w.heap[b]?=some (.cells ⟨vs⟩ T (0,0))->cs.length=vs.length->off=o->Steps P m (mk undef (w.putObj b (.cells ⟨overwrite vs o (ev tmps ds x).cells.toList⟩ T (0,0)))):=λvs T hh hl ho=>by
  refine X.skip _ ?_
  have:=fQ (P:=P) (t:=t) (o:=o) (v:=ev tmps ds x) (by rw[C9];exact hs) hh hn.one (by rw[C9];omega)
  simp[execOp,Instr.storeAt,ev,hv,Instr.sureAddr];simp[ev] at this;simp[this]
 cases p with
 |loc t' o' =>
  obtain⟨l1,l2,l3,l4⟩:=NH t' o' rfl;simp only[bQ] at e;subst l2;have Oz:=GH t' cs l1;obtain⟨b1,b2,b3,vs,T,b4,b5⟩:=l3;have FG:=h1.slots t';rw[Oz,l4] at FG;cases FG with
  |box _ _ DD =>
   obtain⟨c1,c2,c3,B7,T',c4,c5⟩:=DD;have hR:=aCE h1 Oz l4 ⟨c1,c2,c3,B7,T',c4,c5⟩ c4 c5 hn (by rw[Hr];exact hle);refine .inl ⟨.dead,_,undef,w.putObj b (.cells ⟨overwrite B7 off (ev tmps ds x).cells.toList⟩ T' (0,0)),Z,J,ren BX false an.nt false t' off,e,?_,.dead _,(λu o he=>by cases he),(λcs he=>by cases he),hF.trans (Fr.put (by simp[c1]) (λx hx=>lC _ hx)),aI _,by show StoLe rs.sto rs1.sto;rw[A7];exact StoLe.refl _,AZ B7 T' c4 c5.1 rfl⟩;rw[show sl an tm (rs1.put t' (.box (setCells cs off new)))=upd (sl an tm rs1) t' (.box (setCells cs off new)) from dS _ _ _ _ _];exact hR
 |obj i o' =>
  obtain⟨l1,l2,l3,l4⟩:=Jj i o' rfl;simp only[bQ] at e;obtain⟨DX,e⟩:=aB e;simp only[Ac] at DX;subst l2;have Oz:rs1.sto.objs[i]?=some (.box cs):=by rw[A7];exact l1
  obtain⟨b',AX,KM⟩:=h1.objs.2 i _ Oz;obtain rfl:b=b':=by rw[l3] at AX;exact Ap AX
  cases KM with
  |box _ _ DD =>
   obtain⟨c1,c2,c3,B7,T',c4,c5⟩:=DD;have hR:=et h1 Oz l3 ⟨c1,c2,c3,B7,T',c4,c5⟩ c4 c5 hn (by rw[Hr];exact hle) DX.2;refine .inl ⟨.dead,_,undef,w.putObj b (.cells ⟨overwrite B7 off (ev tmps ds x).cells.toList⟩ T' (0,0)),Z,J,ren BX false an.nt true i off,e,hR,.dead _,(λu o he=>by cases he),(λcs he=>by cases he),hF.trans (Fr.put (by simp[c1]) (λx hx=>lC _ hx)),aI _,⟨by rw[<-A7],by rw[<-A7];simp,λj hj=>?_⟩,AZ B7 T' c4 c5.1 rfl⟩
   have:=Ah DX.1
   rw[A7] at this;rw[<-A7];simp[Cw,show ¬i=j by omega]
 |imm y=>simp[bQ] at e
theorem uh(h:Rel P ans B0 w Z J ow an (sl an tm rs) tmps rs.sto.objs){x:Operand}(X:Ex P tmps ds w ⟨dst,.nilCheck x,ty,pos,AH,gd⟩ m mk)(e:aD P ans an drawn AF DS cf tm tk ⟨dst,.nilCheck x,ty,pos,AH,gd⟩ rs kp k=some r):Goal P ans an w B0 Z J ow tmps tm rs dst m mk mp kp k r:=by
 simp only[aD] at e;obtain⟨t,hs,ht⟩:=bH (ds:=ds) h x;have LS:∀a,ev tmps ds x=.pointer (some a)->Steps P m (mk (.pointer (some a)) w):=λa ha=>X.val _ _ (by simp[execOp,ha])
 split at e
 ·rename_i cs BJ
  split at e
  ·rename_i t'
   obtain rfl:=ht t' rfl;have BN:sl an tm rs t=.box cs:=BJ;have DU:=h.slots t;rw[BN] at DU;have hv:ev tmps ds (.tmp t)=tmps.getD t undef:=rfl;generalize hg:tmps.getD t undef=v at DU;cases DU with
   |box _ b hb=>exact .plain h e (.ref t 0 b hg) (λu o he=>by cases he;exact⟨cs,BN⟩) (λ_ he=>by cases he) (LS _ (by rw[hv,hg]))
  ·cases e
 ·rename_i u o BJ
  rw[BJ] at hs;have HP:=r8 h x u o BJ;generalize hg:(⟨tmps,ds⟩:Act).eval x=v at hs;cases hs with
  |ref _ _ b hb=>exact .plain h e (.ref u o b hb) (λu' o' he=>by cases he;exact HP) (λ_ he=>by cases he) (LS _ hg)
 ·rename_i i o BJ
  rw[BJ] at hs;generalize hg:(⟨tmps,ds⟩:Act).eval x=v at hs;cases hs with
  |val _ _ hv =>
   cases hv with
   |loc _ _ b hb=>exact .val h e (.loc i o b hb) (LS _ hg)
 ·rename_i y BJ
  rw[BJ] at hs;generalize hg:(⟨tmps,ds⟩:Act).eval x=v at hs;cases hs with
  |val _ _ hv =>
   cases hv with
   |cptr _ b o hb=>exact .val h e (.cptr y b o hb) (LS _ hg)
 ·rename_i f cs BJ
  rw[BJ] at hs;generalize hg:(⟨tmps,ds⟩:Act).eval x=v at hs;cases hs with
  |val _ _ hv =>
   cases hv with
   |func _ _ vs hl hx=>exact .val h e (.func f cs vs hl hx) (X.val _ _ (by simp[execOp,ev,hg]))
 ·cases e
theorem sj{t:TypeId}(h:gE P t=true):∃e,P.underlying t=some (.slice e):=by
 unfold gE at h;split at h
 ·exact⟨_,by assumption⟩
 ·cases h
theorem yQ{t:TypeId}(h:rT P t=true):∃e,P.underlying t=some (.interface e):=by
 unfold rT at h;split at h
 ·exact⟨_,by assumption⟩
 ·cases h
theorem yd{t:TypeId}(h:mf P t=true):P.underlying t=some .bool:=by
 unfold mf at h;split at h
 ·assumption
 ·cases h
theorem tV{t:TypeId}(h:yS P t=true):∃e,P.underlying t=some (.pointer e):=by
 unfold yS at h;split at h
 ·exact⟨_,by assumption⟩
 ·cases h
theorem b8{t:TypeId}{x y:Value}{d:TypeDesc}{b:Bool}(hu:P.underlying t=some d)
  (h:∀n,(Op.equalIn (n+1) t x y).run P w=.ok b w):(Op.equal t x y).run P w=.ok b w:=h 9999
theorem aGO{op:BinOp}{t:TypeId}{ox oy:Operand}{a b c:AVal}{va vb:Value}(ha:VRel Z J a va)(hb:VRel Z J b vb)(ht:iF P t a=true)(e:jI op a b=some c) :
  (eqGuard op t ox oy va vb).run P w=.ok () w/\∃v,(binOp op t va vb).run P w=.ok v w/\VRel Z J c v:=by
 cases ha with
 |int kd n =>
  cases hb with
  |int HB n' =>
   simp only[jI] at e
   split at e
   ·subst_vars
    refine⟨by rw[eqGuard_at_int];rfl,?_⟩;cases op<;>simp only[Ak,reduceCtorEq] at e
    case rem =>
     split at e
     ·cases e
     ·rename_i h0
      cases e;exact⟨_,by simp[binOp,Op.intDiv,h0],.int _ _⟩
    all_goals (subst e;first
     |exact⟨_,by simp[binOp,Op.intArith],.int _ _⟩
     |exact⟨_,by simp[binOp,Op.intCmp],.bool _⟩)
   ·cases e
  |_=>simp[jI] at e
 |str s =>
  cases hb with
  |str s' =>
   refine⟨by rw[eqGuard_at_string];rfl,?_⟩;cases op<;>simp only[jI,Ak,reduceCtorEq] at e
   all_goals (subst e;exact⟨_,by simp[binOp,Op.stringOp,ByteArray.toList_eq],.bool _⟩)
  |_=>simp[jI] at e
 |bool x =>
  cases hb with
  |bool y =>
   have hu:=yd ht;have he:(Op.equal t (.bool x) (.bool y)).run P w=.ok (x==y) w:=b8 hu λn=>by simp[Op.equalIn,run_underlying hu]
   refine⟨by rw[eqGuard_at_bool];rfl,?_⟩;cases op<;>simp only[jI,Ak,reduceCtorEq] at e
   all_goals (subst e;exact⟨_,by simp only[binOp,Sem.run_bind,he,Result.andThen_ok];rfl,.bool _⟩)
  |_=>simp[jI] at e
 |nilif =>
  cases hb with
  |iface d u vu EA =>
   obtain⟨el,hu⟩:=yQ ht;have he:(Op.equal t .nilIface (.iface d vu)).run P w=.ok false w:=b8 hu λn=>by simp[Op.equalIn,run_underlying hu]
   refine⟨by rw[eqGuard_nil_iface];rfl,?_⟩;cases op<;>simp only[jI,Ak,reduceCtorEq] at e
   all_goals (subst e;exact⟨_,by simp only[binOp,Sem.run_bind,he,Result.andThen_ok];rfl,.bool _⟩)
  |_=>simp[jI] at e
 |iface d u vu EA =>
  cases hb with
  |nilif =>
   obtain⟨el,hu⟩:=yQ ht;have he:(Op.equal t (.iface d vu) .nilIface).run P w=.ok false w:=b8 hu λn=>by simp[Op.equalIn,run_underlying hu]
   refine⟨by rw[eqGuard_at_iface];rfl,?_⟩;cases op<;>simp only[jI,Ak,reduceCtorEq] at e
   all_goals (subst e;exact⟨_,by simp only[binOp,Sem.run_bind,he,Result.andThen_ok];rfl,.bool _⟩)
  |_=>simp[jI] at e
 |nilptr =>
  cases hb with
  |nilptr =>
   obtain⟨el,hu⟩:=tV ht;have he:(Op.equal t (.pointer none) (.pointer none)).run P w=.ok true w:=b8 hu λn=>by simp[Op.equalIn,run_underlying hu]
   refine⟨by rw[eqGuard_at_pointer];rfl,?_⟩;cases op<;>simp only[jI,Ak,reduceCtorEq] at e
   all_goals (subst e;exact⟨_,by simp only[binOp,Sem.run_bind,he,Result.andThen_ok];rfl,.bool _⟩)
  |_=>simp[jI] at e
 |cptr x bb oo hx =>
  cases hb with
  |nilptr =>
   obtain⟨el,hu⟩:=tV ht;have he:(Op.equal t (.pointer (some ⟨bb,oo,none⟩)) (.pointer none)).run P w=.ok false w:=b8 hu λn=>by simp[Op.equalIn,run_underlying hu]
   refine⟨by rw[eqGuard_at_pointer];rfl,?_⟩;cases op<;>simp only[jI,Ak,reduceCtorEq] at e
   all_goals (subst e;exact⟨_,by simp only[binOp,Sem.run_bind,he,Result.andThen_ok];rfl,.bool _⟩)
  |_=>simp[jI] at e
 |loc i off bb hi =>
  cases hb with
  |nilptr =>
   obtain⟨el,hu⟩:=tV ht;have he:(Op.equal t (.pointer (some ⟨bb,off,none⟩)) (.pointer none)).run P w=.ok false w:=b8 hu λn=>by simp[Op.equalIn,run_underlying hu]
   refine⟨by rw[eqGuard_at_pointer];rfl,?_⟩;cases op<;>simp only[jI,Ak,reduceCtorEq] at e
   all_goals (subst e;exact⟨_,by simp only[binOp,Sem.run_bind,he,Result.andThen_ok];rfl,.bool _⟩)
  |_=>simp[jI] at e
 |slice=>simp[iF] at ht
 |agg=>simp[iF] at ht
 |nilfunc=>simp[iF] at ht
 |nilmap=>simp[iF] at ht
 |amap=>simp[iF] at ht
 |yld=>simp[iF] at ht
 |func=>simp[iF] at ht
 |opq=>simp[iF] at ht
 |raw=>simp[iF] at ht
theorem bo{y:Operand}(h:dR y=true):∃a b,y=.const (.slice none a b):=by
 unfold dR at h;split at h
 ·exact⟨_,_,rfl⟩
 ·cases h
theorem bn{y:Operand}(h:isNilIface y=true):y=.const .nilIface:=by
 unfold isNilIface at h;split at h
 ·rfl
 ·cases h
theorem yk{t:Nat}{s:Slot}{v:Value}(hs:SRel w B0 Z J ow tmps t s v){b:Bool}(e:cO s=some b):(∃l c,b=true/\v=.slice none l c)\/∃a l c,b=false/\v=.slice (some a) l c:=by
 have Uh:∀{x:AVal}{xs:List AVal}{J:List Nat},VRel Z J (.slice (x::xs)) v->∃a l c,v=.slice (some a) l c:=λh=>by
  cases h with
  |slice _ a len cap s hl hc hx =>
   obtain⟨_,b,o,rfl,_⟩:=hx 0 _ rfl;exact⟨_,_,_,rfl⟩
 cases hs with
 |dead=>simp[cO] at e
 |tup=>simp[cO] at e
 |cells=>simp[cO] at e
 |box=>simp[cO] at e
 |ref=>simp[cO] at e
 |nl=>simp[cO] at e;exact .inl ⟨_,_,e,rfl⟩
 |nn xs a n c h=>simp[cO] at e;exact .inr ⟨_,_,_,e,rfl⟩
 |val x v h =>
  cases x with
  |slice xs=>cases xs with
   |nil=>simp[cO] at e
   |cons x xs=>simp[cO] at e;obtain⟨a,l,c,rfl⟩:=Uh h;exact .inr ⟨_,_,_,e,rfl⟩
  |_=>simp[cO] at e
 |own sz xs v h=>cases xs with
  |nil=>simp[cO] at e
  |cons x xs=>simp[cO] at e;obtain⟨a,l,c,rfl⟩:=Uh h.rel;exact .inr ⟨_,_,_,e,rfl⟩
 |full xs a n h=>cases xs with
  |nil=>simp[cO] at e
  |cons x xs=>simp[cO] at e;obtain⟨a',l,c,he⟩:=Uh h;cases he;exact .inr ⟨_,_,_,e,rfl⟩
theorem aFq(h:Rel P ans B0 w Z J ow an (sl an tm rs) tmps rs.sto.objs){op:BinOp}{t:TypeId}{x y:Operand}{fl:_}(X:Ex P tmps ds w ⟨dst,.binOp op t x y fl,ty,pos,AH,gd⟩ m mk)(e:aD P ans an drawn AF DS cf tm tk ⟨dst,.binOp op t x y fl,ty,pos,AH,gd⟩ rs kp k=some r):Goal P ans an w B0 Z J ow tmps tm rs dst m mk mp kp k r:=by
 simp only[aD] at e;obtain⟨tx,BR,_⟩:=bH (ds:=ds) h x;obtain⟨tY,Ml,_⟩:=bH (ds:=ds) h y
 have fin:∀v,(eqGuard op t x y (ev tmps ds x) (ev tmps ds y)).run P w=.ok () w->(binOp op t (ev tmps ds x) (ev tmps ds y)).run P w=.ok v w->Steps P m (mk v w):=λv h1 h2 =>
  X.val _ _ (by simp[execOp,h1,h2])
 have nils:(op=.eql\/op=.neq)->dR y=true->∀b,cO (A9 an.keep tm rs x)=some b->gE P t=true->k (.val (.bool (if op=.eql then b else !b))) rs=some r->Goal P ans an w B0 Z J ow tmps tm rs dst m mk mp kp k r:=λBJ hy b hb DU hk=>by
  obtain⟨l',c',rfl⟩:=bo hy;obtain⟨el,hu⟩:=sj DU;have hvy:ev tmps ds (.const (.slice none l' c'))=.slice none l' c':=rfl
  have hq:(Op.equal t (ev tmps ds x) (.slice none l' c')).run P w=.ok b w/\∃a l c,ev tmps ds x=.slice a l c:=by
   rcases yk BR hb with⟨l,c,rfl,hv⟩|⟨a,l,c,rfl,hv⟩
   ·exact⟨b8 hu λn=>by simp[ev,hv,Op.equalIn,run_underlying hu],_,_,_,hv⟩
   ·exact⟨b8 hu λn=>by simp[ev,hv,Op.equalIn,run_underlying hu],_,_,_,hv⟩
  obtain⟨hq,a,l,c,hv⟩:=hq;refine .val h hk (.bool _) (fin _ (by rw[hv,eqGuard_at_slice];rfl) ?_);rcases BJ with rfl|rfl
  ·rw[hv] at hq ⊢;rw[hvy];simp only[binOp,Sem.run_bind,hq,Result.andThen_ok];rfl
  ·rw[hv] at hq ⊢;rw[hvy];simp only[binOp,Sem.run_bind,hq,Result.andThen_ok];rfl
 have nilf:(op=.eql\/op=.neq)->isNilIface y=true->A9 an.keep tm rs x=.val .nilif->rT P t=true->k (.val (.bool (if op=.eql then true else false))) rs=some r->Goal P ans an w B0 Z J ow tmps tm rs dst m mk mp kp k r:=λBJ hy hx hit hk=>by
  obtain rfl:=bn hy;obtain⟨el,hu⟩:=yQ hit;have hvy:ev tmps ds (.const .nilIface)=.nilIface:=rfl
  have JB:ev tmps ds x=.nilIface:=by
   rw[hx] at BR;generalize hg:(⟨tmps,ds⟩:Act).eval x=v at BR;cases BR with|val _ _ hv=>cases hv;exact hg
  have hq:(Op.equal t .nilIface .nilIface).run P w=.ok true w:=b8 hu λn=>by simp[Op.equalIn,run_underlying hu]
  refine .val h hk (.bool _) (fin _ (by rw[JB,hvy,eqGuard_nil_constR];rfl) ?_);rcases BJ with rfl|rfl
  ·rw[JB,hvy];simp only[binOp,Sem.run_bind,hq,Result.andThen_ok];rfl
  ·rw[JB,hvy];simp only[binOp,Sem.run_bind,hq,Result.andThen_ok];rfl
 have gen:DI (A9 an.keep tm rs x) (λa=>DI (A9 an.keep tm rs y) λb=>aL (iF P t a) ((jI op a b).bind λv=>k (.val v) rs))=some r->Goal P ans an w B0 Z J ow tmps tm rs dst m mk mp kp k r:=λe=>by
  obtain⟨a,e,ha⟩:=jK BR e;obtain⟨b,e,hb⟩:=jK Ml e;obtain⟨hg,e⟩:=aB e;obtain⟨c,hc,e⟩:=aC e;obtain⟨h1,v,h2,h3⟩:=aGO (w:=w) (ox:=x) (oy:=y) ha hb hg hc;exact .val h e h3 (fin _ h1 h2)
 split at e
 ·rename_i hn
  obtain⟨hg,e⟩:=aB e;obtain⟨b,hb,e⟩:=aC e;exact nils (.inl rfl) hn b hb hg (by simpa using e)
 ·rename_i hn
  obtain⟨hg,e⟩:=aB e;obtain⟨b,hb,e⟩:=aC e;exact nils (.inr rfl) hn b hb hg (by simpa using e)
 ·split at e
  ·obtain⟨hg,e⟩:=aB e
   exact nilf (.inl rfl) (by assumption) (by assumption) hg (by simpa using e)
  ·obtain⟨hg,e⟩:=aB e
   exact nilf (.inr rfl) (by assumption) (by assumption) hg (by simpa using e)
  ·exact gen e
theorem aIe(h:Rel P ans B0 w Z J ow an (sl an tm rs) tmps rs.sto.objs){op:UnOp}{t:TypeId}{x:Operand}(X:Ex P tmps ds w ⟨dst,.unOp op t x,ty,pos,AH,gd⟩ m mk)(e:aD P ans an drawn AF DS cf tm tk ⟨dst,.unOp op t x,ty,pos,AH,gd⟩ rs kp k=some r):Goal P ans an w B0 Z J ow tmps tm rs dst m mk mp kp k r:=by
 simp only[aD] at e;obtain⟨tx,BR,_⟩:=bH (ds:=ds) h x
 split at e
 ·rename_i b hx
  rw[hx] at BR;generalize hg:(⟨tmps,ds⟩:Act).eval x=v at BR;cases BR with
  |val _ _ hv=>cases hv with
   |bool=>exact .val h e (.bool _) (X.val _ _ (by simp[execOp,ev,hg,Op.unary]))
 ·rename_i kd n hx
  rw[hx] at BR;generalize hg:(⟨tmps,ds⟩:Act).eval x=v at BR;cases BR with
  |val _ _ hv=>cases hv with
   |int=>exact .val h e (.int _ _) (X.val _ _ (by simp[execOp,ev,hg,Op.unary,Op.intArith]))
 ·cases e
theorem yn(h:Rel P ans B0 w Z J ow an (sl an tm rs) tmps rs.sto.objs){src dt:TypeId}{x:Operand}(X:Ex P tmps ds w ⟨dst,.convert src dt x,ty,pos,AH,gd⟩ m mk)(e:aD P ans an drawn AF DS cf tm tk ⟨dst,.convert src dt x,ty,pos,AH,gd⟩ rs kp k=some r):Goal P ans an w B0 Z J ow tmps tm rs dst m mk mp kp k r:=by
 simp only[aD] at e;obtain⟨tx,BR,_⟩:=bH (ds:=ds) h x
 split at e
 ·rename_i k1 kd h1 h2
  obtain⟨kk,n,e,hv⟩:=eJ BR e;exact .val h e (.int _ _) (X.val _ _ (by simp[execOp,ev,hv,convert,run_underlying h1,run_underlying h2,Conv.intToInt]))
 ·rename_i h1 h2
  split at e
  ·rename_i s hx
   rw[hx] at BR;generalize hg:(⟨tmps,ds⟩:Act).eval x=v at BR;cases BR with
   |val _ _ hv=>cases hv with
    |str=>exact .val h e (.str _) (X.val _ _ (by simp[execOp,ev,hg,convert,run_underlying h1,run_underlying h2]))
  ·cases e
 ·cases e
theorem zS{t:TypeId}{cs:List AVal}{vs:Array Value}{off s:Nat}{agg:Bool}{u:AVal}(h:VRel Z J (.agg cs) (.agg vs))(h1:bO P t=some agg)(h2:bA P t=some s)(hu:partOf agg cs off s=some u) :
  ∃v,(part t vs off).run P w=.ok v w/\VRel Z J u v:=by
 cases h with
 |agg _ vs hl hk hx =>
  cases agg with
  |false =>
   simp only[partOf,Bc,Dd] at hu;have hi:off<vs.length:=by rw[<-hl];exact(Ab.1 hu).1
   exact⟨vs[off],by simp[part,cY h1,hi],hx off u _ hu (by simp[hi])⟩
  |true =>
   simp only[partOf,Dk] at hu;cases hle:Nat.ble (off+s) cs.length with
   |false=>simp[hle] at hu
   |true =>
    simp[hle] at hu;subst hu;have EG:=Ah hle;refine⟨.agg ⟨(vs.drop off).take s⟩,by simp[part,cY h1,run_sizeOf h2,He],.agg _ _ (by simp[hl]) (λi c hc=>?_) (λi c v hc hv=>?_)⟩
    ·rw[Bm] at hc
     split at hc
     ·rw[Dr] at hc;exact hk _ c hc
     ·cases hc
    ·rw[Bm] at hc hv
     split at hc
     ·rename_i hi
      rw[Bo hi] at hv;rw[Dr] at hc hv;exact hx _ c v hc hv
     ·cases hc
theorem aB2(hw:WSat Z w){x u:AVal}{b o off s:Nat}{agg:Bool}(h:∀(j:Nat)(c:AVal),x.cells[j]?=some c->Z b (o+j) c)(hu:partOf agg x.cells off s=some u) :
  VRel Z J (.cptr u) (.pointer (some ⟨b,o+off,none⟩)):=by
 refine .cptr u b _ λj c hc=>?_
 cases agg with
 |false =>
  simp only[partOf,Bc,Dd] at hu;have h1:=h off u hu;have h2:=jB (hw.sat _ _ _ h1).1;rw[gJ h2] at hc;cases j with
  |zero=>simp at hc;subst hc;exact h1
  |succ j=>simp at hc
 |true =>
  simp only[partOf,Dk] at hu;cases hle:Nat.ble (off+s) x.cells.length with
  |false=>simp[hle] at hu
  |true =>
   simp[hle] at hu;subst hu;simp only[AVal.cells] at hc;rw[Bm] at hc
   split at hc
   ·rw[Dr] at hc
    have:=h _ c hc
    rwa [<-De] at this
   ·cases hc
def oa(rs:RS)(p:Place)(off s:Nat)(agg:Option Bool)(k:Slot->RS->Option R):Option R :=
 match p with
 |.loc t o=>k (.ref t (o+off)) rs
 |.obj i o=>k (.val (.loc i (o+off))) rs
 |.imm v=>agg.bind λagg=>(partOf agg v.cells off s).bind λu=>k (.val (.cptr u)) rs
theorem vm(h:Rel P ans B0 w Z J ow an (sl an tm rs) tmps rs.sto.objs){p:Place}{v:Value}(hp:Rp Z J tmps (sl an tm rs) p v){off s:Nat}{agg:Option Bool}(e:oa rs p off s agg k=some r) :
  ∃b o,v=.pointer (some ⟨b,o,none⟩)/\(Steps P m (mk (.pointer (some ⟨b,o+off,none⟩)) w)->Goal P ans an w B0 Z J ow tmps tm rs dst m mk mp kp k r):=by
 cases p with
 |loc t o =>
  obtain⟨cs,b,h1,h2,h3⟩:=hp;exact⟨b,o,h3,λhs=>.plain h e (.ref t _ b h2) (λu o' he=>by cases he;exact⟨cs,h1⟩) (λ_ he=>by cases he) hs⟩
 |obj i o =>
  obtain⟨b,h1,h2⟩:=hp;exact⟨b,o,h2,λhs=>.val h e (.loc i _ b h1) hs⟩
 |imm x =>
  simp only[Rp] at hp;simp only[oa] at e;obtain⟨a,_,e⟩:=aC e;obtain⟨u,hu,e⟩:=aC e;cases hp with
  |cptr _ b o hb=>exact⟨b,o,rfl,λhs=>.val h e (aB2 h.wsat hb hu) hs⟩
theorem CP{t:TypeId}{f:Nat}{o:Nat×TypeId}(h:AY P t f=some o):∃fs fl,P.underlying t=some (.struct fs)/\fs[f]?=some fl/\fl.offset=o.1/\fl.type=o.2:=by
 unfold AY at h
 split at h
 ·rename_i fs hu
  simp only[Al] at h;obtain⟨fl,h1,rfl⟩:=h;exact⟨fs,fl,hu,h1,rfl,rfl⟩
 ·cases h
theorem my(h:Rel P ans B0 w Z J ow an (sl an tm rs) tmps rs.sto.objs){t:TypeId}{x:Operand}{f:Nat}(X:Ex P tmps ds w ⟨dst,.fieldAddr t x f,ty,pos,AH,gd⟩ m mk)(e:aD P ans an drawn AF DS cf tm tk ⟨dst,.fieldAddr t x f,ty,pos,AH,gd⟩ rs kp k=some r):Goal P ans an w B0 Z J ow tmps tm rs dst m mk mp kp k r:=by
 simp only[aD] at e;obtain⟨ot,hf,e⟩:=aC e;obtain⟨s,hs,e⟩:=aC e;obtain⟨hg,e⟩:=aB e;obtain⟨p,e,hp⟩:=j5 (ds:=ds) h e;obtain⟨fs,fl,h1,h2,h3,h4⟩:=CP hf;have e':oa rs p ot.1 s (bO P ot.2) k=some r:=by cases p<;>exact e
 obtain⟨b,o,hv,Pe⟩:=vm (m:=m) (mk:=mk) (mp:=mp) (kp:=kp) (dst:=dst) h hp e';refine Pe (X.val _ _ ?_)
 have GX:¬s=0:=by have:0<s:=by simpa[Dc] using hg
                  omega
 simp[execOp,ev,hv,Instr.fieldAt,run_underlying h1,h2,Instr.sureAddr,fieldPlace,h4,run_sizeOf hs,GX,cF,h3]
theorem aFs(h:Rel P ans B0 w Z J ow an (sl an tm rs) tmps rs.sto.objs){t:TypeId}{x:Operand}{f:Nat}(X:Ex P tmps ds w ⟨dst,.field t x f,ty,pos,AH,gd⟩ m mk)(e:aD P ans an drawn AF DS cf tm tk ⟨dst,.field t x f,ty,pos,AH,gd⟩ rs kp k=some r):Goal P ans an w B0 Z J ow tmps tm rs dst m mk mp kp k r:=by
 simp only[aD] at e;obtain⟨tx,BR,_⟩:=bH (ds:=ds) h x;obtain⟨ot,hf,e⟩:=aC e;obtain⟨s,hs,e⟩:=aC e;obtain⟨agg,ha,e⟩:=aC e;obtain⟨fs,fl,h1,h2,h3,h4⟩:=CP hf
 split at e
 ·rename_i cs hx
  obtain⟨u,hu,e⟩:=aC e;rw[hx] at BR;generalize hg:(⟨tmps,ds⟩:Act).eval x=v at BR;cases BR with
  |val _ _ hv =>
   have FW:=hv;cases hv with
   |agg _ vs hl hk hxx =>
    obtain⟨z,hz,HE⟩:=zS (P:=P) (w:=w) FW ha hs hu;exact .val h e HE (X.val _ _ (by simp[execOp,ev,hg,Instr.field,run_underlying h1,h2,asAgg,h4,h3,hz]))
 ·cases e
theorem mz(h:Rel P ans B0 w Z J ow an (sl an tm rs) tmps rs.sto.objs){t:TypeId}{x ix:Operand}(X:Ex P tmps ds w ⟨dst,.indexAddr t x ix,ty,pos,AH,gd⟩ m mk)(e:aD P ans an drawn AF DS cf tm tk ⟨dst,.indexAddr t x ix,ty,pos,AH,gd⟩ rs kp k=some r):Goal P ans an w B0 Z J ow tmps tm rs dst m mk mp kp k r:=by
 simp only[aD] at e;obtain⟨tx,BR,_⟩:=bH (ds:=ds) h x;obtain⟨ti,Nu,_⟩:=bH (ds:=ds) h ix
 split at e
 ·rename_i el hu
  obtain⟨xs,e,C9⟩:=wM BR e;obtain⟨kk,n,e,hn⟩:=eJ Nu e;obtain⟨s,hs,e⟩:=aC e;obtain⟨hg,e⟩:=aB e;obtain⟨v,hv,e⟩:=aC e;obtain⟨DX,e2⟩:=aB e;have h0:0<=n:=by simpa using hg
  have CI:v.cells.length=s:=Aa DX;generalize DW:(⟨tmps,ds⟩:Act).eval x=vx at C9;cases C9 with
  |slice _ a len cap s' hl hc hx =>
   obtain⟨h1,b,o,rfl,h3⟩:=hx _ v hv;have AR:n.toNat < len:=by rw[<-hl];exact(Ab.1 hv).1
   have HO:s'=s:=by rw[<-h1,CI]
   subst HO;refine .val h e2 (.cptr v b (o+n.toNat * s') λj c hj=>h3 j c hj) (X.val _ _ ?_);simp[execOp,ev,DW,hn,Instr.indexAt,asIntOf,run_underlying hu,h0,show n<(len:Int) by omega,run_sizeOf hs,cF]
 ·rename_i len el hu
  obtain⟨p,e,hp⟩:=j5 (ds:=ds) h e;obtain⟨kk,n,e,hn⟩:=eJ Nu e;obtain⟨s,hs,e⟩:=aC e;obtain⟨hg,e⟩:=aB e;simp only[Ac,Am] at hg;have e':oa rs p (n.toNat * s) s (bO P el) k=some r:=by cases p<;>exact e
  obtain⟨b,o,hv,Pe⟩:=vm (m:=m) (mk:=mk) (mp:=mp) (kp:=kp) (dst:=dst) h hp e';refine Pe (X.val _ _ ?_);simp[execOp,ev,hv,hn,Instr.indexAt,asIntOf,run_underlying hu,Instr.sureAddr,hg.1,hg.2,run_sizeOf hs,cF]
 ·cases e
theorem aFt(h:Rel P ans B0 w Z J ow an (sl an tm rs) tmps rs.sto.objs){t:TypeId}{x ix:Operand}(X:Ex P tmps ds w ⟨dst,.index t x ix,ty,pos,AH,gd⟩ m mk)(e:aD P ans an drawn AF DS cf tm tk ⟨dst,.index t x ix,ty,pos,AH,gd⟩ rs kp k=some r):Goal P ans an w B0 Z J ow tmps tm rs dst m mk mp kp k r:=by
 simp only[aD] at e;obtain⟨tx,BR,_⟩:=bH (ds:=ds) h x;obtain⟨ti,Nu,_⟩:=bH (ds:=ds) h ix
 split at e
 ·rename_i s hu hx
  obtain⟨kk,n,e,hn⟩:=eJ Nu e;obtain⟨hg,e⟩:=aB e;obtain⟨b,hb,e⟩:=aC e;have h0:0<=n:=by simpa using hg
  rw[hx] at BR;generalize DW:(⟨tmps,ds⟩:Act).eval x=vx at BR;cases BR with
  |val _ _ hv=>cases hv with
   |str =>
    have AR:n.toNat < s.length:=(Ab.1 hb).1
    have JK:(⟨⟨s⟩⟩:ByteArray)[n.toNat]?=some b:=by
     have BG:n.toNat < (⟨⟨s⟩⟩:ByteArray).size:=AR;rw[ByteArray.getElem?_lt' _ _ BG]
     have:s[n.toNat]=b:=(Ab.1 hb).2
     rw[<-this];rfl
    exact .val h e (.int _ _) (X.val _ _ (by simp[execOp,ev,DW,hn,Instr.index,asIntOf,run_underlying hu,h0,JK]))
 ·rename_i len el cs hu hx
  obtain⟨kk,n,e,hn⟩:=eJ Nu e;obtain⟨s,hs,e⟩:=aC e;obtain⟨agg,ha,e⟩:=aC e;obtain⟨hg,e⟩:=aB e;simp only[Ac,Am] at hg;obtain⟨u,EA,e⟩:=aC e;rw[hx] at BR;generalize DW:(⟨tmps,ds⟩:Act).eval x=vx at BR;cases BR with
  |val _ _ hv =>
   have FW:=hv;cases hv with
   |agg _ vs hl hk hxx =>
    obtain⟨z,hz,HE⟩:=zS (P:=P) (w:=w) FW ha hs EA;exact .val h e HE (X.val _ _ (by simp[execOp,ev,DW,hn,Instr.index,asIntOf,run_underlying hu,hg.1,hg.2,run_sizeOf hs,hz]))
 ·rename_i len el cs hu hx
  obtain⟨kk,n,e,hn⟩:=eJ Nu e;obtain⟨s,hs,e⟩:=aC e;obtain⟨agg,ha,e⟩:=aC e;obtain⟨hg,e⟩:=aB e;simp only[Ac,Am] at hg;obtain⟨u,EA,e⟩:=aC e;rw[hx] at BR;generalize DW:(⟨tmps,ds⟩:Act).eval x=vx at BR;cases BR with
  |cells _ vs hv =>
   obtain⟨z,hz,HE⟩:=zS (P:=P) (w:=w) hv.agg ha hs EA;exact .val h e HE (X.val _ _ (by simp[execOp,ev,DW,hn,Instr.index,asIntOf,run_underlying hu,hg.1,hg.2,run_sizeOf hs,hz]))
 ·cases e
theorem uJ(h:Rel P ans B0 w Z J ow an (sl an tm rs) tmps rs.sto.objs){t:TypeId}{x:Operand}(X:Ex P tmps ds w ⟨dst,.makeInterface t x,ty,pos,AH,gd⟩ m mk)(e:aD P ans an drawn AF DS cf tm tk ⟨dst,.makeInterface t x,ty,pos,AH,gd⟩ rs kp k=some r):Goal P ans an w B0 Z J ow tmps tm rs dst m mk mp kp k r:=by
 simp only[aD] at e;obtain⟨tx,BR,_⟩:=bH (ds:=ds) h x
 split at e
 ·cases e
 ·rename_i d hd hu
  obtain⟨y,e,hy⟩:=jK BR e;refine .val h e (.iface t y _ hy) (X.val _ _ ?_);simp only[execOp,Instr.makeInterface,Sem.run_bind,run_underlying hu,Result.andThen_ok];cases d<;>first|rfl|exact absurd rfl (hd _)
 ·cases e
theorem qt(h:Rel P ans B0 w Z J ow an (sl an tm rs) tmps rs.sto.objs):∀{xs:List Operand}{k:List AVal->Option R},nG an.keep tm rs xs k=some r ->
  ∃l,k l=some r/\l.length=xs.length/\∀(i:Nat) c v,l[i]?=some c->(xs.map (ev tmps ds))[i]?=some v->VRel Z J c v
 |[],k,e=>⟨[],e,rfl,λi c v hc=>by simp at hc⟩
 |x::xs,k,e=>by
  obtain⟨tx,BR,_⟩:=bH (ds:=ds) h x;simp only[nG] at e;obtain⟨y,e,hy⟩:=jK BR e;obtain⟨l,e,h1,h2⟩:=qt h e;refine⟨y::l,e,by simp[h1],λi c v hc hv=>?_⟩;cases i with
  |zero=>simp at hc hv;subst hc;subst hv;exact hy
  |succ i=>simp only[Ep,Aw] at hc hv;exact h2 i c v hc hv
theorem ug(h:Rel P ans B0 w Z J ow an (sl an tm rs) tmps rs.sto.objs){fn:Fn}{first caps:Array Operand}(X:Ex P tmps ds w ⟨dst,.makeFunc fn first caps,ty,pos,AH,gd⟩ m mk)(e:aD P ans an drawn AF DS cf tm tk ⟨dst,.makeFunc fn first caps,ty,pos,AH,gd⟩ rs kp k=some r):Goal P ans an w B0 Z J ow tmps tm rs dst m mk mp kp k r:=by
 simp only[aD] at e
 split at e
 ·rename_i f hf
  obtain⟨l,e,h1,h2⟩:=qt (ds:=ds) h e
  have D5:first=#[]:=by
   apply Cg;simpa using hf
  subst D5;refine .val h e (.func f l (caps.toList.map (ev tmps ds)) (by simp[h1]) h2) (X.val _ _ ?_)
  have:caps.map (ev tmps ds)=⟨caps.toList.map (ev tmps ds)⟩:=by apply Cg;simp
  simp[execOp,Instr.makeFunc,this]
 ·cases e
theorem yo(h:Rel P ans B0 w Z J ow an (sl an tm rs) tmps rs.sto.objs){t:Operand}{i:Nat}(X:Ex P tmps ds w ⟨dst,.extract t i,ty,pos,AH,gd⟩ m mk)(e:aD P ans an drawn AF DS cf tm tk ⟨dst,.extract t i,ty,pos,AH,gd⟩ rs kp k=some r):Goal P ans an w B0 Z J ow tmps tm rs dst m mk mp kp k r:=by
 simp only[aD] at e;obtain⟨tx,BR,_⟩:=bH (ds:=ds) h t
 split at e
 ·rename_i vs hx
  obtain⟨v,hv,e⟩:=aC e;rw[hx] at BR;generalize DW:(⟨tmps,ds⟩:Act).eval t=vx at BR;cases BR with
  |tup _ us hl hr =>
   have hi:i<us.length:=by rw[<-hl];exact(Ab.1 hv).1
   exact .val h e (hr i v us[i] hv (by simp[hi])) (X.val _ _ (by simp[execOp,ev,DW,Instr.extract,hi]))
 ·cases e
end Go.AM
